-- PRINTED by print.py (a twelfth state) out of the translation. Not trusted: Lean checks it.
import Derived.Test.YtnpbhippkcikoaaPA0
import Derived.Test.YtnpbhippkcikoaaSq
import Derived.Test.YtnpbhippkcikoaaPA2
import Derived.Test.YtnpbhippkcikoaaPA5
namespace Go.Proofs.Ytnpbhippkcikoaa.PA
open Go.RowKit Go.Proofs.YtnpbhippkcikoaaW.PrintWords Go.Proofs.YtnpbhippkcikoaaW.PrintLast Go.Proofs.YtnpbhippkcikoaaW.PrintMore
attribute [local go_sem] max2_int min2_int max_two min_two max_three min_three max_four min_four   -- for this text's walks alone
set_option linter.unusedVariables false
set_option linter.unusedSimpArgs false

attribute [local go_sem high] eqA49
/-! ### value_pointers: function 28 -/
mutual
def value_pointers.j0 : Nat → Int → Bool → Int → Int → Int → Int → Int → Int → Int → Int → Option (Int × Int × Int × Int)
 | 0, _, _, _, _, _, _, _, _, _, _ => none
 | k + 1, x0, x14, x112000, x112001, x112002, x113000, x113001, x113002, x117000, x117001 => if x14 = true then ((value_moved.f x112000 x112001 x112002 x113001).bind fun bt117 => (some (bt117.1, bt117.2.1, bt117.2.2, 0))) else (if x0 = 0 then (value_pointers.j1 k x0 (x117000 == 1 && (x117001 == 2)) x112000 x112001 x112002 x113000 x113001 x113002 x117000 x117001) else (value_pointers.j1 k x0 false x112000 x112001 x112002 x113000 x113001 x113002 x117000 x117001))
def value_pointers.j1 : Nat → Int → Bool → Int → Int → Int → Int → Int → Int → Int → Int → Option (Int × Int × Int × Int)
 | 0, _, _, _, _, _, _, _, _, _, _ => none
 | k + 1, x0, x26, x112000, x112001, x112002, x113000, x113001, x113002, x117000, x117001 => if x26 = true then ((value_moved.f x113000 x113001 x113002 x112001).bind fun bt120 => (some (bt120.1, bt120.2.1, bt120.2.2, 0))) else (if x0 = 1 then (if (x117000 == 2 && (x117001 == 1)) = true then ((value_moved.f x112000 x112001 x112002 (IntKind.u64.wrap (-x113001))).bind fun bt123 => (some (bt123.1, bt123.2.1, bt123.2.2, 0))) else (some (0, 0, 0, 21))) else (some (0, 0, 0, 21)))
end
def value_pointers.f (k : Nat) (a0 : Int) (a1_0 : Int) (a1_1 : Int) (a1_2 : Int) (a2_0 : Int) (a2_1 : Int) (a2_2 : Int) : Option (Int × Int × Int × Int) := (value_side.f a1_0 a1_1 a1_2).bind fun t114 => ((value_side.f a2_0 a2_1 a2_2).bind fun t115 => (if a0 = 0 then (value_pointers.j0 k a0 (t114 == 2 && (t115 == 1)) a1_0 a1_1 a1_2 a2_0 a2_1 a2_2 t114 t115) else (value_pointers.j0 k a0 false a1_0 a1_1 a1_2 a2_0 a2_1 a2_2 t114 t115)))
theorem value_pointers.mono_l : ∀ k, (∀ y0 y1 y2 y3 y4 y5 y6 y7 y8 y9, LeO (value_pointers.j0 k y0 y1 y2 y3 y4 y5 y6 y7 y8 y9) (value_pointers.j0 (k + 1) y0 y1 y2 y3 y4 y5 y6 y7 y8 y9)) ∧ (∀ y0 y1 y2 y3 y4 y5 y6 y7 y8 y9, LeO (value_pointers.j1 k y0 y1 y2 y3 y4 y5 y6 y7 y8 y9) (value_pointers.j1 (k + 1) y0 y1 y2 y3 y4 y5 y6 y7 y8 y9))
 | 0 => ⟨fun _ _ _ _ _ _ _ _ _ _ r h => by simp [value_pointers.j0] at h, fun _ _ _ _ _ _ _ _ _ _ r h => by simp [value_pointers.j1] at h⟩
 | k + 1 => by
  obtain ⟨ih0, ih1⟩ := value_pointers.mono_l k
  refine ⟨?_, ?_⟩
  ·intro y0 y1 y2 y3 y4 y5 y6 y7 y8 y9
   unfold value_pointers.j0
   repeat' first
   | (with_reducible exact ih0 _ _ _ _ _ _ _ _ _ _)
   | (with_reducible exact ih1 _ _ _ _ _ _ _ _ _ _)
   | (with_reducible exact LeO.refl _)
   | (with_reducible exact LeO.none _)
   | (with_reducible refine LeO.ite ?_ ?_)
   | (with_reducible refine LeO.bind ?_ (fun _ => ?_))
   | exact ih0 _ _ _ _ _ _ _ _ _ _
   | exact ih1 _ _ _ _ _ _ _ _ _ _
   | exact LeO.none _
   | refine LeO.ite ?_ ?_
   | refine LeO.bind ?_ (fun _ => ?_)
  ·intro y0 y1 y2 y3 y4 y5 y6 y7 y8 y9
   unfold value_pointers.j1
   repeat' first
   | (with_reducible exact ih0 _ _ _ _ _ _ _ _ _ _)
   | (with_reducible exact ih1 _ _ _ _ _ _ _ _ _ _)
   | (with_reducible exact LeO.refl _)
   | (with_reducible exact LeO.none _)
   | (with_reducible refine LeO.ite ?_ ?_)
   | (with_reducible refine LeO.bind ?_ (fun _ => ?_))
   | exact ih0 _ _ _ _ _ _ _ _ _ _
   | exact ih1 _ _ _ _ _ _ _ _ _ _
   | exact LeO.none _
   | refine LeO.ite ?_ ?_
   | refine LeO.bind ?_ (fun _ => ?_)
theorem value_pointers.mono : ∀ a0 a1 a2 a3 a4 a5 a6 k, LeO (value_pointers.f k a0 a1 a2 a3 a4 a5 a6) (value_pointers.f (k + 1) a0 a1 a2 a3 a4 a5 a6) := by
 intro a0 a1 a2 a3 a4 a5 a6 k
 obtain ⟨ih0, ih1⟩ := value_pointers.mono_l k
 unfold value_pointers.f
 repeat' first
  | (with_reducible exact ih0 _ _ _ _ _ _ _ _ _ _)
  | (with_reducible exact ih1 _ _ _ _ _ _ _ _ _ _)
  | (with_reducible exact LeO.refl _)
  | (with_reducible exact LeO.none _)
  | (with_reducible refine LeO.ite ?_ ?_)
  | (with_reducible refine LeO.bind ?_ (fun _ => ?_))
  | exact ih0 _ _ _ _ _ _ _ _ _ _
  | exact ih1 _ _ _ _ _ _ _ _ _ _
  | exact LeO.none _
  | refine LeO.ite ?_ ?_
  | refine LeO.bind ?_ (fun _ => ?_)
set_option maxHeartbeats 8000000 in
set_option maxRecDepth 100000 in
theorem value_pointers.calls (k : Nat) (a0 : Int) (a1_0 : Int) (a1_1 : Int) (a1_2 : Int) (a2_0 : Int) (a2_1 : Int) (a2_2 : Int) (r1 : Int) (r2 : Int) (r3 : Int) (r4 : Int) (w : World) (h : value_pointers.f k a0 a1_0 a1_1 a1_2 a2_0 a2_1 a2_2 = some (r1, r2, r3, r4)) :
 Calls Try.prog 28 #[.int .i64 a0, .agg #[.int .i64 a1_0, .int .u64 a1_1, .int .i64 a1_2], .agg #[.int .i64 a2_0, .int .u64 a2_1, .int .i64 a2_2]] w fun e w' => e = .returned (.tuple #[.agg #[.int .i64 r1, .int .u64 r2, .int .i64 r3], .int .i64 r4]) ∧ Below w.heap.size w w' := by
 have hu24 := Try.underlying24
 have hu49 := Try.underlying49
 have HB := Aside0.mk (Below.refl w.heap.size w)
 have H : ((value_side.f a1_0 a1_1 a1_2).bind fun t114 => ((value_side.f a2_0 a2_1 a2_2).bind fun t115 => (if a0 = 0 then (value_pointers.j0 k a0 (t114 == 2 && (t115 == 1)) a1_0 a1_1 a1_2 a2_0 a2_1 a2_2 t114 t115) else (value_pointers.j0 k a0 false a1_0 a1_1 a1_2 a2_0 a2_1 a2_2 t114 t115)))) = some (r1, r2, r3, r4) := h
 clear h
 replace H := Option.bind_eq_some_iff.mp H
 obtain ⟨t114, A40, H⟩ := H
 replace H : ((value_side.f a2_0 a2_1 a2_2).bind fun t115 => (if a0 = 0 then (value_pointers.j0 k a0 (t114 == 2 && (t115 == 1)) a1_0 a1_1 a1_2 a2_0 a2_1 a2_2 t114 t115) else (value_pointers.j0 k a0 false a1_0 a1_1 a1_2 a2_0 a2_1 a2_2 t114 t115))) = some (r1, r2, r3, r4) := H
 have A4 := Aside0.mk A40
 clear A40
 replace H := Option.bind_eq_some_iff.mp H
 obtain ⟨t115, A50, H⟩ := H
 replace H : (if a0 = 0 then (value_pointers.j0 k a0 (t114 == 2 && (t115 == 1)) a1_0 a1_1 a1_2 a2_0 a2_1 a2_2 t114 t115) else (value_pointers.j0 k a0 false a1_0 a1_1 a1_2 a2_0 a2_1 a2_2 t114 t115)) = some (r1, r2, r3, r4) := H
 have A5 := Aside0.mk A50
 clear A50
 have HC6 := Aside0.mk H
 clear H
 go_enter Try.func28, Try.ntmps28
 try go_wp2_with (first | ((with_reducible refine gate_dst (N := 4) rfl ?_); refine bx_ 4 #[.int .i64 a1_0, .int .u64 a1_1, .int .i64 a1_2] 24 ?_; intro gb111 hg w7 BK111 hb; have GW111 := bg_ hg; have GE111 := GW111; replace HB := bl_ hb; clear hb hg) | ((with_reducible refine gate_dst (N := 5) rfl ?_); refine bx_ 5 #[.int .i64 a2_0, .int .u64 a2_1, .int .i64 a2_2] 24 ?_; intro gb112 hg w8 BK112 hb; have GW112 := bg_ hg; have GE112 := GW112; have NB111_112 := bm_ hg BK111; have NB112_111 := bn_ hg BK111; replace BK111 := bb_ hb BK111; replace HB := bl_ hb; clear hb hg) | ((with_reducible refine gate_dst (N := 6) rfl ?_); refine bx_ 6 #[.int .i64 0, .int .u64 0, .int .i64 0] 24 ?_; intro gb113 hg w9 BK113 hb; have GW113 := bg_ hg; have GE113 := GW113; have NB111_113 := bm_ hg BK111; have NB113_111 := bn_ hg BK111; have NB112_113 := bm_ hg BK112; have NB113_112 := bn_ hg BK112; replace BK111 := bb_ hb BK111; replace BK112 := bb_ hb BK112; replace HB := bl_ hb; clear hb hg))
 replace BK111 := Aside0.mk (blk_drew BK111.out)
 replace BK112 := Aside0.mk (blk_drew BK112.out)
 replace BK113 := Aside0.mk (blk_drew BK113.out)
 replace HB := Aside0.mk (below_drew1 HB.out)
 refine start_ (n := 7) (S := fun w' => w'.cell? ⟨gb111, 0, none⟩ = some (.int .i64 a1_0) ∧ w'.cell? ⟨gb111, 1, none⟩ = some (.int .u64 a1_1) ∧ w'.cell? ⟨gb111, 2, none⟩ = some (.int .i64 a1_2) ∧ w'.cell? ⟨gb112, 0, none⟩ = some (.int .i64 a2_0) ∧ w'.cell? ⟨gb112, 1, none⟩ = some (.int .u64 a2_1) ∧ w'.cell? ⟨gb112, 2, none⟩ = some (.int .i64 a2_2)) (ds := []) #[n_,n_,n_,n_,n_,n_,n_] (by kernel_rfl) rfl rfl ⟨c0_ BK111, c1_ BK111, c2_ BK111, c0_ BK112, c1_ BK112, c2_ BK112⟩ (fun hHeld => ?_)
 generalize w9.drew = w10 at BK111 BK112 BK113 HB hHeld ⊢
 refine take_ (i := 0) (N := some 9) (v := ?_) (a' := ?_) #[y_,n_,n_,n_,n_,n_,n_] rfl rfl (by kernel_rfl) (fun _ _ _ h => h) (Or.inl ⟨by rfl, ?_⟩) hHeld ?_ ?_
 rotate_left
 ·rintro w' ⟨s0, s1, s2, s3, s4, s5⟩
  go_simp
  with_reducible rfl
 rotate_left
 ·simp only [Act.put, s1_, s2_, s3_, i64_w, i32_w]
  rfl
 refine take_ (i := 2) (N := some 11) (v := ?_) (a' := ?_) #[y_,n_,y_,n_,n_,n_,n_] rfl rfl (by kernel_rfl) (fun _ _ _ h => h) (Or.inl ⟨by rfl, ?_⟩) hHeld ?_ ?_
 rotate_left
 ·rintro w' ⟨s0, s1, s2, s3, s4, s5⟩
  go_simp
  with_reducible rfl
 rotate_left
 ·simp only [Act.put, s1_, s2_, s3_, i64_w, i32_w]
  rfl
 refine join_ (σ := Nat) 1 #[y_,y_,y_,y_,y_,y_,n_] (fun s_ => [(10, .int .i64 t114), (12, .int .i64 t115), (8, .pointer (some ⟨s_, 0, none⟩)), (13, .agg #[.int .i64 t114, .int .i64 t115])]) (fun s_ w' => (w'.cell? ⟨gb111, 0, none⟩ = some (.int .i64 a1_0) ∧ w'.cell? ⟨gb111, 1, none⟩ = some (.int .u64 a1_1) ∧ w'.cell? ⟨gb111, 2, none⟩ = some (.int .i64 a1_2) ∧ w'.cell? ⟨gb112, 0, none⟩ = some (.int .i64 a2_0) ∧ w'.cell? ⟨gb112, 1, none⟩ = some (.int .u64 a2_1) ∧ w'.cell? ⟨gb112, 2, none⟩ = some (.int .i64 a2_2)) ∧ (w'.heap[gb111]? = some (.cells #[.int .i64 a1_0, .int .u64 a1_1, .int .i64 a1_2] 24 (0, 0))) ∧ (w'.heap[gb112]? = some (.cells #[.int .i64 a2_0, .int .u64 a2_1, .int .i64 a2_2] 24 (0, 0))) ∧ (w'.heap[gb113]? = some (.cells #[.int .i64 0, .int .u64 0, .int .i64 0] 24 (0, 0))) ∧ (w'.heap[s_]? = some (.cells #[.int .i64 0, .int .i64 0] 49 (0, 0))) ∧ (w.heap.size ≤ s_) ∧ (w.heap.size ≤ s_) ∧ (gb111 ≠ s_) ∧ (s_ ≠ gb111) ∧ (gb112 ≠ s_) ∧ (s_ ≠ gb112) ∧ (gb113 ≠ s_) ∧ (s_ ≠ gb113) ∧ (Below w.heap.size w w')) ?_ ?_
 rotate_left
 ·intro hCont
  refine two_ (i := 1) (j := 5) (Ni := some 10) (Nj := some 8) #[y_,y_,y_,n_,n_,n_,n_] #[y_,n_,y_,n_,n_,y_,n_] rfl rfl rfl rfl (by kernel_rfl) (by decide) (by decide) (fun K hK => ?_) (fun K hK => ?_)
  ·skip
   refine goes_ Try.func27 (by kernel_rfl) rfl #[.agg #[.int .i64 a1_0, .int .u64 a1_1, .int .i64 a1_2]] (by rfl) rfl rfl mp_ ?_
   with_reducible refine (value_side.calls a1_0 a1_1 a1_2 t114 _ A4.out).mono ?_
   rintro e w11 ⟨rfl, hb⟩
   refine ⟨_, rfl, ?_⟩
   replace BK111 := bb_ hb BK111
   replace BK112 := bb_ hb BK112
   replace BK113 := bb_ hb BK113
   replace HB := bl_ hb
   try clear hb
   refine hK.out _ _ ⟨c0_ BK111, c1_ BK111, c2_ BK111, c0_ BK112, c1_ BK112, c2_ BK112⟩ (fun hHeld => ?_)
   clear hK K
   refine norm_ (a' := ?_) ?_ ?_
   rotate_left
   ·show Act.put _ (some 10) _ = _
    simp only [Act.put, s1_, s2_, s3_, i64_w, i32_w]
    rfl
   refine two_ (i := 3) (j := 5) (Ni := some 12) (Nj := some 8) #[y_,y_,y_,y_,n_,n_,n_] #[y_,y_,y_,n_,n_,y_,n_] rfl rfl rfl rfl (by kernel_rfl) (by decide) (by decide) (fun K hK => ?_) (fun K hK => ?_)
   ·skip
    refine goes_ Try.func27 (by kernel_rfl) rfl #[.agg #[.int .i64 a2_0, .int .u64 a2_1, .int .i64 a2_2]] (by rfl) rfl rfl mp_ ?_
    with_reducible refine (value_side.calls a2_0 a2_1 a2_2 t115 _ A5.out).mono ?_
    rintro e w12 ⟨rfl, hb⟩
    refine ⟨_, rfl, ?_⟩
    replace BK111 := bb_ hb BK111
    replace BK112 := bb_ hb BK112
    replace BK113 := bb_ hb BK113
    replace HB := bl_ hb
    try clear hb
    refine hK.out _ _ ⟨c0_ BK111, c1_ BK111, c2_ BK111, c0_ BK112, c1_ BK112, c2_ BK112⟩ (fun hHeld => ?_)
    clear hK K
    refine norm_ (a' := ?_) ?_ ?_
    rotate_left
    ·show Act.put _ (some 12) _ = _
     simp only [Act.put, s1_, s2_, s3_, i64_w, i32_w]
     rfl
    refine pure_ (i := 4) (N := some 13) (v := ?_) (a' := ?_) #[y_,y_,y_,y_,y_,n_,n_] rfl rfl (by kernel_rfl) (fun _ _ _ h => h) (Or.inl ⟨by rfl, ?_⟩) ?_ ?_
    rotate_left
    ·intro w'
     go_simp
     with_reducible rfl
    rotate_left
    ·simp only [Act.put, s1_, s2_, s3_, i64_w, i32_w]
     rfl
    refine one_ (i := 5) (N := some 8) #[y_,y_,y_,y_,y_,y_,n_] rfl rfl (by kernel_rfl) (by decide) (fun K hK => ?_)
    refine box_step ?hg (N := 8) ?hd (cs := #[.int .i64 0, .int .i64 0]) (t := 49) ?hr ?_; (case hd => rfl); (case hg => rfl); (case hr => first | (go_simp; done) | (go_simp; rfl))
    intro gb116 hg w13 hbox hb
    have BK116 := Aside0.mk (hbox)
    have GW116 := bg_ hg
    have GE116 := GW116
    have NB111_116 := bm_ hg BK111
    have NB116_111 := bn_ hg BK111
    have NB112_116 := bm_ hg BK112
    have NB116_112 := bn_ hg BK112
    have NB113_116 := bm_ hg BK113
    have NB116_113 := bn_ hg BK113
    replace BK111 := bb_ hb BK111
    replace BK112 := bb_ hb BK112
    replace BK113 := bb_ hb BK113
    replace HB := bl_ hb
    clear hb hbox hg
    refine hK.out _ _ ⟨c0_ BK111, c1_ BK111, c2_ BK111, c0_ BK112, c1_ BK112, c2_ BK112⟩ (fun hHeld => ?_)
    clear hK K
    refine norm_ (a' := ?_) ?_ ?_
    rotate_left
    ·show Act.put _ (some 8) _ = _
     simp only [Act.put, s1_, s2_, s3_, i64_w, i32_w]
     rfl
    exact norm_ (by simp only [putAll, Act.put, List.setIfInBounds_toArray, List.set_cons_zero, List.set_cons_succ]) (hCont (gb116) _ ⟨hHeld, bk_, bk_, bk_, bk_, GW116.out, GE116.out, NB111_116.out, NB116_111.out, NB112_116.out, NB116_112.out, NB113_116.out, NB116_113.out, bz_⟩)
   ·skip
    refine box_step ?hg (N := 8) ?hd (cs := #[.int .i64 0, .int .i64 0]) (t := 49) ?hr ?_; (case hd => rfl); (case hg => rfl); (case hr => first | (go_simp; done) | (go_simp; rfl))
    intro gb116 hg w12 hbox hb
    have BK116 := Aside0.mk (hbox)
    have GW116 := bg_ hg
    have GE116 := GW116
    have NB111_116 := bm_ hg BK111
    have NB116_111 := bn_ hg BK111
    have NB112_116 := bm_ hg BK112
    have NB116_112 := bn_ hg BK112
    have NB113_116 := bm_ hg BK113
    have NB116_113 := bn_ hg BK113
    replace BK111 := bb_ hb BK111
    replace BK112 := bb_ hb BK112
    replace BK113 := bb_ hb BK113
    replace HB := bl_ hb
    clear hb hbox hg
    refine hK.out _ _ ⟨c0_ BK111, c1_ BK111, c2_ BK111, c0_ BK112, c1_ BK112, c2_ BK112⟩ (fun hHeld => ?_)
    clear hK K
    refine norm_ (a' := ?_) ?_ ?_
    rotate_left
    ·show Act.put _ (some 8) _ = _
     simp only [Act.put, s1_, s2_, s3_, i64_w, i32_w]
     rfl
    refine one_ (i := 3) (N := some 12) #[y_,y_,y_,y_,n_,y_,n_] rfl rfl (by kernel_rfl) (by decide) (fun K hK => ?_)
    refine goes_ Try.func27 (by kernel_rfl) rfl #[.agg #[.int .i64 a2_0, .int .u64 a2_1, .int .i64 a2_2]] (by rfl) rfl rfl mp_ ?_
    with_reducible refine (value_side.calls a2_0 a2_1 a2_2 t115 _ A5.out).mono ?_
    rintro e w13 ⟨rfl, hb⟩
    refine ⟨_, rfl, ?_⟩
    replace BK111 := bb_ hb BK111
    replace BK112 := bb_ hb BK112
    replace BK113 := bb_ hb BK113
    replace BK116 := bb_ hb BK116
    replace HB := bl_ hb
    try clear hb
    refine hK.out _ _ ⟨c0_ BK111, c1_ BK111, c2_ BK111, c0_ BK112, c1_ BK112, c2_ BK112⟩ (fun hHeld => ?_)
    clear hK K
    refine norm_ (a' := ?_) ?_ ?_
    rotate_left
    ·show Act.put _ (some 12) _ = _
     simp only [Act.put, s1_, s2_, s3_, i64_w, i32_w]
     rfl
    refine pure_ (i := 4) (N := some 13) (v := ?_) (a' := ?_) #[y_,y_,y_,y_,y_,y_,n_] rfl rfl (by kernel_rfl) (fun _ _ _ h => h) (Or.inl ⟨by rfl, ?_⟩) ?_ ?_
    rotate_left
    ·intro w'
     go_simp
     with_reducible rfl
    rotate_left
    ·simp only [Act.put, s1_, s2_, s3_, i64_w, i32_w]
     rfl
    exact norm_ (by simp only [putAll, Act.put, List.setIfInBounds_toArray, List.set_cons_zero, List.set_cons_succ]) (hCont (gb116) _ ⟨hHeld, bk_, bk_, bk_, bk_, GW116.out, GE116.out, NB111_116.out, NB116_111.out, NB112_116.out, NB116_112.out, NB113_116.out, NB116_113.out, bz_⟩)
  ·skip
   refine box_step ?hg (N := 8) ?hd (cs := #[.int .i64 0, .int .i64 0]) (t := 49) ?hr ?_; (case hd => rfl); (case hg => rfl); (case hr => first | (go_simp; done) | (go_simp; rfl))
   intro gb116 hg w11 hbox hb
   have BK116 := Aside0.mk (hbox)
   have GW116 := bg_ hg
   have GE116 := GW116
   have NB111_116 := bm_ hg BK111
   have NB116_111 := bn_ hg BK111
   have NB112_116 := bm_ hg BK112
   have NB116_112 := bn_ hg BK112
   have NB113_116 := bm_ hg BK113
   have NB116_113 := bn_ hg BK113
   replace BK111 := bb_ hb BK111
   replace BK112 := bb_ hb BK112
   replace BK113 := bb_ hb BK113
   replace HB := bl_ hb
   clear hb hbox hg
   refine hK.out _ _ ⟨c0_ BK111, c1_ BK111, c2_ BK111, c0_ BK112, c1_ BK112, c2_ BK112⟩ (fun hHeld => ?_)
   clear hK K
   refine norm_ (a' := ?_) ?_ ?_
   rotate_left
   ·show Act.put _ (some 8) _ = _
    simp only [Act.put, s1_, s2_, s3_, i64_w, i32_w]
    rfl
   refine one_ (i := 1) (N := some 10) #[y_,y_,y_,n_,n_,y_,n_] rfl rfl (by kernel_rfl) (by decide) (fun K hK => ?_)
   refine goes_ Try.func27 (by kernel_rfl) rfl #[.agg #[.int .i64 a1_0, .int .u64 a1_1, .int .i64 a1_2]] (by rfl) rfl rfl mp_ ?_
   with_reducible refine (value_side.calls a1_0 a1_1 a1_2 t114 _ A4.out).mono ?_
   rintro e w12 ⟨rfl, hb⟩
   refine ⟨_, rfl, ?_⟩
   replace BK111 := bb_ hb BK111
   replace BK112 := bb_ hb BK112
   replace BK113 := bb_ hb BK113
   replace BK116 := bb_ hb BK116
   replace HB := bl_ hb
   try clear hb
   refine hK.out _ _ ⟨c0_ BK111, c1_ BK111, c2_ BK111, c0_ BK112, c1_ BK112, c2_ BK112⟩ (fun hHeld => ?_)
   clear hK K
   refine norm_ (a' := ?_) ?_ ?_
   rotate_left
   ·show Act.put _ (some 10) _ = _
    simp only [Act.put, s1_, s2_, s3_, i64_w, i32_w]
    rfl
   refine one_ (i := 3) (N := some 12) #[y_,y_,y_,y_,n_,y_,n_] rfl rfl (by kernel_rfl) (by decide) (fun K hK => ?_)
   refine goes_ Try.func27 (by kernel_rfl) rfl #[.agg #[.int .i64 a2_0, .int .u64 a2_1, .int .i64 a2_2]] (by rfl) rfl rfl mp_ ?_
   with_reducible refine (value_side.calls a2_0 a2_1 a2_2 t115 _ A5.out).mono ?_
   rintro e w13 ⟨rfl, hb⟩
   refine ⟨_, rfl, ?_⟩
   replace BK111 := bb_ hb BK111
   replace BK112 := bb_ hb BK112
   replace BK113 := bb_ hb BK113
   replace BK116 := bb_ hb BK116
   replace HB := bl_ hb
   try clear hb
   refine hK.out _ _ ⟨c0_ BK111, c1_ BK111, c2_ BK111, c0_ BK112, c1_ BK112, c2_ BK112⟩ (fun hHeld => ?_)
   clear hK K
   refine norm_ (a' := ?_) ?_ ?_
   rotate_left
   ·show Act.put _ (some 12) _ = _
    simp only [Act.put, s1_, s2_, s3_, i64_w, i32_w]
    rfl
   refine pure_ (i := 4) (N := some 13) (v := ?_) (a' := ?_) #[y_,y_,y_,y_,y_,y_,n_] rfl rfl (by kernel_rfl) (fun _ _ _ h => h) (Or.inl ⟨by rfl, ?_⟩) ?_ ?_
   rotate_left
   ·intro w'
    go_simp
    with_reducible rfl
   rotate_left
   ·simp only [Act.put, s1_, s2_, s3_, i64_w, i32_w]
    rfl
   exact norm_ (by simp only [putAll, Act.put, List.setIfInBounds_toArray, List.set_cons_zero, List.set_cons_succ]) (hCont (gb116) _ ⟨hHeld, bk_, bk_, bk_, bk_, GW116.out, GE116.out, NB111_116.out, NB116_111.out, NB112_116.out, NB116_112.out, NB113_116.out, NB116_113.out, bz_⟩)
 rintro gb116 w14 ⟨hS_, h0_, h1_, h2_, h3_, h4_, h5_, h6_, h7_, h8_, h9_, h10_, h11_, h12_⟩
 have n0_ : Aside0 (w14.heap[gb111]? = some (.cells #[.int .i64 a1_0, .int .u64 a1_1, .int .i64 a1_2] 24 (0, 0))) := ⟨h0_⟩
 have n1_ : Aside0 (w14.heap[gb112]? = some (.cells #[.int .i64 a2_0, .int .u64 a2_1, .int .i64 a2_2] 24 (0, 0))) := ⟨h1_⟩
 have n2_ : Aside0 (w14.heap[gb113]? = some (.cells #[.int .i64 0, .int .u64 0, .int .i64 0] 24 (0, 0))) := ⟨h2_⟩
 have n3_ : Aside0 (w14.heap[gb116]? = some (.cells #[.int .i64 0, .int .i64 0] 49 (0, 0))) := ⟨h3_⟩
 have n4_ : Aside0 (w.heap.size ≤ gb116) := ⟨h4_⟩
 have n5_ : Aside0 (w.heap.size ≤ gb116) := ⟨h5_⟩
 have n6_ : Aside0 (gb111 ≠ gb116) := ⟨h6_⟩
 have n7_ : Aside0 (gb116 ≠ gb111) := ⟨h7_⟩
 have n8_ : Aside0 (gb112 ≠ gb116) := ⟨h8_⟩
 have n9_ : Aside0 (gb116 ≠ gb112) := ⟨h9_⟩
 have n10_ : Aside0 (gb113 ≠ gb116) := ⟨h10_⟩
 have n11_ : Aside0 (gb116 ≠ gb113) := ⟨h11_⟩
 have n12_ : Aside0 (Below w.heap.size w w14) := ⟨h12_⟩
 clear BK111
 clear BK112
 clear BK113
 clear HB
 clear h0_ h1_ h2_ h3_ h4_ h5_ h6_ h7_ h8_ h9_ h10_ h11_ h12_
 have BK111 := n0_
 have BK112 := n1_
 have BK113 := n2_
 have BK116 := n3_
 have GW116 := n4_
 have GE116 := n5_
 have NB111_116 := n6_
 have NB116_111 := n7_
 have NB112_116 := n8_
 have NB116_112 := n9_
 have NB113_116 := n10_
 have NB116_113 := n11_
 have HB := n12_
 clear n0_ n1_ n2_ n3_ n4_ n5_ n6_ n7_ n8_ n9_ n10_ n11_ n12_
 have hHeld : w14.cell? ⟨gb111, 0, none⟩ = some (.int .i64 a1_0) ∧ w14.cell? ⟨gb111, 1, none⟩ = some (.int .u64 a1_1) ∧ w14.cell? ⟨gb111, 2, none⟩ = some (.int .i64 a1_2) ∧ w14.cell? ⟨gb112, 0, none⟩ = some (.int .i64 a2_0) ∧ w14.cell? ⟨gb112, 1, none⟩ = some (.int .u64 a2_1) ∧ w14.cell? ⟨gb112, 2, none⟩ = some (.int .i64 a2_2) := hS_
 refine norm_ (a' := ?_) ?_ ?_
 rotate_left
 ·simp only [putAll, Act.put, List.setIfInBounds_toArray, List.set_cons_zero, List.set_cons_succ]
  rfl
 refine one_ (i := 6) (N := none) #[y_,y_,y_,y_,y_,y_,y_] rfl rfl (by kernel_rfl) (by decide) (fun K hK => ?_)
 obtain ⟨hs15, hfs15⟩ := k1_ BK116
 have hns15_0 := NB111_116.out
 have hns15_1 := NB112_116.out
 have hns15_2 := NB113_116.out
 have hms15_0 := NB116_111.out
 have hms15_1 := NB116_112.out
 have hms15_2 := NB116_113.out
 have hs16 := c1_ BK116
 have hfs16 := fz_ BK116 1
 have hns16_0 := NB111_116.out
 have hns16_1 := NB112_116.out
 have hns16_2 := NB113_116.out
 have hms16_0 := NB116_111.out
 have hms16_1 := NB116_112.out
 have hms16_2 := NB116_113.out
 refine skip_ (w1 := ?_) (by rfl) rfl ?_ ?_
 rotate_left
 ·go_simp
  rfl
 refine hK.out _ _ ⟨((cell_far (p := ⟨gb116, _, none⟩) NB111_116.out _).trans (((cell_far (p := ⟨gb116, _, none⟩) NB111_116.out _).trans (hHeld.1)))), ((cell_far (p := ⟨gb116, _, none⟩) NB111_116.out _).trans (((cell_far (p := ⟨gb116, _, none⟩) NB111_116.out _).trans (hHeld.2.1)))), ((cell_far (p := ⟨gb116, _, none⟩) NB111_116.out _).trans (((cell_far (p := ⟨gb116, _, none⟩) NB111_116.out _).trans (hHeld.2.2.1)))), ((cell_far (p := ⟨gb116, _, none⟩) NB112_116.out _).trans (((cell_far (p := ⟨gb116, _, none⟩) NB112_116.out _).trans (hHeld.2.2.2.1)))), ((cell_far (p := ⟨gb116, _, none⟩) NB112_116.out _).trans (((cell_far (p := ⟨gb116, _, none⟩) NB112_116.out _).trans (hHeld.2.2.2.2.1)))), ((cell_far (p := ⟨gb116, _, none⟩) NB112_116.out _).trans (((cell_far (p := ⟨gb116, _, none⟩) NB112_116.out _).trans (hHeld.2.2.2.2.2))))⟩ (fun hHeld => ?_)
 clear hK K
 refine done_ (by kernel_rfl) ?_
 go_upto_region 2 with (fail)
 go_cut [14] (fun v14 wc => ∃ (kq : Nat) (x14_5 : Bool), v14 = .bool x14_5 ∧ Aside0 (value_pointers.j0 kq a0 x14_5 a1_0 a1_1 a1_2 a2_0 a2_1 a2_2 t114 t115 = some (r1, r2, r3, r4)) ∧ Aside0 (kq ≤ k) ∧ Aside0 (wc.heap[gb111]? = some (.cells #[.int .i64 a1_0, .int .u64 a1_1, .int .i64 a1_2] 24 (0, 0))) ∧ Aside0 (wc.heap[gb112]? = some (.cells #[.int .i64 a2_0, .int .u64 a2_1, .int .i64 a2_2] 24 (0, 0))) ∧ Aside0 (wc.heap[gb113]? = some (.cells #[.int .i64 0, .int .u64 0, .int .i64 0] 24 (0, 0))) ∧ Aside0 (wc.heap[gb116]? = some (.cells #[.int .i64 t114, .int .i64 t115] 49 (0, 0))) ∧ Aside0 (Below w.heap.size w wc))
 case first =>
  have H := HC6.out
  clear HC6
  by_cases c17 : a0 = 0
  ·rw [if_pos c17] at H
   have c17b0 : (a0 == 0) = true := beq_iff_eq.mpr c17
   have c17b1 : (a0 != 0) = false := bne_eq_false_iff_eq.mpr c17
   clear c17
   (first | rw [c17b0] | (simp only [i64_w, i32_w]; rw [c17b0]) | skip)
   have H' := Aside0.mk H
   clear H
   have hnb18 := NB116_111.out
   have hnc18 := NB111_116.out
   have hnb19 := NB116_112.out
   have hnc19 := NB112_116.out
   have hnb20 := NB116_113.out
   have hnc20 := NB113_116.out
   obtain ⟨zc21_0, zc21_1, zf21_0, zf21_1⟩ := k2_ BK116
   go_wp2
   go_meet
   case rel => exact ⟨_, ((t114 == 2 && (t115 == 1))), (by first | rfl | (simp; done) | (simp [*]; done)), H', ⟨by first | omega | exact Nat.le_refl _⟩, ⟨by (with_reducible repeat (first | apply bN_ | apply bD_ | apply bA_)); refine blk_far ?_ NB111_116.out _; (with_reducible repeat (first | apply bN_ | apply bD_ | apply bA_)); refine blk_far ?_ NB111_116.out _; exact bk_⟩, ⟨by (with_reducible repeat (first | apply bN_ | apply bD_ | apply bA_)); refine blk_far ?_ NB112_116.out _; (with_reducible repeat (first | apply bN_ | apply bD_ | apply bA_)); refine blk_far ?_ NB112_116.out _; exact bk_⟩, ⟨by (with_reducible repeat (first | apply bN_ | apply bD_ | apply bA_)); refine blk_far ?_ NB113_116.out _; (with_reducible repeat (first | apply bN_ | apply bD_ | apply bA_)); refine blk_far ?_ NB113_116.out _; exact bk_⟩, ⟨by (with_reducible repeat (first | apply bN_ | apply bD_ | apply bA_)); refine blk_put (cs := #[.int .i64 t114, .int .i64 0]) ?_ 1 _ rfl; (with_reducible repeat (first | apply bN_ | apply bD_ | apply bA_)); refine blk_put (cs := #[.int .i64 0, .int .i64 0]) ?_ 0 _ rfl; exact bk_⟩, ⟨bz_⟩⟩
  ·rw [if_neg c17] at H
   have c17b0 : (a0 == 0) = false := beq_eq_false_iff_ne.mpr c17
   have c17b1 : (a0 != 0) = true := bne_iff_ne.mpr c17
   (first | rw [c17b0] | (simp only [i64_w, i32_w]; rw [c17b0]) | skip)
   have H' := Aside0.mk H
   clear H
   go_wp2
   go_meet
   case rel => exact ⟨_, (false), (by first | rfl | (simp; done) | (simp [*]; done)), H', ⟨by first | omega | exact Nat.le_refl _⟩, ⟨by (with_reducible repeat (first | apply bN_ | apply bD_ | apply bA_)); refine blk_far ?_ NB111_116.out _; (with_reducible repeat (first | apply bN_ | apply bD_ | apply bA_)); refine blk_far ?_ NB111_116.out _; exact bk_⟩, ⟨by (with_reducible repeat (first | apply bN_ | apply bD_ | apply bA_)); refine blk_far ?_ NB112_116.out _; (with_reducible repeat (first | apply bN_ | apply bD_ | apply bA_)); refine blk_far ?_ NB112_116.out _; exact bk_⟩, ⟨by (with_reducible repeat (first | apply bN_ | apply bD_ | apply bA_)); refine blk_far ?_ NB113_116.out _; (with_reducible repeat (first | apply bN_ | apply bD_ | apply bA_)); refine blk_far ?_ NB113_116.out _; exact bk_⟩, ⟨by (with_reducible repeat (first | apply bN_ | apply bD_ | apply bA_)); refine blk_put (cs := #[.int .i64 t114, .int .i64 0]) ?_ 1 _ rfl; (with_reducible repeat (first | apply bN_ | apply bD_ | apply bA_)); refine blk_put (cs := #[.int .i64 0, .int .i64 0]) ?_ 0 _ rfl; exact bk_⟩, ⟨bz_⟩⟩
 case rest =>
  clear HC6
  try clear c1
  try clear c2
  try clear p2
  try clear c17
  try clear c17b0
  try clear c17b1
  try clear c18
  try clear c19
  try clear c20
  try clear zc21_0
  try clear zc21_1
  try clear zf21_0
  try clear zf21_1
  obtain ⟨kq, x14_5, rfl, HA, HJ5, BK111, BK112, BK113, BK116, HB⟩ := hcut
  cases kq with
  | zero => exact absurd HA.out (by simp [value_pointers.j0])
  | succ kj5 =>
   have H := HA.out
   clear HA
   simp only [value_pointers.j0] at H
   by_cases c22 : x14_5 = true
   ·subst c22
    have H1 : ((value_moved.f a1_0 a1_1 a1_2 a2_1).bind fun bt117 => (some (bt117.1, bt117.2.1, bt117.2.2, 0))) = some (r1, r2, r3, r4) := by rw [if_pos rfl] at H; exact H
    clear H
    have H := H1
    clear H1
    replace H := Option.bind_eq_some_iff.mp H
    obtain ⟨⟨t117, t118, t119⟩, A230, H⟩ := H
    replace H : (some (t117, t118, t119, 0)) = some (r1, r2, r3, r4) := H
    have A23 := Aside0.mk A230
    clear A230
    simp only [Option.some.injEq, Prod.mk.injEq] at H
    obtain ⟨rfl, rfl, rfl, rfl⟩ := H
    have hnb24 := NB111_112.out
    have hnc24 := NB112_111.out
    have hnb25 := NB111_113.out
    have hnc25 := NB113_111.out
    have hnb26 := NB111_116.out
    have hnc26 := NB116_111.out
    obtain ⟨zc27_0, zc27_1, zc27_2, zf27_0, zf27_1, zf27_2⟩ := k3_ BK111
    have hnb28 := NB112_113.out
    have hnc28 := NB113_112.out
    have hnb29 := NB112_116.out
    have hnc29 := NB116_112.out
    obtain ⟨zc30_0, zc30_1, zc30_2, zf30_0, zf30_1, zf30_2⟩ := k3_ BK112
    go_wp2_with (first | ((with_reducible refine gate_callee (f := 38) rfl ?_); refine gM_ 25 Try.func38 (value_moved.calls a1_0 a1_1 a1_2 a2_1 t117 t118 t119 _ A23.out) ?_; intro w31 hb; replace BK111 := bb_ hb BK111; replace BK112 := bb_ hb BK112; replace BK113 := bb_ hb BK113; replace BK116 := bb_ hb BK116; replace HB := bl_ hb; (try clear hb); (try clear hb2); (try clear hk); (try clear hi); have hnb32 := NB113_116.out; have hnc32 := NB116_113.out; obtain ⟨zc33_0, zc33_1, zc33_2, zf33_0, zf33_1, zf33_2⟩ := k3_ BK113))
    refine bodyPost_ret (results_ct rfl _ _ gb113 24 #[.int .i64 t117, .int .u64 t118, .int .i64 t119] (0, 0) _ rfl (by (with_reducible repeat (first | apply bN_ | apply bD_ | apply bA_)); refine blk_put (cs := #[.int .i64 t117, .int .u64 t118, .int .i64 0]) ?_ 2 _ rfl; (with_reducible repeat (first | apply bN_ | apply bD_ | apply bA_)); refine blk_put (cs := #[.int .i64 t117, .int .u64 0, .int .i64 0]) ?_ 1 _ rfl; (with_reducible repeat (first | apply bN_ | apply bD_ | apply bA_)); refine blk_put (cs := #[.int .i64 0, .int .u64 0, .int .i64 0]) ?_ 0 _ rfl; exact bk_) Try.underlying24 rfl (by kernel_rfl)) rfl ?_
    exact ⟨vv_, bz_⟩
   ·replace c22 := Bool.eq_false_iff.mpr c22
    subst c22
    have H1 : (if a0 = 0 then (value_pointers.j1 kj5 a0 (t114 == 1 && (t115 == 2)) a1_0 a1_1 a1_2 a2_0 a2_1 a2_2 t114 t115) else (value_pointers.j1 kj5 a0 false a1_0 a1_1 a1_2 a2_0 a2_1 a2_2 t114 t115)) = some (r1, r2, r3, r4) := by rw [if_neg (show ¬ (false = true) by decide)] at H; exact H
    clear H
    have H := H1
    clear H1
    have HC34 := Aside0.mk H
    clear H
    go_upto_region 4 with (fail)
    go_cut [26] (fun v26 wc => ∃ (kq : Nat) (x26_33 : Bool), v26 = .bool x26_33 ∧ Aside0 (value_pointers.j1 kq a0 x26_33 a1_0 a1_1 a1_2 a2_0 a2_1 a2_2 t114 t115 = some (r1, r2, r3, r4)) ∧ Aside0 (kq ≤ kj5) ∧ Aside0 (wc.heap[gb111]? = some (.cells #[.int .i64 a1_0, .int .u64 a1_1, .int .i64 a1_2] 24 (0, 0))) ∧ Aside0 (wc.heap[gb112]? = some (.cells #[.int .i64 a2_0, .int .u64 a2_1, .int .i64 a2_2] 24 (0, 0))) ∧ Aside0 (wc.heap[gb113]? = some (.cells #[.int .i64 0, .int .u64 0, .int .i64 0] 24 (0, 0))) ∧ Aside0 (wc.heap[gb116]? = some (.cells #[.int .i64 t114, .int .i64 t115] 49 (0, 0))) ∧ Aside0 (Below w.heap.size w wc))
    case first =>
     have H := HC34.out
     clear HC34
     by_cases c35 : a0 = 0
     ·rw [if_pos c35] at H
      have c35b0 : (a0 == 0) = true := beq_iff_eq.mpr c35
      have c35b1 : (a0 != 0) = false := bne_eq_false_iff_eq.mpr c35
      clear c35
      (first | rw [c35b0] | (simp only [i64_w, i32_w]; rw [c35b0]) | skip)
      have H' := Aside0.mk H
      clear H
      have hnb36 := NB116_111.out
      have hnc36 := NB111_116.out
      have hnb37 := NB116_112.out
      have hnc37 := NB112_116.out
      have hnb38 := NB116_113.out
      have hnc38 := NB113_116.out
      obtain ⟨zc39_0, zc39_1, zf39_0, zf39_1⟩ := k2_ BK116
      go_wp2
      go_meet
      case rel => exact ⟨_, ((t114 == 1 && (t115 == 2))), (by first | rfl | (simp; done) | (simp [*]; done)), H', ⟨by have := HJ5.out; first | omega | exact Nat.le_refl _⟩, ⟨bk_⟩, ⟨bk_⟩, ⟨bk_⟩, ⟨bk_⟩, ⟨bz_⟩⟩
     ·rw [if_neg c35] at H
      have c35b0 : (a0 == 0) = false := beq_eq_false_iff_ne.mpr c35
      have c35b1 : (a0 != 0) = true := bne_iff_ne.mpr c35
      (first | rw [c35b0] | (simp only [i64_w, i32_w]; rw [c35b0]) | skip)
      have H' := Aside0.mk H
      clear H
      go_wp2
      go_meet
      case rel => exact ⟨_, (false), (by first | rfl | (simp; done) | (simp [*]; done)), H', ⟨by have := HJ5.out; first | omega | exact Nat.le_refl _⟩, ⟨bk_⟩, ⟨bk_⟩, ⟨bk_⟩, ⟨bk_⟩, ⟨bz_⟩⟩
    case rest =>
     clear HC34
     try clear c1
     try clear c2
     try clear p2
     try clear c3
     try clear c17
     try clear c17b0
     try clear c17b1
     try clear c18
     try clear c19
     try clear c20
     try clear c22
     try clear c24
     try clear c25
     try clear c26
     try clear c27
     try clear c28
     try clear c29
     try clear c32
     try clear c35
     try clear c35b0
     try clear c35b1
     try clear c36
     try clear c37
     try clear c38
     try clear zc21_0
     try clear zc21_1
     try clear zc27_0
     try clear zc27_1
     try clear zc27_2
     try clear zc30_0
     try clear zc30_1
     try clear zc30_2
     try clear zc33_0
     try clear zc33_1
     try clear zc33_2
     try clear zc39_0
     try clear zc39_1
     try clear zf21_0
     try clear zf21_1
     try clear zf27_0
     try clear zf27_1
     try clear zf27_2
     try clear zf30_0
     try clear zf30_1
     try clear zf30_2
     try clear zf33_0
     try clear zf33_1
     try clear zf33_2
     try clear zf39_0
     try clear zf39_1
     try clear p2
     obtain ⟨kq, x26_33, rfl, HA, HJ33, BK111, BK112, BK113, BK116, HB⟩ := hcut
     cases kq with
     | zero => exact absurd HA.out (by simp [value_pointers.j1])
     | succ kj33 =>
      have H := HA.out
      clear HA
      simp only [value_pointers.j1] at H
      by_cases c40 : x26_33 = true
      ·subst c40
       have H1 : ((value_moved.f a2_0 a2_1 a2_2 a1_1).bind fun bt120 => (some (bt120.1, bt120.2.1, bt120.2.2, 0))) = some (r1, r2, r3, r4) := by rw [if_pos rfl] at H; exact H
       clear H
       have H := H1
       clear H1
       replace H := Option.bind_eq_some_iff.mp H
       obtain ⟨⟨t120, t121, t122⟩, A410, H⟩ := H
       replace H : (some (t120, t121, t122, 0)) = some (r1, r2, r3, r4) := H
       have A41 := Aside0.mk A410
       clear A410
       simp only [Option.some.injEq, Prod.mk.injEq] at H
       obtain ⟨rfl, rfl, rfl, rfl⟩ := H
       have hnb42 := NB112_111.out
       have hnc42 := NB111_112.out
       have hnb43 := NB112_113.out
       have hnc43 := NB113_112.out
       have hnb44 := NB112_116.out
       have hnc44 := NB116_112.out
       obtain ⟨zc45_0, zc45_1, zc45_2, zf45_0, zf45_1, zf45_2⟩ := k3_ BK112
       have hnb46 := NB111_113.out
       have hnc46 := NB113_111.out
       have hnb47 := NB111_116.out
       have hnc47 := NB116_111.out
       obtain ⟨zc48_0, zc48_1, zc48_2, zf48_0, zf48_1, zf48_2⟩ := k3_ BK111
       go_wp2_with (first | ((with_reducible refine gate_callee (f := 38) rfl ?_); refine gM_ 37 Try.func38 (value_moved.calls a2_0 a2_1 a2_2 a1_1 t120 t121 t122 _ A41.out) ?_; intro w49 hb; replace BK111 := bb_ hb BK111; replace BK112 := bb_ hb BK112; replace BK113 := bb_ hb BK113; replace BK116 := bb_ hb BK116; replace HB := bl_ hb; (try clear hb); (try clear hb2); (try clear hk); (try clear hi); have hnb50 := NB113_116.out; have hnc50 := NB116_113.out; obtain ⟨zc51_0, zc51_1, zc51_2, zf51_0, zf51_1, zf51_2⟩ := k3_ BK113))
       refine bodyPost_ret (results_ct rfl _ _ gb113 24 #[.int .i64 t120, .int .u64 t121, .int .i64 t122] (0, 0) _ rfl (by (with_reducible repeat (first | apply bN_ | apply bD_ | apply bA_)); refine blk_put (cs := #[.int .i64 t120, .int .u64 t121, .int .i64 0]) ?_ 2 _ rfl; (with_reducible repeat (first | apply bN_ | apply bD_ | apply bA_)); refine blk_put (cs := #[.int .i64 t120, .int .u64 0, .int .i64 0]) ?_ 1 _ rfl; (with_reducible repeat (first | apply bN_ | apply bD_ | apply bA_)); refine blk_put (cs := #[.int .i64 0, .int .u64 0, .int .i64 0]) ?_ 0 _ rfl; exact bk_) Try.underlying24 rfl (by kernel_rfl)) rfl ?_
       exact ⟨vv_, bz_⟩
      ·replace c40 := Bool.eq_false_iff.mpr c40
       subst c40
       have H1 : (if a0 = 1 then (if (t114 == 2 && (t115 == 1)) = true then ((value_moved.f a1_0 a1_1 a1_2 (IntKind.u64.wrap (-a2_1))).bind fun bt123 => (some (bt123.1, bt123.2.1, bt123.2.2, 0))) else (some (0, 0, 0, 21))) else (some (0, 0, 0, 21))) = some (r1, r2, r3, r4) := by rw [if_neg (show ¬ (false = true) by decide)] at H; exact H
       clear H
       have H := H1
       clear H1
       by_cases c52 : a0 = 1
       ·rw [if_pos c52] at H
        have c52b0 : (a0 == 1) = true := beq_iff_eq.mpr c52
        have c52b1 : (a0 != 1) = false := bne_eq_false_iff_eq.mpr c52
        clear c52
        by_cases c53 : (t114 == 2 && (t115 == 1)) = true
        ·rw [if_pos c53] at H
         have c53b0 : (t114 == 2 && (t115 == 1)) = true := c53
         (try (have c53b1 : decide (t114 = 2 && (t115 == 1)) = true := by simpa using c53))
         (try (have c53b2 : (t114 == 2 && (t115 == 1)) = true := by simpa using c53))
         clear c53
         replace H := Option.bind_eq_some_iff.mp H
         obtain ⟨⟨t123, t124, t125⟩, A540, H⟩ := H
         replace H : (some (t123, t124, t125, 0)) = some (r1, r2, r3, r4) := H
         have A54 := Aside0.mk A540
         clear A540
         simp only [Option.some.injEq, Prod.mk.injEq] at H
         obtain ⟨rfl, rfl, rfl, rfl⟩ := H
         have hnb55 := NB116_111.out
         have hnc55 := NB111_116.out
         have hnb56 := NB116_112.out
         have hnc56 := NB112_116.out
         have hnb57 := NB116_113.out
         have hnc57 := NB113_116.out
         obtain ⟨zc58_0, zc58_1, zf58_0, zf58_1⟩ := k2_ BK116
         have hnb59 := NB111_112.out
         have hnc59 := NB112_111.out
         have hnb60 := NB111_113.out
         have hnc60 := NB113_111.out
         obtain ⟨zc61_0, zc61_1, zc61_2, zf61_0, zf61_1, zf61_2⟩ := k3_ BK111
         have hnb62 := NB112_113.out
         have hnc62 := NB113_112.out
         obtain ⟨zc63_0, zc63_1, zc63_2, zf63_0, zf63_1, zf63_2⟩ := k3_ BK112
         go_wp2_with (first | ((with_reducible refine gate_callee (f := 38) rfl ?_); refine gM_ 50 Try.func38 (value_moved.calls a1_0 a1_1 a1_2 (IntKind.u64.wrap (-a2_1)) t123 t124 t125 _ A54.out) ?_; intro w64 hb; replace BK111 := bb_ hb BK111; replace BK112 := bb_ hb BK112; replace BK113 := bb_ hb BK113; replace BK116 := bb_ hb BK116; replace HB := bl_ hb; (try clear hb); (try clear hb2); (try clear hk); (try clear hi); obtain ⟨zc65_0, zc65_1, zc65_2, zf65_0, zf65_1, zf65_2⟩ := k3_ BK113))
         refine bodyPost_ret (results_ct rfl _ _ gb113 24 #[.int .i64 t123, .int .u64 t124, .int .i64 t125] (0, 0) _ rfl (by (with_reducible repeat (first | apply bN_ | apply bD_ | apply bA_)); refine blk_put (cs := #[.int .i64 t123, .int .u64 t124, .int .i64 0]) ?_ 2 _ rfl; (with_reducible repeat (first | apply bN_ | apply bD_ | apply bA_)); refine blk_put (cs := #[.int .i64 t123, .int .u64 0, .int .i64 0]) ?_ 1 _ rfl; (with_reducible repeat (first | apply bN_ | apply bD_ | apply bA_)); refine blk_put (cs := #[.int .i64 0, .int .u64 0, .int .i64 0]) ?_ 0 _ rfl; exact bk_) Try.underlying24 rfl (by kernel_rfl)) rfl ?_
         exact ⟨vv_, bz_⟩
        ·rw [if_neg c53] at H
         have c53b0 : (t114 == 2 && (t115 == 1)) = false := by simpa using c53
         (try (have c53b1 : decide (t114 = 2 && (t115 == 1)) = false := by simpa using c53))
         (try (have c53b2 : (t114 == 2 && (t115 == 1)) = false := by simpa using c53))
         (try (have c53b3 : ¬ (t114 = 2 && (t115 == 1)) := by simpa using c53))
         clear c53
         simp only [Option.some.injEq, Prod.mk.injEq] at H
         obtain ⟨rfl, rfl, rfl, rfl⟩ := H
         have hnb66 := NB116_111.out
         have hnc66 := NB111_116.out
         have hnb67 := NB116_112.out
         have hnc67 := NB112_116.out
         have hnb68 := NB116_113.out
         have hnc68 := NB113_116.out
         obtain ⟨zc69_0, zc69_1, zf69_0, zf69_1⟩ := k2_ BK116
         have hnb70 := NB113_111.out
         have hnc70 := NB111_113.out
         have hnb71 := NB113_112.out
         have hnc71 := NB112_113.out
         obtain ⟨zc72_0, zc72_1, zc72_2, zf72_0, zf72_1, zf72_2⟩ := k3_ BK113
         go_wp2
         refine bodyPost_ret (results_ct rfl _ _ gb113 24 #[.int .i64 0, .int .u64 0, .int .i64 0] (0, 0) _ rfl (by (with_reducible repeat (first | apply bN_ | apply bD_ | apply bA_)); refine blk_put (cs := #[.int .i64 0, .int .u64 0, .int .i64 0]) ?_ 2 _ rfl; (with_reducible repeat (first | apply bN_ | apply bD_ | apply bA_)); refine blk_put (cs := #[.int .i64 0, .int .u64 0, .int .i64 0]) ?_ 1 _ rfl; (with_reducible repeat (first | apply bN_ | apply bD_ | apply bA_)); refine blk_put (cs := #[.int .i64 0, .int .u64 0, .int .i64 0]) ?_ 0 _ rfl; exact bk_) Try.underlying24 rfl (by kernel_rfl)) rfl ?_
         exact ⟨vv_, bz_⟩
       ·rw [if_neg c52] at H
        have c52b0 : (a0 == 1) = false := beq_eq_false_iff_ne.mpr c52
        have c52b1 : (a0 != 1) = true := bne_iff_ne.mpr c52
        simp only [Option.some.injEq, Prod.mk.injEq] at H
        obtain ⟨rfl, rfl, rfl, rfl⟩ := H
        have hnb73 := NB113_111.out
        have hnc73 := NB111_113.out
        have hnb74 := NB113_112.out
        have hnc74 := NB112_113.out
        have hnb75 := NB113_116.out
        have hnc75 := NB116_113.out
        obtain ⟨zc76_0, zc76_1, zc76_2, zf76_0, zf76_1, zf76_2⟩ := k3_ BK113
        go_wp2
        refine bodyPost_ret (results_ct rfl _ _ gb113 24 #[.int .i64 0, .int .u64 0, .int .i64 0] (0, 0) _ rfl (by (with_reducible repeat (first | apply bN_ | apply bD_ | apply bA_)); refine blk_put (cs := #[.int .i64 0, .int .u64 0, .int .i64 0]) ?_ 2 _ rfl; (with_reducible repeat (first | apply bN_ | apply bD_ | apply bA_)); refine blk_put (cs := #[.int .i64 0, .int .u64 0, .int .i64 0]) ?_ 1 _ rfl; (with_reducible repeat (first | apply bN_ | apply bD_ | apply bA_)); refine blk_put (cs := #[.int .i64 0, .int .u64 0, .int .i64 0]) ?_ 0 _ rfl; exact bk_) Try.underlying24 rfl (by kernel_rfl)) rfl ?_
        exact ⟨vv_, bz_⟩

end Go.Proofs.Ytnpbhippkcikoaa.PA
