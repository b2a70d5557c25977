-- PRINTED by print.py (a twelfth state) out of the translation. Not trusted: Lean checks it.
import Derived.Test.YtkcneaaoghgllaaWRepsOne
import Derived.Test.YtkcneaaoghgllaaPA0
import Derived.Test.YtkcneaaoghgllaaSq
import Derived.Test.YtkcneaaoghgllaaPA5
namespace Go.Proofs.Ytkcneaaoghgllaa.PA
open Go.RowKit Go.Proofs.YtkcneaaoghgllaaW.PrintWords Go.Proofs.YtkcneaaoghgllaaW.PrintLast Go.Proofs.YtkcneaaoghgllaaW.PrintMore
attribute [local go_sem] max2_int min2_int max_two min_two max_three min_three max_four min_four   -- for this text's walks alone
set_option linter.unusedVariables false
set_option linter.unusedSimpArgs false

/-! ### slices_Concat_int_int: function 40 -/
def slices_Concat_int_int.f (l0 : List Int) (l1 : List Int) : Option (List Int) := if ([] : List Int).length + l0.length < 17592186044416 then ((some (([] : List Int) ++ l0 : List Int)).bind fun y165 => (if y165.length + l1.length < 17592186044416 then (some (y165 ++ l1)) else (none))) else (none)
/-! slices.Grow and slices.Concat by hand: of nil; of two slices -/
set_option maxHeartbeats 8000000 in
set_option maxRecDepth 100000 in
theorem slices_Grow_int_int.calls0 (n : Int) (h0 : 0 ≤ n) (hn : n < 17592186044416) (w : World) :
 Calls Try.prog 45 #[.slice none 0 0, .int .i64 n] w fun e w' => ∃ v0_ : Value, e = .returned (v0_) ∧ Kd.R (Kd.int .i64) 3 w' w.heap.size (fun _ => True) v0_ [] ∧ Below w.heap.size w w' := by
 have HB := Aside0.mk (Below.refl w.heap.size w)
 have d0 : decide (n < 0) = false := decide_eq_false (by omega)
 have hw : IntKind.i64.wrap n = n := (i64_w _).trans (by unfold wrap64; omega)
 have hw2 : wrap64 n = n := by unfold wrap64; omega
 obtain ⟨i0, hi0, _, hsz0, _⟩ := info_parts info3
 by_cases hp : 0 < n
 · have d1 : decide (0 < n) = true := decide_eq_true hp
   have hcut0 := cut_to (P := Try.prog) 26 3 .i64 Try.underlying26 hi0 none 0 0 0 (by omega) (by omega) (by omega)
   go_enter Try.func45, Try.ntmps45
   go_wp2_with (first | ((with_reducible refine gate_builtin (b := .append) (xs := #[.tmp 20, .tmp 21]) rfl ?_); at_builtin; refine Kd.R_append_zeros (P := Try.prog) (Kd.int .i64) (w0 := w) w.heap.size ?a1 (.tmp 20) (.tmp 21) 26 3 3 (.int .i64 0) 8 ?a2 ?a3 (k := .i64) ?a4 ?a5 ?a6 ?a7 ?a8 (.slice none 0 0) ([]) 0 (kx := .i64) n (fun _ => True) ?a9 ?a10 ?a11 ?a12 ?a13 ?a14 ?a15 ?a16 ?a17 ?a18; (case a1 => exact rfl); (case a2 => exact rfl);  (case a3 => exact Try.underlying26);(case a4 => exact Try.underlying3);(case a5 => exact info3);(case a6 => exact rfl);(case a7 => decide);(case a8 => omega);(case a9 => exact rfl);(case a10 => exact rfl);(case a11 => exact rfl); (case a12 => exact fun _ _ => trivial); (case a13 => exact Kd.R_nil _ _ _ _ _); (case a14 => omega); (case a15 => exact bz_);(case a16 => exact (below_size bz_)); (case a17 => simp; omega); intro v1 w1 ho hb hg hat; have HO := Aside0.mk ho; replace HB := Aside0.mk hb; clear ho hb hg hat; obtain ⟨Ao, co, eo⟩ := Kd.R_slice HO.out; subst eo; have hcut1 := cut_to (P := Try.prog) 26 3 .i64 Try.underlying26 hi0 Ao _ co 0 (by omega) (by simp; omega) (Kd.R_reads' HO.out).2.1; have hr1 := Aside0.mk (Kd.R_take (m := 0) HO.out (by omega))))
   go_ret
   exact ⟨_, rfl, hr1.out, bz_⟩
 · have hn0 : n = 0 := by omega
   subst hn0
   go_enter Try.func45, Try.ntmps45
   go_wp2
   go_ret
   exact ⟨_, rfl, Kd.R_nil _ _ _ _ _, bz_⟩
/-- What the first loop has summed up ahead of the i-th slice. -/
def concat_S (a b : Nat) (i s : Int) : Prop := (i = 0 ∧ s = 0) ∨ (i = 1 ∧ s = a) ∨ (i = 2 ∧ s = a + b)
/-- What the second loop has laid ahead of the i-th slice. -/
def concat_T (a b : List Int) (i : Int) (xs : List Int) : Prop := (i = 0 ∧ xs = []) ∨ (i = 1 ∧ a = xs) ∨ (i = 2 ∧ xs = a ++ b)
set_option maxHeartbeats 8000000 in
set_option maxRecDepth 100000 in
theorem slices_Concat_int_int.calls2 (g : Nat) (A0 : Option Addr) (c0 : Nat) (l0 : List Int) (A1 : Option Addr) (c1 : Nat) (l1 : List Int) (w : World) (hg : w.heap[g]? = some (.cells #[.slice A0 l0.length c0, .slice A1 l1.length c1] 26 (0, 0))) (hr0 : Kd.C (Kd.int .i64) w A0 l0.length l0) (hc0 : l0.length ≤ c0) (hr1 : Kd.C (Kd.int .i64) w A1 l1.length l1) (hc1 : l1.length ≤ c1) (hl : l0.length + l1.length < 17592186044416) :
 Calls Try.prog 40 #[.slice (some ⟨g, 0, none⟩) 2 2] w fun e w' => ∃ v0_ : Value, e = .returned (v0_) ∧ Kd.R (Kd.int .i64) 3 w' w.heap.size (fun _ => True) v0_ (l0 ++ l1) ∧ Below w.heap.size w w' := by
 have HR0 := Aside0.mk hr0
 have HC0 := Aside0.mk hc0
 have HR1 := Aside0.mk hr1
 have HC1 := Aside0.mk hc1
 clear hr0 hc0 hr1 hc1
 have HB := Aside0.mk (Below.refl w.heap.size w)
 have BK := Aside0.mk hg
 have hx0 : w.cell? ⟨g, 0, none⟩ = some (.slice A0 l0.length c0) := (blk_cell BK.out 0).trans rfl
 have hx1 : w.cell? ⟨g, 1, none⟩ = some (.slice A1 l1.length c1) := (blk_cell BK.out 1).trans rfl
 have hw1 : wrap64 ((l0.length : Int) + (l1.length : Int)) = (l0.length : Int) + (l1.length : Int) := by unfold wrap64; omega
 have hw2 : IntKind.i64.wrap ((l0.length : Int) + (l1.length : Int)) = (l0.length : Int) + (l1.length : Int) := (i64_w _).trans hw1
 have d0 : decide ((l0.length : Int) < 0) = false := decide_eq_false (by omega)
 have d1 : decide ((l0.length : Int) + (l1.length : Int) < 0) = false := decide_eq_false (by omega)
 clear hg
 go_enter Try.func40, Try.ntmps40
 go_wp2
 go_loopg [3, 11] 2 (fun kq v3 v11 w' => ∃ (s i : Int), v3 = .int .i64 s ∧ v11 = .int .i64 i ∧ Aside0 (concat_S l0.length l1.length i s ∧ i + kq = 2) ∧ w = w')
 case atStart => exact ⟨0, 0, rfl, rfl, ⟨⟨.inl ⟨rfl, rfl⟩, by decide⟩⟩, rfl⟩
 case round =>
  obtain ⟨s, i, rfl, rfl, HS, rfl⟩ := hrel
  obtain ⟨⟨hs, hk⟩⟩ := HS
  rcases hs with ⟨rfl, rfl⟩ | ⟨rfl, rfl⟩ | ⟨rfl, rfl⟩
  · go_wp2
    go_roundg 1
    case measure => omega
    case rel => exact ⟨_, _, rfl, rfl, ⟨⟨.inr (.inl ⟨rfl, rfl⟩), by decide⟩⟩, rfl⟩
  · go_wp2
    go_roundg 0
    case measure => omega
    case rel => exact ⟨_, _, rfl, rfl, ⟨⟨.inr (.inr ⟨rfl, rfl⟩), by decide⟩⟩, rfl⟩
  · go_wp2_with (first | ((with_reducible refine gate_callee (f := 45) rfl ?_); refine goesL_ (some 24) rfl rfl Try.func45 (by kernel_rfl) rfl #[.slice none 0 0, .int .i64 ((l0.length : Int) + (l1.length : Int))] rfl mp_ ?_; (with_reducible refine (slices_Grow_int_int.calls0 ((l0.length : Int) + (l1.length : Int)) ?side1 ?side2 _).mono ?_); (case side1 => omega); (case side2 => omega); rintro e w5 ⟨v118, rfl, ho0, hb⟩; refine ⟨_, rfl, ?_⟩; have HO := Aside0.mk (Kd.R_lower ho0 (below_size bz_)); replace HB := bl_ hb; clear hb ho0))
    go_loopg [6, 27] 2 (fun kq v6 v27 w' => ∃ (xs : List Int) (i : Int), v27 = .int .i64 i ∧ Aside0 (concat_T l0 l1 i xs ∧ i + kq = 2) ∧ Aside0 (Kd.R (Kd.int .i64) 3 w' w.heap.size (fun _ => True) v6 xs) ∧ Aside0 (Below w.heap.size w w'))
    case atStart => exact ⟨[], 0, rfl, ⟨⟨.inl ⟨rfl, rfl⟩, by decide⟩⟩, HO, HB⟩
    case round =>
     clear HB
     obtain ⟨xs, i, rfl, HS, HO_6, HB⟩ := hrel
     obtain ⟨⟨hs, hk2⟩⟩ := HS
     have hy0 := (HB.out.cell (World.block_lt_of_cell? _ _ hx0)).trans hx0
     have hy1 := (HB.out.cell (World.block_lt_of_cell? _ _ hx1)).trans hx1
     rcases hs with ⟨rfl, rfl⟩ | ⟨rfl, rfl⟩ | ⟨rfl, rfl⟩
     · go_wp2_with (first | ((with_reducible refine gate_builtin (b := .append) (xs := #[.tmp 31, .tmp 32]) rfl ?_); at_builtin; refine Kd.R_append_rows (Kd.int .i64) (w0 := w) w.heap.size rfl (.tmp 31) (.tmp 32) 26 3 (.int .i64 0) 8 rfl Try.underlying26 info3 rfl (by decide) (by omega) u6 ([] : List Int) l0 _ _ _ (fun _ => True) (fun _ => False) rfl rfl ?aO ?aR (fun _ _ h => h) (fun _ h => h.elim) ?aF ?aB ?aS ?aL ?_; (case aR => exact (Kd.C_below HR0.out HB.out)); (case aB => exact bz_); (case aF => exact (fun _ _ => trivial)); (case aO => exact HO_6.out); (case aS => exact (below_size bz_)); (case aL => first | omega | (simp; omega)); intro v166 w5 ho hb hg hat; have HO167 := Aside0.mk ho; replace HB := Aside0.mk hb; clear ho hb hg hat))
       go_roundg 1
       case measure => omega
       case rel => exact ⟨_, _, rfl, ⟨⟨.inr (.inl ⟨rfl, rfl⟩), by decide⟩⟩, ⟨HO167.out⟩, ⟨bz_⟩⟩
     · go_wp2_with (first | ((with_reducible refine gate_builtin (b := .append) (xs := #[.tmp 31, .tmp 32]) rfl ?_); at_builtin; refine Kd.R_append_rows (Kd.int .i64) (w0 := w) w.heap.size rfl (.tmp 31) (.tmp 32) 26 3 (.int .i64 0) 8 rfl Try.underlying26 info3 rfl (by decide) (by omega) u6 l0 l1 _ _ _ (fun _ => True) (fun _ => False) rfl rfl ?aO ?aR (fun _ _ h => h) (fun _ h => h.elim) ?aF ?aB ?aS ?aL ?_; (case aR => exact (Kd.C_below HR1.out HB.out)); (case aB => exact bz_); (case aF => exact (fun _ _ => trivial)); (case aO => exact HO_6.out); (case aS => exact (below_size bz_)); (case aL => first | omega | (simp; omega)); intro v166 w5 ho hb hg hat; have HO167 := Aside0.mk ho; replace HB := Aside0.mk hb; clear ho hb hg hat))
       go_roundg 0
       case measure => omega
       case rel => exact ⟨_, _, rfl, ⟨⟨.inr (.inr ⟨rfl, rfl⟩), by decide⟩⟩, ⟨HO167.out⟩, ⟨bz_⟩⟩
     · go_wp2
       go_ret
       exact ⟨_, rfl, HO_6.out, bz_⟩
theorem slices_Concat_int_int.of {l0 l1 r : List Int} (h : slices_Concat_int_int.f l0 l1 = some r) : l0.length + l1.length < 17592186044416 ∧ r = l0 ++ l1 := by
 unfold slices_Concat_int_int.f at h
 by_cases c : ([] : List Int).length + l0.length < 17592186044416
 · rw [if_pos c, Option.bind_some] at h
   by_cases c2 : (([] : List Int) ++ l0).length + l1.length < 17592186044416
   · rw [if_pos c2] at h
     exact ⟨by simpa using c2, by simpa using (Option.some.inj h).symm⟩
   · rw [if_neg c2] at h; exact nomatch h
 · rw [if_neg c] at h; exact nomatch h
theorem slices_Concat_int_int.calls (g : Nat) (A0 : Option Addr) (c0 : Nat) (l0 : List Int) (A1 : Option Addr) (c1 : Nat) (l1 : List Int) (r : List Int) (w : World) (hg : w.heap[g]? = some (.cells #[.slice A0 l0.length c0, .slice A1 l1.length c1] 26 (0, 0))) (hr0 : Kd.C (Kd.int .i64) w A0 l0.length l0) (hc0 : l0.length ≤ c0) (hr1 : Kd.C (Kd.int .i64) w A1 l1.length l1) (hc1 : l1.length ≤ c1) (h : slices_Concat_int_int.f l0 l1 = some r) :
 Calls Try.prog 40 #[.slice (some ⟨g, 0, none⟩) 2 2] w fun e w' => ∃ v0_ : Value, e = .returned (v0_) ∧ Kd.R (Kd.int .i64) 3 w' w.heap.size (fun _ => True) v0_ r ∧ Below w.heap.size w w' := by
 obtain ⟨hl, rfl⟩ := slices_Concat_int_int.of h
 exact slices_Concat_int_int.calls2 g A0 c0 l0 A1 c1 l1 w hg hr0 hc0 hr1 hc1 hl

/-! ### flow_Reached: function 17 -/
def flow_Reached.l0 : Nat → List (S42) → List Int → List Bool → List Int → Option (List Bool)
 | 0, _, _, _, _ => none
 | k + 1, x0, x1, x5, x6 => if (x6.length : Int) > 0 then (if 0 ≤ (wrap64 ((x6.length : Int) - 1)) then (if (wrap64 ((x6.length : Int) - 1)) < (x6.length : Int) then (if (wrap64 ((x6.length : Int) - 1)) ≤ (x6.length : Int) then ((some (x6.take ((wrap64 ((x6.length : Int) - 1)) : Int).toNat : List Int)).bind fun y178 => (if 0 ≤ (rd x6 (wrap64 ((x6.length : Int) - 1))) then (if (rd x6 (wrap64 ((x6.length : Int) - 1))) < (x5.length : Int) then (if rdOf false x5 (rd x6 (wrap64 ((x6.length : Int) - 1))) = true then (flow_Reached.l0 k x0 x1 x5 y178) else ((flow_Next.f k x0 x1 (rd x6 (wrap64 ((x6.length : Int) - 1)))).bind fun t183 => ((slices_Concat_int_int.f y178 t183).bind fun t186 => (flow_Reached.l0 k x0 x1 (x5.set ((rd x6 (wrap64 ((x6.length : Int) - 1))) : Int).toNat true) t186)))) else (none)) else (none))) else (none)) else (none)) else (none)) else (some x5)
def flow_Reached.f (k : Nat) (l0 : List (S42)) (l1 : List Int) : Option (List Bool) := if 0 ≤ (l0.length : Int) then (if ((l0.length : Int) : Int).toNat ≤ 281474976710656 then ((some (List.replicate ((l0.length : Int) : Int).toNat false : List Bool)).bind fun y171 => (if (l0.length : Int) = 0 then (some y171) else (flow_Reached.l0 k l0 l1 y171 (([0] : List Int))))) else (none)) else (none)
theorem flow_Reached.mono_l : ∀ k, (∀ y0 y1 y2 y3, LeO (flow_Reached.l0 k y0 y1 y2 y3) (flow_Reached.l0 (k + 1) y0 y1 y2 y3))
 | 0 => fun _ _ _ _ r h => by simp [flow_Reached.l0] at h
 | k + 1 => by
  have ih0 := flow_Reached.mono_l k
  ·intro y0 y1 y2 y3
   unfold flow_Reached.l0
   repeat' first
   | (with_reducible exact ih0 _ _ _ _)
   | (with_reducible exact flow_Next.mono _ _ _ _)
   | (with_reducible exact LeO.refl _)
   | (with_reducible exact LeO.none _)
   | (with_reducible refine LeO.ite ?_ ?_)
   | (with_reducible refine LeO.bind ?_ (fun _ => ?_))
   | exact ih0 _ _ _ _
   | exact flow_Next.mono _ _ _ _
   | exact LeO.none _
   | refine LeO.ite ?_ ?_
   | refine LeO.bind ?_ (fun _ => ?_)
theorem flow_Reached.mono : ∀ a0 a1 k, LeO (flow_Reached.f k a0 a1) (flow_Reached.f (k + 1) a0 a1) := by
 intro a0 a1 k
 have ih0 := flow_Reached.mono_l k
 unfold flow_Reached.f
 repeat' first
  | (with_reducible exact ih0 _ _ _ _)
  | (with_reducible exact flow_Next.mono _ _ _ _)
  | (with_reducible exact LeO.refl _)
  | (with_reducible exact LeO.none _)
  | (with_reducible refine LeO.ite ?_ ?_)
  | (with_reducible refine LeO.bind ?_ (fun _ => ?_))
  | exact ih0 _ _ _ _
  | exact flow_Next.mono _ _ _ _
  | exact LeO.none _
  | refine LeO.ite ?_ ?_
  | refine LeO.bind ?_ (fun _ => ?_)
set_option maxHeartbeats 8000000 in
set_option maxRecDepth 100000 in
theorem flow_Reached.calls (k : Nat) (A0 : Option Addr) (c0 : Nat) (l0 : List (S42)) (A1 : Option Addr) (c1 : Nat) (l1 : List Int) (r : List Bool) (w : World) (hr0 : Kd.C k42 w A0 l0.length l0) (hc0 : l0.length ≤ c0) (hr1 : Kd.C (Kd.int .i64) w A1 l1.length l1) (hc1 : l1.length ≤ c1) (h : flow_Reached.f k l0 l1 = some r) :
 Calls Try.prog 17 #[.slice A0 l0.length c0, .slice A1 l1.length c1] w fun e w' => ∃ v0_ : Value, e = .returned (v0_) ∧ Kd.R Kd.bool 4 w' w.heap.size (fun _ => True) v0_ r ∧ Below w.heap.size w w' := by
 have HR0 := Aside0.mk hr0
 have HC0 := Aside0.mk hc0
 clear hr0 hc0
 have HR1 := Aside0.mk hr1
 have HC1 := Aside0.mk hc1
 clear hr1 hc1
 have HB := Aside0.mk (Below.refl w.heap.size w)
 have H : (if 0 ≤ (l0.length : Int) then (if ((l0.length : Int) : Int).toNat ≤ 281474976710656 then ((some (List.replicate ((l0.length : Int) : Int).toNat false : List Bool)).bind fun y171 => (if (l0.length : Int) = 0 then (some y171) else (flow_Reached.l0 k l0 l1 y171 (([0] : List Int))))) else (none)) else (none)) = some r := h
 clear h
 by_cases c3 : 0 ≤ (l0.length : Int)
 ·rw [if_pos c3] at H
  have c3b0 := eq_true c3
  have c3b1 : decide (0 ≤ (l0.length : Int)) = true := decide_eq_true c3
  clear c3
  by_cases c4 : ((l0.length : Int) : Int).toNat ≤ 281474976710656
  ·rw [if_pos c4] at H
   have c4b0 := eq_true c4
   have c4b1 : decide (((l0.length : Int) : Int).toNat ≤ 281474976710656) = true := decide_eq_true c4
   clear c4
   obtain ⟨y171, hy171⟩ : ∃ y_ : List Bool, y_ = (List.replicate ((l0.length : Int) : Int).toNat false) := ⟨_, rfl⟩
   replace H : (if (l0.length : Int) = 0 then (some y171) else (flow_Reached.l0 k l0 l1 y171 (([0] : List Int)))) = some r := by first | (rw [hy171]; with_reducible exact H) | (have H2_ := (Option.bind_some _ _).symm.trans H; rw [hy171]; with_reducible exact H2_) | (have H2_ := (Option.bind_some _ _).symm.trans H; with_reducible exact H2_) | with_reducible exact H | (rw [hy171]; exact H) | exact H
   have Ny171 := Aside0.mk hy171
   clear hy171
   by_cases c5 : (l0.length : Int) = 0
   ·rw [if_pos c5] at H
    have c5b0 : ((l0.length : Int) == 0) = true := beq_iff_eq.mpr c5
    have c5b1 : ((l0.length : Int) != 0) = false := bne_eq_false_iff_eq.mpr c5
    clear c5
    obtain rfl := Option.some.inj H
    go_enter Try.func17, Try.ntmps17
    go_wp2
    go_step3
    go_wp2_with (first | ((with_reducible refine gate_dst (N := 10) rfl ?_); refine Kd.R_make Kd.bool _ 4 rfl (N := 10) rfl 33 _ _ rfl (l0.length : Int) rfl rfl Try.underlying33 (.bool false) 1 info4 rfl (by decide) (by omega) false (ok := fun _ => True) (okp := fun _ => True) rfl (fun _ hk => hk) trivial (of_decide_eq_true (by first | (with_reducible assumption) | assumption)) (Nat.le_trans (Nat.mul_le_mul_right _ (of_decide_eq_true (by first | (with_reducible assumption) | assumption) : (l0.length : Int).toNat ≤ 281474976710656)) (by omega)) (Below.refl _ _) (Nat.le_refl _) ?_; intro v172 w6 ho7 hb hg_ hnew_; clear hg_ hnew_; (first | rw [← Ny171.out] at ho7 | (simp only [Int.reduceToNat] at ho7; rw [← Ny171.out] at ho7)); have HO173 := Aside0.mk (Kd.R_lower ho7 (below_size bz_)); replace HB := bl_ hb; clear hb ho7))
    (try rw [Exit.noGoto_ret])
    go_ret
    exact ⟨_, by first | rfl | (simp [errW_none, errW_some] <;> rfl) | (simp [*, errW_none, errW_some] <;> rfl), by (with_reducible repeat (first | apply Kd.R_alloc | apply Kd.R_drewN | apply Kd.R_drew)); exact HO173.out, bz_⟩
   ·rw [if_neg c5] at H
    have c5b0 : ((l0.length : Int) == 0) = false := beq_eq_false_iff_ne.mpr c5
    have c5b1 : ((l0.length : Int) != 0) = true := bne_iff_ne.mpr c5
    have c5b2 : ¬ (l0 = []) := fun h_ => c5 (by rw [h_]; rfl)
    obtain ⟨y174, hy174⟩ : ∃ y_ : List Int, y_ = (([0] : List Int)) := ⟨_, rfl⟩
    replace H : (flow_Reached.l0 k l0 l1 y171 y174) = some r := by first | (rw [hy174]; with_reducible exact H) | (have H2_ := (Option.bind_some _ _).symm.trans H; rw [hy174]; with_reducible exact H2_) | (have H2_ := (Option.bind_some _ _).symm.trans H; with_reducible exact H2_) | with_reducible exact H | (rw [hy174]; exact H) | exact H
    have Ny174 := Aside0.mk hy174
    clear hy174
    have H' := Aside0.mk H
    clear H
    go_enter Try.func17, Try.ntmps17
    go_wp2
    go_step3
    go_wp2_with (first | ((with_reducible refine gate_dst (N := 10) rfl ?_); refine Kd.R_make Kd.bool _ 4 rfl (N := 10) rfl 33 _ _ rfl (l0.length : Int) rfl rfl Try.underlying33 (.bool false) 1 info4 rfl (by decide) (by omega) false (ok := fun _ => True) (okp := fun _ => True) rfl (fun _ hk => hk) trivial (of_decide_eq_true (by first | (with_reducible assumption) | assumption)) (Nat.le_trans (Nat.mul_le_mul_right _ (of_decide_eq_true (by first | (with_reducible assumption) | assumption) : (l0.length : Int).toNat ≤ 281474976710656)) (by omega)) (Below.refl _ _) (Nat.le_refl _) ?_; intro v172 w8 ho9 hb hg_ hnew_; clear hg_ hnew_; (first | rw [← Ny171.out] at ho9 | (simp only [Int.reduceToNat] at ho9; rw [← Ny171.out] at ho9)); have HO173 := Aside0.mk (Kd.R_lower ho9 (below_size bz_)); replace HB := bl_ hb; clear hb ho9) | ((with_reducible refine gate_dst (N := 15) rfl ?_); refine Kd.R_lit (Kd.int .i64) _ 3 ?hg (N := 15) ?hd (xs := ([0] : List Int)) (inner := [.int .i64 0]) (ok := fun _ => True) (okp := fun _ => True) ?hr ?hp (fun _ hk => hk) trivial (Below.refl _ _) (Nat.le_refl _) (by simp) ?_; (case hd => rfl); (case hg => rfl); (case hr => first | (go_simp; done) | (go_simp; rfl)); (case hp => exact (Reps.one (show Kd.M (Kd.int .i64) _ _ _ 0 [.int .i64 0] from rfl) (Reps.none _ _))); intro v175 w10 ho11 hb hg_ hnew_; clear hg_ hnew_; (first | rw [← Ny174.out] at ho11 | (simp only [Int.reduceToNat] at ho11; rw [← Ny174.out] at ho11)); have HO176 := Aside0.mk (Kd.R_lower ho11 (below_size bz_)); replace HO173 := Aside0.mk (Kd.R_below (by (with_reducible repeat (first | apply Kd.R_alloc | apply Kd.R_drewN | apply Kd.R_drew)); exact HO173.out) hb); replace HB := bl_ hb; clear hb ho11))
    go_step3
    go_wp2
    go_loopg [6] k (fun kq v6 w' => ∃ (x5_1 : List Bool) (x6_1 : List Int), Aside0 (flow_Reached.l0 kq l0 l1 x5_1 x6_1 = some r) ∧ Aside0 (kq ≤ k) ∧ Aside0 (Kd.R Kd.bool 4 w' w.heap.size (fun _ => True) v172 x5_1) ∧ Aside0 (Kd.R (Kd.int .i64) 3 w' w.heap.size (fun _ => True) v6 x6_1) ∧ Aside0 (Below w.heap.size w w'))
    case atStart => exact ⟨(y171), (y174), H', ⟨Nat.le_refl _⟩, ⟨by (with_reducible repeat (first | apply Kd.R_alloc | apply Kd.R_drewN | apply Kd.R_drew)); exact HO173.out⟩, ⟨by (with_reducible repeat (first | apply Kd.R_alloc | apply Kd.R_drewN | apply Kd.R_drew)); exact HO176.out⟩, ⟨bz_⟩⟩
    case round =>
     clear H'
     try clear c1
     try clear p2
     try clear c3
     try clear c3b0
     try clear c3b1
     try clear c4
     try clear c4b0
     try clear c4b1
     try clear c5
     try clear c5b0
     try clear c5b1
     try clear c5b2
     obtain ⟨x5_1, x6_1, HA, HK1, HO_5, HO_6, HB⟩ := hrel
     cases gk with
     | zero => exact absurd HA.out (by simp [flow_Reached.l0])
     | succ k1 =>
      have H := HA.out
      clear HA
      simp only [flow_Reached.l0] at H
      by_cases c12 : (x6_1.length : Int) > 0
      ·rw [if_pos c12] at H
       have c12b0 : decide (0 < (x6_1.length : Int)) = true := decide_eq_true c12
       have c12b1 : decide (0 < x6_1.length) = true := decide_eq_true (by omega)
       clear c12
       obtain ⟨ji13, hji13⟩ : ∃ j_ : Int, (wrap64 ((x6_1.length : Int) - 1)) = j_ := ⟨_, rfl⟩
       replace H : (if 0 ≤ (ji13) then (if (ji13) < (x6_1.length : Int) then (if (ji13) ≤ (x6_1.length : Int) then ((some (x6_1.take ((ji13) : Int).toNat : List Int)).bind fun y178 => (if 0 ≤ (rd x6_1 (ji13)) then (if (rd x6_1 (ji13)) < (x5_1.length : Int) then (if rdOf false x5_1 (rd x6_1 (ji13)) = true then (flow_Reached.l0 k1 l0 l1 x5_1 y178) else ((flow_Next.f k1 l0 l1 (rd x6_1 (ji13))).bind fun t183 => ((slices_Concat_int_int.f y178 t183).bind fun t186 => (flow_Reached.l0 k1 l0 l1 (x5_1.set ((rd x6_1 (ji13)) : Int).toNat true) t186)))) else (none)) else (none))) else (none)) else (none)) else (none)) = some r := by first | (rw [hji13] at H; exact H) | (simp only [hji13] at H ⊢; exact H)
       have hji13w : (IntKind.i64.wrap ((x6_1.length : Int) - 1)) = ji13 := (i64_w _).trans hji13
       by_cases c14 : 0 ≤ (ji13)
       ·rw [if_pos c14] at H
        have c14b0 : decide (0 ≤ (ji13)) = true := decide_eq_true c14
        clear c14
        by_cases c15 : (ji13) < (x6_1.length : Int)
        ·rw [if_pos c15] at H
         have c15b0 : decide ((ji13) < (x6_1.length : Int)) = true := decide_eq_true c15
         clear c15
         by_cases c16 : (ji13) ≤ (x6_1.length : Int)
         ·rw [if_pos c16] at H
          have c16b0 := eq_true c16
          have c16b1 : decide ((ji13) ≤ (x6_1.length : Int)) = true := decide_eq_true c16
          clear c16
          obtain ⟨y178, hy178⟩ : ∃ y_ : List Int, y_ = (x6_1.take ((ji13) : Int).toNat) := ⟨_, rfl⟩
          replace H : (if 0 ≤ (rd x6_1 (ji13)) then (if (rd x6_1 (ji13)) < (x5_1.length : Int) then (if rdOf false x5_1 (rd x6_1 (ji13)) = true then (flow_Reached.l0 k1 l0 l1 x5_1 y178) else ((flow_Next.f k1 l0 l1 (rd x6_1 (ji13))).bind fun t183 => ((slices_Concat_int_int.f y178 t183).bind fun t186 => (flow_Reached.l0 k1 l0 l1 (x5_1.set ((rd x6_1 (ji13)) : Int).toNat true) t186)))) else (none)) else (none)) = some r := by first | (rw [hy178]; with_reducible exact H) | (have H2_ := (Option.bind_some _ _).symm.trans H; rw [hy178]; with_reducible exact H2_) | (have H2_ := (Option.bind_some _ _).symm.trans H; with_reducible exact H2_) | with_reducible exact H | (rw [hy178]; exact H) | exact H
          have Ny178 := Aside0.mk hy178
          clear hy178
          by_cases c17 : 0 ≤ (rd x6_1 (ji13))
          ·rw [if_pos c17] at H
           have c17b0 : decide (0 ≤ (rd x6_1 (ji13))) = true := decide_eq_true c17
           clear c17
           by_cases c18 : (rd x6_1 (ji13)) < (x5_1.length : Int)
           ·rw [if_pos c18] at H
            have c18b0 : decide ((rd x6_1 (ji13)) < (x5_1.length : Int)) = true := decide_eq_true c18
            clear c18
            obtain ⟨bq19, hbq19⟩ : ∃ b_ : Bool, b_ = (rdOf false x5_1 (rd x6_1 (ji13))) := ⟨_, rfl⟩
            replace H : (if bq19 = true then (flow_Reached.l0 k1 l0 l1 x5_1 y178) else ((flow_Next.f k1 l0 l1 (rd x6_1 (ji13))).bind fun t183 => ((slices_Concat_int_int.f y178 t183).bind fun t186 => (flow_Reached.l0 k1 l0 l1 (x5_1.set ((rd x6_1 (ji13)) : Int).toNat true) t186)))) = some r := by rw [← hbq19] at H; exact H
            have Nbq19 := Aside0.mk hbq19
            clear hbq19
            by_cases c20 : bq19 = true
            ·subst c20
             have H1 : (flow_Reached.l0 k1 l0 l1 x5_1 y178) = some r := by rw [if_pos rfl] at H; exact H
             clear H
             have H := H1
             clear H1
             have H' := Aside0.mk H
             clear H
             obtain ⟨Ao21, co21, eo21⟩ := Kd.R_slice HO_6.out
             subst eo21
             have p177 : 0 ≤ ((ji13) : Int) := of_decide_eq_true (by first | (with_reducible assumption) | assumption)
             have q177 : (ji13) < (x6_1.length : Int) := of_decide_eq_true (by first | (with_reducible assumption) | assumption)
             obtain ⟨ad177, e177, hx177_0⟩ := Kd.at_int (Kd.R_reads' HO_6.out).2.2 (ji13) p177 q177
             cases e177
             replace p177 := eq_true p177
             replace q177 := eq_true q177
             have q22 : ((ji13) : Int) ≤ ((x6_1.length : Int) : Int) := of_decide_eq_true (by first | (with_reducible assumption) | assumption)
             obtain ⟨i022, hi022, _, hsz22, _⟩ := info_parts info3
             have hcut22 := cut_to (P := Try.prog) 26 3 .i64 Try.underlying26 hi022 (some ad177) x6_1.length co21 (ji13) (of_decide_eq_true (by first | (with_reducible assumption) | assumption)) q22 (Kd.R_reads' HO_6.out).2.1
             have hr22 := Kd.R_take (m := ((ji13) : Int).toNat) HO_6.out (by omega)
             have hy22 : y178.length = ((ji13) : Int).toNat := (by rw [Ny178.out, List.length_take]; omega)
             rw [← Ny178.out] at hr22
             rw [← hy22] at hr22 hcut22
             clear hy22 hi022 hsz22 HO_6
             have HO180 := Aside0.mk hr22
             clear hr22
             replace q22 := eq_true q22
             obtain ⟨Ao23, co23, eo23⟩ := Kd.R_slice HO_5.out
             subst eo23
             have p181 : 0 ≤ ((rd x6_1 (ji13)) : Int) := of_decide_eq_true (by first | (with_reducible assumption) | assumption)
             have q181 : (rd x6_1 (ji13)) < (x5_1.length : Int) := of_decide_eq_true (by first | (with_reducible assumption) | assumption)
             obtain ⟨ad181, e181, hx181_0⟩ := Kd.at_bool (Kd.R_reads' HO_5.out).2.2 (rd x6_1 (ji13)) p181 q181
             (try rw [← Nbq19.out] at hx181_0)
             cases e181
             replace p181 := eq_true p181
             replace q181 := eq_true q181
             go_wp2
             go_roundg k1
             case measure => have := HK1.out; omega
             case rel => exact ⟨(x5_1), (y178), H', ⟨by have := HK1.out; omega⟩, ⟨by (with_reducible repeat (first | apply Kd.R_alloc | apply Kd.R_drewN | apply Kd.R_drew)); exact HO_5.out⟩, ⟨by (with_reducible repeat (first | apply Kd.R_alloc | apply Kd.R_drewN | apply Kd.R_drew)); exact HO180.out⟩, ⟨bz_⟩⟩
            ·replace c20 := Bool.eq_false_iff.mpr c20
             subst c20
             have H1 : ((flow_Next.f k1 l0 l1 (rd x6_1 (ji13))).bind fun t183 => ((slices_Concat_int_int.f y178 t183).bind fun t186 => (flow_Reached.l0 k1 l0 l1 (x5_1.set ((rd x6_1 (ji13)) : Int).toNat true) t186))) = some r := by rw [if_neg (show ¬ (false = true) by decide)] at H; exact H
             clear H
             have H := H1
             clear H1
             obtain ⟨y182, hy182⟩ : ∃ y_ : List Bool, y_ = (x5_1.set ((rd x6_1 (ji13)) : Int).toNat true) := ⟨_, rfl⟩
             replace H : ((flow_Next.f k1 l0 l1 (rd x6_1 (ji13))).bind fun t183 => ((slices_Concat_int_int.f y178 t183).bind fun t186 => (flow_Reached.l0 k1 l0 l1 y182 t186))) = some r := by first | (rw [hy182]; with_reducible exact H) | (have H2_ := (Option.bind_some _ _).symm.trans H; rw [hy182]; with_reducible exact H2_) | (have H2_ := (Option.bind_some _ _).symm.trans H; with_reducible exact H2_) | with_reducible exact H | (rw [hy182]; exact H) | exact H
             have Ny182 := Aside0.mk hy182
             clear hy182
             replace H := Option.bind_eq_some_iff.mp H
             obtain ⟨t183, A250, H⟩ := H
             replace H : ((slices_Concat_int_int.f y178 t183).bind fun t186 => (flow_Reached.l0 k1 l0 l1 y182 t186)) = some r := H
             have A25 := Aside0.mk A250
             clear A250
             replace H := Option.bind_eq_some_iff.mp H
             obtain ⟨t186, A260, H⟩ := H
             replace H : (flow_Reached.l0 k1 l0 l1 y182 t186) = some r := H
             have A26 := Aside0.mk A260
             clear A260
             have H' := Aside0.mk H
             clear H
             obtain ⟨Ao27, co27, eo27⟩ := Kd.R_slice HO_6.out
             subst eo27
             have p177 : 0 ≤ ((ji13) : Int) := of_decide_eq_true (by first | (with_reducible assumption) | assumption)
             have q177 : (ji13) < (x6_1.length : Int) := of_decide_eq_true (by first | (with_reducible assumption) | assumption)
             obtain ⟨ad177, e177, hx177_0⟩ := Kd.at_int (Kd.R_reads' HO_6.out).2.2 (ji13) p177 q177
             cases e177
             replace p177 := eq_true p177
             replace q177 := eq_true q177
             have q28 : ((ji13) : Int) ≤ ((x6_1.length : Int) : Int) := of_decide_eq_true (by first | (with_reducible assumption) | assumption)
             obtain ⟨i028, hi028, _, hsz28, _⟩ := info_parts info3
             have hcut28 := cut_to (P := Try.prog) 26 3 .i64 Try.underlying26 hi028 (some ad177) x6_1.length co27 (ji13) (of_decide_eq_true (by first | (with_reducible assumption) | assumption)) q28 (Kd.R_reads' HO_6.out).2.1
             have hr28 := Kd.R_take (m := ((ji13) : Int).toNat) HO_6.out (by omega)
             have hy28 : y178.length = ((ji13) : Int).toNat := (by rw [Ny178.out, List.length_take]; omega)
             rw [← Ny178.out] at hr28
             rw [← hy28] at hr28 hcut28
             clear hy28 hi028 hsz28 HO_6
             have HO180 := Aside0.mk hr28
             clear hr28
             replace q28 := eq_true q28
             obtain ⟨Ao29, co29, eo29⟩ := Kd.R_slice HO_5.out
             subst eo29
             have p181 : 0 ≤ ((rd x6_1 (ji13)) : Int) := of_decide_eq_true (by first | (with_reducible assumption) | assumption)
             have q181 : (rd x6_1 (ji13)) < (x5_1.length : Int) := of_decide_eq_true (by first | (with_reducible assumption) | assumption)
             obtain ⟨ad181, e181, hx181_0⟩ := Kd.at_bool (Kd.R_reads' HO_5.out).2.2 (rd x6_1 (ji13)) p181 q181
             (try rw [← Nbq19.out] at hx181_0)
             cases e181
             replace p181 := eq_true p181
             replace q181 := eq_true q181
             have p24 : 0 ≤ ((rd x6_1 (ji13)) : Int) := of_decide_eq_true (by first | (with_reducible assumption) | assumption)
             have q24 : ((rd x6_1 (ji13)) : Int) < ((x5_1.length : Int) : Int) := of_decide_eq_true (by first | (with_reducible assumption) | assumption)
             obtain ⟨go24, co24, eo24, gb24, gl24, cl24, HG24⟩ := Kd.R_form HO_5.out (by omega)
             (first | cases eo24 | (injection eo24 with ea_ en_ ec_; (first | subst ea_ | (injection ea_ with ea_; subst ea_)); subst ec_; clear en_))
             have GB24 := Aside0.mk gb24
             have GG24 := Aside0.mk HG24
             clear gb24 gl24 HG24
             (first | simp only [add_plain] at hx181_0 | skip)
             obtain ⟨hx24_0, hf24_0⟩ := Kd.R_celln false HO_5.out ((rd x6_1 (ji13)) : Int) p24 q24
             replace p24 := eq_true p24
             replace q24 := eq_true q24
             have HP30 := Kd.R_putg HO_5.out ((rd x6_1 (ji13)) : Int) true
             go_wp2_with (first | ((with_reducible refine gate_store (t := 4) (p := 36) rfl ?_); refine store_event (t := 4) (p := 36) (v := ?vo_w31) (w1 := (wr.setCell ⟨go24, ((rd x6_1 (ji13)) : Int).toNat, none⟩ (.bool true))) ?hg ?ho ?hn ?hr ?_; (case ho => rfl); (case hg => rfl); (case hn => rfl); (case hr => first | (go_simp; done) | (go_simp; rfl)); intro w31 hw; have hg : wr.grownBy w31 (some go24) := (by rw [hw]; exact HP30.2); have hp_ : Kd.R Kd.bool 4 w31 w.heap.size (fun _ => True) (.slice (some ⟨go24, 0, none⟩) x5_1.length co29) y182 := (by rw [hw, Ny182.out]; exact HP30.1); clear HP30; have n0_ := Aside0.mk (hp_); have n1_ := Aside0.mk (Kd.R_over' (v := (.slice (some ⟨go24, 0, none⟩) x5_1.length co29)) (by (with_reducible repeat (first | apply Kd.R_alloc | apply Kd.R_drewN | apply Kd.R_drew)); exact HO180.out) (Kd.R_typed HO_5.out) (by decide) hg); have n2_ := Aside0.mk ((by rw [hw]; exact below_set (HB.out) GB24.out : Below w.heap.size w w31)); clear HO_5; clear HO180; clear HB; have HO_5 := n0_; have HO180 := n1_; have HB := n2_; clear n0_ n1_ n2_; clear hg hw hp_) | ((with_reducible refine gate_callee (f := 15) rfl ?_); refine goesL_ (some 41) rfl rfl Try.func15 (by kernel_rfl) rfl #[.slice A0 l0.length c0, .slice A1 l1.length c1, .int .i64 (rd x6_1 (ji13))] rfl (by (try simp only [List.map_toArray, List.map_cons, List.map_nil]); first | done | (simp only [hji13]; rfl) | rfl | (simp only [List.length_drop, List.length_take]; rfl)) ?_; (with_reducible refine (flow_Next.calls k1 _ _ l0 _ _ l1 (rd x6_1 (ji13)) t183 _ ?side1 ?side2 ?side3 ?side4 A25.out).mono ?_); (case side1 => repeat (first | exact (Kd.C_below HR0.out HB.out) | (with_reducible refine Kd.C_alloc ?_ _) | (with_reducible refine Kd.C_drewN ?_ _) | (with_reducible refine Kd.C_drew ?_))); (case side2 => exact HC0.out); (case side3 => repeat (first | exact (Kd.C_below HR1.out HB.out) | (with_reducible refine Kd.C_alloc ?_ _) | (with_reducible refine Kd.C_drewN ?_ _) | (with_reducible refine Kd.C_drew ?_))); (case side4 => exact HC1.out); rintro e w32 ⟨v184, rfl, ho0, hb⟩; refine ⟨_, rfl, ?_⟩; have n0_ := Aside0.mk (Kd.R_below (by (with_reducible repeat (first | apply Kd.R_alloc | apply Kd.R_drewN | apply Kd.R_drew)); exact HO_5.out) hb); have n1_ := Aside0.mk (Kd.R_elder' (by (with_reducible repeat (first | apply Kd.R_alloc | apply Kd.R_drewN | apply Kd.R_drew)); exact HO180.out) (Kd.R_base ho0) hb); have n2_ := Aside0.mk (Kd.R_lower (Kd.R_new' ho0 (Kd.R_lt (by (with_reducible repeat (first | apply Kd.R_alloc | apply Kd.R_drewN | apply Kd.R_drew)); exact HO180.out))) (below_size bz_)); have n3_ := bl_ hb; clear HO_5; clear HO180; clear HB; have HO_5 := n0_; have HO180 := n1_; have HO185 := n2_; have HB := n3_; clear n0_ n1_ n2_ n3_; (try clear hb); (try clear hb2); (try clear hk); (try clear hi); (try clear ho0); obtain ⟨Ao33, co33, eo33⟩ := Kd.R_slice HO185.out; subst eo33) | ((with_reducible refine gate_dst (N := 42) rfl ?_); refine Kd.event_run rfl (v := .slice (some ⟨_, 0, none⟩) 2 2) (w1 := World.alloc _ (.cells #[.slice (some ad177) y178.length co27, .slice Ao33 t183.length co33] 26)) ?hr ?_; (case hr => first | (go_simp; done) | (go_simp; rfl))) | ((with_reducible refine gate_callee (f := 40) rfl ?_); refine goesL_ (some 43) rfl rfl Try.func40 (by kernel_rfl) rfl #[.slice (some ⟨_, 0, none⟩) 2 2] rfl mp_ ?_; (with_reducible refine (slices_Concat_int_int.calls _ _ _ y178 _ _ t183 t186 _ (heap_alloc_new _ _) ?side1 ?side2 ?side3 ?side4 A26.out).mono ?_); (case side1 => repeat (first | exact (Kd.R_reads' HO180.out).2.2 | (with_reducible refine Kd.C_alloc ?_ _) | (with_reducible refine Kd.C_drewN ?_ _) | (with_reducible refine Kd.C_drew ?_))); (case side2 => exact (Kd.R_reads' HO180.out).2.1); (case side3 => repeat (first | exact (Kd.R_reads' HO185.out).2.2 | (with_reducible refine Kd.C_alloc ?_ _) | (with_reducible refine Kd.C_drewN ?_ _) | (with_reducible refine Kd.C_drew ?_))); (case side4 => exact (Kd.R_reads' HO185.out).2.1); rintro e w34 ⟨v187, rfl, ho0, hb⟩; refine ⟨_, rfl, ?_⟩; have n0_ := Aside0.mk (Kd.R_below (by (with_reducible repeat (first | apply Kd.R_alloc | apply Kd.R_drewN | apply Kd.R_drew)); exact HO_5.out) hb); have n1_ := Aside0.mk (Kd.R_elder' (by (with_reducible repeat (first | apply Kd.R_alloc | apply Kd.R_drewN | apply Kd.R_drew)); exact HO180.out) (Kd.R_base ho0) hb); have n2_ := Aside0.mk (Kd.R_elder' (by (with_reducible repeat (first | apply Kd.R_alloc | apply Kd.R_drewN | apply Kd.R_drew)); exact HO185.out) (Kd.R_base ho0) hb); have n3_ := Aside0.mk (Kd.R_lower (Kd.R_new' (Kd.R_new' ho0 (Kd.R_lt (by (with_reducible repeat (first | apply Kd.R_alloc | apply Kd.R_drewN | apply Kd.R_drew)); exact HO180.out))) (Kd.R_lt (by (with_reducible repeat (first | apply Kd.R_alloc | apply Kd.R_drewN | apply Kd.R_drew)); exact HO185.out))) (below_size bz_)); have n4_ := bl_ hb; clear HO_5; clear HO180; clear HO185; clear HB; have HO_5 := n0_; have HO180 := n1_; have HO185 := n2_; have HO188 := n3_; have HB := n4_; clear n0_ n1_ n2_ n3_ n4_; (try clear hb); (try clear hb2); (try clear hk); (try clear hi); (try clear ho0)))
             go_roundg k1
             case measure => have := HK1.out; omega
             case rel => exact ⟨(y182), (t186), H', ⟨by have := HK1.out; omega⟩, ⟨by (with_reducible repeat (first | apply Kd.R_alloc | apply Kd.R_drewN | apply Kd.R_drew)); exact HO_5.out⟩, ⟨by (with_reducible repeat (first | apply Kd.R_alloc | apply Kd.R_drewN | apply Kd.R_drew)); exact Kd.R_mono HO188.out (fun _ hk => trivial)⟩, ⟨bz_⟩⟩
           ·rw [if_neg c18] at H
            exact absurd H (by simp)
          ·rw [if_neg c17] at H
           exact absurd H (by simp)
         ·rw [if_neg c16] at H
          exact absurd H (by simp)
        ·rw [if_neg c15] at H
         exact absurd H (by simp)
       ·rw [if_neg c14] at H
        exact absurd H (by simp)
      ·rw [if_neg c12] at H
       have c12b0 : decide (0 < (x6_1.length : Int)) = false := decide_eq_false c12
       have c12b1 : decide (0 < x6_1.length) = false := decide_eq_false (by omega)
       clear c12
       obtain rfl := Option.some.inj H
       obtain ⟨Ao35, co35, eo35⟩ := Kd.R_slice HO_6.out
       subst eo35
       go_wp2
       (try rw [Exit.noGoto_ret])
       go_ret
       exact ⟨_, by first | rfl | (simp [errW_none, errW_some] <;> rfl) | (simp [*, errW_none, errW_some] <;> rfl), by (with_reducible repeat (first | apply Kd.R_alloc | apply Kd.R_drewN | apply Kd.R_drew)); exact HO_5.out, bz_⟩
  ·rw [if_neg c4] at H
   exact absurd H (by simp)
 ·rw [if_neg c3] at H
  exact absurd H (by simp)

end Go.Proofs.Ytkcneaaoghgllaa.PA
