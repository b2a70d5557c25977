import Derived.Test.YticijjonimiooaaPA0
import Derived.Test.YticijjonimiooaaSq
import Derived.Test.YticijjonimiooaaPA10
import Derived.Test.YticijjonimiooaaPA11
namespace Go.Proofs.Yticijjonimiooaa.PA
open Go.RowKit Go.Proofs.YticijjonimiooaaW.PrintWords Go.Proofs.YticijjonimiooaaW.PrintLast Go.Proofs.YticijjonimiooaaW.PrintMore
attribute [local go_sem] max2_int min2_int max_two min_two max_three min_three max_four min_four
set_option linter.unusedVariables false
set_option linter.unusedSimpArgs false
def lockgatekit_CopyBytes.l0 : Nat → List Int → List Int → Int → Option (List Int)
 | 0, _, _, _ => none
 | k + 1, x0, x3, x4 => if x4 < (x0.length : Int) then (if 0 ≤ x4 then (if x3.length < 140737488355328 then (lockgatekit_CopyBytes.l0 k x0 (x3 ++ [rd x0 x4]) (wrap64 (x4 + 1))) else (none)) else (none)) else (some x3)
def lockgatekit_CopyBytes.f (k : Nat) (l0 : List Int) : Option (List Int) := lockgatekit_CopyBytes.l0 k l0 ([] : List Int) 0
theorem lockgatekit_CopyBytes.mono_l : ∀ k, (∀ y0 y1 y2, LeO (lockgatekit_CopyBytes.l0 k y0 y1 y2) (lockgatekit_CopyBytes.l0 (k + 1) y0 y1 y2))
 | 0 => fun _ _ _ r h => by simp [lockgatekit_CopyBytes.l0] at h
 | k + 1 => by
  have ih0 := lockgatekit_CopyBytes.mono_l k
  intro y0 y1 y2
  unfold lockgatekit_CopyBytes.l0
  repeat' first
  | (with_reducible exact ih0 _ _ _)
  | (with_reducible exact LeO.refl _)
  | (with_reducible exact LeO.none _)
  | (with_reducible refine LeO.ite ?_ ?_)
  | (with_reducible refine LeO.bind ?_ (fun _ => ?_))
  | exact ih0 _ _ _
  | exact LeO.none _
  | refine LeO.ite ?_ ?_
  | refine LeO.bind ?_ (fun _ => ?_)
theorem lockgatekit_CopyBytes.mono : ∀ a0 k, LeO (lockgatekit_CopyBytes.f k a0) (lockgatekit_CopyBytes.f (k + 1) a0) := by
 intro a0 k
 have ih0 := lockgatekit_CopyBytes.mono_l k
 unfold lockgatekit_CopyBytes.f
 repeat' first
  | (with_reducible exact ih0 _ _ _)
  | (with_reducible exact LeO.refl _)
  | (with_reducible exact LeO.none _)
  | (with_reducible refine LeO.ite ?_ ?_)
  | (with_reducible refine LeO.bind ?_ (fun _ => ?_))
  | exact ih0 _ _ _
  | exact LeO.none _
  | refine LeO.ite ?_ ?_
  | refine LeO.bind ?_ (fun _ => ?_)
set_option maxHeartbeats 8000000 in
set_option maxRecDepth 100000 in
theorem lockgatekit_CopyBytes.calls (k : Nat) (A0 : Option Addr) (c0 : Nat) (l0 : List Int) (r : List Int) (w : World) (hr0 : Kd.C (Kd.int .u8) w A0 l0.length l0) (hc0 : l0.length ≤ c0) (h : lockgatekit_CopyBytes.f k l0 = some r) :
 Calls Try.prog 36 #[.slice A0 l0.length c0] w fun e w' => ∃ v0_ : Value, e = .returned (v0_) ∧ Kd.R (Kd.int .u8) 5 w' w.heap.size (fun _ => True) v0_ r ∧ Below w.heap.size w w' := by
 have HR0 := Aside0.mk hr0
 have HC0 := Aside0.mk hc0
 clear hr0 hc0
 have HB := Aside0.mk (Below.refl w.heap.size w)
 have H : (lockgatekit_CopyBytes.l0 k l0 ([] : List Int) 0) = some r := h
 clear h
 have H' := Aside0.mk H
 clear H
 go_enter Try.func36, Try.ntmps36
 go_wp2
 go_loopg [3, 4] k (fun kq v3 v4 w' => ∃ (x3_1 : List Int) (x4_1 : Int), v4 = .int .i64 x4_1 ∧ Aside0 (lockgatekit_CopyBytes.l0 kq l0 x3_1 x4_1 = some r) ∧ Aside0 (kq ≤ k) ∧ Aside0 (Kd.R (Kd.int .u8) 5 w' w.heap.size (fun _ => True) v3 x3_1) ∧ Aside0 (Below w.heap.size w w'))
 case atStart => exact ⟨(([] : List Int)), (0), vs_, H', ⟨Nat.le_refl _⟩, ⟨by first | exact Kd.R_nil _ _ _ _ _ | exact Kd.N_nil _ _ _ _ _ | exact Kd.V_nil _ _ _ _ _ | exact Kd.Q_nil _ _ _ _ _ | exact Kd.S_nil _ _ _ _ _⟩, ⟨bz_⟩⟩
 case round =>
  clear H'
  obtain ⟨x3_1, x4_1, rfl, HA, HK1, HO_3, HB⟩ := hrel
  cases gk with
  | zero => exact absurd HA.out (by simp [lockgatekit_CopyBytes.l0])
  | succ k1 =>
   have H := HA.out
   clear HA
   simp only [lockgatekit_CopyBytes.l0] at H
   by_cases c2 : x4_1 < (l0.length : Int)
   rotate_left
   ·rw [if_neg c2] at H
    have c2b0 : decide (x4_1 < (l0.length : Int)) = false := decide_eq_false c2
    clear c2
    obtain rfl := Option.some.inj H
    go_wp2
    go_ret
    exact ⟨_, by first | rfl | (simp [errW_none, errW_some] <;> rfl) | (simp [*, errW_none, errW_some] <;> rfl), by (with_reducible repeat (first | apply Kd.R_alloc | apply Kd.R_drewN | apply Kd.R_drew)); exact HO_3.out, bz_⟩
   rw [if_pos c2] at H
   have c2b0 : decide (x4_1 < (l0.length : Int)) = true := decide_eq_true c2
   clear c2
   by_cases c3 : 0 ≤ x4_1
   rotate_left
   ·rw [if_neg c3] at H
    exact absurd H (by simp)
   rw [if_pos c3] at H
   have c3b0 : decide (0 ≤ x4_1) = true := decide_eq_true c3
   clear c3
   by_cases c4 : x3_1.length < 140737488355328
   ·rw [if_pos c4] at H
    have LMc4 := Aside0.mk c4
    clear c4
    obtain ⟨y346, hy346⟩ : ∃ Y : List Int, Y = (x3_1 ++ [rd l0 x4_1]) := ⟨_, rfl⟩
    replace H : (lockgatekit_CopyBytes.l0 k1 l0 y346 (wrap64 (x4_1 + 1))) = some r := by first | (rw [hy346]; with_reducible exact H) | (have H2_ := (Option.bind_some _ _).symm.trans H; rw [hy346]; with_reducible exact H2_) | (have H2_ := (Option.bind_some _ _).symm.trans H; with_reducible exact H2_) | with_reducible exact H | (rw [hy346]; exact H) | exact H
    have Ny346 := Aside0.mk hy346
    clear hy346
    have H' := Aside0.mk H
    clear H
    have p345 : 0 ≤ (x4_1 : Int) := of_decide_eq_true as_
    have q345 : x4_1 < (l0.length : Int) := of_decide_eq_true as_
    obtain ⟨ad345, e345, hx345_0⟩ := Kd.at_int HR0.out x4_1 p345 q345
    cases e345
    replace hx345_0 := (hc_ HB hx345_0 :)
    replace p345 := eq_true p345
    replace q345 := eq_true q345
    go_wp2_with (first | ((with_reducible refine gate_builtin (b := .append) (xs := #[.tmp 11, .tmp 16]) rfl ?_); at_builtin; refine Kd.R_append (Kd.int .u8) (w0 := w) w.heap.size rfl (.tmp 11) (.tmp 16) 25 5 (.int .u8 0) 1 rfl Try.underlying25 info5 rfl (by decide) (by omega) u3 x3_1 (rd l0 x4_1) [.int .u8 (rd l0 x4_1)] (fun _ => True) (fun _ => False) rfl rfl ?aP (fun _ hk => hk.elim) ?aF ?aO ?aB ?aS ?aL ?_; (case aP => exact rfl); (case aB => exact bz_); (case aF => exact (fun _ _ => trivial)); (case aO => exact (ra_ HO_3.out)); (case aS => exact (below_size bz_)); (case aL => have := LMc4.out; omega); intro v347 w5 ho hb hg hat; rw [← Ny346.out] at ho; have n0_ := Aside0.mk (hb); have n1_ := Aside0.mk (ho); clear HB; clear HO_3; have HB := n0_; have HO348 := n1_; clear n0_ n1_; clear ho hb hg hat))
    go_roundg k1
    case measure => have := HK1.out; omega
    case rel => exact ⟨(y346), (wrap64 (x4_1 + 1)), vs_, H', ⟨by have := HK1.out; omega⟩, ⟨by (with_reducible repeat (first | apply Kd.R_alloc | apply Kd.R_drewN | apply Kd.R_drew)); exact HO348.out⟩, ⟨bz_⟩⟩
   rw [if_neg c4] at H
   exact absurd H (by simp)
def lockgatekit_LentBytes.l0 : Nat → List Int → Int → Option (List Int)
 | 0, _, _ => none
 | k + 1, x3, x4 => if x4 < 5 then ((lockgatekit_markBytes.f x4).bind fun t352 => (if x3.length < 140737488355328 then (lockgatekit_LentBytes.l0 k (x3 ++ [t352]) (wrap64 (x4 + 1))) else (none))) else (some x3)
def lockgatekit_LentBytes.f (k : Nat) (l0 : List Int) : Option (List Int) := (lockgatekit_CopyBytes.f k l0).bind fun t349 => (lockgatekit_LentBytes.l0 k t349 0)
theorem lockgatekit_LentBytes.mono_l : ∀ k, (∀ y0 y1, LeO (lockgatekit_LentBytes.l0 k y0 y1) (lockgatekit_LentBytes.l0 (k + 1) y0 y1))
 | 0 => fun _ _ r h => by simp [lockgatekit_LentBytes.l0] at h
 | k + 1 => by
  have ih0 := lockgatekit_LentBytes.mono_l k
  intro y0 y1
  unfold lockgatekit_LentBytes.l0
  repeat' first
  | (with_reducible exact ih0 _ _)
  | (with_reducible exact lockgatekit_CopyBytes.mono _ _)
  | (with_reducible exact LeO.refl _)
  | (with_reducible exact LeO.none _)
  | (with_reducible refine LeO.ite ?_ ?_)
  | (with_reducible refine LeO.bind ?_ (fun _ => ?_))
  | exact ih0 _ _
  | exact lockgatekit_CopyBytes.mono _ _
  | exact LeO.none _
  | refine LeO.ite ?_ ?_
  | refine LeO.bind ?_ (fun _ => ?_)
theorem lockgatekit_LentBytes.mono : ∀ a0 k, LeO (lockgatekit_LentBytes.f k a0) (lockgatekit_LentBytes.f (k + 1) a0) := by
 intro a0 k
 have ih0 := lockgatekit_LentBytes.mono_l k
 unfold lockgatekit_LentBytes.f
 repeat' first
  | (with_reducible exact ih0 _ _)
  | (with_reducible exact lockgatekit_CopyBytes.mono _ _)
  | (with_reducible exact LeO.refl _)
  | (with_reducible exact LeO.none _)
  | (with_reducible refine LeO.ite ?_ ?_)
  | (with_reducible refine LeO.bind ?_ (fun _ => ?_))
  | exact ih0 _ _
  | exact lockgatekit_CopyBytes.mono _ _
  | exact LeO.none _
  | refine LeO.ite ?_ ?_
  | refine LeO.bind ?_ (fun _ => ?_)
set_option maxHeartbeats 8000000 in
set_option maxRecDepth 100000 in
theorem lockgatekit_LentBytes.calls (k : Nat) (A0 : Option Addr) (c0 : Nat) (l0 : List Int) (r : List Int) (w : World) (hr0 : Kd.C (Kd.int .u8) w A0 l0.length l0) (hc0 : l0.length ≤ c0) (h : lockgatekit_LentBytes.f k l0 = some r) :
 Calls Try.prog 18 #[.slice A0 l0.length c0] w fun e w' => ∃ v0_ : Value, e = .returned (v0_) ∧ Kd.R (Kd.int .u8) 5 w' w.heap.size (fun _ => True) v0_ r ∧ Below w.heap.size w w' := by
 have HR0 := Aside0.mk hr0
 have HC0 := Aside0.mk hc0
 clear hr0 hc0
 have HB := Aside0.mk (Below.refl w.heap.size w)
 have H : ((lockgatekit_CopyBytes.f k l0).bind fun t349 => (lockgatekit_LentBytes.l0 k t349 0)) = some r := h
 clear h
 replace H := Option.bind_eq_some_iff.mp H
 obtain ⟨t349, A20, H⟩ := H
 (try dsimp only at H)
 have A2 := Aside0.mk A20
 clear A20
 have H' := Aside0.mk H
 clear H
 go_enter Try.func18, Try.ntmps18
 go_wp2_with (first | ((with_reducible refine gate_callee (f := 36) rfl ?_); refine goesL_ (some 6) rfl rfl Try.func36 (by kernel_rfl) rfl #[.slice A0 l0.length c0] rfl mp_ ?_; (with_reducible refine (lockgatekit_CopyBytes.calls k _ _ l0 t349 _ ?side1 ?side2 A2.out).mono ?_); (case side1 => exact ca_ HR0.out); (case side2 => exact HC0.out); rintro e w3 ⟨v350, rfl, ho0, hb⟩; refine ⟨_, rfl, ?_⟩; have HO351 := Aside0.mk (Kd.R_lower ho0 (below_size bz_)); replace HB := bl_ hb; (try clear hb); (try clear hk); (try clear ho0)))
 go_loopg [3, 4] k (fun kq v3 v4 w' => ∃ (x3_1 : List Int) (x4_1 : Int), v4 = .int .i64 x4_1 ∧ Aside0 (lockgatekit_LentBytes.l0 kq x3_1 x4_1 = some r) ∧ Aside0 (kq ≤ k) ∧ Aside0 (Kd.R (Kd.int .u8) 5 w' w.heap.size (fun _ => True) v3 x3_1) ∧ Aside0 (Below w.heap.size w w'))
 case atStart => exact ⟨(t349), (0), vs_, H', ⟨Nat.le_refl _⟩, ⟨by (with_reducible repeat (first | apply Kd.R_alloc | apply Kd.R_drewN | apply Kd.R_drew)); exact HO351.out⟩, ⟨bz_⟩⟩
 case round =>
  clear H'
  try clear c1
  try clear p2
  try clear c3
  obtain ⟨x3_1, x4_1, rfl, HA, HK1, HO_3, HB⟩ := hrel
  cases gk with
  | zero => exact absurd HA.out (by simp [lockgatekit_LentBytes.l0])
  | succ k1 =>
   have H := HA.out
   clear HA
   simp only [lockgatekit_LentBytes.l0] at H
   by_cases c4 : x4_1 < 5
   ·rw [if_pos c4] at H
    have c4b0 : decide (x4_1 < 5) = true := decide_eq_true c4
    clear c4
    replace H := Option.bind_eq_some_iff.mp H
    obtain ⟨t352, A50, H⟩ := H
    (try dsimp only at H)
    have A5 := Aside0.mk A50
    clear A50
    by_cases c6 : x3_1.length < 140737488355328
    ·rw [if_pos c6] at H
     have LMc6 := Aside0.mk c6
     clear c6
     obtain ⟨y353, hy353⟩ : ∃ Y : List Int, Y = (x3_1 ++ [t352]) := ⟨_, rfl⟩
     replace H : (lockgatekit_LentBytes.l0 k1 y353 (wrap64 (x4_1 + 1))) = some r := by first | (rw [hy353]; with_reducible exact H) | (have H2_ := (Option.bind_some _ _).symm.trans H; rw [hy353]; with_reducible exact H2_) | (have H2_ := (Option.bind_some _ _).symm.trans H; with_reducible exact H2_) | with_reducible exact H | (rw [hy353]; exact H) | exact H
     have Ny353 := Aside0.mk hy353
     clear hy353
     have H' := Aside0.mk H
     clear H
     go_wp2_with (first | ((with_reducible refine gate_callee (f := 35) rfl ?_); refine gM_ 13 Try.func35 (lockgatekit_markBytes.calls x4_1 t352 _ A5.out) ?_; rintro w' ⟨nd, rfl⟩) | ((with_reducible refine gate_builtin (b := .append) (xs := #[.tmp 11, .tmp 14]) rfl ?_); at_builtin; refine Kd.R_append (Kd.int .u8) (w0 := w) w.heap.size rfl (.tmp 11) (.tmp 14) 25 5 (.int .u8 0) 1 rfl Try.underlying25 info5 rfl (by decide) (by omega) u3 x3_1 t352 [.int .u8 t352] (fun _ => True) (fun _ => False) rfl rfl ?aP (fun _ hk => hk.elim) ?aF ?aO ?aB ?aS ?aL ?_; (case aP => exact rfl); (case aB => exact bz_); (case aF => exact (fun _ _ => trivial)); (case aO => exact (ra_ HO_3.out)); (case aS => exact (below_size bz_)); (case aL => have := LMc6.out; omega); intro v354 w7 ho hb hg hat; rw [← Ny353.out] at ho; have n0_ := Aside0.mk (hb); have n1_ := Aside0.mk (ho); clear HB; clear HO_3; have HB := n0_; have HO355 := n1_; clear n0_ n1_; clear ho hb hg hat))
     go_roundg k1
     case measure => have := HK1.out; omega
     case rel => exact ⟨(y353), (wrap64 (x4_1 + 1)), vs_, H', ⟨by have := HK1.out; omega⟩, ⟨by (with_reducible repeat (first | apply Kd.R_alloc | apply Kd.R_drewN | apply Kd.R_drew)); exact HO355.out⟩, ⟨bz_⟩⟩
    rw [if_neg c6] at H
    exact absurd H (by simp)
   rw [if_neg c4] at H
   have c4b0 : decide (x4_1 < 5) = false := decide_eq_false c4
   clear c4
   obtain rfl := Option.some.inj H
   go_wp2
   go_ret
   exact ⟨_, by first | rfl | (simp [errW_none, errW_some] <;> rfl) | (simp [*, errW_none, errW_some] <;> rfl), by (with_reducible repeat (first | apply Kd.R_alloc | apply Kd.R_drewN | apply Kd.R_drew)); exact HO_3.out, bz_⟩
def lockgatekit_SpoilInsns.l0 : Nat → List (S40) → Int → Option ((List (S40)))
 | 0, _, _ => none
 | k + 1, x0, x2 => if x2 < (x0.length : Int) then ((lockgatekit_markInsns.f (wrap64 (x2 + 7))).bind fun bt386 => (if 0 ≤ x2 then (lockgatekit_SpoilInsns.l0 k (x0.set (x2 : Int).toNat (⟨bt386.1, bt386.2.1, bt386.2.2.1, bt386.2.2.2.1, bt386.2.2.2.2⟩ : S40)) (wrap64 (x2 + 1))) else (none))) else (some x0)
def lockgatekit_SpoilInsns.f (k : Nat) (l0 : List (S40)) : Option ((List (S40))) := lockgatekit_SpoilInsns.l0 k l0 0
theorem lockgatekit_SpoilInsns.mono_l : ∀ k, (∀ y0 y1, LeO (lockgatekit_SpoilInsns.l0 k y0 y1) (lockgatekit_SpoilInsns.l0 (k + 1) y0 y1))
 | 0 => fun _ _ r h => by simp [lockgatekit_SpoilInsns.l0] at h
 | k + 1 => by
  have ih0 := lockgatekit_SpoilInsns.mono_l k
  intro y0 y1
  unfold lockgatekit_SpoilInsns.l0
  repeat' first
  | (with_reducible exact ih0 _ _)
  | (with_reducible exact LeO.refl _)
  | (with_reducible exact LeO.none _)
  | (with_reducible refine LeO.ite ?_ ?_)
  | (with_reducible refine LeO.bind ?_ (fun _ => ?_))
  | exact ih0 _ _
  | exact LeO.none _
  | refine LeO.ite ?_ ?_
  | refine LeO.bind ?_ (fun _ => ?_)
theorem lockgatekit_SpoilInsns.mono : ∀ a0 k, LeO (lockgatekit_SpoilInsns.f k a0) (lockgatekit_SpoilInsns.f (k + 1) a0) := by
 intro a0 k
 have ih0 := lockgatekit_SpoilInsns.mono_l k
 unfold lockgatekit_SpoilInsns.f
 repeat' first
  | (with_reducible exact ih0 _ _)
  | (with_reducible exact LeO.refl _)
  | (with_reducible exact LeO.none _)
  | (with_reducible refine LeO.ite ?_ ?_)
  | (with_reducible refine LeO.bind ?_ (fun _ => ?_))
  | exact ih0 _ _
  | exact LeO.none _
  | refine LeO.ite ?_ ?_
  | refine LeO.bind ?_ (fun _ => ?_)
set_option maxHeartbeats 8000000 in
set_option maxRecDepth 100000 in
theorem lockgatekit_SpoilInsns.calls (k : Nat) (P0_ : Nat → Prop) (u9000_ : Value) (l0 : List (S40)) (r : List (S40)) (w0 w : World) (hB : Below w0.heap.size w0 w) (ho0 : Kd.R k40 40 w w0.heap.size P0_ u9000_ l0) (h : lockgatekit_SpoilInsns.f k l0 = some r) :
 Calls Try.prog 22 #[u9000_] w fun e w' => e = .returned (.tuple #[]) ∧ Kd.R k40 40 w' w0.heap.size (fun k_ => (P0_ k_ ∨ w.heap.size ≤ k_)) u9000_ r ∧ Below w0.heap.size w0 w' ∧ Kept w w' (fun k_ => P0_ k_) := by
 have hu40 := Try.underlying40
 have HO0 := Aside0.mk (show Kd.R k40 40 w w0.heap.size (fun k_ => (P0_ k_ ∨ w.heap.size ≤ k_)) u9000_ l0 from Kd.R_mono ho0 (fun k_ hk => (.inl hk)))
 have HK := Aside0.mk (Kept.refl w (fun k_ => P0_ k_))
 have HW0 := Aside0.mk hB.size
 have HB := Aside0.mk hB
 clear hB
 have H : (lockgatekit_SpoilInsns.l0 k l0 0) = some r := h
 clear h
 have H' := Aside0.mk H
 clear H
 go_enter Try.func22, Try.ntmps22
 go_wp2
 go_loopg [2] k (fun kq v2 w' => ∃ (x0_1 : List (S40)) (x2_1 : Int), v2 = .int .i64 x2_1 ∧ Aside0 (lockgatekit_SpoilInsns.l0 kq x0_1 x2_1 = some r) ∧ Aside0 (kq ≤ k) ∧ Aside0 (Kd.R k40 40 w' w0.heap.size (fun k_ => (P0_ k_ ∨ w.heap.size ≤ k_)) u9000_ x0_1) ∧ Aside0 (Kept w w' (fun k_ => P0_ k_)) ∧ Aside0 (Below w0.heap.size w0 w'))
 case atStart => exact ⟨(l0), (0), vs_, H', ⟨Nat.le_refl _⟩, ⟨by (with_reducible repeat (first | apply Kd.R_alloc | apply Kd.R_drewN | apply Kd.R_drew)); exact HO0.out⟩, ⟨by repeat (first | (with_reducible first | exact HK.out | apply Kept.alloc | apply Kept.drewN | apply Kept.drew) | exact HK.out)⟩, ⟨bz_⟩⟩
 case round =>
  clear H'
  obtain ⟨x0_1, x2_1, rfl, HA, HK1, HO_0, HK, HB⟩ := hrel
  cases gk with
  | zero => exact absurd HA.out (by simp [lockgatekit_SpoilInsns.l0])
  | succ k1 =>
   have H := HA.out
   clear HA
   simp only [lockgatekit_SpoilInsns.l0] at H
   by_cases c2 : x2_1 < (x0_1.length : Int)
   ·rw [if_pos c2] at H
    have c2b0 : decide (x2_1 < (x0_1.length : Int)) = true := decide_eq_true c2
    clear c2
    replace H := Option.bind_eq_some_iff.mp H
    obtain ⟨⟨t386, t387, t388, t389, t390⟩, A30, H⟩ := H
    (try dsimp only at H)
    have A3 := Aside0.mk A30
    clear A30
    by_cases c4 : 0 ≤ x2_1
    ·rw [if_pos c4] at H
     have c4b0 : decide (0 ≤ x2_1) = true := decide_eq_true c4
     clear c4
     obtain ⟨y391, hy391⟩ : ∃ Y : List (S40), Y = (x0_1.set (x2_1 : Int).toNat (⟨t386, t387, t388, t389, t390⟩ : S40)) := ⟨_, rfl⟩
     replace H : (lockgatekit_SpoilInsns.l0 k1 y391 (wrap64 (x2_1 + 1))) = some r := by first | (rw [hy391]; with_reducible exact H) | (have H2_ := (Option.bind_some _ _).symm.trans H; rw [hy391]; with_reducible exact H2_) | (have H2_ := (Option.bind_some _ _).symm.trans H; with_reducible exact H2_) | with_reducible exact H | (rw [hy391]; exact H) | exact H
     have Ny391 := Aside0.mk hy391
     clear hy391
     have H' := Aside0.mk H
     clear H
     obtain ⟨Ao6, co6, eo6⟩ := Kd.R_slice HO_0.out
     subst eo6
     go_wp2_with (first | ((with_reducible refine gate_callee (f := 32) rfl ?_); refine gM_ 13 Try.func32 (lockgatekit_markInsns.calls (wrap64 (x2_1 + 7)) t386 t387 t388 t389 t390 _ A3.out) ?_; intro w7 hb; replace HO_0 := Aside0.mk (Kd.R_below (ra_ HO_0.out) hb); replace HK := Aside0.mk (Kept.below (S := (fun k_ => P0_ k_)) (by repeat (first | (with_reducible first | exact HK.out | apply Kept.alloc | apply Kept.drewN | apply Kept.drew) | exact HK.out)) hb); replace HB := bl_ hb; (try clear hb); (try clear hk); have p5 : 0 ≤ (x2_1 : Int) := of_decide_eq_true as_; have q5 : (x2_1 : Int) < ((x0_1.length : Int) : Int) := of_decide_eq_true as_; obtain ⟨go5, co5, eo5, gb5, gl5, cl5, HG5⟩ := Kd.R_form HO_0.out (by omega); (first | cases eo5 | (injection eo5 with ea_ en_ ec_; (first | subst ea_ | (injection ea_ with ea_; subst ea_)); subst ec_; clear en_)); have GB5 := Aside0.mk gb5; have GG5 := Aside0.mk HG5; clear gb5 gl5 HG5; have HMgo5 := Aside0.mk (show (P0_ go5 ∨ w.heap.size ≤ go5) from (HO_0.out.1 _ rfl)); obtain ⟨ce5, hcl5, hM5, hcc5, hfr5⟩ := Kd.R_elem HO_0.out z40 (x2_1 : Int) p5 q5; obtain rfl := k40_openM hM5; have hx5_0 : w7.cell? ⟨go5, (x2_1 : Int).toNat * 5, none⟩ = some (.int .i64 ((rd_T40 x0_1 x2_1).f0)) := hcc5 0 _ rfl; have hx5_1 : w7.cell? ⟨go5, (x2_1 : Int).toNat * 5 + 1, none⟩ = some (.int .i64 ((rd_T40 x0_1 x2_1).f1)) := hcc5 1 _ rfl; have hx5_2 : w7.cell? ⟨go5, (x2_1 : Int).toNat * 5 + 2, none⟩ = some (.int .i64 ((rd_T40 x0_1 x2_1).f2)) := hcc5 2 _ rfl; have hx5_3 : w7.cell? ⟨go5, (x2_1 : Int).toNat * 5 + 3, none⟩ = some (.int .i64 ((rd_T40 x0_1 x2_1).f3)) := hcc5 3 _ rfl; have hx5_4 : w7.cell? ⟨go5, (x2_1 : Int).toNat * 5 + 4, none⟩ = some (.int .i64 ((rd_T40 x0_1 x2_1).f4)) := hcc5 4 _ rfl; have hf5_0 : w7.frozen? ⟨go5, (x2_1 : Int).toNat * 5, none⟩ = false := hfr5 0; have hf5_1 : w7.frozen? ⟨go5, (x2_1 : Int).toNat * 5 + 1, none⟩ = false := hfr5 1; have hf5_2 : w7.frozen? ⟨go5, (x2_1 : Int).toNat * 5 + 2, none⟩ = false := hfr5 2; have hf5_3 : w7.frozen? ⟨go5, (x2_1 : Int).toNat * 5 + 3, none⟩ = false := hfr5 3; have hf5_4 : w7.frozen? ⟨go5, (x2_1 : Int).toNat * 5 + 4, none⟩ = false := hfr5 4; clear hcl5 hcc5 hfr5 hM5; replace p5 := eq_true p5; replace q5 := eq_true q5; have HX8 := Aside0.mk (show Kd.R k40 40 w7 w0.heap.size (fun k_ => (P0_ k_ ∨ w.heap.size ≤ k_)) (.slice (some ⟨go5, 0, none⟩) x0_1.length co6) x0_1 from (ra_ HO_0.out)); obtain ⟨ce8, hcl8, hM8, hcc8, hfr8⟩ := Kd.R_elem HX8.out z40 (x2_1 : Int) (of_decide_eq_true as_) (by have h_ : (x2_1 : Int) < ((x0_1.length : Int) : Int) := of_decide_eq_true as_; first | exact h_ | (have e_ := (Kd.R_reads' HO_0.out).1; omega) | simpa using h_); obtain rfl := k40_openM hM8; have HP8 := Kd.R_seg HX8.out (x2_1 : Int) (of_decide_eq_true as_) (by have h_ : (x2_1 : Int) < ((x0_1.length : Int) : Int) := of_decide_eq_true as_; first | exact h_ | (have e_ := (Kd.R_reads' HO_0.out).1; omega) | simpa using h_) (seg := [.int .i64 t386, .int .i64 t387, .int .i64 t388, .int .i64 t389, .int .i64 t390]) (j := 0) hcl8 hcc8 (show 5 ≤ 5 from by decide) (x' := (⟨t386, t387, t388, t389, t390⟩ : S40)) (k40_mkM _ _ _ (⟨t386, t387, t388, t389, t390⟩ : S40) ) (fun _ hk => hk); have hx8_0 := hcc8 0 _ rfl; (try simp only [show (k40).sz = 5 from rfl, Nat.mul_one, Nat.add_zero] at hx8_0); have hf8_0 := hfr8 0; (try simp only [show (k40).sz = 5 from rfl, Nat.mul_one, Nat.add_zero] at hf8_0); have hx8_1 := hcc8 1 _ rfl; (try simp only [show (k40).sz = 5 from rfl, Nat.mul_one, Nat.add_zero] at hx8_1); have hf8_1 := hfr8 1; (try simp only [show (k40).sz = 5 from rfl, Nat.mul_one, Nat.add_zero] at hf8_1); have hx8_2 := hcc8 2 _ rfl; (try simp only [show (k40).sz = 5 from rfl, Nat.mul_one, Nat.add_zero] at hx8_2); have hf8_2 := hfr8 2; (try simp only [show (k40).sz = 5 from rfl, Nat.mul_one, Nat.add_zero] at hf8_2); have hx8_3 := hcc8 3 _ rfl; (try simp only [show (k40).sz = 5 from rfl, Nat.mul_one, Nat.add_zero] at hx8_3); have hf8_3 := hfr8 3; (try simp only [show (k40).sz = 5 from rfl, Nat.mul_one, Nat.add_zero] at hf8_3); have hx8_4 := hcc8 4 _ rfl; (try simp only [show (k40).sz = 5 from rfl, Nat.mul_one, Nat.add_zero] at hx8_4); have hf8_4 := hfr8 4; (try simp only [show (k40).sz = 5 from rfl, Nat.mul_one, Nat.add_zero] at hf8_4); clear hcl8 hcc8 hfr8 hM8) | ((with_reducible refine gate_store (t := 40) (p := 14) rfl ?_); refine store_event (t := 40) (p := 14) (v := ?vo_w9) (w1 := (((((w7.setCell ⟨go5, (x2_1 : Int).toNat * 5, none⟩ (.int .i64 t386)).setCell ⟨go5, (x2_1 : Int).toNat * 5 + 1, none⟩ (.int .i64 t387)).setCell ⟨go5, (x2_1 : Int).toNat * 5 + 2, none⟩ (.int .i64 t388)).setCell ⟨go5, (x2_1 : Int).toNat * 5 + 3, none⟩ (.int .i64 t389)).setCell ⟨go5, (x2_1 : Int).toNat * 5 + 4, none⟩ (.int .i64 t390))) ?hg ?ho ?hn ?hr ?_; (case ho => rfl); (case hg => rfl); (case hn => rfl); (case hr => first | (go_simp; done) | (go_simp; rfl)); intro w9 hw; have hg : w7.grownBy w9 (some go5) := (by rw [hw]; exact HP8.2); have hp_ : Kd.R k40 40 w9 w0.heap.size (fun k_ => (P0_ k_ ∨ w.heap.size ≤ k_)) (.slice (some ⟨go5, 0, none⟩) x0_1.length co6) y391 := (by rw [hw, Ny391.out]; exact HP8.1); clear HP8; have n0_ := Aside0.mk (hp_); have n1_ := Aside0.mk ((by rw [hw]; exact below_set (below_set (below_set (below_set (below_set (HB.out) GB5.out) GB5.out) GB5.out) GB5.out) GB5.out : Below w0.heap.size w0 w9)); have n2_ := Aside0.mk (Kept.of_grown (S := (fun k_ => P0_ k_)) hg (by repeat (first | (with_reducible first | exact HK.out | apply Kept.alloc | apply Kept.drewN | apply Kept.drew) | exact HK.out)) (fun k_ e_ => (HO_0.out.1 k_ e_))); clear HO_0; clear HB; clear HK; have HO_0 := n0_; have HB := n1_; have HK := n2_; clear n0_ n1_ n2_; clear hg hw hp_))
     go_roundg k1
     case measure => have := HK1.out; omega
     case rel => exact ⟨(y391), (wrap64 (x2_1 + 1)), vs_, H', ⟨by have := HK1.out; omega⟩, ⟨by (with_reducible repeat (first | apply Kd.R_alloc | apply Kd.R_drewN | apply Kd.R_drew)); exact HO_0.out⟩, ⟨by repeat (first | (with_reducible first | exact HK.out | apply Kept.alloc | apply Kept.drewN | apply Kept.drew) | exact HK.out)⟩, ⟨bz_⟩⟩
    rw [if_neg c4] at H
    exact absurd H (by simp)
   rw [if_neg c2] at H
   have c2b0 : decide (x2_1 < (x0_1.length : Int)) = false := decide_eq_false c2
   clear c2
   obtain rfl := Option.some.inj H
   obtain ⟨Ao10, co10, eo10⟩ := Kd.R_slice HO_0.out
   subst eo10
   go_wp2
   first | go_end0 | ((try simp only [Exit.inBlock, Exit.then]); refine bodyPost_ret (results_none rfl _ _ _) rfl ?_)
   exact ⟨vv_, by (with_reducible repeat (first | apply Kd.R_alloc | apply Kd.R_drewN | apply Kd.R_drew)); exact HO_0.out, by repeat (first | (with_reducible first | exact HB.out | apply lA_ | apply lN_ | apply lD_) | exact HB.out), by repeat (first | (with_reducible first | exact HK.out | apply Kept.alloc | apply Kept.drewN | apply Kept.drew) | exact HK.out)⟩
end Go.Proofs.Yticijjonimiooaa.PA
