-- PRINTED by print.py (a twelfth state) out of the translation. Not trusted: Lean checks it.
import Derived.Test.YtkcneaaoghgllaaWGuard
import Derived.Test.YtkcneaaoghgllaaPA0
import Derived.Test.YtkcneaaoghgllaaSq
import Derived.Test.YtkcneaaoghgllaaPA12
namespace Go.Proofs.Ytkcneaaoghgllaa.PA
open Go.RowKit Go.Proofs.YtkcneaaoghgllaaW.PrintWords Go.Proofs.YtkcneaaoghgllaaW.PrintLast Go.Proofs.YtkcneaaoghgllaaW.PrintMore
attribute [local go_sem] max2_int min2_int max_two min_two max_three min_three max_four min_four   -- for this text's walks alone
set_option linter.unusedVariables false
set_option linter.unusedSimpArgs false

/-! ### lockgateref06_Next: function 19 -/
def lockgateref06_Next.j0 : Nat → List (S42) → List Int → Int → List Int → Bool → Option (List Int)
 | 0, _, _, _, _, _ => none
 | k + 1, x0, x1, x2, x7, x22 => if x22 = true then (some x7) else (if 0 ≤ x2 then (if x2 < (x0.length : Int) then ((lockgateref06_Ja.f ((rd_T42 x0 x2).f0) ((rd_T42 x0 x2).f1) ((rd_T42 x0 x2).f2) ((rd_T42 x0 x2).f3) ((rd_T42 x0 x2).f4)).bind fun t277 => (if t277 = true then (if x2 < (x1.length : Int) then (if (rd x1 x2) ≥ 0 then ((lockgateref06_Ja.f ((rd_T42 x0 x2).f0) ((rd_T42 x0 x2).f1) ((rd_T42 x0 x2).f2) ((rd_T42 x0 x2).f3) ((rd_T42 x0 x2).f4)).bind fun t280 => (if t280 = true then (if x7.length < 17592186044416 then (some (x7 ++ [rd x1 x2])) else (none)) else (if (rd x1 x2) = (wrap64 (x2 + 1)) then (some x7) else (if x7.length < 17592186044416 then (some (x7 ++ [rd x1 x2])) else (none))))) else (some x7)) else (none)) else (if x7.length < 17592186044416 then ((some (x7 ++ [wrap64 (x2 + 1)] : List Int)).bind fun y290 => (if x2 < (x1.length : Int) then (if (rd x1 x2) ≥ 0 then ((lockgateref06_Ja.f ((rd_T42 x0 x2).f0) ((rd_T42 x0 x2).f1) ((rd_T42 x0 x2).f2) ((rd_T42 x0 x2).f3) ((rd_T42 x0 x2).f4)).bind fun t295 => (if t295 = true then (if y290.length < 17592186044416 then (some (y290 ++ [rd x1 x2])) else (none)) else (if (rd x1 x2) = (wrap64 (x2 + 1)) then (some y290) else (if y290.length < 17592186044416 then (some (y290 ++ [rd x1 x2])) else (none))))) else (some y290)) else (none))) else (none)))) else (none)) else (none))
def lockgateref06_Next.f (k : Nat) (l0 : List (S42)) (l1 : List Int) (a2 : Int) : Option (List Int) := if a2 < 0 then (lockgateref06_Next.j0 k l0 l1 a2 ([] : List Int) true) else (if a2 ≥ (l0.length : Int) then (lockgateref06_Next.j0 k l0 l1 a2 ([] : List Int) true) else (if 0 ≤ a2 then (if a2 < (l0.length : Int) then ((lockgateref06_Exit.f ((rd_T42 l0 a2).f0) ((rd_T42 l0 a2).f1) ((rd_T42 l0 a2).f2) ((rd_T42 l0 a2).f3) ((rd_T42 l0 a2).f4)).bind fun t275 => (lockgateref06_Next.j0 k l0 l1 a2 ([] : List Int) t275)) else (none)) else (none)))
theorem lockgateref06_Next.mono_l : ∀ k, (∀ y0 y1 y2 y3 y4, LeO (lockgateref06_Next.j0 k y0 y1 y2 y3 y4) (lockgateref06_Next.j0 (k + 1) y0 y1 y2 y3 y4))
 | 0 => fun _ _ _ _ _ r h => by simp [lockgateref06_Next.j0] at h
 | k + 1 => by
  have ih0 := lockgateref06_Next.mono_l k
  ·intro y0 y1 y2 y3 y4
   unfold lockgateref06_Next.j0
   repeat' first
   | (with_reducible exact ih0 _ _ _ _ _)
   | (with_reducible exact LeO.refl _)
   | (with_reducible exact LeO.none _)
   | (with_reducible refine LeO.ite ?_ ?_)
   | (with_reducible refine LeO.bind ?_ (fun _ => ?_))
   | exact ih0 _ _ _ _ _
   | exact LeO.none _
   | refine LeO.ite ?_ ?_
   | refine LeO.bind ?_ (fun _ => ?_)
theorem lockgateref06_Next.mono : ∀ a0 a1 a2 k, LeO (lockgateref06_Next.f k a0 a1 a2) (lockgateref06_Next.f (k + 1) a0 a1 a2) := by
 intro a0 a1 a2 k
 have ih0 := lockgateref06_Next.mono_l k
 unfold lockgateref06_Next.f
 repeat' first
  | (with_reducible exact ih0 _ _ _ _ _)
  | (with_reducible exact LeO.refl _)
  | (with_reducible exact LeO.none _)
  | (with_reducible refine LeO.ite ?_ ?_)
  | (with_reducible refine LeO.bind ?_ (fun _ => ?_))
  | exact ih0 _ _ _ _ _
  | exact LeO.none _
  | refine LeO.ite ?_ ?_
  | refine LeO.bind ?_ (fun _ => ?_)
set_option maxHeartbeats 8000000 in
set_option maxRecDepth 100000 in
theorem lockgateref06_Next.calls (k : Nat) (A0 : Option Addr) (c0 : Nat) (l0 : List (S42)) (A1 : Option Addr) (c1 : Nat) (l1 : List Int) (a2 : Int) (r : List Int) (w : World) (hr0 : Kd.C k42 w A0 l0.length l0) (hc0 : l0.length ≤ c0) (hr1 : Kd.C (Kd.int .i64) w A1 l1.length l1) (hc1 : l1.length ≤ c1) (h : lockgateref06_Next.f k l0 l1 a2 = some r) :
 Calls Try.prog 19 #[.slice A0 l0.length c0, .slice A1 l1.length c1, .int .i64 a2] w fun e w' => ∃ v0_ : Value, e = .returned (v0_) ∧ Kd.R (Kd.int .i64) 3 w' w.heap.size (fun _ => True) v0_ r ∧ Below w.heap.size w w' := by
 have hu42 := Try.underlying42
 have HR0 := Aside0.mk hr0
 have HC0 := Aside0.mk hc0
 clear hr0 hc0
 have HR1 := Aside0.mk hr1
 have HC1 := Aside0.mk hc1
 clear hr1 hc1
 have HB := Aside0.mk (Below.refl w.heap.size w)
 have H : (if a2 < 0 then (lockgateref06_Next.j0 k l0 l1 a2 ([] : List Int) true) else (if a2 ≥ (l0.length : Int) then (lockgateref06_Next.j0 k l0 l1 a2 ([] : List Int) true) else (if 0 ≤ a2 then (if a2 < (l0.length : Int) then ((lockgateref06_Exit.f ((rd_T42 l0 a2).f0) ((rd_T42 l0 a2).f1) ((rd_T42 l0 a2).f2) ((rd_T42 l0 a2).f3) ((rd_T42 l0 a2).f4)).bind fun t275 => (lockgateref06_Next.j0 k l0 l1 a2 ([] : List Int) t275)) else (none)) else (none)))) = some r := h
 clear h
 have HC4 := Aside0.mk H
 clear H
 go_enter Try.func19, Try.ntmps19
 go_upto_region 2 with (fail)
 go_cut [22] (fun v22 wc => ∃ (kq : Nat) (x22_3 : Bool), v22 = .bool x22_3 ∧ Aside0 (lockgateref06_Next.j0 kq l0 l1 a2 ([] : List Int) x22_3 = some r) ∧ Aside0 (kq ≤ k) ∧ Aside0 (Kd.R (Kd.int .i64) 3 wc w.heap.size (fun _ => True) (.slice none 0 0) ([] : List Int)) ∧ Aside0 (Below w.heap.size w wc))
 case first =>
  have H := HC4.out
  clear HC4
  by_cases c5 : a2 < 0
  ·rw [if_pos c5] at H
   have c5b0 : decide (a2 < 0) = true := decide_eq_true c5
   clear c5
   (first | rw [c5b0] | (simp only [i64_w, i32_w]; rw [c5b0]) | skip)
   have H' := Aside0.mk H
   clear H
   go_wp2
   go_meet
   case rel => exact ⟨_, (true), (by first | rfl | (simp; done) | (simp [*]; done)), H', ⟨by first | omega | exact Nat.le_refl _⟩, ⟨by first | exact Kd.R_nil _ _ _ _ _ | exact Kd.N_nil _ _ _ _ _ | exact Kd.V_nil _ _ _ _ _ | exact Kd.Q_nil _ _ _ _ _ | exact Kd.S_nil _ _ _ _ _⟩, ⟨bz_⟩⟩
  ·rw [if_neg c5] at H
   have c5b0 : decide (a2 < 0) = false := decide_eq_false c5
   clear c5
   (first | rw [c5b0] | (simp only [i64_w, i32_w]; rw [c5b0]) | skip)
   by_cases c6 : a2 ≥ (l0.length : Int)
   ·rw [if_pos c6] at H
    have c6b0 : decide ((l0.length : Int) ≤ a2) = true := decide_eq_true c6
    clear c6
    have H' := Aside0.mk H
    clear H
    go_wp2
    go_meet
    case rel => exact ⟨_, (true), (by first | rfl | (simp; done) | (simp [*]; done)), H', ⟨by first | omega | exact Nat.le_refl _⟩, ⟨by first | exact Kd.R_nil _ _ _ _ _ | exact Kd.N_nil _ _ _ _ _ | exact Kd.V_nil _ _ _ _ _ | exact Kd.Q_nil _ _ _ _ _ | exact Kd.S_nil _ _ _ _ _⟩, ⟨bz_⟩⟩
   ·rw [if_neg c6] at H
    have c6b0 : decide ((l0.length : Int) ≤ a2) = false := decide_eq_false c6
    clear c6
    by_cases c7 : 0 ≤ a2
    ·rw [if_pos c7] at H
     have c7b0 : decide (0 ≤ a2) = true := decide_eq_true c7
     clear c7
     by_cases c8 : a2 < (l0.length : Int)
     ·rw [if_pos c8] at H
      have c8b0 : decide (a2 < (l0.length : Int)) = true := decide_eq_true c8
      clear c8
      replace H := Option.bind_eq_some_iff.mp H
      obtain ⟨t275, A90, H⟩ := H
      replace H : (lockgateref06_Next.j0 k l0 l1 a2 ([] : List Int) t275) = some r := H
      have A9 := Aside0.mk A90
      clear A90
      have H' := Aside0.mk H
      clear H
      have p274 : 0 ≤ (a2 : Int) := of_decide_eq_true (by first | (with_reducible assumption) | assumption)
      have q274 : a2 < (l0.length : Int) := of_decide_eq_true (by first | (with_reducible assumption) | assumption)
      obtain ⟨ad274, e274, hx274_0, hx274_1, hx274_2, hx274_3, hx274_4⟩ := at_T42 HR0.out a2 p274 q274
      cases e274
      replace hx274_0 := (HB.out.cell (World.block_lt_of_cell? w _ hx274_0)).trans hx274_0
      replace hx274_1 := (HB.out.cell (World.block_lt_of_cell? w _ hx274_1)).trans hx274_1
      replace hx274_2 := (HB.out.cell (World.block_lt_of_cell? w _ hx274_2)).trans hx274_2
      replace hx274_3 := (HB.out.cell (World.block_lt_of_cell? w _ hx274_3)).trans hx274_3
      replace hx274_4 := (HB.out.cell (World.block_lt_of_cell? w _ hx274_4)).trans hx274_4
      replace p274 := eq_true p274
      replace q274 := eq_true q274
      go_wp2_with (first | (go_at_call 36; (with_reducible refine (lockgateref06_Exit.calls ((rd_T42 l0 a2).f0) ((rd_T42 l0 a2).f1) ((rd_T42 l0 a2).f2) ((rd_T42 l0 a2).f3) ((rd_T42 l0 a2).f4) t275 _ A9.out).mono ?_); rintro e w10 ⟨rfl, hb⟩; replace HB := bl_ hb; (try clear hb); (try clear hb2); (try clear hk); (try clear hi)))
      go_meet
      case rel => exact ⟨_, (t275), (by first | rfl | (simp; done) | (simp [*]; done)), H', ⟨by first | omega | exact Nat.le_refl _⟩, ⟨by first | exact Kd.R_nil _ _ _ _ _ | exact Kd.N_nil _ _ _ _ _ | exact Kd.V_nil _ _ _ _ _ | exact Kd.Q_nil _ _ _ _ _ | exact Kd.S_nil _ _ _ _ _⟩, ⟨bz_⟩⟩
     ·rw [if_neg c8] at H
      exact absurd H (by simp)
    ·rw [if_neg c7] at H
     exact absurd H (by simp)
 case rest =>
  clear HC4
  try clear c1
  try clear p2
  try clear q2
  try clear hx2
  try clear c5
  try clear c5b0
  try clear c6
  try clear c6b0
  try clear c7
  try clear c7b0
  try clear c8
  try clear c8b0
  try clear hx274_0
  try clear hx274_1
  try clear hx274_2
  try clear hx274_3
  try clear hx274_4
  try clear p274
  try clear q274
  obtain ⟨kq, x22_3, rfl, HA, HJ3, HO_7, HB⟩ := hcut
  cases kq with
  | zero => exact absurd HA.out (by simp [lockgateref06_Next.j0])
  | succ kj3 =>
   have H := HA.out
   clear HA
   simp only [lockgateref06_Next.j0] at H
   by_cases c11 : x22_3 = true
   ·subst c11
    have H1 : (some ([] : List Int)) = some r := by rw [if_pos rfl] at H; exact H
    clear H
    have H := H1
    clear H1
    obtain rfl := Option.some.inj H
    go_wp2
    go_ret
    exact ⟨_, by first | rfl | (simp [errW_none, errW_some] <;> rfl) | (simp [*, errW_none, errW_some] <;> rfl), by (with_reducible repeat (first | apply Kd.R_alloc | apply Kd.R_drewN | apply Kd.R_drew)); exact HO_7.out, bz_⟩
   ·replace c11 := Bool.eq_false_iff.mpr c11
    subst c11
    have H1 : (if 0 ≤ a2 then (if a2 < (l0.length : Int) then ((lockgateref06_Ja.f ((rd_T42 l0 a2).f0) ((rd_T42 l0 a2).f1) ((rd_T42 l0 a2).f2) ((rd_T42 l0 a2).f3) ((rd_T42 l0 a2).f4)).bind fun t277 => (if t277 = true then (if a2 < (l1.length : Int) then (if (rd l1 a2) ≥ 0 then ((lockgateref06_Ja.f ((rd_T42 l0 a2).f0) ((rd_T42 l0 a2).f1) ((rd_T42 l0 a2).f2) ((rd_T42 l0 a2).f3) ((rd_T42 l0 a2).f4)).bind fun t280 => (if t280 = true then (if ([] : List Int).length < 17592186044416 then (some (([] : List Int) ++ [rd l1 a2])) else (none)) else (if (rd l1 a2) = (wrap64 (a2 + 1)) then (some ([] : List Int)) else (if ([] : List Int).length < 17592186044416 then (some (([] : List Int) ++ [rd l1 a2])) else (none))))) else (some ([] : List Int))) else (none)) else (if ([] : List Int).length < 17592186044416 then ((some (([] : List Int) ++ [wrap64 (a2 + 1)] : List Int)).bind fun y290 => (if a2 < (l1.length : Int) then (if (rd l1 a2) ≥ 0 then ((lockgateref06_Ja.f ((rd_T42 l0 a2).f0) ((rd_T42 l0 a2).f1) ((rd_T42 l0 a2).f2) ((rd_T42 l0 a2).f3) ((rd_T42 l0 a2).f4)).bind fun t295 => (if t295 = true then (if y290.length < 17592186044416 then (some (y290 ++ [rd l1 a2])) else (none)) else (if (rd l1 a2) = (wrap64 (a2 + 1)) then (some y290) else (if y290.length < 17592186044416 then (some (y290 ++ [rd l1 a2])) else (none))))) else (some y290)) else (none))) else (none)))) else (none)) else (none)) = some r := by rw [if_neg (show ¬ (false = true) by decide)] at H; exact H
    clear H
    have H := H1
    clear H1
    by_cases c12 : 0 ≤ a2
    ·rw [if_pos c12] at H
     have c12b0 : decide (0 ≤ a2) = true := decide_eq_true c12
     clear c12
     by_cases c13 : a2 < (l0.length : Int)
     ·rw [if_pos c13] at H
      have c13b0 : decide (a2 < (l0.length : Int)) = true := decide_eq_true c13
      clear c13
      replace H := Option.bind_eq_some_iff.mp H
      obtain ⟨t277, A140, H⟩ := H
      replace H : (if t277 = true then (if a2 < (l1.length : Int) then (if (rd l1 a2) ≥ 0 then ((lockgateref06_Ja.f ((rd_T42 l0 a2).f0) ((rd_T42 l0 a2).f1) ((rd_T42 l0 a2).f2) ((rd_T42 l0 a2).f3) ((rd_T42 l0 a2).f4)).bind fun t280 => (if t280 = true then (if ([] : List Int).length < 17592186044416 then (some (([] : List Int) ++ [rd l1 a2])) else (none)) else (if (rd l1 a2) = (wrap64 (a2 + 1)) then (some ([] : List Int)) else (if ([] : List Int).length < 17592186044416 then (some (([] : List Int) ++ [rd l1 a2])) else (none))))) else (some ([] : List Int))) else (none)) else (if ([] : List Int).length < 17592186044416 then ((some (([] : List Int) ++ [wrap64 (a2 + 1)] : List Int)).bind fun y290 => (if a2 < (l1.length : Int) then (if (rd l1 a2) ≥ 0 then ((lockgateref06_Ja.f ((rd_T42 l0 a2).f0) ((rd_T42 l0 a2).f1) ((rd_T42 l0 a2).f2) ((rd_T42 l0 a2).f3) ((rd_T42 l0 a2).f4)).bind fun t295 => (if t295 = true then (if y290.length < 17592186044416 then (some (y290 ++ [rd l1 a2])) else (none)) else (if (rd l1 a2) = (wrap64 (a2 + 1)) then (some y290) else (if y290.length < 17592186044416 then (some (y290 ++ [rd l1 a2])) else (none))))) else (some y290)) else (none))) else (none))) = some r := H
      have A14 := Aside0.mk A140
      clear A140
      by_cases c15 : t277 = true
      ·subst c15
       have H1 : (if a2 < (l1.length : Int) then (if (rd l1 a2) ≥ 0 then ((lockgateref06_Ja.f ((rd_T42 l0 a2).f0) ((rd_T42 l0 a2).f1) ((rd_T42 l0 a2).f2) ((rd_T42 l0 a2).f3) ((rd_T42 l0 a2).f4)).bind fun t280 => (if t280 = true then (if ([] : List Int).length < 17592186044416 then (some (([] : List Int) ++ [rd l1 a2])) else (none)) else (if (rd l1 a2) = (wrap64 (a2 + 1)) then (some ([] : List Int)) else (if ([] : List Int).length < 17592186044416 then (some (([] : List Int) ++ [rd l1 a2])) else (none))))) else (some ([] : List Int))) else (none)) = some r := by rw [if_pos rfl] at H; exact H
       clear H
       have H := H1
       clear H1
       by_cases c16 : a2 < (l1.length : Int)
       ·rw [if_pos c16] at H
        have c16b0 : decide (a2 < (l1.length : Int)) = true := decide_eq_true c16
        clear c16
        by_cases c17 : (rd l1 a2) ≥ 0
        ·rw [if_pos c17] at H
         have c17b0 : decide (0 ≤ (rd l1 a2)) = true := decide_eq_true c17
         clear c17
         replace H := Option.bind_eq_some_iff.mp H
         obtain ⟨t280, A180, H⟩ := H
         replace H : (if t280 = true then (if ([] : List Int).length < 17592186044416 then (some (([] : List Int) ++ [rd l1 a2])) else (none)) else (if (rd l1 a2) = (wrap64 (a2 + 1)) then (some ([] : List Int)) else (if ([] : List Int).length < 17592186044416 then (some (([] : List Int) ++ [rd l1 a2])) else (none)))) = some r := H
         have A18 := Aside0.mk A180
         clear A180
         by_cases c19 : t280 = true
         ·subst c19
          have H1 : (if ([] : List Int).length < 17592186044416 then (some (([] : List Int) ++ [rd l1 a2])) else (none)) = some r := by rw [if_pos rfl] at H; exact H
          clear H
          have H := H1
          clear H1
          by_cases c20 : ([] : List Int).length < 17592186044416
          ·rw [if_pos c20] at H
           have LMc20 := Aside0.mk c20
           clear c20
           obtain ⟨y282, hy282⟩ : ∃ y_ : List Int, y_ = (([] : List Int) ++ [rd l1 a2]) := ⟨_, rfl⟩
           replace H : (some y282) = some r := by first | (rw [hy282]; with_reducible exact H) | (have H2_ := (Option.bind_some _ _).symm.trans H; rw [hy282]; with_reducible exact H2_) | (have H2_ := (Option.bind_some _ _).symm.trans H; with_reducible exact H2_) | with_reducible exact H | (rw [hy282]; exact H) | exact H
           have Ny282 := Aside0.mk hy282
           clear hy282
           obtain rfl := Option.some.inj H
           have p276 : 0 ≤ (a2 : Int) := of_decide_eq_true (by first | (with_reducible assumption) | assumption)
           have q276 : a2 < (l0.length : Int) := of_decide_eq_true (by first | (with_reducible assumption) | assumption)
           obtain ⟨ad276, e276, hx276_0, hx276_1, hx276_2, hx276_3, hx276_4⟩ := at_T42 HR0.out a2 p276 q276
           cases e276
           replace hx276_0 := (HB.out.cell (World.block_lt_of_cell? w _ hx276_0)).trans hx276_0
           replace hx276_1 := (HB.out.cell (World.block_lt_of_cell? w _ hx276_1)).trans hx276_1
           replace hx276_2 := (HB.out.cell (World.block_lt_of_cell? w _ hx276_2)).trans hx276_2
           replace hx276_3 := (HB.out.cell (World.block_lt_of_cell? w _ hx276_3)).trans hx276_3
           replace hx276_4 := (HB.out.cell (World.block_lt_of_cell? w _ hx276_4)).trans hx276_4
           replace p276 := eq_true p276
           replace q276 := eq_true q276
           go_wp2_with (first | ((with_reducible refine gate_callee (f := 37) rfl ?_); refine gM_ 28 Try.func37 (lockgateref06_Ja.calls ((rd_T42 l0 a2).f0) ((rd_T42 l0 a2).f1) ((rd_T42 l0 a2).f2) ((rd_T42 l0 a2).f3) ((rd_T42 l0 a2).f4) true _ A14.out) ?_; intro w21 hb; replace HO_7 := Aside0.mk (Kd.R_below (by (with_reducible repeat (first | apply Kd.R_alloc | apply Kd.R_drewN | apply Kd.R_drew)); exact HO_7.out) hb); replace HB := bl_ hb; (try clear hb); (try clear hb2); (try clear hk); (try clear hi); have p278 : 0 ≤ (a2 : Int) := of_decide_eq_true (by first | (with_reducible assumption) | assumption); have q278 : a2 < (l1.length : Int) := of_decide_eq_true (by first | (with_reducible assumption) | assumption); obtain ⟨ad278, e278, hx278_0⟩ := Kd.at_int HR1.out a2 p278 q278; cases e278; replace hx278_0 := (HB.out.cell (World.block_lt_of_cell? w _ hx278_0)).trans hx278_0; replace p278 := eq_true p278; replace q278 := eq_true q278; have p279 : 0 ≤ (a2 : Int) := of_decide_eq_true (by first | (with_reducible assumption) | assumption); have q279 : a2 < (l0.length : Int) := of_decide_eq_true (by first | (with_reducible assumption) | assumption); obtain ⟨ad279, e279, hx279_0, hx279_1, hx279_2, hx279_3, hx279_4⟩ := at_T42 HR0.out a2 p279 q279; obtain rfl : ad276 = ad279 := (by injection e279); replace hx279_0 := (HB.out.cell (World.block_lt_of_cell? w _ hx279_0)).trans hx279_0; replace hx279_1 := (HB.out.cell (World.block_lt_of_cell? w _ hx279_1)).trans hx279_1; replace hx279_2 := (HB.out.cell (World.block_lt_of_cell? w _ hx279_2)).trans hx279_2; replace hx279_3 := (HB.out.cell (World.block_lt_of_cell? w _ hx279_3)).trans hx279_3; replace hx279_4 := (HB.out.cell (World.block_lt_of_cell? w _ hx279_4)).trans hx279_4; replace p279 := eq_true p279; replace q279 := eq_true q279) | (go_at_call 37; (with_reducible refine (lockgateref06_Ja.calls ((rd_T42 l0 a2).f0) ((rd_T42 l0 a2).f1) ((rd_T42 l0 a2).f2) ((rd_T42 l0 a2).f3) ((rd_T42 l0 a2).f4) true _ A18.out).mono ?_); rintro e w22 ⟨rfl, hb⟩; replace HO_7 := Aside0.mk (Kd.R_below (by (with_reducible repeat (first | apply Kd.R_alloc | apply Kd.R_drewN | apply Kd.R_drew)); exact HO_7.out) hb); replace HB := bl_ hb; (try clear hb); (try clear hb2); (try clear hk); (try clear hi); have p281 : 0 ≤ (a2 : Int) := of_decide_eq_true (by first | (with_reducible assumption) | assumption); have q281 : a2 < (l1.length : Int) := of_decide_eq_true (by first | (with_reducible assumption) | assumption); obtain ⟨ad281, e281, hx281_0⟩ := Kd.at_int HR1.out a2 p281 q281; obtain rfl : ad278 = ad281 := (by injection e281); replace hx281_0 := (HB.out.cell (World.block_lt_of_cell? w _ hx281_0)).trans hx281_0; replace p281 := eq_true p281; replace q281 := eq_true q281) | ((with_reducible refine gate_builtin (b := .append) (xs := #[.tmp 56, .tmp 61]) rfl ?_); (try (refine gate_guard (by rfl) ?_; dsimp only)); at_builtin; refine Kd.R_append (Kd.int .i64) (w0 := w) w.heap.size rfl (.tmp 56) (.tmp 61) 26 3 (.int .i64 0) 8 rfl Try.underlying26 info3 rfl (by decide) (by omega) (.slice none 0 0) ([] : List Int) (rd l1 a2) [.int .i64 (rd l1 a2)] (fun _ => True) (fun _ => False) rfl rfl ?aP (fun _ hk => hk.elim) ?aF ?aO ?aB ?aS ?aL ?_; (case aP => exact rfl); (case aB => exact bz_); (case aF => exact (fun _ _ => trivial)); (case aO => exact (by (with_reducible repeat (first | apply Kd.R_alloc | apply Kd.R_drewN | apply Kd.R_drew)); exact HO_7.out)); (case aS => exact (below_size bz_)); (case aL => have := LMc20.out; omega); intro v283 w23 ho hb hg hat; rw [← Ny282.out] at ho; have n0_ := Aside0.mk (hb); have n1_ := Aside0.mk (ho); clear HB; clear HO_7; have HB := n0_; have HO284 := n1_; clear n0_ n1_; clear ho hb hg hat))
           go_ret
           exact ⟨_, by first | rfl | (simp [errW_none, errW_some] <;> rfl) | (simp [*, errW_none, errW_some] <;> rfl), by (with_reducible repeat (first | apply Kd.R_alloc | apply Kd.R_drewN | apply Kd.R_drew)); exact HO284.out, bz_⟩
          ·rw [if_neg c20] at H
           exact absurd H (by simp)
         ·replace c19 := Bool.eq_false_iff.mpr c19
          subst c19
          have H1 : (if (rd l1 a2) = (wrap64 (a2 + 1)) then (some ([] : List Int)) else (if ([] : List Int).length < 17592186044416 then (some (([] : List Int) ++ [rd l1 a2])) else (none))) = some r := by rw [if_neg (show ¬ (false = true) by decide)] at H; exact H
          clear H
          have H := H1
          clear H1
          by_cases c24 : (rd l1 a2) = (wrap64 (a2 + 1))
          ·rw [if_pos c24] at H
           have c24b0 : ((rd l1 a2) == (wrap64 (a2 + 1))) = true := beq_iff_eq.mpr c24
           have c24b1 : ((rd l1 a2) != (wrap64 (a2 + 1))) = false := bne_eq_false_iff_eq.mpr c24
           clear c24
           obtain rfl := Option.some.inj H
           have p276 : 0 ≤ (a2 : Int) := of_decide_eq_true (by first | (with_reducible assumption) | assumption)
           have q276 : a2 < (l0.length : Int) := of_decide_eq_true (by first | (with_reducible assumption) | assumption)
           obtain ⟨ad276, e276, hx276_0, hx276_1, hx276_2, hx276_3, hx276_4⟩ := at_T42 HR0.out a2 p276 q276
           cases e276
           replace hx276_0 := (HB.out.cell (World.block_lt_of_cell? w _ hx276_0)).trans hx276_0
           replace hx276_1 := (HB.out.cell (World.block_lt_of_cell? w _ hx276_1)).trans hx276_1
           replace hx276_2 := (HB.out.cell (World.block_lt_of_cell? w _ hx276_2)).trans hx276_2
           replace hx276_3 := (HB.out.cell (World.block_lt_of_cell? w _ hx276_3)).trans hx276_3
           replace hx276_4 := (HB.out.cell (World.block_lt_of_cell? w _ hx276_4)).trans hx276_4
           replace p276 := eq_true p276
           replace q276 := eq_true q276
           go_wp2_with (first | ((with_reducible refine gate_callee (f := 37) rfl ?_); refine gM_ 28 Try.func37 (lockgateref06_Ja.calls ((rd_T42 l0 a2).f0) ((rd_T42 l0 a2).f1) ((rd_T42 l0 a2).f2) ((rd_T42 l0 a2).f3) ((rd_T42 l0 a2).f4) true _ A14.out) ?_; intro w25 hb; replace HO_7 := Aside0.mk (Kd.R_below (by (with_reducible repeat (first | apply Kd.R_alloc | apply Kd.R_drewN | apply Kd.R_drew)); exact HO_7.out) hb); replace HB := bl_ hb; (try clear hb); (try clear hb2); (try clear hk); (try clear hi); have p278 : 0 ≤ (a2 : Int) := of_decide_eq_true (by first | (with_reducible assumption) | assumption); have q278 : a2 < (l1.length : Int) := of_decide_eq_true (by first | (with_reducible assumption) | assumption); obtain ⟨ad278, e278, hx278_0⟩ := Kd.at_int HR1.out a2 p278 q278; cases e278; replace hx278_0 := (HB.out.cell (World.block_lt_of_cell? w _ hx278_0)).trans hx278_0; replace p278 := eq_true p278; replace q278 := eq_true q278; have p279 : 0 ≤ (a2 : Int) := of_decide_eq_true (by first | (with_reducible assumption) | assumption); have q279 : a2 < (l0.length : Int) := of_decide_eq_true (by first | (with_reducible assumption) | assumption); obtain ⟨ad279, e279, hx279_0, hx279_1, hx279_2, hx279_3, hx279_4⟩ := at_T42 HR0.out a2 p279 q279; obtain rfl : ad276 = ad279 := (by injection e279); replace hx279_0 := (HB.out.cell (World.block_lt_of_cell? w _ hx279_0)).trans hx279_0; replace hx279_1 := (HB.out.cell (World.block_lt_of_cell? w _ hx279_1)).trans hx279_1; replace hx279_2 := (HB.out.cell (World.block_lt_of_cell? w _ hx279_2)).trans hx279_2; replace hx279_3 := (HB.out.cell (World.block_lt_of_cell? w _ hx279_3)).trans hx279_3; replace hx279_4 := (HB.out.cell (World.block_lt_of_cell? w _ hx279_4)).trans hx279_4; replace p279 := eq_true p279; replace q279 := eq_true q279) | (go_at_call 37; (with_reducible refine (lockgateref06_Ja.calls ((rd_T42 l0 a2).f0) ((rd_T42 l0 a2).f1) ((rd_T42 l0 a2).f2) ((rd_T42 l0 a2).f3) ((rd_T42 l0 a2).f4) false _ A18.out).mono ?_); rintro e w26 ⟨rfl, hb⟩; replace HO_7 := Aside0.mk (Kd.R_below (by (with_reducible repeat (first | apply Kd.R_alloc | apply Kd.R_drewN | apply Kd.R_drew)); exact HO_7.out) hb); replace HB := bl_ hb; (try clear hb); (try clear hb2); (try clear hk); (try clear hi); have p285 : 0 ≤ (a2 : Int) := of_decide_eq_true (by first | (with_reducible assumption) | assumption); have q285 : a2 < (l1.length : Int) := of_decide_eq_true (by first | (with_reducible assumption) | assumption); obtain ⟨ad285, e285, hx285_0⟩ := Kd.at_int HR1.out a2 p285 q285; obtain rfl : ad278 = ad285 := (by injection e285); replace hx285_0 := (HB.out.cell (World.block_lt_of_cell? w _ hx285_0)).trans hx285_0; replace p285 := eq_true p285; replace q285 := eq_true q285))
           go_ret
           exact ⟨_, by first | rfl | (simp [errW_none, errW_some] <;> rfl) | (simp [*, errW_none, errW_some] <;> rfl), by (with_reducible repeat (first | apply Kd.R_alloc | apply Kd.R_drewN | apply Kd.R_drew)); exact HO_7.out, bz_⟩
          ·rw [if_neg c24] at H
           have c24b0 : ((rd l1 a2) == (wrap64 (a2 + 1))) = false := beq_eq_false_iff_ne.mpr c24
           have c24b1 : ((rd l1 a2) != (wrap64 (a2 + 1))) = true := bne_iff_ne.mpr c24
           by_cases c27 : ([] : List Int).length < 17592186044416
           ·rw [if_pos c27] at H
            have LMc27 := Aside0.mk c27
            clear c27
            obtain ⟨y287, hy287⟩ : ∃ y_ : List Int, y_ = (([] : List Int) ++ [rd l1 a2]) := ⟨_, rfl⟩
            replace H : (some y287) = some r := by first | (rw [hy287]; with_reducible exact H) | (have H2_ := (Option.bind_some _ _).symm.trans H; rw [hy287]; with_reducible exact H2_) | (have H2_ := (Option.bind_some _ _).symm.trans H; with_reducible exact H2_) | with_reducible exact H | (rw [hy287]; exact H) | exact H
            have Ny287 := Aside0.mk hy287
            clear hy287
            obtain rfl := Option.some.inj H
            have p276 : 0 ≤ (a2 : Int) := of_decide_eq_true (by first | (with_reducible assumption) | assumption)
            have q276 : a2 < (l0.length : Int) := of_decide_eq_true (by first | (with_reducible assumption) | assumption)
            obtain ⟨ad276, e276, hx276_0, hx276_1, hx276_2, hx276_3, hx276_4⟩ := at_T42 HR0.out a2 p276 q276
            cases e276
            replace hx276_0 := (HB.out.cell (World.block_lt_of_cell? w _ hx276_0)).trans hx276_0
            replace hx276_1 := (HB.out.cell (World.block_lt_of_cell? w _ hx276_1)).trans hx276_1
            replace hx276_2 := (HB.out.cell (World.block_lt_of_cell? w _ hx276_2)).trans hx276_2
            replace hx276_3 := (HB.out.cell (World.block_lt_of_cell? w _ hx276_3)).trans hx276_3
            replace hx276_4 := (HB.out.cell (World.block_lt_of_cell? w _ hx276_4)).trans hx276_4
            replace p276 := eq_true p276
            replace q276 := eq_true q276
            go_wp2_with (first | ((with_reducible refine gate_callee (f := 37) rfl ?_); refine gM_ 28 Try.func37 (lockgateref06_Ja.calls ((rd_T42 l0 a2).f0) ((rd_T42 l0 a2).f1) ((rd_T42 l0 a2).f2) ((rd_T42 l0 a2).f3) ((rd_T42 l0 a2).f4) true _ A14.out) ?_; intro w28 hb; replace HO_7 := Aside0.mk (Kd.R_below (by (with_reducible repeat (first | apply Kd.R_alloc | apply Kd.R_drewN | apply Kd.R_drew)); exact HO_7.out) hb); replace HB := bl_ hb; (try clear hb); (try clear hb2); (try clear hk); (try clear hi); have p278 : 0 ≤ (a2 : Int) := of_decide_eq_true (by first | (with_reducible assumption) | assumption); have q278 : a2 < (l1.length : Int) := of_decide_eq_true (by first | (with_reducible assumption) | assumption); obtain ⟨ad278, e278, hx278_0⟩ := Kd.at_int HR1.out a2 p278 q278; cases e278; replace hx278_0 := (HB.out.cell (World.block_lt_of_cell? w _ hx278_0)).trans hx278_0; replace p278 := eq_true p278; replace q278 := eq_true q278; have p279 : 0 ≤ (a2 : Int) := of_decide_eq_true (by first | (with_reducible assumption) | assumption); have q279 : a2 < (l0.length : Int) := of_decide_eq_true (by first | (with_reducible assumption) | assumption); obtain ⟨ad279, e279, hx279_0, hx279_1, hx279_2, hx279_3, hx279_4⟩ := at_T42 HR0.out a2 p279 q279; obtain rfl : ad276 = ad279 := (by injection e279); replace hx279_0 := (HB.out.cell (World.block_lt_of_cell? w _ hx279_0)).trans hx279_0; replace hx279_1 := (HB.out.cell (World.block_lt_of_cell? w _ hx279_1)).trans hx279_1; replace hx279_2 := (HB.out.cell (World.block_lt_of_cell? w _ hx279_2)).trans hx279_2; replace hx279_3 := (HB.out.cell (World.block_lt_of_cell? w _ hx279_3)).trans hx279_3; replace hx279_4 := (HB.out.cell (World.block_lt_of_cell? w _ hx279_4)).trans hx279_4; replace p279 := eq_true p279; replace q279 := eq_true q279) | (go_at_call 37; (with_reducible refine (lockgateref06_Ja.calls ((rd_T42 l0 a2).f0) ((rd_T42 l0 a2).f1) ((rd_T42 l0 a2).f2) ((rd_T42 l0 a2).f3) ((rd_T42 l0 a2).f4) false _ A18.out).mono ?_); rintro e w29 ⟨rfl, hb⟩; replace HO_7 := Aside0.mk (Kd.R_below (by (with_reducible repeat (first | apply Kd.R_alloc | apply Kd.R_drewN | apply Kd.R_drew)); exact HO_7.out) hb); replace HB := bl_ hb; (try clear hb); (try clear hb2); (try clear hk); (try clear hi); have p285 : 0 ≤ (a2 : Int) := of_decide_eq_true (by first | (with_reducible assumption) | assumption); have q285 : a2 < (l1.length : Int) := of_decide_eq_true (by first | (with_reducible assumption) | assumption); obtain ⟨ad285, e285, hx285_0⟩ := Kd.at_int HR1.out a2 p285 q285; obtain rfl : ad278 = ad285 := (by injection e285); replace hx285_0 := (HB.out.cell (World.block_lt_of_cell? w _ hx285_0)).trans hx285_0; replace p285 := eq_true p285; replace q285 := eq_true q285; have p286 : 0 ≤ (a2 : Int) := of_decide_eq_true (by first | (with_reducible assumption) | assumption); have q286 : a2 < (l1.length : Int) := of_decide_eq_true (by first | (with_reducible assumption) | assumption); obtain ⟨ad286, e286, hx286_0⟩ := Kd.at_int HR1.out a2 p286 q286; obtain rfl : ad278 = ad286 := (by injection e286); replace hx286_0 := (HB.out.cell (World.block_lt_of_cell? w _ hx286_0)).trans hx286_0; replace p286 := eq_true p286; replace q286 := eq_true q286) | ((with_reducible refine gate_builtin (b := .append) (xs := #[.tmp 56, .tmp 61]) rfl ?_); (try (refine gate_guard (by rfl) ?_; dsimp only)); at_builtin; refine Kd.R_append (Kd.int .i64) (w0 := w) w.heap.size rfl (.tmp 56) (.tmp 61) 26 3 (.int .i64 0) 8 rfl Try.underlying26 info3 rfl (by decide) (by omega) (.slice none 0 0) ([] : List Int) (rd l1 a2) [.int .i64 (rd l1 a2)] (fun _ => True) (fun _ => False) rfl rfl ?aP (fun _ hk => hk.elim) ?aF ?aO ?aB ?aS ?aL ?_; (case aP => exact rfl); (case aB => exact bz_); (case aF => exact (fun _ _ => trivial)); (case aO => exact (by (with_reducible repeat (first | apply Kd.R_alloc | apply Kd.R_drewN | apply Kd.R_drew)); exact HO_7.out)); (case aS => exact (below_size bz_)); (case aL => have := LMc27.out; omega); intro v288 w30 ho hb hg hat; rw [← Ny287.out] at ho; have n0_ := Aside0.mk (hb); have n1_ := Aside0.mk (ho); clear HB; clear HO_7; have HB := n0_; have HO289 := n1_; clear n0_ n1_; clear ho hb hg hat))
            go_ret
            exact ⟨_, by first | rfl | (simp [errW_none, errW_some] <;> rfl) | (simp [*, errW_none, errW_some] <;> rfl), by (with_reducible repeat (first | apply Kd.R_alloc | apply Kd.R_drewN | apply Kd.R_drew)); exact HO289.out, bz_⟩
           ·rw [if_neg c27] at H
            exact absurd H (by simp)
        ·rw [if_neg c17] at H
         have c17b0 : decide (0 ≤ (rd l1 a2)) = false := decide_eq_false c17
         clear c17
         obtain rfl := Option.some.inj H
         have p276 : 0 ≤ (a2 : Int) := of_decide_eq_true (by first | (with_reducible assumption) | assumption)
         have q276 : a2 < (l0.length : Int) := of_decide_eq_true (by first | (with_reducible assumption) | assumption)
         obtain ⟨ad276, e276, hx276_0, hx276_1, hx276_2, hx276_3, hx276_4⟩ := at_T42 HR0.out a2 p276 q276
         cases e276
         replace hx276_0 := (HB.out.cell (World.block_lt_of_cell? w _ hx276_0)).trans hx276_0
         replace hx276_1 := (HB.out.cell (World.block_lt_of_cell? w _ hx276_1)).trans hx276_1
         replace hx276_2 := (HB.out.cell (World.block_lt_of_cell? w _ hx276_2)).trans hx276_2
         replace hx276_3 := (HB.out.cell (World.block_lt_of_cell? w _ hx276_3)).trans hx276_3
         replace hx276_4 := (HB.out.cell (World.block_lt_of_cell? w _ hx276_4)).trans hx276_4
         replace p276 := eq_true p276
         replace q276 := eq_true q276
         go_wp2_with (first | ((with_reducible refine gate_callee (f := 37) rfl ?_); refine gM_ 28 Try.func37 (lockgateref06_Ja.calls ((rd_T42 l0 a2).f0) ((rd_T42 l0 a2).f1) ((rd_T42 l0 a2).f2) ((rd_T42 l0 a2).f3) ((rd_T42 l0 a2).f4) true _ A14.out) ?_; intro w31 hb; replace HO_7 := Aside0.mk (Kd.R_below (by (with_reducible repeat (first | apply Kd.R_alloc | apply Kd.R_drewN | apply Kd.R_drew)); exact HO_7.out) hb); replace HB := bl_ hb; (try clear hb); (try clear hb2); (try clear hk); (try clear hi); have p278 : 0 ≤ (a2 : Int) := of_decide_eq_true (by first | (with_reducible assumption) | assumption); have q278 : a2 < (l1.length : Int) := of_decide_eq_true (by first | (with_reducible assumption) | assumption); obtain ⟨ad278, e278, hx278_0⟩ := Kd.at_int HR1.out a2 p278 q278; cases e278; replace hx278_0 := (HB.out.cell (World.block_lt_of_cell? w _ hx278_0)).trans hx278_0; replace p278 := eq_true p278; replace q278 := eq_true q278))
         go_ret
         exact ⟨_, by first | rfl | (simp [errW_none, errW_some] <;> rfl) | (simp [*, errW_none, errW_some] <;> rfl), by (with_reducible repeat (first | apply Kd.R_alloc | apply Kd.R_drewN | apply Kd.R_drew)); exact HO_7.out, bz_⟩
       ·rw [if_neg c16] at H
        exact absurd H (by simp)
      ·replace c15 := Bool.eq_false_iff.mpr c15
       subst c15
       have H1 : (if ([] : List Int).length < 17592186044416 then ((some (([] : List Int) ++ [wrap64 (a2 + 1)] : List Int)).bind fun y290 => (if a2 < (l1.length : Int) then (if (rd l1 a2) ≥ 0 then ((lockgateref06_Ja.f ((rd_T42 l0 a2).f0) ((rd_T42 l0 a2).f1) ((rd_T42 l0 a2).f2) ((rd_T42 l0 a2).f3) ((rd_T42 l0 a2).f4)).bind fun t295 => (if t295 = true then (if y290.length < 17592186044416 then (some (y290 ++ [rd l1 a2])) else (none)) else (if (rd l1 a2) = (wrap64 (a2 + 1)) then (some y290) else (if y290.length < 17592186044416 then (some (y290 ++ [rd l1 a2])) else (none))))) else (some y290)) else (none))) else (none)) = some r := by rw [if_neg (show ¬ (false = true) by decide)] at H; exact H
       clear H
       have H := H1
       clear H1
       by_cases c32 : ([] : List Int).length < 17592186044416
       ·rw [if_pos c32] at H
        have LMc32 := Aside0.mk c32
        clear c32
        obtain ⟨y290, hy290⟩ : ∃ y_ : List Int, y_ = (([] : List Int) ++ [wrap64 (a2 + 1)]) := ⟨_, rfl⟩
        replace H : (if a2 < (l1.length : Int) then (if (rd l1 a2) ≥ 0 then ((lockgateref06_Ja.f ((rd_T42 l0 a2).f0) ((rd_T42 l0 a2).f1) ((rd_T42 l0 a2).f2) ((rd_T42 l0 a2).f3) ((rd_T42 l0 a2).f4)).bind fun t295 => (if t295 = true then (if y290.length < 17592186044416 then (some (y290 ++ [rd l1 a2])) else (none)) else (if (rd l1 a2) = (wrap64 (a2 + 1)) then (some y290) else (if y290.length < 17592186044416 then (some (y290 ++ [rd l1 a2])) else (none))))) else (some y290)) else (none)) = some r := by first | (rw [hy290]; with_reducible exact H) | (have H2_ := (Option.bind_some _ _).symm.trans H; rw [hy290]; with_reducible exact H2_) | (have H2_ := (Option.bind_some _ _).symm.trans H; with_reducible exact H2_) | with_reducible exact H | (rw [hy290]; exact H) | exact H
        have Ny290 := Aside0.mk hy290
        clear hy290
        by_cases c33 : a2 < (l1.length : Int)
        ·rw [if_pos c33] at H
         have c33b0 : decide (a2 < (l1.length : Int)) = true := decide_eq_true c33
         clear c33
         by_cases c34 : (rd l1 a2) ≥ 0
         ·rw [if_pos c34] at H
          have c34b0 : decide (0 ≤ (rd l1 a2)) = true := decide_eq_true c34
          clear c34
          replace H := Option.bind_eq_some_iff.mp H
          obtain ⟨t295, A350, H⟩ := H
          replace H : (if t295 = true then (if y290.length < 17592186044416 then (some (y290 ++ [rd l1 a2])) else (none)) else (if (rd l1 a2) = (wrap64 (a2 + 1)) then (some y290) else (if y290.length < 17592186044416 then (some (y290 ++ [rd l1 a2])) else (none)))) = some r := H
          have A35 := Aside0.mk A350
          clear A350
          by_cases c36 : t295 = true
          ·subst c36
           have H1 : (if y290.length < 17592186044416 then (some (y290 ++ [rd l1 a2])) else (none)) = some r := by rw [if_pos rfl] at H; exact H
           clear H
           have H := H1
           clear H1
           by_cases c37 : y290.length < 17592186044416
           ·rw [if_pos c37] at H
            have LMc37 := Aside0.mk c37
            clear c37
            obtain ⟨y297, hy297⟩ : ∃ y_ : List Int, y_ = (y290 ++ [rd l1 a2]) := ⟨_, rfl⟩
            replace H : (some y297) = some r := by first | (rw [hy297]; with_reducible exact H) | (have H2_ := (Option.bind_some _ _).symm.trans H; rw [hy297]; with_reducible exact H2_) | (have H2_ := (Option.bind_some _ _).symm.trans H; with_reducible exact H2_) | with_reducible exact H | (rw [hy297]; exact H) | exact H
            have Ny297 := Aside0.mk hy297
            clear hy297
            obtain rfl := Option.some.inj H
            have p276 : 0 ≤ (a2 : Int) := of_decide_eq_true (by first | (with_reducible assumption) | assumption)
            have q276 : a2 < (l0.length : Int) := of_decide_eq_true (by first | (with_reducible assumption) | assumption)
            obtain ⟨ad276, e276, hx276_0, hx276_1, hx276_2, hx276_3, hx276_4⟩ := at_T42 HR0.out a2 p276 q276
            cases e276
            replace hx276_0 := (HB.out.cell (World.block_lt_of_cell? w _ hx276_0)).trans hx276_0
            replace hx276_1 := (HB.out.cell (World.block_lt_of_cell? w _ hx276_1)).trans hx276_1
            replace hx276_2 := (HB.out.cell (World.block_lt_of_cell? w _ hx276_2)).trans hx276_2
            replace hx276_3 := (HB.out.cell (World.block_lt_of_cell? w _ hx276_3)).trans hx276_3
            replace hx276_4 := (HB.out.cell (World.block_lt_of_cell? w _ hx276_4)).trans hx276_4
            replace p276 := eq_true p276
            replace q276 := eq_true q276
            go_wp2_with (first | ((with_reducible refine gate_callee (f := 37) rfl ?_); refine gM_ 28 Try.func37 (lockgateref06_Ja.calls ((rd_T42 l0 a2).f0) ((rd_T42 l0 a2).f1) ((rd_T42 l0 a2).f2) ((rd_T42 l0 a2).f3) ((rd_T42 l0 a2).f4) false _ A14.out) ?_; intro w38 hb; replace HO_7 := Aside0.mk (Kd.R_below (by (with_reducible repeat (first | apply Kd.R_alloc | apply Kd.R_drewN | apply Kd.R_drew)); exact HO_7.out) hb); replace HB := bl_ hb; (try clear hb); (try clear hb2); (try clear hk); (try clear hi)) | ((with_reducible refine gate_builtin (b := .append) (xs := #[.tmp 30, .tmp 33]) rfl ?_); (try (refine gate_guard (by rfl) ?_; dsimp only)); at_builtin; refine Kd.R_append (Kd.int .i64) (w0 := w) w.heap.size rfl (.tmp 30) (.tmp 33) 26 3 (.int .i64 0) 8 rfl Try.underlying26 info3 rfl (by decide) (by omega) (.slice none 0 0) ([] : List Int) (wrap64 (a2 + 1)) [.int .i64 (wrap64 (a2 + 1))] (fun _ => True) (fun _ => False) rfl rfl ?aP (fun _ hk => hk.elim) ?aF ?aO ?aB ?aS ?aL ?_; (case aP => exact rfl); (case aB => exact bz_); (case aF => exact (fun _ _ => trivial)); (case aO => exact (by (with_reducible repeat (first | apply Kd.R_alloc | apply Kd.R_drewN | apply Kd.R_drew)); exact HO_7.out)); (case aS => exact (below_size bz_)); (case aL => have := LMc32.out; omega); intro v291 w39 ho hb hg hat; rw [← Ny290.out] at ho; have n0_ := Aside0.mk (hb); have n1_ := Aside0.mk (ho); clear HB; clear HO_7; have HB := n0_; have HO292 := n1_; clear n0_ n1_; clear ho hb hg hat; have p293 : 0 ≤ (a2 : Int) := of_decide_eq_true (by first | (with_reducible assumption) | assumption); have q293 : a2 < (l1.length : Int) := of_decide_eq_true (by first | (with_reducible assumption) | assumption); obtain ⟨ad293, e293, hx293_0⟩ := Kd.at_int HR1.out a2 p293 q293; cases e293; replace hx293_0 := (HB.out.cell (World.block_lt_of_cell? w _ hx293_0)).trans hx293_0; replace p293 := eq_true p293; replace q293 := eq_true q293; have p294 : 0 ≤ (a2 : Int) := of_decide_eq_true (by first | (with_reducible assumption) | assumption); have q294 : a2 < (l0.length : Int) := of_decide_eq_true (by first | (with_reducible assumption) | assumption); obtain ⟨ad294, e294, hx294_0, hx294_1, hx294_2, hx294_3, hx294_4⟩ := at_T42 HR0.out a2 p294 q294; obtain rfl : ad276 = ad294 := (by injection e294); replace hx294_0 := (HB.out.cell (World.block_lt_of_cell? w _ hx294_0)).trans hx294_0; replace hx294_1 := (HB.out.cell (World.block_lt_of_cell? w _ hx294_1)).trans hx294_1; replace hx294_2 := (HB.out.cell (World.block_lt_of_cell? w _ hx294_2)).trans hx294_2; replace hx294_3 := (HB.out.cell (World.block_lt_of_cell? w _ hx294_3)).trans hx294_3; replace hx294_4 := (HB.out.cell (World.block_lt_of_cell? w _ hx294_4)).trans hx294_4; replace p294 := eq_true p294; replace q294 := eq_true q294) | (go_at_call 37; (with_reducible refine (lockgateref06_Ja.calls ((rd_T42 l0 a2).f0) ((rd_T42 l0 a2).f1) ((rd_T42 l0 a2).f2) ((rd_T42 l0 a2).f3) ((rd_T42 l0 a2).f4) true _ A35.out).mono ?_); rintro e w40 ⟨rfl, hb⟩; replace HO292 := Aside0.mk (Kd.R_below (by (with_reducible repeat (first | apply Kd.R_alloc | apply Kd.R_drewN | apply Kd.R_drew)); exact HO292.out) hb); replace HB := bl_ hb; (try clear hb); (try clear hb2); (try clear hk); (try clear hi); have p296 : 0 ≤ (a2 : Int) := of_decide_eq_true (by first | (with_reducible assumption) | assumption); have q296 : a2 < (l1.length : Int) := of_decide_eq_true (by first | (with_reducible assumption) | assumption); obtain ⟨ad296, e296, hx296_0⟩ := Kd.at_int HR1.out a2 p296 q296; obtain rfl : ad293 = ad296 := (by injection e296); replace hx296_0 := (HB.out.cell (World.block_lt_of_cell? w _ hx296_0)).trans hx296_0; replace p296 := eq_true p296; replace q296 := eq_true q296) | ((with_reducible refine gate_builtin (b := .append) (xs := #[.tmp 56, .tmp 61]) rfl ?_); (try (refine gate_guard (by rfl) ?_; dsimp only)); at_builtin; refine Kd.R_append (Kd.int .i64) (w0 := w) w.heap.size rfl (.tmp 56) (.tmp 61) 26 3 (.int .i64 0) 8 rfl Try.underlying26 info3 rfl (by decide) (by omega) v291 y290 (rd l1 a2) [.int .i64 (rd l1 a2)] (fun _ => True) (fun _ => False) rfl rfl ?aP (fun _ hk => hk.elim) ?aF ?aO ?aB ?aS ?aL ?_; (case aP => exact rfl); (case aB => exact bz_); (case aF => exact (fun _ _ => trivial)); (case aO => exact (by (with_reducible repeat (first | apply Kd.R_alloc | apply Kd.R_drewN | apply Kd.R_drew)); exact HO292.out)); (case aS => exact (below_size bz_)); (case aL => have := LMc37.out; omega); intro v298 w41 ho hb hg hat; rw [← Ny297.out] at ho; have n0_ := Aside0.mk (hb); have n1_ := Aside0.mk (ho); clear HB; clear HO292; have HB := n0_; have HO299 := n1_; clear n0_ n1_; clear ho hb hg hat))
            go_ret
            exact ⟨_, by first | rfl | (simp [errW_none, errW_some] <;> rfl) | (simp [*, errW_none, errW_some] <;> rfl), by (with_reducible repeat (first | apply Kd.R_alloc | apply Kd.R_drewN | apply Kd.R_drew)); exact HO299.out, bz_⟩
           ·rw [if_neg c37] at H
            exact absurd H (by simp)
          ·replace c36 := Bool.eq_false_iff.mpr c36
           subst c36
           have H1 : (if (rd l1 a2) = (wrap64 (a2 + 1)) then (some y290) else (if y290.length < 17592186044416 then (some (y290 ++ [rd l1 a2])) else (none))) = some r := by rw [if_neg (show ¬ (false = true) by decide)] at H; exact H
           clear H
           have H := H1
           clear H1
           by_cases c42 : (rd l1 a2) = (wrap64 (a2 + 1))
           ·rw [if_pos c42] at H
            have c42b0 : ((rd l1 a2) == (wrap64 (a2 + 1))) = true := beq_iff_eq.mpr c42
            have c42b1 : ((rd l1 a2) != (wrap64 (a2 + 1))) = false := bne_eq_false_iff_eq.mpr c42
            clear c42
            obtain rfl := Option.some.inj H
            have p276 : 0 ≤ (a2 : Int) := of_decide_eq_true (by first | (with_reducible assumption) | assumption)
            have q276 : a2 < (l0.length : Int) := of_decide_eq_true (by first | (with_reducible assumption) | assumption)
            obtain ⟨ad276, e276, hx276_0, hx276_1, hx276_2, hx276_3, hx276_4⟩ := at_T42 HR0.out a2 p276 q276
            cases e276
            replace hx276_0 := (HB.out.cell (World.block_lt_of_cell? w _ hx276_0)).trans hx276_0
            replace hx276_1 := (HB.out.cell (World.block_lt_of_cell? w _ hx276_1)).trans hx276_1
            replace hx276_2 := (HB.out.cell (World.block_lt_of_cell? w _ hx276_2)).trans hx276_2
            replace hx276_3 := (HB.out.cell (World.block_lt_of_cell? w _ hx276_3)).trans hx276_3
            replace hx276_4 := (HB.out.cell (World.block_lt_of_cell? w _ hx276_4)).trans hx276_4
            replace p276 := eq_true p276
            replace q276 := eq_true q276
            go_wp2_with (first | ((with_reducible refine gate_callee (f := 37) rfl ?_); refine gM_ 28 Try.func37 (lockgateref06_Ja.calls ((rd_T42 l0 a2).f0) ((rd_T42 l0 a2).f1) ((rd_T42 l0 a2).f2) ((rd_T42 l0 a2).f3) ((rd_T42 l0 a2).f4) false _ A14.out) ?_; intro w43 hb; replace HO_7 := Aside0.mk (Kd.R_below (by (with_reducible repeat (first | apply Kd.R_alloc | apply Kd.R_drewN | apply Kd.R_drew)); exact HO_7.out) hb); replace HB := bl_ hb; (try clear hb); (try clear hb2); (try clear hk); (try clear hi)) | ((with_reducible refine gate_builtin (b := .append) (xs := #[.tmp 30, .tmp 33]) rfl ?_); (try (refine gate_guard (by rfl) ?_; dsimp only)); at_builtin; refine Kd.R_append (Kd.int .i64) (w0 := w) w.heap.size rfl (.tmp 30) (.tmp 33) 26 3 (.int .i64 0) 8 rfl Try.underlying26 info3 rfl (by decide) (by omega) (.slice none 0 0) ([] : List Int) (wrap64 (a2 + 1)) [.int .i64 (wrap64 (a2 + 1))] (fun _ => True) (fun _ => False) rfl rfl ?aP (fun _ hk => hk.elim) ?aF ?aO ?aB ?aS ?aL ?_; (case aP => exact rfl); (case aB => exact bz_); (case aF => exact (fun _ _ => trivial)); (case aO => exact (by (with_reducible repeat (first | apply Kd.R_alloc | apply Kd.R_drewN | apply Kd.R_drew)); exact HO_7.out)); (case aS => exact (below_size bz_)); (case aL => have := LMc32.out; omega); intro v291 w44 ho hb hg hat; rw [← Ny290.out] at ho; have n0_ := Aside0.mk (hb); have n1_ := Aside0.mk (ho); clear HB; clear HO_7; have HB := n0_; have HO292 := n1_; clear n0_ n1_; clear ho hb hg hat; have p293 : 0 ≤ (a2 : Int) := of_decide_eq_true (by first | (with_reducible assumption) | assumption); have q293 : a2 < (l1.length : Int) := of_decide_eq_true (by first | (with_reducible assumption) | assumption); obtain ⟨ad293, e293, hx293_0⟩ := Kd.at_int HR1.out a2 p293 q293; cases e293; replace hx293_0 := (HB.out.cell (World.block_lt_of_cell? w _ hx293_0)).trans hx293_0; replace p293 := eq_true p293; replace q293 := eq_true q293; have p294 : 0 ≤ (a2 : Int) := of_decide_eq_true (by first | (with_reducible assumption) | assumption); have q294 : a2 < (l0.length : Int) := of_decide_eq_true (by first | (with_reducible assumption) | assumption); obtain ⟨ad294, e294, hx294_0, hx294_1, hx294_2, hx294_3, hx294_4⟩ := at_T42 HR0.out a2 p294 q294; obtain rfl : ad276 = ad294 := (by injection e294); replace hx294_0 := (HB.out.cell (World.block_lt_of_cell? w _ hx294_0)).trans hx294_0; replace hx294_1 := (HB.out.cell (World.block_lt_of_cell? w _ hx294_1)).trans hx294_1; replace hx294_2 := (HB.out.cell (World.block_lt_of_cell? w _ hx294_2)).trans hx294_2; replace hx294_3 := (HB.out.cell (World.block_lt_of_cell? w _ hx294_3)).trans hx294_3; replace hx294_4 := (HB.out.cell (World.block_lt_of_cell? w _ hx294_4)).trans hx294_4; replace p294 := eq_true p294; replace q294 := eq_true q294) | (go_at_call 37; (with_reducible refine (lockgateref06_Ja.calls ((rd_T42 l0 a2).f0) ((rd_T42 l0 a2).f1) ((rd_T42 l0 a2).f2) ((rd_T42 l0 a2).f3) ((rd_T42 l0 a2).f4) false _ A35.out).mono ?_); rintro e w45 ⟨rfl, hb⟩; replace HO292 := Aside0.mk (Kd.R_below (by (with_reducible repeat (first | apply Kd.R_alloc | apply Kd.R_drewN | apply Kd.R_drew)); exact HO292.out) hb); replace HB := bl_ hb; (try clear hb); (try clear hb2); (try clear hk); (try clear hi); have p300 : 0 ≤ (a2 : Int) := of_decide_eq_true (by first | (with_reducible assumption) | assumption); have q300 : a2 < (l1.length : Int) := of_decide_eq_true (by first | (with_reducible assumption) | assumption); obtain ⟨ad300, e300, hx300_0⟩ := Kd.at_int HR1.out a2 p300 q300; obtain rfl : ad293 = ad300 := (by injection e300); replace hx300_0 := (HB.out.cell (World.block_lt_of_cell? w _ hx300_0)).trans hx300_0; replace p300 := eq_true p300; replace q300 := eq_true q300))
            go_ret
            exact ⟨_, by first | rfl | (simp [errW_none, errW_some] <;> rfl) | (simp [*, errW_none, errW_some] <;> rfl), by (with_reducible repeat (first | apply Kd.R_alloc | apply Kd.R_drewN | apply Kd.R_drew)); exact HO292.out, bz_⟩
           ·rw [if_neg c42] at H
            have c42b0 : ((rd l1 a2) == (wrap64 (a2 + 1))) = false := beq_eq_false_iff_ne.mpr c42
            have c42b1 : ((rd l1 a2) != (wrap64 (a2 + 1))) = true := bne_iff_ne.mpr c42
            by_cases c46 : y290.length < 17592186044416
            ·rw [if_pos c46] at H
             have LMc46 := Aside0.mk c46
             clear c46
             obtain ⟨y302, hy302⟩ : ∃ y_ : List Int, y_ = (y290 ++ [rd l1 a2]) := ⟨_, rfl⟩
             replace H : (some y302) = some r := by first | (rw [hy302]; with_reducible exact H) | (have H2_ := (Option.bind_some _ _).symm.trans H; rw [hy302]; with_reducible exact H2_) | (have H2_ := (Option.bind_some _ _).symm.trans H; with_reducible exact H2_) | with_reducible exact H | (rw [hy302]; exact H) | exact H
             have Ny302 := Aside0.mk hy302
             clear hy302
             obtain rfl := Option.some.inj H
             have p276 : 0 ≤ (a2 : Int) := of_decide_eq_true (by first | (with_reducible assumption) | assumption)
             have q276 : a2 < (l0.length : Int) := of_decide_eq_true (by first | (with_reducible assumption) | assumption)
             obtain ⟨ad276, e276, hx276_0, hx276_1, hx276_2, hx276_3, hx276_4⟩ := at_T42 HR0.out a2 p276 q276
             cases e276
             replace hx276_0 := (HB.out.cell (World.block_lt_of_cell? w _ hx276_0)).trans hx276_0
             replace hx276_1 := (HB.out.cell (World.block_lt_of_cell? w _ hx276_1)).trans hx276_1
             replace hx276_2 := (HB.out.cell (World.block_lt_of_cell? w _ hx276_2)).trans hx276_2
             replace hx276_3 := (HB.out.cell (World.block_lt_of_cell? w _ hx276_3)).trans hx276_3
             replace hx276_4 := (HB.out.cell (World.block_lt_of_cell? w _ hx276_4)).trans hx276_4
             replace p276 := eq_true p276
             replace q276 := eq_true q276
             go_wp2_with (first | ((with_reducible refine gate_callee (f := 37) rfl ?_); refine gM_ 28 Try.func37 (lockgateref06_Ja.calls ((rd_T42 l0 a2).f0) ((rd_T42 l0 a2).f1) ((rd_T42 l0 a2).f2) ((rd_T42 l0 a2).f3) ((rd_T42 l0 a2).f4) false _ A14.out) ?_; intro w47 hb; replace HO_7 := Aside0.mk (Kd.R_below (by (with_reducible repeat (first | apply Kd.R_alloc | apply Kd.R_drewN | apply Kd.R_drew)); exact HO_7.out) hb); replace HB := bl_ hb; (try clear hb); (try clear hb2); (try clear hk); (try clear hi)) | ((with_reducible refine gate_builtin (b := .append) (xs := #[.tmp 30, .tmp 33]) rfl ?_); (try (refine gate_guard (by rfl) ?_; dsimp only)); at_builtin; refine Kd.R_append (Kd.int .i64) (w0 := w) w.heap.size rfl (.tmp 30) (.tmp 33) 26 3 (.int .i64 0) 8 rfl Try.underlying26 info3 rfl (by decide) (by omega) (.slice none 0 0) ([] : List Int) (wrap64 (a2 + 1)) [.int .i64 (wrap64 (a2 + 1))] (fun _ => True) (fun _ => False) rfl rfl ?aP (fun _ hk => hk.elim) ?aF ?aO ?aB ?aS ?aL ?_; (case aP => exact rfl); (case aB => exact bz_); (case aF => exact (fun _ _ => trivial)); (case aO => exact (by (with_reducible repeat (first | apply Kd.R_alloc | apply Kd.R_drewN | apply Kd.R_drew)); exact HO_7.out)); (case aS => exact (below_size bz_)); (case aL => have := LMc32.out; omega); intro v291 w48 ho hb hg hat; rw [← Ny290.out] at ho; have n0_ := Aside0.mk (hb); have n1_ := Aside0.mk (ho); clear HB; clear HO_7; have HB := n0_; have HO292 := n1_; clear n0_ n1_; clear ho hb hg hat; have p293 : 0 ≤ (a2 : Int) := of_decide_eq_true (by first | (with_reducible assumption) | assumption); have q293 : a2 < (l1.length : Int) := of_decide_eq_true (by first | (with_reducible assumption) | assumption); obtain ⟨ad293, e293, hx293_0⟩ := Kd.at_int HR1.out a2 p293 q293; cases e293; replace hx293_0 := (HB.out.cell (World.block_lt_of_cell? w _ hx293_0)).trans hx293_0; replace p293 := eq_true p293; replace q293 := eq_true q293; have p294 : 0 ≤ (a2 : Int) := of_decide_eq_true (by first | (with_reducible assumption) | assumption); have q294 : a2 < (l0.length : Int) := of_decide_eq_true (by first | (with_reducible assumption) | assumption); obtain ⟨ad294, e294, hx294_0, hx294_1, hx294_2, hx294_3, hx294_4⟩ := at_T42 HR0.out a2 p294 q294; obtain rfl : ad276 = ad294 := (by injection e294); replace hx294_0 := (HB.out.cell (World.block_lt_of_cell? w _ hx294_0)).trans hx294_0; replace hx294_1 := (HB.out.cell (World.block_lt_of_cell? w _ hx294_1)).trans hx294_1; replace hx294_2 := (HB.out.cell (World.block_lt_of_cell? w _ hx294_2)).trans hx294_2; replace hx294_3 := (HB.out.cell (World.block_lt_of_cell? w _ hx294_3)).trans hx294_3; replace hx294_4 := (HB.out.cell (World.block_lt_of_cell? w _ hx294_4)).trans hx294_4; replace p294 := eq_true p294; replace q294 := eq_true q294) | (go_at_call 37; (with_reducible refine (lockgateref06_Ja.calls ((rd_T42 l0 a2).f0) ((rd_T42 l0 a2).f1) ((rd_T42 l0 a2).f2) ((rd_T42 l0 a2).f3) ((rd_T42 l0 a2).f4) false _ A35.out).mono ?_); rintro e w49 ⟨rfl, hb⟩; replace HO292 := Aside0.mk (Kd.R_below (by (with_reducible repeat (first | apply Kd.R_alloc | apply Kd.R_drewN | apply Kd.R_drew)); exact HO292.out) hb); replace HB := bl_ hb; (try clear hb); (try clear hb2); (try clear hk); (try clear hi); have p300 : 0 ≤ (a2 : Int) := of_decide_eq_true (by first | (with_reducible assumption) | assumption); have q300 : a2 < (l1.length : Int) := of_decide_eq_true (by first | (with_reducible assumption) | assumption); obtain ⟨ad300, e300, hx300_0⟩ := Kd.at_int HR1.out a2 p300 q300; obtain rfl : ad293 = ad300 := (by injection e300); replace hx300_0 := (HB.out.cell (World.block_lt_of_cell? w _ hx300_0)).trans hx300_0; replace p300 := eq_true p300; replace q300 := eq_true q300; have p301 : 0 ≤ (a2 : Int) := of_decide_eq_true (by first | (with_reducible assumption) | assumption); have q301 : a2 < (l1.length : Int) := of_decide_eq_true (by first | (with_reducible assumption) | assumption); obtain ⟨ad301, e301, hx301_0⟩ := Kd.at_int HR1.out a2 p301 q301; obtain rfl : ad293 = ad301 := (by injection e301); replace hx301_0 := (HB.out.cell (World.block_lt_of_cell? w _ hx301_0)).trans hx301_0; replace p301 := eq_true p301; replace q301 := eq_true q301) | ((with_reducible refine gate_builtin (b := .append) (xs := #[.tmp 56, .tmp 61]) rfl ?_); (try (refine gate_guard (by rfl) ?_; dsimp only)); at_builtin; refine Kd.R_append (Kd.int .i64) (w0 := w) w.heap.size rfl (.tmp 56) (.tmp 61) 26 3 (.int .i64 0) 8 rfl Try.underlying26 info3 rfl (by decide) (by omega) v291 y290 (rd l1 a2) [.int .i64 (rd l1 a2)] (fun _ => True) (fun _ => False) rfl rfl ?aP (fun _ hk => hk.elim) ?aF ?aO ?aB ?aS ?aL ?_; (case aP => exact rfl); (case aB => exact bz_); (case aF => exact (fun _ _ => trivial)); (case aO => exact (by (with_reducible repeat (first | apply Kd.R_alloc | apply Kd.R_drewN | apply Kd.R_drew)); exact HO292.out)); (case aS => exact (below_size bz_)); (case aL => have := LMc46.out; omega); intro v303 w50 ho hb hg hat; rw [← Ny302.out] at ho; have n0_ := Aside0.mk (hb); have n1_ := Aside0.mk (ho); clear HB; clear HO292; have HB := n0_; have HO304 := n1_; clear n0_ n1_; clear ho hb hg hat))
             go_ret
             exact ⟨_, by first | rfl | (simp [errW_none, errW_some] <;> rfl) | (simp [*, errW_none, errW_some] <;> rfl), by (with_reducible repeat (first | apply Kd.R_alloc | apply Kd.R_drewN | apply Kd.R_drew)); exact HO304.out, bz_⟩
            ·rw [if_neg c46] at H
             exact absurd H (by simp)
         ·rw [if_neg c34] at H
          have c34b0 : decide (0 ≤ (rd l1 a2)) = false := decide_eq_false c34
          clear c34
          obtain rfl := Option.some.inj H
          have p276 : 0 ≤ (a2 : Int) := of_decide_eq_true (by first | (with_reducible assumption) | assumption)
          have q276 : a2 < (l0.length : Int) := of_decide_eq_true (by first | (with_reducible assumption) | assumption)
          obtain ⟨ad276, e276, hx276_0, hx276_1, hx276_2, hx276_3, hx276_4⟩ := at_T42 HR0.out a2 p276 q276
          cases e276
          replace hx276_0 := (HB.out.cell (World.block_lt_of_cell? w _ hx276_0)).trans hx276_0
          replace hx276_1 := (HB.out.cell (World.block_lt_of_cell? w _ hx276_1)).trans hx276_1
          replace hx276_2 := (HB.out.cell (World.block_lt_of_cell? w _ hx276_2)).trans hx276_2
          replace hx276_3 := (HB.out.cell (World.block_lt_of_cell? w _ hx276_3)).trans hx276_3
          replace hx276_4 := (HB.out.cell (World.block_lt_of_cell? w _ hx276_4)).trans hx276_4
          replace p276 := eq_true p276
          replace q276 := eq_true q276
          go_wp2_with (first | ((with_reducible refine gate_callee (f := 37) rfl ?_); refine gM_ 28 Try.func37 (lockgateref06_Ja.calls ((rd_T42 l0 a2).f0) ((rd_T42 l0 a2).f1) ((rd_T42 l0 a2).f2) ((rd_T42 l0 a2).f3) ((rd_T42 l0 a2).f4) false _ A14.out) ?_; intro w51 hb; replace HO_7 := Aside0.mk (Kd.R_below (by (with_reducible repeat (first | apply Kd.R_alloc | apply Kd.R_drewN | apply Kd.R_drew)); exact HO_7.out) hb); replace HB := bl_ hb; (try clear hb); (try clear hb2); (try clear hk); (try clear hi)) | ((with_reducible refine gate_builtin (b := .append) (xs := #[.tmp 30, .tmp 33]) rfl ?_); (try (refine gate_guard (by rfl) ?_; dsimp only)); at_builtin; refine Kd.R_append (Kd.int .i64) (w0 := w) w.heap.size rfl (.tmp 30) (.tmp 33) 26 3 (.int .i64 0) 8 rfl Try.underlying26 info3 rfl (by decide) (by omega) (.slice none 0 0) ([] : List Int) (wrap64 (a2 + 1)) [.int .i64 (wrap64 (a2 + 1))] (fun _ => True) (fun _ => False) rfl rfl ?aP (fun _ hk => hk.elim) ?aF ?aO ?aB ?aS ?aL ?_; (case aP => exact rfl); (case aB => exact bz_); (case aF => exact (fun _ _ => trivial)); (case aO => exact (by (with_reducible repeat (first | apply Kd.R_alloc | apply Kd.R_drewN | apply Kd.R_drew)); exact HO_7.out)); (case aS => exact (below_size bz_)); (case aL => have := LMc32.out; omega); intro v291 w52 ho hb hg hat; rw [← Ny290.out] at ho; have n0_ := Aside0.mk (hb); have n1_ := Aside0.mk (ho); clear HB; clear HO_7; have HB := n0_; have HO292 := n1_; clear n0_ n1_; clear ho hb hg hat; have p293 : 0 ≤ (a2 : Int) := of_decide_eq_true (by first | (with_reducible assumption) | assumption); have q293 : a2 < (l1.length : Int) := of_decide_eq_true (by first | (with_reducible assumption) | assumption); obtain ⟨ad293, e293, hx293_0⟩ := Kd.at_int HR1.out a2 p293 q293; cases e293; replace hx293_0 := (HB.out.cell (World.block_lt_of_cell? w _ hx293_0)).trans hx293_0; replace p293 := eq_true p293; replace q293 := eq_true q293))
          go_ret
          exact ⟨_, by first | rfl | (simp [errW_none, errW_some] <;> rfl) | (simp [*, errW_none, errW_some] <;> rfl), by (with_reducible repeat (first | apply Kd.R_alloc | apply Kd.R_drewN | apply Kd.R_drew)); exact HO292.out, bz_⟩
        ·rw [if_neg c33] at H
         exact absurd H (by simp)
       ·rw [if_neg c32] at H
        exact absurd H (by simp)
     ·rw [if_neg c13] at H
      exact absurd H (by simp)
    ·rw [if_neg c12] at H
     exact absurd H (by simp)

end Go.Proofs.Ytkcneaaoghgllaa.PA
