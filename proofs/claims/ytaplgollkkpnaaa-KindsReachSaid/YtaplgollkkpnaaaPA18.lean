-- PRINTED by print.py (a twelfth state) out of the translation. Not trusted: Lean checks it.
import Derived.Test.YtaplgollkkpnaaaWTab
import Derived.Test.YtaplgollkkpnaaaPA0
import Derived.Test.YtaplgollkkpnaaaSq
import Derived.Test.YtaplgollkkpnaaaPA2
import Derived.Test.YtaplgollkkpnaaaPA17
namespace Go.Proofs.Ytaplgollkkpnaaa.PA
open Go.RowKit Go.Proofs.YtaplgollkkpnaaaW.PrintWords Go.Proofs.YtaplgollkkpnaaaW.PrintLast Go.Proofs.YtaplgollkkpnaaaW.PrintMore
attribute [local go_sem] max2_int min2_int max_two min_two max_three min_three max_four min_four   -- for this text's walks alone
set_option linter.unusedVariables false
set_option linter.unusedSimpArgs false

attribute [local go_sem high] eqA37
/-! ### lockgatekit_KeptDecls: function 11 -/
mutual
def lockgatekit_KeptDecls.j0 : Nat → List (S37) → List (S37) → Bool → Option (Bool)
 | 0, _, _, _ => none
 | k + 1, x0, x1, x20 => if x20 = true then (some false) else (lockgatekit_KeptDecls.l0 k x0 x1 0)
def lockgatekit_KeptDecls.l0 : Nat → List (S37) → List (S37) → Int → Option (Bool)
 | 0, _, _, _ => none
 | k + 1, x0, x1, x5 => if x5 < 5 then (if 0 ≤ (wrap64 ((x1.length : Int) + x5)) then (if (wrap64 ((x1.length : Int) + x5)) < (x0.length : Int) then ((lockgatekit_markDecls.f x5).bind fun bt507 => (if (!(((rd_T37 x0 (wrap64 ((x1.length : Int) + x5))).f0) == bt507.1) || (!(((rd_T37 x0 (wrap64 ((x1.length : Int) + x5))).f1) == bt507.2.1) || (!(((rd_T37 x0 (wrap64 ((x1.length : Int) + x5))).f2) == bt507.2.2.1) || (!(((rd_T37 x0 (wrap64 ((x1.length : Int) + x5))).f3) == bt507.2.2.2))))) = true then (some false) else (lockgatekit_KeptDecls.l0 k x0 x1 (wrap64 (x5 + 1))))) else (none)) else (none)) else (some true)
end
def lockgatekit_KeptDecls.f (k : Nat) (l0 : List (S37)) (l1 : List (S37)) : Option (Bool) := if (l0.length : Int) = (wrap64 ((l1.length : Int) + 5)) then (if 0 ≤ (l1.length : Int) then (if (l1.length : Int) ≤ (l0.length : Int) then ((lockgatekit_SameDecls.f k (l0.take ((l1.length : Int) : Int).toNat) l1).bind fun t505 => (lockgatekit_KeptDecls.j0 k l0 l1 (!t505))) else (none)) else (none)) else (lockgatekit_KeptDecls.j0 k l0 l1 true)
theorem lockgatekit_KeptDecls.mono_l : ∀ k, (∀ y0 y1 y2, LeO (lockgatekit_KeptDecls.j0 k y0 y1 y2) (lockgatekit_KeptDecls.j0 (k + 1) y0 y1 y2)) ∧ (∀ y0 y1 y2, LeO (lockgatekit_KeptDecls.l0 k y0 y1 y2) (lockgatekit_KeptDecls.l0 (k + 1) y0 y1 y2))
 | 0 => ⟨fun _ _ _ r h => by simp [lockgatekit_KeptDecls.j0] at h, fun _ _ _ r h => by simp [lockgatekit_KeptDecls.l0] at h⟩
 | k + 1 => by
  obtain ⟨ih0, ih1⟩ := lockgatekit_KeptDecls.mono_l k
  refine ⟨?_, ?_⟩
  ·intro y0 y1 y2
   unfold lockgatekit_KeptDecls.j0
   repeat' first
   | (with_reducible exact ih0 _ _ _)
   | (with_reducible exact ih1 _ _ _)
   | (with_reducible exact lockgatekit_SameDecls.mono _ _ _)
   | (with_reducible exact LeO.refl _)
   | (with_reducible exact LeO.none _)
   | (with_reducible refine LeO.ite ?_ ?_)
   | (with_reducible refine LeO.bind ?_ (fun _ => ?_))
   | exact ih0 _ _ _
   | exact ih1 _ _ _
   | exact lockgatekit_SameDecls.mono _ _ _
   | exact LeO.none _
   | refine LeO.ite ?_ ?_
   | refine LeO.bind ?_ (fun _ => ?_)
  ·intro y0 y1 y2
   unfold lockgatekit_KeptDecls.l0
   repeat' first
   | (with_reducible exact ih0 _ _ _)
   | (with_reducible exact ih1 _ _ _)
   | (with_reducible exact lockgatekit_SameDecls.mono _ _ _)
   | (with_reducible exact LeO.refl _)
   | (with_reducible exact LeO.none _)
   | (with_reducible refine LeO.ite ?_ ?_)
   | (with_reducible refine LeO.bind ?_ (fun _ => ?_))
   | exact ih0 _ _ _
   | exact ih1 _ _ _
   | exact lockgatekit_SameDecls.mono _ _ _
   | exact LeO.none _
   | refine LeO.ite ?_ ?_
   | refine LeO.bind ?_ (fun _ => ?_)
theorem lockgatekit_KeptDecls.mono : ∀ a0 a1 k, LeO (lockgatekit_KeptDecls.f k a0 a1) (lockgatekit_KeptDecls.f (k + 1) a0 a1) := by
 intro a0 a1 k
 obtain ⟨ih0, ih1⟩ := lockgatekit_KeptDecls.mono_l k
 unfold lockgatekit_KeptDecls.f
 repeat' first
  | (with_reducible exact ih0 _ _ _)
  | (with_reducible exact ih1 _ _ _)
  | (with_reducible exact lockgatekit_SameDecls.mono _ _ _)
  | (with_reducible exact LeO.refl _)
  | (with_reducible exact LeO.none _)
  | (with_reducible refine LeO.ite ?_ ?_)
  | (with_reducible refine LeO.bind ?_ (fun _ => ?_))
  | exact ih0 _ _ _
  | exact ih1 _ _ _
  | exact lockgatekit_SameDecls.mono _ _ _
  | exact LeO.none _
  | refine LeO.ite ?_ ?_
  | refine LeO.bind ?_ (fun _ => ?_)
def lockgatekit_KeptDecls.T6 : Bool × List (List Nat × List Nat) := (true, [([], []), ([], []), ([1], [1]), ([], []), ([2, 3], [2, 3]), ([0, 4], [0, 4]), ([5], [5]), ([], []), ([7], [7]), ([6, 8], [6, 8])])
def lockgatekit_KeptDecls.B6 : List Nat := [0, 0, 2, 0, 14, 31, 63, 0, 128, 511]
theorem lockgatekit_KeptDecls.tab6 : rtab .any (opsOf Try.f11 6) = lockgatekit_KeptDecls.T6 := by kernel_rfl
theorem lockgatekit_KeptDecls.bits6 : waitsOk lockgatekit_KeptDecls.T6.2 lockgatekit_KeptDecls.B6 = true := by kernel_rfl
set_option maxHeartbeats 8000000 in
set_option maxRecDepth 100000 in
theorem lockgatekit_KeptDecls.calls (k : Nat) (A0 : Option Addr) (c0 : Nat) (l0 : List (S37)) (A1 : Option Addr) (c1 : Nat) (l1 : List (S37)) (r : Bool) (w : World) (hr0 : Kd.C k37 w A0 l0.length l0) (hc0 : l0.length ≤ c0) (hr1 : Kd.C k37 w A1 l1.length l1) (hc1 : l1.length ≤ c1) (h : lockgatekit_KeptDecls.f k l0 l1 = some r) :
 Calls Try.prog 11 #[.slice A0 l0.length c0, .slice A1 l1.length c1] w fun e w' => e = .returned (.bool r) ∧ Below w.heap.size w w' := by
 have hu37 := Try.underlying37
 have HR0 := Aside0.mk hr0
 have HC0 := Aside0.mk hc0
 clear hr0 hc0
 have HR1 := Aside0.mk hr1
 have HC1 := Aside0.mk hc1
 clear hr1 hc1
 have HB := Aside0.mk (Below.refl w.heap.size w)
 have H : (if (l0.length : Int) = (wrap64 ((l1.length : Int) + 5)) then (if 0 ≤ (l1.length : Int) then (if (l1.length : Int) ≤ (l0.length : Int) then ((lockgatekit_SameDecls.f k (l0.take ((l1.length : Int) : Int).toNat) l1).bind fun t505 => (lockgatekit_KeptDecls.j0 k l0 l1 (!t505))) else (none)) else (none)) else (lockgatekit_KeptDecls.j0 k l0 l1 true)) = some r := h
 clear h
 have HC3 := Aside0.mk H
 clear H
 go_enter Try.func11, Try.ntmps11
 go_upto_region 1 with (fail)
 go_cut [20] (fun v20 wc => ∃ (kq : Nat) (x20_2 : Bool), v20 = .bool x20_2 ∧ Aside0 (lockgatekit_KeptDecls.j0 kq l0 l1 x20_2 = some r) ∧ Aside0 (kq ≤ k) ∧ Aside0 (Below w.heap.size w wc))
 case first =>
  have H := HC3.out
  clear HC3
  by_cases c4 : (l0.length : Int) = (wrap64 ((l1.length : Int) + 5))
  ·rw [if_pos c4] at H
   have c4b0 : ((l0.length : Int) == (wrap64 ((l1.length : Int) + 5))) = true := beq_iff_eq.mpr c4
   have c4b1 : ((l0.length : Int) != (wrap64 ((l1.length : Int) + 5))) = false := bne_eq_false_iff_eq.mpr c4
   clear c4
   (first | rw [c4b0] | (simp only [i64_w, i32_w]; rw [c4b0]) | skip)
   by_cases c5 : 0 ≤ (l1.length : Int)
   ·rw [if_pos c5] at H
    have c5b0 := eq_true c5
    have c5b1 : decide (0 ≤ (l1.length : Int)) = true := decide_eq_true c5
    clear c5
    by_cases c6 : (l1.length : Int) ≤ (l0.length : Int)
    ·rw [if_pos c6] at H
     have c6b0 := eq_true c6
     have c6b1 : decide ((l1.length : Int) ≤ (l0.length : Int)) = true := decide_eq_true c6
     clear c6
     obtain ⟨y501, hy501⟩ : ∃ y_ : List (S37), y_ = (l0.take ((l1.length : Int) : Int).toNat) := ⟨_, rfl⟩
     replace H : ((lockgatekit_SameDecls.f k y501 l1).bind fun t505 => (lockgatekit_KeptDecls.j0 k l0 l1 (!t505))) = some r := by first | (rw [hy501]; with_reducible exact H) | (have H2_ := (Option.bind_some _ _).symm.trans H; rw [hy501]; with_reducible exact H2_) | (have H2_ := (Option.bind_some _ _).symm.trans H; with_reducible exact H2_) | with_reducible exact H | (rw [hy501]; exact H) | exact H
     have Ny501 := Aside0.mk hy501
     clear hy501
     replace H := Option.bind_eq_some_iff.mp H
     obtain ⟨t505, A70, H⟩ := H
     replace H : (lockgatekit_KeptDecls.j0 k l0 l1 (!t505)) = some r := H
     have A7 := Aside0.mk A70
     clear A70
     have H' := Aside0.mk H
     clear H
     have q8 : ((l1.length : Int) : Int) ≤ ((l0.length : Int) : Int) := of_decide_eq_true (by first | (with_reducible assumption) | assumption)
     obtain ⟨i08, hi08, _, hsz8, _⟩ := info_parts info37
     have hroom8 : l0.length ≤ c0 := HC0.out
     have hC8 : Kd.C k37 _ A0 l0.length l0 := HR0.out
     have hcut8 := cut_to (P := Try.prog) 33 37 .i64 Try.underlying33 hi08 A0 l0.length c0 (l1.length : Int) (of_decide_eq_true (by first | (with_reducible assumption) | assumption)) q8 hroom8
     have hr8 := Kd.C_take (m := ((l1.length : Int) : Int).toNat) hC8 (by omega)
     have hy8 : y501.length = ((l1.length : Int) : Int).toNat := (by rw [Ny501.out, List.length_take]; omega)
     rw [← Ny501.out] at hr8
     rw [← hy8] at hcut8
     have HR504 := Aside0.mk hr8
     have HC504 := Aside0.mk (show y501.length ≤ c0 from by omega)
     clear hr8 hC8 hroom8 hi08 hsz8
     have KY8 := Aside0.mk hy8
     clear hy8
     replace q8 := eq_true q8
     go_wp2_with (first | (go_at_call 25; (with_reducible refine (lockgatekit_SameDecls.calls k _ _ y501 _ _ l1 t505 _ ?side1 ?side2 ?side3 ?side4 A7.out).mono ?_); (case side1 => repeat (first | exact (Kd.C_below HR504.out HB.out) | (with_reducible refine Kd.C_alloc ?_ _) | (with_reducible refine Kd.C_drewN ?_ _) | (with_reducible refine Kd.C_drew ?_))); (case side2 => exact HC504.out); (case side3 => repeat (first | exact (Kd.C_below HR1.out HB.out) | (with_reducible refine Kd.C_alloc ?_ _) | (with_reducible refine Kd.C_drewN ?_ _) | (with_reducible refine Kd.C_drew ?_))); (case side4 => exact HC1.out); rintro e w' ⟨rfl, ⟨nd, rfl⟩⟩))
     go_meet
     case rel => exact ⟨_, (!t505), (by first | rfl | (simp; done) | (simp [*]; done)), H', ⟨by first | omega | exact Nat.le_refl _⟩, ⟨bz_⟩⟩
    ·rw [if_neg c6] at H
     exact absurd H (by simp)
   ·rw [if_neg c5] at H
    exact absurd H (by simp)
  ·rw [if_neg c4] at H
   have c4b0 : ((l0.length : Int) == (wrap64 ((l1.length : Int) + 5))) = false := beq_eq_false_iff_ne.mpr c4
   have c4b1 : ((l0.length : Int) != (wrap64 ((l1.length : Int) + 5))) = true := bne_iff_ne.mpr c4
   (first | rw [c4b0] | (simp only [i64_w, i32_w]; rw [c4b0]) | skip)
   have H' := Aside0.mk H
   clear H
   go_wp2
   go_meet
   case rel => exact ⟨_, (true), (by first | rfl | (simp; done) | (simp [*]; done)), H', ⟨by first | omega | exact Nat.le_refl _⟩, ⟨bz_⟩⟩
 case rest =>
  clear HC3
  try clear c1
  try clear p2
  try clear c4
  try clear c4b0
  try clear c4b1
  try clear c5
  try clear c5b0
  try clear c5b1
  try clear c6
  try clear c6b0
  try clear c6b1
  try clear p6
  try clear q8
  try clear q8
  obtain ⟨kq, x20_2, rfl, HA, HJ2, HB⟩ := hcut
  cases kq with
  | zero => exact absurd HA.out (by simp [lockgatekit_KeptDecls.j0])
  | succ kj2 =>
   have H := HA.out
   clear HA
   simp only [lockgatekit_KeptDecls.j0] at H
   by_cases c9 : x20_2 = true
   ·subst c9
    have H1 : (some false) = some r := by rw [if_pos rfl] at H; exact H
    clear H
    have H := H1
    clear H1
    obtain rfl := Option.some.inj H
    go_wp2
    go_ret
    exact ⟨vv_, bz_⟩
   ·replace c9 := Bool.eq_false_iff.mpr c9
    subst c9
    have H1 : (lockgatekit_KeptDecls.l0 kj2 l0 l1 0) = some r := by rw [if_neg (show ¬ (false = true) by decide)] at H; exact H
    clear H
    have H := H1
    clear H1
    have H' := Aside0.mk H
    clear H
    go_wp2
    go_loopg [5] kj2 (fun kq v5 w' => ∃ (x5_2 : Int), v5 = .int .i64 x5_2 ∧ Aside0 (lockgatekit_KeptDecls.l0 kq l0 l1 x5_2 = some r) ∧ Aside0 (kq ≤ kj2) ∧ Aside0 (Below w.heap.size w w'))
    case atStart => exact ⟨(0), (by first | rfl | (simp; done) | (simp [*]; done)), H', ⟨Nat.le_refl _⟩, ⟨bz_⟩⟩
    case round =>
     clear H'
     try clear c1
     try clear p2
     try clear c4
     try clear c4b0
     try clear c4b1
     try clear c5
     try clear c5b0
     try clear c5b1
     try clear c6
     try clear c6b0
     try clear c6b1
     try clear p6
     try clear q8
     try clear c9
     try clear p2
     try clear p6
     try clear q8
     obtain ⟨x5_2, rfl, HA, HK2, HB⟩ := hrel
     cases gk with
     | zero => exact absurd HA.out (by simp [lockgatekit_KeptDecls.l0])
     | succ k2 =>
      have H := HA.out
      clear HA
      simp only [lockgatekit_KeptDecls.l0] at H
      by_cases c10 : x5_2 < 5
      ·rw [if_pos c10] at H
       have c10b0 : decide (x5_2 < 5) = true := decide_eq_true c10
       clear c10
       obtain ⟨ji11, hji11⟩ : ∃ j_ : Int, (wrap64 ((l1.length : Int) + x5_2)) = j_ := ⟨_, rfl⟩
       replace H : (if 0 ≤ (ji11) then (if (ji11) < (l0.length : Int) then ((lockgatekit_markDecls.f x5_2).bind fun bt507 => (if (!(((rd_T37 l0 (ji11)).f0) == bt507.1) || (!(((rd_T37 l0 (ji11)).f1) == bt507.2.1) || (!(((rd_T37 l0 (ji11)).f2) == bt507.2.2.1) || (!(((rd_T37 l0 (ji11)).f3) == bt507.2.2.2))))) = true then (some false) else (lockgatekit_KeptDecls.l0 k2 l0 l1 (wrap64 (x5_2 + 1))))) else (none)) else (none)) = some r := by first | (rw [hji11] at H; exact H) | (simp only [hji11] at H ⊢; exact H)
       have hji11w : (IntKind.i64.wrap ((l1.length : Int) + x5_2)) = ji11 := (i64_w _).trans hji11
       by_cases c12 : 0 ≤ (ji11)
       ·rw [if_pos c12] at H
        have c12b0 : decide (0 ≤ (ji11)) = true := decide_eq_true c12
        clear c12
        by_cases c13 : (ji11) < (l0.length : Int)
        ·rw [if_pos c13] at H
         have c13b0 : decide ((ji11) < (l0.length : Int)) = true := decide_eq_true c13
         clear c13
         replace H := Option.bind_eq_some_iff.mp H
         obtain ⟨⟨t507, t508, t509, t510⟩, A140, H⟩ := H
         replace H : (if (!(((rd_T37 l0 (ji11)).f0) == t507) || (!(((rd_T37 l0 (ji11)).f1) == t508) || (!(((rd_T37 l0 (ji11)).f2) == t509) || (!(((rd_T37 l0 (ji11)).f3) == t510))))) = true then (some false) else (lockgatekit_KeptDecls.l0 k2 l0 l1 (wrap64 (x5_2 + 1)))) = some r := H
         have A14 := Aside0.mk A140
         clear A140
         by_cases c15 : (!(((rd_T37 l0 (ji11)).f0) == t507) || (!(((rd_T37 l0 (ji11)).f1) == t508) || (!(((rd_T37 l0 (ji11)).f2) == t509) || (!(((rd_T37 l0 (ji11)).f3) == t510))))) = true
         ·rw [if_pos c15] at H
          have c15b0 : (!(((rd_T37 l0 (ji11)).f0) == t507) || (!(((rd_T37 l0 (ji11)).f1) == t508) || (!(((rd_T37 l0 (ji11)).f2) == t509) || (!(((rd_T37 l0 (ji11)).f3) == t510))))) = true := c15
          clear c15
          obtain rfl := Option.some.inj H
          try go_wp2
          replace HB := Aside0.mk (below_drew1 HB.out)
          have p506 : 0 ≤ ((ji11) : Int) := of_decide_eq_true (by first | (with_reducible assumption) | assumption)
          have q506 : (ji11) < (l0.length : Int) := of_decide_eq_true (by first | (with_reducible assumption) | assumption)
          obtain ⟨ad506, e506, hx506_0, hx506_1, hx506_2, hx506_3⟩ := at_T37 HR0.out (ji11) p506 q506
          have hw506_3 := hx506_3
          have hw506_2 := hx506_2
          have hw506_1 := hx506_1
          have hw506_0 := hx506_0
          cases e506
          replace hx506_0 := (HB.out.cell (World.block_lt_of_cell? w _ hx506_0)).trans hx506_0
          replace hx506_1 := (HB.out.cell (World.block_lt_of_cell? w _ hx506_1)).trans hx506_1
          replace hx506_2 := (HB.out.cell (World.block_lt_of_cell? w _ hx506_2)).trans hx506_2
          replace hx506_3 := (HB.out.cell (World.block_lt_of_cell? w _ hx506_3)).trans hx506_3
          replace p506 := eq_true p506
          replace q506 := eq_true q506
          refine start_ (n := 10) (S := fun w' => w'.cell? (ad506.add (((ji11)).toNat * 4)) = some (.int .i64 ((rd_T37 l0 (ji11)).f0)) ∧ w'.cell? ⟨(ad506.add (((ji11)).toNat * 4)).block, (ad506.add (((ji11)).toNat * 4)).off + 1, none⟩ = some (.int .i64 ((rd_T37 l0 (ji11)).f1)) ∧ w'.cell? ⟨(ad506.add (((ji11)).toNat * 4)).block, (ad506.add (((ji11)).toNat * 4)).off + 2, none⟩ = some (.int .i64 ((rd_T37 l0 (ji11)).f2)) ∧ w'.cell? ⟨(ad506.add (((ji11)).toNat * 4)).block, (ad506.add (((ji11)).toNat * 4)).off + 3, none⟩ = some (.int .i64 ((rd_T37 l0 (ji11)).f3))) (ds := []) #[n_,n_,n_,n_,n_,n_,n_,n_,n_,n_] (by kernel_rfl) rfl rfl ⟨((HB.out.cell (World.block_lt_of_cell? w _ hw506_0)).trans hw506_0), ((HB.out.cell (World.block_lt_of_cell? w _ hw506_1)).trans hw506_1), ((HB.out.cell (World.block_lt_of_cell? w _ hw506_2)).trans hw506_2), ((HB.out.cell (World.block_lt_of_cell? w _ hw506_3)).trans hw506_3)⟩ (fun hHeld => ?_); refine with_tabW lockgatekit_KeptDecls.tab6 lockgatekit_KeptDecls.bits6 (fun HT_ HW_ => ?_)
          generalize wr.drew = w16 at HB hx506_0 hx506_1 hx506_2 hx506_3 hHeld ⊢
          refine pq_ 0 25 #[y_,n_,n_,n_,n_,n_,n_,n_,n_,n_] ?_
          refine pq_ 1 26 #[y_,y_,n_,n_,n_,n_,n_,n_,n_,n_] ?_
          refine pq_ 2 27 #[y_,y_,y_,n_,n_,n_,n_,n_,n_,n_] ?_
          refine pq_ 3 28 #[y_,y_,y_,y_,n_,n_,n_,n_,n_,n_] ?_
          refine pq_ 4 29 #[y_,y_,y_,y_,y_,n_,n_,n_,n_,n_] ?_
          refine pq_ 5 30 #[y_,y_,y_,y_,y_,y_,n_,n_,n_,n_] ?_
          refine pq_ 7 32 #[y_,y_,y_,y_,y_,y_,n_,y_,n_,n_] ?_
          refine tq1_ 6 31 #[y_,y_,y_,y_,y_,y_,y_,y_,n_,n_] hHeld ?_
          refine one_ (i := 8) (N := some 33) #[y_,y_,y_,y_,y_,y_,y_,y_,y_,n_] rfl rfl (one_of HT_.out (by kernel_rfl)) (by decide) (fun K hK => ?_)
          refine goes_ Try.func21 (by kernel_rfl) rfl #[.int .i64 x5_2] (by rfl) rfl rfl mp_ ?_
          with_reducible refine (lockgatekit_markDecls.calls x5_2 t507 t508 t509 t510 _ A14.out).mono ?_
          rintro e w17 ⟨rfl, hb⟩
          refine ⟨_, rfl, ?_⟩
          replace HB := bl_ hb
          try clear hb
          refine hK.out _ _ ⟨((HB.out.cell (World.block_lt_of_cell? w _ hw506_0)).trans hw506_0), ((HB.out.cell (World.block_lt_of_cell? w _ hw506_1)).trans hw506_1), ((HB.out.cell (World.block_lt_of_cell? w _ hw506_2)).trans hw506_2), ((HB.out.cell (World.block_lt_of_cell? w _ hw506_3)).trans hw506_3)⟩ (fun hHeld => ?_)
          clear hK K
          refine norm_ (a' := ?_) ?_ ?_
          rotate_left
          ·show Act.put _ (some 33) _ = _
           simp only [Act.put, s1_, s2_, s3_, i64_w, i32_w]
           rfl
          refine pq_ 9 34 #[y_,y_,y_,y_,y_,y_,y_,y_,y_,y_] ?_
          refine done_ (done_of HT_.out (by kernel_rfl)) ?_
          try go_wp2
          go_ret
          exact ⟨by first | rfl | (simp [errW_none, errW_some] <;> rfl) | (simp only [← hji11]; first | rfl | (simp [errW_none, errW_some] <;> rfl)) | (simp [*, errW_none, errW_some] <;> rfl), bz_⟩
         ·rw [if_neg c15] at H
          have c15b0 : (!(((rd_T37 l0 (ji11)).f0) == t507) || (!(((rd_T37 l0 (ji11)).f1) == t508) || (!(((rd_T37 l0 (ji11)).f2) == t509) || (!(((rd_T37 l0 (ji11)).f3) == t510))))) = false := by simpa using c15
          clear c15
          have H' := Aside0.mk H
          clear H
          try go_wp2
          replace HB := Aside0.mk (below_drew1 HB.out)
          have p506 : 0 ≤ ((ji11) : Int) := of_decide_eq_true (by first | (with_reducible assumption) | assumption)
          have q506 : (ji11) < (l0.length : Int) := of_decide_eq_true (by first | (with_reducible assumption) | assumption)
          obtain ⟨ad506, e506, hx506_0, hx506_1, hx506_2, hx506_3⟩ := at_T37 HR0.out (ji11) p506 q506
          have hw506_3 := hx506_3
          have hw506_2 := hx506_2
          have hw506_1 := hx506_1
          have hw506_0 := hx506_0
          cases e506
          replace hx506_0 := (HB.out.cell (World.block_lt_of_cell? w _ hx506_0)).trans hx506_0
          replace hx506_1 := (HB.out.cell (World.block_lt_of_cell? w _ hx506_1)).trans hx506_1
          replace hx506_2 := (HB.out.cell (World.block_lt_of_cell? w _ hx506_2)).trans hx506_2
          replace hx506_3 := (HB.out.cell (World.block_lt_of_cell? w _ hx506_3)).trans hx506_3
          replace p506 := eq_true p506
          replace q506 := eq_true q506
          refine start_ (n := 10) (S := fun w' => w'.cell? (ad506.add (((ji11)).toNat * 4)) = some (.int .i64 ((rd_T37 l0 (ji11)).f0)) ∧ w'.cell? ⟨(ad506.add (((ji11)).toNat * 4)).block, (ad506.add (((ji11)).toNat * 4)).off + 1, none⟩ = some (.int .i64 ((rd_T37 l0 (ji11)).f1)) ∧ w'.cell? ⟨(ad506.add (((ji11)).toNat * 4)).block, (ad506.add (((ji11)).toNat * 4)).off + 2, none⟩ = some (.int .i64 ((rd_T37 l0 (ji11)).f2)) ∧ w'.cell? ⟨(ad506.add (((ji11)).toNat * 4)).block, (ad506.add (((ji11)).toNat * 4)).off + 3, none⟩ = some (.int .i64 ((rd_T37 l0 (ji11)).f3))) (ds := []) #[n_,n_,n_,n_,n_,n_,n_,n_,n_,n_] (by kernel_rfl) rfl rfl ⟨((HB.out.cell (World.block_lt_of_cell? w _ hw506_0)).trans hw506_0), ((HB.out.cell (World.block_lt_of_cell? w _ hw506_1)).trans hw506_1), ((HB.out.cell (World.block_lt_of_cell? w _ hw506_2)).trans hw506_2), ((HB.out.cell (World.block_lt_of_cell? w _ hw506_3)).trans hw506_3)⟩ (fun hHeld => ?_); refine with_tabW lockgatekit_KeptDecls.tab6 lockgatekit_KeptDecls.bits6 (fun HT_ HW_ => ?_)
          generalize wr.drew = w18 at HB hx506_0 hx506_1 hx506_2 hx506_3 hHeld ⊢
          refine pq_ 0 25 #[y_,n_,n_,n_,n_,n_,n_,n_,n_,n_] ?_
          refine pq_ 1 26 #[y_,y_,n_,n_,n_,n_,n_,n_,n_,n_] ?_
          refine pq_ 2 27 #[y_,y_,y_,n_,n_,n_,n_,n_,n_,n_] ?_
          refine pq_ 3 28 #[y_,y_,y_,y_,n_,n_,n_,n_,n_,n_] ?_
          refine pq_ 4 29 #[y_,y_,y_,y_,y_,n_,n_,n_,n_,n_] ?_
          refine pq_ 5 30 #[y_,y_,y_,y_,y_,y_,n_,n_,n_,n_] ?_
          refine pq_ 7 32 #[y_,y_,y_,y_,y_,y_,n_,y_,n_,n_] ?_
          refine tq1_ 6 31 #[y_,y_,y_,y_,y_,y_,y_,y_,n_,n_] hHeld ?_
          refine one_ (i := 8) (N := some 33) #[y_,y_,y_,y_,y_,y_,y_,y_,y_,n_] rfl rfl (one_of HT_.out (by kernel_rfl)) (by decide) (fun K hK => ?_)
          refine goes_ Try.func21 (by kernel_rfl) rfl #[.int .i64 x5_2] (by rfl) rfl rfl mp_ ?_
          with_reducible refine (lockgatekit_markDecls.calls x5_2 t507 t508 t509 t510 _ A14.out).mono ?_
          rintro e w19 ⟨rfl, hb⟩
          refine ⟨_, rfl, ?_⟩
          replace HB := bl_ hb
          try clear hb
          refine hK.out _ _ ⟨((HB.out.cell (World.block_lt_of_cell? w _ hw506_0)).trans hw506_0), ((HB.out.cell (World.block_lt_of_cell? w _ hw506_1)).trans hw506_1), ((HB.out.cell (World.block_lt_of_cell? w _ hw506_2)).trans hw506_2), ((HB.out.cell (World.block_lt_of_cell? w _ hw506_3)).trans hw506_3)⟩ (fun hHeld => ?_)
          clear hK K
          refine norm_ (a' := ?_) ?_ ?_
          rotate_left
          ·show Act.put _ (some 33) _ = _
           simp only [Act.put, s1_, s2_, s3_, i64_w, i32_w]
           rfl
          refine pq_ 9 34 #[y_,y_,y_,y_,y_,y_,y_,y_,y_,y_] ?_
          refine done_ (done_of HT_.out (by kernel_rfl)) ?_
          try go_wp2
          go_roundg k2
          case measure => have := HJ2.out; have := HK2.out; omega
          case rel => exact ⟨(wrap64 (x5_2 + 1)), (by first | rfl | (simp; done) | (simp [*]; done)), H', ⟨by have := HJ2.out; have := HK2.out; omega⟩, ⟨bz_⟩⟩
        ·rw [if_neg c13] at H
         exact absurd H (by simp)
       ·rw [if_neg c12] at H
        exact absurd H (by simp)
      ·rw [if_neg c10] at H
       have c10b0 : decide (x5_2 < 5) = false := decide_eq_false c10
       clear c10
       obtain rfl := Option.some.inj H
       go_wp2
       go_ret
       exact ⟨vv_, bz_⟩

end Go.Proofs.Ytaplgollkkpnaaa.PA
