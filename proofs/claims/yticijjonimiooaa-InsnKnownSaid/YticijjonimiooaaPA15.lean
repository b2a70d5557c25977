import Derived.Test.YticijjonimiooaaWRepsOne
import Derived.Test.YticijjonimiooaaPA0
import Derived.Test.YticijjonimiooaaSq
namespace Go.Proofs.Yticijjonimiooaa.PA
open Go.RowKit Go.Proofs.YticijjonimiooaaW.PrintWords Go.Proofs.YticijjonimiooaaW.PrintLast Go.Proofs.YticijjonimiooaaW.PrintMore
attribute [local go_sem] max2_int min2_int max_two min_two max_three min_three max_four min_four
set_option linter.unusedVariables false
set_option linter.unusedSimpArgs false
mutual
def lockgateref02_Table.l0 : Nat → List (S60) → Int → Option ((List (S60)))
 | 0, _, _ => none
 | k + 1, x1, x2 => if x2 < 4 then ((some (([(⟨wrap64 (1 + (wrap64 (96 + (wrap64 (8 * x2))))), true, true, true, false, true⟩ : S60), (⟨wrap64 (2 + (wrap64 (96 + (wrap64 (8 * x2))))), true, false, true, true, false⟩ : S60), (⟨wrap64 (3 + (wrap64 (96 + (wrap64 (8 * x2))))), true, true, true, false, false⟩ : S60)] : List (S60)) : List (S60))).bind fun y223 => (if x1.length + y223.length < 8796093022208 then (lockgateref02_Table.l0 k (x1 ++ y223) (wrap64 (x2 + 1))) else (none))) else (lockgateref02_Table.l1 k x1 0)
def lockgateref02_Table.l1 : Nat → List (S60) → Int → Option ((List (S60)))
 | 0, _, _ => none
 | k + 1, x1, x4 => if x4 ≤ 12 then (lockgateref02_Table.l2 k x1 x4 4) else ((some (([(⟨212, true, false, false, true, true⟩ : S60), (⟨220, true, false, false, true, true⟩ : S60)] : List (S60)) : List (S60))).bind fun y238 => (if x1.length + y238.length < 8796093022208 then (lockgateref02_Table.l3 k (x1 ++ y238) 1) else (none)))
def lockgateref02_Table.l2 : Nat → List (S60) → Int → Int → Option ((List (S60)))
 | 0, _, _, _ => none
 | k + 1, x1, x4, x5 => if x5 ≤ 7 then (if x4 = 8 then (if x1.length < 8796093022208 then (lockgateref02_Table.l2 k (x1 ++ [(⟨wrap64 ((wrap64 (16 * x4)) + x5), true, false, false, false, true⟩ : S60)]) x4 (wrap64 (x5 + 3))) else (none)) else ((some (([(⟨wrap64 ((wrap64 (16 * x4)) + x5), true, false, false, true, true⟩ : S60), (⟨wrap64 ((wrap64 ((wrap64 (16 * x4)) + x5)) + 8), true, true, false, false, true⟩ : S60)] : List (S60)) : List (S60))).bind fun y232 => (if x1.length + y232.length < 8796093022208 then (lockgateref02_Table.l2 k (x1 ++ y232) x4 (wrap64 (x5 + 3))) else (none)))) else (lockgateref02_Table.l1 k x1 (wrap64 (x4 + 1)))
def lockgateref02_Table.l3 : Nat → List (S60) → Int → Option ((List (S60)))
 | 0, _, _ => none
 | k + 1, x1, x7 => if x7 ≤ 13 then (if x7 = 8 then (lockgateref02_Table.j4 k x1 x7 true) else (lockgateref02_Table.j4 k x1 x7 (x7 == 9))) else (some x1)
def lockgateref02_Table.j4 : Nat → List (S60) → Int → Bool → Option ((List (S60)))
 | 0, _, _, _ => none
 | k + 1, x1, x7, x75 => if x75 = true then (lockgateref02_Table.l3 k x1 (wrap64 (x7 + 1))) else (lockgateref02_Table.l4 k x1 x7 5)
def lockgateref02_Table.l4 : Nat → List (S60) → Int → Int → Option ((List (S60)))
 | 0, _, _, _ => none
 | k + 1, x1, x7, x8 => if x8 ≤ 6 then ((some (([(⟨wrap64 ((wrap64 (16 * x7)) + x8), true, false, true, true, false⟩ : S60), (⟨wrap64 ((wrap64 ((wrap64 (16 * x7)) + x8)) + 8), true, true, true, false, false⟩ : S60)] : List (S60)) : List (S60))).bind fun y244 => (if x1.length + y244.length < 8796093022208 then (lockgateref02_Table.l4 k (x1 ++ y244) x7 (wrap64 (x8 + 1))) else (none))) else (lockgateref02_Table.l3 k x1 (wrap64 (x7 + 1)))
end
def lockgateref02_Table.f (k : Nat)  : Option ((List (S60))) := lockgateref02_Table.l0 k (([(⟨24, true, true, false, true, true⟩ : S60), (⟨5, false, false, true, false, false⟩ : S60), (⟨133, false, false, false, true, false⟩ : S60), (⟨149, false, false, false, false, false⟩ : S60)] : List (S60))) 0
theorem lockgateref02_Table.mono_l : ∀ k, (∀ y0 y1, LeO (lockgateref02_Table.l0 k y0 y1) (lockgateref02_Table.l0 (k + 1) y0 y1)) ∧ (∀ y0 y1, LeO (lockgateref02_Table.l1 k y0 y1) (lockgateref02_Table.l1 (k + 1) y0 y1)) ∧ (∀ y0 y1 y2, LeO (lockgateref02_Table.l2 k y0 y1 y2) (lockgateref02_Table.l2 (k + 1) y0 y1 y2)) ∧ (∀ y0 y1, LeO (lockgateref02_Table.l3 k y0 y1) (lockgateref02_Table.l3 (k + 1) y0 y1)) ∧ (∀ y0 y1 y2, LeO (lockgateref02_Table.j4 k y0 y1 y2) (lockgateref02_Table.j4 (k + 1) y0 y1 y2)) ∧ (∀ y0 y1 y2, LeO (lockgateref02_Table.l4 k y0 y1 y2) (lockgateref02_Table.l4 (k + 1) y0 y1 y2))
 | 0 => ⟨fun _ _ r h => by simp [lockgateref02_Table.l0] at h, fun _ _ r h => by simp [lockgateref02_Table.l1] at h, fun _ _ _ r h => by simp [lockgateref02_Table.l2] at h, fun _ _ r h => by simp [lockgateref02_Table.l3] at h, fun _ _ _ r h => by simp [lockgateref02_Table.j4] at h, fun _ _ _ r h => by simp [lockgateref02_Table.l4] at h⟩
 | k + 1 => by
  obtain ⟨ih0, ih1, ih2, ih3, ih4, ih5⟩ := lockgateref02_Table.mono_l k
  refine ⟨?_, ?_, ?_, ?_, ?_, ?_⟩
  ·intro y0 y1
   unfold lockgateref02_Table.l0
   repeat' first
   | (with_reducible exact ih0 _ _)
   | (with_reducible exact ih1 _ _)
   | (with_reducible exact ih2 _ _ _)
   | (with_reducible exact ih3 _ _)
   | (with_reducible exact ih4 _ _ _)
   | (with_reducible exact ih5 _ _ _)
   | (with_reducible exact LeO.refl _)
   | (with_reducible exact LeO.none _)
   | (with_reducible refine LeO.ite ?_ ?_)
   | (with_reducible refine LeO.bind ?_ (fun _ => ?_))
   | exact ih0 _ _
   | exact ih1 _ _
   | exact ih2 _ _ _
   | exact ih3 _ _
   | exact ih4 _ _ _
   | exact ih5 _ _ _
   | exact LeO.none _
   | refine LeO.ite ?_ ?_
   | refine LeO.bind ?_ (fun _ => ?_)
  ·intro y0 y1
   unfold lockgateref02_Table.l1
   repeat' first
   | (with_reducible exact ih0 _ _)
   | (with_reducible exact ih1 _ _)
   | (with_reducible exact ih2 _ _ _)
   | (with_reducible exact ih3 _ _)
   | (with_reducible exact ih4 _ _ _)
   | (with_reducible exact ih5 _ _ _)
   | (with_reducible exact LeO.refl _)
   | (with_reducible exact LeO.none _)
   | (with_reducible refine LeO.ite ?_ ?_)
   | (with_reducible refine LeO.bind ?_ (fun _ => ?_))
   | exact ih0 _ _
   | exact ih1 _ _
   | exact ih2 _ _ _
   | exact ih3 _ _
   | exact ih4 _ _ _
   | exact ih5 _ _ _
   | exact LeO.none _
   | refine LeO.ite ?_ ?_
   | refine LeO.bind ?_ (fun _ => ?_)
  ·intro y0 y1 y2
   unfold lockgateref02_Table.l2
   repeat' first
   | (with_reducible exact ih0 _ _)
   | (with_reducible exact ih1 _ _)
   | (with_reducible exact ih2 _ _ _)
   | (with_reducible exact ih3 _ _)
   | (with_reducible exact ih4 _ _ _)
   | (with_reducible exact ih5 _ _ _)
   | (with_reducible exact LeO.refl _)
   | (with_reducible exact LeO.none _)
   | (with_reducible refine LeO.ite ?_ ?_)
   | (with_reducible refine LeO.bind ?_ (fun _ => ?_))
   | exact ih0 _ _
   | exact ih1 _ _
   | exact ih2 _ _ _
   | exact ih3 _ _
   | exact ih4 _ _ _
   | exact ih5 _ _ _
   | exact LeO.none _
   | refine LeO.ite ?_ ?_
   | refine LeO.bind ?_ (fun _ => ?_)
  ·intro y0 y1
   unfold lockgateref02_Table.l3
   repeat' first
   | (with_reducible exact ih0 _ _)
   | (with_reducible exact ih1 _ _)
   | (with_reducible exact ih2 _ _ _)
   | (with_reducible exact ih3 _ _)
   | (with_reducible exact ih4 _ _ _)
   | (with_reducible exact ih5 _ _ _)
   | (with_reducible exact LeO.refl _)
   | (with_reducible exact LeO.none _)
   | (with_reducible refine LeO.ite ?_ ?_)
   | (with_reducible refine LeO.bind ?_ (fun _ => ?_))
   | exact ih0 _ _
   | exact ih1 _ _
   | exact ih2 _ _ _
   | exact ih3 _ _
   | exact ih4 _ _ _
   | exact ih5 _ _ _
   | exact LeO.none _
   | refine LeO.ite ?_ ?_
   | refine LeO.bind ?_ (fun _ => ?_)
  ·intro y0 y1 y2
   unfold lockgateref02_Table.j4
   repeat' first
   | (with_reducible exact ih0 _ _)
   | (with_reducible exact ih1 _ _)
   | (with_reducible exact ih2 _ _ _)
   | (with_reducible exact ih3 _ _)
   | (with_reducible exact ih4 _ _ _)
   | (with_reducible exact ih5 _ _ _)
   | (with_reducible exact LeO.refl _)
   | (with_reducible exact LeO.none _)
   | (with_reducible refine LeO.ite ?_ ?_)
   | (with_reducible refine LeO.bind ?_ (fun _ => ?_))
   | exact ih0 _ _
   | exact ih1 _ _
   | exact ih2 _ _ _
   | exact ih3 _ _
   | exact ih4 _ _ _
   | exact ih5 _ _ _
   | exact LeO.none _
   | refine LeO.ite ?_ ?_
   | refine LeO.bind ?_ (fun _ => ?_)
  intro y0 y1 y2
  unfold lockgateref02_Table.l4
  repeat' first
  | (with_reducible exact ih0 _ _)
  | (with_reducible exact ih1 _ _)
  | (with_reducible exact ih2 _ _ _)
  | (with_reducible exact ih3 _ _)
  | (with_reducible exact ih4 _ _ _)
  | (with_reducible exact ih5 _ _ _)
  | (with_reducible exact LeO.refl _)
  | (with_reducible exact LeO.none _)
  | (with_reducible refine LeO.ite ?_ ?_)
  | (with_reducible refine LeO.bind ?_ (fun _ => ?_))
  | exact ih0 _ _
  | exact ih1 _ _
  | exact ih2 _ _ _
  | exact ih3 _ _
  | exact ih4 _ _ _
  | exact ih5 _ _ _
  | exact LeO.none _
  | refine LeO.ite ?_ ?_
  | refine LeO.bind ?_ (fun _ => ?_)
theorem lockgateref02_Table.mono : ∀ k, LeO (lockgateref02_Table.f k ) (lockgateref02_Table.f (k + 1) ) := by
 intro  k
 obtain ⟨ih0, ih1, ih2, ih3, ih4, ih5⟩ := lockgateref02_Table.mono_l k
 unfold lockgateref02_Table.f
 repeat' first
  | (with_reducible exact ih0 _ _)
  | (with_reducible exact ih1 _ _)
  | (with_reducible exact ih2 _ _ _)
  | (with_reducible exact ih3 _ _)
  | (with_reducible exact ih4 _ _ _)
  | (with_reducible exact ih5 _ _ _)
  | (with_reducible exact LeO.refl _)
  | (with_reducible exact LeO.none _)
  | (with_reducible refine LeO.ite ?_ ?_)
  | (with_reducible refine LeO.bind ?_ (fun _ => ?_))
  | exact ih0 _ _
  | exact ih1 _ _
  | exact ih2 _ _ _
  | exact ih3 _ _
  | exact ih4 _ _ _
  | exact ih5 _ _ _
  | exact LeO.none _
  | refine LeO.ite ?_ ?_
  | refine LeO.bind ?_ (fun _ => ?_)
set_option maxHeartbeats 8000000 in
set_option maxRecDepth 100000 in
theorem lockgateref02_Table.calls (k : Nat)  (r : List (S60)) (w : World) (h : lockgateref02_Table.f k  = some r) :
 Calls Try.prog 50 #[] w fun e w' => ∃ v0_ : Value, e = .returned (v0_) ∧ Kd.R k60 60 w' w.heap.size (fun _ => True) v0_ r ∧ Below w.heap.size w w' := by
 have hu60 := Try.underlying60
 have HB := Aside0.mk (Below.refl w.heap.size w)
 have H : (lockgateref02_Table.l0 k (([(⟨24, true, true, false, true, true⟩ : S60), (⟨5, false, false, true, false, false⟩ : S60), (⟨133, false, false, false, true, false⟩ : S60), (⟨149, false, false, false, false, false⟩ : S60)] : List (S60))) 0) = some r := h
 clear h
 obtain ⟨y220, hy220⟩ : ∃ Y : List (S60), Y = (([(⟨24, true, true, false, true, true⟩ : S60), (⟨5, false, false, true, false, false⟩ : S60), (⟨133, false, false, false, true, false⟩ : S60), (⟨149, false, false, false, false, false⟩ : S60)] : List (S60))) := ⟨_, rfl⟩
 replace H : (lockgateref02_Table.l0 k y220 0) = some r := by first | (rw [hy220]; with_reducible exact H) | (have H2_ := (Option.bind_some _ _).symm.trans H; rw [hy220]; with_reducible exact H2_) | (have H2_ := (Option.bind_some _ _).symm.trans H; with_reducible exact H2_) | with_reducible exact H | (rw [hy220]; exact H) | exact H
 have Ny220 := Aside0.mk hy220
 clear hy220
 have H' := Aside0.mk H
 clear H
 go_enter Try.func50, Try.ntmps50
 go_wp2_with (first | ((with_reducible refine gate_dst (N := 14) rfl ?_); refine Kd.R_lit k60 _ 60 ?hg (N := 14) ?hd (xs := ([(⟨24, true, true, false, true, true⟩ : S60), (⟨5, false, false, true, false, false⟩ : S60), (⟨133, false, false, false, true, false⟩ : S60), (⟨149, false, false, false, false, false⟩ : S60)] : List (S60))) (inner := [.int .i64 24, .bool true, .bool true, .bool false, .bool true, .bool true, .int .i64 5, .bool false, .bool false, .bool true, .bool false, .bool false, .int .i64 133, .bool false, .bool false, .bool false, .bool true, .bool false, .int .i64 149, .bool false, .bool false, .bool false, .bool false, .bool false]) (ok := fun _ => True) (okp := fun _ => True) ?hr ?hp (fun _ hk => hk) trivial (Below.refl _ _) (Nat.le_refl _) (by simp) ?_; (case hd => rfl); (case hg => rfl); (case hr => first | (go_simp; done) | (go_simp; rfl)); (case hp => exact (Reps.c6 (show Kd.M k60 _ _ _ (⟨24, true, true, false, true, true⟩ : S60) [.int .i64 24, .bool true, .bool true, .bool false, .bool true, .bool true] from (k60_mkM _ _ _ (⟨24, true, true, false, true, true⟩ : S60) )) (Reps.c6 (show Kd.M k60 _ _ _ (⟨5, false, false, true, false, false⟩ : S60) [.int .i64 5, .bool false, .bool false, .bool true, .bool false, .bool false] from (k60_mkM _ _ _ (⟨5, false, false, true, false, false⟩ : S60) )) (Reps.c6 (show Kd.M k60 _ _ _ (⟨133, false, false, false, true, false⟩ : S60) [.int .i64 133, .bool false, .bool false, .bool false, .bool true, .bool false] from (k60_mkM _ _ _ (⟨133, false, false, false, true, false⟩ : S60) )) (Reps.c6 (show Kd.M k60 _ _ _ (⟨149, false, false, false, false, false⟩ : S60) [.int .i64 149, .bool false, .bool false, .bool false, .bool false, .bool false] from (k60_mkM _ _ _ (⟨149, false, false, false, false, false⟩ : S60) )) (Reps.none _ _)))))); intro v221 w1 ho2 hb hg_ hnew_; clear hg_ hnew_; (first | rw [← Ny220.out] at ho2 | (simp only [Int.reduceToNat] at ho2; rw [← Ny220.out] at ho2)); have HO222 := Aside0.mk (Kd.R_lower ho2 (below_size bz_)); replace HB := bl_ hb; clear hb ho2))
 go_loopg [1, 2] k (fun kq v1 v2 w' => ∃ (x1_1 : List (S60)) (x2_1 : Int), v2 = .int .i64 x2_1 ∧ Aside0 (lockgateref02_Table.l0 kq x1_1 x2_1 = some r) ∧ Aside0 (kq ≤ k) ∧ Aside0 (Kd.R k60 60 w' w.heap.size (fun _ => True) v1 x1_1) ∧ Aside0 (Below w.heap.size w w'))
 case atStart => exact ⟨(y220), (0), vs_, H', ⟨Nat.le_refl _⟩, ⟨by (with_reducible repeat (first | apply Kd.R_alloc | apply Kd.R_drewN | apply Kd.R_drew)); exact HO222.out⟩, ⟨bz_⟩⟩
 case round =>
  clear H'
  try clear p2
  obtain ⟨x1_1, x2_1, rfl, HA, HK1, HO_1, HB⟩ := hrel
  cases gk with
  | zero => exact absurd HA.out (by simp [lockgateref02_Table.l0])
  | succ k1 =>
   have H := HA.out
   clear HA
   simp only [lockgateref02_Table.l0] at H
   by_cases c3 : x2_1 < 4
   ·rw [if_pos c3] at H
    have c3b0 : decide (x2_1 < 4) = true := decide_eq_true c3
    clear c3
    obtain ⟨y223, hy223⟩ : ∃ Y : List (S60), Y = (([(⟨wrap64 (1 + (wrap64 (96 + (wrap64 (8 * x2_1))))), true, true, true, false, true⟩ : S60), (⟨wrap64 (2 + (wrap64 (96 + (wrap64 (8 * x2_1))))), true, false, true, true, false⟩ : S60), (⟨wrap64 (3 + (wrap64 (96 + (wrap64 (8 * x2_1))))), true, true, true, false, false⟩ : S60)] : List (S60))) := ⟨_, rfl⟩
    replace H : (if x1_1.length + y223.length < 8796093022208 then (lockgateref02_Table.l0 k1 (x1_1 ++ y223) (wrap64 (x2_1 + 1))) else (none)) = some r := by first | (rw [hy223]; with_reducible exact H) | (have H2_ := (Option.bind_some _ _).symm.trans H; rw [hy223]; with_reducible exact H2_) | (have H2_ := (Option.bind_some _ _).symm.trans H; with_reducible exact H2_) | with_reducible exact H | (rw [hy223]; exact H) | exact H
    have Ny223 := Aside0.mk hy223
    clear hy223
    by_cases c4 : x1_1.length + y223.length < 8796093022208
    ·rw [if_pos c4] at H
     have LMc4 := Aside0.mk c4
     clear c4
     obtain ⟨y226, hy226⟩ : ∃ Y : List (S60), Y = (x1_1 ++ y223) := ⟨_, rfl⟩
     replace H : (lockgateref02_Table.l0 k1 y226 (wrap64 (x2_1 + 1))) = some r := by first | (rw [hy226]; with_reducible exact H) | (have H2_ := (Option.bind_some _ _).symm.trans H; rw [hy226]; with_reducible exact H2_) | (have H2_ := (Option.bind_some _ _).symm.trans H; with_reducible exact H2_) | with_reducible exact H | (rw [hy226]; exact H) | exact H
     have Ny226 := Aside0.mk hy226
     clear hy226
     have H' := Aside0.mk H
     clear H
     go_wp2_with (first | ((with_reducible refine gate_dst (N := 32) rfl ?_); refine Kd.R_lit k60 _ 60 ?hg (N := 32) ?hd (xs := ([(⟨wrap64 (1 + (wrap64 (96 + (wrap64 (8 * x2_1))))), true, true, true, false, true⟩ : S60), (⟨wrap64 (2 + (wrap64 (96 + (wrap64 (8 * x2_1))))), true, false, true, true, false⟩ : S60), (⟨wrap64 (3 + (wrap64 (96 + (wrap64 (8 * x2_1))))), true, true, true, false, false⟩ : S60)] : List (S60))) (inner := [.int .i64 (wrap64 (1 + (wrap64 (96 + (wrap64 (8 * x2_1)))))), .bool true, .bool true, .bool true, .bool false, .bool true, .int .i64 (wrap64 (2 + (wrap64 (96 + (wrap64 (8 * x2_1)))))), .bool true, .bool false, .bool true, .bool true, .bool false, .int .i64 (wrap64 (3 + (wrap64 (96 + (wrap64 (8 * x2_1)))))), .bool true, .bool true, .bool true, .bool false, .bool false]) (ok := fun _ => True) (okp := fun _ => True) ?hr ?hp (fun _ hk => hk) trivial (Below.refl _ _) (Nat.le_refl _) (by simp) ?_; (case hd => rfl); (case hg => rfl); (case hr => first | (go_simp; done) | (go_simp; rfl)); (case hp => exact (Reps.c6 (show Kd.M k60 _ _ _ (⟨wrap64 (1 + (wrap64 (96 + (wrap64 (8 * x2_1))))), true, true, true, false, true⟩ : S60) [.int .i64 (wrap64 (1 + (wrap64 (96 + (wrap64 (8 * x2_1)))))), .bool true, .bool true, .bool true, .bool false, .bool true] from (k60_mkM _ _ _ (⟨wrap64 (1 + (wrap64 (96 + (wrap64 (8 * x2_1))))), true, true, true, false, true⟩ : S60) )) (Reps.c6 (show Kd.M k60 _ _ _ (⟨wrap64 (2 + (wrap64 (96 + (wrap64 (8 * x2_1))))), true, false, true, true, false⟩ : S60) [.int .i64 (wrap64 (2 + (wrap64 (96 + (wrap64 (8 * x2_1)))))), .bool true, .bool false, .bool true, .bool true, .bool false] from (k60_mkM _ _ _ (⟨wrap64 (2 + (wrap64 (96 + (wrap64 (8 * x2_1))))), true, false, true, true, false⟩ : S60) )) (Reps.c6 (show Kd.M k60 _ _ _ (⟨wrap64 (3 + (wrap64 (96 + (wrap64 (8 * x2_1))))), true, true, true, false, false⟩ : S60) [.int .i64 (wrap64 (3 + (wrap64 (96 + (wrap64 (8 * x2_1)))))), .bool true, .bool true, .bool true, .bool false, .bool false] from (k60_mkM _ _ _ (⟨wrap64 (3 + (wrap64 (96 + (wrap64 (8 * x2_1))))), true, true, true, false, false⟩ : S60) )) (Reps.none _ _))))); intro v224 w5 ho6 hb hg_ hnew_; clear hg_ hnew_; (first | rw [← Ny223.out] at ho6 | (simp only [Int.reduceToNat] at ho6; rw [← Ny223.out] at ho6)); have n0_ := Aside0.mk (Kd.R_elder' (ra_ HO_1.out) (Kd.R_base ho6) hb); have n1_ := Aside0.mk (Kd.R_lower (Kd.R_new' ho6 (Kd.R_lt (ra_ HO_1.out))) (below_size bz_)); have n2_ := bl_ hb; clear HO_1; clear HB; have HO_1 := n0_; have HO225 := n1_; have HB := n2_; clear n0_ n1_ n2_; clear hb ho6; obtain ⟨Ao8, co8, eo8⟩ := Kd.R_slice HO225.out; subst eo8) | ((with_reducible refine gate_builtin (b := .append) (xs := #[.tmp 22, .tmp 32]) rfl ?_); at_builtin; refine Kd.R_append_rows k60 (w0 := w) w.heap.size rfl (.tmp 22) (.tmp 32) 70 60 (.agg #[(.int .i64 0), (.bool false), (.bool false), (.bool false), (.bool false), (.bool false)]) 16 rfl Try.underlying70 info60 rfl (by decide) (by omega) u1 x1_1 y223 _ _ _ (fun k_ => some k_ ≠ (.slice Ao8 y223.length co8 : Value).ownBlock) (fun _ => False) rfl rfl ?aO ?aR (fun _ _ h => h) (fun _ h => h.elim) ?aF ?aB ?aS ?aL ?_; (case aR => exact ca_ ((Kd.R_reads' HO225.out).2.2)); (case aB => exact bz_); (case aF => exact (fun k_ hk => Kd.fresh' (Kd.R_lt (ra_ HO225.out)) k_ hk)); (case aO => exact (ra_ (Kd.R_mono HO_1.out (fun _ hk => hk.2)))); (case aS => exact (below_size bz_)); (case aL => have := LMc4.out; omega); intro v227 w7 ho hb hg hat; rw [← Ny226.out] at ho; have n0_ := Aside0.mk (Kd.R_after (ok := (fun _ => True)) (ra_ HO225.out) hg hat); have n1_ := Aside0.mk (hb); have n2_ := Aside0.mk (ho); clear HO225; clear HB; clear HO_1; have HO225 := n0_; have HB := n1_; have HO228 := n2_; clear n0_ n1_ n2_; clear ho hb hg hat))
     go_roundg k1
     case measure => have := HK1.out; omega
     case rel => exact ⟨(y226), (wrap64 (x2_1 + 1)), vs_, H', ⟨by have := HK1.out; omega⟩, ⟨by (with_reducible repeat (first | apply Kd.R_alloc | apply Kd.R_drewN | apply Kd.R_drew)); exact Kd.R_mono HO228.out (fun _ hk => trivial)⟩, ⟨bz_⟩⟩
    rw [if_neg c4] at H
    exact absurd H (by simp)
   rw [if_neg c3] at H
   have c3b0 : decide (x2_1 < 4) = false := decide_eq_false c3
   clear c3
   have H' := Aside0.mk H
   clear H
   go_wp2
   go_loopg [1, 4] k1 (fun kq v1 v4 w' => ∃ (x1_2 : List (S60)) (x4_2 : Int), v4 = .int .i64 x4_2 ∧ Aside0 (lockgateref02_Table.l1 kq x1_2 x4_2 = some r) ∧ Aside0 (kq ≤ k1) ∧ Aside0 (Kd.R k60 60 w' w.heap.size (fun _ => True) v1 x1_2) ∧ Aside0 (Below w.heap.size w w'))
   case atStart => exact ⟨(x1_1), (0), vs_, H', ⟨Nat.le_refl _⟩, ⟨by (with_reducible repeat (first | apply Kd.R_alloc | apply Kd.R_drewN | apply Kd.R_drew)); exact HO_1.out⟩, ⟨bz_⟩⟩
   case round =>
    clear H'
    try clear p2
    try clear c3
    try clear c3b0
    try clear c4
    try clear c5
    try clear c6
    try clear p6
    try clear p2
    obtain ⟨x1_2, x4_2, rfl, HA, HK2, HO_1, HB⟩ := hrel
    cases gk with
    | zero => exact absurd HA.out (by simp [lockgateref02_Table.l1])
    | succ k2 =>
     have H := HA.out
     clear HA
     simp only [lockgateref02_Table.l1] at H
     by_cases c9 : x4_2 ≤ 12
     ·rw [if_pos c9] at H
      have c9b0 : decide (x4_2 ≤ 12) = true := decide_eq_true c9
      clear c9
      have H' := Aside0.mk H
      clear H
      go_wp2
      go_loopg [1, 5] k2 (fun kq v1 v5 w' => ∃ (x1_3 : List (S60)) (x5_3 : Int), v5 = .int .i64 x5_3 ∧ Aside0 (lockgateref02_Table.l2 kq x1_3 x4_2 x5_3 = some r) ∧ Aside0 (kq ≤ k2) ∧ Aside0 (Kd.R k60 60 w' w.heap.size (fun _ => True) v1 x1_3) ∧ Aside0 (Below w.heap.size w w'))
      case atStart => exact ⟨(x1_2), (4), vs_, H', ⟨Nat.le_refl _⟩, ⟨by (with_reducible repeat (first | apply Kd.R_alloc | apply Kd.R_drewN | apply Kd.R_drew)); exact HO_1.out⟩, ⟨bz_⟩⟩
      case round =>
       clear H'
       try clear p2
       try clear c3
       try clear c3b0
       try clear c4
       try clear c5
       try clear c6
       try clear p6
       try clear c9
       try clear c9b0
       try clear p2
       try clear p6
       obtain ⟨x1_3, x5_3, rfl, HA, HK3, HO_1, HB⟩ := hrel
       cases gk with
       | zero => exact absurd HA.out (by simp [lockgateref02_Table.l2])
       | succ k3 =>
        have H := HA.out
        clear HA
        simp only [lockgateref02_Table.l2] at H
        by_cases c10 : x5_3 ≤ 7
        rotate_left
        ·rw [if_neg c10] at H
         have c10b0 : decide (x5_3 ≤ 7) = false := decide_eq_false c10
         clear c10
         have H' := Aside0.mk H
         clear H
         go_wp2
         go_roundg k3
         case measure => have := HK1.out; have := HK2.out; have := HK3.out; omega
         case rel => exact ⟨(x1_3), (wrap64 (x4_2 + 1)), vs_, H', ⟨by have := HK1.out; have := HK2.out; have := HK3.out; omega⟩, ⟨by (with_reducible repeat (first | apply Kd.R_alloc | apply Kd.R_drewN | apply Kd.R_drew)); exact HO_1.out⟩, ⟨bz_⟩⟩
        rw [if_pos c10] at H
        have c10b0 : decide (x5_3 ≤ 7) = true := decide_eq_true c10
        clear c10
        by_cases c11 : x4_2 = 8
        ·rw [if_pos c11] at H
         have c11b0 : (x4_2 == 8) = true := beq_iff_eq.mpr c11
         have c11b1 : (x4_2 != 8) = false := bne_eq_false_iff_eq.mpr c11
         clear c11
         by_cases c12 : x1_3.length < 8796093022208
         ·rw [if_pos c12] at H
          have LMc12 := Aside0.mk c12
          clear c12
          obtain ⟨y229, hy229⟩ : ∃ Y : List (S60), Y = (x1_3 ++ [(⟨wrap64 ((wrap64 (16 * x4_2)) + x5_3), true, false, false, false, true⟩ : S60)]) := ⟨_, rfl⟩
          replace H : (lockgateref02_Table.l2 k3 y229 x4_2 (wrap64 (x5_3 + 3))) = some r := by first | (rw [hy229]; with_reducible exact H) | (have H2_ := (Option.bind_some _ _).symm.trans H; rw [hy229]; with_reducible exact H2_) | (have H2_ := (Option.bind_some _ _).symm.trans H; with_reducible exact H2_) | with_reducible exact H | (rw [hy229]; exact H) | exact H
          have Ny229 := Aside0.mk hy229
          clear hy229
          have H' := Aside0.mk H
          clear H
          go_wp2_with (first | ((with_reducible refine gate_builtin (b := .append) (xs := #[.tmp 48, .tmp 51]) rfl ?_); at_builtin; refine Kd.R_append k60 (w0 := w) w.heap.size rfl (.tmp 48) (.tmp 51) 70 60 (.agg #[(.int .i64 0), (.bool false), (.bool false), (.bool false), (.bool false), (.bool false)]) 16 rfl Try.underlying70 info60 rfl (by decide) (by omega) u1 x1_3 (⟨wrap64 ((wrap64 (16 * x4_2)) + x5_3), true, false, false, false, true⟩ : S60) [.int .i64 (wrap64 ((wrap64 (16 * x4_2)) + x5_3)), .bool true, .bool false, .bool false, .bool false, .bool true] (fun _ => True) (fun _ => False) rfl rfl ?aP (fun _ hk => hk.elim) ?aF ?aO ?aB ?aS ?aL ?_; (case aP => exact k60_mkM _ _ _ (⟨wrap64 ((wrap64 (16 * x4_2)) + x5_3), true, false, false, false, true⟩ : S60)); (case aB => exact bz_); (case aF => exact (fun _ _ => trivial)); (case aO => exact (ra_ HO_1.out)); (case aS => exact (below_size bz_)); (case aL => have := LMc12.out; omega); intro v230 w13 ho hb hg hat; rw [← Ny229.out] at ho; have n0_ := Aside0.mk (hb); have n1_ := Aside0.mk (ho); clear HB; clear HO_1; have HB := n0_; have HO231 := n1_; clear n0_ n1_; clear ho hb hg hat))
          go_roundg k3
          case measure => have := HK1.out; have := HK2.out; have := HK3.out; omega
          case rel => exact ⟨(y229), (wrap64 (x5_3 + 3)), vs_, H', ⟨by have := HK1.out; have := HK2.out; have := HK3.out; omega⟩, ⟨by (with_reducible repeat (first | apply Kd.R_alloc | apply Kd.R_drewN | apply Kd.R_drew)); exact HO231.out⟩, ⟨bz_⟩⟩
         rw [if_neg c12] at H
         exact absurd H (by simp)
        rw [if_neg c11] at H
        have c11b0 : (x4_2 == 8) = false := beq_eq_false_iff_ne.mpr c11
        have c11b1 : (x4_2 != 8) = true := bne_iff_ne.mpr c11
        obtain ⟨y232, hy232⟩ : ∃ Y : List (S60), Y = (([(⟨wrap64 ((wrap64 (16 * x4_2)) + x5_3), true, false, false, true, true⟩ : S60), (⟨wrap64 ((wrap64 ((wrap64 (16 * x4_2)) + x5_3)) + 8), true, true, false, false, true⟩ : S60)] : List (S60))) := ⟨_, rfl⟩
        replace H : (if x1_3.length + y232.length < 8796093022208 then (lockgateref02_Table.l2 k3 (x1_3 ++ y232) x4_2 (wrap64 (x5_3 + 3))) else (none)) = some r := by first | (rw [hy232]; with_reducible exact H) | (have H2_ := (Option.bind_some _ _).symm.trans H; rw [hy232]; with_reducible exact H2_) | (have H2_ := (Option.bind_some _ _).symm.trans H; with_reducible exact H2_) | with_reducible exact H | (rw [hy232]; exact H) | exact H
        have Ny232 := Aside0.mk hy232
        clear hy232
        by_cases c14 : x1_3.length + y232.length < 8796093022208
        ·rw [if_pos c14] at H
         have LMc14 := Aside0.mk c14
         clear c14
         obtain ⟨y235, hy235⟩ : ∃ Y : List (S60), Y = (x1_3 ++ y232) := ⟨_, rfl⟩
         replace H : (lockgateref02_Table.l2 k3 y235 x4_2 (wrap64 (x5_3 + 3))) = some r := by first | (rw [hy235]; with_reducible exact H) | (have H2_ := (Option.bind_some _ _).symm.trans H; rw [hy235]; with_reducible exact H2_) | (have H2_ := (Option.bind_some _ _).symm.trans H; with_reducible exact H2_) | with_reducible exact H | (rw [hy235]; exact H) | exact H
         have Ny235 := Aside0.mk hy235
         clear hy235
         have H' := Aside0.mk H
         clear H
         go_wp2_with (first | ((with_reducible refine gate_dst (N := 59) rfl ?_); refine Kd.R_lit k60 _ 60 ?hg (N := 59) ?hd (xs := ([(⟨wrap64 ((wrap64 (16 * x4_2)) + x5_3), true, false, false, true, true⟩ : S60), (⟨wrap64 ((wrap64 ((wrap64 (16 * x4_2)) + x5_3)) + 8), true, true, false, false, true⟩ : S60)] : List (S60))) (inner := [.int .i64 (wrap64 ((wrap64 (16 * x4_2)) + x5_3)), .bool true, .bool false, .bool false, .bool true, .bool true, .int .i64 (wrap64 ((wrap64 ((wrap64 (16 * x4_2)) + x5_3)) + 8)), .bool true, .bool true, .bool false, .bool false, .bool true]) (ok := fun _ => True) (okp := fun _ => True) ?hr ?hp (fun _ hk => hk) trivial (Below.refl _ _) (Nat.le_refl _) (by simp) ?_; (case hd => rfl); (case hg => rfl); (case hr => first | (go_simp; done) | (go_simp; rfl)); (case hp => exact (Reps.c6 (show Kd.M k60 _ _ _ (⟨wrap64 ((wrap64 (16 * x4_2)) + x5_3), true, false, false, true, true⟩ : S60) [.int .i64 (wrap64 ((wrap64 (16 * x4_2)) + x5_3)), .bool true, .bool false, .bool false, .bool true, .bool true] from (k60_mkM _ _ _ (⟨wrap64 ((wrap64 (16 * x4_2)) + x5_3), true, false, false, true, true⟩ : S60) )) (Reps.c6 (show Kd.M k60 _ _ _ (⟨wrap64 ((wrap64 ((wrap64 (16 * x4_2)) + x5_3)) + 8), true, true, false, false, true⟩ : S60) [.int .i64 (wrap64 ((wrap64 ((wrap64 (16 * x4_2)) + x5_3)) + 8)), .bool true, .bool true, .bool false, .bool false, .bool true] from (k60_mkM _ _ _ (⟨wrap64 ((wrap64 ((wrap64 (16 * x4_2)) + x5_3)) + 8), true, true, false, false, true⟩ : S60) )) (Reps.none _ _)))); intro v233 w15 ho16 hb hg_ hnew_; clear hg_ hnew_; (first | rw [← Ny232.out] at ho16 | (simp only [Int.reduceToNat] at ho16; rw [← Ny232.out] at ho16)); have n0_ := Aside0.mk (Kd.R_elder' (ra_ HO_1.out) (Kd.R_base ho16) hb); have n1_ := Aside0.mk (Kd.R_lower (Kd.R_new' ho16 (Kd.R_lt (ra_ HO_1.out))) (below_size bz_)); have n2_ := bl_ hb; clear HO_1; clear HB; have HO_1 := n0_; have HO234 := n1_; have HB := n2_; clear n0_ n1_ n2_; clear hb ho16; obtain ⟨Ao18, co18, eo18⟩ := Kd.R_slice HO234.out; subst eo18) | ((with_reducible refine gate_builtin (b := .append) (xs := #[.tmp 53, .tmp 59]) rfl ?_); at_builtin; refine Kd.R_append_rows k60 (w0 := w) w.heap.size rfl (.tmp 53) (.tmp 59) 70 60 (.agg #[(.int .i64 0), (.bool false), (.bool false), (.bool false), (.bool false), (.bool false)]) 16 rfl Try.underlying70 info60 rfl (by decide) (by omega) u1 x1_3 y232 _ _ _ (fun k_ => some k_ ≠ (.slice Ao18 y232.length co18 : Value).ownBlock) (fun _ => False) rfl rfl ?aO ?aR (fun _ _ h => h) (fun _ h => h.elim) ?aF ?aB ?aS ?aL ?_; (case aR => exact ca_ ((Kd.R_reads' HO234.out).2.2)); (case aB => exact bz_); (case aF => exact (fun k_ hk => Kd.fresh' (Kd.R_lt (ra_ HO234.out)) k_ hk)); (case aO => exact (ra_ (Kd.R_mono HO_1.out (fun _ hk => hk.2)))); (case aS => exact (below_size bz_)); (case aL => have := LMc14.out; omega); intro v236 w17 ho hb hg hat; rw [← Ny235.out] at ho; have n0_ := Aside0.mk (Kd.R_after (ok := (fun _ => True)) (ra_ HO234.out) hg hat); have n1_ := Aside0.mk (hb); have n2_ := Aside0.mk (ho); clear HO234; clear HB; clear HO_1; have HO234 := n0_; have HB := n1_; have HO237 := n2_; clear n0_ n1_ n2_; clear ho hb hg hat))
         go_roundg k3
         case measure => have := HK1.out; have := HK2.out; have := HK3.out; omega
         case rel => exact ⟨(y235), (wrap64 (x5_3 + 3)), vs_, H', ⟨by have := HK1.out; have := HK2.out; have := HK3.out; omega⟩, ⟨by (with_reducible repeat (first | apply Kd.R_alloc | apply Kd.R_drewN | apply Kd.R_drew)); exact Kd.R_mono HO237.out (fun _ hk => trivial)⟩, ⟨bz_⟩⟩
        rw [if_neg c14] at H
        exact absurd H (by simp)
     rw [if_neg c9] at H
     have c9b0 : decide (x4_2 ≤ 12) = false := decide_eq_false c9
     clear c9
     obtain ⟨y238, hy238⟩ : ∃ Y : List (S60), Y = (([(⟨212, true, false, false, true, true⟩ : S60), (⟨220, true, false, false, true, true⟩ : S60)] : List (S60))) := ⟨_, rfl⟩
     replace H : (if x1_2.length + y238.length < 8796093022208 then (lockgateref02_Table.l3 k2 (x1_2 ++ y238) 1) else (none)) = some r := by first | (rw [hy238]; with_reducible exact H) | (have H2_ := (Option.bind_some _ _).symm.trans H; rw [hy238]; with_reducible exact H2_) | (have H2_ := (Option.bind_some _ _).symm.trans H; with_reducible exact H2_) | with_reducible exact H | (rw [hy238]; exact H) | exact H
     have Ny238 := Aside0.mk hy238
     clear hy238
     by_cases c19 : x1_2.length + y238.length < 8796093022208
     rotate_left
     ·rw [if_neg c19] at H
      exact absurd H (by simp)
     rw [if_pos c19] at H
     have LMc19 := Aside0.mk c19
     clear c19
     obtain ⟨y241, hy241⟩ : ∃ Y : List (S60), Y = (x1_2 ++ y238) := ⟨_, rfl⟩
     replace H : (lockgateref02_Table.l3 k2 y241 1) = some r := by first | (rw [hy241]; with_reducible exact H) | (have H2_ := (Option.bind_some _ _).symm.trans H; rw [hy241]; with_reducible exact H2_) | (have H2_ := (Option.bind_some _ _).symm.trans H; with_reducible exact H2_) | with_reducible exact H | (rw [hy241]; exact H) | exact H
     have Ny241 := Aside0.mk hy241
     clear hy241
     have H' := Aside0.mk H
     clear H
     go_wp2_with (first | ((with_reducible refine gate_dst (N := 64) rfl ?_); refine Kd.R_lit k60 _ 60 ?hg (N := 64) ?hd (xs := ([(⟨212, true, false, false, true, true⟩ : S60), (⟨220, true, false, false, true, true⟩ : S60)] : List (S60))) (inner := [.int .i64 212, .bool true, .bool false, .bool false, .bool true, .bool true, .int .i64 220, .bool true, .bool false, .bool false, .bool true, .bool true]) (ok := fun _ => True) (okp := fun _ => True) ?hr ?hp (fun _ hk => hk) trivial (Below.refl _ _) (Nat.le_refl _) (by simp) ?_; (case hd => rfl); (case hg => rfl); (case hr => first | (go_simp; done) | (go_simp; rfl)); (case hp => exact (Reps.c6 (show Kd.M k60 _ _ _ (⟨212, true, false, false, true, true⟩ : S60) [.int .i64 212, .bool true, .bool false, .bool false, .bool true, .bool true] from (k60_mkM _ _ _ (⟨212, true, false, false, true, true⟩ : S60) )) (Reps.c6 (show Kd.M k60 _ _ _ (⟨220, true, false, false, true, true⟩ : S60) [.int .i64 220, .bool true, .bool false, .bool false, .bool true, .bool true] from (k60_mkM _ _ _ (⟨220, true, false, false, true, true⟩ : S60) )) (Reps.none _ _)))); intro v239 w20 ho21 hb hg_ hnew_; clear hg_ hnew_; (first | rw [← Ny238.out] at ho21 | (simp only [Int.reduceToNat] at ho21; rw [← Ny238.out] at ho21)); have n0_ := Aside0.mk (Kd.R_elder' (ra_ HO_1.out) (Kd.R_base ho21) hb); have n1_ := Aside0.mk (Kd.R_lower (Kd.R_new' ho21 (Kd.R_lt (ra_ HO_1.out))) (below_size bz_)); have n2_ := bl_ hb; clear HO_1; clear HB; have HO_1 := n0_; have HO240 := n1_; have HB := n2_; clear n0_ n1_ n2_; clear hb ho21; obtain ⟨Ao23, co23, eo23⟩ := Kd.R_slice HO240.out; subst eo23) | ((with_reducible refine gate_builtin (b := .append) (xs := #[.tmp 61, .tmp 64]) rfl ?_); at_builtin; refine Kd.R_append_rows k60 (w0 := w) w.heap.size rfl (.tmp 61) (.tmp 64) 70 60 (.agg #[(.int .i64 0), (.bool false), (.bool false), (.bool false), (.bool false), (.bool false)]) 16 rfl Try.underlying70 info60 rfl (by decide) (by omega) u1 x1_2 y238 _ _ _ (fun k_ => some k_ ≠ (.slice Ao23 y238.length co23 : Value).ownBlock) (fun _ => False) rfl rfl ?aO ?aR (fun _ _ h => h) (fun _ h => h.elim) ?aF ?aB ?aS ?aL ?_; (case aR => exact ca_ ((Kd.R_reads' HO240.out).2.2)); (case aB => exact bz_); (case aF => exact (fun k_ hk => Kd.fresh' (Kd.R_lt (ra_ HO240.out)) k_ hk)); (case aO => exact (ra_ (Kd.R_mono HO_1.out (fun _ hk => hk.2)))); (case aS => exact (below_size bz_)); (case aL => have := LMc19.out; omega); intro v242 w22 ho hb hg hat; rw [← Ny241.out] at ho; have n0_ := Aside0.mk (Kd.R_after (ok := (fun _ => True)) (ra_ HO240.out) hg hat); have n1_ := Aside0.mk (hb); have n2_ := Aside0.mk (ho); clear HO240; clear HB; clear HO_1; have HO240 := n0_; have HB := n1_; have HO243 := n2_; clear n0_ n1_ n2_; clear ho hb hg hat))
     go_loopg [1, 7] k2 (fun kq v1 v7 w' => ∃ (x1_3 : List (S60)) (x7_3 : Int), v7 = .int .i64 x7_3 ∧ Aside0 (lockgateref02_Table.l3 kq x1_3 x7_3 = some r) ∧ Aside0 (kq ≤ k2) ∧ Aside0 (Kd.R k60 60 w' w.heap.size (fun _ => True) v1 x1_3) ∧ Aside0 (Below w.heap.size w w'))
     case atStart => exact ⟨(y241), (1), vs_, H', ⟨Nat.le_refl _⟩, ⟨by (with_reducible repeat (first | apply Kd.R_alloc | apply Kd.R_drewN | apply Kd.R_drew)); exact Kd.R_mono HO243.out (fun _ hk => trivial)⟩, ⟨bz_⟩⟩
     case round =>
      clear H'
      try clear c1
      try clear p2
      try clear c3
      try clear c3b0
      try clear c4
      try clear c5
      try clear c6
      try clear p6
      try clear c9
      try clear c9b0
      try clear c10
      try clear c10b0
      try clear c11
      try clear c11b0
      try clear c11b1
      try clear c12
      try clear c14
      try clear c19
      try clear p2
      try clear p6
      obtain ⟨x1_3, x7_3, rfl, HA, HK3, HO_1, HB⟩ := hrel
      cases gk with
      | zero => exact absurd HA.out (by simp [lockgateref02_Table.l3])
      | succ k3 =>
       have H := HA.out
       clear HA
       simp only [lockgateref02_Table.l3] at H
       by_cases c24 : x7_3 ≤ 13
       rotate_left
       ·rw [if_neg c24] at H
        have c24b0 : decide (x7_3 ≤ 13) = false := decide_eq_false c24
        clear c24
        obtain rfl := Option.some.inj H
        go_wp2
        go_ret
        exact ⟨_, by first | rfl | (simp [errW_none, errW_some] <;> rfl) | (simp [*, errW_none, errW_some] <;> rfl), by (with_reducible repeat (first | apply Kd.R_alloc | apply Kd.R_drewN | apply Kd.R_drew)); exact HO_1.out, bz_⟩
       rw [if_pos c24] at H
       have c24b0 : decide (x7_3 ≤ 13) = true := decide_eq_true c24
       clear c24
       have HC25 := Aside0.mk H
       clear H
       go_upto_region 21 with (fail)
       go_cut [75] (fun v75 wc => ∃ (kq : Nat) (x75_24 : Bool), v75 = .bool x75_24 ∧ Aside0 (lockgateref02_Table.j4 kq x1_3 x7_3 x75_24 = some r) ∧ Aside0 (kq ≤ k3) ∧ Aside0 (Kd.R k60 60 wc w.heap.size (fun _ => True) u1 x1_3) ∧ Aside0 (Below w.heap.size w wc))
       case first =>
        have H := HC25.out
        clear HC25
        by_cases c26 : x7_3 = 8
        ·rw [if_pos c26] at H
         have c26b0 : (x7_3 == 8) = true := beq_iff_eq.mpr c26
         have c26b1 : (x7_3 != 8) = false := bne_eq_false_iff_eq.mpr c26
         clear c26
         (first | rw [c26b0] | (simp only [i64_w, i32_w]; rw [c26b0]) | skip)
         have H' := Aside0.mk H
         clear H
         go_wp2
         go_meet
         case rel => exact ⟨_, (true), vs_, H', ⟨by have := HK1.out; have := HK2.out; have := HK3.out; first | omega | exact Nat.le_refl _⟩, ⟨by (with_reducible repeat (first | apply Kd.R_alloc | apply Kd.R_drewN | apply Kd.R_drew)); exact HO_1.out⟩, ⟨bz_⟩⟩
        rw [if_neg c26] at H
        have c26b0 : (x7_3 == 8) = false := beq_eq_false_iff_ne.mpr c26
        have c26b1 : (x7_3 != 8) = true := bne_iff_ne.mpr c26
        (first | rw [c26b0] | (simp only [i64_w, i32_w]; rw [c26b0]) | skip)
        have H' := Aside0.mk H
        clear H
        go_wp2
        go_meet
        case rel => exact ⟨_, ((x7_3 == 9)), vs_, H', ⟨by have := HK1.out; have := HK2.out; have := HK3.out; first | omega | exact Nat.le_refl _⟩, ⟨by (with_reducible repeat (first | apply Kd.R_alloc | apply Kd.R_drewN | apply Kd.R_drew)); exact HO_1.out⟩, ⟨bz_⟩⟩
       case rest =>
        clear HC25
        try clear c1
        try clear c2
        try clear p2
        try clear c3
        try clear c3b0
        try clear c4
        try clear c5
        try clear c6
        try clear p6
        try clear c9
        try clear c9b0
        try clear c10
        try clear c10b0
        try clear c11
        try clear c11b0
        try clear c11b1
        try clear c12
        try clear c14
        try clear c19
        try clear c24
        try clear c24b0
        try clear c26
        try clear c26b0
        try clear c26b1
        try clear p2
        try clear p6
        obtain ⟨kq, x75_24, rfl, HA, HJ24, HO_1, HB⟩ := hcut
        cases kq with
        | zero => exact absurd HA.out (by simp [lockgateref02_Table.j4])
        | succ kj24 =>
         have H := HA.out
         clear HA
         simp only [lockgateref02_Table.j4] at H
         by_cases c27 : x75_24 = true
         ·subst c27
          have H1 := if1_ H
          clear H
          have H := H1
          clear H1
          have H' := Aside0.mk H
          clear H
          go_wp2
          go_roundg kj24
          case measure => have := HK1.out; have := HK2.out; have := HK3.out; have := HJ24.out; omega
          case rel => exact ⟨(x1_3), (wrap64 (x7_3 + 1)), vs_, H', ⟨by have := HK1.out; have := HK2.out; have := HK3.out; have := HJ24.out; omega⟩, ⟨by (with_reducible repeat (first | apply Kd.R_alloc | apply Kd.R_drewN | apply Kd.R_drew)); exact HO_1.out⟩, ⟨bz_⟩⟩
         replace c27 := Bool.eq_false_iff.mpr c27
         subst c27
         have H1 := if0_ H
         clear H
         have H := H1
         clear H1
         have H' := Aside0.mk H
         clear H
         go_wp2
         go_loopg [1, 8] kj24 (fun kq v1 v8 w' => ∃ (x1_5 : List (S60)) (x8_5 : Int), v8 = .int .i64 x8_5 ∧ Aside0 (lockgateref02_Table.l4 kq x1_5 x7_3 x8_5 = some r) ∧ Aside0 (kq ≤ kj24) ∧ Aside0 (Kd.R k60 60 w' w.heap.size (fun _ => True) v1 x1_5) ∧ Aside0 (Below w.heap.size w w'))
         case atStart => exact ⟨(x1_3), (5), vs_, H', ⟨Nat.le_refl _⟩, ⟨by (with_reducible repeat (first | apply Kd.R_alloc | apply Kd.R_drewN | apply Kd.R_drew)); exact HO_1.out⟩, ⟨bz_⟩⟩
         case round =>
          clear H'
          try clear c1
          try clear c2
          try clear p2
          try clear c3
          try clear c3b0
          try clear c4
          try clear c5
          try clear c6
          try clear p6
          try clear c9
          try clear c9b0
          try clear c10
          try clear c10b0
          try clear c11
          try clear c11b0
          try clear c11b1
          try clear c12
          try clear c14
          try clear c19
          try clear c24
          try clear c24b0
          try clear c26
          try clear c26b0
          try clear c26b1
          try clear c27
          try clear p2
          try clear p6
          obtain ⟨x1_5, x8_5, rfl, HA, HK5, HO_1, HB⟩ := hrel
          cases gk with
          | zero => exact absurd HA.out (by simp [lockgateref02_Table.l4])
          | succ k5 =>
           have H := HA.out
           clear HA
           simp only [lockgateref02_Table.l4] at H
           by_cases c28 : x8_5 ≤ 6
           ·rw [if_pos c28] at H
            have c28b0 : decide (x8_5 ≤ 6) = true := decide_eq_true c28
            clear c28
            obtain ⟨y244, hy244⟩ : ∃ Y : List (S60), Y = (([(⟨wrap64 ((wrap64 (16 * x7_3)) + x8_5), true, false, true, true, false⟩ : S60), (⟨wrap64 ((wrap64 ((wrap64 (16 * x7_3)) + x8_5)) + 8), true, true, true, false, false⟩ : S60)] : List (S60))) := ⟨_, rfl⟩
            replace H : (if x1_5.length + y244.length < 8796093022208 then (lockgateref02_Table.l4 k5 (x1_5 ++ y244) x7_3 (wrap64 (x8_5 + 1))) else (none)) = some r := by first | (rw [hy244]; with_reducible exact H) | (have H2_ := (Option.bind_some _ _).symm.trans H; rw [hy244]; with_reducible exact H2_) | (have H2_ := (Option.bind_some _ _).symm.trans H; with_reducible exact H2_) | with_reducible exact H | (rw [hy244]; exact H) | exact H
            have Ny244 := Aside0.mk hy244
            clear hy244
            by_cases c29 : x1_5.length + y244.length < 8796093022208
            ·rw [if_pos c29] at H
             have LMc29 := Aside0.mk c29
             clear c29
             obtain ⟨y247, hy247⟩ : ∃ Y : List (S60), Y = (x1_5 ++ y244) := ⟨_, rfl⟩
             replace H : (lockgateref02_Table.l4 k5 y247 x7_3 (wrap64 (x8_5 + 1))) = some r := by first | (rw [hy247]; with_reducible exact H) | (have H2_ := (Option.bind_some _ _).symm.trans H; rw [hy247]; with_reducible exact H2_) | (have H2_ := (Option.bind_some _ _).symm.trans H; with_reducible exact H2_) | with_reducible exact H | (rw [hy247]; exact H) | exact H
             have Ny247 := Aside0.mk hy247
             clear hy247
             have H' := Aside0.mk H
             clear H
             go_wp2_with (first | ((with_reducible refine gate_dst (N := 90) rfl ?_); refine Kd.R_lit k60 _ 60 ?hg (N := 90) ?hd (xs := ([(⟨wrap64 ((wrap64 (16 * x7_3)) + x8_5), true, false, true, true, false⟩ : S60), (⟨wrap64 ((wrap64 ((wrap64 (16 * x7_3)) + x8_5)) + 8), true, true, true, false, false⟩ : S60)] : List (S60))) (inner := [.int .i64 (wrap64 ((wrap64 (16 * x7_3)) + x8_5)), .bool true, .bool false, .bool true, .bool true, .bool false, .int .i64 (wrap64 ((wrap64 ((wrap64 (16 * x7_3)) + x8_5)) + 8)), .bool true, .bool true, .bool true, .bool false, .bool false]) (ok := fun _ => True) (okp := fun _ => True) ?hr ?hp (fun _ hk => hk) trivial (Below.refl _ _) (Nat.le_refl _) (by simp) ?_; (case hd => rfl); (case hg => rfl); (case hr => first | (go_simp; done) | (go_simp; rfl)); (case hp => exact (Reps.c6 (show Kd.M k60 _ _ _ (⟨wrap64 ((wrap64 (16 * x7_3)) + x8_5), true, false, true, true, false⟩ : S60) [.int .i64 (wrap64 ((wrap64 (16 * x7_3)) + x8_5)), .bool true, .bool false, .bool true, .bool true, .bool false] from (k60_mkM _ _ _ (⟨wrap64 ((wrap64 (16 * x7_3)) + x8_5), true, false, true, true, false⟩ : S60) )) (Reps.c6 (show Kd.M k60 _ _ _ (⟨wrap64 ((wrap64 ((wrap64 (16 * x7_3)) + x8_5)) + 8), true, true, true, false, false⟩ : S60) [.int .i64 (wrap64 ((wrap64 ((wrap64 (16 * x7_3)) + x8_5)) + 8)), .bool true, .bool true, .bool true, .bool false, .bool false] from (k60_mkM _ _ _ (⟨wrap64 ((wrap64 ((wrap64 (16 * x7_3)) + x8_5)) + 8), true, true, true, false, false⟩ : S60) )) (Reps.none _ _)))); intro v245 w30 ho31 hb hg_ hnew_; clear hg_ hnew_; (first | rw [← Ny244.out] at ho31 | (simp only [Int.reduceToNat] at ho31; rw [← Ny244.out] at ho31)); have n0_ := Aside0.mk (Kd.R_elder' (ra_ HO_1.out) (Kd.R_base ho31) hb); have n1_ := Aside0.mk (Kd.R_lower (Kd.R_new' ho31 (Kd.R_lt (ra_ HO_1.out))) (below_size bz_)); have n2_ := bl_ hb; clear HO_1; clear HB; have HO_1 := n0_; have HO246 := n1_; have HB := n2_; clear n0_ n1_ n2_; clear hb ho31; obtain ⟨Ao33, co33, eo33⟩ := Kd.R_slice HO246.out; subst eo33) | ((with_reducible refine gate_builtin (b := .append) (xs := #[.tmp 84, .tmp 90]) rfl ?_); at_builtin; refine Kd.R_append_rows k60 (w0 := w) w.heap.size rfl (.tmp 84) (.tmp 90) 70 60 (.agg #[(.int .i64 0), (.bool false), (.bool false), (.bool false), (.bool false), (.bool false)]) 16 rfl Try.underlying70 info60 rfl (by decide) (by omega) u1 x1_5 y244 _ _ _ (fun k_ => some k_ ≠ (.slice Ao33 y244.length co33 : Value).ownBlock) (fun _ => False) rfl rfl ?aO ?aR (fun _ _ h => h) (fun _ h => h.elim) ?aF ?aB ?aS ?aL ?_; (case aR => exact ca_ ((Kd.R_reads' HO246.out).2.2)); (case aB => exact bz_); (case aF => exact (fun k_ hk => Kd.fresh' (Kd.R_lt (ra_ HO246.out)) k_ hk)); (case aO => exact (ra_ (Kd.R_mono HO_1.out (fun _ hk => hk.2)))); (case aS => exact (below_size bz_)); (case aL => have := LMc29.out; omega); intro v248 w32 ho hb hg hat; rw [← Ny247.out] at ho; have n0_ := Aside0.mk (Kd.R_after (ok := (fun _ => True)) (ra_ HO246.out) hg hat); have n1_ := Aside0.mk (hb); have n2_ := Aside0.mk (ho); clear HO246; clear HB; clear HO_1; have HO246 := n0_; have HB := n1_; have HO249 := n2_; clear n0_ n1_ n2_; clear ho hb hg hat))
             go_roundg k5
             case measure => have := HK1.out; have := HK2.out; have := HK3.out; have := HJ24.out; have := HK5.out; omega
             case rel => exact ⟨(y247), (wrap64 (x8_5 + 1)), vs_, H', ⟨by have := HK1.out; have := HK2.out; have := HK3.out; have := HJ24.out; have := HK5.out; omega⟩, ⟨by (with_reducible repeat (first | apply Kd.R_alloc | apply Kd.R_drewN | apply Kd.R_drew)); exact Kd.R_mono HO249.out (fun _ hk => trivial)⟩, ⟨bz_⟩⟩
            rw [if_neg c29] at H
            exact absurd H (by simp)
           rw [if_neg c28] at H
           have c28b0 : decide (x8_5 ≤ 6) = false := decide_eq_false c28
           clear c28
           have H' := Aside0.mk H
           clear H
           go_wp2
           go_roundg k5
           case measure => have := HK1.out; have := HK2.out; have := HK3.out; have := HJ24.out; have := HK5.out; omega
           case rel => exact ⟨(x1_5), (wrap64 (x7_3 + 1)), vs_, H', ⟨by have := HK1.out; have := HK2.out; have := HK3.out; have := HJ24.out; have := HK5.out; omega⟩, ⟨by (with_reducible repeat (first | apply Kd.R_alloc | apply Kd.R_drewN | apply Kd.R_drew)); exact HO_1.out⟩, ⟨bz_⟩⟩
end Go.Proofs.Yticijjonimiooaa.PA
