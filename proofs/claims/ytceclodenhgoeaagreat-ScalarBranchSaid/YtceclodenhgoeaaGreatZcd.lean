/- Layer 5, against the reference: Jump is the same on both sides. -/
import Derived.Test.YtceclodenhgoeaaGreatZcc
namespace Go.Proofs.YtceclodenhgoeaaGreat.Zcd
open Go Go.RowKit Go.Proofs Go.Proofs.YtceclodenhgoeaaGreat.Xc Go.Proofs.YtceclodenhgoeaaGreat.Zs Go.Proofs.YtceclodenhgoeaaGreat.Zu Go.Proofs.YtceclodenhgoeaaGreat.Zv Go.Proofs.YtceclodenhgoeaaGreat.Zo Go.Proofs.YtceclodenhgoeaaGreat.Zba Go.Proofs.YtceclodenhgoeaaGreat.Zbe Go.Proofs.YtceclodenhgoeaaGreat.Zbg Go.Proofs.YtceclodenhgoeaaGreat.Zca Go.Proofs.YtceclodenhgoeaaGreat.Zcb Go.Proofs.YtceclodenhgoeaaGreat.Zcc Go.Proofs.YtceclodenhgoeaaGreat.Bv
set_option linter.unusedVariables false
set_option linter.unusedSimpArgs false
def jx (wide : Bool) (a : Int) : Int := bif wide then a else a % 4294967296
def jy (wide : Bool) (a : Int) : Int := bif wide then IntKind.wrap .i64 a else (a % 4294967296 + 2147483648) % 4294967296 - 2147483648
/-- Whether a jump is done: x, y without a sign, s, t with one. -/
def jd (op x y s t : Int) : Bool :=
  if op = 1 then decide (x = y) else if op = 5 then decide (x ≠ y) else if op = 2 then decide (x > y) else if op = 3 then decide (x ≥ y) else if op = 10 then decide (x < y) else if op = 11 then decide (x ≤ y)
  else if op = 6 then decide (s > t) else if op = 7 then decide (s ≥ t) else if op = 12 then decide (s < t) else if op = 13 then decide (s ≤ t) else if op = 4 then decide (Go.bits .and .u64 x y ≠ 0) else false
def jok (op : Int) : Bool := decide (op = 1 ∨ op = 2 ∨ op = 3 ∨ op = 4 ∨ op = 5 ∨ op = 6 ∨ op = 7 ∨ op = 10 ∨ op = 11 ∨ op = 12 ∨ op = 13)
def jdo (op : Int) (wide : Bool) (a b : Int) : Bool := jd op (jx wide a) (jx wide b) (jy wide a) (jy wide b)
theorem od_cases (a b : Int) : (a < b ∧ od a b = -1) ∨ (a > b ∧ od a b = 1) ∨ (a = b ∧ od a b = 0) := by
  unfold od
  by_cases h1 : a < b
  · exact Or.inl ⟨h1, by rw [decide_eq_true h1]; rfl⟩
  · by_cases h2 : a > b
    · exact Or.inr (Or.inl ⟨h2, by rw [decide_eq_false h1, decide_eq_true h2]; rfl⟩)
    · exact Or.inr (Or.inr ⟨by omega, by rw [decide_eq_false h1, decide_eq_false h2]; rfl⟩)
theorem od_facts (x y r : Int) (h : r = od x y) : (r == 0) = decide (x = y) ∧ (r != 0) = decide (x ≠ y) ∧ decide (r > 0) = decide (x > y) ∧ decide (r ≥ 0) = decide (x ≥ y) ∧ decide (r < 0) = decide (x < y) ∧ decide (r ≤ 0) = decide (x ≤ y) := by
  have e : (r = 0 ↔ x = y) ∧ (r > 0 ↔ x > y) ∧ (r ≥ 0 ↔ x ≥ y) ∧ (r < 0 ↔ x < y) ∧ (r ≤ 0 ↔ x ≤ y) := by
    rcases od_cases x y with ⟨h1, h2⟩ | ⟨h1, h2⟩ | ⟨h1, h2⟩ <;> (rw [h2] at h; subst h; omega)
  obtain ⟨e1, e2, e3, e4, e5⟩ := e
  refine ⟨?_, ?_, decide_eq_decide.2 e2, decide_eq_decide.2 e3, decide_eq_decide.2 e4, decide_eq_decide.2 e5⟩
  · rw [← decide_eq_decide.2 e1]; rfl
  · have : (r ≠ 0 ↔ x ≠ y) := not_congr e1
    rw [← decide_eq_decide.2 this, bne, decide_not]; rfl
theorem jfin (op x y s t r r1 : Int) (K : Value → Prop) (hr : r = od x y) (hr1 : r1 = od s t) (h : K (.tuple #[.bool (jd op x y s t), .bool (jok op)])) :
    br (op == 1) (K (.tuple (#[.bool (r == 0), .bool true]))) (br (op == 5) (K (.tuple (#[.bool (r != 0), .bool true]))) (br (op == 2) (K (.tuple (#[.bool (decide (r > 0)), .bool true]))) (br (op == 3) (K (.tuple (#[.bool (decide (r ≥ 0)), .bool true])))
    (br (op == 10) (K (.tuple (#[.bool (decide (r < 0)), .bool true]))) (br (op == 11) (K (.tuple (#[.bool (decide (r ≤ 0)), .bool true]))) (br (op == 6) (K (.tuple (#[.bool (decide (r1 > 0)), .bool true]))) (br (op == 7) (K (.tuple (#[.bool (decide (r1 ≥ 0)), .bool true])))
    (br (op == 12) (K (.tuple (#[.bool (decide (r1 < 0)), .bool true]))) (br (op == 13) (K (.tuple (#[.bool (decide (r1 ≤ 0)), .bool true]))) (br (op == 4) (K (.tuple (#[.bool (Go.bits .and .u64 x y != 0), .bool true]))) (K (.tuple (#[.bool false, .bool false]))))))))))))) := by
  obtain ⟨a1, a2, a3, a4, a5, a6⟩ := od_facts x y r hr
  obtain ⟨b1, b2, b3, b4, b5, b6⟩ := od_facts s t r1 hr1
  rw [a1, a2, a3, a4, a5, a6, b3, b4, b5, b6]
  have hb : (Go.bits .and .u64 x y != 0) = decide (Go.bits .and .u64 x y ≠ 0) := by rw [bne, decide_not]; rfl
  rw [hb]
  clear a1 a2 a3 a4 a5 a6 b1 b2 b3 b4 b5 b6 hb hr hr1
  unfold jd jok at h
  repeat' refine br_cases (fun q => ?_) (fun q => ?_)
  all_goals (first | have q := eq_of_beq q | skip)
  all_goals (first | (subst q; simp only [Int.reduceEq, if_true, if_false, or_true, true_or, or_false, false_or, decide_true, reduceIte] at h; exact h) | skip)
  rename_i q1 q2 q3 q4 q5 q6 q7 q8 q9 q10
  simp only [beq_eq_false_iff_ne] at *
  simp only [q, q1, q2, q3, q4, q5, q6, q7, q8, q9, q10, if_false, or_false, decide_false] at h
  exact h
theorem rJump (op : Int) (wide : Bool) (a b : Int) (K : Value → Prop) (ha : u6 a) (hb : u6 b) (h : K (.tuple #[.bool (jdo op wide a b), .bool (jok op)])) : nJump op wide a b K := by
  rw [nJump_eq]
  cases wide with
  | true => exact br_no rfl (fun r hr r1 hr1 => jfin op a b (IntKind.wrap .i64 a) (IntKind.wrap .i64 b) r r1 K hr hr1 h)
  | false =>
    refine br_yes rfl (fun r hr r1 hr1 => ?_)
    have e1 : ∀ z : Int, IntKind.wrap .u64 (IntKind.wrap .u32 z) = z % 4294967296 := fun z => by
      simp [IntKind.wrap, IntKind.signed, IntKind.bits]; omega
    have e2 : ∀ z : Int, IntKind.wrap .i64 (IntKind.wrap .i32 (IntKind.wrap .u32 (z % 4294967296))) = (z % 4294967296 + 2147483648) % 4294967296 - 2147483648 := fun z => by
      rw [isw]
      simp [IntKind.wrap, IntKind.signed, IntKind.bits]; omega
    rw [e1, e1] at *
    rw [e2, e2] at *
    exact jfin op _ _ _ _ r r1 K hr hr1 h
theorem tj : TabOk Tryz.prog TJ := by
  refine tab_runK good (by kernel_rfl) (fun vs K h => ?_) (tab_runK good (by kernel_rfl) (fun vs K h => ?_) tab_nil)
  all_goals split at h
  all_goals try exact h.elim
  · rename_i a b
    have o : nOrdU a b K := by
      rw [nOrdU_eq]
      have h := h _ rfl
      rcases od_cases a b with ⟨h1, h2⟩ | ⟨h1, h2⟩ | ⟨h1, h2⟩ <;> rw [h2] at h
      · exact br_yes (decide_eq_true h1) h
      · exact br_no (decide_eq_false (by omega)) (br_yes (decide_eq_true h1) h)
      · exact br_no (decide_eq_false (by omega)) (br_no (decide_eq_false (by omega)) h)
    unfold nOrdU at o; exact ⟨[], EEz, true, 90, tab_nil, eez, o⟩
  · rename_i a b
    have o : nOrdS a b K := by
      rw [nOrdS_eq]
      have h := h _ rfl
      rcases od_cases a b with ⟨h1, h2⟩ | ⟨h1, h2⟩ | ⟨h1, h2⟩ <;> rw [h2] at h
      · exact br_yes (decide_eq_true h1) h
      · exact br_no (decide_eq_false (by omega)) (br_yes (decide_eq_true h1) h)
      · exact br_no (decide_eq_false (by omega)) (br_no (decide_eq_false (by omega)) h)
    unfold nOrdS at o; exact ⟨[], EEz, true, 90, tab_nil, eez, o⟩
theorem blkO : blk Tryz.prog 153 0 = .loop bodyO := by kernel_rfl
theorem blkB : blk Tryz.prog 120 0 = .loop bodyB := by kernel_rfl
theorem okSO (a b w : Int) (sg : Bool) (r i : Int) : okSt (SO a b w sg r i) = true := by kernel_rfl
theorem okSB (op a b o i : Int) : okSt (SB op a b o i) = true := by kernel_rfl
theorem loopO (A B : W) (w : Int) (sg : Bool) (ho : Ow w (U A) (U B)) : ∃ e s', ((odw w sg (U A) (U B) = 0 ∧ e = .exit 0 ∧ s' = SO (U A) (U B) w sg 0 (-1)) ∨ (odw w sg (U A) (U B) ≠ 0 ∧ ∃ i, e = .ret ∧ s' = SO (U A) (U B) w sg (odw w sg (U A) (U B)) i)) ∧ LW Tryz.prog bodyO (SO (U A) (U B) w sg 0 (IntKind.wrap .i64 (w - 1))) e s' := by
  obtain ⟨n, rfl, hn⟩ : ∃ n : Nat, w = n ∧ (n = 64 ∨ n = 32) := by
    rcases ho.hw with h | h
    · exact ⟨64, h, Or.inl rfl⟩
    · exact ⟨32, h, Or.inr rfl⟩
  have key := loop_ix (P := Tryz.prog) (c := bodyO) (fun j : Nat => SO (U A) (U B) n sg 0 ((j : Int) - 1)) (fun j => j ≤ n ∧ A.toNat / 2 ^ j = B.toNat / 2 ^ j) (fun j => j) (fun _ e s' => (odw n sg (U A) (U B) = 0 ∧ e = .exit 0 ∧ s' = SO (U A) (U B) n sg 0 (-1)) ∨ (odw n sg (U A) (U B) ≠ 0 ∧ ∃ i, e = .ret ∧ s' = SO (U A) (U B) n sg (odw n sg (U A) (U B)) i)) ?_ n ⟨by omega, ?_⟩
  · have e : IntKind.wrap .i64 ((n : Int) - 1) = (n : Int) - 1 := by rw [isw]; omega
    rw [e]; exact key
  · intro j ⟨hj, hq⟩
    refine rndL_sound (gm := true) (Lt := []) (f := 90) (ks := [0, 1, 2, 3, 8, 9]) (n := 0) good tab_nil eez lok_nil (by kernel_rfl) ?_
    have fin : ∀ i Q, nRo (U A) (U B) n sg i Q → rndL Tryz.prog [] EEz true [] 90 [0, 1, 2, 3, 8, 9] 0 bodyO (SO (U A) (U B) n sg 0 i) Q := fun i Q h => by unfold nRo at h; exact h
    cases j with
    | zero =>
      refine fin _ _ (rdO' _ _ _ _ (Or.inl ⟨by simp, Or.inl ⟨?_, rfl, rfl⟩⟩))
      have e : U A = U B := by unfold U; simp at hq; rw [hq]
      rw [e]; unfold odw
      cases sg
      · exact od_eq rfl
      · exact od_eq rfl
    | succ j =>
      have ej : ((j + 1 : Nat) : Int) - 1 = (j : Int) := by omega
      rw [ej]
      refine fin _ _ (rdO A B n sg (by omega) (fun h => ?_) (fun h => ?_))
      · refine Or.inr ⟨rfl, j, rfl, ⟨by omega, ?_⟩, by omega, fun _ _ h => h⟩
        have h : A.toNat.testBit j = B.toNat.testBit j := h
        rw [Nat.testBit_eq_decide_div_mod_eq, Nat.testBit_eq_decide_div_mod_eq] at h
        have h := decide_eq_decide.1 h
        rw [Nat.pow_succ, ← Nat.div_div_eq_div_mul, ← Nat.div_div_eq_div_mul] at hq
        omega
      · have e := od_bit (sg := sg) ho (by omega) hq h
        refine Or.inl ⟨by simp, Or.inr ⟨?_, j, rfl, ?_⟩⟩
        · rw [e]; split <;> decide
        · rw [e]
  · have ha := ho.ua; have hb := ho.ub
    unfold u6 U at ha hb
    rcases hn with rfl | rfl
    · rw [Nat.div_eq_of_lt (by omega), Nat.div_eq_of_lt (by omega)]
    · have la := ho.al rfl; have lb := ho.bl rfl
      unfold U at la lb
      rw [Nat.div_eq_of_lt (by omega), Nat.div_eq_of_lt (by omega)]
theorem lokO : LOk Tryz.prog LtO := by
  refine lok_one fun s K hF => ?_
  unfold FO at hF
  split at hF
  · rename_i a b w sg t
    obtain ⟨hs, ho, hK⟩ := hF
    obtain ⟨A, rfl⟩ := exu ho.ua
    obtain ⟨B, rfl⟩ := exu ho.ub
    obtain ⟨e, s', h, hl⟩ := loopO A B w sg ho
    have fin : Xc.SW Tryz.prog (blk Tryz.prog 153 0) ⟨.v (.int .u64 (U A)) :: .v (.int .u64 (U B)) :: .v (.int .i64 w) :: .v (.bool sg) :: t, []⟩ e s' := by
      rw [blkO]
      refine keep_pre (ks := [0, 1, 2, 3, 8, 9]) (n := 100) (show 0 ≤ 100 by decide) (by rw [hs]; exact okSO _ _ _ _ _ _) ?_
      rw [hs]; exact lw_of hl
    rcases h with ⟨h0, rfl, rfl⟩ | ⟨h0, i, rfl, rfl⟩
    · rw [h0] at hK; exact ⟨_, _, hK, fin⟩
    · rw [show (odw w sg (U A) (U B) == 0) = false from beq_eq_false_iff_ne.2 h0] at hK
      exact ⟨_, _, hK i, fin⟩
  · exact hF.elim
theorem lokB : LOk Tryz.prog LtB := by
  refine lok_one fun s K hF => ?_
  unfold FB at hF
  split at hF
  · rename_i a b t
    obtain ⟨hs, ⟨ha, hb⟩, hK⟩ := hF
    obtain ⟨A, rfl⟩ := exu ha
    obtain ⟨B, rfl⟩ := exu hb
    have key := scan (P := Tryz.prog) (c := bodyB) (fun j => SB 5 (U A) (U B) (U (low j (A &&& B))) j) (fun j => false)
      (fun j hj Q h1 h2 => rndL_sound (gm := true) (Lt := []) (f := 90) (ks := [0, 1, 2, 6, 7, 8]) (n := 0) good tab_nil eez lok_nil (by kernel_rfl) (by have o := rdB A B hj (h2 rfl); unfold nRb at o; exact o))
      (fun Q h => rndL_sound (gm := true) (Lt := []) (f := 90) (ks := [0, 1, 2, 6, 7, 8]) (n := 0) good tab_nil eez lok_nil (by kernel_rfl) (by have o := rdB' A B _ h; unfold nRb at o; exact o))
    simp only [low_zero, low_all] at key
    have fin : ∀ e s', LW Tryz.prog bodyB (SB 5 (U A) (U B) 0 0) e s' → Xc.SW Tryz.prog (blk Tryz.prog 120 0) ⟨.v (.int .i64 5) :: .v (.int .u64 (U A)) :: .v (.int .u64 (U B)) :: t, []⟩ e s' := fun e s' hl => by
      rw [blkB]
      refine keep_pre (ks := [0, 1, 2, 6, 7, 8]) (n := 100) (show 0 ≤ 100 by decide) (by rw [hs]; exact okSB _ _ _ _ _) ?_
      rw [hs]; exact lw_of hl
    rcases key with ⟨ka, kl⟩ | ⟨i, hi, kb', kl⟩
    · rw [show Go.bits .and .u64 (U A) (U B) = U (A &&& B) by rw [b_and, ofInt_U, ofInt_U]] at hK
      exact ⟨_, _, hK, fin _ _ kl⟩
    · cases kb'
  · exact hF.elim
theorem rOr {a b w : Int} {sg : Bool} {K : Value → Prop} (ho : Ow w a b) (h : K (.int .i64 (odw w sg a b))) : nOr a b w sg K := by
  rw [nOr_eq]
  refine ⟨rfl, rfl, ho, br_cases (fun q => ?_) (fun q => fun _ => h)⟩
  rw [eq_of_beq q] at h; exact h
theorem rBi {a b : Int} {K : Value → Prop} (ha : u6 a) (hb : u6 b) (h : K (.int .u64 (Go.bits .and .u64 a b))) : nBi a b K := by
  rw [nBi_eq]; exact ⟨rfl, rfl, ⟨ha, hb⟩, h⟩
theorem tj2 : TabOk Tryz.prog TJ2 := by
  refine tab_runL good (by kernel_rfl) (fun vs K h => ?_) (tab_runL good (by kernel_rfl) (fun vs K h => ?_) tab_nil)
  · unfold cOr at h; split at h
    · have o := rOr (K := K) h.1 (h.2 _ rfl); unfold nOr at o; exact ⟨[], EEz, true, LtO, 90, tab_nil, eez, lokO, o⟩
    · exact h.elim
  · unfold cBi at h; split at h
    · have o := rBi (K := K) h.1.1 h.1.2 (h.2 _ rfl); unfold nBi at o; exact ⟨[], EEz, true, LtB, 90, tab_nil, eez, lokB, o⟩
    · exact h.elim
theorem jfin2 (op x y s t r r1 : Int) (K : Value → Prop) (hx : u6 x) (hy : u6 y) (hr : r = od x y) (hr1 : r1 = od s t) (h : K (.tuple #[.bool (jd op x y s t), .bool (jok op)])) :
    br (op == 1) (K (.tuple (#[.bool (r == 0), .bool true]))) (br (op == 2) (K (.tuple (#[.bool (decide (r > 0)), .bool true]))) (br (op == 3) (K (.tuple (#[.bool (decide (r ≥ 0)), .bool true]))) (br (op == 4) (need (u6 x ∧ u6 y) (nm (Go.bits .and .u64 x y) fun r => K (.tuple (#[.bool (decide (r > 0)), .bool true]))))
    (br (op == 5) (K (.tuple (#[.bool (r != 0), .bool true]))) (br (op == 6) (K (.tuple (#[.bool (decide (r1 > 0)), .bool true]))) (br (op == 7) (K (.tuple (#[.bool (decide (r1 ≥ 0)), .bool true]))) (br (op == 10) (K (.tuple (#[.bool (decide (r < 0)), .bool true]))) (br (op == 11) (K (.tuple (#[.bool (decide (r ≤ 0)), .bool true])))
    (br (op == 12) (K (.tuple (#[.bool (decide (r1 < 0)), .bool true]))) (br (op == 13) (K (.tuple (#[.bool (decide (r1 ≤ 0)), .bool true]))) (K (.tuple (#[.bool false, .bool false]))))))))))))) := by
  obtain ⟨a1, a2, a3, a4, a5, a6⟩ := od_facts x y r hr
  obtain ⟨b1, b2, b3, b4, b5, b6⟩ := od_facts s t r1 hr1
  rw [a1, a2, a3, a4, a5, a6, b3, b4, b5, b6]
  have hb : decide (Go.bits .and .u64 x y > 0) = decide (Go.bits .and .u64 x y ≠ 0) := by
    refine decide_eq_decide.2 ?_
    have : 0 ≤ Go.bits .and .u64 x y := by rw [b_and]; exact U_nonneg _
    omega
  clear a1 a2 a3 a4 a5 a6 b1 b2 b3 b4 b5 b6 hr hr1
  unfold jd jok at h
  repeat' refine br_cases (fun q => ?_) (fun q => ?_)
  all_goals (first | have q := eq_of_beq q | skip)
  all_goals (first | (subst q; simp only [Int.reduceEq, if_true, if_false, or_true, true_or, or_false, false_or, decide_true, reduceIte] at h; first | exact h | (refine ⟨⟨hx, hy⟩, fun r hr => ?_⟩; subst hr; rw [hb]; exact h)) | skip)
  rename_i q1 q2 q3 q4 q5 q6 q7 q8 q9 q10
  simp only [beq_eq_false_iff_ne] at *
  simp only [q, q1, q2, q3, q4, q5, q6, q7, q8, q9, q10, if_false, or_false, decide_false] at h
  exact h
theorem rJ2 (op : Int) (wide : Bool) (a b : Int) (K : Value → Prop) (ha : u6 a) (hb : u6 b) (h : K (.tuple #[.bool (jdo op wide a b), .bool (jok op)])) : nJ2 op wide a b K := by
  rw [nJ2_eq]
  have el : ∀ z, u6 z → Int.tmod z (IntKind.wrap .u64 (1 * 2 ^ min (Int.toNat (IntKind.wrap .u64 32)) (IntKind.bits .u64))) = z % 4294967296 := fun z hz => by
    rw [show IntKind.wrap .u64 (1 * 2 ^ min (Int.toNat (IntKind.wrap .u64 32)) (IntKind.bits .u64)) = 4294967296 by decide, Int.tmod_eq_emod_of_nonneg hz.1]
  rw [el a ha, el b hb]
  cases wide with
  | true =>
    have o : Ow 64 a b := ⟨Or.inl rfl, ha, hb, fun h => absurd h (by decide), fun h => absurd h (by decide)⟩
    refine br_no rfl ⟨o, fun r hr => ⟨o, fun r1 hr1 => jfin2 op a b (IntKind.wrap .i64 a) (IntKind.wrap .i64 b) r r1 K ha hb hr ?_ h⟩⟩
    have e : ∀ z, u6 z → sgw 64 z = IntKind.wrap .i64 z := fun z hz => by
      unfold sgw; rw [if_pos rfl, isw]; unfold u6 at hz; split <;> omega
    rw [hr1]; show od (sgw 64 a) (sgw 64 b) = _; rw [e a ha, e b hb]
  | false =>
    have ua : u6 (a % 4294967296) := by unfold u6; omega
    have ub : u6 (b % 4294967296) := by unfold u6; omega
    have o : Ow 32 (a % 4294967296) (b % 4294967296) := ⟨Or.inr rfl, ua, ub, fun _ => by omega, fun _ => by omega⟩
    refine br_yes rfl ?_
    repeat (first | with_reducible refine ob_self ?_ | with_reducible refine ob_true ?_)
    refine ⟨o, fun r hr => ⟨o, fun r1 hr1 => jfin2 op _ _ (jy false a) (jy false b) r r1 K ua ub hr ?_ h⟩⟩
    have e : ∀ z, sgw 32 (z % 4294967296) = jy false z := fun z => by
      unfold sgw jy; rw [if_neg (by decide)]; simp only [cond_false]; split <;> omega
    rw [hr1]; show od (sgw 32 _) (sgw 32 _) = _; rw [e, e]
end Go.Proofs.YtceclodenhgoeaaGreat.Zcd
