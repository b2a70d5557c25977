/- Layer 5, against the reference: In, Within, Join, Meet of tnums are the same on both sides. -/
import Derived.Test.YtceclodenhgoeaaGreatZbe
import Derived.Test.YtceclodenhgoeaaGreatZbf
namespace Go.Proofs.YtceclodenhgoeaaGreat.Zbg
open Go Go.RowKit Go.Proofs Go.Proofs.YtceclodenhgoeaaGreat.Xc Go.Proofs.YtceclodenhgoeaaGreat.Zs Go.Proofs.YtceclodenhgoeaaGreat.Zo Go.Proofs.YtceclodenhgoeaaGreat.Zr Go.Proofs.YtceclodenhgoeaaGreat.Zbd Go.Proofs.YtceclodenhgoeaaGreat.Zba Go.Proofs.YtceclodenhgoeaaGreat.Zbe Go.Proofs.YtceclodenhgoeaaGreat.Zbf Go.Proofs.YtceclodenhgoeaaGreat.Bv
set_option linter.unusedVariables false
set_option linter.unusedSimpArgs false
/-- Going through the bits from the lowest, out at the first that is bad. -/
theorem scan {P : Program} {c : Code} (st : Nat → St) (bad : Nat → Bool)
    (h1 : ∀ j, j < 64 → ∀ Q : Exit → St → Prop, (bad j = true → Q .ret (st j)) → (bad j = false → Q .normal (st (j + 1))) → ∃ e s', Q e s' ∧ Xc.SW P c (st j) e s')
    (h2 : ∀ Q : Exit → St → Prop, Q (.exit 0) (st 64) → ∃ e s', Q e s' ∧ Xc.SW P c (st 64) e s') :
    ((∀ j, j < 64 → bad j = false) ∧ LW P c (st 0) (.exit 0) (st 64)) ∨ ∃ i, i < 64 ∧ bad i = true ∧ LW P c (st 0) .ret (st i) := by
  have key := loop_ix (P := P) (c := c) st (fun j => j ≤ 64 ∧ ∀ i, i < j → bad i = false) (fun j => 64 - j) (fun _ e s' => ((∀ j, j < 64 → bad j = false) ∧ e = .exit 0 ∧ s' = st 64) ∨ ∃ i, i < 64 ∧ bad i = true ∧ e = .ret ∧ s' = st i) ?_ 0 ⟨by omega, fun i h => by omega⟩
  · obtain ⟨e, s', h | h, hl⟩ := key
    · obtain ⟨a, rfl, rfl⟩ := h; exact Or.inl ⟨a, hl⟩
    · obtain ⟨i, hi, b, rfl, rfl⟩ := h; exact Or.inr ⟨i, hi, b, hl⟩
  · intro j ⟨hj, ha⟩
    by_cases h64 : j < 64
    · refine h1 j h64 _ (fun b => ?_) (fun b => ?_)
      · exact Or.inl ⟨by simp, Or.inr ⟨j, h64, b, rfl, rfl⟩⟩
      · refine Or.inr ⟨rfl, j + 1, rfl, ⟨by omega, fun i hi => ?_⟩, by omega, fun _ _ h => h⟩
        by_cases e : i = j
        · rw [e]; exact b
        · exact ha i (by omega)
    · obtain rfl : j = 64 := by omega
      exact h2 _ (Or.inl ⟨by simp, Or.inl ⟨ha, rfl, rfl⟩⟩)
theorem at_bit {A B : W} (h : A = B) (j : Nat) : A.getLsbD j = B.getLsbD j := by rw [h]
theorem inT_iff {A M V : W} (h : A &&& M = 0#64) : inT (U A) (U M) (U V) = true ↔ ∀ j, j < 64 → (!M.getLsbD j && (A.getLsbD j ^^ V.getLsbD j)) = false := by
  unfold inT
  rw [b_andNot, ofInt_U, ofInt_U, U_beq, beq_iff_eq]
  constructor
  · intro e j hj
    have e := at_bit e j
    rw [BitVec.getLsbD_and, BitVec.getLsbD_not, decide_eq_true hj] at e
    revert e
    cases M.getLsbD j <;> cases A.getLsbD j <;> cases V.getLsbD j <;> simp
  · intro k
    apply BitVec.eq_of_getLsbD_eq; intro j hj
    have k := k j hj
    have e := at_bit h j
    rw [BitVec.getLsbD_and] at e
    rw [BitVec.getLsbD_and, BitVec.getLsbD_not, decide_eq_true hj]
    revert e k
    cases M.getLsbD j <;> cases A.getLsbD j <;> cases V.getLsbD j <;> simp
theorem wiT_iff {A M B N : W} (h : A &&& M = 0#64) (h2 : B &&& N = 0#64) : wiT (U A) (U M) (U B) (U N) = true ↔ ∀ j, j < 64 → (!N.getLsbD j && (M.getLsbD j || (A.getLsbD j ^^ B.getLsbD j))) = false := by
  unfold wiT
  rw [Bool.and_eq_true, inT_iff h2, b_andNot, ofInt_U, ofInt_U, show (0 : Int) = U 0#64 from rfl, U_beq, beq_iff_eq]
  constructor
  · intro ⟨e, k⟩ j hj
    have e := at_bit e j
    have k := k j hj
    rw [BitVec.getLsbD_and, BitVec.getLsbD_not, decide_eq_true hj] at e
    revert e k
    cases M.getLsbD j <;> cases A.getLsbD j <;> cases B.getLsbD j <;> cases N.getLsbD j <;> simp
  · intro k
    refine ⟨?_, fun j hj => ?_⟩
    · apply BitVec.eq_of_getLsbD_eq; intro j hj
      have k := k j hj
      rw [BitVec.getLsbD_and, BitVec.getLsbD_not, decide_eq_true hj]
      revert k
      cases M.getLsbD j <;> cases A.getLsbD j <;> cases B.getLsbD j <;> cases N.getLsbD j <;> simp
    · have k := k j hj
      revert k
      cases M.getLsbD j <;> cases A.getLsbD j <;> cases B.getLsbD j <;> cases N.getLsbD j <;> simp
theorem meO_iff {A M B N : W} : meO (U A) (U M) (U B) (U N) = true ↔ ∀ j, j < 64 → (!M.getLsbD j && !N.getLsbD j && (A.getLsbD j ^^ B.getLsbD j)) = false := by
  unfold meO
  rw [b_xor, b_or, b_andNot, ofInt_U, ofInt_U, ofInt_U, ofInt_U, ofInt_U, ofInt_U, show (0 : Int) = U 0#64 from rfl, U_beq, beq_iff_eq]
  constructor
  · intro e j hj
    have e := at_bit e j
    rw [BitVec.getLsbD_and, BitVec.getLsbD_not, decide_eq_true hj, BitVec.getLsbD_or, BitVec.getLsbD_xor] at e
    revert e
    cases M.getLsbD j <;> cases A.getLsbD j <;> cases B.getLsbD j <;> cases N.getLsbD j <;> simp
  · intro k
    apply BitVec.eq_of_getLsbD_eq; intro j hj
    have k := k j hj
    rw [BitVec.getLsbD_and, BitVec.getLsbD_not, decide_eq_true hj, BitVec.getLsbD_or, BitVec.getLsbD_xor]
    revert k
    cases M.getLsbD j <;> cases A.getLsbD j <;> cases B.getLsbD j <;> cases N.getLsbD j <;> simp
theorem no_all {f : Nat → Bool} {b : Bool} (h : b = true ↔ ∀ j, j < 64 → f j = false) {i : Nat} (hi : i < 64) (k : f i = true) : b = false := by
  cases b
  · rfl
  · have := h.1 rfl i hi; rw [this] at k; cases k
theorem okSI (x0 : Value) (a m v i : Int) : okSt (SI x0 a m v i) = true := by kernel_rfl
theorem okSW (x0 x1 : Value) (a am b bm i : Int) : okSt (SW x0 x1 a am b bm i) = true := by kernel_rfl
theorem okSJ (x0 x1 : Value) (a am b bm o om i : Int) : okSt (SJ x0 x1 a am b bm o om i) = true := by kernel_rfl
theorem okSP (x0 x1 : Value) (a am b bm o om i : Int) : okSt (SP x0 x1 a am b bm o om i) = true := by kernel_rfl
theorem blkI : blk Tryz.prog 73 0 = .loop bodyI := by kernel_rfl
theorem blkW : blk Tryz.prog 79 0 = .loop bodyW := by kernel_rfl
theorem blkJ : blk Tryz.prog 85 0 = .loop bodyJ := by kernel_rfl
theorem blkM : blk Tryz.prog 154 0 = .loop bodyP := by kernel_rfl
theorem lokI : LOk Tryz.prog LtI := by
  refine lok_one fun s K hF => ?_
  unfold FI at hF
  split at hF
  · rename_i x0 v t a m
    obtain ⟨hs, ⟨⟨A, M, rfl, rfl, hd⟩, ⟨V, _, rfl, _, _⟩⟩, hK⟩ := hF
    have key := scan (P := Tryz.prog) (c := bodyI) (fun j => SI x0 (U A) (U M) (U V) j) (fun j => !M.getLsbD j && (A.getLsbD j ^^ V.getLsbD j))
      (fun j hj Q h1 h2 => rndL_sound (gm := true) (Lt := []) (f := 90) (ks := [0, 1, 2, 4, 5]) (n := 1) good tab_nil eez lok_nil (by kernel_rfl) (by have o := rdI x0 A M V hj h1 h2; unfold nRi at o; exact o))
      (fun Q h => rndL_sound (gm := true) (Lt := []) (f := 90) (ks := [0, 1, 2, 4, 5]) (n := 1) good tab_nil eez lok_nil (by kernel_rfl) (by have o := rdI' x0 A M V h; unfold nRi at o; exact o))
    have fin : ∀ e s', LW Tryz.prog bodyI (SI x0 (U A) (U M) (U V) 0) e s' → Xc.SW Tryz.prog (blk Tryz.prog 73 0) ⟨.v x0 :: .v (.int .u64 (U V)) :: t, [[.v (.int .u64 (U A)), .v (.int .u64 (U M))]]⟩ e s' := fun e s' hl => by
      rw [blkI]
      refine keep_pre (ks := [0, 1, 2, 4, 5]) (n := 100) (show 1 ≤ 100 by decide) (by rw [hs]; exact okSI _ _ _ _ _) ?_
      rw [hs]; exact lw_of hl
    rcases key with ⟨ka, kl⟩ | ⟨i, hi, kb, kl⟩
    · have e := (inT_iff hd).2 ka
      rw [e] at hK
      exact ⟨_, _, hK, fin _ _ kl⟩
    · have e := no_all (inT_iff hd) hi kb
      rw [e] at hK
      exact ⟨_, _, hK _, fin _ _ kl⟩
  · exact hF.elim
theorem lokW : LOk Tryz.prog LtW := by
  refine lok_one fun s K hF => ?_
  unfold FW at hF
  split at hF
  · rename_i x0 x1 t a am b bm
    obtain ⟨hs, ⟨⟨A, M, rfl, rfl, hd⟩, ⟨B, N, rfl, rfl, hd2⟩⟩, hK⟩ := hF
    have key := scan (P := Tryz.prog) (c := bodyW) (fun j => SW x0 x1 (U A) (U M) (U B) (U N) j) (fun j => !N.getLsbD j && (M.getLsbD j || (A.getLsbD j ^^ B.getLsbD j)))
      (fun j hj Q h1 h2 => rndL_sound (gm := true) (Lt := []) (f := 90) (ks := [0, 1, 2, 3, 4, 5]) (n := 2) good tab_nil eez lok_nil (by kernel_rfl) (by have o := rdW x0 x1 A M B N hj h1 h2; unfold nRw at o; exact o))
      (fun Q h => rndL_sound (gm := true) (Lt := []) (f := 90) (ks := [0, 1, 2, 3, 4, 5]) (n := 2) good tab_nil eez lok_nil (by kernel_rfl) (by have o := rdW' x0 x1 A M B N h; unfold nRw at o; exact o))
    have fin : ∀ e s', LW Tryz.prog bodyW (SW x0 x1 (U A) (U M) (U B) (U N) 0) e s' → Xc.SW Tryz.prog (blk Tryz.prog 79 0) ⟨.v x0 :: .v x1 :: t, [[.v (.int .u64 (U A)), .v (.int .u64 (U M))], [.v (.int .u64 (U B)), .v (.int .u64 (U N))]]⟩ e s' := fun e s' hl => by
      rw [blkW]
      refine keep_pre (ks := [0, 1, 2, 3, 4, 5]) (n := 100) (show 2 ≤ 100 by decide) (by rw [hs]; exact okSW _ _ _ _ _ _ _) ?_
      rw [hs]; exact lw_of hl
    rcases key with ⟨ka, kl⟩ | ⟨i, hi, kb, kl⟩
    · have e := (wiT_iff hd hd2).2 ka
      rw [e] at hK
      exact ⟨_, _, hK, fin _ _ kl⟩
    · have e := no_all (wiT_iff hd hd2) hi kb
      rw [e] at hK
      exact ⟨_, _, hK _, fin _ _ kl⟩
  · exact hF.elim
theorem lokM : LOk Tryz.prog LtM := by
  refine lok_one fun s K hF => ?_
  unfold FM at hF
  split at hF
  · rename_i x0 x1 t a am b bm p q
    obtain ⟨hs, ⟨⟨A, M, rfl, rfl, hd⟩, ⟨B, N, rfl, rfl, hd2⟩⟩, hK⟩ := hF
    have key := scan (P := Tryz.prog) (c := bodyP) (fun j => SP x0 x1 (U A) (U M) (U B) (U N) (U (low j (A ||| B))) (U (low j (M &&& N))) j) (fun j => !M.getLsbD j && !N.getLsbD j && (A.getLsbD j ^^ B.getLsbD j))
      (fun j hj Q h1 h2 => rndL_sound (gm := true) (Lt := []) (f := 90) (ks := [0, 1, 2, 3, 4, 5, 6, 7]) (n := 4) good tab_nil eez lok_nil (by kernel_rfl) (by have o := rdM x0 x1 A M B N hj h1 h2; unfold nRm at o; exact o))
      (fun Q h => rndL_sound (gm := true) (Lt := []) (f := 90) (ks := [0, 1, 2, 3, 4, 5, 6, 7]) (n := 4) good tab_nil eez lok_nil (by kernel_rfl) (by have o := rdM' x0 x1 A M B N _ _ h; unfold nRm at o; exact o))
    simp only [low_zero, low_all] at key
    have fin : ∀ e s', LW Tryz.prog bodyP (SP x0 x1 (U A) (U M) (U B) (U N) 0 0 0) e s' → Xc.SW Tryz.prog (blk Tryz.prog 154 0) ⟨.v x0 :: .v x1 :: t, [[.v (.int .u64 (U A)), .v (.int .u64 (U M))], [.v (.int .u64 (U B)), .v (.int .u64 (U N))], p, q]⟩ e s' := fun e s' hl => by
      rw [blkM]
      refine keep_pre (ks := [0, 1, 2, 3, 4, 5, 6, 7]) (n := 100) (show 4 ≤ 100 by decide) (by rw [hs]; exact okSP _ _ _ _ _ _ _ _ _) ?_
      rw [hs]; exact lw_of hl
    rcases key with ⟨ka, kl⟩ | ⟨i, hi, kb, kl⟩
    · have e := (meO_iff).2 ka
      rw [e, show meV (U A) (U M) (U B) (U N) = U (A ||| B) by unfold meV; rw [b_or, ofInt_U, ofInt_U], show meM (U A) (U M) (U B) (U N) = U (M &&& N) by unfold meM; rw [b_and, ofInt_U, ofInt_U]] at hK
      exact ⟨_, _, hK, fin _ _ kl⟩
    · have e := no_all (meO_iff) hi kb
      rw [e] at hK
      exact ⟨_, _, hK _ _ _, fin _ _ kl⟩
  · exact hF.elim
theorem lokJ : LOk Tryz.prog LtJ := by
  refine lok_one fun s K hF => ?_
  unfold FJ at hF
  split at hF
  · rename_i x0 x1 t a am b bm p q
    obtain ⟨hs, ⟨⟨A, M, rfl, rfl, hd⟩, ⟨B, N, rfl, rfl, hd2⟩⟩, hK⟩ := hF
    have key := scan (P := Tryz.prog) (c := bodyJ) (fun j => SJ x0 x1 (U A) (U M) (U B) (U N) (U (low j (A &&& ~~~ (M ||| N ||| (A ^^^ B))))) (U (low j (M ||| N ||| (A ^^^ B)))) j) (fun j => false)
      (fun j hj Q h1 h2 => rndL_sound (gm := true) (Lt := []) (f := 90) (ks := [0, 1, 2, 3, 4, 5, 6]) (n := 4) good tab_nil eez lok_nil (by kernel_rfl) (by have o := rdJ x0 x1 A M B N hj (h2 rfl); unfold nRj at o; exact o))
      (fun Q h => rndL_sound (gm := true) (Lt := []) (f := 90) (ks := [0, 1, 2, 3, 4, 5, 6]) (n := 4) good tab_nil eez lok_nil (by kernel_rfl) (by have o := rdJ' x0 x1 A M B N _ _ h; unfold nRj at o; exact o))
    simp only [low_zero, low_all] at key
    have fin : ∀ e s', LW Tryz.prog bodyJ (SJ x0 x1 (U A) (U M) (U B) (U N) 0 0 0) e s' → Xc.SW Tryz.prog (blk Tryz.prog 85 0) ⟨.v x0 :: .v x1 :: t, [[.v (.int .u64 (U A)), .v (.int .u64 (U M))], [.v (.int .u64 (U B)), .v (.int .u64 (U N))], p, q]⟩ e s' := fun e s' hl => by
      rw [blkJ]
      refine keep_pre (ks := [0, 1, 2, 3, 4, 5, 6]) (n := 100) (show 4 ≤ 100 by decide) (by rw [hs]; exact okSJ _ _ _ _ _ _ _ _ _) ?_
      rw [hs]; exact lw_of hl
    rcases key with ⟨ka, kl⟩ | ⟨i, hi, kb, kl⟩
    · have em : joM (U A) (U M) (U B) (U N) = U (M ||| N ||| (A ^^^ B)) := by unfold joM; rw [b_xor, b_or, b_or]; simp only [ofInt_U]
      rw [show joV (U A) (U M) (U B) (U N) = U (A &&& ~~~ (M ||| N ||| (A ^^^ B))) by unfold joV; rw [em, b_andNot]; simp only [ofInt_U], em] at hK
      exact ⟨_, _, hK, fin _ _ kl⟩
    · cases kb
  · exact hF.elim
end Go.Proofs.YtceclodenhgoeaaGreat.Zbg
