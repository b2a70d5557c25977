/- WordNarrow, without Go: narrow operations hang on the lowest 32 bits. -/
import Derived.Test.YtbionehmfbmcdaaL01
import Derived.Test.YtbionehmfbmcdaaC01z
import Derived.Test.YtbionehmfbmcdaaPA14
set_option linter.unusedVariables false
set_option linter.unusedSimpArgs false
set_option linter.unusedSectionVars false
namespace Go.Proofs.Ytbionehmfbmcdaa.LWordNarrow
open Go.RowKit Go.Proofs.YtbionehmfbmcdaaW.PrintWords Go.Proofs.YtbionehmfbmcdaaW.PrintLast Go.Proofs.YtbionehmfbmcdaaW.PrintMore Go.Proofs.Ytbionehmfbmcdaa.PA Go.Proofs.Ytbionehmfbmcdaa.Bv Go.Proofs.Ytbionehmfbmcdaa.C01 Go.Proofs.Ytbionehmfbmcdaa.L01
theorem lo_cnt (b : W) : b.toNat % 32 = (lo b).toNat % 32 := by unfold lo; rw [BitVec.toNat_setWidth]; omega
theorem alu_lo (op : Int) {a a' b b' : W} (ha : lo a = lo a') (hb : lo b = lo b') : alu op false a b = alu op false a' b' := by
  unfold alu sar32
  simp only [Bool.false_eq_true, if_false]
  rw [lo_cnt b, lo_cnt b', ha, hb]
theorem jmp_lo (op : Int) {a a' b b' : W} (ha : lo a = lo a') (hb : lo b = lo b') : jmp op false a b = jmp op false a' b' := by
  unfold jmp jA jS
  simp only [Bool.false_eq_true, if_false]
  rw [ha, hb]
theorem narrow_up (op : Int) (a b : W) : ∃ z, alu op false a b = up z := by
  unfold alu sar32
  simp only [Bool.false_eq_true, if_false]
  split
  · exact ⟨_, rfl⟩
  · exact ⟨_, rfl⟩
theorem tmod32 (a : W) : Int.tmod (U a) 4294967296 = U (up (lo a)) := by
  rw [Int.tmod_eq_emod_of_nonneg (U_nonneg _), U_mod32, U_up]
theorem mixed (a more : W) : Go.bits .or .u64 (Int.tmod (U a) 4294967296) (IntKind.u64.wrap (U more * 4294967296)) = U (up (lo a) ||| more * 4294967296) := by
  rw [tmod32, wrap_u64, oi_mul, ofInt_U, b_or, ofInt_U, ofInt_U]; rfl
theorem lo_mixed (a more : W) : lo (up (lo a) ||| more * 4294967296) = lo a := by
  rw [lo_or, lo_up, lo_mul, show lo 4294967296 = 0 by decide]; simp
theorem wide_narrow (op : Int) (h : 0 ≤ op ∧ op ≤ 5 ∨ op = 9 ∨ op = 10 ∨ op = 11) (a b : W) : up (lo (alu op true (up (lo a)) (up (lo b)))) = alu op false a b := by
  have : op = 0 ∨ op = 1 ∨ op = 2 ∨ op = 3 ∨ op = 4 ∨ op = 5 ∨ op = 9 ∨ op = 10 ∨ op = 11 := by omega
  rcases this with rfl | rfl | rfl | rfl | rfl | rfl | rfl | rfl | rfl
  · simp [alu, aluW, aluN, lo_add, lo_up]
  · simp [alu, aluW, aluN, lo_sub, lo_up]
  · simp [alu, aluW, aluN, lo_mul, lo_up]
  · simp [alu, aluW, aluN, up_div, lo_up]
  · simp [alu, aluW, aluN, lo_or, lo_up]
  · simp [alu, aluW, aluN, lo_and, lo_up]
  · simp [alu, aluW, aluN, up_mod, lo_up]
  · simp [alu, aluW, aluN, lo_xor, lo_up]
  · simp [alu, aluW, aluN, lo_up]
theorem jump_narrow (op : Int) (h : (op < 6 ∨ op > 7) ∧ op < 12) (a b : W) : jmp op true (up (lo a)) (up (lo b)) = jmp op false a b := by
  have n6 : ¬ op = 6 := by omega
  have n7 : ¬ op = 7 := by omega
  have n12 : ¬ op = 12 := by omega
  have n13 : ¬ op = 13 := by omega
  unfold jmp
  rw [if_neg n6, if_neg n7, if_neg n12, if_neg n13, if_neg n6, if_neg n7, if_neg n12, if_neg n13]
  rfl
section
variable (op : Int) (a b : W)
theorem j2_true (k : Nat) (hk : 2 ≤ k) (c : Bool) (h : c = true → (op < 6 ∨ op > 7) ∧ op < 12) : lockgatelaw01_WordNarrow.j2 k op (jmp op false a b) (U (up (lo a))) (U (up (lo b))) c = some true := by
  obtain ⟨k, rfl⟩ : ∃ m, k = m + 1 := ⟨k - 1, by omega⟩
  rw [lockgatelaw01_WordNarrow.j2]
  cases c
  · exact ife nt (bs (known_f k (by omega)) rfl)
  · refine ift rfl (bs (ljump_f k (by omega) _ _ _ _) (ift ?_ (bs (known_f k (by omega)) rfl)))
    rw [jump_narrow op (h rfl)]; exact beq_self_eq_true _
theorem j1_true (k : Nat) (hk : 3 ≤ k) (c : Bool) (h : c = true → 0 ≤ op ∧ op ≤ 5 ∨ op = 9 ∨ op = 10 ∨ op = 11) : lockgatelaw01_WordNarrow.j1 k op (U (alu op false a b)) (jmp op false a b) (isJmp op) (U (up (lo a))) (U (up (lo b))) c = some true := by
  obtain ⟨k, rfl⟩ : ∃ m, k = m + 1 := ⟨k - 1, by omega⟩
  rw [lockgatelaw01_WordNarrow.j1]
  cases c
  · refine ife nt ?_
    have t := fun c h => j2_true op a b k (by omega) c h
    by_cases hj : isJmp op = true
    · refine ift hj ?_
      by_cases h6 : op < 6
      · exact ift h6 (t _ (fun e => ⟨.inl h6, by simpa using e⟩))
      · refine ife h6 ?_
        by_cases h7 : op > 7
        · exact ift h7 (t _ (fun e => ⟨.inr h7, by simpa using e⟩))
        · exact ife h7 (t _ (fun e => by cases e))
    · exact ife hj (t _ (fun e => by cases e))
  · refine ift rfl (bs (lalu_f k (by omega) _ _ _ _) (ift ?_ (bs (known_f k (by omega)) rfl)))
    rw [tmod32, wide_narrow op (h rfl)]
theorem j0_true (k : Nat) (hk : 4 ≤ k) : lockgatelaw01_WordNarrow.j0 k op (U a) (U b) (U (alu op false a b)) (jmp op false a b) (isJmp op) false = some true := by
  obtain ⟨k, rfl⟩ : ∃ m, k = m + 1 := ⟨k - 1, by omega⟩
  rw [lockgatelaw01_WordNarrow.j0, tmod32, tmod32]
  have t := fun c h => j1_true op a b k (by omega) c h
  refine ife nt ?_
  by_cases h0 : op ≥ 0
  · refine ift h0 ?_
    by_cases h5 : op ≤ 5
    · exact ift h5 (t _ (fun _ => .inl ⟨h0, h5⟩))
    · refine ife h5 ?_
      by_cases h9 : op = 9
      · exact ift h9 (t _ (fun _ => .inr (.inl h9)))
      · refine ife h9 ?_
        by_cases h10 : op = 10
        · exact ift h10 (t _ (fun _ => .inr (.inr (.inl h10))))
        · exact ife h10 (t _ (fun e => .inr (.inr (.inr (by simpa using e)))))
  · refine ife h0 (ife (by omega) (ife (by omega) (t _ (fun e => .inr (.inr (.inr (by simpa using e)))))))
end
theorem pure (a0 a1 a2 a3 : Int) (w0 : (Lit.int .i64 a0).wf = true) (w1 : (Lit.int .u64 a1).wf = true) (w2 : (Lit.int .u64 a2).wf = true) (w3 : (Lit.int .u64 a3).wf = true) : ∃ k, lockgatelaw01_WordNarrow.f k a0 a1 a2 a3 = some true := by
  obtain ⟨a, rfl⟩ := exU w1
  obtain ⟨b, rfl⟩ := exU w2
  obtain ⟨more, rfl⟩ := exU w3
  refine ⟨300, ?_⟩
  have e1 : alu a0 false (up (lo a) ||| more * 4294967296) (up (lo b) ||| more * 4294967296) = alu a0 false a b := alu_lo a0 (lo_mixed a more) (lo_mixed b more)
  have e2 : jmp a0 false (up (lo a) ||| more * 4294967296) (up (lo b) ||| more * 4294967296) = jmp a0 false a b := jmp_lo a0 (lo_mixed a more) (lo_mixed b more)
  have f1 := alu_f 300 (by decide) a0 false (up (lo a) ||| more * 4294967296) (up (lo b) ||| more * 4294967296)
  have f2 := jump_f 300 (by decide) a0 false (up (lo a) ||| more * 4294967296) (up (lo b) ||| more * 4294967296)
  rw [e1] at f1
  rw [e2] at f2
  have hlt : ¬ U (alu a0 false a b) ≥ 4294967296 := by
    obtain ⟨z, hz⟩ := narrow_up a0 a b
    rw [hz, U_up]; unfold V; have := z.isLt; omega
  rw [lockgatelaw01_WordNarrow.f, mixed, mixed]
  refine bs (alu_f 300 (by decide) _ _ _ _) (bs f1 (bs (jump_f 300 (by decide) _ _ _ _) (bs f2 (ift rfl ?_))))
  have t := j0_true a0 a b 300 (by decide)
  refine ife (by rw [bne_self_eq_false]; decide) (ife hlt (ife (by rw [bne_self_eq_false]; decide) ?_))
  rw [show (isJmp a0 != isJmp a0) = false from bne_self_eq_false _]
  exact t
end Go.Proofs.Ytbionehmfbmcdaa.LWordNarrow
