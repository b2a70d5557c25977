/- Layer 14: what the program's functions and the document's answer. -/
import Derived.Test.YtnpbhippkcikoaaC01j
import Derived.Test.YtnpbhippkcikoaaC01s
import Derived.Test.YtnpbhippkcikoaaC01z
import Derived.Test.YtnpbhippkcikoaaBit
import Derived.Test.YtnpbhippkcikoaaPA3
import Derived.Test.YtnpbhippkcikoaaPA7
import Derived.Test.YtnpbhippkcikoaaPA8
import Derived.Test.YtnpbhippkcikoaaPA9
import Derived.Test.YtnpbhippkcikoaaPA10
import Derived.Test.YtnpbhippkcikoaaPA11
import Derived.Test.YtnpbhippkcikoaaPA15
import Derived.Test.YtnpbhippkcikoaaPA16
import Derived.Test.YtnpbhippkcikoaaPA18
import Derived.Test.YtnpbhippkcikoaaPA19
set_option linter.unusedVariables false
set_option linter.unusedSimpArgs false
set_option linter.unusedSectionVars false
namespace Go.Proofs.Ytnpbhippkcikoaa.C14
open Go.RowKit Go.Proofs.YtnpbhippkcikoaaW.PrintWords Go.Proofs.YtnpbhippkcikoaaW.PrintLast Go.Proofs.YtnpbhippkcikoaaW.PrintMore Go.Proofs.Ytnpbhippkcikoaa.PA Go.Proofs.Ytnpbhippkcikoaa.Bv Go.Proofs.Ytnpbhippkcikoaa.C01
def pl (a : Int) : Bool := decide (a = 2 ∨ a = 4 ∨ a = 5 ∨ a = 6)
def sd (a : Int) : Int := if a = 1 then 1 else if pl a then 2 else 0
theorem pl_iff (a : Int) : pl a = true ↔ (a = 2 ∨ a = 4 ∨ a = 5 ∨ a = 6) := by unfold pl; exact decide_eq_true_iff
theorem places_f (a b c : Int) : value_Places.f a b c = some (pl a) := by
  unfold value_Places.f
  by_cases h2 : a = 2
  · exact ift h2 (by subst h2; rfl)
  refine ife h2 ?_
  by_cases h4 : a = 4
  · exact ift h4 (by subst h4; rfl)
  refine ife h4 ?_
  by_cases h5 : a = 5
  · exact ift h5 (by subst h5; rfl)
  refine ife h5 ?_
  unfold pl
  rw [Option.some.injEq, Bool.eq_iff_iff, beq_iff_eq, decide_eq_true_iff]; omega
theorem rplaces_f (a b c : Int) : lockgateref14_Places.f a b c = some (pl a) := places_f a b c
theorem side_f (a b c : Int) : value_side.f a b c = some (sd a) := by
  unfold value_side.f sd
  by_cases h : a = 1
  · rw [if_pos h, if_pos h]
  · rw [if_neg h, if_neg h]
    refine bs (places_f a b c) ?_
    cases pl a <;> rfl
theorem sd1 (a : Int) : (sd a == 1) = decide (a = 1) := by
  rw [Bool.eq_iff_iff, beq_iff_eq, decide_eq_true_iff]
  unfold sd
  by_cases h : a = 1
  · rw [if_pos h]; simp [h]
  · rw [if_neg h]; split <;> simp [h]
theorem sd2 (a : Int) : (sd a == 2) = pl a := by
  rw [Bool.eq_iff_iff, beq_iff_eq]
  unfold sd
  by_cases h : a = 1
  · subst h; decide
  · rw [if_neg h]; cases pl a <;> simp
theorem u_add (x y : W) : IntKind.u64.wrap (U x + U y) = U (x + y) := by rw [wrap_u64, oi_add, ofInt_U, ofInt_U]
theorem u_sub (x y : W) : IntKind.u64.wrap (U x - U y) = U (x - y) := by rw [wrap_u64, oi_sub, ofInt_U, ofInt_U]
theorem u_addneg (x y : W) : IntKind.u64.wrap (U x + IntKind.u64.wrap (-(U y))) = U (x - y) := by
  rw [wrap_u64 (-(U y)), wrap_u64, oi_add, ofInt_U, ofInt_U]
  apply congrArg
  rw [BitVec.sub_eq_add_neg]
  apply congrArg
  have := oi_sub 0 (U y)
  rw [Int.zero_sub] at this
  rw [this, ofInt_U]
  simp
/-- what an operation makes of pointers. -/
def pt (op a0 : Int) (x : W) (a2 b0 : Int) (y : W) (b2 : Int) : Int × Int × Int × Int :=
  if op = 0 ∧ pl a0 = true ∧ b0 = 1 then (a0, U (x + y), a2, 0)
  else if op = 0 ∧ a0 = 1 ∧ pl b0 = true then (b0, U (y + x), b2, 0)
  else if op = 1 ∧ pl a0 = true ∧ b0 = 1 then (a0, U (x - y), a2, 0)
  else (0, 0, 0, 21)
theorem pl_1 : pl 1 = false := by decide
theorem pl1 {a : Int} (h : pl a = true) : ¬ a = 1 := by rintro rfl; exact absurd h (by decide)
theorem andT {a b : Bool} (h : a = true ∧ b = true) : (a && b) = true := by rw [h.1, h.2]; rfl
theorem andF {a b : Bool} (h : ¬ (a = true ∧ b = true)) : ¬ ((a && b) = true) := by rw [Bool.and_eq_true]; exact h
theorem sdp1 {a : Int} : (sd a == 1) = true ↔ a = 1 := by rw [sd1, decide_eq_true_iff]
theorem sdp2 {a : Int} : (sd a == 2) = true ↔ pl a = true := by rw [sd2]
theorem pj1_f (k : Nat) (op a0 : Int) (x : W) (a2 b0 : Int) (y : W) (b2 : Int) (c : Bool) (hc : c = true ↔ (op = 0 ∧ a0 = 1 ∧ pl b0 = true)) :
    value_pointers.j1 (k + 1) op c a0 (U x) a2 b0 (U y) b2 (sd a0) (sd b0) = some (if op = 0 ∧ a0 = 1 ∧ pl b0 = true then (b0, U (y + x), b2, 0) else if op = 1 ∧ pl a0 = true ∧ b0 = 1 then (a0, U (x - y), a2, 0) else (0, 0, 0, 21)) := by
  rw [value_pointers.j1]
  by_cases h : op = 0 ∧ a0 = 1 ∧ pl b0 = true
  · refine ift (hc.mpr h) ?_
    rw [if_pos h]
    exact bs rfl (by rw [u_add])
  · refine ife (fun q => h (hc.mp q)) ?_
    rw [if_neg h]
    by_cases h1 : op = 1
    · refine ift h1 ?_
      by_cases h2 : pl a0 = true ∧ b0 = 1
      · refine ift (andT ⟨sdp2.mpr h2.1, sdp1.mpr h2.2⟩) ?_
        rw [if_pos ⟨h1, h2⟩]
        exact bs rfl (by rw [u_addneg])
      · refine ife (andF (fun q => h2 ⟨sdp2.mp q.1, sdp1.mp q.2⟩)) ?_
        rw [if_neg (fun q => h2 q.2)]
    · refine ife h1 ?_
      rw [if_neg (fun q => h1 q.1)]
theorem pj0_f (k : Nat) (op a0 : Int) (x : W) (a2 b0 : Int) (y : W) (b2 : Int) (c : Bool) (hc : c = true ↔ (op = 0 ∧ pl a0 = true ∧ b0 = 1)) :
    value_pointers.j0 (k + 2) op c a0 (U x) a2 b0 (U y) b2 (sd a0) (sd b0) = some (pt op a0 x a2 b0 y b2) := by
  rw [value_pointers.j0]
  unfold pt
  by_cases h : op = 0 ∧ pl a0 = true ∧ b0 = 1
  · refine ift (hc.mpr h) ?_
    rw [if_pos h]
    exact bs rfl (by rw [u_add])
  · refine ife (fun q => h (hc.mp q)) ?_
    rw [if_neg h]
    by_cases h1 : op = 0
    · refine ift h1 (pj1_f k op a0 x a2 b0 y b2 _ ?_)
      rw [Bool.and_eq_true, sdp1, sdp2]
      exact ⟨fun q => ⟨h1, q⟩, fun q => q.2⟩
    · refine ife h1 (pj1_f k op a0 x a2 b0 y b2 _ ?_)
      exact ⟨fun q => absurd q (by decide), fun q => absurd q.1 h1⟩
theorem pointers_f (k : Nat) (hk : 2 ≤ k) (op a0 : Int) (x : W) (a2 b0 : Int) (y : W) (b2 : Int) : value_pointers.f k op a0 (U x) a2 b0 (U y) b2 = some (pt op a0 x a2 b0 y b2) := by
  obtain ⟨k, rfl⟩ : ∃ m, k = m + 2 := ⟨k - 2, by omega⟩
  unfold value_pointers.f
  refine bs (side_f _ _ _) (bs (side_f _ _ _) ?_)
  by_cases h1 : op = 0
  · refine ift h1 (pj0_f k op a0 x a2 b0 y b2 _ ?_)
    rw [Bool.and_eq_true, sdp1, sdp2]
    exact ⟨fun q => ⟨h1, q⟩, fun q => q.2⟩
  · refine ife h1 (pj0_f k op a0 x a2 b0 y b2 _ ?_)
    exact ⟨fun q => absurd q (by decide), fun q => absurd q.1 h1⟩
/-- what an operation makes of two values. -/
def vA (op : Int) (wide : Bool) (a0 : Int) (x : W) (a2 b0 : Int) (y : W) (b2 : Int) : Int × Int × Int × Int :=
  if ¬ (0 ≤ op ∧ op ≤ 12) then (0, 0, 0, 4)
  else if (op ≠ 11 ∧ a0 = 0) ∨ (op ≠ 8 ∧ b0 = 0) then (0, 0, 0, 20)
  else if (op = 11 ∨ a0 = 1) ∧ (op = 8 ∨ b0 = 1) then (1, U (alu op wide x y), 0, 0)
  else if wide = false then (0, 0, 0, 21)
  else if op = 11 then (b0, U y, b2, 0)
  else pt op a0 x a2 b0 y b2
theorem aW11 (x y : W) : aluW 11 x y = y := by
  unfold aluW
  rw [if_neg (by decide), if_neg (by decide), if_neg (by decide), if_neg (by decide), if_neg (by decide), if_neg (by decide), if_neg (by decide), if_neg (by decide), if_neg (by decide), if_neg (by decide), if_neg (by decide), if_pos rfl]
theorem aN11 (x y : W32) : aluN 11 x y = y := by
  unfold aluN
  rw [if_neg (by decide), if_neg (by decide), if_neg (by decide), if_neg (by decide), if_neg (by decide), if_neg (by decide), if_neg (by decide), if_neg (by decide), if_neg (by decide), if_neg (by decide), if_neg (by decide), if_pos rfl]
theorem aW8 (x y : W) : aluW 8 x y = -x := by
  unfold aluW
  rw [if_neg (by decide), if_neg (by decide), if_neg (by decide), if_neg (by decide), if_neg (by decide), if_neg (by decide), if_neg (by decide), if_neg (by decide), if_neg (by decide), if_neg (by decide), if_pos rfl]
theorem aN8 (x y : W32) : aluN 8 x y = -x := by
  unfold aluN
  rw [if_neg (by decide), if_neg (by decide), if_neg (by decide), if_neg (by decide), if_neg (by decide), if_neg (by decide), if_neg (by decide), if_neg (by decide), if_neg (by decide), if_neg (by decide), if_pos rfl]
theorem alu_mov (wide : Bool) (x y : W) : alu 11 wide x y = alu 11 wide 0 y := by
  unfold alu; rw [if_neg (by decide : ¬ ((11 : Int) = 12)), if_neg (by decide : ¬ ((11 : Int) = 12)), aW11, aW11, aN11, aN11]
theorem alu_neg (wide : Bool) (x y : W) : alu 8 wide x y = alu 8 wide x 0 := by
  unfold alu; rw [if_neg (by decide : ¬ ((8 : Int) = 12)), if_neg (by decide : ¬ ((8 : Int) = 12)), aW8, aW8, aN8, aN8]
theorem j2_f (k : Nat) (hk : 10 ≤ k) (op : Int) (hop : 0 ≤ op ∧ op ≤ 12) (wide : Bool) (n : Bool) (a0 : Int) (x : W) (a2 b0 : Int) (y : W) (b2 : Int) :
    value_Alu.j2 k op wide n a0 (U x) a2 b0 (U y) b2 = some (if n = true then (0, 0, 0, 20) else if a0 = 1 ∧ b0 = 1 then (1, U (alu op wide x y), 0, 0) else if wide = false then (0, 0, 0, 21) else if op = 11 then (b0, U y, b2, 0) else pt op a0 x a2 b0 y b2) := by
  obtain ⟨k, rfl⟩ : ∃ m, k = m + 1 := ⟨k - 1, by omega⟩
  rw [value_Alu.j2]
  cases n
  · refine ife nt ?_
    rw [if_neg nt]
    refine bs (side_f _ _ _) (bs (side_f _ _ _) ?_)
    rw [sd1, sd1]
    by_cases h : a0 = 1 ∧ b0 = 1
    · rw [if_pos h]
      refine ift (by rw [h.1, h.2]; rfl) (bs (alu_f k (by omega) _ _ _ _) rfl)
    · rw [if_neg h]
      refine ife (by rw [Bool.and_eq_true, decide_eq_true_iff, decide_eq_true_iff]; exact h) ?_
      cases wide
      · exact ife nt rfl
      · refine ift rfl ?_
        rw [if_neg (by decide : ¬ (true = false))]
        by_cases h11 : op = 11
        · refine ift h11 ?_; rw [if_pos h11]
        · refine ife h11 (bs (pointers_f k (by omega) _ _ _ _ _ _ _) ?_); rw [if_neg h11]
  · exact ift rfl rfl
theorem j0_f (k : Nat) (hk : 12 ≤ k) (op : Int) (wide : Bool) (a0 : Int) (x : W) (a2 b0 : Int) (y : W) (b2 : Int) :
    value_Alu.j0 k op wide a0 (U x) a2 b0 (U y) b2 = some (if ¬ (0 ≤ op ∧ op ≤ 12) then (0, 0, 0, 4) else if a0 = 0 ∨ b0 = 0 then (0, 0, 0, 20) else if a0 = 1 ∧ b0 = 1 then (1, U (alu op wide x y), 0, 0) else if wide = false then (0, 0, 0, 21) else if op = 11 then (b0, U y, b2, 0) else pt op a0 x a2 b0 y b2) := by
  obtain ⟨k, rfl⟩ : ∃ m, k = m + 2 := ⟨k - 2, by omega⟩
  rw [value_Alu.j0]
  by_cases h : 0 ≤ op ∧ op ≤ 12
  · refine ife (by omega) ?_
    rw [value_Alu.j1]
    refine ife (by rw [decide_eq_true_iff]; omega) ?_
    by_cases h0 : a0 = 0
    · refine ift h0 ?_
      rw [if_neg (fun q => q h), j2_f k (by omega) op h, if_pos rfl, if_pos (Or.inl h0)]
    · refine ife h0 ?_
      rw [if_neg (fun q => q h), j2_f k (by omega) op h]
      by_cases h1 : b0 = 0
      · rw [if_pos (by simpa using h1), if_pos (Or.inr h1)]
      · rw [if_neg (by simpa using h1), if_neg (c := a0 = 0 ∨ b0 = 0) (by omega)]
  · rw [if_pos h]
    by_cases h1 : op < 0
    · refine ift h1 ?_
      rw [value_Alu.j1]; exact ift rfl rfl
    · refine ife h1 ?_
      rw [value_Alu.j1]; exact ift (by rw [decide_eq_true_iff]; omega) rfl
theorem valu_f (k : Nat) (hk : 12 ≤ k) (op : Int) (wide : Bool) (a0 : Int) (x : W) (a2 b0 : Int) (y : W) (b2 : Int) :
    value_Alu.f k op wide a0 (U x) a2 b0 (U y) b2 = some (vA op wide a0 x a2 b0 y b2) := by
  unfold value_Alu.f vA
  have u0 : (0 : Int) = U 0 := rfl
  by_cases h8 : op = 8
  · refine ift h8 ?_
    refine bs (a := (1, U 0, 0)) rfl ?_
    rw [j0_f k hk]
    subst h8
    rw [alu_neg wide x y]
    by_cases ha : a0 = 0
    · simp [ha]
    · by_cases hb : a0 = 1
      · simp [hb]
      · simp [ha, hb, pt]
  · refine ife h8 ?_
    by_cases h11 : op = 11
    · refine ift h11 ?_
      refine bs (a := (1, U 0, 0)) rfl ?_
      rw [j0_f k hk]
      subst h11
      rw [alu_mov wide x y]
      by_cases ha : b0 = 0
      · simp [ha]
      · by_cases hb : b0 = 1
        · simp [hb]
        · simp [ha, hb]
    · refine ife h11 ?_
      rw [j0_f k hk]
      simp [h8, h11]
end Go.Proofs.Ytnpbhippkcikoaa.C14
