/- InsnBack, without Go. -/
import Derived.Test.YticijjonimiooaaC02g
import Derived.Test.YticijjonimiooaaPA26
set_option linter.unusedVariables false
set_option linter.unusedSimpArgs false
set_option linter.unusedSectionVars false
namespace Go.Proofs.Yticijjonimiooaa.LInsnBack
open Go.RowKit Go.Proofs.YticijjonimiooaaW.PrintWords Go.Proofs.YticijjonimiooaaW.PrintLast Go.Proofs.YticijjonimiooaaW.PrintMore Go.Proofs.Yticijjonimiooaa.PA Go.Proofs.Yticijjonimiooaa.Bv Go.Proofs.Yticijjonimiooaa.C02
theorem vK_rng {D S O I w : Bool} {op d s o i : Int} (h : vK D S O I w op d s o i = 0) : (-32768 ≤ o ∧ o ≤ 32767) ∧ (op = 24 ∨ (-2147483648 ≤ i ∧ i ≤ 2147483647)) := by
  unfold vK at h
  by_cases h1 : d < 0 ∨ d > 10 ∨ s < 0 ∨ s > 10 ∨ (w = true ∧ d = 10)
  · rw [if_pos h1] at h; exact absurd h (by decide)
  rw [if_neg h1] at h
  by_cases h2 : o < -32768 ∨ o > 32767 ∨ (op ≠ 24 ∧ (i < -2147483648 ∨ i > 2147483647))
  · have : (15 : Int) = 0 := (if_pos h2).symm.trans h
    exact absurd this (by decide)
  · clear h; omega
theorem ck_rng {x : S40} (h : ck x = 0) : (0 ≤ x.f0 ∧ x.f0 ≤ 255) ∧ (-32768 ≤ x.f3 ∧ x.f3 ≤ 32767) ∧ (x.f0 = 24 ∨ (-2147483648 ≤ x.f4 ∧ x.f4 ≤ 2147483647)) := by
  have hop : 0 ≤ x.f0 ∧ x.f0 ≤ 255 := by
    apply Classical.byContradiction
    intro hn
    unfold ck at h
    rw [row_out x.f0 hn] at h
    simp at h
  refine ⟨hop, ?_⟩
  unfold ck at h
  generalize row TT x.f0 = R at h
  obtain ⟨z, D, S, O, I, w, ok⟩ := R
  have h : (if ok = true then vK D S O I w x.f0 x.f1 x.f2 x.f3 x.f4 else 4) = 0 := h
  by_cases hok : ok = true
  · rw [if_pos hok] at h; exact vK_rng h
  · rw [if_neg hok] at h; exact absurd h (by decide)
def i64 (n : Int) : Prop := -9223372036854775808 ≤ n ∧ n < 9223372036854775808
theorem isBm (v : Int) : isB (v % 256) := by unfold isB; omega
theorem off_back {v : Int} (h : -32768 ≤ v ∧ v ≤ 32767) : sg16 (v % 256 + 256 * (v / 256 % 256)) = v := by
  unfold sg16; by_cases hs : v % 256 + 256 * (v / 256 % 256) < 32768
  · rw [if_pos hs]; omega
  · rw [if_neg hs]; omega
theorem imm_low (v : Int) : v4 (v % 256) (v / 256 % 256) (v / 256 / 256 % 256) (v / 256 / 256 / 256 % 256) = v % 4294967296 := by unfold v4; omega
theorem imm_back {v : Int} (h : -2147483648 ≤ v ∧ v ≤ 2147483647) : sg32 (v % 4294967296) = v := by
  unfold sg32; by_cases hs : v % 4294967296 < 2147483648
  · rw [if_pos hs]; omega
  · rw [if_neg hs]; omega
theorem first_by1 (k : Nat) (hk : 400 ≤ k) (x : S40) (hc : ck x = 0) (hi : i64 x.f4) (t : List Int) (ht : t.length ≤ 1000000) : insn_first.f k (by1 x ++ t) = some (x.f0, x.f1, x.f2, x.f3, x.f4, 8 * sz x.f0, 0) := by
  obtain ⟨hd, hs⟩ := ck_ok hc
  obtain ⟨hop, ho, him⟩ := ck_rng hc
  have e0 : x.f0 % 256 = x.f0 := by omega
  have hb1 : isB ((16 * x.f2 + x.f1) % 256) := isBm _
  have e1 : (16 * x.f2 + x.f1) % 256 % 16 = x.f1 := by omega
  have e2 : (16 * x.f2 + x.f1) % 256 / 16 = x.f2 := by omega
  have e3 := off_back ho
  unfold by1
  rw [lb2, lb4]
  by_cases h24 : x.f0 = 24
  · rw [if_pos h24, lb4]
    have w := first_w k hk ((16 * x.f2 + x.f1) % 256) (x.f3 % 256) (x.f3 / 256 % 256) (x.f4 % 256) (x.f4 / 256 % 256) (x.f4 / 256 / 256 % 256) (x.f4 / 256 / 256 / 256 % 256)
      (x.f4 / 4294967296 % 256) (x.f4 / 4294967296 / 256 % 256) (x.f4 / 4294967296 / 256 / 256 % 256) (x.f4 / 4294967296 / 256 / 256 / 256 % 256) t hb1 (isBm _) (isBm _) (isBm _) (isBm _) (isBm _) (isBm _) (isBm _) (isBm _) (isBm _) (isBm _) ht
    have hj : -2147483648 ≤ x.f4 / 4294967296 ∧ x.f4 / 4294967296 ≤ 2147483647 := by unfold i64 at hi; omega
    rw [e1, e2, e3, imm_low, imm_low, imm_back hj] at w
    have e4 : x.f4 % 4294967296 + x.f4 / 4294967296 * 4294967296 = x.f4 := by omega
    rw [e4] at w
    have ex : (⟨24, x.f1, x.f2, x.f3, x.f4⟩ : S40) = x := by rw [← h24]
    rw [ex, hc] at w
    rw [h24]
    exact w
  · rw [if_neg h24]
    have w := first_n k hk (x.f0 % 256) ((16 * x.f2 + x.f1) % 256) (x.f3 % 256) (x.f3 / 256 % 256) (x.f4 % 256) (x.f4 / 256 % 256) (x.f4 / 256 / 256 % 256) (x.f4 / 256 / 256 / 256 % 256) t (isBm _) hb1 (isBm _) (isBm _) (isBm _) (isBm _) (isBm _) (isBm _) ht (by omega)
    rw [e0, e1, e2, e3, imm_low, imm_back (by omega)] at w
    have ex : (⟨x.f0, x.f1, x.f2, x.f3, x.f4⟩ : S40) = x := rfl
    rw [ex, hc] at w
    have hsz : 8 * sz x.f0 = 8 := by unfold sz; rw [if_neg h24]; rfl
    rw [hsz, e0]
    exact w
theorem by1_len (x : S40) : ((by1 x).length : Int) = 8 * sz x.f0 := by
  unfold by1 sz
  rw [List.length_append, List.length_append, List.length_append, lb_length, lb_length]
  by_cases h : x.f0 = 24
  · rw [if_pos h, if_pos h, List.length_append, lb_length]; rfl
  · rw [if_neg h, if_neg h]; rfl
def bts (l : List S40) : List Int := l.flatMap by1
theorem bts_len (l : List S40) : (bts l).length ≤ 16 * l.length := by
  induction l with
  | nil => simp [bts]
  | cons x xs ih =>
    have := by1_length x
    unfold bts at *
    rw [List.flatMap_cons, List.length_append, List.length_cons]; omega
theorem get_l (l : List S40) (hl : l.length ≤ 1000) : ∀ (k : Nat) (acc : List S40), (∀ x ∈ l, ck x = 0 ∧ i64 x.f4) → acc.length + l.length ≤ 256 → l.length + 500 ≤ k → insn_Get.l0 k (bts l) acc = some (acc ++ l, 0) := by
  induction l with
  | nil =>
    intro k acc _ _ hk
    obtain ⟨k, rfl⟩ : ∃ m, k = m + 1 := ⟨k - 1, by omega⟩
    rw [insn_Get.l0, List.append_nil]
    exact ife (by simp [bts]) rfl
  | cons x xs ih =>
    intro k acc hx ha hk
    rw [List.length_cons] at hl ha hk
    obtain ⟨k, rfl⟩ : ∃ m, k = m + 1 := ⟨k - 1, by omega⟩
    obtain ⟨hc, hi⟩ := hx x (List.mem_cons_self ..)
    have e : bts (x :: xs) = by1 x ++ bts xs := by unfold bts; rw [List.flatMap_cons]
    have l1 := by1_len x
    have l2 := bts_len xs
    have s12 : sz x.f0 = 1 ∨ sz x.f0 = 2 := by unfold sz; split <;> omega
    rw [insn_Get.l0, e]
    refine ift (by rw [List.length_append]; omega) (ife (by omega) (bs (first_by1 k (by omega) x hc hi (bts xs) (by omega)) ?_))
    refine ift rfl (ift (by omega) (ift ?_ (ift ?_ ?_)))
    · show (0 : Int) ≤ 8 * sz x.f0; omega
    · show 8 * sz x.f0 ≤ _; rw [List.length_append]; omega
    · have e2 : (8 * sz x.f0).toNat = (by1 x).length := by omega
      show insn_Get.l0 k ((by1 x ++ bts xs).drop ((8 * sz x.f0)).toNat) (acc ++ [x]) = _
      rw [e2, List.drop_left, ih (by omega) k (acc ++ [x]) (fun y hy => hx y (List.mem_cons_of_mem _ hy)) (by rw [List.length_append, List.length_singleton]; omega) (by omega), List.append_assoc]; rfl
theorem put_ok (l : List S40) : ∀ acc, ((put l acc).2 = 0 → (∀ x ∈ l, ck x = 0) ∧ (put l acc).1 = acc ++ bts l) ∧ ((put l acc).2 ≠ 0 → (put l acc).1 = []) := by
  induction l with
  | nil => intro acc; exact ⟨fun _ => ⟨by simp, by simp [put, bts]⟩, fun h => absurd rfl h⟩
  | cons x xs ih =>
    intro acc
    rw [put]
    by_cases h : ck x = 0
    · rw [if_pos h]
      obtain ⟨i1, i2⟩ := ih (acc ++ by1 x)
      refine ⟨fun q => ?_, i2⟩
      obtain ⟨j1, j2⟩ := i1 q
      refine ⟨fun y hy => ?_, ?_⟩
      · rcases List.mem_cons.mp hy with rfl | hy
        · exact h
        · exact j1 y hy
      · rw [j2, List.append_assoc]; unfold bts; rw [List.flatMap_cons]
    · rw [if_neg h]
      generalize ck x = c at h
      exact ⟨fun q => absurd q h, fun _ => rfl⟩
theorem back_l (l : List S40) (hl : l.length ≤ 256) (hx : ∀ x ∈ l, ck x = 0 ∧ i64 x.f4) (d : Nat) : ∀ (k i : Nat), i + d = l.length → d + 2000 ≤ k → lockgatelaw02_InsnBack.l0 k l (bts l) (((bts (l.take i)).length : Nat) : Int) (i : Int) = some true := by
  induction d with
  | zero =>
    intro k i hi hk
    obtain ⟨k, rfl⟩ : ∃ m, k = m + 1 := ⟨k - 1, by omega⟩
    rw [lockgatelaw02_InsnBack.l0, List.take_of_length_le (by omega)]
    refine ife (by omega) (bs (get_l l (by omega) k [] hx (by simp; omega) (by omega)) (ift rfl (ift rfl (bs (sameT k l (by omega) (by omega)) (ift rfl (bs (works_f k (by omega)) rfl))))))
  | succ d ih =>
    intro k i hi hk
    obtain ⟨k, rfl⟩ : ∃ m, k = m + 1 := ⟨k - 1, by omega⟩
    have hlt : i < l.length := by omega
    obtain ⟨hc, _⟩ := hx l[i] (List.getElem_mem hlt)
    have l1 := by1_len l[i]
    have l2 := bts_len (l.take i)
    have l3 : (l.take i).length = i := by rw [List.length_take]; omega
    have s12 : sz l[i].f0 = 1 ∨ sz l[i].f0 = 2 := by unfold sz; split <;> omega
    rw [lockgatelaw02_InsnBack.l0, rdT l i hlt, w64u (by omega)]
    refine ift (by omega) (ift (by omega) (bs (size_f _ _ _ _ _) (bs (icheckx k (by omega) l[i]) (ift hc ?_))))
    have e : wrap64 (((bts (l.take i)).length : Int) + wrap64 (8 * sz l[i].f0)) = (((bts (l.take (i + 1))).length : Nat) : Int) := by
      rw [w64k (n := 8 * sz l[i].f0) (by omega)]
      have e2 : bts (l.take (i + 1)) = bts (l.take i) ++ by1 l[i] := by
        rw [← take_succ' l i hlt]; unfold bts; rw [List.flatMap_append, List.flatMap_singleton]
      rw [e2, List.length_append]
      unfold wrap64; omega
    rw [e]
    exact ih k (i + 1) (by omega) (by omega)
theorem law (k : Nat) (hk : 10000 ≤ k) (l : List S40) (hi : ∀ x ∈ l, i64 x.f4) : lockgatelaw02_InsnBack.f k l = some true := by
  have kn := works_f k (by omega)
  unfold lockgatelaw02_InsnBack.f
  by_cases h : l.length > 400
  · exact ift (by omega) (bs kn rfl)
  · refine ife (by omega) (bs (put_f k (by omega) l (by omega)) ?_)
    by_cases h2 : l.length > 256
    · rw [if_pos h2]; exact ife (by decide) (ift rfl (bs kn rfl))
    · rw [if_neg h2]
      obtain ⟨p1, p2⟩ := put_ok l []
      by_cases h3 : (put l []).2 = 0
      · obtain ⟨q1, q2⟩ := p1 h3
        refine ift h3 ?_
        rw [q2, List.nil_append]
        exact back_l l (by omega) (fun x hx => ⟨q1 x hx, hi x hx⟩) l.length k 0 (by omega) (by omega)
      · refine ife h3 ?_
        rw [p2 h3]; exact ift rfl (bs kn rfl)
theorem pure (l0 : List S40) (hm : l0.length ≤ maxLen) (hw : ∀ x ∈ l0, (Lit.int .i64 x.f0).wf = true ∧ (Lit.int .i64 x.f1).wf = true ∧ (Lit.int .i64 x.f2).wf = true ∧ (Lit.int .i64 x.f3).wf = true ∧ (Lit.int .i64 x.f4).wf = true) :
    ∃ k, lockgatelaw02_InsnBack.f k l0 = some true := by
  refine ⟨10000, law 10000 (by omega) l0 (fun x hx => ?_)⟩
  obtain ⟨v, hv⟩ := exS (hw x hx).2.2.2.2
  have h1 := S_ge v
  have h2 := S_lt v
  unfold i64; omega
end Go.Proofs.Yticijjonimiooaa.LInsnBack
