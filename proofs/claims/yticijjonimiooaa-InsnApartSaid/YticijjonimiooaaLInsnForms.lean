/- InsnForms, without Go. -/
import Derived.Test.YticijjonimiooaaLInsnBack
import Derived.Test.YticijjonimiooaaPA27
set_option linter.unusedVariables false
set_option linter.unusedSimpArgs false
set_option linter.unusedSectionVars false
namespace Go.Proofs.Yticijjonimiooaa.LInsnForms
open Go.RowKit Go.Proofs.YticijjonimiooaaW.PrintWords Go.Proofs.YticijjonimiooaaW.PrintLast Go.Proofs.YticijjonimiooaaW.PrintMore Go.Proofs.Yticijjonimiooaa.PA Go.Proofs.Yticijjonimiooaa.Bv Go.Proofs.Yticijjonimiooaa.C02 Go.Proofs.Yticijjonimiooaa.LInsnBack
theorem put_all (l : List S40) (h : ∀ x ∈ l, ck x = 0) : ∀ acc, put l acc = (acc ++ bts l, 0) := by
  induction l with
  | nil => intro acc; simp [put, bts]
  | cons x xs ih =>
    intro acc
    rw [put, if_pos (h x (List.mem_cons_self ..)), ih (fun y hy => h y (List.mem_cons_of_mem _ hy)), List.append_assoc]
    unfold bts; rw [List.flatMap_cons]
theorem lb_v4 {a b c d : Int} (ha : isB a) (hb : isB b) (hc : isB c) (hd : isB d) (v : Int) (h : v % 4294967296 = v4 a b c d) : lb v 4 = [a, b, c, d] := by
  unfold isB at *; unfold v4 at h
  rw [lb4, show v % 256 = a by omega, show v / 256 % 256 = b by omega, show v / 256 / 256 % 256 = c by omega, show v / 256 / 256 / 256 % 256 = d by omega]
theorem sg32_mod {x : Int} (h : 0 ≤ x ∧ x < 4294967296) : sg32 x % 4294967296 = x := by
  unfold sg32; by_cases hs : x < 2147483648
  · rw [if_pos hs]; omega
  · rw [if_neg hs]; omega
theorem lb_s16 {a b : Int} (ha : isB a) (hb : isB b) : lb (sg16 (a + 256 * b)) 2 = [a, b] := by
  unfold isB at *
  rw [lb2]
  unfold sg16
  by_cases hs : a + 256 * b < 32768
  · rw [if_pos hs, show (a + 256 * b) % 256 = a by omega, show (a + 256 * b) / 256 % 256 = b by omega]
  · rw [if_neg hs, show (a + 256 * b - 65536) % 256 = a by omega, show (a + 256 * b - 65536) / 256 % 256 = b by omega]
theorem b1_back {b : Int} (h : isB b) : (16 * (b / 16) + b % 16) % 256 = b := by unfold isB at h; omega
theorem short (k : Nat) (l : List Int) (h : l.length < 8) : insn_first.f k l = some (0, 0, 0, 0, 0, 0, 2) := by
  unfold insn_first.f; exact ift (by omega) rfl
/-- bytes that begin with 24: too short, or not 0 where they have to be, or the wide instruction. -/
theorem first_24 (k : Nat) (hk : 400 ≤ k) (b1 p0 p1 i0 i1 i2 i3 : Int) (t : List Int) (h1 : isB b1) (hp0 : isB p0) (hp1 : isB p1) (hi0 : isB i0) (hi1 : isB i1) (hi2 : isB i2) (hi3 : isB i3) (ht : t.length ≤ 1000000) (htB : ∀ x ∈ t, isB x) :
    insn_first.f k (24 :: b1 :: p0 :: p1 :: i0 :: i1 :: i2 :: i3 :: t) = some (0, 0, 0, 0, 0, 0, 2) ∨ insn_first.f k (24 :: b1 :: p0 :: p1 :: i0 :: i1 :: i2 :: i3 :: t) = some (0, 0, 0, 0, 0, 0, 6) ∨
    ∃ j0 j1 j2 j3 t', t = 0 :: 0 :: 0 :: 0 :: j0 :: j1 :: j2 :: j3 :: t' ∧ isB j0 ∧ isB j1 ∧ isB j2 ∧ isB j3 := by
  have hB1 := h1
  unfold isB at hB1
  have pre : ∀ r, (if ((24 :: b1 :: p0 :: p1 :: i0 :: i1 :: i2 :: i3 :: t).length : Int) < 16 then some (0, 0, 0, 0, 0, 0, 2) else r) = r ∨ t.length < 8 := by
    intro r
    by_cases h : t.length < 8
    · exact Or.inr h
    · left; exact if_neg (by simp only [List.length_cons]; omega)
  have hlen : ((24 :: b1 :: p0 :: p1 :: i0 :: i1 :: i2 :: i3 :: t).length : Int) = (t.length : Int) + 8 := by simp only [List.length_cons]; omega
  by_cases hs : t.length < 8
  · left
    unfold insn_first.f
    rw [show rd (24 :: b1 :: p0 :: p1 :: i0 :: i1 :: i2 :: i3 :: t) 0 = 24 from rfl, show rd (24 :: b1 :: p0 :: p1 :: i0 :: i1 :: i2 :: i3 :: t) 1 = b1 from rfl, hlen]
    refine ife (by omega) (ift (by omega) (ift (by omega) (ift (by omega) (ift (by omega) ?_))))
    refine bs (num2 k (by omega) p0 p1 hp0 hp1) (ift (by omega) (ift (by omega) ?_))
    refine bs (num4 k (by omega) i0 i1 i2 i3 hi0 hi1 hi2 hi3) (bs (size_f _ _ _ _ _) ?_)
    rw [w64k (n := 24) (by omega), show sz 24 = 2 from rfl, w64k (n := 8 * 2) (by omega)]
    exact ift (by omega) (ift (by omega) rfl)
  · match t, htB, ht, hs, hlen with
    | z0 :: z1 :: z2 :: z3 :: j0 :: j1 :: j2 :: j3 :: t', htB, ht, hs, hlen =>
      have g0 := htB z0 (by simp); have g1 := htB z1 (by simp); have g2 := htB z2 (by simp); have g3 := htB z3 (by simp)
      by_cases hz : z0 = 0 ∧ z1 = 0 ∧ z2 = 0 ∧ z3 = 0
      · right; right
        obtain ⟨rfl, rfl, rfl, rfl⟩ := hz
        exact ⟨j0, j1, j2, j3, t', rfl, htB j0 (by simp), htB j1 (by simp), htB j2 (by simp), htB j3 (by simp)⟩
      · right; left
        have hlt : ((z0 :: z1 :: z2 :: z3 :: j0 :: j1 :: j2 :: j3 :: t').length : Int) = (t'.length : Int) + 8 := by simp only [List.length_cons]; omega
        unfold insn_first.f
        rw [show rd (24 :: b1 :: p0 :: p1 :: i0 :: i1 :: i2 :: i3 :: z0 :: z1 :: z2 :: z3 :: j0 :: j1 :: j2 :: j3 :: t') 0 = 24 from rfl, show rd (24 :: b1 :: p0 :: p1 :: i0 :: i1 :: i2 :: i3 :: z0 :: z1 :: z2 :: z3 :: j0 :: j1 :: j2 :: j3 :: t') 1 = b1 from rfl, hlen]
        refine ife (by omega) (ift (by omega) (ift (by omega) (ift (by omega) (ift (by omega) ?_))))
        refine bs (num2 k (by omega) p0 p1 hp0 hp1) (ift (by omega) (ift (by omega) ?_))
        refine bs (num4 k (by omega) i0 i1 i2 i3 hi0 hi1 hi2 hi3) (bs (size_f _ _ _ _ _) ?_)
        rw [w64k (n := 24) (by omega), show sz 24 = 2 from rfl, w64k (n := 8 * 2) (by omega)]
        refine ift (by omega) (ife (by omega) (ift (by omega) (ift (by omega) ?_)))
        refine bs (num4 k (by omega) z0 z1 z2 z3 g0 g1 g2 g3) (ife ?_ rfl)
        unfold isB at g0 g1 g2 g3
        unfold sg32
        by_cases hq : z0 + 256 * z1 + 65536 * z2 + 16777216 * z3 < 2147483648
        · rw [if_pos hq]; omega
        · rw [if_neg hq]; omega
    | [], _, _, hs, _ => exact absurd (by simp) hs
    | [_], _, _, hs, _ => exact absurd (by simp) hs
    | [_, _], _, _, hs, _ => exact absurd (by simp) hs
    | [_, _, _], _, _, hs, _ => exact absurd (by simp) hs
    | [_, _, _, _], _, _, hs, _ => exact absurd (by simp) hs
    | [_, _, _, _, _], _, _, hs, _ => exact absurd (by simp) hs
    | [_, _, _, _, _, _], _, _, hs, _ => exact absurd (by simp) hs
    | [_, _, _, _, _, _, _], _, _, hs, _ => exact absurd (by simp) hs
/-- what stands at the beginning of any bytes. -/
theorem first_any (k : Nat) (hk : 400 ≤ k) (l : List Int) (hl : l.length ≤ 100000) (hB : ∀ x ∈ l, isB x) :
    (∃ a b c d e f g, insn_first.f k l = some (a, b, c, d, e, f, g) ∧ g ≠ 0) ∨ ∃ (x : S40) (t : List Int), l = by1 x ++ t ∧ ck x = 0 ∧ insn_first.f k l = some (x.f0, x.f1, x.f2, x.f3, x.f4, 8 * sz x.f0, 0) := by
  by_cases hs : l.length < 8
  · exact Or.inl ⟨_, _, _, _, _, _, _, short k l hs, by decide⟩
  match l, hB, hl, hs with
  | b0 :: b1 :: p0 :: p1 :: i0 :: i1 :: i2 :: i3 :: t, hB, hl, hs =>
    have h0 := hB b0 (by simp); have h1 := hB b1 (by simp); have hp0 := hB p0 (by simp); have hp1 := hB p1 (by simp)
    have hi0 := hB i0 (by simp); have hi1 := hB i1 (by simp); have hi2 := hB i2 (by simp); have hi3 := hB i3 (by simp)
    have htB : ∀ x ∈ t, isB x := fun x hx => hB x (by simp [hx])
    have htl : t.length ≤ 1000000 := by simp only [List.length_cons] at hl; omega
    by_cases h24 : b0 = 24
    · subst h24
      rcases first_24 k hk b1 p0 p1 i0 i1 i2 i3 t h1 hp0 hp1 hi0 hi1 hi2 hi3 htl htB with h | h | ⟨j0, j1, j2, j3, t', rfl, hj0, hj1, hj2, hj3⟩
      · exact Or.inl ⟨_, _, _, _, _, _, _, h, by decide⟩
      · exact Or.inl ⟨_, _, _, _, _, _, _, h, by decide⟩
      · have w := first_w k hk b1 p0 p1 i0 i1 i2 i3 j0 j1 j2 j3 t' h1 hp0 hp1 hi0 hi1 hi2 hi3 hj0 hj1 hj2 hj3 (by simp only [List.length_cons] at htl; omega)
        generalize hx : (⟨24, b1 % 16, b1 / 16, sg16 (p0 + 256 * p1), v4 i0 i1 i2 i3 + sg32 (v4 j0 j1 j2 j3) * 4294967296⟩ : S40) = x at w
        by_cases hc : ck x = 0
        · right
          refine ⟨x, t', ?_, hc, ?_⟩
          · have v := v4_in hi0 hi1 hi2 hi3
            have u := sg32_mod (v4_in hj0 hj1 hj2 hj3)
            unfold by1
            rw [← hx]
            dsimp only
            rw [if_pos rfl, b1_back h1, lb_s16 hp0 hp1, lb_v4 hi0 hi1 hi2 hi3 _ (by omega), lb_v4 hj0 hj1 hj2 hj3 _ (by omega)]
            rfl
          · rw [w, hc, ← hx]; rfl
        · exact Or.inl ⟨_, _, _, _, _, _, _, w, hc⟩
    · have w := first_n k hk b0 b1 p0 p1 i0 i1 i2 i3 t h0 h1 hp0 hp1 hi0 hi1 hi2 hi3 htl h24
      generalize hx : (⟨b0, b1 % 16, b1 / 16, sg16 (p0 + 256 * p1), sg32 (v4 i0 i1 i2 i3)⟩ : S40) = x at w
      by_cases hc : ck x = 0
      · right
        refine ⟨x, t, ?_, hc, ?_⟩
        · unfold by1
          rw [← hx]
          dsimp only
          rw [if_neg h24, b1_back h1, lb_s16 hp0 hp1, lb_v4 hi0 hi1 hi2 hi3 _ (sg32_mod (v4_in hi0 hi1 hi2 hi3)), show b0 % 256 = b0 by unfold isB at h0; omega]
          rfl
        · rw [w, hc, ← hx]
          dsimp only
          have : sz b0 = 1 := by unfold sz; rw [if_neg h24]
          rw [this]; rfl
      · exact Or.inl ⟨_, _, _, _, _, _, _, w, hc⟩
  | [], _, _, hs => exact absurd (by simp) hs
  | [_], _, _, hs => exact absurd (by simp) hs
  | [_, _], _, _, hs => exact absurd (by simp) hs
  | [_, _, _], _, _, hs => exact absurd (by simp) hs
  | [_, _, _, _], _, _, hs => exact absurd (by simp) hs
  | [_, _, _, _, _], _, _, hs => exact absurd (by simp) hs
  | [_, _, _, _, _, _], _, _, hs => exact absurd (by simp) hs
  | [_, _, _, _, _, _, _], _, _, hs => exact absurd (by simp) hs
/-- Get, of any bytes. -/
theorem get_any (n : Nat) : ∀ (k : Nat) (l : List Int) (acc : List S40), l.length ≤ n → l.length ≤ 100000 → (∀ x ∈ l, isB x) → acc.length ≤ 256 → n + 500 ≤ k →
    ∃ r e, insn_Get.l0 k l acc = some (r, e) ∧ ((e ≠ 0 ∧ r = []) ∨ (e = 0 ∧ ∃ m, r = acc ++ m ∧ bts m = l ∧ (∀ x ∈ m, ck x = 0) ∧ acc.length + m.length ≤ 256)) := by
  induction n with
  | zero =>
    intro k l acc hn hl hB ha hk
    obtain ⟨k, rfl⟩ : ∃ m, k = m + 1 := ⟨k - 1, by omega⟩
    obtain rfl : l = [] := List.length_eq_zero_iff.mp (by omega)
    rw [insn_Get.l0]
    exact ⟨acc, 0, ife (by simp) rfl, Or.inr ⟨rfl, [], by simp, rfl, by simp, by simpa using ha⟩⟩
  | succ n ih =>
    intro k l acc hn hl hB ha hk
    obtain ⟨k, rfl⟩ : ∃ m, k = m + 1 := ⟨k - 1, by omega⟩
    rw [insn_Get.l0]
    by_cases h0 : l.length = 0
    · obtain rfl : l = [] := List.length_eq_zero_iff.mp h0
      exact ⟨acc, 0, ife (by simp) rfl, Or.inr ⟨rfl, [], by simp, rfl, by simp, by simpa using ha⟩⟩
    by_cases h256 : acc.length = 256
    · exact ⟨[], 9, ift (by omega) (ift (by omega) rfl), Or.inl ⟨by decide, rfl⟩⟩
    rcases first_any k (by omega) l hl hB with ⟨a, b, c, d, e, f, g, hf, hg⟩ | ⟨x, t, rfl, hc, hf⟩
    · exact ⟨[], g, ift (by omega) (ife (by omega) (bs hf (ife hg rfl))), Or.inl ⟨hg, rfl⟩⟩
    · have l1 := by1_len x
      have s12 : sz x.f0 = 1 ∨ sz x.f0 = 2 := by unfold sz; split <;> omega
      rw [List.length_append] at hn hl h0
      obtain ⟨r, e, hr, hq⟩ := ih k t (acc ++ [x]) (by omega) (by omega) (fun y hy => hB y (List.mem_append_right _ hy)) (by rw [List.length_append, List.length_singleton]; omega) (by omega)
      refine ⟨r, e, ift (by rw [List.length_append]; omega) (ife (by omega) (bs hf (ift rfl (ift (by omega) (ift ?_ (ift ?_ ?_)))))), ?_⟩
      · show (0 : Int) ≤ 8 * sz x.f0; omega
      · show 8 * sz x.f0 ≤ _; rw [List.length_append]; omega
      · have e2 : (8 * sz x.f0).toNat = (by1 x).length := by omega
        show insn_Get.l0 k ((by1 x ++ t).drop ((8 * sz x.f0)).toNat) (acc ++ [x]) = _
        rw [e2, List.drop_left]; exact hr
      · rcases hq with hq | ⟨he, m, rfl, hm, hck, hlen⟩
        · exact Or.inl hq
        · refine Or.inr ⟨he, x :: m, by rw [List.append_assoc]; rfl, ?_, fun y hy => ?_, ?_⟩
          · unfold bts at *; rw [List.flatMap_cons, hm]
          · rcases List.mem_cons.mp hy with rfl | hy
            · exact hc
            · exact hck y hy
          · rw [List.length_append, List.length_singleton] at hlen; rw [List.length_cons]; omega
theorem law (k : Nat) (hk : 20000 ≤ k) (l : List Int) (hB : ∀ x ∈ l, isB x) : lockgatelaw02_InsnForms.f k l = some true := by
  have kn := works_f k (by omega)
  unfold lockgatelaw02_InsnForms.f
  by_cases h : l.length > 8192
  · exact ift (by omega) (bs kn rfl)
  · obtain ⟨r, e, hr, hq⟩ := get_any l.length k l [] (by omega) (by omega) hB (by simp) (by omega)
    refine ife (by omega) (bs hr ?_)
    rcases hq with ⟨he, rfl⟩ | ⟨rfl, m, hrm, hm, hck, hlen⟩
    · exact ife he (ift rfl (bs kn rfl))
    · obtain rfl : r = m := by simpa using hrm
      have hml : r.length ≤ 256 := by simpa using hlen
      have hp : insn_Put.f k r = some (bts r, 0) := by
        rw [put_f k (by omega) r (by omega), if_neg (by omega), put_all r hck, List.nil_append]
      refine ift rfl (bs hp (ift rfl ?_))
      rw [hm]
      exact bs (sameB k l (by omega) (by omega)) (ift rfl (bs kn rfl))
theorem pure (l0 : List Int) (hm : l0.length ≤ maxLen) (hw : ∀ x ∈ l0, (Lit.int .u8 x).wf = true) : ∃ k, lockgatelaw02_InsnForms.f k l0 = some true := by
  refine ⟨20000, law 20000 (by omega) l0 (fun x hx => ?_)⟩
  have h : IntKind.u8.min ≤ x ∧ x ≤ IntKind.u8.max := by simpa [Lit.wf] using hw x hx
  have h1 : IntKind.u8.min = 0 := rfl
  have h2 : IntKind.u8.max = 255 := rfl
  unfold isB; omega
end Go.Proofs.Yticijjonimiooaa.LInsnForms
