import Derived.Test.YticijjonimiooaaPA0
import Derived.Test.YticijjonimiooaaSq
import Derived.Test.YticijjonimiooaaPA2
namespace Go.Proofs.Yticijjonimiooaa.PA
open Go.RowKit Go.Proofs.YticijjonimiooaaW.PrintWords Go.Proofs.YticijjonimiooaaW.PrintLast Go.Proofs.YticijjonimiooaaW.PrintMore
attribute [local go_sem] max2_int min2_int max_two min_two max_three min_three max_four min_four
set_option linter.unusedVariables false
set_option linter.unusedSimpArgs false
mutual
def insn_fits.j0 : Nat → Int → Bool → Int → Int → Int → Int → Int → Option (Bool)
 | 0, _, _, _, _, _, _, _ => none
 | k + 1, x1, x32, x117000, x117001, x117002, x117003, x117004 => if x32 = true then (some false) else (if (Go.bits .and .i64 x1 2) = 0 then (insn_fits.j1 k x1 (x117002 != 0) x117000 x117001 x117002 x117003 x117004) else (insn_fits.j1 k x1 false x117000 x117001 x117002 x117003 x117004))
def insn_fits.j1 : Nat → Int → Bool → Int → Int → Int → Int → Int → Option (Bool)
 | 0, _, _, _, _, _, _, _ => none
 | k + 1, x1, x32, x117000, x117001, x117002, x117003, x117004 => if x32 = true then (some false) else (if (Go.bits .and .i64 x1 4) = 0 then (insn_fits.j2 k x1 (x117003 != 0) x117000 x117001 x117002 x117003 x117004) else (insn_fits.j2 k x1 false x117000 x117001 x117002 x117003 x117004))
def insn_fits.j2 : Nat → Int → Bool → Int → Int → Int → Int → Int → Option (Bool)
 | 0, _, _, _, _, _, _, _ => none
 | k + 1, x1, x32, x117000, x117001, x117002, x117003, x117004 => if x32 = true then (some false) else (if (Go.bits .and .i64 x1 8) = 0 then (insn_fits.j3 k (x117004 != 0) x117000 x117001 x117002 x117003 x117004) else (insn_fits.j3 k false x117000 x117001 x117002 x117003 x117004))
def insn_fits.j3 : Nat → Bool → Int → Int → Int → Int → Int → Option (Bool)
 | 0, _, _, _, _, _, _ => none
 | k + 1, x32, x117000, x117001, x117002, x117003, x117004 => if x32 = true then (some false) else (if x117000 = 24 then (if x117002 = 0 then (some true) else (if x117002 = 1 then ((insn_within.f x117004 1 8).bind fun t117 => (some t117)) else (some false))) else (if (x117000 / 16) = 13 then (if (Go.bits .and .i64 x117000 7) = 4 then (if x117004 = 16 then (some true) else (if x117004 = 32 then (some true) else (some (x117004 == 64)))) else (some true)) else (some true)))
end
def insn_fits.f (k : Nat) (a0_0 : Int) (a0_1 : Int) (a0_2 : Int) (a0_3 : Int) (a0_4 : Int) (a1 : Int) : Option (Bool) := if (Go.bits .and .i64 a1 1) = 0 then (insn_fits.j0 k a1 (a0_1 != 0) a0_0 a0_1 a0_2 a0_3 a0_4) else (insn_fits.j0 k a1 false a0_0 a0_1 a0_2 a0_3 a0_4)
theorem insn_fits.mono_l : ∀ k, (∀ y0 y1 y2 y3 y4 y5 y6, LeO (insn_fits.j0 k y0 y1 y2 y3 y4 y5 y6) (insn_fits.j0 (k + 1) y0 y1 y2 y3 y4 y5 y6)) ∧ (∀ y0 y1 y2 y3 y4 y5 y6, LeO (insn_fits.j1 k y0 y1 y2 y3 y4 y5 y6) (insn_fits.j1 (k + 1) y0 y1 y2 y3 y4 y5 y6)) ∧ (∀ y0 y1 y2 y3 y4 y5 y6, LeO (insn_fits.j2 k y0 y1 y2 y3 y4 y5 y6) (insn_fits.j2 (k + 1) y0 y1 y2 y3 y4 y5 y6)) ∧ (∀ y0 y1 y2 y3 y4 y5, LeO (insn_fits.j3 k y0 y1 y2 y3 y4 y5) (insn_fits.j3 (k + 1) y0 y1 y2 y3 y4 y5))
 | 0 => ⟨fun _ _ _ _ _ _ _ r h => by simp [insn_fits.j0] at h, fun _ _ _ _ _ _ _ r h => by simp [insn_fits.j1] at h, fun _ _ _ _ _ _ _ r h => by simp [insn_fits.j2] at h, fun _ _ _ _ _ _ r h => by simp [insn_fits.j3] at h⟩
 | k + 1 => by
  obtain ⟨ih0, ih1, ih2, ih3⟩ := insn_fits.mono_l k
  refine ⟨?_, ?_, ?_, ?_⟩
  ·intro y0 y1 y2 y3 y4 y5 y6
   unfold insn_fits.j0
   repeat' first
   | (with_reducible exact ih0 _ _ _ _ _ _ _)
   | (with_reducible exact ih1 _ _ _ _ _ _ _)
   | (with_reducible exact ih2 _ _ _ _ _ _ _)
   | (with_reducible exact ih3 _ _ _ _ _ _)
   | (with_reducible exact LeO.refl _)
   | (with_reducible exact LeO.none _)
   | (with_reducible refine LeO.ite ?_ ?_)
   | (with_reducible refine LeO.bind ?_ (fun _ => ?_))
   | exact ih0 _ _ _ _ _ _ _
   | exact ih1 _ _ _ _ _ _ _
   | exact ih2 _ _ _ _ _ _ _
   | exact ih3 _ _ _ _ _ _
   | exact LeO.none _
   | refine LeO.ite ?_ ?_
   | refine LeO.bind ?_ (fun _ => ?_)
  ·intro y0 y1 y2 y3 y4 y5 y6
   unfold insn_fits.j1
   repeat' first
   | (with_reducible exact ih0 _ _ _ _ _ _ _)
   | (with_reducible exact ih1 _ _ _ _ _ _ _)
   | (with_reducible exact ih2 _ _ _ _ _ _ _)
   | (with_reducible exact ih3 _ _ _ _ _ _)
   | (with_reducible exact LeO.refl _)
   | (with_reducible exact LeO.none _)
   | (with_reducible refine LeO.ite ?_ ?_)
   | (with_reducible refine LeO.bind ?_ (fun _ => ?_))
   | exact ih0 _ _ _ _ _ _ _
   | exact ih1 _ _ _ _ _ _ _
   | exact ih2 _ _ _ _ _ _ _
   | exact ih3 _ _ _ _ _ _
   | exact LeO.none _
   | refine LeO.ite ?_ ?_
   | refine LeO.bind ?_ (fun _ => ?_)
  ·intro y0 y1 y2 y3 y4 y5 y6
   unfold insn_fits.j2
   repeat' first
   | (with_reducible exact ih0 _ _ _ _ _ _ _)
   | (with_reducible exact ih1 _ _ _ _ _ _ _)
   | (with_reducible exact ih2 _ _ _ _ _ _ _)
   | (with_reducible exact ih3 _ _ _ _ _ _)
   | (with_reducible exact LeO.refl _)
   | (with_reducible exact LeO.none _)
   | (with_reducible refine LeO.ite ?_ ?_)
   | (with_reducible refine LeO.bind ?_ (fun _ => ?_))
   | exact ih0 _ _ _ _ _ _ _
   | exact ih1 _ _ _ _ _ _ _
   | exact ih2 _ _ _ _ _ _ _
   | exact ih3 _ _ _ _ _ _
   | exact LeO.none _
   | refine LeO.ite ?_ ?_
   | refine LeO.bind ?_ (fun _ => ?_)
  intro y0 y1 y2 y3 y4 y5
  unfold insn_fits.j3
  repeat' first
  | (with_reducible exact ih0 _ _ _ _ _ _ _)
  | (with_reducible exact ih1 _ _ _ _ _ _ _)
  | (with_reducible exact ih2 _ _ _ _ _ _ _)
  | (with_reducible exact ih3 _ _ _ _ _ _)
  | (with_reducible exact LeO.refl _)
  | (with_reducible exact LeO.none _)
  | (with_reducible refine LeO.ite ?_ ?_)
  | (with_reducible refine LeO.bind ?_ (fun _ => ?_))
  | exact ih0 _ _ _ _ _ _ _
  | exact ih1 _ _ _ _ _ _ _
  | exact ih2 _ _ _ _ _ _ _
  | exact ih3 _ _ _ _ _ _
  | exact LeO.none _
  | refine LeO.ite ?_ ?_
  | refine LeO.bind ?_ (fun _ => ?_)
theorem insn_fits.mono : ∀ a0 a1 a2 a3 a4 a5 k, LeO (insn_fits.f k a0 a1 a2 a3 a4 a5) (insn_fits.f (k + 1) a0 a1 a2 a3 a4 a5) := by
 intro a0 a1 a2 a3 a4 a5 k
 obtain ⟨ih0, ih1, ih2, ih3⟩ := insn_fits.mono_l k
 unfold insn_fits.f
 repeat' first
  | (with_reducible exact ih0 _ _ _ _ _ _ _)
  | (with_reducible exact ih1 _ _ _ _ _ _ _)
  | (with_reducible exact ih2 _ _ _ _ _ _ _)
  | (with_reducible exact ih3 _ _ _ _ _ _)
  | (with_reducible exact LeO.refl _)
  | (with_reducible exact LeO.none _)
  | (with_reducible refine LeO.ite ?_ ?_)
  | (with_reducible refine LeO.bind ?_ (fun _ => ?_))
  | exact ih0 _ _ _ _ _ _ _
  | exact ih1 _ _ _ _ _ _ _
  | exact ih2 _ _ _ _ _ _ _
  | exact ih3 _ _ _ _ _ _
  | exact LeO.none _
  | refine LeO.ite ?_ ?_
  | refine LeO.bind ?_ (fun _ => ?_)
/-- What insn.fits has still to answer ahead of the i-th field. -/
def insn_fits.T (k : Nat) (a0_0 a0_1 a0_2 a0_3 a0_4 a1 : Int) (r : Bool) (i : Int) : Prop :=
 (i = 0 → insn_fits.f k a0_0 a0_1 a0_2 a0_3 a0_4 a1 = some r) ∧ (i = 1 → ∃ k', insn_fits.j0 k' a1 false a0_0 a0_1 a0_2 a0_3 a0_4 = some r) ∧ (i = 2 → ∃ k', insn_fits.j1 k' a1 false a0_0 a0_1 a0_2 a0_3 a0_4 = some r) ∧ (i = 3 → ∃ k', insn_fits.j2 k' a1 false a0_0 a0_1 a0_2 a0_3 a0_4 = some r) ∧ (i = 4 → ∃ k', insn_fits.j3 k' false a0_0 a0_1 a0_2 a0_3 a0_4 = some r)
theorem insn_fits.s0 {k : Nat} {a0 a1 a2 a3 a4 u : Int} {r : Bool} (h : insn_fits.f k a0 a1 a2 a3 a4 u = some r) : (Go.bits .and .i64 u 1 = 0 ∧ a1 ≠ 0 ∧ r = false) ∨ (¬ (Go.bits .and .i64 u 1 = 0 ∧ a1 ≠ 0) ∧ ∃ k', insn_fits.j0 k' u false a0 a1 a2 a3 a4 = some r) := by
 have s : ∀ c, insn_fits.j0 k u c a0 a1 a2 a3 a4 = some r → (c = true ∧ r = false) ∨ (c = false ∧ insn_fits.j0 k u false a0 a1 a2 a3 a4 = some r) := by
  intro c hc
  cases c with
  | false => exact Or.inr ⟨rfl, hc⟩
  | true =>
   cases k with
   | zero => simp [insn_fits.j0] at hc
   | succ k => rw [insn_fits.j0, if_pos rfl] at hc; exact Or.inl ⟨rfl, (Option.some.inj hc).symm⟩
 unfold insn_fits.f at h
 by_cases hb : Go.bits .and .i64 u 1 = 0
 ·rw [if_pos hb] at h
  rcases s _ h with ⟨h1, h2⟩ | ⟨h1, h2⟩
  ·exact Or.inl ⟨hb, by simpa using h1, h2⟩
  exact Or.inr ⟨fun q => q.2 (by simpa using h1), _, h2⟩
 rw [if_neg hb] at h
 exact Or.inr ⟨fun q => hb q.1, _, h⟩
theorem insn_fits.s1 {k : Nat} {a0 a1 a2 a3 a4 u : Int} {r : Bool} (h : insn_fits.j0 k u false a0 a1 a2 a3 a4 = some r) : (Go.bits .and .i64 u 2 = 0 ∧ a2 ≠ 0 ∧ r = false) ∨ (¬ (Go.bits .and .i64 u 2 = 0 ∧ a2 ≠ 0) ∧ ∃ k', insn_fits.j1 k' u false a0 a1 a2 a3 a4 = some r) := by
 cases k with
 | zero => simp [insn_fits.j0] at h
 | succ k =>
 have s : ∀ c, insn_fits.j1 k u c a0 a1 a2 a3 a4 = some r → (c = true ∧ r = false) ∨ (c = false ∧ insn_fits.j1 k u false a0 a1 a2 a3 a4 = some r) := by
  intro c hc
  cases c with
  | false => exact Or.inr ⟨rfl, hc⟩
  | true =>
   cases k with
   | zero => simp [insn_fits.j1] at hc
   | succ k => rw [insn_fits.j1, if_pos rfl] at hc; exact Or.inl ⟨rfl, (Option.some.inj hc).symm⟩
 rw [insn_fits.j0, if_neg (by decide)] at h
 by_cases hb : Go.bits .and .i64 u 2 = 0
 ·rw [if_pos hb] at h
  rcases s _ h with ⟨h1, h2⟩ | ⟨h1, h2⟩
  ·exact Or.inl ⟨hb, by simpa using h1, h2⟩
  exact Or.inr ⟨fun q => q.2 (by simpa using h1), _, h2⟩
 rw [if_neg hb] at h
 exact Or.inr ⟨fun q => hb q.1, _, h⟩
theorem insn_fits.s2 {k : Nat} {a0 a1 a2 a3 a4 u : Int} {r : Bool} (h : insn_fits.j1 k u false a0 a1 a2 a3 a4 = some r) : (Go.bits .and .i64 u 4 = 0 ∧ a3 ≠ 0 ∧ r = false) ∨ (¬ (Go.bits .and .i64 u 4 = 0 ∧ a3 ≠ 0) ∧ ∃ k', insn_fits.j2 k' u false a0 a1 a2 a3 a4 = some r) := by
 cases k with
 | zero => simp [insn_fits.j1] at h
 | succ k =>
 have s : ∀ c, insn_fits.j2 k u c a0 a1 a2 a3 a4 = some r → (c = true ∧ r = false) ∨ (c = false ∧ insn_fits.j2 k u false a0 a1 a2 a3 a4 = some r) := by
  intro c hc
  cases c with
  | false => exact Or.inr ⟨rfl, hc⟩
  | true =>
   cases k with
   | zero => simp [insn_fits.j2] at hc
   | succ k => rw [insn_fits.j2, if_pos rfl] at hc; exact Or.inl ⟨rfl, (Option.some.inj hc).symm⟩
 rw [insn_fits.j1, if_neg (by decide)] at h
 by_cases hb : Go.bits .and .i64 u 4 = 0
 ·rw [if_pos hb] at h
  rcases s _ h with ⟨h1, h2⟩ | ⟨h1, h2⟩
  ·exact Or.inl ⟨hb, by simpa using h1, h2⟩
  exact Or.inr ⟨fun q => q.2 (by simpa using h1), _, h2⟩
 rw [if_neg hb] at h
 exact Or.inr ⟨fun q => hb q.1, _, h⟩
theorem insn_fits.s3 {k : Nat} {a0 a1 a2 a3 a4 u : Int} {r : Bool} (h : insn_fits.j2 k u false a0 a1 a2 a3 a4 = some r) : (Go.bits .and .i64 u 8 = 0 ∧ a4 ≠ 0 ∧ r = false) ∨ (¬ (Go.bits .and .i64 u 8 = 0 ∧ a4 ≠ 0) ∧ ∃ k', insn_fits.j3 k' false a0 a1 a2 a3 a4 = some r) := by
 cases k with
 | zero => simp [insn_fits.j2] at h
 | succ k =>
 have s : ∀ c, insn_fits.j3 k c a0 a1 a2 a3 a4 = some r → (c = true ∧ r = false) ∨ (c = false ∧ insn_fits.j3 k false a0 a1 a2 a3 a4 = some r) := by
  intro c hc
  cases c with
  | false => exact Or.inr ⟨rfl, hc⟩
  | true =>
   cases k with
   | zero => simp [insn_fits.j3] at hc
   | succ k => rw [insn_fits.j3, if_pos rfl] at hc; exact Or.inl ⟨rfl, (Option.some.inj hc).symm⟩
 rw [insn_fits.j2, if_neg (by decide)] at h
 by_cases hb : Go.bits .and .i64 u 8 = 0
 ·rw [if_pos hb] at h
  rcases s _ h with ⟨h1, h2⟩ | ⟨h1, h2⟩
  ·exact Or.inl ⟨hb, by simpa using h1, h2⟩
  exact Or.inr ⟨fun q => q.2 (by simpa using h1), _, h2⟩
 rw [if_neg hb] at h
 exact Or.inr ⟨fun q => hb q.1, _, h⟩
theorem ix69_0 : ∀ (x0 x1 x2 x3 x4 x5 x6 x7 : Value) (w : World), Sem.run Try.prog (Instr.index 69 (.agg #[x0, x1, x2, x3, x4, x5, x6, x7]) (.int .i64 0)) w = .ok (.agg #[x0, x1]) w := fun _ _ _ _ _ _ _ _ _ => rfl
theorem ix69_1 : ∀ (x0 x1 x2 x3 x4 x5 x6 x7 : Value) (w : World), Sem.run Try.prog (Instr.index 69 (.agg #[x0, x1, x2, x3, x4, x5, x6, x7]) (.int .i64 1)) w = .ok (.agg #[x2, x3]) w := fun _ _ _ _ _ _ _ _ _ => rfl
theorem ix69_2 : ∀ (x0 x1 x2 x3 x4 x5 x6 x7 : Value) (w : World), Sem.run Try.prog (Instr.index 69 (.agg #[x0, x1, x2, x3, x4, x5, x6, x7]) (.int .i64 2)) w = .ok (.agg #[x4, x5]) w := fun _ _ _ _ _ _ _ _ _ => rfl
theorem ix69_3 : ∀ (x0 x1 x2 x3 x4 x5 x6 x7 : Value) (w : World), Sem.run Try.prog (Instr.index 69 (.agg #[x0, x1, x2, x3, x4, x5, x6, x7]) (.int .i64 3)) w = .ok (.agg #[x6, x7]) w := fun _ _ _ _ _ _ _ _ _ => rfl
set_option maxHeartbeats 8000000 in
set_option maxRecDepth 100000 in
theorem insn_fits.calls (k : Nat) (a0_0 : Int) (a0_1 : Int) (a0_2 : Int) (a0_3 : Int) (a0_4 : Int) (a1 : Int) (r : Bool) (w : World) (h : insn_fits.f k a0_0 a0_1 a0_2 a0_3 a0_4 a1 = some r) :
 Calls Try.prog 42 #[.agg #[.int .i64 a0_0, .int .i64 a0_1, .int .i64 a0_2, .int .i64 a0_3, .int .i64 a0_4], .int .i64 a1] w fun e w' => e = .returned (.bool r) ∧ Below w.heap.size w w' := by
 have hu40 := Try.underlying40
 have hu68 := Try.underlying68
 have hu69 := Try.underlying69
 have HB := Aside0.mk (Below.refl w.heap.size w)
 have HT0 : Aside0 (insn_fits.T k a0_0 a0_1 a0_2 a0_3 a0_4 a1 r 0) := ⟨fun _ => h, fun q => absurd q (by decide), fun q => absurd q (by decide), fun q => absurd q (by decide), fun q => absurd q (by decide)⟩
 clear h
 go_enter Try.func42, Try.ntmps42
 go_wp2_with (first | ((with_reducible refine gate_dst (N := 2) rfl ?_); refine bx_ 2 #[.int .i64 a0_0, .int .i64 a0_1, .int .i64 a0_2, .int .i64 a0_3, .int .i64 a0_4] 40 ?_; intro gb1 hg w3 BK1 hb; have GW1 := bg_ hg; have GE1 := GW1; replace HB := bl_ hb; clear hb hg; obtain ⟨z0, z1, z2, z3, z4, y0, y1, y2, y3, y4⟩ := k5_ BK1))
 clear z0 z1 z2 z3 z4 y0 y1 y2 y3 y4
 go_loopg [20] 5 (fun kq v20 w' => ∃ i : Int, v20 = .int .i64 i ∧ Aside0 (0 ≤ i ∧ i ≤ 4 ∧ (kq : Int) + i = 5) ∧ Aside0 (insn_fits.T k a0_0 a0_1 a0_2 a0_3 a0_4 a1 r i) ∧ Aside0 (w'.heap[gb1]? = some (.cells #[.int .i64 a0_0, .int .i64 a0_1, .int .i64 a0_2, .int .i64 a0_3, .int .i64 a0_4] 40 (0, 0))) ∧ Aside0 (Below w.heap.size w w'))
 case atStart => exact ⟨0, rfl, ⟨by omega⟩, HT0, ⟨bk_⟩, ⟨bz_⟩⟩
 case round =>
  clear HT0
  obtain ⟨i, rfl, HI, HT, BK1, HB⟩ := hrel
  have H4 : i = 0 ∨ i = 1 ∨ i = 2 ∨ i = 3 ∨ i = 4 := by have := HI.out; omega
  cases gk with
  | zero => have := HI.out; exfalso; omega
  | succ k1 =>
   obtain ⟨z0, z1, z2, z3, z4, y0, y1, y2, y3, y4⟩ := k5_ BK1
   rcases H4 with rfl | rfl | rfl | rfl | rfl
   ·have hh := insn_fits.s0 (HT.out.1 rfl)
    rcases hh with ⟨hb0, hf, rfl⟩ | ⟨hno, hn⟩
    ·have g1 : (Go.bits .and .i64 a1 1 == 0) = true := beq_iff_eq.mpr hb0
     have g2 : (a0_1 != 0) = true := bne_iff_ne.mpr hf
     have g3 : (a0_1 == 0) = false := beq_eq_false_iff_ne.mpr hf
     go_wp2_with (first | ((with_reducible refine gate_dst (N := 6) rfl ?_); refine bx_ 6 #[.int .i64 0, .int .i64 0] 68 ?_; intro gb2 hg w4 BK2 hb; have GW2 := bg_ hg; have GE2 := GW2; have NB := bm_ hg BK1; replace BK1 := bb_ hb BK1; replace HB := bl_ hb; clear hb hg; obtain ⟨p0, p1, q0, q1⟩ := k2_ BK2))
     (repeat (simp only [ix69_0, ix69_1, ix69_2, ix69_3]; go_wp2_with (first | ((with_reducible refine gate_dst (N := 6) rfl ?_); refine bx_ 6 #[.int .i64 0, .int .i64 0] 68 ?_; intro gb2 hg w4 BK2 hb; have GW2 := bg_ hg; have GE2 := GW2; have NB := bm_ hg BK1; replace BK1 := bb_ hb BK1; replace HB := bl_ hb; clear hb hg; obtain ⟨p0, p1, q0, q1⟩ := k2_ BK2))))
     go_ret
     exact ⟨vv_, bz_⟩
    by_cases hb0 : Go.bits .and .i64 a1 1 = 0
    ·have hf : a0_1 = 0 := Classical.byContradiction fun q => hno ⟨hb0, q⟩
     have g1 : (Go.bits .and .i64 a1 1 == 0) = true := beq_iff_eq.mpr hb0
     have g2 : (a0_1 != 0) = false := bne_eq_false_iff_eq.mpr hf
     have g3 : (a0_1 == 0) = true := beq_iff_eq.mpr hf
     clear hb0 hf
     go_wp2_with (first | ((with_reducible refine gate_dst (N := 6) rfl ?_); refine bx_ 6 #[.int .i64 0, .int .i64 0] 68 ?_; intro gb2 hg w4 BK2 hb; have GW2 := bg_ hg; have GE2 := GW2; have NB := bm_ hg BK1; replace BK1 := bb_ hb BK1; replace HB := bl_ hb; clear hb hg; obtain ⟨p0, p1, q0, q1⟩ := k2_ BK2))
     (repeat (simp only [ix69_0, ix69_1, ix69_2, ix69_3]; go_wp2_with (first | ((with_reducible refine gate_dst (N := 6) rfl ?_); refine bx_ 6 #[.int .i64 0, .int .i64 0] 68 ?_; intro gb2 hg w4 BK2 hb; have GW2 := bg_ hg; have GE2 := GW2; have NB := bm_ hg BK1; replace BK1 := bb_ hb BK1; replace HB := bl_ hb; clear hb hg; obtain ⟨p0, p1, q0, q1⟩ := k2_ BK2))))
     go_roundg k1
     case measure => omega
     case rel => exact ⟨1, rfl, ⟨by have := HI.out; omega⟩, ⟨⟨fun q => absurd q (by decide), fun _ => hn, fun q => absurd q (by decide), fun q => absurd q (by decide), fun q => absurd q (by decide)⟩⟩, ⟨by refine blk_far ?_ NB.out _; refine blk_far ?_ NB.out _; exact bk_⟩, ⟨bz_⟩⟩
    have g1 : (Go.bits .and .i64 a1 1 == 0) = false := beq_eq_false_iff_ne.mpr hb0
    clear hb0
    go_wp2_with (first | ((with_reducible refine gate_dst (N := 6) rfl ?_); refine bx_ 6 #[.int .i64 0, .int .i64 0] 68 ?_; intro gb2 hg w4 BK2 hb; have GW2 := bg_ hg; have GE2 := GW2; have NB := bm_ hg BK1; replace BK1 := bb_ hb BK1; replace HB := bl_ hb; clear hb hg; obtain ⟨p0, p1, q0, q1⟩ := k2_ BK2))
    (repeat (simp only [ix69_0, ix69_1, ix69_2, ix69_3]; go_wp2_with (first | ((with_reducible refine gate_dst (N := 6) rfl ?_); refine bx_ 6 #[.int .i64 0, .int .i64 0] 68 ?_; intro gb2 hg w4 BK2 hb; have GW2 := bg_ hg; have GE2 := GW2; have NB := bm_ hg BK1; replace BK1 := bb_ hb BK1; replace HB := bl_ hb; clear hb hg; obtain ⟨p0, p1, q0, q1⟩ := k2_ BK2))))
    go_roundg k1
    case measure => omega
    case rel => exact ⟨1, rfl, ⟨by have := HI.out; omega⟩, ⟨⟨fun q => absurd q (by decide), fun _ => hn, fun q => absurd q (by decide), fun q => absurd q (by decide), fun q => absurd q (by decide)⟩⟩, ⟨by refine blk_far ?_ NB.out _; refine blk_far ?_ NB.out _; exact bk_⟩, ⟨bz_⟩⟩
   ·obtain ⟨k', hk'⟩ := HT.out.2.1 rfl
    have hh := insn_fits.s1 hk'
    clear hk'
    rcases hh with ⟨hb0, hf, rfl⟩ | ⟨hno, hn⟩
    ·have g1 : (Go.bits .and .i64 a1 2 == 0) = true := beq_iff_eq.mpr hb0
     have g2 : (a0_2 != 0) = true := bne_iff_ne.mpr hf
     have g3 : (a0_2 == 0) = false := beq_eq_false_iff_ne.mpr hf
     go_wp2_with (first | ((with_reducible refine gate_dst (N := 6) rfl ?_); refine bx_ 6 #[.int .i64 0, .int .i64 0] 68 ?_; intro gb2 hg w4 BK2 hb; have GW2 := bg_ hg; have GE2 := GW2; have NB := bm_ hg BK1; replace BK1 := bb_ hb BK1; replace HB := bl_ hb; clear hb hg; obtain ⟨p0, p1, q0, q1⟩ := k2_ BK2))
     (repeat (simp only [ix69_0, ix69_1, ix69_2, ix69_3]; go_wp2_with (first | ((with_reducible refine gate_dst (N := 6) rfl ?_); refine bx_ 6 #[.int .i64 0, .int .i64 0] 68 ?_; intro gb2 hg w4 BK2 hb; have GW2 := bg_ hg; have GE2 := GW2; have NB := bm_ hg BK1; replace BK1 := bb_ hb BK1; replace HB := bl_ hb; clear hb hg; obtain ⟨p0, p1, q0, q1⟩ := k2_ BK2))))
     go_ret
     exact ⟨vv_, bz_⟩
    by_cases hb0 : Go.bits .and .i64 a1 2 = 0
    ·have hf : a0_2 = 0 := Classical.byContradiction fun q => hno ⟨hb0, q⟩
     have g1 : (Go.bits .and .i64 a1 2 == 0) = true := beq_iff_eq.mpr hb0
     have g2 : (a0_2 != 0) = false := bne_eq_false_iff_eq.mpr hf
     have g3 : (a0_2 == 0) = true := beq_iff_eq.mpr hf
     clear hb0 hf
     go_wp2_with (first | ((with_reducible refine gate_dst (N := 6) rfl ?_); refine bx_ 6 #[.int .i64 0, .int .i64 0] 68 ?_; intro gb2 hg w4 BK2 hb; have GW2 := bg_ hg; have GE2 := GW2; have NB := bm_ hg BK1; replace BK1 := bb_ hb BK1; replace HB := bl_ hb; clear hb hg; obtain ⟨p0, p1, q0, q1⟩ := k2_ BK2))
     (repeat (simp only [ix69_0, ix69_1, ix69_2, ix69_3]; go_wp2_with (first | ((with_reducible refine gate_dst (N := 6) rfl ?_); refine bx_ 6 #[.int .i64 0, .int .i64 0] 68 ?_; intro gb2 hg w4 BK2 hb; have GW2 := bg_ hg; have GE2 := GW2; have NB := bm_ hg BK1; replace BK1 := bb_ hb BK1; replace HB := bl_ hb; clear hb hg; obtain ⟨p0, p1, q0, q1⟩ := k2_ BK2))))
     go_roundg k1
     case measure => omega
     case rel => exact ⟨2, rfl, ⟨by have := HI.out; omega⟩, ⟨⟨fun q => absurd q (by decide), fun q => absurd q (by decide), fun _ => hn, fun q => absurd q (by decide), fun q => absurd q (by decide)⟩⟩, ⟨by refine blk_far ?_ NB.out _; refine blk_far ?_ NB.out _; exact bk_⟩, ⟨bz_⟩⟩
    have g1 : (Go.bits .and .i64 a1 2 == 0) = false := beq_eq_false_iff_ne.mpr hb0
    clear hb0
    go_wp2_with (first | ((with_reducible refine gate_dst (N := 6) rfl ?_); refine bx_ 6 #[.int .i64 0, .int .i64 0] 68 ?_; intro gb2 hg w4 BK2 hb; have GW2 := bg_ hg; have GE2 := GW2; have NB := bm_ hg BK1; replace BK1 := bb_ hb BK1; replace HB := bl_ hb; clear hb hg; obtain ⟨p0, p1, q0, q1⟩ := k2_ BK2))
    (repeat (simp only [ix69_0, ix69_1, ix69_2, ix69_3]; go_wp2_with (first | ((with_reducible refine gate_dst (N := 6) rfl ?_); refine bx_ 6 #[.int .i64 0, .int .i64 0] 68 ?_; intro gb2 hg w4 BK2 hb; have GW2 := bg_ hg; have GE2 := GW2; have NB := bm_ hg BK1; replace BK1 := bb_ hb BK1; replace HB := bl_ hb; clear hb hg; obtain ⟨p0, p1, q0, q1⟩ := k2_ BK2))))
    go_roundg k1
    case measure => omega
    case rel => exact ⟨2, rfl, ⟨by have := HI.out; omega⟩, ⟨⟨fun q => absurd q (by decide), fun q => absurd q (by decide), fun _ => hn, fun q => absurd q (by decide), fun q => absurd q (by decide)⟩⟩, ⟨by refine blk_far ?_ NB.out _; refine blk_far ?_ NB.out _; exact bk_⟩, ⟨bz_⟩⟩
   ·obtain ⟨k', hk'⟩ := HT.out.2.2.1 rfl
    have hh := insn_fits.s2 hk'
    clear hk'
    rcases hh with ⟨hb0, hf, rfl⟩ | ⟨hno, hn⟩
    ·have g1 : (Go.bits .and .i64 a1 4 == 0) = true := beq_iff_eq.mpr hb0
     have g2 : (a0_3 != 0) = true := bne_iff_ne.mpr hf
     have g3 : (a0_3 == 0) = false := beq_eq_false_iff_ne.mpr hf
     go_wp2_with (first | ((with_reducible refine gate_dst (N := 6) rfl ?_); refine bx_ 6 #[.int .i64 0, .int .i64 0] 68 ?_; intro gb2 hg w4 BK2 hb; have GW2 := bg_ hg; have GE2 := GW2; have NB := bm_ hg BK1; replace BK1 := bb_ hb BK1; replace HB := bl_ hb; clear hb hg; obtain ⟨p0, p1, q0, q1⟩ := k2_ BK2))
     (repeat (simp only [ix69_0, ix69_1, ix69_2, ix69_3]; go_wp2_with (first | ((with_reducible refine gate_dst (N := 6) rfl ?_); refine bx_ 6 #[.int .i64 0, .int .i64 0] 68 ?_; intro gb2 hg w4 BK2 hb; have GW2 := bg_ hg; have GE2 := GW2; have NB := bm_ hg BK1; replace BK1 := bb_ hb BK1; replace HB := bl_ hb; clear hb hg; obtain ⟨p0, p1, q0, q1⟩ := k2_ BK2))))
     go_ret
     exact ⟨vv_, bz_⟩
    by_cases hb0 : Go.bits .and .i64 a1 4 = 0
    ·have hf : a0_3 = 0 := Classical.byContradiction fun q => hno ⟨hb0, q⟩
     have g1 : (Go.bits .and .i64 a1 4 == 0) = true := beq_iff_eq.mpr hb0
     have g2 : (a0_3 != 0) = false := bne_eq_false_iff_eq.mpr hf
     have g3 : (a0_3 == 0) = true := beq_iff_eq.mpr hf
     clear hb0 hf
     go_wp2_with (first | ((with_reducible refine gate_dst (N := 6) rfl ?_); refine bx_ 6 #[.int .i64 0, .int .i64 0] 68 ?_; intro gb2 hg w4 BK2 hb; have GW2 := bg_ hg; have GE2 := GW2; have NB := bm_ hg BK1; replace BK1 := bb_ hb BK1; replace HB := bl_ hb; clear hb hg; obtain ⟨p0, p1, q0, q1⟩ := k2_ BK2))
     (repeat (simp only [ix69_0, ix69_1, ix69_2, ix69_3]; go_wp2_with (first | ((with_reducible refine gate_dst (N := 6) rfl ?_); refine bx_ 6 #[.int .i64 0, .int .i64 0] 68 ?_; intro gb2 hg w4 BK2 hb; have GW2 := bg_ hg; have GE2 := GW2; have NB := bm_ hg BK1; replace BK1 := bb_ hb BK1; replace HB := bl_ hb; clear hb hg; obtain ⟨p0, p1, q0, q1⟩ := k2_ BK2))))
     go_roundg k1
     case measure => omega
     case rel => exact ⟨3, rfl, ⟨by have := HI.out; omega⟩, ⟨⟨fun q => absurd q (by decide), fun q => absurd q (by decide), fun q => absurd q (by decide), fun _ => hn, fun q => absurd q (by decide)⟩⟩, ⟨by refine blk_far ?_ NB.out _; refine blk_far ?_ NB.out _; exact bk_⟩, ⟨bz_⟩⟩
    have g1 : (Go.bits .and .i64 a1 4 == 0) = false := beq_eq_false_iff_ne.mpr hb0
    clear hb0
    go_wp2_with (first | ((with_reducible refine gate_dst (N := 6) rfl ?_); refine bx_ 6 #[.int .i64 0, .int .i64 0] 68 ?_; intro gb2 hg w4 BK2 hb; have GW2 := bg_ hg; have GE2 := GW2; have NB := bm_ hg BK1; replace BK1 := bb_ hb BK1; replace HB := bl_ hb; clear hb hg; obtain ⟨p0, p1, q0, q1⟩ := k2_ BK2))
    (repeat (simp only [ix69_0, ix69_1, ix69_2, ix69_3]; go_wp2_with (first | ((with_reducible refine gate_dst (N := 6) rfl ?_); refine bx_ 6 #[.int .i64 0, .int .i64 0] 68 ?_; intro gb2 hg w4 BK2 hb; have GW2 := bg_ hg; have GE2 := GW2; have NB := bm_ hg BK1; replace BK1 := bb_ hb BK1; replace HB := bl_ hb; clear hb hg; obtain ⟨p0, p1, q0, q1⟩ := k2_ BK2))))
    go_roundg k1
    case measure => omega
    case rel => exact ⟨3, rfl, ⟨by have := HI.out; omega⟩, ⟨⟨fun q => absurd q (by decide), fun q => absurd q (by decide), fun q => absurd q (by decide), fun _ => hn, fun q => absurd q (by decide)⟩⟩, ⟨by refine blk_far ?_ NB.out _; refine blk_far ?_ NB.out _; exact bk_⟩, ⟨bz_⟩⟩
   ·obtain ⟨k', hk'⟩ := HT.out.2.2.2.1 rfl
    have hh := insn_fits.s3 hk'
    clear hk'
    rcases hh with ⟨hb0, hf, rfl⟩ | ⟨hno, hn⟩
    ·have g1 : (Go.bits .and .i64 a1 8 == 0) = true := beq_iff_eq.mpr hb0
     have g2 : (a0_4 != 0) = true := bne_iff_ne.mpr hf
     have g3 : (a0_4 == 0) = false := beq_eq_false_iff_ne.mpr hf
     go_wp2_with (first | ((with_reducible refine gate_dst (N := 6) rfl ?_); refine bx_ 6 #[.int .i64 0, .int .i64 0] 68 ?_; intro gb2 hg w4 BK2 hb; have GW2 := bg_ hg; have GE2 := GW2; have NB := bm_ hg BK1; replace BK1 := bb_ hb BK1; replace HB := bl_ hb; clear hb hg; obtain ⟨p0, p1, q0, q1⟩ := k2_ BK2))
     (repeat (simp only [ix69_0, ix69_1, ix69_2, ix69_3]; go_wp2_with (first | ((with_reducible refine gate_dst (N := 6) rfl ?_); refine bx_ 6 #[.int .i64 0, .int .i64 0] 68 ?_; intro gb2 hg w4 BK2 hb; have GW2 := bg_ hg; have GE2 := GW2; have NB := bm_ hg BK1; replace BK1 := bb_ hb BK1; replace HB := bl_ hb; clear hb hg; obtain ⟨p0, p1, q0, q1⟩ := k2_ BK2))))
     go_ret
     exact ⟨vv_, bz_⟩
    by_cases hb0 : Go.bits .and .i64 a1 8 = 0
    ·have hf : a0_4 = 0 := Classical.byContradiction fun q => hno ⟨hb0, q⟩
     have g1 : (Go.bits .and .i64 a1 8 == 0) = true := beq_iff_eq.mpr hb0
     have g2 : (a0_4 != 0) = false := bne_eq_false_iff_eq.mpr hf
     have g3 : (a0_4 == 0) = true := beq_iff_eq.mpr hf
     clear hb0 hf
     go_wp2_with (first | ((with_reducible refine gate_dst (N := 6) rfl ?_); refine bx_ 6 #[.int .i64 0, .int .i64 0] 68 ?_; intro gb2 hg w4 BK2 hb; have GW2 := bg_ hg; have GE2 := GW2; have NB := bm_ hg BK1; replace BK1 := bb_ hb BK1; replace HB := bl_ hb; clear hb hg; obtain ⟨p0, p1, q0, q1⟩ := k2_ BK2))
     (repeat (simp only [ix69_0, ix69_1, ix69_2, ix69_3]; go_wp2_with (first | ((with_reducible refine gate_dst (N := 6) rfl ?_); refine bx_ 6 #[.int .i64 0, .int .i64 0] 68 ?_; intro gb2 hg w4 BK2 hb; have GW2 := bg_ hg; have GE2 := GW2; have NB := bm_ hg BK1; replace BK1 := bb_ hb BK1; replace HB := bl_ hb; clear hb hg; obtain ⟨p0, p1, q0, q1⟩ := k2_ BK2))))
     go_roundg k1
     case measure => omega
     case rel => exact ⟨4, rfl, ⟨by have := HI.out; omega⟩, ⟨⟨fun q => absurd q (by decide), fun q => absurd q (by decide), fun q => absurd q (by decide), fun q => absurd q (by decide), fun _ => hn⟩⟩, ⟨by refine blk_far ?_ NB.out _; refine blk_far ?_ NB.out _; exact bk_⟩, ⟨bz_⟩⟩
    have g1 : (Go.bits .and .i64 a1 8 == 0) = false := beq_eq_false_iff_ne.mpr hb0
    clear hb0
    go_wp2_with (first | ((with_reducible refine gate_dst (N := 6) rfl ?_); refine bx_ 6 #[.int .i64 0, .int .i64 0] 68 ?_; intro gb2 hg w4 BK2 hb; have GW2 := bg_ hg; have GE2 := GW2; have NB := bm_ hg BK1; replace BK1 := bb_ hb BK1; replace HB := bl_ hb; clear hb hg; obtain ⟨p0, p1, q0, q1⟩ := k2_ BK2))
    (repeat (simp only [ix69_0, ix69_1, ix69_2, ix69_3]; go_wp2_with (first | ((with_reducible refine gate_dst (N := 6) rfl ?_); refine bx_ 6 #[.int .i64 0, .int .i64 0] 68 ?_; intro gb2 hg w4 BK2 hb; have GW2 := bg_ hg; have GE2 := GW2; have NB := bm_ hg BK1; replace BK1 := bb_ hb BK1; replace HB := bl_ hb; clear hb hg; obtain ⟨p0, p1, q0, q1⟩ := k2_ BK2))))
    go_roundg k1
    case measure => omega
    case rel => exact ⟨4, rfl, ⟨by have := HI.out; omega⟩, ⟨⟨fun q => absurd q (by decide), fun q => absurd q (by decide), fun q => absurd q (by decide), fun q => absurd q (by decide), fun _ => hn⟩⟩, ⟨by refine blk_far ?_ NB.out _; refine blk_far ?_ NB.out _; exact bk_⟩, ⟨bz_⟩⟩
   obtain ⟨k', hk'⟩ := HT.out.2.2.2.2 rfl
   cases k' with
   | zero => exact absurd hk' (by simp [insn_fits.j3])
   | succ k2 =>
   rw [insn_fits.j3, if_neg (by decide)] at hk'
   have H := hk'
   clear hk'
   by_cases c20 : a0_0 = 24
   ·rw [if_pos c20] at H
    have c20b0 : (a0_0 == 24) = true := beq_iff_eq.mpr c20
    have c20b1 : (a0_0 != 24) = false := bne_eq_false_iff_eq.mpr c20
    clear c20
    by_cases c21 : a0_2 = 0
    ·rw [if_pos c21] at H
     have c21b0 : (a0_2 == 0) = true := beq_iff_eq.mpr c21
     have c21b1 : (a0_2 != 0) = false := bne_eq_false_iff_eq.mpr c21
     clear c21
     obtain rfl := Option.some.inj H
     go_wp2
     go_ret
     exact ⟨vv_, bz_⟩
    rw [if_neg c21] at H
    have c21b0 : (a0_2 == 0) = false := beq_eq_false_iff_ne.mpr c21
    have c21b1 : (a0_2 != 0) = true := bne_iff_ne.mpr c21
    by_cases c23 : a0_2 = 1
    ·rw [if_pos c23] at H
     have c23b0 : (a0_2 == 1) = true := beq_iff_eq.mpr c23
     have c23b1 : (a0_2 != 1) = false := bne_eq_false_iff_eq.mpr c23
     clear c23
     replace H := Option.bind_eq_some_iff.mp H
     obtain ⟨t117, A240, H⟩ := H
     (try dsimp only at H)
     have A24 := Aside0.mk A240
     clear A240
     obtain rfl := Option.some.inj H
     go_wp2_with (first | (go_at_call 40; (with_reducible refine (insn_within.calls a0_4 1 8 t117 _ A24.out).mono ?_); rintro e w' ⟨rfl, ⟨nd, rfl⟩⟩))
     go_ret
     exact ⟨vv_, bz_⟩
    rw [if_neg c23] at H
    have c23b0 : (a0_2 == 1) = false := beq_eq_false_iff_ne.mpr c23
    have c23b1 : (a0_2 != 1) = true := bne_iff_ne.mpr c23
    obtain rfl := Option.some.inj H
    go_wp2
    go_ret
    exact ⟨vv_, bz_⟩
   rw [if_neg c20] at H
   have c20b0 : (a0_0 == 24) = false := beq_eq_false_iff_ne.mpr c20
   have c20b1 : (a0_0 != 24) = true := bne_iff_ne.mpr c20
   by_cases c27 : (a0_0 / 16) = 13
   rotate_left
   ·rw [if_neg c27] at H
    have c27b0 : ((a0_0 / 16) == 13) = false := beq_eq_false_iff_ne.mpr c27
    have c27b1 : ((a0_0 / 16) != 13) = true := bne_iff_ne.mpr c27
    obtain rfl := Option.some.inj H
    go_wp2
    go_ret
    exact ⟨vv_, bz_⟩
   rw [if_pos c27] at H
   have c27b0 : ((a0_0 / 16) == 13) = true := beq_iff_eq.mpr c27
   have c27b1 : ((a0_0 / 16) != 13) = false := bne_eq_false_iff_eq.mpr c27
   clear c27
   by_cases c28 : (Go.bits .and .i64 a0_0 7) = 4
   rotate_left
   ·rw [if_neg c28] at H
    have c28b0 : ((Go.bits .and .i64 a0_0 7) == 4) = false := beq_eq_false_iff_ne.mpr c28
    have c28b1 : ((Go.bits .and .i64 a0_0 7) != 4) = true := bne_iff_ne.mpr c28
    obtain rfl := Option.some.inj H
    go_wp2
    go_ret
    exact ⟨vv_, bz_⟩
   rw [if_pos c28] at H
   have c28b0 : ((Go.bits .and .i64 a0_0 7) == 4) = true := beq_iff_eq.mpr c28
   have c28b1 : ((Go.bits .and .i64 a0_0 7) != 4) = false := bne_eq_false_iff_eq.mpr c28
   clear c28
   by_cases c29 : a0_4 = 16
   ·rw [if_pos c29] at H
    have c29b0 : (a0_4 == 16) = true := beq_iff_eq.mpr c29
    have c29b1 : (a0_4 != 16) = false := bne_eq_false_iff_eq.mpr c29
    clear c29
    obtain rfl := Option.some.inj H
    go_wp2
    go_ret
    exact ⟨vv_, bz_⟩
   rw [if_neg c29] at H
   have c29b0 : (a0_4 == 16) = false := beq_eq_false_iff_ne.mpr c29
   have c29b1 : (a0_4 != 16) = true := bne_iff_ne.mpr c29
   by_cases c31 : a0_4 = 32
   ·rw [if_pos c31] at H
    have c31b0 : (a0_4 == 32) = true := beq_iff_eq.mpr c31
    have c31b1 : (a0_4 != 32) = false := bne_eq_false_iff_eq.mpr c31
    clear c31
    obtain rfl := Option.some.inj H
    go_wp2
    go_ret
    exact ⟨vv_, bz_⟩
   rw [if_neg c31] at H
   have c31b0 : (a0_4 == 32) = false := beq_eq_false_iff_ne.mpr c31
   have c31b1 : (a0_4 != 32) = true := bne_iff_ne.mpr c31
   obtain rfl := Option.some.inj H
   go_wp2
   go_ret
   exact ⟨vv_, bz_⟩
end Go.Proofs.Yticijjonimiooaa.PA
