/- Layer 6: flow.Targets. -/
import Derived.Test.YtkcneaaoghgllaaC06
import Derived.Test.YtkcneaaoghgllaaPA3
import Derived.Test.YtkcneaaoghgllaaPA4
set_option linter.unusedVariables false
set_option linter.unusedSimpArgs false
set_option linter.unusedSectionVars false
namespace Go.Proofs.Ytkcneaaoghgllaa.C06
open Go.RowKit Go.Proofs.YtkcneaaoghgllaaW.PrintWords Go.Proofs.YtkcneaaoghgllaaW.PrintLast Go.Proofs.YtkcneaaoghgllaaW.PrintMore Go.Proofs.Ytkcneaaoghgllaa.PA Go.Proofs.Ytkcneaaoghgllaa.Bv
/-- no instruction. -/
def no : S42 := ⟨0, 0, 0, 0, 0⟩
/-- does an instruction jump, or may it? -/
def J (x : S42) : Bool := if Go.bits .and .i64 x.f0 7 = 5 then (if x.f0 / 16 = 8 then false else x.f0 / 16 != 9) else if Go.bits .and .i64 x.f0 7 = 6 then (if x.f0 / 16 = 8 then false else x.f0 / 16 != 9) else false
/-- is it one of the class Jmp, of that operation? -/
def isx (x : S42) (op : Int) : Bool := if Go.bits .and .i64 x.f0 7 = 5 then x.f0 / 16 == op else false
theorem jumps_f (x : S42) : flow_jumps.f x.f0 x.f1 x.f2 x.f3 x.f4 = some (J x) := by
  unfold flow_jumps.f J
  split
  · split <;> rfl
  · split
    · split <;> rfl
    · rfl
theorem is_f (x : S42) (op : Int) : flow_is.f x.f0 x.f1 x.f2 x.f3 x.f4 op = some (isx x op) := by
  unfold flow_is.f isx
  split <;> rfl
/-- the slot that an instruction's distance says. -/
def aim (l : List S42) (i : Nat) : Int := (slot l (i + 1) : Int) + (l.getD i no).f3
/-- what begins there; -1: nothing does. -/
def tgt (l : List S42) (i : Nat) : Int := if 0 ≤ aim l i ∧ aim l i < (slot l l.length : Int) then (pl 0 l).getD (aim l i).toNat 0 else -1
theorem tgt_spec (l : List S42) (i : Nat) : (∃ k, k < l.length ∧ (slot l k : Int) = aim l i ∧ tgt l i = (k : Int)) ∨ ((∀ k, k < l.length → (slot l k : Int) ≠ aim l i) ∧ tgt l i = -1) := by
  unfold tgt
  by_cases h : 0 ≤ aim l i ∧ aim l i < (slot l l.length : Int)
  · rw [if_pos h]
    obtain ⟨t, ht⟩ := Int.eq_ofNat_of_zero_le h.1
    rw [ht] at h ⊢
    rw [Int.toNat_natCast, List.getD_eq_getElem?_getD]
    rcases pl_at l 0 t (by omega) with ⟨k, hk, hs, hv⟩ | ⟨hk, hv⟩
    · left; exact ⟨k, hk, by rw [hs], by rw [hv]; simp⟩
    · right; exact ⟨fun k hk2 e => hk k hk2 (by omega), by rw [hv]; rfl⟩
  · rw [if_neg h]
    right
    refine ⟨fun k hk e => h ?_, rfl⟩
    have := slot_lt l hk
    omega
/-- where an instruction jumps to (-1: it does not). -/
def tt (l : List S42) (i : Nat) : Int := if J (l.getD i no) = true then tgt l i else -1
/-- does it jump to where nothing begins? -/
def bad (l : List S42) (i : Nat) : Bool := J (l.getD i no) && decide (tgt l i < 0)
/-- does the program end? -/
def ends (l : List S42) : Bool := isx (l.getD (l.length - 1) no) 9 || isx (l.getD (l.length - 1) no) 0
/-- what flow.Targets tells. -/
def tg (l : List S42) : List Int × Int := if l.length = 0 then ([], 2) else if 256 < l.length then ([], 9) else if (List.range' 0 l.length).any (bad l) = true then ([], 7) else if ends l = true then ((List.range l.length).map (tt l), 0) else ([], 8)
def offs (l : List S42) : Prop := ∀ x, x ∈ l → -32768 ≤ x.f3 ∧ x.f3 ≤ 32767
theorem getD_get (l : List S42) (i : Nat) (h : i < l.length) : l.getD i no = l[i] := by rw [List.getD_eq_getElem?_getD, List.getElem?_eq_getElem h]; rfl
theorem targets_l (l : List S42) (hl : l.length ≤ 256) (h1 : 0 < l.length) (ho : offs l) (d : Nat) : ∀ (k i : Nat) (x6 : Int), i + d = l.length → x6 = (slot l i : Int) → 2 * d < k →
    flow_Targets.l0 k l (pl 0 l) ((List.range i).map (tt l)) x6 l (l.length : Int) (i : Int) = some (if (List.range' i d).any (bad l) = true then ([], 7) else if ends l = true then ((List.range l.length).map (tt l), 0) else ([], 8)) := by
  induction d with
  | zero =>
    intro k i x6 hi hx hk
    obtain ⟨k, rfl⟩ : ∃ m, k = m + 1 := ⟨k - 1, by omega⟩
    have e : wrap64 ((l.length : Int) - 1) = ((l.length - 1 : Nat) : Int) := by unfold wrap64; omega
    obtain rfl : i = l.length := by omega
    rw [flow_Targets.l0, e, rdT l (l.length - 1) (by omega), List.range'_zero, List.any_nil]
    refine ife (by omega) (ift (by omega) (ift (by omega) (bs (is_f _ 9) ?_)))
    rw [if_neg nt, ends, getD_get l _ (by omega)]
    by_cases h9 : isx (l[l.length - 1]) 9 = true
    · rw [h9]; exact ift rfl (by rw [Bool.true_or, if_pos rfl])
    · refine ife h9 (bs (is_f _ 0) ?_)
      rw [Bool.eq_false_iff.mpr h9, Bool.false_or]
      by_cases h0 : isx (l[l.length - 1]) 0 = true
      · refine ift h0 (by rw [if_pos h0])
      · refine ife h0 (by rw [if_neg h0])
  | succ d ih =>
    intro k i x6 hi hx hk
    obtain ⟨k, rfl⟩ : ∃ m, k = m + 2 := ⟨k - 2, by omega⟩
    subst hx
    have hlt : i < l.length := by omega
    have hs := slot_succ l i hlt
    have hb := slot_le l (i + 1)
    have e : wrap64 ((slot l i : Int) + (sz l[i] : Int)) = (slot l (i + 1) : Int) := by unfold wrap64; omega
    have hof := ho l[i] (List.getElem_mem hlt)
    have e2 : wrap64 ((slot l (i + 1) : Int) + l[i].f3) = aim l i := by unfold aim; rw [getD_get l i hlt]; unfold wrap64; omega
    have ea : (List.range i).map (tt l) ++ [tt l i] = (List.range (i + 1)).map (tt l) := by rw [List.range_succ, List.map_append]; rfl
    have hlen : ((List.range i).map (tt l)).length = i := by simp
    rw [flow_Targets.l0, rdT l i hlt, List.range'_succ, List.any_cons]
    refine ift (by omega) (ift (by omega) (ift (by omega) (bs (size_f _) (bs (jumps_f _) ?_))))
    rw [e, e2, w64u (by omega), pl_len]
    by_cases hj : J l[i] = true
    · refine ift hj ?_
      have ht : tt l i = tgt l i := by unfold tt; rw [getD_get l i hlt, if_pos hj]
      have hbd : bad l i = decide (tgt l i < 0) := by unfold bad; rw [getD_get l i hlt, hj, Bool.true_and]
      rw [hbd]
      by_cases hin : 0 ≤ aim l i ∧ aim l i < (slot l l.length : Int)
      · have hv : rd (pl 0 l) (aim l i) = tgt l i := by unfold tgt rd; rw [if_pos hin]
        refine ift hin.1 ?_
        rw [flow_Targets.j1, decide_eq_true hin.2, hv, pl_len]
        refine ift rfl (ift hin.1 (ift hin.2 ?_))
        by_cases hn : tgt l i < 0
        · refine ift hn ?_
          rw [decide_eq_true hn, Bool.true_or, if_pos rfl]
        · refine ife hn (ift (by omega) ?_)
          rw [decide_eq_false hn, Bool.false_or, ← ht, ea, w64u (by omega)]
          exact ih k (i + 1) _ (by omega) rfl (by omega)
      · have hv : tgt l i = -1 := by unfold tgt; rw [if_neg hin]
        rw [hv, show decide ((-1 : Int) < 0) = true from rfl, Bool.true_or, if_pos rfl]
        have hf : ∀ q : Bool, q = false → flow_Targets.j1 (k + 1) l (pl 0 l) ((List.range i).map (tt l)) (slot l (i + 1) : Int) (-1) (aim l i) l (l.length : Int) (i : Int) q = some (([], 7) : List Int × Int) := by
          intro q hq
          subst hq
          rw [flow_Targets.j1]
          exact ife nt (ift (by decide) rfl)
        by_cases h0 : aim l i ≥ 0
        · exact ift h0 (hf _ (decide_eq_false (fun q => hin ⟨h0, q⟩)))
        · exact ife h0 (hf _ rfl)
    · have hj := Bool.eq_false_iff.mpr hj
      rw [hj]
      refine ife nt (ift (by omega) ?_)
      have ht : tt l i = -1 := by unfold tt; rw [getD_get l i hlt, hj, if_neg nt]
      have hbd : bad l i = false := by unfold bad; rw [getD_get l i hlt, hj, Bool.false_and]
      rw [hbd, Bool.false_or, ← ht, ea]
      exact ih (k + 1) (i + 1) _ (by omega) rfl (by omega)
theorem targets_f (k : Nat) (l : List S42) (hk : 2000 ≤ k) (ho : offs l) : flow_Targets.f k l = some (tg l) := by
  unfold flow_Targets.f tg
  by_cases h0 : l.length = 0
  · rw [if_pos h0]; exact ift (by omega) rfl
  · rw [if_neg h0]
    refine ife (by omega) ?_
    by_cases h1 : 256 < l.length
    · rw [if_pos h1]; exact ift (by omega) rfl
    · rw [if_neg h1]
      refine ife (by omega) (bs (places_f k l (by omega) (by omega)) ?_)
      exact targets_l l (by omega) (by omega) ho l.length k 0 0 (by omega) rfl (by omega)
end Go.Proofs.Ytkcneaaoghgllaa.C06
