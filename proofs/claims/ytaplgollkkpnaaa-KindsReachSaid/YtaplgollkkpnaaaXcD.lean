/- The executor is sound: a region that draws its order, in any order. -/
import Derived.Test.YtaplgollkkpnaaaXcA
namespace Go.Proofs.Ytaplgollkkpnaaa.Xc
open Go Go.RowKit
set_option linter.unusedVariables false
set_option linter.unnecessarySimpa false
set_option linter.unusedSimpArgs false
section
variable {P : Program} {ops : Array Oper} {l : List Oper} {Bs : List Nat} {lg : List (Nat × Nat × Bool)} {st : Nat → St} {v : Nat → AV} {ef : Nat → Ef} {B : World} {L : Nat → Prop} {g : Nat → Nat} {a : Act} {w : World}
/-- The boxes that are there: those of before, those that listed operations made. -/
def There (st : Nat → St) (ef : Nat → Ef) (L : Nat → Prop) (b : Nat) : Prop := b < (st 0).m.length ∨ ∃ j c, L j ∧ ef j = .new c ∧ b = (st j).m.length
theorem There.mono {L L' : Nat → Prop} (h : ∀ i, L i → L' i) {b : Nat} (hb : There st ef L b) : There st ef L' b := by
  rcases hb with hb | ⟨j, c, hj, r⟩
  · exact Or.inl hb
  · exact Or.inr ⟨j, c, h j hj, r⟩
/-- Of the stores in a box just those ahead of place k have come up. -/
def Mt (l : List Oper) (ef : Nat → Ef) (L : Nat → Prop) (b k : Nat) : Prop := ∀ j c, j < l.length → ef j = .set b c → (L j ↔ j < k)
/-- In the midst of a region: some operations have come up. -/
structure Inv (B : World) (l : List Oper) (st : Nat → St) (v : Nat → AV) (ef : Nat → Ef) (L : Nat → Prop) (g : Nat → Nat) (a : Act) (w : World) : Prop where
  sz : a.tmps.size = (st 0).t.length
  df : a.defers = []
  wr : ∀ (j : Nat) (o : Oper) (d : Tmp), L j → l[j]? = some o → o.dst = some d → d < (st 0).t.length → a.tmps[d]? = some ((v j).conc g)
  kp : ∀ (d : Tmp) (y : AV), (st 0).t[d]? = some y → y ≠ AV.any → (∀ (j : Nat) (o : Oper), L j → l[j]? = some o → o.dst ≠ some d) → a.tmps[d]? = some (y.conc g)
  vo : ∀ j, L j → (v j).ok (There st ef L)
  row : ∀ b, There st ef L b → ∀ k, k ≤ l.length → Mt l ef L b k → ∀ c, (st k).m[b]? = some c → (∃ ty, w.heap[g b]? = some (boxObj g c ty)) ∧ ∀ z ∈ c, z.ok (There st ef L)
  hp : ∀ b, There st ef L b → g b < w.heap.size
  sb : ∀ j c b, L j → ef j = .set b c → There st ef L b
  ij : ∀ b b', There st ef L b → There st ef L b' → g b = g b' → b = b'
  lo : ∀ b, There st ef L b → B.heap.size ≤ g b
  be : Below B.heap.size B w
  iv : I B
theorem Inv.here (h : Inv B l st v ef L g a w) : I w := h.iv.below h.be
def Ins (L : Nat → Prop) (i j : Nat) : Prop := j = i ∨ L j
theorem put_slot {i : Nat} {o : Oper} (h : Inv B l st v ef L g a w) (ho : l[i]? = some o) (hi : ¬ L i) (hd : ∀ (j : Nat) (o' : Oper) (d : Tmp), l[j]? = some o' → o.dst = some d → o'.dst = some d → i = j) (u : Value) :
    (a.put o.dst u).tmps.size = (st 0).t.length ∧ (a.put o.dst u).defers = [] ∧ (∀ d : Tmp, o.dst = some d → d < (st 0).t.length → (a.put o.dst u).tmps[d]? = some u) ∧ (∀ d : Tmp, o.dst ≠ some d → (a.put o.dst u).tmps[d]? = a.tmps[d]?) := by
  refine ⟨?_, ?_, fun d hd' hlt => ?_, fun d hne => ?_⟩
  · cases o.dst with
    | none => exact h.sz
    | some d => simp only [Act.put, Array.size_setIfInBounds]; exact h.sz
  · cases o.dst <;> exact h.df
  · rw [hd']
    simp only [Act.put]
    rw [Array.getElem?_setIfInBounds_self, if_pos (by rw [h.sz]; exact hlt)]
  · cases hq : o.dst with
    | none => rfl
    | some d2 =>
      simp only [Act.put]
      rw [Array.getElem?_setIfInBounds_ne (fun e => hne (by rw [hq, e]))]
/-- A value comes up; the boxes are as they were. -/
theorem Inv.put {w' : World} (h : Inv B l st v ef L g a w) {i : Nat} {o : Oper} (ho : l[i]? = some o) (hi : ¬ L i) (hn : ef i = .no) (hb : Below w.heap.size w w')
    (hd : ∀ (j : Nat) (o' : Oper) (d : Tmp), l[j]? = some o' → o.dst = some d → o'.dst = some d → i = j) (hv : (v i).ok (There st ef L)) : Inv B l st v ef (Ins L i) g (a.put o.dst ((v i).conc g)) w' := by
  have ht : ∀ b, There st ef (Ins L i) b → There st ef L b := by
    rintro b (hb | ⟨j, c, hj, hc, e⟩)
    · exact Or.inl hb
    · rcases hj with rfl | hj
      · rw [hn] at hc; cases hc
      · exact Or.inr ⟨j, c, hj, hc, e⟩
  have hm : ∀ j, L j → Ins L i j := fun j hj => Or.inr hj
  obtain ⟨p1, p2, p3, p4⟩ := put_slot h ho hi hd ((v i).conc g)
  refine ⟨p1, p2, ?_, ?_, ?_, ?_, fun b h1 => Nat.lt_of_lt_of_le (h.hp b (ht b h1)) hb.size, ?_, fun b b' h1 h2 => h.ij b b' (ht b h1) (ht b' h2), fun b h1 => h.lo b (ht b h1), h.be.trans (hb.mono h.be.size), h.iv⟩
  · intro j o' d hj ho' hd' hlt
    rcases hj with rfl | hj
    · rw [ho] at ho'; cases ho'
      exact p3 d hd' hlt
    · rw [p4 d (fun e => hi (by rw [hd j o' d ho' e hd']; exact hj))]
      exact h.wr j o' d hj ho' hd' hlt
  · intro d y hy hk hnw
    rw [p4 d (hnw i o (Or.inl rfl) ho)]
    exact h.kp d y hy hk (fun j o' hj => hnw j o' (Or.inr hj))
  · intro j hj
    rcases hj with rfl | hj
    · exact ok_mono (fun b hb => There.mono hm hb) _ hv
    · exact ok_mono (fun b hb => There.mono hm hb) _ (h.vo j hj)
  · intro b h1 k hk hmt c hc
    obtain ⟨⟨ty, h2⟩, h3⟩ := h.row b (ht b h1) k hk (fun j c hj hjc => by
      have := hmt j c hj hjc
      constructor
      · intro hL; exact this.1 (Or.inr hL)
      · intro hlt
        rcases this.2 hlt with rfl | h4
        · rw [hn] at hjc; cases hjc
        · exact h4) c hc
    exact ⟨⟨ty, (hb.block _ (h.hp b (ht b h1))).trans h2⟩, fun z hz => ok_mono (fun b hb => There.mono hm hb) z (h3 z hz)⟩
  · intro j c b hj hjc
    rcases hj with rfl | hj
    · rw [hn] at hjc; cases hjc
    · exact There.mono hm (h.sb j c b hj hjc)
/-- A box comes up. -/
theorem Inv.box {w' : World} (hs : Steps1 P ops l st v ef) (h : Inv B l st v ef L g a w) (hs0 : ∀ x ∈ (st 0).t, x.ok (· < (st 0).m.length)) {i : Nat} {o : Oper} (ho : l[i]? = some o) (hi : ¬ L i) {c : List AV} (hn : ef i = .new c) (hvk : ∀ S' : Nat → Prop, S' (st i).m.length → (v i).ok S') (hfr : ¬ There st ef L (st i).m.length)
    (hd : ∀ (j : Nat) (o' : Oper) (d : Tmp), l[j]? = some o' → o.dst = some d → o'.dst = some d → i = j) (hc : ∀ z ∈ c, z.ok (There st ef L)) (ty : TypeId) {nb : Nat} (hb : Below w.heap.size w w') (hnb : w.heap.size ≤ nb) (hob : w'.heap[nb]? = some (boxObj g c ty)) {val : Value} (hval : ∀ g' : Nat → Nat, g' (st i).m.length = nb → (v i).conc g' = val) :
    ∃ g', Inv B l st v ef (Ins L i) g' (a.put o.dst val) w' ∧ ∀ b, b < (st 0).m.length → g b = g' b := by
  let g' : Nat → Nat := fun b => if b = (st i).m.length then nb else g b
  have hil := (List.getElem?_eq_some_iff.1 ho).1
  have hgg : ∀ b, There st ef L b → g b = g' b := fun b hb => by
    show g b = if b = (st i).m.length then nb else g b
    rw [if_neg (fun e => hfr (by rw [← e]; exact hb))]
  have hgi : g' (st i).m.length = nb := if_pos rfl
  have hnlt : nb < w'.heap.size := (Array.getElem?_eq_some_iff.1 hob).1
  have hcc : ∀ x : AV, x.ok (There st ef L) → x.conc g = x.conc g' := fun x hx => conc_congr hgg x hx
  have hcl : ∀ ys : List AV, (∀ z ∈ ys, z.ok (There st ef L)) → ys.map (AV.conc g') = ys.map (AV.conc g) := fun ys hy => (List.map_congr_left fun x hx => hcc x (hy x hx)).symm
  have ht : ∀ b, There st ef (Ins L i) b → b = (st i).m.length ∨ There st ef L b := by
    rintro b (hb | ⟨j, c', hj, hc', e⟩)
    · exact Or.inr (Or.inl hb)
    · rcases hj with rfl | hj
      · exact Or.inl e
      · exact Or.inr (Or.inr ⟨j, c', hj, hc', e⟩)
  have hm : ∀ j, L j → Ins L i j := fun j hj => Or.inr hj
  have h0 : ∀ x : AV, x.ok (· < (st 0).m.length) → x.ok (There st ef L) := fun x hx => ok_mono (fun b hb => Or.inl hb) x hx
  have hw : ∀ b, There st ef L b → w'.heap[g b]? = w.heap[g b]? := fun b hb' => hb.block _ (h.hp b hb')
  have hmt : ∀ b k, Mt l ef (Ins L i) b k → Mt l ef L b k := fun b k hmt j c hj hjc => by
    have := hmt j c hj hjc
    constructor
    · intro hL; exact this.1 (Or.inr hL)
    · intro hlt
      rcases this.2 hlt with rfl | h4
      · rw [hn] at hjc; cases hjc
      · exact h4
  obtain ⟨p1, p2, p3, p4⟩ := put_slot h ho hi hd val
  refine ⟨g', ⟨p1, p2, ?_, ?_, ?_, ?_, ?_, ?_, ?_, ?_, h.be.trans (hb.mono h.be.size), h.iv⟩, fun b hb => hgg b (Or.inl hb)⟩
  · intro j o' d hj ho' hd' hlt
    rcases hj with rfl | hj
    · rw [ho] at ho'; cases ho'
      rw [p3 d hd' hlt, hval g' hgi]
    · rw [p4 d (fun e => hi (by rw [hd j o' d ho' e hd']; exact hj)), ← hcc _ (h.vo j hj)]
      exact h.wr j o' d hj ho' hd' hlt
  · intro d y hy hk hnw
    rw [p4 d (hnw i o (Or.inl rfl) ho), h.kp d y hy hk (fun j o' hj => hnw j o' (Or.inr hj)), hcc y (h0 y (hs0 y (List.mem_of_getElem? hy)))]
  · intro j hj
    rcases hj with rfl | hj
    · exact hvk _ (Or.inr ⟨j, c, Or.inl rfl, hn, rfl⟩)
    · exact ok_mono (fun b hb => There.mono hm hb) _ (h.vo j hj)
  · intro b h1 k hk hmk c' hc'
    rcases ht b h1 with rfl | h1
    · have hik : i < k := by
        apply Classical.byContradiction
        intro hki
        have h2 := st_m_mono hs i (by omega) k (by omega)
        have h3 := (List.getElem?_eq_some_iff.1 hc').1
        omega
      have hsi : (st (i + 1)).m = (st i).m ++ [c] := by rw [(hs i o ho).1, hn]; rfl
      have hlt : (st i).m.length < (st (i + 1)).m.length := by rw [hsi]; simp
      have hsame := st_same hs (b := (st i).m.length) k hk (i + 1) hik hlt (fun j c2 hj1 hj2 hjc => by
        have hL : Ins L i j := (hmk j c2 (by omega) hjc).2 hj2
        rcases hL with rfl | hL
        · omega
        · exact hfr (h.sb j c2 _ hL hjc))
      rw [hsame, hsi, List.getElem?_append_right (Nat.le_refl _), Nat.sub_self] at hc'
      simp only [List.getElem?_cons_zero, Option.some.injEq] at hc'
      subst hc'
      refine ⟨⟨ty, ?_⟩, fun z hz => ok_mono (fun b hb => There.mono hm hb) z (hc z hz)⟩
      rw [hgi, boxObj_congr (hcl c hc) ty]
      exact hob
    · obtain ⟨⟨ty', h2⟩, h3⟩ := h.row b h1 k hk (hmt b k hmk) c' hc'
      refine ⟨⟨ty', ?_⟩, fun z hz => ok_mono (fun b hb => There.mono hm hb) z (h3 z hz)⟩
      rw [← hgg b h1, hw b h1, boxObj_congr (hcl c' h3) ty']
      exact h2
  · intro b h1
    rcases ht b h1 with rfl | h1
    · rw [hgi]; exact hnlt
    · rw [← hgg b h1]; have := h.hp b h1; have := hb.size; omega
  · intro j c' b hj hjc
    rcases hj with rfl | hj
    · rw [hn] at hjc; cases hjc
    · exact There.mono hm (h.sb j c' b hj hjc)
  · intro b b' h1 h2 e
    rcases ht b h1 with rfl | h1
    · rcases ht b' h2 with rfl | h2
      · rfl
      · rw [hgi, ← hgg b' h2] at e
        have := h.hp b' h2; omega
    · rcases ht b' h2 with rfl | h2
      · rw [hgi, ← hgg b h1] at e
        have := h.hp b h1; omega
      · rw [← hgg b h1, ← hgg b' h2] at e
        exact h.ij b b' h1 h2 e
  · intro b h1
    rcases ht b h1 with rfl | h1
    · rw [hgi]; exact Nat.le_trans h.be.size hnb
    · rw [← hgg b h1]; exact h.lo b h1
/-- A store comes up. -/
theorem Inv.store {w' : World} (hs : Steps1 P ops l st v ef) (h : Inv B l st v ef L g a w) {i : Nat} {o : Oper} (ho : l[i]? = some o) (hi : ¬ L i) {b0 : Nat} {c : List AV} (hn : ef i = .set b0 c) (hvi : v i = .v undef) (hb0 : There st ef L b0) (hbl : b0 < (st i).m.length)
    (hmt : ∀ j c', j < l.length → ef j = .set b0 c' → (L j ↔ j < i)) {ty : TypeId} (hset : Set1 w w' (g b0) (boxObj g c ty))
    (hd : ∀ (j : Nat) (o' : Oper) (d : Tmp), l[j]? = some o' → o.dst = some d → o'.dst = some d → i = j) (hc : ∀ z ∈ c, z.ok (There st ef L)) :
    Inv B l st v ef (Ins L i) g (a.put o.dst undef) w' := by
  have hil := (List.getElem?_eq_some_iff.1 ho).1
  have ht : ∀ b, There st ef (Ins L i) b → There st ef L b := by
    rintro b (hb | ⟨j, c, hj, hc, e⟩)
    · exact Or.inl hb
    · rcases hj with rfl | hj
      · rw [hn] at hc; cases hc
      · exact Or.inr ⟨j, c, hj, hc, e⟩
  have hm : ∀ j, L j → Ins L i j := fun j hj => Or.inr hj
  obtain ⟨p1, p2, p3, p4⟩ := put_slot h ho hi hd undef
  refine ⟨p1, p2, ?_, ?_, ?_, ?_, fun b h1 => by rw [hset.size]; exact h.hp b (ht b h1), ?_, fun b b' h1 h2 => h.ij b b' (ht b h1) (ht b' h2), fun b h1 => h.lo b (ht b h1), ?_, h.iv⟩
  · intro j o' d hj ho' hd' hlt
    rcases hj with rfl | hj
    · rw [ho] at ho'; cases ho'
      rw [p3 d hd' hlt, hvi]; rfl
    · rw [p4 d (fun e => hi (by rw [hd j o' d ho' e hd']; exact hj))]
      exact h.wr j o' d hj ho' hd' hlt
  · intro d y hy hk hnw
    rw [p4 d (hnw i o (Or.inl rfl) ho)]
    exact h.kp d y hy hk (fun j o' hj => hnw j o' (Or.inr hj))
  · intro j hj
    rcases hj with rfl | hj
    · rw [hvi]; trivial
    · exact ok_mono (fun b hb => There.mono hm hb) _ (h.vo j hj)
  · intro b h1 k hk hmk c' hc'
    have h1 := ht b h1
    by_cases hbb : b = b0
    · subst hbb
      have hik : i < k := (hmk i c hil hn).1 (Or.inl rfl)
      have hsi : (st (i + 1)).m = (st i).m.set b c := by rw [(hs i o ho).1, hn]; rfl
      have hsame := st_same hs (b := b) k hk (i + 1) hik (by rw [hsi, List.length_set]; exact hbl) (fun j c2 hj1 hj2 hjc => by
        have hL : Ins L i j := (hmk j c2 (by omega) hjc).2 hj2
        rcases hL with rfl | hL
        · omega
        · have := (hmt j c2 (by omega) hjc).1 hL; omega)
      rw [hsame, hsi, List.getElem?_set_self hbl] at hc'
      cases hc'
      exact ⟨⟨ty, hset.here⟩, fun z hz => ok_mono (fun b hb => There.mono hm hb) z (hc z hz)⟩
    · obtain ⟨⟨ty', h2⟩, h3⟩ := h.row b h1 k hk (fun j c2 hj hjc => by
        have := hmk j c2 hj hjc
        constructor
        · intro hL; exact this.1 (Or.inr hL)
        · intro hlt
          rcases this.2 hlt with rfl | h4
          · rw [hn] at hjc; cases hjc; exact absurd rfl hbb
          · exact h4) c' hc'
      refine ⟨⟨ty', ?_⟩, fun z hz => ok_mono (fun b hb => There.mono hm hb) z (h3 z hz)⟩
      rw [hset.other _ (fun e => hbb (h.ij b b0 h1 hb0 e))]
      exact h2
  · intro j c' b hj hjc
    rcases hj with rfl | hj
    · rw [hn] at hjc; cases hjc; exact There.mono hm hb0
    · exact There.mono hm (h.sb j c' b hj hjc)
  · refine h.be.trans ⟨hset.os, hset.tape, hset.output, by rw [hset.size]; exact Nat.le_refl _, fun k hk => hset.other _ (fun e => ?_)⟩
    have := h.lo b0 hb0; omega
/-- What holds of a region whatever has come up. -/
structure Reg (P : Program) (ops : Array Oper) (l : List Oper) (Bs : List Nat) (lg : List (Nat × Nat × Bool)) (st : Nat → St) (v : Nat → AV) (ef : Nat → Ef) : Prop where
  fl : l = ops.toList
  steps : Steps1 P ops l st v ef
  wt : waits l Bs = true
  ap : apartB ops l Bs = true
  ac : accOk Bs lg = true
  lgs : ∀ i o, l[i]? = some o → ∀ q ∈ logOf o (st i).t i (ef i), q ∈ lg
  so : ∀ x ∈ (st 0).t, x.ok (· < (st 0).m.length)
  mo : MOk (· < (st 0).m.length) (st 0).m
def Closed (l : List Oper) (L : Nat → Prop) : Prop := ∀ (i : Nat) (o : Oper), L i → l[i]? = some o → ∀ e ∈ needs o, L e
theorem Reg.dst (hR : Reg P ops l Bs lg st v ef) (i j : Nat) (o o' : Oper) (d : Tmp) (hi : l[i]? = some o) (hj : l[j]? = some o') (h1 : o.dst = some d) (h2 : o'.dst = some d) : i = j := apart_dst hR.ap hi hj h1 h2
/-- Who reads or writes a box that is written: it has its place among the stores. -/
theorem Reg.place (hR : Reg P ops l Bs lg st v ef) (hc : Closed l L) {i : Nat} {o : Oper} (ho : l[i]? = some o) (hi : ¬ L i) (hn : ∀ e ∈ needs o, L e) {b : Nat} (hb : (i, b, false) ∈ lg ∨ (i, b, true) ∈ lg) : Mt l ef L b i := by
  intro j c hj hjc
  have hoj : l[j]? = some l[j] := List.getElem?_eq_getElem hj
  have hjl : (j, b, true) ∈ lg := hR.lgs j l[j] hoj _ (by rw [hjc]; simp [logOf])
  have hil := (List.getElem?_eq_some_iff.1 ho).1
  by_cases hij : j = i
  · subst hij
    exact ⟨fun h => absurd h hi, fun h => absurd h (Nat.lt_irrefl _)⟩
  · have hord : ordB Bs i j = true := by
      rcases hb with hb | hb
      · rcases accOk_pair hR.ac _ hb _ hjl rfl (Or.inr rfl) with h | h
        · exact h
        · exact ordB_comm h
      · rcases accOk_pair hR.ac _ hb _ hjl rfl (Or.inr rfl) with h | h
        · exact h
        · exact ordB_comm h
    rcases ord_bit hord (fun e => hij e.symm) hR.wt hj hil with ⟨hlt, h⟩ | ⟨hlt, h⟩
    · exact ⟨fun _ => hlt, fun _ => wait_listed hR.wt hc (i + 1) i (by omega) j o ho hn h⟩
    · refine ⟨fun hL => absurd (wait_listed hR.wt hc (j + 1) j (by omega) i l[j] hoj (hc j l[j] hL hoj) h) hi, fun h => by omega⟩
theorem slot_agree (hR : Reg P ops l Bs lg st v ef) (hc : Closed l L) (h : Inv B l st v ef L g a w) {i : Nat} {o : Oper} (ho : l[i]? = some o) (hi : ¬ L i) (hn : ∀ e ∈ needs o, L e) {d : Tmp} (hd : d ∈ o.looksAt ops) {y : AV} (hy : (st i).t[d]? = some y) (hk : y ≠ AV.any) :
    a.tmps[d]? = some (y.conc g) ∧ y.ok (There st ef L) := by
  have hil : i < l.length := (List.getElem?_eq_some_iff.1 ho).1
  have hdl : d < (st 0).t.length := by
    rw [← st_len hR.steps i (by omega)]; exact (List.getElem?_eq_some_iff.1 hy).1
  have entry : (∀ (j : Nat) (o' : Oper), j < i → l[j]? = some o' → o'.dst ≠ some d) → (∀ (j : Nat) (o' : Oper), L j → l[j]? = some o' → o'.dst ≠ some d) → a.tmps[d]? = some (y.conc g) ∧ y.ok (There st ef L) := by
    intro h1 h2
    have e1 := st_kept hR.steps i (by omega) d h1
    rw [hy] at e1
    have e2 := h.kp d y e1.symm hk h2
    exact ⟨e2, ok_mono (fun b hb => Or.inl hb) y (hR.so y (List.mem_of_getElem? e1.symm))⟩
  by_cases hw : ∃ (j : Nat) (o' : Oper), l[j]? = some o' ∧ o'.dst = some d
  · obtain ⟨j, o', hj, hd'⟩ := hw
    rcases apart_read hR.ap ho hj hd hd' with rfl | ⟨hlt, hb⟩ | ⟨hlt, hb⟩
    · refine entry (fun j' o2 hj' ho2 e => ?_) (fun j' o2 hj' ho2 e => ?_)
      · have := hR.dst j' i o2 o' d ho2 hj e hd'; omega
      · have := hR.dst j' i o2 o' d ho2 hj e hd'; subst this; exact hi hj'
    · have hLj : L j := wait_listed hR.wt hc (i + 1) i (by omega) j o ho hn hb
      have e1 := st_wrote hR.steps hR.dst i (by omega) j o' d hlt hj hd' hdl
      rw [hy] at e1
      cases e1
      exact ⟨h.wr j o' d hLj hj hd' hdl, h.vo j hLj⟩
    · have hLj : ¬ L j := fun hL => hi (wait_listed hR.wt hc (j + 1) j (by omega) i o' hj (hc j o' hL hj) hb)
      refine entry (fun j' o2 hj' ho2 e => ?_) (fun j' o2 hj' ho2 e => ?_)
      · have := hR.dst j' j o2 o' d ho2 hj e hd'; omega
      · have := hR.dst j' j o2 o' d ho2 hj e hd'; subst this; exact hLj hj'
  · exact entry (fun j o' _ ho' e => hw ⟨j, o', ho', e⟩) (fun j o' _ ho' e => hw ⟨j, o', ho', e⟩)
theorem looks_op {o : Oper} {d : Tmp} (h : Operand.tmp d ∈ o.op.operands) : d ∈ o.looksAt ops :=
  List.mem_append_left _ (List.mem_filterMap.2 ⟨.tmp d, by simpa using h, rfl⟩)
theorem looks_guard {o : Oper} {d j : Nat} {want : Bool} (h : o.guard = some (j, want)) (hd : (ops[j]?).bind (·.dst) = some d) : d ∈ o.looksAt ops := by
  unfold Oper.looksAt
  refine List.mem_append_right _ ?_
  rw [h]; simp only [hd]; simp
theorem ops_agree (hR : Reg P ops l Bs lg st v ef) (hc : Closed l L) (h : Inv B l st v ef L g a w) {i : Nat} {o : Oper} (ho : l[i]? = some o) (hi : ¬ L i) (hn : ∀ e ∈ needs o, L e) : Ops1 o (st i).t a g (There st ef L) := by
  intro x hx y hy
  cases x with
  | tmp d =>
    obtain ⟨e1, e2⟩ := slot_agree hR hc h ho hi hn (looks_op hx) (ev_tmp hy).1 (ev_tmp hy).2
    refine ⟨?_, e2⟩
    simp only [Act.eval]
    rw [Array.getD_eq_getD_getElem?, e1]; rfl
  | const u => simp only [ev, Option.some.injEq] at hy; subst hy; exact ⟨rfl, trivial⟩
  | func f => simp only [ev, Option.some.injEq] at hy; subst hy; exact ⟨rfl, fun q hq => by cases hq⟩
  | global n => simp only [ev, Option.some.injEq] at hy; subst hy; exact ⟨rfl, trivial⟩
/-- One operation comes up in the midst of the region. -/
theorem mid_sound (hR : Reg P ops l Bs lg st v ef) (hc : Closed l L) (hLl : ∀ i, L i → i < l.length) (h : Inv B l st v ef L g a w) {i : Nat} {o : Oper} (ho : l[i]? = some o) (hi : ¬ L i) (hn : ∀ e ∈ needs o, L e) {K : Act → World → Prop} {Q : Exit → Act → World → Prop}
    (hK : ∀ g' a' w', Inv B l st v ef (Ins L i) g' a' w' → (∀ b, b < (st 0).m.length → g b = g' b) → K a' w') : wpOp P ops Q i K a w := by
  have hO := ops_agree hR hc h ho hi hn
  have hil : i < l.length := (List.getElem?_eq_some_iff.1 ho).1
  have hoo : ops[i]? = some o := by
    have := ho
    rw [hR.fl] at this
    simpa using this
  obtain ⟨_, hF⟩ := hR.steps i o ho
  have hga : ∀ (d : Nat) (y : AV), (st i).t[d]? = some y → y ≠ AV.any → (∃ j want, o.guard = some (j, want) ∧ (ops[j]?).bind (·.dst) = some d) → ∃ g, a.tmps[d]? = some (y.conc g) := by
    rintro d y hd hk ⟨j, want, hg, hb⟩
    exact ⟨g, (slot_agree hR hc h ho hi hn (looks_guard hg hb) hd hk).1⟩
  have hdd : ∀ (j : Nat) (o' : Oper) (d : Tmp), l[j]? = some o' → o.dst = some d → o'.dst = some d → i = j := fun j o' d hj h1 h2 => hR.dst i j o o' d ho hj h1 h2
  have hlog : ef i = .no → ∀ b, access o (st i).t = some b → (i, b, false) ∈ lg := fun he b hb => hR.lgs i o ho _ (by rw [he]; simp [logOf, hb])
  have hrd : ef i = .no → ∀ b, access o (st i).t = some b → ∀ c, (st i).m[b]? = some c → (∃ ty, w.heap[g b]? = some (boxObj g c ty)) ∧ ∀ z ∈ c, z.ok (There st ef L) := fun he b hb c hcc =>
    h.row b (access_there hb hO) i (by omega) (hR.place hc ho hi hn (Or.inl (hlog he b hb))) c hcc
  have fin : ∀ (w' : World), ef i = .no → Below w.heap.size w w' → (v i).ok (There st ef L) → K (a.put o.dst ((v i).conc g)) w' := fun w' hnb hb hv =>
    hK g _ w' (h.put ho hi hnb hb hdd hv) (fun _ _ => rfl)
  have hfr : ∀ c : List AV, ef i = .new c → ¬ There st ef L (st i).m.length := by
    rintro c hnb (hb | ⟨j, c', hj, hc', e⟩)
    · have := st_m_mono hR.steps i (by omega) 0 (by omega); omega
    · rcases Nat.lt_trichotomy j i with hlt | rfl | hlt
      · have hjl : j < l.length := by omega
        have := st_m_lt hR.steps hjl hc' (i := i) (by omega) hlt; omega
      · exact hi hj
      · have := st_m_lt hR.steps hil hnb (i := j) (Nat.le_of_lt (hLl j hj)) hlt; omega
  unfold wpOp
  rw [hoo]
  simp only
  generalize hv : v i = x at hF fin
  generalize hnb : ef i = n at hF fin hrd
  cases hF with
  | light x hg hY =>
    rw [if_pos (want_true hg hga)]
    obtain ⟨ok, hr⟩ := hY a g _ hO (fun b hb c hcc => (hrd rfl b hb c hcc).2)
    left
    unfold Oper.wp
    rw [hr rfl w ⟨h.here, fun b hb c hcc => (hrd rfl b hb c hcc).1⟩]
    exact fin w rfl (Below.refl _ _) ok
  | call r hg hC =>
    rw [if_pos (want_true hg hga)]
    obtain ⟨f, args, h1, h2⟩ := hC a g _ hO rfl w h.here
    left
    unfold Oper.wp
    rw [h1]
    refine h2.mono fun e w' he => ?_
    obtain ⟨rfl, hb⟩ := he
    exact fin w' rfl hb trivial
  | box c y hg hY =>
    rw [if_pos (want_true hg hga)]
    obtain ⟨ok, oky, hr⟩ := hY a g _ hO
    obtain ⟨ty, val, h1, hval⟩ := hr w
    obtain ⟨g', h2, h3⟩ := h.box hR.steps hR.so ho hi hnb (fun S' h0 => by rw [hv]; exact oky _ S' h0) (hfr c hnb) hdd ok ty (below_alloc w _) (Nat.le_refl _) (alloc_here w _) (fun g' h0 => by rw [hv]; exact hval _ g' h0)
    left
    unfold Oper.wp
    rw [h1]
    exact hK g' _ _ h2 h3
  | callN es n hg hY =>
    rw [if_pos (want_true hg hga)]
    obtain ⟨f, args, h1, h2⟩ := hY a g _ hO w h.here
    left
    unfold Oper.wp
    rw [h1]
    refine h2.mono fun e w' he => ?_
    obtain ⟨blk, rfl, hlo, hob, hb⟩ := he
    obtain ⟨g', h2, h3⟩ := h.box (val := .map (some blk)) hR.steps hR.so ho hi hnb (fun S' h0 => by rw [hv]; exact h0) (hfr _ hnb) hdd (fun z hz => by rw [List.mem_singleton.1 hz]; trivial) 0 hb hlo hob (fun g' h0 => by rw [hv]; simp only [AV.conc, h0])
    exact hK g' _ _ h2 h3
  | store b c' hg hS =>
    rw [if_pos (want_true hg hga)]
    obtain ⟨c, hcc, hx, h1⟩ := hS
    have hth : There st ef L b := hx a g _ hO
    have hpl : Mt l ef L b i := hR.place hc ho hi hn (Or.inr (hR.lgs i o ho _ (by rw [hnb]; simp [logOf])))
    obtain ⟨⟨t0, h0⟩, hcok⟩ := h.row b hth i (by omega) hpl c hcc
    obtain ⟨ok, hr⟩ := h1 a g _ hO hcok
    obtain ⟨w', hrun, hset⟩ := hr w t0 h0
    left
    unfold Oper.wp
    rw [hrun]
    exact hK g _ _ (h.store hR.steps ho hi hnb hv hth (List.getElem?_eq_some_iff.1 hcc).1 hpl hset hdd ok) (fun _ _ => rfl)
  | lightG p x hg hY =>
    rw [guard_wanted hg hga]
    obtain ⟨ok, hr⟩ := hY a g _ hO (fun b hb c hcc => (hrd rfl b hb c hcc).2)
    cases p with
    | true =>
      rw [if_pos rfl]
      left
      unfold Oper.wp
      rw [hr rfl w ⟨h.here, fun b hb c hcc => (hrd rfl b hb c hcc).1⟩]
      exact fin w rfl (Below.refl _ _) ok
    | false =>
      rw [if_neg (by decide)]
      exact fin w rfl (Below.refl _ _) ok
  | skip hg =>
    rw [guard_wanted hg hga, if_neg (by decide)]
    exact fin w rfl (Below.refl _ _) trivial
  | callG p r hg hC =>
    rw [guard_wanted hg hga]
    cases p with
    | true =>
      rw [if_pos rfl]
      obtain ⟨f, args, h1, h2⟩ := hC a g _ hO rfl w h.here
      left
      unfold Oper.wp
      rw [h1]
      refine h2.mono fun e w' he => ?_
      obtain ⟨rfl, hb⟩ := he
      exact fin w' rfl hb trivial
    | false =>
      rw [if_neg (by decide)]
      exact fin w rfl (Below.refl _ _) trivial
/-- All have come up: the state is the executor's. -/
theorem all_sound (hR : Reg P ops l Bs lg st v ef) (h : Inv B l st v ef L g a w) (hLl : ∀ i, L i → i < l.length) (hall : ∀ i, i < l.length → L i) : RF g (st l.length) a ∧ RM B g (st l.length).m w := by
  have hlen := st_len hR.steps l.length (Nat.le_refl _)
  have hth : ∀ b, There st ef L b → b < (st l.length).m.length := by
    rintro b (hb | ⟨j, c, hj, hc, rfl⟩)
    · exact Nat.lt_of_lt_of_le hb (st_m_mono hR.steps l.length (Nat.le_refl _) 0 (Nat.zero_le _))
    · exact st_m_lt hR.steps (hLl j hj) hc (Nat.le_refl _) (hLl j hj)
  have hht : ∀ b, b < (st l.length).m.length → There st ef L b := by
    intro b hb
    rcases st_blocks hR.steps l.length (Nat.le_refl _) b hb with h1 | ⟨j, c, hj, h1, h2⟩
    · exact Or.inl h1
    · exact Or.inr ⟨j, c, hall j hj, h1, h2⟩
  have hmt : ∀ b, Mt l ef L b l.length := fun b j c hj _ => ⟨fun _ => hj, fun _ => hall j hj⟩
  have hslot : ∀ (d : Nat) (y : AV), (st l.length).t[d]? = some y → (y ≠ AV.any → a.tmps[d]? = some (y.conc g)) ∧ y.ok (There st ef L) := by
    intro d y hy
    by_cases hw : ∃ (j : Nat) (o' : Oper), l[j]? = some o' ∧ o'.dst = some d
    · obtain ⟨j, o', hj, hd'⟩ := hw
      have hjl := (List.getElem?_eq_some_iff.1 hj).1
      have hdl : d < (st 0).t.length := by rw [← hlen]; exact (List.getElem?_eq_some_iff.1 hy).1
      have e1 := st_wrote hR.steps hR.dst l.length (Nat.le_refl _) j o' d hjl hj hd' hdl
      rw [hy] at e1
      cases e1
      exact ⟨fun _ => h.wr j o' d (hall j hjl) hj hd' hdl, h.vo j (hall j hjl)⟩
    · have e1 := st_kept hR.steps l.length (Nat.le_refl _) d (fun j o' _ ho' e => hw ⟨j, o', ho', e⟩)
      rw [hy] at e1
      exact ⟨fun hk => h.kp d y e1.symm hk (fun j o' _ ho' e => hw ⟨j, o', ho', e⟩), ok_mono (fun b hb => Or.inl hb) y (hR.so y (List.mem_of_getElem? e1.symm))⟩
  refine ⟨⟨by rw [h.sz, hlen], fun d y hy hk => (hslot d y hy).1 hk, h.df, fun x hx => ?_⟩, ⟨fun i j hi hj e => h.ij i j (hht i hi) (hht j hj) e, fun i hi => h.lo i (hht i hi), fun b c hb => ?_, h.be, h.iv, fun c hc z hz => ?_⟩⟩
  · obtain ⟨d, hd⟩ := List.getElem?_of_mem hx
    exact ok_mono hth x (hslot d x hd).2
  · exact (h.row b (hht b (List.getElem?_eq_some_iff.1 hb).1) l.length (Nat.le_refl _) (hmt b) c hb).1
  · obtain ⟨b, hb⟩ := List.getElem?_of_mem hc
    exact ok_mono hth z ((h.row b (hht b (List.getElem?_eq_some_iff.1 hb).1) l.length (Nat.le_refl _) (hmt b) c hb).2 z hz)
end
def Lst (listed : Array Bool) (i : Nat) : Prop := listed.getD i false = true
theorem needs_mem {o : Oper} {e : Edge} (he : e ∈ o.after) (hb : Region.binds .any e = true) : e.on ∈ needs o := by
  unfold needs
  exact List.mem_map.2 ⟨e, List.mem_filter.2 ⟨by simpa using he, hb⟩, rfl⟩
theorem needs_of {o : Oper} {x : Nat} (h : x ∈ needs o) : ∃ e ∈ o.after, Region.binds .any e = true ∧ e.on = x := by
  obtain ⟨e, he, rfl⟩ := List.mem_map.1 h
  obtain ⟨h1, h2⟩ := List.mem_filter.1 he
  exact ⟨e, by simpa using h1, h2, rfl⟩
theorem lst_set {listed : Array Bool} {i : Nat} (hi : i < listed.size) (j : Nat) : Lst (listed.setIfInBounds i true) j ↔ Ins (Lst listed) i j := by
  unfold Ins
  have e : ∀ (q : Array Bool) (k : Nat), Lst q k ↔ q[k]?.getD false = true := fun q k => by unfold Lst; rw [Array.getD_eq_getD_getElem?]
  rw [e, e]
  by_cases h : i = j
  · subst h
    rw [Array.getElem?_setIfInBounds_self, if_pos hi]; simp
  · rw [Array.getElem?_setIfInBounds_ne h]
    constructor
    · exact Or.inr
    · rintro (rfl | h1)
      · exact absurd rfl h
      · exact h1
/-- How many have not come up yet. -/
def left (n : Nat) (listed : Array Bool) : Nat := ((List.range n).filter fun i => !listed.getD i false).length
theorem filter_lt {α : Type} (p q : α → Bool) : ∀ (l : List α), (∀ x, q x = true → p x = true) → (∃ x ∈ l, p x = true ∧ q x = false) → (l.filter q).length < (l.filter p).length
  | [], _, ⟨_, hx, _⟩ => by cases hx
  | x :: r, hpq, ⟨y, hy, h1, h2⟩ => by
    have hle : ∀ r : List α, (r.filter q).length ≤ (r.filter p).length := by
      intro r
      induction r with
      | nil => simp
      | cons z r ih =>
        simp only [List.filter_cons]
        cases hq : q z
        · cases hp : p z <;> simp <;> omega
        · rw [hpq z hq]; simp; omega
    simp only [List.filter_cons]
    rcases List.mem_cons.1 hy with rfl | hy
    · rw [h1, h2]; have := hle r; simp; omega
    · have := filter_lt p q r hpq ⟨y, hy, h1, h2⟩
      cases hq : q x
      · cases hp : p x <;> simp <;> omega
      · rw [hpq x hq]; simp; omega
theorem left_set {n : Nat} {listed : Array Bool} {i : Nat} (hn : listed.size = n) (hi : i < n) (hu : ¬ Lst listed i) : left n (listed.setIfInBounds i true) < left n listed := by
  unfold left
  refine filter_lt _ _ _ (fun x hx => ?_) ⟨i, List.mem_range.2 hi, ?_, ?_⟩
  · simp only [Bool.not_eq_true', Bool.eq_false_iff] at hx ⊢
    exact fun h => hx ((lst_set (by omega) x).2 (Or.inr h))
  · simp only [Bool.not_eq_true', Bool.eq_false_iff]; exact hu
  · simp only [Bool.not_eq_false']
    exact (lst_set (by omega) i).2 (Or.inl rfl)
theorem ready_of {ops : Array Oper} {listed : Array Bool} (hs : listed.size = ops.size) {i : Nat} (hr : i ∈ Region.ready .any ops listed) : ∃ o, ops[i]? = some o ∧ ¬ Lst listed i ∧ ∀ e ∈ needs o, Lst listed e := by
  obtain ⟨h1, o, ho, h2⟩ := mem_ready.1 hr
  have hi := (Array.getElem?_eq_some_iff.1 ho).1
  refine ⟨o, ho, fun h => ?_, fun x hx => ?_⟩
  · unfold Lst at h
    rw [Array.getD_eq_getD_getElem?, Array.getElem?_eq_getElem (by omega)] at h h1
    simp only [Option.getD_some] at h h1
    rw [h] at h1; cases h1
  · obtain ⟨e, he, hb, rfl⟩ := needs_of hx
    exact h2 e he hb
theorem ready_mk {ops : Array Oper} {listed : Array Bool} (hs : listed.size = ops.size) {i : Nat} {o : Oper} (ho : ops[i]? = some o) (hu : ¬ Lst listed i) (hn : ∀ e ∈ needs o, Lst listed e) : i ∈ Region.ready .any ops listed := by
  have hi := (Array.getElem?_eq_some_iff.1 ho).1
  refine mem_ready.2 ⟨?_, o, ho, fun e he hb => hn _ (needs_mem he hb)⟩
  unfold Lst at hu
  rw [Array.getD_eq_getD_getElem?, Array.getElem?_eq_getElem (by omega)] at hu ⊢
  simp only [Option.getD_some, Bool.not_eq_true] at hu ⊢
  exact hu
section
variable {P : Program} {T : Tab} {E : Eqs} {gm : Bool} {ops : Array Oper} {Bs : List Nat} {lg : List (Nat × Nat × Bool)} {Q : Exit → Act → World → Prop} {B : World} {Kx : St → Prop} {g0 : Nat → Nat} {m0 : List (List AV)}
theorem least {p : Nat → Prop} {n : Nat} (h : ¬ ∀ i, i < n → p i) : ∃ i, i < n ∧ ¬ p i ∧ ∀ j, j < i → p j := by
  induction n with
  | zero => exact absurd (fun i hi => absurd hi (Nat.not_lt_zero _)) h
  | succ n ih =>
    by_cases hn : ∀ i, i < n → p i
    · refine ⟨n, by omega, fun hp => h (fun i hi => ?_), hn⟩
      by_cases e : i = n
      · rw [e]; exact hp
      · exact hn i (by omega)
    · obtain ⟨i, h1, h2⟩ := ih hn
      exact ⟨i, by omega, h2⟩
/-- Any order. -/
theorem any_sound {st : Nat → St} {v : Nat → AV} {ef : Nat → Ef} (hR : Reg P ops ops.toList Bs lg st v ef)
    (hx : Kx (st ops.toList.length)) (hm0 : (st 0).m = m0) (hQ : ∀ s' g' a' w', Kx s' → RF g' s' a' → RM B g' s'.m w' → Ext g0 m0 g' s'.m → Q .normal a' w') :
    ∀ (fuel : Nat) (listed : Array Bool) (g : Nat → Nat) (a : Act) (w : World), listed.size = ops.size → Closed ops.toList (Lst listed) → Inv B ops.toList st v ef (Lst listed) g a w → (∀ b, b < m0.length → g0 b = g b) → left ops.size listed ≤ fuel → wpAny P .any ops Q fuel listed a w := by
  intro fuel
  have hL : ∀ listed : Array Bool, listed.size = ops.size → ∀ i, Lst listed i → i < ops.toList.length := by
    intro listed hs i hi
    unfold Lst at hi
    rw [Array.getD_eq_getD_getElem?] at hi
    apply Classical.byContradiction
    intro hge
    rw [Array.getElem?_eq_none (by simp at hge; omega)] at hi
    simp at hi
  have fin : ∀ (listed : Array Bool) (g : Nat → Nat) (a : Act) (w : World), listed.size = ops.size → Inv B ops.toList st v ef (Lst listed) g a w → (∀ b, b < m0.length → g0 b = g b) → (∀ i, i < ops.toList.length → Lst listed i) → Q .normal a w ∧ Region.ready .any ops listed = [] := by
    intro listed g a w hs h hg hall
    obtain ⟨hF, hM⟩ := all_sound hR h (hL listed hs) hall
    refine ⟨hQ _ g a w hx hF hM ⟨?_, hg⟩, ?_⟩
    · rw [← hm0]; exact st_m_mono hR.steps _ (Nat.le_refl _) 0 (Nat.zero_le _)
    · apply List.eq_nil_iff_forall_not_mem.2
      intro i hi
      obtain ⟨o, ho, hu, _⟩ := ready_of hs hi
      have := (Array.getElem?_eq_some_iff.1 ho).1
      exact hu (hall i (by simpa using this))
  induction fuel with
  | zero =>
    intro listed g a w hs hc h hg hf
    have hall : ∀ i, i < ops.toList.length → Lst listed i := by
      intro i hi
      apply Classical.byContradiction
      intro hu
      have := left_set hs (by simpa using hi) hu; omega
    obtain ⟨h1, h2⟩ := fin listed g a w hs h hg hall
    exact ⟨h2, h1⟩
  | succ f ih =>
    intro listed g a w hs hc h hg hf
    by_cases hall : ∀ i, i < ops.toList.length → Lst listed i
    · obtain ⟨h1, h2⟩ := fin listed g a w hs h hg hall
      exact ⟨fun _ => h1, fun i hi => by rw [h2] at hi; cases hi⟩
    · obtain ⟨i0, hi0, hu0, hlt0⟩ := least hall
      have ho0 : ops.toList[i0]? = some (ops.toList[i0]'hi0) := List.getElem?_eq_getElem _
      have hr0 : i0 ∈ Region.ready .any ops listed := ready_mk hs (by simpa using ho0) hu0 (fun e he => hlt0 e (waits_needs hR.wt ho0 e he))
      refine ⟨fun h0 => (by rw [h0] at hr0; cases hr0), fun i hi => ?_⟩
      obtain ⟨oi, hoi, hu, hn⟩ := ready_of hs hi
      have hoi' : ops.toList[i]? = some oi := by simpa using hoi
      have hil := (Array.getElem?_eq_some_iff.1 hoi).1
      refine mid_sound hR hc (hL listed hs) h hoi' hu hn (fun g' a' w' h' hgg => ?_)
      have hset : ∀ j, Lst (listed.setIfInBounds i true) j ↔ Ins (Lst listed) i j := lst_set (by omega)
      have he : Ins (Lst listed) i = Lst (listed.setIfInBounds i true) := funext fun j => propext (hset j).symm
      rw [he] at h'
      refine ih (listed.setIfInBounds i true) g' a' w' (by simpa using hs) (fun j oj hj hoj e hee => ?_) h' (fun b hb => (hg b hb).trans (hgg b (by rw [hm0]; exact hb))) (by have := left_set hs hil hu; omega)
      rw [hset]
      rcases (hset j).1 hj with rfl | hj
      · rw [hoi'] at hoj; cases hoj
        exact Or.inr (hn e hee)
      · exact Or.inr (hc j oj hj hoj e hee)
theorem left_all (n : Nat) (listed : Array Bool) : left n listed ≤ n := by
  unfold left
  exact Nat.le_trans (List.length_filter_le _ _) (by simp)
/-- A region that draws its order. -/
theorem draw_sound {Kx : St → Prop} {cal : Cal} (hN : NameOk P) (hT : TabOk P T) (hE : EqOk P E) (hC : CalOk P cal) (hmix : P.follows .mixedOrders = true) (hok : okR ops = true) {s : St} (h : xa P T E gm cal ops ops.toList 0 [] s Kx) :
    ∃ s', Kx s' ∧ ∀ (B : World) (Q : Exit → Act → World → Prop) (g : Nat → Nat) (a : Act) (w : World) (id : Nat), RF g s a → RM B g s.m w → (∀ g' a' w', RF g' s' a' → RM B g' s'.m w' → Ext g s.m g' s'.m → Q .normal a' w') → (Code.region id ops true).wp P Q a w := by
  simp only [okR, Bool.and_eq_true] at hok
  obtain ⟨h1, h2⟩ := hok
  obtain ⟨st, v, ef, lg, h0, hx, hac, _, hs⟩ := xa_facts hN hT hE hC h
  refine ⟨_, hx, fun B Q g a w id hf hm hQ => ?_⟩
  have hR : Reg P ops ops.toList (befs ops.toList []) lg st v ef := by
    refine ⟨rfl, fun i o ho => ⟨(hs i o ho).1, (hs i o ho).2.1⟩, h1, h2, hac, fun i o ho q hq => (hs i o ho).2.2 q (by rw [Nat.zero_add]; exact hq), ?_, ?_⟩
    · rw [h0]; exact hf.ok
    · rw [h0]; exact hm.ok
  refine wp_region_any hmix ?_
  have hnl : ∀ i, ¬ Lst (Array.replicate ops.size false) i := by
    intro i hi
    unfold Lst at hi
    rw [Array.getD_eq_getD_getElem?, Array.getElem?_replicate] at hi
    split at hi <;> simp at hi
  have hth : ∀ b, There st ef (Lst (Array.replicate ops.size false)) b → b < s.m.length := by
    rintro b (hb | ⟨j, _, hj, _⟩)
    · rw [h0] at hb; exact hb
    · exact absurd hj (hnl j)
  refine any_sound hR (Kx := (· = st ops.toList.length)) rfl (g0 := g) (m0 := s.m) (by rw [h0]) (fun s' g' a' w' e => by subst e; exact hQ g' a' w') ops.size (Array.replicate ops.size false) g a _ (by simp) (fun i o hi => absurd hi (hnl i)) ?_ (fun _ _ => rfl) (left_all _ _)
  refine ⟨?_, hf.df, fun j o d hj => absurd hj (hnl j), fun d y hy hk _ => hf.tm d y (by rw [← h0]; exact hy) hk, fun j hj => absurd hj (hnl j), fun b hb k hk hmt c hc => ?_, fun b hb => hm.lt (hth b hb), fun j c b hj => absurd hj (hnl j), fun b b' hb hb' e => hm.ij b b' (hth b hb) (hth b' hb') e, fun b hb => hm.lo b (hth b hb), hm.be.drew, hm.iv⟩
  · rw [h0]; exact hf.sz
  · have hb' := hth b hb
    have hsame := st_same hR.steps (b := b) k hk 0 (Nat.zero_le _) (by rw [h0]; exact hb') (fun j c2 _ hj2 hjc => hnl j ((hmt j c2 (by omega) hjc).2 hj2))
    rw [hsame, h0] at hc
    exact ⟨hm.mr b c hc, fun z hz => ok_mono (fun b hb => Or.inl (by rw [h0]; exact hb)) z (hm.ok c (List.mem_of_getElem? hc) z hz)⟩
end
end Go.Proofs.Ytaplgollkkpnaaa.Xc
