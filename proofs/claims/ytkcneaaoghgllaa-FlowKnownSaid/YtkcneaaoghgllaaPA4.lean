-- PRINTED by print.py (a twelfth state) out of the translation. Not trusted: Lean checks it.
import Derived.Test.YtkcneaaoghgllaaWGuard
import Derived.Test.YtkcneaaoghgllaaPA0
import Derived.Test.YtkcneaaoghgllaaSq
import Derived.Test.YtkcneaaoghgllaaPA3
namespace Go.Proofs.Ytkcneaaoghgllaa.PA
open Go.RowKit Go.Proofs.YtkcneaaoghgllaaW.PrintWords Go.Proofs.YtkcneaaoghgllaaW.PrintLast Go.Proofs.YtkcneaaoghgllaaW.PrintMore
attribute [local go_sem] max2_int min2_int max_two min_two max_three min_three max_four min_four   -- for this text's walks alone
set_option linter.unusedVariables false
set_option linter.unusedSimpArgs false

/-! ### flow_Targets: function 11 -/
mutual
def flow_Targets.l0 : Nat → List (S42) → List Int → List Int → Int → List (S42) → Int → Int → Option (List Int × Int)
 | 0, _, _, _, _, _, _, _ => none
 | k + 1, x0, x4, x5, x6, x25, x26, x27 => if x27 < x26 then (if 0 ≤ x27 then (if x27 < (x25.length : Int) then ((insn_Size.f ((rd_T42 x25 x27).f0) ((rd_T42 x25 x27).f1) ((rd_T42 x25 x27).f2) ((rd_T42 x25 x27).f3) ((rd_T42 x25 x27).f4)).bind fun t122 => ((flow_jumps.f ((rd_T42 x25 x27).f0) ((rd_T42 x25 x27).f1) ((rd_T42 x25 x27).f2) ((rd_T42 x25 x27).f3) ((rd_T42 x25 x27).f4)).bind fun t123 => (if t123 = true then (if (wrap64 ((wrap64 (x6 + t122)) + ((rd_T42 x25 x27).f3))) ≥ 0 then (flow_Targets.j1 k x0 x4 x5 (wrap64 (x6 + t122)) (-1) (wrap64 ((wrap64 (x6 + t122)) + ((rd_T42 x25 x27).f3))) x25 x26 x27 (decide ((wrap64 ((wrap64 (x6 + t122)) + ((rd_T42 x25 x27).f3))) < (x4.length : Int)))) else (flow_Targets.j1 k x0 x4 x5 (wrap64 (x6 + t122)) (-1) (wrap64 ((wrap64 (x6 + t122)) + ((rd_T42 x25 x27).f3))) x25 x26 x27 false)) else (if x5.length < 17592186044416 then (flow_Targets.l0 k x0 x4 (x5 ++ [(-1)]) (wrap64 (x6 + t122)) x25 x26 (wrap64 (x27 + 1))) else (none))))) else (none)) else (none)) else (if 0 ≤ (wrap64 ((x0.length : Int) - 1)) then (if (wrap64 ((x0.length : Int) - 1)) < (x0.length : Int) then ((flow_is.f ((rd_T42 x0 (wrap64 ((x0.length : Int) - 1))).f0) ((rd_T42 x0 (wrap64 ((x0.length : Int) - 1))).f1) ((rd_T42 x0 (wrap64 ((x0.length : Int) - 1))).f2) ((rd_T42 x0 (wrap64 ((x0.length : Int) - 1))).f3) ((rd_T42 x0 (wrap64 ((x0.length : Int) - 1))).f4) 9).bind fun t136 => (if t136 = true then (some (x5, 0)) else ((flow_is.f ((rd_T42 x0 (wrap64 ((x0.length : Int) - 1))).f0) ((rd_T42 x0 (wrap64 ((x0.length : Int) - 1))).f1) ((rd_T42 x0 (wrap64 ((x0.length : Int) - 1))).f2) ((rd_T42 x0 (wrap64 ((x0.length : Int) - 1))).f3) ((rd_T42 x0 (wrap64 ((x0.length : Int) - 1))).f4) 0).bind fun t137 => (if t137 = true then (some (x5, 0)) else (some (([] : List Int), 8)))))) else (none)) else (none))
def flow_Targets.j1 : Nat → List (S42) → List Int → List Int → Int → Int → Int → List (S42) → Int → Int → Bool → Option (List Int × Int)
 | 0, _, _, _, _, _, _, _, _, _, _ => none
 | k + 1, x0, x4, x5, x6, x9, x10, x25, x26, x27, x48 => if x48 = true then (if 0 ≤ x10 then (if x10 < (x4.length : Int) then (if (rd x4 x10) < 0 then (some (([] : List Int), 7)) else (if x5.length < 17592186044416 then (flow_Targets.l0 k x0 x4 (x5 ++ [rd x4 x10]) x6 x25 x26 (wrap64 (x27 + 1))) else (none))) else (none)) else (none)) else (if x9 < 0 then (some (([] : List Int), 7)) else (if x5.length < 17592186044416 then (flow_Targets.l0 k x0 x4 (x5 ++ [x9]) x6 x25 x26 (wrap64 (x27 + 1))) else (none)))
end
def flow_Targets.f (k : Nat) (l0 : List (S42)) : Option (List Int × Int) := if (l0.length : Int) = 0 then (some (([] : List Int), 2)) else (if (l0.length : Int) > 256 then (some (([] : List Int), 9)) else ((flow_places.f k l0).bind fun t117 => (flow_Targets.l0 k l0 t117 ([] : List Int) 0 l0 (l0.length : Int) 0)))
theorem flow_Targets.mono_l : ∀ k, (∀ y0 y1 y2 y3 y4 y5 y6, LeO (flow_Targets.l0 k y0 y1 y2 y3 y4 y5 y6) (flow_Targets.l0 (k + 1) y0 y1 y2 y3 y4 y5 y6)) ∧ (∀ y0 y1 y2 y3 y4 y5 y6 y7 y8 y9, LeO (flow_Targets.j1 k y0 y1 y2 y3 y4 y5 y6 y7 y8 y9) (flow_Targets.j1 (k + 1) y0 y1 y2 y3 y4 y5 y6 y7 y8 y9))
 | 0 => ⟨fun _ _ _ _ _ _ _ r h => by simp [flow_Targets.l0] at h, fun _ _ _ _ _ _ _ _ _ _ r h => by simp [flow_Targets.j1] at h⟩
 | k + 1 => by
  obtain ⟨ih0, ih1⟩ := flow_Targets.mono_l k
  refine ⟨?_, ?_⟩
  ·intro y0 y1 y2 y3 y4 y5 y6
   unfold flow_Targets.l0
   repeat' first
   | (with_reducible exact ih0 _ _ _ _ _ _ _)
   | (with_reducible exact ih1 _ _ _ _ _ _ _ _ _ _)
   | (with_reducible exact flow_places.mono _ _)
   | (with_reducible exact LeO.refl _)
   | (with_reducible exact LeO.none _)
   | (with_reducible refine LeO.ite ?_ ?_)
   | (with_reducible refine LeO.bind ?_ (fun _ => ?_))
   | exact ih0 _ _ _ _ _ _ _
   | exact ih1 _ _ _ _ _ _ _ _ _ _
   | exact flow_places.mono _ _
   | exact LeO.none _
   | refine LeO.ite ?_ ?_
   | refine LeO.bind ?_ (fun _ => ?_)
  ·intro y0 y1 y2 y3 y4 y5 y6 y7 y8 y9
   unfold flow_Targets.j1
   repeat' first
   | (with_reducible exact ih0 _ _ _ _ _ _ _)
   | (with_reducible exact ih1 _ _ _ _ _ _ _ _ _ _)
   | (with_reducible exact flow_places.mono _ _)
   | (with_reducible exact LeO.refl _)
   | (with_reducible exact LeO.none _)
   | (with_reducible refine LeO.ite ?_ ?_)
   | (with_reducible refine LeO.bind ?_ (fun _ => ?_))
   | exact ih0 _ _ _ _ _ _ _
   | exact ih1 _ _ _ _ _ _ _ _ _ _
   | exact flow_places.mono _ _
   | exact LeO.none _
   | refine LeO.ite ?_ ?_
   | refine LeO.bind ?_ (fun _ => ?_)
theorem flow_Targets.mono : ∀ a0 k, LeO (flow_Targets.f k a0) (flow_Targets.f (k + 1) a0) := by
 intro a0 k
 obtain ⟨ih0, ih1⟩ := flow_Targets.mono_l k
 unfold flow_Targets.f
 repeat' first
  | (with_reducible exact ih0 _ _ _ _ _ _ _)
  | (with_reducible exact ih1 _ _ _ _ _ _ _ _ _ _)
  | (with_reducible exact flow_places.mono _ _)
  | (with_reducible exact LeO.refl _)
  | (with_reducible exact LeO.none _)
  | (with_reducible refine LeO.ite ?_ ?_)
  | (with_reducible refine LeO.bind ?_ (fun _ => ?_))
  | exact ih0 _ _ _ _ _ _ _
  | exact ih1 _ _ _ _ _ _ _ _ _ _
  | exact flow_places.mono _ _
  | exact LeO.none _
  | refine LeO.ite ?_ ?_
  | refine LeO.bind ?_ (fun _ => ?_)
/-- make([]T, 0, n): a row of one's own without elements. -/
theorem R_make_cap {α : Type} {P : Program} {ops : Array Oper} {rest : List Oper} {o : Oper} {a : Act} {Q : Exit → Act → World → Prop} (d : Kd α) {w0 W : World} (base e : Nat) (hgd : o.guard = none) (t : TypeId) (x y : Operand) (ho : o.op = .makeSlice t x y) (n : Int) (hx : a.eval x = .int .i64 0) (hy : a.eval y = .int .i64 n)
    (ht : P.underlying t = some (.slice e)) (z : Value) (bytes : Nat) (hinfo : (P.info? e).map (fun i => (i.zero, i.size, i.bytes)) = some (some z, d.sz, bytes)) (hz : z.cells.size = d.sz) (hs0 : 0 < d.sz)
    (z0 : α) {ok okp : Nat → Prop} (hzero : d.M W base okp z0 z.cells.toList) (hok : ∀ k, okp k → ok k) (hfresh : ok W.heap.size) (h0 : 0 ≤ n) (hn : n ≤ 9223372036854775807) (hl : (bytes : Int) * n ≤ 281474976710656) (HB : Below base w0 W) (hbase : base ≤ W.heap.size)
    (h : ∀ v1 w1, d.R e w1 base ok v1 [] → Below base w0 w1 → W.grownBy w1 none → (∃ b, v1.ownBlock = some b ∧ W.heap.size ≤ b) → wpList P ops Q rest (a.put o.dst v1) w1) : wpList P ops Q (o :: rest) a W := by
  obtain ⟨m, rfl⟩ := Int.eq_ofNat_of_zero_le h0
  obtain ⟨i0, hi, hzz⟩ := Option.map_eq_some_iff.1 hinfo
  simp only [Prod.mk.injEq] at hzz
  obtain ⟨hz0, hz1, hz2⟩ := hzz
  have hr := run_make (P := P) (w := W) t e i0 z ht hi hz0 .i64 .i64 0 (m : Int) (by omega) (by omega) (by rw [hz2]; exact hl) hn
  simp only [Int.toNat_natCast] at hr
  rw [hz1] at hr
  have hrun : (execOp a.eval o).run P W = .ok (.value (.slice (some ⟨W.heap.size, 0, none⟩) 0 m)) (W.alloc (.cells (madeCells z.cells (m * d.sz)) e)) := by
    simp [execOp, ho, hx, hy, hr]
  refine Kd.event_run hgd hrun (h _ _ ?_ (HB.alloc hbase _) (World.grownBy_alloc W _ none) ⟨W.heap.size, by simp [Value.ownBlock], Nat.le_refl _⟩)
  have hR : d.R e (W.alloc (.cells (madeCells z.cells (m * d.sz)) e)) base ok (.slice (some ⟨W.heap.size, 0, none⟩) m m) (List.replicate m z0) := by
    have hrep := Kd.reps_made hz hs0 hzero m
    refine ⟨fun k hk => ?_, (madeCells z.cells (m * d.sz)).toList, ?_, ?_⟩
    · have : W.heap.size = k := by simpa [Value.ownBlock] using hk
      subst this
      exact hfresh
    · have h2 := World.ownsRow_lit (base := base) (e := e) (size := d.sz) W (madeCells z.cells (m * d.sz)) m hbase (by simpa [maxLen] using (by omega : m ≤ 9223372036854775807)) (by simp [size_madeCells])
      simpa using h2
    · refine hrep.imp_ (fun p c hp => d.M_mono (fun k hk => ⟨hok k hk.1, fun he => ?_⟩) (Kd.M_below (d.M_bound hp) (below_alloc (Below.refl _ _) _)))
      have h3 : k = W.heap.size := by simpa [Value.ownBlock] using he
      have := hk.2.2.1
      omega
  exact Kd.R_take (m := 0) hR (Nat.zero_le _)
set_option maxHeartbeats 8000000 in
set_option maxRecDepth 100000 in
theorem flow_Targets.calls (k : Nat) (A0 : Option Addr) (c0 : Nat) (l0 : List (S42)) (r1 : List Int) (r2 : Int) (w : World) (hr0 : Kd.C k42 w A0 l0.length l0) (hc0 : l0.length ≤ c0) (h : flow_Targets.f k l0 = some (r1, r2)) :
 Calls Try.prog 11 #[.slice A0 l0.length c0] w fun e w' => ∃ v0_ : Value, e = .returned (.tuple #[v0_, .int .i64 r2]) ∧ Kd.R (Kd.int .i64) 3 w' w.heap.size (fun _ => True) v0_ r1 ∧ Below w.heap.size w w' := by
 have hu42 := Try.underlying42
 have HR0 := Aside0.mk hr0
 have HC0 := Aside0.mk hc0
 clear hr0 hc0
 have HB := Aside0.mk (Below.refl w.heap.size w)
 have H : (if (l0.length : Int) = 0 then (some (([] : List Int), 2)) else (if (l0.length : Int) > 256 then (some (([] : List Int), 9)) else ((flow_places.f k l0).bind fun t117 => (flow_Targets.l0 k l0 t117 ([] : List Int) 0 l0 (l0.length : Int) 0)))) = some (r1, r2) := h
 clear h
 by_cases c2 : (l0.length : Int) = 0
 ·rw [if_pos c2] at H
  have c2b0 : ((l0.length : Int) == 0) = true := beq_iff_eq.mpr c2
  have c2b1 : ((l0.length : Int) != 0) = false := bne_eq_false_iff_eq.mpr c2
  clear c2
  simp only [Option.some.injEq, Prod.mk.injEq] at H
  obtain ⟨rfl, rfl⟩ := H
  go_enter Try.func11, Try.ntmps11
  go_wp2
  go_ret2
  exact ⟨_, by first | rfl | (simp [errW_none, errW_some] <;> rfl) | (simp [*, errW_none, errW_some] <;> rfl), by first | exact Kd.R_nil _ _ _ _ _ | exact Kd.N_nil _ _ _ _ _ | exact Kd.V_nil _ _ _ _ _ | exact Kd.Q_nil _ _ _ _ _ | exact Kd.S_nil _ _ _ _ _, bz_⟩
 ·rw [if_neg c2] at H
  have c2b0 : ((l0.length : Int) == 0) = false := beq_eq_false_iff_ne.mpr c2
  have c2b1 : ((l0.length : Int) != 0) = true := bne_iff_ne.mpr c2
  have c2b2 : ¬ (l0 = []) := fun h_ => c2 (by rw [h_]; rfl)
  by_cases c3 : (l0.length : Int) > 256
  ·rw [if_pos c3] at H
   have c3b0 : decide (256 < (l0.length : Int)) = true := decide_eq_true c3
   have c3b1 : decide (256 < l0.length) = true := decide_eq_true (by omega)
   clear c3
   simp only [Option.some.injEq, Prod.mk.injEq] at H
   obtain ⟨rfl, rfl⟩ := H
   go_enter Try.func11, Try.ntmps11
   go_wp2
   go_ret2
   exact ⟨_, by first | rfl | (simp [errW_none, errW_some] <;> rfl) | (simp [*, errW_none, errW_some] <;> rfl), by first | exact Kd.R_nil _ _ _ _ _ | exact Kd.N_nil _ _ _ _ _ | exact Kd.V_nil _ _ _ _ _ | exact Kd.Q_nil _ _ _ _ _ | exact Kd.S_nil _ _ _ _ _, bz_⟩
  ·rw [if_neg c3] at H
   have c3b0 : decide (256 < (l0.length : Int)) = false := decide_eq_false c3
   have c3b1 : decide (256 < l0.length) = false := decide_eq_false (by omega)
   clear c3
   replace H := Option.bind_eq_some_iff.mp H
   obtain ⟨t117, A40, H⟩ := H
   replace H : (flow_Targets.l0 k l0 t117 ([] : List Int) 0 l0 (l0.length : Int) 0) = some (r1, r2) := H
   have A4 := Aside0.mk A40
   clear A40
   have H' := Aside0.mk H
   clear H
   go_enter Try.func11, Try.ntmps11
   go_wp2_with (first | ((with_reducible refine gate_callee (f := 30) rfl ?_); refine goesL_ (some 21) rfl rfl Try.func30 (by kernel_rfl) rfl #[.slice A0 l0.length c0] rfl mp_ ?_; (with_reducible refine (flow_places.calls k _ _ l0 t117 _ ?side1 ?side2 A4.out).mono ?_); (case side1 => repeat (first | exact HR0.out | (with_reducible refine Kd.C_alloc ?_ _) | (with_reducible refine Kd.C_drewN ?_ _) | (with_reducible refine Kd.C_drew ?_))); (case side2 => exact HC0.out); rintro e w5 ⟨v118, rfl, ho0, hb⟩; refine ⟨_, rfl, ?_⟩; have HO119 := Aside0.mk (Kd.R_lower ho0 (below_size bz_)); replace HB := bl_ hb; (try clear hb); (try clear hb2); (try clear hk); (try clear hi); (try clear ho0)) | ((with_reducible refine gate_dst (N := 24) rfl ?_); refine R_make_cap (Kd.int .i64) _ 3 rfl 26 _ _ rfl (l0.length : Int) rfl rfl Try.underlying26 (.int .i64 0) 8 info3 rfl (by decide) 0 (okp := fun _ => False) (ok := fun k_ => _ ≤ k_) rfl (fun _ hk_ => hk_.elim) (Nat.le_refl _) (by omega) (by have := of_decide_eq_false c3b0; omega) (by have := of_decide_eq_false c3b0; omega) (Below.refl _ _) (Nat.le_refl _) ?_; intro v24_ w24_ ho24 hb24 hg24 hnew24; obtain ⟨b24, hb24e, hb24l⟩ := hnew24; have hsz24 := below_size bz_; have HO24 := Aside0.mk (Kd.R_lower ho24 hsz24); replace HO119 := Aside0.mk (Kd.R_grown (Kd.R_mono (ok' := fun k_ => k_ < _) (Kd.R_bound (by (with_reducible repeat (first | apply Kd.R_alloc | apply Kd.R_drewN | apply Kd.R_drew)); exact HO119.out)) (fun k_ hk_ => hk_.2.2.1)) hg24 (fun _ _ => by simp)); replace HB := bl_ hb24; clear hb24 ho24 hg24))
   go_loopg [5, 6, 27] k (fun kq v5 v6 v27 w' => ∃ (x5_1 : List Int) (x6_1 : Int) (x27_1 : Int), v6 = .int .i64 x6_1 ∧ v27 = .int .i64 x27_1 ∧ Aside0 (flow_Targets.l0 kq l0 t117 x5_1 x6_1 l0 (l0.length : Int) x27_1 = some (r1, r2)) ∧ Aside0 (kq ≤ k) ∧ Aside0 (Kd.R (Kd.int .i64) 3 w' w.heap.size (fun k_ => some k_ ≠ (v5 : Value).ownBlock) v118 t117) ∧ Aside0 (Kd.R (Kd.int .i64) 3 w' w.heap.size (fun k_ => some k_ ≠ (v118 : Value).ownBlock) v5 x5_1) ∧ Aside0 (Below w.heap.size w w'))
   case atStart => exact ⟨(([] : List Int)), (0), (0), (by first | rfl | (simp; done) | (simp [*]; done)), (by first | rfl | (simp; done) | (simp [*]; done)), H', ⟨Nat.le_refl _⟩, ⟨by (with_reducible repeat (first | apply Kd.R_alloc | apply Kd.R_drewN | apply Kd.R_drew)); exact Kd.R_mono HO119.out (fun k_ hk_ => by rw [hb24e]; intro he_; injection he_ with he_; omega)⟩, ⟨Kd.R_mono HO24.out (fun k_ hk_ he_ => by have := HO119.out.1 k_ he_.symm; omega)⟩, ⟨bz_⟩⟩
   case round =>
    clear H'
    try clear c1
    try clear c2
    try clear c2b0
    try clear c2b1
    try clear c2b2
    try clear p2
    try clear c3
    try clear c3b0
    try clear c3b1
    obtain ⟨x5_1, x6_1, x27_1, rfl, rfl, HA, HK1, HO_4, HO_5, HB⟩ := hrel
    cases gk with
    | zero => exact absurd HA.out (by simp [flow_Targets.l0])
    | succ k1 =>
     have H := HA.out
     clear HA
     simp only [flow_Targets.l0] at H
     by_cases c6 : x27_1 < (l0.length : Int)
     ·rw [if_pos c6] at H
      have c6b0 : decide (x27_1 < (l0.length : Int)) = true := decide_eq_true c6
      clear c6
      by_cases c7 : 0 ≤ x27_1
      ·rw [if_pos c7] at H
       have c7b0 : decide (0 ≤ x27_1) = true := decide_eq_true c7
       clear c7
       by_cases c8 : x27_1 < (l0.length : Int)
       ·rw [if_pos c8] at H
        have c8b0 : decide (x27_1 < (l0.length : Int)) = true := decide_eq_true c8
        clear c8
        replace H := Option.bind_eq_some_iff.mp H
        obtain ⟨t122, A90, H⟩ := H
        replace H : ((flow_jumps.f ((rd_T42 l0 x27_1).f0) ((rd_T42 l0 x27_1).f1) ((rd_T42 l0 x27_1).f2) ((rd_T42 l0 x27_1).f3) ((rd_T42 l0 x27_1).f4)).bind fun t123 => (if t123 = true then (if (wrap64 ((wrap64 (x6_1 + t122)) + ((rd_T42 l0 x27_1).f3))) ≥ 0 then (flow_Targets.j1 k1 l0 t117 x5_1 (wrap64 (x6_1 + t122)) (-1) (wrap64 ((wrap64 (x6_1 + t122)) + ((rd_T42 l0 x27_1).f3))) l0 (l0.length : Int) x27_1 (decide ((wrap64 ((wrap64 (x6_1 + t122)) + ((rd_T42 l0 x27_1).f3))) < (t117.length : Int)))) else (flow_Targets.j1 k1 l0 t117 x5_1 (wrap64 (x6_1 + t122)) (-1) (wrap64 ((wrap64 (x6_1 + t122)) + ((rd_T42 l0 x27_1).f3))) l0 (l0.length : Int) x27_1 false)) else (if x5_1.length < 17592186044416 then (flow_Targets.l0 k1 l0 t117 (x5_1 ++ [(-1)]) (wrap64 (x6_1 + t122)) l0 (l0.length : Int) (wrap64 (x27_1 + 1))) else (none)))) = some (r1, r2) := H
        have A9 := Aside0.mk A90
        clear A90
        replace H := Option.bind_eq_some_iff.mp H
        obtain ⟨t123, A100, H⟩ := H
        replace H : (if t123 = true then (if (wrap64 ((wrap64 (x6_1 + t122)) + ((rd_T42 l0 x27_1).f3))) ≥ 0 then (flow_Targets.j1 k1 l0 t117 x5_1 (wrap64 (x6_1 + t122)) (-1) (wrap64 ((wrap64 (x6_1 + t122)) + ((rd_T42 l0 x27_1).f3))) l0 (l0.length : Int) x27_1 (decide ((wrap64 ((wrap64 (x6_1 + t122)) + ((rd_T42 l0 x27_1).f3))) < (t117.length : Int)))) else (flow_Targets.j1 k1 l0 t117 x5_1 (wrap64 (x6_1 + t122)) (-1) (wrap64 ((wrap64 (x6_1 + t122)) + ((rd_T42 l0 x27_1).f3))) l0 (l0.length : Int) x27_1 false)) else (if x5_1.length < 17592186044416 then (flow_Targets.l0 k1 l0 t117 (x5_1 ++ [(-1)]) (wrap64 (x6_1 + t122)) l0 (l0.length : Int) (wrap64 (x27_1 + 1))) else (none))) = some (r1, r2) := H
        have A10 := Aside0.mk A100
        clear A100
        by_cases c11 : t123 = true
        ·subst c11
         have H1 : (if (wrap64 ((wrap64 (x6_1 + t122)) + ((rd_T42 l0 x27_1).f3))) ≥ 0 then (flow_Targets.j1 k1 l0 t117 x5_1 (wrap64 (x6_1 + t122)) (-1) (wrap64 ((wrap64 (x6_1 + t122)) + ((rd_T42 l0 x27_1).f3))) l0 (l0.length : Int) x27_1 (decide ((wrap64 ((wrap64 (x6_1 + t122)) + ((rd_T42 l0 x27_1).f3))) < (t117.length : Int)))) else (flow_Targets.j1 k1 l0 t117 x5_1 (wrap64 (x6_1 + t122)) (-1) (wrap64 ((wrap64 (x6_1 + t122)) + ((rd_T42 l0 x27_1).f3))) l0 (l0.length : Int) x27_1 false)) = some (r1, r2) := by rw [if_pos rfl] at H; exact H
         clear H
         have H := H1
         clear H1
         have HC12 := Aside0.mk H
         clear H
         have p120 : 0 ≤ (x27_1 : Int) := of_decide_eq_true (by first | (with_reducible assumption) | assumption)
         have q120 : x27_1 < (l0.length : Int) := of_decide_eq_true (by first | (with_reducible assumption) | assumption)
         obtain ⟨ad120, e120, hx120_0, hx120_1, hx120_2, hx120_3, hx120_4⟩ := at_T42 HR0.out x27_1 p120 q120
         cases e120
         replace hx120_0 := (HB.out.cell (World.block_lt_of_cell? w _ hx120_0)).trans hx120_0
         replace hx120_1 := (HB.out.cell (World.block_lt_of_cell? w _ hx120_1)).trans hx120_1
         replace hx120_2 := (HB.out.cell (World.block_lt_of_cell? w _ hx120_2)).trans hx120_2
         replace hx120_3 := (HB.out.cell (World.block_lt_of_cell? w _ hx120_3)).trans hx120_3
         replace hx120_4 := (HB.out.cell (World.block_lt_of_cell? w _ hx120_4)).trans hx120_4
         replace p120 := eq_true p120
         replace q120 := eq_true q120
         go_upto_region 15 with (first | ((with_reducible refine gate_dst (N := 8) rfl ?_); (try (refine gate_guard (by rfl) ?_; dsimp only)); refine bx_ 8 #[.int .i64 0, .int .i64 0, .int .i64 0, .int .i64 0, .int .i64 0] 42 ?_; intro gb121 hg w13 BK121 hb; have GW121 := bg_ hg; have GE121 := GW121; replace HO_4 := Aside0.mk (Kd.R_below (by (with_reducible repeat (first | apply Kd.R_alloc | apply Kd.R_drewN | apply Kd.R_drew)); exact HO_4.out) hb); replace HO_5 := Aside0.mk (Kd.R_below (by (with_reducible repeat (first | apply Kd.R_alloc | apply Kd.R_drewN | apply Kd.R_drew)); exact HO_5.out) hb); replace HB := bl_ hb; clear hb hg; obtain ⟨zc14_0, zc14_1, zc14_2, zc14_3, zc14_4, zf14_0, zf14_1, zf14_2, zf14_3, zf14_4⟩ := k5_ BK121) | ((with_reducible refine gate_callee (f := 31) rfl ?_); refine gM_ 33 Try.func31 (insn_Size.calls ((rd_T42 l0 x27_1).f0) ((rd_T42 l0 x27_1).f1) ((rd_T42 l0 x27_1).f2) ((rd_T42 l0 x27_1).f3) ((rd_T42 l0 x27_1).f4) t122 _ A9.out) ?_; intro w15 hb; have n0_ := Aside0.mk (Kd.R_below (by (with_reducible repeat (first | apply Kd.R_alloc | apply Kd.R_drewN | apply Kd.R_drew)); exact (Kd.R_mono (Kd.R_far (p := ⟨gb121, 4, none⟩) (Kd.R_far (p := ⟨gb121, 3, none⟩) (Kd.R_far (p := ⟨gb121, 2, none⟩) (Kd.R_far (p := ⟨gb121, 1, none⟩) (Kd.R_far (p := ⟨gb121, 0, none⟩) (Kd.R_types HO_4.out BK121.out (by decide)) (fun _ hk => hk.2) (.int .i64 ((rd_T42 l0 x27_1).f0))) (fun _ hk => hk.2) (.int .i64 ((rd_T42 l0 x27_1).f1))) (fun _ hk => hk.2) (.int .i64 ((rd_T42 l0 x27_1).f2))) (fun _ hk => hk.2) (.int .i64 ((rd_T42 l0 x27_1).f3))) (fun _ hk => hk.2) (.int .i64 ((rd_T42 l0 x27_1).f4))) (fun _ h_ => h_.1))) hb); have n1_ := Aside0.mk (Kd.R_below (by (with_reducible repeat (first | apply Kd.R_alloc | apply Kd.R_drewN | apply Kd.R_drew)); exact (Kd.R_mono (Kd.R_far (p := ⟨gb121, 4, none⟩) (Kd.R_far (p := ⟨gb121, 3, none⟩) (Kd.R_far (p := ⟨gb121, 2, none⟩) (Kd.R_far (p := ⟨gb121, 1, none⟩) (Kd.R_far (p := ⟨gb121, 0, none⟩) (Kd.R_types HO_5.out BK121.out (by decide)) (fun _ hk => hk.2) (.int .i64 ((rd_T42 l0 x27_1).f0))) (fun _ hk => hk.2) (.int .i64 ((rd_T42 l0 x27_1).f1))) (fun _ hk => hk.2) (.int .i64 ((rd_T42 l0 x27_1).f2))) (fun _ hk => hk.2) (.int .i64 ((rd_T42 l0 x27_1).f3))) (fun _ hk => hk.2) (.int .i64 ((rd_T42 l0 x27_1).f4))) (fun _ h_ => h_.1))) hb); have n2_ := Aside0.mk (blk_below (g := gb121) (o := .cells #[.int .i64 ((rd_T42 l0 x27_1).f0), .int .i64 ((rd_T42 l0 x27_1).f1), .int .i64 ((rd_T42 l0 x27_1).f2), .int .i64 ((rd_T42 l0 x27_1).f3), .int .i64 ((rd_T42 l0 x27_1).f4)] 42 (0, 0)) (by (with_reducible repeat (first | apply bN_ | apply bD_ | apply bA_)); refine blk_put (cs := #[.int .i64 ((rd_T42 l0 x27_1).f0), .int .i64 ((rd_T42 l0 x27_1).f1), .int .i64 ((rd_T42 l0 x27_1).f2), .int .i64 ((rd_T42 l0 x27_1).f3), .int .i64 0]) ?_ 4 _ rfl; (with_reducible repeat (first | apply bN_ | apply bD_ | apply bA_)); refine blk_put (cs := #[.int .i64 ((rd_T42 l0 x27_1).f0), .int .i64 ((rd_T42 l0 x27_1).f1), .int .i64 ((rd_T42 l0 x27_1).f2), .int .i64 0, .int .i64 0]) ?_ 3 _ rfl; (with_reducible repeat (first | apply bN_ | apply bD_ | apply bA_)); refine blk_put (cs := #[.int .i64 ((rd_T42 l0 x27_1).f0), .int .i64 ((rd_T42 l0 x27_1).f1), .int .i64 0, .int .i64 0, .int .i64 0]) ?_ 2 _ rfl; (with_reducible repeat (first | apply bN_ | apply bD_ | apply bA_)); refine blk_put (cs := #[.int .i64 ((rd_T42 l0 x27_1).f0), .int .i64 0, .int .i64 0, .int .i64 0, .int .i64 0]) ?_ 1 _ rfl; (with_reducible repeat (first | apply bN_ | apply bD_ | apply bA_)); refine blk_put (cs := #[.int .i64 0, .int .i64 0, .int .i64 0, .int .i64 0, .int .i64 0]) ?_ 0 _ rfl; exact bk_) hb); have n3_ := bl_ hb; clear HO_4; clear HO_5; clear BK121; clear HB; have HO_4 := n0_; have HO_5 := n1_; have BK121 := n2_; have HB := n3_; clear n0_ n1_ n2_ n3_; (try clear hb); (try clear hb2); (try clear hk); (try clear hi); obtain ⟨zc16_0, zc16_1, zc16_2, zc16_3, zc16_4, zf16_0, zf16_1, zf16_2, zf16_3, zf16_4⟩ := k5_ BK121) | ((with_reducible refine gate_callee (f := 32) rfl ?_); refine gM_ 36 Try.func32 (flow_jumps.calls ((rd_T42 l0 x27_1).f0) ((rd_T42 l0 x27_1).f1) ((rd_T42 l0 x27_1).f2) ((rd_T42 l0 x27_1).f3) ((rd_T42 l0 x27_1).f4) true _ A10.out) ?_; intro w17 hb; replace HO_4 := Aside0.mk (Kd.R_below (by (with_reducible repeat (first | apply Kd.R_alloc | apply Kd.R_drewN | apply Kd.R_drew)); exact HO_4.out) hb); replace HO_5 := Aside0.mk (Kd.R_below (by (with_reducible repeat (first | apply Kd.R_alloc | apply Kd.R_drewN | apply Kd.R_drew)); exact HO_5.out) hb); replace BK121 := bb_ hb BK121; replace HB := bl_ hb; (try clear hb); (try clear hb2); (try clear hk); (try clear hi); obtain ⟨zc18_0, zc18_1, zc18_2, zc18_3, zc18_4, zf18_0, zf18_1, zf18_2, zf18_3, zf18_4⟩ := k5_ BK121))
         (try simp only [Act.put, s1_, s2_, s3_])
         go_cut [48] (fun v48 wc => ∃ (kq : Nat) (x48_11 : Bool), v48 = .bool x48_11 ∧ Aside0 (flow_Targets.j1 kq l0 t117 x5_1 (wrap64 (x6_1 + t122)) (-1) (wrap64 ((wrap64 (x6_1 + t122)) + ((rd_T42 l0 x27_1).f3))) l0 (l0.length : Int) x27_1 x48_11 = some (r1, r2)) ∧ Aside0 (kq ≤ k1) ∧ Aside0 (Kd.R (Kd.int .i64) 3 wc w.heap.size (fun k_ => some k_ ≠ (u5 : Value).ownBlock) v118 t117) ∧ Aside0 (Kd.R (Kd.int .i64) 3 wc w.heap.size (fun k_ => some k_ ≠ (v118 : Value).ownBlock) u5 x5_1) ∧ Aside0 (wc.heap[gb121]? = some (.cells #[.int .i64 ((rd_T42 l0 x27_1).f0), .int .i64 ((rd_T42 l0 x27_1).f1), .int .i64 ((rd_T42 l0 x27_1).f2), .int .i64 ((rd_T42 l0 x27_1).f3), .int .i64 ((rd_T42 l0 x27_1).f4)] 42 (0, 0))) ∧ Aside0 (Below w.heap.size w wc))
         case first =>
          have H := HC12.out
          clear HC12
          by_cases c19 : (wrap64 ((wrap64 (x6_1 + t122)) + ((rd_T42 l0 x27_1).f3))) ≥ 0
          ·rw [if_pos c19] at H
           have c19b0 : decide (0 ≤ (wrap64 ((wrap64 (x6_1 + t122)) + ((rd_T42 l0 x27_1).f3)))) = true := decide_eq_true c19
           clear c19
           (first | rw [c19b0] | (simp only [i64_w, i32_w]; rw [c19b0]) | skip)
           have H' := Aside0.mk H
           clear H
           obtain ⟨Ao20, co20, eo20⟩ := Kd.R_slice HO_4.out
           subst eo20
           go_wp2
           go_meet
           case rel => exact ⟨_, (decide ((wrap64 ((wrap64 (x6_1 + t122)) + ((rd_T42 l0 x27_1).f3))) < (t117.length : Int))), (by first | rfl | (simp; done) | (simp [*]; done)), H', ⟨by have := HK1.out; first | omega | exact Nat.le_refl _⟩, ⟨by (with_reducible repeat (first | apply Kd.R_alloc | apply Kd.R_drewN | apply Kd.R_drew)); exact HO_4.out⟩, ⟨by (with_reducible repeat (first | apply Kd.R_alloc | apply Kd.R_drewN | apply Kd.R_drew)); exact HO_5.out⟩, ⟨bk_⟩, ⟨bz_⟩⟩
          ·rw [if_neg c19] at H
           have c19b0 : decide (0 ≤ (wrap64 ((wrap64 (x6_1 + t122)) + ((rd_T42 l0 x27_1).f3)))) = false := decide_eq_false c19
           clear c19
           (first | rw [c19b0] | (simp only [i64_w, i32_w]; rw [c19b0]) | skip)
           have H' := Aside0.mk H
           clear H
           go_wp2
           go_meet
           case rel => exact ⟨_, (false), (by first | rfl | (simp; done) | (simp [*]; done)), H', ⟨by have := HK1.out; first | omega | exact Nat.le_refl _⟩, ⟨by (with_reducible repeat (first | apply Kd.R_alloc | apply Kd.R_drewN | apply Kd.R_drew)); exact HO_4.out⟩, ⟨by (with_reducible repeat (first | apply Kd.R_alloc | apply Kd.R_drewN | apply Kd.R_drew)); exact HO_5.out⟩, ⟨bk_⟩, ⟨bz_⟩⟩
         case rest =>
          clear HC12
          try clear c1
          try clear p1
          try clear q1
          try clear hx1
          try clear c2
          try clear c2b0
          try clear c2b1
          try clear c2b2
          try clear p2
          try clear c3
          try clear c3b0
          try clear c3b1
          try clear c6
          try clear c6b0
          try clear p6
          try clear c7
          try clear c7b0
          try clear c8
          try clear c8b0
          try clear c11
          try clear p12
          try clear q12
          try clear hx12
          try clear c19
          try clear c19b0
          try clear zc14_0
          try clear zc14_1
          try clear zc14_2
          try clear zc14_3
          try clear zc14_4
          try clear zc16_0
          try clear zc16_1
          try clear zc16_2
          try clear zc16_3
          try clear zc16_4
          try clear zc18_0
          try clear zc18_1
          try clear zc18_2
          try clear zc18_3
          try clear zc18_4
          try clear zf14_0
          try clear zf14_1
          try clear zf14_2
          try clear zf14_3
          try clear zf14_4
          try clear zf16_0
          try clear zf16_1
          try clear zf16_2
          try clear zf16_3
          try clear zf16_4
          try clear zf18_0
          try clear zf18_1
          try clear zf18_2
          try clear zf18_3
          try clear zf18_4
          try clear hx120_0
          try clear hx120_1
          try clear hx120_2
          try clear hx120_3
          try clear hx120_4
          try clear p120
          try clear p2
          try clear q120
          obtain ⟨kq, x48_11, rfl, HA, HJ11, HO_4, HO_5, BK121, HB⟩ := hcut
          cases kq with
          | zero => exact absurd HA.out (by simp [flow_Targets.j1])
          | succ kj11 =>
           have H := HA.out
           clear HA
           simp only [flow_Targets.j1] at H
           by_cases c21 : x48_11 = true
           ·subst c21
            have H1 : (if 0 ≤ (wrap64 ((wrap64 (x6_1 + t122)) + ((rd_T42 l0 x27_1).f3))) then (if (wrap64 ((wrap64 (x6_1 + t122)) + ((rd_T42 l0 x27_1).f3))) < (t117.length : Int) then (if (rd t117 (wrap64 ((wrap64 (x6_1 + t122)) + ((rd_T42 l0 x27_1).f3)))) < 0 then (some (([] : List Int), 7)) else (if x5_1.length < 17592186044416 then (flow_Targets.l0 kj11 l0 t117 (x5_1 ++ [rd t117 (wrap64 ((wrap64 (x6_1 + t122)) + ((rd_T42 l0 x27_1).f3)))]) (wrap64 (x6_1 + t122)) l0 (l0.length : Int) (wrap64 (x27_1 + 1))) else (none))) else (none)) else (none)) = some (r1, r2) := by rw [if_pos rfl] at H; exact H
            clear H
            have H := H1
            clear H1
            obtain ⟨ji22, hji22⟩ : ∃ j_ : Int, (wrap64 ((wrap64 (x6_1 + t122)) + ((rd_T42 l0 x27_1).f3))) = j_ := ⟨_, rfl⟩
            replace H : (if 0 ≤ (ji22) then (if (ji22) < (t117.length : Int) then (if (rd t117 (ji22)) < 0 then (some (([] : List Int), 7)) else (if x5_1.length < 17592186044416 then (flow_Targets.l0 kj11 l0 t117 (x5_1 ++ [rd t117 (ji22)]) (wrap64 (x6_1 + t122)) l0 (l0.length : Int) (wrap64 (x27_1 + 1))) else (none))) else (none)) else (none)) = some (r1, r2) := by first | (rw [hji22] at H; exact H) | (simp only [hji22] at H ⊢; exact H)
            have hji22w : (IntKind.i64.wrap ((wrap64 (x6_1 + t122)) + ((rd_T42 l0 x27_1).f3))) = ji22 := (i64_w _).trans hji22
            by_cases c23 : 0 ≤ (ji22)
            ·rw [if_pos c23] at H
             have c23b0 : decide (0 ≤ (ji22)) = true := decide_eq_true c23
             clear c23
             by_cases c24 : (ji22) < (t117.length : Int)
             ·rw [if_pos c24] at H
              have c24b0 : decide ((ji22) < (t117.length : Int)) = true := decide_eq_true c24
              clear c24
              by_cases c25 : (rd t117 (ji22)) < 0
              ·rw [if_pos c25] at H
               have c25b0 : decide ((rd t117 (ji22)) < 0) = true := decide_eq_true c25
               clear c25
               simp only [Option.some.injEq, Prod.mk.injEq] at H
               obtain ⟨rfl, rfl⟩ := H
               obtain ⟨Ao26, co26, eo26⟩ := Kd.R_slice HO_4.out
               subst eo26
               have p124 : 0 ≤ ((ji22) : Int) := of_decide_eq_true (by first | (with_reducible assumption) | assumption)
               have q124 : (ji22) < (t117.length : Int) := of_decide_eq_true (by first | (with_reducible assumption) | assumption)
               obtain ⟨ad124, e124, hx124_0⟩ := Kd.at_int (Kd.R_reads' HO_4.out).2.2 (ji22) p124 q124
               cases e124
               replace p124 := eq_true p124
               replace q124 := eq_true q124
               go_wp2
               go_ret2
               exact ⟨_, by first | rfl | (simp [errW_none, errW_some] <;> rfl) | (simp only [← hji22]; first | rfl | (simp [errW_none, errW_some] <;> rfl)) | (simp [*, errW_none, errW_some] <;> rfl), by first | exact Kd.R_nil _ _ _ _ _ | exact Kd.N_nil _ _ _ _ _ | exact Kd.V_nil _ _ _ _ _ | exact Kd.Q_nil _ _ _ _ _ | exact Kd.S_nil _ _ _ _ _, bz_⟩
              ·rw [if_neg c25] at H
               have c25b0 : decide ((rd t117 (ji22)) < 0) = false := decide_eq_false c25
               clear c25
               by_cases c27 : x5_1.length < 17592186044416
               ·rw [if_pos c27] at H
                have LMc27 := Aside0.mk c27
                clear c27
                obtain ⟨y125, hy125⟩ : ∃ y_ : List Int, y_ = (x5_1 ++ [rd t117 (ji22)]) := ⟨_, rfl⟩
                replace H : (flow_Targets.l0 kj11 l0 t117 y125 (wrap64 (x6_1 + t122)) l0 (l0.length : Int) (wrap64 (x27_1 + 1))) = some (r1, r2) := by first | (rw [hy125]; with_reducible exact H) | (have H2_ := (Option.bind_some _ _).symm.trans H; rw [hy125]; with_reducible exact H2_) | (have H2_ := (Option.bind_some _ _).symm.trans H; with_reducible exact H2_) | with_reducible exact H | (rw [hy125]; exact H) | exact H
                have Ny125 := Aside0.mk hy125
                clear hy125
                have H' := Aside0.mk H
                clear H
                obtain ⟨Ao28, co28, eo28⟩ := Kd.R_slice HO_4.out
                subst eo28
                have p124 : 0 ≤ ((ji22) : Int) := of_decide_eq_true (by first | (with_reducible assumption) | assumption)
                have q124 : (ji22) < (t117.length : Int) := of_decide_eq_true (by first | (with_reducible assumption) | assumption)
                obtain ⟨ad124, e124, hx124_0⟩ := Kd.at_int (Kd.R_reads' HO_4.out).2.2 (ji22) p124 q124
                cases e124
                replace p124 := eq_true p124
                replace q124 := eq_true q124
                go_wp2_with (first | ((with_reducible refine gate_builtin (b := .append) (xs := #[.tmp 55, .tmp 57]) rfl ?_); (try (refine gate_guard (by rfl) ?_; dsimp only)); at_builtin; refine Kd.R_append (Kd.int .i64) (w0 := w) w.heap.size rfl (.tmp 55) (.tmp 57) 26 3 (.int .i64 0) 8 rfl Try.underlying26 info3 rfl (by decide) (by omega) u5 x5_1 (rd t117 (ji22)) [.int .i64 (rd t117 (ji22))] (fun k_ => some k_ ≠ (.slice (some ad124) t117.length co28 : Value).ownBlock) (fun _ => False) rfl rfl ?aP (fun _ hk => hk.elim) ?aF ?aO ?aB ?aS ?aL ?_; (case aP => exact rfl); (case aB => exact bz_); (case aF => exact (fun k_ hk => Kd.fresh' (Kd.R_lt (by (with_reducible repeat (first | apply Kd.R_alloc | apply Kd.R_drewN | apply Kd.R_drew)); exact HO_4.out)) k_ hk)); (case aO => exact (by (with_reducible repeat (first | apply Kd.R_alloc | apply Kd.R_drewN | apply Kd.R_drew)); exact HO_5.out)); (case aS => exact (below_size bz_)); (case aL => have := LMc27.out; omega); intro v126 w29 ho hb hg hat; rw [← Ny125.out] at ho; have n0_ := Aside0.mk (Kd.R_after (ok := (fun _ => True)) (by (with_reducible repeat (first | apply Kd.R_alloc | apply Kd.R_drewN | apply Kd.R_drew)); exact Kd.R_mono HO_4.out (fun _ hk => ⟨trivial, hk⟩)) hg hat); have n1_ := Aside0.mk (blk_grown (g := gb121) (o := .cells #[.int .i64 ((rd_T42 l0 x27_1).f0), .int .i64 ((rd_T42 l0 x27_1).f1), .int .i64 ((rd_T42 l0 x27_1).f2), .int .i64 ((rd_T42 l0 x27_1).f3), .int .i64 ((rd_T42 l0 x27_1).f4)] 42 (0, 0)) bk_ hg (Kd.R_ne HO_5.out BK121.out (by decide))); have n2_ := Aside0.mk (hb); have n3_ := Aside0.mk (ho); clear HO_4; clear BK121; clear HB; clear HO_5; have HO_4 := n0_; have BK121 := n1_; have HB := n2_; have HO127 := n3_; clear n0_ n1_ n2_ n3_; clear ho hb hg hat))
                go_roundg kj11
                case measure => have := HK1.out; have := HJ11.out; omega
                case rel => exact ⟨(y125), ((wrap64 (x6_1 + t122))), (wrap64 (x27_1 + 1)), (by first | rfl | (simp; done) | (simp [*]; done)), (by first | rfl | (simp; done) | (simp [*]; done)), H', ⟨by have := HK1.out; have := HJ11.out; omega⟩, ⟨by (with_reducible repeat (first | apply Kd.R_alloc | apply Kd.R_drewN | apply Kd.R_drew)); exact Kd.R_mono HO_4.out (fun _ hk => hk.2)⟩, ⟨by (with_reducible repeat (first | apply Kd.R_alloc | apply Kd.R_drewN | apply Kd.R_drew)); exact HO127.out⟩, ⟨bz_⟩⟩
               ·rw [if_neg c27] at H
                exact absurd H (by simp)
             ·rw [if_neg c24] at H
              exact absurd H (by simp)
            ·rw [if_neg c23] at H
             exact absurd H (by simp)
           ·replace c21 := Bool.eq_false_iff.mpr c21
            subst c21
            have H1 : (if (-1) < 0 then (some (([] : List Int), 7)) else (if x5_1.length < 17592186044416 then (flow_Targets.l0 kj11 l0 t117 (x5_1 ++ [(-1)]) (wrap64 (x6_1 + t122)) l0 (l0.length : Int) (wrap64 (x27_1 + 1))) else (none))) = some (r1, r2) := by rw [if_neg (show ¬ (false = true) by decide)] at H; exact H
            clear H
            have H := H1
            clear H1
            by_cases c30 : (-1) < 0
            ·rw [if_pos c30] at H
             have c30b0 : decide ((-1) < 0) = true := decide_eq_true c30
             clear c30
             simp only [Option.some.injEq, Prod.mk.injEq] at H
             obtain ⟨rfl, rfl⟩ := H
             go_wp2
             go_ret2
             exact ⟨_, by first | rfl | (simp [errW_none, errW_some] <;> rfl) | (simp [*, errW_none, errW_some] <;> rfl), by first | exact Kd.R_nil _ _ _ _ _ | exact Kd.N_nil _ _ _ _ _ | exact Kd.V_nil _ _ _ _ _ | exact Kd.Q_nil _ _ _ _ _ | exact Kd.S_nil _ _ _ _ _, bz_⟩
            ·exact absurd (by decide) c30
        ·replace c11 := Bool.eq_false_iff.mpr c11
         subst c11
         have H1 : (if x5_1.length < 17592186044416 then (flow_Targets.l0 k1 l0 t117 (x5_1 ++ [(-1)]) (wrap64 (x6_1 + t122)) l0 (l0.length : Int) (wrap64 (x27_1 + 1))) else (none)) = some (r1, r2) := by rw [if_neg (show ¬ (false = true) by decide)] at H; exact H
         clear H
         have H := H1
         clear H1
         by_cases c33 : x5_1.length < 17592186044416
         ·rw [if_pos c33] at H
          have LMc33 := Aside0.mk c33
          clear c33
          obtain ⟨y131, hy131⟩ : ∃ y_ : List Int, y_ = (x5_1 ++ [(-1)]) := ⟨_, rfl⟩
          replace H : (flow_Targets.l0 k1 l0 t117 y131 (wrap64 (x6_1 + t122)) l0 (l0.length : Int) (wrap64 (x27_1 + 1))) = some (r1, r2) := by first | (rw [hy131]; with_reducible exact H) | (have H2_ := (Option.bind_some _ _).symm.trans H; rw [hy131]; with_reducible exact H2_) | (have H2_ := (Option.bind_some _ _).symm.trans H; with_reducible exact H2_) | with_reducible exact H | (rw [hy131]; exact H) | exact H
          have Ny131 := Aside0.mk hy131
          clear hy131
          have H' := Aside0.mk H
          clear H
          have p120 : 0 ≤ (x27_1 : Int) := of_decide_eq_true (by first | (with_reducible assumption) | assumption)
          have q120 : x27_1 < (l0.length : Int) := of_decide_eq_true (by first | (with_reducible assumption) | assumption)
          obtain ⟨ad120, e120, hx120_0, hx120_1, hx120_2, hx120_3, hx120_4⟩ := at_T42 HR0.out x27_1 p120 q120
          cases e120
          replace hx120_0 := (HB.out.cell (World.block_lt_of_cell? w _ hx120_0)).trans hx120_0
          replace hx120_1 := (HB.out.cell (World.block_lt_of_cell? w _ hx120_1)).trans hx120_1
          replace hx120_2 := (HB.out.cell (World.block_lt_of_cell? w _ hx120_2)).trans hx120_2
          replace hx120_3 := (HB.out.cell (World.block_lt_of_cell? w _ hx120_3)).trans hx120_3
          replace hx120_4 := (HB.out.cell (World.block_lt_of_cell? w _ hx120_4)).trans hx120_4
          replace p120 := eq_true p120
          replace q120 := eq_true q120
          go_wp2_with (first | ((with_reducible refine gate_dst (N := 8) rfl ?_); (try (refine gate_guard (by rfl) ?_; dsimp only)); refine bx_ 8 #[.int .i64 0, .int .i64 0, .int .i64 0, .int .i64 0, .int .i64 0] 42 ?_; intro gb121 hg w34 BK121 hb; have GW121 := bg_ hg; have GE121 := GW121; replace HO_4 := Aside0.mk (Kd.R_below (by (with_reducible repeat (first | apply Kd.R_alloc | apply Kd.R_drewN | apply Kd.R_drew)); exact HO_4.out) hb); replace HO_5 := Aside0.mk (Kd.R_below (by (with_reducible repeat (first | apply Kd.R_alloc | apply Kd.R_drewN | apply Kd.R_drew)); exact HO_5.out) hb); replace HB := bl_ hb; clear hb hg; obtain ⟨zc35_0, zc35_1, zc35_2, zc35_3, zc35_4, zf35_0, zf35_1, zf35_2, zf35_3, zf35_4⟩ := k5_ BK121) | ((with_reducible refine gate_callee (f := 31) rfl ?_); refine gM_ 33 Try.func31 (insn_Size.calls ((rd_T42 l0 x27_1).f0) ((rd_T42 l0 x27_1).f1) ((rd_T42 l0 x27_1).f2) ((rd_T42 l0 x27_1).f3) ((rd_T42 l0 x27_1).f4) t122 _ A9.out) ?_; intro w36 hb; have n0_ := Aside0.mk (Kd.R_below (by (with_reducible repeat (first | apply Kd.R_alloc | apply Kd.R_drewN | apply Kd.R_drew)); exact (Kd.R_mono (Kd.R_far (p := ⟨gb121, 4, none⟩) (Kd.R_far (p := ⟨gb121, 3, none⟩) (Kd.R_far (p := ⟨gb121, 2, none⟩) (Kd.R_far (p := ⟨gb121, 1, none⟩) (Kd.R_far (p := ⟨gb121, 0, none⟩) (Kd.R_types HO_4.out BK121.out (by decide)) (fun _ hk => hk.2) (.int .i64 ((rd_T42 l0 x27_1).f0))) (fun _ hk => hk.2) (.int .i64 ((rd_T42 l0 x27_1).f1))) (fun _ hk => hk.2) (.int .i64 ((rd_T42 l0 x27_1).f2))) (fun _ hk => hk.2) (.int .i64 ((rd_T42 l0 x27_1).f3))) (fun _ hk => hk.2) (.int .i64 ((rd_T42 l0 x27_1).f4))) (fun _ h_ => h_.1))) hb); have n1_ := Aside0.mk (Kd.R_below (by (with_reducible repeat (first | apply Kd.R_alloc | apply Kd.R_drewN | apply Kd.R_drew)); exact (Kd.R_mono (Kd.R_far (p := ⟨gb121, 4, none⟩) (Kd.R_far (p := ⟨gb121, 3, none⟩) (Kd.R_far (p := ⟨gb121, 2, none⟩) (Kd.R_far (p := ⟨gb121, 1, none⟩) (Kd.R_far (p := ⟨gb121, 0, none⟩) (Kd.R_types HO_5.out BK121.out (by decide)) (fun _ hk => hk.2) (.int .i64 ((rd_T42 l0 x27_1).f0))) (fun _ hk => hk.2) (.int .i64 ((rd_T42 l0 x27_1).f1))) (fun _ hk => hk.2) (.int .i64 ((rd_T42 l0 x27_1).f2))) (fun _ hk => hk.2) (.int .i64 ((rd_T42 l0 x27_1).f3))) (fun _ hk => hk.2) (.int .i64 ((rd_T42 l0 x27_1).f4))) (fun _ h_ => h_.1))) hb); have n2_ := Aside0.mk (blk_below (g := gb121) (o := .cells #[.int .i64 ((rd_T42 l0 x27_1).f0), .int .i64 ((rd_T42 l0 x27_1).f1), .int .i64 ((rd_T42 l0 x27_1).f2), .int .i64 ((rd_T42 l0 x27_1).f3), .int .i64 ((rd_T42 l0 x27_1).f4)] 42 (0, 0)) (by (with_reducible repeat (first | apply bN_ | apply bD_ | apply bA_)); refine blk_put (cs := #[.int .i64 ((rd_T42 l0 x27_1).f0), .int .i64 ((rd_T42 l0 x27_1).f1), .int .i64 ((rd_T42 l0 x27_1).f2), .int .i64 ((rd_T42 l0 x27_1).f3), .int .i64 0]) ?_ 4 _ rfl; (with_reducible repeat (first | apply bN_ | apply bD_ | apply bA_)); refine blk_put (cs := #[.int .i64 ((rd_T42 l0 x27_1).f0), .int .i64 ((rd_T42 l0 x27_1).f1), .int .i64 ((rd_T42 l0 x27_1).f2), .int .i64 0, .int .i64 0]) ?_ 3 _ rfl; (with_reducible repeat (first | apply bN_ | apply bD_ | apply bA_)); refine blk_put (cs := #[.int .i64 ((rd_T42 l0 x27_1).f0), .int .i64 ((rd_T42 l0 x27_1).f1), .int .i64 0, .int .i64 0, .int .i64 0]) ?_ 2 _ rfl; (with_reducible repeat (first | apply bN_ | apply bD_ | apply bA_)); refine blk_put (cs := #[.int .i64 ((rd_T42 l0 x27_1).f0), .int .i64 0, .int .i64 0, .int .i64 0, .int .i64 0]) ?_ 1 _ rfl; (with_reducible repeat (first | apply bN_ | apply bD_ | apply bA_)); refine blk_put (cs := #[.int .i64 0, .int .i64 0, .int .i64 0, .int .i64 0, .int .i64 0]) ?_ 0 _ rfl; exact bk_) hb); have n3_ := bl_ hb; clear HO_4; clear HO_5; clear BK121; clear HB; have HO_4 := n0_; have HO_5 := n1_; have BK121 := n2_; have HB := n3_; clear n0_ n1_ n2_ n3_; (try clear hb); (try clear hb2); (try clear hk); (try clear hi); obtain ⟨zc37_0, zc37_1, zc37_2, zc37_3, zc37_4, zf37_0, zf37_1, zf37_2, zf37_3, zf37_4⟩ := k5_ BK121) | ((with_reducible refine gate_callee (f := 32) rfl ?_); refine gM_ 36 Try.func32 (flow_jumps.calls ((rd_T42 l0 x27_1).f0) ((rd_T42 l0 x27_1).f1) ((rd_T42 l0 x27_1).f2) ((rd_T42 l0 x27_1).f3) ((rd_T42 l0 x27_1).f4) false _ A10.out) ?_; intro w38 hb; replace HO_4 := Aside0.mk (Kd.R_below (by (with_reducible repeat (first | apply Kd.R_alloc | apply Kd.R_drewN | apply Kd.R_drew)); exact HO_4.out) hb); replace HO_5 := Aside0.mk (Kd.R_below (by (with_reducible repeat (first | apply Kd.R_alloc | apply Kd.R_drewN | apply Kd.R_drew)); exact HO_5.out) hb); replace BK121 := bb_ hb BK121; replace HB := bl_ hb; (try clear hb); (try clear hb2); (try clear hk); (try clear hi)) | ((with_reducible refine gate_builtin (b := .append) (xs := #[.tmp 55, .tmp 57]) rfl ?_); (try (refine gate_guard (by rfl) ?_; dsimp only)); at_builtin; refine Kd.R_append (Kd.int .i64) (w0 := w) w.heap.size rfl (.tmp 55) (.tmp 57) 26 3 (.int .i64 0) 8 rfl Try.underlying26 info3 rfl (by decide) (by omega) u5 x5_1 (-1) [.int .i64 (-1)] (fun k_ => some k_ ≠ (v118 : Value).ownBlock) (fun _ => False) rfl rfl ?aP (fun _ hk => hk.elim) ?aF ?aO ?aB ?aS ?aL ?_; (case aP => exact rfl); (case aB => exact bz_); (case aF => exact (fun k_ hk => Kd.fresh' (Kd.R_lt (by (with_reducible repeat (first | apply Kd.R_alloc | apply Kd.R_drewN | apply Kd.R_drew)); exact HO_4.out)) k_ hk)); (case aO => exact (by (with_reducible repeat (first | apply Kd.R_alloc | apply Kd.R_drewN | apply Kd.R_drew)); exact HO_5.out)); (case aS => exact (below_size bz_)); (case aL => have := LMc33.out; omega); intro v132 w39 ho hb hg hat; rw [← Ny131.out] at ho; have n0_ := Aside0.mk (Kd.R_after (ok := (fun _ => True)) (by (with_reducible repeat (first | apply Kd.R_alloc | apply Kd.R_drewN | apply Kd.R_drew)); exact Kd.R_mono HO_4.out (fun _ hk => ⟨trivial, hk⟩)) hg hat); have n1_ := Aside0.mk (blk_grown (g := gb121) (o := .cells #[.int .i64 ((rd_T42 l0 x27_1).f0), .int .i64 ((rd_T42 l0 x27_1).f1), .int .i64 ((rd_T42 l0 x27_1).f2), .int .i64 ((rd_T42 l0 x27_1).f3), .int .i64 ((rd_T42 l0 x27_1).f4)] 42 (0, 0)) bk_ hg (Kd.R_ne HO_5.out BK121.out (by decide))); have n2_ := Aside0.mk (hb); have n3_ := Aside0.mk (ho); clear HO_4; clear BK121; clear HB; clear HO_5; have HO_4 := n0_; have BK121 := n1_; have HB := n2_; have HO133 := n3_; clear n0_ n1_ n2_ n3_; clear ho hb hg hat))
          go_roundg k1
          case measure => have := HK1.out; omega
          case rel => exact ⟨(y131), (wrap64 (x6_1 + t122)), (wrap64 (x27_1 + 1)), (by first | rfl | (simp; done) | (simp [*]; done)), (by first | rfl | (simp; done) | (simp [*]; done)), H', ⟨by have := HK1.out; omega⟩, ⟨by (with_reducible repeat (first | apply Kd.R_alloc | apply Kd.R_drewN | apply Kd.R_drew)); exact Kd.R_mono HO_4.out (fun _ hk => hk.2)⟩, ⟨by (with_reducible repeat (first | apply Kd.R_alloc | apply Kd.R_drewN | apply Kd.R_drew)); exact HO133.out⟩, ⟨bz_⟩⟩
         ·rw [if_neg c33] at H
          exact absurd H (by simp)
       ·rw [if_neg c8] at H
        exact absurd H (by simp)
      ·rw [if_neg c7] at H
       exact absurd H (by simp)
     ·rw [if_neg c6] at H
      have c6b0 : decide (x27_1 < (l0.length : Int)) = false := decide_eq_false c6
      clear c6
      obtain ⟨ji40, hji40⟩ : ∃ j_ : Int, (wrap64 ((l0.length : Int) - 1)) = j_ := ⟨_, rfl⟩
      replace H : (if 0 ≤ (ji40) then (if (ji40) < (l0.length : Int) then ((flow_is.f ((rd_T42 l0 (ji40)).f0) ((rd_T42 l0 (ji40)).f1) ((rd_T42 l0 (ji40)).f2) ((rd_T42 l0 (ji40)).f3) ((rd_T42 l0 (ji40)).f4) 9).bind fun t136 => (if t136 = true then (some (x5_1, 0)) else ((flow_is.f ((rd_T42 l0 (ji40)).f0) ((rd_T42 l0 (ji40)).f1) ((rd_T42 l0 (ji40)).f2) ((rd_T42 l0 (ji40)).f3) ((rd_T42 l0 (ji40)).f4) 0).bind fun t137 => (if t137 = true then (some (x5_1, 0)) else (some (([] : List Int), 8)))))) else (none)) else (none)) = some (r1, r2) := by first | (rw [hji40] at H; exact H) | (simp only [hji40] at H ⊢; exact H)
      have hji40w : (IntKind.i64.wrap ((l0.length : Int) - 1)) = ji40 := (i64_w _).trans hji40
      by_cases c41 : 0 ≤ (ji40)
      ·rw [if_pos c41] at H
       have c41b0 : decide (0 ≤ (ji40)) = true := decide_eq_true c41
       clear c41
       by_cases c42 : (ji40) < (l0.length : Int)
       ·rw [if_pos c42] at H
        have c42b0 : decide ((ji40) < (l0.length : Int)) = true := decide_eq_true c42
        clear c42
        replace H := Option.bind_eq_some_iff.mp H
        obtain ⟨t136, A430, H⟩ := H
        replace H : (if t136 = true then (some (x5_1, 0)) else ((flow_is.f ((rd_T42 l0 (ji40)).f0) ((rd_T42 l0 (ji40)).f1) ((rd_T42 l0 (ji40)).f2) ((rd_T42 l0 (ji40)).f3) ((rd_T42 l0 (ji40)).f4) 0).bind fun t137 => (if t137 = true then (some (x5_1, 0)) else (some (([] : List Int), 8))))) = some (r1, r2) := H
        have A43 := Aside0.mk A430
        clear A430
        by_cases c44 : t136 = true
        ·subst c44
         have H1 : (some (x5_1, 0)) = some (r1, r2) := by rw [if_pos rfl] at H; exact H
         clear H
         have H := H1
         clear H1
         simp only [Option.some.injEq, Prod.mk.injEq] at H
         obtain ⟨rfl, rfl⟩ := H
         have p134 : 0 ≤ ((ji40) : Int) := of_decide_eq_true (by first | (with_reducible assumption) | assumption)
         have q134 : (ji40) < (l0.length : Int) := of_decide_eq_true (by first | (with_reducible assumption) | assumption)
         obtain ⟨ad134, e134, hx134_0, hx134_1, hx134_2, hx134_3, hx134_4⟩ := at_T42 HR0.out (ji40) p134 q134
         cases e134
         replace hx134_0 := (HB.out.cell (World.block_lt_of_cell? w _ hx134_0)).trans hx134_0
         replace hx134_1 := (HB.out.cell (World.block_lt_of_cell? w _ hx134_1)).trans hx134_1
         replace hx134_2 := (HB.out.cell (World.block_lt_of_cell? w _ hx134_2)).trans hx134_2
         replace hx134_3 := (HB.out.cell (World.block_lt_of_cell? w _ hx134_3)).trans hx134_3
         replace hx134_4 := (HB.out.cell (World.block_lt_of_cell? w _ hx134_4)).trans hx134_4
         replace p134 := eq_true p134
         replace q134 := eq_true q134
         go_wp2_with (first | ((with_reducible refine gate_dst (N := 11) rfl ?_); (try (refine gate_guard (by rfl) ?_; dsimp only)); refine bx_ 11 #[.int .i64 0, .int .i64 0, .int .i64 0, .int .i64 0, .int .i64 0] 42 ?_; intro gb135 hg w45 BK135 hb; have GW135 := bg_ hg; have GE135 := GW135; replace HO_4 := Aside0.mk (Kd.R_below (by (with_reducible repeat (first | apply Kd.R_alloc | apply Kd.R_drewN | apply Kd.R_drew)); exact HO_4.out) hb); replace HO_5 := Aside0.mk (Kd.R_below (by (with_reducible repeat (first | apply Kd.R_alloc | apply Kd.R_drewN | apply Kd.R_drew)); exact HO_5.out) hb); replace HB := bl_ hb; clear hb hg; obtain ⟨zc46_0, zc46_1, zc46_2, zc46_3, zc46_4, zf46_0, zf46_1, zf46_2, zf46_3, zf46_4⟩ := k5_ BK135) | ((with_reducible refine gate_callee (f := 33) rfl ?_); refine goesL_ (some 67) rfl rfl Try.func33 (by kernel_rfl) rfl #[.agg #[.int .i64 ((rd_T42 l0 (ji40)).f0), .int .i64 ((rd_T42 l0 (ji40)).f1), .int .i64 ((rd_T42 l0 (ji40)).f2), .int .i64 ((rd_T42 l0 (ji40)).f3), .int .i64 ((rd_T42 l0 (ji40)).f4)], .int .i64 9] rfl (by (try simp only [List.map_toArray, List.map_cons, List.map_nil]); first | done | (simp only [hji40]; rfl) | rfl | (simp only [List.length_drop, List.length_take]; rfl)) ?_; (with_reducible refine (flow_is.calls ((rd_T42 l0 (ji40)).f0) ((rd_T42 l0 (ji40)).f1) ((rd_T42 l0 (ji40)).f2) ((rd_T42 l0 (ji40)).f3) ((rd_T42 l0 (ji40)).f4) 9 true _ A43.out).mono ?_); rintro e w47 ⟨rfl, hb⟩; refine ⟨_, rfl, ?_⟩; have n0_ := Aside0.mk (Kd.R_below (by (with_reducible repeat (first | apply Kd.R_alloc | apply Kd.R_drewN | apply Kd.R_drew)); exact (Kd.R_mono (Kd.R_far (p := ⟨gb135, 4, none⟩) (Kd.R_far (p := ⟨gb135, 3, none⟩) (Kd.R_far (p := ⟨gb135, 2, none⟩) (Kd.R_far (p := ⟨gb135, 1, none⟩) (Kd.R_far (p := ⟨gb135, 0, none⟩) (Kd.R_types HO_4.out BK135.out (by decide)) (fun _ hk => hk.2) (.int .i64 ((rd_T42 l0 (ji40)).f0))) (fun _ hk => hk.2) (.int .i64 ((rd_T42 l0 (ji40)).f1))) (fun _ hk => hk.2) (.int .i64 ((rd_T42 l0 (ji40)).f2))) (fun _ hk => hk.2) (.int .i64 ((rd_T42 l0 (ji40)).f3))) (fun _ hk => hk.2) (.int .i64 ((rd_T42 l0 (ji40)).f4))) (fun _ h_ => h_.1))) hb); have n1_ := Aside0.mk (Kd.R_below (by (with_reducible repeat (first | apply Kd.R_alloc | apply Kd.R_drewN | apply Kd.R_drew)); exact (Kd.R_mono (Kd.R_far (p := ⟨gb135, 4, none⟩) (Kd.R_far (p := ⟨gb135, 3, none⟩) (Kd.R_far (p := ⟨gb135, 2, none⟩) (Kd.R_far (p := ⟨gb135, 1, none⟩) (Kd.R_far (p := ⟨gb135, 0, none⟩) (Kd.R_types HO_5.out BK135.out (by decide)) (fun _ hk => hk.2) (.int .i64 ((rd_T42 l0 (ji40)).f0))) (fun _ hk => hk.2) (.int .i64 ((rd_T42 l0 (ji40)).f1))) (fun _ hk => hk.2) (.int .i64 ((rd_T42 l0 (ji40)).f2))) (fun _ hk => hk.2) (.int .i64 ((rd_T42 l0 (ji40)).f3))) (fun _ hk => hk.2) (.int .i64 ((rd_T42 l0 (ji40)).f4))) (fun _ h_ => h_.1))) hb); have n2_ := Aside0.mk (blk_below (g := gb135) (o := .cells #[.int .i64 ((rd_T42 l0 (ji40)).f0), .int .i64 ((rd_T42 l0 (ji40)).f1), .int .i64 ((rd_T42 l0 (ji40)).f2), .int .i64 ((rd_T42 l0 (ji40)).f3), .int .i64 ((rd_T42 l0 (ji40)).f4)] 42 (0, 0)) (by (with_reducible repeat (first | apply bN_ | apply bD_ | apply bA_)); refine blk_put (cs := #[.int .i64 ((rd_T42 l0 (ji40)).f0), .int .i64 ((rd_T42 l0 (ji40)).f1), .int .i64 ((rd_T42 l0 (ji40)).f2), .int .i64 ((rd_T42 l0 (ji40)).f3), .int .i64 0]) ?_ 4 _ rfl; (with_reducible repeat (first | apply bN_ | apply bD_ | apply bA_)); refine blk_put (cs := #[.int .i64 ((rd_T42 l0 (ji40)).f0), .int .i64 ((rd_T42 l0 (ji40)).f1), .int .i64 ((rd_T42 l0 (ji40)).f2), .int .i64 0, .int .i64 0]) ?_ 3 _ rfl; (with_reducible repeat (first | apply bN_ | apply bD_ | apply bA_)); refine blk_put (cs := #[.int .i64 ((rd_T42 l0 (ji40)).f0), .int .i64 ((rd_T42 l0 (ji40)).f1), .int .i64 0, .int .i64 0, .int .i64 0]) ?_ 2 _ rfl; (with_reducible repeat (first | apply bN_ | apply bD_ | apply bA_)); refine blk_put (cs := #[.int .i64 ((rd_T42 l0 (ji40)).f0), .int .i64 0, .int .i64 0, .int .i64 0, .int .i64 0]) ?_ 1 _ rfl; (with_reducible repeat (first | apply bN_ | apply bD_ | apply bA_)); refine blk_put (cs := #[.int .i64 0, .int .i64 0, .int .i64 0, .int .i64 0, .int .i64 0]) ?_ 0 _ rfl; exact bk_) hb); have n3_ := bl_ hb; clear HO_4; clear HO_5; clear BK135; clear HB; have HO_4 := n0_; have HO_5 := n1_; have BK135 := n2_; have HB := n3_; clear n0_ n1_ n2_ n3_; (try clear hb); (try clear hb2); (try clear hk); (try clear hi)))
         go_ret2
         exact ⟨_, by first | rfl | (simp [errW_none, errW_some] <;> rfl) | (simp only [← hji40]; first | rfl | (simp [errW_none, errW_some] <;> rfl)) | (simp [*, errW_none, errW_some] <;> rfl), by (with_reducible repeat (first | apply Kd.R_alloc | apply Kd.R_drewN | apply Kd.R_drew)); exact Kd.R_mono HO_5.out (fun _ hk => trivial), bz_⟩
        ·replace c44 := Bool.eq_false_iff.mpr c44
         subst c44
         have H1 : ((flow_is.f ((rd_T42 l0 (ji40)).f0) ((rd_T42 l0 (ji40)).f1) ((rd_T42 l0 (ji40)).f2) ((rd_T42 l0 (ji40)).f3) ((rd_T42 l0 (ji40)).f4) 0).bind fun t137 => (if t137 = true then (some (x5_1, 0)) else (some (([] : List Int), 8)))) = some (r1, r2) := by rw [if_neg (show ¬ (false = true) by decide)] at H; exact H
         clear H
         have H := H1
         clear H1
         replace H := Option.bind_eq_some_iff.mp H
         obtain ⟨t137, A480, H⟩ := H
         replace H : (if t137 = true then (some (x5_1, 0)) else (some (([] : List Int), 8))) = some (r1, r2) := H
         have A48 := Aside0.mk A480
         clear A480
         by_cases c49 : t137 = true
         ·subst c49
          have H1 : (some (x5_1, 0)) = some (r1, r2) := by rw [if_pos rfl] at H; exact H
          clear H
          have H := H1
          clear H1
          simp only [Option.some.injEq, Prod.mk.injEq] at H
          obtain ⟨rfl, rfl⟩ := H
          have p134 : 0 ≤ ((ji40) : Int) := of_decide_eq_true (by first | (with_reducible assumption) | assumption)
          have q134 : (ji40) < (l0.length : Int) := of_decide_eq_true (by first | (with_reducible assumption) | assumption)
          obtain ⟨ad134, e134, hx134_0, hx134_1, hx134_2, hx134_3, hx134_4⟩ := at_T42 HR0.out (ji40) p134 q134
          cases e134
          replace hx134_0 := (HB.out.cell (World.block_lt_of_cell? w _ hx134_0)).trans hx134_0
          replace hx134_1 := (HB.out.cell (World.block_lt_of_cell? w _ hx134_1)).trans hx134_1
          replace hx134_2 := (HB.out.cell (World.block_lt_of_cell? w _ hx134_2)).trans hx134_2
          replace hx134_3 := (HB.out.cell (World.block_lt_of_cell? w _ hx134_3)).trans hx134_3
          replace hx134_4 := (HB.out.cell (World.block_lt_of_cell? w _ hx134_4)).trans hx134_4
          replace p134 := eq_true p134
          replace q134 := eq_true q134
          go_wp2_with (first | ((with_reducible refine gate_dst (N := 11) rfl ?_); (try (refine gate_guard (by rfl) ?_; dsimp only)); refine bx_ 11 #[.int .i64 0, .int .i64 0, .int .i64 0, .int .i64 0, .int .i64 0] 42 ?_; intro gb135 hg w50 BK135 hb; have GW135 := bg_ hg; have GE135 := GW135; replace HO_4 := Aside0.mk (Kd.R_below (by (with_reducible repeat (first | apply Kd.R_alloc | apply Kd.R_drewN | apply Kd.R_drew)); exact HO_4.out) hb); replace HO_5 := Aside0.mk (Kd.R_below (by (with_reducible repeat (first | apply Kd.R_alloc | apply Kd.R_drewN | apply Kd.R_drew)); exact HO_5.out) hb); replace HB := bl_ hb; clear hb hg; obtain ⟨zc51_0, zc51_1, zc51_2, zc51_3, zc51_4, zf51_0, zf51_1, zf51_2, zf51_3, zf51_4⟩ := k5_ BK135) | ((with_reducible refine gate_callee (f := 33) rfl ?_); refine goesL_ (some 67) rfl rfl Try.func33 (by kernel_rfl) rfl #[.agg #[.int .i64 ((rd_T42 l0 (ji40)).f0), .int .i64 ((rd_T42 l0 (ji40)).f1), .int .i64 ((rd_T42 l0 (ji40)).f2), .int .i64 ((rd_T42 l0 (ji40)).f3), .int .i64 ((rd_T42 l0 (ji40)).f4)], .int .i64 9] rfl (by (try simp only [List.map_toArray, List.map_cons, List.map_nil]); first | done | (simp only [hji40]; rfl) | rfl | (simp only [List.length_drop, List.length_take]; rfl)) ?_; (with_reducible refine (flow_is.calls ((rd_T42 l0 (ji40)).f0) ((rd_T42 l0 (ji40)).f1) ((rd_T42 l0 (ji40)).f2) ((rd_T42 l0 (ji40)).f3) ((rd_T42 l0 (ji40)).f4) 9 false _ A43.out).mono ?_); rintro e w52 ⟨rfl, hb⟩; refine ⟨_, rfl, ?_⟩; have n0_ := Aside0.mk (Kd.R_below (by (with_reducible repeat (first | apply Kd.R_alloc | apply Kd.R_drewN | apply Kd.R_drew)); exact (Kd.R_mono (Kd.R_far (p := ⟨gb135, 4, none⟩) (Kd.R_far (p := ⟨gb135, 3, none⟩) (Kd.R_far (p := ⟨gb135, 2, none⟩) (Kd.R_far (p := ⟨gb135, 1, none⟩) (Kd.R_far (p := ⟨gb135, 0, none⟩) (Kd.R_types HO_4.out BK135.out (by decide)) (fun _ hk => hk.2) (.int .i64 ((rd_T42 l0 (ji40)).f0))) (fun _ hk => hk.2) (.int .i64 ((rd_T42 l0 (ji40)).f1))) (fun _ hk => hk.2) (.int .i64 ((rd_T42 l0 (ji40)).f2))) (fun _ hk => hk.2) (.int .i64 ((rd_T42 l0 (ji40)).f3))) (fun _ hk => hk.2) (.int .i64 ((rd_T42 l0 (ji40)).f4))) (fun _ h_ => h_.1))) hb); have n1_ := Aside0.mk (Kd.R_below (by (with_reducible repeat (first | apply Kd.R_alloc | apply Kd.R_drewN | apply Kd.R_drew)); exact (Kd.R_mono (Kd.R_far (p := ⟨gb135, 4, none⟩) (Kd.R_far (p := ⟨gb135, 3, none⟩) (Kd.R_far (p := ⟨gb135, 2, none⟩) (Kd.R_far (p := ⟨gb135, 1, none⟩) (Kd.R_far (p := ⟨gb135, 0, none⟩) (Kd.R_types HO_5.out BK135.out (by decide)) (fun _ hk => hk.2) (.int .i64 ((rd_T42 l0 (ji40)).f0))) (fun _ hk => hk.2) (.int .i64 ((rd_T42 l0 (ji40)).f1))) (fun _ hk => hk.2) (.int .i64 ((rd_T42 l0 (ji40)).f2))) (fun _ hk => hk.2) (.int .i64 ((rd_T42 l0 (ji40)).f3))) (fun _ hk => hk.2) (.int .i64 ((rd_T42 l0 (ji40)).f4))) (fun _ h_ => h_.1))) hb); have n2_ := Aside0.mk (blk_below (g := gb135) (o := .cells #[.int .i64 ((rd_T42 l0 (ji40)).f0), .int .i64 ((rd_T42 l0 (ji40)).f1), .int .i64 ((rd_T42 l0 (ji40)).f2), .int .i64 ((rd_T42 l0 (ji40)).f3), .int .i64 ((rd_T42 l0 (ji40)).f4)] 42 (0, 0)) (by (with_reducible repeat (first | apply bN_ | apply bD_ | apply bA_)); refine blk_put (cs := #[.int .i64 ((rd_T42 l0 (ji40)).f0), .int .i64 ((rd_T42 l0 (ji40)).f1), .int .i64 ((rd_T42 l0 (ji40)).f2), .int .i64 ((rd_T42 l0 (ji40)).f3), .int .i64 0]) ?_ 4 _ rfl; (with_reducible repeat (first | apply bN_ | apply bD_ | apply bA_)); refine blk_put (cs := #[.int .i64 ((rd_T42 l0 (ji40)).f0), .int .i64 ((rd_T42 l0 (ji40)).f1), .int .i64 ((rd_T42 l0 (ji40)).f2), .int .i64 0, .int .i64 0]) ?_ 3 _ rfl; (with_reducible repeat (first | apply bN_ | apply bD_ | apply bA_)); refine blk_put (cs := #[.int .i64 ((rd_T42 l0 (ji40)).f0), .int .i64 ((rd_T42 l0 (ji40)).f1), .int .i64 0, .int .i64 0, .int .i64 0]) ?_ 2 _ rfl; (with_reducible repeat (first | apply bN_ | apply bD_ | apply bA_)); refine blk_put (cs := #[.int .i64 ((rd_T42 l0 (ji40)).f0), .int .i64 0, .int .i64 0, .int .i64 0, .int .i64 0]) ?_ 1 _ rfl; (with_reducible repeat (first | apply bN_ | apply bD_ | apply bA_)); refine blk_put (cs := #[.int .i64 0, .int .i64 0, .int .i64 0, .int .i64 0, .int .i64 0]) ?_ 0 _ rfl; exact bk_) hb); have n3_ := bl_ hb; clear HO_4; clear HO_5; clear BK135; clear HB; have HO_4 := n0_; have HO_5 := n1_; have BK135 := n2_; have HB := n3_; clear n0_ n1_ n2_ n3_; (try clear hb); (try clear hb2); (try clear hk); (try clear hi); obtain ⟨zc53_0, zc53_1, zc53_2, zc53_3, zc53_4, zf53_0, zf53_1, zf53_2, zf53_3, zf53_4⟩ := k5_ BK135) | (go_at_call 33; (with_reducible refine (flow_is.calls ((rd_T42 l0 (ji40)).f0) ((rd_T42 l0 (ji40)).f1) ((rd_T42 l0 (ji40)).f2) ((rd_T42 l0 (ji40)).f3) ((rd_T42 l0 (ji40)).f4) 0 true _ A48.out).mono ?_); rintro e w54 ⟨rfl, hb⟩; replace HO_4 := Aside0.mk (Kd.R_below (by (with_reducible repeat (first | apply Kd.R_alloc | apply Kd.R_drewN | apply Kd.R_drew)); exact HO_4.out) hb); replace HO_5 := Aside0.mk (Kd.R_below (by (with_reducible repeat (first | apply Kd.R_alloc | apply Kd.R_drewN | apply Kd.R_drew)); exact HO_5.out) hb); replace BK135 := Aside0.mk (blk_below (g := gb135) (o := .cells #[.int .i64 ((rd_T42 l0 (ji40)).f0), .int .i64 ((rd_T42 l0 (ji40)).f1), .int .i64 ((rd_T42 l0 (ji40)).f2), .int .i64 ((rd_T42 l0 (ji40)).f3), .int .i64 ((rd_T42 l0 (ji40)).f4)] 42 (0, 0)) bk_ hb); replace HB := bl_ hb; (try clear hb); (try clear hb2); (try clear hk); (try clear hi)))
          go_ret2
          exact ⟨_, by first | rfl | (simp [errW_none, errW_some] <;> rfl) | (simp only [← hji40]; first | rfl | (simp [errW_none, errW_some] <;> rfl)) | (simp [*, errW_none, errW_some] <;> rfl), by (with_reducible repeat (first | apply Kd.R_alloc | apply Kd.R_drewN | apply Kd.R_drew)); exact Kd.R_mono HO_5.out (fun _ hk => trivial), bz_⟩
         ·replace c49 := Bool.eq_false_iff.mpr c49
          subst c49
          have H1 : (some (([] : List Int), 8)) = some (r1, r2) := by rw [if_neg (show ¬ (false = true) by decide)] at H; exact H
          clear H
          have H := H1
          clear H1
          simp only [Option.some.injEq, Prod.mk.injEq] at H
          obtain ⟨rfl, rfl⟩ := H
          have p134 : 0 ≤ ((ji40) : Int) := of_decide_eq_true (by first | (with_reducible assumption) | assumption)
          have q134 : (ji40) < (l0.length : Int) := of_decide_eq_true (by first | (with_reducible assumption) | assumption)
          obtain ⟨ad134, e134, hx134_0, hx134_1, hx134_2, hx134_3, hx134_4⟩ := at_T42 HR0.out (ji40) p134 q134
          cases e134
          replace hx134_0 := (HB.out.cell (World.block_lt_of_cell? w _ hx134_0)).trans hx134_0
          replace hx134_1 := (HB.out.cell (World.block_lt_of_cell? w _ hx134_1)).trans hx134_1
          replace hx134_2 := (HB.out.cell (World.block_lt_of_cell? w _ hx134_2)).trans hx134_2
          replace hx134_3 := (HB.out.cell (World.block_lt_of_cell? w _ hx134_3)).trans hx134_3
          replace hx134_4 := (HB.out.cell (World.block_lt_of_cell? w _ hx134_4)).trans hx134_4
          replace p134 := eq_true p134
          replace q134 := eq_true q134
          go_wp2_with (first | ((with_reducible refine gate_dst (N := 11) rfl ?_); (try (refine gate_guard (by rfl) ?_; dsimp only)); refine bx_ 11 #[.int .i64 0, .int .i64 0, .int .i64 0, .int .i64 0, .int .i64 0] 42 ?_; intro gb135 hg w55 BK135 hb; have GW135 := bg_ hg; have GE135 := GW135; replace HO_4 := Aside0.mk (Kd.R_below (by (with_reducible repeat (first | apply Kd.R_alloc | apply Kd.R_drewN | apply Kd.R_drew)); exact HO_4.out) hb); replace HO_5 := Aside0.mk (Kd.R_below (by (with_reducible repeat (first | apply Kd.R_alloc | apply Kd.R_drewN | apply Kd.R_drew)); exact HO_5.out) hb); replace HB := bl_ hb; clear hb hg; obtain ⟨zc56_0, zc56_1, zc56_2, zc56_3, zc56_4, zf56_0, zf56_1, zf56_2, zf56_3, zf56_4⟩ := k5_ BK135) | ((with_reducible refine gate_callee (f := 33) rfl ?_); refine goesL_ (some 67) rfl rfl Try.func33 (by kernel_rfl) rfl #[.agg #[.int .i64 ((rd_T42 l0 (ji40)).f0), .int .i64 ((rd_T42 l0 (ji40)).f1), .int .i64 ((rd_T42 l0 (ji40)).f2), .int .i64 ((rd_T42 l0 (ji40)).f3), .int .i64 ((rd_T42 l0 (ji40)).f4)], .int .i64 9] rfl (by (try simp only [List.map_toArray, List.map_cons, List.map_nil]); first | done | (simp only [hji40]; rfl) | rfl | (simp only [List.length_drop, List.length_take]; rfl)) ?_; (with_reducible refine (flow_is.calls ((rd_T42 l0 (ji40)).f0) ((rd_T42 l0 (ji40)).f1) ((rd_T42 l0 (ji40)).f2) ((rd_T42 l0 (ji40)).f3) ((rd_T42 l0 (ji40)).f4) 9 false _ A43.out).mono ?_); rintro e w57 ⟨rfl, hb⟩; refine ⟨_, rfl, ?_⟩; have n0_ := Aside0.mk (Kd.R_below (by (with_reducible repeat (first | apply Kd.R_alloc | apply Kd.R_drewN | apply Kd.R_drew)); exact (Kd.R_mono (Kd.R_far (p := ⟨gb135, 4, none⟩) (Kd.R_far (p := ⟨gb135, 3, none⟩) (Kd.R_far (p := ⟨gb135, 2, none⟩) (Kd.R_far (p := ⟨gb135, 1, none⟩) (Kd.R_far (p := ⟨gb135, 0, none⟩) (Kd.R_types HO_4.out BK135.out (by decide)) (fun _ hk => hk.2) (.int .i64 ((rd_T42 l0 (ji40)).f0))) (fun _ hk => hk.2) (.int .i64 ((rd_T42 l0 (ji40)).f1))) (fun _ hk => hk.2) (.int .i64 ((rd_T42 l0 (ji40)).f2))) (fun _ hk => hk.2) (.int .i64 ((rd_T42 l0 (ji40)).f3))) (fun _ hk => hk.2) (.int .i64 ((rd_T42 l0 (ji40)).f4))) (fun _ h_ => h_.1))) hb); have n1_ := Aside0.mk (Kd.R_below (by (with_reducible repeat (first | apply Kd.R_alloc | apply Kd.R_drewN | apply Kd.R_drew)); exact (Kd.R_mono (Kd.R_far (p := ⟨gb135, 4, none⟩) (Kd.R_far (p := ⟨gb135, 3, none⟩) (Kd.R_far (p := ⟨gb135, 2, none⟩) (Kd.R_far (p := ⟨gb135, 1, none⟩) (Kd.R_far (p := ⟨gb135, 0, none⟩) (Kd.R_types HO_5.out BK135.out (by decide)) (fun _ hk => hk.2) (.int .i64 ((rd_T42 l0 (ji40)).f0))) (fun _ hk => hk.2) (.int .i64 ((rd_T42 l0 (ji40)).f1))) (fun _ hk => hk.2) (.int .i64 ((rd_T42 l0 (ji40)).f2))) (fun _ hk => hk.2) (.int .i64 ((rd_T42 l0 (ji40)).f3))) (fun _ hk => hk.2) (.int .i64 ((rd_T42 l0 (ji40)).f4))) (fun _ h_ => h_.1))) hb); have n2_ := Aside0.mk (blk_below (g := gb135) (o := .cells #[.int .i64 ((rd_T42 l0 (ji40)).f0), .int .i64 ((rd_T42 l0 (ji40)).f1), .int .i64 ((rd_T42 l0 (ji40)).f2), .int .i64 ((rd_T42 l0 (ji40)).f3), .int .i64 ((rd_T42 l0 (ji40)).f4)] 42 (0, 0)) (by (with_reducible repeat (first | apply bN_ | apply bD_ | apply bA_)); refine blk_put (cs := #[.int .i64 ((rd_T42 l0 (ji40)).f0), .int .i64 ((rd_T42 l0 (ji40)).f1), .int .i64 ((rd_T42 l0 (ji40)).f2), .int .i64 ((rd_T42 l0 (ji40)).f3), .int .i64 0]) ?_ 4 _ rfl; (with_reducible repeat (first | apply bN_ | apply bD_ | apply bA_)); refine blk_put (cs := #[.int .i64 ((rd_T42 l0 (ji40)).f0), .int .i64 ((rd_T42 l0 (ji40)).f1), .int .i64 ((rd_T42 l0 (ji40)).f2), .int .i64 0, .int .i64 0]) ?_ 3 _ rfl; (with_reducible repeat (first | apply bN_ | apply bD_ | apply bA_)); refine blk_put (cs := #[.int .i64 ((rd_T42 l0 (ji40)).f0), .int .i64 ((rd_T42 l0 (ji40)).f1), .int .i64 0, .int .i64 0, .int .i64 0]) ?_ 2 _ rfl; (with_reducible repeat (first | apply bN_ | apply bD_ | apply bA_)); refine blk_put (cs := #[.int .i64 ((rd_T42 l0 (ji40)).f0), .int .i64 0, .int .i64 0, .int .i64 0, .int .i64 0]) ?_ 1 _ rfl; (with_reducible repeat (first | apply bN_ | apply bD_ | apply bA_)); refine blk_put (cs := #[.int .i64 0, .int .i64 0, .int .i64 0, .int .i64 0, .int .i64 0]) ?_ 0 _ rfl; exact bk_) hb); have n3_ := bl_ hb; clear HO_4; clear HO_5; clear BK135; clear HB; have HO_4 := n0_; have HO_5 := n1_; have BK135 := n2_; have HB := n3_; clear n0_ n1_ n2_ n3_; (try clear hb); (try clear hb2); (try clear hk); (try clear hi); obtain ⟨zc58_0, zc58_1, zc58_2, zc58_3, zc58_4, zf58_0, zf58_1, zf58_2, zf58_3, zf58_4⟩ := k5_ BK135) | (go_at_call 33; (with_reducible refine (flow_is.calls ((rd_T42 l0 (ji40)).f0) ((rd_T42 l0 (ji40)).f1) ((rd_T42 l0 (ji40)).f2) ((rd_T42 l0 (ji40)).f3) ((rd_T42 l0 (ji40)).f4) 0 false _ A48.out).mono ?_); rintro e w59 ⟨rfl, hb⟩; replace HO_4 := Aside0.mk (Kd.R_below (by (with_reducible repeat (first | apply Kd.R_alloc | apply Kd.R_drewN | apply Kd.R_drew)); exact HO_4.out) hb); replace HO_5 := Aside0.mk (Kd.R_below (by (with_reducible repeat (first | apply Kd.R_alloc | apply Kd.R_drewN | apply Kd.R_drew)); exact HO_5.out) hb); replace BK135 := Aside0.mk (blk_below (g := gb135) (o := .cells #[.int .i64 ((rd_T42 l0 (ji40)).f0), .int .i64 ((rd_T42 l0 (ji40)).f1), .int .i64 ((rd_T42 l0 (ji40)).f2), .int .i64 ((rd_T42 l0 (ji40)).f3), .int .i64 ((rd_T42 l0 (ji40)).f4)] 42 (0, 0)) bk_ hb); replace HB := bl_ hb; (try clear hb); (try clear hb2); (try clear hk); (try clear hi)))
          go_ret2
          exact ⟨_, by first | rfl | (simp [errW_none, errW_some] <;> rfl) | (simp only [← hji40]; first | rfl | (simp [errW_none, errW_some] <;> rfl)) | (simp [*, errW_none, errW_some] <;> rfl), by first | exact Kd.R_nil _ _ _ _ _ | exact Kd.N_nil _ _ _ _ _ | exact Kd.V_nil _ _ _ _ _ | exact Kd.Q_nil _ _ _ _ _ | exact Kd.S_nil _ _ _ _ _, bz_⟩
       ·rw [if_neg c42] at H
        exact absurd H (by simp)
      ·rw [if_neg c41] at H
       exact absurd H (by simp)

end Go.Proofs.Ytkcneaaoghgllaa.PA
