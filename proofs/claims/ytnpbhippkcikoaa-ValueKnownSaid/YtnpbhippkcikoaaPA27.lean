-- PRINTED by print.py (a twelfth state) out of the translation. Not trusted: Lean checks it.
import Derived.Test.YtnpbhippkcikoaaWTab
import Derived.Test.YtnpbhippkcikoaaPA0
import Derived.Test.YtnpbhippkcikoaaSq
import Derived.Test.YtnpbhippkcikoaaPA1
import Derived.Test.YtnpbhippkcikoaaPA3
import Derived.Test.YtnpbhippkcikoaaPA4
import Derived.Test.YtnpbhippkcikoaaPA7
import Derived.Test.YtnpbhippkcikoaaPA8
import Derived.Test.YtnpbhippkcikoaaPA9
import Derived.Test.YtnpbhippkcikoaaPA10
import Derived.Test.YtnpbhippkcikoaaPA20
namespace Go.Proofs.Ytnpbhippkcikoaa.PA
open Go.RowKit Go.Proofs.YtnpbhippkcikoaaW.PrintWords Go.Proofs.YtnpbhippkcikoaaW.PrintLast Go.Proofs.YtnpbhippkcikoaaW.PrintMore
attribute [local go_sem] max2_int min2_int max_two min_two max_three min_three max_four min_four   -- for this text's walks alone
set_option linter.unusedVariables false
set_option linter.unusedSimpArgs false

attribute [local go_sem high] eqA24
/-! ### lockgatelaw14_ValueNumbers: function 9 -/
mutual
def lockgatelaw14_ValueNumbers.j0 : Nat → Int → Bool → Int → Int → Int → Bool → Option (Bool)
 | 0, _, _, _, _, _, _ => none
 | k + 1, x0, x1, x2, x3, x4, x59 => if x59 = true then (some false) else ((value_Num.f x2).bind fun bt437 => ((value_Num.f x3).bind fun bt440 => ((value_Compare.f k x0 x1 bt437.1 bt437.2.1 bt437.2.2 bt440.1 bt440.2.1 bt440.2.2 x4).bind fun bt443 => ((word_Jump.f k x0 x1 x2 x3).bind fun bt445 => (if bt445.2 = true then (if bt443.2 = 0 then (if (bt443.1 != bt445.1) = true then (lockgatelaw14_ValueNumbers.j1 k x0 x1 x2 true) else (lockgatelaw14_ValueNumbers.j1 k x0 x1 x2 false)) else (lockgatelaw14_ValueNumbers.j1 k x0 x1 x2 true)) else (lockgatelaw14_ValueNumbers.j1 k x0 x1 x2 (bt443.2 != 4)))))))
def lockgatelaw14_ValueNumbers.j1 : Nat → Int → Bool → Int → Bool → Option (Bool)
 | 0, _, _, _, _ => none
 | k + 1, x0, x1, x2, x96 => if x96 = true then (some false) else ((value_Num.f x2).bind fun bt447 => ((value_Swap.f k x0 x1 bt447.1 bt447.2.1 bt447.2.2).bind fun bt450 => ((word_Swap.f k x0 x1 x2).bind fun bt455 => (if bt455.2 = true then (if bt450.2.2.2 = 0 then ((value_Num.f bt455.1).bind fun bt457 => (if (bt450.1 == bt457.1 && (bt450.2.1 == bt457.2.1 && (bt450.2.2.1 == bt457.2.2))) = true then ((lockgatelaw14_works.f k).bind fun t460 => (some t460)) else (some false))) else (some false)) else (if bt450.2.2.2 = 1 then ((lockgatelaw14_works.f k).bind fun t461 => (some t461)) else (some false))))))
end
def lockgatelaw14_ValueNumbers.f (k : Nat) (a0 : Int) (a1 : Bool) (a2 : Int) (a3 : Int) (a4 : Int) : Option (Bool) := (value_Num.f a2).bind fun bt421 => ((value_Num.f a3).bind fun bt424 => ((value_Alu.f k a0 a1 bt421.1 bt421.2.1 bt421.2.2 bt424.1 bt424.2.1 bt424.2.2).bind fun bt427 => ((word_Alu.f k a0 a1 a2 a3).bind fun bt432 => (if bt432.2 = true then (if bt427.2.2.2 = 0 then ((value_Num.f bt432.1).bind fun bt434 => (if (!(bt427.1 == bt434.1) || (!(bt427.2.1 == bt434.2.1) || (!(bt427.2.2.1 == bt434.2.2)))) = true then (lockgatelaw14_ValueNumbers.j0 k a0 a1 a2 a3 a4 true) else (lockgatelaw14_ValueNumbers.j0 k a0 a1 a2 a3 a4 false))) else (lockgatelaw14_ValueNumbers.j0 k a0 a1 a2 a3 a4 true)) else (lockgatelaw14_ValueNumbers.j0 k a0 a1 a2 a3 a4 (bt427.2.2.2 != 4))))))
theorem lockgatelaw14_ValueNumbers.mono_l : ∀ k, (∀ y0 y1 y2 y3 y4 y5, LeO (lockgatelaw14_ValueNumbers.j0 k y0 y1 y2 y3 y4 y5) (lockgatelaw14_ValueNumbers.j0 (k + 1) y0 y1 y2 y3 y4 y5)) ∧ (∀ y0 y1 y2 y3, LeO (lockgatelaw14_ValueNumbers.j1 k y0 y1 y2 y3) (lockgatelaw14_ValueNumbers.j1 (k + 1) y0 y1 y2 y3))
 | 0 => ⟨fun _ _ _ _ _ _ r h => by simp [lockgatelaw14_ValueNumbers.j0] at h, fun _ _ _ _ r h => by simp [lockgatelaw14_ValueNumbers.j1] at h⟩
 | k + 1 => by
  obtain ⟨ih0, ih1⟩ := lockgatelaw14_ValueNumbers.mono_l k
  refine ⟨?_, ?_⟩
  ·intro y0 y1 y2 y3 y4 y5
   unfold lockgatelaw14_ValueNumbers.j0
   repeat' first
   | (with_reducible exact ih0 _ _ _ _ _ _)
   | (with_reducible exact ih1 _ _ _ _)
   | (with_reducible exact lockgatelaw14_works.mono _)
   | (with_reducible exact value_Alu.mono _ _ _ _ _ _ _ _ _)
   | (with_reducible exact value_Compare.mono _ _ _ _ _ _ _ _ _ _)
   | (with_reducible exact value_Swap.mono _ _ _ _ _ _)
   | (with_reducible exact word_Alu.mono _ _ _ _ _)
   | (with_reducible exact word_Jump.mono _ _ _ _ _)
   | (with_reducible exact word_Swap.mono _ _ _ _)
   | (with_reducible exact LeO.refl _)
   | (with_reducible exact LeO.none _)
   | (with_reducible refine LeO.ite ?_ ?_)
   | (with_reducible refine LeO.bind ?_ (fun _ => ?_))
   | exact ih0 _ _ _ _ _ _
   | exact ih1 _ _ _ _
   | exact lockgatelaw14_works.mono _
   | exact value_Alu.mono _ _ _ _ _ _ _ _ _
   | exact value_Compare.mono _ _ _ _ _ _ _ _ _ _
   | exact value_Swap.mono _ _ _ _ _ _
   | exact word_Alu.mono _ _ _ _ _
   | exact word_Jump.mono _ _ _ _ _
   | exact word_Swap.mono _ _ _ _
   | exact LeO.none _
   | refine LeO.ite ?_ ?_
   | refine LeO.bind ?_ (fun _ => ?_)
  ·intro y0 y1 y2 y3
   unfold lockgatelaw14_ValueNumbers.j1
   repeat' first
   | (with_reducible exact ih0 _ _ _ _ _ _)
   | (with_reducible exact ih1 _ _ _ _)
   | (with_reducible exact lockgatelaw14_works.mono _)
   | (with_reducible exact value_Alu.mono _ _ _ _ _ _ _ _ _)
   | (with_reducible exact value_Compare.mono _ _ _ _ _ _ _ _ _ _)
   | (with_reducible exact value_Swap.mono _ _ _ _ _ _)
   | (with_reducible exact word_Alu.mono _ _ _ _ _)
   | (with_reducible exact word_Jump.mono _ _ _ _ _)
   | (with_reducible exact word_Swap.mono _ _ _ _)
   | (with_reducible exact LeO.refl _)
   | (with_reducible exact LeO.none _)
   | (with_reducible refine LeO.ite ?_ ?_)
   | (with_reducible refine LeO.bind ?_ (fun _ => ?_))
   | exact ih0 _ _ _ _ _ _
   | exact ih1 _ _ _ _
   | exact lockgatelaw14_works.mono _
   | exact value_Alu.mono _ _ _ _ _ _ _ _ _
   | exact value_Compare.mono _ _ _ _ _ _ _ _ _ _
   | exact value_Swap.mono _ _ _ _ _ _
   | exact word_Alu.mono _ _ _ _ _
   | exact word_Jump.mono _ _ _ _ _
   | exact word_Swap.mono _ _ _ _
   | exact LeO.none _
   | refine LeO.ite ?_ ?_
   | refine LeO.bind ?_ (fun _ => ?_)
theorem lockgatelaw14_ValueNumbers.mono : ∀ a0 a1 a2 a3 a4 k, LeO (lockgatelaw14_ValueNumbers.f k a0 a1 a2 a3 a4) (lockgatelaw14_ValueNumbers.f (k + 1) a0 a1 a2 a3 a4) := by
 intro a0 a1 a2 a3 a4 k
 obtain ⟨ih0, ih1⟩ := lockgatelaw14_ValueNumbers.mono_l k
 unfold lockgatelaw14_ValueNumbers.f
 repeat' first
  | (with_reducible exact ih0 _ _ _ _ _ _)
  | (with_reducible exact ih1 _ _ _ _)
  | (with_reducible exact lockgatelaw14_works.mono _)
  | (with_reducible exact value_Alu.mono _ _ _ _ _ _ _ _ _)
  | (with_reducible exact value_Compare.mono _ _ _ _ _ _ _ _ _ _)
  | (with_reducible exact value_Swap.mono _ _ _ _ _ _)
  | (with_reducible exact word_Alu.mono _ _ _ _ _)
  | (with_reducible exact word_Jump.mono _ _ _ _ _)
  | (with_reducible exact word_Swap.mono _ _ _ _)
  | (with_reducible exact LeO.refl _)
  | (with_reducible exact LeO.none _)
  | (with_reducible refine LeO.ite ?_ ?_)
  | (with_reducible refine LeO.bind ?_ (fun _ => ?_))
  | exact ih0 _ _ _ _ _ _
  | exact ih1 _ _ _ _
  | exact lockgatelaw14_works.mono _
  | exact value_Alu.mono _ _ _ _ _ _ _ _ _
  | exact value_Compare.mono _ _ _ _ _ _ _ _ _ _
  | exact value_Swap.mono _ _ _ _ _ _
  | exact word_Alu.mono _ _ _ _ _
  | exact word_Jump.mono _ _ _ _ _
  | exact word_Swap.mono _ _ _ _
  | exact LeO.none _
  | refine LeO.ite ?_ ?_
  | refine LeO.bind ?_ (fun _ => ?_)
def lockgatelaw14_ValueNumbers.T3 : Bool × List (List Nat × List Nat) := (true, [([], []), ([0], [0]), ([1], [1]), ([2, 1], [1, 2]), ([3, 1, 1], [1, 3]), ([4], [4]), ([4], [4]), ([6, 4, 4], [4, 6]), ([5, 7, 4], [4, 5, 7]), ([4, 8, 1], [1, 4, 8]), ([1, 9], [1, 9]), ([10, 7], [10]), ([11], [11]), ([12, 11], [11, 12]), ([13, 11, 11], [11, 13]), ([14], [14]), ([15, 14], [14, 15]), ([14, 16, 11], [11, 14, 16]), ([11, 17], [11, 17])])
def lockgatelaw14_ValueNumbers.B3 : List Nat := [0, 1, 3, 7, 15, 31, 31, 95, 255, 511, 1023, 2047, 4095, 8191, 16383, 32767, 65535, 131071, 262143]
theorem lockgatelaw14_ValueNumbers.tab3 : rtab .any (opsOf Try.f9 3) = lockgatelaw14_ValueNumbers.T3 := by kernel_rfl
theorem lockgatelaw14_ValueNumbers.bits3 : waitsOk lockgatelaw14_ValueNumbers.T3.2 lockgatelaw14_ValueNumbers.B3 = true := by kernel_rfl
def lockgatelaw14_ValueNumbers.T11 : Bool × List (List Nat × List Nat) := (true, [([], []), ([0], [0]), ([1], [1]), ([2, 1], [1, 2]), ([1, 3], [1, 3]), ([4, 1], [4]), ([5], [5]), ([5], [5]), ([7, 5, 5], [5, 7]), ([6, 8, 5], [5, 6, 8]), ([5, 9], [5, 9]), ([10, 8], [10]), ([11], [11]), ([12, 11], [11, 12]), ([13, 11, 11], [11, 13]), ([14], [14]), ([15, 14], [14, 15]), ([14, 16, 11], [11, 14, 16]), ([11, 17], [11, 17]), ([18, 14], [18]), ([19, 19], [19]), ([19, 20], [19, 20]), ([21, 20, 0, 1, 2, 3, 4, 5, 6, 7, 8, 9, 10, 11, 12, 13, 14, 15, 16, 17, 18, 19, 20, 21], [21])])
def lockgatelaw14_ValueNumbers.B11 : List Nat := [0, 1, 3, 7, 15, 31, 63, 63, 191, 511, 1023, 2047, 4095, 8191, 16383, 32767, 65535, 131071, 262143, 524287, 1048575, 2097151, 4194303]
theorem lockgatelaw14_ValueNumbers.tab11 : rtab .any (opsOf Try.f9 11) = lockgatelaw14_ValueNumbers.T11 := by kernel_rfl
theorem lockgatelaw14_ValueNumbers.bits11 : waitsOk lockgatelaw14_ValueNumbers.T11.2 lockgatelaw14_ValueNumbers.B11 = true := by kernel_rfl
set_option maxHeartbeats 8000000 in
set_option maxRecDepth 100000 in
theorem lockgatelaw14_ValueNumbers.calls (k : Nat) (a0 : Int) (a1 : Bool) (a2 : Int) (a3 : Int) (a4 : Int) (r : Bool) (w : World) (HRT : Aside0 (r = true)) (h : lockgatelaw14_ValueNumbers.f k a0 a1 a2 a3 a4 = some r) :
 Calls Try.prog 9 #[.int .i64 a0, .bool a1, .int .u64 a2, .int .u64 a3, .int .i64 a4] w fun e w' => e = .returned (.bool r) ∧ Below w.heap.size w w' := by
 have hu24 := Try.underlying24
 have HB := Aside0.mk (Below.refl w.heap.size w)
 have H : ((value_Num.f a2).bind fun bt421 => ((value_Num.f a3).bind fun bt424 => ((value_Alu.f k a0 a1 bt421.1 bt421.2.1 bt421.2.2 bt424.1 bt424.2.1 bt424.2.2).bind fun bt427 => ((word_Alu.f k a0 a1 a2 a3).bind fun bt432 => (if bt432.2 = true then (if bt427.2.2.2 = 0 then ((value_Num.f bt432.1).bind fun bt434 => (if (!(bt427.1 == bt434.1) || (!(bt427.2.1 == bt434.2.1) || (!(bt427.2.2.1 == bt434.2.2)))) = true then (lockgatelaw14_ValueNumbers.j0 k a0 a1 a2 a3 a4 true) else (lockgatelaw14_ValueNumbers.j0 k a0 a1 a2 a3 a4 false))) else (lockgatelaw14_ValueNumbers.j0 k a0 a1 a2 a3 a4 true)) else (lockgatelaw14_ValueNumbers.j0 k a0 a1 a2 a3 a4 (bt427.2.2.2 != 4))))))) = some r := h
 clear h
 replace H := Option.bind_eq_some_iff.mp H
 obtain ⟨⟨t421, t422, t423⟩, A60, H⟩ := H
 replace H : ((value_Num.f a3).bind fun bt424 => ((value_Alu.f k a0 a1 t421 t422 t423 bt424.1 bt424.2.1 bt424.2.2).bind fun bt427 => ((word_Alu.f k a0 a1 a2 a3).bind fun bt432 => (if bt432.2 = true then (if bt427.2.2.2 = 0 then ((value_Num.f bt432.1).bind fun bt434 => (if (!(bt427.1 == bt434.1) || (!(bt427.2.1 == bt434.2.1) || (!(bt427.2.2.1 == bt434.2.2)))) = true then (lockgatelaw14_ValueNumbers.j0 k a0 a1 a2 a3 a4 true) else (lockgatelaw14_ValueNumbers.j0 k a0 a1 a2 a3 a4 false))) else (lockgatelaw14_ValueNumbers.j0 k a0 a1 a2 a3 a4 true)) else (lockgatelaw14_ValueNumbers.j0 k a0 a1 a2 a3 a4 (bt427.2.2.2 != 4)))))) = some r := H
 have A6 := Aside0.mk A60
 clear A60
 replace H := Option.bind_eq_some_iff.mp H
 obtain ⟨⟨t424, t425, t426⟩, A70, H⟩ := H
 replace H : ((value_Alu.f k a0 a1 t421 t422 t423 t424 t425 t426).bind fun bt427 => ((word_Alu.f k a0 a1 a2 a3).bind fun bt432 => (if bt432.2 = true then (if bt427.2.2.2 = 0 then ((value_Num.f bt432.1).bind fun bt434 => (if (!(bt427.1 == bt434.1) || (!(bt427.2.1 == bt434.2.1) || (!(bt427.2.2.1 == bt434.2.2)))) = true then (lockgatelaw14_ValueNumbers.j0 k a0 a1 a2 a3 a4 true) else (lockgatelaw14_ValueNumbers.j0 k a0 a1 a2 a3 a4 false))) else (lockgatelaw14_ValueNumbers.j0 k a0 a1 a2 a3 a4 true)) else (lockgatelaw14_ValueNumbers.j0 k a0 a1 a2 a3 a4 (bt427.2.2.2 != 4))))) = some r := H
 have A7 := Aside0.mk A70
 clear A70
 replace H := Option.bind_eq_some_iff.mp H
 obtain ⟨⟨t427, t428, t429, t430⟩, A80, H⟩ := H
 replace H : ((word_Alu.f k a0 a1 a2 a3).bind fun bt432 => (if bt432.2 = true then (if t430 = 0 then ((value_Num.f bt432.1).bind fun bt434 => (if (!(t427 == bt434.1) || (!(t428 == bt434.2.1) || (!(t429 == bt434.2.2)))) = true then (lockgatelaw14_ValueNumbers.j0 k a0 a1 a2 a3 a4 true) else (lockgatelaw14_ValueNumbers.j0 k a0 a1 a2 a3 a4 false))) else (lockgatelaw14_ValueNumbers.j0 k a0 a1 a2 a3 a4 true)) else (lockgatelaw14_ValueNumbers.j0 k a0 a1 a2 a3 a4 (t430 != 4)))) = some r := H
 have A8 := Aside0.mk A80
 clear A80
 replace H := Option.bind_eq_some_iff.mp H
 obtain ⟨⟨t432, t433⟩, A90, H⟩ := H
 replace H : (if t433 = true then (if t430 = 0 then ((value_Num.f t432).bind fun bt434 => (if (!(t427 == bt434.1) || (!(t428 == bt434.2.1) || (!(t429 == bt434.2.2)))) = true then (lockgatelaw14_ValueNumbers.j0 k a0 a1 a2 a3 a4 true) else (lockgatelaw14_ValueNumbers.j0 k a0 a1 a2 a3 a4 false))) else (lockgatelaw14_ValueNumbers.j0 k a0 a1 a2 a3 a4 true)) else (lockgatelaw14_ValueNumbers.j0 k a0 a1 a2 a3 a4 (t430 != 4))) = some r := H
 have A9 := Aside0.mk A90
 clear A90
 have HC10 := Aside0.mk H
 clear H
 go_enter Try.func9, Try.ntmps9
 go_upto_region 3 with (first | ((with_reducible refine gate_callee (f := 15) rfl ?_); refine gM_ 27 Try.func15 (value_Num.calls a2 t421 t422 t423 _ A6.out) ?_; intro w11 hb; replace HB := bl_ hb; (try clear hb); (try clear hb2); (try clear hk); (try clear hi)) | ((with_reducible refine gate_callee (f := 15) rfl ?_); refine gM_ 29 Try.func15 (value_Num.calls a3 t424 t425 t426 _ A7.out) ?_; intro w12 hb; replace HB := bl_ hb; (try clear hb); (try clear hb2); (try clear hk); (try clear hi)) | ((with_reducible refine gate_callee (f := 11) rfl ?_); refine gM_ 30 Try.func11 (value_Alu.calls k a0 a1 t421 t422 t423 t424 t425 t426 t427 t428 t429 t430 _ A8.out) ?_; intro w13 hb; replace HB := bl_ hb; (try clear hb); (try clear hb2); (try clear hk); (try clear hi)) | ((with_reducible refine gate_dst (N := 11) rfl ?_); refine bx_ 11 #[.int .i64 0, .int .u64 0, .int .i64 0] 24 ?_; intro gb431 hg w14 BK431 hb; have GW431 := bg_ hg; have GE431 := GW431; replace HB := bl_ hb; clear hb hg; obtain ⟨zc15_0, zc15_1, zc15_2, zf15_0, zf15_1, zf15_2⟩ := k3_ BK431) | ((with_reducible refine gate_callee (f := 24) rfl ?_); refine gM_ 38 Try.func24 (word_Alu.calls k a0 a1 a2 a3 t432 t433 _ A9.out) ?_; rintro w' ⟨nd, rfl⟩))
 (try simp only [Act.put, s1_, s2_, s3_])
 go_cut [59] (fun v59 wc => ∃ (kq : Nat) (x59_9 : Bool), v59 = .bool x59_9 ∧ Aside0 (lockgatelaw14_ValueNumbers.j0 kq a0 a1 a2 a3 a4 x59_9 = some r) ∧ Aside0 (kq ≤ k) ∧ Aside0 (wc.heap[gb431]? = some (.cells #[.int .i64 t427, .int .u64 t428, .int .i64 t429] 24 (0, 0))) ∧ Aside0 (Below w.heap.size w wc))
 case first =>
  have H := HC10.out
  clear HC10
  by_cases c16 : t433 = true
  ·subst c16
   have H1 : (if t430 = 0 then ((value_Num.f t432).bind fun bt434 => (if (!(t427 == bt434.1) || (!(t428 == bt434.2.1) || (!(t429 == bt434.2.2)))) = true then (lockgatelaw14_ValueNumbers.j0 k a0 a1 a2 a3 a4 true) else (lockgatelaw14_ValueNumbers.j0 k a0 a1 a2 a3 a4 false))) else (lockgatelaw14_ValueNumbers.j0 k a0 a1 a2 a3 a4 true)) = some r := by rw [if_pos rfl] at H; exact H
   clear H
   have H := H1
   clear H1
   by_cases c17 : t430 = 0
   ·rw [if_pos c17] at H
    have c17b0 : (t430 == 0) = true := beq_iff_eq.mpr c17
    have c17b1 : (t430 != 0) = false := bne_eq_false_iff_eq.mpr c17
    clear c17
    (first | rw [c17b0] | (simp only [i64_w, i32_w]; rw [c17b0]) | skip)
    replace H := Option.bind_eq_some_iff.mp H
    obtain ⟨⟨t434, t435, t436⟩, A180, H⟩ := H
    replace H : (if (!(t427 == t434) || (!(t428 == t435) || (!(t429 == t436)))) = true then (lockgatelaw14_ValueNumbers.j0 k a0 a1 a2 a3 a4 true) else (lockgatelaw14_ValueNumbers.j0 k a0 a1 a2 a3 a4 false)) = some r := H
    have A18 := Aside0.mk A180
    clear A180
    by_cases c19 : (!(t427 == t434) || (!(t428 == t435) || (!(t429 == t436)))) = true
    ·rw [if_pos c19] at H
     have c19b0 : (!(t427 == t434) || (!(t428 == t435) || (!(t429 == t436)))) = true := c19
     clear c19
     exfalso
     cases k with
     | zero => rw [lockgatelaw14_ValueNumbers.j0] at H; exact nomatch H
     | succ q_ => rw [lockgatelaw14_ValueNumbers.j0, if_pos rfl] at H; exact absurd ((Option.some.inj H).trans HRT.out) (by decide)
    ·rw [if_neg c19] at H
     have c19b0 : (!(t427 == t434) || (!(t428 == t435) || (!(t429 == t436)))) = false := by simpa using c19
     clear c19
     have H' := Aside0.mk H
     clear H
     try go_wp2
     have n0_ : Aside0 ((((w14.setCell ⟨gb431, 0, none⟩ (.int .i64 t427)).setCell ⟨gb431, 1, none⟩ (.int .u64 t428)).setCell ⟨gb431, 2, none⟩ (.int .i64 t429)).heap[gb431]? = some (.cells #[.int .i64 t427, .int .u64 t428, .int .i64 t429] 24 (0, 0))) := ⟨by (with_reducible repeat (first | apply bN_ | apply bD_ | apply bA_)); refine blk_put (cs := #[.int .i64 t427, .int .u64 t428, .int .i64 0]) ?_ 2 _ rfl; (with_reducible repeat (first | apply bN_ | apply bD_ | apply bA_)); refine blk_put (cs := #[.int .i64 t427, .int .u64 0, .int .i64 0]) ?_ 1 _ rfl; (with_reducible repeat (first | apply bN_ | apply bD_ | apply bA_)); refine blk_put (cs := #[.int .i64 0, .int .u64 0, .int .i64 0]) ?_ 0 _ rfl; exact bk_⟩
     have n1_ : Aside0 (Below w.heap.size w (((w14.setCell ⟨gb431, 0, none⟩ (.int .i64 t427)).setCell ⟨gb431, 1, none⟩ (.int .u64 t428)).setCell ⟨gb431, 2, none⟩ (.int .i64 t429))) := ⟨bz_⟩
     (try clear BK431)
     (try clear HB)
     (first | (replace n0_ := Aside0.mk (by first | exact blk_drewN n0_.out nd | exact pw_below_drewN n0_.out nd); replace n1_ := Aside0.mk (by first | exact blk_drewN n1_.out nd | exact pw_below_drewN n1_.out nd); generalize hG_ : (((w14.setCell ⟨gb431, 0, none⟩ (.int .i64 t427)).setCell ⟨gb431, 1, none⟩ (.int .u64 t428)).setCell ⟨gb431, 2, none⟩ (.int .i64 t429)).drewN nd = w20 at n0_ n1_ ⊢; clear hG_) | generalize (((w14.setCell ⟨gb431, 0, none⟩ (.int .i64 t427)).setCell ⟨gb431, 1, none⟩ (.int .u64 t428)).setCell ⟨gb431, 2, none⟩ (.int .i64 t429)) = w20 at n0_ n1_ ⊢)
     have BK431 := n0_
     have HB := n1_
     clear n0_ n1_
     replace BK431 := Aside0.mk (blk_drew BK431.out)
     replace HB := Aside0.mk (below_drew1 HB.out)
     refine start_ (n := 19) (S := fun w' => w'.cell? ⟨gb431, 0, none⟩ = some (.int .i64 t427) ∧ w'.cell? ⟨gb431, 1, none⟩ = some (.int .u64 t428) ∧ w'.cell? ⟨gb431, 2, none⟩ = some (.int .i64 t429)) (ds := []) #[n_,n_,n_,n_,n_,n_,n_,n_,n_,n_,n_,n_,n_,n_,n_,n_,n_,n_,n_] (by kernel_rfl) rfl rfl ⟨c0_ BK431, c1_ BK431, c2_ BK431⟩ (fun hHeld => ?_); refine with_tabW lockgatelaw14_ValueNumbers.tab3 lockgatelaw14_ValueNumbers.bits3 (fun HT_ HW_ => ?_)
     generalize w20.drew = w21 at BK431 HB hHeld ⊢
     refine pq_ 0 41 #[y_,n_,n_,n_,n_,n_,n_,n_,n_,n_,n_,n_,n_,n_,n_,n_,n_,n_,n_] ?_
     refine pq_ 1 42 #[y_,y_,n_,n_,n_,n_,n_,n_,n_,n_,n_,n_,n_,n_,n_,n_,n_,n_,n_] ?_
     refine pq_ 2 43 #[y_,y_,y_,n_,n_,n_,n_,n_,n_,n_,n_,n_,n_,n_,n_,n_,n_,n_,n_] ?_
     refine pq_ 3 44 #[y_,y_,y_,y_,n_,n_,n_,n_,n_,n_,n_,n_,n_,n_,n_,n_,n_,n_,n_] ?_
     refine pq_ 4 45 #[y_,y_,y_,y_,y_,n_,n_,n_,n_,n_,n_,n_,n_,n_,n_,n_,n_,n_,n_] ?_
     refine pq_ 6 47 #[y_,y_,y_,y_,y_,n_,y_,n_,n_,n_,n_,n_,n_,n_,n_,n_,n_,n_,n_] ?_
     refine tq2_ 5 46 #[y_,y_,y_,y_,y_,y_,y_,n_,n_,n_,n_,n_,n_,n_,n_,n_,n_,n_,n_] hHeld ?_
     refine one_ (i := 7) (N := some 48) #[y_,y_,y_,y_,y_,y_,y_,y_,n_,n_,n_,n_,n_,n_,n_,n_,n_,n_,n_] rfl rfl (one_of HT_.out (by kernel_rfl)) (by decide) (fun K hK => ?_)
     refine goes_ Try.func15 (by kernel_rfl) rfl #[.int .u64 t432] (by rfl) rfl rfl mp_ ?_
     with_reducible refine (value_Num.calls t432 t434 t435 t436 _ A18.out).mono ?_
     rintro e w22 ⟨rfl, hb⟩
     refine ⟨_, rfl, ?_⟩
     replace BK431 := bb_ hb BK431
     replace HB := bl_ hb
     try clear hb
     refine hK.out _ _ ⟨c0_ BK431, c1_ BK431, c2_ BK431⟩ (fun hHeld => ?_)
     clear hK K
     refine norm_ (a' := ?_) ?_ ?_
     rotate_left
     ·show Act.put _ (some 48) _ = _
      simp only [Act.put, s1_, s2_, s3_, i64_w, i32_w]
      rfl
     refine pq_ 8 49 #[y_,y_,y_,y_,y_,y_,y_,y_,y_,n_,n_,n_,n_,n_,n_,n_,n_,n_,n_] ?_
     refine pq_ 9 50 #[y_,y_,y_,y_,y_,y_,y_,y_,y_,y_,n_,n_,n_,n_,n_,n_,n_,n_,n_] ?_
     refine pq_ 10 51 #[y_,y_,y_,y_,y_,y_,y_,y_,y_,y_,y_,n_,n_,n_,n_,n_,n_,n_,n_] ?_
     refine pq_ 11 52 #[y_,y_,y_,y_,y_,y_,y_,y_,y_,y_,y_,y_,n_,n_,n_,n_,n_,n_,n_] ?_
     refine pq_ 12 53 #[y_,y_,y_,y_,y_,y_,y_,y_,y_,y_,y_,y_,y_,n_,n_,n_,n_,n_,n_] ?_
     refine pq_ 13 54 #[y_,y_,y_,y_,y_,y_,y_,y_,y_,y_,y_,y_,y_,y_,n_,n_,n_,n_,n_] ?_
     refine pq_ 14 55 #[y_,y_,y_,y_,y_,y_,y_,y_,y_,y_,y_,y_,y_,y_,y_,n_,n_,n_,n_] ?_
     refine pu_ 15 56 #[y_,y_,y_,y_,y_,y_,y_,y_,y_,y_,y_,y_,y_,y_,y_,y_,n_,n_,n_] ?_
     refine pu_ 16 57 #[y_,y_,y_,y_,y_,y_,y_,y_,y_,y_,y_,y_,y_,y_,y_,y_,y_,n_,n_] ?_
     refine pq_ 17 58 #[y_,y_,y_,y_,y_,y_,y_,y_,y_,y_,y_,y_,y_,y_,y_,y_,y_,y_,n_] ?_
     refine pq_ 18 59 #[y_,y_,y_,y_,y_,y_,y_,y_,y_,y_,y_,y_,y_,y_,y_,y_,y_,y_,y_] ?_
     refine done_ (done_of HT_.out (by kernel_rfl)) ?_
     try go_wp2
     go_meet
     case rel => exact ⟨_, (false), (by first | rfl | (simp; done) | (simp [*]; done)), H', ⟨by first | omega | exact Nat.le_refl _⟩, ⟨bk_⟩, ⟨bz_⟩⟩
   ·rw [if_neg c17] at H
    have c17b0 : (t430 == 0) = false := beq_eq_false_iff_ne.mpr c17
    have c17b1 : (t430 != 0) = true := bne_iff_ne.mpr c17
    (first | rw [c17b0] | (simp only [i64_w, i32_w]; rw [c17b0]) | skip)
    exfalso
    cases k with
    | zero => rw [lockgatelaw14_ValueNumbers.j0] at H; exact nomatch H
    | succ q_ => rw [lockgatelaw14_ValueNumbers.j0, if_pos rfl] at H; exact absurd ((Option.some.inj H).trans HRT.out) (by decide)
  ·replace c16 := Bool.eq_false_iff.mpr c16
   subst c16
   have H1 : (lockgatelaw14_ValueNumbers.j0 k a0 a1 a2 a3 a4 (t430 != 4)) = some r := by rw [if_neg (show ¬ (false = true) by decide)] at H; exact H
   clear H
   have H := H1
   clear H1
   have H' := Aside0.mk H
   clear H
   try go_wp2
   have n0_ : Aside0 ((((w14.setCell ⟨gb431, 0, none⟩ (.int .i64 t427)).setCell ⟨gb431, 1, none⟩ (.int .u64 t428)).setCell ⟨gb431, 2, none⟩ (.int .i64 t429)).heap[gb431]? = some (.cells #[.int .i64 t427, .int .u64 t428, .int .i64 t429] 24 (0, 0))) := ⟨by (with_reducible repeat (first | apply bN_ | apply bD_ | apply bA_)); refine blk_put (cs := #[.int .i64 t427, .int .u64 t428, .int .i64 0]) ?_ 2 _ rfl; (with_reducible repeat (first | apply bN_ | apply bD_ | apply bA_)); refine blk_put (cs := #[.int .i64 t427, .int .u64 0, .int .i64 0]) ?_ 1 _ rfl; (with_reducible repeat (first | apply bN_ | apply bD_ | apply bA_)); refine blk_put (cs := #[.int .i64 0, .int .u64 0, .int .i64 0]) ?_ 0 _ rfl; exact bk_⟩
   have n1_ : Aside0 (Below w.heap.size w (((w14.setCell ⟨gb431, 0, none⟩ (.int .i64 t427)).setCell ⟨gb431, 1, none⟩ (.int .u64 t428)).setCell ⟨gb431, 2, none⟩ (.int .i64 t429))) := ⟨bz_⟩
   (try clear BK431)
   (try clear HB)
   (first | (replace n0_ := Aside0.mk (by first | exact blk_drewN n0_.out nd | exact pw_below_drewN n0_.out nd); replace n1_ := Aside0.mk (by first | exact blk_drewN n1_.out nd | exact pw_below_drewN n1_.out nd); generalize hG_ : (((w14.setCell ⟨gb431, 0, none⟩ (.int .i64 t427)).setCell ⟨gb431, 1, none⟩ (.int .u64 t428)).setCell ⟨gb431, 2, none⟩ (.int .i64 t429)).drewN nd = w23 at n0_ n1_ ⊢; clear hG_) | generalize (((w14.setCell ⟨gb431, 0, none⟩ (.int .i64 t427)).setCell ⟨gb431, 1, none⟩ (.int .u64 t428)).setCell ⟨gb431, 2, none⟩ (.int .i64 t429)) = w23 at n0_ n1_ ⊢)
   have BK431 := n0_
   have HB := n1_
   clear n0_ n1_
   replace BK431 := Aside0.mk (blk_drew BK431.out)
   replace HB := Aside0.mk (below_drew1 HB.out)
   refine start_ (n := 19) (S := fun w' => True) (ds := []) #[n_,n_,n_,n_,n_,n_,n_,n_,n_,n_,n_,n_,n_,n_,n_,n_,n_,n_,n_] (by kernel_rfl) rfl rfl trivial (fun hHeld => ?_); refine with_tabW lockgatelaw14_ValueNumbers.tab3 lockgatelaw14_ValueNumbers.bits3 (fun HT_ HW_ => ?_)
   generalize w23.drew = w24 at BK431 HB hHeld ⊢
   refine pq_ 0 41 #[y_,n_,n_,n_,n_,n_,n_,n_,n_,n_,n_,n_,n_,n_,n_,n_,n_,n_,n_] ?_
   refine pq_ 1 42 #[y_,y_,n_,n_,n_,n_,n_,n_,n_,n_,n_,n_,n_,n_,n_,n_,n_,n_,n_] ?_
   refine pu_ 2 43 #[y_,y_,y_,n_,n_,n_,n_,n_,n_,n_,n_,n_,n_,n_,n_,n_,n_,n_,n_] ?_
   refine pu_ 3 44 #[y_,y_,y_,y_,n_,n_,n_,n_,n_,n_,n_,n_,n_,n_,n_,n_,n_,n_,n_] ?_
   refine pu_ 4 45 #[y_,y_,y_,y_,y_,n_,n_,n_,n_,n_,n_,n_,n_,n_,n_,n_,n_,n_,n_] ?_
   refine pu_ 5 46 #[y_,y_,y_,y_,y_,y_,n_,n_,n_,n_,n_,n_,n_,n_,n_,n_,n_,n_,n_] ?_
   refine pu_ 6 47 #[y_,y_,y_,y_,y_,y_,y_,n_,n_,n_,n_,n_,n_,n_,n_,n_,n_,n_,n_] ?_
   refine pu_ 7 48 #[y_,y_,y_,y_,y_,y_,y_,y_,n_,n_,n_,n_,n_,n_,n_,n_,n_,n_,n_] ?_
   refine pu_ 8 49 #[y_,y_,y_,y_,y_,y_,y_,y_,y_,n_,n_,n_,n_,n_,n_,n_,n_,n_,n_] ?_
   refine pu_ 9 50 #[y_,y_,y_,y_,y_,y_,y_,y_,y_,y_,n_,n_,n_,n_,n_,n_,n_,n_,n_] ?_
   refine pq_ 10 51 #[y_,y_,y_,y_,y_,y_,y_,y_,y_,y_,y_,n_,n_,n_,n_,n_,n_,n_,n_] ?_
   refine pq_ 11 52 #[y_,y_,y_,y_,y_,y_,y_,y_,y_,y_,y_,y_,n_,n_,n_,n_,n_,n_,n_] ?_
   refine pq_ 12 53 #[y_,y_,y_,y_,y_,y_,y_,y_,y_,y_,y_,y_,y_,n_,n_,n_,n_,n_,n_] ?_
   refine pq_ 13 54 #[y_,y_,y_,y_,y_,y_,y_,y_,y_,y_,y_,y_,y_,y_,n_,n_,n_,n_,n_] ?_
   refine pq_ 14 55 #[y_,y_,y_,y_,y_,y_,y_,y_,y_,y_,y_,y_,y_,y_,y_,n_,n_,n_,n_] ?_
   refine pq_ 15 56 #[y_,y_,y_,y_,y_,y_,y_,y_,y_,y_,y_,y_,y_,y_,y_,y_,n_,n_,n_] ?_
   refine pq_ 16 57 #[y_,y_,y_,y_,y_,y_,y_,y_,y_,y_,y_,y_,y_,y_,y_,y_,y_,n_,n_] ?_
   refine pq_ 17 58 #[y_,y_,y_,y_,y_,y_,y_,y_,y_,y_,y_,y_,y_,y_,y_,y_,y_,y_,n_] ?_
   refine pq_ 18 59 #[y_,y_,y_,y_,y_,y_,y_,y_,y_,y_,y_,y_,y_,y_,y_,y_,y_,y_,y_] ?_
   refine done_ (done_of HT_.out (by kernel_rfl)) ?_
   try go_wp2
   go_meet
   case rel => exact ⟨_, ((t430 != 4)), (by first | rfl | (simp; done) | (simp [*]; done)), H', ⟨by first | omega | exact Nat.le_refl _⟩, ⟨bk_⟩, ⟨bz_⟩⟩
 case rest =>
  clear HC10
  try clear c1
  try clear c2
  try clear p2
  try clear c9
  try clear c11
  try clear c15
  try clear c16
  try clear c17
  try clear c17b0
  try clear c17b1
  try clear c19
  try clear c19b0
  try clear c24
  try clear zc15_0
  try clear zc15_1
  try clear zc15_2
  try clear zf15_0
  try clear zf15_1
  try clear zf15_2
  obtain ⟨kq, x59_9, rfl, HA, HJ9, BK431, HB⟩ := hcut
  cases kq with
  | zero => exact absurd HA.out (by simp [lockgatelaw14_ValueNumbers.j0])
  | succ kj9 =>
   have H := HA.out
   clear HA
   simp only [lockgatelaw14_ValueNumbers.j0] at H
   by_cases c25 : x59_9 = true
   ·subst c25
    have H1 : (some false) = some r := by rw [if_pos rfl] at H; exact H
    clear H
    have H := H1
    clear H1
    exact absurd ((Option.some.inj H).trans HRT.out) (by decide)
   ·replace c25 := Bool.eq_false_iff.mpr c25
    subst c25
    have H1 : ((value_Num.f a2).bind fun bt437 => ((value_Num.f a3).bind fun bt440 => ((value_Compare.f kj9 a0 a1 bt437.1 bt437.2.1 bt437.2.2 bt440.1 bt440.2.1 bt440.2.2 a4).bind fun bt443 => ((word_Jump.f kj9 a0 a1 a2 a3).bind fun bt445 => (if bt445.2 = true then (if bt443.2 = 0 then (if (bt443.1 != bt445.1) = true then (lockgatelaw14_ValueNumbers.j1 kj9 a0 a1 a2 true) else (lockgatelaw14_ValueNumbers.j1 kj9 a0 a1 a2 false)) else (lockgatelaw14_ValueNumbers.j1 kj9 a0 a1 a2 true)) else (lockgatelaw14_ValueNumbers.j1 kj9 a0 a1 a2 (bt443.2 != 4))))))) = some r := by rw [if_neg (show ¬ (false = true) by decide)] at H; exact H
    clear H
    have H := H1
    clear H1
    replace H := Option.bind_eq_some_iff.mp H
    obtain ⟨⟨t437, t438, t439⟩, A260, H⟩ := H
    replace H : ((value_Num.f a3).bind fun bt440 => ((value_Compare.f kj9 a0 a1 t437 t438 t439 bt440.1 bt440.2.1 bt440.2.2 a4).bind fun bt443 => ((word_Jump.f kj9 a0 a1 a2 a3).bind fun bt445 => (if bt445.2 = true then (if bt443.2 = 0 then (if (bt443.1 != bt445.1) = true then (lockgatelaw14_ValueNumbers.j1 kj9 a0 a1 a2 true) else (lockgatelaw14_ValueNumbers.j1 kj9 a0 a1 a2 false)) else (lockgatelaw14_ValueNumbers.j1 kj9 a0 a1 a2 true)) else (lockgatelaw14_ValueNumbers.j1 kj9 a0 a1 a2 (bt443.2 != 4)))))) = some r := H
    have A26 := Aside0.mk A260
    clear A260
    replace H := Option.bind_eq_some_iff.mp H
    obtain ⟨⟨t440, t441, t442⟩, A270, H⟩ := H
    replace H : ((value_Compare.f kj9 a0 a1 t437 t438 t439 t440 t441 t442 a4).bind fun bt443 => ((word_Jump.f kj9 a0 a1 a2 a3).bind fun bt445 => (if bt445.2 = true then (if bt443.2 = 0 then (if (bt443.1 != bt445.1) = true then (lockgatelaw14_ValueNumbers.j1 kj9 a0 a1 a2 true) else (lockgatelaw14_ValueNumbers.j1 kj9 a0 a1 a2 false)) else (lockgatelaw14_ValueNumbers.j1 kj9 a0 a1 a2 true)) else (lockgatelaw14_ValueNumbers.j1 kj9 a0 a1 a2 (bt443.2 != 4))))) = some r := H
    have A27 := Aside0.mk A270
    clear A270
    have hdd_ : (t424, t425, t426) = (t440, t441, t442) := (Option.some.inj (A7.out.symm.trans A27.out))
    simp only [Prod.mk.injEq] at hdd_
    obtain ⟨rfl, rfl, rfl⟩ := hdd_
    replace H := Option.bind_eq_some_iff.mp H
    obtain ⟨⟨t443, t444⟩, A280, H⟩ := H
    replace H : ((word_Jump.f kj9 a0 a1 a2 a3).bind fun bt445 => (if bt445.2 = true then (if t444 = 0 then (if (t443 != bt445.1) = true then (lockgatelaw14_ValueNumbers.j1 kj9 a0 a1 a2 true) else (lockgatelaw14_ValueNumbers.j1 kj9 a0 a1 a2 false)) else (lockgatelaw14_ValueNumbers.j1 kj9 a0 a1 a2 true)) else (lockgatelaw14_ValueNumbers.j1 kj9 a0 a1 a2 (t444 != 4)))) = some r := H
    have A28 := Aside0.mk A280
    clear A280
    replace H := Option.bind_eq_some_iff.mp H
    obtain ⟨⟨t445, t446⟩, A290, H⟩ := H
    replace H : (if t446 = true then (if t444 = 0 then (if (t443 != t445) = true then (lockgatelaw14_ValueNumbers.j1 kj9 a0 a1 a2 true) else (lockgatelaw14_ValueNumbers.j1 kj9 a0 a1 a2 false)) else (lockgatelaw14_ValueNumbers.j1 kj9 a0 a1 a2 true)) else (lockgatelaw14_ValueNumbers.j1 kj9 a0 a1 a2 (t444 != 4))) = some r := H
    have A29 := Aside0.mk A290
    clear A290
    have HC30 := Aside0.mk H
    clear H
    go_upto_region 7 with (first | ((with_reducible refine gate_callee (f := 15) rfl ?_); refine gM_ 64 Try.func15 (value_Num.calls a2 t437 t438 t439 _ A26.out) ?_; intro w31 hb; replace BK431 := bb_ hb BK431; replace HB := bl_ hb; (try clear hb); (try clear hb2); (try clear hk); (try clear hi)) | ((with_reducible refine gate_callee (f := 15) rfl ?_); refine gM_ 66 Try.func15 (value_Num.calls a3 t424 t425 t426 _ A27.out) ?_; intro w32 hb; replace BK431 := bb_ hb BK431; replace HB := bl_ hb; (try clear hb); (try clear hb2); (try clear hk); (try clear hi)) | ((with_reducible refine gate_callee (f := 20) rfl ?_); refine gM_ 68 Try.func20 (value_Compare.calls kj9 a0 a1 t437 t438 t439 t424 t425 t426 a4 t443 t444 _ A28.out) ?_; intro w33 hb; replace BK431 := bb_ hb BK431; replace HB := bl_ hb; (try clear hb); (try clear hb2); (try clear hk); (try clear hi)) | ((with_reducible refine gate_callee (f := 25) rfl ?_); refine gM_ 76 Try.func25 (word_Jump.calls kj9 a0 a1 a2 a3 t445 t446 _ A29.out) ?_; rintro w' ⟨nd, rfl⟩))
    (try simp only [Act.put, s1_, s2_, s3_])
    go_cut [96] (fun v96 wc => ∃ (kq : Nat) (x96_29 : Bool), v96 = .bool x96_29 ∧ Aside0 (lockgatelaw14_ValueNumbers.j1 kq a0 a1 a2 x96_29 = some r) ∧ Aside0 (kq ≤ kj9) ∧ Aside0 (wc.heap[gb431]? = some (.cells #[.int .i64 t427, .int .u64 t428, .int .i64 t429] 24 (0, 0))) ∧ Aside0 (Below w.heap.size w wc))
    case first =>
     have H := HC30.out
     clear HC30
     by_cases c34 : t446 = true
     ·subst c34
      have H1 : (if t444 = 0 then (if (t443 != t445) = true then (lockgatelaw14_ValueNumbers.j1 kj9 a0 a1 a2 true) else (lockgatelaw14_ValueNumbers.j1 kj9 a0 a1 a2 false)) else (lockgatelaw14_ValueNumbers.j1 kj9 a0 a1 a2 true)) = some r := by rw [if_pos rfl] at H; exact H
      clear H
      have H := H1
      clear H1
      by_cases c35 : t444 = 0
      ·rw [if_pos c35] at H
       have c35b0 : (t444 == 0) = true := beq_iff_eq.mpr c35
       have c35b1 : (t444 != 0) = false := bne_eq_false_iff_eq.mpr c35
       clear c35
       (first | rw [c35b0] | (simp only [i64_w, i32_w]; rw [c35b0]) | skip)
       by_cases c36 : (t443 != t445) = true
       ·rw [if_pos c36] at H
        have c36b0 : (t443 != t445) = true := c36
        (try (have c36b1 : decide (t443 = t445) = false := by simpa using c36))
        (try (have c36b2 : (t443 == t445) = false := by simpa using c36))
        (try (have c36b3 : ¬ (t443 = t445) := by simpa using c36))
        clear c36
        exfalso
        cases kj9 with
        | zero => rw [lockgatelaw14_ValueNumbers.j1] at H; exact nomatch H
        | succ q_ => rw [lockgatelaw14_ValueNumbers.j1, if_pos rfl] at H; exact absurd ((Option.some.inj H).trans HRT.out) (by decide)
       ·rw [if_neg c36] at H
        have c36b0 : (t443 != t445) = false := by simpa using c36
        (try (have c36b1 : decide (t443 = t445) = true := by simpa using c36))
        (try (have c36b2 : (t443 == t445) = true := by simpa using c36))
        clear c36
        have H' := Aside0.mk H
        clear H
        go_wp2
        go_meet
        case rel => exact ⟨_, (false), (by first | rfl | (simp; done) | (simp [*]; done)), H', ⟨by have := HJ9.out; first | omega | exact Nat.le_refl _⟩, ⟨bk_⟩, ⟨bz_⟩⟩
      ·rw [if_neg c35] at H
       have c35b0 : (t444 == 0) = false := beq_eq_false_iff_ne.mpr c35
       have c35b1 : (t444 != 0) = true := bne_iff_ne.mpr c35
       (first | rw [c35b0] | (simp only [i64_w, i32_w]; rw [c35b0]) | skip)
       exfalso
       cases kj9 with
       | zero => rw [lockgatelaw14_ValueNumbers.j1] at H; exact nomatch H
       | succ q_ => rw [lockgatelaw14_ValueNumbers.j1, if_pos rfl] at H; exact absurd ((Option.some.inj H).trans HRT.out) (by decide)
     ·replace c34 := Bool.eq_false_iff.mpr c34
      subst c34
      have H1 : (lockgatelaw14_ValueNumbers.j1 kj9 a0 a1 a2 (t444 != 4)) = some r := by rw [if_neg (show ¬ (false = true) by decide)] at H; exact H
      clear H
      have H := H1
      clear H1
      have H' := Aside0.mk H
      clear H
      go_wp2
      go_meet
      case rel => exact ⟨_, ((t444 != 4)), (by first | rfl | (simp; done) | (simp [*]; done)), H', ⟨by have := HJ9.out; first | omega | exact Nat.le_refl _⟩, ⟨bk_⟩, ⟨bz_⟩⟩
    case rest =>
     clear HC30
     try clear c1
     try clear c2
     try clear p2
     try clear c3
     try clear c9
     try clear c11
     try clear c15
     try clear c16
     try clear c17
     try clear c17b0
     try clear c17b1
     try clear c19
     try clear c19b0
     try clear c20
     try clear c24
     try clear c25
     try clear c34
     try clear c35
     try clear c35b0
     try clear c35b1
     try clear c36
     try clear c36b0
     try clear c36b1
     try clear c36b2
     try clear zc15_0
     try clear zc15_1
     try clear zc15_2
     try clear zf15_0
     try clear zf15_1
     try clear zf15_2
     try clear p2
     obtain ⟨kq, x96_29, rfl, HA, HJ29, BK431, HB⟩ := hcut
     cases kq with
     | zero => exact absurd HA.out (by simp [lockgatelaw14_ValueNumbers.j1])
     | succ kj29 =>
      have H := HA.out
      clear HA
      simp only [lockgatelaw14_ValueNumbers.j1] at H
      by_cases c37 : x96_29 = true
      ·subst c37
       have H1 : (some false) = some r := by rw [if_pos rfl] at H; exact H
       clear H
       have H := H1
       clear H1
       exact absurd ((Option.some.inj H).trans HRT.out) (by decide)
      ·replace c37 := Bool.eq_false_iff.mpr c37
       subst c37
       have H1 : ((value_Num.f a2).bind fun bt447 => ((value_Swap.f kj29 a0 a1 bt447.1 bt447.2.1 bt447.2.2).bind fun bt450 => ((word_Swap.f kj29 a0 a1 a2).bind fun bt455 => (if bt455.2 = true then (if bt450.2.2.2 = 0 then ((value_Num.f bt455.1).bind fun bt457 => (if (bt450.1 == bt457.1 && (bt450.2.1 == bt457.2.1 && (bt450.2.2.1 == bt457.2.2))) = true then ((lockgatelaw14_works.f kj29).bind fun t460 => (some t460)) else (some false))) else (some false)) else (if bt450.2.2.2 = 1 then ((lockgatelaw14_works.f kj29).bind fun t461 => (some t461)) else (some false)))))) = some r := by rw [if_neg (show ¬ (false = true) by decide)] at H; exact H
       clear H
       have H := H1
       clear H1
       replace H := Option.bind_eq_some_iff.mp H
       obtain ⟨⟨t447, t448, t449⟩, A380, H⟩ := H
       replace H : ((value_Swap.f kj29 a0 a1 t447 t448 t449).bind fun bt450 => ((word_Swap.f kj29 a0 a1 a2).bind fun bt455 => (if bt455.2 = true then (if bt450.2.2.2 = 0 then ((value_Num.f bt455.1).bind fun bt457 => (if (bt450.1 == bt457.1 && (bt450.2.1 == bt457.2.1 && (bt450.2.2.1 == bt457.2.2))) = true then ((lockgatelaw14_works.f kj29).bind fun t460 => (some t460)) else (some false))) else (some false)) else (if bt450.2.2.2 = 1 then ((lockgatelaw14_works.f kj29).bind fun t461 => (some t461)) else (some false))))) = some r := H
       have A38 := Aside0.mk A380
       clear A380
       replace H := Option.bind_eq_some_iff.mp H
       obtain ⟨⟨t450, t451, t452, t453⟩, A390, H⟩ := H
       replace H : ((word_Swap.f kj29 a0 a1 a2).bind fun bt455 => (if bt455.2 = true then (if t453 = 0 then ((value_Num.f bt455.1).bind fun bt457 => (if (t450 == bt457.1 && (t451 == bt457.2.1 && (t452 == bt457.2.2))) = true then ((lockgatelaw14_works.f kj29).bind fun t460 => (some t460)) else (some false))) else (some false)) else (if t453 = 1 then ((lockgatelaw14_works.f kj29).bind fun t461 => (some t461)) else (some false)))) = some r := H
       have A39 := Aside0.mk A390
       clear A390
       replace H := Option.bind_eq_some_iff.mp H
       obtain ⟨⟨t455, t456⟩, A400, H⟩ := H
       replace H : (if t456 = true then (if t453 = 0 then ((value_Num.f t455).bind fun bt457 => (if (t450 == bt457.1 && (t451 == bt457.2.1 && (t452 == bt457.2.2))) = true then ((lockgatelaw14_works.f kj29).bind fun t460 => (some t460)) else (some false))) else (some false)) else (if t453 = 1 then ((lockgatelaw14_works.f kj29).bind fun t461 => (some t461)) else (some false))) = some r := H
       have A40 := Aside0.mk A400
       clear A400
       by_cases c41 : t456 = true
       ·subst c41
        have H1 : (if t453 = 0 then ((value_Num.f t455).bind fun bt457 => (if (t450 == bt457.1 && (t451 == bt457.2.1 && (t452 == bt457.2.2))) = true then ((lockgatelaw14_works.f kj29).bind fun t460 => (some t460)) else (some false))) else (some false)) = some r := by rw [if_pos rfl] at H; exact H
        clear H
        have H := H1
        clear H1
        by_cases c42 : t453 = 0
        ·rw [if_pos c42] at H
         have c42b0 : (t453 == 0) = true := beq_iff_eq.mpr c42
         have c42b1 : (t453 != 0) = false := bne_eq_false_iff_eq.mpr c42
         clear c42
         replace H := Option.bind_eq_some_iff.mp H
         obtain ⟨⟨t457, t458, t459⟩, A430, H⟩ := H
         replace H : (if (t450 == t457 && (t451 == t458 && (t452 == t459))) = true then ((lockgatelaw14_works.f kj29).bind fun t460 => (some t460)) else (some false)) = some r := H
         have A43 := Aside0.mk A430
         clear A430
         by_cases c44 : (t450 == t457 && (t451 == t458 && (t452 == t459))) = true
         ·rw [if_pos c44] at H
          have c44b0 : (t450 == t457 && (t451 == t458 && (t452 == t459))) = true := c44
          (try (have c44b1 : decide (t450 = t457 && (t451 == t458 && (t452 == t459))) = true := by simpa using c44))
          (try (have c44b2 : (t450 == t457 && (t451 == t458 && (t452 == t459))) = true := by simpa using c44))
          clear c44
          replace H := Option.bind_eq_some_iff.mp H
          obtain ⟨t460, A450, H⟩ := H
          replace H : (some t460) = some r := H
          have A45 := Aside0.mk A450
          clear A450
          obtain rfl := Option.some.inj H
          try go_wp2_with (first | ((with_reducible refine gate_callee (f := 15) rfl ?_); refine gM_ 101 Try.func15 (value_Num.calls a2 t447 t448 t449 _ A38.out) ?_; intro w46 hb; replace BK431 := bb_ hb BK431; replace HB := bl_ hb; (try clear hb); (try clear hb2); (try clear hk); (try clear hi)) | ((with_reducible refine gate_callee (f := 22) rfl ?_); refine gM_ 102 Try.func22 (value_Swap.calls kj29 a0 a1 t447 t448 t449 t450 t451 t452 t453 _ A39.out) ?_; intro w47 hb; replace BK431 := bb_ hb BK431; replace HB := bl_ hb; (try clear hb); (try clear hb2); (try clear hk); (try clear hi)) | ((with_reducible refine gate_dst (N := 19) rfl ?_); refine bx_ 19 #[.int .i64 0, .int .u64 0, .int .i64 0] 24 ?_; intro gb454 hg w48 BK454 hb; have GW454 := bg_ hg; have GE454 := GW454; have NB431_454 := bm_ hg BK431; have NB454_431 := bn_ hg BK431; replace BK431 := bb_ hb BK431; replace HB := bl_ hb; clear hb hg; have hnb49 := NB454_431.out; have hnc49 := NB431_454.out; obtain ⟨zc50_0, zc50_1, zc50_2, zf50_0, zf50_1, zf50_2⟩ := k3_ BK454) | ((with_reducible refine gate_callee (f := 26) rfl ?_); refine gM_ 109 Try.func26 (word_Swap.calls kj29 a0 a1 a2 t455 true _ A40.out) ?_; rintro w' ⟨nd, rfl⟩))
          have n0_ : Aside0 ((((w48.setCell ⟨gb454, 0, none⟩ (.int .i64 t450)).setCell ⟨gb454, 1, none⟩ (.int .u64 t451)).setCell ⟨gb454, 2, none⟩ (.int .i64 t452)).heap[gb431]? = some (.cells #[.int .i64 t427, .int .u64 t428, .int .i64 t429] 24 (0, 0))) := ⟨by (with_reducible repeat (first | apply bN_ | apply bD_ | apply bA_)); refine blk_far ?_ NB431_454.out _; (with_reducible repeat (first | apply bN_ | apply bD_ | apply bA_)); refine blk_far ?_ NB431_454.out _; (with_reducible repeat (first | apply bN_ | apply bD_ | apply bA_)); refine blk_far ?_ NB431_454.out _; exact bk_⟩
          have n1_ : Aside0 ((((w48.setCell ⟨gb454, 0, none⟩ (.int .i64 t450)).setCell ⟨gb454, 1, none⟩ (.int .u64 t451)).setCell ⟨gb454, 2, none⟩ (.int .i64 t452)).heap[gb454]? = some (.cells #[.int .i64 t450, .int .u64 t451, .int .i64 t452] 24 (0, 0))) := ⟨by (with_reducible repeat (first | apply bN_ | apply bD_ | apply bA_)); refine blk_put (cs := #[.int .i64 t450, .int .u64 t451, .int .i64 0]) ?_ 2 _ rfl; (with_reducible repeat (first | apply bN_ | apply bD_ | apply bA_)); refine blk_put (cs := #[.int .i64 t450, .int .u64 0, .int .i64 0]) ?_ 1 _ rfl; (with_reducible repeat (first | apply bN_ | apply bD_ | apply bA_)); refine blk_put (cs := #[.int .i64 0, .int .u64 0, .int .i64 0]) ?_ 0 _ rfl; exact bk_⟩
          have n2_ : Aside0 (Below w.heap.size w (((w48.setCell ⟨gb454, 0, none⟩ (.int .i64 t450)).setCell ⟨gb454, 1, none⟩ (.int .u64 t451)).setCell ⟨gb454, 2, none⟩ (.int .i64 t452))) := ⟨bz_⟩
          (try clear BK431)
          (try clear BK454)
          (try clear HB)
          (first | (replace n0_ := Aside0.mk (by first | exact blk_drewN n0_.out nd | exact pw_below_drewN n0_.out nd); replace n1_ := Aside0.mk (by first | exact blk_drewN n1_.out nd | exact pw_below_drewN n1_.out nd); replace n2_ := Aside0.mk (by first | exact blk_drewN n2_.out nd | exact pw_below_drewN n2_.out nd); generalize hG_ : (((w48.setCell ⟨gb454, 0, none⟩ (.int .i64 t450)).setCell ⟨gb454, 1, none⟩ (.int .u64 t451)).setCell ⟨gb454, 2, none⟩ (.int .i64 t452)).drewN nd = w51 at n0_ n1_ n2_ ⊢; clear hG_) | generalize (((w48.setCell ⟨gb454, 0, none⟩ (.int .i64 t450)).setCell ⟨gb454, 1, none⟩ (.int .u64 t451)).setCell ⟨gb454, 2, none⟩ (.int .i64 t452)) = w51 at n0_ n1_ n2_ ⊢)
          have BK431 := n0_
          have BK454 := n1_
          have HB := n2_
          clear n0_ n1_ n2_
          (try (rw [drewN_self w51]; generalize hq_ : World.drewN w51 _ = w51; have n0_ : Aside0 (w51.heap[gb431]? = some (.cells #[.int .i64 t427, .int .u64 t428, .int .i64 t429] 24 (0, 0))) := ⟨by rw [← hq_]; exact bk_⟩; have n1_ : Aside0 (w51.heap[gb454]? = some (.cells #[.int .i64 t450, .int .u64 t451, .int .i64 t452] 24 (0, 0))) := ⟨by rw [← hq_]; exact bk_⟩; have n2_ : Aside0 (Below w.heap.size w w51) := ⟨by rw [← hq_]; exact bz_⟩; clear BK431 BK454 HB hq_; have BK431 := n0_; have BK454 := n1_; have HB := n2_; clear n0_ n1_ n2_))
          replace BK431 := Aside0.mk (blk_drew BK431.out)
          replace BK454 := Aside0.mk (blk_drew BK454.out)
          replace HB := Aside0.mk (below_drew1 HB.out)
          refine start_ (n := 23) (S := fun w' => w'.cell? ⟨gb454, 0, none⟩ = some (.int .i64 t450) ∧ w'.cell? ⟨gb454, 1, none⟩ = some (.int .u64 t451) ∧ w'.cell? ⟨gb454, 2, none⟩ = some (.int .i64 t452)) (ds := []) #[n_,n_,n_,n_,n_,n_,n_,n_,n_,n_,n_,n_,n_,n_,n_,n_,n_,n_,n_,n_,n_,n_,n_] (by kernel_rfl) rfl rfl ⟨c0_ BK454, c1_ BK454, c2_ BK454⟩ (fun hHeld => ?_); refine with_tabW lockgatelaw14_ValueNumbers.tab11 lockgatelaw14_ValueNumbers.bits11 (fun HT_ HW_ => ?_)
          generalize w51.drew = w52 at BK431 BK454 HB hHeld ⊢
          refine pq_ 0 112 #[y_,n_,n_,n_,n_,n_,n_,n_,n_,n_,n_,n_,n_,n_,n_,n_,n_,n_,n_,n_,n_,n_,n_] ?_
          refine pq_ 1 113 #[y_,y_,n_,n_,n_,n_,n_,n_,n_,n_,n_,n_,n_,n_,n_,n_,n_,n_,n_,n_,n_,n_,n_] ?_
          refine pq_ 2 114 #[y_,y_,y_,n_,n_,n_,n_,n_,n_,n_,n_,n_,n_,n_,n_,n_,n_,n_,n_,n_,n_,n_,n_] ?_
          refine pq_ 3 115 #[y_,y_,y_,y_,n_,n_,n_,n_,n_,n_,n_,n_,n_,n_,n_,n_,n_,n_,n_,n_,n_,n_,n_] ?_
          refine pq_ 4 116 #[y_,y_,y_,y_,y_,n_,n_,n_,n_,n_,n_,n_,n_,n_,n_,n_,n_,n_,n_,n_,n_,n_,n_] ?_
          refine pq_ 5 117 #[y_,y_,y_,y_,y_,y_,n_,n_,n_,n_,n_,n_,n_,n_,n_,n_,n_,n_,n_,n_,n_,n_,n_] ?_
          refine pq_ 7 119 #[y_,y_,y_,y_,y_,y_,n_,y_,n_,n_,n_,n_,n_,n_,n_,n_,n_,n_,n_,n_,n_,n_,n_] ?_
          refine tq2_ 6 118 #[y_,y_,y_,y_,y_,y_,y_,y_,n_,n_,n_,n_,n_,n_,n_,n_,n_,n_,n_,n_,n_,n_,n_] hHeld ?_
          refine one_ (i := 8) (N := some 120) #[y_,y_,y_,y_,y_,y_,y_,y_,y_,n_,n_,n_,n_,n_,n_,n_,n_,n_,n_,n_,n_,n_,n_] rfl rfl (one_of HT_.out (by kernel_rfl)) (by decide) (fun K hK => ?_)
          refine goes_ Try.func15 (by kernel_rfl) rfl #[.int .u64 t455] (by rfl) rfl rfl mp_ ?_
          with_reducible refine (value_Num.calls t455 t457 t458 t459 _ A43.out).mono ?_
          rintro e w53 ⟨rfl, hb⟩
          refine ⟨_, rfl, ?_⟩
          replace BK431 := bb_ hb BK431
          replace BK454 := bb_ hb BK454
          replace HB := bl_ hb
          try clear hb
          refine hK.out _ _ ⟨c0_ BK454, c1_ BK454, c2_ BK454⟩ (fun hHeld => ?_)
          clear hK K
          refine norm_ (a' := ?_) ?_ ?_
          rotate_left
          ·show Act.put _ (some 120) _ = _
           simp only [Act.put, s1_, s2_, s3_, i64_w, i32_w]
           rfl
          refine pq_ 9 121 #[y_,y_,y_,y_,y_,y_,y_,y_,y_,y_,n_,n_,n_,n_,n_,n_,n_,n_,n_,n_,n_,n_,n_] ?_
          refine pq_ 10 122 #[y_,y_,y_,y_,y_,y_,y_,y_,y_,y_,y_,n_,n_,n_,n_,n_,n_,n_,n_,n_,n_,n_,n_] ?_
          refine pq_ 11 123 #[y_,y_,y_,y_,y_,y_,y_,y_,y_,y_,y_,y_,n_,n_,n_,n_,n_,n_,n_,n_,n_,n_,n_] ?_
          refine pu_ 12 124 #[y_,y_,y_,y_,y_,y_,y_,y_,y_,y_,y_,y_,y_,n_,n_,n_,n_,n_,n_,n_,n_,n_,n_] ?_
          refine pu_ 13 125 #[y_,y_,y_,y_,y_,y_,y_,y_,y_,y_,y_,y_,y_,y_,n_,n_,n_,n_,n_,n_,n_,n_,n_] ?_
          refine pu_ 14 126 #[y_,y_,y_,y_,y_,y_,y_,y_,y_,y_,y_,y_,y_,y_,y_,n_,n_,n_,n_,n_,n_,n_,n_] ?_
          refine pu_ 15 127 #[y_,y_,y_,y_,y_,y_,y_,y_,y_,y_,y_,y_,y_,y_,y_,y_,n_,n_,n_,n_,n_,n_,n_] ?_
          refine pu_ 16 128 #[y_,y_,y_,y_,y_,y_,y_,y_,y_,y_,y_,y_,y_,y_,y_,y_,y_,n_,n_,n_,n_,n_,n_] ?_
          refine pu_ 17 129 #[y_,y_,y_,y_,y_,y_,y_,y_,y_,y_,y_,y_,y_,y_,y_,y_,y_,y_,n_,n_,n_,n_,n_] ?_
          refine pq_ 18 130 #[y_,y_,y_,y_,y_,y_,y_,y_,y_,y_,y_,y_,y_,y_,y_,y_,y_,y_,y_,n_,n_,n_,n_] ?_
          refine pq_ 19 131 #[y_,y_,y_,y_,y_,y_,y_,y_,y_,y_,y_,y_,y_,y_,y_,y_,y_,y_,y_,y_,n_,n_,n_] ?_
          refine one_ (i := 20) (N := some 132) #[y_,y_,y_,y_,y_,y_,y_,y_,y_,y_,y_,y_,y_,y_,y_,y_,y_,y_,y_,y_,y_,n_,n_] rfl rfl (one_of HT_.out (by kernel_rfl)) (by decide) (fun K hK => ?_)
          refine goes_ Try.func19 (by kernel_rfl) rfl #[] (by rfl) rfl rfl mp_ ?_
          with_reducible refine (lockgatelaw14_works.calls kj29  t460 _ A45.out).mono ?_
          rintro e w54 ⟨rfl, hb⟩
          refine ⟨_, rfl, ?_⟩
          replace BK431 := bb_ hb BK431
          replace BK454 := bb_ hb BK454
          replace HB := bl_ hb
          try clear hb
          refine hK.out _ _ ⟨c0_ BK454, c1_ BK454, c2_ BK454⟩ (fun hHeld => ?_)
          clear hK K
          refine norm_ (a' := ?_) ?_ ?_
          rotate_left
          ·show Act.put _ (some 132) _ = _
           simp only [Act.put, s1_, s2_, s3_, i64_w, i32_w]
           rfl
          refine pq_ 21 133 #[y_,y_,y_,y_,y_,y_,y_,y_,y_,y_,y_,y_,y_,y_,y_,y_,y_,y_,y_,y_,y_,y_,n_] ?_
          refine pq_ 22 10 #[y_,y_,y_,y_,y_,y_,y_,y_,y_,y_,y_,y_,y_,y_,y_,y_,y_,y_,y_,y_,y_,y_,y_] ?_
          refine done_ (done_of HT_.out (by kernel_rfl)) ?_
          try go_wp2
          go_ret
          exact ⟨vv_, bz_⟩
         ·rw [if_neg c44] at H
          have c44b0 : (t450 == t457 && (t451 == t458 && (t452 == t459))) = false := by simpa using c44
          (try (have c44b1 : decide (t450 = t457 && (t451 == t458 && (t452 == t459))) = false := by simpa using c44))
          (try (have c44b2 : (t450 == t457 && (t451 == t458 && (t452 == t459))) = false := by simpa using c44))
          (try (have c44b3 : ¬ (t450 = t457 && (t451 == t458 && (t452 == t459))) := by simpa using c44))
          clear c44
          exact absurd ((Option.some.inj H).trans HRT.out) (by decide)
        ·rw [if_neg c42] at H
         have c42b0 : (t453 == 0) = false := beq_eq_false_iff_ne.mpr c42
         have c42b1 : (t453 != 0) = true := bne_iff_ne.mpr c42
         exact absurd ((Option.some.inj H).trans HRT.out) (by decide)
       ·replace c41 := Bool.eq_false_iff.mpr c41
        subst c41
        have H1 : (if t453 = 1 then ((lockgatelaw14_works.f kj29).bind fun t461 => (some t461)) else (some false)) = some r := by rw [if_neg (show ¬ (false = true) by decide)] at H; exact H
        clear H
        have H := H1
        clear H1
        by_cases c55 : t453 = 1
        ·rw [if_pos c55] at H
         have c55b0 : (t453 == 1) = true := beq_iff_eq.mpr c55
         have c55b1 : (t453 != 1) = false := bne_eq_false_iff_eq.mpr c55
         clear c55
         replace H := Option.bind_eq_some_iff.mp H
         obtain ⟨t461, A560, H⟩ := H
         replace H : (some t461) = some r := H
         have A56 := Aside0.mk A560
         clear A560
         obtain rfl := Option.some.inj H
         try go_wp2_with (first | ((with_reducible refine gate_callee (f := 15) rfl ?_); refine gM_ 101 Try.func15 (value_Num.calls a2 t447 t448 t449 _ A38.out) ?_; intro w57 hb; replace BK431 := bb_ hb BK431; replace HB := bl_ hb; (try clear hb); (try clear hb2); (try clear hk); (try clear hi)) | ((with_reducible refine gate_callee (f := 22) rfl ?_); refine gM_ 102 Try.func22 (value_Swap.calls kj29 a0 a1 t447 t448 t449 t450 t451 t452 t453 _ A39.out) ?_; intro w58 hb; replace BK431 := bb_ hb BK431; replace HB := bl_ hb; (try clear hb); (try clear hb2); (try clear hk); (try clear hi)) | ((with_reducible refine gate_dst (N := 19) rfl ?_); refine bx_ 19 #[.int .i64 0, .int .u64 0, .int .i64 0] 24 ?_; intro gb454 hg w59 BK454 hb; have GW454 := bg_ hg; have GE454 := GW454; have NB431_454 := bm_ hg BK431; have NB454_431 := bn_ hg BK431; replace BK431 := bb_ hb BK431; replace HB := bl_ hb; clear hb hg; have hnb60 := NB454_431.out; have hnc60 := NB431_454.out; obtain ⟨zc61_0, zc61_1, zc61_2, zf61_0, zf61_1, zf61_2⟩ := k3_ BK454) | ((with_reducible refine gate_callee (f := 26) rfl ?_); refine gM_ 109 Try.func26 (word_Swap.calls kj29 a0 a1 a2 t455 false _ A40.out) ?_; rintro w' ⟨nd, rfl⟩))
         have n0_ : Aside0 ((((w59.setCell ⟨gb454, 0, none⟩ (.int .i64 t450)).setCell ⟨gb454, 1, none⟩ (.int .u64 t451)).setCell ⟨gb454, 2, none⟩ (.int .i64 t452)).heap[gb431]? = some (.cells #[.int .i64 t427, .int .u64 t428, .int .i64 t429] 24 (0, 0))) := ⟨by (with_reducible repeat (first | apply bN_ | apply bD_ | apply bA_)); refine blk_far ?_ NB431_454.out _; (with_reducible repeat (first | apply bN_ | apply bD_ | apply bA_)); refine blk_far ?_ NB431_454.out _; (with_reducible repeat (first | apply bN_ | apply bD_ | apply bA_)); refine blk_far ?_ NB431_454.out _; exact bk_⟩
         have n1_ : Aside0 ((((w59.setCell ⟨gb454, 0, none⟩ (.int .i64 t450)).setCell ⟨gb454, 1, none⟩ (.int .u64 t451)).setCell ⟨gb454, 2, none⟩ (.int .i64 t452)).heap[gb454]? = some (.cells #[.int .i64 t450, .int .u64 t451, .int .i64 t452] 24 (0, 0))) := ⟨by (with_reducible repeat (first | apply bN_ | apply bD_ | apply bA_)); refine blk_put (cs := #[.int .i64 t450, .int .u64 t451, .int .i64 0]) ?_ 2 _ rfl; (with_reducible repeat (first | apply bN_ | apply bD_ | apply bA_)); refine blk_put (cs := #[.int .i64 t450, .int .u64 0, .int .i64 0]) ?_ 1 _ rfl; (with_reducible repeat (first | apply bN_ | apply bD_ | apply bA_)); refine blk_put (cs := #[.int .i64 0, .int .u64 0, .int .i64 0]) ?_ 0 _ rfl; exact bk_⟩
         have n2_ : Aside0 (Below w.heap.size w (((w59.setCell ⟨gb454, 0, none⟩ (.int .i64 t450)).setCell ⟨gb454, 1, none⟩ (.int .u64 t451)).setCell ⟨gb454, 2, none⟩ (.int .i64 t452))) := ⟨bz_⟩
         (try clear BK431)
         (try clear BK454)
         (try clear HB)
         (first | (replace n0_ := Aside0.mk (by first | exact blk_drewN n0_.out nd | exact pw_below_drewN n0_.out nd); replace n1_ := Aside0.mk (by first | exact blk_drewN n1_.out nd | exact pw_below_drewN n1_.out nd); replace n2_ := Aside0.mk (by first | exact blk_drewN n2_.out nd | exact pw_below_drewN n2_.out nd); generalize hG_ : (((w59.setCell ⟨gb454, 0, none⟩ (.int .i64 t450)).setCell ⟨gb454, 1, none⟩ (.int .u64 t451)).setCell ⟨gb454, 2, none⟩ (.int .i64 t452)).drewN nd = w62 at n0_ n1_ n2_ ⊢; clear hG_) | generalize (((w59.setCell ⟨gb454, 0, none⟩ (.int .i64 t450)).setCell ⟨gb454, 1, none⟩ (.int .u64 t451)).setCell ⟨gb454, 2, none⟩ (.int .i64 t452)) = w62 at n0_ n1_ n2_ ⊢)
         have BK431 := n0_
         have BK454 := n1_
         have HB := n2_
         clear n0_ n1_ n2_
         (try (rw [drewN_self w62]; generalize hq_ : World.drewN w62 _ = w62; have n0_ : Aside0 (w62.heap[gb431]? = some (.cells #[.int .i64 t427, .int .u64 t428, .int .i64 t429] 24 (0, 0))) := ⟨by rw [← hq_]; exact bk_⟩; have n1_ : Aside0 (w62.heap[gb454]? = some (.cells #[.int .i64 t450, .int .u64 t451, .int .i64 t452] 24 (0, 0))) := ⟨by rw [← hq_]; exact bk_⟩; have n2_ : Aside0 (Below w.heap.size w w62) := ⟨by rw [← hq_]; exact bz_⟩; clear BK431 BK454 HB hq_; have BK431 := n0_; have BK454 := n1_; have HB := n2_; clear n0_ n1_ n2_))
         replace BK431 := Aside0.mk (blk_drew BK431.out)
         replace BK454 := Aside0.mk (blk_drew BK454.out)
         replace HB := Aside0.mk (below_drew1 HB.out)
         refine start_ (n := 23) (S := fun w' => True) (ds := []) #[n_,n_,n_,n_,n_,n_,n_,n_,n_,n_,n_,n_,n_,n_,n_,n_,n_,n_,n_,n_,n_,n_,n_] (by kernel_rfl) rfl rfl trivial (fun hHeld => ?_); refine with_tabW lockgatelaw14_ValueNumbers.tab11 lockgatelaw14_ValueNumbers.bits11 (fun HT_ HW_ => ?_)
         generalize w62.drew = w63 at BK431 BK454 HB hHeld ⊢
         refine pq_ 0 112 #[y_,n_,n_,n_,n_,n_,n_,n_,n_,n_,n_,n_,n_,n_,n_,n_,n_,n_,n_,n_,n_,n_,n_] ?_
         refine pq_ 1 113 #[y_,y_,n_,n_,n_,n_,n_,n_,n_,n_,n_,n_,n_,n_,n_,n_,n_,n_,n_,n_,n_,n_,n_] ?_
         refine pu_ 2 114 #[y_,y_,y_,n_,n_,n_,n_,n_,n_,n_,n_,n_,n_,n_,n_,n_,n_,n_,n_,n_,n_,n_,n_] ?_
         refine pu_ 3 115 #[y_,y_,y_,y_,n_,n_,n_,n_,n_,n_,n_,n_,n_,n_,n_,n_,n_,n_,n_,n_,n_,n_,n_] ?_
         refine pq_ 4 116 #[y_,y_,y_,y_,y_,n_,n_,n_,n_,n_,n_,n_,n_,n_,n_,n_,n_,n_,n_,n_,n_,n_,n_] ?_
         refine pq_ 5 117 #[y_,y_,y_,y_,y_,y_,n_,n_,n_,n_,n_,n_,n_,n_,n_,n_,n_,n_,n_,n_,n_,n_,n_] ?_
         refine pu_ 6 118 #[y_,y_,y_,y_,y_,y_,y_,n_,n_,n_,n_,n_,n_,n_,n_,n_,n_,n_,n_,n_,n_,n_,n_] ?_
         refine pu_ 7 119 #[y_,y_,y_,y_,y_,y_,y_,y_,n_,n_,n_,n_,n_,n_,n_,n_,n_,n_,n_,n_,n_,n_,n_] ?_
         refine pu_ 8 120 #[y_,y_,y_,y_,y_,y_,y_,y_,y_,n_,n_,n_,n_,n_,n_,n_,n_,n_,n_,n_,n_,n_,n_] ?_
         refine pu_ 9 121 #[y_,y_,y_,y_,y_,y_,y_,y_,y_,y_,n_,n_,n_,n_,n_,n_,n_,n_,n_,n_,n_,n_,n_] ?_
         refine pq_ 10 122 #[y_,y_,y_,y_,y_,y_,y_,y_,y_,y_,y_,n_,n_,n_,n_,n_,n_,n_,n_,n_,n_,n_,n_] ?_
         refine pq_ 11 123 #[y_,y_,y_,y_,y_,y_,y_,y_,y_,y_,y_,y_,n_,n_,n_,n_,n_,n_,n_,n_,n_,n_,n_] ?_
         refine pq_ 12 124 #[y_,y_,y_,y_,y_,y_,y_,y_,y_,y_,y_,y_,y_,n_,n_,n_,n_,n_,n_,n_,n_,n_,n_] ?_
         refine pq_ 13 125 #[y_,y_,y_,y_,y_,y_,y_,y_,y_,y_,y_,y_,y_,y_,n_,n_,n_,n_,n_,n_,n_,n_,n_] ?_
         refine pq_ 14 126 #[y_,y_,y_,y_,y_,y_,y_,y_,y_,y_,y_,y_,y_,y_,y_,n_,n_,n_,n_,n_,n_,n_,n_] ?_
         refine pq_ 15 127 #[y_,y_,y_,y_,y_,y_,y_,y_,y_,y_,y_,y_,y_,y_,y_,y_,n_,n_,n_,n_,n_,n_,n_] ?_
         refine pq_ 16 128 #[y_,y_,y_,y_,y_,y_,y_,y_,y_,y_,y_,y_,y_,y_,y_,y_,y_,n_,n_,n_,n_,n_,n_] ?_
         refine pq_ 17 129 #[y_,y_,y_,y_,y_,y_,y_,y_,y_,y_,y_,y_,y_,y_,y_,y_,y_,y_,n_,n_,n_,n_,n_] ?_
         refine pq_ 18 130 #[y_,y_,y_,y_,y_,y_,y_,y_,y_,y_,y_,y_,y_,y_,y_,y_,y_,y_,y_,n_,n_,n_,n_] ?_
         refine pq_ 19 131 #[y_,y_,y_,y_,y_,y_,y_,y_,y_,y_,y_,y_,y_,y_,y_,y_,y_,y_,y_,y_,n_,n_,n_] ?_
         refine one_ (i := 20) (N := some 132) #[y_,y_,y_,y_,y_,y_,y_,y_,y_,y_,y_,y_,y_,y_,y_,y_,y_,y_,y_,y_,y_,n_,n_] rfl rfl (one_of HT_.out (by kernel_rfl)) (by decide) (fun K hK => ?_)
         refine goes_ Try.func19 (by kernel_rfl) rfl #[] (by rfl) rfl rfl mp_ ?_
         with_reducible refine (lockgatelaw14_works.calls kj29  t461 _ A56.out).mono ?_
         rintro e w64 ⟨rfl, hb⟩
         refine ⟨_, rfl, ?_⟩
         replace BK431 := bb_ hb BK431
         replace BK454 := bb_ hb BK454
         replace HB := bl_ hb
         try clear hb
         refine hK.out _ _ trivial (fun hHeld => ?_)
         clear hK K
         refine norm_ (a' := ?_) ?_ ?_
         rotate_left
         ·show Act.put _ (some 132) _ = _
          simp only [Act.put, s1_, s2_, s3_, i64_w, i32_w]
          rfl
         refine pq_ 21 133 #[y_,y_,y_,y_,y_,y_,y_,y_,y_,y_,y_,y_,y_,y_,y_,y_,y_,y_,y_,y_,y_,y_,n_] ?_
         refine pq_ 22 10 #[y_,y_,y_,y_,y_,y_,y_,y_,y_,y_,y_,y_,y_,y_,y_,y_,y_,y_,y_,y_,y_,y_,y_] ?_
         refine done_ (done_of HT_.out (by kernel_rfl)) ?_
         try go_wp2
         go_ret
         exact ⟨vv_, bz_⟩
        ·rw [if_neg c55] at H
         have c55b0 : (t453 == 1) = false := beq_eq_false_iff_ne.mpr c55
         have c55b1 : (t453 != 1) = true := bne_iff_ne.mpr c55
         exact absurd ((Option.some.inj H).trans HRT.out) (by decide)

end Go.Proofs.Ytnpbhippkcikoaa.PA
