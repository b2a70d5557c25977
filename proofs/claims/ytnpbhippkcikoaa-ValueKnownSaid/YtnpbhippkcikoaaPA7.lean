-- PRINTED by print.py (a twelfth state) out of the translation. Not trusted: Lean checks it.
import Derived.Test.YtnpbhippkcikoaaWTab
import Derived.Test.YtnpbhippkcikoaaPA0
import Derived.Test.YtnpbhippkcikoaaSq
import Derived.Test.YtnpbhippkcikoaaPA2
import Derived.Test.YtnpbhippkcikoaaPA3
import Derived.Test.YtnpbhippkcikoaaPA4
import Derived.Test.YtnpbhippkcikoaaPA5
import Derived.Test.YtnpbhippkcikoaaPA6
namespace Go.Proofs.Ytnpbhippkcikoaa.PA
open Go.RowKit Go.Proofs.YtnpbhippkcikoaaW.PrintWords Go.Proofs.YtnpbhippkcikoaaW.PrintLast Go.Proofs.YtnpbhippkcikoaaW.PrintMore
attribute [local go_sem] max2_int min2_int max_two min_two max_three min_three max_four min_four   -- for this text's walks alone
set_option linter.unusedVariables false
set_option linter.unusedSimpArgs false

attribute [local go_sem high] eqA49
/-! ### value_Alu: function 11 -/
mutual
def value_Alu.j0 : Nat → Int → Bool → Int → Int → Int → Int → Int → Int → Option (Int × Int × Int × Int)
 | 0, _, _, _, _, _, _, _, _ => none
 | k + 1, x0, x1, x127000, x127001, x127002, x128000, x128001, x128002 => if x0 < 0 then (value_Alu.j1 k x0 x1 true x127000 x127001 x127002 x128000 x128001 x128002) else (value_Alu.j1 k x0 x1 (decide (x0 > 12)) x127000 x127001 x127002 x128000 x128001 x128002)
def value_Alu.j1 : Nat → Int → Bool → Bool → Int → Int → Int → Int → Int → Int → Option (Int × Int × Int × Int)
 | 0, _, _, _, _, _, _, _, _, _ => none
 | k + 1, x0, x1, x19, x127000, x127001, x127002, x128000, x128001, x128002 => if x19 = true then (some (0, 0, 0, 4)) else (if x127000 = 0 then (value_Alu.j2 k x0 x1 true x127000 x127001 x127002 x128000 x128001 x128002) else (value_Alu.j2 k x0 x1 (x128000 == 0) x127000 x127001 x127002 x128000 x128001 x128002))
def value_Alu.j2 : Nat → Int → Bool → Bool → Int → Int → Int → Int → Int → Int → Option (Int × Int × Int × Int)
 | 0, _, _, _, _, _, _, _, _, _ => none
 | k + 1, x0, x1, x27, x127000, x127001, x127002, x128000, x128001, x128002 => if x27 = true then (some (0, 0, 0, 20)) else ((value_side.f x127000 x127001 x127002).bind fun t135 => ((value_side.f x128000 x128001 x128002).bind fun t136 => (if (t135 == 1 && (t136 == 1)) = true then ((word_Alu.f k x0 x1 x127001 x128001).bind fun bt137 => ((value_Num.f bt137.1).bind fun bt139 => (some (bt139.1, bt139.2.1, bt139.2.2, 0)))) else (if x1 = true then (if x0 = 11 then (some (x128000, x128001, x128002, 0)) else ((value_pointers.f k x0 x127000 x127001 x127002 x128000 x128001 x128002).bind fun bt142 => (some (bt142.1, bt142.2.1, bt142.2.2.1, bt142.2.2.2)))) else (some (0, 0, 0, 21))))))
end
def value_Alu.f (k : Nat) (a0 : Int) (a1 : Bool) (a2_0 : Int) (a2_1 : Int) (a2_2 : Int) (a3_0 : Int) (a3_1 : Int) (a3_2 : Int) : Option (Int × Int × Int × Int) := if a0 = 8 then ((value_Num.f 0).bind fun bt129 => (value_Alu.j0 k a0 a1 a2_0 a2_1 a2_2 bt129.1 bt129.2.1 bt129.2.2)) else (if a0 = 11 then ((value_Num.f 0).bind fun bt132 => (value_Alu.j0 k a0 a1 bt132.1 bt132.2.1 bt132.2.2 a3_0 a3_1 a3_2)) else (value_Alu.j0 k a0 a1 a2_0 a2_1 a2_2 a3_0 a3_1 a3_2))
theorem value_Alu.mono_l : ∀ k, (∀ y0 y1 y2 y3 y4 y5 y6 y7, LeO (value_Alu.j0 k y0 y1 y2 y3 y4 y5 y6 y7) (value_Alu.j0 (k + 1) y0 y1 y2 y3 y4 y5 y6 y7)) ∧ (∀ y0 y1 y2 y3 y4 y5 y6 y7 y8, LeO (value_Alu.j1 k y0 y1 y2 y3 y4 y5 y6 y7 y8) (value_Alu.j1 (k + 1) y0 y1 y2 y3 y4 y5 y6 y7 y8)) ∧ (∀ y0 y1 y2 y3 y4 y5 y6 y7 y8, LeO (value_Alu.j2 k y0 y1 y2 y3 y4 y5 y6 y7 y8) (value_Alu.j2 (k + 1) y0 y1 y2 y3 y4 y5 y6 y7 y8))
 | 0 => ⟨fun _ _ _ _ _ _ _ _ r h => by simp [value_Alu.j0] at h, fun _ _ _ _ _ _ _ _ _ r h => by simp [value_Alu.j1] at h, fun _ _ _ _ _ _ _ _ _ r h => by simp [value_Alu.j2] at h⟩
 | k + 1 => by
  obtain ⟨ih0, ih1, ih2⟩ := value_Alu.mono_l k
  refine ⟨?_, ?_, ?_⟩
  ·intro y0 y1 y2 y3 y4 y5 y6 y7
   unfold value_Alu.j0
   repeat' first
   | (with_reducible exact ih0 _ _ _ _ _ _ _ _)
   | (with_reducible exact ih1 _ _ _ _ _ _ _ _ _)
   | (with_reducible exact ih2 _ _ _ _ _ _ _ _ _)
   | (with_reducible exact value_pointers.mono _ _ _ _ _ _ _ _)
   | (with_reducible exact word_Alu.mono _ _ _ _ _)
   | (with_reducible exact LeO.refl _)
   | (with_reducible exact LeO.none _)
   | (with_reducible refine LeO.ite ?_ ?_)
   | (with_reducible refine LeO.bind ?_ (fun _ => ?_))
   | exact ih0 _ _ _ _ _ _ _ _
   | exact ih1 _ _ _ _ _ _ _ _ _
   | exact ih2 _ _ _ _ _ _ _ _ _
   | exact value_pointers.mono _ _ _ _ _ _ _ _
   | exact word_Alu.mono _ _ _ _ _
   | exact LeO.none _
   | refine LeO.ite ?_ ?_
   | refine LeO.bind ?_ (fun _ => ?_)
  ·intro y0 y1 y2 y3 y4 y5 y6 y7 y8
   unfold value_Alu.j1
   repeat' first
   | (with_reducible exact ih0 _ _ _ _ _ _ _ _)
   | (with_reducible exact ih1 _ _ _ _ _ _ _ _ _)
   | (with_reducible exact ih2 _ _ _ _ _ _ _ _ _)
   | (with_reducible exact value_pointers.mono _ _ _ _ _ _ _ _)
   | (with_reducible exact word_Alu.mono _ _ _ _ _)
   | (with_reducible exact LeO.refl _)
   | (with_reducible exact LeO.none _)
   | (with_reducible refine LeO.ite ?_ ?_)
   | (with_reducible refine LeO.bind ?_ (fun _ => ?_))
   | exact ih0 _ _ _ _ _ _ _ _
   | exact ih1 _ _ _ _ _ _ _ _ _
   | exact ih2 _ _ _ _ _ _ _ _ _
   | exact value_pointers.mono _ _ _ _ _ _ _ _
   | exact word_Alu.mono _ _ _ _ _
   | exact LeO.none _
   | refine LeO.ite ?_ ?_
   | refine LeO.bind ?_ (fun _ => ?_)
  ·intro y0 y1 y2 y3 y4 y5 y6 y7 y8
   unfold value_Alu.j2
   repeat' first
   | (with_reducible exact ih0 _ _ _ _ _ _ _ _)
   | (with_reducible exact ih1 _ _ _ _ _ _ _ _ _)
   | (with_reducible exact ih2 _ _ _ _ _ _ _ _ _)
   | (with_reducible exact value_pointers.mono _ _ _ _ _ _ _ _)
   | (with_reducible exact word_Alu.mono _ _ _ _ _)
   | (with_reducible exact LeO.refl _)
   | (with_reducible exact LeO.none _)
   | (with_reducible refine LeO.ite ?_ ?_)
   | (with_reducible refine LeO.bind ?_ (fun _ => ?_))
   | exact ih0 _ _ _ _ _ _ _ _
   | exact ih1 _ _ _ _ _ _ _ _ _
   | exact ih2 _ _ _ _ _ _ _ _ _
   | exact value_pointers.mono _ _ _ _ _ _ _ _
   | exact word_Alu.mono _ _ _ _ _
   | exact LeO.none _
   | refine LeO.ite ?_ ?_
   | refine LeO.bind ?_ (fun _ => ?_)
theorem value_Alu.mono : ∀ a0 a1 a2 a3 a4 a5 a6 a7 k, LeO (value_Alu.f k a0 a1 a2 a3 a4 a5 a6 a7) (value_Alu.f (k + 1) a0 a1 a2 a3 a4 a5 a6 a7) := by
 intro a0 a1 a2 a3 a4 a5 a6 a7 k
 obtain ⟨ih0, ih1, ih2⟩ := value_Alu.mono_l k
 unfold value_Alu.f
 repeat' first
  | (with_reducible exact ih0 _ _ _ _ _ _ _ _)
  | (with_reducible exact ih1 _ _ _ _ _ _ _ _ _)
  | (with_reducible exact ih2 _ _ _ _ _ _ _ _ _)
  | (with_reducible exact value_pointers.mono _ _ _ _ _ _ _ _)
  | (with_reducible exact word_Alu.mono _ _ _ _ _)
  | (with_reducible exact LeO.refl _)
  | (with_reducible exact LeO.none _)
  | (with_reducible refine LeO.ite ?_ ?_)
  | (with_reducible refine LeO.bind ?_ (fun _ => ?_))
  | exact ih0 _ _ _ _ _ _ _ _
  | exact ih1 _ _ _ _ _ _ _ _ _
  | exact ih2 _ _ _ _ _ _ _ _ _
  | exact value_pointers.mono _ _ _ _ _ _ _ _
  | exact word_Alu.mono _ _ _ _ _
  | exact LeO.none _
  | refine LeO.ite ?_ ?_
  | refine LeO.bind ?_ (fun _ => ?_)
def value_Alu.T10 : Bool × List (List Nat × List Nat) := (true, [([], []), ([0], [0]), ([], []), ([2, 1], [2]), ([1, 3], [1, 3]), ([], []), ([4, 5], [4, 5]), ([6, 3], [6])])
def value_Alu.B10 : List Nat := [0, 1, 0, 7, 15, 0, 63, 127]
theorem value_Alu.tab10 : rtab .any (opsOf Try.f11 10) = value_Alu.T10 := by kernel_rfl
theorem value_Alu.bits10 : waitsOk value_Alu.T10.2 value_Alu.B10 = true := by kernel_rfl
set_option maxHeartbeats 8000000 in
set_option maxRecDepth 100000 in
theorem value_Alu.calls (k : Nat) (a0 : Int) (a1 : Bool) (a2_0 : Int) (a2_1 : Int) (a2_2 : Int) (a3_0 : Int) (a3_1 : Int) (a3_2 : Int) (r1 : Int) (r2 : Int) (r3 : Int) (r4 : Int) (w : World) (h : value_Alu.f k a0 a1 a2_0 a2_1 a2_2 a3_0 a3_1 a3_2 = some (r1, r2, r3, r4)) :
 Calls Try.prog 11 #[.int .i64 a0, .bool a1, .agg #[.int .i64 a2_0, .int .u64 a2_1, .int .i64 a2_2], .agg #[.int .i64 a3_0, .int .u64 a3_1, .int .i64 a3_2]] w fun e w' => e = .returned (.tuple #[.agg #[.int .i64 r1, .int .u64 r2, .int .i64 r3], .int .i64 r4]) ∧ Below w.heap.size w w' := by
 have hu24 := Try.underlying24
 have hu49 := Try.underlying49
 have HB := Aside0.mk (Below.refl w.heap.size w)
 have H : (if a0 = 8 then ((value_Num.f 0).bind fun bt129 => (value_Alu.j0 k a0 a1 a2_0 a2_1 a2_2 bt129.1 bt129.2.1 bt129.2.2)) else (if a0 = 11 then ((value_Num.f 0).bind fun bt132 => (value_Alu.j0 k a0 a1 bt132.1 bt132.2.1 bt132.2.2 a3_0 a3_1 a3_2)) else (value_Alu.j0 k a0 a1 a2_0 a2_1 a2_2 a3_0 a3_1 a3_2))) = some (r1, r2, r3, r4) := h
 clear h
 have HC5 := Aside0.mk H
 clear H
 go_enter Try.func11, Try.ntmps11
 go_upto_block 0 with (first | ((with_reducible refine gate_dst (N := 6) rfl ?_); refine bx_ 6 #[.int .i64 a2_0, .int .u64 a2_1, .int .i64 a2_2] 24 ?_; intro gb126 hg w6 BK126 hb; have GW126 := bg_ hg; have GE126 := GW126; replace HB := bl_ hb; clear hb hg) | ((with_reducible refine gate_dst (N := 7) rfl ?_); refine bx_ 7 #[.int .i64 a3_0, .int .u64 a3_1, .int .i64 a3_2] 24 ?_; intro gb127 hg w7 BK127 hb; have GW127 := bg_ hg; have GE127 := GW127; have NB126_127 := bm_ hg BK126; have NB127_126 := bn_ hg BK126; replace BK126 := bb_ hb BK126; replace HB := bl_ hb; clear hb hg) | ((with_reducible refine gate_dst (N := 8) rfl ?_); refine bx_ 8 #[.int .i64 0, .int .u64 0, .int .i64 0] 24 ?_; intro gb128 hg w8 BK128 hb; have GW128 := bg_ hg; have GE128 := GW128; have NB126_128 := bm_ hg BK126; have NB128_126 := bn_ hg BK126; have NB127_128 := bm_ hg BK127; have NB128_127 := bn_ hg BK127; replace BK126 := bb_ hb BK126; replace BK127 := bb_ hb BK127; replace HB := bl_ hb; clear hb hg))
 (try simp only [Act.put, s1_, s2_, s3_])
 go_cut [] (fun wc => ∃ (kq : Nat) (x127000_4 : Int) (x127001_4 : Int) (x127002_4 : Int) (x128000_4 : Int) (x128001_4 : Int) (x128002_4 : Int), Aside0 (value_Alu.j0 kq a0 a1 x127000_4 x127001_4 x127002_4 x128000_4 x128001_4 x128002_4 = some (r1, r2, r3, r4)) ∧ Aside0 (kq ≤ k) ∧ Aside0 (wc.heap[gb126]? = some (.cells #[.int .i64 x127000_4, .int .u64 x127001_4, .int .i64 x127002_4] 24 (0, 0))) ∧ Aside0 (wc.heap[gb127]? = some (.cells #[.int .i64 x128000_4, .int .u64 x128001_4, .int .i64 x128002_4] 24 (0, 0))) ∧ Aside0 (wc.heap[gb128]? = some (.cells #[.int .i64 0, .int .u64 0, .int .i64 0] 24 (0, 0))) ∧ Aside0 (Below w.heap.size w wc))
 case first =>
  have H := HC5.out
  clear HC5
  by_cases c9 : a0 = 8
  ·rw [if_pos c9] at H
   have c9b0 : (a0 == 8) = true := beq_iff_eq.mpr c9
   have c9b1 : (a0 != 8) = false := bne_eq_false_iff_eq.mpr c9
   clear c9
   (first | rw [c9b0] | (simp only [i64_w, i32_w]; rw [c9b0]) | skip)
   replace H := Option.bind_eq_some_iff.mp H
   obtain ⟨⟨t129, t130, t131⟩, A100, H⟩ := H
   replace H : (value_Alu.j0 k a0 a1 a2_0 a2_1 a2_2 t129 t130 t131) = some (r1, r2, r3, r4) := H
   have A10 := Aside0.mk A100
   clear A100
   have H' := Aside0.mk H
   clear H
   go_wp2_with (first | ((with_reducible refine gate_callee (f := 15) rfl ?_); refine gM_ 15 Try.func15 (value_Num.calls 0 t129 t130 t131 _ A10.out) ?_; intro w11 hb; replace BK126 := bb_ hb BK126; replace BK127 := bb_ hb BK127; replace BK128 := bb_ hb BK128; replace HB := bl_ hb; (try clear hb); (try clear hb2); (try clear hk); (try clear hi); have hnb12 := NB127_126.out; have hnc12 := NB126_127.out; have hnb13 := NB127_128.out; have hnc13 := NB128_127.out; obtain ⟨zc14_0, zc14_1, zc14_2, zf14_0, zf14_1, zf14_2⟩ := k3_ BK127))
   go_meet
   case rel => exact ⟨_, (a2_0), (a2_1), (a2_2), (t129), (t130), (t131), H', ⟨by first | omega | exact Nat.le_refl _⟩, ⟨by (with_reducible repeat (first | apply bN_ | apply bD_ | apply bA_)); refine blk_far ?_ NB126_127.out _; (with_reducible repeat (first | apply bN_ | apply bD_ | apply bA_)); refine blk_far ?_ NB126_127.out _; (with_reducible repeat (first | apply bN_ | apply bD_ | apply bA_)); refine blk_far ?_ NB126_127.out _; exact bk_⟩, ⟨by (with_reducible repeat (first | apply bN_ | apply bD_ | apply bA_)); refine blk_put (cs := #[.int .i64 t129, .int .u64 t130, .int .i64 a3_2]) ?_ 2 _ rfl; (with_reducible repeat (first | apply bN_ | apply bD_ | apply bA_)); refine blk_put (cs := #[.int .i64 t129, .int .u64 a3_1, .int .i64 a3_2]) ?_ 1 _ rfl; (with_reducible repeat (first | apply bN_ | apply bD_ | apply bA_)); refine blk_put (cs := #[.int .i64 a3_0, .int .u64 a3_1, .int .i64 a3_2]) ?_ 0 _ rfl; exact bk_⟩, ⟨by (with_reducible repeat (first | apply bN_ | apply bD_ | apply bA_)); refine blk_far ?_ NB128_127.out _; (with_reducible repeat (first | apply bN_ | apply bD_ | apply bA_)); refine blk_far ?_ NB128_127.out _; (with_reducible repeat (first | apply bN_ | apply bD_ | apply bA_)); refine blk_far ?_ NB128_127.out _; exact bk_⟩, ⟨bz_⟩⟩
  ·rw [if_neg c9] at H
   have c9b0 : (a0 == 8) = false := beq_eq_false_iff_ne.mpr c9
   have c9b1 : (a0 != 8) = true := bne_iff_ne.mpr c9
   (first | rw [c9b0] | (simp only [i64_w, i32_w]; rw [c9b0]) | skip)
   by_cases c15 : a0 = 11
   ·rw [if_pos c15] at H
    have c15b0 : (a0 == 11) = true := beq_iff_eq.mpr c15
    have c15b1 : (a0 != 11) = false := bne_eq_false_iff_eq.mpr c15
    clear c15
    replace H := Option.bind_eq_some_iff.mp H
    obtain ⟨⟨t132, t133, t134⟩, A160, H⟩ := H
    replace H : (value_Alu.j0 k a0 a1 t132 t133 t134 a3_0 a3_1 a3_2) = some (r1, r2, r3, r4) := H
    have A16 := Aside0.mk A160
    clear A160
    have H' := Aside0.mk H
    clear H
    go_wp2_with (first | ((with_reducible refine gate_callee (f := 15) rfl ?_); refine gM_ 18 Try.func15 (value_Num.calls 0 t132 t133 t134 _ A16.out) ?_; intro w17 hb; replace BK126 := bb_ hb BK126; replace BK127 := bb_ hb BK127; replace BK128 := bb_ hb BK128; replace HB := bl_ hb; (try clear hb); (try clear hb2); (try clear hk); (try clear hi); have hnb18 := NB126_127.out; have hnc18 := NB127_126.out; have hnb19 := NB126_128.out; have hnc19 := NB128_126.out; obtain ⟨zc20_0, zc20_1, zc20_2, zf20_0, zf20_1, zf20_2⟩ := k3_ BK126))
    go_meet
    case rel => exact ⟨_, (t132), (t133), (t134), (a3_0), (a3_1), (a3_2), H', ⟨by first | omega | exact Nat.le_refl _⟩, ⟨by (with_reducible repeat (first | apply bN_ | apply bD_ | apply bA_)); refine blk_put (cs := #[.int .i64 t132, .int .u64 t133, .int .i64 a2_2]) ?_ 2 _ rfl; (with_reducible repeat (first | apply bN_ | apply bD_ | apply bA_)); refine blk_put (cs := #[.int .i64 t132, .int .u64 a2_1, .int .i64 a2_2]) ?_ 1 _ rfl; (with_reducible repeat (first | apply bN_ | apply bD_ | apply bA_)); refine blk_put (cs := #[.int .i64 a2_0, .int .u64 a2_1, .int .i64 a2_2]) ?_ 0 _ rfl; exact bk_⟩, ⟨by (with_reducible repeat (first | apply bN_ | apply bD_ | apply bA_)); refine blk_far ?_ NB127_126.out _; (with_reducible repeat (first | apply bN_ | apply bD_ | apply bA_)); refine blk_far ?_ NB127_126.out _; (with_reducible repeat (first | apply bN_ | apply bD_ | apply bA_)); refine blk_far ?_ NB127_126.out _; exact bk_⟩, ⟨by (with_reducible repeat (first | apply bN_ | apply bD_ | apply bA_)); refine blk_far ?_ NB128_126.out _; (with_reducible repeat (first | apply bN_ | apply bD_ | apply bA_)); refine blk_far ?_ NB128_126.out _; (with_reducible repeat (first | apply bN_ | apply bD_ | apply bA_)); refine blk_far ?_ NB128_126.out _; exact bk_⟩, ⟨bz_⟩⟩
   ·rw [if_neg c15] at H
    have c15b0 : (a0 == 11) = false := beq_eq_false_iff_ne.mpr c15
    have c15b1 : (a0 != 11) = true := bne_iff_ne.mpr c15
    have H' := Aside0.mk H
    clear H
    go_wp2
    go_meet
    case rel => exact ⟨_, (a2_0), (a2_1), (a2_2), (a3_0), (a3_1), (a3_2), H', ⟨by first | omega | exact Nat.le_refl _⟩, ⟨bk_⟩, ⟨bk_⟩, ⟨bk_⟩, ⟨bz_⟩⟩
 case rest =>
  clear HC5
  try clear c1
  try clear p2
  try clear c9
  try clear c9b0
  try clear c9b1
  try clear c11
  try clear c12
  try clear c13
  try clear c15
  try clear c15b0
  try clear c15b1
  try clear c18
  try clear c19
  try clear zc14_0
  try clear zc14_1
  try clear zc14_2
  try clear zc20_0
  try clear zc20_1
  try clear zc20_2
  try clear zf14_0
  try clear zf14_1
  try clear zf14_2
  try clear zf20_0
  try clear zf20_1
  try clear zf20_2
  obtain ⟨kq, x127000_4, x127001_4, x127002_4, x128000_4, x128001_4, x128002_4, HA, HJ4, BK126, BK127, BK128, HB⟩ := hcut
  cases kq with
  | zero => exact absurd HA.out (by simp [value_Alu.j0])
  | succ kj4 =>
   have H := HA.out
   clear HA
   simp only [value_Alu.j0] at H
   have HC21 := Aside0.mk H
   clear H
   go_upto_region 6 with (fail)
   go_cut [19] (fun v19 wc => ∃ (kq : Nat) (x19_20 : Bool), v19 = .bool x19_20 ∧ Aside0 (value_Alu.j1 kq a0 a1 x19_20 x127000_4 x127001_4 x127002_4 x128000_4 x128001_4 x128002_4 = some (r1, r2, r3, r4)) ∧ Aside0 (kq ≤ kj4) ∧ Aside0 (wc.heap[gb126]? = some (.cells #[.int .i64 x127000_4, .int .u64 x127001_4, .int .i64 x127002_4] 24 (0, 0))) ∧ Aside0 (wc.heap[gb127]? = some (.cells #[.int .i64 x128000_4, .int .u64 x128001_4, .int .i64 x128002_4] 24 (0, 0))) ∧ Aside0 (wc.heap[gb128]? = some (.cells #[.int .i64 0, .int .u64 0, .int .i64 0] 24 (0, 0))) ∧ Aside0 (Below w.heap.size w wc))
   case first =>
    have H := HC21.out
    clear HC21
    by_cases c22 : a0 < 0
    ·rw [if_pos c22] at H
     have c22b0 : decide (a0 < 0) = true := decide_eq_true c22
     clear c22
     (first | rw [c22b0] | (simp only [i64_w, i32_w]; rw [c22b0]) | skip)
     have H' := Aside0.mk H
     clear H
     go_wp2
     go_meet
     case rel => exact ⟨_, (true), (by first | rfl | (simp; done) | (simp [*]; done)), H', ⟨by have := HJ4.out; first | omega | exact Nat.le_refl _⟩, ⟨bk_⟩, ⟨bk_⟩, ⟨bk_⟩, ⟨bz_⟩⟩
    ·rw [if_neg c22] at H
     have c22b0 : decide (a0 < 0) = false := decide_eq_false c22
     clear c22
     (first | rw [c22b0] | (simp only [i64_w, i32_w]; rw [c22b0]) | skip)
     have H' := Aside0.mk H
     clear H
     go_wp2
     go_meet
     case rel => exact ⟨_, (decide (a0 > 12)), (by first | rfl | (simp; done) | (simp [*]; done)), H', ⟨by have := HJ4.out; first | omega | exact Nat.le_refl _⟩, ⟨bk_⟩, ⟨bk_⟩, ⟨bk_⟩, ⟨bz_⟩⟩
   case rest =>
    clear HC21
    try clear c1
    try clear c2
    try clear p2
    try clear c9
    try clear c9b0
    try clear c9b1
    try clear c11
    try clear c12
    try clear c13
    try clear c15
    try clear c15b0
    try clear c15b1
    try clear c18
    try clear c19
    try clear c22
    try clear c22b0
    try clear zc14_0
    try clear zc14_1
    try clear zc14_2
    try clear zc20_0
    try clear zc20_1
    try clear zc20_2
    try clear zf14_0
    try clear zf14_1
    try clear zf14_2
    try clear zf20_0
    try clear zf20_1
    try clear zf20_2
    try clear p2
    obtain ⟨kq, x19_20, rfl, HA, HJ20, BK126, BK127, BK128, HB⟩ := hcut
    cases kq with
    | zero => exact absurd HA.out (by simp [value_Alu.j1])
    | succ kj20 =>
     have H := HA.out
     clear HA
     simp only [value_Alu.j1] at H
     by_cases c23 : x19_20 = true
     ·subst c23
      have H1 : (some (0, 0, 0, 4)) = some (r1, r2, r3, r4) := by rw [if_pos rfl] at H; exact H
      clear H
      have H := H1
      clear H1
      simp only [Option.some.injEq, Prod.mk.injEq] at H
      obtain ⟨rfl, rfl, rfl, rfl⟩ := H
      have hnb24 := NB128_126.out
      have hnc24 := NB126_128.out
      have hnb25 := NB128_127.out
      have hnc25 := NB127_128.out
      obtain ⟨zc26_0, zc26_1, zc26_2, zf26_0, zf26_1, zf26_2⟩ := k3_ BK128
      go_wp2
      refine bodyPost_ret (results_ct rfl _ _ gb128 24 #[.int .i64 0, .int .u64 0, .int .i64 0] (0, 0) _ rfl (by (with_reducible repeat (first | apply bN_ | apply bD_ | apply bA_)); refine blk_put (cs := #[.int .i64 0, .int .u64 0, .int .i64 0]) ?_ 2 _ rfl; (with_reducible repeat (first | apply bN_ | apply bD_ | apply bA_)); refine blk_put (cs := #[.int .i64 0, .int .u64 0, .int .i64 0]) ?_ 1 _ rfl; (with_reducible repeat (first | apply bN_ | apply bD_ | apply bA_)); refine blk_put (cs := #[.int .i64 0, .int .u64 0, .int .i64 0]) ?_ 0 _ rfl; exact bk_) Try.underlying24 rfl (by kernel_rfl)) rfl ?_
      exact ⟨vv_, bz_⟩
     ·replace c23 := Bool.eq_false_iff.mpr c23
      subst c23
      have H1 : (if x127000_4 = 0 then (value_Alu.j2 kj20 a0 a1 true x127000_4 x127001_4 x127002_4 x128000_4 x128001_4 x128002_4) else (value_Alu.j2 kj20 a0 a1 (x128000_4 == 0) x127000_4 x127001_4 x127002_4 x128000_4 x128001_4 x128002_4)) = some (r1, r2, r3, r4) := by rw [if_neg (show ¬ (false = true) by decide)] at H; exact H
      clear H
      have H := H1
      clear H1
      have HC27 := Aside0.mk H
      clear H
      go_upto_region 8 with (fail)
      go_cut [27] (fun v27 wc => ∃ (kq : Nat) (x27_26 : Bool), v27 = .bool x27_26 ∧ Aside0 (value_Alu.j2 kq a0 a1 x27_26 x127000_4 x127001_4 x127002_4 x128000_4 x128001_4 x128002_4 = some (r1, r2, r3, r4)) ∧ Aside0 (kq ≤ kj20) ∧ Aside0 (wc.heap[gb126]? = some (.cells #[.int .i64 x127000_4, .int .u64 x127001_4, .int .i64 x127002_4] 24 (0, 0))) ∧ Aside0 (wc.heap[gb127]? = some (.cells #[.int .i64 x128000_4, .int .u64 x128001_4, .int .i64 x128002_4] 24 (0, 0))) ∧ Aside0 (wc.heap[gb128]? = some (.cells #[.int .i64 0, .int .u64 0, .int .i64 0] 24 (0, 0))) ∧ Aside0 (Below w.heap.size w wc))
      case first =>
       have H := HC27.out
       clear HC27
       by_cases c28 : x127000_4 = 0
       ·rw [if_pos c28] at H
        have c28b0 : (x127000_4 == 0) = true := beq_iff_eq.mpr c28
        have c28b1 : (x127000_4 != 0) = false := bne_eq_false_iff_eq.mpr c28
        clear c28
        (first | rw [c28b0] | (simp only [i64_w, i32_w]; rw [c28b0]) | skip)
        have H' := Aside0.mk H
        clear H
        have hnb29 := NB126_127.out
        have hnc29 := NB127_126.out
        have hnb30 := NB126_128.out
        have hnc30 := NB128_126.out
        obtain ⟨zc31_0, zc31_1, zc31_2, zf31_0, zf31_1, zf31_2⟩ := k3_ BK126
        go_wp2
        go_meet
        case rel => exact ⟨_, (true), (by first | rfl | (simp; done) | (simp [*]; done)), H', ⟨by have := HJ4.out; have := HJ20.out; first | omega | exact Nat.le_refl _⟩, ⟨bk_⟩, ⟨bk_⟩, ⟨bk_⟩, ⟨bz_⟩⟩
       ·rw [if_neg c28] at H
        have c28b0 : (x127000_4 == 0) = false := beq_eq_false_iff_ne.mpr c28
        have c28b1 : (x127000_4 != 0) = true := bne_iff_ne.mpr c28
        (first | rw [c28b0] | (simp only [i64_w, i32_w]; rw [c28b0]) | skip)
        have H' := Aside0.mk H
        clear H
        have hnb32 := NB126_127.out
        have hnc32 := NB127_126.out
        have hnb33 := NB126_128.out
        have hnc33 := NB128_126.out
        obtain ⟨zc34_0, zc34_1, zc34_2, zf34_0, zf34_1, zf34_2⟩ := k3_ BK126
        have hnb35 := NB127_128.out
        have hnc35 := NB128_127.out
        obtain ⟨zc36_0, zc36_1, zc36_2, zf36_0, zf36_1, zf36_2⟩ := k3_ BK127
        go_wp2
        go_meet
        case rel => exact ⟨_, ((x128000_4 == 0)), (by first | rfl | (simp; done) | (simp [*]; done)), H', ⟨by have := HJ4.out; have := HJ20.out; first | omega | exact Nat.le_refl _⟩, ⟨bk_⟩, ⟨bk_⟩, ⟨bk_⟩, ⟨bz_⟩⟩
      case rest =>
       clear HC27
       try clear c1
       try clear c2
       try clear p2
       try clear c3
       try clear c9
       try clear c9b0
       try clear c9b1
       try clear c11
       try clear c12
       try clear c13
       try clear c15
       try clear c15b0
       try clear c15b1
       try clear c18
       try clear c19
       try clear c22
       try clear c22b0
       try clear c23
       try clear c24
       try clear c25
       try clear c28
       try clear c28b0
       try clear c28b1
       try clear c29
       try clear c30
       try clear c32
       try clear c33
       try clear c35
       try clear zc14_0
       try clear zc14_1
       try clear zc14_2
       try clear zc20_0
       try clear zc20_1
       try clear zc20_2
       try clear zc26_0
       try clear zc26_1
       try clear zc26_2
       try clear zc31_0
       try clear zc31_1
       try clear zc31_2
       try clear zc34_0
       try clear zc34_1
       try clear zc34_2
       try clear zc36_0
       try clear zc36_1
       try clear zc36_2
       try clear zf14_0
       try clear zf14_1
       try clear zf14_2
       try clear zf20_0
       try clear zf20_1
       try clear zf20_2
       try clear zf26_0
       try clear zf26_1
       try clear zf26_2
       try clear zf31_0
       try clear zf31_1
       try clear zf31_2
       try clear zf34_0
       try clear zf34_1
       try clear zf34_2
       try clear zf36_0
       try clear zf36_1
       try clear zf36_2
       try clear p2
       obtain ⟨kq, x27_26, rfl, HA, HJ26, BK126, BK127, BK128, HB⟩ := hcut
       cases kq with
       | zero => exact absurd HA.out (by simp [value_Alu.j2])
       | succ kj26 =>
        have H := HA.out
        clear HA
        simp only [value_Alu.j2] at H
        by_cases c37 : x27_26 = true
        ·subst c37
         have H1 : (some (0, 0, 0, 20)) = some (r1, r2, r3, r4) := by rw [if_pos rfl] at H; exact H
         clear H
         have H := H1
         clear H1
         simp only [Option.some.injEq, Prod.mk.injEq] at H
         obtain ⟨rfl, rfl, rfl, rfl⟩ := H
         have hnb38 := NB128_126.out
         have hnc38 := NB126_128.out
         have hnb39 := NB128_127.out
         have hnc39 := NB127_128.out
         obtain ⟨zc40_0, zc40_1, zc40_2, zf40_0, zf40_1, zf40_2⟩ := k3_ BK128
         go_wp2
         refine bodyPost_ret (results_ct rfl _ _ gb128 24 #[.int .i64 0, .int .u64 0, .int .i64 0] (0, 0) _ rfl (by (with_reducible repeat (first | apply bN_ | apply bD_ | apply bA_)); refine blk_put (cs := #[.int .i64 0, .int .u64 0, .int .i64 0]) ?_ 2 _ rfl; (with_reducible repeat (first | apply bN_ | apply bD_ | apply bA_)); refine blk_put (cs := #[.int .i64 0, .int .u64 0, .int .i64 0]) ?_ 1 _ rfl; (with_reducible repeat (first | apply bN_ | apply bD_ | apply bA_)); refine blk_put (cs := #[.int .i64 0, .int .u64 0, .int .i64 0]) ?_ 0 _ rfl; exact bk_) Try.underlying24 rfl (by kernel_rfl)) rfl ?_
         exact ⟨vv_, bz_⟩
        ·replace c37 := Bool.eq_false_iff.mpr c37
         subst c37
         have H1 : ((value_side.f x127000_4 x127001_4 x127002_4).bind fun t135 => ((value_side.f x128000_4 x128001_4 x128002_4).bind fun t136 => (if (t135 == 1 && (t136 == 1)) = true then ((word_Alu.f kj26 a0 a1 x127001_4 x128001_4).bind fun bt137 => ((value_Num.f bt137.1).bind fun bt139 => (some (bt139.1, bt139.2.1, bt139.2.2, 0)))) else (if a1 = true then (if a0 = 11 then (some (x128000_4, x128001_4, x128002_4, 0)) else ((value_pointers.f kj26 a0 x127000_4 x127001_4 x127002_4 x128000_4 x128001_4 x128002_4).bind fun bt142 => (some (bt142.1, bt142.2.1, bt142.2.2.1, bt142.2.2.2)))) else (some (0, 0, 0, 21)))))) = some (r1, r2, r3, r4) := by rw [if_neg (show ¬ (false = true) by decide)] at H; exact H
         clear H
         have H := H1
         clear H1
         replace H := Option.bind_eq_some_iff.mp H
         obtain ⟨t135, A410, H⟩ := H
         replace H : ((value_side.f x128000_4 x128001_4 x128002_4).bind fun t136 => (if (t135 == 1 && (t136 == 1)) = true then ((word_Alu.f kj26 a0 a1 x127001_4 x128001_4).bind fun bt137 => ((value_Num.f bt137.1).bind fun bt139 => (some (bt139.1, bt139.2.1, bt139.2.2, 0)))) else (if a1 = true then (if a0 = 11 then (some (x128000_4, x128001_4, x128002_4, 0)) else ((value_pointers.f kj26 a0 x127000_4 x127001_4 x127002_4 x128000_4 x128001_4 x128002_4).bind fun bt142 => (some (bt142.1, bt142.2.1, bt142.2.2.1, bt142.2.2.2)))) else (some (0, 0, 0, 21))))) = some (r1, r2, r3, r4) := H
         have A41 := Aside0.mk A410
         clear A410
         replace H := Option.bind_eq_some_iff.mp H
         obtain ⟨t136, A420, H⟩ := H
         replace H : (if (t135 == 1 && (t136 == 1)) = true then ((word_Alu.f kj26 a0 a1 x127001_4 x128001_4).bind fun bt137 => ((value_Num.f bt137.1).bind fun bt139 => (some (bt139.1, bt139.2.1, bt139.2.2, 0)))) else (if a1 = true then (if a0 = 11 then (some (x128000_4, x128001_4, x128002_4, 0)) else ((value_pointers.f kj26 a0 x127000_4 x127001_4 x127002_4 x128000_4 x128001_4 x128002_4).bind fun bt142 => (some (bt142.1, bt142.2.1, bt142.2.2.1, bt142.2.2.2)))) else (some (0, 0, 0, 21)))) = some (r1, r2, r3, r4) := H
         have A42 := Aside0.mk A420
         clear A420
         by_cases c43 : (t135 == 1 && (t136 == 1)) = true
         ·rw [if_pos c43] at H
          have c43b0 : (t135 == 1 && (t136 == 1)) = true := c43
          (try (have c43b1 : decide (t135 = 1 && (t136 == 1)) = true := by simpa using c43))
          (try (have c43b2 : (t135 == 1 && (t136 == 1)) = true := by simpa using c43))
          clear c43
          replace H := Option.bind_eq_some_iff.mp H
          obtain ⟨⟨t137, t138⟩, A440, H⟩ := H
          replace H : ((value_Num.f t137).bind fun bt139 => (some (bt139.1, bt139.2.1, bt139.2.2, 0))) = some (r1, r2, r3, r4) := H
          have A44 := Aside0.mk A440
          clear A440
          replace H := Option.bind_eq_some_iff.mp H
          obtain ⟨⟨t139, t140, t141⟩, A450, H⟩ := H
          replace H : (some (t139, t140, t141, 0)) = some (r1, r2, r3, r4) := H
          have A45 := Aside0.mk A450
          clear A450
          simp only [Option.some.injEq, Prod.mk.injEq] at H
          obtain ⟨rfl, rfl, rfl, rfl⟩ := H
          try go_wp2
          replace BK126 := Aside0.mk (blk_drew BK126.out)
          replace BK127 := Aside0.mk (blk_drew BK127.out)
          replace BK128 := Aside0.mk (blk_drew BK128.out)
          replace HB := Aside0.mk (below_drew1 HB.out)
          refine start_ (n := 8) (S := fun w' => w'.cell? ⟨gb126, 0, none⟩ = some (.int .i64 x127000_4) ∧ w'.cell? ⟨gb126, 1, none⟩ = some (.int .u64 x127001_4) ∧ w'.cell? ⟨gb126, 2, none⟩ = some (.int .i64 x127002_4) ∧ w'.cell? ⟨gb127, 0, none⟩ = some (.int .i64 x128000_4) ∧ w'.cell? ⟨gb127, 1, none⟩ = some (.int .u64 x128001_4) ∧ w'.cell? ⟨gb127, 2, none⟩ = some (.int .i64 x128002_4)) (ds := []) #[n_,n_,n_,n_,n_,n_,n_,n_] (by kernel_rfl) rfl rfl ⟨c0_ BK126, c1_ BK126, c2_ BK126, c0_ BK127, c1_ BK127, c2_ BK127⟩ (fun hHeld => ?_); refine with_tabW value_Alu.tab10 value_Alu.bits10 (fun HT_ HW_ => ?_)
          generalize wc.drew = w46 at BK126 BK127 BK128 HB hHeld ⊢
          refine pq_ 5 43 #[n_,n_,n_,n_,n_,y_,n_,n_] ?_
          refine tq1_ 0 38 #[y_,n_,n_,n_,n_,y_,n_,n_] hHeld ?_
          refine tq1_ 2 40 #[y_,n_,y_,n_,n_,y_,n_,n_] hHeld ?_
          refine one_ (i := 1) (N := some 39) #[y_,y_,y_,n_,n_,y_,n_,n_] rfl rfl (one_of HT_.out (by kernel_rfl)) (by decide) (fun K hK => ?_)
          refine goes_ Try.func27 (by kernel_rfl) rfl #[.agg #[.int .i64 x127000_4, .int .u64 x127001_4, .int .i64 x127002_4]] (by rfl) rfl rfl mp_ ?_
          with_reducible refine (value_side.calls x127000_4 x127001_4 x127002_4 t135 _ A41.out).mono ?_
          rintro e w47 ⟨rfl, hb⟩
          refine ⟨_, rfl, ?_⟩
          replace BK126 := bb_ hb BK126
          replace BK127 := bb_ hb BK127
          replace BK128 := bb_ hb BK128
          replace HB := bl_ hb
          try clear hb
          refine hK.out _ _ ⟨c0_ BK126, c1_ BK126, c2_ BK126, c0_ BK127, c1_ BK127, c2_ BK127⟩ (fun hHeld => ?_)
          clear hK K
          refine norm_ (a' := ?_) ?_ ?_
          rotate_left
          ·show Act.put _ (some 39) _ = _
           simp only [Act.put, s1_, s2_, s3_, i64_w, i32_w]
           rfl
          refine one_ (i := 3) (N := some 41) #[y_,y_,y_,y_,n_,y_,n_,n_] rfl rfl (one_of HT_.out (by kernel_rfl)) (by decide) (fun K hK => ?_)
          refine goes_ Try.func27 (by kernel_rfl) rfl #[.agg #[.int .i64 x128000_4, .int .u64 x128001_4, .int .i64 x128002_4]] (by rfl) rfl rfl mp_ ?_
          with_reducible refine (value_side.calls x128000_4 x128001_4 x128002_4 t136 _ A42.out).mono ?_
          rintro e w48 ⟨rfl, hb⟩
          refine ⟨_, rfl, ?_⟩
          replace BK126 := bb_ hb BK126
          replace BK127 := bb_ hb BK127
          replace BK128 := bb_ hb BK128
          replace HB := bl_ hb
          try clear hb
          refine hK.out _ _ ⟨c0_ BK126, c1_ BK126, c2_ BK126, c0_ BK127, c1_ BK127, c2_ BK127⟩ (fun hHeld => ?_)
          clear hK K
          refine norm_ (a' := ?_) ?_ ?_
          rotate_left
          ·show Act.put _ (some 41) _ = _
           simp only [Act.put, s1_, s2_, s3_, i64_w, i32_w]
           rfl
          refine pq_ 4 42 #[y_,y_,y_,y_,y_,y_,n_,n_] ?_
          refine pq_ 6 44 #[y_,y_,y_,y_,y_,y_,y_,n_] ?_
          refine pq_ 7 37 #[y_,y_,y_,y_,y_,y_,y_,y_] ?_
          refine done_ (done_of HT_.out (by kernel_rfl)) ?_
          have hnb49 := NB126_127.out
          have hnc49 := NB127_126.out
          have hnb50 := NB126_128.out
          have hnc50 := NB128_126.out
          obtain ⟨zc51_0, zc51_1, zc51_2, zf51_0, zf51_1, zf51_2⟩ := k3_ BK126
          have hnb52 := NB127_128.out
          have hnc52 := NB128_127.out
          obtain ⟨zc53_0, zc53_1, zc53_2, zf53_0, zf53_1, zf53_2⟩ := k3_ BK127
          try go_wp2_with (first | ((with_reducible refine gate_callee (f := 24) rfl ?_); refine gM_ 52 Try.func24 (word_Alu.calls kj26 a0 a1 x127001_4 x128001_4 t137 t138 _ A44.out) ?_; rintro w' ⟨nd, rfl⟩; (try (rw [drewN_self w48]; generalize hq_ : World.drewN w48 _ = w48; have n0_ : Aside0 (w48.heap[gb126]? = some (.cells #[.int .i64 x127000_4, .int .u64 x127001_4, .int .i64 x127002_4] 24 (0, 0))) := ⟨by rw [← hq_]; exact bk_⟩; have n1_ : Aside0 (w48.heap[gb127]? = some (.cells #[.int .i64 x128000_4, .int .u64 x128001_4, .int .i64 x128002_4] 24 (0, 0))) := ⟨by rw [← hq_]; exact bk_⟩; have n2_ : Aside0 (w48.heap[gb128]? = some (.cells #[.int .i64 0, .int .u64 0, .int .i64 0] 24 (0, 0))) := ⟨by rw [← hq_]; exact bk_⟩; have n3_ : Aside0 (Below w.heap.size w w48) := ⟨by rw [← hq_]; exact bz_⟩; clear BK126 BK127 BK128 HB hq_; have BK126 := n0_; have BK127 := n1_; have BK128 := n2_; have HB := n3_; clear n0_ n1_ n2_ n3_)); obtain ⟨ycgb126_0, ycgb126_1, ycgb126_2, yfgb126_0, yfgb126_1, yfgb126_2⟩ := k3_ BK126; obtain ⟨ycgb127_0, ycgb127_1, ycgb127_2, yfgb127_0, yfgb127_1, yfgb127_2⟩ := k3_ BK127; obtain ⟨ycgb128_0, ycgb128_1, ycgb128_2, yfgb128_0, yfgb128_1, yfgb128_2⟩ := k3_ BK128) | ((with_reducible refine gate_callee (f := 15) rfl ?_); refine gM_ 56 Try.func15 (value_Num.calls t137 t139 t140 t141 _ A45.out) ?_; intro w54 hb; replace BK126 := bb_ hb BK126; replace BK127 := bb_ hb BK127; replace BK128 := bb_ hb BK128; replace HB := bl_ hb; (try clear hb); (try clear hb2); (try clear hk); (try clear hi); obtain ⟨zc55_0, zc55_1, zc55_2, zf55_0, zf55_1, zf55_2⟩ := k3_ BK128))
          refine bodyPost_ret (results_ct rfl _ _ gb128 24 #[.int .i64 t139, .int .u64 t140, .int .i64 t141] (0, 0) _ rfl (by (with_reducible repeat (first | apply bN_ | apply bD_ | apply bA_)); refine blk_put (cs := #[.int .i64 t139, .int .u64 t140, .int .i64 0]) ?_ 2 _ rfl; (with_reducible repeat (first | apply bN_ | apply bD_ | apply bA_)); refine blk_put (cs := #[.int .i64 t139, .int .u64 0, .int .i64 0]) ?_ 1 _ rfl; (with_reducible repeat (first | apply bN_ | apply bD_ | apply bA_)); refine blk_put (cs := #[.int .i64 0, .int .u64 0, .int .i64 0]) ?_ 0 _ rfl; exact bk_) Try.underlying24 rfl (by kernel_rfl)) rfl ?_
          exact ⟨vv_, bz_⟩
         ·rw [if_neg c43] at H
          have c43b0 : (t135 == 1 && (t136 == 1)) = false := by simpa using c43
          (try (have c43b1 : decide (t135 = 1 && (t136 == 1)) = false := by simpa using c43))
          (try (have c43b2 : (t135 == 1 && (t136 == 1)) = false := by simpa using c43))
          (try (have c43b3 : ¬ (t135 = 1 && (t136 == 1)) := by simpa using c43))
          clear c43
          by_cases c56 : a1 = true
          ·subst c56
           have H1 : (if a0 = 11 then (some (x128000_4, x128001_4, x128002_4, 0)) else ((value_pointers.f kj26 a0 x127000_4 x127001_4 x127002_4 x128000_4 x128001_4 x128002_4).bind fun bt142 => (some (bt142.1, bt142.2.1, bt142.2.2.1, bt142.2.2.2)))) = some (r1, r2, r3, r4) := by rw [if_pos rfl] at H; exact H
           clear H
           have H := H1
           clear H1
           by_cases c57 : a0 = 11
           ·rw [if_pos c57] at H
            have c57b0 : (a0 == 11) = true := beq_iff_eq.mpr c57
            have c57b1 : (a0 != 11) = false := bne_eq_false_iff_eq.mpr c57
            clear c57
            simp only [Option.some.injEq, Prod.mk.injEq] at H
            obtain ⟨rfl, rfl, rfl, rfl⟩ := H
            try go_wp2
            replace BK126 := Aside0.mk (blk_drew BK126.out)
            replace BK127 := Aside0.mk (blk_drew BK127.out)
            replace BK128 := Aside0.mk (blk_drew BK128.out)
            replace HB := Aside0.mk (below_drew1 HB.out)
            refine start_ (n := 8) (S := fun w' => w'.cell? ⟨gb126, 0, none⟩ = some (.int .i64 x127000_4) ∧ w'.cell? ⟨gb126, 1, none⟩ = some (.int .u64 x127001_4) ∧ w'.cell? ⟨gb126, 2, none⟩ = some (.int .i64 x127002_4) ∧ w'.cell? ⟨gb127, 0, none⟩ = some (.int .i64 x128000_4) ∧ w'.cell? ⟨gb127, 1, none⟩ = some (.int .u64 x128001_4) ∧ w'.cell? ⟨gb127, 2, none⟩ = some (.int .i64 x128002_4)) (ds := []) #[n_,n_,n_,n_,n_,n_,n_,n_] (by kernel_rfl) rfl rfl ⟨c0_ BK126, c1_ BK126, c2_ BK126, c0_ BK127, c1_ BK127, c2_ BK127⟩ (fun hHeld => ?_); refine with_tabW value_Alu.tab10 value_Alu.bits10 (fun HT_ HW_ => ?_)
            generalize wc.drew = w58 at BK126 BK127 BK128 HB hHeld ⊢
            refine pq_ 5 43 #[n_,n_,n_,n_,n_,y_,n_,n_] ?_
            refine tq1_ 0 38 #[y_,n_,n_,n_,n_,y_,n_,n_] hHeld ?_
            refine tq1_ 2 40 #[y_,n_,y_,n_,n_,y_,n_,n_] hHeld ?_
            refine one_ (i := 1) (N := some 39) #[y_,y_,y_,n_,n_,y_,n_,n_] rfl rfl (one_of HT_.out (by kernel_rfl)) (by decide) (fun K hK => ?_)
            refine goes_ Try.func27 (by kernel_rfl) rfl #[.agg #[.int .i64 x127000_4, .int .u64 x127001_4, .int .i64 x127002_4]] (by rfl) rfl rfl mp_ ?_
            with_reducible refine (value_side.calls x127000_4 x127001_4 x127002_4 t135 _ A41.out).mono ?_
            rintro e w59 ⟨rfl, hb⟩
            refine ⟨_, rfl, ?_⟩
            replace BK126 := bb_ hb BK126
            replace BK127 := bb_ hb BK127
            replace BK128 := bb_ hb BK128
            replace HB := bl_ hb
            try clear hb
            refine hK.out _ _ ⟨c0_ BK126, c1_ BK126, c2_ BK126, c0_ BK127, c1_ BK127, c2_ BK127⟩ (fun hHeld => ?_)
            clear hK K
            refine norm_ (a' := ?_) ?_ ?_
            rotate_left
            ·show Act.put _ (some 39) _ = _
             simp only [Act.put, s1_, s2_, s3_, i64_w, i32_w]
             rfl
            refine one_ (i := 3) (N := some 41) #[y_,y_,y_,y_,n_,y_,n_,n_] rfl rfl (one_of HT_.out (by kernel_rfl)) (by decide) (fun K hK => ?_)
            refine goes_ Try.func27 (by kernel_rfl) rfl #[.agg #[.int .i64 x128000_4, .int .u64 x128001_4, .int .i64 x128002_4]] (by rfl) rfl rfl mp_ ?_
            with_reducible refine (value_side.calls x128000_4 x128001_4 x128002_4 t136 _ A42.out).mono ?_
            rintro e w60 ⟨rfl, hb⟩
            refine ⟨_, rfl, ?_⟩
            replace BK126 := bb_ hb BK126
            replace BK127 := bb_ hb BK127
            replace BK128 := bb_ hb BK128
            replace HB := bl_ hb
            try clear hb
            refine hK.out _ _ ⟨c0_ BK126, c1_ BK126, c2_ BK126, c0_ BK127, c1_ BK127, c2_ BK127⟩ (fun hHeld => ?_)
            clear hK K
            refine norm_ (a' := ?_) ?_ ?_
            rotate_left
            ·show Act.put _ (some 41) _ = _
             simp only [Act.put, s1_, s2_, s3_, i64_w, i32_w]
             rfl
            refine pq_ 4 42 #[y_,y_,y_,y_,y_,y_,n_,n_] ?_
            refine pq_ 6 44 #[y_,y_,y_,y_,y_,y_,y_,n_] ?_
            refine pq_ 7 37 #[y_,y_,y_,y_,y_,y_,y_,y_] ?_
            refine done_ (done_of HT_.out (by kernel_rfl)) ?_
            have hnb61 := NB127_126.out
            have hnc61 := NB126_127.out
            have hnb62 := NB127_128.out
            have hnc62 := NB128_127.out
            obtain ⟨zc63_0, zc63_1, zc63_2, zf63_0, zf63_1, zf63_2⟩ := k3_ BK127
            have hnb64 := NB128_126.out
            have hnc64 := NB126_128.out
            obtain ⟨zc65_0, zc65_1, zc65_2, zf65_0, zf65_1, zf65_2⟩ := k3_ BK128
            try go_wp2
            refine bodyPost_ret (results_ct rfl _ _ gb128 24 #[.int .i64 x128000_4, .int .u64 x128001_4, .int .i64 x128002_4] (0, 0) _ rfl (by (with_reducible repeat (first | apply bN_ | apply bD_ | apply bA_)); refine blk_put (cs := #[.int .i64 x128000_4, .int .u64 x128001_4, .int .i64 0]) ?_ 2 _ rfl; (with_reducible repeat (first | apply bN_ | apply bD_ | apply bA_)); refine blk_put (cs := #[.int .i64 x128000_4, .int .u64 0, .int .i64 0]) ?_ 1 _ rfl; (with_reducible repeat (first | apply bN_ | apply bD_ | apply bA_)); refine blk_put (cs := #[.int .i64 0, .int .u64 0, .int .i64 0]) ?_ 0 _ rfl; exact bk_) Try.underlying24 rfl (by kernel_rfl)) rfl ?_
            exact ⟨vv_, bz_⟩
           ·rw [if_neg c57] at H
            have c57b0 : (a0 == 11) = false := beq_eq_false_iff_ne.mpr c57
            have c57b1 : (a0 != 11) = true := bne_iff_ne.mpr c57
            replace H := Option.bind_eq_some_iff.mp H
            obtain ⟨⟨t142, t143, t144, t145⟩, A660, H⟩ := H
            replace H : (some (t142, t143, t144, t145)) = some (r1, r2, r3, r4) := H
            have A66 := Aside0.mk A660
            clear A660
            simp only [Option.some.injEq, Prod.mk.injEq] at H
            obtain ⟨rfl, rfl, rfl, rfl⟩ := H
            try go_wp2
            replace BK126 := Aside0.mk (blk_drew BK126.out)
            replace BK127 := Aside0.mk (blk_drew BK127.out)
            replace BK128 := Aside0.mk (blk_drew BK128.out)
            replace HB := Aside0.mk (below_drew1 HB.out)
            refine start_ (n := 8) (S := fun w' => w'.cell? ⟨gb126, 0, none⟩ = some (.int .i64 x127000_4) ∧ w'.cell? ⟨gb126, 1, none⟩ = some (.int .u64 x127001_4) ∧ w'.cell? ⟨gb126, 2, none⟩ = some (.int .i64 x127002_4) ∧ w'.cell? ⟨gb127, 0, none⟩ = some (.int .i64 x128000_4) ∧ w'.cell? ⟨gb127, 1, none⟩ = some (.int .u64 x128001_4) ∧ w'.cell? ⟨gb127, 2, none⟩ = some (.int .i64 x128002_4)) (ds := []) #[n_,n_,n_,n_,n_,n_,n_,n_] (by kernel_rfl) rfl rfl ⟨c0_ BK126, c1_ BK126, c2_ BK126, c0_ BK127, c1_ BK127, c2_ BK127⟩ (fun hHeld => ?_); refine with_tabW value_Alu.tab10 value_Alu.bits10 (fun HT_ HW_ => ?_)
            generalize wc.drew = w67 at BK126 BK127 BK128 HB hHeld ⊢
            refine pq_ 5 43 #[n_,n_,n_,n_,n_,y_,n_,n_] ?_
            refine tq1_ 0 38 #[y_,n_,n_,n_,n_,y_,n_,n_] hHeld ?_
            refine tq1_ 2 40 #[y_,n_,y_,n_,n_,y_,n_,n_] hHeld ?_
            refine one_ (i := 1) (N := some 39) #[y_,y_,y_,n_,n_,y_,n_,n_] rfl rfl (one_of HT_.out (by kernel_rfl)) (by decide) (fun K hK => ?_)
            refine goes_ Try.func27 (by kernel_rfl) rfl #[.agg #[.int .i64 x127000_4, .int .u64 x127001_4, .int .i64 x127002_4]] (by rfl) rfl rfl mp_ ?_
            with_reducible refine (value_side.calls x127000_4 x127001_4 x127002_4 t135 _ A41.out).mono ?_
            rintro e w68 ⟨rfl, hb⟩
            refine ⟨_, rfl, ?_⟩
            replace BK126 := bb_ hb BK126
            replace BK127 := bb_ hb BK127
            replace BK128 := bb_ hb BK128
            replace HB := bl_ hb
            try clear hb
            refine hK.out _ _ ⟨c0_ BK126, c1_ BK126, c2_ BK126, c0_ BK127, c1_ BK127, c2_ BK127⟩ (fun hHeld => ?_)
            clear hK K
            refine norm_ (a' := ?_) ?_ ?_
            rotate_left
            ·show Act.put _ (some 39) _ = _
             simp only [Act.put, s1_, s2_, s3_, i64_w, i32_w]
             rfl
            refine one_ (i := 3) (N := some 41) #[y_,y_,y_,y_,n_,y_,n_,n_] rfl rfl (one_of HT_.out (by kernel_rfl)) (by decide) (fun K hK => ?_)
            refine goes_ Try.func27 (by kernel_rfl) rfl #[.agg #[.int .i64 x128000_4, .int .u64 x128001_4, .int .i64 x128002_4]] (by rfl) rfl rfl mp_ ?_
            with_reducible refine (value_side.calls x128000_4 x128001_4 x128002_4 t136 _ A42.out).mono ?_
            rintro e w69 ⟨rfl, hb⟩
            refine ⟨_, rfl, ?_⟩
            replace BK126 := bb_ hb BK126
            replace BK127 := bb_ hb BK127
            replace BK128 := bb_ hb BK128
            replace HB := bl_ hb
            try clear hb
            refine hK.out _ _ ⟨c0_ BK126, c1_ BK126, c2_ BK126, c0_ BK127, c1_ BK127, c2_ BK127⟩ (fun hHeld => ?_)
            clear hK K
            refine norm_ (a' := ?_) ?_ ?_
            rotate_left
            ·show Act.put _ (some 41) _ = _
             simp only [Act.put, s1_, s2_, s3_, i64_w, i32_w]
             rfl
            refine pq_ 4 42 #[y_,y_,y_,y_,y_,y_,n_,n_] ?_
            refine pq_ 6 44 #[y_,y_,y_,y_,y_,y_,y_,n_] ?_
            refine pq_ 7 37 #[y_,y_,y_,y_,y_,y_,y_,y_] ?_
            refine done_ (done_of HT_.out (by kernel_rfl)) ?_
            have hnb70 := NB126_127.out
            have hnc70 := NB127_126.out
            have hnb71 := NB126_128.out
            have hnc71 := NB128_126.out
            obtain ⟨zc72_0, zc72_1, zc72_2, zf72_0, zf72_1, zf72_2⟩ := k3_ BK126
            have hnb73 := NB127_128.out
            have hnc73 := NB128_127.out
            obtain ⟨zc74_0, zc74_1, zc74_2, zf74_0, zf74_1, zf74_2⟩ := k3_ BK127
            try go_wp2_with (first | ((with_reducible refine gate_callee (f := 28) rfl ?_); refine gM_ 68 Try.func28 (value_pointers.calls kj26 a0 x127000_4 x127001_4 x127002_4 x128000_4 x128001_4 x128002_4 t142 t143 t144 t145 _ A66.out) ?_; intro w75 hb; replace BK126 := bb_ hb BK126; replace BK127 := bb_ hb BK127; replace BK128 := bb_ hb BK128; replace HB := bl_ hb; (try clear hb); (try clear hb2); (try clear hk); (try clear hi); obtain ⟨zc76_0, zc76_1, zc76_2, zf76_0, zf76_1, zf76_2⟩ := k3_ BK128))
            refine bodyPost_ret (results_ct rfl _ _ gb128 24 #[.int .i64 t142, .int .u64 t143, .int .i64 t144] (0, 0) _ rfl (by (with_reducible repeat (first | apply bN_ | apply bD_ | apply bA_)); refine blk_put (cs := #[.int .i64 t142, .int .u64 t143, .int .i64 0]) ?_ 2 _ rfl; (with_reducible repeat (first | apply bN_ | apply bD_ | apply bA_)); refine blk_put (cs := #[.int .i64 t142, .int .u64 0, .int .i64 0]) ?_ 1 _ rfl; (with_reducible repeat (first | apply bN_ | apply bD_ | apply bA_)); refine blk_put (cs := #[.int .i64 0, .int .u64 0, .int .i64 0]) ?_ 0 _ rfl; exact bk_) Try.underlying24 rfl (by kernel_rfl)) rfl ?_
            exact ⟨vv_, bz_⟩
          ·replace c56 := Bool.eq_false_iff.mpr c56
           subst c56
           have H1 : (some (0, 0, 0, 21)) = some (r1, r2, r3, r4) := by rw [if_neg (show ¬ (false = true) by decide)] at H; exact H
           clear H
           have H := H1
           clear H1
           simp only [Option.some.injEq, Prod.mk.injEq] at H
           obtain ⟨rfl, rfl, rfl, rfl⟩ := H
           try go_wp2
           replace BK126 := Aside0.mk (blk_drew BK126.out)
           replace BK127 := Aside0.mk (blk_drew BK127.out)
           replace BK128 := Aside0.mk (blk_drew BK128.out)
           replace HB := Aside0.mk (below_drew1 HB.out)
           refine start_ (n := 8) (S := fun w' => w'.cell? ⟨gb126, 0, none⟩ = some (.int .i64 x127000_4) ∧ w'.cell? ⟨gb126, 1, none⟩ = some (.int .u64 x127001_4) ∧ w'.cell? ⟨gb126, 2, none⟩ = some (.int .i64 x127002_4) ∧ w'.cell? ⟨gb127, 0, none⟩ = some (.int .i64 x128000_4) ∧ w'.cell? ⟨gb127, 1, none⟩ = some (.int .u64 x128001_4) ∧ w'.cell? ⟨gb127, 2, none⟩ = some (.int .i64 x128002_4)) (ds := []) #[n_,n_,n_,n_,n_,n_,n_,n_] (by kernel_rfl) rfl rfl ⟨c0_ BK126, c1_ BK126, c2_ BK126, c0_ BK127, c1_ BK127, c2_ BK127⟩ (fun hHeld => ?_); refine with_tabW value_Alu.tab10 value_Alu.bits10 (fun HT_ HW_ => ?_)
           generalize wc.drew = w77 at BK126 BK127 BK128 HB hHeld ⊢
           refine pq_ 5 43 #[n_,n_,n_,n_,n_,y_,n_,n_] ?_
           refine tq1_ 0 38 #[y_,n_,n_,n_,n_,y_,n_,n_] hHeld ?_
           refine tq1_ 2 40 #[y_,n_,y_,n_,n_,y_,n_,n_] hHeld ?_
           refine one_ (i := 1) (N := some 39) #[y_,y_,y_,n_,n_,y_,n_,n_] rfl rfl (one_of HT_.out (by kernel_rfl)) (by decide) (fun K hK => ?_)
           refine goes_ Try.func27 (by kernel_rfl) rfl #[.agg #[.int .i64 x127000_4, .int .u64 x127001_4, .int .i64 x127002_4]] (by rfl) rfl rfl mp_ ?_
           with_reducible refine (value_side.calls x127000_4 x127001_4 x127002_4 t135 _ A41.out).mono ?_
           rintro e w78 ⟨rfl, hb⟩
           refine ⟨_, rfl, ?_⟩
           replace BK126 := bb_ hb BK126
           replace BK127 := bb_ hb BK127
           replace BK128 := bb_ hb BK128
           replace HB := bl_ hb
           try clear hb
           refine hK.out _ _ ⟨c0_ BK126, c1_ BK126, c2_ BK126, c0_ BK127, c1_ BK127, c2_ BK127⟩ (fun hHeld => ?_)
           clear hK K
           refine norm_ (a' := ?_) ?_ ?_
           rotate_left
           ·show Act.put _ (some 39) _ = _
            simp only [Act.put, s1_, s2_, s3_, i64_w, i32_w]
            rfl
           refine one_ (i := 3) (N := some 41) #[y_,y_,y_,y_,n_,y_,n_,n_] rfl rfl (one_of HT_.out (by kernel_rfl)) (by decide) (fun K hK => ?_)
           refine goes_ Try.func27 (by kernel_rfl) rfl #[.agg #[.int .i64 x128000_4, .int .u64 x128001_4, .int .i64 x128002_4]] (by rfl) rfl rfl mp_ ?_
           with_reducible refine (value_side.calls x128000_4 x128001_4 x128002_4 t136 _ A42.out).mono ?_
           rintro e w79 ⟨rfl, hb⟩
           refine ⟨_, rfl, ?_⟩
           replace BK126 := bb_ hb BK126
           replace BK127 := bb_ hb BK127
           replace BK128 := bb_ hb BK128
           replace HB := bl_ hb
           try clear hb
           refine hK.out _ _ ⟨c0_ BK126, c1_ BK126, c2_ BK126, c0_ BK127, c1_ BK127, c2_ BK127⟩ (fun hHeld => ?_)
           clear hK K
           refine norm_ (a' := ?_) ?_ ?_
           rotate_left
           ·show Act.put _ (some 41) _ = _
            simp only [Act.put, s1_, s2_, s3_, i64_w, i32_w]
            rfl
           refine pq_ 4 42 #[y_,y_,y_,y_,y_,y_,n_,n_] ?_
           refine pq_ 6 44 #[y_,y_,y_,y_,y_,y_,y_,n_] ?_
           refine pq_ 7 37 #[y_,y_,y_,y_,y_,y_,y_,y_] ?_
           refine done_ (done_of HT_.out (by kernel_rfl)) ?_
           have hnb80 := NB128_126.out
           have hnc80 := NB126_128.out
           have hnb81 := NB128_127.out
           have hnc81 := NB127_128.out
           obtain ⟨zc82_0, zc82_1, zc82_2, zf82_0, zf82_1, zf82_2⟩ := k3_ BK128
           try go_wp2
           refine bodyPost_ret (results_ct rfl _ _ gb128 24 #[.int .i64 0, .int .u64 0, .int .i64 0] (0, 0) _ rfl (by (with_reducible repeat (first | apply bN_ | apply bD_ | apply bA_)); refine blk_put (cs := #[.int .i64 0, .int .u64 0, .int .i64 0]) ?_ 2 _ rfl; (with_reducible repeat (first | apply bN_ | apply bD_ | apply bA_)); refine blk_put (cs := #[.int .i64 0, .int .u64 0, .int .i64 0]) ?_ 1 _ rfl; (with_reducible repeat (first | apply bN_ | apply bD_ | apply bA_)); refine blk_put (cs := #[.int .i64 0, .int .u64 0, .int .i64 0]) ?_ 0 _ rfl; exact bk_) Try.underlying24 rfl (by kernel_rfl)) rfl ?_
           exact ⟨vv_, bz_⟩

end Go.Proofs.Ytnpbhippkcikoaa.PA
