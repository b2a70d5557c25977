/- Zdl, Zdn, Zdo, Zdp, Zdq, Zdr, Zdu, Zds, LScalarAlu, in one text. -/
import Derived.Test.YtceclodenhgoeaaGreatZdk
import Derived.Test.YtceclodenhgoeaaGreatXa
import Derived.Test.YtceclodenhgoeaaGreatZb
import Derived.Test.YtceclodenhgoeaaGreatEa
import Derived.Test.YtceclodenhgoeaaGreatPA90
import Derived.Test.YtceclodenhgoeaaGreatPA91
section
/- Layer 5, against the reference: Alu: one closed answer for both sides. -/
namespace Go.Proofs.YtceclodenhgoeaaGreat.Zdl
open Go Go.RowKit Go.Proofs Go.Proofs.YtceclodenhgoeaaGreat.Xc Go.Proofs.YtceclodenhgoeaaGreat.Zs Go.Proofs.YtceclodenhgoeaaGreat.Zk Go.Proofs.YtceclodenhgoeaaGreat.Zo Go.Proofs.YtceclodenhgoeaaGreat.Zq Go.Proofs.YtceclodenhgoeaaGreat.Zu Go.Proofs.YtceclodenhgoeaaGreat.Zv Go.Proofs.YtceclodenhgoeaaGreat.Zdi Go.Proofs.YtceclodenhgoeaaGreat.Zdj Go.Proofs.YtceclodenhgoeaaGreat.Zdk Go.Proofs.YtceclodenhgoeaaGreat.Bv
set_option linter.unusedVariables false
set_option linter.unusedSimpArgs false
def Pr (g : WG) (op : Int) (wide : Bool) (a b c d e f a' b' c' d' e' f' : Int) (r : SR) : Prop :=
  run Tryz.prog (TC g) EEk true 90 8 [.int .i64 op, .bool wide, Sc a b c d e f, Sc a' b' c' d' e' f'] (· = r.v) ∧ run Tryz.prog (TR g) EEk true 90 9 [.int .i64 op, .bool wide, Sc a b c d e f, Sc a' b' c' d' e' f'] (· = r.v)
instance : Nonempty SR := ⟨⟨0, 0, 0, 0, 0, 0⟩⟩
noncomputable def alV (g : WG) (op : Int) (wide : Bool) (a b c d e f a' b' c' d' e' f' : Int) : SR := Classical.epsilon (Pr g op wide a b c d e f a' b' c' d' e' f')
noncomputable def alQ (g : WG) (op : Int) (wide : Bool) (a b c d e f a' b' c' d' e' f' : Int) : SR :=
  bif wok op then alV g op wide a b c d e f a' b' c' d' e' f' else ⟨0, 18446744073709551615, 0, 18446744073709551615, -9223372036854775808, 9223372036854775807⟩
section
variable {g : WG} {op : Int} {wide : Bool} {a b c d e f a' b' c' d' e' f' : Int}
theorem al_ex (h : MZ a b c d e f) (h' : MZ a' b' c' d' e' f') (hj : wok op = true) : ∃ r, Pr g op wide a b c d e f a' b' c' d' e' f' r := by
  have hj : op = 0 ∨ op = 1 ∨ op = 2 ∨ op = 3 ∨ op = 4 ∨ op = 5 ∨ op = 6 ∨ op = 7 ∨ op = 8 ∨ op = 9 ∨ op = 10 ∨ op = 11 ∨ op = 12 := by
    have := of_decide_eq_true hj; omega
  cases wide <;> rcases hj with rfl | rfl | rfl | rfl | rfl | rfl | rfl | rfl | rfl | rfl | rfl | rfl | rfl
  · have o := al0f (g := g) h h'; unfold Zdj.nC0f Zdj.nR0f at o; exact o
  · have o := al1f (g := g) h h'; unfold Zdj.nC1f Zdj.nR1f at o; exact o
  · have o := al2f (g := g) h h'; unfold Zdj.nC2f Zdj.nR2f at o; exact o
  · have o := al3f (g := g) h h'; unfold Zdj.nC3f Zdj.nR3f at o; exact o
  · have o := al4f (g := g) h h'; unfold Zdj.nC4f Zdj.nR4f at o; exact o
  · have o := al5f (g := g) h h'; unfold Zdj.nC5f Zdj.nR5f at o; exact o
  · have o := al6f (g := g) h h'; unfold Zdj.nC6f Zdj.nR6f at o; exact o
  · have o := al7f (g := g) h h'; unfold Zdj.nC7f Zdj.nR7f at o; exact o
  · have o := al8f (g := g) h h'; unfold Zdj.nC8f Zdj.nR8f at o; exact o
  · have o := al9f (g := g) h h'; unfold Zdj.nC9f Zdj.nR9f at o; exact o
  · have o := al10f (g := g) h h'; unfold Zdj.nC10f Zdj.nR10f at o; exact o
  · have o := al11f (g := g) h h'; unfold Zdj.nC11f Zdj.nR11f at o; exact o
  · have o := al12f (g := g) h h'; unfold Zdj.nC12f Zdj.nR12f at o; exact o
  · have o := al0t (g := g) h h'; unfold Zdj.nC0t Zdj.nR0t at o; exact o
  · have o := al1t (g := g) h h'; unfold Zdj.nC1t Zdj.nR1t at o; exact o
  · have o := al2t (g := g) h h'; unfold Zdj.nC2t Zdj.nR2t at o; exact o
  · have o := al3t (g := g) h h'; unfold Zdj.nC3t Zdj.nR3t at o; exact o
  · have o := al4t (g := g) h h'; unfold Zdj.nC4t Zdj.nR4t at o; exact o
  · have o := al5t (g := g) h h'; unfold Zdj.nC5t Zdj.nR5t at o; exact o
  · have o := al6t (g := g) h h'; unfold Zdj.nC6t Zdj.nR6t at o; exact o
  · have o := al7t (g := g) h h'; unfold Zdj.nC7t Zdj.nR7t at o; exact o
  · have o := al8t (g := g) h h'; unfold Zdj.nC8t Zdj.nR8t at o; exact o
  · have o := al9t (g := g) h h'; unfold Zdj.nC9t Zdj.nR9t at o; exact o
  · have o := al10t (g := g) h h'; unfold Zdj.nC10t Zdj.nR10t at o; exact o
  · have o := al11t (g := g) h h'; unfold Zdj.nC11t Zdj.nR11t at o; exact o
  · have o := al12t (g := g) h h'; unfold Zdj.nC12t Zdj.nR12t at o; exact o
theorem al_pr (h : MZ a b c d e f) (h' : MZ a' b' c' d' e' f') (hj : wok op = true) : Pr g op wide a b c d e f a' b' c' d' e' f' (alQ g op wide a b c d e f a' b' c' d' e' f') := by
  unfold alQ alV; rw [hj]
  exact Classical.epsilon_spec (al_ex h h' hj)
theorem oCb {K : Value → Prop} (hj : wok op = false) (h : K (Sc 0 18446744073709551615 0 18446744073709551615 (-9223372036854775808) 9223372036854775807)) : nCb op wide a b c d e f a' b' c' d' e' f' K := by
  rw [nCb_eq]; exact ⟨⟨⟨u60, u60⟩, hj⟩, h⟩
theorem oRb {K : Value → Prop} (hj : wok op = false) (h : K (Sc 0 18446744073709551615 0 18446744073709551615 (-9223372036854775808) 9223372036854775807)) : nRb op wide a b c d e f a' b' c' d' e' f' K := by
  rw [nRb_eq]
  refine ⟨⟨⟨u60, u60⟩, hj⟩, ?_⟩
  exact h
end
noncomputable def cAl (g : WG) (vs : List Value) (K : Value → Prop) : Prop := match vs with
  | [.int .i64 op, .bool wide, .agg ⟨[.int .u64 a, .int .u64 b, .int .u64 c, .int .u64 d, .int .i64 e, .int .i64 f]⟩, .agg ⟨[.int .u64 a', .int .u64 b', .int .u64 c', .int .u64 d', .int .i64 e', .int .i64 f']⟩] => need (MZ a b c d e f ∧ MZ a' b' c' d' e' f') (nm (alQ g op wide a b c d e f a' b' c' d' e' f') fun r => K (Sc r.a r.b r.c r.d r.e r.f))
  | _ => False
theorem t8 {g : WG} {T : Tab} (hC : TabOk Tryz.prog (TC g)) (hB : TabOk Tryz.prog TCb) (k : TabOk Tryz.prog T) : TabOk Tryz.prog ((8, cAl g) :: T) := by
  refine tab_run good (by kernel_rfl) (fun vs K h => ?_) k
  unfold cAl at h; split at h
  · rename_i op wide a b c d e f a' b' c' d' e' f'
    obtain ⟨⟨h1, h2⟩, h⟩ := h
    refine ⟨_, h _ rfl, ?_⟩
    cases hj : wok op with
    | true => exact ⟨TC g, EEk, true, 90, hC, eek, (al_pr h1 h2 hj).1⟩
    | false =>
      have o := oCb (wide := wide) (a := a) (b := b) (c := c) (d := d) (e := e) (f := f) (a' := a') (b' := b') (c' := c') (d' := d') (e' := e') (f' := f') (K := (· = Sc 0 18446744073709551615 0 18446744073709551615 (-9223372036854775808) 9223372036854775807)) hj rfl
      unfold nCb at o
      unfold alQ; rw [hj]
      exact ⟨TCb, EEk, true, 90, hB, eek, o⟩
  · exact h.elim
theorem t9 {g : WG} {T : Tab} (hC : TabOk Tryz.prog (TR g)) (hB : TabOk Tryz.prog TRb) (k : TabOk Tryz.prog T) : TabOk Tryz.prog ((9, cAl g) :: T) := by
  refine tab_run good (by kernel_rfl) (fun vs K h => ?_) k
  unfold cAl at h; split at h
  · rename_i op wide a b c d e f a' b' c' d' e' f'
    obtain ⟨⟨h1, h2⟩, h⟩ := h
    refine ⟨_, h _ rfl, ?_⟩
    cases hj : wok op with
    | true => exact ⟨TR g, EEk, true, 90, hC, eek, (al_pr h1 h2 hj).2⟩
    | false =>
      have o := oRb (wide := wide) (a := a) (b := b) (c := c) (d := d) (e := e) (f := f) (a' := a') (b' := b') (c' := c') (d' := d') (e' := e') (f' := f') (K := (· = Sc 0 18446744073709551615 0 18446744073709551615 (-9223372036854775808) 9223372036854775807)) hj rfl
      unfold nRb at o
      unfold alQ; rw [hj]
      exact ⟨TRb, EEk, true, 90, hB, eek, o⟩
  · exact h.elim
end Go.Proofs.YtceclodenhgoeaaGreat.Zdl
end
section
/- Layer 5, against the reference: products of 128 bits; the code's product of known bits, run. -/
namespace Go.Proofs.YtceclodenhgoeaaGreat.Zdn
open Go Go.RowKit Go.Proofs Go.Proofs.YtceclodenhgoeaaGreat.Xc Go.Proofs.YtceclodenhgoeaaGreat.Zs Go.Proofs.YtceclodenhgoeaaGreat.Zk Go.Proofs.YtceclodenhgoeaaGreat.Zo Go.Proofs.YtceclodenhgoeaaGreat.Zq Go.Proofs.YtceclodenhgoeaaGreat.Zu Go.Proofs.YtceclodenhgoeaaGreat.Zbf Go.Proofs.YtceclodenhgoeaaGreat.Zcf Go.Proofs.YtceclodenhgoeaaGreat.Zda Go.Proofs.YtceclodenhgoeaaGreat.Zdb Go.Proofs.YtceclodenhgoeaaGreat.Zdh Go.Proofs.YtceclodenhgoeaaGreat.Zdi Go.Proofs.YtceclodenhgoeaaGreat.Zdj Go.Proofs.YtceclodenhgoeaaGreat.Zdz Go.Proofs.YtceclodenhgoeaaGreat.Bv
set_option maxRecDepth 100000
set_option linter.unusedVariables false
def cOf (vs : List Value) (K : Value → Prop) : Prop := match vs with
  | [.int .u64 v] => K (T2 v 0)
  | _ => False
noncomputable abbrev TAo : Tab := [(100, cT tAdd), (58, cOf)]
def nTOf (v : Int) (K : Value → Prop) : Prop := run Tryz.prog [] EEk true 90 58 [.int .u64 v] K
theorem nTOf_eq (v : Int) (K : Value → Prop) : nTOf v K = (K (.agg (#[.int .u64 v, .int .u64 0]))) := by kernel_rfl
noncomputable def bodyM : Code := match blk Tryz.prog 106 0 with
  | .loop c => c
  | _ => .skip
abbrev bx (a b : Int) : List AV := [.v (.int .u64 a), .v (.int .u64 b)]
def SM (x0 x1 : Value) (a am b bm r rm p pm s sm : Int) : St := ⟨[.v x0, .v x1, .p 0 0, .p 1 0, .p 2 0, .p 3 0, .p 4 0] ++ List.replicate 40 .any, [bx a am, bx b bm, bx r rm, bx p pm, bx s sm]⟩
def nMu64 (x y : Int) (K : Value → Prop) : Prop := run Tryz.prog [] EEk true 90 177 [.int .u64 x, .int .u64 y] K
theorem nMu64_eq (x y : Int) (K : Value → Prop) : nMu64 x y K = (ob true true (ob true true (ob true true (ob true true (ob true true (K (.tuple (#[.int .u64 (IntKind.wrap .u64 (IntKind.wrap .u64 (IntKind.wrap .u64 (x / 2 ^ min (Int.toNat 32) (IntKind.bits .u64) * (y / 2 ^ min (Int.toNat 32) (IntKind.bits .u64))) + IntKind.wrap .u64 (IntKind.wrap .u64 (x / 2 ^ min (Int.toNat 32) (IntKind.bits .u64) * Go.bits .and .u64 y 4294967295) + IntKind.wrap .u64 (Go.bits .and .u64 x 4294967295 * Go.bits .and .u64 y 4294967295) / 2 ^ min (Int.toNat 32) (IntKind.bits .u64)) / 2 ^ min (Int.toNat 32) (IntKind.bits .u64)) + IntKind.wrap .u64 (Go.bits .and .u64 (IntKind.wrap .u64 (IntKind.wrap .u64 (x / 2 ^ min (Int.toNat 32) (IntKind.bits .u64) * Go.bits .and .u64 y 4294967295) + IntKind.wrap .u64 (Go.bits .and .u64 x 4294967295 * Go.bits .and .u64 y 4294967295) / 2 ^ min (Int.toNat 32) (IntKind.bits .u64))) 4294967295 + IntKind.wrap .u64 (Go.bits .and .u64 x 4294967295 * (y / 2 ^ min (Int.toNat 32) (IntKind.bits .u64)))) / 2 ^ min (Int.toNat 32) (IntKind.bits .u64))), .int .u64 (IntKind.wrap .u64 (x * y))])))))))) := by kernel_rfl
def nRnd (x0 x1 : Value) (a am b bm r rm p pm s sm : Int) (K : Exit → St → Prop) : Prop := rnd Tryz.prog TAo EEk true 90 7 bodyM (SM x0 x1 a am b bm r rm p pm s sm) K
theorem nRnd_eq (x0 x1 : Value) (a am b bm r rm p pm s sm : Int) (K : Exit → St → Prop) : nRnd x0 x1 a am b bm r rm p pm s sm K = (br (!(fun x => a == 0 && x) (am == 0)) (br (Go.bits .and .u64 a 1 != 0) (need (Zbf.dj s sm ∧ Zbf.dj 0 bm) (nm (Zdz.tV Zdz.tAdd s sm 0 bm) fun r_1 => nm (Zdz.tM Zdz.tAdd s sm 0 bm) fun r_2 => im (Zbf.dj r_1 r_2) (ob true true (ob true true (ob true true (ob true true (ob true true (ob true true (K Go.Exit.normal (St.mk [AV.v x0, AV.v x1, AV.p 0 0, AV.p 1 0, AV.p 2 0, AV.p 3 0, AV.p 4 0, AV.any, AV.any, AV.any, AV.any, AV.any, AV.any, AV.any, AV.any, AV.any, AV.any, AV.any, AV.any, AV.any, AV.any, AV.any, AV.any, AV.any, AV.any, AV.any, AV.any, AV.any, AV.any, AV.any, AV.any, AV.any, AV.any, AV.any, AV.any, AV.any, AV.any, AV.any, AV.any, AV.any, AV.any, AV.any, AV.any, AV.any, AV.any, AV.any, AV.any] [[AV.v (.int .u64 (a / 2 ^ min (Int.toNat (Int.tmod (IntKind.wrap .u64 1) 64)) (IntKind.bits .u64))), AV.v (.int .u64 (am / 2 ^ min (Int.toNat (Int.tmod (IntKind.wrap .u64 1) 64)) (IntKind.bits .u64)))], [AV.v (.int .u64 (IntKind.wrap .u64 (b * 2 ^ min (Int.toNat (Int.tmod (IntKind.wrap .u64 1) 64)) (IntKind.bits .u64)))), AV.v (.int .u64 (IntKind.wrap .u64 (bm * 2 ^ min (Int.toNat (Int.tmod (IntKind.wrap .u64 1) 64)) (IntKind.bits .u64))))], [AV.v (.int .u64 r), AV.v (.int .u64 rm)], [AV.v (.int .u64 p), AV.v (.int .u64 pm)], [AV.v (.int .u64 r_1), AV.v (.int .u64 r_2)]])))))))))) (br (Go.bits .and .u64 am 1 != 0) (need (Zbf.dj s sm ∧ Zbf.dj 0 (Go.bits .or .u64 b bm)) (nm (Zdz.tV Zdz.tAdd s sm 0 (Go.bits .or .u64 b bm)) fun r_1 => nm (Zdz.tM Zdz.tAdd s sm 0 (Go.bits .or .u64 b bm)) fun r_2 => im (Zbf.dj r_1 r_2) (ob true true (ob true true (ob true true (ob true true (ob true true (ob true true (K Go.Exit.normal (St.mk [AV.v x0, AV.v x1, AV.p 0 0, AV.p 1 0, AV.p 2 0, AV.p 3 0, AV.p 4 0, AV.any, AV.any, AV.any, AV.any, AV.any, AV.any, AV.any, AV.any, AV.any, AV.any, AV.any, AV.any, AV.any, AV.any, AV.any, AV.any, AV.any, AV.any, AV.any, AV.any, AV.any, AV.any, AV.any, AV.any, AV.any, AV.any, AV.any, AV.any, AV.any, AV.any, AV.any, AV.any, AV.any, AV.any, AV.any, AV.any, AV.any, AV.any, AV.any, AV.any] [[AV.v (.int .u64 (a / 2 ^ min (Int.toNat (Int.tmod (IntKind.wrap .u64 1) 64)) (IntKind.bits .u64))), AV.v (.int .u64 (am / 2 ^ min (Int.toNat (Int.tmod (IntKind.wrap .u64 1) 64)) (IntKind.bits .u64)))], [AV.v (.int .u64 (IntKind.wrap .u64 (b * 2 ^ min (Int.toNat (Int.tmod (IntKind.wrap .u64 1) 64)) (IntKind.bits .u64)))), AV.v (.int .u64 (IntKind.wrap .u64 (bm * 2 ^ min (Int.toNat (Int.tmod (IntKind.wrap .u64 1) 64)) (IntKind.bits .u64))))], [AV.v (.int .u64 r), AV.v (.int .u64 rm)], [AV.v (.int .u64 p), AV.v (.int .u64 pm)], [AV.v (.int .u64 r_1), AV.v (.int .u64 r_2)]])))))))))) (ob true true (ob true true (ob true true (ob true true (ob true true (ob true true (K Go.Exit.normal (St.mk [AV.v x0, AV.v x1, AV.p 0 0, AV.p 1 0, AV.p 2 0, AV.p 3 0, AV.p 4 0, AV.any, AV.any, AV.any, AV.any, AV.any, AV.any, AV.any, AV.any, AV.any, AV.any, AV.any, AV.any, AV.any, AV.any, AV.any, AV.any, AV.any, AV.any, AV.any, AV.any, AV.any, AV.any, AV.any, AV.any, AV.any, AV.any, AV.any, AV.any, AV.any, AV.any, AV.any, AV.any, AV.any, AV.any, AV.any, AV.any, AV.any, AV.any, AV.any, AV.any] [[AV.v (.int .u64 (a / 2 ^ min (Int.toNat (Int.tmod (IntKind.wrap .u64 1) 64)) (IntKind.bits .u64))), AV.v (.int .u64 (am / 2 ^ min (Int.toNat (Int.tmod (IntKind.wrap .u64 1) 64)) (IntKind.bits .u64)))], [AV.v (.int .u64 (IntKind.wrap .u64 (b * 2 ^ min (Int.toNat (Int.tmod (IntKind.wrap .u64 1) 64)) (IntKind.bits .u64)))), AV.v (.int .u64 (IntKind.wrap .u64 (bm * 2 ^ min (Int.toNat (Int.tmod (IntKind.wrap .u64 1) 64)) (IntKind.bits .u64))))], [AV.v (.int .u64 r), AV.v (.int .u64 rm)], [AV.v (.int .u64 p), AV.v (.int .u64 pm)], [AV.v (.int .u64 s), AV.v (.int .u64 sm)]])))))))))) (K (Go.Exit.exit 0) (St.mk [AV.v x0, AV.v x1, AV.p 0 0, AV.p 1 0, AV.p 2 0, AV.p 3 0, AV.p 4 0, AV.any, AV.any, AV.any, AV.any, AV.any, AV.any, AV.any, AV.any, AV.any, AV.any, AV.any, AV.any, AV.any, AV.any, AV.any, AV.any, AV.any, AV.any, AV.any, AV.any, AV.any, AV.any, AV.any, AV.any, AV.any, AV.any, AV.any, AV.any, AV.any, AV.any, AV.any, AV.any, AV.any, AV.any, AV.any, AV.any, AV.any, AV.any, AV.any, AV.any] [[AV.v (.int .u64 a), AV.v (.int .u64 am)], [AV.v (.int .u64 b), AV.v (.int .u64 bm)], [AV.v (.int .u64 r), AV.v (.int .u64 rm)], [AV.v (.int .u64 p), AV.v (.int .u64 pm)], [AV.v (.int .u64 s), AV.v (.int .u64 sm)]]))) := by kernel_rfl
def mV (a am b bm s sm : Int) : Int := U (mulN 64 (oW a) (oW am) (oW b) (oW bm) (oW s, oW sm)).1
def mM (a am b bm s sm : Int) : Int := U (mulN 64 (oW a) (oW am) (oW b) (oW bm) (oW s, oW sm)).2
def okM (a am b bm s sm : Int) : Prop := (u6 a ∧ u6 am) ∧ (u6 b ∧ u6 bm) ∧ dj s sm
def FM (s : St) (K : Exit → St → Prop) : Prop := match s with
  | ⟨.v x0 :: .v x1 :: t, [[.v (.int .u64 a), .v (.int .u64 am)], [.v (.int .u64 b), .v (.int .u64 bm)], [.v (.int .u64 r), .v (.int .u64 rm)], [.v (.int .u64 p), .v (.int .u64 pm)], [.v (.int .u64 s), .v (.int .u64 sm)]]⟩ =>
    need (wk 7 ⟨.v x0 :: .v x1 :: t, [bx a am, bx b bm, bx r rm, bx p pm, bx s sm]⟩ = SM x0 x1 a am b bm r rm p pm s sm) (need (okM a am b bm s sm) (al fun b' => al fun bm' => im (u6 b' ∧ u6 bm') (nm (mV a am b bm s sm) fun s' => nm (mM a am b bm s sm) fun sm' => im (dj s' sm') (K (.exit 0) (SM x0 x1 0 0 b' bm' r rm p pm s' sm')))))
  | _ => False
noncomputable def LtM : Loops := [(0, blk Tryz.prog 106 0, FM)]
def nTMul (a b c d : Int) (K : Value → Prop) : Prop := runL Tryz.prog TAo EEk true LtM 90 106 [T2 a b, T2 c d] K
theorem nTMul_eq (a b c d : Int) (K : Value → Prop) : nTMul a b c d K = (same (blk Go.Proofs.Tryz.prog 106 0) (blk Go.Proofs.Tryz.prog 106 0) (need (St.mk [AV.v (.agg (#[.int .u64 a, .int .u64 b])), AV.v (.agg (#[.int .u64 c, .int .u64 d])), AV.p 0 0, AV.p 1 0, AV.p 2 0, AV.p 3 0, AV.p 4 0, AV.any, AV.any, AV.any, AV.any, AV.any, AV.any, AV.any, AV.any, AV.any, AV.any, AV.any, AV.any, AV.any, AV.any, AV.any, AV.any, AV.any, AV.any, AV.any, AV.any, AV.any, AV.any, AV.any, AV.any, AV.any, AV.any, AV.any, AV.any, AV.any, AV.any, AV.any, AV.any, AV.any, AV.any, AV.any, AV.any, AV.any, AV.any, AV.any, AV.any] [[AV.v (.int .u64 a), AV.v (.int .u64 b)], [AV.v (.int .u64 c), AV.v (.int .u64 d)], [AV.v (.int .u64 0), AV.v (.int .u64 0)], [AV.v (.int .u64 (IntKind.wrap .u64 (a * c))), AV.v (.int .u64 0)], [AV.v (.int .u64 0), AV.v (.int .u64 0)]] = St.mk [AV.v (.agg (#[.int .u64 a, .int .u64 b])), AV.v (.agg (#[.int .u64 c, .int .u64 d])), AV.p 0 0, AV.p 1 0, AV.p 2 0, AV.p 3 0, AV.p 4 0, AV.any, AV.any, AV.any, AV.any, AV.any, AV.any, AV.any, AV.any, AV.any, AV.any, AV.any, AV.any, AV.any, AV.any, AV.any, AV.any, AV.any, AV.any, AV.any, AV.any, AV.any, AV.any, AV.any, AV.any, AV.any, AV.any, AV.any, AV.any, AV.any, AV.any, AV.any, AV.any, AV.any, AV.any, AV.any, AV.any, AV.any, AV.any, AV.any, AV.any] [[AV.v (.int .u64 a), AV.v (.int .u64 b)], [AV.v (.int .u64 c), AV.v (.int .u64 d)], [AV.v (.int .u64 0), AV.v (.int .u64 0)], [AV.v (.int .u64 (IntKind.wrap .u64 (a * c))), AV.v (.int .u64 0)], [AV.v (.int .u64 0), AV.v (.int .u64 0)]]) (need (Zdn.okM a b c d 0 0) (al fun x => al fun x_1 => im (Zu.u6 x ∧ Zu.u6 x_1) (nm (Zdn.mV a b c d 0 0) fun r => nm (Zdn.mM a b c d 0 0) fun r_1 => im (Zbf.dj r r_1) (need (Zbf.dj (IntKind.wrap .u64 (a * c)) 0 ∧ Zbf.dj r r_1) (nm (Zdz.tV Zdz.tAdd (IntKind.wrap .u64 (a * c)) 0 r r_1) fun r_2 => nm (Zdz.tM Zdz.tAdd (IntKind.wrap .u64 (a * c)) 0 r r_1) fun r => im (Zbf.dj r_2 r) (K (.agg (#[.int .u64 r_2, .int .u64 r])))))))))) := by kernel_rfl
end Go.Proofs.YtceclodenhgoeaaGreat.Zdn
end
section
/- Layer 5, against the reference: the code's product of known bits; products of 128 bits; what lies below. -/
namespace Go.Proofs.YtceclodenhgoeaaGreat.Zdo
open Go Go.RowKit Go.Proofs Go.Proofs.YtceclodenhgoeaaGreat.Xc Go.Proofs.YtceclodenhgoeaaGreat.Zs Go.Proofs.YtceclodenhgoeaaGreat.Zk Go.Proofs.YtceclodenhgoeaaGreat.Zo Go.Proofs.YtceclodenhgoeaaGreat.Zq Go.Proofs.YtceclodenhgoeaaGreat.Zu Go.Proofs.YtceclodenhgoeaaGreat.Zv Go.Proofs.YtceclodenhgoeaaGreat.Zbb Go.Proofs.YtceclodenhgoeaaGreat.Zbc Go.Proofs.YtceclodenhgoeaaGreat.Zcf Go.Proofs.YtceclodenhgoeaaGreat.Zdb Go.Proofs.YtceclodenhgoeaaGreat.Zde Go.Proofs.YtceclodenhgoeaaGreat.Zdf Go.Proofs.YtceclodenhgoeaaGreat.Zdh Go.Proofs.YtceclodenhgoeaaGreat.Zdi Go.Proofs.YtceclodenhgoeaaGreat.Zdj Go.Proofs.YtceclodenhgoeaaGreat.Zdk Go.Proofs.YtceclodenhgoeaaGreat.Zdn Go.Proofs.YtceclodenhgoeaaGreat.Zdz Go.Proofs.YtceclodenhgoeaaGreat.Bv
open Go.Proofs.YtceclodenhgoeaaGreat.Zbf (dj)
open Go.Proofs.YtceclodenhgoeaaGreat.Zda (mulH)
set_option linter.unusedVariables false
set_option linter.unusedSimpArgs false
theorem mulN_zero (n : Nat) : ∀ (bv bm : W) (s : W × W), mulN n 0 0 bv bm s = s := by
  induction n with
  | zero => intros; rfl
  | succ n ih => intro bv bm s; rw [mulN]; exact ih _ _ _
theorem half_U (A : W) : U A / (2 : Int) = U (A >>> 1) := by
  unfold U; rw [BitVec.toNat_ushiftRight, Nat.shiftRight_eq_div_pow]; omega
theorem dbl_U (B : W) : IntKind.wrap .u64 (U B * (2 : Int)) = U (B <<< 1) := by
  rw [uW]; unfold U; rw [BitVec.toNat_shiftLeft, Nat.shiftLeft_eq]; omega
theorem two_pow : (2 : Int) ^ min (Int.toNat (Int.tmod (IntKind.wrap .u64 1) 64)) (IntKind.bits .u64) = 2 := by decide +kernel
theorem and_one (x : W) : (x &&& 1 = 0) ↔ x.getLsbD 0 = false := by
  constructor
  · intro h
    have := congrArg (fun z => z.getLsbD 0) h
    simpa using this
  · intro h
    apply BitVec.eq_of_getLsbD_eq
    intro i hi
    by_cases h0 : i = 0
    · subst h0; rw [BitVec.getLsbD_and, h]; rfl
    · simp [h0]
theorem U_z (x : W) : U x = 0 ↔ x = 0 := ⟨fun h => BitVec.eq_of_toNat_eq (by unfold U at h; simp; omega), fun h => by subst h; rfl⟩
theorem low1 (x : W) : (Go.bits .and .u64 (U x) 1 != 0) = x.getLsbD 0 := by
  have e : Go.bits .and .u64 (U x) 1 = U (x &&& 1) := by rw [b_and, ofInt_U]; rfl
  rw [e]
  cases h : x.getLsbD 0
  · rw [(U_z _).2 ((and_one x).2 h)]; rfl
  · rw [bne_iff_ne]; intro k
    rw [(and_one x).1 ((U_z _).1 k)] at h; cases h
theorem half_lt {x : W} {n : Nat} (h : x.toNat < 2 ^ (n + 1)) : (x >>> 1).toNat < 2 ^ n := by
  rw [BitVec.toNat_ushiftRight, Nat.shiftRight_eq_div_pow]; rw [Nat.pow_succ] at h; omega
theorem blkM : blk Tryz.prog 106 0 = .loop bodyM := by kernel_rfl
structure MI where
  x0 : Value
  x1 : Value
  a : W
  am : W
  b : W
  bm : W
  r : Int
  rm : Int
  p : Int
  pm : Int
  s : W × W
  k : Nat
def MI.st (i : MI) : St := SM i.x0 i.x1 (U i.a) (U i.am) (U i.b) (U i.bm) i.r i.rm i.p i.pm (U i.s.1) (U i.s.2)
def MI.ok (i : MI) : Prop := (i.a.toNat < 2 ^ i.k ∧ i.am.toNat < 2 ^ i.k) ∧ dj (U i.s.1) (U i.s.2)
def MI.K (i : MI) (e : Exit) (s' : St) : Prop := ∃ b' bm', (u6 b' ∧ u6 bm') ∧ e = .exit 0 ∧ s' = SM i.x0 i.x1 0 0 b' bm' i.r i.rm i.p i.pm (U (mulN i.k i.a i.am i.b i.bm i.s).1) (U (mulN i.k i.a i.am i.b i.bm i.s).2) ∧ dj (U (mulN i.k i.a i.am i.b i.bm i.s).1) (U (mulN i.k i.a i.am i.b i.bm i.s).2)
theorem step (i : MI) (hI : i.ok) (hz : ¬ (i.a = 0 ∧ i.am = 0)) (t : W × W) (ht : mulStep i.a i.am i.b i.bm i.s = t) (hd : dj (U t.1) (U t.2)) :
    ∃ j : MI, St.mk ([AV.v i.x0, AV.v i.x1, AV.p 0 0, AV.p 1 0, AV.p 2 0, AV.p 3 0, AV.p 4 0] ++ List.replicate 40 .any) [bx (U i.a / 2) (U i.am / 2), bx (IntKind.wrap .u64 (U i.b * 2)) (IntKind.wrap .u64 (U i.bm * 2)), bx i.r i.rm, bx i.p i.pm, bx (U t.1) (U t.2)] = j.st ∧ j.ok ∧ j.k < i.k ∧ ∀ e' s', j.K e' s' → i.K e' s' := by
  obtain ⟨⟨h1, h2⟩, h3⟩ := hI
  obtain ⟨x0, x1, a, am, b, bm, r, rm, p, pm, s, k⟩ := i
  dsimp only at *
  cases k with
  | zero =>
    exact absurd ⟨BitVec.eq_of_toNat_eq (by simp at h1 ⊢; omega), BitVec.eq_of_toNat_eq (by simp at h2 ⊢; omega)⟩ hz
  | succ k =>
    refine ⟨⟨x0, x1, a >>> 1, am >>> 1, b <<< 1, bm <<< 1, r, rm, p, pm, t, k⟩, ?_, ⟨⟨half_lt h1, half_lt h2⟩, hd⟩, Nat.lt_succ_self k, ?_⟩
    · rw [half_U, half_U, dbl_U, dbl_U]; rfl
    · rintro e' s' ⟨b', bm', hu, h4, h5, h6⟩
      refine ⟨b', bm', hu, h4, ?_, ?_⟩
      · show s' = SM x0 x1 0 0 b' bm' r rm p pm (U (mulN (k + 1) a am b bm s).1) (U (mulN (k + 1) a am b bm s).2)
        rw [mulN, ht]; exact h5
      · show dj (U (mulN (k + 1) a am b bm s).1) (U (mulN (k + 1) a am b bm s).2)
        rw [mulN, ht]; exact h6
theorem oWU (x : W) : oW (U x) = x := ofInt_U x
theorem oW0 : oW 0 = 0 := rfl
theorem dj_r {x : W} : dj (U x) 0 := ⟨x, 0, rfl, rfl, by simp⟩
theorem dj_l {b : W} : dj 0 (U b) := dj0m ⟨U_nonneg _, U_lt _⟩
theorem lokM (hT : TabOk Tryz.prog TAo) : LOk Tryz.prog LtM := by
  refine lok_one fun s K hF => ?_
  unfold FM at hF
  split at hF
  · rename_i x0 x1 t a am b bm r rm p pm s sm
    obtain ⟨hs, ⟨⟨ua, uam⟩, ⟨ub, ubm⟩, hd⟩, hK⟩ := hF
    obtain ⟨A, rfl⟩ := exu ua
    obtain ⟨AM, rfl⟩ := exu uam
    obtain ⟨B, rfl⟩ := exu ub
    obtain ⟨BM, rfl⟩ := exu ubm
    obtain ⟨X, Y, rfl, rfl, hxy⟩ := hd
    have key := loop_ix (P := Tryz.prog) (c := bodyM) MI.st MI.ok (fun i => i.k) MI.K ?_ ⟨x0, x1, A, AM, B, BM, r, rm, p, pm, (X, Y), 64⟩ ⟨⟨A.isLt, AM.isLt⟩, ⟨X, Y, rfl, rfl, hxy⟩⟩
    · obtain ⟨e, s', ⟨b', bm', hu, rfl, rfl, hM⟩, hl⟩ := key
      have hK := hK b' bm' hu _ rfl _ rfl
      unfold mV mM at hK
      simp only [oWU] at hK
      refine ⟨_, _, hK hM, ?_⟩
      rw [blkM]
      refine sw_pre (n := 7) ?_
      rw [hs]
      exact lw_of hl
    · clear hs hK x0 x1 t r rm p pm K
      intro i hI
      have hI' := hI
      obtain ⟨⟨a1, a2⟩, a3⟩ := hI'
      refine rnd_sound (n := 90) (k := 7) (gm := true) good hT eek (by kernel_rfl) ?_
      show rnd Tryz.prog TAo EEk true 90 7 bodyM (SM i.x0 i.x1 (U i.a) (U i.am) (U i.b) (U i.bm) i.r i.rm i.p i.pm (U i.s.1) (U i.s.2)) _
      have o : nRnd i.x0 i.x1 (U i.a) (U i.am) (U i.b) (U i.bm) i.r i.rm i.p i.pm (U i.s.1) (U i.s.2) (fun e s1 => (e ≠ .normal ∧ i.K e s1) ∨ (e = .normal ∧ ∃ j : MI, s1 = j.st ∧ j.ok ∧ j.k < i.k ∧ ∀ e' s', j.K e' s' → i.K e' s')) := by
        rw [nRnd_eq]
        rw [two_pow, low1, low1]
        refine br_cases (fun q => ?_) (fun q => Or.inl ⟨by simp, U i.b, U i.bm, ⟨⟨U_nonneg _, U_lt _⟩, ⟨U_nonneg _, U_lt _⟩⟩, rfl, ?_, ?_⟩)
        · have hz : ¬ (i.a = 0 ∧ i.am = 0) := by
            rintro ⟨e1, e2⟩
            rw [e1, e2] at q; revert q; decide
          refine br_cases (fun c1 => ?_) (fun c1 => br_cases (fun c2 => ?_) (fun c2 => ?_))
          · refine ⟨⟨a3, dj_l⟩, fun t1 ht1 t2 ht2 hd => ?_⟩
            (repeat (first | refine ob_self ?_ | refine ob_true ?_))
            unfold tV at ht1; unfold tM at ht2
            simp only [oWU, oW0] at ht1 ht2
            subst ht1; subst ht2
            exact Or.inr ⟨rfl, step i hI hz _ (by unfold mulStep; rw [c1]; rfl) hd⟩
          · have e : Go.bits .or .u64 (U i.b) (U i.bm) = U (i.b ||| i.bm) := by rw [b_or, ofInt_U, ofInt_U]
            rw [e]
            refine ⟨⟨a3, dj_l⟩, fun t1 ht1 t2 ht2 hd => ?_⟩
            (repeat (first | refine ob_self ?_ | refine ob_true ?_))
            unfold tV at ht1; unfold tM at ht2
            simp only [oWU, oW0] at ht1 ht2
            subst ht1; subst ht2
            exact Or.inr ⟨rfl, step i hI hz _ (by unfold mulStep; rw [c1, c2]; rfl) hd⟩
          · (repeat (first | refine ob_self ?_ | refine ob_true ?_))
            exact Or.inr ⟨rfl, step i hI hz i.s (by unfold mulStep; rw [c1, c2]; rfl) a3⟩
        · have h0 : i.a = 0 ∧ i.am = 0 := by
            have : U i.a = 0 ∧ U i.am = 0 := by
              by_cases e1 : U i.a = 0 <;> by_cases e2 : U i.am = 0 <;> simp_all
            exact ⟨(U_z _).1 this.1, (U_z _).1 this.2⟩
          rw [h0.1, h0.2, mulN_zero]; rfl
        · have h0 : i.a = 0 ∧ i.am = 0 := by
            have : U i.a = 0 ∧ U i.am = 0 := by
              by_cases e1 : U i.a = 0 <;> by_cases e2 : U i.am = 0 <;> simp_all
            exact ⟨(U_z _).1 this.1, (U_z _).1 this.2⟩
          rw [h0.1, h0.2, mulN_zero]; exact a3
      unfold nRnd at o
      exact o
  · exact hF.elim
theorem rTMul {a b c d : Int} {K : Value → Prop} (h1 : dj a b) (h2 : dj c d) (h : K (T2 (tV tMul a b c d) (tM tMul a b c d))) : nTMul a b c d K := by
  rw [nTMul_eq]
  obtain ⟨A, B, rfl, rfl, hab⟩ := h1
  obtain ⟨C, D, rfl, rfl, hcd⟩ := h2
  have u (x : W) : u6 (U x) := ⟨U_nonneg _, U_lt _⟩
  have e : IntKind.wrap .u64 (U A * U C) = U (A * C) := by rw [wrap_u64, oi_mul, ofInt_U, ofInt_U]
  rw [e]
  refine ⟨rfl, rfl, ⟨⟨u A, u B⟩, ⟨u C, u D⟩, dj0m u60⟩, fun _ _ _ x hx y hy hd => ⟨⟨dj_r, hd⟩, fun v hv m hm _ => ?_⟩⟩
  have e1 : v = tV tMul (U A) (U B) (U C) (U D) := by
    rw [hv]; unfold tV tMul; rw [hx, hy]; unfold mV mM; simp only [oWU, oW0]
  have e2 : m = tM tMul (U A) (U B) (U C) (U D) := by
    rw [hm]; unfold tM tMul; rw [hx, hy]; unfold mV mM; simp only [oWU, oW0]
  rw [e1, e2]; exact h
end Go.Proofs.YtceclodenhgoeaaGreat.Zdo
end
section
/- Layer 5, against the reference: products of 128 bits; what lies below; spans stay spans. -/
namespace Go.Proofs.YtceclodenhgoeaaGreat.Zdp
open Go Go.RowKit Go.Proofs Go.Proofs.YtceclodenhgoeaaGreat.Xc Go.Proofs.YtceclodenhgoeaaGreat.Zs Go.Proofs.YtceclodenhgoeaaGreat.Zk Go.Proofs.YtceclodenhgoeaaGreat.Zo Go.Proofs.YtceclodenhgoeaaGreat.Zq Go.Proofs.YtceclodenhgoeaaGreat.Zu Go.Proofs.YtceclodenhgoeaaGreat.Zv Go.Proofs.YtceclodenhgoeaaGreat.Zbb Go.Proofs.YtceclodenhgoeaaGreat.Zbc Go.Proofs.YtceclodenhgoeaaGreat.Zcf Go.Proofs.YtceclodenhgoeaaGreat.Zdb Go.Proofs.YtceclodenhgoeaaGreat.Zdc Go.Proofs.YtceclodenhgoeaaGreat.Zde Go.Proofs.YtceclodenhgoeaaGreat.Zdf Go.Proofs.YtceclodenhgoeaaGreat.Zdg Go.Proofs.YtceclodenhgoeaaGreat.Zdh Go.Proofs.YtceclodenhgoeaaGreat.Zdi Go.Proofs.YtceclodenhgoeaaGreat.Zdj Go.Proofs.YtceclodenhgoeaaGreat.Zdk Go.Proofs.YtceclodenhgoeaaGreat.Zdo Go.Proofs.YtceclodenhgoeaaGreat.Bv
open Go.Proofs.YtceclodenhgoeaaGreat.Zbf (dj)
open Go.Proofs.YtceclodenhgoeaaGreat.Zda (mulH TMu)
set_option linter.unusedVariables false
set_option linter.unusedSimpArgs false
theorem u6_U (x : W) : u6 (U x) := ⟨U_nonneg _, U_lt _⟩
theorem and_lo {x : Int} (h : u6 x) : Go.bits .and .u64 x 4294967295 = x % 4294967296 := and32 h
theorem m_le {a b : Int} (ha : 0 ≤ a ∧ a < 4294967296) (hb : 0 ≤ b ∧ b < 4294967296) : 0 ≤ a * b ∧ a * b ≤ 18446744065119617025 :=
  ⟨Int.mul_nonneg ha.1 hb.1, by
    have := Int.mul_le_mul (show a ≤ 4294967295 by omega) (show b ≤ 4294967295 by omega) hb.1 (by omega)
    omega⟩
theorem rMu64 {x y : Int} {K : Value → Prop} (hx : u6 x) (hy : u6 y) (h : K (.tuple #[.int .u64 (mulH x y), .int .u64 (IntKind.wrap .u64 (x * y))])) : Zdn.nMu64 x y K := by
  rw [Zdn.nMu64_eq]
  have e32 : (2 : Int) ^ min (Int.toNat 32) (IntKind.bits .u64) = 4294967296 := by decide +kernel
  rw [e32, and_lo hx, and_lo hy, and_lo (Zbj.u6_w _)]
  unfold mulH at h
  unfold u6 at hx hy
  have hxh : 0 ≤ x / 4294967296 ∧ x / 4294967296 < 4294967296 := by omega
  have hxl : 0 ≤ x % 4294967296 ∧ x % 4294967296 < 4294967296 := by omega
  have hyh : 0 ≤ y / 4294967296 ∧ y / 4294967296 < 4294967296 := by omega
  have hyl : 0 ≤ y % 4294967296 ∧ y % 4294967296 < 4294967296 := by omega
  have hp := m_le hxh hyh
  have hq := m_le hxh hyl
  have hr := m_le hxl hyh
  have hs := m_le hxl hyl
  have key : x * y = x / 4294967296 * (y / 4294967296) * 18446744073709551616 + (x / 4294967296 * (y % 4294967296) + x % 4294967296 * (y / 4294967296)) * 4294967296 + x % 4294967296 * (y % 4294967296) := by
    have e1 : x = x / 4294967296 * 4294967296 + x % 4294967296 := by omega
    have e2 : y = y / 4294967296 * 4294967296 + y % 4294967296 := by omega
    generalize x / 4294967296 = X at *
    generalize x % 4294967296 = X' at *
    generalize y / 4294967296 = Y at *
    generalize y % 4294967296 = Y' at *
    rw [e1, e2]; grind
  rw [key] at h ⊢
  generalize x / 4294967296 * (y / 4294967296) = p at *
  generalize x / 4294967296 * (y % 4294967296) = q at *
  generalize x % 4294967296 * (y / 4294967296) = r at *
  generalize x % 4294967296 * (y % 4294967296) = s at *
  (repeat (first | with_reducible refine ob_self ?_ | with_reducible refine ob_true ?_))
  have w1 : IntKind.wrap .u64 p = p := by rw [uW]; omega
  have w2 : IntKind.wrap .u64 q = q := by rw [uW]; omega
  have w3 : IntKind.wrap .u64 r = r := by rw [uW]; omega
  have w4 : IntKind.wrap .u64 s = s := by rw [uW]; omega
  rw [w1, w2, w3, w4]
  have w5 : IntKind.wrap .u64 (q + s / 4294967296) = q + s / 4294967296 := by rw [uW]; omega
  rw [w5]
  have w6 : IntKind.wrap .u64 (p + (q + s / 4294967296) / 4294967296) = p + (q + s / 4294967296) / 4294967296 := by rw [uW]; omega
  have w7 : IntKind.wrap .u64 ((q + s / 4294967296) % 4294967296 + r) = (q + s / 4294967296) % 4294967296 + r := by rw [uW]; omega
  rw [w6, w7]
  have w8 : IntKind.wrap .u64 (p + (q + s / 4294967296) / 4294967296 + ((q + s / 4294967296) % 4294967296 + r) / 4294967296) = (p * 18446744073709551616 + (q + r) * 4294967296 + s) / 18446744073709551616 := by
    rw [uW]; omega
  rw [w8]; exact h
theorem tmu : TabOk Tryz.prog TMu := by
  refine tab_runK good (by kernel_rfl) (fun vs K h => ?_) tab_nil
  split at h
  · obtain ⟨⟨h0, h1⟩, h⟩ := h
    have o := rMu64 (K := K) h0 h1 (h _ rfl _ rfl)
    unfold Zdn.nMu64 at o; exact ⟨[], EEk, true, 90, tab_nil, eek, o⟩
  · exact h.elim
theorem bel_fl {x m : Int} (hx : u6 x) (h : BelP x m) : m = fl x := by
  obtain ⟨k, hk, rfl, h1, h2⟩ := h
  unfold fl
  rw [kpf_eq (KP0 hx hk h1 (fun i hi => ?_))]
  rcases h2 with rfl | h2
  · omega
  · have : (2 : Int) ^ i ≤ 2 ^ (k - 1) := by
      have : 2 ^ i ≤ 2 ^ (k - 1) := Nat.pow_le_pow_right (by decide) (by omega)
      have : ((2 ^ i : Nat) : Int) ≤ ((2 ^ (k - 1) : Nat) : Int) := by omega
      simpa using this
    omega
theorem tbe : TabOk Tryz.prog TBe := by
  refine tab_runK good (by kernel_rfl) (fun vs K h => ?_) tab_nil
  split at h
  · rename_i x
    obtain ⟨h0, h⟩ := h
    have o := rbelow x K h0.1 h0.2 (fun m hm => by rw [bel_fl h0 hm]; exact h _ rfl)
    unfold nbelow at o; exact ⟨TB, EEz, true, 90, tbl, eez, o⟩
  · exact h.elim
theorem tfu : TabOk Tryz.prog TFu := by
  refine tab_runL good (by kernel_rfl) (fun vs K h => ?_) tab_nil
  unfold cFu at h; split at h
  · obtain ⟨h0, h⟩ := h
    have o := rFu (K := K) h0 (h _ rfl)
    unfold nFu at o; exact ⟨[], EEk, true, LtF, 90, tab_nil, eek, lokF, o⟩
  · exact h.elim
section
variable {a b c d n : Int}
theorem lh_ua (h : LH a b) (k : LH c d) : LH (uaL a b c d) (uaH a b c d) := by
  obtain ⟨h1, h2, h3⟩ := h; obtain ⟨k1, k2, k3⟩ := k; unfold u6 at *
  unfold uaL uaH; split <;> exact ⟨by unfold u6; omega, by unfold u6; omega, by omega⟩
theorem lh_us (h : LH a b) (k : LH c d) : LH (usL a b c d) (usH a b c d) := by
  obtain ⟨h1, h2, h3⟩ := h; obtain ⟨k1, k2, k3⟩ := k; unfold u6 at *
  unfold usL usH; split <;> exact ⟨by unfold u6; omega, by unfold u6; omega, by omega⟩
theorem lh_um (h : LH a b) (k : LH c d) : LH (umL a b c d) (umH a b c d) := by
  obtain ⟨h1, h2, h3⟩ := h; obtain ⟨k1, k2, k3⟩ := k; unfold u6 at *
  have m1 := Int.mul_nonneg h1.1 k1.1
  have m2 := Int.mul_le_mul h3 k3 k1.1 h2.1
  unfold umL umH; split <;> exact ⟨by unfold u6; omega, by unfold u6; omega, by omega⟩
theorem lh_ud (h : LH a b) (k : LH c d) : LH (udL a b c d) (udH a b c d) := by
  obtain ⟨h1, h2, h3⟩ := h; obtain ⟨k1, k2, k3⟩ := k; unfold u6 at *
  unfold udL udH; split
  · rename_i q
    have m1 := Int.ediv_nonneg h1.1 k1.1
    have m2 := Int.ediv_le_ediv (show 0 < c by omega) h3
    have m3 := Int.ediv_le_self c h1.1
    have m4 := Int.ediv_le_self c h2.1
    exact ⟨by unfold u6; omega, by unfold u6; omega, m2⟩
  · exact ⟨by unfold u6; omega, by unfold u6; omega, by omega⟩
theorem lh_uo (h : LH a b) (k : LH c d) : LH (uoL a b c d) (uoH a b c d) := by
  obtain ⟨h1, h2, h3⟩ := h; obtain ⟨k1, k2, k3⟩ := k; unfold u6 at *
  unfold uoL uoH; split
  · rename_i q
    have m1 := Int.emod_nonneg a (show c ≠ 0 by omega)
    have m2 := Int.emod_lt_of_pos a (show 0 < c by omega)
    split
    · exact ⟨h1, h2, h3⟩
    · split
      · exact ⟨by unfold u6; omega, by unfold u6; omega, by omega⟩
      · exact ⟨by unfold u6; omega, by unfold u6; omega, by omega⟩
  · exact ⟨by unfold u6; omega, by unfold u6; omega, by omega⟩
theorem u6_and (x y : Int) : u6 (Go.bits .and .u64 x y) := by rw [b_and]; exact u6_U _
theorem lh_un (h : LH a b) (k : LH c d) : LH (unL a b c d) (unH a b c d) := by
  obtain ⟨h1, h2, h3⟩ := h; obtain ⟨k1, k2, k3⟩ := k
  unfold unL unH; split
  · exact ⟨u6_and _ _, u6_and _ _, Int.le_refl _⟩
  · unfold u6 at *; exact ⟨by unfold u6; omega, by unfold u6; omega, by omega⟩
theorem lh_ul (h : LH a b) (k : shn 64 n) : LH (ulL a b n) (ulH a b n) := by
  obtain ⟨h1, h2, h3⟩ := h
  unfold ulL ulH
  cases q : ulo b n with
  | true =>
    have q := of_decide_eq_true q
    have hp := pw_pos (sh n)
    unfold u6 at *
    have n1 := Int.mul_nonneg h1.1 (Int.le_of_lt hp)
    have n2 := Int.mul_le_mul_of_nonneg_right h3 (Int.le_of_lt hp)
    exact ⟨⟨n1, by show a * 2 ^ sh n < _; omega⟩, ⟨by show 0 ≤ b * 2 ^ sh n; omega, q⟩, n2⟩
  | false => exact lhA
theorem lh_ur (h : LH a b) (k : shn 64 n) : LH (dn a n) (dn b n) := by
  obtain ⟨h1, h2, h3⟩ := h
  unfold u6 at *; unfold dn
  have hp := pw_pos (sh n)
  have m1 := Int.ediv_nonneg h1.1 (Int.le_of_lt hp)
  have m2 := Int.ediv_le_ediv hp h3
  have m4 := Int.ediv_le_self (2 ^ sh n) h2.1
  exact ⟨by unfold u6; omega, by unfold u6; omega, m2⟩
theorem i6_dn (h : i6 a) : i6 (dn a n) := by
  unfold i6 at *; unfold dn
  have hp := pw_pos (sh n)
  have m1 := Int.ediv_le_ediv hp h.1
  have g1 : (-9223372036854775808 : Int) ≤ a / 2 ^ sh n := by
    rw [Int.le_ediv_iff_mul_le hp]
    have := Int.mul_le_mul_of_nonneg_left (show (1 : Int) ≤ 2 ^ sh n by omega) (show (0 : Int) ≤ 9223372036854775808 by omega)
    omega
  have g2 : a / 2 ^ sh n < 9223372036854775808 := by
    rw [Int.ediv_lt_iff_lt_mul hp]
    have := Int.mul_le_mul_of_nonneg_left (show (1 : Int) ≤ 2 ^ sh n by omega) (show (0 : Int) ≤ 9223372036854775808 by omega)
    omega
  omega
theorem li_dn (h : LI a b) (k : shn 64 n) : LI (dn a n) (dn b n) :=
  ⟨i6_dn h.pl, i6_dn h.ph, Int.ediv_le_ediv (pw_pos _) h.le⟩
theorem li_sa (h : LI a b) (k : LI c d) : LI (saL a b c d) (saH a b c d) := by
  obtain ⟨h1, h2, h3⟩ := h; obtain ⟨k1, k2, k3⟩ := k; unfold i6 at *
  unfold saL saH sR; split <;> exact ⟨by unfold i6; omega, by unfold i6; omega, by omega⟩
theorem li_ss (h : LI a b) (k : LI c d) : LI (ssL a b c d) (ssH a b c d) := by
  obtain ⟨h1, h2, h3⟩ := h; obtain ⟨k1, k2, k3⟩ := k; unfold i6 at *
  unfold ssL ssH sR; split <;> exact ⟨by unfold i6; omega, by unfold i6; omega, by omega⟩
theorem fl_ge {v : Int} (h : u6 v) : v ≤ fl v ∧ u6 (fl v) := by
  obtain ⟨k, hk, _⟩ := loopF v h
  have h1 := (KP0i h hk).1
  have h2 := pw_le hk.le
  unfold u6 at *
  unfold fl; rw [kpf_eq hk]; omega
theorem or_ge (B D : W) : U B ≤ U (B ||| D) ∧ U D ≤ U (B ||| D) := by
  have e1 : B.toNat ≤ (B ||| D).toNat := by rw [BitVec.toNat_or]; exact Nat.left_le_or
  have e2 : D.toNat ≤ (B ||| D).toNat := by rw [BitVec.toNat_or]; exact Nat.right_le_or
  unfold U; omega
theorem lh_uo' (h : LH a b) (k : LH c d) : LH (uoL' a b c d) (uoH' a b c d) := by
  obtain ⟨h1, h2, h3⟩ := h; obtain ⟨k1, k2, k3⟩ := k
  unfold uoL' uoH'
  by_cases q : a = b ∧ c = d
  · rw [if_pos q, if_pos q]; exact ⟨u6_or _ _, u6_or _ _, Int.le_refl _⟩
  · rw [if_neg q, if_neg q]
    have f := fl_ge (u6_or b d)
    obtain ⟨B, rfl⟩ := exu h2
    obtain ⟨D, rfl⟩ := exu k2
    have g := or_ge B D
    rw [b_or, ofInt_U, ofInt_U] at f ⊢
    unfold u6 at *
    split <;> exact ⟨by unfold u6; omega, by unfold u6; omega, by omega⟩
end
end Go.Proofs.YtceclodenhgoeaaGreat.Zdp
end
section
/- Layer 5, against the reference: ScalarAlu: the tables' entries. -/
namespace Go.Proofs.YtceclodenhgoeaaGreat.Zdq
open Go Go.RowKit Go.Proofs Go.Proofs.YtceclodenhgoeaaGreat.Xc Go.Proofs.YtceclodenhgoeaaGreat.Zs Go.Proofs.YtceclodenhgoeaaGreat.Zk Go.Proofs.YtceclodenhgoeaaGreat.Zo Go.Proofs.YtceclodenhgoeaaGreat.Zq Go.Proofs.YtceclodenhgoeaaGreat.Zu Go.Proofs.YtceclodenhgoeaaGreat.Zv Go.Proofs.YtceclodenhgoeaaGreat.Zbi Go.Proofs.YtceclodenhgoeaaGreat.Zbj Go.Proofs.YtceclodenhgoeaaGreat.Zbk Go.Proofs.YtceclodenhgoeaaGreat.Zbm Go.Proofs.YtceclodenhgoeaaGreat.Zcf Go.Proofs.YtceclodenhgoeaaGreat.Zdb Go.Proofs.YtceclodenhgoeaaGreat.Zdc Go.Proofs.YtceclodenhgoeaaGreat.Zdd Go.Proofs.YtceclodenhgoeaaGreat.Zdf Go.Proofs.YtceclodenhgoeaaGreat.Zdg Go.Proofs.YtceclodenhgoeaaGreat.Zdh Go.Proofs.YtceclodenhgoeaaGreat.Zdi Go.Proofs.YtceclodenhgoeaaGreat.Zdj Go.Proofs.YtceclodenhgoeaaGreat.Zdk Go.Proofs.YtceclodenhgoeaaGreat.Zdn Go.Proofs.YtceclodenhgoeaaGreat.Zdo Go.Proofs.YtceclodenhgoeaaGreat.Zdp Go.Proofs.YtceclodenhgoeaaGreat.Zdz Go.Proofs.YtceclodenhgoeaaGreat.Bv
open Go.Proofs.YtceclodenhgoeaaGreat.Zbf (dj)
open Go.Proofs.YtceclodenhgoeaaGreat.Zda (TMu)
set_option linter.unusedVariables false
set_option linter.unusedSimpArgs false
abbrev Ent (f : FuncId) (F : List Value → (Value → Prop) → Prop) : Prop := ∀ T, TabOk Tryz.prog T → TabOk Tryz.prog ((f, F) :: T)
theorem u4 {a b c d : Int} (h : LH a b) (k : LH c d) : U4 a b c d := ⟨h.pl, h.ph, k.pl, k.ph, h.le, k.le⟩
theorem s4 {a b c d : Int} (h : LI a b) (k : LI c d) : S4 a b c d := ⟨h.pl, h.ph, k.pl, k.ph, h.le, k.le⟩
theorem dj_u {a b : Int} (h : dj a b) : u6 a ∧ u6 b := Zbh.dj_u h
theorem e101 : Ent 101 (cU uaL uaH) := fun T k => tab_runK good (by kernel_rfl) (fun vs K h => by
  unfold cU at h; split at h
  · obtain ⟨⟨h1, h2⟩, h⟩ := h
    have o := Zdb.rAddC (K := K) (u4 h1 h2) (h _ rfl _ rfl (lh_ua h1 h2)); unfold Zda.nAddC at o; exact ⟨[], EEk, true, 90, tab_nil, eek, o⟩
  · exact h.elim) k
theorem e132 : Ent 132 (cU uaL uaH) := fun T k => tab_runK good (by kernel_rfl) (fun vs K h => by
  unfold cU at h; split at h
  · obtain ⟨⟨h1, h2⟩, h⟩ := h
    have o := Zdb.rAddR (K := K) (u4 h1 h2) (h _ rfl _ rfl (lh_ua h1 h2)); unfold Zda.nAddR at o; exact ⟨[], EEk, true, 90, tab_nil, eek, o⟩
  · exact h.elim) k
theorem e104 : Ent 104 (cU usL usH) := fun T k => tab_runK good (by kernel_rfl) (fun vs K h => by
  unfold cU at h; split at h
  · obtain ⟨⟨h1, h2⟩, h⟩ := h
    have o := Zdb.rSubC (K := K) (u4 h1 h2) (h _ rfl _ rfl (lh_us h1 h2)); unfold Zda.nSubC at o; exact ⟨[], EEk, true, 90, tab_nil, eek, o⟩
  · exact h.elim) k
theorem e135 : Ent 135 (cU usL usH) := fun T k => tab_runK good (by kernel_rfl) (fun vs K h => by
  unfold cU at h; split at h
  · obtain ⟨⟨h1, h2⟩, h⟩ := h
    have o := Zdb.rSubR (K := K) (u4 h1 h2) (h _ rfl _ rfl (lh_us h1 h2)); unfold Zda.nSubR at o; exact ⟨[], EEk, true, 90, tab_nil, eek, o⟩
  · exact h.elim) k
theorem e107 : Ent 107 (cU umL umH) := fun T k => tab_runK good (by kernel_rfl) (fun vs K h => by
  unfold cU at h; split at h
  · obtain ⟨⟨h1, h2⟩, h⟩ := h
    have o := Zdb.rMulC (K := K) (u4 h1 h2) (h _ rfl _ rfl (lh_um h1 h2)); unfold Zda.nMulC at o; exact ⟨TMu, EEk, true, 90, tmu, eek, o⟩
  · exact h.elim) k
theorem e138 : Ent 138 (cU umL umH) := fun T k => tab_runK good (by kernel_rfl) (fun vs K h => by
  unfold cU at h; split at h
  · obtain ⟨⟨h1, h2⟩, h⟩ := h
    have o := Zdb.rMulR (K := K) (u4 h1 h2) (h _ rfl _ rfl (lh_um h1 h2)); unfold Zda.nMulR at o; exact ⟨[], EEk, true, 90, tab_nil, eek, o⟩
  · exact h.elim) k
theorem e108 : Ent 108 (cU udL udH) := fun T k => tab_runK good (by kernel_rfl) (fun vs K h => by
  unfold cU at h; split at h
  · obtain ⟨⟨h1, h2⟩, h⟩ := h
    have o := Zdb.rDivC (K := K) (u4 h1 h2) (h _ rfl _ rfl (lh_ud h1 h2)); unfold Zda.nDivC at o; exact ⟨[], EEk, true, 90, tab_nil, eek, o⟩
  · exact h.elim) k
theorem e139 : Ent 139 (cU udL udH) := fun T k => tab_runK good (by kernel_rfl) (fun vs K h => by
  unfold cU at h; split at h
  · obtain ⟨⟨h1, h2⟩, h⟩ := h
    have o := Zdb.rDivR (K := K) (u4 h1 h2) (h _ rfl _ rfl (lh_ud h1 h2)); unfold Zda.nDivR at o; exact ⟨[], EEk, true, 90, tab_nil, eek, o⟩
  · exact h.elim) k
theorem e109 : Ent 109 (cU uoL uoH) := fun T k => tab_runK good (by kernel_rfl) (fun vs K h => by
  unfold cU at h; split at h
  · obtain ⟨⟨h1, h2⟩, h⟩ := h
    have o := Zdb.rModC (K := K) (u4 h1 h2) (h _ rfl _ rfl (lh_uo h1 h2)); unfold Zda.nModC at o; exact ⟨[], EEk, true, 90, tab_nil, eek, o⟩
  · exact h.elim) k
theorem e140 : Ent 140 (cU uoL uoH) := fun T k => tab_runK good (by kernel_rfl) (fun vs K h => by
  unfold cU at h; split at h
  · obtain ⟨⟨h1, h2⟩, h⟩ := h
    have o := Zdb.rModR (K := K) (u4 h1 h2) (h _ rfl _ rfl (lh_uo h1 h2)); unfold Zda.nModR at o; exact ⟨[], EEk, true, 90, tab_nil, eek, o⟩
  · exact h.elim) k
theorem e113 : Ent 113 (cU unL unH) := fun T k => tab_runK good (by kernel_rfl) (fun vs K h => by
  unfold cU at h; split at h
  · obtain ⟨⟨h1, h2⟩, h⟩ := h
    have o := Zdb.rAndC (K := K) (h _ rfl _ rfl (lh_un h1 h2)); unfold Zda.nAndC at o; exact ⟨[], EEk, true, 90, tab_nil, eek, o⟩
  · exact h.elim) k
theorem e144 : Ent 144 (cU unL unH) := fun T k => tab_runK good (by kernel_rfl) (fun vs K h => by
  unfold cU at h; split at h
  · obtain ⟨⟨h1, h2⟩, h⟩ := h
    have o := Zdb.rAndR (K := K) (h _ rfl _ rfl (lh_un h1 h2)); unfold Zda.nAndR at o; exact ⟨[], EEk, true, 90, tab_nil, eek, o⟩
  · exact h.elim) k
theorem e111 : Ent 111 (cU uoL' uoH') := fun T k => tab_runK good (by kernel_rfl) (fun vs K h => by
  unfold cU at h; split at h
  · obtain ⟨⟨h1, h2⟩, h⟩ := h
    have o := rUOc (K := K) (h _ rfl _ rfl (lh_uo' h1 h2)); unfold Zdf.nUOc at o; exact ⟨TBe, EEk, true, 90, tbe, eek, o⟩
  · exact h.elim) k
theorem e142 : Ent 142 (cU uoL' uoH') := fun T k => tab_runK good (by kernel_rfl) (fun vs K h => by
  unfold cU at h; split at h
  · obtain ⟨⟨h1, h2⟩, h⟩ := h
    have o := rUOr (K := K) h1.ph h2.ph (h _ rfl _ rfl (lh_uo' h1 h2)); unfold Zdf.nUOr at o; exact ⟨TFu, EEk, true, 90, tfu, eek, o⟩
  · exact h.elim) k
theorem e102 : Ent 102 (cI saL saH) := fun T k => tab_runK good (by kernel_rfl) (fun vs K h => by
  unfold cI at h; split at h
  · obtain ⟨⟨h1, h2⟩, h⟩ := h
    have o := Zdc.rSAddC (K := K) (s4 h1 h2) (h _ rfl _ rfl (li_sa h1 h2)); unfold Zda.nSAddC at o; exact ⟨[], EEk, true, 90, tab_nil, eek, o⟩
  · exact h.elim) k
theorem e133 : Ent 133 (cI saL saH) := fun T k => tab_runK good (by kernel_rfl) (fun vs K h => by
  unfold cI at h; split at h
  · obtain ⟨⟨h1, h2⟩, h⟩ := h
    have o := Zdc.rSAddR (K := K) (s4 h1 h2) (h _ rfl _ rfl (li_sa h1 h2)); unfold Zda.nSAddR at o; exact ⟨[], EEk, true, 90, tab_nil, eek, o⟩
  · exact h.elim) k
theorem e105 : Ent 105 (cI ssL ssH) := fun T k => tab_runK good (by kernel_rfl) (fun vs K h => by
  unfold cI at h; split at h
  · obtain ⟨⟨h1, h2⟩, h⟩ := h
    have o := Zdc.rSSubC (K := K) (s4 h1 h2) (h _ rfl _ rfl (li_ss h1 h2)); unfold Zda.nSSubC at o; exact ⟨[], EEk, true, 90, tab_nil, eek, o⟩
  · exact h.elim) k
theorem e136 : Ent 136 (cI ssL ssH) := fun T k => tab_runK good (by kernel_rfl) (fun vs K h => by
  unfold cI at h; split at h
  · obtain ⟨⟨h1, h2⟩, h⟩ := h
    have o := Zdc.rSSubR (K := K) (s4 h1 h2) (h _ rfl _ rfl (li_ss h1 h2)); unfold Zda.nSSubR at o; exact ⟨[], EEk, true, 90, tab_nil, eek, o⟩
  · exact h.elim) k
theorem e95 : Ent 95 (cUs ulL ulH) := fun T k => tab_runK good (by kernel_rfl) (fun vs K h => by
  unfold cUs at h; split at h
  · obtain ⟨⟨h1, h2⟩, h⟩ := h
    have o := rULc (K := K) h1.pl h1.ph h1.le h2.1 (h _ rfl _ rfl (lh_ul h1 h2)); unfold Zdf.nULc at o; exact ⟨[], EEk, true, 90, tab_nil, eek, o⟩
  · exact h.elim) k
theorem e126 : Ent 126 (cUs ulL ulH) := fun T k => tab_runL good (by kernel_rfl) (fun vs K h => by
  unfold cUs at h; split at h
  · obtain ⟨⟨h1, h2⟩, h⟩ := h
    have o := rULr (K := K) h1.pl h1.ph h1.le h2.1 (h _ rfl _ rfl (lh_ul h1 h2)); unfold Zdf.nULr at o; exact ⟨[], EEk, true, Zdf.LtL, 90, tab_nil, eek, lokL, o⟩
  · exact h.elim) k
theorem e97 : Ent 97 (cUs urL urH) := fun T k => tab_runK good (by kernel_rfl) (fun vs K h => by
  unfold cUs at h; split at h
  · obtain ⟨⟨h1, h2⟩, h⟩ := h
    have o := rURc (K := K) h2.1 (h _ rfl _ rfl (lh_ur h1 h2)); unfold Zdf.nURc at o; exact ⟨[], EEk, true, 90, tab_nil, eek, o⟩
  · exact h.elim) k
theorem e128 : Ent 128 (cUs urL urH) := fun T k => tab_runL good (by kernel_rfl) (fun vs K h => by
  unfold cUs at h; split at h
  · obtain ⟨⟨h1, h2⟩, h⟩ := h
    have o := rURr (K := K) h1.pl h1.ph h2.1 (h _ rfl _ rfl (lh_ur h1 h2)); unfold Zdf.nURr at o; exact ⟨[], EEk, true, Zdf.LtR, 90, tab_nil, eek, lokR, o⟩
  · exact h.elim) k
theorem e99 : Ent 99 (cIs2) := fun T k => tab_runK good (by kernel_rfl) (fun vs K h => by
  unfold cIs2 at h; split at h
  · obtain ⟨⟨h1, h2⟩, h⟩ := h
    have o := rSRc (K := K) h2.1 (h _ rfl _ rfl (li_dn h1 h2)); unfold Zdf.nSRc at o; exact ⟨[], EEk, true, 90, tab_nil, eek, o⟩
  · exact h.elim) k
theorem e130 : Ent 130 (cIs2) := fun T k => tab_runL good (by kernel_rfl) (fun vs K h => by
  unfold cIs2 at h; split at h
  · obtain ⟨⟨h1, h2⟩, h⟩ := h
    have o := rSRr (K := K) h1.pl h1.ph h2.1 (h _ rfl _ rfl (li_dn h1 h2)); unfold Zdf.nSRr at o; exact ⟨[], EEk, true, Zdf.LtA, 90, tab_nil, eek, lokA, o⟩
  · exact h.elim) k
theorem e92 : Ent 92 (cTc) := fun T k => tab_runK good (by kernel_rfl) (fun vs K h => by
  unfold cTc at h; split at h
  · obtain ⟨h1, h⟩ := h
    have o := rTcC (K := K) (dj_u h1).1 (dj_u h1).2 (h _ rfl _ rfl (dj_lo h1)); unfold Zdh.nTcC at o; exact ⟨[], EEk, true, 90, tab_nil, eek, o⟩
  · exact h.elim) k
theorem e123 : Ent 123 (cTc) := fun T k => tab_runK good (by kernel_rfl) (fun vs K h => by
  unfold cTc at h; split at h
  · obtain ⟨h1, h⟩ := h
    have o := rTcR (K := K) (dj_u h1).1 (dj_u h1).2 (h _ rfl _ rfl (dj_lo h1)); unfold Zdh.nTcR at o; exact ⟨[], EEk, true, 90, tab_nil, eek, o⟩
  · exact h.elim) k
theorem e93 : Ent 93 (cUc) := fun T k => tab_runK good (by kernel_rfl) (fun vs K h => by
  unfold cUc at h; split at h
  · obtain ⟨h1, h⟩ := h
    have o := Zdb.rCutC (K := K) h1.pl h1.ph (h _ rfl _ rfl (lh_uc h1)); unfold Zda.nCutC at o; exact ⟨[], EEk, true, 90, tab_nil, eek, o⟩
  · exact h.elim) k
theorem e124 : Ent 124 (cUc) := fun T k => tab_runK good (by kernel_rfl) (fun vs K h => by
  unfold cUc at h; split at h
  · obtain ⟨h1, h⟩ := h
    have o := Zdb.rCutR (K := K) h1.pl h1.ph (h _ rfl _ rfl (lh_uc h1)); unfold Zda.nCutR at o; exact ⟨[], EEk, true, 90, tab_nil, eek, o⟩
  · exact h.elim) k
theorem e15 : Ent 15 cNo := fun T k => tab_runK good (by kernel_rfl) (fun vs K h => by
  unfold cNo at h; split at h
  · obtain ⟨q, h⟩ := h
    have o := oN1 (K := K) q.dj q.uc q.ud q.ef (h _ rfl); unfold nN1 at o; exact ⟨TN, EEz, true, 90, tn, eez, o⟩
  · exact h.elim) k
theorem e16 : Ent 16 cNo := fun T k => tab_runK good (by kernel_rfl) (fun vs K h => by
  unfold cNo at h; split at h
  · obtain ⟨q, h⟩ := h
    have o := oN2 (K := K) q.dj q.uc q.ud q.ef (h _ rfl); unfold nN2 at o; exact ⟨TN, EEz, true, 90, tn, eez, o⟩
  · exact h.elim) k
theorem tse : TabOk Tryz.prog TSe := e92 _ (e93 _ (e123 _ (e124 _ (e15 _ (e16 _ tab_nil)))))
theorem e32 : Ent 32 cSe := fun T k => tab_runK good (by kernel_rfl) (fun vs K h => by
  unfold cSe at h; split at h
  · obtain ⟨q, h⟩ := h
    have o := rSeCw (K := K) q.m (h _ rfl (slW_M q)); unfold nSeCw at o; exact ⟨TSe, EEk, true, 90, tse, eek, o⟩
  · obtain ⟨q, h⟩ := h
    have o := rSeCn (K := K) q.m (h _ rfl (slN_M q.m)); unfold nSeCn at o; exact ⟨TSe, EEk, true, 90, tse, eek, o⟩
  · exact h.elim) k
theorem e37 : Ent 37 cSe := fun T k => tab_runK good (by kernel_rfl) (fun vs K h => by
  unfold cSe at h; split at h
  · obtain ⟨q, h⟩ := h
    have o := rSeRw (K := K) q.m (h _ rfl (slW_M q)); unfold nSeRw at o; exact ⟨TSe, EEk, true, 90, tse, eek, o⟩
  · obtain ⟨q, h⟩ := h
    have o := rSeRn (K := K) q.m (h _ rfl (slN_M q.m)); unfold nSeRn at o; exact ⟨TSe, EEk, true, 90, tse, eek, o⟩
  · exact h.elim) k
theorem e36 : Ent 36 cHa := fun T k => tab_runK good (by kernel_rfl) (fun vs K h => by
  unfold cHa at h; split at h
  · obtain ⟨q, h⟩ := h
    have o := rHa (K := K) q.m (h _ rfl (slN_M q.m)); unfold nHa at o; exact ⟨TSe, EEk, true, 90, tse, eek, o⟩
  · exact h.elim) k
theorem e13 : Ent 13 cJs := fun T k => tab_runK good (by kernel_rfl) (fun vs K h => by
  unfold cJs at h; split at h
  · rename_i a b c d e f
    obtain ⟨q, h⟩ := h
    have o : nIs1 a b c d e f K := by rw [nIs1_eq]; exact is_as (h _ rfl _ rfl (mz_isv q))
    unfold nIs1 at o; exact ⟨[], EEz, true, 90, tab_nil, eez, o⟩
  · exact h.elim) k
theorem e14 : Ent 14 cJs := fun T k => tab_runK good (by kernel_rfl) (fun vs K h => by
  unfold cJs at h; split at h
  · rename_i a b c d e f
    obtain ⟨q, h⟩ := h
    have o : nIs2 a b c d e f K := by rw [nIs2_eq]; exact is_as (h _ rfl _ rfl (mz_isv q))
    unfold nIs2 at o; exact ⟨[], EEz, true, 90, tab_nil, eez, o⟩
  · exact h.elim) k
theorem e58 : Ent 58 Zdn.cOf := fun T k => tab_runK good (by kernel_rfl) (fun vs K h => by
  unfold Zdn.cOf at h; split at h
  · rename_i v
    have o : Zdn.nTOf v K := (Zdn.nTOf_eq v K).mpr h
    unfold Zdn.nTOf at o; exact ⟨[], EEk, true, 90, tab_nil, eek, o⟩
  · exact h.elim) k
theorem e106 (e100 : Ent 100 (cT tAdd)) : Ent 106 (cT tMul) := fun T k => tab_runL good (by kernel_rfl) (fun vs K h => by
  unfold cT at h; split at h
  · obtain ⟨⟨h1, h2⟩, h⟩ := h
    have o := rTMul (K := K) h1 h2 (h _ rfl _ rfl (dj_mul _ _ _ _)); unfold Zdn.nTMul at o
    have t : TabOk Tryz.prog Zdn.TAo := e100 _ (e58 _ tab_nil)
    exact ⟨Zdn.TAo, EEk, true, Zdn.LtM, 90, t, eek, Zdo.lokM t, o⟩
  · exact h.elim) k
end Go.Proofs.YtceclodenhgoeaaGreat.Zdq
end
section
/- Layer 5, against the reference: ScalarAlu, run. -/
namespace Go.Proofs.YtceclodenhgoeaaGreat.Zdr
open Go Go.RowKit Go.Proofs Go.Proofs.YtceclodenhgoeaaGreat.Xc Go.Proofs.YtceclodenhgoeaaGreat.Zs Go.Proofs.YtceclodenhgoeaaGreat.Zu Go.Proofs.YtceclodenhgoeaaGreat.Zo Go.Proofs.YtceclodenhgoeaaGreat.Zbm Go.Proofs.YtceclodenhgoeaaGreat.Zcf Go.Proofs.YtceclodenhgoeaaGreat.Zdi Go.Proofs.YtceclodenhgoeaaGreat.Zdj Go.Proofs.YtceclodenhgoeaaGreat.Zdl
set_option maxRecDepth 100000
set_option linter.unusedVariables false
def cMz (vs : List Value) (K : Value → Prop) : Prop := match vs with
  | [.agg ⟨[.int .u64 a, .int .u64 b, .int .u64 c, .int .u64 d, .int .i64 e, .int .i64 f]⟩] => need (((u6 a ∧ u6 b) ∧ (u6 c ∧ u6 d)) ∧ (i6 e ∧ i6 f)) (al fun a' => al fun c' => al fun d' => al fun e' => al fun f' => im (MZ a' b c' d' e' f') (K (Sc a' b c' d' e' f')))
  | _ => False
noncomputable abbrev TL (g : WG) : Tab := [(10, cTrue), (7, cMz), (8, cAl g), (9, cAl g)]
def nLaw (g : WG) (op : Int) (wide : Bool) (a b c d e f a' b' c' d' e' f' : Int) (K : Value → Prop) : Prop := run Tryz.prog (TL g) EEz true 90 3 [.int .i64 op, .bool wide, Sc a b c d e f, Sc a' b' c' d' e' f'] K
theorem nLaw_eq (g : WG) (op : Int) (wide : Bool) (a b c d e f a' b' c' d' e' f' : Int) (K : Value → Prop) : nLaw g op wide a b c d e f a' b' c' d' e' f' K = (need (((Zu.u6 a ∧ Zu.u6 b) ∧ Zu.u6 c ∧ Zu.u6 d) ∧ Zcf.i6 e ∧ Zcf.i6 f) (al fun x => al fun x_1 => al fun x_2 => al fun x_3 => al fun x_4 => im (Zdi.MZ x b x_1 x_2 x_3 x_4) (need (((Zu.u6 a' ∧ Zu.u6 b') ∧ Zu.u6 c' ∧ Zu.u6 d') ∧ Zcf.i6 e' ∧ Zcf.i6 f') (al fun x_5 => al fun x_6 => al fun x_7 => al fun x_8 => al fun x_9 => im (Zdi.MZ x_5 b' x_6 x_7 x_8 x_9) (need (Zdi.MZ x b x_1 x_2 x_3 x_4 ∧ Zdi.MZ x_5 b' x_6 x_7 x_8 x_9) (nm (Zdl.alQ g op wide x b x_1 x_2 x_3 x_4 x_5 b' x_6 x_7 x_8 x_9) fun r => need (Zdi.MZ x b x_1 x_2 x_3 x_4 ∧ Zdi.MZ x_5 b' x_6 x_7 x_8 x_9) (nm (Zdl.alQ g op wide x b x_1 x_2 x_3 x_4 x_5 b' x_6 x_7 x_8 x_9) fun r_1 => ob ((fun x => (fun x => Zdi.SR.a r == Zdi.SR.a r_1 && x) (Zdi.SR.b r == Zdi.SR.b r_1) && x) ((fun x => (fun x => Zdi.SR.c r == Zdi.SR.c r_1 && x) (Zdi.SR.d r == Zdi.SR.d r_1) && x) ((fun x => Zdi.SR.e r == Zdi.SR.e r_1 && x) (Zdi.SR.f r == Zdi.SR.f r_1)))) ((fun x => (fun x => Zdi.SR.a r == Zdi.SR.a r_1 && x) (Zdi.SR.b r == Zdi.SR.b r_1) && x) ((fun x => (fun x => Zdi.SR.c r == Zdi.SR.c r_1 && x) (Zdi.SR.d r == Zdi.SR.d r_1) && x) ((fun x => Zdi.SR.e r == Zdi.SR.e r_1 && x) (Zdi.SR.f r == Zdi.SR.f r_1)))) (ob (!(fun x => (fun x => Zdi.SR.a r == Zdi.SR.a r_1 && x) (Zdi.SR.b r == Zdi.SR.b r_1) && x) ((fun x => (fun x => Zdi.SR.c r == Zdi.SR.c r_1 && x) (Zdi.SR.d r == Zdi.SR.d r_1) && x) ((fun x => Zdi.SR.e r == Zdi.SR.e r_1 && x) (Zdi.SR.f r == Zdi.SR.f r_1)))) true (nm (bif (fun x => (fun x => Zdi.SR.a r == Zdi.SR.a r_1 && x) (Zdi.SR.b r == Zdi.SR.b r_1) && x) ((fun x => (fun x => Zdi.SR.c r == Zdi.SR.c r_1 && x) (Zdi.SR.d r == Zdi.SR.d r_1) && x) ((fun x => Zdi.SR.e r == Zdi.SR.e r_1 && x) (Zdi.SR.f r == Zdi.SR.f r_1))) then true else false) fun r => K (.bool r)))))))))) := by kernel_rfl
end Go.Proofs.YtceclodenhgoeaaGreat.Zdr
end
section
/- Layer 5, against the reference: ScalarAlu: the law's own run. -/
namespace Go.Proofs.YtceclodenhgoeaaGreat.Zdu
open Go Go.RowKit Go.Proofs Go.Proofs.YtceclodenhgoeaaGreat.Xc Go.Proofs.YtceclodenhgoeaaGreat.Zs Go.Proofs.YtceclodenhgoeaaGreat.Zk Go.Proofs.YtceclodenhgoeaaGreat.Zo Go.Proofs.YtceclodenhgoeaaGreat.Zq Go.Proofs.YtceclodenhgoeaaGreat.Zu Go.Proofs.YtceclodenhgoeaaGreat.Zv Go.Proofs.YtceclodenhgoeaaGreat.Zbh Go.Proofs.YtceclodenhgoeaaGreat.Zbi Go.Proofs.YtceclodenhgoeaaGreat.Zbm Go.Proofs.YtceclodenhgoeaaGreat.Zbn Go.Proofs.YtceclodenhgoeaaGreat.Zcf Go.Proofs.YtceclodenhgoeaaGreat.Zdi Go.Proofs.YtceclodenhgoeaaGreat.Zdj Go.Proofs.YtceclodenhgoeaaGreat.Zdl Go.Proofs.YtceclodenhgoeaaGreat.Zdq Go.Proofs.YtceclodenhgoeaaGreat.Zdr Go.Proofs.YtceclodenhgoeaaGreat.Bv
set_option linter.unusedVariables false
set_option linter.unusedSimpArgs false
theorem e10 : Ent 10 cTrue := fun T k => tab_run good (by kernel_rfl) (fun vs K h => by
  unfold cTrue at h; split at h
  · have o := oknown; unfold nknown at o; exact ⟨_, h, [], EEk, false, 90, tab_nil, eek, o⟩
  · exact h.elim) k
theorem e7 : Ent 7 cMz := fun T k => tab_runK good (by kernel_rfl) (fun vs K h => by
  unfold cMz at h; split at h
  · rename_i a b c d e f
    obtain ⟨⟨⟨⟨ha, hb⟩, hc, hd⟩, he, hf⟩, h⟩ := h
    have o : nMay a b c d e f K := by
      rw [nMay_eq]
      refine h _ _ _ _ _ ⟨⟨?_, ?_, ?_, ?_, ?_⟩, ?_, ?_⟩
      · obtain ⟨A, rfl⟩ := exu ha
        obtain ⟨B, rfl⟩ := exu hb
        refine ⟨A &&& ~~~ B, B, ?_, rfl, dj_cl _ _⟩
        rw [b_andNot, ofInt_U, ofInt_U]
      · split <;> assumption
      · split <;> assumption
      · split <;> split <;> omega
      · split <;> split <;> omega
      · split <;> assumption
      · split <;> assumption
    unfold nMay at o; exact ⟨[], EEz, true, 90, tab_nil, eez, o⟩
  · exact h.elim) k
theorem oLaw {g : WG} {op : Int} {wide : Bool} {a b c d e f a' b' c' d' e' f' : Int} (h1 : u6 a ∧ u6 b) (h2 : u6 c ∧ u6 d) (h3 : i6 e ∧ i6 f) (g1 : u6 a' ∧ u6 b') (g2 : u6 c' ∧ u6 d') (g3 : i6 e' ∧ i6 f') : Zdr.nLaw g op wide a b c d e f a' b' c' d' e' f' (· = .bool true) := by
  rw [Zdr.nLaw_eq]
  refine ⟨⟨⟨h1, h2⟩, h3⟩, fun x x1 x2 x3 x4 q1 => ⟨⟨⟨g1, g2⟩, g3⟩, fun y y1 y2 y3 y4 q2 => ⟨⟨q1, q2⟩, fun r hr => ⟨⟨q1, q2⟩, fun r' hr' => ?_⟩⟩⟩⟩
  obtain rfl : r = r' := hr.trans hr'.symm
  repeat (first | with_reducible refine ob_self ?_ | with_reducible refine ob_true ?_ | ((with_reducible refine nm_intro ?_); intro r hr; subst hr))
  simp
end Go.Proofs.YtceclodenhgoeaaGreat.Zdu
end
section
/- Layer 5, against the reference: ScalarAlu: the printed functions' entries. -/
namespace Go.Proofs.YtceclodenhgoeaaGreat.Zds
open Go Go.RowKit Go.Proofs Go.Proofs.YtceclodenhgoeaaGreat.Xc Go.Proofs.YtceclodenhgoeaaGreat.Zo Go.Proofs.YtceclodenhgoeaaGreat.Zu Go.Proofs.YtceclodenhgoeaaGreat.Zv Go.Proofs.YtceclodenhgoeaaGreat.Zcf Go.Proofs.YtceclodenhgoeaaGreat.Zdi Go.Proofs.YtceclodenhgoeaaGreat.Zdj Go.Proofs.YtceclodenhgoeaaGreat.Zdl Go.Proofs.YtceclodenhgoeaaGreat.Zdo Go.Proofs.YtceclodenhgoeaaGreat.Zdp Go.Proofs.YtceclodenhgoeaaGreat.Zdq Go.Proofs.YtceclodenhgoeaaGreat.Zdz Go.Proofs.YtceclodenhgoeaaGreat.Bv Go.Proofs.YtceclodenhgoeaaGreat.Tn
open Go.Proofs.YtceclodenhgoeaaGreatW.PrintWords Go.Proofs.YtceclodenhgoeaaGreatW.PrintLast Go.Proofs.YtceclodenhgoeaaGreatW.PrintMore Go.Proofs.YtceclodenhgoeaaGreat.PA
open Go.Proofs.YtceclodenhgoeaaGreat.Zbf (dj)
set_option linter.unusedVariables false
set_option linter.unusedSimpArgs false
theorem exs {n m : Int} (h : shn m n) (hm : m ≤ 64) : ∃ N : W, n = S N ∧ N.toNat = n.toNat := by
  obtain ⟨h1, h2, h3⟩ := h
  refine ⟨BitVec.ofNat 64 n.toNat, ?_, ?_⟩
  · have t : (BitVec.ofNat 64 n.toNat).toNat = n.toNat := by rw [BitVec.toNat_ofNat]; omega
    unfold S
    rw [BitVec.toInt_eq_toNat_of_lt (by rw [t]; omega), t]; omega
  · rw [BitVec.toNat_ofNat]; omega
theorem mulS_N (n : Nat) : ∀ (av am bv bm : W) (s : W × W), C03.mulS n av am bv bm s = mulN n av am bv bm s := by
  induction n with
  | zero => intros; rfl
  | succ n ih => intro av am bv bm s; rw [C03.mulS, mulN, ih]; rfl
theorem mulV_N (a b c d : W) : C03.tMulV a b c d = (tMul a b c d).1 := by
  unfold C03.tMulV C03.tMulS tMul; rw [mulS_N]; rfl
theorem mulM_N (a b c d : W) : C03.tMulM a b c d = (tMul a b c d).2 := by
  unfold C03.tMulM C03.tMulS tMul; rw [mulS_N]; rfl
theorem sar64 (x N b : W) (any : W) (hb : S b = 64) (hN : N.toNat < 64) : C03.sar x N b any = gA x N.toNat := by
  unfold C03.sar gA; rw [if_pos hb, Nat.mod_eq_of_lt hN]
theorem sar_32 (x N b : W) (any : W) (hb : S b = 32) (hN : N.toNat < 32) : C03.sar x N b any = gA32 x N.toNat := by
  unfold C03.sar gA32; rw [if_neg (by rw [hb]; decide), if_pos hb, Nat.mod_eq_of_lt hN]
theorem e100 : Ent 100 (cT tAdd) := fun T k => tab_any (by kernel_rfl) (fun vs K h => by
  unfold cT at h; split at h
  · obtain ⟨⟨h1, h2⟩, h⟩ := h
    obtain ⟨A, B, rfl, rfl, _⟩ := h1
    obtain ⟨C, D, rfl, rfl, _⟩ := h2
    refine ⟨_, h _ rfl _ rfl (dj_add _ _ _ _), fun w _ => ?_⟩
    unfold tV tM
    simp only [oWU]
    exact tnum_Add.calls _ _ _ _ _ _ w (C03.add_f A B C D)
  · exact h.elim) k
theorem e103 : Ent 103 (cT tSub) := fun T k => tab_any (by kernel_rfl) (fun vs K h => by
  unfold cT at h; split at h
  · obtain ⟨⟨h1, h2⟩, h⟩ := h
    obtain ⟨A, B, rfl, rfl, _⟩ := h1
    obtain ⟨C, D, rfl, rfl, _⟩ := h2
    refine ⟨_, h _ rfl _ rfl (dj_sub _ _ _ _), fun w _ => ?_⟩
    unfold tV tM
    simp only [oWU]
    exact tnum_Sub.calls _ _ _ _ _ _ w (C03.sub_f A B C D)
  · exact h.elim) k
theorem e110 : Ent 110 (cT tOr) := fun T k => tab_any (by kernel_rfl) (fun vs K h => by
  unfold cT at h; split at h
  · obtain ⟨⟨h1, h2⟩, h⟩ := h
    obtain ⟨A, B, rfl, rfl, _⟩ := h1
    obtain ⟨C, D, rfl, rfl, _⟩ := h2
    refine ⟨_, h _ rfl _ rfl (dj_or _ _ _ _), fun w _ => ?_⟩
    unfold tV tM
    simp only [oWU]
    exact tnum_Or.calls _ _ _ _ _ _ w (C03.or_f A B C D)
  · exact h.elim) k
theorem e112 : Ent 112 (cT tAnd) := fun T k => tab_any (by kernel_rfl) (fun vs K h => by
  unfold cT at h; split at h
  · obtain ⟨⟨h1, h2⟩, h⟩ := h
    obtain ⟨A, B, rfl, rfl, _⟩ := h1
    obtain ⟨C, D, rfl, rfl, _⟩ := h2
    refine ⟨_, h _ rfl _ rfl (dj_and _ _ _ _), fun w _ => ?_⟩
    unfold tV tM
    simp only [oWU]
    exact tnum_And.calls _ _ _ _ _ _ w (C03.and_f A B C D)
  · exact h.elim) k
theorem e114 : Ent 114 (cT tXor) := fun T k => tab_any (by kernel_rfl) (fun vs K h => by
  unfold cT at h; split at h
  · obtain ⟨⟨h1, h2⟩, h⟩ := h
    obtain ⟨A, B, rfl, rfl, _⟩ := h1
    obtain ⟨C, D, rfl, rfl, _⟩ := h2
    refine ⟨_, h _ rfl _ rfl (dj_xor _ _ _ _), fun w _ => ?_⟩
    unfold tV tM
    simp only [oWU]
    exact tnum_Xor.calls _ _ _ _ _ _ w (C03.xor_f A B C D)
  · exact h.elim) k
theorem e131 : Ent 131 (cT tAdd) := fun T k => tab_any (by kernel_rfl) (fun vs K h => by
  unfold cT at h; split at h
  · obtain ⟨⟨h1, h2⟩, h⟩ := h
    obtain ⟨A, B, rfl, rfl, _⟩ := h1
    obtain ⟨C, D, rfl, rfl, _⟩ := h2
    refine ⟨_, h _ rfl _ rfl (dj_add _ _ _ _), fun w _ => ?_⟩
    unfold tV tM
    simp only [oWU]
    exact lockgateref03_Add.calls _ _ _ _ _ _ w (C03.radd_f A B C D)
  · exact h.elim) k
theorem e134 : Ent 134 (cT tSub) := fun T k => tab_any (by kernel_rfl) (fun vs K h => by
  unfold cT at h; split at h
  · obtain ⟨⟨h1, h2⟩, h⟩ := h
    obtain ⟨A, B, rfl, rfl, _⟩ := h1
    obtain ⟨C, D, rfl, rfl, _⟩ := h2
    refine ⟨_, h _ rfl _ rfl (dj_sub _ _ _ _), fun w _ => ?_⟩
    unfold tV tM
    simp only [oWU]
    exact lockgateref03_Sub.calls _ _ _ _ _ _ w (C03.rsub_f A B C D)
  · exact h.elim) k
theorem e141 : Ent 141 (cT tOr) := fun T k => tab_any (by kernel_rfl) (fun vs K h => by
  unfold cT at h; split at h
  · obtain ⟨⟨h1, h2⟩, h⟩ := h
    obtain ⟨A, B, rfl, rfl, _⟩ := h1
    obtain ⟨C, D, rfl, rfl, _⟩ := h2
    refine ⟨_, h _ rfl _ rfl (dj_or _ _ _ _), fun w _ => ?_⟩
    unfold tV tM
    simp only [oWU]
    exact lockgateref03_Or.calls _ _ _ _ _ _ w (C03.ror_f A B C D)
  · exact h.elim) k
theorem e143 : Ent 143 (cT tAnd) := fun T k => tab_any (by kernel_rfl) (fun vs K h => by
  unfold cT at h; split at h
  · obtain ⟨⟨h1, h2⟩, h⟩ := h
    obtain ⟨A, B, rfl, rfl, _⟩ := h1
    obtain ⟨C, D, rfl, rfl, _⟩ := h2
    refine ⟨_, h _ rfl _ rfl (dj_and _ _ _ _), fun w _ => ?_⟩
    unfold tV tM
    simp only [oWU]
    exact lockgateref03_And.calls _ _ _ _ _ _ w (C03.rand_f A B C D)
  · exact h.elim) k
theorem e145 : Ent 145 (cT tXor) := fun T k => tab_any (by kernel_rfl) (fun vs K h => by
  unfold cT at h; split at h
  · obtain ⟨⟨h1, h2⟩, h⟩ := h
    obtain ⟨A, B, rfl, rfl, _⟩ := h1
    obtain ⟨C, D, rfl, rfl, _⟩ := h2
    refine ⟨_, h _ rfl _ rfl (dj_xor _ _ _ _), fun w _ => ?_⟩
    unfold tV tM
    simp only [oWU]
    exact lockgateref03_Xor.calls _ _ _ _ _ _ w (C03.rxor_f A B C D)
  · exact h.elim) k
theorem e137 : Ent 137 (cT tMul) := fun T k => tab_any (by kernel_rfl) (fun vs K h => by
  unfold cT at h; split at h
  · obtain ⟨⟨h1, h2⟩, h⟩ := h
    obtain ⟨A, B, rfl, rfl, _⟩ := h1
    obtain ⟨C, D, rfl, rfl, _⟩ := h2
    refine ⟨_, h _ rfl _ rfl (dj_mul _ _ _ _), fun w _ => ?_⟩
    unfold tV tM
    simp only [oWU]
    have e := C03.rmul_f 65 (Nat.le_refl 65) A B C D
    rw [mulV_N, mulM_N] at e
    exact lockgateref03_Mul.calls 65 _ _ _ _ _ _ w e
  · exact h.elim) k
theorem e94 : Ent 94 (cS gL) := fun T k => tab_any (by kernel_rfl) (fun vs K h => by
  unfold cS at h; split at h
  · rename_i n
    obtain ⟨⟨h1, h2⟩, h⟩ := h
    refine ⟨_, h _ rfl _ rfl (dj_L h1 _), fun w _ => ?_⟩
    obtain ⟨A, B, rfl, rfl, _⟩ := h1
    obtain ⟨N, hn, ht⟩ := exs h2 (Int.le_refl 64)
    have hN : N.toNat < 64 := by have := h2.2; omega
    unfold sV gL
    rw [oWU, oWU, ← ht, hn]
    have e := C03.lsh_f A B N
    rw [Nat.mod_eq_of_lt hN] at e
    exact tnum_Lsh.calls _ _ _ _ _ w e
  · exact h.elim) k
theorem e96 : Ent 96 (cS gR) := fun T k => tab_any (by kernel_rfl) (fun vs K h => by
  unfold cS at h; split at h
  · rename_i n
    obtain ⟨⟨h1, h2⟩, h⟩ := h
    refine ⟨_, h _ rfl _ rfl (dj_R h1 _), fun w _ => ?_⟩
    obtain ⟨A, B, rfl, rfl, _⟩ := h1
    obtain ⟨N, hn, ht⟩ := exs h2 (Int.le_refl 64)
    have hN : N.toNat < 64 := by have := h2.2; omega
    unfold sV gR
    rw [oWU, oWU, ← ht, hn]
    have e := C03.rsh_f A B N
    rw [Nat.mod_eq_of_lt hN] at e
    exact tnum_Rsh.calls _ _ _ _ _ w e
  · exact h.elim) k
theorem e125 : Ent 125 (cS gL) := fun T k => tab_any (by kernel_rfl) (fun vs K h => by
  unfold cS at h; split at h
  · rename_i n
    obtain ⟨⟨h1, h2⟩, h⟩ := h
    refine ⟨_, h _ rfl _ rfl (dj_L h1 _), fun w _ => ?_⟩
    obtain ⟨A, B, rfl, rfl, _⟩ := h1
    obtain ⟨N, hn, ht⟩ := exs h2 (Int.le_refl 64)
    have hN : N.toNat < 64 := by have := h2.2; omega
    unfold sV gL
    rw [oWU, oWU, ← ht, hn]
    have e := C03.rlsh_f A B N
    rw [Nat.mod_eq_of_lt hN] at e
    exact lockgateref03_Lsh.calls _ _ _ _ _ w e
  · exact h.elim) k
theorem e127 : Ent 127 (cS gR) := fun T k => tab_any (by kernel_rfl) (fun vs K h => by
  unfold cS at h; split at h
  · rename_i n
    obtain ⟨⟨h1, h2⟩, h⟩ := h
    refine ⟨_, h _ rfl _ rfl (dj_R h1 _), fun w _ => ?_⟩
    obtain ⟨A, B, rfl, rfl, _⟩ := h1
    obtain ⟨N, hn, ht⟩ := exs h2 (Int.le_refl 64)
    have hN : N.toNat < 64 := by have := h2.2; omega
    unfold sV gR
    rw [oWU, oWU, ← ht, hn]
    have e := C03.rrsh_f A B N
    rw [Nat.mod_eq_of_lt hN] at e
    exact lockgateref03_Rsh.calls _ _ _ _ _ w e
  · exact h.elim) k
theorem e98 : Ent 98 cA := fun T k => tab_any (by kernel_rfl) (fun vs K h => by
  unfold cA at h; split at h
  · rename_i n
    obtain ⟨⟨h1, h2⟩, h⟩ := h
    refine ⟨_, h _ rfl _ rfl (dj_A h1 _), fun w _ => ?_⟩
    obtain ⟨A, B, rfl, rfl, _⟩ := h1
    obtain ⟨N, hn, ht⟩ := exs h2 (by decide)
    have hN : N.toNat < 64 := by have := h2.2; omega
    unfold sV
    rw [oWU, oWU, ← ht, hn]
    have e := C03.arsh_f A B N 64#64
    rw [sar64 A N _ _ (by decide) hN, sar64 B N _ _ (by decide) hN] at e
    exact tnum_Arsh.calls _ _ _ _ _ _ w e
  · rename_i n
    obtain ⟨⟨h1, h2⟩, h⟩ := h
    refine ⟨_, h _ rfl _ rfl (dj_A32 h1 _), fun w _ => ?_⟩
    obtain ⟨A, B, rfl, rfl, _⟩ := h1
    obtain ⟨N, hn, ht⟩ := exs h2 (by decide)
    have hN : N.toNat < 32 := by have := h2.2; omega
    unfold sV
    rw [oWU, oWU, ← ht, hn]
    have e := C03.arsh_f A B N 32#64
    rw [sar_32 A N _ _ (by decide) hN, sar_32 B N _ _ (by decide) hN] at e
    exact tnum_Arsh.calls _ _ _ _ _ _ w e
  · exact h.elim) k
theorem e129 : Ent 129 cA := fun T k => tab_any (by kernel_rfl) (fun vs K h => by
  unfold cA at h; split at h
  · rename_i n
    obtain ⟨⟨h1, h2⟩, h⟩ := h
    refine ⟨_, h _ rfl _ rfl (dj_A h1 _), fun w _ => ?_⟩
    obtain ⟨A, B, rfl, rfl, _⟩ := h1
    obtain ⟨N, hn, ht⟩ := exs h2 (by decide)
    have hN : N.toNat < 64 := by have := h2.2; omega
    unfold sV
    rw [oWU, oWU, ← ht, hn]
    have e := C03.rarsh_f 66 (Nat.le_refl 66) A B N 64#64
    rw [sar64 A N _ _ (by decide) hN, sar64 B N _ _ (by decide) hN] at e
    exact lockgateref03_Arsh.calls 66 _ _ _ _ _ _ w e
  · rename_i n
    obtain ⟨⟨h1, h2⟩, h⟩ := h
    refine ⟨_, h _ rfl _ rfl (dj_A32 h1 _), fun w _ => ?_⟩
    obtain ⟨A, B, rfl, rfl, _⟩ := h1
    obtain ⟨N, hn, ht⟩ := exs h2 (by decide)
    have hN : N.toNat < 32 := by have := h2.2; omega
    unfold sV
    rw [oWU, oWU, ← ht, hn]
    have e := C03.rarsh_f 66 (Nat.le_refl 66) A B N 32#64
    rw [sar_32 A N _ _ (by decide) hN, sar_32 B N _ _ (by decide) hN] at e
    exact lockgateref03_Arsh.calls 66 _ _ _ _ _ _ w e
  · exact h.elim) k
theorem wbad {op : Int} (h : wok op = false) (wide : Bool) (a b : W) : C01.alu op wide a b = 0 := by
  have h : ¬ (0 ≤ op ∧ op ≤ 12) := of_decide_eq_false h
  unfold C01.alu
  rw [if_neg (by omega)]
  cases wide
  · rw [if_neg (by decide)]
    unfold C01.aluN
    repeat rw [if_neg (by omega)]
    rfl
  · rw [if_pos rfl]
    unfold C01.aluW
    repeat rw [if_neg (by omega)]
theorem e31 : Ent 31 (cWa C01.alu) := fun T k => tab_any (by kernel_rfl) (fun vs K h => by
  unfold cWa at h; split at h
  · rename_i op wide a b
    obtain ⟨⟨⟨h1, h2⟩, h3⟩, h⟩ := h
    obtain ⟨A, rfl⟩ := exu h1
    obtain ⟨B, rfl⟩ := exu h2
    refine ⟨_, h _ rfl (u6_U _), fun w _ => ?_⟩
    unfold waI
    rw [oWU, oWU]
    have e := C01.alu_f 1 (Nat.le_refl 1) op wide A B
    rw [show C01.isOp op = true from h3] at e
    exact (word_Alu.calls 1 _ _ _ _ _ _ w e).mono fun e w' k => ⟨k.1, k.2.below⟩
  · exact h.elim) k
theorem e35 : Ent 35 (cWa C01.alu) := fun T k => tab_any (by kernel_rfl) (fun vs K h => by
  unfold cWa at h; split at h
  · rename_i op wide a b
    obtain ⟨⟨⟨h1, h2⟩, h3⟩, h⟩ := h
    obtain ⟨A, rfl⟩ := exu h1
    obtain ⟨B, rfl⟩ := exu h2
    refine ⟨_, h _ rfl (u6_U _), fun w _ => ?_⟩
    unfold waI
    rw [oWU, oWU]
    have e := C01.ralu_f 300 (Nat.le_refl 300) op wide A B
    rw [show C01.isOp op = true from h3] at e
    exact (lockgateref01_Alu.calls 300 _ _ _ _ _ _ w e).mono fun e w' k => ⟨k.1, k.2.below⟩
  · exact h.elim) k
theorem e31b : Ent 31 cWb := fun T k => tab_any (by kernel_rfl) (fun vs K h => by
  unfold cWb at h; split at h
  · rename_i op wide a b
    obtain ⟨⟨⟨h1, h2⟩, h3⟩, h⟩ := h
    obtain ⟨A, rfl⟩ := exu h1
    obtain ⟨B, rfl⟩ := exu h2
    refine ⟨_, h, fun w _ => ?_⟩
    have e := C01.alu_f 1 (Nat.le_refl 1) op wide A B
    rw [show C01.isOp op = false from h3, wbad h3] at e
    exact (word_Alu.calls 1 _ _ _ _ _ _ w e).mono fun e w' k => ⟨k.1, k.2.below⟩
  · exact h.elim) k
theorem e35b : Ent 35 cWb := fun T k => tab_any (by kernel_rfl) (fun vs K h => by
  unfold cWb at h; split at h
  · rename_i op wide a b
    obtain ⟨⟨⟨h1, h2⟩, h3⟩, h⟩ := h
    obtain ⟨A, rfl⟩ := exu h1
    obtain ⟨B, rfl⟩ := exu h2
    refine ⟨_, h, fun w _ => ?_⟩
    have e := C01.ralu_f 300 (Nat.le_refl 300) op wide A B
    rw [show C01.isOp op = false from h3, wbad h3] at e
    exact (lockgateref01_Alu.calls 300 _ _ _ _ _ _ w e).mono fun e w' k => ⟨k.1, k.2.below⟩
  · exact h.elim) k
theorem tC : TabOk Tryz.prog (TC C01.alu) := e31 _ (e32 _ (e13 _ (e100 _ (e101 _ (e102 _ (e103 _ (e104 _ (e105 _ (e106 e100 _ (e107 _ (e108 _ (e109 _ (e110 _ (e111 _ (e112 _ (e113 _ (e114 _ (e94 _ (e95 _ (e96 _ (e97 _ (e98 _ (e99 _ tab_nil)))))))))))))))))))))))
theorem tR : TabOk Tryz.prog (TR C01.alu) := e35 _ (e37 _ (e36 _ (e14 _ (e131 _ (e132 _ (e133 _ (e134 _ (e135 _ (e136 _ (e137 _ (e138 _ (e139 _ (e140 _ (e141 _ (e142 _ (e143 _ (e144 _ (e145 _ (e125 _ (e126 _ (e127 _ (e128 _ (e129 _ (e130 _ tab_nil))))))))))))))))))))))))
theorem tAl : TabOk Tryz.prog [(8, cAl C01.alu), (9, cAl C01.alu)] := t8 tC (e31b _ tab_nil) (t9 tR (e35b _ tab_nil) tab_nil)
end Go.Proofs.YtceclodenhgoeaaGreat.Zds
end
section
/- ScalarAlu, by the executor and the printed functions of layers 1 and 3. -/
namespace Go.Proofs.YtceclodenhgoeaaGreat.LScalarAlu
open Go Go.Proofs Go.RowKit Go.Proofs.YtceclodenhgoeaaGreat.Xc Go.Proofs.YtceclodenhgoeaaGreat.Zs Go.Proofs.YtceclodenhgoeaaGreat.Zu Go.Proofs.YtceclodenhgoeaaGreat.Zcf Go.Proofs.YtceclodenhgoeaaGreat.Zdl Go.Proofs.YtceclodenhgoeaaGreat.Zdq Go.Proofs.YtceclodenhgoeaaGreat.Zdr Go.Proofs.YtceclodenhgoeaaGreat.Zds Go.Proofs.YtceclodenhgoeaaGreat.Zdu
set_option linter.unusedVariables false
set_option linter.unusedSimpArgs false
theorem tL : TabOk Tryz.prog (TL C01.alu) := e10 _ (e7 _ tAl)
theorem wu {x : Int} (h : (Lit.int .u64 x).wf = true) : u6 x := by
  simp [Lit.wf, IntKind.min, IntKind.max, IntKind.signed, IntKind.bits] at h
  unfold u6; omega
theorem wi {x : Int} (h : (Lit.int .i64 x).wf = true) : i6 x := by
  simp [Lit.wf, IntKind.min, IntKind.max, IntKind.signed, IntKind.bits] at h
  unfold i6; omega
theorem calls (op : Int) (wide : Bool) (a b c d e f a' b' c' d' e' f' : Int) (_ : (Lit.int .i64 op).wf = true) (h0 : (Lit.int .u64 a).wf = true) (h1 : (Lit.int .u64 b).wf = true) (h2 : (Lit.int .u64 c).wf = true) (h3 : (Lit.int .u64 d).wf = true) (h8 : (Lit.int .i64 e).wf = true) (h9 : (Lit.int .i64 f).wf = true) (h4 : (Lit.int .u64 a').wf = true) (h5 : (Lit.int .u64 b').wf = true) (h6 : (Lit.int .u64 c').wf = true) (h7 : (Lit.int .u64 d').wf = true) (h10 : (Lit.int .i64 e').wf = true) (h11 : (Lit.int .i64 f').wf = true) (W : World) :
    Calls Tryz.prog 3 #[.int .i64 op, .bool wide, Sc a b c d e f, Sc a' b' c' d' e' f'] W (fun e W' => e = .returned (.bool true) ∧ Below W.heap.size W W') := by
  have o := oLaw (g := C01.alu) (op := op) (wide := wide) ⟨wu h0, wu h1⟩ ⟨wu h2, wu h3⟩ ⟨wi h8, wi h9⟩ ⟨wu h4, wu h5⟩ ⟨wu h6, wu h7⟩ ⟨wi h10, wi h11⟩
  unfold Zdr.nLaw at o
  exact calls_run good tL eez o W
end Go.Proofs.YtceclodenhgoeaaGreat.LScalarAlu
end
