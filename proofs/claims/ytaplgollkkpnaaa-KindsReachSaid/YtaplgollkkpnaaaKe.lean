/- Layer 18: the contracts of the reference's Norm, of In on both sides, of Right, of works. -/
import Derived.Test.YtaplgollkkpnaaaKd
namespace Go.Proofs.Ytaplgollkkpnaaa.Ke
open Go Go.RowKit Go.Proofs Go.Proofs.Ytaplgollkkpnaaa.Xc Go.Proofs.Ytaplgollkkpnaaa.Bv Go.Proofs.Ytaplgollkkpnaaa.Ka Go.Proofs.Ytaplgollkkpnaaa.Kb Go.Proofs.Ytaplgollkkpnaaa.Kc Go.Proofs.Ytaplgollkkpnaaa.Kd
set_option linter.unusedVariables false
set_option linter.unusedSimpArgs false
theorem u6_w (x : Int) : u6 (IntKind.wrap .u64 x) := by rw [uW]; unfold u6; omega
theorem u6_0 : u6 0 := by unfold u6; omega
theorem u6_m : u6 18446744073709551615 := by unfold u6; omega
theorem rUM {a b c d : Int} {K : Value → Prop} (ha : u6 a) (hb : u6 b) (hc : u6 c) (hd : u6 d) (h : ∀ l h q, ((u6 l ∧ u6 h) ∧ anB q) → K (.tuple #[T2 l h, .bool q])) : nUM a b c d K := by
  rw [nUM_eq]
  repeat (first | exact h _ _ _ ⟨⟨by assumption, by assumption⟩, trivial⟩ | exact h _ _ _ ⟨⟨u6_0, u6_0⟩, trivial⟩ | refine br_cases (fun _ => ?_) (fun _ => ?_))
theorem rSM {a b c d : Int} {K : Value → Prop} (h : ∀ l h q, ((anI l ∧ anI h) ∧ anB q) → K (.tuple #[S2 l h, .bool q])) : nSM a b c d K := by
  rw [nSM_eq]
  repeat (first | exact h _ _ _ ⟨⟨trivial, trivial⟩, trivial⟩ | refine br_cases (fun _ => ?_) (fun _ => ?_))
theorem rTU {a b : Int} {K : Value → Prop} (h : ∀ l h, (u6 l ∧ u6 h) → K (T2 l h)) : nTU a b K := by
  rw [nTU_eq]
  repeat (first | with_reducible refine ob_self ?_ | with_reducible refine ob_true ?_)
  exact fun r _ => br_cases (fun _ => h _ _ ⟨u6_0, u6_m⟩) (fun _ => h _ _ ⟨u6_w _, u6_w _⟩)
theorem rTS {a b : Int} {K : Value → Prop} (h : ∀ l h, (anI l ∧ anI h) → K (S2 l h)) : nTS a b K := by
  rw [nTS_eq]
  exact br_cases (fun _ => h _ _ ⟨trivial, trivial⟩) (fun _ => h _ _ ⟨trivial, trivial⟩)
theorem rFT {a b : Int} {K : Value → Prop} (ha : u6 a) (h : ∀ l h s t, ((u6 l ∧ u6 h) ∧ (anI s ∧ anI t)) → K (.tuple #[T2 l h, S2 s t])) : nFT a b K := by
  rw [nFT_eq]
  exact br_cases (fun _ => h _ _ _ _ ⟨⟨ha, u6_w _⟩, trivial, trivial⟩) (fun _ => h _ _ _ _ ⟨⟨ha, u6_w _⟩, trivial, trivial⟩)
theorem rTT {c d : Int} {K : Value → Prop} (hc : u6 c) (hd : u6 d) (h : ∀ l h, (u6 l ∧ u6 h) → K (T2 l h)) : nTT c d K := by
  rw [nTT_eq]
  refine ⟨rfl, rfl, ⟨hc, hd⟩, fun k hk => ?_⟩
  have hk64 := hk.le
  have hp : (0 : Int) < 2 ^ k := Int.pow_pos (by decide)
  have a : (2 : Int) ^ k = ((2 ^ k : Nat) : Int) := by simp
  have b : 2 ^ k ≤ 2 ^ 64 := Nat.pow_le_pow_right (by decide) hk64
  have hm : u6 (pw k) := by unfold pw u6; rw [a]; omega
  refine br_cases (fun q => h _ _ ⟨u6_0, hm⟩) (fun q => ?_)
  have q : ¬ pw k = 18446744073709551615 := by simpa using q
  refine ob_mk (fun _ => ?_) (h _ _ ⟨u6_w _, hm⟩)
  have : IntKind.wrap .u64 (pw k + 1) = 2 ^ k := by
    have q2 : ¬ (2 : Int) ^ k - 1 = 18446744073709551615 := q
    have hm2 : 0 ≤ (2 : Int) ^ k - 1 ∧ (2 : Int) ^ k - 1 < 18446744073709551616 := hm
    show IntKind.wrap .u64 (2 ^ k - 1 + 1) = 2 ^ k
    rw [uW]; omega
  rw [this]; simpa using (by omega : ¬ (2 : Int) ^ k = 0)
theorem rMe {a am b bm : Int} {K : Value → Prop} (ha : u6 a) (hb : u6 am) (hc : u6 b) (hd : u6 bm) (h : ∀ l h q, ((u6 l ∧ u6 h) ∧ anB q) → K (.tuple #[T2 l h, .bool q])) : nMe a am b bm K := by
  rw [nMe_eq]
  exact ⟨rfl, rfl, ⟨⟨ha, hb⟩, hc, hd⟩, fun x o om i q => br_cases (fun _ => h _ _ _ ⟨q.1, trivial⟩) (fun _ => h _ _ _ ⟨⟨u6_0, u6_0⟩, trivial⟩)⟩
theorem tn : TabOk Try.prog TN := by
  refine tab_runK good (by kernel_rfl) (fun vs K h => ?_) (tab_runK good (by kernel_rfl) (fun vs K h => ?_) (tab_runK good (by kernel_rfl) (fun vs K h => ?_) (tab_runK good (by kernel_rfl) (fun vs K h => ?_) (tab_runK good (by kernel_rfl) (fun vs K h => ?_) (tab_runL good (by kernel_rfl) (fun vs K h => ?_) (tab_runL good (by kernel_rfl) (fun vs K h => ?_) tab_nil))))))
  · unfold cUM at h; split at h
    · obtain ⟨⟨⟨h1, h2⟩, h3, h4⟩, h⟩ := h
      have o := rUM h1 h2 h3 h4 (fun l m q => h l m q); unfold nUM at o; exact ⟨[], EEz, true, 90, tab_nil, eez, o⟩
    · exact h.elim
  · unfold cSM at h; split at h
    · rename_i a b c d
      have o := rSM (a := a) (b := b) (c := c) (d := d) (fun l m q => h l m q); unfold nSM at o; exact ⟨[], EEz, true, 90, tab_nil, eez, o⟩
    · exact h.elim
  · unfold cTU at h; split at h
    · rename_i a b
      have o := rTU (a := a) (b := b) (fun l m => h l m); unfold nTU at o; exact ⟨[], EEz, true, 90, tab_nil, eez, o⟩
    · exact h.elim
  · unfold cTS at h; split at h
    · rename_i a b
      have o := rTS (a := a) (b := b) (fun l m => h l m); unfold nTS at o; exact ⟨[], EEz, true, 90, tab_nil, eez, o⟩
    · exact h.elim
  · unfold cFT at h; split at h
    · rename_i a b
      have o := rFT (b := b) h.1.1 (fun l m s t => h.2 l m s t); unfold nFT at o; exact ⟨[], EEz, true, 90, tab_nil, eez, o⟩
    · exact h.elim
  · unfold cTT at h; split at h
    · have o := rTT h.1.1 h.1.2 (fun l m => h.2 l m); unfold nTT at o; exact ⟨TAl, EEz, true, LtT, 90, tal, eez, lokT, o⟩
    · exact h.elim
  · unfold cMe at h; split at h
    · obtain ⟨⟨⟨h1, h2⟩, h3, h4⟩, h⟩ := h
      have o := rMe h1 h2 h3 h4 (fun l m q => h l m q); unfold nMe at o; exact ⟨[], EEz, true, LtM, 90, tab_nil, eez, lokM, o⟩
    · exact h.elim
theorem rNo {a b c d e f : Int} {K : Value → Prop} (ha : u6 a) (hb : u6 b) (hc : u6 c) (hd : u6 d) (h : ∀ a b c d e f q, K (.tuple #[Sc a b c d e f, .bool q])) : nNo a b c d e f K := by
  rw [nNo_eq]
  repeat (first | exact h _ _ _ _ _ _ _ | (refine br_cases (fun _ => ?_) (fun _ => ?_)) | (refine And.intro ⟨⟨by assumption, by assumption⟩, by assumption, by assumption⟩ ?_) | (refine And.intro ⟨by assumption, by assumption⟩ ?_) | (intro x y; intro ⟨_, _⟩) | (intro x y z; intro ⟨⟨_, _⟩, _⟩) | (intro x y z w; intro ⟨⟨_, _⟩, _⟩))
/-- What is known of a register that may be. -/
structure RtP (k a b c d e f off rg : Int) : Prop where
  dj : dj a b
  cd : c ≤ d
  ef : e ≤ f
  o1 : -1048576 ≤ off
  o2 : off ≤ 1048576
  r1 : 0 ≤ rg
  r2 : rg ≤ 65535
  far : (k = 2 ∨ k = 6) → d ≤ 1048576
theorem dj_of {a b : Int} (ha : u6 a) (hb : u6 b) (h : (Go.bits .and .u64 a b == 0) = true) : Ka.dj a b := by
  obtain ⟨A, rfl⟩ := exu ha
  obtain ⟨B, rfl⟩ := exu hb
  refine ⟨A, B, rfl, rfl, ?_⟩
  rw [b_and, ofInt_U, ofInt_U, show (0 : Int) = U 0#64 from rfl, U_beq, beq_iff_eq] at h
  exact h
theorem tr : TabOk Try.prog TR := by
  refine tab_runK good (by kernel_rfl) (fun vs K h => ?_) tab_nil
  unfold cNo at h; split at h
  · rename_i a b c d e f
    obtain ⟨⟨⟨h1, h2⟩, h3, h4⟩, h⟩ := h
    have o := rNo (e := e) (f := f) h1 h2 h3 h4 (fun a b c d e f q => h a b c d e f q ⟨⟨⟨trivial, trivial⟩, trivial, trivial⟩, ⟨trivial, trivial⟩, trivial⟩)
    unfold nNo at o; exact ⟨TN, EEz, true, 90, tn, eez, o⟩
  · exact h.elim
theorem rRi {k a b c d e f off id rg mp : Int} {K : Value → Prop} (ha : u6 a) (hb : u6 b) (hc : u6 c) (hd : u6 d) (h : ∀ q : Bool, (q = true → RtP k a b c d e f off rg) → K (.bool q)) : Kd.nRi k a b c d e f off id rg mp K := by
  rw [Kd.nRi_eq]
  refine ⟨⟨⟨ha, hb⟩, hc, hd⟩, fun _ _ _ _ _ _ x _ => ?_⟩
  repeat (first | with_reducible refine ob_self ?_ | with_reducible refine ob_true ?_ | ((with_reducible refine nm_intro ?_); intro r hr; subst hr))
  refine h _ fun q => ?_
  simp only [Bool.cond_false_right, Bool.cond_true_left, Bool.and_eq_true, Bool.or_eq_true, decide_eq_true_eq, bne_iff_ne, ne_eq] at q
  obtain ⟨⟨⟨⟨⟨⟨⟨⟨q0, q1⟩, q2⟩, q3⟩, q4⟩, q5⟩, q6⟩, q7⟩, q8⟩ := q
  exact ⟨dj_of ha hb q1, q2, q3, q4, q5, q6, q7, fun hk => by omega⟩
theorem oWorks : nWorks (· = .bool true) := by
  rw [nWorks_eq]; (repeat (first | with_reducible refine ob_self ?_ | with_reducible refine ob_true ?_ | (refine nm_intro ?_; intro _ _))); rfl
theorem tl : TabOk Try.prog TL := by
  refine tab_runK good (by kernel_rfl) (fun vs K h => ?_) (tab_runL good (by kernel_rfl) (fun vs K h => ?_) tab_nil)
  · unfold cI at h; split at h
    · rename_i a b v
      have o : nI1 a b v K := by rw [nI1_eq]; exact h.2 _ rfl
      unfold nI1 at o; exact ⟨[], EEz, true, 90, tab_nil, eez, o⟩
    · exact h.elim
  · unfold cI at h; split at h
    · rename_i a b v
      have o : nI2 a b v K := by
        rw [nI2_eq]
        have k := h.2 _ rfl
        refine ⟨rfl, rfl, ⟨h.1.1, dj0 h.1.2⟩, br_cases (fun q => ?_) (fun q => fun _ => ?_)⟩
        · rw [q] at k; exact k
        · rw [q] at k; exact k
      unfold nI2 at o; exact ⟨[], EEz, true, LtI, 90, tab_nil, eez, lokI, o⟩
    · exact h.elim
end Go.Proofs.Ytaplgollkkpnaaa.Ke
