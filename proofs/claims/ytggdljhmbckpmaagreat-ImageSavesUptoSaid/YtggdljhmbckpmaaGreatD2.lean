/- States of the machine as bytes: how they are written and read, and that each undoes the other. Plain laws. -/
import Derived.Test.YtggdljhmbckpmaaGreatH1J
import Derived.Test.YtggdljhmbckpmaaGreatA16J
set_option linter.unusedVariables false
set_option linter.unusedSimpArgs false
namespace Go.Proofs.YtggdljhmbckpmaaGreat
open Go Go.RowKit
attribute [local semireducible] Sl Rd Ls At S

/-! ### reading -/
abbrev Dc (α : Type) := Nat → Except Nat (α × Nat)
def iR (xs : List UInt8) : Nat → Nat → Nat → Dc Nat
  | 0, i, u, a => match xs[a]? with
    | none => .error xs.length
    | some c => if 1 < c.toNat ∨ (0 < i ∧ c.toNat = 0) then .error a else .ok (u + c.toNat * 128 ^ i, a + 1)
  | m + 1, i, u, a => match xs[a]? with
    | none => .error xs.length
    | some c => if 0 < i ∧ c.toNat = 0 then .error a else if c.toNat < 128 then .ok (u + c.toNat * 128 ^ i, a + 1) else iR xs m (i + 1) (u + (c.toNat - 128) * 128 ^ i) (a + 1)
def mB (u : Nat) : Int := if u % 2 = 1 then -((u / 2 : Nat) : Int) - 1 else ((u / 2 : Nat) : Int)
def fF (xs : List UInt8) : Dc Int := fun a => match iR xs 9 0 0 a with
  | .error e => .error e
  | .ok (u, a') => .ok (mB u, a')
def lD (xs : List UInt8) : Dc Nat := fun a => match fF xs a with
  | .error e => .error e
  | .ok (n, a') => if n < 0 ∨ ((xs.length - a' : Nat) : Int) < n then .error (a' - 1) else .ok (n.toNat, a')
def iL (xs : List UInt8) : Dc Bool := fun a => match xs[a]? with
  | none => .error xs.length
  | some c => if 1 < c.toNat then .error a else .ok (decide (c.toNat = 1), a + 1)
def kO (xs : List UInt8) : Dc ByteArray := fun a => match lD xs a with
  | .error e => .error e
  | .ok (n, a') => .ok (rG ((xs.drop a').take n), a' + n)
def iO {α : Type} (one : Dc α) : Nat → Dc (List α)
  | 0, a => .ok ([], a)
  | n + 1, a => match one a with
    | .error e => .error e
    | .ok (x, a1) => match iO one n a1 with
      | .error e => .error e
      | .ok (l, a2) => .ok (x :: l, a2)
def dY {α : Type} (xs : List UInt8) (one : Dc α) : Dc (List α) := fun a => match lD xs a with
  | .error e => .error e
  | .ok (n, a') => iO one n a'
def cK {α β : Type} (d : Dc α) (d' : Dc β) : Dc (α × β) := fun a => match d a with
  | .error e => .error e
  | .ok (x, a1) => match d' a1 with
    | .error e => .error e
    | .ok (y, a2) => .ok ((x, y), a2)
def kE {α β : Type} (f : α → β) (d : Dc α) : Dc β := fun a => match d a with
  | .error e => .error e
  | .ok (x, a1) => .ok (f x, a1)
def Tm.of (p : Int × Int × ByteArray × List Tm) : Tm := .mk p.1 p.2.1 p.2.2.1 p.2.2.2
def Tp.of (p : ByteArray × List Tp) : Tp := .mk p.1 p.2
def zB (xs : List UInt8) : Nat → Dc Tm
  | 0, a => .error 0
  | f + 1, a => kE Tm.of (cK (fF xs) (cK (fF xs) (cK (kO xs) (dY xs (zB xs f))))) a
def t7 (xs : List UInt8) : Nat → Dc Tp
  | 0, a => .error 0
  | f + 1, a => kE Tp.of (cK (kO xs) (dY xs (t7 xs f))) a

/-! ### writing -/
def iU (s : ByteArray) : List UInt8 := dA s.size ++ s.data.toList
def Tm.enc : Tm → List UInt8
  | .mk k n nm args => dA k ++ (dA n ++ (iU nm ++ (dA args.length ++ args.flatMap Tm.enc)))
def Tp.enc : Tp → List UInt8
  | .mk nm args => iU nm ++ (dA args.length ++ args.flatMap Tp.enc)
theorem Tm.enc_eq (k n : Int) (nm : ByteArray) (args : List Tm) : Tm.enc (.mk k n nm args) = dA k ++ (dA n ++ (iU nm ++ (dA args.length ++ args.flatMap Tm.enc))) := by
  rw [Tm.enc]
theorem Tp.enc_eq (nm : ByteArray) (args : List Tp) : Tp.enc (.mk nm args) = iU nm ++ (dA args.length ++ args.flatMap Tp.enc) := by
  rw [Tp.enc]

/-! ### the laws of a reader and a writer -/
/-- What is read was written so. -/
def zZ {α : Type} (xs : List UInt8) (d : Dc α) (enc : α → List UInt8) : Prop := ∀ a x a', a ≤ xs.length → d a = .ok (x, a') → a ≤ a' ∧ a' ≤ xs.length ∧ xs.drop a = enc x ++ xs.drop a'
/-- What was written is read, from m on. -/
def Rt {α : Type} (xs : List UInt8) (m : Nat) (d : Dc α) (enc : α → List UInt8) (x : α) : Prop := ∀ a r, m ≤ a → a ≤ xs.length → xs.drop a = enc x ++ r → d a = .ok (x, a + (enc x).length)

theorem oH {xs e r : List UInt8} {a : Nat} (ha : a ≤ xs.length) (h : xs.drop a = e ++ r) : a + e.length ≤ xs.length ∧ xs.drop (a + e.length) = r := by
  have h1 := congrArg List.length h
  simp only [List.length_drop, List.length_append] at h1
  refine ⟨by omega, ?_⟩
  rw [← List.drop_drop, h, List.drop_left]
theorem sY {xs : List UInt8} {a : Nat} {c : UInt8} (h : xs[a]? = some c) : xs.drop a = c :: xs.drop (a + 1) ∧ a + 1 ≤ xs.length := by
  obtain ⟨h1, h2⟩ := List.getElem?_eq_some_iff.1 h
  exact ⟨by rw [List.drop_eq_getElem_cons h1, h2], h1⟩
theorem oR {xs l : List UInt8} {a : Nat} {c : UInt8} (h : xs.drop a = c :: l) : xs[a]? = some c := by
  have := congrArg (fun l => l[0]?) h
  simpa using this

/-! ### numbers -/
theorem tF (xs : List UInt8) : ∀ m i u a v a', i + m = 9 → iR xs m i u a = .ok (v, a') → ∃ w, v = u + w * 128 ^ i ∧ a ≤ a' ∧ a' ≤ xs.length ∧ xs.drop a = nO m w ++ xs.drop a' ∧ w < 2 * 128 ^ m ∧ (0 < i → 0 < w)
  | 0, i, u, a, v, a', hi, h => by
    unfold iR at h
    cases hx : xs[a]? with
    | none => rw [hx] at h; cases h
    | some c =>
      rw [hx] at h
      simp only at h
      split at h
      · cases h
      · rename_i hn
        injection h with h
        injection h with h1 h2
        obtain ⟨d1, d2⟩ := sY hx
        refine ⟨c.toNat, h1.symm, by omega, by omega, ?_, by omega, fun hi => ?_⟩
        · rw [d1, ← h2, nO, UInt8.ofNat_toNat]; rfl
        · rcases Nat.eq_zero_or_pos c.toNat with h0 | h0
          · exact absurd (.inr ⟨hi, h0⟩) hn
          · exact h0
  | m + 1, i, u, a, v, a', hi, h => by
    unfold iR at h
    cases hx : xs[a]? with
    | none => rw [hx] at h; cases h
    | some c =>
      rw [hx] at h
      simp only at h
      obtain ⟨d1, d2⟩ := sY hx
      have hc := c.toNat_lt
      split at h
      · cases h
      · rename_i hn
        split at h
        · rename_i hlt
          injection h with h
          injection h with h1 h2
          refine ⟨c.toNat, h1.symm, by omega, by omega, ?_, ?_, fun hi => ?_⟩
          · rw [d1, ← h2, nO, if_neg aO, UInt8.ofNat_toNat]; rfl
          · have : 1 ≤ 128 ^ m := Nat.one_le_pow _ _ cQ
            rw [Nat.pow_succ]; omega
          · rcases Nat.eq_zero_or_pos c.toNat with h0 | h0
            · exact absurd ⟨hi, h0⟩ hn
            · exact h0
        · rename_i hge
          obtain ⟨w, e1, e2, e3, e4, e5, e6⟩ := tF xs m (i + 1) _ _ v a' aO h
          have hw := e6 aO
          refine ⟨(c.toNat - 128) + 128 * w, ?_, by omega, e3, ?_, ?_, fun _ => by omega⟩
          · rw [e1, Nat.pow_succ, Nat.add_mul]
            have : w * (128 ^ i * 128) = 128 * w * 128 ^ i := by rw [Nat.mul_comm (128 ^ i), ← Nat.mul_assoc, Nat.mul_comm w]
            omega
          · have q1 : (c.toNat - 128 + 128 * w) / 128 = w := by omega
            have q2 : ((c.toNat - 128 + 128 * w) % 256 ||| 128) = c.toNat := by
              have g1 : (c.toNat - 128 + 128 * w) % 256 ||| 128 = (c.toNat - 128) ||| 128 := by
                rcases Nat.mod_two_eq_zero_or_one w with hw2 | hw2
                · rw [show (c.toNat - 128 + 128 * w) % 256 = c.toNat - 128 by omega]
                · rw [show (c.toNat - 128 + 128 * w) % 256 = (c.toNat - 128) + 128 by omega]
                  have : c.toNat - 128 + 128 = 2 ^ 7 * 1 + (c.toNat - 128) := by omega
                  rw [this, Nat.two_pow_add_eq_or_of_lt aO]
                  show (2 ^ 7 * 1 ||| (c.toNat - 128)) ||| 128 = _
                  rw [Nat.or_comm (2 ^ 7 * 1), Nat.or_assoc]; rfl
              rw [g1]
              have := Nat.two_pow_add_eq_or_of_lt (i := 7) (b := c.toNat - 128) aO 1
              rw [Nat.or_comm]
              show 2 ^ 7 * 1 ||| (c.toNat - 128) = _
              rw [← this]; omega
            rw [nO, if_pos aO, q1, q2, UInt8.ofNat_toNat, d1, e4]; rfl
          · rw [Nat.pow_succ]; omega
theorem i0 (xs : List UInt8) : ∀ m i u a w r, i + m = 9 → w < 2 * 128 ^ m → (0 < i → 0 < w) → a ≤ xs.length → xs.drop a = nO m w ++ r → iR xs m i u a = .ok (u + w * 128 ^ i, a + (nO m w).length)
  | 0, i, u, a, w, r, hi, hw, h0, ha, h => by
    have e : nO 0 w = [UInt8.ofNat w] := rfl
    rw [e] at h ⊢
    have hx := oR h
    unfold iR
    rw [hx]
    simp only
    have ew : (UInt8.ofNat w).toNat = w := by rw [UInt8.toNat_ofNat']; omega
    rw [ew, if_neg aO]; rfl
  | m + 1, i, u, a, w, r, hi, hw, h0, ha, h => by
    by_cases hge : 128 ≤ w
    · have e : nO (m + 1) w = UInt8.ofNat (w % 256 ||| 128) :: nO m (w / 128) := by rw [nO, if_pos hge]
      rw [e] at h ⊢
      have hx := oR h
      have hd := sY hx
      unfold iR
      rw [hx]
      simp only
      have ew : (UInt8.ofNat (w % 256 ||| 128)).toNat = w % 128 + 128 := by
        have g : w % 256 ||| 128 = w % 128 + 128 := by
          have := Nat.two_pow_add_eq_or_of_lt (i := 7) (b := w % 128) aO 1
          rcases (show w % 256 = w % 128 ∨ w % 256 = w % 128 + 128 by omega) with q | q
          · rw [q, Nat.or_comm]
            show 2 ^ 7 * 1 ||| w % 128 = _
            rw [← this]; omega
          · rw [q, show w % 128 + 128 = 2 ^ 7 * 1 + w % 128 by omega, this, Nat.or_comm (2 ^ 7 * 1), Nat.or_assoc]
            rfl
        rw [UInt8.toNat_ofNat', g]; omega
      rw [ew, if_neg aO, if_neg aO]
      have hr : xs.drop (a + 1) = nO m (w / 128) ++ r := by
        have := hd.1
        rw [h] at this
        simpa using this.symm
      rw [i0 xs m (i + 1) _ (a + 1) (w / 128) r aO (by rw [Nat.pow_succ] at hw; omega) (fun _ => by omega) hd.2 hr]
      have e1 : u + (w % 128 + 128 - 128) * 128 ^ i + w / 128 * 128 ^ (i + 1) = u + w * 128 ^ i := by
        have g : w / 128 * 128 ^ (i + 1) = 128 * (w / 128) * 128 ^ i := by rw [Nat.pow_succ, Nat.mul_comm (128 ^ i), ← Nat.mul_assoc, Nat.mul_comm (w / 128)]
        rw [g, Nat.add_assoc, ← Nat.add_mul, show w % 128 + 128 - 128 + 128 * (w / 128) = w by omega]
      rw [e1, List.length_cons]
      congr 2
      omega
    · have e : nO (m + 1) w = [UInt8.ofNat w] := by rw [nO, if_neg hge]
      rw [e] at h ⊢
      have hx := oR h
      unfold iR
      rw [hx]
      simp only
      have ew : (UInt8.ofNat w).toNat = w := by rw [UInt8.toNat_ofNat']; omega
      rw [ew, if_neg aO, if_pos aO]; rfl
theorem w6 (u : Nat) : uE (mB u) = u := by
  unfold uE mB
  split <;> split <;> omega
theorem s7 (n : Int) : mB (uE n) = n := by
  unfold uE mB
  split <;> split <;> omega
theorem qF {u : Nat} (h : u < 18446744073709551616) : dO (mB u) := by
  unfold mB dO
  split <;> omega
theorem qO (xs : List UInt8) : zZ xs (fF xs) dA := by
  intro a x a' ha h
  unfold fF at h
  cases hg : iR xs 9 0 0 a with
  | error e => rw [hg] at h; cases h
  | ok p =>
    obtain ⟨u, a1⟩ := p
    rw [hg] at h
    injection h with h
    injection h with h1 h2
    obtain ⟨w, e1, e2, e3, e4, e5, e6⟩ := tF xs 9 0 0 a u a1 rfl hg
    subst h2
    refine ⟨e2, e3, ?_⟩
    have : u = w := by simpa using e1
    subst this
    rw [← h1, dA, w6]; exact e4
theorem eT {xs : List UInt8} {a a' : Nat} {n : Int} (h : fF xs a = .ok (n, a')) : dO n ∧ a + 1 ≤ a' := by
  unfold fF at h
  cases hg : iR xs 9 0 0 a with
  | error e => rw [hg] at h; cases h
  | ok p =>
    obtain ⟨u, a1⟩ := p
    rw [hg] at h
    injection h with h
    injection h with h1 h2
    obtain ⟨w, e1, e2, e3, e4, e5, e6⟩ := tF xs 9 0 0 a u a1 rfl hg
    have : u = w := by simpa using e1
    subst this
    subst h1 h2
    refine ⟨qF (by simpa using e5), ?_⟩
    have hl := sZ 9 u
    have := congrArg List.length e4
    simp only [List.length_drop, List.length_append] at this
    omega
theorem sX (xs : List UInt8) {n : Int} (hn : dO n) : Rt xs 0 (fF xs) dA n := by
  intro a r _ ha h
  have := i0 xs 9 0 0 a (uE n) r rfl (zF hn) (fun h => absurd h cQ) ha h
  unfold fF
  rw [this]
  simp only [Nat.zero_add, Nat.pow_zero, Nat.mul_one, s7]
  rfl
theorem mS (n : Int) : 0 < (dA n).length := sZ _ _

theorem uD {xs : List UInt8} {a n a' : Nat} (ha : a ≤ xs.length) (h : lD xs a = .ok (n, a')) : a + 1 ≤ a' ∧ a' ≤ xs.length ∧ xs.drop a = dA (n : Int) ++ xs.drop a' ∧ n + a' ≤ xs.length := by
  unfold lD at h
  cases hg : fF xs a with
  | error e => rw [hg] at h; cases h
  | ok p =>
    obtain ⟨k, a1⟩ := p
    rw [hg] at h
    simp only at h
    split at h
    · cases h
    · injection h with h
      injection h with h1 h2
      subst h2
      obtain ⟨e1, e2, e3⟩ := qO xs a k a1 ha hg
      have e4 := (eT hg).2
      refine ⟨e4, e2, ?_, by omega⟩
      rw [e3, ← h1, Int.toNat_of_nonneg aO]
theorem zN {xs : List UInt8} {a n : Nat} {r : List UInt8} (ha : a ≤ xs.length) (hn : n ≤ r.length) (hI : dO (n : Int)) (h : xs.drop a = dA (n : Int) ++ r) : lD xs a = .ok (n, a + (dA (n : Int)).length) := by
  unfold lD
  rw [sX xs hI a r (Nat.zero_le _) ha h]
  simp only
  obtain ⟨h1, h2⟩ := oH ha h
  have := congrArg List.length h2
  simp only [List.length_drop] at this
  rw [if_neg aO, Int.toNat_natCast]

/-! ### truths, texts, lists -/
theorem yN (xs : List UInt8) : zZ xs (iL xs) iI := by
  intro a x a' ha h
  unfold iL at h
  cases hx : xs[a]? with
  | none => rw [hx] at h; cases h
  | some c =>
    rw [hx] at h
    simp only at h
    obtain ⟨d1, d2⟩ := sY hx
    split at h
    · cases h
    · injection h with h
      injection h with h1 h2
      refine ⟨by omega, by omega, ?_⟩
      rw [d1, ← h1, ← h2, iI]
      have : c = if decide (c.toNat = 1) = true then 1 else 0 := by
        by_cases hc : c.toNat = 1
        · rw [if_pos (by simpa using hc)]; exact UInt8.toNat_inj.1 (by simpa using hc)
        · rw [if_neg (by simpa using hc)]; exact UInt8.toNat_inj.1 (by show c.toNat = 0; omega)
      rw [← this]; rfl
theorem p4 (xs : List UInt8) (b : Bool) : Rt xs 0 (iL xs) iI b := by
  intro a r _ ha h
  have hx := oR (l := r) (c := if b then 1 else 0) h
  unfold iL
  rw [hx]
  cases b <;> rfl
theorem r3 {s : ByteArray} : rG s.data.toList = s := by cases s; rfl
theorem rQ (l : List UInt8) : (rG l).size = l.length := by simp [rG, ByteArray.size]
theorem rW (xs : List UInt8) : zZ xs (kO xs) iU := by
  intro a x a' ha h
  unfold kO at h
  cases hg : lD xs a with
  | error e => rw [hg] at h; cases h
  | ok p =>
    obtain ⟨n, a1⟩ := p
    rw [hg] at h
    injection h with h
    injection h with h1 h2
    obtain ⟨e1, e2, e3, e4⟩ := uD ha hg
    refine ⟨by omega, by omega, ?_⟩
    have hl : ((xs.drop a1).take n).length = n := by simp; omega
    rw [← h1, iU, rQ, hl, e3, List.append_assoc]
    congr 1
    rw [← h2, ← List.drop_drop]
    show _ = (xs.drop a1).take n ++ _
    rw [List.take_append_drop]
theorem tM (xs : List UInt8) {s : ByteArray} (hs : s.size ≤ 9223372036854775807) : Rt xs 0 (kO xs) iU s := by
  intro a r _ ha h
  rw [iU, List.append_assoc] at h
  have hl : s.data.toList.length = s.size := rfl
  unfold kO
  rw [zN ha (by rw [List.length_append, hl]; omega) (by simp only [dO]; omega) h]
  obtain ⟨h1, h2⟩ := oH ha h
  simp only [h2]
  rw [iU, List.length_append, ← Nat.add_assoc, hl, ← hl, List.take_left, r3]
theorem uV {α : Type} {xs : List UInt8} {one : Dc α} {enc : α → List UInt8} (h1 : zZ xs one enc) : ∀ n a l a', a ≤ xs.length → iO one n a = .ok (l, a') → l.length = n ∧ a ≤ a' ∧ a' ≤ xs.length ∧ xs.drop a = l.flatMap enc ++ xs.drop a'
  | 0, a, l, a', ha, h => by
    injection h with h
    injection h with e1 e2
    subst e1 e2
    exact ⟨rfl, Nat.le_refl _, ha, rfl⟩
  | n + 1, a, l, a', ha, h => by
    unfold iO at h
    cases hg : one a with
    | error e => rw [hg] at h; cases h
    | ok p =>
      obtain ⟨x, a1⟩ := p
      rw [hg] at h
      simp only at h
      obtain ⟨g1, g2, g3⟩ := h1 a x a1 ha hg
      cases hr : iO one n a1 with
      | error e => rw [hr] at h; cases h
      | ok q =>
        obtain ⟨l', a2⟩ := q
        rw [hr] at h
        injection h with h
        injection h with e1 e2
        obtain ⟨f1, f2, f3, f4⟩ := uV h1 n a1 l' a2 g2 hr
        subst e1 e2
        refine ⟨by simp [f1], by omega, f3, ?_⟩
        rw [g3, f4, List.flatMap_cons, List.append_assoc]
theorem rT {α : Type} {xs : List UInt8} {one : Dc α} {enc : α → List UInt8} (h1 : zZ xs one enc) : zZ xs (dY xs one) (fun l => dA l.length ++ l.flatMap enc) := by
  intro a l a' ha h
  unfold dY at h
  cases hg : lD xs a with
  | error e => rw [hg] at h; cases h
  | ok p =>
    obtain ⟨n, a1⟩ := p
    rw [hg] at h
    simp only at h
    obtain ⟨e1, e2, e3, e4⟩ := uD ha hg
    obtain ⟨f1, f2, f3, f4⟩ := uV h1 n a1 l a' e2 h
    refine ⟨by omega, f3, ?_⟩
    show _ = (dA l.length ++ l.flatMap enc) ++ _
    rw [e3, f4, f1, List.append_assoc]
theorem wL {α : Type} {xs : List UInt8} {m : Nat} {one : Dc α} {enc : α → List UInt8} : ∀ (l : List α) (a : Nat) (r : List UInt8), (∀ x ∈ l, Rt xs m one enc x) → m ≤ a → a ≤ xs.length → xs.drop a = l.flatMap enc ++ r → iO one l.length a = .ok (l, a + (l.flatMap enc).length)
  | [], a, r, _, hm, ha, h => rfl
  | x :: l, a, r, hx, hm, ha, h => by
    rw [List.flatMap_cons, List.append_assoc] at h
    obtain ⟨h1, h2⟩ := oH ha h
    rw [List.length_cons, iO, hx x List.mem_cons_self a _ hm ha h]
    simp only
    rw [wL l _ r (fun y hy => hx y (List.mem_cons_of_mem _ hy)) aO h1 h2, List.flatMap_cons, List.length_append, Nat.add_assoc]
theorem wQ {α : Type} {enc : α → List UInt8} (hp : ∀ x, 0 < (enc x).length) : ∀ l : List α, l.length ≤ (l.flatMap enc).length
  | [] => Nat.le_refl _
  | x :: l => by
    have := wQ hp l
    have := hp x
    rw [List.flatMap_cons, List.length_append, List.length_cons]; omega
theorem tT {α : Type} {xs : List UInt8} {m : Nat} {one : Dc α} {enc : α → List UInt8} {l : List α} (hl : l.length ≤ 9223372036854775807) (hp : ∀ x, 0 < (enc x).length) (hx : ∀ x ∈ l, Rt xs (m + 1) one enc x) : Rt xs m (dY xs one) (fun l => dA l.length ++ l.flatMap enc) l := by
  intro a r hm ha h
  simp only [List.append_assoc] at h
  have := wQ hp l
  unfold dY
  rw [zN ha (by rw [List.length_append]; omega) (by simp only [dO]; omega) h]
  obtain ⟨h1, h2⟩ := oH ha h
  have h3 := mS (l.length : Int)
  simp only
  rw [wL l _ r hx aO h1 h2, List.length_append, Nat.add_assoc]
theorem mT {α β : Type} {xs : List UInt8} {d : Dc α} {d' : Dc β} {e : α → List UInt8} {e' : β → List UInt8} (h1 : zZ xs d e) (h2 : zZ xs d' e') : zZ xs (cK d d') (fun p => e p.1 ++ e' p.2) := by
  intro a p a' ha h
  unfold cK at h
  cases hg : d a with
  | error e => rw [hg] at h; cases h
  | ok q =>
    obtain ⟨x, a1⟩ := q
    rw [hg] at h
    simp only at h
    obtain ⟨g1, g2, g3⟩ := h1 a x a1 ha hg
    cases hr : d' a1 with
    | error e => rw [hr] at h; cases h
    | ok q =>
      obtain ⟨y, a2⟩ := q
      rw [hr] at h
      injection h with h
      injection h with e1 e2
      obtain ⟨f2, f3, f4⟩ := h2 a1 y a2 g2 hr
      subst e1 e2
      refine ⟨by omega, f3, ?_⟩
      rw [g3, f4, List.append_assoc]
theorem nR {α β : Type} {xs : List UInt8} {m : Nat} {d : Dc α} {d' : Dc β} {e : α → List UInt8} {e' : β → List UInt8} {p : α × β} (h1 : Rt xs m d e p.1) (h2 : Rt xs m d' e' p.2) : Rt xs m (cK d d') (fun p => e p.1 ++ e' p.2) p := by
  intro a r hm ha h
  simp only [List.append_assoc] at h
  unfold cK
  rw [h1 a _ hm ha h]
  obtain ⟨g1, g2⟩ := oH ha h
  simp only
  rw [h2 _ _ aO g1 g2, List.length_append, Nat.add_assoc]
theorem xZ {α β : Type} {xs : List UInt8} {d : Dc α} {f : α → β} {e : α → List UInt8} {e' : β → List UInt8} (h1 : zZ xs d e) (he : ∀ x, e' (f x) = e x) : zZ xs (kE f d) e' := by
  intro a y a' ha h
  unfold kE at h
  cases hg : d a with
  | error e => rw [hg] at h; cases h
  | ok q =>
    obtain ⟨x, a1⟩ := q
    rw [hg] at h
    injection h with h
    injection h with e1 e2
    subst e1 e2
    rw [he]
    exact h1 a x a1 ha hg
theorem j7 {α β : Type} {xs : List UInt8} {m : Nat} {d : Dc α} {f : α → β} {e : α → List UInt8} {e' : β → List UInt8} {x : α} (h1 : Rt xs m d e x) (he : e' (f x) = e x) : Rt xs m (kE f d) e' (f x) := by
  intro a r hm ha h
  rw [he] at h ⊢
  unfold kE
  rw [h1 a r hm ha h]
theorem Rt.from {α : Type} {xs : List UInt8} {m m' : Nat} {d : Dc α} {enc : α → List UInt8} {x : α} (h : Rt xs m d enc x) (hm : m ≤ m') : Rt xs m' d enc x := fun a r ha => h a r aO

/-! ### terms and types -/
theorem Tm.enc_of (p : Int × Int × ByteArray × List Tm) : Tm.enc (Tm.of p) = dA p.1 ++ (dA p.2.1 ++ (iU p.2.2.1 ++ (dA p.2.2.2.length ++ p.2.2.2.flatMap Tm.enc))) := Tm.enc_eq _ _ _ _
theorem Tp.enc_of (p : ByteArray × List Tp) : Tp.enc (Tp.of p) = iU p.1 ++ (dA p.2.length ++ p.2.flatMap Tp.enc) := Tp.enc_eq _ _
theorem zL (xs : List UInt8) : ∀ f, zZ xs (zB xs f) Tm.enc
  | 0 => fun a x a' ha h => by cases h
  | f + 1 => xZ (mT (qO xs) (mT (qO xs) (mT (rW xs) (rT (zL xs f))))) Tm.enc_of
theorem zY (xs : List UInt8) : ∀ f, zZ xs (t7 xs f) Tp.enc
  | 0 => fun a x a' ha h => by cases h
  | f + 1 => xZ (mT (rW xs) (rT (zY xs f))) Tp.enc_of
/-- Numbers and lengths are within bounds, all the way down. -/
inductive Tm.Vd : Tm → Prop
  | mk (k n : Int) (nm : ByteArray) (args : List Tm) (hk : dO k) (hn : dO n) (hnm : nm.size ≤ 9223372036854775807) (hl : args.length ≤ 9223372036854775807) (hx : ∀ x, x ∈ args → Tm.Vd x) : Tm.Vd (.mk k n nm args)
inductive Tp.Vd : Tp → Prop
  | mk (nm : ByteArray) (args : List Tp) (hnm : nm.size ≤ 9223372036854775807) (hl : args.length ≤ 9223372036854775807) (hx : ∀ x, x ∈ args → Tp.Vd x) : Tp.Vd (.mk nm args)
theorem Tm.enc_pos (x : Tm) : 0 < x.enc.length := by
  obtain ⟨k, n, nm, args⟩ := x
  have := mS k
  rw [Tm.enc_eq, List.length_append]; omega
theorem Tp.enc_pos (x : Tp) : 0 < x.enc.length := by
  obtain ⟨nm, args⟩ := x
  have := mS nm.size
  rw [Tp.enc_eq, List.length_append, iU, List.length_append]; omega
theorem tmG_rt (xs : List UInt8) : ∀ (f m : Nat) (x : Tm), xs.length < m + f → x.Vd → Rt xs m (zB xs f) Tm.enc x
  | 0, m, x, hf, hv => fun a r hm ha h => by omega
  | f + 1, m, x, hf, hv => by
    cases hv with
    | mk k n nm args hk hn hnm hl hx =>
      show Rt xs m (kE Tm.of _) Tm.enc (Tm.of (k, n, nm, args))
      exact j7 (nR ((sX xs hk).from (Nat.zero_le _)) (nR ((sX xs hn).from (Nat.zero_le _)) (nR ((tM xs hnm).from (Nat.zero_le _)) (tT hl Tm.enc_pos (fun x hm => tmG_rt xs f (m + 1) x aO (hx x hm)))))) (Tm.enc_of _)
theorem tpG_rt (xs : List UInt8) : ∀ (f m : Nat) (x : Tp), xs.length < m + f → x.Vd → Rt xs m (t7 xs f) Tp.enc x
  | 0, m, x, hf, hv => fun a r hm ha h => by omega
  | f + 1, m, x, hf, hv => by
    cases hv with
    | mk nm args hnm hl hx =>
      show Rt xs m (kE Tp.of _) Tp.enc (Tp.of (nm, args))
      exact j7 (nR ((tM xs hnm).from (Nat.zero_le _)) (tT hl Tp.enc_pos (fun x hm => tpG_rt xs f (m + 1) x aO (hx x hm)))) (Tp.enc_of _)

/-! ### the class -/
class Cod (α : Type) where
  enc : α → List UInt8
  dec : List UInt8 → Dc α
  Vd : α → Prop
  can : ∀ xs, zZ xs (dec xs) enc
  rt : ∀ xs x, Vd x → Rt xs 0 (dec xs) enc x
  pos : ∀ x, 0 < (enc x).length
instance : Cod Int := ⟨dA, fF, dO, qO, fun xs x h => sX xs h, mS⟩
instance : Cod Bool := ⟨iI, iL, fun _ => True, yN, fun xs x _ => p4 xs x, fun _ => by simp [iI]⟩
instance : Cod ByteArray := ⟨iU, kO, fun s => s.size ≤ 9223372036854775807, rW, fun xs x h => tM xs h, fun x => by
  have := mS x.size
  rw [iU, List.length_append]; omega⟩
instance : Cod Tm := ⟨Tm.enc, fun xs => zB xs (xs.length + 1), Tm.Vd, fun xs => zL xs _, fun xs x h => tmG_rt xs _ 0 x aO h, Tm.enc_pos⟩
instance : Cod Tp := ⟨Tp.enc, fun xs => t7 xs (xs.length + 1), Tp.Vd, fun xs => zY xs _, fun xs x h => tpG_rt xs _ 0 x aO h, Tp.enc_pos⟩
instance {α : Type} [h : Cod α] : Cod (List α) := ⟨fun l => dA l.length ++ l.flatMap h.enc, fun xs => dY xs (h.dec xs), fun l => l.length ≤ 9223372036854775807 ∧ ∀ x ∈ l, h.Vd x,
  fun xs => rT (h.can xs), fun xs l hl => tT hl.1 h.pos (fun x hx => (h.rt xs x (hl.2 x hx)).from (Nat.zero_le _)),
  fun l => by
    have := mS l.length
    rw [List.length_append]; omega⟩
instance {α β : Type} [h : Cod α] [h' : Cod β] : Cod (α × β) := ⟨fun p => h.enc p.1 ++ h'.enc p.2, fun xs => cK (h.dec xs) (h'.dec xs), fun p => h.Vd p.1 ∧ h'.Vd p.2,
  fun xs => mT (h.can xs) (h'.can xs), fun xs p hp => nR (h.rt xs p.1 hp.1) (h'.rt xs p.2 hp.2),
  fun p => by
    have := h.pos p.1
    rw [List.length_append]; omega⟩
/-- What lies in cells is within bounds. -/
class CodV (α : Type) [Rep α] [Cod α] : Prop where
  vd : ∀ {s : Sto} {cs : List Value} {x : α}, Rep.rd s cs x → Cod.Vd x
instance : CodV Int := ⟨fun h => h.2⟩
instance : CodV Bool := ⟨fun _ => trivial⟩
instance : CodV ByteArray := ⟨fun h => h.2⟩
theorem TmRd.vd {s : Sto} {cs : List Value} {x : Tm} (h : TmRd s cs x) : x.Vd := by
  induction h with
  | mk k n nm args A c css hk hn hnm hc hA hx ih =>
    exact .mk k n nm args hk hn hnm (Nat.le_trans hc.1 hc.2) (fun x hm => by
      obtain ⟨i, hi⟩ := List.mem_iff_getElem?.1 hm
      exact ih i x hi)
theorem TpRd.vd {s : Sto} {cs : List Value} {x : Tp} (h : TpRd s cs x) : x.Vd := by
  induction h with
  | mk nm args A c css hnm hc hA hx ih =>
    exact .mk nm args hnm (Nat.le_trans hc.1 hc.2) (fun x hm => by
      obtain ⟨i, hi⟩ := List.mem_iff_getElem?.1 hm
      exact ih i x hi)
instance : CodV Tm := ⟨fun h => TmRd.vd h⟩
instance : CodV Tp := ⟨fun h => TpRd.vd h⟩
instance {α : Type} [Rep α] [Cod α] [h : CodV α] : CodV (List α) := ⟨fun {s cs l} hr => by
    obtain ⟨v, rfl, A, c, rfl, hc, hA⟩ := hr
    refine ⟨Nat.le_trans hc.1 hc.2, fun x hx => ?_⟩
    obtain ⟨i, hi⟩ := List.mem_iff_getElem?.1 hx
    obtain ⟨b, o, _, hl⟩ := hA (by have := (List.getElem?_eq_some_iff.1 hi).1; omega)
    obtain ⟨cs, h1, _⟩ := hl i x hi
    exact h.vd h1⟩
instance {α β : Type} [Rep α] [Rep β] [Cod α] [Cod β] [h : CodV α] [h' : CodV β] : CodV (α × β) := ⟨fun {s cs p} hr => by
    obtain ⟨c1, c2, _, h1, h2⟩ := hr
    exact ⟨h.vd h1, h'.vd h2⟩⟩

instance codFr : Cod pU := inferInstance
instance codBr : Cod pP := inferInstance
instance codSc : Cod pR := inferInstance
instance codVa : Cod mU := inferInstance
instance codTr : Cod nJ := inferInstance
instance codTy : Cod sQ := inferInstance
instance codCh : Cod pL := inferInstance
instance codMa : Cod jO := inferInstance
instance covFr : CodV pU := inferInstance
instance covBr : CodV pP := inferInstance
instance covSc : CodV pR := inferInstance
instance covVa : CodV mU := inferInstance
instance covTr : CodV nJ := inferInstance
instance covTy : CodV sQ := inferInstance
instance covCh : CodV pL := inferInstance
instance covMa : CodV jO := inferInstance
/-! ### whole images -/
def iT (xs : List UInt8) : Dc Unit := fun a =>
  if xs.length ≤ 0 then .error xs.length else if xs[0]? ≠ some 109 then .error 0 else
  if xs.length ≤ 1 then .error xs.length else if xs[1]? ≠ some 97 then .error 1 else
  if xs.length ≤ 2 then .error xs.length else if xs[2]? ≠ some 1 then .error 2 else .ok ((), 3)
/-- The state whose bytes these are, or where they are none. -/
def yG (xs : List UInt8) : Except Nat jO := match iT xs 0 with
  | .error e => .error e
  | .ok _ => match Cod.dec (α := jO) xs 3 with
    | .error e => .error e
    | .ok (m, a) => if a < xs.length then .error a else .ok m
def stB (m : jO) : List UInt8 := [109, 97, 1] ++ Cod.enc (α := jO) m
end Go.Proofs.YtggdljhmbckpmaaGreat
