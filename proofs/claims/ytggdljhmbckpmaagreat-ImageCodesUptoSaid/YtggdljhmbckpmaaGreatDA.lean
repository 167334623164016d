/- States of the machine as data: terms, types, products of data; how they lie in cells. States of the machine as bytes: how they are written and read, and that each undoes the other. Plain laws. -/
import Derived.Test.YtggdljhmbckpmaaGreatAM
import Derived.Test.YtggdljhmbckpmaaGreatEA
set_option linter.unusedVariables false
set_option linter.unusedSimpArgs false
namespace Go.Proofs.YtggdljhmbckpmaaGreat
open Go Go.RowKit
attribute [local semireducible] Sl Rd Ls At S

instance : Unp Bool := ⟨Unit, fun b _ => [.bool b], fun _ _ => True, fun _ _ => [], fun h => ⟨(), h, trivial, fun _ h => by cases h⟩, fun _ _ => rfl⟩
instance : Unp ByteArray := ⟨Unit, fun b _ => [.string b], fun b _ => b.size ≤ 9223372036854775807, fun _ _ => [], fun h => ⟨(), h.1, h.2, fun _ h => by cases h⟩, fun h _ => ⟨rfl, h⟩⟩

/-! ### terms and types -/
inductive Tm where
  | mk (kind n : Int) (name : ByteArray) (args : List Tm)
inductive Tp where
  | mk (name : ByteArray) (args : List Tp)

inductive TmRd (s : Sto) : List Value → Tm → Prop where
  | mk (k n : Int) (nm : ByteArray) (args : List Tm) (A : Option Addr) (c : Nat) (css : Nat → List Value)
    (hk : dD k) (hn : dD n) (hnm : nm.size ≤ dY) (hc : args.length ≤ c ∧ c ≤ dY)
    (hA : 0 < args.length → ∃ b o, A = some ⟨b, o, none⟩ ∧ ∀ i x, args[i]? = some x → ∀ j v, (css i)[j]? = some v → s b (o + i * 4 + j) = some v)
    (hx : ∀ i x, args[i]? = some x → TmRd s (css i) x) : TmRd s [.int .i64 k, .int .i64 n, .string nm, .slice A args.length c] (.mk k n nm args)
inductive TpRd (s : Sto) : List Value → Tp → Prop where
  | mk (nm : ByteArray) (args : List Tp) (A : Option Addr) (c : Nat) (css : Nat → List Value)
    (hnm : nm.size ≤ dY) (hc : args.length ≤ c ∧ c ≤ dY)
    (hA : 0 < args.length → ∃ b o, A = some ⟨b, o, none⟩ ∧ ∀ i x, args[i]? = some x → ∀ j v, (css i)[j]? = some v → s b (o + i * 2 + j) = some v)
    (hx : ∀ i x, args[i]? = some x → TpRd s (css i) x) : TpRd s [.string nm, .slice A args.length c] (.mk nm args)
theorem TmRd.mono {s t : Sto} {cs : List Value} {x : Tm} (h : s.le t) (k : TmRd s cs x) : TmRd t cs x := by
  induction k with
  | mk k n nm args A c css hk hn hnm hc hA hx ih =>
    exact .mk k n nm args A c css hk hn hnm hc (fun h0 => by
      obtain ⟨b, o, e, hb⟩ := hA h0
      exact ⟨b, o, e, fun i x hi j v hj => h _ _ _ (hb i x hi j v hj)⟩) ih
theorem TpRd.mono {s t : Sto} {cs : List Value} {x : Tp} (h : s.le t) (k : TpRd s cs x) : TpRd t cs x := by
  induction k with
  | mk nm args A c css hnm hc hA hx ih =>
    exact .mk nm args A c css hnm hc (fun h0 => by
      obtain ⟨b, o, e, hb⟩ := hA h0
      exact ⟨b, o, e, fun i x hi j v hj => h _ _ _ (hb i x hi j v hj)⟩) ih
instance : Rep Tm where
  size := 4
  rd := TmRd
  mono h k := k.mono h
  len h := by cases h; rfl
  one h := by cases h; simp [Value.oneCell']
instance : Rep Tp where
  size := 2
  rd := TpRd
  mono h k := k.mono h
  len h := by cases h; rfl
  one h := by cases h; simp [Value.oneCell']
def Tm.cs (x : Tm) (y : Option Addr × Nat) : List Value := match x with | .mk k n nm args => [.int .i64 k, .int .i64 n, .string nm, .slice y.1 args.length y.2]
def Tp.cs (x : Tp) (y : Option Addr × Nat) : List Value := match x with | .mk nm args => [.string nm, .slice y.1 args.length y.2]
def Tm.fs (x : Tm) (y : Option Addr × Nat) : List MP := match x with | .mk k n nm args => [Sl (.slice y.1 args.length y.2) args]
def Tp.fs (x : Tp) (y : Option Addr × Nat) : List MP := match x with | .mk nm args => [Sl (.slice y.1 args.length y.2) args]
def Tm.fit : Tm → Prop | .mk k n nm args => dD k ∧ dD n ∧ nm.size ≤ 9223372036854775807 ∧ args.length ≤ 9223372036854775807
def Tp.fit : Tp → Prop | .mk nm args => nm.size ≤ 9223372036854775807 ∧ args.length ≤ 9223372036854775807
instance : Unp Tm := ⟨Option Addr × Nat, Tm.cs, fun x _ => x.fit, Tm.fs,
  fun {s cs' x} h => by
    cases h with
    | mk k n nm args A c css hk hn hnm hc hA hx =>
      refine ⟨(A, c), rfl, ⟨hk, hn, hnm, Nat.le_trans hc.1 hc.2⟩, fun p hp => ?_⟩
      obtain rfl : p = Sl (.slice A args.length c) args := by simpa [Tm.fs] using hp
      exact ⟨A, c, rfl, hc, fun h0 => by
        obtain ⟨b, o, e, hb⟩ := hA h0
        exact ⟨b, o, e, fun i x hi => ⟨css i, hx i x hi, hb i x hi⟩⟩⟩,
  fun {s x y} h h' => by
    obtain ⟨k, n, nm, args⟩ := x
    obtain ⟨h1, h2, h3, h4⟩ := h
    obtain ⟨A, c, e, hc, hA⟩ := h' (Sl (.slice y.1 args.length y.2) args) (by simp [Tm.fs])
    injection e with e1 _ e3
    have hex : ∃ css : Nat → List Value, (∀ i x, args[i]? = some x → TmRd s (css i) x) ∧ (0 < args.length → ∃ b o, A = some ⟨b, o, none⟩ ∧ ∀ i x, args[i]? = some x → ∀ j v, (css i)[j]? = some v → s b (o + i * 4 + j) = some v) := by
      rcases Nat.eq_zero_or_pos args.length with h0 | h0
      · exact ⟨fun _ => [], fun i x hi => by have := (List.getElem?_eq_some_iff.1 hi).1; omega, fun h => by omega⟩
      · obtain ⟨b, o, eA, hl⟩ := hA h0
        have hch : ∀ i, ∃ cs : List Value, ∀ x, args[i]? = some x → TmRd s cs x ∧ ∀ j v, cs[j]? = some v → s b (o + i * 4 + j) = some v := fun i => by
          cases hi : args[i]? with
          | none => exact ⟨[], fun x hx => by cases hx⟩
          | some x =>
            obtain ⟨cs, g1, g2⟩ := hl i x hi
            exact ⟨cs, fun x' hx' => by cases hx'; exact ⟨g1, g2⟩⟩
        exact ⟨fun i => Classical.choose (hch i), fun i x hi => (Classical.choose_spec (hch i) x hi).1, fun _ => ⟨b, o, eA, fun i x hi => (Classical.choose_spec (hch i) x hi).2⟩⟩
    obtain ⟨css, g1, g2⟩ := hex
    show TmRd s [.int .i64 k, .int .i64 n, .string nm, .slice y.1 args.length y.2] _
    rw [e1, e3]
    exact .mk k n nm args A c css h1 h2 h3 hc g2 g1⟩
instance : Unp Tp := ⟨Option Addr × Nat, Tp.cs, fun x _ => x.fit, Tp.fs,
  fun {s cs' x} h => by
    cases h with
    | mk nm args A c css hnm hc hA hx =>
      refine ⟨(A, c), rfl, ⟨hnm, Nat.le_trans hc.1 hc.2⟩, fun p hp => ?_⟩
      obtain rfl : p = Sl (.slice A args.length c) args := by simpa [Tp.fs] using hp
      exact ⟨A, c, rfl, hc, fun h0 => by
        obtain ⟨b, o, e, hb⟩ := hA h0
        exact ⟨b, o, e, fun i x hi => ⟨css i, hx i x hi, hb i x hi⟩⟩⟩,
  fun {s x y} h h' => by
    obtain ⟨nm, args⟩ := x
    obtain ⟨h3, h4⟩ := h
    obtain ⟨A, c, e, hc, hA⟩ := h' (Sl (.slice y.1 args.length y.2) args) (by simp [Tp.fs])
    injection e with e1 _ e3
    have hex : ∃ css : Nat → List Value, (∀ i x, args[i]? = some x → TpRd s (css i) x) ∧ (0 < args.length → ∃ b o, A = some ⟨b, o, none⟩ ∧ ∀ i x, args[i]? = some x → ∀ j v, (css i)[j]? = some v → s b (o + i * 2 + j) = some v) := by
      rcases Nat.eq_zero_or_pos args.length with h0 | h0
      · exact ⟨fun _ => [], fun i x hi => by have := (List.getElem?_eq_some_iff.1 hi).1; omega, fun h => by omega⟩
      · obtain ⟨b, o, eA, hl⟩ := hA h0
        have hch : ∀ i, ∃ cs : List Value, ∀ x, args[i]? = some x → TpRd s cs x ∧ ∀ j v, cs[j]? = some v → s b (o + i * 2 + j) = some v := fun i => by
          cases hi : args[i]? with
          | none => exact ⟨[], fun x hx => by cases hx⟩
          | some x =>
            obtain ⟨cs, g1, g2⟩ := hl i x hi
            exact ⟨cs, fun x' hx' => by cases hx'; exact ⟨g1, g2⟩⟩
        exact ⟨fun i => Classical.choose (hch i), fun i x hi => (Classical.choose_spec (hch i) x hi).1, fun _ => ⟨b, o, eA, fun i x hi => (Classical.choose_spec (hch i) x hi).2⟩⟩
    obtain ⟨css, g1, g2⟩ := hex
    show TpRd s [.string nm, .slice y.1 args.length y.2] _
    rw [e1, e3]
    exact .mk nm args A c css h3 hc g2 g1⟩

/-! ### products -/
instance {α β : Type} [Rep α] [Rep β] : Rep (α × β) where
  size := Rep.size α + Rep.size β
  rd s cs p := ∃ c1 c2, cs = c1 ++ c2 ∧ Rep.rd s c1 p.1 ∧ Rep.rd s c2 p.2
  mono h k := by obtain ⟨c1, c2, e, k1, k2⟩ := k; exact ⟨c1, c2, e, Rep.mono h k1, Rep.mono h k2⟩
  len k := by obtain ⟨c1, c2, rfl, k1, k2⟩ := k; rw [List.length_append, Rep.len k1, Rep.len k2]
  one k := by
    obtain ⟨c1, c2, rfl, k1, k2⟩ := k
    intro c hc
    rcases List.mem_append.1 hc with h | h
    · exact Rep.one k1 c h
    · exact Rep.one k2 c h
instance {α β : Type} [Rep α] [Rep β] [Unp α] [Unp β] : Unp (α × β) := ⟨Unp.Y α × Unp.Y β, fun x y => Unp.cs x.1 y.1 ++ Unp.cs x.2 y.2, fun x y => Unp.ok x.1 y.1 ∧ Unp.ok x.2 y.2, fun x y => Unp.fs x.1 y.1 ++ Unp.fs x.2 y.2,
  fun {s cs' x} h => by
    obtain ⟨c1, c2, rfl, h1, h2⟩ := h
    obtain ⟨y1, rfl, o1, f1⟩ := Unp.un h1
    obtain ⟨y2, rfl, o2, f2⟩ := Unp.un h2
    exact ⟨(y1, y2), rfl, ⟨o1, o2⟩, fun p hp => (List.mem_append.1 hp).elim (f1 p) (f2 p)⟩,
  fun {s x y} h h' => ⟨_, _, rfl, Unp.re h.1 (fun p hp => h' p (List.mem_append_left _ hp)), Unp.re h.2 (fun p hp => h' p (List.mem_append_right _ hp))⟩⟩
/-- The cells are as many as the size, each of one cell. -/
class UnpL (α : Type) [Rep α] [Unp α] : Prop where
  len : ∀ (x : α) (y : Unp.Y α), (Unp.cs x y).length = Rep.size α
  one : ∀ (x : α) (y : Unp.Y α), ∀ u ∈ Unp.cs x y, u.oneCell' = true
instance : UnpL Int := ⟨fun _ _ => rfl, fun x y u hu => by obtain rfl := List.mem_singleton.1 hu; rfl⟩
instance : UnpL Bool := ⟨fun _ _ => rfl, fun x y u hu => by obtain rfl := List.mem_singleton.1 hu; rfl⟩
instance : UnpL ByteArray := ⟨fun _ _ => rfl, fun x y u hu => by obtain rfl := List.mem_singleton.1 hu; rfl⟩
instance {α : Type} [Rep α] : UnpL (List α) := ⟨fun _ _ => rfl, fun x y u hu => by obtain rfl := List.mem_singleton.1 hu; rfl⟩
instance : UnpL Tm := ⟨fun x _ => by cases x; rfl, fun x y u hu => by
  obtain ⟨k, n, nm, args⟩ := x
  have : u ∈ [Value.int .i64 k, .int .i64 n, .string nm, .slice y.1 args.length y.2] := hu
  simp only [List.mem_cons, List.not_mem_nil, or_false] at this
  rcases this with rfl | rfl | rfl | rfl <;> rfl⟩
instance : UnpL Tp := ⟨fun x _ => by cases x; rfl, fun x y u hu => by
  obtain ⟨nm, args⟩ := x
  have : u ∈ [Value.string nm, .slice y.1 args.length y.2] := hu
  simp only [List.mem_cons, List.not_mem_nil, or_false] at this
  rcases this with rfl | rfl <;> rfl⟩
instance {α β : Type} [Rep α] [Rep β] [Unp α] [Unp β] [h1 : UnpL α] [h2 : UnpL β] : UnpL (α × β) := ⟨fun x y => by
    show (Unp.cs x.1 y.1 ++ Unp.cs x.2 y.2).length = Rep.size α + Rep.size β
    rw [List.length_append, h1.len, h2.len], fun x y u hu => (List.mem_append.1 hu).elim (h1.one x.1 y.1 u) (h2.one x.2 y.2 u)⟩

abbrev oK := List Tm × List Tm × Int × Int × Int
abbrev oI := Int × Int × List Int × Bool × List Int × Bool × Int
abbrev FaD := ByteArray × List Tm
abbrev nZ := Int × Int × Int × Int × List Tm × FaD
abbrev kZ := Int × Tp × Bool × Tm
abbrev lU := Int × kZ
abbrev qS := Int × Int × Int
abbrev nT := Int × List qS × List Tm × Int × Int × Int × Int × Int × Int × Int × Bool × List Int × List Int × Int × Int × Int × Int × Int
abbrev jT := Int × Int × Int × Int × Int × Int × Bool × List Int × List Int × List oK × List oI × List nZ × List kZ × List lU × List nT × Int
instance repFr : Rep oK := inferInstance
instance unpFr : Unp oK := inferInstance
instance unlFr : UnpL oK := inferInstance
instance repBr : Rep oI := inferInstance
instance unpBr : Unp oI := inferInstance
instance unlBr : UnpL oI := inferInstance
instance repSc : Rep nZ := inferInstance
instance unpSc : Unp nZ := inferInstance
instance unlSc : UnpL nZ := inferInstance
instance repVa : Rep kZ := inferInstance
instance unpVa : Unp kZ := inferInstance
instance unlVa : UnpL kZ := inferInstance
instance repTr : Rep lU := inferInstance
instance unpTr : Unp lU := inferInstance
instance unlTr : UnpL lU := inferInstance
instance repTy : Rep qS := inferInstance
instance unpTy : Unp qS := inferInstance
instance unlTy : UnpL qS := inferInstance
instance repCh : Rep nT := inferInstance
instance unpCh : Unp nT := inferInstance
instance unlCh : UnpL nT := inferInstance
instance repMa : Rep jT := inferInstance
instance unpMa : Unp jT := inferInstance
instance unlMa : UnpL jT := inferInstance
end Go.Proofs.YtggdljhmbckpmaaGreat
namespace Go.Proofs.YtggdljhmbckpmaaGreat
open Go Go.RowKit
attribute [local semireducible] Sl Rd Ls At S

/-! ### reading -/
abbrev Dc (α : Type) := Nat → Except Nat (α × Nat)
def gU (xs : List UInt8) : Nat → Nat → Nat → Dc Nat
  | 0, i, u, a => match xs[a]? with
    | none => .error xs.length
    | some c => if 1 < c.toNat ∨ (0 < i ∧ c.toNat = 0) then .error a else .ok (u + c.toNat * 128 ^ i, a + 1)
  | m + 1, i, u, a => match xs[a]? with
    | none => .error xs.length
    | some c => if 0 < i ∧ c.toNat = 0 then .error a else if c.toNat < 128 then .ok (u + c.toNat * 128 ^ i, a + 1) else gU xs m (i + 1) (u + (c.toNat - 128) * 128 ^ i) (a + 1)
def kM (u : Nat) : Int := if u % 2 = 1 then -((u / 2 : Nat) : Int) - 1 else ((u / 2 : Nat) : Int)
def eH (xs : List UInt8) : Dc Int := fun a => match gU xs 9 0 0 a with
  | .error e => .error e
  | .ok (u, a') => .ok (kM u, a')
def jU (xs : List UInt8) : Dc Nat := fun a => match eH xs a with
  | .error e => .error e
  | .ok (n, a') => if n < 0 ∨ ((xs.length - a' : Nat) : Int) < n then .error (a' - 1) else .ok (n.toNat, a')
def gM (xs : List UInt8) : Dc Bool := fun a => match xs[a]? with
  | none => .error xs.length
  | some c => if 1 < c.toNat then .error a else .ok (decide (c.toNat = 1), a + 1)
def jI (xs : List UInt8) : Dc ByteArray := fun a => match jU xs a with
  | .error e => .error e
  | .ok (n, a') => .ok (oN ((xs.drop a').take n), a' + n)
def gO {α : Type} (one : Dc α) : Nat → Dc (List α)
  | 0, a => .ok ([], a)
  | n + 1, a => match one a with
    | .error e => .error e
    | .ok (x, a1) => match gO one n a1 with
      | .error e => .error e
      | .ok (l, a2) => .ok (x :: l, a2)
def dK {α : Type} (xs : List UInt8) (one : Dc α) : Dc (List α) := fun a => match jU xs a with
  | .error e => .error e
  | .ok (n, a') => gO one n a'
def bW {α β : Type} (d : Dc α) (d' : Dc β) : Dc (α × β) := fun a => match d a with
  | .error e => .error e
  | .ok (x, a1) => match d' a1 with
    | .error e => .error e
    | .ok (y, a2) => .ok ((x, y), a2)
def iV {α β : Type} (f : α → β) (d : Dc α) : Dc β := fun a => match d a with
  | .error e => .error e
  | .ok (x, a1) => .ok (f x, a1)
def Tm.of (p : Int × Int × ByteArray × List Tm) : Tm := .mk p.1 p.2.1 p.2.2.1 p.2.2.2
def Tp.of (p : ByteArray × List Tp) : Tp := .mk p.1 p.2
def wM (xs : List UInt8) : Nat → Dc Tm
  | 0, a => .error 0
  | f + 1, a => iV Tm.of (bW (eH xs) (bW (eH xs) (bW (jI xs) (dK xs (wM xs f))))) a
def yE (xs : List UInt8) : Nat → Dc Tp
  | 0, a => .error 0
  | f + 1, a => iV Tp.of (bW (jI xs) (dK xs (yE xs f))) a

/-! ### writing -/
def gY (s : ByteArray) : List UInt8 := cL s.size ++ s.data.toList
def Tm.enc : Tm → List UInt8
  | .mk k n nm args => cL k ++ (cL n ++ (gY nm ++ (cL args.length ++ args.flatMap Tm.enc)))
def Tp.enc : Tp → List UInt8
  | .mk nm args => gY nm ++ (cL args.length ++ args.flatMap Tp.enc)
theorem Tm.enc_eq (k n : Int) (nm : ByteArray) (args : List Tm) : Tm.enc (.mk k n nm args) = cL k ++ (cL n ++ (gY nm ++ (cL args.length ++ args.flatMap Tm.enc))) := by
  rw [Tm.enc]
theorem Tp.enc_eq (nm : ByteArray) (args : List Tp) : Tp.enc (.mk nm args) = gY nm ++ (cL args.length ++ args.flatMap Tp.enc) := by
  rw [Tp.enc]

/-! ### the laws of a reader and a writer -/
/-- What is read was written so. -/
def wY {α : Type} (xs : List UInt8) (d : Dc α) (enc : α → List UInt8) : Prop := ∀ a x a', a ≤ xs.length → d a = .ok (x, a') → a ≤ a' ∧ a' ≤ xs.length ∧ xs.drop a = enc x ++ xs.drop a'
/-- What was written is read, from m on. -/
def Rt {α : Type} (xs : List UInt8) (m : Nat) (d : Dc α) (enc : α → List UInt8) (x : α) : Prop := ∀ a r, m ≤ a → a ≤ xs.length → xs.drop a = enc x ++ r → d a = .ok (x, a + (enc x).length)

theorem mQ {xs e r : List UInt8} {a : Nat} (ha : a ≤ xs.length) (h : xs.drop a = e ++ r) : a + e.length ≤ xs.length ∧ xs.drop (a + e.length) = r := by
  have h1 := congrArg List.length h
  simp only [List.length_drop, List.length_append] at h1
  refine ⟨by omega, ?_⟩
  rw [← List.drop_drop, h, List.drop_left]
theorem qW {xs : List UInt8} {a : Nat} {c : UInt8} (h : xs[a]? = some c) : xs.drop a = c :: xs.drop (a + 1) ∧ a + 1 ≤ xs.length := by
  obtain ⟨h1, h2⟩ := List.getElem?_eq_some_iff.1 h
  exact ⟨by rw [List.drop_eq_getElem_cons h1, h2], h1⟩
theorem nD {xs l : List UInt8} {a : Nat} {c : UInt8} (h : xs.drop a = c :: l) : xs[a]? = some c := by
  have := congrArg (fun l => l[0]?) h
  simpa using this

/-! ### numbers -/
theorem rJ (xs : List UInt8) : ∀ m i u a v a', i + m = 9 → gU xs m i u a = .ok (v, a') → ∃ w, v = u + w * 128 ^ i ∧ a ≤ a' ∧ a' ≤ xs.length ∧ xs.drop a = mB m w ++ xs.drop a' ∧ w < 2 * 128 ^ m ∧ (0 < i → 0 < w)
  | 0, i, u, a, v, a', hi, h => by
    unfold gU at h
    cases hx : xs[a]? with
    | none => rw [hx] at h; cases h
    | some c =>
      rw [hx] at h
      simp only at h
      split at h
      · cases h
      · rename_i hn
        injection h with h
        injection h with h1 h2
        obtain ⟨d1, d2⟩ := qW hx
        refine ⟨c.toNat, h1.symm, by omega, by omega, ?_, by omega, fun hi => ?_⟩
        · rw [d1, ← h2, mB, UInt8.ofNat_toNat]; rfl
        · rcases Nat.eq_zero_or_pos c.toNat with h0 | h0
          · exact absurd (.inr ⟨hi, h0⟩) hn
          · exact h0
  | m + 1, i, u, a, v, a', hi, h => by
    unfold gU at h
    cases hx : xs[a]? with
    | none => rw [hx] at h; cases h
    | some c =>
      rw [hx] at h
      simp only at h
      obtain ⟨d1, d2⟩ := qW hx
      have hc := c.toNat_lt
      split at h
      · cases h
      · rename_i hn
        split at h
        · rename_i hlt
          injection h with h
          injection h with h1 h2
          refine ⟨c.toNat, h1.symm, by omega, by omega, ?_, ?_, fun hi => ?_⟩
          · rw [d1, ← h2, mB, if_neg (by omega), UInt8.ofNat_toNat]; rfl
          · have : 1 ≤ 128 ^ m := Nat.one_le_pow _ _ (by decide)
            rw [Nat.pow_succ]; omega
          · rcases Nat.eq_zero_or_pos c.toNat with h0 | h0
            · exact absurd ⟨hi, h0⟩ hn
            · exact h0
        · rename_i hge
          obtain ⟨w, e1, e2, e3, e4, e5, e6⟩ := rJ xs m (i + 1) _ _ v a' (by omega) h
          have hw := e6 (by omega)
          refine ⟨(c.toNat - 128) + 128 * w, ?_, by omega, e3, ?_, ?_, fun _ => by omega⟩
          · rw [e1, Nat.pow_succ, Nat.add_mul]
            have : w * (128 ^ i * 128) = 128 * w * 128 ^ i := by rw [Nat.mul_comm (128 ^ i), ← Nat.mul_assoc, Nat.mul_comm w]
            omega
          · have q1 : (c.toNat - 128 + 128 * w) / 128 = w := by omega
            have q2 : ((c.toNat - 128 + 128 * w) % 256 ||| 128) = c.toNat := by
              have g1 : (c.toNat - 128 + 128 * w) % 256 ||| 128 = (c.toNat - 128) ||| 128 := by
                rcases Nat.mod_two_eq_zero_or_one w with hw2 | hw2
                · rw [show (c.toNat - 128 + 128 * w) % 256 = c.toNat - 128 by omega]
                · rw [show (c.toNat - 128 + 128 * w) % 256 = (c.toNat - 128) + 128 by omega]
                  have : c.toNat - 128 + 128 = 2 ^ 7 * 1 + (c.toNat - 128) := by omega
                  rw [this, Nat.two_pow_add_eq_or_of_lt (by omega)]
                  show (2 ^ 7 * 1 ||| (c.toNat - 128)) ||| 128 = _
                  rw [Nat.or_comm (2 ^ 7 * 1), Nat.or_assoc]; rfl
              rw [g1]
              have := Nat.two_pow_add_eq_or_of_lt (i := 7) (b := c.toNat - 128) (by omega) 1
              rw [Nat.or_comm]
              show 2 ^ 7 * 1 ||| (c.toNat - 128) = _
              rw [← this]; omega
            rw [mB, if_pos (by omega), q1, q2, UInt8.ofNat_toNat, d1, e4]; rfl
          · rw [Nat.pow_succ]; omega
theorem xS (xs : List UInt8) : ∀ m i u a w r, i + m = 9 → w < 2 * 128 ^ m → (0 < i → 0 < w) → a ≤ xs.length → xs.drop a = mB m w ++ r → gU xs m i u a = .ok (u + w * 128 ^ i, a + (mB m w).length)
  | 0, i, u, a, w, r, hi, hw, h0, ha, h => by
    have e : mB 0 w = [UInt8.ofNat w] := rfl
    rw [e] at h ⊢
    have hx := nD h
    unfold gU
    rw [hx]
    simp only
    have ew : (UInt8.ofNat w).toNat = w := by rw [UInt8.toNat_ofNat']; omega
    rw [ew, if_neg (by omega)]; rfl
  | m + 1, i, u, a, w, r, hi, hw, h0, ha, h => by
    by_cases hge : 128 ≤ w
    · have e : mB (m + 1) w = UInt8.ofNat (w % 256 ||| 128) :: mB m (w / 128) := by rw [mB, if_pos hge]
      rw [e] at h ⊢
      have hx := nD h
      have hd := qW hx
      unfold gU
      rw [hx]
      simp only
      have ew : (UInt8.ofNat (w % 256 ||| 128)).toNat = w % 128 + 128 := by
        have g : w % 256 ||| 128 = w % 128 + 128 := by
          have := Nat.two_pow_add_eq_or_of_lt (i := 7) (b := w % 128) (by omega) 1
          rcases (show w % 256 = w % 128 ∨ w % 256 = w % 128 + 128 by omega) with q | q
          · rw [q, Nat.or_comm]
            show 2 ^ 7 * 1 ||| w % 128 = _
            rw [← this]; omega
          · rw [q, show w % 128 + 128 = 2 ^ 7 * 1 + w % 128 by omega, this, Nat.or_comm (2 ^ 7 * 1), Nat.or_assoc]
            rfl
        rw [UInt8.toNat_ofNat', g]; omega
      rw [ew, if_neg (by omega), if_neg (by omega)]
      have hr : xs.drop (a + 1) = mB m (w / 128) ++ r := by
        have := hd.1
        rw [h] at this
        simpa using this.symm
      rw [xS xs m (i + 1) _ (a + 1) (w / 128) r (by omega) (by rw [Nat.pow_succ] at hw; omega) (fun _ => by omega) hd.2 hr]
      have e1 : u + (w % 128 + 128 - 128) * 128 ^ i + w / 128 * 128 ^ (i + 1) = u + w * 128 ^ i := by
        have g : w / 128 * 128 ^ (i + 1) = 128 * (w / 128) * 128 ^ i := by rw [Nat.pow_succ, Nat.mul_comm (128 ^ i), ← Nat.mul_assoc, Nat.mul_comm (w / 128)]
        rw [g, Nat.add_assoc, ← Nat.add_mul, show w % 128 + 128 - 128 + 128 * (w / 128) = w by omega]
      rw [e1, List.length_cons]
      congr 2
      omega
    · have e : mB (m + 1) w = [UInt8.ofNat w] := by rw [mB, if_neg hge]
      rw [e] at h ⊢
      have hx := nD h
      unfold gU
      rw [hx]
      simp only
      have ew : (UInt8.ofNat w).toNat = w := by rw [UInt8.toNat_ofNat']; omega
      rw [ew, if_neg (by omega), if_pos (by omega)]; rfl
theorem yY (u : Nat) : rY (kM u) = u := by
  unfold rY kM
  split <;> split <;> omega
theorem yP (n : Int) : kM (rY n) = n := by
  unfold rY kM
  split <;> split <;> omega
theorem oR {u : Nat} (h : u < 18446744073709551616) : dD (kM u) := by
  unfold kM dD
  split <;> omega
theorem pN (xs : List UInt8) : wY xs (eH xs) cL := by
  intro a x a' ha h
  unfold eH at h
  cases hg : gU xs 9 0 0 a with
  | error e => rw [hg] at h; cases h
  | ok p =>
    obtain ⟨u, a1⟩ := p
    rw [hg] at h
    injection h with h
    injection h with h1 h2
    obtain ⟨w, e1, e2, e3, e4, e5, e6⟩ := rJ xs 9 0 0 a u a1 rfl hg
    subst h2
    refine ⟨e2, e3, ?_⟩
    have : u = w := by simpa using e1
    subst this
    rw [← h1, cL, yY]; exact e4
theorem eD {xs : List UInt8} {a a' : Nat} {n : Int} (h : eH xs a = .ok (n, a')) : dD n ∧ a + 1 ≤ a' := by
  unfold eH at h
  cases hg : gU xs 9 0 0 a with
  | error e => rw [hg] at h; cases h
  | ok p =>
    obtain ⟨u, a1⟩ := p
    rw [hg] at h
    injection h with h
    injection h with h1 h2
    obtain ⟨w, e1, e2, e3, e4, e5, e6⟩ := rJ xs 9 0 0 a u a1 rfl hg
    have : u = w := by simpa using e1
    subst this
    subst h1 h2
    refine ⟨oR (by simpa using e5), ?_⟩
    have hl := qX 9 u
    have := congrArg List.length e4
    simp only [List.length_drop, List.length_append] at this
    omega
theorem rA (xs : List UInt8) {n : Int} (hn : dD n) : Rt xs 0 (eH xs) cL n := by
  intro a r _ ha h
  have := xS xs 9 0 0 a (rY n) r rfl (wC hn) (fun h => absurd h (by decide)) ha h
  unfold eH
  rw [this]
  simp only [Nat.zero_add, Nat.pow_zero, Nat.mul_one, yP]
  rfl
theorem kR (n : Int) : 0 < (cL n).length := qX _ _

theorem rW {xs : List UInt8} {a n a' : Nat} (ha : a ≤ xs.length) (h : jU xs a = .ok (n, a')) : a + 1 ≤ a' ∧ a' ≤ xs.length ∧ xs.drop a = cL (n : Int) ++ xs.drop a' ∧ n + a' ≤ xs.length := by
  unfold jU at h
  cases hg : eH xs a with
  | error e => rw [hg] at h; cases h
  | ok p =>
    obtain ⟨k, a1⟩ := p
    rw [hg] at h
    simp only at h
    split at h
    · cases h
    · injection h with h
      injection h with h1 h2
      subst h2
      obtain ⟨e1, e2, e3⟩ := pN xs a k a1 ha hg
      have e4 := (eD hg).2
      refine ⟨e4, e2, ?_, by omega⟩
      rw [e3, ← h1, Int.toNat_of_nonneg (by omega)]
theorem xT {xs : List UInt8} {a n : Nat} {r : List UInt8} (ha : a ≤ xs.length) (hn : n ≤ r.length) (hI : dD (n : Int)) (h : xs.drop a = cL (n : Int) ++ r) : jU xs a = .ok (n, a + (cL (n : Int)).length) := by
  unfold jU
  rw [rA xs hI a r (Nat.zero_le _) ha h]
  simp only
  obtain ⟨h1, h2⟩ := mQ ha h
  have := congrArg List.length h2
  simp only [List.length_drop] at this
  rw [if_neg (by omega), Int.toNat_natCast]

/-! ### truths, texts, lists -/
theorem wP (xs : List UInt8) : wY xs (gM xs) gN := by
  intro a x a' ha h
  unfold gM at h
  cases hx : xs[a]? with
  | none => rw [hx] at h; cases h
  | some c =>
    rw [hx] at h
    simp only at h
    obtain ⟨d1, d2⟩ := qW hx
    split at h
    · cases h
    · injection h with h
      injection h with h1 h2
      refine ⟨by omega, by omega, ?_⟩
      rw [d1, ← h1, ← h2, gN]
      have : c = if decide (c.toNat = 1) = true then 1 else 0 := by
        by_cases hc : c.toNat = 1
        · rw [if_pos (by simpa using hc)]; exact UInt8.toNat_inj.1 (by simpa using hc)
        · rw [if_neg (by simpa using hc)]; exact UInt8.toNat_inj.1 (by show c.toNat = 0; omega)
      rw [← this]; rfl
theorem yM (xs : List UInt8) (b : Bool) : Rt xs 0 (gM xs) gN b := by
  intro a r _ ha h
  have hx := nD (l := r) (c := if b then 1 else 0) h
  unfold gM
  rw [hx]
  cases b <;> rfl
theorem yK {s : ByteArray} : oN s.data.toList = s := by cases s; rfl
theorem pS (l : List UInt8) : (oN l).size = l.length := by simp [oN, ByteArray.size]
theorem pT (xs : List UInt8) : wY xs (jI xs) gY := by
  intro a x a' ha h
  unfold jI at h
  cases hg : jU xs a with
  | error e => rw [hg] at h; cases h
  | ok p =>
    obtain ⟨n, a1⟩ := p
    rw [hg] at h
    injection h with h
    injection h with h1 h2
    obtain ⟨e1, e2, e3, e4⟩ := rW ha hg
    refine ⟨by omega, by omega, ?_⟩
    have hl : ((xs.drop a1).take n).length = n := by simp; omega
    rw [← h1, gY, pS, hl, e3, List.append_assoc]
    congr 1
    rw [← h2, ← List.drop_drop]
    show _ = (xs.drop a1).take n ++ _
    rw [List.take_append_drop]
theorem rN (xs : List UInt8) {s : ByteArray} (hs : s.size ≤ 9223372036854775807) : Rt xs 0 (jI xs) gY s := by
  intro a r _ ha h
  rw [gY, List.append_assoc] at h
  have hl : s.data.toList.length = s.size := rfl
  unfold jI
  rw [xT ha (by rw [List.length_append, hl]; omega) (by simp only [dD]; omega) h]
  obtain ⟨h1, h2⟩ := mQ ha h
  simp only [h2]
  rw [gY, List.length_append, ← Nat.add_assoc, hl, ← hl, List.take_left, yK]
theorem sK {α : Type} {xs : List UInt8} {one : Dc α} {enc : α → List UInt8} (h1 : wY xs one enc) : ∀ n a l a', a ≤ xs.length → gO one n a = .ok (l, a') → l.length = n ∧ a ≤ a' ∧ a' ≤ xs.length ∧ xs.drop a = l.flatMap enc ++ xs.drop a'
  | 0, a, l, a', ha, h => by
    injection h with h
    injection h with e1 e2
    subst e1 e2
    exact ⟨rfl, Nat.le_refl _, ha, rfl⟩
  | n + 1, a, l, a', ha, h => by
    unfold gO at h
    cases hg : one a with
    | error e => rw [hg] at h; cases h
    | ok p =>
      obtain ⟨x, a1⟩ := p
      rw [hg] at h
      simp only at h
      obtain ⟨g1, g2, g3⟩ := h1 a x a1 ha hg
      cases hr : gO one n a1 with
      | error e => rw [hr] at h; cases h
      | ok q =>
        obtain ⟨l', a2⟩ := q
        rw [hr] at h
        injection h with h
        injection h with e1 e2
        obtain ⟨f1, f2, f3, f4⟩ := sK h1 n a1 l' a2 g2 hr
        subst e1 e2
        refine ⟨by simp [f1], by omega, f3, ?_⟩
        rw [g3, f4, List.flatMap_cons, List.append_assoc]
theorem pU {α : Type} {xs : List UInt8} {one : Dc α} {enc : α → List UInt8} (h1 : wY xs one enc) : wY xs (dK xs one) (fun l => cL l.length ++ l.flatMap enc) := by
  intro a l a' ha h
  unfold dK at h
  cases hg : jU xs a with
  | error e => rw [hg] at h; cases h
  | ok p =>
    obtain ⟨n, a1⟩ := p
    rw [hg] at h
    simp only at h
    obtain ⟨e1, e2, e3, e4⟩ := rW ha hg
    obtain ⟨f1, f2, f3, f4⟩ := sK h1 n a1 l a' e2 h
    refine ⟨by omega, f3, ?_⟩
    show _ = (cL l.length ++ l.flatMap enc) ++ _
    rw [e3, f4, f1, List.append_assoc]
theorem uP {α : Type} {xs : List UInt8} {m : Nat} {one : Dc α} {enc : α → List UInt8} : ∀ (l : List α) (a : Nat) (r : List UInt8), (∀ x ∈ l, Rt xs m one enc x) → m ≤ a → a ≤ xs.length → xs.drop a = l.flatMap enc ++ r → gO one l.length a = .ok (l, a + (l.flatMap enc).length)
  | [], a, r, _, hm, ha, h => rfl
  | x :: l, a, r, hx, hm, ha, h => by
    rw [List.flatMap_cons, List.append_assoc] at h
    obtain ⟨h1, h2⟩ := mQ ha h
    rw [List.length_cons, gO, hx x List.mem_cons_self a _ hm ha h]
    simp only
    rw [uP l _ r (fun y hy => hx y (List.mem_cons_of_mem _ hy)) (by omega) h1 h2, List.flatMap_cons, List.length_append, Nat.add_assoc]
theorem uF {α : Type} {enc : α → List UInt8} (hp : ∀ x, 0 < (enc x).length) : ∀ l : List α, l.length ≤ (l.flatMap enc).length
  | [] => Nat.le_refl _
  | x :: l => by
    have := uF hp l
    have := hp x
    rw [List.flatMap_cons, List.length_append, List.length_cons]; omega
theorem rS {α : Type} {xs : List UInt8} {m : Nat} {one : Dc α} {enc : α → List UInt8} {l : List α} (hl : l.length ≤ 9223372036854775807) (hp : ∀ x, 0 < (enc x).length) (hx : ∀ x ∈ l, Rt xs (m + 1) one enc x) : Rt xs m (dK xs one) (fun l => cL l.length ++ l.flatMap enc) l := by
  intro a r hm ha h
  simp only [List.append_assoc] at h
  have := uF hp l
  unfold dK
  rw [xT ha (by rw [List.length_append]; omega) (by simp only [dD]; omega) h]
  obtain ⟨h1, h2⟩ := mQ ha h
  have h3 := kR (l.length : Int)
  simp only
  rw [uP l _ r hx (by omega) h1 h2, List.length_append, Nat.add_assoc]
theorem kX {α β : Type} {xs : List UInt8} {d : Dc α} {d' : Dc β} {e : α → List UInt8} {e' : β → List UInt8} (h1 : wY xs d e) (h2 : wY xs d' e') : wY xs (bW d d') (fun p => e p.1 ++ e' p.2) := by
  intro a p a' ha h
  unfold bW at h
  cases hg : d a with
  | error e => rw [hg] at h; cases h
  | ok q =>
    obtain ⟨x, a1⟩ := q
    rw [hg] at h
    simp only at h
    obtain ⟨g1, g2, g3⟩ := h1 a x a1 ha hg
    cases hr : d' a1 with
    | error e => rw [hr] at h; cases h
    | ok q =>
      obtain ⟨y, a2⟩ := q
      rw [hr] at h
      injection h with h
      injection h with e1 e2
      obtain ⟨f2, f3, f4⟩ := h2 a1 y a2 g2 hr
      subst e1 e2
      refine ⟨by omega, f3, ?_⟩
      rw [g3, f4, List.append_assoc]
theorem mS {α β : Type} {xs : List UInt8} {m : Nat} {d : Dc α} {d' : Dc β} {e : α → List UInt8} {e' : β → List UInt8} {p : α × β} (h1 : Rt xs m d e p.1) (h2 : Rt xs m d' e' p.2) : Rt xs m (bW d d') (fun p => e p.1 ++ e' p.2) p := by
  intro a r hm ha h
  simp only [List.append_assoc] at h
  unfold bW
  rw [h1 a _ hm ha h]
  obtain ⟨g1, g2⟩ := mQ ha h
  simp only
  rw [h2 _ _ (by omega) g1 g2, List.length_append, Nat.add_assoc]
theorem vF {α β : Type} {xs : List UInt8} {d : Dc α} {f : α → β} {e : α → List UInt8} {e' : β → List UInt8} (h1 : wY xs d e) (he : ∀ x, e' (f x) = e x) : wY xs (iV f d) e' := by
  intro a y a' ha h
  unfold iV at h
  cases hg : d a with
  | error e => rw [hg] at h; cases h
  | ok q =>
    obtain ⟨x, a1⟩ := q
    rw [hg] at h
    injection h with h
    injection h with e1 e2
    subst e1 e2
    rw [he]
    exact h1 a x a1 ha hg
theorem xK {α β : Type} {xs : List UInt8} {m : Nat} {d : Dc α} {f : α → β} {e : α → List UInt8} {e' : β → List UInt8} {x : α} (h1 : Rt xs m d e x) (he : e' (f x) = e x) : Rt xs m (iV f d) e' (f x) := by
  intro a r hm ha h
  rw [he] at h ⊢
  unfold iV
  rw [h1 a r hm ha h]
theorem Rt.from {α : Type} {xs : List UInt8} {m m' : Nat} {d : Dc α} {enc : α → List UInt8} {x : α} (h : Rt xs m d enc x) (hm : m ≤ m') : Rt xs m' d enc x := fun a r ha => h a r (by omega)

/-! ### terms and types -/
theorem Tm.enc_of (p : Int × Int × ByteArray × List Tm) : Tm.enc (Tm.of p) = cL p.1 ++ (cL p.2.1 ++ (gY p.2.2.1 ++ (cL p.2.2.2.length ++ p.2.2.2.flatMap Tm.enc))) := Tm.enc_eq _ _ _ _
theorem Tp.enc_of (p : ByteArray × List Tp) : Tp.enc (Tp.of p) = gY p.1 ++ (cL p.2.length ++ p.2.flatMap Tp.enc) := Tp.enc_eq _ _
theorem xA (xs : List UInt8) : ∀ f, wY xs (wM xs f) Tm.enc
  | 0 => fun a x a' ha h => by cases h
  | f + 1 => vF (kX (pN xs) (kX (pN xs) (kX (pT xs) (pU (xA xs f))))) Tm.enc_of
theorem xD (xs : List UInt8) : ∀ f, wY xs (yE xs f) Tp.enc
  | 0 => fun a x a' ha h => by cases h
  | f + 1 => vF (kX (pT xs) (pU (xD xs f))) Tp.enc_of
/-- Numbers and lengths are within bounds, all the way down. -/
inductive Tm.Vd : Tm → Prop
  | mk (k n : Int) (nm : ByteArray) (args : List Tm) (hk : dD k) (hn : dD n) (hnm : nm.size ≤ 9223372036854775807) (hl : args.length ≤ 9223372036854775807) (hx : ∀ x, x ∈ args → Tm.Vd x) : Tm.Vd (.mk k n nm args)
inductive Tp.Vd : Tp → Prop
  | mk (nm : ByteArray) (args : List Tp) (hnm : nm.size ≤ 9223372036854775807) (hl : args.length ≤ 9223372036854775807) (hx : ∀ x, x ∈ args → Tp.Vd x) : Tp.Vd (.mk nm args)
theorem Tm.enc_pos (x : Tm) : 0 < x.enc.length := by
  obtain ⟨k, n, nm, args⟩ := x
  have := kR k
  rw [Tm.enc_eq, List.length_append]; omega
theorem Tp.enc_pos (x : Tp) : 0 < x.enc.length := by
  obtain ⟨nm, args⟩ := x
  have := kR nm.size
  rw [Tp.enc_eq, List.length_append, gY, List.length_append]; omega
theorem e0 (xs : List UInt8) : ∀ (f m : Nat) (x : Tm), xs.length < m + f → x.Vd → Rt xs m (wM xs f) Tm.enc x
  | 0, m, x, hf, hv => fun a r hm ha h => by omega
  | f + 1, m, x, hf, hv => by
    cases hv with
    | mk k n nm args hk hn hnm hl hx =>
      show Rt xs m (iV Tm.of _) Tm.enc (Tm.of (k, n, nm, args))
      exact xK (mS ((rA xs hk).from (Nat.zero_le _)) (mS ((rA xs hn).from (Nat.zero_le _)) (mS ((rN xs hnm).from (Nat.zero_le _)) (rS hl Tm.enc_pos (fun x hm => e0 xs f (m + 1) x (by omega) (hx x hm)))))) (Tm.enc_of _)
theorem p6 (xs : List UInt8) : ∀ (f m : Nat) (x : Tp), xs.length < m + f → x.Vd → Rt xs m (yE xs f) Tp.enc x
  | 0, m, x, hf, hv => fun a r hm ha h => by omega
  | f + 1, m, x, hf, hv => by
    cases hv with
    | mk nm args hnm hl hx =>
      show Rt xs m (iV Tp.of _) Tp.enc (Tp.of (nm, args))
      exact xK (mS ((rN xs hnm).from (Nat.zero_le _)) (rS hl Tp.enc_pos (fun x hm => p6 xs f (m + 1) x (by omega) (hx x hm)))) (Tp.enc_of _)

/-! ### the class -/
class Cod (α : Type) where
  enc : α → List UInt8
  dec : List UInt8 → Dc α
  Vd : α → Prop
  can : ∀ xs, wY xs (dec xs) enc
  rt : ∀ xs x, Vd x → Rt xs 0 (dec xs) enc x
  pos : ∀ x, 0 < (enc x).length
instance : Cod Int := ⟨cL, eH, dD, pN, fun xs x h => rA xs h, kR⟩
instance : Cod Bool := ⟨gN, gM, fun _ => True, wP, fun xs x _ => yM xs x, fun _ => by simp [gN]⟩
instance : Cod ByteArray := ⟨gY, jI, fun s => s.size ≤ 9223372036854775807, pT, fun xs x h => rN xs h, fun x => by
  have := kR x.size
  rw [gY, List.length_append]; omega⟩
instance : Cod Tm := ⟨Tm.enc, fun xs => wM xs (xs.length + 1), Tm.Vd, fun xs => xA xs _, fun xs x h => e0 xs _ 0 x (by omega) h, Tm.enc_pos⟩
instance : Cod Tp := ⟨Tp.enc, fun xs => yE xs (xs.length + 1), Tp.Vd, fun xs => xD xs _, fun xs x h => p6 xs _ 0 x (by omega) h, Tp.enc_pos⟩
instance {α : Type} [h : Cod α] : Cod (List α) := ⟨fun l => cL l.length ++ l.flatMap h.enc, fun xs => dK xs (h.dec xs), fun l => l.length ≤ 9223372036854775807 ∧ ∀ x ∈ l, h.Vd x,
  fun xs => pU (h.can xs), fun xs l hl => rS hl.1 h.pos (fun x hx => (h.rt xs x (hl.2 x hx)).from (Nat.zero_le _)),
  fun l => by
    have := kR l.length
    rw [List.length_append]; omega⟩
instance {α β : Type} [h : Cod α] [h' : Cod β] : Cod (α × β) := ⟨fun p => h.enc p.1 ++ h'.enc p.2, fun xs => bW (h.dec xs) (h'.dec xs), fun p => h.Vd p.1 ∧ h'.Vd p.2,
  fun xs => kX (h.can xs) (h'.can xs), fun xs p hp => mS (h.rt xs p.1 hp.1) (h'.rt xs p.2 hp.2),
  fun p => by
    have := h.pos p.1
    rw [List.length_append]; omega⟩
/-- What lies in cells is within bounds. -/
class CodV (α : Type) [Rep α] [Cod α] : Prop where
  vd : ∀ {s : Sto} {cs : List Value} {x : α}, Rep.rd s cs x → Cod.Vd x
instance : CodV Int := ⟨fun h => h.2⟩
instance : CodV Bool := ⟨fun _ => trivial⟩
instance : CodV ByteArray := ⟨fun h => h.2⟩
theorem TmRd.vd {s : Sto} {cs : List Value} {x : Tm} (h : TmRd s cs x) : x.Vd := by
  induction h with
  | mk k n nm args A c css hk hn hnm hc hA hx ih =>
    exact .mk k n nm args hk hn hnm (Nat.le_trans hc.1 hc.2) (fun x hm => by
      obtain ⟨i, hi⟩ := List.mem_iff_getElem?.1 hm
      exact ih i x hi)
theorem TpRd.vd {s : Sto} {cs : List Value} {x : Tp} (h : TpRd s cs x) : x.Vd := by
  induction h with
  | mk nm args A c css hnm hc hA hx ih =>
    exact .mk nm args hnm (Nat.le_trans hc.1 hc.2) (fun x hm => by
      obtain ⟨i, hi⟩ := List.mem_iff_getElem?.1 hm
      exact ih i x hi)
instance : CodV Tm := ⟨fun h => TmRd.vd h⟩
instance : CodV Tp := ⟨fun h => TpRd.vd h⟩
instance {α : Type} [Rep α] [Cod α] [h : CodV α] : CodV (List α) := ⟨fun {s cs l} hr => by
    obtain ⟨v, rfl, A, c, rfl, hc, hA⟩ := hr
    refine ⟨Nat.le_trans hc.1 hc.2, fun x hx => ?_⟩
    obtain ⟨i, hi⟩ := List.mem_iff_getElem?.1 hx
    obtain ⟨b, o, _, hl⟩ := hA (by have := (List.getElem?_eq_some_iff.1 hi).1; omega)
    obtain ⟨cs, h1, _⟩ := hl i x hi
    exact h.vd h1⟩
instance {α β : Type} [Rep α] [Rep β] [Cod α] [Cod β] [h : CodV α] [h' : CodV β] : CodV (α × β) := ⟨fun {s cs p} hr => by
    obtain ⟨c1, c2, _, h1, h2⟩ := hr
    exact ⟨h.vd h1, h'.vd h2⟩⟩

instance codFr : Cod oK := inferInstance
instance codBr : Cod oI := inferInstance
instance codSc : Cod nZ := inferInstance
instance codVa : Cod kZ := inferInstance
instance codTr : Cod lU := inferInstance
instance codTy : Cod qS := inferInstance
instance codCh : Cod nT := inferInstance
instance codMa : Cod jT := inferInstance
instance covFr : CodV oK := inferInstance
instance covBr : CodV oI := inferInstance
instance covSc : CodV nZ := inferInstance
instance covVa : CodV kZ := inferInstance
instance covTr : CodV lU := inferInstance
instance covTy : CodV qS := inferInstance
instance covCh : CodV nT := inferInstance
instance covMa : CodV jT := inferInstance
/-! ### whole images -/
def gZ (xs : List UInt8) : Dc Unit := fun a =>
  if xs.length ≤ 0 then .error xs.length else if xs[0]? ≠ some 109 then .error 0 else
  if xs.length ≤ 1 then .error xs.length else if xs[1]? ≠ some 97 then .error 1 else
  if xs.length ≤ 2 then .error xs.length else if xs[2]? ≠ some 1 then .error 2 else .ok ((), 3)
/-- The state whose bytes these are, or where they are none. -/
def vM (xs : List UInt8) : Except Nat jT := match gZ xs 0 with
  | .error e => .error e
  | .ok _ => match Cod.dec (α := jT) xs 3 with
    | .error e => .error e
    | .ok (m, a) => if a < xs.length then .error a else .ok m
def stB (m : jT) : List UInt8 := [109, 97, 1] ++ Cod.enc (α := jT) m
end Go.Proofs.YtggdljhmbckpmaaGreat
