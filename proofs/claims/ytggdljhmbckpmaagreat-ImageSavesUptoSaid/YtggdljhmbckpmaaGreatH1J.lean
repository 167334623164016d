/- The law's helpers: sameBytes, sameDrive: walks. States of the machine as data: terms, types, products of data; how they lie in cells. -/
import Derived.Test.YtggdljhmbckpmaaGreatE5J
import Derived.Test.YtggdljhmbckpmaaGreatA16J
import Derived.Test.YtggdljhmbckpmaaGreatA10J
set_option linter.unusedVariables false
set_option linter.unusedSimpArgs false
namespace Go.Proofs.YtggdljhmbckpmaaGreat
open Go Go.RowKit
set_option maxRecDepth 100000
set_option maxHeartbeats 1600000

theorem xQ (xs : List UInt8) : (rG xs).toList = xs := ByteArray.toList_mk xs
section
variable {P : Program} {w0 : World} {E : List Value} {H : List Hp} {R : List MP} {ty : TypeId} {K : Value → List MP → Prop}
theorem pw_eqs {t t' : TypeId} {x y : Operand} {xs ys : List UInt8} (hx : ev E x = .string (rG xs)) (hy : ev E y = .string (rG ys)) (kk : K (.bool (decide (xs = ys))) R) : PW P w0 E (.binOp .eql t x y t') ty H R K :=
  fS rfl (fun w _ => by
    have hg : (eqGuard .eql t x y (.string (rG xs)) (.string (rG ys))).run P w = .ok () w := by cases x <;> cases y <;> rfl
    rw [hx, hy]
    simp only [Sem.run_bind, hg, Result.andThen_ok, binOp_string_eql, xQ, Sem.run_pure]
    have e : (xs == ys) = decide (xs = ys) := Bool.eq_iff_iff.2 dB
    rw [e]) kk
end
theorem yD {w0 : World} {H : List Hp} {R : List MP} {K : Value → List Hp → List MP → Prop} (A : Option Addr) (m c : Nat) (A2 : Option Addr) (m2 c2 : Nat) (xs ys : List UInt8) (h1 : Sl (.slice A m c) xs ∈ R) (h2 : Sl (.slice A2 m2 c2) ys ∈ R)
    (k : K (.bool (decide (xs = ys))) H R) : CallsK Tryz.prog w0 11 #[.slice A m c, .slice A2 m2 c2] H R K := by
  refine bV Tryz.func11 rfl Tryz.ntmps11 fI ?_
  repeat' (first | (refine aE rfl rfl ?_; refine vS (xs := xs) rfl h1 ?_; refine aB ?_) | (refine aE rfl rfl ?_; refine vS (xs := ys) rfl h2 ?_; refine aB ?_) | (apply aU; exact rfl; refine pw_eqs rfl rfl ?_; refine aB ?_) | (apply aF) | (apply aA) | (apply bP) | (apply aH) | (apply aD) | (refine aE rfl rfl ?_; ((first | refine aG ?_ | refine aY ?_)); refine aB ?_))
  exact aZ (.inl rfl) (dP rfl (bR rfl)) (cA H R (fun _ h => h) k)
theorem vK {w0 : World} {H : List Hp} {R : List MP} {K : Value → List Hp → List MP → Prop} (A : Option Addr) (m c : Nat) (A2 : Option Addr) (m2 c2 : Nat) (xs ys : List UInt8) (h1 : Sl (.slice A m c) xs ∈ R) (h2 : Sl (.slice A2 m2 c2) ys ∈ R)
    (kt : xs = ys → K (.bool true) H R) (kf : xs ≠ ys → K (.bool false) H R) : CallsK Tryz.prog w0 11 #[.slice A m c, .slice A2 m2 c2] H R K := by
  refine yD A m c A2 m2 c2 xs ys h1 h2 ?_
  by_cases h : xs = ys
  · rw [decide_eq_true h]; exact kt h
  · rw [decide_eq_false h]; exact kf h
end Go.Proofs.YtggdljhmbckpmaaGreat
namespace Go.Proofs.YtggdljhmbckpmaaGreat
open Go Go.RowKit
attribute [local semireducible] Sl Rd Ls At S

instance : Unp Bool := ⟨Unit, fun b _ => [.bool b], fun _ _ => True, fun _ _ => [], fun h => ⟨(), h, trivial, fun _ h => by cases h⟩, fun _ _ => rfl⟩
instance : Unp ByteArray := ⟨Unit, fun b _ => [.string b], fun b _ => b.size ≤ 9223372036854775807, fun _ _ => [], fun h => ⟨(), h.1, h.2, fun _ h => by cases h⟩, fun h _ => ⟨rfl, h⟩⟩

/-! ### terms and types -/
inductive Tm where
  | mk (kind n : Int) (name : ByteArray) (args : List Tm)
inductive Tp where
  | mk (name : ByteArray) (args : List Tp)

inductive TmRd (s : Sto) : List Value → Tm → Prop where
  | mk (k n : Int) (nm : ByteArray) (args : List Tm) (A : Option Addr) (c : Nat) (css : Nat → List Value)
    (hk : dO k) (hn : dO n) (hnm : nm.size ≤ eO) (hc : args.length ≤ c ∧ c ≤ eO)
    (hA : 0 < args.length → ∃ b o, A = some ⟨b, o, none⟩ ∧ ∀ i x, args[i]? = some x → ∀ j v, (css i)[j]? = some v → s b (o + i * 4 + j) = some v)
    (hx : ∀ i x, args[i]? = some x → TmRd s (css i) x) : TmRd s [.int .i64 k, .int .i64 n, .string nm, .slice A args.length c] (.mk k n nm args)
inductive TpRd (s : Sto) : List Value → Tp → Prop where
  | mk (nm : ByteArray) (args : List Tp) (A : Option Addr) (c : Nat) (css : Nat → List Value)
    (hnm : nm.size ≤ eO) (hc : args.length ≤ c ∧ c ≤ eO)
    (hA : 0 < args.length → ∃ b o, A = some ⟨b, o, none⟩ ∧ ∀ i x, args[i]? = some x → ∀ j v, (css i)[j]? = some v → s b (o + i * 2 + j) = some v)
    (hx : ∀ i x, args[i]? = some x → TpRd s (css i) x) : TpRd s [.string nm, .slice A args.length c] (.mk nm args)
theorem TmRd.mono {s t : Sto} {cs : List Value} {x : Tm} (h : s.le t) (k : TmRd s cs x) : TmRd t cs x := by
  induction k with
  | mk k n nm args A c css hk hn hnm hc hA hx ih =>
    exact .mk k n nm args A c css hk hn hnm hc (fun h0 => by
      obtain ⟨b, o, e, hb⟩ := hA h0
      exact ⟨b, o, e, fun i x hi j v hj => h _ _ _ (hb i x hi j v hj)⟩) ih
theorem TpRd.mono {s t : Sto} {cs : List Value} {x : Tp} (h : s.le t) (k : TpRd s cs x) : TpRd t cs x := by
  induction k with
  | mk nm args A c css hnm hc hA hx ih =>
    exact .mk nm args A c css hnm hc (fun h0 => by
      obtain ⟨b, o, e, hb⟩ := hA h0
      exact ⟨b, o, e, fun i x hi j v hj => h _ _ _ (hb i x hi j v hj)⟩) ih
instance : Rep Tm where
  size := 4
  rd := TmRd
  mono h k := k.mono h
  len h := by cases h; rfl
  one h := by cases h; simp [Value.oneCell']
instance : Rep Tp where
  size := 2
  rd := TpRd
  mono h k := k.mono h
  len h := by cases h; rfl
  one h := by cases h; simp [Value.oneCell']
def Tm.cs (x : Tm) (y : Option Addr × Nat) : List Value := match x with | .mk k n nm args => [.int .i64 k, .int .i64 n, .string nm, .slice y.1 args.length y.2]
def Tp.cs (x : Tp) (y : Option Addr × Nat) : List Value := match x with | .mk nm args => [.string nm, .slice y.1 args.length y.2]
def Tm.fs (x : Tm) (y : Option Addr × Nat) : List MP := match x with | .mk k n nm args => [Sl (.slice y.1 args.length y.2) args]
def Tp.fs (x : Tp) (y : Option Addr × Nat) : List MP := match x with | .mk nm args => [Sl (.slice y.1 args.length y.2) args]
def Tm.fit : Tm → Prop | .mk k n nm args => dO k ∧ dO n ∧ nm.size ≤ 9223372036854775807 ∧ args.length ≤ 9223372036854775807
def Tp.fit : Tp → Prop | .mk nm args => nm.size ≤ 9223372036854775807 ∧ args.length ≤ 9223372036854775807
instance : Unp Tm := ⟨Option Addr × Nat, Tm.cs, fun x _ => x.fit, Tm.fs,
  fun {s cs' x} h => by
    cases h with
    | mk k n nm args A c css hk hn hnm hc hA hx =>
      refine ⟨(A, c), rfl, ⟨hk, hn, hnm, Nat.le_trans hc.1 hc.2⟩, fun p hp => ?_⟩
      obtain rfl : p = Sl (.slice A args.length c) args := by simpa [Tm.fs] using hp
      exact ⟨A, c, rfl, hc, fun h0 => by
        obtain ⟨b, o, e, hb⟩ := hA h0
        exact ⟨b, o, e, fun i x hi => ⟨css i, hx i x hi, hb i x hi⟩⟩⟩,
  fun {s x y} h h' => by
    obtain ⟨k, n, nm, args⟩ := x
    obtain ⟨h1, h2, h3, h4⟩ := h
    obtain ⟨A, c, e, hc, hA⟩ := h' (Sl (.slice y.1 args.length y.2) args) (by simp [Tm.fs])
    injection e with e1 _ e3
    have hex : ∃ css : Nat → List Value, (∀ i x, args[i]? = some x → TmRd s (css i) x) ∧ (0 < args.length → ∃ b o, A = some ⟨b, o, none⟩ ∧ ∀ i x, args[i]? = some x → ∀ j v, (css i)[j]? = some v → s b (o + i * 4 + j) = some v) := by
      rcases Nat.eq_zero_or_pos args.length with h0 | h0
      · exact ⟨fun _ => [], fun i x hi => by have := (List.getElem?_eq_some_iff.1 hi).1; omega, fun h => by omega⟩
      · obtain ⟨b, o, eA, hl⟩ := hA h0
        have hch : ∀ i, ∃ cs : List Value, ∀ x, args[i]? = some x → TmRd s cs x ∧ ∀ j v, cs[j]? = some v → s b (o + i * 4 + j) = some v := fun i => by
          cases hi : args[i]? with
          | none => exact ⟨[], fun x hx => by cases hx⟩
          | some x =>
            obtain ⟨cs, g1, g2⟩ := hl i x hi
            exact ⟨cs, fun x' hx' => by cases hx'; exact ⟨g1, g2⟩⟩
        exact ⟨fun i => Classical.choose (hch i), fun i x hi => (Classical.choose_spec (hch i) x hi).1, fun _ => ⟨b, o, eA, fun i x hi => (Classical.choose_spec (hch i) x hi).2⟩⟩
    obtain ⟨css, g1, g2⟩ := hex
    show TmRd s [.int .i64 k, .int .i64 n, .string nm, .slice y.1 args.length y.2] _
    rw [e1, e3]
    exact .mk k n nm args A c css h1 h2 h3 hc g2 g1⟩
instance : Unp Tp := ⟨Option Addr × Nat, Tp.cs, fun x _ => x.fit, Tp.fs,
  fun {s cs' x} h => by
    cases h with
    | mk nm args A c css hnm hc hA hx =>
      refine ⟨(A, c), rfl, ⟨hnm, Nat.le_trans hc.1 hc.2⟩, fun p hp => ?_⟩
      obtain rfl : p = Sl (.slice A args.length c) args := by simpa [Tp.fs] using hp
      exact ⟨A, c, rfl, hc, fun h0 => by
        obtain ⟨b, o, e, hb⟩ := hA h0
        exact ⟨b, o, e, fun i x hi => ⟨css i, hx i x hi, hb i x hi⟩⟩⟩,
  fun {s x y} h h' => by
    obtain ⟨nm, args⟩ := x
    obtain ⟨h3, h4⟩ := h
    obtain ⟨A, c, e, hc, hA⟩ := h' (Sl (.slice y.1 args.length y.2) args) (by simp [Tp.fs])
    injection e with e1 _ e3
    have hex : ∃ css : Nat → List Value, (∀ i x, args[i]? = some x → TpRd s (css i) x) ∧ (0 < args.length → ∃ b o, A = some ⟨b, o, none⟩ ∧ ∀ i x, args[i]? = some x → ∀ j v, (css i)[j]? = some v → s b (o + i * 2 + j) = some v) := by
      rcases Nat.eq_zero_or_pos args.length with h0 | h0
      · exact ⟨fun _ => [], fun i x hi => by have := (List.getElem?_eq_some_iff.1 hi).1; omega, fun h => by omega⟩
      · obtain ⟨b, o, eA, hl⟩ := hA h0
        have hch : ∀ i, ∃ cs : List Value, ∀ x, args[i]? = some x → TpRd s cs x ∧ ∀ j v, cs[j]? = some v → s b (o + i * 2 + j) = some v := fun i => by
          cases hi : args[i]? with
          | none => exact ⟨[], fun x hx => by cases hx⟩
          | some x =>
            obtain ⟨cs, g1, g2⟩ := hl i x hi
            exact ⟨cs, fun x' hx' => by cases hx'; exact ⟨g1, g2⟩⟩
        exact ⟨fun i => Classical.choose (hch i), fun i x hi => (Classical.choose_spec (hch i) x hi).1, fun _ => ⟨b, o, eA, fun i x hi => (Classical.choose_spec (hch i) x hi).2⟩⟩
    obtain ⟨css, g1, g2⟩ := hex
    show TpRd s [.string nm, .slice y.1 args.length y.2] _
    rw [e1, e3]
    exact .mk nm args A c css h3 hc g2 g1⟩

/-! ### products -/
instance {α β : Type} [Rep α] [Rep β] : Rep (α × β) where
  size := Rep.size α + Rep.size β
  rd s cs p := ∃ c1 c2, cs = c1 ++ c2 ∧ Rep.rd s c1 p.1 ∧ Rep.rd s c2 p.2
  mono h k := by obtain ⟨c1, c2, e, k1, k2⟩ := k; exact ⟨c1, c2, e, Rep.mono h k1, Rep.mono h k2⟩
  len k := by obtain ⟨c1, c2, rfl, k1, k2⟩ := k; rw [List.length_append, Rep.len k1, Rep.len k2]
  one k := by
    obtain ⟨c1, c2, rfl, k1, k2⟩ := k
    intro c hc
    rcases List.mem_append.1 hc with h | h
    · exact Rep.one k1 c h
    · exact Rep.one k2 c h
instance {α β : Type} [Rep α] [Rep β] [Unp α] [Unp β] : Unp (α × β) := ⟨Unp.Y α × Unp.Y β, fun x y => Unp.cs x.1 y.1 ++ Unp.cs x.2 y.2, fun x y => Unp.ok x.1 y.1 ∧ Unp.ok x.2 y.2, fun x y => Unp.fs x.1 y.1 ++ Unp.fs x.2 y.2,
  fun {s cs' x} h => by
    obtain ⟨c1, c2, rfl, h1, h2⟩ := h
    obtain ⟨y1, rfl, o1, f1⟩ := Unp.un h1
    obtain ⟨y2, rfl, o2, f2⟩ := Unp.un h2
    exact ⟨(y1, y2), rfl, ⟨o1, o2⟩, fun p hp => (List.mem_append.1 hp).elim (f1 p) (f2 p)⟩,
  fun {s x y} h h' => ⟨_, _, rfl, Unp.re h.1 (fun p hp => h' p (List.mem_append_left _ hp)), Unp.re h.2 (fun p hp => h' p (List.mem_append_right _ hp))⟩⟩
/-- The cells are as many as the size, each of one cell. -/
class UnpL (α : Type) [Rep α] [Unp α] : Prop where
  len : ∀ (x : α) (y : Unp.Y α), (Unp.cs x y).length = Rep.size α
  one : ∀ (x : α) (y : Unp.Y α), ∀ u ∈ Unp.cs x y, u.oneCell' = true
instance : UnpL Int := ⟨fun _ _ => rfl, fun x y u hu => by obtain rfl := List.mem_singleton.1 hu; rfl⟩
instance : UnpL Bool := ⟨fun _ _ => rfl, fun x y u hu => by obtain rfl := List.mem_singleton.1 hu; rfl⟩
instance : UnpL ByteArray := ⟨fun _ _ => rfl, fun x y u hu => by obtain rfl := List.mem_singleton.1 hu; rfl⟩
instance {α : Type} [Rep α] : UnpL (List α) := ⟨fun _ _ => rfl, fun x y u hu => by obtain rfl := List.mem_singleton.1 hu; rfl⟩
instance : UnpL Tm := ⟨fun x _ => by cases x; rfl, fun x y u hu => by
  obtain ⟨k, n, nm, args⟩ := x
  have : u ∈ [Value.int .i64 k, .int .i64 n, .string nm, .slice y.1 args.length y.2] := hu
  simp only [List.mem_cons, List.not_mem_nil, or_false] at this
  rcases this with rfl | rfl | rfl | rfl <;> rfl⟩
instance : UnpL Tp := ⟨fun x _ => by cases x; rfl, fun x y u hu => by
  obtain ⟨nm, args⟩ := x
  have : u ∈ [Value.string nm, .slice y.1 args.length y.2] := hu
  simp only [List.mem_cons, List.not_mem_nil, or_false] at this
  rcases this with rfl | rfl <;> rfl⟩
instance {α β : Type} [Rep α] [Rep β] [Unp α] [Unp β] [h1 : UnpL α] [h2 : UnpL β] : UnpL (α × β) := ⟨fun x y => by
    show (Unp.cs x.1 y.1 ++ Unp.cs x.2 y.2).length = Rep.size α + Rep.size β
    rw [List.length_append, h1.len, h2.len], fun x y u hu => (List.mem_append.1 hu).elim (h1.one x.1 y.1 u) (h2.one x.2 y.2 u)⟩

abbrev pU := List Tm × List Tm × Int × Int × Int
abbrev pP := Int × Int × List Int × Bool × List Int × Bool × Int
abbrev FaD := ByteArray × List Tm
abbrev pR := Int × Int × Int × Int × List Tm × FaD
abbrev mU := Int × Tp × Bool × Tm
abbrev nJ := Int × mU
abbrev sQ := Int × Int × Int
abbrev pL := Int × List sQ × List Tm × Int × Int × Int × Int × Int × Int × Int × Bool × List Int × List Int × Int × Int × Int × Int × Int
abbrev jO := Int × Int × Int × Int × Int × Int × Bool × List Int × List Int × List pU × List pP × List pR × List mU × List nJ × List pL × Int
instance repFr : Rep pU := inferInstance
instance unpFr : Unp pU := inferInstance
instance unlFr : UnpL pU := inferInstance
instance repBr : Rep pP := inferInstance
instance unpBr : Unp pP := inferInstance
instance unlBr : UnpL pP := inferInstance
instance repSc : Rep pR := inferInstance
instance unpSc : Unp pR := inferInstance
instance unlSc : UnpL pR := inferInstance
instance repVa : Rep mU := inferInstance
instance unpVa : Unp mU := inferInstance
instance unlVa : UnpL mU := inferInstance
instance repTr : Rep nJ := inferInstance
instance unpTr : Unp nJ := inferInstance
instance unlTr : UnpL nJ := inferInstance
instance repTy : Rep sQ := inferInstance
instance unpTy : Unp sQ := inferInstance
instance unlTy : UnpL sQ := inferInstance
instance repCh : Rep pL := inferInstance
instance unpCh : Unp pL := inferInstance
instance unlCh : UnpL pL := inferInstance
instance repMa : Rep jO := inferInstance
instance unpMa : Unp jO := inferInstance
instance unlMa : UnpL jO := inferInstance
end Go.Proofs.YtggdljhmbckpmaaGreat
