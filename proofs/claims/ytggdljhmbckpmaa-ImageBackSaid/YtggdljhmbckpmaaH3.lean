/- Reading the arguments of a row: what lies in the given memory, as data. -/
import Derived.Test.YtggdljhmbckpmaaA7f0
import Derived.Test.YtggdljhmbckpmaaA7f1
import Derived.Test.YtggdljhmbckpmaaA14
import Derived.Test.YtggdljhmbckpmaaF3
import Derived.ChangeArms
set_option linter.unusedVariables false
set_option linter.unusedSimpArgs false
namespace Go.Proofs.Ytggdljhmbckpmaa
open Go Go.RowKit Go.WideShapes
set_option maxRecDepth 100000
set_option maxHeartbeats 1600000
attribute [local semireducible] At S Sl Ls

/-- What can be read at the type 't' is data of the kind 'α'. -/
def Opn (P : Program) (t : TypeId) (α : Type) [Rep α] : Prop := ∀ (H : Type) (enc : TypeId × Value → H) (w : World) (base : Nat) (spare : Nat → Bool) (held : Bool) (fuel : Nat) (cs : List Value) (x : DataW H × List MemPlace),
  DataW.trod enc P w base spare held fuel t cs = some x → ∃ a : α, Rep.rd (cst w) cs a

theorem opn_int {P : Program} {t : TypeId} (h : P.underlying t = some (.int .i64)) : Opn P t Int := fun H enc w base spare held fuel cs x hx => by
  obtain ⟨n, rfl, _, hw⟩ := DataW.trod_int h hx
  simp only [Lit.wf, Bool.and_eq_true, decide_eq_true_eq] at hw
  exact ⟨n, rfl, hw.1, hw.2⟩
theorem opn_u8 {P : Program} {t : TypeId} (h : P.underlying t = some (.int .u8)) : Opn P t UInt8 := fun H enc w base spare held fuel cs x hx => by
  obtain ⟨n, rfl, _, hw⟩ := DataW.trod_int h hx
  simp only [Lit.wf, Bool.and_eq_true, decide_eq_true_eq] at hw
  have h1 : (0 : Int) ≤ n := hw.1
  have h2 : n ≤ (255 : Int) := hw.2
  refine ⟨UInt8.ofNat n.toNat, ?_⟩
  show [Value.int .u8 n] = [Value.int .u8 (((UInt8.ofNat n.toNat).toNat : Nat) : Int)]
  have e : (((UInt8.ofNat n.toNat).toNat : Nat) : Int) = n := by
    rw [UInt8.toNat_ofNat']; omega
  rw [e]
theorem opn_slice {P : Program} {t e : TypeId} {α : Type} [Rep α] (h : P.underlying t = some (.slice e)) (hc : P.cellsOf e = Rep.size α) (hp : 0 < Rep.size α) (he : Opn P e α) : Opn P t (List α) := fun H enc w base spare held fuel cs x hx => by
  rcases DataW.trod_slice h hx with ⟨rfl, _⟩ | ⟨a, len, cap, elems, rest, n, _, rfl, _, _, hl, hm, hel, hget, _⟩
  · exact ⟨[], .slice none 0 0, rfl, none, 0, rfl, ⟨Nat.le_refl _, Nat.zero_le _⟩, fun h0 => absurd h0 (by simp)⟩
  · have hone : ∀ i, i < len → ∃ (y : α) (cs' : List Value), w.cells? base (a.add (i * P.cellsOf e)) (P.cellsOf e) = some cs' ∧ Rep.rd (cst w) cs' y := fun i hi => by
      have := hget i hi
      rw [List.getElem?_eq_getElem (by omega), Option.bind_eq_some_iff] at this
      obtain ⟨cs', h1, h2⟩ := this
      obtain ⟨y, hy⟩ := he H enc w base spare held n cs' _ h2
      exact ⟨y, cs', h1, hy⟩
    have hall : ∀ m, m ≤ len → ∃ xs : List α, xs.length = m ∧ ∀ i y, xs[i]? = some y → ∃ cs' : List Value, w.cells? base (a.add (i * P.cellsOf e)) (P.cellsOf e) = some cs' ∧ Rep.rd (cst w) cs' y := by
      intro m
      induction m with
      | zero => exact fun _ => ⟨[], rfl, fun i y hi => by simp at hi⟩
      | succ m ih =>
        intro hm'
        obtain ⟨xs, e1, e2⟩ := ih (by omega)
        obtain ⟨y, cs', h1, h2⟩ := hone m (by omega)
        refine ⟨xs ++ [y], by simp [e1], fun i z hi => ?_⟩
        by_cases hh : i < xs.length
        · rw [List.getElem?_append_left hh] at hi
          exact e2 i z hi
        · have hi' := (List.getElem?_eq_some_iff.1 hi).1
          simp at hi'
          obtain rfl : i = xs.length := by omega
          simp at hi
          subst hi
          rw [e1]
          exact ⟨cs', h1, h2⟩
    obtain ⟨xs, e1, e2⟩ := hall len (Nat.le_refl _)
    subst e1
    have hcell : ∀ i y, xs[i]? = some y → ∃ cs' : List Value, Rep.rd (cst w) cs' y ∧ ∀ j v, cs'[j]? = some v → w.cell? ((a.add (i * Rep.size α)).add j) = some v := fun i y hi => by
      obtain ⟨cs', h1, h2⟩ := e2 i y hi
      refine ⟨cs', h2, fun j v hj => ?_⟩
      unfold World.cells? at h1
      split at h1
      · have hlen := mapM_some_length h1
        have hj' := (List.getElem?_eq_some_iff.1 hj).1
        rw [List.length_range] at hlen
        have := mapM_some_get h1 j j (by rw [List.getElem?_range (by omega)])
        rw [hc] at this
        rw [this]; exact hj
      · cases h1
    refine ⟨xs, _, rfl, some a, cap, rfl, ⟨hl, ?_⟩, fun h0 => ?_⟩
    · exact hm
    · have hsp : a.spot = none := by
        obtain ⟨cs', h1, h2⟩ := hcell 0 xs[0] (List.getElem?_eq_getElem h0)
        have hl' := Rep.len h1
        have := h2 0 (cs'[0]'(by omega)) (List.getElem?_eq_getElem (by omega))
        simp only [Nat.zero_mul, Addr.add, if_pos] at this
        unfold World.cell? at this
        split at this
        · cases hs : a.spot with
          | none => rfl
          | some z => rw [hs] at this; simp at this
        · cases this
      obtain ⟨b, o, sp⟩ := a
      subst hsp
      refine ⟨b, o, rfl, fun i y hi => ?_⟩
      obtain ⟨cs', h1, h2⟩ := hcell i y hi
      refine ⟨cs', h1, fun j v hj => ?_⟩
      have := h2 j v hj
      rw [Addr.add_mk, Addr.add_mk] at this
      exact this
theorem opn_DW {P : Program} {t t1 t2 : TypeId} {f1 f2 : Field} (h : P.underlying t = some (.struct #[f1, f2])) (hc : P.cellsOf t = 2) (h1 : f1.type = t1) (h2 : f2.type = t2) (o1 : f1.offset = 0) (o2 : f2.offset = 1) (c1 : P.cellsOf t1 = 1) (c2 : P.cellsOf t2 = 1) (k1 : Opn P t1 Int) (k2 : Opn P t2 (List UInt8)) : Opn P t DW := fun H enc w base spare held fuel cs x hx => by
  obtain ⟨xs, n, _, _, hl, hxl, hf⟩ := DataW.trod_struct h hx
  rw [hc] at hl
  have hxl2 : xs.length = 2 := hxl
  have g1 := hf 0 f1 rfl
  have g2 := hf 1 f2 rfl
  rw [h1, o1, c1, List.getElem?_eq_getElem (by omega)] at g1
  rw [h2, o2, c2, List.getElem?_eq_getElem (by omega)] at g2
  match cs, hl with
  | [u, v], _ =>
    obtain ⟨a, ea, ha1, ha2⟩ := k1 _ _ _ _ _ _ _ _ _ g1
    obtain ⟨b, v', eb, hb⟩ := k2 _ _ _ _ _ _ _ _ _ g2
    simp at ea eb
    subst ea eb
    obtain ⟨A, c, rfl, hA⟩ := hb
    exact ⟨⟨a, b⟩, A, c, rfl, ⟨ha1, ha2⟩, A, c, rfl, hA⟩
theorem opn_DO {P : Program} {t t1 t2 t3 : TypeId} {f1 f2 f3 : Field} (h : P.underlying t = some (.struct #[f1, f2, f3])) (hc : P.cellsOf t = 3) (h1 : f1.type = t1) (h2 : f2.type = t2) (h3 : f3.type = t3) (o1 : f1.offset = 0) (o2 : f2.offset = 1) (o3 : f3.offset = 2) (c1 : P.cellsOf t1 = 1) (c2 : P.cellsOf t2 = 1) (c3 : P.cellsOf t3 = 1) (k1 : Opn P t1 Int) (k2 : Opn P t2 Int) (k3 : Opn P t3 (List UInt8)) : Opn P t DO := fun H enc w base spare held fuel cs x hx => by
  obtain ⟨xs, n, _, _, hl, hxl, hf⟩ := DataW.trod_struct h hx
  rw [hc] at hl
  have hxl2 : xs.length = 3 := hxl
  have g1 := hf 0 f1 rfl
  have g2 := hf 1 f2 rfl
  have g3 := hf 2 f3 rfl
  rw [h1, o1, c1, List.getElem?_eq_getElem (by omega)] at g1
  rw [h2, o2, c2, List.getElem?_eq_getElem (by omega)] at g2
  rw [h3, o3, c3, List.getElem?_eq_getElem (by omega)] at g3
  match cs, hl with
  | [u, v, z], _ =>
    obtain ⟨a, ea, ha1, ha2⟩ := k1 _ _ _ _ _ _ _ _ _ g1
    obtain ⟨b, eb, hb1, hb2⟩ := k2 _ _ _ _ _ _ _ _ _ g2
    obtain ⟨d, v', ed, hd⟩ := k3 _ _ _ _ _ _ _ _ _ g3
    simp at ea eb ed
    subst ea eb ed
    obtain ⟨A, c, rfl, hA⟩ := hd
    exact ⟨⟨a, b, d⟩, A, c, rfl, ⟨⟨ha1, ha2⟩, hb1, hb2⟩, A, c, rfl, hA⟩
/-- A struct of two slices: its two cells. -/
theorem opn_two {P : Program} {t t1 t2 : TypeId} {f1 f2 : Field} {α β : Type} [Rep α] [Rep β] (h : P.underlying t = some (.struct #[f1, f2])) (hc : P.cellsOf t = 2) (h1 : f1.type = t1) (h2 : f2.type = t2) (o1 : f1.offset = 0) (o2 : f2.offset = 1) (c1 : P.cellsOf t1 = 1) (c2 : P.cellsOf t2 = 1) (k1 : Opn P t1 α) (k2 : Opn P t2 β)
    {H : Type} {enc : TypeId × Value → H} {w : World} {base : Nat} {spare : Nat → Bool} {held : Bool} {fuel : Nat} {cs : List Value} {x : DataW H × List MemPlace} (hx : DataW.trod enc P w base spare held fuel t cs = some x) :
    ∃ (u v : Value) (a : α) (b : β), cs = [u, v] ∧ Rep.rd (cst w) [u] a ∧ Rep.rd (cst w) [v] b := by
  obtain ⟨xs, n, _, _, hl, hxl, hf⟩ := DataW.trod_struct h hx
  rw [hc] at hl
  have hxl2 : xs.length = 2 := hxl
  have g1 := hf 0 f1 rfl
  have g2 := hf 1 f2 rfl
  rw [h1, o1, c1, List.getElem?_eq_getElem (by omega)] at g1
  rw [h2, o2, c2, List.getElem?_eq_getElem (by omega)] at g2
  match cs, hl with
  | [u, v], _ =>
    obtain ⟨a, ha⟩ := k1 _ _ _ _ _ _ _ _ _ g1
    obtain ⟨b, hb⟩ := k2 _ _ _ _ _ _ _ _ _ g2
    exact ⟨u, v, a, b, rfl, ha, hb⟩
theorem opn_bytes : Opn Try.prog 33 (List UInt8) := opn_slice Try.underlying33 (by kernel_rfl) Nat.one_pos (opn_u8 Try.underlying5)
theorem opn_ints : Opn Try.prog 22 (List Int) := opn_slice Try.underlying22 (by kernel_rfl) Nat.one_pos (opn_int Try.underlying3)
theorem opn_writes : Opn Try.prog 43 (List DW) := opn_slice Try.underlying43 (by kernel_rfl) (show 0 < 2 by decide) (opn_DW Try.underlying130 (by kernel_rfl) rfl rfl rfl rfl (by kernel_rfl) (by kernel_rfl) (opn_int Try.underlying3) opn_bytes)
theorem opn_ops : Opn Try.prog 51 (List DO) := opn_slice Try.underlying51 (by kernel_rfl) (show 0 < 3 by decide) (opn_DO Try.underlying84 (by kernel_rfl) rfl rfl rfl rfl rfl rfl (by kernel_rfl) (by kernel_rfl) (by kernel_rfl) (opn_int Try.underlying3) (opn_int Try.underlying3) opn_bytes)
/-- A slice argument: its value, and what it reads as. -/
theorem Opn.sl {P : Program} {t : TypeId} {α : Type} [Rep α] (k : Opn P t (List α)) {H : Type} {enc : TypeId × Value → H} {w : World} {base : Nat} {spare : Nat → Bool} {held : Bool} {v : Value} {d : DataW H} {ps : List MemPlace} (h : DataW.Trod enc P w base spare held t v d ps) (hv : v.cells = #[v]) : ∃ (A : Option Addr) (xs : List α) (c : Nat), v = .slice A xs.length c ∧ (Sl (.slice A xs.length c) xs).p (cst w) := by
  obtain ⟨fuel, hf⟩ := h
  rw [hv] at hf
  obtain ⟨xs, v', e, hs⟩ := k _ _ _ _ _ _ _ _ _ hf
  simp at e
  subst e
  obtain ⟨A, c, rfl, h2⟩ := hs
  exact ⟨A, xs, c, rfl, A, c, rfl, h2⟩
/-- A drive: its value, and what it reads as. -/
theorem opn_drive {H : Type} {enc : TypeId × Value → H} {w : World} {base : Nat} {spare : Nat → Bool} {held : Bool} {cs : Array Value} {d : DataW H} {ps : List MemPlace} (h : DataW.Trod enc Try.prog w base spare held 45 (.agg cs) d ps) : ∃ A c A2 c2 dr, Value.agg cs = dv A c A2 c2 dr ∧ (Sl (.slice A dr.bytes.length c) dr.bytes).p (cst w) ∧ (Sl (.slice A2 dr.pending.length c2) dr.pending).p (cst w) := by
  obtain ⟨fuel, hf⟩ := h
  obtain ⟨u, v, a, b, e, ha, hb⟩ := opn_two Try.underlying45 (by kernel_rfl) rfl rfl rfl rfl (by kernel_rfl) (by kernel_rfl) opn_bytes opn_writes hf
  obtain ⟨cl⟩ := cs
  obtain rfl : cl = [u, v] := e
  obtain ⟨u', eu, hu⟩ := ha
  obtain ⟨v', ev', hv⟩ := hb
  simp at eu ev'
  subst eu ev'
  obtain ⟨A, c, rfl, h2⟩ := hu
  obtain ⟨A2, c2, rfl, h3⟩ := hv
  exact ⟨A, c, A2, c2, ⟨a, b⟩, rfl, ⟨A, c, rfl, h2⟩, A2, c2, rfl, h3⟩
attribute [local semireducible] CallsK
theorem CallsK.run {P : Program} {w0 w : World} {f : FuncId} {args : Array Value} {H : List Hp} {R : List MP} {K : Value → List Hp → List MP → Prop} (h : CallsK P w0 f args H R K) (hs : S w0 w H R) : Calls P f args w (fun e w' => ∃ v H' R', e = .returned v ∧ S w0 w' H' R' ∧ K v H' R') := h w hs
end Go.Proofs.Ytggdljhmbckpmaa
