/- A state of the machine as an argument: what lies in the given memory, as data, and a bound on its bytes; printed by gen_opnb.py. -/
import Derived.Test.YtggdljhmbckpmaaGreatRows
import Derived.Test.YtggdljhmbckpmaaGreatHSJ
import Derived.Test.YtggdljhmbckpmaaGreatD2
import Derived.KernelRfl
set_option linter.unusedVariables false
set_option linter.unusedSimpArgs false
namespace Go.Proofs.YtggdljhmbckpmaaGreat
open Go Go.RowKit Go.WideShapes
set_option maxRecDepth 100000
set_option maxHeartbeats 1600000
attribute [local semireducible] At S Sl Ls

/-- What can be read at the type 't' is data of the kind 'α', of at most ten bytes for each of its bulk. -/
def Opb (P : Program) (t : TypeId) (α : Type) [Rep α] [Cod α] : Prop := ∀ (H : Type) (enc : TypeId × Value → H) (w : World) (base : Nat) (spare : Nat → Bool) (held : Bool) (fuel : Nat) (cs : List Value) (x : DataW H × List MemPlace),
  DataW.trod enc P w base spare held fuel t cs = some x → ∃ a : α, Rep.rd (sM w) cs a ∧ (Cod.enc a).length ≤ 10 * Rows.uptoBulk x.1
def OpbN (P : Program) (t : TypeId) (α : Type) [Rep α] [Cod α] (N : Nat) : Prop := ∀ (H : Type) (enc : TypeId × Value → H) (w : World) (base : Nat) (spare : Nat → Bool) (held : Bool) (fuel : Nat), fuel ≤ N → ∀ (cs : List Value) (x : DataW H × List MemPlace),
  DataW.trod enc P w base spare held fuel t cs = some x → ∃ a : α, Rep.rd (sM w) cs a ∧ (Cod.enc a).length ≤ 10 * Rows.uptoBulk x.1
theorem OpbN.all {P : Program} {t : TypeId} {α : Type} [Rep α] [Cod α] (h : ∀ N, OpbN P t α N) : Opb P t α := fun H enc w base spare held fuel cs x hx => h fuel H enc w base spare held fuel (Nat.le_refl _) cs x hx
theorem Opb.n {P : Program} {t : TypeId} {α : Type} [Rep α] [Cod α] (h : Opb P t α) (N : Nat) : OpbN P t α N := fun H enc w base spare held fuel _ cs x hx => h H enc w base spare held fuel cs x hx
theorem dR {α β : Type} [Rep α] [Rep β] [Cod α] [Cod β] {s : Sto} {cs : List Value} {o o' u v : Nat} (sz : Nat) (ho : o' = o + sz) (h1 : ∃ a : α, Rep.rd s ((cs.drop o).take sz) a ∧ (Cod.enc a).length ≤ 10 * u) (h2 : ∃ b : β, Rep.rd s (cs.drop o') b ∧ (Cod.enc b).length ≤ 10 * v) : ∃ p : α × β, Rep.rd s (cs.drop o) p ∧ (Cod.enc p).length ≤ 10 * (u + v) := by
  obtain ⟨a, ha, la⟩ := h1
  obtain ⟨b, hb, lb⟩ := h2
  subst ho
  refine ⟨(a, b), ⟨_, _, by rw [← List.drop_drop, List.take_append_drop], ha, hb⟩, ?_⟩
  show (Cod.enc a ++ Cod.enc b).length ≤ _
  rw [List.length_append]
  omega
theorem jX {α : Type} [Rep α] [Cod α] {s : Sto} {cs : List Value} {o u : Nat} (sz : Nat) (h : ∃ a : α, Rep.rd s ((cs.drop o).take sz) a ∧ (Cod.enc a).length ≤ 10 * u) (hl : cs.length = o + sz) : ∃ a : α, Rep.rd s (cs.drop o) a ∧ (Cod.enc a).length ≤ 10 * u := by
  rwa [List.take_of_length_le (by rw [List.length_drop]; omega)] at h
theorem dU {H : Type} {enc : TypeId × Value → H} {P : Program} {w : World} {base : Nat} {spare : Nat → Bool} {held : Bool} {n t o sz : Nat} {cs : List Value} {α : Type} [Rep α] [Cod α] {z : DataW H × List MemPlace} (k : ∀ cs x, DataW.trod enc P w base spare held n t cs = some x → ∃ a : α, Rep.rd (sM w) cs a ∧ (Cod.enc a).length ≤ 10 * Rows.uptoBulk x.1) (g : DataW.trod enc P w base spare held n t ((cs.drop o).take (P.cellsOf t)) = some z) (h : P.cellsOf t = sz) : ∃ a : α, Rep.rd (sM w) ((cs.drop o).take sz) a ∧ (Cod.enc a).length ≤ 10 * Rows.uptoBulk z.1 := by
  subst h
  exact k _ _ g
theorem Opb.at {P : Program} {t : TypeId} {α : Type} [Rep α] [Cod α] (h : Opb P t α) {H : Type} {enc : TypeId × Value → H} {w : World} {base : Nat} {spare : Nat → Bool} {held : Bool} {n : Nat} : ∀ cs x, DataW.trod enc P w base spare held n t cs = some x → ∃ a : α, Rep.rd (sM w) cs a ∧ (Cod.enc a).length ≤ 10 * Rows.uptoBulk x.1 := h H enc w base spare held n
theorem dG {α : Type} {xs : List α} {n : Nat} (h : xs.length = n + 1) : ∃ y ys, xs = y :: ys ∧ ys.length = n := by
  cases xs with
  | nil => cases h
  | cons y ys => exact ⟨y, ys, rfl, by simpa using h⟩
theorem uR : ∀ (m u : Nat), (nO m u).length ≤ m + 1
  | 0, u => by simp [nO]
  | m + 1, u => by
    unfold nO
    split
    · have := uR m (u / 128)
      simp only [List.length_cons]
      omega
    · simp
theorem nB {n : Int} (h : dO n) : (dA n).length ≤ 10 := uR 9 _
theorem t8 {P : Program} {t : TypeId} (h : P.underlying t = some .bool) : Opb P t Bool := fun H enc w base spare held fuel cs x hx => by
  obtain ⟨b, rfl, rfl⟩ := DataW.trod_bool h hx
  exact ⟨b, rfl, by
    show (iI b).length ≤ _
    simp only [iI, Rows.uptoBulk, List.length_cons, List.length_nil]
    omega⟩
theorem opb_str_ {P : Program} {t : TypeId} (h : P.underlying t = some .string) : Opb P t ByteArray := fun H enc w base spare held fuel cs x hx => by
  obtain ⟨s, rfl, rfl, hs⟩ := DataW.trod_string h hx
  refine ⟨s, ⟨rfl, hs⟩, ?_⟩
  have h1 := nB (n := (s.size : Int)) (by have : s.size ≤ 9223372036854775807 := hs; simp only [dO]; omega)
  have h2 : s.data.toList.length = s.size := Array.length_toList
  show (dA s.size ++ s.data.toList).length ≤ _
  simp only [Rows.uptoBulk, List.length_append]
  omega
theorem opb_int_ {P : Program} {t : TypeId} (h : P.underlying t = some (.int .i64)) : Opb P t Int := fun H enc w base spare held fuel cs x hx => by
  obtain ⟨n, rfl, rfl, hw⟩ := DataW.trod_int h hx
  simp only [Lit.wf, Bool.and_eq_true, decide_eq_true_eq] at hw
  have hI : dO n := ⟨hw.1, hw.2⟩
  exact ⟨n, ⟨rfl, hI⟩, by
    have := nB hI
    show (dA n).length ≤ _
    simp only [Rows.uptoBulk]
    omega⟩
theorem opb_bool : Opb Tryz.prog 4 Bool := t8 Tryz.underlying4
theorem opb_str : Opb Tryz.prog 9 ByteArray := opb_str_ Tryz.underlying9
theorem opb_n : Opb Tryz.prog 3 Int := opb_int_ Tryz.underlying3
theorem xX {H : Type} (l r : List (DataW H)) : Rows.uptoBulkAll (l ++ r) = Rows.uptoBulkAll l + Rows.uptoBulkAll r := by
  induction l with
  | nil => simp [Rows.uptoBulkAll]
  | cons x l ih => simp only [List.cons_append, Rows.uptoBulkAll, ih]; omega
theorem pN {P : Program} {t e : TypeId} {α : Type} [Rep α] [Cod α] {N : Nat} (h : P.underlying t = some (.slice e)) (hc : P.cellsOf e = Rep.size α) (hp : 0 < Rep.size α) (he : OpbN P e α N) : OpbN P t (List α) N := fun H enc w base spare held fuel hN cs x hx => by
  rcases DataW.trod_slice h hx with ⟨rfl, rfl⟩ | ⟨a, len, cap, elems, rest, n, hfu, rfl, rfl, _, hl, hm, hel, hget, _⟩
  · exact ⟨[], ⟨.slice none 0 0, rfl, none, 0, rfl, ⟨Nat.le_refl _, Nat.zero_le _⟩, fun h0 => absurd h0 dB⟩, by
      have := nB (n := 0) (by simp only [dO]; omega)
      show (dA ((0 : Nat) : Int) ++ []).length ≤ _
      simp only [List.append_nil, Rows.uptoBulk]
      exact this⟩
  · have hone : ∀ i, i < len → ∃ (y : α) (cs' : List Value), w.cells? base (a.add (i * P.cellsOf e)) (P.cellsOf e) = some cs' ∧ Rep.rd (sM w) cs' y ∧ ∀ z, elems[i]? = some z → (Cod.enc y).length ≤ 10 * Rows.uptoBulk z.1 := fun i hi => by
      have := hget i hi
      rw [List.getElem?_eq_getElem aO, Option.bind_eq_some_iff] at this
      obtain ⟨cs', h1, h2⟩ := this
      obtain ⟨y, hy, hb⟩ := he H enc w base spare held n aO cs' _ h2
      exact ⟨y, cs', h1, hy, fun z hz => by rw [List.getElem?_eq_getElem aO] at hz; injection hz with hz; rw [← hz]; exact hb⟩
    have hall : ∀ m, m ≤ len → ∃ xs : List α, xs.length = m ∧ (xs.flatMap Cod.enc).length ≤ 10 * Rows.uptoBulkAll ((elems.take m).map (·.1)) ∧ ∀ i y, xs[i]? = some y → ∃ cs' : List Value, w.cells? base (a.add (i * P.cellsOf e)) (P.cellsOf e) = some cs' ∧ Rep.rd (sM w) cs' y := by
      intro m
      induction m with
      | zero => exact fun _ => ⟨[], rfl, by simp, fun i y hi => by simp at hi⟩
      | succ m ih =>
        intro hm'
        obtain ⟨xs, e1, e3, e2⟩ := ih aO
        obtain ⟨y, cs', h1, h2, h3⟩ := hone m aO
        refine ⟨xs ++ [y], by simp [e1], ?_, fun i z hi => ?_⟩
        · have hm2 : m < elems.length := by omega
          have h4 := h3 _ (List.getElem?_eq_getElem hm2)
          rw [List.take_add_one, List.getElem?_eq_getElem hm2, List.map_append, xX]
          simp only [Option.toList_some, List.map_cons, List.map_nil, Rows.uptoBulkAll, List.flatMap_append, List.flatMap_cons, List.flatMap_nil, List.append_nil, List.length_append]
          omega
        by_cases hh : i < xs.length
        · rw [List.getElem?_append_left hh] at hi
          exact e2 i z hi
        · have hi' := (List.getElem?_eq_some_iff.1 hi).1
          simp at hi'
          obtain rfl : i = xs.length := by omega
          simp at hi
          subst hi
          rw [e1]
          exact ⟨cs', h1, h2⟩
    obtain ⟨xs, e1, e3, e2⟩ := hall len (Nat.le_refl _)
    subst e1
    have hcell : ∀ i y, xs[i]? = some y → ∃ cs' : List Value, Rep.rd (sM w) cs' y ∧ ∀ j v, cs'[j]? = some v → w.cell? ((a.add (i * Rep.size α)).add j) = some v := fun i y hi => by
      obtain ⟨cs', h1, h2⟩ := e2 i y hi
      refine ⟨cs', h2, fun j v hj => ?_⟩
      unfold World.cells? at h1
      split at h1
      · have hlen := mapM_some_length h1
        have hj' := (List.getElem?_eq_some_iff.1 hj).1
        rw [List.length_range] at hlen
        have := mapM_some_get h1 j j (by rw [List.getElem?_range aO])
        rw [hc] at this
        rw [this]; exact hj
      · cases h1
    have hbk : (Cod.enc xs).length ≤ 10 * Rows.uptoBulk (DataW.slice (elems.map (·.1)) (rest.map (·.1))) := by
      rw [List.take_of_length_le aO] at e3
      have := nB (n := (xs.length : Int)) (by have h5 : cap ≤ 9223372036854775807 := hm; simp only [dO]; omega)
      show (dA xs.length ++ xs.flatMap Cod.enc).length ≤ _
      simp only [List.length_append, Rows.uptoBulk]
      omega
    refine ⟨xs, ⟨_, rfl, some a, cap, rfl, ⟨hl, ?_⟩, fun h0 => ?_⟩, hbk⟩
    · exact hm
    · have hsp : a.spot = none := by
        obtain ⟨cs', h1, h2⟩ := hcell 0 xs[0] (List.getElem?_eq_getElem h0)
        have hl' := Rep.len h1
        have := h2 0 (cs'[0]'aO) (List.getElem?_eq_getElem aO)
        simp only [Nat.zero_mul, Addr.add, if_pos] at this
        unfold World.cell? at this
        split at this
        · cases hs : a.spot with
          | none => rfl
          | some z => rw [hs] at this; simp at this
        · cases this
      obtain ⟨b, o, sp⟩ := a
      subst hsp
      refine ⟨b, o, rfl, fun i y hi => ?_⟩
      obtain ⟨cs', h1, h2⟩ := hcell i y hi
      refine ⟨cs', h1, fun j v hj => ?_⟩
      have := h2 j v hj
      rw [Addr.add_mk, Addr.add_mk] at this
      exact this
theorem jI {P : Program} {t e : TypeId} {α : Type} [Rep α] [Cod α] (h : P.underlying t = some (.slice e)) (hc : P.cellsOf e = Rep.size α) (hp : 0 < Rep.size α) (he : Opb P e α) : Opb P t (List α) := OpbN.all (fun N => pN h hc hp (he.n N))
theorem Tm.rdb_of {s : Sto} {cs : List Value} {k i : Int} {nm : ByteArray} {l : List Tm} (h : Rep.rd s cs ((k, i, nm, l) : Int × Int × ByteArray × List Tm)) : Rep.rd s cs (.mk k i nm l : Tm) := by
  obtain ⟨c1, _, rfl, ⟨rfl, hk⟩, c2, _, rfl, ⟨rfl, hi⟩, c3, c4, rfl, ⟨rfl, hn⟩, v, rfl, hv⟩ := h
  have hv' := hv
  obtain ⟨A, c, rfl, hc, _⟩ := hv
  exact Unp.re (x := (.mk k i nm l : Tm)) (y := ((A, c) : Option Addr × Nat)) (show dO k ∧ dO i ∧ nm.size ≤ 9223372036854775807 ∧ l.length ≤ 9223372036854775807 from ⟨hk, hi, hn, Nat.le_trans hc.1 hc.2⟩) (fun p hp => by
    obtain rfl : p = Sl (.slice A l.length c) l := by simpa [Unp.fs, Tm.fs] using hp
    exact hv')
theorem Tp.rdb_of {s : Sto} {cs : List Value} {nm : ByteArray} {l : List Tp} (h : Rep.rd s cs ((nm, l) : ByteArray × List Tp)) : Rep.rd s cs (.mk nm l : Tp) := by
  obtain ⟨c3, c4, rfl, ⟨rfl, hn⟩, v, rfl, hv⟩ := h
  have hv' := hv
  obtain ⟨A, c, rfl, hc, _⟩ := hv
  exact Unp.re (x := (.mk nm l : Tp)) (y := ((A, c) : Option Addr × Nat)) (show nm.size ≤ 9223372036854775807 ∧ l.length ≤ 9223372036854775807 from ⟨hn, Nat.le_trans hc.1 hc.2⟩) (fun p hp => by
    obtain rfl : p = Sl (.slice A l.length c) l := by simpa [Unp.fs, Tp.fs] using hp
    exact hv')
theorem opbN_tm : ∀ N, OpbN Tryz.prog 160 Tm N := by
  intro N
  induction N with
  | zero =>
    intro H enc w base spare held fuel hf cs x hx
    obtain ⟨xs, n, hn, _⟩ := DataW.trod_struct Tryz.underlying160 hx
    omega
  | succ N ih =>
  intro H enc w base spare held fuel hfu cs x hx
  have ihl : OpbN Tryz.prog 113 (List Tm) N := pN Tryz.underlying113 (by kernel_rfl) (show 0 < 4 by decide) ih
  obtain ⟨xs, n, hn, hxe, hl, hxl, hf⟩ := DataW.trod_struct Tryz.underlying160 hx
  rw [show Tryz.prog.cellsOf 160 = 4 by kernel_rfl] at hl
  have hxl2 : xs.length = 4 := hxl
  have ihl_at := fun cs x hx => ihl H enc w base spare held n aO cs x hx
  obtain ⟨y0, xs0, rfl, hq0⟩ := dG hxl2
  obtain ⟨y1, xs1, rfl, hq1⟩ := dG hq0
  obtain ⟨y2, xs2, rfl, hq2⟩ := dG hq1
  obtain ⟨y3, xs3, rfl, hq3⟩ := dG hq2
  obtain rfl := List.eq_nil_of_length_eq_zero hq3
  subst hxe
  have d0 := dU (o := 0) (sz := 1) opb_n.at (hf 0 _ rfl) (by kernel_rfl)
  have d1 := dU (o := 1) (sz := 1) opb_n.at (hf 1 _ rfl) (by kernel_rfl)
  have d2 := dU (o := 2) (sz := 1) opb_str.at (hf 2 _ rfl) (by kernel_rfl)
  have d3 := dU (o := 3) (sz := 1) ihl_at (hf 3 _ rfl) (by kernel_rfl)
  obtain ⟨⟨k, i, nm, l⟩, q, hb⟩ := (dR 1 dT d0 (dR 1 dT d1 (dR 1 dT d2 (jX 1 d3 aO))))
  rw [List.drop_zero] at q
  refine ⟨.mk k i nm l, Tm.rdb_of q, Nat.le_trans (Nat.le_of_eq ?_) (Nat.le_trans hb ?_)⟩
  · show (Tm.enc _).length = _
    rw [Tm.enc_eq]
    rfl
  · simp only [List.map_cons, List.map_nil, Rows.uptoBulk, Rows.uptoBulkAll]
    omega
theorem opb_tm : Opb Tryz.prog 160 Tm := OpbN.all opbN_tm
theorem opb_tms : Opb Tryz.prog 113 (List Tm) := jI Tryz.underlying113 (by kernel_rfl) (show 0 < 4 by decide) opb_tm
theorem opbN_tp : ∀ N, OpbN Tryz.prog 158 Tp N := by
  intro N
  induction N with
  | zero =>
    intro H enc w base spare held fuel hf cs x hx
    obtain ⟨xs, n, hn, _⟩ := DataW.trod_struct Tryz.underlying158 hx
    omega
  | succ N ih =>
  intro H enc w base spare held fuel hfu cs x hx
  have ihl : OpbN Tryz.prog 156 (List Tp) N := pN Tryz.underlying156 (by kernel_rfl) (show 0 < 2 by decide) ih
  obtain ⟨xs, n, hn, hxe, hl, hxl, hf⟩ := DataW.trod_struct Tryz.underlying158 hx
  rw [show Tryz.prog.cellsOf 158 = 2 by kernel_rfl] at hl
  have hxl2 : xs.length = 2 := hxl
  have ihl_at := fun cs x hx => ihl H enc w base spare held n aO cs x hx
  obtain ⟨y0, xs0, rfl, hq0⟩ := dG hxl2
  obtain ⟨y1, xs1, rfl, hq1⟩ := dG hq0
  obtain rfl := List.eq_nil_of_length_eq_zero hq1
  subst hxe
  have d0 := dU (o := 0) (sz := 1) opb_str.at (hf 0 _ rfl) (by kernel_rfl)
  have d1 := dU (o := 1) (sz := 1) ihl_at (hf 1 _ rfl) (by kernel_rfl)
  obtain ⟨⟨nm, l⟩, q, hb⟩ := (dR 1 dT d0 (jX 1 d1 aO))
  rw [List.drop_zero] at q
  refine ⟨.mk nm l, Tp.rdb_of q, Nat.le_trans (Nat.le_of_eq ?_) (Nat.le_trans hb ?_)⟩
  · show (Tp.enc _).length = _
    rw [Tp.enc_eq]
    rfl
  · simp only [List.map_cons, List.map_nil, Rows.uptoBulk, Rows.uptoBulkAll]
    omega
theorem opb_tp : Opb Tryz.prog 158 Tp := OpbN.all opbN_tp
theorem opb_ints : Opb Tryz.prog 22 (List Int) := jI Tryz.underlying22 (by kernel_rfl) (show 0 < 1 by decide) opb_n
theorem opb_fa : Opb Tryz.prog 151 (FaD) := fun H enc w base spare held fuel cs x hx => by
  obtain ⟨xs, n, hn, hxe, hl, hxl, hf⟩ := DataW.trod_struct Tryz.underlying151 hx
  rw [show Tryz.prog.cellsOf 151 = 2 by kernel_rfl] at hl
  have hxl2 : xs.length = 2 := hxl
  obtain ⟨y0, xs0, rfl, hq0⟩ := dG hxl2
  obtain ⟨y1, xs1, rfl, hq1⟩ := dG hq0
  obtain rfl := List.eq_nil_of_length_eq_zero hq1
  subst hxe
  have d0 := dU (o := 0) (sz := 1) opb_str.at (hf 0 _ rfl) (by kernel_rfl)
  have d1 := dU (o := 1) (sz := 1) opb_tms.at (hf 1 _ rfl) (by kernel_rfl)
  obtain ⟨a, q, hb⟩ := (dR 1 dT d0 (jX 1 d1 aO))
  rw [List.drop_zero] at q
  refine ⟨a, q, Nat.le_trans hb ?_⟩
  simp only [List.map_cons, List.map_nil, Rows.uptoBulk, Rows.uptoBulkAll]
  omega
theorem opb_fr : Opb Tryz.prog 143 (pU) := fun H enc w base spare held fuel cs x hx => by
  obtain ⟨xs, n, hn, hxe, hl, hxl, hf⟩ := DataW.trod_struct Tryz.underlying143 hx
  rw [show Tryz.prog.cellsOf 143 = 5 by kernel_rfl] at hl
  have hxl2 : xs.length = 5 := hxl
  obtain ⟨y0, xs0, rfl, hq0⟩ := dG hxl2
  obtain ⟨y1, xs1, rfl, hq1⟩ := dG hq0
  obtain ⟨y2, xs2, rfl, hq2⟩ := dG hq1
  obtain ⟨y3, xs3, rfl, hq3⟩ := dG hq2
  obtain ⟨y4, xs4, rfl, hq4⟩ := dG hq3
  obtain rfl := List.eq_nil_of_length_eq_zero hq4
  subst hxe
  have d0 := dU (o := 0) (sz := 1) opb_tms.at (hf 0 _ rfl) (by kernel_rfl)
  have d1 := dU (o := 1) (sz := 1) opb_tms.at (hf 1 _ rfl) (by kernel_rfl)
  have d2 := dU (o := 2) (sz := 1) opb_n.at (hf 2 _ rfl) (by kernel_rfl)
  have d3 := dU (o := 3) (sz := 1) opb_n.at (hf 3 _ rfl) (by kernel_rfl)
  have d4 := dU (o := 4) (sz := 1) opb_n.at (hf 4 _ rfl) (by kernel_rfl)
  obtain ⟨a, q, hb⟩ := (dR 1 dT d0 (dR 1 dT d1 (dR 1 dT d2 (dR 1 dT d3 (jX 1 d4 aO)))))
  rw [List.drop_zero] at q
  refine ⟨a, q, Nat.le_trans hb ?_⟩
  simp only [List.map_cons, List.map_nil, Rows.uptoBulk, Rows.uptoBulkAll]
  omega
theorem opb_br : Opb Tryz.prog 147 (pP) := fun H enc w base spare held fuel cs x hx => by
  obtain ⟨xs, n, hn, hxe, hl, hxl, hf⟩ := DataW.trod_struct Tryz.underlying147 hx
  rw [show Tryz.prog.cellsOf 147 = 7 by kernel_rfl] at hl
  have hxl2 : xs.length = 7 := hxl
  obtain ⟨y0, xs0, rfl, hq0⟩ := dG hxl2
  obtain ⟨y1, xs1, rfl, hq1⟩ := dG hq0
  obtain ⟨y2, xs2, rfl, hq2⟩ := dG hq1
  obtain ⟨y3, xs3, rfl, hq3⟩ := dG hq2
  obtain ⟨y4, xs4, rfl, hq4⟩ := dG hq3
  obtain ⟨y5, xs5, rfl, hq5⟩ := dG hq4
  obtain ⟨y6, xs6, rfl, hq6⟩ := dG hq5
  obtain rfl := List.eq_nil_of_length_eq_zero hq6
  subst hxe
  have d0 := dU (o := 0) (sz := 1) opb_n.at (hf 0 _ rfl) (by kernel_rfl)
  have d1 := dU (o := 1) (sz := 1) opb_n.at (hf 1 _ rfl) (by kernel_rfl)
  have d2 := dU (o := 2) (sz := 1) opb_ints.at (hf 2 _ rfl) (by kernel_rfl)
  have d3 := dU (o := 3) (sz := 1) opb_bool.at (hf 3 _ rfl) (by kernel_rfl)
  have d4 := dU (o := 4) (sz := 1) opb_ints.at (hf 4 _ rfl) (by kernel_rfl)
  have d5 := dU (o := 5) (sz := 1) opb_bool.at (hf 5 _ rfl) (by kernel_rfl)
  have d6 := dU (o := 6) (sz := 1) opb_n.at (hf 6 _ rfl) (by kernel_rfl)
  obtain ⟨a, q, hb⟩ := (dR 1 dT d0 (dR 1 dT d1 (dR 1 dT d2 (dR 1 dT d3 (dR 1 dT d4 (dR 1 dT d5 (jX 1 d6 aO)))))))
  rw [List.drop_zero] at q
  refine ⟨a, q, Nat.le_trans hb ?_⟩
  simp only [List.map_cons, List.map_nil, Rows.uptoBulk, Rows.uptoBulkAll]
  omega
theorem opb_sc : Opb Tryz.prog 153 (pR) := fun H enc w base spare held fuel cs x hx => by
  obtain ⟨xs, n, hn, hxe, hl, hxl, hf⟩ := DataW.trod_struct Tryz.underlying153 hx
  rw [show Tryz.prog.cellsOf 153 = 7 by kernel_rfl] at hl
  have hxl2 : xs.length = 6 := hxl
  obtain ⟨y0, xs0, rfl, hq0⟩ := dG hxl2
  obtain ⟨y1, xs1, rfl, hq1⟩ := dG hq0
  obtain ⟨y2, xs2, rfl, hq2⟩ := dG hq1
  obtain ⟨y3, xs3, rfl, hq3⟩ := dG hq2
  obtain ⟨y4, xs4, rfl, hq4⟩ := dG hq3
  obtain ⟨y5, xs5, rfl, hq5⟩ := dG hq4
  obtain rfl := List.eq_nil_of_length_eq_zero hq5
  subst hxe
  have d0 := dU (o := 0) (sz := 1) opb_n.at (hf 0 _ rfl) (by kernel_rfl)
  have d1 := dU (o := 1) (sz := 1) opb_n.at (hf 1 _ rfl) (by kernel_rfl)
  have d2 := dU (o := 2) (sz := 1) opb_n.at (hf 2 _ rfl) (by kernel_rfl)
  have d3 := dU (o := 3) (sz := 1) opb_n.at (hf 3 _ rfl) (by kernel_rfl)
  have d4 := dU (o := 4) (sz := 1) opb_tms.at (hf 4 _ rfl) (by kernel_rfl)
  have d5 := dU (o := 5) (sz := 2) opb_fa.at (hf 5 _ rfl) (by kernel_rfl)
  obtain ⟨a, q, hb⟩ := (dR 1 dT d0 (dR 1 dT d1 (dR 1 dT d2 (dR 1 dT d3 (dR 1 dT d4 (jX 2 d5 aO))))))
  rw [List.drop_zero] at q
  refine ⟨a, q, Nat.le_trans hb ?_⟩
  simp only [List.map_cons, List.map_nil, Rows.uptoBulk, Rows.uptoBulkAll]
  omega
theorem opb_va : Opb Tryz.prog 162 (mU) := fun H enc w base spare held fuel cs x hx => by
  obtain ⟨xs, n, hn, hxe, hl, hxl, hf⟩ := DataW.trod_struct Tryz.underlying162 hx
  rw [show Tryz.prog.cellsOf 162 = 8 by kernel_rfl] at hl
  have hxl2 : xs.length = 4 := hxl
  obtain ⟨y0, xs0, rfl, hq0⟩ := dG hxl2
  obtain ⟨y1, xs1, rfl, hq1⟩ := dG hq0
  obtain ⟨y2, xs2, rfl, hq2⟩ := dG hq1
  obtain ⟨y3, xs3, rfl, hq3⟩ := dG hq2
  obtain rfl := List.eq_nil_of_length_eq_zero hq3
  subst hxe
  have d0 := dU (o := 0) (sz := 1) opb_n.at (hf 0 _ rfl) (by kernel_rfl)
  have d1 := dU (o := 1) (sz := 2) opb_tp.at (hf 1 _ rfl) (by kernel_rfl)
  have d2 := dU (o := 3) (sz := 1) opb_bool.at (hf 2 _ rfl) (by kernel_rfl)
  have d3 := dU (o := 4) (sz := 4) opb_tm.at (hf 3 _ rfl) (by kernel_rfl)
  obtain ⟨a, q, hb⟩ := (dR 1 dT d0 (dR 2 dT d1 (dR 1 dT d2 (jX 4 d3 aO))))
  rw [List.drop_zero] at q
  refine ⟨a, q, Nat.le_trans hb ?_⟩
  simp only [List.map_cons, List.map_nil, Rows.uptoBulk, Rows.uptoBulkAll]
  omega
theorem opb_tr : Opb Tryz.prog 166 (nJ) := fun H enc w base spare held fuel cs x hx => by
  obtain ⟨xs, n, hn, hxe, hl, hxl, hf⟩ := DataW.trod_struct Tryz.underlying166 hx
  rw [show Tryz.prog.cellsOf 166 = 9 by kernel_rfl] at hl
  have hxl2 : xs.length = 2 := hxl
  obtain ⟨y0, xs0, rfl, hq0⟩ := dG hxl2
  obtain ⟨y1, xs1, rfl, hq1⟩ := dG hq0
  obtain rfl := List.eq_nil_of_length_eq_zero hq1
  subst hxe
  have d0 := dU (o := 0) (sz := 1) opb_n.at (hf 0 _ rfl) (by kernel_rfl)
  have d1 := dU (o := 1) (sz := 8) opb_va.at (hf 1 _ rfl) (by kernel_rfl)
  obtain ⟨a, q, hb⟩ := (dR 1 dT d0 (jX 8 d1 aO))
  rw [List.drop_zero] at q
  refine ⟨a, q, Nat.le_trans hb ?_⟩
  simp only [List.map_cons, List.map_nil, Rows.uptoBulk, Rows.uptoBulkAll]
  omega
theorem opb_ty : Opb Tryz.prog 207 (sQ) := fun H enc w base spare held fuel cs x hx => by
  obtain ⟨xs, n, hn, hxe, hl, hxl, hf⟩ := DataW.trod_struct Tryz.underlying207 hx
  rw [show Tryz.prog.cellsOf 207 = 3 by kernel_rfl] at hl
  have hxl2 : xs.length = 3 := hxl
  obtain ⟨y0, xs0, rfl, hq0⟩ := dG hxl2
  obtain ⟨y1, xs1, rfl, hq1⟩ := dG hq0
  obtain ⟨y2, xs2, rfl, hq2⟩ := dG hq1
  obtain rfl := List.eq_nil_of_length_eq_zero hq2
  subst hxe
  have d0 := dU (o := 0) (sz := 1) opb_n.at (hf 0 _ rfl) (by kernel_rfl)
  have d1 := dU (o := 1) (sz := 1) opb_n.at (hf 1 _ rfl) (by kernel_rfl)
  have d2 := dU (o := 2) (sz := 1) opb_n.at (hf 2 _ rfl) (by kernel_rfl)
  obtain ⟨a, q, hb⟩ := (dR 1 dT d0 (dR 1 dT d1 (jX 1 d2 aO)))
  rw [List.drop_zero] at q
  refine ⟨a, q, Nat.le_trans hb ?_⟩
  simp only [List.map_cons, List.map_nil, Rows.uptoBulk, Rows.uptoBulkAll]
  omega
theorem opb_tys : Opb Tryz.prog 112 (List sQ) := jI Tryz.underlying112 (by kernel_rfl) (show 0 < 3 by decide) opb_ty
theorem opb_ch : Opb Tryz.prog 115 (pL) := fun H enc w base spare held fuel cs x hx => by
  obtain ⟨xs, n, hn, hxe, hl, hxl, hf⟩ := DataW.trod_struct Tryz.underlying115 hx
  rw [show Tryz.prog.cellsOf 115 = 18 by kernel_rfl] at hl
  have hxl2 : xs.length = 18 := hxl
  obtain ⟨y0, xs0, rfl, hq0⟩ := dG hxl2
  obtain ⟨y1, xs1, rfl, hq1⟩ := dG hq0
  obtain ⟨y2, xs2, rfl, hq2⟩ := dG hq1
  obtain ⟨y3, xs3, rfl, hq3⟩ := dG hq2
  obtain ⟨y4, xs4, rfl, hq4⟩ := dG hq3
  obtain ⟨y5, xs5, rfl, hq5⟩ := dG hq4
  obtain ⟨y6, xs6, rfl, hq6⟩ := dG hq5
  obtain ⟨y7, xs7, rfl, hq7⟩ := dG hq6
  obtain ⟨y8, xs8, rfl, hq8⟩ := dG hq7
  obtain ⟨y9, xs9, rfl, hq9⟩ := dG hq8
  obtain ⟨y10, xs10, rfl, hq10⟩ := dG hq9
  obtain ⟨y11, xs11, rfl, hq11⟩ := dG hq10
  obtain ⟨y12, xs12, rfl, hq12⟩ := dG hq11
  obtain ⟨y13, xs13, rfl, hq13⟩ := dG hq12
  obtain ⟨y14, xs14, rfl, hq14⟩ := dG hq13
  obtain ⟨y15, xs15, rfl, hq15⟩ := dG hq14
  obtain ⟨y16, xs16, rfl, hq16⟩ := dG hq15
  obtain ⟨y17, xs17, rfl, hq17⟩ := dG hq16
  obtain rfl := List.eq_nil_of_length_eq_zero hq17
  subst hxe
  have d0 := dU (o := 0) (sz := 1) opb_n.at (hf 0 _ rfl) (by kernel_rfl)
  have d1 := dU (o := 1) (sz := 1) opb_tys.at (hf 1 _ rfl) (by kernel_rfl)
  have d2 := dU (o := 2) (sz := 1) opb_tms.at (hf 2 _ rfl) (by kernel_rfl)
  have d3 := dU (o := 3) (sz := 1) opb_n.at (hf 3 _ rfl) (by kernel_rfl)
  have d4 := dU (o := 4) (sz := 1) opb_n.at (hf 4 _ rfl) (by kernel_rfl)
  have d5 := dU (o := 5) (sz := 1) opb_n.at (hf 5 _ rfl) (by kernel_rfl)
  have d6 := dU (o := 6) (sz := 1) opb_n.at (hf 6 _ rfl) (by kernel_rfl)
  have d7 := dU (o := 7) (sz := 1) opb_n.at (hf 7 _ rfl) (by kernel_rfl)
  have d8 := dU (o := 8) (sz := 1) opb_n.at (hf 8 _ rfl) (by kernel_rfl)
  have d9 := dU (o := 9) (sz := 1) opb_n.at (hf 9 _ rfl) (by kernel_rfl)
  have d10 := dU (o := 10) (sz := 1) opb_bool.at (hf 10 _ rfl) (by kernel_rfl)
  have d11 := dU (o := 11) (sz := 1) opb_ints.at (hf 11 _ rfl) (by kernel_rfl)
  have d12 := dU (o := 12) (sz := 1) opb_ints.at (hf 12 _ rfl) (by kernel_rfl)
  have d13 := dU (o := 13) (sz := 1) opb_n.at (hf 13 _ rfl) (by kernel_rfl)
  have d14 := dU (o := 14) (sz := 1) opb_n.at (hf 14 _ rfl) (by kernel_rfl)
  have d15 := dU (o := 15) (sz := 1) opb_n.at (hf 15 _ rfl) (by kernel_rfl)
  have d16 := dU (o := 16) (sz := 1) opb_n.at (hf 16 _ rfl) (by kernel_rfl)
  have d17 := dU (o := 17) (sz := 1) opb_n.at (hf 17 _ rfl) (by kernel_rfl)
  obtain ⟨a, q, hb⟩ := (dR 1 dT d0 (dR 1 dT d1 (dR 1 dT d2 (dR 1 dT d3 (dR 1 dT d4 (dR 1 dT d5 (dR 1 dT d6 (dR 1 dT d7 (dR 1 dT d8 (dR 1 dT d9 (dR 1 dT d10 (dR 1 dT d11 (dR 1 dT d12 (dR 1 dT d13 (dR 1 dT d14 (dR 1 dT d15 (dR 1 dT d16 (jX 1 d17 aO))))))))))))))))))
  rw [List.drop_zero] at q
  refine ⟨a, q, Nat.le_trans hb ?_⟩
  simp only [List.map_cons, List.map_nil, Rows.uptoBulk, Rows.uptoBulkAll]
  omega
theorem opb_frs : Opb Tryz.prog 23 (List pU) := jI Tryz.underlying23 (by kernel_rfl) (show 0 < 5 by decide) opb_fr
theorem opb_brs : Opb Tryz.prog 24 (List pP) := jI Tryz.underlying24 (by kernel_rfl) (show 0 < 7 by decide) opb_br
theorem opb_scs : Opb Tryz.prog 25 (List pR) := jI Tryz.underlying25 (by kernel_rfl) (show 0 < 7 by decide) opb_sc
theorem opb_vas : Opb Tryz.prog 26 (List mU) := jI Tryz.underlying26 (by kernel_rfl) (show 0 < 8 by decide) opb_va
theorem opb_trs : Opb Tryz.prog 29 (List nJ) := jI Tryz.underlying29 (by kernel_rfl) (show 0 < 9 by decide) opb_tr
theorem opb_chs : Opb Tryz.prog 30 (List pL) := jI Tryz.underlying30 (by kernel_rfl) (show 0 < 18 by decide) opb_ch
theorem opb_st : Opb Tryz.prog 28 (List mU) := fun H enc w base spare held fuel cs x hx => by
  obtain ⟨xs, n, hn, hxe, hl, hxl, hf⟩ := DataW.trod_struct Tryz.underlying28 hx
  rw [show Tryz.prog.cellsOf 28 = 1 by kernel_rfl] at hl
  have hxl2 : xs.length = 1 := hxl
  obtain ⟨y0, xs0, rfl, hq0⟩ := dG hxl2
  obtain rfl := List.eq_nil_of_length_eq_zero hq0
  subst hxe
  have d0 := dU (o := 0) (sz := 1) opb_vas.at (hf 0 _ rfl) (by kernel_rfl)
  obtain ⟨a, q, hb⟩ := (jX 1 d0 aO)
  rw [List.drop_zero] at q
  refine ⟨a, q, Nat.le_trans hb ?_⟩
  simp only [List.map_cons, List.map_nil, Rows.uptoBulk, Rows.uptoBulkAll]
  omega
theorem opb_ma : Opb Tryz.prog 32 (jO) := fun H enc w base spare held fuel cs x hx => by
  obtain ⟨xs, n, hn, hxe, hl, hxl, hf⟩ := DataW.trod_struct Tryz.underlying32 hx
  rw [show Tryz.prog.cellsOf 32 = 16 by kernel_rfl] at hl
  have hxl2 : xs.length = 16 := hxl
  obtain ⟨y0, xs0, rfl, hq0⟩ := dG hxl2
  obtain ⟨y1, xs1, rfl, hq1⟩ := dG hq0
  obtain ⟨y2, xs2, rfl, hq2⟩ := dG hq1
  obtain ⟨y3, xs3, rfl, hq3⟩ := dG hq2
  obtain ⟨y4, xs4, rfl, hq4⟩ := dG hq3
  obtain ⟨y5, xs5, rfl, hq5⟩ := dG hq4
  obtain ⟨y6, xs6, rfl, hq6⟩ := dG hq5
  obtain ⟨y7, xs7, rfl, hq7⟩ := dG hq6
  obtain ⟨y8, xs8, rfl, hq8⟩ := dG hq7
  obtain ⟨y9, xs9, rfl, hq9⟩ := dG hq8
  obtain ⟨y10, xs10, rfl, hq10⟩ := dG hq9
  obtain ⟨y11, xs11, rfl, hq11⟩ := dG hq10
  obtain ⟨y12, xs12, rfl, hq12⟩ := dG hq11
  obtain ⟨y13, xs13, rfl, hq13⟩ := dG hq12
  obtain ⟨y14, xs14, rfl, hq14⟩ := dG hq13
  obtain ⟨y15, xs15, rfl, hq15⟩ := dG hq14
  obtain rfl := List.eq_nil_of_length_eq_zero hq15
  subst hxe
  have d0 := dU (o := 0) (sz := 1) opb_n.at (hf 0 _ rfl) (by kernel_rfl)
  have d1 := dU (o := 1) (sz := 1) opb_n.at (hf 1 _ rfl) (by kernel_rfl)
  have d2 := dU (o := 2) (sz := 1) opb_n.at (hf 2 _ rfl) (by kernel_rfl)
  have d3 := dU (o := 3) (sz := 1) opb_n.at (hf 3 _ rfl) (by kernel_rfl)
  have d4 := dU (o := 4) (sz := 1) opb_n.at (hf 4 _ rfl) (by kernel_rfl)
  have d5 := dU (o := 5) (sz := 1) opb_n.at (hf 5 _ rfl) (by kernel_rfl)
  have d6 := dU (o := 6) (sz := 1) opb_bool.at (hf 6 _ rfl) (by kernel_rfl)
  have d7 := dU (o := 7) (sz := 1) opb_ints.at (hf 7 _ rfl) (by kernel_rfl)
  have d8 := dU (o := 8) (sz := 1) opb_ints.at (hf 8 _ rfl) (by kernel_rfl)
  have d9 := dU (o := 9) (sz := 1) opb_frs.at (hf 9 _ rfl) (by kernel_rfl)
  have d10 := dU (o := 10) (sz := 1) opb_brs.at (hf 10 _ rfl) (by kernel_rfl)
  have d11 := dU (o := 11) (sz := 1) opb_scs.at (hf 11 _ rfl) (by kernel_rfl)
  have d12 := dU (o := 12) (sz := 1) opb_st.at (hf 12 _ rfl) (by kernel_rfl)
  have d13 := dU (o := 13) (sz := 1) opb_trs.at (hf 13 _ rfl) (by kernel_rfl)
  have d14 := dU (o := 14) (sz := 1) opb_chs.at (hf 14 _ rfl) (by kernel_rfl)
  have d15 := dU (o := 15) (sz := 1) opb_n.at (hf 15 _ rfl) (by kernel_rfl)
  obtain ⟨a, q, hb⟩ := (dR 1 dT d0 (dR 1 dT d1 (dR 1 dT d2 (dR 1 dT d3 (dR 1 dT d4 (dR 1 dT d5 (dR 1 dT d6 (dR 1 dT d7 (dR 1 dT d8 (dR 1 dT d9 (dR 1 dT d10 (dR 1 dT d11 (dR 1 dT d12 (dR 1 dT d13 (dR 1 dT d14 (jX 1 d15 aO))))))))))))))))
  rw [List.drop_zero] at q
  refine ⟨a, q, Nat.le_trans hb ?_⟩
  simp only [List.map_cons, List.map_nil, Rows.uptoBulk, Rows.uptoBulkAll]
  omega
/-- A state: its value, what it reads as, and how many bytes it has. -/
theorem opb_mach {H : Type} {enc : TypeId × Value → H} {w : World} {base : Nat} {spare : Nat → Bool} {held : Bool} {cs : Array Value} {d : DataW H} {ps : List MemPlace} (h : DataW.Trod enc Tryz.prog w base spare held 32 (.agg cs) d ps) : ∃ (m : jO) (y : Unp.Y jO), Value.agg cs = .agg (Unp.cs m y).toArray ∧ Unp.ok m y ∧ Cod.Vd (α := jO) m ∧ (∀ p ∈ Unp.fs m y, p.p (sM w)) ∧ (Cod.enc (α := jO) m).length ≤ 10 * Rows.uptoBulk d := by
  obtain ⟨fuel, hf⟩ := h
  obtain ⟨m, hm, hb⟩ := opb_ma _ _ _ _ _ _ _ _ _ hf
  have hv := CodV.vd hm
  obtain ⟨y, e, hok, hfs⟩ := Unp.un hm
  obtain ⟨cl⟩ := cs
  have e' : cl = Unp.cs m y := e
  subst e'
  exact ⟨m, y, rfl, hok, hv, hfs, hb⟩
end Go.Proofs.YtggdljhmbckpmaaGreat
