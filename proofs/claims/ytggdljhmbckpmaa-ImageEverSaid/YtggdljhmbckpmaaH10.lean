/- A state of the machine as an argument: what lies in the given memory, as data; printed by gen_opn.py. -/
import Derived.Test.YtggdljhmbckpmaaH9J
import Derived.Test.YtggdljhmbckpmaaD2
import Derived.KernelRfl
set_option linter.unusedVariables false
set_option linter.unusedSimpArgs false
namespace Go.Proofs.Ytggdljhmbckpmaa
open Go Go.RowKit Go.WideShapes
set_option maxRecDepth 100000
set_option maxHeartbeats 1600000
attribute [local semireducible] At S Sl Ls

/-- As Opn, within so much fuel. -/
def OpnN (P : Program) (t : TypeId) (α : Type) [Rep α] (N : Nat) : Prop := ∀ (H : Type) (enc : TypeId × Value → H) (w : World) (base : Nat) (spare : Nat → Bool) (held : Bool) (fuel : Nat), fuel ≤ N → ∀ (cs : List Value) (x : DataW H × List MemPlace),
  DataW.trod enc P w base spare held fuel t cs = some x → ∃ a : α, Rep.rd (cst w) cs a
theorem Opn.n {P : Program} {t : TypeId} {α : Type} [Rep α] (h : Opn P t α) (N : Nat) : OpnN P t α N := fun H enc w base spare held fuel _ cs x hx => h H enc w base spare held fuel cs x hx
theorem OpnN.all {P : Program} {t : TypeId} {α : Type} [Rep α] (h : ∀ N, OpnN P t α N) : Opn P t α := fun H enc w base spare held fuel cs x hx => h fuel H enc w base spare held fuel (Nat.le_refl _) cs x hx
theorem rd_step {α β : Type} [Rep α] [Rep β] {s : Sto} {cs : List Value} {o o' : Nat} (sz : Nat) (ho : o' = o + sz) (h1 : ∃ a : α, Rep.rd s ((cs.drop o).take sz) a) (h2 : ∃ b : β, Rep.rd s (cs.drop o') b) : ∃ p : α × β, Rep.rd s (cs.drop o) p := by
  obtain ⟨a, ha⟩ := h1
  obtain ⟨b, hb⟩ := h2
  subst ho
  exact ⟨(a, b), _, _, by rw [← List.drop_drop, List.take_append_drop], ha, hb⟩
theorem rd_last {α : Type} [Rep α] {s : Sto} {cs : List Value} {o : Nat} (sz : Nat) (h : ∃ a : α, Rep.rd s ((cs.drop o).take sz) a) (hl : cs.length = o + sz) : ∃ a : α, Rep.rd s (cs.drop o) a := by
  rwa [List.take_of_length_le (by rw [List.length_drop]; omega)] at h
theorem opn_bool_ {P : Program} {t : TypeId} (h : P.underlying t = some .bool) : Opn P t Bool := fun H enc w base spare held fuel cs x hx => by
  obtain ⟨b, rfl, _⟩ := DataW.trod_bool h hx
  exact ⟨b, rfl⟩
theorem opn_str_ {P : Program} {t : TypeId} (h : P.underlying t = some .string) : Opn P t ByteArray := fun H enc w base spare held fuel cs x hx => by
  obtain ⟨s, rfl, _, hs⟩ := DataW.trod_string h hx
  exact ⟨s, rfl, hs⟩
theorem opn_bool : Opn Try.prog 4 Bool := opn_bool_ Try.underlying4
theorem opn_str : Opn Try.prog 9 ByteArray := opn_str_ Try.underlying9
theorem opn_n : Opn Try.prog 3 Int := opn_int Try.underlying3
theorem opnN_slice {P : Program} {t e : TypeId} {α : Type} [Rep α] {N : Nat} (h : P.underlying t = some (.slice e)) (hc : P.cellsOf e = Rep.size α) (hp : 0 < Rep.size α) (he : OpnN P e α N) : OpnN P t (List α) N := fun H enc w base spare held fuel hN cs x hx => by
  rcases DataW.trod_slice h hx with ⟨rfl, _⟩ | ⟨a, len, cap, elems, rest, n, hfu, rfl, _, _, hl, hm, hel, hget, _⟩
  · exact ⟨[], .slice none 0 0, rfl, none, 0, rfl, ⟨Nat.le_refl _, Nat.zero_le _⟩, fun h0 => absurd h0 (by simp)⟩
  · have hone : ∀ i, i < len → ∃ (y : α) (cs' : List Value), w.cells? base (a.add (i * P.cellsOf e)) (P.cellsOf e) = some cs' ∧ Rep.rd (cst w) cs' y := fun i hi => by
      have := hget i hi
      rw [List.getElem?_eq_getElem (by omega), Option.bind_eq_some_iff] at this
      obtain ⟨cs', h1, h2⟩ := this
      obtain ⟨y, hy⟩ := he H enc w base spare held n (by omega) cs' _ h2
      exact ⟨y, cs', h1, hy⟩
    have hall : ∀ m, m ≤ len → ∃ xs : List α, xs.length = m ∧ ∀ i y, xs[i]? = some y → ∃ cs' : List Value, w.cells? base (a.add (i * P.cellsOf e)) (P.cellsOf e) = some cs' ∧ Rep.rd (cst w) cs' y := by
      intro m
      induction m with
      | zero => exact fun _ => ⟨[], rfl, fun i y hi => by simp at hi⟩
      | succ m ih =>
        intro hm'
        obtain ⟨xs, e1, e2⟩ := ih (by omega)
        obtain ⟨y, cs', h1, h2⟩ := hone m (by omega)
        refine ⟨xs ++ [y], by simp [e1], fun i z hi => ?_⟩
        by_cases hh : i < xs.length
        · rw [List.getElem?_append_left hh] at hi
          exact e2 i z hi
        · have hi' := (List.getElem?_eq_some_iff.1 hi).1
          simp at hi'
          obtain rfl : i = xs.length := by omega
          simp at hi
          subst hi
          rw [e1]
          exact ⟨cs', h1, h2⟩
    obtain ⟨xs, e1, e2⟩ := hall len (Nat.le_refl _)
    subst e1
    have hcell : ∀ i y, xs[i]? = some y → ∃ cs' : List Value, Rep.rd (cst w) cs' y ∧ ∀ j v, cs'[j]? = some v → w.cell? ((a.add (i * Rep.size α)).add j) = some v := fun i y hi => by
      obtain ⟨cs', h1, h2⟩ := e2 i y hi
      refine ⟨cs', h2, fun j v hj => ?_⟩
      unfold World.cells? at h1
      split at h1
      · have hlen := mapM_some_length h1
        have hj' := (List.getElem?_eq_some_iff.1 hj).1
        rw [List.length_range] at hlen
        have := mapM_some_get h1 j j (by rw [List.getElem?_range (by omega)])
        rw [hc] at this
        rw [this]; exact hj
      · cases h1
    refine ⟨xs, _, rfl, some a, cap, rfl, ⟨hl, ?_⟩, fun h0 => ?_⟩
    · exact hm
    · have hsp : a.spot = none := by
        obtain ⟨cs', h1, h2⟩ := hcell 0 xs[0] (List.getElem?_eq_getElem h0)
        have hl' := Rep.len h1
        have := h2 0 (cs'[0]'(by omega)) (List.getElem?_eq_getElem (by omega))
        simp only [Nat.zero_mul, Addr.add, if_pos] at this
        unfold World.cell? at this
        split at this
        · cases hs : a.spot with
          | none => rfl
          | some z => rw [hs] at this; simp at this
        · cases this
      obtain ⟨b, o, sp⟩ := a
      subst hsp
      refine ⟨b, o, rfl, fun i y hi => ?_⟩
      obtain ⟨cs', h1, h2⟩ := hcell i y hi
      refine ⟨cs', h1, fun j v hj => ?_⟩
      have := h2 j v hj
      rw [Addr.add_mk, Addr.add_mk] at this
      exact this
theorem Tm.rd_of {s : Sto} {cs : List Value} {k i : Int} {nm : ByteArray} {l : List Tm} (h : Rep.rd s cs ((k, i, nm, l) : Int × Int × ByteArray × List Tm)) : Rep.rd s cs (.mk k i nm l : Tm) := by
  obtain ⟨c1, _, rfl, ⟨rfl, hk⟩, c2, _, rfl, ⟨rfl, hi⟩, c3, c4, rfl, ⟨rfl, hn⟩, v, rfl, hv⟩ := h
  have hv' := hv
  obtain ⟨A, c, rfl, hc, _⟩ := hv
  exact Unp.re (x := (.mk k i nm l : Tm)) (y := ((A, c) : Option Addr × Nat)) (show InI k ∧ InI i ∧ nm.size ≤ 9223372036854775807 ∧ l.length ≤ 9223372036854775807 from ⟨hk, hi, hn, Nat.le_trans hc.1 hc.2⟩) (fun p hp => by
    obtain rfl : p = Sl (.slice A l.length c) l := by simpa [Unp.fs, Tm.fs] using hp
    exact hv')
theorem Tp.rd_of {s : Sto} {cs : List Value} {nm : ByteArray} {l : List Tp} (h : Rep.rd s cs ((nm, l) : ByteArray × List Tp)) : Rep.rd s cs (.mk nm l : Tp) := by
  obtain ⟨c3, c4, rfl, ⟨rfl, hn⟩, v, rfl, hv⟩ := h
  have hv' := hv
  obtain ⟨A, c, rfl, hc, _⟩ := hv
  exact Unp.re (x := (.mk nm l : Tp)) (y := ((A, c) : Option Addr × Nat)) (show nm.size ≤ 9223372036854775807 ∧ l.length ≤ 9223372036854775807 from ⟨hn, Nat.le_trans hc.1 hc.2⟩) (fun p hp => by
    obtain rfl : p = Sl (.slice A l.length c) l := by simpa [Unp.fs, Tp.fs] using hp
    exact hv')
theorem opnN_tm : ∀ N, OpnN Try.prog 157 Tm N := by
  intro N
  induction N with
  | zero =>
    intro H enc w base spare held fuel hf cs x hx
    obtain ⟨xs, n, hn, _⟩ := DataW.trod_struct Try.underlying157 hx
    omega
  | succ N ih =>
  intro H enc w base spare held fuel hfu cs x hx
  have ihl : OpnN Try.prog 111 (List Tm) N := opnN_slice Try.underlying111 (by kernel_rfl) (show 0 < 4 by decide) ih
  obtain ⟨xs, n, hn, _, hl, hxl, hf⟩ := DataW.trod_struct Try.underlying157 hx
  rw [show Try.prog.cellsOf 157 = 4 by kernel_rfl] at hl
  have hxl2 : xs.length = 4 := hxl
  have g0 := hf 0 _ rfl
  rw [List.getElem?_eq_getElem (by omega)] at g0
  have d0 : ∃ a : Int, Rep.rd (cst w) ((cs.drop 0).take 1) a := by
    have q : ∃ a : Int, Rep.rd (cst w) ((cs.drop 0).take (Try.prog.cellsOf 3)) a := opn_n _ _ _ _ _ _ _ _ _ g0
    rwa [show Try.prog.cellsOf 3 = 1 by kernel_rfl] at q
  have g1 := hf 1 _ rfl
  rw [List.getElem?_eq_getElem (by omega)] at g1
  have d1 : ∃ a : Int, Rep.rd (cst w) ((cs.drop 1).take 1) a := by
    have q : ∃ a : Int, Rep.rd (cst w) ((cs.drop 1).take (Try.prog.cellsOf 3)) a := opn_n _ _ _ _ _ _ _ _ _ g1
    rwa [show Try.prog.cellsOf 3 = 1 by kernel_rfl] at q
  have g2 := hf 2 _ rfl
  rw [List.getElem?_eq_getElem (by omega)] at g2
  have d2 : ∃ a : ByteArray, Rep.rd (cst w) ((cs.drop 2).take 1) a := by
    have q : ∃ a : ByteArray, Rep.rd (cst w) ((cs.drop 2).take (Try.prog.cellsOf 9)) a := opn_str _ _ _ _ _ _ _ _ _ g2
    rwa [show Try.prog.cellsOf 9 = 1 by kernel_rfl] at q
  have g3 := hf 3 _ rfl
  rw [List.getElem?_eq_getElem (by omega)] at g3
  have d3 : ∃ a : List Tm, Rep.rd (cst w) ((cs.drop 3).take 1) a := by
    have q : ∃ a : List Tm, Rep.rd (cst w) ((cs.drop 3).take (Try.prog.cellsOf 111)) a := ihl _ _ _ _ _ _ _ (by omega) _ _ g3
    rwa [show Try.prog.cellsOf 111 = 1 by kernel_rfl] at q
  have q := (rd_step 1 (by rfl) d0 (rd_step 1 (by rfl) d1 (rd_step 1 (by rfl) d2 (rd_last 1 d3 (by omega)))))
  rw [List.drop_zero] at q
  obtain ⟨⟨k, i, nm, l⟩, q⟩ := q
  exact ⟨.mk k i nm l, Tm.rd_of q⟩
theorem opn_tm : Opn Try.prog 157 Tm := OpnN.all opnN_tm
theorem opn_tms : Opn Try.prog 111 (List Tm) := opn_slice Try.underlying111 (by kernel_rfl) (show 0 < 4 by decide) opn_tm
theorem opnN_tp : ∀ N, OpnN Try.prog 155 Tp N := by
  intro N
  induction N with
  | zero =>
    intro H enc w base spare held fuel hf cs x hx
    obtain ⟨xs, n, hn, _⟩ := DataW.trod_struct Try.underlying155 hx
    omega
  | succ N ih =>
  intro H enc w base spare held fuel hfu cs x hx
  have ihl : OpnN Try.prog 153 (List Tp) N := opnN_slice Try.underlying153 (by kernel_rfl) (show 0 < 2 by decide) ih
  obtain ⟨xs, n, hn, _, hl, hxl, hf⟩ := DataW.trod_struct Try.underlying155 hx
  rw [show Try.prog.cellsOf 155 = 2 by kernel_rfl] at hl
  have hxl2 : xs.length = 2 := hxl
  have g0 := hf 0 _ rfl
  rw [List.getElem?_eq_getElem (by omega)] at g0
  have d0 : ∃ a : ByteArray, Rep.rd (cst w) ((cs.drop 0).take 1) a := by
    have q : ∃ a : ByteArray, Rep.rd (cst w) ((cs.drop 0).take (Try.prog.cellsOf 9)) a := opn_str _ _ _ _ _ _ _ _ _ g0
    rwa [show Try.prog.cellsOf 9 = 1 by kernel_rfl] at q
  have g1 := hf 1 _ rfl
  rw [List.getElem?_eq_getElem (by omega)] at g1
  have d1 : ∃ a : List Tp, Rep.rd (cst w) ((cs.drop 1).take 1) a := by
    have q : ∃ a : List Tp, Rep.rd (cst w) ((cs.drop 1).take (Try.prog.cellsOf 153)) a := ihl _ _ _ _ _ _ _ (by omega) _ _ g1
    rwa [show Try.prog.cellsOf 153 = 1 by kernel_rfl] at q
  have q := (rd_step 1 (by rfl) d0 (rd_last 1 d1 (by omega)))
  rw [List.drop_zero] at q
  obtain ⟨⟨nm, l⟩, q⟩ := q
  exact ⟨.mk nm l, Tp.rd_of q⟩
theorem opn_tp : Opn Try.prog 155 Tp := OpnN.all opnN_tp
theorem opn_fa : Opn Try.prog 148 (FaD) := fun H enc w base spare held fuel cs x hx => by
  obtain ⟨xs, n, hn, _, hl, hxl, hf⟩ := DataW.trod_struct Try.underlying148 hx
  rw [show Try.prog.cellsOf 148 = 2 by kernel_rfl] at hl
  have hxl2 : xs.length = 2 := hxl
  have g0 := hf 0 _ rfl
  rw [List.getElem?_eq_getElem (by omega)] at g0
  have d0 : ∃ a : ByteArray, Rep.rd (cst w) ((cs.drop 0).take 1) a := by
    have q : ∃ a : ByteArray, Rep.rd (cst w) ((cs.drop 0).take (Try.prog.cellsOf 9)) a := opn_str _ _ _ _ _ _ _ _ _ g0
    rwa [show Try.prog.cellsOf 9 = 1 by kernel_rfl] at q
  have g1 := hf 1 _ rfl
  rw [List.getElem?_eq_getElem (by omega)] at g1
  have d1 : ∃ a : List Tm, Rep.rd (cst w) ((cs.drop 1).take 1) a := by
    have q : ∃ a : List Tm, Rep.rd (cst w) ((cs.drop 1).take (Try.prog.cellsOf 111)) a := opn_tms _ _ _ _ _ _ _ _ _ g1
    rwa [show Try.prog.cellsOf 111 = 1 by kernel_rfl] at q
  have q := (rd_step 1 (by rfl) d0 (rd_last 1 d1 (by omega)))
  rwa [List.drop_zero] at q
theorem opn_fr : Opn Try.prog 140 (FrD) := fun H enc w base spare held fuel cs x hx => by
  obtain ⟨xs, n, hn, _, hl, hxl, hf⟩ := DataW.trod_struct Try.underlying140 hx
  rw [show Try.prog.cellsOf 140 = 5 by kernel_rfl] at hl
  have hxl2 : xs.length = 5 := hxl
  have g0 := hf 0 _ rfl
  rw [List.getElem?_eq_getElem (by omega)] at g0
  have d0 : ∃ a : List Tm, Rep.rd (cst w) ((cs.drop 0).take 1) a := by
    have q : ∃ a : List Tm, Rep.rd (cst w) ((cs.drop 0).take (Try.prog.cellsOf 111)) a := opn_tms _ _ _ _ _ _ _ _ _ g0
    rwa [show Try.prog.cellsOf 111 = 1 by kernel_rfl] at q
  have g1 := hf 1 _ rfl
  rw [List.getElem?_eq_getElem (by omega)] at g1
  have d1 : ∃ a : List Tm, Rep.rd (cst w) ((cs.drop 1).take 1) a := by
    have q : ∃ a : List Tm, Rep.rd (cst w) ((cs.drop 1).take (Try.prog.cellsOf 111)) a := opn_tms _ _ _ _ _ _ _ _ _ g1
    rwa [show Try.prog.cellsOf 111 = 1 by kernel_rfl] at q
  have g2 := hf 2 _ rfl
  rw [List.getElem?_eq_getElem (by omega)] at g2
  have d2 : ∃ a : Int, Rep.rd (cst w) ((cs.drop 2).take 1) a := by
    have q : ∃ a : Int, Rep.rd (cst w) ((cs.drop 2).take (Try.prog.cellsOf 3)) a := opn_n _ _ _ _ _ _ _ _ _ g2
    rwa [show Try.prog.cellsOf 3 = 1 by kernel_rfl] at q
  have g3 := hf 3 _ rfl
  rw [List.getElem?_eq_getElem (by omega)] at g3
  have d3 : ∃ a : Int, Rep.rd (cst w) ((cs.drop 3).take 1) a := by
    have q : ∃ a : Int, Rep.rd (cst w) ((cs.drop 3).take (Try.prog.cellsOf 3)) a := opn_n _ _ _ _ _ _ _ _ _ g3
    rwa [show Try.prog.cellsOf 3 = 1 by kernel_rfl] at q
  have g4 := hf 4 _ rfl
  rw [List.getElem?_eq_getElem (by omega)] at g4
  have d4 : ∃ a : Int, Rep.rd (cst w) ((cs.drop 4).take 1) a := by
    have q : ∃ a : Int, Rep.rd (cst w) ((cs.drop 4).take (Try.prog.cellsOf 3)) a := opn_n _ _ _ _ _ _ _ _ _ g4
    rwa [show Try.prog.cellsOf 3 = 1 by kernel_rfl] at q
  have q := (rd_step 1 (by rfl) d0 (rd_step 1 (by rfl) d1 (rd_step 1 (by rfl) d2 (rd_step 1 (by rfl) d3 (rd_last 1 d4 (by omega))))))
  rwa [List.drop_zero] at q
theorem opn_br : Opn Try.prog 144 (BrD) := fun H enc w base spare held fuel cs x hx => by
  obtain ⟨xs, n, hn, _, hl, hxl, hf⟩ := DataW.trod_struct Try.underlying144 hx
  rw [show Try.prog.cellsOf 144 = 7 by kernel_rfl] at hl
  have hxl2 : xs.length = 7 := hxl
  have g0 := hf 0 _ rfl
  rw [List.getElem?_eq_getElem (by omega)] at g0
  have d0 : ∃ a : Int, Rep.rd (cst w) ((cs.drop 0).take 1) a := by
    have q : ∃ a : Int, Rep.rd (cst w) ((cs.drop 0).take (Try.prog.cellsOf 3)) a := opn_n _ _ _ _ _ _ _ _ _ g0
    rwa [show Try.prog.cellsOf 3 = 1 by kernel_rfl] at q
  have g1 := hf 1 _ rfl
  rw [List.getElem?_eq_getElem (by omega)] at g1
  have d1 : ∃ a : Int, Rep.rd (cst w) ((cs.drop 1).take 1) a := by
    have q : ∃ a : Int, Rep.rd (cst w) ((cs.drop 1).take (Try.prog.cellsOf 3)) a := opn_n _ _ _ _ _ _ _ _ _ g1
    rwa [show Try.prog.cellsOf 3 = 1 by kernel_rfl] at q
  have g2 := hf 2 _ rfl
  rw [List.getElem?_eq_getElem (by omega)] at g2
  have d2 : ∃ a : List Int, Rep.rd (cst w) ((cs.drop 2).take 1) a := by
    have q : ∃ a : List Int, Rep.rd (cst w) ((cs.drop 2).take (Try.prog.cellsOf 22)) a := opn_ints _ _ _ _ _ _ _ _ _ g2
    rwa [show Try.prog.cellsOf 22 = 1 by kernel_rfl] at q
  have g3 := hf 3 _ rfl
  rw [List.getElem?_eq_getElem (by omega)] at g3
  have d3 : ∃ a : Bool, Rep.rd (cst w) ((cs.drop 3).take 1) a := by
    have q : ∃ a : Bool, Rep.rd (cst w) ((cs.drop 3).take (Try.prog.cellsOf 4)) a := opn_bool _ _ _ _ _ _ _ _ _ g3
    rwa [show Try.prog.cellsOf 4 = 1 by kernel_rfl] at q
  have g4 := hf 4 _ rfl
  rw [List.getElem?_eq_getElem (by omega)] at g4
  have d4 : ∃ a : List Int, Rep.rd (cst w) ((cs.drop 4).take 1) a := by
    have q : ∃ a : List Int, Rep.rd (cst w) ((cs.drop 4).take (Try.prog.cellsOf 22)) a := opn_ints _ _ _ _ _ _ _ _ _ g4
    rwa [show Try.prog.cellsOf 22 = 1 by kernel_rfl] at q
  have g5 := hf 5 _ rfl
  rw [List.getElem?_eq_getElem (by omega)] at g5
  have d5 : ∃ a : Bool, Rep.rd (cst w) ((cs.drop 5).take 1) a := by
    have q : ∃ a : Bool, Rep.rd (cst w) ((cs.drop 5).take (Try.prog.cellsOf 4)) a := opn_bool _ _ _ _ _ _ _ _ _ g5
    rwa [show Try.prog.cellsOf 4 = 1 by kernel_rfl] at q
  have g6 := hf 6 _ rfl
  rw [List.getElem?_eq_getElem (by omega)] at g6
  have d6 : ∃ a : Int, Rep.rd (cst w) ((cs.drop 6).take 1) a := by
    have q : ∃ a : Int, Rep.rd (cst w) ((cs.drop 6).take (Try.prog.cellsOf 3)) a := opn_n _ _ _ _ _ _ _ _ _ g6
    rwa [show Try.prog.cellsOf 3 = 1 by kernel_rfl] at q
  have q := (rd_step 1 (by rfl) d0 (rd_step 1 (by rfl) d1 (rd_step 1 (by rfl) d2 (rd_step 1 (by rfl) d3 (rd_step 1 (by rfl) d4 (rd_step 1 (by rfl) d5 (rd_last 1 d6 (by omega))))))))
  rwa [List.drop_zero] at q
theorem opn_sc : Opn Try.prog 150 (ScD) := fun H enc w base spare held fuel cs x hx => by
  obtain ⟨xs, n, hn, _, hl, hxl, hf⟩ := DataW.trod_struct Try.underlying150 hx
  rw [show Try.prog.cellsOf 150 = 7 by kernel_rfl] at hl
  have hxl2 : xs.length = 6 := hxl
  have g0 := hf 0 _ rfl
  rw [List.getElem?_eq_getElem (by omega)] at g0
  have d0 : ∃ a : Int, Rep.rd (cst w) ((cs.drop 0).take 1) a := by
    have q : ∃ a : Int, Rep.rd (cst w) ((cs.drop 0).take (Try.prog.cellsOf 3)) a := opn_n _ _ _ _ _ _ _ _ _ g0
    rwa [show Try.prog.cellsOf 3 = 1 by kernel_rfl] at q
  have g1 := hf 1 _ rfl
  rw [List.getElem?_eq_getElem (by omega)] at g1
  have d1 : ∃ a : Int, Rep.rd (cst w) ((cs.drop 1).take 1) a := by
    have q : ∃ a : Int, Rep.rd (cst w) ((cs.drop 1).take (Try.prog.cellsOf 3)) a := opn_n _ _ _ _ _ _ _ _ _ g1
    rwa [show Try.prog.cellsOf 3 = 1 by kernel_rfl] at q
  have g2 := hf 2 _ rfl
  rw [List.getElem?_eq_getElem (by omega)] at g2
  have d2 : ∃ a : Int, Rep.rd (cst w) ((cs.drop 2).take 1) a := by
    have q : ∃ a : Int, Rep.rd (cst w) ((cs.drop 2).take (Try.prog.cellsOf 3)) a := opn_n _ _ _ _ _ _ _ _ _ g2
    rwa [show Try.prog.cellsOf 3 = 1 by kernel_rfl] at q
  have g3 := hf 3 _ rfl
  rw [List.getElem?_eq_getElem (by omega)] at g3
  have d3 : ∃ a : Int, Rep.rd (cst w) ((cs.drop 3).take 1) a := by
    have q : ∃ a : Int, Rep.rd (cst w) ((cs.drop 3).take (Try.prog.cellsOf 3)) a := opn_n _ _ _ _ _ _ _ _ _ g3
    rwa [show Try.prog.cellsOf 3 = 1 by kernel_rfl] at q
  have g4 := hf 4 _ rfl
  rw [List.getElem?_eq_getElem (by omega)] at g4
  have d4 : ∃ a : List Tm, Rep.rd (cst w) ((cs.drop 4).take 1) a := by
    have q : ∃ a : List Tm, Rep.rd (cst w) ((cs.drop 4).take (Try.prog.cellsOf 111)) a := opn_tms _ _ _ _ _ _ _ _ _ g4
    rwa [show Try.prog.cellsOf 111 = 1 by kernel_rfl] at q
  have g5 := hf 5 _ rfl
  rw [List.getElem?_eq_getElem (by omega)] at g5
  have d5 : ∃ a : FaD, Rep.rd (cst w) ((cs.drop 5).take 2) a := by
    have q : ∃ a : FaD, Rep.rd (cst w) ((cs.drop 5).take (Try.prog.cellsOf 148)) a := opn_fa _ _ _ _ _ _ _ _ _ g5
    rwa [show Try.prog.cellsOf 148 = 2 by kernel_rfl] at q
  have q := (rd_step 1 (by rfl) d0 (rd_step 1 (by rfl) d1 (rd_step 1 (by rfl) d2 (rd_step 1 (by rfl) d3 (rd_step 1 (by rfl) d4 (rd_last 2 d5 (by omega)))))))
  rwa [List.drop_zero] at q
theorem opn_va : Opn Try.prog 159 (VaD) := fun H enc w base spare held fuel cs x hx => by
  obtain ⟨xs, n, hn, _, hl, hxl, hf⟩ := DataW.trod_struct Try.underlying159 hx
  rw [show Try.prog.cellsOf 159 = 8 by kernel_rfl] at hl
  have hxl2 : xs.length = 4 := hxl
  have g0 := hf 0 _ rfl
  rw [List.getElem?_eq_getElem (by omega)] at g0
  have d0 : ∃ a : Int, Rep.rd (cst w) ((cs.drop 0).take 1) a := by
    have q : ∃ a : Int, Rep.rd (cst w) ((cs.drop 0).take (Try.prog.cellsOf 3)) a := opn_n _ _ _ _ _ _ _ _ _ g0
    rwa [show Try.prog.cellsOf 3 = 1 by kernel_rfl] at q
  have g1 := hf 1 _ rfl
  rw [List.getElem?_eq_getElem (by omega)] at g1
  have d1 : ∃ a : Tp, Rep.rd (cst w) ((cs.drop 1).take 2) a := by
    have q : ∃ a : Tp, Rep.rd (cst w) ((cs.drop 1).take (Try.prog.cellsOf 155)) a := opn_tp _ _ _ _ _ _ _ _ _ g1
    rwa [show Try.prog.cellsOf 155 = 2 by kernel_rfl] at q
  have g2 := hf 2 _ rfl
  rw [List.getElem?_eq_getElem (by omega)] at g2
  have d2 : ∃ a : Bool, Rep.rd (cst w) ((cs.drop 3).take 1) a := by
    have q : ∃ a : Bool, Rep.rd (cst w) ((cs.drop 3).take (Try.prog.cellsOf 4)) a := opn_bool _ _ _ _ _ _ _ _ _ g2
    rwa [show Try.prog.cellsOf 4 = 1 by kernel_rfl] at q
  have g3 := hf 3 _ rfl
  rw [List.getElem?_eq_getElem (by omega)] at g3
  have d3 : ∃ a : Tm, Rep.rd (cst w) ((cs.drop 4).take 4) a := by
    have q : ∃ a : Tm, Rep.rd (cst w) ((cs.drop 4).take (Try.prog.cellsOf 157)) a := opn_tm _ _ _ _ _ _ _ _ _ g3
    rwa [show Try.prog.cellsOf 157 = 4 by kernel_rfl] at q
  have q := (rd_step 1 (by rfl) d0 (rd_step 2 (by rfl) d1 (rd_step 1 (by rfl) d2 (rd_last 4 d3 (by omega)))))
  rwa [List.drop_zero] at q
theorem opn_tr : Opn Try.prog 163 (TrD) := fun H enc w base spare held fuel cs x hx => by
  obtain ⟨xs, n, hn, _, hl, hxl, hf⟩ := DataW.trod_struct Try.underlying163 hx
  rw [show Try.prog.cellsOf 163 = 9 by kernel_rfl] at hl
  have hxl2 : xs.length = 2 := hxl
  have g0 := hf 0 _ rfl
  rw [List.getElem?_eq_getElem (by omega)] at g0
  have d0 : ∃ a : Int, Rep.rd (cst w) ((cs.drop 0).take 1) a := by
    have q : ∃ a : Int, Rep.rd (cst w) ((cs.drop 0).take (Try.prog.cellsOf 3)) a := opn_n _ _ _ _ _ _ _ _ _ g0
    rwa [show Try.prog.cellsOf 3 = 1 by kernel_rfl] at q
  have g1 := hf 1 _ rfl
  rw [List.getElem?_eq_getElem (by omega)] at g1
  have d1 : ∃ a : VaD, Rep.rd (cst w) ((cs.drop 1).take 8) a := by
    have q : ∃ a : VaD, Rep.rd (cst w) ((cs.drop 1).take (Try.prog.cellsOf 159)) a := opn_va _ _ _ _ _ _ _ _ _ g1
    rwa [show Try.prog.cellsOf 159 = 8 by kernel_rfl] at q
  have q := (rd_step 1 (by rfl) d0 (rd_last 8 d1 (by omega)))
  rwa [List.drop_zero] at q
theorem opn_ty : Opn Try.prog 203 (TyD) := fun H enc w base spare held fuel cs x hx => by
  obtain ⟨xs, n, hn, _, hl, hxl, hf⟩ := DataW.trod_struct Try.underlying203 hx
  rw [show Try.prog.cellsOf 203 = 3 by kernel_rfl] at hl
  have hxl2 : xs.length = 3 := hxl
  have g0 := hf 0 _ rfl
  rw [List.getElem?_eq_getElem (by omega)] at g0
  have d0 : ∃ a : Int, Rep.rd (cst w) ((cs.drop 0).take 1) a := by
    have q : ∃ a : Int, Rep.rd (cst w) ((cs.drop 0).take (Try.prog.cellsOf 3)) a := opn_n _ _ _ _ _ _ _ _ _ g0
    rwa [show Try.prog.cellsOf 3 = 1 by kernel_rfl] at q
  have g1 := hf 1 _ rfl
  rw [List.getElem?_eq_getElem (by omega)] at g1
  have d1 : ∃ a : Int, Rep.rd (cst w) ((cs.drop 1).take 1) a := by
    have q : ∃ a : Int, Rep.rd (cst w) ((cs.drop 1).take (Try.prog.cellsOf 3)) a := opn_n _ _ _ _ _ _ _ _ _ g1
    rwa [show Try.prog.cellsOf 3 = 1 by kernel_rfl] at q
  have g2 := hf 2 _ rfl
  rw [List.getElem?_eq_getElem (by omega)] at g2
  have d2 : ∃ a : Int, Rep.rd (cst w) ((cs.drop 2).take 1) a := by
    have q : ∃ a : Int, Rep.rd (cst w) ((cs.drop 2).take (Try.prog.cellsOf 3)) a := opn_n _ _ _ _ _ _ _ _ _ g2
    rwa [show Try.prog.cellsOf 3 = 1 by kernel_rfl] at q
  have q := (rd_step 1 (by rfl) d0 (rd_step 1 (by rfl) d1 (rd_last 1 d2 (by omega))))
  rwa [List.drop_zero] at q
theorem opn_tys : Opn Try.prog 110 (List TyD) := opn_slice Try.underlying110 (by kernel_rfl) (show 0 < 3 by decide) opn_ty
theorem opn_ch : Opn Try.prog 113 (ChD) := fun H enc w base spare held fuel cs x hx => by
  obtain ⟨xs, n, hn, _, hl, hxl, hf⟩ := DataW.trod_struct Try.underlying113 hx
  rw [show Try.prog.cellsOf 113 = 18 by kernel_rfl] at hl
  have hxl2 : xs.length = 18 := hxl
  have g0 := hf 0 _ rfl
  rw [List.getElem?_eq_getElem (by omega)] at g0
  have d0 : ∃ a : Int, Rep.rd (cst w) ((cs.drop 0).take 1) a := by
    have q : ∃ a : Int, Rep.rd (cst w) ((cs.drop 0).take (Try.prog.cellsOf 3)) a := opn_n _ _ _ _ _ _ _ _ _ g0
    rwa [show Try.prog.cellsOf 3 = 1 by kernel_rfl] at q
  have g1 := hf 1 _ rfl
  rw [List.getElem?_eq_getElem (by omega)] at g1
  have d1 : ∃ a : List TyD, Rep.rd (cst w) ((cs.drop 1).take 1) a := by
    have q : ∃ a : List TyD, Rep.rd (cst w) ((cs.drop 1).take (Try.prog.cellsOf 110)) a := opn_tys _ _ _ _ _ _ _ _ _ g1
    rwa [show Try.prog.cellsOf 110 = 1 by kernel_rfl] at q
  have g2 := hf 2 _ rfl
  rw [List.getElem?_eq_getElem (by omega)] at g2
  have d2 : ∃ a : List Tm, Rep.rd (cst w) ((cs.drop 2).take 1) a := by
    have q : ∃ a : List Tm, Rep.rd (cst w) ((cs.drop 2).take (Try.prog.cellsOf 111)) a := opn_tms _ _ _ _ _ _ _ _ _ g2
    rwa [show Try.prog.cellsOf 111 = 1 by kernel_rfl] at q
  have g3 := hf 3 _ rfl
  rw [List.getElem?_eq_getElem (by omega)] at g3
  have d3 : ∃ a : Int, Rep.rd (cst w) ((cs.drop 3).take 1) a := by
    have q : ∃ a : Int, Rep.rd (cst w) ((cs.drop 3).take (Try.prog.cellsOf 3)) a := opn_n _ _ _ _ _ _ _ _ _ g3
    rwa [show Try.prog.cellsOf 3 = 1 by kernel_rfl] at q
  have g4 := hf 4 _ rfl
  rw [List.getElem?_eq_getElem (by omega)] at g4
  have d4 : ∃ a : Int, Rep.rd (cst w) ((cs.drop 4).take 1) a := by
    have q : ∃ a : Int, Rep.rd (cst w) ((cs.drop 4).take (Try.prog.cellsOf 3)) a := opn_n _ _ _ _ _ _ _ _ _ g4
    rwa [show Try.prog.cellsOf 3 = 1 by kernel_rfl] at q
  have g5 := hf 5 _ rfl
  rw [List.getElem?_eq_getElem (by omega)] at g5
  have d5 : ∃ a : Int, Rep.rd (cst w) ((cs.drop 5).take 1) a := by
    have q : ∃ a : Int, Rep.rd (cst w) ((cs.drop 5).take (Try.prog.cellsOf 3)) a := opn_n _ _ _ _ _ _ _ _ _ g5
    rwa [show Try.prog.cellsOf 3 = 1 by kernel_rfl] at q
  have g6 := hf 6 _ rfl
  rw [List.getElem?_eq_getElem (by omega)] at g6
  have d6 : ∃ a : Int, Rep.rd (cst w) ((cs.drop 6).take 1) a := by
    have q : ∃ a : Int, Rep.rd (cst w) ((cs.drop 6).take (Try.prog.cellsOf 3)) a := opn_n _ _ _ _ _ _ _ _ _ g6
    rwa [show Try.prog.cellsOf 3 = 1 by kernel_rfl] at q
  have g7 := hf 7 _ rfl
  rw [List.getElem?_eq_getElem (by omega)] at g7
  have d7 : ∃ a : Int, Rep.rd (cst w) ((cs.drop 7).take 1) a := by
    have q : ∃ a : Int, Rep.rd (cst w) ((cs.drop 7).take (Try.prog.cellsOf 3)) a := opn_n _ _ _ _ _ _ _ _ _ g7
    rwa [show Try.prog.cellsOf 3 = 1 by kernel_rfl] at q
  have g8 := hf 8 _ rfl
  rw [List.getElem?_eq_getElem (by omega)] at g8
  have d8 : ∃ a : Int, Rep.rd (cst w) ((cs.drop 8).take 1) a := by
    have q : ∃ a : Int, Rep.rd (cst w) ((cs.drop 8).take (Try.prog.cellsOf 3)) a := opn_n _ _ _ _ _ _ _ _ _ g8
    rwa [show Try.prog.cellsOf 3 = 1 by kernel_rfl] at q
  have g9 := hf 9 _ rfl
  rw [List.getElem?_eq_getElem (by omega)] at g9
  have d9 : ∃ a : Int, Rep.rd (cst w) ((cs.drop 9).take 1) a := by
    have q : ∃ a : Int, Rep.rd (cst w) ((cs.drop 9).take (Try.prog.cellsOf 3)) a := opn_n _ _ _ _ _ _ _ _ _ g9
    rwa [show Try.prog.cellsOf 3 = 1 by kernel_rfl] at q
  have g10 := hf 10 _ rfl
  rw [List.getElem?_eq_getElem (by omega)] at g10
  have d10 : ∃ a : Bool, Rep.rd (cst w) ((cs.drop 10).take 1) a := by
    have q : ∃ a : Bool, Rep.rd (cst w) ((cs.drop 10).take (Try.prog.cellsOf 4)) a := opn_bool _ _ _ _ _ _ _ _ _ g10
    rwa [show Try.prog.cellsOf 4 = 1 by kernel_rfl] at q
  have g11 := hf 11 _ rfl
  rw [List.getElem?_eq_getElem (by omega)] at g11
  have d11 : ∃ a : List Int, Rep.rd (cst w) ((cs.drop 11).take 1) a := by
    have q : ∃ a : List Int, Rep.rd (cst w) ((cs.drop 11).take (Try.prog.cellsOf 22)) a := opn_ints _ _ _ _ _ _ _ _ _ g11
    rwa [show Try.prog.cellsOf 22 = 1 by kernel_rfl] at q
  have g12 := hf 12 _ rfl
  rw [List.getElem?_eq_getElem (by omega)] at g12
  have d12 : ∃ a : List Int, Rep.rd (cst w) ((cs.drop 12).take 1) a := by
    have q : ∃ a : List Int, Rep.rd (cst w) ((cs.drop 12).take (Try.prog.cellsOf 22)) a := opn_ints _ _ _ _ _ _ _ _ _ g12
    rwa [show Try.prog.cellsOf 22 = 1 by kernel_rfl] at q
  have g13 := hf 13 _ rfl
  rw [List.getElem?_eq_getElem (by omega)] at g13
  have d13 : ∃ a : Int, Rep.rd (cst w) ((cs.drop 13).take 1) a := by
    have q : ∃ a : Int, Rep.rd (cst w) ((cs.drop 13).take (Try.prog.cellsOf 3)) a := opn_n _ _ _ _ _ _ _ _ _ g13
    rwa [show Try.prog.cellsOf 3 = 1 by kernel_rfl] at q
  have g14 := hf 14 _ rfl
  rw [List.getElem?_eq_getElem (by omega)] at g14
  have d14 : ∃ a : Int, Rep.rd (cst w) ((cs.drop 14).take 1) a := by
    have q : ∃ a : Int, Rep.rd (cst w) ((cs.drop 14).take (Try.prog.cellsOf 3)) a := opn_n _ _ _ _ _ _ _ _ _ g14
    rwa [show Try.prog.cellsOf 3 = 1 by kernel_rfl] at q
  have g15 := hf 15 _ rfl
  rw [List.getElem?_eq_getElem (by omega)] at g15
  have d15 : ∃ a : Int, Rep.rd (cst w) ((cs.drop 15).take 1) a := by
    have q : ∃ a : Int, Rep.rd (cst w) ((cs.drop 15).take (Try.prog.cellsOf 3)) a := opn_n _ _ _ _ _ _ _ _ _ g15
    rwa [show Try.prog.cellsOf 3 = 1 by kernel_rfl] at q
  have g16 := hf 16 _ rfl
  rw [List.getElem?_eq_getElem (by omega)] at g16
  have d16 : ∃ a : Int, Rep.rd (cst w) ((cs.drop 16).take 1) a := by
    have q : ∃ a : Int, Rep.rd (cst w) ((cs.drop 16).take (Try.prog.cellsOf 3)) a := opn_n _ _ _ _ _ _ _ _ _ g16
    rwa [show Try.prog.cellsOf 3 = 1 by kernel_rfl] at q
  have g17 := hf 17 _ rfl
  rw [List.getElem?_eq_getElem (by omega)] at g17
  have d17 : ∃ a : Int, Rep.rd (cst w) ((cs.drop 17).take 1) a := by
    have q : ∃ a : Int, Rep.rd (cst w) ((cs.drop 17).take (Try.prog.cellsOf 3)) a := opn_n _ _ _ _ _ _ _ _ _ g17
    rwa [show Try.prog.cellsOf 3 = 1 by kernel_rfl] at q
  have q := (rd_step 1 (by rfl) d0 (rd_step 1 (by rfl) d1 (rd_step 1 (by rfl) d2 (rd_step 1 (by rfl) d3 (rd_step 1 (by rfl) d4 (rd_step 1 (by rfl) d5 (rd_step 1 (by rfl) d6 (rd_step 1 (by rfl) d7 (rd_step 1 (by rfl) d8 (rd_step 1 (by rfl) d9 (rd_step 1 (by rfl) d10 (rd_step 1 (by rfl) d11 (rd_step 1 (by rfl) d12 (rd_step 1 (by rfl) d13 (rd_step 1 (by rfl) d14 (rd_step 1 (by rfl) d15 (rd_step 1 (by rfl) d16 (rd_last 1 d17 (by omega)))))))))))))))))))
  rwa [List.drop_zero] at q
theorem opn_frs : Opn Try.prog 23 (List FrD) := opn_slice Try.underlying23 (by kernel_rfl) (show 0 < 5 by decide) opn_fr
theorem opn_brs : Opn Try.prog 24 (List BrD) := opn_slice Try.underlying24 (by kernel_rfl) (show 0 < 7 by decide) opn_br
theorem opn_scs : Opn Try.prog 25 (List ScD) := opn_slice Try.underlying25 (by kernel_rfl) (show 0 < 7 by decide) opn_sc
theorem opn_vas : Opn Try.prog 26 (List VaD) := opn_slice Try.underlying26 (by kernel_rfl) (show 0 < 8 by decide) opn_va
theorem opn_trs : Opn Try.prog 29 (List TrD) := opn_slice Try.underlying29 (by kernel_rfl) (show 0 < 9 by decide) opn_tr
theorem opn_chs : Opn Try.prog 30 (List ChD) := opn_slice Try.underlying30 (by kernel_rfl) (show 0 < 18 by decide) opn_ch
theorem opn_st : Opn Try.prog 28 (List VaD) := fun H enc w base spare held fuel cs x hx => by
  obtain ⟨xs, n, hn, _, hl, hxl, hf⟩ := DataW.trod_struct Try.underlying28 hx
  rw [show Try.prog.cellsOf 28 = 1 by kernel_rfl] at hl
  have hxl2 : xs.length = 1 := hxl
  have g0 := hf 0 _ rfl
  rw [List.getElem?_eq_getElem (by omega)] at g0
  have d0 : ∃ a : List VaD, Rep.rd (cst w) ((cs.drop 0).take 1) a := by
    have q : ∃ a : List VaD, Rep.rd (cst w) ((cs.drop 0).take (Try.prog.cellsOf 26)) a := opn_vas _ _ _ _ _ _ _ _ _ g0
    rwa [show Try.prog.cellsOf 26 = 1 by kernel_rfl] at q
  have q := (rd_last 1 d0 (by omega))
  rwa [List.drop_zero] at q
theorem opn_ma : Opn Try.prog 32 (MaD) := fun H enc w base spare held fuel cs x hx => by
  obtain ⟨xs, n, hn, _, hl, hxl, hf⟩ := DataW.trod_struct Try.underlying32 hx
  rw [show Try.prog.cellsOf 32 = 16 by kernel_rfl] at hl
  have hxl2 : xs.length = 16 := hxl
  have g0 := hf 0 _ rfl
  rw [List.getElem?_eq_getElem (by omega)] at g0
  have d0 : ∃ a : Int, Rep.rd (cst w) ((cs.drop 0).take 1) a := by
    have q : ∃ a : Int, Rep.rd (cst w) ((cs.drop 0).take (Try.prog.cellsOf 3)) a := opn_n _ _ _ _ _ _ _ _ _ g0
    rwa [show Try.prog.cellsOf 3 = 1 by kernel_rfl] at q
  have g1 := hf 1 _ rfl
  rw [List.getElem?_eq_getElem (by omega)] at g1
  have d1 : ∃ a : Int, Rep.rd (cst w) ((cs.drop 1).take 1) a := by
    have q : ∃ a : Int, Rep.rd (cst w) ((cs.drop 1).take (Try.prog.cellsOf 3)) a := opn_n _ _ _ _ _ _ _ _ _ g1
    rwa [show Try.prog.cellsOf 3 = 1 by kernel_rfl] at q
  have g2 := hf 2 _ rfl
  rw [List.getElem?_eq_getElem (by omega)] at g2
  have d2 : ∃ a : Int, Rep.rd (cst w) ((cs.drop 2).take 1) a := by
    have q : ∃ a : Int, Rep.rd (cst w) ((cs.drop 2).take (Try.prog.cellsOf 3)) a := opn_n _ _ _ _ _ _ _ _ _ g2
    rwa [show Try.prog.cellsOf 3 = 1 by kernel_rfl] at q
  have g3 := hf 3 _ rfl
  rw [List.getElem?_eq_getElem (by omega)] at g3
  have d3 : ∃ a : Int, Rep.rd (cst w) ((cs.drop 3).take 1) a := by
    have q : ∃ a : Int, Rep.rd (cst w) ((cs.drop 3).take (Try.prog.cellsOf 3)) a := opn_n _ _ _ _ _ _ _ _ _ g3
    rwa [show Try.prog.cellsOf 3 = 1 by kernel_rfl] at q
  have g4 := hf 4 _ rfl
  rw [List.getElem?_eq_getElem (by omega)] at g4
  have d4 : ∃ a : Int, Rep.rd (cst w) ((cs.drop 4).take 1) a := by
    have q : ∃ a : Int, Rep.rd (cst w) ((cs.drop 4).take (Try.prog.cellsOf 3)) a := opn_n _ _ _ _ _ _ _ _ _ g4
    rwa [show Try.prog.cellsOf 3 = 1 by kernel_rfl] at q
  have g5 := hf 5 _ rfl
  rw [List.getElem?_eq_getElem (by omega)] at g5
  have d5 : ∃ a : Int, Rep.rd (cst w) ((cs.drop 5).take 1) a := by
    have q : ∃ a : Int, Rep.rd (cst w) ((cs.drop 5).take (Try.prog.cellsOf 3)) a := opn_n _ _ _ _ _ _ _ _ _ g5
    rwa [show Try.prog.cellsOf 3 = 1 by kernel_rfl] at q
  have g6 := hf 6 _ rfl
  rw [List.getElem?_eq_getElem (by omega)] at g6
  have d6 : ∃ a : Bool, Rep.rd (cst w) ((cs.drop 6).take 1) a := by
    have q : ∃ a : Bool, Rep.rd (cst w) ((cs.drop 6).take (Try.prog.cellsOf 4)) a := opn_bool _ _ _ _ _ _ _ _ _ g6
    rwa [show Try.prog.cellsOf 4 = 1 by kernel_rfl] at q
  have g7 := hf 7 _ rfl
  rw [List.getElem?_eq_getElem (by omega)] at g7
  have d7 : ∃ a : List Int, Rep.rd (cst w) ((cs.drop 7).take 1) a := by
    have q : ∃ a : List Int, Rep.rd (cst w) ((cs.drop 7).take (Try.prog.cellsOf 22)) a := opn_ints _ _ _ _ _ _ _ _ _ g7
    rwa [show Try.prog.cellsOf 22 = 1 by kernel_rfl] at q
  have g8 := hf 8 _ rfl
  rw [List.getElem?_eq_getElem (by omega)] at g8
  have d8 : ∃ a : List Int, Rep.rd (cst w) ((cs.drop 8).take 1) a := by
    have q : ∃ a : List Int, Rep.rd (cst w) ((cs.drop 8).take (Try.prog.cellsOf 22)) a := opn_ints _ _ _ _ _ _ _ _ _ g8
    rwa [show Try.prog.cellsOf 22 = 1 by kernel_rfl] at q
  have g9 := hf 9 _ rfl
  rw [List.getElem?_eq_getElem (by omega)] at g9
  have d9 : ∃ a : List FrD, Rep.rd (cst w) ((cs.drop 9).take 1) a := by
    have q : ∃ a : List FrD, Rep.rd (cst w) ((cs.drop 9).take (Try.prog.cellsOf 23)) a := opn_frs _ _ _ _ _ _ _ _ _ g9
    rwa [show Try.prog.cellsOf 23 = 1 by kernel_rfl] at q
  have g10 := hf 10 _ rfl
  rw [List.getElem?_eq_getElem (by omega)] at g10
  have d10 : ∃ a : List BrD, Rep.rd (cst w) ((cs.drop 10).take 1) a := by
    have q : ∃ a : List BrD, Rep.rd (cst w) ((cs.drop 10).take (Try.prog.cellsOf 24)) a := opn_brs _ _ _ _ _ _ _ _ _ g10
    rwa [show Try.prog.cellsOf 24 = 1 by kernel_rfl] at q
  have g11 := hf 11 _ rfl
  rw [List.getElem?_eq_getElem (by omega)] at g11
  have d11 : ∃ a : List ScD, Rep.rd (cst w) ((cs.drop 11).take 1) a := by
    have q : ∃ a : List ScD, Rep.rd (cst w) ((cs.drop 11).take (Try.prog.cellsOf 25)) a := opn_scs _ _ _ _ _ _ _ _ _ g11
    rwa [show Try.prog.cellsOf 25 = 1 by kernel_rfl] at q
  have g12 := hf 12 _ rfl
  rw [List.getElem?_eq_getElem (by omega)] at g12
  have d12 : ∃ a : List VaD, Rep.rd (cst w) ((cs.drop 12).take 1) a := by
    have q : ∃ a : List VaD, Rep.rd (cst w) ((cs.drop 12).take (Try.prog.cellsOf 28)) a := opn_st _ _ _ _ _ _ _ _ _ g12
    rwa [show Try.prog.cellsOf 28 = 1 by kernel_rfl] at q
  have g13 := hf 13 _ rfl
  rw [List.getElem?_eq_getElem (by omega)] at g13
  have d13 : ∃ a : List TrD, Rep.rd (cst w) ((cs.drop 13).take 1) a := by
    have q : ∃ a : List TrD, Rep.rd (cst w) ((cs.drop 13).take (Try.prog.cellsOf 29)) a := opn_trs _ _ _ _ _ _ _ _ _ g13
    rwa [show Try.prog.cellsOf 29 = 1 by kernel_rfl] at q
  have g14 := hf 14 _ rfl
  rw [List.getElem?_eq_getElem (by omega)] at g14
  have d14 : ∃ a : List ChD, Rep.rd (cst w) ((cs.drop 14).take 1) a := by
    have q : ∃ a : List ChD, Rep.rd (cst w) ((cs.drop 14).take (Try.prog.cellsOf 30)) a := opn_chs _ _ _ _ _ _ _ _ _ g14
    rwa [show Try.prog.cellsOf 30 = 1 by kernel_rfl] at q
  have g15 := hf 15 _ rfl
  rw [List.getElem?_eq_getElem (by omega)] at g15
  have d15 : ∃ a : Int, Rep.rd (cst w) ((cs.drop 15).take 1) a := by
    have q : ∃ a : Int, Rep.rd (cst w) ((cs.drop 15).take (Try.prog.cellsOf 3)) a := opn_n _ _ _ _ _ _ _ _ _ g15
    rwa [show Try.prog.cellsOf 3 = 1 by kernel_rfl] at q
  have q := (rd_step 1 (by rfl) d0 (rd_step 1 (by rfl) d1 (rd_step 1 (by rfl) d2 (rd_step 1 (by rfl) d3 (rd_step 1 (by rfl) d4 (rd_step 1 (by rfl) d5 (rd_step 1 (by rfl) d6 (rd_step 1 (by rfl) d7 (rd_step 1 (by rfl) d8 (rd_step 1 (by rfl) d9 (rd_step 1 (by rfl) d10 (rd_step 1 (by rfl) d11 (rd_step 1 (by rfl) d12 (rd_step 1 (by rfl) d13 (rd_step 1 (by rfl) d14 (rd_last 1 d15 (by omega)))))))))))))))))
  rwa [List.drop_zero] at q
/-- A state: its value, and what it reads as. -/
theorem opn_mach {H : Type} {enc : TypeId × Value → H} {w : World} {base : Nat} {spare : Nat → Bool} {held : Bool} {cs : Array Value} {d : DataW H} {ps : List MemPlace} (h : DataW.Trod enc Try.prog w base spare held 32 (.agg cs) d ps) : ∃ (m : MaD) (y : Unp.Y MaD), Value.agg cs = .agg (Unp.cs m y).toArray ∧ Unp.ok m y ∧ Cod.Vd (α := MaD) m ∧ ∀ p ∈ Unp.fs m y, p.p (cst w) := by
  obtain ⟨fuel, hf⟩ := h
  obtain ⟨m, hm⟩ := opn_ma _ _ _ _ _ _ _ _ _ hf
  have hv := CodV.vd hm
  obtain ⟨y, e, hok, hfs⟩ := Unp.un hm
  obtain ⟨cl⟩ := cs
  have e' : cl = Unp.cs m y := e
  subst e'
  exact ⟨m, y, rfl, hok, hv, hfs⟩
end Go.Proofs.Ytggdljhmbckpmaa
