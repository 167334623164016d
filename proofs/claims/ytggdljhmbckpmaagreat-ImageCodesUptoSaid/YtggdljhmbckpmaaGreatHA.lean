/- ImageCodes: walk. Reading the arguments of a row: what lies in the given memory, as data. Rows: how long a slice that is handed in may be. A state of the machine as an argument: what lies in the given memory, as data, and a bound on its bytes; printed by gen_opnb.py. -/
import Derived.Test.YtggdljhmbckpmaaGreatGA
import Derived.Test.YtggdljhmbckpmaaGreatMA
import Derived.Test.YtggdljhmbckpmaaGreatX7
import Derived.Test.YtggdljhmbckpmaaGreatV9
import Derived.Test.YtggdljhmbckpmaaGreatWC
import Derived.Test.YtggdljhmbckpmaaGreatA7f0
import Derived.Test.YtggdljhmbckpmaaGreatA7f1
import Derived.Test.YtggdljhmbckpmaaGreatAN
import Derived.Test.YtggdljhmbckpmaaGreatFB
import Derived.ChangeArms
import Derived.SizedLaws
import Derived.OpenShut
import Derived.Test.YtggdljhmbckpmaaGreatRows
import Derived.Test.YtggdljhmbckpmaaGreatDA
import Derived.KernelRfl
set_option linter.unusedVariables false
set_option linter.unusedSimpArgs false
namespace Go.Proofs.YtggdljhmbckpmaaGreat
open Go Go.RowKit
set_option maxRecDepth 100000
set_option maxHeartbeats 4000000

theorem sY {cs r : List Value} {sz : Nat} (h : cs.length = sz) : gJ true sz (cs ++ r) 0 = some (.agg cs.toArray) := by
  subst h; simp [gJ]
theorem qK {cs r : List Value} {n i : Nat} (h : cs.length = n) (hi : n ≤ i) : gJ false 1 (cs ++ r) i = r[i - n]? := by
  subst h
  simp only [gJ]
  rw [List.getElem?_append_right hi]
theorem codes_k {w0 : World} {H : List Hp} {R : List MP} {K : Value → List Hp → List MP → Prop} (x : jT) (u : Unp.Y jT) (hok : Unp.ok x u) (hbk : (stB x).length ≤ 1000000000) (A1 : Option Addr) (c1 : Nat) (bb : List UInt8) (hb : bb.length ≤ 140737488355328)
    (hfs : ∀ p ∈ Unp.fs x u, p ∈ R) (hm : Sl (.slice A1 bb.length c1) bb ∈ R) (k : K (.bool true) H R) : CallsK Tryz.prog w0 3 #[.agg (Unp.cs x u).toArray, .slice A1 bb.length c1] H R K := by
  have hlen : (Unp.cs x u).length = 16 := UnpL.len x u
  obtain ⟨⟨bs, e⟩, he⟩ : ∃ r, encM x = r := ⟨_, rfl⟩
  obtain ⟨⟨m, at_, f⟩, hd⟩ : ∃ r, nX bb = r := ⟨_, rfl⟩
  refine bX Tryz.func3 rfl Tryz.ntmps3 eZ ?_
  apply aF; apply aA
  repeat' (first | (refine bG rfl rfl ?_; refine eB cW (fun b2 => ?_); refine aB ?_) | (refine aE rfl rfl ?_; ((refine aX ?_)); refine aB ?_))
  revert b2
  intro b2
  apply aG; apply aD
  apply aF; apply aA
  repeat' (first | (refine dS rfl ?_; refine aY fA ?_; refine sane_k ?_; refine aB ?_) | (refine aE rfl rfl ?_; ((refine aX ?_)); refine aB ?_))
  apply aG; apply aD
  apply aF; apply aA
  repeat' (first | (refine aP rfl ?_; refine aM (i := 0) rfl rfl (cN hlen) ?_; refine aB ?_) | (refine dS rfl ?_; refine aY fA ?_; refine xV x u hok hfs (uV (r := (bs, e)) he.symm (fun A3 c3 => ?_)); refine aB ?_) | (refine aE rfl rfl ?_; ((first | refine aH ?_ | refine aX ?_ | refine cD rfl rfl ?_)); refine aB ?_))
  apply aG; apply aD
  apply aF; apply aA
  repeat' (first | (refine aP rfl ?_; refine aM (i := 0) rfl rfl (cN hlen) ?_; refine aB ?_) | (refine dS rfl ?_; refine aY fA ?_; refine yG x u hok hbk (fun p hp => List.mem_cons_of_mem _ (hfs p hp)) (KC_eq (r := (bs, e)) he.symm (fun A4 c4 => ?_)); refine aB ?_) | (refine bG rfl rfl ?_; ((refine bK cW (fun b => ?_))); refine aB ?_))
  repeat' (first | (apply aF) | (apply aA) | (apply aG) | (apply aD) | (apply bD; exact rfl; ((refine aO (i := 0) rfl cW rfl (by rfl) (by simp) (by simp [Value.oneCell']) ?_)); refine aB ?_; refine cA ?_) | (refine aE rfl rfl ?_; ((refine aH ?_)); refine aB ?_))
  refine dS rfl ?_; refine aY fA ?_
  refine p7 A1 c1 bb (by omega) (List.Mem.tail _ (List.Mem.tail _ hm)) (sW (r := (m, at_, f)) hd.symm (fun y hy => ?_))
  refine aB ?_
  have hly : (Unp.cs m y).length = 16 := UnpL.len m y
  repeat' (first | (refine bG rfl rfl ?_; refine aO (i := 0) (vs := Unp.cs m y) rfl rfl rfl hly (by simp) (UnpL.one _ _) ?_; rw [eC (by rw [hly]; rfl)]; refine aB ?_; refine cA ?_) | (refine aE rfl rfl ?_; ((first | refine aH ?_ | refine aX ?_ | refine cD rfl rfl ?_)); refine aB ?_) | (refine bG rfl rfl ?_; ((refine bK cW (fun b => ?_))); refine aB ?_))
  apply aG; apply aD
  apply aF; apply aA
  repeat' ((refine aE rfl rfl ?_; ((refine aH ?_)); refine aB ?_))
  refine dS rfl ?_; refine aY fA ?_
  refine zD A1 c1 bb (by omega) (List.mem_append_right _ (List.Mem.tail _ (List.Mem.tail _ hm))) (rE (r := (m, at_, f)) hd.symm (fun y2 hy2 => ?_))
  refine aB ?_
  repeat' ((refine bG rfl rfl ?_; ((refine bK cW (fun b => ?_))); refine aB ?_))
  have hl2 : (Unp.cs m y2).length = 16 := UnpL.len m y2
  have hl3 : (Unp.cs m y2 ++ [Value.int .i64 at_, Value.int .i64 f]).length = 18 := by rw [List.length_append, hl2]; rfl
  refine bG rfl rfl ?_
  refine aO (i := 0) (vs := Unp.cs m y2 ++ [Value.int .i64 at_, Value.int .i64 f]) rfl rfl rfl hl3 (by simp) (fun v hv => ?_) ?_
  · rcases List.mem_append.1 hv with hv | hv
    · exact UnpL.one _ _ v hv
    · simp only [List.mem_cons, List.not_mem_nil, or_false] at hv
      rcases hv with rfl | rfl <;> rfl
  rw [eC (by rw [hl3]; rfl)]
  refine aB ?_
  refine cA ?_
  repeat' (first | (refine aP rfl ?_; refine aM (i := 0) rfl rfl ((qK (i := 17) hl2 (by decide)).trans rfl) ?_; refine aB ?_) | (refine aP rfl ?_; refine aM (i := 0) rfl rfl ((qK (i := 16) hl2 (by decide)).trans rfl) ?_; refine aB ?_) | (refine aP rfl ?_; refine aM (i := 0) rfl rfl (sY hl2) ?_; refine aB ?_) | (refine aP rfl ?_; refine aM (i := 1) rfl rfl (cN hly) ?_; refine aB ?_) | (refine dS rfl ?_; refine aY fA ?_; refine sV _ _ _ _ _ _ bs bs (List.mem_append_right _ (List.mem_append_right _ (List.Mem.tail _ (List.Mem.head _)))) (List.mem_append_right _ (List.mem_append_right _ (List.Mem.head _))) (fun _ => ?_) (fun hh => absurd rfl hh); refine aB ?_) | (refine dS rfl ?_; refine aY fA ?_; refine p2 m m y y2 (fun p hp => List.mem_append_right _ (List.mem_append_left _ hp)) (fun p hp => List.mem_append_left _ hp) (fun r hr => ?_); (obtain rfl : r = true := hr rfl); refine aB ?_) | (refine aU rfl ?_; refine fS (k := .i64) rfl rfl (fun h => ?_) (fun h => absurd rfl h); refine aB ?_) | (apply aF) | (apply aA) | (apply bN) | (apply aG) | (apply aD) | (apply aP; exact rfl; ((refine aM (i := 2) rfl rfl rfl ?_)); refine aB ?_) | (refine aE rfl rfl ?_; ((first | refine aH ?_ | refine aX ?_ | refine bT rfl eJ ?_ | refine aC rfl ?_)); refine aB ?_))
  exact bC (.inl rfl) (dM rfl (bS rfl)) (cG H R (fun w hs => hs.weaken bU (fun p hp => List.mem_append_right _ (List.mem_append_right _ (List.mem_cons_of_mem _ (List.mem_cons_of_mem _ hp))))) k)
end Go.Proofs.YtggdljhmbckpmaaGreat
namespace Go.Proofs.YtggdljhmbckpmaaGreat
open Go Go.RowKit Go.WideShapes
set_option maxRecDepth 100000
set_option maxHeartbeats 1600000
attribute [local semireducible] At S Sl Ls

/-- What can be read at the type 't' is data of the kind 'α'. -/
def Opn (P : Program) (t : TypeId) (α : Type) [Rep α] : Prop := ∀ (H : Type) (enc : TypeId × Value → H) (w : World) (base : Nat) (spare : Nat → Bool) (held : Bool) (fuel : Nat) (cs : List Value) (x : DataW H × List MemPlace),
  DataW.trod enc P w base spare held fuel t cs = some x → ∃ a : α, Rep.rd (sA w) cs a

theorem opn_u8 {P : Program} {t : TypeId} (h : P.underlying t = some (.int .u8)) : Opn P t UInt8 := fun H enc w base spare held fuel cs x hx => by
  obtain ⟨n, rfl, _, hw⟩ := DataW.trod_int h hx
  simp only [Lit.wf, Bool.and_eq_true, decide_eq_true_eq] at hw
  have h1 : (0 : Int) ≤ n := hw.1
  have h2 : n ≤ (255 : Int) := hw.2
  refine ⟨UInt8.ofNat n.toNat, ?_⟩
  show [Value.int .u8 n] = [Value.int .u8 (((UInt8.ofNat n.toNat).toNat : Nat) : Int)]
  have e : (((UInt8.ofNat n.toNat).toNat : Nat) : Int) = n := by
    rw [UInt8.toNat_ofNat']; omega
  rw [e]
theorem xW {P : Program} {t e : TypeId} {α : Type} [Rep α] (h : P.underlying t = some (.slice e)) (hc : P.cellsOf e = Rep.size α) (hp : 0 < Rep.size α) (he : Opn P e α) : Opn P t (List α) := fun H enc w base spare held fuel cs x hx => by
  rcases DataW.trod_slice h hx with ⟨rfl, _⟩ | ⟨a, len, cap, elems, rest, n, _, rfl, _, _, hl, hm, hel, hget, _⟩
  · exact ⟨[], .slice none 0 0, rfl, none, 0, rfl, ⟨Nat.le_refl _, Nat.zero_le _⟩, fun h0 => absurd h0 (by simp)⟩
  · have hone : ∀ i, i < len → ∃ (y : α) (cs' : List Value), w.cells? base (a.add (i * P.cellsOf e)) (P.cellsOf e) = some cs' ∧ Rep.rd (sA w) cs' y := fun i hi => by
      have := hget i hi
      rw [List.getElem?_eq_getElem (by omega), Option.bind_eq_some_iff] at this
      obtain ⟨cs', h1, h2⟩ := this
      obtain ⟨y, hy⟩ := he H enc w base spare held n cs' _ h2
      exact ⟨y, cs', h1, hy⟩
    have hall : ∀ m, m ≤ len → ∃ xs : List α, xs.length = m ∧ ∀ i y, xs[i]? = some y → ∃ cs' : List Value, w.cells? base (a.add (i * P.cellsOf e)) (P.cellsOf e) = some cs' ∧ Rep.rd (sA w) cs' y := by
      intro m
      induction m with
      | zero => exact fun _ => ⟨[], rfl, fun i y hi => by simp at hi⟩
      | succ m ih =>
        intro hm'
        obtain ⟨xs, e1, e2⟩ := ih (by omega)
        obtain ⟨y, cs', h1, h2⟩ := hone m (by omega)
        refine ⟨xs ++ [y], by simp [e1], fun i z hi => ?_⟩
        by_cases hh : i < xs.length
        · rw [List.getElem?_append_left hh] at hi
          exact e2 i z hi
        · have hi' := (List.getElem?_eq_some_iff.1 hi).1
          simp at hi'
          obtain rfl : i = xs.length := by omega
          simp at hi
          subst hi
          rw [e1]
          exact ⟨cs', h1, h2⟩
    obtain ⟨xs, e1, e2⟩ := hall len (Nat.le_refl _)
    subst e1
    have hcell : ∀ i y, xs[i]? = some y → ∃ cs' : List Value, Rep.rd (sA w) cs' y ∧ ∀ j v, cs'[j]? = some v → w.cell? ((a.add (i * Rep.size α)).add j) = some v := fun i y hi => by
      obtain ⟨cs', h1, h2⟩ := e2 i y hi
      refine ⟨cs', h2, fun j v hj => ?_⟩
      unfold World.cells? at h1
      split at h1
      · have hlen := mapM_some_length h1
        have hj' := (List.getElem?_eq_some_iff.1 hj).1
        rw [List.length_range] at hlen
        have := mapM_some_get h1 j j (by rw [List.getElem?_range (by omega)])
        rw [hc] at this
        rw [this]; exact hj
      · cases h1
    refine ⟨xs, _, rfl, some a, cap, rfl, ⟨hl, ?_⟩, fun h0 => ?_⟩
    · exact hm
    · have hsp : a.spot = none := by
        obtain ⟨cs', h1, h2⟩ := hcell 0 xs[0] (List.getElem?_eq_getElem h0)
        have hl' := Rep.len h1
        have := h2 0 (cs'[0]'(by omega)) (List.getElem?_eq_getElem (by omega))
        simp only [Nat.zero_mul, Addr.add, if_pos] at this
        unfold World.cell? at this
        split at this
        · cases hs : a.spot with
          | none => rfl
          | some z => rw [hs] at this; simp at this
        · cases this
      obtain ⟨b, o, sp⟩ := a
      subst hsp
      refine ⟨b, o, rfl, fun i y hi => ?_⟩
      obtain ⟨cs', h1, h2⟩ := hcell i y hi
      refine ⟨cs', h1, fun j v hj => ?_⟩
      have := h2 j v hj
      rw [Addr.add_mk, Addr.add_mk] at this
      exact this
theorem opn_bytes : Opn Tryz.prog 33 (List UInt8) := xW Tryz.underlying33 (by kernel_rfl) Nat.one_pos (opn_u8 Tryz.underlying5)
/-- A slice argument: its value, and what it reads as. -/
theorem Opn.sl {P : Program} {t : TypeId} {α : Type} [Rep α] (k : Opn P t (List α)) {H : Type} {enc : TypeId × Value → H} {w : World} {base : Nat} {spare : Nat → Bool} {held : Bool} {v : Value} {d : DataW H} {ps : List MemPlace} (h : DataW.Trod enc P w base spare held t v d ps) (hv : v.cells = #[v]) : ∃ (A : Option Addr) (xs : List α) (c : Nat), v = .slice A xs.length c ∧ (Sl (.slice A xs.length c) xs).p (sA w) := by
  obtain ⟨fuel, hf⟩ := h
  rw [hv] at hf
  obtain ⟨xs, v', e, hs⟩ := k _ _ _ _ _ _ _ _ _ hf
  simp at e
  subst e
  obtain ⟨A, c, rfl, h2⟩ := hs
  exact ⟨A, xs, c, rfl, A, c, rfl, h2⟩
attribute [local semireducible] CallsK
theorem CallsK.run {P : Program} {w0 w : World} {f : FuncId} {args : Array Value} {H : List Hp} {R : List MP} {K : Value → List Hp → List MP → Prop} (h : CallsK P w0 f args H R K) (hs : S w0 w H R) : Calls P f args w (fun e w' => ∃ v H' R', e = .returned v ∧ S w0 w' H' R' ∧ K v H' R') := h w hs
end Go.Proofs.YtggdljhmbckpmaaGreat
namespace Go.Proofs.YtggdljhmbckpmaaGreat
set_option maxRecDepth 100000
open Go Go.RowKit Go.WideShapes
attribute [local semireducible] At S Sl Ls
theorem yN {P : Program} {t e : TypeId} {H : Type} {enc : TypeId × Value → H} {w : World} {base : Nat} {spare : Nat → Bool} {held : Bool} {A : Option Addr} {n c : Nat} {d : DataW H} {ps : List MemPlace} (hu : P.underlying t = some (.slice e)) (h : DataW.Trod enc P w base spare held t (.slice A n c) d ps)
    {ts : List TypeId} {ds : List (DataW H)} (hz : (DataW.weightsEach P ts ds).all (· ≤ reachBytes) = true) {j : Nat} (ht : ts[j]? = some t) (hd : ds[j]? = some d) (he : decide (1 ≤ P.bytesOf e) = true) : n ≤ 140737488355328 := by
  obtain ⟨fuel, hf⟩ := h
  rcases DataW.trod_slice hu hf with ⟨e1, _⟩ | ⟨a, len, cap, elems, rest, m, _, e1, e2, _, _, _, hl, _⟩
  · simp only [Value.cells, Array.toList, List.cons.injEq, Value.slice.injEq] at e1
    omega
  · simp only [Value.cells, Array.toList, List.cons.injEq, Value.slice.injEq] at e1
    obtain ⟨⟨_, rfl, _⟩, _⟩ := e1
    injection e2 with e2 _
    subst e2
    have := sized_slice hz ht hd hu
    have h1 := of_decide_eq_true he
    have h2 := reachBytes_lt
    rw [List.length_map, List.length_map, hl] at this
    have h3 : (n + rest.length) * 1 ≤ (n + rest.length) * P.bytesOf e := Nat.mul_le_mul_left _ h1
    omega
end Go.Proofs.YtggdljhmbckpmaaGreat
namespace Go.Proofs.YtggdljhmbckpmaaGreat
open Go Go.RowKit Go.WideShapes
set_option maxRecDepth 100000
set_option maxHeartbeats 1600000
attribute [local semireducible] At S Sl Ls

/-- What can be read at the type 't' is data of the kind 'α', of at most ten bytes for each of its bulk. -/
def Opb (P : Program) (t : TypeId) (α : Type) [Rep α] [Cod α] : Prop := ∀ (H : Type) (enc : TypeId × Value → H) (w : World) (base : Nat) (spare : Nat → Bool) (held : Bool) (fuel : Nat) (cs : List Value) (x : DataW H × List MemPlace),
  DataW.trod enc P w base spare held fuel t cs = some x → ∃ a : α, Rep.rd (sA w) cs a ∧ (Cod.enc a).length ≤ 10 * Rows.uptoBulk x.1
def OpbN (P : Program) (t : TypeId) (α : Type) [Rep α] [Cod α] (N : Nat) : Prop := ∀ (H : Type) (enc : TypeId × Value → H) (w : World) (base : Nat) (spare : Nat → Bool) (held : Bool) (fuel : Nat), fuel ≤ N → ∀ (cs : List Value) (x : DataW H × List MemPlace),
  DataW.trod enc P w base spare held fuel t cs = some x → ∃ a : α, Rep.rd (sA w) cs a ∧ (Cod.enc a).length ≤ 10 * Rows.uptoBulk x.1
theorem OpbN.all {P : Program} {t : TypeId} {α : Type} [Rep α] [Cod α] (h : ∀ N, OpbN P t α N) : Opb P t α := fun H enc w base spare held fuel cs x hx => h fuel H enc w base spare held fuel (Nat.le_refl _) cs x hx
theorem Opb.n {P : Program} {t : TypeId} {α : Type} [Rep α] [Cod α] (h : Opb P t α) (N : Nat) : OpbN P t α N := fun H enc w base spare held fuel _ cs x hx => h H enc w base spare held fuel cs x hx
theorem dF {α β : Type} [Rep α] [Rep β] [Cod α] [Cod β] {s : Sto} {cs : List Value} {o o' u v : Nat} (sz : Nat) (ho : o' = o + sz) (h1 : ∃ a : α, Rep.rd s ((cs.drop o).take sz) a ∧ (Cod.enc a).length ≤ 10 * u) (h2 : ∃ b : β, Rep.rd s (cs.drop o') b ∧ (Cod.enc b).length ≤ 10 * v) : ∃ p : α × β, Rep.rd s (cs.drop o) p ∧ (Cod.enc p).length ≤ 10 * (u + v) := by
  obtain ⟨a, ha, la⟩ := h1
  obtain ⟨b, hb, lb⟩ := h2
  subst ho
  refine ⟨(a, b), ⟨_, _, by rw [← List.drop_drop, List.take_append_drop], ha, hb⟩, ?_⟩
  show (Cod.enc a ++ Cod.enc b).length ≤ _
  rw [List.length_append]
  omega
theorem iN {α : Type} [Rep α] [Cod α] {s : Sto} {cs : List Value} {o u : Nat} (sz : Nat) (h : ∃ a : α, Rep.rd s ((cs.drop o).take sz) a ∧ (Cod.enc a).length ≤ 10 * u) (hl : cs.length = o + sz) : ∃ a : α, Rep.rd s (cs.drop o) a ∧ (Cod.enc a).length ≤ 10 * u := by
  rwa [List.take_of_length_le (by rw [List.length_drop]; omega)] at h
theorem dI {H : Type} {enc : TypeId × Value → H} {P : Program} {w : World} {base : Nat} {spare : Nat → Bool} {held : Bool} {n t o sz : Nat} {cs : List Value} {α : Type} [Rep α] [Cod α] {z : DataW H × List MemPlace} (k : ∀ cs x, DataW.trod enc P w base spare held n t cs = some x → ∃ a : α, Rep.rd (sA w) cs a ∧ (Cod.enc a).length ≤ 10 * Rows.uptoBulk x.1) (g : DataW.trod enc P w base spare held n t ((cs.drop o).take (P.cellsOf t)) = some z) (h : P.cellsOf t = sz) : ∃ a : α, Rep.rd (sA w) ((cs.drop o).take sz) a ∧ (Cod.enc a).length ≤ 10 * Rows.uptoBulk z.1 := by
  subst h
  exact k _ _ g
theorem Opb.at {P : Program} {t : TypeId} {α : Type} [Rep α] [Cod α] (h : Opb P t α) {H : Type} {enc : TypeId × Value → H} {w : World} {base : Nat} {spare : Nat → Bool} {held : Bool} {n : Nat} : ∀ cs x, DataW.trod enc P w base spare held n t cs = some x → ∃ a : α, Rep.rd (sA w) cs a ∧ (Cod.enc a).length ≤ 10 * Rows.uptoBulk x.1 := h H enc w base spare held n
theorem cU {α : Type} {xs : List α} {n : Nat} (h : xs.length = n + 1) : ∃ y ys, xs = y :: ys ∧ ys.length = n := by
  cases xs with
  | nil => cases h
  | cons y ys => exact ⟨y, ys, rfl, by simpa using h⟩
theorem sO : ∀ (m u : Nat), (mB m u).length ≤ m + 1
  | 0, u => by simp [mB]
  | m + 1, u => by
    unfold mB
    split
    · have := sO m (u / 128)
      simp only [List.length_cons]
      omega
    · simp
theorem lO {n : Int} (h : dD n) : (cL n).length ≤ 10 := sO 9 _
theorem yW {P : Program} {t : TypeId} (h : P.underlying t = some .bool) : Opb P t Bool := fun H enc w base spare held fuel cs x hx => by
  obtain ⟨b, rfl, rfl⟩ := DataW.trod_bool h hx
  exact ⟨b, rfl, by
    show (gN b).length ≤ _
    simp only [gN, Rows.uptoBulk, List.length_cons, List.length_nil]
    omega⟩
theorem k6 {P : Program} {t : TypeId} (h : P.underlying t = some .string) : Opb P t ByteArray := fun H enc w base spare held fuel cs x hx => by
  obtain ⟨s, rfl, rfl, hs⟩ := DataW.trod_string h hx
  refine ⟨s, ⟨rfl, hs⟩, ?_⟩
  have h1 := lO (n := (s.size : Int)) (by have : s.size ≤ 9223372036854775807 := hs; simp only [dD]; omega)
  have h2 : s.data.toList.length = s.size := Array.length_toList
  show (cL s.size ++ s.data.toList).length ≤ _
  simp only [Rows.uptoBulk, List.length_append]
  omega
theorem zM {P : Program} {t : TypeId} (h : P.underlying t = some (.int .i64)) : Opb P t Int := fun H enc w base spare held fuel cs x hx => by
  obtain ⟨n, rfl, rfl, hw⟩ := DataW.trod_int h hx
  simp only [Lit.wf, Bool.and_eq_true, decide_eq_true_eq] at hw
  have hI : dD n := ⟨hw.1, hw.2⟩
  exact ⟨n, ⟨rfl, hI⟩, by
    have := lO hI
    show (cL n).length ≤ _
    simp only [Rows.uptoBulk]
    omega⟩
theorem opb_bool : Opb Tryz.prog 4 Bool := yW Tryz.underlying4
theorem opb_str : Opb Tryz.prog 9 ByteArray := k6 Tryz.underlying9
theorem opb_n : Opb Tryz.prog 3 Int := zM Tryz.underlying3
theorem vE {H : Type} (l r : List (DataW H)) : Rows.uptoBulkAll (l ++ r) = Rows.uptoBulkAll l + Rows.uptoBulkAll r := by
  induction l with
  | nil => simp [Rows.uptoBulkAll]
  | cons x l ih => simp only [List.cons_append, Rows.uptoBulkAll, ih]; omega
theorem oH {P : Program} {t e : TypeId} {α : Type} [Rep α] [Cod α] {N : Nat} (h : P.underlying t = some (.slice e)) (hc : P.cellsOf e = Rep.size α) (hp : 0 < Rep.size α) (he : OpbN P e α N) : OpbN P t (List α) N := fun H enc w base spare held fuel hN cs x hx => by
  rcases DataW.trod_slice h hx with ⟨rfl, rfl⟩ | ⟨a, len, cap, elems, rest, n, hfu, rfl, rfl, _, hl, hm, hel, hget, _⟩
  · exact ⟨[], ⟨.slice none 0 0, rfl, none, 0, rfl, ⟨Nat.le_refl _, Nat.zero_le _⟩, fun h0 => absurd h0 (by simp)⟩, by
      have := lO (n := 0) (by simp only [dD]; omega)
      show (cL ((0 : Nat) : Int) ++ []).length ≤ _
      simp only [List.append_nil, Rows.uptoBulk]
      exact this⟩
  · have hone : ∀ i, i < len → ∃ (y : α) (cs' : List Value), w.cells? base (a.add (i * P.cellsOf e)) (P.cellsOf e) = some cs' ∧ Rep.rd (sA w) cs' y ∧ ∀ z, elems[i]? = some z → (Cod.enc y).length ≤ 10 * Rows.uptoBulk z.1 := fun i hi => by
      have := hget i hi
      rw [List.getElem?_eq_getElem (by omega), Option.bind_eq_some_iff] at this
      obtain ⟨cs', h1, h2⟩ := this
      obtain ⟨y, hy, hb⟩ := he H enc w base spare held n (by omega) cs' _ h2
      exact ⟨y, cs', h1, hy, fun z hz => by rw [List.getElem?_eq_getElem (by omega)] at hz; injection hz with hz; rw [← hz]; exact hb⟩
    have hall : ∀ m, m ≤ len → ∃ xs : List α, xs.length = m ∧ (xs.flatMap Cod.enc).length ≤ 10 * Rows.uptoBulkAll ((elems.take m).map (·.1)) ∧ ∀ i y, xs[i]? = some y → ∃ cs' : List Value, w.cells? base (a.add (i * P.cellsOf e)) (P.cellsOf e) = some cs' ∧ Rep.rd (sA w) cs' y := by
      intro m
      induction m with
      | zero => exact fun _ => ⟨[], rfl, by simp, fun i y hi => by simp at hi⟩
      | succ m ih =>
        intro hm'
        obtain ⟨xs, e1, e3, e2⟩ := ih (by omega)
        obtain ⟨y, cs', h1, h2, h3⟩ := hone m (by omega)
        refine ⟨xs ++ [y], by simp [e1], ?_, fun i z hi => ?_⟩
        · have hm2 : m < elems.length := by omega
          have h4 := h3 _ (List.getElem?_eq_getElem hm2)
          rw [List.take_add_one, List.getElem?_eq_getElem hm2, List.map_append, vE]
          simp only [Option.toList_some, List.map_cons, List.map_nil, Rows.uptoBulkAll, List.flatMap_append, List.flatMap_cons, List.flatMap_nil, List.append_nil, List.length_append]
          omega
        by_cases hh : i < xs.length
        · rw [List.getElem?_append_left hh] at hi
          exact e2 i z hi
        · have hi' := (List.getElem?_eq_some_iff.1 hi).1
          simp at hi'
          obtain rfl : i = xs.length := by omega
          simp at hi
          subst hi
          rw [e1]
          exact ⟨cs', h1, h2⟩
    obtain ⟨xs, e1, e3, e2⟩ := hall len (Nat.le_refl _)
    subst e1
    have hcell : ∀ i y, xs[i]? = some y → ∃ cs' : List Value, Rep.rd (sA w) cs' y ∧ ∀ j v, cs'[j]? = some v → w.cell? ((a.add (i * Rep.size α)).add j) = some v := fun i y hi => by
      obtain ⟨cs', h1, h2⟩ := e2 i y hi
      refine ⟨cs', h2, fun j v hj => ?_⟩
      unfold World.cells? at h1
      split at h1
      · have hlen := mapM_some_length h1
        have hj' := (List.getElem?_eq_some_iff.1 hj).1
        rw [List.length_range] at hlen
        have := mapM_some_get h1 j j (by rw [List.getElem?_range (by omega)])
        rw [hc] at this
        rw [this]; exact hj
      · cases h1
    have hbk : (Cod.enc xs).length ≤ 10 * Rows.uptoBulk (DataW.slice (elems.map (·.1)) (rest.map (·.1))) := by
      rw [List.take_of_length_le (by omega)] at e3
      have := lO (n := (xs.length : Int)) (by have h5 : cap ≤ 9223372036854775807 := hm; simp only [dD]; omega)
      show (cL xs.length ++ xs.flatMap Cod.enc).length ≤ _
      simp only [List.length_append, Rows.uptoBulk]
      omega
    refine ⟨xs, ⟨_, rfl, some a, cap, rfl, ⟨hl, ?_⟩, fun h0 => ?_⟩, hbk⟩
    · exact hm
    · have hsp : a.spot = none := by
        obtain ⟨cs', h1, h2⟩ := hcell 0 xs[0] (List.getElem?_eq_getElem h0)
        have hl' := Rep.len h1
        have := h2 0 (cs'[0]'(by omega)) (List.getElem?_eq_getElem (by omega))
        simp only [Nat.zero_mul, Addr.add, if_pos] at this
        unfold World.cell? at this
        split at this
        · cases hs : a.spot with
          | none => rfl
          | some z => rw [hs] at this; simp at this
        · cases this
      obtain ⟨b, o, sp⟩ := a
      subst hsp
      refine ⟨b, o, rfl, fun i y hi => ?_⟩
      obtain ⟨cs', h1, h2⟩ := hcell i y hi
      refine ⟨cs', h1, fun j v hj => ?_⟩
      have := h2 j v hj
      rw [Addr.add_mk, Addr.add_mk] at this
      exact this
theorem iE {P : Program} {t e : TypeId} {α : Type} [Rep α] [Cod α] (h : P.underlying t = some (.slice e)) (hc : P.cellsOf e = Rep.size α) (hp : 0 < Rep.size α) (he : Opb P e α) : Opb P t (List α) := OpbN.all (fun N => oH h hc hp (he.n N))
theorem Tm.rdb_of {s : Sto} {cs : List Value} {k i : Int} {nm : ByteArray} {l : List Tm} (h : Rep.rd s cs ((k, i, nm, l) : Int × Int × ByteArray × List Tm)) : Rep.rd s cs (.mk k i nm l : Tm) := by
  obtain ⟨c1, _, rfl, ⟨rfl, hk⟩, c2, _, rfl, ⟨rfl, hi⟩, c3, c4, rfl, ⟨rfl, hn⟩, v, rfl, hv⟩ := h
  have hv' := hv
  obtain ⟨A, c, rfl, hc, _⟩ := hv
  exact Unp.re (x := (.mk k i nm l : Tm)) (y := ((A, c) : Option Addr × Nat)) (show dD k ∧ dD i ∧ nm.size ≤ 9223372036854775807 ∧ l.length ≤ 9223372036854775807 from ⟨hk, hi, hn, Nat.le_trans hc.1 hc.2⟩) (fun p hp => by
    obtain rfl : p = Sl (.slice A l.length c) l := by simpa [Unp.fs, Tm.fs] using hp
    exact hv')
theorem Tp.rdb_of {s : Sto} {cs : List Value} {nm : ByteArray} {l : List Tp} (h : Rep.rd s cs ((nm, l) : ByteArray × List Tp)) : Rep.rd s cs (.mk nm l : Tp) := by
  obtain ⟨c3, c4, rfl, ⟨rfl, hn⟩, v, rfl, hv⟩ := h
  have hv' := hv
  obtain ⟨A, c, rfl, hc, _⟩ := hv
  exact Unp.re (x := (.mk nm l : Tp)) (y := ((A, c) : Option Addr × Nat)) (show nm.size ≤ 9223372036854775807 ∧ l.length ≤ 9223372036854775807 from ⟨hn, Nat.le_trans hc.1 hc.2⟩) (fun p hp => by
    obtain rfl : p = Sl (.slice A l.length c) l := by simpa [Unp.fs, Tp.fs] using hp
    exact hv')
theorem aB7 : ∀ N, OpbN Tryz.prog 160 Tm N := by
  intro N
  induction N with
  | zero =>
    intro H enc w base spare held fuel hf cs x hx
    obtain ⟨xs, n, hn, _⟩ := DataW.trod_struct Tryz.underlying160 hx
    omega
  | succ N ih =>
  intro H enc w base spare held fuel hfu cs x hx
  have ihl : OpbN Tryz.prog 113 (List Tm) N := oH Tryz.underlying113 (by kernel_rfl) (show 0 < 4 by decide) ih
  obtain ⟨xs, n, hn, hxe, hl, hxl, hf⟩ := DataW.trod_struct Tryz.underlying160 hx
  rw [show Tryz.prog.cellsOf 160 = 4 by kernel_rfl] at hl
  have hxl2 : xs.length = 4 := hxl
  have ihl_at := fun cs x hx => ihl H enc w base spare held n (by omega) cs x hx
  obtain ⟨y0, xs0, rfl, hq0⟩ := cU hxl2
  obtain ⟨y1, xs1, rfl, hq1⟩ := cU hq0
  obtain ⟨y2, xs2, rfl, hq2⟩ := cU hq1
  obtain ⟨y3, xs3, rfl, hq3⟩ := cU hq2
  obtain rfl := List.eq_nil_of_length_eq_zero hq3
  subst hxe
  have d0 := dI (o := 0) (sz := 1) opb_n.at (hf 0 _ rfl) (by kernel_rfl)
  have d1 := dI (o := 1) (sz := 1) opb_n.at (hf 1 _ rfl) (by kernel_rfl)
  have d2 := dI (o := 2) (sz := 1) opb_str.at (hf 2 _ rfl) (by kernel_rfl)
  have d3 := dI (o := 3) (sz := 1) ihl_at (hf 3 _ rfl) (by kernel_rfl)
  obtain ⟨⟨k, i, nm, l⟩, q, hb⟩ := (dF 1 (by rfl) d0 (dF 1 (by rfl) d1 (dF 1 (by rfl) d2 (iN 1 d3 (by omega)))))
  rw [List.drop_zero] at q
  refine ⟨.mk k i nm l, Tm.rdb_of q, Nat.le_trans (Nat.le_of_eq ?_) (Nat.le_trans hb ?_)⟩
  · show (Tm.enc _).length = _
    rw [Tm.enc_eq]
    rfl
  · simp only [List.map_cons, List.map_nil, Rows.uptoBulk, Rows.uptoBulkAll]
    omega
theorem opb_tm : Opb Tryz.prog 160 Tm := OpbN.all aB7
theorem opb_tms : Opb Tryz.prog 113 (List Tm) := iE Tryz.underlying113 (by kernel_rfl) (show 0 < 4 by decide) opb_tm
theorem t5 : ∀ N, OpbN Tryz.prog 158 Tp N := by
  intro N
  induction N with
  | zero =>
    intro H enc w base spare held fuel hf cs x hx
    obtain ⟨xs, n, hn, _⟩ := DataW.trod_struct Tryz.underlying158 hx
    omega
  | succ N ih =>
  intro H enc w base spare held fuel hfu cs x hx
  have ihl : OpbN Tryz.prog 156 (List Tp) N := oH Tryz.underlying156 (by kernel_rfl) (show 0 < 2 by decide) ih
  obtain ⟨xs, n, hn, hxe, hl, hxl, hf⟩ := DataW.trod_struct Tryz.underlying158 hx
  rw [show Tryz.prog.cellsOf 158 = 2 by kernel_rfl] at hl
  have hxl2 : xs.length = 2 := hxl
  have ihl_at := fun cs x hx => ihl H enc w base spare held n (by omega) cs x hx
  obtain ⟨y0, xs0, rfl, hq0⟩ := cU hxl2
  obtain ⟨y1, xs1, rfl, hq1⟩ := cU hq0
  obtain rfl := List.eq_nil_of_length_eq_zero hq1
  subst hxe
  have d0 := dI (o := 0) (sz := 1) opb_str.at (hf 0 _ rfl) (by kernel_rfl)
  have d1 := dI (o := 1) (sz := 1) ihl_at (hf 1 _ rfl) (by kernel_rfl)
  obtain ⟨⟨nm, l⟩, q, hb⟩ := (dF 1 (by rfl) d0 (iN 1 d1 (by omega)))
  rw [List.drop_zero] at q
  refine ⟨.mk nm l, Tp.rdb_of q, Nat.le_trans (Nat.le_of_eq ?_) (Nat.le_trans hb ?_)⟩
  · show (Tp.enc _).length = _
    rw [Tp.enc_eq]
    rfl
  · simp only [List.map_cons, List.map_nil, Rows.uptoBulk, Rows.uptoBulkAll]
    omega
theorem opb_tp : Opb Tryz.prog 158 Tp := OpbN.all t5
theorem opb_ints : Opb Tryz.prog 22 (List Int) := iE Tryz.underlying22 (by kernel_rfl) (show 0 < 1 by decide) opb_n
theorem opb_fa : Opb Tryz.prog 151 (FaD) := fun H enc w base spare held fuel cs x hx => by
  obtain ⟨xs, n, hn, hxe, hl, hxl, hf⟩ := DataW.trod_struct Tryz.underlying151 hx
  rw [show Tryz.prog.cellsOf 151 = 2 by kernel_rfl] at hl
  have hxl2 : xs.length = 2 := hxl
  obtain ⟨y0, xs0, rfl, hq0⟩ := cU hxl2
  obtain ⟨y1, xs1, rfl, hq1⟩ := cU hq0
  obtain rfl := List.eq_nil_of_length_eq_zero hq1
  subst hxe
  have d0 := dI (o := 0) (sz := 1) opb_str.at (hf 0 _ rfl) (by kernel_rfl)
  have d1 := dI (o := 1) (sz := 1) opb_tms.at (hf 1 _ rfl) (by kernel_rfl)
  obtain ⟨a, q, hb⟩ := (dF 1 (by rfl) d0 (iN 1 d1 (by omega)))
  rw [List.drop_zero] at q
  refine ⟨a, q, Nat.le_trans hb ?_⟩
  simp only [List.map_cons, List.map_nil, Rows.uptoBulk, Rows.uptoBulkAll]
  omega
theorem opb_fr : Opb Tryz.prog 143 (oK) := fun H enc w base spare held fuel cs x hx => by
  obtain ⟨xs, n, hn, hxe, hl, hxl, hf⟩ := DataW.trod_struct Tryz.underlying143 hx
  rw [show Tryz.prog.cellsOf 143 = 5 by kernel_rfl] at hl
  have hxl2 : xs.length = 5 := hxl
  obtain ⟨y0, xs0, rfl, hq0⟩ := cU hxl2
  obtain ⟨y1, xs1, rfl, hq1⟩ := cU hq0
  obtain ⟨y2, xs2, rfl, hq2⟩ := cU hq1
  obtain ⟨y3, xs3, rfl, hq3⟩ := cU hq2
  obtain ⟨y4, xs4, rfl, hq4⟩ := cU hq3
  obtain rfl := List.eq_nil_of_length_eq_zero hq4
  subst hxe
  have d0 := dI (o := 0) (sz := 1) opb_tms.at (hf 0 _ rfl) (by kernel_rfl)
  have d1 := dI (o := 1) (sz := 1) opb_tms.at (hf 1 _ rfl) (by kernel_rfl)
  have d2 := dI (o := 2) (sz := 1) opb_n.at (hf 2 _ rfl) (by kernel_rfl)
  have d3 := dI (o := 3) (sz := 1) opb_n.at (hf 3 _ rfl) (by kernel_rfl)
  have d4 := dI (o := 4) (sz := 1) opb_n.at (hf 4 _ rfl) (by kernel_rfl)
  obtain ⟨a, q, hb⟩ := (dF 1 (by rfl) d0 (dF 1 (by rfl) d1 (dF 1 (by rfl) d2 (dF 1 (by rfl) d3 (iN 1 d4 (by omega))))))
  rw [List.drop_zero] at q
  refine ⟨a, q, Nat.le_trans hb ?_⟩
  simp only [List.map_cons, List.map_nil, Rows.uptoBulk, Rows.uptoBulkAll]
  omega
theorem opb_br : Opb Tryz.prog 147 (oI) := fun H enc w base spare held fuel cs x hx => by
  obtain ⟨xs, n, hn, hxe, hl, hxl, hf⟩ := DataW.trod_struct Tryz.underlying147 hx
  rw [show Tryz.prog.cellsOf 147 = 7 by kernel_rfl] at hl
  have hxl2 : xs.length = 7 := hxl
  obtain ⟨y0, xs0, rfl, hq0⟩ := cU hxl2
  obtain ⟨y1, xs1, rfl, hq1⟩ := cU hq0
  obtain ⟨y2, xs2, rfl, hq2⟩ := cU hq1
  obtain ⟨y3, xs3, rfl, hq3⟩ := cU hq2
  obtain ⟨y4, xs4, rfl, hq4⟩ := cU hq3
  obtain ⟨y5, xs5, rfl, hq5⟩ := cU hq4
  obtain ⟨y6, xs6, rfl, hq6⟩ := cU hq5
  obtain rfl := List.eq_nil_of_length_eq_zero hq6
  subst hxe
  have d0 := dI (o := 0) (sz := 1) opb_n.at (hf 0 _ rfl) (by kernel_rfl)
  have d1 := dI (o := 1) (sz := 1) opb_n.at (hf 1 _ rfl) (by kernel_rfl)
  have d2 := dI (o := 2) (sz := 1) opb_ints.at (hf 2 _ rfl) (by kernel_rfl)
  have d3 := dI (o := 3) (sz := 1) opb_bool.at (hf 3 _ rfl) (by kernel_rfl)
  have d4 := dI (o := 4) (sz := 1) opb_ints.at (hf 4 _ rfl) (by kernel_rfl)
  have d5 := dI (o := 5) (sz := 1) opb_bool.at (hf 5 _ rfl) (by kernel_rfl)
  have d6 := dI (o := 6) (sz := 1) opb_n.at (hf 6 _ rfl) (by kernel_rfl)
  obtain ⟨a, q, hb⟩ := (dF 1 (by rfl) d0 (dF 1 (by rfl) d1 (dF 1 (by rfl) d2 (dF 1 (by rfl) d3 (dF 1 (by rfl) d4 (dF 1 (by rfl) d5 (iN 1 d6 (by omega))))))))
  rw [List.drop_zero] at q
  refine ⟨a, q, Nat.le_trans hb ?_⟩
  simp only [List.map_cons, List.map_nil, Rows.uptoBulk, Rows.uptoBulkAll]
  omega
theorem opb_sc : Opb Tryz.prog 153 (nZ) := fun H enc w base spare held fuel cs x hx => by
  obtain ⟨xs, n, hn, hxe, hl, hxl, hf⟩ := DataW.trod_struct Tryz.underlying153 hx
  rw [show Tryz.prog.cellsOf 153 = 7 by kernel_rfl] at hl
  have hxl2 : xs.length = 6 := hxl
  obtain ⟨y0, xs0, rfl, hq0⟩ := cU hxl2
  obtain ⟨y1, xs1, rfl, hq1⟩ := cU hq0
  obtain ⟨y2, xs2, rfl, hq2⟩ := cU hq1
  obtain ⟨y3, xs3, rfl, hq3⟩ := cU hq2
  obtain ⟨y4, xs4, rfl, hq4⟩ := cU hq3
  obtain ⟨y5, xs5, rfl, hq5⟩ := cU hq4
  obtain rfl := List.eq_nil_of_length_eq_zero hq5
  subst hxe
  have d0 := dI (o := 0) (sz := 1) opb_n.at (hf 0 _ rfl) (by kernel_rfl)
  have d1 := dI (o := 1) (sz := 1) opb_n.at (hf 1 _ rfl) (by kernel_rfl)
  have d2 := dI (o := 2) (sz := 1) opb_n.at (hf 2 _ rfl) (by kernel_rfl)
  have d3 := dI (o := 3) (sz := 1) opb_n.at (hf 3 _ rfl) (by kernel_rfl)
  have d4 := dI (o := 4) (sz := 1) opb_tms.at (hf 4 _ rfl) (by kernel_rfl)
  have d5 := dI (o := 5) (sz := 2) opb_fa.at (hf 5 _ rfl) (by kernel_rfl)
  obtain ⟨a, q, hb⟩ := (dF 1 (by rfl) d0 (dF 1 (by rfl) d1 (dF 1 (by rfl) d2 (dF 1 (by rfl) d3 (dF 1 (by rfl) d4 (iN 2 d5 (by omega)))))))
  rw [List.drop_zero] at q
  refine ⟨a, q, Nat.le_trans hb ?_⟩
  simp only [List.map_cons, List.map_nil, Rows.uptoBulk, Rows.uptoBulkAll]
  omega
theorem opb_va : Opb Tryz.prog 162 (kZ) := fun H enc w base spare held fuel cs x hx => by
  obtain ⟨xs, n, hn, hxe, hl, hxl, hf⟩ := DataW.trod_struct Tryz.underlying162 hx
  rw [show Tryz.prog.cellsOf 162 = 8 by kernel_rfl] at hl
  have hxl2 : xs.length = 4 := hxl
  obtain ⟨y0, xs0, rfl, hq0⟩ := cU hxl2
  obtain ⟨y1, xs1, rfl, hq1⟩ := cU hq0
  obtain ⟨y2, xs2, rfl, hq2⟩ := cU hq1
  obtain ⟨y3, xs3, rfl, hq3⟩ := cU hq2
  obtain rfl := List.eq_nil_of_length_eq_zero hq3
  subst hxe
  have d0 := dI (o := 0) (sz := 1) opb_n.at (hf 0 _ rfl) (by kernel_rfl)
  have d1 := dI (o := 1) (sz := 2) opb_tp.at (hf 1 _ rfl) (by kernel_rfl)
  have d2 := dI (o := 3) (sz := 1) opb_bool.at (hf 2 _ rfl) (by kernel_rfl)
  have d3 := dI (o := 4) (sz := 4) opb_tm.at (hf 3 _ rfl) (by kernel_rfl)
  obtain ⟨a, q, hb⟩ := (dF 1 (by rfl) d0 (dF 2 (by rfl) d1 (dF 1 (by rfl) d2 (iN 4 d3 (by omega)))))
  rw [List.drop_zero] at q
  refine ⟨a, q, Nat.le_trans hb ?_⟩
  simp only [List.map_cons, List.map_nil, Rows.uptoBulk, Rows.uptoBulkAll]
  omega
theorem opb_tr : Opb Tryz.prog 166 (lU) := fun H enc w base spare held fuel cs x hx => by
  obtain ⟨xs, n, hn, hxe, hl, hxl, hf⟩ := DataW.trod_struct Tryz.underlying166 hx
  rw [show Tryz.prog.cellsOf 166 = 9 by kernel_rfl] at hl
  have hxl2 : xs.length = 2 := hxl
  obtain ⟨y0, xs0, rfl, hq0⟩ := cU hxl2
  obtain ⟨y1, xs1, rfl, hq1⟩ := cU hq0
  obtain rfl := List.eq_nil_of_length_eq_zero hq1
  subst hxe
  have d0 := dI (o := 0) (sz := 1) opb_n.at (hf 0 _ rfl) (by kernel_rfl)
  have d1 := dI (o := 1) (sz := 8) opb_va.at (hf 1 _ rfl) (by kernel_rfl)
  obtain ⟨a, q, hb⟩ := (dF 1 (by rfl) d0 (iN 8 d1 (by omega)))
  rw [List.drop_zero] at q
  refine ⟨a, q, Nat.le_trans hb ?_⟩
  simp only [List.map_cons, List.map_nil, Rows.uptoBulk, Rows.uptoBulkAll]
  omega
theorem opb_ty : Opb Tryz.prog 207 (qS) := fun H enc w base spare held fuel cs x hx => by
  obtain ⟨xs, n, hn, hxe, hl, hxl, hf⟩ := DataW.trod_struct Tryz.underlying207 hx
  rw [show Tryz.prog.cellsOf 207 = 3 by kernel_rfl] at hl
  have hxl2 : xs.length = 3 := hxl
  obtain ⟨y0, xs0, rfl, hq0⟩ := cU hxl2
  obtain ⟨y1, xs1, rfl, hq1⟩ := cU hq0
  obtain ⟨y2, xs2, rfl, hq2⟩ := cU hq1
  obtain rfl := List.eq_nil_of_length_eq_zero hq2
  subst hxe
  have d0 := dI (o := 0) (sz := 1) opb_n.at (hf 0 _ rfl) (by kernel_rfl)
  have d1 := dI (o := 1) (sz := 1) opb_n.at (hf 1 _ rfl) (by kernel_rfl)
  have d2 := dI (o := 2) (sz := 1) opb_n.at (hf 2 _ rfl) (by kernel_rfl)
  obtain ⟨a, q, hb⟩ := (dF 1 (by rfl) d0 (dF 1 (by rfl) d1 (iN 1 d2 (by omega))))
  rw [List.drop_zero] at q
  refine ⟨a, q, Nat.le_trans hb ?_⟩
  simp only [List.map_cons, List.map_nil, Rows.uptoBulk, Rows.uptoBulkAll]
  omega
theorem opb_tys : Opb Tryz.prog 112 (List qS) := iE Tryz.underlying112 (by kernel_rfl) (show 0 < 3 by decide) opb_ty
theorem opb_ch : Opb Tryz.prog 115 (nT) := fun H enc w base spare held fuel cs x hx => by
  obtain ⟨xs, n, hn, hxe, hl, hxl, hf⟩ := DataW.trod_struct Tryz.underlying115 hx
  rw [show Tryz.prog.cellsOf 115 = 18 by kernel_rfl] at hl
  have hxl2 : xs.length = 18 := hxl
  obtain ⟨y0, xs0, rfl, hq0⟩ := cU hxl2
  obtain ⟨y1, xs1, rfl, hq1⟩ := cU hq0
  obtain ⟨y2, xs2, rfl, hq2⟩ := cU hq1
  obtain ⟨y3, xs3, rfl, hq3⟩ := cU hq2
  obtain ⟨y4, xs4, rfl, hq4⟩ := cU hq3
  obtain ⟨y5, xs5, rfl, hq5⟩ := cU hq4
  obtain ⟨y6, xs6, rfl, hq6⟩ := cU hq5
  obtain ⟨y7, xs7, rfl, hq7⟩ := cU hq6
  obtain ⟨y8, xs8, rfl, hq8⟩ := cU hq7
  obtain ⟨y9, xs9, rfl, hq9⟩ := cU hq8
  obtain ⟨y10, xs10, rfl, hq10⟩ := cU hq9
  obtain ⟨y11, xs11, rfl, hq11⟩ := cU hq10
  obtain ⟨y12, xs12, rfl, hq12⟩ := cU hq11
  obtain ⟨y13, xs13, rfl, hq13⟩ := cU hq12
  obtain ⟨y14, xs14, rfl, hq14⟩ := cU hq13
  obtain ⟨y15, xs15, rfl, hq15⟩ := cU hq14
  obtain ⟨y16, xs16, rfl, hq16⟩ := cU hq15
  obtain ⟨y17, xs17, rfl, hq17⟩ := cU hq16
  obtain rfl := List.eq_nil_of_length_eq_zero hq17
  subst hxe
  have d0 := dI (o := 0) (sz := 1) opb_n.at (hf 0 _ rfl) (by kernel_rfl)
  have d1 := dI (o := 1) (sz := 1) opb_tys.at (hf 1 _ rfl) (by kernel_rfl)
  have d2 := dI (o := 2) (sz := 1) opb_tms.at (hf 2 _ rfl) (by kernel_rfl)
  have d3 := dI (o := 3) (sz := 1) opb_n.at (hf 3 _ rfl) (by kernel_rfl)
  have d4 := dI (o := 4) (sz := 1) opb_n.at (hf 4 _ rfl) (by kernel_rfl)
  have d5 := dI (o := 5) (sz := 1) opb_n.at (hf 5 _ rfl) (by kernel_rfl)
  have d6 := dI (o := 6) (sz := 1) opb_n.at (hf 6 _ rfl) (by kernel_rfl)
  have d7 := dI (o := 7) (sz := 1) opb_n.at (hf 7 _ rfl) (by kernel_rfl)
  have d8 := dI (o := 8) (sz := 1) opb_n.at (hf 8 _ rfl) (by kernel_rfl)
  have d9 := dI (o := 9) (sz := 1) opb_n.at (hf 9 _ rfl) (by kernel_rfl)
  have d10 := dI (o := 10) (sz := 1) opb_bool.at (hf 10 _ rfl) (by kernel_rfl)
  have d11 := dI (o := 11) (sz := 1) opb_ints.at (hf 11 _ rfl) (by kernel_rfl)
  have d12 := dI (o := 12) (sz := 1) opb_ints.at (hf 12 _ rfl) (by kernel_rfl)
  have d13 := dI (o := 13) (sz := 1) opb_n.at (hf 13 _ rfl) (by kernel_rfl)
  have d14 := dI (o := 14) (sz := 1) opb_n.at (hf 14 _ rfl) (by kernel_rfl)
  have d15 := dI (o := 15) (sz := 1) opb_n.at (hf 15 _ rfl) (by kernel_rfl)
  have d16 := dI (o := 16) (sz := 1) opb_n.at (hf 16 _ rfl) (by kernel_rfl)
  have d17 := dI (o := 17) (sz := 1) opb_n.at (hf 17 _ rfl) (by kernel_rfl)
  obtain ⟨a, q, hb⟩ := (dF 1 (by rfl) d0 (dF 1 (by rfl) d1 (dF 1 (by rfl) d2 (dF 1 (by rfl) d3 (dF 1 (by rfl) d4 (dF 1 (by rfl) d5 (dF 1 (by rfl) d6 (dF 1 (by rfl) d7 (dF 1 (by rfl) d8 (dF 1 (by rfl) d9 (dF 1 (by rfl) d10 (dF 1 (by rfl) d11 (dF 1 (by rfl) d12 (dF 1 (by rfl) d13 (dF 1 (by rfl) d14 (dF 1 (by rfl) d15 (dF 1 (by rfl) d16 (iN 1 d17 (by omega)))))))))))))))))))
  rw [List.drop_zero] at q
  refine ⟨a, q, Nat.le_trans hb ?_⟩
  simp only [List.map_cons, List.map_nil, Rows.uptoBulk, Rows.uptoBulkAll]
  omega
theorem opb_frs : Opb Tryz.prog 23 (List oK) := iE Tryz.underlying23 (by kernel_rfl) (show 0 < 5 by decide) opb_fr
theorem opb_brs : Opb Tryz.prog 24 (List oI) := iE Tryz.underlying24 (by kernel_rfl) (show 0 < 7 by decide) opb_br
theorem opb_scs : Opb Tryz.prog 25 (List nZ) := iE Tryz.underlying25 (by kernel_rfl) (show 0 < 7 by decide) opb_sc
theorem opb_vas : Opb Tryz.prog 26 (List kZ) := iE Tryz.underlying26 (by kernel_rfl) (show 0 < 8 by decide) opb_va
theorem opb_trs : Opb Tryz.prog 29 (List lU) := iE Tryz.underlying29 (by kernel_rfl) (show 0 < 9 by decide) opb_tr
theorem opb_chs : Opb Tryz.prog 30 (List nT) := iE Tryz.underlying30 (by kernel_rfl) (show 0 < 18 by decide) opb_ch
theorem opb_st : Opb Tryz.prog 28 (List kZ) := fun H enc w base spare held fuel cs x hx => by
  obtain ⟨xs, n, hn, hxe, hl, hxl, hf⟩ := DataW.trod_struct Tryz.underlying28 hx
  rw [show Tryz.prog.cellsOf 28 = 1 by kernel_rfl] at hl
  have hxl2 : xs.length = 1 := hxl
  obtain ⟨y0, xs0, rfl, hq0⟩ := cU hxl2
  obtain rfl := List.eq_nil_of_length_eq_zero hq0
  subst hxe
  have d0 := dI (o := 0) (sz := 1) opb_vas.at (hf 0 _ rfl) (by kernel_rfl)
  obtain ⟨a, q, hb⟩ := (iN 1 d0 (by omega))
  rw [List.drop_zero] at q
  refine ⟨a, q, Nat.le_trans hb ?_⟩
  simp only [List.map_cons, List.map_nil, Rows.uptoBulk, Rows.uptoBulkAll]
  omega
theorem opb_ma : Opb Tryz.prog 32 (jT) := fun H enc w base spare held fuel cs x hx => by
  obtain ⟨xs, n, hn, hxe, hl, hxl, hf⟩ := DataW.trod_struct Tryz.underlying32 hx
  rw [show Tryz.prog.cellsOf 32 = 16 by kernel_rfl] at hl
  have hxl2 : xs.length = 16 := hxl
  obtain ⟨y0, xs0, rfl, hq0⟩ := cU hxl2
  obtain ⟨y1, xs1, rfl, hq1⟩ := cU hq0
  obtain ⟨y2, xs2, rfl, hq2⟩ := cU hq1
  obtain ⟨y3, xs3, rfl, hq3⟩ := cU hq2
  obtain ⟨y4, xs4, rfl, hq4⟩ := cU hq3
  obtain ⟨y5, xs5, rfl, hq5⟩ := cU hq4
  obtain ⟨y6, xs6, rfl, hq6⟩ := cU hq5
  obtain ⟨y7, xs7, rfl, hq7⟩ := cU hq6
  obtain ⟨y8, xs8, rfl, hq8⟩ := cU hq7
  obtain ⟨y9, xs9, rfl, hq9⟩ := cU hq8
  obtain ⟨y10, xs10, rfl, hq10⟩ := cU hq9
  obtain ⟨y11, xs11, rfl, hq11⟩ := cU hq10
  obtain ⟨y12, xs12, rfl, hq12⟩ := cU hq11
  obtain ⟨y13, xs13, rfl, hq13⟩ := cU hq12
  obtain ⟨y14, xs14, rfl, hq14⟩ := cU hq13
  obtain ⟨y15, xs15, rfl, hq15⟩ := cU hq14
  obtain rfl := List.eq_nil_of_length_eq_zero hq15
  subst hxe
  have d0 := dI (o := 0) (sz := 1) opb_n.at (hf 0 _ rfl) (by kernel_rfl)
  have d1 := dI (o := 1) (sz := 1) opb_n.at (hf 1 _ rfl) (by kernel_rfl)
  have d2 := dI (o := 2) (sz := 1) opb_n.at (hf 2 _ rfl) (by kernel_rfl)
  have d3 := dI (o := 3) (sz := 1) opb_n.at (hf 3 _ rfl) (by kernel_rfl)
  have d4 := dI (o := 4) (sz := 1) opb_n.at (hf 4 _ rfl) (by kernel_rfl)
  have d5 := dI (o := 5) (sz := 1) opb_n.at (hf 5 _ rfl) (by kernel_rfl)
  have d6 := dI (o := 6) (sz := 1) opb_bool.at (hf 6 _ rfl) (by kernel_rfl)
  have d7 := dI (o := 7) (sz := 1) opb_ints.at (hf 7 _ rfl) (by kernel_rfl)
  have d8 := dI (o := 8) (sz := 1) opb_ints.at (hf 8 _ rfl) (by kernel_rfl)
  have d9 := dI (o := 9) (sz := 1) opb_frs.at (hf 9 _ rfl) (by kernel_rfl)
  have d10 := dI (o := 10) (sz := 1) opb_brs.at (hf 10 _ rfl) (by kernel_rfl)
  have d11 := dI (o := 11) (sz := 1) opb_scs.at (hf 11 _ rfl) (by kernel_rfl)
  have d12 := dI (o := 12) (sz := 1) opb_st.at (hf 12 _ rfl) (by kernel_rfl)
  have d13 := dI (o := 13) (sz := 1) opb_trs.at (hf 13 _ rfl) (by kernel_rfl)
  have d14 := dI (o := 14) (sz := 1) opb_chs.at (hf 14 _ rfl) (by kernel_rfl)
  have d15 := dI (o := 15) (sz := 1) opb_n.at (hf 15 _ rfl) (by kernel_rfl)
  obtain ⟨a, q, hb⟩ := (dF 1 (by rfl) d0 (dF 1 (by rfl) d1 (dF 1 (by rfl) d2 (dF 1 (by rfl) d3 (dF 1 (by rfl) d4 (dF 1 (by rfl) d5 (dF 1 (by rfl) d6 (dF 1 (by rfl) d7 (dF 1 (by rfl) d8 (dF 1 (by rfl) d9 (dF 1 (by rfl) d10 (dF 1 (by rfl) d11 (dF 1 (by rfl) d12 (dF 1 (by rfl) d13 (dF 1 (by rfl) d14 (iN 1 d15 (by omega)))))))))))))))))
  rw [List.drop_zero] at q
  refine ⟨a, q, Nat.le_trans hb ?_⟩
  simp only [List.map_cons, List.map_nil, Rows.uptoBulk, Rows.uptoBulkAll]
  omega
/-- A state: its value, what it reads as, and how many bytes it has. -/
theorem r4 {H : Type} {enc : TypeId × Value → H} {w : World} {base : Nat} {spare : Nat → Bool} {held : Bool} {cs : Array Value} {d : DataW H} {ps : List MemPlace} (h : DataW.Trod enc Tryz.prog w base spare held 32 (.agg cs) d ps) : ∃ (m : jT) (y : Unp.Y jT), Value.agg cs = .agg (Unp.cs m y).toArray ∧ Unp.ok m y ∧ Cod.Vd (α := jT) m ∧ (∀ p ∈ Unp.fs m y, p.p (sA w)) ∧ (Cod.enc (α := jT) m).length ≤ 10 * Rows.uptoBulk d := by
  obtain ⟨fuel, hf⟩ := h
  obtain ⟨m, hm, hb⟩ := opb_ma _ _ _ _ _ _ _ _ _ hf
  have hv := CodV.vd hm
  obtain ⟨y, e, hok, hfs⟩ := Unp.un hm
  obtain ⟨cl⟩ := cs
  have e' : cl = Unp.cs m y := e
  subst e'
  exact ⟨m, y, rfl, hok, hv, hfs, hb⟩
end Go.Proofs.YtggdljhmbckpmaaGreat
