/- ImageBack: walk. Reading the arguments of a row: what lies in the given memory, as data. Rows: how long a slice that is handed in may be. -/
import Derived.Test.YtggdljhmbckpmaaG2
import Derived.Test.YtggdljhmbckpmaaA18J
import Derived.Test.YtggdljhmbckpmaaM4J
import Derived.Test.YtggdljhmbckpmaaN10J
import Derived.Test.YtggdljhmbckpmaaW5J
import Derived.Test.YtggdljhmbckpmaaA7f0J
import Derived.Test.YtggdljhmbckpmaaA13J
import Derived.Test.YtggdljhmbckpmaaA17J
import Derived.ChangeArms
import Derived.SizedLaws
import Derived.OpenShut
set_option linter.unusedVariables false
set_option linter.unusedSimpArgs false
namespace Go.Proofs.Ytggdljhmbckpmaa
open Go Go.RowKit
set_option maxRecDepth 100000
set_option maxHeartbeats 4000000

theorem decR_of {xs : List UInt8} {m : MaD} {a f : Int} (h : decR xs = (m, a, f)) (hf : f = 0) : xs = stB m ∧ xs.length ≤ 250000 := by
  subst hf
  unfold decR at h
  split at h
  · injection h with _ h
    injection h with _ h
    cases h
  · split at h
    · injection h with _ h
      injection h with _ h
      cases h
    · rename_i m' hm
      injection h with h _
      subst h
      exact ⟨stD_can hm, by omega⟩
theorem decR_st {m : MaD} (hv : Cod.Vd (α := MaD) m) (hl : (stB m).length ≤ 250000) : decR (stB m) = (m, 0, 0) := by
  unfold decR
  rw [if_neg (by omega), stD_rt hv]
theorem encM_of {m : MaD} {bs : List UInt8} {e : Int} (h : encM m = (bs, e)) (he : e = 0) : bs = stB m ∧ (stB m).length ≤ 250000 := by
  subst he
  rw [encM_eq] at h
  split at h
  · injection h with h _
    exact ⟨h.symm, by assumption⟩
  · injection h with _ h
    cases h
theorem encM_st {m : MaD} (hl : (stB m).length ≤ 250000) : encM m = (stB m, 0) := by
  rw [encM_eq, if_pos hl]
theorem back_law_k {w0 : World} {H : List Hp} {R : List MP} {K : Value → List Hp → List MP → Prop} (x : MaD) (u : Unp.Y MaD) (hok : Unp.ok x u) (hv : Cod.Vd (α := MaD) x) (A1 : Option Addr) (c1 : Nat) (bb : List UInt8) (hb : bb.length ≤ 140737488355328)
    (hfs : ∀ p ∈ Unp.fs x u, p ∈ R) (hm : Sl (.slice A1 bb.length c1) bb ∈ R) (k : K (.bool true) H R) : CallsK Try.prog w0 3 #[.agg (Unp.cs x u).toArray, .slice A1 bb.length c1] H R K := by
  have hlen : (Unp.cs x u).length = 16 := UnpL.len x u
  obtain ⟨⟨bs, e⟩, he⟩ : ∃ r, encM x = r := ⟨_, rfl⟩
  obtain ⟨⟨m, at_, f⟩, hd⟩ : ∃ r, decR bb = r := ⟨_, rfl⟩
  refine calls_of Try.func3 rfl Try.ntmps3 nep ?_
  apply TC_seq; apply TC_region
  repeat' (first | (refine T_gen rfl rfl ?_; refine gw_box clp (fun b2 => ?_); refine T_nv ?_) | (refine T_pure rfl rfl ?_; ((refine pw_as ?_)); refine T_nv ?_))
  revert b2
  intro b2
  apply T_nil; apply En_then
  apply TC_seq; apply TC_region
  repeat' (first | (refine T_ow rfl ?_; refine ow_callf arp ?_; refine sane_k ?_; refine T_nv ?_) | (refine T_pure rfl rfl ?_; ((refine pw_as ?_)); refine T_nv ?_))
  apply T_nil; apply En_then
  apply TC_seq; apply TC_region
  repeat' (first | (refine T_load rfl ?_; refine pw_load (i := 0) rfl rfl (cellsVal_all hlen) ?_; refine T_nv ?_) | (refine T_ow rfl ?_; refine ow_callf arp ?_; refine encodeM_k x u hok hfs (KB_eq (r := (bs, e)) he.symm (fun A3 c3 => ?_)); refine T_nv ?_) | (refine T_pure rfl rfl ?_; ((first | refine pw_mv ?_ | refine pw_as ?_ | refine pw_extract rfl rfl ?_)); refine T_nv ?_))
  apply T_nil; apply En_then
  refine TC_cutS [24, 25, 26, 27, 28, 29, 30, 31, 32, 33, 34, 35, 36, 37, 8, 9, 10, 22, 23] (fun j H' R' => H' = .blk b2 (Unp.cs x u) 32 :: H ∧ R' = R) ?_ ?_
  · skip
    repeat' (first | (apply TC_seq) | (apply TC_region) | (apply TC_skip) | (apply TC_cond_true; exact rfl) | (apply TC_cond_false; exact rfl) | (apply T_nil) | (apply En_then) | (apply T_bin; exact rfl; ((refine pw_eql rfl rfl (fun h => ?_) (fun h => ?_))) <;> (refine T_nv ?_)) | (refine T_pure rfl rfl ?_; ((refine pw_mv ?_)); refine T_nv ?_))
    · have h0 := h
      obtain ⟨hbs, hbl⟩ := encM_of he h0
      subst h0
      subst hbs
      repeat' (first | (refine T_ow rfl ?_; refine ow_callf arp ?_; refine decode_k A3 c3 (stB x) (by omega) List.mem_cons_self (KDm_eq (r := (x, 0, 0)) (decR_st hv hbl).symm (fun y hy => ?_)); refine T_nv ?_) | (refine T_pure rfl rfl ?_; ((first | refine pw_mv ?_ | refine pw_extract rfl rfl ?_)); refine T_nv ?_) | (refine T_gen rfl rfl ?_; ((refine gw_alloc clp (fun b => ?_))); refine T_nv ?_))
      have hly : (Unp.cs x y).length = 16 := UnpL.len x y
      repeat' (first | (refine T_gen rfl rfl ?_; refine gw_store (i := 0) (vs := Unp.cs x y) rfl rfl rfl hly (by simp) (UnpL.one _ _) ?_; rw [overlay_all (by rw [hly]; rfl)]; refine T_nv ?_; refine T_hq ?_) | (refine T_load rfl ?_; refine pw_load (i := 0) rfl rfl (cellsVal_all hly) ?_; refine T_nv ?_) | (refine T_load rfl ?_; refine pw_load (i := 1) rfl rfl (cellsVal_all hlen) ?_; refine T_nv ?_) | (refine T_ow rfl ?_; refine ow_callf arp ?_; refine same26_k x x u y (fun p hp => List.mem_append_right _ (List.mem_cons_of_mem _ (hfs p hp))) (fun p hp => List.mem_append_left _ hp) (fun r hr => ?_); (obtain rfl : r = true := hr rfl); refine T_nv ?_) | (apply TC_seq) | (apply TC_region) | (apply TC_skip) | (apply TC_cond_false; exact rfl) | (apply T_nil) | (apply En_then) | (apply T_bin; exact rfl; ((refine pw_neq rfl rfl (fun h => ?_) (fun h => ?_))) <;> (first | (exfalso; omega) | refine T_nv ?_)) | (refine T_pure rfl rfl ?_; ((first | refine pw_mv ?_ | refine pw_as ?_ | refine pw_pick_f rfl evp ?_ | refine pw_not rfl ?_)); refine T_nv ?_))
      exact En_midS (.blk b2 (Unp.cs x u) 32 :: H) R sjp ⟨rfl, rfl⟩ (fun w hs => hs.weaken sbp (fun p hp => List.mem_append_right _ (List.mem_cons_of_mem _ hp)))
    · exact En_midS (.blk b2 (Unp.cs x u) 32 :: H) R sjp ⟨rfl, rfl⟩ (fun w hs => hs.weaken sbp (fun p hp => List.mem_cons_of_mem _ hp))
  rintro j H' R' ⟨hH, hR⟩
  subst hH hR
  refine TC_env (by simp only [setJ, List.foldl_cons, List.foldl_nil, List.set_cons_succ, List.set_cons_zero]; rfl) ?_
  repeat' (first | (refine T_ow rfl ?_; refine ow_callf arp ?_; refine decode_k A1 c1 bb (by omega) hm (KDm_eq (r := (m, at_, f)) hd.symm (fun y hy => ?_)); refine T_nv ?_) | (apply TC_seq) | (apply TC_region) | (refine T_pure rfl rfl ?_; ((first | refine pw_mv ?_ | refine pw_extract rfl rfl ?_)); refine T_nv ?_) | (refine T_gen rfl rfl ?_; ((refine gw_alloc clp (fun b => ?_))); refine T_nv ?_))
  have hly : (Unp.cs m y).length = 16 := UnpL.len m y
  repeat' (first | (refine T_gen rfl rfl ?_; refine gw_store (i := 0) (vs := Unp.cs m y) rfl rfl rfl hly (by simp) (UnpL.one _ _) ?_; rw [overlay_all (by rw [hly]; rfl)]; refine T_nv ?_; refine T_hq ?_) | (apply TC_seq) | (apply TC_region) | (apply TC_ret) | (apply TC_skip) | (apply TC_cond_true; exact rfl) | (apply TC_cond_false; exact rfl) | (apply T_nil) | (apply En_then) | (apply En_then_ret) | (apply T_load; exact rfl; ((refine pw_load (i := 0) rfl rfl rfl ?_)); refine T_nv ?_) | (apply T_bin; exact rfl; ((refine pw_neq rfl rfl (fun h => ?_) (fun h => ?_))) <;> (refine T_nv ?_)) | (refine T_pure rfl rfl ?_; ((first | refine pw_mv ?_ | refine pw_as ?_)); refine T_nv ?_))
  · exact En_fin (.inl rfl) (res1 rfl (rv_tmp rfl)) (fin_K H R' (fun w hs => hs.weaken sbp (fun p hp => by (exact List.mem_append_right _ hp))) k)
  · have h0 := h
    obtain ⟨hbs, hbl⟩ := decR_of hd h0
    subst hbs
    repeat' (first | (refine T_ow rfl ?_; refine ow_callf arp ?_; refine encodeM_k m y hy (fun p hp => List.mem_append_left _ hp) (KB_eq (r := (stB m, 0)) (encM_st hbl).symm (fun A4 c4 => ?_)); refine T_nv ?_) | (apply TC_seq) | (apply TC_region) | (apply T_nil) | (apply En_then) | (apply T_bin; exact rfl; ((refine pw_eql rfl rfl (fun h => ?_) (fun h => ?_))) <;> (first | (exfalso; omega) | refine T_nv ?_)) | (refine T_pure rfl rfl ?_; ((first | refine pw_mv ?_ | refine pw_as ?_ | refine pw_pick_t rfl evp ?_ | refine pw_extract rfl rfl ?_)); refine T_nv ?_))
    repeat' (first | (refine T_ow rfl ?_; refine ow_callf arp ?_; refine sameBytes_k2 _ _ _ _ _ _ (stB m) (stB m) (List.mem_cons_of_mem _ (List.mem_append_right _ hm)) List.mem_cons_self (fun _ => ?_) (fun hh => absurd rfl hh); refine T_nv ?_) | (apply TC_ret) | (apply T_nil) | (apply En_then) | (refine T_pure rfl rfl ?_; ((first | refine pw_as ?_ | refine pw_pick_t rfl evp ?_)); refine T_nv ?_))
    exact En_fin (.inl rfl) (res1 rfl (rv_tmp rfl)) (fin_K H R' (fun w hs => hs.weaken sbp (fun p hp => by (exact List.mem_cons_of_mem _ (List.mem_append_right _ hp)))) k)
end Go.Proofs.Ytggdljhmbckpmaa
namespace Go.Proofs.Ytggdljhmbckpmaa
open Go Go.RowKit Go.WideShapes
set_option maxRecDepth 100000
set_option maxHeartbeats 1600000
attribute [local semireducible] At S Sl Ls

/-- What can be read at the type 't' is data of the kind 'α'. -/
def Opn (P : Program) (t : TypeId) (α : Type) [Rep α] : Prop := ∀ (H : Type) (enc : TypeId × Value → H) (w : World) (base : Nat) (spare : Nat → Bool) (held : Bool) (fuel : Nat) (cs : List Value) (x : DataW H × List MemPlace),
  DataW.trod enc P w base spare held fuel t cs = some x → ∃ a : α, Rep.rd (cst w) cs a

theorem opn_int {P : Program} {t : TypeId} (h : P.underlying t = some (.int .i64)) : Opn P t Int := fun H enc w base spare held fuel cs x hx => by
  obtain ⟨n, rfl, _, hw⟩ := DataW.trod_int h hx
  simp only [Lit.wf, Bool.and_eq_true, decide_eq_true_eq] at hw
  exact ⟨n, rfl, hw.1, hw.2⟩
theorem opn_u8 {P : Program} {t : TypeId} (h : P.underlying t = some (.int .u8)) : Opn P t UInt8 := fun H enc w base spare held fuel cs x hx => by
  obtain ⟨n, rfl, _, hw⟩ := DataW.trod_int h hx
  simp only [Lit.wf, Bool.and_eq_true, decide_eq_true_eq] at hw
  have h1 : (0 : Int) ≤ n := hw.1
  have h2 : n ≤ (255 : Int) := hw.2
  refine ⟨UInt8.ofNat n.toNat, ?_⟩
  show [Value.int .u8 n] = [Value.int .u8 (((UInt8.ofNat n.toNat).toNat : Nat) : Int)]
  have e : (((UInt8.ofNat n.toNat).toNat : Nat) : Int) = n := by
    rw [UInt8.toNat_ofNat']; omega
  rw [e]
theorem opn_slice {P : Program} {t e : TypeId} {α : Type} [Rep α] (h : P.underlying t = some (.slice e)) (hc : P.cellsOf e = Rep.size α) (hp : 0 < Rep.size α) (he : Opn P e α) : Opn P t (List α) := fun H enc w base spare held fuel cs x hx => by
  rcases DataW.trod_slice h hx with ⟨rfl, _⟩ | ⟨a, len, cap, elems, rest, n, _, rfl, _, _, hl, hm, hel, hget, _⟩
  · exact ⟨[], .slice none 0 0, rfl, none, 0, rfl, ⟨Nat.le_refl _, Nat.zero_le _⟩, fun h0 => absurd h0 (by simp)⟩
  · have hone : ∀ i, i < len → ∃ (y : α) (cs' : List Value), w.cells? base (a.add (i * P.cellsOf e)) (P.cellsOf e) = some cs' ∧ Rep.rd (cst w) cs' y := fun i hi => by
      have := hget i hi
      rw [List.getElem?_eq_getElem (by omega), Option.bind_eq_some_iff] at this
      obtain ⟨cs', h1, h2⟩ := this
      obtain ⟨y, hy⟩ := he H enc w base spare held n cs' _ h2
      exact ⟨y, cs', h1, hy⟩
    have hall : ∀ m, m ≤ len → ∃ xs : List α, xs.length = m ∧ ∀ i y, xs[i]? = some y → ∃ cs' : List Value, w.cells? base (a.add (i * P.cellsOf e)) (P.cellsOf e) = some cs' ∧ Rep.rd (cst w) cs' y := by
      intro m
      induction m with
      | zero => exact fun _ => ⟨[], rfl, fun i y hi => by simp at hi⟩
      | succ m ih =>
        intro hm'
        obtain ⟨xs, e1, e2⟩ := ih (by omega)
        obtain ⟨y, cs', h1, h2⟩ := hone m (by omega)
        refine ⟨xs ++ [y], by simp [e1], fun i z hi => ?_⟩
        by_cases hh : i < xs.length
        · rw [List.getElem?_append_left hh] at hi
          exact e2 i z hi
        · have hi' := (List.getElem?_eq_some_iff.1 hi).1
          simp at hi'
          obtain rfl : i = xs.length := by omega
          simp at hi
          subst hi
          rw [e1]
          exact ⟨cs', h1, h2⟩
    obtain ⟨xs, e1, e2⟩ := hall len (Nat.le_refl _)
    subst e1
    have hcell : ∀ i y, xs[i]? = some y → ∃ cs' : List Value, Rep.rd (cst w) cs' y ∧ ∀ j v, cs'[j]? = some v → w.cell? ((a.add (i * Rep.size α)).add j) = some v := fun i y hi => by
      obtain ⟨cs', h1, h2⟩ := e2 i y hi
      refine ⟨cs', h2, fun j v hj => ?_⟩
      unfold World.cells? at h1
      split at h1
      · have hlen := mapM_some_length h1
        have hj' := (List.getElem?_eq_some_iff.1 hj).1
        rw [List.length_range] at hlen
        have := mapM_some_get h1 j j (by rw [List.getElem?_range (by omega)])
        rw [hc] at this
        rw [this]; exact hj
      · cases h1
    refine ⟨xs, _, rfl, some a, cap, rfl, ⟨hl, ?_⟩, fun h0 => ?_⟩
    · exact hm
    · have hsp : a.spot = none := by
        obtain ⟨cs', h1, h2⟩ := hcell 0 xs[0] (List.getElem?_eq_getElem h0)
        have hl' := Rep.len h1
        have := h2 0 (cs'[0]'(by omega)) (List.getElem?_eq_getElem (by omega))
        simp only [Nat.zero_mul, Addr.add, if_pos] at this
        unfold World.cell? at this
        split at this
        · cases hs : a.spot with
          | none => rfl
          | some z => rw [hs] at this; simp at this
        · cases this
      obtain ⟨b, o, sp⟩ := a
      subst hsp
      refine ⟨b, o, rfl, fun i y hi => ?_⟩
      obtain ⟨cs', h1, h2⟩ := hcell i y hi
      refine ⟨cs', h1, fun j v hj => ?_⟩
      have := h2 j v hj
      rw [Addr.add_mk, Addr.add_mk] at this
      exact this
theorem opn_DW {P : Program} {t t1 t2 : TypeId} {f1 f2 : Field} (h : P.underlying t = some (.struct #[f1, f2])) (hc : P.cellsOf t = 2) (h1 : f1.type = t1) (h2 : f2.type = t2) (o1 : f1.offset = 0) (o2 : f2.offset = 1) (c1 : P.cellsOf t1 = 1) (c2 : P.cellsOf t2 = 1) (k1 : Opn P t1 Int) (k2 : Opn P t2 (List UInt8)) : Opn P t DW := fun H enc w base spare held fuel cs x hx => by
  obtain ⟨xs, n, _, _, hl, hxl, hf⟩ := DataW.trod_struct h hx
  rw [hc] at hl
  have hxl2 : xs.length = 2 := hxl
  have g1 := hf 0 f1 rfl
  have g2 := hf 1 f2 rfl
  rw [h1, o1, c1, List.getElem?_eq_getElem (by omega)] at g1
  rw [h2, o2, c2, List.getElem?_eq_getElem (by omega)] at g2
  match cs, hl with
  | [u, v], _ =>
    obtain ⟨a, ea, ha1, ha2⟩ := k1 _ _ _ _ _ _ _ _ _ g1
    obtain ⟨b, v', eb, hb⟩ := k2 _ _ _ _ _ _ _ _ _ g2
    simp at ea eb
    subst ea eb
    obtain ⟨A, c, rfl, hA⟩ := hb
    exact ⟨⟨a, b⟩, A, c, rfl, ⟨ha1, ha2⟩, A, c, rfl, hA⟩
theorem opn_DO {P : Program} {t t1 t2 t3 : TypeId} {f1 f2 f3 : Field} (h : P.underlying t = some (.struct #[f1, f2, f3])) (hc : P.cellsOf t = 3) (h1 : f1.type = t1) (h2 : f2.type = t2) (h3 : f3.type = t3) (o1 : f1.offset = 0) (o2 : f2.offset = 1) (o3 : f3.offset = 2) (c1 : P.cellsOf t1 = 1) (c2 : P.cellsOf t2 = 1) (c3 : P.cellsOf t3 = 1) (k1 : Opn P t1 Int) (k2 : Opn P t2 Int) (k3 : Opn P t3 (List UInt8)) : Opn P t DO := fun H enc w base spare held fuel cs x hx => by
  obtain ⟨xs, n, _, _, hl, hxl, hf⟩ := DataW.trod_struct h hx
  rw [hc] at hl
  have hxl2 : xs.length = 3 := hxl
  have g1 := hf 0 f1 rfl
  have g2 := hf 1 f2 rfl
  have g3 := hf 2 f3 rfl
  rw [h1, o1, c1, List.getElem?_eq_getElem (by omega)] at g1
  rw [h2, o2, c2, List.getElem?_eq_getElem (by omega)] at g2
  rw [h3, o3, c3, List.getElem?_eq_getElem (by omega)] at g3
  match cs, hl with
  | [u, v, z], _ =>
    obtain ⟨a, ea, ha1, ha2⟩ := k1 _ _ _ _ _ _ _ _ _ g1
    obtain ⟨b, eb, hb1, hb2⟩ := k2 _ _ _ _ _ _ _ _ _ g2
    obtain ⟨d, v', ed, hd⟩ := k3 _ _ _ _ _ _ _ _ _ g3
    simp at ea eb ed
    subst ea eb ed
    obtain ⟨A, c, rfl, hA⟩ := hd
    exact ⟨⟨a, b, d⟩, A, c, rfl, ⟨⟨ha1, ha2⟩, hb1, hb2⟩, A, c, rfl, hA⟩
/-- A struct of two slices: its two cells. -/
theorem opn_two {P : Program} {t t1 t2 : TypeId} {f1 f2 : Field} {α β : Type} [Rep α] [Rep β] (h : P.underlying t = some (.struct #[f1, f2])) (hc : P.cellsOf t = 2) (h1 : f1.type = t1) (h2 : f2.type = t2) (o1 : f1.offset = 0) (o2 : f2.offset = 1) (c1 : P.cellsOf t1 = 1) (c2 : P.cellsOf t2 = 1) (k1 : Opn P t1 α) (k2 : Opn P t2 β)
    {H : Type} {enc : TypeId × Value → H} {w : World} {base : Nat} {spare : Nat → Bool} {held : Bool} {fuel : Nat} {cs : List Value} {x : DataW H × List MemPlace} (hx : DataW.trod enc P w base spare held fuel t cs = some x) :
    ∃ (u v : Value) (a : α) (b : β), cs = [u, v] ∧ Rep.rd (cst w) [u] a ∧ Rep.rd (cst w) [v] b := by
  obtain ⟨xs, n, _, _, hl, hxl, hf⟩ := DataW.trod_struct h hx
  rw [hc] at hl
  have hxl2 : xs.length = 2 := hxl
  have g1 := hf 0 f1 rfl
  have g2 := hf 1 f2 rfl
  rw [h1, o1, c1, List.getElem?_eq_getElem (by omega)] at g1
  rw [h2, o2, c2, List.getElem?_eq_getElem (by omega)] at g2
  match cs, hl with
  | [u, v], _ =>
    obtain ⟨a, ha⟩ := k1 _ _ _ _ _ _ _ _ _ g1
    obtain ⟨b, hb⟩ := k2 _ _ _ _ _ _ _ _ _ g2
    exact ⟨u, v, a, b, rfl, ha, hb⟩
theorem opn_bytes : Opn Try.prog 33 (List UInt8) := opn_slice Try.underlying33 (by kernel_rfl) Nat.one_pos (opn_u8 Try.underlying5)
theorem opn_ints : Opn Try.prog 22 (List Int) := opn_slice Try.underlying22 (by kernel_rfl) Nat.one_pos (opn_int Try.underlying3)
theorem opn_writes : Opn Try.prog 43 (List DW) := opn_slice Try.underlying43 (by kernel_rfl) (show 0 < 2 by decide) (opn_DW Try.underlying130 (by kernel_rfl) rfl rfl rfl rfl (by kernel_rfl) (by kernel_rfl) (opn_int Try.underlying3) opn_bytes)
theorem opn_ops : Opn Try.prog 51 (List DO) := opn_slice Try.underlying51 (by kernel_rfl) (show 0 < 3 by decide) (opn_DO Try.underlying84 (by kernel_rfl) rfl rfl rfl rfl rfl rfl (by kernel_rfl) (by kernel_rfl) (by kernel_rfl) (opn_int Try.underlying3) (opn_int Try.underlying3) opn_bytes)
/-- A slice argument: its value, and what it reads as. -/
theorem Opn.sl {P : Program} {t : TypeId} {α : Type} [Rep α] (k : Opn P t (List α)) {H : Type} {enc : TypeId × Value → H} {w : World} {base : Nat} {spare : Nat → Bool} {held : Bool} {v : Value} {d : DataW H} {ps : List MemPlace} (h : DataW.Trod enc P w base spare held t v d ps) (hv : v.cells = #[v]) : ∃ (A : Option Addr) (xs : List α) (c : Nat), v = .slice A xs.length c ∧ (Sl (.slice A xs.length c) xs).p (cst w) := by
  obtain ⟨fuel, hf⟩ := h
  rw [hv] at hf
  obtain ⟨xs, v', e, hs⟩ := k _ _ _ _ _ _ _ _ _ hf
  simp at e
  subst e
  obtain ⟨A, c, rfl, h2⟩ := hs
  exact ⟨A, xs, c, rfl, A, c, rfl, h2⟩
/-- A drive: its value, and what it reads as. -/
theorem opn_drive {H : Type} {enc : TypeId × Value → H} {w : World} {base : Nat} {spare : Nat → Bool} {held : Bool} {cs : Array Value} {d : DataW H} {ps : List MemPlace} (h : DataW.Trod enc Try.prog w base spare held 45 (.agg cs) d ps) : ∃ A c A2 c2 dr, Value.agg cs = dv A c A2 c2 dr ∧ (Sl (.slice A dr.bytes.length c) dr.bytes).p (cst w) ∧ (Sl (.slice A2 dr.pending.length c2) dr.pending).p (cst w) := by
  obtain ⟨fuel, hf⟩ := h
  obtain ⟨u, v, a, b, e, ha, hb⟩ := opn_two Try.underlying45 (by kernel_rfl) rfl rfl rfl rfl (by kernel_rfl) (by kernel_rfl) opn_bytes opn_writes hf
  obtain ⟨cl⟩ := cs
  obtain rfl : cl = [u, v] := e
  obtain ⟨u', eu, hu⟩ := ha
  obtain ⟨v', ev', hv⟩ := hb
  simp at eu ev'
  subst eu ev'
  obtain ⟨A, c, rfl, h2⟩ := hu
  obtain ⟨A2, c2, rfl, h3⟩ := hv
  exact ⟨A, c, A2, c2, ⟨a, b⟩, rfl, ⟨A, c, rfl, h2⟩, A2, c2, rfl, h3⟩
attribute [local semireducible] CallsK
theorem CallsK.run {P : Program} {w0 w : World} {f : FuncId} {args : Array Value} {H : List Hp} {R : List MP} {K : Value → List Hp → List MP → Prop} (h : CallsK P w0 f args H R K) (hs : S w0 w H R) : Calls P f args w (fun e w' => ∃ v H' R', e = .returned v ∧ S w0 w' H' R' ∧ K v H' R') := h w hs
end Go.Proofs.Ytggdljhmbckpmaa
namespace Go.Proofs.Ytggdljhmbckpmaa
set_option maxRecDepth 100000
open Go Go.RowKit Go.WideShapes
attribute [local semireducible] At S Sl Ls
theorem bytes_len {P : Program} {t e : TypeId} {H : Type} {enc : TypeId × Value → H} {w : World} {base : Nat} {spare : Nat → Bool} {held : Bool} {A : Option Addr} {n c : Nat} {d : DataW H} {ps : List MemPlace} (hu : P.underlying t = some (.slice e)) (h : DataW.Trod enc P w base spare held t (.slice A n c) d ps)
    {ts : List TypeId} {ds : List (DataW H)} (hz : (DataW.weightsEach P ts ds).all (· ≤ reachBytes) = true) {j : Nat} (ht : ts[j]? = some t) (hd : ds[j]? = some d) (he : decide (1 ≤ P.bytesOf e) = true) : n ≤ 140737488355328 := by
  obtain ⟨fuel, hf⟩ := h
  rcases DataW.trod_slice hu hf with ⟨e1, _⟩ | ⟨a, len, cap, elems, rest, m, _, e1, e2, _, _, _, hl, _⟩
  · simp only [Value.cells, Array.toList, List.cons.injEq, Value.slice.injEq] at e1
    omega
  · simp only [Value.cells, Array.toList, List.cons.injEq, Value.slice.injEq] at e1
    obtain ⟨⟨_, rfl, _⟩, _⟩ := e1
    injection e2 with e2 _
    subst e2
    have := sized_slice hz ht hd hu
    have h1 := of_decide_eq_true he
    have h2 := reachBytes_lt
    rw [List.length_map, List.length_map, hl] at this
    have h3 : (n + rest.length) * 1 ≤ (n + rest.length) * P.bytesOf e := Nat.mul_le_mul_left _ h1
    omega
/-- Where the power fails: its value, and what it reads as. -/
theorem opn_fail {H : Type} {enc : TypeId × Value → H} {w : World} {base : Nat} {spare : Nat → Bool} {held : Bool} {cs : Array Value} {d : DataW H} {ps : List MemPlace} (h : DataW.Trod enc Try.prog w base spare held 74 (.agg cs) d ps) : ∃ (bh : UInt8) (A : Option Addr) (c : Nat) (xs : List Int), Value.agg cs = .agg #[byteV bh, .slice A xs.length c] ∧ (Sl (.slice A xs.length c) xs).p (cst w) := by
  obtain ⟨fuel, hf⟩ := h
  obtain ⟨u, v, a, b, e, ha, hb⟩ := opn_two Try.underlying74 (by kernel_rfl) rfl rfl rfl rfl (by kernel_rfl) (by kernel_rfl) (opn_u8 Try.underlying5) opn_ints hf
  obtain ⟨cl⟩ := cs
  obtain rfl : cl = [u, v] := e
  obtain ⟨v', ev', hv⟩ := hb
  have eu : [u] = [byteV a] := ha
  simp at eu ev'
  subst eu ev'
  obtain ⟨A2, c2, rfl, h3⟩ := hv
  exact ⟨a, A2, c2, b, rfl, A2, c2, rfl, h3⟩
theorem opn_u16 {H : Type} {enc : TypeId × Value → H} {w : World} {base : Nat} {spare : Nat → Bool} {held : Bool} {fuel : Nat} {v : Value} {x : DataW H × List MemPlace} (hx : DataW.trod enc Try.prog w base spare held fuel 80 [v] = some x) : ∃ n : Nat, v = .int .u16 (n : Int) ∧ n < 65536 := by
  obtain ⟨n, e, _, hw⟩ := DataW.trod_int Try.underlying80 hx
  simp only [Lit.wf, Bool.and_eq_true, decide_eq_true_eq] at hw
  have h1 : (0 : Int) ≤ n := hw.1
  have h2 : n ≤ (65535 : Int) := hw.2
  simp at e
  exact ⟨n.toNat, by rw [e, Int.toNat_of_nonneg h1], by omega⟩
/-- Three numbers of 16 bits in a row: their value. -/
theorem opn_arr3 {H : Type} {enc : TypeId × Value → H} {W w : World} {b0 base : Nat} {spare : Nat → Bool} {held : Bool} {v : Value} {d : DataW H} {ps : List MemPlace} (hv : Value.okWide Try.prog W .any b0 81 v) (h : DataW.Trod enc Try.prog w base spare held 81 v d ps) : ∃ n0 n1 n2 : Nat, v = .agg #[.int .u16 (n0 : Int), .int .u16 (n1 : Int), .int .u16 (n2 : Int)] ∧ n0 < 65536 ∧ n1 < 65536 ∧ n2 < 65536 := by
  simp only [Value.okWide, Try.underlying81] at hv
  obtain ⟨cs, rfl, hsz, _⟩ := hv
  obtain ⟨fuel, hf⟩ := h
  obtain ⟨xs, m, _, _, hl, hxl, hel⟩ := DataW.trod_array Try.underlying81 hf
  have c81 : Try.prog.cellsOf 81 = 3 := by kernel_rfl
  have c80 : Try.prog.cellsOf 80 = 1 := by kernel_rfl
  rw [c81] at hl
  obtain ⟨cl⟩ := cs
  have hl' : cl.length = 3 := hl
  match cl, hl' with
  | [a, b, c], _ =>
    have g0 := hel 0 (by omega)
    have g1 := hel 1 (by omega)
    have g2 := hel 2 (by omega)
    rw [c80, List.getElem?_eq_getElem (by omega)] at g0 g1 g2
    obtain ⟨n0, e0, k0⟩ := opn_u16 (v := a) g0
    obtain ⟨n1, e1, k1⟩ := opn_u16 (v := b) g1
    obtain ⟨n2, e2, k2⟩ := opn_u16 (v := c) g2
    subst e0 e1 e2
    exact ⟨n0, n1, n2, rfl, k0, k1, k2⟩
end Go.Proofs.Ytggdljhmbckpmaa
