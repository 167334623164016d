/- Slicing, copying, strings; the ends of bodies; panics. Regions that draw their order: whatever only reads may be taken first. -/
import Derived.Test.YtggdljhmbckpmaaA3J
set_option linter.unusedVariables false
set_option linter.unusedSimpArgs false
namespace Go.Proofs.Ytggdljhmbckpmaa
open Go Go.RowKit
attribute [local semireducible] T TC En PW GW OW CallsK CallsP Sl Rd Ls At S

def bnd (E : List Value) (d : Int) : Option Operand → Option Int
  | none => some d
  | some o => match ev E o with | .int _ i => some i | _ => none

section
variable {P : Program} {w0 : World} {E : List Value} {H : List Hp} {R : List MP} {ty : TypeId} {K : Value → List MP → Prop}

theorem sliceBounds_run (isS : Bool) (n c : Nat) (lo hi : Option Operand) (l h : Int) (hl : bnd E 0 lo = some l) (hh : bnd E n hi = some h) (h0 : 0 ≤ l) (h1 : l ≤ h) (h2 : h ≤ c) (w : World) :
    (Instr.sliceBounds isS n c (lo.map (ev E)) (hi.map (ev E)) none).run P w = .ok (l.toNat, h.toNat, c) w := by
  have hlow : ∀ o, lo = some o → ∃ k, ev E o = .int k l := fun o ho => by
    subst ho
    simp only [bnd] at hl
    cases he : ev E o <;> rw [he] at hl <;> simp at hl
    subst hl; exact ⟨_, rfl⟩
  have hhigh : ∀ o, hi = some o → ∃ k, ev E o = .int k h := fun o ho => by
    subst ho
    simp only [bnd] at hh
    cases he : ev E o <;> rw [he] at hh <;> simp at hh
    subst hh; exact ⟨_, rfl⟩
  have hb1 : 0 ≤ h ∧ h ≤ (c : Int) := by omega
  have hb2 : 0 ≤ l ∧ l ≤ (h.toNat : Int) := by omega
  cases lo with
  | none =>
    simp [bnd] at hl; subst hl
    cases hi with
    | none => simp [bnd] at hh; subst hh; simp [Instr.sliceBounds]
    | some o' =>
      obtain ⟨k', e'⟩ := hhigh _ rfl
      simp [Instr.sliceBounds, Instr.sliceBound, asIntOf, e', hb1]
  | some o =>
    obtain ⟨k, e⟩ := hlow _ rfl
    cases hi with
    | none =>
      simp [bnd] at hh; subst hh
      have hb3 : 0 ≤ l ∧ l ≤ (n : Int) := by omega
      simp [Instr.sliceBounds, Instr.sliceBound, asIntOf, e, hb3]
    | some o' =>
      obtain ⟨k', e'⟩ := hhigh _ rfl
      have hb4 : 0 ≤ l ∧ l ≤ max h 0 := by omega
      simp [Instr.sliceBounds, Instr.sliceBound, asIntOf, e, e', hb1, hb4]

theorem pw_slice {t e : TypeId} {x : Operand} {lo hi : Option Operand} {sz by_ : Nat} {zs : List Value} [ht : TyL P t e sz by_ zs] {A : Option Addr} {n c : Nat} {l h : Int} (hx : ev E x = .slice A n c) (hl : bnd E 0 lo = some l) (hh : bnd E n hi = some h)
    (h0 : 0 ≤ l) (h1 : l ≤ h) (h2 : h ≤ c) (kk : K (.slice (if c = l.toNat then A else A.map (·.add (l.toNat * sz))) (h.toNat - l.toNat) (c - l.toNat)) R) : PW P w0 E (.slice t x lo hi none) ty H R K :=
  pw_val rfl (fun w _ => by
    rw [hx]
    simp only [Instr.sliceAt, Instr.slice, Sem.run_bind, run_underlying ht.und, Result.andThen_ok, Option.map_none, sliceBounds_run true n c lo hi l h hl hh h0 h1 h2, ht.size, Sem.run_pure]) kk

theorem Addr.add_mk (b o n : Nat) : (⟨b, o, none⟩ : Addr).add n = ⟨b, o + n, none⟩ := by unfold Addr.add; split <;> simp_all

theorem sl_cut {α : Type} [Rep α] {A : Option Addr} {n c : Nat} {xs : List α} (hm : Sl (.slice A n c) xs ∈ R) (l h : Nat) (h1 : l ≤ h) (h2 : h ≤ xs.length) {s : Sto} (hR : ∀ q ∈ R, q.p s) :
    (Sl (.slice (if c = l then A else A.map (·.add (l * Rep.size α))) (h - l) (c - l)) ((xs.take h).drop l)).p s := by
  obtain ⟨A', c', e1, ⟨e2, e3⟩, e4⟩ := hR _ hm
  injection e1 with e1 e5 e6
  subst e1; subst e6; subst e5
  have hlen : ((xs.take h).drop l).length = h - l := by simp; omega
  refine ⟨_, _, by rw [hlen], ⟨by rw [hlen]; omega, by omega⟩, fun hp => ?_⟩
  rw [hlen] at hp
  obtain ⟨b, o, rfl, hb⟩ := e4 (by omega)
  have hne : ¬ c = l := by omega
  rw [if_neg hne]
  refine ⟨b, o + l * Rep.size α, by simp [Addr.add_mk], fun i x hi => ?_⟩
  have hi' : xs[l + i]? = some x := by
    rw [List.getElem?_drop, List.getElem?_take] at hi
    split at hi
    · exact hi
    · cases hi
  obtain ⟨cs, r1, r2⟩ := hb (l + i) x hi'
  refine ⟨cs, r1, fun j v hj => ?_⟩
  have := r2 j v hj
  rw [Nat.add_mul] at this
  rw [show o + l * Rep.size α + i * Rep.size α + j = o + (l * Rep.size α + i * Rep.size α) + j by omega]
  exact this

theorem pw_slice_sl {α : Type} [Rep α] {t e : TypeId} {x : Operand} {lo hi : Option Operand} {sz by_ : Nat} {zs : List Value} [ht : TyL P t e sz by_ zs] {A : Option Addr} {n c : Nat} {xs : List α} {l h : Int} (hx : ev E x = .slice A n c) (hm : Sl (.slice A n c) xs ∈ R) (hn : n = xs.length) (hsz : Rep.size α = sz) (hl : bnd E 0 lo = some l) (hh : bnd E n hi = some h)
    (h0 : 0 ≤ l) (h1 : l ≤ h) (h2 : h ≤ xs.length) (kk : ∀ A' c', K (.slice A' (h.toNat - l.toNat) c') (Sl (.slice A' (h.toNat - l.toNat) c') ((xs.take h.toNat).drop l.toNat) :: R)) : PW P w0 E (.slice t x lo hi none) ty H R K := fun w s hs => by
  have hc : xs.length ≤ c := by
    obtain ⟨A', c', e1, e2, _⟩ := Sl_shape ⟨s, hs⟩ hm
    injection e1 with _ _ e3; omega
  subst hsz
  refine PW.learn _ (fun p hp => List.mem_cons_of_mem _ hp) (fun s hR p hp => ?_)
    (pw_slice hx hl hh h0 h1 (by omega) (kk _ _)) w s hs
  rcases List.mem_cons.1 hp with rfl | hp
  · exact sl_cut hm l.toNat h.toNat (by omega) (by omega) hR
  · exact hR p hp

/-! ### strings -/
theorem S.sl_bytes {w : World} (hs : S w0 w H R) {A : Option Addr} {n c : Nat} {xs : List UInt8} (hm : Sl (.slice A n c) xs ∈ R) : n = xs.length ∧ (0 < n → ∃ b o, A = some ⟨b, o, none⟩ ∧ ∀ j u, (bytesV xs)[j]? = some u → w.cell? ⟨b, o + j, none⟩ = some u) := by
  obtain ⟨s, h⟩ := hs
  obtain ⟨A', c', e1, _, e4⟩ := h.rd _ hm
  injection e1 with e1 e5 e6
  subst e1; subst e5; subst e6
  refine ⟨rfl, fun hp => ?_⟩
  obtain ⟨b, o, rfl, hb⟩ := e4 hp
  refine ⟨b, o, rfl, fun j u hj => ?_⟩
  simp only [bytesV, List.getElem?_map, Option.map_eq_some_iff] at hj
  obtain ⟨x, hx, rfl⟩ := hj
  obtain ⟨cs, r1, r2⟩ := hb j x hx
  have r1' : cs = [byteV x] := r1
  subst r1'
  have := h.st _ _ _ (r2 0 _ rfl)
  simpa [Rep.size] using this

def strV (xs : List UInt8) : ByteArray := ⟨xs.toArray⟩
theorem pw_str {s e d : TypeId} {x : Operand} {A : Option Addr} {n c : Nat} {xs : List UInt8} [hs : TyU P s (.slice e)] [he : TyU P e (.int .u8)] [hd : TyU P d .string] (hx : ev E x = .slice A n c) (hm : Sl (.slice A n c) xs ∈ R) (kk : K (.string (strV xs)) R) : PW P w0 E (.convert s d x) ty H R K :=
  pw_val rfl (fun w hw => by
    rw [hx]
    obtain ⟨hn, hc⟩ := hw.sl_bytes hm
    rcases Nat.eq_zero_or_pos n with h0 | h0
    · have : xs = [] := List.eq_nil_of_length_eq_zero (by omega)
      subst this
      cases A with
      | none => rw [run_convert_bytes_nil (P := P) w s e hs.und he.und n c d hd.und]; rfl
      | some a =>
        obtain ⟨b, o, sp⟩ := a
        subst h0
        simp only [convert, Sem.run_bind, run_underlying hs.und, run_underlying hd.und, run_underlying he.und, Result.andThen_ok, Conv.bytesToString]
        simp [loadCells, loadCellsFrom]
        rfl
    · obtain ⟨b, o, rfl, hcell⟩ := hc h0
      have := run_convert_bytes_arg (P := P) w s e hs.und he.und b o n c (xs.map fun c => (c.toNat : Int)) (by simpa using hn.symm) (fun i hi => by
        rw [hcell i (byteV (xs[i]'(by omega))) (by simp [bytesV, List.getElem?_eq_getElem (show i < xs.length by omega)])]
        simp [byteV, List.getD, List.getElem?_eq_getElem (show i < xs.length by omega)]) d hd.und
      rw [this]
      congr 2
      simp only [strOfNums, strV, List.map_map]
      congr 2
      exact (List.map_congr_left (fun c _ => by simp)).trans (List.map_id xs)) kk
end

/-! ### copy -/
section
variable {P : Program} {w0 : World} {E : List Value} {H : List Hp} {R : List MP} {ty : TypeId} {K : Value → List Hp → List MP → Prop}
theorem firstCells_bytes {w : World} (hs : S w0 w H R) {A : Option Addr} {n c : Nat} {xs : List UInt8} (hm : Sl (.slice A n c) xs ∈ R) (k : Nat) (hk : k ≤ n) :
    (Builtin.firstCells 1 k (.slice A n c)).run P w = .ok (bytesV (xs.take k)).toArray w := by
  obtain ⟨hn, hc⟩ := hs.sl_bytes hm
  rcases Nat.eq_zero_or_pos k with h0 | h0
  · subst h0
    cases A with
    | none => rfl
    | some a => simp [Builtin.firstCells, loadCells, loadCellsFrom, bytesV]
  · obtain ⟨b, o, rfl, hcell⟩ := hc (by omega)
    have := run_loadCells_list (P := P) w ⟨b, o, none⟩ (bytesV (xs.take k)) (fun j v hj => by
      rw [Addr.add_mk]
      refine hcell j v ?_
      simp only [bytesV, List.map_take, List.getElem?_take] at hj
      split at hj
      · exact hj
      · cases hj)
    have hl : (bytesV (xs.take k)).length = k := by simp; omega
    rw [hl] at this
    simpa [Builtin.firstCells] using this

theorem gw_copy {t e : TypeId} {d s : Operand} {i dn dc b o n c : Nat} {A : Option Addr} {zs cs : List Value} {T : TypeId} {by_ : Nat} {xs : List UInt8} [h : TyL P t e 1 by_ zs] (hd : ev E d = .slice (some ⟨b, o, none⟩) dn dc) (hx : ev E s = .slice A n c) (hm : Sl (.slice A n c) xs ∈ R) (hi : H[i]? = some (.blk b cs T))
    (hroom : 0 < dn → o + dn ≤ cs.length) (kk : K (.int .i64 (min n dn : Nat)) (H.set i (.blk b (overlay cs o (bytesV (xs.take dn))) T)) R) : GW P w0 E (.call ⟨.builtin .copy, #[d, s], #[t, t]⟩) ty H R K := fun w hs => by
  obtain ⟨hn, _⟩ := hs.sl_bytes hm
  have hfc := firstCells_bytes (P := P) hs hm (Nat.min n dn) (Nat.min_le_left _ _)
  have htk : xs.take (Nat.min n dn) = xs.take dn := by
    rw [hn]
    rcases Nat.le_total xs.length dn with hle | hle
    · rw [show Nat.min xs.length dn = xs.length from Nat.min_eq_left hle, List.take_of_length_le hle, List.take_length]
    · rw [show Nat.min xs.length dn = dn from Nat.min_eq_right hle]
  rw [htk] at hfc
  have hb := (hs.blk_heap hi).1
  have fin : ∀ w', (storeCells ⟨b, o, none⟩ (bytesV (xs.take dn))).run P w = .ok () w' → (xop E (.call ⟨.builtin .copy, #[d, s], #[t, t]⟩) ty).run P w = .ok (.value (.int .i64 (min n dn : Nat))) w' := fun w' hw' => by
    simp only [xop, execOp, resolve, invoke, builtin, Builtin.copy_, List.map_toArray, List.map_cons, List.map_nil, List.getElem?_toArray, List.getElem?_cons_zero, List.getElem?_cons_succ, hd, hx, Sem.run_bind, Sem.run_pure, Result.andThen_ok, run_underlying h.und, Builtin.lenOf, h.size, hfc, hw']
    rfl
  by_cases h0 : (xs.take dn).length = 0
  · have hnil : xs.take dn = [] := List.eq_nil_of_length_eq_zero h0
    refine ⟨_, w, _, R, .inl (fin w (by rw [hnil]; rfl)), ?_, kk⟩
    have he : overlay cs o (bytesV (xs.take dn)) = cs := by rw [hnil]; simp [overlay, bytesV]
    rw [he]
    have e2 : H.set i (.blk b cs T) = H := by
      obtain ⟨hlt, e⟩ := List.getElem?_eq_some_iff.1 hi
      rw [← e]; exact List.set_getElem_self hlt
    rw [e2]; exact hs
  · have hlen : (xs.take dn).length ≤ dn := List.length_take_le _ _
    have hst := run_storeCells_at (P := P) b o T (bytesV (xs.take dn)) 0 cs.toArray w hb (by simp only [bytesV_length, List.size_toArray, Nat.add_zero]; have := hroom (by omega); omega) (bytesV_one _)
    refine ⟨_, _, _, R, .inl (fin _ hst), ?_, kk⟩
    have := hs.setRow hi (overlay cs o (bytesV (xs.take dn)))
    simpa [overlay] using this
end

/-! ### the ends -/
section
variable {F : Fence} {n : Nat} {P : Program} {w0 : World} {D : List Deferred} {ops : Array Oper} {Q : Exit → Act → World → Prop} {rest : List Oper} {E : List Value} {H : List Hp} {R : List MP}
def rvS (tmps : Array Value) (rv : ResultVar) : Sem Value := match rv with | .tmp t => pure (tmps.getD t undef) | .cell a t => do loadVar t (← asAddr (tmps.getD a undef))
theorem results_eq (fn : Func) (tmps : Array Value) : results fn tmps = (fn.results.mapM (rvS tmps) >>= fun vs => pure (if h : vs.size = 1 then vs[0] else .tuple vs)) := rfl
def RV (P : Program) (w0 : World) (E : List Value) (H : List Hp) (R : List MP) (rv : ResultVar) (v : Value) : Prop :=
  ∀ w, S w0 w H R → (rvS E.toArray rv).run P w = .ok v w
theorem rv_tmp {t : Tmp} {v : Value} (h : E.getD t undef = v) : RV P w0 E H R (.tmp t) v := fun w _ => by simp [rvS, ← h]
theorem rv_cell {a : Tmp} {t : TypeId} {agg : Bool} {sz by_ : Nat} {z : Value} [h : Ty P t agg sz by_ z] {i b o : Nat} {cs : List Value} {T : TypeId} {v : Value} (hx : E.getD a undef = .pointer (some ⟨b, o, none⟩)) (hi : H[i]? = some (.blk b cs T)) (hv : cellsVal agg sz cs o = some v) : RV P w0 E H R (.cell a t) v := fun w hs => by
  have := loadAt_cells (P := P) (t := t) (o := 0) (k := o) (hs.blk_cells hi) hv
  simp only [Nat.zero_add, Instr.loadAt, Instr.sureAddr, Sem.run_bind, Sem.run_pure, Result.andThen_ok] at this
  have e : E.toArray.getD a undef = .pointer (some ⟨b, o, none⟩) := by simpa using hx
  simp only [rvS, e, Sem.run_bind, asAddr, Sem.run_pure, Result.andThen_ok]
  exact this
theorem En_fin {fn : Func} {Rp : Ending → World → Prop} {e : Exit} (he : e = .ret ∨ e = .normal) {v : Value} (hr : ∀ w, S w0 w H R → (results fn E.toArray).run P w = .ok v w) (hR : ∀ w, S w0 w H R → Rp (.returned v) w) : En w0 [] (bodyPost P fn Rp) e E H R := fun w hs => by
  rcases he with rfl | rfl <;> exact ⟨rfl, v, hr w hs, hR w hs⟩
theorem res0 {fn : Func} (h : fn.results = #[]) : ∀ w, S w0 w H R → (results fn E.toArray).run P w = .ok (.tuple #[]) w := fun w _ => by simp [results, h]
theorem res1 {fn : Func} {r : ResultVar} {v : Value} (h : fn.results = #[r]) (h1 : RV P w0 E H R r v) : ∀ w, S w0 w H R → (results fn E.toArray).run P w = .ok v w := fun w hs => by
  simp [results_eq, h, h1 w hs]
theorem res2 {fn : Func} {r r' : ResultVar} {v v' : Value} (h : fn.results = #[r, r']) (h1 : RV P w0 E H R r v) (h2 : RV P w0 E H R r' v') : ∀ w, S w0 w H R → (results fn E.toArray).run P w = .ok (.tuple #[v, v']) w := fun w hs => by
  simp [results_eq, h, h1 w hs, h2 w hs]
theorem res3 {fn : Func} {r r' r2 : ResultVar} {v v' v2 : Value} (h : fn.results = #[r, r', r2]) (h1 : RV P w0 E H R r v) (h2 : RV P w0 E H R r' v') (h3 : RV P w0 E H R r2 v2) : ∀ w, S w0 w H R → (results fn E.toArray).run P w = .ok (.tuple #[v, v', v2]) w := fun w hs => by
  simp [results_eq, h, h1 w hs, h2 w hs, h3 w hs]
theorem fin_K {v : Value} {K : Value → List Hp → List MP → Prop} (H' : List Hp) (R' : List MP) (hw : ∀ w, S w0 w H R → S w0 w H' R') (hk : K v H' R') : ∀ w, S w0 w H R → (∃ u H' R', Ending.returned v = .returned u ∧ S w0 w H' R' ∧ K u H' R') := fun w hs => ⟨v, H', R', rfl, hw w hs, hk⟩
theorem T_panic [Wd F] {dst : Option Tmp} {x : Operand} {ty : TypeId} {pos : String} {aft : Array Edge} {g : Option (Nat × Bool)} (hw : Region.wanted ⟨dst, .panic x, ty, pos, aft, g⟩ (yielded ops E.toArray) = true) {t : TypeId} {v : Value} (hx : ev E x = .iface t v) (h : En w0 D Q (.panic [{ v := .iface t v, recovered := false }]) E H R) :
    T F n P w0 D ops Q (⟨dst, .panic x, ty, pos, aft, g⟩ :: rest) E H R := fun w hs => by
  unfold wpListIn
  rw [if_pos (by simpa [act] using hw)]
  refine ⟨about_none, ?_⟩
  rw [sem_of_op (by intro c e; cases e)]
  have : (xop E (.panic x) ty).run P w = .halt (.panic (.iface t v)) w := by simp [xop, execOp, hx, Instr.panic]
  rw [this]
  exact h w hs
theorem En_panicked {fn : Func} {Rp : Ending → World → Prop} {ch : List PanicEntry} (hR : ∀ w, S w0 w H R → Rp (.panicked ch) w) : En w0 [] (bodyPost P fn Rp) (.panic ch) E H R := fun w hs => ⟨rfl, hR w hs⟩
end
end Go.Proofs.Ytggdljhmbckpmaa
namespace Go.Proofs.Ytggdljhmbckpmaa
open Go Go.RowKit
attribute [local semireducible] T TC En PW GW OW CallsK CallsP Sl Rd Ls At S

section
variable (F : Fence) (n : Nat) (P : Program) (w0 : World) (D : List Deferred) (ops : Array Oper) (Q : Exit → Act → World → Prop) (Hc : List Hp) (Rc : List MP)
def wnt (o : Oper) (E : List Value) : Bool := Region.wanted o (yielded ops E.toArray)
/-- Number i comes behind all others. -/
def lastOp (ops : Array Oper) (i : Nat) : Bool := match ops[i]? with
  | some o => (List.range ops.size).all fun j => j == i || o.after.any fun e => Region.binds .any e && e.on == j
  | none => false
/-- Whatever order is picked from here on; what is common abides. -/
def TW : Nat → Array Bool → List Value → List Hp → List MP → World → Prop
  | 0, listed, E, _, _, w => Region.ready .any ops listed = [] ∧ Q .normal (act E D) w
  | k + 1, listed, E, H, R, w => (Region.ready .any ops listed = [] → Q .normal (act E D) w) ∧
    ∀ i ∈ Region.ready .any ops listed, ∀ o, ops[i]? = some o →
      (wnt ops o E = true → o.wpIn F n P (act E D) w (fun a' w' => ∃ v H' R', a' = act (setD E o.dst v) D ∧ S w0 w' H' R' ∧ ((∀ w, S w0 w H' R' → S w0 w Hc Rc) ∨ lastOp ops i = true) ∧ TW k (listed.setIfInBounds i true) (setD E o.dst v) H' R' w') Q) ∧
      (wnt ops o E = false → TW k (listed.setIfInBounds i true) (setD E o.dst undef) H R w)
def noDefer (ops : Array Oper) : Bool := ops.all fun o => notDefer o.op
def isDst (ops : Array Oper) (e : Tmp) : Bool := ops.any fun o => o.dst == some e
def RegOk : Prop := Region.noSelect ops = true ∧ noDefer ops = true ∧ ∀ c E e v w, isDst ops e = true → Q (.panic c) (act (setD E (some e) v) D) w → Q (.panic c) (act E D) w
def TA (k : Nat) (listed : Array Bool) (E : List Value) (H : List Hp) (R : List MP) : Prop := RegOk D ops Q → ∀ w, S w0 w H R → TW F n P w0 D ops Q Hc Rc k listed E H R w
end

section
variable {F : Fence} {n : Nat} {P : Program} {w0 : World} {D : List Deferred} {ops : Array Oper} {Q : Exit → Act → World → Prop} {Hc : List Hp} {Rc : List MP} {E : List Value} {H : List Hp} {R : List MP}

theorem TW_sound [Wd F] : ∀ (k : Nat) (listed : Array Bool) (E : List Value) (H : List Hp) (R : List MP) (w : World), TW F n P w0 D ops Q Hc Rc k listed E H R w → wpAnyIn F n P .any ops Q k listed (act E D) w
  | 0, listed, E, H, R, w, h => h
  | k + 1, listed, E, H, R, w, h => by
    refine ⟨h.1, fun i hi => ?_⟩
    unfold wpOpIn
    cases ho : ops[i]? with
    | none =>
      obtain ⟨_, oj, hoj, _⟩ := mem_ready.1 hi
      rw [ho] at hoj; cases hoj
    | some o =>
      obtain ⟨h1, h2⟩ := h.2 i hi o ho
      simp only
      by_cases hw : wnt ops o E = true
      · rw [if_pos (by simpa [act, wnt] using hw)]
        refine Oper.wpIn_mono ?_ (h1 hw)
        rintro a' w' ⟨v, H', R', rfl, hs', _, k'⟩
        exact TW_sound k _ _ _ _ w' k'
      · have hw' : wnt ops o E = false := by simpa using hw
        rw [if_neg (by simpa [act, wnt] using hw')]
        exact ⟨about_none, by rw [act_put]; exact TW_sound k _ _ _ _ w (h2 hw')⟩

theorem TC_draw [Wd F] {id : Nat} {l : List Oper} (hm : P.follows .mixedOrders = true) (hsel : (Region.noSelect l.toArray && noDefer l.toArray) = true) (hQ : ∀ c E e v w, isDst l.toArray e = true → Q (.panic c) (act (setD E (some e) v) D) w → Q (.panic c) (act E D) w) (hS : Hc.Sublist H) (h : TA F n P w0 D l.toArray Q Hc R l.length (List.replicate l.length false).toArray E H R) : TC F n P w0 D (.region id l.toArray true) Q E H R := fun w hs => by
  refine wpIn_region_any hm ?_
  have := TW_sound (F := F) (n := n) (P := P) l.length (List.replicate l.length false).toArray E H R w.drew (h (by rw [Bool.and_eq_true] at hsel; exact ⟨hsel.1, hsel.2, hQ⟩) w.drew hs.drew)
  simpa using this

theorem TW_weaken {Hc' : List Hp} {Rc' : List MP} (hc : ∀ w, S w0 w Hc' Rc' → S w0 w Hc Rc) : ∀ (k : Nat) (listed : Array Bool) (E : List Value) (H : List Hp) (R : List MP) (w : World), TW F n P w0 D ops Q Hc' Rc' k listed E H R w → TW F n P w0 D ops Q Hc Rc k listed E H R w
  | 0, _, _, _, _, _, h => h
  | k + 1, listed, E, H, R, w, h => ⟨h.1, fun i hi o ho => ⟨fun hw => Oper.wpIn_mono (fun a' w' ⟨v, H', R', e, hs', hk, k'⟩ => ⟨v, H', R', e, hs', hk.imp (fun hk w hw => hc w (hk w hw)) id, TW_weaken hc k _ _ _ _ w' k'⟩) ((h.2 i hi o ho).1 hw), fun hw => TW_weaken hc k _ _ _ _ w ((h.2 i hi o ho).2 hw)⟩⟩

/-- What is noted of H and R is of no weight. -/
theorem TW_any : ∀ (k : Nat) (listed : Array Bool) (E : List Value) (H H2 : List Hp) (R R2 : List MP) (w : World), TW F n P w0 D ops Q Hc Rc k listed E H R w → TW F n P w0 D ops Q Hc Rc k listed E H2 R2 w
  | 0, _, _, _, _, _, _, _, h => h
  | k + 1, listed, E, H, H2, R, R2, w, h => ⟨h.1, fun i hi o ho => ⟨(h.2 i hi o ho).1, fun hw => TW_any k _ _ _ _ _ _ w ((h.2 i hi o ho).2 hw)⟩⟩

theorem TA_weaken {Hc' : List Hp} {Rc' : List MP} (hc : ∀ w, S w0 w Hc' Rc' → S w0 w Hc Rc) {k : Nat} {listed : Array Bool} (h : TA F n P w0 D ops Q Hc' Rc' k listed E H R) : TA F n P w0 D ops Q Hc Rc k listed E H R := fun hr w hs => TW_weaken hc _ _ _ _ _ w (h hr w hs)
theorem TA_pre {H' : List Hp} {R' : List MP} (hp : ∀ w, S w0 w H R → S w0 w H' R') {k : Nat} {listed : Array Bool} (h : TA F n P w0 D ops Q Hc Rc k listed E H' R') : TA F n P w0 D ops Q Hc Rc k listed E H R := fun hr w hs => TW_any _ _ _ _ _ _ _ w (h hr w (hp w hs))

/-- 'o' gives v under E wherever what is common holds, and turns nothing. -/
def Gives (P : Program) (w0 : World) (ops : Array Oper) (Hc : List Hp) (Rc : List MP) (o : Oper) (E : List Value) (v : Value) : Prop :=
  (wnt ops o E = true ∧ notDefer o.op = true ∧ ∀ w, S w0 w Hc Rc → (xop E o.op o.type).run P w = .ok (.value v) w) ∨ (wnt ops o E = false ∧ v = undef)

theorem xop_setD {o : Oper} (hs : ∀ cs b, o.op ≠ .select cs b) {E : List Value} {d : Option Tmp} {v : Value} (h : ∀ e, d = some e → e ∉ o.looksAt ops) : xop (setD E d v) o.op o.type = xop E o.op o.type := by
  have h1 := execOp_put (ops := ops) o hs (act E []) d v h
  rw [act_put, act_eval, act_eval] at h1
  exact h1
theorem wnt_setD {o : Oper} {E : List Value} {d : Option Tmp} {v : Value} (h : ∀ e, d = some e → e ∉ o.looksAt ops) : wnt ops o (setD E d v) = wnt ops o E := by
  have h1 := wanted_put (ops := ops) o (act E []) d v h
  rw [act_put] at h1
  simpa [wnt, act] using h1
theorem Gives.keep {o : Oper} (hs : ∀ cs b, o.op ≠ .select cs b) {E : List Value} {v : Value} (hg : Gives P w0 ops Hc Rc o E v) {d : Option Tmp} {u : Value} (h : ∀ e, d = some e → e ∉ o.looksAt ops) : Gives P w0 ops Hc Rc o (setD E d u) v := by
  unfold Gives at *
  rw [wnt_setD h, xop_setD hs h]; exact hg
theorem setD_comm {E : List Value} {x y : Option Tmp} (v u : Value) (h : ∀ d, x = some d → y ≠ some d) : setD (setD E x v) y u = setD (setD E y u) x v := by
  cases x with
  | none => rfl
  | some d =>
    cases y with
    | none => rfl
    | some e =>
      have hne : d ≠ e := fun he => h d rfl (he ▸ rfl)
      simp only [setD]
      rw [List.set_comm _ _ hne]

theorem setD_same {E : List Value} {x y : Option Tmp} {a u v : Value} (h : ∀ d, x = some d → y ≠ some d) (he : setD (setD E x a) y u = setD (setD E x a) y v) : setD E y u = setD E y v := by
  rw [setD_comm _ _ h, setD_comm _ _ h] at he
  cases y with
  | none => rfl
  | some e =>
    cases x with
    | none => exact he
    | some d =>
      have hne : d ≠ e := fun h' => h d rfl (h' ▸ rfl)
      simp only [setD] at he ⊢
      apply List.ext_getElem?
      intro i
      by_cases hi : e = i
      · subst hi
        have := congrArg (fun l => l[e]?) he
        simp only [List.getElem?_set_ne hne] at this
        exact this
      · rw [List.getElem?_set_ne hi, List.getElem?_set_ne hi]

/-- An operation that does not look at 'd' does under 'E.set d v' what it does under E. -/
theorem wp_back [Wd F] {o : Oper} (hs : ∀ cs b, o.op ≠ .select cs b) {d : Option Tmp} {v : Value} {w : World} {K K' : Value → List Hp → List MP → World → Prop}
    (hQ : ∀ c E e v w, isDst ops e = true → Q (.panic c) (act (setD E (some e) v) D) w → Q (.panic c) (act E D) w) (hdst : ∀ e, d = some e → isDst ops e = true) (hdef : ∀ c, o.op ≠ .defer c)
    (h1 : ∀ e, d = some e → e ∉ o.looksAt ops) (h2 : ∀ e, d = some e → o.dst ≠ some e) (hk : ∀ u H' R' w', K u H' R' w' → K' u H' R' w')
    (h : o.wpIn F n P (act (setD E d v) D) w (fun a' w' => ∃ u H' R', a' = act (setD (setD E d v) o.dst u) D ∧ S w0 w' H' R' ∧ K u H' R' w') Q) :
    o.wpIn F n P (act E D) w (fun a' w' => ∃ u H' R', a' = act (setD E o.dst u) D ∧ S w0 w' H' R' ∧ K' u H' R' w') Q := by
  have hQ' : ∀ c w, Q (.panic c) (act (setD E d v) D) w → Q (.panic c) (act E D) w := fun c w hq => by
    cases d with
    | none => exact hq
    | some e => exact hQ c E e v w (hdst e rfl) hq
  obtain ⟨_, h⟩ := h
  refine ⟨about_none, ?_⟩
  rw [sem_of_op hdef] at h ⊢
  rw [xop_setD hs h1] at h
  have fin : ∀ u w', (∃ v_1 H' R', (act (setD E d v) D).put o.dst u = act (setD (setD E d v) o.dst v_1) D ∧ S w0 w' H' R' ∧ K v_1 H' R' w') → (∃ v_1 H' R', (act E D).put o.dst u = act (setD E o.dst v_1) D ∧ S w0 w' H' R' ∧ K' v_1 H' R' w') := fun u w' ⟨v1, H', R', e, s, k⟩ => by
    refine ⟨v1, H', R', ?_, s, hk _ _ _ _ k⟩
    rw [act_put] at e ⊢
    have e' : setD (setD E d v) o.dst u = setD (setD E d v) o.dst v1 := by
      have := congrArg (fun a : Act => a.tmps.toList) e
      simpa [act] using this
    rw [setD_same h2 e']
  generalize (xop E o.op o.type).run P w = r at *
  cases r with
  | ok x w' =>
    cases x <;> simp only [Oper.uponIn] at h ⊢
    case value u => exact fin u w' h
    case skip => exact fin undef w' h
    case defer c =>
      exfalso
      obtain ⟨v1, H', R', e, _⟩ := h
      have := congrArg (fun a : Act => a.defers.length) e
      cases hd : o.dst <;> simp [act, Act.put, hd] at this
    case enter f args =>
      refine ⟨h.1, h.2.mono fun e w'' he => ?_⟩
      cases e with
      | returned u => exact fin u w'' he
      | panicked c => exact hQ' _ _ he
      | outgrown => exact he
    case row row args => exact ⟨h.1, h.2.mono fun u w'' he => fin u w'' he⟩
    case round =>
      refine ⟨h.1, h.2.mono fun e w'' he => ?_⟩
      cases e with
      | returned u => exact fin u w'' he
      | panicked c => exact hQ' _ _ he
      | outgrown => exact he
  | halt x w' => cases x <;> simp only [Oper.uponIn] at h ⊢ <;> exact hQ' _ _ h


theorem TW_first [Wd F] {i : Nat} {oi : Oper} {v : Value} (hi : ops[i]? = some oi) (hsel : Region.noSelect ops = true) (hnd : noDefer ops = true)
    (hQ : ∀ c E e v w, isDst ops e = true → Q (.panic c) (act (setD E (some e) v) D) w → Q (.panic c) (act E D) w) :
    ∀ (k : Nat) (listed : Array Bool) (E : List Value) (H : List Hp) (R : List MP) (w : World),
      (∀ j oj, ops[j]? = some oj → j ≠ i → listed.getD j true = false → (∀ e ∈ oj.after, Region.binds .any e = true → e.on ≠ i) → oi.apart ops oj = true) →
      i ∈ Region.ready .any ops listed → Gives P w0 ops Hc Rc oi E v → S w0 w H R → S w0 w Hc Rc → (∀ w, S w0 w H R → S w0 w Hc Rc) →
      TW F n P w0 D ops Q Hc Rc k (listed.setIfInBounds i true) (setD E oi.dst v) H R w → TW F n P w0 D ops Q Hc Rc (k + 1) listed E H R w := by
  have hsel' := Region.noSelect_spec hsel
  have hnd' : ∀ (j : Nat) (o : Oper), ops[j]? = some o → ∀ c, o.op ≠ .defer c := fun j o ho c e => by
    have hm : o ∈ ops := Array.mem_of_getElem? ho
    have := Array.all_eq_true'.1 hnd o hm
    simp [e, notDefer] at this
  intro k
  have own : ∀ (k : Nat) (listed : Array Bool) (E : List Value) (H : List Hp) (R : List MP) (w : World), Gives P w0 ops Hc Rc oi E v → S w0 w H R → S w0 w Hc Rc → (∀ w, S w0 w H R → S w0 w Hc Rc) → TW F n P w0 D ops Q Hc Rc k (listed.setIfInBounds i true) (setD E oi.dst v) H R w →
      (wnt ops oi E = true → oi.wpIn F n P (act E D) w (fun a' w' => ∃ v H' R', a' = act (setD E oi.dst v) D ∧ S w0 w' H' R' ∧ ((∀ w, S w0 w H' R' → S w0 w Hc Rc) ∨ lastOp ops i = true) ∧ TW F n P w0 D ops Q Hc Rc k (listed.setIfInBounds i true) (setD E oi.dst v) H' R' w') Q) ∧
      (wnt ops oi E = false → TW F n P w0 D ops Q Hc Rc k (listed.setIfInBounds i true) (setD E oi.dst undef) H R w) := by
    intro k listed E H R w hy hs hS hSS h
    rcases hy with ⟨hw, hd, hv⟩ | ⟨hw, rfl⟩
    · refine ⟨fun _ => ⟨about_none, ?_⟩, fun hf => by rw [hw] at hf; cases hf⟩
      rw [sem_of_op (by intro c e; rw [e] at hd; cases hd), hv w hS]
      simp only [Oper.uponIn]
      exact ⟨v, H, R, by rw [act_put], hs, .inl hSS, h⟩
    · exact ⟨fun ht => (by rw [hw] at ht; cases ht), fun _ => h⟩
  induction k with
  | zero =>
    intro listed E H R w _ hr hy hs hS hSS h
    refine ⟨fun h' => (by rw [h'] at hr; cases hr), fun j hj oj hoj => ?_⟩
    by_cases hji : j = i
    · subst hji
      rw [hi] at hoj; cases hoj
      exact own 0 listed E H R w hy hs hS hSS h
    · have := ready_mono hj hji
      rw [h.1] at this
      cases this
  | succ k ih =>
    intro listed E H R w hfree hr hy hs hS hSS h
    refine ⟨fun h' => (by rw [h'] at hr; cases hr), fun j hj oj hoj => ?_⟩
    by_cases hji : j = i
    · subst hji
      rw [hi] at hoj; cases hoj
      exact own (k + 1) listed E H R w hy hs hS hSS h
    · have h1 := h.2 j (ready_mono hj hji) oj hoj
      obtain ⟨hjun, oj', hoj', hall⟩ := mem_ready.1 hj
      rw [hoj] at hoj'; cases hoj'
      have hnot : ∀ e ∈ oj.after, Region.binds .any e = true → e.on ≠ i := fun e he hb heq => by
        have h1 := hall e he hb
        have h0 := (mem_ready.1 hr).1
        rw [heq] at h1
        rcases Nat.lt_or_ge i listed.size with h' | h'
        · simp [h'] at h0 h1; rw [h0] at h1; cases h1
        · simp [Array.getElem?_eq_none h'] at h1
      obtain ⟨a1, a2, a3⟩ := Oper.apart_spec (hfree j oj hoj hji hjun hnot)
      have hfree' : ∀ k ok, ops[k]? = some ok → k ≠ i → (listed.setIfInBounds j true).getD k true = false →
          (∀ e ∈ ok.after, Region.binds .any e = true → e.on ≠ i) → oi.apart ops ok = true := fun k ok hk hki hun hno => by
        refine hfree k ok hk hki ?_ hno
        by_cases hjk : j = k
        · subst hjk; exact hjun
        · rw [getD_set_ne true hjk] at hun; exact hun
      have notlast : lastOp ops j = false := by
        cases hl : lastOp ops j with
        | false => rfl
        | true =>
          exfalso
          unfold lastOp at hl
          rw [hoj] at hl
          simp only at hl
          have hisz : i < ops.size := (Array.getElem?_eq_some_iff.1 hi).1
          have := List.all_eq_true.1 hl i (List.mem_range.2 hisz)
          rw [Bool.or_eq_true] at this
          rcases this with h0 | h0
          · exact hji (by simpa using h0 : i = j).symm
          · obtain ⟨e, he, hb⟩ := Array.any_eq_true'.1 h0
            rw [Bool.and_eq_true] at hb
            exact hnot e he hb.1 (by simpa using hb.2)
      have next : ∀ u H' R' w', S w0 w' H' R' → (∀ w, S w0 w H' R' → S w0 w Hc Rc) → TW F n P w0 D ops Q Hc Rc k ((listed.setIfInBounds i true).setIfInBounds j true) (setD (setD E oi.dst v) oj.dst u) H' R' w' → TW F n P w0 D ops Q Hc Rc (k + 1) (listed.setIfInBounds j true) (setD E oj.dst u) H' R' w' := fun u H' R' w' hs' hS' h' => by
        refine ih (listed.setIfInBounds j true) _ H' R' w' hfree' (ready_mono hr (Ne.symm hji)) (hy.keep (hsel' i oi · · hi) a3) hs' (hS' w' hs') hS' ?_
        rw [Array.setIfInBounds_comm _ _ hji, ← setD_comm _ _ a2]
        exact h'
      refine ⟨fun hw => ?_, fun hw => ?_⟩
      · have h2 := h1.1 (by rw [wnt_setD a1]; exact hw)
        refine Oper.wpIn_mono ?_ (wp_back (K' := fun u H' R' w' => ((∀ w, S w0 w H' R' → S w0 w Hc Rc) ∨ lastOp ops j = true) ∧ S w0 w' H' R' ∧ TW F n P w0 D ops Q Hc Rc k ((listed.setIfInBounds i true).setIfInBounds j true) (setD (setD E oi.dst v) oj.dst u) H' R' w') (K := fun u H' R' w' => S w0 w' H' R' ∧ ((∀ w, S w0 w H' R' → S w0 w Hc Rc) ∨ lastOp ops j = true) ∧ TW F n P w0 D ops Q Hc Rc k ((listed.setIfInBounds i true).setIfInBounds j true) (setD (setD E oi.dst v) oj.dst u) H' R' w')
          (hsel' j oj · · hoj) hQ (fun e he => by
            unfold isDst
            rw [Array.any_eq_true']
            exact ⟨oi, Array.mem_of_getElem? hi, by simp [he]⟩) (hnd' j oj hoj) a1 a2 (fun u H' R' w' ⟨k0, k1, k2⟩ => ⟨k1, k0, k2⟩) (Oper.wpIn_mono (fun a' w' ⟨u, H', R', e, s, k1, k2⟩ => ⟨u, H', R', e, s, s, k1, k2⟩) h2))
        rintro a' w' ⟨u, H', R', e, s, k1, k0, k2⟩
        rcases k1 with k1 | k1
        · exact ⟨u, H', R', e, s, .inl k1, next u H' R' w' s k1 k2⟩
        · rw [notlast] at k1; cases k1
      · have h2 := h1.2 (by rw [wnt_setD a1]; exact hw)
        exact next undef H R w hs hSS h2

/-- Number i, as it stands in the text, only reads: it is taken first. -/
theorem TA_pure [Wd F] (i : Nat) {dst : Option Tmp} {op : Op} {ty : TypeId} {pos : String} {aft : Array Edge} {g : Option (Nat × Bool)} {k : Nat} {listed listed' : Array Bool} (hi : ops[i]? = some ⟨dst, op, ty, pos, aft, g⟩)
    (hf : (Region.free .any ops listed i && (Region.ready .any ops listed).contains i) = true) (hl : listed.setIfInBounds i true = listed')
    (hw : wnt ops ⟨dst, op, ty, pos, aft, g⟩ E = true) (hd : notDefer op = true) (hS : Hc.Sublist H)
    (h : PW P w0 E op ty Hc R (fun v R' => TA F n P w0 D ops Q Hc R' k listed' (setD E dst v) H R')) : TA F n P w0 D ops Q Hc R (k + 1) listed E H R := fun hreg w ⟨s, hok⟩ => by
  subst hl
  rw [Bool.and_eq_true] at hf
  have hok' : Ok w0 s w Hc R := ⟨hok.below, hok.st, fun x hx => hok.hp x (hS.subset hx), hok.nd.sublist (hS.filterMap _), hok.rd⟩
  obtain ⟨v, R', h1, h2, h3, h4⟩ := h w s hok'
  have hs' : S w0 w H R' := ⟨s, hok.more h3⟩
  have hcc : ∀ w, S w0 w Hc R' → S w0 w Hc R := fun w hw => hw.weaken (List.Sublist.refl _) h2
  refine TW_any _ _ _ H _ R' _ w (TW_weaken hcc _ _ _ _ _ w ?_)
  exact TW_first hi hreg.1 hreg.2.1 hreg.2.2 k listed E H R' w (Region.free_spec hi hf.1) (by simpa using hf.2) (.inl ⟨hw, hd, h1⟩) hs' (hs'.weaken hS (fun _ h => h)) (fun w hw => hw.weaken hS (fun _ h => h)) (h4 hreg w hs')
/-- Number i is not wanted. -/
theorem TA_skip [Wd F] (i : Nat) {dst : Option Tmp} {op : Op} {ty : TypeId} {pos : String} {aft : Array Edge} {g : Option (Nat × Bool)} {k : Nat} {listed listed' : Array Bool} (hi : ops[i]? = some ⟨dst, op, ty, pos, aft, g⟩)
    (hf : (Region.free .any ops listed i && (Region.ready .any ops listed).contains i) = true) (hl : listed.setIfInBounds i true = listed')
    (hw : wnt ops ⟨dst, op, ty, pos, aft, g⟩ E = false) (hS : Hc.Sublist H) (h : TA F n P w0 D ops Q Hc R k listed' (setD E dst undef) H R) : TA F n P w0 D ops Q Hc R (k + 1) listed E H R := fun hreg w hs => by
  subst hl
  rw [Bool.and_eq_true] at hf
  exact TW_first hi hreg.1 hreg.2.1 hreg.2.2 k listed E H R w (Region.free_spec hi hf.1) (by simpa using hf.2) (.inr ⟨hw, rfl⟩) hs (hs.weaken hS (fun _ h => h)) (fun w hw => hw.weaken hS (fun _ h => h)) (h hreg w hs)
/-- Whichever comes up. -/
theorem TA_all {rs : List Nat} {k : Nat} {listed : Array Bool} (hr : Region.ready .any ops listed = rs) (hne : rs ≠ [])
    (h : ∀ i ∈ rs, ∀ o, ops[i]? = some o → (wnt ops o E = true → OW F n P w0 D Q o E H R (fun v H' R' => ((∀ w, S w0 w H' R' → S w0 w Hc Rc) ∨ lastOp ops i = true) ∧ TA F n P w0 D ops Q Hc Rc k (listed.setIfInBounds i true) (setD E o.dst v) H' R')) ∧
      (wnt ops o E = false → TA F n P w0 D ops Q Hc Rc k (listed.setIfInBounds i true) (setD E o.dst undef) H R)) : TA F n P w0 D ops Q Hc Rc (k + 1) listed E H R := fun hreg w hs =>
  ⟨fun h0 => absurd (hr ▸ h0) hne, fun i hi o ho => ⟨fun hw => Oper.wpIn_mono (fun a' w' ⟨v, H', R', e, hs', h1, h2⟩ => ⟨v, H', R', e, hs', h1, h2 hreg w' hs'⟩) ((h i (hr ▸ hi) o ho).1 hw w hs), fun hw => (h i (hr ▸ hi) o ho).2 hw hreg w hs⟩⟩
/-- One alone may come up. -/
theorem TA_one (i : Nat) {dst : Option Tmp} {op : Op} {ty : TypeId} {pos : String} {aft : Array Edge} {g : Option (Nat × Bool)} {k : Nat} {listed listed' : Array Bool} (hr : Region.ready .any ops listed = [i]) (ho : ops[i]? = some ⟨dst, op, ty, pos, aft, g⟩) (hl : listed.setIfInBounds i true = listed') (hw : wnt ops ⟨dst, op, ty, pos, aft, g⟩ E = true)
    (h : OW F n P w0 D Q ⟨dst, op, ty, pos, aft, g⟩ E H R (fun v H' R' => ((∀ w, S w0 w H' R' → S w0 w Hc Rc) ∨ lastOp ops i = true) ∧ TA F n P w0 D ops Q Hc Rc k listed' (setD E dst v) H' R')) : TA F n P w0 D ops Q Hc Rc (k + 1) listed E H R := by
  subst hl
  exact TA_all hr (by simp) (fun j hj o' ho' => by
    simp at hj; subst hj
    rw [ho] at ho'; cases ho'
    exact ⟨fun _ => h, fun hf => by rw [hw] at hf; cases hf⟩)
/-- One alone may come up, and it is not wanted. -/
theorem TA_oneskip (i : Nat) {dst : Option Tmp} {op : Op} {ty : TypeId} {pos : String} {aft : Array Edge} {g : Option (Nat × Bool)} {k : Nat} {listed listed' : Array Bool} (hr : Region.ready .any ops listed = [i]) (ho : ops[i]? = some ⟨dst, op, ty, pos, aft, g⟩) (hl : listed.setIfInBounds i true = listed') (hw : wnt ops ⟨dst, op, ty, pos, aft, g⟩ E = false)
    (h : TA F n P w0 D ops Q Hc Rc k listed' (setD E dst undef) H R) : TA F n P w0 D ops Q Hc Rc (k + 1) listed E H R := by
  subst hl
  exact TA_all hr (by simp) (fun j hj o' ho' => by
    simp at hj; subst hj
    rw [ho] at ho'; cases ho'
    exact ⟨fun hf => (by rw [hw] at hf; cases hf), fun _ => h⟩)
/-- Two may come up. -/
theorem TA_two (i j : Nat) {o o' : Oper} {k : Nat} {listed li lj : Array Bool} (hr : Region.ready .any ops listed = [i, j]) (ho : ops[i]? = some o) (ho' : ops[j]? = some o') (hli : listed.setIfInBounds i true = li) (hlj : listed.setIfInBounds j true = lj) (hw : wnt ops o E = true) (hw' : wnt ops o' E = true)
    (h : OW F n P w0 D Q o E H R (fun v H' R' => ((∀ w, S w0 w H' R' → S w0 w Hc Rc) ∨ lastOp ops i = true) ∧ TA F n P w0 D ops Q Hc Rc k li (setD E o.dst v) H' R'))
    (h' : OW F n P w0 D Q o' E H R (fun v H' R' => ((∀ w, S w0 w H' R' → S w0 w Hc Rc) ∨ lastOp ops j = true) ∧ TA F n P w0 D ops Q Hc Rc k lj (setD E o'.dst v) H' R')) : TA F n P w0 D ops Q Hc Rc (k + 1) listed E H R := by
  subst hli; subst hlj
  exact TA_all hr (by simp) (fun l hl o2 ho2 => by
    simp at hl
    rcases hl with rfl | rfl
    · rw [ho] at ho2; cases ho2; exact ⟨fun _ => h, fun hf => by rw [hw] at hf; cases hf⟩
    · rw [ho'] at ho2; cases ho2; exact ⟨fun _ => h', fun hf => by rw [hw'] at hf; cases hf⟩)
theorem TA_done {k : Nat} {listed : Array Bool} (hr : (Region.ready .any ops listed).isEmpty = true) (h : En w0 D Q .normal E H R) : TA F n P w0 D ops Q Hc Rc k listed E H R := fun hreg w hs => by
  rw [List.isEmpty_iff] at hr
  cases k with
  | zero => exact ⟨hr, h w hs⟩
  | succ k => exact ⟨fun _ => h w hs, fun i hi => by rw [hr] at hi; cases hi⟩
theorem TA_env {k : Nat} {listed : Array Bool} {E' : List Value} (h : E = E') (kk : TA F n P w0 D ops Q Hc Rc k listed E' H R) : TA F n P w0 D ops Q Hc Rc k listed E H R := h ▸ kk
/-- What is common is what is known. -/
theorem TA_common {k : Nat} {listed : Array Bool} (Hc' : List Hp) (h1 : Hc.Sublist Hc') (h2 : ∀ p ∈ Rc, p ∈ R) (kk : TA F n P w0 D ops Q Hc' R k listed E H R) : TA F n P w0 D ops Q Hc Rc k listed E H R := TA_weaken (fun w hw => hw.weaken h1 h2) kk
/-- An operation that makes or turns memory, the only one that may come up. -/
theorem TA_gen [Wd F] (i : Nat) {dst : Option Tmp} {op : Op} {ty : TypeId} {pos : String} {aft : Array Edge} {g : Option (Nat × Bool)} {k : Nat} {listed listed' : Array Bool} (hr : Region.ready .any ops listed = [i]) (hi : ops[i]? = some ⟨dst, op, ty, pos, aft, g⟩) (hl : listed.setIfInBounds i true = listed')
    (hw : wnt ops ⟨dst, op, ty, pos, aft, g⟩ E = true) (hd : notDefer op = true)
    (h : GW P w0 E op ty H R (fun v H' R' => ((∀ w, S w0 w H' R' → S w0 w Hc Rc) ∨ lastOp ops i = true) ∧ TA F n P w0 D ops Q Hc Rc k listed' (setD E dst v) H' R')) : TA F n P w0 D ops Q Hc Rc (k + 1) listed E H R :=
  TA_one i hr hi hl hw (GW.ow hd h)
end
attribute [irreducible] TA
end Go.Proofs.Ytggdljhmbckpmaa
