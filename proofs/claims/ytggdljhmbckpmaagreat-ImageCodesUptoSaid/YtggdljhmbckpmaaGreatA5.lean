/- Slicing, copying, strings; the ends of bodies; panics. -/
import Derived.Test.YtggdljhmbckpmaaGreatA4
set_option linter.unusedVariables false
set_option linter.unusedSimpArgs false
namespace Go.Proofs.YtggdljhmbckpmaaGreat
open Go Go.RowKit
attribute [local semireducible] T TC En PW GW OW CallsK CallsP Sl Rd Ls At S

def yS (E : List Value) (d : Int) : Option Operand → Option Int
  | none => some d
  | some o => match ev E o with | .int _ i => some i | _ => none

section
variable {P : Program} {w0 : World} {E : List Value} {H : List Hp} {R : List MP} {ty : TypeId} {K : Value → List MP → Prop}

theorem qU (isS : Bool) (n c : Nat) (lo hi : Option Operand) (l h : Int) (hl : yS E 0 lo = some l) (hh : yS E n hi = some h) (h0 : 0 ≤ l) (h1 : l ≤ h) (h2 : h ≤ c) (w : World) :
    (Instr.sliceBounds isS n c (lo.map (ev E)) (hi.map (ev E)) none).run P w = .ok (l.toNat, h.toNat, c) w := by
  have hlow : ∀ o, lo = some o → ∃ k, ev E o = .int k l := fun o ho => by
    subst ho
    simp only [yS] at hl
    cases he : ev E o <;> rw [he] at hl <;> simp at hl
    subst hl; exact ⟨_, rfl⟩
  have hhigh : ∀ o, hi = some o → ∃ k, ev E o = .int k h := fun o ho => by
    subst ho
    simp only [yS] at hh
    cases he : ev E o <;> rw [he] at hh <;> simp at hh
    subst hh; exact ⟨_, rfl⟩
  have hb1 : 0 ≤ h ∧ h ≤ (c : Int) := by omega
  have hb2 : 0 ≤ l ∧ l ≤ (h.toNat : Int) := by omega
  cases lo with
  | none =>
    simp [yS] at hl; subst hl
    cases hi with
    | none => simp [yS] at hh; subst hh; simp [Instr.sliceBounds]
    | some o' =>
      obtain ⟨k', e'⟩ := hhigh _ rfl
      simp [Instr.sliceBounds, Instr.sliceBound, asIntOf, e', hb1]
  | some o =>
    obtain ⟨k, e⟩ := hlow _ rfl
    cases hi with
    | none =>
      simp [yS] at hh; subst hh
      have hb3 : 0 ≤ l ∧ l ≤ (n : Int) := by omega
      simp [Instr.sliceBounds, Instr.sliceBound, asIntOf, e, hb3]
    | some o' =>
      obtain ⟨k', e'⟩ := hhigh _ rfl
      have hb4 : 0 ≤ l ∧ l ≤ max h 0 := by omega
      simp [Instr.sliceBounds, Instr.sliceBound, asIntOf, e, e', hb1, hb4]

theorem vG {t e : TypeId} {x : Operand} {lo hi : Option Operand} {sz by_ : Nat} {zs : List Value} [ht : TyL P t e sz by_ zs] {A : Option Addr} {n c : Nat} {l h : Int} (hx : ev E x = .slice A n c) (hl : yS E 0 lo = some l) (hh : yS E n hi = some h)
    (h0 : 0 ≤ l) (h1 : l ≤ h) (h2 : h ≤ c) (kk : K (.slice (if c = l.toNat then A else A.map (·.add (l.toNat * sz))) (h.toNat - l.toNat) (c - l.toNat)) R) : PW P w0 E (.slice t x lo hi none) ty H R K :=
  eV rfl (fun w _ => by
    rw [hx]
    simp only [Instr.sliceAt, Instr.slice, Sem.run_bind, run_underlying ht.und, Result.andThen_ok, Option.map_none, qU true n c lo hi l h hl hh h0 h1 h2, ht.size, Sem.run_pure]) kk

theorem Addr.add_mk (b o n : Nat) : (⟨b, o, none⟩ : Addr).add n = ⟨b, o + n, none⟩ := by unfold Addr.add; split <;> simp_all

theorem m9 {α : Type} [Rep α] {A : Option Addr} {n c : Nat} {xs : List α} (hm : Sl (.slice A n c) xs ∈ R) (l h : Nat) (h1 : l ≤ h) (h2 : h ≤ xs.length) {s : Sto} (hR : ∀ q ∈ R, q.p s) :
    (Sl (.slice (if c = l then A else A.map (·.add (l * Rep.size α))) (h - l) (c - l)) ((xs.take h).drop l)).p s := by
  obtain ⟨A', c', e1, ⟨e2, e3⟩, e4⟩ := hR _ hm
  injection e1 with e1 e5 e6
  subst e1; subst e6; subst e5
  have hlen : ((xs.take h).drop l).length = h - l := by simp; omega
  refine ⟨_, _, by rw [hlen], ⟨by rw [hlen]; omega, by omega⟩, fun hp => ?_⟩
  rw [hlen] at hp
  obtain ⟨b, o, rfl, hb⟩ := e4 (by omega)
  have hne : ¬ c = l := by omega
  rw [if_neg hne]
  refine ⟨b, o + l * Rep.size α, by simp [Addr.add_mk], fun i x hi => ?_⟩
  have hi' : xs[l + i]? = some x := by
    rw [List.getElem?_drop, List.getElem?_take] at hi
    split at hi
    · exact hi
    · cases hi
  obtain ⟨cs, r1, r2⟩ := hb (l + i) x hi'
  refine ⟨cs, r1, fun j v hj => ?_⟩
  have := r2 j v hj
  rw [Nat.add_mul] at this
  rw [show o + l * Rep.size α + i * Rep.size α + j = o + (l * Rep.size α + i * Rep.size α) + j by omega]
  exact this

theorem fP {α : Type} [Rep α] {t e : TypeId} {x : Operand} {lo hi : Option Operand} {sz by_ : Nat} {zs : List Value} [ht : TyL P t e sz by_ zs] {A : Option Addr} {n c : Nat} {xs : List α} {l h : Int} (hx : ev E x = .slice A n c) (hm : Sl (.slice A n c) xs ∈ R) (hn : n = xs.length) (hsz : Rep.size α = sz) (hl : yS E 0 lo = some l) (hh : yS E n hi = some h)
    (h0 : 0 ≤ l) (h1 : l ≤ h) (h2 : h ≤ xs.length) (kk : ∀ A' c', K (.slice A' (h.toNat - l.toNat) c') (Sl (.slice A' (h.toNat - l.toNat) c') ((xs.take h.toNat).drop l.toNat) :: R)) : PW P w0 E (.slice t x lo hi none) ty H R K := fun w s hs => by
  have hc : xs.length ≤ c := by
    obtain ⟨A', c', e1, e2, _⟩ := uI ⟨s, hs⟩ hm
    injection e1 with _ _ e3; omega
  subst hsz
  refine PW.learn _ (fun p hp => List.mem_cons_of_mem _ hp) (fun s hR p hp => ?_)
    (vG hx hl hh h0 h1 (by omega) (kk _ _)) w s hs
  rcases List.mem_cons.1 hp with rfl | hp
  · exact m9 hm l.toNat h.toNat (by omega) (by omega) hR
  · exact hR p hp

/-! ### strings -/
theorem S.sl_bytes {w : World} (hs : S w0 w H R) {A : Option Addr} {n c : Nat} {xs : List UInt8} (hm : Sl (.slice A n c) xs ∈ R) : n = xs.length ∧ (0 < n → ∃ b o, A = some ⟨b, o, none⟩ ∧ ∀ j u, (bA xs)[j]? = some u → w.cell? ⟨b, o + j, none⟩ = some u) := by
  obtain ⟨s, h⟩ := hs
  obtain ⟨A', c', e1, _, e4⟩ := h.rd _ hm
  injection e1 with e1 e5 e6
  subst e1; subst e5; subst e6
  refine ⟨rfl, fun hp => ?_⟩
  obtain ⟨b, o, rfl, hb⟩ := e4 hp
  refine ⟨b, o, rfl, fun j u hj => ?_⟩
  simp only [bA, List.getElem?_map, Option.map_eq_some_iff] at hj
  obtain ⟨x, hx, rfl⟩ := hj
  obtain ⟨cs, r1, r2⟩ := hb j x hx
  have r1' : cs = [eP x] := r1
  subst r1'
  have := h.st _ _ _ (r2 0 _ rfl)
  simpa [Rep.size] using this

def oN (xs : List UInt8) : ByteArray := ⟨xs.toArray⟩
theorem tH {s e d : TypeId} {x : Operand} {A : Option Addr} {n c : Nat} {xs : List UInt8} [hs : TyU P s (.slice e)] [he : TyU P e (.int .u8)] [hd : TyU P d .string] (hx : ev E x = .slice A n c) (hm : Sl (.slice A n c) xs ∈ R) (kk : K (.string (oN xs)) R) : PW P w0 E (.convert s d x) ty H R K :=
  eV rfl (fun w hw => by
    rw [hx]
    obtain ⟨hn, hc⟩ := hw.sl_bytes hm
    rcases Nat.eq_zero_or_pos n with h0 | h0
    · have : xs = [] := List.eq_nil_of_length_eq_zero (by omega)
      subst this
      cases A with
      | none => rw [run_convert_bytes_nil (P := P) w s e hs.und he.und n c d hd.und]; rfl
      | some a =>
        obtain ⟨b, o, sp⟩ := a
        subst h0
        simp only [convert, Sem.run_bind, run_underlying hs.und, run_underlying hd.und, run_underlying he.und, Result.andThen_ok, Conv.bytesToString]
        simp [loadCells, loadCellsFrom]
        rfl
    · obtain ⟨b, o, rfl, hcell⟩ := hc h0
      have := run_convert_bytes_arg (P := P) w s e hs.und he.und b o n c (xs.map fun c => (c.toNat : Int)) (by simpa using hn.symm) (fun i hi => by
        rw [hcell i (eP (xs[i]'(by omega))) (by simp [bA, List.getElem?_eq_getElem (show i < xs.length by omega)])]
        simp [eP, List.getD, List.getElem?_eq_getElem (show i < xs.length by omega)]) d hd.und
      rw [this]
      congr 2
      simp only [strOfNums, oN, List.map_map]
      congr 2
      exact (List.map_congr_left (fun c _ => by simp)).trans (List.map_id xs)) kk
end

/-! ### copy -/
section
variable {P : Program} {w0 : World} {E : List Value} {H : List Hp} {R : List MP} {ty : TypeId} {K : Value → List Hp → List MP → Prop}
theorem pY {w : World} (hs : S w0 w H R) {A : Option Addr} {n c : Nat} {xs : List UInt8} (hm : Sl (.slice A n c) xs ∈ R) (k : Nat) (hk : k ≤ n) :
    (Builtin.firstCells 1 k (.slice A n c)).run P w = .ok (bA (xs.take k)).toArray w := by
  obtain ⟨hn, hc⟩ := hs.sl_bytes hm
  rcases Nat.eq_zero_or_pos k with h0 | h0
  · subst h0
    cases A with
    | none => rfl
    | some a => simp [Builtin.firstCells, loadCells, loadCellsFrom, bA]
  · obtain ⟨b, o, rfl, hcell⟩ := hc (by omega)
    have := run_loadCells_list (P := P) w ⟨b, o, none⟩ (bA (xs.take k)) (fun j v hj => by
      rw [Addr.add_mk]
      refine hcell j v ?_
      simp only [bA, List.map_take, List.getElem?_take] at hj
      split at hj
      · exact hj
      · cases hj)
    have hl : (bA (xs.take k)).length = k := by simp; omega
    rw [hl] at this
    simpa [Builtin.firstCells] using this

theorem pJ {t e : TypeId} {d s : Operand} {i dn dc b o n c : Nat} {A : Option Addr} {zs cs : List Value} {T : TypeId} {by_ : Nat} {xs : List UInt8} [h : TyL P t e 1 by_ zs] (hd : ev E d = .slice (some ⟨b, o, none⟩) dn dc) (hx : ev E s = .slice A n c) (hm : Sl (.slice A n c) xs ∈ R) (hi : H[i]? = some (.blk b cs T))
    (hroom : 0 < dn → o + dn ≤ cs.length) (kk : K (.int .i64 (min n dn : Nat)) (H.set i (.blk b (fR cs o (bA (xs.take dn))) T)) R) : GW P w0 E (.call ⟨.builtin .copy, #[d, s], #[t, t]⟩) ty H R K := fun w hs => by
  obtain ⟨hn, _⟩ := hs.sl_bytes hm
  have hfc := pY (P := P) hs hm (Nat.min n dn) (Nat.min_le_left _ _)
  have htk : xs.take (Nat.min n dn) = xs.take dn := by
    rw [hn]
    rcases Nat.le_total xs.length dn with hle | hle
    · rw [show Nat.min xs.length dn = xs.length from Nat.min_eq_left hle, List.take_of_length_le hle, List.take_length]
    · rw [show Nat.min xs.length dn = dn from Nat.min_eq_right hle]
  rw [htk] at hfc
  have hb := (hs.blk_heap hi).1
  have fin : ∀ w', (storeCells ⟨b, o, none⟩ (bA (xs.take dn))).run P w = .ok () w' → (lR E (.call ⟨.builtin .copy, #[d, s], #[t, t]⟩) ty).run P w = .ok (.value (.int .i64 (min n dn : Nat))) w' := fun w' hw' => by
    simp only [lR, execOp, resolve, invoke, builtin, Builtin.copy_, List.map_toArray, List.map_cons, List.map_nil, List.getElem?_toArray, List.getElem?_cons_zero, List.getElem?_cons_succ, hd, hx, Sem.run_bind, Sem.run_pure, Result.andThen_ok, run_underlying h.und, Builtin.lenOf, h.size, hfc, hw']
    rfl
  by_cases h0 : (xs.take dn).length = 0
  · have hnil : xs.take dn = [] := List.eq_nil_of_length_eq_zero h0
    refine ⟨_, w, _, R, .inl (fin w (by rw [hnil]; rfl)), ?_, kk⟩
    have he : fR cs o (bA (xs.take dn)) = cs := by rw [hnil]; simp [fR, bA]
    rw [he]
    have e2 : H.set i (.blk b cs T) = H := by
      obtain ⟨hlt, e⟩ := List.getElem?_eq_some_iff.1 hi
      rw [← e]; exact List.set_getElem_self hlt
    rw [e2]; exact hs
  · have hlen : (xs.take dn).length ≤ dn := List.length_take_le _ _
    have hst := run_storeCells_at (P := P) b o T (bA (xs.take dn)) 0 cs.toArray w hb (by simp only [sE, List.size_toArray, Nat.add_zero]; have := hroom (by omega); omega) (lD _)
    refine ⟨_, _, _, R, .inl (fin _ hst), ?_, kk⟩
    have := hs.setRow hi (fR cs o (bA (xs.take dn)))
    simpa [fR] using this
end

/-! ### the ends -/
section
variable {F : Fence} {n : Nat} {P : Program} {w0 : World} {D : List Deferred} {ops : Array Oper} {Q : Exit → Act → World → Prop} {rest : List Oper} {E : List Value} {H : List Hp} {R : List MP}
def r9 (tmps : Array Value) (rv : ResultVar) : Sem Value := match rv with | .tmp t => pure (tmps.getD t undef) | .cell a t => do loadVar t (← asAddr (tmps.getD a undef))
theorem kF (fn : Func) (tmps : Array Value) : results fn tmps = (fn.results.mapM (r9 tmps) >>= fun vs => pure (if h : vs.size = 1 then vs[0] else .tuple vs)) := rfl
def RV (P : Program) (w0 : World) (E : List Value) (H : List Hp) (R : List MP) (rv : ResultVar) (v : Value) : Prop :=
  ∀ w, S w0 w H R → (r9 E.toArray rv).run P w = .ok v w
theorem bS {t : Tmp} {v : Value} (h : E.getD t undef = v) : RV P w0 E H R (.tmp t) v := fun w _ => by simp [r9, ← h]
theorem dG {a : Tmp} {t : TypeId} {agg : Bool} {sz by_ : Nat} {z : Value} [h : Ty P t agg sz by_ z] {i b o : Nat} {cs : List Value} {T : TypeId} {v : Value} (hx : E.getD a undef = .pointer (some ⟨b, o, none⟩)) (hi : H[i]? = some (.blk b cs T)) (hv : gJ agg sz cs o = some v) : RV P w0 E H R (.cell a t) v := fun w hs => by
  have := lE (P := P) (t := t) (o := 0) (k := o) (hs.blk_cells hi) hv
  simp only [Nat.zero_add, Instr.loadAt, Instr.sureAddr, Sem.run_bind, Sem.run_pure, Result.andThen_ok] at this
  have e : E.toArray.getD a undef = .pointer (some ⟨b, o, none⟩) := by simpa using hx
  simp only [r9, e, Sem.run_bind, asAddr, Sem.run_pure, Result.andThen_ok]
  exact this
theorem bC {fn : Func} {Rp : Ending → World → Prop} {e : Exit} (he : e = .ret ∨ e = .normal) {v : Value} (hr : ∀ w, S w0 w H R → (results fn E.toArray).run P w = .ok v w) (hR : ∀ w, S w0 w H R → Rp (.returned v) w) : En w0 [] (bodyPost P fn Rp) e E H R := fun w hs => by
  rcases he with rfl | rfl <;> exact ⟨rfl, v, hr w hs, hR w hs⟩
theorem fV {fn : Func} (h : fn.results = #[]) : ∀ w, S w0 w H R → (results fn E.toArray).run P w = .ok (.tuple #[]) w := fun w _ => by simp [results, h]
theorem dM {fn : Func} {r : ResultVar} {v : Value} (h : fn.results = #[r]) (h1 : RV P w0 E H R r v) : ∀ w, S w0 w H R → (results fn E.toArray).run P w = .ok v w := fun w hs => by
  simp [kF, h, h1 w hs]
theorem jM {fn : Func} {r r' : ResultVar} {v v' : Value} (h : fn.results = #[r, r']) (h1 : RV P w0 E H R r v) (h2 : RV P w0 E H R r' v') : ∀ w, S w0 w H R → (results fn E.toArray).run P w = .ok (.tuple #[v, v']) w := fun w hs => by
  simp [kF, h, h1 w hs, h2 w hs]
theorem z0 {fn : Func} {r r' r2 : ResultVar} {v v' v2 : Value} (h : fn.results = #[r, r', r2]) (h1 : RV P w0 E H R r v) (h2 : RV P w0 E H R r' v') (h3 : RV P w0 E H R r2 v2) : ∀ w, S w0 w H R → (results fn E.toArray).run P w = .ok (.tuple #[v, v', v2]) w := fun w hs => by
  simp [kF, h, h1 w hs, h2 w hs, h3 w hs]
theorem cG {v : Value} {K : Value → List Hp → List MP → Prop} (H' : List Hp) (R' : List MP) (hw : ∀ w, S w0 w H R → S w0 w H' R') (hk : K v H' R') : ∀ w, S w0 w H R → (∃ u H' R', Ending.returned v = .returned u ∧ S w0 w H' R' ∧ K u H' R') := fun w hs => ⟨v, H', R', rfl, hw w hs, hk⟩
theorem rB [Wd F] {dst : Option Tmp} {x : Operand} {ty : TypeId} {pos : String} {aft : Array Edge} {g : Option (Nat × Bool)} (hw : Region.wanted ⟨dst, .panic x, ty, pos, aft, g⟩ (yielded ops E.toArray) = true) {t : TypeId} {v : Value} (hx : ev E x = .iface t v) (h : En w0 D Q (.panic [{ v := .iface t v, recovered := false }]) E H R) :
    T F n P w0 D ops Q (⟨dst, .panic x, ty, pos, aft, g⟩ :: rest) E H R := fun w hs => by
  unfold wpListIn
  rw [if_pos (by simpa [iK] using hw)]
  refine ⟨fZ, ?_⟩
  rw [iQ (by intro c e; cases e)]
  have : (lR E (.panic x) ty).run P w = .halt (.panic (.iface t v)) w := by simp [lR, execOp, hx, Instr.panic]
  rw [this]
  exact h w hs
theorem aN {fn : Func} {Rp : Ending → World → Prop} {ch : List PanicEntry} (hR : ∀ w, S w0 w H R → Rp (.panicked ch) w) : En w0 [] (bodyPost P fn Rp) (.panic ch) E H R := fun w hs => ⟨rfl, hR w hs⟩
end
end Go.Proofs.YtggdljhmbckpmaaGreat
