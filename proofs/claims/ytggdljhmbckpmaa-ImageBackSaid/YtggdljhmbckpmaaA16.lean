/- Calls that may panic; what is deferred, and recovers. -/
import Derived.Test.YtggdljhmbckpmaaA15
import Derived.RecoverIn
import Derived.WideLaws
set_option linter.unusedVariables false
set_option linter.unusedSimpArgs false
namespace Go.Proofs.Ytggdljhmbckpmaa
open Go Go.RowKit
attribute [local semireducible] T TC En PW GW OW CallsK CallsP Sl Rd Ls At S TA
section
variable {P : Program} {w0 : World} {D : List Deferred} {ops : Array Oper} {Q : Exit → Act → World → Prop} {rest : List Oper} {E : List Value} {H : List Hp} {R : List MP}
def RP (w0 : World) (K : Value → List Hp → List MP → Prop) (KP : List PanicEntry → List Hp → List MP → Prop) (e : Ending) (w' : World) : Prop :=
  (∃ v H' R', e = .returned v ∧ S w0 w' H' R' ∧ K v H' R') ∨ (∃ ch H' R', e = .panicked ch ∧ S w0 w' H' R' ∧ KP ch H' R')
theorem fin_R {v : Value} {K : Value → List Hp → List MP → Prop} {KP : List PanicEntry → List Hp → List MP → Prop} (H' : List Hp) (R' : List MP) (hw : ∀ w, S w0 w H R → S w0 w H' R') (hk : K v H' R') : ∀ w, S w0 w H R → (∃ u H' R', Ending.returned v = .returned u ∧ S w0 w H' R' ∧ K u H' R') ∨ (∃ ch H' R', Ending.returned v = .panicked ch ∧ S w0 w H' R' ∧ KP ch H' R') := fun w hs => .inl ⟨v, H', R', rfl, hw w hs, hk⟩
theorem fin_P {ch : List PanicEntry} {K : Value → List Hp → List MP → Prop} {KP : List PanicEntry → List Hp → List MP → Prop} (H' : List Hp) (R' : List MP) (hw : ∀ w, S w0 w H R → S w0 w H' R') (hk : KP ch H' R') : ∀ w, S w0 w H R → (∃ u H' R', Ending.panicked ch = .returned u ∧ S w0 w H' R' ∧ K u H' R') ∨ (∃ ch' H' R', Ending.panicked ch = .panicked ch' ∧ S w0 w H' R' ∧ KP ch' H' R') := fun w hs => .inr ⟨ch, H', R', rfl, hw w hs, hk⟩
theorem CallsP.k {f : FuncId} {args : Array Value} {K : Value → List Hp → List MP → Prop} (h : CallsP P w0 f args H R K (fun _ _ _ => False)) : CallsK P w0 f args H R K := fun w hs => (h w hs).mono (fun e w' he => by
  rcases he with he | ⟨ch, H', R', e1, e2, e3⟩
  · exact he
  · exact e3.elim)
theorem CallsP_mono {f : FuncId} {args : Array Value} {K K' : Value → List Hp → List MP → Prop} {KP KP' : List PanicEntry → List Hp → List MP → Prop} (h : CallsP P w0 f args H R K KP) (h1 : ∀ v H R, K v H R → K' v H R) (h2 : ∀ v H R, KP v H R → KP' v H R) : CallsP P w0 f args H R K' KP' := fun w hs => (h w hs).mono (fun e w' he => by
  rcases he with ⟨v, H', R', e1, e2, e3⟩ | ⟨ch, H', R', e1, e2, e3⟩
  · exact .inl ⟨v, H', R', e1, e2, h1 _ _ _ e3⟩
  · exact .inr ⟨ch, H', R', e1, e2, h2 _ _ _ e3⟩)
/-! ### deferring -/
theorem T_defer {fo : Operand} {f : FuncId} {cap : List Value} {at_ : Array TypeId} {ty : TypeId} {pos : String} {aft : Array Edge} (hf : ev E fo = .func (.func f) #[] cap.toArray) (h : T Fence.wide 9 P w0 (⟨.fn (.func f) cap.toArray, #[]⟩ :: D) ops Q rest E H R) :
    T Fence.wide 9 P w0 D ops Q (⟨none, .defer ⟨.value fo, #[], at_⟩, ty, pos, aft, none⟩ :: rest) E H R := fun w hs => by
  unfold wpListIn
  rw [if_pos (by simp [Region.wanted])]
  refine ⟨about_none, ?_⟩
  have hrun : ((⟨none, .defer ⟨.value fo, #[], at_⟩, ty, pos, aft, none⟩ : Oper).semAt Fence.wide.round (act E D).eval).run P w = .ok (.defer ⟨.fn (.func f) cap.toArray, #[]⟩) w := by
    rw [show Fence.wide.round = none from rfl, Oper.semAt_none, act_eval]
    simp [execOp, resolve, hf, Deferred.ofValue]
  rw [hrun]
  simp only [Oper.uponIn]
  exact h w hs
/-- On the way out, in whatever mode. -/
def LVm (P : Program) (w0 : World) (fn : Func) (K : Value → List Hp → List MP → Prop) (u : FrameMode) (D : List Deferred) (E : List Value) (H : List Hp) (R : List MP) : Prop :=
  ∀ w, S w0 w H R → LeavesInM Fence.wide 9 P fn E.toArray (fun e w' => ∃ v H' R', e = .returned v ∧ S w0 w' H' R' ∧ K v H' R') D u w
theorem En_leave_panic {fn : Func} {K : Value → List Hp → List MP → Prop} {ch : List PanicEntry} (h : LVm P w0 fn K (.panicking ch) D E H R) : En w0 D (bodyPostM Fence.wide 9 P fn (fun e w' => ∃ v H' R', e = .returned v ∧ S w0 w' H' R' ∧ K v H' R')) (.panic ch) E H R := fun w hs => h w hs
theorem En_leave_ret {fn : Func} {K : Value → List Hp → List MP → Prop} {e : Exit} (he : e = .ret ∨ e = .normal) (h : LVm P w0 fn K .returning D E H R) : En w0 D (bodyPostM Fence.wide 9 P fn (fun e w' => ∃ v H' R', e = .returned v ∧ S w0 w' H' R' ∧ K v H' R')) e E H R := fun w hs => by
  rcases he with rfl | rfl <;> exact h w hs
theorem LVm_nil {fn : Func} {K : Value → List Hp → List MP → Prop} {v : Value} (hr : ∀ w, S w0 w H R → (results fn E.toArray).run P w = .ok v w) (H' : List Hp) (R' : List MP) (hw : ∀ w, S w0 w H R → S w0 w H' R') (hk : K v H' R') : LVm P w0 fn K .returning [] E H R := fun w hs =>
  ⟨v, hr w hs, v, H', R', rfl, hw w hs, hk⟩
/-- What the deferred function's own body must lead to: the outer one leaves by what is deferred still. -/
def DPost (P : Program) (w0 : World) (fn : Func) (K : Value → List Hp → List MP → Prop) (D : List Deferred) (E : List Value) : Exit → Act → World → Prop :=
  fun e a w => (e = .normal ∨ e = .ret) ∧ a.defers = [] ∧ LeavesInM Fence.wide 9 P fn E.toArray (fun e w' => ∃ v H' R', e = .returned v ∧ S w0 w' H' R' ∧ K v H' R') D .returning w
theorem En_dpost {fn : Func} {K : Value → List Hp → List MP → Prop} {ds : List Deferred} {E' : List Value} {e : Exit} (he : e = .normal ∨ e = .ret) (h : LVm P w0 fn K .returning ds E' H R) : En w0 [] (DPost P w0 fn K ds E') e E H R := fun w hs => ⟨he, rfl, h w hs⟩
theorem hQ_dpost {fn : Func} {ds : List Deferred} {K : Value → List Hp → List MP → Prop} {E' : List Value} {p : Tmp → Prop} (c : List PanicEntry) (E : List Value) (e : Tmp) (v : Value) (w : World) (_ : p e) (h : DPost P w0 fn K ds E' (.panic c) (act (setD E (some e) v) []) w) : DPost P w0 fn K ds E' (.panic c) (act E []) w := by
  rcases h.1 with e | e <;> cases e
/-- What recover gives in a mode. -/
def recV : FrameMode → Option Value
  | .returning => some .nilIface
  | .panicking [{ v, recovered := false, goexit := false }] => some v
  | _ => none
theorem LVm_rec {fn fd : Func} {K : Value → List Hp → List MP → Prop} {u : FrameMode} {x : Value} {f : FuncId} {c : Code} {cap : List Value} {ds : List Deferred} {d : Tmp} {m id : Nat} {at_ : Array TypeId} {ty : TypeId} {pos : String} {aft : Array Edge} [FnOk P f]
    (hf : P.funcs[f]? = some fd) (hb : fd.body = some (.seq (.region id #[⟨some d, .call ⟨.builtin .recover, #[], at_⟩, ty, pos, aft, none⟩] false) c)) (hres : fd.results = #[]) (hn : fd.ntmps = m) {E2 : List Value} (hu : recV u = some x)
    (hE : setD (cap ++ List.replicate (m - cap.length) undef) (some d) x = E2)
    (h : TC Fence.wide 8 P w0 [] c (DPost P w0 fn K ds E) E2 H R) : LVm P w0 fn K u (⟨.fn (.func f) cap.toArray, #[]⟩ :: ds) E H R := fun w hs => by
  have hurun : u ≠ .run := fun e => by subst e; simp [recV] at hu
  refine ⟨hurun, .inr ⟨fun _ => (by decide), .func f, cap.toArray, f, cap.toArray, rfl, ?_, fun _ _ => trivial, ?_⟩⟩
  · simp [invoke, FnOk.run]
  refine callsDIn_of_wpSIn hf hb trivial (fun c₀ cs hc₀ => ?_)
  refine wpSIn_seq (wpSIn_region ?_)
  have hE' : cap.toArray ++ Array.replicate (fd.ntmps - cap.toArray.size) undef = (cap ++ List.replicate (m - cap.length) undef).toArray := by rw [hn]; simp
  rw [hE']
  simp only [List.size_toArray, List.length_cons, List.length_nil, Nat.zero_add, List.range_succ, List.range_zero, List.nil_append, wpOpsSIn, List.getElem?_toArray, List.getElem?_cons_zero]
  refine ⟨fun _ _ => trivial, ?_⟩
  rw [if_pos (by simp [Region.wanted])]
  have hrun : ∀ a : Act, (execOp a.eval ⟨some d, .call ⟨.builtin .recover, #[], at_⟩, ty, pos, aft, none⟩).run P w = .ok .recover w := fun a => by
    simp [execOp, resolve, invoke, builtin]
  rw [hrun]
  simp only
  have hput : ((⟨(cap ++ List.replicate (m - cap.length) undef).toArray, []⟩ : Act).put (some d) x) = act E2 [] := by
    have := act_put (cap ++ List.replicate (m - cap.length) undef) [] (some d) x
    rw [hE] at this
    exact this
  have key : ∀ (c₁ : Frame) (u' : FrameMode), c₁ = { c₀ with mode := u' } → settle u' = .returning → c.wpSIn Fence.wide 8 P (bodyPostS P fd c₀ cs (fun e u' w' => match e with
        | .returned _ => LeavesInM Fence.wide 9 P fn E.toArray (fun e w' => ∃ v H' R', e = .returned v ∧ S w0 w' H' R' ∧ K v H' R') ds (settle u') w'
        | .panicked chain => LeavesInM Fence.wide 9 P fn E.toArray (fun e w' => ∃ v H' R', e = .returned v ∧ S w0 w' H' R' ∧ K v H' R') ds (raised u' chain) w'
        | .outgrown => ∃ v H' R', Ending.outgrown = .returned v ∧ S w0 w' H' R' ∧ K v H' R')) (act E2 []) (c₁ :: cs) w := fun c₁ u' hc hset => by
    refine wpSIn_of_wpIn rfl (wpIn_mono (h w hs) ?_)
    rintro e a' w' ⟨he, hd, hl⟩
    have hr : (results fd a'.tmps).run P w' = .ok (.tuple #[]) w' := by simp [results, hres]
    rcases he with rfl | rfl
    · exact ⟨hd, u', by rw [hc], _, hr, by simp only [hset]; exact hl⟩
    · exact ⟨hd, u', by rw [hc], _, hr, by simp only [hset]; exact hl⟩
  unfold recV at hu
  split at hu
  · cases hu
    have hrec : recoverD (c₀ :: cs) = none := by simp [recoverD, hc₀]
    rw [hrec]
    simp only
    rw [hput]
    exact key c₀ .returning (by rw [← hc₀]) rfl
  · rename_i v
    cases hu
    have hrec : recoverD (c₀ :: cs) = some (x, { c₀ with mode := .panicking [{ v := x, recovered := true }] } :: cs) := by simp [recoverD, hc₀]
    rw [hrec]
    simp only
    rw [hput]
    exact key _ _ rfl (by simp [settle])
  · cases hu
end
section
variable {P : Program} {w0 : World} {E : List Value} {H : List Hp} {R : List MP} {ty : TypeId} {K : Value → List MP → Prop}
class TyI (P : Program) (t : TypeId) : Prop where
  und : P.underlying t = some (.interface (P.methodsAt t))
theorem pw_eqnil_held {t t' : TypeId} {x y : Operand} {u : TypeId} {v : Value} [h : TyI P t] (hx : ev E x = .iface u v) (hy : ev E y = .nilIface) (kk : K (.bool false) R) : PW P w0 E (.binOp .eql t x y t') ty H R K :=
  pw_val rfl (fun w _ => by
    have hg : (eqGuard .eql t x y (.iface u v) .nilIface).run P w = .ok () w := by cases x <;> cases y <;> rfl
    rw [hx, hy]; simp only [Sem.run_bind, hg, Result.andThen_ok, run_eql_held_nil w t u v h.und]) kk
theorem pw_eqnil_nil {t t' : TypeId} {x : Operand} [h : TyI P t] (hx : ev E x = .nilIface) (kk : K (.bool true) R) : PW P w0 E (.binOp .eql t x (.const .nilIface) t') ty H R K :=
  pw_val rfl (fun w _ => by
    have hg : (eqGuard .eql t x (.const .nilIface) .nilIface .nilIface).run P w = .ok () w := by cases x <;> rfl
    have hy : ev E (.const .nilIface) = .nilIface := rfl
    rw [hx, hy]; simp only [Sem.run_bind, hg, Result.andThen_ok, run_eql_nil_nil w t h.und]) kk
theorem pw_assert_yes {x : Operand} {t a : TypeId} {v : Value} {d : TypeDesc} [h : TyU P a d] (hd : (match d with | .interface _ => false | _ => true) = true) (hx : ev E x = .iface a v) (kk : K (.tuple #[v, .bool true]) R) : PW P w0 E (.typeAssert x t a true) ty H R K :=
  pw_val rfl (fun w _ => by
    rw [hx]
    unfold Instr.typeAssert
    simp only [Sem.run_bind, run_underlying h.und, Result.andThen_ok]
    cases d <;> simp at hd ⊢) kk
end
/-! ### what is returned does not lean on a region's slots -/
def rslots (fn : Func) : List Nat := fn.results.toList.map (fun | .tmp t => t | .cell a _ => a)
theorem results_set {fn : Func} {E : List Value} {e : Nat} {v : Value} (h : e ∉ rslots fn) : results fn (E.set e v).toArray = results fn E.toArray := by
  rw [results_eq, results_eq]
  have key : ∀ (l : List ResultVar), (∀ r ∈ l, (match r with | .tmp t => t | .cell a _ => a) ≠ e) → l.mapM (rvS (E.set e v).toArray) = l.mapM (rvS E.toArray) := by
    intro l
    induction l with
    | nil => intro _; rfl
    | cons r l ih =>
      intro hl
      have h1 : rvS (E.set e v).toArray r = rvS E.toArray r := by
        have := hl r (by simp)
        cases r with
        | tmp t => simp only at this; simp [rvS, List.getElem?_set_ne (Ne.symm this)]
        | cell a t => simp only at this; simp [rvS, List.getElem?_set_ne (Ne.symm this)]
      simp only [List.mapM_cons, h1, ih (fun r hr => hl r (List.mem_cons_of_mem _ hr))]
  have := key fn.results.toList (fun r hr he => h (by
    unfold rslots
    exact List.mem_map.2 ⟨r, hr, he⟩))
  rw [Array.mapM_eq_mapM_toList, Array.mapM_eq_mapM_toList, this]
theorem leavesIn_tmps {F : Fence} {n : Nat} {P : Program} {fn : Func} {Rp : Ending → World → Prop} {t t' : Array Value} (h : results fn t = results fn t') : ∀ (ds : List Deferred) (u : FrameMode) (w : World), LeavesIn F n P fn t Rp ds u w → LeavesIn F n P fn t' Rp ds u w
  | [], .returning, w, hl => by
    obtain ⟨v, h1, h2⟩ := hl
    exact ⟨v, by rw [← h]; exact h1, h2⟩
  | [], .panicking c, w, hl => hl
  | [], .run, w, hl => hl
  | d :: ds, u, w, hl => by
    obtain ⟨h1, h2, fv, cap, f, args, e1, e2, e3, h4⟩ := hl
    refine ⟨h1, h2, fv, cap, f, args, e1, e2, e3, h4.mono ?_⟩
    intro e u' w' hh
    cases e with
    | returned v => exact leavesIn_tmps h ds _ _ hh
    | panicked c => exact leavesIn_tmps h ds _ _ hh
    | outgrown => exact hh
theorem leavesInM_tmps {F : Fence} {n : Nat} {P : Program} {fn : Func} {Rp : Ending → World → Prop} {t t' : Array Value} (h : results fn t = results fn t') : ∀ (ds : List Deferred) (u : FrameMode) (w : World), LeavesInM F n P fn t Rp ds u w → LeavesInM F n P fn t' Rp ds u w
  | [], u, w, hl => leavesIn_tmps h [] u w hl
  | d :: ds, u, w, hl => by
    obtain ⟨h1, h2⟩ := hl
    refine ⟨h1, ?_⟩
    rcases h2 with ⟨r, w', e1, e2, e3⟩ | ⟨hn, fv, cap, f, args, e1, e2, e3, h4⟩
    · exact .inl ⟨r, w', e1, e2, leavesInM_tmps h ds _ _ e3⟩
    · refine .inr ⟨hn, fv, cap, f, args, e1, e2, e3, h4.mono ?_⟩
      intro e u' w' hh
      cases e with
      | returned v => exact leavesInM_tmps h ds _ _ hh
      | panicked c => exact leavesInM_tmps h ds _ _ hh
      | outgrown => exact hh
/-- For a region of a body that recovers. -/
theorem hQ_rec {P : Program} {fn : Func} {ops : Array Oper} {Rp : Ending → World → Prop} {D : List Deferred} (hr : (ops.all fun o => (rslots fn).all fun r => !(o.dst == some r)) = true) (c : List PanicEntry) (E : List Value) (e : Tmp) (v : Value) (w : World) (hd : isDst ops e = true)
    (h : bodyPostM Fence.wide 9 P fn Rp (.panic c) (act (setD E (some e) v) D) w) : bodyPostM Fence.wide 9 P fn Rp (.panic c) (act E D) w := by
  refine leavesInM_tmps (results_set (v := v) (fun hm => ?_)) D _ w h
  unfold isDst at hd
  obtain ⟨o, ho, hoe⟩ := Array.any_eq_true'.1 hd
  have h1 := Array.all_eq_true'.1 hr o ho
  have h2 := List.all_eq_true.1 h1 e hm
  rw [hoe] at h2
  cases h2
attribute [irreducible] LVm
end Go.Proofs.Ytggdljhmbckpmaa
