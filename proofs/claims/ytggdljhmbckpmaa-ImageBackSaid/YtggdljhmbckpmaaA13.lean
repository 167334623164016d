/- A range over a function; functions that defer. -/
import Derived.Test.YtggdljhmbckpmaaAM
set_option linter.unusedVariables false
set_option linter.unusedSimpArgs false
namespace Go.Proofs.Ytggdljhmbckpmaa
open Go Go.RowKit
attribute [local semireducible] T TC En PW GW OW CallsK CallsP Sl Rd Ls At S TA
section
variable {P : Program} {w0 : World} {H : List Hp} {R : List MP}
theorem S.putObj {w : World} {i b : Nat} {x : Obj} (h : S w0 w H R) (hi : H[i]? = some (.obj b x)) (y : Obj) : S w0 (w.putObj b y) (H.set i (.obj b y)) R :=
  h.set_obj hi y (fun k hk => World.putObj_heap_other hk) (fun hb => World.putObj_heap_same hb) World.putObj_size rfl rfl rfl
end

/-- A call of a loop's yield. -/
def YK (P : Program) (w0 : World) (l : Nat) (v : Value) (H : List Hp) (R : List MP) (K : Value → List Hp → List MP → Prop) : Prop :=
  ∀ w, S w0 w H R → YieldAt Fence.wide 8 P l #[v] w (fun e w' => ∃ v H' R', e = .returned v ∧ S w0 w' H' R' ∧ K v H' R')
section
variable {P : Program} {w0 : World} {D : List Deferred} {ops : Array Oper} {Q : Exit → Act → World → Prop} {rest : List Oper} {E : List Value} {H : List Hp} {R : List MP}
theorem ow_yield {dst : Option Tmp} {fo : Operand} {x : Operand} {at_ : Array TypeId} {ty : TypeId} {pos : String} {aft : Array Edge} {g : Option (Nat × Bool)} {K : Value → List Hp → List MP → Prop} {l : Nat} {v : Value}
    (hf : ev E fo = .func (.yield l) #[] #[]) (hx : ev E x = v) (h : YK P w0 l v H R K) : OW Fence.wide 9 P w0 D Q ⟨dst, .call ⟨.value fo, #[x], at_⟩, ty, pos, aft, g⟩ E H R K := fun w hs => by
  refine ⟨about_none, ?_⟩
  rw [sem_of_op (by intro c e; cases e)]
  obtain ⟨fn, tmps, assign, body, hy, hr⟩ := h w hs
  have hrun : (xop E (.call ⟨.value fo, #[x], at_⟩) ty).run P w = .ok (.round l fn tmps assign body) w := by
    simp only [xop, execOp, resolve, hf, Deferred.ofValue, invoke, Sem.run_bind, Sem.run_pure, Result.andThen_ok, List.map_toArray, List.map_cons, List.map_nil, hx]
    simpa using hy
  simp only [hrun, Oper.uponIn]
  refine ⟨fun h => (by cases h), hr.mono ?_⟩
  rintro e w' ⟨u, H', R', rfl, hs', k⟩
  exact ⟨u, H', R', by rw [act_put], hs', k⟩
theorem En_begin {F : Fence} {n l i : Nat} {rec : Loop} {body : Code} {Rp : Ending → World → Prop} (hi : H[i]? = some (.obj l (.loop rec))) (hr : rec.state = .ready)
    (h : TC F n P w0 D body (roundPost P l Rp) E (H.set i (.obj l (.loop { rec with state := .busy }))) R) :
    En w0 D (Exit.then (fun a₁ w₁ => ∃ w₂, (Instr.beginRound l).run P w₁ = .ok () w₂ ∧ body.wpIn F n P (roundPost P l Rp) a₁ w₂) (fun _ _ _ => False)) .normal E H R := fun w hs =>
  ⟨_, run_beginRound (hs.obj_heap hi) hr, h _ (hs.putObj hi _)⟩
theorem En_endRound {l i : Nat} {rec rec' : Loop} {K : Value → List Hp → List MP → Prop} (hi : H[i]? = some (.obj l (.loop rec))) (he : { rec with state := .ready, pending := none } = rec') (H' : List Hp) (R' : List MP) (hw : ∀ w, S w0 w (H.set i (.obj l (.loop rec'))) R → S w0 w H' R') (hK : K (.bool true) H' R') :
    En w0 D (roundPost P l (fun e w' => ∃ v H' R', e = .returned v ∧ S w0 w' H' R' ∧ K v H' R')) .normal E H R := fun w hs => by
  subst he
  exact ⟨_, _, run_endRound none (hs.obj_heap hi), _, H', R', rfl, hw _ (hs.putObj hi _), hK⟩
theorem yk_round {l i : Nat} {rec : Loop} {t : Tmp} {v : Value} {K : Value → List Hp → List MP → Prop} (hi : H[i]? = some (.obj l (.loop rec))) (hp : rec.params = #[t]) {E : List Value} (hE : rec.tmps.setIfInBounds t v = E.toArray)
    (h : TC (Fence.wide.inRound l) 8 P w0 [] rec.assign (Exit.then (fun a₁ w₁ => ∃ w₂, (Instr.beginRound l).run P w₁ = .ok () w₂ ∧ rec.body.wpIn (Fence.wide.inRound l) 8 P (roundPost P l (fun e w' => ∃ v H' R', e = .returned v ∧ S w0 w' H' R' ∧ K v H' R')) a₁ w₂) (fun _ _ _ => False)) E H R) : YK P w0 l v H R K := fun w hs => by
  refine ⟨_, _, _, _, run_yield (hs.obj_heap hi) (by rw [hp]; rfl), roundIn_of_wpIn trivial ?_⟩
  have := h w hs
  have e : (rec.params.zip #[v]).foldl (fun tmps (x : Tmp × Value) => tmps.setIfInBounds x.1 x.2) rec.tmps = E.toArray := by rw [hp, ← hE]; simp
  rw [e]; exact this

/-- The statement: whatever is returned, the record is not busy and no jump is pending. -/
theorem TC_rangeFunc {g : Operand} {ps : Array Tmp} {assign body : Code} {gf : Nat} {lb : List Value} [FnOk P gf] (hg : ev E g = .func (.func gf) #[] lb.toArray)
    (h : ∀ l d fn, CallsK P w0 gf (.func (.yield l) #[] #[] :: lb).toArray (.obj l (.loop { state := .ready, pending := none, fn := fn, tmps := E.toArray, params := ps, assign, body, defers := d }) :: .obj d (.deferred (some [])) :: H) R
      (fun v H' R' => ∃ i rec, H'[i]? = some (.obj l (.loop rec)) ∧ rec.state = .ready ∧ rec.pending = none ∧ En w0 (⟨.collected d, #[]⟩ :: D) Q .normal E (H'.set i (.obj l (.loop { rec with state := .exhausted }))) R')) :
    TC Fence.wide 9 P w0 D (.rangeFunc g ps assign body) Q E H R := fun w hs => by
  refine wpIn_rangeFunc fun fn hfn => ?_
  have hs1 := (hs.alloc_obj (.deferred (some []))).alloc_obj (.loop { state := .ready, pending := none, fn := fn, tmps := E.toArray, params := ps, assign, body, defers := w.heap.size })
  have e1 : (w.alloc (.deferred (some []))).heap.size = w.heap.size + 1 := World.size_alloc _ _
  rw [e1] at hs1
  have hev : (act E D).eval g = .func (.func gf) #[] lb.toArray := by rw [act_eval]; exact hg
  generalize hW : (w.alloc (.deferred (some []))).alloc (.loop { state := .ready, pending := none, fn := fn, tmps := E.toArray, params := ps, assign, body, defers := w.heap.size }) = W1 at hs1
  have hc := (callsIn_wide (n := 9 - 1)).2 (h _ _ fn W1 hs1)
  refine ⟨w.heap.size + 1, [{ target := .collected w.heap.size, args := #[] }], W1, ⟨.fn (.func gf) lb.toArray, #[.func (.yield (w.heap.size + 1)) #[] #[]]⟩, W1, gf, (.func (.yield (w.heap.size + 1)) #[] #[] :: lb).toArray, W1, ?_, ?_, ?_, ?_, fun _ => (by decide), hc.mono ?_⟩
  · rw [← hW]; exact run_enterLoop_outer _ _ _ _ _
  · simp only [resolve, hev]
    simp [Deferred.ofValue, Act.eval]
  · intro f' _; trivial
  · simp [invoke, FnOk.run]
  · rintro e w' ⟨v, H', R', rfl, hs', i, rec, hi, hr, hp, hk⟩
    refine ⟨_, _, run_endLoop (hs'.obj_heap hi) (by rw [hr]; simp), ?_⟩
    cases rec
    cases hp
    exact hk _ (hs'.putObj hi _)

theorem S.rot3 {w : World} {a b c : Hp} (h : S w0 w (a :: b :: c :: H) R) : S w0 w (b :: c :: a :: H) R :=
  h.perm ((List.Perm.swap b a (c :: H)).trans ((List.Perm.swap c a H).cons b))
/-! ### on the way out -/
def LV (P : Program) (w0 : World) (fn : Func) (K : Value → List Hp → List MP → Prop) (D : List Deferred) (E : List Value) (H : List Hp) (R : List MP) : Prop :=
  ∀ w, S w0 w H R → LeavesInM Fence.wide 9 P fn E.toArray (fun e w' => ∃ v H' R', e = .returned v ∧ S w0 w' H' R' ∧ K v H' R') D .returning w
theorem LV_nil {fn : Func} {K : Value → List Hp → List MP → Prop} {v : Value} (hr : ∀ w, S w0 w H R → (results fn E.toArray).run P w = .ok v w) (H' : List Hp) (R' : List MP) (hw : ∀ w, S w0 w H R → S w0 w H' R') (hk : K v H' R') : LV P w0 fn K [] E H R := fun w hs =>
  ⟨v, hr w hs, v, H', R', rfl, hw w hs, hk⟩
theorem LV_mark {fn : Func} {K : Value → List Hp → List MP → Prop} {i d : Nat} {ds : List Deferred} (hi : H[i]? = some (.obj d (.deferred (some [])))) (h : LV P w0 fn K ds E (H.set i (.obj d (.deferred none))) R) : LV P w0 fn K (⟨.collected d, #[]⟩ :: ds) E H R := fun w hs =>
  ⟨by simp, .inl ⟨d, _, rfl, run_takeDeferred (hs.obj_heap hi), h _ (hs.putObj hi _)⟩⟩
theorem En_leave {fn : Func} {K : Value → List Hp → List MP → Prop} {e : Exit} (he : e = .ret ∨ e = .normal) (h : LV P w0 fn K D E H R) : En w0 D (bodyPostM Fence.wide 9 P fn (fun e w' => ∃ v H' R', e = .returned v ∧ S w0 w' H' R' ∧ K v H' R')) e E H R := fun w hs => by
  rcases he with rfl | rfl <;> exact h w hs
theorem callsM_of {f : FuncId} {fn : Func} {c : Code} {A : List Value} {m : Nat} {K : Value → List Hp → List MP → Prop} (hf : P.funcs[f]? = some fn) (hb : fn.body = some c) (hn : fn.ntmps = m) {E : List Value}
    (hE : A ++ List.replicate (m - A.length) undef = E)
    (h : TC Fence.wide 9 P w0 [] c (bodyPostM Fence.wide 9 P fn (fun e w' => ∃ v H' R', e = .returned v ∧ S w0 w' H' R' ∧ K v H' R')) E H R) : CallsK P w0 f A.toArray H R K := fun w hs => by
  refine callsIn_wide.1 (callsIn_of_wp_marks (F := Fence.wide) (n := 9) hf hb trivial ?_)
  have : A.toArray ++ Array.replicate (fn.ntmps - A.toArray.size) undef = E.toArray := by rw [← hE, hn]; simp
  rw [this]; exact h w hs

/-! ### loops that turn what is deferred -/
def BackD (w0 : World) (I : Nat → List Deferred → List Value → List Hp → List MP → Prop) (m : Nat) : Act → World → Prop :=
  fun a w => ∃ k, k < m ∧ ∃ D E H R, a = act E D ∧ S w0 w H R ∧ I k D E H R
theorem TC_loopD {F : Fence} {n : Nat} {c : Code} (I : Nat → List Deferred → List Value → List Hp → List MP → Prop) (m : Nat) (h0 : I m D E H R)
    (round : ∀ m D E H R, I m D E H R → TC F n P w0 D c (Exit.then (BackD w0 I m) Q) E H R) : TC F n P w0 D (.loop c) Q E H R := by
  intro w hs
  refine wpIn_loop_ghost (fun m a w => ∃ D E H R, a = act E D ∧ S w0 w H R ∧ I m D E H R) m ⟨D, E, H, R, rfl, hs, h0⟩ ?_
  rintro m a w ⟨D, E, H, R, rfl, hs, hI⟩
  refine wpIn_mono (round m D E H R hI w hs) ?_
  intro e a' w' hq
  cases e with
  | normal =>
    obtain ⟨k, hk, D', E', H', R', e1, e2, e3⟩ := hq
    exact ⟨k, hk, D', E', H', R', e1, e2, e3⟩
  | _ => exact hq
theorem En_backD {I : Nat → List Deferred → List Value → List Hp → List MP → Prop} {m : Nat} (k : Nat) (hk : k < m) (H' : List Hp) (R' : List MP) (hI : I k D E H' R') (hw : ∀ w, S w0 w H R → S w0 w H' R') :
    En w0 D (Exit.then (BackD w0 I m) Q) .normal E H R := fun w hs => ⟨k, hk, D, E, H', R', rfl, hw w hs, hI⟩
def BackSD (w0 : World) (E0 : List Value) (js : List Nat) (I : Nat → List Deferred → (Nat → Value) → List Hp → List MP → Prop) (m : Nat) : Act → World → Prop :=
  fun a w => ∃ k, k < m ∧ ∃ D j H R, a = act (setJ E0 js j) D ∧ S w0 w H R ∧ I k D j H R
theorem TC_loopSD {F : Fence} {n : Nat} {c : Code} (js : List Nat) (I : Nat → List Deferred → (Nat → Value) → List Hp → List MP → Prop) (m : Nat) (he : setJ E js (fun i => E.getD i undef) = E) (h0 : I m D (fun i => E.getD i undef) H R)
    (round : ∀ m D j H R, I m D j H R → TC F n P w0 D c (Exit.then (BackSD w0 E js I m) Q) (setJ E js j) H R) : TC F n P w0 D (.loop c) Q E H R := by
  refine TC_loopD (fun m D' E' H' R' => ∃ j, E' = setJ E js j ∧ I m D' j H' R') m ⟨_, he.symm, h0⟩ ?_
  rintro m D' E' H' R' ⟨j, rfl, hI⟩
  refine TC_mono (round m D' j H' R' hI) ?_
  intro e a w hq
  cases e with
  | normal =>
    obtain ⟨k, hk, D2, j', H2, R2, e1, e2, e3⟩ := hq
    exact ⟨k, hk, D2, setJ E js j', H2, R2, e1, e2, j', rfl, e3⟩
  | _ => exact hq
theorem En_backSD {E0 : List Value} {js : List Nat} {I : Nat → List Deferred → (Nat → Value) → List Hp → List MP → Prop} {m : Nat} (k : Nat) (H' : List Hp) (R' : List MP) (hk : k < m) (hE : setJ E0 js (fun i => E.getD i undef) = E) (hI : I k D (fun i => E.getD i undef) H' R') (hw : ∀ w, S w0 w H R → S w0 w H' R') :
    En w0 D (Exit.then (BackSD w0 E0 js I m) Q) .normal E H R := fun w hs => ⟨k, hk, D, _, H', R', by rw [hE], hw w hs, hI⟩
theorem YK_weaken {l : Nat} {v : Value} {K : Value → List Hp → List MP → Prop} (H' : List Hp) (R' : List MP) (hw : ∀ w, S w0 w H R → S w0 w H' R') (h : YK P w0 l v H' R' K) : YK P w0 l v H R K := fun w hs => h w (hw w hs)
theorem YK_mono {l : Nat} {v : Value} {K K' : Value → List Hp → List MP → Prop} (h : YK P w0 l v H R K) (hk : ∀ v H R, K v H R → K' v H R) : YK P w0 l v H R K' := fun w hs => by
  obtain ⟨fn, tmps, assign, body, hy, hr⟩ := h w hs
  exact ⟨fn, tmps, assign, body, hy, hr.mono fun e w' ⟨u, H', R', e1, e2, e3⟩ => ⟨u, H', R', e1, e2, hk _ _ _ e3⟩⟩
/-- An owned block stays. -/
theorem T_freeze {F : Fence} {n : Nat} (i : Nat) {b : Nat} {cs : List Value} {T' : TypeId} (hi : H[i]? = some (.blk b cs T')) (k : T F n P w0 D ops Q rest E (H.eraseIdx i) (At b 0 cs :: R)) : T F n P w0 D ops Q rest E H R := fun w hs => k w (hs.freeze hi)
theorem TC_freeze {F : Fence} {n : Nat} {c : Code} (i : Nat) {b : Nat} {cs : List Value} {T' : TypeId} (hi : H[i]? = some (.blk b cs T')) (k : TC F n P w0 D c Q E (H.eraseIdx i) (At b 0 cs :: R)) : TC F n P w0 D c Q E H R := fun w hs => k w (hs.freeze hi)
end
attribute [irreducible] YK LV
end Go.Proofs.Ytggdljhmbckpmaa
