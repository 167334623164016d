/- A range over a function; functions that defer. Calls that are lent what is owned; loops round by round. The bytes of a record: walks. -/
import Derived.Test.YtggdljhmbckpmaaA9J
import Derived.LoopNIn
import Derived.Test.YtggdljhmbckpmaaF4J
set_option linter.unusedVariables false
set_option linter.unusedSimpArgs false
namespace Go.Proofs.Ytggdljhmbckpmaa
open Go Go.RowKit
attribute [local semireducible] T TC En PW GW OW CallsK CallsP Sl Rd Ls At S TA
section
variable {P : Program} {w0 : World} {H : List Hp} {R : List MP}
theorem S.putObj {w : World} {i b : Nat} {x : Obj} (h : S w0 w H R) (hi : H[i]? = some (.obj b x)) (y : Obj) : S w0 (w.putObj b y) (H.set i (.obj b y)) R :=
  h.set_obj hi y (fun k hk => World.putObj_heap_other hk) (fun hb => World.putObj_heap_same hb) World.putObj_size rfl rfl rfl
end

/-- A call of a loop's yield. -/
def YK (P : Program) (w0 : World) (l : Nat) (v : Value) (H : List Hp) (R : List MP) (K : Value → List Hp → List MP → Prop) : Prop :=
  ∀ w, S w0 w H R → YieldAt Fence.wide 8 P l #[v] w (fun e w' => ∃ v H' R', e = .returned v ∧ S w0 w' H' R' ∧ K v H' R')
section
variable {P : Program} {w0 : World} {D : List Deferred} {ops : Array Oper} {Q : Exit → Act → World → Prop} {rest : List Oper} {E : List Value} {H : List Hp} {R : List MP}
theorem ow_yield {dst : Option Tmp} {fo : Operand} {x : Operand} {at_ : Array TypeId} {ty : TypeId} {pos : String} {aft : Array Edge} {g : Option (Nat × Bool)} {K : Value → List Hp → List MP → Prop} {l : Nat} {v : Value}
    (hf : ev E fo = .func (.yield l) #[] #[]) (hx : ev E x = v) (h : YK P w0 l v H R K) : OW Fence.wide 9 P w0 D Q ⟨dst, .call ⟨.value fo, #[x], at_⟩, ty, pos, aft, g⟩ E H R K := fun w hs => by
  refine ⟨about_none, ?_⟩
  rw [sem_of_op (by intro c e; cases e)]
  obtain ⟨fn, tmps, assign, body, hy, hr⟩ := h w hs
  have hrun : (xop E (.call ⟨.value fo, #[x], at_⟩) ty).run P w = .ok (.round l fn tmps assign body) w := by
    simp only [xop, execOp, resolve, hf, Deferred.ofValue, invoke, Sem.run_bind, Sem.run_pure, Result.andThen_ok, List.map_toArray, List.map_cons, List.map_nil, hx]
    simpa using hy
  simp only [hrun, Oper.uponIn]
  refine ⟨fun h => (by cases h), hr.mono ?_⟩
  rintro e w' ⟨u, H', R', rfl, hs', k⟩
  exact ⟨u, H', R', by rw [act_put], hs', k⟩
theorem En_begin {F : Fence} {n l i : Nat} {rec : Loop} {body : Code} {Rp : Ending → World → Prop} (hi : H[i]? = some (.obj l (.loop rec))) (hr : rec.state = .ready)
    (h : TC F n P w0 D body (roundPost P l Rp) E (H.set i (.obj l (.loop { rec with state := .busy }))) R) :
    En w0 D (Exit.then (fun a₁ w₁ => ∃ w₂, (Instr.beginRound l).run P w₁ = .ok () w₂ ∧ body.wpIn F n P (roundPost P l Rp) a₁ w₂) (fun _ _ _ => False)) .normal E H R := fun w hs =>
  ⟨_, run_beginRound (hs.obj_heap hi) hr, h _ (hs.putObj hi _)⟩
theorem En_endRound {l i : Nat} {rec rec' : Loop} {K : Value → List Hp → List MP → Prop} (hi : H[i]? = some (.obj l (.loop rec))) (he : { rec with state := .ready, pending := none } = rec') (H' : List Hp) (R' : List MP) (hw : ∀ w, S w0 w (H.set i (.obj l (.loop rec'))) R → S w0 w H' R') (hK : K (.bool true) H' R') :
    En w0 D (roundPost P l (fun e w' => ∃ v H' R', e = .returned v ∧ S w0 w' H' R' ∧ K v H' R')) .normal E H R := fun w hs => by
  subst he
  exact ⟨_, _, run_endRound none (hs.obj_heap hi), _, H', R', rfl, hw _ (hs.putObj hi _), hK⟩
theorem yk_round {l i : Nat} {rec : Loop} {t : Tmp} {v : Value} {K : Value → List Hp → List MP → Prop} (hi : H[i]? = some (.obj l (.loop rec))) (hp : rec.params = #[t]) {E : List Value} (hE : rec.tmps.setIfInBounds t v = E.toArray)
    (h : TC (Fence.wide.inRound l) 8 P w0 [] rec.assign (Exit.then (fun a₁ w₁ => ∃ w₂, (Instr.beginRound l).run P w₁ = .ok () w₂ ∧ rec.body.wpIn (Fence.wide.inRound l) 8 P (roundPost P l (fun e w' => ∃ v H' R', e = .returned v ∧ S w0 w' H' R' ∧ K v H' R')) a₁ w₂) (fun _ _ _ => False)) E H R) : YK P w0 l v H R K := fun w hs => by
  refine ⟨_, _, _, _, run_yield (hs.obj_heap hi) (by rw [hp]; rfl), roundIn_of_wpIn trivial ?_⟩
  have := h w hs
  have e : (rec.params.zip #[v]).foldl (fun tmps (x : Tmp × Value) => tmps.setIfInBounds x.1 x.2) rec.tmps = E.toArray := by rw [hp, ← hE]; simp
  rw [e]; exact this

/-- The statement: whatever is returned, the record is not busy and no jump is pending. -/
theorem TC_rangeFunc {g : Operand} {ps : Array Tmp} {assign body : Code} {gf : Nat} {lb : List Value} [FnOk P gf] (hg : ev E g = .func (.func gf) #[] lb.toArray)
    (h : ∀ l d fn, CallsK P w0 gf (.func (.yield l) #[] #[] :: lb).toArray (.obj l (.loop { state := .ready, pending := none, fn := fn, tmps := E.toArray, params := ps, assign, body, defers := d }) :: .obj d (.deferred (some [])) :: H) R
      (fun v H' R' => ∃ i rec, H'[i]? = some (.obj l (.loop rec)) ∧ rec.state = .ready ∧ rec.pending = none ∧ En w0 (⟨.collected d, #[]⟩ :: D) Q .normal E (H'.set i (.obj l (.loop { rec with state := .exhausted }))) R')) :
    TC Fence.wide 9 P w0 D (.rangeFunc g ps assign body) Q E H R := fun w hs => by
  refine wpIn_rangeFunc fun fn hfn => ?_
  have hs1 := (hs.alloc_obj (.deferred (some []))).alloc_obj (.loop { state := .ready, pending := none, fn := fn, tmps := E.toArray, params := ps, assign, body, defers := w.heap.size })
  have e1 : (w.alloc (.deferred (some []))).heap.size = w.heap.size + 1 := World.size_alloc _ _
  rw [e1] at hs1
  have hev : (act E D).eval g = .func (.func gf) #[] lb.toArray := by rw [act_eval]; exact hg
  generalize hW : (w.alloc (.deferred (some []))).alloc (.loop { state := .ready, pending := none, fn := fn, tmps := E.toArray, params := ps, assign, body, defers := w.heap.size }) = W1 at hs1
  have hc := (callsIn_wide (n := 9 - 1)).2 (h _ _ fn W1 hs1)
  refine ⟨w.heap.size + 1, [{ target := .collected w.heap.size, args := #[] }], W1, ⟨.fn (.func gf) lb.toArray, #[.func (.yield (w.heap.size + 1)) #[] #[]]⟩, W1, gf, (.func (.yield (w.heap.size + 1)) #[] #[] :: lb).toArray, W1, ?_, ?_, ?_, ?_, fun _ => (by decide), hc.mono ?_⟩
  · rw [← hW]; exact run_enterLoop_outer _ _ _ _ _
  · simp only [resolve, hev]
    simp [Deferred.ofValue, Act.eval]
  · intro f' _; trivial
  · simp [invoke, FnOk.run]
  · rintro e w' ⟨v, H', R', rfl, hs', i, rec, hi, hr, hp, hk⟩
    refine ⟨_, _, run_endLoop (hs'.obj_heap hi) (by rw [hr]; simp), ?_⟩
    cases rec
    cases hp
    exact hk _ (hs'.putObj hi _)

theorem S.rot3 {w : World} {a b c : Hp} (h : S w0 w (a :: b :: c :: H) R) : S w0 w (b :: c :: a :: H) R :=
  h.perm ((List.Perm.swap b a (c :: H)).trans ((List.Perm.swap c a H).cons b))
/-! ### on the way out -/
def LV (P : Program) (w0 : World) (fn : Func) (K : Value → List Hp → List MP → Prop) (D : List Deferred) (E : List Value) (H : List Hp) (R : List MP) : Prop :=
  ∀ w, S w0 w H R → LeavesInM Fence.wide 9 P fn E.toArray (fun e w' => ∃ v H' R', e = .returned v ∧ S w0 w' H' R' ∧ K v H' R') D .returning w
theorem LV_nil {fn : Func} {K : Value → List Hp → List MP → Prop} {v : Value} (hr : ∀ w, S w0 w H R → (results fn E.toArray).run P w = .ok v w) (H' : List Hp) (R' : List MP) (hw : ∀ w, S w0 w H R → S w0 w H' R') (hk : K v H' R') : LV P w0 fn K [] E H R := fun w hs =>
  ⟨v, hr w hs, v, H', R', rfl, hw w hs, hk⟩
theorem LV_mark {fn : Func} {K : Value → List Hp → List MP → Prop} {i d : Nat} {ds : List Deferred} (hi : H[i]? = some (.obj d (.deferred (some [])))) (h : LV P w0 fn K ds E (H.set i (.obj d (.deferred none))) R) : LV P w0 fn K (⟨.collected d, #[]⟩ :: ds) E H R := fun w hs =>
  ⟨by simp, .inl ⟨d, _, rfl, run_takeDeferred (hs.obj_heap hi), h _ (hs.putObj hi _)⟩⟩
theorem En_leave {fn : Func} {K : Value → List Hp → List MP → Prop} {e : Exit} (he : e = .ret ∨ e = .normal) (h : LV P w0 fn K D E H R) : En w0 D (bodyPostM Fence.wide 9 P fn (fun e w' => ∃ v H' R', e = .returned v ∧ S w0 w' H' R' ∧ K v H' R')) e E H R := fun w hs => by
  rcases he with rfl | rfl <;> exact h w hs
theorem callsM_of {f : FuncId} {fn : Func} {c : Code} {A : List Value} {m : Nat} {K : Value → List Hp → List MP → Prop} (hf : P.funcs[f]? = some fn) (hb : fn.body = some c) (hn : fn.ntmps = m) {E : List Value}
    (hE : A ++ List.replicate (m - A.length) undef = E)
    (h : TC Fence.wide 9 P w0 [] c (bodyPostM Fence.wide 9 P fn (fun e w' => ∃ v H' R', e = .returned v ∧ S w0 w' H' R' ∧ K v H' R')) E H R) : CallsK P w0 f A.toArray H R K := fun w hs => by
  refine callsIn_wide.1 (callsIn_of_wp_marks (F := Fence.wide) (n := 9) hf hb trivial ?_)
  have : A.toArray ++ Array.replicate (fn.ntmps - A.toArray.size) undef = E.toArray := by rw [← hE, hn]; simp
  rw [this]; exact h w hs

/-! ### loops that turn what is deferred -/
def BackD (w0 : World) (I : Nat → List Deferred → List Value → List Hp → List MP → Prop) (m : Nat) : Act → World → Prop :=
  fun a w => ∃ k, k < m ∧ ∃ D E H R, a = act E D ∧ S w0 w H R ∧ I k D E H R
theorem TC_loopD {F : Fence} {n : Nat} {c : Code} (I : Nat → List Deferred → List Value → List Hp → List MP → Prop) (m : Nat) (h0 : I m D E H R)
    (round : ∀ m D E H R, I m D E H R → TC F n P w0 D c (Exit.then (BackD w0 I m) Q) E H R) : TC F n P w0 D (.loop c) Q E H R := by
  intro w hs
  refine wpIn_loop_ghost (fun m a w => ∃ D E H R, a = act E D ∧ S w0 w H R ∧ I m D E H R) m ⟨D, E, H, R, rfl, hs, h0⟩ ?_
  rintro m a w ⟨D, E, H, R, rfl, hs, hI⟩
  refine wpIn_mono (round m D E H R hI w hs) ?_
  intro e a' w' hq
  cases e with
  | normal =>
    obtain ⟨k, hk, D', E', H', R', e1, e2, e3⟩ := hq
    exact ⟨k, hk, D', E', H', R', e1, e2, e3⟩
  | _ => exact hq
theorem En_backD {I : Nat → List Deferred → List Value → List Hp → List MP → Prop} {m : Nat} (k : Nat) (hk : k < m) (H' : List Hp) (R' : List MP) (hI : I k D E H' R') (hw : ∀ w, S w0 w H R → S w0 w H' R') :
    En w0 D (Exit.then (BackD w0 I m) Q) .normal E H R := fun w hs => ⟨k, hk, D, E, H', R', rfl, hw w hs, hI⟩
def BackSD (w0 : World) (E0 : List Value) (js : List Nat) (I : Nat → List Deferred → (Nat → Value) → List Hp → List MP → Prop) (m : Nat) : Act → World → Prop :=
  fun a w => ∃ k, k < m ∧ ∃ D j H R, a = act (setJ E0 js j) D ∧ S w0 w H R ∧ I k D j H R
theorem TC_loopSD {F : Fence} {n : Nat} {c : Code} (js : List Nat) (I : Nat → List Deferred → (Nat → Value) → List Hp → List MP → Prop) (m : Nat) (he : setJ E js (fun i => E.getD i undef) = E) (h0 : I m D (fun i => E.getD i undef) H R)
    (round : ∀ m D j H R, I m D j H R → TC F n P w0 D c (Exit.then (BackSD w0 E js I m) Q) (setJ E js j) H R) : TC F n P w0 D (.loop c) Q E H R := by
  refine TC_loopD (fun m D' E' H' R' => ∃ j, E' = setJ E js j ∧ I m D' j H' R') m ⟨_, he.symm, h0⟩ ?_
  rintro m D' E' H' R' ⟨j, rfl, hI⟩
  refine TC_mono (round m D' j H' R' hI) ?_
  intro e a w hq
  cases e with
  | normal =>
    obtain ⟨k, hk, D2, j', H2, R2, e1, e2, e3⟩ := hq
    exact ⟨k, hk, D2, setJ E js j', H2, R2, e1, e2, j', rfl, e3⟩
  | _ => exact hq
theorem En_backSD {E0 : List Value} {js : List Nat} {I : Nat → List Deferred → (Nat → Value) → List Hp → List MP → Prop} {m : Nat} (k : Nat) (H' : List Hp) (R' : List MP) (hk : k < m) (hE : setJ E0 js (fun i => E.getD i undef) = E) (hI : I k D (fun i => E.getD i undef) H' R') (hw : ∀ w, S w0 w H R → S w0 w H' R') :
    En w0 D (Exit.then (BackSD w0 E0 js I m) Q) .normal E H R := fun w hs => ⟨k, hk, D, _, H', R', by rw [hE], hw w hs, hI⟩
theorem YK_weaken {l : Nat} {v : Value} {K : Value → List Hp → List MP → Prop} (H' : List Hp) (R' : List MP) (hw : ∀ w, S w0 w H R → S w0 w H' R') (h : YK P w0 l v H' R' K) : YK P w0 l v H R K := fun w hs => h w (hw w hs)
theorem YK_mono {l : Nat} {v : Value} {K K' : Value → List Hp → List MP → Prop} (h : YK P w0 l v H R K) (hk : ∀ v H R, K v H R → K' v H R) : YK P w0 l v H R K' := fun w hs => by
  obtain ⟨fn, tmps, assign, body, hy, hr⟩ := h w hs
  exact ⟨fn, tmps, assign, body, hy, hr.mono fun e w' ⟨u, H', R', e1, e2, e3⟩ => ⟨u, H', R', e1, e2, hk _ _ _ e3⟩⟩
/-- An owned block stays. -/
theorem T_freeze {F : Fence} {n : Nat} (i : Nat) {b : Nat} {cs : List Value} {T' : TypeId} (hi : H[i]? = some (.blk b cs T')) (k : T F n P w0 D ops Q rest E (H.eraseIdx i) (At b 0 cs :: R)) : T F n P w0 D ops Q rest E H R := fun w hs => k w (hs.freeze hi)
theorem TC_freeze {F : Fence} {n : Nat} {c : Code} (i : Nat) {b : Nat} {cs : List Value} {T' : TypeId} (hi : H[i]? = some (.blk b cs T')) (k : TC F n P w0 D c Q E (H.eraseIdx i) (At b 0 cs :: R)) : TC F n P w0 D c Q E H R := fun w hs => k w (hs.freeze hi)
end
attribute [irreducible] YK LV
end Go.Proofs.Ytggdljhmbckpmaa
namespace Go.Proofs.Ytggdljhmbckpmaa
open Go Go.RowKit
attribute [local semireducible] T TC En PW GW OW CallsK CallsP Sl Rd Ls At S TA
section
variable {P : Program} {w0 : World} {H : List Hp} {R : List MP}
def cst (w : World) : Sto := fun b o => w.cell? ⟨b, o, none⟩
theorem S.quiet {w w' : World} (h : S w0 w H R) (hb : Below w.heap.size w w') : S w0 w' H R := by
  obtain ⟨s, h⟩ := h
  refine ⟨s, ⟨hb.os.trans h.below.os, hb.tape.trans h.below.tape, hb.output.trans h.below.output, Nat.le_trans h.below.size hb.size, fun k hk => (hb.block k (Nat.lt_of_lt_of_le hk h.below.size)).trans (h.below.block k hk)⟩, fun b o v hs => ?_, fun x hx => ?_, h.nd, h.rd⟩
  · exact (World.cell?_of_block (w := w) (hb.block b (h.st_lt hs))).trans (h.st b o v hs)
  · exact Hp.ok_of_heap (h.hp x hx) fun b hxb => ⟨hb.block b (Hp.own_lt (h.hp x hx) hxb).1, fun _ => rfl⟩
theorem S.self {w : World} {R1 : List MP} (hR1 : ∀ p ∈ R1, p.p (cst w)) : S w w [] R1 :=
  ⟨cst w, Below.refl _ _, fun b o v h => h, fun x hx => (by cases hx), List.nodup_nil, hR1⟩
theorem S.full {w : World} (hs : S w0 w H R) : ∀ p ∈ R, p.p (cst w) := by
  obtain ⟨s, h⟩ := hs
  exact fun p hp => p.mono s _ (fun b o v hv => h.st b o v hv) (h.rd p hp)
theorem S.full_blk {w : World} {i b : Nat} {cs : List Value} {T : TypeId} (hs : S w0 w H R) (hi : H[i]? = some (.blk b cs T)) : (At b 0 cs).p (cst w) := by
  intro j v hj
  have := hs.blk_cells hi j v hj
  simpa [cst] using this
theorem S.full_row {w : World} {i m c : Nat} {A : Option Addr} {xs : List UInt8} (hs : S w0 w H R) (hi : H[i]? = some (.row (.slice A m c) 5 1 m (bytesV xs))) : (Sl (.slice A m c) xs).p (cst w) := by
  rcases hs.unrow hi with ⟨hv, h0, hnil⟩ | ⟨b, cap, sp, hv, h2, h3, h4, h5, h6⟩
  · have hx : xs = [] := by simpa [bytesV] using hnil
    cases hv
    subst hx
    exact ⟨none, 0, rfl, ⟨by simp, by simp [maxL]⟩, fun h => by simp at h⟩
  · injection hv with e1 _ e2
    subst e1; subst e2
    have hml : m = xs.length := by simpa using h3.symm
    subst hml
    have hlt : i < H.length := (List.getElem?_eq_some_iff.1 hi).1
    have hat := h6.full_blk (i := i) (b := b) (cs := bytesV xs ++ sp) (T := 5) (by rw [List.getElem?_set_self hlt])
    refine ⟨_, _, rfl, ⟨h4, by simp only [maxLen] at h5; simp only [maxL]; omega⟩, fun _ => ⟨b, 0, rfl, fun k x hk => ⟨[byteV x], rfl, fun j v hj => ?_⟩⟩⟩
    have hj0 : j = 0 ∧ v = byteV x := by
      cases j with
      | zero => simp at hj; exact ⟨rfl, hj.symm⟩
      | succ j => simp at hj
    obtain ⟨rfl, rfl⟩ := hj0
    have := hat k (byteV x) (by
      rw [List.getElem?_append_left (by simp; exact (List.getElem?_eq_some_iff.1 hk).1)]
      simp [bytesV, hk])
    simpa [Rep.size] using this
/-- A call that makes nothing of ours: it may read what is owned. -/
theorem CallsK_quiet {f : FuncId} {args : Array Value} {K : Value → List Hp → List MP → Prop} (v : Value) (R1 : List MP) (h : ∀ w1, CallsK P w1 f args [] R1 (fun u _ _ => u = v)) (hR1 : ∀ w, S w0 w H R → ∀ p ∈ R1, p.p (cst w)) (k : K v H R) : CallsK P w0 f args H R K := fun w hs =>
  (h w w (S.self (hR1 w hs))).mono (fun e w' ⟨u, H', R', e1, hs', hu⟩ => ⟨v, H, R, by subst hu; exact e1, hs.quiet hs'.below, k⟩)
theorem S.row_at {w : World} {i m size : Nat} {v : Value} {T : TypeId} {cs : List Value} (hs : S w0 w H R) (hi : H[i]? = some (.row v T size m cs)) (hm : 0 < m) : ∃ b cap, v = .slice (some ⟨b, 0, none⟩) m cap ∧ m ≤ cap ∧ cap ≤ maxLen := by
  rcases hs.unrow hi with ⟨_, h0, _⟩ | ⟨b, cap, sp, h1, h2, h3, h4, h5, h6⟩
  · omega
  · exact ⟨b, cap, h1, h4, h5⟩
end
section
variable {F : Fence} {n : Nat} {P : Program} {w0 : World} {D : List Deferred} {ops : Array Oper} {Q : Exit → Act → World → Prop} {rest : List Oper} {E : List Value} {H : List Hp} {R : List MP}
theorem T_row_at (i : Nat) {v : Value} {T' : TypeId} {sz m : Nat} {cs : List Value} (hi : H[i]? = some (.row v T' sz m cs)) (hm : 0 < m) (k : ∀ b c, v = .slice (some ⟨b, 0, none⟩) m c → m ≤ c → c ≤ maxLen → T F n P w0 D ops Q rest E H R) : T F n P w0 D ops Q rest E H R := fun w hs => by
  obtain ⟨b, c, e, h1, h2⟩ := hs.row_at hi hm
  exact k b c e h1 h2 w hs
theorem TC_row_at {co : Code} (i : Nat) {v : Value} {T' : TypeId} {sz m : Nat} {cs : List Value} (hi : H[i]? = some (.row v T' sz m cs)) (hm : 0 < m) (k : ∀ b c, v = .slice (some ⟨b, 0, none⟩) m c → m ≤ c → c ≤ maxLen → TC F n P w0 D co Q E H R) : TC F n P w0 D co Q E H R := fun w hs => by
  obtain ⟨b, c, e, h1, h2⟩ := hs.row_at hi hm
  exact k b c e h1 h2 w hs
theorem En_stays' {e : Exit} {α : Type} [Rep α] (i : Nat) {v : Value} {T' : TypeId} {sz m : Nat} {cs : List Value} {xs : List α} (hi : H[i]? = some (.row v T' sz m cs)) (hsz : Rep.size α = sz) (h0 : 0 < sz) (hx : Cx cs xs ∈ R) (k : ∀ A c, v = .slice A xs.length c → En w0 D Q e E (H.eraseIdx i) (Sl (.slice A xs.length c) xs :: R)) : En w0 D Q e E H R := fun w hs => by
  obtain ⟨A, c, e, h⟩ := hs.stays hi hsz h0 hx
  exact k A c e w h
/-! ### where branches join -/
def MidS (w0 : World) (D : List Deferred) (E0 : List Value) (js : List Nat) (M : (Nat → Value) → List Hp → List MP → Prop) : Exit → Act → World → Prop :=
  fun e a w => e = .normal ∧ ∃ j H R, a = act (setJ E0 js j) D ∧ S w0 w H R ∧ M j H R
theorem TC_cutS {x y : Code} (js : List Nat) (M : (Nat → Value) → List Hp → List MP → Prop) (h1 : TC F n P w0 D x (MidS w0 D E js M) E H R) (h2 : ∀ j H R, M j H R → TC F n P w0 D y Q (setJ E js j) H R) : TC F n P w0 D (.seq x y) Q E H R := fun w hs =>
  wpIn_seq (wpIn_mono (h1 w hs) (fun e a w' ⟨he, j, H', R', e1, e2, e3⟩ => by
    subst he; subst e1
    exact h2 j H' R' e3 w' e2))
theorem En_midS {E0 : List Value} {js : List Nat} {M : (Nat → Value) → List Hp → List MP → Prop} (H' : List Hp) (R' : List MP) (hE : setJ E0 js (fun i => E.getD i undef) = E) (hM : M (fun i => E.getD i undef) H' R') (hw : ∀ w, S w0 w H R → S w0 w H' R') : En w0 D (MidS w0 D E0 js M) .normal E H R := fun w hs =>
  ⟨rfl, _, H', R', by rw [hE], hw w hs, hM⟩
/-! ### round by round -/
def TCr (F : Fence) (n : Nat) (P : Program) (w0 : World) (D : List Deferred) (c : Code) (Q : Exit → Act → World → Prop) (m : Nat) (E : List Value) (H : List Hp) (R : List MP) : Prop :=
  ∀ w, S w0 w H R → Code.roundsIn F n P c Q m (act E D) w
theorem TC_unroll {c : Code} (m : Nat) (h : TCr F n P w0 D c Q m E H R) : TC F n P w0 D (.loop c) Q E H R := fun w hs => wpIn_loop_rounds m (h w hs)
theorem TCr_succ {c : Code} {m : Nat} (h : TC F n P w0 D c (Exit.then (Code.roundsIn F n P c Q m) Q) E H R) : TCr F n P w0 D c Q (m + 1) E H R := fun w hs => h w hs
theorem En_round {c : Code} {m : Nat} (h : TCr F n P w0 D c Q m E H R) : En w0 D (Exit.then (Code.roundsIn F n P c Q m) Q) .normal E H R := fun w hs => h w hs
end
attribute [irreducible] TCr
end Go.Proofs.Ytggdljhmbckpmaa
namespace Go.Proofs.Ytggdljhmbckpmaa
open Go Go.RowKit
set_option maxRecDepth 100000
set_option maxHeartbeats 800000

theorem sum_row_k {w0 : World} {H : List Hp} {R : List MP} {K : Value → List Hp → List MP → Prop} (i b cap m l : Nat) (xs : List UInt8) (hi : H[i]? = some (.row (.slice (some ⟨b, 0, none⟩) m cap) 5 1 m (bytesV xs))) (hml : m = xs.length) (hmc : m ≤ cap) (hl : l < m) (hb : xs.length ≤ 9223372036854775807)
    (k : K (.int .u32 (sumB (xs.drop l) : Nat)) H R) : CallsK Try.prog w0 101 #[.slice (some ⟨b, l, none⟩) (m - l) (cap - l)] H R K := by
  refine CallsK_quiet (.int .u32 (sumB (xs.drop l) : Nat)) [Sl (.slice (some ⟨b, l, none⟩) (m - l) (cap - l)) (xs.drop l)] (fun w1 => ?_) (fun w hs p hp => ?_) k
  · exact sum_k' _ _ _ (xs.drop l) (by simp [hml]) (by simp; omega) (by simp) rfl
  · simp at hp; subst hp
    have h1 := hs.full_row hi
    have h2 := sl_cut (A := some ⟨b, 0, none⟩) (n := m) (c := cap) (R := [Sl (.slice (some ⟨b, 0, none⟩) m cap) xs]) (xs := xs) (by simp) l xs.length (by omega) (by omega) (s := cst w) (fun q hq => by simp at hq; subst hq; exact h1)
    rw [if_neg (by omega)] at h2
    simp only [Option.map_some, Addr.add_mk, List.take_length] at h2
    subst hml
    simpa [Rep.size] using h2

section
variable {P : Program} {w0 : World} {E : List Value} {H : List Hp} {R : List MP} {ty : TypeId} {K : Value → List MP → Prop}
theorem pw_conv32 {s d : TypeId} {x : Operand} {k : IntKind} {ds : TypeDesc} {a : Nat} [hs : TyU P s ds] [hd : TyU P d (.int .u32)] (hx : ev E x = .int k (a : Int)) (ha : a < 4294967296) (kk : K (.int .u32 (a : Int)) R) : PW P w0 E (.convert s d x) ty H R K :=
  pw_convn (hs := hs) (hd := hd) hx rfl (by rw [Nat.mod_eq_of_lt (by simpa [IntKind.bits] using ha)]; exact kk)
end
def headB (epoch seq n : Nat) : List UInt8 := [167] ++ le4 epoch ++ le4 seq ++ le4 n
def wholeB (epoch seq : Nat) (data : List UInt8) : List UInt8 :=
  headB epoch seq data.length ++ le4 (sumB ((headB epoch seq data.length).drop 1)) ++ data ++ le4 (sumB data)
theorem headB_length (e s n : Nat) : (headB e s n).length = 13 := by simp [headB, le4]
theorem wholeB_length (e s : Nat) (data : List UInt8) : (wholeB e s data).length = 21 + data.length := by simp [wholeB, headB, le4]; omega

theorem whole_k {w0 : World} {H : List Hp} {R : List MP} {K : Value → List Hp → List MP → Prop} (A : Option Addr) (c : Nat) (data : List UInt8) (epoch seq : Nat) (he : epoch < 4294967296) (hs : seq < 4294967296) (hb : data.length ≤ 1000000)
    (hm : Sl (.slice A data.length c) data ∈ R)
    (k : ∀ v', K v' (.row v' 5 1 (wholeB epoch seq data).length (bytesV (wholeB epoch seq data)) :: H) R) : CallsK Try.prog w0 52 #[.int .i64 (epoch : Int), .int .i64 (seq : Int), .slice A data.length c] H R K := by
  refine calls_of Try.func52 rfl Try.ntmps52 nep ?_
  repeat' (first | (apply TC_seq) | (apply TC_region) | (apply TC_block) | (apply T_nil) | (apply En_then) | (refine T_pure rfl rfl ?_; ((first | refine pw_mv ?_ | refine pw_as ?_ | refine pw_len rfl ?_)); refine T_nv ?_) | (refine T_gen rfl rfl ?_; ((refine gw_buildSlice (by decide) prtp rfl (fun b => ?_))); refine T_nv ?_))
  rename_i b1
  refine TC_weaken (.row (.slice (some ⟨b1, 0, none⟩) 1 1) 5 1 1 [.int .u8 167] :: .blk b [.int .i64 (epoch : Int), .int .i64 (seq : Int), .int .i64 (data.length : Int)] 3 :: H) R (fun w hs => ((hs.torow (i := 1) (cs := [.int .u8 167]) (sp := []) (n := 1) (cap := 1) (size := 1) rfl rfl rfl (by omega) (by decide))).perm (List.Perm.swap _ _ _)) ?_
  refine TC_unroll 4 ?_
  iterate 3
    apply TCr_succ
    repeat' (first | (refine T_pure rfl rfl ?_; refine pw_index_o rfl rfl (by omega) (by omega) ?_; refine T_nv ?_) | (refine T_pure rfl rfl ?_; refine pw_conv32 rfl (by omega) ?_; refine T_nv ?_) | (refine T_ow rfl ?_; refine ow_callf arp ?_; refine appendFour_k _ _ _ _ (by omega) (by omega) (fun v => ?_); refine T_nv ?_) | (apply TC_seq) | (apply TC_region) | (apply TC_block) | (apply TC_skip) | (apply TC_cond_true; exact rfl) | (apply T_nil) | (apply En_then) | (apply En_block) | (apply T_load; exact rfl; ((refine pw_load (i := 1) rfl rfl rfl ?_)); refine T_nv ?_) | (apply T_bin; exact rfl; ((refine pw_add64 rfl rfl (by omega) (by omega) ?_)); refine T_nv ?_) | (apply T_bin; exact rfl; ((refine pw_lss rfl rfl (fun h => ?_) (fun h => ?_))) <;> (first | (exfalso; omega) | refine T_nv ?_)) | (refine T_pure rfl rfl ?_; ((first | refine pw_mv ?_ | refine pw_as ?_)); refine T_nv ?_))
    apply En_round
  apply TCr_succ
  repeat' (first | (apply TC_seq) | (apply TC_region) | (apply TC_exit) | (apply TC_cond_false; exact rfl) | (apply T_nil) | (apply En_then) | (apply En_then_exit) | (apply En_block_exit) | (apply T_bin; exact rfl; ((refine pw_lss rfl rfl (fun h => ?_) (fun h => ?_))) <;> (first | (exfalso; omega) | refine T_nv ?_)) | (refine T_pure rfl rfl ?_; ((refine pw_mv ?_)); refine T_nv ?_))
  refine T_hp (H' := .row v 5 1 13 (bytesV (headB epoch seq data.length)) :: .blk b [.int .i64 (epoch : Int), .int .i64 (seq : Int), .int .i64 (data.length : Int)] 3 :: H) (by ((simp only [headB, bytesV_append]; rfl))) ?_
  refine T_row_at 0 rfl (by omega) (fun b2 c2 hv h1 h2 => ?_)
  subst hv
  repeat' (first | (refine T_pure rfl rfl ?_; refine pw_slice_o rfl rfl rfl (by omega) (by omega) (by omega) (fun o' ho' => ?_); obtain rfl : o' = 1 := (by omega); refine T_nv ?_) | (refine T_ow rfl ?_; refine ow_callf arp ?_; refine sum_row_k 0 b2 c2 13 1 (headB epoch seq data.length) rfl (by rw [headB_length]) h1 (by omega) (by rw [headB_length]; omega) ?_; refine T_nv ?_))
  refine T_ow rfl ?_; refine ow_callf arp ?_; refine appendFour_k _ 13 (sumB ((headB epoch seq data.length).drop 1)) _ (by omega) (sumB_lt _) (fun v2 => ?_)
  refine T_nv ?_
  repeat' (first | (refine T_gen rfl rfl ?_; refine gw_append_sl 0 rfl rfl memt rfl rfl (by omega) (by omega) (fun v3 => ?_); refine T_nv ?_; refine T_hq ?_) | (refine T_ow rfl ?_; refine ow_callf arp ?_; refine sum_k _ _ data (by omega) memt ?_; refine T_nv ?_) | (apply TC_seq) | (apply TC_region) | (apply T_nil) | (apply En_then) | (refine T_pure rfl rfl ?_; ((first | refine pw_mv ?_ | refine pw_as ?_)); refine T_nv ?_))
  refine T_ow rfl ?_; refine ow_callf arp ?_; refine appendFour_k _ (13 + 4 + data.length) (sumB data) _ (by omega) (sumB_lt _) (fun v4 => ?_)
  refine T_nv ?_
  repeat' (first | (apply TC_ret) | (apply T_nil) | (apply En_then) | (refine T_pure rfl rfl ?_; ((refine pw_as ?_)); refine T_nv ?_))
  refine En_fin (.inl rfl) (res1 rfl (rv_tmp rfl)) (fin_K _ R (fun w hs => ?_) (k v4))
  have e : bytesV (headB epoch seq data.length) ++ bytesV (le4 (sumB ((headB epoch seq data.length).drop 1))) ++ bytesV data ++ bytesV (le4 (sumB data)) = bytesV (wholeB epoch seq data) := by simp only [wholeB, bytesV_append]
  have e2 : 13 + 4 + data.length + 4 = (wholeB epoch seq data).length := by rw [wholeB_length]; omega
  rw [e, e2] at hs
  exact hs.weaken sbp (fun _ h => h)
end Go.Proofs.Ytggdljhmbckpmaa
