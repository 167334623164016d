/- A range over a function; functions that defer. Calls that are lent what is owned; loops round by round. An append to a part of an owned block. Calls that may panic; what is deferred, and recovers. -/
import Derived.Test.YtggdljhmbckpmaaGreatAM
import Derived.LoopNIn
import Derived.ArgAppend
import Derived.RecoverIn
import Derived.WideLaws
set_option linter.unusedVariables false
set_option linter.unusedSimpArgs false
namespace Go.Proofs.YtggdljhmbckpmaaGreat
open Go Go.RowKit
attribute [local semireducible] T TC En PW GW OW CallsK CallsP Sl Rd Ls At S TA
section
variable {P : Program} {w0 : World} {H : List Hp} {R : List MP}
theorem S.putObj {w : World} {i b : Nat} {x : Obj} (h : S w0 w H R) (hi : H[i]? = some (.obj b x)) (y : Obj) : S w0 (w.putObj b y) (H.set i (.obj b y)) R :=
  h.set_obj hi y (fun k hk => World.putObj_heap_other hk) (fun hb => World.putObj_heap_same hb) World.putObj_size rfl rfl rfl
end

/-- A call of a loop's yield. -/
def YK (P : Program) (w0 : World) (l : Nat) (v : Value) (H : List Hp) (R : List MP) (K : Value → List Hp → List MP → Prop) : Prop :=
  ∀ w, S w0 w H R → YieldAt Fence.wide 8 P l #[v] w (fun e w' => ∃ v H' R', e = .returned v ∧ S w0 w' H' R' ∧ K v H' R')
section
variable {P : Program} {w0 : World} {D : List Deferred} {ops : Array Oper} {Q : Exit → Act → World → Prop} {rest : List Oper} {E : List Value} {H : List Hp} {R : List MP}
theorem zT {dst : Option Tmp} {fo : Operand} {x : Operand} {at_ : Array TypeId} {ty : TypeId} {pos : String} {aft : Array Edge} {g : Option (Nat × Bool)} {K : Value → List Hp → List MP → Prop} {l : Nat} {v : Value}
    (hf : ev E fo = .func (.yield l) #[] #[]) (hx : ev E x = v) (h : YK P w0 l v H R K) : OW Fence.wide 9 P w0 D Q ⟨dst, .call ⟨.value fo, #[x], at_⟩, ty, pos, aft, g⟩ E H R K := fun w hs => by
  refine ⟨fZ, ?_⟩
  rw [iQ (by intro c e; cases e)]
  obtain ⟨fn, tmps, assign, body, hy, hr⟩ := h w hs
  have hrun : (lR E (.call ⟨.value fo, #[x], at_⟩) ty).run P w = .ok (.round l fn tmps assign body) w := by
    simp only [lR, execOp, resolve, hf, Deferred.ofValue, invoke, Sem.run_bind, Sem.run_pure, Result.andThen_ok, List.map_toArray, List.map_cons, List.map_nil, hx]
    simpa using hy
  simp only [hrun, Oper.uponIn]
  refine ⟨fun h => (by cases h), hr.mono ?_⟩
  rintro e w' ⟨u, H', R', rfl, hs', k⟩
  exact ⟨u, H', R', by rw [hU], hs', k⟩
theorem zJ {F : Fence} {n l i : Nat} {rec : Loop} {body : Code} {Rp : Ending → World → Prop} (hi : H[i]? = some (.obj l (.loop rec))) (hr : rec.state = .ready)
    (h : TC F n P w0 D body (roundPost P l Rp) E (H.set i (.obj l (.loop { rec with state := .busy }))) R) :
    En w0 D (Exit.then (fun a₁ w₁ => ∃ w₂, (Instr.beginRound l).run P w₁ = .ok () w₂ ∧ body.wpIn F n P (roundPost P l Rp) a₁ w₂) (fun _ _ _ => False)) .normal E H R := fun w hs =>
  ⟨_, run_beginRound (hs.obj_heap hi) hr, h _ (hs.putObj hi _)⟩
theorem tU {l i : Nat} {rec rec' : Loop} {K : Value → List Hp → List MP → Prop} (hi : H[i]? = some (.obj l (.loop rec))) (he : { rec with state := .ready, pending := none } = rec') (H' : List Hp) (R' : List MP) (hw : ∀ w, S w0 w (H.set i (.obj l (.loop rec'))) R → S w0 w H' R') (hK : K (.bool true) H' R') :
    En w0 D (roundPost P l (fun e w' => ∃ v H' R', e = .returned v ∧ S w0 w' H' R' ∧ K v H' R')) .normal E H R := fun w hs => by
  subst he
  exact ⟨_, _, run_endRound none (hs.obj_heap hi), _, H', R', rfl, hw _ (hs.putObj hi _), hK⟩
theorem r7 {l i : Nat} {rec : Loop} {t : Tmp} {v : Value} {K : Value → List Hp → List MP → Prop} (hi : H[i]? = some (.obj l (.loop rec))) (hp : rec.params = #[t]) {E : List Value} (hE : rec.tmps.setIfInBounds t v = E.toArray)
    (h : TC (Fence.wide.inRound l) 8 P w0 [] rec.assign (Exit.then (fun a₁ w₁ => ∃ w₂, (Instr.beginRound l).run P w₁ = .ok () w₂ ∧ rec.body.wpIn (Fence.wide.inRound l) 8 P (roundPost P l (fun e w' => ∃ v H' R', e = .returned v ∧ S w0 w' H' R' ∧ K v H' R')) a₁ w₂) (fun _ _ _ => False)) E H R) : YK P w0 l v H R K := fun w hs => by
  refine ⟨_, _, _, _, run_yield (hs.obj_heap hi) (by rw [hp]; rfl), roundIn_of_wpIn trivial ?_⟩
  have := h w hs
  have e : (rec.params.zip #[v]).foldl (fun tmps (x : Tmp × Value) => tmps.setIfInBounds x.1 x.2) rec.tmps = E.toArray := by rw [hp, ← hE]; simp
  rw [e]; exact this

/-- The statement: whatever is returned, the record is not busy and no jump is pending. -/
theorem tB {g : Operand} {ps : Array Tmp} {assign body : Code} {gf : Nat} {lb : List Value} [FnOk P gf] (hg : ev E g = .func (.func gf) #[] lb.toArray)
    (h : ∀ l d fn, CallsK P w0 gf (.func (.yield l) #[] #[] :: lb).toArray (.obj l (.loop { state := .ready, pending := none, fn := fn, tmps := E.toArray, params := ps, assign, body, defers := d }) :: .obj d (.deferred (some [])) :: H) R
      (fun v H' R' => ∃ i rec, H'[i]? = some (.obj l (.loop rec)) ∧ rec.state = .ready ∧ rec.pending = none ∧ En w0 (⟨.collected d, #[]⟩ :: D) Q .normal E (H'.set i (.obj l (.loop { rec with state := .exhausted }))) R')) :
    TC Fence.wide 9 P w0 D (.rangeFunc g ps assign body) Q E H R := fun w hs => by
  refine wpIn_rangeFunc fun fn hfn => ?_
  have hs1 := (hs.alloc_obj (.deferred (some []))).alloc_obj (.loop { state := .ready, pending := none, fn := fn, tmps := E.toArray, params := ps, assign, body, defers := w.heap.size })
  have e1 : (w.alloc (.deferred (some []))).heap.size = w.heap.size + 1 := World.size_alloc _ _
  rw [e1] at hs1
  have hev : (iK E D).eval g = .func (.func gf) #[] lb.toArray := by rw [kE]; exact hg
  generalize hW : (w.alloc (.deferred (some []))).alloc (.loop { state := .ready, pending := none, fn := fn, tmps := E.toArray, params := ps, assign, body, defers := w.heap.size }) = W1 at hs1
  have hc := (callsIn_wide (n := 9 - 1)).2 (h _ _ fn W1 hs1)
  refine ⟨w.heap.size + 1, [{ target := .collected w.heap.size, args := #[] }], W1, ⟨.fn (.func gf) lb.toArray, #[.func (.yield (w.heap.size + 1)) #[] #[]]⟩, W1, gf, (.func (.yield (w.heap.size + 1)) #[] #[] :: lb).toArray, W1, ?_, ?_, ?_, ?_, fun _ => (by decide), hc.mono ?_⟩
  · rw [← hW]; exact run_enterLoop_outer _ _ _ _ _
  · simp only [resolve, hev]
    simp [Deferred.ofValue, Act.eval]
  · intro f' _; trivial
  · simp [invoke, FnOk.run]
  · rintro e w' ⟨v, H', R', rfl, hs', i, rec, hi, hr, hp, hk⟩
    refine ⟨_, _, run_endLoop (hs'.obj_heap hi) (by rw [hr]; simp), ?_⟩
    cases rec
    cases hp
    exact hk _ (hs'.putObj hi _)

theorem S.rot3 {w : World} {a b c : Hp} (h : S w0 w (a :: b :: c :: H) R) : S w0 w (b :: c :: a :: H) R :=
  h.perm ((List.Perm.swap b a (c :: H)).trans ((List.Perm.swap c a H).cons b))
/-! ### on the way out -/
def LV (P : Program) (w0 : World) (fn : Func) (K : Value → List Hp → List MP → Prop) (D : List Deferred) (E : List Value) (H : List Hp) (R : List MP) : Prop :=
  ∀ w, S w0 w H R → LeavesInM Fence.wide 9 P fn E.toArray (fun e w' => ∃ v H' R', e = .returned v ∧ S w0 w' H' R' ∧ K v H' R') D .returning w
theorem LV_nil {fn : Func} {K : Value → List Hp → List MP → Prop} {v : Value} (hr : ∀ w, S w0 w H R → (results fn E.toArray).run P w = .ok v w) (H' : List Hp) (R' : List MP) (hw : ∀ w, S w0 w H R → S w0 w H' R') (hk : K v H' R') : LV P w0 fn K [] E H R := fun w hs =>
  ⟨v, hr w hs, v, H', R', rfl, hw w hs, hk⟩
theorem LV_mark {fn : Func} {K : Value → List Hp → List MP → Prop} {i d : Nat} {ds : List Deferred} (hi : H[i]? = some (.obj d (.deferred (some [])))) (h : LV P w0 fn K ds E (H.set i (.obj d (.deferred none))) R) : LV P w0 fn K (⟨.collected d, #[]⟩ :: ds) E H R := fun w hs =>
  ⟨by simp, .inl ⟨d, _, rfl, run_takeDeferred (hs.obj_heap hi), h _ (hs.putObj hi _)⟩⟩
theorem p5 {fn : Func} {K : Value → List Hp → List MP → Prop} {e : Exit} (he : e = .ret ∨ e = .normal) (h : LV P w0 fn K D E H R) : En w0 D (bodyPostM Fence.wide 9 P fn (fun e w' => ∃ v H' R', e = .returned v ∧ S w0 w' H' R' ∧ K v H' R')) e E H R := fun w hs => by
  rcases he with rfl | rfl <;> exact h w hs
theorem nF {f : FuncId} {fn : Func} {c : Code} {A : List Value} {m : Nat} {K : Value → List Hp → List MP → Prop} (hf : P.funcs[f]? = some fn) (hb : fn.body = some c) (hn : fn.ntmps = m) {E : List Value}
    (hE : A ++ List.replicate (m - A.length) undef = E)
    (h : TC Fence.wide 9 P w0 [] c (bodyPostM Fence.wide 9 P fn (fun e w' => ∃ v H' R', e = .returned v ∧ S w0 w' H' R' ∧ K v H' R')) E H R) : CallsK P w0 f A.toArray H R K := fun w hs => by
  refine callsIn_wide.1 (callsIn_of_wp_marks (F := Fence.wide) (n := 9) hf hb trivial ?_)
  have : A.toArray ++ Array.replicate (fn.ntmps - A.toArray.size) undef = E.toArray := by rw [← hE, hn]; simp
  rw [this]; exact h w hs

/-! ### loops that turn what is deferred -/
def BackD (w0 : World) (I : Nat → List Deferred → List Value → List Hp → List MP → Prop) (m : Nat) : Act → World → Prop :=
  fun a w => ∃ k, k < m ∧ ∃ D E H R, a = iK E D ∧ S w0 w H R ∧ I k D E H R
theorem i6 {F : Fence} {n : Nat} {c : Code} (I : Nat → List Deferred → List Value → List Hp → List MP → Prop) (m : Nat) (h0 : I m D E H R)
    (round : ∀ m D E H R, I m D E H R → TC F n P w0 D c (Exit.then (BackD w0 I m) Q) E H R) : TC F n P w0 D (.loop c) Q E H R := by
  intro w hs
  refine wpIn_loop_ghost (fun m a w => ∃ D E H R, a = iK E D ∧ S w0 w H R ∧ I m D E H R) m ⟨D, E, H, R, rfl, hs, h0⟩ ?_
  rintro m a w ⟨D, E, H, R, rfl, hs, hI⟩
  refine wpIn_mono (round m D E H R hI w hs) ?_
  intro e a' w' hq
  cases e with
  | normal =>
    obtain ⟨k, hk, D', E', H', R', e1, e2, e3⟩ := hq
    exact ⟨k, hk, D', E', H', R', e1, e2, e3⟩
  | _ => exact hq
def j8 (w0 : World) (E0 : List Value) (js : List Nat) (I : Nat → List Deferred → (Nat → Value) → List Hp → List MP → Prop) (m : Nat) : Act → World → Prop :=
  fun a w => ∃ k, k < m ∧ ∃ D j H R, a = iK (dX E0 js j) D ∧ S w0 w H R ∧ I k D j H R
theorem yL {F : Fence} {n : Nat} {c : Code} (js : List Nat) (I : Nat → List Deferred → (Nat → Value) → List Hp → List MP → Prop) (m : Nat) (he : dX E js (fun i => E.getD i undef) = E) (h0 : I m D (fun i => E.getD i undef) H R)
    (round : ∀ m D j H R, I m D j H R → TC F n P w0 D c (Exit.then (j8 w0 E js I m) Q) (dX E js j) H R) : TC F n P w0 D (.loop c) Q E H R := by
  refine i6 (fun m D' E' H' R' => ∃ j, E' = dX E js j ∧ I m D' j H' R') m ⟨_, he.symm, h0⟩ ?_
  rintro m D' E' H' R' ⟨j, rfl, hI⟩
  refine wW (round m D' j H' R' hI) ?_
  intro e a w hq
  cases e with
  | normal =>
    obtain ⟨k, hk, D2, j', H2, R2, e1, e2, e3⟩ := hq
    exact ⟨k, hk, D2, dX E js j', H2, R2, e1, e2, j', rfl, e3⟩
  | _ => exact hq
theorem nK {E0 : List Value} {js : List Nat} {I : Nat → List Deferred → (Nat → Value) → List Hp → List MP → Prop} {m : Nat} (k : Nat) (H' : List Hp) (R' : List MP) (hk : k < m) (hE : dX E0 js (fun i => E.getD i undef) = E) (hI : I k D (fun i => E.getD i undef) H' R') (hw : ∀ w, S w0 w H R → S w0 w H' R') :
    En w0 D (Exit.then (j8 w0 E0 js I m) Q) .normal E H R := fun w hs => ⟨k, hk, D, _, H', R', by rw [hE], hw w hs, hI⟩
theorem aA8 {l : Nat} {v : Value} {K K' : Value → List Hp → List MP → Prop} (h : YK P w0 l v H R K) (hk : ∀ v H R, K v H R → K' v H R) : YK P w0 l v H R K' := fun w hs => by
  obtain ⟨fn, tmps, assign, body, hy, hr⟩ := h w hs
  exact ⟨fn, tmps, assign, body, hy, hr.mono fun e w' ⟨u, H', R', e1, e2, e3⟩ => ⟨u, H', R', e1, e2, hk _ _ _ e3⟩⟩
/-- An owned block stays. -/
theorem zR {F : Fence} {n : Nat} (i : Nat) {b : Nat} {cs : List Value} {T' : TypeId} (hi : H[i]? = some (.blk b cs T')) (k : T F n P w0 D ops Q rest E (H.eraseIdx i) (At b 0 cs :: R)) : T F n P w0 D ops Q rest E H R := fun w hs => k w (hs.freeze hi)
theorem eS {F : Fence} {n : Nat} {c : Code} (i : Nat) {b : Nat} {cs : List Value} {T' : TypeId} (hi : H[i]? = some (.blk b cs T')) (k : TC F n P w0 D c Q E (H.eraseIdx i) (At b 0 cs :: R)) : TC F n P w0 D c Q E H R := fun w hs => k w (hs.freeze hi)
end
attribute [irreducible] YK LV
end Go.Proofs.YtggdljhmbckpmaaGreat
namespace Go.Proofs.YtggdljhmbckpmaaGreat
open Go Go.RowKit
attribute [local semireducible] T TC En PW GW OW CallsK CallsP Sl Rd Ls At S TA
section
variable {P : Program} {w0 : World} {H : List Hp} {R : List MP}
def sA (w : World) : Sto := fun b o => w.cell? ⟨b, o, none⟩
theorem S.quiet {w w' : World} (h : S w0 w H R) (hb : Below w.heap.size w w') : S w0 w' H R := by
  obtain ⟨s, h⟩ := h
  refine ⟨s, ⟨hb.os.trans h.below.os, hb.tape.trans h.below.tape, hb.output.trans h.below.output, Nat.le_trans h.below.size hb.size, fun k hk => (hb.block k (Nat.lt_of_lt_of_le hk h.below.size)).trans (h.below.block k hk)⟩, fun b o v hs => ?_, fun x hx => ?_, h.nd, h.rd⟩
  · exact (World.cell?_of_block (w := w) (hb.block b (h.st_lt hs))).trans (h.st b o v hs)
  · exact Hp.ok_of_heap (h.hp x hx) fun b hxb => ⟨hb.block b (Hp.own_lt (h.hp x hx) hxb).1, fun _ => rfl⟩
theorem S.self {w : World} {R1 : List MP} (hR1 : ∀ p ∈ R1, p.p (sA w)) : S w w [] R1 :=
  ⟨sA w, Below.refl _ _, fun b o v h => h, fun x hx => (by cases hx), List.nodup_nil, hR1⟩
theorem S.full_blk {w : World} {i b : Nat} {cs : List Value} {T : TypeId} (hs : S w0 w H R) (hi : H[i]? = some (.blk b cs T)) : (At b 0 cs).p (sA w) := by
  intro j v hj
  have := hs.blk_cells hi j v hj
  simpa [sA] using this
theorem S.full_row {w : World} {i m c : Nat} {A : Option Addr} {xs : List UInt8} (hs : S w0 w H R) (hi : H[i]? = some (.row (.slice A m c) 5 1 m (bA xs))) : (Sl (.slice A m c) xs).p (sA w) := by
  rcases hs.unrow hi with ⟨hv, h0, hnil⟩ | ⟨b, cap, sp, hv, h2, h3, h4, h5, h6⟩
  · have hx : xs = [] := by simpa [bA] using hnil
    cases hv
    subst hx
    exact ⟨none, 0, rfl, ⟨by simp, by simp [dY]⟩, fun h => by simp at h⟩
  · injection hv with e1 _ e2
    subst e1; subst e2
    have hml : m = xs.length := by simpa using h3.symm
    subst hml
    have hlt : i < H.length := (List.getElem?_eq_some_iff.1 hi).1
    have hat := h6.full_blk (i := i) (b := b) (cs := bA xs ++ sp) (T := 5) (by rw [List.getElem?_set_self hlt])
    refine ⟨_, _, rfl, ⟨h4, by simp only [maxLen] at h5; simp only [dY]; omega⟩, fun _ => ⟨b, 0, rfl, fun k x hk => ⟨[eP x], rfl, fun j v hj => ?_⟩⟩⟩
    have hj0 : j = 0 ∧ v = eP x := by
      cases j with
      | zero => simp at hj; exact ⟨rfl, hj.symm⟩
      | succ j => simp at hj
    obtain ⟨rfl, rfl⟩ := hj0
    have := hat k (eP x) (by
      rw [List.getElem?_append_left (by simp; exact (List.getElem?_eq_some_iff.1 hk).1)]
      simp [bA, hk])
    simpa [Rep.size] using this
/-- A call that makes nothing of ours: it may read what is owned. -/
theorem tO {f : FuncId} {args : Array Value} {K : Value → List Hp → List MP → Prop} (v : Value) (R1 : List MP) (h : ∀ w1, CallsK P w1 f args [] R1 (fun u _ _ => u = v)) (hR1 : ∀ w, S w0 w H R → ∀ p ∈ R1, p.p (sA w)) (k : K v H R) : CallsK P w0 f args H R K := fun w hs =>
  (h w w (S.self (hR1 w hs))).mono (fun e w' ⟨u, H', R', e1, hs', hu⟩ => ⟨v, H, R, by subst hu; exact e1, hs.quiet hs'.below, k⟩)
theorem S.row_at {w : World} {i m size : Nat} {v : Value} {T : TypeId} {cs : List Value} (hs : S w0 w H R) (hi : H[i]? = some (.row v T size m cs)) (hm : 0 < m) : ∃ b cap, v = .slice (some ⟨b, 0, none⟩) m cap ∧ m ≤ cap ∧ cap ≤ maxLen := by
  rcases hs.unrow hi with ⟨_, h0, _⟩ | ⟨b, cap, sp, h1, h2, h3, h4, h5, h6⟩
  · omega
  · exact ⟨b, cap, h1, h4, h5⟩
end
section
variable {F : Fence} {n : Nat} {P : Program} {w0 : World} {D : List Deferred} {ops : Array Oper} {Q : Exit → Act → World → Prop} {rest : List Oper} {E : List Value} {H : List Hp} {R : List MP}
theorem g6 (i : Nat) {v : Value} {T' : TypeId} {sz m : Nat} {cs : List Value} (hi : H[i]? = some (.row v T' sz m cs)) (hm : 0 < m) (k : ∀ b c, v = .slice (some ⟨b, 0, none⟩) m c → m ≤ c → c ≤ maxLen → T F n P w0 D ops Q rest E H R) : T F n P w0 D ops Q rest E H R := fun w hs => by
  obtain ⟨b, c, e, h1, h2⟩ := hs.row_at hi hm
  exact k b c e h1 h2 w hs
theorem dW {e : Exit} {α : Type} [Rep α] (i : Nat) {v : Value} {T' : TypeId} {sz m : Nat} {cs : List Value} {xs : List α} (hi : H[i]? = some (.row v T' sz m cs)) (hsz : Rep.size α = sz) (h0 : 0 < sz) (hx : Cx cs xs ∈ R) (k : ∀ A c, v = .slice A xs.length c → En w0 D Q e E (H.eraseIdx i) (Sl (.slice A xs.length c) xs :: R)) : En w0 D Q e E H R := fun w hs => by
  obtain ⟨A, c, e, h⟩ := hs.stays hi hsz h0 hx
  exact k A c e w h
/-! ### where branches join -/
def MidS (w0 : World) (D : List Deferred) (E0 : List Value) (js : List Nat) (M : (Nat → Value) → List Hp → List MP → Prop) : Exit → Act → World → Prop :=
  fun e a w => e = .normal ∧ ∃ j H R, a = iK (dX E0 js j) D ∧ S w0 w H R ∧ M j H R
theorem iY {x y : Code} (js : List Nat) (M : (Nat → Value) → List Hp → List MP → Prop) (h1 : TC F n P w0 D x (MidS w0 D E js M) E H R) (h2 : ∀ j H R, M j H R → TC F n P w0 D y Q (dX E js j) H R) : TC F n P w0 D (.seq x y) Q E H R := fun w hs =>
  wpIn_seq (wpIn_mono (h1 w hs) (fun e a w' ⟨he, j, H', R', e1, e2, e3⟩ => by
    subst he; subst e1
    exact h2 j H' R' e3 w' e2))
theorem fI {E0 : List Value} {js : List Nat} {M : (Nat → Value) → List Hp → List MP → Prop} (H' : List Hp) (R' : List MP) (hE : dX E0 js (fun i => E.getD i undef) = E) (hM : M (fun i => E.getD i undef) H' R') (hw : ∀ w, S w0 w H R → S w0 w H' R') : En w0 D (MidS w0 D E0 js M) .normal E H R := fun w hs =>
  ⟨rfl, _, H', R', by rw [hE], hw w hs, hM⟩
/-! ### round by round -/
def TCr (F : Fence) (n : Nat) (P : Program) (w0 : World) (D : List Deferred) (c : Code) (Q : Exit → Act → World → Prop) (m : Nat) (E : List Value) (H : List Hp) (R : List MP) : Prop :=
  ∀ w, S w0 w H R → Code.roundsIn F n P c Q m (iK E D) w
theorem mY {c : Code} (m : Nat) (h : TCr F n P w0 D c Q m E H R) : TC F n P w0 D (.loop c) Q E H R := fun w hs => wpIn_loop_rounds m (h w hs)
theorem gK {c : Code} {m : Nat} (h : TC F n P w0 D c (Exit.then (Code.roundsIn F n P c Q m) Q) E H R) : TCr F n P w0 D c Q (m + 1) E H R := fun w hs => h w hs
theorem jE {c : Code} {m : Nat} (h : TCr F n P w0 D c Q m E H R) : En w0 D (Exit.then (Code.roundsIn F n P c Q m) Q) .normal E H R := fun w hs => h w hs
end
attribute [irreducible] TCr
end Go.Proofs.YtggdljhmbckpmaaGreat
namespace Go.Proofs.YtggdljhmbckpmaaGreat
open Go Go.RowKit
attribute [local semireducible] T TC En PW GW OW CallsK CallsP Sl Rd Ls At S TA
section
variable {P : Program} {w0 : World} {H : List Hp} {R : List MP}
theorem nM (w : World) (t ty e : TypeId) (i : TypeInfo) (ht : P.underlying t = some (.slice e)) (hi : P.info? e = some i)
    (g off sLen sCap : Nat) (cur : Array Value) (hg : w.heap[g]? = some (.cells cur e (0, 0)))
    (a : Addr) (m c : Nat) (news : List Value) (hl : news.length = m * i.size) (hnews : ∀ j u, news[j]? = some u → w.cell? (a.add j) = some u) (h1 : ∀ u ∈ news, u.oneCell' = true)
    (hroom : sLen + m ≤ sCap) (hfit : off + sLen * i.size + news.length ≤ cur.size) :
    (Builtin.append_ #[t, t] ty #[.slice (some ⟨g, off, none⟩) sLen sCap, .slice (some a) m c]).run P w =
      .ok (.slice (some ⟨g, off, none⟩) (sLen + m) sCap) (w.setRow g (cur.toList.take (off + sLen * i.size) ++ news ++ cur.toList.drop (off + sLen * i.size + news.length)).toArray) := by
  have hf := run_firstCells_some (P := P) w i.size m a m c news hl hnews
  have hst := run_storeCells_at P g (off + sLen * i.size) e news 0 cur w hg (by simpa using hfit) h1
  simp only [Nat.add_zero] at hst
  simp [Builtin.append_, run_underlying ht, sizeOf, typeInfo, hi, Builtin.lenOf, hroom, hf, Addr.add_lit, hst]
/-- What a block's part reads as, once it stays. -/
theorem Sl_at {s : Sto} {b off n c : Nat} {cs : List Value} {xs : List UInt8} (hat : (At b 0 cs).p s) (hn : n = xs.length) (hc : n ≤ c) (hcm : c ≤ dY) (hx : ∀ k x, xs[k]? = some x → cs[off + k]? = some (eP x)) : (Sl (.slice (some ⟨b, off, none⟩) n c) xs).p s := by
  subst hn
  refine ⟨_, _, rfl, ⟨hc, hcm⟩, fun _ => ⟨b, off, rfl, fun k x hk => ⟨[eP x], rfl, fun j v hj => ?_⟩⟩⟩
  have hj0 : j = 0 ∧ v = eP x := by
    cases j with
    | zero => simp at hj; exact ⟨rfl, hj.symm⟩
    | succ j => simp at hj
  obtain ⟨rfl, rfl⟩ := hj0
  have := hat (off + k) (eP x) (hx k x hk)
  simpa [Rep.size] using this
end
section
variable {P : Program} {w0 : World} {E : List Value} {H : List Hp} {R : List MP} {ty : TypeId} {K : Value → List Hp → List MP → Prop}
/-- Bytes are appended to a part of an owned block: the outcome stays. -/
theorem sH {t : TypeId} {s x : Operand} (i j : Nat) {b off cap b9 c by_ : Nat} {zs cs : List Value} {xs ys : List UInt8} [h : TyL P t 5 1 by_ zs] (hs : ev E s = .slice (some ⟨b, off, none⟩) xs.length cap) (hx : ev E x = .slice (some ⟨b9, 0, none⟩) ys.length c)
    (hi : H[i]? = some (.blk b cs 5)) (hj : H[j]? = some (.blk b9 (bA ys) 5)) (hcs : ∀ k x, xs[k]? = some x → cs[off + k]? = some (eP x)) (hxc : xs.length ≤ cap) (hcap : cap ≤ maxLen) (hfit : off + cap ≤ cs.length)
    (hby : (xs.length + ys.length) * by_ ≤ 140737488355328) (hnm : xs.length + ys.length ≤ 140737488355328)
    (kk : ∀ A c', K (.slice A (xs ++ ys).length c') (H.eraseIdx i) (Sl (.slice A (xs ++ ys).length c') (xs ++ ys) :: R)) : GW P w0 E (.call ⟨.builtin .append, #[s, x], #[t, t]⟩) ty H R K := fun w hw => by
  obtain ⟨ti, z, hti, e1, e2, e3, e4, _⟩ := h.info
  have hzl : zs.length = 1 := h.len
  have hb := (hw.blk_heap hi).1
  have hnews : ∀ k u, (bA ys)[k]? = some u → w.cell? ((⟨b9, 0, none⟩ : Addr).add k) = some u := fun k u hk => by rw [Addr.add_mk]; exact hw.blk_cells hj k u hk
  have fin : ∀ v' w', (Builtin.append_ #[t, t] ty #[.slice (some ⟨b, off, none⟩) xs.length cap, .slice (some ⟨b9, 0, none⟩) ys.length c]).run P w = .ok v' w' → (∃ A c', v' = .slice A (xs ++ ys).length c' ∧ S w0 w' (H.eraseIdx i) (Sl (.slice A (xs ++ ys).length c') (xs ++ ys) :: R)) → ∃ v w' H' R', ((lR E (.call ⟨.builtin .append, #[s, x], #[t, t]⟩) ty).run P w = .ok (.value v) w' ∨ (lR E (.call ⟨.builtin .append, #[s, x], #[t, t]⟩) ty).run P w = .ok .skip w' ∧ v = undef) ∧ S w0 w' H' R' ∧ K v H' R' := fun v' w' hr ⟨A, c', e, hs'⟩ =>
    ⟨v', w', _, _, .inl (by simp [lR, execOp, resolve, invoke, builtin, hs, hx, hr]), hs', e ▸ kk A c'⟩
  by_cases hroom : xs.length + ys.length ≤ cap
  · have hr := nM (P := P) w t ty 5 ti h.und hti b off xs.length cap cs.toArray hb ⟨b9, 0, none⟩ ys.length c (bA ys) (by simp [e1]) hnews (lD _) hroom (by simp [e1]; omega)
    refine fin _ _ hr ⟨some ⟨b, off, none⟩, cap, by rw [List.length_append], ?_⟩
    have h2 := hw.setRow hi (cs.take (off + xs.length * ti.size) ++ bA ys ++ cs.drop (off + xs.length * ti.size + (bA ys).length))
    have hlt : i < H.length := (List.getElem?_eq_some_iff.1 hi).1
    have h3 := h2.freeze (i := i) (b := b) (T := 5) (by rw [List.getElem?_set_self hlt])
    rw [List.eraseIdx_set_eq] at h3
    refine (h3.add (Sl (.slice (some ⟨b, off, none⟩) (xs ++ ys).length cap) (xs ++ ys)) (fun s hR => Sl_at (hR _ List.mem_cons_self) rfl (by rw [List.length_append]; omega) (by simp only [maxLen] at hcap; simp only [dY]; omega) (fun k x hk => ?_))).weaken (List.Sublist.refl _) (fun p hp => by
      rcases List.mem_cons.1 hp with rfl | hp
      · simp
      · simp [hp])
    rw [e1, Nat.mul_one]
    by_cases hk' : k < xs.length
    · rw [List.getElem?_append_left hk'] at hk
      rw [List.append_assoc, List.getElem?_append_left (by simp; omega), List.getElem?_take, if_pos (by omega)]
      exact hcs k x hk
    · rw [List.getElem?_append_right (by omega)] at hk
      have hk2 := (List.getElem?_eq_some_iff.1 hk).1
      rw [List.append_assoc, List.getElem?_append_right (by simp; omega), List.getElem?_append_left (by simp; omega)]
      rw [List.length_take, Nat.min_eq_left (by omega), show off + k - (off + xs.length) = k - xs.length by omega]
      simp [bA, hk]
  · obtain ⟨v', w', hr, ho, hg⟩ := run_append_arg_grows (P := P) w t ty 5 ti z 1 by_ h.und hti e3 e1 e2 (by rw [e4]; simpa using hzl) (by omega) ⟨b, off, none⟩ xs.length cap (bA xs) (by simp) (fun k u hk => by
        rw [Addr.add_mk]
        have hk2 : ∃ x, xs[k]? = some x ∧ u = eP x := by
          simp only [bA, List.getElem?_map] at hk
          cases hx : xs[k]? with
          | none => rw [hx] at hk; cases hk
          | some x => rw [hx] at hk; exact ⟨x, rfl, by simpa using hk.symm⟩
        obtain ⟨x, hx1, rfl⟩ := hk2
        have := hw.blk_cells hi (off + k) (eP x) (hcs k x hx1)
        simpa using this) ⟨b9, 0, none⟩ ys.length c (bA ys) (by simp) hnews (by omega) (by simp only [maxLen]; omega) hby
    refine fin v' w' hr ?_
    have h2 := ((hw.drop i).nilrow 5 1).grow (i := 0) (n' := xs.length + ys.length) (v' := v') (cs' := bA xs ++ bA ys) rfl hg ⟨ho.1, ?_⟩ ?_
    · rw [← fE] at h2
      obtain ⟨A, c', e, h3⟩ := S.row_stays (i := 0) (m := xs.length + ys.length) (xs := xs ++ ys) h2 rfl
      exact ⟨A, c', e, h3⟩
    · rcases ho.2 with ho | ⟨g, cap', cur, k1, k2, k3⟩
      · exact .inl ho
      · exact .inr ⟨g, cap', cur, k1, Nat.le_trans hw.below.size k2, k3⟩
    · rcases ho.2 with ⟨ho, _⟩ | ⟨g, cap', cur, k1, k2, k3⟩
      · subst ho; exact .inl rfl
      · subst k1; exact .inr (.inr ⟨g, rfl, k2⟩)
end
end Go.Proofs.YtggdljhmbckpmaaGreat
namespace Go.Proofs.YtggdljhmbckpmaaGreat
open Go Go.RowKit
attribute [local semireducible] T TC En PW GW OW CallsK CallsP Sl Rd Ls At S TA
section
variable {P : Program} {w0 : World} {D : List Deferred} {ops : Array Oper} {Q : Exit → Act → World → Prop} {rest : List Oper} {E : List Value} {H : List Hp} {R : List MP}
theorem eI {v : Value} {K : Value → List Hp → List MP → Prop} {KP : List PanicEntry → List Hp → List MP → Prop} (H' : List Hp) (R' : List MP) (hw : ∀ w, S w0 w H R → S w0 w H' R') (hk : K v H' R') : ∀ w, S w0 w H R → (∃ u H' R', Ending.returned v = .returned u ∧ S w0 w H' R' ∧ K u H' R') ∨ (∃ ch H' R', Ending.returned v = .panicked ch ∧ S w0 w H' R' ∧ KP ch H' R') := fun w hs => .inl ⟨v, H', R', rfl, hw w hs, hk⟩
theorem cH {ch : List PanicEntry} {K : Value → List Hp → List MP → Prop} {KP : List PanicEntry → List Hp → List MP → Prop} (H' : List Hp) (R' : List MP) (hw : ∀ w, S w0 w H R → S w0 w H' R') (hk : KP ch H' R') : ∀ w, S w0 w H R → (∃ u H' R', Ending.panicked ch = .returned u ∧ S w0 w H' R' ∧ K u H' R') ∨ (∃ ch' H' R', Ending.panicked ch = .panicked ch' ∧ S w0 w H' R' ∧ KP ch' H' R') := fun w hs => .inr ⟨ch, H', R', rfl, hw w hs, hk⟩
theorem CallsP.k {f : FuncId} {args : Array Value} {K : Value → List Hp → List MP → Prop} (h : CallsP P w0 f args H R K (fun _ _ _ => False)) : CallsK P w0 f args H R K := fun w hs => (h w hs).mono (fun e w' he => by
  rcases he with he | ⟨ch, H', R', e1, e2, e3⟩
  · exact he
  · exact e3.elim)
/-! ### deferring -/
theorem tD {fo : Operand} {f : FuncId} {cap : List Value} {at_ : Array TypeId} {ty : TypeId} {pos : String} {aft : Array Edge} (hf : ev E fo = .func (.func f) #[] cap.toArray) (h : T Fence.wide 9 P w0 (⟨.fn (.func f) cap.toArray, #[]⟩ :: D) ops Q rest E H R) :
    T Fence.wide 9 P w0 D ops Q (⟨none, .defer ⟨.value fo, #[], at_⟩, ty, pos, aft, none⟩ :: rest) E H R := fun w hs => by
  unfold wpListIn
  rw [if_pos (by simp [Region.wanted])]
  refine ⟨fZ, ?_⟩
  have hrun : ((⟨none, .defer ⟨.value fo, #[], at_⟩, ty, pos, aft, none⟩ : Oper).semAt Fence.wide.round (iK E D).eval).run P w = .ok (.defer ⟨.fn (.func f) cap.toArray, #[]⟩) w := by
    rw [show Fence.wide.round = none from rfl, Oper.semAt_none, kE]
    simp [execOp, resolve, hf, Deferred.ofValue]
  rw [hrun]
  simp only [Oper.uponIn]
  exact h w hs
/-- On the way out, in whatever mode. -/
def s6 (P : Program) (w0 : World) (fn : Func) (K : Value → List Hp → List MP → Prop) (u : FrameMode) (D : List Deferred) (E : List Value) (H : List Hp) (R : List MP) : Prop :=
  ∀ w, S w0 w H R → LeavesInM Fence.wide 9 P fn E.toArray (fun e w' => ∃ v H' R', e = .returned v ∧ S w0 w' H' R' ∧ K v H' R') D u w
theorem fC {fn : Func} {K : Value → List Hp → List MP → Prop} {ch : List PanicEntry} (h : s6 P w0 fn K (.panicking ch) D E H R) : En w0 D (bodyPostM Fence.wide 9 P fn (fun e w' => ∃ v H' R', e = .returned v ∧ S w0 w' H' R' ∧ K v H' R')) (.panic ch) E H R := fun w hs => h w hs
theorem lI {fn : Func} {K : Value → List Hp → List MP → Prop} {e : Exit} (he : e = .ret ∨ e = .normal) (h : s6 P w0 fn K .returning D E H R) : En w0 D (bodyPostM Fence.wide 9 P fn (fun e w' => ∃ v H' R', e = .returned v ∧ S w0 w' H' R' ∧ K v H' R')) e E H R := fun w hs => by
  rcases he with rfl | rfl <;> exact h w hs
theorem nI {fn : Func} {K : Value → List Hp → List MP → Prop} {v : Value} (hr : ∀ w, S w0 w H R → (results fn E.toArray).run P w = .ok v w) (H' : List Hp) (R' : List MP) (hw : ∀ w, S w0 w H R → S w0 w H' R') (hk : K v H' R') : s6 P w0 fn K .returning [] E H R := fun w hs =>
  ⟨v, hr w hs, v, H', R', rfl, hw w hs, hk⟩
/-- What the deferred function's own body must lead to: the outer one leaves by what is deferred still. -/
def xG (P : Program) (w0 : World) (fn : Func) (K : Value → List Hp → List MP → Prop) (D : List Deferred) (E : List Value) : Exit → Act → World → Prop :=
  fun e a w => (e = .normal ∨ e = .ret) ∧ a.defers = [] ∧ LeavesInM Fence.wide 9 P fn E.toArray (fun e w' => ∃ v H' R', e = .returned v ∧ S w0 w' H' R' ∧ K v H' R') D .returning w
theorem mW {fn : Func} {K : Value → List Hp → List MP → Prop} {ds : List Deferred} {E' : List Value} {e : Exit} (he : e = .normal ∨ e = .ret) (h : s6 P w0 fn K .returning ds E' H R) : En w0 [] (xG P w0 fn K ds E') e E H R := fun w hs => ⟨he, rfl, h w hs⟩
theorem uC {fn : Func} {ds : List Deferred} {K : Value → List Hp → List MP → Prop} {E' : List Value} {p : Tmp → Prop} (c : List PanicEntry) (E : List Value) (e : Tmp) (v : Value) (w : World) (_ : p e) (h : xG P w0 fn K ds E' (.panic c) (iK (dP E (some e) v) []) w) : xG P w0 fn K ds E' (.panic c) (iK E []) w := by
  rcases h.1 with e | e <;> cases e
/-- What recover gives in a mode. -/
def recV : FrameMode → Option Value
  | .returning => some .nilIface
  | .panicking [{ v, recovered := false, goexit := false }] => some v
  | _ => none
theorem pC {fn fd : Func} {K : Value → List Hp → List MP → Prop} {u : FrameMode} {x : Value} {f : FuncId} {c : Code} {cap : List Value} {ds : List Deferred} {d : Tmp} {m id : Nat} {at_ : Array TypeId} {ty : TypeId} {pos : String} {aft : Array Edge} [FnOk P f]
    (hf : P.funcs[f]? = some fd) (hb : fd.body = some (.seq (.region id #[⟨some d, .call ⟨.builtin .recover, #[], at_⟩, ty, pos, aft, none⟩] false) c)) (hres : fd.results = #[]) (hn : fd.ntmps = m) {E2 : List Value} (hu : recV u = some x)
    (hE : dP (cap ++ List.replicate (m - cap.length) undef) (some d) x = E2)
    (h : TC Fence.wide 8 P w0 [] c (xG P w0 fn K ds E) E2 H R) : s6 P w0 fn K u (⟨.fn (.func f) cap.toArray, #[]⟩ :: ds) E H R := fun w hs => by
  have hurun : u ≠ .run := fun e => by subst e; simp [recV] at hu
  refine ⟨hurun, .inr ⟨fun _ => (by decide), .func f, cap.toArray, f, cap.toArray, rfl, ?_, fun _ _ => trivial, ?_⟩⟩
  · simp [invoke, FnOk.run]
  refine callsDIn_of_wpSIn hf hb trivial (fun c₀ cs hc₀ => ?_)
  refine wpSIn_seq (wpSIn_region ?_)
  have hE' : cap.toArray ++ Array.replicate (fd.ntmps - cap.toArray.size) undef = (cap ++ List.replicate (m - cap.length) undef).toArray := by rw [hn]; simp
  rw [hE']
  simp only [List.size_toArray, List.length_cons, List.length_nil, Nat.zero_add, List.range_succ, List.range_zero, List.nil_append, wpOpsSIn, List.getElem?_toArray, List.getElem?_cons_zero]
  refine ⟨fun _ _ => trivial, ?_⟩
  rw [if_pos (by simp [Region.wanted])]
  have hrun : ∀ a : Act, (execOp a.eval ⟨some d, .call ⟨.builtin .recover, #[], at_⟩, ty, pos, aft, none⟩).run P w = .ok .recover w := fun a => by
    simp [execOp, resolve, invoke, builtin]
  rw [hrun]
  simp only
  have hput : ((⟨(cap ++ List.replicate (m - cap.length) undef).toArray, []⟩ : Act).put (some d) x) = iK E2 [] := by
    have := hU (cap ++ List.replicate (m - cap.length) undef) [] (some d) x
    rw [hE] at this
    exact this
  have key : ∀ (c₁ : Frame) (u' : FrameMode), c₁ = { c₀ with mode := u' } → settle u' = .returning → c.wpSIn Fence.wide 8 P (bodyPostS P fd c₀ cs (fun e u' w' => match e with
        | .returned _ => LeavesInM Fence.wide 9 P fn E.toArray (fun e w' => ∃ v H' R', e = .returned v ∧ S w0 w' H' R' ∧ K v H' R') ds (settle u') w'
        | .panicked chain => LeavesInM Fence.wide 9 P fn E.toArray (fun e w' => ∃ v H' R', e = .returned v ∧ S w0 w' H' R' ∧ K v H' R') ds (raised u' chain) w'
        | .outgrown => ∃ v H' R', Ending.outgrown = .returned v ∧ S w0 w' H' R' ∧ K v H' R')) (iK E2 []) (c₁ :: cs) w := fun c₁ u' hc hset => by
    refine wpSIn_of_wpIn rfl (wpIn_mono (h w hs) ?_)
    rintro e a' w' ⟨he, hd, hl⟩
    have hr : (results fd a'.tmps).run P w' = .ok (.tuple #[]) w' := by simp [results, hres]
    rcases he with rfl | rfl
    · exact ⟨hd, u', by rw [hc], _, hr, by simp only [hset]; exact hl⟩
    · exact ⟨hd, u', by rw [hc], _, hr, by simp only [hset]; exact hl⟩
  unfold recV at hu
  split at hu
  · cases hu
    have hrec : recoverD (c₀ :: cs) = none := by simp [recoverD, hc₀]
    rw [hrec]
    simp only
    rw [hput]
    exact key c₀ .returning (by rw [← hc₀]) rfl
  · rename_i v
    cases hu
    have hrec : recoverD (c₀ :: cs) = some (x, { c₀ with mode := .panicking [{ v := x, recovered := true }] } :: cs) := by simp [recoverD, hc₀]
    rw [hrec]
    simp only
    rw [hput]
    exact key _ _ rfl (by simp [settle])
  · cases hu
end
section
variable {P : Program} {w0 : World} {E : List Value} {H : List Hp} {R : List MP} {ty : TypeId} {K : Value → List MP → Prop}
class TyI (P : Program) (t : TypeId) : Prop where
  und : P.underlying t = some (.interface (P.methodsAt t))
theorem kQ {t t' : TypeId} {x y : Operand} {u : TypeId} {v : Value} [h : TyI P t] (hx : ev E x = .iface u v) (hy : ev E y = .nilIface) (kk : K (.bool false) R) : PW P w0 E (.binOp .eql t x y t') ty H R K :=
  eV rfl (fun w _ => by
    have hg : (eqGuard .eql t x y (.iface u v) .nilIface).run P w = .ok () w := by cases x <;> cases y <;> rfl
    rw [hx, hy]; simp only [Sem.run_bind, hg, Result.andThen_ok, run_eql_held_nil w t u v h.und]) kk
theorem pF {t t' : TypeId} {x : Operand} [h : TyI P t] (hx : ev E x = .nilIface) (kk : K (.bool true) R) : PW P w0 E (.binOp .eql t x (.const .nilIface) t') ty H R K :=
  eV rfl (fun w _ => by
    have hg : (eqGuard .eql t x (.const .nilIface) .nilIface .nilIface).run P w = .ok () w := by cases x <;> rfl
    have hy : ev E (.const .nilIface) = .nilIface := rfl
    rw [hx, hy]; simp only [Sem.run_bind, hg, Result.andThen_ok, run_eql_nil_nil w t h.und]) kk
theorem kO {x : Operand} {t a : TypeId} {v : Value} {d : TypeDesc} [h : TyU P a d] (hd : (match d with | .interface _ => false | _ => true) = true) (hx : ev E x = .iface a v) (kk : K (.tuple #[v, .bool true]) R) : PW P w0 E (.typeAssert x t a true) ty H R K :=
  eV rfl (fun w _ => by
    rw [hx]
    unfold Instr.typeAssert
    simp only [Sem.run_bind, run_underlying h.und, Result.andThen_ok]
    cases d <;> simp at hd ⊢) kk
end
/-! ### what is returned does not lean on a region's slots -/
def vU (fn : Func) : List Nat := fn.results.toList.map (fun | .tmp t => t | .cell a _ => a)
theorem uN {fn : Func} {E : List Value} {e : Nat} {v : Value} (h : e ∉ vU fn) : results fn (E.set e v).toArray = results fn E.toArray := by
  rw [kF, kF]
  have key : ∀ (l : List ResultVar), (∀ r ∈ l, (match r with | .tmp t => t | .cell a _ => a) ≠ e) → l.mapM (r9 (E.set e v).toArray) = l.mapM (r9 E.toArray) := by
    intro l
    induction l with
    | nil => intro _; rfl
    | cons r l ih =>
      intro hl
      have h1 : r9 (E.set e v).toArray r = r9 E.toArray r := by
        have := hl r (by simp)
        cases r with
        | tmp t => simp only at this; simp [r9, List.getElem?_set_ne (Ne.symm this)]
        | cell a t => simp only at this; simp [r9, List.getElem?_set_ne (Ne.symm this)]
      simp only [List.mapM_cons, h1, ih (fun r hr => hl r (List.mem_cons_of_mem _ hr))]
  have := key fn.results.toList (fun r hr he => h (by
    unfold vU
    exact List.mem_map.2 ⟨r, hr, he⟩))
  rw [Array.mapM_eq_mapM_toList, Array.mapM_eq_mapM_toList, this]
theorem kP {F : Fence} {n : Nat} {P : Program} {fn : Func} {Rp : Ending → World → Prop} {t t' : Array Value} (h : results fn t = results fn t') : ∀ (ds : List Deferred) (u : FrameMode) (w : World), LeavesIn F n P fn t Rp ds u w → LeavesIn F n P fn t' Rp ds u w
  | [], .returning, w, hl => by
    obtain ⟨v, h1, h2⟩ := hl
    exact ⟨v, by rw [← h]; exact h1, h2⟩
  | [], .panicking c, w, hl => hl
  | [], .run, w, hl => hl
  | d :: ds, u, w, hl => by
    obtain ⟨h1, h2, fv, cap, f, args, e1, e2, e3, h4⟩ := hl
    refine ⟨h1, h2, fv, cap, f, args, e1, e2, e3, h4.mono ?_⟩
    intro e u' w' hh
    cases e with
    | returned v => exact kP h ds _ _ hh
    | panicked c => exact kP h ds _ _ hh
    | outgrown => exact hh
theorem iX {F : Fence} {n : Nat} {P : Program} {fn : Func} {Rp : Ending → World → Prop} {t t' : Array Value} (h : results fn t = results fn t') : ∀ (ds : List Deferred) (u : FrameMode) (w : World), LeavesInM F n P fn t Rp ds u w → LeavesInM F n P fn t' Rp ds u w
  | [], u, w, hl => kP h [] u w hl
  | d :: ds, u, w, hl => by
    obtain ⟨h1, h2⟩ := hl
    refine ⟨h1, ?_⟩
    rcases h2 with ⟨r, w', e1, e2, e3⟩ | ⟨hn, fv, cap, f, args, e1, e2, e3, h4⟩
    · exact .inl ⟨r, w', e1, e2, iX h ds _ _ e3⟩
    · refine .inr ⟨hn, fv, cap, f, args, e1, e2, e3, h4.mono ?_⟩
      intro e u' w' hh
      cases e with
      | returned v => exact iX h ds _ _ hh
      | panicked c => exact iX h ds _ _ hh
      | outgrown => exact hh
/-- For a region of a body that recovers. -/
theorem qB {P : Program} {fn : Func} {ops : Array Oper} {Rp : Ending → World → Prop} {D : List Deferred} (hr : (ops.all fun o => (vU fn).all fun r => !(o.dst == some r)) = true) (c : List PanicEntry) (E : List Value) (e : Tmp) (v : Value) (w : World) (hd : mN ops e = true)
    (h : bodyPostM Fence.wide 9 P fn Rp (.panic c) (iK (dP E (some e) v) D) w) : bodyPostM Fence.wide 9 P fn Rp (.panic c) (iK E D) w := by
  refine iX (uN (v := v) (fun hm => ?_)) D _ w h
  unfold mN at hd
  obtain ⟨o, ho, hoe⟩ := Array.any_eq_true'.1 hd
  have h1 := Array.all_eq_true'.1 hr o ho
  have h2 := List.all_eq_true.1 h1 e hm
  rw [hoe] at h2
  cases h2
attribute [irreducible] s6
end Go.Proofs.YtggdljhmbckpmaaGreat
