/- Readings of values as data; triples over a list of temporaries, owned blocks and lasting facts; the rules for code. -/
import Derived.Test.YtggdljhmbckpmaaA1
set_option linter.unusedVariables false
set_option linter.unusedSimpArgs false
namespace Go.Proofs.Ytggdljhmbckpmaa
open Go Go.RowKit
attribute [local semireducible] At S

/-! ### 1. Data in cells -/
class Rep (α : Type) where
  size : Nat
  rd : Sto → List Value → α → Prop
  mono : ∀ {s t : Sto} {cs : List Value} {x : α}, s.le t → rd s cs x → rd t cs x
  len : ∀ {s : Sto} {cs : List Value} {x : α}, rd s cs x → cs.length = size
  one : ∀ {s : Sto} {cs : List Value} {x : α}, rd s cs x → ∀ c ∈ cs, c.oneCell' = true

def Rd {α : Type} [Rep α] (cs : List Value) (x : α) : MP := ⟨fun s => Rep.rd s cs x, fun _ _ h hp => Rep.mono h hp⟩

/-- 'xs' lie from (b, o) on. -/
def Ls {α : Type} [Rep α] (b o : Nat) (xs : List α) : MP where
  p s := ∀ i x, xs[i]? = some x → ∃ cs, Rep.rd s cs x ∧ ∀ j v, cs[j]? = some v → s b (o + i * Rep.size α + j) = some v
  mono s t h hp i x hi := by
    obtain ⟨cs, h1, h2⟩ := hp i x hi
    exact ⟨cs, Rep.mono h h1, fun j v hj => h _ _ _ (h2 j v hj)⟩

def maxL : Nat := 9223372036854775807

/-- A slice value reads as the list 'xs'. -/
def Sl {α : Type} [Rep α] (v : Value) (xs : List α) : MP where
  p s := ∃ A c, v = .slice A xs.length c ∧ (xs.length ≤ c ∧ c ≤ maxL) ∧ (0 < xs.length → ∃ b o, A = some ⟨b, o, none⟩ ∧ (Ls b o xs).p s)
  mono s t h hp := by
    obtain ⟨A, c, h1, h2, h3⟩ := hp
    refine ⟨A, c, h1, h2, fun h0 => ?_⟩
    obtain ⟨b, o, e, hl⟩ := h3 h0
    exact ⟨b, o, e, (Ls b o xs).mono _ _ h hl⟩

instance {α : Type} [Rep α] : Rep (List α) where
  size := 1
  rd s cs xs := ∃ v, cs = [v] ∧ (Sl v xs).p s
  mono h hp := by obtain ⟨v, e, k⟩ := hp; exact ⟨v, e, (Sl v _).mono _ _ h k⟩
  len hp := by obtain ⟨v, rfl, k⟩ := hp; rfl
  one hp := by obtain ⟨v, rfl, A, c, rfl, _⟩ := hp; simp [Value.oneCell']

instance : Rep UInt8 where
  size := 1
  rd _ cs c := cs = [.int .u8 (c.toNat : Int)]
  mono _ h := h
  len h := by subst h; rfl
  one h := by subst h; simp [Value.oneCell']

instance : Rep Int where
  size := 1
  rd _ cs n := cs = [.int .i64 n] ∧ -9223372036854775808 ≤ n ∧ n ≤ 9223372036854775807
  mono _ h := h
  len h := by obtain ⟨rfl, _⟩ := h; rfl
  one h := by obtain ⟨rfl, _⟩ := h; simp [Value.oneCell']

instance : Rep Bool where
  size := 1
  rd _ cs n := cs = [.bool n]
  mono _ h := h
  len h := by subst h; rfl
  one h := by subst h; simp [Value.oneCell']

instance : Rep ByteArray where
  size := 1
  rd _ cs n := cs = [.string n] ∧ n.size ≤ maxL
  mono _ h := h
  len h := by obtain ⟨rfl, _⟩ := h; rfl
  one h := by obtain ⟨rfl, _⟩ := h; simp [Value.oneCell']

theorem Sl_shape {α : Type} [Rep α] {w0 w : World} {H : List Hp} {R : List MP} {v : Value} {xs : List α} (h : S w0 w H R) (hm : Sl v xs ∈ R) : ∃ A c, v = .slice A xs.length c ∧ (xs.length ≤ c ∧ c ≤ maxL) := by
  obtain ⟨s, h⟩ := h
  obtain ⟨A, c, h1, h2, _⟩ := h.rd _ hm
  exact ⟨A, c, h1, h2⟩

/-! ### 2. Temporaries -/
def act (E : List Value) (D : List Deferred) : Act := ⟨E.toArray, D⟩
def ev (E : List Value) : Operand → Value
  | .tmp t => E.getD t undef
  | .const v => v
  | .global g => .pointer (some ⟨g, 0, none⟩)
  | .func f => .func (.func f) #[] #[]
theorem act_eval (E : List Value) (D : List Deferred) : (act E D).eval = ev E := by
  funext x; cases x <;> simp [act, Act.eval, ev]
def setD (E : List Value) (d : Option Tmp) (v : Value) : List Value := match d with | some i => E.set i v | none => E
theorem act_put (E : List Value) (D : List Deferred) (d : Option Tmp) (v : Value) : (act E D).put d v = act (setD E d v) D := by
  cases d <;> simp [act, Act.put, setD]

class Wd (F : Fence) : Prop where
  eq : F = { Fence.wide with round := F.round }
instance : Wd Fence.wide := ⟨rfl⟩
instance {F : Fence} [h : Wd F] (l : Nat) : Wd (F.inRound l) := ⟨by
  have := h.eq
  unfold Fence.inRound
  rw [this]⟩
theorem Wd.calls {F : Fence} [h : Wd F] {m : Nat} {P : Program} {f : FuncId} {args : Array Value} {w : World} {R : Ending → World → Prop} (hc : Calls P f args w R) : CallsIn F m P f args w R := by
  have h1 := (callsIn_wide (n := m)).2 hc
  rw [h.eq]
  exact h1
theorem Wd.fn {F : Fence} [h : Wd F] (f : FuncId) : F.fn f := by rw [h.eq]; trivial
theorem Wd.dep {F : Fence} [h : Wd F] {n : Nat} : F.depth.isSome = true → 1 ≤ n := by rw [h.eq]; intro h; cases h

def notDefer : Op → Bool
  | .defer _ => false
  | _ => true
section
variable (F : Fence) (n : Nat) (P : Program) (w0 : World) (D : List Deferred)
def T (ops : Array Oper) (Q : Exit → Act → World → Prop) (rest : List Oper) (E : List Value) (H : List Hp) (R : List MP) : Prop :=
  ∀ w, S w0 w H R → wpListIn F n P ops Q rest (act E D) w
def TC (c : Code) (Q : Exit → Act → World → Prop) (E : List Value) (H : List Hp) (R : List MP) : Prop :=
  ∀ w, S w0 w H R → c.wpIn F n P Q (act E D) w
def En (Q : Exit → Act → World → Prop) (e : Exit) (E : List Value) (H : List Hp) (R : List MP) : Prop :=
  ∀ w, S w0 w H R → Q e (act E D) w

def xop (E : List Value) (op : Op) (ty : TypeId) : Sem Next := execOp (ev E) ⟨none, op, ty, "", #[], none⟩
/-- An operation that gives one value in whatever world that meets what is known, and turns nothing. -/
def PW (E : List Value) (op : Op) (ty : TypeId) (H : List Hp) (R : List MP) (K : Value → List MP → Prop) : Prop :=
  ∀ w s, Ok w0 s w H R → ∃ v R', (∀ w', S w0 w' H R' → (xop E op ty).run P w' = .ok (.value v) w') ∧ (∀ p ∈ R, p ∈ R') ∧ (∀ p ∈ R', p.p s) ∧ K v R'
/-- An operation that makes or turns memory. -/
def GW (E : List Value) (op : Op) (ty : TypeId) (H : List Hp) (R : List MP) (K : Value → List Hp → List MP → Prop) : Prop :=
  ∀ w, S w0 w H R → ∃ v w' H' R', ((xop E op ty).run P w = .ok (.value v) w' ∨ (xop E op ty).run P w = .ok .skip w' ∧ v = undef) ∧ S w0 w' H' R' ∧ K v H' R'
/-- An operation that calls. -/
def OW (Q : Exit → Act → World → Prop) (o : Oper) (E : List Value) (H : List Hp) (R : List MP) (K : Value → List Hp → List MP → Prop) : Prop :=
  ∀ w, S w0 w H R → o.wpIn F n P (act E D) w (fun a' w' => ∃ v H' R', a' = act (setD E o.dst v) D ∧ S w0 w' H' R' ∧ K v H' R') Q
def CallsK (f : FuncId) (args : Array Value) (H : List Hp) (R : List MP) (K : Value → List Hp → List MP → Prop) : Prop :=
  ∀ w, S w0 w H R → Calls P f args w (fun e w' => ∃ v H' R', e = .returned v ∧ S w0 w' H' R' ∧ K v H' R')
/-- A call that may panic. -/
def CallsP (f : FuncId) (args : Array Value) (H : List Hp) (R : List MP) (K : Value → List Hp → List MP → Prop) (KP : List PanicEntry → List Hp → List MP → Prop) : Prop :=
  ∀ w, S w0 w H R → Calls P f args w (fun e w' => (∃ v H' R', e = .returned v ∧ S w0 w' H' R' ∧ K v H' R') ∨ (∃ ch H' R', e = .panicked ch ∧ S w0 w' H' R' ∧ KP ch H' R'))
end

section
variable {F : Fence} {n : Nat} {P : Program} {w0 : World} {D : List Deferred} {ops : Array Oper} {Q : Exit → Act → World → Prop} {rest : List Oper} {E : List Value} {H : List Hp} {R : List MP}

theorem Ok.more {w : World} {s : Sto} {R' : List MP} (h : Ok w0 s w H R) (hp : ∀ p ∈ R', p.p s) : Ok w0 s w H R' := ⟨h.below, h.st, h.hp, h.nd, hp⟩
/-! ### 3. The code -/
theorem TC_seq {x y : Code} (h : TC F n P w0 D x (Exit.then (y.wpIn F n P Q) Q) E H R) : TC F n P w0 D (.seq x y) Q E H R := fun w hs => wpIn_seq (h w hs)
theorem TC_block {id : Nat} {x : Code} (h : TC F n P w0 D x (Exit.inBlock id Q) E H R) : TC F n P w0 D (.block id x) Q E H R := fun w hs => wpIn_block (h w hs)
theorem TC_skip (h : En w0 D Q .normal E H R) : TC F n P w0 D .skip Q E H R := fun w hs => wpIn_skip (h w hs)
theorem TC_ret (h : En w0 D Q .ret E H R) : TC F n P w0 D .ret Q E H R := fun w hs => wpIn_ret (h w hs)
theorem TC_exit {id : Nat} (h : En w0 D Q (.exit id) E H R) : TC F n P w0 D (.exit id) Q E H R := fun w hs => wpIn_exit (h w hs)
theorem TC_cond_true {c : Operand} {x y : Code} (hc : ev E c = .bool true) (h : TC F n P w0 D x Q E H R) : TC F n P w0 D (.cond c x y) Q E H R := fun w hs => wpIn_cond_true (by rw [act_eval]; exact hc) (h w hs)
theorem TC_cond_false {c : Operand} {x y : Code} (hc : ev E c = .bool false) (h : TC F n P w0 D y Q E H R) : TC F n P w0 D (.cond c x y) Q E H R := fun w hs => wpIn_cond_false (by rw [act_eval]; exact hc) (h w hs)
theorem En_then {y : Code} (h : TC F n P w0 D y Q E H R) : En w0 D (Exit.then (y.wpIn F n P Q) Q) .normal E H R := h
theorem En_then_ret {K : Act → World → Prop} (h : En w0 D Q .ret E H R) : En w0 D (Exit.then K Q) .ret E H R := h
theorem En_then_exit {K : Act → World → Prop} {id : Nat} (h : En w0 D Q (.exit id) E H R) : En w0 D (Exit.then K Q) (.exit id) E H R := h
theorem En_then_panic {K : Act → World → Prop} {ch : List PanicEntry} (h : En w0 D Q (.panic ch) E H R) : En w0 D (Exit.then K Q) (.panic ch) E H R := h
theorem En_block {id : Nat} (h : En w0 D Q .normal E H R) : En w0 D (Exit.inBlock id Q) .normal E H R := h
theorem En_block_ret {id : Nat} (h : En w0 D Q .ret E H R) : En w0 D (Exit.inBlock id Q) .ret E H R := h
theorem En_block_panic {id : Nat} {ch : List PanicEntry} (h : En w0 D Q (.panic ch) E H R) : En w0 D (Exit.inBlock id Q) (.panic ch) E H R := h
theorem En_block_exit {id : Nat} (h : En w0 D Q .normal E H R) : En w0 D (Exit.inBlock id Q) (.exit id) E H R := fun w hs => by
  simp only [Exit.inBlock, if_pos]
  exact h w hs
theorem En_block_exit_ne {id id' : Nat} (hne : (id' == id) = false) (h : En w0 D Q (.exit id') E H R) : En w0 D (Exit.inBlock id Q) (.exit id') E H R := fun w hs => by
  have : ¬ id' = id := by simpa using hne
  have h' := h w hs
  simp [Exit.inBlock, this]
  exact h'

/-- What one loop owes: a number that falls. -/
def Back (w0 : World) (D : List Deferred) (I : Nat → List Value → List Hp → List MP → Prop) (m : Nat) : Act → World → Prop :=
  fun a w => ∃ k, k < m ∧ ∃ E H R, a = act E D ∧ S w0 w H R ∧ I k E H R
theorem TC_loop {c : Code} (I : Nat → List Value → List Hp → List MP → Prop) (m : Nat) (h0 : I m E H R)
    (round : ∀ m E H R, I m E H R → TC F n P w0 D c (Exit.then (Back w0 D I m) Q) E H R) : TC F n P w0 D (.loop c) Q E H R := by
  intro w hs
  refine wpIn_loop_ghost (fun m a w => ∃ E H R, a = act E D ∧ S w0 w H R ∧ I m E H R) m ⟨E, H, R, rfl, hs, h0⟩ ?_
  rintro m a w ⟨E, H, R, rfl, hs, hI⟩
  refine wpIn_mono (round m E H R hI w hs) ?_
  intro e a' w' hq
  cases e with
  | normal =>
    obtain ⟨k, hk, E', H', R', e1, e2, e3⟩ := hq
    exact ⟨k, hk, E', H', R', e1, e2, e3⟩
  | _ => exact hq
theorem En_back {I : Nat → List Value → List Hp → List MP → Prop} {m : Nat} (k : Nat) (hk : k < m) (H' : List Hp) (R' : List MP) (hI : I k E H' R') (hw : ∀ w, S w0 w H R → S w0 w H' R') :
    En w0 D (Exit.then (Back w0 D I m) Q) .normal E H R := fun w hs => ⟨k, hk, E, H', R', rfl, hw w hs, hI⟩

theorem TC_weaken {c : Code} (H' : List Hp) (R' : List MP) (hw : ∀ w, S w0 w H R → S w0 w H' R') (h : TC F n P w0 D c Q E H' R') : TC F n P w0 D c Q E H R := fun w hs => h w (hw w hs)
theorem En_weaken {e : Exit} (H' : List Hp) (R' : List MP) (hw : ∀ w, S w0 w H R → S w0 w H' R') (h : En w0 D Q e E H' R') : En w0 D Q e E H R := fun w hs => h w (hw w hs)
theorem T_weaken (H' : List Hp) (R' : List MP) (hw : ∀ w, S w0 w H R → S w0 w H' R') (h : T F n P w0 D ops Q rest E H' R') : T F n P w0 D ops Q rest E H R := fun w hs => h w (hw w hs)
theorem TC_mono {c : Code} {Q' : Exit → Act → World → Prop} (h : TC F n P w0 D c Q' E H R) (hq : ∀ e a w, Q' e a w → Q e a w) : TC F n P w0 D c Q E H R := fun w hs => wpIn_mono (h w hs) hq

/-! ### 4. A region -/
theorem wpOpsIn_eq_wpListIn (l : List Oper) : ∀ k, (∀ j, l[j]? = ops[k + j]?) → wpOpsIn F n P ops Q (List.range' k l.length) = wpListIn F n P ops Q l := by
  induction l with
  | nil => intro k _; funext a w; simp [wpOpsIn, wpListIn]
  | cons o l ih =>
    intro k h
    have h0 : ops[k]? = some o := by simpa using (h 0).symm
    have ih' := ih (k + 1) (fun j => by have := h (j + 1); simpa [Nat.add_assoc, Nat.add_comm 1 j] using this)
    funext a w
    simp only [List.length_cons, List.range'_succ, wpOpsIn, h0, wpListIn, ih']
theorem TC_region {id : Nat} {l : List Oper} (h : T F n P w0 D l.toArray Q l E H R) : TC F n P w0 D (.region id l.toArray false) Q E H R := fun w hs => by
  refine wpIn_region ?_
  have := wpOpsIn_eq_wpListIn (F := F) (n := n) (P := P) (Q := Q) (ops := l.toArray) l 0 (by simp)
  rw [← List.range_eq_range'] at this
  simp only [List.size_toArray]
  rw [this]
  exact h w hs
theorem T_nil (h : En w0 D Q .normal E H R) : T F n P w0 D ops Q [] E H R := h
theorem T_env {E' : List Value} (h : E = E') (k : T F n P w0 D ops Q rest E' H R) : T F n P w0 D ops Q rest E H R := h ▸ k

theorem about_none [Wd F] {o : Oper} {a : Act} {w : World} : ∀ f, o.about P w a.eval = some f → F.fn f := fun f _ => Wd.fn f

theorem sem_of_op {o : Oper} (hd : ∀ c, o.op ≠ .defer c) : (o.semAt F.round (act E D).eval) = xop E o.op o.type := by
  rw [Oper.semAt_eq _ _ _ hd, act_eval]; rfl

theorem T_skipped [Wd F] {o : Oper} (hw : Region.wanted o (yielded ops E.toArray) = false) (h : T F n P w0 D ops Q rest (setD E o.dst undef) H R) : T F n P w0 D ops Q (o :: rest) E H R := fun w hs => by
  unfold wpListIn
  rw [if_neg (by simpa [act] using hw)]
  exact ⟨about_none, by rw [act_put]; exact h w hs⟩
theorem T_pure [Wd F] {dst : Option Tmp} {op : Op} {ty : TypeId} {pos : String} {aft : Array Edge} {g : Option (Nat × Bool)} (hw : Region.wanted ⟨dst, op, ty, pos, aft, g⟩ (yielded ops E.toArray) = true) (hd : notDefer op = true)
    (h : PW P w0 E op ty H R (fun v R' => T F n P w0 D ops Q rest (setD E dst v) H R')) : T F n P w0 D ops Q (⟨dst, op, ty, pos, aft, g⟩ :: rest) E H R := fun w hs => by
  obtain ⟨s, hok⟩ := hs
  obtain ⟨v, R', h1, h2, h3, h4⟩ := h w s hok
  replace h3 : S w0 w H R' := ⟨s, hok.more h3⟩
  unfold wpListIn
  rw [if_pos (by simpa [act] using hw)]
  refine ⟨about_none, ?_⟩
  rw [sem_of_op (by intro c e; simp only at e; rw [e] at hd; cases hd), h1 w h3]
  simp only [Oper.uponIn]
  rw [act_put]; exact h4 w h3
theorem T_gen [Wd F] {dst : Option Tmp} {op : Op} {ty : TypeId} {pos : String} {aft : Array Edge} {g : Option (Nat × Bool)} (hw : Region.wanted ⟨dst, op, ty, pos, aft, g⟩ (yielded ops E.toArray) = true) (hd : notDefer op = true)
    (h : GW P w0 E op ty H R (fun v H' R' => T F n P w0 D ops Q rest (setD E dst v) H' R')) : T F n P w0 D ops Q (⟨dst, op, ty, pos, aft, g⟩ :: rest) E H R := fun w hs => by
  obtain ⟨v, w', H', R', h1, h3, h4⟩ := h w hs
  unfold wpListIn
  rw [if_pos (by simpa [act] using hw)]
  refine ⟨about_none, ?_⟩
  rw [sem_of_op (by intro c e; simp only at e; rw [e] at hd; cases hd)]
  rcases h1 with h1 | ⟨h1, rfl⟩
  · rw [h1]; simp only [Oper.uponIn]; rw [act_put]; exact h4 w' h3
  · rw [h1]; simp only [Oper.uponIn]; rw [act_put]; exact h4 w' h3
theorem T_ow [Wd F] {o : Oper} (hw : Region.wanted o (yielded ops E.toArray) = true)
    (h : OW F n P w0 D Q o E H R (fun v H' R' => T F n P w0 D ops Q rest (setD E o.dst v) H' R')) : T F n P w0 D ops Q (o :: rest) E H R := fun w hs => by
  unfold wpListIn
  rw [if_pos (by simpa [act] using hw)]
  refine Oper.wpIn_mono ?_ (h w hs)
  rintro a' w' ⟨v, H', R', rfl, hs', k⟩
  exact k w' hs'

theorem PW.gw {op : Op} {ty : TypeId} {K : Value → List MP → Prop} (h : PW P w0 E op ty H R K) : GW P w0 E op ty H R (fun v H' R' => H' = H ∧ (∀ p ∈ R, p ∈ R') ∧ K v R') := fun w hs => by
  obtain ⟨s, hok⟩ := hs
  obtain ⟨v, R', h1, h2, h3, h4⟩ := h w s hok
  replace h3 : S w0 w H R' := ⟨s, hok.more h3⟩
  exact ⟨v, w, H, R', .inl (h1 w h3), h3, rfl, h2, h4⟩
theorem GW.ow [Wd F] {dst : Option Tmp} {op : Op} {ty : TypeId} {pos : String} {aft : Array Edge} {g : Option (Nat × Bool)} {K : Value → List Hp → List MP → Prop} (hd : notDefer op = true)
    (h : GW P w0 E op ty H R K) : OW F n P w0 D Q ⟨dst, op, ty, pos, aft, g⟩ E H R K := fun w hs => by
  obtain ⟨v, w', H', R', h1, h3, h4⟩ := h w hs
  refine ⟨about_none, ?_⟩
  rw [sem_of_op (by intro c e; simp only at e; rw [e] at hd; cases hd)]
  rcases h1 with h1 | ⟨h1, rfl⟩
  · rw [h1]; simp only [Oper.uponIn]; exact ⟨v, H', R', by rw [act_put], h3, h4⟩
  · rw [h1]; simp only [Oper.uponIn]; exact ⟨_, H', R', by rw [act_put], h3, h4⟩

/-! ### 5. Calls -/
class FnOk (P : Program) (f : FuncId) : Prop where
  run : ∀ args w, (callFunc f args).run P w = .ok (.enter f args) w

theorem fnOk_of {f : FuncId} {fn : Func} {c : Code} (hf : P.funcs[f]? = some fn) (hname : (fn.name == "runtime.NumGoroutine") = false) (hb : fn.body = some c) : FnOk P f := ⟨fun args w => by
  have h1 : fn.name ≠ "runtime.NumGoroutine" := by simpa using hname
  simp [callFunc, hf, h1, hb, mark]⟩

theorem ow_callP [Wd F] {dst : Option Tmp} {fo : Operand} {args : Array Operand} {at_ : Array TypeId} {ty : TypeId} {pos : String} {aft : Array Edge} {g : Option (Nat × Bool)} {K : Value → List Hp → List MP → Prop} {KP : List PanicEntry → List Hp → List MP → Prop}
    {f : FuncId} {first cap : Array Value} (hf : ev E fo = .func (.func f) first cap) [hk : FnOk P f] {vs : Array Value} (hvs : first ++ args.map (ev E) ++ cap = vs)
    (h : CallsP P w0 f vs H R K KP) (hp : ∀ ch H' R', KP ch H' R' → En w0 D Q (.panic ch) E H' R') :
    OW F n P w0 D Q ⟨dst, .call ⟨.value fo, args, at_⟩, ty, pos, aft, g⟩ E H R K := fun w hs => by
  subst hvs
  refine ⟨about_none, ?_⟩
  rw [sem_of_op (by intro c e; cases e)]
  have hrun : (xop E (.call ⟨.value fo, args, at_⟩) ty).run P w = .ok (.enter f (first ++ args.map (ev E) ++ cap)) w := by
    simp [xop, execOp, resolve, hf, Deferred.ofValue, invoke, hk.run]
  simp only [hrun, Oper.uponIn]
  refine ⟨Wd.dep, Wd.calls ((h w hs).mono ?_)⟩
  rintro e w' (⟨v, H', R', rfl, hs', k⟩ | ⟨ch, H', R', rfl, hs', k⟩)
  · exact ⟨v, H', R', by rw [act_put], hs', k⟩
  · exact hp ch H' R' k w' hs'
theorem ow_call [Wd F] {dst : Option Tmp} {fo : Operand} {args : Array Operand} {at_ : Array TypeId} {ty : TypeId} {pos : String} {aft : Array Edge} {g : Option (Nat × Bool)} {K : Value → List Hp → List MP → Prop}
    {f : FuncId} {first cap : Array Value} (hf : ev E fo = .func (.func f) first cap) [hk : FnOk P f] {vs : Array Value} (hvs : first ++ args.map (ev E) ++ cap = vs)
    (h : CallsK P w0 f vs H R K) :
    OW F n P w0 D Q ⟨dst, .call ⟨.value fo, args, at_⟩, ty, pos, aft, g⟩ E H R K :=
  ow_callP (KP := fun _ _ _ => False) hf hvs (fun w hs => (h w hs).mono fun e w' hk => .inl hk) (fun _ _ _ k => k.elim)

/-- A function's body. -/
theorem calls_of {f : FuncId} {fn : Func} {c : Code} {A : List Value} {m : Nat} {K : Value → List Hp → List MP → Prop} (hf : P.funcs[f]? = some fn) (hb : fn.body = some c) (hn : fn.ntmps = m) {E : List Value}
    (hE : A ++ List.replicate (m - A.length) undef = E)
    (h : TC Fence.wide 9 P w0 [] c (bodyPost P fn (fun e w' => ∃ v H' R', e = .returned v ∧ S w0 w' H' R' ∧ K v H' R')) E H R) : CallsK P w0 f A.toArray H R K := fun w hs => by
  refine callsIn_wide.1 (callsIn_of_wp (F := Fence.wide) (n := 9) hf hb trivial ?_)
  have : A.toArray ++ Array.replicate (fn.ntmps - A.toArray.size) undef = E.toArray := by rw [← hE, hn]; simp
  rw [this]; exact h w hs
theorem callsP_of {f : FuncId} {fn : Func} {c : Code} {A : List Value} {m : Nat} {K : Value → List Hp → List MP → Prop} {KP : List PanicEntry → List Hp → List MP → Prop} (hf : P.funcs[f]? = some fn) (hb : fn.body = some c) (hn : fn.ntmps = m) {E : List Value}
    (hE : A ++ List.replicate (m - A.length) undef = E)
    (h : TC Fence.wide 9 P w0 [] c (bodyPost P fn (fun e w' => (∃ v H' R', e = .returned v ∧ S w0 w' H' R' ∧ K v H' R') ∨ (∃ ch H' R', e = .panicked ch ∧ S w0 w' H' R' ∧ KP ch H' R'))) E H R) : CallsP P w0 f A.toArray H R K KP := fun w hs => by
  refine callsIn_wide.1 (callsIn_of_wp (F := Fence.wide) (n := 9) hf hb trivial ?_)
  have : A.toArray ++ Array.replicate (fn.ntmps - A.toArray.size) undef = E.toArray := by rw [← hE, hn]; simp
  rw [this]; exact h w hs

/-- The post of a body, and where it is left. -/
def OkRet (w0 : World) (K : Value → List Hp → List MP → Prop) (e : Ending) (w' : World) : Prop := ∃ v H' R', e = .returned v ∧ S w0 w' H' R' ∧ K v H' R'
end
attribute [irreducible] T TC En PW GW OW CallsK CallsP Sl Rd Ls
end Go.Proofs.Ytggdljhmbckpmaa
