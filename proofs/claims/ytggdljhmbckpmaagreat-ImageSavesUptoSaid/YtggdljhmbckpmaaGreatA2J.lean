/- Readings of values as data; triples over a list of temporaries, owned blocks and lasting facts; the rules for code. The rules for operations that only read and reckon. -/
import Derived.Test.YtggdljhmbckpmaaGreatA1
import Derived.LoadGo3
set_option linter.unusedVariables false
set_option linter.unusedSimpArgs false
namespace Go.Proofs.YtggdljhmbckpmaaGreat
open Go Go.RowKit
attribute [local semireducible] At S

/-! ### 1. Data in cells -/
class Rep (α : Type) where
  size : Nat
  rd : Sto → List Value → α → Prop
  mono : ∀ {s t : Sto} {cs : List Value} {x : α}, s.le t → rd s cs x → rd t cs x
  len : ∀ {s : Sto} {cs : List Value} {x : α}, rd s cs x → cs.length = size
  one : ∀ {s : Sto} {cs : List Value} {x : α}, rd s cs x → ∀ c ∈ cs, c.oneCell' = true

def Rd {α : Type} [Rep α] (cs : List Value) (x : α) : MP := ⟨fun s => Rep.rd s cs x, fun _ _ h hp => Rep.mono h hp⟩

/-- 'xs' lie from (b, o) on. -/
def Ls {α : Type} [Rep α] (b o : Nat) (xs : List α) : MP where
  p s := ∀ i x, xs[i]? = some x → ∃ cs, Rep.rd s cs x ∧ ∀ j v, cs[j]? = some v → s b (o + i * Rep.size α + j) = some v
  mono s t h hp i x hi := by
    obtain ⟨cs, h1, h2⟩ := hp i x hi
    exact ⟨cs, Rep.mono h h1, fun j v hj => h _ _ _ (h2 j v hj)⟩

def eO : Nat := 9223372036854775807

/-- A slice value reads as the list 'xs'. -/
def Sl {α : Type} [Rep α] (v : Value) (xs : List α) : MP where
  p s := ∃ A c, v = .slice A xs.length c ∧ (xs.length ≤ c ∧ c ≤ eO) ∧ (0 < xs.length → ∃ b o, A = some ⟨b, o, none⟩ ∧ (Ls b o xs).p s)
  mono s t h hp := by
    obtain ⟨A, c, h1, h2, h3⟩ := hp
    refine ⟨A, c, h1, h2, fun h0 => ?_⟩
    obtain ⟨b, o, e, hl⟩ := h3 h0
    exact ⟨b, o, e, (Ls b o xs).mono _ _ h hl⟩

instance {α : Type} [Rep α] : Rep (List α) where
  size := 1
  rd s cs xs := ∃ v, cs = [v] ∧ (Sl v xs).p s
  mono h hp := by obtain ⟨v, e, k⟩ := hp; exact ⟨v, e, (Sl v _).mono _ _ h k⟩
  len hp := by obtain ⟨v, rfl, k⟩ := hp; rfl
  one hp := by obtain ⟨v, rfl, A, c, rfl, _⟩ := hp; simp [Value.oneCell']

instance : Rep UInt8 where
  size := 1
  rd _ cs c := cs = [.int .u8 (c.toNat : Int)]
  mono _ h := h
  len h := by subst h; rfl
  one h := by subst h; simp [Value.oneCell']

instance : Rep Int where
  size := 1
  rd _ cs n := cs = [.int .i64 n] ∧ -9223372036854775808 ≤ n ∧ n ≤ 9223372036854775807
  mono _ h := h
  len h := by obtain ⟨rfl, _⟩ := h; rfl
  one h := by obtain ⟨rfl, _⟩ := h; simp [Value.oneCell']

instance : Rep Bool where
  size := 1
  rd _ cs n := cs = [.bool n]
  mono _ h := h
  len h := by subst h; rfl
  one h := by subst h; simp [Value.oneCell']

instance : Rep ByteArray where
  size := 1
  rd _ cs n := cs = [.string n] ∧ n.size ≤ eO
  mono _ h := h
  len h := by obtain ⟨rfl, _⟩ := h; rfl
  one h := by obtain ⟨rfl, _⟩ := h; simp [Value.oneCell']

theorem xC {α : Type} [Rep α] {w0 w : World} {H : List Hp} {R : List MP} {v : Value} {xs : List α} (h : S w0 w H R) (hm : Sl v xs ∈ R) : ∃ A c, v = .slice A xs.length c ∧ (xs.length ≤ c ∧ c ≤ eO) := by
  obtain ⟨s, h⟩ := h
  obtain ⟨A, c, h1, h2, _⟩ := h.rd _ hm
  exact ⟨A, c, h1, h2⟩

/-! ### 2. Temporaries -/
def jR (E : List Value) (D : List Deferred) : Act := ⟨E.toArray, D⟩
def ev (E : List Value) : Operand → Value
  | .tmp t => E.getD t undef
  | .const v => v
  | .global g => .pointer (some ⟨g, 0, none⟩)
  | .func f => .func (.func f) #[] #[]
theorem lO (E : List Value) (D : List Deferred) : (jR E D).eval = ev E := by
  funext x; cases x <;> simp [jR, Act.eval, ev]
def eE (E : List Value) (d : Option Tmp) (v : Value) : List Value := match d with | some i => E.set i v | none => E
theorem iZ (E : List Value) (D : List Deferred) (d : Option Tmp) (v : Value) : (jR E D).put d v = jR (eE E d v) D := by
  cases d <;> simp [jR, Act.put, eE]

class Wd (F : Fence) : Prop where
  eq : F = { Fence.wide with round := F.round }
instance : Wd Fence.wide := ⟨rfl⟩
instance {F : Fence} [h : Wd F] (l : Nat) : Wd (F.inRound l) := ⟨by
  have := h.eq
  unfold Fence.inRound
  rw [this]⟩
theorem Wd.calls {F : Fence} [h : Wd F] {m : Nat} {P : Program} {f : FuncId} {args : Array Value} {w : World} {R : Ending → World → Prop} (hc : Calls P f args w R) : CallsIn F m P f args w R := by
  have h1 := (callsIn_wide (n := m)).2 hc
  rw [h.eq]
  exact h1
theorem Wd.fn {F : Fence} [h : Wd F] (f : FuncId) : F.fn f := by rw [h.eq]; trivial
theorem Wd.dep {F : Fence} [h : Wd F] {n : Nat} : F.depth.isSome = true → 1 ≤ n := by rw [h.eq]; intro h; cases h

def jE : Op → Bool
  | .defer _ => false
  | _ => true
section
variable (F : Fence) (n : Nat) (P : Program) (w0 : World) (D : List Deferred)
def T (ops : Array Oper) (Q : Exit → Act → World → Prop) (rest : List Oper) (E : List Value) (H : List Hp) (R : List MP) : Prop :=
  ∀ w, S w0 w H R → wpListIn F n P ops Q rest (jR E D) w
def TC (c : Code) (Q : Exit → Act → World → Prop) (E : List Value) (H : List Hp) (R : List MP) : Prop :=
  ∀ w, S w0 w H R → c.wpIn F n P Q (jR E D) w
def En (Q : Exit → Act → World → Prop) (e : Exit) (E : List Value) (H : List Hp) (R : List MP) : Prop :=
  ∀ w, S w0 w H R → Q e (jR E D) w

def nG (E : List Value) (op : Op) (ty : TypeId) : Sem Next := execOp (ev E) ⟨none, op, ty, "", #[], none⟩
/-- An operation that gives one value in whatever world that meets what is known, and turns nothing. -/
def PW (E : List Value) (op : Op) (ty : TypeId) (H : List Hp) (R : List MP) (K : Value → List MP → Prop) : Prop :=
  ∀ w s, Ok w0 s w H R → ∃ v R', (∀ w', S w0 w' H R' → (nG E op ty).run P w' = .ok (.value v) w') ∧ (∀ p ∈ R, p ∈ R') ∧ (∀ p ∈ R', p.p s) ∧ K v R'
/-- An operation that makes or turns memory. -/
def GW (E : List Value) (op : Op) (ty : TypeId) (H : List Hp) (R : List MP) (K : Value → List Hp → List MP → Prop) : Prop :=
  ∀ w, S w0 w H R → ∃ v w' H' R', ((nG E op ty).run P w = .ok (.value v) w' ∨ (nG E op ty).run P w = .ok .skip w' ∧ v = undef) ∧ S w0 w' H' R' ∧ K v H' R'
/-- An operation that calls. -/
def OW (Q : Exit → Act → World → Prop) (o : Oper) (E : List Value) (H : List Hp) (R : List MP) (K : Value → List Hp → List MP → Prop) : Prop :=
  ∀ w, S w0 w H R → o.wpIn F n P (jR E D) w (fun a' w' => ∃ v H' R', a' = jR (eE E o.dst v) D ∧ S w0 w' H' R' ∧ K v H' R') Q
def CallsK (f : FuncId) (args : Array Value) (H : List Hp) (R : List MP) (K : Value → List Hp → List MP → Prop) : Prop :=
  ∀ w, S w0 w H R → Calls P f args w (fun e w' => ∃ v H' R', e = .returned v ∧ S w0 w' H' R' ∧ K v H' R')
/-- A call that may panic. -/
def CallsP (f : FuncId) (args : Array Value) (H : List Hp) (R : List MP) (K : Value → List Hp → List MP → Prop) (KP : List PanicEntry → List Hp → List MP → Prop) : Prop :=
  ∀ w, S w0 w H R → Calls P f args w (fun e w' => (∃ v H' R', e = .returned v ∧ S w0 w' H' R' ∧ K v H' R') ∨ (∃ ch H' R', e = .panicked ch ∧ S w0 w' H' R' ∧ KP ch H' R'))
end

section
variable {F : Fence} {n : Nat} {P : Program} {w0 : World} {D : List Deferred} {ops : Array Oper} {Q : Exit → Act → World → Prop} {rest : List Oper} {E : List Value} {H : List Hp} {R : List MP}

theorem Ok.more {w : World} {s : Sto} {R' : List MP} (h : Ok w0 s w H R) (hp : ∀ p ∈ R', p.p s) : Ok w0 s w H R' := ⟨h.below, h.st, h.hp, h.nd, hp⟩
/-! ### 3. The code -/
theorem aF {x y : Code} (h : TC F n P w0 D x (Exit.then (y.wpIn F n P Q) Q) E H R) : TC F n P w0 D (.seq x y) Q E H R := fun w hs => wpIn_seq (h w hs)
theorem aV {id : Nat} {x : Code} (h : TC F n P w0 D x (Exit.inBlock id Q) E H R) : TC F n P w0 D (.block id x) Q E H R := fun w hs => wpIn_block (h w hs)
theorem bF (h : En w0 D Q .normal E H R) : TC F n P w0 D .skip Q E H R := fun w hs => wpIn_skip (h w hs)
theorem bP (h : En w0 D Q .ret E H R) : TC F n P w0 D .ret Q E H R := fun w hs => wpIn_ret (h w hs)
theorem cG {id : Nat} (h : En w0 D Q (.exit id) E H R) : TC F n P w0 D (.exit id) Q E H R := fun w hs => wpIn_exit (h w hs)
theorem aK {c : Operand} {x y : Code} (hc : ev E c = .bool true) (h : TC F n P w0 D x Q E H R) : TC F n P w0 D (.cond c x y) Q E H R := fun w hs => wpIn_cond_true (by rw [lO]; exact hc) (h w hs)
theorem aJ {c : Operand} {x y : Code} (hc : ev E c = .bool false) (h : TC F n P w0 D y Q E H R) : TC F n P w0 D (.cond c x y) Q E H R := fun w hs => wpIn_cond_false (by rw [lO]; exact hc) (h w hs)
theorem aD {y : Code} (h : TC F n P w0 D y Q E H R) : En w0 D (Exit.then (y.wpIn F n P Q) Q) .normal E H R := h
theorem bN {K : Act → World → Prop} (h : En w0 D Q .ret E H R) : En w0 D (Exit.then K Q) .ret E H R := h
theorem aW {K : Act → World → Prop} {id : Nat} (h : En w0 D Q (.exit id) E H R) : En w0 D (Exit.then K Q) (.exit id) E H R := h
theorem aM {K : Act → World → Prop} {ch : List PanicEntry} (h : En w0 D Q (.panic ch) E H R) : En w0 D (Exit.then K Q) (.panic ch) E H R := h
theorem bU {id : Nat} (h : En w0 D Q .normal E H R) : En w0 D (Exit.inBlock id Q) .normal E H R := h
theorem dQ {id : Nat} (h : En w0 D Q .ret E H R) : En w0 D (Exit.inBlock id Q) .ret E H R := h
theorem cI {id : Nat} {ch : List PanicEntry} (h : En w0 D Q (.panic ch) E H R) : En w0 D (Exit.inBlock id Q) (.panic ch) E H R := h
theorem aS {id : Nat} (h : En w0 D Q .normal E H R) : En w0 D (Exit.inBlock id Q) (.exit id) E H R := fun w hs => by
  simp only [Exit.inBlock, if_pos]
  exact h w hs
theorem fB {id id' : Nat} (hne : (id' == id) = false) (h : En w0 D Q (.exit id') E H R) : En w0 D (Exit.inBlock id Q) (.exit id') E H R := fun w hs => by
  have : ¬ id' = id := by simpa using hne
  have h' := h w hs
  simp [Exit.inBlock, this]
  exact h'

/-- What one loop owes: a number that falls. -/
def Back (w0 : World) (D : List Deferred) (I : Nat → List Value → List Hp → List MP → Prop) (m : Nat) : Act → World → Prop :=
  fun a w => ∃ k, k < m ∧ ∃ E H R, a = jR E D ∧ S w0 w H R ∧ I k E H R
theorem TC_loop {c : Code} (I : Nat → List Value → List Hp → List MP → Prop) (m : Nat) (h0 : I m E H R)
    (round : ∀ m E H R, I m E H R → TC F n P w0 D c (Exit.then (Back w0 D I m) Q) E H R) : TC F n P w0 D (.loop c) Q E H R := by
  intro w hs
  refine wpIn_loop_ghost (fun m a w => ∃ E H R, a = jR E D ∧ S w0 w H R ∧ I m E H R) m ⟨E, H, R, rfl, hs, h0⟩ ?_
  rintro m a w ⟨E, H, R, rfl, hs, hI⟩
  refine wpIn_mono (round m E H R hI w hs) ?_
  intro e a' w' hq
  cases e with
  | normal =>
    obtain ⟨k, hk, E', H', R', e1, e2, e3⟩ := hq
    exact ⟨k, hk, E', H', R', e1, e2, e3⟩
  | _ => exact hq
theorem eJ {c : Code} (H' : List Hp) (R' : List MP) (hw : ∀ w, S w0 w H R → S w0 w H' R') (h : TC F n P w0 D c Q E H' R') : TC F n P w0 D c Q E H R := fun w hs => h w (hw w hs)
theorem mM {e : Exit} (H' : List Hp) (R' : List MP) (hw : ∀ w, S w0 w H R → S w0 w H' R') (h : En w0 D Q e E H' R') : En w0 D Q e E H R := fun w hs => h w (hw w hs)
theorem eU (H' : List Hp) (R' : List MP) (hw : ∀ w, S w0 w H R → S w0 w H' R') (h : T F n P w0 D ops Q rest E H' R') : T F n P w0 D ops Q rest E H R := fun w hs => h w (hw w hs)
theorem j9 {c : Code} {Q' : Exit → Act → World → Prop} (h : TC F n P w0 D c Q' E H R) (hq : ∀ e a w, Q' e a w → Q e a w) : TC F n P w0 D c Q E H R := fun w hs => wpIn_mono (h w hs) hq

/-! ### 4. A region -/
theorem pF (l : List Oper) : ∀ k, (∀ j, l[j]? = ops[k + j]?) → wpOpsIn F n P ops Q (List.range' k l.length) = wpListIn F n P ops Q l := by
  induction l with
  | nil => intro k _; funext a w; simp [wpOpsIn, wpListIn]
  | cons o l ih =>
    intro k h
    have h0 : ops[k]? = some o := by simpa using (h 0).symm
    have ih' := ih (k + 1) (fun j => by have := h (j + 1); simpa [Nat.add_assoc, Nat.add_comm 1 j] using this)
    funext a w
    simp only [List.length_cons, List.range'_succ, wpOpsIn, h0, wpListIn, ih']
theorem aA {id : Nat} {l : List Oper} (h : T F n P w0 D l.toArray Q l E H R) : TC F n P w0 D (.region id l.toArray false) Q E H R := fun w hs => by
  refine wpIn_region ?_
  have := pF (F := F) (n := n) (P := P) (Q := Q) (ops := l.toArray) l 0 dB
  rw [← List.range_eq_range'] at this
  simp only [List.size_toArray]
  rw [this]
  exact h w hs
theorem aH (h : En w0 D Q .normal E H R) : T F n P w0 D ops Q [] E H R := h
theorem T_env {E' : List Value} (h : E = E') (k : T F n P w0 D ops Q rest E' H R) : T F n P w0 D ops Q rest E H R := h ▸ k

theorem hX [Wd F] {o : Oper} {a : Act} {w : World} : ∀ f, o.about P w a.eval = some f → F.fn f := fun f _ => Wd.fn f

theorem jZ {o : Oper} (hd : ∀ c, o.op ≠ .defer c) : (o.semAt F.round (jR E D).eval) = nG E o.op o.type := by
  rw [Oper.semAt_eq _ _ _ hd, lO]; rfl

theorem cX [Wd F] {o : Oper} (hw : Region.wanted o (yielded ops E.toArray) = false) (h : T F n P w0 D ops Q rest (eE E o.dst undef) H R) : T F n P w0 D ops Q (o :: rest) E H R := fun w hs => by
  unfold wpListIn
  rw [if_neg (by simpa [jR] using hw)]
  exact ⟨hX, by rw [iZ]; exact h w hs⟩
theorem aE [Wd F] {dst : Option Tmp} {op : Op} {ty : TypeId} {pos : String} {aft : Array Edge} {g : Option (Nat × Bool)} (hw : Region.wanted ⟨dst, op, ty, pos, aft, g⟩ (yielded ops E.toArray) = true) (hd : jE op = true)
    (h : PW P w0 E op ty H R (fun v R' => T F n P w0 D ops Q rest (eE E dst v) H R')) : T F n P w0 D ops Q (⟨dst, op, ty, pos, aft, g⟩ :: rest) E H R := fun w hs => by
  obtain ⟨s, hok⟩ := hs
  obtain ⟨v, R', h1, h2, h3, h4⟩ := h w s hok
  replace h3 : S w0 w H R' := ⟨s, hok.more h3⟩
  unfold wpListIn
  rw [if_pos (by simpa [jR] using hw)]
  refine ⟨hX, ?_⟩
  rw [jZ (by intro c e; simp only at e; rw [e] at hd; cases hd), h1 w h3]
  simp only [Oper.uponIn]
  rw [iZ]; exact h4 w h3
theorem bJ [Wd F] {dst : Option Tmp} {op : Op} {ty : TypeId} {pos : String} {aft : Array Edge} {g : Option (Nat × Bool)} (hw : Region.wanted ⟨dst, op, ty, pos, aft, g⟩ (yielded ops E.toArray) = true) (hd : jE op = true)
    (h : GW P w0 E op ty H R (fun v H' R' => T F n P w0 D ops Q rest (eE E dst v) H' R')) : T F n P w0 D ops Q (⟨dst, op, ty, pos, aft, g⟩ :: rest) E H R := fun w hs => by
  obtain ⟨v, w', H', R', h1, h3, h4⟩ := h w hs
  unfold wpListIn
  rw [if_pos (by simpa [jR] using hw)]
  refine ⟨hX, ?_⟩
  rw [jZ (by intro c e; simp only at e; rw [e] at hd; cases hd)]
  rcases h1 with h1 | ⟨h1, rfl⟩
  · rw [h1]; simp only [Oper.uponIn]; rw [iZ]; exact h4 w' h3
  · rw [h1]; simp only [Oper.uponIn]; rw [iZ]; exact h4 w' h3
theorem dK [Wd F] {o : Oper} (hw : Region.wanted o (yielded ops E.toArray) = true)
    (h : OW F n P w0 D Q o E H R (fun v H' R' => T F n P w0 D ops Q rest (eE E o.dst v) H' R')) : T F n P w0 D ops Q (o :: rest) E H R := fun w hs => by
  unfold wpListIn
  rw [if_pos (by simpa [jR] using hw)]
  refine Oper.wpIn_mono ?_ (h w hs)
  rintro a' w' ⟨v, H', R', rfl, hs', k⟩
  exact k w' hs'

theorem GW.ow [Wd F] {dst : Option Tmp} {op : Op} {ty : TypeId} {pos : String} {aft : Array Edge} {g : Option (Nat × Bool)} {K : Value → List Hp → List MP → Prop} (hd : jE op = true)
    (h : GW P w0 E op ty H R K) : OW F n P w0 D Q ⟨dst, op, ty, pos, aft, g⟩ E H R K := fun w hs => by
  obtain ⟨v, w', H', R', h1, h3, h4⟩ := h w hs
  refine ⟨hX, ?_⟩
  rw [jZ (by intro c e; simp only at e; rw [e] at hd; cases hd)]
  rcases h1 with h1 | ⟨h1, rfl⟩
  · rw [h1]; simp only [Oper.uponIn]; exact ⟨v, H', R', by rw [iZ], h3, h4⟩
  · rw [h1]; simp only [Oper.uponIn]; exact ⟨_, H', R', by rw [iZ], h3, h4⟩

/-! ### 5. Calls -/
class FnOk (P : Program) (f : FuncId) : Prop where
  run : ∀ args w, (callFunc f args).run P w = .ok (.enter f args) w

theorem bO {f : FuncId} {fn : Func} {c : Code} (hf : P.funcs[f]? = some fn) (hname : (fn.name == "runtime.NumGoroutine") = false) (hb : fn.body = some c) : FnOk P f := ⟨fun args w => by
  have h1 : fn.name ≠ "runtime.NumGoroutine" := by simpa using hname
  simp [callFunc, hf, h1, hb, mark]⟩

theorem tZ [Wd F] {dst : Option Tmp} {fo : Operand} {args : Array Operand} {at_ : Array TypeId} {ty : TypeId} {pos : String} {aft : Array Edge} {g : Option (Nat × Bool)} {K : Value → List Hp → List MP → Prop} {KP : List PanicEntry → List Hp → List MP → Prop}
    {f : FuncId} {first cap : Array Value} (hf : ev E fo = .func (.func f) first cap) [hk : FnOk P f] {vs : Array Value} (hvs : first ++ args.map (ev E) ++ cap = vs)
    (h : CallsP P w0 f vs H R K KP) (hp : ∀ ch H' R', KP ch H' R' → En w0 D Q (.panic ch) E H' R') :
    OW F n P w0 D Q ⟨dst, .call ⟨.value fo, args, at_⟩, ty, pos, aft, g⟩ E H R K := fun w hs => by
  subst hvs
  refine ⟨hX, ?_⟩
  rw [jZ (by intro c e; cases e)]
  have hrun : (nG E (.call ⟨.value fo, args, at_⟩) ty).run P w = .ok (.enter f (first ++ args.map (ev E) ++ cap)) w := by
    simp [nG, execOp, resolve, hf, Deferred.ofValue, invoke, hk.run]
  simp only [hrun, Oper.uponIn]
  refine ⟨Wd.dep, Wd.calls ((h w hs).mono ?_)⟩
  rintro e w' (⟨v, H', R', rfl, hs', k⟩ | ⟨ch, H', R', rfl, hs', k⟩)
  · exact ⟨v, H', R', by rw [iZ], hs', k⟩
  · exact hp ch H' R' k w' hs'
theorem e8 [Wd F] {dst : Option Tmp} {fo : Operand} {args : Array Operand} {at_ : Array TypeId} {ty : TypeId} {pos : String} {aft : Array Edge} {g : Option (Nat × Bool)} {K : Value → List Hp → List MP → Prop}
    {f : FuncId} {first cap : Array Value} (hf : ev E fo = .func (.func f) first cap) [hk : FnOk P f] {vs : Array Value} (hvs : first ++ args.map (ev E) ++ cap = vs)
    (h : CallsK P w0 f vs H R K) :
    OW F n P w0 D Q ⟨dst, .call ⟨.value fo, args, at_⟩, ty, pos, aft, g⟩ E H R K :=
  tZ (KP := fun _ _ _ => False) hf hvs (fun w hs => (h w hs).mono fun e w' hk => .inl hk) (fun _ _ _ k => k.elim)

/-- A function's body. -/
theorem bV {f : FuncId} {fn : Func} {c : Code} {A : List Value} {m : Nat} {K : Value → List Hp → List MP → Prop} (hf : P.funcs[f]? = some fn) (hb : fn.body = some c) (hn : fn.ntmps = m) {E : List Value}
    (hE : A ++ List.replicate (m - A.length) undef = E)
    (h : TC Fence.wide 9 P w0 [] c (bodyPost P fn (fun e w' => ∃ v H' R', e = .returned v ∧ S w0 w' H' R' ∧ K v H' R')) E H R) : CallsK P w0 f A.toArray H R K := fun w hs => by
  refine callsIn_wide.1 (callsIn_of_wp (F := Fence.wide) (n := 9) hf hb trivial ?_)
  have : A.toArray ++ Array.replicate (fn.ntmps - A.toArray.size) undef = E.toArray := by rw [← hE, hn]; simp
  rw [this]; exact h w hs
theorem dE {f : FuncId} {fn : Func} {c : Code} {A : List Value} {m : Nat} {K : Value → List Hp → List MP → Prop} {KP : List PanicEntry → List Hp → List MP → Prop} (hf : P.funcs[f]? = some fn) (hb : fn.body = some c) (hn : fn.ntmps = m) {E : List Value}
    (hE : A ++ List.replicate (m - A.length) undef = E)
    (h : TC Fence.wide 9 P w0 [] c (bodyPost P fn (fun e w' => (∃ v H' R', e = .returned v ∧ S w0 w' H' R' ∧ K v H' R') ∨ (∃ ch H' R', e = .panicked ch ∧ S w0 w' H' R' ∧ KP ch H' R'))) E H R) : CallsP P w0 f A.toArray H R K KP := fun w hs => by
  refine callsIn_wide.1 (callsIn_of_wp (F := Fence.wide) (n := 9) hf hb trivial ?_)
  have : A.toArray ++ Array.replicate (fn.ntmps - A.toArray.size) undef = E.toArray := by rw [← hE, hn]; simp
  rw [this]; exact h w hs

end
attribute [irreducible] T TC En PW GW OW CallsK CallsP Sl Rd Ls
end Go.Proofs.YtggdljhmbckpmaaGreat
namespace Go.Proofs.YtggdljhmbckpmaaGreat
open Go Go.RowKit
attribute [local semireducible] T TC En PW GW OW CallsK CallsP Sl Rd Ls At S

/-! ### 0. What is known of a program's types -/
class TyU (P : Program) (t : TypeId) (d : outParam TypeDesc) : Prop where
  und : P.underlying t = some d
class Ty (P : Program) (t : TypeId) (agg : outParam Bool) (sz by_ : outParam Nat) (z : outParam Value) : Prop where
  info : (P.info? t).map (fun i => (i.size, i.bytes, i.zero)) = some (sz, by_, some z)
  agg : ∀ w, (isAgg t).run P w = .ok agg w
class TyF (P : Program) (t : TypeId) (f : Nat) (off ft : outParam Nat) : Prop where
  addr : ∀ b o w, (Instr.fieldAt t (.pointer (some ⟨b, o, none⟩)) f).run P w = .ok (.pointer (some ⟨b, o + off, none⟩)) w
  fld : ∃ fs : Array Field, P.underlying t = some (.struct fs) ∧ ∃ fd : Field, fs[f]? = some fd ∧ fd.offset = off ∧ fd.type = ft
/-- A struct's zero cells, and of each field its offset and size. -/
class TyB (P : Program) (t : TypeId) (zs : outParam (List Value)) (pl : outParam (Array (Nat × Nat))) : Prop where
  build : ∀ (parts : Array (Nat × Value)) (cells : Array Value) (w : World), Instr.fill (pl[·]?) zs.toArray parts.toList = some cells → (Instr.build t parts).run P w = .ok (.agg cells) w

section
variable {P : Program}
theorem Ty.size {t : TypeId} {agg : Bool} {sz by_ : Nat} {z : Value} [h : Ty P t agg sz by_ z] (w : World) : (sizeOf t).run P w = .ok sz w := by
  obtain ⟨i, hi, e⟩ := Option.map_eq_some_iff.1 h.info
  simp only [Prod.mk.injEq] at e
  simp [sizeOf, typeInfo, hi, e.1]
theorem Ty.zero {t : TypeId} {agg : Bool} {sz by_ : Nat} {z : Value} [h : Ty P t agg sz by_ z] (w : World) : (zeroValue t).run P w = .ok z w := by
  obtain ⟨i, hi, e⟩ := Option.map_eq_some_iff.1 h.info
  simp only [Prod.mk.injEq] at e
  simp [zeroValue, typeInfo, hi, e.2.2]
theorem yR {t : TypeId} {fs : Array Field} {f : Nat} {fd : Field} (h : P.underlying t = some (.struct fs)) (hf : fs[f]? = some fd) {sz : Nat} (hs : ∀ w, (sizeOf fd.type).run P w = .ok sz w) (h0 : sz ≠ 0) (b o : Nat) (w : World) :
    (Instr.fieldAt t (.pointer (some ⟨b, o, none⟩)) f).run P w = .ok (.pointer (some ⟨b, o + fd.offset, none⟩)) w := by
  have : (⟨b, o, none⟩ : Addr).add fd.offset = ⟨b, o + fd.offset, none⟩ := by unfold Addr.add; split <;> simp_all
  simp [Instr.fieldAt, run_underlying h, hf, Instr.sureAddr, fieldPlace, hs, h0, this]
theorem cZ {t : TypeId} {fs : Array Field} {f off ft sz : Nat} (h : P.underlying t = some (.struct fs)) (hf : (fs[f]?).map (fun fd => (fd.offset, fd.type)) = some (off, ft)) (hs : ∀ w, (sizeOf ft).run P w = .ok sz w) (h0 : sz ≠ 0) : TyF P t f off ft := by
  obtain ⟨fd, h1, h2⟩ := Option.map_eq_some_iff.1 hf
  simp only [Prod.mk.injEq] at h2
  obtain ⟨rfl, rfl⟩ := h2
  exact ⟨fun b o w => yR h h1 hs h0 b o w, fs, h, fd, h1, rfl, rfl⟩
end

def iM (agg : Bool) (sz : Nat) (cs : List Value) (o : Nat) : Option Value :=
  match agg with
  | false => cs[o]?
  | true => if o + sz ≤ cs.length then some (.agg ((cs.drop o).take sz).toArray) else none

section
variable {P : Program} {w0 : World} {E : List Value} {H : List Hp} {R : List MP} {ty : TypeId} {K : Value → List MP → Prop}

theorem fS {op : Op} {s : Sem Value} {v : Value} (hx : nG E op ty = (s >>= fun v => pure (.value v))) (hr : ∀ w, S w0 w H R → s.run P w = .ok v w) (k : K v R) : PW P w0 E op ty H R K :=
  fun w s hs => ⟨v, R, fun w' hs' => by rw [hx]; simp [hr w' hs'], fun _ h => h, hs.rd, k⟩
/-- More is learned first. -/
theorem PW.learn {op : Op} (R' : List MP) (hR : ∀ p ∈ R, p ∈ R') (hw : ∀ s : Sto, (∀ p ∈ R, p.p s) → ∀ p ∈ R', p.p s) (h : PW P w0 E op ty H R' K) : PW P w0 E op ty H R K := fun w s hs => by
  obtain ⟨v, R2, h1, h2, h3, h4⟩ := h w s (hs.more (hw s hs.rd))
  exact ⟨v, R2, h1, fun p hp => h2 p (hR p hp), h3, h4⟩

theorem pw_move {x : Operand} {v : Value} (hx : ev E x = v) (k : K v R) : PW P w0 E (.move x) ty H R K := fun w s hs => ⟨_, R, fun _ _ => (by simp [nG, execOp, hx]), fun _ h => h, hs.rd, k⟩
theorem q8 {x : Operand} {v : Value} (hx : ev E x = v) (k : K v R) : PW P w0 E (.assign x) ty H R K := fun w s hs => ⟨_, R, fun _ _ => (by simp [nG, execOp, hx]), fun _ h => h, hs.rd, k⟩
theorem bX {c a b : Operand} {v : Value} (hc : ev E c = .bool true) (ha : ev E a = v) (k : K v R) : PW P w0 E (.pick c a b) ty H R K := fun w s hs =>
  ⟨_, R, fun w' _ => by simp [nG, execOp, hc, ha, asBool], fun _ h => h, hs.rd, k⟩
theorem cH {c a b : Operand} {v : Value} (hc : ev E c = .bool false) (hb : ev E b = v) (k : K v R) : PW P w0 E (.pick c a b) ty H R K := fun w s hs =>
  ⟨_, R, fun w' _ => by simp [nG, execOp, hc, hb, asBool], fun _ h => h, hs.rd, k⟩
theorem bA {x : Operand} {a : Addr} (hx : ev E x = .pointer (some a)) (k : K (.pointer (some a)) R) : PW P w0 E (.nilCheck x) ty H R K := fun w s hs =>
  ⟨_, R, fun w' _ => by simp [nG, execOp, hx], fun _ h => h, hs.rd, k⟩
theorem aC {s : TypeId} {x : Operand} {f b o off ft : Nat} [h : TyF P s f off ft] (hx : ev E x = .pointer (some ⟨b, o, none⟩)) (k : K (.pointer (some ⟨b, o + off, none⟩)) R) : PW P w0 E (.fieldAddr s x f) ty H R K :=
  fS rfl (fun w _ => by rw [hx]; exact h.addr b o w) k
theorem cD {x : Operand} {i : Nat} {vs : Array Value} {v : Value} (hx : ev E x = .tuple vs) (hv : vs[i]? = some v) (k : K v R) : PW P w0 E (.extract x i) ty H R K :=
  fS rfl (fun w _ => by rw [hx]; simp [Instr.extract, hv]) k
theorem fC {t : TypeId} {x : Operand} {d : TypeDesc} [h : TyU P t d] (hd : (match d with | .interface _ => false | _ => true) = true) (k : K (.iface t (ev E x)) R) : PW P w0 E (.makeInterface t x) ty H R K :=
  fS rfl (fun w _ => by
    simp only [Instr.makeInterface, Sem.run_bind, run_underlying h.und, Result.andThen_ok]
    cases d <;> (first | rfl | cases hd)) k
theorem wY {fn : Fn} {first cap : Array Operand} (k : K (.func fn (first.map (ev E)) (cap.map (ev E))) R) : PW P w0 E (.makeFunc fn first cap) ty H R K :=
  fS rfl (fun w _ => rfl) k
/-! ### loads -/
theorem mV {t : TypeId} {agg : Bool} {sz by_ : Nat} {z : Value} [h : Ty P t agg sz by_ z] {w : World} {b o : Nat} {cs : List Value} {k : Nat} {v : Value} (hc : ∀ j u, cs[j]? = some u → w.cell? ⟨b, o + j, none⟩ = some u) (hv : iM agg sz cs k = some v) :
    (Instr.loadAt t (.pointer (some ⟨b, o + k, none⟩))).run P w = .ok v w := by
  cases agg with
  | false =>
    simp only [iM] at hv
    simp [Instr.loadAt, Instr.sureAddr, loadVar, h.agg, hc k v hv]
  | true =>
    simp only [iM] at hv
    split at hv
    · rename_i hle
      cases hv
      have hl : ((cs.drop k).take sz).length = sz := by simp; omega
      have := run_loadCells_list (P := P) w ⟨b, o + k, none⟩ ((cs.drop k).take sz) (fun j u hj => by
        have ha : (⟨b, o + k, none⟩ : Addr).add j = ⟨b, o + (k + j), none⟩ := by unfold Addr.add; split <;> simp_all [Nat.add_assoc]
        rw [ha]
        refine hc _ _ ?_
        rw [List.getElem?_take] at hj
        split at hj
        · simpa using hj
        · cases hj)
      rw [hl] at this
      simp [Instr.loadAt, Instr.sureAddr, loadVar, h.agg, h.size, this]
    · cases hv

theorem S.blk_cells {w : World} {i b : Nat} {cs : List Value} {T : TypeId} (h : S w0 w H R) (hi : H[i]? = some (.blk b cs T)) : ∀ j u, cs[j]? = some u → w.cell? ⟨b, 0 + j, none⟩ = some u := fun j u hj => by
  rw [qB (h.blk_heap hi).1]; simpa using hj

theorem aL {t : TypeId} {x : Operand} {agg : Bool} {sz by_ : Nat} {z : Value} [h : Ty P t agg sz by_ z] {i b o : Nat} {cs : List Value} {T : TypeId} {v : Value} (hx : ev E x = .pointer (some ⟨b, o, none⟩)) (hi : H[i]? = some (.blk b cs T)) (hv : iM agg sz cs o = some v) (k : K v R) : PW P w0 E (.load t x) ty H R K :=
  fS rfl (fun w hs => by
    rw [hx]
    have := mV (P := P) (t := t) (o := 0) (k := o) (hs.blk_cells hi) hv
    simpa using this) k
theorem aQ {t : TypeId} {x : Operand} {agg : Bool} {sz by_ : Nat} {z : Value} [h : Ty P t agg sz by_ z] {b o q : Nat} {cs : List Value} {v : Value} (hx : ev E x = .pointer (some ⟨b, o + q, none⟩)) (hm : At b o cs ∈ R) (hv : iM agg sz cs q = some v) (k : K v R) : PW P w0 E (.load t x) ty H R K :=
  fS rfl (fun w hs => by
    rw [hx]
    exact mV (P := P) (t := t) (fun j u hj => hs.at_cell hm j u hj) hv) k
theorem bD {t : TypeId} {x : Operand} {agg : Bool} {sz by_ : Nat} {z : Value} [h : Ty P t agg sz by_ z] {b o : Nat} {cs : List Value} {v : Value} (hx : ev E x = .pointer (some ⟨b, o, none⟩)) (hm : At b o cs ∈ R) (hv : iM agg sz cs 0 = some v) (k : K v R) : PW P w0 E (.load t x) ty H R K :=
  aQ (q := 0) (by simpa using hx) hm hv k

/-! ### whole numbers -/
theorem iD {bop : BinOp} {t t' : TypeId} {x y : Operand} {k : IntKind} {a b : Int} {v : Value} (hx : ev E x = .int k a) (hy : ev E y = .int k b) (hr : ∀ w : World, (binOp bop t (.int k a) (.int k b)).run P w = .ok v w) (kk : K v R) : PW P w0 E (.binOp bop t x y t') ty H R K :=
  fS rfl (fun w _ => by
    rw [hx, hy]
    simp only [Sem.run_bind]
    have : (eqGuard bop t x y (.int k a) (.int k b)).run P w = .ok () w := by unfold eqGuard; cases bop <;> rfl
    rw [this]; exact hr w) kk
theorem oY {k : IntKind} {n : Int} (h1 : k.min ≤ n) (h2 : n ≤ k.max) : k.wrap n = n := by
  cases k <;> simp [IntKind.min, IntKind.max, IntKind.wrap, IntKind.bits, IntKind.signed] at * <;> (try split) <;> omega
theorem pw_add {k : IntKind} {t t' : TypeId} {x y : Operand} {a b : Int} (hx : ev E x = .int k a) (hy : ev E y = .int k b) (h1 : k.min ≤ a + b) (h2 : a + b ≤ k.max) (kk : K (.int k (a + b)) R) : PW P w0 E (.binOp .add t x y t') ty H R K :=
  iD hx hy (fun w => by simp [binOp, Op.intArith, oY h1 h2]) kk
theorem pw_sub {k : IntKind} {t t' : TypeId} {x y : Operand} {a b : Int} (hx : ev E x = .int k a) (hy : ev E y = .int k b) (h1 : k.min ≤ a - b) (h2 : a - b ≤ k.max) (kk : K (.int k (a - b)) R) : PW P w0 E (.binOp .sub t x y t') ty H R K :=
  iD hx hy (fun w => by simp [binOp, Op.intArith, oY h1 h2]) kk
theorem pw_mul {k : IntKind} {t t' : TypeId} {x y : Operand} {a b : Int} (hx : ev E x = .int k a) (hy : ev E y = .int k b) (h1 : k.min ≤ a * b) (h2 : a * b ≤ k.max) (kk : K (.int k (a * b)) R) : PW P w0 E (.binOp .mul t x y t') ty H R K :=
  iD hx hy (fun w => by simp [binOp, Op.intArith, oY h1 h2]) kk
theorem bM {t t' : TypeId} {x y : Operand} {a b : Int} (hx : ev E x = .int .i64 a) (hy : ev E y = .int .i64 b) (h1 : -9223372036854775808 ≤ a + b) (h2 : a + b ≤ 9223372036854775807) (kk : K (.int .i64 (a + b)) R) : PW P w0 E (.binOp .add t x y t') ty H R K :=
  pw_add hx hy h1 h2 kk
theorem eY {t t' : TypeId} {x y : Operand} {a b : Int} (hx : ev E x = .int .i64 a) (hy : ev E y = .int .i64 b) (h1 : -9223372036854775808 ≤ a - b) (h2 : a - b ≤ 9223372036854775807) (kk : K (.int .i64 (a - b)) R) : PW P w0 E (.binOp .sub t x y t') ty H R K :=
  pw_sub hx hy h1 h2 kk
theorem gR {t t' : TypeId} {x y : Operand} {a b : Int} (hx : ev E x = .int .i64 a) (hy : ev E y = .int .i64 b) (h1 : -9223372036854775808 ≤ a * b) (h2 : a * b ≤ 9223372036854775807) (kk : K (.int .i64 (a * b)) R) : PW P w0 E (.binOp .mul t x y t') ty H R K :=
  pw_mul hx hy h1 h2 kk
theorem kT {t t' : TypeId} {x y : Operand} {a b : Int} (hx : ev E x = .int .i64 a) (hy : ev E y = .int .i64 b) (ha : 0 ≤ a) (ha' : a ≤ 9223372036854775807) (hb : 0 < b) (kk : K (.int .i64 (a / b)) R) : PW P w0 E (.binOp .quo t x y t') ty H R K :=
  iD hx hy (fun w => by
    have h0 : ¬ b = 0 := by omega
    have h1 : 0 ≤ a / b := Int.ediv_nonneg ha aO
    have h2 : a / b ≤ a := Int.ediv_le_self b ha
    have : a.tdiv b = a / b := Int.tdiv_eq_ediv_of_nonneg ha
    simp [binOp, Op.intDiv, h0, this, oY (k := .i64) (n := a / b) (by simp [IntKind.min, IntKind.signed, IntKind.bits]; omega) (by simp [IntKind.max, IntKind.signed, IntKind.bits]; omega)]) kk
theorem lA {t t' : TypeId} {x y : Operand} {a b : Int} (hx : ev E x = .int .i64 a) (hy : ev E y = .int .i64 b) (ha : 0 ≤ a) (hb : 0 < b) (kk : K (.int .i64 (a % b)) R) : PW P w0 E (.binOp .rem t x y t') ty H R K :=
  iD hx hy (fun w => by
    have h0 : ¬ b = 0 := by omega
    simp [binOp, Op.intDiv, h0, Int.tmod_eq_emod_of_nonneg ha]) kk
theorem bQ {k : IntKind} {t t' : TypeId} {x y : Operand} {a b : Int} (hx : ev E x = .int k a) (hy : ev E y = .int k b) (kt : a < b → K (.bool true) R) (kf : ¬ a < b → K (.bool false) R) : PW P w0 E (.binOp .lss t x y t') ty H R K := by
  by_cases h : a < b
  · exact iD hx hy (fun w => by simp [binOp, Op.intCmp, h]) (kt h)
  · exact iD hx hy (fun w => by simp [binOp, Op.intCmp]; omega) (kf h)
theorem lY {k : IntKind} {t t' : TypeId} {x y : Operand} {a b : Int} (hx : ev E x = .int k a) (hy : ev E y = .int k b) (kt : a ≤ b → K (.bool true) R) (kf : ¬ a ≤ b → K (.bool false) R) : PW P w0 E (.binOp .leq t x y t') ty H R K := by
  by_cases h : a ≤ b
  · exact iD hx hy (fun w => by simp [binOp, Op.intCmp, h]) (kt h)
  · exact iD hx hy (fun w => by simp [binOp, Op.intCmp]; omega) (kf h)
theorem fD {k : IntKind} {t t' : TypeId} {x y : Operand} {a b : Int} (hx : ev E x = .int k a) (hy : ev E y = .int k b) (kt : b < a → K (.bool true) R) (kf : ¬ b < a → K (.bool false) R) : PW P w0 E (.binOp .gtr t x y t') ty H R K := by
  by_cases h : b < a
  · exact iD hx hy (fun w => by simp [binOp, Op.intCmp, h]) (kt h)
  · exact iD hx hy (fun w => by simp [binOp, Op.intCmp]; omega) (kf h)
theorem jS {k : IntKind} {t t' : TypeId} {x y : Operand} {a b : Int} (hx : ev E x = .int k a) (hy : ev E y = .int k b) (kt : b ≤ a → K (.bool true) R) (kf : ¬ b ≤ a → K (.bool false) R) : PW P w0 E (.binOp .geq t x y t') ty H R K := by
  by_cases h : b ≤ a
  · exact iD hx hy (fun w => by simp [binOp, Op.intCmp, h]) (kt h)
  · exact iD hx hy (fun w => by simp [binOp, Op.intCmp]; omega) (kf h)
theorem fZ {k : IntKind} {t t' : TypeId} {x y : Operand} {a b : Int} (hx : ev E x = .int k a) (hy : ev E y = .int k b) (kt : a = b → K (.bool true) R) (kf : ¬ a = b → K (.bool false) R) : PW P w0 E (.binOp .eql t x y t') ty H R K := by
  by_cases h : a = b
  · exact iD hx hy (fun w => by simp [binOp, Op.intCmp, h]) (kt h)
  · exact iD hx hy (fun w => by simp [binOp, Op.intCmp, h]) (kf h)
theorem eD {k : IntKind} {t t' : TypeId} {x y : Operand} {a b : Int} (hx : ev E x = .int k a) (hy : ev E y = .int k b) (kt : ¬ a = b → K (.bool true) R) (kf : a = b → K (.bool false) R) : PW P w0 E (.binOp .neq t x y t') ty H R K := by
  by_cases h : a = b
  · exact iD hx hy (fun w => by simp [binOp, Op.intCmp, h]) (kf h)
  · exact iD hx hy (fun w => by simp [binOp, Op.intCmp, h]) (kt h)
theorem sW {s d : TypeId} {x : Operand} {k k' : IntKind} {ds : TypeDesc} {a : Int} [hs : TyU P s ds] [hd : TyU P d (.int k')] (hx : ev E x = .int k a) (kk : K (.int k' (k'.wrap a)) R) : PW P w0 E (.convert s d x) ty H R K :=
  fS rfl (fun w _ => by
    rw [hx]
    simp only [convert, Sem.run_bind, run_underlying hs.und, run_underlying hd.und, Result.andThen_ok]
    cases ds <;> rfl) kk
theorem dJ {t : TypeId} {x : Operand} {b : Bool} (hx : ev E x = .bool b) (kk : K (.bool (!b)) R) : PW P w0 E (.unOp .not t x) ty H R K :=
  fS rfl (fun w _ => by rw [hx]; rfl) kk
theorem pw_neg {t : TypeId} {x : Operand} {k : IntKind} {a : Int} (hx : ev E x = .int k a) (kk : K (.int k (k.wrap (0 - a))) R) : PW P w0 E (.unOp .neg t x) ty H R K :=
  fS rfl (fun w _ => by rw [hx]; rfl) kk
theorem bS {t : TypeId} {x : Operand} {e : TypeId} {A : Option Addr} {n c : Nat} [h : TyU P t (.slice e)] (hx : ev E x = .slice A n c) (kk : K (.int .i64 (n : Int)) R) : PW P w0 E (.call ⟨.builtin .len, #[x], #[t]⟩) ty H R K :=
  fun w s hs => ⟨_, R, fun w' _ => by simp [nG, execOp, resolve, invoke, builtin, Builtin.len_, hx, run_underlying h.und, goInt], fun _ h => h, hs.rd, kk⟩
theorem kI {t : TypeId} {x : Operand} {s : ByteArray} [h : TyU P t .string] (hx : ev E x = .string s) (kk : K (.int .i64 (s.size : Int)) R) : PW P w0 E (.call ⟨.builtin .len, #[x], #[t]⟩) ty H R K :=
  fun w s hs => ⟨_, R, fun w' _ => by simp [nG, execOp, resolve, invoke, builtin, Builtin.len_, hx, run_underlying h.und, goInt], fun _ h => h, hs.rd, kk⟩

/-! ### slices that stay -/
theorem sl_at {α : Type} [Rep α] {s : Sto} (hs : ∀ p ∈ R, p.p s) {v : Value} {xs : List α} (hm : Sl v xs ∈ R) (i : Nat) (x : α) (hi : xs[i]? = some x) :
    ∃ b o c cs, v = .slice (some ⟨b, o, none⟩) xs.length c ∧ cs.length = Rep.size α ∧ ∀ p ∈ (At b (o + i * Rep.size α) cs :: Rd cs x :: R), p.p s := by
  obtain ⟨A, c, h1, h2, h3⟩ := hs _ hm
  obtain ⟨b, o, rfl, hl⟩ := h3 (by have := (List.getElem?_eq_some_iff.1 hi).1; omega)
  obtain ⟨cs, hr, hc⟩ := hl i x hi
  refine ⟨b, o, c, cs, h1, Rep.len hr, fun p hp => ?_⟩
  rcases List.mem_cons.1 hp with rfl | hp
  · exact hc
  · rcases List.mem_cons.1 hp with rfl | hp
    · exact hr
    · exact hs p hp
theorem pG {t e : TypeId} {agg : Bool} {sz by_ : Nat} {z : Value} [h : TyU P t (.slice e)] [he : Ty P e agg sz by_ z] (b o n c : Nat) (k : IntKind) (i : Nat) (hi : i < n) (w : World) :
    (Instr.indexAt t (.slice (some ⟨b, o, none⟩) n c) (.int k (i : Int))).run P w = .ok (.pointer (some ⟨b, o + i * sz, none⟩)) w := by
  have ha : (⟨b, o, none⟩ : Addr).add (i * sz) = ⟨b, o + i * sz, none⟩ := by unfold Addr.add; split <;> simp_all
  have hb : (0 : Int) ≤ (i : Int) ∧ (i : Int) < (n : Int) := by omega
  simp [Instr.indexAt, asIntOf, run_underlying h.und, hb, he.size, ha, hi]
/-- The same where the slice's place is known: nothing new is learned. -/
theorem wO {t e : TypeId} {x ix : Operand} {agg : Bool} {sz by_ : Nat} {z : Value} [h : TyU P t (.slice e)] [he : Ty P e agg sz by_ z] {b o n c : Nat} {k : IntKind} {i : Int} (hx : ev E x = .slice (some ⟨b, o, none⟩) n c) (hix : ev E ix = .int k i) (h0 : 0 ≤ i) (h1 : i < n)
    (kk : K (.pointer (some ⟨b, o + i.toNat * sz, none⟩)) R) : PW P w0 E (.indexAddr t x ix) ty H R K := by
  obtain ⟨i, rfl⟩ := Int.eq_ofNat_of_zero_le h0
  refine fS rfl (fun w hs => ?_) kk
  rw [hx, hix]
  exact pG (P := P) (t := t) b o n c k i aO w
end
end Go.Proofs.YtggdljhmbckpmaaGreat
