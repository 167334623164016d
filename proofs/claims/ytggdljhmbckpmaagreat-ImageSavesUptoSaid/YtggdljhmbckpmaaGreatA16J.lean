/- Calls that may panic; what is deferred, and recovers. Bytes, numbers, truths written: walks. Truths, numbers, lists written: walks. -/
import Derived.Test.YtggdljhmbckpmaaGreatF2J
import Derived.RecoverIn
import Derived.WideLaws
import Derived.Test.YtggdljhmbckpmaaGreatA7J
import Derived.Test.YtggdljhmbckpmaaGreatA7f1J
set_option linter.unusedVariables false
set_option linter.unusedSimpArgs false
namespace Go.Proofs.YtggdljhmbckpmaaGreat
open Go Go.RowKit
attribute [local semireducible] T TC En PW GW OW CallsK CallsP Sl Rd Ls At S TA
section
variable {P : Program} {w0 : World} {D : List Deferred} {ops : Array Oper} {Q : Exit → Act → World → Prop} {rest : List Oper} {E : List Value} {H : List Hp} {R : List MP}
theorem fG {v : Value} {K : Value → List Hp → List MP → Prop} {KP : List PanicEntry → List Hp → List MP → Prop} (H' : List Hp) (R' : List MP) (hw : ∀ w, S w0 w H R → S w0 w H' R') (hk : K v H' R') : ∀ w, S w0 w H R → (∃ u H' R', Ending.returned v = .returned u ∧ S w0 w H' R' ∧ K u H' R') ∨ (∃ ch H' R', Ending.returned v = .panicked ch ∧ S w0 w H' R' ∧ KP ch H' R') := fun w hs => .inl ⟨v, H', R', rfl, hw w hs, hk⟩
theorem cN {ch : List PanicEntry} {K : Value → List Hp → List MP → Prop} {KP : List PanicEntry → List Hp → List MP → Prop} (H' : List Hp) (R' : List MP) (hw : ∀ w, S w0 w H R → S w0 w H' R') (hk : KP ch H' R') : ∀ w, S w0 w H R → (∃ u H' R', Ending.panicked ch = .returned u ∧ S w0 w H' R' ∧ K u H' R') ∨ (∃ ch' H' R', Ending.panicked ch = .panicked ch' ∧ S w0 w H' R' ∧ KP ch' H' R') := fun w hs => .inr ⟨ch, H', R', rfl, hw w hs, hk⟩
theorem CallsP.k {f : FuncId} {args : Array Value} {K : Value → List Hp → List MP → Prop} (h : CallsP P w0 f args H R K (fun _ _ _ => False)) : CallsK P w0 f args H R K := fun w hs => (h w hs).mono (fun e w' he => by
  rcases he with he | ⟨ch, H', R', e1, e2, e3⟩
  · exact he
  · exact e3.elim)
/-! ### deferring -/
theorem vV {fo : Operand} {f : FuncId} {cap : List Value} {at_ : Array TypeId} {ty : TypeId} {pos : String} {aft : Array Edge} (hf : ev E fo = .func (.func f) #[] cap.toArray) (h : T Fence.wide 9 P w0 (⟨.fn (.func f) cap.toArray, #[]⟩ :: D) ops Q rest E H R) :
    T Fence.wide 9 P w0 D ops Q (⟨none, .defer ⟨.value fo, #[], at_⟩, ty, pos, aft, none⟩ :: rest) E H R := fun w hs => by
  unfold wpListIn
  rw [if_pos (by simp [Region.wanted])]
  refine ⟨hX, ?_⟩
  have hrun : ((⟨none, .defer ⟨.value fo, #[], at_⟩, ty, pos, aft, none⟩ : Oper).semAt Fence.wide.round (jR E D).eval).run P w = .ok (.defer ⟨.fn (.func f) cap.toArray, #[]⟩) w := by
    rw [show Fence.wide.round = none from rfl, Oper.semAt_none, lO]
    simp [execOp, resolve, hf, Deferred.ofValue]
  rw [hrun]
  simp only [Oper.uponIn]
  exact h w hs
/-- On the way out, in whatever mode. -/
def LVm (P : Program) (w0 : World) (fn : Func) (K : Value → List Hp → List MP → Prop) (u : FrameMode) (D : List Deferred) (E : List Value) (H : List Hp) (R : List MP) : Prop :=
  ∀ w, S w0 w H R → LeavesInM Fence.wide 9 P fn E.toArray (fun e w' => ∃ v H' R', e = .returned v ∧ S w0 w' H' R' ∧ K v H' R') D u w
theorem fW {fn : Func} {K : Value → List Hp → List MP → Prop} {ch : List PanicEntry} (h : LVm P w0 fn K (.panicking ch) D E H R) : En w0 D (bodyPostM Fence.wide 9 P fn (fun e w' => ∃ v H' R', e = .returned v ∧ S w0 w' H' R' ∧ K v H' R')) (.panic ch) E H R := fun w hs => h w hs
theorem nC {fn : Func} {K : Value → List Hp → List MP → Prop} {e : Exit} (he : e = .ret ∨ e = .normal) (h : LVm P w0 fn K .returning D E H R) : En w0 D (bodyPostM Fence.wide 9 P fn (fun e w' => ∃ v H' R', e = .returned v ∧ S w0 w' H' R' ∧ K v H' R')) e E H R := fun w hs => by
  rcases he with rfl | rfl <;> exact h w hs
theorem pA {fn : Func} {K : Value → List Hp → List MP → Prop} {v : Value} (hr : ∀ w, S w0 w H R → (results fn E.toArray).run P w = .ok v w) (H' : List Hp) (R' : List MP) (hw : ∀ w, S w0 w H R → S w0 w H' R') (hk : K v H' R') : LVm P w0 fn K .returning [] E H R := fun w hs =>
  ⟨v, hr w hs, v, H', R', rfl, hw w hs, hk⟩
/-- What the deferred function's own body must lead to: the outer one leaves by what is deferred still. -/
def zM (P : Program) (w0 : World) (fn : Func) (K : Value → List Hp → List MP → Prop) (D : List Deferred) (E : List Value) : Exit → Act → World → Prop :=
  fun e a w => (e = .normal ∨ e = .ret) ∧ a.defers = [] ∧ LeavesInM Fence.wide 9 P fn E.toArray (fun e w' => ∃ v H' R', e = .returned v ∧ S w0 w' H' R' ∧ K v H' R') D .returning w
theorem nQ {fn : Func} {K : Value → List Hp → List MP → Prop} {ds : List Deferred} {E' : List Value} {e : Exit} (he : e = .normal ∨ e = .ret) (h : LVm P w0 fn K .returning ds E' H R) : En w0 [] (zM P w0 fn K ds E') e E H R := fun w hs => ⟨he, rfl, h w hs⟩
theorem wP {fn : Func} {ds : List Deferred} {K : Value → List Hp → List MP → Prop} {E' : List Value} {p : Tmp → Prop} (c : List PanicEntry) (E : List Value) (e : Tmp) (v : Value) (w : World) (_ : p e) (h : zM P w0 fn K ds E' (.panic c) (jR (eE E (some e) v) []) w) : zM P w0 fn K ds E' (.panic c) (jR E []) w := by
  rcases h.1 with e | e <;> cases e
/-- What recover gives in a mode. -/
def recV : FrameMode → Option Value
  | .returning => some .nilIface
  | .panicking [{ v, recovered := false, goexit := false }] => some v
  | _ => none
theorem rB {fn fd : Func} {K : Value → List Hp → List MP → Prop} {u : FrameMode} {x : Value} {f : FuncId} {c : Code} {cap : List Value} {ds : List Deferred} {d : Tmp} {m id : Nat} {at_ : Array TypeId} {ty : TypeId} {pos : String} {aft : Array Edge} [FnOk P f]
    (hf : P.funcs[f]? = some fd) (hb : fd.body = some (.seq (.region id #[⟨some d, .call ⟨.builtin .recover, #[], at_⟩, ty, pos, aft, none⟩] false) c)) (hres : fd.results = #[]) (hn : fd.ntmps = m) {E2 : List Value} (hu : recV u = some x)
    (hE : eE (cap ++ List.replicate (m - cap.length) undef) (some d) x = E2)
    (h : TC Fence.wide 8 P w0 [] c (zM P w0 fn K ds E) E2 H R) : LVm P w0 fn K u (⟨.fn (.func f) cap.toArray, #[]⟩ :: ds) E H R := fun w hs => by
  have hurun : u ≠ .run := fun e => by subst e; simp [recV] at hu
  refine ⟨hurun, .inr ⟨fun _ => cQ, .func f, cap.toArray, f, cap.toArray, rfl, ?_, fun _ _ => trivial, ?_⟩⟩
  · simp [invoke, FnOk.run]
  refine callsDIn_of_wpSIn hf hb trivial (fun c₀ cs hc₀ => ?_)
  refine wpSIn_seq (wpSIn_region ?_)
  have hE' : cap.toArray ++ Array.replicate (fd.ntmps - cap.toArray.size) undef = (cap ++ List.replicate (m - cap.length) undef).toArray := by rw [hn]; simp
  rw [hE']
  simp only [List.size_toArray, List.length_cons, List.length_nil, Nat.zero_add, List.range_succ, List.range_zero, List.nil_append, wpOpsSIn, List.getElem?_toArray, List.getElem?_cons_zero]
  refine ⟨fun _ _ => trivial, ?_⟩
  rw [if_pos (by simp [Region.wanted])]
  have hrun : ∀ a : Act, (execOp a.eval ⟨some d, .call ⟨.builtin .recover, #[], at_⟩, ty, pos, aft, none⟩).run P w = .ok .recover w := fun a => by
    simp [execOp, resolve, invoke, builtin]
  rw [hrun]
  simp only
  have hput : ((⟨(cap ++ List.replicate (m - cap.length) undef).toArray, []⟩ : Act).put (some d) x) = jR E2 [] := by
    have := iZ (cap ++ List.replicate (m - cap.length) undef) [] (some d) x
    rw [hE] at this
    exact this
  have key : ∀ (c₁ : Frame) (u' : FrameMode), c₁ = { c₀ with mode := u' } → settle u' = .returning → c.wpSIn Fence.wide 8 P (bodyPostS P fd c₀ cs (fun e u' w' => match e with
        | .returned _ => LeavesInM Fence.wide 9 P fn E.toArray (fun e w' => ∃ v H' R', e = .returned v ∧ S w0 w' H' R' ∧ K v H' R') ds (settle u') w'
        | .panicked chain => LeavesInM Fence.wide 9 P fn E.toArray (fun e w' => ∃ v H' R', e = .returned v ∧ S w0 w' H' R' ∧ K v H' R') ds (raised u' chain) w'
        | .outgrown => ∃ v H' R', Ending.outgrown = .returned v ∧ S w0 w' H' R' ∧ K v H' R')) (jR E2 []) (c₁ :: cs) w := fun c₁ u' hc hset => by
    refine wpSIn_of_wpIn rfl (wpIn_mono (h w hs) ?_)
    rintro e a' w' ⟨he, hd, hl⟩
    have hr : (results fd a'.tmps).run P w' = .ok (.tuple #[]) w' := by simp [results, hres]
    rcases he with rfl | rfl
    · exact ⟨hd, u', by rw [hc], _, hr, by simp only [hset]; exact hl⟩
    · exact ⟨hd, u', by rw [hc], _, hr, by simp only [hset]; exact hl⟩
  unfold recV at hu
  split at hu
  · cases hu
    have hrec : recoverD (c₀ :: cs) = none := by simp [recoverD, hc₀]
    rw [hrec]
    simp only
    rw [hput]
    exact key c₀ .returning (by rw [← hc₀]) rfl
  · rename_i v
    cases hu
    have hrec : recoverD (c₀ :: cs) = some (x, { c₀ with mode := .panicking [{ v := x, recovered := true }] } :: cs) := by simp [recoverD, hc₀]
    rw [hrec]
    simp only
    rw [hput]
    exact key _ _ rfl (by simp [settle])
  · cases hu
end
section
variable {P : Program} {w0 : World} {E : List Value} {H : List Hp} {R : List MP} {ty : TypeId} {K : Value → List MP → Prop}
class TyI (P : Program) (t : TypeId) : Prop where
  und : P.underlying t = some (.interface (P.methodsAt t))
theorem mI {t t' : TypeId} {x y : Operand} {u : TypeId} {v : Value} [h : TyI P t] (hx : ev E x = .iface u v) (hy : ev E y = .nilIface) (kk : K (.bool false) R) : PW P w0 E (.binOp .eql t x y t') ty H R K :=
  fS rfl (fun w _ => by
    have hg : (eqGuard .eql t x y (.iface u v) .nilIface).run P w = .ok () w := by cases x <;> cases y <;> rfl
    rw [hx, hy]; simp only [Sem.run_bind, hg, Result.andThen_ok, run_eql_held_nil w t u v h.und]) kk
theorem qK {t t' : TypeId} {x : Operand} [h : TyI P t] (hx : ev E x = .nilIface) (kk : K (.bool true) R) : PW P w0 E (.binOp .eql t x (.const .nilIface) t') ty H R K :=
  fS rfl (fun w _ => by
    have hg : (eqGuard .eql t x (.const .nilIface) .nilIface .nilIface).run P w = .ok () w := by cases x <;> rfl
    have hy : ev E (.const .nilIface) = .nilIface := rfl
    rw [hx, hy]; simp only [Sem.run_bind, hg, Result.andThen_ok, run_eql_nil_nil w t h.und]) kk
theorem mJ {x : Operand} {t a : TypeId} {v : Value} {d : TypeDesc} [h : TyU P a d] (hd : (match d with | .interface _ => false | _ => true) = true) (hx : ev E x = .iface a v) (kk : K (.tuple #[v, .bool true]) R) : PW P w0 E (.typeAssert x t a true) ty H R K :=
  fS rfl (fun w _ => by
    rw [hx]
    unfold Instr.typeAssert
    simp only [Sem.run_bind, run_underlying h.und, Result.andThen_ok]
    cases d <;> simp at hd ⊢) kk
end
/-! ### what is returned does not lean on a region's slots -/
def yT (fn : Func) : List Nat := fn.results.toList.map (fun | .tmp t => t | .cell a _ => a)
theorem xB {fn : Func} {E : List Value} {e : Nat} {v : Value} (h : e ∉ yT fn) : results fn (E.set e v).toArray = results fn E.toArray := by
  rw [lM, lM]
  have key : ∀ (l : List ResultVar), (∀ r ∈ l, (match r with | .tmp t => t | .cell a _ => a) ≠ e) → l.mapM (rvS (E.set e v).toArray) = l.mapM (rvS E.toArray) := by
    intro l
    induction l with
    | nil => intro _; rfl
    | cons r l ih =>
      intro hl
      have h1 : rvS (E.set e v).toArray r = rvS E.toArray r := by
        have := hl r dB
        cases r with
        | tmp t => simp only at this; simp [rvS, List.getElem?_set_ne (Ne.symm this)]
        | cell a t => simp only at this; simp [rvS, List.getElem?_set_ne (Ne.symm this)]
      simp only [List.mapM_cons, h1, ih (fun r hr => hl r (List.mem_cons_of_mem _ hr))]
  have := key fn.results.toList (fun r hr he => h (by
    unfold yT
    exact List.mem_map.2 ⟨r, hr, he⟩))
  rw [Array.mapM_eq_mapM_toList, Array.mapM_eq_mapM_toList, this]
theorem mH {F : Fence} {n : Nat} {P : Program} {fn : Func} {Rp : Ending → World → Prop} {t t' : Array Value} (h : results fn t = results fn t') : ∀ (ds : List Deferred) (u : FrameMode) (w : World), LeavesIn F n P fn t Rp ds u w → LeavesIn F n P fn t' Rp ds u w
  | [], .returning, w, hl => by
    obtain ⟨v, h1, h2⟩ := hl
    exact ⟨v, by rw [← h]; exact h1, h2⟩
  | [], .panicking c, w, hl => hl
  | [], .run, w, hl => hl
  | d :: ds, u, w, hl => by
    obtain ⟨h1, h2, fv, cap, f, args, e1, e2, e3, h4⟩ := hl
    refine ⟨h1, h2, fv, cap, f, args, e1, e2, e3, h4.mono ?_⟩
    intro e u' w' hh
    cases e with
    | returned v => exact mH h ds _ _ hh
    | panicked c => exact mH h ds _ _ hh
    | outgrown => exact hh
theorem kJ {F : Fence} {n : Nat} {P : Program} {fn : Func} {Rp : Ending → World → Prop} {t t' : Array Value} (h : results fn t = results fn t') : ∀ (ds : List Deferred) (u : FrameMode) (w : World), LeavesInM F n P fn t Rp ds u w → LeavesInM F n P fn t' Rp ds u w
  | [], u, w, hl => mH h [] u w hl
  | d :: ds, u, w, hl => by
    obtain ⟨h1, h2⟩ := hl
    refine ⟨h1, ?_⟩
    rcases h2 with ⟨r, w', e1, e2, e3⟩ | ⟨hn, fv, cap, f, args, e1, e2, e3, h4⟩
    · exact .inl ⟨r, w', e1, e2, kJ h ds _ _ e3⟩
    · refine .inr ⟨hn, fv, cap, f, args, e1, e2, e3, h4.mono ?_⟩
      intro e u' w' hh
      cases e with
      | returned v => exact kJ h ds _ _ hh
      | panicked c => exact kJ h ds _ _ hh
      | outgrown => exact hh
/-- For a region of a body that recovers. -/
theorem rM {P : Program} {fn : Func} {ops : Array Oper} {Rp : Ending → World → Prop} {D : List Deferred} (hr : (ops.all fun o => (yT fn).all fun r => !(o.dst == some r)) = true) (c : List PanicEntry) (E : List Value) (e : Tmp) (v : Value) (w : World) (hd : oK ops e = true)
    (h : bodyPostM Fence.wide 9 P fn Rp (.panic c) (jR (eE E (some e) v) D) w) : bodyPostM Fence.wide 9 P fn Rp (.panic c) (jR E D) w := by
  refine kJ (xB (v := v) (fun hm => ?_)) D _ w h
  unfold oK at hd
  obtain ⟨o, ho, hoe⟩ := Array.any_eq_true'.1 hd
  have h1 := Array.all_eq_true'.1 hr o ho
  have h2 := List.all_eq_true.1 h1 e hm
  rw [hoe] at h2
  cases h2
attribute [irreducible] LVm
end Go.Proofs.YtggdljhmbckpmaaGreat
namespace Go.Proofs.YtggdljhmbckpmaaGreat
open Go Go.RowKit
set_option maxRecDepth 100000
set_option maxHeartbeats 800000

instance : TyU Tryz.prog 82 (.struct #[]) := ⟨Tryz.underlying82⟩
def tl : List PanicEntry := [{ v := .iface 82 (.agg #[]), recovered := false }]
/-- A call that writes 'out', or panics where it is too much. -/
def Wr (P : Program) (w0 : World) (R0 : List MP) (f : FuncId) (args : List Value) (bw : Nat) (out : List UInt8) : Prop :=
  ∀ (H : List Hp) (R : List MP) (K : Value → List Hp → List MP → Prop) (KP : List PanicEntry → List Hp → List MP → Prop) (bs : List UInt8) (v : Value), (∀ p ∈ R0, p ∈ R) → bs.length ≤ 250000 →
    (bs.length + out.length ≤ 250000 → ∀ v', K (.tuple #[]) (.row v' 5 1 (bs ++ out).length (bC (bs ++ out)) :: .blk bw [v'] 85 :: H) R) →
    (250000 < bs.length + out.length → KP tl H R) → CallsP P w0 f args.toArray (.row v 5 1 bs.length (bC bs) :: .blk bw [v] 85 :: H) R K KP
section
variable {F : Fence} {n : Nat} {P : Program} {w0 : World} {D : List Deferred} {ops : Array Oper} {Q : Exit → Act → World → Prop} {rest : List Oper} {E : List Value} {H : List Hp} {R R0 : List MP}
theorem fV [Wd F] {dst : Option Tmp} {f : FuncId} {l : List Operand} {at_ : Array TypeId} {ty : TypeId} {pos : String} {aft : Array Edge} {g : Option (Nat × Bool)} {A : List Value} {bw : Nat} {out bs : List UInt8} {v : Value} {m : Nat} {cs : List Value}
    (hw : Region.wanted ⟨dst, .call ⟨.value (.func f), l.toArray, at_⟩, ty, pos, aft, g⟩ (yielded ops E.toArray) = true) (hA : l.map (ev E) = A) [FnOk P f] (h : Wr P w0 R0 f A bw out) (hsub : ∀ p ∈ R0, p ∈ R) (hm : m = bs.length) (hcs : cs = bC bs) (hb : bs.length ≤ 250000)
    (hk : bs.length + out.length ≤ 250000 → ∀ v', T F n P w0 D ops Q rest (eE E dst (.tuple #[])) (.row v' 5 1 (bs ++ out).length (bC (bs ++ out)) :: .blk bw [v'] 85 :: H) R)
    (hp : 250000 < bs.length + out.length → En w0 D Q (.panic tl) E H R) : T F n P w0 D ops Q (⟨dst, .call ⟨.value (.func f), l.toArray, at_⟩, ty, pos, aft, g⟩ :: rest) E (.row v 5 1 m cs :: .blk bw [v] 85 :: H) R := by
  subst hm; subst hcs
  exact dK hw (jL (KP := fun ch H' R' => ch = tl ∧ H' = H ∧ R' = R ∧ 250000 < bs.length + out.length) hA (h H R _ _ bs v hsub hb hk (fun hgt => ⟨rfl, rfl, rfl, hgt⟩)) (by rintro ch H' R' ⟨rfl, rfl, rfl, hgt⟩; exact hp hgt))
end

theorem nT {w0 : World} (bw : Nat) (c : UInt8) : Wr Tryz.prog w0 [] 29 [.pointer (some ⟨bw, 0, none⟩), fH c] bw [c] := by
  intro H R K KP bs v _ hb hk hp
  refine dE Tryz.func29 rfl Tryz.ntmps29 fI ?_
  refine rE 0 rfl (fun A c1 hv => ?_)
  subst hv
  repeat' (first | (refine sV rfl rfl ?_) | (apply aF) | (apply aA) | (apply bF) | (apply aK; exact rfl) | (apply aJ; exact rfl) | (apply aH) | (apply aD) | (apply aM) | (apply aP; exact rfl; ((refine aL (i := 1) rfl rfl rfl ?_)); refine aB ?_) | (apply aU; exact rfl; ((refine fZ rfl rfl (fun h => ?_) (fun h => ?_))) <;> (refine aB ?_)) | (refine aE rfl rfl ?_; ((first | refine aG ?_ | refine bA rfl ?_ | refine aC rfl ?_ | refine bS rfl ?_ | refine dI gG ?_ | refine fC rfl ?_)); refine aB ?_) | (refine bJ rfl rfl ?_; ((refine bK cQ fP rfl (fun b => ?_))); refine aB ?_))
  · refine aR (cN H R dV (hp (by simp; omega)))
  · refine bJ rfl rfl ?_
    refine dF 1 0 (news := [fH c]) rfl rfl rfl rfl cQ rfl (by simp [fH, Value.oneCell']) aO aO (fun v' => ?_)
    refine aB ?_; refine cE ?_
    refine gY 1 rfl (fun A' c' hv => ?_)
    subst hv
    repeat' (first | (apply aH) | (apply bE; exact rfl; ((refine aN (i := 2) rfl cW rfl dT dB eK ?_)); refine aB ?_; refine cE ?_) | (refine aE rfl rfl ?_; ((first | refine bA rfl ?_ | refine aC rfl ?_)); refine aB ?_))
    refine aZ (.inr rfl) (gQ rfl) (fG (.row (.slice A' (bs.length + 1) c') 5 1 (bs ++ [c]).length (bC (bs ++ [c])) :: .blk bw [.slice A' (bs.length + 1) c'] 85 :: H) R (fun w hs => ?_) (hk (by simp; omega) _))
    rw [eX, List.length_append]
    exact hs.weaken eB hP
/-! ### numbers -/
def uE (n : Int) : Nat := if 0 ≤ n then (2 * n).toNat else (-2 * n - 1).toNat
def nO : Nat → Nat → List UInt8
  | 0, u => [UInt8.ofNat u]
  | m + 1, u => if 128 ≤ u then UInt8.ofNat (u % 256 ||| 128) :: nO m (u / 128) else [UInt8.ofNat u]
def dA (n : Int) : List UInt8 := nO 9 (uE n)
theorem rK (n : Nat) : Value.int .u8 ((n % 256 : Nat) : Int) = fH (UInt8.ofNat n) := by simp [fH]
theorem byteV_lt {n : Nat} (h : n < 256) : Value.int .u8 (n : Int) = fH (UInt8.ofNat n) := by
  rw [← rK, Nat.mod_eq_of_lt h]
theorem zF {n : Int} (h : dO n) : uE n < 18446744073709551616 := by
  unfold dO at h; unfold uE; split <;> omega
section
variable {P : Program} {w0 : World} {E : List Value} {H : List Hp} {R : List MP} {ty : TypeId} {K : Value → List MP → Prop}
theorem vC {s d : TypeId} {x : Operand} {ds : TypeDesc} {a : Int} [hs : TyU P s ds] [hd : TyU P d (.int .u64)] (hx : ev E x = .int .i64 a) (kk : K (.int .u64 ((a % 18446744073709551616).toNat : Int)) R) : PW P w0 E (.convert s d x) ty H R K :=
  sW (hs := hs) (hd := hd) hx (by
    have e : IntKind.u64.wrap a = ((a % 18446744073709551616).toNat : Int) := by simp [IntKind.wrap, IntKind.bits, IntKind.signed]; omega
    rw [e]; exact kk)
theorem xor_ones {a : Nat} (ha : a < 18446744073709551616) : 18446744073709551615 ^^^ a = 18446744073709551615 - a := by
  have h1 : (BitVec.allOnes 64 ^^^ BitVec.ofNat 64 a).toNat = 18446744073709551615 ^^^ a := by
    rw [BitVec.toNat_xor, BitVec.toNat_ofNat, Nat.mod_eq_of_lt ha]; rfl
  rw [← h1, ← BitVec.not_def, BitVec.toNat_not, BitVec.toNat_ofNat, Nat.mod_eq_of_lt ha]
theorem yF {t : TypeId} {x : Operand} {a : Nat} (hx : ev E x = .int .u64 (a : Int)) (ha : a < 18446744073709551616) (kk : K (.int .u64 ((18446744073709551615 - a : Nat) : Int)) R) : PW P w0 E (.unOp .xor t x) ty H R K :=
  fS rfl (fun w _ => by
    rw [hx]
    have e1 : (IntKind.u64.max : Int) = ((18446744073709551615 : Nat) : Int) := rfl
    have e2 : 18446744073709551615 - a < 2 ^ IntKind.bits .u64 := by simp [IntKind.bits]; omega
    simp only [Op.unary, IntKind.signed, Bool.false_eq_true, if_false, e1, Op.intBits, oU, ne_eq, not_true_eq_false, Sem.run_pure, BitVec.toNat_xor, BitVec.toNat_ofNat, Nat.mod_eq_of_lt (show a < 2 ^ IntKind.bits .u64 from ha), Nat.mod_eq_of_lt (show 18446744073709551615 < 2 ^ IntKind.bits .u64 from by decide), xor_ones ha, qH (k := .u64) rfl e2]) kk
theorem tK {s d : TypeId} {x : Operand} {k : IntKind} {ds : TypeDesc} {a : Nat} [hs : TyU P s ds] [hd : TyU P d (.int .u8)] (hx : ev E x = .int k (a : Int)) (kk : K (fH (UInt8.ofNat a)) R) : PW P w0 E (.convert s d x) ty H R K :=
  lN (hs := hs) (hd := hd) hx rfl (by
    have := rK a
    rw [← this] at kk; exact kk)
theorem pw_orb {t t' : TypeId} {x : Operand} {a : Nat} (hx : ev E x = fH (UInt8.ofNat a)) (kk : K (fH (UInt8.ofNat (a % 256 ||| 128))) R) : PW P w0 E (.binOp .or t x (.const (.int .u8 128)) t') ty H R K :=
  qJ (a := a % 256) (b := 128) (k := .u8) (by rw [hx, rK]) rfl rfl (Nat.mod_lt _ cQ) cQ (by
    have h : (a % 256 ||| 128) < 256 := Nat.or_lt_two_pow (n := 8) (Nat.mod_lt _ cQ) cQ
    rw [byteV_lt h]; exact kk)
end
theorem sZ : ∀ m u, 0 < (nO m u).length
  | 0, u => by simp [nO]
  | m + 1, u => by unfold nO; split <;> simp
theorem gH {w0 : World} (bw : Nat) (n : Int) (hn : dO n) : Wr Tryz.prog w0 [] 79 [.pointer (some ⟨bw, 0, none⟩), .int .i64 n] bw (dA n) := by
  intro H R K KP bs v _ hb hk hp
  have hn' : -9223372036854775808 ≤ n ∧ n ≤ 9223372036854775807 := hn
  refine dE Tryz.func79 rfl Tryz.ntmps79 fI ?_
  repeat' (fail)
  apply aF; apply aA
  repeat' (first | (refine aE rfl rfl ?_; ((first | refine vC rfl ?_ | refine mK (n := 1) rfl rfl rfl cQ ?_)); refine aB ?_) | (refine aE rfl rfl ?_; ((first | refine aG ?_ | refine aY ?_)); refine aB ?_))
  apply aH; apply aD
  have e1 : (n % 18446744073709551616).toNat * 2 ^ 1 % 2 ^ IntKind.bits .u64 = if 0 ≤ n then uE n else 18446744073709551615 - uE n := by
    simp only [IntKind.bits, uE]
    split <;> omega
  rw [e1]
  have hz := zF hn
  refine jJ [4, 8, 9, 10, 11] (fun j H' R' => j 4 = .int .u64 (uE n : Int) ∧ H' = .row v 5 1 bs.length (bC bs) :: .blk bw [v] 85 :: H ∧ R' = R) ?_ ?_
  · skip
    repeat' (first | (refine aE rfl rfl ?_; refine yF rfl (by split <;> omega) ?_; refine aB ?_) | (apply aF) | (apply aA) | (apply bF) | (apply aK; exact rfl) | (apply aJ; exact rfl) | (apply aH) | (apply aD) | (apply aU; exact rfl; ((refine bQ rfl rfl (fun h => ?_) (fun h => ?_))) <;> (refine aB ?_)) | (refine aE rfl rfl ?_; ((first | refine aG ?_ | refine aY ?_)); refine aB ?_))
    · refine fQ _ R eS ⟨?_, rfl, rfl⟩ (fun w hs => hs)
      show Value.int .u64 _ = _
      rw [if_neg aO, show 18446744073709551615 - (18446744073709551615 - uE n) = uE n by omega]
    · refine fQ _ R eS ⟨?_, rfl, rfl⟩ (fun w hs => hs)
      show Value.int .u64 _ = _
      rw [if_pos aO]
  rintro j H' R' ⟨h4, hH, hR⟩
  subst hH hR
  refine dD (by simp only [eF, List.foldl_cons, List.foldl_nil, List.set_cons_succ, List.set_cons_zero, h4]; rfl) ?_
  repeat' (first | (apply aF) | (apply aV))
  refine cM [4, 12, 13, 14, 15, 16, 17, 18, 19, 20] (fun m j H2 R2 => ∃ (u : Nat) (bs' : List UInt8) (v' : Value), j 4 = .int .u64 (u : Int) ∧ R2 = R' ∧ H2 = .row v' 5 1 bs'.length (bC bs') :: .blk bw [v'] 85 :: H ∧ bs'.length ≤ 250000 ∧ bs' ++ nO m u = bs ++ dA n ∧ u < 2 * 128 ^ m) 9 eS ⟨uE n, bs, v, rfl, rfl, rfl, hb, rfl, by omega⟩ ?_
  rintro m j' H2 R2 ⟨u, bs', v', h4', hR2, hH2, hb', hle, hlt⟩
  subst hR2 hH2
  refine dD (by simp only [eF, List.foldl_cons, List.foldl_nil, List.set_cons_succ, List.set_cons_zero, h4']; rfl) ?_
  have hlen : bs'.length + (nO m u).length = bs.length + (dA n).length := by
    have := congrArg List.length hle
    simpa using this
  have HL := Go.Lib.hid hle
  have HM := Go.Lib.hid hlt
  clear hle hlt
  repeat' (first | (refine aE rfl rfl ?_; ((first | refine tK rfl ?_ | refine pw_orb rfl ?_)); refine aB ?_) | (apply aF) | (apply aA) | (apply aV) | (apply bF) | (apply cG) | (apply aK; exact rfl) | (apply aJ; exact rfl) | (apply aH) | (apply aD) | (apply aW) | (apply aS) | (apply aU; exact rfl; ((refine jS rfl rfl (fun h => ?_) (fun h => ?_))) <;> (refine aB ?_)) | (refine aE rfl rfl ?_; ((refine aG ?_)); refine aB ?_))
  · obtain ⟨k, rfl⟩ : ∃ k, m = k + 1 := by
      cases m with
      | zero => have := HM.out; simp at this; omega
      | succ k => exact ⟨k, rfl⟩
    have hl1 : nO (k + 1) u = UInt8.ofNat (u % 256 ||| 128) :: nO k (u / 128) := by rw [nO, if_pos aO]
    have hl2 := sZ k (u / 128)
    have hl3 : (nO (k + 1) u).length = 1 + (nO k (u / 128)).length := by rw [hl1, List.length_cons]; omega
    refine fV rfl rfl (nT bw (UInt8.ofNat (u % 256 ||| 128))) (fun _ h => (by cases h)) rfl rfl hb' (fun hle v2 => ?_) (fun hgt => ?_)
    · refine aB ?_
      repeat' (first | (refine aE rfl rfl ?_; ((refine lX (n := 7) rfl rfl cQ ?_)); refine aB ?_) | (apply aA) | (apply aH) | (apply aD) | (apply bU) | (refine aE rfl rfl ?_; ((first | refine aG ?_ | refine aY ?_)); refine aB ?_))
      refine cJ k _ R2 aO eS ⟨u / 128, bs' ++ [UInt8.ofNat (u % 256 ||| 128)], v2, rfl, rfl, rfl, by ((simp at hle ⊢; omega)), ?_, ?_⟩ (fun w hs => hs)
      · rw [← HL.out, hl1]; simp
      · have := HM.out; rw [Nat.pow_succ] at this; omega
    · skip
      repeat' (first | (apply aM) | (apply cI))
      refine aR (cN H R2 (fun w hs => hs) (hp ?_))
      simp at hgt; omega
  · have hl1 : nO m u = [UInt8.ofNat u] := by
      cases m with
      | zero => rfl
      | succ k => rw [nO, if_neg aO]
    rw [hl1] at hlen
    refine fV rfl rfl (nT bw (UInt8.ofNat u)) (fun _ h => (by cases h)) rfl rfl hb' (fun hle v2 => ?_) (fun hgt => ?_)
    · refine aB ?_
      repeat' ((apply aH))
      have e := HL.out
      rw [hl1] at e
      rw [e]
      refine aZ (.inr rfl) (gQ rfl) (fG _ R2 (fun w hs => hs) (hk (by simp at hlen hle ⊢; omega) v2))
    · skip
      repeat' (fail)
      refine aR (cN H R2 (fun w hs => hs) (hp ?_))
      simp at hgt hlen; omega
end Go.Proofs.YtggdljhmbckpmaaGreat
namespace Go.Proofs.YtggdljhmbckpmaaGreat
open Go Go.RowKit
set_option maxRecDepth 100000
set_option maxHeartbeats 800000

section
variable {F : Fence} {n : Nat} {P : Program} {w0 : World} {D : List Deferred} {ops : Array Oper} {Q : Exit → Act → World → Prop} {rest : List Oper} {E : List Value} {H : List Hp} {R R0 : List MP}
theorem pJ [Wd F] {dst : Option Tmp} {fo : Operand} {f : FuncId} {l : List Operand} {at_ : Array TypeId} {ty : TypeId} {pos : String} {aft : Array Edge} {g : Option (Nat × Bool)} {A L1 L2 : List Value} {bw : Nat} {out bs : List UInt8} {v : Value} {m : Nat} {cs : List Value}
    (hw : Region.wanted ⟨dst, .call ⟨.value fo, l.toArray, at_⟩, ty, pos, aft, g⟩ (yielded ops E.toArray) = true) (hf : ev E fo = .func (.func f) L1.toArray L2.toArray) (hA : L1 ++ l.map (ev E) ++ L2 = A) [FnOk P f] (h : Wr P w0 R0 f A bw out) (hsub : ∀ p ∈ R0, p ∈ R) (hm : m = bs.length) (hcs : cs = bC bs) (hb : bs.length ≤ 250000)
    (hk : bs.length + out.length ≤ 250000 → ∀ v', T F n P w0 D ops Q rest (eE E dst (.tuple #[])) (.row v' 5 1 (bs ++ out).length (bC (bs ++ out)) :: .blk bw [v'] 85 :: H) R)
    (hp : 250000 < bs.length + out.length → En w0 D Q (.panic tl) E H R) : T F n P w0 D ops Q (⟨dst, .call ⟨.value fo, l.toArray, at_⟩, ty, pos, aft, g⟩ :: rest) E (.row v 5 1 m cs :: .blk bw [v] 85 :: H) R := by
  subst hm; subst hcs
  exact dK hw (uW (KP := fun ch H' R' => ch = tl ∧ H' = H ∧ R' = R ∧ 250000 < bs.length + out.length) hf hA (h H R _ _ bs v hsub hb hk (fun hgt => ⟨rfl, rfl, rfl, hgt⟩)) (by rintro ch H' R' ⟨rfl, rfl, rfl, hgt⟩; exact hp hgt))
theorem cU {cs : List Value} {sz : Nat} (h : cs.length = sz) : iM true sz cs 0 = some (.agg cs.toArray) := by
  subst h; simp [iM]
theorem eI {zs cs : List Value} (h : zs.length = cs.length) : gL zs 0 cs = cs := by
  simp [gL, h]
end
def iI (b : Bool) : List UInt8 := [if b then 1 else 0]
theorem qU {w0 : World} (bw : Nat) (b : Bool) : Wr Tryz.prog w0 [] 67 [.pointer (some ⟨bw, 0, none⟩), .bool b] bw (iI b) := by
  intro H R K KP bs v _ hb hk hp
  refine dE Tryz.func67 rfl Tryz.ntmps67 fI ?_
  cases b
  · skip
    repeat' (first | (apply aF) | (apply aA) | (apply aJ; exact rfl) | (apply aH) | (apply aD) | (refine aE rfl rfl ?_; ((refine aG ?_)); refine aB ?_))
    refine fV rfl rfl (nT bw 0) (fun _ h => (by cases h)) rfl rfl hb (fun hle v2 => ?_) (fun hgt => ?_)
    · refine aB ?_
      repeat' ((apply aH))
      refine aZ (.inr rfl) (gQ rfl) (fG _ R (fun w hs => hs) (hk hle v2))
    · skip
      repeat' (fail)
      exact aR (cN H R (fun w hs => hs) (hp hgt))
  · skip
    repeat' (first | (apply aF) | (apply aA) | (apply aK; exact rfl) | (apply aH) | (apply aD) | (refine aE rfl rfl ?_; ((refine aG ?_)); refine aB ?_))
    refine fV rfl rfl (nT bw 1) (fun _ h => (by cases h)) rfl rfl hb (fun hle v2 => ?_) (fun hgt => ?_)
    · refine aB ?_
      repeat' ((apply aH))
      refine aZ (.inr rfl) (gQ rfl) (fG _ R (fun w hs => hs) (hk hle v2))
    · skip
      repeat' (fail)
      exact aR (cN H R (fun w hs => hs) (hp hgt))

theorem kC {w0 : World} (bw : Nat) (A : Option Addr) (c : Nat) (xs : List Int) (hx : xs.length ≤ 9223372036854775807) : Wr Tryz.prog w0 [Sl (.slice A xs.length c) xs] 66 [.pointer (some ⟨bw, 0, none⟩), .slice A xs.length c] bw (xs.flatMap dA) := by
  intro H R K KP bs v hsub hb hk hp
  have hm : Sl (.slice A xs.length c) xs ∈ R := hsub _ dB
  refine dE Tryz.func66 rfl Tryz.ntmps66 fI ?_
  repeat' (first | (apply aF) | (apply aA) | (apply aV) | (apply aH) | (apply aD) | (refine aE rfl rfl ?_; ((first | refine aG ?_ | refine bS rfl ?_)); refine aB ?_))
  refine cM [5, 8, 9, 10, 11, 12, 13, 14, 15] (fun m j H2 R2 => ∃ (i : Nat) (bs' : List UInt8) (v' : Value), i + m = xs.length ∧ j 8 = .int .i64 (i : Int) ∧ (∀ p ∈ R, p ∈ R2) ∧ H2 = .row v' 5 1 bs'.length (bC bs') :: .blk bw [v'] 85 :: H ∧ bs'.length ≤ 250000 ∧ bs' ++ (xs.drop i).flatMap dA = bs ++ xs.flatMap dA) xs.length eS ⟨0, bs, v, by omega, rfl, fun _ h => h, rfl, hb, rfl⟩ ?_
  rintro m j' H2 R2 ⟨i, bs', v', him, h8, hR2, hH2, hb', hle⟩
  subst hH2
  have hm2 := hR2 _ hm
  refine dD (by simp only [eF, List.foldl_cons, List.foldl_nil, List.set_cons_succ, List.set_cons_zero, h8]; rfl) ?_
  have hlen : bs'.length + ((xs.drop i).flatMap dA).length = bs.length + (xs.flatMap dA).length := by
    have := congrArg List.length hle
    simpa only [List.length_append] using this
  have HL := Go.Lib.hid hle
  clear hle
  repeat' (first | (apply aF) | (apply aA) | (apply aV) | (apply bF) | (apply cG) | (apply aK; exact rfl) | (apply aJ; exact rfl) | (apply aH) | (apply aD) | (apply aW) | (apply aS) | (apply aP; exact rfl; ((refine bD rfl cL rfl ?_)); refine aB ?_) | (apply aU; exact rfl; ((refine bQ rfl rfl (fun h => ?_) (fun h => ?_))) <;> (refine aB ?_)) | (apply gZ; exact rfl; ((refine iP eR rfl aX (List.getElem?_eq_getElem aO) (fun b o hI => ?_))); refine aB ?_) | (refine aE rfl rfl ?_; ((first | refine aG ?_ | refine aY ?_)); refine aB ?_))
  · have hd : (xs.drop i).flatMap dA = dA xs[i] ++ (xs.drop (i + 1)).flatMap dA := by rw [List.drop_eq_getElem_cons (show i < xs.length by omega), List.flatMap_cons]
    rw [hd, List.length_append] at hlen
    refine fV rfl rfl (gH bw xs[i] hI) (fun _ h => (by cases h)) rfl rfl hb' (fun hle v2 => ?_) (fun hgt => ?_)
    · refine aB ?_
      repeat' (first | (apply aA) | (apply aH) | (apply aD) | (apply bU) | (apply aU; exact rfl; ((refine bM rfl rfl aO aO ?_)); refine aB ?_) | (refine aE rfl rfl ?_; ((refine aG ?_)); refine aB ?_))
      refine cJ (m - 1) _ R2 aO eS ⟨i + 1, bs' ++ dA xs[i], v2, by omega, rfl, hR2, rfl, by rw [List.length_append]; exact hle, ?_⟩ dV
      rw [← HL.out, hd, List.append_assoc]
    · skip
      repeat' (first | (apply aM) | (apply cI))
      refine aR (cN H R (fun w hs => hs.weaken eB (fun p hp => List.mem_cons_of_mem _ (hR2 p hp))) (hp aO))
  · have e := HL.out
    rw [List.drop_of_length_le aO, List.flatMap_nil, List.append_nil] at e
    rw [e] at hb' ⊢
    refine aZ (.inr rfl) (gQ rfl) (fG _ R (fun w hs => hs.weaken eB hR2) (hk (by rw [List.length_append] at hb'; exact hb') v'))

end Go.Proofs.YtggdljhmbckpmaaGreat
