/- The small functions of package image: walks (2). A range over a function; functions that defer. Calls that are lent what is owned; loops round by round. An append to a part of an owned block. -/
import Derived.Test.YtggdljhmbckpmaaGreatA10J
import Derived.LoopNIn
import Derived.ArgAppend
set_option linter.unusedVariables false
set_option linter.unusedSimpArgs false
namespace Go.Proofs.YtggdljhmbckpmaaGreat
open Go Go.RowKit
set_option maxRecDepth 100000
set_option maxHeartbeats 800000

theorem K_nat {K : Value → List Hp → List MP → Prop} {k : IntKind} {H : List Hp} {R : List MP} {a b : Nat} (h : a = b) (hk : K (.int k (b : Int)) H R) : K (.int k (a : Int)) H R := h ▸ hk

def four (a b c d : UInt8) : Nat := a.toNat ||| b.toNat * 2 ^ 8 % 2 ^ 32 ||| c.toNat * 2 ^ 16 % 2 ^ 32 ||| d.toNat * 2 ^ 24 % 2 ^ 32
def eN (xs : List UInt8) : Nat := four (xs.getD 0 0) (xs.getD 1 0) (xs.getD 2 0) (xs.getD 3 0)
theorem mD (xs : List UInt8) (i : Nat) (h : i < xs.length) : xs.getD i 0 = xs[i] := by simp [List.getD, h]
theorem fourOf_k {w0 : World} {H : List Hp} {R : List MP} {K : Value → List Hp → List MP → Prop} (A : Option Addr) (c : Nat) (xs : List UInt8) (h4 : 4 ≤ xs.length) (hb : xs.length ≤ 9223372036854775807) (hm : Sl (.slice A xs.length c) xs ∈ R)
    (k : K (.int .u32 (eN xs : Nat)) H R) : CallsK Tryz.prog w0 155 #[.slice A xs.length c] H R K := by
  refine bV Tryz.func155 rfl Tryz.ntmps155 fI ?_
  repeat' (first | (apply aF) | (apply aA) | (apply aH) | (apply aD) | (refine aE rfl rfl ?_; ((refine aY ?_)); refine aB ?_))
  refine eC fK jN (fun _ _ _ _ _ _ h => h) (List.Sublist.refl _) ?_
  all_goals ((refine bG 0 ?_; ((refine aG ?_)); refine aI ?_))
  all_goals ((refine bG 1 ?_; ((refine fT eR rfl aX (List.getElem?_eq_getElem aO) aO (fun b o => ?_))); refine aI ?_))
  all_goals ((refine bG 2 ?_; ((refine bD rfl cL rfl ?_)); refine aI ?_))
  all_goals ((refine bG 3 ?_; ((refine hJ eR ?_)); refine aI ?_))
  all_goals ((refine bG 4 ?_; ((refine aG ?_)); refine aI ?_))
  all_goals ((refine bG 5 ?_; ((refine fT eR rfl aX (List.getElem?_eq_getElem aO) aO (fun b o => ?_))); refine aI ?_))
  all_goals ((refine bG 6 ?_; ((refine bD rfl cL rfl ?_)); refine aI ?_))
  all_goals ((refine bG 7 ?_; ((refine hJ eR ?_)); refine aI ?_))
  all_goals ((refine bG 8 ?_; ((refine mK (n := 8) rfl rfl rfl cQ ?_)); refine aI ?_))
  all_goals ((refine bG 9 ?_; ((refine qJ rfl rfl rfl (by repeat' ((exact Nat.lt_of_lt_of_le (UInt8.toNat_lt _) cQ))) (by repeat' ((exact Nat.mod_lt _ cQ))) ?_)); refine aI ?_))
  all_goals ((refine bG 10 ?_; ((refine aG ?_)); refine aI ?_))
  all_goals ((refine bG 11 ?_; ((refine fT eR rfl aX (List.getElem?_eq_getElem aO) aO (fun b o => ?_))); refine aI ?_))
  all_goals ((refine bG 12 ?_; ((refine bD rfl cL rfl ?_)); refine aI ?_))
  all_goals ((refine bG 13 ?_; ((refine hJ eR ?_)); refine aI ?_))
  all_goals ((refine bG 14 ?_; ((refine mK (n := 16) rfl rfl rfl cQ ?_)); refine aI ?_))
  all_goals ((refine bG 15 ?_; ((refine qJ rfl rfl rfl (by repeat' ((first | exact Nat.mod_lt _ cQ | exact Nat.lt_of_lt_of_le (UInt8.toNat_lt _) cQ | refine Nat.or_lt_two_pow ?_ ?_))) (by repeat' ((exact Nat.mod_lt _ cQ))) ?_)); refine aI ?_))
  all_goals ((refine bG 16 ?_; ((refine aG ?_)); refine aI ?_))
  all_goals ((refine bG 17 ?_; ((refine fT eR rfl aX (List.getElem?_eq_getElem aO) aO (fun b o => ?_))); refine aI ?_))
  all_goals ((refine bG 18 ?_; ((refine bD rfl cL rfl ?_)); refine aI ?_))
  all_goals ((refine bG 19 ?_; ((refine hJ eR ?_)); refine aI ?_))
  all_goals ((refine bG 20 ?_; ((refine mK (n := 24) rfl rfl rfl cQ ?_)); refine aI ?_))
  all_goals ((refine bG 21 ?_; ((refine qJ rfl rfl rfl (by repeat' ((first | exact Nat.mod_lt _ cQ | exact Nat.lt_of_lt_of_le (UInt8.toNat_lt _) cQ | refine Nat.or_lt_two_pow ?_ ?_))) (by repeat' ((exact Nat.mod_lt _ cQ))) ?_)); refine aI ?_))
  all_goals ((refine bG 22 ?_; ((refine aY ?_)); refine aI ?_))
  all_goals refine iC ?_
  repeat' (first | (apply bP) | (apply aD))
  refine aZ (.inl rfl) (dP rfl (bR rfl)) (cA H R (fun w hs => hs.weaken (List.Sublist.refl _) (fun p hp => by simp [hp])) ?_)
  refine K_nat (b := eN xs) ?_ k
  simp only [eN, four, mD xs 0 aO, mD xs 1 aO, mD xs 2 aO, mD xs 3 aO]
  rfl

def lZ (n : Nat) : List UInt8 := [UInt8.ofNat n, UInt8.ofNat (n / 256), UInt8.ofNat (n / 65536), UInt8.ofNat (n / 16777216)]
theorem sI (n : Nat) : Value.int .u8 ((n % 2 ^ IntKind.bits .u8 : Nat) : Int) = fH (UInt8.ofNat n) := by simp [fH, IntKind.bits]
theorem nA {w0 : World} {H : List Hp} {R : List MP} {K : Value → List Hp → List MP → Prop} (v : Value) (m n : Nat) (cs : List Value) (hb : m ≤ 1000000000) (hn : n < 4294967296)
    (k : ∀ v', K v' (.row v' 5 1 (m + 4) (cs ++ bC (lZ n)) :: H) R) : CallsK Tryz.prog w0 114 #[v, .int .u32 n] (.row v 5 1 m cs :: H) R K := by
  refine bV Tryz.func114 rfl Tryz.ntmps114 fI ?_
  repeat' (first | (refine aE rfl rfl ?_; ((first | refine lN rfl rfl ?_ | refine lX (n := 8) rfl rfl cQ ?_ | refine lX (n := 16) rfl rfl cQ ?_ | refine lX (n := 24) rfl rfl cQ ?_)); refine aB ?_) | (apply aF) | (apply aA) | (apply aH) | (apply aD) | (refine aE rfl rfl ?_; ((first | refine aG ?_ | refine aY ?_)); refine aB ?_) | (refine bJ rfl rfl ?_; ((refine bK cQ fP rfl (fun b => ?_))); refine aB ?_))
  refine T_hp (H' := .blk b (bC (lZ n)) 5 :: .row v 5 1 m cs :: H) (by simp only [bC, lZ, List.map_cons, List.map_nil, ← sI]) ?_
  refine bJ rfl rfl ?_
  refine dF 1 0 rfl rfl rfl rfl cQ (by simp [lZ]) (mX _) aO aO (fun v' => ?_)
  refine aB ?_
  refine cE ?_
  repeat' (first | (apply bP) | (apply aH) | (apply aD) | (refine aE rfl rfl ?_; ((refine aY ?_)); refine aB ?_))
  refine aZ (.inl rfl) (dP rfl (bR rfl)) (cA _ R (fun w hs => hs.weaken (List.sublist_cons_self _ _) (fun p hp => hp)) (k v'))

/-- slices.Clone of bytes: a row of its own. -/
theorem oQ {w0 : World} {H : List Hp} {R : List MP} {K : Value → List Hp → List MP → Prop} (A : Option Addr) (c : Nat) (xs : List UInt8) (hb : xs.length ≤ 140737488355328) (hm : Sl (.slice A xs.length c) xs ∈ R)
    (k : ∀ v', K v' (.row v' 5 1 xs.length (bC xs) :: H) R) : CallsK Tryz.prog w0 64 #[.slice A xs.length c] H R K := by
  refine eQ (p := A = none → xs = []) (fun w hs hA => ?_) (fun hnil => ?_)
  · obtain ⟨hn, hc⟩ := hs.sl_bytes hm
    rcases Nat.eq_zero_or_pos xs.length with h0 | h0
    · exact List.eq_nil_of_length_eq_zero h0
    · obtain ⟨b, o, e, _⟩ := hc h0
      rw [hA] at e; cases e
  refine bV Tryz.func64 rfl Tryz.ntmps64 fI ?_
  repeat' (first | (refine aE rfl rfl ?_; refine pw_eqnil rfl rfl (fun hA => ?_) (fun a hA => ?_) <;> refine aB ?_) | (apply aF) | (apply aA) | (apply bP) | (apply bF) | (apply aK; exact rfl) | (apply aJ; exact rfl) | (apply aH) | (apply aD) | (apply bN) | (refine aE rfl rfl ?_; ((first | refine aG ?_ | refine aY ?_)); refine aB ?_) | (refine bJ rfl rfl ?_; ((refine bK cQ fP rfl (fun b => ?_))); refine aB ?_))
  · have hx := hnil hA
    subst hx
    refine aZ (.inl rfl) (dP rfl (bR rfl)) (cA _ R (fun w hs => hs.nilrow 5 1) (k _))
  · skip
    repeat' (fail)
    refine eU (.row (.slice (some ⟨b, 0, none⟩) 0 0) 5 1 0 [] :: H) R (fun w hs => hs.torow (i := 0) (cs := []) (sp := []) (n := 0) (cap := 0) (size := 1) rfl rfl rfl aO cQ) ?_
    repeat' (fail)
    refine bJ rfl rfl ?_
    refine gK 0 rfl rfl aX rfl rfl aO aO (fun v' => ?_)
    refine aB ?_
    refine T_hp (by simp only [List.set_cons_zero, Nat.zero_add, List.nil_append]; rfl) ?_
    repeat' (first | (apply bP) | (apply aH) | (apply aD) | (refine aE rfl rfl ?_; ((refine aY ?_)); refine aB ?_))
    exact aZ (.inl rfl) (dP rfl (bR rfl)) (cA _ R (fun w hs => hs) (k v'))
end Go.Proofs.YtggdljhmbckpmaaGreat
namespace Go.Proofs.YtggdljhmbckpmaaGreat
open Go Go.RowKit
attribute [local semireducible] T TC En PW GW OW CallsK CallsP Sl Rd Ls At S TA
section
variable {P : Program} {w0 : World} {H : List Hp} {R : List MP}
theorem S.putObj {w : World} {i b : Nat} {x : Obj} (h : S w0 w H R) (hi : H[i]? = some (.obj b x)) (y : Obj) : S w0 (w.putObj b y) (H.set i (.obj b y)) R :=
  h.set_obj hi y (fun k hk => World.putObj_heap_other hk) (fun hb => World.putObj_heap_same hb) World.putObj_size rfl rfl rfl
end

/-- A call of a loop's yield. -/
def YK (P : Program) (w0 : World) (l : Nat) (v : Value) (H : List Hp) (R : List MP) (K : Value → List Hp → List MP → Prop) : Prop :=
  ∀ w, S w0 w H R → YieldAt Fence.wide 8 P l #[v] w (fun e w' => ∃ v H' R', e = .returned v ∧ S w0 w' H' R' ∧ K v H' R')
section
variable {P : Program} {w0 : World} {D : List Deferred} {ops : Array Oper} {Q : Exit → Act → World → Prop} {rest : List Oper} {E : List Value} {H : List Hp} {R : List MP}
theorem ow_yield {dst : Option Tmp} {fo : Operand} {x : Operand} {at_ : Array TypeId} {ty : TypeId} {pos : String} {aft : Array Edge} {g : Option (Nat × Bool)} {K : Value → List Hp → List MP → Prop} {l : Nat} {v : Value}
    (hf : ev E fo = .func (.yield l) #[] #[]) (hx : ev E x = v) (h : YK P w0 l v H R K) : OW Fence.wide 9 P w0 D Q ⟨dst, .call ⟨.value fo, #[x], at_⟩, ty, pos, aft, g⟩ E H R K := fun w hs => by
  refine ⟨hX, ?_⟩
  rw [jZ (by intro c e; cases e)]
  obtain ⟨fn, tmps, assign, body, hy, hr⟩ := h w hs
  have hrun : (nG E (.call ⟨.value fo, #[x], at_⟩) ty).run P w = .ok (.round l fn tmps assign body) w := by
    simp only [nG, execOp, resolve, hf, Deferred.ofValue, invoke, Sem.run_bind, Sem.run_pure, Result.andThen_ok, List.map_toArray, List.map_cons, List.map_nil, hx]
    simpa using hy
  simp only [hrun, Oper.uponIn]
  refine ⟨fun h => (by cases h), hr.mono ?_⟩
  rintro e w' ⟨u, H', R', rfl, hs', k⟩
  exact ⟨u, H', R', by rw [iZ], hs', k⟩
theorem En_begin {F : Fence} {n l i : Nat} {rec : Loop} {body : Code} {Rp : Ending → World → Prop} (hi : H[i]? = some (.obj l (.loop rec))) (hr : rec.state = .ready)
    (h : TC F n P w0 D body (roundPost P l Rp) E (H.set i (.obj l (.loop { rec with state := .busy }))) R) :
    En w0 D (Exit.then (fun a₁ w₁ => ∃ w₂, (Instr.beginRound l).run P w₁ = .ok () w₂ ∧ body.wpIn F n P (roundPost P l Rp) a₁ w₂) (fun _ _ _ => False)) .normal E H R := fun w hs =>
  ⟨_, run_beginRound (hs.obj_heap hi) hr, h _ (hs.putObj hi _)⟩
theorem xS {l i : Nat} {rec rec' : Loop} {K : Value → List Hp → List MP → Prop} (hi : H[i]? = some (.obj l (.loop rec))) (he : { rec with state := .ready, pending := none } = rec') (H' : List Hp) (R' : List MP) (hw : ∀ w, S w0 w (H.set i (.obj l (.loop rec'))) R → S w0 w H' R') (hK : K (.bool true) H' R') :
    En w0 D (roundPost P l (fun e w' => ∃ v H' R', e = .returned v ∧ S w0 w' H' R' ∧ K v H' R')) .normal E H R := fun w hs => by
  subst he
  exact ⟨_, _, run_endRound none (hs.obj_heap hi), _, H', R', rfl, hw _ (hs.putObj hi _), hK⟩
theorem yk_round {l i : Nat} {rec : Loop} {t : Tmp} {v : Value} {K : Value → List Hp → List MP → Prop} (hi : H[i]? = some (.obj l (.loop rec))) (hp : rec.params = #[t]) {E : List Value} (hE : rec.tmps.setIfInBounds t v = E.toArray)
    (h : TC (Fence.wide.inRound l) 8 P w0 [] rec.assign (Exit.then (fun a₁ w₁ => ∃ w₂, (Instr.beginRound l).run P w₁ = .ok () w₂ ∧ rec.body.wpIn (Fence.wide.inRound l) 8 P (roundPost P l (fun e w' => ∃ v H' R', e = .returned v ∧ S w0 w' H' R' ∧ K v H' R')) a₁ w₂) (fun _ _ _ => False)) E H R) : YK P w0 l v H R K := fun w hs => by
  refine ⟨_, _, _, _, run_yield (hs.obj_heap hi) (by rw [hp]; rfl), roundIn_of_wpIn trivial ?_⟩
  have := h w hs
  have e : (rec.params.zip #[v]).foldl (fun tmps (x : Tmp × Value) => tmps.setIfInBounds x.1 x.2) rec.tmps = E.toArray := by rw [hp, ← hE]; simp
  rw [e]; exact this

/-- The statement: whatever is returned, the record is not busy and no jump is pending. -/
theorem wG {g : Operand} {ps : Array Tmp} {assign body : Code} {gf : Nat} {lb : List Value} [FnOk P gf] (hg : ev E g = .func (.func gf) #[] lb.toArray)
    (h : ∀ l d fn, CallsK P w0 gf (.func (.yield l) #[] #[] :: lb).toArray (.obj l (.loop { state := .ready, pending := none, fn := fn, tmps := E.toArray, params := ps, assign, body, defers := d }) :: .obj d (.deferred (some [])) :: H) R
      (fun v H' R' => ∃ i rec, H'[i]? = some (.obj l (.loop rec)) ∧ rec.state = .ready ∧ rec.pending = none ∧ En w0 (⟨.collected d, #[]⟩ :: D) Q .normal E (H'.set i (.obj l (.loop { rec with state := .exhausted }))) R')) :
    TC Fence.wide 9 P w0 D (.rangeFunc g ps assign body) Q E H R := fun w hs => by
  refine wpIn_rangeFunc fun fn hfn => ?_
  have hs1 := (hs.alloc_obj (.deferred (some []))).alloc_obj (.loop { state := .ready, pending := none, fn := fn, tmps := E.toArray, params := ps, assign, body, defers := w.heap.size })
  have e1 : (w.alloc (.deferred (some []))).heap.size = w.heap.size + 1 := World.size_alloc _ _
  rw [e1] at hs1
  have hev : (jR E D).eval g = .func (.func gf) #[] lb.toArray := by rw [lO]; exact hg
  generalize hW : (w.alloc (.deferred (some []))).alloc (.loop { state := .ready, pending := none, fn := fn, tmps := E.toArray, params := ps, assign, body, defers := w.heap.size }) = W1 at hs1
  have hc := (callsIn_wide (n := 9 - 1)).2 (h _ _ fn W1 hs1)
  refine ⟨w.heap.size + 1, [{ target := .collected w.heap.size, args := #[] }], W1, ⟨.fn (.func gf) lb.toArray, #[.func (.yield (w.heap.size + 1)) #[] #[]]⟩, W1, gf, (.func (.yield (w.heap.size + 1)) #[] #[] :: lb).toArray, W1, ?_, ?_, ?_, ?_, fun _ => cQ, hc.mono ?_⟩
  · rw [← hW]; exact run_enterLoop_outer _ _ _ _ _
  · simp only [resolve, hev]
    simp [Deferred.ofValue, Act.eval]
  · intro f' _; trivial
  · simp [invoke, FnOk.run]
  · rintro e w' ⟨v, H', R', rfl, hs', i, rec, hi, hr, hp, hk⟩
    refine ⟨_, _, run_endLoop (hs'.obj_heap hi) (by rw [hr]; simp), ?_⟩
    cases rec
    cases hp
    exact hk _ (hs'.putObj hi _)

theorem S.rot3 {w : World} {a b c : Hp} (h : S w0 w (a :: b :: c :: H) R) : S w0 w (b :: c :: a :: H) R :=
  h.perm ((List.Perm.swap b a (c :: H)).trans ((List.Perm.swap c a H).cons b))
/-! ### on the way out -/
def LV (P : Program) (w0 : World) (fn : Func) (K : Value → List Hp → List MP → Prop) (D : List Deferred) (E : List Value) (H : List Hp) (R : List MP) : Prop :=
  ∀ w, S w0 w H R → LeavesInM Fence.wide 9 P fn E.toArray (fun e w' => ∃ v H' R', e = .returned v ∧ S w0 w' H' R' ∧ K v H' R') D .returning w
theorem LV_nil {fn : Func} {K : Value → List Hp → List MP → Prop} {v : Value} (hr : ∀ w, S w0 w H R → (results fn E.toArray).run P w = .ok v w) (H' : List Hp) (R' : List MP) (hw : ∀ w, S w0 w H R → S w0 w H' R') (hk : K v H' R') : LV P w0 fn K [] E H R := fun w hs =>
  ⟨v, hr w hs, v, H', R', rfl, hw w hs, hk⟩
theorem LV_mark {fn : Func} {K : Value → List Hp → List MP → Prop} {i d : Nat} {ds : List Deferred} (hi : H[i]? = some (.obj d (.deferred (some [])))) (h : LV P w0 fn K ds E (H.set i (.obj d (.deferred none))) R) : LV P w0 fn K (⟨.collected d, #[]⟩ :: ds) E H R := fun w hs =>
  ⟨by simp, .inl ⟨d, _, rfl, run_takeDeferred (hs.obj_heap hi), h _ (hs.putObj hi _)⟩⟩
theorem En_leave {fn : Func} {K : Value → List Hp → List MP → Prop} {e : Exit} (he : e = .ret ∨ e = .normal) (h : LV P w0 fn K D E H R) : En w0 D (bodyPostM Fence.wide 9 P fn (fun e w' => ∃ v H' R', e = .returned v ∧ S w0 w' H' R' ∧ K v H' R')) e E H R := fun w hs => by
  rcases he with rfl | rfl <;> exact h w hs
theorem oZ {f : FuncId} {fn : Func} {c : Code} {A : List Value} {m : Nat} {K : Value → List Hp → List MP → Prop} (hf : P.funcs[f]? = some fn) (hb : fn.body = some c) (hn : fn.ntmps = m) {E : List Value}
    (hE : A ++ List.replicate (m - A.length) undef = E)
    (h : TC Fence.wide 9 P w0 [] c (bodyPostM Fence.wide 9 P fn (fun e w' => ∃ v H' R', e = .returned v ∧ S w0 w' H' R' ∧ K v H' R')) E H R) : CallsK P w0 f A.toArray H R K := fun w hs => by
  refine callsIn_wide.1 (callsIn_of_wp_marks (F := Fence.wide) (n := 9) hf hb trivial ?_)
  have : A.toArray ++ Array.replicate (fn.ntmps - A.toArray.size) undef = E.toArray := by rw [← hE, hn]; simp
  rw [this]; exact h w hs

/-! ### loops that turn what is deferred -/
def BackD (w0 : World) (I : Nat → List Deferred → List Value → List Hp → List MP → Prop) (m : Nat) : Act → World → Prop :=
  fun a w => ∃ k, k < m ∧ ∃ D E H R, a = jR E D ∧ S w0 w H R ∧ I k D E H R
theorem TC_loopD {F : Fence} {n : Nat} {c : Code} (I : Nat → List Deferred → List Value → List Hp → List MP → Prop) (m : Nat) (h0 : I m D E H R)
    (round : ∀ m D E H R, I m D E H R → TC F n P w0 D c (Exit.then (BackD w0 I m) Q) E H R) : TC F n P w0 D (.loop c) Q E H R := by
  intro w hs
  refine wpIn_loop_ghost (fun m a w => ∃ D E H R, a = jR E D ∧ S w0 w H R ∧ I m D E H R) m ⟨D, E, H, R, rfl, hs, h0⟩ ?_
  rintro m a w ⟨D, E, H, R, rfl, hs, hI⟩
  refine wpIn_mono (round m D E H R hI w hs) ?_
  intro e a' w' hq
  cases e with
  | normal =>
    obtain ⟨k, hk, D', E', H', R', e1, e2, e3⟩ := hq
    exact ⟨k, hk, D', E', H', R', e1, e2, e3⟩
  | _ => exact hq
def BackSD (w0 : World) (E0 : List Value) (js : List Nat) (I : Nat → List Deferred → (Nat → Value) → List Hp → List MP → Prop) (m : Nat) : Act → World → Prop :=
  fun a w => ∃ k, k < m ∧ ∃ D j H R, a = jR (eF E0 js j) D ∧ S w0 w H R ∧ I k D j H R
theorem k9 {F : Fence} {n : Nat} {c : Code} (js : List Nat) (I : Nat → List Deferred → (Nat → Value) → List Hp → List MP → Prop) (m : Nat) (he : eF E js (fun i => E.getD i undef) = E) (h0 : I m D (fun i => E.getD i undef) H R)
    (round : ∀ m D j H R, I m D j H R → TC F n P w0 D c (Exit.then (BackSD w0 E js I m) Q) (eF E js j) H R) : TC F n P w0 D (.loop c) Q E H R := by
  refine TC_loopD (fun m D' E' H' R' => ∃ j, E' = eF E js j ∧ I m D' j H' R') m ⟨_, he.symm, h0⟩ ?_
  rintro m D' E' H' R' ⟨j, rfl, hI⟩
  refine j9 (round m D' j H' R' hI) ?_
  intro e a w hq
  cases e with
  | normal =>
    obtain ⟨k, hk, D2, j', H2, R2, e1, e2, e3⟩ := hq
    exact ⟨k, hk, D2, eF E js j', H2, R2, e1, e2, j', rfl, e3⟩
  | _ => exact hq
theorem oN {E0 : List Value} {js : List Nat} {I : Nat → List Deferred → (Nat → Value) → List Hp → List MP → Prop} {m : Nat} (k : Nat) (H' : List Hp) (R' : List MP) (hk : k < m) (hE : eF E0 js (fun i => E.getD i undef) = E) (hI : I k D (fun i => E.getD i undef) H' R') (hw : ∀ w, S w0 w H R → S w0 w H' R') :
    En w0 D (Exit.then (BackSD w0 E0 js I m) Q) .normal E H R := fun w hs => ⟨k, hk, D, _, H', R', by rw [hE], hw w hs, hI⟩
theorem YK_mono {l : Nat} {v : Value} {K K' : Value → List Hp → List MP → Prop} (h : YK P w0 l v H R K) (hk : ∀ v H R, K v H R → K' v H R) : YK P w0 l v H R K' := fun w hs => by
  obtain ⟨fn, tmps, assign, body, hy, hr⟩ := h w hs
  exact ⟨fn, tmps, assign, body, hy, hr.mono fun e w' ⟨u, H', R', e1, e2, e3⟩ => ⟨u, H', R', e1, e2, hk _ _ _ e3⟩⟩
/-- An owned block stays. -/
theorem T_freeze {F : Fence} {n : Nat} (i : Nat) {b : Nat} {cs : List Value} {T' : TypeId} (hi : H[i]? = some (.blk b cs T')) (k : T F n P w0 D ops Q rest E (H.eraseIdx i) (At b 0 cs :: R)) : T F n P w0 D ops Q rest E H R := fun w hs => k w (hs.freeze hi)
theorem fO {F : Fence} {n : Nat} {c : Code} (i : Nat) {b : Nat} {cs : List Value} {T' : TypeId} (hi : H[i]? = some (.blk b cs T')) (k : TC F n P w0 D c Q E (H.eraseIdx i) (At b 0 cs :: R)) : TC F n P w0 D c Q E H R := fun w hs => k w (hs.freeze hi)
end
attribute [irreducible] YK LV
end Go.Proofs.YtggdljhmbckpmaaGreat
namespace Go.Proofs.YtggdljhmbckpmaaGreat
open Go Go.RowKit
attribute [local semireducible] T TC En PW GW OW CallsK CallsP Sl Rd Ls At S TA
section
variable {P : Program} {w0 : World} {H : List Hp} {R : List MP}
def sM (w : World) : Sto := fun b o => w.cell? ⟨b, o, none⟩
theorem S.quiet {w w' : World} (h : S w0 w H R) (hb : Below w.heap.size w w') : S w0 w' H R := by
  obtain ⟨s, h⟩ := h
  refine ⟨s, ⟨hb.os.trans h.below.os, hb.tape.trans h.below.tape, hb.output.trans h.below.output, Nat.le_trans h.below.size hb.size, fun k hk => (hb.block k (Nat.lt_of_lt_of_le hk h.below.size)).trans (h.below.block k hk)⟩, fun b o v hs => ?_, fun x hx => ?_, h.nd, h.rd⟩
  · exact (World.cell?_of_block (w := w) (hb.block b (h.st_lt hs))).trans (h.st b o v hs)
  · exact Hp.ok_of_heap (h.hp x hx) fun b hxb => ⟨hb.block b (Hp.own_lt (h.hp x hx) hxb).1, fun _ => rfl⟩
theorem S.self {w : World} {R1 : List MP} (hR1 : ∀ p ∈ R1, p.p (sM w)) : S w w [] R1 :=
  ⟨sM w, Below.refl _ _, fun b o v h => h, fun x hx => (by cases hx), List.nodup_nil, hR1⟩
theorem S.full_blk {w : World} {i b : Nat} {cs : List Value} {T : TypeId} (hs : S w0 w H R) (hi : H[i]? = some (.blk b cs T)) : (At b 0 cs).p (sM w) := by
  intro j v hj
  have := hs.blk_cells hi j v hj
  simpa [sM] using this
theorem S.full_row {w : World} {i m c : Nat} {A : Option Addr} {xs : List UInt8} (hs : S w0 w H R) (hi : H[i]? = some (.row (.slice A m c) 5 1 m (bC xs))) : (Sl (.slice A m c) xs).p (sM w) := by
  rcases hs.unrow hi with ⟨hv, h0, hnil⟩ | ⟨b, cap, sp, hv, h2, h3, h4, h5, h6⟩
  · have hx : xs = [] := by simpa [bC] using hnil
    cases hv
    subst hx
    exact ⟨none, 0, rfl, ⟨by simp, by simp [eO]⟩, fun h => by simp at h⟩
  · injection hv with e1 _ e2
    subst e1; subst e2
    have hml : m = xs.length := by simpa using h3.symm
    subst hml
    have hlt : i < H.length := (List.getElem?_eq_some_iff.1 hi).1
    have hat := h6.full_blk (i := i) (b := b) (cs := bC xs ++ sp) (T := 5) (by rw [List.getElem?_set_self hlt])
    refine ⟨_, _, rfl, ⟨h4, by simp only [maxLen] at h5; simp only [eO]; omega⟩, fun _ => ⟨b, 0, rfl, fun k x hk => ⟨[fH x], rfl, fun j v hj => ?_⟩⟩⟩
    have hj0 : j = 0 ∧ v = fH x := by
      cases j with
      | zero => simp at hj; exact ⟨rfl, hj.symm⟩
      | succ j => simp at hj
    obtain ⟨rfl, rfl⟩ := hj0
    have := hat k (fH x) (by
      rw [List.getElem?_append_left (by simp; exact (List.getElem?_eq_some_iff.1 hk).1)]
      simp [bC, hk])
    simpa [Rep.size] using this
/-- A call that makes nothing of ours: it may read what is owned. -/
theorem vW {f : FuncId} {args : Array Value} {K : Value → List Hp → List MP → Prop} (v : Value) (R1 : List MP) (h : ∀ w1, CallsK P w1 f args [] R1 (fun u _ _ => u = v)) (hR1 : ∀ w, S w0 w H R → ∀ p ∈ R1, p.p (sM w)) (k : K v H R) : CallsK P w0 f args H R K := fun w hs =>
  (h w w (S.self (hR1 w hs))).mono (fun e w' ⟨u, H', R', e1, hs', hu⟩ => ⟨v, H, R, by subst hu; exact e1, hs.quiet hs'.below, k⟩)
theorem S.row_at {w : World} {i m size : Nat} {v : Value} {T : TypeId} {cs : List Value} (hs : S w0 w H R) (hi : H[i]? = some (.row v T size m cs)) (hm : 0 < m) : ∃ b cap, v = .slice (some ⟨b, 0, none⟩) m cap ∧ m ≤ cap ∧ cap ≤ maxLen := by
  rcases hs.unrow hi with ⟨_, h0, _⟩ | ⟨b, cap, sp, h1, h2, h3, h4, h5, h6⟩
  · omega
  · exact ⟨b, cap, h1, h4, h5⟩
end
section
variable {F : Fence} {n : Nat} {P : Program} {w0 : World} {D : List Deferred} {ops : Array Oper} {Q : Exit → Act → World → Prop} {rest : List Oper} {E : List Value} {H : List Hp} {R : List MP}
theorem T_row_at (i : Nat) {v : Value} {T' : TypeId} {sz m : Nat} {cs : List Value} (hi : H[i]? = some (.row v T' sz m cs)) (hm : 0 < m) (k : ∀ b c, v = .slice (some ⟨b, 0, none⟩) m c → m ≤ c → c ≤ maxLen → T F n P w0 D ops Q rest E H R) : T F n P w0 D ops Q rest E H R := fun w hs => by
  obtain ⟨b, c, e, h1, h2⟩ := hs.row_at hi hm
  exact k b c e h1 h2 w hs
theorem eH {e : Exit} {α : Type} [Rep α] (i : Nat) {v : Value} {T' : TypeId} {sz m : Nat} {cs : List Value} {xs : List α} (hi : H[i]? = some (.row v T' sz m cs)) (hsz : Rep.size α = sz) (h0 : 0 < sz) (hx : Cx cs xs ∈ R) (k : ∀ A c, v = .slice A xs.length c → En w0 D Q e E (H.eraseIdx i) (Sl (.slice A xs.length c) xs :: R)) : En w0 D Q e E H R := fun w hs => by
  obtain ⟨A, c, e, h⟩ := hs.stays hi hsz h0 hx
  exact k A c e w h
/-! ### where branches join -/
def MidS (w0 : World) (D : List Deferred) (E0 : List Value) (js : List Nat) (M : (Nat → Value) → List Hp → List MP → Prop) : Exit → Act → World → Prop :=
  fun e a w => e = .normal ∧ ∃ j H R, a = jR (eF E0 js j) D ∧ S w0 w H R ∧ M j H R
theorem jJ {x y : Code} (js : List Nat) (M : (Nat → Value) → List Hp → List MP → Prop) (h1 : TC F n P w0 D x (MidS w0 D E js M) E H R) (h2 : ∀ j H R, M j H R → TC F n P w0 D y Q (eF E js j) H R) : TC F n P w0 D (.seq x y) Q E H R := fun w hs =>
  wpIn_seq (wpIn_mono (h1 w hs) (fun e a w' ⟨he, j, H', R', e1, e2, e3⟩ => by
    subst he; subst e1
    exact h2 j H' R' e3 w' e2))
theorem fQ {E0 : List Value} {js : List Nat} {M : (Nat → Value) → List Hp → List MP → Prop} (H' : List Hp) (R' : List MP) (hE : eF E0 js (fun i => E.getD i undef) = E) (hM : M (fun i => E.getD i undef) H' R') (hw : ∀ w, S w0 w H R → S w0 w H' R') : En w0 D (MidS w0 D E0 js M) .normal E H R := fun w hs =>
  ⟨rfl, _, H', R', by rw [hE], hw w hs, hM⟩
/-! ### round by round -/
def TCr (F : Fence) (n : Nat) (P : Program) (w0 : World) (D : List Deferred) (c : Code) (Q : Exit → Act → World → Prop) (m : Nat) (E : List Value) (H : List Hp) (R : List MP) : Prop :=
  ∀ w, S w0 w H R → Code.roundsIn F n P c Q m (jR E D) w
theorem pC {c : Code} (m : Nat) (h : TCr F n P w0 D c Q m E H R) : TC F n P w0 D (.loop c) Q E H R := fun w hs => wpIn_loop_rounds m (h w hs)
theorem iK {c : Code} {m : Nat} (h : TC F n P w0 D c (Exit.then (Code.roundsIn F n P c Q m) Q) E H R) : TCr F n P w0 D c Q (m + 1) E H R := fun w hs => h w hs
theorem kH {c : Code} {m : Nat} (h : TCr F n P w0 D c Q m E H R) : En w0 D (Exit.then (Code.roundsIn F n P c Q m) Q) .normal E H R := fun w hs => h w hs
end
attribute [irreducible] TCr
end Go.Proofs.YtggdljhmbckpmaaGreat
namespace Go.Proofs.YtggdljhmbckpmaaGreat
open Go Go.RowKit
attribute [local semireducible] T TC En PW GW OW CallsK CallsP Sl Rd Ls At S TA
section
variable {P : Program} {w0 : World} {H : List Hp} {R : List MP}
theorem pE (w : World) (t ty e : TypeId) (i : TypeInfo) (ht : P.underlying t = some (.slice e)) (hi : P.info? e = some i)
    (g off sLen sCap : Nat) (cur : Array Value) (hg : w.heap[g]? = some (.cells cur e (0, 0)))
    (a : Addr) (m c : Nat) (news : List Value) (hl : news.length = m * i.size) (hnews : ∀ j u, news[j]? = some u → w.cell? (a.add j) = some u) (h1 : ∀ u ∈ news, u.oneCell' = true)
    (hroom : sLen + m ≤ sCap) (hfit : off + sLen * i.size + news.length ≤ cur.size) :
    (Builtin.append_ #[t, t] ty #[.slice (some ⟨g, off, none⟩) sLen sCap, .slice (some a) m c]).run P w =
      .ok (.slice (some ⟨g, off, none⟩) (sLen + m) sCap) (w.setRow g (cur.toList.take (off + sLen * i.size) ++ news ++ cur.toList.drop (off + sLen * i.size + news.length)).toArray) := by
  have hf := run_firstCells_some (P := P) w i.size m a m c news hl hnews
  have hst := run_storeCells_at P g (off + sLen * i.size) e news 0 cur w hg (by simpa using hfit) h1
  simp only [Nat.add_zero] at hst
  simp [Builtin.append_, run_underlying ht, sizeOf, typeInfo, hi, Builtin.lenOf, hroom, hf, Addr.add_lit, hst]
/-- What a block's part reads as, once it stays. -/
theorem Sl_at {s : Sto} {b off n c : Nat} {cs : List Value} {xs : List UInt8} (hat : (At b 0 cs).p s) (hn : n = xs.length) (hc : n ≤ c) (hcm : c ≤ eO) (hx : ∀ k x, xs[k]? = some x → cs[off + k]? = some (fH x)) : (Sl (.slice (some ⟨b, off, none⟩) n c) xs).p s := by
  subst hn
  refine ⟨_, _, rfl, ⟨hc, hcm⟩, fun _ => ⟨b, off, rfl, fun k x hk => ⟨[fH x], rfl, fun j v hj => ?_⟩⟩⟩
  have hj0 : j = 0 ∧ v = fH x := by
    cases j with
    | zero => simp at hj; exact ⟨rfl, hj.symm⟩
    | succ j => simp at hj
  obtain ⟨rfl, rfl⟩ := hj0
  have := hat (off + k) (fH x) (hx k x hk)
  simpa [Rep.size] using this
end
section
variable {P : Program} {w0 : World} {E : List Value} {H : List Hp} {R : List MP} {ty : TypeId} {K : Value → List Hp → List MP → Prop}
/-- Bytes are appended to a part of an owned block: the outcome stays. -/
theorem uL {t : TypeId} {s x : Operand} (i j : Nat) {b off cap b9 c by_ : Nat} {zs cs : List Value} {xs ys : List UInt8} [h : TyL P t 5 1 by_ zs] (hs : ev E s = .slice (some ⟨b, off, none⟩) xs.length cap) (hx : ev E x = .slice (some ⟨b9, 0, none⟩) ys.length c)
    (hi : H[i]? = some (.blk b cs 5)) (hj : H[j]? = some (.blk b9 (bC ys) 5)) (hcs : ∀ k x, xs[k]? = some x → cs[off + k]? = some (fH x)) (hxc : xs.length ≤ cap) (hcap : cap ≤ maxLen) (hfit : off + cap ≤ cs.length)
    (hby : (xs.length + ys.length) * by_ ≤ 140737488355328) (hnm : xs.length + ys.length ≤ 140737488355328)
    (kk : ∀ A c', K (.slice A (xs ++ ys).length c') (H.eraseIdx i) (Sl (.slice A (xs ++ ys).length c') (xs ++ ys) :: R)) : GW P w0 E (.call ⟨.builtin .append, #[s, x], #[t, t]⟩) ty H R K := fun w hw => by
  obtain ⟨ti, z, hti, e1, e2, e3, e4, _⟩ := h.info
  have hzl : zs.length = 1 := h.len
  have hb := (hw.blk_heap hi).1
  have hnews : ∀ k u, (bC ys)[k]? = some u → w.cell? ((⟨b9, 0, none⟩ : Addr).add k) = some u := fun k u hk => by rw [Addr.add_mk]; exact hw.blk_cells hj k u hk
  have fin : ∀ v' w', (Builtin.append_ #[t, t] ty #[.slice (some ⟨b, off, none⟩) xs.length cap, .slice (some ⟨b9, 0, none⟩) ys.length c]).run P w = .ok v' w' → (∃ A c', v' = .slice A (xs ++ ys).length c' ∧ S w0 w' (H.eraseIdx i) (Sl (.slice A (xs ++ ys).length c') (xs ++ ys) :: R)) → ∃ v w' H' R', ((nG E (.call ⟨.builtin .append, #[s, x], #[t, t]⟩) ty).run P w = .ok (.value v) w' ∨ (nG E (.call ⟨.builtin .append, #[s, x], #[t, t]⟩) ty).run P w = .ok .skip w' ∧ v = undef) ∧ S w0 w' H' R' ∧ K v H' R' := fun v' w' hr ⟨A, c', e, hs'⟩ =>
    ⟨v', w', _, _, .inl (by simp [nG, execOp, resolve, invoke, builtin, hs, hx, hr]), hs', e ▸ kk A c'⟩
  by_cases hroom : xs.length + ys.length ≤ cap
  · have hr := pE (P := P) w t ty 5 ti h.und hti b off xs.length cap cs.toArray hb ⟨b9, 0, none⟩ ys.length c (bC ys) (by simp [e1]) hnews (mX _) hroom (by simp [e1]; omega)
    refine fin _ _ hr ⟨some ⟨b, off, none⟩, cap, by rw [List.length_append], ?_⟩
    have h2 := hw.setRow hi (cs.take (off + xs.length * ti.size) ++ bC ys ++ cs.drop (off + xs.length * ti.size + (bC ys).length))
    have hlt : i < H.length := (List.getElem?_eq_some_iff.1 hi).1
    have h3 := h2.freeze (i := i) (b := b) (T := 5) (by rw [List.getElem?_set_self hlt])
    rw [List.eraseIdx_set_eq] at h3
    refine (h3.add (Sl (.slice (some ⟨b, off, none⟩) (xs ++ ys).length cap) (xs ++ ys)) (fun s hR => Sl_at (hR _ List.mem_cons_self) rfl (by rw [List.length_append]; omega) (by simp only [maxLen] at hcap; simp only [eO]; omega) (fun k x hk => ?_))).weaken (List.Sublist.refl _) (fun p hp => by
      rcases List.mem_cons.1 hp with rfl | hp
      · simp
      · simp [hp])
    rw [e1, Nat.mul_one]
    by_cases hk' : k < xs.length
    · rw [List.getElem?_append_left hk'] at hk
      rw [List.append_assoc, List.getElem?_append_left (by simp; omega), List.getElem?_take, if_pos aO]
      exact hcs k x hk
    · rw [List.getElem?_append_right aO] at hk
      have hk2 := (List.getElem?_eq_some_iff.1 hk).1
      rw [List.append_assoc, List.getElem?_append_right (by simp; omega), List.getElem?_append_left (by simp; omega)]
      rw [List.length_take, Nat.min_eq_left aO, show off + k - (off + xs.length) = k - xs.length by omega]
      simp [bC, hk]
  · obtain ⟨v', w', hr, ho, hg⟩ := run_append_arg_grows (P := P) w t ty 5 ti z 1 by_ h.und hti e3 e1 e2 (by rw [e4]; simpa using hzl) aO ⟨b, off, none⟩ xs.length cap (bC xs) dB (fun k u hk => by
        rw [Addr.add_mk]
        have hk2 : ∃ x, xs[k]? = some x ∧ u = fH x := by
          simp only [bC, List.getElem?_map] at hk
          cases hx : xs[k]? with
          | none => rw [hx] at hk; cases hk
          | some x => rw [hx] at hk; exact ⟨x, rfl, by simpa using hk.symm⟩
        obtain ⟨x, hx1, rfl⟩ := hk2
        have := hw.blk_cells hi (off + k) (fH x) (hcs k x hx1)
        simpa using this) ⟨b9, 0, none⟩ ys.length c (bC ys) dB hnews aO (by simp only [maxLen]; omega) hby
    refine fin v' w' hr ?_
    have h2 := ((hw.drop i).nilrow 5 1).grow (i := 0) (n' := xs.length + ys.length) (v' := v') (cs' := bC xs ++ bC ys) rfl hg ⟨ho.1, ?_⟩ ?_
    · rw [← eX] at h2
      obtain ⟨A, c', e, h3⟩ := S.row_stays (i := 0) (m := xs.length + ys.length) (xs := xs ++ ys) h2 rfl
      exact ⟨A, c', e, h3⟩
    · rcases ho.2 with ho | ⟨g, cap', cur, k1, k2, k3⟩
      · exact .inl ho
      · exact .inr ⟨g, cap', cur, k1, Nat.le_trans hw.below.size k2, k3⟩
    · rcases ho.2 with ⟨ho, _⟩ | ⟨g, cap', cur, k1, k2, k3⟩
      · subst ho; exact .inl rfl
      · subst k1; exact .inr (.inr ⟨g, rfl, k2⟩)
end
end Go.Proofs.YtggdljhmbckpmaaGreat
