/- Regions that draw their order: whatever only reads may be taken first. -/
import Derived.Test.YtggdljhmbckpmaaGreatA4J
set_option linter.unusedVariables false
set_option linter.unusedSimpArgs false
namespace Go.Proofs.YtggdljhmbckpmaaGreat
open Go Go.RowKit
attribute [local semireducible] T TC En PW GW OW CallsK CallsP Sl Rd Ls At S

section
variable (F : Fence) (n : Nat) (P : Program) (w0 : World) (D : List Deferred) (ops : Array Oper) (Q : Exit → Act → World → Prop) (Hc : List Hp) (Rc : List MP)
def nL (o : Oper) (E : List Value) : Bool := Region.wanted o (yielded ops E.toArray)
/-- Number i comes behind all others. -/
def gU (ops : Array Oper) (i : Nat) : Bool := match ops[i]? with
  | some o => (List.range ops.size).all fun j => j == i || o.after.any fun e => Region.binds .any e && e.on == j
  | none => false
/-- Whatever order is picked from here on; what is common abides. -/
def TW : Nat → Array Bool → List Value → List Hp → List MP → World → Prop
  | 0, listed, E, _, _, w => Region.ready .any ops listed = [] ∧ Q .normal (jR E D) w
  | k + 1, listed, E, H, R, w => (Region.ready .any ops listed = [] → Q .normal (jR E D) w) ∧
    ∀ i ∈ Region.ready .any ops listed, ∀ o, ops[i]? = some o →
      (nL ops o E = true → o.wpIn F n P (jR E D) w (fun a' w' => ∃ v H' R', a' = jR (eE E o.dst v) D ∧ S w0 w' H' R' ∧ ((∀ w, S w0 w H' R' → S w0 w Hc Rc) ∨ gU ops i = true) ∧ TW k (listed.setIfInBounds i true) (eE E o.dst v) H' R' w') Q) ∧
      (nL ops o E = false → TW k (listed.setIfInBounds i true) (eE E o.dst undef) H R w)
def vQ (ops : Array Oper) : Bool := ops.all fun o => jE o.op
def oK (ops : Array Oper) (e : Tmp) : Bool := ops.any fun o => o.dst == some e
def RegOk : Prop := Region.noSelect ops = true ∧ vQ ops = true ∧ ∀ c E e v w, oK ops e = true → Q (.panic c) (jR (eE E (some e) v) D) w → Q (.panic c) (jR E D) w
def TA (k : Nat) (listed : Array Bool) (E : List Value) (H : List Hp) (R : List MP) : Prop := RegOk D ops Q → ∀ w, S w0 w H R → TW F n P w0 D ops Q Hc Rc k listed E H R w
end

section
variable {F : Fence} {n : Nat} {P : Program} {w0 : World} {D : List Deferred} {ops : Array Oper} {Q : Exit → Act → World → Prop} {Hc : List Hp} {Rc : List MP} {E : List Value} {H : List Hp} {R : List MP}

theorem uB [Wd F] : ∀ (k : Nat) (listed : Array Bool) (E : List Value) (H : List Hp) (R : List MP) (w : World), TW F n P w0 D ops Q Hc Rc k listed E H R w → wpAnyIn F n P .any ops Q k listed (jR E D) w
  | 0, listed, E, H, R, w, h => h
  | k + 1, listed, E, H, R, w, h => by
    refine ⟨h.1, fun i hi => ?_⟩
    unfold wpOpIn
    cases ho : ops[i]? with
    | none =>
      obtain ⟨_, oj, hoj, _⟩ := mem_ready.1 hi
      rw [ho] at hoj; cases hoj
    | some o =>
      obtain ⟨h1, h2⟩ := h.2 i hi o ho
      simp only
      by_cases hw : nL ops o E = true
      · rw [if_pos (by simpa [jR, nL] using hw)]
        refine Oper.wpIn_mono ?_ (h1 hw)
        rintro a' w' ⟨v, H', R', rfl, hs', _, k'⟩
        exact uB k _ _ _ _ w' k'
      · have hw' : nL ops o E = false := by simpa using hw
        rw [if_neg (by simpa [jR, nL] using hw')]
        exact ⟨hX, by rw [iZ]; exact uB k _ _ _ _ w (h2 hw')⟩

theorem eC [Wd F] {id : Nat} {l : List Oper} (hm : P.follows .mixedOrders = true) (hsel : (Region.noSelect l.toArray && vQ l.toArray) = true) (hQ : ∀ c E e v w, oK l.toArray e = true → Q (.panic c) (jR (eE E (some e) v) D) w → Q (.panic c) (jR E D) w) (hS : Hc.Sublist H) (h : TA F n P w0 D l.toArray Q Hc R l.length (List.replicate l.length false).toArray E H R) : TC F n P w0 D (.region id l.toArray true) Q E H R := fun w hs => by
  refine wpIn_region_any hm ?_
  have := uB (F := F) (n := n) (P := P) l.length (List.replicate l.length false).toArray E H R w.drew (h (by rw [Bool.and_eq_true] at hsel; exact ⟨hsel.1, hsel.2, hQ⟩) w.drew hs.drew)
  simpa using this

theorem oO {Hc' : List Hp} {Rc' : List MP} (hc : ∀ w, S w0 w Hc' Rc' → S w0 w Hc Rc) : ∀ (k : Nat) (listed : Array Bool) (E : List Value) (H : List Hp) (R : List MP) (w : World), TW F n P w0 D ops Q Hc' Rc' k listed E H R w → TW F n P w0 D ops Q Hc Rc k listed E H R w
  | 0, _, _, _, _, _, h => h
  | k + 1, listed, E, H, R, w, h => ⟨h.1, fun i hi o ho => ⟨fun hw => Oper.wpIn_mono (fun a' w' ⟨v, H', R', e, hs', hk, k'⟩ => ⟨v, H', R', e, hs', hk.imp (fun hk w hw => hc w (hk w hw)) id, oO hc k _ _ _ _ w' k'⟩) ((h.2 i hi o ho).1 hw), fun hw => oO hc k _ _ _ _ w ((h.2 i hi o ho).2 hw)⟩⟩

/-- What is noted of H and R is of no weight. -/
theorem vX : ∀ (k : Nat) (listed : Array Bool) (E : List Value) (H H2 : List Hp) (R R2 : List MP) (w : World), TW F n P w0 D ops Q Hc Rc k listed E H R w → TW F n P w0 D ops Q Hc Rc k listed E H2 R2 w
  | 0, _, _, _, _, _, _, _, h => h
  | k + 1, listed, E, H, H2, R, R2, w, h => ⟨h.1, fun i hi o ho => ⟨(h.2 i hi o ho).1, fun hw => vX k _ _ _ _ _ _ w ((h.2 i hi o ho).2 hw)⟩⟩

theorem s8 {Hc' : List Hp} {Rc' : List MP} (hc : ∀ w, S w0 w Hc' Rc' → S w0 w Hc Rc) {k : Nat} {listed : Array Bool} (h : TA F n P w0 D ops Q Hc' Rc' k listed E H R) : TA F n P w0 D ops Q Hc Rc k listed E H R := fun hr w hs => oO hc _ _ _ _ _ w (h hr w hs)
theorem fN {H' : List Hp} {R' : List MP} (hp : ∀ w, S w0 w H R → S w0 w H' R') {k : Nat} {listed : Array Bool} (h : TA F n P w0 D ops Q Hc Rc k listed E H' R') : TA F n P w0 D ops Q Hc Rc k listed E H R := fun hr w hs => vX _ _ _ _ _ _ _ w (h hr w (hp w hs))

/-- 'o' gives v under E wherever what is common holds, and turns nothing. -/
def Gives (P : Program) (w0 : World) (ops : Array Oper) (Hc : List Hp) (Rc : List MP) (o : Oper) (E : List Value) (v : Value) : Prop :=
  (nL ops o E = true ∧ jE o.op = true ∧ ∀ w, S w0 w Hc Rc → (nG E o.op o.type).run P w = .ok (.value v) w) ∨ (nL ops o E = false ∧ v = undef)

theorem xU {o : Oper} (hs : ∀ cs b, o.op ≠ .select cs b) {E : List Value} {d : Option Tmp} {v : Value} (h : ∀ e, d = some e → e ∉ o.looksAt ops) : nG (eE E d v) o.op o.type = nG E o.op o.type := by
  have h1 := execOp_put (ops := ops) o hs (jR E []) d v h
  rw [iZ, lO, lO] at h1
  exact h1
theorem tW {o : Oper} {E : List Value} {d : Option Tmp} {v : Value} (h : ∀ e, d = some e → e ∉ o.looksAt ops) : nL ops o (eE E d v) = nL ops o E := by
  have h1 := wanted_put (ops := ops) o (jR E []) d v h
  rw [iZ] at h1
  simpa [nL, jR] using h1
theorem Gives.keep {o : Oper} (hs : ∀ cs b, o.op ≠ .select cs b) {E : List Value} {v : Value} (hg : Gives P w0 ops Hc Rc o E v) {d : Option Tmp} {u : Value} (h : ∀ e, d = some e → e ∉ o.looksAt ops) : Gives P w0 ops Hc Rc o (eE E d u) v := by
  unfold Gives at *
  rw [tW h, xU hs h]; exact hg
theorem rL {E : List Value} {x y : Option Tmp} (v u : Value) (h : ∀ d, x = some d → y ≠ some d) : eE (eE E x v) y u = eE (eE E y u) x v := by
  cases x with
  | none => rfl
  | some d =>
    cases y with
    | none => rfl
    | some e =>
      have hne : d ≠ e := fun he => h d rfl (he ▸ rfl)
      simp only [eE]
      rw [List.set_comm _ _ hne]

theorem r5 {E : List Value} {x y : Option Tmp} {a u v : Value} (h : ∀ d, x = some d → y ≠ some d) (he : eE (eE E x a) y u = eE (eE E x a) y v) : eE E y u = eE E y v := by
  rw [rL _ _ h, rL _ _ h] at he
  cases y with
  | none => rfl
  | some e =>
    cases x with
    | none => exact he
    | some d =>
      have hne : d ≠ e := fun h' => h d rfl (h' ▸ rfl)
      simp only [eE] at he ⊢
      apply List.ext_getElem?
      intro i
      by_cases hi : e = i
      · subst hi
        have := congrArg (fun l => l[e]?) he
        simp only [List.getElem?_set_ne hne] at this
        exact this
      · rw [List.getElem?_set_ne hi, List.getElem?_set_ne hi]

/-- An operation that does not look at 'd' does under 'E.set d v' what it does under E. -/
theorem wp_back [Wd F] {o : Oper} (hs : ∀ cs b, o.op ≠ .select cs b) {d : Option Tmp} {v : Value} {w : World} {K K' : Value → List Hp → List MP → World → Prop}
    (hQ : ∀ c E e v w, oK ops e = true → Q (.panic c) (jR (eE E (some e) v) D) w → Q (.panic c) (jR E D) w) (hdst : ∀ e, d = some e → oK ops e = true) (hdef : ∀ c, o.op ≠ .defer c)
    (h1 : ∀ e, d = some e → e ∉ o.looksAt ops) (h2 : ∀ e, d = some e → o.dst ≠ some e) (hk : ∀ u H' R' w', K u H' R' w' → K' u H' R' w')
    (h : o.wpIn F n P (jR (eE E d v) D) w (fun a' w' => ∃ u H' R', a' = jR (eE (eE E d v) o.dst u) D ∧ S w0 w' H' R' ∧ K u H' R' w') Q) :
    o.wpIn F n P (jR E D) w (fun a' w' => ∃ u H' R', a' = jR (eE E o.dst u) D ∧ S w0 w' H' R' ∧ K' u H' R' w') Q := by
  have hQ' : ∀ c w, Q (.panic c) (jR (eE E d v) D) w → Q (.panic c) (jR E D) w := fun c w hq => by
    cases d with
    | none => exact hq
    | some e => exact hQ c E e v w (hdst e rfl) hq
  obtain ⟨_, h⟩ := h
  refine ⟨hX, ?_⟩
  rw [jZ hdef] at h ⊢
  rw [xU hs h1] at h
  have fin : ∀ u w', (∃ v_1 H' R', (jR (eE E d v) D).put o.dst u = jR (eE (eE E d v) o.dst v_1) D ∧ S w0 w' H' R' ∧ K v_1 H' R' w') → (∃ v_1 H' R', (jR E D).put o.dst u = jR (eE E o.dst v_1) D ∧ S w0 w' H' R' ∧ K' v_1 H' R' w') := fun u w' ⟨v1, H', R', e, s, k⟩ => by
    refine ⟨v1, H', R', ?_, s, hk _ _ _ _ k⟩
    rw [iZ] at e ⊢
    have e' : eE (eE E d v) o.dst u = eE (eE E d v) o.dst v1 := by
      have := congrArg (fun a : Act => a.tmps.toList) e
      simpa [jR] using this
    rw [r5 h2 e']
  generalize (nG E o.op o.type).run P w = r at *
  cases r with
  | ok x w' =>
    cases x <;> simp only [Oper.uponIn] at h ⊢
    case value u => exact fin u w' h
    case skip => exact fin undef w' h
    case defer c =>
      exfalso
      obtain ⟨v1, H', R', e, _⟩ := h
      have := congrArg (fun a : Act => a.defers.length) e
      cases hd : o.dst <;> simp [jR, Act.put, hd] at this
    case enter f args =>
      refine ⟨h.1, h.2.mono fun e w'' he => ?_⟩
      cases e with
      | returned u => exact fin u w'' he
      | panicked c => exact hQ' _ _ he
      | outgrown => exact he
    case row row args => exact ⟨h.1, h.2.mono fun u w'' he => fin u w'' he⟩
    case round =>
      refine ⟨h.1, h.2.mono fun e w'' he => ?_⟩
      cases e with
      | returned u => exact fin u w'' he
      | panicked c => exact hQ' _ _ he
      | outgrown => exact he
  | halt x w' => cases x <;> simp only [Oper.uponIn] at h ⊢ <;> exact hQ' _ _ h


theorem xD [Wd F] {i : Nat} {oi : Oper} {v : Value} (hi : ops[i]? = some oi) (hsel : Region.noSelect ops = true) (hnd : vQ ops = true)
    (hQ : ∀ c E e v w, oK ops e = true → Q (.panic c) (jR (eE E (some e) v) D) w → Q (.panic c) (jR E D) w) :
    ∀ (k : Nat) (listed : Array Bool) (E : List Value) (H : List Hp) (R : List MP) (w : World),
      (∀ j oj, ops[j]? = some oj → j ≠ i → listed.getD j true = false → (∀ e ∈ oj.after, Region.binds .any e = true → e.on ≠ i) → oi.apart ops oj = true) →
      i ∈ Region.ready .any ops listed → Gives P w0 ops Hc Rc oi E v → S w0 w H R → S w0 w Hc Rc → (∀ w, S w0 w H R → S w0 w Hc Rc) →
      TW F n P w0 D ops Q Hc Rc k (listed.setIfInBounds i true) (eE E oi.dst v) H R w → TW F n P w0 D ops Q Hc Rc (k + 1) listed E H R w := by
  have hsel' := Region.noSelect_spec hsel
  have hnd' : ∀ (j : Nat) (o : Oper), ops[j]? = some o → ∀ c, o.op ≠ .defer c := fun j o ho c e => by
    have hm : o ∈ ops := Array.mem_of_getElem? ho
    have := Array.all_eq_true'.1 hnd o hm
    simp [e, jE] at this
  intro k
  have own : ∀ (k : Nat) (listed : Array Bool) (E : List Value) (H : List Hp) (R : List MP) (w : World), Gives P w0 ops Hc Rc oi E v → S w0 w H R → S w0 w Hc Rc → (∀ w, S w0 w H R → S w0 w Hc Rc) → TW F n P w0 D ops Q Hc Rc k (listed.setIfInBounds i true) (eE E oi.dst v) H R w →
      (nL ops oi E = true → oi.wpIn F n P (jR E D) w (fun a' w' => ∃ v H' R', a' = jR (eE E oi.dst v) D ∧ S w0 w' H' R' ∧ ((∀ w, S w0 w H' R' → S w0 w Hc Rc) ∨ gU ops i = true) ∧ TW F n P w0 D ops Q Hc Rc k (listed.setIfInBounds i true) (eE E oi.dst v) H' R' w') Q) ∧
      (nL ops oi E = false → TW F n P w0 D ops Q Hc Rc k (listed.setIfInBounds i true) (eE E oi.dst undef) H R w) := by
    intro k listed E H R w hy hs hS hSS h
    rcases hy with ⟨hw, hd, hv⟩ | ⟨hw, rfl⟩
    · refine ⟨fun _ => ⟨hX, ?_⟩, fun hf => by rw [hw] at hf; cases hf⟩
      rw [jZ (by intro c e; rw [e] at hd; cases hd), hv w hS]
      simp only [Oper.uponIn]
      exact ⟨v, H, R, by rw [iZ], hs, .inl hSS, h⟩
    · exact ⟨fun ht => (by rw [hw] at ht; cases ht), fun _ => h⟩
  induction k with
  | zero =>
    intro listed E H R w _ hr hy hs hS hSS h
    refine ⟨fun h' => (by rw [h'] at hr; cases hr), fun j hj oj hoj => ?_⟩
    by_cases hji : j = i
    · subst hji
      rw [hi] at hoj; cases hoj
      exact own 0 listed E H R w hy hs hS hSS h
    · have := ready_mono hj hji
      rw [h.1] at this
      cases this
  | succ k ih =>
    intro listed E H R w hfree hr hy hs hS hSS h
    refine ⟨fun h' => (by rw [h'] at hr; cases hr), fun j hj oj hoj => ?_⟩
    by_cases hji : j = i
    · subst hji
      rw [hi] at hoj; cases hoj
      exact own (k + 1) listed E H R w hy hs hS hSS h
    · have h1 := h.2 j (ready_mono hj hji) oj hoj
      obtain ⟨hjun, oj', hoj', hall⟩ := mem_ready.1 hj
      rw [hoj] at hoj'; cases hoj'
      have hnot : ∀ e ∈ oj.after, Region.binds .any e = true → e.on ≠ i := fun e he hb heq => by
        have h1 := hall e he hb
        have h0 := (mem_ready.1 hr).1
        rw [heq] at h1
        rcases Nat.lt_or_ge i listed.size with h' | h'
        · simp [h'] at h0 h1; rw [h0] at h1; cases h1
        · simp [Array.getElem?_eq_none h'] at h1
      obtain ⟨a1, a2, a3⟩ := Oper.apart_spec (hfree j oj hoj hji hjun hnot)
      have hfree' : ∀ k ok, ops[k]? = some ok → k ≠ i → (listed.setIfInBounds j true).getD k true = false →
          (∀ e ∈ ok.after, Region.binds .any e = true → e.on ≠ i) → oi.apart ops ok = true := fun k ok hk hki hun hno => by
        refine hfree k ok hk hki ?_ hno
        by_cases hjk : j = k
        · subst hjk; exact hjun
        · rw [getD_set_ne true hjk] at hun; exact hun
      have notlast : gU ops j = false := by
        cases hl : gU ops j with
        | false => rfl
        | true =>
          exfalso
          unfold gU at hl
          rw [hoj] at hl
          simp only at hl
          have hisz : i < ops.size := (Array.getElem?_eq_some_iff.1 hi).1
          have := List.all_eq_true.1 hl i (List.mem_range.2 hisz)
          rw [Bool.or_eq_true] at this
          rcases this with h0 | h0
          · exact hji (by simpa using h0 : i = j).symm
          · obtain ⟨e, he, hb⟩ := Array.any_eq_true'.1 h0
            rw [Bool.and_eq_true] at hb
            exact hnot e he hb.1 (by simpa using hb.2)
      have next : ∀ u H' R' w', S w0 w' H' R' → (∀ w, S w0 w H' R' → S w0 w Hc Rc) → TW F n P w0 D ops Q Hc Rc k ((listed.setIfInBounds i true).setIfInBounds j true) (eE (eE E oi.dst v) oj.dst u) H' R' w' → TW F n P w0 D ops Q Hc Rc (k + 1) (listed.setIfInBounds j true) (eE E oj.dst u) H' R' w' := fun u H' R' w' hs' hS' h' => by
        refine ih (listed.setIfInBounds j true) _ H' R' w' hfree' (ready_mono hr (Ne.symm hji)) (hy.keep (hsel' i oi · · hi) a3) hs' (hS' w' hs') hS' ?_
        rw [Array.setIfInBounds_comm _ _ hji, ← rL _ _ a2]
        exact h'
      refine ⟨fun hw => ?_, fun hw => ?_⟩
      · have h2 := h1.1 (by rw [tW a1]; exact hw)
        refine Oper.wpIn_mono ?_ (wp_back (K' := fun u H' R' w' => ((∀ w, S w0 w H' R' → S w0 w Hc Rc) ∨ gU ops j = true) ∧ S w0 w' H' R' ∧ TW F n P w0 D ops Q Hc Rc k ((listed.setIfInBounds i true).setIfInBounds j true) (eE (eE E oi.dst v) oj.dst u) H' R' w') (K := fun u H' R' w' => S w0 w' H' R' ∧ ((∀ w, S w0 w H' R' → S w0 w Hc Rc) ∨ gU ops j = true) ∧ TW F n P w0 D ops Q Hc Rc k ((listed.setIfInBounds i true).setIfInBounds j true) (eE (eE E oi.dst v) oj.dst u) H' R' w')
          (hsel' j oj · · hoj) hQ (fun e he => by
            unfold oK
            rw [Array.any_eq_true']
            exact ⟨oi, Array.mem_of_getElem? hi, by simp [he]⟩) (hnd' j oj hoj) a1 a2 (fun u H' R' w' ⟨k0, k1, k2⟩ => ⟨k1, k0, k2⟩) (Oper.wpIn_mono (fun a' w' ⟨u, H', R', e, s, k1, k2⟩ => ⟨u, H', R', e, s, s, k1, k2⟩) h2))
        rintro a' w' ⟨u, H', R', e, s, k1, k0, k2⟩
        rcases k1 with k1 | k1
        · exact ⟨u, H', R', e, s, .inl k1, next u H' R' w' s k1 k2⟩
        · rw [notlast] at k1; cases k1
      · have h2 := h1.2 (by rw [tW a1]; exact hw)
        exact next undef H R w hs hSS h2

/-- Number i, as it stands in the text, only reads: it is taken first. -/
theorem g9 [Wd F] (i : Nat) {dst : Option Tmp} {op : Op} {ty : TypeId} {pos : String} {aft : Array Edge} {g : Option (Nat × Bool)} {k : Nat} {listed listed' : Array Bool} (hi : ops[i]? = some ⟨dst, op, ty, pos, aft, g⟩)
    (hf : (Region.free .any ops listed i && (Region.ready .any ops listed).contains i) = true) (hl : listed.setIfInBounds i true = listed')
    (hw : nL ops ⟨dst, op, ty, pos, aft, g⟩ E = true) (hd : jE op = true) (hS : Hc.Sublist H)
    (h : PW P w0 E op ty Hc R (fun v R' => TA F n P w0 D ops Q Hc R' k listed' (eE E dst v) H R')) : TA F n P w0 D ops Q Hc R (k + 1) listed E H R := fun hreg w ⟨s, hok⟩ => by
  subst hl
  rw [Bool.and_eq_true] at hf
  have hok' : Ok w0 s w Hc R := ⟨hok.below, hok.st, fun x hx => hok.hp x (hS.subset hx), hok.nd.sublist (hS.filterMap _), hok.rd⟩
  obtain ⟨v, R', h1, h2, h3, h4⟩ := h w s hok'
  have hs' : S w0 w H R' := ⟨s, hok.more h3⟩
  have hcc : ∀ w, S w0 w Hc R' → S w0 w Hc R := fun w hw => hw.weaken (List.Sublist.refl _) h2
  refine vX _ _ _ H _ R' _ w (oO hcc _ _ _ _ _ w ?_)
  exact xD hi hreg.1 hreg.2.1 hreg.2.2 k listed E H R' w (Region.free_spec hi hf.1) (by simpa using hf.2) (.inl ⟨hw, hd, h1⟩) hs' (hs'.weaken hS (fun _ h => h)) (fun w hw => hw.weaken hS (fun _ h => h)) (h4 hreg w hs')
/-- Number i is not wanted. -/
theorem TA_skip [Wd F] (i : Nat) {dst : Option Tmp} {op : Op} {ty : TypeId} {pos : String} {aft : Array Edge} {g : Option (Nat × Bool)} {k : Nat} {listed listed' : Array Bool} (hi : ops[i]? = some ⟨dst, op, ty, pos, aft, g⟩)
    (hf : (Region.free .any ops listed i && (Region.ready .any ops listed).contains i) = true) (hl : listed.setIfInBounds i true = listed')
    (hw : nL ops ⟨dst, op, ty, pos, aft, g⟩ E = false) (hS : Hc.Sublist H) (h : TA F n P w0 D ops Q Hc R k listed' (eE E dst undef) H R) : TA F n P w0 D ops Q Hc R (k + 1) listed E H R := fun hreg w hs => by
  subst hl
  rw [Bool.and_eq_true] at hf
  exact xD hi hreg.1 hreg.2.1 hreg.2.2 k listed E H R w (Region.free_spec hi hf.1) (by simpa using hf.2) (.inr ⟨hw, rfl⟩) hs (hs.weaken hS (fun _ h => h)) (fun w hw => hw.weaken hS (fun _ h => h)) (h hreg w hs)
/-- Whichever comes up. -/
theorem vZ {rs : List Nat} {k : Nat} {listed : Array Bool} (hr : Region.ready .any ops listed = rs) (hne : rs ≠ [])
    (h : ∀ i ∈ rs, ∀ o, ops[i]? = some o → (nL ops o E = true → OW F n P w0 D Q o E H R (fun v H' R' => ((∀ w, S w0 w H' R' → S w0 w Hc Rc) ∨ gU ops i = true) ∧ TA F n P w0 D ops Q Hc Rc k (listed.setIfInBounds i true) (eE E o.dst v) H' R')) ∧
      (nL ops o E = false → TA F n P w0 D ops Q Hc Rc k (listed.setIfInBounds i true) (eE E o.dst undef) H R)) : TA F n P w0 D ops Q Hc Rc (k + 1) listed E H R := fun hreg w hs =>
  ⟨fun h0 => absurd (hr ▸ h0) hne, fun i hi o ho => ⟨fun hw => Oper.wpIn_mono (fun a' w' ⟨v, H', R', e, hs', h1, h2⟩ => ⟨v, H', R', e, hs', h1, h2 hreg w' hs'⟩) ((h i (hr ▸ hi) o ho).1 hw w hs), fun hw => (h i (hr ▸ hi) o ho).2 hw hreg w hs⟩⟩
/-- One alone may come up. -/
theorem TA_one (i : Nat) {dst : Option Tmp} {op : Op} {ty : TypeId} {pos : String} {aft : Array Edge} {g : Option (Nat × Bool)} {k : Nat} {listed listed' : Array Bool} (hr : Region.ready .any ops listed = [i]) (ho : ops[i]? = some ⟨dst, op, ty, pos, aft, g⟩) (hl : listed.setIfInBounds i true = listed') (hw : nL ops ⟨dst, op, ty, pos, aft, g⟩ E = true)
    (h : OW F n P w0 D Q ⟨dst, op, ty, pos, aft, g⟩ E H R (fun v H' R' => ((∀ w, S w0 w H' R' → S w0 w Hc Rc) ∨ gU ops i = true) ∧ TA F n P w0 D ops Q Hc Rc k listed' (eE E dst v) H' R')) : TA F n P w0 D ops Q Hc Rc (k + 1) listed E H R := by
  subst hl
  exact vZ hr dB (fun j hj o' ho' => by
    simp at hj; subst hj
    rw [ho] at ho'; cases ho'
    exact ⟨fun _ => h, fun hf => by rw [hw] at hf; cases hf⟩)
/-- One alone may come up, and it is not wanted. -/
theorem yY (i : Nat) {dst : Option Tmp} {op : Op} {ty : TypeId} {pos : String} {aft : Array Edge} {g : Option (Nat × Bool)} {k : Nat} {listed listed' : Array Bool} (hr : Region.ready .any ops listed = [i]) (ho : ops[i]? = some ⟨dst, op, ty, pos, aft, g⟩) (hl : listed.setIfInBounds i true = listed') (hw : nL ops ⟨dst, op, ty, pos, aft, g⟩ E = false)
    (h : TA F n P w0 D ops Q Hc Rc k listed' (eE E dst undef) H R) : TA F n P w0 D ops Q Hc Rc (k + 1) listed E H R := by
  subst hl
  exact vZ hr dB (fun j hj o' ho' => by
    simp at hj; subst hj
    rw [ho] at ho'; cases ho'
    exact ⟨fun hf => (by rw [hw] at hf; cases hf), fun _ => h⟩)
/-- Two may come up. -/
theorem TA_two (i j : Nat) {o o' : Oper} {k : Nat} {listed li lj : Array Bool} (hr : Region.ready .any ops listed = [i, j]) (ho : ops[i]? = some o) (ho' : ops[j]? = some o') (hli : listed.setIfInBounds i true = li) (hlj : listed.setIfInBounds j true = lj) (hw : nL ops o E = true) (hw' : nL ops o' E = true)
    (h : OW F n P w0 D Q o E H R (fun v H' R' => ((∀ w, S w0 w H' R' → S w0 w Hc Rc) ∨ gU ops i = true) ∧ TA F n P w0 D ops Q Hc Rc k li (eE E o.dst v) H' R'))
    (h' : OW F n P w0 D Q o' E H R (fun v H' R' => ((∀ w, S w0 w H' R' → S w0 w Hc Rc) ∨ gU ops j = true) ∧ TA F n P w0 D ops Q Hc Rc k lj (eE E o'.dst v) H' R')) : TA F n P w0 D ops Q Hc Rc (k + 1) listed E H R := by
  subst hli; subst hlj
  exact vZ hr dB (fun l hl o2 ho2 => by
    simp at hl
    rcases hl with rfl | rfl
    · rw [ho] at ho2; cases ho2; exact ⟨fun _ => h, fun hf => by rw [hw] at hf; cases hf⟩
    · rw [ho'] at ho2; cases ho2; exact ⟨fun _ => h', fun hf => by rw [hw'] at hf; cases hf⟩)
theorem kU {k : Nat} {listed : Array Bool} (hr : (Region.ready .any ops listed).isEmpty = true) (h : En w0 D Q .normal E H R) : TA F n P w0 D ops Q Hc Rc k listed E H R := fun hreg w hs => by
  rw [List.isEmpty_iff] at hr
  cases k with
  | zero => exact ⟨hr, h w hs⟩
  | succ k => exact ⟨fun _ => h w hs, fun i hi => by rw [hr] at hi; cases hi⟩
theorem yM {k : Nat} {listed : Array Bool} {E' : List Value} (h : E = E') (kk : TA F n P w0 D ops Q Hc Rc k listed E' H R) : TA F n P w0 D ops Q Hc Rc k listed E H R := h ▸ kk
/-- What is common is what is known. -/
theorem dW {k : Nat} {listed : Array Bool} (Hc' : List Hp) (h1 : Hc.Sublist Hc') (h2 : ∀ p ∈ Rc, p ∈ R) (kk : TA F n P w0 D ops Q Hc' R k listed E H R) : TA F n P w0 D ops Q Hc Rc k listed E H R := s8 (fun w hw => hw.weaken h1 h2) kk
/-- An operation that makes or turns memory, the only one that may come up. -/
theorem TA_gen [Wd F] (i : Nat) {dst : Option Tmp} {op : Op} {ty : TypeId} {pos : String} {aft : Array Edge} {g : Option (Nat × Bool)} {k : Nat} {listed listed' : Array Bool} (hr : Region.ready .any ops listed = [i]) (hi : ops[i]? = some ⟨dst, op, ty, pos, aft, g⟩) (hl : listed.setIfInBounds i true = listed')
    (hw : nL ops ⟨dst, op, ty, pos, aft, g⟩ E = true) (hd : jE op = true)
    (h : GW P w0 E op ty H R (fun v H' R' => ((∀ w, S w0 w H' R' → S w0 w Hc Rc) ∨ gU ops i = true) ∧ TA F n P w0 D ops Q Hc Rc k listed' (eE E dst v) H' R')) : TA F n P w0 D ops Q Hc Rc (k + 1) listed E H R :=
  TA_one i hr hi hl hw (GW.ow hd h)
end
attribute [irreducible] TA
end Go.Proofs.YtggdljhmbckpmaaGreat
