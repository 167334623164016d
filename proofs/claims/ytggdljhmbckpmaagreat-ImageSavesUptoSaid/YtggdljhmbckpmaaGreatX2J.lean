/- The reference's writer: truths, texts, lists of numbers: walks. Joins that other exits pass by. Decode: numbers, lengths, truths, texts read: walks. -/
import Derived.Test.YtggdljhmbckpmaaGreatM4J
import Derived.Test.YtggdljhmbckpmaaGreatE3bJ
import Derived.Test.YtggdljhmbckpmaaGreatF2J
import Derived.Test.YtggdljhmbckpmaaGreatD2
import Derived.Test.YtggdljhmbckpmaaGreatE6J
set_option linter.unusedVariables false
set_option linter.unusedSimpArgs false
namespace Go.Proofs.YtggdljhmbckpmaaGreat
open Go Go.RowKit
set_option maxRecDepth 100000
set_option maxHeartbeats 3200000

theorem oL {w0 : World} (bw : Nat) (b : Bool) : Wf Tryz.prog w0 [] 32 [.pointer (some ⟨bw, 0, none⟩), .bool b] bw (iI b) := by
  intro H R K bs v _ hb hk
  have hb1 : bs.length + 1 ≤ 1000000000 := hb
  refine bV Tryz.func32 rfl Tryz.ntmps32 fI ?_
  cases b
  · skip
    repeat' (first | (refine bJ rfl rfl ?_; refine dF 1 0 (news := [fH 0]) rfl rfl rfl rfl cQ rfl (by simp [fH, Value.oneCell']) aO aO (fun v2 => ?_); refine aB ?_; refine cE ?_; refine gY 1 rfl (fun A9 c9 hv9 => ?_); subst hv9) | (apply aF) | (apply aA) | (apply aJ; exact rfl) | (apply aH) | (apply aD) | (apply aP; exact rfl; ((refine aL (i := 1) rfl rfl rfl ?_)); refine aB ?_) | (apply bE; exact rfl; ((refine aN (i := 2) rfl cW rfl dT dB eK ?_)); refine aB ?_; refine cE ?_) | (refine aE rfl rfl ?_; ((first | refine aG ?_ | refine bA rfl ?_ | refine aC rfl ?_)); refine aB ?_) | (refine bJ rfl rfl ?_; ((refine bK cQ fP rfl (fun b => ?_))); refine aB ?_))
    exact aZ (.inr rfl) (gQ rfl) (cA (.row (.slice A9 (bs.length + 1) c9) 5 1 (bs ++ [0]).length (bC (bs ++ [0])) :: .blk bw [.slice A9 (bs.length + 1) c9] 90 :: H) R (fun w hs => by rw [eX, List.length_append]; exact hs.weaken eB hP) (hk (bs ++ [0]) _ (Wt.all bs [0])))
  · skip
    repeat' (first | (refine bJ rfl rfl ?_; refine dF 1 0 (news := [fH 1]) rfl rfl rfl rfl cQ rfl (by simp [fH, Value.oneCell']) aO aO (fun v2 => ?_); refine aB ?_; refine cE ?_; refine gY 1 rfl (fun A9 c9 hv9 => ?_); subst hv9) | (apply aF) | (apply aA) | (apply aK; exact rfl) | (apply aH) | (apply aD) | (apply aP; exact rfl; ((refine aL (i := 1) rfl rfl rfl ?_)); refine aB ?_) | (apply bE; exact rfl; ((refine aN (i := 2) rfl cW rfl dT dB eK ?_)); refine aB ?_; refine cE ?_) | (refine aE rfl rfl ?_; ((first | refine aG ?_ | refine bA rfl ?_ | refine aC rfl ?_)); refine aB ?_) | (refine bJ rfl rfl ?_; ((refine bK cQ fP rfl (fun b => ?_))); refine aB ?_))
    exact aZ (.inr rfl) (gQ rfl) (cA (.row (.slice A9 (bs.length + 1) c9) 5 1 (bs ++ [1]).length (bC (bs ++ [1])) :: .blk bw [.slice A9 (bs.length + 1) c9] 90 :: H) R (fun w hs => by rw [eX, List.length_append]; exact hs.weaken eB hP) (hk (bs ++ [1]) _ (Wt.all bs [1])))
theorem f8 {w0 : World} {H : List Hp} {R : List MP} {K : Value → List Hp → List MP → Prop} (bw : Nat) (bs : List UInt8) (v : Value) (hb : bs.length ≤ 1000000000)
    (k : K (.bool (decide (250000 < bs.length))) (.row v 5 1 bs.length (bC bs) :: .blk bw [v] 90 :: H) R) : CallsK Tryz.prog w0 35 #[.pointer (some ⟨bw, 0, none⟩)] (.row v 5 1 bs.length (bC bs) :: .blk bw [v] 90 :: H) R K := by
  refine bV Tryz.func35 rfl Tryz.ntmps35 fI ?_
  refine rE 0 rfl (fun A1 c1 hv => ?_)
  subst hv
  repeat' (first | (apply aF) | (apply aA) | (apply bP) | (apply aH) | (apply aD) | (apply aP; exact rfl; ((refine aL (i := 1) rfl rfl rfl ?_)); refine aB ?_) | (apply aU; exact rfl; ((refine fD rfl rfl (fun h => ?_) (fun h => ?_))) <;> (refine aB ?_)) | (refine aE rfl rfl ?_; ((first | refine aG ?_ | refine aY ?_ | refine bA rfl ?_ | refine aC rfl ?_ | refine bS rfl ?_)); refine aB ?_))
  · have e : decide (250000 < bs.length) = true := by simpa using (by omega : 250000 < bs.length)
    rw [e] at k
    exact aZ (.inl rfl) (dP rfl (bR rfl)) (cA _ R (fun w hs => hs) k)
  · have e : decide (250000 < bs.length) = false := by simpa using (by omega : bs.length ≤ 250000)
    rw [e] at k
    exact aZ (.inl rfl) (dP rfl (bR rfl)) (cA _ R (fun w hs => hs) k)
theorem vJ {w0 : World} (bw : Nat) (s : ByteArray) : Wf Tryz.prog w0 [] 130 [.pointer (some ⟨bw, 0, none⟩), .string s] bw (iU s) := by
  intro H R K bs v _ hb hk
  have hsl : s.data.toList.length = s.size := rfl
  have hl : (iU s).length = (dA s.size).length + s.size := by rw [iU, List.length_append, hsl]
  rw [hl] at hb
  refine bV Tryz.func130 rfl Tryz.ntmps130 fI ?_
  repeat' (first | (apply aF) | (apply aA) | (refine aE rfl rfl ?_; ((first | refine aG ?_ | refine kI rfl ?_)); refine aB ?_))
  refine fJ rfl rfl (dH bw s.size (by simp only [dO]; omega)) (fun _ h => (by cases h)) rfl rfl aO (fun bs1 v1 h1 => ?_)
  refine aB ?_
  have h1l := h1.2.1
  repeat' (first | (refine bJ rfl rfl ?_; refine uM 0 rfl rfl rfl aO (fun v2 => ?_); refine aB ?_; refine cE ?_; refine gY 0 rfl (fun A9 c9 hv9 => ?_); subst hv9) | (apply aA) | (apply aH) | (apply aD) | (apply aP; exact rfl; ((refine aL (i := 1) rfl rfl rfl ?_)); refine aB ?_) | (apply bE; exact rfl; ((refine aN (i := 1) rfl cW rfl dT dB eK ?_)); refine aB ?_; refine cE ?_) | (refine aE rfl rfl ?_; ((first | refine aG ?_ | refine bA rfl ?_ | refine aC rfl ?_)); refine aB ?_))
  refine aZ (.inr rfl) (gQ rfl) (cA (.row (.slice A9 (bs1.length + s.size) c9) 5 1 (bs1 ++ s.data.toList).length (bC (bs1 ++ s.data.toList)) :: .blk bw [.slice A9 (bs1.length + s.size) c9] 90 :: H) R (fun w hs => ?_) (hk (bs1 ++ s.data.toList) _ (h1.trans (Wt.all bs1 s.data.toList))))
  rw [eX, List.length_append]
  exact hs.weaken eB hP
theorem kQ {w0 : World} (bw : Nat) (A : Option Addr) (c : Nat) (xs : List Int) (hx : xs.length ≤ 9223372036854775807) : Wf Tryz.prog w0 [Sl (.slice A xs.length c) xs] 33 [.pointer (some ⟨bw, 0, none⟩), .slice A xs.length c] bw (hY xs) := by
  intro H R K bs v hsub hb hk
  have hm : Sl (.slice A xs.length c) xs ∈ R := hsub _ dB
  rw [hY, List.length_append] at hb
  refine bV Tryz.func33 rfl Tryz.ntmps33 fI ?_
  repeat' (first | (apply aF) | (apply aA) | (refine aE rfl rfl ?_; ((first | refine aG ?_ | refine bS rfl ?_)); refine aB ?_))
  refine fJ rfl rfl (dH bw xs.length (by simp only [dO]; omega)) (fun _ h => (by cases h)) rfl rfl aO (fun bs1 v1 h1 => ?_)
  refine aB ?_
  have h1l := h1.2.1
  repeat' (first | (apply aF) | (apply aA) | (apply aV) | (apply aH) | (apply aD) | (refine aE rfl rfl ?_; ((refine aY ?_)); refine aB ?_))
  refine cM [4, 9, 10, 11, 12, 13, 14, 15, 16, 17, 18, 19, 20] (fun m j H2 R2 => ∃ (i : Nat) (bs' : List UInt8) (v' : Value), i + m = xs.length ∧ j 4 = .int .i64 (i : Int) ∧ (∀ p ∈ R, p ∈ R2) ∧ H2 = .row v' 5 1 bs'.length (bC bs') :: .blk bw [v'] 90 :: H ∧ Wt bs1 ((xs.take i).flatMap dA) bs') xs.length eS ⟨0, bs1, v1, by omega, rfl, fun _ h => h, rfl, Wt.nil bs1⟩ ?_
  rintro m j' H2 R2 ⟨i, bs', v', him, h4, hR2, hH2, hW⟩
  subst hH2
  have hm2 := hR2 _ hm
  refine dD (by simp only [eF, List.foldl_cons, List.foldl_nil, List.set_cons_succ, List.set_cons_zero, h4]; rfl) ?_
  rcases Nat.lt_or_ge i xs.length with hlt | hge
  · have ht : (xs.take (i + 1)).flatMap dA = (xs.take i).flatMap dA ++ dA xs[i] := by rw [List.take_succ_eq_append_getElem hlt, List.flatMap_append, List.flatMap_cons, List.flatMap_nil, List.append_nil]
    have hle : ((xs.take (i + 1)).flatMap dA).length ≤ (xs.flatMap dA).length := by
      conv => rhs; rw [← List.take_append_drop (i + 1) xs, List.flatMap_append, List.length_append]
      omega
    rw [ht, List.length_append] at hle
    have hWl := hW.2.1
    repeat' (first | (apply aF) | (apply aA) | (apply aV) | (apply bF) | (apply aK; exact rfl) | (apply aH) | (apply aD) | (apply aP; exact rfl; ((refine bD rfl cL rfl ?_)); refine aB ?_) | (apply aU; exact rfl; ((refine bQ rfl rfl (fun h => ?_) (fun h => ?_))) <;> (first | (exfalso; omega) | refine aB ?_)) | (apply gZ; exact rfl; ((refine iP eR rfl aX (List.getElem?_eq_getElem aO) (fun b o hI => ?_))); refine aB ?_) | (refine aE rfl rfl ?_; ((first | refine aG ?_ | refine bS rfl ?_)); refine aB ?_))
    refine fJ rfl rfl (dH bw xs[i] hI) (fun _ h => (by cases h)) rfl rfl aO (fun bs2 v2 h2 => ?_)
    refine aB ?_
    repeat' (first | (apply aA) | (apply aH) | (apply aD) | (apply bU) | (apply aU; exact rfl; ((refine bM rfl rfl aO aO ?_)); refine aB ?_) | (refine aE rfl rfl ?_; ((first | refine aG ?_ | refine aY ?_)); refine aB ?_))
    exact cJ (m - 1) (.row v2 5 1 bs2.length (bC bs2) :: .blk bw [v2] 90 :: H) R2 aO eS ⟨i + 1, bs2, v2, by omega, rfl, hR2, rfl, by rw [ht]; exact hW.trans h2⟩ dV
  · rw [List.take_of_length_le hge] at hW
    repeat' (first | (apply aF) | (apply aA) | (apply cG) | (apply aJ; exact rfl) | (apply aH) | (apply aD) | (apply aW) | (apply aS) | (apply aU; exact rfl; ((refine bQ rfl rfl (fun h => ?_) (fun h => ?_))) <;> (first | (exfalso; omega) | refine aB ?_)) | (refine aE rfl rfl ?_; ((first | refine aG ?_ | refine bS rfl ?_)); refine aB ?_))
    exact aZ (.inr rfl) (gQ rfl) (cA (.row v' 5 1 bs'.length (bC bs') :: .blk bw [v'] 90 :: H) R (fun w hs => hs.weaken eB hR2) (hk bs' v' (h1.trans hW)))
end Go.Proofs.YtggdljhmbckpmaaGreat
namespace Go.Proofs.YtggdljhmbckpmaaGreat
open Go Go.RowKit
attribute [local semireducible] T TC En PW GW OW CallsK CallsP Sl Rd Ls At S TA
section
variable {F : Fence} {n : Nat} {P : Program} {w0 : World} {D : List Deferred} {ops : Array Oper} {Q : Exit → Act → World → Prop} {rest : List Oper} {E : List Value} {H : List Hp} {R : List MP}
def MidP (Q : Exit → Act → World → Prop) (w0 : World) (D : List Deferred) (E0 : List Value) (js : List Nat) (M : (Nat → Value) → List Hp → List MP → Prop) : Exit → Act → World → Prop :=
  fun e a w => match e with
  | .normal => ∃ j H R, a = jR (eF E0 js j) D ∧ S w0 w H R ∧ M j H R
  | e => Q e a w
theorem kL {x y : Code} (js : List Nat) (M : (Nat → Value) → List Hp → List MP → Prop) (h1 : TC F n P w0 D x (MidP Q w0 D E js M) E H R) (h2 : ∀ j H R, M j H R → TC F n P w0 D y Q (eF E js j) H R) : TC F n P w0 D (.seq x y) Q E H R := fun w hs =>
  wpIn_seq (wpIn_mono (h1 w hs) (fun e a w' he => by
    cases e with
    | normal =>
      obtain ⟨j, H', R', e1, e2, e3⟩ := he
      subst e1
      exact h2 j H' R' e3 w' e2
    | _ => exact he))
theorem gJ {E0 : List Value} {js : List Nat} {M : (Nat → Value) → List Hp → List MP → Prop} (H' : List Hp) (R' : List MP) (hE : eF E0 js (fun i => E.getD i undef) = E) (hM : M (fun i => E.getD i undef) H' R') (hw : ∀ w, S w0 w H R → S w0 w H' R') : En w0 D (MidP Q w0 D E0 js M) .normal E H R := fun w hs =>
  ⟨_, H', R', by rw [hE], hw w hs, hM⟩
theorem uI {E0 : List Value} {js : List Nat} {M : (Nat → Value) → List Hp → List MP → Prop} {ch : List PanicEntry} (h : En w0 D Q (.panic ch) E H R) : En w0 D (MidP Q w0 D E0 js M) (.panic ch) E H R := h
theorem wW {E0 : List Value} {js : List Nat} {M : (Nat → Value) → List Hp → List MP → Prop} (h : En w0 D Q .ret E H R) : En w0 D (MidP Q w0 D E0 js M) .ret E H R := h
theorem fL {e : Exit} {p : Prop} (h : ∀ w, S w0 w H R → p) (k : p → En w0 D Q e E H R) : En w0 D Q e E H R := fun w hs => k (h w hs) w hs
end
section
variable {P : Program} {w0 : World} {E : List Value} {H : List Hp} {R : List MP} {ty : TypeId} {K : Value → List Hp → List MP → Prop}
theorem fR {t e : TypeId} {x : Operand} {sz by_ : Nat} {zs cs : List Value} [h : TyL P t e sz by_ zs] (hsz : sz ≤ 1000) (hx : (ev E x).cells = cs.toArray) (hl : cs.length = sz) (kk : ∀ b, K (.slice (some ⟨b, 0, none⟩) 1 1) (.blk b cs e :: H) R) : GW P w0 E (.buildSlice t 1 #[(0, x)]) ty H R K :=
  bK aO (by simp [kM, hx, hl]) rfl kk
end
end Go.Proofs.YtggdljhmbckpmaaGreat
namespace Go.Proofs.YtggdljhmbckpmaaGreat
open Go Go.RowKit
set_option maxRecDepth 100000
set_option maxHeartbeats 1600000

/-- A call that reads as 'd' does, from m on; 'val': how it hands back what it read. -/
def Rr (P : Program) (w0 : World) (f : FuncId) (args : List Value) (br : Nat) (A : Option Addr) (c : Nat) (xs : List UInt8) (m : Nat) {α : Type} [Rep α] [Unp α] (d : Dc α) (val : α → Unp.Y α → Value) : Prop :=
  ∀ (H : List Hp) (R : List MP) (K : Value → List Hp → List MP → Prop) (KP : List PanicEntry → List Hp → List MP → Prop) (a : Nat), m ≤ a → a ≤ xs.length → Sl (.slice A xs.length c) xs ∈ R →
    (∀ x a' (y : Unp.Y α), d a = .ok (x, a') → a ≤ a' → a' ≤ xs.length → Unp.ok x y → K (val x y) (.blk br [.slice A xs.length c, .int .i64 (a' : Int)] 100 :: H) (Unp.fs x y ++ R)) →
    (∀ e : Nat, d a = .error e → KP (rf e) H R) →
    CallsP P w0 f args.toArray (.blk br [.slice A xs.length c, .int .i64 (a : Int)] 100 :: H) R K KP
section
variable {F : Fence} {n : Nat} {P : Program} {w0 : World} {D : List Deferred} {ops : Array Oper} {Q : Exit → Act → World → Prop} {rest : List Oper} {E : List Value} {H : List Hp} {R : List MP}
theorem uN [Wd F] {dst : Option Tmp} {f : FuncId} {l : List Operand} {at_ : Array TypeId} {ty : TypeId} {pos : String} {aft : Array Edge} {g : Option (Nat × Bool)} {args : List Value} {br : Nat} {A : Option Addr} {c : Nat} {xs : List UInt8} {m a : Nat} {α : Type} [Rep α] [Unp α] {d : Dc α} {val : α → Unp.Y α → Value}
    (hw : Region.wanted ⟨dst, .call ⟨.value (.func f), l.toArray, at_⟩, ty, pos, aft, g⟩ (yielded ops E.toArray) = true) (hA : l.map (ev E) = args) [FnOk P f] (h : Rr P w0 f args br A c xs m d val) (hma : m ≤ a) (hax : a ≤ xs.length) (hm : Sl (.slice A xs.length c) xs ∈ R)
    (hk : ∀ x a' (y : Unp.Y α), d a = .ok (x, a') → a ≤ a' → a' ≤ xs.length → Unp.ok x y → T F n P w0 D ops Q rest (eE E dst (val x y)) (.blk br [.slice A xs.length c, .int .i64 (a' : Int)] 100 :: H) (Unp.fs x y ++ R))
    (hp : ∀ e : Nat, d a = .error e → En w0 D Q (.panic (rf e)) E H R) : T F n P w0 D ops Q (⟨dst, .call ⟨.value (.func f), l.toArray, at_⟩, ty, pos, aft, g⟩ :: rest) E (.blk br [.slice A xs.length c, .int .i64 (a : Int)] 100 :: H) R :=
  dK hw (jL (KP := fun ch H' R' => ∃ e : Nat, ch = rf e ∧ H' = H ∧ R' = R ∧ d a = .error e) hA (h H R _ _ a hma hax hm hk (fun e he => ⟨e, rfl, rfl, rfl, he⟩)) (by rintro ch H' R' ⟨e, rfl, rfl, rfl, he⟩; exact hp e he))
theorem pK [Wd F] {dst : Option Tmp} {fo : Operand} {f : FuncId} {l : List Operand} {at_ : Array TypeId} {ty : TypeId} {pos : String} {aft : Array Edge} {g : Option (Nat × Bool)} {args L1 L2 : List Value} {br : Nat} {A : Option Addr} {c : Nat} {xs : List UInt8} {m a : Nat} {α : Type} [Rep α] [Unp α] {d : Dc α} {val : α → Unp.Y α → Value}
    (hw : Region.wanted ⟨dst, .call ⟨.value fo, l.toArray, at_⟩, ty, pos, aft, g⟩ (yielded ops E.toArray) = true) (hf : ev E fo = .func (.func f) L1.toArray L2.toArray) (hA : L1 ++ l.map (ev E) ++ L2 = args) [FnOk P f] (h : Rr P w0 f args br A c xs m d val) (hma : m ≤ a) (hax : a ≤ xs.length) (hm : Sl (.slice A xs.length c) xs ∈ R)
    (hk : ∀ x a' (y : Unp.Y α), d a = .ok (x, a') → a ≤ a' → a' ≤ xs.length → Unp.ok x y → T F n P w0 D ops Q rest (eE E dst (val x y)) (.blk br [.slice A xs.length c, .int .i64 (a' : Int)] 100 :: H) (Unp.fs x y ++ R))
    (hp : ∀ e : Nat, d a = .error e → En w0 D Q (.panic (rf e)) E H R) : T F n P w0 D ops Q (⟨dst, .call ⟨.value fo, l.toArray, at_⟩, ty, pos, aft, g⟩ :: rest) E (.blk br [.slice A xs.length c, .int .i64 (a : Int)] 100 :: H) R :=
  dK hw (uW (KP := fun ch H' R' => ∃ e : Nat, ch = rf e ∧ H' = H ∧ R' = R ∧ d a = .error e) hf hA (h H R _ _ a hma hax hm hk (fun e he => ⟨e, rfl, rfl, rfl, he⟩)) (by rintro ch H' R' ⟨e, rfl, rfl, rfl, he⟩; exact hp e he))
end
section
variable {F : Fence} {n : Nat} {w0 : World} {D : List Deferred} {ops : Array Oper} {Q : Exit → Act → World → Prop} {rest : List Oper} {E : List Value} {H : List Hp} {R : List MP}
theorem T_next [Wd F] {dst : Option Tmp} {l : List Operand} {at_ : Array TypeId} {ty : TypeId} {pos : String} {aft : Array Edge} {g : Option (Nat × Bool)} {br : Nat} {A : Option Addr} {c : Nat} {xs : List UInt8} {a : Nat}
    (hw : Region.wanted ⟨dst, .call ⟨.value (.func 37), l.toArray, at_⟩, ty, pos, aft, g⟩ (yielded ops E.toArray) = true) (hA : l.map (ev E) = [.pointer (some ⟨br, 0, none⟩)]) (hx : xs.length ≤ 250000) (hax : a ≤ xs.length) (hm : Sl (.slice A xs.length c) xs ∈ R)
    (hk : ∀ ch, xs[a]? = some ch → a + 1 ≤ xs.length → T F n Tryz.prog w0 D ops Q rest (eE E dst (fH ch)) (.blk br [.slice A xs.length c, .int .i64 ((a + 1 : Nat) : Int)] 100 :: H) R)
    (hp : xs[a]? = none → En w0 D Q (.panic (rf xs.length)) E H R) : T F n Tryz.prog w0 D ops Q (⟨dst, .call ⟨.value (.func 37), l.toArray, at_⟩, ty, pos, aft, g⟩ :: rest) E (.blk br [.slice A xs.length c, .int .i64 (a : Int)] 100 :: H) R :=
  dK hw (jL (KP := fun ch H' R' => ch = rf xs.length ∧ H' = H ∧ R' = R ∧ xs[a]? = none) hA (uA br A c xs a aO hax hm (fun h => hk _ (List.getElem?_eq_getElem h) h) (fun h => ⟨rfl, rfl, rfl, List.getElem?_eq_none h⟩)) (by rintro ch H' R' ⟨rfl, rfl, rfl, he⟩; exact hp he))
theorem pY [Wd F] {dst : Option Tmp} {l : List Operand} {at_ : Array TypeId} {ty : TypeId} {pos : String} {aft : Array Edge} {g : Option (Nat × Bool)} {br : Nat} {v : Value} {a : Nat}
    (hw : Region.wanted ⟨dst, .call ⟨.value (.func 38), l.toArray, at_⟩, ty, pos, aft, g⟩ (yielded ops E.toArray) = true) (hA : l.map (ev E) = [.pointer (some ⟨br, 0, none⟩)]) (ha : 1 ≤ a) (hb : a ≤ 250000)
    (hp : En w0 D Q (.panic (rf ((a - 1 : Nat) : Int))) E H R) : T F n Tryz.prog w0 D ops Q (⟨dst, .call ⟨.value (.func 38), l.toArray, at_⟩, ty, pos, aft, g⟩ :: rest) E (.blk br [v, .int .i64 (a : Int)] 100 :: H) R :=
  dK hw (jL (KP := fun ch H' R' => ch = rf ((a - 1 : Nat) : Int) ∧ H' = H ∧ R' = R) hA (back_r br v a aO aO ⟨by rw [show ((a - 1 : Nat) : Int) = (a : Int) - 1 by omega], rfl, rfl⟩) (by rintro ch H' R' ⟨rfl, rfl, rfl⟩; exact hp))
end
section
variable {P : Program} {w0 : World} {E : List Value} {H : List Hp} {R : List MP} {ty : TypeId} {K : Value → List MP → Prop}
theorem not_nat (x : Nat) (hx : x < 9223372036854775808) : (BitVec.ofInt 64 (-1) ^^^ BitVec.ofInt 64 (x : Int)).toNat = 18446744073709551615 - x := by
  have h1 : BitVec.ofInt 64 (-1) = BitVec.allOnes 64 := by decide
  have h2 : BitVec.ofInt 64 (x : Int) = BitVec.ofNat 64 x := by simp
  rw [h1, h2, ← BitVec.not_def, BitVec.toNat_not, BitVec.toNat_ofNat, Nat.mod_eq_of_lt aO]
theorem pw_noti {t : TypeId} {x : Operand} {a : Nat} (hx : ev E x = .int .i64 (a : Int)) (ha : a < 9223372036854775808) (kk : K (.int .i64 (-(a : Int) - 1)) R) : PW P w0 E (.unOp .xor t x) ty H R K :=
  fS rfl (fun w _ => by
    rw [hx]
    have e : IntKind.i64.wrap ((18446744073709551615 - a : Nat) : Int) = -(a : Int) - 1 := by simp [IntKind.wrap, IntKind.bits, IntKind.signed]; omega
    have e2 := not_nat a ha
    simp only [Op.unary, IntKind.signed, if_true, Op.intBits, ne_eq, not_true_eq_false, if_false, Sem.run_pure, BitVec.toNat_xor]
    show Result.ok (Value.int .i64 (IntKind.i64.wrap ((BitVec.ofInt 64 (-1) ^^^ BitVec.ofInt 64 (a : Int)).toNat : Int))) w = _
    rw [e2, e]) kk
end
theorem zJ (u c i : Nat) (hi : i ≤ 9) (hu : u < 128 ^ i) (hc : c < 256) (hl : i = 9 → c ≤ 1) : (u ||| (c &&& 127) % 2 ^ IntKind.bits .u64 * 2 ^ (7 * i) % 2 ^ IntKind.bits .u64) = u + c % 128 * 128 ^ i := by
  have e1 : c &&& 127 = c % 128 := Nat.and_two_pow_sub_one_eq_mod c 7
  have e2 : 2 ^ (7 * i) = 128 ^ i := by rw [Nat.pow_mul]
  have hpos : 0 < 128 ^ i := Nat.pow_pos cQ
  have hb : c % 128 * 128 ^ i < 2 ^ 64 := by
    rcases Nat.lt_or_ge i 9 with h | h
    · have h1 : 128 ^ i ≤ 128 ^ 8 := Nat.pow_le_pow_right cQ aO
      have h2 : c % 128 * 128 ^ i ≤ 127 * 128 ^ 8 := Nat.mul_le_mul aO h1
      omega
    · obtain rfl : i = 9 := by omega
      have := hl rfl
      have h2 : c % 128 * 128 ^ 9 ≤ 1 * 128 ^ 9 := Nat.mul_le_mul_right _ aO
      omega
  rw [e1, e2, Nat.mod_eq_of_lt (a := c % 128) (by simp only [IntKind.bits]; omega), Nat.mod_eq_of_lt (by simpa only [IntKind.bits] using hb)]
  have := Nat.two_pow_add_eq_or_of_lt (i := 7 * i) (b := u) (by rw [e2]; exact hu) (c % 128)
  rw [e2] at this
  rw [Nat.or_comm, Nat.mul_comm (c % 128), ← this, Nat.add_comm]

theorem pX {u : Nat} (h : ¬ u % 2 = 1) : mB u = ((u / 2 ^ 1 : Nat) : Int) := by unfold mB; rw [if_neg h]
theorem rJ {u : Nat} (h : u % 2 = 1) : mB u = -((u / 2 ^ 1 : Nat) : Int) - 1 := by unfold mB; rw [if_pos h]
theorem numG_bad {xs : List UInt8} {m i u a : Nat} {ch : UInt8} (hch : xs[a]? = some ch) (h : (m = 0 ∧ 1 < ch.toNat) ∨ (0 < i ∧ ch.toNat = 0)) : iR xs m i u a = .error (a + 1 - 1) := by
  cases m with
  | zero => unfold iR; rw [hch]; simp only; rw [if_pos aO]; rfl
  | succ m => unfold iR; rw [hch]; simp only; rw [if_pos aO]; rfl
theorem tR {w0 : World} (br : Nat) (A : Option Addr) (c : Nat) (xs : List UInt8) (hx : xs.length ≤ 250000) : Rr Tryz.prog w0 133 [.pointer (some ⟨br, 0, none⟩)] br A c xs 0 (fF xs) (fun n _ => .int .i64 n) := by
  intro H R K KP a _ hax hm hk hp
  refine dE Tryz.func133 rfl Tryz.ntmps133 fI ?_
  repeat' (first | (apply aF) | (apply aA) | (apply aV) | (apply aH) | (apply aD) | (refine aE rfl rfl ?_; ((refine aY ?_)); refine aB ?_))
  refine cM [3, 4, 5, 7, 8, 9, 10, 11, 12, 13, 14, 15, 16, 17, 18, 19, 20, 21, 22, 23, 24, 25, 26, 27, 28, 29, 30, 31, 32, 33, 34, 35, 36, 37] (fun m j H2 R2 => ∃ (i u a' : Nat), i + m = 9 ∧ j 3 = .int .u64 (u : Int) ∧ j 4 = .int .i64 ((7 * i : Nat) : Int) ∧ R2 = R ∧ H2 = .blk br [.slice A xs.length c, .int .i64 (a' : Int)] 100 :: H ∧ a ≤ a' ∧ a' ≤ xs.length ∧ u < 128 ^ i ∧ iR xs m i u a' = iR xs 9 0 0 a) 9 eS ⟨0, 0, a, rfl, rfl, rfl, rfl, rfl, Nat.le_refl _, hax, by decide, rfl⟩ ?_
  rintro m j' H2 R2 ⟨i, u, a', him, h3, h4, hR2, hH2, haa, ha', hu, hg⟩
  subst hR2 hH2
  refine dD (by simp only [eF, List.foldl_cons, List.foldl_nil, List.set_cons_succ, List.set_cons_zero, h3, h4]; rfl) ?_
  have HU := Go.Lib.hid hu
  have HG := Go.Lib.hid hg
  clear hu hg
  repeat' (first | (apply aF) | (apply aA) | (apply aV) | (refine aE rfl rfl ?_; ((first | refine aG ?_ | refine bA rfl ?_ | refine aC rfl ?_)); refine aB ?_))
  refine T_next rfl rfl hx ha' hm (fun ch hch hlt => ?_) (fun hno => ?_)
  rotate_left
  · skip
    repeat' (first | (apply aM) | (apply cI))
    refine aR (cN H R2 dV (hp _ ?_))
    have hg := HG.out
    have : iR xs m i u a' = .error xs.length := by cases m <;> (unfold iR; rw [hno])
    unfold fF
    rw [← hg, this]
  refine aB ?_
  have hc := ch.toNat_lt
  have HC := Go.Lib.hid hch
  clear hch
  repeat' ((refine aE rfl rfl ?_; ((refine aY ?_)); refine aB ?_))
  apply aH; apply aD
  refine kL [13, 14, 15, 16, 17, 18, 19, 20, 21, 22, 23, 24, 25, 26, 27, 28] (fun j H' R' => H' = .blk br [.slice A xs.length c, .int .i64 ((a' + 1 : Nat) : Int)] 100 :: H ∧ R' = R2 ∧ (i = 9 → ch.toNat ≤ 1) ∧ (0 < i → ch.toNat ≠ 0)) ?_ ?_
  · skip
    repeat' (first | (refine aU rfl ?_; ((first | refine fZ (k := .u8) (a := (ch.toNat : Int)) (b := 0) rfl rfl (fun h => ?_) (fun h => ?_) | refine fD (k := .u8) (a := (ch.toNat : Int)) (b := 1) rfl rfl (fun h => ?_) (fun h => ?_))) <;> refine aB ?_) | (apply aF) | (apply aA) | (apply bF) | (apply aK; exact rfl) | (apply aJ; exact rfl) | (apply aH) | (apply aD) | (apply aU; exact rfl; ((first | refine fD rfl rfl (fun h => ?_) (fun h => ?_) | refine fZ rfl rfl (fun h => ?_) (fun h => ?_))) <;> (first | (exfalso; omega) | refine aB ?_)) | (refine aE rfl rfl ?_; ((first | refine aG ?_ | refine bX rfl eR ?_ | refine cH rfl eR ?_)); refine aB ?_) | (refine cX rfl ?_; refine aB ?_))
    all_goals try exact gJ _ _ eS ⟨rfl, rfl, by omega, by omega⟩ (fun w hs => hs)
    all_goals refine pY rfl rfl aO aO ?_
    all_goals repeat' (first | apply aM | apply uI | apply cI)
    all_goals refine aR (cN H R2 dV (hp _ ?_))
    all_goals have hg := HG.out
    all_goals have hch := HC.out
    all_goals unfold fF; rw [← hg, numG_bad hch aO]
  rintro j2 H2 R3 ⟨hH, hR, hc9, hc0⟩
  subst hH hR
  refine dD (by simp only [eF, List.foldl_cons, List.foldl_nil, List.set_cons_succ, List.set_cons_zero]; rfl) ?_
  have hu := HU.out
  have eor := zJ u ch.toNat i aO hu hc hc9
  have hp1 : 128 ^ (i + 1) = 128 ^ i * 128 := Nat.pow_succ ..
  have hadd : u + ch.toNat % 128 * 128 ^ i < 18446744073709551616 := by
    rw [← eor]
    exact Nat.or_lt_two_pow (n := 64) (Nat.lt_of_lt_of_le hu (by
      have : 128 ^ i ≤ 128 ^ 9 := Nat.pow_le_pow_right cQ aO
      omega)) (Nat.mod_lt _ cQ)
  have hu64 : u < 2 ^ IntKind.bits .u64 := Nat.lt_of_le_of_lt (Nat.le_add_right _ _) hadd
  have hsh : 7 * i ≤ IntKind.bits .u64 := by simp only [IntKind.bits]; omega
  have HE := Go.Lib.hid eor
  have HA := Go.Lib.hid hadd
  have HP := Go.Lib.hid hp1
  clear hu eor hadd hp1
  apply aF; apply aA
  repeat' (first | (refine aE rfl rfl ?_; ((first | refine tC (k := .u8) (a := ch.toNat) (b := 127) rfl rfl rfl hc cQ ?_ | refine lN rfl rfl ?_ | refine mK (k := .u64) (n := 7 * i) rfl rfl rfl hsh ?_ | refine qJ (k := .u64) rfl rfl rfl hu64 (Nat.mod_lt _ cQ) ?_; rw [HE.out])); refine aB ?_) | (refine aE rfl rfl ?_; ((first | refine aG ?_ | refine aY ?_)); refine aB ?_))
  apply aH; apply aD
  have hadd := HA.out
  obtain ⟨u2, hu2⟩ : ∃ u2, u + ch.toNat % 128 * 128 ^ i = u2 := ⟨_, rfl⟩
  rw [hu2] at hadd ⊢
  have HU2 := Go.Lib.hid hu2
  clear hu2
  repeat' (first | (refine aU rfl ?_; refine bQ (k := .u8) (a := (ch.toNat : Int)) (b := 128) rfl rfl (fun h => ?_) (fun h => ?_) <;> refine aB ?_) | (apply aF) | (apply aA) | (apply bF) | (apply cG) | (apply aK; exact rfl) | (apply aJ; exact rfl) | (apply aH) | (apply aD) | (apply aW) | (apply bU) | (apply aS) | (apply fB; exact rfl) | (apply aU; exact rfl; ((refine bM rfl rfl aO aO ?_)); refine aB ?_) | (refine aE rfl rfl ?_; ((first | refine aG ?_ | refine aY ?_)); refine aB ?_))
  all_goals have hu2 := HU2.out
  all_goals have hch := HC.out
  all_goals have hg := HG.out
  · have hfin : iR xs m i u a' = .ok (u2, a' + 1) := by
      have e1 : ch.toNat % 128 = ch.toNat := by omega
      rw [e1] at hu2
      cases m with
      | zero => unfold iR; rw [hch]; simp only; rw [if_neg aO, hu2]
      | succ m => unfold iR; rw [hch]; simp only; rw [if_neg aO, if_pos aO, hu2]
    have hD : fF xs a = .ok (mB u2, a' + 1) := by unfold fF; rw [← hg, hfin]
    have eand : u2 &&& 1 = u2 % 2 := Nat.and_one_is_mod u2
    have h64 : u2 < 2 ^ IntKind.bits .u64 := hadd
    have HK := hk _ _ () hD aO hlt (qF hadd)
    repeat' (first | (refine aE rfl rfl ?_; ((first | refine lX (n := 1) rfl rfl cQ ?_ | refine jG rfl aO ?_ | refine tC (k := .u64) (a := u2) (b := 1) rfl rfl rfl h64 cQ ?_ | refine pw_noti rfl aO ?_)); refine aB ?_) | (apply aF) | (apply aA) | (apply bP) | (apply bF) | (apply aK; exact rfl) | (apply aJ; exact rfl) | (apply aH) | (apply aD) | (apply bN) | (apply aU; exact rfl; ((refine fZ rfl rfl (fun h => ?_) (fun h => ?_))) <;> (refine aB ?_)) | (refine aE rfl rfl ?_; ((first | refine aG ?_ | refine aY ?_)); refine aB ?_))
    all_goals refine aZ (.inl rfl) (dP rfl (bR rfl)) (fG _ R3 (fun w hs => hs) ?_)
    all_goals (first | (rw [pX aO] at HK; exact HK) | (rw [rJ aO] at HK; exact HK))
  · obtain ⟨k, rfl⟩ : ∃ k, m = k + 1 := by
      cases m with
      | zero => omega
      | succ k => exact ⟨k, rfl⟩
    have e1 : ch.toNat % 128 = ch.toNat - 128 := by omega
    have hu := HU.out
    refine cJ k _ R3 aO eS ⟨i + 1, u2, a' + 1, by omega, rfl, ?_, rfl, rfl, by omega, hlt, ?_, ?_⟩ (fun w hs => hs)
    · show Value.int .i64 _ = _
      congr 1
    · rw [← hu2, HP.out]
      have : ch.toNat % 128 * 128 ^ i ≤ 127 * 128 ^ i := Nat.mul_le_mul_right _ aO
      omega
    · rw [← hg, iR, hch]
      simp only
      rw [if_neg aO, if_neg aO, ← e1, hu2]

section
variable {F : Fence} {n : Nat} {P : Program} {w0 : World} {D : List Deferred} {ops : Array Oper} {Q : Exit → Act → World → Prop} {rest : List Oper} {E : List Value} {H : List Hp} {R : List MP}
theorem T_rp {R' : List MP} (h : R = R') (k : T F n P w0 D ops Q rest E H R') : T F n P w0 D ops Q rest E H R := h ▸ k
end
theorem zQ {α β : Type} {f : α → β} {d : Dc α} {a a' : Nat} {y : β} (h : kE f d a = .ok (y, a')) : ∃ x, d a = .ok (x, a') ∧ y = f x := by
  unfold kE at h
  cases hg : d a with
  | error e => rw [hg] at h; cases h
  | ok q =>
    obtain ⟨x, a1⟩ := q
    rw [hg] at h
    injection h with h
    injection h with e1 e2
    subst e2
    exact ⟨x, rfl, e1.symm⟩
theorem k7 {α β : Type} {f : α → β} {d : Dc α} {a e : Nat} (h : kE f d a = .error e) : d a = .error e := by
  unfold kE at h
  cases hg : d a with
  | error e' => rw [hg] at h; injection h with h; rw [h]
  | ok q => rw [hg] at h; cases h
abbrev lenI (xs : List UInt8) : Dc Int := kE (fun n : Nat => (n : Int)) (lD xs)
theorem length_r {w0 : World} (br : Nat) (A : Option Addr) (c : Nat) (xs : List UInt8) (hx : xs.length ≤ 250000) : Rr Tryz.prog w0 135 [.pointer (some ⟨br, 0, none⟩)] br A c xs 0 (lenI xs) (fun n _ => .int .i64 n) := by
  intro H R K KP a _ hax hm hk hp
  refine dE Tryz.func135 rfl Tryz.ntmps135 fI ?_
  repeat' (first | (apply aF) | (apply aA) | (apply aH) | (apply aD) | (refine aE rfl rfl ?_; ((first | refine aG ?_ | refine aY ?_)); refine aB ?_))
  refine uN rfl rfl (tR br A c xs hx) (Nat.zero_le _) hax hm (fun n a1 y hn h1 h2 hI => ?_) (fun e he => ?_)
  rotate_left
  · skip
    repeat' ((apply aM))
    exact aR (cN H R (fun w hs => hs) (hp e (by unfold lenI kE lD; rw [he])))
  refine aB ?_
  refine T_rp (R' := R) rfl ?_
  have hI' : -9223372036854775808 ≤ n ∧ n ≤ 9223372036854775807 := hI
  have hpos := (eT hn).2
  repeat' (first | (apply aF) | (apply aH) | (apply aD) | (refine aE rfl rfl ?_; ((refine aY ?_)); refine aB ?_))
  refine eC fK jN (fun _ _ _ _ _ _ h => h) (List.Sublist.refl _) ?_
  all_goals ((refine bG 0 ?_; ((refine aG ?_)); refine aI ?_))
  all_goals ((refine bG 1 ?_; ((refine bQ rfl rfl (fun h => ?_) (fun h => ?_))) <;> (refine aI ?_)))
  all_goals ((refine bG 2 ?_; ((refine aG ?_)); refine aI ?_))
  all_goals (first | (refine bG 3 ?_; ((refine aG ?_)); refine aI ?_) | (refine dS 3 (List.Sublist.refl _) ?_))
  all_goals (first | (refine bG 4 ?_; ((refine aG ?_)); refine aI ?_) | (refine dS 4 (List.Sublist.refl _) ?_))
  all_goals (first | (refine bG 5 ?_; ((refine bA rfl ?_)); refine aI ?_) | (refine dS 5 (List.Sublist.refl _) ?_))
  all_goals (first | (refine bG 6 ?_; ((refine aC rfl ?_)); refine aI ?_) | (refine dS 6 (List.Sublist.refl _) ?_))
  all_goals (first | (refine bG 7 ?_; ((refine aC rfl ?_)); refine aI ?_) | (refine dS 7 (List.Sublist.refl _) ?_))
  all_goals (first | (refine bG 8 ?_; ((refine aL (i := 0) rfl rfl rfl ?_)); refine aI ?_) | (refine dS 8 (List.Sublist.refl _) ?_))
  all_goals (first | (refine bG 9 ?_; ((refine bS rfl ?_)); refine aI ?_) | (refine dS 9 (List.Sublist.refl _) ?_))
  all_goals (first | (refine bG 10 ?_; ((refine aG ?_)); refine aI ?_) | (refine dS 10 (List.Sublist.refl _) ?_))
  all_goals (first | (refine bG 11 ?_; ((refine bA rfl ?_)); refine aI ?_) | (refine dS 11 (List.Sublist.refl _) ?_))
  all_goals (first | (refine bG 12 ?_; ((refine aC rfl ?_)); refine aI ?_) | (refine dS 12 (List.Sublist.refl _) ?_))
  all_goals (first | (refine bG 13 ?_; ((refine aC rfl ?_)); refine aI ?_) | (refine dS 13 (List.Sublist.refl _) ?_))
  all_goals (first | (refine bG 14 ?_; ((refine aL (i := 0) rfl rfl rfl ?_)); refine aI ?_) | (refine dS 14 (List.Sublist.refl _) ?_))
  all_goals (first | (refine bG 15 ?_; ((refine eY rfl rfl aO aO ?_)); refine aI ?_) | (refine dS 15 (List.Sublist.refl _) ?_))
  all_goals (first | (refine bG 16 ?_; ((refine fD rfl rfl (fun h => ?_) (fun h => ?_))) <;> (refine aI ?_)) | (refine dS 16 (List.Sublist.refl _) ?_))
  all_goals ((refine bG 17 ?_; ((first | refine bX rfl eR ?_ | refine cH rfl eR ?_)); refine aI ?_))
  all_goals refine iC ?_
  · skip
    repeat' (first | (apply aA) | (apply aK; exact rfl) | (apply aD) | (refine aE rfl rfl ?_; ((refine aG ?_)); refine aB ?_))
    refine pY rfl rfl aO aO ?_
    repeat' (apply aM)
    refine aR (cN H R (fun w hs => hs) (hp _ (by unfold lenI kE lD; rw [hn]; simp only; rw [if_pos aO])))
  · skip
    repeat' (first | (apply aA) | (apply aK; exact rfl) | (apply aD) | (refine aE rfl rfl ?_; ((refine aG ?_)); refine aB ?_))
    refine pY rfl rfl aO aO ?_
    repeat' (apply aM)
    refine aR (cN H R (fun w hs => hs) (hp _ (by unfold lenI kE lD; rw [hn]; simp only; rw [if_pos aO])))
  · skip
    repeat' (first | (apply aF) | (apply aA) | (apply bP) | (apply bF) | (apply aJ; exact rfl) | (apply aH) | (apply aD) | (refine aE rfl rfl ?_; ((first | refine aG ?_ | refine aY ?_)); refine aB ?_))
    refine aZ (.inl rfl) (dP rfl (bR rfl)) (fG _ R (fun w hs => hs) ?_)
    have e : ((n.toNat : Nat) : Int) = n := by omega
    exact hk n a1 () (by unfold lenI kE lD; rw [hn]; simp only; rw [if_neg aO]; simp only; rw [e]) h1 h2 hI
end Go.Proofs.YtggdljhmbckpmaaGreat
