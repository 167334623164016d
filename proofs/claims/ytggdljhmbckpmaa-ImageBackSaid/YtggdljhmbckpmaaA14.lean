/- Calls that are lent what is owned; loops round by round. -/
import Derived.Test.YtggdljhmbckpmaaA13
import Derived.LoopNIn
set_option linter.unusedVariables false
set_option linter.unusedSimpArgs false
namespace Go.Proofs.Ytggdljhmbckpmaa
open Go Go.RowKit
attribute [local semireducible] T TC En PW GW OW CallsK CallsP Sl Rd Ls At S TA
section
variable {P : Program} {w0 : World} {H : List Hp} {R : List MP}
def cst (w : World) : Sto := fun b o => w.cell? ⟨b, o, none⟩
theorem S.quiet {w w' : World} (h : S w0 w H R) (hb : Below w.heap.size w w') : S w0 w' H R := by
  obtain ⟨s, h⟩ := h
  refine ⟨s, ⟨hb.os.trans h.below.os, hb.tape.trans h.below.tape, hb.output.trans h.below.output, Nat.le_trans h.below.size hb.size, fun k hk => (hb.block k (Nat.lt_of_lt_of_le hk h.below.size)).trans (h.below.block k hk)⟩, fun b o v hs => ?_, fun x hx => ?_, h.nd, h.rd⟩
  · exact (World.cell?_of_block (w := w) (hb.block b (h.st_lt hs))).trans (h.st b o v hs)
  · exact Hp.ok_of_heap (h.hp x hx) fun b hxb => ⟨hb.block b (Hp.own_lt (h.hp x hx) hxb).1, fun _ => rfl⟩
theorem S.self {w : World} {R1 : List MP} (hR1 : ∀ p ∈ R1, p.p (cst w)) : S w w [] R1 :=
  ⟨cst w, Below.refl _ _, fun b o v h => h, fun x hx => (by cases hx), List.nodup_nil, hR1⟩
theorem S.full {w : World} (hs : S w0 w H R) : ∀ p ∈ R, p.p (cst w) := by
  obtain ⟨s, h⟩ := hs
  exact fun p hp => p.mono s _ (fun b o v hv => h.st b o v hv) (h.rd p hp)
theorem S.full_blk {w : World} {i b : Nat} {cs : List Value} {T : TypeId} (hs : S w0 w H R) (hi : H[i]? = some (.blk b cs T)) : (At b 0 cs).p (cst w) := by
  intro j v hj
  have := hs.blk_cells hi j v hj
  simpa [cst] using this
theorem S.full_row {w : World} {i m c : Nat} {A : Option Addr} {xs : List UInt8} (hs : S w0 w H R) (hi : H[i]? = some (.row (.slice A m c) 5 1 m (bytesV xs))) : (Sl (.slice A m c) xs).p (cst w) := by
  rcases hs.unrow hi with ⟨hv, h0, hnil⟩ | ⟨b, cap, sp, hv, h2, h3, h4, h5, h6⟩
  · have hx : xs = [] := by simpa [bytesV] using hnil
    cases hv
    subst hx
    exact ⟨none, 0, rfl, ⟨by simp, by simp [maxL]⟩, fun h => by simp at h⟩
  · injection hv with e1 _ e2
    subst e1; subst e2
    have hml : m = xs.length := by simpa using h3.symm
    subst hml
    have hlt : i < H.length := (List.getElem?_eq_some_iff.1 hi).1
    have hat := h6.full_blk (i := i) (b := b) (cs := bytesV xs ++ sp) (T := 5) (by rw [List.getElem?_set_self hlt])
    refine ⟨_, _, rfl, ⟨h4, by simp only [maxLen] at h5; simp only [maxL]; omega⟩, fun _ => ⟨b, 0, rfl, fun k x hk => ⟨[byteV x], rfl, fun j v hj => ?_⟩⟩⟩
    have hj0 : j = 0 ∧ v = byteV x := by
      cases j with
      | zero => simp at hj; exact ⟨rfl, hj.symm⟩
      | succ j => simp at hj
    obtain ⟨rfl, rfl⟩ := hj0
    have := hat k (byteV x) (by
      rw [List.getElem?_append_left (by simp; exact (List.getElem?_eq_some_iff.1 hk).1)]
      simp [bytesV, hk])
    simpa [Rep.size] using this
/-- A call that makes nothing of ours: it may read what is owned. -/
theorem CallsK_quiet {f : FuncId} {args : Array Value} {K : Value → List Hp → List MP → Prop} (v : Value) (R1 : List MP) (h : ∀ w1, CallsK P w1 f args [] R1 (fun u _ _ => u = v)) (hR1 : ∀ w, S w0 w H R → ∀ p ∈ R1, p.p (cst w)) (k : K v H R) : CallsK P w0 f args H R K := fun w hs =>
  (h w w (S.self (hR1 w hs))).mono (fun e w' ⟨u, H', R', e1, hs', hu⟩ => ⟨v, H, R, by subst hu; exact e1, hs.quiet hs'.below, k⟩)
theorem S.row_at {w : World} {i m size : Nat} {v : Value} {T : TypeId} {cs : List Value} (hs : S w0 w H R) (hi : H[i]? = some (.row v T size m cs)) (hm : 0 < m) : ∃ b cap, v = .slice (some ⟨b, 0, none⟩) m cap ∧ m ≤ cap ∧ cap ≤ maxLen := by
  rcases hs.unrow hi with ⟨_, h0, _⟩ | ⟨b, cap, sp, h1, h2, h3, h4, h5, h6⟩
  · omega
  · exact ⟨b, cap, h1, h4, h5⟩
end
section
variable {F : Fence} {n : Nat} {P : Program} {w0 : World} {D : List Deferred} {ops : Array Oper} {Q : Exit → Act → World → Prop} {rest : List Oper} {E : List Value} {H : List Hp} {R : List MP}
theorem T_row_at (i : Nat) {v : Value} {T' : TypeId} {sz m : Nat} {cs : List Value} (hi : H[i]? = some (.row v T' sz m cs)) (hm : 0 < m) (k : ∀ b c, v = .slice (some ⟨b, 0, none⟩) m c → m ≤ c → c ≤ maxLen → T F n P w0 D ops Q rest E H R) : T F n P w0 D ops Q rest E H R := fun w hs => by
  obtain ⟨b, c, e, h1, h2⟩ := hs.row_at hi hm
  exact k b c e h1 h2 w hs
theorem TC_row_at {co : Code} (i : Nat) {v : Value} {T' : TypeId} {sz m : Nat} {cs : List Value} (hi : H[i]? = some (.row v T' sz m cs)) (hm : 0 < m) (k : ∀ b c, v = .slice (some ⟨b, 0, none⟩) m c → m ≤ c → c ≤ maxLen → TC F n P w0 D co Q E H R) : TC F n P w0 D co Q E H R := fun w hs => by
  obtain ⟨b, c, e, h1, h2⟩ := hs.row_at hi hm
  exact k b c e h1 h2 w hs
theorem En_stays' {e : Exit} {α : Type} [Rep α] (i : Nat) {v : Value} {T' : TypeId} {sz m : Nat} {cs : List Value} {xs : List α} (hi : H[i]? = some (.row v T' sz m cs)) (hsz : Rep.size α = sz) (h0 : 0 < sz) (hx : Cx cs xs ∈ R) (k : ∀ A c, v = .slice A xs.length c → En w0 D Q e E (H.eraseIdx i) (Sl (.slice A xs.length c) xs :: R)) : En w0 D Q e E H R := fun w hs => by
  obtain ⟨A, c, e, h⟩ := hs.stays hi hsz h0 hx
  exact k A c e w h
/-! ### where branches join -/
def MidS (w0 : World) (D : List Deferred) (E0 : List Value) (js : List Nat) (M : (Nat → Value) → List Hp → List MP → Prop) : Exit → Act → World → Prop :=
  fun e a w => e = .normal ∧ ∃ j H R, a = act (setJ E0 js j) D ∧ S w0 w H R ∧ M j H R
theorem TC_cutS {x y : Code} (js : List Nat) (M : (Nat → Value) → List Hp → List MP → Prop) (h1 : TC F n P w0 D x (MidS w0 D E js M) E H R) (h2 : ∀ j H R, M j H R → TC F n P w0 D y Q (setJ E js j) H R) : TC F n P w0 D (.seq x y) Q E H R := fun w hs =>
  wpIn_seq (wpIn_mono (h1 w hs) (fun e a w' ⟨he, j, H', R', e1, e2, e3⟩ => by
    subst he; subst e1
    exact h2 j H' R' e3 w' e2))
theorem En_midS {E0 : List Value} {js : List Nat} {M : (Nat → Value) → List Hp → List MP → Prop} (H' : List Hp) (R' : List MP) (hE : setJ E0 js (fun i => E.getD i undef) = E) (hM : M (fun i => E.getD i undef) H' R') (hw : ∀ w, S w0 w H R → S w0 w H' R') : En w0 D (MidS w0 D E0 js M) .normal E H R := fun w hs =>
  ⟨rfl, _, H', R', by rw [hE], hw w hs, hM⟩
/-! ### round by round -/
def TCr (F : Fence) (n : Nat) (P : Program) (w0 : World) (D : List Deferred) (c : Code) (Q : Exit → Act → World → Prop) (m : Nat) (E : List Value) (H : List Hp) (R : List MP) : Prop :=
  ∀ w, S w0 w H R → Code.roundsIn F n P c Q m (act E D) w
theorem TC_unroll {c : Code} (m : Nat) (h : TCr F n P w0 D c Q m E H R) : TC F n P w0 D (.loop c) Q E H R := fun w hs => wpIn_loop_rounds m (h w hs)
theorem TCr_succ {c : Code} {m : Nat} (h : TC F n P w0 D c (Exit.then (Code.roundsIn F n P c Q m) Q) E H R) : TCr F n P w0 D c Q (m + 1) E H R := fun w hs => h w hs
theorem En_round {c : Code} {m : Nat} (h : TCr F n P w0 D c Q m E H R) : En w0 D (Exit.then (Code.roundsIn F n P c Q m) Q) .normal E H R := fun w hs => h w hs
end
attribute [irreducible] TCr
end Go.Proofs.Ytggdljhmbckpmaa
