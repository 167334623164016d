/- The reference's writer: numbers: walk. A string's bytes appended to an owned row. The reference's writer: truths, texts, lists of numbers: walks. -/
import Derived.Test.YtggdljhmbckpmaaGreatDA
import Derived.Test.YtggdljhmbckpmaaGreatEB
import Derived.Test.YtggdljhmbckpmaaGreatEA
import Derived.Test.YtggdljhmbckpmaaGreatAN
import Derived.Test.YtggdljhmbckpmaaGreatAM
import Derived.Lib.AppendStr
import Derived.Test.YtggdljhmbckpmaaGreatEC
set_option linter.unusedVariables false
set_option linter.unusedSimpArgs false
namespace Go.Proofs.YtggdljhmbckpmaaGreat
open Go Go.RowKit
set_option maxRecDepth 100000
set_option maxHeartbeats 3200000

/-- 'out' written behind 'bs', but for what is too much. -/
def Wt (bs out bs' : List UInt8) : Prop := bs.length ≤ bs'.length ∧ bs'.length ≤ bs.length + out.length ∧ (bs.length + out.length ≤ 250000 → bs' = bs ++ out) ∧ (250000 < bs.length + out.length → 250000 < bs'.length)
theorem Wt.all (bs out : List UInt8) : Wt bs out (bs ++ out) := ⟨by simp, by simp, fun _ => rfl, fun h => by rw [List.length_append]; exact h⟩
theorem Wt.nil (bs : List UInt8) : Wt bs [] bs := ⟨Nat.le_refl _, by simp, fun _ => by simp, fun h => by simpa using h⟩
theorem Wt.trans {bs o1 b1 o2 b2 : List UInt8} (h : Wt bs o1 b1) (k : Wt b1 o2 b2) : Wt bs (o1 ++ o2) b2 := by
  obtain ⟨h1, h2, h3, h4⟩ := h
  obtain ⟨k1, k2, k3, k4⟩ := k
  rw [Wt, List.length_append]
  refine ⟨by omega, by omega, fun hh => ?_, fun hh => ?_⟩
  · have e := h3 (by omega)
    subst e
    rw [List.length_append] at k3
    rw [k3 (by omega), List.append_assoc]
  · rcases Nat.lt_or_ge 250000 (bs.length + o1.length) with g | g
    · have := h4 g; omega
    · have e := h3 g
      subst e
      rw [List.length_append] at k4
      exact k4 (by omega)
/-- What is over is over. -/
theorem Wt.over {bs o1 o2 b1 : List UInt8} (h : Wt bs o1 b1) (hb : 250000 < b1.length) : Wt bs (o1 ++ o2) b1 := by
  obtain ⟨h1, h2, h3, h4⟩ := h
  rw [Wt, List.length_append]
  exact ⟨h1, by omega, fun hh => absurd hb (by omega), fun _ => hb⟩
theorem Wt.eq {bs o o' b : List UInt8} (h : Wt bs o b) (e : o = o') : Wt bs o' b := e ▸ h
/-- A call of the reference that writes. -/
def Wf (P : Program) (w0 : World) (R0 : List MP) (f : FuncId) (args : List Value) (bw : Nat) (out : List UInt8) : Prop :=
  ∀ (H : List Hp) (R : List MP) (K : Value → List Hp → List MP → Prop) (bs : List UInt8) (v : Value), (∀ p ∈ R0, p ∈ R) → bs.length + out.length ≤ 1000000000 →
    (∀ bs' v', Wt bs out bs' → K (.tuple #[]) (.row v' 5 1 bs'.length (bA bs') :: .blk bw [v'] 90 :: H) R) → CallsK P w0 f args.toArray (.row v 5 1 bs.length (bA bs) :: .blk bw [v] 90 :: H) R K
section
variable {F : Fence} {n : Nat} {P : Program} {w0 : World} {D : List Deferred} {ops : Array Oper} {Q : Exit → Act → World → Prop} {rest : List Oper} {E : List Value} {H : List Hp} {R R0 : List MP}
theorem eK [Wd F] {dst : Option Tmp} {f : FuncId} {l : List Operand} {at_ : Array TypeId} {ty : TypeId} {pos : String} {aft : Array Edge} {g : Option (Nat × Bool)} {A : List Value} {bw : Nat} {out bs : List UInt8} {v : Value} {m : Nat} {cs : List Value}
    (hw : Region.wanted ⟨dst, .call ⟨.value (.func f), l.toArray, at_⟩, ty, pos, aft, g⟩ (yielded ops E.toArray) = true) (hA : l.map (ev E) = A) [FnOk P f] (h : Wf P w0 R0 f A bw out) (hsub : ∀ p ∈ R0, p ∈ R) (hm : m = bs.length) (hcs : cs = bA bs) (hb : bs.length + out.length ≤ 1000000000)
    (hk : ∀ bs' v', Wt bs out bs' → T F n P w0 D ops Q rest (dP E dst (.tuple #[])) (.row v' 5 1 bs'.length (bA bs') :: .blk bw [v'] 90 :: H) R) : T F n P w0 D ops Q (⟨dst, .call ⟨.value (.func f), l.toArray, at_⟩, ty, pos, aft, g⟩ :: rest) E (.row v 5 1 m cs :: .blk bw [v] 90 :: H) R := by
  subst hm; subst hcs
  exact dS hw (aY hA (h H R _ bs v hsub hb hk))
end
theorem pL {P : Program} {w0 : World} {R0 R1 : List MP} {f : FuncId} {args : List Value} {bw : Nat} {out out' : List UInt8} (h : Wf P w0 R0 f args bw out) (e : out = out') (hR : R0 = R1) : Wf P w0 R1 f args bw out' := by
  subst e hR; exact h
theorem dA {bs p r : List UInt8} {N : Nat} (h : bs.length + (p ++ r).length ≤ N) : bs.length + p.length ≤ N := by
  rw [List.length_append] at h; omega
theorem dB {bs p r b : List UInt8} {N : Nat} (k : Wt bs p b) (h : bs.length + (p ++ r).length ≤ N) : b.length + r.length ≤ N := by
  have := k.2.1
  rw [List.length_append] at h; omega
theorem cX {w0 : World} (bw : Nat) (n : Int) (hn : dD n) : Wf Tryz.prog w0 [] 31 [.pointer (some ⟨bw, 0, none⟩), .int .i64 n] bw (cL n) := by
  intro H R K bs v _ hb hk
  have hn' : -9223372036854775808 ≤ n ∧ n ≤ 9223372036854775807 := hn
  refine bX Tryz.func31 rfl Tryz.ntmps31 eZ ?_
  apply aF; apply aA
  repeat' (first | (refine aE rfl rfl ?_; ((first | refine sI rfl ?_ | refine oA (n := 1) rfl rfl rfl (by decide) ?_)); refine aB ?_) | (refine aE rfl rfl ?_; ((first | refine aH ?_ | refine aX ?_)); refine aB ?_))
  apply aG; apply aD
  have e1 : (n % 18446744073709551616).toNat * 2 ^ 1 % 2 ^ IntKind.bits .u64 = if 0 ≤ n then rY n else 18446744073709551615 - rY n := by
    simp only [IntKind.bits, rY]
    split <;> omega
  rw [e1]
  have hz := wC hn
  refine iY [4, 8, 9, 10, 11] (fun j H' R' => j 4 = .int .u64 (rY n : Int) ∧ H' = .row v 5 1 bs.length (bA bs) :: .blk bw [v] 90 :: H ∧ R' = R) ?_ ?_
  · skip
    repeat' (first | (refine aE rfl rfl ?_; refine uW rfl (by split <;> omega) ?_; refine aB ?_) | (apply aF) | (apply aA) | (apply bE) | (apply aK; exact rfl) | (apply aI; exact rfl) | (apply aG) | (apply aD) | (apply aU; exact rfl; ((refine bM rfl rfl (fun h => ?_) (fun h => ?_))) <;> (refine aB ?_)) | (refine aE rfl rfl ?_; ((first | refine aH ?_ | refine aX ?_)); refine aB ?_))
    · refine fI _ R eE ⟨?_, rfl, rfl⟩ (fun w hs => hs)
      show Value.int .u64 _ = _
      rw [if_neg (by omega), show 18446744073709551615 - (18446744073709551615 - rY n) = rY n by omega]
    · refine fI _ R eE ⟨?_, rfl, rfl⟩ (fun w hs => hs)
      show Value.int .u64 _ = _
      rw [if_pos (by omega)]
  rintro j H' R' ⟨h4, hH, hR⟩
  subst hH hR
  refine cQ (by simp only [dX, List.foldl_cons, List.foldl_nil, List.set_cons_succ, List.set_cons_zero, h4]; rfl) ?_
  refine iY [4, 12, 13, 14, 15, 16, 17, 18, 19, 20, 21, 22, 23, 24, 25, 26, 27] (fun j H' R2 => ∃ (u : Nat) (bs' : List UInt8) (v' : Value), j 4 = .int .u64 (u : Int) ∧ R2 = R' ∧ H' = .row v' 5 1 bs'.length (bA bs') :: .blk bw [v'] 90 :: H ∧ u < 128 ∧ bs' ++ [UInt8.ofNat u] = bs ++ cL n) ?_ ?_
  · skip
    repeat' ((apply aT))
    refine cK [4, 12, 13, 14, 15, 16, 17, 18, 19, 20, 21, 22, 23, 24, 25, 26, 27] (fun m j H2 R2 => ∃ (u : Nat) (bs' : List UInt8) (v' : Value), j 4 = .int .u64 (u : Int) ∧ R2 = R' ∧ H2 = .row v' 5 1 bs'.length (bA bs') :: .blk bw [v'] 90 :: H ∧ bs' ++ mB m u = bs ++ cL n ∧ u < 2 * 128 ^ m) 9 eE ⟨rY n, bs, v, rfl, rfl, rfl, rfl, by omega⟩ ?_
    rintro m j' H2 R2 ⟨u, bs', v', h4', hR2, hH2, hle, hlt⟩
    subst hR2 hH2
    refine cQ (by simp only [dX, List.foldl_cons, List.foldl_nil, List.set_cons_succ, List.set_cons_zero, h4']; rfl) ?_
    have hlen : bs'.length + (mB m u).length = bs.length + (cL n).length := by
      have := congrArg List.length hle
      simpa using this
    have HL := Go.Lib.hid hle
    have HM := Go.Lib.hid hlt
    clear hle hlt
    have hpos := qX m u
    repeat' (first | (refine aE rfl rfl ?_; ((first | refine rC rfl ?_ | refine i5 rfl ?_ | refine mJ (n := 7) rfl rfl (by decide) ?_)); refine aB ?_) | (refine bG rfl rfl ?_; refine cY 1 0 (news := [eP (UInt8.ofNat (u % 256 ||| 128))]) rfl rfl rfl rfl (by decide) rfl (by simp [eP, Value.oneCell']) (by omega) (by omega) (fun v2 => ?_); refine aB ?_; refine cA ?_; refine gA 1 rfl (fun A9 c9 hv9 => ?_); subst hv9) | (apply aF) | (apply aA) | (apply aT) | (apply bE) | (apply bV) | (apply aK; exact rfl) | (apply aI; exact rfl) | (apply aG) | (apply aD) | (apply aS) | (apply bP) | (apply aR) | (apply aP; exact rfl; ((refine aM (i := 1) rfl rfl rfl ?_)); refine aB ?_) | (apply aU; exact rfl; ((refine jJ rfl rfl (fun h => ?_) (fun h => ?_))) <;> (refine aB ?_)) | (apply bD; exact rfl; ((refine aO (i := 2) rfl cW rfl (by rfl) (by simp) (by simp [Value.oneCell']) ?_)); refine aB ?_; refine cA ?_) | (refine aE rfl rfl ?_; ((first | refine aH ?_ | refine aX ?_ | refine aW rfl ?_ | refine aC rfl ?_)); refine aB ?_) | (refine bG rfl rfl ?_; ((refine bH (by decide) fD rfl (fun b => ?_))); refine aB ?_))
    · obtain ⟨k, rfl⟩ : ∃ k, m = k + 1 := by
        cases m with
        | zero => have := HM.out; simp at this; omega
        | succ k => exact ⟨k, rfl⟩
      have hl1 : mB (k + 1) u = UInt8.ofNat (u % 256 ||| 128) :: mB k (u / 128) := by rw [mB, if_pos (by omega)]
      refine cE k (.row (.slice A9 (bs'.length + 1) c9) 5 1 (bs' ++ [UInt8.ofNat (u % 256 ||| 128)]).length (bA (bs' ++ [UInt8.ofNat (u % 256 ||| 128)])) :: .blk bw [.slice A9 (bs'.length + 1) c9] 90 :: H) R2 (by omega) eE ⟨u / 128, bs' ++ [UInt8.ofNat (u % 256 ||| 128)], .slice A9 (bs'.length + 1) c9, rfl, rfl, rfl, ?_, ?_⟩ (fun w hs => ?_)
      · rw [← HL.out, hl1]; simp
      · have := HM.out; rw [Nat.pow_succ] at this; omega
      · rw [fE, List.length_append]
        exact hs.weaken bU cZ
    · have hl1 : mB m u = [UInt8.ofNat u] := by
        cases m with
        | zero => rfl
        | succ k => rw [mB, if_neg (by omega)]
      refine fI _ R2 eE ⟨u, bs', v', rfl, rfl, rfl, by omega, by rw [← hl1]; exact HL.out⟩ (fun w hs => hs)
  rintro j2 H2 R3 ⟨u, bs', v', h4', hR2, hH2, hu, hle⟩
  subst hR2 hH2
  refine cQ (by simp only [dX, List.foldl_cons, List.foldl_nil, List.set_cons_succ, List.set_cons_zero, h4']; rfl) ?_
  have hlen : bs'.length + 1 = bs.length + (cL n).length := by
    have := congrArg List.length hle
    simpa using this
  repeat' (first | (refine aE rfl rfl ?_; refine rC rfl ?_; refine aB ?_) | (refine bG rfl rfl ?_; refine cY 1 0 (news := [eP (UInt8.ofNat u)]) rfl rfl rfl rfl (by decide) rfl (by simp [eP, Value.oneCell']) (by omega) (by omega) (fun v2 => ?_); refine aB ?_; refine cA ?_; refine gA 1 rfl (fun A9 c9 hv9 => ?_); subst hv9) | (apply aA) | (apply aG) | (apply aP; exact rfl; ((refine aM (i := 1) rfl rfl rfl ?_)); refine aB ?_) | (apply bD; exact rfl; ((refine aO (i := 2) rfl cW rfl (by rfl) (by simp) (by simp [Value.oneCell']) ?_)); refine aB ?_; refine cA ?_) | (refine aE rfl rfl ?_; ((first | refine aH ?_ | refine aW rfl ?_ | refine aC rfl ?_)); refine aB ?_) | (refine bG rfl rfl ?_; ((refine bH (by decide) fD rfl (fun b => ?_))); refine aB ?_))
  refine bC (.inr rfl) (fV rfl) (cG (.row (.slice A9 (bs'.length + 1) c9) 5 1 (bs ++ cL n).length (bA (bs ++ cL n)) :: .blk bw [.slice A9 (bs'.length + 1) c9] 90 :: H) R3 (fun w hs => ?_) (hk (bs ++ cL n) (.slice A9 (bs'.length + 1) c9) (Wt.all bs (cL n))))
  rw [← hle, fE, List.length_append]
  exact hs.weaken bU cZ
end Go.Proofs.YtggdljhmbckpmaaGreat
namespace Go.Proofs.YtggdljhmbckpmaaGreat
open Go Go.RowKit
attribute [local semireducible] T TC En PW GW OW CallsK CallsP Sl Rd Ls At S TA
section
variable {P : Program} {w0 : World} {E : List Value} {H : List Hp} {R : List MP} {ty : TypeId} {K : Value → List Hp → List MP → Prop}
theorem qV (s : ByteArray) : Lib.strCells s = bA s.data.toList := rfl
theorem sC {t u e : TypeId} {x y : Operand} (i : Nat) {n : Nat} {cs : List Value} {v : Value} {s : ByteArray} [h : TyL P t e 1 1 [.int .u8 0]] [hu : TyU P u .string] (hx : ev E x = v) (hy : ev E y = .string s) (hi : H[i]? = some (.row v e 1 n cs)) (hnm : n + s.size ≤ 140737488355328)
    (kk : ∀ v', K v' (H.set i (.row v' e 1 (n + s.size) (cs ++ bA s.data.toList))) R) : GW P w0 E (.call ⟨.builtin .append, #[x, y], #[t, u]⟩) ty H R K := fun w hw => by
  obtain ⟨ti, z, hti, e1, e2, e3, e4, hna⟩ := h.info
  have hz : ti.zero = some (.int .u8 0) := by
    rw [e3]
    congr 1
    cases z with
    | agg c => exact absurd rfl (hna rfl c)
    | _ => first | (simp [Value.cells] at e4; done) | simpa [Value.cells] using e4
  have hrow : w.ownsRow w0.heap.size e 1 v n cs := by
    obtain ⟨s, hok⟩ := hw
    exact (hok.hp _ (List.mem_of_getElem? hi)).1
  have hbase : w0.heap.size ≤ w.heap.size := hw.below.size
  obtain ⟨v', w', hr, ho, hg, hnil⟩ := Lib.run_append_own_string (P := P) w w0.heap.size t u ty e ti h.und hu.und hti hz e1 e2 v n cs hrow s (by simp only [maxLen]; omega) hnm hbase
  have hxl : cs.length = n := by simpa using hrow.1
  have hb : v'.ownBlock = none ∨ v'.ownBlock = v.ownBlock ∨ ∃ b, v'.ownBlock = some b ∧ w.heap.size ≤ b := by
    rcases hrow.2 with ⟨rfl, rfl⟩ | ⟨g, cap, cur, rfl, hbg, hgc, hnc, hcm, hcs, htake⟩
    · by_cases hm : s.size = 0
      · rw [hnil.2 ⟨rfl, hm⟩]; exact .inl rfl
      · have hr2 := run_append_nil_string (P := P) w t u ty e ti (.int .u8 0) h.und hu.und hti hz s (by omega) (by omega) (by rw [e2]; omega)
        rw [hr] at hr2
        injection hr2 with hv _
        exact .inr (.inr ⟨w.heap.size, by rw [hv]; rfl, Nat.le_refl _⟩)
    · by_cases hroom : n + s.size ≤ cap
      · have hcs' : cur.size = cap := by simpa using hcs
        have hr2 := Lib.run_append_room_string (P := P) w t u ty e ti h.und hu.und hti e1 g n cap cur hgc s hroom (by omega)
        rw [hr] at hr2
        injection hr2 with hv _
        exact .inr (.inl (by rw [hv]; rfl))
      · have holds : ∀ j u, cs[j]? = some u → w.cell? ((⟨g, 0, none⟩ : Addr).add j) = some u := hrow.cells (g := g) rfl
        have hr2 := Lib.run_append_grow_string (P := P) w t u ty e ti (.int .u8 0) h.und hu.und hti hz ⟨g, 0, none⟩ n cap cs (by rw [e1]; simpa using hxl) holds s (by omega) (by omega) (by rw [e2]; exact growslice_fits (by omega) (by omega))
        rw [hr] at hr2
        injection hr2 with hv _
        exact .inr (.inr ⟨w.heap.size, by rw [hv]; rfl, Nat.le_refl _⟩)
  rw [qV] at ho
  exact ⟨v', w', _, _, .inl (by simp [lR, execOp, resolve, invoke, builtin, hx, hy, hr]), hw.grow hi hg ho hb, kk v'⟩
end
end Go.Proofs.YtggdljhmbckpmaaGreat
namespace Go.Proofs.YtggdljhmbckpmaaGreat
open Go Go.RowKit
set_option maxRecDepth 100000
set_option maxHeartbeats 3200000

theorem mO {w0 : World} (bw : Nat) (b : Bool) : Wf Tryz.prog w0 [] 32 [.pointer (some ⟨bw, 0, none⟩), .bool b] bw (gN b) := by
  intro H R K bs v _ hb hk
  have hb1 : bs.length + 1 ≤ 1000000000 := hb
  refine bX Tryz.func32 rfl Tryz.ntmps32 eZ ?_
  cases b
  · skip
    repeat' (first | (refine bG rfl rfl ?_; refine cY 1 0 (news := [eP 0]) rfl rfl rfl rfl (by decide) rfl (by simp [eP, Value.oneCell']) (by omega) (by omega) (fun v2 => ?_); refine aB ?_; refine cA ?_; refine gA 1 rfl (fun A9 c9 hv9 => ?_); subst hv9) | (apply aF) | (apply aA) | (apply aI; exact rfl) | (apply aG) | (apply aD) | (apply aP; exact rfl; ((refine aM (i := 1) rfl rfl rfl ?_)); refine aB ?_) | (apply bD; exact rfl; ((refine aO (i := 2) rfl cW rfl (by rfl) (by simp) (by simp [Value.oneCell']) ?_)); refine aB ?_; refine cA ?_) | (refine aE rfl rfl ?_; ((first | refine aH ?_ | refine aW rfl ?_ | refine aC rfl ?_)); refine aB ?_) | (refine bG rfl rfl ?_; ((refine bH (by decide) fD rfl (fun b => ?_))); refine aB ?_))
    exact bC (.inr rfl) (fV rfl) (cG (.row (.slice A9 (bs.length + 1) c9) 5 1 (bs ++ [0]).length (bA (bs ++ [0])) :: .blk bw [.slice A9 (bs.length + 1) c9] 90 :: H) R (fun w hs => by rw [fE, List.length_append]; exact hs.weaken bU cZ) (hk (bs ++ [0]) _ (Wt.all bs [0])))
  · skip
    repeat' (first | (refine bG rfl rfl ?_; refine cY 1 0 (news := [eP 1]) rfl rfl rfl rfl (by decide) rfl (by simp [eP, Value.oneCell']) (by omega) (by omega) (fun v2 => ?_); refine aB ?_; refine cA ?_; refine gA 1 rfl (fun A9 c9 hv9 => ?_); subst hv9) | (apply aF) | (apply aA) | (apply aK; exact rfl) | (apply aG) | (apply aD) | (apply aP; exact rfl; ((refine aM (i := 1) rfl rfl rfl ?_)); refine aB ?_) | (apply bD; exact rfl; ((refine aO (i := 2) rfl cW rfl (by rfl) (by simp) (by simp [Value.oneCell']) ?_)); refine aB ?_; refine cA ?_) | (refine aE rfl rfl ?_; ((first | refine aH ?_ | refine aW rfl ?_ | refine aC rfl ?_)); refine aB ?_) | (refine bG rfl rfl ?_; ((refine bH (by decide) fD rfl (fun b => ?_))); refine aB ?_))
    exact bC (.inr rfl) (fV rfl) (cG (.row (.slice A9 (bs.length + 1) c9) 5 1 (bs ++ [1]).length (bA (bs ++ [1])) :: .blk bw [.slice A9 (bs.length + 1) c9] 90 :: H) R (fun w hs => by rw [fE, List.length_append]; exact hs.weaken bU cZ) (hk (bs ++ [1]) _ (Wt.all bs [1])))
theorem xQ {w0 : World} {H : List Hp} {R : List MP} {K : Value → List Hp → List MP → Prop} (bw : Nat) (bs : List UInt8) (v : Value) (hb : bs.length ≤ 1000000000)
    (k : K (.bool (decide (250000 < bs.length))) (.row v 5 1 bs.length (bA bs) :: .blk bw [v] 90 :: H) R) : CallsK Tryz.prog w0 35 #[.pointer (some ⟨bw, 0, none⟩)] (.row v 5 1 bs.length (bA bs) :: .blk bw [v] 90 :: H) R K := by
  refine bX Tryz.func35 rfl Tryz.ntmps35 eZ ?_
  refine oL 0 rfl (fun A1 c1 hv => ?_)
  subst hv
  repeat' (first | (apply aF) | (apply aA) | (apply bN) | (apply aG) | (apply aD) | (apply aP; exact rfl; ((refine aM (i := 1) rfl rfl rfl ?_)); refine aB ?_) | (apply aU; exact rfl; ((refine fF rfl rfl (fun h => ?_) (fun h => ?_))) <;> (refine aB ?_)) | (refine aE rfl rfl ?_; ((first | refine aH ?_ | refine aX ?_ | refine aW rfl ?_ | refine aC rfl ?_ | refine bQ rfl ?_)); refine aB ?_))
  · have e : decide (250000 < bs.length) = true := by simpa using (by omega : 250000 < bs.length)
    rw [e] at k
    exact bC (.inl rfl) (dM rfl (bS rfl)) (cG _ R (fun w hs => hs) k)
  · have e : decide (250000 < bs.length) = false := by simpa using (by omega : bs.length ≤ 250000)
    rw [e] at k
    exact bC (.inl rfl) (dM rfl (bS rfl)) (cG _ R (fun w hs => hs) k)
theorem tN {w0 : World} (bw : Nat) (s : ByteArray) : Wf Tryz.prog w0 [] 130 [.pointer (some ⟨bw, 0, none⟩), .string s] bw (gY s) := by
  intro H R K bs v _ hb hk
  have hsl : s.data.toList.length = s.size := rfl
  have hl : (gY s).length = (cL s.size).length + s.size := by rw [gY, List.length_append, hsl]
  rw [hl] at hb
  refine bX Tryz.func130 rfl Tryz.ntmps130 eZ ?_
  repeat' (first | (apply aF) | (apply aA) | (refine aE rfl rfl ?_; ((first | refine aH ?_ | refine kK rfl ?_)); refine aB ?_))
  refine eK rfl rfl (cX bw s.size (by simp only [dD]; omega)) (fun _ h => (by cases h)) rfl rfl (by omega) (fun bs1 v1 h1 => ?_)
  refine aB ?_
  have h1l := h1.2.1
  repeat' (first | (refine bG rfl rfl ?_; refine sC 0 rfl rfl rfl (by omega) (fun v2 => ?_); refine aB ?_; refine cA ?_; refine gA 0 rfl (fun A9 c9 hv9 => ?_); subst hv9) | (apply aA) | (apply aG) | (apply aD) | (apply aP; exact rfl; ((refine aM (i := 1) rfl rfl rfl ?_)); refine aB ?_) | (apply bD; exact rfl; ((refine aO (i := 1) rfl cW rfl (by rfl) (by simp) (by simp [Value.oneCell']) ?_)); refine aB ?_; refine cA ?_) | (refine aE rfl rfl ?_; ((first | refine aH ?_ | refine aW rfl ?_ | refine aC rfl ?_)); refine aB ?_))
  refine bC (.inr rfl) (fV rfl) (cG (.row (.slice A9 (bs1.length + s.size) c9) 5 1 (bs1 ++ s.data.toList).length (bA (bs1 ++ s.data.toList)) :: .blk bw [.slice A9 (bs1.length + s.size) c9] 90 :: H) R (fun w hs => ?_) (hk (bs1 ++ s.data.toList) _ (h1.trans (Wt.all bs1 s.data.toList))))
  rw [fE, List.length_append]
  exact hs.weaken bU cZ
theorem jK {w0 : World} (bw : Nat) (A : Option Addr) (c : Nat) (xs : List Int) (hx : xs.length ≤ 9223372036854775807) : Wf Tryz.prog w0 [Sl (.slice A xs.length c) xs] 33 [.pointer (some ⟨bw, 0, none⟩), .slice A xs.length c] bw (fY xs) := by
  intro H R K bs v hsub hb hk
  have hm : Sl (.slice A xs.length c) xs ∈ R := hsub _ (by simp)
  rw [fY, List.length_append] at hb
  refine bX Tryz.func33 rfl Tryz.ntmps33 eZ ?_
  repeat' (first | (apply aF) | (apply aA) | (refine aE rfl rfl ?_; ((first | refine aH ?_ | refine bQ rfl ?_)); refine aB ?_))
  refine eK rfl rfl (cX bw xs.length (by simp only [dD]; omega)) (fun _ h => (by cases h)) rfl rfl (by omega) (fun bs1 v1 h1 => ?_)
  refine aB ?_
  have h1l := h1.2.1
  repeat' (first | (apply aF) | (apply aA) | (apply aT) | (apply aG) | (apply aD) | (refine aE rfl rfl ?_; ((refine aX ?_)); refine aB ?_))
  refine cK [4, 9, 10, 11, 12, 13, 14, 15, 16, 17, 18, 19, 20] (fun m j H2 R2 => ∃ (i : Nat) (bs' : List UInt8) (v' : Value), i + m = xs.length ∧ j 4 = .int .i64 (i : Int) ∧ (∀ p ∈ R, p ∈ R2) ∧ H2 = .row v' 5 1 bs'.length (bA bs') :: .blk bw [v'] 90 :: H ∧ Wt bs1 ((xs.take i).flatMap cL) bs') xs.length eE ⟨0, bs1, v1, by omega, rfl, fun _ h => h, rfl, Wt.nil bs1⟩ ?_
  rintro m j' H2 R2 ⟨i, bs', v', him, h4, hR2, hH2, hW⟩
  subst hH2
  have hm2 := hR2 _ hm
  refine cQ (by simp only [dX, List.foldl_cons, List.foldl_nil, List.set_cons_succ, List.set_cons_zero, h4]; rfl) ?_
  rcases Nat.lt_or_ge i xs.length with hlt | hge
  · have ht : (xs.take (i + 1)).flatMap cL = (xs.take i).flatMap cL ++ cL xs[i] := by rw [List.take_succ_eq_append_getElem hlt, List.flatMap_append, List.flatMap_cons, List.flatMap_nil, List.append_nil]
    have hle : ((xs.take (i + 1)).flatMap cL).length ≤ (xs.flatMap cL).length := by
      conv => rhs; rw [← List.take_append_drop (i + 1) xs, List.flatMap_append, List.length_append]
      omega
    rw [ht, List.length_append] at hle
    have hWl := hW.2.1
    repeat' (first | (apply aF) | (apply aA) | (apply aT) | (apply bE) | (apply aK; exact rfl) | (apply aG) | (apply aD) | (apply aP; exact rfl; ((refine aZ rfl cJ rfl ?_)); refine aB ?_) | (apply aU; exact rfl; ((refine bM rfl rfl (fun h => ?_) (fun h => ?_))) <;> (first | (exfalso; omega) | refine aB ?_)) | (apply gL; exact rfl; ((refine hX eJ rfl aV (List.getElem?_eq_getElem (by omega)) (fun b o hI => ?_))); refine aB ?_) | (refine aE rfl rfl ?_; ((first | refine aH ?_ | refine bQ rfl ?_)); refine aB ?_))
    refine eK rfl rfl (cX bw xs[i] hI) (fun _ h => (by cases h)) rfl rfl (by omega) (fun bs2 v2 h2 => ?_)
    refine aB ?_
    repeat' (first | (apply aA) | (apply aG) | (apply aD) | (apply bP) | (apply aU; exact rfl; ((refine bI rfl rfl (by omega) (by omega) ?_)); refine aB ?_) | (refine aE rfl rfl ?_; ((first | refine aH ?_ | refine aX ?_)); refine aB ?_))
    exact cE (m - 1) (.row v2 5 1 bs2.length (bA bs2) :: .blk bw [v2] 90 :: H) R2 (by omega) eE ⟨i + 1, bs2, v2, by omega, rfl, hR2, rfl, by rw [ht]; exact hW.trans h2⟩ (fun w hs => hs.weaken bU cZ)
  · rw [List.take_of_length_le hge] at hW
    repeat' (first | (apply aF) | (apply aA) | (apply bV) | (apply aI; exact rfl) | (apply aG) | (apply aD) | (apply aS) | (apply aR) | (apply aU; exact rfl; ((refine bM rfl rfl (fun h => ?_) (fun h => ?_))) <;> (first | (exfalso; omega) | refine aB ?_)) | (refine aE rfl rfl ?_; ((first | refine aH ?_ | refine bQ rfl ?_)); refine aB ?_))
    exact bC (.inr rfl) (fV rfl) (cG (.row v' 5 1 bs'.length (bA bs') :: .blk bw [v'] 90 :: H) R (fun w hs => hs.weaken bU hR2) (hk bs' v' (h1.trans hW)))
end Go.Proofs.YtggdljhmbckpmaaGreat
