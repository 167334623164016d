/- A state written: walk, printed by gen_state.py. Encode of the zero state: walk. Do, Crash, Read: walks. -/
import Derived.Test.YtggdljhmbckpmaaGreatE3
import Derived.Test.YtggdljhmbckpmaaGreatE3bJ
import Derived.Test.YtggdljhmbckpmaaGreatE6J
import Derived.Test.YtggdljhmbckpmaaGreatF3J
set_option linter.unusedVariables false
set_option linter.unusedSimpArgs false
namespace Go.Proofs.YtggdljhmbckpmaaGreat
open Go Go.RowKit
set_option maxRecDepth 100000
set_option maxHeartbeats 1600000

theorem zW {w0 : World} (bw : Nat) {αF : Type} [Rep αF] [Unp αF] {αB : Type} [Rep αB] [Unp αB] {αS : Type} [Rep αS] [Unp αS] {αV : Type} [Rep αV] [Unp αV] {αT : Type} [Rep αT] [Unp αT] {αC : Type} [Rep αC] [Unp αC] (mode at_ frame bracket scope pars steps : Int) (lax : Bool) (hI : ∀ x ∈ [mode, at_, frame, bracket, scope, pars], dO x) (hIs : dO steps) (A1 : Option Addr) (c1 : Nat) (there : List Int) (h1 : there.length ≤ 9223372036854775807) (A2 : Option Addr) (c2 : Nat) (gone : List Int) (h2 : gone.length ≤ 9223372036854775807)
    (hszF : Rep.size αF = 5) (hclF : ∀ (x : αF) y, (Unp.cs x y).length = 5) (hcoF : ∀ (x : αF) y, ∀ u ∈ Unp.cs x y, u.oneCell' = true) (AF : Option Addr) (cF : Nat) (lF : List αF) (hlF : lF.length ≤ 9223372036854775807) (oF : αF → List UInt8)
    (hF : ∀ x ∈ lF, ∀ y, Unp.ok x y → Wr Tryz.prog w0 (Unp.fs x y) 70 [.pointer (some ⟨bw, 0, none⟩), .agg (Unp.cs x y).toArray] bw (oF x))
    (hszB : Rep.size αB = 7) (hclB : ∀ (x : αB) y, (Unp.cs x y).length = 7) (hcoB : ∀ (x : αB) y, ∀ u ∈ Unp.cs x y, u.oneCell' = true) (AB : Option Addr) (cB : Nat) (lB : List αB) (hlB : lB.length ≤ 9223372036854775807) (oB : αB → List UInt8)
    (hB : ∀ x ∈ lB, ∀ y, Unp.ok x y → Wr Tryz.prog w0 (Unp.fs x y) 72 [.pointer (some ⟨bw, 0, none⟩), .agg (Unp.cs x y).toArray] bw (oB x))
    (hszS : Rep.size αS = 7) (hclS : ∀ (x : αS) y, (Unp.cs x y).length = 7) (hcoS : ∀ (x : αS) y, ∀ u ∈ Unp.cs x y, u.oneCell' = true) (AS : Option Addr) (cS : Nat) (lS : List αS) (hlS : lS.length ≤ 9223372036854775807) (oS : αS → List UInt8)
    (hS : ∀ x ∈ lS, ∀ y, Unp.ok x y → Wr Tryz.prog w0 (Unp.fs x y) 74 [.pointer (some ⟨bw, 0, none⟩), .agg (Unp.cs x y).toArray] bw (oS x))
    (hszV : Rep.size αV = 8) (hclV : ∀ (x : αV) y, (Unp.cs x y).length = 8) (hcoV : ∀ (x : αV) y, ∀ u ∈ Unp.cs x y, u.oneCell' = true) (AV : Option Addr) (cV : Nat) (lV : List αV) (hlV : lV.length ≤ 9223372036854775807) (oV : αV → List UInt8)
    (hV : ∀ x ∈ lV, ∀ y, Unp.ok x y → Wr Tryz.prog w0 (Unp.fs x y) 76 [.pointer (some ⟨bw, 0, none⟩), .agg (Unp.cs x y).toArray] bw (oV x))
    (hszT : Rep.size αT = 9) (hclT : ∀ (x : αT) y, (Unp.cs x y).length = 9) (hcoT : ∀ (x : αT) y, ∀ u ∈ Unp.cs x y, u.oneCell' = true) (AT : Option Addr) (cT : Nat) (lT : List αT) (hlT : lT.length ≤ 9223372036854775807) (oT : αT → List UInt8)
    (hT : ∀ b2 : Nat, ∀ x ∈ lT, ∀ y, Unp.ok x y → Wr Tryz.prog w0 (Unp.fs x y ++ [At b2 0 [.pointer (some ⟨bw, 0, none⟩)]]) 78 [.agg (Unp.cs x y).toArray, .pointer (some ⟨b2, 0, none⟩)] bw (oT x))
    (hszC : Rep.size αC = 18) (hclC : ∀ (x : αC) y, (Unp.cs x y).length = 18) (hcoC : ∀ (x : αC) y, ∀ u ∈ Unp.cs x y, u.oneCell' = true) (AC : Option Addr) (cC : Nat) (lC : List αC) (hlC : lC.length ≤ 9223372036854775807) (oC : αC → List UInt8)
    (hC : ∀ x ∈ lC, ∀ y, Unp.ok x y → Wr Tryz.prog w0 (Unp.fs x y) 81 [.pointer (some ⟨bw, 0, none⟩), .agg (Unp.cs x y).toArray] bw (oC x)) :
    Wr Tryz.prog w0 [Sl (.slice A1 there.length c1) there, Sl (.slice A2 gone.length c2) gone, Sl (.slice AF lF.length cF) lF, Sl (.slice AB lB.length cB) lB, Sl (.slice AS lS.length cS) lS, Sl (.slice AV lV.length cV) lV, Sl (.slice AT lT.length cT) lT, Sl (.slice AC lC.length cC) lC] 30 [.pointer (some ⟨bw, 0, none⟩), .agg #[.int .i64 mode, .int .i64 at_, .int .i64 frame, .int .i64 bracket, .int .i64 scope, .int .i64 pars, .bool lax, .slice A1 there.length c1, .slice A2 gone.length c2, .slice AF lF.length cF, .slice AB lB.length cB, .slice AS lS.length cS, .slice AV lV.length cV, .slice AT lT.length cT, .slice AC lC.length cC, .int .i64 steps]] bw ([mode, at_, frame, bracket, scope, pars].flatMap dA ++ (iI lax ++ (hY there ++ (hY gone ++ ((dA lF.length ++ lF.flatMap oF) ++ ((dA lB.length ++ lB.flatMap oB) ++ ((dA lS.length ++ lS.flatMap oS) ++ ((dA lV.length ++ lV.flatMap oV) ++ ((dA lT.length ++ lT.flatMap oT) ++ ((dA lC.length ++ lC.flatMap oC) ++ (dA steps))))))))))) := by
  intro H R K KP bs v hsub hb hk hp
  simp only [List.length_append] at hp
  refine dE Tryz.func30 rfl Tryz.ntmps30 fI ?_
  apply aF; apply aA
  repeat' ((refine bJ rfl rfl ?_; ((refine dX cW (fun b => ?_))); refine aB ?_))
  apply aH; apply aD
  rename_i b2
  refine fO 0 rfl ?_
  refine fO 0 rfl ?_
  refine jB tH ?_
  have hS1 : Sl (.slice A1 there.length c1) there ∈ R := hsub _ dB
  have hS2 : Sl (.slice A2 gone.length c2) gone ∈ R := hsub _ dB
  have hSF : Sl (.slice AF lF.length cF) lF ∈ R := hsub _ dB
  have hSB : Sl (.slice AB lB.length cB) lB ∈ R := hsub _ dB
  have hSS : Sl (.slice AS lS.length cS) lS ∈ R := hsub _ dB
  have hSV : Sl (.slice AV lV.length cV) lV ∈ R := hsub _ dB
  have hST : Sl (.slice AT lT.length cT) lT ∈ R := hsub _ dB
  have hSC : Sl (.slice AC lC.length cC) lC ∈ R := hsub _ dB
  clear hsub
  repeat' (first | (apply aF) | (apply aA) | (apply aP; exact rfl; ((first | refine aQ rfl cL rfl ?_ | refine bD rfl cL rfl ?_)); refine aB ?_) | (refine aE rfl rfl ?_; ((refine aC rfl ?_)); refine aB ?_) | (refine bJ rfl rfl ?_; ((refine bK cQ fP rfl (fun b => ?_))); refine aB ?_))
  refine nX [mode, at_, frame, bracket, scope, pars] rfl hI dB ?_
  repeat' (fail)
  refine fV rfl rfl (kC bw (some ⟨b, 0, none⟩) 6 [mode, at_, frame, bracket, scope, pars] dB) (bT List.mem_cons_self (fun _ h => (by cases h))) rfl rfl hb (fun hle0 v0 => ?_) (fun hgt => ?_)
  rotate_left
  · skip
    repeat' ((apply aM))
    exact aR (cN H R dV (hp (by (omega))))
  refine aB ?_
  repeat' (first | (apply aF) | (apply aA) | (apply aH) | (apply aD) | (apply aP; exact rfl; ((first | refine aQ rfl cL rfl ?_ | refine bD rfl cL rfl ?_)); refine aB ?_) | (refine aE rfl rfl ?_; ((refine aC rfl ?_)); refine aB ?_))
  refine fV rfl rfl (qU bw lax) (fun _ h => (by cases h)) rfl rfl (by rw [List.length_append]; exact hle0) (fun hle1 v1 => ?_) (fun hgt => ?_)
  rotate_left
  · skip
    repeat' ((apply aM))
    exact aR (cN H R dV (hp (by ((simp only [List.length_append] at hgt ⊢; omega)))))
  refine aB ?_
  repeat' (first | (apply aF) | (apply aA) | (apply aH) | (apply aD) | (apply aP; exact rfl; ((first | refine aQ rfl cL rfl ?_ | refine bD rfl cL rfl ?_)); refine aB ?_) | (refine aE rfl rfl ?_; ((refine aC rfl ?_)); refine aB ?_))
  refine fV rfl rfl (rU bw A1 c1 there h1) (bT aX (fun _ h => (by cases h))) rfl rfl (by rw [List.length_append]; exact hle1) (fun hle2 v2 => ?_) (fun hgt => ?_)
  rotate_left
  · skip
    repeat' ((apply aM))
    exact aR (cN H R dV (hp (by ((simp only [List.length_append] at hgt ⊢; omega)))))
  refine aB ?_
  repeat' (first | (apply aF) | (apply aA) | (apply aH) | (apply aD) | (apply aP; exact rfl; ((first | refine aQ rfl cL rfl ?_ | refine bD rfl cL rfl ?_)); refine aB ?_) | (refine aE rfl rfl ?_; ((refine aC rfl ?_)); refine aB ?_))
  refine fV rfl rfl (rU bw A2 c2 gone h2) (bT aX (fun _ h => (by cases h))) rfl rfl (by rw [List.length_append]; exact hle2) (fun hle3 v3 => ?_) (fun hgt => ?_)
  rotate_left
  · skip
    repeat' ((apply aM))
    exact aR (cN H R dV (hp (by ((simp only [List.length_append] at hgt ⊢; omega)))))
  refine aB ?_
  repeat' (first | (apply aF) | (apply aA) | (apply aH) | (apply aD) | (apply aP; exact rfl; ((first | refine aQ rfl cL rfl ?_ | refine bD rfl cL rfl ?_)); refine aB ?_) | (refine aE rfl rfl ?_; ((first | refine aC rfl ?_ | refine cR iE iE ?_)); refine aB ?_))
  refine fV rfl rfl (put67_w hszF hclF hcoF bw AF cF lF 70 [.pointer (some ⟨bw, 0, none⟩)] [] oF [] hlF (fun x hx y hy => by rw [List.append_nil]; exact hF x hx y hy)) (bT aX (fun _ h => (by cases h))) rfl rfl (by rw [List.length_append]; exact hle3) (fun hle4 v4 => ?_) (fun hgt => ?_)
  rotate_left
  · skip
    repeat' ((apply aM))
    exact aR (cN H R dV (hp (by ((simp only [List.length_append] at hgt ⊢; omega)))))
  refine aB ?_
  repeat' (first | (apply aF) | (apply aA) | (apply aH) | (apply aD) | (apply aP; exact rfl; ((first | refine aQ rfl cL rfl ?_ | refine bD rfl cL rfl ?_)); refine aB ?_) | (refine aE rfl rfl ?_; ((first | refine aC rfl ?_ | refine cR iE iE ?_)); refine aB ?_))
  refine fV rfl rfl (put69_w hszB hclB hcoB bw AB cB lB 72 [.pointer (some ⟨bw, 0, none⟩)] [] oB [] hlB (fun x hx y hy => by rw [List.append_nil]; exact hB x hx y hy)) (bT aX (fun _ h => (by cases h))) rfl rfl (by rw [List.length_append]; exact hle4) (fun hle5 v5 => ?_) (fun hgt => ?_)
  rotate_left
  · skip
    repeat' ((apply aM))
    exact aR (cN H R dV (hp (by ((simp only [List.length_append] at hgt ⊢; omega)))))
  refine aB ?_
  repeat' (first | (apply aF) | (apply aA) | (apply aH) | (apply aD) | (apply aP; exact rfl; ((first | refine aQ rfl cL rfl ?_ | refine bD rfl cL rfl ?_)); refine aB ?_) | (refine aE rfl rfl ?_; ((first | refine aC rfl ?_ | refine cR iE iE ?_)); refine aB ?_))
  refine fV rfl rfl (put71_w hszS hclS hcoS bw AS cS lS 74 [.pointer (some ⟨bw, 0, none⟩)] [] oS [] hlS (fun x hx y hy => by rw [List.append_nil]; exact hS x hx y hy)) (bT aX (fun _ h => (by cases h))) rfl rfl (by rw [List.length_append]; exact hle5) (fun hle6 v6 => ?_) (fun hgt => ?_)
  rotate_left
  · skip
    repeat' ((apply aM))
    exact aR (cN H R dV (hp (by ((simp only [List.length_append] at hgt ⊢; omega)))))
  refine aB ?_
  repeat' (first | (refine aP rfl ?_; refine aQ (o := 0) (q := 12) rfl aX rfl ?_; refine aB ?_) | (apply aF) | (apply aA) | (apply aH) | (apply aD) | (apply aP; exact rfl; ((refine bD rfl cL rfl ?_)); refine aB ?_) | (refine aE rfl rfl ?_; ((first | refine aC rfl ?_ | refine cR iE iE ?_)); refine aB ?_))
  refine fV rfl rfl (put73_w hszV hclV hcoV bw AV cV lV 76 [.pointer (some ⟨bw, 0, none⟩)] [] oV [] hlV (fun x hx y hy => by rw [List.append_nil]; exact hV x hx y hy)) (bT aX (fun _ h => (by cases h))) rfl rfl (by rw [List.length_append]; exact hle6) (fun hle7 v7 => ?_) (fun hgt => ?_)
  rotate_left
  · skip
    repeat' ((apply aM))
    exact aR (cN H R dV (hp (by ((simp only [List.length_append] at hgt ⊢; omega)))))
  refine aB ?_
  repeat' (first | (apply aF) | (apply aA) | (apply aH) | (apply aD) | (apply aP; exact rfl; ((first | refine aQ rfl cL rfl ?_ | refine bD rfl cL rfl ?_)); refine aB ?_) | (refine aE rfl rfl ?_; ((first | refine aC rfl ?_ | refine cR iE iE ?_)); refine aB ?_))
  refine fV rfl rfl (put75_w hszT hclT hcoT bw AT cT lT 78 [] [.pointer (some ⟨b2, 0, none⟩)] oT [At b2 0 [.pointer (some ⟨bw, 0, none⟩)]] hlT (fun x hx y hy => hT b2 x hx y hy)) (bT aX (bT aX (fun _ h => (by cases h)))) rfl rfl (by rw [List.length_append]; exact hle7) (fun hle8 v8 => ?_) (fun hgt => ?_)
  rotate_left
  · skip
    repeat' ((apply aM))
    exact aR (cN H R dV (hp (by ((simp only [List.length_append] at hgt ⊢; omega)))))
  refine aB ?_
  repeat' (first | (apply aF) | (apply aA) | (apply aH) | (apply aD) | (apply aP; exact rfl; ((first | refine aQ rfl cL rfl ?_ | refine bD rfl cL rfl ?_)); refine aB ?_) | (refine aE rfl rfl ?_; ((first | refine aC rfl ?_ | refine cR iE iE ?_)); refine aB ?_))
  refine fV rfl rfl (put78_w hszC hclC hcoC bw AC cC lC 81 [.pointer (some ⟨bw, 0, none⟩)] [] oC [] hlC (fun x hx y hy => by rw [List.append_nil]; exact hC x hx y hy)) (bT aX (fun _ h => (by cases h))) rfl rfl (by rw [List.length_append]; exact hle8) (fun hle9 v9 => ?_) (fun hgt => ?_)
  rotate_left
  · skip
    repeat' ((apply aM))
    exact aR (cN H R dV (hp (by ((simp only [List.length_append] at hgt ⊢; omega)))))
  refine aB ?_
  repeat' (first | (apply aA) | (apply aH) | (apply aD) | (apply aP; exact rfl; ((first | refine aQ rfl cL rfl ?_ | refine bD rfl cL rfl ?_)); refine aB ?_) | (refine aE rfl rfl ?_; ((refine aC rfl ?_)); refine aB ?_))
  refine fV rfl rfl (gH bw steps hIs) (fun _ h => (by cases h)) rfl rfl (by rw [List.length_append]; exact hle9) (fun hle10 v10 => ?_) (fun hgt => ?_)
  rotate_left
  · skip
    repeat' (fail)
    exact aR (cN H R dV (hp (by ((simp only [List.length_append] at hgt ⊢; omega)))))
  refine aB ?_
  repeat' ((apply aH))
  refine aZ (.inr rfl) (gQ rfl) (fG _ R (fun w hs => ?_) (hk (by simp only [List.length_append] at hle10 ⊢; omega) v10))
  simp only [List.append_assoc] at hs ⊢
  exact hs.weaken eB hP
end Go.Proofs.YtggdljhmbckpmaaGreat
namespace Go.Proofs.YtggdljhmbckpmaaGreat
open Go Go.RowKit
set_option maxRecDepth 100000
set_option maxHeartbeats 1600000

theorem wX {P : Program} {w0 : World} {f : FuncId} {args : Array Value} {H : List Hp} {R : List MP} {K K' : Value → List Hp → List MP → Prop} (h : CallsK P w0 f args H R K') (hk : ∀ v H' R', K' v H' R' → ∃ H2 R2, (∀ w, S w0 w H' R' → S w0 w H2 R2) ∧ K v H2 R2) : CallsK P w0 f args H R K := by
  unfold CallsK at *
  exact fun w hs => (h w hs).mono (fun e w' ⟨v, H', R', e1, hs', k⟩ => by
    obtain ⟨H2, R2, h1, h2⟩ := hk v H' R' k
    exact ⟨v, H2, R2, e1, h1 w' hs', h2⟩)
structure Dum (n : Nat) where
  x : Unit
instance (n : Nat) : Rep (Dum n) := ⟨n, fun _ _ _ => False, fun _ h => h, fun h => h.elim, fun h => h.elim⟩
instance (n : Nat) : Unp (Dum n) := ⟨Unit, fun _ _ => List.replicate n (.int .i64 0), fun _ _ => False, fun _ _ => [], fun h => h.elim, fun h _ => h.elim⟩
theorem oM (n : Nat) (x : Dum n) (y : Unp.Y (Dum n)) : (Unp.cs x y).length = n := List.length_replicate
theorem oW (n : Nat) (x : Dum n) (y : Unp.Y (Dum n)) : ∀ u ∈ Unp.cs x y, u.oneCell' = true := fun u hu => by
  obtain ⟨_, rfl⟩ := List.mem_replicate.1 hu
  rfl
def encZ : List UInt8 := [109, 97, 1, 0, 0, 0, 0, 0, 0, 0, 0, 0, 0, 0, 0, 0, 0, 0, 0]
theorem p5 {w0 : World} {H : List Hp} {R : List MP} {K : Value → List Hp → List MP → Prop} (k : KB K (encZ, 0) H R) : CallsK Tryz.prog w0 7 #[.agg #[.int .i64 0, .int .i64 0, .int .i64 0, .int .i64 0, .int .i64 0, .int .i64 0, .bool false, .slice none 0 0, .slice none 0 0, .slice none 0 0, .slice none 0 0, .slice none 0 0, .slice none 0 0, .slice none 0 0, .slice none 0 0, .int .i64 0]] H R K := by
  refine iS (Sl (.slice none 0 0) ([] : List Int)) (fun s _ => kR Int s) ?_
  refine iS (Sl (.slice none 0 0) ([] : List (Dum 5))) (fun s _ => kR _ s) ?_
  refine iS (Sl (.slice none 0 0) ([] : List (Dum 7))) (fun s _ => kR _ s) ?_
  refine iS (Sl (.slice none 0 0) ([] : List (Dum 8))) (fun s _ => kR _ s) ?_
  refine iS (Sl (.slice none 0 0) ([] : List (Dum 9))) (fun s _ => kR _ s) ?_
  refine iS (Sl (.slice none 0 0) ([] : List (Dum 18))) (fun s _ => kR _ s) ?_
  refine wX (K' := fun v H' R' => ∃ A c, v = .tuple #[.slice A encZ.length c, .int .i64 0] ∧ H' = H ∧ R' = Sl (.slice A encZ.length c) encZ :: _) (xE [.int .i64 0, .int .i64 0, .int .i64 0, .int .i64 0, .int .i64 0, .int .i64 0, .bool false, .slice none 0 0, .slice none 0 0, .slice none 0 0, .slice none 0 0, .slice none 0 0, .slice none 0 0, .slice none 0 0, .slice none 0 0, .int .i64 0] _
    (fun bw => zW bw (αF := Dum 5) (αB := Dum 7) (αS := Dum 7) (αV := Dum 8) (αT := Dum 9) (αC := Dum 18) 0 0 0 0 0 0 0 false (by intro x hx; simp at hx; subst hx; simp [dO]) (by simp [dO]) none 0 [] dB none 0 [] dB
      rfl (oM 5) (oW 5) none 0 [] dB (fun _ => []) (fun x hx => by cases hx)
      rfl (oM 7) (oW 7) none 0 [] dB (fun _ => []) (fun x hx => by cases hx)
      rfl (oM 7) (oW 7) none 0 [] dB (fun _ => []) (fun x hx => by cases hx)
      rfl (oM 8) (oW 8) none 0 [] dB (fun _ => []) (fun x hx => by cases hx)
      rfl (oM 9) (oW 9) none 0 [] dB (fun _ => []) (fun b2 x hx => by cases hx)
      rfl (oM 18) (oW 18) none 0 [] dB (fun _ => []) (fun x hx => by cases hx)) rfl ?_ (fun A c => ⟨A, c, rfl, rfl, rfl⟩)) ?_
  · intro p hp
    simp only [List.mem_cons, List.not_mem_nil, or_false] at hp
    rcases hp with rfl | rfl | rfl | rfl | rfl | rfl | rfl | rfl <;> simp
  · rintro v H' R' ⟨A, c, rfl, rfl, rfl⟩
    exact ⟨H', Sl (.slice A encZ.length c) encZ :: R, fun w hs => hs.weaken eB (bT List.mem_cons_self (fun p hp => by simp [hp])), k A c⟩
end Go.Proofs.YtggdljhmbckpmaaGreat
namespace Go.Proofs.YtggdljhmbckpmaaGreat
open Go Go.RowKit
set_option maxRecDepth 100000
set_option maxHeartbeats 800000

/-- The operations, once they are known to be right. -/
def doL : List DO → Drive → Drive × Int
  | [], d => (d, 0)
  | x :: l, d => if x.kind = 2 then doL l ⟨gW d, []⟩ else if d.pending.length = 100 then (⟨[], []⟩, 2) else doL l ⟨d.bytes, d.pending ++ [⟨x.at_, x.data⟩]⟩
def doD (d : Drive) (l : List DO) : Drive × Int :=
  if eW d then (if l.all (jP d.bytes.length) then doL l d else (⟨[], []⟩, 1)) else (⟨[], []⟩, 301)
theorem xG {n : Nat} {x : DO} (h : jP n x = true) : x.data.length ≤ n ∧ (x.kind ≠ 2 → wOk n ⟨x.at_, x.data⟩ = true) := by
  unfold jP at h
  split at h
  · have := qS h
    exact ⟨by omega, fun _ => h⟩
  · split at h
    · have := of_decide_eq_true h
      exact ⟨by omega, fun h' => by contradiction⟩
    · cases h

theorem wN {d : Drive} {x : DW} (h : eW d = true) (hl : d.pending.length < 100) (hx : wOk d.bytes.length x = true) : eW ⟨d.bytes, d.pending ++ [x]⟩ = true := by
  unfold eW at *
  simp only [Bool.and_eq_true, decide_eq_true_eq, List.length_append, List.length_cons, List.length_nil, List.all_append, List.all_cons, List.all_nil, Bool.and_true] at *
  exact ⟨⟨h.1.1, by omega⟩, h.2, hx⟩
theorem do_k {w0 : World} {H : List Hp} {R : List MP} {K : Value → List Hp → List MP → Prop} (A0 : Option Addr) (c0 : Nat) (A2 : Option Addr) (c2 : Nat) (A3 : Option Addr) (c3 : Nat) (d : Drive) (l : List DO) (hb : d.bytes.length ≤ 9223372036854775807) (hp : d.pending.length ≤ 9223372036854775807) (hll : l.length ≤ 9223372036854775807)
    (hm : Sl (.slice A0 d.bytes.length c0) d.bytes ∈ R) (hm2 : Sl (.slice A2 d.pending.length c2) d.pending ∈ R) (hm3 : Sl (.slice A3 l.length c3) l ∈ R)
    (k : KD K (doD d l) H R) : CallsK Tryz.prog w0 65 #[dv A0 c0 A2 c2 d, .slice A3 l.length c3] H R K := by
  refine bV Tryz.func65 rfl Tryz.ntmps65 fI ?_
  repeat' (first | (refine dK rfl ?_; refine aT fA ?_; refine mA _ _ _ _ d hb hp hm hm2 ?_; refine aB ?_) | (apply aF) | (apply aA) | (apply bP) | (apply bF) | (apply aK; exact rfl) | (apply aJ; exact rfl) | (apply aH) | (apply aD) | (apply bN) | (apply aP; exact rfl; ((refine aL (i := 1) rfl rfl rfl ?_)); refine aB ?_) | (apply aU; exact rfl; ((refine eD rfl rfl (fun h => ?_) (fun h => ?_))) <;> (refine aB ?_)) | (apply bE; exact rfl; ((refine aN (i := 0) rfl cW rfl dT dB eK ?_)); refine aB ?_; refine cE ?_) | (refine aE rfl rfl ?_; ((first | refine aG ?_ | refine aY ?_ | refine cR iE iE ?_ | refine dI gG ?_)); refine aB ?_) | (refine bJ rfl rfl ?_; ((first | refine dX cW (fun b => ?_) | refine bL cW (fun b => ?_))); refine aB ?_))
  · refine aZ (.inl rfl) (iN rfl (dC (i := 0) rfl rfl rfl) (bR rfl)) (cA H _ (fun w hs => qC (hs.weaken dB (fun _ h => h))) ?_)
    have hc : eW d = false := by unfold iX at h; cases hc : eW d <;> simp_all
    have e : iX d = 301 := by unfold iX; rw [hc]; rfl
    rw [e]
    exact sC (r' := (⟨[], []⟩, 301)) (by unfold doD; rw [hc]; rfl) k none 0 none 0
  have hc : eW d = true := by unfold iX at h; cases hc : eW d <;> simp_all
  repeat' (first | (refine dK rfl ?_; refine aT fA ?_; refine zA 1 _ _ _ _ _ _ _ d l rfl hb hll hm3 (fun hB => ?_) (fun hB => ?_) <;> refine aB ?_) | (apply aF) | (apply aA) | (apply bP) | (apply bF) | (apply aK; exact rfl) | (apply aJ; exact rfl) | (apply aH) | (apply aD) | (apply bN) | (apply aP; exact rfl; ((refine aL (i := 1) rfl rfl rfl ?_)); refine aB ?_) | (apply bE; exact rfl; ((refine aN (i := 0) rfl cW rfl dT dB eK ?_)); refine aB ?_; refine cE ?_) | (refine aE rfl rfl ?_; ((first | refine aY ?_ | refine aC rfl ?_ | refine dI gG ?_)); refine aB ?_))
  · refine aZ (.inl rfl) (iN rfl (dC (i := 0) rfl rfl rfl) (bR rfl)) (cA H _ (fun w hs => qC (hs.weaken dB (fun _ h => h))) ?_)
    exact sC (r' := (⟨[], []⟩, 1)) (by unfold doD; rw [hc, hB]; rfl) k none 0 none 0
  obtain ⟨h64, hmax, hmod, h100, hw⟩ := fX hc
  have HW := Go.Lib.hid hw
  clear hw
  repeat' (first | (refine dK rfl ?_; refine aT fA ?_; refine oQ _ _ _ aO aX (fun v => ?_); refine aB ?_; refine hZ 0 rfl (fun A' c' hv => ?_); subst hv; refine cE ?_) | (apply aF) | (apply aA) | (apply aV) | (apply aH) | (apply aD) | (apply aP; exact rfl; ((refine aL (i := 2) rfl rfl rfl ?_)); refine aB ?_) | (apply bE; exact rfl; ((refine aN (i := 0) rfl cW rfl dT dB eK ?_)); refine aB ?_; refine cE ?_) | (refine aE rfl rfl ?_; ((first | refine aG ?_ | refine aC rfl ?_ | refine bS rfl ?_ | refine dI gG ?_)); refine aB ?_) | (refine bJ rfl rfl ?_; ((refine bL cW (fun b => ?_))); refine aB ?_))
  rename_i b2 b4
  have b7 : Nat := 0
  clear b7
  revert b
  intro b7
  refine mN 139 2 ?_
  refine qL (Cx [] ([] : List DW)) (fun s _ => gN s) ?_
  refine cM [9, 29, 30, 31, 32, 33, 34, 35, 36, 37, 38, 39, 40, 41, 42, 43] (fun m j H' R' => ∃ i : Nat, i + m = d.pending.length ∧ j 29 = .int .i64 i ∧ ∃ pv cs, (Cx cs (d.pending.take i) :: Sl (.slice A' d.bytes.length c') d.bytes :: R) = R' ∧
    (.row pv 139 2 i cs :: .blk b7 [.slice A' d.bytes.length c', pv] 51 :: .blk b4 [.slice none 0 0, .slice none 0 0] 51 :: .blk b2 [.slice A0 d.bytes.length c0, .slice A2 d.pending.length c2] 51 :: H) = H') d.pending.length eS ⟨0, by omega, rfl, _, [], rfl, rfl⟩ ?_
  rintro m j H' R' ⟨i, hi, h29, pv, cs, hR, hH⟩
  subst hH; subst hR
  refine dD (by simp only [eF, List.foldl_cons, List.foldl_nil, List.set_cons_succ, List.set_cons_zero, h29]; rfl) ?_
  repeat' (first | (apply aF) | (apply aA) | (apply aV) | (apply bF) | (apply cG) | (apply aK; exact rfl) | (apply aJ; exact rfl) | (apply aH) | (apply aD) | (apply aW) | (apply aS) | (apply aP; exact rfl; ((first | refine aL (i := 0) rfl rfl rfl ?_ | refine bD rfl cL rfl ?_)); refine aB ?_) | (apply aU; exact rfl; ((refine bQ rfl rfl (fun h => ?_) (fun h => ?_))) <;> (refine aB ?_)) | (apply gZ; exact rfl; ((refine iB eR rfl aX (List.getElem?_eq_getElem aO) (fun b o A c hI hL => ?_))); refine aB ?_) | (apply bE; exact rfl; ((refine aN (i := 0) rfl cW rfl dT dB eK ?_)); refine aB ?_; refine cE ?_) | (refine aE rfl rfl ?_; ((first | refine aG ?_ | refine aC rfl ?_ | refine bS rfl ?_)); refine aB ?_) | (refine bJ rfl rfl ?_; ((refine bL cW (fun b => ?_))); refine aB ?_))
  · have hwi : 0 ≤ d.pending[i].at_ ∧ d.pending[i].at_.toNat + d.pending[i].data.length ≤ d.bytes.length := HW.out i aO
    repeat' (first | (refine dK rfl ?_; refine aT fA ?_; refine oQ _ _ _ aO aX (fun v => ?_); refine aB ?_; refine hZ 0 rfl (fun A5 c5 hv => ?_); subst hv; refine cE ?_) | (apply aA) | (apply aH) | (apply aD) | (apply aP; exact rfl; ((first | refine aL (i := 0) rfl rfl rfl ?_ | refine aL (i := 2) rfl rfl rfl ?_)); refine aB ?_) | (apply bE; exact rfl; ((refine aN (i := 0) rfl cW rfl dT dB eK ?_)); refine aB ?_; refine cE ?_) | (refine aE rfl rfl ?_; ((refine aC rfl ?_)); refine aB ?_) | (refine bJ rfl rfl ?_; ((refine bK cQ fP rfl (fun b => ?_))); refine aB ?_))
    refine bJ rfl rfl ?_
    refine dF 2 0 rfl rfl rfl rfl cQ rfl eK aO aO (fun pv' => ?_)
    refine aB ?_; refine cE ?_
    refine gY 2 rfl (fun A6 c6 hv => ?_)
    subst hv
    refine iY (Cx (cs ++ [.int .i64 d.pending[i].at_, .slice A5 d.pending[i].data.length c5]) (d.pending.take i ++ [d.pending[i]])) (fun s hs => eZ (hs (Cx cs (d.pending.take i)) aX) ⟨A5, c5, rfl, hI, hs (Sl (.slice A5 d.pending[i].data.length c5) d.pending[i].data) aX⟩) ?_
    repeat' (first | (apply aA) | (apply aH) | (apply aD) | (apply bU) | (apply aU; exact rfl; ((refine bM rfl rfl aO aO ?_)); refine aB ?_) | (apply bE; exact rfl; ((refine aN (i := 3) rfl cW rfl dT dB eK ?_)); refine aB ?_; refine cE ?_) | (refine aE rfl rfl ?_; ((first | refine aG ?_ | refine aC rfl ?_)); refine aB ?_))
    refine cJ (m - 1) (.row (.slice A6 (i + 1) c6) 139 2 (i + 1) (cs ++ [.int .i64 d.pending[i].at_, .slice A5 d.pending[i].data.length c5]) :: .blk b7 [.slice A' d.bytes.length c', .slice A6 (i + 1) c6] 51 :: .blk b4 [.slice none 0 0, .slice none 0 0] 51 :: .blk b2 [.slice A0 d.bytes.length c0, .slice A2 d.pending.length c2] 51 :: H) (Cx (cs ++ [.int .i64 d.pending[i].at_, .slice A5 d.pending[i].data.length c5]) (d.pending.take (i + 1)) :: Sl (.slice A' d.bytes.length c') d.bytes :: R) aO eS ⟨i + 1, by omega, rfl, .slice A6 (i + 1) c6, _, rfl, rfl⟩ (fun w hs => hs.weaken eB (fun p hp => ?_))
    rw [List.take_succ_eq_append_getElem (show i < d.pending.length by omega)] at hp
    simp only [List.mem_cons] at hp ⊢
    rcases hp with hp | hp | hp
    · exact .inl hp
    · simp [hp]
    · simp [hp]
  have hie : i = d.pending.length := by omega
  subst hie
  refine rE 0 rfl (fun Ap cp hv => ?_)
  subst hv
  refine eJ _ (Cx cs d.pending :: Sl (.slice A' d.bytes.length c') d.bytes :: R) (fun w hs => hs.weaken (List.Sublist.refl _) (fun p hp => by rw [List.take_length]; exact hp)) ?_
  refine cM [5, 11, 46, 47, 48, 49, 50, 51, 52, 53, 54, 55, 56, 57, 58, 59, 60, 61, 62, 63, 64, 65, 66, 67, 68, 69, 70, 71, 72] (fun m j H' R' => ∃ i : Nat, i + m = l.length ∧ j 46 = .int .i64 i ∧ ∃ (cur : Drive) (Ap : Option Addr) (cp : Nat) (cs : List Value) (A' : Option Addr) (c' : Nat), doL l d = doL (l.drop i) cur ∧ cur.bytes.length = d.bytes.length ∧ eW cur = true ∧ (Cx cs cur.pending :: Sl (.slice A' cur.bytes.length c') cur.bytes :: R) = R' ∧
    (.row (.slice Ap cur.pending.length cp) 139 2 cur.pending.length cs :: .blk b7 [.slice A' cur.bytes.length c', .slice Ap cur.pending.length cp] 51 :: .blk b4 [.slice none 0 0, .slice none 0 0] 51 :: .blk b2 [.slice A0 d.bytes.length c0, .slice A2 d.pending.length c2] 51 :: H) = H') l.length eS ⟨0, by omega, rfl, d, Ap, cp, cs, A', c', rfl, rfl, hc, rfl, rfl⟩ ?_
  clear hi h29 h
  rintro m2 j2 H' R' ⟨i, hi, h46, cur, Ap, cp, cs, A', c', hdo, hcl, hcc, hR, hH⟩
  subst hH; subst hR
  refine dD (by simp only [eF, List.foldl_cons, List.foldl_nil, List.set_cons_succ, List.set_cons_zero, h46]; rfl) ?_
  have HD := Go.Lib.hid hdo
  clear hdo
  have hstep : ∀ (hil : i < l.length), l.drop i = l[i] :: l.drop (i + 1) := fun hil => List.drop_eq_getElem_cons hil
  have HS := Go.Lib.hid hstep
  clear hstep
  repeat' (first | (apply aF) | (apply aA) | (apply aV) | (apply bP) | (apply bF) | (apply cG) | (apply aK; exact rfl) | (apply aJ; exact rfl) | (apply aH) | (apply aD) | (apply bN) | (apply aW) | (apply dQ) | (apply aS) | (apply aP; exact rfl; ((first | refine aL (i := 0) rfl rfl rfl ?_ | refine aL (i := 1) rfl rfl rfl ?_ | refine aL (i := 2) rfl rfl rfl ?_ | refine bD rfl cL rfl ?_)); refine aB ?_) | (apply aU; exact rfl; ((first | refine bQ rfl rfl (fun h => ?_) (fun h => ?_) | refine fZ rfl rfl (fun h => ?_) (fun h => ?_))) <;> (refine aB ?_)) | (apply gZ; exact rfl; ((refine gX eR rfl aX (List.getElem?_eq_getElem aO) (fun b o A c hI hI2 hL => ?_))); refine aB ?_) | (apply bE; exact rfl; ((first | refine aN (i := 0) rfl cW rfl dT dB eK ?_ | refine aN (i := 2) rfl cW rfl dT dB eK ?_ | refine aN (i := 3) rfl cW rfl dT dB eK ?_)); refine aB ?_; refine cE ?_) | (refine aE rfl rfl ?_; ((first | refine aY ?_ | refine aC rfl ?_ | refine bS rfl ?_ | refine dI gG ?_)); refine aB ?_) | (refine bJ rfl rfl ?_; ((refine bL cW (fun b => ?_))); refine aB ?_))
  · refine T_staysx 1 rfl rfl cQ aX (fun A7 c7 hv => ?_)
    cases hv
    refine cE ?_
    repeat' (first | (refine dK rfl ?_; refine aT fA ?_; refine j5 _ _ _ _ cur hcc aX aX (fun v => ?_); refine aB ?_; refine hZ 0 rfl (fun A8 c8 hv => ?_); subst hv; refine cE ?_) | (apply aA) | (apply cG) | (apply aH) | (apply aD) | (apply aW) | (apply aS) | (apply aU; exact rfl; ((refine bM rfl rfl aO aO ?_)); refine aB ?_) | (apply bE; exact rfl; ((refine aN (i := 1) rfl cW rfl dT dB eK ?_)); refine aB ?_; refine cE ?_) | (refine aE rfl rfl ?_; ((first | refine aG ?_ | refine dI gG ?_)); refine aB ?_))
    refine cJ (m2 - 1) _ _ aO eS ⟨i + 1, by omega, rfl, ⟨gW cur, []⟩, none, 0, [], A8, c8, ?_, ?_, ?_, rfl, rfl⟩ (fun w hs => ?_)
    · rw [HD.out, HS.out aO, doL, if_pos (by assumption)]
    · rw [fM hcc]; exact hcl
    · have := fM hcc
      simp [eW]; omega
    · exact ((hs.weaken (List.sublist_cons_self _ _) (R' := Sl (.slice A8 (gW cur).length c8) (gW cur) :: R) (fun p hp => by
        simp only [List.mem_cons] at hp ⊢
        rcases hp with hp | hp
        · exact .inl hp
        · simp [hp])).learn (Cx [] ([] : List DW)) (fun s _ => gN s)).nilrow 139 2
  · refine aZ (.inl rfl) (iN rfl (dC (i := 3) rfl rfl rfl) (bR rfl)) (cA H (jH none 0 none 0 ⟨[], []⟩ R) (fun w hs => qC (show S w0 w H R from hs.weaken (H' := H) (R' := R) eB hP)) ?_)
    refine sC (r' := (⟨[], []⟩, 2)) ?_ k none 0 none 0
    unfold doD
    rw [hc, hB]
    simp only [if_true]
    rw [HD.out, HS.out aO, doL, if_neg (by assumption), if_pos aO]
  · have hri : jP d.bytes.length l[i] = true := List.all_eq_true.1 hB _ (List.getElem_mem aO)
    obtain ⟨hdl, hok⟩ := xG hri
    have hcp := (fX hcc).2.2.2.1
    have hk2 : l[i].kind ≠ 2 := by assumption
    refine eC fK jN (fun _ _ _ _ _ _ h => h) (List.Sublist.cons_cons _ fE) ?_
    all_goals ((refine bY 0 (List.Sublist.cons_cons _ fE) ?_; ((refine aC rfl ?_)); refine aI ?_))
    all_goals ((refine bY 1 (List.Sublist.cons_cons _ fE) ?_; ((refine aL (i := 1) rfl rfl rfl ?_)); refine aI ?_))
    all_goals ((refine bY 2 (List.Sublist.cons_cons _ fE) ?_; ((refine aC rfl ?_)); refine aI ?_))
    all_goals ((refine bY 3 (List.Sublist.cons_cons _ fE) ?_; ((refine aL (i := 0) rfl rfl rfl ?_)); refine aI ?_))
    all_goals ((refine bY 4 (List.Sublist.cons_cons _ fE) ?_; ((refine aC rfl ?_)); refine aI ?_))
    all_goals ((refine bY 5 (List.Sublist.cons_cons _ fE) ?_; ((refine aL (i := 0) rfl rfl rfl ?_)); refine aI ?_))
    -- left: [6, 7, 8, 9, 10, 11]; ready: [6]: ['call']
    refine gE 6 ?_
    refine aT fA ?_
    refine oQ _ _ _ aO aX (fun v => ?_)
    refine ⟨.inl (fun w hs => hs.weaken (List.Sublist.cons _ (List.Sublist.cons_cons _ fE)) (fun p hp => hp)), ?_⟩
    refine aI ?_
    refine TA_stays 0 rfl (fun A5 c5 hv => ?_)
    subst hv
    refine kN ?_
    refine dW _ (List.Sublist.refl _) (fun p hp => List.mem_cons_of_mem _ hp) ?_
    all_goals ((refine bY 7 (List.Sublist.cons_cons _ fE) ?_; ((refine dI gG ?_)); refine aI ?_))
    -- left: [8, 9, 10, 11]; ready: [8]: ['buildSlice']
    refine mY 8 ?_
    refine bK cQ fP rfl (fun b5 => ?_)
    refine ⟨.inl (fun w hs => hs.weaken (List.Sublist.cons _ (List.Sublist.cons_cons _ fE)) (fun p hp => hp)), ?_⟩
    refine aI ?_
    refine mY 9 ?_
    refine dF 2 0 rfl rfl rfl rfl cQ rfl eK aO aO (fun pv' => ?_)
    refine ⟨.inl (fun w hs => hs.weaken (List.Sublist.cons _ (List.Sublist.cons_cons _ fE)) (fun p hp => hp)), ?_⟩
    refine aI ?_
    refine kN ?_
    refine TA_shape 2 rfl (fun A6 c6 hv => ?_)
    subst hv
    refine TA_learn (Cx (cs ++ [.int .i64 l[i].at_, .slice A5 l[i].data.length c5]) (cur.pending ++ [⟨l[i].at_, l[i].data⟩])) (fun s hs => eZ (hs (Cx cs cur.pending) aX) ⟨A5, c5, rfl, hI2, hs (Sl (.slice A5 l[i].data.length c5) l[i].data) aX⟩) ?_
    refine dW _ (List.Sublist.refl _) (fun p hp => List.mem_cons_of_mem _ hp) ?_
    all_goals ((refine bY 10 (List.Sublist.cons _ (List.Sublist.cons_cons _ fE)) ?_; ((refine aC rfl ?_)); refine aI ?_))
    -- left: [11]; ready: [11]: ['store']
    refine mY 11 ?_
    refine aN (i := 3) rfl cW rfl dT dB eK ?_
    refine ⟨.inr jN, ?_⟩
    refine aI ?_
    refine kN ?_
    refine kU jN ?_
    repeat' (first | (apply aA) | (apply aH) | (apply aD) | (apply bU) | (apply aU; exact rfl; ((refine bM rfl rfl aO aO ?_)); refine aB ?_) | (refine aE rfl rfl ?_; ((refine aG ?_)); refine aB ?_))
    refine cJ (m2 - 1) (.row (.slice A6 (cur.pending.length + 1) c6) 139 2 (cur.pending.length + 1) (cs ++ [.int .i64 l[i].at_, .slice A5 l[i].data.length c5]) :: .blk b7 [.slice A' cur.bytes.length c', .slice A6 (cur.pending.length + 1) c6] 51 :: .blk b4 [.slice none 0 0, .slice none 0 0] 51 :: .blk b2 [.slice A0 d.bytes.length c0, .slice A2 d.pending.length c2] 51 :: H) (Cx (cs ++ [.int .i64 l[i].at_, .slice A5 l[i].data.length c5]) (cur.pending ++ [⟨l[i].at_, l[i].data⟩]) :: Sl (.slice A' cur.bytes.length c') cur.bytes :: R) aO eS ⟨i + 1, by omega, rfl, ⟨cur.bytes, cur.pending ++ [⟨l[i].at_, l[i].data⟩]⟩, A6, c6, _, A', c', ?_, ?_, ?_, rfl, ?_⟩ (fun w hs => hs.weaken dB (fun p hp => ?_))
    · rw [HD.out, HS.out aO, doL, if_neg hk2, if_neg aO]
    · exact hcl
    · exact wN hcc aO (by rw [hcl]; exact hok hk2)
    · simp only [List.length_append, List.length_cons, List.length_nil, Nat.zero_add]
    · simp only [List.mem_cons] at hp ⊢
      rcases hp with hp | hp | hp
      · exact .inl hp
      · simp [hp]
      · simp [hp]
  · have hil : i = l.length := by omega
    refine aZ (.inl rfl) (iN rfl (dC (i := 2) rfl rfl rfl) (bR rfl)) (cA H (jH A' c' Ap cp cur R) (fun w hs => ?_) (sC (r' := (cur, 0)) ?_ k A' c' Ap cp))
    · obtain ⟨A7, c7, e, h2⟩ := hs.stays (i := 0) rfl rfl cQ aX
      cases e
      exact h2.weaken eB (fun p hp => by
        simp only [List.mem_cons] at hp ⊢
        rcases hp with hp | hp | hp
        · simp [hp]
        · simp [hp]
        · simp [hp])
    · unfold doD
      rw [hc, hB]
      simp only [if_true]
      rw [HD.out, hil, List.drop_length]; rfl
end Go.Proofs.YtggdljhmbckpmaaGreat
