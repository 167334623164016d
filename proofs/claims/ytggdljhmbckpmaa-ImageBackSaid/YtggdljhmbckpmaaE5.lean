/- A state written: walk, printed by gen_state.py. -/
import Derived.Test.YtggdljhmbckpmaaE3
import Derived.Test.YtggdljhmbckpmaaE3b
import Derived.Test.YtggdljhmbckpmaaE4
set_option linter.unusedVariables false
set_option linter.unusedSimpArgs false
namespace Go.Proofs.Ytggdljhmbckpmaa
open Go Go.RowKit
set_option maxRecDepth 100000
set_option maxHeartbeats 1600000

theorem state_w {w0 : World} (bw : Nat) {αF : Type} [Rep αF] [Unp αF] {αB : Type} [Rep αB] [Unp αB] {αS : Type} [Rep αS] [Unp αS] {αV : Type} [Rep αV] [Unp αV] {αT : Type} [Rep αT] [Unp αT] {αC : Type} [Rep αC] [Unp αC] (mode at_ frame bracket scope pars steps : Int) (lax : Bool) (hI : ∀ x ∈ [mode, at_, frame, bracket, scope, pars], InI x) (hIs : InI steps) (A1 : Option Addr) (c1 : Nat) (there : List Int) (h1 : there.length ≤ 9223372036854775807) (A2 : Option Addr) (c2 : Nat) (gone : List Int) (h2 : gone.length ≤ 9223372036854775807)
    (hszF : Rep.size αF = 5) (hclF : ∀ (x : αF) y, (Unp.cs x y).length = 5) (hcoF : ∀ (x : αF) y, ∀ u ∈ Unp.cs x y, u.oneCell' = true) (AF : Option Addr) (cF : Nat) (lF : List αF) (hlF : lF.length ≤ 9223372036854775807) (oF : αF → List UInt8)
    (hF : ∀ x ∈ lF, ∀ y, Unp.ok x y → Wr Try.prog w0 (Unp.fs x y) 68 [.pointer (some ⟨bw, 0, none⟩), .agg (Unp.cs x y).toArray] bw (oF x))
    (hszB : Rep.size αB = 7) (hclB : ∀ (x : αB) y, (Unp.cs x y).length = 7) (hcoB : ∀ (x : αB) y, ∀ u ∈ Unp.cs x y, u.oneCell' = true) (AB : Option Addr) (cB : Nat) (lB : List αB) (hlB : lB.length ≤ 9223372036854775807) (oB : αB → List UInt8)
    (hB : ∀ x ∈ lB, ∀ y, Unp.ok x y → Wr Try.prog w0 (Unp.fs x y) 70 [.pointer (some ⟨bw, 0, none⟩), .agg (Unp.cs x y).toArray] bw (oB x))
    (hszS : Rep.size αS = 7) (hclS : ∀ (x : αS) y, (Unp.cs x y).length = 7) (hcoS : ∀ (x : αS) y, ∀ u ∈ Unp.cs x y, u.oneCell' = true) (AS : Option Addr) (cS : Nat) (lS : List αS) (hlS : lS.length ≤ 9223372036854775807) (oS : αS → List UInt8)
    (hS : ∀ x ∈ lS, ∀ y, Unp.ok x y → Wr Try.prog w0 (Unp.fs x y) 72 [.pointer (some ⟨bw, 0, none⟩), .agg (Unp.cs x y).toArray] bw (oS x))
    (hszV : Rep.size αV = 8) (hclV : ∀ (x : αV) y, (Unp.cs x y).length = 8) (hcoV : ∀ (x : αV) y, ∀ u ∈ Unp.cs x y, u.oneCell' = true) (AV : Option Addr) (cV : Nat) (lV : List αV) (hlV : lV.length ≤ 9223372036854775807) (oV : αV → List UInt8)
    (hV : ∀ x ∈ lV, ∀ y, Unp.ok x y → Wr Try.prog w0 (Unp.fs x y) 74 [.pointer (some ⟨bw, 0, none⟩), .agg (Unp.cs x y).toArray] bw (oV x))
    (hszT : Rep.size αT = 9) (hclT : ∀ (x : αT) y, (Unp.cs x y).length = 9) (hcoT : ∀ (x : αT) y, ∀ u ∈ Unp.cs x y, u.oneCell' = true) (AT : Option Addr) (cT : Nat) (lT : List αT) (hlT : lT.length ≤ 9223372036854775807) (oT : αT → List UInt8)
    (hT : ∀ b2 : Nat, ∀ x ∈ lT, ∀ y, Unp.ok x y → Wr Try.prog w0 (Unp.fs x y ++ [At b2 0 [.pointer (some ⟨bw, 0, none⟩)]]) 76 [.agg (Unp.cs x y).toArray, .pointer (some ⟨b2, 0, none⟩)] bw (oT x))
    (hszC : Rep.size αC = 18) (hclC : ∀ (x : αC) y, (Unp.cs x y).length = 18) (hcoC : ∀ (x : αC) y, ∀ u ∈ Unp.cs x y, u.oneCell' = true) (AC : Option Addr) (cC : Nat) (lC : List αC) (hlC : lC.length ≤ 9223372036854775807) (oC : αC → List UInt8)
    (hC : ∀ x ∈ lC, ∀ y, Unp.ok x y → Wr Try.prog w0 (Unp.fs x y) 79 [.pointer (some ⟨bw, 0, none⟩), .agg (Unp.cs x y).toArray] bw (oC x)) :
    Wr Try.prog w0 [Sl (.slice A1 there.length c1) there, Sl (.slice A2 gone.length c2) gone, Sl (.slice AF lF.length cF) lF, Sl (.slice AB lB.length cB) lB, Sl (.slice AS lS.length cS) lS, Sl (.slice AV lV.length cV) lV, Sl (.slice AT lT.length cT) lT, Sl (.slice AC lC.length cC) lC] 37 [.pointer (some ⟨bw, 0, none⟩), .agg #[.int .i64 mode, .int .i64 at_, .int .i64 frame, .int .i64 bracket, .int .i64 scope, .int .i64 pars, .bool lax, .slice A1 there.length c1, .slice A2 gone.length c2, .slice AF lF.length cF, .slice AB lB.length cB, .slice AS lS.length cS, .slice AV lV.length cV, .slice AT lT.length cT, .slice AC lC.length cC, .int .i64 steps]] bw ([mode, at_, frame, bracket, scope, pars].flatMap numB ++ (truthB lax ++ (intsB there ++ (intsB gone ++ ((numB lF.length ++ lF.flatMap oF) ++ ((numB lB.length ++ lB.flatMap oB) ++ ((numB lS.length ++ lS.flatMap oS) ++ ((numB lV.length ++ lV.flatMap oV) ++ ((numB lT.length ++ lT.flatMap oT) ++ ((numB lC.length ++ lC.flatMap oC) ++ (numB steps))))))))))) := by
  intro H R K KP bs v hsub hb hk hp
  simp only [List.length_append] at hp
  refine callsP_of Try.func37 rfl Try.ntmps37 nep ?_
  apply TC_seq; apply TC_region
  repeat' ((refine T_gen rfl rfl ?_; ((refine gw_box clp (fun b => ?_))); refine T_nv ?_))
  apply T_nil; apply En_then
  rename_i b2
  refine TC_freeze 0 rfl ?_
  refine TC_freeze 0 rfl ?_
  refine TC_hp hpp ?_
  have hS1 : Sl (.slice A1 there.length c1) there ∈ R := hsub _ (by simp)
  have hS2 : Sl (.slice A2 gone.length c2) gone ∈ R := hsub _ (by simp)
  have hSF : Sl (.slice AF lF.length cF) lF ∈ R := hsub _ (by simp)
  have hSB : Sl (.slice AB lB.length cB) lB ∈ R := hsub _ (by simp)
  have hSS : Sl (.slice AS lS.length cS) lS ∈ R := hsub _ (by simp)
  have hSV : Sl (.slice AV lV.length cV) lV ∈ R := hsub _ (by simp)
  have hST : Sl (.slice AT lT.length cT) lT ∈ R := hsub _ (by simp)
  have hSC : Sl (.slice AC lC.length cC) lC ∈ R := hsub _ (by simp)
  clear hsub
  repeat' (first | (apply TC_seq) | (apply TC_region) | (apply T_load; exact rfl; ((first | refine pw_load_at rfl memr rfl ?_ | refine pw_load_at0 rfl memr rfl ?_)); refine T_nv ?_) | (refine T_pure rfl rfl ?_; ((refine pw_fieldAddr rfl ?_)); refine T_nv ?_) | (refine T_gen rfl rfl ?_; ((refine gw_buildSlice (by decide) prtp rfl (fun b => ?_))); refine T_nv ?_))
  refine T_ints [mode, at_, frame, bracket, scope, pars] rfl hI (by simp) ?_
  repeat' (fail)
  refine T_wr rfl rfl (numbers_w bw (some ⟨b, 0, none⟩) 6 [mode, at_, frame, bracket, scope, pars] (by simp)) (sub_cons List.mem_cons_self (fun _ h => (by cases h))) rfl rfl hb (fun hle0 v0 => ?_) (fun hgt => ?_)
  rotate_left
  · skip
    repeat' ((apply En_then_panic))
    exact En_panicked (fin_P H R (fun w hs => hs.weaken sbp kpp) (hp (by (omega))))
  refine T_nv ?_
  repeat' (first | (apply TC_seq) | (apply TC_region) | (apply T_nil) | (apply En_then) | (apply T_load; exact rfl; ((first | refine pw_load_at rfl memr rfl ?_ | refine pw_load_at0 rfl memr rfl ?_)); refine T_nv ?_) | (refine T_pure rfl rfl ?_; ((refine pw_fieldAddr rfl ?_)); refine T_nv ?_))
  refine T_wr rfl rfl (truth_w bw lax) (fun _ h => (by cases h)) rfl rfl (by rw [List.length_append]; exact hle0) (fun hle1 v1 => ?_) (fun hgt => ?_)
  rotate_left
  · skip
    repeat' ((apply En_then_panic))
    exact En_panicked (fin_P H R (fun w hs => hs.weaken sbp kpp) (hp (by ((simp only [List.length_append] at hgt ⊢; omega)))))
  refine T_nv ?_
  repeat' (first | (apply TC_seq) | (apply TC_region) | (apply T_nil) | (apply En_then) | (apply T_load; exact rfl; ((first | refine pw_load_at rfl memr rfl ?_ | refine pw_load_at0 rfl memr rfl ?_)); refine T_nv ?_) | (refine T_pure rfl rfl ?_; ((refine pw_fieldAddr rfl ?_)); refine T_nv ?_))
  refine T_wr rfl rfl (ints_w bw A1 c1 there h1) (sub_cons memt (fun _ h => (by cases h))) rfl rfl (by rw [List.length_append]; exact hle1) (fun hle2 v2 => ?_) (fun hgt => ?_)
  rotate_left
  · skip
    repeat' ((apply En_then_panic))
    exact En_panicked (fin_P H R (fun w hs => hs.weaken sbp kpp) (hp (by ((simp only [List.length_append] at hgt ⊢; omega)))))
  refine T_nv ?_
  repeat' (first | (apply TC_seq) | (apply TC_region) | (apply T_nil) | (apply En_then) | (apply T_load; exact rfl; ((first | refine pw_load_at rfl memr rfl ?_ | refine pw_load_at0 rfl memr rfl ?_)); refine T_nv ?_) | (refine T_pure rfl rfl ?_; ((refine pw_fieldAddr rfl ?_)); refine T_nv ?_))
  refine T_wr rfl rfl (ints_w bw A2 c2 gone h2) (sub_cons memt (fun _ h => (by cases h))) rfl rfl (by rw [List.length_append]; exact hle2) (fun hle3 v3 => ?_) (fun hgt => ?_)
  rotate_left
  · skip
    repeat' ((apply En_then_panic))
    exact En_panicked (fin_P H R (fun w hs => hs.weaken sbp kpp) (hp (by ((simp only [List.length_append] at hgt ⊢; omega)))))
  refine T_nv ?_
  repeat' (first | (apply TC_seq) | (apply TC_region) | (apply T_nil) | (apply En_then) | (apply T_load; exact rfl; ((first | refine pw_load_at rfl memr rfl ?_ | refine pw_load_at0 rfl memr rfl ?_)); refine T_nv ?_) | (refine T_pure rfl rfl ?_; ((first | refine pw_fieldAddr rfl ?_ | refine pw_makeFuncL agp agp ?_)); refine T_nv ?_))
  refine T_wr rfl rfl (put67_w hszF hclF hcoF bw AF cF lF 68 [.pointer (some ⟨bw, 0, none⟩)] [] oF [] hlF (fun x hx y hy => by rw [List.append_nil]; exact hF x hx y hy)) (sub_cons memt (fun _ h => (by cases h))) rfl rfl (by rw [List.length_append]; exact hle3) (fun hle4 v4 => ?_) (fun hgt => ?_)
  rotate_left
  · skip
    repeat' ((apply En_then_panic))
    exact En_panicked (fin_P H R (fun w hs => hs.weaken sbp kpp) (hp (by ((simp only [List.length_append] at hgt ⊢; omega)))))
  refine T_nv ?_
  repeat' (first | (apply TC_seq) | (apply TC_region) | (apply T_nil) | (apply En_then) | (apply T_load; exact rfl; ((first | refine pw_load_at rfl memr rfl ?_ | refine pw_load_at0 rfl memr rfl ?_)); refine T_nv ?_) | (refine T_pure rfl rfl ?_; ((first | refine pw_fieldAddr rfl ?_ | refine pw_makeFuncL agp agp ?_)); refine T_nv ?_))
  refine T_wr rfl rfl (put69_w hszB hclB hcoB bw AB cB lB 70 [.pointer (some ⟨bw, 0, none⟩)] [] oB [] hlB (fun x hx y hy => by rw [List.append_nil]; exact hB x hx y hy)) (sub_cons memt (fun _ h => (by cases h))) rfl rfl (by rw [List.length_append]; exact hle4) (fun hle5 v5 => ?_) (fun hgt => ?_)
  rotate_left
  · skip
    repeat' ((apply En_then_panic))
    exact En_panicked (fin_P H R (fun w hs => hs.weaken sbp kpp) (hp (by ((simp only [List.length_append] at hgt ⊢; omega)))))
  refine T_nv ?_
  repeat' (first | (apply TC_seq) | (apply TC_region) | (apply T_nil) | (apply En_then) | (apply T_load; exact rfl; ((first | refine pw_load_at rfl memr rfl ?_ | refine pw_load_at0 rfl memr rfl ?_)); refine T_nv ?_) | (refine T_pure rfl rfl ?_; ((first | refine pw_fieldAddr rfl ?_ | refine pw_makeFuncL agp agp ?_)); refine T_nv ?_))
  refine T_wr rfl rfl (put71_w hszS hclS hcoS bw AS cS lS 72 [.pointer (some ⟨bw, 0, none⟩)] [] oS [] hlS (fun x hx y hy => by rw [List.append_nil]; exact hS x hx y hy)) (sub_cons memt (fun _ h => (by cases h))) rfl rfl (by rw [List.length_append]; exact hle5) (fun hle6 v6 => ?_) (fun hgt => ?_)
  rotate_left
  · skip
    repeat' ((apply En_then_panic))
    exact En_panicked (fin_P H R (fun w hs => hs.weaken sbp kpp) (hp (by ((simp only [List.length_append] at hgt ⊢; omega)))))
  refine T_nv ?_
  repeat' (first | (refine T_load rfl ?_; refine pw_load_at (o := 0) (q := 12) rfl memt rfl ?_; refine T_nv ?_) | (apply TC_seq) | (apply TC_region) | (apply T_nil) | (apply En_then) | (apply T_load; exact rfl; ((refine pw_load_at0 rfl memr rfl ?_)); refine T_nv ?_) | (refine T_pure rfl rfl ?_; ((first | refine pw_fieldAddr rfl ?_ | refine pw_makeFuncL agp agp ?_)); refine T_nv ?_))
  refine T_wr rfl rfl (put73_w hszV hclV hcoV bw AV cV lV 74 [.pointer (some ⟨bw, 0, none⟩)] [] oV [] hlV (fun x hx y hy => by rw [List.append_nil]; exact hV x hx y hy)) (sub_cons memt (fun _ h => (by cases h))) rfl rfl (by rw [List.length_append]; exact hle6) (fun hle7 v7 => ?_) (fun hgt => ?_)
  rotate_left
  · skip
    repeat' ((apply En_then_panic))
    exact En_panicked (fin_P H R (fun w hs => hs.weaken sbp kpp) (hp (by ((simp only [List.length_append] at hgt ⊢; omega)))))
  refine T_nv ?_
  repeat' (first | (apply TC_seq) | (apply TC_region) | (apply T_nil) | (apply En_then) | (apply T_load; exact rfl; ((first | refine pw_load_at rfl memr rfl ?_ | refine pw_load_at0 rfl memr rfl ?_)); refine T_nv ?_) | (refine T_pure rfl rfl ?_; ((first | refine pw_fieldAddr rfl ?_ | refine pw_makeFuncL agp agp ?_)); refine T_nv ?_))
  refine T_wr rfl rfl (put75_w hszT hclT hcoT bw AT cT lT 76 [] [.pointer (some ⟨b2, 0, none⟩)] oT [At b2 0 [.pointer (some ⟨bw, 0, none⟩)]] hlT (fun x hx y hy => hT b2 x hx y hy)) (sub_cons memt (sub_cons memt (fun _ h => (by cases h)))) rfl rfl (by rw [List.length_append]; exact hle7) (fun hle8 v8 => ?_) (fun hgt => ?_)
  rotate_left
  · skip
    repeat' ((apply En_then_panic))
    exact En_panicked (fin_P H R (fun w hs => hs.weaken sbp kpp) (hp (by ((simp only [List.length_append] at hgt ⊢; omega)))))
  refine T_nv ?_
  repeat' (first | (apply TC_seq) | (apply TC_region) | (apply T_nil) | (apply En_then) | (apply T_load; exact rfl; ((first | refine pw_load_at rfl memr rfl ?_ | refine pw_load_at0 rfl memr rfl ?_)); refine T_nv ?_) | (refine T_pure rfl rfl ?_; ((first | refine pw_fieldAddr rfl ?_ | refine pw_makeFuncL agp agp ?_)); refine T_nv ?_))
  refine T_wr rfl rfl (put78_w hszC hclC hcoC bw AC cC lC 79 [.pointer (some ⟨bw, 0, none⟩)] [] oC [] hlC (fun x hx y hy => by rw [List.append_nil]; exact hC x hx y hy)) (sub_cons memt (fun _ h => (by cases h))) rfl rfl (by rw [List.length_append]; exact hle8) (fun hle9 v9 => ?_) (fun hgt => ?_)
  rotate_left
  · skip
    repeat' ((apply En_then_panic))
    exact En_panicked (fin_P H R (fun w hs => hs.weaken sbp kpp) (hp (by ((simp only [List.length_append] at hgt ⊢; omega)))))
  refine T_nv ?_
  repeat' (first | (apply TC_region) | (apply T_nil) | (apply En_then) | (apply T_load; exact rfl; ((first | refine pw_load_at rfl memr rfl ?_ | refine pw_load_at0 rfl memr rfl ?_)); refine T_nv ?_) | (refine T_pure rfl rfl ?_; ((refine pw_fieldAddr rfl ?_)); refine T_nv ?_))
  refine T_wr rfl rfl (number_w bw steps hIs) (fun _ h => (by cases h)) rfl rfl (by rw [List.length_append]; exact hle9) (fun hle10 v10 => ?_) (fun hgt => ?_)
  rotate_left
  · skip
    repeat' (fail)
    exact En_panicked (fin_P H R (fun w hs => hs.weaken sbp kpp) (hp (by ((simp only [List.length_append] at hgt ⊢; omega)))))
  refine T_nv ?_
  repeat' ((apply T_nil))
  refine En_fin (.inr rfl) (res0 rfl) (fin_R _ R (fun w hs => ?_) (hk (by simp only [List.length_append] at hle10 ⊢; omega) v10))
  simp only [List.append_assoc] at hs ⊢
  exact hs.weaken sbp kpp
end Go.Proofs.Ytggdljhmbckpmaa
