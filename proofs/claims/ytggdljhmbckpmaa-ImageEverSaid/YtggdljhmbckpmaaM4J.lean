/- Structs written: walks, printed by gen_wr.py. A state written: walk, printed by gen_state.py. Encode of the zero state: walk. Encode: walk, of any state. -/
import Derived.Test.YtggdljhmbckpmaaM2J
import Derived.Test.YtggdljhmbckpmaaE3
import Derived.Test.YtggdljhmbckpmaaE3bJ
import Derived.Test.YtggdljhmbckpmaaE6J
set_option linter.unusedVariables false
set_option linter.unusedSimpArgs false
namespace Go.Proofs.Ytggdljhmbckpmaa
open Go Go.RowKit
set_option maxRecDepth 100000
set_option maxHeartbeats 1600000

theorem trail_x {w0 : World} (bw : Nat) (b2 : Nat) (n1 : Int) (hn1 : InI n1) (lv : Int) (hlv : InI lv) (tn : ByteArray) (htn : tn.size ≤ 9223372036854775807) (Atx : Option Addr) (ctx : Nat) (tx : List Tp) (htx : tx.length ≤ 9223372036854775807) (bo : Bool) (kk : Int) (hkk : InI kk) (ki : Int) (hki : InI ki) (kn : ByteArray) (hkn : kn.size ≤ 9223372036854775807) (Akx : Option Addr) (ckx : Nat) (kx : List Tm) (hkx : kx.length ≤ 9223372036854775807) : Wr Try.prog w0 [Sl (.slice Atx tx.length ctx) tx, Sl (.slice Akx kx.length ckx) kx, At b2 0 [.pointer (some ⟨bw, 0, none⟩)]] 76 [.agg #[.int .i64 n1, .int .i64 lv, .string tn, .slice Atx tx.length ctx, .bool bo, .int .i64 kk, .int .i64 ki, .string kn, .slice Akx kx.length ckx], .pointer (some ⟨b2, 0, none⟩)] bw (numB n1 ++ ((Cod.enc (α := VaD) (lv, .mk tn tx, bo, .mk kk ki kn kx)))) := by
  intro H R K KP bs v hsub hb hk hp
  try simp only [List.length_append] at hp
  refine callsP_of Try.func76 rfl Try.ntmps76 nep ?_
  apply TC_seq; apply TC_region
  repeat' ((refine T_gen rfl rfl ?_; ((refine gw_box clp (fun b => ?_))); refine T_nv ?_))
  apply T_nil; apply En_then
  refine TC_freeze 0 rfl ?_
  refine TC_hp hpp ?_
  have hS0 : Sl (.slice Atx tx.length ctx) tx ∈ R := hsub _ (by simp)
  have hS1 : Sl (.slice Akx kx.length ckx) kx ∈ R := hsub _ (by simp)
  have hB : At b2 0 [.pointer (some ⟨bw, 0, none⟩)] ∈ R := hsub _ (by simp)
  clear hsub
  repeat' (first | (apply TC_seq) | (apply TC_region) | (apply T_load; exact rfl; ((first | refine pw_load_at rfl memr rfl ?_ | refine pw_load_at0 rfl memr rfl ?_)); refine T_nv ?_) | (refine T_pure rfl rfl ?_; ((refine pw_fieldAddr rfl ?_)); refine T_nv ?_))
  refine T_wr rfl rfl (number_w bw n1 hn1) (fun _ h => (by cases h)) rfl rfl hb (fun hle0 v0 => ?_) (fun hgt => ?_)
  rotate_left
  · skip
    repeat' ((apply En_then_panic))
    exact En_panicked (fin_P H R (fun w hs => hs.weaken sbp kpp) (hp (by (omega))))
  refine T_nv ?_
  repeat' (first | (apply TC_region) | (apply T_nil) | (apply En_then) | (apply T_load; exact rfl; ((first | refine pw_load_at rfl memr rfl ?_ | refine pw_load_at0 rfl memr rfl ?_)); refine T_nv ?_) | (refine T_pure rfl rfl ?_; ((refine pw_fieldAddr rfl ?_)); refine T_nv ?_))
  refine T_wr rfl rfl (val_w bw (lv, .mk tn tx, bo, .mk kk ki kn kx) ((), (Atx, ctx), (), (Akx, ckx)) ⟨hlv, ⟨htn, htx⟩, trivial, hkk, hki, hkn, hkx⟩) (sub_cons memt (sub_cons memt (fun _ h => (by cases h)))) rfl rfl (by rw [List.length_append]; exact hle0) (fun hle1 v1 => ?_) (fun hgt => ?_)
  rotate_left
  · skip
    repeat' (fail)
    exact En_panicked (fin_P H R (fun w hs => hs.weaken sbp kpp) (hp (by ((simp only [List.length_append] at hgt ⊢; omega)))))
  refine T_nv ?_
  repeat' ((apply T_nil))
  refine En_fin (.inr rfl) (res0 rfl) (fin_R _ R (fun w hs => ?_) (hk (by ((simp only [List.length_append] at hle1 ⊢; omega))) v1))
  try simp only [List.append_assoc] at hs ⊢
  exact hs.weaken sbp kpp
theorem trail_w {w0 : World} (bw b2 : Nat) (x : TrD) (y : Unp.Y TrD) (hok : Unp.ok x y) : Wr Try.prog w0 (Unp.fs x y ++ [At b2 0 [.pointer (some ⟨bw, 0, none⟩)]]) 76 [.agg (Unp.cs x y).toArray, .pointer (some ⟨b2, 0, none⟩)] bw (Cod.enc x) := by
  obtain ⟨n1, lv, ⟨tn, tx⟩, bo, ⟨k, i, kn, kx⟩⟩ := x
  obtain ⟨u0, u1, ⟨A1, c1⟩, u3, ⟨A2, c2⟩⟩ := y
  obtain ⟨h0, h1, ⟨h2, h3⟩, _, h4, h5, h6, h7⟩ := hok
  exact Wr_eq (trail_x bw b2 n1 h0 lv h1 tn h2 A1 c1 tx h3 bo k h4 i h5 kn h6 A2 c2 kx h7) (by simp only [Cod.enc, intsB, List.flatMap_cons, List.flatMap_nil, List.append_nil, List.append_assoc]) rfl
theorem try_x {w0 : World} (bw : Nat) (b2 : Nat) (n1 : Int) (hn1 : InI n1) (n2 : Int) (hn2 : InI n2) (n3 : Int) (hn3 : InI n3) : Wr Try.prog w0 [At b2 0 [.pointer (some ⟨bw, 0, none⟩)]] 109 [.agg #[.int .i64 n1, .int .i64 n2, .int .i64 n3], .pointer (some ⟨b2, 0, none⟩)] bw ([n1, n2, n3].flatMap numB) := by
  intro H R K KP bs v hsub hb hk hp
  try simp only [List.length_append] at hp
  refine callsP_of Try.func109 rfl Try.ntmps109 nep ?_
  apply TC_seq; apply TC_region
  repeat' ((refine T_gen rfl rfl ?_; ((refine gw_box clp (fun b => ?_))); refine T_nv ?_))
  apply T_nil; apply En_then
  refine TC_freeze 0 rfl ?_
  refine TC_hp hpp ?_
  have hB : At b2 0 [.pointer (some ⟨bw, 0, none⟩)] ∈ R := hsub _ (by simp)
  clear hsub
  repeat' (first | (apply TC_region) | (apply T_load; exact rfl; ((first | refine pw_load_at rfl memr rfl ?_ | refine pw_load_at0 rfl memr rfl ?_)); refine T_nv ?_) | (refine T_pure rfl rfl ?_; ((refine pw_fieldAddr rfl ?_)); refine T_nv ?_) | (refine T_gen rfl rfl ?_; ((refine gw_buildSlice (by decide) prtp rfl (fun b => ?_))); refine T_nv ?_))
  refine T_ints [n1, n2, n3] rfl (by intro x hx; simp only [List.mem_cons, List.not_mem_nil, or_false] at hx; rcases hx with rfl | rfl | rfl <;> assumption) (by simp) ?_
  repeat' (fail)
  refine T_wr rfl rfl (numbers_w bw (some ⟨b, 0, none⟩) 3 [n1, n2, n3] (by simp)) (sub_cons List.mem_cons_self (fun _ h => (by cases h))) rfl rfl hb (fun hle0 v0 => ?_) (fun hgt => ?_)
  rotate_left
  · skip
    repeat' (fail)
    exact En_panicked (fin_P H R (fun w hs => hs.weaken sbp kpp) (hp (by (omega))))
  refine T_nv ?_
  repeat' ((apply T_nil))
  refine En_fin (.inr rfl) (res0 rfl) (fin_R _ R (fun w hs => ?_) (hk (by (omega)) v0))
  try simp only [List.append_assoc] at hs ⊢
  exact hs.weaken sbp kpp
theorem try_w {w0 : World} (bw b2 : Nat) (x : TyD) (y : Unp.Y TyD) (hok : Unp.ok x y) : Wr Try.prog w0 (Unp.fs x y ++ [At b2 0 [.pointer (some ⟨bw, 0, none⟩)]]) 109 [.agg (Unp.cs x y).toArray, .pointer (some ⟨b2, 0, none⟩)] bw (Cod.enc x) := by
  obtain ⟨n1, n2, n3⟩ := x
  obtain ⟨h1, h2, h3⟩ := hok
  exact Wr_eq (try_x bw b2 n1 h1 n2 h2 n3 h3) (by simp only [Cod.enc, intsB, List.flatMap_cons, List.flatMap_nil, List.append_nil, List.append_assoc]) rfl
theorem choice_x {w0 : World} (bw : Nat) (n1 : Int) (hn1 : InI n1) (Al1 : Option Addr) (cl1 : Nat) (l1 : List TyD) (hl1 : l1.length ≤ 9223372036854775807) (Al2 : Option Addr) (cl2 : Nat) (l2 : List Tm) (hl2 : l2.length ≤ 9223372036854775807) (n2 : Int) (hn2 : InI n2) (n3 : Int) (hn3 : InI n3) (n4 : Int) (hn4 : InI n4) (n5 : Int) (hn5 : InI n5) (n6 : Int) (hn6 : InI n6) (n7 : Int) (hn7 : InI n7) (n8 : Int) (hn8 : InI n8) (b1 : Bool) (Al3 : Option Addr) (cl3 : Nat) (l3 : List Int) (hl3 : l3.length ≤ 9223372036854775807) (Al4 : Option Addr) (cl4 : Nat) (l4 : List Int) (hl4 : l4.length ≤ 9223372036854775807) (m1 : Int) (hm1 : InI m1) (m2 : Int) (hm2 : InI m2) (m3 : Int) (hm3 : InI m3) (m4 : Int) (hm4 : InI m4) (m5 : Int) (hm5 : InI m5) : Wr Try.prog w0 [Sl (.slice Al1 l1.length cl1) l1, Sl (.slice Al2 l2.length cl2) l2, Sl (.slice Al3 l3.length cl3) l3, Sl (.slice Al4 l4.length cl4) l4] 79 [.pointer (some ⟨bw, 0, none⟩), .agg #[.int .i64 n1, .slice Al1 l1.length cl1, .slice Al2 l2.length cl2, .int .i64 n2, .int .i64 n3, .int .i64 n4, .int .i64 n5, .int .i64 n6, .int .i64 n7, .int .i64 n8, .bool b1, .slice Al3 l3.length cl3, .slice Al4 l4.length cl4, .int .i64 m1, .int .i64 m2, .int .i64 m3, .int .i64 m4, .int .i64 m5]] bw (numB n1 ++ ((numB l1.length ++ l1.flatMap Cod.enc) ++ ((numB l2.length ++ l2.flatMap Tm.enc) ++ ([n2, n3, n4, n5, n6, n7, n8].flatMap numB ++ (truthB b1 ++ (intsB l3 ++ (intsB l4 ++ ([m1, m2, m3, m4, m5].flatMap numB)))))))) := by
  intro H R K KP bs v hsub hb hk hp
  try simp only [List.length_append] at hp
  refine callsP_of Try.func79 rfl Try.ntmps79 nep ?_
  apply TC_seq; apply TC_region
  repeat' ((refine T_gen rfl rfl ?_; ((refine gw_box clp (fun b => ?_))); refine T_nv ?_))
  apply T_nil; apply En_then
  rename_i b2
  refine TC_freeze 0 rfl ?_
  refine TC_freeze 0 rfl ?_
  refine TC_hp hpp ?_
  have hS0 : Sl (.slice Al1 l1.length cl1) l1 ∈ R := hsub _ (by simp)
  have hS1 : Sl (.slice Al2 l2.length cl2) l2 ∈ R := hsub _ (by simp)
  have hS2 : Sl (.slice Al3 l3.length cl3) l3 ∈ R := hsub _ (by simp)
  have hS3 : Sl (.slice Al4 l4.length cl4) l4 ∈ R := hsub _ (by simp)
  clear hsub
  repeat' (first | (apply TC_seq) | (apply TC_region) | (apply T_load; exact rfl; ((first | refine pw_load_at rfl memr rfl ?_ | refine pw_load_at0 rfl memr rfl ?_)); refine T_nv ?_) | (refine T_pure rfl rfl ?_; ((refine pw_fieldAddr rfl ?_)); refine T_nv ?_))
  refine T_wr rfl rfl (number_w bw n1 hn1) (fun _ h => (by cases h)) rfl rfl hb (fun hle0 v0 => ?_) (fun hgt => ?_)
  rotate_left
  · skip
    repeat' ((apply En_then_panic))
    exact En_panicked (fin_P H R (fun w hs => hs.weaken sbp kpp) (hp (by (omega))))
  refine T_nv ?_
  repeat' (first | (apply TC_seq) | (apply TC_region) | (apply T_nil) | (apply En_then) | (apply T_load; exact rfl; ((first | refine pw_load_at rfl memr rfl ?_ | refine pw_load_at0 rfl memr rfl ?_)); refine T_nv ?_) | (refine T_pure rfl rfl ?_; ((first | refine pw_fieldAddr rfl ?_ | refine pw_makeFuncL agp agp ?_)); refine T_nv ?_))
  refine T_wr rfl rfl (put108_w rfl UnpL.len UnpL.one bw Al1 cl1 l1 109 [] [.pointer (some ⟨b2, 0, none⟩)] Cod.enc [At b2 0 [.pointer (some ⟨bw, 0, none⟩)]] hl1 (fun x hx y hy => try_w bw b2 x y hy)) (sub_cons memt (sub_cons memt (fun _ h => (by cases h)))) rfl rfl (by rw [List.length_append]; exact hle0) (fun hle1 v1 => ?_) (fun hgt => ?_)
  rotate_left
  · skip
    repeat' ((apply En_then_panic))
    exact En_panicked (fin_P H R (fun w hs => hs.weaken sbp kpp) (hp (by ((simp only [List.length_append] at hgt ⊢; omega)))))
  refine T_nv ?_
  repeat' (first | (apply TC_seq) | (apply TC_region) | (apply T_nil) | (apply En_then) | (apply T_load; exact rfl; ((first | refine pw_load_at rfl memr rfl ?_ | refine pw_load_at0 rfl memr rfl ?_)); refine T_nv ?_) | (refine T_pure rfl rfl ?_; ((first | refine pw_fieldAddr rfl ?_ | refine pw_makeFuncL agp agp ?_)); refine T_nv ?_))
  refine T_wr rfl rfl (put104_w rfl UnpL.len UnpL.one bw Al2 cl2 l2 105 [.pointer (some ⟨bw, 0, none⟩)] [] Tm.enc [] hl2 (fun x hx y hy => by rw [List.append_nil]; exact term_w bw x y hy)) (sub_cons memt (fun _ h => (by cases h))) rfl rfl (by rw [List.length_append]; exact hle1) (fun hle2 v2 => ?_) (fun hgt => ?_)
  rotate_left
  · skip
    repeat' ((apply En_then_panic))
    exact En_panicked (fin_P H R (fun w hs => hs.weaken sbp kpp) (hp (by ((simp only [List.length_append] at hgt ⊢; omega)))))
  refine T_nv ?_
  repeat' (first | (apply TC_seq) | (apply TC_region) | (apply T_nil) | (apply En_then) | (apply T_load; exact rfl; ((first | refine pw_load_at rfl memr rfl ?_ | refine pw_load_at0 rfl memr rfl ?_)); refine T_nv ?_) | (refine T_pure rfl rfl ?_; ((refine pw_fieldAddr rfl ?_)); refine T_nv ?_) | (refine T_gen rfl rfl ?_; ((refine gw_buildSlice (by decide) prtp rfl (fun b => ?_))); refine T_nv ?_))
  refine T_ints [n2, n3, n4, n5, n6, n7, n8] rfl (by intro x hx; simp only [List.mem_cons, List.not_mem_nil, or_false] at hx; rcases hx with rfl | rfl | rfl | rfl | rfl | rfl | rfl <;> assumption) (by simp) ?_
  repeat' (fail)
  refine T_wr rfl rfl (numbers_w bw (some ⟨b, 0, none⟩) 7 [n2, n3, n4, n5, n6, n7, n8] (by simp)) (sub_cons List.mem_cons_self (fun _ h => (by cases h))) rfl rfl (by rw [List.length_append]; exact hle2) (fun hle3 v3 => ?_) (fun hgt => ?_)
  rotate_left
  · skip
    repeat' ((apply En_then_panic))
    exact En_panicked (fin_P H R (fun w hs => hs.weaken sbp kpp) (hp (by ((simp only [List.length_append] at hgt ⊢; omega)))))
  refine T_nv ?_
  repeat' (first | (apply TC_seq) | (apply TC_region) | (apply T_nil) | (apply En_then) | (apply T_load; exact rfl; ((first | refine pw_load_at rfl memr rfl ?_ | refine pw_load_at0 rfl memr rfl ?_)); refine T_nv ?_) | (refine T_pure rfl rfl ?_; ((refine pw_fieldAddr rfl ?_)); refine T_nv ?_))
  refine T_wr rfl rfl (truth_w bw b1) (fun _ h => (by cases h)) rfl rfl (by rw [List.length_append]; exact hle3) (fun hle4 v4 => ?_) (fun hgt => ?_)
  rotate_left
  · skip
    repeat' ((apply En_then_panic))
    exact En_panicked (fin_P H R (fun w hs => hs.weaken sbp kpp) (hp (by ((simp only [List.length_append] at hgt ⊢; omega)))))
  refine T_nv ?_
  repeat' (first | (apply TC_seq) | (apply TC_region) | (apply T_nil) | (apply En_then) | (apply T_load; exact rfl; ((first | refine pw_load_at rfl memr rfl ?_ | refine pw_load_at0 rfl memr rfl ?_)); refine T_nv ?_) | (refine T_pure rfl rfl ?_; ((refine pw_fieldAddr rfl ?_)); refine T_nv ?_))
  refine T_wr rfl rfl (ints_w bw Al3 cl3 l3 hl3) (sub_cons memt (fun _ h => (by cases h))) rfl rfl (by rw [List.length_append]; exact hle4) (fun hle5 v5 => ?_) (fun hgt => ?_)
  rotate_left
  · skip
    repeat' ((apply En_then_panic))
    exact En_panicked (fin_P H R (fun w hs => hs.weaken sbp kpp) (hp (by ((simp only [List.length_append] at hgt ⊢; omega)))))
  refine T_nv ?_
  repeat' (first | (apply TC_seq) | (apply TC_region) | (apply T_nil) | (apply En_then) | (apply T_load; exact rfl; ((first | refine pw_load_at rfl memr rfl ?_ | refine pw_load_at0 rfl memr rfl ?_)); refine T_nv ?_) | (refine T_pure rfl rfl ?_; ((refine pw_fieldAddr rfl ?_)); refine T_nv ?_))
  refine T_wr rfl rfl (ints_w bw Al4 cl4 l4 hl4) (sub_cons memt (fun _ h => (by cases h))) rfl rfl (by rw [List.length_append]; exact hle5) (fun hle6 v6 => ?_) (fun hgt => ?_)
  rotate_left
  · skip
    repeat' ((apply En_then_panic))
    exact En_panicked (fin_P H R (fun w hs => hs.weaken sbp kpp) (hp (by ((simp only [List.length_append] at hgt ⊢; omega)))))
  refine T_nv ?_
  repeat' (first | (apply TC_region) | (apply T_nil) | (apply En_then) | (apply T_load; exact rfl; ((first | refine pw_load_at rfl memr rfl ?_ | refine pw_load_at0 rfl memr rfl ?_)); refine T_nv ?_) | (refine T_pure rfl rfl ?_; ((refine pw_fieldAddr rfl ?_)); refine T_nv ?_) | (refine T_gen rfl rfl ?_; ((refine gw_buildSlice (by decide) prtp rfl (fun b => ?_))); refine T_nv ?_))
  refine T_ints [m1, m2, m3, m4, m5] rfl (by intro x hx; simp only [List.mem_cons, List.not_mem_nil, or_false] at hx; rcases hx with rfl | rfl | rfl | rfl | rfl <;> assumption) (by simp) ?_
  repeat' (fail)
  refine T_wr rfl rfl (numbers_w bw (some ⟨b, 0, none⟩) 5 [m1, m2, m3, m4, m5] (by simp)) (sub_cons List.mem_cons_self (fun _ h => (by cases h))) rfl rfl (by rw [List.length_append]; exact hle6) (fun hle7 v7 => ?_) (fun hgt => ?_)
  rotate_left
  · skip
    repeat' (fail)
    exact En_panicked (fin_P H R (fun w hs => hs.weaken sbp kpp) (hp (by ((simp only [List.length_append] at hgt ⊢; omega)))))
  refine T_nv ?_
  repeat' ((apply T_nil))
  refine En_fin (.inr rfl) (res0 rfl) (fin_R _ R (fun w hs => ?_) (hk (by ((simp only [List.length_append] at hle7 ⊢; omega))) v7))
  try simp only [List.append_assoc] at hs ⊢
  exact hs.weaken sbp kpp
theorem choice_w {w0 : World} (bw : Nat) (x : ChD) (y : Unp.Y ChD) (hok : Unp.ok x y) : Wr Try.prog w0 (Unp.fs x y) 79 [.pointer (some ⟨bw, 0, none⟩), .agg (Unp.cs x y).toArray] bw (Cod.enc x) := by
  obtain ⟨n1, l1, l2, n2, n3, n4, n5, n6, n7, n8, b1, l3, l4, m1, m2, m3, m4, m5⟩ := x
  obtain ⟨u1, ⟨A1, c1⟩, ⟨A2, c2⟩, u2, u3, u4, u5, u6, u7, u8, u9, ⟨A3, c3⟩, ⟨A4, c4⟩, w1, w2, w3, w4, w5⟩ := y
  obtain ⟨h1, g1, g2, h2, h3, h4, h5, h6, h7, h8, _, g3, g4, k1, k2, k3, k4, k5⟩ := hok
  exact Wr_eq (choice_x bw n1 h1 A1 c1 l1 (Nat.le_trans g1.1 g1.2) A2 c2 l2 (Nat.le_trans g2.1 g2.2) n2 h2 n3 h3 n4 h4 n5 h5 n6 h6 n7 h7 n8 h8 b1 A3 c3 l3 (Nat.le_trans g3.1 g3.2) A4 c4 l4 (Nat.le_trans g4.1 g4.2) m1 k1 m2 k2 m3 k3 m4 k4 m5 k5) (by simp only [Cod.enc, intsB, List.flatMap_cons, List.flatMap_nil, List.append_nil, List.append_assoc]) rfl
end Go.Proofs.Ytggdljhmbckpmaa
namespace Go.Proofs.Ytggdljhmbckpmaa
open Go Go.RowKit
set_option maxRecDepth 100000
set_option maxHeartbeats 1600000

theorem state_w {w0 : World} (bw : Nat) {αF : Type} [Rep αF] [Unp αF] {αB : Type} [Rep αB] [Unp αB] {αS : Type} [Rep αS] [Unp αS] {αV : Type} [Rep αV] [Unp αV] {αT : Type} [Rep αT] [Unp αT] {αC : Type} [Rep αC] [Unp αC] (mode at_ frame bracket scope pars steps : Int) (lax : Bool) (hI : ∀ x ∈ [mode, at_, frame, bracket, scope, pars], InI x) (hIs : InI steps) (A1 : Option Addr) (c1 : Nat) (there : List Int) (h1 : there.length ≤ 9223372036854775807) (A2 : Option Addr) (c2 : Nat) (gone : List Int) (h2 : gone.length ≤ 9223372036854775807)
    (hszF : Rep.size αF = 5) (hclF : ∀ (x : αF) y, (Unp.cs x y).length = 5) (hcoF : ∀ (x : αF) y, ∀ u ∈ Unp.cs x y, u.oneCell' = true) (AF : Option Addr) (cF : Nat) (lF : List αF) (hlF : lF.length ≤ 9223372036854775807) (oF : αF → List UInt8)
    (hF : ∀ x ∈ lF, ∀ y, Unp.ok x y → Wr Try.prog w0 (Unp.fs x y) 68 [.pointer (some ⟨bw, 0, none⟩), .agg (Unp.cs x y).toArray] bw (oF x))
    (hszB : Rep.size αB = 7) (hclB : ∀ (x : αB) y, (Unp.cs x y).length = 7) (hcoB : ∀ (x : αB) y, ∀ u ∈ Unp.cs x y, u.oneCell' = true) (AB : Option Addr) (cB : Nat) (lB : List αB) (hlB : lB.length ≤ 9223372036854775807) (oB : αB → List UInt8)
    (hB : ∀ x ∈ lB, ∀ y, Unp.ok x y → Wr Try.prog w0 (Unp.fs x y) 70 [.pointer (some ⟨bw, 0, none⟩), .agg (Unp.cs x y).toArray] bw (oB x))
    (hszS : Rep.size αS = 7) (hclS : ∀ (x : αS) y, (Unp.cs x y).length = 7) (hcoS : ∀ (x : αS) y, ∀ u ∈ Unp.cs x y, u.oneCell' = true) (AS : Option Addr) (cS : Nat) (lS : List αS) (hlS : lS.length ≤ 9223372036854775807) (oS : αS → List UInt8)
    (hS : ∀ x ∈ lS, ∀ y, Unp.ok x y → Wr Try.prog w0 (Unp.fs x y) 72 [.pointer (some ⟨bw, 0, none⟩), .agg (Unp.cs x y).toArray] bw (oS x))
    (hszV : Rep.size αV = 8) (hclV : ∀ (x : αV) y, (Unp.cs x y).length = 8) (hcoV : ∀ (x : αV) y, ∀ u ∈ Unp.cs x y, u.oneCell' = true) (AV : Option Addr) (cV : Nat) (lV : List αV) (hlV : lV.length ≤ 9223372036854775807) (oV : αV → List UInt8)
    (hV : ∀ x ∈ lV, ∀ y, Unp.ok x y → Wr Try.prog w0 (Unp.fs x y) 74 [.pointer (some ⟨bw, 0, none⟩), .agg (Unp.cs x y).toArray] bw (oV x))
    (hszT : Rep.size αT = 9) (hclT : ∀ (x : αT) y, (Unp.cs x y).length = 9) (hcoT : ∀ (x : αT) y, ∀ u ∈ Unp.cs x y, u.oneCell' = true) (AT : Option Addr) (cT : Nat) (lT : List αT) (hlT : lT.length ≤ 9223372036854775807) (oT : αT → List UInt8)
    (hT : ∀ b2 : Nat, ∀ x ∈ lT, ∀ y, Unp.ok x y → Wr Try.prog w0 (Unp.fs x y ++ [At b2 0 [.pointer (some ⟨bw, 0, none⟩)]]) 76 [.agg (Unp.cs x y).toArray, .pointer (some ⟨b2, 0, none⟩)] bw (oT x))
    (hszC : Rep.size αC = 18) (hclC : ∀ (x : αC) y, (Unp.cs x y).length = 18) (hcoC : ∀ (x : αC) y, ∀ u ∈ Unp.cs x y, u.oneCell' = true) (AC : Option Addr) (cC : Nat) (lC : List αC) (hlC : lC.length ≤ 9223372036854775807) (oC : αC → List UInt8)
    (hC : ∀ x ∈ lC, ∀ y, Unp.ok x y → Wr Try.prog w0 (Unp.fs x y) 79 [.pointer (some ⟨bw, 0, none⟩), .agg (Unp.cs x y).toArray] bw (oC x)) :
    Wr Try.prog w0 [Sl (.slice A1 there.length c1) there, Sl (.slice A2 gone.length c2) gone, Sl (.slice AF lF.length cF) lF, Sl (.slice AB lB.length cB) lB, Sl (.slice AS lS.length cS) lS, Sl (.slice AV lV.length cV) lV, Sl (.slice AT lT.length cT) lT, Sl (.slice AC lC.length cC) lC] 37 [.pointer (some ⟨bw, 0, none⟩), .agg #[.int .i64 mode, .int .i64 at_, .int .i64 frame, .int .i64 bracket, .int .i64 scope, .int .i64 pars, .bool lax, .slice A1 there.length c1, .slice A2 gone.length c2, .slice AF lF.length cF, .slice AB lB.length cB, .slice AS lS.length cS, .slice AV lV.length cV, .slice AT lT.length cT, .slice AC lC.length cC, .int .i64 steps]] bw ([mode, at_, frame, bracket, scope, pars].flatMap numB ++ (truthB lax ++ (intsB there ++ (intsB gone ++ ((numB lF.length ++ lF.flatMap oF) ++ ((numB lB.length ++ lB.flatMap oB) ++ ((numB lS.length ++ lS.flatMap oS) ++ ((numB lV.length ++ lV.flatMap oV) ++ ((numB lT.length ++ lT.flatMap oT) ++ ((numB lC.length ++ lC.flatMap oC) ++ (numB steps))))))))))) := by
  intro H R K KP bs v hsub hb hk hp
  simp only [List.length_append] at hp
  refine callsP_of Try.func37 rfl Try.ntmps37 nep ?_
  apply TC_seq; apply TC_region
  repeat' ((refine T_gen rfl rfl ?_; ((refine gw_box clp (fun b => ?_))); refine T_nv ?_))
  apply T_nil; apply En_then
  rename_i b2
  refine TC_freeze 0 rfl ?_
  refine TC_freeze 0 rfl ?_
  refine TC_hp hpp ?_
  have hS1 : Sl (.slice A1 there.length c1) there ∈ R := hsub _ (by simp)
  have hS2 : Sl (.slice A2 gone.length c2) gone ∈ R := hsub _ (by simp)
  have hSF : Sl (.slice AF lF.length cF) lF ∈ R := hsub _ (by simp)
  have hSB : Sl (.slice AB lB.length cB) lB ∈ R := hsub _ (by simp)
  have hSS : Sl (.slice AS lS.length cS) lS ∈ R := hsub _ (by simp)
  have hSV : Sl (.slice AV lV.length cV) lV ∈ R := hsub _ (by simp)
  have hST : Sl (.slice AT lT.length cT) lT ∈ R := hsub _ (by simp)
  have hSC : Sl (.slice AC lC.length cC) lC ∈ R := hsub _ (by simp)
  clear hsub
  repeat' (first | (apply TC_seq) | (apply TC_region) | (apply T_load; exact rfl; ((first | refine pw_load_at rfl memr rfl ?_ | refine pw_load_at0 rfl memr rfl ?_)); refine T_nv ?_) | (refine T_pure rfl rfl ?_; ((refine pw_fieldAddr rfl ?_)); refine T_nv ?_) | (refine T_gen rfl rfl ?_; ((refine gw_buildSlice (by decide) prtp rfl (fun b => ?_))); refine T_nv ?_))
  refine T_ints [mode, at_, frame, bracket, scope, pars] rfl hI (by simp) ?_
  repeat' (fail)
  refine T_wr rfl rfl (numbers_w bw (some ⟨b, 0, none⟩) 6 [mode, at_, frame, bracket, scope, pars] (by simp)) (sub_cons List.mem_cons_self (fun _ h => (by cases h))) rfl rfl hb (fun hle0 v0 => ?_) (fun hgt => ?_)
  rotate_left
  · skip
    repeat' ((apply En_then_panic))
    exact En_panicked (fin_P H R (fun w hs => hs.weaken sbp kpp) (hp (by (omega))))
  refine T_nv ?_
  repeat' (first | (apply TC_seq) | (apply TC_region) | (apply T_nil) | (apply En_then) | (apply T_load; exact rfl; ((first | refine pw_load_at rfl memr rfl ?_ | refine pw_load_at0 rfl memr rfl ?_)); refine T_nv ?_) | (refine T_pure rfl rfl ?_; ((refine pw_fieldAddr rfl ?_)); refine T_nv ?_))
  refine T_wr rfl rfl (truth_w bw lax) (fun _ h => (by cases h)) rfl rfl (by rw [List.length_append]; exact hle0) (fun hle1 v1 => ?_) (fun hgt => ?_)
  rotate_left
  · skip
    repeat' ((apply En_then_panic))
    exact En_panicked (fin_P H R (fun w hs => hs.weaken sbp kpp) (hp (by ((simp only [List.length_append] at hgt ⊢; omega)))))
  refine T_nv ?_
  repeat' (first | (apply TC_seq) | (apply TC_region) | (apply T_nil) | (apply En_then) | (apply T_load; exact rfl; ((first | refine pw_load_at rfl memr rfl ?_ | refine pw_load_at0 rfl memr rfl ?_)); refine T_nv ?_) | (refine T_pure rfl rfl ?_; ((refine pw_fieldAddr rfl ?_)); refine T_nv ?_))
  refine T_wr rfl rfl (ints_w bw A1 c1 there h1) (sub_cons memt (fun _ h => (by cases h))) rfl rfl (by rw [List.length_append]; exact hle1) (fun hle2 v2 => ?_) (fun hgt => ?_)
  rotate_left
  · skip
    repeat' ((apply En_then_panic))
    exact En_panicked (fin_P H R (fun w hs => hs.weaken sbp kpp) (hp (by ((simp only [List.length_append] at hgt ⊢; omega)))))
  refine T_nv ?_
  repeat' (first | (apply TC_seq) | (apply TC_region) | (apply T_nil) | (apply En_then) | (apply T_load; exact rfl; ((first | refine pw_load_at rfl memr rfl ?_ | refine pw_load_at0 rfl memr rfl ?_)); refine T_nv ?_) | (refine T_pure rfl rfl ?_; ((refine pw_fieldAddr rfl ?_)); refine T_nv ?_))
  refine T_wr rfl rfl (ints_w bw A2 c2 gone h2) (sub_cons memt (fun _ h => (by cases h))) rfl rfl (by rw [List.length_append]; exact hle2) (fun hle3 v3 => ?_) (fun hgt => ?_)
  rotate_left
  · skip
    repeat' ((apply En_then_panic))
    exact En_panicked (fin_P H R (fun w hs => hs.weaken sbp kpp) (hp (by ((simp only [List.length_append] at hgt ⊢; omega)))))
  refine T_nv ?_
  repeat' (first | (apply TC_seq) | (apply TC_region) | (apply T_nil) | (apply En_then) | (apply T_load; exact rfl; ((first | refine pw_load_at rfl memr rfl ?_ | refine pw_load_at0 rfl memr rfl ?_)); refine T_nv ?_) | (refine T_pure rfl rfl ?_; ((first | refine pw_fieldAddr rfl ?_ | refine pw_makeFuncL agp agp ?_)); refine T_nv ?_))
  refine T_wr rfl rfl (put67_w hszF hclF hcoF bw AF cF lF 68 [.pointer (some ⟨bw, 0, none⟩)] [] oF [] hlF (fun x hx y hy => by rw [List.append_nil]; exact hF x hx y hy)) (sub_cons memt (fun _ h => (by cases h))) rfl rfl (by rw [List.length_append]; exact hle3) (fun hle4 v4 => ?_) (fun hgt => ?_)
  rotate_left
  · skip
    repeat' ((apply En_then_panic))
    exact En_panicked (fin_P H R (fun w hs => hs.weaken sbp kpp) (hp (by ((simp only [List.length_append] at hgt ⊢; omega)))))
  refine T_nv ?_
  repeat' (first | (apply TC_seq) | (apply TC_region) | (apply T_nil) | (apply En_then) | (apply T_load; exact rfl; ((first | refine pw_load_at rfl memr rfl ?_ | refine pw_load_at0 rfl memr rfl ?_)); refine T_nv ?_) | (refine T_pure rfl rfl ?_; ((first | refine pw_fieldAddr rfl ?_ | refine pw_makeFuncL agp agp ?_)); refine T_nv ?_))
  refine T_wr rfl rfl (put69_w hszB hclB hcoB bw AB cB lB 70 [.pointer (some ⟨bw, 0, none⟩)] [] oB [] hlB (fun x hx y hy => by rw [List.append_nil]; exact hB x hx y hy)) (sub_cons memt (fun _ h => (by cases h))) rfl rfl (by rw [List.length_append]; exact hle4) (fun hle5 v5 => ?_) (fun hgt => ?_)
  rotate_left
  · skip
    repeat' ((apply En_then_panic))
    exact En_panicked (fin_P H R (fun w hs => hs.weaken sbp kpp) (hp (by ((simp only [List.length_append] at hgt ⊢; omega)))))
  refine T_nv ?_
  repeat' (first | (apply TC_seq) | (apply TC_region) | (apply T_nil) | (apply En_then) | (apply T_load; exact rfl; ((first | refine pw_load_at rfl memr rfl ?_ | refine pw_load_at0 rfl memr rfl ?_)); refine T_nv ?_) | (refine T_pure rfl rfl ?_; ((first | refine pw_fieldAddr rfl ?_ | refine pw_makeFuncL agp agp ?_)); refine T_nv ?_))
  refine T_wr rfl rfl (put71_w hszS hclS hcoS bw AS cS lS 72 [.pointer (some ⟨bw, 0, none⟩)] [] oS [] hlS (fun x hx y hy => by rw [List.append_nil]; exact hS x hx y hy)) (sub_cons memt (fun _ h => (by cases h))) rfl rfl (by rw [List.length_append]; exact hle5) (fun hle6 v6 => ?_) (fun hgt => ?_)
  rotate_left
  · skip
    repeat' ((apply En_then_panic))
    exact En_panicked (fin_P H R (fun w hs => hs.weaken sbp kpp) (hp (by ((simp only [List.length_append] at hgt ⊢; omega)))))
  refine T_nv ?_
  repeat' (first | (refine T_load rfl ?_; refine pw_load_at (o := 0) (q := 12) rfl memt rfl ?_; refine T_nv ?_) | (apply TC_seq) | (apply TC_region) | (apply T_nil) | (apply En_then) | (apply T_load; exact rfl; ((refine pw_load_at0 rfl memr rfl ?_)); refine T_nv ?_) | (refine T_pure rfl rfl ?_; ((first | refine pw_fieldAddr rfl ?_ | refine pw_makeFuncL agp agp ?_)); refine T_nv ?_))
  refine T_wr rfl rfl (put73_w hszV hclV hcoV bw AV cV lV 74 [.pointer (some ⟨bw, 0, none⟩)] [] oV [] hlV (fun x hx y hy => by rw [List.append_nil]; exact hV x hx y hy)) (sub_cons memt (fun _ h => (by cases h))) rfl rfl (by rw [List.length_append]; exact hle6) (fun hle7 v7 => ?_) (fun hgt => ?_)
  rotate_left
  · skip
    repeat' ((apply En_then_panic))
    exact En_panicked (fin_P H R (fun w hs => hs.weaken sbp kpp) (hp (by ((simp only [List.length_append] at hgt ⊢; omega)))))
  refine T_nv ?_
  repeat' (first | (apply TC_seq) | (apply TC_region) | (apply T_nil) | (apply En_then) | (apply T_load; exact rfl; ((first | refine pw_load_at rfl memr rfl ?_ | refine pw_load_at0 rfl memr rfl ?_)); refine T_nv ?_) | (refine T_pure rfl rfl ?_; ((first | refine pw_fieldAddr rfl ?_ | refine pw_makeFuncL agp agp ?_)); refine T_nv ?_))
  refine T_wr rfl rfl (put75_w hszT hclT hcoT bw AT cT lT 76 [] [.pointer (some ⟨b2, 0, none⟩)] oT [At b2 0 [.pointer (some ⟨bw, 0, none⟩)]] hlT (fun x hx y hy => hT b2 x hx y hy)) (sub_cons memt (sub_cons memt (fun _ h => (by cases h)))) rfl rfl (by rw [List.length_append]; exact hle7) (fun hle8 v8 => ?_) (fun hgt => ?_)
  rotate_left
  · skip
    repeat' ((apply En_then_panic))
    exact En_panicked (fin_P H R (fun w hs => hs.weaken sbp kpp) (hp (by ((simp only [List.length_append] at hgt ⊢; omega)))))
  refine T_nv ?_
  repeat' (first | (apply TC_seq) | (apply TC_region) | (apply T_nil) | (apply En_then) | (apply T_load; exact rfl; ((first | refine pw_load_at rfl memr rfl ?_ | refine pw_load_at0 rfl memr rfl ?_)); refine T_nv ?_) | (refine T_pure rfl rfl ?_; ((first | refine pw_fieldAddr rfl ?_ | refine pw_makeFuncL agp agp ?_)); refine T_nv ?_))
  refine T_wr rfl rfl (put78_w hszC hclC hcoC bw AC cC lC 79 [.pointer (some ⟨bw, 0, none⟩)] [] oC [] hlC (fun x hx y hy => by rw [List.append_nil]; exact hC x hx y hy)) (sub_cons memt (fun _ h => (by cases h))) rfl rfl (by rw [List.length_append]; exact hle8) (fun hle9 v9 => ?_) (fun hgt => ?_)
  rotate_left
  · skip
    repeat' ((apply En_then_panic))
    exact En_panicked (fin_P H R (fun w hs => hs.weaken sbp kpp) (hp (by ((simp only [List.length_append] at hgt ⊢; omega)))))
  refine T_nv ?_
  repeat' (first | (apply TC_region) | (apply T_nil) | (apply En_then) | (apply T_load; exact rfl; ((first | refine pw_load_at rfl memr rfl ?_ | refine pw_load_at0 rfl memr rfl ?_)); refine T_nv ?_) | (refine T_pure rfl rfl ?_; ((refine pw_fieldAddr rfl ?_)); refine T_nv ?_))
  refine T_wr rfl rfl (number_w bw steps hIs) (fun _ h => (by cases h)) rfl rfl (by rw [List.length_append]; exact hle9) (fun hle10 v10 => ?_) (fun hgt => ?_)
  rotate_left
  · skip
    repeat' (fail)
    exact En_panicked (fin_P H R (fun w hs => hs.weaken sbp kpp) (hp (by ((simp only [List.length_append] at hgt ⊢; omega)))))
  refine T_nv ?_
  repeat' ((apply T_nil))
  refine En_fin (.inr rfl) (res0 rfl) (fin_R _ R (fun w hs => ?_) (hk (by simp only [List.length_append] at hle10 ⊢; omega) v10))
  simp only [List.append_assoc] at hs ⊢
  exact hs.weaken sbp kpp
end Go.Proofs.Ytggdljhmbckpmaa
namespace Go.Proofs.Ytggdljhmbckpmaa
open Go Go.RowKit
set_option maxRecDepth 100000
set_option maxHeartbeats 1600000

theorem CallsK_post {P : Program} {w0 : World} {f : FuncId} {args : Array Value} {H : List Hp} {R : List MP} {K K' : Value → List Hp → List MP → Prop} (h : CallsK P w0 f args H R K') (hk : ∀ v H' R', K' v H' R' → ∃ H2 R2, (∀ w, S w0 w H' R' → S w0 w H2 R2) ∧ K v H2 R2) : CallsK P w0 f args H R K := by
  unfold CallsK at *
  exact fun w hs => (h w hs).mono (fun e w' ⟨v, H', R', e1, hs', k⟩ => by
    obtain ⟨H2, R2, h1, h2⟩ := hk v H' R' k
    exact ⟨v, H2, R2, e1, h1 w' hs', h2⟩)
structure Dum (n : Nat) where
  x : Unit
instance (n : Nat) : Rep (Dum n) := ⟨n, fun _ _ _ => False, fun _ h => h, fun h => h.elim, fun h => h.elim⟩
instance (n : Nat) : Unp (Dum n) := ⟨Unit, fun _ _ => List.replicate n (.int .i64 0), fun _ _ => False, fun _ _ => [], fun h => h.elim, fun h _ => h.elim⟩
theorem dum_len (n : Nat) (x : Dum n) (y : Unp.Y (Dum n)) : (Unp.cs x y).length = n := List.length_replicate
theorem dum_one (n : Nat) (x : Dum n) (y : Unp.Y (Dum n)) : ∀ u ∈ Unp.cs x y, u.oneCell' = true := fun u hu => by
  obtain ⟨_, rfl⟩ := List.mem_replicate.1 hu
  rfl
def encZ : List UInt8 := [109, 97, 1, 0, 0, 0, 0, 0, 0, 0, 0, 0, 0, 0, 0, 0, 0, 0, 0]
theorem encode0_k {w0 : World} {H : List Hp} {R : List MP} {K : Value → List Hp → List MP → Prop} (k : KB K (encZ, 0) H R) : CallsK Try.prog w0 11 #[.agg #[.int .i64 0, .int .i64 0, .int .i64 0, .int .i64 0, .int .i64 0, .int .i64 0, .bool false, .slice none 0 0, .slice none 0 0, .slice none 0 0, .slice none 0 0, .slice none 0 0, .slice none 0 0, .slice none 0 0, .slice none 0 0, .int .i64 0]] H R K := by
  refine CallsK_learn (Sl (.slice none 0 0) ([] : List Int)) (fun s _ => Sl_nil Int s) ?_
  refine CallsK_learn (Sl (.slice none 0 0) ([] : List (Dum 5))) (fun s _ => Sl_nil _ s) ?_
  refine CallsK_learn (Sl (.slice none 0 0) ([] : List (Dum 7))) (fun s _ => Sl_nil _ s) ?_
  refine CallsK_learn (Sl (.slice none 0 0) ([] : List (Dum 8))) (fun s _ => Sl_nil _ s) ?_
  refine CallsK_learn (Sl (.slice none 0 0) ([] : List (Dum 9))) (fun s _ => Sl_nil _ s) ?_
  refine CallsK_learn (Sl (.slice none 0 0) ([] : List (Dum 18))) (fun s _ => Sl_nil _ s) ?_
  refine CallsK_post (K' := fun v H' R' => ∃ A c, v = .tuple #[.slice A encZ.length c, .int .i64 0] ∧ H' = H ∧ R' = Sl (.slice A encZ.length c) encZ :: _) (encode_k [.int .i64 0, .int .i64 0, .int .i64 0, .int .i64 0, .int .i64 0, .int .i64 0, .bool false, .slice none 0 0, .slice none 0 0, .slice none 0 0, .slice none 0 0, .slice none 0 0, .slice none 0 0, .slice none 0 0, .slice none 0 0, .int .i64 0] _
    (fun bw => state_w bw (αF := Dum 5) (αB := Dum 7) (αS := Dum 7) (αV := Dum 8) (αT := Dum 9) (αC := Dum 18) 0 0 0 0 0 0 0 false (by intro x hx; simp at hx; subst hx; simp [InI]) (by simp [InI]) none 0 [] (by simp) none 0 [] (by simp)
      rfl (dum_len 5) (dum_one 5) none 0 [] (by simp) (fun _ => []) (fun x hx => by cases hx)
      rfl (dum_len 7) (dum_one 7) none 0 [] (by simp) (fun _ => []) (fun x hx => by cases hx)
      rfl (dum_len 7) (dum_one 7) none 0 [] (by simp) (fun _ => []) (fun x hx => by cases hx)
      rfl (dum_len 8) (dum_one 8) none 0 [] (by simp) (fun _ => []) (fun x hx => by cases hx)
      rfl (dum_len 9) (dum_one 9) none 0 [] (by simp) (fun _ => []) (fun b2 x hx => by cases hx)
      rfl (dum_len 18) (dum_one 18) none 0 [] (by simp) (fun _ => []) (fun x hx => by cases hx)) rfl ?_ (fun A c => ⟨A, c, rfl, rfl, rfl⟩)) ?_
  · intro p hp
    simp only [List.mem_cons, List.not_mem_nil, or_false] at hp
    rcases hp with rfl | rfl | rfl | rfl | rfl | rfl | rfl | rfl <;> simp
  · rintro v H' R' ⟨A, c, rfl, rfl, rfl⟩
    exact ⟨H', Sl (.slice A encZ.length c) encZ :: R, fun w hs => hs.weaken sbp (sub_cons List.mem_cons_self (fun p hp => by simp [hp])), k A c⟩
end Go.Proofs.Ytggdljhmbckpmaa
namespace Go.Proofs.Ytggdljhmbckpmaa
open Go Go.RowKit
set_option maxRecDepth 100000
set_option maxHeartbeats 1600000

theorem state_wm {w0 : World} (bw : Nat) (x : MaD) (y : Unp.Y MaD) (hok : Unp.ok x y) : Wr Try.prog w0 (Unp.fs x y) 37 [.pointer (some ⟨bw, 0, none⟩), .agg (Unp.cs x y).toArray] bw (Cod.enc x) := by
  obtain ⟨n1, n2, n3, n4, n5, n6, b1, l1, l2, lF, lB, lS, lV, lT, lC, n7⟩ := x
  obtain ⟨u1, u2, u3, u4, u5, u6, u7, ⟨A1, c1⟩, ⟨A2, c2⟩, ⟨AF, cF⟩, ⟨AB, cB⟩, ⟨AS, cS⟩, ⟨AV, cV⟩, ⟨AT, cT⟩, ⟨AC, cC⟩, u8⟩ := y
  obtain ⟨h1, h2, h3, h4, h5, h6, _, g1, g2, gF, gB, gS, gV, gT, gC, h7⟩ := hok
  exact Wr_eq (state_w bw (αF := FrD) (αB := BrD) (αS := ScD) (αV := VaD) (αT := TrD) (αC := ChD) n1 n2 n3 n4 n5 n6 n7 b1 (by intro x hx; simp only [List.mem_cons, List.not_mem_nil, or_false] at hx; rcases hx with rfl | rfl | rfl | rfl | rfl | rfl <;> assumption) h7 A1 c1 l1 (Nat.le_trans g1.1 g1.2) A2 c2 l2 (Nat.le_trans g2.1 g2.2)
    rfl UnpL.len UnpL.one AF cF lF (Nat.le_trans gF.1 gF.2) Cod.enc (fun x _ y hy => frame_w bw x y hy)
    rfl UnpL.len UnpL.one AB cB lB (Nat.le_trans gB.1 gB.2) Cod.enc (fun x _ y hy => bracket_w bw x y hy)
    rfl UnpL.len UnpL.one AS cS lS (Nat.le_trans gS.1 gS.2) Cod.enc (fun x _ y hy => scope_w bw x y hy)
    rfl UnpL.len UnpL.one AV cV lV (Nat.le_trans gV.1 gV.2) Cod.enc (fun x _ y hy => val_w bw x y hy)
    rfl UnpL.len UnpL.one AT cT lT (Nat.le_trans gT.1 gT.2) Cod.enc (fun b2 x _ y hy => trail_w bw b2 x y hy)
    rfl UnpL.len UnpL.one AC cC lC (Nat.le_trans gC.1 gC.2) Cod.enc (fun x _ y hy => choice_w bw x y hy)) (by simp only [Cod.enc, intsB, List.flatMap_cons, List.flatMap_nil, List.append_nil, List.append_assoc]) rfl
/-- What Encode returns. -/
def encM (m : MaD) : List UInt8 × Int := encR (Cod.enc m)
theorem encM_eq (m : MaD) : encM m = if (stB m).length ≤ 250000 then (stB m, 0) else ([], 2) := by
  unfold encM encR stB headMa
  rw [List.length_append]; rfl
theorem encodeM_k {w0 : World} {H : List Hp} {R : List MP} {K : Value → List Hp → List MP → Prop} (m : MaD) (y : Unp.Y MaD) (hok : Unp.ok m y) (hsub : ∀ p ∈ Unp.fs m y, p ∈ R) (k : KB K (encM m) H R) : CallsK Try.prog w0 11 #[.agg (Unp.cs m y).toArray] H R K :=
  encode_k (Unp.cs m y) (Cod.enc m) (fun bw => state_wm bw m y hok) (UnpL.len m y) hsub k
end Go.Proofs.Ytggdljhmbckpmaa
