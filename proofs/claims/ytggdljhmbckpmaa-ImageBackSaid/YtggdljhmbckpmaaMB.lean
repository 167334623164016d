/- Structs written: walks, printed by gen_wr.py. Encode: walk, of any state. -/
import Derived.Test.YtggdljhmbckpmaaMA
import Derived.Test.YtggdljhmbckpmaaE5
import Derived.Test.YtggdljhmbckpmaaE8
set_option linter.unusedVariables false
set_option linter.unusedSimpArgs false
namespace Go.Proofs.Ytggdljhmbckpmaa
open Go Go.RowKit
set_option maxRecDepth 100000
set_option maxHeartbeats 1600000

theorem trail_x {w0 : World} (bw : Nat) (b2 : Nat) (n1 : Int) (hn1 : InI n1) (lv : Int) (hlv : InI lv) (tn : ByteArray) (htn : tn.size ≤ 9223372036854775807) (Atx : Option Addr) (ctx : Nat) (tx : List Tp) (htx : tx.length ≤ 9223372036854775807) (bo : Bool) (kk : Int) (hkk : InI kk) (ki : Int) (hki : InI ki) (kn : ByteArray) (hkn : kn.size ≤ 9223372036854775807) (Akx : Option Addr) (ckx : Nat) (kx : List Tm) (hkx : kx.length ≤ 9223372036854775807) : Wr Try.prog w0 [Sl (.slice Atx tx.length ctx) tx, Sl (.slice Akx kx.length ckx) kx, At b2 0 [.pointer (some ⟨bw, 0, none⟩)]] 76 [.agg #[.int .i64 n1, .int .i64 lv, .string tn, .slice Atx tx.length ctx, .bool bo, .int .i64 kk, .int .i64 ki, .string kn, .slice Akx kx.length ckx], .pointer (some ⟨b2, 0, none⟩)] bw (numB n1 ++ ((Cod.enc (α := VaD) (lv, .mk tn tx, bo, .mk kk ki kn kx)))) := by
  intro H R K KP bs v hsub hb hk hp
  try simp only [List.length_append] at hp
  refine callsP_of Try.func76 rfl Try.ntmps76 nep ?_
  apply TC_seq; apply TC_region
  repeat' ((refine T_gen rfl rfl ?_; ((refine gw_box clp (fun b => ?_))); refine T_nv ?_))
  apply T_nil; apply En_then
  refine TC_freeze 0 rfl ?_
  refine TC_hp hpp ?_
  have hS0 : Sl (.slice Atx tx.length ctx) tx ∈ R := hsub _ (by simp)
  have hS1 : Sl (.slice Akx kx.length ckx) kx ∈ R := hsub _ (by simp)
  have hB : At b2 0 [.pointer (some ⟨bw, 0, none⟩)] ∈ R := hsub _ (by simp)
  clear hsub
  repeat' (first | (apply TC_seq) | (apply TC_region) | (apply T_load; exact rfl; ((first | refine pw_load_at rfl memr rfl ?_ | refine pw_load_at0 rfl memr rfl ?_)); refine T_nv ?_) | (refine T_pure rfl rfl ?_; ((refine pw_fieldAddr rfl ?_)); refine T_nv ?_))
  refine T_wr rfl rfl (number_w bw n1 hn1) (fun _ h => (by cases h)) rfl rfl hb (fun hle0 v0 => ?_) (fun hgt => ?_)
  rotate_left
  · skip
    repeat' ((apply En_then_panic))
    exact En_panicked (fin_P H R (fun w hs => hs.weaken sbp kpp) (hp (by (omega))))
  refine T_nv ?_
  repeat' (first | (apply TC_region) | (apply T_nil) | (apply En_then) | (apply T_load; exact rfl; ((first | refine pw_load_at rfl memr rfl ?_ | refine pw_load_at0 rfl memr rfl ?_)); refine T_nv ?_) | (refine T_pure rfl rfl ?_; ((refine pw_fieldAddr rfl ?_)); refine T_nv ?_))
  refine T_wr rfl rfl (val_w bw (lv, .mk tn tx, bo, .mk kk ki kn kx) ((), (Atx, ctx), (), (Akx, ckx)) ⟨hlv, ⟨htn, htx⟩, trivial, hkk, hki, hkn, hkx⟩) (sub_cons memt (sub_cons memt (fun _ h => (by cases h)))) rfl rfl (by rw [List.length_append]; exact hle0) (fun hle1 v1 => ?_) (fun hgt => ?_)
  rotate_left
  · skip
    repeat' (fail)
    exact En_panicked (fin_P H R (fun w hs => hs.weaken sbp kpp) (hp (by ((simp only [List.length_append] at hgt ⊢; omega)))))
  refine T_nv ?_
  repeat' ((apply T_nil))
  refine En_fin (.inr rfl) (res0 rfl) (fin_R _ R (fun w hs => ?_) (hk (by ((simp only [List.length_append] at hle1 ⊢; omega))) v1))
  try simp only [List.append_assoc] at hs ⊢
  exact hs.weaken sbp kpp
theorem trail_w {w0 : World} (bw b2 : Nat) (x : TrD) (y : Unp.Y TrD) (hok : Unp.ok x y) : Wr Try.prog w0 (Unp.fs x y ++ [At b2 0 [.pointer (some ⟨bw, 0, none⟩)]]) 76 [.agg (Unp.cs x y).toArray, .pointer (some ⟨b2, 0, none⟩)] bw (Cod.enc x) := by
  obtain ⟨n1, lv, ⟨tn, tx⟩, bo, ⟨k, i, kn, kx⟩⟩ := x
  obtain ⟨u0, u1, ⟨A1, c1⟩, u3, ⟨A2, c2⟩⟩ := y
  obtain ⟨h0, h1, ⟨h2, h3⟩, _, h4, h5, h6, h7⟩ := hok
  exact Wr_eq (trail_x bw b2 n1 h0 lv h1 tn h2 A1 c1 tx h3 bo k h4 i h5 kn h6 A2 c2 kx h7) (by simp only [Cod.enc, intsB, List.flatMap_cons, List.flatMap_nil, List.append_nil, List.append_assoc]) rfl
theorem try_x {w0 : World} (bw : Nat) (b2 : Nat) (n1 : Int) (hn1 : InI n1) (n2 : Int) (hn2 : InI n2) (n3 : Int) (hn3 : InI n3) : Wr Try.prog w0 [At b2 0 [.pointer (some ⟨bw, 0, none⟩)]] 109 [.agg #[.int .i64 n1, .int .i64 n2, .int .i64 n3], .pointer (some ⟨b2, 0, none⟩)] bw ([n1, n2, n3].flatMap numB) := by
  intro H R K KP bs v hsub hb hk hp
  try simp only [List.length_append] at hp
  refine callsP_of Try.func109 rfl Try.ntmps109 nep ?_
  apply TC_seq; apply TC_region
  repeat' ((refine T_gen rfl rfl ?_; ((refine gw_box clp (fun b => ?_))); refine T_nv ?_))
  apply T_nil; apply En_then
  refine TC_freeze 0 rfl ?_
  refine TC_hp hpp ?_
  have hB : At b2 0 [.pointer (some ⟨bw, 0, none⟩)] ∈ R := hsub _ (by simp)
  clear hsub
  repeat' (first | (apply TC_region) | (apply T_load; exact rfl; ((first | refine pw_load_at rfl memr rfl ?_ | refine pw_load_at0 rfl memr rfl ?_)); refine T_nv ?_) | (refine T_pure rfl rfl ?_; ((refine pw_fieldAddr rfl ?_)); refine T_nv ?_) | (refine T_gen rfl rfl ?_; ((refine gw_buildSlice (by decide) prtp rfl (fun b => ?_))); refine T_nv ?_))
  refine T_ints [n1, n2, n3] rfl (by intro x hx; simp only [List.mem_cons, List.not_mem_nil, or_false] at hx; rcases hx with rfl | rfl | rfl <;> assumption) (by simp) ?_
  repeat' (fail)
  refine T_wr rfl rfl (numbers_w bw (some ⟨b, 0, none⟩) 3 [n1, n2, n3] (by simp)) (sub_cons List.mem_cons_self (fun _ h => (by cases h))) rfl rfl hb (fun hle0 v0 => ?_) (fun hgt => ?_)
  rotate_left
  · skip
    repeat' (fail)
    exact En_panicked (fin_P H R (fun w hs => hs.weaken sbp kpp) (hp (by (omega))))
  refine T_nv ?_
  repeat' ((apply T_nil))
  refine En_fin (.inr rfl) (res0 rfl) (fin_R _ R (fun w hs => ?_) (hk (by (omega)) v0))
  try simp only [List.append_assoc] at hs ⊢
  exact hs.weaken sbp kpp
theorem try_w {w0 : World} (bw b2 : Nat) (x : TyD) (y : Unp.Y TyD) (hok : Unp.ok x y) : Wr Try.prog w0 (Unp.fs x y ++ [At b2 0 [.pointer (some ⟨bw, 0, none⟩)]]) 109 [.agg (Unp.cs x y).toArray, .pointer (some ⟨b2, 0, none⟩)] bw (Cod.enc x) := by
  obtain ⟨n1, n2, n3⟩ := x
  obtain ⟨h1, h2, h3⟩ := hok
  exact Wr_eq (try_x bw b2 n1 h1 n2 h2 n3 h3) (by simp only [Cod.enc, intsB, List.flatMap_cons, List.flatMap_nil, List.append_nil, List.append_assoc]) rfl
theorem choice_x {w0 : World} (bw : Nat) (n1 : Int) (hn1 : InI n1) (Al1 : Option Addr) (cl1 : Nat) (l1 : List TyD) (hl1 : l1.length ≤ 9223372036854775807) (Al2 : Option Addr) (cl2 : Nat) (l2 : List Tm) (hl2 : l2.length ≤ 9223372036854775807) (n2 : Int) (hn2 : InI n2) (n3 : Int) (hn3 : InI n3) (n4 : Int) (hn4 : InI n4) (n5 : Int) (hn5 : InI n5) (n6 : Int) (hn6 : InI n6) (n7 : Int) (hn7 : InI n7) (n8 : Int) (hn8 : InI n8) (b1 : Bool) (Al3 : Option Addr) (cl3 : Nat) (l3 : List Int) (hl3 : l3.length ≤ 9223372036854775807) (Al4 : Option Addr) (cl4 : Nat) (l4 : List Int) (hl4 : l4.length ≤ 9223372036854775807) (m1 : Int) (hm1 : InI m1) (m2 : Int) (hm2 : InI m2) (m3 : Int) (hm3 : InI m3) (m4 : Int) (hm4 : InI m4) (m5 : Int) (hm5 : InI m5) : Wr Try.prog w0 [Sl (.slice Al1 l1.length cl1) l1, Sl (.slice Al2 l2.length cl2) l2, Sl (.slice Al3 l3.length cl3) l3, Sl (.slice Al4 l4.length cl4) l4] 79 [.pointer (some ⟨bw, 0, none⟩), .agg #[.int .i64 n1, .slice Al1 l1.length cl1, .slice Al2 l2.length cl2, .int .i64 n2, .int .i64 n3, .int .i64 n4, .int .i64 n5, .int .i64 n6, .int .i64 n7, .int .i64 n8, .bool b1, .slice Al3 l3.length cl3, .slice Al4 l4.length cl4, .int .i64 m1, .int .i64 m2, .int .i64 m3, .int .i64 m4, .int .i64 m5]] bw (numB n1 ++ ((numB l1.length ++ l1.flatMap Cod.enc) ++ ((numB l2.length ++ l2.flatMap Tm.enc) ++ ([n2, n3, n4, n5, n6, n7, n8].flatMap numB ++ (truthB b1 ++ (intsB l3 ++ (intsB l4 ++ ([m1, m2, m3, m4, m5].flatMap numB)))))))) := by
  intro H R K KP bs v hsub hb hk hp
  try simp only [List.length_append] at hp
  refine callsP_of Try.func79 rfl Try.ntmps79 nep ?_
  apply TC_seq; apply TC_region
  repeat' ((refine T_gen rfl rfl ?_; ((refine gw_box clp (fun b => ?_))); refine T_nv ?_))
  apply T_nil; apply En_then
  rename_i b2
  refine TC_freeze 0 rfl ?_
  refine TC_freeze 0 rfl ?_
  refine TC_hp hpp ?_
  have hS0 : Sl (.slice Al1 l1.length cl1) l1 ∈ R := hsub _ (by simp)
  have hS1 : Sl (.slice Al2 l2.length cl2) l2 ∈ R := hsub _ (by simp)
  have hS2 : Sl (.slice Al3 l3.length cl3) l3 ∈ R := hsub _ (by simp)
  have hS3 : Sl (.slice Al4 l4.length cl4) l4 ∈ R := hsub _ (by simp)
  clear hsub
  repeat' (first | (apply TC_seq) | (apply TC_region) | (apply T_load; exact rfl; ((first | refine pw_load_at rfl memr rfl ?_ | refine pw_load_at0 rfl memr rfl ?_)); refine T_nv ?_) | (refine T_pure rfl rfl ?_; ((refine pw_fieldAddr rfl ?_)); refine T_nv ?_))
  refine T_wr rfl rfl (number_w bw n1 hn1) (fun _ h => (by cases h)) rfl rfl hb (fun hle0 v0 => ?_) (fun hgt => ?_)
  rotate_left
  · skip
    repeat' ((apply En_then_panic))
    exact En_panicked (fin_P H R (fun w hs => hs.weaken sbp kpp) (hp (by (omega))))
  refine T_nv ?_
  repeat' (first | (apply TC_seq) | (apply TC_region) | (apply T_nil) | (apply En_then) | (apply T_load; exact rfl; ((first | refine pw_load_at rfl memr rfl ?_ | refine pw_load_at0 rfl memr rfl ?_)); refine T_nv ?_) | (refine T_pure rfl rfl ?_; ((first | refine pw_fieldAddr rfl ?_ | refine pw_makeFuncL agp agp ?_)); refine T_nv ?_))
  refine T_wr rfl rfl (put108_w rfl UnpL.len UnpL.one bw Al1 cl1 l1 109 [] [.pointer (some ⟨b2, 0, none⟩)] Cod.enc [At b2 0 [.pointer (some ⟨bw, 0, none⟩)]] hl1 (fun x hx y hy => try_w bw b2 x y hy)) (sub_cons memt (sub_cons memt (fun _ h => (by cases h)))) rfl rfl (by rw [List.length_append]; exact hle0) (fun hle1 v1 => ?_) (fun hgt => ?_)
  rotate_left
  · skip
    repeat' ((apply En_then_panic))
    exact En_panicked (fin_P H R (fun w hs => hs.weaken sbp kpp) (hp (by ((simp only [List.length_append] at hgt ⊢; omega)))))
  refine T_nv ?_
  repeat' (first | (apply TC_seq) | (apply TC_region) | (apply T_nil) | (apply En_then) | (apply T_load; exact rfl; ((first | refine pw_load_at rfl memr rfl ?_ | refine pw_load_at0 rfl memr rfl ?_)); refine T_nv ?_) | (refine T_pure rfl rfl ?_; ((first | refine pw_fieldAddr rfl ?_ | refine pw_makeFuncL agp agp ?_)); refine T_nv ?_))
  refine T_wr rfl rfl (put104_w rfl UnpL.len UnpL.one bw Al2 cl2 l2 105 [.pointer (some ⟨bw, 0, none⟩)] [] Tm.enc [] hl2 (fun x hx y hy => by rw [List.append_nil]; exact term_w bw x y hy)) (sub_cons memt (fun _ h => (by cases h))) rfl rfl (by rw [List.length_append]; exact hle1) (fun hle2 v2 => ?_) (fun hgt => ?_)
  rotate_left
  · skip
    repeat' ((apply En_then_panic))
    exact En_panicked (fin_P H R (fun w hs => hs.weaken sbp kpp) (hp (by ((simp only [List.length_append] at hgt ⊢; omega)))))
  refine T_nv ?_
  repeat' (first | (apply TC_seq) | (apply TC_region) | (apply T_nil) | (apply En_then) | (apply T_load; exact rfl; ((first | refine pw_load_at rfl memr rfl ?_ | refine pw_load_at0 rfl memr rfl ?_)); refine T_nv ?_) | (refine T_pure rfl rfl ?_; ((refine pw_fieldAddr rfl ?_)); refine T_nv ?_) | (refine T_gen rfl rfl ?_; ((refine gw_buildSlice (by decide) prtp rfl (fun b => ?_))); refine T_nv ?_))
  refine T_ints [n2, n3, n4, n5, n6, n7, n8] rfl (by intro x hx; simp only [List.mem_cons, List.not_mem_nil, or_false] at hx; rcases hx with rfl | rfl | rfl | rfl | rfl | rfl | rfl <;> assumption) (by simp) ?_
  repeat' (fail)
  refine T_wr rfl rfl (numbers_w bw (some ⟨b, 0, none⟩) 7 [n2, n3, n4, n5, n6, n7, n8] (by simp)) (sub_cons List.mem_cons_self (fun _ h => (by cases h))) rfl rfl (by rw [List.length_append]; exact hle2) (fun hle3 v3 => ?_) (fun hgt => ?_)
  rotate_left
  · skip
    repeat' ((apply En_then_panic))
    exact En_panicked (fin_P H R (fun w hs => hs.weaken sbp kpp) (hp (by ((simp only [List.length_append] at hgt ⊢; omega)))))
  refine T_nv ?_
  repeat' (first | (apply TC_seq) | (apply TC_region) | (apply T_nil) | (apply En_then) | (apply T_load; exact rfl; ((first | refine pw_load_at rfl memr rfl ?_ | refine pw_load_at0 rfl memr rfl ?_)); refine T_nv ?_) | (refine T_pure rfl rfl ?_; ((refine pw_fieldAddr rfl ?_)); refine T_nv ?_))
  refine T_wr rfl rfl (truth_w bw b1) (fun _ h => (by cases h)) rfl rfl (by rw [List.length_append]; exact hle3) (fun hle4 v4 => ?_) (fun hgt => ?_)
  rotate_left
  · skip
    repeat' ((apply En_then_panic))
    exact En_panicked (fin_P H R (fun w hs => hs.weaken sbp kpp) (hp (by ((simp only [List.length_append] at hgt ⊢; omega)))))
  refine T_nv ?_
  repeat' (first | (apply TC_seq) | (apply TC_region) | (apply T_nil) | (apply En_then) | (apply T_load; exact rfl; ((first | refine pw_load_at rfl memr rfl ?_ | refine pw_load_at0 rfl memr rfl ?_)); refine T_nv ?_) | (refine T_pure rfl rfl ?_; ((refine pw_fieldAddr rfl ?_)); refine T_nv ?_))
  refine T_wr rfl rfl (ints_w bw Al3 cl3 l3 hl3) (sub_cons memt (fun _ h => (by cases h))) rfl rfl (by rw [List.length_append]; exact hle4) (fun hle5 v5 => ?_) (fun hgt => ?_)
  rotate_left
  · skip
    repeat' ((apply En_then_panic))
    exact En_panicked (fin_P H R (fun w hs => hs.weaken sbp kpp) (hp (by ((simp only [List.length_append] at hgt ⊢; omega)))))
  refine T_nv ?_
  repeat' (first | (apply TC_seq) | (apply TC_region) | (apply T_nil) | (apply En_then) | (apply T_load; exact rfl; ((first | refine pw_load_at rfl memr rfl ?_ | refine pw_load_at0 rfl memr rfl ?_)); refine T_nv ?_) | (refine T_pure rfl rfl ?_; ((refine pw_fieldAddr rfl ?_)); refine T_nv ?_))
  refine T_wr rfl rfl (ints_w bw Al4 cl4 l4 hl4) (sub_cons memt (fun _ h => (by cases h))) rfl rfl (by rw [List.length_append]; exact hle5) (fun hle6 v6 => ?_) (fun hgt => ?_)
  rotate_left
  · skip
    repeat' ((apply En_then_panic))
    exact En_panicked (fin_P H R (fun w hs => hs.weaken sbp kpp) (hp (by ((simp only [List.length_append] at hgt ⊢; omega)))))
  refine T_nv ?_
  repeat' (first | (apply TC_region) | (apply T_nil) | (apply En_then) | (apply T_load; exact rfl; ((first | refine pw_load_at rfl memr rfl ?_ | refine pw_load_at0 rfl memr rfl ?_)); refine T_nv ?_) | (refine T_pure rfl rfl ?_; ((refine pw_fieldAddr rfl ?_)); refine T_nv ?_) | (refine T_gen rfl rfl ?_; ((refine gw_buildSlice (by decide) prtp rfl (fun b => ?_))); refine T_nv ?_))
  refine T_ints [m1, m2, m3, m4, m5] rfl (by intro x hx; simp only [List.mem_cons, List.not_mem_nil, or_false] at hx; rcases hx with rfl | rfl | rfl | rfl | rfl <;> assumption) (by simp) ?_
  repeat' (fail)
  refine T_wr rfl rfl (numbers_w bw (some ⟨b, 0, none⟩) 5 [m1, m2, m3, m4, m5] (by simp)) (sub_cons List.mem_cons_self (fun _ h => (by cases h))) rfl rfl (by rw [List.length_append]; exact hle6) (fun hle7 v7 => ?_) (fun hgt => ?_)
  rotate_left
  · skip
    repeat' (fail)
    exact En_panicked (fin_P H R (fun w hs => hs.weaken sbp kpp) (hp (by ((simp only [List.length_append] at hgt ⊢; omega)))))
  refine T_nv ?_
  repeat' ((apply T_nil))
  refine En_fin (.inr rfl) (res0 rfl) (fin_R _ R (fun w hs => ?_) (hk (by ((simp only [List.length_append] at hle7 ⊢; omega))) v7))
  try simp only [List.append_assoc] at hs ⊢
  exact hs.weaken sbp kpp
theorem choice_w {w0 : World} (bw : Nat) (x : ChD) (y : Unp.Y ChD) (hok : Unp.ok x y) : Wr Try.prog w0 (Unp.fs x y) 79 [.pointer (some ⟨bw, 0, none⟩), .agg (Unp.cs x y).toArray] bw (Cod.enc x) := by
  obtain ⟨n1, l1, l2, n2, n3, n4, n5, n6, n7, n8, b1, l3, l4, m1, m2, m3, m4, m5⟩ := x
  obtain ⟨u1, ⟨A1, c1⟩, ⟨A2, c2⟩, u2, u3, u4, u5, u6, u7, u8, u9, ⟨A3, c3⟩, ⟨A4, c4⟩, w1, w2, w3, w4, w5⟩ := y
  obtain ⟨h1, g1, g2, h2, h3, h4, h5, h6, h7, h8, _, g3, g4, k1, k2, k3, k4, k5⟩ := hok
  exact Wr_eq (choice_x bw n1 h1 A1 c1 l1 (Nat.le_trans g1.1 g1.2) A2 c2 l2 (Nat.le_trans g2.1 g2.2) n2 h2 n3 h3 n4 h4 n5 h5 n6 h6 n7 h7 n8 h8 b1 A3 c3 l3 (Nat.le_trans g3.1 g3.2) A4 c4 l4 (Nat.le_trans g4.1 g4.2) m1 k1 m2 k2 m3 k3 m4 k4 m5 k5) (by simp only [Cod.enc, intsB, List.flatMap_cons, List.flatMap_nil, List.append_nil, List.append_assoc]) rfl
end Go.Proofs.Ytggdljhmbckpmaa
namespace Go.Proofs.Ytggdljhmbckpmaa
open Go Go.RowKit
set_option maxRecDepth 100000
set_option maxHeartbeats 1600000

theorem state_wm {w0 : World} (bw : Nat) (x : MaD) (y : Unp.Y MaD) (hok : Unp.ok x y) : Wr Try.prog w0 (Unp.fs x y) 37 [.pointer (some ⟨bw, 0, none⟩), .agg (Unp.cs x y).toArray] bw (Cod.enc x) := by
  obtain ⟨n1, n2, n3, n4, n5, n6, b1, l1, l2, lF, lB, lS, lV, lT, lC, n7⟩ := x
  obtain ⟨u1, u2, u3, u4, u5, u6, u7, ⟨A1, c1⟩, ⟨A2, c2⟩, ⟨AF, cF⟩, ⟨AB, cB⟩, ⟨AS, cS⟩, ⟨AV, cV⟩, ⟨AT, cT⟩, ⟨AC, cC⟩, u8⟩ := y
  obtain ⟨h1, h2, h3, h4, h5, h6, _, g1, g2, gF, gB, gS, gV, gT, gC, h7⟩ := hok
  exact Wr_eq (state_w bw (αF := FrD) (αB := BrD) (αS := ScD) (αV := VaD) (αT := TrD) (αC := ChD) n1 n2 n3 n4 n5 n6 n7 b1 (by intro x hx; simp only [List.mem_cons, List.not_mem_nil, or_false] at hx; rcases hx with rfl | rfl | rfl | rfl | rfl | rfl <;> assumption) h7 A1 c1 l1 (Nat.le_trans g1.1 g1.2) A2 c2 l2 (Nat.le_trans g2.1 g2.2)
    rfl UnpL.len UnpL.one AF cF lF (Nat.le_trans gF.1 gF.2) Cod.enc (fun x _ y hy => frame_w bw x y hy)
    rfl UnpL.len UnpL.one AB cB lB (Nat.le_trans gB.1 gB.2) Cod.enc (fun x _ y hy => bracket_w bw x y hy)
    rfl UnpL.len UnpL.one AS cS lS (Nat.le_trans gS.1 gS.2) Cod.enc (fun x _ y hy => scope_w bw x y hy)
    rfl UnpL.len UnpL.one AV cV lV (Nat.le_trans gV.1 gV.2) Cod.enc (fun x _ y hy => val_w bw x y hy)
    rfl UnpL.len UnpL.one AT cT lT (Nat.le_trans gT.1 gT.2) Cod.enc (fun b2 x _ y hy => trail_w bw b2 x y hy)
    rfl UnpL.len UnpL.one AC cC lC (Nat.le_trans gC.1 gC.2) Cod.enc (fun x _ y hy => choice_w bw x y hy)) (by simp only [Cod.enc, intsB, List.flatMap_cons, List.flatMap_nil, List.append_nil, List.append_assoc]) rfl
/-- What Encode returns. -/
def encM (m : MaD) : List UInt8 × Int := encR (Cod.enc m)
theorem encM_eq (m : MaD) : encM m = if (stB m).length ≤ 250000 then (stB m, 0) else ([], 2) := by
  unfold encM encR stB headMa
  rw [List.length_append]; rfl
theorem encodeM_k {w0 : World} {H : List Hp} {R : List MP} {K : Value → List Hp → List MP → Prop} (m : MaD) (y : Unp.Y MaD) (hok : Unp.ok m y) (hsub : ∀ p ∈ Unp.fs m y, p ∈ R) (k : KB K (encM m) H R) : CallsK Try.prog w0 11 #[.agg (Unp.cs m y).toArray] H R K :=
  encode_k (Unp.cs m y) (Cod.enc m) (fun bw => state_wm bw m y hok) (UnpL.len m y) hsub k
end Go.Proofs.Ytggdljhmbckpmaa
