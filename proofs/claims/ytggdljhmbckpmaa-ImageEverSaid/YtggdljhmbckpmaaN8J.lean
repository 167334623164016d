/- Decode: structs read: walks, printed by gen_rd.py. Decode: structs read: walks, printed by gen_rd.py. -/
import Derived.Test.YtggdljhmbckpmaaN6J
set_option linter.unusedVariables false
set_option linter.unusedSimpArgs false
namespace Go.Proofs.Ytggdljhmbckpmaa
open Go Go.RowKit
set_option maxRecDepth 100000
set_option maxHeartbeats 3200000

theorem bracket_r {w0 : World} (br : Nat) (A : Option Addr) (c : Nat) (xs : List UInt8) (hx : xs.length ≤ 250000) : Rr Try.prog w0 86 [.pointer (some ⟨br, 0, none⟩)] br A c xs 0 (brD xs) stV := by
  intro H R K KP a hma hax hm hk hp
  refine callsP_of Try.func86 rfl Try.ntmps86 nep ?_
  apply TC_seq; apply TC_region
  repeat' ((refine T_gen rfl rfl ?_; ((refine gw_alloc clp (fun b => ?_))); refine T_nv ?_))
  apply T_nil; apply En_then
  revert b
  intro bt
  refine TC_swap ?_
  repeat' (first | (apply TC_seq) | (apply TC_region) | (refine T_pure rfl rfl ?_; ((first | refine pw_mv ?_ | refine pw_fieldAddr rfl ?_)); refine T_nv ?_) | (refine T_gen rfl rfl ?_; ((refine gw_buildSlice (by decide) prtp rfl (fun b => ?_))); refine T_nv ?_))
  refine T_into [0, 1] rfl rfl rfl rfl (by decide) hx hax memt (by simp) (fun zs1 a1 hi le1 hle1 => ?_) (fun e he => ?_)
  rotate_left
  · skip
    repeat' ((apply En_then_panic))
    refine En_panicked (fin_P H R (fun w hs => hs.weaken sbp kpp) (hp e ?_))
    rcases intoD_er he with he | ⟨n0, b0, h1_0, he⟩
    · exact by unfold brD; simp only [pairD, he]
    rcases intoD_er he with he | ⟨n1, b1, h1_1, he⟩
    · exact by unfold brD; simp only [pairD, h1_0, he]
    cases he
  obtain ⟨n1_0, a1_0, h1_0, hi⟩ := intoD_ok hi
  obtain ⟨n1_1, a1_1, h1_1, hi⟩ := intoD_ok hi
  obtain ⟨rfl, rfl⟩ := intoD_nil hi
  refine T_nv ?_
  refine T_hq ?_
  repeat' (first | (apply TC_seq) | (apply TC_region) | (apply T_nil) | (apply En_then) | (refine T_pure rfl rfl ?_; ((refine pw_mv ?_)); refine T_nv ?_))
  refine T_rdl rfl rfl (ints_r br A c xs hx) (Nat.zero_le _) hle1 memt (fun l2 a2 A2 c2 h2 le2 hle2 ho2 => ?_) (fun e he => ?_)
  rotate_left
  · skip
    repeat' ((apply En_then_panic))
    exact En_panicked (fin_P H R (fun w hs => hs.weaken sbp kpp) (hp e (by unfold brD; simp only [pairD, h1_0, h1_1, he])))
  refine T_nv ?_
  repeat' (first | (apply TC_seq) | (apply TC_region) | (apply T_nil) | (apply En_then) | (apply T_store; exact rfl; ((refine gw_store (i := 1) rfl clp rfl (by rfl) (by simp) (by simp [Value.oneCell']) ?_)); refine T_nv ?_; refine T_hq ?_) | (refine T_pure rfl rfl ?_; ((first | refine pw_mv ?_ | refine pw_fieldAddr rfl ?_)); refine T_nv ?_))
  refine T_rdb rfl rfl (truth_r br A c xs hx) hle2 memt (fun s3 a3 h3 le3 hle3 => ?_) (fun e he => ?_)
  rotate_left
  · skip
    repeat' ((apply En_then_panic))
    exact En_panicked (fin_P H R (fun w hs => hs.weaken sbp kpp) (hp e (by unfold brD; simp only [pairD, h1_0, h1_1, h2, he])))
  refine T_nv ?_
  repeat' (first | (apply TC_seq) | (apply TC_region) | (apply T_nil) | (apply En_then) | (apply T_store; exact rfl; ((refine gw_store (i := 1) rfl clp rfl (by rfl) (by simp) (by simp [Value.oneCell']) ?_)); refine T_nv ?_; refine T_hq ?_) | (refine T_pure rfl rfl ?_; ((first | refine pw_mv ?_ | refine pw_fieldAddr rfl ?_)); refine T_nv ?_))
  refine T_rdl rfl rfl (ints_r br A c xs hx) (Nat.zero_le _) hle3 memt (fun l4 a4 A4 c4 h4 le4 hle4 ho4 => ?_) (fun e he => ?_)
  rotate_left
  · skip
    repeat' ((apply En_then_panic))
    exact En_panicked (fin_P H R (fun w hs => hs.weaken sbp kpp) (hp e (by unfold brD; simp only [pairD, h1_0, h1_1, h2, h3, he])))
  refine T_nv ?_
  repeat' (first | (apply TC_seq) | (apply TC_region) | (apply T_nil) | (apply En_then) | (apply T_store; exact rfl; ((refine gw_store (i := 1) rfl clp rfl (by rfl) (by simp) (by simp [Value.oneCell']) ?_)); refine T_nv ?_; refine T_hq ?_) | (refine T_pure rfl rfl ?_; ((first | refine pw_mv ?_ | refine pw_fieldAddr rfl ?_)); refine T_nv ?_))
  refine T_rdb rfl rfl (truth_r br A c xs hx) hle4 memt (fun s5 a5 h5 le5 hle5 => ?_) (fun e he => ?_)
  rotate_left
  · skip
    repeat' ((apply En_then_panic))
    exact En_panicked (fin_P H R (fun w hs => hs.weaken sbp kpp) (hp e (by unfold brD; simp only [pairD, h1_0, h1_1, h2, h3, h4, he])))
  refine T_nv ?_
  repeat' (first | (apply TC_seq) | (apply TC_region) | (apply T_nil) | (apply En_then) | (apply T_store; exact rfl; ((refine gw_store (i := 1) rfl clp rfl (by rfl) (by simp) (by simp [Value.oneCell']) ?_)); refine T_nv ?_; refine T_hq ?_) | (refine T_pure rfl rfl ?_; ((first | refine pw_mv ?_ | refine pw_fieldAddr rfl ?_)); refine T_nv ?_) | (refine T_gen rfl rfl ?_; ((refine gw_buildSlice (by decide) prtp rfl (fun b => ?_))); refine T_nv ?_))
  refine T_into [6] rfl rfl rfl rfl (by decide) hx hle5 memt (by simp) (fun zs6 a6 hi le6 hle6 => ?_) (fun e he => ?_)
  rotate_left
  · skip
    repeat' ((apply En_then_panic))
    refine En_panicked (fin_P H R (fun w hs => hs.weaken sbp kpp) (hp e ?_))
    rcases intoD_er he with he | ⟨n0, b0, h6_0, he⟩
    · exact by unfold brD; simp only [pairD, h1_0, h1_1, h2, h3, h4, h5, he]
    cases he
  obtain ⟨n6_0, a6_0, h6_0, hi⟩ := intoD_ok hi
  obtain ⟨rfl, rfl⟩ := intoD_nil hi
  refine T_nv ?_
  refine T_hq ?_
  repeat' (first | (apply TC_seq) | (apply TC_region) | (apply TC_ret) | (apply T_nil) | (apply En_then) | (apply T_load; exact rfl; ((refine pw_load (i := 1) rfl rfl rfl ?_)); refine T_nv ?_) | (apply T_store; exact rfl; ((refine gw_store (i := 1) rfl clp rfl (by rfl) (by simp) (by simp [Value.oneCell']) ?_)); refine T_nv ?_; refine T_hq ?_))
  refine En_fin (.inl rfl) (res1 rfl (rv_cell (i := 1) rfl rfl rfl)) (fin_R _ (Sl (.slice A2 l2.length c2) l2 :: Sl (.slice A4 l4.length c4) l4 :: R) (fun w hs => hs.weaken sbp kpp) (hk (n1_0, n1_1, l2, s3, l4, s5, n6_0) a6 ((), (), (A2, c2), (), (A4, c4), (), ()) (by unfold brD; simp only [pairD, h1_0, h1_1, h2, h3, h4, h5, h6_0]) (by omega) hle6 (show InI n1_0 ∧ InI n1_1 ∧ (l2.length ≤ c2 ∧ c2 ≤ maxL) ∧ True ∧ (l4.length ≤ c4 ∧ c4 ≤ maxL) ∧ True ∧ InI n6_0 from ⟨(numD_in h1_0).1, (numD_in h1_1).1, ho2, trivial, ho4, trivial, (numD_in h6_0).1⟩)))
theorem scope_r {w0 : World} (br : Nat) (A : Option Addr) (c : Nat) (xs : List UInt8) (hx : xs.length ≤ 250000) : Rr Try.prog w0 88 [.pointer (some ⟨br, 0, none⟩)] br A c xs 0 (scD xs) stV := by
  intro H R K KP a hma hax hm hk hp
  refine callsP_of Try.func88 rfl Try.ntmps88 nep ?_
  apply TC_seq; apply TC_region
  repeat' ((refine T_gen rfl rfl ?_; ((refine gw_alloc clp (fun b => ?_))); refine T_nv ?_))
  apply T_nil; apply En_then
  revert b
  intro bt
  refine TC_swap ?_
  repeat' (first | (apply TC_seq) | (apply TC_region) | (refine T_pure rfl rfl ?_; ((first | refine pw_mv ?_ | refine pw_fieldAddr rfl ?_)); refine T_nv ?_) | (refine T_gen rfl rfl ?_; ((refine gw_buildSlice (by decide) prtp rfl (fun b => ?_))); refine T_nv ?_))
  refine T_into [0, 1, 2, 3] rfl rfl rfl rfl (by decide) hx hax memt (by simp) (fun zs1 a1 hi le1 hle1 => ?_) (fun e he => ?_)
  rotate_left
  · skip
    repeat' ((apply En_then_panic))
    refine En_panicked (fin_P H R (fun w hs => hs.weaken sbp kpp) (hp e ?_))
    rcases intoD_er he with he | ⟨n0, b0, h1_0, he⟩
    · exact by unfold scD; simp only [pairD, he]
    rcases intoD_er he with he | ⟨n1, b1, h1_1, he⟩
    · exact by unfold scD; simp only [pairD, h1_0, he]
    rcases intoD_er he with he | ⟨n2, b2, h1_2, he⟩
    · exact by unfold scD; simp only [pairD, h1_0, h1_1, he]
    rcases intoD_er he with he | ⟨n3, b3, h1_3, he⟩
    · exact by unfold scD; simp only [pairD, h1_0, h1_1, h1_2, he]
    cases he
  obtain ⟨n1_0, a1_0, h1_0, hi⟩ := intoD_ok hi
  obtain ⟨n1_1, a1_1, h1_1, hi⟩ := intoD_ok hi
  obtain ⟨n1_2, a1_2, h1_2, hi⟩ := intoD_ok hi
  obtain ⟨n1_3, a1_3, h1_3, hi⟩ := intoD_ok hi
  obtain ⟨rfl, rfl⟩ := intoD_nil hi
  refine T_nv ?_
  refine T_hq ?_
  repeat' (first | (apply TC_seq) | (apply TC_region) | (apply T_nil) | (apply En_then) | (refine T_pure rfl rfl ?_; ((first | refine pw_mv ?_ | refine pw_makeFuncL agp agp ?_)); refine T_nv ?_))
  refine T_rdl rfl rfl (get113_r rfl br A c xs hx 114 [.pointer (some ⟨br, 0, none⟩)] 0 _ _ stV_cells ((term_r br A c xs hx).up (by omega))) (Nat.zero_le _) hle1 memt (fun l2 a2 A2 c2 h2 le2 hle2 ho2 => ?_) (fun e he => ?_)
  rotate_left
  · skip
    repeat' ((apply En_then_panic))
    exact En_panicked (fin_P H R (fun w hs => hs.weaken sbp kpp) (hp e (by unfold scD; simp only [pairD, h1_0, h1_1, h1_2, h1_3, he])))
  refine T_nv ?_
  repeat' (first | (apply TC_seq) | (apply TC_region) | (apply T_nil) | (apply En_then) | (apply T_store; exact rfl; ((refine gw_store (i := 1) rfl clp rfl (by rfl) (by simp) (by simp [Value.oneCell']) ?_)); refine T_nv ?_; refine T_hq ?_) | (refine T_pure rfl rfl ?_; ((first | refine pw_mv ?_ | refine pw_fieldAddr rfl ?_)); refine T_nv ?_))
  refine T_rds rfl rfl (text_r br A c xs hx) hle2 memt (fun s3 a3 h3 le3 hle3 ho3 => ?_) (fun e he => ?_)
  rotate_left
  · skip
    repeat' ((apply En_then_panic))
    exact En_panicked (fin_P H R (fun w hs => hs.weaken sbp kpp) (hp e (by unfold scD; simp only [pairD, h1_0, h1_1, h1_2, h1_3, h2, he])))
  refine T_nv ?_
  repeat' (first | (apply TC_seq) | (apply TC_region) | (apply T_nil) | (apply En_then) | (apply T_store; exact rfl; ((refine gw_store (i := 1) rfl clp rfl (by rfl) (by simp) (by simp [Value.oneCell']) ?_)); refine T_nv ?_; refine T_hq ?_) | (refine T_pure rfl rfl ?_; ((first | refine pw_mv ?_ | refine pw_fieldAddr rfl ?_ | refine pw_makeFuncL agp agp ?_)); refine T_nv ?_))
  refine T_rdl rfl rfl (get113_r rfl br A c xs hx 114 [.pointer (some ⟨br, 0, none⟩)] 0 _ _ stV_cells ((term_r br A c xs hx).up (by omega))) (Nat.zero_le _) hle3 memt (fun l4 a4 A4 c4 h4 le4 hle4 ho4 => ?_) (fun e he => ?_)
  rotate_left
  · skip
    repeat' ((apply En_then_panic))
    exact En_panicked (fin_P H R (fun w hs => hs.weaken sbp kpp) (hp e (by unfold scD; simp only [pairD, h1_0, h1_1, h1_2, h1_3, h2, h3, he])))
  refine T_nv ?_
  repeat' (first | (apply TC_seq) | (apply TC_region) | (apply TC_ret) | (apply T_nil) | (apply En_then) | (apply T_load; exact rfl; ((refine pw_load (i := 1) rfl rfl rfl ?_)); refine T_nv ?_) | (apply T_store; exact rfl; ((refine gw_store (i := 1) rfl clp rfl (by rfl) (by simp) (by simp [Value.oneCell']) ?_)); refine T_nv ?_; refine T_hq ?_) | (refine T_pure rfl rfl ?_; ((refine pw_fieldAddr rfl ?_)); refine T_nv ?_))
  refine En_fin (.inl rfl) (res1 rfl (rv_cell (i := 1) rfl rfl rfl)) (fin_R _ (Sl (.slice A2 l2.length c2) l2 :: Sl (.slice A4 l4.length c4) l4 :: R) (fun w hs => hs.weaken sbp kpp) (hk (n1_0, n1_1, n1_2, n1_3, l2, s3, l4) a4 ((), (), (), (), (A2, c2), (), (A4, c4)) (by unfold scD; simp only [pairD, h1_0, h1_1, h1_2, h1_3, h2, h3, h4]) (by omega) hle4 (show InI n1_0 ∧ InI n1_1 ∧ InI n1_2 ∧ InI n1_3 ∧ (l2.length ≤ c2 ∧ c2 ≤ maxL) ∧ s3.size ≤ 9223372036854775807 ∧ (l4.length ≤ c4 ∧ c4 ≤ maxL) from ⟨(numD_in h1_0).1, (numD_in h1_1).1, (numD_in h1_2).1, (numD_in h1_3).1, ho2, ho3, ho4⟩)))
theorem val_r {w0 : World} (br : Nat) (A : Option Addr) (c : Nat) (xs : List UInt8) (hx : xs.length ≤ 250000) : Rr Try.prog w0 90 [.pointer (some ⟨br, 0, none⟩)] br A c xs 0 (vaD xs) stV := by
  intro H R K KP a hma hax hm hk hp
  refine callsP_of Try.func90 rfl Try.ntmps90 nep ?_
  apply TC_seq; apply TC_region
  repeat' ((refine T_gen rfl rfl ?_; ((refine gw_alloc clp (fun b => ?_))); refine T_nv ?_))
  apply T_nil; apply En_then
  revert b
  intro bt
  refine TC_swap ?_
  repeat' (first | (apply TC_seq) | (apply TC_region) | (refine T_pure rfl rfl ?_; ((first | refine pw_mv ?_ | refine pw_fieldAddr rfl ?_)); refine T_nv ?_) | (refine T_gen rfl rfl ?_; ((refine gw_buildSlice (by decide) prtp rfl (fun b => ?_))); refine T_nv ?_))
  refine T_into [0] rfl rfl rfl rfl (by decide) hx hax memt (by simp) (fun zs1 a1 hi le1 hle1 => ?_) (fun e he => ?_)
  rotate_left
  · skip
    repeat' ((apply En_then_panic))
    refine En_panicked (fin_P H R (fun w hs => hs.weaken sbp kpp) (hp e ?_))
    rcases intoD_er he with he | ⟨n0, b0, h1_0, he⟩
    · exact by unfold vaD; simp only [pairD, he]
    cases he
  obtain ⟨n1_0, a1_0, h1_0, hi⟩ := intoD_ok hi
  obtain ⟨rfl, rfl⟩ := intoD_nil hi
  refine T_nv ?_
  refine T_hq ?_
  repeat' (first | (apply TC_seq) | (apply TC_region) | (apply T_nil) | (apply En_then) | (refine T_pure rfl rfl ?_; ((refine pw_mv ?_)); refine T_nv ?_))
  refine T_rdtp rfl rfl (typ_r br A c xs hx) (Nat.zero_le _) hle1 memt (fun nm2 l2 a2 A2 c2 h2 le2 hle2 ho2 => ?_) (fun e he => ?_)
  rotate_left
  · skip
    repeat' ((apply En_then_panic))
    exact En_panicked (fin_P H R (fun w hs => hs.weaken sbp kpp) (hp e (by unfold vaD; simp only [pairD, h1_0, he])))
  refine T_nv ?_
  repeat' (first | (apply TC_seq) | (apply TC_region) | (apply T_nil) | (apply En_then) | (apply T_store; exact rfl; ((refine gw_store (i := 1) rfl clp rfl (by rfl) (by simp) (by simp [Value.oneCell']) ?_)); refine T_nv ?_; refine T_hq ?_) | (refine T_pure rfl rfl ?_; ((first | refine pw_mv ?_ | refine pw_fieldAddr rfl ?_)); refine T_nv ?_))
  refine T_rdb rfl rfl (truth_r br A c xs hx) hle2 memt (fun s3 a3 h3 le3 hle3 => ?_) (fun e he => ?_)
  rotate_left
  · skip
    repeat' ((apply En_then_panic))
    exact En_panicked (fin_P H R (fun w hs => hs.weaken sbp kpp) (hp e (by unfold vaD; simp only [pairD, h1_0, h2, he])))
  refine T_nv ?_
  repeat' (first | (apply TC_seq) | (apply TC_region) | (apply T_nil) | (apply En_then) | (apply T_store; exact rfl; ((refine gw_store (i := 1) rfl clp rfl (by rfl) (by simp) (by simp [Value.oneCell']) ?_)); refine T_nv ?_; refine T_hq ?_) | (refine T_pure rfl rfl ?_; ((first | refine pw_mv ?_ | refine pw_fieldAddr rfl ?_)); refine T_nv ?_))
  refine T_rdtm rfl rfl (term_r br A c xs hx) (Nat.zero_le _) hle3 memt (fun k4 i4 nm4 l4 a4 A4 c4 h4 le4 hle4 ho4 => ?_) (fun e he => ?_)
  rotate_left
  · skip
    repeat' ((apply En_then_panic))
    exact En_panicked (fin_P H R (fun w hs => hs.weaken sbp kpp) (hp e (by unfold vaD; simp only [pairD, h1_0, h2, h3, he])))
  refine T_nv ?_
  repeat' (first | (apply TC_seq) | (apply TC_region) | (apply TC_ret) | (apply T_nil) | (apply En_then) | (apply T_load; exact rfl; ((refine pw_load (i := 1) rfl rfl rfl ?_)); refine T_nv ?_) | (apply T_store; exact rfl; ((refine gw_store (i := 1) rfl clp rfl (by rfl) (by simp) (by simp [Value.oneCell']) ?_)); refine T_nv ?_; refine T_hq ?_) | (refine T_pure rfl rfl ?_; ((refine pw_fieldAddr rfl ?_)); refine T_nv ?_))
  refine En_fin (.inl rfl) (res1 rfl (rv_cell (i := 1) rfl rfl rfl)) (fin_R _ (Sl (.slice A2 l2.length c2) l2 :: Sl (.slice A4 l4.length c4) l4 :: R) (fun w hs => hs.weaken sbp kpp) (hk (n1_0, .mk nm2 l2, s3, .mk k4 i4 nm4 l4) a4 ((), (A2, c2), (), (A4, c4)) (by unfold vaD; simp only [pairD, h1_0, h2, h3, h4]) (by omega) hle4 (show InI n1_0 ∧ (nm2.size ≤ 9223372036854775807 ∧ l2.length ≤ 9223372036854775807) ∧ True ∧ (InI k4 ∧ InI i4 ∧ nm4.size ≤ 9223372036854775807 ∧ l4.length ≤ 9223372036854775807) from ⟨(numD_in h1_0).1, ho2, trivial, ho4⟩)))
theorem trail_r {w0 : World} (br : Nat) (A : Option Addr) (c : Nat) (xs : List UInt8) (hx : xs.length ≤ 250000) : Rr Try.prog w0 92 [.pointer (some ⟨br, 0, none⟩)] br A c xs 0 (trD xs) stV := by
  intro H R K KP a hma hax hm hk hp
  refine callsP_of Try.func92 rfl Try.ntmps92 nep ?_
  apply TC_seq; apply TC_region
  repeat' ((refine T_gen rfl rfl ?_; ((refine gw_alloc clp (fun b => ?_))); refine T_nv ?_))
  apply T_nil; apply En_then
  revert b
  intro bt
  refine TC_swap ?_
  repeat' (first | (apply TC_seq) | (apply TC_region) | (refine T_pure rfl rfl ?_; ((first | refine pw_mv ?_ | refine pw_fieldAddr rfl ?_)); refine T_nv ?_) | (refine T_gen rfl rfl ?_; ((refine gw_buildSlice (by decide) prtp rfl (fun b => ?_))); refine T_nv ?_))
  refine T_into [0] rfl rfl rfl rfl (by decide) hx hax memt (by simp) (fun zs1 a1 hi le1 hle1 => ?_) (fun e he => ?_)
  rotate_left
  · skip
    repeat' ((apply En_then_panic))
    refine En_panicked (fin_P H R (fun w hs => hs.weaken sbp kpp) (hp e ?_))
    rcases intoD_er he with he | ⟨n0, b0, h1_0, he⟩
    · exact by unfold trD; simp only [pairD, he]
    cases he
  obtain ⟨n1_0, a1_0, h1_0, hi⟩ := intoD_ok hi
  obtain ⟨rfl, rfl⟩ := intoD_nil hi
  refine T_nv ?_
  refine T_hq ?_
  repeat' (first | (apply TC_seq) | (apply TC_region) | (apply T_nil) | (apply En_then) | (refine T_pure rfl rfl ?_; ((refine pw_mv ?_)); refine T_nv ?_))
  refine T_rdva rfl rfl (val_r br A c xs hx) (Nat.zero_le _) hle1 memt (fun lv2 tn2 tx2 bo2 k2 i2 nm2 l2 a2 A2 c2 B2 e2 h2 le2 hle2 ho2 => ?_) (fun e he => ?_)
  rotate_left
  · skip
    repeat' ((apply En_then_panic))
    exact En_panicked (fin_P H R (fun w hs => hs.weaken sbp kpp) (hp e (by unfold trD; simp only [pairD, h1_0, he])))
  refine T_nv ?_
  repeat' (first | (apply TC_seq) | (apply TC_region) | (apply TC_ret) | (apply T_nil) | (apply En_then) | (apply T_load; exact rfl; ((refine pw_load (i := 1) rfl rfl rfl ?_)); refine T_nv ?_) | (apply T_store; exact rfl; ((refine gw_store (i := 1) rfl clp rfl (by rfl) (by simp) (by simp [Value.oneCell']) ?_)); refine T_nv ?_; refine T_hq ?_) | (refine T_pure rfl rfl ?_; ((refine pw_fieldAddr rfl ?_)); refine T_nv ?_))
  refine En_fin (.inl rfl) (res1 rfl (rv_cell (i := 1) rfl rfl rfl)) (fin_R _ (Sl (.slice A2 tx2.length c2) tx2 :: Sl (.slice B2 l2.length e2) l2 :: R) (fun w hs => hs.weaken sbp kpp) (hk (n1_0, (lv2, .mk tn2 tx2, bo2, .mk k2 i2 nm2 l2)) a2 ((), ((), (A2, c2), (), (B2, e2))) (by unfold trD; simp only [pairD, h1_0, h2]) (by omega) hle2 (show InI n1_0 ∧ (InI lv2 ∧ (tn2.size ≤ 9223372036854775807 ∧ tx2.length ≤ 9223372036854775807) ∧ True ∧ (InI k2 ∧ InI i2 ∧ nm2.size ≤ 9223372036854775807 ∧ l2.length ≤ 9223372036854775807)) from ⟨(numD_in h1_0).1, ho2⟩)))
end Go.Proofs.Ytggdljhmbckpmaa
namespace Go.Proofs.Ytggdljhmbckpmaa
open Go Go.RowKit
set_option maxRecDepth 100000
set_option maxHeartbeats 3200000

theorem choice_r {w0 : World} (br : Nat) (A : Option Addr) (c : Nat) (xs : List UInt8) (hx : xs.length ≤ 250000) : Rr Try.prog w0 94 [.pointer (some ⟨br, 0, none⟩)] br A c xs 0 (chD xs) stV := by
  intro H R K KP a hma hax hm hk hp
  refine callsP_of Try.func94 rfl Try.ntmps94 nep ?_
  apply TC_seq; apply TC_region
  repeat' ((refine T_gen rfl rfl ?_; ((refine gw_alloc clp (fun b => ?_))); refine T_nv ?_))
  apply T_nil; apply En_then
  revert b
  intro bt
  refine TC_swap ?_
  repeat' (first | (apply TC_seq) | (apply TC_region) | (refine T_pure rfl rfl ?_; ((first | refine pw_mv ?_ | refine pw_fieldAddr rfl ?_)); refine T_nv ?_) | (refine T_gen rfl rfl ?_; ((refine gw_buildSlice (by decide) prtp rfl (fun b => ?_))); refine T_nv ?_))
  refine T_into [0] rfl rfl rfl rfl (by decide) hx hax memt (by simp) (fun zs1 a1 hi le1 hle1 => ?_) (fun e he => ?_)
  rotate_left
  · skip
    repeat' ((apply En_then_panic))
    refine En_panicked (fin_P H R (fun w hs => hs.weaken sbp kpp) (hp e ?_))
    rcases intoD_er he with he | ⟨n0, b0, h1_0, he⟩
    · exact by unfold chD; simp only [pairD, he]
    cases he
  obtain ⟨n1_0, a1_0, h1_0, hi⟩ := intoD_ok hi
  obtain ⟨rfl, rfl⟩ := intoD_nil hi
  refine T_nv ?_
  refine T_hq ?_
  repeat' (first | (apply TC_seq) | (apply TC_region) | (apply T_nil) | (apply En_then) | (refine T_pure rfl rfl ?_; ((first | refine pw_mv ?_ | refine pw_makeFuncL agp agp ?_)); refine T_nv ?_))
  refine T_rdl rfl rfl (get117_r rfl br A c xs hx 118 [.pointer (some ⟨br, 0, none⟩)] 0 _ _ stV_cells ((try_r br A c xs hx).up (by omega))) (Nat.zero_le _) hle1 memt (fun l2 a2 A2 c2 h2 le2 hle2 ho2 => ?_) (fun e he => ?_)
  rotate_left
  · skip
    repeat' ((apply En_then_panic))
    exact En_panicked (fin_P H R (fun w hs => hs.weaken sbp kpp) (hp e (by unfold chD; simp only [pairD, h1_0, he])))
  refine T_nv ?_
  repeat' (first | (apply TC_seq) | (apply TC_region) | (apply T_nil) | (apply En_then) | (apply T_store; exact rfl; ((refine gw_store (i := 1) rfl clp rfl (by rfl) (by simp) (by simp [Value.oneCell']) ?_)); refine T_nv ?_; refine T_hq ?_) | (refine T_pure rfl rfl ?_; ((first | refine pw_mv ?_ | refine pw_fieldAddr rfl ?_ | refine pw_makeFuncL agp agp ?_)); refine T_nv ?_))
  refine T_rdl rfl rfl (get113_r rfl br A c xs hx 114 [.pointer (some ⟨br, 0, none⟩)] 0 _ _ stV_cells ((term_r br A c xs hx).up (by omega))) (Nat.zero_le _) hle2 memt (fun l3 a3 A3 c3 h3 le3 hle3 ho3 => ?_) (fun e he => ?_)
  rotate_left
  · skip
    repeat' ((apply En_then_panic))
    exact En_panicked (fin_P H R (fun w hs => hs.weaken sbp kpp) (hp e (by unfold chD; simp only [pairD, h1_0, h2, he])))
  refine T_nv ?_
  repeat' (first | (apply TC_seq) | (apply TC_region) | (apply T_nil) | (apply En_then) | (apply T_store; exact rfl; ((refine gw_store (i := 1) rfl clp rfl (by rfl) (by simp) (by simp [Value.oneCell']) ?_)); refine T_nv ?_; refine T_hq ?_) | (refine T_pure rfl rfl ?_; ((first | refine pw_mv ?_ | refine pw_fieldAddr rfl ?_)); refine T_nv ?_) | (refine T_gen rfl rfl ?_; ((refine gw_buildSlice (by decide) prtp rfl (fun b => ?_))); refine T_nv ?_))
  refine T_into [3, 4, 5, 6, 7, 8, 9] rfl rfl rfl rfl (by decide) hx hle3 memt (by simp) (fun zs4 a4 hi le4 hle4 => ?_) (fun e he => ?_)
  rotate_left
  · skip
    repeat' ((apply En_then_panic))
    refine En_panicked (fin_P H R (fun w hs => hs.weaken sbp kpp) (hp e ?_))
    rcases intoD_er he with he | ⟨n0, b0, h4_0, he⟩
    · exact by unfold chD; simp only [pairD, h1_0, h2, h3, he]
    rcases intoD_er he with he | ⟨n1, b1, h4_1, he⟩
    · exact by unfold chD; simp only [pairD, h1_0, h2, h3, h4_0, he]
    rcases intoD_er he with he | ⟨n2, b2, h4_2, he⟩
    · exact by unfold chD; simp only [pairD, h1_0, h2, h3, h4_0, h4_1, he]
    rcases intoD_er he with he | ⟨n3, b3, h4_3, he⟩
    · exact by unfold chD; simp only [pairD, h1_0, h2, h3, h4_0, h4_1, h4_2, he]
    rcases intoD_er he with he | ⟨n4, b4, h4_4, he⟩
    · exact by unfold chD; simp only [pairD, h1_0, h2, h3, h4_0, h4_1, h4_2, h4_3, he]
    rcases intoD_er he with he | ⟨n5, b5, h4_5, he⟩
    · exact by unfold chD; simp only [pairD, h1_0, h2, h3, h4_0, h4_1, h4_2, h4_3, h4_4, he]
    rcases intoD_er he with he | ⟨n6, b6, h4_6, he⟩
    · exact by unfold chD; simp only [pairD, h1_0, h2, h3, h4_0, h4_1, h4_2, h4_3, h4_4, h4_5, he]
    cases he
  obtain ⟨n4_0, a4_0, h4_0, hi⟩ := intoD_ok hi
  obtain ⟨n4_1, a4_1, h4_1, hi⟩ := intoD_ok hi
  obtain ⟨n4_2, a4_2, h4_2, hi⟩ := intoD_ok hi
  obtain ⟨n4_3, a4_3, h4_3, hi⟩ := intoD_ok hi
  obtain ⟨n4_4, a4_4, h4_4, hi⟩ := intoD_ok hi
  obtain ⟨n4_5, a4_5, h4_5, hi⟩ := intoD_ok hi
  obtain ⟨n4_6, a4_6, h4_6, hi⟩ := intoD_ok hi
  obtain ⟨rfl, rfl⟩ := intoD_nil hi
  refine T_nv ?_
  refine T_hq ?_
  repeat' (first | (apply TC_seq) | (apply TC_region) | (apply T_nil) | (apply En_then) | (refine T_pure rfl rfl ?_; ((refine pw_mv ?_)); refine T_nv ?_))
  refine T_rdb rfl rfl (truth_r br A c xs hx) hle4 memt (fun s5 a5 h5 le5 hle5 => ?_) (fun e he => ?_)
  rotate_left
  · skip
    repeat' ((apply En_then_panic))
    exact En_panicked (fin_P H R (fun w hs => hs.weaken sbp kpp) (hp e (by unfold chD; simp only [pairD, h1_0, h2, h3, h4_0, h4_1, h4_2, h4_3, h4_4, h4_5, h4_6, he])))
  refine T_nv ?_
  repeat' (first | (apply TC_seq) | (apply TC_region) | (apply T_nil) | (apply En_then) | (apply T_store; exact rfl; ((refine gw_store (i := 1) rfl clp rfl (by rfl) (by simp) (by simp [Value.oneCell']) ?_)); refine T_nv ?_; refine T_hq ?_) | (refine T_pure rfl rfl ?_; ((first | refine pw_mv ?_ | refine pw_fieldAddr rfl ?_)); refine T_nv ?_))
  refine T_rdl rfl rfl (ints_r br A c xs hx) (Nat.zero_le _) hle5 memt (fun l6 a6 A6 c6 h6 le6 hle6 ho6 => ?_) (fun e he => ?_)
  rotate_left
  · skip
    repeat' ((apply En_then_panic))
    exact En_panicked (fin_P H R (fun w hs => hs.weaken sbp kpp) (hp e (by unfold chD; simp only [pairD, h1_0, h2, h3, h4_0, h4_1, h4_2, h4_3, h4_4, h4_5, h4_6, h5, he])))
  refine T_nv ?_
  repeat' (first | (apply TC_seq) | (apply TC_region) | (apply T_nil) | (apply En_then) | (apply T_store; exact rfl; ((refine gw_store (i := 1) rfl clp rfl (by rfl) (by simp) (by simp [Value.oneCell']) ?_)); refine T_nv ?_; refine T_hq ?_) | (refine T_pure rfl rfl ?_; ((first | refine pw_mv ?_ | refine pw_fieldAddr rfl ?_)); refine T_nv ?_))
  refine T_rdl rfl rfl (ints_r br A c xs hx) (Nat.zero_le _) hle6 memt (fun l7 a7 A7 c7 h7 le7 hle7 ho7 => ?_) (fun e he => ?_)
  rotate_left
  · skip
    repeat' ((apply En_then_panic))
    exact En_panicked (fin_P H R (fun w hs => hs.weaken sbp kpp) (hp e (by unfold chD; simp only [pairD, h1_0, h2, h3, h4_0, h4_1, h4_2, h4_3, h4_4, h4_5, h4_6, h5, h6, he])))
  refine T_nv ?_
  repeat' (first | (apply TC_seq) | (apply TC_region) | (apply T_nil) | (apply En_then) | (apply T_store; exact rfl; ((refine gw_store (i := 1) rfl clp rfl (by rfl) (by simp) (by simp [Value.oneCell']) ?_)); refine T_nv ?_; refine T_hq ?_) | (refine T_pure rfl rfl ?_; ((first | refine pw_mv ?_ | refine pw_fieldAddr rfl ?_)); refine T_nv ?_) | (refine T_gen rfl rfl ?_; ((refine gw_buildSlice (by decide) prtp rfl (fun b => ?_))); refine T_nv ?_))
  refine T_into [13, 14, 15, 16, 17] rfl rfl rfl rfl (by decide) hx hle7 memt (by simp) (fun zs8 a8 hi le8 hle8 => ?_) (fun e he => ?_)
  rotate_left
  · skip
    repeat' ((apply En_then_panic))
    refine En_panicked (fin_P H R (fun w hs => hs.weaken sbp kpp) (hp e ?_))
    rcases intoD_er he with he | ⟨n0, b0, h8_0, he⟩
    · exact by unfold chD; simp only [pairD, h1_0, h2, h3, h4_0, h4_1, h4_2, h4_3, h4_4, h4_5, h4_6, h5, h6, h7, he]
    rcases intoD_er he with he | ⟨n1, b1, h8_1, he⟩
    · exact by unfold chD; simp only [pairD, h1_0, h2, h3, h4_0, h4_1, h4_2, h4_3, h4_4, h4_5, h4_6, h5, h6, h7, h8_0, he]
    rcases intoD_er he with he | ⟨n2, b2, h8_2, he⟩
    · exact by unfold chD; simp only [pairD, h1_0, h2, h3, h4_0, h4_1, h4_2, h4_3, h4_4, h4_5, h4_6, h5, h6, h7, h8_0, h8_1, he]
    rcases intoD_er he with he | ⟨n3, b3, h8_3, he⟩
    · exact by unfold chD; simp only [pairD, h1_0, h2, h3, h4_0, h4_1, h4_2, h4_3, h4_4, h4_5, h4_6, h5, h6, h7, h8_0, h8_1, h8_2, he]
    rcases intoD_er he with he | ⟨n4, b4, h8_4, he⟩
    · exact by unfold chD; simp only [pairD, h1_0, h2, h3, h4_0, h4_1, h4_2, h4_3, h4_4, h4_5, h4_6, h5, h6, h7, h8_0, h8_1, h8_2, h8_3, he]
    cases he
  obtain ⟨n8_0, a8_0, h8_0, hi⟩ := intoD_ok hi
  obtain ⟨n8_1, a8_1, h8_1, hi⟩ := intoD_ok hi
  obtain ⟨n8_2, a8_2, h8_2, hi⟩ := intoD_ok hi
  obtain ⟨n8_3, a8_3, h8_3, hi⟩ := intoD_ok hi
  obtain ⟨n8_4, a8_4, h8_4, hi⟩ := intoD_ok hi
  obtain ⟨rfl, rfl⟩ := intoD_nil hi
  refine T_nv ?_
  refine T_hq ?_
  repeat' (first | (apply TC_seq) | (apply TC_region) | (apply TC_ret) | (apply T_nil) | (apply En_then) | (apply T_load; exact rfl; ((refine pw_load (i := 1) rfl rfl rfl ?_)); refine T_nv ?_) | (apply T_store; exact rfl; ((refine gw_store (i := 1) rfl clp rfl (by rfl) (by simp) (by simp [Value.oneCell']) ?_)); refine T_nv ?_; refine T_hq ?_))
  refine En_fin (.inl rfl) (res1 rfl (rv_cell (i := 1) rfl rfl rfl)) (fin_R _ (Sl (.slice A2 l2.length c2) l2 :: Sl (.slice A3 l3.length c3) l3 :: Sl (.slice A6 l6.length c6) l6 :: Sl (.slice A7 l7.length c7) l7 :: R) (fun w hs => hs.weaken sbp kpp) (hk (n1_0, l2, l3, n4_0, n4_1, n4_2, n4_3, n4_4, n4_5, n4_6, s5, l6, l7, n8_0, n8_1, n8_2, n8_3, n8_4) a8 ((), (A2, c2), (A3, c3), (), (), (), (), (), (), (), (), (A6, c6), (A7, c7), (), (), (), (), ()) (by unfold chD; simp only [pairD, h1_0, h2, h3, h4_0, h4_1, h4_2, h4_3, h4_4, h4_5, h4_6, h5, h6, h7, h8_0, h8_1, h8_2, h8_3, h8_4]) (by omega) hle8 (show InI n1_0 ∧ (l2.length ≤ c2 ∧ c2 ≤ maxL) ∧ (l3.length ≤ c3 ∧ c3 ≤ maxL) ∧ InI n4_0 ∧ InI n4_1 ∧ InI n4_2 ∧ InI n4_3 ∧ InI n4_4 ∧ InI n4_5 ∧ InI n4_6 ∧ True ∧ (l6.length ≤ c6 ∧ c6 ≤ maxL) ∧ (l7.length ≤ c7 ∧ c7 ≤ maxL) ∧ InI n8_0 ∧ InI n8_1 ∧ InI n8_2 ∧ InI n8_3 ∧ InI n8_4 from ⟨(numD_in h1_0).1, ho2, ho3, (numD_in h4_0).1, (numD_in h4_1).1, (numD_in h4_2).1, (numD_in h4_3).1, (numD_in h4_4).1, (numD_in h4_5).1, (numD_in h4_6).1, trivial, ho6, ho7, (numD_in h8_0).1, (numD_in h8_1).1, (numD_in h8_2).1, (numD_in h8_3).1, (numD_in h8_4).1⟩)))
end Go.Proofs.Ytggdljhmbckpmaa
