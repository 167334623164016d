/- Decode: structs read: walks, printed by gen_rd.py. Decode: walk. -/
import Derived.Test.YtggdljhmbckpmaaN8J
set_option linter.unusedVariables false
set_option linter.unusedSimpArgs false
namespace Go.Proofs.Ytggdljhmbckpmaa
open Go Go.RowKit
set_option maxRecDepth 100000
set_option maxHeartbeats 3200000

theorem state_r {w0 : World} (br : Nat) (A : Option Addr) (c : Nat) (xs : List UInt8) (hx : xs.length ≤ 250000) : Rr Try.prog w0 41 [.pointer (some ⟨br, 0, none⟩)] br A c xs 0 (maD xs) stV := by
  intro H R K KP a hma hax hm hk hp
  refine callsP_of Try.func41 rfl Try.ntmps41 nep ?_
  apply TC_seq; apply TC_region
  repeat' ((refine T_gen rfl rfl ?_; ((refine gw_alloc clp (fun b => ?_))); refine T_nv ?_))
  apply T_nil; apply En_then
  revert b
  intro bt
  refine TC_swap ?_
  repeat' (first | (apply TC_seq) | (apply TC_region) | (refine T_pure rfl rfl ?_; ((first | refine pw_mv ?_ | refine pw_fieldAddr rfl ?_)); refine T_nv ?_) | (refine T_gen rfl rfl ?_; ((refine gw_buildSlice (by decide) prtp rfl (fun b => ?_))); refine T_nv ?_))
  refine T_into [0, 1, 2, 3, 4, 5] rfl rfl rfl rfl (by decide) hx hax memt (by simp) (fun zs1 a1 hi le1 hle1 => ?_) (fun e he => ?_)
  rotate_left
  · skip
    repeat' ((apply En_then_panic))
    refine En_panicked (fin_P H R (fun w hs => hs.weaken sbp kpp) (hp e ?_))
    rcases intoD_er he with he | ⟨n0, b0, h1_0, he⟩
    · exact by unfold maD; simp only [pairD, he]
    rcases intoD_er he with he | ⟨n1, b1, h1_1, he⟩
    · exact by unfold maD; simp only [pairD, h1_0, he]
    rcases intoD_er he with he | ⟨n2, b2, h1_2, he⟩
    · exact by unfold maD; simp only [pairD, h1_0, h1_1, he]
    rcases intoD_er he with he | ⟨n3, b3, h1_3, he⟩
    · exact by unfold maD; simp only [pairD, h1_0, h1_1, h1_2, he]
    rcases intoD_er he with he | ⟨n4, b4, h1_4, he⟩
    · exact by unfold maD; simp only [pairD, h1_0, h1_1, h1_2, h1_3, he]
    rcases intoD_er he with he | ⟨n5, b5, h1_5, he⟩
    · exact by unfold maD; simp only [pairD, h1_0, h1_1, h1_2, h1_3, h1_4, he]
    cases he
  obtain ⟨n1_0, a1_0, h1_0, hi⟩ := intoD_ok hi
  obtain ⟨n1_1, a1_1, h1_1, hi⟩ := intoD_ok hi
  obtain ⟨n1_2, a1_2, h1_2, hi⟩ := intoD_ok hi
  obtain ⟨n1_3, a1_3, h1_3, hi⟩ := intoD_ok hi
  obtain ⟨n1_4, a1_4, h1_4, hi⟩ := intoD_ok hi
  obtain ⟨n1_5, a1_5, h1_5, hi⟩ := intoD_ok hi
  obtain ⟨rfl, rfl⟩ := intoD_nil hi
  refine T_nv ?_
  refine T_hq ?_
  repeat' (first | (apply TC_seq) | (apply TC_region) | (apply T_nil) | (apply En_then) | (refine T_pure rfl rfl ?_; ((refine pw_mv ?_)); refine T_nv ?_))
  refine T_rdb rfl rfl (truth_r br A c xs hx) hle1 memt (fun s2 a2 h2 le2 hle2 => ?_) (fun e he => ?_)
  rotate_left
  · skip
    repeat' ((apply En_then_panic))
    exact En_panicked (fin_P H R (fun w hs => hs.weaken sbp kpp) (hp e (by unfold maD; simp only [pairD, h1_0, h1_1, h1_2, h1_3, h1_4, h1_5, he])))
  refine T_nv ?_
  repeat' (first | (apply TC_seq) | (apply TC_region) | (apply T_nil) | (apply En_then) | (apply T_store; exact rfl; ((refine gw_store (i := 1) rfl clp rfl (by rfl) (by simp) (by simp [Value.oneCell']) ?_)); refine T_nv ?_; refine T_hq ?_) | (refine T_pure rfl rfl ?_; ((first | refine pw_mv ?_ | refine pw_fieldAddr rfl ?_)); refine T_nv ?_))
  refine T_rdl rfl rfl (ints_r br A c xs hx) (Nat.zero_le _) hle2 memt (fun l3 a3 A3 c3 h3 le3 hle3 ho3 => ?_) (fun e he => ?_)
  rotate_left
  · skip
    repeat' ((apply En_then_panic))
    exact En_panicked (fin_P H R (fun w hs => hs.weaken sbp kpp) (hp e (by unfold maD; simp only [pairD, h1_0, h1_1, h1_2, h1_3, h1_4, h1_5, h2, he])))
  refine T_nv ?_
  repeat' (first | (apply TC_seq) | (apply TC_region) | (apply T_nil) | (apply En_then) | (apply T_store; exact rfl; ((refine gw_store (i := 1) rfl clp rfl (by rfl) (by simp) (by simp [Value.oneCell']) ?_)); refine T_nv ?_; refine T_hq ?_) | (refine T_pure rfl rfl ?_; ((first | refine pw_mv ?_ | refine pw_fieldAddr rfl ?_)); refine T_nv ?_))
  refine T_rdl rfl rfl (ints_r br A c xs hx) (Nat.zero_le _) hle3 memt (fun l4 a4 A4 c4 h4 le4 hle4 ho4 => ?_) (fun e he => ?_)
  rotate_left
  · skip
    repeat' ((apply En_then_panic))
    exact En_panicked (fin_P H R (fun w hs => hs.weaken sbp kpp) (hp e (by unfold maD; simp only [pairD, h1_0, h1_1, h1_2, h1_3, h1_4, h1_5, h2, h3, he])))
  refine T_nv ?_
  repeat' (first | (apply TC_seq) | (apply TC_region) | (apply T_nil) | (apply En_then) | (apply T_store; exact rfl; ((refine gw_store (i := 1) rfl clp rfl (by rfl) (by simp) (by simp [Value.oneCell']) ?_)); refine T_nv ?_; refine T_hq ?_) | (refine T_pure rfl rfl ?_; ((first | refine pw_mv ?_ | refine pw_fieldAddr rfl ?_ | refine pw_makeFuncL agp agp ?_)); refine T_nv ?_))
  refine T_rdl rfl rfl (get83_r rfl br A c xs hx 84 [.pointer (some ⟨br, 0, none⟩)] 0 _ _ stV_cells ((frame_r br A c xs hx).up (by omega))) (Nat.zero_le _) hle4 memt (fun l5 a5 A5 c5 h5 le5 hle5 ho5 => ?_) (fun e he => ?_)
  rotate_left
  · skip
    repeat' ((apply En_then_panic))
    exact En_panicked (fin_P H R (fun w hs => hs.weaken sbp kpp) (hp e (by unfold maD; simp only [pairD, h1_0, h1_1, h1_2, h1_3, h1_4, h1_5, h2, h3, h4, he])))
  refine T_nv ?_
  repeat' (first | (apply TC_seq) | (apply TC_region) | (apply T_nil) | (apply En_then) | (apply T_store; exact rfl; ((refine gw_store (i := 1) rfl clp rfl (by rfl) (by simp) (by simp [Value.oneCell']) ?_)); refine T_nv ?_; refine T_hq ?_) | (refine T_pure rfl rfl ?_; ((first | refine pw_mv ?_ | refine pw_fieldAddr rfl ?_ | refine pw_makeFuncL agp agp ?_)); refine T_nv ?_))
  refine T_rdl rfl rfl (get85_r rfl br A c xs hx 86 [.pointer (some ⟨br, 0, none⟩)] 0 _ _ stV_cells ((bracket_r br A c xs hx).up (by omega))) (Nat.zero_le _) hle5 memt (fun l6 a6 A6 c6 h6 le6 hle6 ho6 => ?_) (fun e he => ?_)
  rotate_left
  · skip
    repeat' ((apply En_then_panic))
    exact En_panicked (fin_P H R (fun w hs => hs.weaken sbp kpp) (hp e (by unfold maD; simp only [pairD, h1_0, h1_1, h1_2, h1_3, h1_4, h1_5, h2, h3, h4, h5, he])))
  refine T_nv ?_
  repeat' (first | (apply TC_seq) | (apply TC_region) | (apply T_nil) | (apply En_then) | (apply T_store; exact rfl; ((refine gw_store (i := 1) rfl clp rfl (by rfl) (by simp) (by simp [Value.oneCell']) ?_)); refine T_nv ?_; refine T_hq ?_) | (refine T_pure rfl rfl ?_; ((first | refine pw_mv ?_ | refine pw_fieldAddr rfl ?_ | refine pw_makeFuncL agp agp ?_)); refine T_nv ?_))
  refine T_rdl rfl rfl (get87_r rfl br A c xs hx 88 [.pointer (some ⟨br, 0, none⟩)] 0 _ _ stV_cells ((scope_r br A c xs hx).up (by omega))) (Nat.zero_le _) hle6 memt (fun l7 a7 A7 c7 h7 le7 hle7 ho7 => ?_) (fun e he => ?_)
  rotate_left
  · skip
    repeat' ((apply En_then_panic))
    exact En_panicked (fin_P H R (fun w hs => hs.weaken sbp kpp) (hp e (by unfold maD; simp only [pairD, h1_0, h1_1, h1_2, h1_3, h1_4, h1_5, h2, h3, h4, h5, h6, he])))
  refine T_nv ?_
  repeat' (first | (apply TC_seq) | (apply TC_region) | (apply T_nil) | (apply En_then) | (apply T_store; exact rfl; ((refine gw_store (i := 1) rfl clp rfl (by rfl) (by simp) (by simp [Value.oneCell']) ?_)); refine T_nv ?_; refine T_hq ?_) | (refine T_pure rfl rfl ?_; ((first | refine pw_mv ?_ | refine pw_fieldAddr rfl ?_ | refine pw_makeFuncL agp agp ?_)); refine T_nv ?_))
  refine T_rdl rfl rfl (get89_r rfl br A c xs hx 90 [.pointer (some ⟨br, 0, none⟩)] 0 _ _ stV_cells ((val_r br A c xs hx).up (by omega))) (Nat.zero_le _) hle7 memt (fun l8 a8 A8 c8 h8 le8 hle8 ho8 => ?_) (fun e he => ?_)
  rotate_left
  · skip
    repeat' ((apply En_then_panic))
    exact En_panicked (fin_P H R (fun w hs => hs.weaken sbp kpp) (hp e (by unfold maD; simp only [pairD, h1_0, h1_1, h1_2, h1_3, h1_4, h1_5, h2, h3, h4, h5, h6, h7, he])))
  refine T_nv ?_
  repeat' (first | (apply TC_seq) | (apply TC_region) | (apply T_nil) | (apply En_then) | (apply T_store; exact rfl; ((refine gw_store (i := 1) rfl clp rfl (by rfl) (by simp) (by simp [Value.oneCell']) ?_)); refine T_nv ?_; refine T_hq ?_) | (refine T_pure rfl rfl ?_; ((first | refine pw_mv ?_ | refine pw_fieldAddr rfl ?_ | refine pw_makeFuncL agp agp ?_)); refine T_nv ?_))
  refine T_rdl rfl rfl (get91_r rfl br A c xs hx 92 [.pointer (some ⟨br, 0, none⟩)] 0 _ _ stV_cells ((trail_r br A c xs hx).up (by omega))) (Nat.zero_le _) hle8 memt (fun l9 a9 A9 c9 h9 le9 hle9 ho9 => ?_) (fun e he => ?_)
  rotate_left
  · skip
    repeat' ((apply En_then_panic))
    exact En_panicked (fin_P H R (fun w hs => hs.weaken sbp kpp) (hp e (by unfold maD; simp only [pairD, h1_0, h1_1, h1_2, h1_3, h1_4, h1_5, h2, h3, h4, h5, h6, h7, h8, he])))
  refine T_nv ?_
  repeat' (first | (apply TC_seq) | (apply TC_region) | (apply T_nil) | (apply En_then) | (apply T_store; exact rfl; ((refine gw_store (i := 1) rfl clp rfl (by rfl) (by simp) (by simp [Value.oneCell']) ?_)); refine T_nv ?_; refine T_hq ?_) | (refine T_pure rfl rfl ?_; ((first | refine pw_mv ?_ | refine pw_fieldAddr rfl ?_ | refine pw_makeFuncL agp agp ?_)); refine T_nv ?_))
  refine T_rdl rfl rfl (get93_r rfl br A c xs hx 94 [.pointer (some ⟨br, 0, none⟩)] 0 _ _ stV_cells ((choice_r br A c xs hx).up (by omega))) (Nat.zero_le _) hle9 memt (fun l10 a10 A10 c10 h10 le10 hle10 ho10 => ?_) (fun e he => ?_)
  rotate_left
  · skip
    repeat' ((apply En_then_panic))
    exact En_panicked (fin_P H R (fun w hs => hs.weaken sbp kpp) (hp e (by unfold maD; simp only [pairD, h1_0, h1_1, h1_2, h1_3, h1_4, h1_5, h2, h3, h4, h5, h6, h7, h8, h9, he])))
  refine T_nv ?_
  repeat' (first | (apply TC_seq) | (apply TC_region) | (apply T_nil) | (apply En_then) | (apply T_store; exact rfl; ((refine gw_store (i := 1) rfl clp rfl (by rfl) (by simp) (by simp [Value.oneCell']) ?_)); refine T_nv ?_; refine T_hq ?_) | (refine T_pure rfl rfl ?_; ((first | refine pw_mv ?_ | refine pw_fieldAddr rfl ?_)); refine T_nv ?_) | (refine T_gen rfl rfl ?_; ((refine gw_buildSlice (by decide) prtp rfl (fun b => ?_))); refine T_nv ?_))
  refine T_into [15] rfl rfl rfl rfl (by decide) hx hle10 memt (by simp) (fun zs11 a11 hi le11 hle11 => ?_) (fun e he => ?_)
  rotate_left
  · skip
    repeat' ((apply En_then_panic))
    refine En_panicked (fin_P H R (fun w hs => hs.weaken sbp kpp) (hp e ?_))
    rcases intoD_er he with he | ⟨n0, b0, h11_0, he⟩
    · exact by unfold maD; simp only [pairD, h1_0, h1_1, h1_2, h1_3, h1_4, h1_5, h2, h3, h4, h5, h6, h7, h8, h9, h10, he]
    cases he
  obtain ⟨n11_0, a11_0, h11_0, hi⟩ := intoD_ok hi
  obtain ⟨rfl, rfl⟩ := intoD_nil hi
  refine T_nv ?_
  refine T_hq ?_
  repeat' (first | (apply TC_seq) | (apply TC_region) | (apply TC_ret) | (apply T_nil) | (apply En_then) | (apply T_load; exact rfl; ((refine pw_load (i := 1) rfl rfl rfl ?_)); refine T_nv ?_) | (apply T_store; exact rfl; ((refine gw_store (i := 1) rfl clp rfl (by rfl) (by simp) (by simp [Value.oneCell']) ?_)); refine T_nv ?_; refine T_hq ?_))
  refine En_fin (.inl rfl) (res1 rfl (rv_cell (i := 1) rfl rfl rfl)) (fin_R _ (Sl (.slice A3 l3.length c3) l3 :: Sl (.slice A4 l4.length c4) l4 :: Sl (.slice A5 l5.length c5) l5 :: Sl (.slice A6 l6.length c6) l6 :: Sl (.slice A7 l7.length c7) l7 :: Sl (.slice A8 l8.length c8) l8 :: Sl (.slice A9 l9.length c9) l9 :: Sl (.slice A10 l10.length c10) l10 :: R) (fun w hs => hs.weaken sbp kpp) (hk (n1_0, n1_1, n1_2, n1_3, n1_4, n1_5, s2, l3, l4, l5, l6, l7, l8, l9, l10, n11_0) a11 ((), (), (), (), (), (), (), (A3, c3), (A4, c4), (A5, c5), (A6, c6), (A7, c7), (A8, c8), (A9, c9), (A10, c10), ()) (by unfold maD; simp only [pairD, h1_0, h1_1, h1_2, h1_3, h1_4, h1_5, h2, h3, h4, h5, h6, h7, h8, h9, h10, h11_0]) (by omega) hle11 (show InI n1_0 ∧ InI n1_1 ∧ InI n1_2 ∧ InI n1_3 ∧ InI n1_4 ∧ InI n1_5 ∧ True ∧ (l3.length ≤ c3 ∧ c3 ≤ maxL) ∧ (l4.length ≤ c4 ∧ c4 ≤ maxL) ∧ (l5.length ≤ c5 ∧ c5 ≤ maxL) ∧ (l6.length ≤ c6 ∧ c6 ≤ maxL) ∧ (l7.length ≤ c7 ∧ c7 ≤ maxL) ∧ (l8.length ≤ c8 ∧ c8 ≤ maxL) ∧ (l9.length ≤ c9 ∧ c9 ≤ maxL) ∧ (l10.length ≤ c10 ∧ c10 ≤ maxL) ∧ InI n11_0 from ⟨(numD_in h1_0).1, (numD_in h1_1).1, (numD_in h1_2).1, (numD_in h1_3).1, (numD_in h1_4).1, (numD_in h1_5).1, trivial, ho3, ho4, ho5, ho6, ho7, ho8, ho9, ho10, (numD_in h11_0).1⟩)))
end Go.Proofs.Ytggdljhmbckpmaa
namespace Go.Proofs.Ytggdljhmbckpmaa
open Go Go.RowKit
set_option maxRecDepth 100000
set_option maxHeartbeats 3200000

def maZ : MaD := (0, 0, 0, 0, 0, 0, false, [], [], [], [], [], [], [], [], 0)
def yZ : Unp.Y MaD := ((), (), (), (), (), (), (), (none, 0), (none, 0), (none, 0), (none, 0), (none, 0), (none, 0), (none, 0), (none, 0), ())
theorem maZ_cs : (Unp.cs maZ yZ : List Value) = machZ := rfl
theorem maZ_ok : Unp.ok maZ yZ := by
  have h0 : InI 0 := by simp [InI]
  have hl : (0 : Nat) ≤ 0 ∧ 0 ≤ maxL := ⟨Nat.le_refl _, Nat.zero_le _⟩
  exact ⟨h0, h0, h0, h0, h0, h0, trivial, hl, hl, hl, hl, hl, hl, hl, hl, h0⟩
theorem S.maZ {w0 w : World} {H : List Hp} {R : List MP} (hs : S w0 w H R) : S w0 w H (Unp.fs maZ yZ ++ R) :=
  (((((((hs.sl_nil ChD).sl_nil TrD).sl_nil VaD).sl_nil ScD).sl_nil BrD).sl_nil FrD).sl_nil Int).sl_nil Int
/-- What Decode returns. -/
def decR (xs : List UInt8) : MaD × Int × Int := if 250000 < xs.length then (maZ, 0, 2) else match stD xs with
  | .error e => (maZ, (e : Int), 300)
  | .ok m => (m, 0, 0)
def KDm (K : Value → List Hp → List MP → Prop) (r : MaD × Int × Int) (H : List Hp) (R : List MP) : Prop := ∀ y, Unp.ok r.1 y → K (.tuple #[.agg (Unp.cs r.1 y).toArray, .int .i64 r.2.1, .int .i64 r.2.2]) H (Unp.fs r.1 y ++ R)
theorem KDm_eq {K : Value → List Hp → List MP → Prop} {r r' : MaD × Int × Int} {H : List Hp} {R : List MP} (e : r = r') (h : KDm K r H R) : KDm K r' H R := e ▸ h
theorem decode_k {w0 : World} {H : List Hp} {R : List MP} {K : Value → List Hp → List MP → Prop} (A : Option Addr) (c : Nat) (xs : List UInt8) (hxm : xs.length ≤ 9223372036854775806) (hm : Sl (.slice A xs.length c) xs ∈ R)
    (k : KDm K (decR xs) H R) : CallsK Try.prog w0 12 #[.slice A xs.length c] H R K := by
  refine callsM_of Try.func12 rfl Try.ntmps12 nep ?_
  apply TC_seq; apply TC_region
  repeat' ((refine T_gen rfl rfl ?_; ((refine gw_alloc clp (fun b => ?_))); refine T_nv ?_))
  rename_i b2 b3
  revert b
  intro b4
  apply T_nil; apply En_then
  have hpan : ∀ (e : Nat) (E' : List Value) (H' : List Hp) (R' : List MP) (cs : List Value), decR xs = (maZ, (e : Int), 300) → cs.length = 16 → H.Sublist H' → (∀ p ∈ R, p ∈ R') → E'.getD 2 undef = .pointer (some ⟨b2, 0, none⟩) → E'.getD 3 undef = .pointer (some ⟨b3, 0, none⟩) → E'.getD 4 undef = .pointer (some ⟨b4, 0, none⟩) → LVm Try.prog w0 Try.f12 K (.panicking (rf e)) [⟨.fn (.func 38) [.pointer (some ⟨b2, 0, none⟩), .pointer (some ⟨b3, 0, none⟩), .pointer (some ⟨b4, 0, none⟩)].toArray, #[]⟩] E' (.blk b4 [.int .i64 0] 35 :: .blk b3 [.int .i64 0] 3 :: .blk b2 cs 32 :: H') R' := by
    intro e E' H' R' cs hdec hcs hH' hR' hE2 hE3 hE4
    refine LVm_rec Try.func38 rfl rfl Try.ntmps38 rfl (by simp only [setD, List.length_cons, List.length_nil, Nat.reduceAdd, Nat.reduceSub, List.replicate_succ, List.replicate_zero, List.cons_append, List.nil_append, List.set_cons_succ, List.set_cons_zero]; rfl) ?_
    repeat' (first | (refine T_pure rfl rfl ?_; refine pw_eqnil_held rfl rfl ?_; refine T_nv ?_) | (refine T_pure rfl rfl ?_; refine pw_assert_yes rfl rfl ?_; refine T_nv ?_) | (apply TC_seq) | (apply TC_region) | (apply TC_block) | (apply TC_cond_true; exact rfl) | (apply TC_cond_false; exact rfl) | (apply T_nil) | (apply En_then) | (apply T_store; exact rfl; ((refine gw_store (i := 0) rfl clp rfl (by rfl) (by simp) (by simp [Value.oneCell']) ?_)); refine T_nv ?_; refine T_hq ?_) | (refine T_pure rfl rfl ?_; ((refine pw_extract rfl rfl ?_)); refine T_nv ?_) | (refine T_gen rfl rfl ?_; ((refine gw_alloc clp (fun b => ?_))); refine T_nv ?_))
    refine TC_draw mixed (by decide +kernel) (hQ_dpost (p := fun e => isDst _ e = true)) (List.Sublist.cons_cons _ (List.Sublist.cons _ (List.Sublist.cons _ (List.Sublist.cons _ (List.Sublist.refl _))))) ?_
    all_goals ((refine TA_ps 0 (List.Sublist.cons_cons _ (List.Sublist.cons _ (List.Sublist.cons _ (List.Sublist.cons _ (List.Sublist.refl _))))) ?_; ((refine pw_build bldp ?_)); refine TA_nv ?_))
    all_goals ((refine TA_ps 1 (List.Sublist.cons_cons _ (List.Sublist.cons _ (List.Sublist.cons _ (List.Sublist.cons _ (List.Sublist.refl _))))) ?_; ((refine pw_fieldAddr rfl ?_)); refine TA_nv ?_))
    all_goals ((refine TA_ps 2 (List.Sublist.cons_cons _ (List.Sublist.cons _ (List.Sublist.cons _ (List.Sublist.cons _ (List.Sublist.refl _))))) ?_; ((refine pw_load (i := 0) rfl rfl rfl ?_)); refine TA_nv ?_))
    -- left: [3, 4, 5]; ready: [3]: ['store']
    refine TA_g 3 ?_
    refine gw_store (i := 3) (vs := machZ) rfl clp rfl (by rfl) (by rw [hcs]; decide) (by simp [machZ, Value.oneCell']) ?_
    rw [overlay_all (by rw [hcs]; rfl)]
    refine ⟨.inl (fun w hs => hs.weaken (List.Sublist.cons_cons _ (List.Sublist.cons _ (List.Sublist.cons _ (List.Sublist.cons _ (List.Sublist.refl _))))) (fun _ h => h)), ?_⟩
    refine TA_nv ?_
    refine TA_hq ?_
    refine TA_g 4 ?_
    refine gw_store (i := 2) rfl clp rfl (by rfl) (by simp [machZ]) (by simp [Value.oneCell']) ?_
    refine ⟨.inl (fun w hs => hs.weaken (List.Sublist.cons_cons _ (List.Sublist.cons _ (List.Sublist.cons _ (List.Sublist.cons _ (List.Sublist.refl _))))) (fun _ h => h)), ?_⟩
    refine TA_nv ?_
    refine TA_hq ?_
    refine TA_g 5 ?_
    refine gw_store (i := 1) rfl clp rfl (by rfl) (by simp [machZ]) (by simp [Value.oneCell']) ?_
    refine ⟨.inl (fun w hs => hs.weaken (List.Sublist.cons_cons _ (List.Sublist.cons _ (List.Sublist.cons _ (List.Sublist.cons _ (List.Sublist.refl _))))) (fun _ h => h)), ?_⟩
    refine TA_nv ?_
    refine TA_hq ?_
    refine TA_done (by decide +kernel) ?_
    repeat' ((apply En_block))
    exact En_dpost (.inl rfl) (LVm_nil (res3 rfl (rv_cell (i := 3) hE2 rfl rfl) (rv_cell (i := 2) hE3 rfl rfl) (rv_cell (i := 1) hE4 rfl rfl)) H (Unp.fs maZ yZ ++ R) (fun w hs => (hs.weaken (List.Sublist.cons _ (List.Sublist.cons _ (List.Sublist.cons _ (List.Sublist.cons _ hH')))) hR').maZ) (KDm_eq hdec k yZ maZ_ok))
  have hret : ∀ (m : MaD) (y : Unp.Y MaD) (E' : List Value) (H' : List Hp) (R' : List MP), decR xs = (m, 0, 0) → Unp.ok m y → H.Sublist H' → (∀ p ∈ Unp.fs m y ++ R, p ∈ R') → E'.getD 2 undef = .pointer (some ⟨b2, 0, none⟩) → E'.getD 3 undef = .pointer (some ⟨b3, 0, none⟩) → E'.getD 4 undef = .pointer (some ⟨b4, 0, none⟩) → LVm Try.prog w0 Try.f12 K .returning [⟨.fn (.func 38) [.pointer (some ⟨b2, 0, none⟩), .pointer (some ⟨b3, 0, none⟩), .pointer (some ⟨b4, 0, none⟩)].toArray, #[]⟩] E' (.blk b4 [.int .i64 0] 35 :: .blk b3 [.int .i64 0] 3 :: .blk b2 (Unp.cs m y) 32 :: H') R' := by
    intro m y E' H' R' hdec hok hH' hR' hE2 hE3 hE4
    refine LVm_rec Try.func38 rfl rfl Try.ntmps38 rfl (by simp only [setD, List.length_cons, List.length_nil, Nat.reduceAdd, Nat.reduceSub, List.replicate_succ, List.replicate_zero, List.cons_append, List.nil_append, List.set_cons_succ, List.set_cons_zero]; rfl) ?_
    repeat' (first | (refine T_pure rfl rfl ?_; refine pw_eqnil_nil rfl ?_; refine T_nv ?_) | (apply TC_seq) | (apply TC_region) | (apply TC_block) | (apply TC_cond_true; exact rfl) | (apply T_nil) | (apply En_then) | (apply En_block) | (refine T_pure rfl rfl ?_; ((refine pw_as ?_)); refine T_nv ?_))
    exact En_dpost (.inl rfl) (LVm_nil (res3 rfl (rv_cell (i := 2) hE2 rfl (cellsVal_all (UnpL.len m y))) (rv_cell (i := 1) hE3 rfl rfl) (rv_cell (i := 0) hE4 rfl rfl)) H (Unp.fs m y ++ R) (fun w hs => hs.weaken (List.Sublist.cons _ (List.Sublist.cons _ (List.Sublist.cons _ hH'))) hR') (KDm_eq hdec k y hok))
  repeat' (first | (refine T_defer (cap := [_, _, _]) rfl ?_) | (apply TC_seq) | (apply TC_region) | (apply TC_block) | (apply TC_ret) | (apply TC_skip) | (apply TC_cond_true; exact rfl) | (apply TC_cond_false; exact rfl) | (apply T_nil) | (apply En_then) | (apply En_then_ret) | (apply T_bin; exact rfl; ((refine pw_gtr rfl rfl (fun h => ?_) (fun h => ?_))) <;> (refine T_nv ?_)) | (apply T_store; exact rfl; ((first | refine gw_store (i := 0) rfl clp rfl (by rfl) (by simp) (by simp [Value.oneCell']) ?_ | refine gw_store (i := 1) rfl clp rfl (by rfl) (by simp) (by simp [Value.oneCell']) ?_ | refine gw_store (i := 2) rfl clp rfl (by rfl) (by simp) (by simp [Value.oneCell']) ?_)); refine T_nv ?_; refine T_hq ?_) | (refine T_pure rfl rfl ?_; ((first | refine pw_mv ?_ | refine pw_as ?_ | refine pw_len rfl ?_ | refine pw_makeFuncL agp agp ?_ | refine pw_build bldp ?_)); refine T_nv ?_) | (refine T_gen rfl rfl ?_; ((refine gw_box clp (fun b => ?_))); refine T_nv ?_))
  · exact En_leave_ret (.inl rfl) (LVm_nil (res3 rfl (rv_cell (i := 2) rfl rfl rfl) (rv_cell (i := 1) rfl rfl rfl) (rv_cell (i := 0) rfl rfl rfl)) H (Unp.fs maZ yZ ++ R) (fun w hs => (hs.weaken sbp (fun _ h => h)).maZ) (KDm_eq (r' := (maZ, 0, 2)) (by unfold decR; rw [if_pos (by omega)]) k yZ maZ_ok))
  have hx : xs.length ≤ 250000 := by omega
  have hdecE : ∀ e : Nat, stD xs = .error e → decR xs = (maZ, (e : Int), 300) := fun e he => by
    unfold decR
    rw [if_neg (by omega), he]
  have hdecO : ∀ m, stD xs = .ok m → decR xs = (m, 0, 0) := fun e he => by
    unfold decR
    rw [if_neg (by omega), he]
  refine TC_unroll 4 ?_
  apply TCr_succ
  repeat' (first | (apply TC_seq) | (apply TC_region) | (apply TC_block) | (apply TC_skip) | (apply TC_cond_true; exact rfl) | (apply T_nil) | (apply En_then) | (apply T_bin; exact rfl; ((refine pw_lss rfl rfl (fun h => ?_) (fun h => ?_))) <;> (first | (exfalso; omega) | refine T_nv ?_)) | (refine T_pure rfl rfl ?_; ((first | refine pw_mv ?_ | refine pw_as ?_)); refine T_nv ?_))
  refine TC_draw mixed (by decide +kernel) (hQ_rec (by decide +kernel)) (List.Sublist.cons _ (List.Sublist.refl _)) ?_
  all_goals ((refine TA_ps 0 (List.Sublist.cons _ (List.Sublist.refl _)) ?_; ((refine pw_mv ?_)); refine TA_nv ?_))
  all_goals ((refine TA_ps 1 (List.Sublist.cons _ (List.Sublist.refl _)) ?_; ((refine pw_nilCheck rfl ?_)); refine TA_nv ?_))
  all_goals ((refine TA_ps 2 (List.Sublist.cons _ (List.Sublist.refl _)) ?_; ((refine pw_fieldAddr rfl ?_)); refine TA_nv ?_))
  all_goals ((refine TA_ps 4 (List.Sublist.cons _ (List.Sublist.refl _)) ?_; ((refine pw_mv ?_)); refine TA_nv ?_))
  all_goals ((refine TA_ps 5 (List.Sublist.cons _ (List.Sublist.refl _)) ?_; ((refine pw_index_str (c := 109) rfl rfl (by omega) rfl ?_)); refine TA_nv ?_))
  -- left: [3, 6]; ready: [3]: ['call']
  refine TA_o 3 ?_
  refine ow_callfP (KP := fun ch H' R' => ch = rf xs.length ∧ H' = .blk b4 [.int .i64 0] 35 :: .blk b3 [.int .i64 0] 3 :: .blk b2 machZ 32 :: H ∧ R' = R ∧ xs.length ≤ 0) rfl (next_r b A c xs 0 hxm (by omega) hm (fun hlt0 => ?_) (fun hge => ⟨rfl, rfl, rfl, hge⟩)) ?_
  rotate_left
  · rintro ch H' R' ⟨rfl, rfl, rfl, hge⟩
    repeat' (first | apply En_then_panic | apply En_block_panic)
    exact En_leave_panic (hpan _ _ H R' machZ (hdecE _ (by unfold stD headD; simp only [if_pos (show xs.length ≤ 0 from hge)])) rfl (List.Sublist.refl _) (fun _ h => h) rfl rfl rfl)
  refine ⟨.inl (fun w hs => hs.weaken (List.Sublist.cons _ (List.Sublist.refl _)) (fun _ h => h)), ?_⟩; refine TA_nv ?_
  all_goals ((refine TA_ps 6 (List.Sublist.cons _ (List.Sublist.refl _)) ?_; ((refine pw_neq rfl rfl (fun h => ?_) (fun h => ?_))) <;> (refine TA_nv ?_)))
  all_goals refine TA_d ?_
  · have hne0 := h
    repeat' (first | (apply TC_region) | (apply TC_cond_true; exact rfl) | (apply En_then) | (refine T_pure rfl rfl ?_; ((refine pw_mv ?_)); refine T_nv ?_))
    refine T_back rfl rfl (by omega) (by omega) ?_
    repeat' (first | apply En_then_panic | apply En_block_panic)
    exact En_leave_panic (hpan _ _ H R machZ (hdecE _ (by unfold stD headD; simp only [if_neg (show ¬ xs.length ≤ 0 by omega), if_pos (show xs[0]? ≠ some 109 from fun h => hne0 (by rw [List.getElem?_eq_getElem hlt0] at h; injection h with h; rw [h]))])) rfl (List.Sublist.refl _) (fun _ h => h) rfl rfl rfl)
  have heq0 := h
  have g0 : xs[0]? = some 109 := by
    rw [List.getElem?_eq_getElem hlt0]
    congr 1
    exact UInt8.toNat_inj.1 (by exact_mod_cast heq0)
  repeat' (first | (apply TC_region) | (apply TC_skip) | (apply TC_cond_false; exact rfl) | (apply T_nil) | (apply En_then) | (apply En_block) | (apply T_bin; exact rfl; ((refine pw_add64 rfl rfl (by omega) (by omega) ?_)); refine T_nv ?_) | (refine T_pure rfl rfl ?_; ((refine pw_mv ?_)); refine T_nv ?_))
  apply En_round
  apply TCr_succ
  repeat' (first | (apply TC_seq) | (apply TC_region) | (apply TC_block) | (apply TC_skip) | (apply TC_cond_true; exact rfl) | (apply T_nil) | (apply En_then) | (apply T_bin; exact rfl; ((refine pw_lss rfl rfl (fun h => ?_) (fun h => ?_))) <;> (first | (exfalso; omega) | refine T_nv ?_)) | (refine T_pure rfl rfl ?_; ((first | refine pw_mv ?_ | refine pw_as ?_)); refine T_nv ?_))
  refine TC_draw mixed (by decide +kernel) (hQ_rec (by decide +kernel)) (List.Sublist.cons _ (List.Sublist.refl _)) ?_
  all_goals ((refine TA_ps 0 (List.Sublist.cons _ (List.Sublist.refl _)) ?_; ((refine pw_mv ?_)); refine TA_nv ?_))
  all_goals ((refine TA_ps 1 (List.Sublist.cons _ (List.Sublist.refl _)) ?_; ((refine pw_nilCheck rfl ?_)); refine TA_nv ?_))
  all_goals ((refine TA_ps 2 (List.Sublist.cons _ (List.Sublist.refl _)) ?_; ((refine pw_fieldAddr rfl ?_)); refine TA_nv ?_))
  all_goals ((refine TA_ps 4 (List.Sublist.cons _ (List.Sublist.refl _)) ?_; ((refine pw_mv ?_)); refine TA_nv ?_))
  all_goals ((refine TA_ps 5 (List.Sublist.cons _ (List.Sublist.refl _)) ?_; ((refine pw_index_str (c := 97) rfl rfl (by omega) rfl ?_)); refine TA_nv ?_))
  -- left: [3, 6]; ready: [3]: ['call']
  refine TA_o 3 ?_
  refine ow_callfP (KP := fun ch H' R' => ch = rf xs.length ∧ H' = .blk b4 [.int .i64 0] 35 :: .blk b3 [.int .i64 0] 3 :: .blk b2 machZ 32 :: H ∧ R' = R ∧ xs.length ≤ 1) rfl (next_r b A c xs 1 hxm (by omega) hm (fun hlt1 => ?_) (fun hge => ⟨rfl, rfl, rfl, hge⟩)) ?_
  rotate_left
  · rintro ch H' R' ⟨rfl, rfl, rfl, hge⟩
    repeat' (first | apply En_then_panic | apply En_block_panic)
    exact En_leave_panic (hpan _ _ H R' machZ (hdecE _ (by unfold stD headD; simp only [if_neg (show ¬ xs.length ≤ 0 by omega), if_neg (show ¬ (xs[0]? ≠ some 109) from fun h => h g0), if_pos (show xs.length ≤ 1 from hge)])) rfl (List.Sublist.refl _) (fun _ h => h) rfl rfl rfl)
  refine ⟨.inl (fun w hs => hs.weaken (List.Sublist.cons _ (List.Sublist.refl _)) (fun _ h => h)), ?_⟩; refine TA_nv ?_
  all_goals ((refine TA_ps 6 (List.Sublist.cons _ (List.Sublist.refl _)) ?_; ((refine pw_neq rfl rfl (fun h => ?_) (fun h => ?_))) <;> (refine TA_nv ?_)))
  all_goals refine TA_d ?_
  · have hne1 := h
    repeat' (first | (apply TC_region) | (apply TC_cond_true; exact rfl) | (apply En_then) | (refine T_pure rfl rfl ?_; ((refine pw_mv ?_)); refine T_nv ?_))
    refine T_back rfl rfl (by omega) (by omega) ?_
    repeat' (first | apply En_then_panic | apply En_block_panic)
    exact En_leave_panic (hpan _ _ H R machZ (hdecE _ (by unfold stD headD; simp only [if_neg (show ¬ xs.length ≤ 0 by omega), if_neg (show ¬ (xs[0]? ≠ some 109) from fun h => h g0), if_neg (show ¬ xs.length ≤ 1 by omega), if_pos (show xs[1]? ≠ some 97 from fun h => hne1 (by rw [List.getElem?_eq_getElem hlt1] at h; injection h with h; rw [h]))])) rfl (List.Sublist.refl _) (fun _ h => h) rfl rfl rfl)
  have heq1 := h
  have g1 : xs[1]? = some 97 := by
    rw [List.getElem?_eq_getElem hlt1]
    congr 1
    exact UInt8.toNat_inj.1 (by exact_mod_cast heq1)
  repeat' (first | (apply TC_region) | (apply TC_skip) | (apply TC_cond_false; exact rfl) | (apply T_nil) | (apply En_then) | (apply En_block) | (apply T_bin; exact rfl; ((refine pw_add64 rfl rfl (by omega) (by omega) ?_)); refine T_nv ?_) | (refine T_pure rfl rfl ?_; ((refine pw_mv ?_)); refine T_nv ?_))
  apply En_round
  apply TCr_succ
  repeat' (first | (apply TC_seq) | (apply TC_region) | (apply TC_block) | (apply TC_skip) | (apply TC_cond_true; exact rfl) | (apply T_nil) | (apply En_then) | (apply T_bin; exact rfl; ((refine pw_lss rfl rfl (fun h => ?_) (fun h => ?_))) <;> (first | (exfalso; omega) | refine T_nv ?_)) | (refine T_pure rfl rfl ?_; ((first | refine pw_mv ?_ | refine pw_as ?_)); refine T_nv ?_))
  refine TC_draw mixed (by decide +kernel) (hQ_rec (by decide +kernel)) (List.Sublist.cons _ (List.Sublist.refl _)) ?_
  all_goals ((refine TA_ps 0 (List.Sublist.cons _ (List.Sublist.refl _)) ?_; ((refine pw_mv ?_)); refine TA_nv ?_))
  all_goals ((refine TA_ps 1 (List.Sublist.cons _ (List.Sublist.refl _)) ?_; ((refine pw_nilCheck rfl ?_)); refine TA_nv ?_))
  all_goals ((refine TA_ps 2 (List.Sublist.cons _ (List.Sublist.refl _)) ?_; ((refine pw_fieldAddr rfl ?_)); refine TA_nv ?_))
  all_goals ((refine TA_ps 4 (List.Sublist.cons _ (List.Sublist.refl _)) ?_; ((refine pw_mv ?_)); refine TA_nv ?_))
  all_goals ((refine TA_ps 5 (List.Sublist.cons _ (List.Sublist.refl _)) ?_; ((refine pw_index_str (c := 1) rfl rfl (by omega) rfl ?_)); refine TA_nv ?_))
  -- left: [3, 6]; ready: [3]: ['call']
  refine TA_o 3 ?_
  refine ow_callfP (KP := fun ch H' R' => ch = rf xs.length ∧ H' = .blk b4 [.int .i64 0] 35 :: .blk b3 [.int .i64 0] 3 :: .blk b2 machZ 32 :: H ∧ R' = R ∧ xs.length ≤ 2) rfl (next_r b A c xs 2 hxm (by omega) hm (fun hlt2 => ?_) (fun hge => ⟨rfl, rfl, rfl, hge⟩)) ?_
  rotate_left
  · rintro ch H' R' ⟨rfl, rfl, rfl, hge⟩
    repeat' (first | apply En_then_panic | apply En_block_panic)
    exact En_leave_panic (hpan _ _ H R' machZ (hdecE _ (by unfold stD headD; simp only [if_neg (show ¬ xs.length ≤ 0 by omega), if_neg (show ¬ (xs[0]? ≠ some 109) from fun h => h g0), if_neg (show ¬ xs.length ≤ 1 by omega), if_neg (show ¬ (xs[1]? ≠ some 97) from fun h => h g1), if_pos (show xs.length ≤ 2 from hge)])) rfl (List.Sublist.refl _) (fun _ h => h) rfl rfl rfl)
  refine ⟨.inl (fun w hs => hs.weaken (List.Sublist.cons _ (List.Sublist.refl _)) (fun _ h => h)), ?_⟩; refine TA_nv ?_
  all_goals ((refine TA_ps 6 (List.Sublist.cons _ (List.Sublist.refl _)) ?_; ((refine pw_neq rfl rfl (fun h => ?_) (fun h => ?_))) <;> (refine TA_nv ?_)))
  all_goals refine TA_d ?_
  · have hne2 := h
    repeat' (first | (apply TC_region) | (apply TC_cond_true; exact rfl) | (apply En_then) | (refine T_pure rfl rfl ?_; ((refine pw_mv ?_)); refine T_nv ?_))
    refine T_back rfl rfl (by omega) (by omega) ?_
    repeat' (first | apply En_then_panic | apply En_block_panic)
    exact En_leave_panic (hpan _ _ H R machZ (hdecE _ (by unfold stD headD; simp only [if_neg (show ¬ xs.length ≤ 0 by omega), if_neg (show ¬ (xs[0]? ≠ some 109) from fun h => h g0), if_neg (show ¬ xs.length ≤ 1 by omega), if_neg (show ¬ (xs[1]? ≠ some 97) from fun h => h g1), if_neg (show ¬ xs.length ≤ 2 by omega), if_pos (show xs[2]? ≠ some 1 from fun h => hne2 (by rw [List.getElem?_eq_getElem hlt2] at h; injection h with h; rw [h]))])) rfl (List.Sublist.refl _) (fun _ h => h) rfl rfl rfl)
  have heq2 := h
  have g2 : xs[2]? = some 1 := by
    rw [List.getElem?_eq_getElem hlt2]
    congr 1
    exact UInt8.toNat_inj.1 (by exact_mod_cast heq2)
  repeat' (first | (apply TC_region) | (apply TC_skip) | (apply TC_cond_false; exact rfl) | (apply T_nil) | (apply En_then) | (apply En_block) | (apply T_bin; exact rfl; ((refine pw_add64 rfl rfl (by omega) (by omega) ?_)); refine T_nv ?_) | (refine T_pure rfl rfl ?_; ((refine pw_mv ?_)); refine T_nv ?_))
  apply En_round
  apply TCr_succ
  have hhead : headD xs 0 = .ok ((), 3) := by
    unfold headD
    simp only [if_neg (show ¬ xs.length ≤ 0 by omega), if_neg (show ¬ (xs[0]? ≠ some 109) from fun h => h g0), if_neg (show ¬ xs.length ≤ 1 by omega), if_neg (show ¬ (xs[1]? ≠ some 97) from fun h => h g1), if_neg (show ¬ xs.length ≤ 2 by omega), if_neg (show ¬ (xs[2]? ≠ some 1) from fun h => h g2)]
  repeat' (first | (apply TC_seq) | (apply TC_region) | (apply TC_exit) | (apply TC_cond_false; exact rfl) | (apply T_nil) | (apply En_then) | (apply En_then_exit) | (apply En_block_exit) | (apply T_bin; exact rfl; ((refine pw_lss rfl rfl (fun h => ?_) (fun h => ?_))) <;> (first | (exfalso; omega) | refine T_nv ?_)) | (refine T_pure rfl rfl ?_; ((refine pw_mv ?_)); refine T_nv ?_))
  refine T_rd rfl rfl (state_r b A c xs hx) (Nat.zero_le _) (by omega) hm (fun m a' y hd h1 h2 hok => ?_) (fun e he => ?_)
  rotate_left
  · skip
    repeat' ((apply En_then_panic))
    exact En_leave_panic (hpan _ _ H R machZ (hdecE _ (by unfold stD; rw [hhead]; simp only; rw [maD_eq, he])) rfl (List.Sublist.refl _) (fun _ h => h) rfl rfl rfl)
  refine T_nv ?_
  have hlen : (Unp.cs m y).length = 16 := UnpL.len m y
  refine T_gen rfl rfl ?_
  refine gw_store (i := 3) (vs := Unp.cs m y) rfl rfl rfl hlen (by simp [machZ]) (UnpL.one m y) ?_
  rw [overlay_all (by rw [hlen]; rfl)]
  refine T_nv ?_
  refine T_hq ?_
  repeat' (first | (apply TC_seq) | (apply TC_region) | (apply TC_skip) | (apply TC_cond_true; exact rfl) | (apply TC_cond_false; exact rfl) | (apply T_nil) | (apply En_then) | (apply T_load; exact rfl; ((first | refine pw_load (i := 0) rfl rfl rfl ?_ | refine pw_load (i := 3) rfl rfl rfl ?_)); refine T_nv ?_) | (apply T_bin; exact rfl; ((refine pw_lss rfl rfl (fun h => ?_) (fun h => ?_))) <;> (refine T_nv ?_)) | (refine T_pure rfl rfl ?_; ((first | refine pw_mv ?_ | refine pw_nilCheck rfl ?_ | refine pw_fieldAddr rfl ?_ | refine pw_len rfl ?_ | refine pw_build bldp ?_ | refine pw_makeInterface rfl ?_)); refine T_nv ?_))
  · refine T_panic rfl rfl ?_
    repeat' (apply En_then_panic)
    refine En_weaken (.blk b4 [.int .i64 0] 35 :: .blk b3 [.int .i64 0] 3 :: .blk b2 (Unp.cs m y) 32 :: H) _ (fun w hs => hs.weaken (List.Sublist.cons _ (List.Sublist.refl _)) (fun _ h => h)) ?_
    exact En_leave_panic (hpan a' _ H (Unp.fs m y ++ R) (Unp.cs m y) (hdecE _ (by unfold stD; rw [hhead]; simp only; rw [maD_eq, hd]; simp only; rw [if_pos (by omega)])) hlen (List.Sublist.refl _) (fun p hp => List.mem_append_right _ hp) rfl rfl rfl)
  · have e : List.take 16 (List.drop 0 (Unp.cs m y)) = Unp.cs m y := by rw [List.drop_zero, ← hlen, List.take_length]
    rw [e]
    refine T_gen rfl rfl ?_
    refine gw_store (i := 3) (vs := Unp.cs m y) rfl rfl rfl hlen (by rw [hlen]; decide) (UnpL.one m y) ?_
    rw [overlay_all rfl]
    refine T_nv ?_
    refine T_hq ?_
    repeat' (first | (apply TC_ret) | (apply T_nil) | (apply En_then) | (apply T_store; exact rfl; ((first | refine gw_store (i := 1) rfl clp rfl (by rfl) (by simp) (by simp [Value.oneCell']) ?_ | refine gw_store (i := 2) rfl clp rfl (by rfl) (by simp) (by simp [Value.oneCell']) ?_)); refine T_nv ?_; refine T_hq ?_))
    refine En_weaken (.blk b4 [.int .i64 0] 35 :: .blk b3 [.int .i64 0] 3 :: .blk b2 (Unp.cs m y) 32 :: H) _ (fun w hs => hs.weaken (List.Sublist.cons _ (List.Sublist.refl _)) (fun _ h => h)) ?_
    exact En_leave_ret (.inl rfl) (hret m y _ H (Unp.fs m y ++ R) (hdecO m (by unfold stD; rw [hhead]; simp only; rw [maD_eq, hd]; simp only; rw [if_neg (by omega)])) hok (List.Sublist.refl _) (fun _ h => h) rfl rfl rfl)
end Go.Proofs.Ytggdljhmbckpmaa
