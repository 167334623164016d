/- ImageDrives: walk. -/
import Derived.Test.YtggdljhmbckpmaaG2
import Derived.Test.YtggdljhmbckpmaaH1
import Derived.Test.YtggdljhmbckpmaaP2
import Derived.Test.YtggdljhmbckpmaaR4
import Derived.Test.YtggdljhmbckpmaaR5
set_option linter.unusedVariables false
set_option linter.unusedSimpArgs false
namespace Go.Proofs.Ytggdljhmbckpmaa
open Go Go.RowKit
set_option maxRecDepth 100000
set_option maxHeartbeats 8000000

theorem KE_lit {K : Value → List Hp → List MP → Prop} {r : Drive × Int} {H : List Hp} {R : List MP} (u : Drive) (j : Int) (e : r = (u, j)) (h : ∀ A c A2 c2, K (.agg #[.slice A u.bytes.length c, .slice A2 u.pending.length c2, .int .i64 j]) H (dvR A c A2 c2 u R)) : KE K r H R := by
  subst e; exact h
theorem KC_lit {K : Value → List Hp → List MP → Prop} {r : List UInt8 × Int} {H : List Hp} {R : List MP} (u : List UInt8) (j : Int) (e : r = (u, j)) (h : ∀ A c, K (.agg #[.slice A u.length c, .int .i64 j]) H (Sl (.slice A u.length c) u :: R)) : KC K r H R := by
  subst e; exact h

theorem drives_k {w0 : World} {H : List Hp} {R : List MP} {K : Value → List Hp → List MP → Prop} (A0 : Option Addr) (c0 : Nat) (A2 : Option Addr) (c2 : Nat) (A3 : Option Addr) (c3 : Nat) (A4 : Option Addr) (c4 : Nat) (d : Drive) (l : List DO) (ps : List Int) (hb : d.bytes.length ≤ 9223372036854775807) (hp : d.pending.length ≤ 9223372036854775807) (hll : l.length ≤ 9223372036854775807) (hpl : ps.length ≤ 9223372036854775807)
    (hm : Sl (.slice A0 d.bytes.length c0) d.bytes ∈ R) (hm2 : Sl (.slice A2 d.pending.length c2) d.pending ∈ R) (hm3 : Sl (.slice A3 l.length c3) l ∈ R) (hm4 : Sl (.slice A4 ps.length c4) ps ∈ R)
    (k : K (.bool true) H R) : CallsK Try.prog w0 5 #[dv A0 c0 A2 c2 d, .slice A3 l.length c3, .slice A4 ps.length c4] H R K := by
  refine calls_of Try.func5 rfl Try.ntmps5 nep ?_
  repeat' (first | (refine T_gen rfl rfl ?_; refine gw_box clp (fun b => ?_); refine T_nv ?_) | (refine T_ow rfl ?_; refine ow_callf arp ?_; refine sane_k ?_; refine T_nv ?_) | (refine TC_cutS (x := .seq (.region 5 _ _) _) [8, 33, 34, 35, 36, 37, 38] (fun j H' R' => ∃ n : Int, InI n ∧ j 8 = .int .i64 n ∧ H' = .blk b [.slice A0 d.bytes.length c0, .slice A2 d.pending.length c2] 45 :: H ∧ R = R') ?_ ?_) | (apply TC_seq) | (apply TC_region) | (apply TC_ret) | (apply TC_skip) | (apply TC_cond_true; exact rfl) | (apply TC_cond_false; exact rfl) | (apply T_nil) | (apply En_then) | (apply En_then_ret) | (apply T_load; exact rfl; ((refine pw_load (i := 0) rfl rfl rfl ?_)); refine T_nv ?_) | (apply T_bin; exact rfl; ((refine pw_gtr rfl rfl (fun h => ?_) (fun h => ?_))) <;> (refine T_nv ?_)) | (refine T_pure rfl rfl ?_; ((first | refine pw_mv ?_ | refine pw_as ?_ | refine pw_pick_t rfl evp ?_ | refine pw_pick_f rfl evp ?_ | refine pw_fieldAddr rfl ?_ | refine pw_len rfl ?_)); refine T_nv ?_) | (refine T_skipped rfl ?_; refine T_nv ?_))
  all_goals (first | exact En_fin (.inl rfl) (res1 rfl (rv_tmp rfl)) (fin_K H R (fun w hs => hs.weaken sbp kpp) k) | skip)
  · apply T_idx; exact rfl
    refine pw_index_i (xs := ps) rfl rfl memt (List.getElem?_eq_getElem (by omega)) (by decide) (fun b9 o9 hI => ?_)
    refine T_nv ?_
    repeat' (first | (apply T_nil) | (apply T_load; exact rfl; ((refine pw_load_at0 rfl memr rfl ?_)); refine T_nv ?_) | (refine T_pure rfl rfl ?_; ((refine pw_as ?_)); refine T_nv ?_))
    exact En_midS (.blk b [.slice A0 d.bytes.length c0, .slice A2 d.pending.length c2] 45 :: H) R sjp ⟨ps[(0 : Int).toNat]'(by omega), hI, rfl, rfl, rfl⟩ (fun w hs => hs.weaken sbp kpp)
  · exact En_midS (.blk b [.slice A0 d.bytes.length c0, .slice A2 d.pending.length c2] 45 :: H) R sjp ⟨0, by simp [InI], rfl, rfl, rfl⟩ (fun w hs => hs.weaken sbp kpp)
  rintro j H' R' ⟨n, hn, h8, hH, hR⟩
  subst hH hR
  refine TC_env (by simp only [setJ, List.foldl_cons, List.foldl_nil, List.set_cons_succ, List.set_cons_zero, h8]; rfl) ?_
  revert b
  intro b3
  obtain ⟨⟨ea, ja⟩, hea⟩ : ∃ r, newD n = r := ⟨_, rfl⟩
  obtain ⟨⟨eb, jb⟩, heb⟩ : ∃ r, doD d l = r := ⟨_, rfl⟩
  obtain ⟨⟨ec, jc⟩, hec⟩ : ∃ r, crashD d ps = r := ⟨_, rfl⟩
  obtain ⟨⟨ed, jd⟩, hed⟩ : ∃ r, readD d = r := ⟨_, rfl⟩
  have hla : ea.pending.length ≤ 100 := by have := newD_len n; rw [hea] at this; exact this
  have hlb : eb.pending.length ≤ 100 := by have := (doD_len' d l).2; rw [heb] at this; exact this
  have hlc : ec.pending.length ≤ 100 := by have := crashD_len d ps; rw [hec] at this; exact this
  repeat' (first | (refine T_ow rfl ?_; refine ow_callf arp ?_; refine newDrive_k n hn (KD_lit ea ja hea (fun Aa ca Aa2 ca2 => ?_)); refine T_nv ?_) | (refine T_gen rfl rfl ?_; refine gw_alloc clp (fun b9 => ?_); refine T_nv ?_) | (apply TC_seq) | (apply TC_region) | (apply T_nil) | (apply En_then) | (apply T_store; exact rfl; ((refine gw_store (i := 0) rfl clp rfl (by rfl) (by simp) (by simp [Value.oneCell']) ?_)); refine T_nv ?_; refine T_hq ?_) | (refine T_pure rfl rfl ?_; ((first | refine pw_mv ?_ | refine pw_as ?_ | refine pw_extract rfl rfl ?_)); refine T_nv ?_))
  revert b9
  intro b9
  refine T_ow rfl ?_; refine ow_callf arp ?_; refine rnewDrive_k n hn (KE_lit ea ja hea (fun Ax cx Ax2 cx2 => ?_)); refine T_nv ?_
  repeat' (first | (refine T_gen rfl rfl ?_; refine gw_alloc clp (fun b11 => ?_); refine T_nv ?_) | (apply TC_seq) | (apply TC_region) | (apply T_nil) | (apply En_then) | (apply T_load; exact rfl; ((refine pw_load (i := 2) rfl rfl rfl ?_)); refine T_nv ?_) | (apply T_store; exact rfl; ((refine gw_store (i := 0) rfl clp rfl (by rfl) (by simp) (by simp [Value.oneCell']) ?_)); refine T_nv ?_; refine T_hq ?_) | (refine T_pure rfl rfl ?_; ((refine pw_mv ?_)); refine T_nv ?_))
  refine T_ow rfl ?_; refine ow_callf arp ?_; refine do_k _ _ _ _ _ _ d l hb hp hll memt memt memt (KD_lit eb jb heb (fun Ab cb Ab2 cb2 => ?_)); refine T_nv ?_
  repeat' (first | (refine T_gen rfl rfl ?_; refine gw_alloc clp (fun b12 => ?_); refine T_nv ?_) | (apply TC_seq) | (apply TC_region) | (apply T_nil) | (apply En_then) | (apply T_load; exact rfl; ((refine pw_load (i := 3) rfl rfl rfl ?_)); refine T_nv ?_) | (apply T_store; exact rfl; ((refine gw_store (i := 0) rfl clp rfl (by rfl) (by simp) (by simp [Value.oneCell']) ?_)); refine T_nv ?_; refine T_hq ?_) | (refine T_pure rfl rfl ?_; ((first | refine pw_mv ?_ | refine pw_as ?_ | refine pw_extract rfl rfl ?_)); refine T_nv ?_))
  refine T_ow rfl ?_; refine ow_callf arp ?_; refine rdo_k _ _ _ _ _ _ d l hb hp hll memt memt memt (KE_lit eb jb heb (fun Ay cy Ay2 cy2 => ?_)); refine T_nv ?_
  repeat' (first | (refine T_gen rfl rfl ?_; refine gw_alloc clp (fun b14 => ?_); refine T_nv ?_) | (apply TC_seq) | (apply TC_region) | (apply T_nil) | (apply En_then) | (apply T_load; exact rfl; ((refine pw_load (i := 4) rfl rfl rfl ?_)); refine T_nv ?_) | (apply T_store; exact rfl; ((refine gw_store (i := 0) rfl clp rfl (by rfl) (by simp) (by simp [Value.oneCell']) ?_)); refine T_nv ?_; refine T_hq ?_) | (refine T_pure rfl rfl ?_; ((refine pw_mv ?_)); refine T_nv ?_))
  refine T_ow rfl ?_; refine ow_callf arp ?_; refine crash_k _ _ _ _ _ _ d ps hb hp hpl memt memt memt (KD_lit ec jc hec (fun Ac cc Ac2 cc2 => ?_)); refine T_nv ?_
  repeat' (first | (refine T_gen rfl rfl ?_; refine gw_alloc clp (fun b15 => ?_); refine T_nv ?_) | (apply TC_seq) | (apply TC_region) | (apply T_nil) | (apply En_then) | (apply T_load; exact rfl; ((refine pw_load (i := 5) rfl rfl rfl ?_)); refine T_nv ?_) | (apply T_store; exact rfl; ((refine gw_store (i := 0) rfl clp rfl (by rfl) (by simp) (by simp [Value.oneCell']) ?_)); refine T_nv ?_; refine T_hq ?_) | (refine T_pure rfl rfl ?_; ((first | refine pw_mv ?_ | refine pw_as ?_ | refine pw_extract rfl rfl ?_)); refine T_nv ?_))
  refine T_ow rfl ?_; refine ow_callf arp ?_; refine rcrash_k _ _ _ _ _ _ d ps hb hp hpl memt memt memt (KE_lit ec jc hec (fun Az cz Az2 cz2 => ?_)); refine T_nv ?_
  repeat' (first | (apply T_load; exact rfl; refine pw_load (i := 6) rfl rfl rfl ?_; refine T_nv ?_) | (refine T_gen rfl rfl ?_; refine gw_alloc clp (fun b17 => ?_); refine T_nv ?_) | (apply TC_seq) | (apply TC_region) | (apply T_nil) | (apply En_then) | (apply T_store; exact rfl; ((refine gw_store (i := 0) rfl clp rfl (by rfl) (by simp) (by simp [Value.oneCell']) ?_)); refine T_nv ?_; refine T_hq ?_))
  refine T_ow rfl ?_; refine ow_callf arp ?_; refine read_k _ _ _ _ d hb hp memt memt (KB_lit ed jd hed rfl (fun Ad cd => ?_)); refine T_nv ?_
  repeat' (first | (apply T_load; exact rfl; refine pw_load (i := 6) rfl rfl rfl ?_; refine T_nv ?_) | (apply TC_seq) | (apply TC_region) | (apply T_nil) | (apply En_then) | (refine T_pure rfl rfl ?_; ((first | refine pw_mv ?_ | refine pw_as ?_ | refine pw_extract rfl rfl ?_)); refine T_nv ?_))
  refine T_ow rfl ?_; refine ow_callf arp ?_; refine rread_k _ _ _ _ d hb hp memt memt (KC_lit ed jd hed (fun Aw cw => ?_)); refine T_nv ?_
  repeat' (first | (refine T_gen rfl rfl ?_; refine gw_alloc clp (fun b20 => ?_); refine T_nv ?_) | (apply TC_seq) | (apply T_nil) | (apply En_then) | (apply T_store; exact rfl; ((refine gw_store (i := 0) rfl clp rfl (by rfl) (by simp) (by simp [Value.oneCell']) ?_)); refine T_nv ?_; refine T_hq ?_))
  refine TC_draw mixed (by decide +kernel) (fun _ _ _ _ _ _ h => h) (List.Sublist.refl _) ?_
  all_goals ((refine TA_p 0 ?_; ((refine pw_load (i := 7) rfl rfl rfl ?_)); refine TA_nv ?_))
  all_goals ((refine TA_p 2 ?_; ((refine pw_load (i := 7) rfl rfl rfl ?_)); refine TA_nv ?_))
  -- left: [1, 3, 4, 5, 6, 7, 8, 9, 10, 11, 12, 13, 14, 15, 16, 17, 18, 19, 20, 21, 22, 23, 24, 25, 26, 27, 28, 29]; ready: [1]: ['call']
  refine TA_o 1 ?_
  refine ow_callf arp ?_; refine check_k _ _ _ _ d hb hp memt memt ?_
  refine ⟨.inl (fun w hs => hs.weaken sbp kpp), ?_⟩; refine TA_nv ?_
  -- left: [3, 4, 5, 6, 7, 8, 9, 10, 11, 12, 13, 14, 15, 16, 17, 18, 19, 20, 21, 22, 23, 24, 25, 26, 27, 28, 29]; ready: [3]: ['call']
  refine TA_o 3 ?_
  refine ow_callf arp ?_; refine rcheck_k _ _ _ _ d hb hp memt memt ?_
  refine ⟨.inl (fun w hs => hs.weaken sbp kpp), ?_⟩; refine TA_nv ?_
  all_goals ((refine TA_p 4 ?_; ((refine pw_eql rfl rfl (fun h => ?_) (fun h => ?_))) <;> (first | (exfalso; omega) | refine TA_nv ?_)))
  all_goals ((refine TA_p 5 ?_; ((refine pw_mv ?_)); refine TA_nv ?_))
  all_goals ((refine TA_p 6 ?_; ((refine pw_mv ?_)); refine TA_nv ?_))
  all_goals ((refine TA_p 7 ?_; ((refine pw_fieldAddr rfl ?_)); refine TA_nv ?_))
  all_goals ((refine TA_p 8 ?_; ((refine pw_load (i := 5) rfl rfl rfl ?_)); refine TA_nv ?_))
  all_goals ((refine TA_p 9 ?_; ((refine pw_eql rfl rfl (fun h => ?_) (fun h => ?_))) <;> (first | (exfalso; omega) | refine TA_nv ?_)))
  all_goals ((refine TA_p 10 ?_; ((refine pw_pick_t rfl evp ?_)); refine TA_nv ?_))
  all_goals ((refine TA_p 11 ?_; ((refine pw_mv ?_)); refine TA_nv ?_))
  all_goals ((refine TA_p 12 ?_; ((refine pw_load (i := 6) rfl rfl rfl ?_)); refine TA_nv ?_))
  all_goals ((refine TA_p 13 ?_; ((refine pw_fieldAddr rfl ?_)); refine TA_nv ?_))
  all_goals ((refine TA_p 14 ?_; ((refine pw_load (i := 5) rfl rfl rfl ?_)); refine TA_nv ?_))
  -- left: [15, 16, 17, 18, 19, 20, 21, 22, 23, 24, 25, 26, 27, 28, 29]; ready: [15]: ['call']
  refine TA_o 15 ?_
  refine ow_callf arp ?_; refine sameDrive_k _ _ _ _ _ _ _ _ ea (by omega) memt memt memt memt ?_
  refine ⟨.inl (fun w hs => hs.weaken sbp kpp), ?_⟩; refine TA_nv ?_
  all_goals ((refine TA_p 16 ?_; ((refine pw_pick_t rfl evp ?_)); refine TA_nv ?_))
  all_goals ((refine TA_p 17 ?_; ((refine pw_mv ?_)); refine TA_nv ?_))
  all_goals ((refine TA_p 18 ?_; ((refine pw_mv ?_)); refine TA_nv ?_))
  all_goals ((refine TA_p 19 ?_; ((refine pw_fieldAddr rfl ?_)); refine TA_nv ?_))
  all_goals ((refine TA_p 20 ?_; ((refine pw_load (i := 3) rfl rfl rfl ?_)); refine TA_nv ?_))
  all_goals ((refine TA_p 21 ?_; ((refine pw_eql rfl rfl (fun h => ?_) (fun h => ?_))) <;> (first | (exfalso; omega) | refine TA_nv ?_)))
  all_goals ((refine TA_p 22 ?_; ((refine pw_pick_t rfl evp ?_)); refine TA_nv ?_))
  all_goals ((refine TA_p 23 ?_; ((refine pw_mv ?_)); refine TA_nv ?_))
  all_goals ((refine TA_p 24 ?_; ((refine pw_load (i := 4) rfl rfl rfl ?_)); refine TA_nv ?_))
  all_goals ((refine TA_p 25 ?_; ((refine pw_fieldAddr rfl ?_)); refine TA_nv ?_))
  all_goals ((refine TA_p 26 ?_; ((refine pw_load (i := 3) rfl rfl rfl ?_)); refine TA_nv ?_))
  -- left: [27, 28, 29]; ready: [27]: ['call']
  refine TA_o 27 ?_
  refine ow_callf arp ?_; refine sameDrive_k _ _ _ _ _ _ _ _ eb (by omega) memt memt memt memt ?_
  refine ⟨.inl (fun w hs => hs.weaken sbp kpp), ?_⟩; refine TA_nv ?_
  all_goals ((refine TA_p 28 ?_; ((refine pw_pick_t rfl evp ?_)); refine TA_nv ?_))
  all_goals ((refine TA_p 29 ?_; ((refine pw_as ?_)); refine TA_nv ?_))
  all_goals refine TA_d ?_
  repeat' (first | (apply T_bin; exact rfl; refine pw_eql rfl rfl (fun _ => ?_) (fun h => absurd rfl h); refine T_nv ?_) | (refine T_ow rfl ?_; refine ow_callf arp ?_; refine sameDrive_k _ _ _ _ _ _ _ _ ec (by omega) memt memt memt memt ?_; refine T_nv ?_) | (refine T_ow rfl ?_; refine ow_callf arp ?_; refine sameBytes_k2 _ _ _ _ _ _ ed ed memt memt (fun _ => ?_) (fun h => absurd rfl h); refine T_nv ?_) | (apply TC_seq) | (apply TC_region) | (apply TC_ret) | (apply T_nil) | (apply En_then) | (apply T_load; exact rfl; ((first | refine pw_load (i := 0) rfl rfl rfl ?_ | refine pw_load (i := 1) rfl rfl rfl ?_ | refine pw_load (i := 2) rfl rfl rfl ?_)); refine T_nv ?_) | (refine T_pure rfl rfl ?_; ((first | refine pw_mv ?_ | refine pw_as ?_ | refine pw_pick_t rfl evp ?_ | refine pw_fieldAddr rfl ?_)); refine T_nv ?_))
  exact En_fin (.inl rfl) (res1 rfl (rv_tmp rfl)) (fin_K H R (fun w hs => hs.weaken sbp kpp) k)
end Go.Proofs.Ytggdljhmbckpmaa
