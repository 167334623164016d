/- ImageLogs: walk. -/
import Derived.Test.YtggdljhmbckpmaaG2
import Derived.Test.YtggdljhmbckpmaaS1
import Derived.Test.YtggdljhmbckpmaaQ4
set_option linter.unusedVariables false
set_option linter.unusedSimpArgs false
namespace Go.Proofs.Ytggdljhmbckpmaa
open Go Go.RowKit
set_option maxRecDepth 100000
set_option maxHeartbeats 8000000

theorem KD1_lit {K : Value → List Hp → List MP → Prop} {r : Drive} {H : List Hp} {R : List MP} (u : Drive) (e : r = u) (h : ∀ A c A2 c2, K (dv A c A2 c2 u) H (dvR A c A2 c2 u R)) : KD1 K r H R := by
  subst e; exact h
theorem records_ok {d : Drive} {lR : List RecD} (h : recordsD d = (lR, 0)) : checkD d = true ∧ lR = (curB (hasB d)).1.map Rc.toR := by
  unfold recordsD at h
  split at h
  · rename_i hc
    injection h with h1 h2
    exact ⟨hc, h1.symm⟩
  · injection h with _ h; cases h
/-- The records of the current half, one behind the other. -/
theorem cur_chain {b : List UInt8} {l : List Rc} {half size : Nat} (hb : b.length = 2 * size) (hs : size ≤ 300000) (hcur : curB b = (l, half)) (i : Nat) (r : Rc) (hi : l[i]? = some r) :
    r.at_ = endL (half * size) (l.take i) ∧ r.seq = i ∧ r.epoch = (l.getD 0 Rc.zero).epoch ∧ endL (half * size) (l.take (i + 1)) = r.at_ + 21 + r.data.length ∧ r.at_ + 21 + r.data.length ≤ (half + 1) * size ∧ (half + 1) * size ≤ 600000 := by
  obtain ⟨c1, c2, _⟩ := cur_facts hcur
  obtain ⟨hil, rfl⟩ := List.getElem?_eq_some_iff.1 hi
  obtain ⟨h1, h2, h3, h4, h5⟩ := chain_of (by omega) c1 c2 i hil
  have hen := (recsB_end (b := b) (h := half) (by omega) c1 (i + 1)).2
  have hlo := loH_eq (h := half) hb
  have hhi := hiH_eq (h := half) hb
  rw [← c2, hhi] at hen
  rw [hlo] at h1 h5 hen
  have h6 : (half + 1) * size ≤ 2 * size := Nat.mul_le_mul_right _ (by omega)
  refine ⟨h1, h2, ?_, h5, by rw [h5] at hen; exact hen, by omega⟩
  rw [h3, getD_rc l (by omega)]
theorem logs_k {w0 : World} {H : List Hp} {R : List MP} {K : Value → List Hp → List MP → Prop} (A0 : Option Addr) (c0 : Nat) (A2 : Option Addr) (c2 : Nat) (A3 : Option Addr) (c3 : Nat) (d : Drive) (data : List UInt8) (hb : d.bytes.length ≤ 9223372036854775807) (hp : d.pending.length ≤ 9223372036854775807) (hdl : data.length ≤ 140737488355328)
    (hm : Sl (.slice A0 d.bytes.length c0) d.bytes ∈ R) (hm2 : Sl (.slice A2 d.pending.length c2) d.pending ∈ R) (hm3 : Sl (.slice A3 data.length c3) data ∈ R)
    (k : K (.bool true) H R) : CallsK Try.prog w0 4 #[dv A0 c0 A2 c2 d, .slice A3 data.length c3] H R K := by
  obtain ⟨⟨lR, er⟩, hlr⟩ : ∃ r, recordsD d = r := ⟨_, rfl⟩
  refine calls_of Try.func4 rfl Try.ntmps4 nep ?_
  repeat' (first | (refine T_gen rfl rfl ?_; refine gw_box clp (fun b2 => ?_); refine T_nv ?_) | (refine T_ow rfl ?_; refine ow_callf arp ?_; refine sane_k ?_; refine T_nv ?_) | (refine T_ow rfl ?_; refine ow_callf arp ?_; refine records_k _ _ _ _ d hb hp hm hm2 (KR_lit lR er hlr rfl (fun AR cR => ?_)); refine T_nv ?_) | (apply TC_seq) | (apply TC_region) | (apply TC_block) | (apply TC_ret) | (apply TC_skip) | (apply TC_cond_true; exact rfl) | (apply TC_cond_false; exact rfl) | (apply T_nil) | (apply En_then) | (apply En_then_ret) | (apply T_load; exact rfl; ((refine pw_load (i := 0) rfl rfl rfl ?_)); refine T_nv ?_) | (apply T_bin; exact rfl; ((refine pw_quo rfl rfl (by omega) (by omega) (by omega) ?_)); refine T_nv ?_) | (apply T_bin; exact rfl; ((first | refine pw_gtr rfl rfl (fun h => ?_) (fun h => ?_) | refine pw_neq rfl rfl (fun h => ?_) (fun h => ?_))) <;> (refine T_nv ?_)) | (refine T_pure rfl rfl ?_; ((first | refine pw_mv ?_ | refine pw_as ?_ | refine pw_pick_t rfl evp ?_ | refine pw_pick_f rfl evp ?_ | refine pw_fieldAddr rfl ?_ | refine pw_len rfl ?_ | refine pw_extract rfl rfl ?_)); refine T_nv ?_) | (refine T_skipped rfl ?_; refine T_nv ?_))
  all_goals (first | exact En_fin (.inl rfl) (res1 rfl (rv_tmp rfl)) (fin_K H R (fun w hs => hs.weaken sbp kpp) k) | skip)
  have he : er = 0 := by omega
  subst he
  have hbare : d.pending = [] := List.eq_nil_of_length_eq_zero (by omega)
  obtain ⟨hc, hlR⟩ := records_ok hlr
  rw [hasB_bare hbare] at hlR
  obtain ⟨⟨l, half⟩, hcur⟩ : ∃ r, curB d.bytes = r := ⟨_, rfl⟩
  rw [hcur] at hlR
  simp only at hlR
  have hll : lR.length = l.length := by rw [hlR]; simp
  obtain ⟨size, hsz⟩ : ∃ size, d.bytes.length = 2 * size := ⟨d.bytes.length / 2, by have := (checkD_spec hc).2.2.1; omega⟩
  have h64 := (checkD_spec hc).1
  have hl6 : l.length ≤ 600000 := by have := curB_len (b := d.bytes) (by omega); rw [hcur] at this; exact this
  have hch := fun i r (hi : l[i]? = some r) => cur_chain hsz (by omega) hcur i r hi
  obtain ⟨r0, hr0⟩ : ∃ r0, l.getD 0 Rc.zero = r0 := ⟨_, rfl⟩
  rw [hr0] at hch
  have hl0 : 0 < l.length → l[0]? = some r0 := fun h => by rw [← hr0, getD_rc l h, List.getElem?_eq_getElem h]
  have hhalf := (cur_facts hcur).1
  obtain ⟨lo, hlo⟩ : ∃ lo, half * size = lo := ⟨_, rfl⟩
  rw [hlo] at hch
  have hlov : lo = 0 ∨ lo = size := by
    rcases (show half = 0 ∨ half = 1 by omega) with h | h <;> rw [h] at hlo <;> simp at hlo <;> omega
  have HC := Go.Lib.hid hch
  have HL := Go.Lib.hid hl0
  clear hch hl0 hlr
  refine TC_loopS [4, 9, 10, 40, 41, 42, 43, 44, 45, 46, 47, 48, 49, 50, 51, 52, 53, 54, 55, 56, 57, 58, 59, 60, 61, 62, 63, 64, 65, 66, 67, 68, 69, 70, 71, 72, 73, 74, 75, 76, 77, 78, 79, 80, 81, 82, 83, 84, 85, 86, 87] (fun m j H' R' => H' = .blk b2 [.slice A0 d.bytes.length c0, .slice A2 d.pending.length c2] 45 :: H ∧ R' = Sl (.slice AR lR.length cR) lR :: R ∧ ∃ i : Nat, i + m = l.length ∧ j 10 = .int .i64 (i : Int) ∧ j 9 = .int .i64 ((if i = 0 then 0 else endL lo (l.take i) : Nat) : Int)) l.length sjp ⟨rfl, rfl, 0, by omega, rfl, rfl⟩ ?_
  rintro m j H' R' ⟨hH, hR, i, hi, h10, h9⟩
  subst hH hR
  refine TC_env (by simp only [setJ, List.foldl_cons, List.foldl_nil, List.set_cons_succ, List.set_cons_zero, h10, h9]; rfl) ?_
  by_cases hil : i < l.length
  · have hr0' := HL.out (by omega)
    obtain ⟨r, hr⟩ : ∃ r, l[i]? = some r := ⟨l[i]'(by omega), List.getElem?_eq_getElem (by omega)⟩
    obtain ⟨q1, q2, q3, q4, q5, q6⟩ := HC.out i r hr
    obtain ⟨p1, p2, p3, p4, p5, p6⟩ := HC.out 0 r0 hr0'
    have hi0 : i = 0 → r0.at_ = endL lo (l.take i) := fun h => by rw [h]; exact p1
    clear p1
    obtain ⟨a, ha⟩ : ∃ a, endL lo (l.take i) = a := ⟨_, rfl⟩
    rw [ha] at q1 hi0 ⊢
    repeat' (first | (refine TC_cutS (x := .seq (.region 10 _ _) _) [9, 46, 47, 48, 49, 50, 51] (fun j H' R' => j 9 = .int .i64 (a : Int) ∧ H' = .blk b2 [.slice A0 d.bytes.length c0, .slice A2 d.pending.length c2] 45 :: H ∧ Sl (.slice AR lR.length cR) lR :: R = R') ?_ ?_) | (apply T_idx; exact rfl; refine pw_index_rL 0 rfl rfl memt hlR hr0' rfl (fun b o => ?_); refine T_nv ?_) | (apply TC_seq) | (apply TC_region) | (apply TC_block) | (apply TC_skip) | (apply TC_cond_true; exact rfl) | (apply TC_cond_false; exact rfl) | (apply T_nil) | (apply En_then) | (apply T_load; exact rfl; ((refine pw_load_at rfl memr rfl ?_)); refine T_nv ?_) | (apply T_bin; exact rfl; ((first | refine pw_lss rfl rfl (fun h => ?_) (fun h => ?_) | refine pw_eql rfl rfl (fun h => ?_) (fun h => ?_))) <;> (first | (exfalso; omega) | refine T_nv ?_)) | (refine T_pure rfl rfl ?_; ((first | refine pw_mv ?_ | refine pw_as ?_ | refine pw_fieldAddr rfl ?_ | refine pw_len rfl ?_)); refine T_nv ?_))
    · exact En_midS (.blk b2 [.slice A0 d.bytes.length c0, .slice A2 d.pending.length c2] 45 :: H) (Sl (.slice AR lR.length cR) lR :: R) sjp ⟨congrArg (fun n : Nat => Value.int .i64 (n : Int)) (hi0 (by omega)), rfl, rfl⟩ (fun w hs => hs.weaken sbp kpp)
    · exact En_midS (.blk b2 [.slice A0 d.bytes.length c0, .slice A2 d.pending.length c2] 45 :: H) (Sl (.slice AR lR.length cR) lR :: R) sjp ⟨congrArg (fun n : Nat => Value.int .i64 (n : Int)) (if_neg (by omega)), rfl, rfl⟩ (fun w hs => hs.weaken sbp kpp)
    rintro j9 H' R' ⟨h9', hH, hR⟩
    subst hH hR
    refine TC_env (by simp only [setJ, List.foldl_cons, List.foldl_nil, List.set_cons_succ, List.set_cons_zero, h9']; rfl) ?_
    repeat' ((apply TC_seq))
    refine TC_draw mixed (by decide +kernel) (fun _ _ _ _ _ _ h => h) (List.Sublist.refl _) ?_
    all_goals ((refine TA_p 0 ?_; ((refine pw_mv ?_)); refine TA_nv ?_))
    all_goals ((refine TA_p 1 ?_; ((refine pw_mv ?_)); refine TA_nv ?_))
    all_goals ((refine TA_p 2 ?_; ((refine pw_index_rL i rfl rfl memt hlR hr rfl (fun b o => ?_))); refine TA_nv ?_))
    all_goals ((refine TA_p 3 ?_; ((refine pw_fieldAddr rfl ?_)); refine TA_nv ?_))
    all_goals ((refine TA_p 4 ?_; ((refine pw_load_at rfl memr rfl ?_)); refine TA_nv ?_))
    all_goals ((refine TA_p 5 ?_; ((refine pw_mv ?_)); refine TA_nv ?_))
    all_goals ((refine TA_p 6 ?_; ((refine pw_neq rfl rfl (fun h => ?_) (fun h => ?_))) <;> (first | (exfalso; omega) | refine TA_nv ?_)))
    all_goals ((refine TA_p 7 ?_; ((refine pw_mv ?_)); refine TA_nv ?_))
    all_goals ((refine TA_p 8 ?_; ((refine pw_mv ?_)); refine TA_nv ?_))
    all_goals ((refine TA_p 9 ?_; ((refine pw_mv ?_)); refine TA_nv ?_))
    all_goals ((refine TA_p 10 ?_; ((refine pw_index_rL i rfl rfl memt hlR hr rfl (fun b o => ?_))); refine TA_nv ?_))
    all_goals ((refine TA_p 11 ?_; ((refine pw_fieldAddr rfl ?_)); refine TA_nv ?_))
    all_goals ((refine TA_p 12 ?_; ((refine pw_load_at rfl memr rfl ?_)); refine TA_nv ?_))
    all_goals ((refine TA_p 13 ?_; ((refine pw_mv ?_)); refine TA_nv ?_))
    all_goals ((refine TA_p 14 ?_; ((refine pw_neq rfl rfl (fun h => ?_) (fun h => ?_))) <;> (first | (exfalso; omega) | refine TA_nv ?_)))
    all_goals ((refine TA_p 15 ?_; ((refine pw_pick_f rfl evp ?_)); refine TA_nv ?_))
    all_goals ((refine TA_p 16 ?_; ((refine pw_mv ?_)); refine TA_nv ?_))
    all_goals ((refine TA_p 17 ?_; ((refine pw_mv ?_)); refine TA_nv ?_))
    all_goals ((refine TA_p 18 ?_; ((refine pw_mv ?_)); refine TA_nv ?_))
    all_goals ((refine TA_p 19 ?_; ((refine pw_index_rL i rfl rfl memt hlR hr rfl (fun b o => ?_))); refine TA_nv ?_))
    all_goals ((refine TA_p 20 ?_; ((refine pw_fieldAddr rfl ?_)); refine TA_nv ?_))
    all_goals ((refine TA_p 21 ?_; ((refine pw_load_at rfl memr rfl ?_)); refine TA_nv ?_))
    all_goals ((refine TA_p 22 ?_; ((refine pw_mv ?_)); refine TA_nv ?_))
    all_goals ((refine TA_p 23 ?_; ((refine pw_index_rL 0 rfl rfl memt hlR hr0' rfl (fun b o => ?_))); refine TA_nv ?_))
    all_goals ((refine TA_p 24 ?_; ((refine pw_fieldAddr rfl ?_)); refine TA_nv ?_))
    all_goals ((refine TA_p 25 ?_; ((refine pw_load_at rfl memr rfl ?_)); refine TA_nv ?_))
    all_goals ((refine TA_p 26 ?_; ((refine pw_neq rfl rfl (fun h => ?_) (fun h => ?_))) <;> (first | (exfalso; omega) | refine TA_nv ?_)))
    all_goals ((refine TA_p 27 ?_; ((refine pw_pick_f rfl evp ?_)); refine TA_nv ?_))
    all_goals refine TA_d ?_
    repeat' (first | (apply T_idx; exact rfl; refine pw_index_rL i rfl rfl memt hlR hr rfl (fun b o => ?_); refine T_nv ?_) | (apply TC_region) | (apply TC_skip) | (apply TC_cond_false; exact rfl) | (apply T_nil) | (apply En_then) | (apply En_block) | (apply T_load; exact rfl; ((refine pw_load_at rfl memr rfl ?_)); refine T_nv ?_) | (apply T_bin; exact rfl; ((refine pw_add64 rfl rfl (by omega) (by omega) ?_)); refine T_nv ?_) | (refine T_pure rfl rfl ?_; ((first | refine pw_mv ?_ | refine pw_as ?_ | refine pw_fieldAddr rfl ?_)); refine T_nv ?_))
    refine En_backS (m - 1) (.blk b2 [.slice A0 d.bytes.length c0, .slice A2 d.pending.length c2] 45 :: H) (Sl (.slice AR lR.length cR) lR :: R) (by omega) sjp ⟨rfl, rfl, i + 1, by omega, rfl, ?_⟩ (fun w hs => hs.weaken sbp kpp)
    rw [if_neg (by omega), q4]
    exact congrArg (Value.int .i64) (by omega)
  · have hie : i = l.length := by omega
    have p1 : 0 < l.length → r0.at_ = lo := fun h => (HC.out 0 r0 (HL.out h)).1
    have p6 : 0 < l.length → lo + size ≤ 600000 := fun h => by
      have := (HC.out 0 r0 (HL.out h)).2.2.2.2.2
      rw [Nat.add_mul, Nat.one_mul, hlo] at this; exact this
    obtain ⟨a, ha⟩ : ∃ a, (if i = 0 then 0 else endL lo (l.take i)) = a := ⟨_, rfl⟩
    have hal : 0 < l.length → a ≤ lo + size := fun h => by
      rw [← ha, if_neg (by omega), hie]
      have hr := HC.out (l.length - 1) (l[l.length - 1]'(by omega)) (List.getElem?_eq_getElem (by omega))
      have h4 := hr.2.2.2.1
      rw [show l.length - 1 + 1 = l.length by omega] at h4
      rw [h4]
      have h5 := hr.2.2.2.2.1
      rw [Nat.add_mul, Nat.one_mul, hlo] at h5; exact h5
    rw [ha]
    clear ha
    repeat' (first | (refine TC_cutS (x := .seq (.region 15 _ _) _) [88, 89, 90, 91, 92, 93, 94, 95, 96, 97, 98, 99, 100, 101, 102, 103, 104, 105, 106, 107, 108, 109, 110, 111, 112, 113, 114, 115, 116, 117, 118, 119, 120] (fun j H' R' => H' = .blk b2 [.slice A0 d.bytes.length c0, .slice A2 d.pending.length c2] 45 :: H ∧ Sl (.slice AR lR.length cR) lR :: R = R') ?_ ?_) | (apply T_idx; exact rfl; refine pw_index_rL 0 rfl rfl memt hlR (HL.out (by omega)) rfl (fun b o => ?_); refine T_nv ?_) | (apply TC_seq) | (apply TC_region) | (apply TC_skip) | (apply TC_exit) | (apply TC_cond_false; exact rfl) | (apply T_nil) | (apply En_then) | (apply En_then_exit) | (apply En_block_exit) | (apply T_load; exact rfl; ((refine pw_load_at rfl memr rfl ?_)); refine T_nv ?_) | (apply T_bin; exact rfl; ((refine pw_add64 rfl rfl (by omega) (by omega) ?_)); refine T_nv ?_) | (apply T_bin; exact rfl; ((first | refine pw_lss rfl rfl (fun h => ?_) (fun h => ?_) | refine pw_gtr rfl rfl (fun h => ?_) (fun h => ?_) | refine pw_neq rfl rfl (fun h => ?_) (fun h => ?_))) <;> (first | (exfalso; omega) | refine T_nv ?_)) | (refine T_pure rfl rfl ?_; ((first | refine pw_mv ?_ | refine pw_pick_t rfl evp ?_ | refine pw_pick_f rfl evp ?_ | refine pw_fieldAddr rfl ?_ | refine pw_len rfl ?_)); refine T_nv ?_) | (refine T_skipped rfl ?_; refine T_nv ?_))
    all_goals (first | exact En_midS (.blk b2 [.slice A0 d.bytes.length c0, .slice A2 d.pending.length c2] 45 :: H) (Sl (.slice AR lR.length cR) lR :: R) sjp ⟨rfl, rfl⟩ (fun w hs => hs.weaken sbp kpp) | skip)
    rintro j15 H' R' ⟨hH, hR⟩
    subst hH hR
    refine TC_env (by simp only [setJ, List.foldl_cons, List.foldl_nil, List.set_cons_succ, List.set_cons_zero]; rfl) ?_
    clear p1 p6 hal
    obtain ⟨⟨ops, f⟩, hap⟩ : ∃ r, appendD d data = r := ⟨_, rfl⟩
    by_cases hf : f = 0
    · subst hf
      obtain ⟨l', half', size', p, z, A, hops⟩ := app_of hc hbare hap
      have e1 := A.cur
      rw [hcur] at e1
      injection e1 with e1 e2
      subst e1 e2
      have e3 : size' = size := by have := A.len; omega
      subst e3
      have hdone : (doD d ops).1 = ⟨A.b5, []⟩ := by
        have := A.done 6 (by omega)
        rw [hops]
        rw [List.take_of_length_le (by simp [ops6])] at this
        rw [this]; rfl
      have hop6 : ops.length = 6 := by rw [hops]; rfl
      have hc5 : checkD ⟨A.b5, []⟩ = true := checkD_bare hc (by rw [A.len5, hsz])
      have hl5 := A.len5
      obtain ⟨pre, hpre⟩ : ∃ pre, (if p.half = half then l else []) = pre := ⟨_, rfl⟩
      obtain ⟨new, hnew⟩ : ∃ new : Rc, (⟨p.at_, p.epoch, p.seq, data⟩ : Rc) = new := ⟨_, rfl⟩
      have hrec : recordsD ⟨A.b5, []⟩ = ((pre ++ [new]).map Rc.toR, 0) := by
        unfold recordsD
        rw [if_pos hc5, hasB_bare rfl, A.cur_full, hpre, hnew]
      obtain ⟨mR, hmR⟩ : ∃ mR, (pre ++ [new]).map Rc.toR = mR := ⟨_, rfl⟩
      rw [hmR] at hrec
      have hml : mR.length = pre.length + 1 := by rw [← hmR]; simp
      have hnd : new.data.length = data.length := by rw [← hnew]
      obtain ⟨b5, hb5⟩ : ∃ b5, A.b5 = b5 := ⟨_, rfl⟩
      rw [hb5] at hdone hrec hl5
      have hlast : (pre ++ [new])[pre.length]? = some new := by simp
      have hfirst : pre.length = 0 → (pre ++ [new])[0]? = some new := fun h => by rw [List.eq_nil_of_length_eq_zero h]; rfl
      -- either all of before stands ahead, or the other half begins
      have hcase : pre = l ∨ (pre.length = 0 ∧ 0 < l.length ∧ new.at_ ≠ r0.at_ ∧ new.epoch = r0.epoch + 1) := by
        rcases spot_facts A.len A.small A.cur A.room A.spot with ⟨s1, _⟩ | ⟨s1, s2, s3, s4, s5⟩
        · left; rw [← hpre, if_pos s1]
        · right
          have hlp := List.length_pos_iff.2 s2
          have h0 := (HC.out 0 r0 (HL.out hlp)).1
          simp only [List.take_zero, endL] at h0
          rw [← hpre, if_neg (by omega), ← hnew]
          refine ⟨rfl, hlp, ?_, by rw [← hr0]; exact s5⟩
          simp only
          rw [s3, h0]
          rcases (show half = 0 ∨ half = 1 by omega) with h | h <;> rw [h] at hlo ⊢ <;> simp at hlo ⊢ <;> omega
      have hpl6 : pre.length ≤ 600000 := by
        rcases hcase with h | h
        · rw [h]; exact hl6
        · omega
      have hne : new.epoch ≤ 2147483647 := by rw [← hnew]; exact A.ep
      have HLa := Go.Lib.hid hlast
      have HFi := Go.Lib.hid hfirst
      clear hlast hfirst
      repeat' (first | (refine T_ow rfl ?_; refine ow_callf arp ?_; refine append_k _ _ _ _ _ _ d data hb hp (by omega) memt memt memt (KO_lit ops 0 hap hop6 (fun AO cO => ?_)); refine T_nv ?_) | (apply TC_seq) | (apply TC_region) | (apply TC_skip) | (apply TC_cond_false; exact rfl) | (apply T_nil) | (apply En_then) | (apply T_load; exact rfl; ((refine pw_load (i := 0) rfl rfl rfl ?_)); refine T_nv ?_) | (apply T_bin; exact rfl; ((refine pw_neq rfl rfl (fun h => ?_) (fun h => ?_))) <;> (first | (exfalso; omega) | refine T_nv ?_)) | (refine T_pure rfl rfl ?_; ((first | refine pw_mv ?_ | refine pw_as ?_ | refine pw_extract rfl rfl ?_)); refine T_nv ?_))
      refine T_ow rfl ?_; refine ow_callf arp ?_; refine done_k _ _ _ _ _ _ _ d ops (by omega) hb hp (by omega) memt memt memt (KD1_lit ⟨b5, []⟩ hdone (fun AD cD AD2 cD2 => ?_)); refine T_nv ?_
      refine T_ow rfl ?_; refine ow_callf arp ?_; refine records_k _ _ _ _ ⟨b5, []⟩ (by simp only; omega) (Nat.zero_le _) memt memt (KR_lit mR 0 hrec hml (fun AM cM => ?_)); refine T_nv ?_
      repeat' ((refine T_pure rfl rfl ?_; ((first | refine pw_mv ?_ | refine pw_as ?_ | refine pw_extract rfl rfl ?_)); refine T_nv ?_))
      apply T_nil
      apply En_then
      refine TC_cutS (x := .seq (.region 21 _ _) _) [145, 146, 147, 148, 149, 150, 151, 152, 153, 154, 155, 156, 157, 158, 159, 160, 161, 162, 163] (fun j H' R' => H' = .blk b2 [.slice A0 d.bytes.length c0, .slice A2 d.pending.length c2] 45 :: H ∧ Sl (.slice AM (pre.length + 1) cM) mR :: Sl (.slice AR lR.length cR) lR :: R = R') ?_ ?_
      · skip
        repeat' (first | (apply T_idx; exact rfl; refine pw_index_rL (v := .slice AM (pre.length + 1) cM) pre.length rfl rfl memt hmR.symm HLa.out (by omega) (fun b o => ?_); refine T_nv ?_) | (apply TC_seq) | (apply TC_region) | (apply TC_skip) | (apply TC_cond_false; exact rfl) | (apply T_nil) | (apply En_then) | (apply T_load; exact rfl; ((refine pw_load_at rfl memr rfl ?_)); refine T_nv ?_) | (apply T_bin; exact rfl; ((refine pw_sub64 rfl rfl (by omega) (by omega) ?_)); refine T_nv ?_) | (apply T_bin; exact rfl; ((first | refine pw_eql rfl rfl (fun h => ?_) (fun h => ?_) | refine pw_neq rfl rfl (fun h => ?_) (fun h => ?_))) <;> (first | (exfalso; omega) | refine T_nv ?_)) | (refine T_pure rfl rfl ?_; ((first | refine pw_mv ?_ | refine pw_pick_f rfl evp ?_ | refine pw_fieldAddr rfl ?_ | refine pw_len rfl ?_)); refine T_nv ?_))
        all_goals exact En_midS (.blk b2 [.slice A0 d.bytes.length c0, .slice A2 d.pending.length c2] 45 :: H) (Sl (.slice AM (pre.length + 1) cM) mR :: Sl (.slice AR lR.length cR) lR :: R) sjp ⟨rfl, rfl⟩ (fun w hs => hs.weaken sbp kpp)
      rintro j21 H' R' ⟨hH, hR⟩
      subst hH hR
      refine TC_env (by simp only [setJ, List.foldl_cons, List.foldl_nil, List.set_cons_succ, List.set_cons_zero]; rfl) ?_
      rcases hcase with hpl | ⟨g1, g2, g3, g4⟩
      · have hpl2 : pre.length = l.length := by rw [hpl]
        have hmt : mR.take lR.length = lR := by rw [← hmR, hpl, hlR]; simp
        repeat' (first | (refine T_pure rfl rfl ?_; refine pw_take (xs := mR) (m := lR.length) rfl memt hml.symm rfl rfl (by omega) (fun AT cT => ?_); rw [hmt]; refine T_nv ?_) | (refine T_ow rfl ?_; refine ow_callf arp ?_; refine sameRecords_k _ _ _ _ _ _ lR (by omega) rfl rfl memt memt ?_; refine T_nv ?_) | (apply TC_seq) | (apply TC_region) | (apply TC_ret) | (apply TC_skip) | (apply TC_cond_false; exact rfl) | (apply T_nil) | (apply En_then) | (apply T_bin; exact rfl; ((refine pw_add64 rfl rfl (by omega) (by omega) ?_)); refine T_nv ?_) | (apply T_bin; exact rfl; ((first | refine pw_gtr rfl rfl (fun h => ?_) (fun h => ?_) | refine pw_eql rfl rfl (fun h => ?_) (fun h => ?_))) <;> (first | (exfalso; omega) | refine T_nv ?_)) | (refine T_pure rfl rfl ?_; ((first | refine pw_mv ?_ | refine pw_as ?_ | refine pw_pick_t rfl evp ?_ | refine pw_pick_f rfl evp ?_ | refine pw_len rfl ?_)); refine T_nv ?_) | (refine T_skipped rfl ?_; refine T_nv ?_))
        all_goals exact En_fin (.inl rfl) (res1 rfl (rv_tmp rfl)) (fin_K H R (fun w hs => hs.weaken sbp kpp) k)
      · skip
        repeat' (first | (apply TC_seq) | (apply TC_region) | (apply TC_cond_true; exact rfl) | (apply T_nil) | (apply En_then) | (apply T_bin; exact rfl; ((first | refine pw_gtr rfl rfl (fun h => ?_) (fun h => ?_) | refine pw_eql rfl rfl (fun h => ?_) (fun h => ?_))) <;> (first | (exfalso; omega) | refine T_nv ?_)) | (refine T_pure rfl rfl ?_; ((first | refine pw_mv ?_ | refine pw_pick_t rfl evp ?_ | refine pw_len rfl ?_)); refine T_nv ?_))
        refine TC_draw mixed (by decide +kernel) (fun _ _ _ _ _ _ h => h) (List.Sublist.refl _) ?_
        all_goals ((refine TA_p 0 ?_; ((refine pw_mv ?_)); refine TA_nv ?_))
        all_goals ((refine TA_p 1 ?_; ((refine pw_mv ?_)); refine TA_nv ?_))
        all_goals ((refine TA_p 2 ?_; ((refine pw_mv ?_)); refine TA_nv ?_))
        all_goals ((refine TA_p 3 ?_; ((refine pw_index_rL (v := .slice AM (pre.length + 1) cM) 0 rfl rfl memt hmR.symm (HFi.out (by omega)) rfl (fun b o => ?_))); refine TA_nv ?_))
        all_goals ((refine TA_p 4 ?_; ((refine pw_fieldAddr rfl ?_)); refine TA_nv ?_))
        all_goals ((refine TA_p 5 ?_; ((refine pw_load_at rfl memr rfl ?_)); refine TA_nv ?_))
        all_goals ((refine TA_p 6 ?_; ((refine pw_mv ?_)); refine TA_nv ?_))
        all_goals ((refine TA_p 7 ?_; ((refine pw_index_rL (v := .slice AR lR.length cR) 0 rfl rfl memt hlR (HL.out (by omega)) rfl (fun b o => ?_))); refine TA_nv ?_))
        all_goals ((refine TA_p 8 ?_; ((refine pw_fieldAddr rfl ?_)); refine TA_nv ?_))
        all_goals ((refine TA_p 9 ?_; ((refine pw_load_at rfl memr rfl ?_)); refine TA_nv ?_))
        all_goals ((refine TA_p 10 ?_; ((refine pw_neq rfl rfl (fun h => ?_) (fun h => ?_))) <;> (first | (exfalso; omega) | refine TA_nv ?_)))
        all_goals ((refine TA_p 11 ?_; ((refine pw_pick_t rfl evp ?_)); refine TA_nv ?_))
        all_goals ((refine TA_p 12 ?_; ((refine pw_mv ?_)); refine TA_nv ?_))
        all_goals ((refine TA_p 13 ?_; ((refine pw_mv ?_)); refine TA_nv ?_))
        all_goals ((refine TA_p 14 ?_; ((refine pw_index_rL (v := .slice AM (pre.length + 1) cM) 0 rfl rfl memt hmR.symm (HFi.out (by omega)) rfl (fun b o => ?_))); refine TA_nv ?_))
        all_goals ((refine TA_p 15 ?_; ((refine pw_fieldAddr rfl ?_)); refine TA_nv ?_))
        all_goals ((refine TA_p 16 ?_; ((refine pw_load_at rfl memr rfl ?_)); refine TA_nv ?_))
        all_goals ((refine TA_p 17 ?_; ((refine pw_mv ?_)); refine TA_nv ?_))
        all_goals ((refine TA_p 18 ?_; ((refine pw_index_rL (v := .slice AR lR.length cR) 0 rfl rfl memt hlR (HL.out (by omega)) rfl (fun b o => ?_))); refine TA_nv ?_))
        all_goals ((refine TA_p 19 ?_; ((refine pw_fieldAddr rfl ?_)); refine TA_nv ?_))
        all_goals ((refine TA_p 20 ?_; ((refine pw_load_at rfl memr rfl ?_)); refine TA_nv ?_))
        all_goals ((refine TA_p 21 ?_; ((refine pw_add64 rfl rfl (by omega) (by omega) ?_)); refine TA_nv ?_))
        all_goals ((refine TA_p 22 ?_; ((refine pw_eql rfl rfl (fun h => ?_) (fun h => ?_))) <;> (first | (exfalso; omega) | refine TA_nv ?_)))
        all_goals ((refine TA_p 23 ?_; ((refine pw_pick_t rfl evp ?_)); refine TA_nv ?_))
        all_goals ((refine TA_p 24 ?_; ((refine pw_as ?_)); refine TA_nv ?_))
        all_goals refine TA_d ?_
        repeat' (first | (apply TC_ret) | (apply En_then) | (apply En_then_ret))
        all_goals exact En_fin (.inl rfl) (res1 rfl (rv_tmp rfl)) (fin_K H R (fun w hs => hs.weaken sbp kpp) k)
    · have h2 : f = 303 ∨ f = 2 := by
        have := append_no hc (data := data) (by rw [hap]; exact hf)
        rw [hap] at this; exact this
      repeat' (first | (refine T_ow rfl ?_; refine ow_callf arp ?_; refine append_k _ _ _ _ _ _ d data hb hp (by omega) memt memt memt (KO_lit ops f hap rfl (fun AO cO => ?_)); refine T_nv ?_) | (apply TC_seq) | (apply TC_region) | (apply TC_ret) | (apply TC_cond_true; exact rfl) | (apply T_nil) | (apply En_then) | (apply En_then_ret) | (apply T_load; exact rfl; ((refine pw_load (i := 0) rfl rfl rfl ?_)); refine T_nv ?_) | (apply T_bin; exact rfl; ((first | refine pw_eql rfl rfl (fun h => ?_) (fun h => ?_) | refine pw_neq rfl rfl (fun h => ?_) (fun h => ?_))) <;> (first | (exfalso; omega) | refine T_nv ?_)) | (refine T_pure rfl rfl ?_; ((first | refine pw_mv ?_ | refine pw_as ?_ | refine pw_pick_t rfl evp ?_ | refine pw_pick_f rfl evp ?_ | refine pw_extract rfl rfl ?_)); refine T_nv ?_) | (refine T_skipped rfl ?_; refine T_nv ?_))
      all_goals exact En_fin (.inl rfl) (res1 rfl (rv_tmp rfl)) (fin_K H R (fun w hs => hs.weaken sbp kpp) k)
end Go.Proofs.Ytggdljhmbckpmaa
