/- Plain laws: what is loaded behind saves that fail. Save and Load: walks. -/
import Derived.Test.YtggdljhmbckpmaaQQ
import Derived.Test.YtggdljhmbckpmaaM4J
import Derived.Test.YtggdljhmbckpmaaN10J
import Derived.Test.YtggdljhmbckpmaaF14
set_option linter.unusedVariables false
set_option linter.unusedSimpArgs false
namespace Go.Proofs.Ytggdljhmbckpmaa
open Go Go.RowKit
set_option maxRecDepth 100000
set_option maxHeartbeats 1600000

def saveD' (d : Drive) (m : MaD) : List DO × Int := if checkD d then (if (encM m).2 = 0 then appendD d (encM m).1 else ([], (encM m).2)) else ([], 301)
def loadD' (d : Drive) : MaD × Int := if (lastD d).2 = 0 then ((decR (lastD d).1).1, (decR (lastD d).1).2.2) else (maZ, (lastD d).2)
theorem recs_zero (n h : Nat) : recsB (List.replicate n 0) h = [] := by
  unfold recsB
  refine recL_no (fun hh => ?_)
  have h1 := hh.1
  unfold recA at h1
  split at h1
  · cases h1
  · rw [if_pos (by
      have : ∀ a : Nat, (List.replicate n (0 : UInt8)).getD a 0 = 0 := fun a => by
        simp only [List.getD, List.getElem?_replicate]
        split <;> rfl
      rw [this]
      decide)] at h1
    cases h1
theorem last_new {n : Int} {d : Drive} (h : newD n = (d, 0)) : d.pending = [] ∧ checkD d = true ∧ lastD d = ([], 302) := by
  unfold newD at h
  split at h
  · injection h with _ h; cases h
  · injection h with h _
    subst h
    have hc : checkD ⟨List.replicate n.toNat 0, []⟩ = true := by
      unfold checkD
      simp only [List.length_replicate, List.length_nil, List.all_nil, Bool.and_true, Bool.and_eq_true, decide_eq_true_eq]
      omega
    refine ⟨rfl, hc, ?_⟩
    unfold lastD
    rw [if_pos hc, hasB_bare rfl, curB_eq, recs_zero, recs_zero]
    rfl
theorem last_of {x : List UInt8} {l : List Rc} {half : Nat} (h : checkD ⟨x, []⟩ = true) (hc : curB x = (l, half)) : lastD ⟨x, []⟩ = if l.length = 0 then ([], 302) else ((l.getD (l.length - 1) Rc.zero).data, 0) := by
  unfold lastD
  rw [if_pos h, hasB_bare rfl, hc]
theorem encM_of' {m : MaD} {bs : List UInt8} {e : Int} (h : encM m = (bs, e)) (he : e = 0) : bs = stB m ∧ (stB m).length ≤ 250000 := by
  subst he
  rw [encM_eq] at h
  split at h
  · injection h with h _
    exact ⟨h.symm, by assumption⟩
  · injection h with _ h
    cases h
/-- A save that is done to its end, or in part. -/
theorem save_step {x : List UInt8} {m : MaD} {ops : List DO} (hc : checkD ⟨x, []⟩ = true) (hs : saveD' ⟨x, []⟩ m = (ops, 0)) : ops.length = 6 ∧ (stB m).length ≤ 250000 ∧
    ∀ r, r ≤ 6 → ∃ dx, doD ⟨x, []⟩ (ops.take r) = (dx, 0) ∧ checkD dx = true ∧ ∀ ps : List Int, ∃ y, crashD dx ps = (⟨y, []⟩, 0) ∧ checkD ⟨y, []⟩ = true ∧ (lastD ⟨y, []⟩ = (stB m, 0) ∨ r ≠ 6 ∧ lastD ⟨y, []⟩ = lastD ⟨x, []⟩) := by
  unfold saveD' at hs
  rw [if_pos hc] at hs
  obtain ⟨⟨bs, e⟩, he⟩ : ∃ r, encM m = r := ⟨_, rfl⟩
  rw [he] at hs
  simp only at hs
  split at hs
  · rename_i h0
    obtain ⟨rfl, hl⟩ := encM_of' he h0
    obtain ⟨l, half, size, p, z, A, hops⟩ := app_of hc rfl hs
    refine ⟨by rw [hops]; rfl, hl, fun r hr => ⟨A.st r, by rw [hops, A.done r hr], A.st_ok r hr, fun ps => ?_⟩⟩
    obtain ⟨y, h1, h2, h3⟩ := A.failed r hr ps
    refine ⟨y, h1, h2, ?_⟩
    rcases h3 with h3 | ⟨h3, h4⟩
    · left
      have hcf := A.cur_full
      rw [← h3] at hcf
      rw [last_of h2 hcf, if_neg (by simp)]
      have : (((if p.half = half then l else []) ++ [⟨p.at_, p.epoch, p.seq, stB m⟩] : List Rc).getD (((if p.half = half then l else []) ++ [⟨p.at_, p.epoch, p.seq, stB m⟩] : List Rc).length - 1) Rc.zero) = ⟨p.at_, p.epoch, p.seq, stB m⟩ := by
        simp [List.getD]
      rw [this]
    · right
      exact ⟨h3, by rw [last_of h2 h4, last_of hc A.cur]⟩
  · rename_i h0
    injection hs with _ hs
    exact absurd hs h0
theorem save_err {x : List UInt8} {m : MaD} {ops : List DO} {e : Int} (hc : checkD ⟨x, []⟩ = true) (hs : saveD' ⟨x, []⟩ m = (ops, e)) : e = 0 ∨ e = 303 ∨ e = 2 := by
  unfold saveD' at hs
  rw [if_pos hc] at hs
  split at hs
  · unfold appendD opsB at hs
    rw [if_pos hc] at hs
    repeat' split at hs
    all_goals (injection hs with _ hs; omega)
  · rename_i h0
    injection hs with _ hs
    rw [encM_eq] at hs h0
    split at hs
    · rw [if_pos (by assumption)] at h0
      exact absurd rfl h0
    · right; right; exact hs.symm
/-- What holds on the way: the last record holds one of the states saved so far, at least as late a one as the last one saved whole; or nothing is there, and none was saved whole. -/
def Ev (ms : List MaD) (i : Nat) (last : Int) (x : List UInt8) : Prop :=
  checkD ⟨x, []⟩ = true ∧ -1 ≤ last ∧ last < i ∧ ((lastD ⟨x, []⟩ = ([], 302) ∧ last < 0) ∨ ∃ t m, t < i ∧ last ≤ t ∧ ms[t]? = some m ∧ lastD ⟨x, []⟩ = (stB m, 0) ∧ (stB m).length ≤ 250000)
theorem Ev.skip {ms : List MaD} {i : Nat} {last : Int} {x : List UInt8} (h : Ev ms i last x) : Ev ms (i + 1) last x := by
  obtain ⟨h1, h2, h3, h4⟩ := h
  refine ⟨h1, h2, by omega, ?_⟩
  rcases h4 with h4 | ⟨t, m, h5, h6, h7⟩
  · exact .inl h4
  · exact .inr ⟨t, m, by omega, h6, h7⟩
theorem Ev.whole {ms : List MaD} {i : Nat} {last : Int} {x y : List UInt8} {m : MaD} (h : Ev ms i last x) (hm : ms[i]? = some m) (hy : checkD ⟨y, []⟩ = true) (hl : lastD ⟨y, []⟩ = (stB m, 0)) (hn : (stB m).length ≤ 250000) : Ev ms (i + 1) i y ∧ Ev ms (i + 1) last y :=
  ⟨⟨hy, by omega, by omega, .inr ⟨i, m, by omega, by omega, hm, hl, hn⟩⟩, ⟨hy, h.2.1, by have := h.2.2.1; omega, .inr ⟨i, m, by omega, by have := h.2.2.1; omega, hm, hl, hn⟩⟩⟩
theorem Ev.same {ms : List MaD} {i : Nat} {last : Int} {x y : List UInt8} (h : Ev ms i last x) (hy : checkD ⟨y, []⟩ = true) (hl : lastD ⟨y, []⟩ = lastD ⟨x, []⟩) : Ev ms (i + 1) last y := by
  obtain ⟨h1, h2, h3, h4⟩ := h.skip
  refine ⟨hy, h2, h3, ?_⟩
  rw [hl]
  exact h4
end Go.Proofs.Ytggdljhmbckpmaa
namespace Go.Proofs.Ytggdljhmbckpmaa
open Go Go.RowKit
set_option maxRecDepth 100000
set_option maxHeartbeats 4000000

theorem encM_len {m : MaD} {bs : List UInt8} {e : Int} (h : encM m = (bs, e)) : bs.length ≤ 250000 := by
  rw [encM_eq] at h
  split at h
  · injection h with h _
    rw [← h]; assumption
  · injection h with h _
    rw [← h]; simp
theorem lastD_len (d : Drive) : (lastD d).1.length ≤ 600000 := by
  unfold lastD
  split
  · rename_i hc
    have hl := hasB_length hc
    obtain ⟨_, h6, he, _⟩ := checkD_spec hc
    obtain ⟨⟨l, half⟩, hcur⟩ : ∃ r, curB (hasB d) = r := ⟨_, rfl⟩
    rw [hcur]
    simp only
    split
    · simp
    · rename_i hne
      have e : l.getD (l.length - 1) Rc.zero = l[l.length - 1]'(by omega) := by simp [List.getD, show l.length - 1 < l.length by omega]
      obtain ⟨_, _, _, _, h1, h2, _⟩ := cur_rec (size := (hasB d).length / 2) (by omega) (by omega) hcur _ _ (List.getElem?_eq_getElem (show l.length - 1 < l.length by omega))
      rw [e]
      show (l[l.length - 1]'(by omega)).data.length ≤ 600000
      omega
  · simp
def KL (K : Value → List Hp → List MP → Prop) (r : MaD × Int) (H : List Hp) (R : List MP) : Prop := ∀ y, Unp.ok r.1 y → K (.tuple #[.agg (Unp.cs r.1 y).toArray, .int .i64 r.2]) H (Unp.fs r.1 y ++ R)
theorem KL_eq {K : Value → List Hp → List MP → Prop} {r r' : MaD × Int} {H : List Hp} {R : List MP} (e : r = r') (h : KL K r H R) : KL K r' H R := e ▸ h
theorem KO_litz {K : Value → List Hp → List MP → Prop} {r : List DO × Int} {H : List Hp} {R : List MP} (xs : List DO) (e : Int) (hr : r = (xs, e)) (h : ∀ A c, K (.tuple #[.slice A xs.length c, .int .i64 e]) H (Sl (.slice A xs.length c) xs :: R)) : KO K r H R := by
  subst hr; exact h
theorem KB_litz {K : Value → List Hp → List MP → Prop} {r : List UInt8 × Int} {H : List Hp} {R : List MP} (xs : List UInt8) (e : Int) (hr : r = (xs, e)) (h : ∀ A c, K (.tuple #[.slice A xs.length c, .int .i64 e]) H (Sl (.slice A xs.length c) xs :: R)) : KB K r H R := by
  subst hr; exact h
section
variable {w0 : World} {H : List Hp} {R : List MP} {K : Value → List Hp → List MP → Prop} (A0 : Option Addr) (c0 : Nat) (A2 : Option Addr) (c2 : Nat) (d : Drive) (hb : d.bytes.length ≤ 9223372036854775807) (hp : d.pending.length ≤ 9223372036854775807)
  (hm : Sl (.slice A0 d.bytes.length c0) d.bytes ∈ R) (hm2 : Sl (.slice A2 d.pending.length c2) d.pending ∈ R)
include hb hp hm hm2
theorem save_k (x : MaD) (u : Unp.Y MaD) (hok : Unp.ok x u) (hfs : ∀ p ∈ Unp.fs x u, p ∈ R) (k : KO K (saveD' d x) H R) : CallsK Try.prog w0 32 #[dv A0 c0 A2 c2 d, .agg (Unp.cs x u).toArray] H R K := by
  have hlen : (Unp.cs x u).length = 16 := UnpL.len x u
  obtain ⟨⟨bs, e⟩, he⟩ : ∃ r, encM x = r := ⟨_, rfl⟩
  have hbs := encM_len he
  have hbs' : bs.length ≤ 9223372036854770000 := by omega
  by_cases hc : checkD d = true
  · have herr : errD d = 0 := by unfold errD; rw [if_pos hc]
    by_cases h0 : e = 0
    · subst h0
      have hs : saveD' d x = appendD d bs := by unfold saveD'; rw [if_pos hc, he]; simp only; rw [if_pos trivial]
      rw [hs] at k
      obtain ⟨⟨os, eo⟩, ho⟩ : ∃ r, appendD d bs = r := ⟨_, rfl⟩
      rw [ho] at k
      refine calls_of Try.func32 rfl Try.ntmps32 nep ?_
      repeat' first
        | (refine T_gen rfl rfl ?_; refine gw_box clp (fun b2 => ?_); refine T_nv ?_)
        | (refine T_ow rfl ?_; refine ow_callf arp ?_; refine check_k _ _ _ _ d hb hp hm hm2 ?_; rw [herr]; refine T_nv ?_)
        | (refine T_load rfl ?_; refine pw_load (i := 0) rfl rfl (cellsVal_all hlen) ?_; refine T_nv ?_)
        | (refine T_ow rfl ?_; refine ow_callf arp ?_; refine encodeM_k x u hok hfs (KB_eq (r := (bs, 0)) he.symm (fun A3 c3 => ?_)); refine T_nv ?_)
        | (refine T_ow rfl ?_; refine ow_callf arp ?_; refine append_k _ _ _ _ _ _ d bs hb hp hbs' (List.Mem.tail _ hm) (List.Mem.tail _ hm2) (List.Mem.head _) (KO_litz os eo ho (fun AO cO => ?_)); refine T_nv ?_)
        | (apply TC_seq)
        | (apply TC_region)
        | (apply TC_block)
        | (apply TC_ret)
        | (apply TC_skip)
        | (apply TC_exit)
        | (apply TC_cond_true; exact rfl)
        | (apply TC_cond_false; exact rfl)
        | (apply T_nil)
        | (apply En_then)
        | (apply En_then_ret)
        | (apply En_then_exit)
        | (apply En_then_panic)
        | (apply En_block)
        | (apply En_block_ret)
        | (apply En_block_panic)
        | (apply En_block_exit)
        | (apply En_block_exit_ne; exact rfl)
        | (apply T_load; exact rfl; (first | refine pw_load (i := 0) rfl rfl rfl ?_ | refine pw_load (i := 1) rfl rfl rfl ?_ | refine pw_load (i := 2) rfl rfl rfl ?_ | refine pw_load (i := 3) rfl rfl rfl ?_ | refine pw_load (i := 4) rfl rfl rfl ?_ | refine pw_load (i := 5) rfl rfl rfl ?_ | refine pw_load_at rfl memr rfl ?_ | refine pw_load_at0 rfl memr rfl ?_ | refine pw_load_at rfl memt rfl ?_ | refine pw_load_at0 rfl memt rfl ?_); refine T_nv ?_)
        | (apply T_bin; exact rfl; (first | refine pw_add64 rfl rfl (by omega) (by omega) ?_ | refine pw_sub64 rfl rfl (by omega) (by omega) ?_ | refine pw_mul64 rfl rfl (by omega) (by omega) ?_ | refine pw_quo rfl rfl (by omega) (by omega) (by omega) ?_ | refine pw_rem rfl rfl (by omega) (by omega) ?_); refine T_nv ?_)
        | (apply T_bin; exact rfl; (first | refine pw_lss rfl rfl (fun h => ?_) (fun h => ?_) | refine pw_leq rfl rfl (fun h => ?_) (fun h => ?_) | refine pw_gtr rfl rfl (fun h => ?_) (fun h => ?_) | refine pw_geq rfl rfl (fun h => ?_) (fun h => ?_) | refine pw_eql rfl rfl (fun h => ?_) (fun h => ?_) | refine pw_neq rfl rfl (fun h => ?_) (fun h => ?_)) <;> first | (exfalso; omega) | refine T_nv ?_)
        | (refine T_pure rfl rfl ?_; (first | refine pw_mv ?_ | refine pw_as ?_ | refine pw_pick_t rfl evp ?_ | refine pw_pick_f rfl evp ?_ | refine pw_nilCheck rfl ?_ | refine pw_fieldAddr rfl ?_ | refine pw_len rfl ?_ | refine pw_lens rfl ?_ | refine pw_extract rfl rfl ?_ | refine pw_not rfl ?_ | refine pw_makeFuncL agp agp ?_ | refine pw_build bldp ?_ | refine pw_makeInterface rfl ?_); refine T_nv ?_)
        | (refine T_skipped rfl ?_; refine T_nv ?_)
        | (refine T_gen rfl rfl ?_; (first | refine gw_box clp (fun b => ?_) | refine gw_alloc clp (fun b => ?_) | refine gw_buildSlice (by decide) prtp rfl (fun b => ?_)); refine T_nv ?_)
      exact En_fin (.inl rfl) (res2 rfl (rv_tmp rfl) (rv_tmp rfl)) (fin_K H (Sl (.slice AO os.length cO) os :: R) (fun w hs => hs.weaken sbp kpp) (k AO cO))
    · have hs : saveD' d x = ([], e) := by unfold saveD'; rw [if_pos hc, he]; simp only; rw [if_neg h0]
      rw [hs] at k
      refine calls_of Try.func32 rfl Try.ntmps32 nep ?_
      repeat' first
        | (refine T_gen rfl rfl ?_; refine gw_box clp (fun b2 => ?_); refine T_nv ?_)
        | (refine T_ow rfl ?_; refine ow_callf arp ?_; refine check_k _ _ _ _ d hb hp hm hm2 ?_; rw [herr]; refine T_nv ?_)
        | (refine T_load rfl ?_; refine pw_load (i := 0) rfl rfl (cellsVal_all hlen) ?_; refine T_nv ?_)
        | (refine T_ow rfl ?_; refine ow_callf arp ?_; refine encodeM_k x u hok hfs (KB_eq (r := (bs, e)) he.symm (fun A3 c3 => ?_)); refine T_nv ?_)
        | (apply TC_seq)
        | (apply TC_region)
        | (apply TC_block)
        | (apply TC_ret)
        | (apply TC_skip)
        | (apply TC_exit)
        | (apply TC_cond_true; exact rfl)
        | (apply TC_cond_false; exact rfl)
        | (apply T_nil)
        | (apply En_then)
        | (apply En_then_ret)
        | (apply En_then_exit)
        | (apply En_then_panic)
        | (apply En_block)
        | (apply En_block_ret)
        | (apply En_block_panic)
        | (apply En_block_exit)
        | (apply En_block_exit_ne; exact rfl)
        | (apply T_load; exact rfl; (first | refine pw_load (i := 0) rfl rfl rfl ?_ | refine pw_load (i := 1) rfl rfl rfl ?_ | refine pw_load (i := 2) rfl rfl rfl ?_ | refine pw_load (i := 3) rfl rfl rfl ?_ | refine pw_load (i := 4) rfl rfl rfl ?_ | refine pw_load (i := 5) rfl rfl rfl ?_ | refine pw_load_at rfl memr rfl ?_ | refine pw_load_at0 rfl memr rfl ?_ | refine pw_load_at rfl memt rfl ?_ | refine pw_load_at0 rfl memt rfl ?_); refine T_nv ?_)
        | (apply T_bin; exact rfl; (first | refine pw_add64 rfl rfl (by omega) (by omega) ?_ | refine pw_sub64 rfl rfl (by omega) (by omega) ?_ | refine pw_mul64 rfl rfl (by omega) (by omega) ?_ | refine pw_quo rfl rfl (by omega) (by omega) (by omega) ?_ | refine pw_rem rfl rfl (by omega) (by omega) ?_); refine T_nv ?_)
        | (apply T_bin; exact rfl; (first | refine pw_lss rfl rfl (fun h => ?_) (fun h => ?_) | refine pw_leq rfl rfl (fun h => ?_) (fun h => ?_) | refine pw_gtr rfl rfl (fun h => ?_) (fun h => ?_) | refine pw_geq rfl rfl (fun h => ?_) (fun h => ?_) | refine pw_eql rfl rfl (fun h => ?_) (fun h => ?_) | refine pw_neq rfl rfl (fun h => ?_) (fun h => ?_)) <;> first | (exfalso; omega) | refine T_nv ?_)
        | (refine T_pure rfl rfl ?_; (first | refine pw_mv ?_ | refine pw_as ?_ | refine pw_pick_t rfl evp ?_ | refine pw_pick_f rfl evp ?_ | refine pw_nilCheck rfl ?_ | refine pw_fieldAddr rfl ?_ | refine pw_len rfl ?_ | refine pw_lens rfl ?_ | refine pw_extract rfl rfl ?_ | refine pw_not rfl ?_ | refine pw_makeFuncL agp agp ?_ | refine pw_build bldp ?_ | refine pw_makeInterface rfl ?_); refine T_nv ?_)
        | (refine T_skipped rfl ?_; refine T_nv ?_)
        | (refine T_gen rfl rfl ?_; (first | refine gw_box clp (fun b => ?_) | refine gw_alloc clp (fun b => ?_) | refine gw_buildSlice (by decide) prtp rfl (fun b => ?_)); refine T_nv ?_)
      exact En_fin (.inl rfl) (res2 rfl (rv_tmp rfl) (rv_tmp rfl)) (fin_K H (Sl (.slice none 0 0) ([] : List DO) :: R) (fun w hs => (hs.weaken sbp kpp).sl_nil DO) (k none 0))
  · have herr : errD d = 301 := by unfold errD; rw [if_neg hc]
    have hs : saveD' d x = ([], 301) := by unfold saveD'; rw [if_neg hc]
    rw [hs] at k
    refine calls_of Try.func32 rfl Try.ntmps32 nep ?_
    repeat' first
      | (refine T_gen rfl rfl ?_; refine gw_box clp (fun b2 => ?_); refine T_nv ?_)
      | (refine T_ow rfl ?_; refine ow_callf arp ?_; refine check_k _ _ _ _ d hb hp hm hm2 ?_; rw [herr]; refine T_nv ?_)
      | (apply TC_seq)
      | (apply TC_region)
      | (apply TC_block)
      | (apply TC_ret)
      | (apply TC_skip)
      | (apply TC_exit)
      | (apply TC_cond_true; exact rfl)
      | (apply TC_cond_false; exact rfl)
      | (apply T_nil)
      | (apply En_then)
      | (apply En_then_ret)
      | (apply En_then_exit)
      | (apply En_then_panic)
      | (apply En_block)
      | (apply En_block_ret)
      | (apply En_block_panic)
      | (apply En_block_exit)
      | (apply En_block_exit_ne; exact rfl)
      | (apply T_load; exact rfl; (first | refine pw_load (i := 0) rfl rfl rfl ?_ | refine pw_load (i := 1) rfl rfl rfl ?_ | refine pw_load (i := 2) rfl rfl rfl ?_ | refine pw_load (i := 3) rfl rfl rfl ?_ | refine pw_load (i := 4) rfl rfl rfl ?_ | refine pw_load (i := 5) rfl rfl rfl ?_ | refine pw_load_at rfl memr rfl ?_ | refine pw_load_at0 rfl memr rfl ?_ | refine pw_load_at rfl memt rfl ?_ | refine pw_load_at0 rfl memt rfl ?_); refine T_nv ?_)
      | (apply T_bin; exact rfl; (first | refine pw_add64 rfl rfl (by omega) (by omega) ?_ | refine pw_sub64 rfl rfl (by omega) (by omega) ?_ | refine pw_mul64 rfl rfl (by omega) (by omega) ?_ | refine pw_quo rfl rfl (by omega) (by omega) (by omega) ?_ | refine pw_rem rfl rfl (by omega) (by omega) ?_); refine T_nv ?_)
      | (apply T_bin; exact rfl; (first | refine pw_lss rfl rfl (fun h => ?_) (fun h => ?_) | refine pw_leq rfl rfl (fun h => ?_) (fun h => ?_) | refine pw_gtr rfl rfl (fun h => ?_) (fun h => ?_) | refine pw_geq rfl rfl (fun h => ?_) (fun h => ?_) | refine pw_eql rfl rfl (fun h => ?_) (fun h => ?_) | refine pw_neq rfl rfl (fun h => ?_) (fun h => ?_)) <;> first | (exfalso; omega) | refine T_nv ?_)
      | (refine T_pure rfl rfl ?_; (first | refine pw_mv ?_ | refine pw_as ?_ | refine pw_pick_t rfl evp ?_ | refine pw_pick_f rfl evp ?_ | refine pw_nilCheck rfl ?_ | refine pw_fieldAddr rfl ?_ | refine pw_len rfl ?_ | refine pw_lens rfl ?_ | refine pw_extract rfl rfl ?_ | refine pw_not rfl ?_ | refine pw_makeFuncL agp agp ?_ | refine pw_build bldp ?_ | refine pw_makeInterface rfl ?_); refine T_nv ?_)
      | (refine T_skipped rfl ?_; refine T_nv ?_)
      | (refine T_gen rfl rfl ?_; (first | refine gw_box clp (fun b => ?_) | refine gw_alloc clp (fun b => ?_) | refine gw_buildSlice (by decide) prtp rfl (fun b => ?_)); refine T_nv ?_)
    exact En_fin (.inl rfl) (res2 rfl (rv_tmp rfl) (rv_tmp rfl)) (fin_K H (Sl (.slice none 0 0) ([] : List DO) :: R) (fun w hs => (hs.weaken sbp kpp).sl_nil DO) (k none 0))
theorem load_k (k : KL K (loadD' d) H R) : CallsK Try.prog w0 33 #[dv A0 c0 A2 c2 d] H R K := by
  obtain ⟨⟨ys, ey⟩, hy⟩ : ∃ r, lastD d = r := ⟨_, rfl⟩
  by_cases h0 : ey = 0
  · subst h0
    obtain ⟨⟨m, at_, f⟩, hd⟩ : ∃ r, decR ys = r := ⟨_, rfl⟩
    have hs : loadD' d = (m, f) := by unfold loadD'; rw [hy]; simp only; rw [if_pos trivial, hd]
    rw [hs] at k
    refine calls_of Try.func33 rfl Try.ntmps33 nep ?_
    repeat' first
      | (refine T_gen rfl rfl ?_; refine gw_box clp (fun b2 => ?_); refine T_nv ?_)
      | (refine T_ow rfl ?_; refine ow_callf arp ?_; refine last_k _ _ _ _ d hb hp hm hm2 (KB_litz ys 0 hy (fun AY cY => ?_)); refine T_nv ?_)
      | (apply TC_seq)
      | (apply TC_region)
      | (apply TC_block)
      | (apply TC_ret)
      | (apply TC_skip)
      | (apply TC_exit)
      | (apply TC_cond_true; exact rfl)
      | (apply TC_cond_false; exact rfl)
      | (apply T_nil)
      | (apply En_then)
      | (apply En_then_ret)
      | (apply En_then_exit)
      | (apply En_then_panic)
      | (apply En_block)
      | (apply En_block_ret)
      | (apply En_block_panic)
      | (apply En_block_exit)
      | (apply En_block_exit_ne; exact rfl)
      | (apply T_load; exact rfl; (first | refine pw_load (i := 0) rfl rfl rfl ?_ | refine pw_load (i := 1) rfl rfl rfl ?_ | refine pw_load (i := 2) rfl rfl rfl ?_ | refine pw_load (i := 3) rfl rfl rfl ?_ | refine pw_load (i := 4) rfl rfl rfl ?_ | refine pw_load (i := 5) rfl rfl rfl ?_ | refine pw_load_at rfl memr rfl ?_ | refine pw_load_at0 rfl memr rfl ?_ | refine pw_load_at rfl memt rfl ?_ | refine pw_load_at0 rfl memt rfl ?_); refine T_nv ?_)
      | (apply T_bin; exact rfl; (first | refine pw_add64 rfl rfl (by omega) (by omega) ?_ | refine pw_sub64 rfl rfl (by omega) (by omega) ?_ | refine pw_mul64 rfl rfl (by omega) (by omega) ?_ | refine pw_quo rfl rfl (by omega) (by omega) (by omega) ?_ | refine pw_rem rfl rfl (by omega) (by omega) ?_); refine T_nv ?_)
      | (apply T_bin; exact rfl; (first | refine pw_lss rfl rfl (fun h => ?_) (fun h => ?_) | refine pw_leq rfl rfl (fun h => ?_) (fun h => ?_) | refine pw_gtr rfl rfl (fun h => ?_) (fun h => ?_) | refine pw_geq rfl rfl (fun h => ?_) (fun h => ?_) | refine pw_eql rfl rfl (fun h => ?_) (fun h => ?_) | refine pw_neq rfl rfl (fun h => ?_) (fun h => ?_)) <;> first | (exfalso; omega) | refine T_nv ?_)
      | (refine T_pure rfl rfl ?_; (first | refine pw_mv ?_ | refine pw_as ?_ | refine pw_pick_t rfl evp ?_ | refine pw_pick_f rfl evp ?_ | refine pw_nilCheck rfl ?_ | refine pw_fieldAddr rfl ?_ | refine pw_len rfl ?_ | refine pw_lens rfl ?_ | refine pw_extract rfl rfl ?_ | refine pw_not rfl ?_ | refine pw_makeFuncL agp agp ?_ | refine pw_build bldp ?_ | refine pw_makeInterface rfl ?_); refine T_nv ?_)
      | (refine T_skipped rfl ?_; refine T_nv ?_)
      | (refine T_gen rfl rfl ?_; (first | refine gw_box clp (fun b => ?_) | refine gw_alloc clp (fun b => ?_) | refine gw_buildSlice (by decide) prtp rfl (fun b => ?_)); refine T_nv ?_)
    have hbd2 : ys.length ≤ 9223372036854775806 := by
      have := lastD_len d
      rw [hy] at this
      simp only at this
      omega
    refine T_ow rfl ?_; refine ow_callf arp ?_
    refine decode_k AY cY ys hbd2 (List.Mem.head _) (KDm_eq (r := (m, at_, f)) hd.symm (fun y hy => ?_))
    refine T_nv ?_
    have hly : (Unp.cs m y).length = 16 := UnpL.len m y
    repeat' first
      | (apply T_load; exact rfl; (first | refine pw_load (i := 0) rfl rfl rfl ?_ | refine pw_load (i := 1) rfl rfl rfl ?_ | refine pw_load (i := 2) rfl rfl rfl ?_ | refine pw_load (i := 3) rfl rfl rfl ?_ | refine pw_load (i := 4) rfl rfl rfl ?_ | refine pw_load (i := 5) rfl rfl rfl ?_ | refine pw_load_at rfl memr rfl ?_ | refine pw_load_at0 rfl memr rfl ?_ | refine pw_load_at rfl memt rfl ?_ | refine pw_load_at0 rfl memt rfl ?_); refine T_nv ?_)
      | (apply T_bin; exact rfl; (first | refine pw_add64 rfl rfl (by omega) (by omega) ?_ | refine pw_sub64 rfl rfl (by omega) (by omega) ?_ | refine pw_mul64 rfl rfl (by omega) (by omega) ?_ | refine pw_quo rfl rfl (by omega) (by omega) (by omega) ?_ | refine pw_rem rfl rfl (by omega) (by omega) ?_); refine T_nv ?_)
      | (apply T_bin; exact rfl; (first | refine pw_lss rfl rfl (fun h => ?_) (fun h => ?_) | refine pw_leq rfl rfl (fun h => ?_) (fun h => ?_) | refine pw_gtr rfl rfl (fun h => ?_) (fun h => ?_) | refine pw_geq rfl rfl (fun h => ?_) (fun h => ?_) | refine pw_eql rfl rfl (fun h => ?_) (fun h => ?_) | refine pw_neq rfl rfl (fun h => ?_) (fun h => ?_)) <;> first | (exfalso; omega) | refine T_nv ?_)
      | (refine T_pure rfl rfl ?_; (first | refine pw_mv ?_ | refine pw_as ?_ | refine pw_pick_t rfl evp ?_ | refine pw_pick_f rfl evp ?_ | refine pw_nilCheck rfl ?_ | refine pw_fieldAddr rfl ?_ | refine pw_len rfl ?_ | refine pw_lens rfl ?_ | refine pw_extract rfl rfl ?_ | refine pw_not rfl ?_ | refine pw_makeFuncL agp agp ?_ | refine pw_build bldp ?_ | refine pw_makeInterface rfl ?_); refine T_nv ?_)
      | (refine T_skipped rfl ?_; refine T_nv ?_)
      | (refine T_gen rfl rfl ?_; (first | refine gw_box clp (fun b => ?_) | refine gw_alloc clp (fun b => ?_) | refine gw_buildSlice (by decide) prtp rfl (fun b => ?_)); refine T_nv ?_)
    refine T_gen rfl rfl ?_
    refine gw_store (i := 0) (vs := Unp.cs m y) rfl rfl rfl hly (by simp) (UnpL.one _ _) ?_
    rw [overlay_all (by rw [hly]; rfl)]
    refine T_nv ?_
    refine T_hq ?_
    repeat' first
      | (refine T_load rfl ?_; refine pw_load (i := 0) rfl rfl (cellsVal_all hly) ?_; refine T_nv ?_)
      | (apply TC_seq)
      | (apply TC_region)
      | (apply TC_block)
      | (apply TC_ret)
      | (apply TC_skip)
      | (apply TC_exit)
      | (apply TC_cond_true; exact rfl)
      | (apply TC_cond_false; exact rfl)
      | (apply T_nil)
      | (apply En_then)
      | (apply En_then_ret)
      | (apply En_then_exit)
      | (apply En_then_panic)
      | (apply En_block)
      | (apply En_block_ret)
      | (apply En_block_panic)
      | (apply En_block_exit)
      | (apply En_block_exit_ne; exact rfl)
      | (apply T_load; exact rfl; (first | refine pw_load (i := 0) rfl rfl rfl ?_ | refine pw_load (i := 1) rfl rfl rfl ?_ | refine pw_load (i := 2) rfl rfl rfl ?_ | refine pw_load (i := 3) rfl rfl rfl ?_ | refine pw_load (i := 4) rfl rfl rfl ?_ | refine pw_load (i := 5) rfl rfl rfl ?_ | refine pw_load_at rfl memr rfl ?_ | refine pw_load_at0 rfl memr rfl ?_ | refine pw_load_at rfl memt rfl ?_ | refine pw_load_at0 rfl memt rfl ?_); refine T_nv ?_)
      | (apply T_bin; exact rfl; (first | refine pw_add64 rfl rfl (by omega) (by omega) ?_ | refine pw_sub64 rfl rfl (by omega) (by omega) ?_ | refine pw_mul64 rfl rfl (by omega) (by omega) ?_ | refine pw_quo rfl rfl (by omega) (by omega) (by omega) ?_ | refine pw_rem rfl rfl (by omega) (by omega) ?_); refine T_nv ?_)
      | (apply T_bin; exact rfl; (first | refine pw_lss rfl rfl (fun h => ?_) (fun h => ?_) | refine pw_leq rfl rfl (fun h => ?_) (fun h => ?_) | refine pw_gtr rfl rfl (fun h => ?_) (fun h => ?_) | refine pw_geq rfl rfl (fun h => ?_) (fun h => ?_) | refine pw_eql rfl rfl (fun h => ?_) (fun h => ?_) | refine pw_neq rfl rfl (fun h => ?_) (fun h => ?_)) <;> first | (exfalso; omega) | refine T_nv ?_)
      | (refine T_pure rfl rfl ?_; (first | refine pw_mv ?_ | refine pw_as ?_ | refine pw_pick_t rfl evp ?_ | refine pw_pick_f rfl evp ?_ | refine pw_nilCheck rfl ?_ | refine pw_fieldAddr rfl ?_ | refine pw_len rfl ?_ | refine pw_lens rfl ?_ | refine pw_extract rfl rfl ?_ | refine pw_not rfl ?_ | refine pw_makeFuncL agp agp ?_ | refine pw_build bldp ?_ | refine pw_makeInterface rfl ?_); refine T_nv ?_)
      | (refine T_skipped rfl ?_; refine T_nv ?_)
      | (refine T_gen rfl rfl ?_; (first | refine gw_box clp (fun b => ?_) | refine gw_alloc clp (fun b => ?_) | refine gw_buildSlice (by decide) prtp rfl (fun b => ?_)); refine T_nv ?_)
    refine T_gen rfl rfl ?_
    refine gw_store (i := 1) (vs := Unp.cs m y) rfl rfl rfl hly (by simp) (UnpL.one _ _) ?_
    rw [overlay_all (by rw [hly]; rfl)]
    refine T_nv ?_
    refine T_hq ?_
    repeat' first
      | (apply TC_seq)
      | (apply TC_region)
      | (apply TC_block)
      | (apply TC_ret)
      | (apply TC_skip)
      | (apply TC_exit)
      | (apply TC_cond_true; exact rfl)
      | (apply TC_cond_false; exact rfl)
      | (apply T_nil)
      | (apply En_then)
      | (apply En_then_ret)
      | (apply En_then_exit)
      | (apply En_then_panic)
      | (apply En_block)
      | (apply En_block_ret)
      | (apply En_block_panic)
      | (apply En_block_exit)
      | (apply En_block_exit_ne; exact rfl)
      | (apply T_load; exact rfl; (first | refine pw_load (i := 0) rfl rfl rfl ?_ | refine pw_load (i := 1) rfl rfl rfl ?_ | refine pw_load (i := 2) rfl rfl rfl ?_ | refine pw_load (i := 3) rfl rfl rfl ?_ | refine pw_load (i := 4) rfl rfl rfl ?_ | refine pw_load (i := 5) rfl rfl rfl ?_ | refine pw_load_at rfl memr rfl ?_ | refine pw_load_at0 rfl memr rfl ?_ | refine pw_load_at rfl memt rfl ?_ | refine pw_load_at0 rfl memt rfl ?_); refine T_nv ?_)
      | (apply T_bin; exact rfl; (first | refine pw_add64 rfl rfl (by omega) (by omega) ?_ | refine pw_sub64 rfl rfl (by omega) (by omega) ?_ | refine pw_mul64 rfl rfl (by omega) (by omega) ?_ | refine pw_quo rfl rfl (by omega) (by omega) (by omega) ?_ | refine pw_rem rfl rfl (by omega) (by omega) ?_); refine T_nv ?_)
      | (apply T_bin; exact rfl; (first | refine pw_lss rfl rfl (fun h => ?_) (fun h => ?_) | refine pw_leq rfl rfl (fun h => ?_) (fun h => ?_) | refine pw_gtr rfl rfl (fun h => ?_) (fun h => ?_) | refine pw_geq rfl rfl (fun h => ?_) (fun h => ?_) | refine pw_eql rfl rfl (fun h => ?_) (fun h => ?_) | refine pw_neq rfl rfl (fun h => ?_) (fun h => ?_)) <;> first | (exfalso; omega) | refine T_nv ?_)
      | (refine T_pure rfl rfl ?_; (first | refine pw_mv ?_ | refine pw_as ?_ | refine pw_pick_t rfl evp ?_ | refine pw_pick_f rfl evp ?_ | refine pw_nilCheck rfl ?_ | refine pw_fieldAddr rfl ?_ | refine pw_len rfl ?_ | refine pw_lens rfl ?_ | refine pw_extract rfl rfl ?_ | refine pw_not rfl ?_ | refine pw_makeFuncL agp agp ?_ | refine pw_build bldp ?_ | refine pw_makeInterface rfl ?_); refine T_nv ?_)
      | (refine T_skipped rfl ?_; refine T_nv ?_)
      | (refine T_gen rfl rfl ?_; (first | refine gw_box clp (fun b => ?_) | refine gw_alloc clp (fun b => ?_) | refine gw_buildSlice (by decide) prtp rfl (fun b => ?_)); refine T_nv ?_)
    exact En_fin (.inl rfl) (res2 rfl (rv_cell (i := 1) rfl rfl (cellsVal_all hly)) (rv_tmp rfl)) (fin_K H (Unp.fs m y ++ R) (fun w hs => hs.weaken sbp (fun p hp => by
      rcases List.mem_append.1 hp with hp | hp
      · exact List.mem_append_left _ hp
      · exact List.mem_append_right _ (List.Mem.tail _ hp))) (k y hy))
  · have hs : loadD' d = (maZ, ey) := by unfold loadD'; rw [hy]; simp only; rw [if_neg h0]
    rw [hs] at k
    refine calls_of Try.func33 rfl Try.ntmps33 nep ?_
    repeat' first
      | (refine T_gen rfl rfl ?_; refine gw_box clp (fun b2 => ?_); refine T_nv ?_)
      | (refine T_ow rfl ?_; refine ow_callf arp ?_; refine last_k _ _ _ _ d hb hp hm hm2 (KB_litz ys ey hy (fun AY cY => ?_)); refine T_nv ?_)
      | (apply TC_seq)
      | (apply TC_region)
      | (apply TC_block)
      | (apply TC_ret)
      | (apply TC_skip)
      | (apply TC_exit)
      | (apply TC_cond_true; exact rfl)
      | (apply TC_cond_false; exact rfl)
      | (apply T_nil)
      | (apply En_then)
      | (apply En_then_ret)
      | (apply En_then_exit)
      | (apply En_then_panic)
      | (apply En_block)
      | (apply En_block_ret)
      | (apply En_block_panic)
      | (apply En_block_exit)
      | (apply En_block_exit_ne; exact rfl)
      | (apply T_load; exact rfl; (first | refine pw_load (i := 0) rfl rfl rfl ?_ | refine pw_load (i := 1) rfl rfl rfl ?_ | refine pw_load (i := 2) rfl rfl rfl ?_ | refine pw_load (i := 3) rfl rfl rfl ?_ | refine pw_load (i := 4) rfl rfl rfl ?_ | refine pw_load (i := 5) rfl rfl rfl ?_ | refine pw_load_at rfl memr rfl ?_ | refine pw_load_at0 rfl memr rfl ?_ | refine pw_load_at rfl memt rfl ?_ | refine pw_load_at0 rfl memt rfl ?_); refine T_nv ?_)
      | (apply T_bin; exact rfl; (first | refine pw_add64 rfl rfl (by omega) (by omega) ?_ | refine pw_sub64 rfl rfl (by omega) (by omega) ?_ | refine pw_mul64 rfl rfl (by omega) (by omega) ?_ | refine pw_quo rfl rfl (by omega) (by omega) (by omega) ?_ | refine pw_rem rfl rfl (by omega) (by omega) ?_); refine T_nv ?_)
      | (apply T_bin; exact rfl; (first | refine pw_lss rfl rfl (fun h => ?_) (fun h => ?_) | refine pw_leq rfl rfl (fun h => ?_) (fun h => ?_) | refine pw_gtr rfl rfl (fun h => ?_) (fun h => ?_) | refine pw_geq rfl rfl (fun h => ?_) (fun h => ?_) | refine pw_eql rfl rfl (fun h => ?_) (fun h => ?_) | refine pw_neq rfl rfl (fun h => ?_) (fun h => ?_)) <;> first | (exfalso; omega) | refine T_nv ?_)
      | (apply T_store; exact rfl; (first | refine gw_store (i := 0) rfl clp rfl (by rfl) (by simp) (by simp [Value.oneCell']) ?_ | refine gw_store (i := 1) rfl clp rfl (by rfl) (by simp) (by simp [Value.oneCell']) ?_ | refine gw_store (i := 2) rfl clp rfl (by rfl) (by simp) (by simp [Value.oneCell']) ?_ | refine gw_store (i := 3) rfl clp rfl (by rfl) (by simp) (by simp [Value.oneCell']) ?_ | refine gw_store (i := 4) rfl clp rfl (by rfl) (by simp) (by simp [Value.oneCell']) ?_ | refine gw_store (i := 5) rfl clp rfl (by rfl) (by simp) (by simp [Value.oneCell']) ?_); refine T_nv ?_; refine T_hq ?_)
      | (refine T_pure rfl rfl ?_; (first | refine pw_mv ?_ | refine pw_as ?_ | refine pw_pick_t rfl evp ?_ | refine pw_pick_f rfl evp ?_ | refine pw_nilCheck rfl ?_ | refine pw_fieldAddr rfl ?_ | refine pw_len rfl ?_ | refine pw_lens rfl ?_ | refine pw_extract rfl rfl ?_ | refine pw_not rfl ?_ | refine pw_makeFuncL agp agp ?_ | refine pw_build bldp ?_ | refine pw_makeInterface rfl ?_); refine T_nv ?_)
      | (refine T_skipped rfl ?_; refine T_nv ?_)
      | (refine T_gen rfl rfl ?_; (first | refine gw_box clp (fun b => ?_) | refine gw_alloc clp (fun b => ?_) | refine gw_buildSlice (by decide) prtp rfl (fun b => ?_)); refine T_nv ?_)
    exact En_fin (.inl rfl) (res2 rfl (rv_cell (i := 0) rfl rfl rfl) (rv_tmp rfl)) (fin_K H (Unp.fs maZ yZ ++ R) (fun w hs => (hs.weaken sbp kpp).maZ) (k yZ maZ_ok))
end
end Go.Proofs.Ytggdljhmbckpmaa
