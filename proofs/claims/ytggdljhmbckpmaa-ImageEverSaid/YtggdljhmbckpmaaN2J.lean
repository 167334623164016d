/- Decode: truths, texts, some numbers read: walks. Decode: numbers read into places: walk. -/
import Derived.Test.YtggdljhmbckpmaaN1
set_option linter.unusedVariables false
set_option linter.unusedSimpArgs false
namespace Go.Proofs.Ytggdljhmbckpmaa
open Go Go.RowKit
set_option maxRecDepth 100000
set_option maxHeartbeats 1600000

theorem truth_r {w0 : World} (br : Nat) (A : Option Addr) (c : Nat) (xs : List UInt8) (hx : xs.length ≤ 250000) : Rr Try.prog w0 81 [.pointer (some ⟨br, 0, none⟩)] br A c xs 0 (truthD xs) (fun n _ => .bool n) := by
  intro H R K KP a _ hax hm hk hp
  refine callsP_of Try.func81 rfl Try.ntmps81 nep ?_
  repeat' (first | (apply TC_seq) | (apply TC_region) | (apply T_nil) | (apply En_then) | (refine T_pure rfl rfl ?_; ((first | refine pw_mv ?_ | refine pw_as ?_ | refine pw_nilCheck rfl ?_ | refine pw_fieldAddr rfl ?_)); refine T_nv ?_))
  refine T_next rfl rfl hx hax hm (fun ch hch hlt => ?_) (fun hno => ?_)
  rotate_left
  · skip
    repeat' ((apply En_then_panic))
    exact En_panicked (fin_P H R (fun w hs => hs) (hp _ (by unfold truthD; rw [hno])))
  refine T_nv ?_
  repeat' (first | (refine T_bin rfl ?_; ((first | refine pw_gtr (k := .u8) (a := (ch.toNat : Int)) (b := 1) rfl rfl (fun h => ?_) (fun h => ?_) | refine pw_eql (k := .u8) (a := (ch.toNat : Int)) (b := 1) rfl rfl (fun h => ?_) (fun h => ?_))) <;> refine T_nv ?_) | (apply TC_seq) | (apply TC_region) | (apply TC_ret) | (apply TC_skip) | (apply TC_cond_true; exact rfl) | (apply TC_cond_false; exact rfl) | (apply T_nil) | (apply En_then) | (refine T_pure rfl rfl ?_; ((first | refine pw_mv ?_ | refine pw_as ?_)); refine T_nv ?_))
  · refine T_back rfl rfl (by omega) (by omega) ?_
    repeat' (apply En_then_panic)
    refine En_panicked (fin_P H R (fun w hs => hs) (hp _ (by unfold truthD; rw [hch]; simp only; rw [if_pos (by omega)]; rfl)))
  · refine En_fin (.inl rfl) (res1 rfl (rv_tmp rfl)) (fin_R _ R (fun w hs => hs) ?_)
    have e : decide (ch.toNat = 1) = true := by simpa using (by omega : ch.toNat = 1)
    have := hk true (a + 1) () (by unfold truthD; rw [hch]; simp only; rw [if_neg (by omega), e]) (by omega) hlt trivial
    exact this
  · refine En_fin (.inl rfl) (res1 rfl (rv_tmp rfl)) (fin_R _ R (fun w hs => hs) ?_)
    have e : decide (ch.toNat = 1) = false := by simpa using (by omega : ¬ ch.toNat = 1)
    have := hk false (a + 1) () (by unfold truthD; rw [hch]; simp only; rw [if_neg (by omega), e]) (by omega) hlt trivial
    exact this
section
variable {F : Fence} {n : Nat} {w0 : World} {D : List Deferred} {ops : Array Oper} {Q : Exit → Act → World → Prop} {rest : List Oper} {E : List Value} {H : List Hp} {R : List MP}
theorem T_lenr [Wd F] {dst : Option Tmp} {l : List Operand} {at_ : Array TypeId} {ty : TypeId} {pos : String} {aft : Array Edge} {g : Option (Nat × Bool)} {br : Nat} {A : Option Addr} {c : Nat} {xs : List UInt8} {a : Nat}
    (hw : Region.wanted ⟨dst, .call ⟨.value (.func 112), l.toArray, at_⟩, ty, pos, aft, g⟩ (yielded ops E.toArray) = true) (hA : l.map (ev E) = [.pointer (some ⟨br, 0, none⟩)]) (hx : xs.length ≤ 250000) (hax : a ≤ xs.length) (hm : Sl (.slice A xs.length c) xs ∈ R)
    (hk : ∀ m a', lenD xs a = .ok (m, a') → a + 1 ≤ a' → m + a' ≤ xs.length → T F n Try.prog w0 D ops Q rest (setD E dst (.int .i64 (m : Int))) (.blk br [.slice A xs.length c, .int .i64 (a' : Int)] 104 :: H) R)
    (hp : ∀ e : Nat, lenD xs a = .error e → En w0 D Q (.panic (rf e)) E H R) : T F n Try.prog w0 D ops Q (⟨dst, .call ⟨.value (.func 112), l.toArray, at_⟩, ty, pos, aft, g⟩ :: rest) E (.blk br [.slice A xs.length c, .int .i64 (a : Int)] 104 :: H) R :=
  T_rd hw hA (length_r br A c xs hx) (Nat.zero_le _) hax hm (fun x a' y hd h1 h2 _ => by
    obtain ⟨m, hm', rfl⟩ := mapD_ok hd
    obtain ⟨q1, q2, q3, q4⟩ := lenD_can hax hm'
    exact hk m a' hm' q1 q4) (fun e he => hp e (mapD_er he))
end
theorem text_r {w0 : World} (br : Nat) (A : Option Addr) (c : Nat) (xs : List UInt8) (hx : xs.length ≤ 250000) : Rr Try.prog w0 115 [.pointer (some ⟨br, 0, none⟩)] br A c xs 0 (textD xs) (fun s _ => .string s) := by
  intro H R K KP a _ hax hm hk hp
  refine callsP_of Try.func115 rfl Try.ntmps115 nep ?_
  repeat' (first | (apply TC_seq) | (apply TC_region) | (apply T_nil) | (apply En_then) | (refine T_pure rfl rfl ?_; ((first | refine pw_mv ?_ | refine pw_as ?_)); refine T_nv ?_))
  refine T_lenr rfl rfl hx hax hm (fun m a1 hn h1 h2 => ?_) (fun e he => ?_)
  rotate_left
  · skip
    repeat' ((apply En_then_panic))
    exact En_panicked (fin_P H R (fun w hs => hs) (hp e (by unfold textD; rw [he])))
  refine T_nv ?_
  repeat' (first | (apply TC_seq) | (apply TC_region) | (apply T_nil) | (apply En_then) | (apply T_load; exact rfl; ((refine pw_load (i := 0) rfl rfl rfl ?_)); refine T_nv ?_) | (apply T_bin; exact rfl; ((refine pw_add64 rfl rfl (by omega) (by omega) ?_)); refine T_nv ?_) | (apply T_store; exact rfl; ((refine gw_store (i := 0) rfl clp rfl (by rfl) (by simp) (by simp [Value.oneCell']) ?_)); refine T_nv ?_; refine T_hq ?_) | (refine T_pure rfl rfl ?_; ((first | refine pw_mv ?_ | refine pw_as ?_ | refine pw_nilCheck rfl ?_ | refine pw_fieldAddr rfl ?_)); refine T_nv ?_))
  have e2 : ((a1 : Int) + (m : Int)) = ((a1 + m : Nat) : Int) := by omega
  rw [e2]
  refine TC_draw mixed (by decide +kernel) (fun _ _ _ _ _ _ h => h) (List.Sublist.refl _) ?_
  all_goals ((refine TA_p 0 ?_; ((refine pw_mv ?_)); refine TA_nv ?_))
  all_goals ((refine TA_p 1 ?_; ((refine pw_nilCheck rfl ?_)); refine TA_nv ?_))
  all_goals ((refine TA_p 2 ?_; ((refine pw_fieldAddr rfl ?_)); refine TA_nv ?_))
  all_goals ((refine TA_p 3 ?_; ((refine pw_fieldAddr rfl ?_)); refine TA_nv ?_))
  all_goals ((refine TA_p 4 ?_; ((refine pw_load (i := 0) rfl rfl rfl ?_)); refine TA_nv ?_))
  all_goals ((refine TA_p 5 ?_; ((refine pw_mv ?_)); refine TA_nv ?_))
  all_goals ((refine TA_p 6 ?_; ((refine pw_nilCheck rfl ?_)); refine TA_nv ?_))
  all_goals ((refine TA_p 7 ?_; ((refine pw_fieldAddr rfl ?_)); refine TA_nv ?_))
  all_goals ((refine TA_p 8 ?_; ((refine pw_fieldAddr rfl ?_)); refine TA_nv ?_))
  all_goals ((refine TA_p 9 ?_; ((refine pw_load (i := 0) rfl rfl rfl ?_)); refine TA_nv ?_))
  all_goals ((refine TA_p 10 ?_; ((refine pw_mv ?_)); refine TA_nv ?_))
  all_goals ((refine TA_p 11 ?_; ((refine pw_sub64 rfl rfl (by omega) (by omega) ?_)); refine TA_nv ?_))
  all_goals ((refine TA_p 12 ?_; ((refine pw_mv ?_)); refine TA_nv ?_))
  all_goals ((refine TA_p 13 ?_; ((refine pw_nilCheck rfl ?_)); refine TA_nv ?_))
  all_goals ((refine TA_p 14 ?_; ((refine pw_fieldAddr rfl ?_)); refine TA_nv ?_))
  all_goals ((refine TA_p 15 ?_; ((refine pw_fieldAddr rfl ?_)); refine TA_nv ?_))
  all_goals ((refine TA_p 16 ?_; ((refine pw_load (i := 0) rfl rfl rfl ?_)); refine TA_nv ?_))
  all_goals ((refine TA_p 17 ?_; ((refine pw_slice_sl rfl hm rfl rfl rfl rfl (by omega) (by omega) (by omega) (fun A8 c8 => ?_))); refine TA_nv ?_))
  all_goals ((refine TA_p 18 ?_; ((refine pw_str rfl memt ?_)); refine TA_nv ?_))
  all_goals ((refine TA_p 19 ?_; ((refine pw_as ?_)); refine TA_nv ?_))
  all_goals refine TA_d ?_
  repeat' (first | (apply TC_ret) | (apply En_then))
  have e3 : List.drop (((a1 + m : Nat) : Int) - (m : Int)).toNat (List.take ((a1 + m : Nat) : Int).toNat xs) = (xs.drop a1).take m := by
    rw [show (((a1 + m : Nat) : Int) - (m : Int)).toNat = a1 by omega, Int.toNat_natCast, List.drop_take, show a1 + m - a1 = m by omega]
  have hl : (strV ((xs.drop a1).take m)).size ≤ 9223372036854775807 := by
    rw [strV_size]
    simp
    omega
  refine En_fin (.inl rfl) (res1 rfl (rv_tmp (v := .string (strV ((xs.drop a1).take m))) (by rw [← e3]; rfl))) (fin_R _ R (fun w hs => hs.weaken sbp kpp) ?_)
  exact hk _ (a1 + m) () (by unfold textD; rw [hn]) (by omega) (by omega) hl
end Go.Proofs.Ytggdljhmbckpmaa
namespace Go.Proofs.Ytggdljhmbckpmaa
open Go Go.RowKit
set_option maxRecDepth 100000
set_option maxHeartbeats 1600000

structure Pt where
  b : Nat
  o : Nat
instance : Rep Pt where
  size := 1
  rd _ cs p := cs = [.pointer (some ⟨p.b, p.o, none⟩)]
  mono _ h := h
  len h := by subst h; rfl
  one h := by subst h; simp [Value.oneCell']
instance : Unp Pt := ⟨Unit, fun p _ => [.pointer (some ⟨p.b, p.o, none⟩)], fun _ _ => True, fun _ _ => [], fun h => ⟨(), h, trivial, fun _ h => by cases h⟩, fun _ _ => rfl⟩
def ptsV (b : Nat) (os : List Nat) : List Value := os.map (fun o => .pointer (some ⟨b, o, none⟩))
def pts (b : Nat) (os : List Nat) : List Pt := os.map (Pt.mk b)
theorem Cx_pts (b : Nat) (os : List Nat) (s : Sto) : (Cx (ptsV b os) (pts b os)).p s := by
  refine ⟨by simp [Rep.size, ptsV, pts], fun j x hj => ?_⟩
  obtain ⟨o, ho, rfl⟩ : ∃ o, os[j]? = some o ∧ x = ⟨b, o⟩ := by
    simp only [pts, List.getElem?_map, Option.map_eq_some_iff] at hj
    obtain ⟨o, h1, h2⟩ := hj
    exact ⟨o, h1, h2.symm⟩
  have hj' : (ptsV b os)[j]? = some (.pointer (some ⟨b, o, none⟩)) := by simp [ptsV, ho]
  obtain ⟨h1, h2⟩ := List.getElem?_eq_some_iff.1 hj'
  show ((ptsV b os).drop (j * 1)).take 1 = [.pointer (some ⟨b, o, none⟩)]
  rw [Nat.mul_one, List.drop_eq_getElem_cons h1, h2]
  rfl
def intoD (xs : List UInt8) : List Value → List Nat → Nat → Except Nat (List Value × Nat)
  | zs, [], a => .ok (zs, a)
  | zs, o :: os, a => match numD xs a with
    | .error e => .error e
    | .ok (n, a1) => intoD xs (zs.set o (.int .i64 n)) os a1
theorem intoD_ok {xs : List UInt8} {zs r : List Value} {o a a' : Nat} {os : List Nat} (h : intoD xs zs (o :: os) a = .ok (r, a')) : ∃ n a1, numD xs a = .ok (n, a1) ∧ intoD xs (zs.set o (.int .i64 n)) os a1 = .ok (r, a') := by
  unfold intoD at h
  cases hg : numD xs a with
  | error e => rw [hg] at h; cases h
  | ok p => rw [hg] at h; exact ⟨p.1, p.2, rfl, h⟩
theorem intoD_nil {xs : List UInt8} {zs r : List Value} {a a' : Nat} (h : intoD xs zs [] a = .ok (r, a')) : r = zs ∧ a' = a := by
  injection h with h
  injection h with h1 h2
  exact ⟨h1.symm, h2.symm⟩
theorem intoD_er {xs : List UInt8} {zs : List Value} {o a e : Nat} {os : List Nat} (h : intoD xs zs (o :: os) a = .error e) : numD xs a = .error e ∨ ∃ n a1, numD xs a = .ok (n, a1) ∧ intoD xs (zs.set o (.int .i64 n)) os a1 = .error e := by
  unfold intoD at h
  cases hg : numD xs a with
  | error e' => rw [hg] at h; injection h with h; subst h; exact .inl rfl
  | ok p => rw [hg] at h; exact .inr ⟨p.1, p.2, rfl, h⟩
theorem overlay_set {zs : List Value} {o : Nat} {v : Value} (h : o < zs.length) : overlay zs o [v] = zs.set o v := by
  simp only [overlay, List.length_singleton]
  rw [List.set_eq_take_append_cons_drop, if_pos h]
  simp
theorem into_r {w0 : World} (br : Nat) (A : Option Addr) (c : Nat) (xs : List UInt8) (hx : xs.length ≤ 250000) (bp bt cp : Nat) (T' : TypeId) (os : List Nat) (hos : os.length ≤ 100) (H : List Hp) (R : List MP) (K : Value → List Hp → List MP → Prop) (KP : List PanicEntry → List Hp → List MP → Prop) (a : Nat) (zs : List Value)
    (hax : a ≤ xs.length) (hm : Sl (.slice A xs.length c) xs ∈ R) (hm2 : Sl (.slice (some ⟨bp, 0, none⟩) os.length cp) (pts bt os) ∈ R) (hz : ∀ o ∈ os, o < zs.length)
    (hk : ∀ zs' a', intoD xs zs os a = .ok (zs', a') → a ≤ a' → a' ≤ xs.length → K (.tuple #[]) (.blk br [.slice A xs.length c, .int .i64 (a' : Int)] 104 :: .blk bt zs' T' :: H) R)
    (hp : ∀ e : Nat, intoD xs zs os a = .error e → KP (rf e) H R) :
    CallsP Try.prog w0 80 #[.pointer (some ⟨br, 0, none⟩), .slice (some ⟨bp, 0, none⟩) os.length cp] (.blk br [.slice A xs.length c, .int .i64 (a : Int)] 104 :: .blk bt zs T' :: H) R K KP := by
  refine callsP_of Try.func80 rfl Try.ntmps80 nep ?_
  repeat' (first | (apply TC_seq) | (apply TC_region) | (apply TC_block) | (apply T_nil) | (apply En_then) | (refine T_pure rfl rfl ?_; ((first | refine pw_mv ?_ | refine pw_len rfl ?_)); refine T_nv ?_))
  refine TC_loopS [5, 8, 9, 10, 11, 12, 13, 14, 15, 16] (fun m j H2 R2 => ∃ (i a' : Nat) (zs' : List Value), i + m = os.length ∧ j 8 = .int .i64 (i : Int) ∧ (∀ p ∈ R, p ∈ R2) ∧ H2 = .blk br [.slice A xs.length c, .int .i64 (a' : Int)] 104 :: .blk bt zs' T' :: H ∧ a ≤ a' ∧ a' ≤ xs.length ∧ zs'.length = zs.length ∧ intoD xs zs' (os.drop i) a' = intoD xs zs os a) os.length sjp ⟨0, a, zs, by omega, rfl, fun _ h => h, rfl, Nat.le_refl _, hax, rfl, rfl⟩ ?_
  rintro m j' H2 R2 ⟨i, a', zs', him, h8, hR2, hH2, haa, ha', hzl, hle⟩
  subst hH2
  have hmx := hR2 _ hm
  have hmp := hR2 _ hm2
  refine TC_env (by simp only [setJ, List.foldl_cons, List.foldl_nil, List.set_cons_succ, List.set_cons_zero, h8]; rfl) ?_
  rcases Nat.lt_or_ge i os.length with hlt | hge
  · obtain ⟨oi, hoi⟩ : ∃ oi, os[i]? = some oi := ⟨_, List.getElem?_eq_getElem hlt⟩
    have hpi : (pts bt os)[((i : Nat) : Int).toNat]? = some ⟨bt, oi⟩ := by simp [pts, hoi]
    have hd : os.drop i = oi :: os.drop (i + 1) := by
      obtain ⟨h1, h2⟩ := List.getElem?_eq_some_iff.1 hoi
      rw [List.drop_eq_getElem_cons h1, h2]
    have hoz : oi < zs'.length := by rw [hzl]; exact hz _ (List.mem_of_getElem? hoi)
    rw [hd] at hle
    clear hd hoi
    have HL := Go.Lib.hid hle
    clear hle
    repeat' (first | (refine T_pure rfl rfl ?_; refine pw_indexU rfl rfl hmp rfl hpi (by omega) (fun b_ o y hy => ?_); refine T_nv ?_) | (refine T_pure rfl rfl ?_; refine pw_load_at0 (v := .pointer (some ⟨bt, oi, none⟩)) rfl List.mem_cons_self rfl ?_; refine T_nv ?_) | (apply TC_seq) | (apply TC_region) | (apply TC_block) | (apply TC_skip) | (apply TC_cond_true; exact rfl) | (apply T_nil) | (apply En_then) | (apply T_bin; exact rfl; ((refine pw_lss rfl rfl (fun h => ?_) (fun h => ?_))) <;> (first | (exfalso; omega) | refine T_nv ?_)) | (refine T_pure rfl rfl ?_; ((first | refine pw_mv ?_ | refine pw_as ?_)); refine T_nv ?_))
    refine T_weaken (.blk br [.slice A xs.length c, .int .i64 (a' : Int)] 104 :: .blk bt zs' T' :: H) R2 (fun w hs => hs.weaken (List.Sublist.refl _) (fun p hp => List.Mem.tail _ hp)) ?_
    refine T_rd rfl rfl (number_r br A c xs hx) (Nat.zero_le _) ha' hmx (fun n a2 y2 hn h1 h2 hI => ?_) (fun e he => ?_)
    rotate_left
    · skip
      repeat' (first | (apply En_then_panic) | (apply En_block_panic))
      refine En_panicked (fin_P H R (fun w hs => hs.weaken sbp hR2) (hp e ?_))
      rw [← HL.out, intoD, he]
    refine T_nv ?_
    refine T_rp (R' := R2) rfl ?_
    repeat' ((refine T_pure rfl rfl ?_; ((refine pw_nilCheck rfl ?_)); refine T_nv ?_))
    refine T_gen rfl rfl ?_
    refine gw_store (i := 1) (sz := 1) rfl rfl rfl (vs := [.int .i64 n]) rfl (by omega) (by simp [Value.oneCell']) ?_
    rw [overlay_set hoz]
    refine T_nv ?_
    refine T_hq ?_
    repeat' (first | (apply TC_region) | (apply T_nil) | (apply En_then) | (apply En_block) | (apply T_bin; exact rfl; ((refine pw_add64 rfl rfl (by omega) (by omega) ?_)); refine T_nv ?_) | (refine T_pure rfl rfl ?_; ((refine pw_mv ?_)); refine T_nv ?_))
    refine En_backS (m - 1) _ R2 (by omega) sjp ⟨i + 1, a2, zs'.set oi (.int .i64 n), by omega, rfl, hR2, rfl, by omega, h2, by simpa using hzl, ?_⟩ (fun w hs => hs)
    rw [← HL.out]
    conv => rhs; rw [intoD, hn]
  · have e : os.drop i = [] := List.drop_of_length_le (by omega)
    rw [e] at hle
    repeat' (first | (apply TC_seq) | (apply TC_region) | (apply TC_exit) | (apply TC_cond_false; exact rfl) | (apply T_nil) | (apply En_then) | (apply En_then_exit) | (apply En_block_exit) | (apply T_bin; exact rfl; ((refine pw_lss rfl rfl (fun h => ?_) (fun h => ?_))) <;> (first | (exfalso; omega) | refine T_nv ?_)))
    refine En_fin (.inr rfl) (res0 rfl) (fin_R _ R (fun w hs => hs.weaken sbp hR2) (hk zs' a' hle.symm haa ha'))
section
variable {F : Fence} {n : Nat} {w0 : World} {D : List Deferred} {ops : Array Oper} {Q : Exit → Act → World → Prop} {rest : List Oper} {E : List Value} {H : List Hp} {R : List MP}
/-- A block of places on top, and numbers read into them. -/
theorem T_into [Wd F] (os : List Nat) {dst : Option Tmp} {l : List Operand} {at_ : Array TypeId} {ty : TypeId} {pos : String} {aft : Array Edge} {g : Option (Nat × Bool)} {br bp bt : Nat} {A : Option Addr} {c : Nat} {xs : List UInt8} {a m : Nat} {zs ps : List Value} {Te T' : TypeId}
    (hw : Region.wanted ⟨dst, .call ⟨.value (.func 80), l.toArray, at_⟩, ty, pos, aft, g⟩ (yielded ops E.toArray) = true) (hA : l.map (ev E) = [.pointer (some ⟨br, 0, none⟩), .slice (some ⟨bp, 0, none⟩) m m]) (hmo : m = os.length) (hps : ps = ptsV bt os) (hos : os.length ≤ 100) (hx : xs.length ≤ 250000) (hax : a ≤ xs.length) (hm : Sl (.slice A xs.length c) xs ∈ R) (hz : ∀ o ∈ os, o < zs.length)
    (hk : ∀ zs' a', intoD xs zs os a = .ok (zs', a') → a ≤ a' → a' ≤ xs.length → T F n Try.prog w0 D ops Q rest (setD E dst (.tuple #[])) (.blk br [.slice A xs.length c, .int .i64 (a' : Int)] 104 :: .blk bt zs' T' :: H) R)
    (hp : ∀ e : Nat, intoD xs zs os a = .error e → En w0 D Q (.panic (rf e)) E H R) : T F n Try.prog w0 D ops Q (⟨dst, .call ⟨.value (.func 80), l.toArray, at_⟩, ty, pos, aft, g⟩ :: rest) E (.blk bp ps Te :: .blk br [.slice A xs.length c, .int .i64 (a : Int)] 104 :: .blk bt zs T' :: H) R := by
  subst hmo hps
  refine T_weaken (.blk br [.slice A xs.length c, .int .i64 (a : Int)] 104 :: .blk bt zs T' :: H) (Sl (.slice (some ⟨bp, 0, none⟩) os.length os.length) (pts bt os) :: R) (fun w hs => ?_) ?_
  · exact ((hs.learn (Cx (ptsV bt os) (pts bt os)) (fun s _ => Cx_pts bt os s)).blk_stays (i := 0) (b := bp) (T := Te) (cs := ptsV bt os) (n := os.length) (c := os.length) (sp := []) (by simp) List.mem_cons_self (by simp [pts]) (Nat.le_refl _) (by simp only [maxL]; omega)).weaken (List.Sublist.refl _) (sub_cons List.mem_cons_self (fun p hp => List.mem_cons_of_mem _ (List.mem_cons_of_mem _ hp)))
  · refine T_ow hw (ow_callfP (KP := fun ch H' R' => ∃ e : Nat, ch = rf e ∧ H' = H ∧ R' = Sl (.slice (some ⟨bp, 0, none⟩) os.length os.length) (pts bt os) :: R ∧ intoD xs zs os a = .error e) hA (into_r br A c xs hx bp bt os.length T' os hos H _ _ _ a zs hax (List.mem_cons_of_mem _ hm) List.mem_cons_self hz (fun zs' a' h1 h2 h3 => ?_) (fun e he => ⟨e, rfl, rfl, rfl, he⟩)) ?_)
    · exact T_weaken _ R (fun w hs => hs.weaken (List.Sublist.refl _) (fun p hp => List.mem_cons_of_mem _ hp)) (hk zs' a' h1 h2 h3)
    · rintro ch H' R' ⟨e, rfl, rfl, rfl, he⟩
      exact En_weaken H' R (fun w hs => hs.weaken (List.Sublist.refl _) (fun p hp => List.mem_cons_of_mem _ hp)) (hp e he)
end
end Go.Proofs.Ytggdljhmbckpmaa
