/- Appending what stays to an owned row. What is owned is made to stay, where the order is drawn. The law's helpers: sameBytes, sameDrive: walks. The law's helpers: sameRecords, same: walks. -/
import Derived.Test.YtggdljhmbckpmaaA17J
import Derived.Laws.Small
import Derived.Test.YtggdljhmbckpmaaA13J
import Derived.Test.YtggdljhmbckpmaaF6
import Derived.Test.YtggdljhmbckpmaaA16J
import Derived.Test.YtggdljhmbckpmaaF14
import Derived.Laws.StructEq
set_option linter.unusedVariables false
set_option linter.unusedSimpArgs false
namespace Go.Proofs.Ytggdljhmbckpmaa
open Go Go.RowKit
attribute [local semireducible] T TC En PW GW OW CallsK CallsP Sl Rd Ls At S

theorem cut4 {α β γ δ : Type} {G : α → β → γ → δ → Prop} {p : Prop} (h : (∀ a b c d, G a b c d) → p) (k : ∀ a b c d, G a b c d) : p := h k
theorem cut5 {α β γ δ ε : Type} {G : α → β → γ → δ → ε → Prop} {p : Prop} (h : (∀ a b c d e, G a b c d e) → p) (k : ∀ a b c d e, G a b c d e) : p := h k
theorem ls_cells {α : Type} [Rep α] {s : Sto} {b o : Nat} {xs : List α} (h : (Ls b o xs).p s) : ∀ k, k ≤ xs.length → ∃ news : List Value, (Cx news (xs.take k)).p s ∧ (At b o news).p s
  | 0, _ => ⟨[], by simpa using Cx_nil s, fun j v hj => by simp at hj⟩
  | k + 1, hk => by
    obtain ⟨news, h1, h2⟩ := ls_cells h k (by omega)
    obtain ⟨cs, h3, h4⟩ := h k xs[k] (List.getElem?_eq_getElem (by omega))
    refine ⟨news ++ cs, ?_, fun j v hj => ?_⟩
    · rw [List.take_succ_eq_append_getElem (by omega)]
      exact Cx_snoc h1 h3
    · have hl : news.length = k * Rep.size α := by
        have := h1.1
        rw [List.length_take, Nat.min_eq_left (by omega)] at this
        exact this
      by_cases hj' : j < news.length
      · rw [List.getElem?_append_left hj'] at hj
        exact h2 j v hj
      · rw [List.getElem?_append_right (by omega)] at hj
        have := h4 _ v hj
        rw [show o + k * Rep.size α + (j - news.length) = o + j by omega] at this
        exact this
theorem Cx_append {α : Type} [Rep α] {s : Sto} {cs : List Value} {xs : List α} (h : (Cx cs xs).p s) {ds : List Value} : ∀ {ys : List α}, (Cx ds ys).p s → (Cx (cs ++ ds) (xs ++ ys)).p s := fun {ys} h' => by
  obtain ⟨h1, h2⟩ := h
  obtain ⟨h3, h4⟩ := h'
  refine ⟨by simp [h1, h3, Nat.add_mul], fun j x hj => ?_⟩
  by_cases hjl : j < xs.length
  · rw [List.getElem?_append_left hjl] at hj
    have := h2 j x hj
    have hle : (j + 1) * Rep.size α ≤ cs.length := by rw [h1]; exact Nat.mul_le_mul_right _ hjl
    rw [Nat.add_mul] at hle
    rw [List.drop_append_of_le_length (by omega), List.take_append_of_le_length (by simp; omega)]
    exact this
  · rw [List.getElem?_append_right (by omega)] at hj
    have := h4 _ x hj
    have e : j * Rep.size α = cs.length + (j - xs.length) * Rep.size α := by
      rw [h1, ← Nat.add_mul]; congr 1; omega
    rw [e, List.drop_append, List.drop_of_length_le (by omega), Nat.add_sub_cancel_left, List.nil_append]
    exact this
section
variable {P : Program} {w0 : World} {E : List Value} {H : List Hp} {R : List MP} {ty : TypeId} {K : Value → List Hp → List MP → Prop}
theorem S.opened {α : Type} [Rep α] {w : World} (hs : S w0 w H R) {A : Option Addr} {m c : Nat} {xs : List α} (hm : Sl (.slice A m c) xs ∈ R) :
    m = xs.length ∧ ∃ news b o, S w0 w H (Cx news xs :: At b o news :: R) ∧ (0 < m → A = some ⟨b, o, none⟩) ∧ news.length = m * Rep.size α ∧ ∀ u ∈ news, u.oneCell' = true := by
  obtain ⟨s, h⟩ := hs
  obtain ⟨A', c', e1, h2, h3⟩ := h.rd _ hm
  injection e1 with e1 e5 e6
  subst e1; subst e5; subst e6
  refine ⟨rfl, ?_⟩
  have one : ∀ news : List Value, (Cx news xs).p s → news.length = xs.length * Rep.size α ∧ ∀ u ∈ news, u.oneCell' = true := by
    rintro news ⟨h4, h5⟩
    refine ⟨h4, fun u hu => ?_⟩
    obtain ⟨j, hj⟩ := List.mem_iff_getElem?.1 hu
    have hjl := (List.getElem?_eq_some_iff.1 hj).1
    have hsz : 0 < Rep.size α := by
      rcases Nat.eq_zero_or_pos (Rep.size α) with h0 | h0
      · rw [h4, h0] at hjl; omega
      · exact h0
    have hq : j / Rep.size α < xs.length := by rw [h4] at hjl; exact (Nat.div_lt_iff_lt_mul hsz).2 hjl
    have h6 := h5 _ _ (List.getElem?_eq_getElem hq)
    refine Rep.one h6 u (List.mem_iff_getElem?.2 ⟨j % Rep.size α, ?_⟩)
    rw [List.getElem?_take, if_pos (Nat.mod_lt _ hsz), List.getElem?_drop]
    have := Nat.div_add_mod' j (Rep.size α)
    rw [this]; exact hj
  rcases Nat.eq_zero_or_pos xs.length with h0 | h0
  · have : xs = [] := List.eq_nil_of_length_eq_zero h0
    subst this
    refine ⟨[], 0, 0, ⟨s, h.more (fun p hp => ?_)⟩, fun h => by simp at h, by simp, by simp⟩
    simp only [List.mem_cons] at hp
    rcases hp with rfl | rfl | hp
    · exact Cx_nil s
    · exact fun j v hj => by simp at hj
    · exact h.rd p hp
  · obtain ⟨b, o, rfl, hl⟩ := h3 h0
    obtain ⟨news, h4, h5⟩ := ls_cells hl xs.length (Nat.le_refl _)
    rw [List.take_length] at h4
    obtain ⟨o1, o2⟩ := one news h4
    refine ⟨news, b, o, ⟨s, h.more (fun p hp => ?_)⟩, fun _ => rfl, o1, o2⟩
    simp only [List.mem_cons] at hp
    rcases hp with rfl | rfl | hp
    · exact h4
    · exact h5
    · exact h.rd p hp
/-- append of what stays to an owned row. -/
theorem gw_append_slx {α : Type} [Rep α] {t e : TypeId} {s x : Operand} (i : Nat) {n c m sz by_ : Nat} {zs cs : List Value} {v : Value} {A : Option Addr} {xs : List α} [h : TyL P t e sz by_ zs] (hs : ev E s = v) (hx : ev E x = .slice A m c) (hm : Sl (.slice A m c) xs ∈ R) (hsz : Rep.size α = sz) (h0 : 0 < sz) (hi : H[i]? = some (.row v e sz n cs))
    (hby : (n + m) * by_ ≤ 140737488355328) (hnm : n + m ≤ 140737488355328)
    (kk : ∀ v' news, K v' (H.set i (.row v' e sz (n + m) (cs ++ news))) (Cx news xs :: R)) : GW P w0 E (.call ⟨.builtin .append, #[s, x], #[t, t]⟩) ty H R K := fun w hw => by
  obtain ⟨hml, news, b, o, hw2, hA, hl, h1⟩ := hw.opened hm
  subst hsz
  obtain ⟨v', w', H', R', r1, r2, rfl, r3⟩ := gw_append_core (P := P) (t := t) (s := s) (x := x) (w0 := w0) (E := E) (ty := ty) (h := h) (K := fun v' H' R' => R' = Cx news xs :: At b o news :: R ∧ H' = H.set i (.row v' e (Rep.size α) (n + m) (cs ++ news))) (R := Cx news xs :: At b o news :: R) hs hx hi h0 hl (fun w hw h0 => by
    refine ⟨_, hA h0, fun j u hj => ?_⟩
    rw [Addr.add_mk]
    exact hw.at_cell (by simp) j u hj) h1 hby hnm (fun v' => ⟨rfl, rfl⟩) w hw2
  subst r3
  exact ⟨v', w', _, _, r1, r2.weaken (List.Sublist.refl _) (fun p hp => by
    rcases List.mem_cons.1 hp with rfl | hp
    · simp
    · simp [hp]), kk v' news⟩
/-- An empty literal: an owned row. -/
theorem gw_build0 {t e : TypeId} {parts : Array (Nat × Operand)} {sz by_ : Nat} {zs : List Value} [h : TyL P t e sz by_ zs] (hp : parts = #[]) (h0 : 0 < sz) (kk : ∀ b, K (.slice (some ⟨b, 0, none⟩) 0 0) (.row (.slice (some ⟨b, 0, none⟩) 0 0) e sz 0 [] :: H) R) : GW P w0 E (.buildSlice t 0 parts) ty H R K := fun w hw => by
  subst hp
  obtain ⟨v', w', H', R', r1, r2, b, rfl, rfl, rfl⟩ := gw_buildSlice (P := P) (t := t) (w0 := w0) (E := E) (ty := ty) (H := H) (R := R) (n := 0) (parts := #[]) (h := h) (K := fun v H' R' => ∃ b, v = .slice (some ⟨b, 0, none⟩) 0 0 ∧ H' = .blk b [] e :: H ∧ R' = R) (by simp) (cs := []) rfl rfl (fun b => ⟨b, rfl, rfl, rfl⟩) w hw
  exact ⟨_, w', _, _, r1, r2.torow (i := 0) (cs := []) (sp := []) (n := 0) (cap := 0) (size := sz) rfl (by simp) (by simp) (by omega) (by decide), kk b⟩
end
section
variable {P : Program} {w0 : World} {E : List Value} {H : List Hp} {R : List MP} {ty : TypeId} {K : Value → List MP → Prop}
theorem pw_max2 {ts : Array TypeId} {x y : Operand} {p q : Int} (hx : ev E x = .int .i64 p) (hy : ev E y = .int .i64 q) (kk : K (.int .i64 (if q > p then q else p)) R) : PW P w0 E (.call ⟨.builtin .max, #[x, y], ts⟩) ty H R K :=
  fun w s hs => ⟨_, R, fun w' _ => by
    simp only [xop, execOp, resolve, invoke, builtin, List.map_toArray, List.map_cons, List.map_nil, hx, hy, Sem.run_bind, Sem.run_pure, Result.andThen_ok, run_max_int2], fun _ h => h, hs.rd, kk⟩
end
end Go.Proofs.Ytggdljhmbckpmaa
namespace Go.Proofs.Ytggdljhmbckpmaa
open Go Go.RowKit
attribute [local semireducible] T TA TC En PW GW OW CallsK CallsP Sl Rd Ls At S
section
variable {F : Fence} {n : Nat} {P : Program} {w0 : World} {D : List Deferred} {ops : Array Oper} {Q : Exit → Act → World → Prop} {rest : List Oper} {E : List Value} {H : List Hp} {R : List MP}
theorem TA_staysx {α : Type} [Rep α] {Hc : List Hp} {Rc : List MP} {kk : Nat} {listed : Array Bool} (i : Nat) {v : Value} {T' : TypeId} {sz m : Nat} {cs : List Value} {xs : List α} (hi : H[i]? = some (.row v T' sz m cs)) (hsz : Rep.size α = sz) (h0 : 0 < sz) (hx : Cx cs xs ∈ R) (k : ∀ A c, v = .slice A xs.length c → TA F n P w0 D ops Q Hc Rc kk listed E (H.eraseIdx i) (Sl (.slice A xs.length c) xs :: R)) : TA F n P w0 D ops Q Hc Rc kk listed E H R := fun hreg w hs => by
  obtain ⟨A, c, e, h⟩ := hs.stays hi hsz h0 hx
  exact TW_any _ _ _ _ _ _ _ w (k A c e hreg w h)
/-- The only one that may come up is not wanted. -/
theorem TA_os (i : Nat) {dst : Option Tmp} {op : Op} {ty : TypeId} {pos : String} {aft : Array Edge} {g : Option (Nat × Bool)} {Hc : List Hp} {Rc : List MP} {k : Nat} {listed listed' : Array Bool} {E' : List Value} (h : TA F n P w0 D ops Q Hc Rc k listed' E' H R)
    (hi : ops[i]? = some ⟨dst, op, ty, pos, aft, g⟩ := by exact rfl) (hl : listed.setIfInBounds i true = listed' := by simp only [List.setIfInBounds_toArray, List.set_cons_succ, List.set_cons_zero]; rfl) (hr : Region.ready .any ops listed = [i] := by decide +kernel)
    (hw : wnt ops ⟨dst, op, ty, pos, aft, g⟩ E = false := by exact rfl) (he : setD E dst undef = E' := by simp only [setD, List.set_cons_succ, List.set_cons_zero]; rfl) : TA F n P w0 D ops Q Hc Rc (k + 1) listed E H R := TA_oneskip i hr hi hl hw (TA_env he h)
theorem S.str_stay {w : World} {b : Nat} {T' : TypeId} {xs : List UInt8} (hl : xs.length ≤ 140737488355328) (hs : S w0 w (.blk b [.string (strV xs)] T' :: H) R) : S w0 w H (Sl (.slice (some ⟨b, 0, none⟩) 1 1) ([strV xs] : List ByteArray) :: R) := by
  have hsz : (strV xs).size = xs.length := rfl
  exact ((hs.learn (Cx [.string (strV xs)] ([strV xs] : List ByteArray)) (fun s _ => Cx_one ⟨rfl, by rw [hsz]; simp only [maxL]; omega⟩)).blk_stays (i := 0) (b := b) (T := T') (cs := [.string (strV xs)]) (n := 1) (c := 1) (sp := []) rfl List.mem_cons_self rfl (Nat.le_refl _) (by decide)).weaken (List.Sublist.refl _) (sub_cons List.mem_cons_self (fun p hp => List.mem_cons_of_mem _ (List.mem_cons_of_mem _ hp)))
end
end Go.Proofs.Ytggdljhmbckpmaa
namespace Go.Proofs.Ytggdljhmbckpmaa
open Go Go.RowKit
set_option maxRecDepth 100000
set_option maxHeartbeats 1600000

theorem strV_toList (xs : List UInt8) : (strV xs).toList = xs := ByteArray.toList_mk xs
section
variable {P : Program} {w0 : World} {E : List Value} {H : List Hp} {R : List MP} {ty : TypeId} {K : Value → List MP → Prop}
theorem pw_eqs {t t' : TypeId} {x y : Operand} {xs ys : List UInt8} (hx : ev E x = .string (strV xs)) (hy : ev E y = .string (strV ys)) (kk : K (.bool (decide (xs = ys))) R) : PW P w0 E (.binOp .eql t x y t') ty H R K :=
  pw_val rfl (fun w _ => by
    have hg : (eqGuard .eql t x y (.string (strV xs)) (.string (strV ys))).run P w = .ok () w := by cases x <;> cases y <;> rfl
    rw [hx, hy]
    simp only [Sem.run_bind, hg, Result.andThen_ok, binOp_string_eql, strV_toList, Sem.run_pure]
    have e : (xs == ys) = decide (xs = ys) := Bool.eq_iff_iff.2 (by simp)
    rw [e]) kk
end
theorem sameBytes_k {w0 : World} {H : List Hp} {R : List MP} {K : Value → List Hp → List MP → Prop} (A : Option Addr) (m c : Nat) (A2 : Option Addr) (m2 c2 : Nat) (xs ys : List UInt8) (h1 : Sl (.slice A m c) xs ∈ R) (h2 : Sl (.slice A2 m2 c2) ys ∈ R)
    (k : K (.bool (decide (xs = ys))) H R) : CallsK Try.prog w0 14 #[.slice A m c, .slice A2 m2 c2] H R K := by
  refine calls_of Try.func14 rfl Try.ntmps14 nep ?_
  repeat' (first | (refine T_pure rfl rfl ?_; refine pw_str (xs := xs) rfl h1 ?_; refine T_nv ?_) | (refine T_pure rfl rfl ?_; refine pw_str (xs := ys) rfl h2 ?_; refine T_nv ?_) | (apply T_bin; exact rfl; refine pw_eqs rfl rfl ?_; refine T_nv ?_) | (apply TC_seq) | (apply TC_region) | (apply TC_ret) | (apply T_nil) | (apply En_then) | (refine T_pure rfl rfl ?_; ((first | refine pw_mv ?_ | refine pw_as ?_)); refine T_nv ?_))
  exact En_fin (.inl rfl) (res1 rfl (rv_tmp rfl)) (fin_K H R (fun _ h => h) k)
theorem sameBytes_k2 {w0 : World} {H : List Hp} {R : List MP} {K : Value → List Hp → List MP → Prop} (A : Option Addr) (m c : Nat) (A2 : Option Addr) (m2 c2 : Nat) (xs ys : List UInt8) (h1 : Sl (.slice A m c) xs ∈ R) (h2 : Sl (.slice A2 m2 c2) ys ∈ R)
    (kt : xs = ys → K (.bool true) H R) (kf : xs ≠ ys → K (.bool false) H R) : CallsK Try.prog w0 14 #[.slice A m c, .slice A2 m2 c2] H R K := by
  refine sameBytes_k A m c A2 m2 c2 xs ys h1 h2 ?_
  by_cases h : xs = ys
  · rw [decide_eq_true h]; exact kt h
  · rw [decide_eq_false h]; exact kf h
/-- The drives are equal: it says so. -/
theorem sameDrive_k {w0 : World} {H : List Hp} {R : List MP} {K : Value → List Hp → List MP → Prop} (A : Option Addr) (c : Nat) (A2 : Option Addr) (c2 : Nat) (B : Option Addr) (e : Nat) (B2 : Option Addr) (e2 : Nat) (d : Drive) (hp : d.pending.length ≤ 9223372036854775806)
    (hm1 : Sl (.slice A d.bytes.length c) d.bytes ∈ R) (hm2 : Sl (.slice A2 d.pending.length c2) d.pending ∈ R) (hm3 : Sl (.slice B d.bytes.length e) d.bytes ∈ R) (hm4 : Sl (.slice B2 d.pending.length e2) d.pending ∈ R)
    (k : K (.bool true) H R) : CallsK Try.prog w0 29 #[dv A c A2 c2 d, dv B e B2 e2 d] H R K := by
  refine calls_of Try.func29 rfl Try.ntmps29 nep ?_
  repeat' (first | (refine T_ow rfl ?_; refine ow_callf arp ?_; refine sameBytes_k2 _ _ _ _ _ _ d.bytes d.bytes hm1 hm3 (fun _ => ?_) (fun h => absurd rfl h); refine T_nv ?_) | (apply TC_seq) | (apply TC_region) | (apply TC_block) | (apply TC_skip) | (apply TC_cond_false; exact rfl) | (apply T_nil) | (apply En_then) | (apply T_load; exact rfl; ((first | refine pw_load (i := 0) rfl rfl rfl ?_ | refine pw_load (i := 1) rfl rfl rfl ?_)); refine T_nv ?_) | (apply T_bin; exact rfl; ((refine pw_neq rfl rfl (fun h => ?_) (fun h => ?_))) <;> (first | (exfalso; omega) | refine T_nv ?_)) | (refine T_pure rfl rfl ?_; ((first | refine pw_mv ?_ | refine pw_as ?_ | refine pw_pick_f rfl evp ?_ | refine pw_fieldAddr rfl ?_ | refine pw_len rfl ?_ | refine pw_not rfl ?_)); refine T_nv ?_) | (refine T_gen rfl rfl ?_; ((refine gw_box clp (fun b => ?_))); refine T_nv ?_))
  rename_i b1 hh
  clear hh
  refine TC_loopS [4, 5, 21, 22, 23, 24, 25, 26, 27, 28, 29, 30, 31, 32, 33, 34, 35, 36, 37, 38, 39, 40, 41, 42, 43, 44, 45, 46, 47, 48, 49, 50, 51, 52, 53, 54, 55, 56] (fun m j H' R' => .blk b [.slice B d.bytes.length e, .slice B2 d.pending.length e2] 45 :: .blk b1 [.slice A d.bytes.length c, .slice A2 d.pending.length c2] 45 :: H = H' ∧ R = R' ∧ ∃ i : Nat, i + m = d.pending.length ∧ j 5 = .int .i64 (i : Int)) d.pending.length sjp ⟨rfl, rfl, 0, by omega, rfl⟩ ?_
  rintro m j H' R' ⟨hH, hR, i, hi, h5⟩
  subst hH; subst hR
  refine TC_env (by simp only [setJ, List.foldl_cons, List.foldl_nil, List.set_cons_succ, List.set_cons_zero, h5]; rfl) ?_
  repeat' (first | (apply TC_seq) | (apply TC_region) | (apply TC_block) | (apply TC_ret) | (apply TC_skip) | (apply TC_exit) | (apply TC_cond_true; exact rfl) | (apply TC_cond_false; exact rfl) | (apply T_nil) | (apply En_then) | (apply En_then_exit) | (apply En_block_exit) | (apply T_load; exact rfl; ((refine pw_load (i := 1) rfl rfl rfl ?_)); refine T_nv ?_) | (apply T_bin; exact rfl; ((refine pw_lss rfl rfl (fun h => ?_) (fun h => ?_))) <;> (refine T_nv ?_)) | (refine T_pure rfl rfl ?_; ((first | refine pw_mv ?_ | refine pw_as ?_ | refine pw_fieldAddr rfl ?_ | refine pw_len rfl ?_)); refine T_nv ?_))
  · skip
    refine TC_draw mixed (by decide +kernel) (fun _ _ _ _ _ _ h => h) (List.Sublist.refl _) ?_
    all_goals ((refine TA_p 0 ?_; ((refine pw_fieldAddr rfl ?_)); refine TA_nv ?_))
    all_goals ((refine TA_p 1 ?_; ((refine pw_load (i := 1) rfl rfl rfl ?_)); refine TA_nv ?_))
    all_goals ((refine TA_p 2 ?_; ((refine pw_mv ?_)); refine TA_nv ?_))
    all_goals ((refine TA_p 3 ?_; ((refine pw_index_wN evp rfl memt (List.getElem?_eq_getElem (by omega)) (fun b o A c hI hL => ?_))); refine TA_nv ?_))
    all_goals ((refine TA_p 4 ?_; ((refine pw_fieldAddr rfl ?_)); refine TA_nv ?_))
    all_goals ((refine TA_p 5 ?_; ((refine pw_load_at rfl memr rfl ?_)); refine TA_nv ?_))
    all_goals ((refine TA_p 6 ?_; ((refine pw_fieldAddr rfl ?_)); refine TA_nv ?_))
    all_goals ((refine TA_p 7 ?_; ((refine pw_load (i := 0) rfl rfl rfl ?_)); refine TA_nv ?_))
    all_goals ((refine TA_p 8 ?_; ((refine pw_mv ?_)); refine TA_nv ?_))
    all_goals ((refine TA_p 9 ?_; ((refine pw_index_wN evp rfl memt (List.getElem?_eq_getElem (by omega)) (fun b o A c hI hL => ?_))); refine TA_nv ?_))
    all_goals ((refine TA_p 10 ?_; ((refine pw_fieldAddr rfl ?_)); refine TA_nv ?_))
    all_goals ((refine TA_p 11 ?_; ((refine pw_load_at rfl memr rfl ?_)); refine TA_nv ?_))
    all_goals ((refine TA_p 12 ?_; ((refine pw_neq rfl rfl (fun h => ?_) (fun h => ?_))) <;> (first | (exfalso; omega) | refine TA_nv ?_)))
    all_goals ((refine TA_p 13 ?_; ((refine pw_mv ?_)); refine TA_nv ?_))
    all_goals ((refine TA_p 14 ?_; ((refine pw_fieldAddr rfl ?_)); refine TA_nv ?_))
    all_goals ((refine TA_p 15 ?_; ((refine pw_load (i := 1) rfl rfl rfl ?_)); refine TA_nv ?_))
    all_goals ((refine TA_p 16 ?_; ((refine pw_mv ?_)); refine TA_nv ?_))
    all_goals ((refine TA_p 17 ?_; ((refine pw_index_wN evp rfl memt (List.getElem?_eq_getElem (by omega)) (fun b o A c hI hL => ?_))); refine TA_nv ?_))
    all_goals ((refine TA_p 18 ?_; ((refine pw_fieldAddr rfl ?_)); refine TA_nv ?_))
    all_goals ((refine TA_p 19 ?_; ((refine pw_load_at rfl memr rfl ?_)); refine TA_nv ?_))
    all_goals ((refine TA_p 20 ?_; ((refine pw_fieldAddr rfl ?_)); refine TA_nv ?_))
    all_goals ((refine TA_p 21 ?_; ((refine pw_load (i := 0) rfl rfl rfl ?_)); refine TA_nv ?_))
    all_goals ((refine TA_p 22 ?_; ((refine pw_mv ?_)); refine TA_nv ?_))
    all_goals ((refine TA_p 23 ?_; ((refine pw_index_wN evp rfl memt (List.getElem?_eq_getElem (by omega)) (fun b o A c hI hL => ?_))); refine TA_nv ?_))
    all_goals ((refine TA_p 24 ?_; ((refine pw_fieldAddr rfl ?_)); refine TA_nv ?_))
    all_goals ((refine TA_p 25 ?_; ((refine pw_load_at rfl memr rfl ?_)); refine TA_nv ?_))
    -- left: [26, 27, 28]; ready: [26]: ['call']
    refine TA_o 26 ?_
    refine ow_callf arp ?_; refine sameBytes_k2 _ _ _ _ _ _ d.pending[i].data d.pending[i].data memt memt (fun _ => ?_) (fun h => absurd rfl h)
    refine ⟨.inl (fun w hs => hs.weaken sbp kpp), ?_⟩; refine TA_nv ?_
    all_goals ((refine TA_p 27 ?_; ((refine pw_not rfl ?_)); refine TA_nv ?_))
    all_goals ((refine TA_p 28 ?_; ((refine pw_pick_f rfl evp ?_)); refine TA_nv ?_))
    all_goals refine TA_d ?_
    repeat' (first | (apply TC_region) | (apply TC_skip) | (apply TC_cond_false; exact rfl) | (apply T_nil) | (apply En_then) | (apply En_block) | (apply T_bin; exact rfl; ((refine pw_add64 rfl rfl (by omega) (by omega) ?_)); refine T_nv ?_) | (refine T_pure rfl rfl ?_; ((first | refine pw_mv ?_ | refine pw_as ?_)); refine T_nv ?_))
    refine En_backS (m - 1) _ R (by omega) sjp ⟨rfl, rfl, i + 1, by omega, rfl⟩ (fun w hs => hs.weaken sbp kpp)
  · exact En_fin (.inl rfl) (res1 rfl (rv_tmp rfl)) (fin_K H R (fun w hs => hs.weaken sbp kpp) k)
end Go.Proofs.Ytggdljhmbckpmaa
namespace Go.Proofs.Ytggdljhmbckpmaa
open Go Go.RowKit
set_option maxRecDepth 100000
set_option maxHeartbeats 1600000

section
variable {w0 : World} {E : List Value} {H : List Hp} {R : List MP} {ty : TypeId} {K : Value → List MP → Prop}
theorem fields50 : (Try.prog.fieldsOf 50).toList.map (fun f => (decide (f.name = "_"), f.type, f.offset)) = [(false, 3, 0), (false, 3, 1), (false, 3, 2), (false, 3, 3)] := by kernel_rfl
theorem eqFields_ints (d : Nat) (xs ys : Array Value) : ∀ (fs : List Field) (l : List (Nat × Int)), fs.map (fun f => (decide (f.name = "_"), f.type, f.offset)) = l.map (fun p => (false, 3, p.1)) → (∀ p ∈ l, xs[p.1]? = some (.int .i64 p.2) ∧ ys[p.1]? = some (.int .i64 p.2)) → ∀ w : World, (Op.eqFields (d + 1) xs ys fs).run Try.prog w = .ok true w
  | [], [], _, _, w => by simp [Op.eqFields]
  | [], p :: l, h, _, w => by simp at h
  | f :: fs, [], h, _, w => by simp at h
  | f :: fs, p :: l, h, hp, w => by
    simp only [List.map_cons, List.cons.injEq, Prod.mk.injEq, decide_eq_false_iff_not] at h
    obtain ⟨⟨h1, h2, h3⟩, h4⟩ := h
    obtain ⟨h5, h6⟩ := hp p (by simp)
    have ih := eqFields_ints d xs ys fs l h4 (fun q hq => hp q (by simp [hq])) w
    have hpart : ∀ (zs : Array Value) (v : Value), zs[p.1]? = some v → (part f.type zs f.offset).run Try.prog w = .ok v w := fun zs v hv => by
      rw [h2, h3]
      simp [part, (ty3).agg, hv]
    unfold Op.eqFields
    rw [if_pos h1]
    simp only [Sem.run_bind, hpart _ _ h5, hpart _ _ h6, Result.andThen_ok]
    rw [h2, run_equalIn_int w d 3 .i64 .i64 p.2 p.2 (tu3).und]
    simp [ih]
theorem pw_neqR {t' : TypeId} {x y : Operand} {a b c d : Int} (hx : ev E x = .agg #[.int .i64 a, .int .i64 b, .int .i64 c, .int .i64 d]) (hy : ev E y = .agg #[.int .i64 a, .int .i64 b, .int .i64 c, .int .i64 d]) (kk : K (.bool false) R) : PW Try.prog w0 E (.binOp .neq 50 x y t') ty H R K :=
  pw_val rfl (fun w _ => by
    rw [hx, hy]
    have hg := run_eqGuard_agg (P := Try.prog) w .neq 50 x y #[.int .i64 a, .int .i64 b, .int .i64 c, .int .i64 d] #[.int .i64 a, .int .i64 b, .int .i64 c, .int .i64 d] (by kernel_rfl)
    have he := eqFields_ints 9998 #[.int .i64 a, .int .i64 b, .int .i64 c, .int .i64 d] #[.int .i64 a, .int .i64 b, .int .i64 c, .int .i64 d] _ [(0, a), (1, b), (2, c), (3, d)] fields50 (by simp) w
    have hs := run_equalIn_agg (P := Try.prog) w 9999 50 #[.int .i64 a, .int .i64 b, .int .i64 c, .int .i64 d] #[.int .i64 a, .int .i64 b, .int .i64 c, .int .i64 d] (by kernel_rfl) (by kernel_rfl)
    simp only [Sem.run_bind, hg, Result.andThen_ok, run_neq_struct, hs, he]; rfl) kk
end
section
variable {P : Program} {w0 : World} {E : List Value} {H : List Hp} {R : List MP} {ty : TypeId} {K : Value → List MP → Prop}
theorem pw_take {α : Type} [Rep α] {t e : TypeId} {x hi : Operand} {sz by_ : Nat} {zs : List Value} [ht : TyL P t e sz by_ zs] {A : Option Addr} {n c m : Nat} {xs : List α} (hx : ev E x = .slice A n c) (hm : Sl (.slice A n c) xs ∈ R) (hn : n = xs.length) (hsz : Rep.size α = sz) (hh : bnd E n (some hi) = some (m : Int)) (h2 : m ≤ xs.length)
    (kk : ∀ A' c', K (.slice A' m c') (Sl (.slice A' m c') (xs.take m) :: R)) : PW P w0 E (.slice t x none (some hi) none) ty H R K := by
  refine pw_slice_sl hx hm hn hsz rfl hh (Int.le_refl _) (by omega) (by omega) (fun A' c' => ?_)
  have e1 : (m : Int).toNat - (0 : Int).toNat = m := by simp
  have e2 : (xs.take (m : Int).toNat).drop (0 : Int).toNat = xs.take m := by simp
  rw [e1, e2]
  exact kk A' c'
/-- An element of the records that are returned. -/
theorem pw_index_rL {t e : TypeId} {x ix : Operand} {agg : Bool} {by_ : Nat} {z0 : Value} [h : TyU P t (.slice e)] [he : Ty P e agg 4 by_ z0] {v : Value} {lR : List RecD} {l : List Rc} {k : IntKind} {z : Int} (i : Nat) {r : Rc} (hx : ev E x = v) (hix : ev E ix = .int k z) (hm : Sl v lR ∈ R) (hlR : lR = l.map Rc.toR) (hr : l[i]? = some r) (hz : z = (i : Int))
    (kk : ∀ b o, K (.pointer (some ⟨b, o, none⟩)) (At b o [.int .i64 (r.at_ : Int), .int .i64 (r.epoch : Int), .int .i64 (r.seq : Int), .int .i64 (r.data.length : Int)] :: R)) : PW P w0 E (.indexAddr t x ix) ty H R K := by
  subst hz
  exact pw_index_rN (d := r.toR) hx hix hm (by rw [hlR, List.getElem?_map, hr]; rfl) (fun b o _ => kk b o)
end
theorem sameRecords_k {w0 : World} {H : List Hp} {R : List MP} {K : Value → List Hp → List MP → Prop} (A : Option Addr) (m c : Nat) (A2 : Option Addr) (m2 c2 : Nat) (xs : List RecD) (hx : xs.length ≤ 9223372036854775806) (e1 : m = xs.length) (e2 : m2 = xs.length) (h1 : Sl (.slice A m c) xs ∈ R) (h2 : Sl (.slice A2 m2 c2) xs ∈ R)
    (k : K (.bool true) H R) : CallsK Try.prog w0 18 #[.slice A m c, .slice A2 m2 c2] H R K := by
  subst e1; subst e2
  refine calls_of Try.func18 rfl Try.ntmps18 nep ?_
  repeat' (first | (apply T_bin; exact rfl; refine pw_neq rfl rfl (fun h => absurd rfl h) (fun hh => ?_); refine T_nv ?_) | (apply TC_seq) | (apply TC_region) | (apply TC_block) | (apply TC_skip) | (apply TC_cond_false; exact rfl) | (apply T_nil) | (apply En_then) | (refine T_pure rfl rfl ?_; ((first | refine pw_mv ?_ | refine pw_as ?_ | refine pw_len rfl ?_)); refine T_nv ?_))
  refine TC_loopS [4, 5, 11, 12, 13, 14, 15, 16, 17, 18, 19, 20, 21, 22, 23, 24, 25] (fun m j H' R' => H = H' ∧ R = R' ∧ ∃ i : Nat, i + m = xs.length ∧ j 5 = .int .i64 (i : Int)) xs.length sjp ⟨rfl, rfl, 0, by omega, rfl⟩ ?_
  rintro m j H' R' ⟨hH, hR, i, hi, h5⟩
  subst hH; subst hR
  refine TC_env (by simp only [setJ, List.foldl_cons, List.foldl_nil, List.set_cons_succ, List.set_cons_zero, h5]; rfl) ?_
  repeat' (first | (apply TC_seq) | (apply TC_region) | (apply TC_block) | (apply TC_ret) | (apply TC_skip) | (apply TC_exit) | (apply TC_cond_true; exact rfl) | (apply TC_cond_false; exact rfl) | (apply T_nil) | (apply En_then) | (apply En_then_exit) | (apply En_block_exit) | (apply T_bin; exact rfl; ((refine pw_lss rfl rfl (fun h => ?_) (fun h => ?_))) <;> (refine T_nv ?_)) | (refine T_pure rfl rfl ?_; ((first | refine pw_mv ?_ | refine pw_as ?_ | refine pw_len rfl ?_)); refine T_nv ?_))
  · skip
    refine TC_draw mixed (by decide +kernel) (fun _ _ _ _ _ _ h => h) (List.Sublist.refl _) ?_
    all_goals ((refine TA_p 0 ?_; ((refine pw_mv ?_)); refine TA_nv ?_))
    all_goals ((refine TA_p 1 ?_; ((refine pw_mv ?_)); refine TA_nv ?_))
    all_goals ((refine TA_p 2 ?_; ((refine pw_index_rN evp rfl memt (List.getElem?_eq_getElem (by omega)) (fun b o hI => ?_))); refine TA_nv ?_))
    all_goals ((refine TA_p 3 ?_; ((refine pw_load_at0 rfl memr rfl ?_)); refine TA_nv ?_))
    all_goals ((refine TA_p 4 ?_; ((refine pw_mv ?_)); refine TA_nv ?_))
    all_goals ((refine TA_p 5 ?_; ((refine pw_mv ?_)); refine TA_nv ?_))
    all_goals ((refine TA_p 6 ?_; ((refine pw_index_rN evp rfl memt (List.getElem?_eq_getElem (by omega)) (fun b o hI => ?_))); refine TA_nv ?_))
    all_goals ((refine TA_p 7 ?_; ((refine pw_load_at0 rfl memr rfl ?_)); refine TA_nv ?_))
    all_goals ((refine TA_p 8 ?_; ((refine pw_neqR rfl rfl ?_)); refine TA_nv ?_))
    all_goals refine TA_d ?_
    repeat' (first | (apply TC_region) | (apply TC_skip) | (apply TC_cond_false; exact rfl) | (apply T_nil) | (apply En_then) | (apply En_block) | (apply T_bin; exact rfl; ((refine pw_add64 rfl rfl (by omega) (by omega) ?_)); refine T_nv ?_) | (refine T_pure rfl rfl ?_; ((first | refine pw_mv ?_ | refine pw_as ?_)); refine T_nv ?_))
    refine En_backS (m - 1) _ R (by omega) sjp ⟨rfl, rfl, i + 1, by omega, rfl⟩ (fun w hs => hs.weaken sbp kpp)
  · skip
    repeat' (fail)
    exact En_fin (.inl rfl) (res1 rfl (rv_tmp rfl)) (fin_K H R (fun w hs => hs.weaken sbp kpp) k)
end Go.Proofs.Ytggdljhmbckpmaa
