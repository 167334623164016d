/- Encode: walk. States of the machine as data: terms, types, products of data; how they lie in cells. -/
import Derived.Test.YtggdljhmbckpmaaA16J
import Derived.Test.YtggdljhmbckpmaaF4J
import Derived.Test.YtggdljhmbckpmaaA9J
set_option linter.unusedVariables false
set_option linter.unusedSimpArgs false
namespace Go.Proofs.Ytggdljhmbckpmaa
open Go Go.RowKit
set_option maxRecDepth 100000
set_option maxHeartbeats 1600000

section
variable {P : Program} {w0 : World} {E : List Value} {H : List Hp} {R : List MP} {ty : TypeId} {K : Value → List MP → Prop}
theorem pw_index_str {t : TypeId} {x ix : Operand} {s : ByteArray} {k : IntKind} {i : Int} {c : UInt8} [h : TyU P t .string] (hx : ev E x = .string s) (hix : ev E ix = .int k i) (h0 : 0 ≤ i) (hc : s[i.toNat]? = some c) (kk : K (byteV c) R) : PW P w0 E (.index t x ix) ty H R K :=
  pw_val rfl (fun w _ => by
    rw [hx, hix]
    simp only [Instr.index, asIntOf, Sem.run_bind, Sem.run_pure, Result.andThen_ok, run_underlying h.und, if_pos h0, hc]
    rfl) kk
end
instance : TyI Try.prog 20 := ⟨by kernel_rfl⟩
def headMa : List UInt8 := [109, 97, 1]
def encR (out : List UInt8) : List UInt8 × Int := if 3 + out.length ≤ 250000 then (headMa ++ out, 0) else ([], 2)
theorem encode_k {w0 : World} {H : List Hp} {R R0 : List MP} {K : Value → List Hp → List MP → Prop} (cells : List Value) (out : List UInt8) (hst : ∀ bw, Wr Try.prog w0 R0 37 [.pointer (some ⟨bw, 0, none⟩), .agg cells.toArray] bw out) (hlen : cells.length = 16) (hsub : ∀ p ∈ R0, p ∈ R)
    (k : KB K (encR out) H R) : CallsK Try.prog w0 11 #[.agg cells.toArray] H R K := by
  refine callsM_of Try.func11 rfl Try.ntmps11 nep ?_
  apply TC_seq; apply TC_region
  repeat' ((refine T_gen rfl rfl ?_; ((first | refine gw_box clp (fun b => ?_) | refine gw_alloc clp (fun b => ?_))); refine T_nv ?_))
  apply T_nil; apply En_then; apply TC_seq; apply TC_region
  repeat' (first | (refine T_defer (cap := [_, _]) rfl ?_) | (refine T_pure rfl rfl ?_; ((refine pw_makeFuncL agp agp ?_)); refine T_nv ?_))
  apply T_nil; apply En_then; apply TC_seq; apply TC_region
  rename_i b1 b2
  revert b
  intro b3
  repeat' (first | (refine T_pure rfl rfl ?_; ((first | refine pw_as ?_ | refine pw_build bldp ?_)); refine T_nv ?_) | (refine T_gen rfl rfl ?_; ((refine gw_box clp (fun b => ?_))); refine T_nv ?_))
  apply T_nil; apply En_then
  refine TC_nilrow 5 1 ?_
  -- the deferred function, when it is too much
  have hpan : ∀ (E' : List Value) (R' : List MP), (∀ p ∈ R, p ∈ R') → E'.getD 2 undef = .pointer (some ⟨b2, 0, none⟩) → E'.getD 3 undef = .pointer (some ⟨b3, 0, none⟩) → ¬ (3 + out.length ≤ 250000) → LVm Try.prog w0 Try.f11 K (.panicking tl) [⟨.fn (.func 35) [.pointer (some ⟨b2, 0, none⟩), .pointer (some ⟨b3, 0, none⟩)].toArray, #[]⟩] E' (.blk b3 [.int .i64 0] 35 :: .blk b2 [.slice none 0 0] 33 :: .blk b1 cells 32 :: H) R' := by
    intro E' R' hR' hE2 hE3 hbig
    refine LVm_rec Try.func35 rfl rfl Try.ntmps35 rfl (by simp only [setD, List.length_cons, List.length_nil, Nat.reduceAdd, Nat.reduceSub, List.replicate_succ, List.replicate_zero, List.cons_append, List.nil_append, List.set_cons_succ, List.set_cons_zero]; rfl) ?_
    repeat' (first | (refine T_pure rfl rfl ?_; refine pw_eqnil_held rfl rfl ?_; refine T_nv ?_) | (refine T_pure rfl rfl ?_; refine pw_assert_yes rfl rfl ?_; refine T_nv ?_) | (apply TC_seq) | (apply TC_region) | (apply TC_block) | (apply TC_cond_true; exact rfl) | (apply TC_cond_false; exact rfl) | (apply T_nil) | (apply En_then) | (apply En_block) | (apply T_store; exact rfl; ((first | refine gw_store (i := 0) rfl clp rfl (by rfl) (by simp) (by simp [Value.oneCell']) ?_ | refine gw_store (i := 1) rfl clp rfl (by rfl) (by simp) (by simp [Value.oneCell']) ?_ | refine gw_store (i := 2) rfl clp rfl (by rfl) (by simp) (by simp [Value.oneCell']) ?_)); refine T_nv ?_; refine T_hq ?_) | (refine T_pure rfl rfl ?_; ((refine pw_extract rfl rfl ?_)); refine T_nv ?_) | (refine T_gen rfl rfl ?_; ((refine gw_alloc clp (fun b => ?_))); refine T_nv ?_))
    exact En_dpost (.inl rfl) (LVm_nil (res2 rfl (rv_cell (i := 2) hE2 rfl rfl) (rv_cell (i := 1) hE3 rfl rfl)) H (Sl (.slice none 0 0) ([] : List UInt8) :: R) (fun w hs => (hs.weaken sbp hR').sl_nil UInt8) (KB_eq (r' := ([], 2)) (by unfold encR; rw [if_neg hbig]) k none 0))
  have hret : ∀ (E' : List Value) (H' : List Hp) (R' : List MP) (A : Option Addr) (c : Nat), (∀ p ∈ R, p ∈ R') → H.Sublist H' → E'.getD 2 undef = .pointer (some ⟨b2, 0, none⟩) → E'.getD 3 undef = .pointer (some ⟨b3, 0, none⟩) → 3 + out.length ≤ 250000 → LVm Try.prog w0 Try.f11 K .returning [⟨.fn (.func 35) [.pointer (some ⟨b2, 0, none⟩), .pointer (some ⟨b3, 0, none⟩)].toArray, #[]⟩] E' (.blk b3 [.int .i64 0] 35 :: .blk b2 [.slice A (headMa ++ out).length c] 33 :: H') (Sl (.slice A (headMa ++ out).length c) (headMa ++ out) :: R') := by
    intro E' H' R' A c hR' hH' hE2 hE3 hbig
    refine LVm_rec Try.func35 rfl rfl Try.ntmps35 rfl (by simp only [setD, List.length_cons, List.length_nil, Nat.reduceAdd, Nat.reduceSub, List.replicate_succ, List.replicate_zero, List.cons_append, List.nil_append, List.set_cons_succ, List.set_cons_zero]; rfl) ?_
    repeat' (first | (refine T_pure rfl rfl ?_; refine pw_eqnil_nil rfl ?_; refine T_nv ?_) | (apply TC_seq) | (apply TC_region) | (apply TC_block) | (apply TC_cond_true; exact rfl) | (apply T_nil) | (apply En_then) | (apply En_block) | (refine T_pure rfl rfl ?_; ((refine pw_as ?_)); refine T_nv ?_))
    exact En_dpost (.inl rfl) (LVm_nil (res2 rfl (rv_cell (i := 1) hE2 rfl rfl) (rv_cell (i := 0) hE3 rfl rfl)) H (Sl (.slice A (headMa ++ out).length c) (headMa ++ out) :: R) (fun w hs => hs.weaken (List.Sublist.cons _ (List.Sublist.cons _ hH')) (sub_cons List.mem_cons_self (fun p hp => List.mem_cons_of_mem _ (hR' p hp)))) (KB_eq (r' := (headMa ++ out, 0)) (by unfold encR; rw [if_pos hbig]) k A c))
  repeat' (first | (apply TC_seq) | (apply TC_region) | (apply TC_block) | (apply T_nil) | (apply En_then) | (refine T_pure rfl rfl ?_; ((refine pw_mv ?_)); refine T_nv ?_))
  refine TC_unroll 4 ?_
  apply TCr_succ
  repeat' (first | (refine T_pure rfl rfl ?_; refine pw_index_str (c := 109) rfl rfl (by omega) rfl ?_; refine T_nv ?_) | (apply TC_seq) | (apply TC_region) | (apply TC_block) | (apply TC_skip) | (apply TC_cond_true; exact rfl) | (apply T_nil) | (apply En_then) | (apply T_bin; exact rfl; ((refine pw_lss rfl rfl (fun h => ?_) (fun h => ?_))) <;> (first | (exfalso; omega) | refine T_nv ?_)) | (refine T_pure rfl rfl ?_; ((first | refine pw_mv ?_ | refine pw_as ?_)); refine T_nv ?_))
  refine T_wr rfl rfl (byte_w b 109) (fun _ h => (by cases h)) (bs := []) rfl rfl (by decide) (fun _ v0 => ?_) (fun hgt => absurd hgt (by decide))
  refine T_nv ?_
  repeat' (first | (apply TC_region) | (apply T_nil) | (apply En_then) | (apply En_block) | (apply T_bin; exact rfl; ((refine pw_add64 rfl rfl (by omega) (by omega) ?_)); refine T_nv ?_) | (refine T_pure rfl rfl ?_; ((refine pw_mv ?_)); refine T_nv ?_))
  apply En_round
  apply TCr_succ
  repeat' (first | (refine T_pure rfl rfl ?_; refine pw_index_str (c := 97) rfl rfl (by omega) rfl ?_; refine T_nv ?_) | (apply TC_seq) | (apply TC_region) | (apply TC_block) | (apply TC_skip) | (apply TC_cond_true; exact rfl) | (apply T_nil) | (apply En_then) | (apply T_bin; exact rfl; ((refine pw_lss rfl rfl (fun h => ?_) (fun h => ?_))) <;> (first | (exfalso; omega) | refine T_nv ?_)) | (refine T_pure rfl rfl ?_; ((first | refine pw_mv ?_ | refine pw_as ?_)); refine T_nv ?_))
  refine T_wr rfl rfl (byte_w b 97) (fun _ h => (by cases h)) (bs := [109]) rfl rfl (by decide) (fun _ v1 => ?_) (fun hgt => absurd hgt (by decide))
  refine T_nv ?_
  repeat' (first | (apply TC_region) | (apply T_nil) | (apply En_then) | (apply En_block) | (apply T_bin; exact rfl; ((refine pw_add64 rfl rfl (by omega) (by omega) ?_)); refine T_nv ?_) | (refine T_pure rfl rfl ?_; ((refine pw_mv ?_)); refine T_nv ?_))
  apply En_round
  apply TCr_succ
  repeat' (first | (refine T_pure rfl rfl ?_; refine pw_index_str (c := 1) rfl rfl (by omega) rfl ?_; refine T_nv ?_) | (apply TC_seq) | (apply TC_region) | (apply TC_block) | (apply TC_skip) | (apply TC_cond_true; exact rfl) | (apply T_nil) | (apply En_then) | (apply T_bin; exact rfl; ((refine pw_lss rfl rfl (fun h => ?_) (fun h => ?_))) <;> (first | (exfalso; omega) | refine T_nv ?_)) | (refine T_pure rfl rfl ?_; ((first | refine pw_mv ?_ | refine pw_as ?_)); refine T_nv ?_))
  refine T_wr rfl rfl (byte_w b 1) (fun _ h => (by cases h)) (bs := [109, 97]) rfl rfl (by decide) (fun _ v2 => ?_) (fun hgt => absurd hgt (by decide))
  refine T_nv ?_
  repeat' (first | (apply TC_region) | (apply T_nil) | (apply En_then) | (apply En_block) | (apply T_bin; exact rfl; ((refine pw_add64 rfl rfl (by omega) (by omega) ?_)); refine T_nv ?_) | (refine T_pure rfl rfl ?_; ((refine pw_mv ?_)); refine T_nv ?_))
  apply En_round
  apply TCr_succ
  repeat' (first | (refine T_load rfl ?_; refine pw_load (i := 4) rfl rfl (cellsVal_all hlen) ?_; refine T_nv ?_) | (apply TC_seq) | (apply TC_region) | (apply TC_exit) | (apply TC_cond_false; exact rfl) | (apply T_nil) | (apply En_then) | (apply En_then_exit) | (apply En_block_exit) | (apply T_bin; exact rfl; ((refine pw_lss rfl rfl (fun h => ?_) (fun h => ?_))) <;> (first | (exfalso; omega) | refine T_nv ?_)) | (refine T_pure rfl rfl ?_; ((refine pw_mv ?_)); refine T_nv ?_))
  refine T_wr rfl rfl (hst b) hsub (bs := headMa) rfl rfl (by decide) (fun hle v4 => ?_) (fun hgt => ?_)
  rotate_left
  · skip
    repeat' ((apply En_then_panic))
    exact En_leave_panic (hpan _ R (fun _ h => h) rfl rfl (by simp only [headMa, List.length_cons, List.length_nil] at hgt; omega))
  refine T_nv ?_
  refine T_stays 0 rfl (fun A c hv => ?_)
  subst hv
  refine T_hq ?_
  repeat' (first | (apply TC_seq) | (apply TC_region) | (apply TC_ret) | (apply T_nil) | (apply En_then) | (apply T_load; exact rfl; ((refine pw_load (i := 0) rfl rfl rfl ?_)); refine T_nv ?_) | (apply T_store; exact rfl; ((first | refine gw_store (i := 1) rfl clp rfl (by rfl) (by simp) (by simp [Value.oneCell']) ?_ | refine gw_store (i := 2) rfl clp rfl (by rfl) (by simp) (by simp [Value.oneCell']) ?_)); refine T_nv ?_; refine T_hq ?_) | (refine T_pure rfl rfl ?_; ((first | refine pw_mv ?_ | refine pw_nilCheck rfl ?_ | refine pw_fieldAddr rfl ?_)); refine T_nv ?_))
  refine En_weaken (.blk b3 [.int .i64 0] 35 :: .blk b2 [.slice A (headMa ++ out).length c] 33 :: .blk b1 cells 32 :: H) _ (fun w hs => hs.weaken (List.Sublist.cons _ (List.Sublist.refl _)) (fun _ h => h)) ?_
  exact En_leave_ret (.inl rfl) (hret _ (.blk b1 cells 32 :: H) R A c (fun _ h => h) (List.sublist_cons_self _ _) rfl rfl (by simp only [headMa, List.length_cons, List.length_nil] at hle; omega))
end Go.Proofs.Ytggdljhmbckpmaa
namespace Go.Proofs.Ytggdljhmbckpmaa
open Go Go.RowKit
attribute [local semireducible] Sl Rd Ls At S

instance : Unp Bool := ⟨Unit, fun b _ => [.bool b], fun _ _ => True, fun _ _ => [], fun h => ⟨(), h, trivial, fun _ h => by cases h⟩, fun _ _ => rfl⟩
instance : Unp ByteArray := ⟨Unit, fun b _ => [.string b], fun b _ => b.size ≤ 9223372036854775807, fun _ _ => [], fun h => ⟨(), h.1, h.2, fun _ h => by cases h⟩, fun h _ => ⟨rfl, h⟩⟩

/-! ### terms and types -/
inductive Tm where
  | mk (kind n : Int) (name : ByteArray) (args : List Tm)
inductive Tp where
  | mk (name : ByteArray) (args : List Tp)

inductive TmRd (s : Sto) : List Value → Tm → Prop where
  | mk (k n : Int) (nm : ByteArray) (args : List Tm) (A : Option Addr) (c : Nat) (css : Nat → List Value)
    (hk : InI k) (hn : InI n) (hnm : nm.size ≤ maxL) (hc : args.length ≤ c ∧ c ≤ maxL)
    (hA : 0 < args.length → ∃ b o, A = some ⟨b, o, none⟩ ∧ ∀ i x, args[i]? = some x → ∀ j v, (css i)[j]? = some v → s b (o + i * 4 + j) = some v)
    (hx : ∀ i x, args[i]? = some x → TmRd s (css i) x) : TmRd s [.int .i64 k, .int .i64 n, .string nm, .slice A args.length c] (.mk k n nm args)
inductive TpRd (s : Sto) : List Value → Tp → Prop where
  | mk (nm : ByteArray) (args : List Tp) (A : Option Addr) (c : Nat) (css : Nat → List Value)
    (hnm : nm.size ≤ maxL) (hc : args.length ≤ c ∧ c ≤ maxL)
    (hA : 0 < args.length → ∃ b o, A = some ⟨b, o, none⟩ ∧ ∀ i x, args[i]? = some x → ∀ j v, (css i)[j]? = some v → s b (o + i * 2 + j) = some v)
    (hx : ∀ i x, args[i]? = some x → TpRd s (css i) x) : TpRd s [.string nm, .slice A args.length c] (.mk nm args)
theorem TmRd.mono {s t : Sto} {cs : List Value} {x : Tm} (h : s.le t) (k : TmRd s cs x) : TmRd t cs x := by
  induction k with
  | mk k n nm args A c css hk hn hnm hc hA hx ih =>
    exact .mk k n nm args A c css hk hn hnm hc (fun h0 => by
      obtain ⟨b, o, e, hb⟩ := hA h0
      exact ⟨b, o, e, fun i x hi j v hj => h _ _ _ (hb i x hi j v hj)⟩) ih
theorem TpRd.mono {s t : Sto} {cs : List Value} {x : Tp} (h : s.le t) (k : TpRd s cs x) : TpRd t cs x := by
  induction k with
  | mk nm args A c css hnm hc hA hx ih =>
    exact .mk nm args A c css hnm hc (fun h0 => by
      obtain ⟨b, o, e, hb⟩ := hA h0
      exact ⟨b, o, e, fun i x hi j v hj => h _ _ _ (hb i x hi j v hj)⟩) ih
instance : Rep Tm where
  size := 4
  rd := TmRd
  mono h k := k.mono h
  len h := by cases h; rfl
  one h := by cases h; simp [Value.oneCell']
instance : Rep Tp where
  size := 2
  rd := TpRd
  mono h k := k.mono h
  len h := by cases h; rfl
  one h := by cases h; simp [Value.oneCell']
def Tm.cs (x : Tm) (y : Option Addr × Nat) : List Value := match x with | .mk k n nm args => [.int .i64 k, .int .i64 n, .string nm, .slice y.1 args.length y.2]
def Tp.cs (x : Tp) (y : Option Addr × Nat) : List Value := match x with | .mk nm args => [.string nm, .slice y.1 args.length y.2]
def Tm.fs (x : Tm) (y : Option Addr × Nat) : List MP := match x with | .mk k n nm args => [Sl (.slice y.1 args.length y.2) args]
def Tp.fs (x : Tp) (y : Option Addr × Nat) : List MP := match x with | .mk nm args => [Sl (.slice y.1 args.length y.2) args]
def Tm.fit : Tm → Prop | .mk k n nm args => InI k ∧ InI n ∧ nm.size ≤ 9223372036854775807 ∧ args.length ≤ 9223372036854775807
def Tp.fit : Tp → Prop | .mk nm args => nm.size ≤ 9223372036854775807 ∧ args.length ≤ 9223372036854775807
instance : Unp Tm := ⟨Option Addr × Nat, Tm.cs, fun x _ => x.fit, Tm.fs,
  fun {s cs' x} h => by
    cases h with
    | mk k n nm args A c css hk hn hnm hc hA hx =>
      refine ⟨(A, c), rfl, ⟨hk, hn, hnm, Nat.le_trans hc.1 hc.2⟩, fun p hp => ?_⟩
      obtain rfl : p = Sl (.slice A args.length c) args := by simpa [Tm.fs] using hp
      exact ⟨A, c, rfl, hc, fun h0 => by
        obtain ⟨b, o, e, hb⟩ := hA h0
        exact ⟨b, o, e, fun i x hi => ⟨css i, hx i x hi, hb i x hi⟩⟩⟩,
  fun {s x y} h h' => by
    obtain ⟨k, n, nm, args⟩ := x
    obtain ⟨h1, h2, h3, h4⟩ := h
    obtain ⟨A, c, e, hc, hA⟩ := h' (Sl (.slice y.1 args.length y.2) args) (by simp [Tm.fs])
    injection e with e1 _ e3
    have hex : ∃ css : Nat → List Value, (∀ i x, args[i]? = some x → TmRd s (css i) x) ∧ (0 < args.length → ∃ b o, A = some ⟨b, o, none⟩ ∧ ∀ i x, args[i]? = some x → ∀ j v, (css i)[j]? = some v → s b (o + i * 4 + j) = some v) := by
      rcases Nat.eq_zero_or_pos args.length with h0 | h0
      · exact ⟨fun _ => [], fun i x hi => by have := (List.getElem?_eq_some_iff.1 hi).1; omega, fun h => by omega⟩
      · obtain ⟨b, o, eA, hl⟩ := hA h0
        have hch : ∀ i, ∃ cs : List Value, ∀ x, args[i]? = some x → TmRd s cs x ∧ ∀ j v, cs[j]? = some v → s b (o + i * 4 + j) = some v := fun i => by
          cases hi : args[i]? with
          | none => exact ⟨[], fun x hx => by cases hx⟩
          | some x =>
            obtain ⟨cs, g1, g2⟩ := hl i x hi
            exact ⟨cs, fun x' hx' => by cases hx'; exact ⟨g1, g2⟩⟩
        exact ⟨fun i => Classical.choose (hch i), fun i x hi => (Classical.choose_spec (hch i) x hi).1, fun _ => ⟨b, o, eA, fun i x hi => (Classical.choose_spec (hch i) x hi).2⟩⟩
    obtain ⟨css, g1, g2⟩ := hex
    show TmRd s [.int .i64 k, .int .i64 n, .string nm, .slice y.1 args.length y.2] _
    rw [e1, e3]
    exact .mk k n nm args A c css h1 h2 h3 hc g2 g1⟩
instance : Unp Tp := ⟨Option Addr × Nat, Tp.cs, fun x _ => x.fit, Tp.fs,
  fun {s cs' x} h => by
    cases h with
    | mk nm args A c css hnm hc hA hx =>
      refine ⟨(A, c), rfl, ⟨hnm, Nat.le_trans hc.1 hc.2⟩, fun p hp => ?_⟩
      obtain rfl : p = Sl (.slice A args.length c) args := by simpa [Tp.fs] using hp
      exact ⟨A, c, rfl, hc, fun h0 => by
        obtain ⟨b, o, e, hb⟩ := hA h0
        exact ⟨b, o, e, fun i x hi => ⟨css i, hx i x hi, hb i x hi⟩⟩⟩,
  fun {s x y} h h' => by
    obtain ⟨nm, args⟩ := x
    obtain ⟨h3, h4⟩ := h
    obtain ⟨A, c, e, hc, hA⟩ := h' (Sl (.slice y.1 args.length y.2) args) (by simp [Tp.fs])
    injection e with e1 _ e3
    have hex : ∃ css : Nat → List Value, (∀ i x, args[i]? = some x → TpRd s (css i) x) ∧ (0 < args.length → ∃ b o, A = some ⟨b, o, none⟩ ∧ ∀ i x, args[i]? = some x → ∀ j v, (css i)[j]? = some v → s b (o + i * 2 + j) = some v) := by
      rcases Nat.eq_zero_or_pos args.length with h0 | h0
      · exact ⟨fun _ => [], fun i x hi => by have := (List.getElem?_eq_some_iff.1 hi).1; omega, fun h => by omega⟩
      · obtain ⟨b, o, eA, hl⟩ := hA h0
        have hch : ∀ i, ∃ cs : List Value, ∀ x, args[i]? = some x → TpRd s cs x ∧ ∀ j v, cs[j]? = some v → s b (o + i * 2 + j) = some v := fun i => by
          cases hi : args[i]? with
          | none => exact ⟨[], fun x hx => by cases hx⟩
          | some x =>
            obtain ⟨cs, g1, g2⟩ := hl i x hi
            exact ⟨cs, fun x' hx' => by cases hx'; exact ⟨g1, g2⟩⟩
        exact ⟨fun i => Classical.choose (hch i), fun i x hi => (Classical.choose_spec (hch i) x hi).1, fun _ => ⟨b, o, eA, fun i x hi => (Classical.choose_spec (hch i) x hi).2⟩⟩
    obtain ⟨css, g1, g2⟩ := hex
    show TpRd s [.string nm, .slice y.1 args.length y.2] _
    rw [e1, e3]
    exact .mk nm args A c css h3 hc g2 g1⟩

/-! ### products -/
instance {α β : Type} [Rep α] [Rep β] : Rep (α × β) where
  size := Rep.size α + Rep.size β
  rd s cs p := ∃ c1 c2, cs = c1 ++ c2 ∧ Rep.rd s c1 p.1 ∧ Rep.rd s c2 p.2
  mono h k := by obtain ⟨c1, c2, e, k1, k2⟩ := k; exact ⟨c1, c2, e, Rep.mono h k1, Rep.mono h k2⟩
  len k := by obtain ⟨c1, c2, rfl, k1, k2⟩ := k; rw [List.length_append, Rep.len k1, Rep.len k2]
  one k := by
    obtain ⟨c1, c2, rfl, k1, k2⟩ := k
    intro c hc
    rcases List.mem_append.1 hc with h | h
    · exact Rep.one k1 c h
    · exact Rep.one k2 c h
instance {α β : Type} [Rep α] [Rep β] [Unp α] [Unp β] : Unp (α × β) := ⟨Unp.Y α × Unp.Y β, fun x y => Unp.cs x.1 y.1 ++ Unp.cs x.2 y.2, fun x y => Unp.ok x.1 y.1 ∧ Unp.ok x.2 y.2, fun x y => Unp.fs x.1 y.1 ++ Unp.fs x.2 y.2,
  fun {s cs' x} h => by
    obtain ⟨c1, c2, rfl, h1, h2⟩ := h
    obtain ⟨y1, rfl, o1, f1⟩ := Unp.un h1
    obtain ⟨y2, rfl, o2, f2⟩ := Unp.un h2
    exact ⟨(y1, y2), rfl, ⟨o1, o2⟩, fun p hp => (List.mem_append.1 hp).elim (f1 p) (f2 p)⟩,
  fun {s x y} h h' => ⟨_, _, rfl, Unp.re h.1 (fun p hp => h' p (List.mem_append_left _ hp)), Unp.re h.2 (fun p hp => h' p (List.mem_append_right _ hp))⟩⟩
/-- The cells are as many as the size, each of one cell. -/
class UnpL (α : Type) [Rep α] [Unp α] : Prop where
  len : ∀ (x : α) (y : Unp.Y α), (Unp.cs x y).length = Rep.size α
  one : ∀ (x : α) (y : Unp.Y α), ∀ u ∈ Unp.cs x y, u.oneCell' = true
instance : UnpL Int := ⟨fun _ _ => rfl, fun x y u hu => by obtain rfl := List.mem_singleton.1 hu; rfl⟩
instance : UnpL Bool := ⟨fun _ _ => rfl, fun x y u hu => by obtain rfl := List.mem_singleton.1 hu; rfl⟩
instance : UnpL ByteArray := ⟨fun _ _ => rfl, fun x y u hu => by obtain rfl := List.mem_singleton.1 hu; rfl⟩
instance {α : Type} [Rep α] : UnpL (List α) := ⟨fun _ _ => rfl, fun x y u hu => by obtain rfl := List.mem_singleton.1 hu; rfl⟩
instance : UnpL Tm := ⟨fun x _ => by cases x; rfl, fun x y u hu => by
  obtain ⟨k, n, nm, args⟩ := x
  have : u ∈ [Value.int .i64 k, .int .i64 n, .string nm, .slice y.1 args.length y.2] := hu
  simp only [List.mem_cons, List.not_mem_nil, or_false] at this
  rcases this with rfl | rfl | rfl | rfl <;> rfl⟩
instance : UnpL Tp := ⟨fun x _ => by cases x; rfl, fun x y u hu => by
  obtain ⟨nm, args⟩ := x
  have : u ∈ [Value.string nm, .slice y.1 args.length y.2] := hu
  simp only [List.mem_cons, List.not_mem_nil, or_false] at this
  rcases this with rfl | rfl <;> rfl⟩
instance {α β : Type} [Rep α] [Rep β] [Unp α] [Unp β] [h1 : UnpL α] [h2 : UnpL β] : UnpL (α × β) := ⟨fun x y => by
    show (Unp.cs x.1 y.1 ++ Unp.cs x.2 y.2).length = Rep.size α + Rep.size β
    rw [List.length_append, h1.len, h2.len], fun x y u hu => (List.mem_append.1 hu).elim (h1.one x.1 y.1 u) (h2.one x.2 y.2 u)⟩

abbrev FrD := List Tm × List Tm × Int × Int × Int
abbrev BrD := Int × Int × List Int × Bool × List Int × Bool × Int
abbrev FaD := ByteArray × List Tm
abbrev ScD := Int × Int × Int × Int × List Tm × FaD
abbrev VaD := Int × Tp × Bool × Tm
abbrev TrD := Int × VaD
abbrev TyD := Int × Int × Int
abbrev ChD := Int × List TyD × List Tm × Int × Int × Int × Int × Int × Int × Int × Bool × List Int × List Int × Int × Int × Int × Int × Int
abbrev MaD := Int × Int × Int × Int × Int × Int × Bool × List Int × List Int × List FrD × List BrD × List ScD × List VaD × List TrD × List ChD × Int
instance repFr : Rep FrD := inferInstance
instance unpFr : Unp FrD := inferInstance
instance unlFr : UnpL FrD := inferInstance
instance repBr : Rep BrD := inferInstance
instance unpBr : Unp BrD := inferInstance
instance unlBr : UnpL BrD := inferInstance
instance repSc : Rep ScD := inferInstance
instance unpSc : Unp ScD := inferInstance
instance unlSc : UnpL ScD := inferInstance
instance repVa : Rep VaD := inferInstance
instance unpVa : Unp VaD := inferInstance
instance unlVa : UnpL VaD := inferInstance
instance repTr : Rep TrD := inferInstance
instance unpTr : Unp TrD := inferInstance
instance unlTr : UnpL TrD := inferInstance
instance repTy : Rep TyD := inferInstance
instance unpTy : Unp TyD := inferInstance
instance unlTy : UnpL TyD := inferInstance
instance repCh : Rep ChD := inferInstance
instance unpCh : Unp ChD := inferInstance
instance unlCh : UnpL ChD := inferInstance
instance repMa : Rep MaD := inferInstance
instance unpMa : Unp MaD := inferInstance
instance unlMa : UnpL MaD := inferInstance
end Go.Proofs.Ytggdljhmbckpmaa
