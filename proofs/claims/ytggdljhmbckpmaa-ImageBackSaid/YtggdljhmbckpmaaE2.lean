/- Truths, numbers, lists written: walks. -/
import Derived.Test.YtggdljhmbckpmaaE1
set_option linter.unusedVariables false
set_option linter.unusedSimpArgs false
namespace Go.Proofs.Ytggdljhmbckpmaa
open Go Go.RowKit
set_option maxRecDepth 100000
set_option maxHeartbeats 800000

section
variable {F : Fence} {n : Nat} {P : Program} {w0 : World} {D : List Deferred} {ops : Array Oper} {Q : Exit → Act → World → Prop} {rest : List Oper} {E : List Value} {H : List Hp} {R R0 : List MP}
theorem T_wrv [Wd F] {dst : Option Tmp} {fo : Operand} {f : FuncId} {l : List Operand} {at_ : Array TypeId} {ty : TypeId} {pos : String} {aft : Array Edge} {g : Option (Nat × Bool)} {A L1 L2 : List Value} {bw : Nat} {out bs : List UInt8} {v : Value} {m : Nat} {cs : List Value}
    (hw : Region.wanted ⟨dst, .call ⟨.value fo, l.toArray, at_⟩, ty, pos, aft, g⟩ (yielded ops E.toArray) = true) (hf : ev E fo = .func (.func f) L1.toArray L2.toArray) (hA : L1 ++ l.map (ev E) ++ L2 = A) [FnOk P f] (h : Wr P w0 R0 f A bw out) (hsub : ∀ p ∈ R0, p ∈ R) (hm : m = bs.length) (hcs : cs = bytesV bs) (hb : bs.length ≤ 250000)
    (hk : bs.length + out.length ≤ 250000 → ∀ v', T F n P w0 D ops Q rest (setD E dst (.tuple #[])) (.row v' 5 1 (bs ++ out).length (bytesV (bs ++ out)) :: .blk bw [v'] 95 :: H) R)
    (hp : 250000 < bs.length + out.length → En w0 D Q (.panic tl) E H R) : T F n P w0 D ops Q (⟨dst, .call ⟨.value fo, l.toArray, at_⟩, ty, pos, aft, g⟩ :: rest) E (.row v 5 1 m cs :: .blk bw [v] 95 :: H) R := by
  subst hm; subst hcs
  exact T_ow hw (ow_callvP (KP := fun ch H' R' => ch = tl ∧ H' = H ∧ R' = R ∧ 250000 < bs.length + out.length) hf hA (h H R _ _ bs v hsub hb hk (fun hgt => ⟨rfl, rfl, rfl, hgt⟩)) (by rintro ch H' R' ⟨rfl, rfl, rfl, hgt⟩; exact hp hgt))
theorem cellsVal_all {cs : List Value} {sz : Nat} (h : cs.length = sz) : cellsVal true sz cs 0 = some (.agg cs.toArray) := by
  subst h; simp [cellsVal]
theorem overlay_all {zs cs : List Value} (h : zs.length = cs.length) : overlay zs 0 cs = cs := by
  simp [overlay, h]
end
def truthB (b : Bool) : List UInt8 := [if b then 1 else 0]
theorem truth_w {w0 : World} (bw : Nat) (b : Bool) : Wr Try.prog w0 [] 65 [.pointer (some ⟨bw, 0, none⟩), .bool b] bw (truthB b) := by
  intro H R K KP bs v _ hb hk hp
  refine callsP_of Try.func65 rfl Try.ntmps65 nep ?_
  cases b
  · skip
    repeat' (first | (apply TC_seq) | (apply TC_region) | (apply TC_cond_false; exact rfl) | (apply T_nil) | (apply En_then) | (refine T_pure rfl rfl ?_; ((refine pw_mv ?_)); refine T_nv ?_))
    refine T_wr rfl rfl (byte_w bw 0) (fun _ h => (by cases h)) rfl rfl hb (fun hle v2 => ?_) (fun hgt => ?_)
    · refine T_nv ?_
      repeat' ((apply T_nil))
      refine En_fin (.inr rfl) (res0 rfl) (fin_R _ R (fun w hs => hs) (hk hle v2))
    · skip
      repeat' (fail)
      exact En_panicked (fin_P H R (fun w hs => hs) (hp hgt))
  · skip
    repeat' (first | (apply TC_seq) | (apply TC_region) | (apply TC_cond_true; exact rfl) | (apply T_nil) | (apply En_then) | (refine T_pure rfl rfl ?_; ((refine pw_mv ?_)); refine T_nv ?_))
    refine T_wr rfl rfl (byte_w bw 1) (fun _ h => (by cases h)) rfl rfl hb (fun hle v2 => ?_) (fun hgt => ?_)
    · refine T_nv ?_
      repeat' ((apply T_nil))
      refine En_fin (.inr rfl) (res0 rfl) (fin_R _ R (fun w hs => hs) (hk hle v2))
    · skip
      repeat' (fail)
      exact En_panicked (fin_P H R (fun w hs => hs) (hp hgt))

theorem numbers_w {w0 : World} (bw : Nat) (A : Option Addr) (c : Nat) (xs : List Int) (hx : xs.length ≤ 9223372036854775807) : Wr Try.prog w0 [Sl (.slice A xs.length c) xs] 64 [.pointer (some ⟨bw, 0, none⟩), .slice A xs.length c] bw (xs.flatMap numB) := by
  intro H R K KP bs v hsub hb hk hp
  have hm : Sl (.slice A xs.length c) xs ∈ R := hsub _ (by simp)
  refine callsP_of Try.func64 rfl Try.ntmps64 nep ?_
  repeat' (first | (apply TC_seq) | (apply TC_region) | (apply TC_block) | (apply T_nil) | (apply En_then) | (refine T_pure rfl rfl ?_; ((first | refine pw_mv ?_ | refine pw_len rfl ?_)); refine T_nv ?_))
  refine TC_loopS [5, 8, 9, 10, 11, 12, 13, 14, 15] (fun m j H2 R2 => ∃ (i : Nat) (bs' : List UInt8) (v' : Value), i + m = xs.length ∧ j 8 = .int .i64 (i : Int) ∧ (∀ p ∈ R, p ∈ R2) ∧ H2 = .row v' 5 1 bs'.length (bytesV bs') :: .blk bw [v'] 95 :: H ∧ bs'.length ≤ 250000 ∧ bs' ++ (xs.drop i).flatMap numB = bs ++ xs.flatMap numB) xs.length sjp ⟨0, bs, v, by omega, rfl, fun _ h => h, rfl, hb, rfl⟩ ?_
  rintro m j' H2 R2 ⟨i, bs', v', him, h8, hR2, hH2, hb', hle⟩
  subst hH2
  have hm2 := hR2 _ hm
  refine TC_env (by simp only [setJ, List.foldl_cons, List.foldl_nil, List.set_cons_succ, List.set_cons_zero, h8]; rfl) ?_
  have hlen : bs'.length + ((xs.drop i).flatMap numB).length = bs.length + (xs.flatMap numB).length := by
    have := congrArg List.length hle
    simpa only [List.length_append] using this
  have HL := Go.Lib.hid hle
  clear hle
  repeat' (first | (apply TC_seq) | (apply TC_region) | (apply TC_block) | (apply TC_skip) | (apply TC_exit) | (apply TC_cond_true; exact rfl) | (apply TC_cond_false; exact rfl) | (apply T_nil) | (apply En_then) | (apply En_then_exit) | (apply En_block_exit) | (apply T_load; exact rfl; ((refine pw_load_at0 rfl memr rfl ?_)); refine T_nv ?_) | (apply T_bin; exact rfl; ((refine pw_lss rfl rfl (fun h => ?_) (fun h => ?_))) <;> (refine T_nv ?_)) | (apply T_idx; exact rfl; ((refine pw_index_iN evp rfl memt (List.getElem?_eq_getElem (by omega)) (fun b o hI => ?_))); refine T_nv ?_) | (refine T_pure rfl rfl ?_; ((first | refine pw_mv ?_ | refine pw_as ?_)); refine T_nv ?_))
  · have hd : (xs.drop i).flatMap numB = numB xs[i] ++ (xs.drop (i + 1)).flatMap numB := by rw [List.drop_eq_getElem_cons (show i < xs.length by omega), List.flatMap_cons]
    rw [hd, List.length_append] at hlen
    refine T_wr rfl rfl (number_w bw xs[i] hI) (fun _ h => (by cases h)) rfl rfl hb' (fun hle v2 => ?_) (fun hgt => ?_)
    · refine T_nv ?_
      repeat' (first | (apply TC_region) | (apply T_nil) | (apply En_then) | (apply En_block) | (apply T_bin; exact rfl; ((refine pw_add64 rfl rfl (by omega) (by omega) ?_)); refine T_nv ?_) | (refine T_pure rfl rfl ?_; ((refine pw_mv ?_)); refine T_nv ?_))
      refine En_backS (m - 1) _ R2 (by omega) sjp ⟨i + 1, bs' ++ numB xs[i], v2, by omega, rfl, hR2, rfl, by rw [List.length_append]; exact hle, ?_⟩ (fun w hs => hs.weaken sbp kpp)
      rw [← HL.out, hd, List.append_assoc]
    · skip
      repeat' (first | (apply En_then_panic) | (apply En_block_panic))
      refine En_panicked (fin_P H R (fun w hs => hs.weaken sbp (fun p hp => List.mem_cons_of_mem _ (hR2 p hp))) (hp (by omega)))
  · have e := HL.out
    rw [List.drop_of_length_le (by omega), List.flatMap_nil, List.append_nil] at e
    rw [e] at hb' ⊢
    refine En_fin (.inr rfl) (res0 rfl) (fin_R _ R (fun w hs => hs.weaken sbp hR2) (hk (by rw [List.length_append] at hb'; exact hb') v'))

end Go.Proofs.Ytggdljhmbckpmaa
