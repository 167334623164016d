/- Decode: the calls of its readers, by kinds of what they read; lists of numbers: walk. Decode: structs read: walks, printed by gen_rd.py. -/
import Derived.Test.YtggdljhmbckpmaaN5
set_option linter.unusedVariables false
set_option linter.unusedSimpArgs false
namespace Go.Proofs.Ytggdljhmbckpmaa
open Go Go.RowKit
set_option maxRecDepth 100000
set_option maxHeartbeats 1600000

theorem Rr.up {P : Program} {w0 : World} {f : FuncId} {args : List Value} {br : Nat} {A : Option Addr} {c : Nat} {xs : List UInt8} {m m' : Nat} {α : Type} [Rep α] [Unp α] {d : Dc α} {val : α → Unp.Y α → Value} (h : Rr P w0 f args br A c xs m d val) (hm : m ≤ m') : Rr P w0 f args br A c xs m' d val :=
  fun H R K KP a ha => h H R K KP a (by omega)
abbrev stV {α : Type} [Rep α] [Unp α] (x : α) (y : Unp.Y α) : Value := .agg (Unp.cs x y).toArray
theorem stV_cells {α : Type} [Rep α] [Unp α] (x : α) (y : Unp.Y α) : (stV x y).cells = (Unp.cs x y).toArray := rfl
section
variable {F : Fence} {n : Nat} {P : Program} {w0 : World} {D : List Deferred} {ops : Array Oper} {Q : Exit → Act → World → Prop} {rest : List Oper} {E : List Value} {H : List Hp} {R : List MP}
theorem TC_swap {co : Code} {x y : Hp} (k : TC F n P w0 D co Q E (y :: x :: H) R) : TC F n P w0 D co Q E (x :: y :: H) R := TC_weaken _ _ (fun w hs => hs.perm (List.Perm.swap _ _ _)) k
/-- A number, a text, a truth: nothing else is learned. -/
theorem T_rds [Wd F] {dst : Option Tmp} {f : FuncId} {l : List Operand} {at_ : Array TypeId} {ty : TypeId} {pos : String} {aft : Array Edge} {g : Option (Nat × Bool)} {args : List Value} {br : Nat} {A : Option Addr} {c : Nat} {xs : List UInt8} {a : Nat} {d : Dc ByteArray}
    (hw : Region.wanted ⟨dst, .call ⟨.value (.func f), l.toArray, at_⟩, ty, pos, aft, g⟩ (yielded ops E.toArray) = true) (hA : l.map (ev E) = args) [FnOk P f] (h : Rr P w0 f args br A c xs 0 d (fun s _ => .string s)) (hax : a ≤ xs.length) (hm : Sl (.slice A xs.length c) xs ∈ R)
    (hk : ∀ x a', d a = .ok (x, a') → a ≤ a' → a' ≤ xs.length → x.size ≤ 9223372036854775807 → T F n P w0 D ops Q rest (setD E dst (.string x)) (.blk br [.slice A xs.length c, .int .i64 (a' : Int)] 104 :: H) R)
    (hp : ∀ e : Nat, d a = .error e → En w0 D Q (.panic (rf e)) E H R) : T F n P w0 D ops Q (⟨dst, .call ⟨.value (.func f), l.toArray, at_⟩, ty, pos, aft, g⟩ :: rest) E (.blk br [.slice A xs.length c, .int .i64 (a : Int)] 104 :: H) R :=
  T_rd hw hA h (Nat.zero_le _) hax hm (fun x a' y hd h1 h2 hok => hk x a' hd h1 h2 hok) hp
theorem T_rdb [Wd F] {dst : Option Tmp} {f : FuncId} {l : List Operand} {at_ : Array TypeId} {ty : TypeId} {pos : String} {aft : Array Edge} {g : Option (Nat × Bool)} {args : List Value} {br : Nat} {A : Option Addr} {c : Nat} {xs : List UInt8} {a : Nat} {d : Dc Bool}
    (hw : Region.wanted ⟨dst, .call ⟨.value (.func f), l.toArray, at_⟩, ty, pos, aft, g⟩ (yielded ops E.toArray) = true) (hA : l.map (ev E) = args) [FnOk P f] (h : Rr P w0 f args br A c xs 0 d (fun s _ => .bool s)) (hax : a ≤ xs.length) (hm : Sl (.slice A xs.length c) xs ∈ R)
    (hk : ∀ x a', d a = .ok (x, a') → a ≤ a' → a' ≤ xs.length → T F n P w0 D ops Q rest (setD E dst (.bool x)) (.blk br [.slice A xs.length c, .int .i64 (a' : Int)] 104 :: H) R)
    (hp : ∀ e : Nat, d a = .error e → En w0 D Q (.panic (rf e)) E H R) : T F n P w0 D ops Q (⟨dst, .call ⟨.value (.func f), l.toArray, at_⟩, ty, pos, aft, g⟩ :: rest) E (.blk br [.slice A xs.length c, .int .i64 (a : Int)] 104 :: H) R :=
  T_rd hw hA h (Nat.zero_le _) hax hm (fun x a' y hd h1 h2 hok => hk x a' hd h1 h2) hp
/-- A list. -/
theorem T_rdl [Wd F] {dst : Option Tmp} {f : FuncId} {l : List Operand} {at_ : Array TypeId} {ty : TypeId} {pos : String} {aft : Array Edge} {g : Option (Nat × Bool)} {args : List Value} {br : Nat} {A : Option Addr} {c : Nat} {xs : List UInt8} {m a : Nat} {α : Type} [Rep α] {d : Dc (List α)}
    (hw : Region.wanted ⟨dst, .call ⟨.value (.func f), l.toArray, at_⟩, ty, pos, aft, g⟩ (yielded ops E.toArray) = true) (hA : l.map (ev E) = args) [FnOk P f] (h : Rr P w0 f args br A c xs m d lsV) (hma : m ≤ a) (hax : a ≤ xs.length) (hm : Sl (.slice A xs.length c) xs ∈ R)
    (hk : ∀ (x : List α) a' A1 c1, d a = .ok (x, a') → a ≤ a' → a' ≤ xs.length → (x.length ≤ c1 ∧ c1 ≤ maxL) → T F n P w0 D ops Q rest (setD E dst (.slice A1 x.length c1)) (.blk br [.slice A xs.length c, .int .i64 (a' : Int)] 104 :: H) (Sl (.slice A1 x.length c1) x :: R))
    (hp : ∀ e : Nat, d a = .error e → En w0 D Q (.panic (rf e)) E H R) : T F n P w0 D ops Q (⟨dst, .call ⟨.value (.func f), l.toArray, at_⟩, ty, pos, aft, g⟩ :: rest) E (.blk br [.slice A xs.length c, .int .i64 (a : Int)] 104 :: H) R :=
  T_rd hw hA h hma hax hm (fun x a' y hd h1 h2 hok => hk x a' y.1 y.2 hd h1 h2 hok) hp
/-- A term, a type. -/
theorem T_rdtm [Wd F] {dst : Option Tmp} {f : FuncId} {l : List Operand} {at_ : Array TypeId} {ty : TypeId} {pos : String} {aft : Array Edge} {g : Option (Nat × Bool)} {args : List Value} {br : Nat} {A : Option Addr} {c : Nat} {xs : List UInt8} {m a : Nat} {d : Dc Tm}
    (hw : Region.wanted ⟨dst, .call ⟨.value (.func f), l.toArray, at_⟩, ty, pos, aft, g⟩ (yielded ops E.toArray) = true) (hA : l.map (ev E) = args) [FnOk P f] (h : Rr P w0 f args br A c xs m d stV) (hma : m ≤ a) (hax : a ≤ xs.length) (hm : Sl (.slice A xs.length c) xs ∈ R)
    (hk : ∀ k i nm (x : List Tm) a' A1 c1, d a = .ok (.mk k i nm x, a') → a ≤ a' → a' ≤ xs.length → (InI k ∧ InI i ∧ nm.size ≤ 9223372036854775807 ∧ x.length ≤ 9223372036854775807) → T F n P w0 D ops Q rest (setD E dst (.agg #[.int .i64 k, .int .i64 i, .string nm, .slice A1 x.length c1])) (.blk br [.slice A xs.length c, .int .i64 (a' : Int)] 104 :: H) (Sl (.slice A1 x.length c1) x :: R))
    (hp : ∀ e : Nat, d a = .error e → En w0 D Q (.panic (rf e)) E H R) : T F n P w0 D ops Q (⟨dst, .call ⟨.value (.func f), l.toArray, at_⟩, ty, pos, aft, g⟩ :: rest) E (.blk br [.slice A xs.length c, .int .i64 (a : Int)] 104 :: H) R :=
  T_rd hw hA h hma hax hm (fun x a' y hd h1 h2 hok => by
    obtain ⟨k, i, nm, x⟩ := x
    exact hk k i nm x a' y.1 y.2 hd h1 h2 hok) hp
theorem T_rdtp [Wd F] {dst : Option Tmp} {f : FuncId} {l : List Operand} {at_ : Array TypeId} {ty : TypeId} {pos : String} {aft : Array Edge} {g : Option (Nat × Bool)} {args : List Value} {br : Nat} {A : Option Addr} {c : Nat} {xs : List UInt8} {m a : Nat} {d : Dc Tp}
    (hw : Region.wanted ⟨dst, .call ⟨.value (.func f), l.toArray, at_⟩, ty, pos, aft, g⟩ (yielded ops E.toArray) = true) (hA : l.map (ev E) = args) [FnOk P f] (h : Rr P w0 f args br A c xs m d stV) (hma : m ≤ a) (hax : a ≤ xs.length) (hm : Sl (.slice A xs.length c) xs ∈ R)
    (hk : ∀ nm (x : List Tp) a' A1 c1, d a = .ok (.mk nm x, a') → a ≤ a' → a' ≤ xs.length → (nm.size ≤ 9223372036854775807 ∧ x.length ≤ 9223372036854775807) → T F n P w0 D ops Q rest (setD E dst (.agg #[.string nm, .slice A1 x.length c1])) (.blk br [.slice A xs.length c, .int .i64 (a' : Int)] 104 :: H) (Sl (.slice A1 x.length c1) x :: R))
    (hp : ∀ e : Nat, d a = .error e → En w0 D Q (.panic (rf e)) E H R) : T F n P w0 D ops Q (⟨dst, .call ⟨.value (.func f), l.toArray, at_⟩, ty, pos, aft, g⟩ :: rest) E (.blk br [.slice A xs.length c, .int .i64 (a : Int)] 104 :: H) R :=
  T_rd hw hA h hma hax hm (fun x a' y hd h1 h2 hok => by
    obtain ⟨nm, x⟩ := x
    exact hk nm x a' y.1 y.2 hd h1 h2 hok) hp
/-- What is known of a variable. -/
theorem T_rdva [Wd F] {dst : Option Tmp} {f : FuncId} {l : List Operand} {at_ : Array TypeId} {ty : TypeId} {pos : String} {aft : Array Edge} {g : Option (Nat × Bool)} {args : List Value} {br : Nat} {A : Option Addr} {c : Nat} {xs : List UInt8} {m a : Nat} {d : Dc VaD}
    (hw : Region.wanted ⟨dst, .call ⟨.value (.func f), l.toArray, at_⟩, ty, pos, aft, g⟩ (yielded ops E.toArray) = true) (hA : l.map (ev E) = args) [FnOk P f] (h : Rr P w0 f args br A c xs m d stV) (hma : m ≤ a) (hax : a ≤ xs.length) (hm : Sl (.slice A xs.length c) xs ∈ R)
    (hk : ∀ lv tn (tx : List Tp) bo k i nm (x : List Tm) a' A1 c1 A2 c2, d a = .ok ((lv, .mk tn tx, bo, .mk k i nm x), a') → a ≤ a' → a' ≤ xs.length → (InI lv ∧ (tn.size ≤ 9223372036854775807 ∧ tx.length ≤ 9223372036854775807) ∧ True ∧ (InI k ∧ InI i ∧ nm.size ≤ 9223372036854775807 ∧ x.length ≤ 9223372036854775807)) → T F n P w0 D ops Q rest (setD E dst (.agg #[.int .i64 lv, .string tn, .slice A1 tx.length c1, .bool bo, .int .i64 k, .int .i64 i, .string nm, .slice A2 x.length c2])) (.blk br [.slice A xs.length c, .int .i64 (a' : Int)] 104 :: H) (Sl (.slice A1 tx.length c1) tx :: Sl (.slice A2 x.length c2) x :: R))
    (hp : ∀ e : Nat, d a = .error e → En w0 D Q (.panic (rf e)) E H R) : T F n P w0 D ops Q (⟨dst, .call ⟨.value (.func f), l.toArray, at_⟩, ty, pos, aft, g⟩ :: rest) E (.blk br [.slice A xs.length c, .int .i64 (a : Int)] 104 :: H) R :=
  T_rd hw hA h hma hax hm (fun x a' y hd h1 h2 hok => by
    obtain ⟨lv, ⟨tn, tx⟩, bo, ⟨k, i, nm, x⟩⟩ := x
    obtain ⟨u1, ⟨A1, c1⟩, u2, ⟨A2, c2⟩⟩ := y
    exact hk lv tn tx bo k i nm x a' A1 c1 A2 c2 hd h1 h2 hok) hp
end
theorem ints_r {w0 : World} (br : Nat) (A : Option Addr) (c : Nat) (xs : List UInt8) (hx : xs.length ≤ 250000) : Rr Try.prog w0 82 [.pointer (some ⟨br, 0, none⟩)] br A c xs 0 (listD xs (numD xs)) lsV := by
  intro H R K KP a hma hax hm hk hp
  refine callsP_of Try.func82 rfl Try.ntmps82 nep ?_
  repeat' first
    | (apply TC_seq)
    | (apply TC_region)
    | (apply TC_block)
    | (apply TC_ret)
    | (apply TC_skip)
    | (apply TC_exit)
    | (apply TC_cond_true; exact rfl)
    | (apply TC_cond_false; exact rfl)
    | (apply T_nil)
    | (apply En_then)
    | (apply En_then_ret)
    | (apply En_then_exit)
    | (apply En_then_panic)
    | (apply En_block)
    | (apply En_block_ret)
    | (apply En_block_panic)
    | (apply En_block_exit)
    | (apply En_block_exit_ne; exact rfl)
    | (apply T_load; exact rfl; (first | refine pw_load (i := 0) rfl rfl rfl ?_ | refine pw_load (i := 1) rfl rfl rfl ?_ | refine pw_load (i := 2) rfl rfl rfl ?_ | refine pw_load (i := 3) rfl rfl rfl ?_ | refine pw_load (i := 4) rfl rfl rfl ?_ | refine pw_load (i := 5) rfl rfl rfl ?_ | refine pw_load_at rfl memr rfl ?_ | refine pw_load_at0 rfl memr rfl ?_ | refine pw_load_at rfl memt rfl ?_ | refine pw_load_at0 rfl memt rfl ?_); refine T_nv ?_)
    | (apply T_bin; exact rfl; (first | refine pw_add64 rfl rfl (by omega) (by omega) ?_ | refine pw_sub64 rfl rfl (by omega) (by omega) ?_ | refine pw_mul64 rfl rfl (by omega) (by omega) ?_ | refine pw_quo rfl rfl (by omega) (by omega) (by omega) ?_ | refine pw_rem rfl rfl (by omega) (by omega) ?_); refine T_nv ?_)
    | (apply T_bin; exact rfl; (first | refine pw_lss rfl rfl (fun h => ?_) (fun h => ?_) | refine pw_leq rfl rfl (fun h => ?_) (fun h => ?_) | refine pw_gtr rfl rfl (fun h => ?_) (fun h => ?_) | refine pw_geq rfl rfl (fun h => ?_) (fun h => ?_) | refine pw_eql rfl rfl (fun h => ?_) (fun h => ?_) | refine pw_neq rfl rfl (fun h => ?_) (fun h => ?_)) <;> first | (exfalso; omega) | refine T_nv ?_)
    | (refine T_pure rfl rfl ?_; (first | refine pw_mv ?_ | refine pw_as ?_ | refine pw_pick_t rfl evp ?_ | refine pw_pick_f rfl evp ?_ | refine pw_nilCheck rfl ?_ | refine pw_fieldAddr rfl ?_ | refine pw_len rfl ?_ | refine pw_lens rfl ?_ | refine pw_extract rfl rfl ?_ | refine pw_not rfl ?_ | refine pw_makeFuncL agp agp ?_ | refine pw_build bldp ?_ | refine pw_makeInterface rfl ?_); refine T_nv ?_)
    | (refine T_skipped rfl ?_; refine T_nv ?_)
    | (refine T_gen rfl rfl ?_; (first | refine gw_box clp (fun b => ?_) | refine gw_alloc clp (fun b => ?_) | refine gw_buildSlice (by decide) prtp rfl (fun b => ?_)); refine T_nv ?_)
  refine T_rdl rfl rfl (get111_r rfl br A c xs hx 110 [.pointer (some ⟨br, 0, none⟩)] 0 (numD xs) (fun n _ => .int .i64 n) (fun _ _ => rfl) ((number_r br A c xs hx).up (by omega))) hma hax hm (fun l a' A1 c1 hd h1 h2 hok => ?_) (fun e he => ?_)
  rotate_left
  · skip
    repeat' first
      | (apply TC_seq)
      | (apply TC_region)
      | (apply TC_block)
      | (apply TC_ret)
      | (apply TC_skip)
      | (apply TC_exit)
      | (apply TC_cond_true; exact rfl)
      | (apply TC_cond_false; exact rfl)
      | (apply T_nil)
      | (apply En_then)
      | (apply En_then_ret)
      | (apply En_then_exit)
      | (apply En_then_panic)
      | (apply En_block)
      | (apply En_block_ret)
      | (apply En_block_panic)
      | (apply En_block_exit)
      | (apply En_block_exit_ne; exact rfl)
      | (apply T_load; exact rfl; (first | refine pw_load (i := 0) rfl rfl rfl ?_ | refine pw_load (i := 1) rfl rfl rfl ?_ | refine pw_load (i := 2) rfl rfl rfl ?_ | refine pw_load (i := 3) rfl rfl rfl ?_ | refine pw_load (i := 4) rfl rfl rfl ?_ | refine pw_load (i := 5) rfl rfl rfl ?_ | refine pw_load_at rfl memr rfl ?_ | refine pw_load_at0 rfl memr rfl ?_ | refine pw_load_at rfl memt rfl ?_ | refine pw_load_at0 rfl memt rfl ?_); refine T_nv ?_)
      | (apply T_bin; exact rfl; (first | refine pw_add64 rfl rfl (by omega) (by omega) ?_ | refine pw_sub64 rfl rfl (by omega) (by omega) ?_ | refine pw_mul64 rfl rfl (by omega) (by omega) ?_ | refine pw_quo rfl rfl (by omega) (by omega) (by omega) ?_ | refine pw_rem rfl rfl (by omega) (by omega) ?_); refine T_nv ?_)
      | (apply T_bin; exact rfl; (first | refine pw_lss rfl rfl (fun h => ?_) (fun h => ?_) | refine pw_leq rfl rfl (fun h => ?_) (fun h => ?_) | refine pw_gtr rfl rfl (fun h => ?_) (fun h => ?_) | refine pw_geq rfl rfl (fun h => ?_) (fun h => ?_) | refine pw_eql rfl rfl (fun h => ?_) (fun h => ?_) | refine pw_neq rfl rfl (fun h => ?_) (fun h => ?_)) <;> first | (exfalso; omega) | refine T_nv ?_)
      | (refine T_pure rfl rfl ?_; (first | refine pw_mv ?_ | refine pw_as ?_ | refine pw_pick_t rfl evp ?_ | refine pw_pick_f rfl evp ?_ | refine pw_nilCheck rfl ?_ | refine pw_fieldAddr rfl ?_ | refine pw_len rfl ?_ | refine pw_lens rfl ?_ | refine pw_extract rfl rfl ?_ | refine pw_not rfl ?_ | refine pw_makeFuncL agp agp ?_ | refine pw_build bldp ?_ | refine pw_makeInterface rfl ?_); refine T_nv ?_)
      | (refine T_skipped rfl ?_; refine T_nv ?_)
      | (refine T_gen rfl rfl ?_; (first | refine gw_box clp (fun b => ?_) | refine gw_alloc clp (fun b => ?_) | refine gw_buildSlice (by decide) prtp rfl (fun b => ?_)); refine T_nv ?_)
    exact En_panicked (fin_P H R (fun w hs => hs) (hp e he))
  refine T_nv ?_
  repeat' first
    | (apply TC_seq)
    | (apply TC_region)
    | (apply TC_block)
    | (apply TC_ret)
    | (apply TC_skip)
    | (apply TC_exit)
    | (apply TC_cond_true; exact rfl)
    | (apply TC_cond_false; exact rfl)
    | (apply T_nil)
    | (apply En_then)
    | (apply En_then_ret)
    | (apply En_then_exit)
    | (apply En_then_panic)
    | (apply En_block)
    | (apply En_block_ret)
    | (apply En_block_panic)
    | (apply En_block_exit)
    | (apply En_block_exit_ne; exact rfl)
    | (apply T_load; exact rfl; (first | refine pw_load (i := 0) rfl rfl rfl ?_ | refine pw_load (i := 1) rfl rfl rfl ?_ | refine pw_load (i := 2) rfl rfl rfl ?_ | refine pw_load (i := 3) rfl rfl rfl ?_ | refine pw_load (i := 4) rfl rfl rfl ?_ | refine pw_load (i := 5) rfl rfl rfl ?_ | refine pw_load_at rfl memr rfl ?_ | refine pw_load_at0 rfl memr rfl ?_ | refine pw_load_at rfl memt rfl ?_ | refine pw_load_at0 rfl memt rfl ?_); refine T_nv ?_)
    | (apply T_bin; exact rfl; (first | refine pw_add64 rfl rfl (by omega) (by omega) ?_ | refine pw_sub64 rfl rfl (by omega) (by omega) ?_ | refine pw_mul64 rfl rfl (by omega) (by omega) ?_ | refine pw_quo rfl rfl (by omega) (by omega) (by omega) ?_ | refine pw_rem rfl rfl (by omega) (by omega) ?_); refine T_nv ?_)
    | (apply T_bin; exact rfl; (first | refine pw_lss rfl rfl (fun h => ?_) (fun h => ?_) | refine pw_leq rfl rfl (fun h => ?_) (fun h => ?_) | refine pw_gtr rfl rfl (fun h => ?_) (fun h => ?_) | refine pw_geq rfl rfl (fun h => ?_) (fun h => ?_) | refine pw_eql rfl rfl (fun h => ?_) (fun h => ?_) | refine pw_neq rfl rfl (fun h => ?_) (fun h => ?_)) <;> first | (exfalso; omega) | refine T_nv ?_)
    | (refine T_pure rfl rfl ?_; (first | refine pw_mv ?_ | refine pw_as ?_ | refine pw_pick_t rfl evp ?_ | refine pw_pick_f rfl evp ?_ | refine pw_nilCheck rfl ?_ | refine pw_fieldAddr rfl ?_ | refine pw_len rfl ?_ | refine pw_lens rfl ?_ | refine pw_extract rfl rfl ?_ | refine pw_not rfl ?_ | refine pw_makeFuncL agp agp ?_ | refine pw_build bldp ?_ | refine pw_makeInterface rfl ?_); refine T_nv ?_)
    | (refine T_skipped rfl ?_; refine T_nv ?_)
    | (refine T_gen rfl rfl ?_; (first | refine gw_box clp (fun b => ?_) | refine gw_alloc clp (fun b => ?_) | refine gw_buildSlice (by decide) prtp rfl (fun b => ?_)); refine T_nv ?_)
  exact En_fin (.inl rfl) (res1 rfl (rv_tmp rfl)) (fin_R _ (Sl (.slice A1 l.length c1) l :: R) (fun w hs => hs) (hk l a' (A1, c1) hd h1 h2 hok))
end Go.Proofs.Ytggdljhmbckpmaa
namespace Go.Proofs.Ytggdljhmbckpmaa
open Go Go.RowKit
set_option maxRecDepth 100000
set_option maxHeartbeats 3200000

abbrev tmD (xs : List UInt8) : Dc Tm := tmG xs (xs.length + 1)
abbrev tpD (xs : List UInt8) : Dc Tp := tpG xs (xs.length + 1)
def frD (xs : List UInt8) : Dc FrD := pairD (listD xs (tmD xs)) (pairD (listD xs (tmD xs)) (pairD (numD xs) (pairD (numD xs) (numD xs))))
def brD (xs : List UInt8) : Dc BrD := pairD (numD xs) (pairD (numD xs) (pairD (listD xs (numD xs)) (pairD (truthD xs) (pairD (listD xs (numD xs)) (pairD (truthD xs) (numD xs))))))
def scD (xs : List UInt8) : Dc ScD := pairD (numD xs) (pairD (numD xs) (pairD (numD xs) (pairD (numD xs) (pairD (listD xs (tmD xs)) (pairD (textD xs) (listD xs (tmD xs)))))))
def vaD (xs : List UInt8) : Dc VaD := pairD (numD xs) (pairD (tpD xs) (pairD (truthD xs) (tmD xs)))
def tyD (xs : List UInt8) : Dc TyD := pairD (numD xs) (pairD (numD xs) (numD xs))
def trD (xs : List UInt8) : Dc TrD := pairD (numD xs) (vaD xs)
def chD (xs : List UInt8) : Dc ChD := pairD (numD xs) (pairD (listD xs (tyD xs)) (pairD (listD xs (tmD xs)) (pairD (numD xs) (pairD (numD xs) (pairD (numD xs) (pairD (numD xs) (pairD (numD xs) (pairD (numD xs) (pairD (numD xs) (pairD (truthD xs) (pairD (listD xs (numD xs)) (pairD (listD xs (numD xs)) (pairD (numD xs) (pairD (numD xs) (pairD (numD xs) (pairD (numD xs) (numD xs)))))))))))))))))
def maD (xs : List UInt8) : Dc MaD := pairD (numD xs) (pairD (numD xs) (pairD (numD xs) (pairD (numD xs) (pairD (numD xs) (pairD (numD xs) (pairD (truthD xs) (pairD (listD xs (numD xs)) (pairD (listD xs (numD xs)) (pairD (listD xs (frD xs)) (pairD (listD xs (brD xs)) (pairD (listD xs (scD xs)) (pairD (listD xs (vaD xs)) (pairD (listD xs (trD xs)) (pairD (listD xs (chD xs)) (numD xs)))))))))))))))
theorem maD_eq (xs : List UInt8) : Cod.dec (α := MaD) xs = maD xs := rfl

theorem typ_rr {w0 : World} (br : Nat) (A : Option Addr) (c : Nat) (xs : List UInt8) (hx : xs.length ≤ 250000) : ∀ f m : Nat, xs.length < m + f → Rr Try.prog w0 116 [.pointer (some ⟨br, 0, none⟩)] br A c xs m (tpG xs f) stV := by
  intro f
  induction f with
  | zero => exact fun m hm H R K KP a hma hax => by omega
  | succ f ih =>
  intro m hmf
  have ih' := ih (m + 1) (by omega)
  intro H R K KP a hma hax hm hk hp
  refine callsP_of Try.func116 rfl Try.ntmps116 nep ?_
  apply TC_seq; apply TC_region
  repeat' ((refine T_gen rfl rfl ?_; ((refine gw_alloc clp (fun b => ?_))); refine T_nv ?_))
  apply T_nil; apply En_then
  revert b
  intro bt
  refine TC_swap ?_
  repeat' (first | (apply TC_seq) | (apply TC_region) | (refine T_pure rfl rfl ?_; ((refine pw_mv ?_)); refine T_nv ?_))
  refine T_rds rfl rfl (text_r br A c xs hx) hax memt (fun s1 a1 h1 le1 hle1 ho1 => ?_) (fun e he => ?_)
  rotate_left
  · skip
    repeat' ((apply En_then_panic))
    exact En_panicked (fin_P H R (fun w hs => hs.weaken sbp kpp) (hp e (by unfold tpG mapD; simp only [pairD, he])))
  refine T_nv ?_
  repeat' (first | (apply TC_seq) | (apply TC_region) | (apply T_nil) | (apply En_then) | (apply T_store; exact rfl; ((refine gw_store (i := 1) rfl clp rfl (by rfl) (by simp) (by simp [Value.oneCell']) ?_)); refine T_nv ?_; refine T_hq ?_) | (refine T_pure rfl rfl ?_; ((first | refine pw_mv ?_ | refine pw_fieldAddr rfl ?_ | refine pw_makeFuncL agp agp ?_)); refine T_nv ?_))
  refine T_rdl rfl rfl (get123_r rfl br A c xs hx 116 [.pointer (some ⟨br, 0, none⟩)] m _ _ stV_cells ih') (by omega) hle1 memt (fun l2 a2 A2 c2 h2 le2 hle2 ho2 => ?_) (fun e he => ?_)
  rotate_left
  · skip
    repeat' ((apply En_then_panic))
    exact En_panicked (fin_P H R (fun w hs => hs.weaken sbp kpp) (hp e (by unfold tpG mapD; simp only [pairD, h1, he])))
  refine T_nv ?_
  repeat' (first | (apply TC_seq) | (apply TC_region) | (apply TC_ret) | (apply T_nil) | (apply En_then) | (apply T_load; exact rfl; ((refine pw_load (i := 1) rfl rfl rfl ?_)); refine T_nv ?_) | (apply T_store; exact rfl; ((refine gw_store (i := 1) rfl clp rfl (by rfl) (by simp) (by simp [Value.oneCell']) ?_)); refine T_nv ?_; refine T_hq ?_) | (refine T_pure rfl rfl ?_; ((refine pw_fieldAddr rfl ?_)); refine T_nv ?_))
  refine En_fin (.inl rfl) (res1 rfl (rv_cell (i := 1) rfl rfl rfl)) (fin_R _ (Sl (.slice A2 l2.length c2) l2 :: R) (fun w hs => hs.weaken sbp kpp) (hk (.mk s1 l2) a2 (A2, c2) (by unfold tpG mapD; simp only [pairD, h1, h2]; rfl) (by omega) hle2 (show s1.size ≤ 9223372036854775807 ∧ l2.length ≤ 9223372036854775807 from ⟨ho1, Nat.le_trans ho2.1 ho2.2⟩)))
theorem typ_r {w0 : World} (br : Nat) (A : Option Addr) (c : Nat) (xs : List UInt8) (hx : xs.length ≤ 250000) : Rr Try.prog w0 116 [.pointer (some ⟨br, 0, none⟩)] br A c xs 0 (tpD xs) stV := typ_rr br A c xs hx _ _ (by omega)
theorem term_rr {w0 : World} (br : Nat) (A : Option Addr) (c : Nat) (xs : List UInt8) (hx : xs.length ≤ 250000) : ∀ f m : Nat, xs.length < m + f → Rr Try.prog w0 114 [.pointer (some ⟨br, 0, none⟩)] br A c xs m (tmG xs f) stV := by
  intro f
  induction f with
  | zero => exact fun m hm H R K KP a hma hax => by omega
  | succ f ih =>
  intro m hmf
  have ih' := ih (m + 1) (by omega)
  intro H R K KP a hma hax hm hk hp
  refine callsP_of Try.func114 rfl Try.ntmps114 nep ?_
  apply TC_seq; apply TC_region
  repeat' ((refine T_gen rfl rfl ?_; ((refine gw_alloc clp (fun b => ?_))); refine T_nv ?_))
  apply T_nil; apply En_then
  revert b
  intro bt
  refine TC_swap ?_
  repeat' (first | (apply TC_seq) | (apply TC_region) | (refine T_pure rfl rfl ?_; ((first | refine pw_mv ?_ | refine pw_fieldAddr rfl ?_)); refine T_nv ?_) | (refine T_gen rfl rfl ?_; ((refine gw_buildSlice (by decide) prtp rfl (fun b => ?_))); refine T_nv ?_))
  refine T_into [0, 1] rfl rfl rfl rfl (by decide) hx hax memt (by simp) (fun zs1 a1 hi le1 hle1 => ?_) (fun e he => ?_)
  rotate_left
  · skip
    repeat' ((apply En_then_panic))
    refine En_panicked (fin_P H R (fun w hs => hs.weaken sbp kpp) (hp e ?_))
    rcases intoD_er he with he | ⟨n0, b0, h1_0, he⟩
    · exact by unfold tmG mapD; simp only [pairD, he]
    rcases intoD_er he with he | ⟨n1, b1, h1_1, he⟩
    · exact by unfold tmG mapD; simp only [pairD, h1_0, he]
    cases he
  obtain ⟨n1_0, a1_0, h1_0, hi⟩ := intoD_ok hi
  obtain ⟨n1_1, a1_1, h1_1, hi⟩ := intoD_ok hi
  obtain ⟨rfl, rfl⟩ := intoD_nil hi
  refine T_nv ?_
  refine T_hq ?_
  repeat' (first | (apply TC_seq) | (apply TC_region) | (apply T_nil) | (apply En_then) | (refine T_pure rfl rfl ?_; ((refine pw_mv ?_)); refine T_nv ?_))
  refine T_rds rfl rfl (text_r br A c xs hx) hle1 memt (fun s2 a2 h2 le2 hle2 ho2 => ?_) (fun e he => ?_)
  rotate_left
  · skip
    repeat' ((apply En_then_panic))
    exact En_panicked (fin_P H R (fun w hs => hs.weaken sbp kpp) (hp e (by unfold tmG mapD; simp only [pairD, h1_0, h1_1, he])))
  refine T_nv ?_
  repeat' (first | (apply TC_seq) | (apply TC_region) | (apply T_nil) | (apply En_then) | (apply T_store; exact rfl; ((refine gw_store (i := 1) rfl clp rfl (by rfl) (by simp) (by simp [Value.oneCell']) ?_)); refine T_nv ?_; refine T_hq ?_) | (refine T_pure rfl rfl ?_; ((first | refine pw_mv ?_ | refine pw_fieldAddr rfl ?_ | refine pw_makeFuncL agp agp ?_)); refine T_nv ?_))
  refine T_rdl rfl rfl (get113_r rfl br A c xs hx 114 [.pointer (some ⟨br, 0, none⟩)] m _ _ stV_cells ih') (by omega) hle2 memt (fun l3 a3 A3 c3 h3 le3 hle3 ho3 => ?_) (fun e he => ?_)
  rotate_left
  · skip
    repeat' ((apply En_then_panic))
    exact En_panicked (fin_P H R (fun w hs => hs.weaken sbp kpp) (hp e (by unfold tmG mapD; simp only [pairD, h1_0, h1_1, h2, he])))
  refine T_nv ?_
  repeat' (first | (apply TC_seq) | (apply TC_region) | (apply TC_ret) | (apply T_nil) | (apply En_then) | (apply T_load; exact rfl; ((refine pw_load (i := 1) rfl rfl rfl ?_)); refine T_nv ?_) | (apply T_store; exact rfl; ((refine gw_store (i := 1) rfl clp rfl (by rfl) (by simp) (by simp [Value.oneCell']) ?_)); refine T_nv ?_; refine T_hq ?_) | (refine T_pure rfl rfl ?_; ((refine pw_fieldAddr rfl ?_)); refine T_nv ?_))
  refine En_fin (.inl rfl) (res1 rfl (rv_cell (i := 1) rfl rfl rfl)) (fin_R _ (Sl (.slice A3 l3.length c3) l3 :: R) (fun w hs => hs.weaken sbp kpp) (hk (.mk n1_0 n1_1 s2 l3) a3 (A3, c3) (by unfold tmG mapD; simp only [pairD, h1_0, h1_1, h2, h3]; rfl) (by omega) hle3 (show InI n1_0 ∧ InI n1_1 ∧ s2.size ≤ 9223372036854775807 ∧ l3.length ≤ 9223372036854775807 from ⟨(numD_in h1_0).1, (numD_in h1_1).1, ho2, Nat.le_trans ho3.1 ho3.2⟩)))
theorem term_r {w0 : World} (br : Nat) (A : Option Addr) (c : Nat) (xs : List UInt8) (hx : xs.length ≤ 250000) : Rr Try.prog w0 114 [.pointer (some ⟨br, 0, none⟩)] br A c xs 0 (tmD xs) stV := term_rr br A c xs hx _ _ (by omega)
theorem frame_r {w0 : World} (br : Nat) (A : Option Addr) (c : Nat) (xs : List UInt8) (hx : xs.length ≤ 250000) : Rr Try.prog w0 84 [.pointer (some ⟨br, 0, none⟩)] br A c xs 0 (frD xs) stV := by
  intro H R K KP a hma hax hm hk hp
  refine callsP_of Try.func84 rfl Try.ntmps84 nep ?_
  apply TC_seq; apply TC_region
  repeat' ((refine T_gen rfl rfl ?_; ((refine gw_alloc clp (fun b => ?_))); refine T_nv ?_))
  apply T_nil; apply En_then
  revert b
  intro bt
  refine TC_swap ?_
  repeat' (first | (apply TC_seq) | (apply TC_region) | (refine T_pure rfl rfl ?_; ((first | refine pw_mv ?_ | refine pw_makeFuncL agp agp ?_)); refine T_nv ?_))
  refine T_rdl rfl rfl (get113_r rfl br A c xs hx 114 [.pointer (some ⟨br, 0, none⟩)] 0 _ _ stV_cells ((term_r br A c xs hx).up (by omega))) (Nat.zero_le _) hax memt (fun l1 a1 A1 c1 h1 le1 hle1 ho1 => ?_) (fun e he => ?_)
  rotate_left
  · skip
    repeat' ((apply En_then_panic))
    exact En_panicked (fin_P H R (fun w hs => hs.weaken sbp kpp) (hp e (by unfold frD; simp only [pairD, he])))
  refine T_nv ?_
  repeat' (first | (apply TC_seq) | (apply TC_region) | (apply T_nil) | (apply En_then) | (apply T_store; exact rfl; ((refine gw_store (i := 1) rfl clp rfl (by rfl) (by simp) (by simp [Value.oneCell']) ?_)); refine T_nv ?_; refine T_hq ?_) | (refine T_pure rfl rfl ?_; ((first | refine pw_mv ?_ | refine pw_fieldAddr rfl ?_ | refine pw_makeFuncL agp agp ?_)); refine T_nv ?_))
  refine T_rdl rfl rfl (get113_r rfl br A c xs hx 114 [.pointer (some ⟨br, 0, none⟩)] 0 _ _ stV_cells ((term_r br A c xs hx).up (by omega))) (Nat.zero_le _) hle1 memt (fun l2 a2 A2 c2 h2 le2 hle2 ho2 => ?_) (fun e he => ?_)
  rotate_left
  · skip
    repeat' ((apply En_then_panic))
    exact En_panicked (fin_P H R (fun w hs => hs.weaken sbp kpp) (hp e (by unfold frD; simp only [pairD, h1, he])))
  refine T_nv ?_
  repeat' (first | (apply TC_seq) | (apply TC_region) | (apply T_nil) | (apply En_then) | (apply T_store; exact rfl; ((refine gw_store (i := 1) rfl clp rfl (by rfl) (by simp) (by simp [Value.oneCell']) ?_)); refine T_nv ?_; refine T_hq ?_) | (refine T_pure rfl rfl ?_; ((first | refine pw_mv ?_ | refine pw_fieldAddr rfl ?_)); refine T_nv ?_) | (refine T_gen rfl rfl ?_; ((refine gw_buildSlice (by decide) prtp rfl (fun b => ?_))); refine T_nv ?_))
  refine T_into [2, 3, 4] rfl rfl rfl rfl (by decide) hx hle2 memt (by simp) (fun zs3 a3 hi le3 hle3 => ?_) (fun e he => ?_)
  rotate_left
  · skip
    repeat' ((apply En_then_panic))
    refine En_panicked (fin_P H R (fun w hs => hs.weaken sbp kpp) (hp e ?_))
    rcases intoD_er he with he | ⟨n0, b0, h3_0, he⟩
    · exact by unfold frD; simp only [pairD, h1, h2, he]
    rcases intoD_er he with he | ⟨n1, b1, h3_1, he⟩
    · exact by unfold frD; simp only [pairD, h1, h2, h3_0, he]
    rcases intoD_er he with he | ⟨n2, b2, h3_2, he⟩
    · exact by unfold frD; simp only [pairD, h1, h2, h3_0, h3_1, he]
    cases he
  obtain ⟨n3_0, a3_0, h3_0, hi⟩ := intoD_ok hi
  obtain ⟨n3_1, a3_1, h3_1, hi⟩ := intoD_ok hi
  obtain ⟨n3_2, a3_2, h3_2, hi⟩ := intoD_ok hi
  obtain ⟨rfl, rfl⟩ := intoD_nil hi
  refine T_nv ?_
  refine T_hq ?_
  repeat' (first | (apply TC_seq) | (apply TC_region) | (apply TC_ret) | (apply T_nil) | (apply En_then) | (apply T_load; exact rfl; ((refine pw_load (i := 1) rfl rfl rfl ?_)); refine T_nv ?_) | (apply T_store; exact rfl; ((refine gw_store (i := 1) rfl clp rfl (by rfl) (by simp) (by simp [Value.oneCell']) ?_)); refine T_nv ?_; refine T_hq ?_))
  refine En_fin (.inl rfl) (res1 rfl (rv_cell (i := 1) rfl rfl rfl)) (fin_R _ (Sl (.slice A1 l1.length c1) l1 :: Sl (.slice A2 l2.length c2) l2 :: R) (fun w hs => hs.weaken sbp kpp) (hk (l1, l2, n3_0, n3_1, n3_2) a3 ((A1, c1), (A2, c2), (), (), ()) (by unfold frD; simp only [pairD, h1, h2, h3_0, h3_1, h3_2]) (by omega) hle3 (show (l1.length ≤ c1 ∧ c1 ≤ maxL) ∧ (l2.length ≤ c2 ∧ c2 ≤ maxL) ∧ InI n3_0 ∧ InI n3_1 ∧ InI n3_2 from ⟨ho1, ho2, (numD_in h3_0).1, (numD_in h3_1).1, (numD_in h3_2).1⟩)))
theorem try_r {w0 : World} (br : Nat) (A : Option Addr) (c : Nat) (xs : List UInt8) (hx : xs.length ≤ 250000) : Rr Try.prog w0 118 [.pointer (some ⟨br, 0, none⟩)] br A c xs 0 (tyD xs) stV := by
  intro H R K KP a hma hax hm hk hp
  refine callsP_of Try.func118 rfl Try.ntmps118 nep ?_
  apply TC_seq; apply TC_region
  repeat' ((refine T_gen rfl rfl ?_; ((refine gw_alloc clp (fun b => ?_))); refine T_nv ?_))
  apply T_nil; apply En_then
  revert b
  intro bt
  refine TC_swap ?_
  repeat' (first | (apply TC_seq) | (apply TC_region) | (refine T_pure rfl rfl ?_; ((first | refine pw_mv ?_ | refine pw_fieldAddr rfl ?_)); refine T_nv ?_) | (refine T_gen rfl rfl ?_; ((refine gw_buildSlice (by decide) prtp rfl (fun b => ?_))); refine T_nv ?_))
  refine T_into [0, 1, 2] rfl rfl rfl rfl (by decide) hx hax memt (by simp) (fun zs1 a1 hi le1 hle1 => ?_) (fun e he => ?_)
  rotate_left
  · skip
    repeat' ((apply En_then_panic))
    refine En_panicked (fin_P H R (fun w hs => hs.weaken sbp kpp) (hp e ?_))
    rcases intoD_er he with he | ⟨n0, b0, h1_0, he⟩
    · exact by unfold tyD; simp only [pairD, he]
    rcases intoD_er he with he | ⟨n1, b1, h1_1, he⟩
    · exact by unfold tyD; simp only [pairD, h1_0, he]
    rcases intoD_er he with he | ⟨n2, b2, h1_2, he⟩
    · exact by unfold tyD; simp only [pairD, h1_0, h1_1, he]
    cases he
  obtain ⟨n1_0, a1_0, h1_0, hi⟩ := intoD_ok hi
  obtain ⟨n1_1, a1_1, h1_1, hi⟩ := intoD_ok hi
  obtain ⟨n1_2, a1_2, h1_2, hi⟩ := intoD_ok hi
  obtain ⟨rfl, rfl⟩ := intoD_nil hi
  refine T_nv ?_
  refine T_hq ?_
  repeat' (first | (apply TC_seq) | (apply TC_region) | (apply TC_ret) | (apply T_nil) | (apply En_then) | (apply T_load; exact rfl; ((refine pw_load (i := 1) rfl rfl rfl ?_)); refine T_nv ?_) | (apply T_store; exact rfl; ((refine gw_store (i := 1) rfl clp rfl (by rfl) (by simp) (by simp [Value.oneCell']) ?_)); refine T_nv ?_; refine T_hq ?_))
  refine En_fin (.inl rfl) (res1 rfl (rv_cell (i := 1) rfl rfl rfl)) (fin_R _ (R) (fun w hs => hs.weaken sbp kpp) (hk (n1_0, n1_1, n1_2) a1 ((), (), ()) (by unfold tyD; simp only [pairD, h1_0, h1_1, h1_2]) (by omega) hle1 (show InI n1_0 ∧ InI n1_1 ∧ InI n1_2 from ⟨(numD_in h1_0).1, (numD_in h1_1).1, (numD_in h1_2).1⟩)))
end Go.Proofs.Ytggdljhmbckpmaa
