/- What is owned is made to stay, where the order is drawn. -/
import Derived.Test.YtggdljhmbckpmaaA18
import Derived.Test.YtggdljhmbckpmaaA14
set_option linter.unusedVariables false
set_option linter.unusedSimpArgs false
namespace Go.Proofs.Ytggdljhmbckpmaa
open Go Go.RowKit
attribute [local semireducible] T TA TC En PW GW OW CallsK CallsP Sl Rd Ls At S
section
variable {F : Fence} {n : Nat} {P : Program} {w0 : World} {D : List Deferred} {ops : Array Oper} {Q : Exit → Act → World → Prop} {rest : List Oper} {E : List Value} {H : List Hp} {R : List MP}
theorem TA_staysx {α : Type} [Rep α] {Hc : List Hp} {Rc : List MP} {kk : Nat} {listed : Array Bool} (i : Nat) {v : Value} {T' : TypeId} {sz m : Nat} {cs : List Value} {xs : List α} (hi : H[i]? = some (.row v T' sz m cs)) (hsz : Rep.size α = sz) (h0 : 0 < sz) (hx : Cx cs xs ∈ R) (k : ∀ A c, v = .slice A xs.length c → TA F n P w0 D ops Q Hc Rc kk listed E (H.eraseIdx i) (Sl (.slice A xs.length c) xs :: R)) : TA F n P w0 D ops Q Hc Rc kk listed E H R := fun hreg w hs => by
  obtain ⟨A, c, e, h⟩ := hs.stays hi hsz h0 hx
  exact TW_any _ _ _ _ _ _ _ w (k A c e hreg w h)
/-- The only one that may come up is not wanted. -/
theorem TA_os (i : Nat) {dst : Option Tmp} {op : Op} {ty : TypeId} {pos : String} {aft : Array Edge} {g : Option (Nat × Bool)} {Hc : List Hp} {Rc : List MP} {k : Nat} {listed listed' : Array Bool} {E' : List Value} (h : TA F n P w0 D ops Q Hc Rc k listed' E' H R)
    (hi : ops[i]? = some ⟨dst, op, ty, pos, aft, g⟩ := by exact rfl) (hl : listed.setIfInBounds i true = listed' := by simp only [List.setIfInBounds_toArray, List.set_cons_succ, List.set_cons_zero]; rfl) (hr : Region.ready .any ops listed = [i] := by decide +kernel)
    (hw : wnt ops ⟨dst, op, ty, pos, aft, g⟩ E = false := by exact rfl) (he : setD E dst undef = E' := by simp only [setD, List.set_cons_succ, List.set_cons_zero]; rfl) : TA F n P w0 D ops Q Hc Rc (k + 1) listed E H R := TA_oneskip i hr hi hl hw (TA_env he h)
theorem S.str_stay {w : World} {b : Nat} {T' : TypeId} {xs : List UInt8} (hl : xs.length ≤ 140737488355328) (hs : S w0 w (.blk b [.string (strV xs)] T' :: H) R) : S w0 w H (Sl (.slice (some ⟨b, 0, none⟩) 1 1) ([strV xs] : List ByteArray) :: R) := by
  have hsz : (strV xs).size = xs.length := rfl
  exact ((hs.learn (Cx [.string (strV xs)] ([strV xs] : List ByteArray)) (fun s _ => Cx_one ⟨rfl, by rw [hsz]; simp only [maxL]; omega⟩)).blk_stays (i := 0) (b := b) (T := T') (cs := [.string (strV xs)]) (n := 1) (c := 1) (sp := []) rfl List.mem_cons_self rfl (Nat.le_refl _) (by decide)).weaken (List.Sublist.refl _) (sub_cons List.mem_cons_self (fun p hp => List.mem_cons_of_mem _ (List.mem_cons_of_mem _ hp)))
end
end Go.Proofs.Ytggdljhmbckpmaa
