/- Plain facts on the lengths of what the functions on drives return. -/
import Derived.Test.YtggdljhmbckpmaaP1
set_option linter.unusedVariables false
set_option linter.unusedSimpArgs false
namespace Go.Proofs.Ytggdljhmbckpmaa
theorem doL_len' : ∀ (l : List DO) (d : Drive), checkD d = true → l.all (rightB d.bytes.length) = true → (doL l d).1.bytes.length ≤ 600000 ∧ (doL l d).1.pending.length ≤ 100
  | [], d, h, _ => ⟨(checkD_spec h).2.1, (checkD_spec h).2.2.2.1⟩
  | x :: l, d, h, hr => by
    simp only [List.all_cons, Bool.and_eq_true] at hr
    simp only [doL]
    split
    · have hl := hasB_length h
      exact doL_len' l ⟨hasB d, []⟩ (checkD_bare h hl) (by rw [hl]; exact hr.2)
    · rename_i hk
      split
      · exact ⟨Nat.zero_le _, Nat.zero_le _⟩
      · have h100 := (checkD_spec h).2.2.2.1
        exact doL_len' l ⟨d.bytes, d.pending ++ [⟨x.at_, x.data⟩]⟩ (checkD_snoc (x := ⟨x.at_, x.data⟩) h (by omega) ((rightB_spec hr.1).2 hk)) hr.2
theorem doD_len' (d : Drive) (l : List DO) : (doD d l).1.bytes.length ≤ 600000 ∧ (doD d l).1.pending.length ≤ 100 := by
  unfold doD
  split
  · split
    · exact doL_len' l d (by assumption) (by assumption)
    · exact ⟨Nat.zero_le _, Nat.zero_le _⟩
  · exact ⟨Nat.zero_le _, Nat.zero_le _⟩
theorem crashD_len (d : Drive) (p : List Int) : (crashD d p).1.pending.length ≤ 100 := by
  unfold crashD
  split <;> exact Nat.zero_le _
theorem newD_len (n : Int) : (newD n).1.pending.length ≤ 100 := by
  unfold newD
  split <;> exact Nat.zero_le _
end Go.Proofs.Ytggdljhmbckpmaa
