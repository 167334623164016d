/- Plain laws: what the operations of an append make of a drive without pending writes, done up to any of them. -/
import Derived.Test.YtggdljhmbckpmaaQ3
import Derived.Test.YtggdljhmbckpmaaP1
set_option linter.unusedVariables false
set_option linter.unusedSimpArgs false
namespace Go.Proofs.Ytggdljhmbckpmaa

theorem spl_get (xs ys : List UInt8) (a i : Nat) (h : a + ys.length ≤ xs.length) : (spl xs a ys)[i]? = if i < a then xs[i]? else if i < a + ys.length then ys[i - a]? else xs[i]? := by
  unfold spl
  have ht : (xs.take a).length = a := by simp; omega
  by_cases h1 : i < a
  · rw [if_pos h1, List.append_assoc, List.getElem?_append_left (by omega), List.getElem?_take, if_pos h1]
  · rw [if_neg h1]
    by_cases h2 : i < a + ys.length
    · rw [if_pos h2, List.append_assoc, List.getElem?_append_right (by omega), ht, List.getElem?_append_left (by omega)]
    · rw [if_neg h2, List.append_assoc, List.getElem?_append_right (by omega), ht, List.getElem?_append_right (by omega), List.getElem?_drop]
      congr 1; omega

/-- What an append is about. -/
structure App (d : Drive) (data : List UInt8) (l : List Rc) (half size : Nat) (p : Spot) (z : List UInt8) : Prop where
  ok : checkD d = true
  bare : d.pending = []
  len : d.bytes.length = 2 * size
  small : size ≤ 300000
  cur : curB d.bytes = (l, half)
  room : 21 + data.length ≤ size
  spot : spotB l half size (21 + data.length) = p
  ep : p.epoch ≤ 2147483647
  sq : p.seq ≤ 2147483647
  z1 : z = if p.at_ + (21 + data.length) < (p.half + 1) * size then [0] else []
def bodyB (p : Spot) (data z : List UInt8) : List UInt8 := (wholeB p.epoch p.seq data).drop 1 ++ z
def ops6 (p : Spot) (data z : List UInt8) : List DO := [⟨1, p.at_, [0]⟩, ⟨2, 0, []⟩, ⟨1, (p.at_ + 1 : Nat), bodyB p data z⟩, ⟨2, 0, []⟩, ⟨1, p.at_, [167]⟩, ⟨2, 0, []⟩]
theorem hasB_bare {d : Drive} (h : d.pending = []) : hasB d = d.bytes := by unfold hasB; rw [h]; rfl
theorem app_of {d : Drive} {data : List UInt8} {ops : List DO} (hc : checkD d = true) (hb : d.pending = []) (h : appendD d data = (ops, 0)) :
    ∃ l half size p z, App d data l half size p z ∧ ops = ops6 p data z := by
  obtain ⟨h1, h2, h3, h4, h5⟩ := checkD_spec hc
  unfold appendD at h
  rw [hc, if_pos rfl, hasB_bare hb] at h
  split at h
  · injection h with _ h; cases h
  · rename_i hr
    unfold opsB at h
    split at h
    · injection h with _ h; cases h
    · rename_i he
      injection h with h _
      refine ⟨(curB d.bytes).1, (curB d.bytes).2, d.bytes.length / 2, _, _, ⟨hc, hb, by omega, by omega, rfl, by omega, rfl, by omega, by omega, rfl⟩, ?_⟩
      rw [← h]; rfl
/-- What an append says where it does nothing. -/
theorem append_no {d : Drive} {data : List UInt8} (hc : checkD d = true) (h : (appendD d data).2 ≠ 0) : (appendD d data).2 = 303 ∨ (appendD d data).2 = 2 := by
  unfold appendD opsB at h ⊢
  rw [hc, if_pos rfl] at h ⊢
  split
  · exact .inl rfl
  · rename_i h1
    rw [if_neg h1] at h
    split
    · exact .inr rfl
    · rename_i h2
      rw [if_neg h2] at h
      exact absurd rfl h

section
variable {d : Drive} {data : List UInt8} {l : List Rc} {half size : Nat} {p : Spot} {z : List UInt8}
theorem App.place (A : App d data l half size p z) : p.half ≤ 1 ∧ p.at_ + (21 + data.length) ≤ (p.half + 1) * size ∧ p.half * size ≤ p.at_ ∧ (p.half + 1) * size ≤ 2 * size ∧ z.length ≤ 1 ∧ p.at_ + (21 + data.length) + z.length ≤ (p.half + 1) * size := by
  obtain ⟨m, ep, h1, h2, h3, h4, h5, h6⟩ := half_written A.len A.small A.cur A.room A.spot rfl (fun _ _ => rfl)
  have h7 : (p.half + 1) * size ≤ 2 * size := Nat.mul_le_mul_right _ (by omega)
  have hz := A.z1
  by_cases h : p.at_ + (21 + data.length) < (p.half + 1) * size
  · rw [if_pos h] at hz; subst hz
    exact ⟨h4, h5, h6, h7, by simp, by simp; omega⟩
  · rw [if_neg h] at hz; subst hz
    exact ⟨h4, h5, h6, h7, by simp, by simp; omega⟩
theorem App.body_len (A : App d data l half size p z) : (bodyB p data z).length = 20 + data.length + z.length := by
  unfold bodyB; rw [List.length_append, List.length_drop, wholeB_length]; omega
def App.b1 (_ : App d data l half size p z) : List UInt8 := spl d.bytes p.at_ [0]
def App.b3 (A : App d data l half size p z) : List UInt8 := spl A.b1 (p.at_ + 1) (bodyB p data z)
def App.b5 (A : App d data l half size p z) : List UInt8 := spl A.b3 p.at_ [167]
theorem App.len1 (A : App d data l half size p z) : A.b1.length = 2 * size := by
  have := A.place; have := A.len
  unfold App.b1; rw [spl_length _ _ _ (by simp; omega)]; exact A.len
theorem App.len3 (A : App d data l half size p z) : A.b3.length = 2 * size := by
  have := A.place; have := A.body_len; have := A.len1
  unfold App.b3; rw [spl_length _ _ _ (by omega)]; exact A.len1
theorem App.len5 (A : App d data l half size p z) : A.b5.length = 2 * size := by
  have := A.place; have := A.len3
  unfold App.b5; rw [spl_length _ _ _ (by simp; omega)]; exact A.len3
theorem right_w {n a : Nat} {xs : List UInt8} (h : a + xs.length ≤ n) : rightB n ⟨1, (a : Int), xs⟩ = true := by
  simp only [rightB, if_pos, withinB, decide_eq_true_eq]; omega
theorem right_s {n : Nat} : rightB n ⟨2, 0, []⟩ = true := by simp [rightB]
theorem App.right (A : App d data l half size p z) : (ops6 p data z).all (rightB d.bytes.length) = true := by
  have h1 := A.place; have h2 := A.body_len; have h3 := A.len
  unfold ops6
  simp only [List.all_cons, List.all_nil, Bool.and_true, Bool.and_eq_true]
  exact ⟨right_w (by simp; omega), right_s, right_w (by omega), right_s, right_w (by simp; omega), right_s⟩
/-- The drive behind so many of the operations. -/
def App.st (A : App d data l half size p z) : Nat → Drive
  | 0 => ⟨d.bytes, []⟩
  | 1 => ⟨d.bytes, [⟨p.at_, [0]⟩]⟩
  | 2 => ⟨A.b1, []⟩
  | 3 => ⟨A.b1, [⟨(p.at_ + 1 : Nat), bodyB p data z⟩]⟩
  | 4 => ⟨A.b3, []⟩
  | 5 => ⟨A.b3, [⟨p.at_, [167]⟩]⟩
  | _ => ⟨A.b5, []⟩
theorem doL_w {x : DO} {l : List DO} {b : List UInt8} (hk : x.kind ≠ 2) : doL (x :: l) ⟨b, []⟩ = doL l ⟨b, [⟨x.at_, x.data⟩]⟩ := by
  rw [doL, if_neg hk, if_neg (by simp)]; rfl
theorem doL_s {x : DO} {l : List DO} {b ys : List UInt8} {a : Nat} (hk : x.kind = 2) : doL (x :: l) ⟨b, [⟨(a : Int), ys⟩]⟩ = doL l ⟨spl b a ys, []⟩ := by
  rw [doL, if_pos hk]; rfl
theorem App.done (A : App d data l half size p z) (n : Nat) (hn : n ≤ 6) : doD d ((ops6 p data z).take n) = (A.st n, 0) := by
  have hd : d = ⟨d.bytes, []⟩ := by
    have := A.bare
    cases d; simp only at this; subst this; rfl
  unfold doD
  have hr : ((ops6 p data z).take n).all (rightB d.bytes.length) = true := by
    have := A.right
    rw [List.all_eq_true] at this ⊢
    exact fun x hx => this x (List.mem_of_mem_take hx)
  rw [A.ok, if_pos rfl, hr, if_pos rfl]
  have e : doL ((ops6 p data z).take n) d = doL ((ops6 p data z).take n) ⟨d.bytes, []⟩ := by rw [← hd]
  rw [e]
  unfold ops6
  match n, hn with
  | 0, _ => rfl
  | 1, _ => rfl
  | 2, _ => rfl
  | 3, _ => rfl
  | 4, _ => rfl
  | 5, _ => rfl
  | 6, _ => rfl
theorem App.b5_get (A : App d data l half size p z) (i : Nat) : A.b5[i]? = if p.at_ ≤ i ∧ i < p.at_ + (21 + data.length) + z.length then (wholeB p.epoch p.seq data ++ z)[i - p.at_]? else d.bytes[i]? := by
  have h1 := A.place; have h2 := A.body_len; have h3 := A.len; have h4 := A.len1; have h5 := A.len3
  have hw := wholeB_length p.epoch p.seq data
  have w0 : (wholeB p.epoch p.seq data)[0]? = some 167 := by simp [wholeB, headB]
  unfold App.b5
  rw [spl_get _ _ _ _ (by simp; omega)]
  have g3 : A.b3[i]? = if i < p.at_ + 1 then A.b1[i]? else if i < p.at_ + 1 + (bodyB p data z).length then (bodyB p data z)[i - (p.at_ + 1)]? else A.b1[i]? := by
    unfold App.b3; rw [spl_get _ _ _ _ (by omega)]
  have g1 : A.b1[i]? = if i < p.at_ then d.bytes[i]? else if i < p.at_ + 1 then ([0] : List UInt8)[i - p.at_]? else d.bytes[i]? := by
    unfold App.b1; rw [spl_get _ _ _ _ (by simp; omega)]; rfl
  by_cases c1 : i < p.at_
  · rw [if_pos c1, g3, if_pos (by omega), g1, if_pos c1, if_neg (by omega)]
  · rw [if_neg c1]
    by_cases c2 : i < p.at_ + 1
    · have : i = p.at_ := by omega
      subst this
      rw [if_pos (by simp), if_pos (by omega), Nat.sub_self, List.getElem?_append_left (by omega), w0]; rfl
    · rw [if_neg (by simp; omega), g3, if_neg c2]
      by_cases c3 : i < p.at_ + (21 + data.length) + z.length
      · rw [if_pos (by omega), if_pos (by omega)]
        unfold bodyB
        have : (wholeB p.epoch p.seq data).drop 1 ++ z = (wholeB p.epoch p.seq data ++ z).drop 1 := by
          rw [List.drop_append_of_le_length (by omega)]
        rw [this, List.getElem?_drop]
        congr 1; omega
      · rw [if_neg (by omega), if_neg (by omega), g1, if_neg c1, if_neg c2]
/-- All done: the new record is there. -/
theorem App.cur_full (A : App d data l half size p z) : curB A.b5 = ((if p.half = half then l else []) ++ [⟨p.at_, p.epoch, p.seq, data⟩], p.half) := by
  have h1 := A.place
  have hw := wholeB_length p.epoch p.seq data
  refine cur_whole A.len A.small A.cur A.room A.spot (by rw [A.len5, A.len]) (fun i hi => ?_) A.ep A.sq (fun k hk => ?_) (fun hz => ?_)
  · rw [A.b5_get, if_neg (by omega)]
  · rw [A.b5_get, if_pos (by omega), Nat.add_sub_cancel_left, List.getElem?_append_left (by omega)]
  · have hz2 := A.z1
    rw [if_pos (by omega)] at hz2
    have e : p.at_ + 21 + data.length - p.at_ = 21 + data.length := by omega
    rw [A.b5_get, if_pos (by rw [hz2]; simp; omega), e, List.getElem?_append_right (by omega), hw, Nat.sub_self, hz2]; rfl
end
end Go.Proofs.Ytggdljhmbckpmaa
