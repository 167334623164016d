/- An append to a part of an owned block. -/
import Derived.Test.YtggdljhmbckpmaaA14
import Derived.ArgAppend
set_option linter.unusedVariables false
set_option linter.unusedSimpArgs false
namespace Go.Proofs.Ytggdljhmbckpmaa
open Go Go.RowKit
attribute [local semireducible] T TC En PW GW OW CallsK CallsP Sl Rd Ls At S TA
section
variable {P : Program} {w0 : World} {H : List Hp} {R : List MP}
theorem run_append_room_off (w : World) (t ty e : TypeId) (i : TypeInfo) (ht : P.underlying t = some (.slice e)) (hi : P.info? e = some i)
    (g off sLen sCap : Nat) (cur : Array Value) (hg : w.heap[g]? = some (.cells cur e (0, 0)))
    (a : Addr) (m c : Nat) (news : List Value) (hl : news.length = m * i.size) (hnews : ∀ j u, news[j]? = some u → w.cell? (a.add j) = some u) (h1 : ∀ u ∈ news, u.oneCell' = true)
    (hroom : sLen + m ≤ sCap) (hfit : off + sLen * i.size + news.length ≤ cur.size) :
    (Builtin.append_ #[t, t] ty #[.slice (some ⟨g, off, none⟩) sLen sCap, .slice (some a) m c]).run P w =
      .ok (.slice (some ⟨g, off, none⟩) (sLen + m) sCap) (w.setRow g (cur.toList.take (off + sLen * i.size) ++ news ++ cur.toList.drop (off + sLen * i.size + news.length)).toArray) := by
  have hf := run_firstCells_some (P := P) w i.size m a m c news hl hnews
  have hst := run_storeCells_at P g (off + sLen * i.size) e news 0 cur w hg (by simpa using hfit) h1
  simp only [Nat.add_zero] at hst
  simp [Builtin.append_, run_underlying ht, sizeOf, typeInfo, hi, Builtin.lenOf, hroom, hf, Addr.add_lit, hst]
/-- What a block's part reads as, once it stays. -/
theorem Sl_at {s : Sto} {b off n c : Nat} {cs : List Value} {xs : List UInt8} (hat : (At b 0 cs).p s) (hn : n = xs.length) (hc : n ≤ c) (hcm : c ≤ maxL) (hx : ∀ k x, xs[k]? = some x → cs[off + k]? = some (byteV x)) : (Sl (.slice (some ⟨b, off, none⟩) n c) xs).p s := by
  subst hn
  refine ⟨_, _, rfl, ⟨hc, hcm⟩, fun _ => ⟨b, off, rfl, fun k x hk => ⟨[byteV x], rfl, fun j v hj => ?_⟩⟩⟩
  have hj0 : j = 0 ∧ v = byteV x := by
    cases j with
    | zero => simp at hj; exact ⟨rfl, hj.symm⟩
    | succ j => simp at hj
  obtain ⟨rfl, rfl⟩ := hj0
  have := hat (off + k) (byteV x) (hx k x hk)
  simpa [Rep.size] using this
end
section
variable {P : Program} {w0 : World} {E : List Value} {H : List Hp} {R : List MP} {ty : TypeId} {K : Value → List Hp → List MP → Prop}
/-- Bytes are appended to a part of an owned block: the outcome stays. -/
theorem gw_append_sub {t : TypeId} {s x : Operand} (i j : Nat) {b off cap b9 c by_ : Nat} {zs cs : List Value} {xs ys : List UInt8} [h : TyL P t 5 1 by_ zs] (hs : ev E s = .slice (some ⟨b, off, none⟩) xs.length cap) (hx : ev E x = .slice (some ⟨b9, 0, none⟩) ys.length c)
    (hi : H[i]? = some (.blk b cs 5)) (hj : H[j]? = some (.blk b9 (bytesV ys) 5)) (hcs : ∀ k x, xs[k]? = some x → cs[off + k]? = some (byteV x)) (hxc : xs.length ≤ cap) (hcap : cap ≤ maxLen) (hfit : off + cap ≤ cs.length)
    (hby : (xs.length + ys.length) * by_ ≤ 140737488355328) (hnm : xs.length + ys.length ≤ 140737488355328)
    (kk : ∀ A c', K (.slice A (xs ++ ys).length c') (H.eraseIdx i) (Sl (.slice A (xs ++ ys).length c') (xs ++ ys) :: R)) : GW P w0 E (.call ⟨.builtin .append, #[s, x], #[t, t]⟩) ty H R K := fun w hw => by
  obtain ⟨ti, z, hti, e1, e2, e3, e4, _⟩ := h.info
  have hzl : zs.length = 1 := h.len
  have hb := (hw.blk_heap hi).1
  have hnews : ∀ k u, (bytesV ys)[k]? = some u → w.cell? ((⟨b9, 0, none⟩ : Addr).add k) = some u := fun k u hk => by rw [Addr.add_mk]; exact hw.blk_cells hj k u hk
  have fin : ∀ v' w', (Builtin.append_ #[t, t] ty #[.slice (some ⟨b, off, none⟩) xs.length cap, .slice (some ⟨b9, 0, none⟩) ys.length c]).run P w = .ok v' w' → (∃ A c', v' = .slice A (xs ++ ys).length c' ∧ S w0 w' (H.eraseIdx i) (Sl (.slice A (xs ++ ys).length c') (xs ++ ys) :: R)) → ∃ v w' H' R', ((xop E (.call ⟨.builtin .append, #[s, x], #[t, t]⟩) ty).run P w = .ok (.value v) w' ∨ (xop E (.call ⟨.builtin .append, #[s, x], #[t, t]⟩) ty).run P w = .ok .skip w' ∧ v = undef) ∧ S w0 w' H' R' ∧ K v H' R' := fun v' w' hr ⟨A, c', e, hs'⟩ =>
    ⟨v', w', _, _, .inl (by simp [xop, execOp, resolve, invoke, builtin, hs, hx, hr]), hs', e ▸ kk A c'⟩
  by_cases hroom : xs.length + ys.length ≤ cap
  · have hr := run_append_room_off (P := P) w t ty 5 ti h.und hti b off xs.length cap cs.toArray hb ⟨b9, 0, none⟩ ys.length c (bytesV ys) (by simp [e1]) hnews (bytesV_one _) hroom (by simp [e1]; omega)
    refine fin _ _ hr ⟨some ⟨b, off, none⟩, cap, by rw [List.length_append], ?_⟩
    have h2 := hw.setRow hi (cs.take (off + xs.length * ti.size) ++ bytesV ys ++ cs.drop (off + xs.length * ti.size + (bytesV ys).length))
    have hlt : i < H.length := (List.getElem?_eq_some_iff.1 hi).1
    have h3 := h2.freeze (i := i) (b := b) (T := 5) (by rw [List.getElem?_set_self hlt])
    rw [List.eraseIdx_set_eq] at h3
    refine (h3.add (Sl (.slice (some ⟨b, off, none⟩) (xs ++ ys).length cap) (xs ++ ys)) (fun s hR => Sl_at (hR _ List.mem_cons_self) rfl (by rw [List.length_append]; omega) (by simp only [maxLen] at hcap; simp only [maxL]; omega) (fun k x hk => ?_))).weaken (List.Sublist.refl _) (fun p hp => by
      rcases List.mem_cons.1 hp with rfl | hp
      · simp
      · simp [hp])
    rw [e1, Nat.mul_one]
    by_cases hk' : k < xs.length
    · rw [List.getElem?_append_left hk'] at hk
      rw [List.append_assoc, List.getElem?_append_left (by simp; omega), List.getElem?_take, if_pos (by omega)]
      exact hcs k x hk
    · rw [List.getElem?_append_right (by omega)] at hk
      have hk2 := (List.getElem?_eq_some_iff.1 hk).1
      rw [List.append_assoc, List.getElem?_append_right (by simp; omega), List.getElem?_append_left (by simp; omega)]
      rw [List.length_take, Nat.min_eq_left (by omega), show off + k - (off + xs.length) = k - xs.length by omega]
      simp [bytesV, hk]
  · obtain ⟨v', w', hr, ho, hg⟩ := run_append_arg_grows (P := P) w t ty 5 ti z 1 by_ h.und hti e3 e1 e2 (by rw [e4]; simpa using hzl) (by omega) ⟨b, off, none⟩ xs.length cap (bytesV xs) (by simp) (fun k u hk => by
        rw [Addr.add_mk]
        have hk2 : ∃ x, xs[k]? = some x ∧ u = byteV x := by
          simp only [bytesV, List.getElem?_map] at hk
          cases hx : xs[k]? with
          | none => rw [hx] at hk; cases hk
          | some x => rw [hx] at hk; exact ⟨x, rfl, by simpa using hk.symm⟩
        obtain ⟨x, hx1, rfl⟩ := hk2
        have := hw.blk_cells hi (off + k) (byteV x) (hcs k x hx1)
        simpa using this) ⟨b9, 0, none⟩ ys.length c (bytesV ys) (by simp) hnews (by omega) (by simp only [maxLen]; omega) hby
    refine fin v' w' hr ?_
    have h2 := ((hw.drop i).nilrow 5 1).grow (i := 0) (n' := xs.length + ys.length) (v' := v') (cs' := bytesV xs ++ bytesV ys) rfl hg ⟨ho.1, ?_⟩ ?_
    · rw [← bytesV_append] at h2
      obtain ⟨A, c', e, h3⟩ := S.row_stays (i := 0) (m := xs.length + ys.length) (xs := xs ++ ys) h2 rfl
      exact ⟨A, c', e, h3⟩
    · rcases ho.2 with ho | ⟨g, cap', cur, k1, k2, k3⟩
      · exact .inl ho
      · exact .inr ⟨g, cap', cur, k1, Nat.le_trans hw.below.size k2, k3⟩
    · rcases ho.2 with ⟨ho, _⟩ | ⟨g, cap', cur, k1, k2, k3⟩
      · subst ho; exact .inl rfl
      · subst k1; exact .inr (.inr ⟨g, rfl, k2⟩)
end
end Go.Proofs.Ytggdljhmbckpmaa
