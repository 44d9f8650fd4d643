/- copy; freezing. No condition. -/
import Derived.Test.YtohfemfgnohhdaaVc15
namespace Go.Vc
set_option linter.unusedVariables false
set_option linter.unusedSimpArgs false

def copyVC (T : List (Nat × TE)) (Γ : Sy) (n : Nat) (dT : TypeId) (A B : AV) (D : Nat) (K : Sy → Prop) : Prop := match get? T dT with
  | some { kind := .sl e, .. } => match get? T e with
    | some te => match A with
      | .own k => match get? Γ.own k with
        | some (.row e' τ fr xs) => match srcOf Γ.own τ B with
          | some (ys, b) => (te.size = 1 ∧ τ.leaf = true ∧ D < n) ∧
              K ⟨set Γ.tmps D (.lit (.int .i64 (min ys.length xs.length : Nat))), set Γ.own k (.row e' τ (fr && b) (ys.take (min ys.length xs.length) ++ xs.drop (min ys.length xs.length)))⟩
          | none => False
        | _ => False
      | _ => False
    | none => False
  | _ => False

theorem copyVC.sound {P : Program} {T : List (Nat × TE)} (hT : TOk P T) {c : Cx} {o : Oper} {Γ : Sy} {dT sT : TypeId} {s x : Operand} {A B : AV} {D : Nat} {K : Sy → Prop}
    (ho : o.op = .call { callee := .builtin .copy, args := #[s, x], argTypes := #[dT, sT] }) (hd : o.dst = some D) (hs : Ev c Γ [] s A) (hx : Ev c Γ [] x B) (h : copyVC T Γ c.n dT A B D K) : ∃ Γ', Seq P c o Γ Γ' ∧ K Γ' := by
  unfold copyVC at h
  split at h
  · rename_i e sz by_ ze ty ht
    have hu := (hT _ _ ht).sl rfl
    split at h
    · rename_i te hte
      obtain ⟨i0, hi, _, hsz, _⟩ := (hT _ _ hte).info
      split at h
      · rename_i k
        split at h
        · rename_i e' τ fr xs hk
          split at h
          · rename_i ys b hsrc
            obtain ⟨⟨h1, h2, hD⟩, hK⟩ := h
            refine ⟨_, ?_, hK⟩
            intro g a w next Q hst hnext
            have hA : a.eval s = g k := hs trivial Γ g a w rfl hst
            have hB := srcOf_ok hst hsrc (hx trivial Γ g a w rfl hst)
            have hsz1 : (P.info? e).map (·.size) = some 1 := by rw [hi]; simp [hsz, h1]
            have fin : ∀ w' : World, (Builtin.copy_ #[dT, sT] o.type #[a.eval s, a.eval x]).run P w = .ok (goInt (min ys.length xs.length : Nat)) w' →
                St c ⟨Γ.tmps, set Γ.own k (.row e' τ (fr && b) (ys.take (min ys.length xs.length) ++ xs.drop (min ys.length xs.length)))⟩ g a w' → o.wp P a w next Q := by
              intro w' hrun hst'
              unfold Oper.wp
              have : (execOp a.eval o).run P w = .ok (.value (goInt (min ys.length xs.length : Nat))) w' := by simp [execOp, ho, resolve, invoke, builtin, hrun]
              rw [this]
              simp only [Oper.upon, hd]
              exact hnext g _ w' (hst'.put hD ⟨rfl, rfl⟩)
            have hset : ∀ b', Oset (set Γ.own k (.row e' τ (fr && b) (ys.take (min ys.length xs.length) ++ xs.drop (min ys.length xs.length)))) g b' → Oset Γ.own g b' := by
              rintro b' ⟨k', o', h3, h4⟩
              rw [get?_set] at h3
              split at h3
              · rename_i e2; exact ⟨k', _, by rw [e2]; exact hk, h4⟩
              · exact ⟨k', o', h3, h4⟩
            obtain ⟨zs, hown, hone, f, hf, hr⟩ := hst.hp.ok k _ hk
            by_cases hm : min ys.length xs.length = 0
            · have hvals : ∃ d1 d2 s1 s2 l1 l2, a.eval s = .slice d1 l1 d2 ∧ a.eval x = .slice s1 l2 s2 ∧ l1 = xs.length ∧ l2 = ys.length := by
                have hxl : ∃ s1 s2, a.eval x = .slice s1 ys.length s2 := by
                  rcases hB with ⟨h5, h6⟩ | ⟨_, _, h5, h6⟩ | ⟨_, _, _, _, h5, _⟩
                  · exact ⟨_, _, by rw [h5, h6]; rfl⟩
                  · exact ⟨_, _, by rw [h5, h6]; rfl⟩
                  · exact ⟨_, _, h5⟩
                have hsl : ∃ d1 d2, a.eval s = .slice d1 xs.length d2 := by
                  rcases hown.2 with ⟨h5, h6⟩ | ⟨_, _, _, h5, _⟩
                  · exact ⟨_, _, by rw [hA, h5, h6]⟩
                  · exact ⟨_, _, hA.trans h5⟩
                obtain ⟨s1, s2, h7⟩ := hxl
                obtain ⟨d1, d2, h8⟩ := hsl
                exact ⟨d1, d2, s1, s2, _, _, h8, h7, rfl, rfl⟩
              obtain ⟨d1, d2, s1, s2, l1, l2, h5, h6, rfl, rfl⟩ := hvals
              refine fin w ?_ ?_
              · rw [h5, h6, run_copy_none w dT sT o.type e d1 s1 _ d2 _ s2 hu hsz1 hm, hm]; rfl
              · have key := hst.write (k := k) (o' := .row e' τ (fr && b) (ys.take (min ys.length xs.length) ++ xs.drop (min ys.length xs.length))) (v' := g k) (w' := w) hk ⟨rfl, rfl, rfl, Nat.le_refl _, fun _ _ _ => rfl⟩ (.inl rfl) (fun b' h => .inl h)
                rw [updg_self] at key
                apply key
                rw [hm]
                simp only [List.take_zero, List.drop_zero, List.nil_append]
                refine ⟨zs, hown, hone, f, hf, fun q z hz => ?_⟩
                refine (hr q z hz).mono fun b' y e2 fz hb' hn => ⟨hb', fun h' => hn ?_⟩
                rcases h' with h' | ⟨h', h''⟩
                · refine .inl (hset b' ?_)
                  rw [hm]
                  simpa using h'
                · exact .inr ⟨by simp at h'; exact h'.1, h''⟩
            · rcases hB with ⟨h5, h6⟩ | ⟨_, _, h5, h6⟩ | ⟨bs, offs, cps, f2, h5, h6, h7⟩
              · exfalso; apply hm; rw [h6]; simp
              · exfalso; apply hm; rw [h6]; simp
              · rcases hown.2 with ⟨h8, h9⟩ | ⟨bd, cap, cur, h8, h9, h10, h11, h12, h13, h14⟩
                · exfalso; apply hm; rw [h9]; simp
                · let m := min ys.length xs.length
                  have hmy : m ≤ ys.length := Nat.min_le_left _ _
                  have hmx : m ≤ xs.length := Nat.min_le_right _ _
                  have hs1 : τ.size = 1 := by cases τ <;> first | rfl | (cases h2; done)
                  rw [hs1] at hf h6 h13 h14
                  let cs : List Value := (List.range m).map f2
                  have c2 : ∀ q, q < ys.length → (f2 q).cells = #[f2 q] := fun q hq => (h7 q _ (List.getElem?_eq_getElem hq)).cells1 (enc_leaf _ _ h2)
                  have c3 : ∀ q, q < ys.length → w.cell? ⟨bs, offs + q, none⟩ = some (f2 q) := by
                    intro q hq
                    have := (h6 q hq).2 0 (by omega)
                    rw [c2 q hq] at this
                    simpa using this
                  have c4 : ∀ v ∈ cs, v.oneCell' = true := by
                    intro v hv
                    obtain ⟨q, hq, rfl⟩ := List.mem_map.1 hv
                    have hq' : q < ys.length := by have := List.mem_range.1 hq; omega
                    exact (h7 q _ (List.getElem?_eq_getElem hq')).one (enc_leaf _ _ h2)
                  have hcl : cs.length = m := by simp [cs]
                  have hrun := run_copy_row (P := P) w dT sT o.type e bd 0 xs.length cap ⟨bs, offs, none⟩ ys.length cps cur e' cs hu hsz1 h10 hcl (fun j v hj => by
                    have hjm : j < m := by rw [← hcl]; exact (List.getElem?_eq_some_iff.1 hj).1
                    have : v = f2 j := by simpa [cs, hjm] using hj.symm
                    rw [this, Addr.add_lit]
                    exact c3 j (by omega)) (by rw [hcl]; omega) c4
                  rw [hcl] at hrun
                  simp only [List.take_zero, List.nil_append, Nat.zero_add] at hrun
                  refine fin _ (by rw [hA, h8, h5]; exact hrun) ?_
                  have hcur : m ≤ cur.toList.length := by simp; omega
                  have hget : ∀ q, (cs ++ cur.toList.drop m)[q]? = if q < m then cs[q]? else cur[q]? := by
                    intro q
                    by_cases hq : q < m
                    · rw [if_pos hq, List.getElem?_append_left (by omega)]
                    · rw [if_neg hq, List.getElem?_append_right (by omega), List.getElem?_drop, hcl]
                      simp
                      congr 1
                      omega
                  have key := hst.write (k := k) (o' := .row e' τ (fr && b) (ys.take (min ys.length xs.length) ++ xs.drop (min ys.length xs.length))) (v' := g k) (w' := w.setRow bd (cs ++ cur.toList.drop m).toArray) hk (by rw [h8]; exact grown_setRow w bd _) (.inl rfl) (fun b' h => .inl h)
                  rw [updg_self] at key
                  apply key
                  have hlen : (ys.take (min ys.length xs.length) ++ xs.drop (min ys.length xs.length)).length = xs.length := by
                    rw [List.length_append, List.length_take, List.length_drop]; omega
                  have hbO : Oset Γ.own g bd := ⟨k, _, hk, by rw [h8]; exact .of rfl⟩
                  have hmono : ∀ {φ : Bool} {v : Value} {S : SV}, ((fr && b) = true → φ = true) → RpS w (Av (Oset Γ.own g) c.O0 φ) v S →
                      RpS (w.setRow bd (cs ++ cur.toList.drop m).toArray) (Av (Oset (set Γ.own k (.row e' τ (fr && b) (ys.take (min ys.length xs.length) ++ xs.drop (min ys.length xs.length)))) g) c.O0 (fr && b)) v S := by
                    intro φ v S hφ h
                    refine h.mono fun b' y e2 fz hb' hn => ⟨?_, fun h' => hn ?_⟩
                    · rw [setRow_other]
                      · exact hb'
                      · intro he; subst he; exact hn (.inl hbO)
                    · rcases h' with h' | ⟨h', h''⟩
                      · exact .inl (hset _ h')
                      · exact .inr ⟨hφ h', h''⟩
                  have hzs : ∀ q, q < xs.length → cur[q]? = zs[q]? := by
                    intro q hq
                    rw [← h14, Nat.mul_one, List.getElem?_take, if_pos hq]
                    simp
                  refine ⟨(cs ++ cur.toList.drop m).take xs.length, ⟨?_, .inr ⟨bd, cap, _, ?_, h9, setRow_heap w bd cur _ e' (0, 0) h10, ?_, h12, ?_, ?_⟩⟩, fun v hv => ?_, fun q => if q < m then f2 q else f q, fun q hq => ?_, fun q z hz => ?_⟩
                  · rw [hlen, hs1, List.length_take, List.length_append, hcl, List.length_drop]; simp; omega
                  · rw [h8, hlen]
                  · rw [hlen]; exact h11
                  · rw [List.size_toArray, List.length_append, hcl, List.length_drop, hs1]; simp; omega
                  · rw [hlen, hs1, Nat.mul_one]
                  · obtain ⟨q, hq, rfl⟩ := List.mem_iff_getElem.1 hv
                    rw [List.getElem_take]
                    rw [List.length_take] at hq
                    have h16 := hget q
                    rw [List.getElem?_eq_getElem (by omega)] at h16
                    split at h16
                    · exact c4 _ (List.mem_of_getElem? h16.symm)
                    · rw [hzs q (by omega)] at h16
                      exact hone _ (List.mem_of_getElem? h16.symm)
                  · rw [hlen] at hq
                    rw [hs1]
                    by_cases hqm : q < m
                    · simp only [hqm, if_true]
                      rw [c2 q (by omega)]
                      refine ⟨rfl, fun j hj => ?_⟩
                      have : j = 0 := by omega
                      subst this
                      rw [Nat.mul_one, Nat.add_zero, List.getElem?_take, if_pos hq, hget, if_pos hqm]
                      simp [cs, hqm]
                    · simp only [hqm, if_false]
                      refine ⟨(hf q hq).1, fun j hj => ?_⟩
                      have : j = 0 := by omega
                      subst this
                      have h17 := (hf q hq).2 0 hj
                      dsimp only at h17 ⊢
                      rw [Nat.mul_one, Nat.add_zero] at h17 ⊢
                      rw [← h17, List.getElem?_take, if_pos hq, hget, if_neg hqm]
                      exact hzs q hq
                  · have hql : q < xs.length := by rw [← hlen]; exact (List.getElem?_eq_some_iff.1 hz).1
                    by_cases hqm : q < m
                    · simp only [hqm, if_true]
                      rw [List.getElem?_append_left (by rw [List.length_take]; omega), List.getElem?_take, if_pos (by omega)] at hz
                      exact hmono (fun h => by simp at h; exact h.2) (h7 q z hz)
                    · simp only [hqm, if_false]
                      rw [List.getElem?_append_right (by rw [List.length_take]; omega), List.getElem?_drop, List.length_take] at hz
                      rw [show min ys.length xs.length + (q - min (min ys.length xs.length) ys.length) = q from by omega] at hz
                      exact hmono (fun h => by simp at h; exact h.1) (hr q z hz)
          · exact h.elim
        · exact h.elim
      · exact h.elim
    · exact h.elim
  · exact h.elim
end Go.Vc
