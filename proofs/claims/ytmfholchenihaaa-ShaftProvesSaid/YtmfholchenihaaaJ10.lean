/- Joined of: H8 H9 H18 H13. No condition. -/
import Derived.Test.YtmfholchenihaaaJ9
import Derived.Test.YtmfholchenihaaaJ6
import Derived.Test.YtmfholchenihaaaJ8

namespace Go.Proofs.Ytmfholchenihaaa
open Go Go.Vc Go.Sh
set_option linter.unusedVariables false
set_option linter.unusedSimpArgs false
theorem fix_two {l : List Jb} {i : Nat} {x : Int} (hi : i < l.length) : (l.set i (x, (l.getD i J0).2)).set i (((l.set i (x, (l.getD i J0).2)).getD i J0).1, x + (l.getD i J0).2.2.1, ((l.set i (x, (l.getD i J0).2)).getD i J0).2.2) = fixT l i x := by
  have e : (l.set i (x, (l.getD i J0).2)).getD i J0 = (x, (l.getD i J0).2) := by
    rw [List.getD_eq_getElem?_getD, List.getElem?_set]; simp [hi]
  rw [e, List.set_set]
  rfl
set_option maxHeartbeats 4000000 in
theorem growS_at {P : Int} {l0 : List Jb} {os : List Od} (hP : 0 ≤ P ∧ P ≤ 100) {k : Nat} {l : List Jb} {i : Nat} (hk : k + 1 + i = l.length) (hp : Pre l os i) (hb : Bd l) (ho : Ords os l.length)
    (ih : ∀ d : Nat, jf l i + d ≤ jt l i - jl l i → FnM Try.prog 50 [.st false (.arr JT (fixT l i (jf l i + d))), .lit (.int .i64 ((i + 1 : Nat) : Int)), .padr 1000000000 0, .padr 1000000001 0] [(1000000000, .box [.lit (.int .i64 P), .st true (.arr JT l0), .st true (.arr OT os)]), (1000000001, .box1 (.fn 50 [.padr 1000000000 0, .padr 1000000001 0]))]
      (.st true (.narr (.int .i64) ((growT P os k (fixT l i (jf l i + d)) (i + 1)).getD [] : List Int))) [(1000000000, .box [.lit (.int .i64 P), .st true (.arr JT l0), .st true (.arr OT os)]), (1000000001, .box1 (.fn 50 [.padr 1000000000 0, .padr 1000000001 0]))]) :
    FnM Try.prog 50 [.st false (.arr JT l), .lit (.int .i64 i), .padr 1000000000 0, .padr 1000000001 0] [(1000000000, .box [.lit (.int .i64 P), .st true (.arr JT l0), .st true (.arr OT os)]), (1000000001, .box1 (.fn 50 [.padr 1000000000 0, .padr 1000000001 0]))]
      (.st true (.narr (.int .i64) ((growT P os (k + 1) l i).getD [] : List Int))) [(1000000000, .box [.lit (.int .i64 P), .st true (.arr JT l0), .st true (.arr OT os)]), (1000000001, .box1 (.fn 50 [.padr 1000000000 0, .padr 1000000001 0]))] := by
  have hov := overfull_at hP hb
  have hany := anyLate_at hb ho
  have hll : @List.length JT.T l = l.length := rfl
  have hbad : badB P l os = (ovB P l || os.any (lateT l)) := by rw [ovB_over]; rfl
  have hg : growT P os (k + 1) l i = if badB P l os = true then none else tryK (fun d => growT P os k (fixT l i (jf l i + d)) (i + 1)) (jt l i - jl l i - jf l i + 1).toNat := rfl
  have hlen := hb.len
  have hil : i < l.length := by omega
  have hrg := hp.rg i hil
  have hcl := clone_at (l := l) (by omega) (by omega)
  cases e1 : ovB P l with
  | true =>
    rw [e1] at hov hbad
    rw [hg, if_pos (by rw [hbad]; rfl)]
    refine FnM.of_body tys_ok Try.func50 (by rfl) rfl Try.ntmps50 (by rw [Try.results50]) (by simp) ?_
  
    repeat' (first
 | refine W.seq ?_
 | refine W.block ?_
 | (refine W.region tys_ok [] ?_; conv => whnf)
 | (refine W.drawAll tys_ok [] mixed rfl ?_; conv => whnf)
 | (refine W.ret ?_; conv => whnf)
 | (refine W.skip ?_; conv => whnf)
 | (refine W.exit ?_; conv => whnf)
 | (refine call_at (al := false) (hov) rfl rfl rfl rfl ?_; conv => whnf)
 | (refine call_at (al := false) (hany) rfl rfl rfl rfl ?_; conv => whnf)
 | (refine W.cond rfl (fun hb => ?_) (fun hb => ?_) <;> (try simp only [Int.reduceToNat, Int.reduceTDiv, Int.reduceTMod, minL, maxL, pickB, zHB, zSH] at hb) <;> (try (first | (cases hb; done) | exact absurd hb (by decide) | (exfalso; omega))))
 | ((with_reducible refine And.intro ?_ ?_); (focus ((repeat' (first | (with_reducible rfl) | (with_reducible refine And.intro ?_ ?_) | omega | rfl | exact Or.inl rfl | exact Or.inr rfl | exact of_decide_eq_true rfl | exact Path.imp_of (of_decide_eq_true rfl) | (focus ((try simp only [Int.reduceToNat, Int.reduceTDiv, Int.reduceTMod, minL, maxL, pickB, zHB, zSH, InK, Path.imp, List.length_replicate, List.length_set, List.length_append, List.length_cons, List.length_nil] at *); omega)) | (refine app_le rfl ?_; omega))); done)); (conv => whnf))
 | ((with_reducible refine And.intro (Side.out ?_) ?_); rotate_left; (conv => whnf))
 | ((first | refine retM1 ?_ | refine retM2 ?_) <;> (conv => whnf) <;> repeat' (first
 | exact trivial
 | (with_reducible rfl)
 | ((with_reducible refine And.intro ?_ ?_) <;> conv => whnf)
 | omega
 | rfl
 | (refine congrArg (SV.arr _) ?_)
 | (refine congrArg (Value.int _) ?_)
 | (refine congrArg Value.bool ?_)))); all_goals (try unfold Side)
    all_goals try (repeat' (first | (with_reducible rfl) | (with_reducible refine And.intro ?_ ?_) | omega | rfl | exact Or.inl rfl | exact Or.inr rfl | exact of_decide_eq_true rfl | exact Path.imp_of (of_decide_eq_true rfl) | (focus ((try simp only [Int.reduceToNat, Int.reduceTDiv, Int.reduceTMod, minL, maxL, pickB, zHB, zSH, InK, Path.imp, List.length_replicate, List.length_set, List.length_append, List.length_cons, List.length_nil] at *); omega)) | (refine app_le rfl ?_; omega)))
  | false =>
    rw [e1] at hov hbad
    cases e2 : os.any (lateT l) with
    | true =>
      rw [e2] at hany hbad
      rw [hg, if_pos (by rw [hbad]; rfl)]
      refine FnM.of_body tys_ok Try.func50 (by rfl) rfl Try.ntmps50 (by rw [Try.results50]) (by simp) ?_
  
      repeat' (first
 | refine W.seq ?_
 | refine W.block ?_
 | (refine W.region tys_ok [] ?_; conv => whnf)
 | (refine W.drawAll tys_ok [] mixed rfl ?_; conv => whnf)
 | (refine W.ret ?_; conv => whnf)
 | (refine W.skip ?_; conv => whnf)
 | (refine W.exit ?_; conv => whnf)
 | (refine call_at (al := false) (hov) rfl rfl rfl rfl ?_; conv => whnf)
 | (refine call_at (al := false) (hany) rfl rfl rfl rfl ?_; conv => whnf)
 | (refine W.cond rfl (fun hb => ?_) (fun hb => ?_) <;> (try simp only [Int.reduceToNat, Int.reduceTDiv, Int.reduceTMod, minL, maxL, pickB, zHB, zSH] at hb) <;> (try (first | (cases hb; done) | exact absurd hb (by decide) | (exfalso; omega))))
 | ((with_reducible refine And.intro ?_ ?_); (focus ((repeat' (first | (with_reducible rfl) | (with_reducible refine And.intro ?_ ?_) | omega | rfl | exact Or.inl rfl | exact Or.inr rfl | exact of_decide_eq_true rfl | exact Path.imp_of (of_decide_eq_true rfl) | (focus ((try simp only [Int.reduceToNat, Int.reduceTDiv, Int.reduceTMod, minL, maxL, pickB, zHB, zSH, InK, Path.imp, List.length_replicate, List.length_set, List.length_append, List.length_cons, List.length_nil] at *); omega)) | (refine app_le rfl ?_; omega))); done)); (conv => whnf))
 | ((with_reducible refine And.intro (Side.out ?_) ?_); rotate_left; (conv => whnf))
 | ((first | refine retM1 ?_ | refine retM2 ?_) <;> (conv => whnf) <;> repeat' (first
 | exact trivial
 | (with_reducible rfl)
 | ((with_reducible refine And.intro ?_ ?_) <;> conv => whnf)
 | omega
 | rfl
 | (refine congrArg (SV.arr _) ?_)
 | (refine congrArg (Value.int _) ?_)
 | (refine congrArg Value.bool ?_)))); all_goals (try unfold Side)
      all_goals try (repeat' (first | (with_reducible rfl) | (with_reducible refine And.intro ?_ ?_) | omega | rfl | exact Or.inl rfl | exact Or.inr rfl | exact of_decide_eq_true rfl | exact Path.imp_of (of_decide_eq_true rfl) | (focus ((try simp only [Int.reduceToNat, Int.reduceTDiv, Int.reduceTMod, minL, maxL, pickB, zHB, zSH, InK, Path.imp, List.length_replicate, List.length_set, List.length_append, List.length_cons, List.length_nil] at *); omega)) | (refine app_le rfl ?_; omega)))
    | false =>
      rw [e2] at hany hbad
      rw [hg, if_neg (by rw [hbad]; decide)]
      have hlens : ∀ d : Nat, jf l i + d ≤ jt l i - jl l i → ∀ r, growT P os k (fixT l i (jf l i + d)) (i + 1) = some r → r ≠ [] := fun d hd r hr e => by
        have := growT_len (P := P) (by rw [fix_len]; omega) (fix_pre hp hil (by omega) hd) hr
        rw [fix_len, e] at this
        simp at this
        omega
      obtain ⟨G, hG⟩ : ∃ G : Nat → Option (List Int), G = fun d : Nat => growT P os k (fixT l i (jf l i + (d : Int))) (i + 1) := ⟨_, rfl⟩
      have ih' : ∀ d : Nat, jf l i + d ≤ jt l i - jl l i → FnM Try.prog 50 [.st false (.arr JT (fixT l i (jf l i + d))), .lit (.int .i64 ((i + 1 : Nat) : Int)), .padr 1000000000 0, .padr 1000000001 0] [(1000000000, .box [.lit (.int .i64 P), .st true (.arr JT l0), .st true (.arr OT os)]), (1000000001, .box1 (.fn 50 [.padr 1000000000 0, .padr 1000000001 0]))]
        (.st true (.narr (.int .i64) ((G d).getD [] : List Int))) [(1000000000, .box [.lit (.int .i64 P), .st true (.arr JT l0), .st true (.arr OT os)]), (1000000001, .box1 (.fn 50 [.padr 1000000000 0, .padr 1000000001 0]))] := by rw [hG]; exact ih
      have hlens' : ∀ d : Nat, jf l i + d ≤ jt l i - jl l i → ∀ r, G d = some r → r ≠ [] := by rw [hG]; exact hlens
      rw [← hG]
      clear hG ih hlens hg
      have hnat : ((jt l i - jl l i - jf l i + 1).toNat : Int) = jt l i - jl l i - jf l i + 1 := by omega
      obtain ⟨n, hn⟩ : ∃ n, n = (jt l i - jl l i - jf l i + 1).toNat := ⟨_, rfl⟩
      rw [← hn] at hnat ⊢
      have hfx : ∀ x, fixT l i x = l.set i (x, x + jl l i, jl l i, jp l i, ()) := fun x => rfl
      obtain ⟨F, hF⟩ : ∃ F, F = jf l i := ⟨_, rfl⟩
      obtain ⟨T, hT⟩ : ∃ T, T = jt l i := ⟨_, rfl⟩
      obtain ⟨Ln, hLn⟩ : ∃ Ln, Ln = jl l i := ⟨_, rfl⟩
      have hF' : (l.getD i J0).1 = F := hF.symm
      have hT' : (l.getD i J0).2.1 = T := hT.symm
      have hLn' : (l.getD i J0).2.2.1 = Ln := hLn.symm
      rw [← hF, ← hT, ← hLn] at hrg hnat ih' hlens'
      rw [← hLn] at hfx
      have hsl : ∀ y : Jb, ((i : Int)).toNat < (List.set l ((i : Int)).toNat y).length := fun y => by rw [List.length_set]; omega
      have hft0 : ∀ x, (l.set i (x, (l.getD i J0).2)).set i (((l.set i (x, (l.getD i J0).2)).getD i J0).1, x + (l.getD i J0).2.2.1, ((l.set i (x, (l.getD i J0).2)).getD i J0).2.2) = fixT l i x := fun x => fix_two hil
      refine FnM.of_body tys_ok Try.func50 (by rfl) rfl Try.ntmps50 (by rw [Try.results50]) (by simp) ?_
  
      repeat' (first
 | refine W.seq ?_
 | refine W.block ?_
 | (refine W.region tys_ok [] ?_; conv => whnf)
 | (refine W.drawAll tys_ok [] mixed rfl ?_; conv => whnf)
 | (refine W.ret ?_; conv => whnf)
 | (refine W.skip ?_; conv => whnf)
 | (refine W.exit ?_; conv => whnf)
 | (refine call_at (al := false) (hov) rfl rfl rfl rfl ?_; conv => whnf)
 | (refine call_at (al := false) (hany) rfl rfl rfl rfl ?_; conv => whnf)
 | (refine W.cond rfl (fun hb => ?_) (fun hb => ?_) <;> (try simp only [Int.reduceToNat, Int.reduceTDiv, Int.reduceTMod, minL, maxL, pickB, zHB, zSH] at hb) <;> (try (first | (cases hb; done) | exact absurd hb (by decide) | (exfalso; omega) | (omega))))
 | ((with_reducible refine And.intro ?_ ?_); (focus ((repeat' (first | (with_reducible rfl) | (with_reducible refine And.intro ?_ ?_) | omega | rfl | exact Or.inl rfl | exact Or.inr rfl | exact of_decide_eq_true rfl | exact Path.imp_of (of_decide_eq_true rfl) | (focus ((try simp only [Int.reduceToNat, Int.reduceTDiv, Int.reduceTMod, minL, maxL, pickB, zHB, zSH, InK, Path.imp, List.length_replicate, List.length_set, List.length_append, List.length_cons, List.length_nil] at *); omega)) | (refine app_le rfl ?_; omega))); done)); (conv => whnf))
 | ((with_reducible refine And.intro (Side.out ?_) ?_); rotate_left; (conv => whnf))
 | ((first | refine retM1 ?_ | refine retM2 ?_) <;> (conv => whnf) <;> repeat' (first
 | exact trivial
 | (with_reducible rfl)
 | ((with_reducible refine And.intro ?_ ?_) <;> conv => whnf)
 | omega
 | rfl
 | (refine congrArg (SV.arr _) ?_)
 | (refine congrArg (Value.int _) ?_)
 | (refine congrArg Value.bool ?_)))); all_goals (try unfold Side)
      all_goals try (repeat' (first | (with_reducible rfl) | (with_reducible refine And.intro ?_ ?_) | omega | rfl | exact Or.inl rfl | exact Or.inr rfl | exact of_decide_eq_true rfl | exact Path.imp_of (of_decide_eq_true rfl) | (focus ((try simp only [Int.reduceToNat, Int.reduceTDiv, Int.reduceTMod, minL, maxL, pickB, zHB, zSH, InK, Path.imp, List.length_replicate, List.length_set, List.length_append, List.length_cons, List.length_nil] at *); omega)) | (refine app_le rfl ?_; omega)))
      refine W.loop (fun d : Nat => ⟨[(1, .lit (.int .i64 (i))), (2, .padr 1000000000 0), (3, .padr 1000000001 0), (4, .st false (.sadr (.arr JT l))), (13, .lit (.int .i64 ((F + (d : Int)))))], [(1000000000, .box [.lit (.int .i64 P), .st true (.arr JT l0), .st true (.arr OT os)]), (1000000001, .box1 (.fn 50 [.padr 1000000000 0, .padr 1000000001 0]))]⟩) (fun d => d ≤ n ∧ (∀ e, e < d → G e = none)) (fun d => n - d) (0) ?_ ?_
      · refine ⟨⟨Nat.zero_le _, by omega⟩, ?_⟩
        refine subF.ok ?_ <;> (conv => whnf) <;> repeat' (first
 | exact trivial
 | (with_reducible rfl)
 | ((with_reducible refine And.intro ?_ ?_) <;> conv => whnf)
 | omega
 | rfl
 | (refine congrArg (SV.arr _) ?_)
 | (refine congrArg (Value.int _) ?_)
 | (refine congrArg Value.bool ?_))
        all_goals (simp only [Int.reduceToNat, Int.reduceTDiv, Int.reduceTMod, minL, maxL, pickB, zHB, zSH]; omega)
      · rintro d ⟨hd, hno⟩
        by_cases hdl : d < n
        · have hi := ih' d (by omega)
          have hl := hlens' d (by omega)
          have hft := hft0 (F + d)
          cases e : G d with
          | none =>
            rw [e] at hi
            have hi2 : FnM Try.prog 50 [.st false (.arr JT (fixT l i (F + d))), .lit (.int .i64 ((i + 1 : Nat) : Int)), .padr 1000000000 0, .padr 1000000001 0] [(1000000000, .box [.lit (.int .i64 P), .st true (.arr JT l0), .st true (.arr OT os)]), (1000000001, .box1 (.fn 50 [.padr 1000000000 0, .padr 1000000001 0]))]
              (.st true (.narr (.int .i64) ([] : List Int))) [(1000000000, .box [.lit (.int .i64 P), .st true (.arr JT l0), .st true (.arr OT os)]), (1000000001, .box1 (.fn 50 [.padr 1000000000 0, .padr 1000000001 0]))] := hi
            repeat' (first
 | refine W.seq ?_
 | refine W.block ?_
 | (refine W.resub (x := Code.region 17 _ _) (Γ' := ⟨[(1, .lit (.int .i64 (i))), (2, .padr 1000000000 0), (3, .padr 1000000001 0), (4, .st false (.sadr (.arr JT l))), (13, .lit (.int .i64 ((F + (d : Int))))), (14, .st true (.arr JT (fixT l i (F + (d : Int)))))], [(1000000000, .box [.lit (.int .i64 P), .st true (.arr JT l0), .st true (.arr OT os)]), (1000000001, .box1 (.fn 50 [.padr 1000000000 0, .padr 1000000001 0]))]⟩) ?_ (W.regionM tys_ok [] [4] ?_); rotate_left; (conv => whnf))
 | (refine W.drawPh (id := 13) tys_ok [] mixed [0, 0, 0, 6, 8, 16, 0, 0, 192, 256, 512, 1056, 2049] [([0, 1, 2, 3, 4, 5, 6, 7, 8, 9, 10, 11, 12], 0, 8191)] (by decide +kernel) ?_; conv => whnf)
 | (refine W.region tys_ok [] ?_; conv => whnf)
 | (refine W.drawAll tys_ok [] mixed rfl ?_; conv => whnf)
 | (refine W.ret ?_; conv => whnf)
 | (refine W.skip ?_; conv => whnf)
 | (refine W.exit ?_; conv => whnf)
 | (refine call_at (al := false) (hcl) rfl rfl rfl rfl ?_; conv => whnf)
 | (refine callM_at (hi2) ?_; conv => whnf)
 | (refine Both.mk ?_ ?_ <;> (conv => whnf))
 | (refine W.cond rfl (fun hb => ?_) (fun hb => ?_) <;> (try simp only [Int.reduceToNat, Int.reduceTDiv, Int.reduceTMod, minL, maxL, pickB, zHB, zSH] at hb) <;> (try (first | (cases hb; done) | exact absurd hb (by decide) | (exfalso; omega) | (omega))))
 | (refine Or.inl (And.intro ?_ ?_); (focus (first | exact trivial | exact ⟨rfl, trivial⟩ | (refine ⟨?_, trivial⟩; dsimp only; simp only [Int.reduceToNat, Int.reduceTDiv, Int.reduceTMod, minL, maxL, pickB, zHB, zSH]; omega))); (conv => whnf))
 | (refine Or.inr (And.intro ?_ ?_); (focus (intro h; have h := h.1; dsimp only at h; first | (exact Bool.noConfusion h) | (simp only [Int.reduceToNat, Int.reduceTDiv, Int.reduceTMod, minL, maxL, pickB, zHB, zSH] at h; omega))); (conv => whnf))
 | ((with_reducible refine And.intro ?_ ?_); (focus ((repeat' (first | (with_reducible rfl) | (with_reducible refine And.intro ?_ ?_) | omega | rfl | exact Or.inl rfl | exact Or.inr rfl | exact of_decide_eq_true rfl | exact Path.imp_of (of_decide_eq_true rfl) | (focus ((try simp only [Int.reduceToNat, Int.reduceTDiv, Int.reduceTMod, minL, maxL, pickB, zHB, zSH, InK, Path.imp, List.length_replicate, List.length_set, List.length_append, List.length_cons, List.length_nil] at *); omega)) | (refine app_le rfl ?_; omega))); done)); (conv => whnf))
 | ((with_reducible refine And.intro (Side.out ?_) ?_); rotate_left; (conv => whnf))
 | ((first | refine retM1 ?_ | refine retM2 ?_ | refine subF.leaf ?_ | refine subF.side ?_) <;> (conv => whnf) <;> repeat' (first
 | exact trivial
 | (with_reducible rfl)
 | ((with_reducible refine And.intro ?_ ?_) <;> conv => whnf)
 | omega
 | rfl
 | (refine congrArg (SV.arr _) ?_)
 | (refine congrArg (Value.int _) ?_)
 | (refine congrArg Value.bool ?_)))); all_goals (try unfold Side)
            all_goals try (repeat' (first | (with_reducible rfl) | (with_reducible refine And.intro ?_ ?_) | omega | rfl | exact Or.inl rfl | exact Or.inr rfl | exact of_decide_eq_true rfl | exact Path.imp_of (of_decide_eq_true rfl) | (focus ((try simp only [Int.reduceToNat, Int.reduceTDiv, Int.reduceTMod, minL, maxL, pickB, zHB, zSH, InK, Path.imp, List.length_replicate, List.length_set, List.length_append, List.length_cons, List.length_nil] at *); omega)) | (refine app_le rfl ?_; omega)))
            all_goals try (first | exact hsl _ | exact Path.imp_of ⟨by omega, hsl _⟩ | exact hft)
            refine ⟨d + 1, ⟨⟨by omega, fun m hm => ?_⟩, by omega⟩, ?_⟩
            · by_cases e2 : m = d
              · subst e2; exact e
              · exact hno m (by omega)
            · refine subF.ok ?_ <;> (conv => whnf) <;> repeat' (first
 | exact trivial
 | (with_reducible rfl)
 | ((with_reducible refine And.intro ?_ ?_) <;> conv => whnf)
 | omega
 | rfl
 | (refine congrArg (SV.arr _) ?_)
 | (refine congrArg (Value.int _) ?_)
 | (refine congrArg Value.bool ?_))
              all_goals omega
          | some r =>
            rw [e] at hi
            have hr := hl r e
            have hre : r.isEmpty = false := by cases r with | nil => exact absurd rfl hr | cons => rfl
            rw [tryK_hit e hno hdl]
            have hi2 : FnM Try.prog 50 [.st false (.arr JT (fixT l i (F + d))), .lit (.int .i64 ((i + 1 : Nat) : Int)), .padr 1000000000 0, .padr 1000000001 0] [(1000000000, .box [.lit (.int .i64 P), .st true (.arr JT l0), .st true (.arr OT os)]), (1000000001, .box1 (.fn 50 [.padr 1000000000 0, .padr 1000000001 0]))]
              (.st true (.narr (.int .i64) (r : List Int))) [(1000000000, .box [.lit (.int .i64 P), .st true (.arr JT l0), .st true (.arr OT os)]), (1000000001, .box1 (.fn 50 [.padr 1000000000 0, .padr 1000000001 0]))] := hi
            repeat' (first
 | refine W.seq ?_
 | refine W.block ?_
 | (refine W.resub (x := Code.region 17 _ _) (Γ' := ⟨[(1, .lit (.int .i64 (i))), (2, .padr 1000000000 0), (3, .padr 1000000001 0), (4, .st false (.sadr (.arr JT l))), (13, .lit (.int .i64 ((F + (d : Int))))), (14, .st true (.arr JT (fixT l i (F + (d : Int)))))], [(1000000000, .box [.lit (.int .i64 P), .st true (.arr JT l0), .st true (.arr OT os)]), (1000000001, .box1 (.fn 50 [.padr 1000000000 0, .padr 1000000001 0]))]⟩) ?_ (W.regionM tys_ok [] [4] ?_); rotate_left; (conv => whnf))
 | (refine W.drawPh (id := 13) tys_ok [] mixed [0, 0, 0, 6, 8, 16, 0, 0, 192, 256, 512, 1056, 2049] [([0, 1, 2, 3, 4, 5, 6, 7, 8, 9, 10, 11, 12], 0, 8191)] (by decide +kernel) ?_; conv => whnf)
 | (refine W.region tys_ok [] ?_; conv => whnf)
 | (refine W.drawAll tys_ok [] mixed rfl ?_; conv => whnf)
 | (refine W.ret ?_; conv => whnf)
 | (refine W.skip ?_; conv => whnf)
 | (refine W.exit ?_; conv => whnf)
 | (refine call_at (al := false) (hcl) rfl rfl rfl rfl ?_; conv => whnf)
 | (refine callM_at (hi2) ?_; conv => whnf)
 | (refine Both.mk ?_ ?_ <;> (conv => whnf))
 | (refine W.cond rfl (fun hb => ?_) (fun hb => ?_) <;> (try simp only [Int.reduceToNat, Int.reduceTDiv, Int.reduceTMod, minL, maxL, pickB, zHB, zSH] at hb) <;> (try (first | (cases hb; done) | exact absurd hb (by decide) | (exfalso; omega) | (first | omega | exact Bool.noConfusion (hb.symm.trans hre)))))
 | (refine Or.inl (And.intro ?_ ?_); (focus (first | exact trivial | exact ⟨rfl, trivial⟩ | (refine ⟨?_, trivial⟩; dsimp only; simp only [Int.reduceToNat, Int.reduceTDiv, Int.reduceTMod, minL, maxL, pickB, zHB, zSH]; omega))); (conv => whnf))
 | (refine Or.inr (And.intro ?_ ?_); (focus (intro h; have h := h.1; dsimp only at h; first | (exact Bool.noConfusion h) | (simp only [Int.reduceToNat, Int.reduceTDiv, Int.reduceTMod, minL, maxL, pickB, zHB, zSH] at h; omega))); (conv => whnf))
 | ((with_reducible refine And.intro ?_ ?_); (focus ((repeat' (first | (with_reducible rfl) | (with_reducible refine And.intro ?_ ?_) | omega | rfl | exact Or.inl rfl | exact Or.inr rfl | exact of_decide_eq_true rfl | exact Path.imp_of (of_decide_eq_true rfl) | (focus ((try simp only [Int.reduceToNat, Int.reduceTDiv, Int.reduceTMod, minL, maxL, pickB, zHB, zSH, InK, Path.imp, List.length_replicate, List.length_set, List.length_append, List.length_cons, List.length_nil] at *); omega)) | (refine app_le rfl ?_; omega))); done)); (conv => whnf))
 | ((with_reducible refine And.intro (Side.out ?_) ?_); rotate_left; (conv => whnf))
 | ((first | refine retM1 ?_ | refine retM2 ?_ | refine subF.leaf ?_ | refine subF.side ?_) <;> (conv => whnf) <;> repeat' (first
 | exact trivial
 | (with_reducible rfl)
 | ((with_reducible refine And.intro ?_ ?_) <;> conv => whnf)
 | omega
 | rfl
 | (refine congrArg (SV.arr _) ?_)
 | (refine congrArg (Value.int _) ?_)
 | (refine congrArg Value.bool ?_)))); all_goals (try unfold Side)
            all_goals try (repeat' (first | (with_reducible rfl) | (with_reducible refine And.intro ?_ ?_) | omega | rfl | exact Or.inl rfl | exact Or.inr rfl | exact of_decide_eq_true rfl | exact Path.imp_of (of_decide_eq_true rfl) | (focus ((try simp only [Int.reduceToNat, Int.reduceTDiv, Int.reduceTMod, minL, maxL, pickB, zHB, zSH, InK, Path.imp, List.length_replicate, List.length_set, List.length_append, List.length_cons, List.length_nil] at *); omega)) | (refine app_le rfl ?_; omega)))
            all_goals try (first | exact hsl _ | exact Path.imp_of ⟨by omega, hsl _⟩ | exact hft)
        · have hde : n = d := by omega
          subst hde
          rw [tryK_of hno]
          repeat' (first
 | refine W.seq ?_
 | refine W.block ?_
 | (refine W.drawPh (id := 13) tys_ok [] mixed [0, 0, 0, 6, 8, 16, 0, 0, 192, 256, 512, 1056, 2049] [([0, 1, 2, 3, 4, 5, 6, 7, 8, 9, 10, 11, 12], 0, 8191)] (by decide +kernel) ?_; conv => whnf)
 | (refine W.region tys_ok [] ?_; conv => whnf)
 | (refine W.drawAll tys_ok [] mixed rfl ?_; conv => whnf)
 | (refine W.ret ?_; conv => whnf)
 | (refine W.skip ?_; conv => whnf)
 | (refine W.exit ?_; conv => whnf)
 | (refine Both.mk ?_ ?_ <;> (conv => whnf))
 | (refine W.cond rfl (fun hb => ?_) (fun hb => ?_) <;> (try simp only [Int.reduceToNat, Int.reduceTDiv, Int.reduceTMod, minL, maxL, pickB, zHB, zSH] at hb) <;> (try (first | (cases hb; done) | exact absurd hb (by decide) | (exfalso; omega) | (omega))))
 | ((with_reducible refine And.intro ?_ ?_); (focus ((repeat' (first | (with_reducible rfl) | (with_reducible refine And.intro ?_ ?_) | omega | rfl | exact Or.inl rfl | exact Or.inr rfl | exact of_decide_eq_true rfl | exact Path.imp_of (of_decide_eq_true rfl) | (focus ((try simp only [Int.reduceToNat, Int.reduceTDiv, Int.reduceTMod, minL, maxL, pickB, zHB, zSH, InK, Path.imp, List.length_replicate, List.length_set, List.length_append, List.length_cons, List.length_nil] at *); omega)) | (refine app_le rfl ?_; omega))); done)); (conv => whnf))
 | ((with_reducible refine And.intro (Side.out ?_) ?_); rotate_left; (conv => whnf))
 | ((first | refine retM1 ?_ | refine retM2 ?_ | refine subF.leaf ?_ | refine subF.side ?_) <;> (conv => whnf) <;> repeat' (first
 | exact trivial
 | (with_reducible rfl)
 | ((with_reducible refine And.intro ?_ ?_) <;> conv => whnf)
 | omega
 | rfl
 | (refine congrArg (SV.arr _) ?_)
 | (refine congrArg (Value.int _) ?_)
 | (refine congrArg Value.bool ?_)))); all_goals (try unfold Side)
          all_goals try (repeat' (first | (with_reducible rfl) | (with_reducible refine And.intro ?_ ?_) | omega | rfl | exact Or.inl rfl | exact Or.inr rfl | exact of_decide_eq_true rfl | exact Path.imp_of (of_decide_eq_true rfl) | (focus ((try simp only [Int.reduceToNat, Int.reduceTDiv, Int.reduceTMod, minL, maxL, pickB, zHB, zSH, InK, Path.imp, List.length_replicate, List.length_set, List.length_append, List.length_cons, List.length_nil] at *); omega)) | (refine app_le rfl ?_; omega)))
theorem grow_at {P : Int} {l0 : List Jb} {os : List Od} (hP : 0 ≤ P ∧ P ≤ 100) : ∀ {k : Nat} {l : List Jb} {i : Nat}, k + i = l.length → 1 ≤ l.length → Pre l os i → Bd l → Ords os l.length →
    FnM Try.prog 50 [.st false (.arr JT l), .lit (.int .i64 i), .padr 1000000000 0, .padr 1000000001 0] [(1000000000, .box [.lit (.int .i64 P), .st true (.arr JT l0), .st true (.arr OT os)]), (1000000001, .box1 (.fn 50 [.padr 1000000000 0, .padr 1000000001 0]))]
      (.st true (.narr (.int .i64) ((growT P os k l i).getD [] : List Int))) [(1000000000, .box [.lit (.int .i64 P), .st true (.arr JT l0), .st true (.arr OT os)]), (1000000001, .box1 (.fn 50 [.padr 1000000000 0, .padr 1000000001 0]))]
  | 0, l, i, hk, h1, hp, hb, ho => grow0_at hP (by omega) h1 hb ho
  | k + 1, l, i, hk, h1, hp, hb, ho => by
    have hi : i < l.length := by omega
    have hr := hp.rg i hi
    exact growS_at hP (by omega) hp hb ho fun d hd => grow_at hP (k := k) (l := fixT l i (jf l i + d)) (i := i + 1) (by rw [fix_len]; omega) (by rw [fix_len]; exact h1) (fix_pre hp hi (by omega) hd) (fix_bd (os := os) hb hi (by omega) hd) (by rw [fix_len]; exact ho)
def firstT (P : Int) (l : List Jb) (os : List Od) : List Int := (growT P os l.length l 0).getD []
theorem first_at {P : Int} {l : List Jb} {os : List Od} (h : VS P l os) : FnAt Try.prog true 39 [.agg [I64 P, .arr JT l, .arr OT os]] (.st true (.narr (.int .i64) (firstT P l os : List Int))) [] := by
  have hg := grow_at (P := P) (l0 := l) (os := os) (k := l.length) (l := l) (i := 0) (by have := h.pw; omega) rfl h.ln.1 h.pre (bd_of h) (ords_of h)
  refine FnAt.of_body tys_ok Try.func39 (by rfl) rfl Try.ntmps39 (by rw [Try.results39]) (by simp) ?_
  
  repeat' (first
 | refine W.seq ?_
 | refine W.block ?_
 | (refine W.regionM (id := 3) tys_ok [] [3] ?_; conv => whnf)
 | (refine W.region tys_ok [] ?_; conv => whnf)
 | (refine W.drawAll tys_ok [] mixed rfl ?_; conv => whnf)
 | (refine W.ret ?_; conv => whnf)
 | (refine W.skip ?_; conv => whnf)
 | (refine W.exit ?_; conv => whnf)
 | (refine callM_at (hg) ?_; conv => whnf)
 | (refine W.cond rfl (fun hb => ?_) (fun hb => ?_) <;> (try simp only [Int.reduceToNat, Int.reduceTDiv, Int.reduceTMod, minL, maxL, pickB, zHB, zSH] at hb) <;> (try (first | (cases hb; done) | exact absurd hb (by decide) | (exfalso; omega))))
 | (refine Or.inl (And.intro ?_ ?_); (focus (first | exact trivial | exact ⟨rfl, trivial⟩ | (refine ⟨?_, trivial⟩; dsimp only; simp only [Int.reduceToNat, Int.reduceTDiv, Int.reduceTMod, minL, maxL, pickB, zHB, zSH]; omega))); (conv => whnf))
 | (refine Or.inr (And.intro ?_ ?_); (focus (intro h; have h := h.1; dsimp only at h; first | (exact Bool.noConfusion h) | (simp only [Int.reduceToNat, Int.reduceTDiv, Int.reduceTMod, minL, maxL, pickB, zHB, zSH] at h; omega))); (conv => whnf))
 | ((with_reducible refine And.intro ?_ ?_); (focus ((repeat' (first | (with_reducible rfl) | (with_reducible refine And.intro ?_ ?_) | omega | rfl | exact Or.inl rfl | exact Or.inr rfl | exact of_decide_eq_true rfl | exact Path.imp_of (of_decide_eq_true rfl) | (focus ((try simp only [Int.reduceToNat, Int.reduceTDiv, Int.reduceTMod, minL, maxL, pickB, zHB, zSH, InK, Path.imp, List.length_replicate, List.length_set, List.length_append, List.length_cons, List.length_nil] at *); omega)) | (refine app_le rfl ?_; omega))); done)); (conv => whnf))
 | ((with_reducible refine And.intro (Side.out ?_) ?_); rotate_left; (conv => whnf))
 | ((first | refine retF1 ?_ | refine retF2 ?_) <;> (conv => whnf) <;> repeat' (first
 | exact trivial
 | (with_reducible rfl)
 | ((with_reducible refine And.intro ?_ ?_) <;> conv => whnf)
 | omega
 | rfl
 | (refine congrArg (SV.arr _) ?_)
 | (refine congrArg (Value.int _) ?_)
 | (refine congrArg Value.bool ?_)))); all_goals (try unfold Side)
  all_goals try (repeat' (first | (with_reducible rfl) | (with_reducible refine And.intro ?_ ?_) | omega | rfl | exact Or.inl rfl | exact Or.inr rfl | exact of_decide_eq_true rfl | exact Path.imp_of (of_decide_eq_true rfl) | (focus ((try simp only [Int.reduceToNat, Int.reduceTDiv, Int.reduceTMod, minL, maxL, pickB, zHB, zSH, InK, Path.imp, List.length_replicate, List.length_set, List.length_append, List.length_cons, List.length_nil] at *); omega)) | (refine app_le rfl ?_; omega)))
end Go.Proofs.Ytmfholchenihaaa
namespace Go.Proofs.Ytmfholchenihaaa
open Go Go.Vc Go.Sh
set_option linter.unusedVariables false
set_option linter.unusedSimpArgs false
theorem ne_isEmpty {α : Type} {r : List α} (h : r ≠ []) : r.isEmpty = false := by cases r with | nil => exact absurd rfl h | cons => rfl
theorem First_no {P : Int} {l : List Jb} {os : List Od} (hl : l.length ≤ 1000) (ho : os.length ≤ 1000) (h : ¬ VS P l os) : FnAt Try.prog true 19 [.agg [I64 P, .arr JT l, .arr OT os]] (.tup [.st true (.narr (.int .i64) ([] : List Int)), .lit (.int .i64 1)]) [] := by
  have hv := valid_at (P := P) hl ho
  rw [validB_no h] at hv
  refine FnAt.of_body tys_ok Try.func19 (by rfl) rfl Try.ntmps19 (by rw [Try.results19]) (by simp) ?_
  
  repeat' (first
 | refine W.seq ?_
 | refine W.block ?_
 | (refine W.region tys_ok [] ?_; conv => whnf)
 | (refine W.drawAll tys_ok [] mixed rfl ?_; conv => whnf)
 | (refine W.ret ?_; conv => whnf)
 | (refine W.skip ?_; conv => whnf)
 | (refine W.exit ?_; conv => whnf)
 | (refine call_at (al := false) (hv) rfl rfl rfl rfl ?_; conv => whnf)
 | (refine W.cond rfl (fun hb => ?_) (fun hb => ?_) <;> (try simp only [Int.reduceToNat, Int.reduceTDiv, Int.reduceTMod, minL, maxL, pickB, zHB, zSH] at hb) <;> (try (first | (cases hb; done) | exact absurd hb (by decide) | (exfalso; omega))))
 | ((with_reducible refine And.intro ?_ ?_); (focus ((repeat' (first | (with_reducible rfl) | (with_reducible refine And.intro ?_ ?_) | omega | rfl | exact Or.inl rfl | exact Or.inr rfl | exact of_decide_eq_true rfl | exact Path.imp_of (of_decide_eq_true rfl) | (focus ((try simp only [Int.reduceToNat, Int.reduceTDiv, Int.reduceTMod, minL, maxL, pickB, zHB, zSH, InK, Path.imp, List.length_replicate, List.length_set, List.length_append, List.length_cons, List.length_nil] at *); omega)) | (refine app_le rfl ?_; omega))); done)); (conv => whnf))
 | ((with_reducible refine And.intro (Side.out ?_) ?_); rotate_left; (conv => whnf))
 | ((first | refine retF1 ?_ | refine retF2 ?_) <;> (conv => whnf) <;> repeat' (first
 | exact trivial
 | (with_reducible rfl)
 | ((with_reducible refine And.intro ?_ ?_) <;> conv => whnf)
 | omega
 | rfl
 | (refine congrArg (SV.arr _) ?_)
 | (refine congrArg (Value.int _) ?_)
 | (refine congrArg Value.bool ?_)))); all_goals (try unfold Side)
  all_goals try (repeat' (first | (with_reducible rfl) | (with_reducible refine And.intro ?_ ?_) | omega | rfl | exact Or.inl rfl | exact Or.inr rfl | exact of_decide_eq_true rfl | exact Path.imp_of (of_decide_eq_true rfl) | (focus ((try simp only [Int.reduceToNat, Int.reduceTDiv, Int.reduceTMod, minL, maxL, pickB, zHB, zSH, InK, Path.imp, List.length_replicate, List.length_set, List.length_append, List.length_cons, List.length_nil] at *); omega)) | (refine app_le rfl ?_; omega)))
theorem First_none {P : Int} {l : List Jb} {os : List Od} (h : VS P l os) (hf : firstT P l os = []) : FnAt Try.prog true 19 [.agg [I64 P, .arr JT l, .arr OT os]] (.tup [.st true (.narr (.int .i64) ([] : List Int)), .lit (.int .i64 5)]) [] := by
  have hv := valid_at (P := P) (l := l) (os := os) (by have := h.ln; omega) (by have := h.lo; omega)
  rw [validB_yes h] at hv
  have hr := first_at h
  rw [hf] at hr
  refine FnAt.of_body tys_ok Try.func19 (by rfl) rfl Try.ntmps19 (by rw [Try.results19]) (by simp) ?_
  
  repeat' (first
 | refine W.seq ?_
 | refine W.block ?_
 | (refine W.region tys_ok [] ?_; conv => whnf)
 | (refine W.drawAll tys_ok [] mixed rfl ?_; conv => whnf)
 | (refine W.ret ?_; conv => whnf)
 | (refine W.skip ?_; conv => whnf)
 | (refine W.exit ?_; conv => whnf)
 | (refine call_at (al := false) (hv) rfl rfl rfl rfl ?_; conv => whnf)
 | (refine call_at (al := true) (hr) rfl rfl rfl rfl ?_; conv => whnf)
 | (refine W.cond rfl (fun hb => ?_) (fun hb => ?_) <;> (try simp only [Int.reduceToNat, Int.reduceTDiv, Int.reduceTMod, minL, maxL, pickB, zHB, zSH] at hb) <;> (try (first | (cases hb; done) | exact absurd hb (by decide) | (exfalso; omega))))
 | ((with_reducible refine And.intro ?_ ?_); (focus ((repeat' (first | (with_reducible rfl) | (with_reducible refine And.intro ?_ ?_) | omega | rfl | exact Or.inl rfl | exact Or.inr rfl | exact of_decide_eq_true rfl | exact Path.imp_of (of_decide_eq_true rfl) | (focus ((try simp only [Int.reduceToNat, Int.reduceTDiv, Int.reduceTMod, minL, maxL, pickB, zHB, zSH, InK, Path.imp, List.length_replicate, List.length_set, List.length_append, List.length_cons, List.length_nil] at *); omega)) | (refine app_le rfl ?_; omega))); done)); (conv => whnf))
 | ((with_reducible refine And.intro (Side.out ?_) ?_); rotate_left; (conv => whnf))
 | ((first | refine retF1 ?_ | refine retF2 ?_) <;> (conv => whnf) <;> repeat' (first
 | exact trivial
 | (with_reducible rfl)
 | ((with_reducible refine And.intro ?_ ?_) <;> conv => whnf)
 | omega
 | rfl
 | (refine congrArg (SV.arr _) ?_)
 | (refine congrArg (Value.int _) ?_)
 | (refine congrArg Value.bool ?_)))); all_goals (try unfold Side)
  all_goals try (repeat' (first | (with_reducible rfl) | (with_reducible refine And.intro ?_ ?_) | omega | rfl | exact Or.inl rfl | exact Or.inr rfl | exact of_decide_eq_true rfl | exact Path.imp_of (of_decide_eq_true rfl) | (focus ((try simp only [Int.reduceToNat, Int.reduceTDiv, Int.reduceTMod, minL, maxL, pickB, zHB, zSH, InK, Path.imp, List.length_replicate, List.length_set, List.length_append, List.length_cons, List.length_nil] at *); omega)) | (refine app_le rfl ?_; omega)))
theorem First_ok {P : Int} {l : List Jb} {os : List Od} (h : VS P l os) {r : List Int} (hf : firstT P l os = r) (hn : r ≠ []) : FnAt Try.prog true 19 [.agg [I64 P, .arr JT l, .arr OT os]] (.tup [.st true (.narr (.int .i64) r), .lit (.int .i64 0)]) [] := by
  have hv := valid_at (P := P) (l := l) (os := os) (by have := h.ln; omega) (by have := h.lo; omega)
  rw [validB_yes h] at hv
  have hr := first_at h
  rw [hf] at hr
  have he := ne_isEmpty hn
  refine FnAt.of_body tys_ok Try.func19 (by rfl) rfl Try.ntmps19 (by rw [Try.results19]) (by simp) ?_
  
  repeat' (first
 | refine W.seq ?_
 | refine W.block ?_
 | (refine W.region tys_ok [] ?_; conv => whnf)
 | (refine W.drawAll tys_ok [] mixed rfl ?_; conv => whnf)
 | (refine W.ret ?_; conv => whnf)
 | (refine W.skip ?_; conv => whnf)
 | (refine W.exit ?_; conv => whnf)
 | (refine call_at (al := false) (hv) rfl rfl rfl rfl ?_; conv => whnf)
 | (refine call_at (al := true) (hr) rfl rfl rfl rfl ?_; conv => whnf)
 | (refine W.cond rfl (fun hb => ?_) (fun hb => ?_) <;> (try simp only [Int.reduceToNat, Int.reduceTDiv, Int.reduceTMod, minL, maxL, pickB, zHB, zSH] at hb) <;> (try (first | (cases hb; done) | exact absurd hb (by decide) | (exfalso; omega) | (exact Bool.noConfusion (hb.symm.trans he)))))
 | ((with_reducible refine And.intro ?_ ?_); (focus ((repeat' (first | (with_reducible rfl) | (with_reducible refine And.intro ?_ ?_) | omega | rfl | exact Or.inl rfl | exact Or.inr rfl | exact of_decide_eq_true rfl | exact Path.imp_of (of_decide_eq_true rfl) | (focus ((try simp only [Int.reduceToNat, Int.reduceTDiv, Int.reduceTMod, minL, maxL, pickB, zHB, zSH, InK, Path.imp, List.length_replicate, List.length_set, List.length_append, List.length_cons, List.length_nil] at *); omega)) | (refine app_le rfl ?_; omega))); done)); (conv => whnf))
 | ((with_reducible refine And.intro (Side.out ?_) ?_); rotate_left; (conv => whnf))
 | ((first | refine retF1 ?_ | refine retF2 ?_) <;> (conv => whnf) <;> repeat' (first
 | exact trivial
 | (with_reducible rfl)
 | ((with_reducible refine And.intro ?_ ?_) <;> conv => whnf)
 | omega
 | rfl
 | (refine congrArg (SV.arr _) ?_)
 | (refine congrArg (Value.int _) ?_)
 | (refine congrArg Value.bool ?_)))); all_goals (try unfold Side)
  all_goals try (repeat' (first | (with_reducible rfl) | (with_reducible refine And.intro ?_ ?_) | omega | rfl | exact Or.inl rfl | exact Or.inr rfl | exact of_decide_eq_true rfl | exact Path.imp_of (of_decide_eq_true rfl) | (focus ((try simp only [Int.reduceToNat, Int.reduceTDiv, Int.reduceTMod, minL, maxL, pickB, zHB, zSH, InK, Path.imp, List.length_replicate, List.length_set, List.length_append, List.length_cons, List.length_nil] at *); omega)) | (refine app_le rfl ?_; omega)))
theorem Short_no {P : Int} {l : List Jb} {os : List Od} (hl : l.length ≤ 1000) (ho : os.length ≤ 1000) (h : ¬ VS P l os) : FnAt Try.prog true 20 [.agg [I64 P, .arr JT l, .arr OT os]] (.tup [.st true (.narr (.int .i64) ([] : List Int)), .lit (.int .i64 0), .lit (.int .i64 1)]) [] := by
  have hv := valid_at (P := P) hl ho
  rw [validB_no h] at hv
  refine FnAt.of_body tys_ok Try.func20 (by rfl) rfl Try.ntmps20 (by rw [Try.results20]) (by simp) ?_
  
  repeat' (first
 | refine W.seq ?_
 | refine W.block ?_
 | (refine W.region tys_ok [] ?_; conv => whnf)
 | (refine W.drawAll tys_ok [] mixed rfl ?_; conv => whnf)
 | (refine W.ret ?_; conv => whnf)
 | (refine W.skip ?_; conv => whnf)
 | (refine W.exit ?_; conv => whnf)
 | (refine call_at (al := false) (hv) rfl rfl rfl rfl ?_; conv => whnf)
 | (refine W.cond rfl (fun hb => ?_) (fun hb => ?_) <;> (try simp only [Int.reduceToNat, Int.reduceTDiv, Int.reduceTMod, minL, maxL, pickB, zHB, zSH] at hb) <;> (try (first | (cases hb; done) | exact absurd hb (by decide) | (exfalso; omega))))
 | ((with_reducible refine And.intro ?_ ?_); (focus ((repeat' (first | (with_reducible rfl) | (with_reducible refine And.intro ?_ ?_) | omega | rfl | exact Or.inl rfl | exact Or.inr rfl | exact of_decide_eq_true rfl | exact Path.imp_of (of_decide_eq_true rfl) | (focus ((try simp only [Int.reduceToNat, Int.reduceTDiv, Int.reduceTMod, minL, maxL, pickB, zHB, zSH, InK, Path.imp, List.length_replicate, List.length_set, List.length_append, List.length_cons, List.length_nil] at *); omega)) | (refine app_le rfl ?_; omega))); done)); (conv => whnf))
 | ((with_reducible refine And.intro (Side.out ?_) ?_); rotate_left; (conv => whnf))
 | ((first | refine retF1 ?_ | refine retF2 ?_) <;> (conv => whnf) <;> repeat' (first
 | exact trivial
 | (with_reducible rfl)
 | ((with_reducible refine And.intro ?_ ?_) <;> conv => whnf)
 | omega
 | rfl
 | (refine congrArg (SV.arr _) ?_)
 | (refine congrArg (Value.int _) ?_)
 | (refine congrArg Value.bool ?_)))); all_goals (try unfold Side)
  all_goals try (repeat' (first | (with_reducible rfl) | (with_reducible refine And.intro ?_ ?_) | omega | rfl | exact Or.inl rfl | exact Or.inr rfl | exact of_decide_eq_true rfl | exact Path.imp_of (of_decide_eq_true rfl) | (focus ((try simp only [Int.reduceToNat, Int.reduceTDiv, Int.reduceTMod, minL, maxL, pickB, zHB, zSH, InK, Path.imp, List.length_replicate, List.length_set, List.length_append, List.length_cons, List.length_nil] at *); omega)) | (refine app_le rfl ?_; omega)))
theorem firstT_cut {P : Int} {l : List Jb} {os : List Od} {e : Int} (he : okE l e) : firstT P (cutT l e) os = (atE P l os e).getD [] := by
  rw [atE_ok he]; unfold firstT; rw [cut_len]
theorem atE_ne {P : Int} {l : List Jb} {os : List Od} {e : Int} (h : VS P l os) (he : 0 ≤ e) {r : List Int} (hr : atE P l os e = some r) : r ≠ [] := fun hn => by
  have := atE_spec (P := P) (e := e) h.pre he
  rw [hr] at this
  have h1 := this.1.len
  have := h.ln
  rw [hn] at h1
  simp at h1
  omega
set_option maxHeartbeats 8000000 in
theorem Short_at {P : Int} {l : List Jb} {os : List Od} (h : VS P l os) : FnAt Try.prog true 20 [.agg [I64 P, .arr JT l, .arr OT os]]
    (.tup [.st true (.narr (.int .i64) (shT P l os : List Int)), .lit (.int .i64 (shE P l os)), .lit (.int .i64 (if shT P l os = [] then 5 else 0))]) [] := by
  have hv := valid_at (P := P) (l := l) (os := os) (by have := h.ln; omega) (by have := h.lo; omega)
  rw [validB_yes h] at hv
  have hln := h.ln
  have hcl := clone_at (l := l) hln.1 (by omega)
  have hrg := fun m (hm : m < l.length) => h.pre.rg m hm
  have hhit : ∀ k r, k < 24 → shortK P l os k = none → atE P l os ((k + 1 : Nat) : Int) = some r → r ≠ [] ∧ r.isEmpty = false ∧ shT P l os = r ∧ shE P l os = (k : Int) + 1 ∧ (if shT P l os = [] then (5 : Int) else 0) = 0 := fun k r hk h0 h1 => by
    have h2 := shortK_hit h0 h1 hk
    have h3 := atE_ne h (by omega) h1
    have h4 : shT P l os = r := by unfold shT; rw [h2]
    refine ⟨h3, ne_isEmpty h3, h4, by unfold shE; rw [h2]; rfl, by rw [h4, if_neg h3]⟩
  have hmiss : shortK P l os 24 = none → shT P l os = [] ∧ shE P l os = 0 ∧ (if shT P l os = [] then (5 : Int) else 0) = 5 := fun h0 => by
    have h4 : shT P l os = [] := by unfold shT; rw [h0]
    exact ⟨h4, by unfold shE; rw [h0], by rw [if_pos h4]⟩
  obtain ⟨R, hR⟩ : ∃ R, R = shT P l os := ⟨_, rfl⟩
  obtain ⟨E, hE⟩ : ∃ E, E = shE P l os := ⟨_, rfl⟩
  obtain ⟨X, hX⟩ : ∃ X : Int, X = if shT P l os = [] then 5 else 0 := ⟨_, rfl⟩
  rw [← hX, ← hR, ← hE] at hhit hmiss
  rw [← hX, ← hR, ← hE]
  clear hX hR hE
  have hll : @List.length JT.T l = l.length := rfl
  have hkl : ∀ (e : Int) i, @List.length JT.T (cutK l e i) = l.length := fun e i => cutK_len
  refine FnAt.of_body tys_ok Try.func20 (by rfl) rfl Try.ntmps20 (by rw [Try.results20]) (by simp) ?_
  
  repeat' (first
 | refine W.seq ?_
 | refine W.block ?_
 | (refine W.region tys_ok [] ?_; conv => whnf)
 | (refine W.drawAll tys_ok [] mixed rfl ?_; conv => whnf)
 | (refine W.ret ?_; conv => whnf)
 | (refine W.skip ?_; conv => whnf)
 | (refine W.exit ?_; conv => whnf)
 | (refine call_at (al := false) (hv) rfl rfl rfl rfl ?_; conv => whnf)
 | (refine W.cond rfl (fun hb => ?_) (fun hb => ?_) <;> (try simp only [Int.reduceToNat, Int.reduceTDiv, Int.reduceTMod, minL, maxL, pickB, zHB, zSH] at hb) <;> (try (first | (cases hb; done) | exact absurd hb (by decide) | (exfalso; omega))))
 | ((with_reducible refine And.intro ?_ ?_); (focus ((repeat' (first | (with_reducible rfl) | (with_reducible refine And.intro ?_ ?_) | omega | rfl | exact Or.inl rfl | exact Or.inr rfl | exact of_decide_eq_true rfl | exact Path.imp_of (of_decide_eq_true rfl) | (focus ((try simp only [Int.reduceToNat, Int.reduceTDiv, Int.reduceTMod, minL, maxL, pickB, zHB, zSH, InK, Path.imp, List.length_replicate, List.length_set, List.length_append, List.length_cons, List.length_nil] at *); omega)) | (refine app_le rfl ?_; omega))); done)); (conv => whnf))
 | ((with_reducible refine And.intro (Side.out ?_) ?_); rotate_left; (conv => whnf))
 | ((first | refine retF1 ?_ | refine retF2 ?_) <;> (conv => whnf) <;> repeat' (first
 | exact trivial
 | (with_reducible rfl)
 | ((with_reducible refine And.intro ?_ ?_) <;> conv => whnf)
 | omega
 | rfl
 | (refine congrArg (SV.arr _) ?_)
 | (refine congrArg (Value.int _) ?_)
 | (refine congrArg Value.bool ?_)))); all_goals (try unfold Side)
  all_goals try (repeat' (first | (with_reducible rfl) | (with_reducible refine And.intro ?_ ?_) | omega | rfl | exact Or.inl rfl | exact Or.inr rfl | exact of_decide_eq_true rfl | exact Path.imp_of (of_decide_eq_true rfl) | (focus ((try simp only [Int.reduceToNat, Int.reduceTDiv, Int.reduceTMod, minL, maxL, pickB, zHB, zSH, InK, Path.imp, List.length_replicate, List.length_set, List.length_append, List.length_cons, List.length_nil] at *); omega)) | (refine app_le rfl ?_; omega)))
  refine W.loop (fun k : Nat => ⟨[(1, .st true (.sadr (.agg [I64 P, .arr JT l, .arr OT os]))), (5, .lit (.int .i64 (((k : Int) + 1))))], []⟩) (fun k => k ≤ 24 ∧ shortK P l os k = none) (fun k => 24 - k) (0) ?_ ?_
  · refine ⟨⟨Nat.zero_le _, rfl⟩, ?_⟩
    refine subF.ok ?_ <;> (conv => whnf) <;> repeat' (first
 | exact trivial
 | (with_reducible rfl)
 | ((with_reducible refine And.intro ?_ ?_) <;> conv => whnf)
 | omega
 | rfl
 | (refine congrArg (SV.arr _) ?_)
 | (refine congrArg (Value.int _) ?_)
 | (refine congrArg Value.bool ?_))
  · rintro k ⟨hk, hno⟩
    by_cases hkl2 : k < 24
    · repeat' (first
 | refine W.seq ?_
 | refine W.block ?_
 | (refine W.region tys_ok [] ?_; conv => whnf)
 | (refine W.drawAll tys_ok [] mixed rfl ?_; conv => whnf)
 | (refine W.ret ?_; conv => whnf)
 | (refine W.skip ?_; conv => whnf)
 | (refine W.exit ?_; conv => whnf)
 | (refine call_at (al := false) (hcl) rfl rfl rfl rfl ?_; conv => whnf)
 | (refine W.cond rfl (fun hb => ?_) (fun hb => ?_) <;> (try simp only [Int.reduceToNat, Int.reduceTDiv, Int.reduceTMod, minL, maxL, pickB, zHB, zSH] at hb) <;> (try (first | (cases hb; done) | exact absurd hb (by decide) | (exfalso; omega))))
 | ((with_reducible refine And.intro ?_ ?_); (focus ((repeat' (first | (with_reducible rfl) | (with_reducible refine And.intro ?_ ?_) | omega | rfl | exact Or.inl rfl | exact Or.inr rfl | exact of_decide_eq_true rfl | exact Path.imp_of (of_decide_eq_true rfl) | (focus ((try simp only [Int.reduceToNat, Int.reduceTDiv, Int.reduceTMod, minL, maxL, pickB, zHB, zSH, InK, Path.imp, List.length_replicate, List.length_set, List.length_append, List.length_cons, List.length_nil] at *); omega)) | (refine app_le rfl ?_; omega))); done)); (conv => whnf))
 | ((with_reducible refine And.intro (Side.out ?_) ?_); rotate_left; (conv => whnf))
 | ((first | refine retF1 ?_ | refine retF2 ?_) <;> (conv => whnf) <;> repeat' (first
 | exact trivial
 | (with_reducible rfl)
 | ((with_reducible refine And.intro ?_ ?_) <;> conv => whnf)
 | omega
 | rfl
 | (refine congrArg (SV.arr _) ?_)
 | (refine congrArg (Value.int _) ?_)
 | (refine congrArg Value.bool ?_)))); all_goals (try unfold Side)
      all_goals try (repeat' (first | (with_reducible rfl) | (with_reducible refine And.intro ?_ ?_) | omega | rfl | exact Or.inl rfl | exact Or.inr rfl | exact of_decide_eq_true rfl | exact Path.imp_of (of_decide_eq_true rfl) | (focus ((try simp only [Int.reduceToNat, Int.reduceTDiv, Int.reduceTMod, minL, maxL, pickB, zHB, zSH, InK, Path.imp, List.length_replicate, List.length_set, List.length_append, List.length_cons, List.length_nil] at *); omega)) | (refine app_le rfl ?_; omega)))
      refine W.loop (fun i : Nat => ⟨[(1, .st true (.sadr (.agg [I64 P, .arr JT l, .arr OT os]))), (5, .lit (.int .i64 (((k : Int) + 1)))), (6, .padr 7000 0), (7, .lit (.bool ((okK l ((k : Int) + 1) i)))), (25, .lit (.int .i64 ((l.length : Int)))), (26, .lit (.int .i64 (i)))], [(7000, .box [.lit (.int .i64 P), .own 22000, .st true (.arr OT os)]), (22000, .row 45 JT true (cutK l ((k : Int) + 1) i))]⟩) (fun i => i ≤ l.length) (fun i => l.length - i) (0) ?_ ?_
      · refine ⟨Nat.zero_le _, ?_⟩
        refine subF.ok ?_ <;> (conv => whnf) <;> repeat' (first
 | exact trivial
 | (with_reducible rfl)
 | ((with_reducible refine And.intro ?_ ?_) <;> conv => whnf)
 | omega
 | rfl
 | (refine congrArg (SV.arr _) ?_)
 | (refine congrArg (Value.int _) ?_)
 | (refine congrArg Value.bool ?_))
        all_goals first | exact okK_zero.symm | exact cutK_zero.symm
      · intro i hi
        have hc1 := hkl ((k : Int) + 1) i
        by_cases hil : i < l.length
        · have hr := hrg i hil
          have hg := cutK_get (e := (k : Int) + 1) hil
          have hs := cutK_step (e := (k : Int) + 1) hil
          have ho := okK_step (l := l) (e := (k : Int) + 1) (i := i)
          have hS : (cutK l ((k : Int) + 1) i).set ((i : Int)).toNat (((cutK l ((k : Int) + 1) i).getD ((i : Int)).toNat J0).1, min ((cutK l ((k : Int) + 1) i).getD ((i : Int)).toNat J0).2.1 ((k : Int) + 1), ((cutK l ((k : Int) + 1) i).getD ((i : Int)).toNat J0).2.2) = cutK l ((k : Int) + 1) (i + 1) := by
            rw [Int.toNat_natCast, hg, ← hs]; rfl
          have hlt : ∀ y : Jb, ((i : Int)).toNat < ((cutK l ((k : Int) + 1) i).set ((i : Int)).toNat y).length := fun y => by
            rw [List.length_set, cutK_len]; omega
          have hgn : (cutK l ((k : Int) + 1) (i + 1)).getD i J0 = cutJ ((k : Int) + 1) (l.getD i J0) := by
            rw [← hs, List.getD_eq_getElem?_getD, List.getElem?_set]; simp [cutK_len, hil]
          have hI : ∀ S : List Jb, S = cutK l ((k : Int) + 1) (i + 1) → InK .i64 ((S.getD ((i : Int)).toNat J0).1 + (S.getD ((i : Int)).toNat J0).2.2.1) := fun S hSe => by
            rw [hSe, Int.toNat_natCast, hgn]
            unfold jf jt jl jp at hr
            simp only [InK, cutJ]; omega
          have hPk : ∀ S : List Jb, S = cutK l ((k : Int) + 1) (i + 1) → pickB (okK l ((k : Int) + 1) i) (Operand.tmp 57) (Operand.const (Value.bool false)) (decide ((S.getD ((i : Int)).toNat J0).1 + (S.getD ((i : Int)).toNat J0).2.2.1 ≤ (S.getD ((i : Int)).toNat J0).2.1)) false = okK l ((k : Int) + 1) (i + 1) := fun S hSe => by
            rw [hSe, Int.toNat_natCast, hgn, ho]
            cases okK l ((k : Int) + 1) i <;> rfl
          repeat' (first
 | refine W.seq ?_
 | refine W.block ?_
 | (refine W.drawPhTo (id := 14) tys_ok [] mixed [0, 1, 2, 6, 10, 18, 2, 66, 130, 258, 546, 2, 2050, 4098, 8194, 17410, 32770, 131071] [([0, 1, 2, 3, 4, 6, 7, 8, 11, 12, 13], 4, 32767), ([15, 16, 17], 0, 262143)] ⟨[(1, .st true (.sadr (.agg [I64 P, .arr JT l, .arr OT os]))), (5, .lit (.int .i64 (((k : Int) + 1)))), (6, .padr 7000 0), (7, .lit (.bool ((okK l ((k : Int) + 1) (i + 1))))), (25, .lit (.int .i64 ((l.length : Int)))), (26, .lit (.int .i64 (i)))], [(7000, .box [.lit (.int .i64 P), .own 22000, .st true (.arr OT os)]), (22000, .row 45 JT true (cutK l ((k : Int) + 1) (i + 1)))]⟩ (by decide +kernel) ?_ ?_ <;> (conv => whnf))
 | (refine W.region tys_ok [] ?_; conv => whnf)
 | (refine W.drawAll tys_ok [] mixed rfl ?_; conv => whnf)
 | (refine W.ret ?_; conv => whnf)
 | (refine W.skip ?_; conv => whnf)
 | (refine W.exit ?_; conv => whnf)
 | (refine Both.mk ?_ ?_ <;> (conv => whnf))
 | (refine W.cond rfl (fun hb => ?_) (fun hb => ?_) <;> (try simp only [Int.reduceToNat, Int.reduceTDiv, Int.reduceTMod, minL, maxL, pickB, zHB, zSH] at hb) <;> (try (first | (cases hb; done) | exact absurd hb (by decide) | (exfalso; omega))))
 | ((with_reducible refine And.intro ?_ ?_); (focus ((repeat' (first | (with_reducible rfl) | (with_reducible refine And.intro ?_ ?_) | omega | rfl | exact Or.inl rfl | exact Or.inr rfl | exact of_decide_eq_true rfl | exact Path.imp_of (of_decide_eq_true rfl) | (focus ((try simp only [Int.reduceToNat, Int.reduceTDiv, Int.reduceTMod, minL, maxL, pickB, zHB, zSH, InK, Path.imp, List.length_replicate, List.length_set, List.length_append, List.length_cons, List.length_nil] at *); omega)) | (refine app_le rfl ?_; omega))); done)); (conv => whnf))
 | ((with_reducible refine And.intro (Side.out ?_) ?_); rotate_left; (conv => whnf))
 | ((first | refine retF1 ?_ | refine retF2 ?_ | refine subF.leaf ?_ | refine subF.side ?_) <;> (conv => whnf) <;> repeat' (first
 | exact trivial
 | (with_reducible rfl)
 | ((with_reducible refine And.intro ?_ ?_) <;> conv => whnf)
 | omega
 | rfl
 | (refine congrArg (SV.arr _) ?_)
 | (refine congrArg (Value.int _) ?_)
 | (refine congrArg Value.bool ?_)))); all_goals (try unfold Side)
          all_goals try (repeat' (first | (with_reducible rfl) | (with_reducible refine And.intro ?_ ?_) | omega | rfl | exact Or.inl rfl | exact Or.inr rfl | exact of_decide_eq_true rfl | exact Path.imp_of (of_decide_eq_true rfl) | (focus ((try simp only [Int.reduceToNat, Int.reduceTDiv, Int.reduceTMod, minL, maxL, pickB, zHB, zSH, InK, Path.imp, List.length_replicate, List.length_set, List.length_append, List.length_cons, List.length_nil] at *); omega)) | (refine app_le rfl ?_; omega)))
          all_goals try (first | exact hS | exact Path.imp_of (hlt _) | exact Path.imp_of (hI _ hS) | exact hPk _ hS)
          refine ⟨i + 1, ⟨by omega, by omega⟩, ?_⟩
          refine subF.ok ?_ <;> (conv => whnf) <;> repeat' (first
 | exact trivial
 | (with_reducible rfl)
 | ((with_reducible refine And.intro ?_ ?_) <;> conv => whnf)
 | omega
 | rfl
 | (refine congrArg (SV.arr _) ?_)
 | (refine congrArg (Value.int _) ?_)
 | (refine congrArg Value.bool ?_))
        · have hie : l.length = i := by omega
          subst hie
          have hce := cutK_end (l := l) (e := (k : Int) + 1)
          have hcast : ((k + 1 : Nat) : Int) = (k : Int) + 1 := by omega
          by_cases hok : okE l ((k : Int) + 1)
          · have hokb : okK l ((k : Int) + 1) l.length = true := okK_end.2 hok
            have hfa := first_at (cut_vs h hok)
            rw [firstT_cut hok] at hfa
            have hh := fun r => hhit k r hkl2 hno
            have hm := shortK_miss hno
            rw [hcast] at hh hm
            rw [hokb]
            cases hat : atE P l os ((k : Int) + 1) with
            | none =>
              rw [hat] at hfa
              have hfb : FnAt Try.prog true 39 [.agg [I64 P, .arr JT (cutT l ((k : Int) + 1)), .arr OT os]] (.st true (.narr (.int .i64) ([] : List Int))) [] := hfa
              repeat' (first
 | refine W.seq ?_
 | refine W.block ?_
 | (refine W.resub (x := Code.region 17 _ _) (Γ' := ⟨[(1, .st true (.sadr (.agg [I64 P, .arr JT l, .arr OT os]))), (5, .lit (.int .i64 (((k : Int) + 1)))), (6, .st true (.sadr (.agg [I64 P, .arr JT (cutT l ((k : Int) + 1)), .arr OT os])))], []⟩) ?_ (W.region tys_ok [] ?_); rotate_left; (conv => whnf))
 | (refine W.region tys_ok [] ?_; conv => whnf)
 | (refine W.drawAll tys_ok [] mixed rfl ?_; conv => whnf)
 | (refine W.ret ?_; conv => whnf)
 | (refine W.skip ?_; conv => whnf)
 | (refine W.exit ?_; conv => whnf)
 | (refine call_at (al := true) (hfb) rfl rfl rfl rfl ?_; conv => whnf)
 | (refine W.cond rfl (fun hb => ?_) (fun hb => ?_) <;> (try simp only [Int.reduceToNat, Int.reduceTDiv, Int.reduceTMod, minL, maxL, pickB, zHB, zSH] at hb) <;> (try (first | (cases hb; done) | exact absurd hb (by decide) | (exfalso; omega))))
 | ((with_reducible refine And.intro ?_ ?_); (focus ((repeat' (first | (with_reducible rfl) | (with_reducible refine And.intro ?_ ?_) | omega | rfl | exact Or.inl rfl | exact Or.inr rfl | exact of_decide_eq_true rfl | exact Path.imp_of (of_decide_eq_true rfl) | (focus ((try simp only [Int.reduceToNat, Int.reduceTDiv, Int.reduceTMod, minL, maxL, pickB, zHB, zSH, InK, Path.imp, List.length_replicate, List.length_set, List.length_append, List.length_cons, List.length_nil] at *); omega)) | (refine app_le rfl ?_; omega))); done)); (conv => whnf))
 | ((with_reducible refine And.intro (Side.out ?_) ?_); rotate_left; (conv => whnf))
 | ((first | refine retF1 ?_ | refine retF2 ?_) <;> (conv => whnf) <;> repeat' (first
 | exact trivial
 | (with_reducible rfl)
 | ((with_reducible refine And.intro ?_ ?_) <;> conv => whnf)
 | omega
 | rfl
 | (refine congrArg (SV.arr _) ?_)
 | (refine congrArg (Value.int _) ?_)
 | (refine congrArg Value.bool ?_)))); all_goals (try unfold Side)
              all_goals try (repeat' (first | (with_reducible rfl) | (with_reducible refine And.intro ?_ ?_) | omega | rfl | exact Or.inl rfl | exact Or.inr rfl | exact of_decide_eq_true rfl | exact Path.imp_of (of_decide_eq_true rfl) | (focus ((try simp only [Int.reduceToNat, Int.reduceTDiv, Int.reduceTMod, minL, maxL, pickB, zHB, zSH, InK, Path.imp, List.length_replicate, List.length_set, List.length_append, List.length_cons, List.length_nil] at *); omega)) | (refine app_le rfl ?_; omega)))
              · refine ⟨k + 1, ⟨⟨by omega, hm hat⟩, by omega⟩, ?_⟩
                refine subF.ok ?_ <;> (conv => whnf) <;> repeat' (first
 | exact trivial
 | (with_reducible rfl)
 | ((with_reducible refine And.intro ?_ ?_) <;> conv => whnf)
 | omega
 | rfl
 | (refine congrArg (SV.arr _) ?_)
 | (refine congrArg (Value.int _) ?_)
 | (refine congrArg Value.bool ?_))
              · refine subF.ok ?_ <;> (conv => whnf) <;> repeat' (first
 | exact trivial
 | (with_reducible rfl)
 | ((with_reducible refine And.intro ?_ ?_) <;> conv => whnf)
 | omega
 | rfl
 | (refine congrArg (SV.arr _) ?_)
 | (refine congrArg (Value.int _) ?_)
 | (refine congrArg Value.bool ?_))
                all_goals exact hce
            | some r =>
              rw [hat] at hfa
              have hfb : FnAt Try.prog true 39 [.agg [I64 P, .arr JT (cutT l ((k : Int) + 1)), .arr OT os]] (.st true (.narr (.int .i64) (r : List Int))) [] := hfa
              obtain ⟨h1, h2, h3, h4, h5⟩ := hh r hat
              repeat' (first
 | refine W.seq ?_
 | refine W.block ?_
 | (refine W.resub (x := Code.region 17 _ _) (Γ' := ⟨[(1, .st true (.sadr (.agg [I64 P, .arr JT l, .arr OT os]))), (5, .lit (.int .i64 (((k : Int) + 1)))), (6, .st true (.sadr (.agg [I64 P, .arr JT (cutT l ((k : Int) + 1)), .arr OT os])))], []⟩) ?_ (W.region tys_ok [] ?_); rotate_left; (conv => whnf))
 | (refine W.region tys_ok [] ?_; conv => whnf)
 | (refine W.drawAll tys_ok [] mixed rfl ?_; conv => whnf)
 | (refine W.ret ?_; conv => whnf)
 | (refine W.skip ?_; conv => whnf)
 | (refine W.exit ?_; conv => whnf)
 | (refine call_at (al := true) (hfb) rfl rfl rfl rfl ?_; conv => whnf)
 | (refine W.cond rfl (fun hb => ?_) (fun hb => ?_) <;> (try simp only [Int.reduceToNat, Int.reduceTDiv, Int.reduceTMod, minL, maxL, pickB, zHB, zSH] at hb) <;> (try (first | (cases hb; done) | exact absurd hb (by decide) | (exfalso; omega) | (exact Bool.noConfusion (hb.symm.trans h2)))))
 | ((with_reducible refine And.intro ?_ ?_); (focus ((repeat' (first | (with_reducible rfl) | (with_reducible refine And.intro ?_ ?_) | omega | rfl | exact Or.inl rfl | exact Or.inr rfl | exact of_decide_eq_true rfl | exact Path.imp_of (of_decide_eq_true rfl) | (focus ((try simp only [Int.reduceToNat, Int.reduceTDiv, Int.reduceTMod, minL, maxL, pickB, zHB, zSH, InK, Path.imp, List.length_replicate, List.length_set, List.length_append, List.length_cons, List.length_nil] at *); omega)) | (refine app_le rfl ?_; omega))); done)); (conv => whnf))
 | ((with_reducible refine And.intro (Side.out ?_) ?_); rotate_left; (conv => whnf))
 | ((first | refine retF1 ?_ | refine retF2 ?_) <;> (conv => whnf) <;> repeat' (first
 | exact trivial
 | (with_reducible rfl)
 | ((with_reducible refine And.intro ?_ ?_) <;> conv => whnf)
 | omega
 | rfl
 | (refine congrArg (SV.arr _) ?_)
 | (refine congrArg (Value.int _) ?_)
 | (refine congrArg Value.bool ?_)))); all_goals (try unfold Side)
              all_goals try (repeat' (first | (with_reducible rfl) | (with_reducible refine And.intro ?_ ?_) | omega | rfl | exact Or.inl rfl | exact Or.inr rfl | exact of_decide_eq_true rfl | exact Path.imp_of (of_decide_eq_true rfl) | (focus ((try simp only [Int.reduceToNat, Int.reduceTDiv, Int.reduceTMod, minL, maxL, pickB, zHB, zSH, InK, Path.imp, List.length_replicate, List.length_set, List.length_append, List.length_cons, List.length_nil] at *); omega)) | (refine app_le rfl ?_; omega)))
              all_goals try (first | exact congrArg (SV.narr _) h3.symm | exact h3.symm | exact h4.symm | exact h5.symm)
              · refine subF.ok ?_ <;> (conv => whnf) <;> repeat' (first
 | exact trivial
 | (with_reducible rfl)
 | ((with_reducible refine And.intro ?_ ?_) <;> conv => whnf)
 | omega
 | rfl
 | (refine congrArg (SV.arr _) ?_)
 | (refine congrArg (Value.int _) ?_)
 | (refine congrArg Value.bool ?_))
                all_goals exact hce
          · have hokb : okK l ((k : Int) + 1) l.length = false := by
              cases e : okK l ((k : Int) + 1) l.length with
              | false => rfl
              | true => exact absurd (okK_end.1 e) hok
            have hm := shortK_miss hno (by rw [hcast]; exact atE_no hok)
            rw [hokb]
            repeat' (first
 | refine W.seq ?_
 | refine W.block ?_
 | (refine W.region tys_ok [] ?_; conv => whnf)
 | (refine W.drawAll tys_ok [] mixed rfl ?_; conv => whnf)
 | (refine W.ret ?_; conv => whnf)
 | (refine W.skip ?_; conv => whnf)
 | (refine W.exit ?_; conv => whnf)
 | (refine W.cond rfl (fun hb => ?_) (fun hb => ?_) <;> (try simp only [Int.reduceToNat, Int.reduceTDiv, Int.reduceTMod, minL, maxL, pickB, zHB, zSH] at hb) <;> (try (first | (cases hb; done) | exact absurd hb (by decide) | (exfalso; omega))))
 | ((with_reducible refine And.intro ?_ ?_); (focus ((repeat' (first | (with_reducible rfl) | (with_reducible refine And.intro ?_ ?_) | omega | rfl | exact Or.inl rfl | exact Or.inr rfl | exact of_decide_eq_true rfl | exact Path.imp_of (of_decide_eq_true rfl) | (focus ((try simp only [Int.reduceToNat, Int.reduceTDiv, Int.reduceTMod, minL, maxL, pickB, zHB, zSH, InK, Path.imp, List.length_replicate, List.length_set, List.length_append, List.length_cons, List.length_nil] at *); omega)) | (refine app_le rfl ?_; omega))); done)); (conv => whnf))
 | ((with_reducible refine And.intro (Side.out ?_) ?_); rotate_left; (conv => whnf))
 | ((first | refine retF1 ?_ | refine retF2 ?_) <;> (conv => whnf) <;> repeat' (first
 | exact trivial
 | (with_reducible rfl)
 | ((with_reducible refine And.intro ?_ ?_) <;> conv => whnf)
 | omega
 | rfl
 | (refine congrArg (SV.arr _) ?_)
 | (refine congrArg (Value.int _) ?_)
 | (refine congrArg Value.bool ?_)))); all_goals (try unfold Side)
            all_goals try (repeat' (first | (with_reducible rfl) | (with_reducible refine And.intro ?_ ?_) | omega | rfl | exact Or.inl rfl | exact Or.inr rfl | exact of_decide_eq_true rfl | exact Path.imp_of (of_decide_eq_true rfl) | (focus ((try simp only [Int.reduceToNat, Int.reduceTDiv, Int.reduceTMod, minL, maxL, pickB, zHB, zSH, InK, Path.imp, List.length_replicate, List.length_set, List.length_append, List.length_cons, List.length_nil] at *); omega)) | (refine app_le rfl ?_; omega)))
            refine ⟨k + 1, ⟨⟨by omega, hm⟩, by omega⟩, ?_⟩
            refine subF.ok ?_ <;> (conv => whnf) <;> repeat' (first
 | exact trivial
 | (with_reducible rfl)
 | ((with_reducible refine And.intro ?_ ?_) <;> conv => whnf)
 | omega
 | rfl
 | (refine congrArg (SV.arr _) ?_)
 | (refine congrArg (Value.int _) ?_)
 | (refine congrArg Value.bool ?_))
    · have hke : k = 24 := by omega
      subst hke
      obtain ⟨e1, e2, e3⟩ := hmiss hno
      repeat' (first
 | refine W.seq ?_
 | refine W.block ?_
 | (refine W.region tys_ok [] ?_; conv => whnf)
 | (refine W.drawAll tys_ok [] mixed rfl ?_; conv => whnf)
 | (refine W.ret ?_; conv => whnf)
 | (refine W.skip ?_; conv => whnf)
 | (refine W.exit ?_; conv => whnf)
 | (refine W.cond rfl (fun hb => ?_) (fun hb => ?_) <;> (try simp only [Int.reduceToNat, Int.reduceTDiv, Int.reduceTMod, minL, maxL, pickB, zHB, zSH] at hb) <;> (try (first | (cases hb; done) | exact absurd hb (by decide) | (exfalso; omega))))
 | ((with_reducible refine And.intro ?_ ?_); (focus ((repeat' (first | (with_reducible rfl) | (with_reducible refine And.intro ?_ ?_) | omega | rfl | exact Or.inl rfl | exact Or.inr rfl | exact of_decide_eq_true rfl | exact Path.imp_of (of_decide_eq_true rfl) | (focus ((try simp only [Int.reduceToNat, Int.reduceTDiv, Int.reduceTMod, minL, maxL, pickB, zHB, zSH, InK, Path.imp, List.length_replicate, List.length_set, List.length_append, List.length_cons, List.length_nil] at *); omega)) | (refine app_le rfl ?_; omega))); done)); (conv => whnf))
 | ((with_reducible refine And.intro (Side.out ?_) ?_); rotate_left; (conv => whnf))
 | ((first | refine retF1 ?_ | refine retF2 ?_) <;> (conv => whnf) <;> repeat' (first
 | exact trivial
 | (with_reducible rfl)
 | ((with_reducible refine And.intro ?_ ?_) <;> conv => whnf)
 | omega
 | rfl
 | (refine congrArg (SV.arr _) ?_)
 | (refine congrArg (Value.int _) ?_)
 | (refine congrArg Value.bool ?_)))); all_goals (try unfold Side)
      all_goals try (repeat' (first | (with_reducible rfl) | (with_reducible refine And.intro ?_ ?_) | omega | rfl | exact Or.inl rfl | exact Or.inr rfl | exact of_decide_eq_true rfl | exact Path.imp_of (of_decide_eq_true rfl) | (focus ((try simp only [Int.reduceToNat, Int.reduceTDiv, Int.reduceTMod, minL, maxL, pickB, zHB, zSH, InK, Path.imp, List.length_replicate, List.length_set, List.length_append, List.length_cons, List.length_nil] at *); omega)) | (refine app_le rfl ?_; omega)))
      all_goals first | exact e1 | exact e1.symm | exact e2.symm | exact e3.symm
end Go.Proofs.Ytmfholchenihaaa
namespace Go.Proofs.Ytmfholchenihaaa
open Go Go.Vc Go.Sh
set_option linter.unusedVariables false
set_option linter.unusedSimpArgs false
theorem refGrow_at {P : Int} {l0 : List Jb} {os : List Od} (hP : 0 ≤ P ∧ P ≤ 100) : ∀ {k : Nat} {l : List Jb} {N : List Nd}, Pre l os 0 → waysT l ≤ k → Bd l → Ords os l.length → 1 ≤ l.length → N.length ≤ 20000 →
    FnM Try.prog 41 [.padr 1000000000 0, .st false (.arr JT l)] [(1000000000, .box [.lit (.int .i64 P), .st true (.arr JT l0), .st true (.arr OT os), .own 5]), (5, .row 57 NT true N)] (.tup [.lit (.int .i64 (if (growR P os k l N).1 = true then (N.length : Int) else 0)), .lit (.bool (growR P os k l N).1)]) [(1000000000, .box [.lit (.int .i64 P), .st true (.arr JT l0), .st true (.arr OT os), .own 5]), (5, .row 57 NT true (growR P os k l N).2)]
  | 0, l, N, hp, hk, _, _, _, _ => by have := ways_pos hp; omega
  | k + 1, l, N, hp, hk, hbd, ho, h1, hN => by
    by_cases hlong : 20000 ≤ N.length
    · rw [gr_long hlong]
      exact growA_at hP hbd ho h1 hN hlong
    · cases hi : lateI os l with
      | some i =>
        rw [gr_late hlong hi]
        exact growB_at hP hbd ho h1 hN hlong (by unfold ixT; rw [hi])
      | none =>
        cases hf : overF P l with
        | some ab =>
          obtain ⟨a, b⟩ := ab
          rw [gr_over hlong hi hf]
          exact growC_at hP hbd ho h1 hN hlong hi hf
        | none =>
          cases hj : pickK l l.length with
          | none =>
            rw [gr_none hlong hi hf hj]
            exact growD_at hP hbd ho h1 hN hlong hi hf (by unfold pkI; rw [hj])
          | some j =>
            obtain ⟨hjl, hfr⟩ := pickK_some hj
            have hpk : pkI l l.length = (j : Int) := by unfold pkI; rw [hj]
            have hw := ways_part hjl hfr
            have pL := part_L hp hjl hfr
            have pR := part_R hp hjl hfr
            have wL := ways_pos pL
            have wR := ways_pos pR
            have hmid := mid_rg hfr
            obtain ⟨bL, bR, lL, lR⟩ := part_bd hbd hjl hmid
            have hN1 : (N ++ [N0]).length ≤ 20000 := by simp; omega
            have hlen1 := growR_len (P := P) (os := os) (k := k) (l := partL l j (midT l j)) hN1
            have cL := refGrow_at (l0 := l0) hP (k := k) (l := partL l j (midT l j)) (N := N ++ [N0]) pL (by omega) bL (by rw [lL]; exact ho) (by rw [lL]; exact h1) hN1
            have cR := refGrow_at (l0 := l0) hP (k := k) (l := partR l j (midT l j)) (N := (growR P os k (partL l j (midT l j)) (N ++ [N0])).2) pR (by omega) bR (by rw [lR]; exact ho) (by rw [lR]; exact h1) hlen1.2
            have hlen2 := growR_len (P := P) (os := os) (k := k) (l := partR l j (midT l j)) hlen1.2
            rw [gr_pick hlong hi hf hj]
            obtain ⟨r1, hr1⟩ : ∃ r1, r1 = growR P os k (partL l j (midT l j)) (N ++ [N0]) := ⟨_, rfl⟩
            rw [← hr1] at cL cR hlen1 hlen2 ⊢
            obtain ⟨b1, N2⟩ := r1
            obtain ⟨r2, hr2⟩ : ∃ r2, r2 = growR P os k (partR l j (midT l j)) (b1, N2).2 := ⟨_, rfl⟩
            rw [← hr2] at cR hlen2 ⊢
            obtain ⟨b2, N3⟩ := r2
            dsimp only at cL cR hlen1 hlen2 ⊢
            simp only [List.length_append, List.length_cons, List.length_nil] at hlen1
            cases b1 with
            | false => exact growE_at (N3 := N3) hP hbd ho h1 hN hlong hi hf hjl hfr hpk rfl rfl cL
            | true =>
              have e1 : (((N ++ [N0]).length : Nat) : Int) = (N.length : Int) + 1 := by simp
              rw [if_pos rfl, e1] at cL
              cases b2 with
              | false => exact growF_at hP hbd ho h1 hN hlong hi hf hjl hfr hpk rfl rfl hlen1.2 cL cR
              | true =>
                rw [if_pos rfl] at cR
                exact growG_at hP hbd ho h1 hN hlong hi hf hjl hfr hpk rfl rfl hlen1.2 hlen2.2 (by omega) cL cR
def refT (P : Int) (l : List Jb) (os : List Od) : Bool × List Nd := growR P os (waysT l) l []
theorem Refuse_no {P : Int} {l : List Jb} {os : List Od} (hl : l.length ≤ 1000) (ho : os.length ≤ 1000) (h : ¬ VS P l os) : FnAt Try.prog true 24 [.agg [I64 P, .arr JT l, .arr OT os]] (.tup [.st true (.arr NT []), .lit (.int .i64 1)]) [] := by
  have hv := valid_at (P := P) hl ho
  rw [validB_no h] at hv
  refine FnAt.of_body tys_ok Try.func24 (by rfl) rfl Try.ntmps24 (by rw [Try.results24]) (by simp) ?_
  
  repeat' (first
 | refine W.seq ?_
 | refine W.block ?_
 | (refine W.region tys_ok [] ?_; conv => whnf)
 | (refine W.drawAll tys_ok [] mixed rfl ?_; conv => whnf)
 | (refine W.ret ?_; conv => whnf)
 | (refine W.skip ?_; conv => whnf)
 | (refine W.exit ?_; conv => whnf)
 | (refine call_at (al := false) (hv) rfl rfl rfl rfl ?_; conv => whnf)
 | (refine W.cond rfl (fun hb => ?_) (fun hb => ?_) <;> (try simp only [Int.reduceToNat, Int.reduceTDiv, Int.reduceTMod, minL, maxL, pickB, zHB, zSH] at hb) <;> (try (first | (cases hb; done) | exact absurd hb (by decide) | (exfalso; omega))))
 | ((with_reducible refine And.intro ?_ ?_); (focus ((repeat' (first | (with_reducible rfl) | (with_reducible refine And.intro ?_ ?_) | omega | rfl | exact Or.inl rfl | exact Or.inr rfl | exact of_decide_eq_true rfl | exact Path.imp_of (of_decide_eq_true rfl) | (focus ((try simp only [Int.reduceToNat, Int.reduceTDiv, Int.reduceTMod, minL, maxL, pickB, zHB, zSH, InK, Path.imp, List.length_replicate, List.length_set, List.length_append, List.length_cons, List.length_nil] at *); omega)) | (refine app_le rfl ?_; omega))); done)); (conv => whnf))
 | ((with_reducible refine And.intro (Side.out ?_) ?_); rotate_left; (conv => whnf))
 | ((first | refine retF1 ?_ | refine retF2 ?_) <;> (conv => whnf) <;> repeat' (first
 | exact trivial
 | (with_reducible rfl)
 | ((with_reducible refine And.intro ?_ ?_) <;> conv => whnf)
 | omega
 | rfl
 | (refine congrArg (SV.arr _) ?_)
 | (refine congrArg (Value.int _) ?_)
 | (refine congrArg Value.bool ?_)))); all_goals (try unfold Side)
  all_goals try (repeat' (first | (with_reducible rfl) | (with_reducible refine And.intro ?_ ?_) | omega | rfl | exact Or.inl rfl | exact Or.inr rfl | exact of_decide_eq_true rfl | exact Path.imp_of (of_decide_eq_true rfl) | (focus ((try simp only [Int.reduceToNat, Int.reduceTDiv, Int.reduceTMod, minL, maxL, pickB, zHB, zSH, InK, Path.imp, List.length_replicate, List.length_set, List.length_append, List.length_cons, List.length_nil] at *); omega)) | (refine app_le rfl ?_; omega)))
theorem Refuse_none {P : Int} {l : List Jb} {os : List Od} (h : VS P l os) (hf : firstT P l os ≠ []) : FnAt Try.prog true 24 [.agg [I64 P, .arr JT l, .arr OT os]] (.tup [.st true (.arr NT []), .lit (.int .i64 5)]) [] := by
  have hv := valid_at (P := P) (l := l) (os := os) (by have := h.ln; omega) (by have := h.lo; omega)
  rw [validB_yes h] at hv
  have hr := first_at h
  have he := ne_isEmpty hf
  refine FnAt.of_body tys_ok Try.func24 (by rfl) rfl Try.ntmps24 (by rw [Try.results24]) (by simp) ?_
  
  repeat' (first
 | refine W.seq ?_
 | refine W.block ?_
 | (refine W.region tys_ok [] ?_; conv => whnf)
 | (refine W.drawAll tys_ok [] mixed rfl ?_; conv => whnf)
 | (refine W.ret ?_; conv => whnf)
 | (refine W.skip ?_; conv => whnf)
 | (refine W.exit ?_; conv => whnf)
 | (refine call_at (al := false) (hv) rfl rfl rfl rfl ?_; conv => whnf)
 | (refine call_at (al := true) (hr) rfl rfl rfl rfl ?_; conv => whnf)
 | (refine W.cond rfl (fun hb => ?_) (fun hb => ?_) <;> (try simp only [Int.reduceToNat, Int.reduceTDiv, Int.reduceTMod, minL, maxL, pickB, zHB, zSH] at hb) <;> (try (first | (cases hb; done) | exact absurd hb (by decide) | (exfalso; omega) | (exact Bool.noConfusion (hb.symm.trans he)))))
 | ((with_reducible refine And.intro ?_ ?_); (focus ((repeat' (first | (with_reducible rfl) | (with_reducible refine And.intro ?_ ?_) | omega | rfl | exact Or.inl rfl | exact Or.inr rfl | exact of_decide_eq_true rfl | exact Path.imp_of (of_decide_eq_true rfl) | (focus ((try simp only [Int.reduceToNat, Int.reduceTDiv, Int.reduceTMod, minL, maxL, pickB, zHB, zSH, InK, Path.imp, List.length_replicate, List.length_set, List.length_append, List.length_cons, List.length_nil] at *); omega)) | (refine app_le rfl ?_; omega))); done)); (conv => whnf))
 | ((with_reducible refine And.intro (Side.out ?_) ?_); rotate_left; (conv => whnf))
 | ((first | refine retF1 ?_ | refine retF2 ?_) <;> (conv => whnf) <;> repeat' (first
 | exact trivial
 | (with_reducible rfl)
 | ((with_reducible refine And.intro ?_ ?_) <;> conv => whnf)
 | omega
 | rfl
 | (refine congrArg (SV.arr _) ?_)
 | (refine congrArg (Value.int _) ?_)
 | (refine congrArg Value.bool ?_)))); all_goals (try unfold Side)
  all_goals try (repeat' (first | (with_reducible rfl) | (with_reducible refine And.intro ?_ ?_) | omega | rfl | exact Or.inl rfl | exact Or.inr rfl | exact of_decide_eq_true rfl | exact Path.imp_of (of_decide_eq_true rfl) | (focus ((try simp only [Int.reduceToNat, Int.reduceTDiv, Int.reduceTMod, minL, maxL, pickB, zHB, zSH, InK, Path.imp, List.length_replicate, List.length_set, List.length_append, List.length_cons, List.length_nil] at *); omega)) | (refine app_le rfl ?_; omega)))
set_option maxHeartbeats 4000000 in
theorem Refuse_full {P : Int} {l : List Jb} {os : List Od} (h : VS P l os) (hf : firstT P l os = []) (hg : (refT P l os).1 = false) : FnAt Try.prog true 24 [.agg [I64 P, .arr JT l, .arr OT os]] (.tup [.st true (.arr NT []), .lit (.int .i64 4)]) [] := by
  have hv := valid_at (P := P) (l := l) (os := os) (by have := h.ln; omega) (by have := h.lo; omega)
  rw [validB_yes h] at hv
  have hr := first_at h
  rw [hf] at hr
  have hc := refGrow_at (P := P) (l0 := l) (os := os) (k := waysT l) (l := l) (N := []) (by have := h.pw; omega) h.pre (Nat.le_refl _) (bd_of h) (ords_of h) h.ln.1 (by simp)
  have hg2 : (growR P os (waysT l) l []).1 = false := hg
  rw [hg2, if_neg (by decide)] at hc
  obtain ⟨M, hM⟩ : ∃ M, M = (growR P os (waysT l) l []).2 := ⟨_, rfl⟩
  rw [← hM] at hc
  refine FnAt.of_body tys_ok Try.func24 (by rfl) rfl Try.ntmps24 (by rw [Try.results24]) (by simp) ?_
  
  repeat' (first
 | refine W.seq ?_
 | refine W.block ?_
 | (refine W.regionM (id := 6) tys_ok [] [3] ?_; conv => whnf)
 | (refine W.region tys_ok [] ?_; conv => whnf)
 | (refine W.drawAll tys_ok [] mixed rfl ?_; conv => whnf)
 | (refine W.ret ?_; conv => whnf)
 | (refine W.skip ?_; conv => whnf)
 | (refine W.exit ?_; conv => whnf)
 | (refine call_at (al := false) (hv) rfl rfl rfl rfl ?_; conv => whnf)
 | (refine call_at (al := true) (hr) rfl rfl rfl rfl ?_; conv => whnf)
 | (refine callM_at (hc) ?_; conv => whnf)
 | (refine W.cond rfl (fun hb => ?_) (fun hb => ?_) <;> (try simp only [Int.reduceToNat, Int.reduceTDiv, Int.reduceTMod, minL, maxL, pickB, zHB, zSH] at hb) <;> (try (first | (cases hb; done) | exact absurd hb (by decide) | (exfalso; omega))))
 | (refine Or.inl (And.intro ?_ ?_); (focus (first | exact trivial | exact ⟨rfl, trivial⟩ | (refine ⟨?_, trivial⟩; dsimp only; simp only [Int.reduceToNat, Int.reduceTDiv, Int.reduceTMod, minL, maxL, pickB, zHB, zSH]; omega))); (conv => whnf))
 | (refine Or.inr (And.intro ?_ ?_); (focus (intro h; have h := h.1; dsimp only at h; first | (exact Bool.noConfusion h) | (simp only [Int.reduceToNat, Int.reduceTDiv, Int.reduceTMod, minL, maxL, pickB, zHB, zSH] at h; omega))); (conv => whnf))
 | ((with_reducible refine And.intro ?_ ?_); (focus ((repeat' (first | (with_reducible rfl) | (with_reducible refine And.intro ?_ ?_) | omega | rfl | exact Or.inl rfl | exact Or.inr rfl | exact of_decide_eq_true rfl | exact Path.imp_of (of_decide_eq_true rfl) | (focus ((try simp only [Int.reduceToNat, Int.reduceTDiv, Int.reduceTMod, minL, maxL, pickB, zHB, zSH, InK, Path.imp, List.length_replicate, List.length_set, List.length_append, List.length_cons, List.length_nil] at *); omega)) | (refine app_le rfl ?_; omega))); done)); (conv => whnf))
 | ((with_reducible refine And.intro (Side.out ?_) ?_); rotate_left; (conv => whnf))
 | ((first | refine retF1 ?_ | refine retF2 ?_) <;> (conv => whnf) <;> repeat' (first
 | exact trivial
 | (with_reducible rfl)
 | ((with_reducible refine And.intro ?_ ?_) <;> conv => whnf)
 | omega
 | rfl
 | (refine congrArg (SV.arr _) ?_)
 | (refine congrArg (Value.int _) ?_)
 | (refine congrArg Value.bool ?_)))); all_goals (try unfold Side)
  all_goals try (repeat' (first | (with_reducible rfl) | (with_reducible refine And.intro ?_ ?_) | omega | rfl | exact Or.inl rfl | exact Or.inr rfl | exact of_decide_eq_true rfl | exact Path.imp_of (of_decide_eq_true rfl) | (focus ((try simp only [Int.reduceToNat, Int.reduceTDiv, Int.reduceTMod, minL, maxL, pickB, zHB, zSH, InK, Path.imp, List.length_replicate, List.length_set, List.length_append, List.length_cons, List.length_nil] at *); omega)) | (refine app_le rfl ?_; omega)))
set_option maxHeartbeats 4000000 in
theorem Refuse_ok {P : Int} {l : List Jb} {os : List Od} (h : VS P l os) (hf : firstT P l os = []) (hg : (refT P l os).1 = true) : FnAt Try.prog true 24 [.agg [I64 P, .arr JT l, .arr OT os]] (.tup [.own 0, .lit (.int .i64 0)]) [(0, .row 57 NT true (refT P l os).2)] := by
  have hv := valid_at (P := P) (l := l) (os := os) (by have := h.ln; omega) (by have := h.lo; omega)
  rw [validB_yes h] at hv
  have hr := first_at h
  rw [hf] at hr
  have hc := refGrow_at (P := P) (l0 := l) (os := os) (k := waysT l) (l := l) (N := []) (by have := h.pw; omega) h.pre (Nat.le_refl _) (bd_of h) (ords_of h) h.ln.1 (by simp)
  have hg2 : (growR P os (waysT l) l []).1 = true := hg
  rw [hg2, if_pos rfl] at hc
  have hM : (refT P l os).2 = (growR P os (waysT l) l []).2 := rfl
  rw [← hM] at hc
  refine FnAt.of_body tys_ok Try.func24 (by rfl) rfl Try.ntmps24 (by rw [Try.results24]) (by simp) ?_
  
  repeat' (first
 | refine W.seq ?_
 | refine W.block ?_
 | (refine W.regionM (id := 6) tys_ok [] [3] ?_; conv => whnf)
 | (refine W.region tys_ok [] ?_; conv => whnf)
 | (refine W.drawAll tys_ok [] mixed rfl ?_; conv => whnf)
 | (refine W.ret ?_; conv => whnf)
 | (refine W.skip ?_; conv => whnf)
 | (refine W.exit ?_; conv => whnf)
 | (refine call_at (al := false) (hv) rfl rfl rfl rfl ?_; conv => whnf)
 | (refine call_at (al := true) (hr) rfl rfl rfl rfl ?_; conv => whnf)
 | (refine callM_at (hc) ?_; conv => whnf)
 | (refine W.cond rfl (fun hb => ?_) (fun hb => ?_) <;> (try simp only [Int.reduceToNat, Int.reduceTDiv, Int.reduceTMod, minL, maxL, pickB, zHB, zSH] at hb) <;> (try (first | (cases hb; done) | exact absurd hb (by decide) | (exfalso; omega))))
 | (refine Or.inl (And.intro ?_ ?_); (focus (first | exact trivial | exact ⟨rfl, trivial⟩ | (refine ⟨?_, trivial⟩; dsimp only; simp only [Int.reduceToNat, Int.reduceTDiv, Int.reduceTMod, minL, maxL, pickB, zHB, zSH]; omega))); (conv => whnf))
 | (refine Or.inr (And.intro ?_ ?_); (focus (intro h; have h := h.1; dsimp only at h; first | (exact Bool.noConfusion h) | (simp only [Int.reduceToNat, Int.reduceTDiv, Int.reduceTMod, minL, maxL, pickB, zHB, zSH] at h; omega))); (conv => whnf))
 | ((with_reducible refine And.intro ?_ ?_); (focus ((repeat' (first | (with_reducible rfl) | (with_reducible refine And.intro ?_ ?_) | omega | rfl | exact Or.inl rfl | exact Or.inr rfl | exact of_decide_eq_true rfl | exact Path.imp_of (of_decide_eq_true rfl) | (focus ((try simp only [Int.reduceToNat, Int.reduceTDiv, Int.reduceTMod, minL, maxL, pickB, zHB, zSH, InK, Path.imp, List.length_replicate, List.length_set, List.length_append, List.length_cons, List.length_nil] at *); omega)) | (refine app_le rfl ?_; omega))); done)); (conv => whnf))
 | ((with_reducible refine And.intro (Side.out ?_) ?_); rotate_left; (conv => whnf))
 | ((first | refine retF1 ?_ | refine retF2 ?_) <;> (conv => whnf) <;> repeat' (first
 | exact trivial
 | (with_reducible rfl)
 | ((with_reducible refine And.intro ?_ ?_) <;> conv => whnf)
 | omega
 | rfl
 | (refine congrArg (SV.arr _) ?_)
 | (refine congrArg (Value.int _) ?_)
 | (refine congrArg Value.bool ?_)))); all_goals (try unfold Side)
  all_goals try (repeat' (first | (with_reducible rfl) | (with_reducible refine And.intro ?_ ?_) | omega | rfl | exact Or.inl rfl | exact Or.inr rfl | exact of_decide_eq_true rfl | exact Path.imp_of (of_decide_eq_true rfl) | (focus ((try simp only [Int.reduceToNat, Int.reduceTDiv, Int.reduceTMod, minL, maxL, pickB, zHB, zSH, InK, Path.imp, List.length_replicate, List.length_set, List.length_append, List.length_cons, List.length_nil] at *); omega)) | (refine app_le rfl ?_; omega)))
end Go.Proofs.Ytmfholchenihaaa
namespace Go.Proofs.Ytmfholchenihaaa
open Go Go.Vc Go.Sh
set_option linter.unusedVariables false
set_option linter.unusedSimpArgs false
theorem same_at {a b : List Int} (ha : a.length ≤ 1000) (hb : b.length ≤ 1000) : FnAt Try.prog false 23 [.arr (.int .i64) a, .arr (.int .i64) b] (.lit (.bool (decide (a = b)))) [] := by
  have hal : @List.length (Ty.int .i64).T a = a.length := rfl
  have hbl : @List.length (Ty.int .i64).T b = b.length := rfl
  have hno : a.length ≠ b.length → decide (a = b) = false := fun h => decide_eq_false fun e => h (by rw [e])
  have hno2 : ∀ i, a.getD i 0 ≠ b.getD i 0 → decide (a = b) = false := fun i h => decide_eq_false fun e => h (by rw [e])
  have hyes : a.length = b.length → (∀ i, i < a.length → a.getD i 0 = b.getD i 0) → decide (a = b) = true := fun h1 h2 => decide_eq_true (ext_get h1 h2)
  obtain ⟨D, hD⟩ : ∃ D, D = decide (a = b) := ⟨_, rfl⟩
  rw [← hD] at hno hno2 hyes ⊢
  clear hD
  refine FnAt.of_body tys_ok Try.func23 (by rfl) rfl Try.ntmps23 (by rw [Try.results23]) (by simp) ?_
  
  by_cases hl : a.length = b.length
  · repeat' (first
 | refine W.seq ?_
 | refine W.block ?_
 | (refine W.region tys_ok [] ?_; conv => whnf)
 | (refine W.drawAll tys_ok [] mixed rfl ?_; conv => whnf)
 | (refine W.ret ?_; conv => whnf)
 | (refine W.skip ?_; conv => whnf)
 | (refine W.exit ?_; conv => whnf)
 | (refine W.cond rfl (fun hb => ?_) (fun hb => ?_) <;> (try simp only [Int.reduceToNat, Int.reduceTDiv, Int.reduceTMod, minL, maxL, pickB, zHB, zSH] at hb) <;> (try (first | (cases hb; done) | exact absurd hb (by decide) | (exfalso; omega) | (omega))))
 | ((with_reducible refine And.intro ?_ ?_); (focus ((repeat' (first | (with_reducible rfl) | (with_reducible refine And.intro ?_ ?_) | omega | rfl | exact Or.inl rfl | exact Or.inr rfl | exact of_decide_eq_true rfl | exact Path.imp_of (of_decide_eq_true rfl) | (focus ((try simp only [Int.reduceToNat, Int.reduceTDiv, Int.reduceTMod, minL, maxL, pickB, zHB, zSH, InK, Path.imp, List.length_replicate, List.length_set, List.length_append, List.length_cons, List.length_nil] at *); omega)) | (refine app_le rfl ?_; omega))); done)); (conv => whnf))
 | ((with_reducible refine And.intro (Side.out ?_) ?_); rotate_left; (conv => whnf))
 | ((first | refine retF1 ?_ | refine retF2 ?_) <;> (conv => whnf) <;> repeat' (first
 | exact trivial
 | (with_reducible rfl)
 | ((with_reducible refine And.intro ?_ ?_) <;> conv => whnf)
 | omega
 | rfl
 | (refine congrArg (SV.arr _) ?_)
 | (refine congrArg (Value.int _) ?_)
 | (refine congrArg Value.bool ?_)))); all_goals (try unfold Side)
    all_goals try (repeat' (first | (with_reducible rfl) | (with_reducible refine And.intro ?_ ?_) | omega | rfl | exact Or.inl rfl | exact Or.inr rfl | exact of_decide_eq_true rfl | exact Path.imp_of (of_decide_eq_true rfl) | (focus ((try simp only [Int.reduceToNat, Int.reduceTDiv, Int.reduceTMod, minL, maxL, pickB, zHB, zSH, InK, Path.imp, List.length_replicate, List.length_set, List.length_append, List.length_cons, List.length_nil] at *); omega)) | (refine app_le rfl ?_; omega)))
    refine W.loop (fun i : Nat => ⟨[(0, .st false (.arr (.int .i64) (a : List Int))), (1, .st false (.arr (.int .i64) (b : List Int))), (5, .lit (.int .i64 (i)))], []⟩) (fun i => i ≤ a.length ∧ (∀ m, m < i → a.getD m 0 = b.getD m 0)) (fun i => a.length - i) (0) ?_ ?_
    · refine ⟨⟨Nat.zero_le _, by omega⟩, ?_⟩
      refine subF.ok ?_ <;> (conv => whnf) <;> repeat' (first
 | exact trivial
 | (with_reducible rfl)
 | ((with_reducible refine And.intro ?_ ?_) <;> conv => whnf)
 | omega
 | rfl
 | (refine congrArg (SV.arr _) ?_)
 | (refine congrArg (Value.int _) ?_)
 | (refine congrArg Value.bool ?_))
    · rintro i ⟨hi, hj⟩
      by_cases hil : i < a.length
      · by_cases hc : a.getD i 0 = b.getD i 0
        · repeat' (first
 | refine W.seq ?_
 | refine W.block ?_
 | (refine W.drawPh (id := 6) tys_ok [] mixed [0, 0, 3, 4, 0, 0, 48, 64, 136] [([0, 1, 2, 3, 4, 5, 6, 7, 8], 0, 511)] (by decide +kernel) ?_; conv => whnf)
 | (refine W.region tys_ok [] ?_; conv => whnf)
 | (refine W.drawAll tys_ok [] mixed rfl ?_; conv => whnf)
 | (refine W.ret ?_; conv => whnf)
 | (refine W.skip ?_; conv => whnf)
 | (refine W.exit ?_; conv => whnf)
 | (refine Both.mk ?_ ?_ <;> (conv => whnf))
 | (refine W.cond rfl (fun hb => ?_) (fun hb => ?_) <;> (try simp only [Int.reduceToNat, Int.reduceTDiv, Int.reduceTMod, minL, maxL, pickB, zHB, zSH] at hb) <;> (try (first | (cases hb; done) | exact absurd hb (by decide) | (exfalso; omega) | (omega))))
 | ((with_reducible refine And.intro ?_ ?_); (focus ((repeat' (first | (with_reducible rfl) | (with_reducible refine And.intro ?_ ?_) | omega | rfl | exact Or.inl rfl | exact Or.inr rfl | exact of_decide_eq_true rfl | exact Path.imp_of (of_decide_eq_true rfl) | (focus ((try simp only [Int.reduceToNat, Int.reduceTDiv, Int.reduceTMod, minL, maxL, pickB, zHB, zSH, InK, Path.imp, List.length_replicate, List.length_set, List.length_append, List.length_cons, List.length_nil] at *); omega)) | (refine app_le rfl ?_; omega))); done)); (conv => whnf))
 | ((with_reducible refine And.intro (Side.out ?_) ?_); rotate_left; (conv => whnf))
 | ((first | refine retF1 ?_ | refine retF2 ?_ | refine subF.leaf ?_ | refine subF.side ?_) <;> (conv => whnf) <;> repeat' (first
 | exact trivial
 | (with_reducible rfl)
 | ((with_reducible refine And.intro ?_ ?_) <;> conv => whnf)
 | omega
 | rfl
 | (refine congrArg (SV.arr _) ?_)
 | (refine congrArg (Value.int _) ?_)
 | (refine congrArg Value.bool ?_)))); all_goals (try unfold Side)
          all_goals try (repeat' (first | (with_reducible rfl) | (with_reducible refine And.intro ?_ ?_) | omega | rfl | exact Or.inl rfl | exact Or.inr rfl | exact of_decide_eq_true rfl | exact Path.imp_of (of_decide_eq_true rfl) | (focus ((try simp only [Int.reduceToNat, Int.reduceTDiv, Int.reduceTMod, minL, maxL, pickB, zHB, zSH, InK, Path.imp, List.length_replicate, List.length_set, List.length_append, List.length_cons, List.length_nil] at *); omega)) | (refine app_le rfl ?_; omega)))
          refine ⟨i + 1, ⟨⟨by omega, fun m hm => ?_⟩, by omega⟩, ?_⟩
          · by_cases e : m = i
            · subst e; exact hc
            · exact hj m (by omega)
          · refine subF.ok ?_ <;> (conv => whnf) <;> repeat' (first
 | exact trivial
 | (with_reducible rfl)
 | ((with_reducible refine And.intro ?_ ?_) <;> conv => whnf)
 | omega
 | rfl
 | (refine congrArg (SV.arr _) ?_)
 | (refine congrArg (Value.int _) ?_)
 | (refine congrArg Value.bool ?_))
        · have hn := hno2 i hc
          repeat' (first
 | refine W.seq ?_
 | refine W.block ?_
 | (refine W.drawPh (id := 6) tys_ok [] mixed [0, 0, 3, 4, 0, 0, 48, 64, 136] [([0, 1, 2, 3, 4, 5, 6, 7, 8], 0, 511)] (by decide +kernel) ?_; conv => whnf)
 | (refine W.region tys_ok [] ?_; conv => whnf)
 | (refine W.drawAll tys_ok [] mixed rfl ?_; conv => whnf)
 | (refine W.ret ?_; conv => whnf)
 | (refine W.skip ?_; conv => whnf)
 | (refine W.exit ?_; conv => whnf)
 | (refine Both.mk ?_ ?_ <;> (conv => whnf))
 | (refine W.cond rfl (fun hb => ?_) (fun hb => ?_) <;> (try simp only [Int.reduceToNat, Int.reduceTDiv, Int.reduceTMod, minL, maxL, pickB, zHB, zSH] at hb) <;> (try (first | (cases hb; done) | exact absurd hb (by decide) | (exfalso; omega) | (omega))))
 | ((with_reducible refine And.intro ?_ ?_); (focus ((repeat' (first | (with_reducible rfl) | (with_reducible refine And.intro ?_ ?_) | omega | rfl | exact Or.inl rfl | exact Or.inr rfl | exact of_decide_eq_true rfl | exact Path.imp_of (of_decide_eq_true rfl) | (focus ((try simp only [Int.reduceToNat, Int.reduceTDiv, Int.reduceTMod, minL, maxL, pickB, zHB, zSH, InK, Path.imp, List.length_replicate, List.length_set, List.length_append, List.length_cons, List.length_nil] at *); omega)) | (refine app_le rfl ?_; omega))); done)); (conv => whnf))
 | ((with_reducible refine And.intro (Side.out ?_) ?_); rotate_left; (conv => whnf))
 | ((first | refine retF1 ?_ | refine retF2 ?_ | refine subF.leaf ?_ | refine subF.side ?_) <;> (conv => whnf) <;> repeat' (first
 | exact trivial
 | (with_reducible rfl)
 | ((with_reducible refine And.intro ?_ ?_) <;> conv => whnf)
 | omega
 | rfl
 | (refine congrArg (SV.arr _) ?_)
 | (refine congrArg (Value.int _) ?_)
 | (refine congrArg Value.bool ?_)))); all_goals (try unfold Side)
          all_goals try (repeat' (first | (with_reducible rfl) | (with_reducible refine And.intro ?_ ?_) | omega | rfl | exact Or.inl rfl | exact Or.inr rfl | exact of_decide_eq_true rfl | exact Path.imp_of (of_decide_eq_true rfl) | (focus ((try simp only [Int.reduceToNat, Int.reduceTDiv, Int.reduceTMod, minL, maxL, pickB, zHB, zSH, InK, Path.imp, List.length_replicate, List.length_set, List.length_append, List.length_cons, List.length_nil] at *); omega)) | (refine app_le rfl ?_; omega)))
          all_goals exact hn.symm
      · have hie : a.length = i := by omega
        subst hie
        have hy := hyes hl hj
        repeat' (first
 | refine W.seq ?_
 | refine W.block ?_
 | (refine W.region tys_ok [] ?_; conv => whnf)
 | (refine W.drawAll tys_ok [] mixed rfl ?_; conv => whnf)
 | (refine W.ret ?_; conv => whnf)
 | (refine W.skip ?_; conv => whnf)
 | (refine W.exit ?_; conv => whnf)
 | (refine W.cond rfl (fun hb => ?_) (fun hb => ?_) <;> (try simp only [Int.reduceToNat, Int.reduceTDiv, Int.reduceTMod, minL, maxL, pickB, zHB, zSH] at hb) <;> (try (first | (cases hb; done) | exact absurd hb (by decide) | (exfalso; omega))))
 | ((with_reducible refine And.intro ?_ ?_); (focus ((repeat' (first | (with_reducible rfl) | (with_reducible refine And.intro ?_ ?_) | omega | rfl | exact Or.inl rfl | exact Or.inr rfl | exact of_decide_eq_true rfl | exact Path.imp_of (of_decide_eq_true rfl) | (focus ((try simp only [Int.reduceToNat, Int.reduceTDiv, Int.reduceTMod, minL, maxL, pickB, zHB, zSH, InK, Path.imp, List.length_replicate, List.length_set, List.length_append, List.length_cons, List.length_nil] at *); omega)) | (refine app_le rfl ?_; omega))); done)); (conv => whnf))
 | ((with_reducible refine And.intro (Side.out ?_) ?_); rotate_left; (conv => whnf))
 | ((first | refine retF1 ?_ | refine retF2 ?_) <;> (conv => whnf) <;> repeat' (first
 | exact trivial
 | (with_reducible rfl)
 | ((with_reducible refine And.intro ?_ ?_) <;> conv => whnf)
 | omega
 | rfl
 | (refine congrArg (SV.arr _) ?_)
 | (refine congrArg (Value.int _) ?_)
 | (refine congrArg Value.bool ?_)))); all_goals (try unfold Side)
        all_goals try (repeat' (first | (with_reducible rfl) | (with_reducible refine And.intro ?_ ?_) | omega | rfl | exact Or.inl rfl | exact Or.inr rfl | exact of_decide_eq_true rfl | exact Path.imp_of (of_decide_eq_true rfl) | (focus ((try simp only [Int.reduceToNat, Int.reduceTDiv, Int.reduceTMod, minL, maxL, pickB, zHB, zSH, InK, Path.imp, List.length_replicate, List.length_set, List.length_append, List.length_cons, List.length_nil] at *); omega)) | (refine app_le rfl ?_; omega)))
        all_goals exact hy.symm
  · have hn := hno hl
    repeat' (first
 | refine W.seq ?_
 | refine W.block ?_
 | (refine W.region tys_ok [] ?_; conv => whnf)
 | (refine W.drawAll tys_ok [] mixed rfl ?_; conv => whnf)
 | (refine W.ret ?_; conv => whnf)
 | (refine W.skip ?_; conv => whnf)
 | (refine W.exit ?_; conv => whnf)
 | (refine W.cond rfl (fun hb => ?_) (fun hb => ?_) <;> (try simp only [Int.reduceToNat, Int.reduceTDiv, Int.reduceTMod, minL, maxL, pickB, zHB, zSH] at hb) <;> (try (first | (cases hb; done) | exact absurd hb (by decide) | (exfalso; omega) | (omega))))
 | ((with_reducible refine And.intro ?_ ?_); (focus ((repeat' (first | (with_reducible rfl) | (with_reducible refine And.intro ?_ ?_) | omega | rfl | exact Or.inl rfl | exact Or.inr rfl | exact of_decide_eq_true rfl | exact Path.imp_of (of_decide_eq_true rfl) | (focus ((try simp only [Int.reduceToNat, Int.reduceTDiv, Int.reduceTMod, minL, maxL, pickB, zHB, zSH, InK, Path.imp, List.length_replicate, List.length_set, List.length_append, List.length_cons, List.length_nil] at *); omega)) | (refine app_le rfl ?_; omega))); done)); (conv => whnf))
 | ((with_reducible refine And.intro (Side.out ?_) ?_); rotate_left; (conv => whnf))
 | ((first | refine retF1 ?_ | refine retF2 ?_) <;> (conv => whnf) <;> repeat' (first
 | exact trivial
 | (with_reducible rfl)
 | ((with_reducible refine And.intro ?_ ?_) <;> conv => whnf)
 | omega
 | rfl
 | (refine congrArg (SV.arr _) ?_)
 | (refine congrArg (Value.int _) ?_)
 | (refine congrArg Value.bool ?_)))); all_goals (try unfold Side)
    all_goals try (repeat' (first | (with_reducible rfl) | (with_reducible refine And.intro ?_ ?_) | omega | rfl | exact Or.inl rfl | exact Or.inr rfl | exact of_decide_eq_true rfl | exact Path.imp_of (of_decide_eq_true rfl) | (focus ((try simp only [Int.reduceToNat, Int.reduceTDiv, Int.reduceTMod, minL, maxL, pickB, zHB, zSH, InK, Path.imp, List.length_replicate, List.length_set, List.length_append, List.length_cons, List.length_nil] at *); omega)) | (refine app_le rfl ?_; omega)))
    all_goals exact hn.symm
theorem cut_list {α : Type} {k : Nat} (l : List α) : List.drop 0 (List.take (minL (l.length : Int) [(k : Int)]).toNat l) = l.take k ∧ 0 ≤ minL (l.length : Int) [(k : Int)] ∧ minL (l.length : Int) [(k : Int)] ≤ l.length := by
  have e : (minL (l.length : Int) [(k : Int)]).toNat = min l.length k := by simp only [minL]; omega
  have e' : 0 ≤ minL (l.length : Int) [(k : Int)] ∧ minL (l.length : Int) [(k : Int)] ≤ l.length := by simp only [minL]; omega
  refine ⟨?_, e'⟩
  rw [e, List.drop_zero, Nat.min_comm, ← List.take_take, List.take_length]
set_option maxHeartbeats 4000000 in
theorem few_at {P : Int} (l : List Jb) (os : List Od) : FnAt Try.prog false 15 [.agg [I64 P, .arr JT l, .arr OT os]] (.strct [.lit (.int .i64 P), .own 0, .own 1]) [(0, .row 45 JT true (l.take 7)), (1, .row 79 OT true (os.take 21))] := by
  obtain ⟨j1, j2, j3⟩ := cut_list (k := 7) l
  obtain ⟨o1, o2, o3⟩ := cut_list (k := 21) os
  refine FnAt.of_body tys_ok Try.func15 (by rfl) rfl Try.ntmps15 (by rw [Try.results15]) (by simp) ?_
  
  have j4 : 0 + (List.drop 0 (List.take (minL (l.length : Int) [((7 : Nat) : Int)]).toNat l)).length ≤ 4294967296 := by rw [j1]; simp only [List.length_take]; omega
  have o4 : 0 + (List.drop 0 (List.take (minL (os.length : Int) [((21 : Nat) : Int)]).toNat os)).length ≤ 4294967296 := by rw [o1]; simp only [List.length_take]; omega
  repeat' (first
 | refine W.seq ?_
 | refine W.block ?_
 | (refine W.resub (x := Code.region 1 _ _) (Γ' := ⟨[(1, .st false (.sadr (.agg [I64 P, .arr JT l, .arr OT os]))), (2, .padr 3000 0)], [(3000, .box [.lit (.int .i64 0), .lit (.slice none 0 0), .lit (.slice none 0 0)])]⟩) ?_ (W.drawPh (id := 1) tys_ok [] mixed [0, 1, 0, 0, 8, 0, 32, 64, 128, 272, 516, 0, 0, 4096, 0, 16384, 32768, 65536, 139264, 265216, 525314, 2097151] [([0, 1, 3, 4, 5, 6, 7, 8, 9, 12, 13, 14, 15, 16, 17, 18], 3, 524287), ([], 1, 1048575), ([], 1, 2097151), ([], 1, 4194303)] (by decide +kernel) ?_); rotate_left; (conv => whnf))
 | (refine W.region tys_ok [] ?_; conv => whnf)
 | (refine W.drawAll tys_ok [] mixed rfl ?_; conv => whnf)
 | (refine W.ret ?_; conv => whnf)
 | (refine W.skip ?_; conv => whnf)
 | (refine W.exit ?_; conv => whnf)
 | (refine Both.mk ?_ ?_ <;> (conv => whnf))
 | (refine W.cond rfl (fun hb => ?_) (fun hb => ?_) <;> (try simp only [Int.reduceToNat, Int.reduceTDiv, Int.reduceTMod, minL, maxL, pickB, zHB, zSH] at hb) <;> (try (first | (cases hb; done) | exact absurd hb (by decide) | (exfalso; omega))))
 | ((with_reducible refine And.intro ?_ ?_); (focus ((repeat' (first | (with_reducible rfl) | (with_reducible refine And.intro ?_ ?_) | omega | rfl | exact Or.inl rfl | exact Or.inr rfl | exact of_decide_eq_true rfl | exact Path.imp_of (of_decide_eq_true rfl) | (focus ((try simp only [Int.reduceToNat, Int.reduceTDiv, Int.reduceTMod, minL, maxL, pickB, zHB, zSH, InK, Path.imp, List.length_replicate, List.length_set, List.length_append, List.length_cons, List.length_nil] at *); omega)) | (refine app_le rfl ?_; omega))); done)); (conv => whnf))
 | ((with_reducible refine And.intro (Side.out ?_) ?_); rotate_left; (conv => whnf))
 | ((first | refine retF1 ?_ | refine retF2 ?_ | refine subF.leaf ?_ | refine subF.side ?_) <;> (conv => whnf) <;> repeat' (first
 | exact trivial
 | (with_reducible rfl)
 | ((with_reducible refine And.intro ?_ ?_) <;> conv => whnf)
 | omega
 | rfl
 | (refine congrArg (SV.arr _) ?_)
 | (refine congrArg (Value.int _) ?_)
 | (refine congrArg Value.bool ?_)))); all_goals (try unfold Side)
  all_goals try (repeat' (first | (with_reducible rfl) | (with_reducible refine And.intro ?_ ?_) | omega | rfl | exact Or.inl rfl | exact Or.inr rfl | exact of_decide_eq_true rfl | exact Path.imp_of (of_decide_eq_true rfl) | (focus ((try simp only [Int.reduceToNat, Int.reduceTDiv, Int.reduceTMod, minL, maxL, pickB, zHB, zSH, InK, Path.imp, List.length_replicate, List.length_set, List.length_append, List.length_cons, List.length_nil] at *); omega)) | (refine app_le rfl ?_; omega)))
  all_goals first | exact j1 | exact o1 | exact j4 | exact o4
theorem few_eq {P : Int} {l l' : List Jb} {os os' : List Od} (h1 : l' = l.take 7) (h2 : os' = os.take 21) : FnAt Try.prog false 15 [.agg [I64 P, .arr JT l, .arr OT os]] (.strct [.lit (.int .i64 P), .own 0, .own 1]) [(0, .row 45 JT true l'), (1, .row 79 OT true os')] := by
  subst h1 h2
  exact few_at l os
end Go.Proofs.Ytmfholchenihaaa
