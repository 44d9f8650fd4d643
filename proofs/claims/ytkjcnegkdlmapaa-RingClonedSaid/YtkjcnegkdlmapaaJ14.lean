/- Joined of: K17 R21. No condition. -/
import Derived.Test.YtkjcnegkdlmapaaJ12
import Derived.Test.YtkjcnegkdlmapaaJ13
set_option linter.unusedVariables false
set_option linter.unusedSimpArgs false
namespace Go.Proofs.Ytkjcnegkdlmapaa
open Int renaming reduceToNat → zr, reduceTDiv → zd, reduceTMod → zm
open Go Go.Vc Go.Rg
theorem getD_mem' {α : Type} {d : α} : ∀ {l : List α} {i : Nat}, i < l.length → l.getD i d ∈ l := fun {l i} h => by
 rw [List.getD_eq_getElem?_getD, List.getElem?_eq_getElem h]
 exact List.getElem_mem _
theorem sm3_wf {y : List Tr3} (h : (Ty.sl U3).wf y) : sm3 y := fun i => by
 have h2 : ∀ z ∈ y, U3.wf z := h.2
 by_cases hi : i < y.length
 · have h3 := h2 _ (getD_mem' (d := R0) hi)
   exact ⟨wf_u8 h3.1, wf_u8 h3.2.1, wf_u8 h3.2.2.1⟩
 · have : y.getD i R0 = R0 := by simp [List.getD, List.getElem?_eq_none (Nat.le_of_not_lt hi)]
   rw [this]; decide
def playS (n : Nat) (t : Tr3) (w : Wk) : Wk :=
 if t.1.tmod 4 = 0 then sendK (t.2.1.tmod n) (t.2.2.1.tmod n) w
 else if t.1.tmod 4 = 1 then idleK (t.2.1.tmod n) w
 else if w.2.length = 0 then w
 else delK ((t.2.1 + t.2.2.1).tmod w.2.length) w
def playF (n : Nat) : Nat → List Tr3 → Wk → Wk
 | k + 1, t :: r, w => playF n k r (playS n t w)
 | _, _, w => w
theorem playF_end {n k : Nat} {w : Wk} : playF n k [] w = w := by cases k <;> rfl
theorem WOk.playS {n : Nat} {w : Wk} (h : WOk n w) (t : Tr3) : WOk n (playS n t w) := by
 unfold Go.Proofs.Ytkjcnegkdlmapaa.playS
 split
 · exact h.send
 · split
   · exact h.idle
   · split
     · exact h
     · exact h.del
theorem WOk.playF {n : Nat} : ∀ {k : Nat} {l : List Tr3} {w : Wk}, WOk n w → WOk n (playF n k l w)
 | 0, l, w, h => by unfold Go.Proofs.Ytkjcnegkdlmapaa.playF; exact h
 | k + 1, [], w, h => h
 | k + 1, t :: r, w, h => WOk.playF (k := k) (WOk.playS h t)
def played (n : Nat) (x : List Tr3) : Wk := playF n 120 x (begL n)
theorem drop_cons {x : List Tr3} {i : Nat} (h : i < x.length) : x.drop i = x.getD i R0 :: x.drop (i + 1) := by
 rw [List.drop_eq_getElem_cons h, List.getD_eq_getElem?_getD, List.getElem?_eq_getElem h]; rfl
theorem playF_stop {n i : Nat} {x : List Tr3} {w : Wk} (h : ¬ (i < x.length ∧ i < 120)) (hi : i ≤ 120) : playF n (120 - i) (x.drop i) w = w := by
 by_cases e : i < x.length
 · have : 120 - i = 0 := by omega
   rw [this]; unfold playF; rfl
 · rw [List.drop_of_length_le (by omega)]; exact playF_end
theorem ended_over {n : Nat} {w : Wk} (h : WOk n w) (he : endB w = true) : (∀ i, i < w.1.length → gw w.1 i = false ∧ gp w.1 i = -1 ∧ go w.1 i = 0) ∧ ∀ k, k < w.2.length → (w.2.getD k L0).2.2.1 = true := by
 obtain ⟨Es, hw⟩ := h.inv
 unfold endB at he
 rw [Bool.and_eq_true, decide_eq_true_eq] at he
 obtain ⟨h1, h2⟩ := hw.ended h.n0 (show gw w.1 0 = false by simpa using he.1) he.2
 refine ⟨fun i hi => h1 i (by rw [← h.len]; exact hi), fun k hk => h2 _ (getD_mem' hk)⟩
set_option maxHeartbeats 16000000 in
theorem played_at {n : Int} {x : List U3.T} {s : Nat} (hn : 0 ≤ n ∧ n ≤ 255) (hx : sm3 x) (hs : (s : Int) = n.tmod 10 + 1) : FnM Try.prog 17 [.lit (.int .u8 n), .st false (.arr U3 x)] [] (.tup [.padr 0 0, .padr 3 0]) [(0, .box [.own 1, .own 2]), (1, .row 96 HT true ((played s x)).1), (2, .row 50 LT true ((played s x)).2), (3, .box [.own 4, .own 5]), (4, .row 93 HT true ((played s x)).1), (5, .row 50 LT true ((played s x)).2)] := by
 have hmod : n.tmod 10 = n % 10 := Int.tmod_eq_emod_of_nonneg hn.1
 have h1 : 1 ≤ s := by omega
 have h2 : s ≤ 10 := by omega
 have c1 := begin_at h1 h2
 rw [hs] at c1
 have c3 := rbegin_at h1 h2
 rw [hs] at c3
 have w0 := WOk.beg (n := s) (by omega) h2
 have hlx : @List.length U3.T x = x.length := rfl
 refine FnM.of_body tys_ok Try.func17 (by rfl) rfl Try.ntmps17 (by rw [Try.results17]) (by simp) ?_
 repeat' (first
 | refine W.seq ?_
 | refine W.block ?_
 | (refine W.regionM (id := 2) tys_ok [] [1] ?_; conv => whnf)
 | (refine W.regionM (id := 5) tys_ok [] [1] ?_; conv => whnf)
 | (refine W.region tys_ok [] ?_; conv => whnf)
 | (refine W.drawAll tys_ok [] mixed rfl ?_; conv => whnf)
 | (refine W.ret ?_; conv => whnf)
 | (refine W.skip ?_; conv => whnf)
 | (refine W.exit ?_; conv => whnf)
 | (refine callM_at (c1) ?_; conv => whnf)
 | (refine callM_at (c3) ?_; conv => whnf)
 | (refine W.cond rfl (fun hb => ?_) (fun hb => ?_) <;> (try simp only [zr, zd, zm, minL, maxL, pickB, zA] at hb) <;> (try (first | (cases hb; done) | exact absurd hb (by decide) | (exfalso; omega) | (omega) | ((simp [pickB] at hb; omega)))))
 | (refine Or.inl (And.intro trivial ?_); (conv => whnf))
 | ((with_reducible refine And.intro ?_ ?_); exact zc; conv => whnf)
 | ((with_reducible refine And.intro (Side.out ?_) ?_); rotate_left; (conv => whnf))
 | ((first | refine retM1 ?_ | refine retM2 ?_) <;> (conv => whnf) <;> repeat' (first
 | exact trivial
 | (with_reducible rfl)
 | ((with_reducible refine And.intro ?_ ?_) <;> conv => whnf)
 | omega
 | rfl
 | (refine congrArg (SV.arr _) ?_)
 | (refine congrArg (Value.int _) ?_)
 | (refine congrArg Value.bool ?_)))); all_goals (try unfold Side)
 all_goals try (repeat' (first | exact zb | with_reducible refine And.intro ?_ ?_))
 refine W.loop (fun p : Nat × Wk => ⟨[(1, .st false (.arr U3 x)), (6, (.lit (.int .i64 (s : Int)))), (7, .padr 6000 0), (9, .padr 8000 0), (10, (.lit (.int .i64 (p.1 : Int))))], [(6000, .box [.own 6001, .own 6002]), (6001, .row 96 HT true (p.2).1), (6002, .row 50 LT true (p.2).2), (8000, .box [.own 8001, .own 8002]), (8001, .row 93 HT true (p.2).1), (8002, .row 50 LT true (p.2).2)]⟩) (fun p => p.1 ≤ x.length ∧ p.1 ≤ 120 ∧ WOk s p.2 ∧ playF s (120 - p.1) (x.drop p.1) p.2 = played s x) (fun p => x.length - p.1) ((0, begL s)) ?_ ?_
 · refine ⟨⟨Nat.zero_le _, Nat.zero_le _, w0, rfl⟩, ?_⟩
   refine subF.ok ?_ <;> (conv => whnf) <;> repeat' (first
 | exact trivial
 | (with_reducible rfl)
 | ((with_reducible refine And.intro ?_ ?_) <;> conv => whnf)
 | omega
 | rfl
 | (refine congrArg (SV.arr _) ?_)
 | (refine congrArg (Value.int _) ?_)
 | (refine congrArg Value.bool ?_))
   all_goals exact hs.symm
 · rintro ⟨i, w⟩ ⟨hi, hi120, hw, hpl⟩
   dsimp only at hi hi120 hw hpl ⊢
   have hwl := hw.len
   have hwf := hw.fl
   -- BODY
   by_cases hil : i < x.length ∧ i < 120
   · have hia : i < x.length := hil.1
     have hi2 : i < 120 := hil.2
     obtain ⟨b0, b1, b2⟩ := hx i
     obtain ⟨κ, hκ⟩ : ∃ κ : Int, κ = (x.getD i U3.dflt).1 := ⟨_, rfl⟩
     obtain ⟨a', ha'⟩ : ∃ a' : Int, a' = (@List.getD Tr3 x i R0).2.1 := ⟨_, rfl⟩
     obtain ⟨b', hb'⟩ : ∃ b' : Int, b' = (@List.getD Tr3 x i R0).2.2.1 := ⟨_, rfl⟩
     obtain ⟨a, ha⟩ : ∃ a : Int, a = a'.tmod s := ⟨_, rfl⟩
     obtain ⟨b, hb0⟩ : ∃ b : Int, b = b'.tmod s := ⟨_, rfl⟩
     have ea : (@List.getD Tr3 x i R0).2.1.tmod (s : Int) = a := by rw [ha, ha']
     have eb : (@List.getD Tr3 x i R0).2.2.1.tmod (s : Int) = b := by rw [hb0, hb']
     have ia : 0 ≤ (i : Int) ∧ i < x.length := ⟨by omega, hia⟩
     have ik1 : InK .i64 (@List.getD Tr3 x i R0).2.1 := ⟨by omega, by omega⟩
     have ik2 : InK .i64 (@List.getD Tr3 x i R0).2.2.1 := ⟨by omega, by omega⟩
     have ik3 : InK .i64 ((@List.getD Tr3 x i R0).2.1 + (@List.getD Tr3 x i R0).2.2.1) := ⟨by omega, by omega⟩
     have ek : ((@List.getD Tr3 x i R0).2.1 + (@List.getD Tr3 x i R0).2.2.1).tmod (w.2.length : Int) = (a' + b').tmod (w.2.length : Int) := by rw [ha', hb']
     have hfu : 120 - i = 120 - (i + 1) + 1 := by omega
     have hpl : playF s (120 - (i + 1) + 1) (@List.drop Tr3 i x) w = played s x := by rw [← hfu]; exact hpl
     rw [drop_cons (x := x) hia] at hpl
     have hstep : playS s (@List.getD Tr3 x i R0) w = (if κ.tmod 4 = 0 then sendK a b w else if κ.tmod 4 = 1 then idleK a w else if w.2.length = 0 then w else delK ((a' + b').tmod w.2.length) w) := by
      unfold playS; rw [ea, eb, ← ha', ← hb', show (@List.getD Tr3 x i R0).1 = κ from hκ.symm]
     have hpl2 : playF s (120 - (i + 1)) (x.drop (i + 1)) (playS s (@List.getD Tr3 x i R0) w) = played s x := hpl
     rw [hstep] at hpl2
     have hlf : @List.length LT.T w.2 = w.2.length := rfl
     by_cases h0 : κ.tmod 4 = 0
     · obtain ⟨w2, hw2⟩ : ∃ w2, w2 = sendK a b w := ⟨_, rfl⟩
       obtain ⟨e, he⟩ : ∃ e : Int, e = sendE a b w := ⟨_, rfl⟩
       have hk2 : WOk s w2 := by rw [hw2]; exact hw.send
       have hpl3 : playF s (120 - (i + 1)) (x.drop (i + 1)) w2 = played s x := by rw [hw2]; rw [if_pos h0] at hpl2; exact hpl2
       have d1 := send_at (a := a) (b := b) hw he.symm hw2.symm
       have d2 := rsend_at (a := a) (b := b) hw he.symm hw2.symm
       have hl2 : 0 < w2.1.length ∧ w2.1.length ≤ 10 ∧ w2.2.length ≤ 200 := by
        have := hk2.len; have := hk2.n0; have := hk2.fl; omega
       have hws : (w2.1.length : Int) = (s : Int) := by rw [hk2.len]
       cases hend : endB w2 with
       | true =>
        have g1 := ended_at (hs := w2.1) (fl := w2.2) (b := true) hl2.1 hend.symm
        obtain ⟨o1, o2⟩ := ended_over hk2 hend
        have g2 := over_at (hs := w2.1) (fl := w2.2) hl2.1 (by omega) (by omega) o1 o2
        rw [hws] at g2
        repeat' (first
 | refine W.seq ?_
 | refine W.block ?_
 | (refine W.drawPhTo (id := 9) tys_ok [] mixed [0, 0, 3, 4, 8, 16, 0, 96, 0, 0, 768, 1024, 2048, 4096, 0, 24576, 255, 131071] [([0, 1, 2, 3, 4, 5, 6, 7, 8, 9, 10, 11, 12, 13, 14, 15, 16, 17], 0, 262143)] ⟨[(1, .st false (.arr U3 x)), (6, (.lit (.int .i64 (s : Int)))), (7, .padr 6000 0), (9, .padr 8000 0), (10, (.lit (.int .i64 (i : Int)))), (11, (.lit (.int .i64 (a : Int)))), (12, (.lit (.int .i64 (b : Int))))], [(6000, .box [.own 6001, .own 6002]), (6001, .row 96 HT true (w).1), (6002, .row 50 LT true (w).2), (8000, .box [.own 8001, .own 8002]), (8001, .row 93 HT true (w).1), (8002, .row 50 LT true (w).2)]⟩ (by decide +kernel) ?_ ?_ <;> (conv => whnf))
 | (refine W.regionM (id := 16) tys_ok [] [3,7] ?_; conv => whnf)
 | (refine W.resub (x := Code.region 21 _ _) (Γ' := ⟨[(1, .st false (.arr U3 x)), (6, (.lit (.int .i64 (s : Int)))), (7, .padr 6000 0), (9, .padr 8000 0), (10, (.lit (.int .i64 (i : Int))))], [(6000, .box [.own 6001, .own 6002]), (6001, .row 96 HT true (w2).1), (6002, .row 50 LT true (w2).2), (8000, .box [.own 8001, .own 8002]), (8001, .row 93 HT true (w2).1), (8002, .row 50 LT true (w2).2)]⟩) ?_ (W.regionM tys_ok [] [1,5] ?_); rotate_left; (conv => whnf))
 | (refine W.region tys_ok [] ?_; conv => whnf)
 | (refine W.drawAll tys_ok [] mixed rfl ?_; conv => whnf)
 | (refine W.ret ?_; conv => whnf)
 | (refine W.skip ?_; conv => whnf)
 | (refine W.exit ?_; conv => whnf)
 | (refine callM_at (d1) ?_; conv => whnf)
 | (refine callM_at (d2) ?_; conv => whnf)
 | (refine callM_at (g1) ?_; conv => whnf)
 | (refine callM_at (g2) ?_; conv => whnf)
 | (refine Both.mk ?_ ?_ <;> (conv => whnf))
 | (refine W.cond rfl (fun hb => ?_) (fun hb => ?_) <;> (try simp only [zr, zd, zm, minL, maxL, pickB, zA] at hb) <;> (try (first | (cases hb; done) | exact absurd hb (by decide) | (exfalso; omega) | (omega) | ((simp_all; done)))))
 | (refine Or.inl (And.intro ?_ ?_); exact zi; conv => whnf)
 | (refine Or.inr (And.intro ?_ ?_); exact zj; conv => whnf)
 | ((with_reducible refine And.intro ?_ ?_); exact zc; conv => whnf)
 | ((with_reducible refine And.intro (Side.out ?_) ?_); rotate_left; (conv => whnf))
 | ((first | refine retM1 ?_ | refine retM2 ?_ | refine subF.leaf ?_ | refine subF.side ?_) <;> (conv => whnf) <;> repeat' (first
 | exact trivial
 | (with_reducible rfl)
 | ((with_reducible refine And.intro ?_ ?_) <;> conv => whnf)
 | omega
 | rfl
 | (refine congrArg (SV.arr _) ?_)
 | (refine congrArg (Value.int _) ?_)
 | (refine congrArg Value.bool ?_)))); all_goals (try unfold Side)
        all_goals try (repeat' (first | exact zb | with_reducible refine And.intro ?_ ?_))
        all_goals first | exact ik1 | exact ik2 | exact ik3 | exact Path.imp_of ik1 | exact Path.imp_of ik2 | exact Path.imp_of ik3 | exact ek | exact ea | exact eb | exact hκ.symm | exact ha'.symm | exact hb'.symm | exact Path.imp_of ia | exact ia.2 | exact Path.imp_of ia.2 | skip
        refine ⟨(i + 1, w2), ⟨⟨by dsimp only; omega, by dsimp only; omega, hk2, by dsimp only; exact hpl3⟩, by dsimp only; omega⟩, ?_⟩
        refine subF.ok ?_ <;> (conv => whnf) <;> repeat' (first
 | exact trivial
 | (with_reducible rfl)
 | ((with_reducible refine And.intro ?_ ?_) <;> conv => whnf)
 | omega
 | rfl
 | (refine congrArg (SV.arr _) ?_)
 | (refine congrArg (Value.int _) ?_)
 | (refine congrArg Value.bool ?_))
        all_goals try refine subF.ok ?_ <;> (conv => whnf) <;> repeat' (first
 | exact trivial
 | (with_reducible rfl)
 | ((with_reducible refine And.intro ?_ ?_) <;> conv => whnf)
 | omega
 | rfl
 | (refine congrArg (SV.arr _) ?_)
 | (refine congrArg (Value.int _) ?_)
 | (refine congrArg Value.bool ?_))
       | false =>
        have g1 := ended_at (hs := w2.1) (fl := w2.2) (b := false) hl2.1 hend.symm
        repeat' (first
 | refine W.seq ?_
 | refine W.block ?_
 | (refine W.drawPhTo (id := 9) tys_ok [] mixed [0, 0, 3, 4, 8, 16, 0, 96, 0, 0, 768, 1024, 2048, 4096, 0, 24576, 255, 131071] [([0, 1, 2, 3, 4, 5, 6, 7, 8, 9, 10, 11, 12, 13, 14, 15, 16, 17], 0, 262143)] ⟨[(1, .st false (.arr U3 x)), (6, (.lit (.int .i64 (s : Int)))), (7, .padr 6000 0), (9, .padr 8000 0), (10, (.lit (.int .i64 (i : Int)))), (11, (.lit (.int .i64 (a : Int)))), (12, (.lit (.int .i64 (b : Int))))], [(6000, .box [.own 6001, .own 6002]), (6001, .row 96 HT true (w).1), (6002, .row 50 LT true (w).2), (8000, .box [.own 8001, .own 8002]), (8001, .row 93 HT true (w).1), (8002, .row 50 LT true (w).2)]⟩ (by decide +kernel) ?_ ?_ <;> (conv => whnf))
 | (refine W.regionM (id := 16) tys_ok [] [3,7] ?_; conv => whnf)
 | (refine W.resub (x := Code.region 21 _ _) (Γ' := ⟨[(1, .st false (.arr U3 x)), (6, (.lit (.int .i64 (s : Int)))), (7, .padr 6000 0), (9, .padr 8000 0), (10, (.lit (.int .i64 (i : Int))))], [(6000, .box [.own 6001, .own 6002]), (6001, .row 96 HT true (w2).1), (6002, .row 50 LT true (w2).2), (8000, .box [.own 8001, .own 8002]), (8001, .row 93 HT true (w2).1), (8002, .row 50 LT true (w2).2)]⟩) ?_ (W.regionM tys_ok [] [1,5] ?_); rotate_left; (conv => whnf))
 | (refine W.region tys_ok [] ?_; conv => whnf)
 | (refine W.drawAll tys_ok [] mixed rfl ?_; conv => whnf)
 | (refine W.ret ?_; conv => whnf)
 | (refine W.skip ?_; conv => whnf)
 | (refine W.exit ?_; conv => whnf)
 | (refine callM_at (d1) ?_; conv => whnf)
 | (refine callM_at (d2) ?_; conv => whnf)
 | (refine callM_at (g1) ?_; conv => whnf)
 | (refine Both.mk ?_ ?_ <;> (conv => whnf))
 | (refine W.cond rfl (fun hb => ?_) (fun hb => ?_) <;> (try simp only [zr, zd, zm, minL, maxL, pickB, zA] at hb) <;> (try (first | (cases hb; done) | exact absurd hb (by decide) | (exfalso; omega) | (omega) | ((simp_all; done)))))
 | (refine Or.inl (And.intro ?_ ?_); exact zi; conv => whnf)
 | (refine Or.inr (And.intro ?_ ?_); exact zj; conv => whnf)
 | ((with_reducible refine And.intro ?_ ?_); exact zc; conv => whnf)
 | ((with_reducible refine And.intro (Side.out ?_) ?_); rotate_left; (conv => whnf))
 | ((first | refine retM1 ?_ | refine retM2 ?_ | refine subF.leaf ?_ | refine subF.side ?_) <;> (conv => whnf) <;> repeat' (first
 | exact trivial
 | (with_reducible rfl)
 | ((with_reducible refine And.intro ?_ ?_) <;> conv => whnf)
 | omega
 | rfl
 | (refine congrArg (SV.arr _) ?_)
 | (refine congrArg (Value.int _) ?_)
 | (refine congrArg Value.bool ?_)))); all_goals (try unfold Side)
        all_goals try (repeat' (first | exact zb | with_reducible refine And.intro ?_ ?_))
        all_goals first | exact ik1 | exact ik2 | exact ik3 | exact Path.imp_of ik1 | exact Path.imp_of ik2 | exact Path.imp_of ik3 | exact ek | exact ea | exact eb | exact hκ.symm | exact ha'.symm | exact hb'.symm | exact Path.imp_of ia | exact ia.2 | exact Path.imp_of ia.2 | skip
        refine ⟨(i + 1, w2), ⟨⟨by dsimp only; omega, by dsimp only; omega, hk2, by dsimp only; exact hpl3⟩, by dsimp only; omega⟩, ?_⟩
        refine subF.ok ?_ <;> (conv => whnf) <;> repeat' (first
 | exact trivial
 | (with_reducible rfl)
 | ((with_reducible refine And.intro ?_ ?_) <;> conv => whnf)
 | omega
 | rfl
 | (refine congrArg (SV.arr _) ?_)
 | (refine congrArg (Value.int _) ?_)
 | (refine congrArg Value.bool ?_))
        all_goals try refine subF.ok ?_ <;> (conv => whnf) <;> repeat' (first
 | exact trivial
 | (with_reducible rfl)
 | ((with_reducible refine And.intro ?_ ?_) <;> conv => whnf)
 | omega
 | rfl
 | (refine congrArg (SV.arr _) ?_)
 | (refine congrArg (Value.int _) ?_)
 | (refine congrArg Value.bool ?_))
     · by_cases h1' : κ.tmod 4 = 1
       · obtain ⟨w2, hw2⟩ : ∃ w2, w2 = idleK a w := ⟨_, rfl⟩
         obtain ⟨e, he⟩ : ∃ e : Int, e = idleE a w := ⟨_, rfl⟩
         have hk2 : WOk s w2 := by rw [hw2]; exact hw.idle
         have hpl3 : playF s (120 - (i + 1)) (x.drop (i + 1)) w2 = played s x := by rw [hw2]; rw [if_neg h0, if_pos h1'] at hpl2; exact hpl2
         have d1 := idle_at (i := a) hw he.symm hw2.symm
         have d2 := ridle_at (i := a) hw he.symm hw2.symm
         have hl2 : 0 < w2.1.length ∧ w2.1.length ≤ 10 ∧ w2.2.length ≤ 200 := by
          have := hk2.len; have := hk2.n0; have := hk2.fl; omega
         have hws : (w2.1.length : Int) = (s : Int) := by rw [hk2.len]
         cases hend : endB w2 with
         | true =>
          have g1 := ended_at (hs := w2.1) (fl := w2.2) (b := true) hl2.1 hend.symm
          obtain ⟨o1, o2⟩ := ended_over hk2 hend
          have g2 := over_at (hs := w2.1) (fl := w2.2) hl2.1 (by omega) (by omega) o1 o2
          rw [hws] at g2
          repeat' (first
 | refine W.seq ?_
 | refine W.block ?_
 | (refine W.drawPhTo (id := 9) tys_ok [] mixed [0, 0, 3, 4, 8, 16, 0, 96, 0, 0, 768, 1024, 2048, 4096, 0, 24576, 255, 131071] [([0, 1, 2, 3, 4, 5, 6, 7, 8, 9, 10, 11, 12, 13, 14, 15, 16, 17], 0, 262143)] ⟨[(1, .st false (.arr U3 x)), (6, (.lit (.int .i64 (s : Int)))), (7, .padr 6000 0), (9, .padr 8000 0), (10, (.lit (.int .i64 (i : Int)))), (11, (.lit (.int .i64 (a : Int)))), (12, (.lit (.int .i64 (b : Int))))], [(6000, .box [.own 6001, .own 6002]), (6001, .row 96 HT true (w).1), (6002, .row 50 LT true (w).2), (8000, .box [.own 8001, .own 8002]), (8001, .row 93 HT true (w).1), (8002, .row 50 LT true (w).2)]⟩ (by decide +kernel) ?_ ?_ <;> (conv => whnf))
 | (refine W.regionM (id := 19) tys_ok [] [2,5] ?_; conv => whnf)
 | (refine W.resub (x := Code.region 21 _ _) (Γ' := ⟨[(1, .st false (.arr U3 x)), (6, (.lit (.int .i64 (s : Int)))), (7, .padr 6000 0), (9, .padr 8000 0), (10, (.lit (.int .i64 (i : Int))))], [(6000, .box [.own 6001, .own 6002]), (6001, .row 96 HT true (w2).1), (6002, .row 50 LT true (w2).2), (8000, .box [.own 8001, .own 8002]), (8001, .row 93 HT true (w2).1), (8002, .row 50 LT true (w2).2)]⟩) ?_ (W.regionM tys_ok [] [1,5] ?_); rotate_left; (conv => whnf))
 | (refine W.region tys_ok [] ?_; conv => whnf)
 | (refine W.drawAll tys_ok [] mixed rfl ?_; conv => whnf)
 | (refine W.ret ?_; conv => whnf)
 | (refine W.skip ?_; conv => whnf)
 | (refine W.exit ?_; conv => whnf)
 | (refine callM_at (d1) ?_; conv => whnf)
 | (refine callM_at (d2) ?_; conv => whnf)
 | (refine callM_at (g1) ?_; conv => whnf)
 | (refine callM_at (g2) ?_; conv => whnf)
 | (refine Both.mk ?_ ?_ <;> (conv => whnf))
 | (refine W.cond rfl (fun hb => ?_) (fun hb => ?_) <;> (try simp only [zr, zd, zm, minL, maxL, pickB, zA] at hb) <;> (try (first | (cases hb; done) | exact absurd hb (by decide) | (exfalso; omega) | (omega) | ((simp_all; done)))))
 | (refine Or.inl (And.intro ?_ ?_); exact zi; conv => whnf)
 | (refine Or.inr (And.intro ?_ ?_); exact zj; conv => whnf)
 | ((with_reducible refine And.intro ?_ ?_); exact zc; conv => whnf)
 | ((with_reducible refine And.intro (Side.out ?_) ?_); rotate_left; (conv => whnf))
 | ((first | refine retM1 ?_ | refine retM2 ?_ | refine subF.leaf ?_ | refine subF.side ?_) <;> (conv => whnf) <;> repeat' (first
 | exact trivial
 | (with_reducible rfl)
 | ((with_reducible refine And.intro ?_ ?_) <;> conv => whnf)
 | omega
 | rfl
 | (refine congrArg (SV.arr _) ?_)
 | (refine congrArg (Value.int _) ?_)
 | (refine congrArg Value.bool ?_)))); all_goals (try unfold Side)
          all_goals try (repeat' (first | exact zb | with_reducible refine And.intro ?_ ?_))
          all_goals first | exact ik1 | exact ik2 | exact ik3 | exact Path.imp_of ik1 | exact Path.imp_of ik2 | exact Path.imp_of ik3 | exact ek | exact ea | exact eb | exact hκ.symm | exact ha'.symm | exact hb'.symm | exact Path.imp_of ia | exact ia.2 | exact Path.imp_of ia.2 | skip
          refine ⟨(i + 1, w2), ⟨⟨by dsimp only; omega, by dsimp only; omega, hk2, by dsimp only; exact hpl3⟩, by dsimp only; omega⟩, ?_⟩
          refine subF.ok ?_ <;> (conv => whnf) <;> repeat' (first
 | exact trivial
 | (with_reducible rfl)
 | ((with_reducible refine And.intro ?_ ?_) <;> conv => whnf)
 | omega
 | rfl
 | (refine congrArg (SV.arr _) ?_)
 | (refine congrArg (Value.int _) ?_)
 | (refine congrArg Value.bool ?_))
          all_goals try refine subF.ok ?_ <;> (conv => whnf) <;> repeat' (first
 | exact trivial
 | (with_reducible rfl)
 | ((with_reducible refine And.intro ?_ ?_) <;> conv => whnf)
 | omega
 | rfl
 | (refine congrArg (SV.arr _) ?_)
 | (refine congrArg (Value.int _) ?_)
 | (refine congrArg Value.bool ?_))
         | false =>
          have g1 := ended_at (hs := w2.1) (fl := w2.2) (b := false) hl2.1 hend.symm
          repeat' (first
 | refine W.seq ?_
 | refine W.block ?_
 | (refine W.drawPhTo (id := 9) tys_ok [] mixed [0, 0, 3, 4, 8, 16, 0, 96, 0, 0, 768, 1024, 2048, 4096, 0, 24576, 255, 131071] [([0, 1, 2, 3, 4, 5, 6, 7, 8, 9, 10, 11, 12, 13, 14, 15, 16, 17], 0, 262143)] ⟨[(1, .st false (.arr U3 x)), (6, (.lit (.int .i64 (s : Int)))), (7, .padr 6000 0), (9, .padr 8000 0), (10, (.lit (.int .i64 (i : Int)))), (11, (.lit (.int .i64 (a : Int)))), (12, (.lit (.int .i64 (b : Int))))], [(6000, .box [.own 6001, .own 6002]), (6001, .row 96 HT true (w).1), (6002, .row 50 LT true (w).2), (8000, .box [.own 8001, .own 8002]), (8001, .row 93 HT true (w).1), (8002, .row 50 LT true (w).2)]⟩ (by decide +kernel) ?_ ?_ <;> (conv => whnf))
 | (refine W.regionM (id := 19) tys_ok [] [2,5] ?_; conv => whnf)
 | (refine W.resub (x := Code.region 21 _ _) (Γ' := ⟨[(1, .st false (.arr U3 x)), (6, (.lit (.int .i64 (s : Int)))), (7, .padr 6000 0), (9, .padr 8000 0), (10, (.lit (.int .i64 (i : Int))))], [(6000, .box [.own 6001, .own 6002]), (6001, .row 96 HT true (w2).1), (6002, .row 50 LT true (w2).2), (8000, .box [.own 8001, .own 8002]), (8001, .row 93 HT true (w2).1), (8002, .row 50 LT true (w2).2)]⟩) ?_ (W.regionM tys_ok [] [1,5] ?_); rotate_left; (conv => whnf))
 | (refine W.region tys_ok [] ?_; conv => whnf)
 | (refine W.drawAll tys_ok [] mixed rfl ?_; conv => whnf)
 | (refine W.ret ?_; conv => whnf)
 | (refine W.skip ?_; conv => whnf)
 | (refine W.exit ?_; conv => whnf)
 | (refine callM_at (d1) ?_; conv => whnf)
 | (refine callM_at (d2) ?_; conv => whnf)
 | (refine callM_at (g1) ?_; conv => whnf)
 | (refine Both.mk ?_ ?_ <;> (conv => whnf))
 | (refine W.cond rfl (fun hb => ?_) (fun hb => ?_) <;> (try simp only [zr, zd, zm, minL, maxL, pickB, zA] at hb) <;> (try (first | (cases hb; done) | exact absurd hb (by decide) | (exfalso; omega) | (omega) | ((simp_all; done)))))
 | (refine Or.inl (And.intro ?_ ?_); exact zi; conv => whnf)
 | (refine Or.inr (And.intro ?_ ?_); exact zj; conv => whnf)
 | ((with_reducible refine And.intro ?_ ?_); exact zc; conv => whnf)
 | ((with_reducible refine And.intro (Side.out ?_) ?_); rotate_left; (conv => whnf))
 | ((first | refine retM1 ?_ | refine retM2 ?_ | refine subF.leaf ?_ | refine subF.side ?_) <;> (conv => whnf) <;> repeat' (first
 | exact trivial
 | (with_reducible rfl)
 | ((with_reducible refine And.intro ?_ ?_) <;> conv => whnf)
 | omega
 | rfl
 | (refine congrArg (SV.arr _) ?_)
 | (refine congrArg (Value.int _) ?_)
 | (refine congrArg Value.bool ?_)))); all_goals (try unfold Side)
          all_goals try (repeat' (first | exact zb | with_reducible refine And.intro ?_ ?_))
          all_goals first | exact ik1 | exact ik2 | exact ik3 | exact Path.imp_of ik1 | exact Path.imp_of ik2 | exact Path.imp_of ik3 | exact ek | exact ea | exact eb | exact hκ.symm | exact ha'.symm | exact hb'.symm | exact Path.imp_of ia | exact ia.2 | exact Path.imp_of ia.2 | skip
          refine ⟨(i + 1, w2), ⟨⟨by dsimp only; omega, by dsimp only; omega, hk2, by dsimp only; exact hpl3⟩, by dsimp only; omega⟩, ?_⟩
          refine subF.ok ?_ <;> (conv => whnf) <;> repeat' (first
 | exact trivial
 | (with_reducible rfl)
 | ((with_reducible refine And.intro ?_ ?_) <;> conv => whnf)
 | omega
 | rfl
 | (refine congrArg (SV.arr _) ?_)
 | (refine congrArg (Value.int _) ?_)
 | (refine congrArg Value.bool ?_))
          all_goals try refine subF.ok ?_ <;> (conv => whnf) <;> repeat' (first
 | exact trivial
 | (with_reducible rfl)
 | ((with_reducible refine And.intro ?_ ?_) <;> conv => whnf)
 | omega
 | rfl
 | (refine congrArg (SV.arr _) ?_)
 | (refine congrArg (Value.int _) ?_)
 | (refine congrArg Value.bool ?_))
       · by_cases h2' : w.2.length = 0
         · have hpl3 : playF s (120 - (i + 1)) (x.drop (i + 1)) w = played s x := by rw [if_neg h0, if_neg h1', if_pos h2'] at hpl2; exact hpl2
           repeat' (first
 | refine W.seq ?_
 | refine W.block ?_
 | (refine W.drawPhTo (id := 9) tys_ok [] mixed [0, 0, 3, 4, 8, 16, 0, 96, 0, 0, 768, 1024, 2048, 4096, 0, 24576, 255, 131071] [([0, 1, 2, 3, 4, 5, 6, 7, 8, 9, 10, 11, 12, 13, 14, 15, 16, 17], 0, 262143)] ⟨[(1, .st false (.arr U3 x)), (6, (.lit (.int .i64 (s : Int)))), (7, .padr 6000 0), (9, .padr 8000 0), (10, (.lit (.int .i64 (i : Int)))), (11, (.lit (.int .i64 (a : Int)))), (12, (.lit (.int .i64 (b : Int))))], [(6000, .box [.own 6001, .own 6002]), (6001, .row 96 HT true (w).1), (6002, .row 50 LT true (w).2), (8000, .box [.own 8001, .own 8002]), (8001, .row 93 HT true (w).1), (8002, .row 50 LT true (w).2)]⟩ (by decide +kernel) ?_ ?_ <;> (conv => whnf))
 | (refine W.region tys_ok [] ?_; conv => whnf)
 | (refine W.drawAll tys_ok [] mixed rfl ?_; conv => whnf)
 | (refine W.ret ?_; conv => whnf)
 | (refine W.skip ?_; conv => whnf)
 | (refine W.exit ?_; conv => whnf)
 | (refine Both.mk ?_ ?_ <;> (conv => whnf))
 | (refine W.cond rfl (fun hb => ?_) (fun hb => ?_) <;> (try simp only [zr, zd, zm, minL, maxL, pickB, zA] at hb) <;> (try (first | (cases hb; done) | exact absurd hb (by decide) | (exfalso; omega) | (omega) | ((simp_all; done)))))
 | ((with_reducible refine And.intro ?_ ?_); exact zc; conv => whnf)
 | ((with_reducible refine And.intro (Side.out ?_) ?_); rotate_left; (conv => whnf))
 | ((first | refine retM1 ?_ | refine retM2 ?_ | refine subF.leaf ?_ | refine subF.side ?_) <;> (conv => whnf) <;> repeat' (first
 | exact trivial
 | (with_reducible rfl)
 | ((with_reducible refine And.intro ?_ ?_) <;> conv => whnf)
 | omega
 | rfl
 | (refine congrArg (SV.arr _) ?_)
 | (refine congrArg (Value.int _) ?_)
 | (refine congrArg Value.bool ?_)))); all_goals (try unfold Side)
           all_goals try (repeat' (first | exact zb | with_reducible refine And.intro ?_ ?_))
           all_goals first | exact ik1 | exact ik2 | exact ik3 | exact Path.imp_of ik1 | exact Path.imp_of ik2 | exact Path.imp_of ik3 | exact ek | exact ea | exact eb | exact hκ.symm | exact ha'.symm | exact hb'.symm | exact Path.imp_of ia | exact ia.2 | exact Path.imp_of ia.2 | skip
           refine ⟨(i + 1, w), ⟨⟨by dsimp only; omega, by dsimp only; omega, hw, by dsimp only; exact hpl3⟩, by dsimp only; omega⟩, ?_⟩
           refine subF.ok ?_ <;> (conv => whnf) <;> repeat' (first
 | exact trivial
 | (with_reducible rfl)
 | ((with_reducible refine And.intro ?_ ?_) <;> conv => whnf)
 | omega
 | rfl
 | (refine congrArg (SV.arr _) ?_)
 | (refine congrArg (Value.int _) ?_)
 | (refine congrArg Value.bool ?_))
         · obtain ⟨w2, hw2⟩ : ∃ w2, w2 = delK ((a' + b').tmod w.2.length) w := ⟨_, rfl⟩
           obtain ⟨e, he⟩ : ∃ e : Int, e = delE ((a' + b').tmod w.2.length) w := ⟨_, rfl⟩
           have hk2 : WOk s w2 := by rw [hw2]; exact hw.del
           have hpl3 : playF s (120 - (i + 1)) (x.drop (i + 1)) w2 = played s x := by rw [hw2]; rw [if_neg h0, if_neg h1', if_neg h2'] at hpl2; exact hpl2
           have d1 := deliver_at (k := (a' + b').tmod w.2.length) hw he.symm hw2.symm
           have d2 := rdeliver_all (k := (a' + b').tmod w.2.length) hw he.symm hw2.symm
           have hl2 : 0 < w2.1.length ∧ w2.1.length ≤ 10 ∧ w2.2.length ≤ 200 := by
            have := hk2.len; have := hk2.n0; have := hk2.fl; omega
           have hws : (w2.1.length : Int) = (s : Int) := by rw [hk2.len]
           cases hend : endB w2 with
           | true =>
            have g1 := ended_at (hs := w2.1) (fl := w2.2) (b := true) hl2.1 hend.symm
            obtain ⟨o1, o2⟩ := ended_over hk2 hend
            have g2 := over_at (hs := w2.1) (fl := w2.2) hl2.1 (by omega) (by omega) o1 o2
            rw [hws] at g2
            repeat' (first
 | refine W.seq ?_
 | refine W.block ?_
 | (refine W.drawPhTo (id := 9) tys_ok [] mixed [0, 0, 3, 4, 8, 16, 0, 96, 0, 0, 768, 1024, 2048, 4096, 0, 24576, 255, 131071] [([0, 1, 2, 3, 4, 5, 6, 7, 8, 9, 10, 11, 12, 13, 14, 15, 16, 17], 0, 262143)] ⟨[(1, .st false (.arr U3 x)), (6, (.lit (.int .i64 (s : Int)))), (7, .padr 6000 0), (9, .padr 8000 0), (10, (.lit (.int .i64 (i : Int)))), (11, (.lit (.int .i64 (a : Int)))), (12, (.lit (.int .i64 (b : Int))))], [(6000, .box [.own 6001, .own 6002]), (6001, .row 96 HT true (w).1), (6002, .row 50 LT true (w).2), (8000, .box [.own 8001, .own 8002]), (8001, .row 93 HT true (w).1), (8002, .row 50 LT true (w).2)]⟩ (by decide +kernel) ?_ ?_ <;> (conv => whnf))
 | (refine W.drawPhTo (id := 12) tys_ok [] mixed [0, 0, 3, 4, 8, 16, 0, 0, 192, 256, 512, 1024, 2080, 0, 8192, 16384, 32768, 65536, 135168, 524287] [([0, 1, 2, 3, 4, 5, 6, 7, 8, 9, 10, 11, 12, 13, 14, 15], 1, 131071), ([], 1, 262143), ([18, 19], 0, 1048575)] ⟨[(1, .st false (.arr U3 x)), (6, (.lit (.int .i64 (s : Int)))), (7, .padr 6000 0), (9, .padr 8000 0), (10, (.lit (.int .i64 (i : Int)))), (13, (.lit (.int .i64 (((a' + b').tmod w.2.length) : Int))))], [(6000, .box [.own 6001, .own 6002]), (6001, .row 96 HT true (w).1), (6002, .row 50 LT true (w).2), (8000, .box [.own 8001, .own 8002]), (8001, .row 93 HT true (w).1), (8002, .row 50 LT true (w).2)]⟩ (by decide +kernel) ?_ ?_ <;> (conv => whnf))
 | (refine W.regionM (id := 13) tys_ok [] [2,5] ?_; conv => whnf)
 | (refine W.resub (x := Code.region 21 _ _) (Γ' := ⟨[(1, .st false (.arr U3 x)), (6, (.lit (.int .i64 (s : Int)))), (7, .padr 6000 0), (9, .padr 8000 0), (10, (.lit (.int .i64 (i : Int))))], [(6000, .box [.own 6001, .own 6002]), (6001, .row 96 HT true (w2).1), (6002, .row 50 LT true (w2).2), (8000, .box [.own 8001, .own 8002]), (8001, .row 93 HT true (w2).1), (8002, .row 50 LT true (w2).2)]⟩) ?_ (W.regionM tys_ok [] [1,5] ?_); rotate_left; (conv => whnf))
 | (refine W.region tys_ok [] ?_; conv => whnf)
 | (refine W.drawAll tys_ok [] mixed rfl ?_; conv => whnf)
 | (refine W.ret ?_; conv => whnf)
 | (refine W.skip ?_; conv => whnf)
 | (refine W.exit ?_; conv => whnf)
 | (refine callM_at (d1) ?_; conv => whnf)
 | (refine callM_at (d2) ?_; conv => whnf)
 | (refine callM_at (g1) ?_; conv => whnf)
 | (refine callM_at (g2) ?_; conv => whnf)
 | (refine Both.mk ?_ ?_ <;> (conv => whnf))
 | (refine W.cond rfl (fun hb => ?_) (fun hb => ?_) <;> (try simp only [zr, zd, zm, minL, maxL, pickB, zA] at hb) <;> (try (first | (cases hb; done) | exact absurd hb (by decide) | (exfalso; omega) | (omega) | ((simp_all; done)))))
 | (refine Or.inl (And.intro ?_ ?_); exact zi; conv => whnf)
 | (refine Or.inr (And.intro ?_ ?_); exact zj; conv => whnf)
 | ((with_reducible refine And.intro ?_ ?_); exact zc; conv => whnf)
 | ((with_reducible refine And.intro (Side.out ?_) ?_); rotate_left; (conv => whnf))
 | ((first | refine retM1 ?_ | refine retM2 ?_ | refine subF.leaf ?_ | refine subF.side ?_) <;> (conv => whnf) <;> repeat' (first
 | exact trivial
 | (with_reducible rfl)
 | ((with_reducible refine And.intro ?_ ?_) <;> conv => whnf)
 | omega
 | rfl
 | (refine congrArg (SV.arr _) ?_)
 | (refine congrArg (Value.int _) ?_)
 | (refine congrArg Value.bool ?_)))); all_goals (try unfold Side)
            all_goals try (repeat' (first | exact zb | with_reducible refine And.intro ?_ ?_))
            all_goals first | exact ik1 | exact ik2 | exact ik3 | exact Path.imp_of ik1 | exact Path.imp_of ik2 | exact Path.imp_of ik3 | exact ek | exact ea | exact eb | exact hκ.symm | exact ha'.symm | exact hb'.symm | exact Path.imp_of ia | exact ia.2 | exact Path.imp_of ia.2 | skip
            refine ⟨(i + 1, w2), ⟨⟨by dsimp only; omega, by dsimp only; omega, hk2, by dsimp only; exact hpl3⟩, by dsimp only; omega⟩, ?_⟩
            refine subF.ok ?_ <;> (conv => whnf) <;> repeat' (first
 | exact trivial
 | (with_reducible rfl)
 | ((with_reducible refine And.intro ?_ ?_) <;> conv => whnf)
 | omega
 | rfl
 | (refine congrArg (SV.arr _) ?_)
 | (refine congrArg (Value.int _) ?_)
 | (refine congrArg Value.bool ?_))
            all_goals try refine subF.ok ?_ <;> (conv => whnf) <;> repeat' (first
 | exact trivial
 | (with_reducible rfl)
 | ((with_reducible refine And.intro ?_ ?_) <;> conv => whnf)
 | omega
 | rfl
 | (refine congrArg (SV.arr _) ?_)
 | (refine congrArg (Value.int _) ?_)
 | (refine congrArg Value.bool ?_))
           | false =>
            have g1 := ended_at (hs := w2.1) (fl := w2.2) (b := false) hl2.1 hend.symm
            repeat' (first
 | refine W.seq ?_
 | refine W.block ?_
 | (refine W.drawPhTo (id := 9) tys_ok [] mixed [0, 0, 3, 4, 8, 16, 0, 96, 0, 0, 768, 1024, 2048, 4096, 0, 24576, 255, 131071] [([0, 1, 2, 3, 4, 5, 6, 7, 8, 9, 10, 11, 12, 13, 14, 15, 16, 17], 0, 262143)] ⟨[(1, .st false (.arr U3 x)), (6, (.lit (.int .i64 (s : Int)))), (7, .padr 6000 0), (9, .padr 8000 0), (10, (.lit (.int .i64 (i : Int)))), (11, (.lit (.int .i64 (a : Int)))), (12, (.lit (.int .i64 (b : Int))))], [(6000, .box [.own 6001, .own 6002]), (6001, .row 96 HT true (w).1), (6002, .row 50 LT true (w).2), (8000, .box [.own 8001, .own 8002]), (8001, .row 93 HT true (w).1), (8002, .row 50 LT true (w).2)]⟩ (by decide +kernel) ?_ ?_ <;> (conv => whnf))
 | (refine W.drawPhTo (id := 12) tys_ok [] mixed [0, 0, 3, 4, 8, 16, 0, 0, 192, 256, 512, 1024, 2080, 0, 8192, 16384, 32768, 65536, 135168, 524287] [([0, 1, 2, 3, 4, 5, 6, 7, 8, 9, 10, 11, 12, 13, 14, 15], 1, 131071), ([], 1, 262143), ([18, 19], 0, 1048575)] ⟨[(1, .st false (.arr U3 x)), (6, (.lit (.int .i64 (s : Int)))), (7, .padr 6000 0), (9, .padr 8000 0), (10, (.lit (.int .i64 (i : Int)))), (13, (.lit (.int .i64 (((a' + b').tmod w.2.length) : Int))))], [(6000, .box [.own 6001, .own 6002]), (6001, .row 96 HT true (w).1), (6002, .row 50 LT true (w).2), (8000, .box [.own 8001, .own 8002]), (8001, .row 93 HT true (w).1), (8002, .row 50 LT true (w).2)]⟩ (by decide +kernel) ?_ ?_ <;> (conv => whnf))
 | (refine W.regionM (id := 13) tys_ok [] [2,5] ?_; conv => whnf)
 | (refine W.resub (x := Code.region 21 _ _) (Γ' := ⟨[(1, .st false (.arr U3 x)), (6, (.lit (.int .i64 (s : Int)))), (7, .padr 6000 0), (9, .padr 8000 0), (10, (.lit (.int .i64 (i : Int))))], [(6000, .box [.own 6001, .own 6002]), (6001, .row 96 HT true (w2).1), (6002, .row 50 LT true (w2).2), (8000, .box [.own 8001, .own 8002]), (8001, .row 93 HT true (w2).1), (8002, .row 50 LT true (w2).2)]⟩) ?_ (W.regionM tys_ok [] [1,5] ?_); rotate_left; (conv => whnf))
 | (refine W.region tys_ok [] ?_; conv => whnf)
 | (refine W.drawAll tys_ok [] mixed rfl ?_; conv => whnf)
 | (refine W.ret ?_; conv => whnf)
 | (refine W.skip ?_; conv => whnf)
 | (refine W.exit ?_; conv => whnf)
 | (refine callM_at (d1) ?_; conv => whnf)
 | (refine callM_at (d2) ?_; conv => whnf)
 | (refine callM_at (g1) ?_; conv => whnf)
 | (refine Both.mk ?_ ?_ <;> (conv => whnf))
 | (refine W.cond rfl (fun hb => ?_) (fun hb => ?_) <;> (try simp only [zr, zd, zm, minL, maxL, pickB, zA] at hb) <;> (try (first | (cases hb; done) | exact absurd hb (by decide) | (exfalso; omega) | (omega) | ((simp_all; done)))))
 | (refine Or.inl (And.intro ?_ ?_); exact zi; conv => whnf)
 | (refine Or.inr (And.intro ?_ ?_); exact zj; conv => whnf)
 | ((with_reducible refine And.intro ?_ ?_); exact zc; conv => whnf)
 | ((with_reducible refine And.intro (Side.out ?_) ?_); rotate_left; (conv => whnf))
 | ((first | refine retM1 ?_ | refine retM2 ?_ | refine subF.leaf ?_ | refine subF.side ?_) <;> (conv => whnf) <;> repeat' (first
 | exact trivial
 | (with_reducible rfl)
 | ((with_reducible refine And.intro ?_ ?_) <;> conv => whnf)
 | omega
 | rfl
 | (refine congrArg (SV.arr _) ?_)
 | (refine congrArg (Value.int _) ?_)
 | (refine congrArg Value.bool ?_)))); all_goals (try unfold Side)
            all_goals try (repeat' (first | exact zb | with_reducible refine And.intro ?_ ?_))
            all_goals first | exact ik1 | exact ik2 | exact ik3 | exact Path.imp_of ik1 | exact Path.imp_of ik2 | exact Path.imp_of ik3 | exact ek | exact ea | exact eb | exact hκ.symm | exact ha'.symm | exact hb'.symm | exact Path.imp_of ia | exact ia.2 | exact Path.imp_of ia.2 | skip
            refine ⟨(i + 1, w2), ⟨⟨by dsimp only; omega, by dsimp only; omega, hk2, by dsimp only; exact hpl3⟩, by dsimp only; omega⟩, ?_⟩
            refine subF.ok ?_ <;> (conv => whnf) <;> repeat' (first
 | exact trivial
 | (with_reducible rfl)
 | ((with_reducible refine And.intro ?_ ?_) <;> conv => whnf)
 | omega
 | rfl
 | (refine congrArg (SV.arr _) ?_)
 | (refine congrArg (Value.int _) ?_)
 | (refine congrArg Value.bool ?_))
            all_goals try refine subF.ok ?_ <;> (conv => whnf) <;> repeat' (first
 | exact trivial
 | (with_reducible rfl)
 | ((with_reducible refine And.intro ?_ ?_) <;> conv => whnf)
 | omega
 | rfl
 | (refine congrArg (SV.arr _) ?_)
 | (refine congrArg (Value.int _) ?_)
 | (refine congrArg Value.bool ?_))
   · have hend : playF s (120 - i) (x.drop i) w = w := playF_stop hil hi120
     have hfin : w = played s x := by rw [← hpl, hend]
     have f1 : w.1 = (played s x).1 := by rw [← hfin]
     have f2 : w.2 = (played s x).2 := by rw [← hfin]
     repeat' (first
 | refine W.seq ?_
 | refine W.block ?_
 | (refine W.region tys_ok [] ?_; conv => whnf)
 | (refine W.drawAll tys_ok [] mixed rfl ?_; conv => whnf)
 | (refine W.ret ?_; conv => whnf)
 | (refine W.skip ?_; conv => whnf)
 | (refine W.exit ?_; conv => whnf)
 | (refine W.cond rfl (fun hb => ?_) (fun hb => ?_) <;> (try simp only [zr, zd, zm, minL, maxL, pickB, zA] at hb) <;> (try (first | (cases hb; done) | exact absurd hb (by decide) | (exfalso; omega) | (omega) | ((simp [pickB] at hb; omega)))))
 | ((with_reducible refine And.intro ?_ ?_); exact zc; conv => whnf)
 | ((with_reducible refine And.intro (Side.out ?_) ?_); rotate_left; (conv => whnf))
 | ((first | refine retM1 ?_ | refine retM2 ?_) <;> (conv => whnf) <;> repeat' (first
 | exact trivial
 | (with_reducible rfl)
 | ((with_reducible refine And.intro ?_ ?_) <;> conv => whnf)
 | omega
 | rfl
 | (refine congrArg (SV.arr _) ?_)
 | (refine congrArg (Value.int _) ?_)
 | (refine congrArg Value.bool ?_)))); all_goals (try unfold Side)
     all_goals try (repeat' (first | exact zb | with_reducible refine And.intro ?_ ?_))
     all_goals first | exact f1 | exact f2 | skip
open Go Go.Vc Go.Rg
set_option maxHeartbeats 64000000 in
theorem RingCloned_at {x : List Int} {acts more : List U3.T} (hx : smw x) (ha : sm3 acts) (hm : sm3 more) : FnAt Try.prog false 12 [.arr (.int .u16) x, .arr U3 acts, .arr U3 more] (.lit (.bool true)) [] := by
 have hlx : @List.length (Ty.int .u16).T x = x.length := rfl
 have hlm : @List.length U3.T more = more.length := rfl
 obtain ⟨l, hl⟩ : ∃ l, l = nbl (nbs x x.length) := ⟨_, rfl⟩
 have hN : Nb l := by rw [hl]; exact nbl_ok (nbs_ok _)
 obtain ⟨pet, hpet⟩ : ∃ pet, pet = decide ((x.length : Int).tmod 2 = 0) := ⟨_, rfl⟩
 obtain ⟨n, hn⟩ : ∃ n, n = l.length := ⟨_, rfl⟩
 have l0 := hN.l0
 have l1 := hN.l1
 have k0 : ROk n pet (rnew l) := by rw [hn]; exact ROk.new (by omega) hN.l1
 obtain ⟨r1, hr1⟩ : ∃ r1, r1 = stpN pet n acts (min acts.length 60) (rnew l) := ⟨_, rfl⟩
 obtain ⟨r2, hr2⟩ : ∃ r2, r2 = stpN pet n more (min more.length 60) r1 := ⟨_, rfl⟩
 obtain ⟨k1, b1⟩ := stpN_ok k0 (l := acts) (min acts.length 60)
 rw [← hr1] at k1 b1
 obtain ⟨k2, b2⟩ := stpN_ok k1 (l := more) (min more.length 60)
 rw [← hr2] at k2 b2
 have b0 : (rnew l).2.2 = 0 := rfl
 have c0 := numbers_at hx hl
 have c1 := new_ok (pet := pet) hN.l0 hN.l1 (fun i hi => hN.good hi)
 have c2 := rnew_at (xs := l) (pet := pet) (by omega)
 have c3 := lives_at
 have s1 := step_at (acts := acts) k0 (by omega) ha hr1
 have s2 := step_at (acts := more) k1 (by omega) hm hr2
 have s3 := step_at (acts := more) k1 (by omega) hm hr2
 have q1 := ringclone_at k1 (by omega)
 have hd1 : (cvD r1).1.length ≤ 1000 := by rw [cvD_len, k1.len]; have := k1.n1; omega
 have hd2 : (cvD r1).2.1.length ≤ 1000 := by show r1.2.1.length ≤ 1000; rw [k1.fln]; have := k1.n1; omega
 have q2 := clonew_at (pet := pet) (d := cvD r1) hd1 hd2
 have g1 := rings_at k1 (by omega)
 have g2 := rings_at k2 (by omega)
 obtain ⟨u, hu⟩ : ∃ u : Int, u = ((x.length % 256 : Nat) : Int) := ⟨_, rfl⟩
 have hwr : IntKind.u8.wrap (x.length : Int) = u := by rw [hu]; show (x.length : Int) % 256 = _; omega
 have hu0 : 0 ≤ u ∧ u ≤ 255 := by omega
 have hmod : u.tmod 10 = u % 10 := Int.tmod_eq_emod_of_nonneg hu0.1
 obtain ⟨s, hs⟩ : ∃ s : Nat, (s : Int) = u.tmod 10 + 1 := ⟨(u.tmod 10 + 1).toNat, by omega⟩
 have p1 := played_at hu0 ha hs
 obtain ⟨w0, hwd⟩ : ∃ w, w = played s acts := ⟨_, rfl⟩
 rw [← hwd] at p1
 have hw0 : WOk s w0 := by rw [hwd]; exact WOk.playF (WOk.beg (by omega) (by omega))
 have hwl := hw0.len
 have hwf := hw0.fl
 have hw1 := hw0.n1
 have hwn := hw0.n0
 have p2 := wclone_at (hs := w0.1) (fl := w0.2) (by omega) (by omega) (by omega)
 have p3 := rclone_at (hs := w0.1) (fl := w0.2) (by omega) (by omega) (by omega)
 refine FnAt.of_body tys_ok Try.func12 (by rfl) rfl Try.ntmps12 (by rw [Try.results12]) (by simp) ?_
 repeat' (first
 | refine W.seq ?_
 | refine W.block ?_
 | (refine W.resub (x := Code.region 2 _ _) (Γ' := ⟨[(0, .st false (.arr (.int .u16) (x : List Int))), (1, .st false (.arr U3 acts)), (2, .st false (.arr U3 more)), (7, .st true (.arr (.int .i64) (l : List Int)))], []⟩) ?_ (W.regionM tys_ok [] [5] ?_); rotate_left; (conv => whnf))
 | (refine W.regionM (id := 3) tys_ok [] [5] ?_; conv => whnf)
 | (refine W.regionM (id := 6) tys_ok [] [3] ?_; conv => whnf)
 | (refine W.resub (x := Code.region 7 _ _) (Γ' := ⟨[(0, .st false (.arr (.int .u16) (x : List Int))), (1, .st false (.arr U3 acts)), (2, .st false (.arr U3 more)), (8, .padr 9000 0), (10, .padr 9003 0)], [(9000, .box [.lit (.bool true), .lit (.bool pet), .own 9001, .mown 9002, (.lit (.int .i64 ((r1).2.2 : Int)))]), (9001, .row 105 PT true (r1).1), (9002, .mat 80 91 NT true (r1).2.1 none), (9003, .box [.lit (.bool pet), .own 9004, .own 9005, (.lit (.int .i64 ((r1).2.2 : Int)))]), (9004, .row 111 WT true ((r1).1.map cv)), (9005, .row 80 (.sl NT) true (r1).2.1)]⟩) ?_ (W.regionM tys_ok [] [1,3] ?_); rotate_left; (conv => whnf))
 | (refine W.resub (x := Code.region 10 _ _) (Γ' := ⟨[(0, .st false (.arr (.int .u16) (x : List Int))), (1, .st false (.arr U3 acts)), (2, .st false (.arr U3 more)), (8, .padr 9000 0), (10, .padr 9003 0), (11, .padr 9500 0), (12, .padr 9503 0)], [(9000, .box [.lit (.bool true), .lit (.bool pet), .own 9001, .mown 9002, (.lit (.int .i64 ((r1).2.2 : Int)))]), (9001, .row 105 PT true (r1).1), (9002, .mat 80 91 NT true (r1).2.1 none), (9003, .box [.lit (.bool pet), .own 9004, .own 9005, (.lit (.int .i64 ((r1).2.2 : Int)))]), (9004, .row 111 WT true ((r1).1.map cv)), (9005, .row 80 (.sl NT) true (r1).2.1), (9500, .box [.lit (.bool true), .lit (.bool pet), .own 9501, .mown 9502, (.lit (.int .i64 ((r1).2.2 : Int)))]), (9501, .row 105 PT true (r1).1), (9502, .mat 80 91 NT true (r1).2.1 none), (9503, .box [.lit (.bool pet), .own 9504, .own 9505, (.lit (.int .i64 ((r1).2.2 : Int)))]), (9504, .row 111 WT true ((r1).1.map cv)), (9505, .row 80 (.sl NT) true (r1).2.1)]⟩) ?_ (W.regionM tys_ok [] [3] ?_); rotate_left; (conv => whnf))
 | (refine W.resub (x := Code.region 11 _ _) (Γ' := ⟨[(0, .st false (.arr (.int .u16) (x : List Int))), (1, .st false (.arr U3 acts)), (2, .st false (.arr U3 more)), (8, .padr 9000 0), (10, .padr 9003 0), (11, .padr 9500 0), (12, .padr 9503 0)], [(9000, .box [.lit (.bool true), .lit (.bool pet), .own 9001, .mown 9002, (.lit (.int .i64 ((r1).2.2 : Int)))]), (9001, .row 105 PT true (r1).1), (9002, .mat 80 91 NT true (r1).2.1 none), (9003, .box [.lit (.bool pet), .own 9004, .own 9005, (.lit (.int .i64 ((r1).2.2 : Int)))]), (9004, .row 111 WT true ((r1).1.map cv)), (9005, .row 80 (.sl NT) true (r1).2.1), (9500, .box [.lit (.bool true), .lit (.bool pet), .own 9501, .mown 9502, (.lit (.int .i64 ((r2).2.2 : Int)))]), (9501, .row 105 PT true (r2).1), (9502, .mat 80 91 NT true (r2).2.1 none), (9503, .box [.lit (.bool pet), .own 9504, .own 9505, (.lit (.int .i64 ((r2).2.2 : Int)))]), (9504, .row 111 WT true ((r2).1.map cv)), (9505, .row 80 (.sl NT) true (r2).2.1)]⟩) ?_ (W.regionM tys_ok [] [2,7] ?_); rotate_left; (conv => whnf))
 | (refine W.resub (x := Code.region 13 _ _) (Γ' := ⟨[(0, .st false (.arr (.int .u16) (x : List Int))), (1, .st false (.arr U3 acts)), (2, .st false (.arr U3 more)), (8, .padr 9000 0), (10, .padr 9003 0), (11, .padr 9500 0), (12, .padr 9503 0)], [(9000, .box [.lit (.bool true), .lit (.bool pet), .own 9001, .mown 9002, (.lit (.int .i64 ((r1).2.2 : Int)))]), (9001, .row 105 PT true (r1).1), (9002, .mat 80 91 NT true (r1).2.1 none), (9003, .box [.lit (.bool pet), .own 9004, .own 9005, (.lit (.int .i64 ((r1).2.2 : Int)))]), (9004, .row 111 WT true ((r1).1.map cv)), (9005, .row 80 (.sl NT) true (r1).2.1), (9500, .box [.lit (.bool true), .lit (.bool pet), .own 9501, .mown 9502, (.lit (.int .i64 ((r2).2.2 : Int)))]), (9501, .row 105 PT true (r2).1), (9502, .mat 80 91 NT true (r2).2.1 none), (9503, .box [.lit (.bool pet), .own 9504, .own 9505, (.lit (.int .i64 ((r2).2.2 : Int)))]), (9504, .row 111 WT true ((r2).1.map cv)), (9505, .row 80 (.sl NT) true (r2).2.1)]⟩) ?_ (W.regionM tys_ok [] [3] ?_); rotate_left; (conv => whnf))
 | (refine W.resub (x := Code.region 14 _ _) (Γ' := ⟨[(0, .st false (.arr (.int .u16) (x : List Int))), (1, .st false (.arr U3 acts)), (2, .st false (.arr U3 more)), (8, .padr 9000 0), (10, .padr 9003 0), (11, .padr 9500 0), (12, .padr 9503 0)], [(9000, .box [.lit (.bool true), .lit (.bool pet), .own 9001, .mown 9002, (.lit (.int .i64 ((r2).2.2 : Int)))]), (9001, .row 105 PT true (r2).1), (9002, .mat 80 91 NT true (r2).2.1 none), (9003, .box [.lit (.bool pet), .own 9004, .own 9005, (.lit (.int .i64 ((r2).2.2 : Int)))]), (9004, .row 111 WT true ((r2).1.map cv)), (9005, .row 80 (.sl NT) true (r2).2.1), (9500, .box [.lit (.bool true), .lit (.bool pet), .own 9501, .mown 9502, (.lit (.int .i64 ((r2).2.2 : Int)))]), (9501, .row 105 PT true (r2).1), (9502, .mat 80 91 NT true (r2).2.1 none), (9503, .box [.lit (.bool pet), .own 9504, .own 9505, (.lit (.int .i64 ((r2).2.2 : Int)))]), (9504, .row 111 WT true ((r2).1.map cv)), (9505, .row 80 (.sl NT) true (r2).2.1)]⟩) ?_ (W.regionM tys_ok [] [2,7] ?_); rotate_left; (conv => whnf))
 | (refine W.resub (x := Code.region 16 _ _) (Γ' := ⟨[(0, .st false (.arr (.int .u16) (x : List Int))), (1, .st false (.arr U3 acts)), (2, .st false (.arr U3 more))], []⟩) ?_ (W.regionX tys_ok [] [4,2002] ?_); rotate_left; (conv => whnf))
 | (refine W.regionM (id := 19) tys_ok [] [1,3] ?_; conv => whnf)
 | (refine W.region tys_ok [] ?_; conv => whnf)
 | (refine W.drawAll tys_ok [] mixed rfl ?_; conv => whnf)
 | (refine W.ret ?_; conv => whnf)
 | (refine W.skip ?_; conv => whnf)
 | (refine W.exit ?_; conv => whnf)
 | (refine call_at (al := false) (c0) rfl rfl rfl rfl ?_; conv => whnf)
 | (refine callM_at (c1) ?_; conv => whnf)
 | (refine callM_at (c2) ?_; conv => whnf)
 | (refine call_at (al := false) (c3) rfl rfl rfl rfl ?_; conv => whnf)
 | (refine callM_at (s1) ?_; clear s1; conv => whnf)
 | (refine callM_at (s2) ?_; clear s2; conv => whnf)
 | (refine callM_at (s3) ?_; conv => whnf)
 | (refine callM_at (q1) ?_; conv => whnf)
 | (refine callM_at (q2) ?_; conv => whnf)
 | (refine callM_at (g1) ?_; clear g1; conv => whnf)
 | (refine callM_at (g2) ?_; conv => whnf)
 | (refine callM_at (p1) ?_; conv => whnf)
 | (refine callM_at (p2) ?_; conv => whnf)
 | (refine callM_at (p3) ?_; conv => whnf)
 | (refine Both.mk ?_ ?_ <;> (conv => whnf))
 | (refine W.cond rfl (fun hb => ?_) (fun hb => ?_) <;> (try simp only [zr, zd, zm, minL, maxL, pickB, zA] at hb) <;> (try (first | (cases hb; done) | exact absurd hb (by decide) | (exfalso; omega) | (omega) | ((simp [pickB] at hb; done)))))
 | (refine Or.inl (And.intro ?_ ?_); exact zi; conv => whnf)
 | (refine Or.inr (And.intro ?_ ?_); exact zj; conv => whnf)
 | ((with_reducible refine And.intro ?_ ?_); exact zc; conv => whnf)
 | ((with_reducible refine And.intro (Side.out ?_) ?_); rotate_left; (conv => whnf))
 | ((first | refine retF1 ?_ | refine retF2 ?_ | refine subF.leaf ?_ | refine subF.side ?_) <;> (conv => whnf) <;> repeat' (first
 | exact trivial
 | (with_reducible rfl)
 | ((with_reducible refine And.intro ?_ ?_) <;> conv => whnf)
 | omega
 | rfl
 | (refine congrArg (SV.arr _) ?_)
 | (refine congrArg (Value.int _) ?_)
 | (refine congrArg Value.bool ?_)))); all_goals (try unfold Side)
 all_goals try refine subF.ok ?_ <;> (conv => whnf) <;> repeat' (first
 | exact trivial
 | (with_reducible rfl)
 | ((with_reducible refine And.intro ?_ ?_) <;> conv => whnf)
 | omega
 | rfl
 | (refine congrArg (SV.arr _) ?_)
 | (refine congrArg (Value.int _) ?_)
 | (refine congrArg Value.bool ?_))
 all_goals first | exact hpet.symm | exact hwr | skip
 all_goals try (repeat' (first | exact zb | with_reducible refine And.intro ?_ ?_))
 refine W.loop (fun p : Nat × Wk => ⟨[(2, .st false (.arr U3 more)), (13, .padr 6000 0), (14, .padr 6003 0), (15, .padr 7000 0), (16, .padr 7003 0), (17, (.lit (.int .i64 (p.1 : Int))))], [(6000, .box [.own 6001, .own 6002]), (6001, .row 96 HT true (w0).1), (6002, .row 50 LT true (w0).2), (6003, .box [.own 6004, .own 6005]), (6004, .row 93 HT true (w0).1), (6005, .row 50 LT true (w0).2), (7000, .box [.own 7001, .own 7002]), (7001, .row 96 HT true (p.2).1), (7002, .row 50 LT true (p.2).2), (7003, .box [.own 7004, .own 7005]), (7004, .row 93 HT true (p.2).1), (7005, .row 50 LT true (p.2).2)]⟩) (fun p => p.1 ≤ more.length ∧ WOk s p.2 ∧ p.1 ≤ 30) (fun p => more.length - p.1) ((0, w0)) ?_ ?_
 · refine ⟨⟨Nat.zero_le _, hw0, Nat.zero_le _⟩, ?_⟩
   refine subF.ok ?_ <;> (conv => whnf) <;> repeat' (first
 | exact trivial
 | (with_reducible rfl)
 | ((with_reducible refine And.intro ?_ ?_) <;> conv => whnf)
 | omega
 | rfl
 | (refine congrArg (SV.arr _) ?_)
 | (refine congrArg (Value.int _) ?_)
 | (refine congrArg Value.bool ?_))
 · rintro ⟨i, q⟩ ⟨hi, hq, hi3⟩
   dsimp only at hi hq hi3 ⊢
   have hql := hq.len
   have hqf := hq.fl
   by_cases hil : i < more.length ∧ i < 30
   · obtain ⟨hia, hi2⟩ := hil
     obtain ⟨y, hy⟩ : ∃ y : Int, y = (more.getD i U3.dflt).2.1 := ⟨_, rfl⟩
     obtain ⟨z, hz⟩ : ∃ z : Int, z = (more.getD i U3.dflt).2.2.1 := ⟨_, rfl⟩
     have hai : (0 ≤ y ∧ y ≤ 255) ∧ 0 ≤ z ∧ z ≤ 255 := by have q := hm i; rw [hy, hz]; exact ⟨q.2.1, q.2.2⟩
     have ia : 0 ≤ (i : Int) ∧ i < more.length := ⟨by omega, hia⟩
     have hin1 : InK .i64 (more.getD i U3.dflt).2.1 := by rw [← hy]; exact ⟨by omega, by omega⟩
     have hin2 : InK .i64 (more.getD i U3.dflt).2.2.1 := by rw [← hz]; exact ⟨by omega, by omega⟩
     have hm0 : ((@List.length HT.T w0.1 : Nat) : Int) ≠ 0 := by show (w0.1.length : Int) ≠ 0; omega
     obtain ⟨b, hb0⟩ : ∃ b : Int, b = ((more.getD i U3.dflt).2.1).tmod (@List.length HT.T w0.1 : Int) := ⟨_, rfl⟩
     obtain ⟨k, hk0⟩ : ∃ k : Int, k = ((more.getD i U3.dflt).2.2.1).tmod 4 := ⟨_, rfl⟩
     obtain ⟨q1, hq1⟩ : ∃ q1, q1 = sendK 0 b q := ⟨_, rfl⟩
     obtain ⟨q2, hq2⟩ : ∃ q2, q2 = delK k q1 := ⟨_, rfl⟩
     have hk1 : WOk s q1 := by rw [hq1]; exact hq.send
     have hk2 : WOk s q2 := by rw [hq2]; exact hk1.del
     have d1 := send_at (a := 0) (b := b) hq rfl hq1.symm
     have d2 := rsend_at (a := 0) (b := b) hq rfl hq1.symm
     have d3 := deliver_at (k := k) hk1 rfl hq2.symm
     have d4 := rdeliver_all (k := k) hk1 rfl hq2.symm
     repeat' (first
 | refine W.seq ?_
 | refine W.block ?_
 | (refine W.drawMTo (id := 25) tys_ok [] [13] mixed [0, 0, 0, 6, 8, 16, 32, 0, 128, 256, 512, 1024, 2112, 4097] [([0, 1, 2, 3, 4, 5, 6, 7, 8, 9], 1, 2047), ([], 1, 4095), ([12], 1, 16383)] ⟨[(2, .st false (.arr U3 more)), (13, .padr 6000 0), (14, .padr 6003 0), (15, .padr 7000 0), (16, .padr 7003 0), (17, (.lit (.int .i64 (i : Int))))], [(6000, .box [.own 6001, .own 6002]), (6001, .row 96 HT true (w0).1), (6002, .row 50 LT true (w0).2), (6003, .box [.own 6004, .own 6005]), (6004, .row 93 HT true (w0).1), (6005, .row 50 LT true (w0).2), (7000, .box [.own 7001, .own 7002]), (7001, .row 96 HT true q1.1), (7002, .row 50 LT true q1.2), (7003, .box [.own 7004, .own 7005]), (7004, .row 93 HT true q.1), (7005, .row 50 LT true q.2)]⟩ (by decide +kernel) ?_ ?_ <;> (conv => whnf))
 | (refine W.drawMTo (id := 26) tys_ok [] [13] mixed [0, 0, 0, 6, 8, 16, 32, 0, 128, 256, 512, 1024, 2112, 4097] [([0, 1, 2, 3, 4, 5, 6, 7, 8, 9], 1, 2047), ([], 1, 4095), ([12], 1, 16383)] ⟨[(2, .st false (.arr U3 more)), (13, .padr 6000 0), (14, .padr 6003 0), (15, .padr 7000 0), (16, .padr 7003 0), (17, (.lit (.int .i64 (i : Int))))], [(6000, .box [.own 6001, .own 6002]), (6001, .row 96 HT true (w0).1), (6002, .row 50 LT true (w0).2), (6003, .box [.own 6004, .own 6005]), (6004, .row 93 HT true (w0).1), (6005, .row 50 LT true (w0).2), (7000, .box [.own 7001, .own 7002]), (7001, .row 96 HT true (q1).1), (7002, .row 50 LT true (q1).2), (7003, .box [.own 7004, .own 7005]), (7004, .row 93 HT true (q1).1), (7005, .row 50 LT true (q1).2)]⟩ (by decide +kernel) ?_ ?_ <;> (conv => whnf))
 | (refine W.regionM (id := 27) tys_ok [] [8] ?_; conv => whnf)
 | (refine W.regionM (id := 28) tys_ok [] [8] ?_; conv => whnf)
 | (refine W.region tys_ok [] ?_; conv => whnf)
 | (refine W.drawAll tys_ok [] mixed rfl ?_; conv => whnf)
 | (refine W.ret ?_; conv => whnf)
 | (refine W.skip ?_; conv => whnf)
 | (refine W.exit ?_; conv => whnf)
 | (refine callM_at (d1) ?_; conv => whnf)
 | (refine callM_at (d2) ?_; conv => whnf)
 | (refine callM_at (d3) ?_; conv => whnf)
 | (refine callM_at (d4) ?_; conv => whnf)
 | (refine Both.mk ?_ ?_ <;> (conv => whnf))
 | (refine W.cond rfl (fun hb => ?_) (fun hb => ?_) <;> (try simp only [zr, zd, zm, minL, maxL, pickB, zA] at hb) <;> (try (first | (cases hb; done) | exact absurd hb (by decide) | (exfalso; omega) | (omega))))
 | (refine Or.inl (And.intro trivial ?_); (conv => whnf))
 | ((with_reducible refine And.intro ?_ ?_); exact zc; conv => whnf)
 | ((with_reducible refine And.intro (Side.out ?_) ?_); rotate_left; (conv => whnf))
 | ((first | refine retF1 ?_ | refine retF2 ?_ | refine subF.leaf ?_ | refine subF.side ?_) <;> (conv => whnf) <;> repeat' (first
 | exact trivial
 | (with_reducible rfl)
 | ((with_reducible refine And.intro ?_ ?_) <;> conv => whnf)
 | omega
 | rfl
 | (refine congrArg (SV.arr _) ?_)
 | (refine congrArg (Value.int _) ?_)
 | (refine congrArg Value.bool ?_)))); all_goals (try unfold Side)
     all_goals first | exact Path.imp_of hin1 | exact Path.imp_of hin2 | exact Path.imp_of hm0 | exact Path.imp_of ia | exact Path.imp_of ia.2 | exact ia.2 | skip
     all_goals try (repeat' (first | exact zb | with_reducible refine And.intro ?_ ?_))
     all_goals
      refine ⟨(i + 1, q2), ⟨⟨by dsimp only; omega, hk2, by dsimp only; omega⟩, by dsimp only; omega⟩, ?_⟩
      refine subF.ok ?_ <;> (conv => whnf) <;> repeat' (first
 | exact trivial
 | (with_reducible rfl)
 | ((with_reducible refine And.intro ?_ ?_) <;> conv => whnf)
 | omega
 | rfl
 | (refine congrArg (SV.arr _) ?_)
 | (refine congrArg (Value.int _) ?_)
 | (refine congrArg Value.bool ?_))
   · have g3 := works_at (hs := w0.1) (fl := w0.2) (by omega) (by omega) (by omega)
     have g4 := works_at (hs := q.1) (fl := q.2) (by omega) (by omega) (by omega)
     repeat' (first
 | refine W.seq ?_
 | refine W.block ?_
 | (refine W.regionM (id := 29) tys_ok [] [2,6] ?_; conv => whnf)
 | (refine W.region tys_ok [] ?_; conv => whnf)
 | (refine W.drawAll tys_ok [] mixed rfl ?_; conv => whnf)
 | (refine W.ret ?_; conv => whnf)
 | (refine W.skip ?_; conv => whnf)
 | (refine W.exit ?_; conv => whnf)
 | (refine callM_at (g3) ?_; clear g3; conv => whnf)
 | (refine callM_at (g4) ?_; conv => whnf)
 | (refine W.cond rfl (fun hb => ?_) (fun hb => ?_) <;> (try simp only [zr, zd, zm, minL, maxL, pickB, zA] at hb) <;> (try (first | (cases hb; done) | exact absurd hb (by decide) | (exfalso; omega) | (omega) | ((simp [pickB] at hb; omega)))))
 | (refine Or.inl (And.intro ?_ ?_); exact zi; conv => whnf)
 | (refine Or.inr (And.intro ?_ ?_); exact zj; conv => whnf)
 | ((with_reducible refine And.intro ?_ ?_); exact zc; conv => whnf)
 | ((with_reducible refine And.intro (Side.out ?_) ?_); rotate_left; (conv => whnf))
 | ((first | refine retF1 ?_ | refine retF2 ?_) <;> (conv => whnf) <;> repeat' (first
 | exact trivial
 | (with_reducible rfl)
 | ((with_reducible refine And.intro ?_ ?_) <;> conv => whnf)
 | omega
 | rfl
 | (refine congrArg (SV.arr _) ?_)
 | (refine congrArg (Value.int _) ?_)
 | (refine congrArg Value.bool ?_)))); all_goals (try unfold Side)
     all_goals try (repeat' (first | exact zb | with_reducible refine And.intro ?_ ?_))
end Go.Proofs.Ytkjcnegkdlmapaa
