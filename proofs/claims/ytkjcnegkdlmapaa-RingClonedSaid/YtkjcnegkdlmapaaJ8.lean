/- Joined of: R9 R10 K4 K5 K6. No condition. -/
import Derived.Test.YtkjcnegkdlmapaaJ7
import Derived.Test.YtkjcnegkdlmapaaJ6
import Derived.Test.YtkjcnegkdlmapaaJ5
set_option linter.unusedVariables false
set_option linter.unusedSimpArgs false
namespace Go.Proofs.Ytkjcnegkdlmapaa
open Int renaming reduceToNat → zr, reduceTDiv → zd, reduceTMod → zm
open Go Go.Vc Go.Rg
variable {n : Nat} {pet : Bool} {r : Rn}
theorem rflight_out {i : Int} (h : hasB r.1.length i = false) : FnM Try.prog 46 [.padr 1000000000 0, (.lit (.int .i64 (i : Int)))] [(1000000000, .box [.lit (.bool true), .lit (.bool pet), .own 1000000001, .mown 1000000002, (.lit (.int .i64 ((r).2.2 : Int)))]), (1000000001, .row 105 PT true (r).1), (1000000002, .mat 80 91 NT true (r).2.1 none)] (.lit (.slice none 0 0)) [(1000000000, .box [.lit (.bool true), .lit (.bool pet), .own 1000000001, .mown 1000000002, (.lit (.int .i64 ((r).2.2 : Int)))]), (1000000001, .row 105 PT true (r).1), (1000000002, .mat 80 91 NT true (r).2.1 none)] := by
 have c1 := ris_at (pet := pet) (r := r)
 have c2 := rhas_at (pet := pet) (r := r) h.symm
 refine FnM.of_body tys_ok Try.func46 (by rfl) rfl Try.ntmps46 (by rw [Try.results46]) (by simp) ?_
 repeat' (first
 | refine W.seq ?_
 | refine W.block ?_
 | (refine W.regionM (id := 1) tys_ok [] [1,6] ?_; conv => whnf)
 | (refine W.region tys_ok [] ?_; conv => whnf)
 | (refine W.drawAll tys_ok [] mixed rfl ?_; conv => whnf)
 | (refine W.ret ?_; conv => whnf)
 | (refine W.skip ?_; conv => whnf)
 | (refine W.exit ?_; conv => whnf)
 | (refine callM_at (c1) ?_; conv => whnf)
 | (refine callM_at (c2) ?_; conv => whnf)
 | (refine W.cond rfl (fun hb => ?_) (fun hb => ?_) <;> (try simp only [zr, zd, zm, minL, maxL, pickB, zA] at hb) <;> (try (first | (cases hb; done) | exact absurd hb (by decide) | (exfalso; omega) | (omega) | ((simp_all; done)))))
 | (refine Or.inl (And.intro ?_ ?_); exact zi; conv => whnf)
 | (refine Or.inr (And.intro ?_ ?_); exact zj; conv => whnf)
 | ((with_reducible refine And.intro ?_ ?_); exact zc; conv => whnf)
 | ((with_reducible refine And.intro (Side.out ?_) ?_); rotate_left; (conv => whnf))
 | ((first | refine retM1 ?_ | refine retM2 ?_) <;> (conv => whnf) <;> repeat' (first
 | exact trivial
 | (with_reducible rfl)
 | ((with_reducible refine And.intro ?_ ?_) <;> conv => whnf)
 | omega
 | rfl
 | (refine congrArg (SV.arr _) ?_)
 | (refine congrArg (Value.int _) ?_)
 | (refine congrArg Value.bool ?_)))); all_goals (try unfold Side)
 all_goals try (repeat' (first | exact zb | with_reducible refine And.intro ?_ ?_))
theorem rflight_in {i : Nat} {l : List Nt} (h : ROk n pet r) (hi : i < n) (hs : r.2.2 ≤ 1000000) (hl0 : l = r.2.1.getD i []) : FnM Try.prog 46 [.padr 1000000000 0, (.lit (.int .i64 (i : Int)))] [(1000000000, .box [.lit (.bool true), .lit (.bool pet), .own 1000000001, .mown 1000000002, (.lit (.int .i64 ((r).2.2 : Int)))]), (1000000001, .row 105 PT true (r).1), (1000000002, .mat 80 91 NT true (r).2.1 none)] (.own 0) [(1000000000, .box [.lit (.bool true), .lit (.bool pet), .own 1000000001, .mown 1000000002, (.lit (.int .i64 ((r).2.2 : Int)))]), (1000000001, .row 105 PT true (r).1), (1000000002, .mat 80 91 NT true (r).2.1 none), (0, .row 91 NT true l)] := by
 have hp : i < r.1.length := by rw [h.len]; exact hi
 have hF : i < r.2.1.length := by rw [h.fln]; exact hi
 have c1 := ris_at (pet := pet) (r := r)
 have c2 := rhas_at (pet := pet) (r := r) (has_of hp).symm
 have c3 := clone_note (xs := l) (by rw [hl0]; have := h.fl i; show (r.2.1.getD i []).length ≤ _; omega)
 have e0 : 0 ≤ (i : Int) ∧ i < r.2.1.length := ⟨by omega, hF⟩
 rw [hl0] at c3 ⊢
 refine FnM.of_body tys_ok Try.func46 (by rfl) rfl Try.ntmps46 (by rw [Try.results46]) (by simp) ?_
 repeat' (first
 | refine W.seq ?_
 | refine W.block ?_
 | (refine W.regionM (id := 1) tys_ok [] [1,6] ?_; conv => whnf)
 | (refine W.region tys_ok [] ?_; conv => whnf)
 | (refine W.drawAll tys_ok [] mixed rfl ?_; conv => whnf)
 | (refine W.ret ?_; conv => whnf)
 | (refine W.skip ?_; conv => whnf)
 | (refine W.exit ?_; conv => whnf)
 | (refine callM_at (c1) ?_; conv => whnf)
 | (refine callM_at (c2) ?_; conv => whnf)
 | (refine call_at (al := false) (c3) rfl rfl rfl rfl ?_; conv => whnf)
 | (refine W.cond rfl (fun hb => ?_) (fun hb => ?_) <;> (try simp only [zr, zd, zm, minL, maxL, pickB, zA] at hb) <;> (try (first | (cases hb; done) | exact absurd hb (by decide) | (exfalso; omega) | (omega) | ((simp_all; done)))))
 | (refine Or.inl (And.intro ?_ ?_); exact zi; conv => whnf)
 | (refine Or.inr (And.intro ?_ ?_); exact zj; conv => whnf)
 | ((with_reducible refine And.intro ?_ ?_); exact zc; conv => whnf)
 | ((with_reducible refine And.intro (Side.out ?_) ?_); rotate_left; (conv => whnf))
 | ((first | refine retM1 ?_ | refine retM2 ?_) <;> (conv => whnf) <;> repeat' (first
 | exact trivial
 | (with_reducible rfl)
 | ((with_reducible refine And.intro ?_ ?_) <;> conv => whnf)
 | omega
 | rfl
 | (refine congrArg (SV.arr _) ?_)
 | (refine congrArg (Value.int _) ?_)
 | (refine congrArg Value.bool ?_)))); all_goals (try unfold Side)
 all_goals try (repeat' (first | exact zb | with_reducible refine And.intro ?_ ?_))
 all_goals first | exact Path.imp_of e0 | exact Path.imp_of hF | exact hF | skip
theorem cmpN_same (x : Nt) : (!(decide (x.1 = x.1) && (decide (x.2.1 = x.2.1) && true))) = false := by simp
theorem cv_leader {ps : List Pe} {i : Nat} (hi : i < ps.length) : ((ps.map cv).getD i W0).2.2.2.1 = pL ps i := by
 have e1 : (ps.map cv).getD i W0 = cv (ps.getD i P0) := by
  rw [List.getD_eq_getElem?_getD, List.getElem?_map, List.getElem?_eq_getElem hi, List.getD_eq_getElem?_getD, List.getElem?_eq_getElem hi]; rfl
 rw [e1]; rfl
set_option maxHeartbeats 16000000 in
theorem rings_at (h : ROk n pet r) (hs : r.2.2 ≤ 1000000) : FnM Try.prog 35 [.padr 1000000000 0, .padr 1000000003 0] [(1000000000, .box [.lit (.bool true), .lit (.bool pet), .own 1000000001, .mown 1000000002, (.lit (.int .i64 ((r).2.2 : Int)))]), (1000000001, .row 105 PT true (r).1), (1000000002, .mat 80 91 NT true (r).2.1 none), (1000000003, .box [.lit (.bool pet), .own 1000000004, .own 1000000005, (.lit (.int .i64 ((r).2.2 : Int)))]), (1000000004, .row 111 WT true ((r).1.map cv)), (1000000005, .row 80 (.sl NT) true (r).2.1)] (.lit (.bool true)) [(1000000000, .box [.lit (.bool true), .lit (.bool pet), .own 1000000001, .mown 1000000002, (.lit (.int .i64 ((r).2.2 : Int)))]), (1000000001, .row 105 PT true (r).1), (1000000002, .mat 80 91 NT true (r).2.1 none), (1000000003, .box [.lit (.bool pet), .own 1000000004, .own 1000000005, (.lit (.int .i64 ((r).2.2 : Int)))]), (1000000004, .row 111 WT true ((r).1.map cv)), (1000000005, .row 80 (.sl NT) true (r).2.1)] := by
 have hl := h.len
 have hlf := h.fln
 have h0 := h.n0
 have h1 := h.n1
 have hlw : @List.length WT.T (r.1.map cv) = n := by show (r.1.map cv).length = n; rw [List.length_map]; exact hl
 have hlF : @List.length (List NT.T) r.2.1 = n := hlf
 have c9 := sent_at (pet := pet) (r := r)
 refine FnM.of_body tys_ok Try.func35 (by rfl) rfl Try.ntmps35 (by rw [Try.results35]) (by simp) ?_
 repeat' (first
 | refine W.seq ?_
 | refine W.block ?_
 | (refine W.region tys_ok [] ?_; conv => whnf)
 | (refine W.drawAll tys_ok [] mixed rfl ?_; conv => whnf)
 | (refine W.ret ?_; conv => whnf)
 | (refine W.skip ?_; conv => whnf)
 | (refine W.exit ?_; conv => whnf)
 | (refine W.cond rfl (fun hb => ?_) (fun hb => ?_) <;> (try simp only [zr, zd, zm, minL, maxL, pickB, zA] at hb) <;> (try (first | (cases hb; done) | exact absurd hb (by decide) | (exfalso; omega) | (omega))))
 | ((with_reducible refine And.intro ?_ ?_); exact zc; conv => whnf)
 | ((with_reducible refine And.intro (Side.out ?_) ?_); rotate_left; (conv => whnf))
 | ((first | refine retM1 ?_ | refine retM2 ?_) <;> (conv => whnf) <;> repeat' (first
 | exact trivial
 | (with_reducible rfl)
 | ((with_reducible refine And.intro ?_ ?_) <;> conv => whnf)
 | omega
 | rfl
 | (refine congrArg (SV.arr _) ?_)
 | (refine congrArg (Value.int _) ?_)
 | (refine congrArg Value.bool ?_)))); all_goals (try unfold Side)
 all_goals try (repeat' (first | exact zb | with_reducible refine And.intro ?_ ?_))
 refine W.loop (fun i : Int => ⟨[(0, .padr 1000000000 0), (1, .padr 1000000003 0), (5, (.lit (.int .i64 (i : Int))))], [(1000000000, .box [.lit (.bool true), .lit (.bool pet), .own 1000000001, .mown 1000000002, (.lit (.int .i64 ((r).2.2 : Int)))]), (1000000001, .row 105 PT true (r).1), (1000000002, .mat 80 91 NT true (r).2.1 none), (1000000003, .box [.lit (.bool pet), .own 1000000004, .own 1000000005, (.lit (.int .i64 ((r).2.2 : Int)))]), (1000000004, .row 111 WT true ((r).1.map cv)), (1000000005, .row 80 (.sl NT) true (r).2.1)]⟩) (fun i => -1 ≤ i ∧ i ≤ n + 1) (fun i => (n + 1 - i).toNat) (-1) ?_ ?_
 · refine ⟨⟨by omega, by omega⟩, ?_⟩
   refine subF.ok ?_ <;> (conv => whnf) <;> repeat' (first
 | exact trivial
 | (with_reducible rfl)
 | ((with_reducible refine And.intro ?_ ?_) <;> conv => whnf)
 | omega
 | rfl
 | (refine congrArg (SV.arr _) ?_)
 | (refine congrArg (Value.int _) ?_)
 | (refine congrArg Value.bool ?_))
 · rintro i ⟨hi1, hi2⟩
   by_cases hin : i ≤ n
   · by_cases hio : i < 0 ∨ i = n
     · have hho : hasB r.1.length i = false := has_no (by omega)
       have d1 := rflight_out (pet := pet) hho
       have d2 := leader_out (pet := pet) hho
       repeat' (first
 | refine W.seq ?_
 | refine W.block ?_
 | (refine W.regionM (id := 4) tys_ok [] [2] ?_; conv => whnf)
 | (refine W.regionM (id := 6) tys_ok [] [6] ?_; conv => whnf)
 | (refine W.region tys_ok [] ?_; conv => whnf)
 | (refine W.drawAll tys_ok [] mixed rfl ?_; conv => whnf)
 | (refine W.ret ?_; conv => whnf)
 | (refine W.skip ?_; conv => whnf)
 | (refine W.exit ?_; conv => whnf)
 | (refine callM_at (d1) ?_; conv => whnf)
 | (refine callM_at (d2) ?_; conv => whnf)
 | (refine W.cond rfl (fun hb => ?_) (fun hb => ?_) <;> (try simp only [zr, zd, zm, minL, maxL, pickB, zA] at hb) <;> (try (first | (cases hb; done) | exact absurd hb (by decide) | (exfalso; omega) | (omega) | ((simp [pickB] at hb; omega)))))
 | (refine Or.inl (And.intro ?_ ?_); exact zi; conv => whnf)
 | (refine Or.inr (And.intro ?_ ?_); exact zj; conv => whnf)
 | ((with_reducible refine And.intro ?_ ?_); exact zc; conv => whnf)
 | ((with_reducible refine And.intro (Side.out ?_) ?_); rotate_left; (conv => whnf))
 | ((first | refine retM1 ?_ | refine retM2 ?_) <;> (conv => whnf) <;> repeat' (first
 | exact trivial
 | (with_reducible rfl)
 | ((with_reducible refine And.intro ?_ ?_) <;> conv => whnf)
 | omega
 | rfl
 | (refine congrArg (SV.arr _) ?_)
 | (refine congrArg (Value.int _) ?_)
 | (refine congrArg Value.bool ?_)))); all_goals (try unfold Side)
       all_goals try (repeat' (first | exact zb | with_reducible refine And.intro ?_ ?_))
       refine ⟨i + 1, ⟨by omega, by omega⟩, ?_⟩
       refine subF.ok ?_ <;> (conv => whnf) <;> repeat' (first
 | exact trivial
 | (with_reducible rfl)
 | ((with_reducible refine And.intro ?_ ?_) <;> conv => whnf)
 | omega
 | rfl
 | (refine congrArg (SV.arr _) ?_)
 | (refine congrArg (Value.int _) ?_)
 | (refine congrArg Value.bool ?_))
     · obtain ⟨a, rfl⟩ : ∃ a : Nat, i = a := ⟨i.toNat, by omega⟩
       have han : a < n := by omega
       obtain ⟨l, hl0⟩ : ∃ l, l = r.2.1.getD a [] := ⟨_, rfl⟩
       have hlb : (l.length : Int) ≤ 1000000 := by have := h.fl a; rw [hl0]; omega
       have d1 := rflight_in h han hs hl0
       have d2 := leader_in (pet := pet) (r := r) (i := a) (by omega)
       have hll : @List.length NT.T l = l.length := rfl
       have el : @List.getD (List NT.T) r.2.1 a [] = l := hl0.symm
       have ell : @List.length NT.T (@List.getD (List NT.T) r.2.1 a []) = l.length := by rw [el]; rfl
       have ea : 0 ≤ (a : Int) ∧ a < r.2.1.length := ⟨by omega, by omega⟩
       have ew : 0 ≤ (a : Int) ∧ a < (r.1.map cv).length := ⟨by omega, by rw [List.length_map]; omega⟩
       have elw := cv_leader (ps := r.1) (i := a) (by omega)
       have hpk : (!decide ((l.length : Int) = ((@List.length NT.T (@List.getD (List NT.T) r.2.1 a []) : Nat) : Int))) = false := by rw [ell]; simp
       have epk : pickB (!decide ((l.length : Int) = ((@List.length NT.T (@List.getD (List NT.T) r.2.1 a []) : Nat) : Int))) (Operand.const (Value.bool true)) (Operand.tmp 63) true (!decide (pL r.1 a = ((r.1.map cv).getD a W0).2.2.2.1)) = false := by rw [ell, elw]; simp [pickB]
       repeat' (first
 | refine W.seq ?_
 | refine W.block ?_
 | (refine W.regionM (id := 4) tys_ok [] [2] ?_; conv => whnf)
 | (refine W.resub (x := Code.region 8 _ _) (Γ' := ⟨[(0, .padr 1000000000 0), (1, .padr 1000000003 0), (5, (.lit (.int .i64 (a : Int)))), (6, .own 8000)], [(1000000000, .box [.lit (.bool true), .lit (.bool pet), .own 1000000001, .mown 1000000002, (.lit (.int .i64 ((r).2.2 : Int)))]), (1000000001, .row 105 PT true (r).1), (1000000002, .mat 80 91 NT true (r).2.1 none), (1000000003, .box [.lit (.bool pet), .own 1000000004, .own 1000000005, (.lit (.int .i64 ((r).2.2 : Int)))]), (1000000004, .row 111 WT true ((r).1.map cv)), (1000000005, .row 80 (.sl NT) true (r).2.1), (8000, .row 91 NT true l)]⟩) ?_ ?_; rotate_left; refine W.drawMTo (id := 8) tys_ok [] [14] mixed [0, 1, 0, 4, 8, 16, 0, 96, 128, 256, 514, 1024, 2048, 2048, 14336, 2048, 34816, 67584, 133120, 2048, 788480, 1050624, 2099200, 4212736, 8390656] [([0, 2, 3, 4, 6], 5, 1023), ([10, 11, 12, 13, 15, 16, 17, 19], 5, 8388607), ([23, 24], 0, 33554431)] ⟨[(0, .padr 1000000000 0), (1, .padr 1000000003 0), (5, (.lit (.int .i64 (a : Int)))), (6, .own 8000), (64, .lit (.bool false))], [(1000000000, .box [.lit (.bool true), .lit (.bool pet), .own 1000000001, .mown 1000000002, (.lit (.int .i64 ((r).2.2 : Int)))]), (1000000001, .row 105 PT true (r).1), (1000000002, .mat 80 91 NT true (r).2.1 none), (1000000003, .box [.lit (.bool pet), .own 1000000004, .own 1000000005, (.lit (.int .i64 ((r).2.2 : Int)))]), (1000000004, .row 111 WT true ((r).1.map cv)), (1000000005, .row 80 (.sl NT) true (r).2.1), (8000, .row 91 NT true l)]⟩ (by decide +kernel) ?_ ?_; (conv => whnf); rotate_left; (conv => whnf))
 | (refine W.region tys_ok [] ?_; conv => whnf)
 | (refine W.drawAll tys_ok [] mixed rfl ?_; conv => whnf)
 | (refine W.ret ?_; conv => whnf)
 | (refine W.skip ?_; conv => whnf)
 | (refine W.exit ?_; conv => whnf)
 | (refine callM_at (d1) ?_; conv => whnf)
 | (refine callM_at (d2) ?_; conv => whnf)
 | (refine Or.inl (And.intro ⟨hpk, trivial⟩ ?_); (conv => whnf))
 | (refine Both.mk ?_ ?_ <;> (conv => whnf))
 | (refine W.cond rfl (fun hb => ?_) (fun hb => ?_) <;> (try simp only [zr, zd, zm, minL, maxL, pickB, zA] at hb) <;> (try (first | (cases hb; done) | exact absurd hb (by decide) | (exfalso; omega) | (omega) | ((simp [pickB] at hb; omega)))))
 | (refine Or.inl (And.intro ?_ ?_); exact zi; conv => whnf)
 | (refine Or.inr (And.intro ?_ ?_); exact zj; conv => whnf)
 | ((with_reducible refine And.intro ?_ ?_); exact zc; conv => whnf)
 | ((with_reducible refine And.intro (Side.out ?_) ?_); rotate_left; (conv => whnf))
 | ((first | refine retM1 ?_ | refine retM2 ?_ | refine subF.leaf ?_ | refine subF.side ?_) <;> (conv => whnf) <;> repeat' (first
 | exact trivial
 | (with_reducible rfl)
 | ((with_reducible refine And.intro ?_ ?_) <;> conv => whnf)
 | omega
 | rfl
 | (refine congrArg (SV.arr _) ?_)
 | (refine congrArg (Value.int _) ?_)
 | (refine congrArg Value.bool ?_)))); all_goals (try unfold Side)
       all_goals try (repeat' (first | exact zb | with_reducible refine And.intro ?_ ?_))
       all_goals try refine subF.ok ?_ <;> (conv => whnf) <;> repeat' (first
 | exact trivial
 | (with_reducible rfl)
 | ((with_reducible refine And.intro ?_ ?_) <;> conv => whnf)
 | omega
 | rfl
 | (refine congrArg (SV.arr _) ?_)
 | (refine congrArg (Value.int _) ?_)
 | (refine congrArg Value.bool ?_))
       all_goals first | exact Path.imp_of ea | exact Path.imp_of ea.2 | exact ea.2 | exact Path.imp_of ew | exact Path.imp_of ew.2 | exact elw | exact epk | skip
       refine W.loop (fun k : Nat => ⟨[(0, .padr 1000000000 0), (1, .padr 1000000003 0), (5, (.lit (.int .i64 (a : Int)))), (6, .own 8000), (7, (.lit (.int .i64 (k : Int))))], [(1000000000, .box [.lit (.bool true), .lit (.bool pet), .own 1000000001, .mown 1000000002, (.lit (.int .i64 ((r).2.2 : Int)))]), (1000000001, .row 105 PT true (r).1), (1000000002, .mat 80 91 NT true (r).2.1 none), (1000000003, .box [.lit (.bool pet), .own 1000000004, .own 1000000005, (.lit (.int .i64 ((r).2.2 : Int)))]), (1000000004, .row 111 WT true ((r).1.map cv)), (1000000005, .row 80 (.sl NT) true (r).2.1), (8000, .row 91 NT true l)]⟩) (fun k => k ≤ l.length) (fun k => l.length - k) (0) ?_ ?_
       · refine ⟨Nat.zero_le _, ?_⟩
         refine subF.ok ?_ <;> (conv => whnf) <;> repeat' (first
 | exact trivial
 | (with_reducible rfl)
 | ((with_reducible refine And.intro ?_ ?_) <;> conv => whnf)
 | omega
 | rfl
 | (refine congrArg (SV.arr _) ?_)
 | (refine congrArg (Value.int _) ?_)
 | (refine congrArg Value.bool ?_))
       · intro k hk
         by_cases hkl : k < l.length
         · have ek : (!(decide ((l.getD k N0).1 = (@List.getD Nt (@List.getD (List NT.T) r.2.1 a []) k N0).1) && (decide ((l.getD k N0).2.1 = (@List.getD Nt (@List.getD (List NT.T) r.2.1 a []) k N0).2.1) && true))) = false := by rw [el]; exact cmpN_same _
           have ekl : 0 ≤ (k : Int) ∧ k < @List.length NT.T (@List.getD (List NT.T) r.2.1 a []) := by rw [el]; exact ⟨by omega, hkl⟩
           repeat' (first
 | refine W.seq ?_
 | refine W.block ?_
 | (refine W.resub (x := Code.region 13 _ _) (Γ' := ⟨[(0, .padr 1000000000 0), (1, .padr 1000000003 0), (5, (.lit (.int .i64 (a : Int)))), (6, .own 8000), (7, (.lit (.int .i64 (k : Int))))], [(1000000000, .box [.lit (.bool true), .lit (.bool pet), .own 1000000001, .mown 1000000002, (.lit (.int .i64 ((r).2.2 : Int)))]), (1000000001, .row 105 PT true (r).1), (1000000002, .mat 80 91 NT true (r).2.1 none), (1000000003, .box [.lit (.bool pet), .own 1000000004, .own 1000000005, (.lit (.int .i64 ((r).2.2 : Int)))]), (1000000004, .row 111 WT true ((r).1.map cv)), (1000000005, .row 80 (.sl NT) true (r).2.1), (8000, .row 91 NT true l)]⟩) ?_ ?_; rotate_left; refine W.drawPhTo (id := 13) tys_ok [] mixed [0, 0, 3, 4, 0, 16, 32, 64, 0, 384, 512, 0, 3072, 4096, 8200] [([0, 1, 2, 4, 5, 6, 8, 11], 6, 16383), ([14], 0, 32767)] ⟨[(0, .padr 1000000000 0), (1, .padr 1000000003 0), (5, (.lit (.int .i64 (a : Int)))), (6, .own 8000), (7, (.lit (.int .i64 (k : Int)))), (85, .lit (.bool false))], [(1000000000, .box [.lit (.bool true), .lit (.bool pet), .own 1000000001, .mown 1000000002, (.lit (.int .i64 ((r).2.2 : Int)))]), (1000000001, .row 105 PT true (r).1), (1000000002, .mat 80 91 NT true (r).2.1 none), (1000000003, .box [.lit (.bool pet), .own 1000000004, .own 1000000005, (.lit (.int .i64 ((r).2.2 : Int)))]), (1000000004, .row 111 WT true ((r).1.map cv)), (1000000005, .row 80 (.sl NT) true (r).2.1), (8000, .row 91 NT true l)]⟩ (by decide +kernel) ?_ ?_; (conv => whnf); rotate_left; (conv => whnf))
 | (refine W.region tys_ok [] ?_; conv => whnf)
 | (refine W.drawAll tys_ok [] mixed rfl ?_; conv => whnf)
 | (refine W.ret ?_; conv => whnf)
 | (refine W.skip ?_; conv => whnf)
 | (refine W.exit ?_; conv => whnf)
 | (refine Both.mk ?_ ?_ <;> (conv => whnf))
 | (refine W.cond rfl (fun hb => ?_) (fun hb => ?_) <;> (try simp only [zr, zd, zm, minL, maxL, pickB, zA] at hb) <;> (try (first | (cases hb; done) | exact absurd hb (by decide) | (exfalso; omega) | (omega) | ((simp at hb; done)))))
 | ((with_reducible refine And.intro ?_ ?_); exact zc; conv => whnf)
 | ((with_reducible refine And.intro (Side.out ?_) ?_); rotate_left; (conv => whnf))
 | ((first | refine retM1 ?_ | refine retM2 ?_ | refine subF.leaf ?_ | refine subF.side ?_) <;> (conv => whnf) <;> repeat' (first
 | exact trivial
 | (with_reducible rfl)
 | ((with_reducible refine And.intro ?_ ?_) <;> conv => whnf)
 | omega
 | rfl
 | (refine congrArg (SV.arr _) ?_)
 | (refine congrArg (Value.int _) ?_)
 | (refine congrArg Value.bool ?_)))); all_goals (try unfold Side)
           all_goals try (repeat' (first | exact zb | with_reducible refine And.intro ?_ ?_))
           all_goals try refine subF.ok ?_ <;> (conv => whnf) <;> repeat' (first
 | exact trivial
 | (with_reducible rfl)
 | ((with_reducible refine And.intro ?_ ?_) <;> conv => whnf)
 | omega
 | rfl
 | (refine congrArg (SV.arr _) ?_)
 | (refine congrArg (Value.int _) ?_)
 | (refine congrArg Value.bool ?_))
           all_goals first | exact ek | exact Path.imp_of ekl | exact Path.imp_of ekl.2 | exact ekl.2 | exact Path.imp_of ea | exact Path.imp_of ea.2 | exact ea.2 | skip
           refine ⟨k + 1, ⟨by omega, by omega⟩, ?_⟩
           refine subF.ok ?_ <;> (conv => whnf) <;> repeat' (first
 | exact trivial
 | (with_reducible rfl)
 | ((with_reducible refine And.intro ?_ ?_) <;> conv => whnf)
 | omega
 | rfl
 | (refine congrArg (SV.arr _) ?_)
 | (refine congrArg (Value.int _) ?_)
 | (refine congrArg Value.bool ?_))
         · repeat' (first
 | refine W.seq ?_
 | refine W.block ?_
 | (refine W.region tys_ok [] ?_; conv => whnf)
 | (refine W.drawAll tys_ok [] mixed rfl ?_; conv => whnf)
 | (refine W.ret ?_; conv => whnf)
 | (refine W.skip ?_; conv => whnf)
 | (refine W.exit ?_; conv => whnf)
 | (refine W.cond rfl (fun hb => ?_) (fun hb => ?_) <;> (try simp only [zr, zd, zm, minL, maxL, pickB, zA] at hb) <;> (try (first | (cases hb; done) | exact absurd hb (by decide) | (exfalso; omega) | (omega))))
 | ((with_reducible refine And.intro ?_ ?_); exact zc; conv => whnf)
 | ((with_reducible refine And.intro (Side.out ?_) ?_); rotate_left; (conv => whnf))
 | ((first | refine retM1 ?_ | refine retM2 ?_) <;> (conv => whnf) <;> repeat' (first
 | exact trivial
 | (with_reducible rfl)
 | ((with_reducible refine And.intro ?_ ?_) <;> conv => whnf)
 | omega
 | rfl
 | (refine congrArg (SV.arr _) ?_)
 | (refine congrArg (Value.int _) ?_)
 | (refine congrArg Value.bool ?_)))); all_goals (try unfold Side)
           all_goals try (repeat' (first | exact zb | with_reducible refine And.intro ?_ ?_))
           refine ⟨(a : Int) + 1, ⟨by omega, by omega⟩, ?_⟩
           refine subF.ok ?_ <;> (conv => whnf) <;> repeat' (first
 | exact trivial
 | (with_reducible rfl)
 | ((with_reducible refine And.intro ?_ ?_) <;> conv => whnf)
 | omega
 | rfl
 | (refine congrArg (SV.arr _) ?_)
 | (refine congrArg (Value.int _) ?_)
 | (refine congrArg Value.bool ?_))
   · repeat' (first
 | refine W.seq ?_
 | refine W.block ?_
 | (refine W.drawM (id := 15) tys_ok [] [1] mixed [0, 1, 0, 4, 8, 16, 34, 127] [([0, 2, 3, 4], 2, 63), ([6, 7], 0, 255)] (by decide +kernel) ?_; conv => whnf)
 | (refine W.region tys_ok [] ?_; conv => whnf)
 | (refine W.drawAll tys_ok [] mixed rfl ?_; conv => whnf)
 | (refine W.ret ?_; conv => whnf)
 | (refine W.skip ?_; conv => whnf)
 | (refine W.exit ?_; conv => whnf)
 | (refine callM_at (c9) ?_; conv => whnf)
 | (refine Both.mk ?_ ?_ <;> (conv => whnf))
 | (refine W.cond rfl (fun hb => ?_) (fun hb => ?_) <;> (try simp only [zr, zd, zm, minL, maxL, pickB, zA] at hb) <;> (try (first | (cases hb; done) | exact absurd hb (by decide) | (exfalso; omega) | (omega))))
 | (refine Or.inl (And.intro trivial ?_); (conv => whnf))
 | ((with_reducible refine And.intro ?_ ?_); exact zc; conv => whnf)
 | ((with_reducible refine And.intro (Side.out ?_) ?_); rotate_left; (conv => whnf))
 | ((first | refine retM1 ?_ | refine retM2 ?_ | refine subF.leaf ?_ | refine subF.side ?_) <;> (conv => whnf) <;> repeat' (first
 | exact trivial
 | (with_reducible rfl)
 | ((with_reducible refine And.intro ?_ ?_) <;> conv => whnf)
 | omega
 | rfl
 | (refine congrArg (SV.arr _) ?_)
 | (refine congrArg (Value.int _) ?_)
 | (refine congrArg Value.bool ?_)))); all_goals (try unfold Side)
     all_goals try (repeat' (first | exact zb | with_reducible refine And.intro ?_ ?_))
     all_goals exact decide_eq_true rfl
open Go Go.Vc Go.Rg
open Int renaming reduceToNat → zr, reduceTDiv → zd, reduceTMod → zm
open Go Go.Vc Go.Rg
variable {hs : List Hd} {fl : List Lt}
theorem is_at (h : 0 < hs.length) : FnM Try.prog 51 [.padr 1000000000 0] [(1000000000, .box [.own 1000000001, .own 1000000002]), (1000000001, .row 96 HT true (hs)), (1000000002, .row 50 LT true (fl))] (.lit (.bool true)) [(1000000000, .box [.own 1000000001, .own 1000000002]), (1000000001, .row 96 HT true (hs)), (1000000002, .row 50 LT true (fl))] := by
 have hl : @List.length HT.T hs = hs.length := rfl
 refine FnM.of_body tys_ok Try.func51 (by rfl) rfl Try.ntmps51 (by rw [Try.results51]) (by simp) ?_
 repeat' (first
 | refine W.seq ?_
 | refine W.block ?_
 | (refine W.region tys_ok [] ?_; conv => whnf)
 | (refine W.drawAll tys_ok [] mixed rfl ?_; conv => whnf)
 | (refine W.ret ?_; conv => whnf)
 | (refine W.skip ?_; conv => whnf)
 | (refine W.exit ?_; conv => whnf)
 | (refine W.cond rfl (fun hb => ?_) (fun hb => ?_) <;> (try simp only [zr, zd, zm, minL, maxL, pickB, zA] at hb) <;> (try (first | (cases hb; done) | exact absurd hb (by decide) | (exfalso; omega) | (omega))))
 | ((with_reducible refine And.intro ?_ ?_); exact zc; conv => whnf)
 | ((with_reducible refine And.intro (Side.out ?_) ?_); rotate_left; (conv => whnf))
 | ((first | refine retM1 ?_ | refine retM2 ?_) <;> (conv => whnf) <;> repeat' (first
 | exact trivial
 | (with_reducible rfl)
 | ((with_reducible refine And.intro ?_ ?_) <;> conv => whnf)
 | omega
 | rfl
 | (refine congrArg (SV.arr _) ?_)
 | (refine congrArg (Value.int _) ?_)
 | (refine congrArg Value.bool ?_)))); all_goals (try unfold Side)
 all_goals try (repeat' (first | exact zb | with_reducible refine And.intro ?_ ?_))
 all_goals (simp [pickB]; omega)
theorem hasf_at {i : Int} {b : Bool} (h : b = !hasB hs.length i) : FnM Try.prog 76 [.lit (.int .i64 i), .padr 1000000003 0] [(1000000003, .box1 (.padr 1000000000 0)), (1000000000, .box [.own 1000000001, .own 1000000002]), (1000000001, .row 96 HT true (hs)), (1000000002, .row 50 LT true (fl))] (.lit (.bool b)) [(1000000003, .box1 (.padr 1000000000 0)), (1000000000, .box [.own 1000000001, .own 1000000002]), (1000000001, .row 96 HT true (hs)), (1000000002, .row 50 LT true (fl))] := by
 subst h
 have hl : @List.length HT.T hs = hs.length := rfl
 refine FnM.of_body tys_ok Try.func76 (by rfl) rfl Try.ntmps76 (by rw [Try.results76]) (by simp) ?_
 repeat' (first
 | refine W.seq ?_
 | refine W.block ?_
 | (refine W.region tys_ok [] ?_; conv => whnf)
 | (refine W.drawAll tys_ok [] mixed rfl ?_; conv => whnf)
 | (refine W.ret ?_; conv => whnf)
 | (refine W.skip ?_; conv => whnf)
 | (refine W.exit ?_; conv => whnf)
 | (refine W.cond rfl (fun hb => ?_) (fun hb => ?_) <;> (try simp only [zr, zd, zm, minL, maxL, pickB, zA] at hb) <;> (try (first | (cases hb; done) | exact absurd hb (by decide) | (exfalso; omega) | (omega))))
 | ((with_reducible refine And.intro ?_ ?_); exact zc; conv => whnf)
 | ((with_reducible refine And.intro (Side.out ?_) ?_); rotate_left; (conv => whnf))
 | ((first | refine retM1 ?_ | refine retM2 ?_) <;> (conv => whnf) <;> repeat' (first
 | exact trivial
 | (with_reducible rfl)
 | ((with_reducible refine And.intro ?_ ?_) <;> conv => whnf)
 | omega
 | rfl
 | (refine congrArg (SV.arr _) ?_)
 | (refine congrArg (Value.int _) ?_)
 | (refine congrArg Value.bool ?_)))); all_goals (try unfold Side)
 all_goals try (repeat' (first | exact zb | with_reducible refine And.intro ?_ ?_))
 unfold hasB
 simp only [pickB]
 rw [Bool.eq_iff_iff]
 simp
 omega
def ixB (n : Nat) (l : List Int) (i : Nat) : Int := if (l.drop i).all (hasB n) = true then -1 else ((i + (l.drop i).findIdx (fun x => !hasB n x) : Nat) : Int)
theorem ixB_end {n : Nat} {l : List Int} {i : Nat} (h : l.length ≤ i) : ixB n l i = -1 := by
 unfold ixB
 rw [List.drop_of_length_le h]
 rfl
theorem ixB_no {n : Nat} {l : List Int} {i : Nat} (h : i < l.length) (hb : hasB n (l.getD i 0) = false) : ixB n l i = (i : Int) := by
 unfold ixB
 rw [List.drop_eq_getElem_cons h]
 have : l.getD i 0 = l[i] := by rw [List.getD_eq_getElem?_getD, List.getElem?_eq_getElem h]; rfl
 rw [this] at hb
 rw [List.all_cons, hb, Bool.false_and, if_neg (by decide), List.findIdx_cons, hb]
 simp
theorem ixB_yes {n : Nat} {l : List Int} {i : Nat} (h : i < l.length) (hb : hasB n (l.getD i 0) = true) : ixB n l i = ixB n l (i + 1) := by
 unfold ixB
 rw [List.drop_eq_getElem_cons h]
 have : l.getD i 0 = l[i] := by rw [List.getD_eq_getElem?_getD, List.getElem?_eq_getElem h]; rfl
 rw [this] at hb
 simp only [List.all_cons, hb, Bool.true_and, List.findIdx_cons, Bool.not_true, cond_false]
 split
 · rfl
 · congr 1; omega
theorem ixB_sign {n : Nat} {l : List Int} : decide (0 ≤ ixB n l 0) = !l.all (hasB n) := by
 unfold ixB
 rw [List.drop_zero]
 cases h : l.all (hasB n)
 · simp
 · simp
theorem index_at {l : List Int} (hll : l.length ≤ 1000) : FnM Try.prog 81 [.st false (.arr (.int .i64) l), .fn 76 [.padr 1000000003 0]] [(1000000003, .box1 (.padr 1000000000 0)), (1000000000, .box [.own 1000000001, .own 1000000002]), (1000000001, .row 96 HT true (hs)), (1000000002, .row 50 LT true (fl))] (.lit (.int .i64 (ixB hs.length l 0))) [(1000000003, .box1 (.padr 1000000000 0)), (1000000000, .box [.own 1000000001, .own 1000000002]), (1000000001, .row 96 HT true (hs)), (1000000002, .row 50 LT true (fl))] := by
 have hl : @List.length (Ty.int .i64).T l = l.length := rfl
 refine FnM.of_body tys_ok Try.func81 (by rfl) rfl Try.ntmps81 (by rw [Try.results81]) (by simp) ?_
 repeat' (first
 | refine W.seq ?_
 | refine W.block ?_
 | (refine W.region tys_ok [] ?_; conv => whnf)
 | (refine W.drawAll tys_ok [] mixed rfl ?_; conv => whnf)
 | (refine W.ret ?_; conv => whnf)
 | (refine W.skip ?_; conv => whnf)
 | (refine W.exit ?_; conv => whnf)
 | (refine W.cond rfl (fun hb => ?_) (fun hb => ?_) <;> (try simp only [zr, zd, zm, minL, maxL, pickB, zA] at hb) <;> (try (first | (cases hb; done) | exact absurd hb (by decide) | (exfalso; omega) | (omega))))
 | ((with_reducible refine And.intro ?_ ?_); exact zc; conv => whnf)
 | ((with_reducible refine And.intro (Side.out ?_) ?_); rotate_left; (conv => whnf))
 | ((first | refine retM1 ?_ | refine retM2 ?_) <;> (conv => whnf) <;> repeat' (first
 | exact trivial
 | (with_reducible rfl)
 | ((with_reducible refine And.intro ?_ ?_) <;> conv => whnf)
 | omega
 | rfl
 | (refine congrArg (SV.arr _) ?_)
 | (refine congrArg (Value.int _) ?_)
 | (refine congrArg Value.bool ?_)))); all_goals (try unfold Side)
 all_goals try (repeat' (first | exact zb | with_reducible refine And.intro ?_ ?_))
 refine W.loop (fun i : Nat => ⟨[(0, .st false (.arr (.int .i64) l)), (1, .fn 76 [.padr 1000000003 0]), (7, .lit (.int .i64 ((l.length : Int)))), (8, .lit (.int .i64 (i)))], [(1000000003, .box1 (.padr 1000000000 0)), (1000000000, .box [.own 1000000001, .own 1000000002]), (1000000001, .row 96 HT true hs), (1000000002, .row 50 LT true fl)]⟩) (fun i => i ≤ l.length ∧ ixB hs.length l 0 = ixB hs.length l i) (fun i => l.length - i) (0) ?_ ?_
 · refine ⟨⟨Nat.zero_le _, rfl⟩, ?_⟩
   refine subF.ok ?_ <;> (conv => whnf) <;> repeat' (first
 | exact trivial
 | (with_reducible rfl)
 | ((with_reducible refine And.intro ?_ ?_) <;> conv => whnf)
 | omega
 | rfl
 | (refine congrArg (SV.arr _) ?_)
 | (refine congrArg (Value.int _) ?_)
 | (refine congrArg Value.bool ?_))
 · rintro i ⟨hi, hix⟩
   by_cases hil : i < l.length
   · cases hb0 : hasB hs.length (l.getD i 0) with
     | true =>
      have hy := ixB_yes hil hb0
      have c1 := hasf_at (hs := hs) (fl := fl) (i := l.getD i 0) (b := false) (by rw [hb0]; rfl)
      repeat' (first
 | refine W.seq ?_
 | refine W.block ?_
 | (refine W.regionM (id := 4) tys_ok [] [5] ?_; conv => whnf)
 | (refine W.region tys_ok [] ?_; conv => whnf)
 | (refine W.drawAll tys_ok [] mixed rfl ?_; conv => whnf)
 | (refine W.ret ?_; conv => whnf)
 | (refine W.skip ?_; conv => whnf)
 | (refine W.exit ?_; conv => whnf)
 | (refine callM_at (c1) ?_; conv => whnf)
 | (refine W.cond rfl (fun hb => ?_) (fun hb => ?_) <;> (try simp only [zr, zd, zm, minL, maxL, pickB, zA] at hb) <;> (try (first | (cases hb; done) | exact absurd hb (by decide) | (exfalso; omega) | (omega))))
 | (refine Or.inl (And.intro trivial ?_); (conv => whnf))
 | ((with_reducible refine And.intro ?_ ?_); exact zc; conv => whnf)
 | ((with_reducible refine And.intro (Side.out ?_) ?_); rotate_left; (conv => whnf))
 | ((first | refine retM1 ?_ | refine retM2 ?_) <;> (conv => whnf) <;> repeat' (first
 | exact trivial
 | (with_reducible rfl)
 | ((with_reducible refine And.intro ?_ ?_) <;> conv => whnf)
 | omega
 | rfl
 | (refine congrArg (SV.arr _) ?_)
 | (refine congrArg (Value.int _) ?_)
 | (refine congrArg Value.bool ?_)))); all_goals (try unfold Side)
      all_goals try (repeat' (first | exact zb | with_reducible refine And.intro ?_ ?_))
      refine ⟨i + 1, ⟨⟨by omega, by rw [hix, hy]⟩, by omega⟩, ?_⟩
      refine subF.ok ?_ <;> (conv => whnf) <;> repeat' (first
 | exact trivial
 | (with_reducible rfl)
 | ((with_reducible refine And.intro ?_ ?_) <;> conv => whnf)
 | omega
 | rfl
 | (refine congrArg (SV.arr _) ?_)
 | (refine congrArg (Value.int _) ?_)
 | (refine congrArg Value.bool ?_))
     | false =>
      have hy := ixB_no hil hb0
      have c1 := hasf_at (hs := hs) (fl := fl) (i := l.getD i 0) (b := true) (by rw [hb0]; rfl)
      repeat' (first
 | refine W.seq ?_
 | refine W.block ?_
 | (refine W.regionM (id := 4) tys_ok [] [5] ?_; conv => whnf)
 | (refine W.region tys_ok [] ?_; conv => whnf)
 | (refine W.drawAll tys_ok [] mixed rfl ?_; conv => whnf)
 | (refine W.ret ?_; conv => whnf)
 | (refine W.skip ?_; conv => whnf)
 | (refine W.exit ?_; conv => whnf)
 | (refine callM_at (c1) ?_; conv => whnf)
 | (refine W.cond rfl (fun hb => ?_) (fun hb => ?_) <;> (try simp only [zr, zd, zm, minL, maxL, pickB, zA] at hb) <;> (try (first | (cases hb; done) | exact absurd hb (by decide) | (exfalso; omega) | (omega))))
 | (refine Or.inl (And.intro trivial ?_); (conv => whnf))
 | ((with_reducible refine And.intro ?_ ?_); exact zc; conv => whnf)
 | ((with_reducible refine And.intro (Side.out ?_) ?_); rotate_left; (conv => whnf))
 | ((first | refine retM1 ?_ | refine retM2 ?_) <;> (conv => whnf) <;> repeat' (first
 | exact trivial
 | (with_reducible rfl)
 | ((with_reducible refine And.intro ?_ ?_) <;> conv => whnf)
 | omega
 | rfl
 | (refine congrArg (SV.arr _) ?_)
 | (refine congrArg (Value.int _) ?_)
 | (refine congrArg Value.bool ?_)))); all_goals (try unfold Side)
      all_goals try (repeat' (first | exact zb | with_reducible refine And.intro ?_ ?_))
      all_goals (rw [hix, hy])
   · have hy := ixB_end (n := hs.length) (l := l) (i := i) (by omega)
     repeat' (first
 | refine W.seq ?_
 | refine W.block ?_
 | (refine W.region tys_ok [] ?_; conv => whnf)
 | (refine W.drawAll tys_ok [] mixed rfl ?_; conv => whnf)
 | (refine W.ret ?_; conv => whnf)
 | (refine W.skip ?_; conv => whnf)
 | (refine W.exit ?_; conv => whnf)
 | (refine W.cond rfl (fun hb => ?_) (fun hb => ?_) <;> (try simp only [zr, zd, zm, minL, maxL, pickB, zA] at hb) <;> (try (first | (cases hb; done) | exact absurd hb (by decide) | (exfalso; omega) | (omega))))
 | ((with_reducible refine And.intro ?_ ?_); exact zc; conv => whnf)
 | ((with_reducible refine And.intro (Side.out ?_) ?_); rotate_left; (conv => whnf))
 | ((first | refine retM1 ?_ | refine retM2 ?_) <;> (conv => whnf) <;> repeat' (first
 | exact trivial
 | (with_reducible rfl)
 | ((with_reducible refine And.intro ?_ ?_) <;> conv => whnf)
 | omega
 | rfl
 | (refine congrArg (SV.arr _) ?_)
 | (refine congrArg (Value.int _) ?_)
 | (refine congrArg Value.bool ?_)))); all_goals (try unfold Side)
     all_goals try (repeat' (first | exact zb | with_reducible refine And.intro ?_ ?_))
     all_goals (rw [hix, hy])
theorem contains_at {l : List Int} (hll : l.length ≤ 1000) : FnM Try.prog 75 [.st false (.arr (.int .i64) l), .fn 76 [.padr 1000000003 0]] [(1000000003, .box1 (.padr 1000000000 0)), (1000000000, .box [.own 1000000001, .own 1000000002]), (1000000001, .row 96 HT true (hs)), (1000000002, .row 50 LT true (fl))] (.lit (.bool (!l.all (hasB hs.length)))) [(1000000003, .box1 (.padr 1000000000 0)), (1000000000, .box [.own 1000000001, .own 1000000002]), (1000000001, .row 96 HT true (hs)), (1000000002, .row 50 LT true (fl))] := by
 have c1 := index_at (hs := hs) (fl := fl) hll
 have hs1 := ixB_sign (n := hs.length) (l := l)
 refine FnM.of_body tys_ok Try.func75 (by rfl) rfl Try.ntmps75 (by rw [Try.results75]) (by simp) ?_
 repeat' (first
 | refine W.seq ?_
 | refine W.block ?_
 | (refine W.regionM (id := 1) tys_ok [] [2] ?_; conv => whnf)
 | (refine W.region tys_ok [] ?_; conv => whnf)
 | (refine W.drawAll tys_ok [] mixed rfl ?_; conv => whnf)
 | (refine W.ret ?_; conv => whnf)
 | (refine W.skip ?_; conv => whnf)
 | (refine W.exit ?_; conv => whnf)
 | (refine callM_at (c1) ?_; conv => whnf)
 | (refine W.cond rfl (fun hb => ?_) (fun hb => ?_) <;> (try simp only [zr, zd, zm, minL, maxL, pickB, zA] at hb) <;> (try (first | (cases hb; done) | exact absurd hb (by decide) | (exfalso; omega) | (omega))))
 | (refine Or.inl (And.intro trivial ?_); (conv => whnf))
 | ((with_reducible refine And.intro ?_ ?_); exact zc; conv => whnf)
 | ((with_reducible refine And.intro (Side.out ?_) ?_); rotate_left; (conv => whnf))
 | ((first | refine retM1 ?_ | refine retM2 ?_) <;> (conv => whnf) <;> repeat' (first
 | exact trivial
 | (with_reducible rfl)
 | ((with_reducible refine And.intro ?_ ?_) <;> conv => whnf)
 | omega
 | rfl
 | (refine congrArg (SV.arr _) ?_)
 | (refine congrArg (Value.int _) ?_)
 | (refine congrArg Value.bool ?_)))); all_goals (try unfold Side)
 all_goals try (repeat' (first | exact zb | with_reducible refine And.intro ?_ ?_))
 all_goals exact hs1
theorem has_at {l : List Int} {b : Bool} (hll : l.length ≤ 1000) (h : b = l.all (hasB hs.length)) : FnM Try.prog 52 [.padr 1000000000 0, .st false (.arr (.int .i64) l)] [(1000000000, .box [.own 1000000001, .own 1000000002]), (1000000001, .row 96 HT true (hs)), (1000000002, .row 50 LT true (fl))] (.lit (.bool b)) [(1000000000, .box [.own 1000000001, .own 1000000002]), (1000000001, .row 96 HT true (hs)), (1000000002, .row 50 LT true (fl))] := by
 subst h
 have c1 := contains_at (hs := hs) (fl := fl) hll
 refine FnM.of_body tys_ok Try.func52 (by rfl) rfl Try.ntmps52 (by rw [Try.results52]) (by simp) ?_
 repeat' (first
 | refine W.seq ?_
 | refine W.block ?_
 | (refine W.regionM (id := 1) tys_ok [] [2] ?_; conv => whnf)
 | (refine W.region tys_ok [] ?_; conv => whnf)
 | (refine W.drawAll tys_ok [] mixed rfl ?_; conv => whnf)
 | (refine W.ret ?_; conv => whnf)
 | (refine W.skip ?_; conv => whnf)
 | (refine W.exit ?_; conv => whnf)
 | (refine callM_at (c1) ?_; conv => whnf)
 | (refine W.cond rfl (fun hb => ?_) (fun hb => ?_) <;> (try simp only [zr, zd, zm, minL, maxL, pickB, zA] at hb) <;> (try (first | (cases hb; done) | exact absurd hb (by decide) | (exfalso; omega) | (omega))))
 | (refine Or.inl (And.intro trivial ?_); (conv => whnf))
 | ((with_reducible refine And.intro ?_ ?_); exact zc; conv => whnf)
 | ((with_reducible refine And.intro (Side.out ?_) ?_); rotate_left; (conv => whnf))
 | ((first | refine retM1 ?_ | refine retM2 ?_) <;> (conv => whnf) <;> repeat' (first
 | exact trivial
 | (with_reducible rfl)
 | ((with_reducible refine And.intro ?_ ?_) <;> conv => whnf)
 | omega
 | rfl
 | (refine congrArg (SV.arr _) ?_)
 | (refine congrArg (Value.int _) ?_)
 | (refine congrArg Value.bool ?_)))); all_goals (try unfold Side)
 all_goals try (repeat' (first | exact zb | with_reducible refine And.intro ?_ ?_))
 all_goals simp
open Go Go.Vc Go.Rg
variable {hs : List Hd} {fl : List Lt}
theorem leaves_at {i : Nat} {b : Bool} (hi : i < hs.length) (h : b = goesB hs i) : FnM Try.prog 53 [.padr 1000000000 0, .lit (.int .i64 (i : Int))] [(1000000000, .box [.own 1000000001, .own 1000000002]), (1000000001, .row 96 HT true (hs)), (1000000002, .row 50 LT true (fl))] (.lit (.bool b)) [(1000000000, .box [.own 1000000001, .own 1000000002]), (1000000001, .row 96 HT true (hs)), (1000000002, .row 50 LT true (fl))] := by
 subst h
 have hl : @List.length HT.T hs = hs.length := rfl
 refine FnM.of_body tys_ok Try.func53 (by rfl) rfl Try.ntmps53 (by rw [Try.results53]) (by simp) ?_
 repeat' (first
 | refine W.seq ?_
 | refine W.block ?_
 | (refine W.region tys_ok [] ?_; conv => whnf)
 | (refine W.drawAll tys_ok [] mixed rfl ?_; conv => whnf)
 | (refine W.ret ?_; conv => whnf)
 | (refine W.skip ?_; conv => whnf)
 | (refine W.exit ?_; conv => whnf)
 | (refine W.cond rfl (fun hb => ?_) (fun hb => ?_) <;> (try simp only [zr, zd, zm, minL, maxL, pickB, zA] at hb) <;> (try (first | (cases hb; done) | exact absurd hb (by decide) | (exfalso; omega) | (omega))))
 | ((with_reducible refine And.intro ?_ ?_); exact zc; conv => whnf)
 | ((with_reducible refine And.intro (Side.out ?_) ?_); rotate_left; (conv => whnf))
 | ((first | refine retM1 ?_ | refine retM2 ?_) <;> (conv => whnf) <;> repeat' (first
 | exact trivial
 | (with_reducible rfl)
 | ((with_reducible refine And.intro ?_ ?_) <;> conv => whnf)
 | omega
 | rfl
 | (refine congrArg (SV.arr _) ?_)
 | (refine congrArg (Value.int _) ?_)
 | (refine congrArg Value.bool ?_)))); all_goals (try unfold Side)
 all_goals try (repeat' (first | exact zb | with_reducible refine And.intro ?_ ?_))
 rw [Int.toNat_natCast]
 show pickB (pickB (pickB (!decide ((i : Int) = 0)) (Operand.tmp 17) (Operand.const (Value.bool false)) (ge hs i) false) (Operand.tmp 22) (Operand.const (Value.bool false)) (!gw hs i) false) (Operand.tmp 27) (Operand.const (Value.bool false)) (decide (go hs i = 0)) false = goesB hs i
 unfold goesB
 simp only [pickB]
 by_cases e : i = 0
 · subst e; simp
 · have : ¬ (i : Int) = 0 := by omega
   cases ge hs i <;> cases gw hs i <;> simp [e, this]
theorem settle_no {i : Nat} (hi : i < hs.length) (h : goesB hs i = false) : FnM Try.prog 54 [.padr 1000000000 0, .lit (.int .i64 (i : Int))] [(1000000000, .box [.own 1000000001, .own 5]), (1000000001, .row 96 HT true (hs)), (5, .row 50 LT true (fl))] (.tup []) [(1000000000, .box [.own 1000000001, .own 5]), (1000000001, .row 96 HT true (hs)), (5, .row 50 LT true (fl))] := by
 have c1 := leaves_at (fl := fl) hi h.symm
 refine FnM.of_body tys_ok Try.func54 (by rfl) rfl Try.ntmps54 (by rw [Try.results54]) (by simp) ?_
 repeat' (first
 | refine W.seq ?_
 | refine W.block ?_
 | (refine W.regionM (id := 0) tys_ok [] [2] ?_; conv => whnf)
 | (refine W.region tys_ok [] ?_; conv => whnf)
 | (refine W.drawAll tys_ok [] mixed rfl ?_; conv => whnf)
 | (refine W.ret ?_; conv => whnf)
 | (refine W.skip ?_; conv => whnf)
 | (refine W.exit ?_; conv => whnf)
 | (refine callM_at (c1) ?_; conv => whnf)
 | (refine W.cond rfl (fun hb => ?_) (fun hb => ?_) <;> (try simp only [zr, zd, zm, minL, maxL, pickB, zA] at hb) <;> (try (first | (cases hb; done) | exact absurd hb (by decide) | (exfalso; omega) | (omega))))
 | (refine Or.inl (And.intro trivial ?_); (conv => whnf))
 | ((with_reducible refine And.intro ?_ ?_); exact zc; conv => whnf)
 | ((with_reducible refine And.intro (Side.out ?_) ?_); rotate_left; (conv => whnf))
 | ((first | refine retM1 ?_ | refine retM2 ?_) <;> (conv => whnf) <;> repeat' (first
 | exact trivial
 | (with_reducible rfl)
 | ((with_reducible refine And.intro ?_ ?_) <;> conv => whnf)
 | omega
 | rfl
 | (refine congrArg (SV.arr _) ?_)
 | (refine congrArg (Value.int _) ?_)
 | (refine congrArg Value.bool ?_)))); all_goals (try unfold Side)
 all_goals try (repeat' (first | exact zb | with_reducible refine And.intro ?_ ?_))
set_option maxHeartbeats 4000000 in
theorem settle_yes {i : Nat} (hi : i < hs.length) (hfl : fl.length ≤ 1000) (h : goesB hs i = true) : FnM Try.prog 54 [.padr 1000000000 0, .lit (.int .i64 (i : Int))] [(1000000000, .box [.own 1000000001, .own 5]), (1000000001, .row 96 HT true (hs)), (5, .row 50 LT true (fl))] (.tup []) [(1000000000, .box [.own 1000000001, .own 5]), (1000000001, .row 96 HT true ((leftL i (hs, fl)).1)), (5, .row 50 LT true ((leftL i (hs, fl)).2))] := by
 have c1 := leaves_at (fl := fl) hi h.symm
 have hl : @List.length HT.T hs = hs.length := rfl
 have hlf : @List.length LT.T fl = fl.length := rfl
 refine FnM.of_body tys_ok Try.func54 (by rfl) rfl Try.ntmps54 (by rw [Try.results54]) (by simp) ?_
 have e1 : (hs.set i ((hs.getD i H0).1, false, (hs.getD i H0).2.2)).getD i H0 = ((hs.getD i H0).1, false, (hs.getD i H0).2.2) := by rw [Rg.getD_set hi, if_pos rfl]
 have e2 : (hs.set i ((hs.getD i H0).1, false, (hs.getD i H0).2.2)).set i (((hs.set i ((hs.getD i H0).1, false, (hs.getD i H0).2.2)).getD i H0).1, ((hs.set i ((hs.getD i H0).1, false, (hs.getD i H0).2.2)).getD i H0).2.1, -1, ((hs.set i ((hs.getD i H0).1, false, (hs.getD i H0).2.2)).getD i H0).2.2.2) = (leftL i (hs, fl)).1 := by
  rw [e1, List.set_set]; rfl
 have e3 : i < (hs.set i ((hs.getD i H0).1, false, (hs.getD i H0).2.2)).length := by rw [List.length_set]; exact hi
 repeat' (first
 | refine W.seq ?_
 | refine W.block ?_
 | (refine W.regionM (id := 0) tys_ok [] [2] ?_; conv => whnf)
 | (refine W.resub (x := Code.region 2 _ _) (Γ' := ⟨[(0, .padr 1000000000 0), (1, .lit (.int .i64 ((i : Int)))), (4, .oadr 1000000001 4 i 0)], [(1000000000, .box [.own 1000000001, .own 5]), (1000000001, .row 96 HT true (hs)), (5, .row 50 LT true (fl))]⟩) ?_ ?_; rotate_left; refine W.drawPhTo (id := 2) tys_ok [] mixed [0, 0, 2, 4, 8, 0, 0, 64, 128, 256, 544, 1024, 2064, 8191, 16383, 24575] [([0, 1, 2, 3, 5, 6, 7, 8], 4, 4095), ([], 1, 8191), ([13, 14], 1, 65535)] ⟨[(0, .padr 1000000000 0), (4, .oadr 1000000001 4 i 0)], [(1000000000, .box [.own 1000000001, .own 5]), (1000000001, .row 96 HT true (hs)), (5, .row 50 LT true (fl ++ [((i : Int), gp hs i, true, ())]))]⟩ (by decide +kernel) ?_ ?_; (conv => whnf); rotate_left; (conv => whnf))
 | (refine W.region tys_ok [] ?_; conv => whnf)
 | (refine W.drawAll tys_ok [] mixed rfl ?_; conv => whnf)
 | (refine W.ret ?_; conv => whnf)
 | (refine W.skip ?_; conv => whnf)
 | (refine W.exit ?_; conv => whnf)
 | (refine callM_at (c1) ?_; conv => whnf)
 | (refine Both.mk ?_ ?_ <;> (conv => whnf))
 | (refine W.cond rfl (fun hb => ?_) (fun hb => ?_) <;> (try simp only [zr, zd, zm, minL, maxL, pickB, zA] at hb) <;> (try (first | (cases hb; done) | exact absurd hb (by decide) | (exfalso; omega) | (omega))))
 | (refine Or.inl (And.intro trivial ?_); (conv => whnf))
 | ((with_reducible refine And.intro ?_ ?_); exact zc; conv => whnf)
 | ((with_reducible refine And.intro (Side.out ?_) ?_); rotate_left; (conv => whnf))
 | ((first | refine retM1 ?_ | refine retM2 ?_ | refine subF.leaf ?_ | refine subF.side ?_) <;> (conv => whnf) <;> repeat' (first
 | exact trivial
 | (with_reducible rfl)
 | ((with_reducible refine And.intro ?_ ?_) <;> conv => whnf)
 | omega
 | rfl
 | (refine congrArg (SV.arr _) ?_)
 | (refine congrArg (Value.int _) ?_)
 | (refine congrArg Value.bool ?_)))); all_goals (try unfold Side)
 all_goals try (repeat' (first | exact zb | with_reducible refine And.intro ?_ ?_))
 · exact e2
 · exact e3
open Int renaming reduceToNat → zr, reduceTDiv → zd, reduceTMod → zm
open Go Go.Vc Go.Rg
variable {hs : List Hd} {fl : List Lt}
theorem settle_at {i : Nat} {h2 : List Hd} {f2 : List Lt} (hi : i < hs.length) (hfl : fl.length ≤ 1000) (h : settL i (hs, fl) = (h2, f2)) : FnM Try.prog 54 [.padr 1000000000 0, .lit (.int .i64 (i : Int))] [(1000000000, .box [.own 1000000001, .own 5]), (1000000001, .row 96 HT true (hs)), (5, .row 50 LT true (fl))] (.tup []) [(1000000000, .box [.own 1000000001, .own 5]), (1000000001, .row 96 HT true (h2)), (5, .row 50 LT true (f2))] := by
 cases g : goesB hs i with
 | false =>
  rw [settL, if_neg (by rw [g]; decide)] at h
  cases h
  exact settle_no hi g
 | true =>
  rw [settL, if_pos g] at h
  have e1 : h2 = (leftL i (hs, fl)).1 := by rw [h]
  have e2 : f2 = (leftL i (hs, fl)).2 := by rw [h]
  rw [e1, e2]
  exact settle_yes hi hfl g
theorem send_arg {a b : Int} (h0 : 0 < hs.length) (h : (hasB hs.length a && hasB hs.length b) = false) : FnM Try.prog 38 [.padr 1000000000 0, .lit (.int .i64 a), .lit (.int .i64 b)] [(1000000000, .box [.own 1000000001, .own 5]), (1000000001, .row 96 HT true (hs)), (5, .row 50 LT true (fl))] (.lit (.int .i64 1)) [(1000000000, .box [.own 1000000001, .own 5]), (1000000001, .row 96 HT true (hs)), (5, .row 50 LT true (fl))] := by
 have c1 := is_at (fl := fl) h0
 have c2 := has_at (hs := hs) (fl := fl) (l := [a, b]) (b := false) (by simp) (by simpa using h.symm)
 refine FnM.of_body tys_ok Try.func38 (by rfl) rfl Try.ntmps38 (by rw [Try.results38]) (by simp) ?_
 repeat' (first
 | refine W.seq ?_
 | refine W.block ?_
 | (refine W.regionM (id := 1) tys_ok [15] [1] ?_; conv => whnf)
 | (refine W.regionM (id := 3) tys_ok [15] [4] ?_; conv => whnf)
 | (refine W.region tys_ok [15] ?_; conv => whnf)
 | (refine W.drawAll tys_ok [15] mixed rfl ?_; conv => whnf)
 | (refine W.ret ?_; conv => whnf)
 | (refine W.skip ?_; conv => whnf)
 | (refine W.exit ?_; conv => whnf)
 | (refine callM_at (c1) ?_; conv => whnf)
 | (refine callM_at (c2) ?_; conv => whnf)
 | (refine W.cond rfl (fun hb => ?_) (fun hb => ?_) <;> (try simp only [zr, zd, zm, minL, maxL, pickB, zA] at hb) <;> (try (first | (cases hb; done) | exact absurd hb (by decide) | (exfalso; omega) | (omega))))
 | (refine Or.inl (And.intro trivial ?_); (conv => whnf))
 | ((with_reducible refine And.intro ?_ ?_); exact zc; conv => whnf)
 | ((with_reducible refine And.intro (Side.out ?_) ?_); rotate_left; (conv => whnf))
 | ((first | refine retM1 ?_ | refine retM2 ?_) <;> (conv => whnf) <;> repeat' (first
 | exact trivial
 | (with_reducible rfl)
 | ((with_reducible refine And.intro ?_ ?_) <;> conv => whnf)
 | omega
 | rfl
 | (refine congrArg (SV.arr _) ?_)
 | (refine congrArg (Value.int _) ?_)
 | (refine congrArg Value.bool ?_)))); all_goals (try unfold Side)
 all_goals try (repeat' (first | exact zb | with_reducible refine And.intro ?_ ?_))
theorem send_none {a b : Nat} (ha : a < hs.length) (hb : b < hs.length) (hw : gw hs a = false) : FnM Try.prog 38 [.padr 1000000000 0, .lit (.int .i64 (a : Int)), .lit (.int .i64 (b : Int))] [(1000000000, .box [.own 1000000001, .own 5]), (1000000001, .row 96 HT true (hs)), (5, .row 50 LT true (fl))] (.lit (.int .i64 5)) [(1000000000, .box [.own 1000000001, .own 5]), (1000000001, .row 96 HT true (hs)), (5, .row 50 LT true (fl))] := by
 have c1 := is_at (hs := hs) (fl := fl) (by omega)
 have c2 := has_at (hs := hs) (fl := fl) (l := [(a : Int), (b : Int)]) (b := true) (by simp) (by simp [has_of ha, has_of hb])
 have hw' : (hs.getD a H0).1 = false := hw
 have hl : @List.length HT.T hs = hs.length := rfl
 refine FnM.of_body tys_ok Try.func38 (by rfl) rfl Try.ntmps38 (by rw [Try.results38]) (by simp) ?_
 repeat' (first
 | refine W.seq ?_
 | refine W.block ?_
 | (refine W.regionM (id := 1) tys_ok [15] [1] ?_; conv => whnf)
 | (refine W.regionM (id := 3) tys_ok [15] [4] ?_; conv => whnf)
 | (refine W.region tys_ok [15] ?_; conv => whnf)
 | (refine W.drawAll tys_ok [15] mixed rfl ?_; conv => whnf)
 | (refine W.ret ?_; conv => whnf)
 | (refine W.skip ?_; conv => whnf)
 | (refine W.exit ?_; conv => whnf)
 | (refine callM_at (c1) ?_; conv => whnf)
 | (refine callM_at (c2) ?_; conv => whnf)
 | (refine W.cond rfl (fun hb => ?_) (fun hb => ?_) <;> (try simp only [zr, zd, zm, minL, maxL, pickB, zA] at hb) <;> (try (first | (cases hb; done) | exact absurd hb (by decide) | (exfalso; omega) | (omega) | ((simp_all; done)))))
 | (refine Or.inl (And.intro trivial ?_); (conv => whnf))
 | ((with_reducible refine And.intro ?_ ?_); exact zc; conv => whnf)
 | ((with_reducible refine And.intro (Side.out ?_) ?_); rotate_left; (conv => whnf))
 | ((first | refine retM1 ?_ | refine retM2 ?_) <;> (conv => whnf) <;> repeat' (first
 | exact trivial
 | (with_reducible rfl)
 | ((with_reducible refine And.intro ?_ ?_) <;> conv => whnf)
 | omega
 | rfl
 | (refine congrArg (SV.arr _) ?_)
 | (refine congrArg (Value.int _) ?_)
 | (refine congrArg Value.bool ?_)))); all_goals (try unfold Side)
 all_goals try (repeat' (first | exact zb | with_reducible refine And.intro ?_ ?_))
theorem send_full {a b : Nat} (ha : a < hs.length) (hb : b < hs.length) (hw : gw hs a = true) (hf : 200 ≤ fl.length) : FnM Try.prog 38 [.padr 1000000000 0, .lit (.int .i64 (a : Int)), .lit (.int .i64 (b : Int))] [(1000000000, .box [.own 1000000001, .own 5]), (1000000001, .row 96 HT true (hs)), (5, .row 50 LT true (fl))] (.lit (.int .i64 7)) [(1000000000, .box [.own 1000000001, .own 5]), (1000000001, .row 96 HT true (hs)), (5, .row 50 LT true (fl))] := by
 have c1 := is_at (hs := hs) (fl := fl) (by omega)
 have c2 := has_at (hs := hs) (fl := fl) (l := [(a : Int), (b : Int)]) (b := true) (by simp) (by simp [has_of ha, has_of hb])
 have hw' : (hs.getD a H0).1 = true := hw
 have hl : @List.length HT.T hs = hs.length := rfl
 have hlf : @List.length LT.T fl = fl.length := rfl
 refine FnM.of_body tys_ok Try.func38 (by rfl) rfl Try.ntmps38 (by rw [Try.results38]) (by simp) ?_
 repeat' (first
 | refine W.seq ?_
 | refine W.block ?_
 | (refine W.regionM (id := 1) tys_ok [15] [1] ?_; conv => whnf)
 | (refine W.regionM (id := 3) tys_ok [15] [4] ?_; conv => whnf)
 | (refine W.region tys_ok [15] ?_; conv => whnf)
 | (refine W.drawAll tys_ok [15] mixed rfl ?_; conv => whnf)
 | (refine W.ret ?_; conv => whnf)
 | (refine W.skip ?_; conv => whnf)
 | (refine W.exit ?_; conv => whnf)
 | (refine callM_at (c1) ?_; conv => whnf)
 | (refine callM_at (c2) ?_; conv => whnf)
 | (refine W.cond rfl (fun hb => ?_) (fun hb => ?_) <;> (try simp only [zr, zd, zm, minL, maxL, pickB, zA] at hb) <;> (try (first | (cases hb; done) | exact absurd hb (by decide) | (exfalso; omega) | (omega) | ((simp_all; done)))))
 | (refine Or.inl (And.intro trivial ?_); (conv => whnf))
 | ((with_reducible refine And.intro ?_ ?_); exact zc; conv => whnf)
 | ((with_reducible refine And.intro (Side.out ?_) ?_); rotate_left; (conv => whnf))
 | ((first | refine retM1 ?_ | refine retM2 ?_) <;> (conv => whnf) <;> repeat' (first
 | exact trivial
 | (with_reducible rfl)
 | ((with_reducible refine And.intro ?_ ?_) <;> conv => whnf)
 | omega
 | rfl
 | (refine congrArg (SV.arr _) ?_)
 | (refine congrArg (Value.int _) ?_)
 | (refine congrArg Value.bool ?_)))); all_goals (try unfold Side)
 all_goals try (repeat' (first | exact zb | with_reducible refine And.intro ?_ ?_))
theorem send_ok {a b : Nat} (ha : a < hs.length) (hb : b < hs.length) (hw : gw hs a = true) (hf : ¬ 200 ≤ fl.length) (ho : 0 ≤ go hs a ∧ go hs a ≤ 1000) : FnM Try.prog 38 [.padr 1000000000 0, .lit (.int .i64 (a : Int)), .lit (.int .i64 (b : Int))] [(1000000000, .box [.own 1000000001, .own 5]), (1000000001, .row 96 HT true (hs)), (5, .row 50 LT true (fl))] (.lit (.int .i64 0)) [(1000000000, .box [.own 1000000001, .own 5]), (1000000001, .row 96 HT true (setO hs a (go hs a + 1))), (5, .row 50 LT true (fl ++ [((a : Int), (b : Int), false, ())]))] := by
 have c1 := is_at (hs := hs) (fl := fl) (by omega)
 have c2 := has_at (hs := hs) (fl := fl) (l := [(a : Int), (b : Int)]) (b := true) (by simp) (by simp [has_of ha, has_of hb])
 have hw' : (hs.getD a H0).1 = true := hw
 have ho' : 0 ≤ (hs.getD a H0).2.2.2.1 ∧ (hs.getD a H0).2.2.2.1 ≤ 1000 := ho
 have hl : @List.length HT.T hs = hs.length := rfl
 have hlf : @List.length LT.T fl = fl.length := rfl
 refine FnM.of_body tys_ok Try.func38 (by rfl) rfl Try.ntmps38 (by rw [Try.results38]) (by simp) ?_
 repeat' (first
 | refine W.seq ?_
 | refine W.block ?_
 | (refine W.regionM (id := 1) tys_ok [15] [1] ?_; conv => whnf)
 | (refine W.regionM (id := 3) tys_ok [15] [4] ?_; conv => whnf)
 | (refine W.region tys_ok [15] ?_; conv => whnf)
 | (refine W.drawAll tys_ok [15] mixed rfl ?_; conv => whnf)
 | (refine W.ret ?_; conv => whnf)
 | (refine W.skip ?_; conv => whnf)
 | (refine W.exit ?_; conv => whnf)
 | (refine callM_at (c1) ?_; conv => whnf)
 | (refine callM_at (c2) ?_; conv => whnf)
 | (refine W.cond rfl (fun hb => ?_) (fun hb => ?_) <;> (try simp only [zr, zd, zm, minL, maxL, pickB, zA] at hb) <;> (try (first | (cases hb; done) | exact absurd hb (by decide) | (exfalso; omega) | (omega) | ((simp_all; done)))))
 | (refine Or.inl (And.intro trivial ?_); (conv => whnf))
 | ((with_reducible refine And.intro ?_ ?_); exact zc; conv => whnf)
 | ((with_reducible refine And.intro (Side.out ?_) ?_); rotate_left; (conv => whnf))
 | ((first | refine retM1 ?_ | refine retM2 ?_) <;> (conv => whnf) <;> repeat' (first
 | exact trivial
 | (with_reducible rfl)
 | ((with_reducible refine And.intro ?_ ?_) <;> conv => whnf)
 | omega
 | rfl
 | (refine congrArg (SV.arr _) ?_)
 | (refine congrArg (Value.int _) ?_)
 | (refine congrArg Value.bool ?_)))); all_goals (try unfold Side)
 all_goals try (repeat' (first | exact zb | with_reducible refine And.intro ?_ ?_))
 · exact Nat.le_of_ble_eq_true rfl
theorem idle_arg {i : Int} (h0 : 0 < hs.length) (h : hasB hs.length i = false) : FnM Try.prog 19 [.padr 1000000000 0, .lit (.int .i64 i)] [(1000000000, .box [.own 1000000001, .own 5]), (1000000001, .row 96 HT true (hs)), (5, .row 50 LT true (fl))] (.lit (.int .i64 1)) [(1000000000, .box [.own 1000000001, .own 5]), (1000000001, .row 96 HT true (hs)), (5, .row 50 LT true (fl))] := by
 have c1 := is_at (fl := fl) h0
 have c2 := has_at (hs := hs) (fl := fl) (l := [i]) (b := false) (by simp) (by simpa using h.symm)
 refine FnM.of_body tys_ok Try.func19 (by rfl) rfl Try.ntmps19 (by rw [Try.results19]) (by simp) ?_
 repeat' (first
 | refine W.seq ?_
 | refine W.block ?_
 | (refine W.regionM (id := 1) tys_ok [12] [1] ?_; conv => whnf)
 | (refine W.regionM (id := 3) tys_ok [12] [3] ?_; conv => whnf)
 | (refine W.region tys_ok [12] ?_; conv => whnf)
 | (refine W.drawAll tys_ok [12] mixed rfl ?_; conv => whnf)
 | (refine W.ret ?_; conv => whnf)
 | (refine W.skip ?_; conv => whnf)
 | (refine W.exit ?_; conv => whnf)
 | (refine callM_at (c1) ?_; conv => whnf)
 | (refine callM_at (c2) ?_; conv => whnf)
 | (refine W.cond rfl (fun hb => ?_) (fun hb => ?_) <;> (try simp only [zr, zd, zm, minL, maxL, pickB, zA] at hb) <;> (try (first | (cases hb; done) | exact absurd hb (by decide) | (exfalso; omega) | (omega))))
 | (refine Or.inl (And.intro trivial ?_); (conv => whnf))
 | ((with_reducible refine And.intro ?_ ?_); exact zc; conv => whnf)
 | ((with_reducible refine And.intro (Side.out ?_) ?_); rotate_left; (conv => whnf))
 | ((first | refine retM1 ?_ | refine retM2 ?_) <;> (conv => whnf) <;> repeat' (first
 | exact trivial
 | (with_reducible rfl)
 | ((with_reducible refine And.intro ?_ ?_) <;> conv => whnf)
 | omega
 | rfl
 | (refine congrArg (SV.arr _) ?_)
 | (refine congrArg (Value.int _) ?_)
 | (refine congrArg Value.bool ?_)))); all_goals (try unfold Side)
 all_goals try (repeat' (first | exact zb | with_reducible refine And.intro ?_ ?_))
theorem idle_none {i : Nat} (hi : i < hs.length) (hw : gw hs i = false) : FnM Try.prog 19 [.padr 1000000000 0, .lit (.int .i64 (i : Int))] [(1000000000, .box [.own 1000000001, .own 5]), (1000000001, .row 96 HT true (hs)), (5, .row 50 LT true (fl))] (.lit (.int .i64 5)) [(1000000000, .box [.own 1000000001, .own 5]), (1000000001, .row 96 HT true (hs)), (5, .row 50 LT true (fl))] := by
 have c1 := is_at (hs := hs) (fl := fl) (by omega)
 have c2 := has_at (hs := hs) (fl := fl) (l := [(i : Int)]) (b := true) (by simp) (by simp [has_of hi])
 have hw' : (hs.getD i H0).1 = false := hw
 have hl : @List.length HT.T hs = hs.length := rfl
 refine FnM.of_body tys_ok Try.func19 (by rfl) rfl Try.ntmps19 (by rw [Try.results19]) (by simp) ?_
 repeat' (first
 | refine W.seq ?_
 | refine W.block ?_
 | (refine W.regionM (id := 1) tys_ok [12] [1] ?_; conv => whnf)
 | (refine W.regionM (id := 3) tys_ok [12] [3] ?_; conv => whnf)
 | (refine W.region tys_ok [12] ?_; conv => whnf)
 | (refine W.drawAll tys_ok [12] mixed rfl ?_; conv => whnf)
 | (refine W.ret ?_; conv => whnf)
 | (refine W.skip ?_; conv => whnf)
 | (refine W.exit ?_; conv => whnf)
 | (refine callM_at (c1) ?_; conv => whnf)
 | (refine callM_at (c2) ?_; conv => whnf)
 | (refine W.cond rfl (fun hb => ?_) (fun hb => ?_) <;> (try simp only [zr, zd, zm, minL, maxL, pickB, zA] at hb) <;> (try (first | (cases hb; done) | exact absurd hb (by decide) | (exfalso; omega) | (omega) | ((simp_all; done)))))
 | (refine Or.inl (And.intro trivial ?_); (conv => whnf))
 | ((with_reducible refine And.intro ?_ ?_); exact zc; conv => whnf)
 | ((with_reducible refine And.intro (Side.out ?_) ?_); rotate_left; (conv => whnf))
 | ((first | refine retM1 ?_ | refine retM2 ?_) <;> (conv => whnf) <;> repeat' (first
 | exact trivial
 | (with_reducible rfl)
 | ((with_reducible refine And.intro ?_ ?_) <;> conv => whnf)
 | omega
 | rfl
 | (refine congrArg (SV.arr _) ?_)
 | (refine congrArg (Value.int _) ?_)
 | (refine congrArg Value.bool ?_)))); all_goals (try unfold Side)
 all_goals try (repeat' (first | exact zb | with_reducible refine And.intro ?_ ?_))
theorem idle_full {i : Nat} (hi : i < hs.length) (hw : gw hs i = true) (hg : goesI hs i = true) (hf : 200 ≤ fl.length) : FnM Try.prog 19 [.padr 1000000000 0, .lit (.int .i64 (i : Int))] [(1000000000, .box [.own 1000000001, .own 5]), (1000000001, .row 96 HT true (hs)), (5, .row 50 LT true (fl))] (.lit (.int .i64 7)) [(1000000000, .box [.own 1000000001, .own 5]), (1000000001, .row 96 HT true (hs)), (5, .row 50 LT true (fl))] := by
 have c1 := is_at (hs := hs) (fl := fl) (by omega)
 have c2 := has_at (hs := hs) (fl := fl) (l := [(i : Int)]) (b := true) (by simp) (by simp [has_of hi])
 have c3 := leaves_at (hs := setW hs i false) (fl := fl) (i := i) (b := true) (by rw [setW_len]; exact hi) (by rw [goes_setW hi, hg])
 have hw' : (hs.getD i H0).1 = true := hw
 have hl : @List.length HT.T hs = hs.length := rfl
 have hlf : @List.length LT.T fl = fl.length := rfl
 have e1 : (setW hs i false).set i (true, ((setW hs i false).getD i H0).2) = hs := by
  unfold setW
  rw [Rg.getD_set hi, if_pos rfl, List.set_set]
  have : (true, ge hs i, gp hs i, go hs i, ()) = hs[i] := by
   have e : hs.getD i H0 = hs[i] := by rw [List.getD_eq_getElem?_getD, List.getElem?_eq_getElem hi]; rfl
   rw [← e, ← hw']
   rfl
  rw [this, List.set_getElem_self]
 have e2 : i < (setW hs i false).length := by rw [setW_len]; exact hi
 refine FnM.of_body tys_ok Try.func19 (by rfl) rfl Try.ntmps19 (by rw [Try.results19]) (by simp) ?_
 repeat' (first
 | refine W.seq ?_
 | refine W.block ?_
 | (refine W.regionM (id := 1) tys_ok [12] [1] ?_; conv => whnf)
 | (refine W.regionM (id := 3) tys_ok [12] [3] ?_; conv => whnf)
 | (refine W.regionM (id := 8) tys_ok [12] [2] ?_; conv => whnf)
 | (refine W.region tys_ok [12] ?_; conv => whnf)
 | (refine W.drawAll tys_ok [12] mixed rfl ?_; conv => whnf)
 | (refine W.ret ?_; conv => whnf)
 | (refine W.skip ?_; conv => whnf)
 | (refine W.exit ?_; conv => whnf)
 | (refine callM_at (c1) ?_; conv => whnf)
 | (refine callM_at (c2) ?_; conv => whnf)
 | (refine callM_at (c3) ?_; conv => whnf)
 | (refine W.cond rfl (fun hb => ?_) (fun hb => ?_) <;> (try simp only [zr, zd, zm, minL, maxL, pickB, zA] at hb) <;> (try (first | (cases hb; done) | exact absurd hb (by decide) | (exfalso; omega) | (omega) | ((simp_all; done)))))
 | (refine Or.inl (And.intro trivial ?_); (conv => whnf))
 | ((with_reducible refine And.intro ?_ ?_); exact zc; conv => whnf)
 | ((with_reducible refine And.intro (Side.out ?_) ?_); rotate_left; (conv => whnf))
 | ((first | refine retM1 ?_ | refine retM2 ?_) <;> (conv => whnf) <;> repeat' (first
 | exact trivial
 | (with_reducible rfl)
 | ((with_reducible refine And.intro ?_ ?_) <;> conv => whnf)
 | omega
 | rfl
 | (refine congrArg (SV.arr _) ?_)
 | (refine congrArg (Value.int _) ?_)
 | (refine congrArg Value.bool ?_)))); all_goals (try unfold Side)
 all_goals try (repeat' (first | exact zb | with_reducible refine And.intro ?_ ?_))
 · simp only [Int.toNat_natCast]
   exact e1
 · simp only [Int.toNat_natCast]
   exact e2
theorem idle_ok {i : Nat} {h2 : List Hd} {f2 : List Lt} (hi : i < hs.length) (hw : gw hs i = true) (hg : ¬ (goesI hs i = true ∧ 200 ≤ fl.length)) (hfl : fl.length ≤ 1000) (h : settL i (setW hs i false, fl) = (h2, f2)) : FnM Try.prog 19 [.padr 1000000000 0, .lit (.int .i64 (i : Int))] [(1000000000, .box [.own 1000000001, .own 5]), (1000000001, .row 96 HT true (hs)), (5, .row 50 LT true (fl))] (.lit (.int .i64 0)) [(1000000000, .box [.own 1000000001, .own 5]), (1000000001, .row 96 HT true (h2)), (5, .row 50 LT true (f2))] := by
 have c1 := is_at (hs := hs) (fl := fl) (by omega)
 have c2 := has_at (hs := hs) (fl := fl) (l := [(i : Int)]) (b := true) (by simp) (by simp [has_of hi])
 have c3 := leaves_at (hs := setW hs i false) (fl := fl) (i := i) (b := goesI hs i) (by rw [setW_len]; exact hi) (by rw [goes_setW hi])
 have c4 := settle_at (hs := setW hs i false) (fl := fl) (i := i) (by rw [setW_len]; exact hi) hfl h
 have hw' : (hs.getD i H0).1 = true := hw
 have hl : @List.length HT.T hs = hs.length := rfl
 have hlf : @List.length LT.T fl = fl.length := rfl
 cases hgi : goesI hs i with
 | false =>
  rw [hgi] at c3
  refine FnM.of_body tys_ok Try.func19 (by rfl) rfl Try.ntmps19 (by rw [Try.results19]) (by simp) ?_
  repeat' (first
 | refine W.seq ?_
 | refine W.block ?_
 | (refine W.regionM (id := 1) tys_ok [12] [1] ?_; conv => whnf)
 | (refine W.regionM (id := 3) tys_ok [12] [3] ?_; conv => whnf)
 | (refine W.regionM (id := 8) tys_ok [12] [2] ?_; conv => whnf)
 | (refine W.regionM (id := 11) tys_ok [12] [2] ?_; conv => whnf)
 | (refine W.region tys_ok [12] ?_; conv => whnf)
 | (refine W.drawAll tys_ok [12] mixed rfl ?_; conv => whnf)
 | (refine W.ret ?_; conv => whnf)
 | (refine W.skip ?_; conv => whnf)
 | (refine W.exit ?_; conv => whnf)
 | (refine callM_at (c1) ?_; conv => whnf)
 | (refine callM_at (c2) ?_; conv => whnf)
 | (refine callM_at (c3) ?_; conv => whnf)
 | (refine callM_at (c4) ?_; conv => whnf)
 | (refine W.cond rfl (fun hb => ?_) (fun hb => ?_) <;> (try simp only [zr, zd, zm, minL, maxL, pickB, zA] at hb) <;> (try (first | (cases hb; done) | exact absurd hb (by decide) | (exfalso; omega) | (omega) | ((simp_all; done)))))
 | (refine Or.inl (And.intro trivial ?_); (conv => whnf))
 | ((with_reducible refine And.intro ?_ ?_); exact zc; conv => whnf)
 | ((with_reducible refine And.intro (Side.out ?_) ?_); rotate_left; (conv => whnf))
 | ((first | refine retM1 ?_ | refine retM2 ?_) <;> (conv => whnf) <;> repeat' (first
 | exact trivial
 | (with_reducible rfl)
 | ((with_reducible refine And.intro ?_ ?_) <;> conv => whnf)
 | omega
 | rfl
 | (refine congrArg (SV.arr _) ?_)
 | (refine congrArg (Value.int _) ?_)
 | (refine congrArg Value.bool ?_)))); all_goals (try unfold Side)
  all_goals try (repeat' (first | exact zb | with_reducible refine And.intro ?_ ?_))
 | true =>
  rw [hgi] at c3
  have hf : ¬ 200 ≤ fl.length := fun h => hg ⟨hgi, h⟩
  refine FnM.of_body tys_ok Try.func19 (by rfl) rfl Try.ntmps19 (by rw [Try.results19]) (by simp) ?_
  repeat' (first
 | refine W.seq ?_
 | refine W.block ?_
 | (refine W.regionM (id := 1) tys_ok [12] [1] ?_; conv => whnf)
 | (refine W.regionM (id := 3) tys_ok [12] [3] ?_; conv => whnf)
 | (refine W.regionM (id := 8) tys_ok [12] [2] ?_; conv => whnf)
 | (refine W.regionM (id := 11) tys_ok [12] [2] ?_; conv => whnf)
 | (refine W.region tys_ok [12] ?_; conv => whnf)
 | (refine W.drawAll tys_ok [12] mixed rfl ?_; conv => whnf)
 | (refine W.ret ?_; conv => whnf)
 | (refine W.skip ?_; conv => whnf)
 | (refine W.exit ?_; conv => whnf)
 | (refine callM_at (c1) ?_; conv => whnf)
 | (refine callM_at (c2) ?_; conv => whnf)
 | (refine callM_at (c3) ?_; conv => whnf)
 | (refine callM_at (c4) ?_; conv => whnf)
 | (refine W.cond rfl (fun hb => ?_) (fun hb => ?_) <;> (try simp only [zr, zd, zm, minL, maxL, pickB, zA] at hb) <;> (try (first | (cases hb; done) | exact absurd hb (by decide) | (exfalso; omega) | (omega) | ((simp_all; done)))))
 | (refine Or.inl (And.intro trivial ?_); (conv => whnf))
 | ((with_reducible refine And.intro ?_ ?_); exact zc; conv => whnf)
 | ((with_reducible refine And.intro (Side.out ?_) ?_); rotate_left; (conv => whnf))
 | ((first | refine retM1 ?_ | refine retM2 ?_) <;> (conv => whnf) <;> repeat' (first
 | exact trivial
 | (with_reducible rfl)
 | ((with_reducible refine And.intro ?_ ?_) <;> conv => whnf)
 | omega
 | rfl
 | (refine congrArg (SV.arr _) ?_)
 | (refine congrArg (Value.int _) ?_)
 | (refine congrArg Value.bool ?_)))); all_goals (try unfold Side)
  all_goals try (repeat' (first | exact zb | with_reducible refine And.intro ?_ ?_))
end Go.Proofs.Ytkjcnegkdlmapaa
