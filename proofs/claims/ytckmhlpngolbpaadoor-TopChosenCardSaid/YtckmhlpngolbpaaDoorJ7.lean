/- Joined of: R5 R7 R6 C5. No condition. -/
import Derived.Test.YtckmhlpngolbpaaDoorJ6
import Derived.Test.YtckmhlpngolbpaaDoorJ5
set_option linter.unusedVariables false
set_option linter.unusedSimpArgs false
namespace Go.Proofs.YtckmhlpngolbpaaDoor
open Int renaming reduceToNat → zr, reduceTDiv → zd, reduceTMod → zm
open Go Go.Vc Go.Rg
variable {n : Nat} {pet : Bool} {r : Rn}
set_option maxHeartbeats 4000000 in
theorem rdel_ok_c {i : Nat} (h : ROk n false r) (hi : i < n) (hs : r.2.2 ≤ 900000) (h0 : (r.2.1.getD i []).length ≠ 0) : FnM Tryd.prog 9 [.padr 1000000000 0, (.lit (.int .i64 (i : Int)))] [(1000000000, .box [.lit (.bool true), .lit (.bool false), .own 1000000001, .mown 5, (.lit (.int .i64 ((r).2.2 : Int)))]), (1000000001, .row 73 PT true (r).1), (5, .mat 77 79 NT true (r).2.1 none)] (.lit (.int .i64 (0 : Int))) [(1000000000, .box [.lit (.bool true), .lit (.bool false), .own 1000000001, .mown 5, (.lit (.int .i64 (((rdelL false i r)).2.2 : Int)))]), (1000000001, .row 73 PT true ((rdelL false i r)).1), (5, .mat 77 79 NT true ((rdelL false i r)).2.1 none)] := by
 have hs0 := h.s0
 have hp : i < r.1.length := by rw [h.len]; exact hi
 have hF : i < r.2.1.length := by rw [h.fln]; exact hi
 have hd := h.drop hi
 have hn0 := h.n0
 have hn1 := h.n1
 have hj : (i + 1) % n < n := Nat.mod_lt _ hn0
 obtain ⟨F2, hF2⟩ : ∃ F2, F2 = r.2.1.set i ((r.2.1.getD i []).drop 1) := ⟨_, rfl⟩
 obtain ⟨k, hk⟩ : ∃ k, k = ((r.2.1.getD i []).getD 0 N0).1 := ⟨_, rfl⟩
 obtain ⟨v, hv⟩ : ∃ v, v = ((r.2.1.getD i []).getD 0 N0).2.1 := ⟨_, rfl⟩
 have eL : rdelL false i r = changR ((i + 1) % n) k v (r.1, F2, r.2.2) := by unfold rdelL recvR; rw [h.len, ← hk, ← hv, ← hF2]; rfl
 rw [eL]
 have c1 := ris_at (pet := false) (r := r)
 have c2 := rhas_at (pet := false) (r := r) (has_of hp).symm
 have c3 := chang_at (pet := false) (r := (r.1, F2, r.2.2)) (i := (i + 1) % n) (k := k) (v := v) (by show _ < r.1.length; rw [h.len]; exact hj) (by rw [hF2]; show _ < (List.set _ _ _).length; rw [List.length_set, h.fln]; exact hj) (by rw [hF2]; exact hd.fl _) (by dsimp only; omega)
 have hl : @List.length PT.T r.1 = n := h.len
 have em : ((i : Int) + 1).tmod (n : Int) = (((i + 1) % n : Nat) : Int) := by
  rw [show (i : Int) + 1 = ((i + 1 : Nat) : Int) by omega]; exact (Int.ofNat_tmod _ _).symm
 have em' : ((i : Int) + 1).tmod (r.1.length : Int) = (((i + 1) % n : Nat) : Int) := by rw [h.len]; exact em
 have e0 : 0 ≤ (i : Int) ∧ i < r.2.1.length := ⟨by omega, hF⟩
 have e1 : 0 ≤ (0 : Int) ∧ 0 < (r.2.1.getD i []).length := ⟨by omega, by omega⟩
 have e2 : 0 ≤ (0 : Int) ∧ (0 : Int) < 1 ∧ (1 : Int).toNat ≤ (r.2.1.getD i []).length ∧ (r.2.1.getD i []).length ≤ 4294967296 := by
  have := h.fl i
  exact ⟨by omega, by omega, by show 1 ≤ _; omega, by omega⟩
 have e9 : (r.2.1.getD i []).length ≤ 4294967296 := e2.2.2.2
 have e3 : i < (r.2.1.set i ((r.2.1.getD i []).take 0 ++ (r.2.1.getD i []).drop 1)).length := by rw [List.length_set]; exact hF
 have e4 : 0 ≤ (i : Int) ∧ i < (r.2.1.set i ((r.2.1.getD i []).take 0 ++ (r.2.1.getD i []).drop 1)).length := ⟨by omega, e3⟩
 have e5 : r.2.1.set i ((r.2.1.getD i []).take 0 ++ (r.2.1.getD i []).drop 1) = F2 := by rw [hF2]; rfl
 have e6 : ((r.2.1.getD i []).getD 0 N0).1 = k := hk.symm
 have e7 : ((r.2.1.getD i []).getD 0 N0).2.1 = v := hv.symm
 have e8 : ¬ @List.length NT.T (@List.getD (List NT.T) r.2.1 i []) = 0 := h0
 refine FnM.of_body tys_ok Tryd.func9 (by rfl) rfl Tryd.ntmps9 (by rw [Tryd.results9]) (by simp) ?_
 repeat' (first
 | refine W.seq ?_
 | refine W.block ?_
 | (refine W.regionM (id := 1) tys_ok [] [1] ?_; conv => whnf)
 | (refine W.regionM (id := 3) tys_ok [] [2] ?_; conv => whnf)
 | (refine W.resub (x := Code.region 8 _ _) (Γ' := ⟨[(0, .padr 1000000000 0), (1, (.lit (.int .i64 (i : Int)))), (5, .padr 6000 0)], [(1000000000, .box [.lit (.bool true), .lit (.bool false), .own 1000000001, .mown 5, (.lit (.int .i64 ((r).2.2 : Int)))]), (1000000001, .row 73 PT true (r).1), (5, .mat 77 79 NT true (r).2.1 none), (6000, .box [(.lit (.int .i64 (k : Int))), (.lit (.int .i64 (v : Int)))])]⟩) ?_ ?_; rotate_left; refine W.drawMTo (id := 8) tys_ok [] [12] mixed [0, 1, 2, 4, 0, 0, 32, 64, 128, 0, 768, 1024, 2048, 8191, 16383] [([0, 1, 2, 4, 5, 6, 7, 9], 5, 8191), ([13], 1, 32767)] ⟨[(0, .padr 1000000000 0), (1, (.lit (.int .i64 (i : Int)))), (5, .padr 6000 0)], [(1000000000, .box [.lit (.bool true), .lit (.bool false), .own 1000000001, .mown 5, (.lit (.int .i64 (((r.1, F2, r.2.2)).2.2 : Int)))]), (1000000001, .row 73 PT true ((r.1, F2, r.2.2)).1), (5, .mat 77 79 NT true ((r.1, F2, r.2.2)).2.1 none), (6000, .box [(.lit (.int .i64 (k : Int))), (.lit (.int .i64 (v : Int)))])]⟩ (by decide +kernel) ?_ ?_; (conv => whnf); rotate_left; (conv => whnf))
 | (refine W.resub (x := Code.region 12 _ _) (Γ' := ⟨[(0, .padr 1000000000 0), (1, (.lit (.int .i64 (i : Int)))), (5, .padr 6000 0), (6, .fn 1000020 [.padr 1000000000 0])], [(1000000000, .box [.lit (.bool true), .lit (.bool false), .own 1000000001, .mown 5, (.lit (.int .i64 (((r.1, F2, r.2.2)).2.2 : Int)))]), (1000000001, .row 73 PT true ((r.1, F2, r.2.2)).1), (5, .mat 77 79 NT true ((r.1, F2, r.2.2)).2.1 none), (6000, .box [(.lit (.int .i64 (k : Int))), (.lit (.int .i64 (v : Int)))])]⟩) ?_ (W.drawM (id := 12) tys_ok [] [10] mixed [0, 0, 2, 0, 8, 16, 32, 64, 132, 0, 769] [([0, 1, 2, 3, 4, 5], 4, 1023), ([], 1, 2047)] (by decide +kernel) ?_); rotate_left; (conv => whnf))
 | (refine W.region tys_ok [] ?_; conv => whnf)
 | (refine W.drawAll tys_ok [] mixed rfl ?_; conv => whnf)
 | (refine W.ret ?_; conv => whnf)
 | (refine W.skip ?_; conv => whnf)
 | (refine W.exit ?_; conv => whnf)
 | (refine callM_at (c1) ?_; conv => whnf)
 | (refine callM_at (c2) ?_; conv => whnf)
 | (refine callM_at (c3) ?_; conv => whnf)
 | (refine And.intro del_note ?_; (conv => whnf))
 | (refine Both.mk ?_ ?_ <;> (conv => whnf))
 | (refine W.cond rfl (fun hb => ?_) (fun hb => ?_) <;> (try simp only [zr, zd, zm, minL, maxL, pickB, zA] at hb) <;> (try (first | (cases hb; done) | exact absurd hb (by decide) | (exfalso; omega) | (omega) | ((simp_all; done)))))
 | (refine Or.inl (And.intro trivial ?_); (conv => whnf))
 | ((with_reducible refine And.intro ?_ ?_); exact zc; conv => whnf)
 | ((with_reducible refine And.intro (Side.out ?_) ?_); rotate_left; (conv => whnf))
 | ((first | refine retM1 ?_ | refine retM2 ?_ | refine subF.leaf ?_ | refine subF.side ?_) <;> (conv => whnf) <;> repeat' (first
 | exact trivial
 | (with_reducible rfl)
 | ((with_reducible refine And.intro ?_ ?_) <;> conv => whnf)
 | omega
 | rfl
 | (refine congrArg (SV.arr _) ?_)
 | (refine congrArg (Value.int _) ?_)
 | (refine congrArg Value.bool ?_)))); all_goals (try unfold Side)
 all_goals try (repeat' (first | exact zb | with_reducible refine And.intro ?_ ?_))
 all_goals first | exact e9 | exact hF | exact e3 | exact e5 | exact e6 | exact e7 | exact em | exact em' | exact Path.imp_of hF | exact Path.imp_of e0 | exact Path.imp_of e1 | exact e2 | exact Path.imp_of e4 | skip
set_option maxHeartbeats 4000000 in
theorem rdel_ok_p {i : Nat} (h : ROk n true r) (hi : i < n) (hs : r.2.2 ≤ 900000) (h0 : (r.2.1.getD i []).length ≠ 0) : FnM Tryd.prog 9 [.padr 1000000000 0, (.lit (.int .i64 (i : Int)))] [(1000000000, .box [.lit (.bool true), .lit (.bool true), .own 1000000001, .mown 5, (.lit (.int .i64 ((r).2.2 : Int)))]), (1000000001, .row 73 PT true (r).1), (5, .mat 77 79 NT true (r).2.1 none)] (.lit (.int .i64 (0 : Int))) [(1000000000, .box [.lit (.bool true), .lit (.bool true), .own 1000000001, .mown 5, (.lit (.int .i64 (((rdelL true i r)).2.2 : Int)))]), (1000000001, .row 73 PT true ((rdelL true i r)).1), (5, .mat 77 79 NT true ((rdelL true i r)).2.1 none)] := by
 have hs0 := h.s0
 have hp : i < r.1.length := by rw [h.len]; exact hi
 have hF : i < r.2.1.length := by rw [h.fln]; exact hi
 have hd := h.drop hi
 have hn0 := h.n0
 have hn1 := h.n1
 have hj : (i + 1) % n < n := Nat.mod_lt _ hn0
 obtain ⟨F2, hF2⟩ : ∃ F2, F2 = r.2.1.set i ((r.2.1.getD i []).drop 1) := ⟨_, rfl⟩
 obtain ⟨k, hk⟩ : ∃ k, k = ((r.2.1.getD i []).getD 0 N0).1 := ⟨_, rfl⟩
 obtain ⟨v, hv⟩ : ∃ v, v = ((r.2.1.getD i []).getD 0 N0).2.1 := ⟨_, rfl⟩
 have eL : rdelL true i r = peterR ((i + 1) % n) k v (r.1, F2, r.2.2) := by unfold rdelL recvR; rw [h.len, ← hk, ← hv, ← hF2]; rfl
 rw [eL]
 have c1 := ris_at (pet := true) (r := r)
 have c2 := rhas_at (pet := true) (r := r) (has_of hp).symm
 have c3 := peter_at (pet := true) (r := (r.1, F2, r.2.2)) (i := (i + 1) % n) (k := k) (v := v) (by show _ < r.1.length; rw [h.len]; exact hj) (by rw [hF2]; show _ < (List.set _ _ _).length; rw [List.length_set, h.fln]; exact hj) (by rw [hF2]; exact hd.fl _) (by dsimp only; omega)
 have hl : @List.length PT.T r.1 = n := h.len
 have em : ((i : Int) + 1).tmod (n : Int) = (((i + 1) % n : Nat) : Int) := by
  rw [show (i : Int) + 1 = ((i + 1 : Nat) : Int) by omega]; exact (Int.ofNat_tmod _ _).symm
 have em' : ((i : Int) + 1).tmod (r.1.length : Int) = (((i + 1) % n : Nat) : Int) := by rw [h.len]; exact em
 have e0 : 0 ≤ (i : Int) ∧ i < r.2.1.length := ⟨by omega, hF⟩
 have e1 : 0 ≤ (0 : Int) ∧ 0 < (r.2.1.getD i []).length := ⟨by omega, by omega⟩
 have e2 : 0 ≤ (0 : Int) ∧ (0 : Int) < 1 ∧ (1 : Int).toNat ≤ (r.2.1.getD i []).length ∧ (r.2.1.getD i []).length ≤ 4294967296 := by
  have := h.fl i
  exact ⟨by omega, by omega, by show 1 ≤ _; omega, by omega⟩
 have e9 : (r.2.1.getD i []).length ≤ 4294967296 := e2.2.2.2
 have e3 : i < (r.2.1.set i ((r.2.1.getD i []).take 0 ++ (r.2.1.getD i []).drop 1)).length := by rw [List.length_set]; exact hF
 have e4 : 0 ≤ (i : Int) ∧ i < (r.2.1.set i ((r.2.1.getD i []).take 0 ++ (r.2.1.getD i []).drop 1)).length := ⟨by omega, e3⟩
 have e5 : r.2.1.set i ((r.2.1.getD i []).take 0 ++ (r.2.1.getD i []).drop 1) = F2 := by rw [hF2]; rfl
 have e6 : ((r.2.1.getD i []).getD 0 N0).1 = k := hk.symm
 have e7 : ((r.2.1.getD i []).getD 0 N0).2.1 = v := hv.symm
 have e8 : ¬ @List.length NT.T (@List.getD (List NT.T) r.2.1 i []) = 0 := h0
 refine FnM.of_body tys_ok Tryd.func9 (by rfl) rfl Tryd.ntmps9 (by rw [Tryd.results9]) (by simp) ?_
 repeat' (first
 | refine W.seq ?_
 | refine W.block ?_
 | (refine W.regionM (id := 1) tys_ok [] [1] ?_; conv => whnf)
 | (refine W.regionM (id := 3) tys_ok [] [2] ?_; conv => whnf)
 | (refine W.resub (x := Code.region 8 _ _) (Γ' := ⟨[(0, .padr 1000000000 0), (1, (.lit (.int .i64 (i : Int)))), (5, .padr 6000 0)], [(1000000000, .box [.lit (.bool true), .lit (.bool true), .own 1000000001, .mown 5, (.lit (.int .i64 ((r).2.2 : Int)))]), (1000000001, .row 73 PT true (r).1), (5, .mat 77 79 NT true (r).2.1 none), (6000, .box [(.lit (.int .i64 (k : Int))), (.lit (.int .i64 (v : Int)))])]⟩) ?_ ?_; rotate_left; refine W.drawMTo (id := 8) tys_ok [] [12] mixed [0, 1, 2, 4, 0, 0, 32, 64, 128, 0, 768, 1024, 2048, 8191, 16383] [([0, 1, 2, 4, 5, 6, 7, 9], 5, 8191), ([13], 1, 32767)] ⟨[(0, .padr 1000000000 0), (1, (.lit (.int .i64 (i : Int)))), (5, .padr 6000 0)], [(1000000000, .box [.lit (.bool true), .lit (.bool true), .own 1000000001, .mown 5, (.lit (.int .i64 (((r.1, F2, r.2.2)).2.2 : Int)))]), (1000000001, .row 73 PT true ((r.1, F2, r.2.2)).1), (5, .mat 77 79 NT true ((r.1, F2, r.2.2)).2.1 none), (6000, .box [(.lit (.int .i64 (k : Int))), (.lit (.int .i64 (v : Int)))])]⟩ (by decide +kernel) ?_ ?_; (conv => whnf); rotate_left; (conv => whnf))
 | (refine W.resub (x := Code.region 12 _ _) (Γ' := ⟨[(0, .padr 1000000000 0), (1, (.lit (.int .i64 (i : Int)))), (5, .padr 6000 0), (6, .fn 1000021 [.padr 1000000000 0])], [(1000000000, .box [.lit (.bool true), .lit (.bool true), .own 1000000001, .mown 5, (.lit (.int .i64 (((r.1, F2, r.2.2)).2.2 : Int)))]), (1000000001, .row 73 PT true ((r.1, F2, r.2.2)).1), (5, .mat 77 79 NT true ((r.1, F2, r.2.2)).2.1 none), (6000, .box [(.lit (.int .i64 (k : Int))), (.lit (.int .i64 (v : Int)))])]⟩) ?_ (W.drawM (id := 12) tys_ok [] [10] mixed [0, 0, 2, 0, 8, 16, 32, 64, 132, 0, 769] [([0, 1, 2, 3, 4, 5], 4, 1023), ([], 1, 2047)] (by decide +kernel) ?_); rotate_left; (conv => whnf))
 | (refine W.region tys_ok [] ?_; conv => whnf)
 | (refine W.drawAll tys_ok [] mixed rfl ?_; conv => whnf)
 | (refine W.ret ?_; conv => whnf)
 | (refine W.skip ?_; conv => whnf)
 | (refine W.exit ?_; conv => whnf)
 | (refine callM_at (c1) ?_; conv => whnf)
 | (refine callM_at (c2) ?_; conv => whnf)
 | (refine callM_at (c3) ?_; conv => whnf)
 | (refine And.intro del_note ?_; (conv => whnf))
 | (refine Both.mk ?_ ?_ <;> (conv => whnf))
 | (refine W.cond rfl (fun hb => ?_) (fun hb => ?_) <;> (try simp only [zr, zd, zm, minL, maxL, pickB, zA] at hb) <;> (try (first | (cases hb; done) | exact absurd hb (by decide) | (exfalso; omega) | (omega) | ((simp_all; done)))))
 | (refine Or.inl (And.intro trivial ?_); (conv => whnf))
 | ((with_reducible refine And.intro ?_ ?_); exact zc; conv => whnf)
 | ((with_reducible refine And.intro (Side.out ?_) ?_); rotate_left; (conv => whnf))
 | ((first | refine retM1 ?_ | refine retM2 ?_ | refine subF.leaf ?_ | refine subF.side ?_) <;> (conv => whnf) <;> repeat' (first
 | exact trivial
 | (with_reducible rfl)
 | ((with_reducible refine And.intro ?_ ?_) <;> conv => whnf)
 | omega
 | rfl
 | (refine congrArg (SV.arr _) ?_)
 | (refine congrArg (Value.int _) ?_)
 | (refine congrArg Value.bool ?_)))); all_goals (try unfold Side)
 all_goals try (repeat' (first | exact zb | with_reducible refine And.intro ?_ ?_))
 all_goals first | exact e9 | exact hF | exact e3 | exact e5 | exact e6 | exact e7 | exact em | exact em' | exact Path.imp_of hF | exact Path.imp_of e0 | exact Path.imp_of e1 | exact e2 | exact Path.imp_of e4 | skip
open Go Go.Vc Go.Rg
variable {n : Nat} {pet : Bool} {r r2 : Rn} {e : Int}
theorem start_ring {i : Int} (h : ROk n pet r) (hs : r.2.2 ≤ 900000) (he : startE i r = e) (hr : startK i r = r2) : FnM Tryd.prog 8 [.padr 1000000000 0, (.lit (.int .i64 (i : Int)))] [(1000000000, .box [.lit (.bool true), .lit (.bool pet), .own 1000000001, .mown 5, (.lit (.int .i64 ((r).2.2 : Int)))]), (1000000001, .row 73 PT true (r).1), (5, .mat 77 79 NT true (r).2.1 none)] (.lit (.int .i64 (e : Int))) [(1000000000, .box [.lit (.bool true), .lit (.bool pet), .own 1000000001, .mown 5, (.lit (.int .i64 ((r2).2.2 : Int)))]), (1000000001, .row 73 PT true (r2).1), (5, .mat 77 79 NT true (r2).2.1 none)] := by
 have hs0 := h.s0
 unfold startK at hr
 rw [he] at hr
 unfold startE at he
 split at he
 · rename_i h1
   obtain ⟨j, rfl, hj⟩ := has_nat h1
   rw [Int.toNat_natCast] at he hr
   split at he
   · rename_i h2
     subst he
     rw [if_neg (by decide)] at hr
     subst hr
     exact start_none hj h2
   · rename_i h2
     subst he
     rw [if_pos rfl] at hr
     subst hr
     exact start_ok hj (by rw [h.fln, ← h.len]; exact hj) (h.fl j) (by omega) (by simpa using h2)
 · rename_i h1
   subst he
   rw [if_neg (by decide)] at hr
   subst hr
   exact start_arg (by simpa using h1)
theorem deliver_ring {i : Int} (h : ROk n pet r) (hs : r.2.2 ≤ 900000) (he : rdelE i r = e) (hr : rdelK pet i r = r2) : FnM Tryd.prog 9 [.padr 1000000000 0, (.lit (.int .i64 (i : Int)))] [(1000000000, .box [.lit (.bool true), .lit (.bool pet), .own 1000000001, .mown 5, (.lit (.int .i64 ((r).2.2 : Int)))]), (1000000001, .row 73 PT true (r).1), (5, .mat 77 79 NT true (r).2.1 none)] (.lit (.int .i64 (e : Int))) [(1000000000, .box [.lit (.bool true), .lit (.bool pet), .own 1000000001, .mown 5, (.lit (.int .i64 ((r2).2.2 : Int)))]), (1000000001, .row 73 PT true (r2).1), (5, .mat 77 79 NT true (r2).2.1 none)] := by
 have hs0 := h.s0
 unfold rdelK at hr
 rw [he] at hr
 unfold rdelE at he
 split at he
 · rename_i h1
   obtain ⟨j, rfl, hj⟩ := has_nat h1
   rw [Int.toNat_natCast] at he hr
   split at he
   · rename_i h2
     subst he
     rw [if_neg (by decide)] at hr
     subst hr
     exact rdel_none hj (by rw [h.fln, ← h.len]; exact hj) h2
   · rename_i h2
     subst he
     rw [if_pos rfl] at hr
     subst hr
     have hjn : j < n := by rw [← h.len]; exact hj
     cases pet with
     | false => exact rdel_ok_c h hjn hs h2
     | true => exact rdel_ok_p h hjn hs h2
 · rename_i h1
   subst he
   rw [if_neg (by decide)] at hr
   subst hr
   exact rdel_arg (by simpa using h1)
open Int renaming reduceToNat → zr, reduceTDiv → zd, reduceTMod → zm
open Go Go.Vc Go.Rg
def ixN (l : List Int) (x : Int) (i : Nat) : Int := if x ∈ l.drop i then ((i + (l.drop i).idxOf x : Nat) : Int) else -1
theorem ixN_end {l : List Int} {x : Int} {i : Nat} (h : l.length ≤ i) : ixN l x i = -1 := by
 unfold ixN
 rw [List.drop_of_length_le h]
 rfl
theorem getD_eq {l : List Int} {i : Nat} (h : i < l.length) : l.getD i 0 = l[i] := by rw [List.getD_eq_getElem?_getD, List.getElem?_eq_getElem h]; rfl
theorem ixN_hit {l : List Int} {x : Int} {i : Nat} (h : i < l.length) (hx : x = l.getD i 0) : ixN l x i = (i : Int) := by
 unfold ixN
 rw [List.drop_eq_getElem_cons h, ← getD_eq h, ← hx]
 simp
theorem ixN_miss {l : List Int} {x : Int} {i : Nat} (h : i < l.length) (hx : x ≠ l.getD i 0) : ixN l x i = ixN l x (i + 1) := by
 unfold ixN
 rw [List.drop_eq_getElem_cons h, ← getD_eq h]
 have h1 : (x ∈ l.getD i 0 :: l.drop (i + 1)) ↔ x ∈ l.drop (i + 1) :=
  ⟨fun h => (List.mem_cons.1 h).elim (fun e => absurd e hx) id, List.mem_cons_of_mem _⟩
 by_cases e : x ∈ l.drop (i + 1)
 · rw [if_pos (h1.2 e), if_pos e, List.idxOf_cons]
   have : (l.getD i 0 == x) = false := by simpa using fun h => hx h.symm
   rw [this]
   simp only [cond_false]
   congr 1
   omega
 · rw [if_neg (fun h => e (h1.1 h)), if_neg e]
theorem ixN_sign {l : List Int} {x : Int} : decide (0 ≤ ixN l x 0) = decide (x ∈ l) := by
 unfold ixN
 rw [List.drop_zero, decide_eq_decide]
 by_cases e : x ∈ l
 · rw [if_pos e]; simp only [e, iff_true]; omega
 · rw [if_neg e]; simp only [e, iff_false]; omega
theorem indexN_at {l : List Int} {x : Int} (hll : l.length ≤ 1000) : FnAt Tryd.prog false 37 [.arr (.int .i64) l, I64 x] (.lit (.int .i64 (ixN l x 0 : Int))) [] := by
 have hl : @List.length (Ty.int .i64).T l = l.length := rfl
 refine FnAt.of_body tys_ok Tryd.func37 (by rfl) rfl Tryd.ntmps37 (by rw [Tryd.results37]) (by simp) ?_
 repeat' (first
 | refine W.seq ?_
 | refine W.block ?_
 | (refine W.region tys_ok [] ?_; conv => whnf)
 | (refine W.drawAll tys_ok [] mixed rfl ?_; conv => whnf)
 | (refine W.ret ?_; conv => whnf)
 | (refine W.skip ?_; conv => whnf)
 | (refine W.exit ?_; conv => whnf)
 | (refine W.cond rfl (fun hb => ?_) (fun hb => ?_) <;> (try simp only [zr, zd, zm, minL, maxL, pickB, zA] at hb) <;> (try (first | (cases hb; done) | exact absurd hb (by decide) | (exfalso; omega) | (omega))))
 | ((with_reducible refine And.intro ?_ ?_); exact zc; conv => whnf)
 | ((with_reducible refine And.intro (Side.out ?_) ?_); rotate_left; (conv => whnf))
 | ((first | refine retF1 ?_ | refine retF2 ?_) <;> (conv => whnf) <;> repeat' (first
 | exact trivial
 | (with_reducible rfl)
 | ((with_reducible refine And.intro ?_ ?_) <;> conv => whnf)
 | omega
 | rfl
 | (refine congrArg (SV.arr _) ?_)
 | (refine congrArg (Value.int _) ?_)
 | (refine congrArg Value.bool ?_)))); all_goals (try unfold Side)
 all_goals try (repeat' (first | exact zb | with_reducible refine And.intro ?_ ?_))
 refine W.loop (fun i : Nat => ⟨[(0, .st false (.arr (.int .i64) l)), (1, (.lit (.int .i64 (x : Int)))), (7, (.lit (.int .i64 (l.length : Int)))), (8, (.lit (.int .i64 (i : Int))))], []⟩) (fun i => i ≤ l.length ∧ ixN l x 0 = ixN l x i) (fun i => l.length - i) (0) ?_ ?_
 · refine ⟨⟨Nat.zero_le _, rfl⟩, ?_⟩
   refine subF.ok ?_ <;> (conv => whnf) <;> repeat' (first
 | exact trivial
 | (with_reducible rfl)
 | ((with_reducible refine And.intro ?_ ?_) <;> conv => whnf)
 | omega
 | rfl
 | (refine congrArg (SV.arr _) ?_)
 | (refine congrArg (Value.int _) ?_)
 | (refine congrArg Value.bool ?_))
 · rintro i ⟨hi, hix⟩
   by_cases hil : i < l.length
   · by_cases hx : x = l.getD i 0
     · have hy := ixN_hit hil hx
       repeat' (first
 | refine W.seq ?_
 | refine W.block ?_
 | (refine W.region tys_ok [] ?_; conv => whnf)
 | (refine W.drawAll tys_ok [] mixed rfl ?_; conv => whnf)
 | (refine W.ret ?_; conv => whnf)
 | (refine W.skip ?_; conv => whnf)
 | (refine W.exit ?_; conv => whnf)
 | (refine W.cond rfl (fun hb => ?_) (fun hb => ?_) <;> (try simp only [zr, zd, zm, minL, maxL, pickB, zA] at hb) <;> (try (first | (cases hb; done) | exact absurd hb (by decide) | (exfalso; omega) | (omega) | ((simp_all; done)))))
 | ((with_reducible refine And.intro ?_ ?_); exact zc; conv => whnf)
 | ((with_reducible refine And.intro (Side.out ?_) ?_); rotate_left; (conv => whnf))
 | ((first | refine retF1 ?_ | refine retF2 ?_) <;> (conv => whnf) <;> repeat' (first
 | exact trivial
 | (with_reducible rfl)
 | ((with_reducible refine And.intro ?_ ?_) <;> conv => whnf)
 | omega
 | rfl
 | (refine congrArg (SV.arr _) ?_)
 | (refine congrArg (Value.int _) ?_)
 | (refine congrArg Value.bool ?_)))); all_goals (try unfold Side)
       all_goals try (repeat' (first | exact zb | with_reducible refine And.intro ?_ ?_))
       all_goals (rw [hix, hy])
     · have hy := ixN_miss hil hx
       repeat' (first
 | refine W.seq ?_
 | refine W.block ?_
 | (refine W.region tys_ok [] ?_; conv => whnf)
 | (refine W.drawAll tys_ok [] mixed rfl ?_; conv => whnf)
 | (refine W.ret ?_; conv => whnf)
 | (refine W.skip ?_; conv => whnf)
 | (refine W.exit ?_; conv => whnf)
 | (refine W.cond rfl (fun hb => ?_) (fun hb => ?_) <;> (try simp only [zr, zd, zm, minL, maxL, pickB, zA] at hb) <;> (try (first | (cases hb; done) | exact absurd hb (by decide) | (exfalso; omega) | (omega) | ((simp_all; done)))))
 | ((with_reducible refine And.intro ?_ ?_); exact zc; conv => whnf)
 | ((with_reducible refine And.intro (Side.out ?_) ?_); rotate_left; (conv => whnf))
 | ((first | refine retF1 ?_ | refine retF2 ?_) <;> (conv => whnf) <;> repeat' (first
 | exact trivial
 | (with_reducible rfl)
 | ((with_reducible refine And.intro ?_ ?_) <;> conv => whnf)
 | omega
 | rfl
 | (refine congrArg (SV.arr _) ?_)
 | (refine congrArg (Value.int _) ?_)
 | (refine congrArg Value.bool ?_)))); all_goals (try unfold Side)
       all_goals try (repeat' (first | exact zb | with_reducible refine And.intro ?_ ?_))
       refine ⟨i + 1, ⟨⟨by omega, by rw [hix, hy]⟩, by omega⟩, ?_⟩
       refine subF.ok ?_ <;> (conv => whnf) <;> repeat' (first
 | exact trivial
 | (with_reducible rfl)
 | ((with_reducible refine And.intro ?_ ?_) <;> conv => whnf)
 | omega
 | rfl
 | (refine congrArg (SV.arr _) ?_)
 | (refine congrArg (Value.int _) ?_)
 | (refine congrArg Value.bool ?_))
   · have hy := ixN_end (l := l) (x := x) (i := i) (by omega)
     repeat' (first
 | refine W.seq ?_
 | refine W.block ?_
 | (refine W.region tys_ok [] ?_; conv => whnf)
 | (refine W.drawAll tys_ok [] mixed rfl ?_; conv => whnf)
 | (refine W.ret ?_; conv => whnf)
 | (refine W.skip ?_; conv => whnf)
 | (refine W.exit ?_; conv => whnf)
 | (refine W.cond rfl (fun hb => ?_) (fun hb => ?_) <;> (try simp only [zr, zd, zm, minL, maxL, pickB, zA] at hb) <;> (try (first | (cases hb; done) | exact absurd hb (by decide) | (exfalso; omega) | (omega))))
 | ((with_reducible refine And.intro ?_ ?_); exact zc; conv => whnf)
 | ((with_reducible refine And.intro (Side.out ?_) ?_); rotate_left; (conv => whnf))
 | ((first | refine retF1 ?_ | refine retF2 ?_) <;> (conv => whnf) <;> repeat' (first
 | exact trivial
 | (with_reducible rfl)
 | ((with_reducible refine And.intro ?_ ?_) <;> conv => whnf)
 | omega
 | rfl
 | (refine congrArg (SV.arr _) ?_)
 | (refine congrArg (Value.int _) ?_)
 | (refine congrArg Value.bool ?_)))); all_goals (try unfold Side)
     all_goals try (repeat' (first | exact zb | with_reducible refine And.intro ?_ ?_))
     all_goals (rw [hix, hy])
theorem containsN_at {l : List Int} {x : Int} {b : Bool} (hll : l.length ≤ 1000) (h : b = decide (x ∈ l)) : FnAt Tryd.prog false 15 [.arr (.int .i64) l, I64 x] (.lit (.bool b)) [] := by
 subst h
 have c1 := indexN_at (x := x) hll
 have hs := ixN_sign (l := l) (x := x)
 refine FnAt.of_body tys_ok Tryd.func15 (by rfl) rfl Tryd.ntmps15 (by rw [Tryd.results15]) (by simp) ?_
 repeat' (first
 | refine W.seq ?_
 | refine W.block ?_
 | (refine W.region tys_ok [] ?_; conv => whnf)
 | (refine W.drawAll tys_ok [] mixed rfl ?_; conv => whnf)
 | (refine W.ret ?_; conv => whnf)
 | (refine W.skip ?_; conv => whnf)
 | (refine W.exit ?_; conv => whnf)
 | (refine call_at (al := false) (c1) rfl rfl rfl rfl ?_; conv => whnf)
 | (refine W.cond rfl (fun hb => ?_) (fun hb => ?_) <;> (try simp only [zr, zd, zm, minL, maxL, pickB, zA] at hb) <;> (try (first | (cases hb; done) | exact absurd hb (by decide) | (exfalso; omega) | (omega))))
 | ((with_reducible refine And.intro ?_ ?_); exact zc; conv => whnf)
 | ((with_reducible refine And.intro (Side.out ?_) ?_); rotate_left; (conv => whnf))
 | ((first | refine retF1 ?_ | refine retF2 ?_) <;> (conv => whnf) <;> repeat' (first
 | exact trivial
 | (with_reducible rfl)
 | ((with_reducible refine And.intro ?_ ?_) <;> conv => whnf)
 | omega
 | rfl
 | (refine congrArg (SV.arr _) ?_)
 | (refine congrArg (Value.int _) ?_)
 | (refine congrArg Value.bool ?_)))); all_goals (try unfold Side)
 all_goals try (repeat' (first | exact zb | with_reducible refine And.intro ?_ ?_))
 all_goals exact hs
def mkP (x : Int) : Pe := (x, false, 0, x, 0, false, 1, ())
def goodAt (xs : List Int) (i : Nat) : Prop := 1 ≤ xs.getD i 0 ∧ xs.getD i 0 ≤ 1000 ∧ xs.getD i 0 ∉ xs.take i
set_option maxHeartbeats 4000000 in
theorem new_ok {xs : List Int} {pet : Bool} (h1 : 1 ≤ xs.length) (h2 : xs.length ≤ 10) (hg : ∀ i, i < xs.length → goodAt xs i) : FnM Tryd.prog 7 [.st false (.arr (.int .i64) xs), .lit (.bool pet)] [] (.tup [.padr 0 0, (.lit (.int .i64 (0 : Int)))]) [(0, .box [.lit (.bool true), .lit (.bool pet), .own 1, .mown 2, (.lit (.int .i64 (((rnew xs)).2.2 : Int)))]), (1, .row 73 PT true ((rnew xs)).1), (2, .mat 77 79 NT true ((rnew xs)).2.1 none)] := by
 have hl : @List.length (Ty.int .i64).T xs = xs.length := rfl
 have hN1 : (xs.length : Int) ≤ 4294967296 := by omega
 refine FnM.of_body tys_ok Tryd.func7 (by rfl) rfl Tryd.ntmps7 (by rw [Tryd.results7]) (by simp) ?_
 repeat' (first
 | refine W.seq ?_
 | refine W.block ?_
 | (refine W.region tys_ok [0, 20] ?_; conv => whnf)
 | (refine W.drawAll tys_ok [0, 20] mixed rfl ?_; conv => whnf)
 | (refine W.ret ?_; conv => whnf)
 | (refine W.skip ?_; conv => whnf)
 | (refine W.exit ?_; conv => whnf)
 | (refine W.cond rfl (fun hb => ?_) (fun hb => ?_) <;> (try simp only [zr, zd, zm, minL, maxL, pickB, zA] at hb) <;> (try (first | (cases hb; done) | exact absurd hb (by decide) | (exfalso; omega) | (omega) | ((simp [pickB] at hb; omega)))))
 | ((with_reducible refine And.intro ?_ ?_); exact zc; conv => whnf)
 | ((with_reducible refine And.intro (Side.out ?_) ?_); rotate_left; (conv => whnf))
 | ((first | refine retM1 ?_ | refine retM2 ?_) <;> (conv => whnf) <;> repeat' (first
 | exact trivial
 | (with_reducible rfl)
 | ((with_reducible refine And.intro ?_ ?_) <;> conv => whnf)
 | omega
 | rfl
 | (refine congrArg (SV.arr _) ?_)
 | (refine congrArg (Value.int _) ?_)
 | (refine congrArg Value.bool ?_)))); all_goals (try unfold Side)
 all_goals first | exact Nat.le_of_ble_eq_true rfl | exact hN1 | skip
 all_goals try (repeat' (first | exact zb | with_reducible refine And.intro ?_ ?_))
 refine W.loop (fun i : Nat => ⟨[(0, .st false (.arr (.int .i64) xs)), (6, .padr 7000 0), (23, .st false (.arr (.int .i64) xs)), (24, (.lit (.int .i64 (xs.length : Int)))), (25, (.lit (.int .i64 (i : Int))))], [(7000, .box [.lit (.bool true), .lit (.bool pet), .own 7001, .mown 7002, (.lit (.int .i64 (0 : Int)))]), (7001, .row 73 PT true ((xs.take i).map mkP)), (7002, .mat 77 79 NT true (List.replicate xs.length ([] : List Nt)) none)]⟩) (fun i => i ≤ xs.length) (fun i => xs.length - i) (0) ?_ ?_
 · refine ⟨Nat.zero_le _, ?_⟩
   refine subF.ok ?_ <;> (conv => whnf) <;> repeat' (first
 | exact trivial
 | (with_reducible rfl)
 | ((with_reducible refine And.intro ?_ ?_) <;> conv => whnf)
 | omega
 | rfl
 | (refine congrArg (SV.arr _) ?_)
 | (refine congrArg (Value.int _) ?_)
 | (refine congrArg Value.bool ?_))
 · intro i hi
   by_cases hil : i < xs.length
   · have hgi := hg i hil
     have hg1 : 1 ≤ xs.getD i 0 := hgi.1
     have hg2 : xs.getD i 0 ≤ 1000 := hgi.2.1
     have c1 := containsN_at (l := xs.take i) (x := xs.getD i 0) (b := false) (by rw [List.length_take]; omega) (by rw [eq_comm, decide_eq_false_iff_not]; exact hgi.2.2)
     have e1 : (xs.take i).map mkP ++ [(xs.getD i 0, false, 0, xs.getD i 0, 0, false, 1, ())] = (xs.take (i + 1)).map mkP := by
      rw [List.take_succ_eq_append_getElem hil, List.map_append, ← getD_eq hil]; rfl
     have e2 : ((xs.take i).map mkP).length + [((xs.getD i 0, false, 0, xs.getD i 0, 0, false, 1, ()) : Pe)].length ≤ 4294967296 := by
      rw [List.length_map, List.length_take, List.length_singleton]; omega
     have hk : ¬ (xs.getD i 0 < 1 ∨ 1000 < xs.getD i 0) := by omega
     repeat' (first
 | refine W.seq ?_
 | refine W.block ?_
 | (refine W.region tys_ok [] ?_; conv => whnf)
 | (refine W.drawAll tys_ok [] mixed rfl ?_; conv => whnf)
 | (refine W.ret ?_; conv => whnf)
 | (refine W.skip ?_; conv => whnf)
 | (refine W.exit ?_; conv => whnf)
 | (refine call_at (al := false) (c1) rfl rfl rfl rfl ?_; conv => whnf)
 | (refine W.cond rfl (fun hb => ?_) (fun hb => ?_) <;> (try simp only [zr, zd, zm, minL, maxL, pickB, zA] at hb) <;> (try (first | (cases hb; done) | exact absurd hb (by decide) | (exfalso; omega) | (omega) | (exact hk hb) | ((simp [pickB] at hb; omega)))))
 | ((with_reducible refine And.intro ?_ ?_); exact zc; conv => whnf)
 | ((with_reducible refine And.intro (Side.out ?_) ?_); rotate_left; (conv => whnf))
 | ((first | refine retM1 ?_ | refine retM2 ?_) <;> (conv => whnf) <;> repeat' (first
 | exact trivial
 | (with_reducible rfl)
 | ((with_reducible refine And.intro ?_ ?_) <;> conv => whnf)
 | omega
 | rfl
 | (refine congrArg (SV.arr _) ?_)
 | (refine congrArg (Value.int _) ?_)
 | (refine congrArg Value.bool ?_)))); all_goals (try unfold Side)
     all_goals try (repeat' (first | exact zb | with_reducible refine And.intro ?_ ?_))
     all_goals first | exact e2 | skip
     refine ⟨i + 1, ⟨by omega, by omega⟩, ?_⟩
     refine subF.ok ?_ <;> (conv => whnf) <;> repeat' (first
 | exact trivial
 | (with_reducible rfl)
 | ((with_reducible refine And.intro ?_ ?_) <;> conv => whnf)
 | omega
 | rfl
 | (refine congrArg (SV.arr _) ?_)
 | (refine congrArg (Value.int _) ?_)
 | (refine congrArg Value.bool ?_))
     all_goals exact e1
   · have hie : i = xs.length := by omega
     subst hie
     have e3 : (xs.take xs.length).map mkP = (rnew xs).1 := by rw [List.take_length]; rfl
     repeat' (first
 | refine W.seq ?_
 | refine W.block ?_
 | (refine W.region tys_ok [] ?_; conv => whnf)
 | (refine W.drawAll tys_ok [] mixed rfl ?_; conv => whnf)
 | (refine W.ret ?_; conv => whnf)
 | (refine W.skip ?_; conv => whnf)
 | (refine W.exit ?_; conv => whnf)
 | (refine W.cond rfl (fun hb => ?_) (fun hb => ?_) <;> (try simp only [zr, zd, zm, minL, maxL, pickB, zA] at hb) <;> (try (first | (cases hb; done) | exact absurd hb (by decide) | (exfalso; omega) | (omega))))
 | ((with_reducible refine And.intro ?_ ?_); exact zc; conv => whnf)
 | ((with_reducible refine And.intro (Side.out ?_) ?_); rotate_left; (conv => whnf))
 | ((first | refine retM1 ?_ | refine retM2 ?_) <;> (conv => whnf) <;> repeat' (first
 | exact trivial
 | (with_reducible rfl)
 | ((with_reducible refine And.intro ?_ ?_) <;> conv => whnf)
 | omega
 | rfl
 | (refine congrArg (SV.arr _) ?_)
 | (refine congrArg (Value.int _) ?_)
 | (refine congrArg Value.bool ?_)))); all_goals (try unfold Side)
     all_goals try (repeat' (first | exact zb | with_reducible refine And.intro ?_ ?_))
     all_goals exact e3
open Go Go.Vc Go.Rg
def smo8 (y : List Int) : Prop := ∀ i, 0 ≤ y.getD i 0 ∧ y.getD i 0 ≤ 255
set_option maxRecDepth 100000 in
set_option maxHeartbeats 32000000 in
theorem TopChosen_at {a b d : Int} {os : List Int} (ha : 0 ≤ a ∧ a ≤ 255) (hb' : 0 ≤ b ∧ b ≤ 255) (hd : 0 ≤ d ∧ d ≤ 255) (ho : smo8 os) (hol : (os.length : Int) ≤ 9223372036854775807) :
  FnAt Tryd.prog false 3 [.agg [(.lit (.int .u8 (a : Int))), (.lit (.int .u8 (b : Int))), (.lit (.int .u8 (d : Int)))], .arr (.int .u8) os] (.lit (.bool true)) [] := by
 have hma : a.tmod 10 = a % 10 := Int.tmod_eq_emod_of_nonneg ha.1
 obtain ⟨n, hn⟩ : ∃ n : Nat, (n : Int) = a.tmod 10 + 1 := ⟨(a.tmod 10 + 1).toNat, by omega⟩
 have hn1 : n < 11 := by omega
 have hn0 : 0 < n := by omega
 have hnz : (n : Int) ≠ 0 := by omega
 have hkb : b.tmod (n : Int) = b % (n : Int) := Int.tmod_eq_emod_of_nonneg hb'.1
 have hk1 := Int.emod_nonneg b hnz
 have hk2 := Int.emod_lt_of_pos b (by omega : (0 : Int) < n)
 obtain ⟨k, hk⟩ : ∃ k : Nat, (k : Int) = b.tmod n := ⟨(b.tmod n).toNat, by omega⟩
 have hkn : k < n := by omega
 have hfb : d.tmod (n : Int) = d % (n : Int) := Int.tmod_eq_emod_of_nonneg hd.1
 have hf1 := Int.emod_nonneg d hnz
 have hf2 := Int.emod_lt_of_pos d (by omega : (0 : Int) < n)
 obtain ⟨f, hf⟩ : ∃ f : Nat, (f : Int) = d.tmod n := ⟨(d.tmod n).toNat, by omega⟩
 have hfn : f < n := by omega
 have hlo : @List.length (Ty.int .u8).T os = os.length := rfl
 have hkk : b.tmod (a.tmod 10 + 1) = (k : Int) := by rw [← hn]; exact hk.symm
 have hnn : a.tmod 10 + 1 = (n : Int) := hn.symm
 have hz2 : a.tmod 10 + 1 ≠ 0 := by omega
 cases hbad : badG n k with
 | true =>
  have c1 := gaps_no hn1 hkn hbad
  refine FnAt.of_body tys_ok Tryd.func3 (by rfl) rfl Tryd.ntmps3 (by rw [Tryd.results3]) (by simp) ?_
  repeat' (first
 | refine W.seq ?_
 | refine W.block ?_
 | (refine W.resub (x := Code.region 4 _ _) (Γ' := ⟨[(1, .st false (.arr (.int .u8) (os : List Int))), (7, (.lit (.int .u8 (d : Int)))), (8, (.lit (.int .i64 (n : Int)))), (9, (.lit (.int .i64 (k : Int))))], []⟩) ?_ (W.region tys_ok [] ?_); rotate_left; (conv => whnf))
 | (refine W.region tys_ok [] ?_; conv => whnf)
 | (refine W.drawAll tys_ok [] mixed rfl ?_; conv => whnf)
 | (refine W.ret ?_; conv => whnf)
 | (refine W.skip ?_; conv => whnf)
 | (refine W.exit ?_; conv => whnf)
 | (refine call_at (al := false) (c1) rfl rfl rfl rfl ?_; conv => whnf)
 | (refine W.cond rfl (fun hb => ?_) (fun hb => ?_) <;> (try simp only [zr, zd, zm, minL, maxL, pickB, zA] at hb) <;> (try (first | (cases hb; done) | exact absurd hb (by decide) | (exfalso; omega) | (omega))))
 | ((with_reducible refine And.intro ?_ ?_); exact zc; conv => whnf)
 | ((with_reducible refine And.intro (Side.out ?_) ?_); rotate_left; (conv => whnf))
 | ((first | refine retF1 ?_ | refine retF2 ?_) <;> (conv => whnf) <;> repeat' (first
 | exact trivial
 | (with_reducible rfl)
 | ((with_reducible refine And.intro ?_ ?_) <;> conv => whnf)
 | omega
 | rfl
 | (refine congrArg (SV.arr _) ?_)
 | (refine congrArg (Value.int _) ?_)
 | (refine congrArg Value.bool ?_)))); all_goals (try unfold Side)
  all_goals try refine subF.ok ?_ <;> (conv => whnf) <;> repeat' (first
 | exact trivial
 | (with_reducible rfl)
 | ((with_reducible refine And.intro ?_ ?_) <;> conv => whnf)
 | omega
 | rfl
 | (refine congrArg (SV.arr _) ?_)
 | (refine congrArg (Value.int _) ?_)
 | (refine congrArg Value.bool ?_))
  all_goals first | exact hnn | exact hkk | skip
  all_goals try (repeat' (first | exact zb | with_reducible refine And.intro ?_ ?_))
 | false =>
  have c1 := gaps_ok hn1 hkn hbad
  have hr0 : ((@List.length (Ty.int .i64).T (List.replicate n (1 : Int)) : Nat) : Int) = (n : Int) := congrArg Nat.cast (List.length_replicate (n := n) (a := (1 : Int)))
  obtain ⟨L, hL⟩ : ∃ L, L = nst n k n := ⟨_, rfl⟩
  have hch := chosen hn1 hkn hbad
  rw [← hL] at hch
  obtain ⟨hLl, hNb, hgr, hlt, hat⟩ := hch
  have hsl := strB_len (n := n) (l := L) (i := n) (by omega)
  have c2 := turn_at (l := strB n L n) (fun e => by rw [e] at hsl; simp at hsl; omega) (by rw [hsl]; omega) strB_mem
  rw [hsl] at c2
  obtain ⟨at', hatd⟩ : ∃ q, q = tb (strB n L n) n := ⟨_, rfl⟩
  rw [← hatd] at hlt hat c2
  refine FnAt.of_body tys_ok Tryd.func3 (by rfl) rfl Tryd.ntmps3 (by rw [Tryd.results3]) (by simp) ?_
  repeat' (first
 | refine W.seq ?_
 | refine W.block ?_
 | (refine W.resub (x := Code.region 4 _ _) (Γ' := ⟨[(1, .st false (.arr (.int .u8) (os : List Int))), (7, (.lit (.int .u8 (d : Int)))), (8, (.lit (.int .i64 (n : Int)))), (9, (.lit (.int .i64 (k : Int))))], []⟩) ?_ (W.region tys_ok [] ?_); rotate_left; (conv => whnf))
 | (refine W.region tys_ok [] ?_; conv => whnf)
 | (refine W.drawAll tys_ok [] mixed rfl ?_; conv => whnf)
 | (refine W.ret ?_; conv => whnf)
 | (refine W.skip ?_; conv => whnf)
 | (refine W.exit ?_; conv => whnf)
 | (refine call_at (al := false) (c1) rfl rfl rfl rfl ?_; conv => whnf)
 | (refine W.cond rfl (fun hb => ?_) (fun hb => ?_) <;> (try simp only [zr, zd, zm, minL, maxL, pickB, zA] at hb) <;> (try (first | (cases hb; done) | exact absurd hb (by decide) | (exfalso; omega) | (omega) | ((exact absurd hr0 hb)))))
 | ((with_reducible refine And.intro ?_ ?_); exact zc; conv => whnf)
 | ((with_reducible refine And.intro (Side.out ?_) ?_); rotate_left; (conv => whnf))
 | ((first | refine retF1 ?_ | refine retF2 ?_) <;> (conv => whnf) <;> repeat' (first
 | exact trivial
 | (with_reducible rfl)
 | ((with_reducible refine And.intro ?_ ?_) <;> conv => whnf)
 | omega
 | rfl
 | (refine congrArg (SV.arr _) ?_)
 | (refine congrArg (Value.int _) ?_)
 | (refine congrArg Value.bool ?_)))); all_goals (try unfold Side)
  all_goals try refine subF.ok ?_ <;> (conv => whnf) <;> repeat' (first
 | exact trivial
 | (with_reducible rfl)
 | ((with_reducible refine And.intro ?_ ?_) <;> conv => whnf)
 | omega
 | rfl
 | (refine congrArg (SV.arr _) ?_)
 | (refine congrArg (Value.int _) ?_)
 | (refine congrArg Value.bool ?_))
  all_goals first | exact hnn | exact hkk | skip
  all_goals try (repeat' (first | exact zb | with_reducible refine And.intro ?_ ?_))
  refine W.loop (fun i : Nat => ⟨[(1, .st false (.arr (.int .u8) (os : List Int))), (7, (.lit (.int .u8 (d : Int)))), (8, (.lit (.int .i64 (n : Int)))), (9, (.lit (.int .i64 (k : Int)))), (10, .own 46000), (12, .own 58000), (13, (.lit (.string ⟨⟨([] : List UInt8)⟩⟩))), (14, (.lit (.int .i64 (i : Int))))], [(46000, .row 3 (.int .i64) true (List.replicate n 1 : List Int)), (58000, .row 3 (.int .i64) true (nst n k i : List Int))]⟩) (fun i => i ≤ n) (fun i => n - i) (0) ?_ ?_
  · refine ⟨Nat.zero_le _, ?_⟩
    refine subF.ok ?_ <;> (conv => whnf) <;> repeat' (first
 | exact trivial
 | (with_reducible rfl)
 | ((with_reducible refine And.intro ?_ ?_) <;> conv => whnf)
 | omega
 | rfl
 | (refine congrArg (SV.arr _) ?_)
 | (refine congrArg (Value.int _) ?_)
 | (refine congrArg Value.bool ?_))
  · rintro i hi
    have hr1 : (List.replicate n (1 : Int)).length = n := List.length_replicate
    have hll := nst_len n k i
    have em := mod_eq i k n
    have hm : i * k % n < n := Nat.mod_lt _ hn0
    have hp1 : i * k ≤ 10 * 10 := Nat.mul_le_mul (by omega) (by omega)
    have hp2 : (i : Int) * (k : Int) = ((i * k : Nat) : Int) := (Int.natCast_mul _ _).symm
    have hp : InK .i64 ((i : Int) * (k : Int)) := by rw [hp2]; exact ⟨by omega, by omega⟩
    have hx : 0 ≤ ((i : Int) * (k : Int)).tmod (n : Int) ∧ (((i : Int) * (k : Int)).tmod (n : Int)).toNat < (nst n k i).length := by rw [em, hll]; exact ⟨by omega, by omega⟩
    have hst : (nst n k i).set (((i : Int) * (k : Int)).tmod (n : Int)).toNat ((i : Int) + 1) = nst n k (i + 1) := by rw [em]; rfl
    by_cases hin : i < n
    · have hone : (List.replicate n (1 : Int)).getD i 0 = 1 := by rw [List.getD_eq_getElem?_getD, List.getElem?_replicate, if_pos hin]; rfl
      repeat' (first
 | refine W.seq ?_
 | refine W.block ?_
 | (refine W.region tys_ok [] ?_; conv => whnf)
 | (refine W.drawAll tys_ok [] mixed rfl ?_; conv => whnf)
 | (refine W.ret ?_; conv => whnf)
 | (refine W.skip ?_; conv => whnf)
 | (refine W.exit ?_; conv => whnf)
 | (refine W.cond rfl (fun hb => ?_) (fun hb => ?_) <;> (try simp only [zr, zd, zm, minL, maxL, pickB, zA] at hb) <;> (try (first | (cases hb; done) | exact absurd hb (by decide) | (exfalso; omega) | (omega) | ((exact absurd hone hb)))))
 | ((with_reducible refine And.intro ?_ ?_); exact zc; conv => whnf)
 | ((with_reducible refine And.intro (Side.out ?_) ?_); rotate_left; (conv => whnf))
 | ((first | refine retF1 ?_ | refine retF2 ?_) <;> (conv => whnf) <;> repeat' (first
 | exact trivial
 | (with_reducible rfl)
 | ((with_reducible refine And.intro ?_ ?_) <;> conv => whnf)
 | omega
 | rfl
 | (refine congrArg (SV.arr _) ?_)
 | (refine congrArg (Value.int _) ?_)
 | (refine congrArg Value.bool ?_)))); all_goals (try unfold Side)
      all_goals first | exact Path.imp_of hp | exact hp | exact Path.imp_of hx | exact hx | exact hx.2 | skip
      all_goals try (repeat' (first | exact zb | with_reducible refine And.intro ?_ ?_))
      refine ⟨i + 1, ⟨by omega, by omega⟩, ?_⟩
      refine subF.ok ?_ <;> (conv => whnf) <;> repeat' (first
 | exact trivial
 | (with_reducible rfl)
 | ((with_reducible refine And.intro ?_ ?_) <;> conv => whnf)
 | omega
 | rfl
 | (refine congrArg (SV.arr _) ?_)
 | (refine congrArg (Value.int _) ?_)
 | (refine congrArg Value.bool ?_))
      all_goals exact hst
    · have hie : i = n := by omega
      have hfin : nst n k i = L := by rw [hie, hL]
      repeat' (first
 | refine W.seq ?_
 | refine W.block ?_
 | (refine W.region tys_ok [] ?_; conv => whnf)
 | (refine W.drawAll tys_ok [] mixed rfl ?_; conv => whnf)
 | (refine W.ret ?_; conv => whnf)
 | (refine W.skip ?_; conv => whnf)
 | (refine W.exit ?_; conv => whnf)
 | (refine W.cond rfl (fun hb => ?_) (fun hb => ?_) <;> (try simp only [zr, zd, zm, minL, maxL, pickB, zA] at hb) <;> (try (first | (cases hb; done) | exact absurd hb (by decide) | (exfalso; omega) | (omega))))
 | ((with_reducible refine And.intro ?_ ?_); exact zc; conv => whnf)
 | ((with_reducible refine And.intro (Side.out ?_) ?_); rotate_left; (conv => whnf))
 | ((first | refine retF1 ?_ | refine retF2 ?_) <;> (conv => whnf) <;> repeat' (first
 | exact trivial
 | (with_reducible rfl)
 | ((with_reducible refine And.intro ?_ ?_) <;> conv => whnf)
 | omega
 | rfl
 | (refine congrArg (SV.arr _) ?_)
 | (refine congrArg (Value.int _) ?_)
 | (refine congrArg Value.bool ?_)))); all_goals (try unfold Side)
      all_goals try (repeat' (first | exact zb | with_reducible refine And.intro ?_ ?_))
      refine W.loop (fun i : Nat => ⟨[(1, .st false (.arr (.int .u8) (os : List Int))), (7, (.lit (.int .u8 (d : Int)))), (8, (.lit (.int .i64 (n : Int)))), (12, .own 58000), (13, (.lit (.string ⟨⟨(strB n L i)⟩⟩))), (15, (.lit (.int .i64 (i : Int))))], [(58000, .row 3 (.int .i64) true (L : List Int))]⟩) (fun i => i ≤ n) (fun i => n - i) (0) ?_ ?_
      · refine ⟨Nat.zero_le _, ?_⟩
        refine subF.ok ?_ <;> (conv => whnf) <;> repeat' (first
 | exact trivial
 | (with_reducible rfl)
 | ((with_reducible refine And.intro ?_ ?_) <;> conv => whnf)
 | omega
 | rfl
 | (refine congrArg (SV.arr _) ?_)
 | (refine congrArg (Value.int _) ?_)
 | (refine congrArg Value.bool ?_))
        all_goals first | exact hfin | rfl | skip
      · rintro i hi
        have hLi : @List.length (Ty.int .i64).T L = n := hLl
        by_cases hin : i < n
        · have hs := strB_succ (n := n) (l := L) (i := i) (by omega)
          have hsi := strB_len (n := n) (l := L) (i := i) (by omega)
          repeat' (first
 | refine W.seq ?_
 | refine W.block ?_
 | (refine W.region tys_ok [] ?_; conv => whnf)
 | (refine W.drawAll tys_ok [] mixed rfl ?_; conv => whnf)
 | (refine W.ret ?_; conv => whnf)
 | (refine W.skip ?_; conv => whnf)
 | (refine W.exit ?_; conv => whnf)
 | (refine W.cond rfl (fun hb => ?_) (fun hb => ?_) <;> (try simp only [zr, zd, zm, minL, maxL, pickB, zA] at hb) <;> (try (first | (cases hb; done) | exact absurd hb (by decide) | (exfalso; omega) | (omega))))
 | ((with_reducible refine And.intro ?_ ?_); exact zc; conv => whnf)
 | ((with_reducible refine And.intro (Side.out ?_) ?_); rotate_left; (conv => whnf))
 | ((first | refine retF1 ?_ | refine retF2 ?_) <;> (conv => whnf) <;> repeat' (first
 | exact trivial
 | (with_reducible rfl)
 | ((with_reducible refine And.intro ?_ ?_) <;> conv => whnf)
 | omega
 | rfl
 | (refine congrArg (SV.arr _) ?_)
 | (refine congrArg (Value.int _) ?_)
 | (refine congrArg Value.bool ?_)))); all_goals (try unfold Side)
          all_goals try (repeat' (first | exact zb | with_reducible refine And.intro ?_ ?_))
          · have e : strB n L i ++ [97] = strB n L (i + 1) := by rw [hs]; unfold letB; rw [if_pos hb]
            refine ⟨i + 1, ⟨by omega, by omega⟩, ?_⟩
            refine subF.ok ?_ <;> (conv => whnf) <;> repeat' (first
 | exact trivial
 | (with_reducible rfl)
 | ((with_reducible refine And.intro ?_ ?_) <;> conv => whnf)
 | omega
 | rfl
 | (refine congrArg (SV.arr _) ?_)
 | (refine congrArg (Value.int _) ?_)
 | (refine congrArg Value.bool ?_))
            all_goals first | exact e | exact congrArg (fun l : List UInt8 => Value.string ⟨⟨l⟩⟩) e | skip
          · have e : strB n L i ++ [98] = strB n L (i + 1) := by rw [hs]; unfold letB; rw [if_neg hb]
            refine ⟨i + 1, ⟨by omega, by omega⟩, ?_⟩
            refine subF.ok ?_ <;> (conv => whnf) <;> repeat' (first
 | exact trivial
 | (with_reducible rfl)
 | ((with_reducible refine And.intro ?_ ?_) <;> conv => whnf)
 | omega
 | rfl
 | (refine congrArg (SV.arr _) ?_)
 | (refine congrArg (Value.int _) ?_)
 | (refine congrArg Value.bool ?_))
            all_goals first | exact e | exact congrArg (fun l : List UInt8 => Value.string ⟨⟨l⟩⟩) e | skip
        · have hie : i = n := by omega
          have e : strB n L i = strB n L n := by rw [hie]
          have hx1 : 0 ≤ (at' : Int) ∧ at' < L.length := ⟨by omega, by omega⟩
          repeat' (first
 | refine W.seq ?_
 | refine W.block ?_
 | (refine W.resub (x := Code.region 22 _ _) (Γ' := ⟨[(1, .st false (.arr (.int .u8) (os : List Int))), (7, (.lit (.int .u8 (d : Int)))), (8, (.lit (.int .i64 (n : Int)))), (12, .own 58000), (13, (.lit (.string ⟨⟨(strB n L n)⟩⟩)))], [(58000, .row 3 (.int .i64) true (L : List Int))]⟩) ?_ (W.region tys_ok [] ?_); rotate_left; (conv => whnf))
 | (refine W.region tys_ok [] ?_; conv => whnf)
 | (refine W.drawAll tys_ok [] mixed rfl ?_; conv => whnf)
 | (refine W.ret ?_; conv => whnf)
 | (refine W.skip ?_; conv => whnf)
 | (refine W.exit ?_; conv => whnf)
 | (refine call_at (al := false) (c2) rfl rfl rfl rfl ?_; conv => whnf)
 | (refine W.cond rfl (fun hb => ?_) (fun hb => ?_) <;> (try simp only [zr, zd, zm, minL, maxL, pickB, zA] at hb) <;> (try (first | (cases hb; done) | exact absurd hb (by decide) | (exfalso; omega) | (omega) | ((exact absurd hat hb)))))
 | ((with_reducible refine And.intro ?_ ?_); exact zc; conv => whnf)
 | ((with_reducible refine And.intro (Side.out ?_) ?_); rotate_left; (conv => whnf))
 | ((first | refine retF1 ?_ | refine retF2 ?_) <;> (conv => whnf) <;> repeat' (first
 | exact trivial
 | (with_reducible rfl)
 | ((with_reducible refine And.intro ?_ ?_) <;> conv => whnf)
 | omega
 | rfl
 | (refine congrArg (SV.arr _) ?_)
 | (refine congrArg (Value.int _) ?_)
 | (refine congrArg Value.bool ?_)))); all_goals (try unfold Side)
          all_goals try refine subF.ok ?_ <;> (conv => whnf) <;> repeat' (first
 | exact trivial
 | (with_reducible rfl)
 | ((with_reducible refine And.intro ?_ ?_) <;> conv => whnf)
 | omega
 | rfl
 | (refine congrArg (SV.arr _) ?_)
 | (refine congrArg (Value.int _) ?_)
 | (refine congrArg Value.bool ?_))
          all_goals first | exact e | exact congrArg (fun l : List UInt8 => Value.string ⟨⟨l⟩⟩) e | skip
          all_goals first | exact Path.imp_of hx1 | exact Path.imp_of hx1.2 | skip
          all_goals try (repeat' (first | exact zb | with_reducible refine And.intro ?_ ?_))
          refine W.loop (fun z : Nat => ⟨[(1, .st false (.arr (.int .u8) (os : List Int))), (7, (.lit (.int .u8 (d : Int)))), (8, (.lit (.int .i64 (n : Int)))), (12, .st true (.arr (.int .i64) (L : List Int))), (116, .own 117000), (117, (.lit (.int .i64 (2 : Int)))), (118, (.lit (.int .i64 ((z : Nat) : Int))))], [(117000, .row 4 .bool true ([false, true] : List Bool))]⟩) (fun z => z ≤ 2) (fun z => 2 - z) (0) ?_ ?_
          · refine ⟨Nat.zero_le _, ?_⟩
            refine subF.ok ?_ <;> (conv => whnf) <;> repeat' (first
 | exact trivial
 | (with_reducible rfl)
 | ((with_reducible refine And.intro ?_ ?_) <;> conv => whnf)
 | omega
 | rfl
 | (refine congrArg (SV.arr _) ?_)
 | (refine congrArg (Value.int _) ?_)
 | (refine congrArg Value.bool ?_))
          · rintro z hz
            by_cases hz2 : z < 2
            · obtain ⟨pet, hpet⟩ : ∃ pet, pet = [false, true].getD z false := ⟨_, rfl⟩
              have q1 := new_ok (xs := L) (pet := pet) (by omega) (by omega) (fun i hi => hNb.good hi)
              have k0 : ROk n pet (rnew L) := by rw [← hLl]; exact ROk.new (by omega) (by omega)
              obtain ⟨r0, hr0⟩ : ∃ r0, r0 = startK (f : Int) (rnew L) := ⟨_, rfl⟩
              obtain ⟨m0, R, hl⟩ := hNb.el
              obtain ⟨hE0, hs0⟩ := hNb.begin (pet := pet) hl (i := f) (by omega)
              have hss := start_sent (i := (f : Int)) (r := rnew L)
              have q2 := start_ring (pet := pet) (i := (f : Int)) k0 (by show (0 : Int) ≤ 900000; decide) hs0 hr0.symm
              repeat' (first
 | refine W.seq ?_
 | refine W.block ?_
 | (refine W.regionM (id := 28) tys_ok [] [2] ?_; conv => whnf)
 | (refine W.regionM (id := 29) tys_ok [] [12] ?_; conv => whnf)
 | (refine W.region tys_ok [] ?_; conv => whnf)
 | (refine W.drawAll tys_ok [] mixed rfl ?_; conv => whnf)
 | (refine W.ret ?_; conv => whnf)
 | (refine W.skip ?_; conv => whnf)
 | (refine W.exit ?_; conv => whnf)
 | (refine callM_at (q1) ?_; conv => whnf)
 | (refine callM_at (q2) ?_; conv => whnf)
 | (refine W.cond rfl (fun hb => ?_) (fun hb => ?_) <;> (try simp only [zr, zd, zm, minL, maxL, pickB, zA] at hb) <;> (try (first | (cases hb; done) | exact absurd hb (by decide) | (exfalso; omega) | (omega) | ((simp [pickB] at hb; done)))))
 | (refine Or.inl (And.intro ?_ ?_); exact zi; conv => whnf)
 | (refine Or.inr (And.intro ?_ ?_); exact zj; conv => whnf)
 | ((with_reducible refine And.intro ?_ ?_); exact zc; conv => whnf)
 | ((with_reducible refine And.intro (Side.out ?_) ?_); rotate_left; (conv => whnf))
 | ((first | refine retF1 ?_ | refine retF2 ?_) <;> (conv => whnf) <;> repeat' (first
 | exact trivial
 | (with_reducible rfl)
 | ((with_reducible refine And.intro ?_ ?_) <;> conv => whnf)
 | omega
 | rfl
 | (refine congrArg (SV.arr _) ?_)
 | (refine congrArg (Value.int _) ?_)
 | (refine congrArg Value.bool ?_)))); all_goals (try unfold Side)
              all_goals try refine subF.ok ?_ <;> (conv => whnf) <;> repeat' (first
 | exact trivial
 | (with_reducible rfl)
 | ((with_reducible refine And.intro ?_ ?_) <;> conv => whnf)
 | omega
 | rfl
 | (refine congrArg (SV.arr _) ?_)
 | (refine congrArg (Value.int _) ?_)
 | (refine congrArg Value.bool ?_))
              all_goals try (repeat' (first | exact zb | with_reducible refine And.intro ?_ ?_))
              all_goals first | exact hpet.symm | skip
              rw [← hr0] at hE0 hss
              have hss : r0.2.2 ≤ 1 := hss
              rw [hgr, hLl] at hl hE0
              refine W.loop (fun p : Nat × Rn × Ct => ⟨[(1, .st false (.arr (.int .u8) (os : List Int))), (7, (.lit (.int .u8 (d : Int)))), (8, (.lit (.int .i64 (n : Int)))), (12, .st true (.arr (.int .i64) (L : List Int))), (116, .own 117000), (117, (.lit (.int .i64 (2 : Int)))), (118, (.lit (.int .i64 ((z : Nat) : Int)))), (20, .padr 9000 0), (22, (.lit (.int .i64 (p.1 : Int))))], [(117000, .row 4 .bool true ([false, true] : List Bool)), (9000, .box [.lit (.bool true), .lit (.bool pet), .own 9001, .mown 9002, (.lit (.int .i64 ((p.2.1).2.2 : Int)))]), (9001, .row 73 PT true (p.2.1).1), (9002, .mat 77 79 NT true (p.2.1).2.1 none)]⟩) (fun p => EI pet n m0 (fun i => L.getD i 0) n R p.2.1 p.2.2 ∧ (p.1 : Int) = p.2.2.1 + p.2.2.2.1 + p.2.2.2.2 ∧ p.2.1.2.2 ≤ 4 * p.1 + 1) (fun p => 100 - p.1) ((0, r0, (0, 0, 0))) ?_ ?_
              · refine ⟨⟨hE0, rfl, hss⟩, ?_⟩
                refine subF.ok ?_ <;> (conv => whnf) <;> repeat' (first
 | exact trivial
 | (with_reducible rfl)
 | ((with_reducible refine And.intro ?_ ?_) <;> conv => whnf)
 | omega
 | rfl
 | (refine congrArg (SV.arr _) ?_)
 | (refine congrArg (Value.int _) ?_)
 | (refine congrArg Value.bool ?_))
              · rintro ⟨t, r, c⟩ ⟨hE, ht, hsn⟩
                dsimp only at hE ht hsn ⊢
                have htot := hE.tot hl
                have ht80 : t ≤ 80 := by omega
                have hkr := hE.ok
                obtain ⟨v, hv⟩ : ∃ v, v = vT os t := ⟨_, rfl⟩
                have hos := ho (t % os.length)
                have htm : 0 < os.length → ((t : Int).tmod (os.length : Int)) = ((t % os.length : Nat) : Int) := fun hp => (Int.ofNat_tmod _ _).symm
                have htl : 0 < os.length → t % os.length < os.length := fun hp => Nat.mod_lt _ hp
                have hv3 : 0 < os.length → os.getD ((t : Int).tmod (os.length : Int)).toNat 0 = v := fun hp => by
                 rw [htm hp, Int.toNat_natCast, hv]; unfold vT; rw [if_pos hp, Int.toNat_of_nonneg hos.1]
                have hv4 : 0 < os.length → 0 ≤ (t : Int).tmod (os.length : Int) ∧ ((t : Int).tmod (os.length : Int)).toNat < os.length := fun hp => by rw [htm hp, Int.toNat_natCast]; have := htl hp; omega
                have hv5 : ¬ 0 < os.length → (t : Int) = v := fun hp => by rw [hv]; unfold vT; rw [if_neg hp]
                have hvb : v ≤ 1000 := by
                 rw [hv]; unfold vT
                 split
                 · omega
                 · omega
                obtain ⟨A0, hA0⟩ : ∃ A0, A0 = atF n v r n 0 := ⟨_, rfl⟩
                repeat' (first
 | refine W.joinTo (t := 150) ⟨[(1, .st false (.arr (.int .u8) (os : List Int))), (7, (.lit (.int .u8 (d : Int)))), (8, (.lit (.int .i64 (n : Int)))), (12, .st true (.arr (.int .i64) (L : List Int))), (116, .own 117000), (117, (.lit (.int .i64 (2 : Int)))), (118, (.lit (.int .i64 ((z : Nat) : Int)))), (20, .padr 9000 0), (22, (.lit (.int .i64 (t : Int)))), (23, (.lit (.int .i64 (v : Int))))], [(117000, .row 4 .bool true ([false, true] : List Bool)), (9000, .box [.lit (.bool true), .lit (.bool pet), .own 9001, .mown 9002, (.lit (.int .i64 ((r).2.2 : Int)))]), (9001, .row 73 PT true (r).1), (9002, .mat 77 79 NT true (r).2.1 none)]⟩ ?_ ?_
 | refine W.seq ?_
 | refine W.block ?_
 | (refine W.region tys_ok [] ?_; conv => whnf)
 | (refine W.drawAll tys_ok [] mixed rfl ?_; conv => whnf)
 | (refine W.ret ?_; conv => whnf)
 | (refine W.skip ?_; conv => whnf)
 | (refine W.exit ?_; conv => whnf)
 | (refine Both.mk ?_ ?_ <;> (conv => whnf))
 | (refine W.cond rfl (fun hb => ?_) (fun hb => ?_) <;> (try simp only [zr, zd, zm, minL, maxL, pickB, zA] at hb) <;> (try (first | (cases hb; done) | exact absurd hb (by decide) | (exfalso; omega) | (omega))))
 | ((with_reducible refine And.intro ?_ ?_); exact zc; conv => whnf)
 | ((with_reducible refine And.intro (Side.out ?_) ?_); rotate_left; (conv => whnf))
 | ((first | refine retF1 ?_ | refine retF2 ?_ | refine subF.leaf ?_ | refine subF.side ?_) <;> (conv => whnf) <;> repeat' (first
 | exact trivial
 | (with_reducible rfl)
 | ((with_reducible refine And.intro ?_ ?_) <;> conv => whnf)
 | omega
 | rfl
 | (refine congrArg (SV.arr _) ?_)
 | (refine congrArg (Value.int _) ?_)
 | (refine congrArg Value.bool ?_)))); all_goals (try unfold Side)
                all_goals try refine subF.ok ?_ <;> (conv => whnf) <;> repeat' (first
 | exact trivial
 | (with_reducible rfl)
 | ((with_reducible refine And.intro ?_ ?_) <;> conv => whnf)
 | omega
 | rfl
 | (refine congrArg (SV.arr _) ?_)
 | (refine congrArg (Value.int _) ?_)
 | (refine congrArg Value.bool ?_))
                all_goals try (repeat' (first | exact zb | with_reducible refine And.intro ?_ ?_))
                refine W.loop (fun q : Nat × Bool × Rn => ⟨[(1, .st false (.arr (.int .u8) (os : List Int))), (7, (.lit (.int .u8 (d : Int)))), (8, (.lit (.int .i64 (n : Int)))), (12, .st true (.arr (.int .i64) (L : List Int))), (116, .own 117000), (117, (.lit (.int .i64 (2 : Int)))), (118, (.lit (.int .i64 ((z : Nat) : Int)))), (20, .padr 9000 0), (22, (.lit (.int .i64 (t : Int)))), (23, (.lit (.int .i64 (v : Int)))), (24, .lit (.bool q.2.1)), (25, (.lit (.int .i64 (q.1 : Int))))], [(117000, .row 4 .bool true ([false, true] : List Bool)), (9000, .box [.lit (.bool true), .lit (.bool pet), .own 9001, .mown 9002, (.lit (.int .i64 ((q.2.2).2.2 : Int)))]), (9001, .row 73 PT true (q.2.2).1), (9002, .mat 77 79 NT true (q.2.2).2.1 none)]⟩) (fun q => q.1 ≤ n ∧ ((q.2.1 = false ∧ q.2.2 = r ∧ atF n v r (n - q.1) q.1 = A0) ∨ (q.2.1 = true ∧ ∃ a : Nat, A0 = some a ∧ q.2.2 = rdelK pet (a : Int) r))) (fun q => n - q.1) ((0, false, r)) ?_ ?_
                · refine ⟨⟨Nat.zero_le _, .inl ⟨rfl, rfl, hA0.symm⟩⟩, ?_⟩
                  refine subF.ok ?_ <;> (conv => whnf) <;> repeat' (first
 | exact trivial
 | (with_reducible rfl)
 | ((with_reducible refine And.intro ?_ ?_) <;> conv => whnf)
 | omega
 | rfl
 | (refine congrArg (SV.arr _) ?_)
 | (refine congrArg (Value.int _) ?_)
 | (refine congrArg Value.bool ?_))
                · rintro ⟨i, so, r1⟩ ⟨hi, hat2⟩
                  dsimp only at hi hat2 ⊢
                  by_cases hgo : i < n ∧ so = false
                  · obtain ⟨hin, rfl⟩ := hgo
                    have hat3 : r1 = r ∧ atF n v r (n - i) i = A0 := by
                     rcases hat2 with q | q
                     · exact q.2
                     · exact Bool.noConfusion q.1
                    obtain ⟨rfl, hA⟩ := hat3
                    have hA' := hA
                    rw [show n - i = (n - i - 1) + 1 by omega, atF] at hA'
                    obtain ⟨w, hw⟩ : ∃ w, w = (v + i) % n := ⟨_, rfl⟩
                    rw [← hw] at hA'
                    have hwn : w < n := by rw [hw]; exact Nat.mod_lt _ hn0
                    have hwm : ((v : Int) + (i : Int)).tmod (n : Int) = (w : Int) := by rw [hw]; rfl
                    have hhb : hasB r1.1.length (w : Int) = true := has_of (by rw [hkr.len]; exact hwn)
                    by_cases hne : (F' r1 w).length ≠ 0
                    · rw [if_pos hne] at hA'
                      have he : rdelE (w : Int) r1 = 0 := by
                       unfold rdelE
                       rw [if_pos hhb, Int.toNat_natCast]
                       exact if_neg hne
                      obtain ⟨r2, hr2⟩ : ∃ r2, r2 = rdelK pet (w : Int) r1 := ⟨_, rfl⟩
                      have q3 := deliver_ring (pet := pet) (i := (w : Int)) hkr (by omega) he hr2.symm
                      repeat' (first
 | refine W.seq ?_
 | refine W.block ?_
 | (refine W.regionM (id := 41) tys_ok [] [6] ?_; conv => whnf)
 | (refine W.region tys_ok [] ?_; conv => whnf)
 | (refine W.drawAll tys_ok [] mixed rfl ?_; conv => whnf)
 | (refine W.ret ?_; conv => whnf)
 | (refine W.skip ?_; conv => whnf)
 | (refine W.exit ?_; conv => whnf)
 | (refine callM_at (q3) ?_; conv => whnf)
 | (refine W.cond rfl (fun hb => ?_) (fun hb => ?_) <;> (try simp only [zr, zd, zm, minL, maxL, pickB, zA] at hb) <;> (try (first | (cases hb; done) | exact absurd hb (by decide) | (exfalso; omega) | (omega) | ((simp [pickB] at hb; omega)))))
 | (refine Or.inl (And.intro trivial ?_); (conv => whnf))
 | ((with_reducible refine And.intro ?_ ?_); exact zc; conv => whnf)
 | ((with_reducible refine And.intro (Side.out ?_) ?_); rotate_left; (conv => whnf))
 | ((first | refine retF1 ?_ | refine retF2 ?_) <;> (conv => whnf) <;> repeat' (first
 | exact trivial
 | (with_reducible rfl)
 | ((with_reducible refine And.intro ?_ ?_) <;> conv => whnf)
 | omega
 | rfl
 | (refine congrArg (SV.arr _) ?_)
 | (refine congrArg (Value.int _) ?_)
 | (refine congrArg Value.bool ?_)))); all_goals (try unfold Side)
                      all_goals first | exact hwm | skip
                      all_goals try refine subF.ok ?_ <;> (conv => whnf) <;> repeat' (first
 | exact trivial
 | (with_reducible rfl)
 | ((with_reducible refine And.intro ?_ ?_) <;> conv => whnf)
 | omega
 | rfl
 | (refine congrArg (SV.arr _) ?_)
 | (refine congrArg (Value.int _) ?_)
 | (refine congrArg Value.bool ?_))
                      all_goals try (repeat' (first | exact zb | with_reducible refine And.intro ?_ ?_))
                      refine ⟨(i + 1, true, r2), ⟨⟨by dsimp only; omega, .inr ⟨rfl, w, hA'.symm, hr2⟩⟩, by dsimp only; omega⟩, ?_⟩
                      refine subF.ok ?_ <;> (conv => whnf) <;> repeat' (first
 | exact trivial
 | (with_reducible rfl)
 | ((with_reducible refine And.intro ?_ ?_) <;> conv => whnf)
 | omega
 | rfl
 | (refine congrArg (SV.arr _) ?_)
 | (refine congrArg (Value.int _) ?_)
 | (refine congrArg Value.bool ?_))
                    · rw [if_neg hne] at hA'
                      have hne' : (r1.2.1.getD w []).length = 0 := Classical.byContradiction hne
                      have he : rdelE (w : Int) r1 = 5 := by
                       unfold rdelE
                       rw [if_pos hhb, Int.toNat_natCast, if_pos hne']
                      have hrk : rdelK pet (w : Int) r1 = r1 := by unfold rdelK; rw [he, if_neg (by decide)]
                      have q3 := deliver_ring (pet := pet) (i := (w : Int)) hkr (by omega) he hrk
                      repeat' (first
 | refine W.seq ?_
 | refine W.block ?_
 | (refine W.regionM (id := 41) tys_ok [] [6] ?_; conv => whnf)
 | (refine W.region tys_ok [] ?_; conv => whnf)
 | (refine W.drawAll tys_ok [] mixed rfl ?_; conv => whnf)
 | (refine W.ret ?_; conv => whnf)
 | (refine W.skip ?_; conv => whnf)
 | (refine W.exit ?_; conv => whnf)
 | (refine callM_at (q3) ?_; conv => whnf)
 | (refine W.cond rfl (fun hb => ?_) (fun hb => ?_) <;> (try simp only [zr, zd, zm, minL, maxL, pickB, zA] at hb) <;> (try (first | (cases hb; done) | exact absurd hb (by decide) | (exfalso; omega) | (omega) | ((simp [pickB] at hb; omega)))))
 | (refine Or.inl (And.intro trivial ?_); (conv => whnf))
 | ((with_reducible refine And.intro ?_ ?_); exact zc; conv => whnf)
 | ((with_reducible refine And.intro (Side.out ?_) ?_); rotate_left; (conv => whnf))
 | ((first | refine retF1 ?_ | refine retF2 ?_) <;> (conv => whnf) <;> repeat' (first
 | exact trivial
 | (with_reducible rfl)
 | ((with_reducible refine And.intro ?_ ?_) <;> conv => whnf)
 | omega
 | rfl
 | (refine congrArg (SV.arr _) ?_)
 | (refine congrArg (Value.int _) ?_)
 | (refine congrArg Value.bool ?_)))); all_goals (try unfold Side)
                      all_goals first | exact hwm | skip
                      all_goals try refine subF.ok ?_ <;> (conv => whnf) <;> repeat' (first
 | exact trivial
 | (with_reducible rfl)
 | ((with_reducible refine And.intro ?_ ?_) <;> conv => whnf)
 | omega
 | rfl
 | (refine congrArg (SV.arr _) ?_)
 | (refine congrArg (Value.int _) ?_)
 | (refine congrArg Value.bool ?_))
                      all_goals try (repeat' (first | exact zb | with_reducible refine And.intro ?_ ?_))
                      refine ⟨(i + 1, false, r1), ⟨⟨by dsimp only; omega, .inl ⟨rfl, rfl, by dsimp only; rw [show n - (i + 1) = n - i - 1 by omega]; exact hA'⟩⟩, by dsimp only; omega⟩, ?_⟩
                      refine subF.ok ?_ <;> (conv => whnf) <;> repeat' (first
 | exact trivial
 | (with_reducible rfl)
 | ((with_reducible refine And.intro ?_ ?_) <;> conv => whnf)
 | omega
 | rfl
 | (refine congrArg (SV.arr _) ?_)
 | (refine congrArg (Value.int _) ?_)
 | (refine congrArg Value.bool ?_))
                  · rcases hat2 with ⟨rfl, rfl, hA⟩ | ⟨rfl, a', hA, rfl⟩
                    · have hie2 : i = n := by
                       have : ¬ i < n := fun h => hgo ⟨h, rfl⟩
                       omega
                      rw [hie2, Nat.sub_self] at hA
                      have hq := atF_none hn0 (hA0.symm.trans hA.symm)
                      obtain ⟨q4, _, _⟩ := hE.quiet hl hq
                      repeat' (first
 | refine W.seq ?_
 | refine W.block ?_
 | (refine W.region tys_ok [] ?_; conv => whnf)
 | (refine W.drawAll tys_ok [] mixed rfl ?_; conv => whnf)
 | (refine W.ret ?_; conv => whnf)
 | (refine W.skip ?_; conv => whnf)
 | (refine W.exit ?_; conv => whnf)
 | (refine W.cond rfl (fun hb => ?_) (fun hb => ?_) <;> (try simp only [zr, zd, zm, minL, maxL, pickB, zA] at hb) <;> (try (first | (cases hb; done) | exact absurd hb (by decide) | (exfalso; omega) | (omega) | ((simp [pickB] at hb; omega)))))
 | ((with_reducible refine And.intro ?_ ?_); exact zc; conv => whnf)
 | ((with_reducible refine And.intro (Side.out ?_) ?_); rotate_left; (conv => whnf))
 | ((first | refine retF1 ?_ | refine retF2 ?_) <;> (conv => whnf) <;> repeat' (first
 | exact trivial
 | (with_reducible rfl)
 | ((with_reducible refine And.intro ?_ ?_) <;> conv => whnf)
 | omega
 | rfl
 | (refine congrArg (SV.arr _) ?_)
 | (refine congrArg (Value.int _) ?_)
 | (refine congrArg Value.bool ?_)))); all_goals (try unfold Side)
                      all_goals try (repeat' (first | exact zb | with_reducible refine And.intro ?_ ?_))
                      refine W.loop (fun j : Nat => ⟨[(1, .st false (.arr (.int .u8) (os : List Int))), (7, (.lit (.int .u8 (d : Int)))), (8, (.lit (.int .i64 (n : Int)))), (12, .st true (.arr (.int .i64) (L : List Int))), (116, .own 117000), (117, (.lit (.int .i64 (2 : Int)))), (118, (.lit (.int .i64 ((z : Nat) : Int)))), (20, .padr 9000 0), (26, (.lit (.int .i64 ((j : Nat) : Int))))], [(117000, .row 4 .bool true ([false, true] : List Bool)), (9000, .box [.lit (.bool true), .lit (.bool pet), .own 9001, .mown 9002, (.lit (.int .i64 ((r1).2.2 : Int)))]), (9001, .row 73 PT true (r1).1), (9002, .mat 77 79 NT true (r1).2.1 none)]⟩) (fun j => j ≤ n) (fun j => n - j) (0) ?_ ?_
                      · refine ⟨Nat.zero_le _, ?_⟩
                        refine subF.ok ?_ <;> (conv => whnf) <;> repeat' (first
 | exact trivial
 | (with_reducible rfl)
 | ((with_reducible refine And.intro ?_ ?_) <;> conv => whnf)
 | omega
 | rfl
 | (refine congrArg (SV.arr _) ?_)
 | (refine congrArg (Value.int _) ?_)
 | (refine congrArg Value.bool ?_))
                      · rintro j hj
                        by_cases hjn : j < n
                        · have c6 := leader_in (pet := pet) (r := r1) (i := j) (by rw [hkr.len]; exact hjn)
                          rw [q4 j hjn] at c6
                          repeat' (first
 | refine W.seq ?_
 | refine W.block ?_
 | (refine W.regionM (id := 46) tys_ok [] [2] ?_; conv => whnf)
 | (refine W.region tys_ok [] ?_; conv => whnf)
 | (refine W.drawAll tys_ok [] mixed rfl ?_; conv => whnf)
 | (refine W.ret ?_; conv => whnf)
 | (refine W.skip ?_; conv => whnf)
 | (refine W.exit ?_; conv => whnf)
 | (refine callM_at (c6) ?_; conv => whnf)
 | (refine W.cond rfl (fun hb => ?_) (fun hb => ?_) <;> (try simp only [zr, zd, zm, minL, maxL, pickB, zA] at hb) <;> (try (first | (cases hb; done) | exact absurd hb (by decide) | (exfalso; omega) | (omega) | ((simp [pickB] at hb; omega)))))
 | (refine Or.inl (And.intro trivial ?_); (conv => whnf))
 | ((with_reducible refine And.intro ?_ ?_); exact zc; conv => whnf)
 | ((with_reducible refine And.intro (Side.out ?_) ?_); rotate_left; (conv => whnf))
 | ((first | refine retF1 ?_ | refine retF2 ?_) <;> (conv => whnf) <;> repeat' (first
 | exact trivial
 | (with_reducible rfl)
 | ((with_reducible refine And.intro ?_ ?_) <;> conv => whnf)
 | omega
 | rfl
 | (refine congrArg (SV.arr _) ?_)
 | (refine congrArg (Value.int _) ?_)
 | (refine congrArg Value.bool ?_)))); all_goals (try unfold Side)
                          all_goals try (repeat' (first | exact zb | with_reducible refine And.intro ?_ ?_))
                          refine ⟨j + 1, ⟨by omega, by omega⟩, ?_⟩
                          refine subF.ok ?_ <;> (conv => whnf) <;> repeat' (first
 | exact trivial
 | (with_reducible rfl)
 | ((with_reducible refine And.intro ?_ ?_) <;> conv => whnf)
 | omega
 | rfl
 | (refine congrArg (SV.arr _) ?_)
 | (refine congrArg (Value.int _) ?_)
 | (refine congrArg Value.bool ?_))
                        · repeat' (first
 | refine W.seq ?_
 | refine W.block ?_
 | (refine W.region tys_ok [] ?_; conv => whnf)
 | (refine W.drawAll tys_ok [] mixed rfl ?_; conv => whnf)
 | (refine W.ret ?_; conv => whnf)
 | (refine W.skip ?_; conv => whnf)
 | (refine W.exit ?_; conv => whnf)
 | (refine W.cond rfl (fun hb => ?_) (fun hb => ?_) <;> (try simp only [zr, zd, zm, minL, maxL, pickB, zA] at hb) <;> (try (first | (cases hb; done) | exact absurd hb (by decide) | (exfalso; omega) | (omega) | ((simp [pickB] at hb; omega)))))
 | ((with_reducible refine And.intro ?_ ?_); exact zc; conv => whnf)
 | ((with_reducible refine And.intro (Side.out ?_) ?_); rotate_left; (conv => whnf))
 | ((first | refine retF1 ?_ | refine retF2 ?_) <;> (conv => whnf) <;> repeat' (first
 | exact trivial
 | (with_reducible rfl)
 | ((with_reducible refine And.intro ?_ ?_) <;> conv => whnf)
 | omega
 | rfl
 | (refine congrArg (SV.arr _) ?_)
 | (refine congrArg (Value.int _) ?_)
 | (refine congrArg Value.bool ?_)))); all_goals (try unfold Side)
                          all_goals try (repeat' (first | exact zb | with_reducible refine And.intro ?_ ?_))
                          refine ⟨z + 1, ⟨by omega, by omega⟩, ?_⟩
                          refine subF.ok ?_ <;> (conv => whnf) <;> repeat' (first
 | exact trivial
 | (with_reducible rfl)
 | ((with_reducible refine And.intro ?_ ?_) <;> conv => whnf)
 | omega
 | rfl
 | (refine congrArg (SV.arr _) ?_)
 | (refine congrArg (Value.int _) ?_)
 | (refine congrArg Value.bool ?_))
                    · have hA1 := hA0.symm.trans hA
                      obtain ⟨han, hne⟩ := atF_some hn0 hA1
                      obtain ⟨hE2, _⟩ := hE.del hl han hne
                      obtain ⟨r2, hr2⟩ : ∃ r2, r2 = rdelK pet (a' : Int) r := ⟨_, rfl⟩
                      have hs2 := del_sent (pet := pet) (i := (a' : Int)) (r := r)
                      rw [← hr2] at hE2 hs2
                      rw [← hr2]
                      obtain ⟨c2, hc2⟩ : ∃ c2, c2 = bump ((F' r a').getD 0 N0).1 c := ⟨_, rfl⟩
                      have hsum : ((t + 1 : Nat) : Int) = c2.1 + c2.2.1 + c2.2.2 := by rw [hc2, bump_sum]; omega
                      rw [← hc2] at hE2
                      repeat' (first
 | refine W.seq ?_
 | refine W.block ?_
 | (refine W.region tys_ok [] ?_; conv => whnf)
 | (refine W.drawAll tys_ok [] mixed rfl ?_; conv => whnf)
 | (refine W.ret ?_; conv => whnf)
 | (refine W.skip ?_; conv => whnf)
 | (refine W.exit ?_; conv => whnf)
 | (refine W.cond rfl (fun hb => ?_) (fun hb => ?_) <;> (try simp only [zr, zd, zm, minL, maxL, pickB, zA] at hb) <;> (try (first | (cases hb; done) | exact absurd hb (by decide) | (exfalso; omega) | (omega) | ((simp [pickB] at hb; omega)))))
 | ((with_reducible refine And.intro ?_ ?_); exact zc; conv => whnf)
 | ((with_reducible refine And.intro (Side.out ?_) ?_); rotate_left; (conv => whnf))
 | ((first | refine retF1 ?_ | refine retF2 ?_) <;> (conv => whnf) <;> repeat' (first
 | exact trivial
 | (with_reducible rfl)
 | ((with_reducible refine And.intro ?_ ?_) <;> conv => whnf)
 | omega
 | rfl
 | (refine congrArg (SV.arr _) ?_)
 | (refine congrArg (Value.int _) ?_)
 | (refine congrArg Value.bool ?_)))); all_goals (try unfold Side)
                      all_goals try (repeat' (first | exact zb | with_reducible refine And.intro ?_ ?_))
                      refine ⟨(t + 1, r2, c2), ⟨⟨hE2, hsum, by dsimp only; omega⟩, by dsimp only; omega⟩, ?_⟩
                      refine subF.ok ?_ <;> (conv => whnf) <;> repeat' (first
 | exact trivial
 | (with_reducible rfl)
 | ((with_reducible refine And.intro ?_ ?_) <;> conv => whnf)
 | omega
 | rfl
 | (refine congrArg (SV.arr _) ?_)
 | (refine congrArg (Value.int _) ?_)
 | (refine congrArg Value.bool ?_))
            · repeat' (first
 | refine W.seq ?_
 | refine W.block ?_
 | (refine W.region tys_ok [] ?_; conv => whnf)
 | (refine W.drawAll tys_ok [] mixed rfl ?_; conv => whnf)
 | (refine W.ret ?_; conv => whnf)
 | (refine W.skip ?_; conv => whnf)
 | (refine W.exit ?_; conv => whnf)
 | (refine W.cond rfl (fun hb => ?_) (fun hb => ?_) <;> (try simp only [zr, zd, zm, minL, maxL, pickB, zA] at hb) <;> (try (first | (cases hb; done) | exact absurd hb (by decide) | (exfalso; omega) | (omega))))
 | ((with_reducible refine And.intro ?_ ?_); exact zc; conv => whnf)
 | ((with_reducible refine And.intro (Side.out ?_) ?_); rotate_left; (conv => whnf))
 | ((first | refine retF1 ?_ | refine retF2 ?_) <;> (conv => whnf) <;> repeat' (first
 | exact trivial
 | (with_reducible rfl)
 | ((with_reducible refine And.intro ?_ ?_) <;> conv => whnf)
 | omega
 | rfl
 | (refine congrArg (SV.arr _) ?_)
 | (refine congrArg (Value.int _) ?_)
 | (refine congrArg Value.bool ?_)))); all_goals (try unfold Side)
              all_goals try (repeat' (first | exact zb | with_reducible refine And.intro ?_ ?_))
theorem smo8_wf {y : List Int} (h : (Ty.sl (.int .u8)).wf y) : smo8 y := fun i => by
 have h2 : ∀ z ∈ y, (Ty.int .u8).wf z := h.2
 by_cases hi : i < y.length
 · exact wf_u8 (h2 _ (by rw [List.getD_eq_getElem?_getD, List.getElem?_eq_getElem hi]; exact List.getElem_mem hi))
 · have : y.getD i 0 = 0 := by simp [List.getD, List.getElem?_eq_none (Nat.le_of_not_lt hi)]
   rw [this]; decide
theorem len8_wf {y : List Int} (h : (Ty.sl (.int .u8)).wf y) : (y.length : Int) ≤ 9223372036854775807 := by
 have h1 : y.length ≤ maxLen := h.1
 have e1 : maxLen = 9223372036854775807 := rfl
 omega
end Go.Proofs.YtckmhlpngolbpaaDoor
