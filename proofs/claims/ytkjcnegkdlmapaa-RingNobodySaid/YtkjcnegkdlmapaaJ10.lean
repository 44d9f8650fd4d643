/- Joined of: R2 Vc37 R3 R4 R5 R7. No condition. -/
import Derived.Test.YtkjcnegkdlmapaaJ9
import Derived.Test.YtkjcnegkdlmapaaJ4
set_option linter.unusedVariables false
set_option linter.unusedSimpArgs false
namespace Go.Proofs.Ytkjcnegkdlmapaa
open Int renaming reduceToNat → zr, reduceTDiv → zd, reduceTMod → zm
open Go Go.Vc Go.Rg
variable {n : Nat} {pet : Bool} {r : Rn}
theorem begin_ring {i : Nat} (hp : i < r.1.length) (hi : i < r.2.1.length) (hf : ((r.2.1.getD i []).length : Int) ≤ r.2.2) (hs : 0 ≤ r.2.2 ∧ r.2.2 ≤ 1000000) : FnM Try.prog 61 [.padr 1000000000 0, (.lit (.int .i64 (i : Int)))] [(1000000000, .box [.lit (.bool true), .lit (.bool pet), .own 1000000001, .mown 5, (.lit (.int .i64 ((r).2.2 : Int)))]), (1000000001, .row 105 PT true (r).1), (5, .mat 80 91 NT true (r).2.1 none)] (.tup []) [(1000000000, .box [.lit (.bool true), .lit (.bool pet), .own 1000000001, .mown 5, (.lit (.int .i64 (((beginR i r)).2.2 : Int)))]), (1000000001, .row 105 PT true ((beginR i r)).1), (5, .mat 80 91 NT true ((beginR i r)).2.1 none)] := by
 have c1 := sendp_at (pet := pet) (r := (setB r.1 i, r.2)) (i := i) (k := 1) (v := pV r.1 i) hi hf hs
 have hl : @List.length PT.T r.1 = r.1.length := rfl
 have e1 : pV (setB r.1 i) i = pV r.1 i := by unfold pV setB; rw [getD_setP hp, if_pos rfl]; rfl
 have e2 : i < (setB r.1 i).length := by rw [setB_len]; exact hp
 have e3 : 0 ≤ (i : Int) ∧ i < (setB r.1 i).length := ⟨by omega, e2⟩
 refine FnM.of_body tys_ok Try.func61 (by rfl) rfl Try.ntmps61 (by rw [Try.results61]) (by simp) ?_
 repeat' (first
 | refine W.seq ?_
 | refine W.block ?_
 | (refine W.regionM (id := 1) tys_ok [] [10] ?_; conv => whnf)
 | (refine W.region tys_ok [] ?_; conv => whnf)
 | (refine W.drawAll tys_ok [] mixed rfl ?_; conv => whnf)
 | (refine W.ret ?_; conv => whnf)
 | (refine W.skip ?_; conv => whnf)
 | (refine W.exit ?_; conv => whnf)
 | (refine callM_at (c1) ?_; conv => whnf)
 | (refine W.cond rfl (fun hb => ?_) (fun hb => ?_) <;> (try simp only [zr, zd, zm, minL, maxL, pickB, zA] at hb) <;> (try (first | (cases hb; done) | exact absurd hb (by decide) | (exfalso; omega) | (omega))))
 | (refine Or.inl (And.intro trivial ?_); (conv => whnf))
 | ((with_reducible refine And.intro ?_ ?_); exact zc; conv => whnf)
 | ((with_reducible refine And.intro (Side.out ?_) ?_); rotate_left; (conv => whnf))
 | ((first | refine retM1 ?_ | refine retM2 ?_) <;> (conv => whnf) <;> repeat' (first
 | exact trivial
 | (with_reducible rfl)
 | ((with_reducible refine And.intro ?_ ?_) <;> conv => whnf)
 | omega
 | rfl
 | (refine congrArg (SV.arr _) ?_)
 | (refine congrArg (Value.int _) ?_)
 | (refine congrArg Value.bool ?_)))); all_goals (try unfold Side)
 all_goals try (repeat' (first | exact zb | with_reducible refine And.intro ?_ ?_))
 all_goals first | exact e1 | exact e2 | exact Path.imp_of e3 | rfl
theorem start_arg {i : Int} (h : hasB r.1.length i = false) : FnM Try.prog 30 [.padr 1000000000 0, (.lit (.int .i64 (i : Int)))] [(1000000000, .box [.lit (.bool true), .lit (.bool pet), .own 1000000001, .mown 5, (.lit (.int .i64 ((r).2.2 : Int)))]), (1000000001, .row 105 PT true (r).1), (5, .mat 80 91 NT true (r).2.1 none)] (.lit (.int .i64 (1 : Int))) [(1000000000, .box [.lit (.bool true), .lit (.bool pet), .own 1000000001, .mown 5, (.lit (.int .i64 ((r).2.2 : Int)))]), (1000000001, .row 105 PT true (r).1), (5, .mat 80 91 NT true (r).2.1 none)] := by
 have c1 := ris_at (pet := pet) (r := r)
 have c2 := rhas_at (pet := pet) (r := r) h.symm
 refine FnM.of_body tys_ok Try.func30 (by rfl) rfl Try.ntmps30 (by rw [Try.results30]) (by simp) ?_
 repeat' (first
 | refine W.seq ?_
 | refine W.block ?_
 | (refine W.regionM (id := 1) tys_ok [] [1] ?_; conv => whnf)
 | (refine W.regionM (id := 3) tys_ok [] [2] ?_; conv => whnf)
 | (refine W.region tys_ok [] ?_; conv => whnf)
 | (refine W.drawAll tys_ok [] mixed rfl ?_; conv => whnf)
 | (refine W.ret ?_; conv => whnf)
 | (refine W.skip ?_; conv => whnf)
 | (refine W.exit ?_; conv => whnf)
 | (refine callM_at (c1) ?_; conv => whnf)
 | (refine callM_at (c2) ?_; conv => whnf)
 | (refine W.cond rfl (fun hb => ?_) (fun hb => ?_) <;> (try simp only [zr, zd, zm, minL, maxL, pickB, zA] at hb) <;> (try (first | (cases hb; done) | exact absurd hb (by decide) | (exfalso; omega) | (omega))))
 | (refine Or.inl (And.intro trivial ?_); (conv => whnf))
 | ((with_reducible refine And.intro ?_ ?_); exact zc; conv => whnf)
 | ((with_reducible refine And.intro (Side.out ?_) ?_); rotate_left; (conv => whnf))
 | ((first | refine retM1 ?_ | refine retM2 ?_) <;> (conv => whnf) <;> repeat' (first
 | exact trivial
 | (with_reducible rfl)
 | ((with_reducible refine And.intro ?_ ?_) <;> conv => whnf)
 | omega
 | rfl
 | (refine congrArg (SV.arr _) ?_)
 | (refine congrArg (Value.int _) ?_)
 | (refine congrArg Value.bool ?_)))); all_goals (try unfold Side)
 all_goals try (repeat' (first | exact zb | with_reducible refine And.intro ?_ ?_))
theorem start_none {i : Nat} (hp : i < r.1.length) (hb0 : pB r.1 i = true) : FnM Try.prog 30 [.padr 1000000000 0, (.lit (.int .i64 (i : Int)))] [(1000000000, .box [.lit (.bool true), .lit (.bool pet), .own 1000000001, .mown 5, (.lit (.int .i64 ((r).2.2 : Int)))]), (1000000001, .row 105 PT true (r).1), (5, .mat 80 91 NT true (r).2.1 none)] (.lit (.int .i64 (5 : Int))) [(1000000000, .box [.lit (.bool true), .lit (.bool pet), .own 1000000001, .mown 5, (.lit (.int .i64 ((r).2.2 : Int)))]), (1000000001, .row 105 PT true (r).1), (5, .mat 80 91 NT true (r).2.1 none)] := by
 have c1 := ris_at (pet := pet) (r := r)
 have c2 := rhas_at (pet := pet) (r := r) (has_of hp).symm
 have hl : @List.length PT.T r.1 = r.1.length := rfl
 have hb' : (r.1.getD i P0).2.1 = true := hb0
 refine FnM.of_body tys_ok Try.func30 (by rfl) rfl Try.ntmps30 (by rw [Try.results30]) (by simp) ?_
 repeat' (first
 | refine W.seq ?_
 | refine W.block ?_
 | (refine W.regionM (id := 1) tys_ok [] [1] ?_; conv => whnf)
 | (refine W.regionM (id := 3) tys_ok [] [2] ?_; conv => whnf)
 | (refine W.region tys_ok [] ?_; conv => whnf)
 | (refine W.drawAll tys_ok [] mixed rfl ?_; conv => whnf)
 | (refine W.ret ?_; conv => whnf)
 | (refine W.skip ?_; conv => whnf)
 | (refine W.exit ?_; conv => whnf)
 | (refine callM_at (c1) ?_; conv => whnf)
 | (refine callM_at (c2) ?_; conv => whnf)
 | (refine W.cond rfl (fun hb => ?_) (fun hb => ?_) <;> (try simp only [zr, zd, zm, minL, maxL, pickB, zA] at hb) <;> (try (first | (cases hb; done) | exact absurd hb (by decide) | (exfalso; omega) | (omega) | ((simp_all; done)))))
 | (refine Or.inl (And.intro trivial ?_); (conv => whnf))
 | ((with_reducible refine And.intro ?_ ?_); exact zc; conv => whnf)
 | ((with_reducible refine And.intro (Side.out ?_) ?_); rotate_left; (conv => whnf))
 | ((first | refine retM1 ?_ | refine retM2 ?_) <;> (conv => whnf) <;> repeat' (first
 | exact trivial
 | (with_reducible rfl)
 | ((with_reducible refine And.intro ?_ ?_) <;> conv => whnf)
 | omega
 | rfl
 | (refine congrArg (SV.arr _) ?_)
 | (refine congrArg (Value.int _) ?_)
 | (refine congrArg Value.bool ?_)))); all_goals (try unfold Side)
 all_goals try (repeat' (first | exact zb | with_reducible refine And.intro ?_ ?_))
theorem start_ok {i : Nat} (hp : i < r.1.length) (hi : i < r.2.1.length) (hf : ((r.2.1.getD i []).length : Int) ≤ r.2.2) (hs : 0 ≤ r.2.2 ∧ r.2.2 ≤ 1000000) (hb0 : pB r.1 i = false) : FnM Try.prog 30 [.padr 1000000000 0, (.lit (.int .i64 (i : Int)))] [(1000000000, .box [.lit (.bool true), .lit (.bool pet), .own 1000000001, .mown 5, (.lit (.int .i64 ((r).2.2 : Int)))]), (1000000001, .row 105 PT true (r).1), (5, .mat 80 91 NT true (r).2.1 none)] (.lit (.int .i64 (0 : Int))) [(1000000000, .box [.lit (.bool true), .lit (.bool pet), .own 1000000001, .mown 5, (.lit (.int .i64 (((beginR i r)).2.2 : Int)))]), (1000000001, .row 105 PT true ((beginR i r)).1), (5, .mat 80 91 NT true ((beginR i r)).2.1 none)] := by
 have c1 := ris_at (pet := pet) (r := r)
 have c2 := rhas_at (pet := pet) (r := r) (has_of hp).symm
 have c3 := begin_ring (pet := pet) hp hi hf hs
 have hl : @List.length PT.T r.1 = r.1.length := rfl
 have hb' : (r.1.getD i P0).2.1 = false := hb0
 refine FnM.of_body tys_ok Try.func30 (by rfl) rfl Try.ntmps30 (by rw [Try.results30]) (by simp) ?_
 repeat' (first
 | refine W.seq ?_
 | refine W.block ?_
 | (refine W.regionM (id := 1) tys_ok [] [1] ?_; conv => whnf)
 | (refine W.regionM (id := 3) tys_ok [] [2] ?_; conv => whnf)
 | (refine W.regionM (id := 7) tys_ok [] [2] ?_; conv => whnf)
 | (refine W.region tys_ok [] ?_; conv => whnf)
 | (refine W.drawAll tys_ok [] mixed rfl ?_; conv => whnf)
 | (refine W.ret ?_; conv => whnf)
 | (refine W.skip ?_; conv => whnf)
 | (refine W.exit ?_; conv => whnf)
 | (refine callM_at (c1) ?_; conv => whnf)
 | (refine callM_at (c2) ?_; conv => whnf)
 | (refine callM_at (c3) ?_; conv => whnf)
 | (refine W.cond rfl (fun hb => ?_) (fun hb => ?_) <;> (try simp only [zr, zd, zm, minL, maxL, pickB, zA] at hb) <;> (try (first | (cases hb; done) | exact absurd hb (by decide) | (exfalso; omega) | (omega) | ((simp_all; done)))))
 | (refine Or.inl (And.intro trivial ?_); (conv => whnf))
 | ((with_reducible refine And.intro ?_ ?_); exact zc; conv => whnf)
 | ((with_reducible refine And.intro (Side.out ?_) ?_); rotate_left; (conv => whnf))
 | ((first | refine retM1 ?_ | refine retM2 ?_) <;> (conv => whnf) <;> repeat' (first
 | exact trivial
 | (with_reducible rfl)
 | ((with_reducible refine And.intro ?_ ?_) <;> conv => whnf)
 | omega
 | rfl
 | (refine congrArg (SV.arr _) ?_)
 | (refine congrArg (Value.int _) ?_)
 | (refine congrArg Value.bool ?_)))); all_goals (try unfold Side)
 all_goals try (repeat' (first | exact zb | with_reducible refine And.intro ?_ ?_))
set_option maxHeartbeats 4000000 in
theorem chang_at {i : Nat} {k v : Int} (hp : i < r.1.length) (hi : i < r.2.1.length) (hf : ((r.2.1.getD i []).length : Int) ≤ r.2.2) (hs : 0 ≤ r.2.2 ∧ r.2.2 ≤ 1000000) : FnM Try.prog 66 [.padr 1000000000 0, (.lit (.int .i64 (i : Int))), .strct [(.lit (.int .i64 (k : Int))), (.lit (.int .i64 (v : Int)))]] [(1000000000, .box [.lit (.bool true), .lit (.bool pet), .own 1000000001, .mown 5, (.lit (.int .i64 ((r).2.2 : Int)))]), (1000000001, .row 105 PT true (r).1), (5, .mat 80 91 NT true (r).2.1 none)] (.tup []) [(1000000000, .box [.lit (.bool true), .lit (.bool pet), .own 1000000001, .mown 5, (.lit (.int .i64 (((changR i k v r)).2.2 : Int)))]), (1000000001, .row 105 PT true ((changR i k v r)).1), (5, .mat 80 91 NT true ((changR i k v r)).2.1 none)] := by
 obtain ⟨d2, hd⟩ : ∃ d2, changR i k v r = d2 := ⟨_, rfl⟩
 rw [hd]
 have hl : @List.length PT.T r.1 = r.1.length := rfl
 have c1 := sendp_at (pet := pet) (r := (setL r.1 i v, r.2)) (i := i) (k := k) (v := v) hi hf hs
 have c2 := sendp_at (pet := pet) (r := (setL r.1 i v, r.2)) (i := i) (k := 3) (v := v) hi hf hs
 have c3 := sendp_at (pet := pet) (r := (setB r.1 i, r.2)) (i := i) (k := k) (v := v) hi hf hs
 have c4 := begin_ring (pet := pet) hp hi hf hs
 obtain ⟨N, hN⟩ : ∃ N, (r.1.getD i P0).1 = N := ⟨_, rfl⟩
 obtain ⟨B, hB⟩ : ∃ B, (r.1.getD i P0).2.1 = B := ⟨_, rfl⟩
 have key : (k = 3 ∧ v ≠ N ∧ sendR i k v (setL r.1 i v, r.2) = d2) ∨ (k ≠ 3 ∧ v = N ∧ sendR i 3 v (setL r.1 i v, r.2) = d2) ∨ (k ≠ 3 ∧ N < v ∧ sendR i k v (setB r.1 i, r.2) = d2) ∨ (k ≠ 3 ∧ v < N ∧ B = false ∧ beginR i r = d2) ∨ (k ≠ 3 ∧ v < N ∧ B = true ∧ r = d2) ∨ (k = 3 ∧ v = N ∧ r = d2) := by
  unfold changR at hd
  have hN' : pN r.1 i = N := hN
  have hB' : pB r.1 i = B := hB
  rw [hN', hB'] at hd
  by_cases k3 : k = 3
  · rw [if_pos k3] at hd
    by_cases e : v = N
    · rw [if_pos e] at hd; exact .inr (.inr (.inr (.inr (.inr ⟨k3, e, hd⟩))))
    · rw [if_neg e] at hd; exact .inl ⟨k3, e, hd⟩
  · rw [if_neg k3] at hd
    by_cases e : v = N
    · rw [if_pos e] at hd; exact .inr (.inl ⟨k3, e, hd⟩)
    · rw [if_neg e] at hd
      by_cases g : N < v
      · rw [if_pos g] at hd; exact .inr (.inr (.inl ⟨k3, g, hd⟩))
      · rw [if_neg g] at hd
        by_cases b : B = true
        · rw [if_pos b] at hd; exact .inr (.inr (.inr (.inr (.inl ⟨k3, by omega, b, hd⟩))))
        · rw [if_neg b] at hd; exact .inr (.inr (.inr (.inl ⟨k3, by omega, by simpa using b, hd⟩)))
 clear hd
 have ea : decide (v = (r.1.getD i P0).1) = decide (v = N) := by rw [hN]
 have ec : decide ((r.1.getD i P0).1 < v) = decide (N < v) := by rw [hN]
 rcases key with ⟨h1, h2, rfl⟩ | ⟨h1, h2, rfl⟩ | ⟨h1, h2, rfl⟩ | ⟨h1, h2, h3, rfl⟩ | ⟨h1, h2, h3, rfl⟩ | ⟨h1, h2, rfl⟩
 all_goals
  refine FnM.of_body tys_ok Try.func66 (by rfl) rfl Try.ntmps66 (by rw [Try.results66]) (by simp) ?_
  repeat' (first
 | refine W.seq ?_
 | refine W.block ?_
 | (refine W.drawPhTo (id := 2) tys_ok [] mixed [0, 1, 0, 4, 8, 16, 32, 66, 255] [([0, 2, 3, 4, 5], 2, 127), ([7, 8], 0, 511)] ⟨[(0, .padr 1000000000 0), (1, (.lit (.int .i64 (i : Int)))), (5, .padr 6000 0), (6, .oadr 1000000001 7 i 0), (7, .lit (.bool (decide (v = N))))], [(1000000000, .box [.lit (.bool true), .lit (.bool pet), .own 1000000001, .mown 5, (.lit (.int .i64 ((r).2.2 : Int)))]), (1000000001, .row 105 PT true (r).1), (5, .mat 80 91 NT true (r).2.1 none), (6000, .box [(.lit (.int .i64 (k : Int))), (.lit (.int .i64 (v : Int)))])]⟩ (by decide +kernel) ?_ ?_ <;> (conv => whnf))
 | (refine W.drawPhTo (id := 10) tys_ok [] mixed [0, 1, 0, 4, 8, 16, 32, 66, 128] [([0, 2, 3, 4, 5], 2, 127), ([7, 8], 0, 511)] ⟨[(0, .padr 1000000000 0), (1, (.lit (.int .i64 (i : Int)))), (5, .padr 6000 0), (6, .oadr 1000000001 7 i 0), (60, .lit (.bool (decide (N < v))))], [(1000000000, .box [.lit (.bool true), .lit (.bool pet), .own 1000000001, .mown 5, (.lit (.int .i64 ((r).2.2 : Int)))]), (1000000001, .row 105 PT true (r).1), (5, .mat 80 91 NT true (r).2.1 none), (6000, .box [(.lit (.int .i64 (k : Int))), (.lit (.int .i64 (v : Int)))])]⟩ (by decide +kernel) ?_ ?_ <;> (conv => whnf))
 | (refine W.regionM (id := 5) tys_ok [] [6] ?_; conv => whnf)
 | (refine W.regionM (id := 9) tys_ok [] [4] ?_; conv => whnf)
 | (refine W.regionM (id := 12) tys_ok [] [6] ?_; conv => whnf)
 | (refine W.regionM (id := 14) tys_ok [] [2] ?_; conv => whnf)
 | (refine W.region tys_ok [] ?_; conv => whnf)
 | (refine W.drawAll tys_ok [] mixed rfl ?_; conv => whnf)
 | (refine W.ret ?_; conv => whnf)
 | (refine W.skip ?_; conv => whnf)
 | (refine W.exit ?_; conv => whnf)
 | (have _ : k = 3 := h1; refine callM_at c1 ?_; conv => whnf)
 | (have _ : v = N := h2; refine callM_at c2 ?_; conv => whnf)
 | (have _ : N < v := h2; refine callM_at c3 ?_; conv => whnf)
 | (refine callM_at (c4) ?_; conv => whnf)
 | (refine Both.mk ?_ ?_ <;> (conv => whnf))
 | (refine W.cond rfl (fun hb => ?_) (fun hb => ?_) <;> (try simp only [zr, zd, zm, minL, maxL, pickB, zA] at hb) <;> (try (first | (cases hb; done) | exact absurd hb (by decide) | (exfalso; omega) | (omega) | ((rw [hB] at hb; simp_all; done)) | ((simp [pickB] at hb; omega)) | ((simp_all; done)))))
 | (refine Or.inl (And.intro trivial ?_); (conv => whnf))
 | ((with_reducible refine And.intro ?_ ?_); exact zc; conv => whnf)
 | ((with_reducible refine And.intro (Side.out ?_) ?_); rotate_left; (conv => whnf))
 | ((first | refine retM1 ?_ | refine retM2 ?_ | refine subF.leaf ?_ | refine subF.side ?_) <;> (conv => whnf) <;> repeat' (first
 | exact trivial
 | (with_reducible rfl)
 | ((with_reducible refine And.intro ?_ ?_) <;> conv => whnf)
 | omega
 | rfl
 | (refine congrArg (SV.arr _) ?_)
 | (refine congrArg (Value.int _) ?_)
 | (refine congrArg Value.bool ?_)))); all_goals (try unfold Side)
 all_goals first | exact ea | exact ec | skip
 all_goals try (repeat' (first | exact zb | with_reducible refine And.intro ?_ ?_))
end Go.Proofs.Ytkjcnegkdlmapaa
namespace Go.Vc
theorem W.joinTo {P : Program} {n : Nat} {Q : Exit → Sy → Prop} {Γ : Sy} {t : Nat} {u x y z : Code} (Γ' : Sy) (h1 : W P n (.seq u (.cond (.tmp t) x y)) Γ (thenQ (fun Γ1 => Leaf (Sub Γ1 Γ' (mkRen Γ1 Γ'))) Q)) (h2 : W P n z Γ' Q) : W P n (.seq (.seq u (.cond (.tmp t) x y)) z) Γ Q := by
 refine W.seq ⟨fun c g a w hn hst => wp_mono (h1.out c g a w hn hst) fun e a' w' hq => ?_⟩
 obtain ⟨Γ1, g', h3, h4⟩ := hq
 cases e with
 | normal => exact ⟨Γ1, g', (let ⟨h5⟩ := h3; W.sub h5 h2), h4⟩
 | _ => exact ⟨Γ1, g', h3, h4⟩
end Go.Vc
namespace Go.Proofs.Ytkjcnegkdlmapaa
open Int renaming reduceToNat → zr, reduceTDiv → zd, reduceTMod → zm
open Go Go.Vc Go.Rg
variable {n : Nat} {pet : Bool} {r : Rn}
def sp3 (ps : List Pe) (i : Nat) (v : Int) : List Pe := ps.set i ((ps.getD i P0).1, (ps.getD i P0).2.1, (ps.getD i P0).2.2.1, v, (ps.getD i P0).2.2.2.2)
def sp4 (ps : List Pe) (i : Nat) (v : Int) : List Pe := ps.set i ((ps.getD i P0).1, (ps.getD i P0).2.1, (ps.getD i P0).2.2.1, (ps.getD i P0).2.2.2.1, v, (ps.getD i P0).2.2.2.2.2)
def sp6 (ps : List Pe) (i : Nat) (v : Int) : List Pe := ps.set i ((ps.getD i P0).1, (ps.getD i P0).2.1, (ps.getD i P0).2.2.1, (ps.getD i P0).2.2.2.1, (ps.getD i P0).2.2.2.2.1, (ps.getD i P0).2.2.2.2.2.1, v, (ps.getD i P0).2.2.2.2.2.2.2)
theorem sp_no {ps : List Pe} {i : Nat} {v : Int} (hi : i < ps.length) : sp6 (sp4 ps i v) i 2 = setNo ps i v := by
 have e : (sp4 ps i v).getD i P0 = ((ps.getD i P0).1, (ps.getD i P0).2.1, (ps.getD i P0).2.2.1, (ps.getD i P0).2.2.2.1, v, (ps.getD i P0).2.2.2.2.2) := by unfold sp4; rw [getD_setP hi, if_pos rfl]
 unfold sp6
 rw [e]
 unfold sp4
 rw [List.set_set]
 rfl
theorem sp_v {ps : List Pe} {i : Nat} (hi : i < ps.length) : sp6 (sp3 ps i (pO ps i)) i 1 = setV ps i := by
 have e : (sp3 ps i (pO ps i)).getD i P0 = ((ps.getD i P0).1, (ps.getD i P0).2.1, (ps.getD i P0).2.2.1, pO ps i, (ps.getD i P0).2.2.2.2) := by unfold sp3; rw [getD_setP hi, if_pos rfl]
 unfold sp6
 rw [e]
 unfold sp3
 rw [List.set_set]
 rfl
theorem sp3_len {ps : List Pe} {i : Nat} {v : Int} (hi : i < ps.length) : i < (sp3 ps i v).length := by unfold sp3; rw [List.length_set]; exact hi
theorem sp4_len {ps : List Pe} {i : Nat} {v : Int} (hi : i < ps.length) : i < (sp4 ps i v).length := by unfold sp4; rw [List.length_set]; exact hi
theorem getV_setV {ps : List Pe} {i : Nat} (hi : i < ps.length) : pV (setV ps i) i = pO ps i := by unfold pV setV; rw [getD_setP hi, if_pos rfl]
theorem beginR_ok {i : Nat} (hp : i < r.1.length) (hi : i < r.2.1.length) (hf : ((r.2.1.getD i []).length : Int) ≤ r.2.2) : i < (beginR i r).1.length ∧ i < (beginR i r).2.1.length ∧ (((beginR i r).2.1.getD i []).length : Int) ≤ (beginR i r).2.2 ∧ (beginR i r).2.2 = r.2.2 + 1 := by
 refine ⟨by show i < (setB r.1 i).length; rw [setB_len]; exact hp, by show i < (r.2.1.set i _).length; rw [List.length_set]; exact hi, ?_, rfl⟩
 show (((r.2.1.set i (r.2.1.getD i [] ++ [(1, pV r.1 i, ())])).getD i []).length : Int) ≤ r.2.2 + 1
 rw [getD_setF hi, if_pos rfl, List.length_append, List.length_singleton]; omega
set_option maxHeartbeats 8000000 in
theorem peter_at {i : Nat} {k v : Int} (hp0 : i < r.1.length) (hi0 : i < r.2.1.length) (hf0 : ((r.2.1.getD i []).length : Int) ≤ r.2.2) (hs0 : 0 ≤ r.2.2 ∧ r.2.2 ≤ 999999) : FnM Try.prog 67 [.padr 1000000000 0, (.lit (.int .i64 (i : Int))), .strct [(.lit (.int .i64 (k : Int))), (.lit (.int .i64 (v : Int)))]] [(1000000000, .box [.lit (.bool true), .lit (.bool pet), .own 1000000001, .mown 5, (.lit (.int .i64 ((r).2.2 : Int)))]), (1000000001, .row 105 PT true (r).1), (5, .mat 80 91 NT true (r).2.1 none)] (.tup []) [(1000000000, .box [.lit (.bool true), .lit (.bool pet), .own 1000000001, .mown 5, (.lit (.int .i64 (((peterR i k v r)).2.2 : Int)))]), (1000000001, .row 105 PT true ((peterR i k v r)).1), (5, .mat 80 91 NT true ((peterR i k v r)).2.1 none)] := by
  obtain ⟨d2, hd⟩ : ∃ d2, peterR i k v r = d2 := ⟨_, rfl⟩
  rw [hd]
  have hl0 : @List.length PT.T r.1 = r.1.length := rfl
  have e00 : 0 ≤ (i : Int) ∧ i < r.1.length := ⟨by omega, hp0⟩
  have c0 := begin_ring (pet := pet) (r := r) (i := i) hp0 hi0 hf0 ⟨by omega, by omega⟩
  have hb0 : (r.1.getD i P0).2.1 = pB r.1 i := rfl
  obtain ⟨x, hx⟩ : ∃ x, x = wakeR i r := ⟨_, rfl⟩
  obtain ⟨hw1, hw2, hp, hi, hf, hs⟩ : (pB r.1 i = true → r = x) ∧ (pB r.1 i = false → beginR i r = x) ∧ i < x.1.length ∧ i < x.2.1.length ∧ ((x.2.1.getD i []).length : Int) ≤ x.2.2 ∧ 0 ≤ x.2.2 ∧ x.2.2 ≤ 1000000 := by
    obtain ⟨q1, q2, q3, q4⟩ := beginR_ok hp0 hi0 hf0
    rw [hx]
    unfold wakeR
    by_cases hb : pB r.1 i = true
    · rw [if_pos hb]; exact ⟨fun _ => rfl, (fun h => by rw [hb] at h; cases h), hp0, hi0, hf0, by omega, by omega⟩
    · rw [if_neg hb]; exact ⟨fun h => absurd h hb, fun _ => rfl, q1, q2, q3, by omega, by omega⟩
  have hw3 : (!(r.1.getD i P0).2.1) = false → r = x := fun h => hw1 (by rw [hb0] at h; simpa using h)
  have hw4 : (!(r.1.getD i P0).2.1) = true → beginR i r = x := fun h => hw2 (by rw [hb0] at h; simpa using h)
  have hl : @List.length PT.T x.1 = x.1.length := rfl
  have e0 : 0 ≤ (i : Int) ∧ i < x.1.length := ⟨by omega, hp⟩
  have c1 := sendp_at (pet := pet) (r := (setL x.1 i v, x.2)) (i := i) (k := 3) (v := v) hi hf hs
  have c2 := sendp_at (pet := pet) (r := x) (i := i) (k := k) (v := v) hi hf hs
  have c3 := sendp_at (pet := pet) (r := (setNo x.1 i v, x.2)) (i := i) (k := 2) (v := v) hi hf hs
  have c4 := sendp_at (pet := pet) (r := (setV x.1 i, x.2)) (i := i) (k := 1) (v := pO x.1 i) hi hf hs
  obtain ⟨V, hV⟩ : ∃ V, (x.1.getD i P0).2.2.2.1 = V := ⟨_, rfl⟩
  obtain ⟨O, hO⟩ : ∃ O, (x.1.getD i P0).2.2.2.2.1 = O := ⟨_, rfl⟩
  obtain ⟨L, hL⟩ : ∃ L, (x.1.getD i P0).2.2.1 = L := ⟨_, rfl⟩
  obtain ⟨P, hP⟩ : ∃ P, (x.1.getD i P0).2.2.2.2.2.1 = P := ⟨_, rfl⟩
  have key : (k = 3 ∧ L = 0 ∧ sendR i 3 v (setL x.1 i v, x.2) = d2) ∨ (k = 3 ∧ L ≠ 0 ∧ x = d2) ∨ (k ≠ 3 ∧ P = true ∧ sendR i k v x = d2) ∨ (k = 1 ∧ P = false ∧ v = V ∧ sendR i 3 v (setL x.1 i v, x.2) = d2) ∨ (k = 1 ∧ P = false ∧ v ≠ V ∧ sendR i 2 v (setNo x.1 i v, x.2) = d2) ∨
      ((k ≠ 3 ∧ k ≠ 1) ∧ P = false ∧ (V < O ∧ v < O) ∧ sendR i 1 O (setV x.1 i, x.2) = d2) ∨ ((k ≠ 3 ∧ k ≠ 1) ∧ P = false ∧ ¬ (V < O ∧ v < O) ∧ (setR x.1 i, x.2) = d2) := by
    unfold peterR at hd
    rw [← hx] at hd
    unfold peterS at hd
    have hV' : pV x.1 i = V := hV
    have hO' : pO x.1 i = O := hO
    have hL' : pL x.1 i = L := hL
    have hP' : pR x.1 i = P := hP
    rw [hV', hO', hL', hP'] at hd
    by_cases k3 : k = 3
    · rw [if_pos k3] at hd
      by_cases l0 : L = 0
      · rw [if_pos l0, k3] at hd; exact .inl ⟨k3, l0, hd⟩
      · rw [if_neg l0] at hd; exact .inr (.inl ⟨k3, l0, hd⟩)
    · rw [if_neg k3] at hd
      by_cases p1 : P = true
      · rw [if_pos p1] at hd; exact .inr (.inr (.inl ⟨k3, p1, hd⟩))
      · rw [if_neg p1] at hd
        have p1 : P = false := by simpa using p1
        by_cases k1 : k = 1
        · rw [if_pos k1] at hd
          by_cases v1 : v = V
          · rw [if_pos v1] at hd; exact .inr (.inr (.inr (.inl ⟨k1, p1, v1, hd⟩)))
          · rw [if_neg v1] at hd; exact .inr (.inr (.inr (.inr (.inl ⟨k1, p1, v1, hd⟩))))
        · rw [if_neg k1] at hd
          by_cases u : V < O ∧ v < O
          · rw [if_pos u] at hd; exact .inr (.inr (.inr (.inr (.inr (.inl ⟨⟨k3, k1⟩, p1, u, hd⟩)))))
          · rw [if_neg u] at hd; exact .inr (.inr (.inr (.inr (.inr (.inr ⟨⟨k3, k1⟩, p1, u, hd⟩)))))
  clear hd
  have q3 : 0 ≤ (i : Int) ∧ i < (sp3 x.1 i (pO x.1 i)).length := ⟨by omega, sp3_len hp⟩
  have q5 : i < (sp6 (sp3 x.1 i (pO x.1 i)) i 1).length := by unfold sp6; rw [List.length_set]; exact sp3_len hp
  have q4 : 0 ≤ (i : Int) ∧ i < (sp4 x.1 i v).length := ⟨by omega, sp4_len hp⟩
  have hU : pV (sp6 (sp3 x.1 i (pO x.1 i)) i 1) i = pO x.1 i := by rw [sp_v hp]; exact getV_setV hp
  have ep1 : pickB (decide (k = 1)) (Operand.tmp 71) (Operand.const (Value.bool false)) (decide (v = (x.1.getD i P0).2.2.2.1)) false = (decide (k = 1) && decide (v = V)) := by rw [hV]; rfl
  have ep2 : pickB (decide ((x.1.getD i P0).2.2.2.1 < (x.1.getD i P0).2.2.2.2.1)) (Operand.tmp 118) (Operand.const (Value.bool false)) (decide (v < (x.1.getD i P0).2.2.2.2.1)) false = (decide (V < O) && decide (v < O)) := by rw [hV, hO]; rfl
  clear hx
  rcases key with ⟨h1, h2, rfl⟩ | ⟨h1, h2, rfl⟩ | ⟨h1, h2, rfl⟩ | ⟨h1, h2, h3, rfl⟩ | ⟨h1, h2, h3, rfl⟩ | ⟨h1, h2, h3, rfl⟩ | ⟨h1, h2, h3, rfl⟩
  all_goals
    refine FnM.of_body tys_ok Try.func67 (by rfl) rfl Try.ntmps67 (by rw [Try.results67]) (by simp) ?_
    repeat' (first
 | refine W.joinTo (t := 18) ⟨[(0, .padr 1000000000 0), (1, (.lit (.int .i64 (i : Int)))), (5, .padr 6000 0), (6, .oadr 1000000001 7 i 0)], [(1000000000, .box [.lit (.bool true), .lit (.bool pet), .own 1000000001, .mown 5, (.lit (.int .i64 ((x).2.2 : Int)))]), (1000000001, .row 105 PT true (x).1), (5, .mat 80 91 NT true (x).2.1 none), (6000, .box [(.lit (.int .i64 (k : Int))), (.lit (.int .i64 (v : Int)))])]⟩ ?_ ?_
 | refine W.seq ?_
 | refine W.block ?_
 | (refine W.regionM (id := 3) tys_ok [] [2] ?_; conv => whnf)
 | (refine W.regionM (id := 8) tys_ok [] [6] ?_; conv => whnf)
 | (refine W.regionM (id := 10) tys_ok [] [6] ?_; conv => whnf)
 | (refine W.regionM (id := 13) tys_ok [] [4] ?_; conv => whnf)
 | (refine W.regionM (id := 16) tys_ok [] [4] ?_; conv => whnf)
 | (refine W.regionM (id := 19) tys_ok [] [6] ?_; conv => whnf)
 | (refine W.drawPhTo (id := 11) tys_ok [] mixed [0, 1, 2, 4, 8, 24, 8, 72, 136, 264, 552, 1032, 2056] [([0], 1, 3), ([2, 3, 4, 6, 7, 8], 2, 1023), ([10, 11, 12], 0, 8191)] ⟨[(0, .padr 1000000000 0), (1, (.lit (.int .i64 (i : Int)))), (5, .padr 6000 0), (6, .oadr 1000000001 7 i 0), (60, .lit (.bool (decide (k = 1) && decide (v = V))))], [(1000000000, .box [.lit (.bool true), .lit (.bool pet), .own 1000000001, .mown 5, (.lit (.int .i64 ((x).2.2 : Int)))]), (1000000001, .row 105 PT true (x).1), (5, .mat 80 91 NT true (x).2.1 none), (6000, .box [(.lit (.int .i64 (k : Int))), (.lit (.int .i64 (v : Int)))])]⟩ (by decide +kernel) ?_ ?_ <;> (conv => whnf))
 | (refine W.drawPhTo (id := 17) tys_ok [] mixed [0, 1, 2, 4, 0, 16, 32, 64, 136, 256, 512, 1536, 2560, 4608, 512, 16896, 41472, 66048, 131584] [([0, 1, 2, 4, 5, 6], 2, 255), ([8, 9, 10, 11, 12, 14], 2, 65535), ([16, 17, 18], 0, 524287)] ⟨[(0, .padr 1000000000 0), (1, (.lit (.int .i64 (i : Int)))), (5, .padr 6000 0), (6, .oadr 1000000001 7 i 0), (101, .lit (.bool (decide (V < O) && decide (v < O))))], [(1000000000, .box [.lit (.bool true), .lit (.bool pet), .own 1000000001, .mown 5, (.lit (.int .i64 ((x).2.2 : Int)))]), (1000000001, .row 105 PT true (x).1), (5, .mat 80 91 NT true (x).2.1 none), (6000, .box [(.lit (.int .i64 (k : Int))), (.lit (.int .i64 (v : Int)))])]⟩ (by decide +kernel) ?_ ?_ <;> (conv => whnf))
 | (refine W.region tys_ok [] ?_; conv => whnf)
 | (refine W.drawAll tys_ok [] mixed rfl ?_; conv => whnf)
 | (refine W.ret ?_; conv => whnf)
 | (refine W.skip ?_; conv => whnf)
 | (refine W.exit ?_; conv => whnf)
 | (refine callM_at (c0) ?_; conv => whnf)
 | (have _ : P = true := h2; refine callM_at c2 ?_; conv => whnf)
 | (have _ : L = 0 := h2; refine callM_at c1 ?_; conv => whnf)
 | (have _ : v = V := h3; refine callM_at c1 ?_; conv => whnf)
 | (have _ : k = 1 := h1; refine callM_at c3 ?_; conv => whnf)
 | (refine callM_at (c4) ?_; conv => whnf)
 | (refine Both.mk ?_ ?_ <;> (conv => whnf))
 | (refine W.cond rfl (fun hb => ?_) (fun hb => ?_) <;> (try simp only [zr, zd, zm, minL, maxL, pickB, zA] at hb) <;> (try (first | (cases hb; done) | exact absurd hb (by decide) | (exfalso; omega) | (omega) | ((simp [pickB, hV, hO, hL, hP] at hb; omega)) | ((rw [hL] at hb; omega)) | ((rw [hP, h2] at hb; cases hb; done)))))
 | (refine Or.inl (And.intro trivial ?_); (conv => whnf))
 | ((with_reducible refine And.intro ?_ ?_); exact zc; conv => whnf)
 | ((with_reducible refine And.intro (Side.out ?_) ?_); rotate_left; (conv => whnf))
 | ((first | refine retM1 ?_ | refine retM2 ?_ | refine subF.leaf ?_ | refine subF.side ?_) <;> (conv => whnf) <;> repeat' (first
 | exact trivial
 | (with_reducible rfl)
 | ((with_reducible refine And.intro ?_ ?_) <;> conv => whnf)
 | omega
 | rfl
 | (refine congrArg (SV.arr _) ?_)
 | (refine congrArg (Value.int _) ?_)
 | (refine congrArg Value.bool ?_)))); all_goals (try unfold Side)
  all_goals first
    | exact congrArg (fun r : Rn => r.2.2) (hw3 hb)
    | exact congrArg (fun r : Rn => r.1) (hw3 hb)
    | exact congrArg (fun r : Rn => r.2.1) (hw3 hb)
    | exact congrArg (fun r : Rn => r.2.2) (hw4 hb)
    | exact congrArg (fun r : Rn => r.1) (hw4 hb)
    | exact congrArg (fun r : Rn => r.2.1) (hw4 hb)
    | exact ep1 | exact ep2 | exact congrArg (fun O => (sendR i 1 O (setV x.1 i, x.2)).2.1) (show pO x.1 i = O from hO) | rfl | exact sp3_len hp | exact sp4_len hp | exact Path.imp_of e0 | exact Path.imp_of e00 | exact Path.imp_of q3 | exact Path.imp_of q5 | exact Path.imp_of q4 | exact sp_no hp | exact sp_v hp | exact congrArg _ (sp_no hp) | exact congrArg _ (sp_v hp) | exact hU | skip
  all_goals try (repeat' (first | exact zb | with_reducible refine And.intro ?_ ?_))
open Go Go.Vc Go.Rg
variable {n : Nat} {pet : Bool} {r : Rn}
theorem leader_in {i : Nat} (hp : i < r.1.length) : FnM Try.prog 47 [.padr 1000000000 0, (.lit (.int .i64 (i : Int)))] [(1000000000, .box [.lit (.bool true), .lit (.bool pet), .own 1000000001, .mown 1000000002, (.lit (.int .i64 ((r).2.2 : Int)))]), (1000000001, .row 105 PT true (r).1), (1000000002, .mat 80 91 NT true (r).2.1 none)] (.lit (.int .i64 (pL r.1 i : Int))) [(1000000000, .box [.lit (.bool true), .lit (.bool pet), .own 1000000001, .mown 1000000002, (.lit (.int .i64 ((r).2.2 : Int)))]), (1000000001, .row 105 PT true (r).1), (1000000002, .mat 80 91 NT true (r).2.1 none)] := by
 have c1 := ris_at (pet := pet) (r := r)
 have c2 := rhas_at (pet := pet) (r := r) (has_of hp).symm
 have hl : @List.length PT.T r.1 = r.1.length := rfl
 refine FnM.of_body tys_ok Try.func47 (by rfl) rfl Try.ntmps47 (by rw [Try.results47]) (by simp) ?_
 repeat' (first
 | refine W.seq ?_
 | refine W.block ?_
 | (refine W.regionM (id := 1) tys_ok [] [1,6] ?_; conv => whnf)
 | (refine W.region tys_ok [] ?_; conv => whnf)
 | (refine W.drawAll tys_ok [] mixed rfl ?_; conv => whnf)
 | (refine W.ret ?_; conv => whnf)
 | (refine W.skip ?_; conv => whnf)
 | (refine W.exit ?_; conv => whnf)
 | (refine callM_at (c1) ?_; conv => whnf)
 | (refine callM_at (c2) ?_; conv => whnf)
 | (refine W.cond rfl (fun hb => ?_) (fun hb => ?_) <;> (try simp only [zr, zd, zm, minL, maxL, pickB, zA] at hb) <;> (try (first | (cases hb; done) | exact absurd hb (by decide) | (exfalso; omega) | (omega) | ((simp_all; done)))))
 | (refine Or.inl (And.intro ?_ ?_); exact zi; conv => whnf)
 | (refine Or.inr (And.intro ?_ ?_); exact zj; conv => whnf)
 | ((with_reducible refine And.intro ?_ ?_); exact zc; conv => whnf)
 | ((with_reducible refine And.intro (Side.out ?_) ?_); rotate_left; (conv => whnf))
 | ((first | refine retM1 ?_ | refine retM2 ?_) <;> (conv => whnf) <;> repeat' (first
 | exact trivial
 | (with_reducible rfl)
 | ((with_reducible refine And.intro ?_ ?_) <;> conv => whnf)
 | omega
 | rfl
 | (refine congrArg (SV.arr _) ?_)
 | (refine congrArg (Value.int _) ?_)
 | (refine congrArg Value.bool ?_)))); all_goals (try unfold Side)
 all_goals try (repeat' (first | exact zb | with_reducible refine And.intro ?_ ?_))
theorem sent_at : FnM Try.prog 48 [.padr 1000000000 0] [(1000000000, .box [.lit (.bool true), .lit (.bool pet), .own 1000000001, .mown 1000000002, (.lit (.int .i64 ((r).2.2 : Int)))]), (1000000001, .row 105 PT true (r).1), (1000000002, .mat 80 91 NT true (r).2.1 none)] (.lit (.int .i64 (r.2.2 : Int))) [(1000000000, .box [.lit (.bool true), .lit (.bool pet), .own 1000000001, .mown 1000000002, (.lit (.int .i64 ((r).2.2 : Int)))]), (1000000001, .row 105 PT true (r).1), (1000000002, .mat 80 91 NT true (r).2.1 none)] := by
 have c1 := ris_at (pet := pet) (r := r)
 refine FnM.of_body tys_ok Try.func48 (by rfl) rfl Try.ntmps48 (by rw [Try.results48]) (by simp) ?_
 repeat' (first
 | refine W.seq ?_
 | refine W.block ?_
 | (refine W.regionM (id := 1) tys_ok [] [1] ?_; conv => whnf)
 | (refine W.region tys_ok [] ?_; conv => whnf)
 | (refine W.drawAll tys_ok [] mixed rfl ?_; conv => whnf)
 | (refine W.ret ?_; conv => whnf)
 | (refine W.skip ?_; conv => whnf)
 | (refine W.exit ?_; conv => whnf)
 | (refine callM_at (c1) ?_; conv => whnf)
 | (refine W.cond rfl (fun hb => ?_) (fun hb => ?_) <;> (try simp only [zr, zd, zm, minL, maxL, pickB, zA] at hb) <;> (try (first | (cases hb; done) | exact absurd hb (by decide) | (exfalso; omega) | (omega))))
 | (refine Or.inl (And.intro trivial ?_); (conv => whnf))
 | ((with_reducible refine And.intro ?_ ?_); exact zc; conv => whnf)
 | ((with_reducible refine And.intro (Side.out ?_) ?_); rotate_left; (conv => whnf))
 | ((first | refine retM1 ?_ | refine retM2 ?_) <;> (conv => whnf) <;> repeat' (first
 | exact trivial
 | (with_reducible rfl)
 | ((with_reducible refine And.intro ?_ ?_) <;> conv => whnf)
 | omega
 | rfl
 | (refine congrArg (SV.arr _) ?_)
 | (refine congrArg (Value.int _) ?_)
 | (refine congrArg Value.bool ?_)))); all_goals (try unfold Side)
 all_goals try (repeat' (first | exact zb | with_reducible refine And.intro ?_ ?_))
theorem rdel_arg {i : Int} (h : hasB r.1.length i = false) : FnM Try.prog 33 [.padr 1000000000 0, (.lit (.int .i64 (i : Int)))] [(1000000000, .box [.lit (.bool true), .lit (.bool pet), .own 1000000001, .mown 5, (.lit (.int .i64 ((r).2.2 : Int)))]), (1000000001, .row 105 PT true (r).1), (5, .mat 80 91 NT true (r).2.1 none)] (.lit (.int .i64 (1 : Int))) [(1000000000, .box [.lit (.bool true), .lit (.bool pet), .own 1000000001, .mown 5, (.lit (.int .i64 ((r).2.2 : Int)))]), (1000000001, .row 105 PT true (r).1), (5, .mat 80 91 NT true (r).2.1 none)] := by
 have c1 := ris_at (pet := pet) (r := r)
 have c2 := rhas_at (pet := pet) (r := r) h.symm
 refine FnM.of_body tys_ok Try.func33 (by rfl) rfl Try.ntmps33 (by rw [Try.results33]) (by simp) ?_
 repeat' (first
 | refine W.seq ?_
 | refine W.block ?_
 | (refine W.regionM (id := 1) tys_ok [] [1] ?_; conv => whnf)
 | (refine W.regionM (id := 3) tys_ok [] [2] ?_; conv => whnf)
 | (refine W.region tys_ok [] ?_; conv => whnf)
 | (refine W.drawAll tys_ok [] mixed rfl ?_; conv => whnf)
 | (refine W.ret ?_; conv => whnf)
 | (refine W.skip ?_; conv => whnf)
 | (refine W.exit ?_; conv => whnf)
 | (refine callM_at (c1) ?_; conv => whnf)
 | (refine callM_at (c2) ?_; conv => whnf)
 | (refine W.cond rfl (fun hb => ?_) (fun hb => ?_) <;> (try simp only [zr, zd, zm, minL, maxL, pickB, zA] at hb) <;> (try (first | (cases hb; done) | exact absurd hb (by decide) | (exfalso; omega) | (omega))))
 | (refine Or.inl (And.intro trivial ?_); (conv => whnf))
 | ((with_reducible refine And.intro ?_ ?_); exact zc; conv => whnf)
 | ((with_reducible refine And.intro (Side.out ?_) ?_); rotate_left; (conv => whnf))
 | ((first | refine retM1 ?_ | refine retM2 ?_) <;> (conv => whnf) <;> repeat' (first
 | exact trivial
 | (with_reducible rfl)
 | ((with_reducible refine And.intro ?_ ?_) <;> conv => whnf)
 | omega
 | rfl
 | (refine congrArg (SV.arr _) ?_)
 | (refine congrArg (Value.int _) ?_)
 | (refine congrArg Value.bool ?_)))); all_goals (try unfold Side)
 all_goals try (repeat' (first | exact zb | with_reducible refine And.intro ?_ ?_))
theorem rdel_none {i : Nat} (hp : i < r.1.length) (hi : i < r.2.1.length) (h0 : (r.2.1.getD i []).length = 0) : FnM Try.prog 33 [.padr 1000000000 0, (.lit (.int .i64 (i : Int)))] [(1000000000, .box [.lit (.bool true), .lit (.bool pet), .own 1000000001, .mown 5, (.lit (.int .i64 ((r).2.2 : Int)))]), (1000000001, .row 105 PT true (r).1), (5, .mat 80 91 NT true (r).2.1 none)] (.lit (.int .i64 (5 : Int))) [(1000000000, .box [.lit (.bool true), .lit (.bool pet), .own 1000000001, .mown 5, (.lit (.int .i64 ((r).2.2 : Int)))]), (1000000001, .row 105 PT true (r).1), (5, .mat 80 91 NT true (r).2.1 none)] := by
 have c1 := ris_at (pet := pet) (r := r)
 have c2 := rhas_at (pet := pet) (r := r) (has_of hp).symm
 have e0 : @List.length NT.T (@List.getD (List NT.T) r.2.1 i []) = 0 := h0
 have e1 : 0 ≤ (i : Int) ∧ i < r.2.1.length := ⟨by omega, hi⟩
 refine FnM.of_body tys_ok Try.func33 (by rfl) rfl Try.ntmps33 (by rw [Try.results33]) (by simp) ?_
 repeat' (first
 | refine W.seq ?_
 | refine W.block ?_
 | (refine W.regionM (id := 1) tys_ok [] [1] ?_; conv => whnf)
 | (refine W.regionM (id := 3) tys_ok [] [2] ?_; conv => whnf)
 | (refine W.region tys_ok [] ?_; conv => whnf)
 | (refine W.drawAll tys_ok [] mixed rfl ?_; conv => whnf)
 | (refine W.ret ?_; conv => whnf)
 | (refine W.skip ?_; conv => whnf)
 | (refine W.exit ?_; conv => whnf)
 | (refine callM_at (c1) ?_; conv => whnf)
 | (refine callM_at (c2) ?_; conv => whnf)
 | (refine W.cond rfl (fun hb => ?_) (fun hb => ?_) <;> (try simp only [zr, zd, zm, minL, maxL, pickB, zA] at hb) <;> (try (first | (cases hb; done) | exact absurd hb (by decide) | (exfalso; omega) | (omega) | ((simp_all; done)))))
 | (refine Or.inl (And.intro trivial ?_); (conv => whnf))
 | ((with_reducible refine And.intro ?_ ?_); exact zc; conv => whnf)
 | ((with_reducible refine And.intro (Side.out ?_) ?_); rotate_left; (conv => whnf))
 | ((first | refine retM1 ?_ | refine retM2 ?_) <;> (conv => whnf) <;> repeat' (first
 | exact trivial
 | (with_reducible rfl)
 | ((with_reducible refine And.intro ?_ ?_) <;> conv => whnf)
 | omega
 | rfl
 | (refine congrArg (SV.arr _) ?_)
 | (refine congrArg (Value.int _) ?_)
 | (refine congrArg Value.bool ?_)))); all_goals (try unfold Side)
 all_goals try (repeat' (first | exact zb | with_reducible refine And.intro ?_ ?_))
 all_goals first | exact hi | exact Path.imp_of hi | exact Path.imp_of e1 | skip
open Int renaming reduceToNat → zr, reduceTDiv → zd, reduceTMod → zm
open Go Go.Vc Go.Rg
variable {n : Nat} {pet : Bool} {r : Rn}
set_option maxHeartbeats 4000000 in
theorem rdel_ok_c {i : Nat} (h : ROk n false r) (hi : i < n) (hs : r.2.2 ≤ 900000) (h0 : (r.2.1.getD i []).length ≠ 0) : FnM Try.prog 33 [.padr 1000000000 0, (.lit (.int .i64 (i : Int)))] [(1000000000, .box [.lit (.bool true), .lit (.bool false), .own 1000000001, .mown 5, (.lit (.int .i64 ((r).2.2 : Int)))]), (1000000001, .row 105 PT true (r).1), (5, .mat 80 91 NT true (r).2.1 none)] (.lit (.int .i64 (0 : Int))) [(1000000000, .box [.lit (.bool true), .lit (.bool false), .own 1000000001, .mown 5, (.lit (.int .i64 (((rdelL false i r)).2.2 : Int)))]), (1000000001, .row 105 PT true ((rdelL false i r)).1), (5, .mat 80 91 NT true ((rdelL false i r)).2.1 none)] := by
 have hs0 := h.s0
 have hp : i < r.1.length := by rw [h.len]; exact hi
 have hF : i < r.2.1.length := by rw [h.fln]; exact hi
 have hd := h.drop hi
 have hn0 := h.n0
 have hn1 := h.n1
 have hj : (i + 1) % n < n := Nat.mod_lt _ hn0
 obtain ⟨F2, hF2⟩ : ∃ F2, F2 = r.2.1.set i ((r.2.1.getD i []).drop 1) := ⟨_, rfl⟩
 obtain ⟨k, hk⟩ : ∃ k, k = ((r.2.1.getD i []).getD 0 N0).1 := ⟨_, rfl⟩
 obtain ⟨v, hv⟩ : ∃ v, v = ((r.2.1.getD i []).getD 0 N0).2.1 := ⟨_, rfl⟩
 have eL : rdelL false i r = changR ((i + 1) % n) k v (r.1, F2, r.2.2) := by unfold rdelL recvR; rw [h.len, ← hk, ← hv, ← hF2]; rfl
 rw [eL]
 have c1 := ris_at (pet := false) (r := r)
 have c2 := rhas_at (pet := false) (r := r) (has_of hp).symm
 have c3 := chang_at (pet := false) (r := (r.1, F2, r.2.2)) (i := (i + 1) % n) (k := k) (v := v) (by show _ < r.1.length; rw [h.len]; exact hj) (by rw [hF2]; show _ < (List.set _ _ _).length; rw [List.length_set, h.fln]; exact hj) (by rw [hF2]; exact hd.fl _) (by dsimp only; omega)
 have hl : @List.length PT.T r.1 = n := h.len
 have em : ((i : Int) + 1).tmod (n : Int) = (((i + 1) % n : Nat) : Int) := by
  rw [show (i : Int) + 1 = ((i + 1 : Nat) : Int) by omega]; exact (Int.ofNat_tmod _ _).symm
 have em' : ((i : Int) + 1).tmod (r.1.length : Int) = (((i + 1) % n : Nat) : Int) := by rw [h.len]; exact em
 have e0 : 0 ≤ (i : Int) ∧ i < r.2.1.length := ⟨by omega, hF⟩
 have e1 : 0 ≤ (0 : Int) ∧ 0 < (r.2.1.getD i []).length := ⟨by omega, by omega⟩
 have e2 : 0 ≤ (0 : Int) ∧ (0 : Int) < 1 ∧ (1 : Int).toNat ≤ (r.2.1.getD i []).length ∧ (r.2.1.getD i []).length ≤ 4294967296 := by
  have := h.fl i
  exact ⟨by omega, by omega, by show 1 ≤ _; omega, by omega⟩
 have e9 : (r.2.1.getD i []).length ≤ 4294967296 := e2.2.2.2
 have e3 : i < (r.2.1.set i ((r.2.1.getD i []).take 0 ++ (r.2.1.getD i []).drop 1)).length := by rw [List.length_set]; exact hF
 have e4 : 0 ≤ (i : Int) ∧ i < (r.2.1.set i ((r.2.1.getD i []).take 0 ++ (r.2.1.getD i []).drop 1)).length := ⟨by omega, e3⟩
 have e5 : r.2.1.set i ((r.2.1.getD i []).take 0 ++ (r.2.1.getD i []).drop 1) = F2 := by rw [hF2]; rfl
 have e6 : ((r.2.1.getD i []).getD 0 N0).1 = k := hk.symm
 have e7 : ((r.2.1.getD i []).getD 0 N0).2.1 = v := hv.symm
 have e8 : ¬ @List.length NT.T (@List.getD (List NT.T) r.2.1 i []) = 0 := h0
 refine FnM.of_body tys_ok Try.func33 (by rfl) rfl Try.ntmps33 (by rw [Try.results33]) (by simp) ?_
 repeat' (first
 | refine W.seq ?_
 | refine W.block ?_
 | (refine W.regionM (id := 1) tys_ok [] [1] ?_; conv => whnf)
 | (refine W.regionM (id := 3) tys_ok [] [2] ?_; conv => whnf)
 | (refine W.resub (x := Code.region 8 _ _) (Γ' := ⟨[(0, .padr 1000000000 0), (1, (.lit (.int .i64 (i : Int)))), (5, .padr 6000 0)], [(1000000000, .box [.lit (.bool true), .lit (.bool false), .own 1000000001, .mown 5, (.lit (.int .i64 ((r).2.2 : Int)))]), (1000000001, .row 105 PT true (r).1), (5, .mat 80 91 NT true (r).2.1 none), (6000, .box [(.lit (.int .i64 (k : Int))), (.lit (.int .i64 (v : Int)))])]⟩) ?_ ?_; rotate_left; refine W.drawMTo (id := 8) tys_ok [] [12] mixed [0, 1, 2, 4, 0, 0, 32, 64, 128, 0, 768, 1024, 2048, 8191, 16383] [([0, 1, 2, 4, 5, 6, 7, 9], 5, 8191), ([13], 1, 32767)] ⟨[(0, .padr 1000000000 0), (1, (.lit (.int .i64 (i : Int)))), (5, .padr 6000 0)], [(1000000000, .box [.lit (.bool true), .lit (.bool false), .own 1000000001, .mown 5, (.lit (.int .i64 (((r.1, F2, r.2.2)).2.2 : Int)))]), (1000000001, .row 105 PT true ((r.1, F2, r.2.2)).1), (5, .mat 80 91 NT true ((r.1, F2, r.2.2)).2.1 none), (6000, .box [(.lit (.int .i64 (k : Int))), (.lit (.int .i64 (v : Int)))])]⟩ (by decide +kernel) ?_ ?_; (conv => whnf); rotate_left; (conv => whnf))
 | (refine W.resub (x := Code.region 12 _ _) (Γ' := ⟨[(0, .padr 1000000000 0), (1, (.lit (.int .i64 (i : Int)))), (5, .padr 6000 0), (6, .fn 1000066 [.padr 1000000000 0])], [(1000000000, .box [.lit (.bool true), .lit (.bool false), .own 1000000001, .mown 5, (.lit (.int .i64 (((r.1, F2, r.2.2)).2.2 : Int)))]), (1000000001, .row 105 PT true ((r.1, F2, r.2.2)).1), (5, .mat 80 91 NT true ((r.1, F2, r.2.2)).2.1 none), (6000, .box [(.lit (.int .i64 (k : Int))), (.lit (.int .i64 (v : Int)))])]⟩) ?_ (W.drawM (id := 12) tys_ok [] [10] mixed [0, 0, 2, 0, 8, 16, 32, 64, 132, 0, 769] [([0, 1, 2, 3, 4, 5], 4, 1023), ([], 1, 2047)] (by decide +kernel) ?_); rotate_left; (conv => whnf))
 | (refine W.region tys_ok [] ?_; conv => whnf)
 | (refine W.drawAll tys_ok [] mixed rfl ?_; conv => whnf)
 | (refine W.ret ?_; conv => whnf)
 | (refine W.skip ?_; conv => whnf)
 | (refine W.exit ?_; conv => whnf)
 | (refine callM_at (c1) ?_; conv => whnf)
 | (refine callM_at (c2) ?_; conv => whnf)
 | (refine callM_at (c3) ?_; conv => whnf)
 | (refine And.intro del_note ?_; (conv => whnf))
 | (refine Both.mk ?_ ?_ <;> (conv => whnf))
 | (refine W.cond rfl (fun hb => ?_) (fun hb => ?_) <;> (try simp only [zr, zd, zm, minL, maxL, pickB, zA] at hb) <;> (try (first | (cases hb; done) | exact absurd hb (by decide) | (exfalso; omega) | (omega) | ((simp_all; done)))))
 | (refine Or.inl (And.intro trivial ?_); (conv => whnf))
 | ((with_reducible refine And.intro ?_ ?_); exact zc; conv => whnf)
 | ((with_reducible refine And.intro (Side.out ?_) ?_); rotate_left; (conv => whnf))
 | ((first | refine retM1 ?_ | refine retM2 ?_ | refine subF.leaf ?_ | refine subF.side ?_) <;> (conv => whnf) <;> repeat' (first
 | exact trivial
 | (with_reducible rfl)
 | ((with_reducible refine And.intro ?_ ?_) <;> conv => whnf)
 | omega
 | rfl
 | (refine congrArg (SV.arr _) ?_)
 | (refine congrArg (Value.int _) ?_)
 | (refine congrArg Value.bool ?_)))); all_goals (try unfold Side)
 all_goals try (repeat' (first | exact zb | with_reducible refine And.intro ?_ ?_))
 all_goals first | exact e9 | exact hF | exact e3 | exact e5 | exact e6 | exact e7 | exact em | exact em' | exact Path.imp_of hF | exact Path.imp_of e0 | exact Path.imp_of e1 | exact e2 | exact Path.imp_of e4 | skip
set_option maxHeartbeats 4000000 in
theorem rdel_ok_p {i : Nat} (h : ROk n true r) (hi : i < n) (hs : r.2.2 ≤ 900000) (h0 : (r.2.1.getD i []).length ≠ 0) : FnM Try.prog 33 [.padr 1000000000 0, (.lit (.int .i64 (i : Int)))] [(1000000000, .box [.lit (.bool true), .lit (.bool true), .own 1000000001, .mown 5, (.lit (.int .i64 ((r).2.2 : Int)))]), (1000000001, .row 105 PT true (r).1), (5, .mat 80 91 NT true (r).2.1 none)] (.lit (.int .i64 (0 : Int))) [(1000000000, .box [.lit (.bool true), .lit (.bool true), .own 1000000001, .mown 5, (.lit (.int .i64 (((rdelL true i r)).2.2 : Int)))]), (1000000001, .row 105 PT true ((rdelL true i r)).1), (5, .mat 80 91 NT true ((rdelL true i r)).2.1 none)] := by
 have hs0 := h.s0
 have hp : i < r.1.length := by rw [h.len]; exact hi
 have hF : i < r.2.1.length := by rw [h.fln]; exact hi
 have hd := h.drop hi
 have hn0 := h.n0
 have hn1 := h.n1
 have hj : (i + 1) % n < n := Nat.mod_lt _ hn0
 obtain ⟨F2, hF2⟩ : ∃ F2, F2 = r.2.1.set i ((r.2.1.getD i []).drop 1) := ⟨_, rfl⟩
 obtain ⟨k, hk⟩ : ∃ k, k = ((r.2.1.getD i []).getD 0 N0).1 := ⟨_, rfl⟩
 obtain ⟨v, hv⟩ : ∃ v, v = ((r.2.1.getD i []).getD 0 N0).2.1 := ⟨_, rfl⟩
 have eL : rdelL true i r = peterR ((i + 1) % n) k v (r.1, F2, r.2.2) := by unfold rdelL recvR; rw [h.len, ← hk, ← hv, ← hF2]; rfl
 rw [eL]
 have c1 := ris_at (pet := true) (r := r)
 have c2 := rhas_at (pet := true) (r := r) (has_of hp).symm
 have c3 := peter_at (pet := true) (r := (r.1, F2, r.2.2)) (i := (i + 1) % n) (k := k) (v := v) (by show _ < r.1.length; rw [h.len]; exact hj) (by rw [hF2]; show _ < (List.set _ _ _).length; rw [List.length_set, h.fln]; exact hj) (by rw [hF2]; exact hd.fl _) (by dsimp only; omega)
 have hl : @List.length PT.T r.1 = n := h.len
 have em : ((i : Int) + 1).tmod (n : Int) = (((i + 1) % n : Nat) : Int) := by
  rw [show (i : Int) + 1 = ((i + 1 : Nat) : Int) by omega]; exact (Int.ofNat_tmod _ _).symm
 have em' : ((i : Int) + 1).tmod (r.1.length : Int) = (((i + 1) % n : Nat) : Int) := by rw [h.len]; exact em
 have e0 : 0 ≤ (i : Int) ∧ i < r.2.1.length := ⟨by omega, hF⟩
 have e1 : 0 ≤ (0 : Int) ∧ 0 < (r.2.1.getD i []).length := ⟨by omega, by omega⟩
 have e2 : 0 ≤ (0 : Int) ∧ (0 : Int) < 1 ∧ (1 : Int).toNat ≤ (r.2.1.getD i []).length ∧ (r.2.1.getD i []).length ≤ 4294967296 := by
  have := h.fl i
  exact ⟨by omega, by omega, by show 1 ≤ _; omega, by omega⟩
 have e9 : (r.2.1.getD i []).length ≤ 4294967296 := e2.2.2.2
 have e3 : i < (r.2.1.set i ((r.2.1.getD i []).take 0 ++ (r.2.1.getD i []).drop 1)).length := by rw [List.length_set]; exact hF
 have e4 : 0 ≤ (i : Int) ∧ i < (r.2.1.set i ((r.2.1.getD i []).take 0 ++ (r.2.1.getD i []).drop 1)).length := ⟨by omega, e3⟩
 have e5 : r.2.1.set i ((r.2.1.getD i []).take 0 ++ (r.2.1.getD i []).drop 1) = F2 := by rw [hF2]; rfl
 have e6 : ((r.2.1.getD i []).getD 0 N0).1 = k := hk.symm
 have e7 : ((r.2.1.getD i []).getD 0 N0).2.1 = v := hv.symm
 have e8 : ¬ @List.length NT.T (@List.getD (List NT.T) r.2.1 i []) = 0 := h0
 refine FnM.of_body tys_ok Try.func33 (by rfl) rfl Try.ntmps33 (by rw [Try.results33]) (by simp) ?_
 repeat' (first
 | refine W.seq ?_
 | refine W.block ?_
 | (refine W.regionM (id := 1) tys_ok [] [1] ?_; conv => whnf)
 | (refine W.regionM (id := 3) tys_ok [] [2] ?_; conv => whnf)
 | (refine W.resub (x := Code.region 8 _ _) (Γ' := ⟨[(0, .padr 1000000000 0), (1, (.lit (.int .i64 (i : Int)))), (5, .padr 6000 0)], [(1000000000, .box [.lit (.bool true), .lit (.bool true), .own 1000000001, .mown 5, (.lit (.int .i64 ((r).2.2 : Int)))]), (1000000001, .row 105 PT true (r).1), (5, .mat 80 91 NT true (r).2.1 none), (6000, .box [(.lit (.int .i64 (k : Int))), (.lit (.int .i64 (v : Int)))])]⟩) ?_ ?_; rotate_left; refine W.drawMTo (id := 8) tys_ok [] [12] mixed [0, 1, 2, 4, 0, 0, 32, 64, 128, 0, 768, 1024, 2048, 8191, 16383] [([0, 1, 2, 4, 5, 6, 7, 9], 5, 8191), ([13], 1, 32767)] ⟨[(0, .padr 1000000000 0), (1, (.lit (.int .i64 (i : Int)))), (5, .padr 6000 0)], [(1000000000, .box [.lit (.bool true), .lit (.bool true), .own 1000000001, .mown 5, (.lit (.int .i64 (((r.1, F2, r.2.2)).2.2 : Int)))]), (1000000001, .row 105 PT true ((r.1, F2, r.2.2)).1), (5, .mat 80 91 NT true ((r.1, F2, r.2.2)).2.1 none), (6000, .box [(.lit (.int .i64 (k : Int))), (.lit (.int .i64 (v : Int)))])]⟩ (by decide +kernel) ?_ ?_; (conv => whnf); rotate_left; (conv => whnf))
 | (refine W.resub (x := Code.region 12 _ _) (Γ' := ⟨[(0, .padr 1000000000 0), (1, (.lit (.int .i64 (i : Int)))), (5, .padr 6000 0), (6, .fn 1000067 [.padr 1000000000 0])], [(1000000000, .box [.lit (.bool true), .lit (.bool true), .own 1000000001, .mown 5, (.lit (.int .i64 (((r.1, F2, r.2.2)).2.2 : Int)))]), (1000000001, .row 105 PT true ((r.1, F2, r.2.2)).1), (5, .mat 80 91 NT true ((r.1, F2, r.2.2)).2.1 none), (6000, .box [(.lit (.int .i64 (k : Int))), (.lit (.int .i64 (v : Int)))])]⟩) ?_ (W.drawM (id := 12) tys_ok [] [10] mixed [0, 0, 2, 0, 8, 16, 32, 64, 132, 0, 769] [([0, 1, 2, 3, 4, 5], 4, 1023), ([], 1, 2047)] (by decide +kernel) ?_); rotate_left; (conv => whnf))
 | (refine W.region tys_ok [] ?_; conv => whnf)
 | (refine W.drawAll tys_ok [] mixed rfl ?_; conv => whnf)
 | (refine W.ret ?_; conv => whnf)
 | (refine W.skip ?_; conv => whnf)
 | (refine W.exit ?_; conv => whnf)
 | (refine callM_at (c1) ?_; conv => whnf)
 | (refine callM_at (c2) ?_; conv => whnf)
 | (refine callM_at (c3) ?_; conv => whnf)
 | (refine And.intro del_note ?_; (conv => whnf))
 | (refine Both.mk ?_ ?_ <;> (conv => whnf))
 | (refine W.cond rfl (fun hb => ?_) (fun hb => ?_) <;> (try simp only [zr, zd, zm, minL, maxL, pickB, zA] at hb) <;> (try (first | (cases hb; done) | exact absurd hb (by decide) | (exfalso; omega) | (omega) | ((simp_all; done)))))
 | (refine Or.inl (And.intro trivial ?_); (conv => whnf))
 | ((with_reducible refine And.intro ?_ ?_); exact zc; conv => whnf)
 | ((with_reducible refine And.intro (Side.out ?_) ?_); rotate_left; (conv => whnf))
 | ((first | refine retM1 ?_ | refine retM2 ?_ | refine subF.leaf ?_ | refine subF.side ?_) <;> (conv => whnf) <;> repeat' (first
 | exact trivial
 | (with_reducible rfl)
 | ((with_reducible refine And.intro ?_ ?_) <;> conv => whnf)
 | omega
 | rfl
 | (refine congrArg (SV.arr _) ?_)
 | (refine congrArg (Value.int _) ?_)
 | (refine congrArg Value.bool ?_)))); all_goals (try unfold Side)
 all_goals try (repeat' (first | exact zb | with_reducible refine And.intro ?_ ?_))
 all_goals first | exact e9 | exact hF | exact e3 | exact e5 | exact e6 | exact e7 | exact em | exact em' | exact Path.imp_of hF | exact Path.imp_of e0 | exact Path.imp_of e1 | exact e2 | exact Path.imp_of e4 | skip
open Go Go.Vc Go.Rg
variable {n : Nat} {pet : Bool} {r r2 : Rn} {e : Int}
theorem start_ring {i : Int} (h : ROk n pet r) (hs : r.2.2 ≤ 900000) (he : startE i r = e) (hr : startK i r = r2) : FnM Try.prog 30 [.padr 1000000000 0, (.lit (.int .i64 (i : Int)))] [(1000000000, .box [.lit (.bool true), .lit (.bool pet), .own 1000000001, .mown 5, (.lit (.int .i64 ((r).2.2 : Int)))]), (1000000001, .row 105 PT true (r).1), (5, .mat 80 91 NT true (r).2.1 none)] (.lit (.int .i64 (e : Int))) [(1000000000, .box [.lit (.bool true), .lit (.bool pet), .own 1000000001, .mown 5, (.lit (.int .i64 ((r2).2.2 : Int)))]), (1000000001, .row 105 PT true (r2).1), (5, .mat 80 91 NT true (r2).2.1 none)] := by
 have hs0 := h.s0
 unfold startK at hr
 rw [he] at hr
 unfold startE at he
 split at he
 · rename_i h1
   obtain ⟨j, rfl, hj⟩ := has_nat h1
   rw [Int.toNat_natCast] at he hr
   split at he
   · rename_i h2
     subst he
     rw [if_neg (by decide)] at hr
     subst hr
     exact start_none hj h2
   · rename_i h2
     subst he
     rw [if_pos rfl] at hr
     subst hr
     exact start_ok hj (by rw [h.fln, ← h.len]; exact hj) (h.fl j) (by omega) (by simpa using h2)
 · rename_i h1
   subst he
   rw [if_neg (by decide)] at hr
   subst hr
   exact start_arg (by simpa using h1)
theorem deliver_ring {i : Int} (h : ROk n pet r) (hs : r.2.2 ≤ 900000) (he : rdelE i r = e) (hr : rdelK pet i r = r2) : FnM Try.prog 33 [.padr 1000000000 0, (.lit (.int .i64 (i : Int)))] [(1000000000, .box [.lit (.bool true), .lit (.bool pet), .own 1000000001, .mown 5, (.lit (.int .i64 ((r).2.2 : Int)))]), (1000000001, .row 105 PT true (r).1), (5, .mat 80 91 NT true (r).2.1 none)] (.lit (.int .i64 (e : Int))) [(1000000000, .box [.lit (.bool true), .lit (.bool pet), .own 1000000001, .mown 5, (.lit (.int .i64 ((r2).2.2 : Int)))]), (1000000001, .row 105 PT true (r2).1), (5, .mat 80 91 NT true (r2).2.1 none)] := by
 have hs0 := h.s0
 unfold rdelK at hr
 rw [he] at hr
 unfold rdelE at he
 split at he
 · rename_i h1
   obtain ⟨j, rfl, hj⟩ := has_nat h1
   rw [Int.toNat_natCast] at he hr
   split at he
   · rename_i h2
     subst he
     rw [if_neg (by decide)] at hr
     subst hr
     exact rdel_none hj (by rw [h.fln, ← h.len]; exact hj) h2
   · rename_i h2
     subst he
     rw [if_pos rfl] at hr
     subst hr
     have hjn : j < n := by rw [← h.len]; exact hj
     cases pet with
     | false => exact rdel_ok_c h hjn hs h2
     | true => exact rdel_ok_p h hjn hs h2
 · rename_i h1
   subst he
   rw [if_neg (by decide)] at hr
   subst hr
   exact rdel_arg (by simpa using h1)
end Go.Proofs.Ytkjcnegkdlmapaa
