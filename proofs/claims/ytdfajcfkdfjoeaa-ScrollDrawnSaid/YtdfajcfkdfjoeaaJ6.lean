/- Joined of: S9 Sm7 S10 S11 S13 S15 S29 S30. No condition. -/
import Derived.Test.YtdfajcfkdfjoeaaJ5

/- The faces of a word with signs: the program's. No condition. -/
namespace Go.Proofs.Ytdfajcfkdfjoeaa
open Go Go.Vc Go.Scr
set_option linter.unusedVariables false
set_option linter.unusedSimpArgs false

theorem mp_add {L : List Int} {x : Int} (h : ¬ x ∈ L) : Ob.mp .i64 .bool (mput (mpT L) x true) (if (mpT L x).isSome = true then L.length else L.length + 1) = Ob.mp .i64 .bool (mpT (L ++ [x])) (L ++ [x]).length := by
  have h1 : mput (mpT L) x true = mpT (L ++ [x]) := by
    funext j
    unfold mput mpT
    by_cases e : j = x
    · subst e; simp
    · simp [e]
  have h2 : (mpT L x).isSome = false := by rw [mpT, if_neg h]; rfl
  have key : ∀ {m m' : Int → Option Bool} {c c' : Nat}, m = m' → c = c' → Ob.mp .i64 .bool m c = Ob.mp .i64 .bool m' c' := by rintro m m' c c' rfl rfl; rfl
  refine key h1 ?_
  rw [h2, List.length_append]; rfl
theorem mp_eq {L M : List Int} (h : L = M) : Ob.mp .i64 .bool (mpT L) L.length = Ob.mp .i64 .bool (mpT M) M.length := by rw [h]
theorem mp_nil {L : List Int} (h : L = []) : Ob.mp .i64 .bool (fun _ => none) 0 = Ob.mp .i64 .bool (mpT L) L.length := by
  subst h
  have : mpT [] = fun _ => none := by funext j; simp [mpT]
  rw [this]; rfl
theorem next_rg {w s : List Int} {n : Nat} (h : Word w n) (hs : signsB s n = true) : ∀ st, -((2 * n : Nat) : Int) ≤ st → st < (2 * n : Nat) → -((2 * n : Nat) : Int) ≤ nextT w s st ∧ nextT w s st < (2 * n : Nat) := fun st h0 h1 => by
  simp only [signsB, Bool.and_eq_true, decide_eq_true_eq] at hs
  obtain ⟨a, x, p, q, hA⟩ := at_of h hs.1 hs.2 h0 h1
  exact hA.rg
set_option maxHeartbeats 4000000 in
theorem faces_at {w s : List Int} {n : Nat} (h : Word w n) (hn : n ≤ 10) (hs : signsB s n = true) : FnAt Try.prog false 48 [curveT n w, .arr (.int .i64) s] (.own 0) [(0, .row 22 (.sl (.int .i64)) true (facesT (nextT w s) (2 * n)))] := by
  have hwl : @List.length (Ty.int .i64).T w = 2 * n := h.len
  have hp := h.pos
  have hr := next_rg h hs
  obtain ⟨nx, hnx⟩ : ∃ nx, nx = nextT w s := ⟨_, rfl⟩
  rw [← hnx] at hr ⊢
  obtain ⟨K, hK⟩ : ∃ K : Nat → List (List Int), K = facesK nx (2 * n) := ⟨_, rfl⟩
  have hK0 : K 0 = [] := by rw [hK]; rfl
  have hKT : K (2 * (2 * n)) = facesT nx (2 * n) := by rw [hK]; rfl
  have hKl : ∀ k, (K k).length ≤ k := fun k => by rw [hK]; exact facesK_len k
  have hKl2 : ∀ k, @List.length (Ty.sl (.int .i64)).T (K k) ≤ k := hKl
  have hok : ∀ k, k ≤ 2 * (2 * n) → (K k).flatten.Nodup ∧ ∀ x ∈ (K k).flatten, -((2 * n : Nat) : Int) ≤ x ∧ x < (2 * n : Nat) := by rw [hK]; exact facesK_ok hr
  have hskip : ∀ k : Nat, (k : Int) - (2 * n : Nat) ∈ (K k).flatten → K (k + 1) = K k := by rw [hK]; exact fun k => facesK_skip
  have hpush : ∀ k : Nat, ¬ (k : Int) - (2 * n : Nat) ∈ (K k).flatten → K (k + 1) = K k ++ [walk nx (K k).flatten (2 * (2 * n) + 1) ((k : Int) - (2 * n : Nat)) []] := by rw [hK]; exact fun k => facesK_push
  refine FnAt.of_body tys_ok Try.func48 (by rfl) rfl Try.ntmps48 (by rw [Try.results48]) (by simp) ?_
  
  repeat' (first
 | refine W.seq ?_
 | refine W.block ?_
 | (refine W.region tys_ok [] ?_; conv => whnf)
 | (refine W.drawAll tys_ok [] mixed rfl ?_; conv => whnf)
 | (refine W.ret ?_; conv => whnf)
 | (refine W.skip ?_; conv => whnf)
 | (refine W.exit ?_; conv => whnf)

    | (refine W.cond rfl (fun hb => ?_) (fun hb => ?_) <;> (try simp only [Int.reduceToNat, Int.reduceTDiv, Int.reduceTMod, minL, maxL, pickB, zHB] at hb) <;> (try (first | (cases hb; done) | exact absurd hb (by decide) | (exfalso; omega))))
    | ((with_reducible refine And.intro ?_ ?_); (focus ((repeat' (first | (with_reducible rfl) | (with_reducible refine And.intro ?_ ?_) | omega | rfl | exact Or.inl rfl | exact Or.inr rfl | exact of_decide_eq_true rfl | exact Path.imp_of (of_decide_eq_true rfl) | (focus ((try simp only [Int.reduceToNat, Int.reduceTDiv, Int.reduceTMod, minL, maxL, pickB, zHB, InK, Path.imp, List.length_replicate, List.length_set, List.length_append, List.length_cons, List.length_nil] at *); omega)) | (refine app_le rfl ?_; omega))); done)); (conv => whnf))
    | ((with_reducible refine And.intro (Side.out ?_) ?_); rotate_left; (conv => whnf))
    | (refine retF1 ?_ <;> (conv => whnf) <;> repeat' (first
 | exact trivial
 | (with_reducible rfl)
 | ((with_reducible refine And.intro ?_ ?_) <;> conv => whnf)
 | omega
 | rfl
 | (refine congrArg (SV.arr _) ?_)
 | (refine congrArg (Value.int _) ?_)
 | (refine congrArg Value.bool ?_)))
 | (refine retF2 ?_ <;> (conv => whnf) <;> repeat' (first
 | exact trivial
 | (with_reducible rfl)
 | ((with_reducible refine And.intro ?_ ?_) <;> conv => whnf)
 | omega
 | rfl
 | (refine congrArg (SV.arr _) ?_)
 | (refine congrArg (Value.int _) ?_)
 | (refine congrArg Value.bool ?_)))); all_goals (try unfold Side)
  all_goals try (repeat' (first | (with_reducible rfl) | (with_reducible refine And.intro ?_ ?_) | omega | rfl | exact Or.inl rfl | exact Or.inr rfl | exact of_decide_eq_true rfl | exact Path.imp_of (of_decide_eq_true rfl) | (focus ((try simp only [Int.reduceToNat, Int.reduceTDiv, Int.reduceTMod, minL, maxL, pickB, zHB, InK, Path.imp, List.length_replicate, List.length_set, List.length_append, List.length_cons, List.length_nil] at *); omega)) | (refine app_le rfl ?_; omega)))
  refine W.loop (fun k : Nat => ⟨[(0, .st false (curveT n w)), (1, .st false (.arr (.int .i64) (s : List Int))), (5, .own 900005), (6, .own 900006), (7, .lit (.int .i64 ((2 * n : Nat)))), (8, .lit (.int .i64 ((k : Int) - (2 * n : Nat))))], [(900005, .row 22 (.sl (.int .i64)) true (K k : List (List Int))), (900006, .mp .i64 .bool (mpT (K k).flatten) (K k).flatten.length)]⟩) (fun k => k ≤ 2 * (2 * n)) (fun k => 2 * (2 * n) - k) (0) ?_ ?_
  · refine ⟨Nat.zero_le _, ?_⟩
    refine subF.ok ?_ <;> (conv => whnf) <;> repeat' (first
 | exact trivial
 | (with_reducible rfl)
 | ((with_reducible refine And.intro ?_ ?_) <;> conv => whnf)
 | omega
 | rfl
 | (refine congrArg (SV.arr _) ?_)
 | (refine congrArg (Value.int _) ?_)
 | (refine congrArg Value.bool ?_))
    · exact hK0
    · exact mp_nil (by rw [hK0]; rfl)
  · intro k hk
    have hlk := hKl2 k
    by_cases hil : k < 2 * (2 * n)
    · by_cases hm : (k : Int) - (2 * n : Nat) ∈ (K k).flatten
      · have hv := mpT_in hm
        repeat' (first
 | refine W.seq ?_
 | refine W.block ?_
 | (refine W.region tys_ok [] ?_; conv => whnf)
 | (refine W.drawAll tys_ok [] mixed rfl ?_; conv => whnf)
 | (refine W.ret ?_; conv => whnf)
 | (refine W.skip ?_; conv => whnf)
 | (refine W.exit ?_; conv => whnf)

    | (refine W.cond rfl (fun hb => ?_) (fun hb => ?_) <;> (try simp only [Int.reduceToNat, Int.reduceTDiv, Int.reduceTMod, minL, maxL, pickB, zHB] at hb) <;> (try (first | (cases hb; done) | exact absurd hb (by decide) | (exfalso; omega) | (exact absurd (hb.symm.trans hv) (by decide)))))
    | ((with_reducible refine And.intro ?_ ?_); (focus ((repeat' (first | (with_reducible rfl) | (with_reducible refine And.intro ?_ ?_) | omega | rfl | exact Or.inl rfl | exact Or.inr rfl | exact of_decide_eq_true rfl | exact Path.imp_of (of_decide_eq_true rfl) | (focus ((try simp only [Int.reduceToNat, Int.reduceTDiv, Int.reduceTMod, minL, maxL, pickB, zHB, InK, Path.imp, List.length_replicate, List.length_set, List.length_append, List.length_cons, List.length_nil] at *); omega)) | (refine app_le rfl ?_; omega))); done)); (conv => whnf))
    | ((with_reducible refine And.intro (Side.out ?_) ?_); rotate_left; (conv => whnf))
    | (refine retF1 ?_ <;> (conv => whnf) <;> repeat' (first
 | exact trivial
 | (with_reducible rfl)
 | ((with_reducible refine And.intro ?_ ?_) <;> conv => whnf)
 | omega
 | rfl
 | (refine congrArg (SV.arr _) ?_)
 | (refine congrArg (Value.int _) ?_)
 | (refine congrArg Value.bool ?_)))
 | (refine retF2 ?_ <;> (conv => whnf) <;> repeat' (first
 | exact trivial
 | (with_reducible rfl)
 | ((with_reducible refine And.intro ?_ ?_) <;> conv => whnf)
 | omega
 | rfl
 | (refine congrArg (SV.arr _) ?_)
 | (refine congrArg (Value.int _) ?_)
 | (refine congrArg Value.bool ?_)))); all_goals (try unfold Side)
        all_goals try (repeat' (first | (with_reducible rfl) | (with_reducible refine And.intro ?_ ?_) | omega | rfl | exact Or.inl rfl | exact Or.inr rfl | exact of_decide_eq_true rfl | exact Path.imp_of (of_decide_eq_true rfl) | (focus ((try simp only [Int.reduceToNat, Int.reduceTDiv, Int.reduceTMod, minL, maxL, pickB, zHB, InK, Path.imp, List.length_replicate, List.length_set, List.length_append, List.length_cons, List.length_nil] at *); omega)) | (refine app_le rfl ?_; omega)))
        refine ⟨k + 1, ⟨by omega, by omega⟩, ?_⟩
        rw [hskip k hm]
        refine subF.ok ?_ <;> (conv => whnf) <;> repeat' (first
 | exact trivial
 | (with_reducible rfl)
 | ((with_reducible refine And.intro ?_ ?_) <;> conv => whnf)
 | omega
 | rfl
 | (refine congrArg (SV.arr _) ?_)
 | (refine congrArg (Value.int _) ?_)
 | (refine congrArg Value.bool ?_))
      · have hv := mpT_out hm
        obtain ⟨nd, rg⟩ := hok k (by omega)
        obtain ⟨F, hF⟩ : ∃ F, F = walk nx (K k).flatten (2 * (2 * n) + 1) ((k : Int) - (2 * n : Nat)) [] := ⟨_, rfl⟩
        have hpk := hpush k hm
        rw [← hF] at hpk
        repeat' (first
 | refine W.seq ?_
 | refine W.block ?_
 | (refine W.region tys_ok [] ?_; conv => whnf)
 | (refine W.drawAll tys_ok [] mixed rfl ?_; conv => whnf)
 | (refine W.ret ?_; conv => whnf)
 | (refine W.skip ?_; conv => whnf)
 | (refine W.exit ?_; conv => whnf)

    | (refine W.cond rfl (fun hb => ?_) (fun hb => ?_) <;> (try simp only [Int.reduceToNat, Int.reduceTDiv, Int.reduceTMod, minL, maxL, pickB, zHB] at hb) <;> (try (first | (cases hb; done) | exact absurd hb (by decide) | (exfalso; omega) | (exact absurd (hb.symm.trans hv) (by decide)))))
    | ((with_reducible refine And.intro ?_ ?_); (focus ((repeat' (first | (with_reducible rfl) | (with_reducible refine And.intro ?_ ?_) | omega | rfl | exact Or.inl rfl | exact Or.inr rfl | exact of_decide_eq_true rfl | exact Path.imp_of (of_decide_eq_true rfl) | (focus ((try simp only [Int.reduceToNat, Int.reduceTDiv, Int.reduceTMod, minL, maxL, pickB, zHB, InK, Path.imp, List.length_replicate, List.length_set, List.length_append, List.length_cons, List.length_nil] at *); omega)) | (refine app_le rfl ?_; omega))); done)); (conv => whnf))
    | ((with_reducible refine And.intro (Side.out ?_) ?_); rotate_left; (conv => whnf))
    | (refine retF1 ?_ <;> (conv => whnf) <;> repeat' (first
 | exact trivial
 | (with_reducible rfl)
 | ((with_reducible refine And.intro ?_ ?_) <;> conv => whnf)
 | omega
 | rfl
 | (refine congrArg (SV.arr _) ?_)
 | (refine congrArg (Value.int _) ?_)
 | (refine congrArg Value.bool ?_)))
 | (refine retF2 ?_ <;> (conv => whnf) <;> repeat' (first
 | exact trivial
 | (with_reducible rfl)
 | ((with_reducible refine And.intro ?_ ?_) <;> conv => whnf)
 | omega
 | rfl
 | (refine congrArg (SV.arr _) ?_)
 | (refine congrArg (Value.int _) ?_)
 | (refine congrArg Value.bool ?_)))); all_goals (try unfold Side)
        all_goals try (repeat' (first | (with_reducible rfl) | (with_reducible refine And.intro ?_ ?_) | omega | rfl | exact Or.inl rfl | exact Or.inr rfl | exact of_decide_eq_true rfl | exact Path.imp_of (of_decide_eq_true rfl) | (focus ((try simp only [Int.reduceToNat, Int.reduceTDiv, Int.reduceTMod, minL, maxL, pickB, zHB, InK, Path.imp, List.length_replicate, List.length_set, List.length_append, List.length_cons, List.length_nil] at *); omega)) | (refine app_le rfl ?_; omega)))
        refine W.loop (fun z : List Int × Int => ⟨[(0, .st false (curveT n w)), (1, .st false (.arr (.int .i64) (s : List Int))), (5, .own 900005), (6, .own 900006), (7, .lit (.int .i64 ((2 * n : Nat)))), (8, .lit (.int .i64 ((k : Int) - (2 * n : Nat)))), (9, .own 900009), (10, .lit (.int .i64 (z.2)))], [(900005, .row 22 (.sl (.int .i64)) true (K k : List (List Int))), (900006, .mp .i64 .bool (mpT ((K k).flatten ++ z.1)) ((K k).flatten ++ z.1).length), (900009, .row 3 (.int .i64) true (z.1 : List Int))]⟩) (fun z => Wk nx (2 * n) (K k).flatten ((k : Int) - (2 * n : Nat)) z.2 z.1 ∧ walk nx (K k).flatten (2 * (2 * n) + 1 - z.1.length) z.2 z.1 = F) (fun z => 2 * (2 * n) - ((K k).flatten.length + z.1.length)) (([], (k : Int) - (2 * n : Nat))) ?_ ?_
        · refine ⟨⟨Wk.init nd rg (by omega) (by omega), hF.symm⟩, ?_⟩
          refine subF.ok ?_ <;> (conv => whnf) <;> repeat' (first
 | exact trivial
 | (with_reducible rfl)
 | ((with_reducible refine And.intro ?_ ?_) <;> conv => whnf)
 | omega
 | rfl
 | (refine congrArg (SV.arr _) ?_)
 | (refine congrArg (Value.int _) ?_)
 | (refine congrArg Value.bool ?_))
          · exact mp_eq (by simp)
        · rintro ⟨face, st⟩ ⟨hw, hf⟩
          dsimp only at hw hf ⊢
          have hlen := hw.len
          have hfl : @List.length (Ty.int .i64).T face ≤ 2 * (2 * n) := by show face.length ≤ _; omega
          have hst := hw.st
          have hrs := hr st hst.1 hst.2
          by_cases hms : st ∈ (K k).flatten ∨ st ∈ face
          · have hv2 := mpT_in (List.mem_append.2 hms)
            rw [walk_end hfl hms] at hf
            subst hf
            repeat' (first
 | refine W.seq ?_
 | refine W.block ?_
 | (refine W.resub (x := Code.region 14 _ _) (Γ' := ⟨[(0, .st false (curveT n w)), (1, .st false (.arr (.int .i64) (s : List Int))), (5, .own 900005), (6, .own 900006), (7, .lit (.int .i64 ((2 * n : Nat)))), (8, .lit (.int .i64 ((k : Int) - (2 * n : Nat)))), (9, .st true (.arr (.int .i64) (face : List Int)))], [(900005, .row 22 (.sl (.int .i64)) true (K k : List (List Int))), (900006, .mp .i64 .bool (mpT ((K k).flatten ++ face)) ((K k).flatten ++ face).length)]⟩) ?_ (W.region tys_ok [] ?_); rotate_left; (conv => whnf))
 | (refine W.region tys_ok [] ?_; conv => whnf)
 | (refine W.drawAll tys_ok [] mixed rfl ?_; conv => whnf)
 | (refine W.ret ?_; conv => whnf)
 | (refine W.skip ?_; conv => whnf)
 | (refine W.exit ?_; conv => whnf)

    | (refine W.cond rfl (fun hb => ?_) (fun hb => ?_) <;> (try simp only [Int.reduceToNat, Int.reduceTDiv, Int.reduceTMod, minL, maxL, pickB, zHB] at hb) <;> (try (first | (cases hb; done) | exact absurd hb (by decide) | (exfalso; omega) | (exact absurd (hb.symm.trans (congrArg (fun b : Bool => !b) hv2)) (by decide)))))
    | ((with_reducible refine And.intro ?_ ?_); (focus ((repeat' (first | (with_reducible rfl) | (with_reducible refine And.intro ?_ ?_) | omega | rfl | exact Or.inl rfl | exact Or.inr rfl | exact of_decide_eq_true rfl | exact Path.imp_of (of_decide_eq_true rfl) | (focus ((try simp only [Int.reduceToNat, Int.reduceTDiv, Int.reduceTMod, minL, maxL, pickB, zHB, InK, Path.imp, List.length_replicate, List.length_set, List.length_append, List.length_cons, List.length_nil] at *); omega)) | (refine app_le rfl ?_; omega))); done)); (conv => whnf))
    | ((with_reducible refine And.intro (Side.out ?_) ?_); rotate_left; (conv => whnf))
    | (refine retF1 ?_ <;> (conv => whnf) <;> repeat' (first
 | exact trivial
 | (with_reducible rfl)
 | ((with_reducible refine And.intro ?_ ?_) <;> conv => whnf)
 | omega
 | rfl
 | (refine congrArg (SV.arr _) ?_)
 | (refine congrArg (Value.int _) ?_)
 | (refine congrArg Value.bool ?_)))
 | (refine retF2 ?_ <;> (conv => whnf) <;> repeat' (first
 | exact trivial
 | (with_reducible rfl)
 | ((with_reducible refine And.intro ?_ ?_) <;> conv => whnf)
 | omega
 | rfl
 | (refine congrArg (SV.arr _) ?_)
 | (refine congrArg (Value.int _) ?_)
 | (refine congrArg Value.bool ?_)))); all_goals (try unfold Side)
            all_goals try (repeat' (first | (with_reducible rfl) | (with_reducible refine And.intro ?_ ?_) | omega | rfl | exact Or.inl rfl | exact Or.inr rfl | exact of_decide_eq_true rfl | exact Path.imp_of (of_decide_eq_true rfl) | (focus ((try simp only [Int.reduceToNat, Int.reduceTDiv, Int.reduceTMod, minL, maxL, pickB, zHB, InK, Path.imp, List.length_replicate, List.length_set, List.length_append, List.length_cons, List.length_nil] at *); omega)) | (refine app_le rfl ?_; omega)))
            · refine ⟨k + 1, ⟨by omega, by omega⟩, ?_⟩
              rw [hpk]
              refine subF.ok ?_ <;> (conv => whnf) <;> repeat' (first
 | exact trivial
 | (with_reducible rfl)
 | ((with_reducible refine And.intro ?_ ?_) <;> conv => whnf)
 | omega
 | rfl
 | (refine congrArg (SV.arr _) ?_)
 | (refine congrArg (Value.int _) ?_)
 | (refine congrArg Value.bool ?_))
              all_goals exact mp_eq (by simp)
            · refine subF.ok ?_ <;> (conv => whnf) <;> repeat' (first
 | exact trivial
 | (with_reducible rfl)
 | ((with_reducible refine And.intro ?_ ?_) <;> conv => whnf)
 | omega
 | rfl
 | (refine congrArg (SV.arr _) ?_)
 | (refine congrArg (Value.int _) ?_)
 | (refine congrArg Value.bool ?_))
          · have hv2 := mpT_out (fun h => hms (List.mem_append.1 h))
            have hadd := mp_add (fun h => hms (List.mem_append.1 h))
            rw [walk_more hfl hms] at hf
            have hnext := next_at h hn hs hst.1 hst.2
            rw [← hnx] at hnext
            repeat' (first
 | refine W.seq ?_
 | refine W.block ?_
 | (refine W.region tys_ok [] ?_; conv => whnf)
 | (refine W.drawAll tys_ok [] mixed rfl ?_; conv => whnf)
 | (refine W.ret ?_; conv => whnf)
 | (refine W.skip ?_; conv => whnf)
 | (refine W.exit ?_; conv => whnf)
 | (refine call_at (al := false) (hnext) rfl rfl rfl rfl ?_; conv => whnf)

    | (refine W.cond rfl (fun hb => ?_) (fun hb => ?_) <;> (try simp only [Int.reduceToNat, Int.reduceTDiv, Int.reduceTMod, minL, maxL, pickB, zHB] at hb) <;> (try (first | (cases hb; done) | exact absurd hb (by decide) | (exfalso; omega) | (exact absurd (hb.symm.trans (congrArg (fun b : Bool => !b) hv2)) (by decide)))))
    | ((with_reducible refine And.intro ?_ ?_); (focus ((repeat' (first | (with_reducible rfl) | (with_reducible refine And.intro ?_ ?_) | omega | rfl | exact Or.inl rfl | exact Or.inr rfl | exact of_decide_eq_true rfl | exact Path.imp_of (of_decide_eq_true rfl) | (focus ((try simp only [Int.reduceToNat, Int.reduceTDiv, Int.reduceTMod, minL, maxL, pickB, zHB, InK, Path.imp, List.length_replicate, List.length_set, List.length_append, List.length_cons, List.length_nil] at *); omega)) | (refine app_le rfl ?_; omega))); done)); (conv => whnf))
    | ((with_reducible refine And.intro (Side.out ?_) ?_); rotate_left; (conv => whnf))
    | (refine retF1 ?_ <;> (conv => whnf) <;> repeat' (first
 | exact trivial
 | (with_reducible rfl)
 | ((with_reducible refine And.intro ?_ ?_) <;> conv => whnf)
 | omega
 | rfl
 | (refine congrArg (SV.arr _) ?_)
 | (refine congrArg (Value.int _) ?_)
 | (refine congrArg Value.bool ?_)))
 | (refine retF2 ?_ <;> (conv => whnf) <;> repeat' (first
 | exact trivial
 | (with_reducible rfl)
 | ((with_reducible refine And.intro ?_ ?_) <;> conv => whnf)
 | omega
 | rfl
 | (refine congrArg (SV.arr _) ?_)
 | (refine congrArg (Value.int _) ?_)
 | (refine congrArg Value.bool ?_)))); all_goals (try unfold Side)
            all_goals try (repeat' (first | (with_reducible rfl) | (with_reducible refine And.intro ?_ ?_) | omega | rfl | exact Or.inl rfl | exact Or.inr rfl | exact of_decide_eq_true rfl | exact Path.imp_of (of_decide_eq_true rfl) | (focus ((try simp only [Int.reduceToNat, Int.reduceTDiv, Int.reduceTMod, minL, maxL, pickB, zHB, InK, Path.imp, List.length_replicate, List.length_set, List.length_append, List.length_cons, List.length_nil] at *); omega)) | (refine app_le rfl ?_; omega)))
            refine ⟨(face ++ [st], nx st), ⟨⟨hw.step hr hms, hf⟩, by
              have := (hw.step hr hms).len
              simp only [List.length_append, List.length_singleton] at this ⊢
              omega⟩, ?_⟩
            refine subF.ok ?_ <;> (conv => whnf) <;> repeat' (first
 | exact trivial
 | (with_reducible rfl)
 | ((with_reducible refine And.intro ?_ ?_) <;> conv => whnf)
 | omega
 | rfl
 | (refine congrArg (SV.arr _) ?_)
 | (refine congrArg (Value.int _) ?_)
 | (refine congrArg Value.bool ?_))
            all_goals exact hadd.trans (mp_eq (List.append_assoc _ _ _))
    · have hie : 2 * (2 * n) = k := by omega
      subst hie
      rw [hKT]
      repeat' (first
 | refine W.seq ?_
 | refine W.block ?_
 | (refine W.region tys_ok [] ?_; conv => whnf)
 | (refine W.drawAll tys_ok [] mixed rfl ?_; conv => whnf)
 | (refine W.ret ?_; conv => whnf)
 | (refine W.skip ?_; conv => whnf)
 | (refine W.exit ?_; conv => whnf)

    | (refine W.cond rfl (fun hb => ?_) (fun hb => ?_) <;> (try simp only [Int.reduceToNat, Int.reduceTDiv, Int.reduceTMod, minL, maxL, pickB, zHB] at hb) <;> (try (first | (cases hb; done) | exact absurd hb (by decide) | (exfalso; omega))))
    | ((with_reducible refine And.intro ?_ ?_); (focus ((repeat' (first | (with_reducible rfl) | (with_reducible refine And.intro ?_ ?_) | omega | rfl | exact Or.inl rfl | exact Or.inr rfl | exact of_decide_eq_true rfl | exact Path.imp_of (of_decide_eq_true rfl) | (focus ((try simp only [Int.reduceToNat, Int.reduceTDiv, Int.reduceTMod, minL, maxL, pickB, zHB, InK, Path.imp, List.length_replicate, List.length_set, List.length_append, List.length_cons, List.length_nil] at *); omega)) | (refine app_le rfl ?_; omega))); done)); (conv => whnf))
    | ((with_reducible refine And.intro (Side.out ?_) ?_); rotate_left; (conv => whnf))
    | (refine retF1 ?_ <;> (conv => whnf) <;> repeat' (first
 | exact trivial
 | (with_reducible rfl)
 | ((with_reducible refine And.intro ?_ ?_) <;> conv => whnf)
 | omega
 | rfl
 | (refine congrArg (SV.arr _) ?_)
 | (refine congrArg (Value.int _) ?_)
 | (refine congrArg Value.bool ?_)))
 | (refine retF2 ?_ <;> (conv => whnf) <;> repeat' (first
 | exact trivial
 | (with_reducible rfl)
 | ((with_reducible refine And.intro ?_ ?_) <;> conv => whnf)
 | omega
 | rfl
 | (refine congrArg (SV.arr _) ?_)
 | (refine congrArg (Value.int _) ?_)
 | (refine congrArg Value.bool ?_)))); all_goals (try unfold Side)
      all_goals try (repeat' (first | (with_reducible rfl) | (with_reducible refine And.intro ?_ ?_) | omega | rfl | exact Or.inl rfl | exact Or.inr rfl | exact of_decide_eq_true rfl | exact Path.imp_of (of_decide_eq_true rfl) | (focus ((try simp only [Int.reduceToNat, Int.reduceTDiv, Int.reduceTMod, minL, maxL, pickB, zHB, InK, Path.imp, List.length_replicate, List.length_set, List.length_append, List.length_cons, List.length_nil] at *); omega)) | (refine app_le rfl ?_; omega)))
end Go.Proofs.Ytdfajcfkdfjoeaa
/- All signs of n letters. No condition. -/
namespace Go.Scr
set_option linter.unusedVariables false
set_option linter.unusedSimpArgs false

def bitT (k j : Nat) : Nat := k / 2 ^ j % 2
theorem bitT_le {k j : Nat} : bitT k j ≤ 1 := by unfold bitT; omega
theorem bit_and {k j : Nat} : (k / 2 ^ j) &&& 1 = bitT k j := by rw [Nat.and_one_is_mod]; rfl
theorem bit_test {k j : Nat} : bitT k j = (k.testBit j).toNat := by
  rw [Nat.testBit_eq_decide_div_mod_eq]
  have := bitT_le (k := k) (j := j)
  unfold bitT at *
  by_cases h : k / 2 ^ j % 2 = 1
  · rw [decide_eq_true h, h]; rfl
  · rw [decide_eq_false h]; show _ = 0; omega
theorem bit_not {n k j : Nat} (hk : k < 2 ^ n) (hj : j < n) : bitT (2 ^ n - 1 - k) j = 1 - bitT k j := by
  rw [bit_test, bit_test, show 2 ^ n - 1 - k = 2 ^ n - (k + 1) by omega, Nat.testBit_two_pow_sub_succ hk, decide_eq_true hj]
  cases k.testBit j <;> rfl
/-- The k-th signs. -/
def sgAt (n k i : Nat) : Int := 1 - 2 * (bitT k (n - 1 - i) : Int)
def sgT (n k : Nat) : List Int := (List.range n).map fun i => sgAt n k i
theorem sgT_len {n k : Nat} : (sgT n k).length = n := by simp [sgT]
theorem sgT_get {n k i : Nat} (h : i < n) : (sgT n k).getD i 0 = sgAt n k i := by
  rw [sgT, List.getD_eq_getElem?_getD, List.getElem?_map, List.getElem?_range h]; rfl
theorem sgAt_two {n k i : Nat} : sgAt n k i = 1 ∨ sgAt n k i = -1 := by
  have := bitT_le (k := k) (j := n - 1 - i)
  unfold sgAt; omega
theorem sgT_all {n k : Nat} : (sgT n k).all (fun x => decide (x = 1) || decide (x = -1)) = true := by
  refine List.all_eq_true.2 fun x hx => ?_
  obtain ⟨i, _, rfl⟩ := List.mem_map.1 hx
  rcases sgAt_two (n := n) (k := k) (i := i) with h | h <;> rw [h] <;> rfl
theorem take_getD' : ∀ {xs : List Int} {j : Nat}, j < xs.length → xs.take (j + 1) = xs.take j ++ [xs.getD j 0]
  | x :: r, 0, _ => by simp
  | x :: r, j + 1, h => by
    have := take_getD' (xs := r) (j := j) (by simpa using h)
    simp only [List.take_succ_cons, List.getD_cons_succ, this, List.cons_append]
theorem sgT_take {n k i : Nat} (h : i < n) : (sgT n k).take (i + 1) = (sgT n k).take i ++ [sgAt n k i] := by
  rw [take_getD' (by rw [sgT_len]; exact h), sgT_get h]
/-- The sign as the program reckons it. -/
theorem sg_prog {n k i : Nat} (hk : k < 2 ^ n) (hi : i < n) : ((((2 ^ n - 1 - k) / 2 ^ (n - 1 - i)) &&& 1 : Nat) : Int) * 2 - 1 = sgAt n k i := by
  rw [bit_and, bit_not hk (by omega), sgAt]
  have := bitT_le (k := k) (j := n - 1 - i)
  omega
theorem sg_ref {n k i : Nat} : 1 - 2 * (((k / 2 ^ (n - 1 - i)) &&& 1 : Nat) : Int) = sgAt n k i := by rw [bit_and, sgAt]
def genusT (n : Nat) (w s : List Int) : Int := ((n : Int) + 2 - (facesT (nextT w s) (2 * n)).length).tdiv 2
/-- The least genus of the first k signs, and the first that have it. -/
def leastK (n : Nat) (w : List Int) : Nat → Int × List Int
  | 0 => (0, [])
  | k + 1 => if (leastK n w k).2 = [] ∨ genusT n w (sgT n k) < (leastK n w k).1 then (genusT n w (sgT n k), sgT n k) else leastK n w k
def leastT (n : Nat) (w : List Int) : Int × List Int := leastK n w (2 ^ n)
theorem leastK_yes {n : Nat} {w : List Int} {k : Nat} (h : (leastK n w k).2 = [] ∨ genusT n w (sgT n k) < (leastK n w k).1) : leastK n w (k + 1) = (genusT n w (sgT n k), sgT n k) := by rw [leastK, if_pos h]
theorem leastK_no {n : Nat} {w : List Int} {k : Nat} (h : ¬ ((leastK n w k).2 = [] ∨ genusT n w (sgT n k) < (leastK n w k).1)) : leastK n w (k + 1) = leastK n w k := by rw [leastK, if_neg h]
def allT (n : Nat) (k : Nat) : List (List Int) := (List.range k).map fun i => sgT n i
theorem allT_len {n k : Nat} : (allT n k).length = k := by simp [allT]
theorem allT_get {n k i : Nat} (h : i < k) : (allT n k).getD i [] = sgT n i := by
  rw [allT, List.getD_eq_getElem?_getD, List.getElem?_map, List.getElem?_range h]; rfl
theorem allT_succ {n k : Nat} : allT n (k + 1) = allT n k ++ [sgT n k] := by
  rw [allT, allT, List.range_succ, List.map_append]; rfl
end Go.Scr
/- The faces of a word with signs: the document's; the genus. No condition. -/
namespace Go.Proofs.Ytdfajcfkdfjoeaa
open Go Go.Vc Go.Scr
set_option linter.unusedVariables false
set_option linter.unusedSimpArgs false

theorem nref_at {w s : List Int} {n : Nat} (h : Word w n) (hn : n ≤ 10) (hs : signsB s n = true) {st : Int} (h0 : -((2 * n : Nat) : Int) ≤ st) (h1 : st < (2 * n : Nat)) : FnAt Try.prog false 51 [.arr (.int .i64) w, .arr (.int .i64) s, .lit (.int .i64 st)] (.lit (.int .i64 (nextT w s st))) [] := by
  simp only [signsB, Bool.and_eq_true, decide_eq_true_eq] at hs
  obtain ⟨a, x, p, q, hA⟩ := at_of h hs.1 hs.2 h0 h1
  by_cases hc : 0 ≤ st
  · exact nref_f h hn hs.2 h0 h1 hA hc
  · exact nref_b h hn hs.2 h0 h1 hA (by omega)
set_option maxHeartbeats 4000000 in
theorem faces_ref {w s : List Int} {n : Nat} (h : Word w n) (hn : n ≤ 10) (hs : signsB s n = true) : FnAt Try.prog false 26 [.arr (.int .i64) w, .arr (.int .i64) s] (.own 0) [(0, .row 22 (.sl (.int .i64)) true (facesT (nextT w s) (2 * n)))] := by
  have hwl : @List.length (Ty.int .i64).T w = 2 * n := h.len
  have hp := h.pos
  have hr := next_rg h hs
  obtain ⟨nx, hnx⟩ : ∃ nx, nx = nextT w s := ⟨_, rfl⟩
  rw [← hnx] at hr ⊢
  obtain ⟨K, hK⟩ : ∃ K : Nat → List (List Int), K = facesK nx (2 * n) := ⟨_, rfl⟩
  have hK0 : K 0 = [] := by rw [hK]; rfl
  have hKT : K (2 * (2 * n)) = facesT nx (2 * n) := by rw [hK]; rfl
  have hKl : ∀ k, (K k).length ≤ k := fun k => by rw [hK]; exact facesK_len k
  have hKl2 : ∀ k, @List.length (Ty.sl (.int .i64)).T (K k) ≤ k := hKl
  have hok : ∀ k, k ≤ 2 * (2 * n) → (K k).flatten.Nodup ∧ ∀ x ∈ (K k).flatten, -((2 * n : Nat) : Int) ≤ x ∧ x < (2 * n : Nat) := by rw [hK]; exact facesK_ok hr
  have hskip : ∀ k : Nat, (k : Int) - (2 * n : Nat) ∈ (K k).flatten → K (k + 1) = K k := by rw [hK]; exact fun k => facesK_skip
  have hpush : ∀ k : Nat, ¬ (k : Int) - (2 * n : Nat) ∈ (K k).flatten → K (k + 1) = K k ++ [walk nx (K k).flatten (2 * (2 * n) + 1) ((k : Int) - (2 * n : Nat)) []] := by rw [hK]; exact fun k => facesK_push
  have hrl : ∀ L, @List.length Ty.bool.T (rowT (2 * n) L) = 2 * (2 * n) := fun L => rowT_len
  have hrg : ∀ (L : List Int) (x : Int), -((2 * n : Nat) : Int) ≤ x → x < (2 * n : Nat) → @List.getD Ty.bool.T (rowT (2 * n) L) (x + @List.length (Ty.int .i64).T w).toNat Ty.bool.dflt = decide (x ∈ L) := fun L x h0 h1 => by
    rw [hwl]
    refine (rowT_get (i := (x + (2 * n : Nat)).toNat) (by omega)).trans ?_
    rw [show (((x + (2 * n : Nat)).toNat : Nat) : Int) - (2 * n : Nat) = x by omega]
  refine FnAt.of_body tys_ok Try.func26 (by rfl) rfl Try.ntmps26 (by rw [Try.results26]) (by simp) ?_
  
  repeat' (first
 | refine W.seq ?_
 | refine W.block ?_
 | (refine W.drawPhTo (id := 1) tys_ok [] mixed [0, 0, 2, 4, 8, 1, 63] [([1], 5, 63), ([6], 0, 127)] ⟨[(0, .st false (.arr (.int .i64) (w : List Int))), (1, .st false (.arr (.int .i64) (s : List Int))), (5, .own 900005), (6, .own 900006)], [(900005, .row 22 (.sl (.int .i64)) true ([] : List (List Int))), (900006, .row 4 .bool true (rowT (2 * n) [] : List Bool))]⟩ (by decide +kernel) ?_ ?_ <;> (conv => whnf))
 | (refine W.region tys_ok [] ?_; conv => whnf)
 | (refine W.drawAll tys_ok [] mixed rfl ?_; conv => whnf)
 | (refine W.ret ?_; conv => whnf)
 | (refine W.skip ?_; conv => whnf)
 | (refine W.exit ?_; conv => whnf)

    | (refine Both.mk ?_ ?_ <;> (conv => whnf))
    | (refine subF.leaf ?_ <;> (conv => whnf) <;> repeat' (first
 | exact trivial
 | (with_reducible rfl)
 | ((with_reducible refine And.intro ?_ ?_) <;> conv => whnf)
 | omega
 | rfl
 | (refine congrArg (SV.arr _) ?_)
 | (refine congrArg (Value.int _) ?_)
 | (refine congrArg Value.bool ?_)))
 | (refine subF.side ?_ <;> (conv => whnf) <;> repeat' (first
 | exact trivial
 | (with_reducible rfl)
 | ((with_reducible refine And.intro ?_ ?_) <;> conv => whnf)
 | omega
 | rfl
 | (refine congrArg (SV.arr _) ?_)
 | (refine congrArg (Value.int _) ?_)
 | (refine congrArg Value.bool ?_)))
 | (refine W.cond rfl (fun hb => ?_) (fun hb => ?_) <;> (try simp only [Int.reduceToNat, Int.reduceTDiv, Int.reduceTMod, minL, maxL, pickB, zHB] at hb) <;> (try (first | (cases hb; done) | exact absurd hb (by decide) | (exfalso; omega))))
 | ((with_reducible refine And.intro ?_ ?_); (focus ((repeat' (first | (with_reducible rfl) | (with_reducible refine And.intro ?_ ?_) | omega | rfl | exact Or.inl rfl | exact Or.inr rfl | exact of_decide_eq_true rfl | exact Path.imp_of (of_decide_eq_true rfl) | (focus ((try simp only [Int.reduceToNat, Int.reduceTDiv, Int.reduceTMod, minL, maxL, pickB, zHB, InK, Path.imp, List.length_replicate, List.length_set, List.length_append, List.length_cons, List.length_nil] at *); omega)) | (refine app_le rfl ?_; omega))); done)); (conv => whnf))
 | ((with_reducible refine And.intro (Side.out ?_) ?_); rotate_left; (conv => whnf))
 | (refine retF1 ?_ <;> (conv => whnf) <;> repeat' (first
 | exact trivial
 | (with_reducible rfl)
 | ((with_reducible refine And.intro ?_ ?_) <;> conv => whnf)
 | omega
 | rfl
 | (refine congrArg (SV.arr _) ?_)
 | (refine congrArg (Value.int _) ?_)
 | (refine congrArg Value.bool ?_)))
 | (refine retF2 ?_ <;> (conv => whnf) <;> repeat' (first
 | exact trivial
 | (with_reducible rfl)
 | ((with_reducible refine And.intro ?_ ?_) <;> conv => whnf)
 | omega
 | rfl
 | (refine congrArg (SV.arr _) ?_)
 | (refine congrArg (Value.int _) ?_)
 | (refine congrArg Value.bool ?_)))); all_goals (try unfold Side)
  all_goals try (repeat' (first | (with_reducible rfl) | (with_reducible refine And.intro ?_ ?_) | omega | rfl | exact Or.inl rfl | exact Or.inr rfl | exact of_decide_eq_true rfl | exact Path.imp_of (of_decide_eq_true rfl) | (focus ((try simp only [Int.reduceToNat, Int.reduceTDiv, Int.reduceTMod, minL, maxL, pickB, zHB, InK, Path.imp, List.length_replicate, List.length_set, List.length_append, List.length_cons, List.length_nil] at *); omega)) | (refine app_le rfl ?_; omega)))
  all_goals try (rw [hwl]; exact rowT_nil.symm)
  refine W.loop (fun k : Nat => ⟨[(0, .st false (.arr (.int .i64) (w : List Int))), (1, .st false (.arr (.int .i64) (s : List Int))), (5, .own 900005), (6, .own 900006), (7, .lit (.int .i64 ((k : Int) - (2 * n : Nat))))], [(900005, .row 22 (.sl (.int .i64)) true (K k : List (List Int))), (900006, .row 4 .bool true (rowT (2 * n) (K k).flatten : List Bool))]⟩) (fun k => k ≤ 2 * (2 * n)) (fun k => 2 * (2 * n) - k) (0) ?_ ?_
  · refine ⟨Nat.zero_le _, ?_⟩
    refine subF.ok ?_ <;> (conv => whnf) <;> repeat' (first
 | exact trivial
 | (with_reducible rfl)
 | ((with_reducible refine And.intro ?_ ?_) <;> conv => whnf)
 | omega
 | rfl
 | (refine congrArg (SV.arr _) ?_)
 | (refine congrArg (Value.int _) ?_)
 | (refine congrArg Value.bool ?_))
    all_goals first | exact hK0.symm | exact hK0 | (rw [hK0]; rfl)
  · intro k hk
    have hlk := hKl2 k
    have hrl1 := hrl (K k).flatten
    by_cases hil : k < 2 * (2 * n)
    · have hv := hrg (K k).flatten ((k : Int) - (2 * n : Nat)) (by omega) (by omega)
      by_cases hm : (k : Int) - (2 * n : Nat) ∈ (K k).flatten
      · rw [decide_eq_true hm] at hv
        repeat' (first
 | refine W.seq ?_
 | refine W.block ?_
 | (refine W.region tys_ok [] ?_; conv => whnf)
 | (refine W.drawAll tys_ok [] mixed rfl ?_; conv => whnf)
 | (refine W.ret ?_; conv => whnf)
 | (refine W.skip ?_; conv => whnf)
 | (refine W.exit ?_; conv => whnf)

    | (refine W.cond rfl (fun hb => ?_) (fun hb => ?_) <;> (try simp only [Int.reduceToNat, Int.reduceTDiv, Int.reduceTMod, minL, maxL, pickB, zHB] at hb) <;> (try (first | (cases hb; done) | exact absurd hb (by decide) | (exfalso; omega) | (exact absurd (hb.symm.trans hv) (by decide)))))
    | ((with_reducible refine And.intro ?_ ?_); (focus ((repeat' (first | (with_reducible rfl) | (with_reducible refine And.intro ?_ ?_) | omega | rfl | exact Or.inl rfl | exact Or.inr rfl | exact of_decide_eq_true rfl | exact Path.imp_of (of_decide_eq_true rfl) | (focus ((try simp only [Int.reduceToNat, Int.reduceTDiv, Int.reduceTMod, minL, maxL, pickB, zHB, InK, Path.imp, List.length_replicate, List.length_set, List.length_append, List.length_cons, List.length_nil] at *); omega)) | (refine app_le rfl ?_; omega))); done)); (conv => whnf))
    | ((with_reducible refine And.intro (Side.out ?_) ?_); rotate_left; (conv => whnf))
    | (refine retF1 ?_ <;> (conv => whnf) <;> repeat' (first
 | exact trivial
 | (with_reducible rfl)
 | ((with_reducible refine And.intro ?_ ?_) <;> conv => whnf)
 | omega
 | rfl
 | (refine congrArg (SV.arr _) ?_)
 | (refine congrArg (Value.int _) ?_)
 | (refine congrArg Value.bool ?_)))
 | (refine retF2 ?_ <;> (conv => whnf) <;> repeat' (first
 | exact trivial
 | (with_reducible rfl)
 | ((with_reducible refine And.intro ?_ ?_) <;> conv => whnf)
 | omega
 | rfl
 | (refine congrArg (SV.arr _) ?_)
 | (refine congrArg (Value.int _) ?_)
 | (refine congrArg Value.bool ?_)))); all_goals (try unfold Side)
        all_goals try (repeat' (first | (with_reducible rfl) | (with_reducible refine And.intro ?_ ?_) | omega | rfl | exact Or.inl rfl | exact Or.inr rfl | exact of_decide_eq_true rfl | exact Path.imp_of (of_decide_eq_true rfl) | (focus ((try simp only [Int.reduceToNat, Int.reduceTDiv, Int.reduceTMod, minL, maxL, pickB, zHB, InK, Path.imp, List.length_replicate, List.length_set, List.length_append, List.length_cons, List.length_nil] at *); omega)) | (refine app_le rfl ?_; omega)))
        refine ⟨k + 1, ⟨by omega, by omega⟩, ?_⟩
        rw [hskip k hm]
        refine subF.ok ?_ <;> (conv => whnf) <;> repeat' (first
 | exact trivial
 | (with_reducible rfl)
 | ((with_reducible refine And.intro ?_ ?_) <;> conv => whnf)
 | omega
 | rfl
 | (refine congrArg (SV.arr _) ?_)
 | (refine congrArg (Value.int _) ?_)
 | (refine congrArg Value.bool ?_))
      · rw [decide_eq_false hm] at hv
        obtain ⟨nd, rg⟩ := hok k (by omega)
        obtain ⟨F, hF⟩ : ∃ F, F = walk nx (K k).flatten (2 * (2 * n) + 1) ((k : Int) - (2 * n : Nat)) [] := ⟨_, rfl⟩
        have hpk := hpush k hm
        rw [← hF] at hpk
        repeat' (first
 | refine W.seq ?_
 | refine W.block ?_
 | (refine W.region tys_ok [] ?_; conv => whnf)
 | (refine W.drawAll tys_ok [] mixed rfl ?_; conv => whnf)
 | (refine W.ret ?_; conv => whnf)
 | (refine W.skip ?_; conv => whnf)
 | (refine W.exit ?_; conv => whnf)

    | (refine W.cond rfl (fun hb => ?_) (fun hb => ?_) <;> (try simp only [Int.reduceToNat, Int.reduceTDiv, Int.reduceTMod, minL, maxL, pickB, zHB] at hb) <;> (try (first | (cases hb; done) | exact absurd hb (by decide) | (exfalso; omega) | (exact absurd (hb.symm.trans hv) (by decide)))))
    | ((with_reducible refine And.intro ?_ ?_); (focus ((repeat' (first | (with_reducible rfl) | (with_reducible refine And.intro ?_ ?_) | omega | rfl | exact Or.inl rfl | exact Or.inr rfl | exact of_decide_eq_true rfl | exact Path.imp_of (of_decide_eq_true rfl) | (focus ((try simp only [Int.reduceToNat, Int.reduceTDiv, Int.reduceTMod, minL, maxL, pickB, zHB, InK, Path.imp, List.length_replicate, List.length_set, List.length_append, List.length_cons, List.length_nil] at *); omega)) | (refine app_le rfl ?_; omega))); done)); (conv => whnf))
    | ((with_reducible refine And.intro (Side.out ?_) ?_); rotate_left; (conv => whnf))
    | (refine retF1 ?_ <;> (conv => whnf) <;> repeat' (first
 | exact trivial
 | (with_reducible rfl)
 | ((with_reducible refine And.intro ?_ ?_) <;> conv => whnf)
 | omega
 | rfl
 | (refine congrArg (SV.arr _) ?_)
 | (refine congrArg (Value.int _) ?_)
 | (refine congrArg Value.bool ?_)))
 | (refine retF2 ?_ <;> (conv => whnf) <;> repeat' (first
 | exact trivial
 | (with_reducible rfl)
 | ((with_reducible refine And.intro ?_ ?_) <;> conv => whnf)
 | omega
 | rfl
 | (refine congrArg (SV.arr _) ?_)
 | (refine congrArg (Value.int _) ?_)
 | (refine congrArg Value.bool ?_)))); all_goals (try unfold Side)
        all_goals try (repeat' (first | (with_reducible rfl) | (with_reducible refine And.intro ?_ ?_) | omega | rfl | exact Or.inl rfl | exact Or.inr rfl | exact of_decide_eq_true rfl | exact Path.imp_of (of_decide_eq_true rfl) | (focus ((try simp only [Int.reduceToNat, Int.reduceTDiv, Int.reduceTMod, minL, maxL, pickB, zHB, InK, Path.imp, List.length_replicate, List.length_set, List.length_append, List.length_cons, List.length_nil] at *); omega)) | (refine app_le rfl ?_; omega)))
        refine W.loop (fun z : List Int × Int => ⟨[(0, .st false (.arr (.int .i64) (w : List Int))), (1, .st false (.arr (.int .i64) (s : List Int))), (5, .own 900005), (6, .own 900006), (7, .lit (.int .i64 ((k : Int) - (2 * n : Nat)))), (8, .own 900008), (9, .lit (.int .i64 (z.2)))], [(900005, .row 22 (.sl (.int .i64)) true (K k : List (List Int))), (900006, .row 4 .bool true (rowT (2 * n) ((K k).flatten ++ z.1) : List Bool)), (900008, .row 3 (.int .i64) true (z.1 : List Int))]⟩) (fun z => Wk nx (2 * n) (K k).flatten ((k : Int) - (2 * n : Nat)) z.2 z.1 ∧ walk nx (K k).flatten (2 * (2 * n) + 1 - z.1.length) z.2 z.1 = F) (fun z => 2 * (2 * n) - ((K k).flatten.length + z.1.length)) (([], (k : Int) - (2 * n : Nat))) ?_ ?_
        · refine ⟨⟨Wk.init nd rg (by omega) (by omega), hF.symm⟩, ?_⟩
          refine subF.ok ?_ <;> (conv => whnf) <;> repeat' (first
 | exact trivial
 | (with_reducible rfl)
 | ((with_reducible refine And.intro ?_ ?_) <;> conv => whnf)
 | omega
 | rfl
 | (refine congrArg (SV.arr _) ?_)
 | (refine congrArg (Value.int _) ?_)
 | (refine congrArg Value.bool ?_))
          all_goals exact congrArg (rowT (2 * n)) (List.append_nil _).symm
        · rintro ⟨face, st⟩ ⟨hw, hf⟩
          dsimp only at hw hf ⊢
          have hlen := hw.len
          have hfl : @List.length (Ty.int .i64).T face ≤ 2 * (2 * n) := by show face.length ≤ _; omega
          have hst := hw.st
          have hrs := hr st hst.1 hst.2
          have hrl2 := hrl ((K k).flatten ++ face)
          have hv2 := hrg ((K k).flatten ++ face) st hst.1 hst.2
          by_cases hms : st ∈ (K k).flatten ∨ st ∈ face
          · rw [decide_eq_true (List.mem_append.2 hms)] at hv2
            rw [walk_end hfl hms] at hf
            subst hf
            repeat' (first
 | refine W.seq ?_
 | refine W.block ?_
 | (refine W.resub (x := Code.region 10 _ _) (Γ' := ⟨[(0, .st false (.arr (.int .i64) (w : List Int))), (1, .st false (.arr (.int .i64) (s : List Int))), (5, .own 900005), (6, .own 900006), (7, .lit (.int .i64 ((k : Int) - (2 * n : Nat)))), (8, .st true (.arr (.int .i64) (face : List Int)))], [(900005, .row 22 (.sl (.int .i64)) true (K k : List (List Int))), (900006, .row 4 .bool true (rowT (2 * n) ((K k).flatten ++ face) : List Bool))]⟩) ?_ (W.region tys_ok [] ?_); rotate_left; (conv => whnf))
 | (refine W.region tys_ok [] ?_; conv => whnf)
 | (refine W.drawAll tys_ok [] mixed rfl ?_; conv => whnf)
 | (refine W.ret ?_; conv => whnf)
 | (refine W.skip ?_; conv => whnf)
 | (refine W.exit ?_; conv => whnf)

    | (refine W.cond rfl (fun hb => ?_) (fun hb => ?_) <;> (try simp only [Int.reduceToNat, Int.reduceTDiv, Int.reduceTMod, minL, maxL, pickB, zHB] at hb) <;> (try (first | (cases hb; done) | exact absurd hb (by decide) | (exfalso; omega) | (exact absurd (hb.symm.trans hv2) (by decide)))))
    | ((with_reducible refine And.intro ?_ ?_); (focus ((repeat' (first | (with_reducible rfl) | (with_reducible refine And.intro ?_ ?_) | omega | rfl | exact Or.inl rfl | exact Or.inr rfl | exact of_decide_eq_true rfl | exact Path.imp_of (of_decide_eq_true rfl) | (focus ((try simp only [Int.reduceToNat, Int.reduceTDiv, Int.reduceTMod, minL, maxL, pickB, zHB, InK, Path.imp, List.length_replicate, List.length_set, List.length_append, List.length_cons, List.length_nil] at *); omega)) | (refine app_le rfl ?_; omega))); done)); (conv => whnf))
    | ((with_reducible refine And.intro (Side.out ?_) ?_); rotate_left; (conv => whnf))
    | (refine retF1 ?_ <;> (conv => whnf) <;> repeat' (first
 | exact trivial
 | (with_reducible rfl)
 | ((with_reducible refine And.intro ?_ ?_) <;> conv => whnf)
 | omega
 | rfl
 | (refine congrArg (SV.arr _) ?_)
 | (refine congrArg (Value.int _) ?_)
 | (refine congrArg Value.bool ?_)))
 | (refine retF2 ?_ <;> (conv => whnf) <;> repeat' (first
 | exact trivial
 | (with_reducible rfl)
 | ((with_reducible refine And.intro ?_ ?_) <;> conv => whnf)
 | omega
 | rfl
 | (refine congrArg (SV.arr _) ?_)
 | (refine congrArg (Value.int _) ?_)
 | (refine congrArg Value.bool ?_)))); all_goals (try unfold Side)
            all_goals try (repeat' (first | (with_reducible rfl) | (with_reducible refine And.intro ?_ ?_) | omega | rfl | exact Or.inl rfl | exact Or.inr rfl | exact of_decide_eq_true rfl | exact Path.imp_of (of_decide_eq_true rfl) | (focus ((try simp only [Int.reduceToNat, Int.reduceTDiv, Int.reduceTMod, minL, maxL, pickB, zHB, InK, Path.imp, List.length_replicate, List.length_set, List.length_append, List.length_cons, List.length_nil] at *); omega)) | (refine app_le rfl ?_; omega)))
            · refine ⟨k + 1, ⟨by omega, by omega⟩, ?_⟩
              rw [hpk]
              refine subF.ok ?_ <;> (conv => whnf) <;> repeat' (first
 | exact trivial
 | (with_reducible rfl)
 | ((with_reducible refine And.intro ?_ ?_) <;> conv => whnf)
 | omega
 | rfl
 | (refine congrArg (SV.arr _) ?_)
 | (refine congrArg (Value.int _) ?_)
 | (refine congrArg Value.bool ?_))
              all_goals exact congrArg (rowT (2 * n)) (by simp)
            · refine subF.ok ?_ <;> (conv => whnf) <;> repeat' (first
 | exact trivial
 | (with_reducible rfl)
 | ((with_reducible refine And.intro ?_ ?_) <;> conv => whnf)
 | omega
 | rfl
 | (refine congrArg (SV.arr _) ?_)
 | (refine congrArg (Value.int _) ?_)
 | (refine congrArg Value.bool ?_))
          · rw [decide_eq_false (fun h => hms (List.mem_append.1 h))] at hv2
            have hset := rowT_set (m := 2 * n) (L := (K k).flatten ++ face) (x := st) hst.1 hst.2
            rw [walk_more hfl hms] at hf
            have hnext := nref_at h hn hs hst.1 hst.2
            rw [← hnx] at hnext
            repeat' (first
 | refine W.seq ?_
 | refine W.block ?_
 | (refine W.region tys_ok [] ?_; conv => whnf)
 | (refine W.drawAll tys_ok [] mixed rfl ?_; conv => whnf)
 | (refine W.ret ?_; conv => whnf)
 | (refine W.skip ?_; conv => whnf)
 | (refine W.exit ?_; conv => whnf)
 | (refine call_at (al := false) (hnext) rfl rfl rfl rfl ?_; conv => whnf)

    | (refine W.cond rfl (fun hb => ?_) (fun hb => ?_) <;> (try simp only [Int.reduceToNat, Int.reduceTDiv, Int.reduceTMod, minL, maxL, pickB, zHB] at hb) <;> (try (first | (cases hb; done) | exact absurd hb (by decide) | (exfalso; omega) | (exact absurd (hb.symm.trans hv2) (by decide)))))
    | ((with_reducible refine And.intro ?_ ?_); (focus ((repeat' (first | (with_reducible rfl) | (with_reducible refine And.intro ?_ ?_) | omega | rfl | exact Or.inl rfl | exact Or.inr rfl | exact of_decide_eq_true rfl | exact Path.imp_of (of_decide_eq_true rfl) | (focus ((try simp only [Int.reduceToNat, Int.reduceTDiv, Int.reduceTMod, minL, maxL, pickB, zHB, InK, Path.imp, List.length_replicate, List.length_set, List.length_append, List.length_cons, List.length_nil] at *); omega)) | (refine app_le rfl ?_; omega))); done)); (conv => whnf))
    | ((with_reducible refine And.intro (Side.out ?_) ?_); rotate_left; (conv => whnf))
    | (refine retF1 ?_ <;> (conv => whnf) <;> repeat' (first
 | exact trivial
 | (with_reducible rfl)
 | ((with_reducible refine And.intro ?_ ?_) <;> conv => whnf)
 | omega
 | rfl
 | (refine congrArg (SV.arr _) ?_)
 | (refine congrArg (Value.int _) ?_)
 | (refine congrArg Value.bool ?_)))
 | (refine retF2 ?_ <;> (conv => whnf) <;> repeat' (first
 | exact trivial
 | (with_reducible rfl)
 | ((with_reducible refine And.intro ?_ ?_) <;> conv => whnf)
 | omega
 | rfl
 | (refine congrArg (SV.arr _) ?_)
 | (refine congrArg (Value.int _) ?_)
 | (refine congrArg Value.bool ?_)))); all_goals (try unfold Side)
            all_goals try (repeat' (first | (with_reducible rfl) | (with_reducible refine And.intro ?_ ?_) | omega | rfl | exact Or.inl rfl | exact Or.inr rfl | exact of_decide_eq_true rfl | exact Path.imp_of (of_decide_eq_true rfl) | (focus ((try simp only [Int.reduceToNat, Int.reduceTDiv, Int.reduceTMod, minL, maxL, pickB, zHB, InK, Path.imp, List.length_replicate, List.length_set, List.length_append, List.length_cons, List.length_nil] at *); omega)) | (refine app_le rfl ?_; omega)))
            refine ⟨(face ++ [st], nx st), ⟨⟨hw.step hr hms, hf⟩, by
              have := (hw.step hr hms).len
              simp only [List.length_append, List.length_singleton] at this ⊢
              omega⟩, ?_⟩
            refine subF.ok ?_ <;> (conv => whnf) <;> repeat' (first
 | exact trivial
 | (with_reducible rfl)
 | ((with_reducible refine And.intro ?_ ?_) <;> conv => whnf)
 | omega
 | rfl
 | (refine congrArg (SV.arr _) ?_)
 | (refine congrArg (Value.int _) ?_)
 | (refine congrArg Value.bool ?_))
            all_goals (rw [hwl]; exact hset.trans (congrArg (rowT (2 * n)) (List.append_assoc _ _ _)))
    · have hie : 2 * (2 * n) = k := by omega
      subst hie
      rw [hKT]
      repeat' (first
 | refine W.seq ?_
 | refine W.block ?_
 | (refine W.region tys_ok [] ?_; conv => whnf)
 | (refine W.drawAll tys_ok [] mixed rfl ?_; conv => whnf)
 | (refine W.ret ?_; conv => whnf)
 | (refine W.skip ?_; conv => whnf)
 | (refine W.exit ?_; conv => whnf)

    | (refine W.cond rfl (fun hb => ?_) (fun hb => ?_) <;> (try simp only [Int.reduceToNat, Int.reduceTDiv, Int.reduceTMod, minL, maxL, pickB, zHB] at hb) <;> (try (first | (cases hb; done) | exact absurd hb (by decide) | (exfalso; omega))))
    | ((with_reducible refine And.intro ?_ ?_); (focus ((repeat' (first | (with_reducible rfl) | (with_reducible refine And.intro ?_ ?_) | omega | rfl | exact Or.inl rfl | exact Or.inr rfl | exact of_decide_eq_true rfl | exact Path.imp_of (of_decide_eq_true rfl) | (focus ((try simp only [Int.reduceToNat, Int.reduceTDiv, Int.reduceTMod, minL, maxL, pickB, zHB, InK, Path.imp, List.length_replicate, List.length_set, List.length_append, List.length_cons, List.length_nil] at *); omega)) | (refine app_le rfl ?_; omega))); done)); (conv => whnf))
    | ((with_reducible refine And.intro (Side.out ?_) ?_); rotate_left; (conv => whnf))
    | (refine retF1 ?_ <;> (conv => whnf) <;> repeat' (first
 | exact trivial
 | (with_reducible rfl)
 | ((with_reducible refine And.intro ?_ ?_) <;> conv => whnf)
 | omega
 | rfl
 | (refine congrArg (SV.arr _) ?_)
 | (refine congrArg (Value.int _) ?_)
 | (refine congrArg Value.bool ?_)))
 | (refine retF2 ?_ <;> (conv => whnf) <;> repeat' (first
 | exact trivial
 | (with_reducible rfl)
 | ((with_reducible refine And.intro ?_ ?_) <;> conv => whnf)
 | omega
 | rfl
 | (refine congrArg (SV.arr _) ?_)
 | (refine congrArg (Value.int _) ?_)
 | (refine congrArg Value.bool ?_)))); all_goals (try unfold Side)
      all_goals try (repeat' (first | (with_reducible rfl) | (with_reducible refine And.intro ?_ ?_) | omega | rfl | exact Or.inl rfl | exact Or.inr rfl | exact of_decide_eq_true rfl | exact Path.imp_of (of_decide_eq_true rfl) | (focus ((try simp only [Int.reduceToNat, Int.reduceTDiv, Int.reduceTMod, minL, maxL, pickB, zHB, InK, Path.imp, List.length_replicate, List.length_set, List.length_append, List.length_cons, List.length_nil] at *); omega)) | (refine app_le rfl ?_; omega)))

theorem facesT_len {nx : Int → Int} {m : Nat} : (facesT nx m).length ≤ 2 * m := facesK_len _
theorem genus_rg {n : Nat} {w s : List Int} (hn : n ≤ 10) : -100 ≤ ((n : Int) + 2 - (facesT (nextT w s) (2 * n)).length) ∧ -100 ≤ genusT n w s ∧ genusT n w s ≤ 100 := by
  have h := facesT_len (nx := nextT w s) (m := 2 * n)
  unfold genusT
  by_cases h0 : 0 ≤ (n : Int) + 2 - (facesT (nextT w s) (2 * n)).length
  · rw [Int.tdiv_eq_ediv_of_nonneg h0]; omega
  · have : ((n : Int) + 2 - (facesT (nextT w s) (2 * n)).length).tdiv 2 = -((-((n : Int) + 2 - (facesT (nextT w s) (2 * n)).length)).tdiv 2) := by rw [Int.neg_tdiv, Int.neg_neg]
    rw [this, Int.tdiv_eq_ediv_of_nonneg (by omega)]; omega
theorem genus_at {w s : List Int} {n : Nat} (h : Word w n) (hn : n ≤ 10) (hs : signsB s n = true) : FnAt Try.prog false 49 [curveT n w, .arr (.int .i64) s] (.lit (.int .i64 (genusT n w s))) [] := by
  have hf := faces_at h hn hs
  have hfl := facesT_len (nx := nextT w s) (m := 2 * n)
  have hg := genus_rg (w := w) (s := s) hn
  unfold genusT at hg ⊢
  obtain ⟨F, hF⟩ : ∃ F, F = facesT (nextT w s) (2 * n) := ⟨_, rfl⟩
  rw [← hF] at hf hfl hg ⊢
  have hfl' : @List.length (Ty.sl (.int .i64)).T F ≤ 2 * (2 * n) := hfl
  refine FnAt.of_body tys_ok Try.func49 (by rfl) rfl Try.ntmps49 (by rw [Try.results49]) (by simp) ?_
  
  repeat' (first
 | refine W.seq ?_
 | refine W.block ?_
 | (refine W.drawPh (id := 1) tys_ok [] mixed [0, 1, 2, 4, 8, 0, 0, 96, 128, 272, 512, 2047] [([0, 1, 2, 3, 4, 5, 6], 1, 255), ([], 1, 511), ([9, 10, 11], 0, 4095)] (by decide +kernel) ?_; conv => whnf)
 | (refine W.region tys_ok [] ?_; conv => whnf)
 | (refine W.drawAll tys_ok [] mixed rfl ?_; conv => whnf)
 | (refine W.ret ?_; conv => whnf)
 | (refine W.skip ?_; conv => whnf)
 | (refine W.exit ?_; conv => whnf)
 | (refine call_at (al := false) (hf) rfl rfl rfl rfl ?_; conv => whnf)

    | (refine Both.mk ?_ ?_ <;> (conv => whnf))
    | (refine subF.leaf ?_ <;> (conv => whnf) <;> repeat' (first
 | exact trivial
 | (with_reducible rfl)
 | ((with_reducible refine And.intro ?_ ?_) <;> conv => whnf)
 | omega
 | rfl
 | (refine congrArg (SV.arr _) ?_)
 | (refine congrArg (Value.int _) ?_)
 | (refine congrArg Value.bool ?_)))
 | (refine subF.side ?_ <;> (conv => whnf) <;> repeat' (first
 | exact trivial
 | (with_reducible rfl)
 | ((with_reducible refine And.intro ?_ ?_) <;> conv => whnf)
 | omega
 | rfl
 | (refine congrArg (SV.arr _) ?_)
 | (refine congrArg (Value.int _) ?_)
 | (refine congrArg Value.bool ?_)))
 | (refine W.cond rfl (fun hb => ?_) (fun hb => ?_) <;> (try simp only [Int.reduceToNat, Int.reduceTDiv, Int.reduceTMod, minL, maxL, pickB, zHB] at hb) <;> (try (first | (cases hb; done) | exact absurd hb (by decide) | (exfalso; omega))))
 | ((with_reducible refine And.intro ?_ ?_); (focus ((repeat' (first | (with_reducible rfl) | (with_reducible refine And.intro ?_ ?_) | omega | rfl | exact Or.inl rfl | exact Or.inr rfl | exact of_decide_eq_true rfl | exact Path.imp_of (of_decide_eq_true rfl) | (focus ((try simp only [Int.reduceToNat, Int.reduceTDiv, Int.reduceTMod, minL, maxL, pickB, zHB, InK, Path.imp, List.length_replicate, List.length_set, List.length_append, List.length_cons, List.length_nil] at *); omega)) | (refine app_le rfl ?_; omega))); done)); (conv => whnf))
 | ((with_reducible refine And.intro (Side.out ?_) ?_); rotate_left; (conv => whnf))
 | (refine retF1 ?_ <;> (conv => whnf) <;> repeat' (first
 | exact trivial
 | (with_reducible rfl)
 | ((with_reducible refine And.intro ?_ ?_) <;> conv => whnf)
 | omega
 | rfl
 | (refine congrArg (SV.arr _) ?_)
 | (refine congrArg (Value.int _) ?_)
 | (refine congrArg Value.bool ?_)))
 | (refine retF2 ?_ <;> (conv => whnf) <;> repeat' (first
 | exact trivial
 | (with_reducible rfl)
 | ((with_reducible refine And.intro ?_ ?_) <;> conv => whnf)
 | omega
 | rfl
 | (refine congrArg (SV.arr _) ?_)
 | (refine congrArg (Value.int _) ?_)
 | (refine congrArg Value.bool ?_)))); all_goals (try unfold Side)
  all_goals try (repeat' (first | (with_reducible rfl) | (with_reducible refine And.intro ?_ ?_) | omega | rfl | exact Or.inl rfl | exact Or.inr rfl | exact of_decide_eq_true rfl | exact Path.imp_of (of_decide_eq_true rfl) | (focus ((try simp only [Int.reduceToNat, Int.reduceTDiv, Int.reduceTMod, minL, maxL, pickB, zHB, InK, Path.imp, List.length_replicate, List.length_set, List.length_append, List.length_cons, List.length_nil] at *); omega)) | (refine app_le rfl ?_; omega)))
theorem genus_ref {w s : List Int} {n : Nat} (h : Word w n) (hn : n ≤ 10) (hs : signsB s n = true) : FnAt Try.prog false 27 [.arr (.int .i64) w, .arr (.int .i64) s] (.lit (.int .i64 (genusT n w s))) [] := by
  have hwl : @List.length (Ty.int .i64).T w = 2 * n := h.len
  have hd : Int.tdiv (@List.length (Ty.int .i64).T w) 2 = n := by rw [hwl, Int.tdiv_eq_ediv_of_nonneg (by omega)]; omega
  have hf := faces_ref h hn hs
  have hfl := facesT_len (nx := nextT w s) (m := 2 * n)
  have hg := genus_rg (w := w) (s := s) hn
  unfold genusT at hg ⊢
  obtain ⟨F, hF⟩ : ∃ F, F = facesT (nextT w s) (2 * n) := ⟨_, rfl⟩
  rw [← hF] at hf hfl hg ⊢
  have hfl' : @List.length (Ty.sl (.int .i64)).T F ≤ 2 * (2 * n) := hfl
  have e : (Int.tdiv (@List.length (Ty.int .i64).T w) 2 + 2 - (@List.length (Ty.sl (.int .i64)).T F : Int)).tdiv 2 = ((n : Int) + 2 - F.length).tdiv 2 := by rw [hd]; rfl
  refine FnAt.of_body tys_ok Try.func27 (by rfl) rfl Try.ntmps27 (by rw [Try.results27]) (by simp) ?_
  
  repeat' (first
 | refine W.seq ?_
 | refine W.block ?_
 | (refine W.drawPh (id := 1) tys_ok [] mixed [0, 1, 2, 4, 0, 0, 48, 64, 136, 256, 1023] [([0, 4, 5], 5, 255), ([8, 9, 10], 0, 2047)] (by decide +kernel) ?_; conv => whnf)
 | (refine W.region tys_ok [] ?_; conv => whnf)
 | (refine W.drawAll tys_ok [] mixed rfl ?_; conv => whnf)
 | (refine W.ret ?_; conv => whnf)
 | (refine W.skip ?_; conv => whnf)
 | (refine W.exit ?_; conv => whnf)
 | (refine call_at (al := false) (hf) rfl rfl rfl rfl ?_; conv => whnf)

    | (refine Both.mk ?_ ?_ <;> (conv => whnf))
    | (refine subF.leaf ?_ <;> (conv => whnf) <;> repeat' (first
 | exact trivial
 | (with_reducible rfl)
 | ((with_reducible refine And.intro ?_ ?_) <;> conv => whnf)
 | omega
 | rfl
 | (refine congrArg (SV.arr _) ?_)
 | (refine congrArg (Value.int _) ?_)
 | (refine congrArg Value.bool ?_)))
 | (refine subF.side ?_ <;> (conv => whnf) <;> repeat' (first
 | exact trivial
 | (with_reducible rfl)
 | ((with_reducible refine And.intro ?_ ?_) <;> conv => whnf)
 | omega
 | rfl
 | (refine congrArg (SV.arr _) ?_)
 | (refine congrArg (Value.int _) ?_)
 | (refine congrArg Value.bool ?_)))
 | (refine W.cond rfl (fun hb => ?_) (fun hb => ?_) <;> (try simp only [Int.reduceToNat, Int.reduceTDiv, Int.reduceTMod, minL, maxL, pickB, zHB] at hb) <;> (try (first | (cases hb; done) | exact absurd hb (by decide) | (exfalso; omega))))
 | ((with_reducible refine And.intro ?_ ?_); (focus ((repeat' (first | (with_reducible rfl) | (with_reducible refine And.intro ?_ ?_) | omega | rfl | exact Or.inl rfl | exact Or.inr rfl | exact of_decide_eq_true rfl | exact Path.imp_of (of_decide_eq_true rfl) | (focus ((try simp only [Int.reduceToNat, Int.reduceTDiv, Int.reduceTMod, minL, maxL, pickB, zHB, InK, Path.imp, List.length_replicate, List.length_set, List.length_append, List.length_cons, List.length_nil] at *); omega)) | (refine app_le rfl ?_; omega))); done)); (conv => whnf))
 | ((with_reducible refine And.intro (Side.out ?_) ?_); rotate_left; (conv => whnf))
 | (refine retF1 ?_ <;> (conv => whnf) <;> repeat' (first
 | exact trivial
 | (with_reducible rfl)
 | ((with_reducible refine And.intro ?_ ?_) <;> conv => whnf)
 | omega
 | rfl
 | (refine congrArg (SV.arr _) ?_)
 | (refine congrArg (Value.int _) ?_)
 | (refine congrArg Value.bool ?_)))
 | (refine retF2 ?_ <;> (conv => whnf) <;> repeat' (first
 | exact trivial
 | (with_reducible rfl)
 | ((with_reducible refine And.intro ?_ ?_) <;> conv => whnf)
 | omega
 | rfl
 | (refine congrArg (SV.arr _) ?_)
 | (refine congrArg (Value.int _) ?_)
 | (refine congrArg Value.bool ?_)))); all_goals (try unfold Side)
  all_goals try (repeat' (first | (with_reducible rfl) | (with_reducible refine And.intro ?_ ?_) | omega | rfl | exact Or.inl rfl | exact Or.inr rfl | exact of_decide_eq_true rfl | exact Path.imp_of (of_decide_eq_true rfl) | (focus ((try simp only [Int.reduceToNat, Int.reduceTDiv, Int.reduceTMod, minL, maxL, pickB, zHB, InK, Path.imp, List.length_replicate, List.length_set, List.length_append, List.length_cons, List.length_nil] at *); omega)) | (refine app_le rfl ?_; omega)))
  all_goals first
    | exact e
    | (refine Path.imp_of ⟨by decide, ?_⟩; show InK .i64 _; rw [e]; simp only [InK]; omega)
theorem Faces_ok {w s : List Int} {n : Nat} (h : Word w n) (hn : n ≤ 10) (hs : signsB s n = true) : FnAt Try.prog false 23 [.arr (.int .i64) w, .arr (.int .i64) s] (.tup [.own 0, .lit (.int .i64 0)]) [(0, .row 22 (.sl (.int .i64)) true (facesT (nextT w s) (2 * n)))] := by
  refine FnAt.of_body tys_ok Try.func23 (by rfl) rfl Try.ntmps23 (by rw [Try.results23]) (by simp) ?_
  
  repeat' (first
 | refine W.seq ?_
 | refine W.block ?_
 | (refine W.region tys_ok [] ?_; conv => whnf)
 | (refine W.drawAll tys_ok [] mixed rfl ?_; conv => whnf)
 | (refine W.ret ?_; conv => whnf)
 | (refine W.skip ?_; conv => whnf)
 | (refine W.exit ?_; conv => whnf)
 | (refine call_at (al := true) (signed_ok h hn hs) rfl rfl rfl rfl ?_; conv => whnf)
 | (refine call_at (al := false) (faces_at h hn hs) rfl rfl rfl rfl ?_; conv => whnf)

    | (refine W.cond rfl (fun hb => ?_) (fun hb => ?_) <;> (try simp only [Int.reduceToNat, Int.reduceTDiv, Int.reduceTMod, minL, maxL, pickB, zHB] at hb) <;> (try (first | (cases hb; done) | exact absurd hb (by decide) | (exfalso; omega))))
    | ((with_reducible refine And.intro ?_ ?_); (focus ((repeat' (first | (with_reducible rfl) | (with_reducible refine And.intro ?_ ?_) | omega | rfl | exact Or.inl rfl | exact Or.inr rfl | exact of_decide_eq_true rfl | exact Path.imp_of (of_decide_eq_true rfl) | (focus ((try simp only [Int.reduceToNat, Int.reduceTDiv, Int.reduceTMod, minL, maxL, pickB, zHB, InK, Path.imp, List.length_replicate, List.length_set, List.length_append, List.length_cons, List.length_nil] at *); omega)) | (refine app_le rfl ?_; omega))); done)); (conv => whnf))
    | ((with_reducible refine And.intro (Side.out ?_) ?_); rotate_left; (conv => whnf))
    | (refine retF1 ?_ <;> (conv => whnf) <;> repeat' (first
 | exact trivial
 | (with_reducible rfl)
 | ((with_reducible refine And.intro ?_ ?_) <;> conv => whnf)
 | omega
 | rfl
 | (refine congrArg (SV.arr _) ?_)
 | (refine congrArg (Value.int _) ?_)
 | (refine congrArg Value.bool ?_)))
 | (refine retF2 ?_ <;> (conv => whnf) <;> repeat' (first
 | exact trivial
 | (with_reducible rfl)
 | ((with_reducible refine And.intro ?_ ?_) <;> conv => whnf)
 | omega
 | rfl
 | (refine congrArg (SV.arr _) ?_)
 | (refine congrArg (Value.int _) ?_)
 | (refine congrArg Value.bool ?_)))); all_goals (try unfold Side)
  all_goals try (repeat' (first | (with_reducible rfl) | (with_reducible refine And.intro ?_ ?_) | omega | rfl | exact Or.inl rfl | exact Or.inr rfl | exact of_decide_eq_true rfl | exact Path.imp_of (of_decide_eq_true rfl) | (focus ((try simp only [Int.reduceToNat, Int.reduceTDiv, Int.reduceTMod, minL, maxL, pickB, zHB, InK, Path.imp, List.length_replicate, List.length_set, List.length_append, List.length_cons, List.length_nil] at *); omega)) | (refine app_le rfl ?_; omega)))
theorem Genus_ok {w s : List Int} {n : Nat} (h : Word w n) (hn : n ≤ 10) (hs : signsB s n = true) : FnAt Try.prog false 24 [.arr (.int .i64) w, .arr (.int .i64) s] (.tup [.lit (.int .i64 (genusT n w s)), .lit (.int .i64 0)]) [] := by
  refine FnAt.of_body tys_ok Try.func24 (by rfl) rfl Try.ntmps24 (by rw [Try.results24]) (by simp) ?_
  
  repeat' (first
 | refine W.seq ?_
 | refine W.block ?_
 | (refine W.region tys_ok [] ?_; conv => whnf)
 | (refine W.drawAll tys_ok [] mixed rfl ?_; conv => whnf)
 | (refine W.ret ?_; conv => whnf)
 | (refine W.skip ?_; conv => whnf)
 | (refine W.exit ?_; conv => whnf)
 | (refine call_at (al := true) (signed_ok h hn hs) rfl rfl rfl rfl ?_; conv => whnf)
 | (refine call_at (al := false) (genus_at h hn hs) rfl rfl rfl rfl ?_; conv => whnf)

    | (refine W.cond rfl (fun hb => ?_) (fun hb => ?_) <;> (try simp only [Int.reduceToNat, Int.reduceTDiv, Int.reduceTMod, minL, maxL, pickB, zHB] at hb) <;> (try (first | (cases hb; done) | exact absurd hb (by decide) | (exfalso; omega))))
    | ((with_reducible refine And.intro ?_ ?_); (focus ((repeat' (first | (with_reducible rfl) | (with_reducible refine And.intro ?_ ?_) | omega | rfl | exact Or.inl rfl | exact Or.inr rfl | exact of_decide_eq_true rfl | exact Path.imp_of (of_decide_eq_true rfl) | (focus ((try simp only [Int.reduceToNat, Int.reduceTDiv, Int.reduceTMod, minL, maxL, pickB, zHB, InK, Path.imp, List.length_replicate, List.length_set, List.length_append, List.length_cons, List.length_nil] at *); omega)) | (refine app_le rfl ?_; omega))); done)); (conv => whnf))
    | ((with_reducible refine And.intro (Side.out ?_) ?_); rotate_left; (conv => whnf))
    | (refine retF1 ?_ <;> (conv => whnf) <;> repeat' (first
 | exact trivial
 | (with_reducible rfl)
 | ((with_reducible refine And.intro ?_ ?_) <;> conv => whnf)
 | omega
 | rfl
 | (refine congrArg (SV.arr _) ?_)
 | (refine congrArg (Value.int _) ?_)
 | (refine congrArg Value.bool ?_)))
 | (refine retF2 ?_ <;> (conv => whnf) <;> repeat' (first
 | exact trivial
 | (with_reducible rfl)
 | ((with_reducible refine And.intro ?_ ?_) <;> conv => whnf)
 | omega
 | rfl
 | (refine congrArg (SV.arr _) ?_)
 | (refine congrArg (Value.int _) ?_)
 | (refine congrArg Value.bool ?_)))); all_goals (try unfold Side)
  all_goals try (repeat' (first | (with_reducible rfl) | (with_reducible refine And.intro ?_ ?_) | omega | rfl | exact Or.inl rfl | exact Or.inr rfl | exact of_decide_eq_true rfl | exact Path.imp_of (of_decide_eq_true rfl) | (focus ((try simp only [Int.reduceToNat, Int.reduceTDiv, Int.reduceTMod, minL, maxL, pickB, zHB, InK, Path.imp, List.length_replicate, List.length_set, List.length_append, List.length_cons, List.length_nil] at *); omega)) | (refine app_le rfl ?_; omega)))
/-- Why a word with signs is refused. -/
def whyT (w s : List Int) : Int := if ¬ checkT w = 0 then checkT w else if signsB s (w.length / 2) = true then 0 else 2
theorem whyT_ok {w s : List Int} (h : whyT w s = 0) : ∃ n, Word w n ∧ n ≤ 10 ∧ signsB s n = true := by
  unfold whyT at h
  split at h
  · rename_i h1; exact absurd h h1
  · rename_i h1
    obtain ⟨n, hw, hn⟩ := checkT_ok (Classical.not_not.1 h1)
    have := hw.len
    rw [show w.length / 2 = n by omega] at h
    split at h
    · rename_i h2; exact ⟨n, hw, hn, h2⟩
    · cases h
theorem signed_no {w s : List Int} (h : ¬ whyT w s = 0) (hl : w.length ≤ 1000) (hs : s.length ≤ 1000) : FnAt Try.prog true 47 [.arr (.int .i64) w, .arr (.int .i64) s] (.tup [.lit (.pointer none), .lit (.int .i64 (whyT w s))]) [] := by
  by_cases hc : checkT w = 0
  · obtain ⟨n, hw, hn⟩ := checkT_ok hc
    have hwl := hw.len
    have e : whyT w s = if signsB s n = true then 0 else 2 := by rw [whyT, if_neg (fun h => h hc), show w.length / 2 = n by omega]
    cases hb : signsB s n with
    | true => rw [hb, if_pos rfl] at e; exact absurd e h
    | false =>
      rw [hb, if_neg (by decide)] at e
      rw [e]
      exact signed_form hw hn hb hs
  · have e : whyT w s = checkT w := by rw [whyT, if_pos hc]
    rw [e]
    exact signed_bad hc hl
theorem Faces_no {w s : List Int} (h : ¬ whyT w s = 0) (hl : w.length ≤ 1000) (hs : s.length ≤ 1000) : FnAt Try.prog false 23 [.arr (.int .i64) w, .arr (.int .i64) s] (.tup [.own 0, .lit (.int .i64 (whyT w s))]) [(0, .row 22 (.sl (.int .i64)) true [])] := by
  refine FnAt.of_body tys_ok Try.func23 (by rfl) rfl Try.ntmps23 (by rw [Try.results23]) (by simp) ?_
  
  repeat' (first
 | refine W.seq ?_
 | refine W.block ?_
 | (refine W.region tys_ok [] ?_; conv => whnf)
 | (refine W.drawAll tys_ok [] mixed rfl ?_; conv => whnf)
 | (refine W.ret ?_; conv => whnf)
 | (refine W.skip ?_; conv => whnf)
 | (refine W.exit ?_; conv => whnf)
 | (refine call_at (al := true) (signed_no h hl hs) rfl rfl rfl rfl ?_; conv => whnf)

    | (refine W.cond rfl (fun hb => ?_) (fun hb => ?_) <;> (try simp only [Int.reduceToNat, Int.reduceTDiv, Int.reduceTMod, minL, maxL, pickB, zHB] at hb) <;> (try (first | (cases hb; done) | exact absurd hb (by decide) | (exfalso; omega))))
    | ((with_reducible refine And.intro ?_ ?_); (focus ((repeat' (first | (with_reducible rfl) | (with_reducible refine And.intro ?_ ?_) | omega | rfl | exact Or.inl rfl | exact Or.inr rfl | exact of_decide_eq_true rfl | exact Path.imp_of (of_decide_eq_true rfl) | (focus ((try simp only [Int.reduceToNat, Int.reduceTDiv, Int.reduceTMod, minL, maxL, pickB, zHB, InK, Path.imp, List.length_replicate, List.length_set, List.length_append, List.length_cons, List.length_nil] at *); omega)) | (refine app_le rfl ?_; omega))); done)); (conv => whnf))
    | ((with_reducible refine And.intro (Side.out ?_) ?_); rotate_left; (conv => whnf))
    | (refine retF1 ?_ <;> (conv => whnf) <;> repeat' (first
 | exact trivial
 | (with_reducible rfl)
 | ((with_reducible refine And.intro ?_ ?_) <;> conv => whnf)
 | omega
 | rfl
 | (refine congrArg (SV.arr _) ?_)
 | (refine congrArg (Value.int _) ?_)
 | (refine congrArg Value.bool ?_)))
 | (refine retF2 ?_ <;> (conv => whnf) <;> repeat' (first
 | exact trivial
 | (with_reducible rfl)
 | ((with_reducible refine And.intro ?_ ?_) <;> conv => whnf)
 | omega
 | rfl
 | (refine congrArg (SV.arr _) ?_)
 | (refine congrArg (Value.int _) ?_)
 | (refine congrArg Value.bool ?_)))); all_goals (try unfold Side)
  all_goals try (repeat' (first | (with_reducible rfl) | (with_reducible refine And.intro ?_ ?_) | omega | rfl | exact Or.inl rfl | exact Or.inr rfl | exact of_decide_eq_true rfl | exact Path.imp_of (of_decide_eq_true rfl) | (focus ((try simp only [Int.reduceToNat, Int.reduceTDiv, Int.reduceTMod, minL, maxL, pickB, zHB, InK, Path.imp, List.length_replicate, List.length_set, List.length_append, List.length_cons, List.length_nil] at *); omega)) | (refine app_le rfl ?_; omega)))
theorem Genus_no {w s : List Int} (h : ¬ whyT w s = 0) (hl : w.length ≤ 1000) (hs : s.length ≤ 1000) : FnAt Try.prog false 24 [.arr (.int .i64) w, .arr (.int .i64) s] (.tup [.lit (.int .i64 0), .lit (.int .i64 (whyT w s))]) [] := by
  refine FnAt.of_body tys_ok Try.func24 (by rfl) rfl Try.ntmps24 (by rw [Try.results24]) (by simp) ?_
  
  repeat' (first
 | refine W.seq ?_
 | refine W.block ?_
 | (refine W.region tys_ok [] ?_; conv => whnf)
 | (refine W.drawAll tys_ok [] mixed rfl ?_; conv => whnf)
 | (refine W.ret ?_; conv => whnf)
 | (refine W.skip ?_; conv => whnf)
 | (refine W.exit ?_; conv => whnf)
 | (refine call_at (al := true) (signed_no h hl hs) rfl rfl rfl rfl ?_; conv => whnf)

    | (refine W.cond rfl (fun hb => ?_) (fun hb => ?_) <;> (try simp only [Int.reduceToNat, Int.reduceTDiv, Int.reduceTMod, minL, maxL, pickB, zHB] at hb) <;> (try (first | (cases hb; done) | exact absurd hb (by decide) | (exfalso; omega))))
    | ((with_reducible refine And.intro ?_ ?_); (focus ((repeat' (first | (with_reducible rfl) | (with_reducible refine And.intro ?_ ?_) | omega | rfl | exact Or.inl rfl | exact Or.inr rfl | exact of_decide_eq_true rfl | exact Path.imp_of (of_decide_eq_true rfl) | (focus ((try simp only [Int.reduceToNat, Int.reduceTDiv, Int.reduceTMod, minL, maxL, pickB, zHB, InK, Path.imp, List.length_replicate, List.length_set, List.length_append, List.length_cons, List.length_nil] at *); omega)) | (refine app_le rfl ?_; omega))); done)); (conv => whnf))
    | ((with_reducible refine And.intro (Side.out ?_) ?_); rotate_left; (conv => whnf))
    | (refine retF1 ?_ <;> (conv => whnf) <;> repeat' (first
 | exact trivial
 | (with_reducible rfl)
 | ((with_reducible refine And.intro ?_ ?_) <;> conv => whnf)
 | omega
 | rfl
 | (refine congrArg (SV.arr _) ?_)
 | (refine congrArg (Value.int _) ?_)
 | (refine congrArg Value.bool ?_)))
 | (refine retF2 ?_ <;> (conv => whnf) <;> repeat' (first
 | exact trivial
 | (with_reducible rfl)
 | ((with_reducible refine And.intro ?_ ?_) <;> conv => whnf)
 | omega
 | rfl
 | (refine congrArg (SV.arr _) ?_)
 | (refine congrArg (Value.int _) ?_)
 | (refine congrArg Value.bool ?_)))); all_goals (try unfold Side)
  all_goals try (repeat' (first | (with_reducible rfl) | (with_reducible refine And.intro ?_ ?_) | omega | rfl | exact Or.inl rfl | exact Or.inr rfl | exact of_decide_eq_true rfl | exact Path.imp_of (of_decide_eq_true rfl) | (focus ((try simp only [Int.reduceToNat, Int.reduceTDiv, Int.reduceTMod, minL, maxL, pickB, zHB, InK, Path.imp, List.length_replicate, List.length_set, List.length_append, List.length_cons, List.length_nil] at *); omega)) | (refine app_le rfl ?_; omega)))
theorem why_at (w s : List Int) (hl : w.length ≤ 1000) (hs : s.length ≤ 1000) : FnAt Try.prog false 25 [.arr (.int .i64) w, .arr (.int .i64) s] (.lit (.int .i64 (whyT w s))) [] := by
  have hd : Int.tdiv (@List.length (Ty.int .i64).T w) 2 = (w.length / 2 : Nat) := by
    show Int.tdiv (w.length : Int) 2 = _
    rw [Int.tdiv_eq_ediv_of_nonneg (by omega)]; omega
  have hsg := signs_ref s (w.length / 2) hs
  rw [← hd] at hsg
  have hck := check_at w hl
  have e1 : ¬ checkT w = 0 → whyT w s = checkT w := fun h => by rw [whyT, if_pos h]
  have e2 : checkT w = 0 → signsB s (w.length / 2) = true → whyT w s = 0 := fun h h2 => by rw [whyT, if_neg (fun h' => h' h), if_pos h2]
  have e3 : checkT w = 0 → signsB s (w.length / 2) = false → whyT w s = 2 := fun h h2 => by rw [whyT, if_neg (fun h' => h' h), if_neg (by rw [h2]; decide)]
  refine FnAt.of_body tys_ok Try.func25 (by rfl) rfl Try.ntmps25 (by rw [Try.results25]) (by simp) ?_
  
  repeat' (first
 | refine W.seq ?_
 | refine W.block ?_
 | (refine W.region tys_ok [] ?_; conv => whnf)
 | (refine W.drawAll tys_ok [] mixed rfl ?_; conv => whnf)
 | (refine W.ret ?_; conv => whnf)
 | (refine W.skip ?_; conv => whnf)
 | (refine W.exit ?_; conv => whnf)
 | (refine call_at (al := false) (check_at w hl) rfl rfl rfl rfl ?_; conv => whnf)
 | (refine call_at (al := false) (hsg) rfl rfl rfl rfl ?_; conv => whnf)

    | (refine W.cond rfl (fun hb => ?_) (fun hb => ?_) <;> (try simp only [Int.reduceToNat, Int.reduceTDiv, Int.reduceTMod, minL, maxL, pickB, zHB] at hb) <;> (try (first | (cases hb; done) | exact absurd hb (by decide) | (exfalso; omega))))
    | ((with_reducible refine And.intro ?_ ?_); (focus ((repeat' (first | (with_reducible rfl) | (with_reducible refine And.intro ?_ ?_) | omega | rfl | exact Or.inl rfl | exact Or.inr rfl | exact of_decide_eq_true rfl | exact Path.imp_of (of_decide_eq_true rfl) | (focus ((try simp only [Int.reduceToNat, Int.reduceTDiv, Int.reduceTMod, minL, maxL, pickB, zHB, InK, Path.imp, List.length_replicate, List.length_set, List.length_append, List.length_cons, List.length_nil] at *); omega)) | (refine app_le rfl ?_; omega))); done)); (conv => whnf))
    | ((with_reducible refine And.intro (Side.out ?_) ?_); rotate_left; (conv => whnf))
    | (refine retF1 ?_ <;> (conv => whnf) <;> repeat' (first
 | exact trivial
 | (with_reducible rfl)
 | ((with_reducible refine And.intro ?_ ?_) <;> conv => whnf)
 | omega
 | rfl
 | (refine congrArg (SV.arr _) ?_)
 | (refine congrArg (Value.int _) ?_)
 | (refine congrArg Value.bool ?_)))
 | (refine retF2 ?_ <;> (conv => whnf) <;> repeat' (first
 | exact trivial
 | (with_reducible rfl)
 | ((with_reducible refine And.intro ?_ ?_) <;> conv => whnf)
 | omega
 | rfl
 | (refine congrArg (SV.arr _) ?_)
 | (refine congrArg (Value.int _) ?_)
 | (refine congrArg Value.bool ?_)))); all_goals (try unfold Side)
  all_goals try (repeat' (first | (with_reducible rfl) | (with_reducible refine And.intro ?_ ?_) | omega | rfl | exact Or.inl rfl | exact Or.inr rfl | exact of_decide_eq_true rfl | exact Path.imp_of (of_decide_eq_true rfl) | (focus ((try simp only [Int.reduceToNat, Int.reduceTDiv, Int.reduceTMod, minL, maxL, pickB, zHB, InK, Path.imp, List.length_replicate, List.length_set, List.length_append, List.length_cons, List.length_nil] at *); omega)) | (refine app_le rfl ?_; omega)))
  · exact (e3 (by assumption) hb).symm
  · exact (e2 (by assumption) hb).symm
end Go.Proofs.Ytdfajcfkdfjoeaa
/- The least genus of a word: the program's and the document's. No condition. -/
namespace Go.Proofs.Ytdfajcfkdfjoeaa
open Go Go.Vc Go.Scr
set_option linter.unusedVariables false
set_option linter.unusedSimpArgs false

theorem sgT_signs {n k : Nat} : signsB (sgT n k) n = true := by
  rw [signsB, sgT_len, show sgnB (sgT n k) = true from sgT_all]; simp
theorem leastK_rg {n : Nat} {w : List Int} (hn : n ≤ 10) : ∀ k, -100 ≤ (leastK n w k).1 ∧ (leastK n w k).1 ≤ 100
  | 0 => by simp [leastK]
  | k + 1 => by
    rw [leastK]
    split
    · exact (genus_rg hn).2
    · exact leastK_rg hn k
theorem pow_le {n : Nat} (hn : n ≤ 10) : 1 ≤ 2 ^ n ∧ 2 ^ n ≤ 1024 := ⟨Nat.one_le_two_pow, Nat.pow_le_pow_right (by omega) hn⟩
theorem toNat_sub' {n i : Nat} (h : i < n) : ((n : Int) - 1 - i).toNat = n - 1 - i := by omega
theorem sgp {n k i N : Nat} (hN : N = 2 ^ n) (hk : k < N) (hi : i < n) (hn : n ≤ 10) : ∃ e : Int, ((((N : Int) - 1 - k) / 2 ^ ((n : Int) - 1 - i).toNat).toNat &&& Int.toNat 1 : Nat) = e ∧ 0 ≤ e ∧ e ≤ 1 ∧ e * 2 - 1 = sgAt n k i ∧
    (0 ≤ (n : Int) - 1 - i ∧ ((n : Int) - 1 - i).toNat ≤ IntKind.i64.bits) ∧ (0 ≤ ((N : Int) - 1 - k) / 2 ^ ((n : Int) - 1 - i).toNat ∧ (0 : Int) ≤ 1 ∧ InK .i64 (((N : Int) - 1 - k) / 2 ^ ((n : Int) - 1 - i).toNat) ∧ InK .i64 1) := by
  have hb := pow_le hn
  have h1 : ((n : Int) - 1 - i).toNat = n - 1 - i := by omega
  have h2 : ((N : Int) - 1 - k) / 2 ^ (n - 1 - i) = (((N - 1 - k) / 2 ^ (n - 1 - i) : Nat) : Int) := by
    rw [show (N : Int) - 1 - k = ((N - 1 - k : Nat) : Int) by omega]; norm_cast
  have h3 : (N - 1 - k) / 2 ^ (n - 1 - i) ≤ 1024 := Nat.le_trans (Nat.div_le_self _ _) (by omega)
  subst hN
  have h4 := sg_prog hk hi
  rw [h1, h2, Int.toNat_natCast]
  have h5 : ((2 ^ n - 1 - k) / 2 ^ (n - 1 - i)) &&& Int.toNat 1 ≤ 1 := by
    show _ &&& 1 ≤ 1
    rw [Nat.and_one_is_mod]; omega
  obtain ⟨Q, hQ⟩ : ∃ Q : Nat, Q = (2 ^ n - 1 - k) / 2 ^ (n - 1 - i) := ⟨_, rfl⟩
  rw [← hQ] at h3 h4 h5 ⊢
  refine ⟨_, rfl, by omega, by exact_mod_cast h5, h4, ⟨by omega, by show _ ≤ 64; omega⟩, by omega, by omega, ?_, by simp [InK]⟩
  simp only [InK]; omega
set_option maxHeartbeats 4000000 in
theorem least_at {w : List Int} {n : Nat} (h : Word w n) (hn : n ≤ 10) : FnAt Try.prog false 45 [curveT n w] (.tup [.lit (.int .i64 (leastT n w).1), .st true (.arr (.int .i64) (leastT n w).2)]) [] := by
  have hp := h.pos
  obtain ⟨N, hN⟩ : ∃ N : Nat, N = 2 ^ n := ⟨_, rfl⟩
  have hNb := pow_le hn
  rw [← hN] at hNb
  have hNi : (1 : Int) * 2 ^ (n : Int).toNat = (N : Int) := by rw [hN, Int.toNat_natCast, Int.one_mul]; norm_cast
  have hg := fun k => genus_at h hn (sgT_signs (n := n) (k := k))
  have hrg := fun k => genus_rg (w := w) (s := sgT n k) hn
  obtain ⟨L, hL⟩ : ∃ L : Nat → Int × List Int, L = leastK n w := ⟨_, rfl⟩
  have hLT : L N = leastT n w := by rw [hL, hN]; rfl
  have hL0 : L 0 = (0, []) := by rw [hL]; rfl
  have hLy : ∀ k, (L k).2 = [] ∨ genusT n w (sgT n k) < (L k).1 → L (k + 1) = (genusT n w (sgT n k), sgT n k) := by rw [hL]; exact fun k => leastK_yes
  have hLn : ∀ k, ¬ ((L k).2 = [] ∨ genusT n w (sgT n k) < (L k).1) → L (k + 1) = L k := by rw [hL]; exact fun k => leastK_no
  rw [← hLT]
  clear hL hLT
  have hsh : 0 ≤ (n : Int) ∧ (n : Int).toNat ≤ IntKind.i64.bits ∧ InK .i64 (1 * 2 ^ (n : Int).toNat) := ⟨by omega, by show _ ≤ 64; omega, by rw [hNi]; simp only [InK]; omega⟩
  refine FnAt.of_body tys_ok Try.func45 (by rfl) rfl Try.ntmps45 (by rw [Try.results45]) (by simp) ?_
  
  repeat' (first
 | refine W.seq ?_
 | refine W.block ?_
 | (refine W.region tys_ok [] ?_; conv => whnf)
 | (refine W.drawAll tys_ok [] mixed rfl ?_; conv => whnf)
 | (refine W.ret ?_; conv => whnf)
 | (refine W.skip ?_; conv => whnf)
 | (refine W.exit ?_; conv => whnf)

    | (refine W.cond rfl (fun hb => ?_) (fun hb => ?_) <;> (try simp only [Int.reduceToNat, Int.reduceTDiv, Int.reduceTMod, minL, maxL, pickB, zHB] at hb) <;> (try (first | (cases hb; done) | exact absurd hb (by decide) | (exfalso; omega))))
    | ((with_reducible refine And.intro ?_ ?_); (focus ((repeat' (first | (with_reducible rfl) | (with_reducible refine And.intro ?_ ?_) | omega | rfl | exact Or.inl rfl | exact Or.inr rfl | exact of_decide_eq_true rfl | exact Path.imp_of (of_decide_eq_true rfl) | (focus ((try simp only [Int.reduceToNat, Int.reduceTDiv, Int.reduceTMod, minL, maxL, pickB, zHB, InK, Path.imp, List.length_replicate, List.length_set, List.length_append, List.length_cons, List.length_nil] at *); omega)) | (refine app_le rfl ?_; omega))); done)); (conv => whnf))
    | ((with_reducible refine And.intro (Side.out ?_) ?_); rotate_left; (conv => whnf))
    | (refine retF1 ?_ <;> (conv => whnf) <;> repeat' (first
 | exact trivial
 | (with_reducible rfl)
 | ((with_reducible refine And.intro ?_ ?_) <;> conv => whnf)
 | omega
 | rfl
 | (refine congrArg (SV.arr _) ?_)
 | (refine congrArg (Value.int _) ?_)
 | (refine congrArg Value.bool ?_)))
 | (refine retF2 ?_ <;> (conv => whnf) <;> repeat' (first
 | exact trivial
 | (with_reducible rfl)
 | ((with_reducible refine And.intro ?_ ?_) <;> conv => whnf)
 | omega
 | rfl
 | (refine congrArg (SV.arr _) ?_)
 | (refine congrArg (Value.int _) ?_)
 | (refine congrArg Value.bool ?_)))); all_goals (try unfold Side)
  all_goals try exact Path.imp_of hsh
  all_goals try (repeat' (first | (with_reducible rfl) | (with_reducible refine And.intro ?_ ?_) | omega | rfl | exact Or.inl rfl | exact Or.inr rfl | exact of_decide_eq_true rfl | exact Path.imp_of (of_decide_eq_true rfl) | (focus ((try simp only [Int.reduceToNat, Int.reduceTDiv, Int.reduceTMod, minL, maxL, pickB, zHB, InK, Path.imp, List.length_replicate, List.length_set, List.length_append, List.length_cons, List.length_nil] at *); omega)) | (refine app_le rfl ?_; omega)))
  refine W.loop (fun k : Nat => ⟨[(0, .st false (curveT n w)), (4, .st true (.narr (.int .i64) ((L k).2 : List Int))), (5, .lit (.int .i64 ((L k).1))), (6, .lit (.int .i64 ((N : Int) - 1 - k)))], []⟩) (fun k => k ≤ N) (fun k => N - k) (0) ?_ ?_
  · refine ⟨Nat.zero_le _, ?_⟩
    refine subF.ok ?_ <;> (conv => whnf) <;> repeat' (first
 | exact trivial
 | (with_reducible rfl)
 | ((with_reducible refine And.intro ?_ ?_) <;> conv => whnf)
 | omega
 | rfl
 | (refine congrArg (SV.arr _) ?_)
 | (refine congrArg (Value.int _) ?_)
 | (refine congrArg Value.bool ?_))
    all_goals first | exact congrArg Prod.snd hL0 | exact (congrArg Prod.fst hL0).symm | (rw [hNi]; omega)
  · intro k hk
    by_cases hil : k < N
    · repeat' (first
 | refine W.seq ?_
 | refine W.block ?_
 | (refine W.region tys_ok [] ?_; conv => whnf)
 | (refine W.drawAll tys_ok [] mixed rfl ?_; conv => whnf)
 | (refine W.ret ?_; conv => whnf)
 | (refine W.skip ?_; conv => whnf)
 | (refine W.exit ?_; conv => whnf)

    | (refine W.cond rfl (fun hb => ?_) (fun hb => ?_) <;> (try simp only [Int.reduceToNat, Int.reduceTDiv, Int.reduceTMod, minL, maxL, pickB, zHB] at hb) <;> (try (first | (cases hb; done) | exact absurd hb (by decide) | (exfalso; omega))))
    | ((with_reducible refine And.intro ?_ ?_); (focus ((repeat' (first | (with_reducible rfl) | (with_reducible refine And.intro ?_ ?_) | omega | rfl | exact Or.inl rfl | exact Or.inr rfl | exact of_decide_eq_true rfl | exact Path.imp_of (of_decide_eq_true rfl) | (focus ((try simp only [Int.reduceToNat, Int.reduceTDiv, Int.reduceTMod, minL, maxL, pickB, zHB, InK, Path.imp, List.length_replicate, List.length_set, List.length_append, List.length_cons, List.length_nil] at *); omega)) | (refine app_le rfl ?_; omega))); done)); (conv => whnf))
    | ((with_reducible refine And.intro (Side.out ?_) ?_); rotate_left; (conv => whnf))
    | (refine retF1 ?_ <;> (conv => whnf) <;> repeat' (first
 | exact trivial
 | (with_reducible rfl)
 | ((with_reducible refine And.intro ?_ ?_) <;> conv => whnf)
 | omega
 | rfl
 | (refine congrArg (SV.arr _) ?_)
 | (refine congrArg (Value.int _) ?_)
 | (refine congrArg Value.bool ?_)))
 | (refine retF2 ?_ <;> (conv => whnf) <;> repeat' (first
 | exact trivial
 | (with_reducible rfl)
 | ((with_reducible refine And.intro ?_ ?_) <;> conv => whnf)
 | omega
 | rfl
 | (refine congrArg (SV.arr _) ?_)
 | (refine congrArg (Value.int _) ?_)
 | (refine congrArg Value.bool ?_)))); all_goals (try unfold Side)
      all_goals try (repeat' (first | (with_reducible rfl) | (with_reducible refine And.intro ?_ ?_) | omega | rfl | exact Or.inl rfl | exact Or.inr rfl | exact of_decide_eq_true rfl | exact Path.imp_of (of_decide_eq_true rfl) | (focus ((try simp only [Int.reduceToNat, Int.reduceTDiv, Int.reduceTMod, minL, maxL, pickB, zHB, InK, Path.imp, List.length_replicate, List.length_set, List.length_append, List.length_cons, List.length_nil] at *); omega)) | (refine app_le rfl ?_; omega)))
      refine W.loop (fun i : Nat => ⟨[(0, .st false (curveT n w)), (4, .st true (.narr (.int .i64) ((L k).2 : List Int))), (5, .lit (.int .i64 ((L k).1))), (6, .lit (.int .i64 ((N : Int) - 1 - k))), (7, .own 900007), (23, .lit (.int .i64 (n))), (24, .lit (.int .i64 (i)))], [(900007, .row 3 (.int .i64) true ((sgT n k).take i : List Int))]⟩) (fun i => i ≤ n) (fun i => n - i) (0) ?_ ?_
      · refine ⟨Nat.zero_le _, ?_⟩
        refine subF.ok ?_ <;> (conv => whnf) <;> repeat' (first
 | exact trivial
 | (with_reducible rfl)
 | ((with_reducible refine And.intro ?_ ?_) <;> conv => whnf)
 | omega
 | rfl
 | (refine congrArg (SV.arr _) ?_)
 | (refine congrArg (Value.int _) ?_)
 | (refine congrArg Value.bool ?_))
      · intro i hi
        have hsl : @List.length (Ty.int .i64).T ((sgT n k).take i) ≤ i := by
          show ((sgT n k).take i).length ≤ i
          rw [List.length_take]; omega
        by_cases hin : i < n
        · obtain ⟨e, f0, f1, f2, f3, f4, f5⟩ := sgp hN hil hin hn
          have htk' : (sgT n k).take i ++ [(((((N : Int) - 1 - k) / 2 ^ ((n : Int) - 1 - i).toNat).toNat &&& Int.toNat 1 : Nat) : Int) * 2 - 1] = (sgT n k).take (i + 1) := by rw [sgT_take hin, f0, f3]
          repeat' (first
 | refine W.seq ?_
 | refine W.block ?_
 | (refine W.region tys_ok [] ?_; conv => whnf)
 | (refine W.drawAll tys_ok [] mixed rfl ?_; conv => whnf)
 | (refine W.ret ?_; conv => whnf)
 | (refine W.skip ?_; conv => whnf)
 | (refine W.exit ?_; conv => whnf)

    | (refine W.cond rfl (fun hb => ?_) (fun hb => ?_) <;> (try simp only [Int.reduceToNat, Int.reduceTDiv, Int.reduceTMod, minL, maxL, pickB, zHB] at hb) <;> (try (first | (cases hb; done) | exact absurd hb (by decide) | (exfalso; omega))))
    | ((with_reducible refine And.intro ?_ ?_); (focus ((repeat' (first | (with_reducible rfl) | (with_reducible refine And.intro ?_ ?_) | omega | rfl | exact Or.inl rfl | exact Or.inr rfl | exact of_decide_eq_true rfl | exact Path.imp_of (of_decide_eq_true rfl) | (focus ((try simp only [Int.reduceToNat, Int.reduceTDiv, Int.reduceTMod, minL, maxL, pickB, zHB, InK, Path.imp, List.length_replicate, List.length_set, List.length_append, List.length_cons, List.length_nil] at *); omega)) | (refine app_le rfl ?_; omega))); done)); (conv => whnf))
    | ((with_reducible refine And.intro (Side.out ?_) ?_); rotate_left; (conv => whnf))
    | (refine retF1 ?_ <;> (conv => whnf) <;> repeat' (first
 | exact trivial
 | (with_reducible rfl)
 | ((with_reducible refine And.intro ?_ ?_) <;> conv => whnf)
 | omega
 | rfl
 | (refine congrArg (SV.arr _) ?_)
 | (refine congrArg (Value.int _) ?_)
 | (refine congrArg Value.bool ?_)))
 | (refine retF2 ?_ <;> (conv => whnf) <;> repeat' (first
 | exact trivial
 | (with_reducible rfl)
 | ((with_reducible refine And.intro ?_ ?_) <;> conv => whnf)
 | omega
 | rfl
 | (refine congrArg (SV.arr _) ?_)
 | (refine congrArg (Value.int _) ?_)
 | (refine congrArg Value.bool ?_)))); all_goals (try unfold Side)
          all_goals try exact Path.imp_of f4
          all_goals try exact Path.imp_of f5
          all_goals try exact app_le rfl (Nat.le_trans (Nat.succ_le_succ hsl) (by omega))
          all_goals try (rw [f0])
          all_goals try (repeat' (first | (with_reducible rfl) | (with_reducible refine And.intro ?_ ?_) | omega | rfl | exact Or.inl rfl | exact Or.inr rfl | exact of_decide_eq_true rfl | exact Path.imp_of (of_decide_eq_true rfl) | (focus ((try simp only [Int.reduceToNat, Int.reduceTDiv, Int.reduceTMod, minL, maxL, pickB, zHB, InK, Path.imp, List.length_replicate, List.length_set, List.length_append, List.length_cons, List.length_nil] at *); omega)) | (refine app_le rfl ?_; omega)))
          refine ⟨i + 1, ⟨by omega, by omega⟩, ?_⟩
          refine subF.ok ?_ <;> (conv => whnf) <;> repeat' (first
 | exact trivial
 | (with_reducible rfl)
 | ((with_reducible refine And.intro ?_ ?_) <;> conv => whnf)
 | omega
 | rfl
 | (refine congrArg (SV.arr _) ?_)
 | (refine congrArg (Value.int _) ?_)
 | (refine congrArg Value.bool ?_))
          all_goals first | exact htk' | (refine Eq.trans ?_ htk'; rw [f0]; rfl)
        · have hie : n = i := by omega
          subst hie
          have hta : (sgT n k).take n = sgT n k := List.take_of_length_le (Nat.le_of_eq sgT_len)
          have hgk := hg k
          have hne : ∀ x : List Int, x = sgT n k → x ≠ [] := fun x e h0 => by
            have := sgT_len (n := n) (k := k)
            rw [← e, h0] at this; simp at this; omega
          repeat' (first
 | refine W.seq ?_
 | refine W.block ?_
 | (refine W.resub (x := Code.region 12 _ _) (Γ' := ⟨[(0, .st false (curveT n w)), (4, .st true (.narr (.int .i64) ((L k).2 : List Int))), (5, .lit (.int .i64 ((L k).1))), (6, .lit (.int .i64 ((N : Int) - 1 - k))), (7, .st true (.arr (.int .i64) (sgT n k : List Int)))], []⟩) ?_ (W.region tys_ok [] ?_); rotate_left; (conv => whnf))
 | (refine W.region tys_ok [] ?_; conv => whnf)
 | (refine W.drawAll tys_ok [] mixed rfl ?_; conv => whnf)
 | (refine W.ret ?_; conv => whnf)
 | (refine W.skip ?_; conv => whnf)
 | (refine W.exit ?_; conv => whnf)
 | (refine call_at (al := false) (hgk) rfl rfl rfl rfl ?_; conv => whnf)

    | (refine W.cond rfl (fun hb => ?_) (fun hb => ?_) <;> (try simp only [Int.reduceToNat, Int.reduceTDiv, Int.reduceTMod, minL, maxL, pickB, zHB] at hb) <;> (try (first | (cases hb; done) | exact absurd hb (by decide) | (exfalso; omega))))
    | ((with_reducible refine And.intro ?_ ?_); (focus ((repeat' (first | (with_reducible rfl) | (with_reducible refine And.intro ?_ ?_) | omega | rfl | exact Or.inl rfl | exact Or.inr rfl | exact of_decide_eq_true rfl | exact Path.imp_of (of_decide_eq_true rfl) | (focus ((try simp only [Int.reduceToNat, Int.reduceTDiv, Int.reduceTMod, minL, maxL, pickB, zHB, InK, Path.imp, List.length_replicate, List.length_set, List.length_append, List.length_cons, List.length_nil] at *); omega)) | (refine app_le rfl ?_; omega))); done)); (conv => whnf))
    | ((with_reducible refine And.intro (Side.out ?_) ?_); rotate_left; (conv => whnf))
    | (refine retF1 ?_ <;> (conv => whnf) <;> repeat' (first
 | exact trivial
 | (with_reducible rfl)
 | ((with_reducible refine And.intro ?_ ?_) <;> conv => whnf)
 | omega
 | rfl
 | (refine congrArg (SV.arr _) ?_)
 | (refine congrArg (Value.int _) ?_)
 | (refine congrArg Value.bool ?_)))
 | (refine retF2 ?_ <;> (conv => whnf) <;> repeat' (first
 | exact trivial
 | (with_reducible rfl)
 | ((with_reducible refine And.intro ?_ ?_) <;> conv => whnf)
 | omega
 | rfl
 | (refine congrArg (SV.arr _) ?_)
 | (refine congrArg (Value.int _) ?_)
 | (refine congrArg Value.bool ?_)))); all_goals (try unfold Side)
          all_goals try (repeat' (first | (with_reducible rfl) | (with_reducible refine And.intro ?_ ?_) | omega | rfl | exact Or.inl rfl | exact Or.inr rfl | exact of_decide_eq_true rfl | exact Path.imp_of (of_decide_eq_true rfl) | (focus ((try simp only [Int.reduceToNat, Int.reduceTDiv, Int.reduceTMod, minL, maxL, pickB, zHB, InK, Path.imp, List.length_replicate, List.length_set, List.length_append, List.length_cons, List.length_nil] at *); omega)) | (refine app_le rfl ?_; omega)))
          · refine ⟨k + 1, ⟨by omega, by omega⟩, ?_⟩
            rw [hLy k (hb.imp (fun h => List.isEmpty_iff.1 h) id)]
            refine subF.ok ?_ <;> (conv => whnf) <;> repeat' (first
 | exact trivial
 | (with_reducible rfl)
 | ((with_reducible refine And.intro ?_ ?_) <;> conv => whnf)
 | omega
 | rfl
 | (refine congrArg (SV.arr _) ?_)
 | (refine congrArg (Value.int _) ?_)
 | (refine congrArg Value.bool ?_))
            all_goals exact hne _ rfl
          · refine ⟨k + 1, ⟨by omega, by omega⟩, ?_⟩
            rw [hLn k (fun h => h.elim (fun h => by rw [h] at hb; exact absurd hb.1 (by decide)) hb.2)]
            refine subF.ok ?_ <;> (conv => whnf) <;> repeat' (first
 | exact trivial
 | (with_reducible rfl)
 | ((with_reducible refine And.intro ?_ ?_) <;> conv => whnf)
 | omega
 | rfl
 | (refine congrArg (SV.arr _) ?_)
 | (refine congrArg (Value.int _) ?_)
 | (refine congrArg Value.bool ?_))
          · refine subF.ok ?_ <;> (conv => whnf) <;> repeat' (first
 | exact trivial
 | (with_reducible rfl)
 | ((with_reducible refine And.intro ?_ ?_) <;> conv => whnf)
 | omega
 | rfl
 | (refine congrArg (SV.arr _) ?_)
 | (refine congrArg (Value.int _) ?_)
 | (refine congrArg Value.bool ?_))
            all_goals exact hta
    · have hie : N = k := by omega
      subst hie
      repeat' (first
 | refine W.seq ?_
 | refine W.block ?_
 | (refine W.region tys_ok [] ?_; conv => whnf)
 | (refine W.drawAll tys_ok [] mixed rfl ?_; conv => whnf)
 | (refine W.ret ?_; conv => whnf)
 | (refine W.skip ?_; conv => whnf)
 | (refine W.exit ?_; conv => whnf)

    | (refine W.cond rfl (fun hb => ?_) (fun hb => ?_) <;> (try simp only [Int.reduceToNat, Int.reduceTDiv, Int.reduceTMod, minL, maxL, pickB, zHB] at hb) <;> (try (first | (cases hb; done) | exact absurd hb (by decide) | (exfalso; omega))))
    | ((with_reducible refine And.intro ?_ ?_); (focus ((repeat' (first | (with_reducible rfl) | (with_reducible refine And.intro ?_ ?_) | omega | rfl | exact Or.inl rfl | exact Or.inr rfl | exact of_decide_eq_true rfl | exact Path.imp_of (of_decide_eq_true rfl) | (focus ((try simp only [Int.reduceToNat, Int.reduceTDiv, Int.reduceTMod, minL, maxL, pickB, zHB, InK, Path.imp, List.length_replicate, List.length_set, List.length_append, List.length_cons, List.length_nil] at *); omega)) | (refine app_le rfl ?_; omega))); done)); (conv => whnf))
    | ((with_reducible refine And.intro (Side.out ?_) ?_); rotate_left; (conv => whnf))
    | (refine retF1 ?_ <;> (conv => whnf) <;> repeat' (first
 | exact trivial
 | (with_reducible rfl)
 | ((with_reducible refine And.intro ?_ ?_) <;> conv => whnf)
 | omega
 | rfl
 | (refine congrArg (SV.arr _) ?_)
 | (refine congrArg (Value.int _) ?_)
 | (refine congrArg Value.bool ?_)))
 | (refine retF2 ?_ <;> (conv => whnf) <;> repeat' (first
 | exact trivial
 | (with_reducible rfl)
 | ((with_reducible refine And.intro ?_ ?_) <;> conv => whnf)
 | omega
 | rfl
 | (refine congrArg (SV.arr _) ?_)
 | (refine congrArg (Value.int _) ?_)
 | (refine congrArg Value.bool ?_)))); all_goals (try unfold Side)
      all_goals try (repeat' (first | (with_reducible rfl) | (with_reducible refine And.intro ?_ ?_) | omega | rfl | exact Or.inl rfl | exact Or.inr rfl | exact of_decide_eq_true rfl | exact Path.imp_of (of_decide_eq_true rfl) | (focus ((try simp only [Int.reduceToNat, Int.reduceTDiv, Int.reduceTMod, minL, maxL, pickB, zHB, InK, Path.imp, List.length_replicate, List.length_set, List.length_append, List.length_cons, List.length_nil] at *); omega)) | (refine app_le rfl ?_; omega)))
end Go.Proofs.Ytdfajcfkdfjoeaa
/- Least, Plane, Interlaced, and what lives asks. No condition. -/
namespace Go.Proofs.Ytdfajcfkdfjoeaa
open Go Go.Vc Go.Scr
set_option linter.unusedVariables false
set_option linter.unusedSimpArgs false

theorem Least_ok {w : List Int} {n : Nat} (h : Word w n) (hn : n ≤ 10) : FnAt Try.prog false 21 [.arr (.int .i64) w] (.tup [.lit (.int .i64 (leastT n w).1), .st true (.arr (.int .i64) (leastT n w).2), .lit (.int .i64 0)]) [] := by
  refine FnAt.of_body tys_ok Try.func21 (by rfl) rfl Try.ntmps21 (by rw [Try.results21]) (by simp) ?_
  
  repeat' (first
 | refine W.seq ?_
 | refine W.block ?_
 | (refine W.region tys_ok [] ?_; conv => whnf)
 | (refine W.drawAll tys_ok [] mixed rfl ?_; conv => whnf)
 | (refine W.ret ?_; conv => whnf)
 | (refine W.skip ?_; conv => whnf)
 | (refine W.exit ?_; conv => whnf)
 | (refine call_at (al := true) (read_ok h hn) rfl rfl rfl rfl ?_; conv => whnf)
 | (refine call_at (al := false) (least_at h hn) rfl rfl rfl rfl ?_; conv => whnf)

    | (refine W.cond rfl (fun hb => ?_) (fun hb => ?_) <;> (try simp only [Int.reduceToNat, Int.reduceTDiv, Int.reduceTMod, minL, maxL, pickB, zHB] at hb) <;> (try (first | (cases hb; done) | exact absurd hb (by decide) | (exfalso; omega))))
    | ((with_reducible refine And.intro ?_ ?_); (focus ((repeat' (first | (with_reducible rfl) | (with_reducible refine And.intro ?_ ?_) | omega | rfl | exact Or.inl rfl | exact Or.inr rfl | exact of_decide_eq_true rfl | exact Path.imp_of (of_decide_eq_true rfl) | (focus ((try simp only [Int.reduceToNat, Int.reduceTDiv, Int.reduceTMod, minL, maxL, pickB, zHB, InK, Path.imp, List.length_replicate, List.length_set, List.length_append, List.length_cons, List.length_nil] at *); omega)) | (refine app_le rfl ?_; omega))); done)); (conv => whnf))
    | ((with_reducible refine And.intro (Side.out ?_) ?_); rotate_left; (conv => whnf))
    | (refine retF1 ?_ <;> (conv => whnf) <;> repeat' (first
 | exact trivial
 | (with_reducible rfl)
 | ((with_reducible refine And.intro ?_ ?_) <;> conv => whnf)
 | omega
 | rfl
 | (refine congrArg (SV.arr _) ?_)
 | (refine congrArg (Value.int _) ?_)
 | (refine congrArg Value.bool ?_)))
 | (refine retF2 ?_ <;> (conv => whnf) <;> repeat' (first
 | exact trivial
 | (with_reducible rfl)
 | ((with_reducible refine And.intro ?_ ?_) <;> conv => whnf)
 | omega
 | rfl
 | (refine congrArg (SV.arr _) ?_)
 | (refine congrArg (Value.int _) ?_)
 | (refine congrArg Value.bool ?_)))); all_goals (try unfold Side)
  all_goals try (repeat' (first | (with_reducible rfl) | (with_reducible refine And.intro ?_ ?_) | omega | rfl | exact Or.inl rfl | exact Or.inr rfl | exact of_decide_eq_true rfl | exact Path.imp_of (of_decide_eq_true rfl) | (focus ((try simp only [Int.reduceToNat, Int.reduceTDiv, Int.reduceTMod, minL, maxL, pickB, zHB, InK, Path.imp, List.length_replicate, List.length_set, List.length_append, List.length_cons, List.length_nil] at *); omega)) | (refine app_le rfl ?_; omega)))
theorem Least_no {w : List Int} (h : ¬ checkT w = 0) (hl : w.length ≤ 1000) : FnAt Try.prog false 21 [.arr (.int .i64) w] (.tup [.lit (.int .i64 0), .own 0, .lit (.int .i64 (checkT w))]) [(0, .row 3 (.int .i64) true [])] := by
  refine FnAt.of_body tys_ok Try.func21 (by rfl) rfl Try.ntmps21 (by rw [Try.results21]) (by simp) ?_
  
  repeat' (first
 | refine W.seq ?_
 | refine W.block ?_
 | (refine W.region tys_ok [] ?_; conv => whnf)
 | (refine W.drawAll tys_ok [] mixed rfl ?_; conv => whnf)
 | (refine W.ret ?_; conv => whnf)
 | (refine W.skip ?_; conv => whnf)
 | (refine W.exit ?_; conv => whnf)
 | (refine call_at (al := true) (read_bad h hl) rfl rfl rfl rfl ?_; conv => whnf)

    | (refine W.cond rfl (fun hb => ?_) (fun hb => ?_) <;> (try simp only [Int.reduceToNat, Int.reduceTDiv, Int.reduceTMod, minL, maxL, pickB, zHB] at hb) <;> (try (first | (cases hb; done) | exact absurd hb (by decide) | (exfalso; omega))))
    | ((with_reducible refine And.intro ?_ ?_); (focus ((repeat' (first | (with_reducible rfl) | (with_reducible refine And.intro ?_ ?_) | omega | rfl | exact Or.inl rfl | exact Or.inr rfl | exact of_decide_eq_true rfl | exact Path.imp_of (of_decide_eq_true rfl) | (focus ((try simp only [Int.reduceToNat, Int.reduceTDiv, Int.reduceTMod, minL, maxL, pickB, zHB, InK, Path.imp, List.length_replicate, List.length_set, List.length_append, List.length_cons, List.length_nil] at *); omega)) | (refine app_le rfl ?_; omega))); done)); (conv => whnf))
    | ((with_reducible refine And.intro (Side.out ?_) ?_); rotate_left; (conv => whnf))
    | (refine retF1 ?_ <;> (conv => whnf) <;> repeat' (first
 | exact trivial
 | (with_reducible rfl)
 | ((with_reducible refine And.intro ?_ ?_) <;> conv => whnf)
 | omega
 | rfl
 | (refine congrArg (SV.arr _) ?_)
 | (refine congrArg (Value.int _) ?_)
 | (refine congrArg Value.bool ?_)))
 | (refine retF2 ?_ <;> (conv => whnf) <;> repeat' (first
 | exact trivial
 | (with_reducible rfl)
 | ((with_reducible refine And.intro ?_ ?_) <;> conv => whnf)
 | omega
 | rfl
 | (refine congrArg (SV.arr _) ?_)
 | (refine congrArg (Value.int _) ?_)
 | (refine congrArg Value.bool ?_)))); all_goals (try unfold Side)
  all_goals try (repeat' (first | (with_reducible rfl) | (with_reducible refine And.intro ?_ ?_) | omega | rfl | exact Or.inl rfl | exact Or.inr rfl | exact of_decide_eq_true rfl | exact Path.imp_of (of_decide_eq_true rfl) | (focus ((try simp only [Int.reduceToNat, Int.reduceTDiv, Int.reduceTMod, minL, maxL, pickB, zHB, InK, Path.imp, List.length_replicate, List.length_set, List.length_append, List.length_cons, List.length_nil] at *); omega)) | (refine app_le rfl ?_; omega)))
theorem Plane_ok {w : List Int} {n : Nat} (h : Word w n) (hn : n ≤ 10) (hg : (leastT n w).1 = 0) : FnAt Try.prog false 16 [.arr (.int .i64) w] (.tup [.st true (.arr (.int .i64) (leastT n w).2), .lit (.int .i64 0)]) [] := by
  refine FnAt.of_body tys_ok Try.func16 (by rfl) rfl Try.ntmps16 (by rw [Try.results16]) (by simp) ?_
  
  repeat' (first
 | refine W.seq ?_
 | refine W.block ?_
 | (refine W.region tys_ok [] ?_; conv => whnf)
 | (refine W.drawAll tys_ok [] mixed rfl ?_; conv => whnf)
 | (refine W.ret ?_; conv => whnf)
 | (refine W.skip ?_; conv => whnf)
 | (refine W.exit ?_; conv => whnf)
 | (refine call_at (al := true) (read_ok h hn) rfl rfl rfl rfl ?_; conv => whnf)
 | (refine call_at (al := false) (least_at h hn) rfl rfl rfl rfl ?_; conv => whnf)

    | (refine W.cond rfl (fun hb => ?_) (fun hb => ?_) <;> (try simp only [Int.reduceToNat, Int.reduceTDiv, Int.reduceTMod, minL, maxL, pickB, zHB] at hb) <;> (try (first | (cases hb; done) | exact absurd hb (by decide) | (exfalso; omega))))
    | ((with_reducible refine And.intro ?_ ?_); (focus ((repeat' (first | (with_reducible rfl) | (with_reducible refine And.intro ?_ ?_) | omega | rfl | exact Or.inl rfl | exact Or.inr rfl | exact of_decide_eq_true rfl | exact Path.imp_of (of_decide_eq_true rfl) | (focus ((try simp only [Int.reduceToNat, Int.reduceTDiv, Int.reduceTMod, minL, maxL, pickB, zHB, InK, Path.imp, List.length_replicate, List.length_set, List.length_append, List.length_cons, List.length_nil] at *); omega)) | (refine app_le rfl ?_; omega))); done)); (conv => whnf))
    | ((with_reducible refine And.intro (Side.out ?_) ?_); rotate_left; (conv => whnf))
    | (refine retF1 ?_ <;> (conv => whnf) <;> repeat' (first
 | exact trivial
 | (with_reducible rfl)
 | ((with_reducible refine And.intro ?_ ?_) <;> conv => whnf)
 | omega
 | rfl
 | (refine congrArg (SV.arr _) ?_)
 | (refine congrArg (Value.int _) ?_)
 | (refine congrArg Value.bool ?_)))
 | (refine retF2 ?_ <;> (conv => whnf) <;> repeat' (first
 | exact trivial
 | (with_reducible rfl)
 | ((with_reducible refine And.intro ?_ ?_) <;> conv => whnf)
 | omega
 | rfl
 | (refine congrArg (SV.arr _) ?_)
 | (refine congrArg (Value.int _) ?_)
 | (refine congrArg Value.bool ?_)))); all_goals (try unfold Side)
  all_goals try (repeat' (first | (with_reducible rfl) | (with_reducible refine And.intro ?_ ?_) | omega | rfl | exact Or.inl rfl | exact Or.inr rfl | exact of_decide_eq_true rfl | exact Path.imp_of (of_decide_eq_true rfl) | (focus ((try simp only [Int.reduceToNat, Int.reduceTDiv, Int.reduceTMod, minL, maxL, pickB, zHB, InK, Path.imp, List.length_replicate, List.length_set, List.length_append, List.length_cons, List.length_nil] at *); omega)) | (refine app_le rfl ?_; omega)))
theorem Plane_none {w : List Int} {n : Nat} (h : Word w n) (hn : n ≤ 10) (hg : ¬ (leastT n w).1 = 0) : FnAt Try.prog false 16 [.arr (.int .i64) w] (.tup [.own 0, .lit (.int .i64 5)]) [(0, .row 3 (.int .i64) true [])] := by
  refine FnAt.of_body tys_ok Try.func16 (by rfl) rfl Try.ntmps16 (by rw [Try.results16]) (by simp) ?_
  
  repeat' (first
 | refine W.seq ?_
 | refine W.block ?_
 | (refine W.region tys_ok [] ?_; conv => whnf)
 | (refine W.drawAll tys_ok [] mixed rfl ?_; conv => whnf)
 | (refine W.ret ?_; conv => whnf)
 | (refine W.skip ?_; conv => whnf)
 | (refine W.exit ?_; conv => whnf)
 | (refine call_at (al := true) (read_ok h hn) rfl rfl rfl rfl ?_; conv => whnf)
 | (refine call_at (al := false) (least_at h hn) rfl rfl rfl rfl ?_; conv => whnf)

    | (refine W.cond rfl (fun hb => ?_) (fun hb => ?_) <;> (try simp only [Int.reduceToNat, Int.reduceTDiv, Int.reduceTMod, minL, maxL, pickB, zHB] at hb) <;> (try (first | (cases hb; done) | exact absurd hb (by decide) | (exfalso; omega))))
    | ((with_reducible refine And.intro ?_ ?_); (focus ((repeat' (first | (with_reducible rfl) | (with_reducible refine And.intro ?_ ?_) | omega | rfl | exact Or.inl rfl | exact Or.inr rfl | exact of_decide_eq_true rfl | exact Path.imp_of (of_decide_eq_true rfl) | (focus ((try simp only [Int.reduceToNat, Int.reduceTDiv, Int.reduceTMod, minL, maxL, pickB, zHB, InK, Path.imp, List.length_replicate, List.length_set, List.length_append, List.length_cons, List.length_nil] at *); omega)) | (refine app_le rfl ?_; omega))); done)); (conv => whnf))
    | ((with_reducible refine And.intro (Side.out ?_) ?_); rotate_left; (conv => whnf))
    | (refine retF1 ?_ <;> (conv => whnf) <;> repeat' (first
 | exact trivial
 | (with_reducible rfl)
 | ((with_reducible refine And.intro ?_ ?_) <;> conv => whnf)
 | omega
 | rfl
 | (refine congrArg (SV.arr _) ?_)
 | (refine congrArg (Value.int _) ?_)
 | (refine congrArg Value.bool ?_)))
 | (refine retF2 ?_ <;> (conv => whnf) <;> repeat' (first
 | exact trivial
 | (with_reducible rfl)
 | ((with_reducible refine And.intro ?_ ?_) <;> conv => whnf)
 | omega
 | rfl
 | (refine congrArg (SV.arr _) ?_)
 | (refine congrArg (Value.int _) ?_)
 | (refine congrArg Value.bool ?_)))); all_goals (try unfold Side)
  all_goals try (repeat' (first | (with_reducible rfl) | (with_reducible refine And.intro ?_ ?_) | omega | rfl | exact Or.inl rfl | exact Or.inr rfl | exact of_decide_eq_true rfl | exact Path.imp_of (of_decide_eq_true rfl) | (focus ((try simp only [Int.reduceToNat, Int.reduceTDiv, Int.reduceTMod, minL, maxL, pickB, zHB, InK, Path.imp, List.length_replicate, List.length_set, List.length_append, List.length_cons, List.length_nil] at *); omega)) | (refine app_le rfl ?_; omega)))
theorem Plane_no {w : List Int} (h : ¬ checkT w = 0) (hl : w.length ≤ 1000) : FnAt Try.prog false 16 [.arr (.int .i64) w] (.tup [.own 0, .lit (.int .i64 (checkT w))]) [(0, .row 3 (.int .i64) true [])] := by
  refine FnAt.of_body tys_ok Try.func16 (by rfl) rfl Try.ntmps16 (by rw [Try.results16]) (by simp) ?_
  
  repeat' (first
 | refine W.seq ?_
 | refine W.block ?_
 | (refine W.region tys_ok [] ?_; conv => whnf)
 | (refine W.drawAll tys_ok [] mixed rfl ?_; conv => whnf)
 | (refine W.ret ?_; conv => whnf)
 | (refine W.skip ?_; conv => whnf)
 | (refine W.exit ?_; conv => whnf)
 | (refine call_at (al := true) (read_bad h hl) rfl rfl rfl rfl ?_; conv => whnf)

    | (refine W.cond rfl (fun hb => ?_) (fun hb => ?_) <;> (try simp only [Int.reduceToNat, Int.reduceTDiv, Int.reduceTMod, minL, maxL, pickB, zHB] at hb) <;> (try (first | (cases hb; done) | exact absurd hb (by decide) | (exfalso; omega))))
    | ((with_reducible refine And.intro ?_ ?_); (focus ((repeat' (first | (with_reducible rfl) | (with_reducible refine And.intro ?_ ?_) | omega | rfl | exact Or.inl rfl | exact Or.inr rfl | exact of_decide_eq_true rfl | exact Path.imp_of (of_decide_eq_true rfl) | (focus ((try simp only [Int.reduceToNat, Int.reduceTDiv, Int.reduceTMod, minL, maxL, pickB, zHB, InK, Path.imp, List.length_replicate, List.length_set, List.length_append, List.length_cons, List.length_nil] at *); omega)) | (refine app_le rfl ?_; omega))); done)); (conv => whnf))
    | ((with_reducible refine And.intro (Side.out ?_) ?_); rotate_left; (conv => whnf))
    | (refine retF1 ?_ <;> (conv => whnf) <;> repeat' (first
 | exact trivial
 | (with_reducible rfl)
 | ((with_reducible refine And.intro ?_ ?_) <;> conv => whnf)
 | omega
 | rfl
 | (refine congrArg (SV.arr _) ?_)
 | (refine congrArg (Value.int _) ?_)
 | (refine congrArg Value.bool ?_)))
 | (refine retF2 ?_ <;> (conv => whnf) <;> repeat' (first
 | exact trivial
 | (with_reducible rfl)
 | ((with_reducible refine And.intro ?_ ?_) <;> conv => whnf)
 | omega
 | rfl
 | (refine congrArg (SV.arr _) ?_)
 | (refine congrArg (Value.int _) ?_)
 | (refine congrArg Value.bool ?_)))); all_goals (try unfold Side)
  all_goals try (repeat' (first | (with_reducible rfl) | (with_reducible refine And.intro ?_ ?_) | omega | rfl | exact Or.inl rfl | exact Or.inr rfl | exact of_decide_eq_true rfl | exact Path.imp_of (of_decide_eq_true rfl) | (focus ((try simp only [Int.reduceToNat, Int.reduceTDiv, Int.reduceTMod, minL, maxL, pickB, zHB, InK, Path.imp, List.length_replicate, List.length_set, List.length_append, List.length_cons, List.length_nil] at *); omega)) | (refine app_le rfl ?_; omega)))

theorem word3 : Word [0, 1, 2, 0, 1, 2] 3 := word_of rfl (by decide) (by decide)
theorem word2 : Word [0, 1, 0, 1] 2 := word_of rfl (by decide) (by decide)
theorem word1 : Word [0, 0] 1 := word_of rfl (by decide) (by decide)
theorem least3 : leastT 3 [0, 1, 2, 0, 1, 2] = (0, [1, -1, 1]) := by decide +kernel
theorem least2 : (leastT 2 [0, 1, 0, 1]).1 = 1 := by decide +kernel
theorem faces1 : (facesT (nextT [0, 0] [1]) 2).length = 3 := by decide +kernel
theorem lives_1 : FnAt Try.prog false 16 [.arr (.int .i64) ([0, 1, 2, 0, 1, 2] : List Int)] (.tup [.st true (.arr (.int .i64) ([1, -1, 1] : List Int)), .lit (.int .i64 0)]) [] := by
  have := Plane_ok word3 (by decide) (by rw [least3])
  rw [least3] at this
  exact this
theorem lives_2 : FnAt Try.prog false 16 [.arr (.int .i64) ([0, 1, 0, 1] : List Int)] (.tup [.own 0, .lit (.int .i64 5)]) [(0, .row 3 (.int .i64) true [])] :=
  Plane_none word2 (by decide) (by rw [least2]; decide)
theorem lives_3 : FnAt Try.prog false 23 [.arr (.int .i64) ([0, 0] : List Int), .arr (.int .i64) ([1] : List Int)] (.tup [.own 0, .lit (.int .i64 0)]) [(0, .row 22 (.sl (.int .i64)) true (facesT (nextT [0, 0] [1]) 2))] :=
  Faces_ok word1 (by decide) (by decide)
theorem lives_4 : ∃ s, FnAt Try.prog false 21 [.arr (.int .i64) ([0, 1, 0, 1] : List Int)] (.tup [.lit (.int .i64 1), .st true (.arr (.int .i64) s), .lit (.int .i64 0)]) [] := by
  have := Least_ok word2 (by decide)
  rw [least2] at this
  exact ⟨_, this⟩
theorem lives_at : FnAt Try.prog false 20 [] (.lit (.bool true)) [] := by
  obtain ⟨s, h4⟩ := lives_4
  have h3 := lives_3
  have hf := faces1
  obtain ⟨F, hF⟩ : ∃ F, F = facesT (nextT [0, 0] [1]) 2 := ⟨_, rfl⟩
  rw [← hF] at h3 hf
  have hf' : @List.length (Ty.sl (.int .i64)).T F = 3 := hf
  refine FnAt.of_body tys_ok Try.func20 (by rfl) rfl Try.ntmps20 (by rw [Try.results20]) (by simp) ?_
  
  repeat' (first
 | refine W.seq ?_
 | refine W.block ?_
 | (refine W.region tys_ok [] ?_; conv => whnf)
 | (refine W.drawAll tys_ok [] mixed rfl ?_; conv => whnf)
 | (refine W.ret ?_; conv => whnf)
 | (refine W.skip ?_; conv => whnf)
 | (refine W.exit ?_; conv => whnf)
 | (refine call_at (al := false) (lives_1) rfl rfl rfl rfl ?_; conv => whnf)
 | (refine call_at (al := false) (lives_2) rfl rfl rfl rfl ?_; conv => whnf)
 | (refine call_at (al := false) (h3) rfl rfl rfl rfl ?_; conv => whnf)
 | (refine call_at (al := false) (h4) rfl rfl rfl rfl ?_; conv => whnf)

    | (refine W.cond rfl (fun hb => ?_) (fun hb => ?_) <;> (try simp only [Int.reduceToNat, Int.reduceTDiv, Int.reduceTMod, minL, maxL, pickB, zHB] at hb) <;> (try (first | (cases hb; done) | exact absurd hb (by decide) | (exfalso; omega))))
    | ((with_reducible refine And.intro ?_ ?_); (focus ((repeat' (first | (with_reducible rfl) | (with_reducible refine And.intro ?_ ?_) | omega | rfl | exact Or.inl rfl | exact Or.inr rfl | exact of_decide_eq_true rfl | exact Path.imp_of (of_decide_eq_true rfl) | (focus ((try simp only [Int.reduceToNat, Int.reduceTDiv, Int.reduceTMod, minL, maxL, pickB, zHB, InK, Path.imp, List.length_replicate, List.length_set, List.length_append, List.length_cons, List.length_nil] at *); omega)) | (refine app_le rfl ?_; omega))); done)); (conv => whnf))
    | ((with_reducible refine And.intro (Side.out ?_) ?_); rotate_left; (conv => whnf))
    | (refine retF1 ?_ <;> (conv => whnf) <;> repeat' (first
 | exact trivial
 | (with_reducible rfl)
 | ((with_reducible refine And.intro ?_ ?_) <;> conv => whnf)
 | omega
 | rfl
 | (refine congrArg (SV.arr _) ?_)
 | (refine congrArg (Value.int _) ?_)
 | (refine congrArg Value.bool ?_)))
 | (refine retF2 ?_ <;> (conv => whnf) <;> repeat' (first
 | exact trivial
 | (with_reducible rfl)
 | ((with_reducible refine And.intro ?_ ?_) <;> conv => whnf)
 | omega
 | rfl
 | (refine congrArg (SV.arr _) ?_)
 | (refine congrArg (Value.int _) ?_)
 | (refine congrArg Value.bool ?_)))); all_goals (try unfold Side)
  all_goals try (repeat' (first | (with_reducible rfl) | (with_reducible refine And.intro ?_ ?_) | omega | rfl | exact Or.inl rfl | exact Or.inr rfl | exact of_decide_eq_true rfl | exact Path.imp_of (of_decide_eq_true rfl) | (focus ((try simp only [Int.reduceToNat, Int.reduceTDiv, Int.reduceTMod, minL, maxL, pickB, zHB, InK, Path.imp, List.length_replicate, List.length_set, List.length_append, List.length_cons, List.length_nil] at *); omega)) | (refine app_le rfl ?_; omega)))
end Go.Proofs.Ytdfajcfkdfjoeaa
/- The interlaced pairs; ScrollFaces and ScrollPairs. No condition. -/
namespace Go.Proofs.Ytdfajcfkdfjoeaa
open Go Go.Vc Go.Scr
set_option linter.unusedVariables false
set_option linter.unusedSimpArgs false

/-- The pairs of a and what is below b; of all below a. -/
@[reducible] def PairTy : Ty := .cons (.int .i64) (.cons (.int .i64) .nil)
def pr (a b : Nat) : PairTy.T := ((a : Int), (b : Int), ())
def rowP (w : List Int) (a : Nat) : Nat → List (Int × Int × Unit)
  | 0 => []
  | b + 1 => if a < b ∧ interT w a b = true then rowP w a b ++ [((a : Int), (b : Int), ())] else rowP w a b
def pairsK (w : List Int) (n : Nat) : Nat → List (Int × Int × Unit)
  | 0 => []
  | a + 1 => pairsK w n a ++ rowP w a n
theorem rowP_yes {w : List Int} {a b : Nat} (h : a < b) (h2 : interT w a b = true) : rowP w a (b + 1) = rowP w a b ++ [((a : Int), (b : Int), ())] := by rw [rowP, if_pos ⟨h, h2⟩]
theorem rowP_no {w : List Int} {a b : Nat} (h2 : interT w a b = false) : rowP w a (b + 1) = rowP w a b := by rw [rowP, if_neg (fun h => by rw [h2] at h; cases h.2)]
theorem rowP_low {w : List Int} {a : Nat} : ∀ {b : Nat}, b ≤ a + 1 → rowP w a b = []
  | 0, _ => rfl
  | b + 1, h => by rw [rowP, if_neg (fun h' => by omega), rowP_low (by omega)]
theorem rowP_len {w : List Int} {a : Nat} : ∀ {b : Nat}, (rowP w a b).length ≤ b
  | 0 => by simp [rowP]
  | b + 1 => by
    have := rowP_len (w := w) (a := a) (b := b)
    rw [rowP]; split
    · simp; omega
    · omega
theorem pairsK_len {w : List Int} {n : Nat} : ∀ {a : Nat}, (pairsK w n a).length ≤ n * a
  | 0 => by simp [pairsK]
  | a + 1 => by
    have h1 := pairsK_len (w := w) (n := n) (a := a)
    have h2 := rowP_len (w := w) (a := a) (b := n)
    rw [pairsK, List.length_append, Nat.mul_succ]; omega
set_option maxHeartbeats 2000000 in
theorem inters_ref {w : List Int} {n : Nat} (h : Word w n) (hn : n ≤ 10) : FnAt Try.prog false 31 [.arr (.int .i64) w] (.own 0) [(0, .row 54 PairTy true (pairsK w n n))] := by
  have hwl : @List.length (Ty.int .i64).T w = 2 * n := h.len
  have hd : Int.tdiv (@List.length (Ty.int .i64).T w) 2 = n := by rw [hwl, Int.tdiv_eq_ediv_of_nonneg (by omega)]; omega
  obtain ⟨K, hK⟩ : ∃ K : Nat → List PairTy.T, K = pairsK w n := ⟨_, rfl⟩
  have hK0 : K 0 = [] := by rw [hK]; rfl
  obtain ⟨R, hR⟩ : ∃ R : Nat → Nat → List PairTy.T, R = rowP w := ⟨_, rfl⟩
  have hKs : ∀ a, K (a + 1) = K a ++ R a n := fun a => by rw [hK, hR]; rfl
  have hKl : ∀ a, a ≤ n → (K a).length ≤ 100 := fun a ha => by
    rw [hK]
    have := pairsK_len (w := w) (n := n) (a := a)
    have := Nat.mul_le_mul hn (Nat.le_trans ha hn)
    have := Nat.mul_le_mul_left n ha
    have := Nat.mul_le_mul_left n hn
    exact Nat.le_trans (pairsK_len (w := w) (n := n) (a := a)) (by omega)
  have hRl : ∀ a b, (R a b).length ≤ b := fun a b => by rw [hR]; exact rowP_len
  have hRy : ∀ a b : Nat, a < b → interT w a b = true → R a (b + 1) = R a b ++ [pr a b] := fun a b h1 h2 => by rw [hR]; exact rowP_yes h1 h2
  have hRn : ∀ a b : Nat, interT w a b = false → R a (b + 1) = R a b := fun a b h2 => by rw [hR]; exact rowP_no h2
  have hR0 : ∀ a, R a (a + 1) = [] := fun a => by rw [hR]; exact rowP_low (Nat.le_refl _)
  have hKn : pairsK w n n = K n := by rw [hK]
  rw [hKn]
  clear hK hR hKn
  refine FnAt.of_body tys_ok Try.func31 (by rfl) rfl Try.ntmps31 (by rw [Try.results31]) (by simp) ?_
  
  repeat' (first
 | refine W.seq ?_
 | refine W.block ?_
 | (refine W.region tys_ok [] ?_; conv => whnf)
 | (refine W.drawAll tys_ok [] mixed rfl ?_; conv => whnf)
 | (refine W.ret ?_; conv => whnf)
 | (refine W.skip ?_; conv => whnf)
 | (refine W.exit ?_; conv => whnf)

    | (refine W.cond rfl (fun hb => ?_) (fun hb => ?_) <;> (try simp only [Int.reduceToNat, Int.reduceTDiv, Int.reduceTMod, minL, maxL, pickB, zHB] at hb) <;> (try (first | (cases hb; done) | exact absurd hb (by decide) | (exfalso; omega))))
    | ((with_reducible refine And.intro ?_ ?_); (focus ((repeat' (first | (with_reducible rfl) | (with_reducible refine And.intro ?_ ?_) | omega | rfl | exact Or.inl rfl | exact Or.inr rfl | exact of_decide_eq_true rfl | exact Path.imp_of (of_decide_eq_true rfl) | (focus ((try simp only [Int.reduceToNat, Int.reduceTDiv, Int.reduceTMod, minL, maxL, pickB, zHB, InK, Path.imp, List.length_replicate, List.length_set, List.length_append, List.length_cons, List.length_nil] at *); omega)) | (refine app_le rfl ?_; omega))); done)); (conv => whnf))
    | ((with_reducible refine And.intro (Side.out ?_) ?_); rotate_left; (conv => whnf))
    | (refine retF1 ?_ <;> (conv => whnf) <;> repeat' (first
 | exact trivial
 | (with_reducible rfl)
 | ((with_reducible refine And.intro ?_ ?_) <;> conv => whnf)
 | omega
 | rfl
 | (refine congrArg (SV.arr _) ?_)
 | (refine congrArg (Value.int _) ?_)
 | (refine congrArg Value.bool ?_)))
 | (refine retF2 ?_ <;> (conv => whnf) <;> repeat' (first
 | exact trivial
 | (with_reducible rfl)
 | ((with_reducible refine And.intro ?_ ?_) <;> conv => whnf)
 | omega
 | rfl
 | (refine congrArg (SV.arr _) ?_)
 | (refine congrArg (Value.int _) ?_)
 | (refine congrArg Value.bool ?_)))); all_goals (try unfold Side)
  all_goals try (repeat' (first | (with_reducible rfl) | (with_reducible refine And.intro ?_ ?_) | omega | rfl | exact Or.inl rfl | exact Or.inr rfl | exact of_decide_eq_true rfl | exact Path.imp_of (of_decide_eq_true rfl) | (focus ((try simp only [Int.reduceToNat, Int.reduceTDiv, Int.reduceTMod, minL, maxL, pickB, zHB, InK, Path.imp, List.length_replicate, List.length_set, List.length_append, List.length_cons, List.length_nil] at *); omega)) | (refine app_le rfl ?_; omega)))
  refine W.loop (fun a : Nat => ⟨[(0, .st false (.arr (.int .i64) (w : List Int))), (3, .own 900003), (4, .lit (.int .i64 (a)))], [(900003, .row 54 PairTy true (K a))]⟩) (fun a => a ≤ n) (fun a => n - a) (0) ?_ ?_
  · refine ⟨Nat.zero_le _, ?_⟩
    refine subF.ok ?_ <;> (conv => whnf) <;> repeat' (first
 | exact trivial
 | (with_reducible rfl)
 | ((with_reducible refine And.intro ?_ ?_) <;> conv => whnf)
 | omega
 | rfl
 | (refine congrArg (SV.arr _) ?_)
 | (refine congrArg (Value.int _) ?_)
 | (refine congrArg Value.bool ?_))
    all_goals exact hK0.symm
  · intro a ha
    have hla := hKl a ha
    by_cases hil : a < n
    · repeat' (first
 | refine W.seq ?_
 | refine W.block ?_
 | (refine W.region tys_ok [] ?_; conv => whnf)
 | (refine W.drawAll tys_ok [] mixed rfl ?_; conv => whnf)
 | (refine W.ret ?_; conv => whnf)
 | (refine W.skip ?_; conv => whnf)
 | (refine W.exit ?_; conv => whnf)

    | (refine W.cond rfl (fun hb => ?_) (fun hb => ?_) <;> (try simp only [Int.reduceToNat, Int.reduceTDiv, Int.reduceTMod, minL, maxL, pickB, zHB] at hb) <;> (try (first | (cases hb; done) | exact absurd hb (by decide) | (exfalso; omega))))
    | ((with_reducible refine And.intro ?_ ?_); (focus ((repeat' (first | (with_reducible rfl) | (with_reducible refine And.intro ?_ ?_) | omega | rfl | exact Or.inl rfl | exact Or.inr rfl | exact of_decide_eq_true rfl | exact Path.imp_of (of_decide_eq_true rfl) | (focus ((try simp only [Int.reduceToNat, Int.reduceTDiv, Int.reduceTMod, minL, maxL, pickB, zHB, InK, Path.imp, List.length_replicate, List.length_set, List.length_append, List.length_cons, List.length_nil] at *); omega)) | (refine app_le rfl ?_; omega))); done)); (conv => whnf))
    | ((with_reducible refine And.intro (Side.out ?_) ?_); rotate_left; (conv => whnf))
    | (refine retF1 ?_ <;> (conv => whnf) <;> repeat' (first
 | exact trivial
 | (with_reducible rfl)
 | ((with_reducible refine And.intro ?_ ?_) <;> conv => whnf)
 | omega
 | rfl
 | (refine congrArg (SV.arr _) ?_)
 | (refine congrArg (Value.int _) ?_)
 | (refine congrArg Value.bool ?_)))
 | (refine retF2 ?_ <;> (conv => whnf) <;> repeat' (first
 | exact trivial
 | (with_reducible rfl)
 | ((with_reducible refine And.intro ?_ ?_) <;> conv => whnf)
 | omega
 | rfl
 | (refine congrArg (SV.arr _) ?_)
 | (refine congrArg (Value.int _) ?_)
 | (refine congrArg Value.bool ?_)))); all_goals (try unfold Side)
      all_goals try (repeat' (first | (with_reducible rfl) | (with_reducible refine And.intro ?_ ?_) | omega | rfl | exact Or.inl rfl | exact Or.inr rfl | exact of_decide_eq_true rfl | exact Path.imp_of (of_decide_eq_true rfl) | (focus ((try simp only [Int.reduceToNat, Int.reduceTDiv, Int.reduceTMod, minL, maxL, pickB, zHB, InK, Path.imp, List.length_replicate, List.length_set, List.length_append, List.length_cons, List.length_nil] at *); omega)) | (refine app_le rfl ?_; omega)))
      refine W.loop (fun b : Nat => ⟨[(0, .st false (.arr (.int .i64) (w : List Int))), (3, .own 900003), (4, .lit (.int .i64 (a))), (5, .lit (.int .i64 (b)))], [(900003, .row 54 PairTy true (K a ++ R a b))]⟩) (fun b => a < b ∧ b ≤ n) (fun b => n - b) (a + 1) ?_ ?_
      · refine ⟨⟨by omega, by omega⟩, ?_⟩
        refine subF.ok ?_ <;> (conv => whnf) <;> repeat' (first
 | exact trivial
 | (with_reducible rfl)
 | ((with_reducible refine And.intro ?_ ?_) <;> conv => whnf)
 | omega
 | rfl
 | (refine congrArg (SV.arr _) ?_)
 | (refine congrArg (Value.int _) ?_)
 | (refine congrArg Value.bool ?_))
        all_goals (rw [hR0 a]; exact (List.append_nil _).symm)
      · rintro b ⟨hb0, hb1⟩
        have hlb := hRl a b
        have hlab : (K a ++ R a b).length ≤ 200 := by rw [List.length_append]; omega
        by_cases hbl : b < n
        · have hin := inter_ref h (by omega) hil hbl
          cases hv : interT w a b with
          | true =>
            rw [hv] at hin
            have hy := hRy a b hb0 hv
            repeat' (first
 | refine W.seq ?_
 | refine W.block ?_
 | (refine W.region tys_ok [] ?_; conv => whnf)
 | (refine W.drawAll tys_ok [] mixed rfl ?_; conv => whnf)
 | (refine W.ret ?_; conv => whnf)
 | (refine W.skip ?_; conv => whnf)
 | (refine W.exit ?_; conv => whnf)
 | (refine call_at (al := false) (hin) rfl rfl rfl rfl ?_; conv => whnf)

    | (refine W.cond rfl (fun hb => ?_) (fun hb => ?_) <;> (try simp only [Int.reduceToNat, Int.reduceTDiv, Int.reduceTMod, minL, maxL, pickB, zHB] at hb) <;> (try (first | (cases hb; done) | exact absurd hb (by decide) | (exfalso; omega))))
    | ((with_reducible refine And.intro ?_ ?_); (focus ((repeat' (first | (with_reducible rfl) | (with_reducible refine And.intro ?_ ?_) | omega | rfl | exact Or.inl rfl | exact Or.inr rfl | exact of_decide_eq_true rfl | exact Path.imp_of (of_decide_eq_true rfl) | (focus ((try simp only [Int.reduceToNat, Int.reduceTDiv, Int.reduceTMod, minL, maxL, pickB, zHB, InK, Path.imp, List.length_replicate, List.length_set, List.length_append, List.length_cons, List.length_nil] at *); omega)) | (refine app_le rfl ?_; omega))); done)); (conv => whnf))
    | ((with_reducible refine And.intro (Side.out ?_) ?_); rotate_left; (conv => whnf))
    | (refine retF1 ?_ <;> (conv => whnf) <;> repeat' (first
 | exact trivial
 | (with_reducible rfl)
 | ((with_reducible refine And.intro ?_ ?_) <;> conv => whnf)
 | omega
 | rfl
 | (refine congrArg (SV.arr _) ?_)
 | (refine congrArg (Value.int _) ?_)
 | (refine congrArg Value.bool ?_)))
 | (refine retF2 ?_ <;> (conv => whnf) <;> repeat' (first
 | exact trivial
 | (with_reducible rfl)
 | ((with_reducible refine And.intro ?_ ?_) <;> conv => whnf)
 | omega
 | rfl
 | (refine congrArg (SV.arr _) ?_)
 | (refine congrArg (Value.int _) ?_)
 | (refine congrArg Value.bool ?_)))); all_goals (try unfold Side)
            all_goals try (repeat' (first | (with_reducible rfl) | (with_reducible refine And.intro ?_ ?_) | omega | rfl | exact Or.inl rfl | exact Or.inr rfl | exact of_decide_eq_true rfl | exact Path.imp_of (of_decide_eq_true rfl) | (focus ((try simp only [Int.reduceToNat, Int.reduceTDiv, Int.reduceTMod, minL, maxL, pickB, zHB, InK, Path.imp, List.length_replicate, List.length_set, List.length_append, List.length_cons, List.length_nil] at *); omega)) | (refine app_le rfl ?_; omega)))
            refine ⟨b + 1, ⟨⟨by omega, by omega⟩, by omega⟩, ?_⟩
            rw [hy]
            refine subF.ok ?_ <;> (conv => whnf) <;> repeat' (first
 | exact trivial
 | (with_reducible rfl)
 | ((with_reducible refine And.intro ?_ ?_) <;> conv => whnf)
 | omega
 | rfl
 | (refine congrArg (SV.arr _) ?_)
 | (refine congrArg (Value.int _) ?_)
 | (refine congrArg Value.bool ?_))
            all_goals exact List.append_assoc _ _ _
          | false =>
            rw [hv] at hin
            have hy := hRn a b hv
            repeat' (first
 | refine W.seq ?_
 | refine W.block ?_
 | (refine W.region tys_ok [] ?_; conv => whnf)
 | (refine W.drawAll tys_ok [] mixed rfl ?_; conv => whnf)
 | (refine W.ret ?_; conv => whnf)
 | (refine W.skip ?_; conv => whnf)
 | (refine W.exit ?_; conv => whnf)
 | (refine call_at (al := false) (hin) rfl rfl rfl rfl ?_; conv => whnf)

    | (refine W.cond rfl (fun hb => ?_) (fun hb => ?_) <;> (try simp only [Int.reduceToNat, Int.reduceTDiv, Int.reduceTMod, minL, maxL, pickB, zHB] at hb) <;> (try (first | (cases hb; done) | exact absurd hb (by decide) | (exfalso; omega))))
    | ((with_reducible refine And.intro ?_ ?_); (focus ((repeat' (first | (with_reducible rfl) | (with_reducible refine And.intro ?_ ?_) | omega | rfl | exact Or.inl rfl | exact Or.inr rfl | exact of_decide_eq_true rfl | exact Path.imp_of (of_decide_eq_true rfl) | (focus ((try simp only [Int.reduceToNat, Int.reduceTDiv, Int.reduceTMod, minL, maxL, pickB, zHB, InK, Path.imp, List.length_replicate, List.length_set, List.length_append, List.length_cons, List.length_nil] at *); omega)) | (refine app_le rfl ?_; omega))); done)); (conv => whnf))
    | ((with_reducible refine And.intro (Side.out ?_) ?_); rotate_left; (conv => whnf))
    | (refine retF1 ?_ <;> (conv => whnf) <;> repeat' (first
 | exact trivial
 | (with_reducible rfl)
 | ((with_reducible refine And.intro ?_ ?_) <;> conv => whnf)
 | omega
 | rfl
 | (refine congrArg (SV.arr _) ?_)
 | (refine congrArg (Value.int _) ?_)
 | (refine congrArg Value.bool ?_)))
 | (refine retF2 ?_ <;> (conv => whnf) <;> repeat' (first
 | exact trivial
 | (with_reducible rfl)
 | ((with_reducible refine And.intro ?_ ?_) <;> conv => whnf)
 | omega
 | rfl
 | (refine congrArg (SV.arr _) ?_)
 | (refine congrArg (Value.int _) ?_)
 | (refine congrArg Value.bool ?_)))); all_goals (try unfold Side)
            all_goals try (repeat' (first | (with_reducible rfl) | (with_reducible refine And.intro ?_ ?_) | omega | rfl | exact Or.inl rfl | exact Or.inr rfl | exact of_decide_eq_true rfl | exact Path.imp_of (of_decide_eq_true rfl) | (focus ((try simp only [Int.reduceToNat, Int.reduceTDiv, Int.reduceTMod, minL, maxL, pickB, zHB, InK, Path.imp, List.length_replicate, List.length_set, List.length_append, List.length_cons, List.length_nil] at *); omega)) | (refine app_le rfl ?_; omega)))
            refine ⟨b + 1, ⟨⟨by omega, by omega⟩, by omega⟩, ?_⟩
            rw [hy]
            refine subF.ok ?_ <;> (conv => whnf) <;> repeat' (first
 | exact trivial
 | (with_reducible rfl)
 | ((with_reducible refine And.intro ?_ ?_) <;> conv => whnf)
 | omega
 | rfl
 | (refine congrArg (SV.arr _) ?_)
 | (refine congrArg (Value.int _) ?_)
 | (refine congrArg Value.bool ?_))
        · have hie : n = b := by omega
          subst hie
          repeat' (first
 | refine W.seq ?_
 | refine W.block ?_
 | (refine W.region tys_ok [] ?_; conv => whnf)
 | (refine W.drawAll tys_ok [] mixed rfl ?_; conv => whnf)
 | (refine W.ret ?_; conv => whnf)
 | (refine W.skip ?_; conv => whnf)
 | (refine W.exit ?_; conv => whnf)

    | (refine W.cond rfl (fun hb => ?_) (fun hb => ?_) <;> (try simp only [Int.reduceToNat, Int.reduceTDiv, Int.reduceTMod, minL, maxL, pickB, zHB] at hb) <;> (try (first | (cases hb; done) | exact absurd hb (by decide) | (exfalso; omega))))
    | ((with_reducible refine And.intro ?_ ?_); (focus ((repeat' (first | (with_reducible rfl) | (with_reducible refine And.intro ?_ ?_) | omega | rfl | exact Or.inl rfl | exact Or.inr rfl | exact of_decide_eq_true rfl | exact Path.imp_of (of_decide_eq_true rfl) | (focus ((try simp only [Int.reduceToNat, Int.reduceTDiv, Int.reduceTMod, minL, maxL, pickB, zHB, InK, Path.imp, List.length_replicate, List.length_set, List.length_append, List.length_cons, List.length_nil] at *); omega)) | (refine app_le rfl ?_; omega))); done)); (conv => whnf))
    | ((with_reducible refine And.intro (Side.out ?_) ?_); rotate_left; (conv => whnf))
    | (refine retF1 ?_ <;> (conv => whnf) <;> repeat' (first
 | exact trivial
 | (with_reducible rfl)
 | ((with_reducible refine And.intro ?_ ?_) <;> conv => whnf)
 | omega
 | rfl
 | (refine congrArg (SV.arr _) ?_)
 | (refine congrArg (Value.int _) ?_)
 | (refine congrArg Value.bool ?_)))
 | (refine retF2 ?_ <;> (conv => whnf) <;> repeat' (first
 | exact trivial
 | (with_reducible rfl)
 | ((with_reducible refine And.intro ?_ ?_) <;> conv => whnf)
 | omega
 | rfl
 | (refine congrArg (SV.arr _) ?_)
 | (refine congrArg (Value.int _) ?_)
 | (refine congrArg Value.bool ?_)))); all_goals (try unfold Side)
          all_goals try (repeat' (first | (with_reducible rfl) | (with_reducible refine And.intro ?_ ?_) | omega | rfl | exact Or.inl rfl | exact Or.inr rfl | exact of_decide_eq_true rfl | exact Path.imp_of (of_decide_eq_true rfl) | (focus ((try simp only [Int.reduceToNat, Int.reduceTDiv, Int.reduceTMod, minL, maxL, pickB, zHB, InK, Path.imp, List.length_replicate, List.length_set, List.length_append, List.length_cons, List.length_nil] at *); omega)) | (refine app_le rfl ?_; omega)))
          refine ⟨a + 1, ⟨by omega, by omega⟩, ?_⟩
          rw [hKs a]
          refine subF.ok ?_ <;> (conv => whnf) <;> repeat' (first
 | exact trivial
 | (with_reducible rfl)
 | ((with_reducible refine And.intro ?_ ?_) <;> conv => whnf)
 | omega
 | rfl
 | (refine congrArg (SV.arr _) ?_)
 | (refine congrArg (Value.int _) ?_)
 | (refine congrArg Value.bool ?_))
    · have hie : n = a := by omega
      subst hie
      repeat' (first
 | refine W.seq ?_
 | refine W.block ?_
 | (refine W.region tys_ok [] ?_; conv => whnf)
 | (refine W.drawAll tys_ok [] mixed rfl ?_; conv => whnf)
 | (refine W.ret ?_; conv => whnf)
 | (refine W.skip ?_; conv => whnf)
 | (refine W.exit ?_; conv => whnf)

    | (refine W.cond rfl (fun hb => ?_) (fun hb => ?_) <;> (try simp only [Int.reduceToNat, Int.reduceTDiv, Int.reduceTMod, minL, maxL, pickB, zHB] at hb) <;> (try (first | (cases hb; done) | exact absurd hb (by decide) | (exfalso; omega))))
    | ((with_reducible refine And.intro ?_ ?_); (focus ((repeat' (first | (with_reducible rfl) | (with_reducible refine And.intro ?_ ?_) | omega | rfl | exact Or.inl rfl | exact Or.inr rfl | exact of_decide_eq_true rfl | exact Path.imp_of (of_decide_eq_true rfl) | (focus ((try simp only [Int.reduceToNat, Int.reduceTDiv, Int.reduceTMod, minL, maxL, pickB, zHB, InK, Path.imp, List.length_replicate, List.length_set, List.length_append, List.length_cons, List.length_nil] at *); omega)) | (refine app_le rfl ?_; omega))); done)); (conv => whnf))
    | ((with_reducible refine And.intro (Side.out ?_) ?_); rotate_left; (conv => whnf))
    | (refine retF1 ?_ <;> (conv => whnf) <;> repeat' (first
 | exact trivial
 | (with_reducible rfl)
 | ((with_reducible refine And.intro ?_ ?_) <;> conv => whnf)
 | omega
 | rfl
 | (refine congrArg (SV.arr _) ?_)
 | (refine congrArg (Value.int _) ?_)
 | (refine congrArg Value.bool ?_)))
 | (refine retF2 ?_ <;> (conv => whnf) <;> repeat' (first
 | exact trivial
 | (with_reducible rfl)
 | ((with_reducible refine And.intro ?_ ?_) <;> conv => whnf)
 | omega
 | rfl
 | (refine congrArg (SV.arr _) ?_)
 | (refine congrArg (Value.int _) ?_)
 | (refine congrArg Value.bool ?_)))); all_goals (try unfold Side)
      all_goals try (repeat' (first | (with_reducible rfl) | (with_reducible refine And.intro ?_ ?_) | omega | rfl | exact Or.inl rfl | exact Or.inr rfl | exact of_decide_eq_true rfl | exact Path.imp_of (of_decide_eq_true rfl) | (focus ((try simp only [Int.reduceToNat, Int.reduceTDiv, Int.reduceTMod, minL, maxL, pickB, zHB, InK, Path.imp, List.length_replicate, List.length_set, List.length_append, List.length_cons, List.length_nil] at *); omega)) | (refine app_le rfl ?_; omega)))
end Go.Proofs.Ytdfajcfkdfjoeaa
/- The three conditions: the document's. No condition. -/
namespace Go.Proofs.Ytdfajcfkdfjoeaa
open Go Go.Vc Go.Scr
set_option linter.unusedVariables false
set_option linter.unusedSimpArgs false

/-! ### The list of pairs -/
theorem rowP_mem {w : List Int} {a : Nat} : ∀ {b : Nat} {x : Int × Int × Unit}, x ∈ rowP w a b ↔ ∃ c : Nat, a < c ∧ c < b ∧ interT w a c = true ∧ x = ((a : Int), (c : Int), ())
  | 0, x => by simp [rowP]
  | b + 1, x => by
    rw [rowP]
    constructor
    · intro h
      split at h
      · rename_i e
        rcases List.mem_append.1 h with h | h
        · obtain ⟨c, h1, h2, h3, h4⟩ := rowP_mem.1 h; exact ⟨c, h1, by omega, h3, h4⟩
        · simp at h; exact ⟨b, e.1, by omega, e.2, h⟩
      · obtain ⟨c, h1, h2, h3, h4⟩ := rowP_mem.1 h; exact ⟨c, h1, by omega, h3, h4⟩
    · rintro ⟨c, h1, h2, h3, h4⟩
      by_cases e : c = b
      · subst e; rw [if_pos ⟨h1, h3⟩]; simp [h4]
      · have := (rowP_mem (w := w) (a := a) (b := b) (x := x)).2 ⟨c, h1, by omega, h3, h4⟩
        split
        · exact List.mem_append.2 (.inl this)
        · exact this
theorem pairsK_mem {w : List Int} {n : Nat} : ∀ {k : Nat} {x : Int × Int × Unit}, x ∈ pairsK w n k ↔ ∃ a c : Nat, a < k ∧ a < c ∧ c < n ∧ interT w a c = true ∧ x = ((a : Int), (c : Int), ())
  | 0, x => by simp [pairsK]
  | k + 1, x => by
    rw [pairsK, List.mem_append, pairsK_mem, rowP_mem]
    constructor
    · rintro (⟨a, c, h1, h2⟩ | ⟨c, h1, h2⟩)
      · exact ⟨a, c, by omega, h2⟩
      · exact ⟨k, c, by omega, h1, h2⟩
    · rintro ⟨a, c, h1, h2⟩
      by_cases e : a = k
      · subst e; exact .inr ⟨c, h2⟩
      · exact .inl ⟨a, c, by omega, h2⟩
theorem pairs_at {w : List Int} {n i : Nat} (hi : i < (pairsK w n n).length) : ∃ a c : Nat, a < c ∧ c < n ∧ interT w a c = true ∧ (pairsK w n n).getD i (0, 0, ()) = ((a : Int), (c : Int), ()) := by
  have hm : (pairsK w n n).getD i (0, 0, ()) ∈ pairsK w n n := by
    have : (pairsK w n n).getD i (0, 0, ()) = (pairsK w n n)[i] := by simp [List.getD, hi]
    rw [this]; exact List.getElem_mem hi
  obtain ⟨a, c, _, h2, h3, h4, h5⟩ := pairsK_mem.1 hm
  exact ⟨a, c, h2, h3, h4, h5⟩
theorem pairs_of {w : List Int} {n a c : Nat} (h1 : a < c) (h2 : c < n) (h3 : interT w a c = true) : ∃ i, i < (pairsK w n n).length ∧ (pairsK w n n).getD i (0, 0, ()) = ((a : Int), (c : Int), ()) := by
  have hm : ((a : Int), (c : Int), ()) ∈ pairsK w n n := pairsK_mem.2 ⟨a, c, by omega, h1, h2, h3, rfl⟩
  obtain ⟨i, hi, e⟩ := List.mem_iff_getElem.1 hm
  exact ⟨i, hi, by simp [List.getD, hi, e]⟩

/-! ### Sets as numbers -/
def setOf (d : Nat → Bool) : Nat → Nat
  | 0 => 0
  | k + 1 => setOf d k + if d k = true then 2 ^ k else 0
theorem setOf_lt {d : Nat → Bool} : ∀ {k : Nat}, setOf d k < 2 ^ k
  | 0 => by simp [setOf]
  | k + 1 => by have := setOf_lt (d := d) (k := k); rw [setOf, Nat.pow_succ]; split <;> omega
theorem bit_add {s c k x : Nat} (hx : x < k) : bitT (s + 2 ^ k * c) x = bitT s x := by
  unfold bitT
  obtain ⟨m, hm⟩ : ∃ m, k = x + (m + 1) := ⟨k - x - 1, by omega⟩
  have : 2 ^ k * c = 2 ^ x * (2 * (2 ^ m * c)) := by
    rw [hm, Nat.pow_add, Nat.pow_succ, Nat.mul_assoc, Nat.mul_comm (2 ^ m) 2, Nat.mul_assoc]
  rw [this, Nat.add_mul_div_left _ _ (Nat.two_pow_pos x)]
  omega
theorem setOf_bit {d : Nat → Bool} : ∀ {k x : Nat}, x < k → bitT (setOf d k) x = (d x).toNat
  | k + 1, x, hx => by
    rw [setOf]
    have he : (if d k = true then 2 ^ k else 0) = 2 ^ k * (d k).toNat := by cases d k <;> simp
    rw [he]
    by_cases e : x = k
    · subst e
      have h1 := setOf_lt (d := d) (k := x)
      unfold bitT
      rw [Nat.add_mul_div_left _ _ (Nat.two_pow_pos x), Nat.div_eq_of_lt h1, Nat.zero_add]
      cases d x <;> rfl
    · rw [bit_add (by omega)]; exact setOf_bit (by omega)
/-- The number is a division in order, for all pairs below i. -/
def apT (P : List (Int × Int × Unit)) (z i : Nat) : Bool := bitT z (P.getD i (0, 0, ())).1.toNat != bitT z (P.getD i (0, 0, ())).2.1.toNat
def evT (w : List Int) (n : Nat) (P : List (Int × Int × Unit)) (i : Nat) : Bool := decide ((cmnK w (P.getD i (0, 0, ())).1.toNat (P.getD i (0, 0, ())).2.1.toNat n : Int).tmod 2 = 0)
theorem valid_of {w : List Int} {n : Nat} (h : Word w n) {z : Nat} (hz : ∀ i, i < (pairsK w n n).length → apT (pairsK w n n) z i = evT w n (pairsK w n n) i) : ∃ d, Valid n (gD w) (eD w n) d := by
  have key : ∀ x y, x < y → y < n → gD w x y = true → (decide (bitT z x = 1) ^^ decide (bitT z y = 1)) = eD w n x y := fun x y hxy hy hg => by
    obtain ⟨i, hi, he⟩ := pairs_of hxy hy hg
    have h1 := hz i hi
    unfold apT evT at h1
    rw [he] at h1
    dsimp only at h1
    rw [Int.toNat_natCast, Int.toNat_natCast, Int.tmod_eq_emod_of_nonneg (by omega)] at h1
    unfold eD
    have b1 := bitT_le (k := z) (j := x); have b2 := bitT_le (k := z) (j := y)
    have h2 : decide (((cmnK w x y n : Nat) : Int) % 2 = 0) = decide (cmnK w x y n % 2 = 0) := by rw [decide_eq_decide]; omega
    rw [h2] at h1
    rw [← h1]
    have c1 : bitT z x = 0 ∨ bitT z x = 1 := by omega
    have c2 : bitT z y = 0 ∨ bitT z y = 1 := by omega
    rcases c1 with c1 | c1 <;> rcases c2 with c2 | c2 <;> rw [c1, c2] <;> decide
  refine ⟨fun x => decide (bitT z x = 1), fun x y hx hy hg => ?_⟩
  rcases Nat.lt_trichotomy x y with hxy | hxy | hxy
  · exact key x y hxy hy hg
  · subst hxy; rw [gD_self] at hg; cases hg
  · have := key y x hxy hx (gD_symm h x y hx hy hg)
    rw [Bool.xor_comm, this]
    unfold eD
    rw [cmnK_symm]
theorem of_valid {w : List Int} {n : Nat} {d : Nat → Bool} (hd : Valid n (gD w) (eD w n) d) : ∀ i, i < (pairsK w n n).length → apT (pairsK w n n) (setOf d n) i = evT w n (pairsK w n n) i := fun i hi => by
  obtain ⟨a, c, h1, h2, h3, h4⟩ := pairs_at hi
  unfold apT evT
  rw [h4]
  dsimp only
  rw [Int.toNat_natCast, Int.toNat_natCast, setOf_bit (by omega), setOf_bit h2, Int.tmod_eq_emod_of_nonneg (by omega)]
  have h5 := hd a c (by omega) h2 h3
  unfold eD at h5
  have h6 : decide (((cmnK w a c n : Nat) : Int) % 2 = 0) = decide (cmnK w a c n % 2 = 0) := by rw [decide_eq_decide]; omega
  rw [h6, ← h5]
  cases d a <;> cases d c <;> rfl
end Go.Proofs.Ytdfajcfkdfjoeaa
/- ScrollDrawn. No condition. -/
namespace Go.Proofs.Ytdfajcfkdfjoeaa
open Go Go.Vc Go.Scr
set_option linter.unusedVariables false
set_option linter.unusedSimpArgs false

set_option maxHeartbeats 4000000 in
theorem common_at {w : List Int} {n : Nat} (h : Word w n) (hn : n ≤ 10) {x y : Nat} (hx : x < n) (hy : y < n) : FnAt Try.prog false 56 [.arr (.int .i64) w, .lit (.int .i64 x), .lit (.int .i64 y)] (.lit (.int .i64 (cmnK w x y n))) [] := by
  have hwl : @List.length (Ty.int .i64).T w = 2 * n := h.len
  have hd : Int.tdiv (@List.length (Ty.int .i64).T w) 2 = n := by rw [hwl, Int.tdiv_eq_ediv_of_nonneg (by omega)]; omega
  refine FnAt.of_body tys_ok Try.func56 (by rfl) rfl Try.ntmps56 (by rw [Try.results56]) (by simp) ?_
  
  repeat' (first
 | refine W.seq ?_
 | refine W.block ?_
 | (refine W.region tys_ok [] ?_; conv => whnf)
 | (refine W.drawAll tys_ok [] mixed rfl ?_; conv => whnf)
 | (refine W.ret ?_; conv => whnf)
 | (refine W.skip ?_; conv => whnf)
 | (refine W.exit ?_; conv => whnf)

    | (refine W.cond rfl (fun hb => ?_) (fun hb => ?_) <;> (try simp only [Int.reduceToNat, Int.reduceTDiv, Int.reduceTMod, minL, maxL, pickB, zHB] at hb) <;> (try (first | (cases hb; done) | exact absurd hb (by decide) | (exfalso; omega))))
    | ((with_reducible refine And.intro ?_ ?_); (focus ((repeat' (first | (with_reducible rfl) | (with_reducible refine And.intro ?_ ?_) | omega | rfl | exact Or.inl rfl | exact Or.inr rfl | exact of_decide_eq_true rfl | exact Path.imp_of (of_decide_eq_true rfl) | (focus ((try simp only [Int.reduceToNat, Int.reduceTDiv, Int.reduceTMod, minL, maxL, pickB, zHB, InK, Path.imp, List.length_replicate, List.length_set, List.length_append, List.length_cons, List.length_nil] at *); omega)) | (refine app_le rfl ?_; omega))); done)); (conv => whnf))
    | ((with_reducible refine And.intro (Side.out ?_) ?_); rotate_left; (conv => whnf))
    | (refine retF1 ?_ <;> (conv => whnf) <;> repeat' (first
 | exact trivial
 | (with_reducible rfl)
 | ((with_reducible refine And.intro ?_ ?_) <;> conv => whnf)
 | omega
 | rfl
 | (refine congrArg (SV.arr _) ?_)
 | (refine congrArg (Value.int _) ?_)
 | (refine congrArg Value.bool ?_)))
 | (refine retF2 ?_ <;> (conv => whnf) <;> repeat' (first
 | exact trivial
 | (with_reducible rfl)
 | ((with_reducible refine And.intro ?_ ?_) <;> conv => whnf)
 | omega
 | rfl
 | (refine congrArg (SV.arr _) ?_)
 | (refine congrArg (Value.int _) ?_)
 | (refine congrArg Value.bool ?_)))); all_goals (try unfold Side)
  all_goals try (repeat' (first | (with_reducible rfl) | (with_reducible refine And.intro ?_ ?_) | omega | rfl | exact Or.inl rfl | exact Or.inr rfl | exact of_decide_eq_true rfl | exact Path.imp_of (of_decide_eq_true rfl) | (focus ((try simp only [Int.reduceToNat, Int.reduceTDiv, Int.reduceTMod, minL, maxL, pickB, zHB, InK, Path.imp, List.length_replicate, List.length_set, List.length_append, List.length_cons, List.length_nil] at *); omega)) | (refine app_le rfl ?_; omega)))
  refine W.loop (fun z : Nat => ⟨[(0, .st false (.arr (.int .i64) (w : List Int))), (1, .lit (.int .i64 (x))), (2, .lit (.int .i64 (y))), (7, .lit (.int .i64 ((cmnK w x y z : Nat)))), (8, .lit (.int .i64 (z)))], []⟩) (fun z => z ≤ n) (fun z => n - z) (0) ?_ ?_
  · refine ⟨Nat.zero_le _, ?_⟩
    refine subF.ok ?_ <;> (conv => whnf) <;> repeat' (first
 | exact trivial
 | (with_reducible rfl)
 | ((with_reducible refine And.intro ?_ ?_) <;> conv => whnf)
 | omega
 | rfl
 | (refine congrArg (SV.arr _) ?_)
 | (refine congrArg (Value.int _) ?_)
 | (refine congrArg Value.bool ?_))
  · intro z hz
    have hle := cmnK_le (w := w) (x := x) (y := y) (k := z)
    by_cases hzl : z < n
    · have i1 := inter_ref h (by omega) hx hzl
      have i2 := inter_ref h (by omega) hy hzl
      by_cases ex : z = x
      · have hs := cmnK_no (w := w) (x := x) (y := y) (k := z) (by rw [ex, inter_self]; rfl)
        repeat' (first
 | refine W.seq ?_
 | refine W.block ?_
 | (refine W.region tys_ok [] ?_; conv => whnf)
 | (refine W.drawAll tys_ok [] mixed rfl ?_; conv => whnf)
 | (refine W.ret ?_; conv => whnf)
 | (refine W.skip ?_; conv => whnf)
 | (refine W.exit ?_; conv => whnf)
 | (refine call_at (al := false) (i1) rfl rfl rfl rfl ?_; conv => whnf)
 | (refine call_at (al := false) (i2) rfl rfl rfl rfl ?_; conv => whnf)

    | (refine W.cond rfl (fun hb => ?_) (fun hb => ?_) <;> (try simp only [Int.reduceToNat, Int.reduceTDiv, Int.reduceTMod, minL, maxL, pickB, zHB] at hb) <;> (try (first | (cases hb; done) | exact absurd hb (by decide) | (exfalso; omega))))
    | ((with_reducible refine And.intro ?_ ?_); (focus ((repeat' (first | (with_reducible rfl) | (with_reducible refine And.intro ?_ ?_) | omega | rfl | exact Or.inl rfl | exact Or.inr rfl | exact of_decide_eq_true rfl | exact Path.imp_of (of_decide_eq_true rfl) | (focus ((try simp only [Int.reduceToNat, Int.reduceTDiv, Int.reduceTMod, minL, maxL, pickB, zHB, InK, Path.imp, List.length_replicate, List.length_set, List.length_append, List.length_cons, List.length_nil] at *); omega)) | (refine app_le rfl ?_; omega))); done)); (conv => whnf))
    | ((with_reducible refine And.intro (Side.out ?_) ?_); rotate_left; (conv => whnf))
    | (refine retF1 ?_ <;> (conv => whnf) <;> repeat' (first
 | exact trivial
 | (with_reducible rfl)
 | ((with_reducible refine And.intro ?_ ?_) <;> conv => whnf)
 | omega
 | rfl
 | (refine congrArg (SV.arr _) ?_)
 | (refine congrArg (Value.int _) ?_)
 | (refine congrArg Value.bool ?_)))
 | (refine retF2 ?_ <;> (conv => whnf) <;> repeat' (first
 | exact trivial
 | (with_reducible rfl)
 | ((with_reducible refine And.intro ?_ ?_) <;> conv => whnf)
 | omega
 | rfl
 | (refine congrArg (SV.arr _) ?_)
 | (refine congrArg (Value.int _) ?_)
 | (refine congrArg Value.bool ?_)))); all_goals (try unfold Side)
        all_goals try (repeat' (first | (with_reducible rfl) | (with_reducible refine And.intro ?_ ?_) | omega | rfl | exact Or.inl rfl | exact Or.inr rfl | exact of_decide_eq_true rfl | exact Path.imp_of (of_decide_eq_true rfl) | (focus ((try simp only [Int.reduceToNat, Int.reduceTDiv, Int.reduceTMod, minL, maxL, pickB, zHB, InK, Path.imp, List.length_replicate, List.length_set, List.length_append, List.length_cons, List.length_nil] at *); omega)) | (refine app_le rfl ?_; omega)))
        refine ⟨z + 1, ⟨by omega, by omega⟩, ?_⟩
        rw [hs]
        refine subF.ok ?_ <;> (conv => whnf) <;> repeat' (first
 | exact trivial
 | (with_reducible rfl)
 | ((with_reducible refine And.intro ?_ ?_) <;> conv => whnf)
 | omega
 | rfl
 | (refine congrArg (SV.arr _) ?_)
 | (refine congrArg (Value.int _) ?_)
 | (refine congrArg Value.bool ?_))
      · by_cases ey : z = y
        · have hs := cmnK_no (w := w) (x := x) (y := y) (k := z) (by rw [ey, inter_self, Bool.and_false])
          repeat' (first
 | refine W.seq ?_
 | refine W.block ?_
 | (refine W.region tys_ok [] ?_; conv => whnf)
 | (refine W.drawAll tys_ok [] mixed rfl ?_; conv => whnf)
 | (refine W.ret ?_; conv => whnf)
 | (refine W.skip ?_; conv => whnf)
 | (refine W.exit ?_; conv => whnf)
 | (refine call_at (al := false) (i1) rfl rfl rfl rfl ?_; conv => whnf)
 | (refine call_at (al := false) (i2) rfl rfl rfl rfl ?_; conv => whnf)

    | (refine W.cond rfl (fun hb => ?_) (fun hb => ?_) <;> (try simp only [Int.reduceToNat, Int.reduceTDiv, Int.reduceTMod, minL, maxL, pickB, zHB] at hb) <;> (try (first | (cases hb; done) | exact absurd hb (by decide) | (exfalso; omega))))
    | ((with_reducible refine And.intro ?_ ?_); (focus ((repeat' (first | (with_reducible rfl) | (with_reducible refine And.intro ?_ ?_) | omega | rfl | exact Or.inl rfl | exact Or.inr rfl | exact of_decide_eq_true rfl | exact Path.imp_of (of_decide_eq_true rfl) | (focus ((try simp only [Int.reduceToNat, Int.reduceTDiv, Int.reduceTMod, minL, maxL, pickB, zHB, InK, Path.imp, List.length_replicate, List.length_set, List.length_append, List.length_cons, List.length_nil] at *); omega)) | (refine app_le rfl ?_; omega))); done)); (conv => whnf))
    | ((with_reducible refine And.intro (Side.out ?_) ?_); rotate_left; (conv => whnf))
    | (refine retF1 ?_ <;> (conv => whnf) <;> repeat' (first
 | exact trivial
 | (with_reducible rfl)
 | ((with_reducible refine And.intro ?_ ?_) <;> conv => whnf)
 | omega
 | rfl
 | (refine congrArg (SV.arr _) ?_)
 | (refine congrArg (Value.int _) ?_)
 | (refine congrArg Value.bool ?_)))
 | (refine retF2 ?_ <;> (conv => whnf) <;> repeat' (first
 | exact trivial
 | (with_reducible rfl)
 | ((with_reducible refine And.intro ?_ ?_) <;> conv => whnf)
 | omega
 | rfl
 | (refine congrArg (SV.arr _) ?_)
 | (refine congrArg (Value.int _) ?_)
 | (refine congrArg Value.bool ?_)))); all_goals (try unfold Side)
          all_goals try (repeat' (first | (with_reducible rfl) | (with_reducible refine And.intro ?_ ?_) | omega | rfl | exact Or.inl rfl | exact Or.inr rfl | exact of_decide_eq_true rfl | exact Path.imp_of (of_decide_eq_true rfl) | (focus ((try simp only [Int.reduceToNat, Int.reduceTDiv, Int.reduceTMod, minL, maxL, pickB, zHB, InK, Path.imp, List.length_replicate, List.length_set, List.length_append, List.length_cons, List.length_nil] at *); omega)) | (refine app_le rfl ?_; omega)))
          refine ⟨z + 1, ⟨by omega, by omega⟩, ?_⟩
          rw [hs]
          refine subF.ok ?_ <;> (conv => whnf) <;> repeat' (first
 | exact trivial
 | (with_reducible rfl)
 | ((with_reducible refine And.intro ?_ ?_) <;> conv => whnf)
 | omega
 | rfl
 | (refine congrArg (SV.arr _) ?_)
 | (refine congrArg (Value.int _) ?_)
 | (refine congrArg Value.bool ?_))
        · cases e1 : interT w x z with
          | true =>
            cases e2 : interT w y z with
            | true =>
              have hs := cmnK_yes (w := w) (x := x) (y := y) (k := z) (by rw [e1, e2]; rfl)
              rw [e1] at i1
              rw [e2] at i2
              repeat' (first
 | refine W.seq ?_
 | refine W.block ?_
 | (refine W.region tys_ok [] ?_; conv => whnf)
 | (refine W.drawAll tys_ok [] mixed rfl ?_; conv => whnf)
 | (refine W.ret ?_; conv => whnf)
 | (refine W.skip ?_; conv => whnf)
 | (refine W.exit ?_; conv => whnf)
 | (refine call_at (al := false) (i1) rfl rfl rfl rfl ?_; conv => whnf)
 | (refine call_at (al := false) (i2) rfl rfl rfl rfl ?_; conv => whnf)

    | (refine W.cond rfl (fun hb => ?_) (fun hb => ?_) <;> (try simp only [Int.reduceToNat, Int.reduceTDiv, Int.reduceTMod, minL, maxL, pickB, zHB] at hb) <;> (try (first | (cases hb; done) | exact absurd hb (by decide) | (exfalso; omega))))
    | ((with_reducible refine And.intro ?_ ?_); (focus ((repeat' (first | (with_reducible rfl) | (with_reducible refine And.intro ?_ ?_) | omega | rfl | exact Or.inl rfl | exact Or.inr rfl | exact of_decide_eq_true rfl | exact Path.imp_of (of_decide_eq_true rfl) | (focus ((try simp only [Int.reduceToNat, Int.reduceTDiv, Int.reduceTMod, minL, maxL, pickB, zHB, InK, Path.imp, List.length_replicate, List.length_set, List.length_append, List.length_cons, List.length_nil] at *); omega)) | (refine app_le rfl ?_; omega))); done)); (conv => whnf))
    | ((with_reducible refine And.intro (Side.out ?_) ?_); rotate_left; (conv => whnf))
    | (refine retF1 ?_ <;> (conv => whnf) <;> repeat' (first
 | exact trivial
 | (with_reducible rfl)
 | ((with_reducible refine And.intro ?_ ?_) <;> conv => whnf)
 | omega
 | rfl
 | (refine congrArg (SV.arr _) ?_)
 | (refine congrArg (Value.int _) ?_)
 | (refine congrArg Value.bool ?_)))
 | (refine retF2 ?_ <;> (conv => whnf) <;> repeat' (first
 | exact trivial
 | (with_reducible rfl)
 | ((with_reducible refine And.intro ?_ ?_) <;> conv => whnf)
 | omega
 | rfl
 | (refine congrArg (SV.arr _) ?_)
 | (refine congrArg (Value.int _) ?_)
 | (refine congrArg Value.bool ?_)))); all_goals (try unfold Side)
              all_goals try (repeat' (first | (with_reducible rfl) | (with_reducible refine And.intro ?_ ?_) | omega | rfl | exact Or.inl rfl | exact Or.inr rfl | exact of_decide_eq_true rfl | exact Path.imp_of (of_decide_eq_true rfl) | (focus ((try simp only [Int.reduceToNat, Int.reduceTDiv, Int.reduceTMod, minL, maxL, pickB, zHB, InK, Path.imp, List.length_replicate, List.length_set, List.length_append, List.length_cons, List.length_nil] at *); omega)) | (refine app_le rfl ?_; omega)))
              refine ⟨z + 1, ⟨by omega, by omega⟩, ?_⟩
              rw [hs]
              refine subF.ok ?_ <;> (conv => whnf) <;> repeat' (first
 | exact trivial
 | (with_reducible rfl)
 | ((with_reducible refine And.intro ?_ ?_) <;> conv => whnf)
 | omega
 | rfl
 | (refine congrArg (SV.arr _) ?_)
 | (refine congrArg (Value.int _) ?_)
 | (refine congrArg Value.bool ?_))
            | false =>
              have hs := cmnK_no (w := w) (x := x) (y := y) (k := z) (by rw [e1, e2]; rfl)
              rw [e1] at i1
              rw [e2] at i2
              repeat' (first
 | refine W.seq ?_
 | refine W.block ?_
 | (refine W.region tys_ok [] ?_; conv => whnf)
 | (refine W.drawAll tys_ok [] mixed rfl ?_; conv => whnf)
 | (refine W.ret ?_; conv => whnf)
 | (refine W.skip ?_; conv => whnf)
 | (refine W.exit ?_; conv => whnf)
 | (refine call_at (al := false) (i1) rfl rfl rfl rfl ?_; conv => whnf)
 | (refine call_at (al := false) (i2) rfl rfl rfl rfl ?_; conv => whnf)

    | (refine W.cond rfl (fun hb => ?_) (fun hb => ?_) <;> (try simp only [Int.reduceToNat, Int.reduceTDiv, Int.reduceTMod, minL, maxL, pickB, zHB] at hb) <;> (try (first | (cases hb; done) | exact absurd hb (by decide) | (exfalso; omega))))
    | ((with_reducible refine And.intro ?_ ?_); (focus ((repeat' (first | (with_reducible rfl) | (with_reducible refine And.intro ?_ ?_) | omega | rfl | exact Or.inl rfl | exact Or.inr rfl | exact of_decide_eq_true rfl | exact Path.imp_of (of_decide_eq_true rfl) | (focus ((try simp only [Int.reduceToNat, Int.reduceTDiv, Int.reduceTMod, minL, maxL, pickB, zHB, InK, Path.imp, List.length_replicate, List.length_set, List.length_append, List.length_cons, List.length_nil] at *); omega)) | (refine app_le rfl ?_; omega))); done)); (conv => whnf))
    | ((with_reducible refine And.intro (Side.out ?_) ?_); rotate_left; (conv => whnf))
    | (refine retF1 ?_ <;> (conv => whnf) <;> repeat' (first
 | exact trivial
 | (with_reducible rfl)
 | ((with_reducible refine And.intro ?_ ?_) <;> conv => whnf)
 | omega
 | rfl
 | (refine congrArg (SV.arr _) ?_)
 | (refine congrArg (Value.int _) ?_)
 | (refine congrArg Value.bool ?_)))
 | (refine retF2 ?_ <;> (conv => whnf) <;> repeat' (first
 | exact trivial
 | (with_reducible rfl)
 | ((with_reducible refine And.intro ?_ ?_) <;> conv => whnf)
 | omega
 | rfl
 | (refine congrArg (SV.arr _) ?_)
 | (refine congrArg (Value.int _) ?_)
 | (refine congrArg Value.bool ?_)))); all_goals (try unfold Side)
              all_goals try (repeat' (first | (with_reducible rfl) | (with_reducible refine And.intro ?_ ?_) | omega | rfl | exact Or.inl rfl | exact Or.inr rfl | exact of_decide_eq_true rfl | exact Path.imp_of (of_decide_eq_true rfl) | (focus ((try simp only [Int.reduceToNat, Int.reduceTDiv, Int.reduceTMod, minL, maxL, pickB, zHB, InK, Path.imp, List.length_replicate, List.length_set, List.length_append, List.length_cons, List.length_nil] at *); omega)) | (refine app_le rfl ?_; omega)))
              refine ⟨z + 1, ⟨by omega, by omega⟩, ?_⟩
              rw [hs]
              refine subF.ok ?_ <;> (conv => whnf) <;> repeat' (first
 | exact trivial
 | (with_reducible rfl)
 | ((with_reducible refine And.intro ?_ ?_) <;> conv => whnf)
 | omega
 | rfl
 | (refine congrArg (SV.arr _) ?_)
 | (refine congrArg (Value.int _) ?_)
 | (refine congrArg Value.bool ?_))
          | false =>
            have hs := cmnK_no (w := w) (x := x) (y := y) (k := z) (by rw [e1]; rfl)
            rw [e1] at i1
            repeat' (first
 | refine W.seq ?_
 | refine W.block ?_
 | (refine W.region tys_ok [] ?_; conv => whnf)
 | (refine W.drawAll tys_ok [] mixed rfl ?_; conv => whnf)
 | (refine W.ret ?_; conv => whnf)
 | (refine W.skip ?_; conv => whnf)
 | (refine W.exit ?_; conv => whnf)
 | (refine call_at (al := false) (i1) rfl rfl rfl rfl ?_; conv => whnf)
 | (refine call_at (al := false) (i2) rfl rfl rfl rfl ?_; conv => whnf)

    | (refine W.cond rfl (fun hb => ?_) (fun hb => ?_) <;> (try simp only [Int.reduceToNat, Int.reduceTDiv, Int.reduceTMod, minL, maxL, pickB, zHB] at hb) <;> (try (first | (cases hb; done) | exact absurd hb (by decide) | (exfalso; omega))))
    | ((with_reducible refine And.intro ?_ ?_); (focus ((repeat' (first | (with_reducible rfl) | (with_reducible refine And.intro ?_ ?_) | omega | rfl | exact Or.inl rfl | exact Or.inr rfl | exact of_decide_eq_true rfl | exact Path.imp_of (of_decide_eq_true rfl) | (focus ((try simp only [Int.reduceToNat, Int.reduceTDiv, Int.reduceTMod, minL, maxL, pickB, zHB, InK, Path.imp, List.length_replicate, List.length_set, List.length_append, List.length_cons, List.length_nil] at *); omega)) | (refine app_le rfl ?_; omega))); done)); (conv => whnf))
    | ((with_reducible refine And.intro (Side.out ?_) ?_); rotate_left; (conv => whnf))
    | (refine retF1 ?_ <;> (conv => whnf) <;> repeat' (first
 | exact trivial
 | (with_reducible rfl)
 | ((with_reducible refine And.intro ?_ ?_) <;> conv => whnf)
 | omega
 | rfl
 | (refine congrArg (SV.arr _) ?_)
 | (refine congrArg (Value.int _) ?_)
 | (refine congrArg Value.bool ?_)))
 | (refine retF2 ?_ <;> (conv => whnf) <;> repeat' (first
 | exact trivial
 | (with_reducible rfl)
 | ((with_reducible refine And.intro ?_ ?_) <;> conv => whnf)
 | omega
 | rfl
 | (refine congrArg (SV.arr _) ?_)
 | (refine congrArg (Value.int _) ?_)
 | (refine congrArg Value.bool ?_)))); all_goals (try unfold Side)
            all_goals try (repeat' (first | (with_reducible rfl) | (with_reducible refine And.intro ?_ ?_) | omega | rfl | exact Or.inl rfl | exact Or.inr rfl | exact of_decide_eq_true rfl | exact Path.imp_of (of_decide_eq_true rfl) | (focus ((try simp only [Int.reduceToNat, Int.reduceTDiv, Int.reduceTMod, minL, maxL, pickB, zHB, InK, Path.imp, List.length_replicate, List.length_set, List.length_append, List.length_cons, List.length_nil] at *); omega)) | (refine app_le rfl ?_; omega)))
            refine ⟨z + 1, ⟨by omega, by omega⟩, ?_⟩
            rw [hs]
            refine subF.ok ?_ <;> (conv => whnf) <;> repeat' (first
 | exact trivial
 | (with_reducible rfl)
 | ((with_reducible refine And.intro ?_ ?_) <;> conv => whnf)
 | omega
 | rfl
 | (refine congrArg (SV.arr _) ?_)
 | (refine congrArg (Value.int _) ?_)
 | (refine congrArg Value.bool ?_))
    · have hze : n = z := by omega
      subst hze
      repeat' (first
 | refine W.seq ?_
 | refine W.block ?_
 | (refine W.region tys_ok [] ?_; conv => whnf)
 | (refine W.drawAll tys_ok [] mixed rfl ?_; conv => whnf)
 | (refine W.ret ?_; conv => whnf)
 | (refine W.skip ?_; conv => whnf)
 | (refine W.exit ?_; conv => whnf)

    | (refine W.cond rfl (fun hb => ?_) (fun hb => ?_) <;> (try simp only [Int.reduceToNat, Int.reduceTDiv, Int.reduceTMod, minL, maxL, pickB, zHB] at hb) <;> (try (first | (cases hb; done) | exact absurd hb (by decide) | (exfalso; omega))))
    | ((with_reducible refine And.intro ?_ ?_); (focus ((repeat' (first | (with_reducible rfl) | (with_reducible refine And.intro ?_ ?_) | omega | rfl | exact Or.inl rfl | exact Or.inr rfl | exact of_decide_eq_true rfl | exact Path.imp_of (of_decide_eq_true rfl) | (focus ((try simp only [Int.reduceToNat, Int.reduceTDiv, Int.reduceTMod, minL, maxL, pickB, zHB, InK, Path.imp, List.length_replicate, List.length_set, List.length_append, List.length_cons, List.length_nil] at *); omega)) | (refine app_le rfl ?_; omega))); done)); (conv => whnf))
    | ((with_reducible refine And.intro (Side.out ?_) ?_); rotate_left; (conv => whnf))
    | (refine retF1 ?_ <;> (conv => whnf) <;> repeat' (first
 | exact trivial
 | (with_reducible rfl)
 | ((with_reducible refine And.intro ?_ ?_) <;> conv => whnf)
 | omega
 | rfl
 | (refine congrArg (SV.arr _) ?_)
 | (refine congrArg (Value.int _) ?_)
 | (refine congrArg Value.bool ?_)))
 | (refine retF2 ?_ <;> (conv => whnf) <;> repeat' (first
 | exact trivial
 | (with_reducible rfl)
 | ((with_reducible refine And.intro ?_ ?_) <;> conv => whnf)
 | omega
 | rfl
 | (refine congrArg (SV.arr _) ?_)
 | (refine congrArg (Value.int _) ?_)
 | (refine congrArg Value.bool ?_)))); all_goals (try unfold Side)
      all_goals try (repeat' (first | (with_reducible rfl) | (with_reducible refine And.intro ?_ ?_) | omega | rfl | exact Or.inl rfl | exact Or.inr rfl | exact of_decide_eq_true rfl | exact Path.imp_of (of_decide_eq_true rfl) | (focus ((try simp only [Int.reduceToNat, Int.reduceTDiv, Int.reduceTMod, minL, maxL, pickB, zHB, InK, Path.imp, List.length_replicate, List.length_set, List.length_append, List.length_cons, List.length_nil] at *); omega)) | (refine app_le rfl ?_; omega)))
theorem pairs_lenD {w : List Int} {n : Nat} (hn : n ≤ 10) : (pairsK w n n).length ≤ 100 := by
  have := Nat.mul_le_mul_left n hn
  exact Nat.le_trans (pairsK_len (w := w) (n := n) (a := n)) (by omega)
theorem cmnK_self {w : List Int} {a k : Nat} (h : interT w a k = true) : cmnK w a a (k + 1) = cmnK w a a k + 1 := cmnK_yes (by rw [h]; rfl)
theorem cmnK_self' {w : List Int} {a k : Nat} (h : interT w a k = false) : cmnK w a a (k + 1) = cmnK w a a k := cmnK_no (by rw [h]; rfl)
set_option maxHeartbeats 16000000 in
theorem drawn_ref {w : List Int} {n : Nat} (h : Word w n) (hn : n ≤ 10) : FnAt Try.prog false 37 [.arr (.int .i64) w] (.lit (.bool (drawnB w n))) [] := by
  have hp := h.pos
  have hwl : @List.length (Ty.int .i64).T w = 2 * n := h.len
  have hd : Int.tdiv (@List.length (Ty.int .i64).T w) 2 = n := by rw [hwl, Int.tdiv_eq_ediv_of_nonneg (by omega)]; omega
  have no1 : ∀ x, x < n → ¬ C1 w n x → drawnB w n = false := fun x hx hc => drawnB_no fun hd => hc (hd.1 x hx)
  have no2 : ∀ x y, y < n → x < n → x ≠ y → ¬ C2 w n x y → drawnB w n = false := fun x y hy hx hne hc => drawnB_no fun hd => by
    rcases Nat.lt_or_ge y x with hl | hl
    · exact hc (hd.2.1 x y hl hx)
    · refine hc fun hi => ?_
      rw [cmnK_symm]
      exact hd.2.1 y x (by omega) hy (by rw [inter_symm h hy hx]; exact hi)
  have no3 : (¬ ∃ d, Valid n (gD w) (eD w n) d) → drawnB w n = false := fun hc => drawnB_no fun hd => hc hd.2.2
  have yes : (∀ a, a < n → C1 w n a) → (∀ a b, b < a → a < n → C2 w n a b) → (∃ d, Valid n (gD w) (eD w n) d) → drawnB w n = true := fun h1 h2 h3 => drawnB_yes ⟨h1, h2, h3⟩
  have bmod : ∀ x y, ((cmnK w x y n : Int).tmod 2 = 1 ↔ ¬ cmnK w x y n % 2 = 0) := fun x y => by rw [Int.tmod_eq_emod_of_nonneg (by omega)]; omega
  have hci := fun x y (hx : x < n) (hy : y < n) => inter_ref h (by omega) hx hy
  have hcc := fun x y (hx : x < n) (hy : y < n) => common_at h hn hx hy
  have hpr := inters_ref h hn
  have hPl := pairs_lenD (w := w) hn
  have hPa := fun i (hi : i < (pairsK w n n).length) => pairs_at hi
  have hva := fun z => valid_of h (z := z)
  have hov := fun d hd => of_valid (w := w) (n := n) (d := d) hd
  obtain ⟨P, hP⟩ : ∃ P, P = pairsK w n n := ⟨_, rfl⟩
  rw [← hP] at hpr hPl hPa hva hov
  have hPll : @List.length PairTy.T P ≤ 100 := hPl
  obtain ⟨D, hD⟩ : ∃ D, D = drawnB w n := ⟨_, rfl⟩
  rw [← hD] at no1 no2 no3 yes ⊢
  clear hD hP
  obtain ⟨E, hE⟩ : ∃ E : Nat → List Bool, E = fun i => (List.range i).map (evT w n P) := ⟨_, rfl⟩
  have hEl0 : ∀ i, (E i).length = i := fun i => by rw [hE]; simp
  have hEl : ∀ i, @List.length Ty.bool.T (E i) = i := hEl0
  have hPe : @List.length PairTy.T P = P.length := rfl
  have hE0 : [] = E 0 := by rw [hE]; rfl
  have hEs : ∀ i, E i ++ [evT w n P i] = E (i + 1) := fun i => by rw [hE]; simp [List.range_succ]
  have hEg : ∀ m i, i < m → (E m).getD i false = evT w n P i := fun m i hi => by rw [hE]; simp [List.getD, hi]
  obtain ⟨N, hN⟩ : ∃ N : Nat, N = 2 ^ n := ⟨_, rfl⟩
  have hNb := pow_le hn
  rw [← hN] at hNb
  have hNi : (1 : Int) * 2 ^ (n : Int).toNat = (N : Int) := by rw [hN, Int.toNat_natCast, Int.one_mul]; norm_cast
  have hsh : 0 ≤ (n : Int) ∧ (n : Int).toNat ≤ IntKind.i64.bits ∧ InK .i64 (1 * 2 ^ (n : Int).toNat) := ⟨by omega, by show _ ≤ 64; omega, by rw [hNi]; simp only [InK]; omega⟩
  have hbt : ∀ (z : Nat) (b : Nat), z < N → b < n → (((z : Int) / 2 ^ (b : Int).toNat).toNat &&& Int.toNat 1 : Nat) = bitT z b ∧ (0 ≤ (b : Int) ∧ (b : Int).toNat ≤ IntKind.i64.bits) ∧ (0 ≤ (z : Int) / 2 ^ (b : Int).toNat ∧ (0 : Int) ≤ 1 ∧ InK .i64 ((z : Int) / 2 ^ (b : Int).toNat) ∧ InK .i64 1) := fun z b hz hb => by
    have h2 : (z : Int) / 2 ^ b = ((z / 2 ^ b : Nat) : Int) := by norm_cast
    have h3 : z / 2 ^ b ≤ 1024 := Nat.le_trans (Nat.div_le_self _ _) (by omega)
    have h4 := bit_and (k := z) (j := b)
    obtain ⟨q, hq⟩ : ∃ q, q = z / 2 ^ b := ⟨_, rfl⟩
    rw [← hq] at h2 h3 h4
    rw [Int.toNat_natCast, h2, Int.toNat_natCast]
    refine ⟨h4, ⟨by omega, by show _ ≤ 64; omega⟩, by omega, by omega, by simp only [InK]; omega, by simp [InK]⟩
  refine FnAt.of_body tys_ok Try.func37 (by rfl) rfl Try.ntmps37 (by rw [Try.results37]) (by simp) ?_
  
  repeat' (first
 | refine W.seq ?_
 | refine W.block ?_
 | (refine W.region tys_ok [] ?_; conv => whnf)
 | (refine W.drawAll tys_ok [] mixed rfl ?_; conv => whnf)
 | (refine W.ret ?_; conv => whnf)
 | (refine W.skip ?_; conv => whnf)
 | (refine W.exit ?_; conv => whnf)

    | (refine W.cond rfl (fun hb => ?_) (fun hb => ?_) <;> (try simp only [Int.reduceToNat, Int.reduceTDiv, Int.reduceTMod, minL, maxL, pickB, zHB] at hb) <;> (try (first | (cases hb; done) | exact absurd hb (by decide) | (exfalso; omega))))
    | ((with_reducible refine And.intro ?_ ?_); (focus ((repeat' (first | (with_reducible rfl) | (with_reducible refine And.intro ?_ ?_) | omega | rfl | exact Or.inl rfl | exact Or.inr rfl | exact of_decide_eq_true rfl | exact Path.imp_of (of_decide_eq_true rfl) | (focus ((try simp only [Int.reduceToNat, Int.reduceTDiv, Int.reduceTMod, minL, maxL, pickB, zHB, InK, Path.imp, List.length_replicate, List.length_set, List.length_append, List.length_cons, List.length_nil] at *); omega)) | (refine app_le rfl ?_; omega))); done)); (conv => whnf))
    | ((with_reducible refine And.intro (Side.out ?_) ?_); rotate_left; (conv => whnf))
    | (refine retF1 ?_ <;> (conv => whnf) <;> repeat' (first
 | exact trivial
 | (with_reducible rfl)
 | ((with_reducible refine And.intro ?_ ?_) <;> conv => whnf)
 | omega
 | rfl
 | (refine congrArg (SV.arr _) ?_)
 | (refine congrArg (Value.int _) ?_)
 | (refine congrArg Value.bool ?_)))
 | (refine retF2 ?_ <;> (conv => whnf) <;> repeat' (first
 | exact trivial
 | (with_reducible rfl)
 | ((with_reducible refine And.intro ?_ ?_) <;> conv => whnf)
 | omega
 | rfl
 | (refine congrArg (SV.arr _) ?_)
 | (refine congrArg (Value.int _) ?_)
 | (refine congrArg Value.bool ?_)))); all_goals (try unfold Side)
  all_goals try (repeat' (first | (with_reducible rfl) | (with_reducible refine And.intro ?_ ?_) | omega | rfl | exact Or.inl rfl | exact Or.inr rfl | exact of_decide_eq_true rfl | exact Path.imp_of (of_decide_eq_true rfl) | (focus ((try simp only [Int.reduceToNat, Int.reduceTDiv, Int.reduceTMod, minL, maxL, pickB, zHB, InK, Path.imp, List.length_replicate, List.length_set, List.length_append, List.length_cons, List.length_nil] at *); omega)) | (refine app_le rfl ?_; omega)))
  refine W.loop (fun a : Nat => ⟨[(0, .st false (.arr (.int .i64) (w : List Int))), (3, .lit (.int .i64 (n))), (4, .lit (.int .i64 (a)))], []⟩) (fun a => a ≤ n ∧ (∀ x, x < a → C1 w n x) ∧ (∀ x y, y < n → x < a → x ≠ y → C2 w n x y)) (fun a => n - a) (0) ?_ ?_
  · refine ⟨⟨Nat.zero_le _, by omega, by omega⟩, ?_⟩
    refine subF.ok ?_ <;> (conv => whnf) <;> repeat' (first
 | exact trivial
 | (with_reducible rfl)
 | ((with_reducible refine And.intro ?_ ?_) <;> conv => whnf)
 | omega
 | rfl
 | (refine congrArg (SV.arr _) ?_)
 | (refine congrArg (Value.int _) ?_)
 | (refine congrArg Value.bool ?_))
  · rintro a ⟨ha, hc1, hc2⟩
    by_cases han : a < n
    · repeat' (first
 | refine W.seq ?_
 | refine W.block ?_
 | (refine W.region tys_ok [] ?_; conv => whnf)
 | (refine W.drawAll tys_ok [] mixed rfl ?_; conv => whnf)
 | (refine W.ret ?_; conv => whnf)
 | (refine W.skip ?_; conv => whnf)
 | (refine W.exit ?_; conv => whnf)

    | (refine W.cond rfl (fun hb => ?_) (fun hb => ?_) <;> (try simp only [Int.reduceToNat, Int.reduceTDiv, Int.reduceTMod, minL, maxL, pickB, zHB] at hb) <;> (try (first | (cases hb; done) | exact absurd hb (by decide) | (exfalso; omega))))
    | ((with_reducible refine And.intro ?_ ?_); (focus ((repeat' (first | (with_reducible rfl) | (with_reducible refine And.intro ?_ ?_) | omega | rfl | exact Or.inl rfl | exact Or.inr rfl | exact of_decide_eq_true rfl | exact Path.imp_of (of_decide_eq_true rfl) | (focus ((try simp only [Int.reduceToNat, Int.reduceTDiv, Int.reduceTMod, minL, maxL, pickB, zHB, InK, Path.imp, List.length_replicate, List.length_set, List.length_append, List.length_cons, List.length_nil] at *); omega)) | (refine app_le rfl ?_; omega))); done)); (conv => whnf))
    | ((with_reducible refine And.intro (Side.out ?_) ?_); rotate_left; (conv => whnf))
    | (refine retF1 ?_ <;> (conv => whnf) <;> repeat' (first
 | exact trivial
 | (with_reducible rfl)
 | ((with_reducible refine And.intro ?_ ?_) <;> conv => whnf)
 | omega
 | rfl
 | (refine congrArg (SV.arr _) ?_)
 | (refine congrArg (Value.int _) ?_)
 | (refine congrArg Value.bool ?_)))
 | (refine retF2 ?_ <;> (conv => whnf) <;> repeat' (first
 | exact trivial
 | (with_reducible rfl)
 | ((with_reducible refine And.intro ?_ ?_) <;> conv => whnf)
 | omega
 | rfl
 | (refine congrArg (SV.arr _) ?_)
 | (refine congrArg (Value.int _) ?_)
 | (refine congrArg Value.bool ?_)))); all_goals (try unfold Side)
      all_goals try (repeat' (first | (with_reducible rfl) | (with_reducible refine And.intro ?_ ?_) | omega | rfl | exact Or.inl rfl | exact Or.inr rfl | exact of_decide_eq_true rfl | exact Path.imp_of (of_decide_eq_true rfl) | (focus ((try simp only [Int.reduceToNat, Int.reduceTDiv, Int.reduceTMod, minL, maxL, pickB, zHB, InK, Path.imp, List.length_replicate, List.length_set, List.length_append, List.length_cons, List.length_nil] at *); omega)) | (refine app_le rfl ?_; omega)))
      refine W.loop (fun b : Nat => ⟨[(0, .st false (.arr (.int .i64) (w : List Int))), (3, .lit (.int .i64 (n))), (4, .lit (.int .i64 (a))), (5, .lit (.int .i64 ((cmnK w a a b : Nat)))), (6, .lit (.int .i64 (b)))], []⟩) (fun b => b ≤ n ∧ (∀ y, y < b → a ≠ y → C2 w n a y)) (fun b => n - b) (0) ?_ ?_
      · refine ⟨⟨Nat.zero_le _, by omega⟩, ?_⟩
        refine subF.ok ?_ <;> (conv => whnf) <;> repeat' (first
 | exact trivial
 | (with_reducible rfl)
 | ((with_reducible refine And.intro ?_ ?_) <;> conv => whnf)
 | omega
 | rfl
 | (refine congrArg (SV.arr _) ?_)
 | (refine congrArg (Value.int _) ?_)
 | (refine congrArg Value.bool ?_))
      · rintro b ⟨hb, hcy⟩
        have hle := cmnK_le (w := w) (x := a) (y := a) (k := b)
        by_cases hbn : b < n
        · by_cases hab : a = b
          · have hs := cmnK_self' (w := w) (a := a) (k := b) (by rw [hab]; exact inter_self)
            repeat' (first
 | refine W.seq ?_
 | refine W.block ?_
 | (refine W.region tys_ok [] ?_; conv => whnf)
 | (refine W.drawAll tys_ok [] mixed rfl ?_; conv => whnf)
 | (refine W.ret ?_; conv => whnf)
 | (refine W.skip ?_; conv => whnf)
 | (refine W.exit ?_; conv => whnf)

    | (refine W.cond rfl (fun hb => ?_) (fun hb => ?_) <;> (try simp only [Int.reduceToNat, Int.reduceTDiv, Int.reduceTMod, minL, maxL, pickB, zHB] at hb) <;> (try (first | (cases hb; done) | exact absurd hb (by decide) | (exfalso; omega))))
    | ((with_reducible refine And.intro ?_ ?_); (focus ((repeat' (first | (with_reducible rfl) | (with_reducible refine And.intro ?_ ?_) | omega | rfl | exact Or.inl rfl | exact Or.inr rfl | exact of_decide_eq_true rfl | exact Path.imp_of (of_decide_eq_true rfl) | (focus ((try simp only [Int.reduceToNat, Int.reduceTDiv, Int.reduceTMod, minL, maxL, pickB, zHB, InK, Path.imp, List.length_replicate, List.length_set, List.length_append, List.length_cons, List.length_nil] at *); omega)) | (refine app_le rfl ?_; omega))); done)); (conv => whnf))
    | ((with_reducible refine And.intro (Side.out ?_) ?_); rotate_left; (conv => whnf))
    | (refine retF1 ?_ <;> (conv => whnf) <;> repeat' (first
 | exact trivial
 | (with_reducible rfl)
 | ((with_reducible refine And.intro ?_ ?_) <;> conv => whnf)
 | omega
 | rfl
 | (refine congrArg (SV.arr _) ?_)
 | (refine congrArg (Value.int _) ?_)
 | (refine congrArg Value.bool ?_)))
 | (refine retF2 ?_ <;> (conv => whnf) <;> repeat' (first
 | exact trivial
 | (with_reducible rfl)
 | ((with_reducible refine And.intro ?_ ?_) <;> conv => whnf)
 | omega
 | rfl
 | (refine congrArg (SV.arr _) ?_)
 | (refine congrArg (Value.int _) ?_)
 | (refine congrArg Value.bool ?_)))); all_goals (try unfold Side)
            all_goals try (repeat' (first | (with_reducible rfl) | (with_reducible refine And.intro ?_ ?_) | omega | rfl | exact Or.inl rfl | exact Or.inr rfl | exact of_decide_eq_true rfl | exact Path.imp_of (of_decide_eq_true rfl) | (focus ((try simp only [Int.reduceToNat, Int.reduceTDiv, Int.reduceTMod, minL, maxL, pickB, zHB, InK, Path.imp, List.length_replicate, List.length_set, List.length_append, List.length_cons, List.length_nil] at *); omega)) | (refine app_le rfl ?_; omega)))
            refine ⟨b + 1, ⟨⟨by omega, fun y hy hne => hcy y (by omega) hne⟩, by omega⟩, ?_⟩
            rw [hs]
            refine subF.ok ?_ <;> (conv => whnf) <;> repeat' (first
 | exact trivial
 | (with_reducible rfl)
 | ((with_reducible refine And.intro ?_ ?_) <;> conv => whnf)
 | omega
 | rfl
 | (refine congrArg (SV.arr _) ?_)
 | (refine congrArg (Value.int _) ?_)
 | (refine congrArg Value.bool ?_))
          · have hi := hci a b han hbn
            have hc := hcc a b han hbn
            have hbl := cmnK_le (w := w) (x := a) (y := b) (k := n)
            cases e : interT w a b with
            | true =>
              have hs := cmnK_self e
              rw [e] at hi
              repeat' (first
 | refine W.seq ?_
 | refine W.block ?_
 | (refine W.region tys_ok [] ?_; conv => whnf)
 | (refine W.drawAll tys_ok [] mixed rfl ?_; conv => whnf)
 | (refine W.ret ?_; conv => whnf)
 | (refine W.skip ?_; conv => whnf)
 | (refine W.exit ?_; conv => whnf)
 | (refine call_at (al := false) (hi) rfl rfl rfl rfl ?_; conv => whnf)
 | (refine call_at (al := false) (hc) rfl rfl rfl rfl ?_; conv => whnf)

    | (refine W.cond rfl (fun hb => ?_) (fun hb => ?_) <;> (try simp only [Int.reduceToNat, Int.reduceTDiv, Int.reduceTMod, minL, maxL, pickB, zHB] at hb) <;> (try (first | (cases hb; done) | exact absurd hb (by decide) | (exfalso; omega))))
    | ((with_reducible refine And.intro ?_ ?_); (focus ((repeat' (first | (with_reducible rfl) | (with_reducible refine And.intro ?_ ?_) | omega | rfl | exact Or.inl rfl | exact Or.inr rfl | exact of_decide_eq_true rfl | exact Path.imp_of (of_decide_eq_true rfl) | (focus ((try simp only [Int.reduceToNat, Int.reduceTDiv, Int.reduceTMod, minL, maxL, pickB, zHB, InK, Path.imp, List.length_replicate, List.length_set, List.length_append, List.length_cons, List.length_nil] at *); omega)) | (refine app_le rfl ?_; omega))); done)); (conv => whnf))
    | ((with_reducible refine And.intro (Side.out ?_) ?_); rotate_left; (conv => whnf))
    | (refine retF1 ?_ <;> (conv => whnf) <;> repeat' (first
 | exact trivial
 | (with_reducible rfl)
 | ((with_reducible refine And.intro ?_ ?_) <;> conv => whnf)
 | omega
 | rfl
 | (refine congrArg (SV.arr _) ?_)
 | (refine congrArg (Value.int _) ?_)
 | (refine congrArg Value.bool ?_)))
 | (refine retF2 ?_ <;> (conv => whnf) <;> repeat' (first
 | exact trivial
 | (with_reducible rfl)
 | ((with_reducible refine And.intro ?_ ?_) <;> conv => whnf)
 | omega
 | rfl
 | (refine congrArg (SV.arr _) ?_)
 | (refine congrArg (Value.int _) ?_)
 | (refine congrArg Value.bool ?_)))); all_goals (try unfold Side)
              all_goals try (repeat' (first | (with_reducible rfl) | (with_reducible refine And.intro ?_ ?_) | omega | rfl | exact Or.inl rfl | exact Or.inr rfl | exact of_decide_eq_true rfl | exact Path.imp_of (of_decide_eq_true rfl) | (focus ((try simp only [Int.reduceToNat, Int.reduceTDiv, Int.reduceTMod, minL, maxL, pickB, zHB, InK, Path.imp, List.length_replicate, List.length_set, List.length_append, List.length_cons, List.length_nil] at *); omega)) | (refine app_le rfl ?_; omega)))
              refine ⟨b + 1, ⟨⟨by omega, fun y hy hne => ?_⟩, by omega⟩, ?_⟩
              · by_cases e2 : y = b
                · subst e2; exact fun h => by rw [e] at h; cases h
                · exact hcy y (by omega) hne
              · rw [hs]
                refine subF.ok ?_ <;> (conv => whnf) <;> repeat' (first
 | exact trivial
 | (with_reducible rfl)
 | ((with_reducible refine And.intro ?_ ?_) <;> conv => whnf)
 | omega
 | rfl
 | (refine congrArg (SV.arr _) ?_)
 | (refine congrArg (Value.int _) ?_)
 | (refine congrArg Value.bool ?_))
            | false =>
              have hs := cmnK_self' e
              rw [e] at hi
              by_cases hc2' : C2 w n a b
              · have hkl : ¬ (cmnK w a b n : Int).tmod 2 = 1 := fun hh => (bmod a b).1 hh (hc2' e)
                repeat' (first
 | refine W.seq ?_
 | refine W.block ?_
 | (refine W.region tys_ok [] ?_; conv => whnf)
 | (refine W.drawAll tys_ok [] mixed rfl ?_; conv => whnf)
 | (refine W.ret ?_; conv => whnf)
 | (refine W.skip ?_; conv => whnf)
 | (refine W.exit ?_; conv => whnf)
 | (refine call_at (al := false) (hi) rfl rfl rfl rfl ?_; conv => whnf)
 | (refine call_at (al := false) (hc) rfl rfl rfl rfl ?_; conv => whnf)

    | (refine W.cond rfl (fun hb => ?_) (fun hb => ?_) <;> (try simp only [Int.reduceToNat, Int.reduceTDiv, Int.reduceTMod, minL, maxL, pickB, zHB] at hb) <;> (try (first | (cases hb; done) | exact absurd hb (by decide) | (exfalso; omega) | (exact absurd hb hkl))))
    | ((with_reducible refine And.intro ?_ ?_); (focus ((repeat' (first | (with_reducible rfl) | (with_reducible refine And.intro ?_ ?_) | omega | rfl | exact Or.inl rfl | exact Or.inr rfl | exact of_decide_eq_true rfl | exact Path.imp_of (of_decide_eq_true rfl) | (focus ((try simp only [Int.reduceToNat, Int.reduceTDiv, Int.reduceTMod, minL, maxL, pickB, zHB, InK, Path.imp, List.length_replicate, List.length_set, List.length_append, List.length_cons, List.length_nil] at *); omega)) | (refine app_le rfl ?_; omega))); done)); (conv => whnf))
    | ((with_reducible refine And.intro (Side.out ?_) ?_); rotate_left; (conv => whnf))
    | (refine retF1 ?_ <;> (conv => whnf) <;> repeat' (first
 | exact trivial
 | (with_reducible rfl)
 | ((with_reducible refine And.intro ?_ ?_) <;> conv => whnf)
 | omega
 | rfl
 | (refine congrArg (SV.arr _) ?_)
 | (refine congrArg (Value.int _) ?_)
 | (refine congrArg Value.bool ?_)))
 | (refine retF2 ?_ <;> (conv => whnf) <;> repeat' (first
 | exact trivial
 | (with_reducible rfl)
 | ((with_reducible refine And.intro ?_ ?_) <;> conv => whnf)
 | omega
 | rfl
 | (refine congrArg (SV.arr _) ?_)
 | (refine congrArg (Value.int _) ?_)
 | (refine congrArg Value.bool ?_)))); all_goals (try unfold Side)
                all_goals try (repeat' (first | (with_reducible rfl) | (with_reducible refine And.intro ?_ ?_) | omega | rfl | exact Or.inl rfl | exact Or.inr rfl | exact of_decide_eq_true rfl | exact Path.imp_of (of_decide_eq_true rfl) | (focus ((try simp only [Int.reduceToNat, Int.reduceTDiv, Int.reduceTMod, minL, maxL, pickB, zHB, InK, Path.imp, List.length_replicate, List.length_set, List.length_append, List.length_cons, List.length_nil] at *); omega)) | (refine app_le rfl ?_; omega)))
                refine ⟨b + 1, ⟨⟨by omega, fun y hy hne => ?_⟩, by omega⟩, ?_⟩
                · by_cases e2 : y = b
                  · subst e2; exact hc2'
                  · exact hcy y (by omega) hne
                · rw [hs]
                  refine subF.ok ?_ <;> (conv => whnf) <;> repeat' (first
 | exact trivial
 | (with_reducible rfl)
 | ((with_reducible refine And.intro ?_ ?_) <;> conv => whnf)
 | omega
 | rfl
 | (refine congrArg (SV.arr _) ?_)
 | (refine congrArg (Value.int _) ?_)
 | (refine congrArg Value.bool ?_))
              · have hno := no2 a b hbn han hab hc2'
                have hkl : (cmnK w a b n : Int).tmod 2 = 1 := (bmod a b).2 fun he => hc2' fun _ => he
                repeat' (first
 | refine W.seq ?_
 | refine W.block ?_
 | (refine W.region tys_ok [] ?_; conv => whnf)
 | (refine W.drawAll tys_ok [] mixed rfl ?_; conv => whnf)
 | (refine W.ret ?_; conv => whnf)
 | (refine W.skip ?_; conv => whnf)
 | (refine W.exit ?_; conv => whnf)
 | (refine call_at (al := false) (hi) rfl rfl rfl rfl ?_; conv => whnf)
 | (refine call_at (al := false) (hc) rfl rfl rfl rfl ?_; conv => whnf)

    | (refine W.cond rfl (fun hb => ?_) (fun hb => ?_) <;> (try simp only [Int.reduceToNat, Int.reduceTDiv, Int.reduceTMod, minL, maxL, pickB, zHB] at hb) <;> (try (first | (cases hb; done) | exact absurd hb (by decide) | (exfalso; omega) | (exact absurd hkl hb))))
    | ((with_reducible refine And.intro ?_ ?_); (focus ((repeat' (first | (with_reducible rfl) | (with_reducible refine And.intro ?_ ?_) | omega | rfl | exact Or.inl rfl | exact Or.inr rfl | exact of_decide_eq_true rfl | exact Path.imp_of (of_decide_eq_true rfl) | (focus ((try simp only [Int.reduceToNat, Int.reduceTDiv, Int.reduceTMod, minL, maxL, pickB, zHB, InK, Path.imp, List.length_replicate, List.length_set, List.length_append, List.length_cons, List.length_nil] at *); omega)) | (refine app_le rfl ?_; omega))); done)); (conv => whnf))
    | ((with_reducible refine And.intro (Side.out ?_) ?_); rotate_left; (conv => whnf))
    | (refine retF1 ?_ <;> (conv => whnf) <;> repeat' (first
 | exact trivial
 | (with_reducible rfl)
 | ((with_reducible refine And.intro ?_ ?_) <;> conv => whnf)
 | omega
 | rfl
 | (refine congrArg (SV.arr _) ?_)
 | (refine congrArg (Value.int _) ?_)
 | (refine congrArg Value.bool ?_)))
 | (refine retF2 ?_ <;> (conv => whnf) <;> repeat' (first
 | exact trivial
 | (with_reducible rfl)
 | ((with_reducible refine And.intro ?_ ?_) <;> conv => whnf)
 | omega
 | rfl
 | (refine congrArg (SV.arr _) ?_)
 | (refine congrArg (Value.int _) ?_)
 | (refine congrArg Value.bool ?_)))); all_goals (try unfold Side)
                all_goals try (repeat' (first | (with_reducible rfl) | (with_reducible refine And.intro ?_ ?_) | omega | rfl | exact Or.inl rfl | exact Or.inr rfl | exact of_decide_eq_true rfl | exact Path.imp_of (of_decide_eq_true rfl) | (focus ((try simp only [Int.reduceToNat, Int.reduceTDiv, Int.reduceTMod, minL, maxL, pickB, zHB, InK, Path.imp, List.length_replicate, List.length_set, List.length_append, List.length_cons, List.length_nil] at *); omega)) | (refine app_le rfl ?_; omega)))
                all_goals exact hno.symm
        · have hbe : n = b := by omega
          subst hbe
          by_cases hc : C1 w n a
          · have hkl : ¬ (cmnK w a a n : Int).tmod 2 = 1 := fun hh => (bmod a a).1 hh hc
            repeat' (first
 | refine W.seq ?_
 | refine W.block ?_
 | (refine W.region tys_ok [] ?_; conv => whnf)
 | (refine W.drawAll tys_ok [] mixed rfl ?_; conv => whnf)
 | (refine W.ret ?_; conv => whnf)
 | (refine W.skip ?_; conv => whnf)
 | (refine W.exit ?_; conv => whnf)

    | (refine W.cond rfl (fun hb => ?_) (fun hb => ?_) <;> (try simp only [Int.reduceToNat, Int.reduceTDiv, Int.reduceTMod, minL, maxL, pickB, zHB] at hb) <;> (try (first | (cases hb; done) | exact absurd hb (by decide) | (exfalso; omega) | (exact absurd hb hkl))))
    | ((with_reducible refine And.intro ?_ ?_); (focus ((repeat' (first | (with_reducible rfl) | (with_reducible refine And.intro ?_ ?_) | omega | rfl | exact Or.inl rfl | exact Or.inr rfl | exact of_decide_eq_true rfl | exact Path.imp_of (of_decide_eq_true rfl) | (focus ((try simp only [Int.reduceToNat, Int.reduceTDiv, Int.reduceTMod, minL, maxL, pickB, zHB, InK, Path.imp, List.length_replicate, List.length_set, List.length_append, List.length_cons, List.length_nil] at *); omega)) | (refine app_le rfl ?_; omega))); done)); (conv => whnf))
    | ((with_reducible refine And.intro (Side.out ?_) ?_); rotate_left; (conv => whnf))
    | (refine retF1 ?_ <;> (conv => whnf) <;> repeat' (first
 | exact trivial
 | (with_reducible rfl)
 | ((with_reducible refine And.intro ?_ ?_) <;> conv => whnf)
 | omega
 | rfl
 | (refine congrArg (SV.arr _) ?_)
 | (refine congrArg (Value.int _) ?_)
 | (refine congrArg Value.bool ?_)))
 | (refine retF2 ?_ <;> (conv => whnf) <;> repeat' (first
 | exact trivial
 | (with_reducible rfl)
 | ((with_reducible refine And.intro ?_ ?_) <;> conv => whnf)
 | omega
 | rfl
 | (refine congrArg (SV.arr _) ?_)
 | (refine congrArg (Value.int _) ?_)
 | (refine congrArg Value.bool ?_)))); all_goals (try unfold Side)
            all_goals try (repeat' (first | (with_reducible rfl) | (with_reducible refine And.intro ?_ ?_) | omega | rfl | exact Or.inl rfl | exact Or.inr rfl | exact of_decide_eq_true rfl | exact Path.imp_of (of_decide_eq_true rfl) | (focus ((try simp only [Int.reduceToNat, Int.reduceTDiv, Int.reduceTMod, minL, maxL, pickB, zHB, InK, Path.imp, List.length_replicate, List.length_set, List.length_append, List.length_cons, List.length_nil] at *); omega)) | (refine app_le rfl ?_; omega)))
            refine ⟨a + 1, ⟨⟨by omega, fun x hx => ?_, fun x y hy hx hne => ?_⟩, by omega⟩, ?_⟩
            · by_cases e : x = a
              · subst e; exact hc
              · exact hc1 x (by omega)
            · by_cases e : x = a
              · subst e; exact hcy y hy hne
              · exact hc2 x y hy (by omega) hne
            · refine subF.ok ?_ <;> (conv => whnf) <;> repeat' (first
 | exact trivial
 | (with_reducible rfl)
 | ((with_reducible refine And.intro ?_ ?_) <;> conv => whnf)
 | omega
 | rfl
 | (refine congrArg (SV.arr _) ?_)
 | (refine congrArg (Value.int _) ?_)
 | (refine congrArg Value.bool ?_))
          · have hno := no1 a han hc
            have hkl : (cmnK w a a n : Int).tmod 2 = 1 := (bmod a a).2 hc
            repeat' (first
 | refine W.seq ?_
 | refine W.block ?_
 | (refine W.region tys_ok [] ?_; conv => whnf)
 | (refine W.drawAll tys_ok [] mixed rfl ?_; conv => whnf)
 | (refine W.ret ?_; conv => whnf)
 | (refine W.skip ?_; conv => whnf)
 | (refine W.exit ?_; conv => whnf)

    | (refine W.cond rfl (fun hb => ?_) (fun hb => ?_) <;> (try simp only [Int.reduceToNat, Int.reduceTDiv, Int.reduceTMod, minL, maxL, pickB, zHB] at hb) <;> (try (first | (cases hb; done) | exact absurd hb (by decide) | (exfalso; omega) | (exact absurd hkl hb))))
    | ((with_reducible refine And.intro ?_ ?_); (focus ((repeat' (first | (with_reducible rfl) | (with_reducible refine And.intro ?_ ?_) | omega | rfl | exact Or.inl rfl | exact Or.inr rfl | exact of_decide_eq_true rfl | exact Path.imp_of (of_decide_eq_true rfl) | (focus ((try simp only [Int.reduceToNat, Int.reduceTDiv, Int.reduceTMod, minL, maxL, pickB, zHB, InK, Path.imp, List.length_replicate, List.length_set, List.length_append, List.length_cons, List.length_nil] at *); omega)) | (refine app_le rfl ?_; omega))); done)); (conv => whnf))
    | ((with_reducible refine And.intro (Side.out ?_) ?_); rotate_left; (conv => whnf))
    | (refine retF1 ?_ <;> (conv => whnf) <;> repeat' (first
 | exact trivial
 | (with_reducible rfl)
 | ((with_reducible refine And.intro ?_ ?_) <;> conv => whnf)
 | omega
 | rfl
 | (refine congrArg (SV.arr _) ?_)
 | (refine congrArg (Value.int _) ?_)
 | (refine congrArg Value.bool ?_)))
 | (refine retF2 ?_ <;> (conv => whnf) <;> repeat' (first
 | exact trivial
 | (with_reducible rfl)
 | ((with_reducible refine And.intro ?_ ?_) <;> conv => whnf)
 | omega
 | rfl
 | (refine congrArg (SV.arr _) ?_)
 | (refine congrArg (Value.int _) ?_)
 | (refine congrArg Value.bool ?_)))); all_goals (try unfold Side)
            all_goals try (repeat' (first | (with_reducible rfl) | (with_reducible refine And.intro ?_ ?_) | omega | rfl | exact Or.inl rfl | exact Or.inr rfl | exact of_decide_eq_true rfl | exact Path.imp_of (of_decide_eq_true rfl) | (focus ((try simp only [Int.reduceToNat, Int.reduceTDiv, Int.reduceTMod, minL, maxL, pickB, zHB, InK, Path.imp, List.length_replicate, List.length_set, List.length_append, List.length_cons, List.length_nil] at *); omega)) | (refine app_le rfl ?_; omega)))
            all_goals exact hno.symm
    · have hae : n = a := by omega
      subst hae
      repeat' (first
 | refine W.seq ?_
 | refine W.block ?_
 | (refine W.region tys_ok [46] ?_; conv => whnf)
 | (refine W.drawAll tys_ok [46] mixed rfl ?_; conv => whnf)
 | (refine W.ret ?_; conv => whnf)
 | (refine W.skip ?_; conv => whnf)
 | (refine W.exit ?_; conv => whnf)
 | (refine call_at (al := false) (hpr) rfl rfl rfl rfl ?_; conv => whnf)

    | (refine W.cond rfl (fun hb => ?_) (fun hb => ?_) <;> (try simp only [Int.reduceToNat, Int.reduceTDiv, Int.reduceTMod, minL, maxL, pickB, zHB] at hb) <;> (try (first | (cases hb; done) | exact absurd hb (by decide) | (exfalso; omega))))
    | ((with_reducible refine And.intro ?_ ?_); (focus ((repeat' (first | (with_reducible rfl) | (with_reducible refine And.intro ?_ ?_) | omega | rfl | exact Or.inl rfl | exact Or.inr rfl | exact of_decide_eq_true rfl | exact Path.imp_of (of_decide_eq_true rfl) | (focus ((try simp only [Int.reduceToNat, Int.reduceTDiv, Int.reduceTMod, minL, maxL, pickB, zHB, InK, Path.imp, List.length_replicate, List.length_set, List.length_append, List.length_cons, List.length_nil] at *); omega)) | (refine app_le rfl ?_; omega))); done)); (conv => whnf))
    | ((with_reducible refine And.intro (Side.out ?_) ?_); rotate_left; (conv => whnf))
    | (refine retF1 ?_ <;> (conv => whnf) <;> repeat' (first
 | exact trivial
 | (with_reducible rfl)
 | ((with_reducible refine And.intro ?_ ?_) <;> conv => whnf)
 | omega
 | rfl
 | (refine congrArg (SV.arr _) ?_)
 | (refine congrArg (Value.int _) ?_)
 | (refine congrArg Value.bool ?_)))
 | (refine retF2 ?_ <;> (conv => whnf) <;> repeat' (first
 | exact trivial
 | (with_reducible rfl)
 | ((with_reducible refine And.intro ?_ ?_) <;> conv => whnf)
 | omega
 | rfl
 | (refine congrArg (SV.arr _) ?_)
 | (refine congrArg (Value.int _) ?_)
 | (refine congrArg Value.bool ?_)))); all_goals (try unfold Side)
      all_goals try (repeat' (first | (with_reducible rfl) | (with_reducible refine And.intro ?_ ?_) | omega | rfl | exact Or.inl rfl | exact Or.inr rfl | exact of_decide_eq_true rfl | exact Path.imp_of (of_decide_eq_true rfl) | (focus ((try simp only [Int.reduceToNat, Int.reduceTDiv, Int.reduceTMod, minL, maxL, pickB, zHB, InK, Path.imp, List.length_replicate, List.length_set, List.length_append, List.length_cons, List.length_nil] at *); omega)) | (refine app_le rfl ?_; omega)))
      refine W.loop (fun i : Nat => ⟨[(0, .st false (.arr (.int .i64) (w : List Int))), (3, .lit (.int .i64 (n))), (7, .st true (.arr PairTy P)), (8, .own 900008), (9, .lit (.int .i64 (i)))], [(900008, .row 4 .bool true (E i))]⟩) (fun i => i ≤ P.length) (fun i => P.length - i) (0) ?_ ?_
      · refine ⟨Nat.zero_le _, ?_⟩
        refine subF.ok ?_ <;> (conv => whnf) <;> repeat' (first
 | exact trivial
 | (with_reducible rfl)
 | ((with_reducible refine And.intro ?_ ?_) <;> conv => whnf)
 | omega
 | rfl
 | (refine congrArg (SV.arr _) ?_)
 | (refine congrArg (Value.int _) ?_)
 | (refine congrArg Value.bool ?_))
        all_goals exact hE0
      · intro i hi
        have hel := hEl i
        by_cases hil : i < P.length
        · obtain ⟨x, y, hxy, hyn, hin, hxye⟩ := hPa i hil
          have hx : (P.getD i (0, 0, ())).1 = (x : Int) := by rw [hxye]
          have hy : (P.getD i (0, 0, ())).2.1 = (y : Int) := by rw [hxye]
          have hc := hcc x y (by omega) hyn
          have hbl := cmnK_le (w := w) (x := x) (y := y) (k := n)
          have hev : evT w n P i = decide ((cmnK w x y n : Int).tmod 2 = 0) := by unfold evT; rw [hx, hy, Int.toNat_natCast, Int.toNat_natCast]
          have hes := hEs i
          rw [hev] at hes
          rw [← hx, ← hy] at hc
          repeat' (first
 | refine W.seq ?_
 | refine W.block ?_
 | (refine W.drawPh (id := 20) tys_ok [] mixed [0, 0, 0, 0, 12, 16, 32, 0, 0, 384, 512, 1024, 2114, 4096, 8192, 16384, 36865, 131071] [([0, 1, 2, 3, 4, 5, 6, 7, 8, 9, 10, 11], 1, 8191), ([13, 14], 1, 65535), ([], 1, 131071), ([17], 0, 262143)] (by decide +kernel) ?_; conv => whnf)
 | (refine W.region tys_ok [] ?_; conv => whnf)
 | (refine W.drawAll tys_ok [] mixed rfl ?_; conv => whnf)
 | (refine W.ret ?_; conv => whnf)
 | (refine W.skip ?_; conv => whnf)
 | (refine W.exit ?_; conv => whnf)
 | (refine call_at (al := false) (hc) rfl rfl rfl rfl ?_; conv => whnf)

    | (refine Both.mk ?_ ?_ <;> (conv => whnf))
    | (refine subF.leaf ?_ <;> (conv => whnf) <;> repeat' (first
 | exact trivial
 | (with_reducible rfl)
 | ((with_reducible refine And.intro ?_ ?_) <;> conv => whnf)
 | omega
 | rfl
 | (refine congrArg (SV.arr _) ?_)
 | (refine congrArg (Value.int _) ?_)
 | (refine congrArg Value.bool ?_)))
 | (refine subF.side ?_ <;> (conv => whnf) <;> repeat' (first
 | exact trivial
 | (with_reducible rfl)
 | ((with_reducible refine And.intro ?_ ?_) <;> conv => whnf)
 | omega
 | rfl
 | (refine congrArg (SV.arr _) ?_)
 | (refine congrArg (Value.int _) ?_)
 | (refine congrArg Value.bool ?_)))
 | (refine W.cond rfl (fun hb => ?_) (fun hb => ?_) <;> (try simp only [Int.reduceToNat, Int.reduceTDiv, Int.reduceTMod, minL, maxL, pickB, zHB] at hb) <;> (try (first | (cases hb; done) | exact absurd hb (by decide) | (exfalso; omega))))
 | ((with_reducible refine And.intro ?_ ?_); (focus ((repeat' (first | (with_reducible rfl) | (with_reducible refine And.intro ?_ ?_) | omega | rfl | exact Or.inl rfl | exact Or.inr rfl | exact of_decide_eq_true rfl | exact Path.imp_of (of_decide_eq_true rfl) | (focus ((try simp only [Int.reduceToNat, Int.reduceTDiv, Int.reduceTMod, minL, maxL, pickB, zHB, InK, Path.imp, List.length_replicate, List.length_set, List.length_append, List.length_cons, List.length_nil] at *); omega)) | (refine app_le rfl ?_; omega))); done)); (conv => whnf))
 | ((with_reducible refine And.intro (Side.out ?_) ?_); rotate_left; (conv => whnf))
 | (refine retF1 ?_ <;> (conv => whnf) <;> repeat' (first
 | exact trivial
 | (with_reducible rfl)
 | ((with_reducible refine And.intro ?_ ?_) <;> conv => whnf)
 | omega
 | rfl
 | (refine congrArg (SV.arr _) ?_)
 | (refine congrArg (Value.int _) ?_)
 | (refine congrArg Value.bool ?_)))
 | (refine retF2 ?_ <;> (conv => whnf) <;> repeat' (first
 | exact trivial
 | (with_reducible rfl)
 | ((with_reducible refine And.intro ?_ ?_) <;> conv => whnf)
 | omega
 | rfl
 | (refine congrArg (SV.arr _) ?_)
 | (refine congrArg (Value.int _) ?_)
 | (refine congrArg Value.bool ?_)))); all_goals (try unfold Side)
          all_goals try (repeat' (first | (with_reducible rfl) | (with_reducible refine And.intro ?_ ?_) | omega | rfl | exact Or.inl rfl | exact Or.inr rfl | exact of_decide_eq_true rfl | exact Path.imp_of (of_decide_eq_true rfl) | (focus ((try simp only [Int.reduceToNat, Int.reduceTDiv, Int.reduceTMod, minL, maxL, pickB, zHB, InK, Path.imp, List.length_replicate, List.length_set, List.length_append, List.length_cons, List.length_nil] at *); omega)) | (refine app_le rfl ?_; omega)))
          all_goals (refine ⟨i + 1, ⟨by omega, by omega⟩, ?_⟩)
          all_goals refine subF.ok ?_ <;> (conv => whnf) <;> repeat' (first
 | exact trivial
 | (with_reducible rfl)
 | ((with_reducible refine And.intro ?_ ?_) <;> conv => whnf)
 | omega
 | rfl
 | (refine congrArg (SV.arr _) ?_)
 | (refine congrArg (Value.int _) ?_)
 | (refine congrArg Value.bool ?_))
          all_goals exact hes
        · have hie : P.length = i := by omega
          subst hie
          repeat' (first
 | refine W.seq ?_
 | refine W.block ?_
 | (refine W.region tys_ok [] ?_; conv => whnf)
 | (refine W.drawAll tys_ok [] mixed rfl ?_; conv => whnf)
 | (refine W.ret ?_; conv => whnf)
 | (refine W.skip ?_; conv => whnf)
 | (refine W.exit ?_; conv => whnf)

    | (refine W.cond rfl (fun hb => ?_) (fun hb => ?_) <;> (try simp only [Int.reduceToNat, Int.reduceTDiv, Int.reduceTMod, minL, maxL, pickB, zHB] at hb) <;> (try (first | (cases hb; done) | exact absurd hb (by decide) | (exfalso; omega))))
    | ((with_reducible refine And.intro ?_ ?_); (focus ((repeat' (first | (with_reducible rfl) | (with_reducible refine And.intro ?_ ?_) | omega | rfl | exact Or.inl rfl | exact Or.inr rfl | exact of_decide_eq_true rfl | exact Path.imp_of (of_decide_eq_true rfl) | (focus ((try simp only [Int.reduceToNat, Int.reduceTDiv, Int.reduceTMod, minL, maxL, pickB, zHB, InK, Path.imp, List.length_replicate, List.length_set, List.length_append, List.length_cons, List.length_nil] at *); omega)) | (refine app_le rfl ?_; omega))); done)); (conv => whnf))
    | ((with_reducible refine And.intro (Side.out ?_) ?_); rotate_left; (conv => whnf))
    | (refine retF1 ?_ <;> (conv => whnf) <;> repeat' (first
 | exact trivial
 | (with_reducible rfl)
 | ((with_reducible refine And.intro ?_ ?_) <;> conv => whnf)
 | omega
 | rfl
 | (refine congrArg (SV.arr _) ?_)
 | (refine congrArg (Value.int _) ?_)
 | (refine congrArg Value.bool ?_)))
 | (refine retF2 ?_ <;> (conv => whnf) <;> repeat' (first
 | exact trivial
 | (with_reducible rfl)
 | ((with_reducible refine And.intro ?_ ?_) <;> conv => whnf)
 | omega
 | rfl
 | (refine congrArg (SV.arr _) ?_)
 | (refine congrArg (Value.int _) ?_)
 | (refine congrArg Value.bool ?_)))); all_goals (try unfold Side)
          all_goals try exact Path.imp_of hsh
          all_goals try (repeat' (first | (with_reducible rfl) | (with_reducible refine And.intro ?_ ?_) | omega | rfl | exact Or.inl rfl | exact Or.inr rfl | exact of_decide_eq_true rfl | exact Path.imp_of (of_decide_eq_true rfl) | (focus ((try simp only [Int.reduceToNat, Int.reduceTDiv, Int.reduceTMod, minL, maxL, pickB, zHB, InK, Path.imp, List.length_replicate, List.length_set, List.length_append, List.length_cons, List.length_nil] at *); omega)) | (refine app_le rfl ?_; omega)))
          refine W.loop (fun z : Nat => ⟨[(3, .lit (.int .i64 (n))), (7, .st true (.arr PairTy P)), (8, .st true (.arr .bool (E P.length))), (10, .lit (.int .i64 (z)))], []⟩) (fun z => z ≤ N ∧ (∀ y, y < z → ¬ ∀ i, i < P.length → apT P y i = evT w n P i)) (fun z => N - z) (0) ?_ ?_
          · refine ⟨⟨Nat.zero_le _, by omega⟩, ?_⟩
            refine subF.ok ?_ <;> (conv => whnf) <;> repeat' (first
 | exact trivial
 | (with_reducible rfl)
 | ((with_reducible refine And.intro ?_ ?_) <;> conv => whnf)
 | omega
 | rfl
 | (refine congrArg (SV.arr _) ?_)
 | (refine congrArg (Value.int _) ?_)
 | (refine congrArg Value.bool ?_))
          · rintro z ⟨hz, hnone⟩
            by_cases hzN : z < N
            · repeat' (first
 | refine W.seq ?_
 | refine W.block ?_
 | (refine W.region tys_ok [] ?_; conv => whnf)
 | (refine W.drawAll tys_ok [] mixed rfl ?_; conv => whnf)
 | (refine W.ret ?_; conv => whnf)
 | (refine W.skip ?_; conv => whnf)
 | (refine W.exit ?_; conv => whnf)

    | (refine W.cond rfl (fun hb => ?_) (fun hb => ?_) <;> (try simp only [Int.reduceToNat, Int.reduceTDiv, Int.reduceTMod, minL, maxL, pickB, zHB] at hb) <;> (try (first | (cases hb; done) | exact absurd hb (by decide) | (exfalso; omega))))
    | ((with_reducible refine And.intro ?_ ?_); (focus ((repeat' (first | (with_reducible rfl) | (with_reducible refine And.intro ?_ ?_) | omega | rfl | exact Or.inl rfl | exact Or.inr rfl | exact of_decide_eq_true rfl | exact Path.imp_of (of_decide_eq_true rfl) | (focus ((try simp only [Int.reduceToNat, Int.reduceTDiv, Int.reduceTMod, minL, maxL, pickB, zHB, InK, Path.imp, List.length_replicate, List.length_set, List.length_append, List.length_cons, List.length_nil] at *); omega)) | (refine app_le rfl ?_; omega))); done)); (conv => whnf))
    | ((with_reducible refine And.intro (Side.out ?_) ?_); rotate_left; (conv => whnf))
    | (refine retF1 ?_ <;> (conv => whnf) <;> repeat' (first
 | exact trivial
 | (with_reducible rfl)
 | ((with_reducible refine And.intro ?_ ?_) <;> conv => whnf)
 | omega
 | rfl
 | (refine congrArg (SV.arr _) ?_)
 | (refine congrArg (Value.int _) ?_)
 | (refine congrArg Value.bool ?_)))
 | (refine retF2 ?_ <;> (conv => whnf) <;> repeat' (first
 | exact trivial
 | (with_reducible rfl)
 | ((with_reducible refine And.intro ?_ ?_) <;> conv => whnf)
 | omega
 | rfl
 | (refine congrArg (SV.arr _) ?_)
 | (refine congrArg (Value.int _) ?_)
 | (refine congrArg Value.bool ?_)))); all_goals (try unfold Side)
              all_goals try exact Path.imp_of hsh
              all_goals try (repeat' (first | (with_reducible rfl) | (with_reducible refine And.intro ?_ ?_) | omega | rfl | exact Or.inl rfl | exact Or.inr rfl | exact of_decide_eq_true rfl | exact Path.imp_of (of_decide_eq_true rfl) | (focus ((try simp only [Int.reduceToNat, Int.reduceTDiv, Int.reduceTMod, minL, maxL, pickB, zHB, InK, Path.imp, List.length_replicate, List.length_set, List.length_append, List.length_cons, List.length_nil] at *); omega)) | (refine app_le rfl ?_; omega)))
              refine W.loop (fun v : Nat × Bool => ⟨[(3, .lit (.int .i64 (n))), (7, .st true (.arr PairTy P)), (8, .st true (.arr .bool (E P.length))), (10, .lit (.int .i64 (z))), (11, .lit (.bool (v.2))), (12, .lit (.int .i64 (v.1)))], []⟩) (fun v => v.1 ≤ P.length ∧ (v.2 = true ↔ ∀ i, i < v.1 → apT P z i = evT w n P i) ∧ (v.2 = false → ∃ i, i < P.length ∧ ¬ apT P z i = evT w n P i)) (fun v => P.length - v.1) ((0, true)) ?_ ?_
              · refine ⟨⟨Nat.zero_le _, by simp, by simp⟩, ?_⟩
                refine subF.ok ?_ <;> (conv => whnf) <;> repeat' (first
 | exact trivial
 | (with_reducible rfl)
 | ((with_reducible refine And.intro ?_ ?_) <;> conv => whnf)
 | omega
 | rfl
 | (refine congrArg (SV.arr _) ?_)
 | (refine congrArg (Value.int _) ?_)
 | (refine congrArg Value.bool ?_))
              · rintro ⟨i, ok⟩ ⟨hi, hok1, hok2⟩
                dsimp only at hi hok1 hok2 ⊢
                have hel := hEl P.length
                cases ok with
                | false =>
                  obtain ⟨q, hq1, hq2⟩ := hok2 rfl
                  repeat' (first
 | refine W.seq ?_
 | refine W.block ?_
 | (refine W.region tys_ok [] ?_; conv => whnf)
 | (refine W.drawAll tys_ok [] mixed rfl ?_; conv => whnf)
 | (refine W.ret ?_; conv => whnf)
 | (refine W.skip ?_; conv => whnf)
 | (refine W.exit ?_; conv => whnf)

    | (refine W.cond rfl (fun hb => ?_) (fun hb => ?_) <;> (try simp only [Int.reduceToNat, Int.reduceTDiv, Int.reduceTMod, minL, maxL, pickB, zHB] at hb) <;> (try (first | (cases hb; done) | exact absurd hb (by decide) | (exfalso; omega))))
    | ((with_reducible refine And.intro ?_ ?_); (focus ((repeat' (first | (with_reducible rfl) | (with_reducible refine And.intro ?_ ?_) | omega | rfl | exact Or.inl rfl | exact Or.inr rfl | exact of_decide_eq_true rfl | exact Path.imp_of (of_decide_eq_true rfl) | (focus ((try simp only [Int.reduceToNat, Int.reduceTDiv, Int.reduceTMod, minL, maxL, pickB, zHB, InK, Path.imp, List.length_replicate, List.length_set, List.length_append, List.length_cons, List.length_nil] at *); omega)) | (refine app_le rfl ?_; omega))); done)); (conv => whnf))
    | ((with_reducible refine And.intro (Side.out ?_) ?_); rotate_left; (conv => whnf))
    | (refine retF1 ?_ <;> (conv => whnf) <;> repeat' (first
 | exact trivial
 | (with_reducible rfl)
 | ((with_reducible refine And.intro ?_ ?_) <;> conv => whnf)
 | omega
 | rfl
 | (refine congrArg (SV.arr _) ?_)
 | (refine congrArg (Value.int _) ?_)
 | (refine congrArg Value.bool ?_)))
 | (refine retF2 ?_ <;> (conv => whnf) <;> repeat' (first
 | exact trivial
 | (with_reducible rfl)
 | ((with_reducible refine And.intro ?_ ?_) <;> conv => whnf)
 | omega
 | rfl
 | (refine congrArg (SV.arr _) ?_)
 | (refine congrArg (Value.int _) ?_)
 | (refine congrArg Value.bool ?_)))); all_goals (try unfold Side)
                  all_goals try (repeat' (first | (with_reducible rfl) | (with_reducible refine And.intro ?_ ?_) | omega | rfl | exact Or.inl rfl | exact Or.inr rfl | exact of_decide_eq_true rfl | exact Path.imp_of (of_decide_eq_true rfl) | (focus ((try simp only [Int.reduceToNat, Int.reduceTDiv, Int.reduceTMod, minL, maxL, pickB, zHB, InK, Path.imp, List.length_replicate, List.length_set, List.length_append, List.length_cons, List.length_nil] at *); omega)) | (refine app_le rfl ?_; omega)))
                  refine ⟨z + 1, ⟨⟨by omega, fun y hy => ?_⟩, by omega⟩, ?_⟩
                  · by_cases e : y = z
                    · subst e; exact fun hh => hq2 (hh q hq1)
                    · exact hnone y (by omega)
                  · refine subF.ok ?_ <;> (conv => whnf) <;> repeat' (first
 | exact trivial
 | (with_reducible rfl)
 | ((with_reducible refine And.intro ?_ ?_) <;> conv => whnf)
 | omega
 | rfl
 | (refine congrArg (SV.arr _) ?_)
 | (refine congrArg (Value.int _) ?_)
 | (refine congrArg Value.bool ?_))
                | true =>
                  by_cases hil : i < P.length
                  · obtain ⟨x, y, hxy, hyn, hin, hxye⟩ := hPa i hil
                    have hx : (P.getD i (0, 0, ())).1 = (x : Int) := by rw [hxye]
                    have hy : (P.getD i (0, 0, ())).2.1 = (y : Int) := by rw [hxye]
                    obtain ⟨p1, p2, p3⟩ := hbt z x hzN (by omega)
                    obtain ⟨q1, q2, q3⟩ := hbt z y hzN hyn
                    have hge := hEg P.length i hil
                    have hap : apT P z i = (bitT z x != bitT z y) := by unfold apT; rw [hx, hy, Int.toNat_natCast, Int.toNat_natCast]
                    have hV : ((!decide (((((z : Int) / 2 ^ (x : Int).toNat).toNat &&& Int.toNat 1 : Nat) : Int) = ((((z : Int) / 2 ^ (y : Int).toNat).toNat &&& Int.toNat 1 : Nat) : Int))) == (E P.length).getD i false) = (apT P z i == evT w n P i) := by
                      rw [p1, q1, hge, hap]
                      congr 1
                      have : decide ((bitT z x : Int) = (bitT z y : Int)) = decide (bitT z x = bitT z y) := by rw [decide_eq_decide]; omega
                      rw [this]; rfl
                    rw [← hx] at hV p2 p3
                    rw [← hy] at hV q2 q3
                    repeat' (first
 | refine W.seq ?_
 | refine W.block ?_
 | (refine W.drawPh (id := 28) tys_ok [] mixed [0, 0, 0, 6, 8, 16, 33, 64, 0, 0, 0, 1536, 2048, 4096, 8448, 16384, 32896, 131071] [([0, 1, 2, 3, 4, 5, 6, 7, 8, 9, 10, 11, 12, 13, 14, 15, 16, 17], 0, 262143)] (by decide +kernel) ?_; conv => whnf)
 | (refine W.drawPh (id := 29) tys_ok [] mixed [0, 0, 0, 6, 8, 17, 63] [([0, 1, 2, 3], 1, 31), ([5, 6], 0, 127)] (by decide +kernel) ?_; conv => whnf)
 | (refine W.region tys_ok [] ?_; conv => whnf)
 | (refine W.drawAll tys_ok [] mixed rfl ?_; conv => whnf)
 | (refine W.ret ?_; conv => whnf)
 | (refine W.skip ?_; conv => whnf)
 | (refine W.exit ?_; conv => whnf)

    | (refine Both.mk ?_ ?_ <;> (conv => whnf))
    | (refine subF.leaf ?_ <;> (conv => whnf) <;> repeat' (first
 | exact trivial
 | (with_reducible rfl)
 | ((with_reducible refine And.intro ?_ ?_) <;> conv => whnf)
 | omega
 | rfl
 | (refine congrArg (SV.arr _) ?_)
 | (refine congrArg (Value.int _) ?_)
 | (refine congrArg Value.bool ?_)))
 | (refine subF.side ?_ <;> (conv => whnf) <;> repeat' (first
 | exact trivial
 | (with_reducible rfl)
 | ((with_reducible refine And.intro ?_ ?_) <;> conv => whnf)
 | omega
 | rfl
 | (refine congrArg (SV.arr _) ?_)
 | (refine congrArg (Value.int _) ?_)
 | (refine congrArg Value.bool ?_)))
 | (refine W.cond rfl (fun hb => ?_) (fun hb => ?_) <;> (try simp only [Int.reduceToNat, Int.reduceTDiv, Int.reduceTMod, minL, maxL, pickB, zHB] at hb) <;> (try (first | (cases hb; done) | exact absurd hb (by decide) | (exfalso; omega))))
 | ((with_reducible refine And.intro ?_ ?_); (focus ((repeat' (first | (with_reducible rfl) | (with_reducible refine And.intro ?_ ?_) | omega | rfl | exact Or.inl rfl | exact Or.inr rfl | exact of_decide_eq_true rfl | exact Path.imp_of (of_decide_eq_true rfl) | (focus ((try simp only [Int.reduceToNat, Int.reduceTDiv, Int.reduceTMod, minL, maxL, pickB, zHB, InK, Path.imp, List.length_replicate, List.length_set, List.length_append, List.length_cons, List.length_nil] at *); omega)) | (refine app_le rfl ?_; omega))); done)); (conv => whnf))
 | ((with_reducible refine And.intro (Side.out ?_) ?_); rotate_left; (conv => whnf))
 | (refine retF1 ?_ <;> (conv => whnf) <;> repeat' (first
 | exact trivial
 | (with_reducible rfl)
 | ((with_reducible refine And.intro ?_ ?_) <;> conv => whnf)
 | omega
 | rfl
 | (refine congrArg (SV.arr _) ?_)
 | (refine congrArg (Value.int _) ?_)
 | (refine congrArg Value.bool ?_)))
 | (refine retF2 ?_ <;> (conv => whnf) <;> repeat' (first
 | exact trivial
 | (with_reducible rfl)
 | ((with_reducible refine And.intro ?_ ?_) <;> conv => whnf)
 | omega
 | rfl
 | (refine congrArg (SV.arr _) ?_)
 | (refine congrArg (Value.int _) ?_)
 | (refine congrArg Value.bool ?_)))); all_goals (try unfold Side)
                    all_goals try (repeat' (first | (with_reducible rfl) | (with_reducible refine And.intro ?_ ?_) | omega | rfl | exact Or.inl rfl | exact Or.inr rfl | exact of_decide_eq_true rfl | exact Path.imp_of (of_decide_eq_true rfl) | (focus ((try simp only [Int.reduceToNat, Int.reduceTDiv, Int.reduceTMod, minL, maxL, pickB, zHB, InK, Path.imp, List.length_replicate, List.length_set, List.length_append, List.length_cons, List.length_nil] at *); omega)) | (refine app_le rfl ?_; omega)))
                    all_goals try (first | exact Path.imp_of p2 | exact Path.imp_of p3 | exact Path.imp_of q2 | exact Path.imp_of q3)
                    refine ⟨(i + 1, apT P z i == evT w n P i), ⟨⟨hil, ⟨fun hh q hq => ?_, fun hh => ?_⟩, fun hh => ⟨i, hil, ?_⟩⟩, by dsimp only; omega⟩, ?_⟩
                    · have hq : q < i + 1 := hq
                      by_cases e : q = i
                      · subst e; simpa using hh
                      · exact hok1.1 rfl q (by omega)
                    · have := hh i (Nat.lt_succ_self i)
                      simpa using this
                    · simpa using hh
                    · refine subF.ok ?_ <;> (conv => whnf) <;> repeat' (first
 | exact trivial
 | (with_reducible rfl)
 | ((with_reducible refine And.intro ?_ ?_) <;> conv => whnf)
 | omega
 | rfl
 | (refine congrArg (SV.arr _) ?_)
 | (refine congrArg (Value.int _) ?_)
 | (refine congrArg Value.bool ?_))
                      all_goals exact hV
                  · have hie : P.length = i := by omega
                    subst hie
                    have hy := yes hc1 (fun a b hb ha => hc2 a b (by omega) ha (by omega)) (hva z (hok1.1 rfl))
                    repeat' (first
 | refine W.seq ?_
 | refine W.block ?_
 | (refine W.region tys_ok [] ?_; conv => whnf)
 | (refine W.drawAll tys_ok [] mixed rfl ?_; conv => whnf)
 | (refine W.ret ?_; conv => whnf)
 | (refine W.skip ?_; conv => whnf)
 | (refine W.exit ?_; conv => whnf)

    | (refine W.cond rfl (fun hb => ?_) (fun hb => ?_) <;> (try simp only [Int.reduceToNat, Int.reduceTDiv, Int.reduceTMod, minL, maxL, pickB, zHB] at hb) <;> (try (first | (cases hb; done) | exact absurd hb (by decide) | (exfalso; omega))))
    | ((with_reducible refine And.intro ?_ ?_); (focus ((repeat' (first | (with_reducible rfl) | (with_reducible refine And.intro ?_ ?_) | omega | rfl | exact Or.inl rfl | exact Or.inr rfl | exact of_decide_eq_true rfl | exact Path.imp_of (of_decide_eq_true rfl) | (focus ((try simp only [Int.reduceToNat, Int.reduceTDiv, Int.reduceTMod, minL, maxL, pickB, zHB, InK, Path.imp, List.length_replicate, List.length_set, List.length_append, List.length_cons, List.length_nil] at *); omega)) | (refine app_le rfl ?_; omega))); done)); (conv => whnf))
    | ((with_reducible refine And.intro (Side.out ?_) ?_); rotate_left; (conv => whnf))
    | (refine retF1 ?_ <;> (conv => whnf) <;> repeat' (first
 | exact trivial
 | (with_reducible rfl)
 | ((with_reducible refine And.intro ?_ ?_) <;> conv => whnf)
 | omega
 | rfl
 | (refine congrArg (SV.arr _) ?_)
 | (refine congrArg (Value.int _) ?_)
 | (refine congrArg Value.bool ?_)))
 | (refine retF2 ?_ <;> (conv => whnf) <;> repeat' (first
 | exact trivial
 | (with_reducible rfl)
 | ((with_reducible refine And.intro ?_ ?_) <;> conv => whnf)
 | omega
 | rfl
 | (refine congrArg (SV.arr _) ?_)
 | (refine congrArg (Value.int _) ?_)
 | (refine congrArg Value.bool ?_)))); all_goals (try unfold Side)
                    all_goals try (repeat' (first | (with_reducible rfl) | (with_reducible refine And.intro ?_ ?_) | omega | rfl | exact Or.inl rfl | exact Or.inr rfl | exact of_decide_eq_true rfl | exact Path.imp_of (of_decide_eq_true rfl) | (focus ((try simp only [Int.reduceToNat, Int.reduceTDiv, Int.reduceTMod, minL, maxL, pickB, zHB, InK, Path.imp, List.length_replicate, List.length_set, List.length_append, List.length_cons, List.length_nil] at *); omega)) | (refine app_le rfl ?_; omega)))
                    all_goals exact hy.symm
            · have hze : N = z := by omega
              subst hze
              have hno := no3 fun ⟨d, hd⟩ => hnone _ (by rw [hN]; exact setOf_lt) (hov d hd)
              repeat' (first
 | refine W.seq ?_
 | refine W.block ?_
 | (refine W.region tys_ok [] ?_; conv => whnf)
 | (refine W.drawAll tys_ok [] mixed rfl ?_; conv => whnf)
 | (refine W.ret ?_; conv => whnf)
 | (refine W.skip ?_; conv => whnf)
 | (refine W.exit ?_; conv => whnf)

    | (refine W.cond rfl (fun hb => ?_) (fun hb => ?_) <;> (try simp only [Int.reduceToNat, Int.reduceTDiv, Int.reduceTMod, minL, maxL, pickB, zHB] at hb) <;> (try (first | (cases hb; done) | exact absurd hb (by decide) | (exfalso; omega))))
    | ((with_reducible refine And.intro ?_ ?_); (focus ((repeat' (first | (with_reducible rfl) | (with_reducible refine And.intro ?_ ?_) | omega | rfl | exact Or.inl rfl | exact Or.inr rfl | exact of_decide_eq_true rfl | exact Path.imp_of (of_decide_eq_true rfl) | (focus ((try simp only [Int.reduceToNat, Int.reduceTDiv, Int.reduceTMod, minL, maxL, pickB, zHB, InK, Path.imp, List.length_replicate, List.length_set, List.length_append, List.length_cons, List.length_nil] at *); omega)) | (refine app_le rfl ?_; omega))); done)); (conv => whnf))
    | ((with_reducible refine And.intro (Side.out ?_) ?_); rotate_left; (conv => whnf))
    | (refine retF1 ?_ <;> (conv => whnf) <;> repeat' (first
 | exact trivial
 | (with_reducible rfl)
 | ((with_reducible refine And.intro ?_ ?_) <;> conv => whnf)
 | omega
 | rfl
 | (refine congrArg (SV.arr _) ?_)
 | (refine congrArg (Value.int _) ?_)
 | (refine congrArg Value.bool ?_)))
 | (refine retF2 ?_ <;> (conv => whnf) <;> repeat' (first
 | exact trivial
 | (with_reducible rfl)
 | ((with_reducible refine And.intro ?_ ?_) <;> conv => whnf)
 | omega
 | rfl
 | (refine congrArg (SV.arr _) ?_)
 | (refine congrArg (Value.int _) ?_)
 | (refine congrArg Value.bool ?_)))); all_goals (try unfold Side)
              all_goals try exact Path.imp_of hsh
              all_goals try (repeat' (first | (with_reducible rfl) | (with_reducible refine And.intro ?_ ?_) | omega | rfl | exact Or.inl rfl | exact Or.inr rfl | exact of_decide_eq_true rfl | exact Path.imp_of (of_decide_eq_true rfl) | (focus ((try simp only [Int.reduceToNat, Int.reduceTDiv, Int.reduceTMod, minL, maxL, pickB, zHB, InK, Path.imp, List.length_replicate, List.length_set, List.length_append, List.length_cons, List.length_nil] at *); omega)) | (refine app_le rfl ?_; omega)))
              all_goals exact hno.symm
theorem ScrollDrawn_at (x : List Int) : FnAt Try.prog false 10 [.arr (.int .i64) x] (.lit (.bool true)) [] := by
  obtain ⟨y, hy⟩ : ∃ y, y = x.take 21 := ⟨_, rfl⟩
  have hyl : y.length ≤ 1000 := by rw [hy, List.length_take]; omega
  have hck := check_at y hyl
  by_cases hc : checkT y = 0
  · obtain ⟨n, hw, hn⟩ := checkT_ok hc
    have hp := Drawn_ok hw hn
    have hr := drawn_ref hw hn
    obtain ⟨C, hC⟩ : ∃ C, C = drawnB y n := ⟨_, rfl⟩
    rw [← hC] at hp hr
    refine FnAt.of_body tys_ok Try.func10 (by rfl) rfl Try.ntmps10 (by rw [Try.results10]) (by simp) ?_
  
    repeat' (first
 | refine W.seq ?_
 | refine W.block ?_
 | (refine W.region tys_ok [3, 8] ?_; conv => whnf)
 | (refine W.drawAll tys_ok [3, 8] mixed rfl ?_; conv => whnf)
 | (refine W.ret ?_; conv => whnf)
 | (refine W.skip ?_; conv => whnf)
 | (refine W.exit ?_; conv => whnf)
 | (refine call_at (al := false) (cut_eq hy) rfl rfl rfl rfl ?_; conv => whnf)
 | (refine call_at (al := false) (hp) rfl rfl rfl rfl ?_; conv => whnf)
 | (refine call_at (al := false) (hck) rfl rfl rfl rfl ?_; conv => whnf)
 | (refine call_at (al := false) (hr) rfl rfl rfl rfl ?_; conv => whnf)
 | (refine call_at (al := false) (lives_at) rfl rfl rfl rfl ?_; conv => whnf)

    | (refine W.cond rfl (fun hb => ?_) (fun hb => ?_) <;> (try simp only [Int.reduceToNat, Int.reduceTDiv, Int.reduceTMod, minL, maxL, pickB, zHB] at hb) <;> (try (first | (cases hb; done) | exact absurd hb (by decide) | (exfalso; omega))))
    | ((with_reducible refine And.intro ?_ ?_); (focus ((repeat' (first | (with_reducible rfl) | (with_reducible refine And.intro ?_ ?_) | omega | rfl | exact Or.inl rfl | exact Or.inr rfl | exact of_decide_eq_true rfl | exact Path.imp_of (of_decide_eq_true rfl) | (focus ((try simp only [Int.reduceToNat, Int.reduceTDiv, Int.reduceTMod, minL, maxL, pickB, zHB, InK, Path.imp, List.length_replicate, List.length_set, List.length_append, List.length_cons, List.length_nil] at *); omega)) | (refine app_le rfl ?_; omega))); done)); (conv => whnf))
    | ((with_reducible refine And.intro (Side.out ?_) ?_); rotate_left; (conv => whnf))
    | (refine retF1 ?_ <;> (conv => whnf) <;> repeat' (first
 | exact trivial
 | (with_reducible rfl)
 | ((with_reducible refine And.intro ?_ ?_) <;> conv => whnf)
 | omega
 | rfl
 | (refine congrArg (SV.arr _) ?_)
 | (refine congrArg (Value.int _) ?_)
 | (refine congrArg Value.bool ?_)))
 | (refine retF2 ?_ <;> (conv => whnf) <;> repeat' (first
 | exact trivial
 | (with_reducible rfl)
 | ((with_reducible refine And.intro ?_ ?_) <;> conv => whnf)
 | omega
 | rfl
 | (refine congrArg (SV.arr _) ?_)
 | (refine congrArg (Value.int _) ?_)
 | (refine congrArg Value.bool ?_)))); all_goals (try unfold Side)
    all_goals try (repeat' (first | (with_reducible rfl) | (with_reducible refine And.intro ?_ ?_) | omega | rfl | exact Or.inl rfl | exact Or.inr rfl | exact of_decide_eq_true rfl | exact Path.imp_of (of_decide_eq_true rfl) | (focus ((try simp only [Int.reduceToNat, Int.reduceTDiv, Int.reduceTMod, minL, maxL, pickB, zHB, InK, Path.imp, List.length_replicate, List.length_set, List.length_append, List.length_cons, List.length_nil] at *); omega)) | (refine app_le rfl ?_; omega)))
    all_goals simp [pickB]
  · have hp := Drawn_no hc hyl
    refine FnAt.of_body tys_ok Try.func10 (by rfl) rfl Try.ntmps10 (by rw [Try.results10]) (by simp) ?_
  
    repeat' (first
 | refine W.seq ?_
 | refine W.block ?_
 | (refine W.region tys_ok [3, 8] ?_; conv => whnf)
 | (refine W.drawAll tys_ok [3, 8] mixed rfl ?_; conv => whnf)
 | (refine W.ret ?_; conv => whnf)
 | (refine W.skip ?_; conv => whnf)
 | (refine W.exit ?_; conv => whnf)
 | (refine call_at (al := false) (cut_eq hy) rfl rfl rfl rfl ?_; conv => whnf)
 | (refine call_at (al := false) (hp) rfl rfl rfl rfl ?_; conv => whnf)
 | (refine call_at (al := false) (hck) rfl rfl rfl rfl ?_; conv => whnf)
 | (refine call_at (al := false) (lives_at) rfl rfl rfl rfl ?_; conv => whnf)

    | (refine W.cond rfl (fun hb => ?_) (fun hb => ?_) <;> (try simp only [Int.reduceToNat, Int.reduceTDiv, Int.reduceTMod, minL, maxL, pickB, zHB] at hb) <;> (try (first | (cases hb; done) | exact absurd hb (by decide) | (exfalso; omega))))
    | ((with_reducible refine And.intro ?_ ?_); (focus ((repeat' (first | (with_reducible rfl) | (with_reducible refine And.intro ?_ ?_) | omega | rfl | exact Or.inl rfl | exact Or.inr rfl | exact of_decide_eq_true rfl | exact Path.imp_of (of_decide_eq_true rfl) | (focus ((try simp only [Int.reduceToNat, Int.reduceTDiv, Int.reduceTMod, minL, maxL, pickB, zHB, InK, Path.imp, List.length_replicate, List.length_set, List.length_append, List.length_cons, List.length_nil] at *); omega)) | (refine app_le rfl ?_; omega))); done)); (conv => whnf))
    | ((with_reducible refine And.intro (Side.out ?_) ?_); rotate_left; (conv => whnf))
    | (refine retF1 ?_ <;> (conv => whnf) <;> repeat' (first
 | exact trivial
 | (with_reducible rfl)
 | ((with_reducible refine And.intro ?_ ?_) <;> conv => whnf)
 | omega
 | rfl
 | (refine congrArg (SV.arr _) ?_)
 | (refine congrArg (Value.int _) ?_)
 | (refine congrArg Value.bool ?_)))
 | (refine retF2 ?_ <;> (conv => whnf) <;> repeat' (first
 | exact trivial
 | (with_reducible rfl)
 | ((with_reducible refine And.intro ?_ ?_) <;> conv => whnf)
 | omega
 | rfl
 | (refine congrArg (SV.arr _) ?_)
 | (refine congrArg (Value.int _) ?_)
 | (refine congrArg Value.bool ?_)))); all_goals (try unfold Side)
    all_goals try (repeat' (first | (with_reducible rfl) | (with_reducible refine And.intro ?_ ?_) | omega | rfl | exact Or.inl rfl | exact Or.inr rfl | exact of_decide_eq_true rfl | exact Path.imp_of (of_decide_eq_true rfl) | (focus ((try simp only [Int.reduceToNat, Int.reduceTDiv, Int.reduceTMod, minL, maxL, pickB, zHB, InK, Path.imp, List.length_replicate, List.length_set, List.length_append, List.length_cons, List.length_nil] at *); omega)) | (refine app_le rfl ?_; omega)))
    all_goals simp [pickB]
end Go.Proofs.Ytdfajcfkdfjoeaa
