/- Joined of: S9 Sm7 S10 S11 S13 Sm8 S17 Se3 Se4 Se5 Sm9 S18 S19 Sg1 Sg2 Sg3 Sg4 Sm10 Sg5. No condition. -/
import Derived.Test.YtdfajcfkdfjoeaaJ5

/- The faces of a word with signs: the program's. No condition. -/
namespace Go.Proofs.Ytdfajcfkdfjoeaa
open Go Go.Vc Go.Scr
set_option linter.unusedVariables false
set_option linter.unusedSimpArgs false

theorem mp_add {L : List Int} {x : Int} (h : ¬ x ∈ L) : Ob.mp .i64 .bool (mput (mpT L) x true) (if (mpT L x).isSome = true then L.length else L.length + 1) = Ob.mp .i64 .bool (mpT (L ++ [x])) (L ++ [x]).length := by
  have h1 : mput (mpT L) x true = mpT (L ++ [x]) := by
    funext j
    unfold mput mpT
    by_cases e : j = x
    · subst e; simp
    · simp [e]
  have h2 : (mpT L x).isSome = false := by rw [mpT, if_neg h]; rfl
  have key : ∀ {m m' : Int → Option Bool} {c c' : Nat}, m = m' → c = c' → Ob.mp .i64 .bool m c = Ob.mp .i64 .bool m' c' := by rintro m m' c c' rfl rfl; rfl
  refine key h1 ?_
  rw [h2, List.length_append]; rfl
theorem mp_eq {L M : List Int} (h : L = M) : Ob.mp .i64 .bool (mpT L) L.length = Ob.mp .i64 .bool (mpT M) M.length := by rw [h]
theorem mp_nil {L : List Int} (h : L = []) : Ob.mp .i64 .bool (fun _ => none) 0 = Ob.mp .i64 .bool (mpT L) L.length := by
  subst h
  have : mpT [] = fun _ => none := by funext j; simp [mpT]
  rw [this]; rfl
theorem next_rg {w s : List Int} {n : Nat} (h : Word w n) (hs : signsB s n = true) : ∀ st, -((2 * n : Nat) : Int) ≤ st → st < (2 * n : Nat) → -((2 * n : Nat) : Int) ≤ nextT w s st ∧ nextT w s st < (2 * n : Nat) := fun st h0 h1 => by
  simp only [signsB, Bool.and_eq_true, decide_eq_true_eq] at hs
  obtain ⟨a, x, p, q, hA⟩ := at_of h hs.1 hs.2 h0 h1
  exact hA.rg
set_option maxHeartbeats 4000000 in
theorem faces_at {w s : List Int} {n : Nat} (h : Word w n) (hn : n ≤ 10) (hs : signsB s n = true) : FnAt Try.prog false 48 [curveT n w, .arr (.int .i64) s] (.own 0) [(0, .row 22 (.sl (.int .i64)) true (facesT (nextT w s) (2 * n)))] := by
  have hwl : @List.length (Ty.int .i64).T w = 2 * n := h.len
  have hp := h.pos
  have hr := next_rg h hs
  obtain ⟨nx, hnx⟩ : ∃ nx, nx = nextT w s := ⟨_, rfl⟩
  rw [← hnx] at hr ⊢
  obtain ⟨K, hK⟩ : ∃ K : Nat → List (List Int), K = facesK nx (2 * n) := ⟨_, rfl⟩
  have hK0 : K 0 = [] := by rw [hK]; rfl
  have hKT : K (2 * (2 * n)) = facesT nx (2 * n) := by rw [hK]; rfl
  have hKl : ∀ k, (K k).length ≤ k := fun k => by rw [hK]; exact facesK_len k
  have hKl2 : ∀ k, @List.length (Ty.sl (.int .i64)).T (K k) ≤ k := hKl
  have hok : ∀ k, k ≤ 2 * (2 * n) → (K k).flatten.Nodup ∧ ∀ x ∈ (K k).flatten, -((2 * n : Nat) : Int) ≤ x ∧ x < (2 * n : Nat) := by rw [hK]; exact facesK_ok hr
  have hskip : ∀ k : Nat, (k : Int) - (2 * n : Nat) ∈ (K k).flatten → K (k + 1) = K k := by rw [hK]; exact fun k => facesK_skip
  have hpush : ∀ k : Nat, ¬ (k : Int) - (2 * n : Nat) ∈ (K k).flatten → K (k + 1) = K k ++ [walk nx (K k).flatten (2 * (2 * n) + 1) ((k : Int) - (2 * n : Nat)) []] := by rw [hK]; exact fun k => facesK_push
  refine FnAt.of_body tys_ok Try.func48 (by rfl) rfl Try.ntmps48 (by rw [Try.results48]) (by simp) ?_
  
  repeat' (first
 | refine W.seq ?_
 | refine W.block ?_
 | (refine W.region tys_ok [] ?_; conv => whnf)
 | (refine W.drawAll tys_ok [] mixed rfl ?_; conv => whnf)
 | (refine W.ret ?_; conv => whnf)
 | (refine W.skip ?_; conv => whnf)
 | (refine W.exit ?_; conv => whnf)

    | (refine W.cond rfl (fun hb => ?_) (fun hb => ?_) <;> (try simp only [Int.reduceToNat, Int.reduceTDiv, Int.reduceTMod, minL, maxL, pickB, zHB] at hb) <;> (try (first | (cases hb; done) | exact absurd hb (by decide) | (exfalso; omega))))
    | ((with_reducible refine And.intro ?_ ?_); (focus ((repeat' (first | (with_reducible rfl) | (with_reducible refine And.intro ?_ ?_) | omega | rfl | exact Or.inl rfl | exact Or.inr rfl | exact of_decide_eq_true rfl | exact Path.imp_of (of_decide_eq_true rfl) | (focus ((try simp only [Int.reduceToNat, Int.reduceTDiv, Int.reduceTMod, minL, maxL, pickB, zHB, InK, Path.imp, List.length_replicate, List.length_set, List.length_append, List.length_cons, List.length_nil] at *); omega)) | (refine app_le rfl ?_; omega))); done)); (conv => whnf))
    | ((with_reducible refine And.intro (Side.out ?_) ?_); rotate_left; (conv => whnf))
    | (refine retF1 ?_ <;> (conv => whnf) <;> repeat' (first
 | exact trivial
 | (with_reducible rfl)
 | ((with_reducible refine And.intro ?_ ?_) <;> conv => whnf)
 | omega
 | rfl
 | (refine congrArg (SV.arr _) ?_)
 | (refine congrArg (Value.int _) ?_)
 | (refine congrArg Value.bool ?_)))
 | (refine retF2 ?_ <;> (conv => whnf) <;> repeat' (first
 | exact trivial
 | (with_reducible rfl)
 | ((with_reducible refine And.intro ?_ ?_) <;> conv => whnf)
 | omega
 | rfl
 | (refine congrArg (SV.arr _) ?_)
 | (refine congrArg (Value.int _) ?_)
 | (refine congrArg Value.bool ?_)))); all_goals (try unfold Side)
  all_goals try (repeat' (first | (with_reducible rfl) | (with_reducible refine And.intro ?_ ?_) | omega | rfl | exact Or.inl rfl | exact Or.inr rfl | exact of_decide_eq_true rfl | exact Path.imp_of (of_decide_eq_true rfl) | (focus ((try simp only [Int.reduceToNat, Int.reduceTDiv, Int.reduceTMod, minL, maxL, pickB, zHB, InK, Path.imp, List.length_replicate, List.length_set, List.length_append, List.length_cons, List.length_nil] at *); omega)) | (refine app_le rfl ?_; omega)))
  refine W.loop (fun k : Nat => ⟨[(0, .st false (curveT n w)), (1, .st false (.arr (.int .i64) (s : List Int))), (5, .own 900005), (6, .own 900006), (7, .lit (.int .i64 ((2 * n : Nat)))), (8, .lit (.int .i64 ((k : Int) - (2 * n : Nat))))], [(900005, .row 22 (.sl (.int .i64)) true (K k : List (List Int))), (900006, .mp .i64 .bool (mpT (K k).flatten) (K k).flatten.length)]⟩) (fun k => k ≤ 2 * (2 * n)) (fun k => 2 * (2 * n) - k) (0) ?_ ?_
  · refine ⟨Nat.zero_le _, ?_⟩
    refine subF.ok ?_ <;> (conv => whnf) <;> repeat' (first
 | exact trivial
 | (with_reducible rfl)
 | ((with_reducible refine And.intro ?_ ?_) <;> conv => whnf)
 | omega
 | rfl
 | (refine congrArg (SV.arr _) ?_)
 | (refine congrArg (Value.int _) ?_)
 | (refine congrArg Value.bool ?_))
    · exact hK0
    · exact mp_nil (by rw [hK0]; rfl)
  · intro k hk
    have hlk := hKl2 k
    by_cases hil : k < 2 * (2 * n)
    · by_cases hm : (k : Int) - (2 * n : Nat) ∈ (K k).flatten
      · have hv := mpT_in hm
        repeat' (first
 | refine W.seq ?_
 | refine W.block ?_
 | (refine W.region tys_ok [] ?_; conv => whnf)
 | (refine W.drawAll tys_ok [] mixed rfl ?_; conv => whnf)
 | (refine W.ret ?_; conv => whnf)
 | (refine W.skip ?_; conv => whnf)
 | (refine W.exit ?_; conv => whnf)

    | (refine W.cond rfl (fun hb => ?_) (fun hb => ?_) <;> (try simp only [Int.reduceToNat, Int.reduceTDiv, Int.reduceTMod, minL, maxL, pickB, zHB] at hb) <;> (try (first | (cases hb; done) | exact absurd hb (by decide) | (exfalso; omega) | (exact absurd (hb.symm.trans hv) (by decide)))))
    | ((with_reducible refine And.intro ?_ ?_); (focus ((repeat' (first | (with_reducible rfl) | (with_reducible refine And.intro ?_ ?_) | omega | rfl | exact Or.inl rfl | exact Or.inr rfl | exact of_decide_eq_true rfl | exact Path.imp_of (of_decide_eq_true rfl) | (focus ((try simp only [Int.reduceToNat, Int.reduceTDiv, Int.reduceTMod, minL, maxL, pickB, zHB, InK, Path.imp, List.length_replicate, List.length_set, List.length_append, List.length_cons, List.length_nil] at *); omega)) | (refine app_le rfl ?_; omega))); done)); (conv => whnf))
    | ((with_reducible refine And.intro (Side.out ?_) ?_); rotate_left; (conv => whnf))
    | (refine retF1 ?_ <;> (conv => whnf) <;> repeat' (first
 | exact trivial
 | (with_reducible rfl)
 | ((with_reducible refine And.intro ?_ ?_) <;> conv => whnf)
 | omega
 | rfl
 | (refine congrArg (SV.arr _) ?_)
 | (refine congrArg (Value.int _) ?_)
 | (refine congrArg Value.bool ?_)))
 | (refine retF2 ?_ <;> (conv => whnf) <;> repeat' (first
 | exact trivial
 | (with_reducible rfl)
 | ((with_reducible refine And.intro ?_ ?_) <;> conv => whnf)
 | omega
 | rfl
 | (refine congrArg (SV.arr _) ?_)
 | (refine congrArg (Value.int _) ?_)
 | (refine congrArg Value.bool ?_)))); all_goals (try unfold Side)
        all_goals try (repeat' (first | (with_reducible rfl) | (with_reducible refine And.intro ?_ ?_) | omega | rfl | exact Or.inl rfl | exact Or.inr rfl | exact of_decide_eq_true rfl | exact Path.imp_of (of_decide_eq_true rfl) | (focus ((try simp only [Int.reduceToNat, Int.reduceTDiv, Int.reduceTMod, minL, maxL, pickB, zHB, InK, Path.imp, List.length_replicate, List.length_set, List.length_append, List.length_cons, List.length_nil] at *); omega)) | (refine app_le rfl ?_; omega)))
        refine ⟨k + 1, ⟨by omega, by omega⟩, ?_⟩
        rw [hskip k hm]
        refine subF.ok ?_ <;> (conv => whnf) <;> repeat' (first
 | exact trivial
 | (with_reducible rfl)
 | ((with_reducible refine And.intro ?_ ?_) <;> conv => whnf)
 | omega
 | rfl
 | (refine congrArg (SV.arr _) ?_)
 | (refine congrArg (Value.int _) ?_)
 | (refine congrArg Value.bool ?_))
      · have hv := mpT_out hm
        obtain ⟨nd, rg⟩ := hok k (by omega)
        obtain ⟨F, hF⟩ : ∃ F, F = walk nx (K k).flatten (2 * (2 * n) + 1) ((k : Int) - (2 * n : Nat)) [] := ⟨_, rfl⟩
        have hpk := hpush k hm
        rw [← hF] at hpk
        repeat' (first
 | refine W.seq ?_
 | refine W.block ?_
 | (refine W.region tys_ok [] ?_; conv => whnf)
 | (refine W.drawAll tys_ok [] mixed rfl ?_; conv => whnf)
 | (refine W.ret ?_; conv => whnf)
 | (refine W.skip ?_; conv => whnf)
 | (refine W.exit ?_; conv => whnf)

    | (refine W.cond rfl (fun hb => ?_) (fun hb => ?_) <;> (try simp only [Int.reduceToNat, Int.reduceTDiv, Int.reduceTMod, minL, maxL, pickB, zHB] at hb) <;> (try (first | (cases hb; done) | exact absurd hb (by decide) | (exfalso; omega) | (exact absurd (hb.symm.trans hv) (by decide)))))
    | ((with_reducible refine And.intro ?_ ?_); (focus ((repeat' (first | (with_reducible rfl) | (with_reducible refine And.intro ?_ ?_) | omega | rfl | exact Or.inl rfl | exact Or.inr rfl | exact of_decide_eq_true rfl | exact Path.imp_of (of_decide_eq_true rfl) | (focus ((try simp only [Int.reduceToNat, Int.reduceTDiv, Int.reduceTMod, minL, maxL, pickB, zHB, InK, Path.imp, List.length_replicate, List.length_set, List.length_append, List.length_cons, List.length_nil] at *); omega)) | (refine app_le rfl ?_; omega))); done)); (conv => whnf))
    | ((with_reducible refine And.intro (Side.out ?_) ?_); rotate_left; (conv => whnf))
    | (refine retF1 ?_ <;> (conv => whnf) <;> repeat' (first
 | exact trivial
 | (with_reducible rfl)
 | ((with_reducible refine And.intro ?_ ?_) <;> conv => whnf)
 | omega
 | rfl
 | (refine congrArg (SV.arr _) ?_)
 | (refine congrArg (Value.int _) ?_)
 | (refine congrArg Value.bool ?_)))
 | (refine retF2 ?_ <;> (conv => whnf) <;> repeat' (first
 | exact trivial
 | (with_reducible rfl)
 | ((with_reducible refine And.intro ?_ ?_) <;> conv => whnf)
 | omega
 | rfl
 | (refine congrArg (SV.arr _) ?_)
 | (refine congrArg (Value.int _) ?_)
 | (refine congrArg Value.bool ?_)))); all_goals (try unfold Side)
        all_goals try (repeat' (first | (with_reducible rfl) | (with_reducible refine And.intro ?_ ?_) | omega | rfl | exact Or.inl rfl | exact Or.inr rfl | exact of_decide_eq_true rfl | exact Path.imp_of (of_decide_eq_true rfl) | (focus ((try simp only [Int.reduceToNat, Int.reduceTDiv, Int.reduceTMod, minL, maxL, pickB, zHB, InK, Path.imp, List.length_replicate, List.length_set, List.length_append, List.length_cons, List.length_nil] at *); omega)) | (refine app_le rfl ?_; omega)))
        refine W.loop (fun z : List Int × Int => ⟨[(0, .st false (curveT n w)), (1, .st false (.arr (.int .i64) (s : List Int))), (5, .own 900005), (6, .own 900006), (7, .lit (.int .i64 ((2 * n : Nat)))), (8, .lit (.int .i64 ((k : Int) - (2 * n : Nat)))), (9, .own 900009), (10, .lit (.int .i64 (z.2)))], [(900005, .row 22 (.sl (.int .i64)) true (K k : List (List Int))), (900006, .mp .i64 .bool (mpT ((K k).flatten ++ z.1)) ((K k).flatten ++ z.1).length), (900009, .row 3 (.int .i64) true (z.1 : List Int))]⟩) (fun z => Wk nx (2 * n) (K k).flatten ((k : Int) - (2 * n : Nat)) z.2 z.1 ∧ walk nx (K k).flatten (2 * (2 * n) + 1 - z.1.length) z.2 z.1 = F) (fun z => 2 * (2 * n) - ((K k).flatten.length + z.1.length)) (([], (k : Int) - (2 * n : Nat))) ?_ ?_
        · refine ⟨⟨Wk.init nd rg (by omega) (by omega), hF.symm⟩, ?_⟩
          refine subF.ok ?_ <;> (conv => whnf) <;> repeat' (first
 | exact trivial
 | (with_reducible rfl)
 | ((with_reducible refine And.intro ?_ ?_) <;> conv => whnf)
 | omega
 | rfl
 | (refine congrArg (SV.arr _) ?_)
 | (refine congrArg (Value.int _) ?_)
 | (refine congrArg Value.bool ?_))
          · exact mp_eq (by simp)
        · rintro ⟨face, st⟩ ⟨hw, hf⟩
          dsimp only at hw hf ⊢
          have hlen := hw.len
          have hfl : @List.length (Ty.int .i64).T face ≤ 2 * (2 * n) := by show face.length ≤ _; omega
          have hst := hw.st
          have hrs := hr st hst.1 hst.2
          by_cases hms : st ∈ (K k).flatten ∨ st ∈ face
          · have hv2 := mpT_in (List.mem_append.2 hms)
            rw [walk_end hfl hms] at hf
            subst hf
            repeat' (first
 | refine W.seq ?_
 | refine W.block ?_
 | (refine W.resub (x := Code.region 14 _ _) (Γ' := ⟨[(0, .st false (curveT n w)), (1, .st false (.arr (.int .i64) (s : List Int))), (5, .own 900005), (6, .own 900006), (7, .lit (.int .i64 ((2 * n : Nat)))), (8, .lit (.int .i64 ((k : Int) - (2 * n : Nat)))), (9, .st true (.arr (.int .i64) (face : List Int)))], [(900005, .row 22 (.sl (.int .i64)) true (K k : List (List Int))), (900006, .mp .i64 .bool (mpT ((K k).flatten ++ face)) ((K k).flatten ++ face).length)]⟩) ?_ (W.region tys_ok [] ?_); rotate_left; (conv => whnf))
 | (refine W.region tys_ok [] ?_; conv => whnf)
 | (refine W.drawAll tys_ok [] mixed rfl ?_; conv => whnf)
 | (refine W.ret ?_; conv => whnf)
 | (refine W.skip ?_; conv => whnf)
 | (refine W.exit ?_; conv => whnf)

    | (refine W.cond rfl (fun hb => ?_) (fun hb => ?_) <;> (try simp only [Int.reduceToNat, Int.reduceTDiv, Int.reduceTMod, minL, maxL, pickB, zHB] at hb) <;> (try (first | (cases hb; done) | exact absurd hb (by decide) | (exfalso; omega) | (exact absurd (hb.symm.trans (congrArg (fun b : Bool => !b) hv2)) (by decide)))))
    | ((with_reducible refine And.intro ?_ ?_); (focus ((repeat' (first | (with_reducible rfl) | (with_reducible refine And.intro ?_ ?_) | omega | rfl | exact Or.inl rfl | exact Or.inr rfl | exact of_decide_eq_true rfl | exact Path.imp_of (of_decide_eq_true rfl) | (focus ((try simp only [Int.reduceToNat, Int.reduceTDiv, Int.reduceTMod, minL, maxL, pickB, zHB, InK, Path.imp, List.length_replicate, List.length_set, List.length_append, List.length_cons, List.length_nil] at *); omega)) | (refine app_le rfl ?_; omega))); done)); (conv => whnf))
    | ((with_reducible refine And.intro (Side.out ?_) ?_); rotate_left; (conv => whnf))
    | (refine retF1 ?_ <;> (conv => whnf) <;> repeat' (first
 | exact trivial
 | (with_reducible rfl)
 | ((with_reducible refine And.intro ?_ ?_) <;> conv => whnf)
 | omega
 | rfl
 | (refine congrArg (SV.arr _) ?_)
 | (refine congrArg (Value.int _) ?_)
 | (refine congrArg Value.bool ?_)))
 | (refine retF2 ?_ <;> (conv => whnf) <;> repeat' (first
 | exact trivial
 | (with_reducible rfl)
 | ((with_reducible refine And.intro ?_ ?_) <;> conv => whnf)
 | omega
 | rfl
 | (refine congrArg (SV.arr _) ?_)
 | (refine congrArg (Value.int _) ?_)
 | (refine congrArg Value.bool ?_)))); all_goals (try unfold Side)
            all_goals try (repeat' (first | (with_reducible rfl) | (with_reducible refine And.intro ?_ ?_) | omega | rfl | exact Or.inl rfl | exact Or.inr rfl | exact of_decide_eq_true rfl | exact Path.imp_of (of_decide_eq_true rfl) | (focus ((try simp only [Int.reduceToNat, Int.reduceTDiv, Int.reduceTMod, minL, maxL, pickB, zHB, InK, Path.imp, List.length_replicate, List.length_set, List.length_append, List.length_cons, List.length_nil] at *); omega)) | (refine app_le rfl ?_; omega)))
            · refine ⟨k + 1, ⟨by omega, by omega⟩, ?_⟩
              rw [hpk]
              refine subF.ok ?_ <;> (conv => whnf) <;> repeat' (first
 | exact trivial
 | (with_reducible rfl)
 | ((with_reducible refine And.intro ?_ ?_) <;> conv => whnf)
 | omega
 | rfl
 | (refine congrArg (SV.arr _) ?_)
 | (refine congrArg (Value.int _) ?_)
 | (refine congrArg Value.bool ?_))
              all_goals exact mp_eq (by simp)
            · refine subF.ok ?_ <;> (conv => whnf) <;> repeat' (first
 | exact trivial
 | (with_reducible rfl)
 | ((with_reducible refine And.intro ?_ ?_) <;> conv => whnf)
 | omega
 | rfl
 | (refine congrArg (SV.arr _) ?_)
 | (refine congrArg (Value.int _) ?_)
 | (refine congrArg Value.bool ?_))
          · have hv2 := mpT_out (fun h => hms (List.mem_append.1 h))
            have hadd := mp_add (fun h => hms (List.mem_append.1 h))
            rw [walk_more hfl hms] at hf
            have hnext := next_at h hn hs hst.1 hst.2
            rw [← hnx] at hnext
            repeat' (first
 | refine W.seq ?_
 | refine W.block ?_
 | (refine W.region tys_ok [] ?_; conv => whnf)
 | (refine W.drawAll tys_ok [] mixed rfl ?_; conv => whnf)
 | (refine W.ret ?_; conv => whnf)
 | (refine W.skip ?_; conv => whnf)
 | (refine W.exit ?_; conv => whnf)
 | (refine call_at (al := false) (hnext) rfl rfl rfl rfl ?_; conv => whnf)

    | (refine W.cond rfl (fun hb => ?_) (fun hb => ?_) <;> (try simp only [Int.reduceToNat, Int.reduceTDiv, Int.reduceTMod, minL, maxL, pickB, zHB] at hb) <;> (try (first | (cases hb; done) | exact absurd hb (by decide) | (exfalso; omega) | (exact absurd (hb.symm.trans (congrArg (fun b : Bool => !b) hv2)) (by decide)))))
    | ((with_reducible refine And.intro ?_ ?_); (focus ((repeat' (first | (with_reducible rfl) | (with_reducible refine And.intro ?_ ?_) | omega | rfl | exact Or.inl rfl | exact Or.inr rfl | exact of_decide_eq_true rfl | exact Path.imp_of (of_decide_eq_true rfl) | (focus ((try simp only [Int.reduceToNat, Int.reduceTDiv, Int.reduceTMod, minL, maxL, pickB, zHB, InK, Path.imp, List.length_replicate, List.length_set, List.length_append, List.length_cons, List.length_nil] at *); omega)) | (refine app_le rfl ?_; omega))); done)); (conv => whnf))
    | ((with_reducible refine And.intro (Side.out ?_) ?_); rotate_left; (conv => whnf))
    | (refine retF1 ?_ <;> (conv => whnf) <;> repeat' (first
 | exact trivial
 | (with_reducible rfl)
 | ((with_reducible refine And.intro ?_ ?_) <;> conv => whnf)
 | omega
 | rfl
 | (refine congrArg (SV.arr _) ?_)
 | (refine congrArg (Value.int _) ?_)
 | (refine congrArg Value.bool ?_)))
 | (refine retF2 ?_ <;> (conv => whnf) <;> repeat' (first
 | exact trivial
 | (with_reducible rfl)
 | ((with_reducible refine And.intro ?_ ?_) <;> conv => whnf)
 | omega
 | rfl
 | (refine congrArg (SV.arr _) ?_)
 | (refine congrArg (Value.int _) ?_)
 | (refine congrArg Value.bool ?_)))); all_goals (try unfold Side)
            all_goals try (repeat' (first | (with_reducible rfl) | (with_reducible refine And.intro ?_ ?_) | omega | rfl | exact Or.inl rfl | exact Or.inr rfl | exact of_decide_eq_true rfl | exact Path.imp_of (of_decide_eq_true rfl) | (focus ((try simp only [Int.reduceToNat, Int.reduceTDiv, Int.reduceTMod, minL, maxL, pickB, zHB, InK, Path.imp, List.length_replicate, List.length_set, List.length_append, List.length_cons, List.length_nil] at *); omega)) | (refine app_le rfl ?_; omega)))
            refine ⟨(face ++ [st], nx st), ⟨⟨hw.step hr hms, hf⟩, by
              have := (hw.step hr hms).len
              simp only [List.length_append, List.length_singleton] at this ⊢
              omega⟩, ?_⟩
            refine subF.ok ?_ <;> (conv => whnf) <;> repeat' (first
 | exact trivial
 | (with_reducible rfl)
 | ((with_reducible refine And.intro ?_ ?_) <;> conv => whnf)
 | omega
 | rfl
 | (refine congrArg (SV.arr _) ?_)
 | (refine congrArg (Value.int _) ?_)
 | (refine congrArg Value.bool ?_))
            all_goals exact hadd.trans (mp_eq (List.append_assoc _ _ _))
    · have hie : 2 * (2 * n) = k := by omega
      subst hie
      rw [hKT]
      repeat' (first
 | refine W.seq ?_
 | refine W.block ?_
 | (refine W.region tys_ok [] ?_; conv => whnf)
 | (refine W.drawAll tys_ok [] mixed rfl ?_; conv => whnf)
 | (refine W.ret ?_; conv => whnf)
 | (refine W.skip ?_; conv => whnf)
 | (refine W.exit ?_; conv => whnf)

    | (refine W.cond rfl (fun hb => ?_) (fun hb => ?_) <;> (try simp only [Int.reduceToNat, Int.reduceTDiv, Int.reduceTMod, minL, maxL, pickB, zHB] at hb) <;> (try (first | (cases hb; done) | exact absurd hb (by decide) | (exfalso; omega))))
    | ((with_reducible refine And.intro ?_ ?_); (focus ((repeat' (first | (with_reducible rfl) | (with_reducible refine And.intro ?_ ?_) | omega | rfl | exact Or.inl rfl | exact Or.inr rfl | exact of_decide_eq_true rfl | exact Path.imp_of (of_decide_eq_true rfl) | (focus ((try simp only [Int.reduceToNat, Int.reduceTDiv, Int.reduceTMod, minL, maxL, pickB, zHB, InK, Path.imp, List.length_replicate, List.length_set, List.length_append, List.length_cons, List.length_nil] at *); omega)) | (refine app_le rfl ?_; omega))); done)); (conv => whnf))
    | ((with_reducible refine And.intro (Side.out ?_) ?_); rotate_left; (conv => whnf))
    | (refine retF1 ?_ <;> (conv => whnf) <;> repeat' (first
 | exact trivial
 | (with_reducible rfl)
 | ((with_reducible refine And.intro ?_ ?_) <;> conv => whnf)
 | omega
 | rfl
 | (refine congrArg (SV.arr _) ?_)
 | (refine congrArg (Value.int _) ?_)
 | (refine congrArg Value.bool ?_)))
 | (refine retF2 ?_ <;> (conv => whnf) <;> repeat' (first
 | exact trivial
 | (with_reducible rfl)
 | ((with_reducible refine And.intro ?_ ?_) <;> conv => whnf)
 | omega
 | rfl
 | (refine congrArg (SV.arr _) ?_)
 | (refine congrArg (Value.int _) ?_)
 | (refine congrArg Value.bool ?_)))); all_goals (try unfold Side)
      all_goals try (repeat' (first | (with_reducible rfl) | (with_reducible refine And.intro ?_ ?_) | omega | rfl | exact Or.inl rfl | exact Or.inr rfl | exact of_decide_eq_true rfl | exact Path.imp_of (of_decide_eq_true rfl) | (focus ((try simp only [Int.reduceToNat, Int.reduceTDiv, Int.reduceTMod, minL, maxL, pickB, zHB, InK, Path.imp, List.length_replicate, List.length_set, List.length_append, List.length_cons, List.length_nil] at *); omega)) | (refine app_le rfl ?_; omega)))
end Go.Proofs.Ytdfajcfkdfjoeaa
/- All signs of n letters. No condition. -/
namespace Go.Scr
set_option linter.unusedVariables false
set_option linter.unusedSimpArgs false

def bitT (k j : Nat) : Nat := k / 2 ^ j % 2
theorem bitT_le {k j : Nat} : bitT k j ≤ 1 := by unfold bitT; omega
theorem bit_and {k j : Nat} : (k / 2 ^ j) &&& 1 = bitT k j := by rw [Nat.and_one_is_mod]; rfl
theorem bit_test {k j : Nat} : bitT k j = (k.testBit j).toNat := by
  rw [Nat.testBit_eq_decide_div_mod_eq]
  have := bitT_le (k := k) (j := j)
  unfold bitT at *
  by_cases h : k / 2 ^ j % 2 = 1
  · rw [decide_eq_true h, h]; rfl
  · rw [decide_eq_false h]; show _ = 0; omega
theorem bit_not {n k j : Nat} (hk : k < 2 ^ n) (hj : j < n) : bitT (2 ^ n - 1 - k) j = 1 - bitT k j := by
  rw [bit_test, bit_test, show 2 ^ n - 1 - k = 2 ^ n - (k + 1) by omega, Nat.testBit_two_pow_sub_succ hk, decide_eq_true hj]
  cases k.testBit j <;> rfl
/-- The k-th signs. -/
def sgAt (n k i : Nat) : Int := 1 - 2 * (bitT k (n - 1 - i) : Int)
def sgT (n k : Nat) : List Int := (List.range n).map fun i => sgAt n k i
theorem sgT_len {n k : Nat} : (sgT n k).length = n := by simp [sgT]
theorem sgT_get {n k i : Nat} (h : i < n) : (sgT n k).getD i 0 = sgAt n k i := by
  rw [sgT, List.getD_eq_getElem?_getD, List.getElem?_map, List.getElem?_range h]; rfl
theorem sgAt_two {n k i : Nat} : sgAt n k i = 1 ∨ sgAt n k i = -1 := by
  have := bitT_le (k := k) (j := n - 1 - i)
  unfold sgAt; omega
theorem sgT_all {n k : Nat} : (sgT n k).all (fun x => decide (x = 1) || decide (x = -1)) = true := by
  refine List.all_eq_true.2 fun x hx => ?_
  obtain ⟨i, _, rfl⟩ := List.mem_map.1 hx
  rcases sgAt_two (n := n) (k := k) (i := i) with h | h <;> rw [h] <;> rfl
theorem take_getD' : ∀ {xs : List Int} {j : Nat}, j < xs.length → xs.take (j + 1) = xs.take j ++ [xs.getD j 0]
  | x :: r, 0, _ => by simp
  | x :: r, j + 1, h => by
    have := take_getD' (xs := r) (j := j) (by simpa using h)
    simp only [List.take_succ_cons, List.getD_cons_succ, this, List.cons_append]
theorem sgT_take {n k i : Nat} (h : i < n) : (sgT n k).take (i + 1) = (sgT n k).take i ++ [sgAt n k i] := by
  rw [take_getD' (by rw [sgT_len]; exact h), sgT_get h]
/-- The sign as the program reckons it. -/
theorem sg_prog {n k i : Nat} (hk : k < 2 ^ n) (hi : i < n) : ((((2 ^ n - 1 - k) / 2 ^ (n - 1 - i)) &&& 1 : Nat) : Int) * 2 - 1 = sgAt n k i := by
  rw [bit_and, bit_not hk (by omega), sgAt]
  have := bitT_le (k := k) (j := n - 1 - i)
  omega
theorem sg_ref {n k i : Nat} : 1 - 2 * (((k / 2 ^ (n - 1 - i)) &&& 1 : Nat) : Int) = sgAt n k i := by rw [bit_and, sgAt]
def genusT (n : Nat) (w s : List Int) : Int := ((n : Int) + 2 - (facesT (nextT w s) (2 * n)).length).tdiv 2
/-- The least genus of the first k signs, and the first that have it. -/
def leastK (n : Nat) (w : List Int) : Nat → Int × List Int
  | 0 => (0, [])
  | k + 1 => if (leastK n w k).2 = [] ∨ genusT n w (sgT n k) < (leastK n w k).1 then (genusT n w (sgT n k), sgT n k) else leastK n w k
def leastT (n : Nat) (w : List Int) : Int × List Int := leastK n w (2 ^ n)
theorem leastK_yes {n : Nat} {w : List Int} {k : Nat} (h : (leastK n w k).2 = [] ∨ genusT n w (sgT n k) < (leastK n w k).1) : leastK n w (k + 1) = (genusT n w (sgT n k), sgT n k) := by rw [leastK, if_pos h]
theorem leastK_no {n : Nat} {w : List Int} {k : Nat} (h : ¬ ((leastK n w k).2 = [] ∨ genusT n w (sgT n k) < (leastK n w k).1)) : leastK n w (k + 1) = leastK n w k := by rw [leastK, if_neg h]
def allT (n : Nat) (k : Nat) : List (List Int) := (List.range k).map fun i => sgT n i
theorem allT_len {n k : Nat} : (allT n k).length = k := by simp [allT]
theorem allT_get {n k i : Nat} (h : i < k) : (allT n k).getD i [] = sgT n i := by
  rw [allT, List.getD_eq_getElem?_getD, List.getElem?_map, List.getElem?_range h]; rfl
theorem allT_succ {n k : Nat} : allT n (k + 1) = allT n k ++ [sgT n k] := by
  rw [allT, allT, List.range_succ, List.map_append]; rfl
end Go.Scr
/- The faces of a word with signs: the document's; the genus. No condition. -/
namespace Go.Proofs.Ytdfajcfkdfjoeaa
open Go Go.Vc Go.Scr
set_option linter.unusedVariables false
set_option linter.unusedSimpArgs false

theorem nref_at {w s : List Int} {n : Nat} (h : Word w n) (hn : n ≤ 10) (hs : signsB s n = true) {st : Int} (h0 : -((2 * n : Nat) : Int) ≤ st) (h1 : st < (2 * n : Nat)) : FnAt Try.prog false 51 [.arr (.int .i64) w, .arr (.int .i64) s, .lit (.int .i64 st)] (.lit (.int .i64 (nextT w s st))) [] := by
  simp only [signsB, Bool.and_eq_true, decide_eq_true_eq] at hs
  obtain ⟨a, x, p, q, hA⟩ := at_of h hs.1 hs.2 h0 h1
  by_cases hc : 0 ≤ st
  · exact nref_f h hn hs.2 h0 h1 hA hc
  · exact nref_b h hn hs.2 h0 h1 hA (by omega)
set_option maxHeartbeats 4000000 in
theorem faces_ref {w s : List Int} {n : Nat} (h : Word w n) (hn : n ≤ 10) (hs : signsB s n = true) : FnAt Try.prog false 26 [.arr (.int .i64) w, .arr (.int .i64) s] (.own 0) [(0, .row 22 (.sl (.int .i64)) true (facesT (nextT w s) (2 * n)))] := by
  have hwl : @List.length (Ty.int .i64).T w = 2 * n := h.len
  have hp := h.pos
  have hr := next_rg h hs
  obtain ⟨nx, hnx⟩ : ∃ nx, nx = nextT w s := ⟨_, rfl⟩
  rw [← hnx] at hr ⊢
  obtain ⟨K, hK⟩ : ∃ K : Nat → List (List Int), K = facesK nx (2 * n) := ⟨_, rfl⟩
  have hK0 : K 0 = [] := by rw [hK]; rfl
  have hKT : K (2 * (2 * n)) = facesT nx (2 * n) := by rw [hK]; rfl
  have hKl : ∀ k, (K k).length ≤ k := fun k => by rw [hK]; exact facesK_len k
  have hKl2 : ∀ k, @List.length (Ty.sl (.int .i64)).T (K k) ≤ k := hKl
  have hok : ∀ k, k ≤ 2 * (2 * n) → (K k).flatten.Nodup ∧ ∀ x ∈ (K k).flatten, -((2 * n : Nat) : Int) ≤ x ∧ x < (2 * n : Nat) := by rw [hK]; exact facesK_ok hr
  have hskip : ∀ k : Nat, (k : Int) - (2 * n : Nat) ∈ (K k).flatten → K (k + 1) = K k := by rw [hK]; exact fun k => facesK_skip
  have hpush : ∀ k : Nat, ¬ (k : Int) - (2 * n : Nat) ∈ (K k).flatten → K (k + 1) = K k ++ [walk nx (K k).flatten (2 * (2 * n) + 1) ((k : Int) - (2 * n : Nat)) []] := by rw [hK]; exact fun k => facesK_push
  have hrl : ∀ L, @List.length Ty.bool.T (rowT (2 * n) L) = 2 * (2 * n) := fun L => rowT_len
  have hrg : ∀ (L : List Int) (x : Int), -((2 * n : Nat) : Int) ≤ x → x < (2 * n : Nat) → @List.getD Ty.bool.T (rowT (2 * n) L) (x + @List.length (Ty.int .i64).T w).toNat Ty.bool.dflt = decide (x ∈ L) := fun L x h0 h1 => by
    rw [hwl]
    refine (rowT_get (i := (x + (2 * n : Nat)).toNat) (by omega)).trans ?_
    rw [show (((x + (2 * n : Nat)).toNat : Nat) : Int) - (2 * n : Nat) = x by omega]
  refine FnAt.of_body tys_ok Try.func26 (by rfl) rfl Try.ntmps26 (by rw [Try.results26]) (by simp) ?_
  
  repeat' (first
 | refine W.seq ?_
 | refine W.block ?_
 | (refine W.drawPhTo (id := 1) tys_ok [] mixed [0, 0, 2, 4, 8, 1, 63] [([1], 5, 63), ([6], 0, 127)] ⟨[(0, .st false (.arr (.int .i64) (w : List Int))), (1, .st false (.arr (.int .i64) (s : List Int))), (5, .own 900005), (6, .own 900006)], [(900005, .row 22 (.sl (.int .i64)) true ([] : List (List Int))), (900006, .row 4 .bool true (rowT (2 * n) [] : List Bool))]⟩ (by decide +kernel) ?_ ?_ <;> (conv => whnf))
 | (refine W.region tys_ok [] ?_; conv => whnf)
 | (refine W.drawAll tys_ok [] mixed rfl ?_; conv => whnf)
 | (refine W.ret ?_; conv => whnf)
 | (refine W.skip ?_; conv => whnf)
 | (refine W.exit ?_; conv => whnf)

    | (refine Both.mk ?_ ?_ <;> (conv => whnf))
    | (refine subF.leaf ?_ <;> (conv => whnf) <;> repeat' (first
 | exact trivial
 | (with_reducible rfl)
 | ((with_reducible refine And.intro ?_ ?_) <;> conv => whnf)
 | omega
 | rfl
 | (refine congrArg (SV.arr _) ?_)
 | (refine congrArg (Value.int _) ?_)
 | (refine congrArg Value.bool ?_)))
 | (refine subF.side ?_ <;> (conv => whnf) <;> repeat' (first
 | exact trivial
 | (with_reducible rfl)
 | ((with_reducible refine And.intro ?_ ?_) <;> conv => whnf)
 | omega
 | rfl
 | (refine congrArg (SV.arr _) ?_)
 | (refine congrArg (Value.int _) ?_)
 | (refine congrArg Value.bool ?_)))
 | (refine W.cond rfl (fun hb => ?_) (fun hb => ?_) <;> (try simp only [Int.reduceToNat, Int.reduceTDiv, Int.reduceTMod, minL, maxL, pickB, zHB] at hb) <;> (try (first | (cases hb; done) | exact absurd hb (by decide) | (exfalso; omega))))
 | ((with_reducible refine And.intro ?_ ?_); (focus ((repeat' (first | (with_reducible rfl) | (with_reducible refine And.intro ?_ ?_) | omega | rfl | exact Or.inl rfl | exact Or.inr rfl | exact of_decide_eq_true rfl | exact Path.imp_of (of_decide_eq_true rfl) | (focus ((try simp only [Int.reduceToNat, Int.reduceTDiv, Int.reduceTMod, minL, maxL, pickB, zHB, InK, Path.imp, List.length_replicate, List.length_set, List.length_append, List.length_cons, List.length_nil] at *); omega)) | (refine app_le rfl ?_; omega))); done)); (conv => whnf))
 | ((with_reducible refine And.intro (Side.out ?_) ?_); rotate_left; (conv => whnf))
 | (refine retF1 ?_ <;> (conv => whnf) <;> repeat' (first
 | exact trivial
 | (with_reducible rfl)
 | ((with_reducible refine And.intro ?_ ?_) <;> conv => whnf)
 | omega
 | rfl
 | (refine congrArg (SV.arr _) ?_)
 | (refine congrArg (Value.int _) ?_)
 | (refine congrArg Value.bool ?_)))
 | (refine retF2 ?_ <;> (conv => whnf) <;> repeat' (first
 | exact trivial
 | (with_reducible rfl)
 | ((with_reducible refine And.intro ?_ ?_) <;> conv => whnf)
 | omega
 | rfl
 | (refine congrArg (SV.arr _) ?_)
 | (refine congrArg (Value.int _) ?_)
 | (refine congrArg Value.bool ?_)))); all_goals (try unfold Side)
  all_goals try (repeat' (first | (with_reducible rfl) | (with_reducible refine And.intro ?_ ?_) | omega | rfl | exact Or.inl rfl | exact Or.inr rfl | exact of_decide_eq_true rfl | exact Path.imp_of (of_decide_eq_true rfl) | (focus ((try simp only [Int.reduceToNat, Int.reduceTDiv, Int.reduceTMod, minL, maxL, pickB, zHB, InK, Path.imp, List.length_replicate, List.length_set, List.length_append, List.length_cons, List.length_nil] at *); omega)) | (refine app_le rfl ?_; omega)))
  all_goals try (rw [hwl]; exact rowT_nil.symm)
  refine W.loop (fun k : Nat => ⟨[(0, .st false (.arr (.int .i64) (w : List Int))), (1, .st false (.arr (.int .i64) (s : List Int))), (5, .own 900005), (6, .own 900006), (7, .lit (.int .i64 ((k : Int) - (2 * n : Nat))))], [(900005, .row 22 (.sl (.int .i64)) true (K k : List (List Int))), (900006, .row 4 .bool true (rowT (2 * n) (K k).flatten : List Bool))]⟩) (fun k => k ≤ 2 * (2 * n)) (fun k => 2 * (2 * n) - k) (0) ?_ ?_
  · refine ⟨Nat.zero_le _, ?_⟩
    refine subF.ok ?_ <;> (conv => whnf) <;> repeat' (first
 | exact trivial
 | (with_reducible rfl)
 | ((with_reducible refine And.intro ?_ ?_) <;> conv => whnf)
 | omega
 | rfl
 | (refine congrArg (SV.arr _) ?_)
 | (refine congrArg (Value.int _) ?_)
 | (refine congrArg Value.bool ?_))
    all_goals first | exact hK0.symm | exact hK0 | (rw [hK0]; rfl)
  · intro k hk
    have hlk := hKl2 k
    have hrl1 := hrl (K k).flatten
    by_cases hil : k < 2 * (2 * n)
    · have hv := hrg (K k).flatten ((k : Int) - (2 * n : Nat)) (by omega) (by omega)
      by_cases hm : (k : Int) - (2 * n : Nat) ∈ (K k).flatten
      · rw [decide_eq_true hm] at hv
        repeat' (first
 | refine W.seq ?_
 | refine W.block ?_
 | (refine W.region tys_ok [] ?_; conv => whnf)
 | (refine W.drawAll tys_ok [] mixed rfl ?_; conv => whnf)
 | (refine W.ret ?_; conv => whnf)
 | (refine W.skip ?_; conv => whnf)
 | (refine W.exit ?_; conv => whnf)

    | (refine W.cond rfl (fun hb => ?_) (fun hb => ?_) <;> (try simp only [Int.reduceToNat, Int.reduceTDiv, Int.reduceTMod, minL, maxL, pickB, zHB] at hb) <;> (try (first | (cases hb; done) | exact absurd hb (by decide) | (exfalso; omega) | (exact absurd (hb.symm.trans hv) (by decide)))))
    | ((with_reducible refine And.intro ?_ ?_); (focus ((repeat' (first | (with_reducible rfl) | (with_reducible refine And.intro ?_ ?_) | omega | rfl | exact Or.inl rfl | exact Or.inr rfl | exact of_decide_eq_true rfl | exact Path.imp_of (of_decide_eq_true rfl) | (focus ((try simp only [Int.reduceToNat, Int.reduceTDiv, Int.reduceTMod, minL, maxL, pickB, zHB, InK, Path.imp, List.length_replicate, List.length_set, List.length_append, List.length_cons, List.length_nil] at *); omega)) | (refine app_le rfl ?_; omega))); done)); (conv => whnf))
    | ((with_reducible refine And.intro (Side.out ?_) ?_); rotate_left; (conv => whnf))
    | (refine retF1 ?_ <;> (conv => whnf) <;> repeat' (first
 | exact trivial
 | (with_reducible rfl)
 | ((with_reducible refine And.intro ?_ ?_) <;> conv => whnf)
 | omega
 | rfl
 | (refine congrArg (SV.arr _) ?_)
 | (refine congrArg (Value.int _) ?_)
 | (refine congrArg Value.bool ?_)))
 | (refine retF2 ?_ <;> (conv => whnf) <;> repeat' (first
 | exact trivial
 | (with_reducible rfl)
 | ((with_reducible refine And.intro ?_ ?_) <;> conv => whnf)
 | omega
 | rfl
 | (refine congrArg (SV.arr _) ?_)
 | (refine congrArg (Value.int _) ?_)
 | (refine congrArg Value.bool ?_)))); all_goals (try unfold Side)
        all_goals try (repeat' (first | (with_reducible rfl) | (with_reducible refine And.intro ?_ ?_) | omega | rfl | exact Or.inl rfl | exact Or.inr rfl | exact of_decide_eq_true rfl | exact Path.imp_of (of_decide_eq_true rfl) | (focus ((try simp only [Int.reduceToNat, Int.reduceTDiv, Int.reduceTMod, minL, maxL, pickB, zHB, InK, Path.imp, List.length_replicate, List.length_set, List.length_append, List.length_cons, List.length_nil] at *); omega)) | (refine app_le rfl ?_; omega)))
        refine ⟨k + 1, ⟨by omega, by omega⟩, ?_⟩
        rw [hskip k hm]
        refine subF.ok ?_ <;> (conv => whnf) <;> repeat' (first
 | exact trivial
 | (with_reducible rfl)
 | ((with_reducible refine And.intro ?_ ?_) <;> conv => whnf)
 | omega
 | rfl
 | (refine congrArg (SV.arr _) ?_)
 | (refine congrArg (Value.int _) ?_)
 | (refine congrArg Value.bool ?_))
      · rw [decide_eq_false hm] at hv
        obtain ⟨nd, rg⟩ := hok k (by omega)
        obtain ⟨F, hF⟩ : ∃ F, F = walk nx (K k).flatten (2 * (2 * n) + 1) ((k : Int) - (2 * n : Nat)) [] := ⟨_, rfl⟩
        have hpk := hpush k hm
        rw [← hF] at hpk
        repeat' (first
 | refine W.seq ?_
 | refine W.block ?_
 | (refine W.region tys_ok [] ?_; conv => whnf)
 | (refine W.drawAll tys_ok [] mixed rfl ?_; conv => whnf)
 | (refine W.ret ?_; conv => whnf)
 | (refine W.skip ?_; conv => whnf)
 | (refine W.exit ?_; conv => whnf)

    | (refine W.cond rfl (fun hb => ?_) (fun hb => ?_) <;> (try simp only [Int.reduceToNat, Int.reduceTDiv, Int.reduceTMod, minL, maxL, pickB, zHB] at hb) <;> (try (first | (cases hb; done) | exact absurd hb (by decide) | (exfalso; omega) | (exact absurd (hb.symm.trans hv) (by decide)))))
    | ((with_reducible refine And.intro ?_ ?_); (focus ((repeat' (first | (with_reducible rfl) | (with_reducible refine And.intro ?_ ?_) | omega | rfl | exact Or.inl rfl | exact Or.inr rfl | exact of_decide_eq_true rfl | exact Path.imp_of (of_decide_eq_true rfl) | (focus ((try simp only [Int.reduceToNat, Int.reduceTDiv, Int.reduceTMod, minL, maxL, pickB, zHB, InK, Path.imp, List.length_replicate, List.length_set, List.length_append, List.length_cons, List.length_nil] at *); omega)) | (refine app_le rfl ?_; omega))); done)); (conv => whnf))
    | ((with_reducible refine And.intro (Side.out ?_) ?_); rotate_left; (conv => whnf))
    | (refine retF1 ?_ <;> (conv => whnf) <;> repeat' (first
 | exact trivial
 | (with_reducible rfl)
 | ((with_reducible refine And.intro ?_ ?_) <;> conv => whnf)
 | omega
 | rfl
 | (refine congrArg (SV.arr _) ?_)
 | (refine congrArg (Value.int _) ?_)
 | (refine congrArg Value.bool ?_)))
 | (refine retF2 ?_ <;> (conv => whnf) <;> repeat' (first
 | exact trivial
 | (with_reducible rfl)
 | ((with_reducible refine And.intro ?_ ?_) <;> conv => whnf)
 | omega
 | rfl
 | (refine congrArg (SV.arr _) ?_)
 | (refine congrArg (Value.int _) ?_)
 | (refine congrArg Value.bool ?_)))); all_goals (try unfold Side)
        all_goals try (repeat' (first | (with_reducible rfl) | (with_reducible refine And.intro ?_ ?_) | omega | rfl | exact Or.inl rfl | exact Or.inr rfl | exact of_decide_eq_true rfl | exact Path.imp_of (of_decide_eq_true rfl) | (focus ((try simp only [Int.reduceToNat, Int.reduceTDiv, Int.reduceTMod, minL, maxL, pickB, zHB, InK, Path.imp, List.length_replicate, List.length_set, List.length_append, List.length_cons, List.length_nil] at *); omega)) | (refine app_le rfl ?_; omega)))
        refine W.loop (fun z : List Int × Int => ⟨[(0, .st false (.arr (.int .i64) (w : List Int))), (1, .st false (.arr (.int .i64) (s : List Int))), (5, .own 900005), (6, .own 900006), (7, .lit (.int .i64 ((k : Int) - (2 * n : Nat)))), (8, .own 900008), (9, .lit (.int .i64 (z.2)))], [(900005, .row 22 (.sl (.int .i64)) true (K k : List (List Int))), (900006, .row 4 .bool true (rowT (2 * n) ((K k).flatten ++ z.1) : List Bool)), (900008, .row 3 (.int .i64) true (z.1 : List Int))]⟩) (fun z => Wk nx (2 * n) (K k).flatten ((k : Int) - (2 * n : Nat)) z.2 z.1 ∧ walk nx (K k).flatten (2 * (2 * n) + 1 - z.1.length) z.2 z.1 = F) (fun z => 2 * (2 * n) - ((K k).flatten.length + z.1.length)) (([], (k : Int) - (2 * n : Nat))) ?_ ?_
        · refine ⟨⟨Wk.init nd rg (by omega) (by omega), hF.symm⟩, ?_⟩
          refine subF.ok ?_ <;> (conv => whnf) <;> repeat' (first
 | exact trivial
 | (with_reducible rfl)
 | ((with_reducible refine And.intro ?_ ?_) <;> conv => whnf)
 | omega
 | rfl
 | (refine congrArg (SV.arr _) ?_)
 | (refine congrArg (Value.int _) ?_)
 | (refine congrArg Value.bool ?_))
          all_goals exact congrArg (rowT (2 * n)) (List.append_nil _).symm
        · rintro ⟨face, st⟩ ⟨hw, hf⟩
          dsimp only at hw hf ⊢
          have hlen := hw.len
          have hfl : @List.length (Ty.int .i64).T face ≤ 2 * (2 * n) := by show face.length ≤ _; omega
          have hst := hw.st
          have hrs := hr st hst.1 hst.2
          have hrl2 := hrl ((K k).flatten ++ face)
          have hv2 := hrg ((K k).flatten ++ face) st hst.1 hst.2
          by_cases hms : st ∈ (K k).flatten ∨ st ∈ face
          · rw [decide_eq_true (List.mem_append.2 hms)] at hv2
            rw [walk_end hfl hms] at hf
            subst hf
            repeat' (first
 | refine W.seq ?_
 | refine W.block ?_
 | (refine W.resub (x := Code.region 10 _ _) (Γ' := ⟨[(0, .st false (.arr (.int .i64) (w : List Int))), (1, .st false (.arr (.int .i64) (s : List Int))), (5, .own 900005), (6, .own 900006), (7, .lit (.int .i64 ((k : Int) - (2 * n : Nat)))), (8, .st true (.arr (.int .i64) (face : List Int)))], [(900005, .row 22 (.sl (.int .i64)) true (K k : List (List Int))), (900006, .row 4 .bool true (rowT (2 * n) ((K k).flatten ++ face) : List Bool))]⟩) ?_ (W.region tys_ok [] ?_); rotate_left; (conv => whnf))
 | (refine W.region tys_ok [] ?_; conv => whnf)
 | (refine W.drawAll tys_ok [] mixed rfl ?_; conv => whnf)
 | (refine W.ret ?_; conv => whnf)
 | (refine W.skip ?_; conv => whnf)
 | (refine W.exit ?_; conv => whnf)

    | (refine W.cond rfl (fun hb => ?_) (fun hb => ?_) <;> (try simp only [Int.reduceToNat, Int.reduceTDiv, Int.reduceTMod, minL, maxL, pickB, zHB] at hb) <;> (try (first | (cases hb; done) | exact absurd hb (by decide) | (exfalso; omega) | (exact absurd (hb.symm.trans hv2) (by decide)))))
    | ((with_reducible refine And.intro ?_ ?_); (focus ((repeat' (first | (with_reducible rfl) | (with_reducible refine And.intro ?_ ?_) | omega | rfl | exact Or.inl rfl | exact Or.inr rfl | exact of_decide_eq_true rfl | exact Path.imp_of (of_decide_eq_true rfl) | (focus ((try simp only [Int.reduceToNat, Int.reduceTDiv, Int.reduceTMod, minL, maxL, pickB, zHB, InK, Path.imp, List.length_replicate, List.length_set, List.length_append, List.length_cons, List.length_nil] at *); omega)) | (refine app_le rfl ?_; omega))); done)); (conv => whnf))
    | ((with_reducible refine And.intro (Side.out ?_) ?_); rotate_left; (conv => whnf))
    | (refine retF1 ?_ <;> (conv => whnf) <;> repeat' (first
 | exact trivial
 | (with_reducible rfl)
 | ((with_reducible refine And.intro ?_ ?_) <;> conv => whnf)
 | omega
 | rfl
 | (refine congrArg (SV.arr _) ?_)
 | (refine congrArg (Value.int _) ?_)
 | (refine congrArg Value.bool ?_)))
 | (refine retF2 ?_ <;> (conv => whnf) <;> repeat' (first
 | exact trivial
 | (with_reducible rfl)
 | ((with_reducible refine And.intro ?_ ?_) <;> conv => whnf)
 | omega
 | rfl
 | (refine congrArg (SV.arr _) ?_)
 | (refine congrArg (Value.int _) ?_)
 | (refine congrArg Value.bool ?_)))); all_goals (try unfold Side)
            all_goals try (repeat' (first | (with_reducible rfl) | (with_reducible refine And.intro ?_ ?_) | omega | rfl | exact Or.inl rfl | exact Or.inr rfl | exact of_decide_eq_true rfl | exact Path.imp_of (of_decide_eq_true rfl) | (focus ((try simp only [Int.reduceToNat, Int.reduceTDiv, Int.reduceTMod, minL, maxL, pickB, zHB, InK, Path.imp, List.length_replicate, List.length_set, List.length_append, List.length_cons, List.length_nil] at *); omega)) | (refine app_le rfl ?_; omega)))
            · refine ⟨k + 1, ⟨by omega, by omega⟩, ?_⟩
              rw [hpk]
              refine subF.ok ?_ <;> (conv => whnf) <;> repeat' (first
 | exact trivial
 | (with_reducible rfl)
 | ((with_reducible refine And.intro ?_ ?_) <;> conv => whnf)
 | omega
 | rfl
 | (refine congrArg (SV.arr _) ?_)
 | (refine congrArg (Value.int _) ?_)
 | (refine congrArg Value.bool ?_))
              all_goals exact congrArg (rowT (2 * n)) (by simp)
            · refine subF.ok ?_ <;> (conv => whnf) <;> repeat' (first
 | exact trivial
 | (with_reducible rfl)
 | ((with_reducible refine And.intro ?_ ?_) <;> conv => whnf)
 | omega
 | rfl
 | (refine congrArg (SV.arr _) ?_)
 | (refine congrArg (Value.int _) ?_)
 | (refine congrArg Value.bool ?_))
          · rw [decide_eq_false (fun h => hms (List.mem_append.1 h))] at hv2
            have hset := rowT_set (m := 2 * n) (L := (K k).flatten ++ face) (x := st) hst.1 hst.2
            rw [walk_more hfl hms] at hf
            have hnext := nref_at h hn hs hst.1 hst.2
            rw [← hnx] at hnext
            repeat' (first
 | refine W.seq ?_
 | refine W.block ?_
 | (refine W.region tys_ok [] ?_; conv => whnf)
 | (refine W.drawAll tys_ok [] mixed rfl ?_; conv => whnf)
 | (refine W.ret ?_; conv => whnf)
 | (refine W.skip ?_; conv => whnf)
 | (refine W.exit ?_; conv => whnf)
 | (refine call_at (al := false) (hnext) rfl rfl rfl rfl ?_; conv => whnf)

    | (refine W.cond rfl (fun hb => ?_) (fun hb => ?_) <;> (try simp only [Int.reduceToNat, Int.reduceTDiv, Int.reduceTMod, minL, maxL, pickB, zHB] at hb) <;> (try (first | (cases hb; done) | exact absurd hb (by decide) | (exfalso; omega) | (exact absurd (hb.symm.trans hv2) (by decide)))))
    | ((with_reducible refine And.intro ?_ ?_); (focus ((repeat' (first | (with_reducible rfl) | (with_reducible refine And.intro ?_ ?_) | omega | rfl | exact Or.inl rfl | exact Or.inr rfl | exact of_decide_eq_true rfl | exact Path.imp_of (of_decide_eq_true rfl) | (focus ((try simp only [Int.reduceToNat, Int.reduceTDiv, Int.reduceTMod, minL, maxL, pickB, zHB, InK, Path.imp, List.length_replicate, List.length_set, List.length_append, List.length_cons, List.length_nil] at *); omega)) | (refine app_le rfl ?_; omega))); done)); (conv => whnf))
    | ((with_reducible refine And.intro (Side.out ?_) ?_); rotate_left; (conv => whnf))
    | (refine retF1 ?_ <;> (conv => whnf) <;> repeat' (first
 | exact trivial
 | (with_reducible rfl)
 | ((with_reducible refine And.intro ?_ ?_) <;> conv => whnf)
 | omega
 | rfl
 | (refine congrArg (SV.arr _) ?_)
 | (refine congrArg (Value.int _) ?_)
 | (refine congrArg Value.bool ?_)))
 | (refine retF2 ?_ <;> (conv => whnf) <;> repeat' (first
 | exact trivial
 | (with_reducible rfl)
 | ((with_reducible refine And.intro ?_ ?_) <;> conv => whnf)
 | omega
 | rfl
 | (refine congrArg (SV.arr _) ?_)
 | (refine congrArg (Value.int _) ?_)
 | (refine congrArg Value.bool ?_)))); all_goals (try unfold Side)
            all_goals try (repeat' (first | (with_reducible rfl) | (with_reducible refine And.intro ?_ ?_) | omega | rfl | exact Or.inl rfl | exact Or.inr rfl | exact of_decide_eq_true rfl | exact Path.imp_of (of_decide_eq_true rfl) | (focus ((try simp only [Int.reduceToNat, Int.reduceTDiv, Int.reduceTMod, minL, maxL, pickB, zHB, InK, Path.imp, List.length_replicate, List.length_set, List.length_append, List.length_cons, List.length_nil] at *); omega)) | (refine app_le rfl ?_; omega)))
            refine ⟨(face ++ [st], nx st), ⟨⟨hw.step hr hms, hf⟩, by
              have := (hw.step hr hms).len
              simp only [List.length_append, List.length_singleton] at this ⊢
              omega⟩, ?_⟩
            refine subF.ok ?_ <;> (conv => whnf) <;> repeat' (first
 | exact trivial
 | (with_reducible rfl)
 | ((with_reducible refine And.intro ?_ ?_) <;> conv => whnf)
 | omega
 | rfl
 | (refine congrArg (SV.arr _) ?_)
 | (refine congrArg (Value.int _) ?_)
 | (refine congrArg Value.bool ?_))
            all_goals (rw [hwl]; exact hset.trans (congrArg (rowT (2 * n)) (List.append_assoc _ _ _)))
    · have hie : 2 * (2 * n) = k := by omega
      subst hie
      rw [hKT]
      repeat' (first
 | refine W.seq ?_
 | refine W.block ?_
 | (refine W.region tys_ok [] ?_; conv => whnf)
 | (refine W.drawAll tys_ok [] mixed rfl ?_; conv => whnf)
 | (refine W.ret ?_; conv => whnf)
 | (refine W.skip ?_; conv => whnf)
 | (refine W.exit ?_; conv => whnf)

    | (refine W.cond rfl (fun hb => ?_) (fun hb => ?_) <;> (try simp only [Int.reduceToNat, Int.reduceTDiv, Int.reduceTMod, minL, maxL, pickB, zHB] at hb) <;> (try (first | (cases hb; done) | exact absurd hb (by decide) | (exfalso; omega))))
    | ((with_reducible refine And.intro ?_ ?_); (focus ((repeat' (first | (with_reducible rfl) | (with_reducible refine And.intro ?_ ?_) | omega | rfl | exact Or.inl rfl | exact Or.inr rfl | exact of_decide_eq_true rfl | exact Path.imp_of (of_decide_eq_true rfl) | (focus ((try simp only [Int.reduceToNat, Int.reduceTDiv, Int.reduceTMod, minL, maxL, pickB, zHB, InK, Path.imp, List.length_replicate, List.length_set, List.length_append, List.length_cons, List.length_nil] at *); omega)) | (refine app_le rfl ?_; omega))); done)); (conv => whnf))
    | ((with_reducible refine And.intro (Side.out ?_) ?_); rotate_left; (conv => whnf))
    | (refine retF1 ?_ <;> (conv => whnf) <;> repeat' (first
 | exact trivial
 | (with_reducible rfl)
 | ((with_reducible refine And.intro ?_ ?_) <;> conv => whnf)
 | omega
 | rfl
 | (refine congrArg (SV.arr _) ?_)
 | (refine congrArg (Value.int _) ?_)
 | (refine congrArg Value.bool ?_)))
 | (refine retF2 ?_ <;> (conv => whnf) <;> repeat' (first
 | exact trivial
 | (with_reducible rfl)
 | ((with_reducible refine And.intro ?_ ?_) <;> conv => whnf)
 | omega
 | rfl
 | (refine congrArg (SV.arr _) ?_)
 | (refine congrArg (Value.int _) ?_)
 | (refine congrArg Value.bool ?_)))); all_goals (try unfold Side)
      all_goals try (repeat' (first | (with_reducible rfl) | (with_reducible refine And.intro ?_ ?_) | omega | rfl | exact Or.inl rfl | exact Or.inr rfl | exact of_decide_eq_true rfl | exact Path.imp_of (of_decide_eq_true rfl) | (focus ((try simp only [Int.reduceToNat, Int.reduceTDiv, Int.reduceTMod, minL, maxL, pickB, zHB, InK, Path.imp, List.length_replicate, List.length_set, List.length_append, List.length_cons, List.length_nil] at *); omega)) | (refine app_le rfl ?_; omega)))

theorem facesT_len {nx : Int → Int} {m : Nat} : (facesT nx m).length ≤ 2 * m := facesK_len _
theorem genus_rg {n : Nat} {w s : List Int} (hn : n ≤ 10) : -100 ≤ ((n : Int) + 2 - (facesT (nextT w s) (2 * n)).length) ∧ -100 ≤ genusT n w s ∧ genusT n w s ≤ 100 := by
  have h := facesT_len (nx := nextT w s) (m := 2 * n)
  unfold genusT
  by_cases h0 : 0 ≤ (n : Int) + 2 - (facesT (nextT w s) (2 * n)).length
  · rw [Int.tdiv_eq_ediv_of_nonneg h0]; omega
  · have : ((n : Int) + 2 - (facesT (nextT w s) (2 * n)).length).tdiv 2 = -((-((n : Int) + 2 - (facesT (nextT w s) (2 * n)).length)).tdiv 2) := by rw [Int.neg_tdiv, Int.neg_neg]
    rw [this, Int.tdiv_eq_ediv_of_nonneg (by omega)]; omega
theorem genus_at {w s : List Int} {n : Nat} (h : Word w n) (hn : n ≤ 10) (hs : signsB s n = true) : FnAt Try.prog false 49 [curveT n w, .arr (.int .i64) s] (.lit (.int .i64 (genusT n w s))) [] := by
  have hf := faces_at h hn hs
  have hfl := facesT_len (nx := nextT w s) (m := 2 * n)
  have hg := genus_rg (w := w) (s := s) hn
  unfold genusT at hg ⊢
  obtain ⟨F, hF⟩ : ∃ F, F = facesT (nextT w s) (2 * n) := ⟨_, rfl⟩
  rw [← hF] at hf hfl hg ⊢
  have hfl' : @List.length (Ty.sl (.int .i64)).T F ≤ 2 * (2 * n) := hfl
  refine FnAt.of_body tys_ok Try.func49 (by rfl) rfl Try.ntmps49 (by rw [Try.results49]) (by simp) ?_
  
  repeat' (first
 | refine W.seq ?_
 | refine W.block ?_
 | (refine W.drawPh (id := 1) tys_ok [] mixed [0, 1, 2, 4, 8, 0, 0, 96, 128, 272, 512, 2047] [([0, 1, 2, 3, 4, 5, 6], 1, 255), ([], 1, 511), ([9, 10, 11], 0, 4095)] (by decide +kernel) ?_; conv => whnf)
 | (refine W.region tys_ok [] ?_; conv => whnf)
 | (refine W.drawAll tys_ok [] mixed rfl ?_; conv => whnf)
 | (refine W.ret ?_; conv => whnf)
 | (refine W.skip ?_; conv => whnf)
 | (refine W.exit ?_; conv => whnf)
 | (refine call_at (al := false) (hf) rfl rfl rfl rfl ?_; conv => whnf)

    | (refine Both.mk ?_ ?_ <;> (conv => whnf))
    | (refine subF.leaf ?_ <;> (conv => whnf) <;> repeat' (first
 | exact trivial
 | (with_reducible rfl)
 | ((with_reducible refine And.intro ?_ ?_) <;> conv => whnf)
 | omega
 | rfl
 | (refine congrArg (SV.arr _) ?_)
 | (refine congrArg (Value.int _) ?_)
 | (refine congrArg Value.bool ?_)))
 | (refine subF.side ?_ <;> (conv => whnf) <;> repeat' (first
 | exact trivial
 | (with_reducible rfl)
 | ((with_reducible refine And.intro ?_ ?_) <;> conv => whnf)
 | omega
 | rfl
 | (refine congrArg (SV.arr _) ?_)
 | (refine congrArg (Value.int _) ?_)
 | (refine congrArg Value.bool ?_)))
 | (refine W.cond rfl (fun hb => ?_) (fun hb => ?_) <;> (try simp only [Int.reduceToNat, Int.reduceTDiv, Int.reduceTMod, minL, maxL, pickB, zHB] at hb) <;> (try (first | (cases hb; done) | exact absurd hb (by decide) | (exfalso; omega))))
 | ((with_reducible refine And.intro ?_ ?_); (focus ((repeat' (first | (with_reducible rfl) | (with_reducible refine And.intro ?_ ?_) | omega | rfl | exact Or.inl rfl | exact Or.inr rfl | exact of_decide_eq_true rfl | exact Path.imp_of (of_decide_eq_true rfl) | (focus ((try simp only [Int.reduceToNat, Int.reduceTDiv, Int.reduceTMod, minL, maxL, pickB, zHB, InK, Path.imp, List.length_replicate, List.length_set, List.length_append, List.length_cons, List.length_nil] at *); omega)) | (refine app_le rfl ?_; omega))); done)); (conv => whnf))
 | ((with_reducible refine And.intro (Side.out ?_) ?_); rotate_left; (conv => whnf))
 | (refine retF1 ?_ <;> (conv => whnf) <;> repeat' (first
 | exact trivial
 | (with_reducible rfl)
 | ((with_reducible refine And.intro ?_ ?_) <;> conv => whnf)
 | omega
 | rfl
 | (refine congrArg (SV.arr _) ?_)
 | (refine congrArg (Value.int _) ?_)
 | (refine congrArg Value.bool ?_)))
 | (refine retF2 ?_ <;> (conv => whnf) <;> repeat' (first
 | exact trivial
 | (with_reducible rfl)
 | ((with_reducible refine And.intro ?_ ?_) <;> conv => whnf)
 | omega
 | rfl
 | (refine congrArg (SV.arr _) ?_)
 | (refine congrArg (Value.int _) ?_)
 | (refine congrArg Value.bool ?_)))); all_goals (try unfold Side)
  all_goals try (repeat' (first | (with_reducible rfl) | (with_reducible refine And.intro ?_ ?_) | omega | rfl | exact Or.inl rfl | exact Or.inr rfl | exact of_decide_eq_true rfl | exact Path.imp_of (of_decide_eq_true rfl) | (focus ((try simp only [Int.reduceToNat, Int.reduceTDiv, Int.reduceTMod, minL, maxL, pickB, zHB, InK, Path.imp, List.length_replicate, List.length_set, List.length_append, List.length_cons, List.length_nil] at *); omega)) | (refine app_le rfl ?_; omega)))
theorem genus_ref {w s : List Int} {n : Nat} (h : Word w n) (hn : n ≤ 10) (hs : signsB s n = true) : FnAt Try.prog false 27 [.arr (.int .i64) w, .arr (.int .i64) s] (.lit (.int .i64 (genusT n w s))) [] := by
  have hwl : @List.length (Ty.int .i64).T w = 2 * n := h.len
  have hd : Int.tdiv (@List.length (Ty.int .i64).T w) 2 = n := by rw [hwl, Int.tdiv_eq_ediv_of_nonneg (by omega)]; omega
  have hf := faces_ref h hn hs
  have hfl := facesT_len (nx := nextT w s) (m := 2 * n)
  have hg := genus_rg (w := w) (s := s) hn
  unfold genusT at hg ⊢
  obtain ⟨F, hF⟩ : ∃ F, F = facesT (nextT w s) (2 * n) := ⟨_, rfl⟩
  rw [← hF] at hf hfl hg ⊢
  have hfl' : @List.length (Ty.sl (.int .i64)).T F ≤ 2 * (2 * n) := hfl
  have e : (Int.tdiv (@List.length (Ty.int .i64).T w) 2 + 2 - (@List.length (Ty.sl (.int .i64)).T F : Int)).tdiv 2 = ((n : Int) + 2 - F.length).tdiv 2 := by rw [hd]; rfl
  refine FnAt.of_body tys_ok Try.func27 (by rfl) rfl Try.ntmps27 (by rw [Try.results27]) (by simp) ?_
  
  repeat' (first
 | refine W.seq ?_
 | refine W.block ?_
 | (refine W.drawPh (id := 1) tys_ok [] mixed [0, 1, 2, 4, 0, 0, 48, 64, 136, 256, 1023] [([0, 4, 5], 5, 255), ([8, 9, 10], 0, 2047)] (by decide +kernel) ?_; conv => whnf)
 | (refine W.region tys_ok [] ?_; conv => whnf)
 | (refine W.drawAll tys_ok [] mixed rfl ?_; conv => whnf)
 | (refine W.ret ?_; conv => whnf)
 | (refine W.skip ?_; conv => whnf)
 | (refine W.exit ?_; conv => whnf)
 | (refine call_at (al := false) (hf) rfl rfl rfl rfl ?_; conv => whnf)

    | (refine Both.mk ?_ ?_ <;> (conv => whnf))
    | (refine subF.leaf ?_ <;> (conv => whnf) <;> repeat' (first
 | exact trivial
 | (with_reducible rfl)
 | ((with_reducible refine And.intro ?_ ?_) <;> conv => whnf)
 | omega
 | rfl
 | (refine congrArg (SV.arr _) ?_)
 | (refine congrArg (Value.int _) ?_)
 | (refine congrArg Value.bool ?_)))
 | (refine subF.side ?_ <;> (conv => whnf) <;> repeat' (first
 | exact trivial
 | (with_reducible rfl)
 | ((with_reducible refine And.intro ?_ ?_) <;> conv => whnf)
 | omega
 | rfl
 | (refine congrArg (SV.arr _) ?_)
 | (refine congrArg (Value.int _) ?_)
 | (refine congrArg Value.bool ?_)))
 | (refine W.cond rfl (fun hb => ?_) (fun hb => ?_) <;> (try simp only [Int.reduceToNat, Int.reduceTDiv, Int.reduceTMod, minL, maxL, pickB, zHB] at hb) <;> (try (first | (cases hb; done) | exact absurd hb (by decide) | (exfalso; omega))))
 | ((with_reducible refine And.intro ?_ ?_); (focus ((repeat' (first | (with_reducible rfl) | (with_reducible refine And.intro ?_ ?_) | omega | rfl | exact Or.inl rfl | exact Or.inr rfl | exact of_decide_eq_true rfl | exact Path.imp_of (of_decide_eq_true rfl) | (focus ((try simp only [Int.reduceToNat, Int.reduceTDiv, Int.reduceTMod, minL, maxL, pickB, zHB, InK, Path.imp, List.length_replicate, List.length_set, List.length_append, List.length_cons, List.length_nil] at *); omega)) | (refine app_le rfl ?_; omega))); done)); (conv => whnf))
 | ((with_reducible refine And.intro (Side.out ?_) ?_); rotate_left; (conv => whnf))
 | (refine retF1 ?_ <;> (conv => whnf) <;> repeat' (first
 | exact trivial
 | (with_reducible rfl)
 | ((with_reducible refine And.intro ?_ ?_) <;> conv => whnf)
 | omega
 | rfl
 | (refine congrArg (SV.arr _) ?_)
 | (refine congrArg (Value.int _) ?_)
 | (refine congrArg Value.bool ?_)))
 | (refine retF2 ?_ <;> (conv => whnf) <;> repeat' (first
 | exact trivial
 | (with_reducible rfl)
 | ((with_reducible refine And.intro ?_ ?_) <;> conv => whnf)
 | omega
 | rfl
 | (refine congrArg (SV.arr _) ?_)
 | (refine congrArg (Value.int _) ?_)
 | (refine congrArg Value.bool ?_)))); all_goals (try unfold Side)
  all_goals try (repeat' (first | (with_reducible rfl) | (with_reducible refine And.intro ?_ ?_) | omega | rfl | exact Or.inl rfl | exact Or.inr rfl | exact of_decide_eq_true rfl | exact Path.imp_of (of_decide_eq_true rfl) | (focus ((try simp only [Int.reduceToNat, Int.reduceTDiv, Int.reduceTMod, minL, maxL, pickB, zHB, InK, Path.imp, List.length_replicate, List.length_set, List.length_append, List.length_cons, List.length_nil] at *); omega)) | (refine app_le rfl ?_; omega)))
  all_goals first
    | exact e
    | (refine Path.imp_of ⟨by decide, ?_⟩; show InK .i64 _; rw [e]; simp only [InK]; omega)
theorem Faces_ok {w s : List Int} {n : Nat} (h : Word w n) (hn : n ≤ 10) (hs : signsB s n = true) : FnAt Try.prog false 23 [.arr (.int .i64) w, .arr (.int .i64) s] (.tup [.own 0, .lit (.int .i64 0)]) [(0, .row 22 (.sl (.int .i64)) true (facesT (nextT w s) (2 * n)))] := by
  refine FnAt.of_body tys_ok Try.func23 (by rfl) rfl Try.ntmps23 (by rw [Try.results23]) (by simp) ?_
  
  repeat' (first
 | refine W.seq ?_
 | refine W.block ?_
 | (refine W.region tys_ok [] ?_; conv => whnf)
 | (refine W.drawAll tys_ok [] mixed rfl ?_; conv => whnf)
 | (refine W.ret ?_; conv => whnf)
 | (refine W.skip ?_; conv => whnf)
 | (refine W.exit ?_; conv => whnf)
 | (refine call_at (al := true) (signed_ok h hn hs) rfl rfl rfl rfl ?_; conv => whnf)
 | (refine call_at (al := false) (faces_at h hn hs) rfl rfl rfl rfl ?_; conv => whnf)

    | (refine W.cond rfl (fun hb => ?_) (fun hb => ?_) <;> (try simp only [Int.reduceToNat, Int.reduceTDiv, Int.reduceTMod, minL, maxL, pickB, zHB] at hb) <;> (try (first | (cases hb; done) | exact absurd hb (by decide) | (exfalso; omega))))
    | ((with_reducible refine And.intro ?_ ?_); (focus ((repeat' (first | (with_reducible rfl) | (with_reducible refine And.intro ?_ ?_) | omega | rfl | exact Or.inl rfl | exact Or.inr rfl | exact of_decide_eq_true rfl | exact Path.imp_of (of_decide_eq_true rfl) | (focus ((try simp only [Int.reduceToNat, Int.reduceTDiv, Int.reduceTMod, minL, maxL, pickB, zHB, InK, Path.imp, List.length_replicate, List.length_set, List.length_append, List.length_cons, List.length_nil] at *); omega)) | (refine app_le rfl ?_; omega))); done)); (conv => whnf))
    | ((with_reducible refine And.intro (Side.out ?_) ?_); rotate_left; (conv => whnf))
    | (refine retF1 ?_ <;> (conv => whnf) <;> repeat' (first
 | exact trivial
 | (with_reducible rfl)
 | ((with_reducible refine And.intro ?_ ?_) <;> conv => whnf)
 | omega
 | rfl
 | (refine congrArg (SV.arr _) ?_)
 | (refine congrArg (Value.int _) ?_)
 | (refine congrArg Value.bool ?_)))
 | (refine retF2 ?_ <;> (conv => whnf) <;> repeat' (first
 | exact trivial
 | (with_reducible rfl)
 | ((with_reducible refine And.intro ?_ ?_) <;> conv => whnf)
 | omega
 | rfl
 | (refine congrArg (SV.arr _) ?_)
 | (refine congrArg (Value.int _) ?_)
 | (refine congrArg Value.bool ?_)))); all_goals (try unfold Side)
  all_goals try (repeat' (first | (with_reducible rfl) | (with_reducible refine And.intro ?_ ?_) | omega | rfl | exact Or.inl rfl | exact Or.inr rfl | exact of_decide_eq_true rfl | exact Path.imp_of (of_decide_eq_true rfl) | (focus ((try simp only [Int.reduceToNat, Int.reduceTDiv, Int.reduceTMod, minL, maxL, pickB, zHB, InK, Path.imp, List.length_replicate, List.length_set, List.length_append, List.length_cons, List.length_nil] at *); omega)) | (refine app_le rfl ?_; omega)))
theorem Genus_ok {w s : List Int} {n : Nat} (h : Word w n) (hn : n ≤ 10) (hs : signsB s n = true) : FnAt Try.prog false 24 [.arr (.int .i64) w, .arr (.int .i64) s] (.tup [.lit (.int .i64 (genusT n w s)), .lit (.int .i64 0)]) [] := by
  refine FnAt.of_body tys_ok Try.func24 (by rfl) rfl Try.ntmps24 (by rw [Try.results24]) (by simp) ?_
  
  repeat' (first
 | refine W.seq ?_
 | refine W.block ?_
 | (refine W.region tys_ok [] ?_; conv => whnf)
 | (refine W.drawAll tys_ok [] mixed rfl ?_; conv => whnf)
 | (refine W.ret ?_; conv => whnf)
 | (refine W.skip ?_; conv => whnf)
 | (refine W.exit ?_; conv => whnf)
 | (refine call_at (al := true) (signed_ok h hn hs) rfl rfl rfl rfl ?_; conv => whnf)
 | (refine call_at (al := false) (genus_at h hn hs) rfl rfl rfl rfl ?_; conv => whnf)

    | (refine W.cond rfl (fun hb => ?_) (fun hb => ?_) <;> (try simp only [Int.reduceToNat, Int.reduceTDiv, Int.reduceTMod, minL, maxL, pickB, zHB] at hb) <;> (try (first | (cases hb; done) | exact absurd hb (by decide) | (exfalso; omega))))
    | ((with_reducible refine And.intro ?_ ?_); (focus ((repeat' (first | (with_reducible rfl) | (with_reducible refine And.intro ?_ ?_) | omega | rfl | exact Or.inl rfl | exact Or.inr rfl | exact of_decide_eq_true rfl | exact Path.imp_of (of_decide_eq_true rfl) | (focus ((try simp only [Int.reduceToNat, Int.reduceTDiv, Int.reduceTMod, minL, maxL, pickB, zHB, InK, Path.imp, List.length_replicate, List.length_set, List.length_append, List.length_cons, List.length_nil] at *); omega)) | (refine app_le rfl ?_; omega))); done)); (conv => whnf))
    | ((with_reducible refine And.intro (Side.out ?_) ?_); rotate_left; (conv => whnf))
    | (refine retF1 ?_ <;> (conv => whnf) <;> repeat' (first
 | exact trivial
 | (with_reducible rfl)
 | ((with_reducible refine And.intro ?_ ?_) <;> conv => whnf)
 | omega
 | rfl
 | (refine congrArg (SV.arr _) ?_)
 | (refine congrArg (Value.int _) ?_)
 | (refine congrArg Value.bool ?_)))
 | (refine retF2 ?_ <;> (conv => whnf) <;> repeat' (first
 | exact trivial
 | (with_reducible rfl)
 | ((with_reducible refine And.intro ?_ ?_) <;> conv => whnf)
 | omega
 | rfl
 | (refine congrArg (SV.arr _) ?_)
 | (refine congrArg (Value.int _) ?_)
 | (refine congrArg Value.bool ?_)))); all_goals (try unfold Side)
  all_goals try (repeat' (first | (with_reducible rfl) | (with_reducible refine And.intro ?_ ?_) | omega | rfl | exact Or.inl rfl | exact Or.inr rfl | exact of_decide_eq_true rfl | exact Path.imp_of (of_decide_eq_true rfl) | (focus ((try simp only [Int.reduceToNat, Int.reduceTDiv, Int.reduceTMod, minL, maxL, pickB, zHB, InK, Path.imp, List.length_replicate, List.length_set, List.length_append, List.length_cons, List.length_nil] at *); omega)) | (refine app_le rfl ?_; omega)))
/-- Why a word with signs is refused. -/
def whyT (w s : List Int) : Int := if ¬ checkT w = 0 then checkT w else if signsB s (w.length / 2) = true then 0 else 2
theorem whyT_ok {w s : List Int} (h : whyT w s = 0) : ∃ n, Word w n ∧ n ≤ 10 ∧ signsB s n = true := by
  unfold whyT at h
  split at h
  · rename_i h1; exact absurd h h1
  · rename_i h1
    obtain ⟨n, hw, hn⟩ := checkT_ok (Classical.not_not.1 h1)
    have := hw.len
    rw [show w.length / 2 = n by omega] at h
    split at h
    · rename_i h2; exact ⟨n, hw, hn, h2⟩
    · cases h
theorem signed_no {w s : List Int} (h : ¬ whyT w s = 0) (hl : w.length ≤ 1000) (hs : s.length ≤ 1000) : FnAt Try.prog true 47 [.arr (.int .i64) w, .arr (.int .i64) s] (.tup [.lit (.pointer none), .lit (.int .i64 (whyT w s))]) [] := by
  by_cases hc : checkT w = 0
  · obtain ⟨n, hw, hn⟩ := checkT_ok hc
    have hwl := hw.len
    have e : whyT w s = if signsB s n = true then 0 else 2 := by rw [whyT, if_neg (fun h => h hc), show w.length / 2 = n by omega]
    cases hb : signsB s n with
    | true => rw [hb, if_pos rfl] at e; exact absurd e h
    | false =>
      rw [hb, if_neg (by decide)] at e
      rw [e]
      exact signed_form hw hn hb hs
  · have e : whyT w s = checkT w := by rw [whyT, if_pos hc]
    rw [e]
    exact signed_bad hc hl
theorem Faces_no {w s : List Int} (h : ¬ whyT w s = 0) (hl : w.length ≤ 1000) (hs : s.length ≤ 1000) : FnAt Try.prog false 23 [.arr (.int .i64) w, .arr (.int .i64) s] (.tup [.own 0, .lit (.int .i64 (whyT w s))]) [(0, .row 22 (.sl (.int .i64)) true [])] := by
  refine FnAt.of_body tys_ok Try.func23 (by rfl) rfl Try.ntmps23 (by rw [Try.results23]) (by simp) ?_
  
  repeat' (first
 | refine W.seq ?_
 | refine W.block ?_
 | (refine W.region tys_ok [] ?_; conv => whnf)
 | (refine W.drawAll tys_ok [] mixed rfl ?_; conv => whnf)
 | (refine W.ret ?_; conv => whnf)
 | (refine W.skip ?_; conv => whnf)
 | (refine W.exit ?_; conv => whnf)
 | (refine call_at (al := true) (signed_no h hl hs) rfl rfl rfl rfl ?_; conv => whnf)

    | (refine W.cond rfl (fun hb => ?_) (fun hb => ?_) <;> (try simp only [Int.reduceToNat, Int.reduceTDiv, Int.reduceTMod, minL, maxL, pickB, zHB] at hb) <;> (try (first | (cases hb; done) | exact absurd hb (by decide) | (exfalso; omega))))
    | ((with_reducible refine And.intro ?_ ?_); (focus ((repeat' (first | (with_reducible rfl) | (with_reducible refine And.intro ?_ ?_) | omega | rfl | exact Or.inl rfl | exact Or.inr rfl | exact of_decide_eq_true rfl | exact Path.imp_of (of_decide_eq_true rfl) | (focus ((try simp only [Int.reduceToNat, Int.reduceTDiv, Int.reduceTMod, minL, maxL, pickB, zHB, InK, Path.imp, List.length_replicate, List.length_set, List.length_append, List.length_cons, List.length_nil] at *); omega)) | (refine app_le rfl ?_; omega))); done)); (conv => whnf))
    | ((with_reducible refine And.intro (Side.out ?_) ?_); rotate_left; (conv => whnf))
    | (refine retF1 ?_ <;> (conv => whnf) <;> repeat' (first
 | exact trivial
 | (with_reducible rfl)
 | ((with_reducible refine And.intro ?_ ?_) <;> conv => whnf)
 | omega
 | rfl
 | (refine congrArg (SV.arr _) ?_)
 | (refine congrArg (Value.int _) ?_)
 | (refine congrArg Value.bool ?_)))
 | (refine retF2 ?_ <;> (conv => whnf) <;> repeat' (first
 | exact trivial
 | (with_reducible rfl)
 | ((with_reducible refine And.intro ?_ ?_) <;> conv => whnf)
 | omega
 | rfl
 | (refine congrArg (SV.arr _) ?_)
 | (refine congrArg (Value.int _) ?_)
 | (refine congrArg Value.bool ?_)))); all_goals (try unfold Side)
  all_goals try (repeat' (first | (with_reducible rfl) | (with_reducible refine And.intro ?_ ?_) | omega | rfl | exact Or.inl rfl | exact Or.inr rfl | exact of_decide_eq_true rfl | exact Path.imp_of (of_decide_eq_true rfl) | (focus ((try simp only [Int.reduceToNat, Int.reduceTDiv, Int.reduceTMod, minL, maxL, pickB, zHB, InK, Path.imp, List.length_replicate, List.length_set, List.length_append, List.length_cons, List.length_nil] at *); omega)) | (refine app_le rfl ?_; omega)))
theorem Genus_no {w s : List Int} (h : ¬ whyT w s = 0) (hl : w.length ≤ 1000) (hs : s.length ≤ 1000) : FnAt Try.prog false 24 [.arr (.int .i64) w, .arr (.int .i64) s] (.tup [.lit (.int .i64 0), .lit (.int .i64 (whyT w s))]) [] := by
  refine FnAt.of_body tys_ok Try.func24 (by rfl) rfl Try.ntmps24 (by rw [Try.results24]) (by simp) ?_
  
  repeat' (first
 | refine W.seq ?_
 | refine W.block ?_
 | (refine W.region tys_ok [] ?_; conv => whnf)
 | (refine W.drawAll tys_ok [] mixed rfl ?_; conv => whnf)
 | (refine W.ret ?_; conv => whnf)
 | (refine W.skip ?_; conv => whnf)
 | (refine W.exit ?_; conv => whnf)
 | (refine call_at (al := true) (signed_no h hl hs) rfl rfl rfl rfl ?_; conv => whnf)

    | (refine W.cond rfl (fun hb => ?_) (fun hb => ?_) <;> (try simp only [Int.reduceToNat, Int.reduceTDiv, Int.reduceTMod, minL, maxL, pickB, zHB] at hb) <;> (try (first | (cases hb; done) | exact absurd hb (by decide) | (exfalso; omega))))
    | ((with_reducible refine And.intro ?_ ?_); (focus ((repeat' (first | (with_reducible rfl) | (with_reducible refine And.intro ?_ ?_) | omega | rfl | exact Or.inl rfl | exact Or.inr rfl | exact of_decide_eq_true rfl | exact Path.imp_of (of_decide_eq_true rfl) | (focus ((try simp only [Int.reduceToNat, Int.reduceTDiv, Int.reduceTMod, minL, maxL, pickB, zHB, InK, Path.imp, List.length_replicate, List.length_set, List.length_append, List.length_cons, List.length_nil] at *); omega)) | (refine app_le rfl ?_; omega))); done)); (conv => whnf))
    | ((with_reducible refine And.intro (Side.out ?_) ?_); rotate_left; (conv => whnf))
    | (refine retF1 ?_ <;> (conv => whnf) <;> repeat' (first
 | exact trivial
 | (with_reducible rfl)
 | ((with_reducible refine And.intro ?_ ?_) <;> conv => whnf)
 | omega
 | rfl
 | (refine congrArg (SV.arr _) ?_)
 | (refine congrArg (Value.int _) ?_)
 | (refine congrArg Value.bool ?_)))
 | (refine retF2 ?_ <;> (conv => whnf) <;> repeat' (first
 | exact trivial
 | (with_reducible rfl)
 | ((with_reducible refine And.intro ?_ ?_) <;> conv => whnf)
 | omega
 | rfl
 | (refine congrArg (SV.arr _) ?_)
 | (refine congrArg (Value.int _) ?_)
 | (refine congrArg Value.bool ?_)))); all_goals (try unfold Side)
  all_goals try (repeat' (first | (with_reducible rfl) | (with_reducible refine And.intro ?_ ?_) | omega | rfl | exact Or.inl rfl | exact Or.inr rfl | exact of_decide_eq_true rfl | exact Path.imp_of (of_decide_eq_true rfl) | (focus ((try simp only [Int.reduceToNat, Int.reduceTDiv, Int.reduceTMod, minL, maxL, pickB, zHB, InK, Path.imp, List.length_replicate, List.length_set, List.length_append, List.length_cons, List.length_nil] at *); omega)) | (refine app_le rfl ?_; omega)))
theorem why_at (w s : List Int) (hl : w.length ≤ 1000) (hs : s.length ≤ 1000) : FnAt Try.prog false 25 [.arr (.int .i64) w, .arr (.int .i64) s] (.lit (.int .i64 (whyT w s))) [] := by
  have hd : Int.tdiv (@List.length (Ty.int .i64).T w) 2 = (w.length / 2 : Nat) := by
    show Int.tdiv (w.length : Int) 2 = _
    rw [Int.tdiv_eq_ediv_of_nonneg (by omega)]; omega
  have hsg := signs_ref s (w.length / 2) hs
  rw [← hd] at hsg
  have hck := check_at w hl
  have e1 : ¬ checkT w = 0 → whyT w s = checkT w := fun h => by rw [whyT, if_pos h]
  have e2 : checkT w = 0 → signsB s (w.length / 2) = true → whyT w s = 0 := fun h h2 => by rw [whyT, if_neg (fun h' => h' h), if_pos h2]
  have e3 : checkT w = 0 → signsB s (w.length / 2) = false → whyT w s = 2 := fun h h2 => by rw [whyT, if_neg (fun h' => h' h), if_neg (by rw [h2]; decide)]
  refine FnAt.of_body tys_ok Try.func25 (by rfl) rfl Try.ntmps25 (by rw [Try.results25]) (by simp) ?_
  
  repeat' (first
 | refine W.seq ?_
 | refine W.block ?_
 | (refine W.region tys_ok [] ?_; conv => whnf)
 | (refine W.drawAll tys_ok [] mixed rfl ?_; conv => whnf)
 | (refine W.ret ?_; conv => whnf)
 | (refine W.skip ?_; conv => whnf)
 | (refine W.exit ?_; conv => whnf)
 | (refine call_at (al := false) (check_at w hl) rfl rfl rfl rfl ?_; conv => whnf)
 | (refine call_at (al := false) (hsg) rfl rfl rfl rfl ?_; conv => whnf)

    | (refine W.cond rfl (fun hb => ?_) (fun hb => ?_) <;> (try simp only [Int.reduceToNat, Int.reduceTDiv, Int.reduceTMod, minL, maxL, pickB, zHB] at hb) <;> (try (first | (cases hb; done) | exact absurd hb (by decide) | (exfalso; omega))))
    | ((with_reducible refine And.intro ?_ ?_); (focus ((repeat' (first | (with_reducible rfl) | (with_reducible refine And.intro ?_ ?_) | omega | rfl | exact Or.inl rfl | exact Or.inr rfl | exact of_decide_eq_true rfl | exact Path.imp_of (of_decide_eq_true rfl) | (focus ((try simp only [Int.reduceToNat, Int.reduceTDiv, Int.reduceTMod, minL, maxL, pickB, zHB, InK, Path.imp, List.length_replicate, List.length_set, List.length_append, List.length_cons, List.length_nil] at *); omega)) | (refine app_le rfl ?_; omega))); done)); (conv => whnf))
    | ((with_reducible refine And.intro (Side.out ?_) ?_); rotate_left; (conv => whnf))
    | (refine retF1 ?_ <;> (conv => whnf) <;> repeat' (first
 | exact trivial
 | (with_reducible rfl)
 | ((with_reducible refine And.intro ?_ ?_) <;> conv => whnf)
 | omega
 | rfl
 | (refine congrArg (SV.arr _) ?_)
 | (refine congrArg (Value.int _) ?_)
 | (refine congrArg Value.bool ?_)))
 | (refine retF2 ?_ <;> (conv => whnf) <;> repeat' (first
 | exact trivial
 | (with_reducible rfl)
 | ((with_reducible refine And.intro ?_ ?_) <;> conv => whnf)
 | omega
 | rfl
 | (refine congrArg (SV.arr _) ?_)
 | (refine congrArg (Value.int _) ?_)
 | (refine congrArg Value.bool ?_)))); all_goals (try unfold Side)
  all_goals try (repeat' (first | (with_reducible rfl) | (with_reducible refine And.intro ?_ ?_) | omega | rfl | exact Or.inl rfl | exact Or.inr rfl | exact of_decide_eq_true rfl | exact Path.imp_of (of_decide_eq_true rfl) | (focus ((try simp only [Int.reduceToNat, Int.reduceTDiv, Int.reduceTMod, minL, maxL, pickB, zHB, InK, Path.imp, List.length_replicate, List.length_set, List.length_append, List.length_cons, List.length_nil] at *); omega)) | (refine app_le rfl ?_; omega)))
  · exact (e3 (by assumption) hb).symm
  · exact (e2 (by assumption) hb).symm
end Go.Proofs.Ytdfajcfkdfjoeaa
/- The least genus of a word: the program's and the document's. No condition. -/
namespace Go.Proofs.Ytdfajcfkdfjoeaa
open Go Go.Vc Go.Scr
set_option linter.unusedVariables false
set_option linter.unusedSimpArgs false

theorem sgT_signs {n k : Nat} : signsB (sgT n k) n = true := by
  rw [signsB, sgT_len, show sgnB (sgT n k) = true from sgT_all]; simp
theorem leastK_rg {n : Nat} {w : List Int} (hn : n ≤ 10) : ∀ k, -100 ≤ (leastK n w k).1 ∧ (leastK n w k).1 ≤ 100
  | 0 => by simp [leastK]
  | k + 1 => by
    rw [leastK]
    split
    · exact (genus_rg hn).2
    · exact leastK_rg hn k
theorem pow_le {n : Nat} (hn : n ≤ 10) : 1 ≤ 2 ^ n ∧ 2 ^ n ≤ 1024 := ⟨Nat.one_le_two_pow, Nat.pow_le_pow_right (by omega) hn⟩
theorem toNat_sub' {n i : Nat} (h : i < n) : ((n : Int) - 1 - i).toNat = n - 1 - i := by omega
theorem sgp {n k i N : Nat} (hN : N = 2 ^ n) (hk : k < N) (hi : i < n) (hn : n ≤ 10) : ∃ e : Int, ((((N : Int) - 1 - k) / 2 ^ ((n : Int) - 1 - i).toNat).toNat &&& Int.toNat 1 : Nat) = e ∧ 0 ≤ e ∧ e ≤ 1 ∧ e * 2 - 1 = sgAt n k i ∧
    (0 ≤ (n : Int) - 1 - i ∧ ((n : Int) - 1 - i).toNat ≤ IntKind.i64.bits) ∧ (0 ≤ ((N : Int) - 1 - k) / 2 ^ ((n : Int) - 1 - i).toNat ∧ (0 : Int) ≤ 1 ∧ InK .i64 (((N : Int) - 1 - k) / 2 ^ ((n : Int) - 1 - i).toNat) ∧ InK .i64 1) := by
  have hb := pow_le hn
  have h1 : ((n : Int) - 1 - i).toNat = n - 1 - i := by omega
  have h2 : ((N : Int) - 1 - k) / 2 ^ (n - 1 - i) = (((N - 1 - k) / 2 ^ (n - 1 - i) : Nat) : Int) := by
    rw [show (N : Int) - 1 - k = ((N - 1 - k : Nat) : Int) by omega]; norm_cast
  have h3 : (N - 1 - k) / 2 ^ (n - 1 - i) ≤ 1024 := Nat.le_trans (Nat.div_le_self _ _) (by omega)
  subst hN
  have h4 := sg_prog hk hi
  rw [h1, h2, Int.toNat_natCast]
  have h5 : ((2 ^ n - 1 - k) / 2 ^ (n - 1 - i)) &&& Int.toNat 1 ≤ 1 := by
    show _ &&& 1 ≤ 1
    rw [Nat.and_one_is_mod]; omega
  obtain ⟨Q, hQ⟩ : ∃ Q : Nat, Q = (2 ^ n - 1 - k) / 2 ^ (n - 1 - i) := ⟨_, rfl⟩
  rw [← hQ] at h3 h4 h5 ⊢
  refine ⟨_, rfl, by omega, by exact_mod_cast h5, h4, ⟨by omega, by show _ ≤ 64; omega⟩, by omega, by omega, ?_, by simp [InK]⟩
  simp only [InK]; omega
set_option maxHeartbeats 4000000 in
theorem least_at {w : List Int} {n : Nat} (h : Word w n) (hn : n ≤ 10) : FnAt Try.prog false 45 [curveT n w] (.tup [.lit (.int .i64 (leastT n w).1), .st true (.arr (.int .i64) (leastT n w).2)]) [] := by
  have hp := h.pos
  obtain ⟨N, hN⟩ : ∃ N : Nat, N = 2 ^ n := ⟨_, rfl⟩
  have hNb := pow_le hn
  rw [← hN] at hNb
  have hNi : (1 : Int) * 2 ^ (n : Int).toNat = (N : Int) := by rw [hN, Int.toNat_natCast, Int.one_mul]; norm_cast
  have hg := fun k => genus_at h hn (sgT_signs (n := n) (k := k))
  have hrg := fun k => genus_rg (w := w) (s := sgT n k) hn
  obtain ⟨L, hL⟩ : ∃ L : Nat → Int × List Int, L = leastK n w := ⟨_, rfl⟩
  have hLT : L N = leastT n w := by rw [hL, hN]; rfl
  have hL0 : L 0 = (0, []) := by rw [hL]; rfl
  have hLy : ∀ k, (L k).2 = [] ∨ genusT n w (sgT n k) < (L k).1 → L (k + 1) = (genusT n w (sgT n k), sgT n k) := by rw [hL]; exact fun k => leastK_yes
  have hLn : ∀ k, ¬ ((L k).2 = [] ∨ genusT n w (sgT n k) < (L k).1) → L (k + 1) = L k := by rw [hL]; exact fun k => leastK_no
  rw [← hLT]
  clear hL hLT
  have hsh : 0 ≤ (n : Int) ∧ (n : Int).toNat ≤ IntKind.i64.bits ∧ InK .i64 (1 * 2 ^ (n : Int).toNat) := ⟨by omega, by show _ ≤ 64; omega, by rw [hNi]; simp only [InK]; omega⟩
  refine FnAt.of_body tys_ok Try.func45 (by rfl) rfl Try.ntmps45 (by rw [Try.results45]) (by simp) ?_
  
  repeat' (first
 | refine W.seq ?_
 | refine W.block ?_
 | (refine W.region tys_ok [] ?_; conv => whnf)
 | (refine W.drawAll tys_ok [] mixed rfl ?_; conv => whnf)
 | (refine W.ret ?_; conv => whnf)
 | (refine W.skip ?_; conv => whnf)
 | (refine W.exit ?_; conv => whnf)

    | (refine W.cond rfl (fun hb => ?_) (fun hb => ?_) <;> (try simp only [Int.reduceToNat, Int.reduceTDiv, Int.reduceTMod, minL, maxL, pickB, zHB] at hb) <;> (try (first | (cases hb; done) | exact absurd hb (by decide) | (exfalso; omega))))
    | ((with_reducible refine And.intro ?_ ?_); (focus ((repeat' (first | (with_reducible rfl) | (with_reducible refine And.intro ?_ ?_) | omega | rfl | exact Or.inl rfl | exact Or.inr rfl | exact of_decide_eq_true rfl | exact Path.imp_of (of_decide_eq_true rfl) | (focus ((try simp only [Int.reduceToNat, Int.reduceTDiv, Int.reduceTMod, minL, maxL, pickB, zHB, InK, Path.imp, List.length_replicate, List.length_set, List.length_append, List.length_cons, List.length_nil] at *); omega)) | (refine app_le rfl ?_; omega))); done)); (conv => whnf))
    | ((with_reducible refine And.intro (Side.out ?_) ?_); rotate_left; (conv => whnf))
    | (refine retF1 ?_ <;> (conv => whnf) <;> repeat' (first
 | exact trivial
 | (with_reducible rfl)
 | ((with_reducible refine And.intro ?_ ?_) <;> conv => whnf)
 | omega
 | rfl
 | (refine congrArg (SV.arr _) ?_)
 | (refine congrArg (Value.int _) ?_)
 | (refine congrArg Value.bool ?_)))
 | (refine retF2 ?_ <;> (conv => whnf) <;> repeat' (first
 | exact trivial
 | (with_reducible rfl)
 | ((with_reducible refine And.intro ?_ ?_) <;> conv => whnf)
 | omega
 | rfl
 | (refine congrArg (SV.arr _) ?_)
 | (refine congrArg (Value.int _) ?_)
 | (refine congrArg Value.bool ?_)))); all_goals (try unfold Side)
  all_goals try exact Path.imp_of hsh
  all_goals try (repeat' (first | (with_reducible rfl) | (with_reducible refine And.intro ?_ ?_) | omega | rfl | exact Or.inl rfl | exact Or.inr rfl | exact of_decide_eq_true rfl | exact Path.imp_of (of_decide_eq_true rfl) | (focus ((try simp only [Int.reduceToNat, Int.reduceTDiv, Int.reduceTMod, minL, maxL, pickB, zHB, InK, Path.imp, List.length_replicate, List.length_set, List.length_append, List.length_cons, List.length_nil] at *); omega)) | (refine app_le rfl ?_; omega)))
  refine W.loop (fun k : Nat => ⟨[(0, .st false (curveT n w)), (4, .st true (.narr (.int .i64) ((L k).2 : List Int))), (5, .lit (.int .i64 ((L k).1))), (6, .lit (.int .i64 ((N : Int) - 1 - k)))], []⟩) (fun k => k ≤ N) (fun k => N - k) (0) ?_ ?_
  · refine ⟨Nat.zero_le _, ?_⟩
    refine subF.ok ?_ <;> (conv => whnf) <;> repeat' (first
 | exact trivial
 | (with_reducible rfl)
 | ((with_reducible refine And.intro ?_ ?_) <;> conv => whnf)
 | omega
 | rfl
 | (refine congrArg (SV.arr _) ?_)
 | (refine congrArg (Value.int _) ?_)
 | (refine congrArg Value.bool ?_))
    all_goals first | exact congrArg Prod.snd hL0 | exact (congrArg Prod.fst hL0).symm | (rw [hNi]; omega)
  · intro k hk
    by_cases hil : k < N
    · repeat' (first
 | refine W.seq ?_
 | refine W.block ?_
 | (refine W.region tys_ok [] ?_; conv => whnf)
 | (refine W.drawAll tys_ok [] mixed rfl ?_; conv => whnf)
 | (refine W.ret ?_; conv => whnf)
 | (refine W.skip ?_; conv => whnf)
 | (refine W.exit ?_; conv => whnf)

    | (refine W.cond rfl (fun hb => ?_) (fun hb => ?_) <;> (try simp only [Int.reduceToNat, Int.reduceTDiv, Int.reduceTMod, minL, maxL, pickB, zHB] at hb) <;> (try (first | (cases hb; done) | exact absurd hb (by decide) | (exfalso; omega))))
    | ((with_reducible refine And.intro ?_ ?_); (focus ((repeat' (first | (with_reducible rfl) | (with_reducible refine And.intro ?_ ?_) | omega | rfl | exact Or.inl rfl | exact Or.inr rfl | exact of_decide_eq_true rfl | exact Path.imp_of (of_decide_eq_true rfl) | (focus ((try simp only [Int.reduceToNat, Int.reduceTDiv, Int.reduceTMod, minL, maxL, pickB, zHB, InK, Path.imp, List.length_replicate, List.length_set, List.length_append, List.length_cons, List.length_nil] at *); omega)) | (refine app_le rfl ?_; omega))); done)); (conv => whnf))
    | ((with_reducible refine And.intro (Side.out ?_) ?_); rotate_left; (conv => whnf))
    | (refine retF1 ?_ <;> (conv => whnf) <;> repeat' (first
 | exact trivial
 | (with_reducible rfl)
 | ((with_reducible refine And.intro ?_ ?_) <;> conv => whnf)
 | omega
 | rfl
 | (refine congrArg (SV.arr _) ?_)
 | (refine congrArg (Value.int _) ?_)
 | (refine congrArg Value.bool ?_)))
 | (refine retF2 ?_ <;> (conv => whnf) <;> repeat' (first
 | exact trivial
 | (with_reducible rfl)
 | ((with_reducible refine And.intro ?_ ?_) <;> conv => whnf)
 | omega
 | rfl
 | (refine congrArg (SV.arr _) ?_)
 | (refine congrArg (Value.int _) ?_)
 | (refine congrArg Value.bool ?_)))); all_goals (try unfold Side)
      all_goals try (repeat' (first | (with_reducible rfl) | (with_reducible refine And.intro ?_ ?_) | omega | rfl | exact Or.inl rfl | exact Or.inr rfl | exact of_decide_eq_true rfl | exact Path.imp_of (of_decide_eq_true rfl) | (focus ((try simp only [Int.reduceToNat, Int.reduceTDiv, Int.reduceTMod, minL, maxL, pickB, zHB, InK, Path.imp, List.length_replicate, List.length_set, List.length_append, List.length_cons, List.length_nil] at *); omega)) | (refine app_le rfl ?_; omega)))
      refine W.loop (fun i : Nat => ⟨[(0, .st false (curveT n w)), (4, .st true (.narr (.int .i64) ((L k).2 : List Int))), (5, .lit (.int .i64 ((L k).1))), (6, .lit (.int .i64 ((N : Int) - 1 - k))), (7, .own 900007), (23, .lit (.int .i64 (n))), (24, .lit (.int .i64 (i)))], [(900007, .row 3 (.int .i64) true ((sgT n k).take i : List Int))]⟩) (fun i => i ≤ n) (fun i => n - i) (0) ?_ ?_
      · refine ⟨Nat.zero_le _, ?_⟩
        refine subF.ok ?_ <;> (conv => whnf) <;> repeat' (first
 | exact trivial
 | (with_reducible rfl)
 | ((with_reducible refine And.intro ?_ ?_) <;> conv => whnf)
 | omega
 | rfl
 | (refine congrArg (SV.arr _) ?_)
 | (refine congrArg (Value.int _) ?_)
 | (refine congrArg Value.bool ?_))
      · intro i hi
        have hsl : @List.length (Ty.int .i64).T ((sgT n k).take i) ≤ i := by
          show ((sgT n k).take i).length ≤ i
          rw [List.length_take]; omega
        by_cases hin : i < n
        · obtain ⟨e, f0, f1, f2, f3, f4, f5⟩ := sgp hN hil hin hn
          have htk' : (sgT n k).take i ++ [(((((N : Int) - 1 - k) / 2 ^ ((n : Int) - 1 - i).toNat).toNat &&& Int.toNat 1 : Nat) : Int) * 2 - 1] = (sgT n k).take (i + 1) := by rw [sgT_take hin, f0, f3]
          repeat' (first
 | refine W.seq ?_
 | refine W.block ?_
 | (refine W.region tys_ok [] ?_; conv => whnf)
 | (refine W.drawAll tys_ok [] mixed rfl ?_; conv => whnf)
 | (refine W.ret ?_; conv => whnf)
 | (refine W.skip ?_; conv => whnf)
 | (refine W.exit ?_; conv => whnf)

    | (refine W.cond rfl (fun hb => ?_) (fun hb => ?_) <;> (try simp only [Int.reduceToNat, Int.reduceTDiv, Int.reduceTMod, minL, maxL, pickB, zHB] at hb) <;> (try (first | (cases hb; done) | exact absurd hb (by decide) | (exfalso; omega))))
    | ((with_reducible refine And.intro ?_ ?_); (focus ((repeat' (first | (with_reducible rfl) | (with_reducible refine And.intro ?_ ?_) | omega | rfl | exact Or.inl rfl | exact Or.inr rfl | exact of_decide_eq_true rfl | exact Path.imp_of (of_decide_eq_true rfl) | (focus ((try simp only [Int.reduceToNat, Int.reduceTDiv, Int.reduceTMod, minL, maxL, pickB, zHB, InK, Path.imp, List.length_replicate, List.length_set, List.length_append, List.length_cons, List.length_nil] at *); omega)) | (refine app_le rfl ?_; omega))); done)); (conv => whnf))
    | ((with_reducible refine And.intro (Side.out ?_) ?_); rotate_left; (conv => whnf))
    | (refine retF1 ?_ <;> (conv => whnf) <;> repeat' (first
 | exact trivial
 | (with_reducible rfl)
 | ((with_reducible refine And.intro ?_ ?_) <;> conv => whnf)
 | omega
 | rfl
 | (refine congrArg (SV.arr _) ?_)
 | (refine congrArg (Value.int _) ?_)
 | (refine congrArg Value.bool ?_)))
 | (refine retF2 ?_ <;> (conv => whnf) <;> repeat' (first
 | exact trivial
 | (with_reducible rfl)
 | ((with_reducible refine And.intro ?_ ?_) <;> conv => whnf)
 | omega
 | rfl
 | (refine congrArg (SV.arr _) ?_)
 | (refine congrArg (Value.int _) ?_)
 | (refine congrArg Value.bool ?_)))); all_goals (try unfold Side)
          all_goals try exact Path.imp_of f4
          all_goals try exact Path.imp_of f5
          all_goals try exact app_le rfl (Nat.le_trans (Nat.succ_le_succ hsl) (by omega))
          all_goals try (rw [f0])
          all_goals try (repeat' (first | (with_reducible rfl) | (with_reducible refine And.intro ?_ ?_) | omega | rfl | exact Or.inl rfl | exact Or.inr rfl | exact of_decide_eq_true rfl | exact Path.imp_of (of_decide_eq_true rfl) | (focus ((try simp only [Int.reduceToNat, Int.reduceTDiv, Int.reduceTMod, minL, maxL, pickB, zHB, InK, Path.imp, List.length_replicate, List.length_set, List.length_append, List.length_cons, List.length_nil] at *); omega)) | (refine app_le rfl ?_; omega)))
          refine ⟨i + 1, ⟨by omega, by omega⟩, ?_⟩
          refine subF.ok ?_ <;> (conv => whnf) <;> repeat' (first
 | exact trivial
 | (with_reducible rfl)
 | ((with_reducible refine And.intro ?_ ?_) <;> conv => whnf)
 | omega
 | rfl
 | (refine congrArg (SV.arr _) ?_)
 | (refine congrArg (Value.int _) ?_)
 | (refine congrArg Value.bool ?_))
          all_goals first | exact htk' | (refine Eq.trans ?_ htk'; rw [f0]; rfl)
        · have hie : n = i := by omega
          subst hie
          have hta : (sgT n k).take n = sgT n k := List.take_of_length_le (Nat.le_of_eq sgT_len)
          have hgk := hg k
          have hne : ∀ x : List Int, x = sgT n k → x ≠ [] := fun x e h0 => by
            have := sgT_len (n := n) (k := k)
            rw [← e, h0] at this; simp at this; omega
          repeat' (first
 | refine W.seq ?_
 | refine W.block ?_
 | (refine W.resub (x := Code.region 12 _ _) (Γ' := ⟨[(0, .st false (curveT n w)), (4, .st true (.narr (.int .i64) ((L k).2 : List Int))), (5, .lit (.int .i64 ((L k).1))), (6, .lit (.int .i64 ((N : Int) - 1 - k))), (7, .st true (.arr (.int .i64) (sgT n k : List Int)))], []⟩) ?_ (W.region tys_ok [] ?_); rotate_left; (conv => whnf))
 | (refine W.region tys_ok [] ?_; conv => whnf)
 | (refine W.drawAll tys_ok [] mixed rfl ?_; conv => whnf)
 | (refine W.ret ?_; conv => whnf)
 | (refine W.skip ?_; conv => whnf)
 | (refine W.exit ?_; conv => whnf)
 | (refine call_at (al := false) (hgk) rfl rfl rfl rfl ?_; conv => whnf)

    | (refine W.cond rfl (fun hb => ?_) (fun hb => ?_) <;> (try simp only [Int.reduceToNat, Int.reduceTDiv, Int.reduceTMod, minL, maxL, pickB, zHB] at hb) <;> (try (first | (cases hb; done) | exact absurd hb (by decide) | (exfalso; omega))))
    | ((with_reducible refine And.intro ?_ ?_); (focus ((repeat' (first | (with_reducible rfl) | (with_reducible refine And.intro ?_ ?_) | omega | rfl | exact Or.inl rfl | exact Or.inr rfl | exact of_decide_eq_true rfl | exact Path.imp_of (of_decide_eq_true rfl) | (focus ((try simp only [Int.reduceToNat, Int.reduceTDiv, Int.reduceTMod, minL, maxL, pickB, zHB, InK, Path.imp, List.length_replicate, List.length_set, List.length_append, List.length_cons, List.length_nil] at *); omega)) | (refine app_le rfl ?_; omega))); done)); (conv => whnf))
    | ((with_reducible refine And.intro (Side.out ?_) ?_); rotate_left; (conv => whnf))
    | (refine retF1 ?_ <;> (conv => whnf) <;> repeat' (first
 | exact trivial
 | (with_reducible rfl)
 | ((with_reducible refine And.intro ?_ ?_) <;> conv => whnf)
 | omega
 | rfl
 | (refine congrArg (SV.arr _) ?_)
 | (refine congrArg (Value.int _) ?_)
 | (refine congrArg Value.bool ?_)))
 | (refine retF2 ?_ <;> (conv => whnf) <;> repeat' (first
 | exact trivial
 | (with_reducible rfl)
 | ((with_reducible refine And.intro ?_ ?_) <;> conv => whnf)
 | omega
 | rfl
 | (refine congrArg (SV.arr _) ?_)
 | (refine congrArg (Value.int _) ?_)
 | (refine congrArg Value.bool ?_)))); all_goals (try unfold Side)
          all_goals try (repeat' (first | (with_reducible rfl) | (with_reducible refine And.intro ?_ ?_) | omega | rfl | exact Or.inl rfl | exact Or.inr rfl | exact of_decide_eq_true rfl | exact Path.imp_of (of_decide_eq_true rfl) | (focus ((try simp only [Int.reduceToNat, Int.reduceTDiv, Int.reduceTMod, minL, maxL, pickB, zHB, InK, Path.imp, List.length_replicate, List.length_set, List.length_append, List.length_cons, List.length_nil] at *); omega)) | (refine app_le rfl ?_; omega)))
          · refine ⟨k + 1, ⟨by omega, by omega⟩, ?_⟩
            rw [hLy k (hb.imp (fun h => List.isEmpty_iff.1 h) id)]
            refine subF.ok ?_ <;> (conv => whnf) <;> repeat' (first
 | exact trivial
 | (with_reducible rfl)
 | ((with_reducible refine And.intro ?_ ?_) <;> conv => whnf)
 | omega
 | rfl
 | (refine congrArg (SV.arr _) ?_)
 | (refine congrArg (Value.int _) ?_)
 | (refine congrArg Value.bool ?_))
            all_goals exact hne _ rfl
          · refine ⟨k + 1, ⟨by omega, by omega⟩, ?_⟩
            rw [hLn k (fun h => h.elim (fun h => by rw [h] at hb; exact absurd hb.1 (by decide)) hb.2)]
            refine subF.ok ?_ <;> (conv => whnf) <;> repeat' (first
 | exact trivial
 | (with_reducible rfl)
 | ((with_reducible refine And.intro ?_ ?_) <;> conv => whnf)
 | omega
 | rfl
 | (refine congrArg (SV.arr _) ?_)
 | (refine congrArg (Value.int _) ?_)
 | (refine congrArg Value.bool ?_))
          · refine subF.ok ?_ <;> (conv => whnf) <;> repeat' (first
 | exact trivial
 | (with_reducible rfl)
 | ((with_reducible refine And.intro ?_ ?_) <;> conv => whnf)
 | omega
 | rfl
 | (refine congrArg (SV.arr _) ?_)
 | (refine congrArg (Value.int _) ?_)
 | (refine congrArg Value.bool ?_))
            all_goals exact hta
    · have hie : N = k := by omega
      subst hie
      repeat' (first
 | refine W.seq ?_
 | refine W.block ?_
 | (refine W.region tys_ok [] ?_; conv => whnf)
 | (refine W.drawAll tys_ok [] mixed rfl ?_; conv => whnf)
 | (refine W.ret ?_; conv => whnf)
 | (refine W.skip ?_; conv => whnf)
 | (refine W.exit ?_; conv => whnf)

    | (refine W.cond rfl (fun hb => ?_) (fun hb => ?_) <;> (try simp only [Int.reduceToNat, Int.reduceTDiv, Int.reduceTMod, minL, maxL, pickB, zHB] at hb) <;> (try (first | (cases hb; done) | exact absurd hb (by decide) | (exfalso; omega))))
    | ((with_reducible refine And.intro ?_ ?_); (focus ((repeat' (first | (with_reducible rfl) | (with_reducible refine And.intro ?_ ?_) | omega | rfl | exact Or.inl rfl | exact Or.inr rfl | exact of_decide_eq_true rfl | exact Path.imp_of (of_decide_eq_true rfl) | (focus ((try simp only [Int.reduceToNat, Int.reduceTDiv, Int.reduceTMod, minL, maxL, pickB, zHB, InK, Path.imp, List.length_replicate, List.length_set, List.length_append, List.length_cons, List.length_nil] at *); omega)) | (refine app_le rfl ?_; omega))); done)); (conv => whnf))
    | ((with_reducible refine And.intro (Side.out ?_) ?_); rotate_left; (conv => whnf))
    | (refine retF1 ?_ <;> (conv => whnf) <;> repeat' (first
 | exact trivial
 | (with_reducible rfl)
 | ((with_reducible refine And.intro ?_ ?_) <;> conv => whnf)
 | omega
 | rfl
 | (refine congrArg (SV.arr _) ?_)
 | (refine congrArg (Value.int _) ?_)
 | (refine congrArg Value.bool ?_)))
 | (refine retF2 ?_ <;> (conv => whnf) <;> repeat' (first
 | exact trivial
 | (with_reducible rfl)
 | ((with_reducible refine And.intro ?_ ?_) <;> conv => whnf)
 | omega
 | rfl
 | (refine congrArg (SV.arr _) ?_)
 | (refine congrArg (Value.int _) ?_)
 | (refine congrArg Value.bool ?_)))); all_goals (try unfold Side)
      all_goals try (repeat' (first | (with_reducible rfl) | (with_reducible refine And.intro ?_ ?_) | omega | rfl | exact Or.inl rfl | exact Or.inr rfl | exact of_decide_eq_true rfl | exact Path.imp_of (of_decide_eq_true rfl) | (focus ((try simp only [Int.reduceToNat, Int.reduceTDiv, Int.reduceTMod, minL, maxL, pickB, zHB, InK, Path.imp, List.length_replicate, List.length_set, List.length_append, List.length_cons, List.length_nil] at *); omega)) | (refine app_le rfl ?_; omega)))
end Go.Proofs.Ytdfajcfkdfjoeaa
/- Least, Plane, Interlaced, and what lives asks. No condition. -/
namespace Go.Proofs.Ytdfajcfkdfjoeaa
open Go Go.Vc Go.Scr
set_option linter.unusedVariables false
set_option linter.unusedSimpArgs false

theorem Least_ok {w : List Int} {n : Nat} (h : Word w n) (hn : n ≤ 10) : FnAt Try.prog false 21 [.arr (.int .i64) w] (.tup [.lit (.int .i64 (leastT n w).1), .st true (.arr (.int .i64) (leastT n w).2), .lit (.int .i64 0)]) [] := by
  refine FnAt.of_body tys_ok Try.func21 (by rfl) rfl Try.ntmps21 (by rw [Try.results21]) (by simp) ?_
  
  repeat' (first
 | refine W.seq ?_
 | refine W.block ?_
 | (refine W.region tys_ok [] ?_; conv => whnf)
 | (refine W.drawAll tys_ok [] mixed rfl ?_; conv => whnf)
 | (refine W.ret ?_; conv => whnf)
 | (refine W.skip ?_; conv => whnf)
 | (refine W.exit ?_; conv => whnf)
 | (refine call_at (al := true) (read_ok h hn) rfl rfl rfl rfl ?_; conv => whnf)
 | (refine call_at (al := false) (least_at h hn) rfl rfl rfl rfl ?_; conv => whnf)

    | (refine W.cond rfl (fun hb => ?_) (fun hb => ?_) <;> (try simp only [Int.reduceToNat, Int.reduceTDiv, Int.reduceTMod, minL, maxL, pickB, zHB] at hb) <;> (try (first | (cases hb; done) | exact absurd hb (by decide) | (exfalso; omega))))
    | ((with_reducible refine And.intro ?_ ?_); (focus ((repeat' (first | (with_reducible rfl) | (with_reducible refine And.intro ?_ ?_) | omega | rfl | exact Or.inl rfl | exact Or.inr rfl | exact of_decide_eq_true rfl | exact Path.imp_of (of_decide_eq_true rfl) | (focus ((try simp only [Int.reduceToNat, Int.reduceTDiv, Int.reduceTMod, minL, maxL, pickB, zHB, InK, Path.imp, List.length_replicate, List.length_set, List.length_append, List.length_cons, List.length_nil] at *); omega)) | (refine app_le rfl ?_; omega))); done)); (conv => whnf))
    | ((with_reducible refine And.intro (Side.out ?_) ?_); rotate_left; (conv => whnf))
    | (refine retF1 ?_ <;> (conv => whnf) <;> repeat' (first
 | exact trivial
 | (with_reducible rfl)
 | ((with_reducible refine And.intro ?_ ?_) <;> conv => whnf)
 | omega
 | rfl
 | (refine congrArg (SV.arr _) ?_)
 | (refine congrArg (Value.int _) ?_)
 | (refine congrArg Value.bool ?_)))
 | (refine retF2 ?_ <;> (conv => whnf) <;> repeat' (first
 | exact trivial
 | (with_reducible rfl)
 | ((with_reducible refine And.intro ?_ ?_) <;> conv => whnf)
 | omega
 | rfl
 | (refine congrArg (SV.arr _) ?_)
 | (refine congrArg (Value.int _) ?_)
 | (refine congrArg Value.bool ?_)))); all_goals (try unfold Side)
  all_goals try (repeat' (first | (with_reducible rfl) | (with_reducible refine And.intro ?_ ?_) | omega | rfl | exact Or.inl rfl | exact Or.inr rfl | exact of_decide_eq_true rfl | exact Path.imp_of (of_decide_eq_true rfl) | (focus ((try simp only [Int.reduceToNat, Int.reduceTDiv, Int.reduceTMod, minL, maxL, pickB, zHB, InK, Path.imp, List.length_replicate, List.length_set, List.length_append, List.length_cons, List.length_nil] at *); omega)) | (refine app_le rfl ?_; omega)))
theorem Least_no {w : List Int} (h : ¬ checkT w = 0) (hl : w.length ≤ 1000) : FnAt Try.prog false 21 [.arr (.int .i64) w] (.tup [.lit (.int .i64 0), .own 0, .lit (.int .i64 (checkT w))]) [(0, .row 3 (.int .i64) true [])] := by
  refine FnAt.of_body tys_ok Try.func21 (by rfl) rfl Try.ntmps21 (by rw [Try.results21]) (by simp) ?_
  
  repeat' (first
 | refine W.seq ?_
 | refine W.block ?_
 | (refine W.region tys_ok [] ?_; conv => whnf)
 | (refine W.drawAll tys_ok [] mixed rfl ?_; conv => whnf)
 | (refine W.ret ?_; conv => whnf)
 | (refine W.skip ?_; conv => whnf)
 | (refine W.exit ?_; conv => whnf)
 | (refine call_at (al := true) (read_bad h hl) rfl rfl rfl rfl ?_; conv => whnf)

    | (refine W.cond rfl (fun hb => ?_) (fun hb => ?_) <;> (try simp only [Int.reduceToNat, Int.reduceTDiv, Int.reduceTMod, minL, maxL, pickB, zHB] at hb) <;> (try (first | (cases hb; done) | exact absurd hb (by decide) | (exfalso; omega))))
    | ((with_reducible refine And.intro ?_ ?_); (focus ((repeat' (first | (with_reducible rfl) | (with_reducible refine And.intro ?_ ?_) | omega | rfl | exact Or.inl rfl | exact Or.inr rfl | exact of_decide_eq_true rfl | exact Path.imp_of (of_decide_eq_true rfl) | (focus ((try simp only [Int.reduceToNat, Int.reduceTDiv, Int.reduceTMod, minL, maxL, pickB, zHB, InK, Path.imp, List.length_replicate, List.length_set, List.length_append, List.length_cons, List.length_nil] at *); omega)) | (refine app_le rfl ?_; omega))); done)); (conv => whnf))
    | ((with_reducible refine And.intro (Side.out ?_) ?_); rotate_left; (conv => whnf))
    | (refine retF1 ?_ <;> (conv => whnf) <;> repeat' (first
 | exact trivial
 | (with_reducible rfl)
 | ((with_reducible refine And.intro ?_ ?_) <;> conv => whnf)
 | omega
 | rfl
 | (refine congrArg (SV.arr _) ?_)
 | (refine congrArg (Value.int _) ?_)
 | (refine congrArg Value.bool ?_)))
 | (refine retF2 ?_ <;> (conv => whnf) <;> repeat' (first
 | exact trivial
 | (with_reducible rfl)
 | ((with_reducible refine And.intro ?_ ?_) <;> conv => whnf)
 | omega
 | rfl
 | (refine congrArg (SV.arr _) ?_)
 | (refine congrArg (Value.int _) ?_)
 | (refine congrArg Value.bool ?_)))); all_goals (try unfold Side)
  all_goals try (repeat' (first | (with_reducible rfl) | (with_reducible refine And.intro ?_ ?_) | omega | rfl | exact Or.inl rfl | exact Or.inr rfl | exact of_decide_eq_true rfl | exact Path.imp_of (of_decide_eq_true rfl) | (focus ((try simp only [Int.reduceToNat, Int.reduceTDiv, Int.reduceTMod, minL, maxL, pickB, zHB, InK, Path.imp, List.length_replicate, List.length_set, List.length_append, List.length_cons, List.length_nil] at *); omega)) | (refine app_le rfl ?_; omega)))
theorem Plane_ok {w : List Int} {n : Nat} (h : Word w n) (hn : n ≤ 10) (hg : (leastT n w).1 = 0) : FnAt Try.prog false 16 [.arr (.int .i64) w] (.tup [.st true (.arr (.int .i64) (leastT n w).2), .lit (.int .i64 0)]) [] := by
  refine FnAt.of_body tys_ok Try.func16 (by rfl) rfl Try.ntmps16 (by rw [Try.results16]) (by simp) ?_
  
  repeat' (first
 | refine W.seq ?_
 | refine W.block ?_
 | (refine W.region tys_ok [] ?_; conv => whnf)
 | (refine W.drawAll tys_ok [] mixed rfl ?_; conv => whnf)
 | (refine W.ret ?_; conv => whnf)
 | (refine W.skip ?_; conv => whnf)
 | (refine W.exit ?_; conv => whnf)
 | (refine call_at (al := true) (read_ok h hn) rfl rfl rfl rfl ?_; conv => whnf)
 | (refine call_at (al := false) (least_at h hn) rfl rfl rfl rfl ?_; conv => whnf)

    | (refine W.cond rfl (fun hb => ?_) (fun hb => ?_) <;> (try simp only [Int.reduceToNat, Int.reduceTDiv, Int.reduceTMod, minL, maxL, pickB, zHB] at hb) <;> (try (first | (cases hb; done) | exact absurd hb (by decide) | (exfalso; omega))))
    | ((with_reducible refine And.intro ?_ ?_); (focus ((repeat' (first | (with_reducible rfl) | (with_reducible refine And.intro ?_ ?_) | omega | rfl | exact Or.inl rfl | exact Or.inr rfl | exact of_decide_eq_true rfl | exact Path.imp_of (of_decide_eq_true rfl) | (focus ((try simp only [Int.reduceToNat, Int.reduceTDiv, Int.reduceTMod, minL, maxL, pickB, zHB, InK, Path.imp, List.length_replicate, List.length_set, List.length_append, List.length_cons, List.length_nil] at *); omega)) | (refine app_le rfl ?_; omega))); done)); (conv => whnf))
    | ((with_reducible refine And.intro (Side.out ?_) ?_); rotate_left; (conv => whnf))
    | (refine retF1 ?_ <;> (conv => whnf) <;> repeat' (first
 | exact trivial
 | (with_reducible rfl)
 | ((with_reducible refine And.intro ?_ ?_) <;> conv => whnf)
 | omega
 | rfl
 | (refine congrArg (SV.arr _) ?_)
 | (refine congrArg (Value.int _) ?_)
 | (refine congrArg Value.bool ?_)))
 | (refine retF2 ?_ <;> (conv => whnf) <;> repeat' (first
 | exact trivial
 | (with_reducible rfl)
 | ((with_reducible refine And.intro ?_ ?_) <;> conv => whnf)
 | omega
 | rfl
 | (refine congrArg (SV.arr _) ?_)
 | (refine congrArg (Value.int _) ?_)
 | (refine congrArg Value.bool ?_)))); all_goals (try unfold Side)
  all_goals try (repeat' (first | (with_reducible rfl) | (with_reducible refine And.intro ?_ ?_) | omega | rfl | exact Or.inl rfl | exact Or.inr rfl | exact of_decide_eq_true rfl | exact Path.imp_of (of_decide_eq_true rfl) | (focus ((try simp only [Int.reduceToNat, Int.reduceTDiv, Int.reduceTMod, minL, maxL, pickB, zHB, InK, Path.imp, List.length_replicate, List.length_set, List.length_append, List.length_cons, List.length_nil] at *); omega)) | (refine app_le rfl ?_; omega)))
theorem Plane_none {w : List Int} {n : Nat} (h : Word w n) (hn : n ≤ 10) (hg : ¬ (leastT n w).1 = 0) : FnAt Try.prog false 16 [.arr (.int .i64) w] (.tup [.own 0, .lit (.int .i64 5)]) [(0, .row 3 (.int .i64) true [])] := by
  refine FnAt.of_body tys_ok Try.func16 (by rfl) rfl Try.ntmps16 (by rw [Try.results16]) (by simp) ?_
  
  repeat' (first
 | refine W.seq ?_
 | refine W.block ?_
 | (refine W.region tys_ok [] ?_; conv => whnf)
 | (refine W.drawAll tys_ok [] mixed rfl ?_; conv => whnf)
 | (refine W.ret ?_; conv => whnf)
 | (refine W.skip ?_; conv => whnf)
 | (refine W.exit ?_; conv => whnf)
 | (refine call_at (al := true) (read_ok h hn) rfl rfl rfl rfl ?_; conv => whnf)
 | (refine call_at (al := false) (least_at h hn) rfl rfl rfl rfl ?_; conv => whnf)

    | (refine W.cond rfl (fun hb => ?_) (fun hb => ?_) <;> (try simp only [Int.reduceToNat, Int.reduceTDiv, Int.reduceTMod, minL, maxL, pickB, zHB] at hb) <;> (try (first | (cases hb; done) | exact absurd hb (by decide) | (exfalso; omega))))
    | ((with_reducible refine And.intro ?_ ?_); (focus ((repeat' (first | (with_reducible rfl) | (with_reducible refine And.intro ?_ ?_) | omega | rfl | exact Or.inl rfl | exact Or.inr rfl | exact of_decide_eq_true rfl | exact Path.imp_of (of_decide_eq_true rfl) | (focus ((try simp only [Int.reduceToNat, Int.reduceTDiv, Int.reduceTMod, minL, maxL, pickB, zHB, InK, Path.imp, List.length_replicate, List.length_set, List.length_append, List.length_cons, List.length_nil] at *); omega)) | (refine app_le rfl ?_; omega))); done)); (conv => whnf))
    | ((with_reducible refine And.intro (Side.out ?_) ?_); rotate_left; (conv => whnf))
    | (refine retF1 ?_ <;> (conv => whnf) <;> repeat' (first
 | exact trivial
 | (with_reducible rfl)
 | ((with_reducible refine And.intro ?_ ?_) <;> conv => whnf)
 | omega
 | rfl
 | (refine congrArg (SV.arr _) ?_)
 | (refine congrArg (Value.int _) ?_)
 | (refine congrArg Value.bool ?_)))
 | (refine retF2 ?_ <;> (conv => whnf) <;> repeat' (first
 | exact trivial
 | (with_reducible rfl)
 | ((with_reducible refine And.intro ?_ ?_) <;> conv => whnf)
 | omega
 | rfl
 | (refine congrArg (SV.arr _) ?_)
 | (refine congrArg (Value.int _) ?_)
 | (refine congrArg Value.bool ?_)))); all_goals (try unfold Side)
  all_goals try (repeat' (first | (with_reducible rfl) | (with_reducible refine And.intro ?_ ?_) | omega | rfl | exact Or.inl rfl | exact Or.inr rfl | exact of_decide_eq_true rfl | exact Path.imp_of (of_decide_eq_true rfl) | (focus ((try simp only [Int.reduceToNat, Int.reduceTDiv, Int.reduceTMod, minL, maxL, pickB, zHB, InK, Path.imp, List.length_replicate, List.length_set, List.length_append, List.length_cons, List.length_nil] at *); omega)) | (refine app_le rfl ?_; omega)))
theorem Plane_no {w : List Int} (h : ¬ checkT w = 0) (hl : w.length ≤ 1000) : FnAt Try.prog false 16 [.arr (.int .i64) w] (.tup [.own 0, .lit (.int .i64 (checkT w))]) [(0, .row 3 (.int .i64) true [])] := by
  refine FnAt.of_body tys_ok Try.func16 (by rfl) rfl Try.ntmps16 (by rw [Try.results16]) (by simp) ?_
  
  repeat' (first
 | refine W.seq ?_
 | refine W.block ?_
 | (refine W.region tys_ok [] ?_; conv => whnf)
 | (refine W.drawAll tys_ok [] mixed rfl ?_; conv => whnf)
 | (refine W.ret ?_; conv => whnf)
 | (refine W.skip ?_; conv => whnf)
 | (refine W.exit ?_; conv => whnf)
 | (refine call_at (al := true) (read_bad h hl) rfl rfl rfl rfl ?_; conv => whnf)

    | (refine W.cond rfl (fun hb => ?_) (fun hb => ?_) <;> (try simp only [Int.reduceToNat, Int.reduceTDiv, Int.reduceTMod, minL, maxL, pickB, zHB] at hb) <;> (try (first | (cases hb; done) | exact absurd hb (by decide) | (exfalso; omega))))
    | ((with_reducible refine And.intro ?_ ?_); (focus ((repeat' (first | (with_reducible rfl) | (with_reducible refine And.intro ?_ ?_) | omega | rfl | exact Or.inl rfl | exact Or.inr rfl | exact of_decide_eq_true rfl | exact Path.imp_of (of_decide_eq_true rfl) | (focus ((try simp only [Int.reduceToNat, Int.reduceTDiv, Int.reduceTMod, minL, maxL, pickB, zHB, InK, Path.imp, List.length_replicate, List.length_set, List.length_append, List.length_cons, List.length_nil] at *); omega)) | (refine app_le rfl ?_; omega))); done)); (conv => whnf))
    | ((with_reducible refine And.intro (Side.out ?_) ?_); rotate_left; (conv => whnf))
    | (refine retF1 ?_ <;> (conv => whnf) <;> repeat' (first
 | exact trivial
 | (with_reducible rfl)
 | ((with_reducible refine And.intro ?_ ?_) <;> conv => whnf)
 | omega
 | rfl
 | (refine congrArg (SV.arr _) ?_)
 | (refine congrArg (Value.int _) ?_)
 | (refine congrArg Value.bool ?_)))
 | (refine retF2 ?_ <;> (conv => whnf) <;> repeat' (first
 | exact trivial
 | (with_reducible rfl)
 | ((with_reducible refine And.intro ?_ ?_) <;> conv => whnf)
 | omega
 | rfl
 | (refine congrArg (SV.arr _) ?_)
 | (refine congrArg (Value.int _) ?_)
 | (refine congrArg Value.bool ?_)))); all_goals (try unfold Side)
  all_goals try (repeat' (first | (with_reducible rfl) | (with_reducible refine And.intro ?_ ?_) | omega | rfl | exact Or.inl rfl | exact Or.inr rfl | exact of_decide_eq_true rfl | exact Path.imp_of (of_decide_eq_true rfl) | (focus ((try simp only [Int.reduceToNat, Int.reduceTDiv, Int.reduceTMod, minL, maxL, pickB, zHB, InK, Path.imp, List.length_replicate, List.length_set, List.length_append, List.length_cons, List.length_nil] at *); omega)) | (refine app_le rfl ?_; omega)))

theorem word3 : Word [0, 1, 2, 0, 1, 2] 3 := word_of rfl (by decide) (by decide)
theorem word2 : Word [0, 1, 0, 1] 2 := word_of rfl (by decide) (by decide)
theorem word1 : Word [0, 0] 1 := word_of rfl (by decide) (by decide)
theorem least3 : leastT 3 [0, 1, 2, 0, 1, 2] = (0, [1, -1, 1]) := by decide +kernel
theorem least2 : (leastT 2 [0, 1, 0, 1]).1 = 1 := by decide +kernel
theorem faces1 : (facesT (nextT [0, 0] [1]) 2).length = 3 := by decide +kernel
theorem lives_1 : FnAt Try.prog false 16 [.arr (.int .i64) ([0, 1, 2, 0, 1, 2] : List Int)] (.tup [.st true (.arr (.int .i64) ([1, -1, 1] : List Int)), .lit (.int .i64 0)]) [] := by
  have := Plane_ok word3 (by decide) (by rw [least3])
  rw [least3] at this
  exact this
theorem lives_2 : FnAt Try.prog false 16 [.arr (.int .i64) ([0, 1, 0, 1] : List Int)] (.tup [.own 0, .lit (.int .i64 5)]) [(0, .row 3 (.int .i64) true [])] :=
  Plane_none word2 (by decide) (by rw [least2]; decide)
theorem lives_3 : FnAt Try.prog false 23 [.arr (.int .i64) ([0, 0] : List Int), .arr (.int .i64) ([1] : List Int)] (.tup [.own 0, .lit (.int .i64 0)]) [(0, .row 22 (.sl (.int .i64)) true (facesT (nextT [0, 0] [1]) 2))] :=
  Faces_ok word1 (by decide) (by decide)
theorem lives_4 : ∃ s, FnAt Try.prog false 21 [.arr (.int .i64) ([0, 1, 0, 1] : List Int)] (.tup [.lit (.int .i64 1), .st true (.arr (.int .i64) s), .lit (.int .i64 0)]) [] := by
  have := Least_ok word2 (by decide)
  rw [least2] at this
  exact ⟨_, this⟩
theorem lives_at : FnAt Try.prog false 20 [] (.lit (.bool true)) [] := by
  obtain ⟨s, h4⟩ := lives_4
  have h3 := lives_3
  have hf := faces1
  obtain ⟨F, hF⟩ : ∃ F, F = facesT (nextT [0, 0] [1]) 2 := ⟨_, rfl⟩
  rw [← hF] at h3 hf
  have hf' : @List.length (Ty.sl (.int .i64)).T F = 3 := hf
  refine FnAt.of_body tys_ok Try.func20 (by rfl) rfl Try.ntmps20 (by rw [Try.results20]) (by simp) ?_
  
  repeat' (first
 | refine W.seq ?_
 | refine W.block ?_
 | (refine W.region tys_ok [] ?_; conv => whnf)
 | (refine W.drawAll tys_ok [] mixed rfl ?_; conv => whnf)
 | (refine W.ret ?_; conv => whnf)
 | (refine W.skip ?_; conv => whnf)
 | (refine W.exit ?_; conv => whnf)
 | (refine call_at (al := false) (lives_1) rfl rfl rfl rfl ?_; conv => whnf)
 | (refine call_at (al := false) (lives_2) rfl rfl rfl rfl ?_; conv => whnf)
 | (refine call_at (al := false) (h3) rfl rfl rfl rfl ?_; conv => whnf)
 | (refine call_at (al := false) (h4) rfl rfl rfl rfl ?_; conv => whnf)

    | (refine W.cond rfl (fun hb => ?_) (fun hb => ?_) <;> (try simp only [Int.reduceToNat, Int.reduceTDiv, Int.reduceTMod, minL, maxL, pickB, zHB] at hb) <;> (try (first | (cases hb; done) | exact absurd hb (by decide) | (exfalso; omega))))
    | ((with_reducible refine And.intro ?_ ?_); (focus ((repeat' (first | (with_reducible rfl) | (with_reducible refine And.intro ?_ ?_) | omega | rfl | exact Or.inl rfl | exact Or.inr rfl | exact of_decide_eq_true rfl | exact Path.imp_of (of_decide_eq_true rfl) | (focus ((try simp only [Int.reduceToNat, Int.reduceTDiv, Int.reduceTMod, minL, maxL, pickB, zHB, InK, Path.imp, List.length_replicate, List.length_set, List.length_append, List.length_cons, List.length_nil] at *); omega)) | (refine app_le rfl ?_; omega))); done)); (conv => whnf))
    | ((with_reducible refine And.intro (Side.out ?_) ?_); rotate_left; (conv => whnf))
    | (refine retF1 ?_ <;> (conv => whnf) <;> repeat' (first
 | exact trivial
 | (with_reducible rfl)
 | ((with_reducible refine And.intro ?_ ?_) <;> conv => whnf)
 | omega
 | rfl
 | (refine congrArg (SV.arr _) ?_)
 | (refine congrArg (Value.int _) ?_)
 | (refine congrArg Value.bool ?_)))
 | (refine retF2 ?_ <;> (conv => whnf) <;> repeat' (first
 | exact trivial
 | (with_reducible rfl)
 | ((with_reducible refine And.intro ?_ ?_) <;> conv => whnf)
 | omega
 | rfl
 | (refine congrArg (SV.arr _) ?_)
 | (refine congrArg (Value.int _) ?_)
 | (refine congrArg Value.bool ?_)))); all_goals (try unfold Side)
  all_goals try (repeat' (first | (with_reducible rfl) | (with_reducible refine And.intro ?_ ?_) | omega | rfl | exact Or.inl rfl | exact Or.inr rfl | exact of_decide_eq_true rfl | exact Path.imp_of (of_decide_eq_true rfl) | (focus ((try simp only [Int.reduceToNat, Int.reduceTDiv, Int.reduceTMod, minL, maxL, pickB, zHB, InK, Path.imp, List.length_replicate, List.length_set, List.length_append, List.length_cons, List.length_nil] at *); omega)) | (refine app_le rfl ?_; omega)))
end Go.Proofs.Ytdfajcfkdfjoeaa
/- Words made of numbers. No condition. -/
namespace Go.Scr
set_option linter.unusedVariables false
set_option linter.unusedSimpArgs false

def putT (l : List Int) (a : Nat) (v : Int) : List Int := l.take a ++ [v] ++ l.drop a
theorem putT_len {l : List Int} {a : Nat} {v : Int} : (putT l a v).length = l.length + 1 := by
  unfold putT; simp; omega
def madeK (x : List (Int × Int × Unit)) : Nat → List Int
  | 0 => [0, 0]
  | i + 1 => let w := putT (madeK x i) ((x.getD i (0, 0, ())).1.toNat % (2 * i + 3)) (i + 1)
    putT w ((x.getD i (0, 0, ())).2.1.toNat % (2 * i + 4)) (i + 1)
theorem madeK_len {x : List (Int × Int × Unit)} : ∀ {i : Nat}, (madeK x i).length = 2 * i + 2
  | 0 => rfl
  | i + 1 => by rw [madeK]; simp only [putT_len, madeK_len]; omega
theorem putT_get {l : List Int} {a : Nat} {v : Int} (ha : a ≤ l.length) {i : Nat} : (putT l a v).getD i 0 = if i < a then l.getD i 0 else if i = a then v else l.getD (i - 1) 0 := by
  unfold putT
  simp only [List.getD_eq_getElem?_getD]
  have hl : (l.take a).length = a := by rw [List.length_take]; omega
  by_cases h : i < a
  · rw [if_pos h, List.append_assoc, List.getElem?_append_left (by omega), List.getElem?_take, if_pos h]
  · rw [if_neg h]
    by_cases h2 : i = a
    · subst h2
      rw [if_pos rfl, List.append_assoc, List.getElem?_append_right (by omega), hl]; simp
    · rw [if_neg h2, List.getElem?_append_right (by simp; omega), List.getElem?_drop]
      congr 2
      simp; omega
/-- Signs made of a number. -/
def sigAt (z i : Nat) : Int := 1 - 2 * (bitT z i : Int)
def sigT (n z : Nat) : List Int := (List.range n).map fun i => sigAt z i
theorem sigT_len {n z : Nat} : (sigT n z).length = n := by simp [sigT]
theorem sigT_get {n z i : Nat} (h : i < n) : (sigT n z).getD i 0 = sigAt z i := by
  simp [sigT, List.getD_eq_getElem?_getD, List.getElem?_map, List.getElem?_range h]
theorem sigT_succ {n z : Nat} : sigT (n + 1) z = sigT n z ++ [sigAt z n] := by simp [sigT, List.range_succ]
theorem sigT_all {n z : Nat} : (sigT n z).all (fun x => decide (x = 1) || decide (x = -1)) = true := by
  rw [List.all_eq_true]
  intro x hx
  obtain ⟨i, _, rfl⟩ := List.mem_map.1 hx
  have := bitT_le (k := z) (j := i)
  unfold sigAt
  have h : bitT z i = 0 ∨ bitT z i = 1 := by omega
  rcases h with h | h <;> rw [h] <;> decide
theorem sigT_neg {n z v : Nat} (hz : z < 65536) (hn : n ≤ 16) (hv : v < n) : (sigT n (65535 - z)).getD v 0 = - (sigT n z).getD v 0 := by
  rw [sigT_get hv, sigT_get hv]
  have := bit_not (n := 16) (k := z) (j := v) (by omega) (by omega)
  have h2 := bitT_le (k := z) (j := v)
  unfold sigAt
  rw [show 65535 - z = 2 ^ 16 - 1 - z by omega, this]
  omega
end Go.Scr
/- Words and signs made of numbers. No condition. -/
namespace Go.Proofs.Ytdfajcfkdfjoeaa
open Go Go.Vc Go.Scr
set_option linter.unusedVariables false
set_option linter.unusedSimpArgs false

set_option maxHeartbeats 4000000 in
theorem put_at {w : List Int} {a : Nat} {v : Int} (ha : a ≤ w.length) (hl : w.length ≤ 100) : FnAt Try.prog false 41 [.arr (.int .i64) w, .lit (.int .i64 a), .lit (.int .i64 v)] (.own 0) [(0, .row 3 (.int .i64) true (putT w a v))] := by
  have hwl : @List.length (Ty.int .i64).T w ≤ 100 := hl
  have ha' : a ≤ @List.length (Ty.int .i64).T w := ha
  have g1 : ([] : List Int) ++ (w.take a).drop 0 ++ [v] ++ (w.take w.length).drop a = putT w a v := by
    unfold putT; simp
  have g2 : (([] : List Int) ++ (w.take a).drop 0 ++ [v]).length + ((w.take w.length).drop a).length ≤ 4294967296 := by simp; omega
  have g3 : (([] : List Int) ++ (w.take a).drop 0).length + [v].length ≤ 4294967296 := by simp; omega
  have g4 : ([] : List Int).length + ((w.take a).drop 0).length ≤ 4294967296 := by simp; omega
  refine FnAt.of_body tys_ok Try.func41 (by rfl) rfl Try.ntmps41 (by rw [Try.results41]) (by simp) ?_
  
  repeat' (first
 | refine W.seq ?_
 | refine W.block ?_
 | (refine W.drawPh (id := 1) tys_ok [] mixed [0, 0, 0, 6, 9, 0, 32, 80, 0, 0, 768, 1152, 4095] [([1, 2, 5, 8, 9], 6, 2047), ([], 1, 4095), ([12], 0, 8191)] (by decide +kernel) ?_; conv => whnf)
 | (refine W.region tys_ok [] ?_; conv => whnf)
 | (refine W.drawAll tys_ok [] mixed rfl ?_; conv => whnf)
 | (refine W.ret ?_; conv => whnf)
 | (refine W.skip ?_; conv => whnf)
 | (refine W.exit ?_; conv => whnf)

    | (refine Both.mk ?_ ?_ <;> (conv => whnf))
    | (refine subF.leaf ?_ <;> (conv => whnf) <;> repeat' (first
 | exact trivial
 | (with_reducible rfl)
 | ((with_reducible refine And.intro ?_ ?_) <;> conv => whnf)
 | omega
 | rfl
 | (refine congrArg (SV.arr _) ?_)
 | (refine congrArg (Value.int _) ?_)
 | (refine congrArg Value.bool ?_)))
 | (refine subF.side ?_ <;> (conv => whnf) <;> repeat' (first
 | exact trivial
 | (with_reducible rfl)
 | ((with_reducible refine And.intro ?_ ?_) <;> conv => whnf)
 | omega
 | rfl
 | (refine congrArg (SV.arr _) ?_)
 | (refine congrArg (Value.int _) ?_)
 | (refine congrArg Value.bool ?_)))
 | (refine W.cond rfl (fun hb => ?_) (fun hb => ?_) <;> (try simp only [Int.reduceToNat, Int.reduceTDiv, Int.reduceTMod, minL, maxL, pickB, zHB] at hb) <;> (try (first | (cases hb; done) | exact absurd hb (by decide) | (exfalso; omega))))
 | ((with_reducible refine And.intro ?_ ?_); (focus ((repeat' (first | (with_reducible rfl) | (with_reducible refine And.intro ?_ ?_) | omega | rfl | exact Or.inl rfl | exact Or.inr rfl | exact of_decide_eq_true rfl | exact Path.imp_of (of_decide_eq_true rfl) | (focus ((try simp only [Int.reduceToNat, Int.reduceTDiv, Int.reduceTMod, minL, maxL, pickB, zHB, InK, Path.imp, List.length_replicate, List.length_set, List.length_append, List.length_cons, List.length_nil] at *); omega)) | (refine app_le rfl ?_; omega))); done)); (conv => whnf))
 | ((with_reducible refine And.intro (Side.out ?_) ?_); rotate_left; (conv => whnf))
 | (refine retF1 ?_ <;> (conv => whnf) <;> repeat' (first
 | exact trivial
 | (with_reducible rfl)
 | ((with_reducible refine And.intro ?_ ?_) <;> conv => whnf)
 | omega
 | rfl
 | (refine congrArg (SV.arr _) ?_)
 | (refine congrArg (Value.int _) ?_)
 | (refine congrArg Value.bool ?_)))
 | (refine retF2 ?_ <;> (conv => whnf) <;> repeat' (first
 | exact trivial
 | (with_reducible rfl)
 | ((with_reducible refine And.intro ?_ ?_) <;> conv => whnf)
 | omega
 | rfl
 | (refine congrArg (SV.arr _) ?_)
 | (refine congrArg (Value.int _) ?_)
 | (refine congrArg Value.bool ?_)))); all_goals (try unfold Side)
  all_goals try (repeat' (first | (with_reducible rfl) | (with_reducible refine And.intro ?_ ?_) | omega | rfl | exact Or.inl rfl | exact Or.inr rfl | exact of_decide_eq_true rfl | exact Path.imp_of (of_decide_eq_true rfl) | (focus ((try simp only [Int.reduceToNat, Int.reduceTDiv, Int.reduceTMod, minL, maxL, pickB, zHB, InK, Path.imp, List.length_replicate, List.length_set, List.length_append, List.length_cons, List.length_nil] at *); omega)) | (refine app_le rfl ?_; omega)))
  all_goals first | exact g1 | exact g2 | exact g3 | exact g4
theorem sig_op {z i : Nat} (hz : z < 65536) (hi : i < 11) : ∃ e : Int, (((z : Int) / 2 ^ (i : Int).toNat).toNat &&& Int.toNat 1 : Nat) = e ∧ 0 ≤ e ∧ e ≤ 1 ∧ 1 - 2 * e = sigAt z i ∧
    (0 ≤ (i : Int) ∧ (i : Int).toNat ≤ IntKind.u16.bits) ∧ (0 ≤ (z : Int) / 2 ^ (i : Int).toNat ∧ (0 : Int) ≤ 1 ∧ InK .u16 ((z : Int) / 2 ^ (i : Int).toNat) ∧ InK .u16 1) := by
  have h2 : (z : Int) / 2 ^ i = ((z / 2 ^ i : Nat) : Int) := by norm_cast
  have h3 : z / 2 ^ i ≤ 65535 := Nat.le_trans (Nat.div_le_self _ _) (by omega)
  have h4 := bit_and (k := z) (j := i)
  have h6 := bitT_le (k := z) (j := i)
  have h7 : sigAt z i = 1 - 2 * (bitT z i : Int) := rfl
  obtain ⟨q, hq⟩ : ∃ q, q = z / 2 ^ i := ⟨_, rfl⟩
  rw [← hq] at h2 h3 h4
  rw [Int.toNat_natCast, h2, Int.toNat_natCast, show Int.toNat 1 = 1 from rfl, h4]
  refine ⟨_, rfl, by omega, by omega, h7.symm, ⟨by omega, by show _ ≤ 16; omega⟩, by omega, by omega, ?_, by simp [InK]⟩
  simp only [InK]; omega
set_option maxHeartbeats 4000000 in
theorem signs_at {n z : Nat} (hn : n ≤ 10) (hz : z < 65536) : FnAt Try.prog false 29 [.lit (.int .i64 n), .lit (.int .u16 z)] (.own 0) [(0, .row 3 (.int .i64) true (sigT n z))] := by
  refine FnAt.of_body tys_ok Try.func29 (by rfl) rfl Try.ntmps29 (by rw [Try.results29]) (by simp) ?_
  
  repeat' (first
 | refine W.seq ?_
 | refine W.block ?_
 | (refine W.region tys_ok [] ?_; conv => whnf)
 | (refine W.drawAll tys_ok [] mixed rfl ?_; conv => whnf)
 | (refine W.ret ?_; conv => whnf)
 | (refine W.skip ?_; conv => whnf)
 | (refine W.exit ?_; conv => whnf)

    | (refine W.cond rfl (fun hb => ?_) (fun hb => ?_) <;> (try simp only [Int.reduceToNat, Int.reduceTDiv, Int.reduceTMod, minL, maxL, pickB, zHB] at hb) <;> (try (first | (cases hb; done) | exact absurd hb (by decide) | (exfalso; omega))))
    | ((with_reducible refine And.intro ?_ ?_); (focus ((repeat' (first | (with_reducible rfl) | (with_reducible refine And.intro ?_ ?_) | omega | rfl | exact Or.inl rfl | exact Or.inr rfl | exact of_decide_eq_true rfl | exact Path.imp_of (of_decide_eq_true rfl) | (focus ((try simp only [Int.reduceToNat, Int.reduceTDiv, Int.reduceTMod, minL, maxL, pickB, zHB, InK, Path.imp, List.length_replicate, List.length_set, List.length_append, List.length_cons, List.length_nil] at *); omega)) | (refine app_le rfl ?_; omega))); done)); (conv => whnf))
    | ((with_reducible refine And.intro (Side.out ?_) ?_); rotate_left; (conv => whnf))
    | (refine retF1 ?_ <;> (conv => whnf) <;> repeat' (first
 | exact trivial
 | (with_reducible rfl)
 | ((with_reducible refine And.intro ?_ ?_) <;> conv => whnf)
 | omega
 | rfl
 | (refine congrArg (SV.arr _) ?_)
 | (refine congrArg (Value.int _) ?_)
 | (refine congrArg Value.bool ?_)))
 | (refine retF2 ?_ <;> (conv => whnf) <;> repeat' (first
 | exact trivial
 | (with_reducible rfl)
 | ((with_reducible refine And.intro ?_ ?_) <;> conv => whnf)
 | omega
 | rfl
 | (refine congrArg (SV.arr _) ?_)
 | (refine congrArg (Value.int _) ?_)
 | (refine congrArg Value.bool ?_)))); all_goals (try unfold Side)
  all_goals try (repeat' (first | (with_reducible rfl) | (with_reducible refine And.intro ?_ ?_) | omega | rfl | exact Or.inl rfl | exact Or.inr rfl | exact of_decide_eq_true rfl | exact Path.imp_of (of_decide_eq_true rfl) | (focus ((try simp only [Int.reduceToNat, Int.reduceTDiv, Int.reduceTMod, minL, maxL, pickB, zHB, InK, Path.imp, List.length_replicate, List.length_set, List.length_append, List.length_cons, List.length_nil] at *); omega)) | (refine app_le rfl ?_; omega)))
  refine W.loop (fun i : Nat => ⟨[(0, .lit (.int .i64 (n))), (1, .lit (.int .u16 z)), (5, .own 900005), (6, .lit (.int .i64 (i)))], [(900005, .row 3 (.int .i64) true ((sigT i z : List Int) : List Int))]⟩) (fun i => i ≤ n) (fun i => n - i) (0) ?_ ?_
  · refine ⟨Nat.zero_le _, ?_⟩
    refine subF.ok ?_ <;> (conv => whnf) <;> repeat' (first
 | exact trivial
 | (with_reducible rfl)
 | ((with_reducible refine And.intro ?_ ?_) <;> conv => whnf)
 | omega
 | rfl
 | (refine congrArg (SV.arr _) ?_)
 | (refine congrArg (Value.int _) ?_)
 | (refine congrArg Value.bool ?_))
  · intro i hi
    have hsl : @List.length (Ty.int .i64).T (sigT i z) = i := sigT_len
    by_cases hin : i < n
    · obtain ⟨e, f0, f1, f2, f3, f4, f5⟩ := sig_op hz (i := i) (by omega)
      repeat' (first
 | refine W.seq ?_
 | refine W.block ?_
 | (refine W.region tys_ok [] ?_; conv => whnf)
 | (refine W.drawAll tys_ok [] mixed rfl ?_; conv => whnf)
 | (refine W.ret ?_; conv => whnf)
 | (refine W.skip ?_; conv => whnf)
 | (refine W.exit ?_; conv => whnf)

    | (refine W.cond rfl (fun hb => ?_) (fun hb => ?_) <;> (try simp only [Int.reduceToNat, Int.reduceTDiv, Int.reduceTMod, minL, maxL, pickB, zHB] at hb) <;> (try (first | (cases hb; done) | exact absurd hb (by decide) | (exfalso; omega))))
    | ((with_reducible refine And.intro ?_ ?_); (focus ((repeat' (first | (with_reducible rfl) | (with_reducible refine And.intro ?_ ?_) | omega | rfl | exact Or.inl rfl | exact Or.inr rfl | exact of_decide_eq_true rfl | exact Path.imp_of (of_decide_eq_true rfl) | (focus ((try simp only [Int.reduceToNat, Int.reduceTDiv, Int.reduceTMod, minL, maxL, pickB, zHB, InK, Path.imp, List.length_replicate, List.length_set, List.length_append, List.length_cons, List.length_nil] at *); omega)) | (refine app_le rfl ?_; omega))); done)); (conv => whnf))
    | ((with_reducible refine And.intro (Side.out ?_) ?_); rotate_left; (conv => whnf))
    | (refine retF1 ?_ <;> (conv => whnf) <;> repeat' (first
 | exact trivial
 | (with_reducible rfl)
 | ((with_reducible refine And.intro ?_ ?_) <;> conv => whnf)
 | omega
 | rfl
 | (refine congrArg (SV.arr _) ?_)
 | (refine congrArg (Value.int _) ?_)
 | (refine congrArg Value.bool ?_)))
 | (refine retF2 ?_ <;> (conv => whnf) <;> repeat' (first
 | exact trivial
 | (with_reducible rfl)
 | ((with_reducible refine And.intro ?_ ?_) <;> conv => whnf)
 | omega
 | rfl
 | (refine congrArg (SV.arr _) ?_)
 | (refine congrArg (Value.int _) ?_)
 | (refine congrArg Value.bool ?_)))); all_goals (try unfold Side)
      all_goals try exact Path.imp_of f4
      all_goals try exact Path.imp_of f5
      all_goals try exact app_le rfl (Nat.le_trans (Nat.succ_le_succ (Nat.le_of_eq hsl)) (by omega))
      all_goals try (rw [f0])
      all_goals try (repeat' (first | (with_reducible rfl) | (with_reducible refine And.intro ?_ ?_) | omega | rfl | exact Or.inl rfl | exact Or.inr rfl | exact of_decide_eq_true rfl | exact Path.imp_of (of_decide_eq_true rfl) | (focus ((try simp only [Int.reduceToNat, Int.reduceTDiv, Int.reduceTMod, minL, maxL, pickB, zHB, InK, Path.imp, List.length_replicate, List.length_set, List.length_append, List.length_cons, List.length_nil] at *); omega)) | (refine app_le rfl ?_; omega)))
      refine ⟨i + 1, ⟨by omega, by omega⟩, ?_⟩
      refine subF.ok ?_ <;> (conv => whnf) <;> repeat' (first
 | exact trivial
 | (with_reducible rfl)
 | ((with_reducible refine And.intro ?_ ?_) <;> conv => whnf)
 | omega
 | rfl
 | (refine congrArg (SV.arr _) ?_)
 | (refine congrArg (Value.int _) ?_)
 | (refine congrArg Value.bool ?_))
      all_goals (have e : sigT i z ++ [1 - 2 * ((((z : Int) / 2 ^ (i : Int).toNat).toNat &&& Int.toNat 1 : Nat) : Int)] = sigT (i + 1) z := by rw [f0, f3, sigT_succ])
      all_goals (have e2 : ∀ x : Int, 1 - 2 * x = sigAt z i → sigT i z ++ [1 - 2 * x] = sigT (i + 1) z := fun x hx => by rw [hx, sigT_succ])
      all_goals first | exact e | exact e2 _ (by assumption)
    · have hie : n = i := by omega
      subst hie
      repeat' (first
 | refine W.seq ?_
 | refine W.block ?_
 | (refine W.region tys_ok [] ?_; conv => whnf)
 | (refine W.drawAll tys_ok [] mixed rfl ?_; conv => whnf)
 | (refine W.ret ?_; conv => whnf)
 | (refine W.skip ?_; conv => whnf)
 | (refine W.exit ?_; conv => whnf)

    | (refine W.cond rfl (fun hb => ?_) (fun hb => ?_) <;> (try simp only [Int.reduceToNat, Int.reduceTDiv, Int.reduceTMod, minL, maxL, pickB, zHB] at hb) <;> (try (first | (cases hb; done) | exact absurd hb (by decide) | (exfalso; omega))))
    | ((with_reducible refine And.intro ?_ ?_); (focus ((repeat' (first | (with_reducible rfl) | (with_reducible refine And.intro ?_ ?_) | omega | rfl | exact Or.inl rfl | exact Or.inr rfl | exact of_decide_eq_true rfl | exact Path.imp_of (of_decide_eq_true rfl) | (focus ((try simp only [Int.reduceToNat, Int.reduceTDiv, Int.reduceTMod, minL, maxL, pickB, zHB, InK, Path.imp, List.length_replicate, List.length_set, List.length_append, List.length_cons, List.length_nil] at *); omega)) | (refine app_le rfl ?_; omega))); done)); (conv => whnf))
    | ((with_reducible refine And.intro (Side.out ?_) ?_); rotate_left; (conv => whnf))
    | (refine retF1 ?_ <;> (conv => whnf) <;> repeat' (first
 | exact trivial
 | (with_reducible rfl)
 | ((with_reducible refine And.intro ?_ ?_) <;> conv => whnf)
 | omega
 | rfl
 | (refine congrArg (SV.arr _) ?_)
 | (refine congrArg (Value.int _) ?_)
 | (refine congrArg Value.bool ?_)))
 | (refine retF2 ?_ <;> (conv => whnf) <;> repeat' (first
 | exact trivial
 | (with_reducible rfl)
 | ((with_reducible refine And.intro ?_ ?_) <;> conv => whnf)
 | omega
 | rfl
 | (refine congrArg (SV.arr _) ?_)
 | (refine congrArg (Value.int _) ?_)
 | (refine congrArg Value.bool ?_)))); all_goals (try unfold Side)
      all_goals try (repeat' (first | (with_reducible rfl) | (with_reducible refine And.intro ?_ ?_) | omega | rfl | exact Or.inl rfl | exact Or.inr rfl | exact of_decide_eq_true rfl | exact Path.imp_of (of_decide_eq_true rfl) | (focus ((try simp only [Int.reduceToNat, Int.reduceTDiv, Int.reduceTMod, minL, maxL, pickB, zHB, InK, Path.imp, List.length_replicate, List.length_set, List.length_append, List.length_cons, List.length_nil] at *); omega)) | (refine app_le rfl ?_; omega)))
end Go.Proofs.Ytdfajcfkdfjoeaa
/- The steps at a crossing, and the parity of the number of faces. No condition. -/
namespace Go.Scr
set_option linter.unusedVariables false
set_option linter.unusedSimpArgs false

/-- The edge before a position. -/
def bf (n a : Nat) : Nat := if a = 0 then 2 * n - 1 else a - 1
theorem bf_lt {n a : Nat} (h : a < 2 * n) : bf n a < 2 * n := by unfold bf; split <;> omega
theorem bf_inj {n a b : Nat} (ha : a < 2 * n) (hb : b < 2 * n) (h : bf n a = bf n b) : a = b := by
  unfold bf at h; split at h <;> split at h <;> omega
theorem at_bf {n a : Nat} (h : a < 2 * n) : atT (2 * n) (bf n a : Nat) = a := by
  unfold atT bf
  split
  · rw [if_pos (by omega)]
    rename_i h0; subst h0
    rw [show ((2 * n - 1 : Nat) : Int) + 1 = (2 * n : Nat) by omega, Int.tmod_self]; rfl
  · rw [if_pos (by omega), Int.tmod_eq_emod_of_nonneg (by omega), Int.emod_eq_of_lt (by omega) (by omega)]; omega
theorem at_neg {n a : Nat} (h : a < 2 * n) : atT (2 * n) (-1 - (a : Int)) = a := by
  unfold atT; rw [if_neg (by omega)]; omega
theorem at_cases {n a : Nat} {st : Int} (ha : a < 2 * n) (h0 : -((2 * n : Nat) : Int) ≤ st) (h1 : st < (2 * n : Nat)) (h : atT (2 * n) st = a) : st = (bf n a : Nat) ∨ st = -1 - (a : Int) := by
  unfold atT at h
  split at h
  · left
    unfold bf
    by_cases e : st + 1 = (2 * n : Nat)
    · rw [e, Int.tmod_self] at h; rw [if_pos (by omega)]; omega
    · rw [Int.tmod_eq_emod_of_nonneg (by omega), Int.emod_eq_of_lt (by omega) (by omega)] at h
      rw [if_neg (by omega)]; omega
  · right; omega
theorem tm_bf {n o : Nat} (h : o < 2 * n) : ((o : Int) + (2 * n : Nat) - 1).tmod (2 * n : Nat) = (bf n o : Nat) := by
  rw [Int.tmod_eq_emod_of_nonneg (by omega)]
  unfold bf; split
  · rename_i h0; subst h0
    rw [Int.emod_eq_of_lt (by omega) (by omega)]; omega
  · rw [show (o : Int) + (2 * n : Nat) - 1 = ((o - 1 : Nat) : Int) + (2 * n : Nat) by omega, Int.add_emod_right, Int.emod_eq_of_lt (by omega) (by omega)]

/-- A crossing: the positions of a letter, and where its four steps lead. -/
structure Cr (w s : List Int) (n x p q : Nat) : Prop where
  pq : p < q
  hq : q < 2 * n
  pl : placesT w x = [(p : Int), (q : Int)]
  wp : w.getD p 0 = x
  wq : w.getD q 0 = x
  all : ∀ i, i < 2 * n → w.getD i 0 = x → i = p ∨ i = q
  nx : s.getD x 0 = 1 ∧ nextT w s (bf n p : Nat) = -1 - (bf n q : Nat) ∧ nextT w s (-1 - (p : Int)) = q ∧ nextT w s (bf n q : Nat) = p ∧ nextT w s (-1 - (q : Int)) = -1 - (bf n p : Nat)
    ∨ s.getD x 0 = -1 ∧ nextT w s (bf n p : Nat) = q ∧ nextT w s (-1 - (p : Int)) = -1 - (bf n q : Nat) ∧ nextT w s (bf n q : Nat) = -1 - (bf n p : Nat) ∧ nextT w s (-1 - (q : Int)) = p

theorem cr_of {w s : List Int} {n : Nat} (h : Word w n) (hs : s.all (fun x => decide (x = 1) || decide (x = -1)) = true) (hl : s.length = n) {x : Nat} (hx : x < n) : ∃ p q, Cr w s n x p q := by
  obtain ⟨p, q, hpq, hq, hpl, hwp, hwq, hall⟩ := h.places hx
  refine ⟨p, q, hpq, hq, hpl, hwp, hwq, hall, ?_⟩
  have key : ∀ (st : Int) (a : Nat), a < 2 * n → w.getD a 0 = x → -((2 * n : Nat) : Int) ≤ st → st < (2 * n : Nat) → atT (2 * n) st = a →
      nextT w s st = if decide (0 ≤ st) == (decide (s.getD x 0 = 1) == decide (a = p)) then (-1 : Int) - ((bf n (p + q - a) : Nat) : Int) else ((p + q - a : Nat) : Int) := by
    intro st a ha hwa h0 h1 hat
    obtain ⟨a', x', p', q', H⟩ := at_of h hs hl h0 h1
    have e1 : a' = a := by have := H.at_; omega
    subst e1
    have e2 : x' = x := by have := H.wa; omega
    subst e2
    have e3 := H.pl
    rw [hpl] at e3
    simp at e3
    obtain ⟨e4, e5⟩ := e3
    have e4 : p = p' := by omega
    have e5 : q = q' := by omega
    subst e4 e5
    have h2 := H.hp
    rw [H.nx]
    rw [show (p : Int) + q - a' = ((p + q - a' : Nat) : Int) by omega, tm_bf (by omega)]
  have hm : s.getD x 0 ∈ s := mem_getD (by omega)
  have hsg := List.all_eq_true.1 hs _ hm
  have k1 := key (bf n p : Nat) p (by omega) hwp (by have := bf_lt (n := n) (a := p) (by omega); omega) (by have := bf_lt (n := n) (a := p) (by omega); omega) (at_bf (by omega))
  have k2 := key (-1 - (p : Int)) p (by omega) hwp (by omega) (by omega) (at_neg (by omega))
  have k3 := key (bf n q : Nat) q (by omega) hwq (by have := bf_lt (n := n) (a := q) (by omega); omega) (by have := bf_lt (n := n) (a := q) (by omega); omega) (at_bf (by omega))
  have k4 := key (-1 - (q : Int)) q (by omega) hwq (by omega) (by omega) (at_neg (by omega))
  have hqp : ¬ q = p := by omega
  have n1 : ¬ (0 : Int) ≤ -1 - (p : Int) := by omega
  have n2 : ¬ (0 : Int) ≤ -1 - (q : Int) := by omega
  have p1 : (0 : Int) ≤ (bf n p : Nat) := by omega
  have p2 : (0 : Int) ≤ (bf n q : Nat) := by omega
  rw [show p + q - p = q by omega] at k1 k2
  rw [show p + q - q = p by omega] at k3 k4
  simp only [n1, n2, p1, p2, hqp, decide_true, decide_false] at k1 k2 k3 k4
  have hsg2 : s.getD x 0 = 1 ∨ s.getD x 0 = -1 := by simpa using hsg
  rcases hsg2 with e | e
  · left
    rw [e] at k1 k2 k3 k4
    exact ⟨e, by simpa using k1, by simpa using k2, by simpa using k3, by simpa using k4⟩
  · right
    rw [e] at k1 k2 k3 k4
    exact ⟨e, by simpa using k1, by simpa using k2, by simpa using k3, by simpa using k4⟩

theorem sw_comm {f : Nat → Nat} {a b : Nat} (h : a ≠ b) (x : Nat) : sw a b f x = sw b a f x := by
  unfold sw; split <;> split <;> first | rfl | omega
theorem flip' {N : Nat} {f : Nat → Nat} {a b : Nat} (h : Pm f N) (hab : a ≠ b) (ha : a < N) (hb : b < N) : (cyc (sw a b f) N + cyc f N) % 2 = 1 := by
  by_cases h1 : a < b
  · exact flip h h1 hb
  · rw [cyc_congr fun x _ => sw_comm hab x]; exact flip h (by omega) ha
theorem Pm.congr {f g : Nat → Nat} {N : Nat} (h : Pm f N) (e : ∀ x, x < N → f x = g x) : Pm g N :=
  ⟨fun x hx => by rw [← e x hx]; exact h.lt x hx, fun x y hx hy he => h.inj x y hx hy (by rw [e x hx, e y hy, he])⟩
/-- The first j pairs of numbers exchanged from outside. -/
def chi (N j : Nat) : Nat → Nat := fun k => if k < j ∨ N - j ≤ k then N - 1 - k else k
theorem chi_ok {M : Nat} : ∀ j, j ≤ M → Pm (chi (2 * M) j) (2 * M) ∧ (cyc (chi (2 * M) j) (2 * M) + j) % 2 = 0
  | 0, _ => by
    have e : ∀ x, x < 2 * M → (fun x => x) x = chi (2 * M) 0 x := fun x hx => by unfold chi; exact (if_neg (by omega)).symm
    refine ⟨Pm.congr ⟨fun x hx => hx, fun x y _ _ h => h⟩ e, ?_⟩
    rw [← cyc_congr e, cyc_id]; omega
  | j + 1, hj => by
    obtain ⟨h1, h2⟩ := chi_ok (M := M) j (by omega)
    have e : ∀ x, x < 2 * M → sw j (2 * M - 1 - j) (chi (2 * M) j) x = chi (2 * M) (j + 1) x := fun x hx => by
      unfold sw chi
      by_cases h3 : x = j
      · rw [if_pos h3, if_neg (by omega), if_pos (by omega)]; omega
      · rw [if_neg h3]
        by_cases h4 : x = 2 * M - 1 - j
        · subst h4; rw [if_pos rfl, if_neg (by omega), if_pos (by omega)]; omega
        · rw [if_neg h4]
          by_cases h5 : x < j ∨ 2 * M - j ≤ x
          · have h6 : x < j + 1 ∨ 2 * M - (j + 1) ≤ x := by omega
            rw [if_pos h5, if_pos h6]
          · have h6 : ¬ (x < j + 1 ∨ 2 * M - (j + 1) ≤ x) := by omega
            rw [if_neg h5, if_neg h6]
    refine ⟨(h1.sw (by omega) (by omega)).congr e, ?_⟩
    have := flip' h1 (a := j) (b := 2 * M - 1 - j) (by omega) (by omega) (by omega)
    rw [cyc_congr e] at this
    omega
/-- The map in which the letters below k lead on, and the others back. -/
def nuK (w s : List Int) (k : Nat) (st : Int) : Int := if w.getD (atT w.length st).toNat 0 < k then nextT w s st else -1 - st
theorem rot3 {f g : Nat → Nat} {N a b c d : Nat} (h : Pm f N) (ha : a < N) (hb : b < N) (hc : c < N) (hd : d < N) (hab : a ≠ b) (hac : a ≠ c) (had : a ≠ d) (hbc : b ≠ c) (hbd : b ≠ d) (hcd : c ≠ d)
    (e1 : g a = f c) (e2 : g c = f b) (e3 : g b = f d) (e4 : g d = f a) (e : ∀ x, x < N → x ≠ a → x ≠ b → x ≠ c → x ≠ d → g x = f x) : Pm g N ∧ (cyc g N + cyc f N) % 2 = 1 := by
  have h1 := h.sw (a := a) (b := c) ha hc
  have h2 := h1.sw (a := c) (b := b) hc hb
  have h3 := h2.sw (a := b) (b := d) hb hd
  have eq : ∀ x, x < N → sw b d (sw c b (sw a c f)) x = g x := fun x hx => by
    unfold sw
    by_cases x1 : x = a
    · subst x1; simp [*]
    · by_cases x2 : x = b
      · subst x2; simp [*, Ne.symm hbd, Ne.symm hcd, Ne.symm had]
      · by_cases x3 : x = c
        · subst x3; simp [*, Ne.symm hbc, Ne.symm hab]
        · by_cases x4 : x = d
          · subst x4; simp [*, Ne.symm hbc, Ne.symm hab, Ne.symm hac]
          · simp [*]
  refine ⟨h3.congr eq, ?_⟩
  have f1 := flip' h hac ha hc
  have f2 := flip' h1 (Ne.symm hbc) hc hb
  have f3 := flip' h2 hbd hb hd
  rw [cyc_congr eq] at f3
  omega
theorem nu_ok {w s : List Int} {n : Nat} (h : Word w n) (hs : s.all (fun x => decide (x = 1) || decide (x = -1)) = true) (hl : s.length = n) : ∀ k, k ≤ n → Pm (up (nuK w s k) (2 * n)) (2 * (2 * n)) ∧ (cyc (up (nuK w s k) (2 * n)) (2 * (2 * n)) + k) % 2 = 0
  | 0, _ => by
    have e : ∀ x, x < 2 * (2 * n) → chi (2 * (2 * n)) (2 * n) x = up (nuK w s 0) (2 * n) x := fun x hx => by
      have h1 := atT_lt (m := 2 * n) (st := (x : Int) - (2 * n : Nat)) (by have := h.pos; omega) (by omega) (by omega)
      have h2 := h.rg (atT (2 * n) ((x : Int) - (2 * n : Nat))).toNat (by omega)
      unfold chi up nuK
      have h3 : x < 2 * n ∨ 2 * (2 * n) - 2 * n ≤ x := by omega
      rw [h.len, if_pos h3, if_neg (by omega)]; omega
    obtain ⟨h1, h2⟩ := chi_ok (M := 2 * n) (2 * n) (Nat.le_refl _)
    refine ⟨h1.congr e, ?_⟩
    rw [← cyc_congr e]; omega
  | k + 1, hk => by
    obtain ⟨h1, h2⟩ := nu_ok h hs hl k (by omega)
    obtain ⟨p, q, C⟩ := cr_of h hs hl (x := k) (by omega)
    have hpq := C.pq; have hq := C.hq
    have bp := bf_lt (n := n) (a := p) (by omega)
    have bq := bf_lt (n := n) (a := q) (by omega)
    have bne : bf n p ≠ bf n q := fun e => by have := bf_inj (by omega) (by omega) e; omega
    have upv : ∀ (st : Int) (j : Nat), -((2 * n : Nat) : Int) ≤ st → up (nuK w s j) (2 * n) (st + (2 * n : Nat)).toNat = (nuK w s j st + (2 * n : Nat)).toNat := fun st j h0 => by
      unfold up; rw [show (((st + (2 * n : Nat)).toNat : Nat) : Int) - (2 * n : Nat) = st by omega]
    have old : ∀ (st : Int) (a : Nat), atT (2 * n) st = a → w.getD a 0 = k → nuK w s k st = -1 - st := fun st a ha hw => by
      unfold nuK; rw [h.len, ha, Int.toNat_natCast, hw, if_neg (by omega)]
    have new : ∀ (st : Int) (a : Nat), atT (2 * n) st = a → w.getD a 0 = k → nuK w s (k + 1) st = nextT w s st := fun st a ha hw => by
      unfold nuK; rw [h.len, ha, Int.toNat_natCast, hw, if_pos (by omega)]
    have oA := old _ _ (at_bf (n := n) (a := p) (by omega)) C.wp
    have oB := old _ _ (at_neg (n := n) (a := p) (by omega)) C.wp
    have oC := old _ _ (at_bf (n := n) (a := q) (by omega)) C.wq
    have oD := old _ _ (at_neg (n := n) (a := q) (by omega)) C.wq
    have nA := new _ _ (at_bf (n := n) (a := p) (by omega)) C.wp
    have nB := new _ _ (at_neg (n := n) (a := p) (by omega)) C.wp
    have nC := new _ _ (at_bf (n := n) (a := q) (by omega)) C.wq
    have nD := new _ _ (at_neg (n := n) (a := q) (by omega)) C.wq
    have rest : ∀ x, x < 2 * (2 * n) → x ≠ (((bf n p : Nat) : Int) + (2 * n : Nat)).toNat → x ≠ ((-1 - (p : Int)) + (2 * n : Nat)).toNat → x ≠ (((bf n q : Nat) : Int) + (2 * n : Nat)).toNat → x ≠ ((-1 - (q : Int)) + (2 * n : Nat)).toNat → up (nuK w s (k + 1)) (2 * n) x = up (nuK w s k) (2 * n) x := fun x hx x1 x2 x3 x4 => by
      obtain ⟨a, y, _, _, H⟩ := at_of h hs hl (st := (x : Int) - (2 * n : Nat)) (by omega) (by omega)
      have hy : y ≠ k := fun e => by
        have h5 := C.all a H.ha (by rw [H.wa, e])
        have h6 := at_cases H.ha (by omega) (by omega) H.at_
        rcases h5 with e5 | e5 <;> subst e5 <;> rcases h6 with h6 | h6 <;> omega
      unfold up nuK
      rw [h.len, H.at_, Int.toNat_natCast, H.wa]
      by_cases h7 : (y : Int) < k
      · rw [if_pos h7, if_pos (by omega)]
      · rw [if_neg h7, if_neg (by omega)]
    have uA := fun j => upv (bf n p : Nat) j (by omega)
    have uB := fun j => upv (-1 - (p : Int)) j (by omega)
    have uC := fun j => upv (bf n q : Nat) j (by omega)
    have uD := fun j => upv (-1 - (q : Int)) j (by omega)
    rcases C.nx with ⟨_, v1, v2, v3, v4⟩ | ⟨_, v1, v2, v3, v4⟩
    · have R := rot3 (g := up (nuK w s (k + 1)) (2 * n)) h1 (a := (((bf n p : Nat) : Int) + (2 * n : Nat)).toNat) (b := ((-1 - (p : Int)) + (2 * n : Nat)).toNat) (c := (((bf n q : Nat) : Int) + (2 * n : Nat)).toNat) (d := ((-1 - (q : Int)) + (2 * n : Nat)).toNat)
        (by omega) (by omega) (by omega) (by omega) (by omega) (by omega) (by omega) (by omega) (by omega) (by omega)
        (by rw [uA, uC, oC, nA, v1]) (by rw [uC, uB, oB, nC, v3]; omega) (by rw [uB, uD, oD, nB, v2]; omega) (by rw [uD, uA, oA, nD, v4]) rest
      exact ⟨R.1, by have := R.2; omega⟩
    · have R := rot3 (g := up (nuK w s (k + 1)) (2 * n)) h1 (a := (((bf n p : Nat) : Int) + (2 * n : Nat)).toNat) (b := ((-1 - (p : Int)) + (2 * n : Nat)).toNat) (c := ((-1 - (q : Int)) + (2 * n : Nat)).toNat) (d := (((bf n q : Nat) : Int) + (2 * n : Nat)).toNat)
        (by omega) (by omega) (by omega) (by omega) (by omega) (by omega) (by omega) (by omega) (by omega) (by omega)
        (by rw [uA, uD, oD, nA, v1]; omega) (by rw [uD, uB, oB, nD, v4]; omega) (by rw [uB, uC, oC, nB, v2]) (by rw [uC, uA, oA, nC, v3]) (fun x hx x1 x2 x3 x4 => rest x hx x1 x2 x4 x3)
      exact ⟨R.1, by have := R.2; omega⟩
theorem nu_all {w s : List Int} {n : Nat} (h : Word w n) {st : Int} (h0 : -((2 * n : Nat) : Int) ≤ st) (h1 : st < (2 * n : Nat)) : nuK w s n st = nextT w s st := by
  have h2 := atT_lt (m := 2 * n) (st := st) (by have := h.pos; omega) h0 h1
  have h3 := h.rg (atT (2 * n) st).toNat (by omega)
  unfold nuK; rw [h.len, if_pos h3.2]
theorem next_pn {w s : List Int} {n : Nat} (h : Word w n) (hs : s.all (fun x => decide (x = 1) || decide (x = -1)) = true) (hl : s.length = n) : Pn (nextT w s) (2 * n) := by
  have hr : ∀ st, -((2 * n : Nat) : Int) ≤ st → st < (2 * n : Nat) → -((2 * n : Nat) : Int) ≤ nextT w s st ∧ nextT w s st < (2 * n : Nat) := fun st h0 h1 => by
    obtain ⟨a, x, p, q, H⟩ := at_of h hs hl h0 h1; exact H.rg
  refine ⟨hr, fun x y hx0 hx1 hy0 hy1 e => ?_⟩
  have P := (nu_ok h hs hl n (Nat.le_refl _)).1
  have h1 := hr x hx0 hx1
  have := P.inj (x + (2 * n : Nat)).toNat (y + (2 * n : Nat)).toNat (by omega) (by omega) (by
    unfold up
    rw [show (((x + (2 * n : Nat)).toNat : Nat) : Int) - (2 * n : Nat) = x by omega, show (((y + (2 * n : Nat)).toNat : Nat) : Int) - (2 * n : Nat) = y by omega, nu_all h hx0 hx1, nu_all h hy0 hy1, e])
  omega
/-- The number of faces is even where the number of letters is. -/
theorem faces_par {w s : List Int} {n : Nat} (h : Word w n) (hs : s.all (fun x => decide (x = 1) || decide (x = -1)) = true) (hl : s.length = n) : ((facesT (nextT w s) (2 * n)).length + n) % 2 = 0 := by
  rw [facesT_cyc (next_pn h hs hl)]
  have := (nu_ok h hs hl n (Nat.le_refl _)).2
  rw [cyc_congr (g := up (nextT w s) (2 * n)) fun x hx => by unfold up; rw [nu_all h (by omega) (by omega)]] at this
  exact this
end Go.Scr
/- How many faces there are at most; the two colours of the faces of a plane word; faces with all signs changed. No condition. -/
namespace Go.Scr
set_option linter.unusedVariables false
set_option linter.unusedSimpArgs false

/-! ### Sums of sets -/
def comb {α : Type} : List Bool → List (α → Bool) → α → Bool
  | c :: cs, v :: vs, j => (c && v j) ^^ comb cs vs j
  | _, _, _ => false
theorem comb_app {α : Type} {j : α} : ∀ {c1 : List Bool} {L1 : List (α → Bool)} {c2 : List Bool} {L2 : List (α → Bool)}, c1.length = L1.length → comb (c1 ++ c2) (L1 ++ L2) j = (comb c1 L1 j ^^ comb c2 L2 j)
  | [], [], c2, L2, _ => by simp [comb]
  | c :: c1, v :: L1, c2, L2, h => by
    simp only [List.cons_append, comb, comb_app (c1 := c1) (L1 := L1) (by simpa using h), Bool.xor_assoc]
  | [], _ :: _, _, _, h => by simp at h
  | _ :: _, [], _, _, h => by simp at h
theorem comb_zero {α : Type} {j : α} : ∀ {c : List Bool} {L : List (α → Bool)}, (∀ v ∈ L, v j = false) → comb c L j = false
  | [], _, _ => by simp [comb]
  | _ :: _, [], _ => by simp [comb]
  | c :: cs, v :: vs, h => by rw [comb, h v (by simp), comb_zero fun u hu => h u (by simp [hu])]; simp
theorem comb_map {j m : Nat} {v : Nat → Bool} : ∀ {c : List Bool} {L : List (Nat → Bool)}, comb c (L.map fun u => fun i => u i ^^ (u m && v i)) j = (comb c L j ^^ (comb c L m && v j))
  | [], _ => by simp [comb]
  | _ :: _, [] => by simp [comb]
  | c :: cs, u :: us => by
    simp only [List.map_cons, comb, comb_map (c := cs) (L := us)]
    cases c <;> cases u j <;> cases u m <;> cases v j <;> cases comb cs us j <;> cases comb cs us m <;> rfl
/-- More sets than elements: some of them add up to nothing. -/
theorem dep : ∀ (m : Nat) (L : List (Nat → Bool)), m < L.length → ∃ c : List Bool, c.length = L.length ∧ true ∈ c ∧ ∀ j, j < m → comb c L j = false
  | 0, L, h => ⟨List.replicate L.length true, by simp, by rw [List.mem_replicate]; exact ⟨by omega, rfl⟩, fun j hj => by omega⟩
  | m + 1, L, h => by
    by_cases hv : ∃ v ∈ L, v m = true
    · obtain ⟨v, hv, hm⟩ := hv
      obtain ⟨A, B, rfl⟩ := List.append_of_mem hv
      obtain ⟨c, h1, h2, h3⟩ := dep m ((A ++ B).map fun u => fun i => u i ^^ (u m && v i)) (by simp at h ⊢; omega)
      simp only [comb_map] at h3
      have hc : c = c.take A.length ++ c.drop A.length := (List.take_append_drop _ _).symm
      have hl : (c.take A.length).length = A.length := by simp at h1 ⊢; omega
      have hl2 : (c.drop A.length).length = B.length := by simp at h1 ⊢; omega
      generalize c.take A.length = c1 at *
      generalize c.drop A.length = c2 at *
      subst hc
      refine ⟨c1 ++ comb (c1 ++ c2) (A ++ B) m :: c2, by simp; omega, ?_, fun j hj => ?_⟩
      · rcases List.mem_append.1 h2 with h | h <;> simp [h]
      · rw [comb_app hl, comb]
        by_cases hjm : j = m
        · subst hjm
          rw [comb_app hl, hm]
          cases comb c1 A j <;> cases comb c2 B j <;> rfl
        · have h4 := h3 j (by omega)
          rw [comb_app hl] at h4
          rw [← h4]
          cases comb c1 A j <;> cases comb c2 B j <;> cases comb (c1 ++ c2) (A ++ B) m <;> cases v j <;> rfl
    · obtain ⟨c, h1, h2, h3⟩ := dep m L (by omega)
      refine ⟨c, h1, h2, fun j hj => ?_⟩
      by_cases hjm : j = m
      · subst hjm
        exact comb_zero fun v hv' => by
          cases e : v j with
          | false => rfl
          | true => exact absurd ⟨v, hv', e⟩ hv
      · exact h3 j (by omega)

/-! ### Faces as sets of steps and of edges -/
def ind (f : List Int) : Int → Bool := fun s => decide (s ∈ f)
def dv (f : List Int) : Nat → Bool := fun e => decide ((e : Int) ∈ f) ^^ decide (-1 - (e : Int) ∈ f)
def uv (t : Nat) : Nat → Bool := fun e => decide (e = t)
theorem comb_dv {e : Nat} : ∀ {c : List Bool} {fs : List (List Int)}, comb c (fs.map dv) e = (comb c (fs.map ind) (e : Int) ^^ comb c (fs.map ind) (-1 - (e : Int)))
  | [], _ => by simp [comb]
  | _ :: _, [] => by simp [comb]
  | c :: cs, f :: fs => by
    simp only [List.map_cons, comb, comb_dv (c := cs) (fs := fs), dv, ind]
    cases c <;> cases decide ((e : Int) ∈ f) <;> cases decide (-1 - (e : Int) ∈ f) <;> cases comb cs (fs.map ind) (e : Int) <;> cases comb cs (fs.map ind) (-1 - (e : Int)) <;> rfl
theorem comb_uv {e : Nat} {c : List Bool} {ts : List Nat} (h : ¬ e ∈ ts) : comb c (ts.map uv) e = false := comb_zero fun v hv => by
  obtain ⟨t, ht, rfl⟩ := List.mem_map.1 hv
  unfold uv; rw [decide_eq_false]; rintro rfl; exact h ht
theorem comb_cl {nx : Int → Int} {m : Nat} : ∀ {c : List Bool} {fs : List (List Int)}, (∀ f ∈ fs, Fac nx m f) → Cl nx m (comb c (fs.map ind))
  | [], _, _ => fun x _ _ => by simp [comb]
  | _ :: _, [], _ => fun x _ _ => by simp [comb]
  | c :: cs, f :: fs, h => fun x h0 h1 => by
    have h2 := comb_cl (c := cs) (fs := fs) (fun g hg => h g (by simp [hg])) x h0 h1
    have h3 : ind f x = ind f (nx x) := by unfold ind; rw [decide_eq_decide]; exact (h f (by simp)).cl x h0 h1
    simp only [List.map_cons, comb, h2, h3]
/-- Where a step lies in one of some faces without common steps, the sum there is that face's. -/
theorem comb_at {α : Type} {j : α} : ∀ {c : List Bool} {L : List (α → Bool)} {i : Nat}, c.length = L.length → i < L.length → (∀ k, k < L.length → ((L.getD k fun _ => false) j = true ↔ k = i)) → comb c L j = c.getD i false
  | [], [], i, _, h, _ => by simp at h
  | _ :: _, [], i, h, _, _ => by simp at h
  | [], _ :: _, i, h, _, _ => by simp at h
  | c :: cs, v :: vs, 0, hl, hi, h => by
    have h0 := (h 0 (by simp)).2 rfl
    simp at h0
    rw [comb, h0, comb_zero fun u hu => ?_]
    · simp
    · obtain ⟨k, hk, e⟩ := List.getElem_of_mem hu
      have := h (k + 1) (by simp; omega)
      simp [hk, e] at this
      exact this
  | c :: cs, v :: vs, i + 1, hl, hi, h => by
    have h0 := h 0 (by simp)
    simp at h0
    rw [comb, h0, comb_at (i := i) (by simpa using hl) (by simpa using hi) fun k hk => ?_]
    · simp
    · have := h (k + 1) (by simp; omega)
      simpa using this

/-- A closed set of steps that has both or none of the steps of each edge has all steps or none. -/
theorem conn {w s : List Int} {n : Nat} (h : Word w n) (hs : s.all (fun x => decide (x = 1) || decide (x = -1)) = true) (hl : s.length = n) {X : Int → Bool} (hX : Cl (nextT w s) (2 * n) X)
    (he : ∀ e : Nat, e < 2 * n → X e = X (-1 - (e : Int))) : ∀ st, -((2 * n : Nat) : Int) ≤ st → st < (2 * n : Nat) → X st = X 0 := by
  have hpos := h.pos
  have k : ∀ a : Nat, a < 2 * n → X (bf n a : Nat) = X a := fun a ha => by
    have hx := h.rg a ha
    obtain ⟨p, q, C⟩ := cr_of h hs hl (x := (w.getD a 0).toNat) (by omega)
    have hpq := C.pq; have hq := C.hq
    have bp := bf_lt (n := n) (a := p) (by omega)
    have bq := bf_lt (n := n) (a := q) (by omega)
    have e1 := hX (bf n p : Nat) (by omega) (by omega)
    have e2 := hX (-1 - (p : Int)) (by omega) (by omega)
    have e3 := hX (bf n q : Nat) (by omega) (by omega)
    have e4 := hX (-1 - (q : Int)) (by omega) (by omega)
    have g1 := he _ bp; have g2 := he _ bq; have g3 := he p (by omega); have g4 := he q (by omega)
    have hall := C.all a ha (by omega)
    rcases C.nx with ⟨_, v1, v2, v3, v4⟩ | ⟨_, v1, v2, v3, v4⟩ <;> rw [v1] at e1 <;> rw [v2] at e2 <;> rw [v3] at e3 <;> rw [v4] at e4 <;> rcases hall with e | e <;> subst e <;> simp_all
  have k2 : ∀ a : Nat, a < 2 * n → X (a : Int) = X 0 := by
    intro a
    induction a with
    | zero => intro _; rfl
    | succ a ih =>
      intro ha
      have := k (a + 1) ha
      unfold bf at this
      rw [if_neg (by omega)] at this
      rw [← this]; exact ih (by omega)
  intro st h0 h1
  by_cases h2 : 0 ≤ st
  · have := k2 st.toNat (by omega)
    rwa [show ((st.toNat : Nat) : Int) = st by omega] at this
  · have h3 := he (-1 - st).toNat (by omega)
    have := k2 (-1 - st).toNat (by omega)
    rw [show (((-1 - st).toNat : Nat) : Int) = -1 - st by omega] at this h3
    rw [show -1 - (-1 - st) = st by omega] at h3
    rw [← h3, this]
/-- At each crossing the border of a closed set has an even number of ends. -/
theorem even_at {w s : List Int} {n x p q : Nat} (C : Cr w s n x p q) {X : Int → Bool} (hX : Cl (nextT w s) (2 * n) X) {z : Nat → Bool} {c : Bool} (hz : ∀ e, z e = (c ^^ (X (e : Int) ^^ X (-1 - (e : Int))))) : (z (bf n p) ^^ z p ^^ z (bf n q) ^^ z q) = false := by
  have hpq := C.pq; have hq := C.hq
  have bp := bf_lt (n := n) (a := p) (by omega)
  have bq := bf_lt (n := n) (a := q) (by omega)
  have e1 := hX (bf n p : Nat) (by omega) (by omega)
  have e2 := hX (-1 - (p : Int)) (by omega) (by omega)
  have e3 := hX (bf n q : Nat) (by omega) (by omega)
  have e4 := hX (-1 - (q : Int)) (by omega) (by omega)
  simp only [hz]
  rcases C.nx with ⟨_, v1, v2, v3, v4⟩ | ⟨_, v1, v2, v3, v4⟩ <;> rw [v1] at e1 <;> rw [v2] at e2 <;> rw [v3] at e3 <;> rw [v4] at e4 <;> rw [e1, e2, e3, e4] <;>
    cases c <;> cases X p <;> cases X q <;> cases X (-1 - ((bf n p : Nat) : Int)) <;> cases X (-1 - ((bf n q : Nat) : Int)) <;> rfl
/-- The first position of a letter. -/
def fst (w : List Int) (x : Nat) : Nat := ((placesT w x).getD 0 0).toNat
theorem Cr.fst {w s : List Int} {n x p q : Nat} (C : Cr w s n x p q) : fst w x = p := by unfold Scr.fst; rw [C.pl]; simp
/-- The edges of a tree: those that lead to letters not met before. -/
def tree (w : List Int) (n : Nat) : List Nat := ((List.range n).erase (w.getD 0 0).toNat).map fun x => fst w x - 1
theorem tree_len {w : List Int} {n : Nat} (h : Word w n) : (tree w n).length = n - 1 := by
  have := h.pos
  have := h.rg 0 (by omega)
  unfold tree
  rw [List.length_map, List.length_erase_of_mem (by rw [List.mem_range]; omega), List.length_range]
/-- A set of edges with an even number of ends at each crossing, and none outside of the tree, is empty. -/
theorem tree_zero {w s : List Int} {n : Nat} (h : Word w n) (hs : s.all (fun x => decide (x = 1) || decide (x = -1)) = true) (hl : s.length = n) {z : Nat → Bool}
    (hz : ∀ x p q, x < n → Cr w s n x p q → (z (bf n p) ^^ z p ^^ z (bf n q) ^^ z q) = false) (ht : ∀ e, e < 2 * n → ¬ e ∈ tree w n → z e = false) : ∀ k e, e < 2 * n → 2 * n ≤ e + k → z e = false
  | 0, e, h1, h2 => by omega
  | k + 1, e, h1, h2 => by
    by_cases he : e ∈ tree w n
    · obtain ⟨x, hx, hxe⟩ := List.mem_map.1 he
      have hx1 : x < n := by have := List.mem_of_mem_erase hx; rwa [List.mem_range] at this
      have hx2 : x ≠ (w.getD 0 0).toNat := fun e => by
        subst e
        exact (List.nodup_range.not_mem_erase) hx
      obtain ⟨p, q, C⟩ := cr_of h hs hl hx1
      rw [C.fst] at hxe
      have hpq := C.pq; have hq := C.hq
      have hp : p ≠ 0 := fun e => by subst e; have := C.wp; omega
      have h3 := hz x p q hx1 C
      have bp : bf n p = e := by unfold bf; rw [if_neg hp]; exact hxe
      have bq : bf n q = q - 1 := by unfold bf; rw [if_neg (by omega)]
      rw [bp, bq, tree_zero h hs hl hz ht k p (by omega) (by omega), tree_zero h hs hl hz ht k q (by omega) (by omega), tree_zero h hs hl hz ht k (q - 1) (by omega) (by omega)] at h3
      simpa using h3
    · exact ht e h1 he
theorem fst_inj {w : List Int} {n : Nat} (h : Word w n) {x y : Nat} (hx : x < n) (hy : y < n) (e : fst w x = fst w y) : x = y := by
  obtain ⟨p, q, _, _, hp, h1, _⟩ := h.places hx
  obtain ⟨r, t, _, _, hr, h2, _⟩ := h.places hy
  unfold fst at e; rw [hp, hr] at e
  simp at e
  have e : p = r := by omega
  subst e
  omega
theorem tree_nodup {w : List Int} {n : Nat} (h : Word w n) : (tree w n).Nodup := by
  unfold tree List.Nodup
  rw [List.pairwise_map]
  have hn : ((List.range n).erase (w.getD 0 0).toNat).Nodup := List.nodup_range.erase _
  refine hn.imp_of_mem fun {x y} hx hy hxy e => ?_
  have hx1 : x < n := by have := List.mem_of_mem_erase hx; rwa [List.mem_range] at this
  have hy1 : y < n := by have := List.mem_of_mem_erase hy; rwa [List.mem_range] at this
  have px : ∀ {x}, x < n → x ∈ (List.range n).erase (w.getD 0 0).toNat → fst w x ≠ 0 := fun {x} hx1 hx e => by
    have hx2 : x ≠ (w.getD 0 0).toNat := fun e => by subst e; exact (List.nodup_range.not_mem_erase) hx
    obtain ⟨p, q, _, _, hp, h1, _⟩ := h.places hx1
    unfold fst at e; rw [hp] at e
    simp at e
    have e : p = 0 := by omega
    subst e; omega
  have := px hx1 hx
  have := px hy1 hy
  exact hxy (fst_inj h hx1 hy1 (by omega))
theorem tree_lt {w : List Int} {n : Nat} (h : Word w n) : ∀ e ∈ tree w n, e < 2 * n := fun e he => by
  obtain ⟨x, hx, hxe⟩ := List.mem_map.1 he
  have hx1 : x < n := by have := List.mem_of_mem_erase hx; rwa [List.mem_range] at this
  obtain ⟨p, q, h2, h3, hp, h1, _⟩ := h.places hx1
  unfold fst at hxe; rw [hp] at hxe
  simp at hxe
  omega
end Go.Scr
/- At most n + 2 faces; two colours; faces with all signs changed. No condition. -/
namespace Go.Scr
set_option linter.unusedVariables false
set_option linter.unusedSimpArgs false

theorem FK.disj {nx : Int → Int} {m k : Nat} {F : List (List Int)} (h : FK nx m k F) {i j : Nat} (hi : i < F.length) (hj : j < F.length) {x : Int} (h1 : x ∈ F.getD i []) (h2 : x ∈ F.getD j []) : i = j := by
  have hp := (List.pairwise_flatten.1 h.nd).2
  rw [List.pairwise_iff_getElem] at hp
  rw [List.getD_eq_getElem?_getD, List.getElem?_eq_getElem hi] at h1
  rw [List.getD_eq_getElem?_getD, List.getElem?_eq_getElem hj] at h2
  rcases Nat.lt_trichotomy i j with hlt | he | hlt
  · exact absurd rfl (hp i j hi hj hlt x h1 x h2)
  · exact he
  · exact absurd rfl (hp j i hj hi hlt x h2 x h1)
theorem Fac.head {nx : Int → Int} {m : Nat} {f : List Int} (h : Fac nx m f) : f.getD 0 0 ∈ f := mem_getD (List.length_pos_iff.2 h.ne)
theorem getD_mem' {F : List (List Int)} {i : Nat} (h : i < F.length) : F.getD i [] ∈ F := by
  rw [List.getD_eq_getElem?_getD, List.getElem?_eq_getElem h]; exact List.getElem_mem h
theorem mem_true {c : List Bool} (h : ∀ i, i < c.length → c.getD i false = false) : ¬ true ∈ c := fun hc => by
  obtain ⟨i, hi, e⟩ := List.getElem_of_mem hc
  have := h i hi
  rw [List.getD_eq_getElem?_getD, List.getElem?_eq_getElem hi] at this
  simp [e] at this
theorem rel {w s : List Int} {n : Nat} (h : Word w n) (hs : s.all (fun x => decide (x = 1) || decide (x = -1)) = true) (hl : s.length = n) {k : Nat} {f0 : List Int} {fs : List (List Int)} (hF : FK (nextT w s) (2 * n) k (f0 :: fs))
    {c0 : Bool} {c1 c2 : List Bool} (l1 : c1.length = fs.length) (l2 : c2.length = (tree w n).length) (h0 : ∀ e, e < 2 * n → (c0 ^^ (comb c1 (fs.map dv) e ^^ comb c2 ((tree w n).map uv) e)) = false) :
    (∀ e : Nat, e < 2 * n → (comb c1 (fs.map ind) (e : Int) ^^ comb c1 (fs.map ind) (-1 - (e : Int))) = c0) ∧ (c0 = false → ¬ true ∈ c1 ∧ ¬ true ∈ c2) := by
  have hX : Cl (nextT w s) (2 * n) (comb c1 (fs.map ind)) := comb_cl fun f hf => hF.fac f (by simp [hf])
  have hz := tree_zero h hs hl (z := fun e => c0 ^^ (comb c1 (fs.map ind) (e : Int) ^^ comb c1 (fs.map ind) (-1 - (e : Int)))) (fun x p q hx C => even_at C hX fun e => rfl) (fun e he hn => by
    have := h0 e he
    rw [comb_uv hn, comb_dv] at this
    simpa using this) (2 * n)
  have hz2 : ∀ e : Nat, e < 2 * n → (comb c1 (fs.map ind) (e : Int) ^^ comb c1 (fs.map ind) (-1 - (e : Int))) = c0 := fun e he => by
    have := hz e he (by omega)
    revert this
    cases (comb c1 (fs.map ind) (e : Int) ^^ comb c1 (fs.map ind) (-1 - (e : Int))) <;> cases c0 <;> simp
  refine ⟨hz2, fun hc => ?_⟩
  subst hc
  have hc := conn h hs hl hX fun e he => by
    have := hz2 e he
    revert this
    cases comb c1 (fs.map ind) (e : Int) <;> cases comb c1 (fs.map ind) (-1 - (e : Int)) <;> simp
  have hrg : ∀ f, f ∈ f0 :: fs → ∀ x ∈ f, -((2 * n : Nat) : Int) ≤ x ∧ x < (2 * n : Nat) := fun f hf x hx => hF.rg x (List.mem_flatten.2 ⟨f, hf, hx⟩)
  have hh := (hF.fac f0 (by simp)).head
  have hX0 : comb c1 (fs.map ind) (f0.getD 0 0) = false := comb_zero fun v hv => by
    obtain ⟨f, hf, rfl⟩ := List.mem_map.1 hv
    unfold ind; rw [decide_eq_false]
    intro hm
    obtain ⟨i, hi, e⟩ := List.getElem_of_mem hf
    have := hF.disj (i := 0) (j := i + 1) (by simp) (by simp; omega) (x := f0.getD 0 0) (by simpa using hh) (by simp [hi, e]; simpa using hm)
    omega
  have hX1 : ∀ st, -((2 * n : Nat) : Int) ≤ st → st < (2 * n : Nat) → comb c1 (fs.map ind) st = false := fun st g0 g1 => by
    have r0 := hrg f0 (by simp) _ hh
    rw [hc st g0 g1, ← hc _ r0.1 r0.2, hX0]
  have n1 : ¬ true ∈ c1 := mem_true fun i hi => by
    have hi2 : i < fs.length := by omega
    have hm := (hF.fac (fs.getD i []) (List.mem_cons_of_mem _ (getD_mem' hi2))).head
    have r := hrg (fs.getD i []) (List.mem_cons_of_mem _ (getD_mem' hi2)) _ hm
    rw [← comb_at (L := fs.map ind) (i := i) (j := (fs.getD i []).getD 0 0) (by simpa using l1) (by simpa using hi2) fun k hk => ?_, hX1 _ r.1 r.2]
    simp only [List.length_map] at hk
    have e : (fs.map ind).getD k (fun _ => false) = ind (fs.getD k []) := by
      simp [List.getD_eq_getElem?_getD, List.getElem?_eq_getElem hk]
    rw [e]
    constructor
    · intro g
      have := hF.disj (i := i + 1) (j := k + 1) (by simp; omega) (by simp; omega) (x := (fs.getD i []).getD 0 0) (by simpa using hm) (by simpa [ind] using g)
      omega
    · rintro rfl; unfold ind; simpa using hm
  refine ⟨n1, mem_true fun i hi => ?_⟩
  have hi2 : i < (tree w n).length := by omega
  have ht : (tree w n).getD i 0 ∈ tree w n := by rw [List.getD_eq_getElem?_getD, List.getElem?_eq_getElem hi2]; exact List.getElem_mem hi2
  have hlt := tree_lt h _ ht
  have h3 := h0 _ hlt
  rw [comb_dv, hX1 _ (by omega) (by omega), hX1 _ (by omega) (by omega)] at h3
  rw [comb_at (L := (tree w n).map uv) (i := i) (by simpa using l2) (by simpa using hi2) fun k hk => ?_] at h3
  · simpa using h3
  · simp only [List.length_map] at hk
    have e : ((tree w n).map uv).getD k (fun _ => false) = uv ((tree w n).getD k 0) := by
      simp [List.getD_eq_getElem?_getD, List.getElem?_eq_getElem hk]
    rw [e]
    unfold uv
    rw [decide_eq_true_iff]
    constructor
    · intro g
      rw [List.getD_eq_getElem?_getD, List.getElem?_eq_getElem hi2, List.getD_eq_getElem?_getD, List.getElem?_eq_getElem hk] at g
      exact ((List.getElem_inj (tree_nodup h)).1 g).symm
    · rintro rfl; rfl
theorem faces_cons {w s : List Int} {n : Nat} (h : Word w n) (hs : s.all (fun x => decide (x = 1) || decide (x = -1)) = true) (hl : s.length = n) : ∃ f0 fs, facesT (nextT w s) (2 * n) = f0 :: fs := by
  have H := facesT_FK (next_pn h hs hl)
  have := H.all 0 (by have := h.pos; omega)
  match hF : facesT (nextT w s) (2 * n) with
  | [] => rw [hF] at this; simp at this
  | f0 :: fs => exact ⟨f0, fs, rfl⟩
/-- There are at most n + 2 faces. -/
theorem faces_le {w s : List Int} {n : Nat} (h : Word w n) (hs : s.all (fun x => decide (x = 1) || decide (x = -1)) = true) (hl : s.length = n) : (facesT (nextT w s) (2 * n)).length ≤ n + 2 := by
  have hpos := h.pos
  obtain ⟨f0, fs, hF⟩ := faces_cons h hs hl
  have H := facesT_FK (next_pn h hs hl)
  rw [hF] at H ⊢
  refine Nat.le_of_not_lt fun hgt => ?_
  simp only [List.length_cons] at hgt
  obtain ⟨c, h1, h2, h3⟩ := dep (2 * n) (fs.map dv ++ (tree w n).map uv) (by simp [tree_len h]; omega)
  simp only [List.length_append, List.length_map] at h1
  have hc : c = c.take fs.length ++ c.drop fs.length := (List.take_append_drop _ _).symm
  have l1 : (c.take fs.length).length = fs.length := by simp; omega
  have l2 : (c.drop fs.length).length = (tree w n).length := by simp; omega
  generalize c.take fs.length = c1 at *
  generalize c.drop fs.length = c2 at *
  subst hc
  have := (rel h hs hl H (c0 := false) l1 l2 fun e he => by
    have := h3 e he
    rw [comb_app (by simpa using l1)] at this
    simpa using this).2 rfl
  rcases List.mem_append.1 h2 with g | g
  · exact this.1 g
  · exact this.2 g
/-- Where there are n + 2 faces, they have two colours. -/
theorem two_colors {w s : List Int} {n : Nat} (h : Word w n) (hs : s.all (fun x => decide (x = 1) || decide (x = -1)) = true) (hl : s.length = n) (hg : (facesT (nextT w s) (2 * n)).length = n + 2) :
    ∃ X, Cl (nextT w s) (2 * n) X ∧ ∀ e : Nat, e < 2 * n → X (-1 - (e : Int)) = ! X (e : Int) := by
  have hpos := h.pos
  obtain ⟨f0, fs, hF⟩ := faces_cons h hs hl
  have H := facesT_FK (next_pn h hs hl)
  rw [hF] at H hg
  simp only [List.length_cons] at hg
  obtain ⟨c, h1, h2, h3⟩ := dep (2 * n) ((fun _ => true) :: (fs.map dv ++ (tree w n).map uv)) (by simp [tree_len h]; omega)
  match c, h1, h2, h3 with
  | [], h1, _, _ => simp at h1
  | c0 :: c, h1, h2, h3 => ?_
  simp only [List.length_cons, List.length_append, List.length_map, Nat.add_right_cancel_iff] at h1
  have hc : c = c.take fs.length ++ c.drop fs.length := (List.take_append_drop _ _).symm
  have l1 : (c.take fs.length).length = fs.length := by simp; omega
  have l2 : (c.drop fs.length).length = (tree w n).length := by simp; omega
  generalize c.take fs.length = c1 at *
  generalize c.drop fs.length = c2 at *
  subst hc
  have R := rel h hs hl H (c0 := c0) l1 l2 fun e he => by
    have := h3 e he
    rw [comb, comb_app (by simpa using l1)] at this
    simpa using this
  have hc0 : c0 = true := by
    cases c0 with
    | true => rfl
    | false =>
      have := R.2 rfl
      simp at h2
      rcases h2 with g | g
      · exact absurd g this.1
      · exact absurd g this.2
  subst hc0
  refine ⟨_, comb_cl (c := c1) (fs := fs) fun f hf => H.fac f (by simp [hf]), fun e he => ?_⟩
  have := R.1 e he
  revert this
  cases comb c1 (fs.map ind) (e : Int) <;> cases comb c1 (fs.map ind) (-1 - (e : Int)) <;> simp

/-- Steps that closed sets keep apart are at most as many as the faces. -/
theorem sep_le {nx : Int → Int} {m : Nat} (h : Pn nx m) {xs : List Int} (hr : ∀ x ∈ xs, -(m : Int) ≤ x ∧ x < m) (hp : xs.Pairwise fun a b => ∃ C, Cl nx m C ∧ C a ≠ C b) : xs.length ≤ (facesT nx m).length := by
  have H := facesT_FK h
  have hex : ∀ x, -(m : Int) ≤ x → x < m → ∃ i, i < (facesT nx m).length ∧ x ∈ (facesT nx m).getD i [] := fun x h0 h1 => by
    have := H.all (x + m).toNat (by omega)
    rw [show (((x + m).toNat : Nat) : Int) - m = x by omega] at this
    obtain ⟨f, hf, hx⟩ := List.mem_flatten.1 this
    obtain ⟨i, hi, e⟩ := List.getElem_of_mem hf
    exact ⟨i, hi, by rw [List.getD_eq_getElem?_getD, List.getElem?_eq_getElem hi]; simpa [e] using hx⟩
  have g : ∃ g : Int → Nat, ∀ x, -(m : Int) ≤ x → x < m → g x < (facesT nx m).length ∧ x ∈ (facesT nx m).getD (g x) [] := by
    refine ⟨fun x => open Classical in if hx : -(m : Int) ≤ x ∧ x < m then (hex x hx.1 hx.2).choose else 0, fun x h0 h1 => ?_⟩
    dsimp only
    rw [dif_pos ⟨h0, h1⟩]
    exact (hex x h0 h1).choose_spec
  obtain ⟨g, hg⟩ := g
  have hn : (xs.map g).Nodup := by
    unfold List.Nodup
    rw [List.pairwise_map]
    refine hp.imp_of_mem fun {a b} ha hb ⟨C, hC, hne⟩ e => ?_
    have ra := hr a ha; have rb := hr b hb
    have ga := hg a ra.1 ra.2; have gb := hg b rb.1 rb.2
    rw [← e] at gb
    have hf := H.fac _ (getD_mem' ga.1)
    generalize (facesT nx m).getD (g a) [] = f at *
    cases hd : C (f.getD 0 0) with
    | true => exact hne (by rw [hf.ch C hC hd a ga.2, hf.ch C hC hd b gb.2])
    | false =>
      have k1 := hf.ch (fun x => ! C x) (fun x h0 h1 => by show (! C x) = (! C (nx x)); rw [hC x h0 h1]) (by show (! C _) = true; rw [hd]; rfl)
      have k2 := k1 a ga.2; have k3 := k1 b gb.2
      exact hne (by revert k2 k3; cases C a <;> cases C b <;> simp)
  have := nodup_lt (n := (facesT nx m).length) hn fun x hx => by
    obtain ⟨y, hy, rfl⟩ := List.mem_map.1 hx
    exact (hg y (hr y hy).1 (hr y hy).2).1
  simpa using this
/-- The first steps of the faces are kept apart by closed sets. -/
theorem heads_sep {nx : Int → Int} {m : Nat} (h : Pn nx m) : ((facesT nx m).map fun f => f.getD 0 0).Pairwise fun a b => ∃ C, Cl nx m C ∧ C a ≠ C b := by
  have H := facesT_FK h
  rw [List.pairwise_map]
  have hp := (List.pairwise_flatten.1 H.nd).2
  refine hp.imp_of_mem fun {f g} hf hg hd => ⟨ind f, fun x h0 h1 => by unfold ind; rw [decide_eq_decide]; exact (H.fac f hf).cl x h0 h1, ?_⟩
  unfold ind
  have h1 := (H.fac f hf).head
  have h2 : ¬ g.getD 0 0 ∈ f := fun hm => hd _ hm _ (H.fac g hg).head rfl
  rw [decide_eq_true h1, decide_eq_false h2]; simp
/-- A map of steps that brings closed sets to closed sets. -/
theorem faces_map {nx nx' : Int → Int} {m m' : Nat} (h : Pn nx m) (h' : Pn nx' m') {φ : Int → Int} (hr : ∀ x, -(m' : Int) ≤ x → x < m' → -(m : Int) ≤ φ x ∧ φ x < m)
    (hc : ∀ D, Cl nx' m' D → ∃ C, Cl nx m C ∧ ∀ x, -(m' : Int) ≤ x → x < m' → C (φ x) = D x) : (facesT nx' m').length ≤ (facesT nx m).length := by
  have H' := facesT_FK h'
  have hin : ∀ f ∈ facesT nx' m', -(m' : Int) ≤ f.getD 0 0 ∧ f.getD 0 0 < m' := fun f hf => H'.rg _ (List.mem_flatten.2 ⟨f, hf, (H'.fac f hf).head⟩)
  have := sep_le h (xs := ((facesT nx' m').map fun f => f.getD 0 0).map φ) (fun x hx => by
    obtain ⟨y, hy, rfl⟩ := List.mem_map.1 hx
    obtain ⟨f, hf, rfl⟩ := List.mem_map.1 hy
    exact hr _ (hin f hf).1 (hin f hf).2) (by
    rw [List.pairwise_map]
    refine (heads_sep h').imp_of_mem fun {a b} ha hb ⟨D, hD, hne⟩ => ?_
    obtain ⟨C, hC, e⟩ := hc D hD
    obtain ⟨f, hf, rfl⟩ := List.mem_map.1 ha
    obtain ⟨g, hg, rfl⟩ := List.mem_map.1 hb
    exact ⟨C, hC, by rw [e _ (hin f hf).1 (hin f hf).2, e _ (hin g hg).1 (hin g hg).2]; exact hne⟩)
  simpa using this
/-- All signs changed: each walk is walked backwards. -/
theorem next_neg {w s t : List Int} {n : Nat} (h : Word w n) (hs : s.all (fun x => decide (x = 1) || decide (x = -1)) = true) (hl : s.length = n) (ht : t.all (fun x => decide (x = 1) || decide (x = -1)) = true) (hlt : t.length = n)
    (hn : ∀ v, v < n → t.getD v 0 = - s.getD v 0) {y : Int} (h0 : -((2 * n : Nat) : Int) ≤ y) (h1 : y < (2 * n : Nat)) : nextT w t (-1 - nextT w s y) = -1 - y := by
  obtain ⟨a, x, p, q, H⟩ := at_of h hs hl h0 h1
  obtain ⟨p, q, C⟩ := cr_of h hs hl H.hx
  obtain ⟨p', q', D⟩ := cr_of h ht hlt H.hx
  have e := C.pl.symm.trans D.pl
  simp at e
  obtain ⟨e1, e2⟩ := e
  have e1 : p = p' := by omega
  have e2 : q = q' := by omega
  subst e1 e2
  have hpq := C.pq; have hq := C.hq
  have h2 := C.all a H.ha H.wa
  have h3 := at_cases H.ha h0 h1 H.at_
  have h4 := hn x H.hx
  rcases C.nx with ⟨f1, v1, v2, v3, v4⟩ | ⟨f1, v1, v2, v3, v4⟩ <;> rcases D.nx with ⟨g1, u1, u2, u3, u4⟩ | ⟨g1, u1, u2, u3, u4⟩ <;> (try omega) <;>
    rcases h2 with e | e <;> subst e <;> rcases h3 with e | e <;> subst e
  · rw [v1, show -1 - (-1 - ((bf n q : Nat) : Int)) = (bf n q : Nat) by omega, u3]
  · rw [v2, u4]; omega
  · rw [v3, u2]
  · rw [v4, show -1 - (-1 - ((bf n p : Nat) : Int)) = (bf n p : Nat) by omega, u1]; omega
  · rw [v1, u4]
  · rw [v2, show -1 - (-1 - ((bf n q : Nat) : Int)) = (bf n q : Nat) by omega, u3]; omega
  · rw [v3, show -1 - (-1 - ((bf n p : Nat) : Int)) = (bf n p : Nat) by omega, u1]
  · rw [v4, u2]; omega
theorem neg_le {w s t : List Int} {n : Nat} (h : Word w n) (hs : s.all (fun x => decide (x = 1) || decide (x = -1)) = true) (hl : s.length = n) (ht : t.all (fun x => decide (x = 1) || decide (x = -1)) = true) (hlt : t.length = n)
    (hn : ∀ v, v < n → t.getD v 0 = - s.getD v 0) : (facesT (nextT w t) (2 * n)).length ≤ (facesT (nextT w s) (2 * n)).length := by
  refine faces_map (next_pn h hs hl) (next_pn h ht hlt) (φ := fun x => -1 - x) (fun x h0 h1 => by omega) fun D hD => ⟨fun y => D (-1 - y), fun y h0 h1 => ?_, fun x h0 h1 => ?_⟩
  · have h2 := (next_pn h hs hl).rg y h0 h1
    show D (-1 - y) = D (-1 - nextT w s y)
    rw [hD (-1 - nextT w s y) (by omega) (by omega), next_neg h hs hl ht hlt hn h0 h1]
  · show D (-1 - (-1 - x)) = D x
    rw [show -1 - (-1 - x) = x by omega]
/-- Changing all signs does not change the number of faces. -/
theorem neg_eq {w s t : List Int} {n : Nat} (h : Word w n) (hs : s.all (fun x => decide (x = 1) || decide (x = -1)) = true) (hl : s.length = n) (ht : t.all (fun x => decide (x = 1) || decide (x = -1)) = true) (hlt : t.length = n)
    (hn : ∀ v, v < n → t.getD v 0 = - s.getD v 0) : (facesT (nextT w t) (2 * n)).length = (facesT (nextT w s) (2 * n)).length :=
  Nat.le_antisymm (neg_le h hs hl ht hlt hn) (neg_le h ht hlt hs hl fun v hv => by have := hn v hv; omega)
end Go.Scr
/- Words by counting letters; what the law asks of faces. No condition. -/
namespace Go.Scr
set_option linter.unusedVariables false
set_option linter.unusedSimpArgs false

theorem placesK_count {w : List Int} {v : Int} : ∀ {k : Nat}, k ≤ w.length → (placesK w v k).length = (w.take k).count v
  | 0, _ => by simp [placesK]
  | k + 1, h => by
    rw [placesK, take_getD' (by omega), List.count_append, ← placesK_count (k := k) (by omega)]
    by_cases e : w.getD k 0 = v
    · rw [if_pos e, e, List.length_append]; simp
    · rw [if_neg e, List.count_singleton]
      have : (w.getD k 0 == v) = false := by simpa using e
      rw [this]; rfl
theorem places_count {w : List Int} {v : Int} : (placesT w v).length = w.count v := by
  rw [placesT, placesK_count (Nat.le_refl _), List.take_length]
theorem word_count {w : List Int} {n : Nat} (h : Word w n) : ∀ v : Nat, v < n → w.count (v : Int) = 2 := fun v hv => by rw [← places_count]; exact h.two v hv
theorem count_word {w : List Int} {n : Nat} (hl : w.length = 2 * n) (hn : 1 ≤ n) (h : ∀ v : Nat, v < n → w.count (v : Int) = 2) : Word w n :=
  word_of hl hn fun v hv => by rw [places_count]; exact h v hv
theorem count_none {w : List Int} {n : Nat} (h : Word w n) {v : Int} (hv : v < 0 ∨ (n : Int) ≤ v) : w.count v = 0 := by
  rw [List.count_eq_zero]
  intro hm
  obtain ⟨i, hi, rfl⟩ := getD_mem hm
  have := h.rg i (by rw [← h.len]; exact hi)
  omega
theorem count_put {l : List Int} {a : Nat} {v u : Int} : (putT l a v).count u = l.count u + if v = u then 1 else 0 := by
  have h : l.count u = (l.take a).count u + (l.drop a).count u := by rw [← List.count_append, List.take_append_drop]
  unfold putT
  rw [List.count_append, List.count_append, List.count_singleton, h]
  by_cases e : v = u
  · subst e; simp; omega
  · have : (v == u) = false := by simpa using e
    rw [this, if_neg e]; simp
/-- A new letter is put in twice. -/
theorem word_put {w : List Int} {n a b : Nat} (h : Word w n) : Word (putT (putT w a n) b n) (n + 1) := by
  refine count_word ?_ (by omega) fun v hv => ?_
  · rw [putT_len, putT_len, h.len]; omega
  · rw [count_put, count_put]
    by_cases e : v = n
    · subst e; rw [count_none h (.inr (by omega)), if_pos rfl]
    · rw [word_count h v (by omega), if_neg (by omega)]
theorem made_word {x : List (Int × Int × Unit)} : ∀ {i : Nat}, Word (madeK x i) (i + 1)
  | 0 => count_word rfl (by omega) fun v hv => by
    have : v = 0 := by omega
    subst this; rfl
  | i + 1 => by
    rw [madeK]
    exact word_put (made_word (i := i))
theorem nodup_sub {α : Type} [DecidableEq α] : ∀ {l l' : List α}, l.Nodup → (∀ x ∈ l, x ∈ l') → l.length ≤ l'.length
  | [], _, _, _ => by simp
  | x :: l, l', hn, h => by
    have hx := h x (by simp)
    have hn' := List.nodup_cons.1 hn
    have := nodup_sub (l := l) (l' := l'.erase x) hn'.2 fun y hy => by
      have : y ≠ x := fun e => hn'.1 (e ▸ hy)
      exact (List.mem_erase_of_ne this).2 (h y (by simp [hy]))
    rw [List.length_erase_of_mem hx] at this
    have := List.length_pos_of_mem hx
    simp; omega
theorem FK.len {nx : Int → Int} {m : Nat} {F : List (List Int)} (h : FK nx m (2 * m) F) : F.flatten.length = 2 * m := by
  refine Nat.le_antisymm (nodup_range h.nd h.rg) ?_
  have := nodup_sub (l := (List.range (2 * m)).map fun (j : Nat) => (j : Int) - m) (l' := F.flatten) ?_ ?_
  · simpa using this
  · rw [List.nodup_iff_pairwise_ne, List.pairwise_map]
    exact (List.nodup_iff_pairwise_ne.1 List.nodup_range).imp fun {a b} h => by omega
  · intro x hx
    obtain ⟨j, hj, rfl⟩ := List.mem_map.1 hx
    exact h.all j (by simpa using hj)
theorem take_face {F : List (List Int)} {j : Nat} (h : j < F.length) : F.take (j + 1) = F.take j ++ [F.getD j []] := by
  rw [List.take_add_one, List.getD_eq_getElem?_getD, List.getElem?_eq_getElem h]; rfl
theorem flat_take {F : List (List Int)} {j : Nat} (h : j < F.length) : (F.take (j + 1)).flatten = (F.take j).flatten ++ F.getD j [] := by
  rw [take_face h]; simp
theorem flat_len {F : List (List Int)} {j : Nat} : (F.take j).flatten.length ≤ F.flatten.length := by
  have : F.flatten = (F.take j).flatten ++ (F.drop j).flatten := by rw [← List.flatten_append, List.take_append_drop]
  rw [this, List.length_append]; omega
/-- What the law asks at the q-th step of the j-th face. -/
theorem FK.at {nx : Int → Int} {m k : Nat} {F : List (List Int)} (h : FK nx m k F) {j q : Nat} (hj : j < F.length) (hq : q < (F.getD j []).length) :
    -(m : Int) ≤ (F.getD j []).getD q 0 ∧ (F.getD j []).getD q 0 < m ∧ ¬ (F.getD j []).getD q 0 ∈ (F.take j).flatten ++ (F.getD j []).take q ∧ (F.getD j []).getD 0 0 ≤ (F.getD j []).getD q 0 := by
  have hf := getD_mem' hj
  have hv : (F.getD j []).getD q 0 ∈ F.getD j [] := mem_getD hq
  have hr := h.rg _ (List.mem_flatten.2 ⟨_, hf, hv⟩)
  refine ⟨hr.1, hr.2, ?_, h.hd _ hf _ hv⟩
  have hnd := h.nd
  rw [← List.take_append_drop (j + 1) F, List.flatten_append, flat_take hj] at hnd
  have hnd := (List.nodup_append.1 hnd).1
  rw [← List.take_append_drop (q + 1) (F.getD j []), take_getD' hq, ← List.append_assoc] at hnd
  have hnd := (List.nodup_append.1 hnd).1
  rw [← List.append_assoc, List.nodup_append] at hnd
  intro hm
  exact hnd.2.2 _ hm _ (by simp) rfl
theorem FK.inc_at {nx : Int → Int} {m k : Nat} {F : List (List Int)} (h : FK nx m k F) {j : Nat} (hj : j + 1 < F.length) : (F.getD j []).getD 0 0 < (F.getD (j + 1) []).getD 0 0 := by
  have := List.pairwise_iff_getElem.1 h.inc j (j + 1) (by simp; omega) (by simpa using hj) (by omega)
  simp only [List.getElem_map] at this
  have e : ∀ i, (hi : i < F.length) → F.getD i [] = F[i] := fun i hi => by rw [List.getD_eq_getElem?_getD, List.getElem?_eq_getElem hi]; rfl
  rw [e j (by omega), e (j + 1) hj]; exact this
theorem FK.ne_at {nx : Int → Int} {m k : Nat} {F : List (List Int)} (h : FK nx m k F) {j : Nat} (hj : j < F.length) : 1 ≤ (F.getD j []).length :=
  List.length_pos_iff.2 (h.fac _ (getD_mem' hj)).ne
/-- The genus by the number of faces. -/
theorem genus_ok {n : Nat} {w s : List Int} (h : Word w n) (hs : s.all (fun x => decide (x = 1) || decide (x = -1)) = true) (hl : s.length = n) : 0 ≤ genusT n w s ∧ 2 * genusT n w s = (n : Int) + 2 - (facesT (nextT w s) (2 * n)).length := by
  have h1 := faces_le h hs hl
  have h2 := faces_par h hs hl
  unfold genusT
  rw [Int.tdiv_eq_ediv_of_nonneg (by omega)]
  omega
end Go.Scr
/- Words made of numbers. No condition. -/
namespace Go.Proofs.Ytdfajcfkdfjoeaa
open Go Go.Vc Go.Scr
set_option linter.unusedVariables false
set_option linter.unusedSimpArgs false

@[reducible] def U2 : Ty := .cons (.int .u8) (.cons (.int .u8) .nil)
/-- Numbers below 256. -/
def small (x : List (Int × Int × Unit)) : Prop := ∀ i : Nat, 0 ≤ (x.getD i (0, 0, ())).1 ∧ (x.getD i (0, 0, ())).1 ≤ 255 ∧ 0 ≤ (x.getD i (0, 0, ())).2.1 ∧ (x.getD i (0, 0, ())).2.1 ≤ 255
theorem tm_nat {p : Int} {l : Nat} (h0 : 0 ≤ p) (k : Nat) (hk : l + 1 = k) : p.tmod ((l : Int) + 1) = ((p.toNat % k : Nat) : Int) := by
  rw [Int.tmod_eq_emod_of_nonneg h0, Int.natCast_emod, Int.toNat_of_nonneg h0, ← hk]; rfl
theorem mod_le' {a k j : Nat} (h : k = j + 1) : a % k ≤ j := by have := Nat.mod_lt a (y := k) (by omega); omega
set_option maxHeartbeats 4000000 in
theorem made_at {x : List (Int × Int × Unit)} (hx : small x) {m c : Nat} (hm : m ≤ 10) (hc : c = min x.length (m - 1)) : FnAt Try.prog false 28 [.arr U2 x, .lit (.int .i64 m)] (.st true (.arr (.int .i64) (madeK x c))) [] := by
  have hxl : ∀ i, @List.getD U2.T x i U2.dflt = x.getD i (0, 0, ()) := fun i => rfl
  have hll : @List.length U2.T x = x.length := rfl
  have hml : ∀ i, @List.length (Ty.int .i64).T (madeK x i) = 2 * i + 2 := fun i => madeK_len
  refine FnAt.of_body tys_ok Try.func28 (by rfl) rfl Try.ntmps28 (by rw [Try.results28]) (by simp) ?_
  
  repeat' (first
 | refine W.seq ?_
 | refine W.block ?_
 | (refine W.region tys_ok [5, 7] ?_; conv => whnf)
 | (refine W.drawAll tys_ok [5, 7] mixed rfl ?_; conv => whnf)
 | (refine W.ret ?_; conv => whnf)
 | (refine W.skip ?_; conv => whnf)
 | (refine W.exit ?_; conv => whnf)

    | (refine W.cond rfl (fun hb => ?_) (fun hb => ?_) <;> (try simp only [Int.reduceToNat, Int.reduceTDiv, Int.reduceTMod, minL, maxL, pickB, zHB] at hb) <;> (try (first | (cases hb; done) | exact absurd hb (by decide) | (exfalso; omega))))
    | ((with_reducible refine And.intro ?_ ?_); (focus ((repeat' (first | (with_reducible rfl) | (with_reducible refine And.intro ?_ ?_) | omega | rfl | exact Or.inl rfl | exact Or.inr rfl | exact of_decide_eq_true rfl | exact Path.imp_of (of_decide_eq_true rfl) | (focus ((try simp only [Int.reduceToNat, Int.reduceTDiv, Int.reduceTMod, minL, maxL, pickB, zHB, InK, Path.imp, List.length_replicate, List.length_set, List.length_append, List.length_cons, List.length_nil] at *); omega)) | (refine app_le rfl ?_; omega))); done)); (conv => whnf))
    | ((with_reducible refine And.intro (Side.out ?_) ?_); rotate_left; (conv => whnf))
    | (refine retF1 ?_ <;> (conv => whnf) <;> repeat' (first
 | exact trivial
 | (with_reducible rfl)
 | ((with_reducible refine And.intro ?_ ?_) <;> conv => whnf)
 | omega
 | rfl
 | (refine congrArg (SV.arr _) ?_)
 | (refine congrArg (Value.int _) ?_)
 | (refine congrArg Value.bool ?_)))
 | (refine retF2 ?_ <;> (conv => whnf) <;> repeat' (first
 | exact trivial
 | (with_reducible rfl)
 | ((with_reducible refine And.intro ?_ ?_) <;> conv => whnf)
 | omega
 | rfl
 | (refine congrArg (SV.arr _) ?_)
 | (refine congrArg (Value.int _) ?_)
 | (refine congrArg Value.bool ?_)))); all_goals (try unfold Side)
  all_goals try (repeat' (first | (with_reducible rfl) | (with_reducible refine And.intro ?_ ?_) | omega | rfl | exact Or.inl rfl | exact Or.inr rfl | exact of_decide_eq_true rfl | exact Path.imp_of (of_decide_eq_true rfl) | (focus ((try simp only [Int.reduceToNat, Int.reduceTDiv, Int.reduceTMod, minL, maxL, pickB, zHB, InK, Path.imp, List.length_replicate, List.length_set, List.length_append, List.length_cons, List.length_nil] at *); omega)) | (refine app_le rfl ?_; omega)))
  refine W.loop (fun i : Nat => ⟨[(0, .st false (.arr U2 x)), (1, .lit (.int .i64 (m))), (5, .st true (.arr (.int .i64) ((madeK x i : List Int) : List Int))), (6, .lit (.int .i64 (i)))], []⟩) (fun i => i ≤ x.length ∧ i ≤ m - 1) (fun i => m - i) (0) ?_ ?_
  · refine ⟨⟨Nat.zero_le _, Nat.zero_le _⟩, ?_⟩
    refine subF.ok ?_ <;> (conv => whnf) <;> repeat' (first
 | exact trivial
 | (with_reducible rfl)
 | ((with_reducible refine And.intro ?_ ?_) <;> conv => whnf)
 | omega
 | rfl
 | (refine congrArg (SV.arr _) ?_)
 | (refine congrArg (Value.int _) ?_)
 | (refine congrArg Value.bool ?_))
  · rintro i ⟨hi, hi2⟩
    have hl := hml i
    obtain ⟨x0, x1, x2, x3⟩ := hx i
    by_cases hil : i < x.length ∧ i + 1 < m
    · obtain ⟨hil, him⟩ := hil
      obtain ⟨p, hp⟩ : ∃ p, p = (x.getD i (0, 0, ())).1 := ⟨_, rfl⟩
      obtain ⟨q, hq⟩ : ∃ q, q = (x.getD i (0, 0, ())).2.1 := ⟨_, rfl⟩
      obtain ⟨v1, hv1⟩ : ∃ v1, v1 = putT (madeK x i) (p.toNat % (2 * i + 3)) (i + 1) := ⟨_, rfl⟩
      have hl1 : @List.length (Ty.int .i64).T v1 = 2 * i + 3 := by show v1.length = _; rw [hv1, putT_len, madeK_len]
      have e2 : putT v1 (q.toNat % (2 * i + 4)) (i + 1) = madeK x (i + 1) := by rw [hv1, hp, hq]; rfl
      have c1 := put_at (w := madeK x i) (a := p.toNat % (2 * i + 3)) (v := i + 1) (by have : (madeK x i).length = _ := hl; rw [this]; exact mod_le' rfl) (by have : (madeK x i).length = _ := hl; omega)
      have c2 := put_at (w := v1) (a := q.toNat % (2 * i + 4)) (v := i + 1) (by have : v1.length = _ := hl1; rw [this]; exact mod_le' rfl) (by have : v1.length = _ := hl1; omega)
      rw [← hv1] at c1
      rw [e2] at c2
      have t1 := tm_nat (p := p) (l := @List.length (Ty.int .i64).T (madeK x i)) (by omega) (2 * i + 3) (by omega)
      have t2 := tm_nat (p := q) (l := @List.length (Ty.int .i64).T v1) (by omega) (2 * i + 4) (by omega)
      rw [← t1, hp] at c1
      rw [← t2, hq] at c2
      have ik1 : InK .i64 (x.getD i (0, 0, ())).1 := by simp only [InK]; omega
      have ik2 : InK .i64 (x.getD i (0, 0, ())).2.1 := by simp only [InK]; omega
      repeat' (first
 | refine W.seq ?_
 | refine W.block ?_
 | (refine W.region tys_ok [33, 47, 5] ?_; conv => whnf)
 | (refine W.drawAll tys_ok [33, 47, 5] mixed rfl ?_; conv => whnf)
 | (refine W.ret ?_; conv => whnf)
 | (refine W.skip ?_; conv => whnf)
 | (refine W.exit ?_; conv => whnf)
 | (refine call_at (al := false) (c1) rfl rfl rfl rfl ?_; conv => whnf)
 | (refine call_at (al := false) (c2) rfl rfl rfl rfl ?_; conv => whnf)

    | (refine W.cond rfl (fun hb => ?_) (fun hb => ?_) <;> (try simp only [Int.reduceToNat, Int.reduceTDiv, Int.reduceTMod, minL, maxL, pickB, zHB] at hb) <;> (try (first | (cases hb; done) | exact absurd hb (by decide) | (exfalso; omega))))
    | ((with_reducible refine And.intro ?_ ?_); (focus ((repeat' (first | (with_reducible rfl) | (with_reducible refine And.intro ?_ ?_) | omega | rfl | exact Or.inl rfl | exact Or.inr rfl | exact of_decide_eq_true rfl | exact Path.imp_of (of_decide_eq_true rfl) | (focus ((try simp only [Int.reduceToNat, Int.reduceTDiv, Int.reduceTMod, minL, maxL, pickB, zHB, InK, Path.imp, List.length_replicate, List.length_set, List.length_append, List.length_cons, List.length_nil] at *); omega)) | (refine app_le rfl ?_; omega))); done)); (conv => whnf))
    | ((with_reducible refine And.intro (Side.out ?_) ?_); rotate_left; (conv => whnf))
    | (refine retF1 ?_ <;> (conv => whnf) <;> repeat' (first
 | exact trivial
 | (with_reducible rfl)
 | ((with_reducible refine And.intro ?_ ?_) <;> conv => whnf)
 | omega
 | rfl
 | (refine congrArg (SV.arr _) ?_)
 | (refine congrArg (Value.int _) ?_)
 | (refine congrArg Value.bool ?_)))
 | (refine retF2 ?_ <;> (conv => whnf) <;> repeat' (first
 | exact trivial
 | (with_reducible rfl)
 | ((with_reducible refine And.intro ?_ ?_) <;> conv => whnf)
 | omega
 | rfl
 | (refine congrArg (SV.arr _) ?_)
 | (refine congrArg (Value.int _) ?_)
 | (refine congrArg Value.bool ?_)))); all_goals (try unfold Side)
      all_goals try (repeat' (first | (with_reducible rfl) | (with_reducible refine And.intro ?_ ?_) | omega | rfl | exact Or.inl rfl | exact Or.inr rfl | exact of_decide_eq_true rfl | exact Path.imp_of (of_decide_eq_true rfl) | (focus ((try simp only [Int.reduceToNat, Int.reduceTDiv, Int.reduceTMod, minL, maxL, pickB, zHB, InK, Path.imp, List.length_replicate, List.length_set, List.length_append, List.length_cons, List.length_nil] at *); omega)) | (refine app_le rfl ?_; omega)))
      all_goals try (first | exact Path.imp_of ik1 | exact Path.imp_of ik2)
      refine ⟨i + 1, ⟨⟨by omega, by omega⟩, by omega⟩, ?_⟩
      refine subF.ok ?_ <;> (conv => whnf) <;> repeat' (first
 | exact trivial
 | (with_reducible rfl)
 | ((with_reducible refine And.intro ?_ ?_) <;> conv => whnf)
 | omega
 | rfl
 | (refine congrArg (SV.arr _) ?_)
 | (refine congrArg (Value.int _) ?_)
 | (refine congrArg Value.bool ?_))
    · have hie : c = i := by omega
      subst hie
      repeat' (first
 | refine W.seq ?_
 | refine W.block ?_
 | (refine W.region tys_ok [] ?_; conv => whnf)
 | (refine W.drawAll tys_ok [] mixed rfl ?_; conv => whnf)
 | (refine W.ret ?_; conv => whnf)
 | (refine W.skip ?_; conv => whnf)
 | (refine W.exit ?_; conv => whnf)

    | (refine W.cond rfl (fun hb => ?_) (fun hb => ?_) <;> (try simp only [Int.reduceToNat, Int.reduceTDiv, Int.reduceTMod, minL, maxL, pickB, zHB] at hb) <;> (try (first | (cases hb; done) | exact absurd hb (by decide) | (exfalso; omega))))
    | ((with_reducible refine And.intro ?_ ?_); (focus ((repeat' (first | (with_reducible rfl) | (with_reducible refine And.intro ?_ ?_) | omega | rfl | exact Or.inl rfl | exact Or.inr rfl | exact of_decide_eq_true rfl | exact Path.imp_of (of_decide_eq_true rfl) | (focus ((try simp only [Int.reduceToNat, Int.reduceTDiv, Int.reduceTMod, minL, maxL, pickB, zHB, InK, Path.imp, List.length_replicate, List.length_set, List.length_append, List.length_cons, List.length_nil] at *); omega)) | (refine app_le rfl ?_; omega))); done)); (conv => whnf))
    | ((with_reducible refine And.intro (Side.out ?_) ?_); rotate_left; (conv => whnf))
    | (refine retF1 ?_ <;> (conv => whnf) <;> repeat' (first
 | exact trivial
 | (with_reducible rfl)
 | ((with_reducible refine And.intro ?_ ?_) <;> conv => whnf)
 | omega
 | rfl
 | (refine congrArg (SV.arr _) ?_)
 | (refine congrArg (Value.int _) ?_)
 | (refine congrArg Value.bool ?_)))
 | (refine retF2 ?_ <;> (conv => whnf) <;> repeat' (first
 | exact trivial
 | (with_reducible rfl)
 | ((with_reducible refine And.intro ?_ ?_) <;> conv => whnf)
 | omega
 | rfl
 | (refine congrArg (SV.arr _) ?_)
 | (refine congrArg (Value.int _) ?_)
 | (refine congrArg Value.bool ?_)))); all_goals (try unfold Side)
      all_goals try (repeat' (first | (with_reducible rfl) | (with_reducible refine And.intro ?_ ?_) | omega | rfl | exact Or.inl rfl | exact Or.inr rfl | exact of_decide_eq_true rfl | exact Path.imp_of (of_decide_eq_true rfl) | (focus ((try simp only [Int.reduceToNat, Int.reduceTDiv, Int.reduceTMod, minL, maxL, pickB, zHB, InK, Path.imp, List.length_replicate, List.length_set, List.length_append, List.length_cons, List.length_nil] at *); omega)) | (refine app_le rfl ?_; omega)))
end Go.Proofs.Ytdfajcfkdfjoeaa
/- ScrollEuler. No condition. -/
namespace Go.Proofs.Ytdfajcfkdfjoeaa
open Go Go.Vc Go.Scr
set_option linter.unusedVariables false
set_option linter.unusedSimpArgs false

theorem sigT_signs {n z : Nat} : signsB (sigT n z) n = true := by
  rw [signsB, sigT_len, show sgnB (sigT n z) = true from sigT_all]; simp
set_option maxHeartbeats 4000000 in
theorem ScrollEuler_at {x : List (Int × Int × Unit)} (hx : small x) {z : Int} (hz0 : 0 ≤ z) (hz1 : z ≤ 65535) : FnAt Try.prog false 6 [.arr U2 x, .lit (.int .u16 z)] (.lit (.bool true)) [] := by
  obtain ⟨z, rfl⟩ : ∃ y : Nat, z = y := ⟨z.toNat, by omega⟩
  obtain ⟨c, hc⟩ : ∃ c, c = min x.length (10 - 1) := ⟨_, rfl⟩
  have c1 := made_at hx (m := 10) (Nat.le_refl _) hc
  have hw : Word (madeK x c) (c + 1) := made_word
  obtain ⟨n, hn⟩ : ∃ n, n = c + 1 := ⟨_, rfl⟩
  rw [← hn] at hw
  have hn10 : n ≤ 10 := by omega
  obtain ⟨w, hwe⟩ : ∃ w, w = madeK x c := ⟨_, rfl⟩
  rw [← hwe] at hw c1
  have hl : @List.length (Ty.int .i64).T w = 2 * n := hw.len
  have hd : Int.tdiv (@List.length (Ty.int .i64).T w) 2 = n := by rw [hl, Int.tdiv_eq_ediv_of_nonneg (by omega)]; omega
  have c2 := signs_at (n := n) (z := z) hn10 (by omega)
  have c3 := signs_at (n := n) (z := 65535 - z) hn10 (by omega)
  rw [← hd] at c2 c3
  rw [show ((65535 - z : Nat) : Int) = 65535 - (z : Int) by omega] at c3
  have s1 := sigT_signs (n := n) (z := z)
  have s2 := sigT_signs (n := n) (z := 65535 - z)
  have a1 := sigT_all (n := n) (z := z)
  have a2 := sigT_all (n := n) (z := 65535 - z)
  have l1 := sigT_len (n := n) (z := z)
  have l2 := sigT_len (n := n) (z := 65535 - z)
  have sneg := fun v (hv : v < n) => sigT_neg (n := n) (z := z) (by omega) (by omega) hv
  obtain ⟨s, hs⟩ : ∃ s, s = sigT n z := ⟨_, rfl⟩
  obtain ⟨t, ht⟩ : ∃ t, t = sigT n (65535 - z) := ⟨_, rfl⟩
  rw [← hs] at c2 s1 a1 l1
  rw [← ht] at c3 s2 a2 l2
  rw [← hs, ← ht] at sneg
  have c4 := Faces_ok hw hn10 s1
  have c5 := Faces_ok hw hn10 s2
  have c6 := Genus_ok hw hn10 s1
  have c7 := Genus_ok hw hn10 s2
  obtain ⟨g0, g1⟩ := genus_ok hw a1 l1
  obtain ⟨g2, g3⟩ := genus_ok hw a2 l2
  have eqF := neg_eq hw a1 l1 a2 l2 sneg
  have H := facesT_FK (next_pn hw a1 l1)
  have flen := faces_le hw a1 l1
  obtain ⟨F, hF⟩ : ∃ F, F = facesT (nextT w s) (2 * n) := ⟨_, rfl⟩
  obtain ⟨F2, hF2⟩ : ∃ F2, F2 = facesT (nextT w t) (2 * n) := ⟨_, rfl⟩
  rw [← hF] at H eqF g1 c4 flen
  rw [← hF2] at eqF g3 c5
  obtain ⟨G, hG⟩ : ∃ G, G = genusT n w s := ⟨_, rfl⟩
  obtain ⟨G2, hG2⟩ : ∃ G2, G2 = genusT n w t := ⟨_, rfl⟩
  rw [← hG] at g0 g1 c6
  rw [← hG2] at g2 g3 c7
  have H1 := fun j q hj hq => H.at (j := j) (q := q) hj hq
  have H2 := fun j hj => H.inc_at (j := j) hj
  have H3 := fun j hj => H.ne_at (j := j) hj
  have H4 := H.len
  have H5 := fun j => flat_len (F := F) (j := j)
  have H6 := fun j hj => flat_take (F := F) (j := j) hj
  clear H hF hF2 hG hG2 hs ht hwe sneg
  have hFl : @List.length (List (Ty.int .i64).T) F ≤ n + 2 := flen
  have hFl2 : @List.length (Ty.sl (.int .i64)).T F2 = @List.length (Ty.sl (.int .i64)).T F := eqF
  have hGG : G2 = G := by omega
  subst hGG
  have hg4 : ∀ k, k = @List.length (Ty.sl (.int .i64)).T F → 2 * G2 = (Int.tdiv (@List.length (Ty.int .i64).T w) 2) + 2 - k := fun k hk => by subst hk; rw [hd]; exact g1
  have hgl : 0 ≤ G2 ∧ G2 ≤ 20 := by omega
  refine FnAt.of_body tys_ok Try.func6 (by rfl) rfl Try.ntmps6 (by rw [Try.results6]) (by simp) ?_
  
  repeat' (first
 | refine W.seq ?_
 | refine W.block ?_
 | (refine W.region tys_ok [5, 6, 7, 21, 26, 32, 8, 10, 33, 36, 37, 39, 42, 43] ?_; conv => whnf)
 | (refine W.drawAll tys_ok [5, 6, 7, 21, 26, 32, 8, 10, 33, 36, 37, 39, 42, 43] mixed rfl ?_; conv => whnf)
 | (refine W.ret ?_; conv => whnf)
 | (refine W.skip ?_; conv => whnf)
 | (refine W.exit ?_; conv => whnf)
 | (refine call_at (al := false) (c1) rfl rfl rfl rfl ?_; conv => whnf)
 | (refine call_at (al := false) (c2) rfl rfl rfl rfl ?_; conv => whnf)
 | (refine call_at (al := false) (c3) rfl rfl rfl rfl ?_; conv => whnf)
 | (refine call_at (al := false) (c4) rfl rfl rfl rfl ?_; conv => whnf)
 | (refine call_at (al := false) (c5) rfl rfl rfl rfl ?_; conv => whnf)
 | (refine call_at (al := false) (c6) rfl rfl rfl rfl ?_; conv => whnf)
 | (refine call_at (al := false) (c7) rfl rfl rfl rfl ?_; conv => whnf)
 | (refine call_at (al := false) (lives_at) rfl rfl rfl rfl ?_; conv => whnf)

    | (refine W.cond rfl (fun hb => ?_) (fun hb => ?_) <;> (try simp only [Int.reduceToNat, Int.reduceTDiv, Int.reduceTMod, minL, maxL, pickB, zHB] at hb) <;> (try (first | (cases hb; done) | exact absurd hb (by decide) | (exfalso; omega))))
    | ((with_reducible refine And.intro ?_ ?_); (focus ((repeat' (first | (with_reducible rfl) | (with_reducible refine And.intro ?_ ?_) | omega | rfl | exact Or.inl rfl | exact Or.inr rfl | exact of_decide_eq_true rfl | exact Path.imp_of (of_decide_eq_true rfl) | (focus ((try simp only [Int.reduceToNat, Int.reduceTDiv, Int.reduceTMod, minL, maxL, pickB, zHB, InK, Path.imp, List.length_replicate, List.length_set, List.length_append, List.length_cons, List.length_nil] at *); omega)) | (refine app_le rfl ?_; omega))); done)); (conv => whnf))
    | ((with_reducible refine And.intro (Side.out ?_) ?_); rotate_left; (conv => whnf))
    | (refine retF1 ?_ <;> (conv => whnf) <;> repeat' (first
 | exact trivial
 | (with_reducible rfl)
 | ((with_reducible refine And.intro ?_ ?_) <;> conv => whnf)
 | omega
 | rfl
 | (refine congrArg (SV.arr _) ?_)
 | (refine congrArg (Value.int _) ?_)
 | (refine congrArg Value.bool ?_)))
 | (refine retF2 ?_ <;> (conv => whnf) <;> repeat' (first
 | exact trivial
 | (with_reducible rfl)
 | ((with_reducible refine And.intro ?_ ?_) <;> conv => whnf)
 | omega
 | rfl
 | (refine congrArg (SV.arr _) ?_)
 | (refine congrArg (Value.int _) ?_)
 | (refine congrArg Value.bool ?_)))); all_goals (try unfold Side)
  all_goals try (repeat' (first | (with_reducible rfl) | (with_reducible refine And.intro ?_ ?_) | omega | rfl | exact Or.inl rfl | exact Or.inr rfl | exact of_decide_eq_true rfl | exact Path.imp_of (of_decide_eq_true rfl) | (focus ((try simp only [Int.reduceToNat, Int.reduceTDiv, Int.reduceTMod, minL, maxL, pickB, zHB, InK, Path.imp, List.length_replicate, List.length_set, List.length_append, List.length_cons, List.length_nil] at *); omega)) | (refine app_le rfl ?_; omega)))
  have Hin : ∀ j q : Nat, j < F.length → q < (F.getD j []).length → @List.length (Ty.int .i64).T (@List.getD (List (Ty.int .i64).T) F j []) = (F.getD j []).length := fun _ _ _ _ => rfl
  refine W.loop (fun j : Nat => ⟨[(5, .st true (.arr (.int .i64) (w : List Int))), (8, .st true (.arr (.sl (.int .i64)) (F : List (List Int)))), (16, .own 900016), (17, .lit (.int .i64 (j)))], [(900016, .mp .i64 .bool (mpT (F.take j).flatten) (F.take j).flatten.length)]⟩) (fun j => j ≤ F.length) (fun j => F.length - j) (0) ?_ ?_
  · refine ⟨Nat.zero_le _, ?_⟩
    refine subF.ok ?_ <;> (conv => whnf) <;> repeat' (first
 | exact trivial
 | (with_reducible rfl)
 | ((with_reducible refine And.intro ?_ ?_) <;> conv => whnf)
 | omega
 | rfl
 | (refine congrArg (SV.arr _) ?_)
 | (refine congrArg (Value.int _) ?_)
 | (refine congrArg Value.bool ?_))
    all_goals exact mp_nil rfl
  · intro j hj
    by_cases hjl : j < F.length
    · have K1 := fun q hq => H1 j q hjl hq
      have K3 := H3 j hjl
      have K6 := H6 j hjl
      have K5 := H5 (j + 1)
      have K5' := H5 j
      have hfl : (F.getD j []).length ≤ 40 := by rw [K6, List.length_append] at K5; omega
      repeat' (first
 | refine W.seq ?_
 | refine W.block ?_
 | (refine W.region tys_ok [] ?_; conv => whnf)
 | (refine W.drawAll tys_ok [] mixed rfl ?_; conv => whnf)
 | (refine W.ret ?_; conv => whnf)
 | (refine W.skip ?_; conv => whnf)
 | (refine W.exit ?_; conv => whnf)

    | (refine W.cond rfl (fun hb => ?_) (fun hb => ?_) <;> (try simp only [Int.reduceToNat, Int.reduceTDiv, Int.reduceTMod, minL, maxL, pickB, zHB] at hb) <;> (try (first | (cases hb; done) | exact absurd hb (by decide) | (exfalso; omega))))
    | ((with_reducible refine And.intro ?_ ?_); (focus ((repeat' (first | (with_reducible rfl) | (with_reducible refine And.intro ?_ ?_) | omega | rfl | exact Or.inl rfl | exact Or.inr rfl | exact of_decide_eq_true rfl | exact Path.imp_of (of_decide_eq_true rfl) | (focus ((try simp only [Int.reduceToNat, Int.reduceTDiv, Int.reduceTMod, minL, maxL, pickB, zHB, InK, Path.imp, List.length_replicate, List.length_set, List.length_append, List.length_cons, List.length_nil] at *); omega)) | (refine app_le rfl ?_; omega))); done)); (conv => whnf))
    | ((with_reducible refine And.intro (Side.out ?_) ?_); rotate_left; (conv => whnf))
    | (refine retF1 ?_ <;> (conv => whnf) <;> repeat' (first
 | exact trivial
 | (with_reducible rfl)
 | ((with_reducible refine And.intro ?_ ?_) <;> conv => whnf)
 | omega
 | rfl
 | (refine congrArg (SV.arr _) ?_)
 | (refine congrArg (Value.int _) ?_)
 | (refine congrArg Value.bool ?_)))
 | (refine retF2 ?_ <;> (conv => whnf) <;> repeat' (first
 | exact trivial
 | (with_reducible rfl)
 | ((with_reducible refine And.intro ?_ ?_) <;> conv => whnf)
 | omega
 | rfl
 | (refine congrArg (SV.arr _) ?_)
 | (refine congrArg (Value.int _) ?_)
 | (refine congrArg Value.bool ?_)))); all_goals (try unfold Side)
      all_goals try (repeat' (first | (with_reducible rfl) | (with_reducible refine And.intro ?_ ?_) | omega | rfl | exact Or.inl rfl | exact Or.inr rfl | exact of_decide_eq_true rfl | exact Path.imp_of (of_decide_eq_true rfl) | (focus ((try simp only [Int.reduceToNat, Int.reduceTDiv, Int.reduceTMod, minL, maxL, pickB, zHB, InK, Path.imp, List.length_replicate, List.length_set, List.length_append, List.length_cons, List.length_nil] at *); omega)) | (refine app_le rfl ?_; omega)))
      refine W.loop (fun q : Nat => ⟨[(5, .st true (.arr (.int .i64) (w : List Int))), (8, .st true (.arr (.sl (.int .i64)) (F : List (List Int)))), (16, .own 900016), (17, .lit (.int .i64 (j))), (18, .lit (.int .i64 (q)))], [(900016, .mp .i64 .bool (mpT ((F.take j).flatten ++ (F.getD j []).take q)) ((F.take j).flatten ++ (F.getD j []).take q).length)]⟩) (fun q => q ≤ (F.getD j []).length) (fun q => (F.getD j []).length - q) (0) ?_ ?_
      · refine ⟨Nat.zero_le _, ?_⟩
        refine subF.ok ?_ <;> (conv => whnf) <;> repeat' (first
 | exact trivial
 | (with_reducible rfl)
 | ((with_reducible refine And.intro ?_ ?_) <;> conv => whnf)
 | omega
 | rfl
 | (refine congrArg (SV.arr _) ?_)
 | (refine congrArg (Value.int _) ?_)
 | (refine congrArg Value.bool ?_))
        all_goals exact mp_eq (by simp)
      · intro q hq
        by_cases hql : q < (F.getD j []).length
        · obtain ⟨k1, k2, k3, k4⟩ := K1 q hql
          have hv := mpT_out k3
          have hadd := mp_add k3
          have htk := take_getD' hql
          have hno : (decide ((F.getD j []).getD q 0 < -(@List.length (Ty.int .i64).T w : Int)) || decide ((@List.length (Ty.int .i64).T w : Int) ≤ (F.getD j []).getD q 0) || (mpT ((F.take j).flatten ++ (F.getD j []).take q) ((F.getD j []).getD q 0)).getD false) = false := by rw [hv, decide_eq_false (by omega), decide_eq_false (by omega)]; rfl
          repeat' (first
 | refine W.seq ?_
 | refine W.block ?_
 | (refine W.drawPh (id := 18) tys_ok [] mixed [0, 0, 2, 4, 9, 16, 32, 32, 160, 352, 544, 1056, 2048, 2048, 14336, 18432, 34816, 65536, 65536, 458752, 589824, 1114112, 2162688, 65536, 12648448, 16842752] [([0, 1], 1, 7), ([3, 4, 5, 6, 7], 1, 511), ([9, 10, 11, 12, 13], 1, 32767), ([15, 16, 17, 18, 19, 20, 21, 22, 23, 24, 25], 0, 67108863)] (by decide +kernel) ?_; conv => whnf)
 | (refine W.region tys_ok [] ?_; conv => whnf)
 | (refine W.drawAll tys_ok [] mixed rfl ?_; conv => whnf)
 | (refine W.ret ?_; conv => whnf)
 | (refine W.skip ?_; conv => whnf)
 | (refine W.exit ?_; conv => whnf)

    | (refine Both.mk ?_ ?_ <;> (conv => whnf))
    | (refine subF.leaf ?_ <;> (conv => whnf) <;> repeat' (first
 | exact trivial
 | (with_reducible rfl)
 | ((with_reducible refine And.intro ?_ ?_) <;> conv => whnf)
 | omega
 | rfl
 | (refine congrArg (SV.arr _) ?_)
 | (refine congrArg (Value.int _) ?_)
 | (refine congrArg Value.bool ?_)))
 | (refine subF.side ?_ <;> (conv => whnf) <;> repeat' (first
 | exact trivial
 | (with_reducible rfl)
 | ((with_reducible refine And.intro ?_ ?_) <;> conv => whnf)
 | omega
 | rfl
 | (refine congrArg (SV.arr _) ?_)
 | (refine congrArg (Value.int _) ?_)
 | (refine congrArg Value.bool ?_)))
 | (refine W.cond rfl (fun hb => ?_) (fun hb => ?_) <;> (try simp only [Int.reduceToNat, Int.reduceTDiv, Int.reduceTMod, minL, maxL, pickB, zHB] at hb) <;> (try (first | (cases hb; done) | exact absurd hb (by decide) | (exfalso; omega) | (rcases hb with h | h; exact absurd (h.symm.trans hno) (by decide); omega))))
 | ((with_reducible refine And.intro ?_ ?_); (focus ((repeat' (first | (with_reducible rfl) | (with_reducible refine And.intro ?_ ?_) | omega | rfl | exact Or.inl rfl | exact Or.inr rfl | exact of_decide_eq_true rfl | exact Path.imp_of (of_decide_eq_true rfl) | (focus ((try simp only [Int.reduceToNat, Int.reduceTDiv, Int.reduceTMod, minL, maxL, pickB, zHB, InK, Path.imp, List.length_replicate, List.length_set, List.length_append, List.length_cons, List.length_nil] at *); omega)) | (refine app_le rfl ?_; omega))); done)); (conv => whnf))
 | ((with_reducible refine And.intro (Side.out ?_) ?_); rotate_left; (conv => whnf))
 | (refine retF1 ?_ <;> (conv => whnf) <;> repeat' (first
 | exact trivial
 | (with_reducible rfl)
 | ((with_reducible refine And.intro ?_ ?_) <;> conv => whnf)
 | omega
 | rfl
 | (refine congrArg (SV.arr _) ?_)
 | (refine congrArg (Value.int _) ?_)
 | (refine congrArg Value.bool ?_)))
 | (refine retF2 ?_ <;> (conv => whnf) <;> repeat' (first
 | exact trivial
 | (with_reducible rfl)
 | ((with_reducible refine And.intro ?_ ?_) <;> conv => whnf)
 | omega
 | rfl
 | (refine congrArg (SV.arr _) ?_)
 | (refine congrArg (Value.int _) ?_)
 | (refine congrArg Value.bool ?_)))); all_goals (try unfold Side)
          all_goals try (repeat' (first | (with_reducible rfl) | (with_reducible refine And.intro ?_ ?_) | omega | rfl | exact Or.inl rfl | exact Or.inr rfl | exact of_decide_eq_true rfl | exact Path.imp_of (of_decide_eq_true rfl) | (focus ((try simp only [Int.reduceToNat, Int.reduceTDiv, Int.reduceTMod, minL, maxL, pickB, zHB, InK, Path.imp, List.length_replicate, List.length_set, List.length_append, List.length_cons, List.length_nil] at *); omega)) | (refine app_le rfl ?_; omega)))
          refine ⟨q + 1, ⟨by omega, by omega⟩, ?_⟩
          refine subF.ok ?_ <;> (conv => whnf) <;> repeat' (first
 | exact trivial
 | (with_reducible rfl)
 | ((with_reducible refine And.intro ?_ ?_) <;> conv => whnf)
 | omega
 | rfl
 | (refine congrArg (SV.arr _) ?_)
 | (refine congrArg (Value.int _) ?_)
 | (refine congrArg Value.bool ?_))
          all_goals exact hadd.trans (mp_eq (by rw [htk, List.append_assoc]))
        · have hie : q = (F.getD j []).length := by omega
          subst hie
          have K7 : 0 < j → (F.getD ((j : Int) - 1).toNat []).getD 0 0 < (F.getD j []).getD 0 0 := fun h0 => by
            have h1 := H2 (j - 1) (by omega)
            rw [show j - 1 + 1 = j by omega] at h1
            rw [show ((j : Int) - 1).toNat = j - 1 by omega]
            exact h1
          have K8 : (F.take j).flatten ++ (F.getD j []).take (F.getD j []).length = (F.take (j + 1)).flatten := by rw [K6, List.take_length]
          have K9 : 0 < @List.length (Ty.int .i64).T (F.getD ((j : Int) - 1).toNat (Ty.sl (.int .i64)).dflt) := H3 _ (by omega)
          repeat' (first
 | refine W.seq ?_
 | refine W.block ?_
 | (refine W.drawPh (id := 21) tys_ok [] mixed [0, 0, 3, 4, 8, 16, 32, 64, 192, 320, 512, 512, 2560, 5632, 8704, 16896, 33280, 512, 512, 393728, 524800, 1049088, 2097664, 4260352, 8389184, 16777280] [([0, 1, 2, 3], 1, 31), ([5, 6, 7, 8, 9, 10, 11, 12, 13, 14, 15, 16, 17, 18, 19, 20, 21, 22, 23, 24, 25], 0, 67108863)] (by decide +kernel) ?_; conv => whnf)
 | (refine W.region tys_ok [] ?_; conv => whnf)
 | (refine W.drawAll tys_ok [] mixed rfl ?_; conv => whnf)
 | (refine W.ret ?_; conv => whnf)
 | (refine W.skip ?_; conv => whnf)
 | (refine W.exit ?_; conv => whnf)

    | (refine Both.mk ?_ ?_ <;> (conv => whnf))
    | (refine subF.leaf ?_ <;> (conv => whnf) <;> repeat' (first
 | exact trivial
 | (with_reducible rfl)
 | ((with_reducible refine And.intro ?_ ?_) <;> conv => whnf)
 | omega
 | rfl
 | (refine congrArg (SV.arr _) ?_)
 | (refine congrArg (Value.int _) ?_)
 | (refine congrArg Value.bool ?_)))
 | (refine subF.side ?_ <;> (conv => whnf) <;> repeat' (first
 | exact trivial
 | (with_reducible rfl)
 | ((with_reducible refine And.intro ?_ ?_) <;> conv => whnf)
 | omega
 | rfl
 | (refine congrArg (SV.arr _) ?_)
 | (refine congrArg (Value.int _) ?_)
 | (refine congrArg Value.bool ?_)))
 | (refine W.cond rfl (fun hb => ?_) (fun hb => ?_) <;> (try simp only [Int.reduceToNat, Int.reduceTDiv, Int.reduceTMod, minL, maxL, pickB, zHB] at hb) <;> (try (first | (cases hb; done) | exact absurd hb (by decide) | (exfalso; omega) | (rcases hb with h | h; omega; exact absurd h.2 (by have := K7 (by omega); omega)))))
 | ((with_reducible refine And.intro ?_ ?_); (focus ((repeat' (first | (with_reducible rfl) | (with_reducible refine And.intro ?_ ?_) | omega | rfl | exact Or.inl rfl | exact Or.inr rfl | exact of_decide_eq_true rfl | exact Path.imp_of (of_decide_eq_true rfl) | (focus ((try simp only [Int.reduceToNat, Int.reduceTDiv, Int.reduceTMod, minL, maxL, pickB, zHB, InK, Path.imp, List.length_replicate, List.length_set, List.length_append, List.length_cons, List.length_nil] at *); omega)) | (refine app_le rfl ?_; omega))); done)); (conv => whnf))
 | ((with_reducible refine And.intro (Side.out ?_) ?_); rotate_left; (conv => whnf))
 | (refine retF1 ?_ <;> (conv => whnf) <;> repeat' (first
 | exact trivial
 | (with_reducible rfl)
 | ((with_reducible refine And.intro ?_ ?_) <;> conv => whnf)
 | omega
 | rfl
 | (refine congrArg (SV.arr _) ?_)
 | (refine congrArg (Value.int _) ?_)
 | (refine congrArg Value.bool ?_)))
 | (refine retF2 ?_ <;> (conv => whnf) <;> repeat' (first
 | exact trivial
 | (with_reducible rfl)
 | ((with_reducible refine And.intro ?_ ?_) <;> conv => whnf)
 | omega
 | rfl
 | (refine congrArg (SV.arr _) ?_)
 | (refine congrArg (Value.int _) ?_)
 | (refine congrArg Value.bool ?_)))); all_goals (try unfold Side)
          all_goals try exact Path.imp_of ⟨by decide, K9⟩
          all_goals try (repeat' (first | (with_reducible rfl) | (with_reducible refine And.intro ?_ ?_) | omega | rfl | exact Or.inl rfl | exact Or.inr rfl | exact of_decide_eq_true rfl | exact Path.imp_of (of_decide_eq_true rfl) | (focus ((try simp only [Int.reduceToNat, Int.reduceTDiv, Int.reduceTMod, minL, maxL, pickB, zHB, InK, Path.imp, List.length_replicate, List.length_set, List.length_append, List.length_cons, List.length_nil] at *); omega)) | (refine app_le rfl ?_; omega)))
          refine ⟨j + 1, ⟨by omega, by omega⟩, ?_⟩
          refine subF.ok ?_ <;> (conv => whnf) <;> repeat' (first
 | exact trivial
 | (with_reducible rfl)
 | ((with_reducible refine And.intro ?_ ?_) <;> conv => whnf)
 | omega
 | rfl
 | (refine congrArg (SV.arr _) ?_)
 | (refine congrArg (Value.int _) ?_)
 | (refine congrArg Value.bool ?_))
          all_goals exact mp_eq K8
    · have hie : F.length = j := by omega
      subst hie
      have K10 : ((F.take F.length).flatten.length : Int) = 2 * @List.length (Ty.int .i64).T w := by rw [List.take_length, H4, hl]; omega
      repeat' (first
 | refine W.seq ?_
 | refine W.block ?_
 | (refine W.region tys_ok [] ?_; conv => whnf)
 | (refine W.drawAll tys_ok [] mixed rfl ?_; conv => whnf)
 | (refine W.ret ?_; conv => whnf)
 | (refine W.skip ?_; conv => whnf)
 | (refine W.exit ?_; conv => whnf)

    | (refine W.cond rfl (fun hb => ?_) (fun hb => ?_) <;> (try simp only [Int.reduceToNat, Int.reduceTDiv, Int.reduceTMod, minL, maxL, pickB, zHB] at hb) <;> (try (first | (cases hb; done) | exact absurd hb (by decide) | (exfalso; omega))))
    | ((with_reducible refine And.intro ?_ ?_); (focus ((repeat' (first | (with_reducible rfl) | (with_reducible refine And.intro ?_ ?_) | omega | rfl | exact Or.inl rfl | exact Or.inr rfl | exact of_decide_eq_true rfl | exact Path.imp_of (of_decide_eq_true rfl) | (focus ((try simp only [Int.reduceToNat, Int.reduceTDiv, Int.reduceTMod, minL, maxL, pickB, zHB, InK, Path.imp, List.length_replicate, List.length_set, List.length_append, List.length_cons, List.length_nil] at *); omega)) | (refine app_le rfl ?_; omega))); done)); (conv => whnf))
    | ((with_reducible refine And.intro (Side.out ?_) ?_); rotate_left; (conv => whnf))
    | (refine retF1 ?_ <;> (conv => whnf) <;> repeat' (first
 | exact trivial
 | (with_reducible rfl)
 | ((with_reducible refine And.intro ?_ ?_) <;> conv => whnf)
 | omega
 | rfl
 | (refine congrArg (SV.arr _) ?_)
 | (refine congrArg (Value.int _) ?_)
 | (refine congrArg Value.bool ?_)))
 | (refine retF2 ?_ <;> (conv => whnf) <;> repeat' (first
 | exact trivial
 | (with_reducible rfl)
 | ((with_reducible refine And.intro ?_ ?_) <;> conv => whnf)
 | omega
 | rfl
 | (refine congrArg (SV.arr _) ?_)
 | (refine congrArg (Value.int _) ?_)
 | (refine congrArg Value.bool ?_)))); all_goals (try unfold Side)
      all_goals try (repeat' (first | (with_reducible rfl) | (with_reducible refine And.intro ?_ ?_) | omega | rfl | exact Or.inl rfl | exact Or.inr rfl | exact of_decide_eq_true rfl | exact Path.imp_of (of_decide_eq_true rfl) | (focus ((try simp only [Int.reduceToNat, Int.reduceTDiv, Int.reduceTMod, minL, maxL, pickB, zHB, InK, Path.imp, List.length_replicate, List.length_set, List.length_append, List.length_cons, List.length_nil] at *); omega)) | (refine app_le rfl ?_; omega)))
      all_goals exact (decide_eq_true K10).symm
theorem small_wf {x : List (Int × Int × Unit)} (h : (Ty.sl U2).wf x) : small x := fun i => by
  have h2 : ∀ y ∈ x, U2.wf y := h.2
  by_cases hi : i < x.length
  · have hm : x.getD i (0, 0, ()) ∈ x := by
      have : x.getD i (0, 0, ()) = x[i] := by simp [List.getD, hi]
      rw [this]; exact List.getElem_mem hi
    have h3 := h2 _ hm
    have a := wf_u8 h3.1
    have b := wf_u8 h3.2.1
    exact ⟨a.1, a.2, b.1, b.2⟩
  · have : x.getD i (0, 0, ()) = (0, 0, ()) := by simp [List.getD, List.getElem?_eq_none (Nat.le_of_not_lt hi)]
    rw [this]; simp
end Go.Proofs.Ytdfajcfkdfjoeaa
/- Sums over positions and over letters. No condition. -/
namespace Go.Scr
set_option linter.unusedVariables false
set_option linter.unusedSimpArgs false

def xs (f : Nat → Bool) : Nat → Bool
  | 0 => false
  | k + 1 => xs f k ^^ f k
theorem xs_congr {f g : Nat → Bool} : ∀ {k : Nat}, (∀ i, i < k → f i = g i) → xs f k = xs g k
  | 0, _ => rfl
  | k + 1, h => by rw [xs, xs, xs_congr fun i hi => h i (by omega), h k (by omega)]
theorem xs_xor {f g : Nat → Bool} : ∀ {k : Nat}, xs (fun i => f i ^^ g i) k = (xs f k ^^ xs g k)
  | 0 => rfl
  | k + 1 => by
    rw [xs, xs, xs, xs_xor]
    cases xs f k <;> cases xs g k <;> cases f k <;> cases g k <;> rfl
theorem xs_false : ∀ {k : Nat}, xs (fun _ => false) k = false
  | 0 => rfl
  | k + 1 => by rw [xs, xs_false]; rfl
theorem xs_one {v : Nat} {g : Nat → Bool} : ∀ {k : Nat}, xs (fun i => decide (i = v) && g i) k = (decide (v < k) && g v)
  | 0 => rfl
  | k + 1 => by
    rw [xs, xs_one]
    by_cases e : k = v
    · subst e; simp
    · rw [decide_eq_false e, show decide (v < k + 1) = decide (v < k) from decide_eq_decide.2 (by omega)]; simp
theorem xs_swap {f : Nat → Nat → Bool} {m : Nat} : ∀ {k : Nat}, xs (fun i => xs (fun j => f i j) m) k = xs (fun j => xs (fun i => f i j) k) m
  | 0 => xs_false.symm
  | k + 1 => by
    rw [xs, xs_swap, ← xs_xor]; rfl
def iv (p q a : Nat) : Bool := decide (p ≤ a) && decide (a < q)
theorem xs_range {f : Nat → Bool} {r s : Nat} (h : r ≤ s) : ∀ {k : Nat}, s ≤ k → xs (fun a => iv r s a && f a) k = (xs f s ^^ xs f r)
  | 0, hs => by
    have e : s = 0 := by omega
    have e2 : r = 0 := by omega
    subst e; subst e2; rfl
  | k + 1, hs => by
    by_cases e : s = k + 1
    · subst e
      by_cases e2 : r = k + 1
      · subst e2
        rw [xs_congr (g := fun _ => false) fun i hi => ?_, xs_false]
        · cases xs f (k + 1) <;> rfl
        · unfold iv; rw [decide_eq_false (by omega)]; simp
      · rw [xs, xs_congr (g := fun a => iv r k a && f a) fun i hi => ?_, xs_range (s := k) (by omega) (Nat.le_refl _), show iv r (k + 1) k = true by unfold iv; simp; omega, show xs f (k + 1) = (xs f k ^^ f k) from rfl]
        · cases xs f k <;> cases xs f r <;> cases f k <;> rfl
        · unfold iv
          rw [show decide (i < k + 1) = decide (i < k) from decide_eq_decide.2 (by omega)]
    · rw [xs, xs_range h (by omega), show iv r s k = false by unfold iv; rw [decide_eq_false (p := k < s) (by omega)]; simp]; simp
theorem xs_true : ∀ {k : Nat}, xs (fun _ => true) k = decide (k % 2 = 1)
  | 0 => rfl
  | k + 1 => by
    rw [xs, xs_true]
    by_cases e : k % 2 = 1
    · rw [decide_eq_true e, decide_eq_false (by omega)]; rfl
    · rw [decide_eq_false e, decide_eq_true (by omega)]; rfl
theorem xs_cmn {w : List Int} {x y : Nat} : ∀ {k : Nat}, xs (fun u => interT w x u && interT w y u) k = decide (cmnK w x y k % 2 = 1)
  | 0 => rfl
  | k + 1 => by
    rw [xs, xs_cmn, cmnK]
    cases (interT w x k && interT w y k)
    · simp
    · simp only [if_true]
      by_cases e : cmnK w x y k % 2 = 1
      · rw [decide_eq_true e, decide_eq_false (by omega)]; rfl
      · rw [decide_eq_false e, decide_eq_true (by omega)]; rfl

def pp (w : List Int) (x : Nat) : Nat := fst w x
def qq (w : List Int) (x : Nat) : Nat := ((placesT w x).getD 1 0).toNat
structure Lt (w : List Int) (n x : Nat) : Prop where
  pl : placesT w x = [(pp w x : Int), (qq w x : Int)]
  pq : pp w x < qq w x
  hq : qq w x < 2 * n
  wp : w.getD (pp w x) 0 = x
  wq : w.getD (qq w x) 0 = x
  all : ∀ i, i < 2 * n → w.getD i 0 = x → i = pp w x ∨ i = qq w x
theorem Word.lt {w : List Int} {n x : Nat} (h : Word w n) (hx : x < n) : Lt w n x := by
  obtain ⟨p, q, hpq, hq, hpl, hwp, hwq, hall⟩ := h.places hx
  have e1 : pp w x = p := by unfold pp Scr.fst; rw [hpl]; simp
  have e2 : qq w x = q := by unfold qq; rw [hpl]; simp
  constructor
  · rw [e1, e2]; exact hpl
  · rw [e1, e2]; exact hpq
  · rw [e2]; exact hq
  · rw [e1]; exact hwp
  · rw [e2]; exact hwq
  · rw [e1, e2]; exact hall
theorem Cr.pp {w s : List Int} {n x p q : Nat} (C : Cr w s n x p q) : pp w x = p := by unfold Scr.pp Scr.fst; rw [C.pl]; simp
theorem Cr.qq {w s : List Int} {n x p q : Nat} (C : Cr w s n x p q) : qq w x = q := by unfold Scr.qq; rw [C.pl]; simp
theorem xs_pos {w : List Int} {n : Nat} (h : Word w n) {f : Nat → Bool} : xs f (2 * n) = xs (fun u => f (pp w u) ^^ f (qq w u)) n := by
  have e : xs f (2 * n) = xs (fun a => xs (fun u => decide (u = (w.getD a 0).toNat) && f a) n) (2 * n) := xs_congr fun a ha => by
    rw [xs_one (g := fun _ => f a)]
    have := h.rg a ha
    rw [decide_eq_true (by omega), Bool.true_and]
  rw [e, xs_swap]
  refine xs_congr fun u hu => ?_
  have H := h.lt hu
  have hpq := H.pq; have hq := H.hq
  rw [xs_congr (g := fun a => (decide (a = pp w u) && f a) ^^ (decide (a = qq w u) && f a)) fun a ha => ?_, xs_xor, xs_one, xs_one, decide_eq_true (by omega), decide_eq_true (by omega), Bool.true_and, Bool.true_and]
  have hw := h.rg a ha
  by_cases e1 : a = pp w u
  · subst e1
    rw [H.wp, decide_eq_true (p := pp w u = pp w u) rfl, decide_eq_false (p := pp w u = qq w u) (by omega)]; simp
  · by_cases e2 : a = qq w u
    · subst e2
      rw [H.wq, decide_eq_true (p := qq w u = qq w u) rfl, decide_eq_false (p := qq w u = pp w u) (by omega)]; simp
    · rw [decide_eq_false e1, decide_eq_false e2, decide_eq_false fun e => ?_]
      · simp
      · rcases H.all a ha (by omega) with e' | e' <;> contradiction
/-- The places of two letters differ. -/
theorem pl_ne {w : List Int} {n x y : Nat} (h : Word w n) (hx : x < n) (hy : y < n) (e : x ≠ y) : pp w x ≠ pp w y ∧ pp w x ≠ qq w y ∧ qq w x ≠ pp w y ∧ qq w x ≠ qq w y := by
  have A := h.lt hx; have B := h.lt hy
  refine ⟨fun k => ?_, fun k => ?_, fun k => ?_, fun k => ?_⟩
  · have h1 := A.wp; rw [k, B.wp] at h1; omega
  · have h1 := A.wp; rw [k, B.wq] at h1; omega
  · have h1 := A.wq; rw [k, B.wp] at h1; omega
  · have h1 := A.wq; rw [k, B.wq] at h1; omega
theorem inter_iv {w : List Int} {n x y : Nat} (h : Word w n) (hx : x < n) (hy : y < n) (e : x ≠ y) : interT w x y = (iv (pp w x) (qq w x) (pp w y) ^^ iv (pp w x) (qq w x) (qq w y)) := by
  have A := h.lt hx; have B := h.lt hy
  obtain ⟨k1, k2, k3, k4⟩ := pl_ne h hx hy e
  rw [inter_places h hx hy A.pl B.pl A.pq A.hq B.pq B.hq A.wp A.wq B.wp B.wq B.all, decide_eq_true (p := (x : Int) ≠ y) (by omega), Bool.true_and]
  have hi : ∀ a, pp w x ≠ a → (decide ((pp w x : Int) < (a : Int)) && decide ((a : Int) < qq w x)) = iv (pp w x) (qq w x) a := fun a ha => by
    unfold iv; congr 1 <;> rw [decide_eq_decide] <;> omega
  rw [hi _ k1, hi _ k2]
theorem cmn_self {w : List Int} {n x : Nat} (h : Word w n) (hx : x < n) : decide (cmnK w x x n % 2 = 1) = ! decide ((qq w x - pp w x) % 2 = 1) := by
  have A := h.lt hx
  have hpq := A.pq; have hq := A.hq
  have h1 : xs (fun a => iv (pp w x) (qq w x) a && true) (2 * n) = decide ((qq w x - pp w x) % 2 = 1) := by
    rw [xs_range (f := fun _ => true) (by omega) (by omega), xs_true, xs_true]
    by_cases e1 : qq w x % 2 = 1 <;> by_cases e2 : pp w x % 2 = 1 <;> simp [e1, e2] <;> omega
  rw [← xs_cmn, ← h1, xs_pos h]
  have h2 : xs (fun u => decide (u = x) && true) n = true := by rw [xs_one (g := fun _ => true), decide_eq_true hx]; rfl
  have h3 : xs (fun u => interT w x u && interT w x u) n = xs (fun u => ((iv (pp w x) (qq w x) (pp w u) && true) ^^ (iv (pp w x) (qq w x) (qq w u) && true)) ^^ (decide (u = x) && true)) n := xs_congr fun u hu => by
    by_cases e : u = x
    · subst e
      rw [inter_self, show iv (pp w u) (qq w u) (pp w u) = true by unfold iv; simp; omega, show iv (pp w u) (qq w u) (qq w u) = false by unfold iv; simp]; simp
    · rw [inter_iv h hx hu (fun k => e k.symm), decide_eq_false e]; simp
  rw [h3, xs_xor, h2]
  cases xs (fun u => (iv (pp w x) (qq w x) (pp w u) && true) ^^ (iv (pp w x) (qq w x) (qq w u) && true)) n <;> rfl
end Go.Scr
/- Which sets of edges are borders of closed sets of steps. No condition. -/
namespace Go.Scr
set_option linter.unusedVariables false
set_option linter.unusedSimpArgs false

def tn (w s : List Int) (n : Nat) (z : Nat → Bool) (a : Nat) : Bool :=
  if a = pp w (w.getD a 0).toNat then (if s.getD (w.getD a 0).toNat 0 = 1 then z (bf n (qq w (w.getD a 0).toNat)) else z (qq w (w.getD a 0).toNat))
  else (if s.getD (w.getD a 0).toNat 0 = 1 then z (pp w (w.getD a 0).toNat) else z (bf n (pp w (w.getD a 0).toNat)))
theorem tn_p {w s : List Int} {n x : Nat} (H : Lt w n x) (z : Nat → Bool) : tn w s n z (pp w x) = if s.getD x 0 = 1 then z (bf n (qq w x)) else z (qq w x) := by
  unfold tn; rw [H.wp, Int.toNat_natCast, if_pos rfl]
theorem tn_q {w s : List Int} {n x : Nat} (H : Lt w n x) (z : Nat → Bool) : tn w s n z (qq w x) = if s.getD x 0 = 1 then z (pp w x) else z (bf n (pp w x)) := by
  have := H.pq
  unfold tn; rw [H.wq, Int.toNat_natCast, if_neg (by omega)]
def Ev (w : List Int) (n : Nat) (z : Nat → Bool) : Prop := ∀ x, x < n → (z (bf n (pp w x)) ^^ z (pp w x) ^^ z (bf n (qq w x)) ^^ z (qq w x)) = false
structure Bd (w s : List Int) (n : Nat) (z : Nat → Bool) : Prop where
  full : xs (tn w s n z) (2 * n) = false
  cross : ∀ x, x < n → (xs (tn w s n z) (pp w x) ^^ xs (tn w s n z) (qq w x)) = if s.getD x 0 = 1 then z (bf n (qq w x)) else z (bf n (pp w x))
def Brd (w s : List Int) (n : Nat) (z : Nat → Bool) : Prop := ∃ X, Cl (nextT w s) (2 * n) X ∧ ∀ e : Nat, e < 2 * n → z e = (X (e : Int) ^^ X (-1 - (e : Int)))
theorem cr_at {w s : List Int} {n : Nat} (h : Word w n) (hs : s.all (fun x => decide (x = 1) || decide (x = -1)) = true) (hl : s.length = n) {x : Nat} (hx : x < n) : Cr w s n x (pp w x) (qq w x) := by
  obtain ⟨p, q, C⟩ := cr_of h hs hl hx
  have e1 := C.pp; have e2 := C.qq
  subst e1; subst e2; exact C
theorem bd_of {w s : List Int} {n : Nat} (h : Word w n) (hs : s.all (fun x => decide (x = 1) || decide (x = -1)) = true) (hl : s.length = n) {z : Nat → Bool} (hb : Brd w s n z) : Bd w s n z := by
  obtain ⟨X, hX, hz⟩ := hb
  have hpos := h.pos
  have st : ∀ a, a < 2 * n → X (a : Nat) = (X (bf n a : Nat) ^^ tn w s n z a) := fun a ha => by
    have hw := h.rg a ha
    have hx : (w.getD a 0).toNat < n := by omega
    have H := h.lt hx
    have C := cr_at h hs hl hx
    have hpq := C.pq; have hq := C.hq
    have bp := bf_lt (n := n) (a := pp w (w.getD a 0).toNat) (by omega)
    have bq := bf_lt (n := n) (a := qq w (w.getD a 0).toNat) (by omega)
    have e1 := hX (bf n (pp w (w.getD a 0).toNat) : Nat) (by omega) (by omega)
    have e2 := hX (-1 - (pp w (w.getD a 0).toNat : Int)) (by omega) (by omega)
    have e3 := hX (bf n (qq w (w.getD a 0).toNat) : Nat) (by omega) (by omega)
    have e4 := hX (-1 - (qq w (w.getD a 0).toNat : Int)) (by omega) (by omega)
    have g1 := hz _ bp; have g2 := hz _ bq; have g3 := hz (pp w (w.getD a 0).toNat) (by omega); have g4 := hz (qq w (w.getD a 0).toNat) (by omega)
    have t1 := tn_p (s := s) H z; have t2 := tn_q (s := s) H z
    have hall := C.all a ha (by omega)
    generalize (w.getD a 0).toNat = x at *
    rcases C.nx with ⟨v0, v1, v2, v3, v4⟩ | ⟨v0, v1, v2, v3, v4⟩ <;> rw [v1] at e1 <;> rw [v2] at e2 <;> rw [v3] at e3 <;> rw [v4] at e4 <;> rw [v0] at t1 t2 <;> simp only [if_true, show ¬ ((-1 : Int) = 1) by decide, if_false] at t1 t2 <;>
      rcases hall with e | e <;> rw [e] <;> first | rw [t1] | rw [t2]
    all_goals
      revert e1 e2 e3 e4 g1 g2 g3 g4
      generalize X (pp w x : Nat) = a1; generalize X (qq w x : Nat) = a2; generalize X (-1 - (pp w x : Int)) = a3; generalize X (-1 - (qq w x : Int)) = a4
      generalize X (bf n (pp w x) : Nat) = b1; generalize X (bf n (qq w x) : Nat) = b2; generalize X (-1 - (bf n (pp w x) : Int)) = b3; generalize X (-1 - (bf n (qq w x) : Int)) = b4
      generalize z (pp w x) = z1; generalize z (qq w x) = z2; generalize z (bf n (pp w x)) = z3; generalize z (bf n (qq w x)) = z4
      rintro rfl rfl rfl rfl rfl rfl rfl rfl
      first | exact (by decide : ∀ a b : Bool, b = (a ^^ (b ^^ a))) _ _ | exact (by decide : ∀ a b : Bool, b = (a ^^ (a ^^ b))) _ _ | simp
  have st2 : ∀ k, k ≤ 2 * n → X (bf n k : Nat) = (X (bf n 0 : Nat) ^^ xs (tn w s n z) k) := by
    intro k
    induction k with
    | zero => intro _; simp [xs]
    | succ k ih =>
      intro hk
      rw [show bf n (k + 1) = k by unfold bf; rw [if_neg (by omega)]; omega, st k (by omega), ih (by omega), xs]
      cases X (bf n 0 : Nat) <;> cases xs (tn w s n z) k <;> simp
  refine ⟨?_, fun x hx => ?_⟩
  · have := st2 (2 * n) (Nat.le_refl _)
    rw [show bf n (2 * n) = bf n 0 by unfold bf; rw [if_neg (by omega), if_pos rfl]] at this
    revert this
    cases X (bf n 0 : Nat) <;> cases xs (tn w s n z) (2 * n) <;> simp
  · have C := cr_at h hs hl hx
    have hpq := C.pq; have hq := C.hq
    have bp := bf_lt (n := n) (a := pp w x) (by omega)
    have bq := bf_lt (n := n) (a := qq w x) (by omega)
    have e1 := hX (bf n (pp w x) : Nat) (by omega) (by omega)
    have e3 := hX (bf n (qq w x) : Nat) (by omega) (by omega)
    have g1 := hz _ bp; have g2 := hz _ bq
    have k1 := st2 (pp w x) (by omega); have k2 := st2 (qq w x) (by omega)
    rcases C.nx with ⟨v0, v1, v2, v3, v4⟩ | ⟨v0, v1, v2, v3, v4⟩ <;> rw [v1] at e1 <;> rw [v3] at e3 <;> rw [v0]
    · rw [if_pos rfl, g2, ← e1, k1, k2]
      cases X (bf n 0 : Nat) <;> cases xs (tn w s n z) (pp w x) <;> cases xs (tn w s n z) (qq w x) <;> rfl
    · rw [if_neg (by decide), g1, ← e3, k1, k2]
      cases X (bf n 0 : Nat) <;> cases xs (tn w s n z) (pp w x) <;> cases xs (tn w s n z) (qq w x) <;> rfl
theorem of_bd {w s : List Int} {n : Nat} (h : Word w n) (hs : s.all (fun x => decide (x = 1) || decide (x = -1)) = true) (hl : s.length = n) {z : Nat → Bool} (hv : Ev w n z) (hb : Bd w s n z) : Brd w s n z := by
  have hpos := h.pos
  obtain ⟨X, hXd⟩ : ∃ X : Int → Bool, X = fun st => if 0 ≤ st then xs (tn w s n z) (st.toNat + 1) else (xs (tn w s n z) ((-1 - st).toNat + 1) ^^ z (-1 - st).toNat) := ⟨_, rfl⟩
  have x1 : ∀ e : Nat, X (e : Int) = xs (tn w s n z) (e + 1) := fun e => by
    rw [hXd]; dsimp only; rw [if_pos (by omega), Int.toNat_natCast]
  have x2 : ∀ e : Nat, X (-1 - (e : Int)) = (xs (tn w s n z) (e + 1) ^^ z e) := fun e => by
    rw [hXd]; dsimp only; rw [if_neg (by omega), show (-1 - (-1 - (e : Int))).toNat = e by omega]
  have x3 : ∀ a, a < 2 * n → xs (tn w s n z) (bf n a + 1) = xs (tn w s n z) a := fun a ha => by
    unfold bf
    by_cases e : a = 0
    · subst e; rw [if_pos rfl, show 2 * n - 1 + 1 = 2 * n by omega, hb.full]; rfl
    · rw [if_neg e, show a - 1 + 1 = a by omega]
  refine ⟨X, fun st h0 h1 => ?_, fun e he => ?_⟩
  · have ha := atT_lt (m := 2 * n) (by omega) h0 h1
    obtain ⟨a, hae⟩ : ∃ a : Nat, atT (2 * n) st = a := ⟨(atT (2 * n) st).toNat, by omega⟩
    have ha2 : a < 2 * n := by omega
    have hw := h.rg a ha2
    obtain ⟨x, hx⟩ : ∃ x, x = (w.getD a 0).toNat := ⟨_, rfl⟩
    have hxn : x < n := by omega
    have H := h.lt hxn
    have C := cr_at h hs hl hxn
    have hpq := C.pq; have hq := C.hq
    have t1 := tn_p (s := s) H z; have t2 := tn_q (s := s) H z
    have hc := hb.cross x hxn
    have he := hv x hxn
    have y1 := x3 (pp w x) (by omega); have y2 := x3 (qq w x) (by omega)
    have s1 : xs (tn w s n z) (pp w x + 1) = (xs (tn w s n z) (pp w x) ^^ tn w s n z (pp w x)) := rfl
    have s2 : xs (tn w s n z) (qq w x + 1) = (xs (tn w s n z) (qq w x) ^^ tn w s n z (qq w x)) := rfl
    have hst := at_cases ha2 h0 h1 hae
    have hap := H.all a ha2 (by omega)
    rcases C.nx with ⟨v0, v1, v2, v3, v4⟩ | ⟨v0, v1, v2, v3, v4⟩ <;> rw [v0] at t1 t2 hc <;> simp only [if_true, show ¬ ((-1 : Int) = 1) by decide, if_false] at t1 t2 hc <;>
      rcases hap with e | e <;> rw [e] at hst <;> rcases hst with e' | e' <;> rw [e'] <;> first | rw [v1] | rw [v2] | rw [v3] | rw [v4]
    all_goals
      simp only [x1, x2, y1, y2, s1, s2, t1, t2]
      revert hc he
      generalize xs (tn w s n z) (pp w x) = a1; generalize xs (tn w s n z) (qq w x) = a2
      generalize z (pp w x) = z1; generalize z (qq w x) = z2; generalize z (bf n (pp w x)) = z3; generalize z (bf n (qq w x)) = z4
      revert a1 a2 z1 z2 z3 z4
      decide
  · rw [x1, x2]; cases xs (tn w s n z) (e + 1) <;> simp
end Go.Scr
/- The borders of a letter's loop and of all edges. No condition. -/
namespace Go.Scr
set_option linter.unusedVariables false
set_option linter.unusedSimpArgs false

theorem xs_iv {p q m : Nat} (h : p ≤ q) (hm : q ≤ m) : xs (fun a => iv p q a) m = decide ((q - p) % 2 = 1) := by
  rw [xs_congr (g := fun a => iv p q a && true) fun i _ => (Bool.and_true _).symm, xs_range (f := fun _ => true) h hm, xs_true, xs_true]
  by_cases e1 : q % 2 = 1 <;> by_cases e2 : p % 2 = 1 <;> simp [e1, e2] <;> omega
theorem xs_iv2 {p q r t m : Nat} (hq : q ≤ m) (ht : t ≤ m) : xs (fun a => iv p q a && iv r t a) m = decide ((min q t - max p r) % 2 = 1) := by
  by_cases e : max p r ≤ min q t
  · rw [← xs_iv e (m := m) (by omega)]
    refine xs_congr fun i _ => ?_
    unfold iv
    rw [show decide (max p r ≤ i) = (decide (p ≤ i) && decide (r ≤ i)) by rw [← Bool.decide_and, decide_eq_decide]; omega, show decide (i < min q t) = (decide (i < q) && decide (i < t)) by rw [← Bool.decide_and, decide_eq_decide]; omega]
    cases decide (p ≤ i) <;> cases decide (r ≤ i) <;> cases decide (i < q) <;> cases decide (i < t) <;> rfl
  · rw [xs_congr (g := fun _ => false) fun i _ => ?_, xs_false, decide_eq_false (by omega)]
    unfold iv
    rw [← Bool.decide_and, ← Bool.decide_and, ← Bool.decide_and, decide_eq_false (by omega)]
theorem iv_bf {n p q a : Nat} (hp : a ≠ p) (hq : a ≠ q) (h : a < 2 * n) (hpq : p < q) (hqn : q < 2 * n) : iv p q (bf n a) = iv p q a := by
  unfold iv bf
  rw [← Bool.decide_and, ← Bool.decide_and, decide_eq_decide]
  split <;> omega
section
variable {w s : List Int} {n : Nat}
theorem iv_p {p q : Nat} (h : p < q) : iv p q p = true := by unfold iv; simp; omega
theorem iv_q {p q : Nat} : iv p q q = false := by unfold iv; simp
theorem iv_bp {p q : Nat} (h : p < q) (hq : q < 2 * n) : iv p q (bf n p) = false := by
  unfold iv bf; rw [← Bool.decide_and, decide_eq_false]; split <;> omega
theorem iv_bq {p q : Nat} (h : p < q) (hq : q < 2 * n) : iv p q (bf n q) = true := by
  unfold iv bf; rw [← Bool.decide_and, decide_eq_true]; rw [if_neg (by omega)]; omega
def zL (w : List Int) (x : Nat) : Nat → Bool := fun e => iv (pp w x) (qq w x) e
theorem zL_p (h : Word w n) {x u : Nat} (hx : x < n) (hu : u < n) (e : u ≠ x) : zL w x (bf n (pp w u)) = zL w x (pp w u) := by
  obtain ⟨k1, k2, k3, k4⟩ := pl_ne h hu hx e
  have H := h.lt hx; have U := h.lt hu
  have := U.pq; have := U.hq
  exact iv_bf k1 k2 (by omega) H.pq H.hq
theorem zL_q (h : Word w n) {x u : Nat} (hx : x < n) (hu : u < n) (e : u ≠ x) : zL w x (bf n (qq w u)) = zL w x (qq w u) := by
  obtain ⟨k1, k2, k3, k4⟩ := pl_ne h hu hx e
  have H := h.lt hx; have U := h.lt hu
  exact iv_bf k3 k4 U.hq H.pq H.hq
theorem ev_zL (h : Word w n) {x : Nat} (hx : x < n) : Ev w n (zL w x) := fun u hu => by
  by_cases e : u = x
  · subst e
    have H := h.lt hu
    unfold zL
    rw [iv_bp H.pq H.hq, iv_p H.pq, iv_bq H.pq H.hq, iv_q]; rfl
  · rw [zL_p h hx hu e, zL_q h hx hu e]
    cases zL w x (pp w u) <;> cases zL w x (qq w u) <;> rfl
theorem ev_all : Ev w n fun _ => true := fun u hu => rfl
theorem tn_all {a : Nat} : tn w s n (fun _ => true) a = true := by unfold tn; split <;> split <;> rfl
theorem bd_all (h : Word w n) : Bd w s n (fun _ => true) ↔ ∀ x, x < n → (qq w x - pp w x) % 2 = 1 := by
  have e : ∀ k, xs (tn w s n fun _ => true) k = decide (k % 2 = 1) := fun k => by rw [← xs_true]; exact xs_congr fun i _ => tn_all
  constructor
  · intro hb x hx
    have H := h.lt hx
    have hpq := H.pq
    have := hb.cross x hx
    rw [e, e] at this
    have h2 : (decide (pp w x % 2 = 1) ^^ decide (qq w x % 2 = 1)) = true := by rw [this]; split <;> rfl
    by_cases e1 : qq w x % 2 = 1 <;> by_cases e2 : pp w x % 2 = 1 <;> simp [e1, e2] at h2 <;> omega
  · intro ho
    refine ⟨by rw [e, decide_eq_false (by omega)], fun x hx => ?_⟩
    have H := h.lt hx
    have hpq := H.pq
    have := ho x hx
    rw [e, e, show (if s.getD x 0 = 1 then true else true) = true by split <;> rfl]
    by_cases e1 : qq w x % 2 = 1 <;> by_cases e2 : pp w x % 2 = 1 <;> simp [e1, e2] <;> omega
theorem tn_x (h : Word w n) {x : Nat} (hx : x < n) : tn w s n (zL w x) (pp w x) = decide (s.getD x 0 = 1) ∧ tn w s n (zL w x) (qq w x) = decide (s.getD x 0 = 1) := by
  have H := h.lt hx
  rw [tn_p H, tn_q H]
  unfold zL
  rw [iv_bp H.pq H.hq, iv_p H.pq, iv_bq H.pq H.hq, iv_q]
  by_cases e : s.getD x 0 = 1 <;> simp [e]
theorem tn_u (h : Word w n) {x u : Nat} (hx : x < n) (hu : u < n) (e : u ≠ x) : tn w s n (zL w x) (pp w u) = zL w x (qq w u) ∧ tn w s n (zL w x) (qq w u) = zL w x (pp w u) := by
  have U := h.lt hu
  rw [tn_p U, tn_q U, zL_p h hx hu e, zL_q h hx hu e]
  exact ⟨by split <;> rfl, by split <;> rfl⟩
theorem full_zL (h : Word w n) {x : Nat} (hx : x < n) : xs (tn w s n (zL w x)) (2 * n) = ! decide ((qq w x - pp w x) % 2 = 1) := by
  have H := h.lt hx
  have hpq := H.pq; have hq := H.hq
  rw [← xs_iv (m := 2 * n) (by omega) (by omega), xs_pos h, xs_pos h]
  have h2 : xs (fun u => decide (u = x) && true) n = true := by rw [xs_one (g := fun _ => true), decide_eq_true hx]; rfl
  rw [xs_congr (g := fun u => (iv (pp w x) (qq w x) (pp w u) ^^ iv (pp w x) (qq w x) (qq w u)) ^^ (decide (u = x) && true)) fun u hu => ?_, xs_xor, h2]
  · cases xs (fun u => iv (pp w x) (qq w x) (pp w u) ^^ iv (pp w x) (qq w x) (qq w u)) n <;> rfl
  · by_cases e : u = x
    · subst e
      rw [(tn_x h hx).1, (tn_x h hx).2, iv_p H.pq, iv_q]; simp
    · rw [(tn_u h hx hu e).1, (tn_u h hx hu e).2, decide_eq_false e]
      unfold zL
      cases iv (pp w x) (qq w x) (pp w u) <;> cases iv (pp w x) (qq w x) (qq w u) <;> rfl
theorem cross_x (h : Word w n) {x : Nat} (hx : x < n) : (xs (tn w s n (zL w x)) (pp w x) ^^ xs (tn w s n (zL w x)) (qq w x)) = if s.getD x 0 = 1 then zL w x (bf n (qq w x)) else zL w x (bf n (pp w x)) := by
  have H := h.lt hx
  have hpq := H.pq; have hq := H.hq
  have h1 := xs_range (f := tn w s n (zL w x)) (r := pp w x) (s := qq w x) (k := 2 * n) (by omega) (by omega)
  have h2 : xs (fun a => iv (pp w x) (qq w x) a && tn w s n (zL w x) a) (2 * n) = decide (s.getD x 0 = 1) := by
    rw [xs_pos h, xs_congr (g := fun u => decide (u = x) && decide (s.getD x 0 = 1)) fun u hu => ?_, xs_one (g := fun _ => decide (s.getD x 0 = 1)), decide_eq_true hx, Bool.true_and]
    by_cases e : u = x
    · subst e
      rw [(tn_x h hx).1, (tn_x h hx).2, iv_p H.pq, iv_q]; simp
    · rw [(tn_u h hx hu e).1, (tn_u h hx hu e).2, decide_eq_false e]
      unfold zL
      cases iv (pp w x) (qq w x) (pp w u) <;> cases iv (pp w x) (qq w x) (qq w u) <;> rfl
  rw [Bool.xor_comm, ← h1, h2]
  unfold zL
  rw [iv_bp H.pq H.hq, iv_bq H.pq H.hq]
  by_cases e : s.getD x 0 = 1 <;> simp [e]
theorem cross_y (h : Word w n) {x y : Nat} (hx : x < n) (hy : y < n) (e : x ≠ y) : (xs (tn w s n (zL w x)) (pp w y) ^^ xs (tn w s n (zL w x)) (qq w y)) =
    (decide (cmnK w x y n % 2 = 1) ^^ decide ((min (qq w x) (qq w y) - max (pp w x) (pp w y)) % 2 = 1) ^^ (decide (s.getD x 0 = 1) && interT w x y) ^^ iv (pp w y) (qq w y) (pp w x) ^^ interT w x y) := by
  have H := h.lt hx; have Y := h.lt hy
  have hpq := H.pq; have hq := H.hq; have hrt := Y.pq; have ht := Y.hq
  have h1 := xs_range (f := tn w s n (zL w x)) (r := pp w y) (s := qq w y) (k := 2 * n) (by omega) (by omega)
  have i1 := inter_iv h hx hy e
  have i2 := inter_iv h hy hx e.symm
  rw [inter_symm h hy hx] at i2
  rw [Bool.xor_comm, ← h1, xs_pos h, ← xs_iv2 (m := 2 * n) (p := pp w x) (r := pp w y) (by omega) (by omega), ← xs_cmn, xs_pos h]
  rw [xs_congr (g := fun u => (((interT w x u && interT w y u) ^^ ((iv (pp w x) (qq w x) (pp w u) && iv (pp w y) (qq w y) (pp w u)) ^^ (iv (pp w x) (qq w x) (qq w u) && iv (pp w y) (qq w y) (qq w u)))) ^^
    (decide (u = x) && ((decide (s.getD x 0 = 1) && interT w x y) ^^ iv (pp w y) (qq w y) (pp w x)))) ^^ (decide (u = y) && interT w x y)) fun u hu => ?_, xs_xor, xs_xor, xs_xor,
    xs_one (g := fun _ => (decide (s.getD x 0 = 1) && interT w x y) ^^ iv (pp w y) (qq w y) (pp w x)), xs_one (g := fun _ => interT w x y), decide_eq_true hx, decide_eq_true hy, Bool.true_and, Bool.true_and]
  · simp [Bool.xor_assoc]
  · by_cases e1 : u = x
    · subst e1
      rw [(tn_x h hx).1, (tn_x h hx).2, iv_p H.pq, iv_q, inter_self, decide_eq_false e, i2]
      cases iv (pp w y) (qq w y) (pp w u) <;> cases iv (pp w y) (qq w y) (qq w u) <;> cases decide (s.getD u 0 = 1) <;> simp
    · by_cases e2 : u = y
      · subst e2
        rw [(tn_u h hx hu e1).1, (tn_u h hx hu e1).2, iv_p Y.pq, iv_q, inter_self, decide_eq_false e1, i1]
        unfold zL
        cases iv (pp w x) (qq w x) (pp w u) <;> cases iv (pp w x) (qq w x) (qq w u) <;> simp
      · rw [(tn_u h hx hu e1).1, (tn_u h hx hu e1).2, decide_eq_false e1, decide_eq_false e2, inter_iv h hx hu (fun k => e1 k.symm), inter_iv h hy hu (fun k => e2 k.symm)]
        unfold zL
        cases iv (pp w x) (qq w x) (pp w u) <;> cases iv (pp w x) (qq w x) (qq w u) <;> cases iv (pp w y) (qq w y) (pp w u) <;> cases iv (pp w y) (qq w y) (qq w u) <;> rfl
end
end Go.Scr
/- Plane words: the three conditions. No condition. -/
namespace Go.Scr
set_option linter.unusedVariables false
set_option linter.unusedSimpArgs false

def dd (w s : List Int) (x : Nat) : Bool := decide (s.getD x 0 = 1) ^^ decide (pp w x % 2 = 1)
theorem cross_iff {w s : List Int} {n x y : Nat} (h : Word w n) (hx : x < n) (hy : y < n) (e : x ≠ y) (ox : (qq w x - pp w x) % 2 = 1) (oy : (qq w y - pp w y) % 2 = 1) :
    ((xs (tn w s n (zL w x)) (pp w y) ^^ xs (tn w s n (zL w x)) (qq w y)) = if s.getD y 0 = 1 then zL w x (bf n (qq w y)) else zL w x (bf n (pp w y))) ↔
    (if interT w x y = true then (dd w s x ^^ dd w s y) = eD w n x y else cmnK w x y n % 2 = 0) := by
  have H := h.lt hx; have Y := h.lt hy
  have hpq := H.pq; have hq := H.hq; have hrt := Y.pq; have ht := Y.hq
  obtain ⟨k1, k2, k3, k4⟩ := pl_ne h hx hy e
  rw [cross_y h hx hy e, zL_p h hx hy e.symm, zL_q h hx hy e.symm, inter_iv h hx hy e]
  unfold zL dd eD
  generalize pp w x = p at *; generalize qq w x = q at *; generalize pp w y = r at *; generalize qq w y = t at *
  have c : decide (cmnK w x y n % 2 = 0) = ! decide (cmnK w x y n % 2 = 1) := by
    by_cases e : cmnK w x y n % 2 = 1
    · rw [decide_eq_true e, decide_eq_false (by omega)]; rfl
    · rw [decide_eq_false e, decide_eq_true (by omega)]; rfl
  have c2 : cmnK w x y n % 2 = 0 ↔ decide (cmnK w x y n % 2 = 1) = false := by rw [decide_eq_false_iff_not]; omega
  rw [c, c2]
  have f1 : iv p q r = decide (p < r ∧ r < q) := by unfold iv; rw [← Bool.decide_and, decide_eq_decide]; omega
  have f2 : iv p q t = decide (p < t ∧ t < q) := by unfold iv; rw [← Bool.decide_and, decide_eq_decide]; omega
  have f3 : iv r t p = decide (r < p ∧ p < t) := by unfold iv; rw [← Bool.decide_and, decide_eq_decide]; omega
  rw [f1, f2, f3]
  generalize decide (cmnK w x y n % 2 = 1) = cc
  have hsx : ∃ a, a = decide (s.getD x 0 = 1) := ⟨_, rfl⟩
  obtain ⟨a, ha⟩ := hsx
  rw [← ha]
  have hsy : (if s.getD y 0 = 1 then decide (p < t ∧ t < q) else decide (p < r ∧ r < q)) = if decide (s.getD y 0 = 1) = true then decide (p < t ∧ t < q) else decide (p < r ∧ r < q) := by simp
  rw [hsy]
  generalize decide (s.getD y 0 = 1) = b
  have hM : decide ((min q t - max p r) % 2 = 1) = if (p < r ∧ r < q) ∧ ¬ (p < t ∧ t < q) ∨ ¬ (p < r ∧ r < q) ∧ (p < t ∧ t < q) then decide (p % 2 = 1) ^^ decide (r % 2 = 1) ^^ true else if q < r ∨ t < p then false else true := by
    by_cases e1 : p % 2 = 1 <;> by_cases e2 : r % 2 = 1 <;> simp only [e1, e2, decide_true, decide_false] <;> (repeat' split) <;>
      first | exact decide_eq_true (by omega) | exact decide_eq_false (by omega)
  rw [hM]
  generalize decide (p % 2 = 1) = bp
  generalize decide (r % 2 = 1) = br
  clear hM hsy ha
  by_cases g1 : p < r <;> by_cases g2 : r < q <;> by_cases g3 : p < t <;> by_cases g4 : t < q <;> by_cases g5 : r < p <;> by_cases g6 : p < t <;> by_cases g7 : q < r <;> by_cases g8 : t < p <;>
    first | (exfalso; omega) | (simp only [g1, g2, g3, g4, g5, g6, g7, g8]; revert cc a b bp br; decide)
/-- What the three conditions ask, by the positions' parities. -/
theorem C1_iff {w : List Int} {n x : Nat} (h : Word w n) (hx : x < n) : C1 w n x ↔ (qq w x - pp w x) % 2 = 1 := by
  have := cmn_self h hx
  unfold C1
  by_cases e1 : cmnK w x x n % 2 = 1 <;> by_cases e2 : (qq w x - pp w x) % 2 = 1 <;> simp [e1, e2] at this ⊢ <;> omega
structure Pl (w s : List Int) (n : Nat) : Prop where
  c1 : ∀ a, a < n → C1 w n a
  c2 : ∀ a b, b < a → a < n → C2 w n a b
  va : Valid n (gD w) (eD w n) (dd w s)
theorem Pl.drawn {w s : List Int} {n : Nat} (h : Pl w s n) : DrawnP w n := ⟨h.c1, h.c2, _, h.va⟩
theorem pl_of {w s : List Int} {n : Nat} (h : Word w n) (hs : s.all (fun x => decide (x = 1) || decide (x = -1)) = true) (hl : s.length = n) (hb : ∀ z, Ev w n z → Brd w s n z) : Pl w s n := by
  have ho := (bd_all h).1 (bd_of h hs hl (hb _ ev_all))
  have hc : ∀ x y, x < n → y < n → x ≠ y → (if interT w x y = true then (dd w s x ^^ dd w s y) = eD w n x y else cmnK w x y n % 2 = 0) := fun x y hx hy e =>
    (cross_iff h hx hy e (ho x hx) (ho y hy)).1 ((bd_of h hs hl (hb _ (ev_zL h hx))).cross y hy)
  refine ⟨fun a ha => (C1_iff h ha).2 (ho a ha), fun a b hba ha hi => ?_, fun x y hx hy hg => ?_⟩
  · have := hc a b ha (by omega) (by omega)
    rwa [hi, if_neg (by decide)] at this
  · have e : x ≠ y := fun e => by subst e; rw [gD_self] at hg; exact absurd hg (by decide)
    have := hc x y hx hy e
    rwa [show interT w x y = true from hg, if_pos rfl] at this
theorem brd_all {w s : List Int} {n : Nat} (h : Word w n) (hs : s.all (fun x => decide (x = 1) || decide (x = -1)) = true) (hl : s.length = n) (hp : Pl w s n) : Brd w s n fun _ => true :=
  of_bd h hs hl ev_all ((bd_all h).2 fun x hx => (C1_iff h hx).1 (hp.c1 x hx))
theorem brd_zL {w s : List Int} {n x : Nat} (h : Word w n) (hs : s.all (fun x => decide (x = 1) || decide (x = -1)) = true) (hl : s.length = n) (hp : Pl w s n) (hx : x < n) : Brd w s n (zL w x) := by
  have ho : ∀ x, x < n → (qq w x - pp w x) % 2 = 1 := fun x hx => (C1_iff h hx).1 (hp.c1 x hx)
  refine of_bd h hs hl (ev_zL h hx) ⟨by rw [full_zL h hx, decide_eq_true (ho x hx)]; rfl, fun y hy => ?_⟩
  by_cases e : x = y
  · subst e; exact cross_x h hx
  · refine (cross_iff h hx hy e (ho x hx) (ho y hy)).2 ?_
    cases hi : interT w x y with
    | true => rw [if_pos rfl]; exact hp.va x y hx hy hi
    | false =>
      rw [if_neg (by decide)]
      by_cases g : y < x
      · exact hp.c2 x y g hx hi
      · rw [cmnK_symm]; exact hp.c2 y x (by omega) hy (by rwa [inter_symm h hy hx])
/-- Where there are n + 2 faces, each even set of edges is a border. -/
theorem brd_of_max {w s : List Int} {n : Nat} (h : Word w n) (hs : s.all (fun x => decide (x = 1) || decide (x = -1)) = true) (hl : s.length = n) (hg : (facesT (nextT w s) (2 * n)).length = n + 2) {z : Nat → Bool} (hv : Ev w n z) : Brd w s n z := by
  have hpos := h.pos
  obtain ⟨f0, fs, hF⟩ := faces_cons h hs hl
  have H := facesT_FK (next_pn h hs hl)
  rw [hF] at H hg
  simp only [List.length_cons] at hg
  obtain ⟨c, h1, h2, h3⟩ := dep (2 * n) (z :: (fs.map dv ++ (tree w n).map uv)) (by simp [tree_len h]; omega)
  match c, h1, h2, h3 with
  | [], h1, _, _ => simp at h1
  | c0 :: c, h1, h2, h3 => ?_
  simp only [List.length_cons, List.length_append, List.length_map, Nat.add_right_cancel_iff] at h1
  have hc : c = c.take fs.length ++ c.drop fs.length := (List.take_append_drop _ _).symm
  have l1 : (c.take fs.length).length = fs.length := by simp; omega
  have l2 : (c.drop fs.length).length = (tree w n).length := by simp; omega
  generalize c.take fs.length = c1 at *
  generalize c.drop fs.length = c2 at *
  subst hc
  have h4 : ∀ e, e < 2 * n → ((c0 && z e) ^^ (comb c1 (fs.map dv) e ^^ comb c2 ((tree w n).map uv) e)) = false := fun e he => by
    have := h3 e he
    rw [comb, comb_app (by simpa using l1)] at this
    exact this
  cases c0 with
  | false =>
    have R := (rel h hs hl H (c0 := false) l1 l2 fun e he => by simpa using h4 e he).2 rfl
    simp at h2
    rcases h2 with g | g
    · exact absurd g R.1
    · exact absurd g R.2
  | true =>
    have hX : Cl (nextT w s) (2 * n) (comb c1 (fs.map ind)) := comb_cl fun f hf => H.fac f (by simp [hf])
    refine ⟨_, hX, fun e he => ?_⟩
    have hz := tree_zero h hs hl (z := fun e => z e ^^ (comb c1 (fs.map ind) (e : Int) ^^ comb c1 (fs.map ind) (-1 - (e : Int)))) (fun x p q hx C => by
      have g1 := even_at C hX (z := fun e => false ^^ (comb c1 (fs.map ind) (e : Int) ^^ comb c1 (fs.map ind) (-1 - (e : Int)))) (c := false) fun e => rfl
      have g2 := hv x hx
      rw [C.pp, C.qq] at g2
      simp only [Bool.false_xor] at g1
      revert g1 g2
      generalize (comb c1 (fs.map ind) ((bf n p : Nat) : Int) ^^ comb c1 (fs.map ind) (-1 - ((bf n p : Nat) : Int))) = a1
      generalize (comb c1 (fs.map ind) (p : Int) ^^ comb c1 (fs.map ind) (-1 - (p : Int))) = a2
      generalize (comb c1 (fs.map ind) ((bf n q : Nat) : Int) ^^ comb c1 (fs.map ind) (-1 - ((bf n q : Nat) : Int))) = a3
      generalize (comb c1 (fs.map ind) (q : Int) ^^ comb c1 (fs.map ind) (-1 - (q : Int))) = a4
      generalize z (bf n p) = z1; generalize z p = z2; generalize z (bf n q) = z3; generalize z q = z4
      revert a1 a2 a3 a4 z1 z2 z3 z4
      decide) (fun e he hn => by
      have := h4 e he
      rw [comb_uv hn, comb_dv] at this
      simpa using this) (2 * n) e he (by omega)
    revert hz
    cases z e <;> cases comb c1 (fs.map ind) (e : Int) <;> cases comb c1 (fs.map ind) (-1 - (e : Int)) <;> decide
theorem pl_of_max {w s : List Int} {n : Nat} (h : Word w n) (hs : s.all (fun x => decide (x = 1) || decide (x = -1)) = true) (hl : s.length = n) (hg : (facesT (nextT w s) (2 * n)).length = n + 2) : Pl w s n :=
  pl_of h hs hl fun z hv => brd_of_max h hs hl hg hv
end Go.Scr
/- The least genus: it is one of the signs', and no other is less. No condition. -/
namespace Go.Scr
set_option linter.unusedVariables false
set_option linter.unusedSimpArgs false
set_option linter.unusedSectionVars false

theorem leastK_in {n : Nat} {w : List Int} (hn : 1 ≤ n) : ∀ {k : Nat}, 1 ≤ k → ∃ j, j < k ∧ leastK n w k = (genusT n w (sgT n j), sgT n j)
  | k + 1, _ => by
    by_cases h : (leastK n w k).2 = [] ∨ genusT n w (sgT n k) < (leastK n w k).1
    · exact ⟨k, Nat.lt_succ_self k, leastK_yes h⟩
    · rw [leastK_no h]
      have hk : 1 ≤ k := by
        refine Nat.pos_of_ne_zero fun e => ?_
        subst e
        exact h (.inl rfl)
      obtain ⟨j, hj, e⟩ := leastK_in hn hk
      exact ⟨j, by omega, e⟩
theorem leastK_le {n : Nat} {w : List Int} (hn : 1 ≤ n) : ∀ {k j : Nat}, j < k → (leastK n w k).1 ≤ genusT n w (sgT n j)
  | k + 1, j, hj => by
    by_cases h : (leastK n w k).2 = [] ∨ genusT n w (sgT n k) < (leastK n w k).1
    · rw [leastK_yes h]
      by_cases e : j = k
      · subst e; exact Int.le_refl _
      · have hk : 1 ≤ k := by omega
        obtain ⟨i, _, he⟩ := leastK_in (w := w) hn hk
        have h1 := leastK_le (w := w) hn (k := k) (j := j) (by omega)
        rcases h with h | h
        · rw [he] at h
          have := congrArg List.length h
          rw [sgT_len] at this; simp at this; omega
        · exact Int.le_trans (Int.le_of_lt h) h1
    · rw [leastK_no h]
      by_cases e : j = k
      · subst e
        exact Int.not_lt.1 fun hl => h (.inr hl)
      · exact leastK_le hn (by omega)
theorem leastT_in {n : Nat} {w : List Int} (hn : 1 ≤ n) : ∃ j, j < 2 ^ n ∧ leastT n w = (genusT n w (sgT n j), sgT n j) := leastK_in hn Nat.one_le_two_pow
theorem leastT_le {n : Nat} {w : List Int} (hn : 1 ≤ n) {j : Nat} (hj : j < 2 ^ n) : (leastT n w).1 ≤ genusT n w (sgT n j) := leastK_le hn hj
/-- All signs are tried. -/
theorem sgT_of {n : Nat} : ∀ {s : List Int}, s.length = n → s.all (fun x => decide (x = 1) || decide (x = -1)) = true → ∃ j, j < 2 ^ n ∧ s = sgT n j := by
  intro s hl hs
  -- the number whose bits are the signs
  have key : ∀ (m : Nat) (t : List Int), t.length = m → t.all (fun x => decide (x = 1) || decide (x = -1)) = true → ∃ j, j < 2 ^ m ∧ ∀ i, i < m → t.getD i 0 = sgAt m j i := by
    intro m
    induction m with
    | zero => intro t _ _; exact ⟨0, by simp, by omega⟩
    | succ m ih =>
      intro t ht ha
      match t, ht, ha with
      | x :: r, ht, ha =>
        simp only [List.all_cons, Bool.and_eq_true, Bool.or_eq_true, decide_eq_true_eq] at ha
        obtain ⟨j, hj, hi⟩ := ih r (by simpa using ht) ha.2
        have tail : ∀ c, ∀ i, i < m → sgAt (m + 1) (2 ^ m * c + j) (i + 1) = sgAt m j i := fun c i him => by
          unfold sgAt bitT
          rw [show m + 1 - 1 - (i + 1) = m - 1 - i by omega]
          obtain ⟨b, hb⟩ : ∃ b, m = (m - 1 - i) + (b + 1) := ⟨i, by omega⟩
          have e : 2 ^ m * c = 2 ^ (m - 1 - i) * (2 * (2 ^ b * c)) := by
            conv => lhs; rw [hb]
            rw [Nat.pow_add, Nat.pow_succ, Nat.mul_assoc, Nat.mul_comm (2 ^ b) 2, Nat.mul_assoc]
          rw [e, Nat.mul_add_div (Nat.two_pow_pos _)]
          have : ∀ a b : Nat, (2 * a + b) % 2 = b % 2 := fun a b => by omega
          rw [this]
        have head : ∀ c, c ≤ 1 → bitT (2 ^ m * c + j) m = c := fun c hc => by
          unfold bitT
          rw [Nat.mul_add_div (Nat.two_pow_pos _), Nat.div_eq_of_lt hj]; omega
        rcases ha.1 with hx | hx
        · refine ⟨2 ^ m * 0 + j, by rw [Nat.pow_succ]; omega, fun i hi' => ?_⟩
          match i with
          | 0 => 
            show x = sgAt (m + 1) _ 0
            unfold sgAt
            rw [show m + 1 - 1 - 0 = m by omega, head 0 (by omega), hx]; rfl
          | i + 1 => rw [tail 0 i (by omega)]; exact hi i (by omega)
        · refine ⟨2 ^ m * 1 + j, by rw [Nat.pow_succ]; omega, fun i hi' => ?_⟩
          match i with
          | 0 =>
            show x = sgAt (m + 1) _ 0
            unfold sgAt
            rw [show m + 1 - 1 - 0 = m by omega, head 1 (by omega), hx]; rfl
          | i + 1 => rw [tail 1 i (by omega)]; exact hi i (by omega)
  obtain ⟨j, hj, hi⟩ := key n s hl hs
  refine ⟨j, hj, ?_⟩
  refine List.ext_getElem (by rw [sgT_len]; exact hl) fun i h1 h2 => ?_
  have h3 := hi i (by omega)
  have h4 := sgT_get (n := n) (k := j) (i := i) (by omega)
  simp only [List.getD_eq_getElem?_getD, List.getElem?_eq_getElem h1, List.getElem?_eq_getElem h2, Option.getD_some] at h3 h4
  rw [h3, h4]
/-- The least genus of a word is the least over all lists of signs. -/
theorem leastT_min {n : Nat} {w s : List Int} (hn : 1 ≤ n) (hl : s.length = n) (hs : s.all (fun x => decide (x = 1) || decide (x = -1)) = true) : (leastT n w).1 ≤ genusT n w s := by
  obtain ⟨j, hj, e⟩ := sgT_of hl hs
  rw [e]; exact leastT_le hn hj
end Go.Scr
/- Rosenstiehl's conditions make a word plane. No condition. -/
namespace Go.Scr
set_option linter.unusedVariables false
set_option linter.unusedSimpArgs false

theorem comb_range {α : Type} {f : Nat → α → Bool} {j : α} : ∀ {n : Nat} {cs : List Bool}, cs.length = n → comb cs ((List.range n).map f) j = xs (fun x => cs.getD x false && f x j) n
  | 0, cs, h => by
    have : cs = [] := List.length_eq_zero_iff.1 h
    subst this; rfl
  | n + 1, cs, h => by
    have e : cs = cs.take n ++ [cs.getD n false] := by
      have h1 : cs.take (n + 1) = cs := List.take_of_length_le (by omega)
      rw [List.take_add_one, List.getElem?_eq_getElem (by omega)] at h1
      rw [List.getD_eq_getElem?_getD, List.getElem?_eq_getElem (by omega)]
      exact h1.symm
    rw [List.range_succ, List.map_append]
    conv => lhs; rw [e]
    rw [comb_app (by simp; omega), comb_range (n := n) (by simp; omega), xs]
    congr 1
    · refine xs_congr fun i hi => ?_
      rw [List.getD_eq_getElem?_getD, List.getElem?_take, if_pos hi, List.getD_eq_getElem?_getD]
    · simp [comb]
theorem zero_all {nx : Int → Int} {m : Nat} (h : Pn nx m) {T : Int → Bool} (hT : Cl nx m T) (h0 : ∀ j, j < (facesT nx m).length → T (((facesT nx m).getD j []).getD 0 0) = false) : ∀ x, -(m : Int) ≤ x → x < m → T x = false := fun x g0 g1 => by
  have H := facesT_FK h
  have := H.all (x + m).toNat (by omega)
  rw [show (((x + m).toNat : Nat) : Int) - m = x by omega] at this
  obtain ⟨f, hf, hx⟩ := List.mem_flatten.1 this
  obtain ⟨i, hi, e⟩ := List.getElem_of_mem hf
  have ef : (facesT nx m).getD i [] = f := by rw [List.getD_eq_getElem?_getD, List.getElem?_eq_getElem hi]; simpa using e
  have := h0 i hi
  rw [ef] at this
  have k1 := (H.fac f hf).ch (fun x => ! T x) (fun x h0 h1 => by show (! T x) = (! T (nx x)); rw [hT x h0 h1]) (by show (! T _) = true; rw [this]; rfl) x hx
  simpa using k1
theorem max_of_pl {w s : List Int} {n : Nat} (h : Word w n) (hs : s.all (fun x => decide (x = 1) || decide (x = -1)) = true) (hl : s.length = n) (hp : Pl w s n) : (facesT (nextT w s) (2 * n)).length = n + 2 := by
  have hpos := h.pos
  refine Nat.le_antisymm (faces_le h hs hl) (Nat.le_of_not_lt fun hlt => ?_)
  have hpn := next_pn h hs hl
  obtain ⟨A, hA, hAb⟩ := brd_all h hs hl hp
  obtain ⟨B, hB⟩ : ∃ B : Nat → Int → Bool, ∀ x, x < n → Cl (nextT w s) (2 * n) (B x) ∧ ∀ e : Nat, e < 2 * n → zL w x e = (B x (e : Int) ^^ B x (-1 - (e : Int))) := by
    refine ⟨fun x => open Classical in if hx : x < n then (brd_zL h hs hl hp hx).choose else fun _ => false, fun x hx => ?_⟩
    dsimp only
    rw [dif_pos hx]
    exact (brd_zL h hs hl hp hx).choose_spec
  obtain ⟨hd, hhd⟩ : ∃ hd : Nat → Int, hd = fun j => ((facesT (nextT w s) (2 * n)).getD j []).getD 0 0 := ⟨_, rfl⟩
  obtain ⟨c, h1, h2, h3⟩ := dep (facesT (nextT w s) (2 * n)).length ((fun _ => true) :: (fun j => A (hd j)) :: (List.range n).map fun x j => B x (hd j)) (by simp; omega)
  match c, h1, h2, h3 with
  | [], h1, _, _ => simp at h1
  | [_], h1, _, _ => simp at h1
  | c0 :: c1 :: cs, h1, h2, h3 => ?_
  simp only [List.length_cons, List.length_map, List.length_range, Nat.add_right_cancel_iff] at h1
  obtain ⟨T, hTd⟩ : ∃ T : Int → Bool, T = fun st => c0 ^^ ((c1 && A st) ^^ xs (fun x => cs.getD x false && B x st) n) := ⟨_, rfl⟩
  have hT : Cl (nextT w s) (2 * n) T := fun st g0 g1 => by
    rw [hTd]; dsimp only
    rw [hA st g0 g1, xs_congr fun i hi => by rw [(hB i hi).1 st g0 g1]]
  have hz := zero_all hpn hT fun j hj => by
    have := h3 j hj
    rw [comb, comb, comb_range h1] at this
    rw [hTd]
    rw [hhd] at this
    simpa using this
  have hb : ∀ e : Nat, e < 2 * n → (c1 ^^ xs (fun x => cs.getD x false && zL w x e) n) = false := fun e he => by
    have k1 := hz e (by omega) (by omega)
    have k2 := hz (-1 - (e : Int)) (by omega) (by omega)
    have k3 := hAb e he
    rw [hTd] at k1 k2
    dsimp only at k1 k2 k3
    rw [xs_congr (g := fun x => (cs.getD x false && B x (e : Int)) ^^ (cs.getD x false && B x (-1 - (e : Int)))) fun i hi => by rw [(hB i hi).2 e he]; cases cs.getD i false <;> cases B i (e : Int) <;> cases B i (-1 - (e : Int)) <;> rfl, xs_xor]
    revert k1 k2 k3
    generalize xs (fun x => cs.getD x false && B x (e : Int)) n = a1
    generalize xs (fun x => cs.getD x false && B x (-1 - (e : Int))) n = a2
    generalize A (e : Int) = a3
    generalize A (-1 - (e : Int)) = a4
    clear h3 hz hT hTd h2
    revert a1 a2 a3 a4 c0 c1
    decide
  have hc1 : c1 = false := by
    have := hb (2 * n - 1) (by omega)
    rw [xs_congr (g := fun _ => false) fun i hi => ?_, xs_false] at this
    · simpa using this
    · have := (h.lt hi).hq
      unfold zL iv; rw [decide_eq_false (p := 2 * n - 1 < qq w i) (by omega)]; simp
  subst hc1
  have hcs : ∀ x, x < n → cs.getD x false = false := fun x hx => by
    have H := h.lt hx
    have hpq := H.pq; have hq := H.hq
    have bp := bf_lt (n := n) (a := pp w x) (by omega)
    have k1 := hb (pp w x) (by omega)
    have k2 := hb (bf n (pp w x)) bp
    rw [Bool.false_xor] at k1 k2
    have k3 : xs (fun u => (cs.getD u false && zL w u (pp w x)) ^^ (cs.getD u false && zL w u (bf n (pp w x)))) n = false := by rw [xs_xor, k1, k2]; rfl
    rw [xs_congr (g := fun u => decide (u = x) && cs.getD x false) fun u hu => ?_, xs_one (g := fun _ => cs.getD x false), decide_eq_true hx, Bool.true_and] at k3
    · exact k3
    · by_cases e : u = x
      · subst e
        unfold zL
        rw [iv_p H.pq, iv_bp H.pq H.hq]; simp
      · rw [zL_p h hu hx (fun k => e k.symm), decide_eq_false e]
        cases cs.getD u false <;> cases zL w u (pp w x) <;> rfl
  have hc0 : c0 = false := by
    have := hz 0 (by omega) (by omega)
    rw [hTd] at this
    dsimp only at this
    rw [xs_congr (g := fun _ => false) fun i hi => by rw [hcs i hi]; rfl, xs_false] at this
    simpa using this
  subst hc0
  have : ¬ true ∈ cs := mem_true fun i hi => hcs i (by omega)
  simp at h2
  exact this h2
/-- The signs that a colouring of the letters gives. -/
def sgn (w : List Int) (n : Nat) (d : Nat → Bool) : List Int := (List.range n).map fun x => if (d x ^^ decide (pp w x % 2 = 1)) = true then 1 else -1
theorem sgn_all {w : List Int} {n : Nat} {d : Nat → Bool} : (sgn w n d).all (fun x => decide (x = 1) || decide (x = -1)) = true := by
  rw [List.all_eq_true]; intro x hx
  obtain ⟨i, _, rfl⟩ := List.mem_map.1 hx
  split <;> simp
theorem sgn_dd {w : List Int} {n x : Nat} {d : Nat → Bool} (hx : x < n) : dd w (sgn w n d) x = d x := by
  have e1 : (sgn w n d).getD x 0 = if (d x ^^ decide (pp w x % 2 = 1)) = true then 1 else -1 := by
    unfold sgn; rw [List.getD_eq_getElem?_getD, List.getElem?_map, List.getElem?_range hx]; rfl
  have e2 : decide ((sgn w n d).getD x 0 = 1) = (d x ^^ decide (pp w x % 2 = 1)) := by
    cases hb : (d x ^^ decide (pp w x % 2 = 1)) with
    | true => rw [hb, if_pos rfl] at e1; exact decide_eq_true e1
    | false => rw [hb, if_neg (by decide)] at e1; exact decide_eq_false (by rw [e1]; decide)
  unfold dd; rw [e2]
  cases d x <;> cases decide (pp w x % 2 = 1) <;> rfl
theorem drawn_iff {w : List Int} {n : Nat} (h : Word w n) : DrawnP w n ↔ ∃ s : List Int, s.all (fun x => decide (x = 1) || decide (x = -1)) = true ∧ s.length = n ∧ (facesT (nextT w s) (2 * n)).length = n + 2 := by
  constructor
  · rintro ⟨h1, h2, d, hd⟩
    refine ⟨sgn w n d, sgn_all, by simp [sgn], max_of_pl h sgn_all (by simp [sgn]) ⟨h1, h2, fun x y hx hy hg => ?_⟩⟩
    rw [sgn_dd hx, sgn_dd hy]; exact hd x y hx hy hg
  · rintro ⟨s, hs, hl, hg⟩
    exact (pl_of_max h hs hl hg).drawn
theorem least_iff {w : List Int} {n : Nat} (h : Word w n) : (leastT n w).1 = 0 ↔ DrawnP w n := by
  rw [drawn_iff h]
  have hpos := h.pos
  obtain ⟨j, hj, e⟩ := leastT_in (n := n) (w := w) hpos
  have hk := genus_ok h (sgT_all (n := n) (k := j)) sgT_len
  constructor
  · intro h0
    rw [e] at h0
    dsimp only at h0
    exact ⟨sgT n j, sgT_all, sgT_len, by omega⟩
  · rintro ⟨s, hs, hl, hg⟩
    have h1 := leastT_min (w := w) hpos hl hs
    have h2 := (genus_ok h hs hl).2
    rw [e] at h1 ⊢
    dsimp only at h1 ⊢
    omega
theorem drawnB_least {w : List Int} {n : Nat} (h : Word w n) : drawnB w n = decide ((leastT n w).1 = 0) := by
  by_cases e : (leastT n w).1 = 0
  · rw [drawnB_yes ((least_iff h).1 e), decide_eq_true e]
  · rw [drawnB_no fun k => e ((least_iff h).2 k), decide_eq_false e]
/-- In a plane word an even number of positions lies between the two of a letter. -/
theorem plane_even {w : List Int} {n x : Nat} (h : Word w n) (hx : x < n) (h0 : (leastT n w).1 = 0) : placesT w x = [(pp w x : Int), (qq w x : Int)] ∧ pp w x < qq w x ∧ qq w x < 2 * n ∧ (qq w x - pp w x) % 2 = 1 :=
  ⟨(h.lt hx).pl, (h.lt hx).pq, (h.lt hx).hq, (C1_iff h hx).1 (((least_iff h).1 h0).1 x hx)⟩
end Go.Scr
