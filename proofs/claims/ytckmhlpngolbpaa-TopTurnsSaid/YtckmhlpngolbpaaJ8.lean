/- Joined of: H3 H5 H6 H7 H8. No condition. -/
import Derived.Test.YtckmhlpngolbpaaJ7
import Derived.Test.YtckmhlpngolbpaaJ5
set_option linter.unusedVariables false
set_option linter.unusedSimpArgs false
namespace Go.Proofs.Ytckmhlpngolbpaa
open Int renaming reduceToNat → zr, reduceTDiv → zd, reduceTMod → zm
open Go Go.Vc Go.Sh
theorem pmul {P : Int} (hP : 0 ≤ P ∧ P ≤ 100) {a d : Nat} (hd : d ≤ 24) : P * ((a : Int) + 1 + d - a) = P * ((d : Int) + 1) ∧ 0 ≤ P * ((d : Int) + 1) ∧ P * ((d : Int) + 1) ≤ 2500 := by
 refine ⟨by congr 1; omega, Int.mul_nonneg hP.1 (by omega), ?_⟩
 have := Int.mul_le_mul (a := P) (b := (d : Int) + 1) (c := 100) (d := 25) hP.2 (by omega) (by omega) (by omega)
 omega
theorem overfull_at {P : Int} {l : List Jb} (hP : 0 ≤ P ∧ P ≤ 100) (h : Bd l) : FnAt Try.prog false 39 [I64 P, .arr JT l] (.tup [.lit (.int .i64 (ovA P l)), .lit (.int .i64 (ovE P l)), .lit (.bool (ovB P l))]) [] := by
 have hhit : ∀ a d, a < 24 → d < 24 - a → ovC P l a d → (∀ e, e < d → ¬ ovC P l a e) → (∀ b, b < a → ∀ e, e < 24 - b → ¬ ovC P l b e) → ovA P l = a ∧ ovE P l = (a : Int) + 1 + d ∧ ovB P l = true := fun a d h1 h2 h3 h4 h5 => by
  have := over_hit h1 h2 h3 h4 h5
  unfold ovA ovE ovB
  rw [this]
  exact ⟨rfl, by dsimp only; omega, rfl⟩
 have hmiss : (∀ b, b < 24 → ∀ e, e < 24 - b → ¬ ovC P l b e) → ovA P l = 0 ∧ ovE P l = 0 ∧ ovB P l = false := fun h5 => by
  have := over_miss h5
  unfold ovA ovE ovB
  rw [this]
  exact ⟨rfl, rfl, rfl⟩
 obtain ⟨A, hA⟩ : ∃ A, A = ovA P l := ⟨_, rfl⟩
 obtain ⟨E, hE⟩ : ∃ E, E = ovE P l := ⟨_, rfl⟩
 obtain ⟨B, hB⟩ : ∃ B, B = ovB P l := ⟨_, rfl⟩
 rw [← hA, ← hE, ← hB] at hhit hmiss
 rw [← hA, ← hE, ← hB]
 clear hA hE hB
 refine FnAt.of_body tys_ok Try.func39 (by rfl) rfl Try.ntmps39 (by rw [Try.results39]) (by simp) ?_
 repeat' (first
 | refine W.seq ?_
 | refine W.block ?_
 | (refine W.region tys_ok [] ?_; conv => whnf)
 | (refine W.drawAll tys_ok [] mixed rfl ?_; conv => whnf)
 | (refine W.ret ?_; conv => whnf)
 | (refine W.skip ?_; conv => whnf)
 | (refine W.exit ?_; conv => whnf)
 | (refine W.cond rfl (fun hb => ?_) (fun hb => ?_) <;> (try simp only [zr, zd, zm, minL, maxL, pickB, zA] at hb) <;> (try (first | (cases hb; done) | exact absurd hb (by decide) | (exfalso; omega))))
 | ((with_reducible refine And.intro ?_ ?_); exact zc; conv => whnf)
 | ((with_reducible refine And.intro (Side.out ?_) ?_); rotate_left; (conv => whnf))
 | ((first | refine retF1 ?_ | refine retF2 ?_) <;> (conv => whnf) <;> repeat' (first
 | exact trivial
 | (with_reducible rfl)
 | ((with_reducible refine And.intro ?_ ?_) <;> conv => whnf)
 | omega
 | rfl
 | (refine congrArg (SV.arr _) ?_)
 | (refine congrArg (Value.int _) ?_)
 | (refine congrArg Value.bool ?_)))); all_goals (try unfold Side)
 all_goals try (repeat' (first | exact zb | with_reducible refine And.intro ?_ ?_))
 refine W.loop (fun a : Nat => ⟨[(0, .lit (.int .i64 (P))), (1, .st false (.arr JT l)), (9, .lit (.int .i64 (a)))], []⟩) (fun a => a ≤ 24 ∧ (∀ b, b < a → ∀ e, e < 24 - b → ¬ ovC P l b e)) (fun a => 24 - a) (0) ?_ ?_
 · refine ⟨⟨Nat.zero_le _, by omega⟩, ?_⟩
   refine subF.ok ?_ <;> (conv => whnf) <;> repeat' (first
 | exact trivial
 | (with_reducible rfl)
 | ((with_reducible refine And.intro ?_ ?_) <;> conv => whnf)
 | omega
 | rfl
 | (refine congrArg (SV.arr _) ?_)
 | (refine congrArg (Value.int _) ?_)
 | (refine congrArg Value.bool ?_))
 · rintro a ⟨ha, hno⟩
   by_cases hal : a < 24
   · repeat' (first
 | refine W.seq ?_
 | refine W.block ?_
 | (refine W.region tys_ok [] ?_; conv => whnf)
 | (refine W.drawAll tys_ok [] mixed rfl ?_; conv => whnf)
 | (refine W.ret ?_; conv => whnf)
 | (refine W.skip ?_; conv => whnf)
 | (refine W.exit ?_; conv => whnf)
 | (refine W.cond rfl (fun hb => ?_) (fun hb => ?_) <;> (try simp only [zr, zd, zm, minL, maxL, pickB, zA] at hb) <;> (try (first | (cases hb; done) | exact absurd hb (by decide) | (exfalso; omega))))
 | ((with_reducible refine And.intro ?_ ?_); exact zc; conv => whnf)
 | ((with_reducible refine And.intro (Side.out ?_) ?_); rotate_left; (conv => whnf))
 | ((first | refine retF1 ?_ | refine retF2 ?_) <;> (conv => whnf) <;> repeat' (first
 | exact trivial
 | (with_reducible rfl)
 | ((with_reducible refine And.intro ?_ ?_) <;> conv => whnf)
 | omega
 | rfl
 | (refine congrArg (SV.arr _) ?_)
 | (refine congrArg (Value.int _) ?_)
 | (refine congrArg Value.bool ?_)))); all_goals (try unfold Side)
     all_goals try (repeat' (first | exact zb | with_reducible refine And.intro ?_ ?_))
     refine W.loop (fun d : Nat => ⟨[(0, .lit (.int .i64 (P))), (1, .st false (.arr JT l)), (9, .lit (.int .i64 (a))), (7, .lit (.int .i64 (a))), (8, .lit (.int .i64 (((a : Int) + 1 + (d : Int)))))], []⟩) (fun d => d ≤ 24 - a ∧ (∀ e, e < d → ¬ ovC P l a e)) (fun d => 24 - a - d) (0) ?_ ?_
     · refine ⟨⟨Nat.zero_le _, by omega⟩, ?_⟩
       refine subF.ok ?_ <;> (conv => whnf) <;> repeat' (first
 | exact trivial
 | (with_reducible rfl)
 | ((with_reducible refine And.intro ?_ ?_) <;> conv => whnf)
 | omega
 | rfl
 | (refine congrArg (SV.arr _) ?_)
 | (refine congrArg (Value.int _) ?_)
 | (refine congrArg Value.bool ?_))
     · rintro d ⟨hd, hnd⟩
       by_cases hdl : d < 24 - a
       · have hn := needs_at h (a := a) (b := (a : Int) + 1 + d) (by omega)
         have hm := pmul hP (a := a) (d := d) (by omega)
         by_cases hc : ovC P l a d
         · obtain ⟨e1, e2, e3⟩ := hhit a d hal hdl hc hnd hno
           have hc' : P * ((d : Int) + 1) < needsT l a ((a : Int) + 1 + d) := hc
           repeat' (first
 | refine W.seq ?_
 | refine W.block ?_
 | (refine W.region tys_ok [] ?_; conv => whnf)
 | (refine W.drawAll tys_ok [] mixed rfl ?_; conv => whnf)
 | (refine W.ret ?_; conv => whnf)
 | (refine W.skip ?_; conv => whnf)
 | (refine W.exit ?_; conv => whnf)
 | (refine call_at (al := false) (hn) rfl rfl rfl rfl ?_; conv => whnf)
 | (refine W.cond rfl (fun hb => ?_) (fun hb => ?_) <;> (try simp only [zr, zd, zm, minL, maxL, pickB, zA] at hb) <;> (try (first | (cases hb; done) | exact absurd hb (by decide) | (exfalso; omega) | (omega))))
 | ((with_reducible refine And.intro ?_ ?_); exact zc; conv => whnf)
 | ((with_reducible refine And.intro (Side.out ?_) ?_); rotate_left; (conv => whnf))
 | ((first | refine retF1 ?_ | refine retF2 ?_) <;> (conv => whnf) <;> repeat' (first
 | exact trivial
 | (with_reducible rfl)
 | ((with_reducible refine And.intro ?_ ?_) <;> conv => whnf)
 | omega
 | rfl
 | (refine congrArg (SV.arr _) ?_)
 | (refine congrArg (Value.int _) ?_)
 | (refine congrArg Value.bool ?_)))); all_goals (try unfold Side)
           all_goals try (repeat' (first | exact zb | with_reducible refine And.intro ?_ ?_))
           all_goals first | exact e1.symm | exact e2.symm | exact e3.symm
         · have hc' : ¬ P * ((d : Int) + 1) < needsT l a ((a : Int) + 1 + d) := hc
           repeat' (first
 | refine W.seq ?_
 | refine W.block ?_
 | (refine W.region tys_ok [] ?_; conv => whnf)
 | (refine W.drawAll tys_ok [] mixed rfl ?_; conv => whnf)
 | (refine W.ret ?_; conv => whnf)
 | (refine W.skip ?_; conv => whnf)
 | (refine W.exit ?_; conv => whnf)
 | (refine call_at (al := false) (hn) rfl rfl rfl rfl ?_; conv => whnf)
 | (refine W.cond rfl (fun hb => ?_) (fun hb => ?_) <;> (try simp only [zr, zd, zm, minL, maxL, pickB, zA] at hb) <;> (try (first | (cases hb; done) | exact absurd hb (by decide) | (exfalso; omega) | (omega))))
 | ((with_reducible refine And.intro ?_ ?_); exact zc; conv => whnf)
 | ((with_reducible refine And.intro (Side.out ?_) ?_); rotate_left; (conv => whnf))
 | ((first | refine retF1 ?_ | refine retF2 ?_) <;> (conv => whnf) <;> repeat' (first
 | exact trivial
 | (with_reducible rfl)
 | ((with_reducible refine And.intro ?_ ?_) <;> conv => whnf)
 | omega
 | rfl
 | (refine congrArg (SV.arr _) ?_)
 | (refine congrArg (Value.int _) ?_)
 | (refine congrArg Value.bool ?_)))); all_goals (try unfold Side)
           all_goals try (repeat' (first | exact zb | with_reducible refine And.intro ?_ ?_))
           refine ⟨d + 1, ⟨⟨by omega, fun e he => ?_⟩, by omega⟩, ?_⟩
           · by_cases g : e = d
             · subst g; exact hc
             · exact hnd e (by omega)
           · refine subF.ok ?_ <;> (conv => whnf) <;> repeat' (first
 | exact trivial
 | (with_reducible rfl)
 | ((with_reducible refine And.intro ?_ ?_) <;> conv => whnf)
 | omega
 | rfl
 | (refine congrArg (SV.arr _) ?_)
 | (refine congrArg (Value.int _) ?_)
 | (refine congrArg Value.bool ?_))
       · have hde : d = 24 - a := by omega
         repeat' (first
 | refine W.seq ?_
 | refine W.block ?_
 | (refine W.region tys_ok [] ?_; conv => whnf)
 | (refine W.drawAll tys_ok [] mixed rfl ?_; conv => whnf)
 | (refine W.ret ?_; conv => whnf)
 | (refine W.skip ?_; conv => whnf)
 | (refine W.exit ?_; conv => whnf)
 | (refine W.cond rfl (fun hb => ?_) (fun hb => ?_) <;> (try simp only [zr, zd, zm, minL, maxL, pickB, zA] at hb) <;> (try (first | (cases hb; done) | exact absurd hb (by decide) | (exfalso; omega))))
 | ((with_reducible refine And.intro ?_ ?_); exact zc; conv => whnf)
 | ((with_reducible refine And.intro (Side.out ?_) ?_); rotate_left; (conv => whnf))
 | ((first | refine retF1 ?_ | refine retF2 ?_) <;> (conv => whnf) <;> repeat' (first
 | exact trivial
 | (with_reducible rfl)
 | ((with_reducible refine And.intro ?_ ?_) <;> conv => whnf)
 | omega
 | rfl
 | (refine congrArg (SV.arr _) ?_)
 | (refine congrArg (Value.int _) ?_)
 | (refine congrArg Value.bool ?_)))); all_goals (try unfold Side)
         all_goals try (repeat' (first | exact zb | with_reducible refine And.intro ?_ ?_))
         refine ⟨a + 1, ⟨⟨by omega, fun b hb => ?_⟩, by omega⟩, ?_⟩
         · by_cases g : b = a
           · subst g; rw [← hde]; exact hnd
           · exact hno b (by omega)
         · refine subF.ok ?_ <;> (conv => whnf) <;> repeat' (first
 | exact trivial
 | (with_reducible rfl)
 | ((with_reducible refine And.intro ?_ ?_) <;> conv => whnf)
 | omega
 | rfl
 | (refine congrArg (SV.arr _) ?_)
 | (refine congrArg (Value.int _) ?_)
 | (refine congrArg Value.bool ?_))
   · have hae : a = 24 := by omega
     subst hae
     obtain ⟨e1, e2, e3⟩ := hmiss hno
     repeat' (first
 | refine W.seq ?_
 | refine W.block ?_
 | (refine W.region tys_ok [] ?_; conv => whnf)
 | (refine W.drawAll tys_ok [] mixed rfl ?_; conv => whnf)
 | (refine W.ret ?_; conv => whnf)
 | (refine W.skip ?_; conv => whnf)
 | (refine W.exit ?_; conv => whnf)
 | (refine W.cond rfl (fun hb => ?_) (fun hb => ?_) <;> (try simp only [zr, zd, zm, minL, maxL, pickB, zA] at hb) <;> (try (first | (cases hb; done) | exact absurd hb (by decide) | (exfalso; omega))))
 | ((with_reducible refine And.intro ?_ ?_); exact zc; conv => whnf)
 | ((with_reducible refine And.intro (Side.out ?_) ?_); rotate_left; (conv => whnf))
 | ((first | refine retF1 ?_ | refine retF2 ?_) <;> (conv => whnf) <;> repeat' (first
 | exact trivial
 | (with_reducible rfl)
 | ((with_reducible refine And.intro ?_ ?_) <;> conv => whnf)
 | omega
 | rfl
 | (refine congrArg (SV.arr _) ?_)
 | (refine congrArg (Value.int _) ?_)
 | (refine congrArg Value.bool ?_)))); all_goals (try unfold Side)
     all_goals try (repeat' (first | exact zb | with_reducible refine And.intro ?_ ?_))
     all_goals first | exact e1.symm | exact e2.symm | exact e3.symm
open Go Go.Vc Go.Sh
set_option maxHeartbeats 4000000 in
theorem valid_at {P : Int} {l : List Jb} {os : List Od} (hl : l.length ≤ 1000) (ho : os.length ≤ 1000) : FnAt Try.prog false 16 [.agg [I64 P, .arr JT l, .arr OT os]] (.lit (.bool (validB P l os))) [] := by
 have hno0 : ¬ ((1 ≤ P ∧ P ≤ 20) ∧ (1 ≤ l.length ∧ l.length ≤ 6) ∧ os.length ≤ 20) → validB P l os = false := fun hc => validB_no fun h => hc ⟨h.pw, h.ln, h.lo⟩
 have hno1 : ∀ i, i < l.length → ¬ JobOk (l.getD i J0) → validB P l os = false := fun i hi hc => validB_no fun h => hc (h.rg i hi)
 have hno2 : ∀ i, i < os.length → ¬ OrdOk l.length (os.getD i O0) → validB P l os = false := fun i hi hc => validB_no fun h => hc (h.od i hi)
 have hend : ((1 ≤ P ∧ P ≤ 20) ∧ (1 ≤ l.length ∧ l.length ≤ 6) ∧ os.length ≤ 20) → (∀ i, i < l.length → JobOk (l.getD i J0)) → (∀ i, i < os.length → OrdOk l.length (os.getD i O0)) → validB P l os = true := fun h0 h1 h2 => validB_yes ⟨h0.1, h0.2.1, h0.2.2, h1, h2⟩
 obtain ⟨V, hV⟩ : ∃ V, V = validB P l os := ⟨_, rfl⟩
 rw [← hV] at hno0 hno1 hno2 hend ⊢
 clear hV
 have hll : @List.length JT.T l = l.length := rfl
 have hlo : @List.length OT.T os = os.length := rfl
 refine FnAt.of_body tys_ok Try.func16 (by rfl) rfl Try.ntmps16 (by rw [Try.results16]) (by simp) ?_
 by_cases h0 : (1 ≤ P ∧ P ≤ 20) ∧ (1 ≤ l.length ∧ l.length ≤ 6) ∧ os.length ≤ 20
 · repeat' (first
 | refine W.seq ?_
 | refine W.block ?_
 | (refine W.region tys_ok [] ?_; conv => whnf)
 | (refine W.drawAll tys_ok [] mixed rfl ?_; conv => whnf)
 | (refine W.ret ?_; conv => whnf)
 | (refine W.skip ?_; conv => whnf)
 | (refine W.exit ?_; conv => whnf)
 | (refine W.cond rfl (fun hb => ?_) (fun hb => ?_) <;> (try simp only [zr, zd, zm, minL, maxL, pickB, zA] at hb) <;> (try (first | (cases hb; done) | exact absurd hb (by decide) | (exfalso; omega) | (omega))))
 | ((with_reducible refine And.intro ?_ ?_); exact zc; conv => whnf)
 | ((with_reducible refine And.intro (Side.out ?_) ?_); rotate_left; (conv => whnf))
 | ((first | refine retF1 ?_ | refine retF2 ?_) <;> (conv => whnf) <;> repeat' (first
 | exact trivial
 | (with_reducible rfl)
 | ((with_reducible refine And.intro ?_ ?_) <;> conv => whnf)
 | omega
 | rfl
 | (refine congrArg (SV.arr _) ?_)
 | (refine congrArg (Value.int _) ?_)
 | (refine congrArg Value.bool ?_)))); all_goals (try unfold Side)
   all_goals try (repeat' (first | exact zb | with_reducible refine And.intro ?_ ?_))
   refine W.loop (fun i : Nat => ⟨[(1, .st false (.sadr (.agg [I64 P, .arr JT l, .arr OT os]))), (35, .st false (.arr JT l)), (36, .lit (.int .i64 ((l.length : Int)))), (37, .lit (.int .i64 (i)))], []⟩) (fun i => i ≤ l.length ∧ (∀ m, m < i → JobOk (l.getD m J0))) (fun i => l.length - i) (0) ?_ ?_
   · refine ⟨⟨Nat.zero_le _, by omega⟩, ?_⟩
     refine subF.ok ?_ <;> (conv => whnf) <;> repeat' (first
 | exact trivial
 | (with_reducible rfl)
 | ((with_reducible refine And.intro ?_ ?_) <;> conv => whnf)
 | omega
 | rfl
 | (refine congrArg (SV.arr _) ?_)
 | (refine congrArg (Value.int _) ?_)
 | (refine congrArg Value.bool ?_))
   · rintro i ⟨hi, hj⟩
     by_cases hil : i < l.length
     · have hn := hno1 i hil
       by_cases hc : JobOk (l.getD i J0)
       · have hc' := hc
         unfold JobOk at hc'
         repeat' (first
 | refine W.seq ?_
 | refine W.block ?_
 | (refine W.region tys_ok [] ?_; conv => whnf)
 | (refine W.drawAll tys_ok [] mixed rfl ?_; conv => whnf)
 | (refine W.ret ?_; conv => whnf)
 | (refine W.skip ?_; conv => whnf)
 | (refine W.exit ?_; conv => whnf)
 | (refine W.cond rfl (fun hb => ?_) (fun hb => ?_) <;> (try simp only [zr, zd, zm, minL, maxL, pickB, zA] at hb) <;> (try (first | (cases hb; done) | exact absurd hb (by decide) | (exfalso; omega) | (omega))))
 | ((with_reducible refine And.intro ?_ ?_); exact zc; conv => whnf)
 | ((with_reducible refine And.intro (Side.out ?_) ?_); rotate_left; (conv => whnf))
 | ((first | refine retF1 ?_ | refine retF2 ?_) <;> (conv => whnf) <;> repeat' (first
 | exact trivial
 | (with_reducible rfl)
 | ((with_reducible refine And.intro ?_ ?_) <;> conv => whnf)
 | omega
 | rfl
 | (refine congrArg (SV.arr _) ?_)
 | (refine congrArg (Value.int _) ?_)
 | (refine congrArg Value.bool ?_)))); all_goals (try unfold Side)
         all_goals try (repeat' (first | exact zb | with_reducible refine And.intro ?_ ?_))
         refine ⟨i + 1, ⟨⟨by omega, fun m hm => ?_⟩, by omega⟩, ?_⟩
         · by_cases e : m = i
           · subst e; exact hc
           · exact hj m (by omega)
         · refine subF.ok ?_ <;> (conv => whnf) <;> repeat' (first
 | exact trivial
 | (with_reducible rfl)
 | ((with_reducible refine And.intro ?_ ?_) <;> conv => whnf)
 | omega
 | rfl
 | (refine congrArg (SV.arr _) ?_)
 | (refine congrArg (Value.int _) ?_)
 | (refine congrArg Value.bool ?_))
       · have hc' := hc
         have hn := hn hc
         unfold JobOk at hc'
         repeat' (first
 | refine W.seq ?_
 | refine W.block ?_
 | (refine W.region tys_ok [] ?_; conv => whnf)
 | (refine W.drawAll tys_ok [] mixed rfl ?_; conv => whnf)
 | (refine W.ret ?_; conv => whnf)
 | (refine W.skip ?_; conv => whnf)
 | (refine W.exit ?_; conv => whnf)
 | (refine W.cond rfl (fun hb => ?_) (fun hb => ?_) <;> (try simp only [zr, zd, zm, minL, maxL, pickB, zA] at hb) <;> (try (first | (cases hb; done) | exact absurd hb (by decide) | (exfalso; omega) | (omega))))
 | ((with_reducible refine And.intro ?_ ?_); exact zc; conv => whnf)
 | ((with_reducible refine And.intro (Side.out ?_) ?_); rotate_left; (conv => whnf))
 | ((first | refine retF1 ?_ | refine retF2 ?_) <;> (conv => whnf) <;> repeat' (first
 | exact trivial
 | (with_reducible rfl)
 | ((with_reducible refine And.intro ?_ ?_) <;> conv => whnf)
 | omega
 | rfl
 | (refine congrArg (SV.arr _) ?_)
 | (refine congrArg (Value.int _) ?_)
 | (refine congrArg Value.bool ?_)))); all_goals (try unfold Side)
         all_goals try (repeat' (first | exact zb | with_reducible refine And.intro ?_ ?_))
         all_goals exact hn.symm
     · have hie : l.length = i := by omega
       subst hie
       repeat' (first
 | refine W.seq ?_
 | refine W.block ?_
 | (refine W.region tys_ok [] ?_; conv => whnf)
 | (refine W.drawAll tys_ok [] mixed rfl ?_; conv => whnf)
 | (refine W.ret ?_; conv => whnf)
 | (refine W.skip ?_; conv => whnf)
 | (refine W.exit ?_; conv => whnf)
 | (refine W.cond rfl (fun hb => ?_) (fun hb => ?_) <;> (try simp only [zr, zd, zm, minL, maxL, pickB, zA] at hb) <;> (try (first | (cases hb; done) | exact absurd hb (by decide) | (exfalso; omega))))
 | ((with_reducible refine And.intro ?_ ?_); exact zc; conv => whnf)
 | ((with_reducible refine And.intro (Side.out ?_) ?_); rotate_left; (conv => whnf))
 | ((first | refine retF1 ?_ | refine retF2 ?_) <;> (conv => whnf) <;> repeat' (first
 | exact trivial
 | (with_reducible rfl)
 | ((with_reducible refine And.intro ?_ ?_) <;> conv => whnf)
 | omega
 | rfl
 | (refine congrArg (SV.arr _) ?_)
 | (refine congrArg (Value.int _) ?_)
 | (refine congrArg Value.bool ?_)))); all_goals (try unfold Side)
       all_goals try (repeat' (first | exact zb | with_reducible refine And.intro ?_ ?_))
       refine W.loop (fun i : Nat => ⟨[(5, .lit (.int .i64 ((l.length : Int)))), (86, .st false (.arr OT os)), (87, .lit (.int .i64 ((os.length : Int)))), (88, .lit (.int .i64 (i)))], []⟩) (fun i => i ≤ os.length ∧ (∀ m, m < i → OrdOk l.length (os.getD m O0))) (fun i => os.length - i) (0) ?_ ?_
       · refine ⟨⟨Nat.zero_le _, by omega⟩, ?_⟩
         refine subF.ok ?_ <;> (conv => whnf) <;> repeat' (first
 | exact trivial
 | (with_reducible rfl)
 | ((with_reducible refine And.intro ?_ ?_) <;> conv => whnf)
 | omega
 | rfl
 | (refine congrArg (SV.arr _) ?_)
 | (refine congrArg (Value.int _) ?_)
 | (refine congrArg Value.bool ?_))
       · rintro i ⟨hi, hj2⟩
         by_cases hil : i < os.length
         · have hn := hno2 i hil
           by_cases hc : OrdOk l.length (os.getD i O0)
           · have hc' := hc
             unfold OrdOk at hc'
             repeat' (first
 | refine W.seq ?_
 | refine W.block ?_
 | (refine W.region tys_ok [] ?_; conv => whnf)
 | (refine W.drawAll tys_ok [] mixed rfl ?_; conv => whnf)
 | (refine W.ret ?_; conv => whnf)
 | (refine W.skip ?_; conv => whnf)
 | (refine W.exit ?_; conv => whnf)
 | (refine W.cond rfl (fun hb => ?_) (fun hb => ?_) <;> (try simp only [zr, zd, zm, minL, maxL, pickB, zA] at hb) <;> (try (first | (cases hb; done) | exact absurd hb (by decide) | (exfalso; omega) | (omega))))
 | ((with_reducible refine And.intro ?_ ?_); exact zc; conv => whnf)
 | ((with_reducible refine And.intro (Side.out ?_) ?_); rotate_left; (conv => whnf))
 | ((first | refine retF1 ?_ | refine retF2 ?_) <;> (conv => whnf) <;> repeat' (first
 | exact trivial
 | (with_reducible rfl)
 | ((with_reducible refine And.intro ?_ ?_) <;> conv => whnf)
 | omega
 | rfl
 | (refine congrArg (SV.arr _) ?_)
 | (refine congrArg (Value.int _) ?_)
 | (refine congrArg Value.bool ?_)))); all_goals (try unfold Side)
             all_goals try (repeat' (first | exact zb | with_reducible refine And.intro ?_ ?_))
             refine ⟨i + 1, ⟨⟨by omega, fun m hm => ?_⟩, by omega⟩, ?_⟩
             · by_cases e : m = i
               · subst e; exact hc
               · exact hj2 m (by omega)
             · refine subF.ok ?_ <;> (conv => whnf) <;> repeat' (first
 | exact trivial
 | (with_reducible rfl)
 | ((with_reducible refine And.intro ?_ ?_) <;> conv => whnf)
 | omega
 | rfl
 | (refine congrArg (SV.arr _) ?_)
 | (refine congrArg (Value.int _) ?_)
 | (refine congrArg Value.bool ?_))
           · have hc' := hc
             have hn := hn hc
             unfold OrdOk at hc'
             repeat' (first
 | refine W.seq ?_
 | refine W.block ?_
 | (refine W.region tys_ok [] ?_; conv => whnf)
 | (refine W.drawAll tys_ok [] mixed rfl ?_; conv => whnf)
 | (refine W.ret ?_; conv => whnf)
 | (refine W.skip ?_; conv => whnf)
 | (refine W.exit ?_; conv => whnf)
 | (refine W.cond rfl (fun hb => ?_) (fun hb => ?_) <;> (try simp only [zr, zd, zm, minL, maxL, pickB, zA] at hb) <;> (try (first | (cases hb; done) | exact absurd hb (by decide) | (exfalso; omega) | (omega))))
 | ((with_reducible refine And.intro ?_ ?_); exact zc; conv => whnf)
 | ((with_reducible refine And.intro (Side.out ?_) ?_); rotate_left; (conv => whnf))
 | ((first | refine retF1 ?_ | refine retF2 ?_) <;> (conv => whnf) <;> repeat' (first
 | exact trivial
 | (with_reducible rfl)
 | ((with_reducible refine And.intro ?_ ?_) <;> conv => whnf)
 | omega
 | rfl
 | (refine congrArg (SV.arr _) ?_)
 | (refine congrArg (Value.int _) ?_)
 | (refine congrArg Value.bool ?_)))); all_goals (try unfold Side)
             all_goals try (repeat' (first | exact zb | with_reducible refine And.intro ?_ ?_))
             all_goals exact hn.symm
         · have hie : os.length = i := by omega
           subst hie
           repeat' (first
 | refine W.seq ?_
 | refine W.block ?_
 | (refine W.region tys_ok [] ?_; conv => whnf)
 | (refine W.drawAll tys_ok [] mixed rfl ?_; conv => whnf)
 | (refine W.ret ?_; conv => whnf)
 | (refine W.skip ?_; conv => whnf)
 | (refine W.exit ?_; conv => whnf)
 | (refine W.cond rfl (fun hb => ?_) (fun hb => ?_) <;> (try simp only [zr, zd, zm, minL, maxL, pickB, zA] at hb) <;> (try (first | (cases hb; done) | exact absurd hb (by decide) | (exfalso; omega))))
 | ((with_reducible refine And.intro ?_ ?_); exact zc; conv => whnf)
 | ((with_reducible refine And.intro (Side.out ?_) ?_); rotate_left; (conv => whnf))
 | ((first | refine retF1 ?_ | refine retF2 ?_) <;> (conv => whnf) <;> repeat' (first
 | exact trivial
 | (with_reducible rfl)
 | ((with_reducible refine And.intro ?_ ?_) <;> conv => whnf)
 | omega
 | rfl
 | (refine congrArg (SV.arr _) ?_)
 | (refine congrArg (Value.int _) ?_)
 | (refine congrArg Value.bool ?_)))); all_goals (try unfold Side)
           all_goals try (repeat' (first | exact zb | with_reducible refine And.intro ?_ ?_))
           all_goals exact (hend h0 hj hj2).symm
 · have hn := hno0 h0
   repeat' (first
 | refine W.seq ?_
 | refine W.block ?_
 | (refine W.region tys_ok [] ?_; conv => whnf)
 | (refine W.drawAll tys_ok [] mixed rfl ?_; conv => whnf)
 | (refine W.ret ?_; conv => whnf)
 | (refine W.skip ?_; conv => whnf)
 | (refine W.exit ?_; conv => whnf)
 | (refine W.cond rfl (fun hb => ?_) (fun hb => ?_) <;> (try simp only [zr, zd, zm, minL, maxL, pickB, zA] at hb) <;> (try (first | (cases hb; done) | exact absurd hb (by decide) | (exfalso; omega) | (omega))))
 | ((with_reducible refine And.intro ?_ ?_); exact zc; conv => whnf)
 | ((with_reducible refine And.intro (Side.out ?_) ?_); rotate_left; (conv => whnf))
 | ((first | refine retF1 ?_ | refine retF2 ?_) <;> (conv => whnf) <;> repeat' (first
 | exact trivial
 | (with_reducible rfl)
 | ((with_reducible refine And.intro ?_ ?_) <;> conv => whnf)
 | omega
 | rfl
 | (refine congrArg (SV.arr _) ?_)
 | (refine congrArg (Value.int _) ?_)
 | (refine congrArg Value.bool ?_)))); all_goals (try unfold Side)
   all_goals try (repeat' (first | exact zb | with_reducible refine And.intro ?_ ?_))
   all_goals exact hn.symm
open Int renaming reduceToNat → zr, reduceTDiv → zd, reduceTMod → zm
open Go Go.Vc Go.Sh
def ixT (os : List Od) (l : List Jb) : Int := match lateI os l with
 | some i => (i : Int)
 | none => -1
theorem ix_hit {os : List Od} {l : List Jb} {i : Nat} (hi : i < os.length) (h : lateT l (os.getD i O0) = true) (h1 : ∀ j, j < i → lateT l (os.getD j O0) = false) : ixT os l = i := by
 have e : firstK (fun i => if lateT l (os.getD i O0) = true then some i else none) os.length = some i := firstK_hit (d := i) (if_pos h) (fun e he => if_neg (by rw [h1 e he]; decide)) hi
 unfold ixT lateI
 rw [e]
theorem ix_miss {os : List Od} {l : List Jb} (h1 : ∀ j, j < os.length → lateT l (os.getD j O0) = false) : ixT os l = -1 := by
 have e : firstK (fun i => if lateT l (os.getD i O0) = true then some i else none) os.length = none := firstK_of fun e he => if_neg (by rw [h1 e he]; decide)
 unfold ixT lateI
 rw [e]
theorem ix_any {os : List Od} {l : List Jb} : decide (0 ≤ ixT os l) = os.any (lateT l) := by
 unfold ixT
 cases h : lateI os l with
 | some i =>
  obtain ⟨d, h1, h2, _⟩ := firstK_some h
  split at h2
  · rename_i h3
    show decide (0 ≤ (d : Int)) = _
    rw [decide_eq_true (by omega)]
    symm
    rw [List.any_eq_true]
    refine ⟨os.getD d O0, ?_, h3⟩
    rw [List.getD_eq_getElem?_getD, List.getElem?_eq_getElem h1]; exact List.getElem_mem _
  · cases h2
 | none => rw [lateI_none h]; rfl
theorem lateA_at {l : List Jb} (h : Bd l) {x y : Int} (hx : 0 ≤ x ∧ x < l.length) (hy : 0 ≤ y ∧ y < l.length) : FnAt Try.prog false 41 [.agg [I64 x, I64 y], .sadr (.arr JT l)] (.lit (.bool (lateT l (x, y, ())))) [] := by
 have hl := late_at h hx hy
 refine FnAt.of_body tys_ok Try.func41 (by rfl) rfl Try.ntmps41 (by rw [Try.results41]) (by simp) ?_
 repeat' (first
 | refine W.seq ?_
 | refine W.block ?_
 | (refine W.region tys_ok [] ?_; conv => whnf)
 | (refine W.drawAll tys_ok [] mixed rfl ?_; conv => whnf)
 | (refine W.ret ?_; conv => whnf)
 | (refine W.skip ?_; conv => whnf)
 | (refine W.exit ?_; conv => whnf)
 | (refine call_at (al := false) (hl) rfl rfl rfl rfl ?_; conv => whnf)
 | (refine W.cond rfl (fun hb => ?_) (fun hb => ?_) <;> (try simp only [zr, zd, zm, minL, maxL, pickB, zA] at hb) <;> (try (first | (cases hb; done) | exact absurd hb (by decide) | (exfalso; omega))))
 | ((with_reducible refine And.intro ?_ ?_); exact zc; conv => whnf)
 | ((with_reducible refine And.intro (Side.out ?_) ?_); rotate_left; (conv => whnf))
 | ((first | refine retF1 ?_ | refine retF2 ?_) <;> (conv => whnf) <;> repeat' (first
 | exact trivial
 | (with_reducible rfl)
 | ((with_reducible refine And.intro ?_ ?_) <;> conv => whnf)
 | omega
 | rfl
 | (refine congrArg (SV.arr _) ?_)
 | (refine congrArg (Value.int _) ?_)
 | (refine congrArg Value.bool ?_)))); all_goals (try unfold Side)
 all_goals try (repeat' (first | exact zb | with_reducible refine And.intro ?_ ?_))
theorem lateB_at {l : List Jb} (h : Bd l) {x y : Int} (hx : 0 ≤ x ∧ x < l.length) (hy : 0 ≤ y ∧ y < l.length) : FnAt Try.prog false 50 [.agg [I64 x, I64 y], .sadr (.arr JT l)] (.lit (.bool (lateT l (x, y, ())))) [] := by
 have hl := late_at h hx hy
 refine FnAt.of_body tys_ok Try.func50 (by rfl) rfl Try.ntmps50 (by rw [Try.results50]) (by simp) ?_
 repeat' (first
 | refine W.seq ?_
 | refine W.block ?_
 | (refine W.region tys_ok [] ?_; conv => whnf)
 | (refine W.drawAll tys_ok [] mixed rfl ?_; conv => whnf)
 | (refine W.ret ?_; conv => whnf)
 | (refine W.skip ?_; conv => whnf)
 | (refine W.exit ?_; conv => whnf)
 | (refine call_at (al := false) (hl) rfl rfl rfl rfl ?_; conv => whnf)
 | (refine W.cond rfl (fun hb => ?_) (fun hb => ?_) <;> (try simp only [zr, zd, zm, minL, maxL, pickB, zA] at hb) <;> (try (first | (cases hb; done) | exact absurd hb (by decide) | (exfalso; omega))))
 | ((with_reducible refine And.intro ?_ ?_); exact zc; conv => whnf)
 | ((with_reducible refine And.intro (Side.out ?_) ?_); rotate_left; (conv => whnf))
 | ((first | refine retF1 ?_ | refine retF2 ?_) <;> (conv => whnf) <;> repeat' (first
 | exact trivial
 | (with_reducible rfl)
 | ((with_reducible refine And.intro ?_ ?_) <;> conv => whnf)
 | omega
 | rfl
 | (refine congrArg (SV.arr _) ?_)
 | (refine congrArg (Value.int _) ?_)
 | (refine congrArg Value.bool ?_)))); all_goals (try unfold Side)
 all_goals try (repeat' (first | exact zb | with_reducible refine And.intro ?_ ?_))
def Ords (os : List Od) (n : Nat) : Prop := os.length ≤ 100 ∧ ∀ i, i < os.length → 0 ≤ (os.getD i O0).1 ∧ (os.getD i O0).1 < n ∧ 0 ≤ (os.getD i O0).2.1 ∧ (os.getD i O0).2.1 < n
theorem indexA_at {os : List Od} {l : List Jb} (h : Bd l) (hor : Ords os l.length) :
  FnAt Try.prog false 49 [.arr OT os, .fn 41 [.sadr (.arr JT l)]] (.lit (.int .i64 (ixT os l))) [] := by
 have ho := hor.1
 have hf : ∀ i, i < os.length → FnAt Try.prog false 41 [.agg [I64 (os.getD i O0).1, I64 (os.getD i O0).2.1], .sadr (.arr JT l)] (.lit (.bool (lateT l (os.getD i O0)))) [] := fun i hi => by
  have := hor.2 i hi
  exact lateA_at h ⟨this.1, this.2.1⟩ ⟨this.2.2.1, this.2.2.2⟩
 have hlo : @List.length OT.T os = os.length := rfl
 have hhit := fun i => ix_hit (os := os) (l := l) (i := i)
 have hmiss := ix_miss (os := os) (l := l)
 obtain ⟨X, hX⟩ : ∃ X, X = ixT os l := ⟨_, rfl⟩
 rw [← hX] at hhit hmiss ⊢
 clear hX
 refine FnAt.of_body tys_ok Try.func49 (by rfl) rfl Try.ntmps49 (by rw [Try.results49]) (by simp) ?_
 repeat' (first
 | refine W.seq ?_
 | refine W.block ?_
 | (refine W.region tys_ok [] ?_; conv => whnf)
 | (refine W.drawAll tys_ok [] mixed rfl ?_; conv => whnf)
 | (refine W.ret ?_; conv => whnf)
 | (refine W.skip ?_; conv => whnf)
 | (refine W.exit ?_; conv => whnf)
 | (refine W.cond rfl (fun hb => ?_) (fun hb => ?_) <;> (try simp only [zr, zd, zm, minL, maxL, pickB, zA] at hb) <;> (try (first | (cases hb; done) | exact absurd hb (by decide) | (exfalso; omega))))
 | ((with_reducible refine And.intro ?_ ?_); exact zc; conv => whnf)
 | ((with_reducible refine And.intro (Side.out ?_) ?_); rotate_left; (conv => whnf))
 | ((first | refine retF1 ?_ | refine retF2 ?_) <;> (conv => whnf) <;> repeat' (first
 | exact trivial
 | (with_reducible rfl)
 | ((with_reducible refine And.intro ?_ ?_) <;> conv => whnf)
 | omega
 | rfl
 | (refine congrArg (SV.arr _) ?_)
 | (refine congrArg (Value.int _) ?_)
 | (refine congrArg Value.bool ?_)))); all_goals (try unfold Side)
 all_goals try (repeat' (first | exact zb | with_reducible refine And.intro ?_ ?_))
 refine W.loop (fun i : Nat => ⟨[(0, .st false (.arr OT os)), (1, .fn 41 [.st false (.sadr (.arr JT l))]), (7, .lit (.int .i64 ((os.length : Int)))), (8, .lit (.int .i64 (i)))], []⟩) (fun i => i ≤ os.length ∧ (∀ j, j < i → lateT l (os.getD j O0) = false)) (fun i => os.length - i) (0) ?_ ?_
 · refine ⟨⟨Nat.zero_le _, by omega⟩, ?_⟩
   refine subF.ok ?_ <;> (conv => whnf) <;> repeat' (first
 | exact trivial
 | (with_reducible rfl)
 | ((with_reducible refine And.intro ?_ ?_) <;> conv => whnf)
 | omega
 | rfl
 | (refine congrArg (SV.arr _) ?_)
 | (refine congrArg (Value.int _) ?_)
 | (refine congrArg Value.bool ?_))
 · rintro i ⟨hi, hj⟩
   by_cases hil : i < os.length
   · have hc := hf i hil
     have hh := hhit i hil
     cases e : lateT l (os.getD i O0) with
     | true =>
      rw [e] at hc
      have hh := hh e hj
      repeat' (first
 | refine W.seq ?_
 | refine W.block ?_
 | (refine W.region tys_ok [] ?_; conv => whnf)
 | (refine W.drawAll tys_ok [] mixed rfl ?_; conv => whnf)
 | (refine W.ret ?_; conv => whnf)
 | (refine W.skip ?_; conv => whnf)
 | (refine W.exit ?_; conv => whnf)
 | (refine call_at (al := false) (hc) rfl rfl rfl rfl ?_; conv => whnf)
 | (refine W.cond rfl (fun hb => ?_) (fun hb => ?_) <;> (try simp only [zr, zd, zm, minL, maxL, pickB, zA] at hb) <;> (try (first | (cases hb; done) | exact absurd hb (by decide) | (exfalso; omega))))
 | ((with_reducible refine And.intro ?_ ?_); exact zc; conv => whnf)
 | ((with_reducible refine And.intro (Side.out ?_) ?_); rotate_left; (conv => whnf))
 | ((first | refine retF1 ?_ | refine retF2 ?_) <;> (conv => whnf) <;> repeat' (first
 | exact trivial
 | (with_reducible rfl)
 | ((with_reducible refine And.intro ?_ ?_) <;> conv => whnf)
 | omega
 | rfl
 | (refine congrArg (SV.arr _) ?_)
 | (refine congrArg (Value.int _) ?_)
 | (refine congrArg Value.bool ?_)))); all_goals (try unfold Side)
      all_goals try (repeat' (first | exact zb | with_reducible refine And.intro ?_ ?_))
      all_goals exact hh.symm
     | false =>
      rw [e] at hc
      repeat' (first
 | refine W.seq ?_
 | refine W.block ?_
 | (refine W.region tys_ok [] ?_; conv => whnf)
 | (refine W.drawAll tys_ok [] mixed rfl ?_; conv => whnf)
 | (refine W.ret ?_; conv => whnf)
 | (refine W.skip ?_; conv => whnf)
 | (refine W.exit ?_; conv => whnf)
 | (refine call_at (al := false) (hc) rfl rfl rfl rfl ?_; conv => whnf)
 | (refine W.cond rfl (fun hb => ?_) (fun hb => ?_) <;> (try simp only [zr, zd, zm, minL, maxL, pickB, zA] at hb) <;> (try (first | (cases hb; done) | exact absurd hb (by decide) | (exfalso; omega))))
 | ((with_reducible refine And.intro ?_ ?_); exact zc; conv => whnf)
 | ((with_reducible refine And.intro (Side.out ?_) ?_); rotate_left; (conv => whnf))
 | ((first | refine retF1 ?_ | refine retF2 ?_) <;> (conv => whnf) <;> repeat' (first
 | exact trivial
 | (with_reducible rfl)
 | ((with_reducible refine And.intro ?_ ?_) <;> conv => whnf)
 | omega
 | rfl
 | (refine congrArg (SV.arr _) ?_)
 | (refine congrArg (Value.int _) ?_)
 | (refine congrArg Value.bool ?_)))); all_goals (try unfold Side)
      all_goals try (repeat' (first | exact zb | with_reducible refine And.intro ?_ ?_))
      refine ⟨i + 1, ⟨⟨by omega, fun m hm => ?_⟩, by omega⟩, ?_⟩
      · by_cases e2 : m = i
        · subst e2; exact e
        · exact hj m (by omega)
      · refine subF.ok ?_ <;> (conv => whnf) <;> repeat' (first
 | exact trivial
 | (with_reducible rfl)
 | ((with_reducible refine And.intro ?_ ?_) <;> conv => whnf)
 | omega
 | rfl
 | (refine congrArg (SV.arr _) ?_)
 | (refine congrArg (Value.int _) ?_)
 | (refine congrArg Value.bool ?_))
   · have hie : os.length = i := by omega
     subst hie
     have hm := hmiss hj
     repeat' (first
 | refine W.seq ?_
 | refine W.block ?_
 | (refine W.region tys_ok [] ?_; conv => whnf)
 | (refine W.drawAll tys_ok [] mixed rfl ?_; conv => whnf)
 | (refine W.ret ?_; conv => whnf)
 | (refine W.skip ?_; conv => whnf)
 | (refine W.exit ?_; conv => whnf)
 | (refine W.cond rfl (fun hb => ?_) (fun hb => ?_) <;> (try simp only [zr, zd, zm, minL, maxL, pickB, zA] at hb) <;> (try (first | (cases hb; done) | exact absurd hb (by decide) | (exfalso; omega))))
 | ((with_reducible refine And.intro ?_ ?_); exact zc; conv => whnf)
 | ((with_reducible refine And.intro (Side.out ?_) ?_); rotate_left; (conv => whnf))
 | ((first | refine retF1 ?_ | refine retF2 ?_) <;> (conv => whnf) <;> repeat' (first
 | exact trivial
 | (with_reducible rfl)
 | ((with_reducible refine And.intro ?_ ?_) <;> conv => whnf)
 | omega
 | rfl
 | (refine congrArg (SV.arr _) ?_)
 | (refine congrArg (Value.int _) ?_)
 | (refine congrArg Value.bool ?_)))); all_goals (try unfold Side)
     all_goals try (repeat' (first | exact zb | with_reducible refine And.intro ?_ ?_))
     all_goals exact hm.symm
theorem indexB_at {os : List Od} {l : List Jb} (h : Bd l) (hor : Ords os l.length) :
  FnAt Try.prog false 49 [.arr OT os, .fn 50 [.sadr (.arr JT l)]] (.lit (.int .i64 (ixT os l))) [] := by
 have ho := hor.1
 have hf : ∀ i, i < os.length → FnAt Try.prog false 50 [.agg [I64 (os.getD i O0).1, I64 (os.getD i O0).2.1], .sadr (.arr JT l)] (.lit (.bool (lateT l (os.getD i O0)))) [] := fun i hi => by
  have := hor.2 i hi
  exact lateB_at h ⟨this.1, this.2.1⟩ ⟨this.2.2.1, this.2.2.2⟩
 have hlo : @List.length OT.T os = os.length := rfl
 have hhit := fun i => ix_hit (os := os) (l := l) (i := i)
 have hmiss := ix_miss (os := os) (l := l)
 obtain ⟨X, hX⟩ : ∃ X, X = ixT os l := ⟨_, rfl⟩
 rw [← hX] at hhit hmiss ⊢
 clear hX
 refine FnAt.of_body tys_ok Try.func49 (by rfl) rfl Try.ntmps49 (by rw [Try.results49]) (by simp) ?_
 repeat' (first
 | refine W.seq ?_
 | refine W.block ?_
 | (refine W.region tys_ok [] ?_; conv => whnf)
 | (refine W.drawAll tys_ok [] mixed rfl ?_; conv => whnf)
 | (refine W.ret ?_; conv => whnf)
 | (refine W.skip ?_; conv => whnf)
 | (refine W.exit ?_; conv => whnf)
 | (refine W.cond rfl (fun hb => ?_) (fun hb => ?_) <;> (try simp only [zr, zd, zm, minL, maxL, pickB, zA] at hb) <;> (try (first | (cases hb; done) | exact absurd hb (by decide) | (exfalso; omega))))
 | ((with_reducible refine And.intro ?_ ?_); exact zc; conv => whnf)
 | ((with_reducible refine And.intro (Side.out ?_) ?_); rotate_left; (conv => whnf))
 | ((first | refine retF1 ?_ | refine retF2 ?_) <;> (conv => whnf) <;> repeat' (first
 | exact trivial
 | (with_reducible rfl)
 | ((with_reducible refine And.intro ?_ ?_) <;> conv => whnf)
 | omega
 | rfl
 | (refine congrArg (SV.arr _) ?_)
 | (refine congrArg (Value.int _) ?_)
 | (refine congrArg Value.bool ?_)))); all_goals (try unfold Side)
 all_goals try (repeat' (first | exact zb | with_reducible refine And.intro ?_ ?_))
 refine W.loop (fun i : Nat => ⟨[(0, .st false (.arr OT os)), (1, .fn 50 [.st false (.sadr (.arr JT l))]), (7, .lit (.int .i64 ((os.length : Int)))), (8, .lit (.int .i64 (i)))], []⟩) (fun i => i ≤ os.length ∧ (∀ j, j < i → lateT l (os.getD j O0) = false)) (fun i => os.length - i) (0) ?_ ?_
 · refine ⟨⟨Nat.zero_le _, by omega⟩, ?_⟩
   refine subF.ok ?_ <;> (conv => whnf) <;> repeat' (first
 | exact trivial
 | (with_reducible rfl)
 | ((with_reducible refine And.intro ?_ ?_) <;> conv => whnf)
 | omega
 | rfl
 | (refine congrArg (SV.arr _) ?_)
 | (refine congrArg (Value.int _) ?_)
 | (refine congrArg Value.bool ?_))
 · rintro i ⟨hi, hj⟩
   by_cases hil : i < os.length
   · have hc := hf i hil
     have hh := hhit i hil
     cases e : lateT l (os.getD i O0) with
     | true =>
      rw [e] at hc
      have hh := hh e hj
      repeat' (first
 | refine W.seq ?_
 | refine W.block ?_
 | (refine W.region tys_ok [] ?_; conv => whnf)
 | (refine W.drawAll tys_ok [] mixed rfl ?_; conv => whnf)
 | (refine W.ret ?_; conv => whnf)
 | (refine W.skip ?_; conv => whnf)
 | (refine W.exit ?_; conv => whnf)
 | (refine call_at (al := false) (hc) rfl rfl rfl rfl ?_; conv => whnf)
 | (refine W.cond rfl (fun hb => ?_) (fun hb => ?_) <;> (try simp only [zr, zd, zm, minL, maxL, pickB, zA] at hb) <;> (try (first | (cases hb; done) | exact absurd hb (by decide) | (exfalso; omega))))
 | ((with_reducible refine And.intro ?_ ?_); exact zc; conv => whnf)
 | ((with_reducible refine And.intro (Side.out ?_) ?_); rotate_left; (conv => whnf))
 | ((first | refine retF1 ?_ | refine retF2 ?_) <;> (conv => whnf) <;> repeat' (first
 | exact trivial
 | (with_reducible rfl)
 | ((with_reducible refine And.intro ?_ ?_) <;> conv => whnf)
 | omega
 | rfl
 | (refine congrArg (SV.arr _) ?_)
 | (refine congrArg (Value.int _) ?_)
 | (refine congrArg Value.bool ?_)))); all_goals (try unfold Side)
      all_goals try (repeat' (first | exact zb | with_reducible refine And.intro ?_ ?_))
      all_goals exact hh.symm
     | false =>
      rw [e] at hc
      repeat' (first
 | refine W.seq ?_
 | refine W.block ?_
 | (refine W.region tys_ok [] ?_; conv => whnf)
 | (refine W.drawAll tys_ok [] mixed rfl ?_; conv => whnf)
 | (refine W.ret ?_; conv => whnf)
 | (refine W.skip ?_; conv => whnf)
 | (refine W.exit ?_; conv => whnf)
 | (refine call_at (al := false) (hc) rfl rfl rfl rfl ?_; conv => whnf)
 | (refine W.cond rfl (fun hb => ?_) (fun hb => ?_) <;> (try simp only [zr, zd, zm, minL, maxL, pickB, zA] at hb) <;> (try (first | (cases hb; done) | exact absurd hb (by decide) | (exfalso; omega))))
 | ((with_reducible refine And.intro ?_ ?_); exact zc; conv => whnf)
 | ((with_reducible refine And.intro (Side.out ?_) ?_); rotate_left; (conv => whnf))
 | ((first | refine retF1 ?_ | refine retF2 ?_) <;> (conv => whnf) <;> repeat' (first
 | exact trivial
 | (with_reducible rfl)
 | ((with_reducible refine And.intro ?_ ?_) <;> conv => whnf)
 | omega
 | rfl
 | (refine congrArg (SV.arr _) ?_)
 | (refine congrArg (Value.int _) ?_)
 | (refine congrArg Value.bool ?_)))); all_goals (try unfold Side)
      all_goals try (repeat' (first | exact zb | with_reducible refine And.intro ?_ ?_))
      refine ⟨i + 1, ⟨⟨by omega, fun m hm => ?_⟩, by omega⟩, ?_⟩
      · by_cases e2 : m = i
        · subst e2; exact e
        · exact hj m (by omega)
      · refine subF.ok ?_ <;> (conv => whnf) <;> repeat' (first
 | exact trivial
 | (with_reducible rfl)
 | ((with_reducible refine And.intro ?_ ?_) <;> conv => whnf)
 | omega
 | rfl
 | (refine congrArg (SV.arr _) ?_)
 | (refine congrArg (Value.int _) ?_)
 | (refine congrArg Value.bool ?_))
   · have hie : os.length = i := by omega
     subst hie
     have hm := hmiss hj
     repeat' (first
 | refine W.seq ?_
 | refine W.block ?_
 | (refine W.region tys_ok [] ?_; conv => whnf)
 | (refine W.drawAll tys_ok [] mixed rfl ?_; conv => whnf)
 | (refine W.ret ?_; conv => whnf)
 | (refine W.skip ?_; conv => whnf)
 | (refine W.exit ?_; conv => whnf)
 | (refine W.cond rfl (fun hb => ?_) (fun hb => ?_) <;> (try simp only [zr, zd, zm, minL, maxL, pickB, zA] at hb) <;> (try (first | (cases hb; done) | exact absurd hb (by decide) | (exfalso; omega))))
 | ((with_reducible refine And.intro ?_ ?_); exact zc; conv => whnf)
 | ((with_reducible refine And.intro (Side.out ?_) ?_); rotate_left; (conv => whnf))
 | ((first | refine retF1 ?_ | refine retF2 ?_) <;> (conv => whnf) <;> repeat' (first
 | exact trivial
 | (with_reducible rfl)
 | ((with_reducible refine And.intro ?_ ?_) <;> conv => whnf)
 | omega
 | rfl
 | (refine congrArg (SV.arr _) ?_)
 | (refine congrArg (Value.int _) ?_)
 | (refine congrArg Value.bool ?_)))); all_goals (try unfold Side)
     all_goals try (repeat' (first | exact zb | with_reducible refine And.intro ?_ ?_))
     all_goals exact hm.symm
theorem anyLate_at {l : List Jb} {os : List Od} (h : Bd l) (ho : Ords os l.length) : FnAt Try.prog false 40 [.arr OT os, .fn 41 [.sadr (.arr JT l)]] (.lit (.bool (os.any (lateT l)))) [] := by
 have hi := indexA_at h ho
 have he := ix_any (os := os) (l := l)
 obtain ⟨X, hX⟩ : ∃ X, X = ixT os l := ⟨_, rfl⟩
 rw [← hX] at hi he
 rw [← he]
 refine FnAt.of_body tys_ok Try.func40 (by rfl) rfl Try.ntmps40 (by rw [Try.results40]) (by simp) ?_
 repeat' (first
 | refine W.seq ?_
 | refine W.block ?_
 | (refine W.region tys_ok [] ?_; conv => whnf)
 | (refine W.drawAll tys_ok [] mixed rfl ?_; conv => whnf)
 | (refine W.ret ?_; conv => whnf)
 | (refine W.skip ?_; conv => whnf)
 | (refine W.exit ?_; conv => whnf)
 | (refine call_at (al := false) (hi) rfl rfl rfl rfl ?_; conv => whnf)
 | (refine W.cond rfl (fun hb => ?_) (fun hb => ?_) <;> (try simp only [zr, zd, zm, minL, maxL, pickB, zA] at hb) <;> (try (first | (cases hb; done) | exact absurd hb (by decide) | (exfalso; omega))))
 | ((with_reducible refine And.intro ?_ ?_); exact zc; conv => whnf)
 | ((with_reducible refine And.intro (Side.out ?_) ?_); rotate_left; (conv => whnf))
 | ((first | refine retF1 ?_ | refine retF2 ?_) <;> (conv => whnf) <;> repeat' (first
 | exact trivial
 | (with_reducible rfl)
 | ((with_reducible refine And.intro ?_ ?_) <;> conv => whnf)
 | omega
 | rfl
 | (refine congrArg (SV.arr _) ?_)
 | (refine congrArg (Value.int _) ?_)
 | (refine congrArg Value.bool ?_)))); all_goals (try unfold Side)
 all_goals try (repeat' (first | exact zb | with_reducible refine And.intro ?_ ?_))
theorem bd_of {P : Int} {l : List Jb} {os : List Od} (h : VS P l os) : Bd l := ⟨by have := h.ln; omega, fun m hm => by
 have := h.rg m hm
 unfold JobOk at this
 unfold jf jt jl jp
 omega⟩
theorem ords_of {P : Int} {l : List Jb} {os : List Od} (h : VS P l os) : Ords os l.length := ⟨by have := h.lo; omega, fun i hi => by
 have := h.od i hi
 unfold OrdOk at this
 omega⟩
open Go Go.Vc Go.Sh
theorem fix_bd {l : List Jb} {os : List Od} {i : Nat} {x : Int} (h : Bd l) (hi : i < l.length) (h0 : jf l i ≤ x) (h1 : x ≤ jt l i - jl l i) : Bd (fixT l i x) := by
 refine ⟨by rw [fix_len]; exact h.len, fun m hm => ?_⟩
 rw [fix_len] at hm
 have h2 := h.rg i hi
 have h3 := h.rg m hm
 rw [fix_f hi, fix_t hi, fix_l hi, fix_p hi]
 by_cases e : m = i
 · subst e; rw [if_pos rfl, if_pos rfl]; omega
 · rw [if_neg e, if_neg e]; exact h3
theorem growT_len {P : Int} {os : List Od} {k : Nat} {l : List Jb} {i : Nat} (hk : k + i = l.length) (hp : Pre l os i) {r : List Int} (h : growT P os k l i = some r) : r.length = l.length := by
 have := growT_ok (P := P) hk hp
 rw [h] at this
 exact this.1.len
set_option maxHeartbeats 4000000 in
theorem grow0_at {P : Int} {l0 : List Jb} {os : List Od} (hP : 0 ≤ P ∧ P ≤ 100) {l : List Jb} {i : Nat} (hk : i = l.length) (h1 : 1 ≤ l.length) (hb : Bd l) (ho : Ords os l.length) :
  FnM Try.prog 38 [.st false (.arr JT l), .lit (.int .i64 i), .padr 1000000000 0, .padr 1000000001 0] [(1000000000, .box [.lit (.int .i64 P), .st true (.arr JT l0), .st true (.arr OT os)]), (1000000001, .box1 (.fn 38 [.padr 1000000000 0, .padr 1000000001 0]))]
   (.st true (.narr (.int .i64) ((growT P os 0 l i).getD [] : List Int))) [(1000000000, .box [.lit (.int .i64 P), .st true (.arr JT l0), .st true (.arr OT os)]), (1000000001, .box1 (.fn 38 [.padr 1000000000 0, .padr 1000000001 0]))] := by
 have hov := overfull_at hP hb
 have hany := anyLate_at hb ho
 have hll : @List.length JT.T l = l.length := rfl
 have hbad : badB P l os = (ovB P l || os.any (lateT l)) := by rw [ovB_over]; rfl
 have hg : growT P os 0 l i = if badB P l os = true then none else some (l.map (·.1)) := rfl
 have hlen := hb.len
 cases e1 : ovB P l with
 | true =>
  rw [e1] at hov hbad
  rw [hg, if_pos (by rw [hbad]; rfl)]
  refine FnM.of_body tys_ok Try.func38 (by rfl) rfl Try.ntmps38 (by rw [Try.results38]) (by simp) ?_
  repeat' (first
 | refine W.seq ?_
 | refine W.block ?_
 | (refine W.region tys_ok [] ?_; conv => whnf)
 | (refine W.drawAll tys_ok [] mixed rfl ?_; conv => whnf)
 | (refine W.ret ?_; conv => whnf)
 | (refine W.skip ?_; conv => whnf)
 | (refine W.exit ?_; conv => whnf)
 | (refine call_at (al := false) (hov) rfl rfl rfl rfl ?_; conv => whnf)
 | (refine call_at (al := false) (hany) rfl rfl rfl rfl ?_; conv => whnf)
 | (refine W.cond rfl (fun hb => ?_) (fun hb => ?_) <;> (try simp only [zr, zd, zm, minL, maxL, pickB, zA] at hb) <;> (try (first | (cases hb; done) | exact absurd hb (by decide) | (exfalso; omega))))
 | ((with_reducible refine And.intro ?_ ?_); exact zc; conv => whnf)
 | ((with_reducible refine And.intro (Side.out ?_) ?_); rotate_left; (conv => whnf))
 | ((first | refine retM1 ?_ | refine retM2 ?_) <;> (conv => whnf) <;> repeat' (first
 | exact trivial
 | (with_reducible rfl)
 | ((with_reducible refine And.intro ?_ ?_) <;> conv => whnf)
 | omega
 | rfl
 | (refine congrArg (SV.arr _) ?_)
 | (refine congrArg (Value.int _) ?_)
 | (refine congrArg Value.bool ?_)))); all_goals (try unfold Side)
  all_goals try (repeat' (first | exact zb | with_reducible refine And.intro ?_ ?_))
 | false =>
  rw [e1] at hov hbad
  cases e2 : os.any (lateT l) with
  | true =>
   rw [e2] at hany hbad
   rw [hg, if_pos (by rw [hbad]; rfl)]
   refine FnM.of_body tys_ok Try.func38 (by rfl) rfl Try.ntmps38 (by rw [Try.results38]) (by simp) ?_
   repeat' (first
 | refine W.seq ?_
 | refine W.block ?_
 | (refine W.region tys_ok [] ?_; conv => whnf)
 | (refine W.drawAll tys_ok [] mixed rfl ?_; conv => whnf)
 | (refine W.ret ?_; conv => whnf)
 | (refine W.skip ?_; conv => whnf)
 | (refine W.exit ?_; conv => whnf)
 | (refine call_at (al := false) (hov) rfl rfl rfl rfl ?_; conv => whnf)
 | (refine call_at (al := false) (hany) rfl rfl rfl rfl ?_; conv => whnf)
 | (refine W.cond rfl (fun hb => ?_) (fun hb => ?_) <;> (try simp only [zr, zd, zm, minL, maxL, pickB, zA] at hb) <;> (try (first | (cases hb; done) | exact absurd hb (by decide) | (exfalso; omega))))
 | ((with_reducible refine And.intro ?_ ?_); exact zc; conv => whnf)
 | ((with_reducible refine And.intro (Side.out ?_) ?_); rotate_left; (conv => whnf))
 | ((first | refine retM1 ?_ | refine retM2 ?_) <;> (conv => whnf) <;> repeat' (first
 | exact trivial
 | (with_reducible rfl)
 | ((with_reducible refine And.intro ?_ ?_) <;> conv => whnf)
 | omega
 | rfl
 | (refine congrArg (SV.arr _) ?_)
 | (refine congrArg (Value.int _) ?_)
 | (refine congrArg Value.bool ?_)))); all_goals (try unfold Side)
   all_goals try (repeat' (first | exact zb | with_reducible refine And.intro ?_ ?_))
  | false =>
   rw [e2] at hany hbad
   rw [hg, if_neg (by rw [hbad]; decide)]
   obtain ⟨M, hM⟩ : ∃ M : Nat → List Int, M = fun j => (l.take j).map (·.1) := ⟨_, rfl⟩
   have hM0 : M 0 = [] := by rw [hM]; rfl
   have hMl : ∀ j, j ≤ l.length → (M j).length = j := fun j hj => by rw [hM]; simp; omega
   have hMs : ∀ j, j < l.length → M j ++ [(l.getD j J0).1] = M (j + 1) := fun j hj => by
    rw [hM]
    show (l.take j).map (·.1) ++ [(l.getD j J0).1] = (l.take (j + 1)).map (·.1)
    rw [List.take_succ_eq_append_getElem hj, List.map_append, List.getD_eq_getElem?_getD, List.getElem?_eq_getElem hj]
    rfl
   have hMn : M l.length = l.map (·.1) := by rw [hM]; show (l.take l.length).map (·.1) = _; rw [List.take_length]
   have hMne : M l.length ≠ [] := fun e => by have := hMl l.length (Nat.le_refl _); rw [e] at this; simp at this; omega
   rw [show ((some (l.map (·.1))).getD [] : List Int) = M l.length from hMn.symm]
   refine FnM.of_body tys_ok Try.func38 (by rfl) rfl Try.ntmps38 (by rw [Try.results38]) (by simp) ?_
   repeat' (first
 | refine W.seq ?_
 | refine W.block ?_
 | (refine W.region tys_ok [] ?_; conv => whnf)
 | (refine W.drawAll tys_ok [] mixed rfl ?_; conv => whnf)
 | (refine W.ret ?_; conv => whnf)
 | (refine W.skip ?_; conv => whnf)
 | (refine W.exit ?_; conv => whnf)
 | (refine call_at (al := false) (hov) rfl rfl rfl rfl ?_; conv => whnf)
 | (refine call_at (al := false) (hany) rfl rfl rfl rfl ?_; conv => whnf)
 | (refine W.cond rfl (fun hb => ?_) (fun hb => ?_) <;> (try simp only [zr, zd, zm, minL, maxL, pickB, zA] at hb) <;> (try (first | (cases hb; done) | exact absurd hb (by decide) | (exfalso; omega) | (omega))))
 | ((with_reducible refine And.intro ?_ ?_); exact zc; conv => whnf)
 | ((with_reducible refine And.intro (Side.out ?_) ?_); rotate_left; (conv => whnf))
 | ((first | refine retM1 ?_ | refine retM2 ?_) <;> (conv => whnf) <;> repeat' (first
 | exact trivial
 | (with_reducible rfl)
 | ((with_reducible refine And.intro ?_ ?_) <;> conv => whnf)
 | omega
 | rfl
 | (refine congrArg (SV.arr _) ?_)
 | (refine congrArg (Value.int _) ?_)
 | (refine congrArg Value.bool ?_)))); all_goals (try unfold Side)
   all_goals try (repeat' (first | exact zb | with_reducible refine And.intro ?_ ?_))
   refine W.loop (fun j : Nat => ⟨[(2, .padr 1000000000 0), (3, .padr 1000000001 0), (10, .own 5000), (35, .st false (.arr JT l)), (36, .lit (.int .i64 ((l.length : Int)))), (37, .lit (.int .i64 (j)))], [(5000, .row 3 (.int .i64) true ((M j) : List Int)), (1000000000, .box [.lit (.int .i64 P), .st true (.arr JT l0), .st true (.arr OT os)]), (1000000001, .box1 (.fn 38 [.padr 1000000000 0, .padr 1000000001 0]))]⟩) (fun j => j ≤ l.length) (fun j => l.length - j) (0) ?_ ?_
   · refine ⟨Nat.zero_le _, ?_⟩
     refine subF.ok ?_ <;> (conv => whnf) <;> repeat' (first
 | exact trivial
 | (with_reducible rfl)
 | ((with_reducible refine And.intro ?_ ?_) <;> conv => whnf)
 | omega
 | rfl
 | (refine congrArg (SV.arr _) ?_)
 | (refine congrArg (Value.int _) ?_)
 | (refine congrArg Value.bool ?_))
     all_goals exact hM0
   · intro j hj
     have hl := hMl j hj
     by_cases hjl : j < l.length
     · have hs := hMs j hjl
       repeat' (first
 | refine W.seq ?_
 | refine W.block ?_
 | (refine W.region tys_ok [] ?_; conv => whnf)
 | (refine W.drawAll tys_ok [] mixed rfl ?_; conv => whnf)
 | (refine W.ret ?_; conv => whnf)
 | (refine W.skip ?_; conv => whnf)
 | (refine W.exit ?_; conv => whnf)
 | (refine W.cond rfl (fun hb => ?_) (fun hb => ?_) <;> (try simp only [zr, zd, zm, minL, maxL, pickB, zA] at hb) <;> (try (first | (cases hb; done) | exact absurd hb (by decide) | (exfalso; omega))))
 | ((with_reducible refine And.intro ?_ ?_); exact zc; conv => whnf)
 | ((with_reducible refine And.intro (Side.out ?_) ?_); rotate_left; (conv => whnf))
 | ((first | refine retM1 ?_ | refine retM2 ?_) <;> (conv => whnf) <;> repeat' (first
 | exact trivial
 | (with_reducible rfl)
 | ((with_reducible refine And.intro ?_ ?_) <;> conv => whnf)
 | omega
 | rfl
 | (refine congrArg (SV.arr _) ?_)
 | (refine congrArg (Value.int _) ?_)
 | (refine congrArg Value.bool ?_)))); all_goals (try unfold Side)
       all_goals try (repeat' (first | exact zb | with_reducible refine And.intro ?_ ?_))
       refine ⟨j + 1, ⟨by omega, by omega⟩, ?_⟩
       refine subF.ok ?_ <;> (conv => whnf) <;> repeat' (first
 | exact trivial
 | (with_reducible rfl)
 | ((with_reducible refine And.intro ?_ ?_) <;> conv => whnf)
 | omega
 | rfl
 | (refine congrArg (SV.arr _) ?_)
 | (refine congrArg (Value.int _) ?_)
 | (refine congrArg Value.bool ?_))
       all_goals exact hs
     · have hje : l.length = j := by omega
       subst hje
       repeat' (first
 | refine W.seq ?_
 | refine W.block ?_
 | (refine W.region tys_ok [] ?_; conv => whnf)
 | (refine W.drawAll tys_ok [] mixed rfl ?_; conv => whnf)
 | (refine W.ret ?_; conv => whnf)
 | (refine W.skip ?_; conv => whnf)
 | (refine W.exit ?_; conv => whnf)
 | (refine W.cond rfl (fun hb => ?_) (fun hb => ?_) <;> (try simp only [zr, zd, zm, minL, maxL, pickB, zA] at hb) <;> (try (first | (cases hb; done) | exact absurd hb (by decide) | (exfalso; omega))))
 | ((with_reducible refine And.intro ?_ ?_); exact zc; conv => whnf)
 | ((with_reducible refine And.intro (Side.out ?_) ?_); rotate_left; (conv => whnf))
 | ((first | refine retM1 ?_ | refine retM2 ?_) <;> (conv => whnf) <;> repeat' (first
 | exact trivial
 | (with_reducible rfl)
 | ((with_reducible refine And.intro ?_ ?_) <;> conv => whnf)
 | omega
 | rfl
 | (refine congrArg (SV.arr _) ?_)
 | (refine congrArg (Value.int _) ?_)
 | (refine congrArg Value.bool ?_)))); all_goals (try unfold Side)
       all_goals try (repeat' (first | exact zb | with_reducible refine And.intro ?_ ?_))
       all_goals exact hMne
open Int renaming reduceToNat → zr, reduceTDiv → zd, reduceTMod → zm
open Go Go.Vc Go.Sh
theorem fix_two {l : List Jb} {i : Nat} {x : Int} (hi : i < l.length) : (l.set i (x, (l.getD i J0).2)).set i (((l.set i (x, (l.getD i J0).2)).getD i J0).1, x + (l.getD i J0).2.2.1, ((l.set i (x, (l.getD i J0).2)).getD i J0).2.2) = fixT l i x := by
 have e : (l.set i (x, (l.getD i J0).2)).getD i J0 = (x, (l.getD i J0).2) := by
  rw [List.getD_eq_getElem?_getD, List.getElem?_set]; simp [hi]
 rw [e, List.set_set]
 rfl
set_option maxHeartbeats 4000000 in
theorem growS_at {P : Int} {l0 : List Jb} {os : List Od} (hP : 0 ≤ P ∧ P ≤ 100) {k : Nat} {l : List Jb} {i : Nat} (hk : k + 1 + i = l.length) (hp : Pre l os i) (hb : Bd l) (ho : Ords os l.length)
  (ih : ∀ d : Nat, jf l i + d ≤ jt l i - jl l i → FnM Try.prog 38 [.st false (.arr JT (fixT l i (jf l i + d))), .lit (.int .i64 ((i + 1 : Nat) : Int)), .padr 1000000000 0, .padr 1000000001 0] [(1000000000, .box [.lit (.int .i64 P), .st true (.arr JT l0), .st true (.arr OT os)]), (1000000001, .box1 (.fn 38 [.padr 1000000000 0, .padr 1000000001 0]))]
   (.st true (.narr (.int .i64) ((growT P os k (fixT l i (jf l i + d)) (i + 1)).getD [] : List Int))) [(1000000000, .box [.lit (.int .i64 P), .st true (.arr JT l0), .st true (.arr OT os)]), (1000000001, .box1 (.fn 38 [.padr 1000000000 0, .padr 1000000001 0]))]) :
  FnM Try.prog 38 [.st false (.arr JT l), .lit (.int .i64 i), .padr 1000000000 0, .padr 1000000001 0] [(1000000000, .box [.lit (.int .i64 P), .st true (.arr JT l0), .st true (.arr OT os)]), (1000000001, .box1 (.fn 38 [.padr 1000000000 0, .padr 1000000001 0]))]
   (.st true (.narr (.int .i64) ((growT P os (k + 1) l i).getD [] : List Int))) [(1000000000, .box [.lit (.int .i64 P), .st true (.arr JT l0), .st true (.arr OT os)]), (1000000001, .box1 (.fn 38 [.padr 1000000000 0, .padr 1000000001 0]))] := by
 have hov := overfull_at hP hb
 have hany := anyLate_at hb ho
 have hll : @List.length JT.T l = l.length := rfl
 have hbad : badB P l os = (ovB P l || os.any (lateT l)) := by rw [ovB_over]; rfl
 have hg : growT P os (k + 1) l i = if badB P l os = true then none else tryK (fun d => growT P os k (fixT l i (jf l i + d)) (i + 1)) (jt l i - jl l i - jf l i + 1).toNat := rfl
 have hlen := hb.len
 have hil : i < l.length := by omega
 have hrg := hp.rg i hil
 have hcl := clone_at (l := l) (by omega) (by omega)
 cases e1 : ovB P l with
 | true =>
  rw [e1] at hov hbad
  rw [hg, if_pos (by rw [hbad]; rfl)]
  refine FnM.of_body tys_ok Try.func38 (by rfl) rfl Try.ntmps38 (by rw [Try.results38]) (by simp) ?_
  repeat' (first
 | refine W.seq ?_
 | refine W.block ?_
 | (refine W.region tys_ok [] ?_; conv => whnf)
 | (refine W.drawAll tys_ok [] mixed rfl ?_; conv => whnf)
 | (refine W.ret ?_; conv => whnf)
 | (refine W.skip ?_; conv => whnf)
 | (refine W.exit ?_; conv => whnf)
 | (refine call_at (al := false) (hov) rfl rfl rfl rfl ?_; conv => whnf)
 | (refine call_at (al := false) (hany) rfl rfl rfl rfl ?_; conv => whnf)
 | (refine W.cond rfl (fun hb => ?_) (fun hb => ?_) <;> (try simp only [zr, zd, zm, minL, maxL, pickB, zA] at hb) <;> (try (first | (cases hb; done) | exact absurd hb (by decide) | (exfalso; omega))))
 | ((with_reducible refine And.intro ?_ ?_); exact zc; conv => whnf)
 | ((with_reducible refine And.intro (Side.out ?_) ?_); rotate_left; (conv => whnf))
 | ((first | refine retM1 ?_ | refine retM2 ?_) <;> (conv => whnf) <;> repeat' (first
 | exact trivial
 | (with_reducible rfl)
 | ((with_reducible refine And.intro ?_ ?_) <;> conv => whnf)
 | omega
 | rfl
 | (refine congrArg (SV.arr _) ?_)
 | (refine congrArg (Value.int _) ?_)
 | (refine congrArg Value.bool ?_)))); all_goals (try unfold Side)
  all_goals try (repeat' (first | exact zb | with_reducible refine And.intro ?_ ?_))
 | false =>
  rw [e1] at hov hbad
  cases e2 : os.any (lateT l) with
  | true =>
   rw [e2] at hany hbad
   rw [hg, if_pos (by rw [hbad]; rfl)]
   refine FnM.of_body tys_ok Try.func38 (by rfl) rfl Try.ntmps38 (by rw [Try.results38]) (by simp) ?_
   repeat' (first
 | refine W.seq ?_
 | refine W.block ?_
 | (refine W.region tys_ok [] ?_; conv => whnf)
 | (refine W.drawAll tys_ok [] mixed rfl ?_; conv => whnf)
 | (refine W.ret ?_; conv => whnf)
 | (refine W.skip ?_; conv => whnf)
 | (refine W.exit ?_; conv => whnf)
 | (refine call_at (al := false) (hov) rfl rfl rfl rfl ?_; conv => whnf)
 | (refine call_at (al := false) (hany) rfl rfl rfl rfl ?_; conv => whnf)
 | (refine W.cond rfl (fun hb => ?_) (fun hb => ?_) <;> (try simp only [zr, zd, zm, minL, maxL, pickB, zA] at hb) <;> (try (first | (cases hb; done) | exact absurd hb (by decide) | (exfalso; omega))))
 | ((with_reducible refine And.intro ?_ ?_); exact zc; conv => whnf)
 | ((with_reducible refine And.intro (Side.out ?_) ?_); rotate_left; (conv => whnf))
 | ((first | refine retM1 ?_ | refine retM2 ?_) <;> (conv => whnf) <;> repeat' (first
 | exact trivial
 | (with_reducible rfl)
 | ((with_reducible refine And.intro ?_ ?_) <;> conv => whnf)
 | omega
 | rfl
 | (refine congrArg (SV.arr _) ?_)
 | (refine congrArg (Value.int _) ?_)
 | (refine congrArg Value.bool ?_)))); all_goals (try unfold Side)
   all_goals try (repeat' (first | exact zb | with_reducible refine And.intro ?_ ?_))
  | false =>
   rw [e2] at hany hbad
   rw [hg, if_neg (by rw [hbad]; decide)]
   have hlens : ∀ d : Nat, jf l i + d ≤ jt l i - jl l i → ∀ r, growT P os k (fixT l i (jf l i + d)) (i + 1) = some r → r ≠ [] := fun d hd r hr e => by
    have := growT_len (P := P) (by rw [fix_len]; omega) (fix_pre hp hil (by omega) hd) hr
    rw [fix_len, e] at this
    simp at this
    omega
   obtain ⟨G, hG⟩ : ∃ G : Nat → Option (List Int), G = fun d : Nat => growT P os k (fixT l i (jf l i + (d : Int))) (i + 1) := ⟨_, rfl⟩
   have ih' : ∀ d : Nat, jf l i + d ≤ jt l i - jl l i → FnM Try.prog 38 [.st false (.arr JT (fixT l i (jf l i + d))), .lit (.int .i64 ((i + 1 : Nat) : Int)), .padr 1000000000 0, .padr 1000000001 0] [(1000000000, .box [.lit (.int .i64 P), .st true (.arr JT l0), .st true (.arr OT os)]), (1000000001, .box1 (.fn 38 [.padr 1000000000 0, .padr 1000000001 0]))]
    (.st true (.narr (.int .i64) ((G d).getD [] : List Int))) [(1000000000, .box [.lit (.int .i64 P), .st true (.arr JT l0), .st true (.arr OT os)]), (1000000001, .box1 (.fn 38 [.padr 1000000000 0, .padr 1000000001 0]))] := by rw [hG]; exact ih
   have hlens' : ∀ d : Nat, jf l i + d ≤ jt l i - jl l i → ∀ r, G d = some r → r ≠ [] := by rw [hG]; exact hlens
   rw [← hG]
   clear hG ih hlens hg
   have hnat : ((jt l i - jl l i - jf l i + 1).toNat : Int) = jt l i - jl l i - jf l i + 1 := by omega
   obtain ⟨n, hn⟩ : ∃ n, n = (jt l i - jl l i - jf l i + 1).toNat := ⟨_, rfl⟩
   rw [← hn] at hnat ⊢
   have hfx : ∀ x, fixT l i x = l.set i (x, x + jl l i, jl l i, jp l i, ()) := fun x => rfl
   obtain ⟨F, hF⟩ : ∃ F, F = jf l i := ⟨_, rfl⟩
   obtain ⟨T, hT⟩ : ∃ T, T = jt l i := ⟨_, rfl⟩
   obtain ⟨Ln, hLn⟩ : ∃ Ln, Ln = jl l i := ⟨_, rfl⟩
   have hF' : (l.getD i J0).1 = F := hF.symm
   have hT' : (l.getD i J0).2.1 = T := hT.symm
   have hLn' : (l.getD i J0).2.2.1 = Ln := hLn.symm
   rw [← hF, ← hT, ← hLn] at hrg hnat ih' hlens'
   rw [← hLn] at hfx
   have hsl : ∀ y : Jb, ((i : Int)).toNat < (List.set l ((i : Int)).toNat y).length := fun y => by rw [List.length_set]; omega
   have hft0 : ∀ x, (l.set i (x, (l.getD i J0).2)).set i (((l.set i (x, (l.getD i J0).2)).getD i J0).1, x + (l.getD i J0).2.2.1, ((l.set i (x, (l.getD i J0).2)).getD i J0).2.2) = fixT l i x := fun x => fix_two hil
   refine FnM.of_body tys_ok Try.func38 (by rfl) rfl Try.ntmps38 (by rw [Try.results38]) (by simp) ?_
   repeat' (first
 | refine W.seq ?_
 | refine W.block ?_
 | (refine W.region tys_ok [] ?_; conv => whnf)
 | (refine W.drawAll tys_ok [] mixed rfl ?_; conv => whnf)
 | (refine W.ret ?_; conv => whnf)
 | (refine W.skip ?_; conv => whnf)
 | (refine W.exit ?_; conv => whnf)
 | (refine call_at (al := false) (hov) rfl rfl rfl rfl ?_; conv => whnf)
 | (refine call_at (al := false) (hany) rfl rfl rfl rfl ?_; conv => whnf)
 | (refine W.cond rfl (fun hb => ?_) (fun hb => ?_) <;> (try simp only [zr, zd, zm, minL, maxL, pickB, zA] at hb) <;> (try (first | (cases hb; done) | exact absurd hb (by decide) | (exfalso; omega) | (omega))))
 | ((with_reducible refine And.intro ?_ ?_); exact zc; conv => whnf)
 | ((with_reducible refine And.intro (Side.out ?_) ?_); rotate_left; (conv => whnf))
 | ((first | refine retM1 ?_ | refine retM2 ?_) <;> (conv => whnf) <;> repeat' (first
 | exact trivial
 | (with_reducible rfl)
 | ((with_reducible refine And.intro ?_ ?_) <;> conv => whnf)
 | omega
 | rfl
 | (refine congrArg (SV.arr _) ?_)
 | (refine congrArg (Value.int _) ?_)
 | (refine congrArg Value.bool ?_)))); all_goals (try unfold Side)
   all_goals try (repeat' (first | exact zb | with_reducible refine And.intro ?_ ?_))
   refine W.loop (fun d : Nat => ⟨[(1, .lit (.int .i64 (i))), (2, .padr 1000000000 0), (3, .padr 1000000001 0), (4, .st false (.sadr (.arr JT l))), (13, .lit (.int .i64 ((F + (d : Int)))))], [(1000000000, .box [.lit (.int .i64 P), .st true (.arr JT l0), .st true (.arr OT os)]), (1000000001, .box1 (.fn 38 [.padr 1000000000 0, .padr 1000000001 0]))]⟩) (fun d => d ≤ n ∧ (∀ e, e < d → G e = none)) (fun d => n - d) (0) ?_ ?_
   · refine ⟨⟨Nat.zero_le _, by omega⟩, ?_⟩
     refine subF.ok ?_ <;> (conv => whnf) <;> repeat' (first
 | exact trivial
 | (with_reducible rfl)
 | ((with_reducible refine And.intro ?_ ?_) <;> conv => whnf)
 | omega
 | rfl
 | (refine congrArg (SV.arr _) ?_)
 | (refine congrArg (Value.int _) ?_)
 | (refine congrArg Value.bool ?_))
     all_goals (simp only [zr, zd, zm, minL, maxL, pickB, zA]; omega)
   · rintro d ⟨hd, hno⟩
     by_cases hdl : d < n
     · have hi := ih' d (by omega)
       have hl := hlens' d (by omega)
       have hft := hft0 (F + d)
       cases e : G d with
       | none =>
        rw [e] at hi
        have hi2 : FnM Try.prog 38 [.st false (.arr JT (fixT l i (F + d))), .lit (.int .i64 ((i + 1 : Nat) : Int)), .padr 1000000000 0, .padr 1000000001 0] [(1000000000, .box [.lit (.int .i64 P), .st true (.arr JT l0), .st true (.arr OT os)]), (1000000001, .box1 (.fn 38 [.padr 1000000000 0, .padr 1000000001 0]))]
         (.st true (.narr (.int .i64) ([] : List Int))) [(1000000000, .box [.lit (.int .i64 P), .st true (.arr JT l0), .st true (.arr OT os)]), (1000000001, .box1 (.fn 38 [.padr 1000000000 0, .padr 1000000001 0]))] := hi
        repeat' (first
 | refine W.seq ?_
 | refine W.block ?_
 | (refine W.resub (x := Code.region 17 _ _) (Γ' := ⟨[(1, .lit (.int .i64 (i))), (2, .padr 1000000000 0), (3, .padr 1000000001 0), (4, .st false (.sadr (.arr JT l))), (13, .lit (.int .i64 ((F + (d : Int))))), (14, .st true (.arr JT (fixT l i (F + (d : Int)))))], [(1000000000, .box [.lit (.int .i64 P), .st true (.arr JT l0), .st true (.arr OT os)]), (1000000001, .box1 (.fn 38 [.padr 1000000000 0, .padr 1000000001 0]))]⟩) ?_ (W.regionM tys_ok [] [4] ?_); rotate_left; (conv => whnf))
 | (refine W.drawPh (id := 13) tys_ok [] mixed [0, 0, 0, 6, 8, 16, 0, 0, 192, 256, 512, 1056, 2049] [([0, 1, 2, 3, 4, 5, 6, 7, 8, 9, 10, 11, 12], 0, 8191)] (by decide +kernel) ?_; conv => whnf)
 | (refine W.region tys_ok [] ?_; conv => whnf)
 | (refine W.drawAll tys_ok [] mixed rfl ?_; conv => whnf)
 | (refine W.ret ?_; conv => whnf)
 | (refine W.skip ?_; conv => whnf)
 | (refine W.exit ?_; conv => whnf)
 | (refine call_at (al := false) (hcl) rfl rfl rfl rfl ?_; conv => whnf)
 | (refine callM_at (hi2) ?_; conv => whnf)
 | (refine Both.mk ?_ ?_ <;> (conv => whnf))
 | (refine W.cond rfl (fun hb => ?_) (fun hb => ?_) <;> (try simp only [zr, zd, zm, minL, maxL, pickB, zA] at hb) <;> (try (first | (cases hb; done) | exact absurd hb (by decide) | (exfalso; omega) | (omega))))
 | (refine Or.inl (And.intro trivial ?_); (conv => whnf))
 | ((with_reducible refine And.intro ?_ ?_); exact zc; conv => whnf)
 | ((with_reducible refine And.intro (Side.out ?_) ?_); rotate_left; (conv => whnf))
 | ((first | refine retM1 ?_ | refine retM2 ?_ | refine subF.leaf ?_ | refine subF.side ?_) <;> (conv => whnf) <;> repeat' (first
 | exact trivial
 | (with_reducible rfl)
 | ((with_reducible refine And.intro ?_ ?_) <;> conv => whnf)
 | omega
 | rfl
 | (refine congrArg (SV.arr _) ?_)
 | (refine congrArg (Value.int _) ?_)
 | (refine congrArg Value.bool ?_)))); all_goals (try unfold Side)
        all_goals try (repeat' (first | exact zb | with_reducible refine And.intro ?_ ?_))
        all_goals try (first | exact hsl _ | exact Path.imp_of ⟨by omega, hsl _⟩ | exact hft)
        refine ⟨d + 1, ⟨⟨by omega, fun m hm => ?_⟩, by omega⟩, ?_⟩
        · by_cases e2 : m = d
          · subst e2; exact e
          · exact hno m (by omega)
        · refine subF.ok ?_ <;> (conv => whnf) <;> repeat' (first
 | exact trivial
 | (with_reducible rfl)
 | ((with_reducible refine And.intro ?_ ?_) <;> conv => whnf)
 | omega
 | rfl
 | (refine congrArg (SV.arr _) ?_)
 | (refine congrArg (Value.int _) ?_)
 | (refine congrArg Value.bool ?_))
          all_goals omega
       | some r =>
        rw [e] at hi
        have hr := hl r e
        have hre : r.isEmpty = false := by cases r with | nil => exact absurd rfl hr | cons => rfl
        rw [tryK_hit e hno hdl]
        have hi2 : FnM Try.prog 38 [.st false (.arr JT (fixT l i (F + d))), .lit (.int .i64 ((i + 1 : Nat) : Int)), .padr 1000000000 0, .padr 1000000001 0] [(1000000000, .box [.lit (.int .i64 P), .st true (.arr JT l0), .st true (.arr OT os)]), (1000000001, .box1 (.fn 38 [.padr 1000000000 0, .padr 1000000001 0]))]
         (.st true (.narr (.int .i64) (r : List Int))) [(1000000000, .box [.lit (.int .i64 P), .st true (.arr JT l0), .st true (.arr OT os)]), (1000000001, .box1 (.fn 38 [.padr 1000000000 0, .padr 1000000001 0]))] := hi
        repeat' (first
 | refine W.seq ?_
 | refine W.block ?_
 | (refine W.resub (x := Code.region 17 _ _) (Γ' := ⟨[(1, .lit (.int .i64 (i))), (2, .padr 1000000000 0), (3, .padr 1000000001 0), (4, .st false (.sadr (.arr JT l))), (13, .lit (.int .i64 ((F + (d : Int))))), (14, .st true (.arr JT (fixT l i (F + (d : Int)))))], [(1000000000, .box [.lit (.int .i64 P), .st true (.arr JT l0), .st true (.arr OT os)]), (1000000001, .box1 (.fn 38 [.padr 1000000000 0, .padr 1000000001 0]))]⟩) ?_ (W.regionM tys_ok [] [4] ?_); rotate_left; (conv => whnf))
 | (refine W.drawPh (id := 13) tys_ok [] mixed [0, 0, 0, 6, 8, 16, 0, 0, 192, 256, 512, 1056, 2049] [([0, 1, 2, 3, 4, 5, 6, 7, 8, 9, 10, 11, 12], 0, 8191)] (by decide +kernel) ?_; conv => whnf)
 | (refine W.region tys_ok [] ?_; conv => whnf)
 | (refine W.drawAll tys_ok [] mixed rfl ?_; conv => whnf)
 | (refine W.ret ?_; conv => whnf)
 | (refine W.skip ?_; conv => whnf)
 | (refine W.exit ?_; conv => whnf)
 | (refine call_at (al := false) (hcl) rfl rfl rfl rfl ?_; conv => whnf)
 | (refine callM_at (hi2) ?_; conv => whnf)
 | (refine Both.mk ?_ ?_ <;> (conv => whnf))
 | (refine W.cond rfl (fun hb => ?_) (fun hb => ?_) <;> (try simp only [zr, zd, zm, minL, maxL, pickB, zA] at hb) <;> (try (first | (cases hb; done) | exact absurd hb (by decide) | (exfalso; omega) | (first | omega | exact Bool.noConfusion (hb.symm.trans hre)))))
 | (refine Or.inl (And.intro trivial ?_); (conv => whnf))
 | ((with_reducible refine And.intro ?_ ?_); exact zc; conv => whnf)
 | ((with_reducible refine And.intro (Side.out ?_) ?_); rotate_left; (conv => whnf))
 | ((first | refine retM1 ?_ | refine retM2 ?_ | refine subF.leaf ?_ | refine subF.side ?_) <;> (conv => whnf) <;> repeat' (first
 | exact trivial
 | (with_reducible rfl)
 | ((with_reducible refine And.intro ?_ ?_) <;> conv => whnf)
 | omega
 | rfl
 | (refine congrArg (SV.arr _) ?_)
 | (refine congrArg (Value.int _) ?_)
 | (refine congrArg Value.bool ?_)))); all_goals (try unfold Side)
        all_goals try (repeat' (first | exact zb | with_reducible refine And.intro ?_ ?_))
        all_goals try (first | exact hsl _ | exact Path.imp_of ⟨by omega, hsl _⟩ | exact hft)
     · have hde : n = d := by omega
       subst hde
       rw [tryK_of hno]
       repeat' (first
 | refine W.seq ?_
 | refine W.block ?_
 | (refine W.drawPh (id := 13) tys_ok [] mixed [0, 0, 0, 6, 8, 16, 0, 0, 192, 256, 512, 1056, 2049] [([0, 1, 2, 3, 4, 5, 6, 7, 8, 9, 10, 11, 12], 0, 8191)] (by decide +kernel) ?_; conv => whnf)
 | (refine W.region tys_ok [] ?_; conv => whnf)
 | (refine W.drawAll tys_ok [] mixed rfl ?_; conv => whnf)
 | (refine W.ret ?_; conv => whnf)
 | (refine W.skip ?_; conv => whnf)
 | (refine W.exit ?_; conv => whnf)
 | (refine Both.mk ?_ ?_ <;> (conv => whnf))
 | (refine W.cond rfl (fun hb => ?_) (fun hb => ?_) <;> (try simp only [zr, zd, zm, minL, maxL, pickB, zA] at hb) <;> (try (first | (cases hb; done) | exact absurd hb (by decide) | (exfalso; omega) | (omega))))
 | ((with_reducible refine And.intro ?_ ?_); exact zc; conv => whnf)
 | ((with_reducible refine And.intro (Side.out ?_) ?_); rotate_left; (conv => whnf))
 | ((first | refine retM1 ?_ | refine retM2 ?_ | refine subF.leaf ?_ | refine subF.side ?_) <;> (conv => whnf) <;> repeat' (first
 | exact trivial
 | (with_reducible rfl)
 | ((with_reducible refine And.intro ?_ ?_) <;> conv => whnf)
 | omega
 | rfl
 | (refine congrArg (SV.arr _) ?_)
 | (refine congrArg (Value.int _) ?_)
 | (refine congrArg Value.bool ?_)))); all_goals (try unfold Side)
       all_goals try (repeat' (first | exact zb | with_reducible refine And.intro ?_ ?_))
theorem grow_at {P : Int} {l0 : List Jb} {os : List Od} (hP : 0 ≤ P ∧ P ≤ 100) : ∀ {k : Nat} {l : List Jb} {i : Nat}, k + i = l.length → 1 ≤ l.length → Pre l os i → Bd l → Ords os l.length →
  FnM Try.prog 38 [.st false (.arr JT l), .lit (.int .i64 i), .padr 1000000000 0, .padr 1000000001 0] [(1000000000, .box [.lit (.int .i64 P), .st true (.arr JT l0), .st true (.arr OT os)]), (1000000001, .box1 (.fn 38 [.padr 1000000000 0, .padr 1000000001 0]))]
   (.st true (.narr (.int .i64) ((growT P os k l i).getD [] : List Int))) [(1000000000, .box [.lit (.int .i64 P), .st true (.arr JT l0), .st true (.arr OT os)]), (1000000001, .box1 (.fn 38 [.padr 1000000000 0, .padr 1000000001 0]))]
 | 0, l, i, hk, h1, hp, hb, ho => grow0_at hP (by omega) h1 hb ho
 | k + 1, l, i, hk, h1, hp, hb, ho => by
  have hi : i < l.length := by omega
  have hr := hp.rg i hi
  exact growS_at hP (by omega) hp hb ho fun d hd => grow_at hP (k := k) (l := fixT l i (jf l i + d)) (i := i + 1) (by rw [fix_len]; omega) (by rw [fix_len]; exact h1) (fix_pre hp hi (by omega) hd) (fix_bd (os := os) hb hi (by omega) hd) (by rw [fix_len]; exact ho)
def firstT (P : Int) (l : List Jb) (os : List Od) : List Int := (growT P os l.length l 0).getD []
theorem first_at {P : Int} {l : List Jb} {os : List Od} (h : VS P l os) : FnAt Try.prog true 17 [.agg [I64 P, .arr JT l, .arr OT os]] (.st true (.narr (.int .i64) (firstT P l os : List Int))) [] := by
 have hg := grow_at (P := P) (l0 := l) (os := os) (k := l.length) (l := l) (i := 0) (by have := h.pw; omega) rfl h.ln.1 h.pre (bd_of h) (ords_of h)
 refine FnAt.of_body tys_ok Try.func17 (by rfl) rfl Try.ntmps17 (by rw [Try.results17]) (by simp) ?_
 repeat' (first
 | refine W.seq ?_
 | refine W.block ?_
 | (refine W.regionM (id := 3) tys_ok [] [3] ?_; conv => whnf)
 | (refine W.region tys_ok [] ?_; conv => whnf)
 | (refine W.drawAll tys_ok [] mixed rfl ?_; conv => whnf)
 | (refine W.ret ?_; conv => whnf)
 | (refine W.skip ?_; conv => whnf)
 | (refine W.exit ?_; conv => whnf)
 | (refine callM_at (hg) ?_; conv => whnf)
 | (refine W.cond rfl (fun hb => ?_) (fun hb => ?_) <;> (try simp only [zr, zd, zm, minL, maxL, pickB, zA] at hb) <;> (try (first | (cases hb; done) | exact absurd hb (by decide) | (exfalso; omega))))
 | (refine Or.inl (And.intro trivial ?_); (conv => whnf))
 | ((with_reducible refine And.intro ?_ ?_); exact zc; conv => whnf)
 | ((with_reducible refine And.intro (Side.out ?_) ?_); rotate_left; (conv => whnf))
 | ((first | refine retF1 ?_ | refine retF2 ?_) <;> (conv => whnf) <;> repeat' (first
 | exact trivial
 | (with_reducible rfl)
 | ((with_reducible refine And.intro ?_ ?_) <;> conv => whnf)
 | omega
 | rfl
 | (refine congrArg (SV.arr _) ?_)
 | (refine congrArg (Value.int _) ?_)
 | (refine congrArg Value.bool ?_)))); all_goals (try unfold Side)
 all_goals try (repeat' (first | exact zb | with_reducible refine And.intro ?_ ?_))
end Go.Proofs.Ytckmhlpngolbpaa
