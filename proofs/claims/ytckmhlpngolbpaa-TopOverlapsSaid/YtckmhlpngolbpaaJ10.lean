/- Joined of: E12. No condition. -/
import Derived.Test.YtckmhlpngolbpaaJ8
import Derived.Test.YtckmhlpngolbpaaJ9
set_option linter.unusedVariables false
set_option linter.unusedSimpArgs false
namespace Go.Proofs.Ytckmhlpngolbpaa
open Int renaming reduceToNat → zr, reduceTDiv → zd, reduceTMod → zm
open Go Go.Vc Go.Sh Go.Tp Go.Ov
abbrev V2 : Ty := .cons (.int .u8) (.cons (.int .u8) .nil)
theorem sm2o_wf {y : List Tv2} (h : (Ty.sl V2).wf y) : sm2o y := fun i => by
 have h2 : ∀ z ∈ y, V2.wf z := h.2
 by_cases hi : i < y.length
 · have h3 := h2 (y.getD i E0) (by rw [List.getD_eq_getElem?_getD, List.getElem?_eq_getElem hi]; exact List.getElem_mem hi)
   exact ⟨wf_u8 h3.1, wf_u8 h3.2.1⟩
 · have : y.getD i E0 = E0 := by simp [List.getD, List.getElem?_eq_none (Nat.le_of_not_lt hi)]
   rw [this]; decide
theorem zP_app {a b : List (Nat × Nat)} : zP (a ++ b) = zP a ++ zP b := by unfold zP; rw [List.map_append]
theorem job_step {x : List Tv2} {i : Nat} {a b : Int} (ha : a = frF x i) (hb : b = lnF x i) : (jobK x i).length = i ∧ ∃ l, l = jobK x (i + 1) ∧ jobK x i ++ [((a, a + b, b, 1, ()) : Jb)] = l ∧ l.length = i + 1 ∧
  ∀ k, k < i + 1 → ∀ m, m < i + 1 → ((l.getD k J0).1 < (l.getD m J0).2.1 ∧ (l.getD m J0).1 < (l.getD k J0).2.1 ↔ ovX x k m = true) := by
 subst ha; subst hb
 refine ⟨jobK_len, _, rfl, by rw [jobK_add]; rfl, jobK_len, fun k hk m hm => ?_⟩
 rw [jobK_get hk, jobK_get hm]; unfold ovX; rw [decide_eq_true_eq]
theorem law_facts {x : List Tv2} {n : Nat} (hx : sm2o x) (hn1 : 1 ≤ n) (hn6 : n ≤ 6) : ∃ (P : List (List Int)) (I : Nat), (1 ≤ P.length ∧ P.length ≤ 12) ∧ (∀ i, i < P.length → ∃ s, s < 2 ^ n ∧ mis (adjX x n) n s ∧ P.getD i [] = zN (lsT s 12)) ∧ I < 2 ^ n ∧ (∀ i, I.testBit i = true ↔ i < n ∧ ∀ j, adjX x n i j = false) ∧
  FnAt Try.prog false 12 [I64 n, .arr P2 (zP (atA (ovX x) n))] (.tup [.st true (.arr (.sl (.int .i64)) (P : List (List Int))), .lit (.int .i64 0)]) [] ∧
  FnAt Try.prog false 13 [I64 n, .arr P2 (zP (atA (ovX x) n))] (.tup [.st true (.arr (.sl (.int .i64)) (P : List (List Int))), .lit (.int .i64 0)]) [] ∧
  FnAt Try.prog false 14 [I64 n, .arr P2 (zP (atA (ovX x) n))] (.tup [.st true (.arr (.int .i64) (zN (lsT I 12) : List Int)), .lit (.int .i64 0)]) [] := by
 have gr := at_GR (x := x) hn6
 have hl := (atA_len (o := ovX x) hn6).1
 have h2 := two12 (n := n) (by omega)
 have c1 := preferred_m (by_DS (at_ok (x := x) (n := n))) (fr_DS (at_ok (x := x) (n := n))) (by omega)
 rw [gr_st gr] at c1
 have c2 := stable1_m (F := frT (atA (ovX x) n) n) (by_DS (at_ok (x := x) (n := n))) hn1 (by omega)
 have l1 := st_some gr
 have l2 := st_few gr
 have hm : ∀ s, s ∈ alL (stB (byT (atA (ovX x) n) n) n) (2 ^ n) → s < 2 ^ n ∧ mis (adjX x n) n s := fun s hs => by
  obtain ⟨h3, h4⟩ := alL_mem.1 hs
  exact ⟨h3, (st_iff gr h3).1 h4⟩
 obtain ⟨L, hL⟩ : ∃ L, L = alL (stB (byT (atA (ovX x) n) n) n) (2 ^ n) := ⟨_, rfl⟩
 rw [← hL] at c1 c2 l1 l2 hm
 have hll : ∀ i, i < L.length → L.getD i 0 < 65536 := fun i hi => by
  have h3 : L.getD i 0 ∈ L := by rw [List.getD_eq_getElem?_getD, List.getElem?_eq_getElem hi]; exact List.getElem_mem _
  have := (hm _ h3).1; omega
 have hpl : (lisT L).length = L.length := by unfold lisT; rw [isortT_len, lsL_len]
 refine ⟨lisT L, defT (byT (atA (ovX x) n) n) (frT (atA (ovX x) n) n) n 0, by omega, fun i hi => ?_, defT_lt, fun i => gra_bit gr, pre_at at_ok hn1 (by omega) (by omega) c1 l1 l2 hll, sta_at at_ok hn1 (by omega) (by omega) c2 l1 l2 hll, gra_at at_ok hn1 (by omega) (by omega) rfl (gra_fix gr)⟩
 have h3 : (lisT L).getD i [] ∈ lsL L := isortT_mem (c := cmpT) (xs := lsL L) (i := L.length) (by rw [lsL_len]; exact Nat.le_refl _) (by
  rw [List.getD_eq_getElem?_getD, List.getElem?_eq_getElem hi]; exact List.getElem_mem _)
 obtain ⟨s, h4, h5⟩ := lsL_mem h3
 exact ⟨s, (hm s h4).1, (hm s h4).2, h5⟩
def knT (c : List Nat) (j : Nat) : Nat → Bool
 | 0 => false
 | k + 1 => knT c j k || decide (((c.getD k 0 : Nat) : Int) = (j : Int))
theorem knT_iff {c : List Nat} {j : Nat} : ∀ {k : Nat}, knT c j k = true ↔ ∃ m, m < k ∧ c.getD m 0 = j
 | 0 => by simp [knT]
 | k + 1 => by
  rw [knT, Bool.or_eq_true, knT_iff (k := k), decide_eq_true_eq]
  constructor
  · rintro (⟨m, h1, h2⟩ | h)
    · exact ⟨m, by omega, h2⟩
    · exact ⟨k, by omega, by omega⟩
  · rintro ⟨m, h1, h2⟩
    by_cases e : m = k
    · subst e; exact .inr (by omega)
    · exact .inl ⟨m, by omega, h2⟩
theorem knT_all {s j : Nat} (hj : j < 12) : knT (lsT s 12) j (lsT s 12).length = s.testBit j := by
 rw [Bool.eq_iff_iff, knT_iff]
 constructor
 · rintro ⟨m, h1, h2⟩
   have := (lsT_ix h1).2
   rw [h2] at this; exact this
 · intro h
   obtain ⟨m, h1, h2⟩ := List.getElem_of_mem (lsT_mem.2 ⟨hj, h⟩ : j ∈ lsT s 12)
   exact ⟨m, h1, by rw [List.getD_eq_getElem?_getD, List.getElem?_eq_getElem h1]; exact h2⟩
def alnT (x : List Tv2) (j : Nat) : Nat → Bool
 | 0 => true
 | k + 1 => alnT x j k && (decide ((k : Int) = (j : Int)) || !ovX x j k)
theorem alnT_iff {x : List Tv2} {j : Nat} : ∀ {k : Nat}, alnT x j k = true ↔ ∀ m, m < k → m ≠ j → ovX x j m = false
 | 0 => by simp [alnT]
 | k + 1 => by
  rw [alnT, Bool.and_eq_true, alnT_iff (k := k), Bool.or_eq_true, decide_eq_true_eq, Bool.not_eq_true']
  constructor
  · rintro ⟨h1, h2⟩ m hm hne
    by_cases e : m = k
    · subst e
      rcases h2 with h2 | h2
      · omega
      · exact h2
    · exact h1 m (by omega) hne
  · intro h
    refine ⟨fun m hm => h m (by omega), ?_⟩
    by_cases e : k = j
    · exact .inl (by omega)
    · exact .inr (h k (by omega) e)
theorem alnT_all {x : List Tv2} {n I j : Nat} (hI : ∀ i, I.testBit i = true ↔ i < n ∧ ∀ j, adjX x n i j = false) (hj : j < n) : alnT x j n = I.testBit j := by
 rw [Bool.eq_iff_iff, alnT_iff, hI]
 unfold adjX
 simp only [decide_eq_false_iff_not]
 constructor
 · intro h
   refine ⟨hj, fun k ⟨_, h2, h3, h4⟩ => ?_⟩
   rw [h k h2 (Ne.symm h3)] at h4; cases h4
 · rintro ⟨_, h⟩ m hm hne
   cases ho : ovX x j m with
   | false => rfl
   | true => exact absurd ⟨hj, hm, Ne.symm hne, ho⟩ (h m)
theorem set_facts {x : List Tv2} {n s : Nat} {l : List Jb} {q : List Int} (hx : sm2o x) (hn6 : n ≤ 6) (hl : l = jobK x n) (hs : s < 2 ^ n) (hm : mis (adjX x n) n s) (hq : q = zN (lsT s 12)) : ∃ c : List Nat, c.length ≤ 6 ∧ q.length = c.length ∧ (∀ k, q.getD k 0 = ((c.getD k 0 : Nat) : Int)) ∧
  (∀ j, j < n → knT c j c.length = s.testBit j) ∧
  FnAt Try.prog false 9 [.arr (.int .i64) (q : List Int), .arr (.int .i64) (q : List Int)] (.lit (.bool true)) [] ∧
  FnAt Try.prog false 15 [.arr JT l, .arr (.int .i64) (q : List Int)] (.lit (.bool true)) [] ∧
  ∀ j, j < n → s.testBit j = false → FnAt Try.prog false 15 [.arr JT l, .arr (.int .i64) ((([] ++ q) ++ [(j : Int)]) : List Int)] (.lit (.bool false)) [] := by
 have hcl : (lsT s 12).length ≤ n := by rw [← lsT_top hs (by omega)]; exact lsT_len
 have hOJ : OJ l := by rw [hl]; exact jobK_OJ hx
 have hll : l.length = n := by rw [hl]; exact jobK_len
 have hNm : NmOk l (lsT s 12) := fun a ha => by rw [hll]; exact bit_hi hs (lsT_ix ha).2
 have hql : q.length = (lsT s 12).length := by rw [hq, zN_len]
 refine ⟨lsT s 12, by omega, hql, fun k => by rw [hq, zN_get], fun j hj => knT_all (by omega), ?_, ?_, fun j hj hsj => ?_⟩
 · have := same_at (a := q) (b := q) (by omega) (by omega)
   rw [decide_eq_true rfl] at this; exact this
 · have := topfits_at hOJ (by omega) hNm (by omega)
   rw [hl, mis_fits hx hs hm, ← hl] at this
   rw [hq]; exact this
 · have hlt : (lsT s 12).length + 1 ≤ n := by
    rw [← lsT_top hs (by omega)]
    unfold lsT
    apply Classical.byContradiction
    intro hn
    have h1 : ((List.range n).filter fun i => s.testBit i).length = n := by have := List.length_filter_le (fun i => s.testBit i) (List.range n); simp at this; omega
    have h2 := (List.length_filter_eq_length_iff.1 (h1.trans (by simp : n = (List.range n).length))) j (List.mem_range.2 hj)
    rw [hsj] at h2; cases h2
   have hNm2 : NmOk l (lsT s 12 ++ [j]) := fun a ha => by
    rw [List.length_append, List.length_singleton] at ha
    rw [hll]
    by_cases e : a < (lsT s 12).length
    · rw [List.getD_eq_getElem?_getD, List.getElem?_append_left e, ← List.getD_eq_getElem?_getD]; exact bit_hi hs (lsT_ix e).2
    · have e : a = (lsT s 12).length := by omega
      subst e
      rw [List.getD_eq_getElem?_getD, List.getElem?_append_right (Nat.le_refl _)]; simpa using hj
   have := topfits_at hOJ (by omega) hNm2 (by rw [List.length_append, List.length_singleton]; omega)
   rw [hl, mis_more hx hn6 hs hm hj hsj, ← hl] at this
   rw [hq, List.nil_append, zN_app]; exact this
set_option maxHeartbeats 16000000 in
theorem TopOverlaps_at {x : List V2.T} (hx : sm2o x) : FnAt Try.prog false 4 [.arr V2 x] (.lit (.bool true)) [] := by
 obtain ⟨n, hn⟩ : ∃ n : Nat, n = max 1 (min x.length 6) := ⟨_, rfl⟩
 have hn1 : 1 ≤ n := by omega
 have hn6 : n ≤ 6 := by omega
 have hlx : @List.length V2.T x = x.length := rfl
 refine FnAt.of_body tys_ok Try.func4 (by rfl) rfl Try.ntmps4 (by rw [Try.results4]) (by simp) ?_
 repeat' (first
 | refine W.seq ?_
 | refine W.block ?_
 | (refine W.region tys_ok [] ?_; conv => whnf)
 | (refine W.drawAll tys_ok [] mixed rfl ?_; conv => whnf)
 | (refine W.ret ?_; conv => whnf)
 | (refine W.skip ?_; conv => whnf)
 | (refine W.exit ?_; conv => whnf)
 | (refine W.cond rfl (fun hb => ?_) (fun hb => ?_) <;> (try simp only [zr, zd, zm, minL, maxL, pickB, zA] at hb) <;> (try (first | (cases hb; done) | exact absurd hb (by decide) | (exfalso; omega) | (omega))))
 | ((with_reducible refine And.intro ?_ ?_); exact zc; conv => whnf)
 | ((with_reducible refine And.intro (Side.out ?_) ?_); rotate_left; (conv => whnf))
 | ((first | refine retF1 ?_ | refine retF2 ?_) <;> (conv => whnf) <;> repeat' (first
 | exact trivial
 | (with_reducible rfl)
 | ((with_reducible refine And.intro ?_ ?_) <;> conv => whnf)
 | omega
 | rfl
 | (refine congrArg (SV.arr _) ?_)
 | (refine congrArg (Value.int _) ?_)
 | (refine congrArg Value.bool ?_)))); all_goals (try unfold Side)
 all_goals try (repeat' (first | exact zb | with_reducible refine And.intro ?_ ?_))
 refine W.loop (fun i : Nat => ⟨[(0, .st false (.arr V2 x)), (3, (.lit (.int .i64 (n : Int)))), (4, .own 4000), (5, .own 5000), (6, (.lit (.int .i64 (i : Int))))], [(4000, .row 30 JT true (jobK x i)), (5000, .row 48 P2 true (zP (atA (ovX x) i)))]⟩) (fun i => i ≤ n) (fun i => n - i) (0) ?_ ?_
 · refine ⟨Nat.zero_le _, ?_⟩
   refine subF.ok ?_ <;> (conv => whnf) <;> repeat' (first
 | exact trivial
 | (with_reducible rfl)
 | ((with_reducible refine And.intro ?_ ?_) <;> conv => whnf)
 | omega
 | rfl
 | (refine congrArg (SV.arr _) ?_)
 | (refine congrArg (Value.int _) ?_)
 | (refine congrArg Value.bool ?_))
   all_goals (rw [hn]; simp only [maxL, minL]; omega)
 · rintro i hi
   by_cases hin : i < n
   · obtain ⟨a, ha⟩ : ∃ a : Int, a = frF x i := ⟨_, rfl⟩
     obtain ⟨b, hb0⟩ : ∃ b : Int, b = lnF x i := ⟨_, rfl⟩
     have h1 := frF_rg (i := i) hx
     have h2 := lnF_rg (i := i) hx
     rw [← ha] at h1
     rw [← hb0] at h2
     have hx2 := hx i
     have ea : i < x.length → (@List.getD Tv2 x i E0).1.tmod 15 = a := fun h => ha ▸ (if_pos h).symm
     have eb : i < x.length → (@List.getD Tv2 x i E0).2.1.tmod 6 + 1 = b := fun h => hb0 ▸ (if_pos h).symm
     have ea0 : ¬ i < x.length → 0 = a := fun h => ha ▸ (if_neg h).symm
     have eb0 : ¬ i < x.length → 1 = b := fun h => hb0 ▸ (if_neg h).symm
     obtain ⟨hjl, l, hl, hlr, hll, hov⟩ := job_step ha hb0
     obtain ⟨at0, hat⟩ : ∃ at0, at0 = atA (ovX x) i := ⟨_, rfl⟩
     have hat1 : atA (ovX x) (i + 1) = at0 ++ atI (ovX x) i i := by rw [hat]; rfl
     have hatl := (atA_len (o := ovX x) (i := i) (by omega)).1
     rw [← hat] at hatl ⊢
     have k4 : InK .i64 (@List.getD Tv2 x i E0).2.1 := ⟨by omega, by omega⟩
     have k6 : InK .i64 (@List.getD Tv2 x i E0).1 := ⟨by omega, by omega⟩
     have k1 : i < x.length → InK .i64 ((@List.getD Tv2 x i E0).2.1.tmod 6 + 1) := fun h => by rw [eb h]; exact ⟨by omega, by omega⟩
     clear ha hb0
     repeat' (first
 | refine W.joinTo (t := 39) ⟨[(0, .st false (.arr V2 x)), (3, (.lit (.int .i64 (n : Int)))), (4, .own 4000), (5, .own 5000), (6, (.lit (.int .i64 (i : Int)))), (7, (.lit (.int .i64 (a : Int)))), (8, (.lit (.int .i64 (b : Int))))], [(4000, .row 30 JT true (jobK x i)), (5000, .row 48 P2 true (zP at0))]⟩ ?_ ?_
 | refine W.seq ?_
 | refine W.block ?_
 | (refine W.drawPh (id := 8) tys_ok [] mixed [0, 0, 3, 4, 8, 16, 32, 0, 0, 384, 512, 1024, 2048, 4096, 8192, 127, 65535] [([0, 1, 2, 3, 4, 5, 6, 7, 8, 9, 10, 11, 12, 13, 14, 15, 16], 0, 131071)] (by decide +kernel) ?_; conv => whnf)
 | (refine W.region tys_ok [] ?_; conv => whnf)
 | (refine W.drawAll tys_ok [] mixed rfl ?_; conv => whnf)
 | (refine W.ret ?_; conv => whnf)
 | (refine W.skip ?_; conv => whnf)
 | (refine W.exit ?_; conv => whnf)
 | (refine Both.mk ?_ ?_ <;> (conv => whnf))
 | (refine W.cond rfl (fun hb => ?_) (fun hb => ?_) <;> (try simp only [zr, zd, zm, minL, maxL, pickB, zA] at hb) <;> (try (first | (cases hb; done) | exact absurd hb (by decide) | (exfalso; omega) | (omega))))
 | ((with_reducible refine And.intro ?_ ?_); exact zc; conv => whnf)
 | ((with_reducible refine And.intro (Side.out ?_) ?_); rotate_left; (conv => whnf))
 | ((first | refine retF1 ?_ | refine retF2 ?_ | refine subF.leaf ?_ | refine subF.side ?_) <;> (conv => whnf) <;> repeat' (first
 | exact trivial
 | (with_reducible rfl)
 | ((with_reducible refine And.intro ?_ ?_) <;> conv => whnf)
 | omega
 | rfl
 | (refine congrArg (SV.arr _) ?_)
 | (refine congrArg (Value.int _) ?_)
 | (refine congrArg Value.bool ?_)))); all_goals (try unfold Side)
     all_goals try (repeat' (first | exact zb | with_reducible refine And.intro ?_ ?_))
     all_goals first | exact ea hb | exact eb hb | exact Path.imp_of (k1 hb) | exact Path.imp_of k4 | exact Path.imp_of k6 | exact ea0 hb | exact eb0 hb | (show ((jobK x i).length + 1).le 4294967296; exact (by omega : (jobK x i).length + 1 ≤ 4294967296)) | skip
     refine W.loop (fun k : Nat => ⟨[(0, .st false (.arr V2 x)), (3, (.lit (.int .i64 (n : Int)))), (4, .own 4000), (5, .own 5000), (6, (.lit (.int .i64 (i : Int)))), (9, (.lit (.int .i64 (k : Int))))], [(4000, .row 30 JT true l), (5000, .row 48 P2 true (zP (at0 ++ atI (ovX x) i k)))]⟩) (fun k => k ≤ i) (fun k => i - k) (0) ?_ ?_
     · refine ⟨Nat.zero_le _, ?_⟩
       rw [show at0 ++ atI (ovX x) i 0 = at0 from List.append_nil _]
       refine subF.ok ?_ <;> (conv => whnf) <;> repeat' (first
 | exact trivial
 | (with_reducible rfl)
 | ((with_reducible refine And.intro ?_ ?_) <;> conv => whnf)
 | omega
 | rfl
 | (refine congrArg (SV.arr _) ?_)
 | (refine congrArg (Value.int _) ?_)
 | (refine congrArg Value.bool ?_))
       all_goals first | exact hlr | skip
     · intro k hk
       by_cases hki : k < i
       · have hv := hov k (by omega) i (by omega)
         have hzl : @List.length P2.T (zP (at0 ++ atI (ovX x) i k)) ≤ 40 := by
          have := atI_len (o := ovX x) (i := i) (k := k)
          show (zP _).length ≤ 40
          rw [zP_len, List.length_append]; omega
         cases ho : ovX x k i with
         | true =>
          have hy := hv.2 ho
          have hz : zP (at0 ++ atI (ovX x) i k) ++ [((i : Int), (k : Int), ()), ((k : Int), (i : Int), ())] = zP (at0 ++ atI (ovX x) i (k + 1)) := by
           rw [atI, if_pos ho, ← List.append_assoc, zP_app (b := [(i, k), (k, i)])]; rfl
          have hz2 : (zP (at0 ++ atI (ovX x) i k)).length + 2 ≤ 4294967296 := Nat.le_trans (Nat.add_le_add_right hzl 2) (by decide)
          repeat' (first
 | refine W.seq ?_
 | refine W.block ?_
 | (refine W.drawPh (id := 13) tys_ok [] mixed [0, 0, 3, 4, 8, 0, 0, 96, 128, 256, 528, 1024, 2048, 2048, 14336, 18432, 34816, 2048, 2048, 395264, 526336, 1050624, 2164736, 4196352] [([0, 1, 2, 3, 5, 6, 7, 8], 2, 1023), ([10, 11, 12, 13, 14, 15, 17, 18, 19, 20], 2, 4194303), ([22, 23], 0, 16777215)] (by decide +kernel) ?_; conv => whnf)
 | (refine W.region tys_ok [] ?_; conv => whnf)
 | (refine W.drawAll tys_ok [] mixed rfl ?_; conv => whnf)
 | (refine W.ret ?_; conv => whnf)
 | (refine W.skip ?_; conv => whnf)
 | (refine W.exit ?_; conv => whnf)
 | (refine Both.mk ?_ ?_ <;> (conv => whnf))
 | (refine W.cond rfl (fun hb => ?_) (fun hb => ?_) <;> (try simp only [zr, zd, zm, minL, maxL, pickB, zA] at hb) <;> (try (first | (cases hb; done) | exact absurd hb (by decide) | (exfalso; omega) | (omega) | ((simp [pickB] at hb; omega)))))
 | ((with_reducible refine And.intro ?_ ?_); exact zc; conv => whnf)
 | ((with_reducible refine And.intro (Side.out ?_) ?_); rotate_left; (conv => whnf))
 | ((first | refine retF1 ?_ | refine retF2 ?_ | refine subF.leaf ?_ | refine subF.side ?_) <;> (conv => whnf) <;> repeat' (first
 | exact trivial
 | (with_reducible rfl)
 | ((with_reducible refine And.intro ?_ ?_) <;> conv => whnf)
 | omega
 | rfl
 | (refine congrArg (SV.arr _) ?_)
 | (refine congrArg (Value.int _) ?_)
 | (refine congrArg Value.bool ?_)))); all_goals (try unfold Side)
          all_goals try (repeat' (first | exact zb | with_reducible refine And.intro ?_ ?_))
          all_goals first | exact hz2 | skip
          all_goals refine ⟨k + 1, ⟨by omega, by omega⟩, ?_⟩
          all_goals (refine subF.ok ?_ <;> (conv => whnf) <;> repeat' (first
 | exact trivial
 | (with_reducible rfl)
 | ((with_reducible refine And.intro ?_ ?_) <;> conv => whnf)
 | omega
 | rfl
 | (refine congrArg (SV.arr _) ?_)
 | (refine congrArg (Value.int _) ?_)
 | (refine congrArg Value.bool ?_)))
          all_goals first | exact hz | skip
         | false =>
          have hy : ¬ _ := fun h => by rw [hv.1 h] at ho; cases ho
          have hz : atI (ovX x) i (k + 1) = atI (ovX x) i k := by rw [atI, if_neg (by rw [ho]; decide)]
          repeat' (first
 | refine W.seq ?_
 | refine W.block ?_
 | (refine W.drawPh (id := 13) tys_ok [] mixed [0, 0, 3, 4, 8, 0, 0, 96, 128, 256, 528, 1024, 2048, 2048, 14336, 18432, 34816, 2048, 2048, 395264, 526336, 1050624, 2164736, 4196352] [([0, 1, 2, 3, 5, 6, 7, 8], 2, 1023), ([10, 11, 12, 13, 14, 15, 17, 18, 19, 20], 2, 4194303), ([22, 23], 0, 16777215)] (by decide +kernel) ?_; conv => whnf)
 | (refine W.region tys_ok [] ?_; conv => whnf)
 | (refine W.drawAll tys_ok [] mixed rfl ?_; conv => whnf)
 | (refine W.ret ?_; conv => whnf)
 | (refine W.skip ?_; conv => whnf)
 | (refine W.exit ?_; conv => whnf)
 | (refine Both.mk ?_ ?_ <;> (conv => whnf))
 | (refine W.cond rfl (fun hb => ?_) (fun hb => ?_) <;> (try simp only [zr, zd, zm, minL, maxL, pickB, zA] at hb) <;> (try (first | (cases hb; done) | exact absurd hb (by decide) | (exfalso; omega) | (omega) | ((simp [pickB] at hb; omega)))))
 | ((with_reducible refine And.intro ?_ ?_); exact zc; conv => whnf)
 | ((with_reducible refine And.intro (Side.out ?_) ?_); rotate_left; (conv => whnf))
 | ((first | refine retF1 ?_ | refine retF2 ?_ | refine subF.leaf ?_ | refine subF.side ?_) <;> (conv => whnf) <;> repeat' (first
 | exact trivial
 | (with_reducible rfl)
 | ((with_reducible refine And.intro ?_ ?_) <;> conv => whnf)
 | omega
 | rfl
 | (refine congrArg (SV.arr _) ?_)
 | (refine congrArg (Value.int _) ?_)
 | (refine congrArg Value.bool ?_)))); all_goals (try unfold Side)
          all_goals try (repeat' (first | exact zb | with_reducible refine And.intro ?_ ?_))
          all_goals refine ⟨k + 1, ⟨by omega, by omega⟩, ?_⟩
          all_goals rw [hz]
          all_goals (refine subF.ok ?_ <;> (conv => whnf) <;> repeat' (first
 | exact trivial
 | (with_reducible rfl)
 | ((with_reducible refine And.intro ?_ ?_) <;> conv => whnf)
 | omega
 | rfl
 | (refine congrArg (SV.arr _) ?_)
 | (refine congrArg (Value.int _) ?_)
 | (refine congrArg Value.bool ?_)))
       · have hke : k = i := by omega
         subst hke
         repeat' (first
 | refine W.seq ?_
 | refine W.block ?_
 | (refine W.region tys_ok [] ?_; conv => whnf)
 | (refine W.drawAll tys_ok [] mixed rfl ?_; conv => whnf)
 | (refine W.ret ?_; conv => whnf)
 | (refine W.skip ?_; conv => whnf)
 | (refine W.exit ?_; conv => whnf)
 | (refine W.cond rfl (fun hb => ?_) (fun hb => ?_) <;> (try simp only [zr, zd, zm, minL, maxL, pickB, zA] at hb) <;> (try (first | (cases hb; done) | exact absurd hb (by decide) | (exfalso; omega) | (omega))))
 | ((with_reducible refine And.intro ?_ ?_); exact zc; conv => whnf)
 | ((with_reducible refine And.intro (Side.out ?_) ?_); rotate_left; (conv => whnf))
 | ((first | refine retF1 ?_ | refine retF2 ?_) <;> (conv => whnf) <;> repeat' (first
 | exact trivial
 | (with_reducible rfl)
 | ((with_reducible refine And.intro ?_ ?_) <;> conv => whnf)
 | omega
 | rfl
 | (refine congrArg (SV.arr _) ?_)
 | (refine congrArg (Value.int _) ?_)
 | (refine congrArg Value.bool ?_)))); all_goals (try unfold Side)
         all_goals try (repeat' (first | exact zb | with_reducible refine And.intro ?_ ?_))
         refine ⟨k + 1, ⟨by omega, by omega⟩, ?_⟩
         rw [hat1, ← hl]
         refine subF.ok ?_ <;> (conv => whnf) <;> repeat' (first
 | exact trivial
 | (with_reducible rfl)
 | ((with_reducible refine And.intro ?_ ?_) <;> conv => whnf)
 | omega
 | rfl
 | (refine congrArg (SV.arr _) ?_)
 | (refine congrArg (Value.int _) ?_)
 | (refine congrArg Value.bool ?_))
   · have hin : i = n := by omega
     subst hin
     obtain ⟨P, I, ⟨hP1, hP12⟩, hPm, hI, hIb, c1, c2, c3⟩ := law_facts hx hn1 hn6
     obtain ⟨l, hl⟩ : ∃ l, l = jobK x i := ⟨_, rfl⟩
     obtain ⟨at1, hat1⟩ : ∃ at1, at1 = atA (ovX x) i := ⟨_, rfl⟩
     rw [← hat1] at c1 c2 c3 ⊢
     rw [← hl]
     have hPl : @List.length (Ty.sl (.int .i64)).T P = P.length := rfl
     repeat' (first
 | refine W.seq ?_
 | refine W.block ?_
 | (refine W.resub (x := Code.region 15 _ _) (Γ' := ⟨[(3, (.lit (.int .i64 (i : Int)))), (4, .st true (.arr JT l)), (5, .st true (.arr P2 (zP at1)))], []⟩) ?_ (W.region tys_ok [] ?_); rotate_left; (conv => whnf))
 | (refine W.region tys_ok [] ?_; conv => whnf)
 | (refine W.drawAll tys_ok [] mixed rfl ?_; conv => whnf)
 | (refine W.ret ?_; conv => whnf)
 | (refine W.skip ?_; conv => whnf)
 | (refine W.exit ?_; conv => whnf)
 | (refine call_at (al := false) (c1) rfl rfl rfl rfl ?_; conv => whnf)
 | (refine call_at (al := false) (c2) rfl rfl rfl rfl ?_; conv => whnf)
 | (refine call_at (al := false) (c3) rfl rfl rfl rfl ?_; conv => whnf)
 | (refine W.cond rfl (fun hb => ?_) (fun hb => ?_) <;> (try simp only [zr, zd, zm, minL, maxL, pickB, zA] at hb) <;> (try (first | (cases hb; done) | exact absurd hb (by decide) | (exfalso; omega) | (omega) | ((simp [pickB] at hb; omega)))))
 | ((with_reducible refine And.intro ?_ ?_); exact zc; conv => whnf)
 | ((with_reducible refine And.intro (Side.out ?_) ?_); rotate_left; (conv => whnf))
 | ((first | refine retF1 ?_ | refine retF2 ?_) <;> (conv => whnf) <;> repeat' (first
 | exact trivial
 | (with_reducible rfl)
 | ((with_reducible refine And.intro ?_ ?_) <;> conv => whnf)
 | omega
 | rfl
 | (refine congrArg (SV.arr _) ?_)
 | (refine congrArg (Value.int _) ?_)
 | (refine congrArg Value.bool ?_)))); all_goals (try unfold Side)
     all_goals try refine subF.ok ?_ <;> (conv => whnf) <;> repeat' (first
 | exact trivial
 | (with_reducible rfl)
 | ((with_reducible refine And.intro ?_ ?_) <;> conv => whnf)
 | omega
 | rfl
 | (refine congrArg (SV.arr _) ?_)
 | (refine congrArg (Value.int _) ?_)
 | (refine congrArg Value.bool ?_))
     all_goals try (repeat' (first | exact zb | with_reducible refine And.intro ?_ ?_))
     refine W.loop (fun m : Nat => ⟨[(3, (.lit (.int .i64 (i : Int)))), (4, .st true (.arr JT l)), (10, .st true (.arr (.sl (.int .i64)) (P : List (List Int)))), (12, .st true (.arr (.sl (.int .i64)) (P : List (List Int)))), (14, .st true (.arr (.int .i64) (zN (lsT I 12) : List Int))), (16, (.lit (.int .i64 (m : Int))))], []⟩) (fun m => m ≤ P.length) (fun m => P.length - m) (0) ?_ ?_
     · refine ⟨Nat.zero_le _, ?_⟩
       refine subF.ok ?_ <;> (conv => whnf) <;> repeat' (first
 | exact trivial
 | (with_reducible rfl)
 | ((with_reducible refine And.intro ?_ ?_) <;> conv => whnf)
 | omega
 | rfl
 | (refine congrArg (SV.arr _) ?_)
 | (refine congrArg (Value.int _) ?_)
 | (refine congrArg Value.bool ?_))
     · intro m hm
       by_cases hmP : m < P.length
       · obtain ⟨s, hs, hmis, hPs⟩ := hPm m hmP
         obtain ⟨c, hc6, hcl, hcg, hck, c5, c6, c7⟩ := set_facts hx hn6 hl hs hmis hPs
         have hclT : @List.length (Ty.int .i64).T (P.getD m []) = c.length := hcl
         repeat' (first
 | refine W.seq ?_
 | refine W.block ?_
 | (refine W.drawPh (id := 23) tys_ok [] mixed [0, 0, 3, 4, 0, 0, 48, 64, 136, 256, 768, 1024, 1024, 1024, 13312, 17408, 35840, 66560, 132096] [([0, 1, 2, 3, 4, 5, 6, 7], 1, 511), ([9, 10, 11, 12, 13, 14, 15], 1, 131071), ([17, 18], 0, 524287)] (by decide +kernel) ?_; conv => whnf)
 | (refine W.region tys_ok [] ?_; conv => whnf)
 | (refine W.drawAll tys_ok [] mixed rfl ?_; conv => whnf)
 | (refine W.ret ?_; conv => whnf)
 | (refine W.skip ?_; conv => whnf)
 | (refine W.exit ?_; conv => whnf)
 | (refine call_at (al := false) (c5) rfl rfl rfl rfl ?_; conv => whnf)
 | (refine call_at (al := false) (c6) rfl rfl rfl rfl ?_; conv => whnf)
 | (refine Both.mk ?_ ?_ <;> (conv => whnf))
 | (refine W.cond rfl (fun hb => ?_) (fun hb => ?_) <;> (try simp only [zr, zd, zm, minL, maxL, pickB, zA] at hb) <;> (try (first | (cases hb; done) | exact absurd hb (by decide) | (exfalso; omega) | (omega) | ((simp [pickB] at hb; omega)) | ((simp [pickB] at hb; done)))))
 | ((with_reducible refine And.intro ?_ ?_); exact zc; conv => whnf)
 | ((with_reducible refine And.intro (Side.out ?_) ?_); rotate_left; (conv => whnf))
 | ((first | refine retF1 ?_ | refine retF2 ?_ | refine subF.leaf ?_ | refine subF.side ?_) <;> (conv => whnf) <;> repeat' (first
 | exact trivial
 | (with_reducible rfl)
 | ((with_reducible refine And.intro ?_ ?_) <;> conv => whnf)
 | omega
 | rfl
 | (refine congrArg (SV.arr _) ?_)
 | (refine congrArg (Value.int _) ?_)
 | (refine congrArg Value.bool ?_)))); all_goals (try unfold Side)
         all_goals try (repeat' (first | exact zb | with_reducible refine And.intro ?_ ?_))
         refine W.loop (fun j : Nat => ⟨[(3, (.lit (.int .i64 (i : Int)))), (4, .st true (.arr JT l)), (10, .st true (.arr (.sl (.int .i64)) (P : List (List Int)))), (12, .st true (.arr (.sl (.int .i64)) (P : List (List Int)))), (14, .st true (.arr (.int .i64) (zN (lsT I 12) : List Int))), (16, (.lit (.int .i64 (m : Int)))), (17, (.lit (.int .i64 (j : Int))))], []⟩) (fun j => j ≤ i) (fun j => i - j) (0) ?_ ?_
         · refine ⟨Nat.zero_le _, ?_⟩
           refine subF.ok ?_ <;> (conv => whnf) <;> repeat' (first
 | exact trivial
 | (with_reducible rfl)
 | ((with_reducible refine And.intro ?_ ?_) <;> conv => whnf)
 | omega
 | rfl
 | (refine congrArg (SV.arr _) ?_)
 | (refine congrArg (Value.int _) ?_)
 | (refine congrArg Value.bool ?_))
         · intro j hj
           by_cases hji : j < i
           · repeat' (first
 | refine W.seq ?_
 | refine W.block ?_
 | (refine W.region tys_ok [] ?_; conv => whnf)
 | (refine W.drawAll tys_ok [] mixed rfl ?_; conv => whnf)
 | (refine W.ret ?_; conv => whnf)
 | (refine W.skip ?_; conv => whnf)
 | (refine W.exit ?_; conv => whnf)
 | (refine W.cond rfl (fun hb => ?_) (fun hb => ?_) <;> (try simp only [zr, zd, zm, minL, maxL, pickB, zA] at hb) <;> (try (first | (cases hb; done) | exact absurd hb (by decide) | (exfalso; omega) | (omega))))
 | ((with_reducible refine And.intro ?_ ?_); exact zc; conv => whnf)
 | ((with_reducible refine And.intro (Side.out ?_) ?_); rotate_left; (conv => whnf))
 | ((first | refine retF1 ?_ | refine retF2 ?_) <;> (conv => whnf) <;> repeat' (first
 | exact trivial
 | (with_reducible rfl)
 | ((with_reducible refine And.intro ?_ ?_) <;> conv => whnf)
 | omega
 | rfl
 | (refine congrArg (SV.arr _) ?_)
 | (refine congrArg (Value.int _) ?_)
 | (refine congrArg Value.bool ?_)))); all_goals (try unfold Side)
             all_goals try (repeat' (first | exact zb | with_reducible refine And.intro ?_ ?_))
             refine W.loop (fun k : Nat => ⟨[(3, (.lit (.int .i64 (i : Int)))), (4, .st true (.arr JT l)), (10, .st true (.arr (.sl (.int .i64)) (P : List (List Int)))), (12, .st true (.arr (.sl (.int .i64)) (P : List (List Int)))), (14, .st true (.arr (.int .i64) (zN (lsT I 12) : List Int))), (16, (.lit (.int .i64 (m : Int)))), (17, (.lit (.int .i64 (j : Int)))), (18, .lit (.bool (knT c j k))), (19, (.lit (.int .i64 (k : Int))))], []⟩) (fun k => k ≤ c.length) (fun k => c.length - k) (0) ?_ ?_
             · refine ⟨Nat.zero_le _, ?_⟩
               refine subF.ok ?_ <;> (conv => whnf) <;> repeat' (first
 | exact trivial
 | (with_reducible rfl)
 | ((with_reducible refine And.intro ?_ ?_) <;> conv => whnf)
 | omega
 | rfl
 | (refine congrArg (SV.arr _) ?_)
 | (refine congrArg (Value.int _) ?_)
 | (refine congrArg Value.bool ?_))
             · intro k hk
               by_cases hkc : k < c.length
               · have hg := hcg k
                 have hkn : knT c j (k + 1) = (knT c j k || decide (((c.getD k 0 : Nat) : Int) = (j : Int))) := rfl
                 rw [← hg] at hkn
                 obtain ⟨b, hb0⟩ : ∃ b, b = knT c j k := ⟨_, rfl⟩
                 rw [← hb0] at hkn ⊢
                 cases b with
                 | true =>
                  repeat' (first
 | refine W.seq ?_
 | refine W.block ?_
 | (refine W.region tys_ok [] ?_; conv => whnf)
 | (refine W.drawAll tys_ok [] mixed rfl ?_; conv => whnf)
 | (refine W.ret ?_; conv => whnf)
 | (refine W.skip ?_; conv => whnf)
 | (refine W.exit ?_; conv => whnf)
 | (refine W.cond rfl (fun hb => ?_) (fun hb => ?_) <;> (try simp only [zr, zd, zm, minL, maxL, pickB, zA] at hb) <;> (try (first | (cases hb; done) | exact absurd hb (by decide) | (exfalso; omega) | (omega))))
 | ((with_reducible refine And.intro ?_ ?_); exact zc; conv => whnf)
 | ((with_reducible refine And.intro (Side.out ?_) ?_); rotate_left; (conv => whnf))
 | ((first | refine retF1 ?_ | refine retF2 ?_) <;> (conv => whnf) <;> repeat' (first
 | exact trivial
 | (with_reducible rfl)
 | ((with_reducible refine And.intro ?_ ?_) <;> conv => whnf)
 | omega
 | rfl
 | (refine congrArg (SV.arr _) ?_)
 | (refine congrArg (Value.int _) ?_)
 | (refine congrArg Value.bool ?_)))); all_goals (try unfold Side)
                  all_goals try (repeat' (first | exact zb | with_reducible refine And.intro ?_ ?_))
                  refine ⟨k + 1, ⟨by omega, by omega⟩, ?_⟩
                  rw [hkn]
                  refine subF.ok ?_ <;> (conv => whnf) <;> repeat' (first
 | exact trivial
 | (with_reducible rfl)
 | ((with_reducible refine And.intro ?_ ?_) <;> conv => whnf)
 | omega
 | rfl
 | (refine congrArg (SV.arr _) ?_)
 | (refine congrArg (Value.int _) ?_)
 | (refine congrArg Value.bool ?_))
                 | false =>
                  repeat' (first
 | refine W.seq ?_
 | refine W.block ?_
 | (refine W.region tys_ok [] ?_; conv => whnf)
 | (refine W.drawAll tys_ok [] mixed rfl ?_; conv => whnf)
 | (refine W.ret ?_; conv => whnf)
 | (refine W.skip ?_; conv => whnf)
 | (refine W.exit ?_; conv => whnf)
 | (refine W.cond rfl (fun hb => ?_) (fun hb => ?_) <;> (try simp only [zr, zd, zm, minL, maxL, pickB, zA] at hb) <;> (try (first | (cases hb; done) | exact absurd hb (by decide) | (exfalso; omega) | (omega))))
 | ((with_reducible refine And.intro ?_ ?_); exact zc; conv => whnf)
 | ((with_reducible refine And.intro (Side.out ?_) ?_); rotate_left; (conv => whnf))
 | ((first | refine retF1 ?_ | refine retF2 ?_) <;> (conv => whnf) <;> repeat' (first
 | exact trivial
 | (with_reducible rfl)
 | ((with_reducible refine And.intro ?_ ?_) <;> conv => whnf)
 | omega
 | rfl
 | (refine congrArg (SV.arr _) ?_)
 | (refine congrArg (Value.int _) ?_)
 | (refine congrArg Value.bool ?_)))); all_goals (try unfold Side)
                  all_goals try (repeat' (first | exact zb | with_reducible refine And.intro ?_ ?_))
                  refine ⟨k + 1, ⟨by omega, by omega⟩, ?_⟩
                  rw [hkn]
                  refine subF.ok ?_ <;> (conv => whnf) <;> repeat' (first
 | exact trivial
 | (with_reducible rfl)
 | ((with_reducible refine And.intro ?_ ?_) <;> conv => whnf)
 | omega
 | rfl
 | (refine congrArg (SV.arr _) ?_)
 | (refine congrArg (Value.int _) ?_)
 | (refine congrArg Value.bool ?_))
               · have hke : k = c.length := by omega
                 subst hke
                 rw [hck j hji]
                 have c8 := c7 j hji
                 cases hsj : s.testBit j with
                 | true =>
                  repeat' (first
 | refine W.seq ?_
 | refine W.block ?_
 | (refine W.regionM (id := 33) tys_ok [] [4,9,11,12,13] ?_; conv => whnf)
 | (refine W.region tys_ok [] ?_; conv => whnf)
 | (refine W.drawAll tys_ok [] mixed rfl ?_; conv => whnf)
 | (refine W.ret ?_; conv => whnf)
 | (refine W.skip ?_; conv => whnf)
 | (refine W.exit ?_; conv => whnf)
 | (refine W.cond rfl (fun hb => ?_) (fun hb => ?_) <;> (try simp only [zr, zd, zm, minL, maxL, pickB, zA] at hb) <;> (try (first | (cases hb; done) | exact absurd hb (by decide) | (exfalso; omega) | (omega) | ((simp [pickB] at hb; done)))))
 | (refine Or.inl (And.intro ?_ ?_); exact zi; conv => whnf)
 | (refine Or.inr (And.intro ?_ ?_); exact zj; conv => whnf)
 | ((with_reducible refine And.intro ?_ ?_); exact zc; conv => whnf)
 | ((with_reducible refine And.intro (Side.out ?_) ?_); rotate_left; (conv => whnf))
 | ((first | refine retF1 ?_ | refine retF2 ?_) <;> (conv => whnf) <;> repeat' (first
 | exact trivial
 | (with_reducible rfl)
 | ((with_reducible refine And.intro ?_ ?_) <;> conv => whnf)
 | omega
 | rfl
 | (refine congrArg (SV.arr _) ?_)
 | (refine congrArg (Value.int _) ?_)
 | (refine congrArg Value.bool ?_)))); all_goals (try unfold Side)
                  all_goals try (repeat' (first | exact zb | with_reducible refine And.intro ?_ ?_))
                  refine ⟨j + 1, ⟨by omega, by omega⟩, ?_⟩
                  refine subF.ok ?_ <;> (conv => whnf) <;> repeat' (first
 | exact trivial
 | (with_reducible rfl)
 | ((with_reducible refine And.intro ?_ ?_) <;> conv => whnf)
 | omega
 | rfl
 | (refine congrArg (SV.arr _) ?_)
 | (refine congrArg (Value.int _) ?_)
 | (refine congrArg Value.bool ?_))
                 | false =>
                  have c9 := c8 hsj
                  have hq2 : (([] ++ P.getD m [] : List Int)).length + 1 ≤ 4294967296 := by rw [List.nil_append]; omega
                  repeat' (first
 | refine W.seq ?_
 | refine W.block ?_
 | (refine W.regionM (id := 33) tys_ok [] [4,9,11,12] ?_; conv => whnf)
 | (refine W.region tys_ok [] ?_; conv => whnf)
 | (refine W.drawAll tys_ok [] mixed rfl ?_; conv => whnf)
 | (refine W.ret ?_; conv => whnf)
 | (refine W.skip ?_; conv => whnf)
 | (refine W.exit ?_; conv => whnf)
 | (refine call_at (al := false) (c9) rfl rfl rfl rfl ?_; conv => whnf)
 | (refine W.cond rfl (fun hb => ?_) (fun hb => ?_) <;> (try simp only [zr, zd, zm, minL, maxL, pickB, zA] at hb) <;> (try (first | (cases hb; done) | exact absurd hb (by decide) | (exfalso; omega) | (omega) | ((simp [pickB] at hb; done)))))
 | (refine Or.inl (And.intro ?_ ?_); exact zi; conv => whnf)
 | (refine Or.inr (And.intro ?_ ?_); exact zj; conv => whnf)
 | ((with_reducible refine And.intro ?_ ?_); exact zc; conv => whnf)
 | ((with_reducible refine And.intro (Side.out ?_) ?_); rotate_left; (conv => whnf))
 | ((first | refine retF1 ?_ | refine retF2 ?_) <;> (conv => whnf) <;> repeat' (first
 | exact trivial
 | (with_reducible rfl)
 | ((with_reducible refine And.intro ?_ ?_) <;> conv => whnf)
 | omega
 | rfl
 | (refine congrArg (SV.arr _) ?_)
 | (refine congrArg (Value.int _) ?_)
 | (refine congrArg Value.bool ?_)))); all_goals (try unfold Side)
                  all_goals try (repeat' (first | exact zb | with_reducible refine And.intro ?_ ?_))
                  all_goals first | exact hq2 | skip
                  refine ⟨j + 1, ⟨by omega, by omega⟩, ?_⟩
                  refine subF.ok ?_ <;> (conv => whnf) <;> repeat' (first
 | exact trivial
 | (with_reducible rfl)
 | ((with_reducible refine And.intro ?_ ?_) <;> conv => whnf)
 | omega
 | rfl
 | (refine congrArg (SV.arr _) ?_)
 | (refine congrArg (Value.int _) ?_)
 | (refine congrArg Value.bool ?_))
           · repeat' (first
 | refine W.seq ?_
 | refine W.block ?_
 | (refine W.region tys_ok [] ?_; conv => whnf)
 | (refine W.drawAll tys_ok [] mixed rfl ?_; conv => whnf)
 | (refine W.ret ?_; conv => whnf)
 | (refine W.skip ?_; conv => whnf)
 | (refine W.exit ?_; conv => whnf)
 | (refine W.cond rfl (fun hb => ?_) (fun hb => ?_) <;> (try simp only [zr, zd, zm, minL, maxL, pickB, zA] at hb) <;> (try (first | (cases hb; done) | exact absurd hb (by decide) | (exfalso; omega) | (omega))))
 | ((with_reducible refine And.intro ?_ ?_); exact zc; conv => whnf)
 | ((with_reducible refine And.intro (Side.out ?_) ?_); rotate_left; (conv => whnf))
 | ((first | refine retF1 ?_ | refine retF2 ?_) <;> (conv => whnf) <;> repeat' (first
 | exact trivial
 | (with_reducible rfl)
 | ((with_reducible refine And.intro ?_ ?_) <;> conv => whnf)
 | omega
 | rfl
 | (refine congrArg (SV.arr _) ?_)
 | (refine congrArg (Value.int _) ?_)
 | (refine congrArg Value.bool ?_)))); all_goals (try unfold Side)
             all_goals try (repeat' (first | exact zb | with_reducible refine And.intro ?_ ?_))
             refine ⟨m + 1, ⟨by omega, by omega⟩, ?_⟩
             refine subF.ok ?_ <;> (conv => whnf) <;> repeat' (first
 | exact trivial
 | (with_reducible rfl)
 | ((with_reducible refine And.intro ?_ ?_) <;> conv => whnf)
 | omega
 | rfl
 | (refine congrArg (SV.arr _) ?_)
 | (refine congrArg (Value.int _) ?_)
 | (refine congrArg Value.bool ?_))
       · have hgl : (zN (lsT I 12)).length ≤ 12 := by rw [zN_len]; exact lsT_len
         have hOJ : OJ l := by rw [hl]; exact jobK_OJ hx
         have hll : l.length = i := by rw [hl]; exact jobK_len
         have hat : ∀ j, j < i → decide ((lsT I j).length < (lsT I 12).length ∧ (lsT I 12).getD (lsT I j).length 0 = j) = I.testBit j := fun j hj => lsT_at (by omega)
         have htop : lsT I i = lsT I 12 := lsT_top hI (by omega)
         have htwo : ∀ j k, j < i → k < i → fitsT l [j, k] = !ovX x j k := fun j k hj hk => by rw [hl]; exact two_fits hx hj hk
         have hc2 : ∀ j k, j < i → k < i → FnAt Try.prog false 15 [.arr JT l, .arr (.int .i64) ([(j : Int), (k : Int)] : List Int)] (.lit (.bool (!ovX x j k))) [] := fun j k hj hk => by
          have := topfits_at hOJ (c := [j, k]) (by omega) (fun a ha => by
           rw [hll]
           have ha : a < 2 := ha
           have : a = 0 ∨ a = 1 := by omega
           rcases this with rfl | rfl
           · exact hj
           · exact hk) (show 2 ≤ 6 by decide)
          rw [htwo j k hj hk] at this; exact this
         repeat' (first
 | refine W.seq ?_
 | refine W.block ?_
 | (refine W.region tys_ok [] ?_; conv => whnf)
 | (refine W.drawAll tys_ok [] mixed rfl ?_; conv => whnf)
 | (refine W.ret ?_; conv => whnf)
 | (refine W.skip ?_; conv => whnf)
 | (refine W.exit ?_; conv => whnf)
 | (refine W.cond rfl (fun hb => ?_) (fun hb => ?_) <;> (try simp only [zr, zd, zm, minL, maxL, pickB, zA] at hb) <;> (try (first | (cases hb; done) | exact absurd hb (by decide) | (exfalso; omega) | (omega))))
 | ((with_reducible refine And.intro ?_ ?_); exact zc; conv => whnf)
 | ((with_reducible refine And.intro (Side.out ?_) ?_); rotate_left; (conv => whnf))
 | ((first | refine retF1 ?_ | refine retF2 ?_) <;> (conv => whnf) <;> repeat' (first
 | exact trivial
 | (with_reducible rfl)
 | ((with_reducible refine And.intro ?_ ?_) <;> conv => whnf)
 | omega
 | rfl
 | (refine congrArg (SV.arr _) ?_)
 | (refine congrArg (Value.int _) ?_)
 | (refine congrArg Value.bool ?_)))); all_goals (try unfold Side)
         all_goals try (repeat' (first | exact zb | with_reducible refine And.intro ?_ ?_))
         refine W.loop (fun j : Nat => ⟨[(3, (.lit (.int .i64 (i : Int)))), (4, .st true (.arr JT l)), (14, .st true (.arr (.int .i64) (zN (lsT I 12) : List Int))), (20, (.lit (.int .i64 ((lsT I j).length : Int)))), (21, (.lit (.int .i64 (j : Int))))], []⟩) (fun j => j ≤ i) (fun j => i - j) (0) ?_ ?_
         · refine ⟨Nat.zero_le _, ?_⟩
           refine subF.ok ?_ <;> (conv => whnf) <;> repeat' (first
 | exact trivial
 | (with_reducible rfl)
 | ((with_reducible refine And.intro ?_ ?_) <;> conv => whnf)
 | omega
 | rfl
 | (refine congrArg (SV.arr _) ?_)
 | (refine congrArg (Value.int _) ?_)
 | (refine congrArg Value.bool ?_))
         · intro j hj
           by_cases hji : j < i
           · repeat' (first
 | refine W.seq ?_
 | refine W.block ?_
 | (refine W.region tys_ok [] ?_; conv => whnf)
 | (refine W.drawAll tys_ok [] mixed rfl ?_; conv => whnf)
 | (refine W.ret ?_; conv => whnf)
 | (refine W.skip ?_; conv => whnf)
 | (refine W.exit ?_; conv => whnf)
 | (refine W.cond rfl (fun hb => ?_) (fun hb => ?_) <;> (try simp only [zr, zd, zm, minL, maxL, pickB, zA] at hb) <;> (try (first | (cases hb; done) | exact absurd hb (by decide) | (exfalso; omega) | (omega))))
 | ((with_reducible refine And.intro ?_ ?_); exact zc; conv => whnf)
 | ((with_reducible refine And.intro (Side.out ?_) ?_); rotate_left; (conv => whnf))
 | ((first | refine retF1 ?_ | refine retF2 ?_) <;> (conv => whnf) <;> repeat' (first
 | exact trivial
 | (with_reducible rfl)
 | ((with_reducible refine And.intro ?_ ?_) <;> conv => whnf)
 | omega
 | rfl
 | (refine congrArg (SV.arr _) ?_)
 | (refine congrArg (Value.int _) ?_)
 | (refine congrArg Value.bool ?_)))); all_goals (try unfold Side)
             all_goals try (repeat' (first | exact zb | with_reducible refine And.intro ?_ ?_))
             refine W.loop (fun k : Nat => ⟨[(3, (.lit (.int .i64 (i : Int)))), (4, .st true (.arr JT l)), (14, .st true (.arr (.int .i64) (zN (lsT I 12) : List Int))), (20, (.lit (.int .i64 ((lsT I j).length : Int)))), (21, (.lit (.int .i64 (j : Int)))), (22, .lit (.bool (alnT x j k))), (23, (.lit (.int .i64 (k : Int))))], []⟩) (fun k => k ≤ i) (fun k => i - k) (0) ?_ ?_
             · refine ⟨Nat.zero_le _, ?_⟩
               refine subF.ok ?_ <;> (conv => whnf) <;> repeat' (first
 | exact trivial
 | (with_reducible rfl)
 | ((with_reducible refine And.intro ?_ ?_) <;> conv => whnf)
 | omega
 | rfl
 | (refine congrArg (SV.arr _) ?_)
 | (refine congrArg (Value.int _) ?_)
 | (refine congrArg Value.bool ?_))
             · intro k hk
               by_cases hki : k < i
               · have c4 := hc2 j k hji hki
                 have hkn : alnT x j (k + 1) = (alnT x j k && (decide ((k : Int) = (j : Int)) || !ovX x j k)) := rfl
                 obtain ⟨b, hb0⟩ : ∃ b, b = alnT x j k := ⟨_, rfl⟩
                 rw [← hb0] at hkn ⊢
                 cases b with
                 | true =>
                  repeat' (first
 | refine W.seq ?_
 | refine W.block ?_
 | (refine W.region tys_ok [] ?_; conv => whnf)
 | (refine W.drawAll tys_ok [] mixed rfl ?_; conv => whnf)
 | (refine W.ret ?_; conv => whnf)
 | (refine W.skip ?_; conv => whnf)
 | (refine W.exit ?_; conv => whnf)
 | (refine call_at (al := false) (c4) rfl rfl rfl rfl ?_; conv => whnf)
 | (refine W.cond rfl (fun hb => ?_) (fun hb => ?_) <;> (try simp only [zr, zd, zm, minL, maxL, pickB, zA] at hb) <;> (try (first | (cases hb; done) | exact absurd hb (by decide) | (exfalso; omega) | (omega))))
 | ((with_reducible refine And.intro ?_ ?_); exact zc; conv => whnf)
 | ((with_reducible refine And.intro (Side.out ?_) ?_); rotate_left; (conv => whnf))
 | ((first | refine retF1 ?_ | refine retF2 ?_) <;> (conv => whnf) <;> repeat' (first
 | exact trivial
 | (with_reducible rfl)
 | ((with_reducible refine And.intro ?_ ?_) <;> conv => whnf)
 | omega
 | rfl
 | (refine congrArg (SV.arr _) ?_)
 | (refine congrArg (Value.int _) ?_)
 | (refine congrArg Value.bool ?_)))); all_goals (try unfold Side)
                  all_goals try (repeat' (first | exact zb | with_reducible refine And.intro ?_ ?_))
                  refine ⟨k + 1, ⟨by omega, by omega⟩, ?_⟩
                  rw [hkn]
                  refine subF.ok ?_ <;> (conv => whnf) <;> repeat' (first
 | exact trivial
 | (with_reducible rfl)
 | ((with_reducible refine And.intro ?_ ?_) <;> conv => whnf)
 | omega
 | rfl
 | (refine congrArg (SV.arr _) ?_)
 | (refine congrArg (Value.int _) ?_)
 | (refine congrArg Value.bool ?_))
                 | false =>
                  repeat' (first
 | refine W.seq ?_
 | refine W.block ?_
 | (refine W.region tys_ok [] ?_; conv => whnf)
 | (refine W.drawAll tys_ok [] mixed rfl ?_; conv => whnf)
 | (refine W.ret ?_; conv => whnf)
 | (refine W.skip ?_; conv => whnf)
 | (refine W.exit ?_; conv => whnf)
 | (refine call_at (al := false) (c4) rfl rfl rfl rfl ?_; conv => whnf)
 | (refine W.cond rfl (fun hb => ?_) (fun hb => ?_) <;> (try simp only [zr, zd, zm, minL, maxL, pickB, zA] at hb) <;> (try (first | (cases hb; done) | exact absurd hb (by decide) | (exfalso; omega) | (omega))))
 | ((with_reducible refine And.intro ?_ ?_); exact zc; conv => whnf)
 | ((with_reducible refine And.intro (Side.out ?_) ?_); rotate_left; (conv => whnf))
 | ((first | refine retF1 ?_ | refine retF2 ?_) <;> (conv => whnf) <;> repeat' (first
 | exact trivial
 | (with_reducible rfl)
 | ((with_reducible refine And.intro ?_ ?_) <;> conv => whnf)
 | omega
 | rfl
 | (refine congrArg (SV.arr _) ?_)
 | (refine congrArg (Value.int _) ?_)
 | (refine congrArg Value.bool ?_)))); all_goals (try unfold Side)
                  all_goals try (repeat' (first | exact zb | with_reducible refine And.intro ?_ ?_))
                  refine ⟨k + 1, ⟨by omega, by omega⟩, ?_⟩
                  rw [hkn]
                  refine subF.ok ?_ <;> (conv => whnf) <;> repeat' (first
 | exact trivial
 | (with_reducible rfl)
 | ((with_reducible refine And.intro ?_ ?_) <;> conv => whnf)
 | omega
 | rfl
 | (refine congrArg (SV.arr _) ?_)
 | (refine congrArg (Value.int _) ?_)
 | (refine congrArg Value.bool ?_))
               · have hke : k = i := by omega
                 subst hke
                 have hal := alnT_all (x := x) hIb hji
                 have hgt : (zN (lsT I 12)).getD (((lsT I j).length : Int)).toNat 0 = (((lsT I 12).getD (lsT I j).length 0 : Nat) : Int) := by rw [Int.toNat_natCast, zN_get]
                 have hjt := hat j hji
                 have hjz : ((lsT I j).length < (zN (lsT I 12)).length ∧ (zN (lsT I 12)).getD (lsT I j).length 0 = (j : Int)) ↔ ((lsT I j).length < (lsT I 12).length ∧ (lsT I 12).getD (lsT I j).length 0 = j) := by rw [zN_len, zN_get]; omega
                 rw [hal]
                 cases hIj : I.testBit j with
                 | true =>
                  rw [hIj, decide_eq_true_eq] at hjt
                  have hjt := hjz.2 hjt
                  have hstp := lsT_yes hIj
                  repeat' (first
 | refine W.seq ?_
 | refine W.block ?_
 | (refine W.region tys_ok [] ?_; conv => whnf)
 | (refine W.drawAll tys_ok [] mixed rfl ?_; conv => whnf)
 | (refine W.ret ?_; conv => whnf)
 | (refine W.skip ?_; conv => whnf)
 | (refine W.exit ?_; conv => whnf)
 | (refine W.cond rfl (fun hb => ?_) (fun hb => ?_) <;> (try simp only [zr, zd, zm, minL, maxL, pickB, zA] at hb) <;> (try (first | (cases hb; done) | exact absurd hb (by decide) | (exfalso; omega) | (omega) | ((rw [decide_eq_true hjt.1, decide_eq_true hjt.2] at hb; cases hb; done)))))
 | ((with_reducible refine And.intro ?_ ?_); exact zc; conv => whnf)
 | ((with_reducible refine And.intro (Side.out ?_) ?_); rotate_left; (conv => whnf))
 | ((first | refine retF1 ?_ | refine retF2 ?_) <;> (conv => whnf) <;> repeat' (first
 | exact trivial
 | (with_reducible rfl)
 | ((with_reducible refine And.intro ?_ ?_) <;> conv => whnf)
 | omega
 | rfl
 | (refine congrArg (SV.arr _) ?_)
 | (refine congrArg (Value.int _) ?_)
 | (refine congrArg Value.bool ?_)))); all_goals (try unfold Side)
                  all_goals try (repeat' (first | exact zb | with_reducible refine And.intro ?_ ?_))
                  refine ⟨j + 1, ⟨by omega, by omega⟩, ?_⟩
                  rw [hstp]
                  refine subF.ok ?_ <;> (conv => whnf) <;> repeat' (first
 | exact trivial
 | (with_reducible rfl)
 | ((with_reducible refine And.intro ?_ ?_) <;> conv => whnf)
 | omega
 | rfl
 | (refine congrArg (SV.arr _) ?_)
 | (refine congrArg (Value.int _) ?_)
 | (refine congrArg Value.bool ?_))
                  all_goals first | (rw [List.length_append, List.length_singleton]; rfl) | skip
                 | false =>
                  rw [hIj, decide_eq_false_iff_not] at hjt
                  have hjt : ¬ ((lsT I j).length < (zN (lsT I 12)).length ∧ (zN (lsT I 12)).getD (lsT I j).length 0 = (j : Int)) := fun h => hjt (hjz.1 h)
                  have hstp := lsT_no hIj
                  repeat' (first
 | refine W.seq ?_
 | refine W.block ?_
 | (refine W.region tys_ok [] ?_; conv => whnf)
 | (refine W.drawAll tys_ok [] mixed rfl ?_; conv => whnf)
 | (refine W.ret ?_; conv => whnf)
 | (refine W.skip ?_; conv => whnf)
 | (refine W.exit ?_; conv => whnf)
 | (refine W.cond rfl (fun hb => ?_) (fun hb => ?_) <;> (try simp only [zr, zd, zm, minL, maxL, pickB, zA] at hb) <;> (try (first | (cases hb; done) | exact absurd hb (by decide) | (exfalso; omega) | (omega) | ((exact (hjt (by simpa using hb)).elim)))))
 | ((with_reducible refine And.intro ?_ ?_); exact zc; conv => whnf)
 | ((with_reducible refine And.intro (Side.out ?_) ?_); rotate_left; (conv => whnf))
 | ((first | refine retF1 ?_ | refine retF2 ?_) <;> (conv => whnf) <;> repeat' (first
 | exact trivial
 | (with_reducible rfl)
 | ((with_reducible refine And.intro ?_ ?_) <;> conv => whnf)
 | omega
 | rfl
 | (refine congrArg (SV.arr _) ?_)
 | (refine congrArg (Value.int _) ?_)
 | (refine congrArg Value.bool ?_)))); all_goals (try unfold Side)
                  all_goals try (repeat' (first | exact zb | with_reducible refine And.intro ?_ ?_))
                  refine ⟨j + 1, ⟨by omega, by omega⟩, ?_⟩
                  rw [hstp]
                  refine subF.ok ?_ <;> (conv => whnf) <;> repeat' (first
 | exact trivial
 | (with_reducible rfl)
 | ((with_reducible refine And.intro ?_ ?_) <;> conv => whnf)
 | omega
 | rfl
 | (refine congrArg (SV.arr _) ?_)
 | (refine congrArg (Value.int _) ?_)
 | (refine congrArg Value.bool ?_))
           · have hje : j = i := by omega
             subst hje
             rw [htop]
             repeat' (first
 | refine W.seq ?_
 | refine W.block ?_
 | (refine W.region tys_ok [] ?_; conv => whnf)
 | (refine W.drawAll tys_ok [] mixed rfl ?_; conv => whnf)
 | (refine W.ret ?_; conv => whnf)
 | (refine W.skip ?_; conv => whnf)
 | (refine W.exit ?_; conv => whnf)
 | (refine W.cond rfl (fun hb => ?_) (fun hb => ?_) <;> (try simp only [zr, zd, zm, minL, maxL, pickB, zA] at hb) <;> (try (first | (cases hb; done) | exact absurd hb (by decide) | (exfalso; omega) | (omega))))
 | ((with_reducible refine And.intro ?_ ?_); exact zc; conv => whnf)
 | ((with_reducible refine And.intro (Side.out ?_) ?_); rotate_left; (conv => whnf))
 | ((first | refine retF1 ?_ | refine retF2 ?_) <;> (conv => whnf) <;> repeat' (first
 | exact trivial
 | (with_reducible rfl)
 | ((with_reducible refine And.intro ?_ ?_) <;> conv => whnf)
 | omega
 | rfl
 | (refine congrArg (SV.arr _) ?_)
 | (refine congrArg (Value.int _) ?_)
 | (refine congrArg Value.bool ?_)))); all_goals (try unfold Side)
             all_goals try (repeat' (first | exact zb | with_reducible refine And.intro ?_ ?_))
             all_goals exact decide_eq_true (congrArg Nat.cast (zN_len (c := lsT I 12)).symm)
end Go.Proofs.Ytckmhlpngolbpaa
