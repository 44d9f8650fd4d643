/- Joined of: Vc38 E6 E7 To3 E8 E9. No condition. -/
import Derived.Test.YtckmhlpngolbpaaJ4
import Derived.Test.YtckmhlpngolbpaaJ6
set_option linter.unusedVariables false
set_option linter.unusedSimpArgs false
namespace Go.Vc
def litsOf : List AV → Option (List SV)
 | [] => some []
 | .lit v :: r => match litsOf r with
  | some l => some (.lit v :: l)
  | none => none
 | _ :: _ => none
theorem litsOf_len : ∀ {l : List AV} {s : List SV}, litsOf l = some s → s.length = l.length
 | [], s, h => by cases h; rfl
 | A :: r, s, h => by
  cases A <;> simp only [litsOf] at h <;> first | (cases h; done) | skip
  split at h
  · rename_i l hl
    cases h
    rw [List.length_cons, List.length_cons, litsOf_len hl]
  · cases h
theorem litsOf_get : ∀ {l : List AV} {s : List SV} {i : Nat} {B : SV}, litsOf l = some s → s[i]? = some B → ∃ v, B = .lit v ∧ l[i]? = some (.lit v)
 | [], s, i, B, h, hi => by cases h; simp at hi
 | A :: r, s, i, B, h, hi => by
  cases A <;> simp only [litsOf] at h <;> first | (cases h; done) | skip
  rename_i v
  split at h
  · rename_i l hl
    cases h
    cases i with
    | zero => simp at hi; subst hi; exact ⟨v, rfl, rfl⟩
    | succ i =>
     obtain ⟨u, h1, h2⟩ := litsOf_get (l := r) (i := i) (B := B) hl (by simpa using hi)
     exact ⟨u, h1, by simpa using h2⟩
  · cases h
def Sy.frz (Γ : Sy) (t k : Nat) (s : List SV) : Sy := ⟨(t, .st false (.sadr (.agg s))) :: (Γ.drop k).tmps, (Γ.drop k).own⟩
theorem St.frzBox {c : Cx} {Γ : Sy} {g : Nat → Value} {a : Act} {w : World} (h : St c Γ g a w) {t k : Nat} {l : List AV} {s : List SV} (ht : get? Γ.tmps t = some (.padr k 0)) (hk : get? Γ.own k = some (.box l)) (hs : litsOf l = some s) : St c (Γ.frz t k s) g a w := by
 have hd := h.drop k
 obtain ⟨b, hg, hv⟩ := h.tmps t _ ht
 obtain ⟨b', arr, e, hg', hb1, hb2, hsz, hc⟩ := h.hp.ok k _ hk
 have eb : b' = b := by rw [hg] at hg'; cases hg'; rfl
 subst eb
 have hn : ¬ Oset (Γ.drop k).own g b' := by
  rintro ⟨j, o, h1, h2⟩
  simp only [Sy.drop, get?_mapv, get?_del] at h1
  split at h1
  · cases h1
  · rename_i hne
    obtain ⟨o', h3, _⟩ := Option.map_eq_some_iff.1 h1
    have hb : Blk (g k) b' := Blk.of (by rw [hg]; rfl)
    exact hne (h.hp.inj j k o' _ b' h3 hk h2 hb)
 have key : RpS w (Av (Oset (Γ.drop k).own g) c.O0 false) (.pointer (some ⟨b', 0, none⟩)) (.sadr (.agg s)) := by
  refine RpS.sadr b' 0 _ (.agg arr) arr e (0, 0) hb2 (fun hO => ?_) (fun j hj => ?_) ?_
  · rcases hO with hO | ⟨hO, _⟩
    · exact hn hO
    · cases hO
  · rw [Nat.zero_add]; rfl
  · refine RpS.agg arr s (fun i => arr.getD i undef) (by rw [hsz, litsOf_len hs]) (fun i hi => ?_) (fun i B hB => ?_)
    · obtain ⟨v, _, hl⟩ := litsOf_get hs (List.getElem?_eq_getElem hi) (B := s[i])
      obtain ⟨x, h1, h2, _⟩ := hc i _ hl
      rw [Array.getD_eq_getD_getElem?, h1]
      exact ⟨rfl, h2⟩
    · obtain ⟨v, rfl, hl⟩ := litsOf_get hs hB
      obtain ⟨x, h1, h2, h3⟩ := hc i _ hl
      rw [Array.getD_eq_getD_getElem?, h1]
      have h4 : x = v ∧ v.oneCell' = true := h3
      obtain ⟨rfl, _⟩ := h4
      exact RpS.lit _ h2
 refine ⟨hd.defers, hd.size, hd.keep, hd.o0, fun t' A hA => ?_, hd.kept, hd.hp, hd.low, hd.pin⟩
 have hA : get? ((t, .st false (.sadr (.agg s))) :: (Γ.drop k).tmps) t' = some A := hA
 simp only [get?] at hA
 split at hA
 · rename_i he
   have he := Nat.eq_of_beq_eq_true he
   cases hA
   subst he
   rw [hv]
   exact key
 · exact hd.tmps t' A hA
theorem W.frz {P : Program} {n : Nat} {Q : Exit → Sy → Prop} {Γ : Sy} {x : Code} {t k : Nat} {l : List AV} {s : List SV} (ht : get? Γ.tmps t = some (.padr k 0)) (hk : get? Γ.own k = some (.box l)) (hs : litsOf l = some s) (h : W P n x (Γ.frz t k s) Q) : W P n x Γ Q :=
 ⟨fun c g a w hn hst => h.out c g a w hn (hst.frzBox ht hk hs)⟩
end Go.Vc
namespace Go.Proofs.Ytckmhlpngolbpaa
open Int renaming reduceToNat → zr, reduceTDiv → zd, reduceTMod → zm
open Go Go.Vc Go.Sh Go.Tp Go.Ov
abbrev P2 : Ty := .cons (.int .i64) (.cons (.int .i64) .nil)
theorem zP_lenT {at_ : List (Nat × Nat)} : @List.length P2.T (zP at_) = at_.length := zP_len
theorem rd_no {a b : Int} {n i j : Nat} (g1 : a = (i : Int)) (g2 : b = (j : Int)) (hi : i < n) (hj : j < n) (h : ((a < 0 ∨ (n : Int) ≤ a) ∨ b < 0) ∨ (n : Int) ≤ b) : False := by omega
theorem put_ok {l : List Nat} {n i j : Nat} {a : Int} (hl : l.length = n) (hlt : ∀ a, l.getD a 0 < 2 ^ n) (hn : n ≤ 12) (hi : i < n) (hj : j < n) (ha : a = (i : Int)) :
  (0 ≤ (zN l).getD a.toNat 0 ∧ 0 ≤ ((2 ^ j : Nat) : Int) ∧ InK .u16 ((zN l).getD a.toNat 0) ∧ InK .u16 ((2 ^ j : Nat) : Int) ∧ InK .u16 ((bitsN .or ((zN l).getD a.toNat 0).toNat ((2 ^ j : Nat) : Int).toNat : Nat) : Int)) ∧
  (zN l).set a.toNat ((bitsN .or ((zN l).getD a.toNat 0).toNat ((2 ^ j : Nat) : Int).toNat : Nat) : Int) = zN (setB l i j) := by
 subst ha
 rw [Int.toNat_natCast, zN_get]
 have h1 := hlt i
 have h2 := two12 hn
 have h3 := or_lt h1 hj
 have h4 := two12 (n := j) (by omega)
 exact ⟨⟨Int.natCast_nonneg _, Int.natCast_nonneg _, inU (by omega), inU (by omega), (inU (by omega) : InK .u16 ((l.getD i 0 ||| 2 ^ j : Nat) : Int))⟩, zN_set⟩
set_option maxHeartbeats 8000000 in
theorem read_at {at_ : List (Nat × Nat)} {n : Nat} (h : PrOk at_ n) (hn1 : 1 ≤ n) (hn : n ≤ 12) (hl : at_.length ≤ 40) :
  FnAt Try.prog false 34 [I64 n, .arr P2 (zP at_)] (.tup [.st true (.sadr (.agg [I64 n, .arr (.int .u16) (zN (byK at_ n at_.length) : List Int), .arr (.int .u16) (zN (frK at_ n at_.length) : List Int)])), .lit (.bool true)]) [] := by
 have h2 := two12 hn
 have hzl := zP_lenT (at_ := at_)
 have q0 : zN (List.replicate n 0) = List.replicate n (0 : Int) := by unfold zN; rw [List.map_replicate]; rfl
 have q0' : List.replicate (n : Int).toNat (0 : Int) = zN (List.replicate n 0) := by rw [Int.toNat_natCast, q0]
 refine FnAt.of_body tys_ok Try.func34 (by rfl) rfl Try.ntmps34 (by rw [Try.results34]) (by simp) ?_
 repeat' (first
 | refine W.seq ?_
 | refine W.block ?_
 | (refine W.drawPhTo (id := 3) tys_ok [] mixed [0, 0, 2, 0, 8, 21, 32, 127] [([0, 1, 3], 2, 31), ([], 1, 63), ([], 1, 127), ([7], 0, 255)] ⟨[(0, (.lit (.int .i64 (n : Int)))), (1, .st false (.arr P2 (zP at_))), (6, .padr 27000 0)], [(27000, .box [(.lit (.int .i64 (n : Int))), .own 23000, .own 25000]), (23000, .row 79 (.int .u16) true (zN (byK at_ n 0) : List Int)), (25000, .row 79 (.int .u16) true (zN (frK at_ n 0) : List Int))]⟩ (by decide +kernel) ?_ ?_ <;> (conv => whnf))
 | (refine W.region tys_ok [] ?_; conv => whnf)
 | (refine W.drawAll tys_ok [] mixed rfl ?_; conv => whnf)
 | (refine W.ret ?_; conv => whnf)
 | (refine W.skip ?_; conv => whnf)
 | (refine W.exit ?_; conv => whnf)
 | (refine Both.mk ?_ ?_ <;> (conv => whnf))
 | (refine W.cond rfl (fun hb => ?_) (fun hb => ?_) <;> (try simp only [zr, zd, zm, minL, maxL, pickB, zA] at hb) <;> (try (first | (cases hb; done) | exact absurd hb (by decide) | (exfalso; omega) | (omega))))
 | ((with_reducible refine And.intro ?_ ?_); exact zc; conv => whnf)
 | ((with_reducible refine And.intro (Side.out ?_) ?_); rotate_left; (conv => whnf))
 | ((first | refine retF1 ?_ | refine retF2 ?_ | refine subF.leaf ?_ | refine subF.side ?_) <;> (conv => whnf) <;> repeat' (first
 | exact trivial
 | (with_reducible rfl)
 | ((with_reducible refine And.intro ?_ ?_) <;> conv => whnf)
 | omega
 | rfl
 | (refine congrArg (SV.arr _) ?_)
 | (refine congrArg (Value.int _) ?_)
 | (refine congrArg Value.bool ?_)))); all_goals (try unfold Side)
 all_goals try (repeat' (first | exact zb | with_reducible refine And.intro ?_ ?_))
 all_goals first | exact q0' | skip
 refine W.loop (fun k : Nat => ⟨[(0, (.lit (.int .i64 (n : Int)))), (6, .padr 27000 0), (27, .st false (.arr P2 (zP at_))), (28, (.lit (.int .i64 (at_.length : Int)))), (29, (.lit (.int .i64 (k : Int))))], [(27000, .box [(.lit (.int .i64 (n : Int))), .own 23000, .own 25000]), (23000, .row 79 (.int .u16) true (zN (byK at_ n k) : List Int)), (25000, .row 79 (.int .u16) true (zN (frK at_ n k) : List Int))]⟩) (fun k => k ≤ at_.length) (fun k => at_.length - k) (0) ?_ ?_
 · refine ⟨Nat.zero_le _, ?_⟩
   refine subF.ok ?_ <;> (conv => whnf) <;> repeat' (first
 | exact trivial
 | (with_reducible rfl)
 | ((with_reducible refine And.intro ?_ ?_) <;> conv => whnf)
 | omega
 | rfl
 | (refine congrArg (SV.arr _) ?_)
 | (refine congrArg (Value.int _) ?_)
 | (refine congrArg Value.bool ?_))
 · intro k hk
   by_cases hkl : k < at_.length
   · have hg := zP_get (at_ := at_) (k := k)
     obtain ⟨ha, hb0⟩ := h k hkl
     obtain ⟨i, hi⟩ : ∃ i, i = (at_.getD k (0, 0)).1 := ⟨_, rfl⟩
     obtain ⟨j, hj⟩ : ∃ j, j = (at_.getD k (0, 0)).2 := ⟨_, rfl⟩
     have sB : byK at_ n (k + 1) = setB (byK at_ n k) i j := by rw [byK, hi, hj]
     have sF : frK at_ n (k + 1) = setB (frK at_ n k) j i := by rw [frK, hi, hj]
     rw [← hi, ← hj] at hg
     rw [← hi] at ha
     rw [← hj] at hb0
     have g1 : (@List.getD P2.T (zP at_) k O0).1 = (i : Int) := by show ((zP at_).getD k (0, 0, ())).1 = (i : Int); rw [hg]
     have g2 : (@List.getD P2.T (zP at_) k O0).2.1 = (j : Int) := by show ((zP at_).getD k (0, 0, ())).2.1 = (j : Int); rw [hg]
     obtain ⟨B, hB⟩ : ∃ B, B = byK at_ n k := ⟨_, rfl⟩
     obtain ⟨F, hF⟩ : ∃ F, F = frK at_ n k := ⟨_, rfl⟩
     have lB : B.length = n := by rw [hB]; exact byK_len
     have lF : F.length = n := by rw [hF]; exact frK_len
     have tB : ∀ a, B.getD a 0 < 2 ^ n := fun a => by rw [hB]; exact byK_lt h hk
     have tF : ∀ a, F.getD a 0 < 2 ^ n := fun a => by rw [hF]; exact frK_lt h hk
     rw [← hB] at sB
     rw [← hF] at sF
     rw [← hB, ← hF]
     obtain ⟨i', hi'⟩ : ∃ i', i' = (@List.getD P2.T (zP at_) k O0).1 := ⟨_, rfl⟩
     obtain ⟨j', hj'⟩ : ∃ j', j' = (@List.getD P2.T (zP at_) k O0).2.1 := ⟨_, rfl⟩
     have c1 : FnAt Try.prog false 58 [I64 (@List.getD P2.T (zP at_) k O0).1] (.lit (.int .u16 ((2 ^ i : Nat) : Int))) [] := by rw [g1]; exact one_at (i := i) (by omega)
     have c2 : FnAt Try.prog false 58 [I64 (@List.getD P2.T (zP at_) k O0).2.1] (.lit (.int .u16 ((2 ^ j : Nat) : Int))) [] := by rw [g2]; exact one_at (i := j) (by omega)
     have o1 := put_ok (l := B) lB tB hn ha hb0 g1
     have o2 := put_ok (l := F) lF tF hn hb0 ha g2
     have kB : (zN B).length = n := zN_len.trans lB
     have kF : (zN F).length = n := zN_len.trans lF
     have m1 : @LE.le Int _ 0 (@List.getD P2.T (zP at_) k O0).1 ∧ Int.toNat (@List.getD P2.T (zP at_) k O0).1 < (zN B).length := by rw [g1, Int.toNat_natCast, kB]; exact ⟨Int.natCast_nonneg _, ha⟩
     have m2 : @LE.le Int _ 0 (@List.getD P2.T (zP at_) k O0).2.1 ∧ Int.toNat (@List.getD P2.T (zP at_) k O0).2.1 < (zN F).length := by rw [g2, Int.toNat_natCast, kF]; exact ⟨Int.natCast_nonneg _, hb0⟩
     repeat' (first
 | refine W.seq ?_
 | refine W.block ?_
 | (refine W.frz (t := 8) (x := Code.region 7 _ _) rfl rfl rfl ?_)
 | (refine W.drawPhTo (id := 9) tys_ok [] mixed [0, 1, 2, 4, 0, 16, 40, 64, 0, 256, 512, 1152, 4095, 8191] [([0, 1, 2, 4, 5, 8, 9], 4, 2047), ([11, 12], 1, 16383)] ⟨[(0, (.lit (.int .i64 (n : Int)))), (6, .padr 27000 0), (8, .st false (.sadr (.agg [I64 (@List.getD P2.T (zP at_) k O0).1, I64 (@List.getD P2.T (zP at_) k O0).2.1]))), (27, .st false (.arr P2 (zP at_))), (28, (.lit (.int .i64 (at_.length : Int)))), (29, (.lit (.int .i64 (k : Int))))], [(27000, .box [(.lit (.int .i64 (n : Int))), .own 23000, .own 25000]), (23000, .row 79 (.int .u16) true (zN (setB B i j) : List Int)), (25000, .row 79 (.int .u16) true (zN (F) : List Int))]⟩ (by decide +kernel) ?_ ?_ <;> (conv => whnf))
 | (refine W.drawPhTo (id := 10) tys_ok [] mixed [0, 1, 2, 4, 0, 16, 40, 64, 0, 256, 512, 1152, 4095, 8191] [([0, 1, 2, 4, 5, 8, 9], 4, 2047), ([11, 12], 1, 16383)] ⟨[(0, (.lit (.int .i64 (n : Int)))), (6, .padr 27000 0), (8, .st false (.sadr (.agg [I64 (@List.getD P2.T (zP at_) k O0).1, I64 (@List.getD P2.T (zP at_) k O0).2.1]))), (27, .st false (.arr P2 (zP at_))), (28, (.lit (.int .i64 (at_.length : Int)))), (29, (.lit (.int .i64 (k : Int))))], [(27000, .box [(.lit (.int .i64 (n : Int))), .own 23000, .own 25000]), (23000, .row 79 (.int .u16) true (zN (setB B i j) : List Int)), (25000, .row 79 (.int .u16) true (zN (setB F j i) : List Int))]⟩ (by decide +kernel) ?_ ?_ <;> (conv => whnf))
 | (refine W.region tys_ok [] ?_; conv => whnf)
 | (refine W.drawAll tys_ok [] mixed rfl ?_; conv => whnf)
 | (refine W.ret ?_; conv => whnf)
 | (refine W.skip ?_; conv => whnf)
 | (refine W.exit ?_; conv => whnf)
 | (refine call_at (al := false) (c1) rfl rfl rfl rfl ?_; conv => whnf)
 | (refine call_at (al := false) (c2) rfl rfl rfl rfl ?_; conv => whnf)
 | (refine Both.mk ?_ ?_ <;> (conv => whnf))
 | (refine W.cond rfl (fun hb => ?_) (fun hb => ?_) <;> (try simp only [zr, zd, zm, minL, maxL, pickB, zA] at hb) <;> (try (first | (cases hb; done) | exact absurd hb (by decide) | (exfalso; omega) | (omega) | ((exact (rd_no g1 g2 ha hb0 hb).elim)))))
 | ((with_reducible refine And.intro ?_ ?_); exact zc; conv => whnf)
 | ((with_reducible refine And.intro (Side.out ?_) ?_); rotate_left; (conv => whnf))
 | ((first | refine retF1 ?_ | refine retF2 ?_ | refine subF.leaf ?_ | refine subF.side ?_) <;> (conv => whnf) <;> repeat' (first
 | exact trivial
 | (with_reducible rfl)
 | ((with_reducible refine And.intro ?_ ?_) <;> conv => whnf)
 | omega
 | rfl
 | (refine congrArg (SV.arr _) ?_)
 | (refine congrArg (Value.int _) ?_)
 | (refine congrArg Value.bool ?_)))); all_goals (try unfold Side)
     all_goals first | exact m1.2 | exact m2.2 | exact Path.imp_of m1 | exact Path.imp_of m2 | exact Path.imp_of m1.2 | exact Path.imp_of m2.2 | exact Path.imp_of o1.1 | exact Path.imp_of o2.1 | exact o1.2 | exact o2.2 | skip
     all_goals try (repeat' (first | exact zb | with_reducible refine And.intro ?_ ?_))
     refine ⟨k + 1, ⟨by omega, by omega⟩, ?_⟩
     rw [sB, sF]
     refine subF.ok ?_ <;> (conv => whnf) <;> repeat' (first
 | exact trivial
 | (with_reducible rfl)
 | ((with_reducible refine And.intro ?_ ?_) <;> conv => whnf)
 | omega
 | rfl
 | (refine congrArg (SV.arr _) ?_)
 | (refine congrArg (Value.int _) ?_)
 | (refine congrArg Value.bool ?_))
   · have hke : k = at_.length := by omega
     subst hke
     repeat' (first
 | refine W.seq ?_
 | refine W.block ?_
 | (refine W.region tys_ok [] ?_; conv => whnf)
 | (refine W.drawAll tys_ok [] mixed rfl ?_; conv => whnf)
 | (refine W.ret ?_; conv => whnf)
 | (refine W.skip ?_; conv => whnf)
 | (refine W.exit ?_; conv => whnf)
 | (refine W.cond rfl (fun hb => ?_) (fun hb => ?_) <;> (try simp only [zr, zd, zm, minL, maxL, pickB, zA] at hb) <;> (try (first | (cases hb; done) | exact absurd hb (by decide) | (exfalso; omega) | (omega))))
 | ((with_reducible refine And.intro ?_ ?_); exact zc; conv => whnf)
 | ((with_reducible refine And.intro (Side.out ?_) ?_); rotate_left; (conv => whnf))
 | ((first | refine retF1 ?_ | refine retF2 ?_) <;> (conv => whnf) <;> repeat' (first
 | exact trivial
 | (with_reducible rfl)
 | ((with_reducible refine And.intro ?_ ?_) <;> conv => whnf)
 | omega
 | rfl
 | (refine congrArg (SV.arr _) ?_)
 | (refine congrArg (Value.int _) ?_)
 | (refine congrArg Value.bool ?_)))); all_goals (try unfold Side)
     all_goals try (repeat' (first | exact zb | with_reducible refine And.intro ?_ ?_))
open Go Go.Vc Go.Sh Go.Tp Go.Ov
def cmpI (a b : Int) : Int := if a < b then -1 else if b < a then 1 else 0
theorem nan_at {a : Int} : FnAt Try.prog false 81 [I64 a] (.lit (.bool false)) [] := by
 refine FnAt.of_body tys_ok Try.func81 (by rfl) rfl Try.ntmps81 (by rw [Try.results81]) (by simp) ?_
 repeat' (first
 | refine W.seq ?_
 | refine W.block ?_
 | (refine W.region tys_ok [] ?_; conv => whnf)
 | (refine W.drawAll tys_ok [] mixed rfl ?_; conv => whnf)
 | (refine W.ret ?_; conv => whnf)
 | (refine W.skip ?_; conv => whnf)
 | (refine W.exit ?_; conv => whnf)
 | (refine W.cond rfl (fun hb => ?_) (fun hb => ?_) <;> (try simp only [zr, zd, zm, minL, maxL, pickB, zA] at hb) <;> (try (first | (cases hb; done) | exact absurd hb (by decide) | (exfalso; omega) | (omega))))
 | ((with_reducible refine And.intro ?_ ?_); exact zc; conv => whnf)
 | ((with_reducible refine And.intro (Side.out ?_) ?_); rotate_left; (conv => whnf))
 | ((first | refine retF1 ?_ | refine retF2 ?_) <;> (conv => whnf) <;> repeat' (first
 | exact trivial
 | (with_reducible rfl)
 | ((with_reducible refine And.intro ?_ ?_) <;> conv => whnf)
 | omega
 | rfl
 | (refine congrArg (SV.arr _) ?_)
 | (refine congrArg (Value.int _) ?_)
 | (refine congrArg Value.bool ?_)))); all_goals (try unfold Side)
 all_goals try (repeat' (first | exact zb | with_reducible refine And.intro ?_ ?_))
 all_goals simp
theorem cmpI_at {a b : Int} : FnAt Try.prog false 69 [I64 a, I64 b] (.lit (.int .i64 (cmpI a b))) [] := by
 have c1 := @nan_at
 unfold cmpI
 by_cases h1 : a < b
 · rw [if_pos h1]
   refine FnAt.of_body tys_ok Try.func69 (by rfl) rfl Try.ntmps69 (by rw [Try.results69]) (by simp) ?_
   repeat' (first
 | refine W.seq ?_
 | refine W.block ?_
 | (refine W.region tys_ok [] ?_; conv => whnf)
 | (refine W.drawAll tys_ok [] mixed rfl ?_; conv => whnf)
 | (refine W.ret ?_; conv => whnf)
 | (refine W.skip ?_; conv => whnf)
 | (refine W.exit ?_; conv => whnf)
 | (refine call_at (al := false) (c1) rfl rfl rfl rfl ?_; conv => whnf)
 | (refine W.cond rfl (fun hb => ?_) (fun hb => ?_) <;> (try simp only [zr, zd, zm, minL, maxL, pickB, zA] at hb) <;> (try (first | (cases hb; done) | exact absurd hb (by decide) | (exfalso; omega) | (omega))))
 | ((with_reducible refine And.intro ?_ ?_); exact zc; conv => whnf)
 | ((with_reducible refine And.intro (Side.out ?_) ?_); rotate_left; (conv => whnf))
 | ((first | refine retF1 ?_ | refine retF2 ?_) <;> (conv => whnf) <;> repeat' (first
 | exact trivial
 | (with_reducible rfl)
 | ((with_reducible refine And.intro ?_ ?_) <;> conv => whnf)
 | omega
 | rfl
 | (refine congrArg (SV.arr _) ?_)
 | (refine congrArg (Value.int _) ?_)
 | (refine congrArg Value.bool ?_)))); all_goals (try unfold Side)
   all_goals try (repeat' (first | exact zb | with_reducible refine And.intro ?_ ?_))
 · rw [if_neg h1]
   by_cases h2 : b < a
   · rw [if_pos h2]
     refine FnAt.of_body tys_ok Try.func69 (by rfl) rfl Try.ntmps69 (by rw [Try.results69]) (by simp) ?_
     repeat' (first
 | refine W.seq ?_
 | refine W.block ?_
 | (refine W.region tys_ok [] ?_; conv => whnf)
 | (refine W.drawAll tys_ok [] mixed rfl ?_; conv => whnf)
 | (refine W.ret ?_; conv => whnf)
 | (refine W.skip ?_; conv => whnf)
 | (refine W.exit ?_; conv => whnf)
 | (refine call_at (al := false) (c1) rfl rfl rfl rfl ?_; conv => whnf)
 | (refine W.cond rfl (fun hb => ?_) (fun hb => ?_) <;> (try simp only [zr, zd, zm, minL, maxL, pickB, zA] at hb) <;> (try (first | (cases hb; done) | exact absurd hb (by decide) | (exfalso; omega) | (omega))))
 | ((with_reducible refine And.intro ?_ ?_); exact zc; conv => whnf)
 | ((with_reducible refine And.intro (Side.out ?_) ?_); rotate_left; (conv => whnf))
 | ((first | refine retF1 ?_ | refine retF2 ?_) <;> (conv => whnf) <;> repeat' (first
 | exact trivial
 | (with_reducible rfl)
 | ((with_reducible refine And.intro ?_ ?_) <;> conv => whnf)
 | omega
 | rfl
 | (refine congrArg (SV.arr _) ?_)
 | (refine congrArg (Value.int _) ?_)
 | (refine congrArg Value.bool ?_)))); all_goals (try unfold Side)
     all_goals try (repeat' (first | exact zb | with_reducible refine And.intro ?_ ?_))
   · rw [if_neg h2]
     refine FnAt.of_body tys_ok Try.func69 (by rfl) rfl Try.ntmps69 (by rw [Try.results69]) (by simp) ?_
     repeat' (first
 | refine W.seq ?_
 | refine W.block ?_
 | (refine W.region tys_ok [] ?_; conv => whnf)
 | (refine W.drawAll tys_ok [] mixed rfl ?_; conv => whnf)
 | (refine W.ret ?_; conv => whnf)
 | (refine W.skip ?_; conv => whnf)
 | (refine W.exit ?_; conv => whnf)
 | (refine call_at (al := false) (c1) rfl rfl rfl rfl ?_; conv => whnf)
 | (refine W.cond rfl (fun hb => ?_) (fun hb => ?_) <;> (try simp only [zr, zd, zm, minL, maxL, pickB, zA] at hb) <;> (try (first | (cases hb; done) | exact absurd hb (by decide) | (exfalso; omega) | (omega))))
 | ((with_reducible refine And.intro ?_ ?_); exact zc; conv => whnf)
 | ((with_reducible refine And.intro (Side.out ?_) ?_); rotate_left; (conv => whnf))
 | ((first | refine retF1 ?_ | refine retF2 ?_) <;> (conv => whnf) <;> repeat' (first
 | exact trivial
 | (with_reducible rfl)
 | ((with_reducible refine And.intro ?_ ?_) <;> conv => whnf)
 | omega
 | rfl
 | (refine congrArg (SV.arr _) ?_)
 | (refine congrArg (Value.int _) ?_)
 | (refine congrArg Value.bool ?_)))); all_goals (try unfold Side)
     all_goals try (repeat' (first | exact zb | with_reducible refine And.intro ?_ ?_))
def cmpT : List Int → List Int → Int
 | [], [] => 0
 | [], _ :: _ => -1
 | _ :: _, [] => 1
 | a :: r, b :: s => if cmpI a b = 0 then cmpT r s else cmpI a b
theorem drop_consI {l : List Int} {k : Nat} (h : k < l.length) : l.drop k = l.getD k 0 :: l.drop (k + 1) := by
 rw [List.drop_eq_getElem_cons h, List.getD_eq_getElem?_getD, List.getElem?_eq_getElem h]; rfl
theorem drop_end {l : List Int} {k : Nat} (h : l.length ≤ k) : l.drop k = [] := List.drop_eq_nil_of_le h
set_option maxHeartbeats 4000000 in
theorem compare_at {a b : List Int} (ha : a.length ≤ 4096) (hb : b.length ≤ 4096) : FnAt Try.prog false 63 [.arr (.int .i64) (a : List Int), .arr (.int .i64) (b : List Int)] (.lit (.int .i64 (cmpT a b))) [] := by
 obtain ⟨r, hr⟩ : ∃ r, r = cmpT a b := ⟨_, rfl⟩
 rw [← hr]
 refine FnAt.of_body tys_ok Try.func63 (by rfl) rfl Try.ntmps63 (by rw [Try.results63]) (by simp) ?_
 repeat' (first
 | refine W.seq ?_
 | refine W.block ?_
 | (refine W.region tys_ok [] ?_; conv => whnf)
 | (refine W.drawAll tys_ok [] mixed rfl ?_; conv => whnf)
 | (refine W.ret ?_; conv => whnf)
 | (refine W.skip ?_; conv => whnf)
 | (refine W.exit ?_; conv => whnf)
 | (refine W.cond rfl (fun hb => ?_) (fun hb => ?_) <;> (try simp only [zr, zd, zm, minL, maxL, pickB, zA] at hb) <;> (try (first | (cases hb; done) | exact absurd hb (by decide) | (exfalso; omega) | (omega))))
 | ((with_reducible refine And.intro ?_ ?_); exact zc; conv => whnf)
 | ((with_reducible refine And.intro (Side.out ?_) ?_); rotate_left; (conv => whnf))
 | ((first | refine retF1 ?_ | refine retF2 ?_) <;> (conv => whnf) <;> repeat' (first
 | exact trivial
 | (with_reducible rfl)
 | ((with_reducible refine And.intro ?_ ?_) <;> conv => whnf)
 | omega
 | rfl
 | (refine congrArg (SV.arr _) ?_)
 | (refine congrArg (Value.int _) ?_)
 | (refine congrArg Value.bool ?_)))); all_goals (try unfold Side)
 all_goals try (repeat' (first | exact zb | with_reducible refine And.intro ?_ ?_))
 refine W.loop (fun k : Nat => ⟨[(0, .st false (.arr (.int .i64) (a : List Int))), (1, .st false (.arr (.int .i64) (b : List Int))), (9, .st false (.arr (.int .i64) (a : List Int))), (10, (.lit (.int .i64 (a.length : Int)))), (11, (.lit (.int .i64 (k : Int))))], []⟩) (fun k => (k ≤ a.length ∧ k ≤ b.length ∧ r = cmpT (a.drop k) (b.drop k))) (fun k => a.length - k) (0) ?_ ?_
 · refine ⟨⟨Nat.zero_le _, Nat.zero_le _, hr⟩, ?_⟩
   refine subF.ok ?_ <;> (conv => whnf) <;> repeat' (first
 | exact trivial
 | (with_reducible rfl)
 | ((with_reducible refine And.intro ?_ ?_) <;> conv => whnf)
 | omega
 | rfl
 | (refine congrArg (SV.arr _) ?_)
 | (refine congrArg (Value.int _) ?_)
 | (refine congrArg Value.bool ?_))
 · rintro k ⟨h1, h2, h3⟩
   by_cases hka : k < a.length
   · rw [drop_consI hka] at h3
     by_cases hkb : k < b.length
     · rw [drop_consI hkb, cmpT] at h3
       have c1 := cmpI_at (a := a.getD k 0) (b := b.getD k 0)
       obtain ⟨q, hq⟩ : ∃ q, q = cmpI (a.getD k 0) (b.getD k 0) := ⟨_, rfl⟩
       rw [← hq] at c1 h3
       by_cases hq0 : q = 0
       · rw [if_pos hq0] at h3
         repeat' (first
 | refine W.seq ?_
 | refine W.block ?_
 | (refine W.region tys_ok [] ?_; conv => whnf)
 | (refine W.drawAll tys_ok [] mixed rfl ?_; conv => whnf)
 | (refine W.ret ?_; conv => whnf)
 | (refine W.skip ?_; conv => whnf)
 | (refine W.exit ?_; conv => whnf)
 | (refine call_at (al := false) (c1) rfl rfl rfl rfl ?_; conv => whnf)
 | (refine W.cond rfl (fun hb => ?_) (fun hb => ?_) <;> (try simp only [zr, zd, zm, minL, maxL, pickB, zA] at hb) <;> (try (first | (cases hb; done) | exact absurd hb (by decide) | (exfalso; omega) | (omega))))
 | ((with_reducible refine And.intro ?_ ?_); exact zc; conv => whnf)
 | ((with_reducible refine And.intro (Side.out ?_) ?_); rotate_left; (conv => whnf))
 | ((first | refine retF1 ?_ | refine retF2 ?_) <;> (conv => whnf) <;> repeat' (first
 | exact trivial
 | (with_reducible rfl)
 | ((with_reducible refine And.intro ?_ ?_) <;> conv => whnf)
 | omega
 | rfl
 | (refine congrArg (SV.arr _) ?_)
 | (refine congrArg (Value.int _) ?_)
 | (refine congrArg Value.bool ?_)))); all_goals (try unfold Side)
         all_goals try (repeat' (first | exact zb | with_reducible refine And.intro ?_ ?_))
         refine ⟨k + 1, ⟨⟨by omega, by omega, h3⟩, by omega⟩, ?_⟩
         refine subF.ok ?_ <;> (conv => whnf) <;> repeat' (first
 | exact trivial
 | (with_reducible rfl)
 | ((with_reducible refine And.intro ?_ ?_) <;> conv => whnf)
 | omega
 | rfl
 | (refine congrArg (SV.arr _) ?_)
 | (refine congrArg (Value.int _) ?_)
 | (refine congrArg Value.bool ?_))
       · rw [if_neg hq0] at h3
         subst h3
         repeat' (first
 | refine W.seq ?_
 | refine W.block ?_
 | (refine W.region tys_ok [] ?_; conv => whnf)
 | (refine W.drawAll tys_ok [] mixed rfl ?_; conv => whnf)
 | (refine W.ret ?_; conv => whnf)
 | (refine W.skip ?_; conv => whnf)
 | (refine W.exit ?_; conv => whnf)
 | (refine call_at (al := false) (c1) rfl rfl rfl rfl ?_; conv => whnf)
 | (refine W.cond rfl (fun hb => ?_) (fun hb => ?_) <;> (try simp only [zr, zd, zm, minL, maxL, pickB, zA] at hb) <;> (try (first | (cases hb; done) | exact absurd hb (by decide) | (exfalso; omega) | (omega))))
 | ((with_reducible refine And.intro ?_ ?_); exact zc; conv => whnf)
 | ((with_reducible refine And.intro (Side.out ?_) ?_); rotate_left; (conv => whnf))
 | ((first | refine retF1 ?_ | refine retF2 ?_) <;> (conv => whnf) <;> repeat' (first
 | exact trivial
 | (with_reducible rfl)
 | ((with_reducible refine And.intro ?_ ?_) <;> conv => whnf)
 | omega
 | rfl
 | (refine congrArg (SV.arr _) ?_)
 | (refine congrArg (Value.int _) ?_)
 | (refine congrArg Value.bool ?_)))); all_goals (try unfold Side)
         all_goals try (repeat' (first | exact zb | with_reducible refine And.intro ?_ ?_))
     · rw [drop_end (l := b) (by omega), cmpT] at h3
       subst h3
       repeat' (first
 | refine W.seq ?_
 | refine W.block ?_
 | (refine W.region tys_ok [] ?_; conv => whnf)
 | (refine W.drawAll tys_ok [] mixed rfl ?_; conv => whnf)
 | (refine W.ret ?_; conv => whnf)
 | (refine W.skip ?_; conv => whnf)
 | (refine W.exit ?_; conv => whnf)
 | (refine W.cond rfl (fun hb => ?_) (fun hb => ?_) <;> (try simp only [zr, zd, zm, minL, maxL, pickB, zA] at hb) <;> (try (first | (cases hb; done) | exact absurd hb (by decide) | (exfalso; omega) | (omega))))
 | ((with_reducible refine And.intro ?_ ?_); exact zc; conv => whnf)
 | ((with_reducible refine And.intro (Side.out ?_) ?_); rotate_left; (conv => whnf))
 | ((first | refine retF1 ?_ | refine retF2 ?_) <;> (conv => whnf) <;> repeat' (first
 | exact trivial
 | (with_reducible rfl)
 | ((with_reducible refine And.intro ?_ ?_) <;> conv => whnf)
 | omega
 | rfl
 | (refine congrArg (SV.arr _) ?_)
 | (refine congrArg (Value.int _) ?_)
 | (refine congrArg Value.bool ?_)))); all_goals (try unfold Side)
       all_goals try (repeat' (first | exact zb | with_reducible refine And.intro ?_ ?_))
   · rw [drop_end (l := a) (by omega)] at h3
     by_cases hkb : k < b.length
     · rw [drop_consI hkb, cmpT] at h3
       subst h3
       repeat' (first
 | refine W.seq ?_
 | refine W.block ?_
 | (refine W.region tys_ok [] ?_; conv => whnf)
 | (refine W.drawAll tys_ok [] mixed rfl ?_; conv => whnf)
 | (refine W.ret ?_; conv => whnf)
 | (refine W.skip ?_; conv => whnf)
 | (refine W.exit ?_; conv => whnf)
 | (refine W.cond rfl (fun hb => ?_) (fun hb => ?_) <;> (try simp only [zr, zd, zm, minL, maxL, pickB, zA] at hb) <;> (try (first | (cases hb; done) | exact absurd hb (by decide) | (exfalso; omega) | (omega))))
 | ((with_reducible refine And.intro ?_ ?_); exact zc; conv => whnf)
 | ((with_reducible refine And.intro (Side.out ?_) ?_); rotate_left; (conv => whnf))
 | ((first | refine retF1 ?_ | refine retF2 ?_) <;> (conv => whnf) <;> repeat' (first
 | exact trivial
 | (with_reducible rfl)
 | ((with_reducible refine And.intro ?_ ?_) <;> conv => whnf)
 | omega
 | rfl
 | (refine congrArg (SV.arr _) ?_)
 | (refine congrArg (Value.int _) ?_)
 | (refine congrArg Value.bool ?_)))); all_goals (try unfold Side)
       all_goals try (repeat' (first | exact zb | with_reducible refine And.intro ?_ ?_))
     · rw [drop_end (by omega), cmpT] at h3
       subst h3
       repeat' (first
 | refine W.seq ?_
 | refine W.block ?_
 | (refine W.region tys_ok [] ?_; conv => whnf)
 | (refine W.drawAll tys_ok [] mixed rfl ?_; conv => whnf)
 | (refine W.ret ?_; conv => whnf)
 | (refine W.skip ?_; conv => whnf)
 | (refine W.exit ?_; conv => whnf)
 | (refine W.cond rfl (fun hb => ?_) (fun hb => ?_) <;> (try simp only [zr, zd, zm, minL, maxL, pickB, zA] at hb) <;> (try (first | (cases hb; done) | exact absurd hb (by decide) | (exfalso; omega) | (omega))))
 | ((with_reducible refine And.intro ?_ ?_); exact zc; conv => whnf)
 | ((with_reducible refine And.intro (Side.out ?_) ?_); rotate_left; (conv => whnf))
 | ((first | refine retF1 ?_ | refine retF2 ?_) <;> (conv => whnf) <;> repeat' (first
 | exact trivial
 | (with_reducible rfl)
 | ((with_reducible refine And.intro ?_ ?_) <;> conv => whnf)
 | omega
 | rfl
 | (refine congrArg (SV.arr _) ?_)
 | (refine congrArg (Value.int _) ?_)
 | (refine congrArg Value.bool ?_)))); all_goals (try unfold Side)
       all_goals try (repeat' (first | exact zb | with_reducible refine And.intro ?_ ?_))
end Go.Proofs.Ytckmhlpngolbpaa
namespace Go.Ov
def swpT (xs : List (List Int)) (j : Nat) : List (List Int) := (xs.set (j + 1) (xs.getD j [])).set j (xs.getD (j + 1) [])
theorem swpT_len {xs : List (List Int)} {j : Nat} : (swpT xs j).length = xs.length := by simp [swpT]
def sinkT (c : List Int → List Int → Int) : List (List Int) → Nat → List (List Int)
 | xs, 0 => xs
 | xs, j + 1 => if c (xs.getD (j + 1) []) (xs.getD j []) < 0 then sinkT c (swpT xs j) j else xs
def isortT (c : List Int → List Int → Int) (xs : List (List Int)) : Nat → List (List Int)
 | 0 => xs
 | i + 1 => sinkT c (isortT c xs i) i
theorem sinkT_len {c : List Int → List Int → Int} : ∀ {j : Nat} {xs : List (List Int)}, (sinkT c xs j).length = xs.length
 | 0, xs => rfl
 | j + 1, xs => by
  rw [sinkT]
  split
  · rw [sinkT_len, swpT_len]
  · rfl
theorem isortT_len {c : List Int → List Int → Int} {xs : List (List Int)} : ∀ {i : Nat}, (isortT c xs i).length = xs.length
 | 0 => rfl
 | i + 1 => by rw [isortT, sinkT_len, isortT_len]
theorem swpT_mem {xs : List (List Int)} {j : Nat} {a : List Int} (hj : j + 1 < xs.length) (h : a ∈ swpT xs j) : a ∈ xs := by
 unfold swpT at h
 rcases List.mem_or_eq_of_mem_set h with h | h
 · rcases List.mem_or_eq_of_mem_set h with h | h
   · exact h
   · rw [h, List.getD_eq_getElem?_getD, List.getElem?_eq_getElem (by omega)]; exact List.getElem_mem _
 · rw [h, List.getD_eq_getElem?_getD, List.getElem?_eq_getElem hj]; exact List.getElem_mem _
theorem sinkT_mem {c : List Int → List Int → Int} {a : List Int} : ∀ {j : Nat} {xs : List (List Int)}, j < xs.length → a ∈ sinkT c xs j → a ∈ xs
 | 0, xs, _, h => h
 | j + 1, xs, hj, h => by
  rw [sinkT] at h
  split at h
  · exact swpT_mem hj (sinkT_mem (by rw [swpT_len]; omega) h)
  · exact h
theorem isortT_mem {c : List Int → List Int → Int} {xs : List (List Int)} {a : List Int} : ∀ {i : Nat}, i ≤ xs.length → a ∈ isortT c xs i → a ∈ xs
 | 0, _, h => h
 | i + 1, hi, h => by
  rw [isortT] at h
  exact isortT_mem (by omega) (sinkT_mem (by rw [isortT_len]; omega) h)
end Go.Ov
namespace Go.Proofs.Ytckmhlpngolbpaa
open Int renaming reduceToNat → zr, reduceTDiv → zd, reduceTMod → zm
open Go Go.Vc Go.Sh Go.Tp Go.Ov
set_option maxHeartbeats 8000000 in
theorem insertion_m {xs : List (List Int)} (hn1 : 1 ≤ xs.length) (hn : xs.length ≤ 12) (hl : ∀ a ∈ xs, a.length ≤ 4096) :
  FnM Try.prog 71 [.own 1000000000, (.lit (.int .i64 (0 : Int))), (.lit (.int .i64 (xs.length : Int))), .fn 63 []] [(1000000000, .row 31 (.sl (.int .i64)) true (xs : List (List Int)))] (.tup []) [(1000000000, .row 31 (.sl (.int .i64)) true (isortT cmpT xs xs.length : List (List Int)))] := by
 have hlz : @List.length (List Int) xs = xs.length := rfl
 obtain ⟨n, hnn⟩ : ∃ n, n = xs.length := ⟨_, rfl⟩
 rw [← hnn] at hn1 hn ⊢
 refine FnM.of_body tys_ok Try.func71 (by rfl) rfl Try.ntmps71 (by rw [Try.results71]) (by simp) ?_
 repeat' (first
 | refine W.seq ?_
 | refine W.block ?_
 | (refine W.region tys_ok [] ?_; conv => whnf)
 | (refine W.drawAll tys_ok [] mixed rfl ?_; conv => whnf)
 | (refine W.ret ?_; conv => whnf)
 | (refine W.skip ?_; conv => whnf)
 | (refine W.exit ?_; conv => whnf)
 | (refine W.cond rfl (fun hb => ?_) (fun hb => ?_) <;> (try simp only [zr, zd, zm, minL, maxL, pickB, zA] at hb) <;> (try (first | (cases hb; done) | exact absurd hb (by decide) | (exfalso; omega) | (omega))))
 | ((with_reducible refine And.intro ?_ ?_); exact zc; conv => whnf)
 | ((with_reducible refine And.intro (Side.out ?_) ?_); rotate_left; (conv => whnf))
 | ((first | refine retM1 ?_ | refine retM2 ?_) <;> (conv => whnf) <;> repeat' (first
 | exact trivial
 | (with_reducible rfl)
 | ((with_reducible refine And.intro ?_ ?_) <;> conv => whnf)
 | omega
 | rfl
 | (refine congrArg (SV.arr _) ?_)
 | (refine congrArg (Value.int _) ?_)
 | (refine congrArg Value.bool ?_)))); all_goals (try unfold Side)
 all_goals try (repeat' (first | exact zb | with_reducible refine And.intro ?_ ?_))
 refine W.loop (fun i : Nat => ⟨[(0, .own 1000000000), (1, (.lit (.int .i64 (0 : Int)))), (2, (.lit (.int .i64 (n : Int)))), (3, .fn 63 []), (8, (.lit (.int .i64 (i : Int))))], [(1000000000, .row 31 (.sl (.int .i64)) true (isortT cmpT xs i : List (List Int)))]⟩) (fun i => (1 ≤ i ∧ i ≤ n)) (fun i => n - i) (1) ?_ ?_
 · refine ⟨⟨by omega, by omega⟩, ?_⟩
   refine subF.ok ?_ <;> (conv => whnf) <;> repeat' (first
 | exact trivial
 | (with_reducible rfl)
 | ((with_reducible refine And.intro ?_ ?_) <;> conv => whnf)
 | omega
 | rfl
 | (refine congrArg (SV.arr _) ?_)
 | (refine congrArg (Value.int _) ?_)
 | (refine congrArg Value.bool ?_))
 · rintro i ⟨h1, h2⟩
   by_cases hin : i < n
   · have hisl : (isortT cmpT xs i).length = n := isortT_len.trans hnn.symm
     have hism : ∀ a ∈ isortT cmpT xs i, a.length ≤ 4096 := fun a ha => hl a (isortT_mem (by omega) ha)
     have hst : isortT cmpT xs (i + 1) = sinkT cmpT (isortT cmpT xs i) i := rfl
     obtain ⟨r, hr⟩ : ∃ r, r = isortT cmpT xs (i + 1) := ⟨_, rfl⟩
     repeat' (first
 | refine W.seq ?_
 | refine W.block ?_
 | (refine W.region tys_ok [] ?_; conv => whnf)
 | (refine W.drawAll tys_ok [] mixed rfl ?_; conv => whnf)
 | (refine W.ret ?_; conv => whnf)
 | (refine W.skip ?_; conv => whnf)
 | (refine W.exit ?_; conv => whnf)
 | (refine W.cond rfl (fun hb => ?_) (fun hb => ?_) <;> (try simp only [zr, zd, zm, minL, maxL, pickB, zA] at hb) <;> (try (first | (cases hb; done) | exact absurd hb (by decide) | (exfalso; omega) | (omega))))
 | ((with_reducible refine And.intro ?_ ?_); exact zc; conv => whnf)
 | ((with_reducible refine And.intro (Side.out ?_) ?_); rotate_left; (conv => whnf))
 | ((first | refine retM1 ?_ | refine retM2 ?_) <;> (conv => whnf) <;> repeat' (first
 | exact trivial
 | (with_reducible rfl)
 | ((with_reducible refine And.intro ?_ ?_) <;> conv => whnf)
 | omega
 | rfl
 | (refine congrArg (SV.arr _) ?_)
 | (refine congrArg (Value.int _) ?_)
 | (refine congrArg Value.bool ?_)))); all_goals (try unfold Side)
     all_goals try (repeat' (first | exact zb | with_reducible refine And.intro ?_ ?_))
     refine W.loop (fun p : Nat × List (List Int) => ⟨[(0, .own 1000000000), (1, (.lit (.int .i64 (0 : Int)))), (2, (.lit (.int .i64 (n : Int)))), (3, .fn 63 []), (8, (.lit (.int .i64 (i : Int)))), (9, (.lit (.int .i64 (p.1 : Int))))], [(1000000000, .row 31 (.sl (.int .i64)) true (p.2 : List (List Int)))]⟩) (fun p => (p.1 ≤ i ∧ r = sinkT cmpT p.2 p.1 ∧ p.2.length = n ∧ ∀ a ∈ p.2, a.length ≤ 4096)) (fun p => p.1) ((i, isortT cmpT xs i)) ?_ ?_
     · refine ⟨⟨by dsimp only; omega, hr.trans hst, hisl, hism⟩, ?_⟩
       refine subF.ok ?_ <;> (conv => whnf) <;> repeat' (first
 | exact trivial
 | (with_reducible rfl)
 | ((with_reducible refine And.intro ?_ ?_) <;> conv => whnf)
 | omega
 | rfl
 | (refine congrArg (SV.arr _) ?_)
 | (refine congrArg (Value.int _) ?_)
 | (refine congrArg Value.bool ?_))
     · rintro ⟨j, ys⟩ ⟨g1, g2, g3, g4⟩
       dsimp only at g1 g2 g3 g4 ⊢
       have hyz : @List.length (List Int) ys = n := g3
       have gl : ∀ i, (ys.getD i []).length ≤ 4096 := fun i => by
        rw [List.getD_eq_getElem?_getD]
        by_cases hi : i < ys.length
        · rw [List.getElem?_eq_getElem hi]; exact g4 _ (List.getElem_mem _)
        · rw [List.getElem?_eq_none (by omega)]; exact Nat.zero_le _
       by_cases hj0 : j = 0
       · subst hj0
         have c1 : ∀ i k, FnAt Try.prog false 63 [.arr (.int .i64) ((ys.getD i []) : List Int), .arr (.int .i64) ((ys.getD k []) : List Int)] (.lit (.int .i64 (cmpT (ys.getD i []) (ys.getD k [])))) [] := fun i k => compare_at (gl i) (gl k)
         rw [sinkT] at g2
         repeat' (first
 | refine W.seq ?_
 | refine W.block ?_
 | (refine W.drawPh (id := 4) tys_ok [] mixed [0, 0, 3, 4, 8, 8, 8, 104, 136, 8, 8, 1032, 2568, 4104, 8472, 16392, 32776] [([0, 1, 2, 3, 4, 5, 6, 7, 9, 10, 11, 12], 2, 16383), ([], 1, 32767), ([15, 16], 0, 131071)] (by decide +kernel) ?_; conv => whnf)
 | (refine W.region tys_ok [] ?_; conv => whnf)
 | (refine W.drawAll tys_ok [] mixed rfl ?_; conv => whnf)
 | (refine W.ret ?_; conv => whnf)
 | (refine W.skip ?_; conv => whnf)
 | (refine W.exit ?_; conv => whnf)
 | (refine call_at (al := false) (c1 _ _) rfl rfl rfl rfl ?_; conv => whnf)
 | (refine Both.mk ?_ ?_ <;> (conv => whnf))
 | (refine W.cond rfl (fun hb => ?_) (fun hb => ?_) <;> (try simp only [zr, zd, zm, minL, maxL, pickB, zA] at hb) <;> (try (first | (cases hb; done) | exact absurd hb (by decide) | (exfalso; omega) | (omega))))
 | ((with_reducible refine And.intro ?_ ?_); exact zc; conv => whnf)
 | ((with_reducible refine And.intro (Side.out ?_) ?_); rotate_left; (conv => whnf))
 | ((first | refine retM1 ?_ | refine retM2 ?_ | refine subF.leaf ?_ | refine subF.side ?_) <;> (conv => whnf) <;> repeat' (first
 | exact trivial
 | (with_reducible rfl)
 | ((with_reducible refine And.intro ?_ ?_) <;> conv => whnf)
 | omega
 | rfl
 | (refine congrArg (SV.arr _) ?_)
 | (refine congrArg (Value.int _) ?_)
 | (refine congrArg Value.bool ?_)))); all_goals (try unfold Side)
         all_goals try (repeat' (first | exact zb | with_reducible refine And.intro ?_ ?_))
         all_goals refine ⟨i + 1, ⟨by omega, by omega⟩, ?_⟩
         all_goals rw [← hr, g2]
         all_goals (refine subF.ok ?_ <;> (conv => whnf) <;> repeat' (first
 | exact trivial
 | (with_reducible rfl)
 | ((with_reducible refine And.intro ?_ ?_) <;> conv => whnf)
 | omega
 | rfl
 | (refine congrArg (SV.arr _) ?_)
 | (refine congrArg (Value.int _) ?_)
 | (refine congrArg Value.bool ?_)))
       · obtain ⟨m, hm⟩ : ∃ m, j = m + 1 := ⟨j - 1, by omega⟩
         have em : ((j : Int) - 1).toNat = m := by omega
         obtain ⟨q, hq⟩ : ∃ q, q = cmpT (ys.getD j []) (ys.getD m []) := ⟨_, rfl⟩
         have c1 : FnAt Try.prog false 63 [.arr (.int .i64) ((ys.getD j []) : List Int), .arr (.int .i64) ((ys.getD ((j : Int) - 1).toNat []) : List Int)] (.lit (.int .i64 q)) [] := by rw [em, hq]; exact compare_at (gl _) (gl _)
         rw [hm, sinkT, ← hm, ← hq] at g2
         by_cases hq0 : q < 0
         · rw [if_pos hq0] at g2
           have esw : (ys.set j (ys.getD ((j : Int) - 1).toNat [])).set ((j : Int) - 1).toNat (ys.getD j []) = swpT ys m := by rw [em, hm]; rfl
           have hs2 : ∀ x, 0 ≤ (j : Int) - 1 ∧ ((j : Int) - 1).toNat < (ys.set j x).length := fun x => by rw [List.length_set, em]; exact ⟨by omega, by omega⟩
           have hs1 : 0 ≤ (j : Int) ∧ (j : Int).toNat < ys.length := ⟨by omega, by omega⟩
           have hsm : ∀ a ∈ swpT ys m, a.length ≤ 4096 := fun a ha => g4 a (swpT_mem (by omega) ha)
           repeat' (first
 | refine W.seq ?_
 | refine W.block ?_
 | (refine W.drawPh (id := 4) tys_ok [] mixed [0, 0, 3, 4, 8, 8, 8, 104, 136, 8, 8, 1032, 2568, 4104, 8472, 16392, 32776] [([0, 1, 2, 3, 4, 5, 6, 7, 9, 10, 11, 12], 2, 16383), ([], 1, 32767), ([15, 16], 0, 131071)] (by decide +kernel) ?_; conv => whnf)
 | (refine W.drawPhTo (id := 6) tys_ok [] mixed [0, 0, 0, 0, 8, 0, 0, 64, 160, 256, 0, 0, 3072, 4096, 9187, 25571, 65535, 131071] [([0, 1, 2, 3, 4, 5, 6, 7, 8, 10, 11, 12], 2, 16383), ([14], 1, 65535), ([16], 1, 262143)] ⟨[(0, .own 1000000000), (1, (.lit (.int .i64 (0 : Int)))), (2, (.lit (.int .i64 (n : Int)))), (3, .fn 63 []), (8, (.lit (.int .i64 (i : Int)))), (9, (.lit (.int .i64 (j : Int))))], [(1000000000, .row 31 (.sl (.int .i64)) true (swpT ys m : List (List Int)))]⟩ (by decide +kernel) ?_ ?_ <;> (conv => whnf))
 | (refine W.region tys_ok [] ?_; conv => whnf)
 | (refine W.drawAll tys_ok [] mixed rfl ?_; conv => whnf)
 | (refine W.ret ?_; conv => whnf)
 | (refine W.skip ?_; conv => whnf)
 | (refine W.exit ?_; conv => whnf)
 | (refine call_at (al := false) (c1) rfl rfl rfl rfl ?_; conv => whnf)
 | (refine Both.mk ?_ ?_ <;> (conv => whnf))
 | (refine W.cond rfl (fun hb => ?_) (fun hb => ?_) <;> (try simp only [zr, zd, zm, minL, maxL, pickB, zA] at hb) <;> (try (first | (cases hb; done) | exact absurd hb (by decide) | (exfalso; omega) | (omega))))
 | ((with_reducible refine And.intro ?_ ?_); exact zc; conv => whnf)
 | ((with_reducible refine And.intro (Side.out ?_) ?_); rotate_left; (conv => whnf))
 | ((first | refine retM1 ?_ | refine retM2 ?_ | refine subF.leaf ?_ | refine subF.side ?_) <;> (conv => whnf) <;> repeat' (first
 | exact trivial
 | (with_reducible rfl)
 | ((with_reducible refine And.intro ?_ ?_) <;> conv => whnf)
 | omega
 | rfl
 | (refine congrArg (SV.arr _) ?_)
 | (refine congrArg (Value.int _) ?_)
 | (refine congrArg Value.bool ?_)))); all_goals (try unfold Side)
           all_goals try (repeat' (first | exact zb | with_reducible refine And.intro ?_ ?_))
           all_goals first | exact esw | exact Path.imp_of (hs2 _) | exact (hs2 _).2 | exact Path.imp_of hs1 | exact hs1.2 | skip
           all_goals refine ⟨(m, swpT ys m), ⟨⟨by dsimp only; omega, g2, swpT_len.trans g3, hsm⟩, by dsimp only; omega⟩, ?_⟩
           all_goals (refine subF.ok ?_ <;> (conv => whnf) <;> repeat' (first
 | exact trivial
 | (with_reducible rfl)
 | ((with_reducible refine And.intro ?_ ?_) <;> conv => whnf)
 | omega
 | rfl
 | (refine congrArg (SV.arr _) ?_)
 | (refine congrArg (Value.int _) ?_)
 | (refine congrArg Value.bool ?_)))
         · rw [if_neg hq0] at g2
           repeat' (first
 | refine W.seq ?_
 | refine W.block ?_
 | (refine W.drawPh (id := 4) tys_ok [] mixed [0, 0, 3, 4, 8, 8, 8, 104, 136, 8, 8, 1032, 2568, 4104, 8472, 16392, 32776] [([0, 1, 2, 3, 4, 5, 6, 7, 9, 10, 11, 12], 2, 16383), ([], 1, 32767), ([15, 16], 0, 131071)] (by decide +kernel) ?_; conv => whnf)
 | (refine W.region tys_ok [] ?_; conv => whnf)
 | (refine W.drawAll tys_ok [] mixed rfl ?_; conv => whnf)
 | (refine W.ret ?_; conv => whnf)
 | (refine W.skip ?_; conv => whnf)
 | (refine W.exit ?_; conv => whnf)
 | (refine call_at (al := false) (c1) rfl rfl rfl rfl ?_; conv => whnf)
 | (refine Both.mk ?_ ?_ <;> (conv => whnf))
 | (refine W.cond rfl (fun hb => ?_) (fun hb => ?_) <;> (try simp only [zr, zd, zm, minL, maxL, pickB, zA] at hb) <;> (try (first | (cases hb; done) | exact absurd hb (by decide) | (exfalso; omega) | (omega))))
 | ((with_reducible refine And.intro ?_ ?_); exact zc; conv => whnf)
 | ((with_reducible refine And.intro (Side.out ?_) ?_); rotate_left; (conv => whnf))
 | ((first | refine retM1 ?_ | refine retM2 ?_ | refine subF.leaf ?_ | refine subF.side ?_) <;> (conv => whnf) <;> repeat' (first
 | exact trivial
 | (with_reducible rfl)
 | ((with_reducible refine And.intro ?_ ?_) <;> conv => whnf)
 | omega
 | rfl
 | (refine congrArg (SV.arr _) ?_)
 | (refine congrArg (Value.int _) ?_)
 | (refine congrArg Value.bool ?_)))); all_goals (try unfold Side)
           all_goals try (repeat' (first | exact zb | with_reducible refine And.intro ?_ ?_))
           all_goals refine ⟨i + 1, ⟨by omega, by omega⟩, ?_⟩
           all_goals rw [← hr, g2]
           all_goals (refine subF.ok ?_ <;> (conv => whnf) <;> repeat' (first
 | exact trivial
 | (with_reducible rfl)
 | ((with_reducible refine And.intro ?_ ?_) <;> conv => whnf)
 | omega
 | rfl
 | (refine congrArg (SV.arr _) ?_)
 | (refine congrArg (Value.int _) ?_)
 | (refine congrArg Value.bool ?_)))
   · have hie : i = n := by omega
     subst hie
     repeat' (first
 | refine W.seq ?_
 | refine W.block ?_
 | (refine W.region tys_ok [] ?_; conv => whnf)
 | (refine W.drawAll tys_ok [] mixed rfl ?_; conv => whnf)
 | (refine W.ret ?_; conv => whnf)
 | (refine W.skip ?_; conv => whnf)
 | (refine W.exit ?_; conv => whnf)
 | (refine W.cond rfl (fun hb => ?_) (fun hb => ?_) <;> (try simp only [zr, zd, zm, minL, maxL, pickB, zA] at hb) <;> (try (first | (cases hb; done) | exact absurd hb (by decide) | (exfalso; omega) | (omega))))
 | ((with_reducible refine And.intro ?_ ?_); exact zc; conv => whnf)
 | ((with_reducible refine And.intro (Side.out ?_) ?_); rotate_left; (conv => whnf))
 | ((first | refine retM1 ?_ | refine retM2 ?_) <;> (conv => whnf) <;> repeat' (first
 | exact trivial
 | (with_reducible rfl)
 | ((with_reducible refine And.intro ?_ ?_) <;> conv => whnf)
 | omega
 | rfl
 | (refine congrArg (SV.arr _) ?_)
 | (refine congrArg (Value.int _) ?_)
 | (refine congrArg Value.bool ?_)))); all_goals (try unfold Side)
     all_goals try (repeat' (first | exact zb | with_reducible refine And.intro ?_ ?_))
set_option maxHeartbeats 4000000 in
theorem pdq_m {xs : List (List Int)} {lim : Int} (hn1 : 1 ≤ xs.length) (hn : xs.length ≤ 12) (hl : ∀ a ∈ xs, a.length ≤ 4096) :
  FnM Try.prog 67 [.own 1000000000, (.lit (.int .i64 (0 : Int))), (.lit (.int .i64 (xs.length : Int))), .lit (.int .i64 lim), .fn 63 []] [(1000000000, .row 31 (.sl (.int .i64)) true (xs : List (List Int)))] (.tup []) [(1000000000, .row 31 (.sl (.int .i64)) true (isortT cmpT xs xs.length : List (List Int)))] := by
 have c1 := insertion_m hn1 hn hl
 have hlz : @List.length (List Int) xs = xs.length := rfl
 obtain ⟨n, hnn⟩ : ∃ n, n = xs.length := ⟨_, rfl⟩
 rw [← hnn] at hn1 hn c1 ⊢
 refine FnM.of_body tys_ok Try.func67 (by rfl) rfl Try.ntmps67 (by rw [Try.results67]) (by simp) ?_
 repeat' (first
 | refine W.seq ?_
 | refine W.block ?_
 | (refine W.region tys_ok [] ?_; conv => whnf)
 | (refine W.drawAll tys_ok [] mixed rfl ?_; conv => whnf)
 | (refine W.ret ?_; conv => whnf)
 | (refine W.skip ?_; conv => whnf)
 | (refine W.exit ?_; conv => whnf)
 | (refine W.cond rfl (fun hb => ?_) (fun hb => ?_) <;> (try simp only [zr, zd, zm, minL, maxL, pickB, zA] at hb) <;> (try (first | (cases hb; done) | exact absurd hb (by decide) | (exfalso; omega) | (omega))))
 | ((with_reducible refine And.intro ?_ ?_); exact zc; conv => whnf)
 | ((with_reducible refine And.intro (Side.out ?_) ?_); rotate_left; (conv => whnf))
 | ((first | refine retM1 ?_ | refine retM2 ?_) <;> (conv => whnf) <;> repeat' (first
 | exact trivial
 | (with_reducible rfl)
 | ((with_reducible refine And.intro ?_ ?_) <;> conv => whnf)
 | omega
 | rfl
 | (refine congrArg (SV.arr _) ?_)
 | (refine congrArg (Value.int _) ?_)
 | (refine congrArg Value.bool ?_)))); all_goals (try unfold Side)
 all_goals try (repeat' (first | exact zb | with_reducible refine And.intro ?_ ?_))
 refine W.loop (fun i : Nat => ⟨[(0, .own 1000000000), (1, (.lit (.int .i64 (0 : Int)))), (2, (.lit (.int .i64 (n : Int)))), (3, .lit (.int .i64 lim)), (4, .fn 63 [])], [(1000000000, .row 31 (.sl (.int .i64)) true (xs : List (List Int)))]⟩) (fun i => True) (fun i => i) (0) ?_ ?_
 · refine ⟨trivial, ?_⟩
   refine subF.ok ?_ <;> (conv => whnf) <;> repeat' (first
 | exact trivial
 | (with_reducible rfl)
 | ((with_reducible refine And.intro ?_ ?_) <;> conv => whnf)
 | omega
 | rfl
 | (refine congrArg (SV.arr _) ?_)
 | (refine congrArg (Value.int _) ?_)
 | (refine congrArg Value.bool ?_))
 · rintro i _
   repeat' (first
 | refine W.seq ?_
 | refine W.block ?_
 | (refine W.regionM (id := 4) tys_ok [] [4] ?_; conv => whnf)
 | (refine W.region tys_ok [] ?_; conv => whnf)
 | (refine W.drawAll tys_ok [] mixed rfl ?_; conv => whnf)
 | (refine W.ret ?_; conv => whnf)
 | (refine W.skip ?_; conv => whnf)
 | (refine W.exit ?_; conv => whnf)
 | (refine callM_at (c1) ?_; conv => whnf)
 | (refine W.cond rfl (fun hb => ?_) (fun hb => ?_) <;> (try simp only [zr, zd, zm, minL, maxL, pickB, zA] at hb) <;> (try (first | (cases hb; done) | exact absurd hb (by decide) | (exfalso; omega) | (omega))))
 | (refine Or.inl (And.intro trivial ?_); (conv => whnf))
 | ((with_reducible refine And.intro ?_ ?_); exact zc; conv => whnf)
 | ((with_reducible refine And.intro (Side.out ?_) ?_); rotate_left; (conv => whnf))
 | ((first | refine retM1 ?_ | refine retM2 ?_) <;> (conv => whnf) <;> repeat' (first
 | exact trivial
 | (with_reducible rfl)
 | ((with_reducible refine And.intro ?_ ?_) <;> conv => whnf)
 | omega
 | rfl
 | (refine congrArg (SV.arr _) ?_)
 | (refine congrArg (Value.int _) ?_)
 | (refine congrArg Value.bool ?_)))); all_goals (try unfold Side)
   all_goals try (repeat' (first | exact zb | with_reducible refine And.intro ?_ ?_))
open Go Go.Vc Go.Sh Go.Tp Go.Ov
theorem inU8 (u : UInt8) : InK .i64 (u.toNat : Int) := by
 have := u.toNat_lt
 exact ⟨by omega, by omega⟩
set_option maxRecDepth 100000 in
theorem len64_at {n : Int} (h0 : 0 ≤ n) (h : n ≤ 12) : ∃ v : Int, FnAt Try.prog false 80 [.lit (.int .u64 n)] (.lit (.int .i64 v)) [] := by
 apply Exists.intro
 refine FnAt.of_body tys_ok Try.func80 (by rfl) rfl Try.ntmps80 (by rw [Try.results80]) (by simp) ?_
 repeat' (first
 | refine W.seq ?_
 | refine W.block ?_
 | (refine W.region tys_ok [] ?_; conv => whnf)
 | (refine W.drawAll tys_ok [] mixed rfl ?_; conv => whnf)
 | (refine W.ret ?_; conv => whnf)
 | (refine W.skip ?_; conv => whnf)
 | (refine W.exit ?_; conv => whnf)
 | (refine W.cond rfl (fun hb => ?_) (fun hb => ?_) <;> (try simp only [zr, zd, zm, minL, maxL, pickB, zA] at hb) <;> (try (first | (cases hb; done) | exact absurd hb (by decide) | (exfalso; omega) | (omega))))
 | ((with_reducible refine And.intro ?_ ?_); exact zc; conv => whnf)
 | ((with_reducible refine And.intro (Side.out ?_) ?_); rotate_left; (conv => whnf))
 | ((first | refine retF1 ?_ | refine retF2 ?_) <;> (conv => whnf) <;> repeat' (first
 | exact trivial
 | (with_reducible rfl)
 | ((with_reducible refine And.intro ?_ ?_) <;> conv => whnf)
 | omega
 | rfl
 | (refine congrArg (SV.arr _) ?_)
 | (refine congrArg (Value.int _) ?_)
 | (refine congrArg Value.bool ?_)))); all_goals (try unfold Side)
 all_goals try (repeat' (first | exact zb | with_reducible refine And.intro ?_ ?_))
 all_goals first | exact Path.imp_of (inU8 _) | (refine Path.imp_of ?_; rw [Int.zero_add]; exact inU8 _) | exact Path.imp_of ⟨h0, Nat.lt_of_lt_of_le (m := 13) (by omega) (Nat.le_of_ble_eq_true rfl)⟩ | skip
theorem len_at {n : Int} (h0 : 0 ≤ n) (h : n ≤ 12) : ∃ v : Int, FnAt Try.prog false 68 [.lit (.int .u64 n)] (.lit (.int .i64 v)) [] := by
 obtain ⟨v, c1⟩ := len64_at h0 h
 refine ⟨v, ?_⟩
 refine FnAt.of_body tys_ok Try.func68 (by rfl) rfl Try.ntmps68 (by rw [Try.results68]) (by simp) ?_
 repeat' (first
 | refine W.seq ?_
 | refine W.block ?_
 | (refine W.region tys_ok [] ?_; conv => whnf)
 | (refine W.drawAll tys_ok [] mixed rfl ?_; conv => whnf)
 | (refine W.ret ?_; conv => whnf)
 | (refine W.skip ?_; conv => whnf)
 | (refine W.exit ?_; conv => whnf)
 | (refine call_at (al := false) (c1) rfl rfl rfl rfl ?_; conv => whnf)
 | (refine W.cond rfl (fun hb => ?_) (fun hb => ?_) <;> (try simp only [zr, zd, zm, minL, maxL, pickB, zA] at hb) <;> (try (first | (cases hb; done) | exact absurd hb (by decide) | (exfalso; omega) | (omega))))
 | ((with_reducible refine And.intro ?_ ?_); exact zc; conv => whnf)
 | ((with_reducible refine And.intro (Side.out ?_) ?_); rotate_left; (conv => whnf))
 | ((first | refine retF1 ?_ | refine retF2 ?_) <;> (conv => whnf) <;> repeat' (first
 | exact trivial
 | (with_reducible rfl)
 | ((with_reducible refine And.intro ?_ ?_) <;> conv => whnf)
 | omega
 | rfl
 | (refine congrArg (SV.arr _) ?_)
 | (refine congrArg (Value.int _) ?_)
 | (refine congrArg Value.bool ?_)))); all_goals (try unfold Side)
 all_goals try (repeat' (first | exact zb | with_reducible refine And.intro ?_ ?_))
set_option maxHeartbeats 4000000 in
theorem sort_m {xs : List (List Int)} (hn1 : 1 ≤ xs.length) (hn : xs.length ≤ 12) (hl : ∀ a ∈ xs, a.length ≤ 4096) :
  FnM Try.prog 62 [.own 1000000000, .fn 63 []] [(1000000000, .row 31 (.sl (.int .i64)) true (xs : List (List Int)))] (.tup []) [(1000000000, .row 31 (.sl (.int .i64)) true (isortT cmpT xs xs.length : List (List Int)))] := by
 obtain ⟨v, c1⟩ := len_at (n := (xs.length : Int)) (by omega) (by omega)
 have c2 := pdq_m (lim := v) hn1 hn hl
 have hlz : @List.length (List Int) xs = xs.length := rfl
 obtain ⟨n, hnn⟩ : ∃ n, n = xs.length := ⟨_, rfl⟩
 refine FnM.of_body tys_ok Try.func62 (by rfl) rfl Try.ntmps62 (by rw [Try.results62]) (by simp) ?_
 repeat' (first
 | refine W.seq ?_
 | refine W.block ?_
 | (refine W.regionM (id := 1) tys_ok [] [6] ?_; conv => whnf)
 | (refine W.region tys_ok [] ?_; conv => whnf)
 | (refine W.drawAll tys_ok [] mixed rfl ?_; conv => whnf)
 | (refine W.ret ?_; conv => whnf)
 | (refine W.skip ?_; conv => whnf)
 | (refine W.exit ?_; conv => whnf)
 | (refine call_at (al := false) (c1) rfl rfl rfl rfl ?_; conv => whnf)
 | (refine callM_at (c2) ?_; conv => whnf)
 | (refine W.cond rfl (fun hb => ?_) (fun hb => ?_) <;> (try simp only [zr, zd, zm, minL, maxL, pickB, zA] at hb) <;> (try (first | (cases hb; done) | exact absurd hb (by decide) | (exfalso; omega) | (omega))))
 | (refine Or.inl (And.intro trivial ?_); (conv => whnf))
 | ((with_reducible refine And.intro ?_ ?_); exact zc; conv => whnf)
 | ((with_reducible refine And.intro (Side.out ?_) ?_); rotate_left; (conv => whnf))
 | ((first | refine retM1 ?_ | refine retM2 ?_) <;> (conv => whnf) <;> repeat' (first
 | exact trivial
 | (with_reducible rfl)
 | ((with_reducible refine And.intro ?_ ?_) <;> conv => whnf)
 | omega
 | rfl
 | (refine congrArg (SV.arr _) ?_)
 | (refine congrArg (Value.int _) ?_)
 | (refine congrArg Value.bool ?_)))); all_goals (try unfold Side)
 all_goals try (repeat' (first | exact zb | with_reducible refine And.intro ?_ ?_))
def lsL (l : List Nat) : List (List Int) := l.map fun s => zN (lsT s 12)
theorem lsL_len {l : List Nat} : (lsL l).length = l.length := by simp [lsL]
theorem lsL_take {l : List Nat} {k : Nat} (h : k < l.length) : lsL (l.take (k + 1)) = lsL (l.take k) ++ [zN (lsT (l.getD k 0) 12)] := by
 have e : l[k]? = some (l.getD k 0) := by rw [List.getD_eq_getElem?_getD, List.getElem?_eq_getElem h]; rfl
 rw [List.take_add_one, e]
 unfold lsL
 rw [List.map_append]; rfl
theorem lsL_mem {l : List Nat} {a : List Int} (h : a ∈ lsL l) : ∃ s, s ∈ l ∧ a = zN (lsT s 12) := by
 unfold lsL at h
 obtain ⟨s, h1, h2⟩ := List.mem_map.1 h
 exact ⟨s, h1, h2.symm⟩
def lisT (l : List Nat) : List (List Int) := isortT cmpT (lsL l) l.length
set_option maxHeartbeats 4000000 in
theorem lists_at {l : List Nat} (hn1 : 1 ≤ l.length) (hn : l.length ≤ 12) (hl : ∀ i, i < l.length → l.getD i 0 < 65536) :
  FnAt Try.prog false 54 [.arr (.int .u16) (zN (l) : List Int)] (.st true (.arr (.sl (.int .i64)) (lisT l : List (List Int)))) [] := by
 have hzl : @List.length (Ty.int .u16).T (zN l) = l.length := zN_len
 have hml : ∀ a ∈ lsL l, a.length ≤ 4096 := fun a ha => by
  obtain ⟨s, _, rfl⟩ := lsL_mem ha
  rw [zN_len]; exact Nat.le_trans lsT_len (by omega)
 have c2 := sort_m (xs := lsL l) (by rw [lsL_len]; exact hn1) (by rw [lsL_len]; exact hn) hml
 rw [lsL_len] at c2
 obtain ⟨res, hres⟩ : ∃ res, res = lisT l := ⟨_, rfl⟩
 have hres2 : isortT cmpT (lsL l) l.length = res := hres.symm
 rw [hres2] at c2
 rw [← hres]
 have htk : lsL (l.take l.length) = lsL l := by rw [List.take_length]
 refine FnAt.of_body tys_ok Try.func54 (by rfl) rfl Try.ntmps54 (by rw [Try.results54]) (by simp) ?_
 repeat' (first
 | refine W.seq ?_
 | refine W.block ?_
 | (refine W.region tys_ok [] ?_; conv => whnf)
 | (refine W.drawAll tys_ok [] mixed rfl ?_; conv => whnf)
 | (refine W.ret ?_; conv => whnf)
 | (refine W.skip ?_; conv => whnf)
 | (refine W.exit ?_; conv => whnf)
 | (refine W.cond rfl (fun hb => ?_) (fun hb => ?_) <;> (try simp only [zr, zd, zm, minL, maxL, pickB, zA] at hb) <;> (try (first | (cases hb; done) | exact absurd hb (by decide) | (exfalso; omega) | (omega))))
 | ((with_reducible refine And.intro ?_ ?_); exact zc; conv => whnf)
 | ((with_reducible refine And.intro (Side.out ?_) ?_); rotate_left; (conv => whnf))
 | ((first | refine retF1 ?_ | refine retF2 ?_) <;> (conv => whnf) <;> repeat' (first
 | exact trivial
 | (with_reducible rfl)
 | ((with_reducible refine And.intro ?_ ?_) <;> conv => whnf)
 | omega
 | rfl
 | (refine congrArg (SV.arr _) ?_)
 | (refine congrArg (Value.int _) ?_)
 | (refine congrArg Value.bool ?_)))); all_goals (try unfold Side)
 all_goals try (repeat' (first | exact zb | with_reducible refine And.intro ?_ ?_))
 refine W.loop (fun k : Nat => ⟨[(3, .own 3000), (6, .st false (.arr (.int .u16) (zN (l) : List Int))), (7, (.lit (.int .i64 (l.length : Int)))), (8, (.lit (.int .i64 (k : Int))))], [(3000, .row 31 (.sl (.int .i64)) true (lsL (l.take k) : List (List Int)))]⟩) (fun k => k ≤ l.length) (fun k => l.length - k) (0) ?_ ?_
 · refine ⟨Nat.zero_le _, ?_⟩
   refine subF.ok ?_ <;> (conv => whnf) <;> repeat' (first
 | exact trivial
 | (with_reducible rfl)
 | ((with_reducible refine And.intro ?_ ?_) <;> conv => whnf)
 | omega
 | rfl
 | (refine congrArg (SV.arr _) ?_)
 | (refine congrArg (Value.int _) ?_)
 | (refine congrArg Value.bool ?_))
   all_goals first | exact congrArg Nat.cast hzl | skip
 · intro k hk
   by_cases hkl : k < l.length
   · have hg : (zN l).getD k 0 = ((l.getD k 0 : Nat) : Int) := zN_get
     have hlt := hl k hkl
     have htk1 := lsL_take hkl
     have c1 := list_at hlt
     rw [← hg] at c1
     have hlen : (lsL (l.take k)).length ≤ 12 := by rw [lsL_len, List.length_take]; omega
     repeat' (first
 | refine W.seq ?_
 | refine W.block ?_
 | (refine W.region tys_ok [] ?_; conv => whnf)
 | (refine W.drawAll tys_ok [] mixed rfl ?_; conv => whnf)
 | (refine W.ret ?_; conv => whnf)
 | (refine W.skip ?_; conv => whnf)
 | (refine W.exit ?_; conv => whnf)
 | (refine call_at (al := false) (c1) rfl rfl rfl rfl ?_; conv => whnf)
 | (refine W.cond rfl (fun hb => ?_) (fun hb => ?_) <;> (try simp only [zr, zd, zm, minL, maxL, pickB, zA] at hb) <;> (try (first | (cases hb; done) | exact absurd hb (by decide) | (exfalso; omega) | (omega))))
 | ((with_reducible refine And.intro ?_ ?_); exact zc; conv => whnf)
 | ((with_reducible refine And.intro (Side.out ?_) ?_); rotate_left; (conv => whnf))
 | ((first | refine retF1 ?_ | refine retF2 ?_) <;> (conv => whnf) <;> repeat' (first
 | exact trivial
 | (with_reducible rfl)
 | ((with_reducible refine And.intro ?_ ?_) <;> conv => whnf)
 | omega
 | rfl
 | (refine congrArg (SV.arr _) ?_)
 | (refine congrArg (Value.int _) ?_)
 | (refine congrArg Value.bool ?_)))); all_goals (try unfold Side)
     all_goals try (repeat' (first | exact zb | with_reducible refine And.intro ?_ ?_))
     all_goals first | (show ((lsL (l.take k)).length + 1).le 4294967296; exact (by omega : (lsL (l.take k)).length + 1 ≤ 4294967296)) | skip
     refine ⟨k + 1, ⟨by omega, by omega⟩, ?_⟩
     rw [htk1]
     refine subF.ok ?_ <;> (conv => whnf) <;> repeat' (first
 | exact trivial
 | (with_reducible rfl)
 | ((with_reducible refine And.intro ?_ ?_) <;> conv => whnf)
 | omega
 | rfl
 | (refine congrArg (SV.arr _) ?_)
 | (refine congrArg (Value.int _) ?_)
 | (refine congrArg Value.bool ?_))
   · have hke : k = l.length := by omega
     subst hke
     rw [htk]
     repeat' (first
 | refine W.seq ?_
 | refine W.block ?_
 | (refine W.regionM (id := 7) tys_ok [] [1] ?_; conv => whnf)
 | (refine W.region tys_ok [] ?_; conv => whnf)
 | (refine W.drawAll tys_ok [] mixed rfl ?_; conv => whnf)
 | (refine W.ret ?_; conv => whnf)
 | (refine W.skip ?_; conv => whnf)
 | (refine W.exit ?_; conv => whnf)
 | (refine callM_at (c2) ?_; conv => whnf)
 | (refine W.cond rfl (fun hb => ?_) (fun hb => ?_) <;> (try simp only [zr, zd, zm, minL, maxL, pickB, zA] at hb) <;> (try (first | (cases hb; done) | exact absurd hb (by decide) | (exfalso; omega) | (omega))))
 | (refine Or.inl (And.intro trivial ?_); (conv => whnf))
 | ((with_reducible refine And.intro ?_ ?_); exact zc; conv => whnf)
 | ((with_reducible refine And.intro (Side.out ?_) ?_); rotate_left; (conv => whnf))
 | ((first | refine retF1 ?_ | refine retF2 ?_) <;> (conv => whnf) <;> repeat' (first
 | exact trivial
 | (with_reducible rfl)
 | ((with_reducible refine And.intro ?_ ?_) <;> conv => whnf)
 | omega
 | rfl
 | (refine congrArg (SV.arr _) ?_)
 | (refine congrArg (Value.int _) ?_)
 | (refine congrArg Value.bool ?_)))); all_goals (try unfold Side)
     all_goals try (repeat' (first | exact zb | with_reducible refine And.intro ?_ ?_))
end Go.Proofs.Ytckmhlpngolbpaa
