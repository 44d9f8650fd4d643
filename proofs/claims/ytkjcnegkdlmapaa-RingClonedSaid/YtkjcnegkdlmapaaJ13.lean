/- Joined of: R12 Re4 Vc38 R13 R14. No condition. -/
import Derived.Test.YtkjcnegkdlmapaaJ6
import Derived.Test.YtkjcnegkdlmapaaJ12
import Derived.Test.YtkjcnegkdlmapaaJ4
import Derived.Test.YtkjcnegkdlmapaaJ10
import Derived.Test.YtkjcnegkdlmapaaJ8
import Derived.Test.YtkjcnegkdlmapaaJ11
set_option linter.unusedVariables false
set_option linter.unusedSimpArgs false
namespace Go.Proofs.Ytkjcnegkdlmapaa
open Int renaming reduceToNat → zr, reduceTDiv → zd, reduceTMod → zm
open Go Go.Vc Go.Rg
def smw (y : List Int) : Prop := (y.length : Int) ≤ 9223372036854775807 ∧ ∀ i, 0 ≤ y.getD i 0 ∧ y.getD i 0 ≤ 65535
theorem nbs_skip {xs y : List Int} {v : Int} {i : Nat} (hy : y = nbs xs i) (hv : v = xs.getD i 0 % 1000 + 1) (hm : v ∈ y) : y = nbs xs (i + 1) := by
 rw [nbs, ← hy, ← hv, if_neg fun h => h.2 hm]
theorem nbs_put {xs y : List Int} {v : Int} {i : Nat} (hy : y = nbs xs i) (hv : v = xs.getD i 0 % 1000 + 1) (hm : v ∉ y) (hl : y.length < 10) : y ++ [v] = nbs xs (i + 1) := by
 rw [nbs, ← hy, ← hv, if_pos ⟨hl, hm⟩]
theorem nbs_full {xs : List Int} {i : Nat} (h : 10 ≤ (nbs xs i).length) : ∀ d, nbs xs (i + d) = nbs xs i
 | 0 => rfl
 | d + 1 => by
  rw [← Nat.add_assoc, nbs, nbs_full h d, if_neg fun c => by omega]
theorem nbs_all {xs : List Int} {i : Nat} (hi : i ≤ xs.length) (h : ¬ (i < xs.length ∧ (nbs xs i).length < 10)) : nbs xs xs.length = nbs xs i := by
 by_cases e : i = xs.length
 · rw [e]
 · have := nbs_full (xs := xs) (i := i) (by omega) (xs.length - i)
   rwa [show i + (xs.length - i) = xs.length by omega] at this
theorem take_mem {l : List Int} {v : Int} {k : Nat} (hk : k < l.length) : decide (v ∈ l.take (k + 1)) = (decide (v ∈ l.take k) || decide (l.getD k 0 = v)) := by
 rw [List.take_succ_eq_append_getElem hk, ← getD_eq hk, Bool.eq_iff_iff]
 rw [Bool.or_eq_true, decide_eq_true_iff, decide_eq_true_iff, decide_eq_true_iff, List.mem_append, List.mem_singleton]
 constructor
 · exact fun h => h.imp id Eq.symm
 · exact fun h => h.imp id Eq.symm
theorem numbers_at {x l : List Int} (hx : smw x) (hl0 : l = nbl (nbs x x.length)) : FnAt Try.prog false 14 [.arr (.int .u16) x] (.own 0) [(0, .row 3 (.int .i64) true (l : List Int))] := by
 have hl : @List.length (Ty.int .u16).T x = x.length := rfl
 refine FnAt.of_body tys_ok Try.func14 (by rfl) rfl Try.ntmps14 (by rw [Try.results14]) (by simp) ?_
 repeat' (first
 | refine W.seq ?_
 | refine W.block ?_
 | (refine W.region tys_ok [] ?_; conv => whnf)
 | (refine W.drawAll tys_ok [] mixed rfl ?_; conv => whnf)
 | (refine W.ret ?_; conv => whnf)
 | (refine W.skip ?_; conv => whnf)
 | (refine W.exit ?_; conv => whnf)
 | (refine W.cond rfl (fun hb => ?_) (fun hb => ?_) <;> (try simp only [zr, zd, zm, minL, maxL, pickB, zA] at hb) <;> (try (first | (cases hb; done) | exact absurd hb (by decide) | (exfalso; omega) | (omega))))
 | ((with_reducible refine And.intro ?_ ?_); exact zc; conv => whnf)
 | ((with_reducible refine And.intro (Side.out ?_) ?_); rotate_left; (conv => whnf))
 | ((first | refine retF1 ?_ | refine retF2 ?_) <;> (conv => whnf) <;> repeat' (first
 | exact trivial
 | (with_reducible rfl)
 | ((with_reducible refine And.intro ?_ ?_) <;> conv => whnf)
 | omega
 | rfl
 | (refine congrArg (SV.arr _) ?_)
 | (refine congrArg (Value.int _) ?_)
 | (refine congrArg Value.bool ?_)))); all_goals (try unfold Side)
 all_goals try (repeat' (first | exact zb | with_reducible refine And.intro ?_ ?_))
 refine W.loop (fun i : Nat => ⟨[(0, .st false (.arr (.int .u16) (x : List Int))), (3, .own 4000), (4, (.lit (.int .i64 (i : Int))))], [(4000, .row 3 (.int .i64) true (nbs x i))]⟩) (fun i => i ≤ x.length) (fun i => x.length - i) (0) ?_ ?_
 · refine ⟨Nat.zero_le _, ?_⟩
   refine subF.ok ?_ <;> (conv => whnf) <;> repeat' (first
 | exact trivial
 | (with_reducible rfl)
 | ((with_reducible refine And.intro ?_ ?_) <;> conv => whnf)
 | omega
 | rfl
 | (refine congrArg (SV.arr _) ?_)
 | (refine congrArg (Value.int _) ?_)
 | (refine congrArg Value.bool ?_))
 · rintro i hi
   have hn0 := nbs_ok (xs := x) i
   obtain ⟨y, hy⟩ : ∃ y, y = nbs x i := ⟨_, rfl⟩
   rw [← hy] at hn0 ⊢
   have h10 := hn0.l1
   have hll : @List.length (Ty.int .i64).T y = y.length := rfl
   by_cases hil : i < x.length ∧ y.length < 10
   · have hxi := hx.2 i
     obtain ⟨v, hv⟩ : ∃ v : Int, v = x.getD i 0 % 1000 + 1 := ⟨_, rfl⟩
     have hm : (x.getD i 0).tmod 1000 = x.getD i 0 % 1000 := Int.tmod_eq_emod_of_nonneg hxi.1
     have hmm : (x.getD i 0).tmod 1000 + 1 = v := by rw [hm, hv]
     repeat' (first
 | refine W.seq ?_
 | refine W.block ?_
 | (refine W.region tys_ok [] ?_; conv => whnf)
 | (refine W.drawAll tys_ok [] mixed rfl ?_; conv => whnf)
 | (refine W.ret ?_; conv => whnf)
 | (refine W.skip ?_; conv => whnf)
 | (refine W.exit ?_; conv => whnf)
 | (refine W.cond rfl (fun hb => ?_) (fun hb => ?_) <;> (try simp only [zr, zd, zm, minL, maxL, pickB, zA] at hb) <;> (try (first | (cases hb; done) | exact absurd hb (by decide) | (exfalso; omega) | (omega) | ((simp [pickB] at hb; omega)))))
 | ((with_reducible refine And.intro ?_ ?_); exact zc; conv => whnf)
 | ((with_reducible refine And.intro (Side.out ?_) ?_); rotate_left; (conv => whnf))
 | ((first | refine retF1 ?_ | refine retF2 ?_) <;> (conv => whnf) <;> repeat' (first
 | exact trivial
 | (with_reducible rfl)
 | ((with_reducible refine And.intro ?_ ?_) <;> conv => whnf)
 | omega
 | rfl
 | (refine congrArg (SV.arr _) ?_)
 | (refine congrArg (Value.int _) ?_)
 | (refine congrArg Value.bool ?_)))); all_goals (try unfold Side)
     all_goals try (repeat' (first | exact zb | with_reducible refine And.intro ?_ ?_))
     refine W.loop (fun k : Nat => ⟨[(0, .st false (.arr (.int .u16) (x : List Int))), (3, .own 4000), (4, (.lit (.int .i64 (i : Int)))), (5, (.lit (.int .i64 (v : Int)))), (6, .lit (.bool (decide (v ∈ y.take k)))), (7, (.lit (.int .i64 (k : Int))))], [(4000, .row 3 (.int .i64) true (y : List Int))]⟩) (fun k => k ≤ y.length) (fun k => y.length - k) (0) ?_ ?_
     · refine ⟨Nat.zero_le _, ?_⟩
       refine subF.ok ?_ <;> (conv => whnf) <;> repeat' (first
 | exact trivial
 | (with_reducible rfl)
 | ((with_reducible refine And.intro ?_ ?_) <;> conv => whnf)
 | omega
 | rfl
 | (refine congrArg (SV.arr _) ?_)
 | (refine congrArg (Value.int _) ?_)
 | (refine congrArg Value.bool ?_))
       all_goals first | exact hmm | skip
     · rintro k hk
       have hxl := hx.1
       by_cases hkl : k < y.length
       · have e1 := take_mem (v := v) hkl
         have e2 : pickB (decide (v ∈ y.take k)) (Operand.const (Value.bool true)) (Operand.tmp 40) true (decide (y.getD k 0 = v)) = decide (v ∈ y.take (k + 1)) := by rw [e1]; rfl
         repeat' (first
 | refine W.seq ?_
 | refine W.block ?_
 | (refine W.region tys_ok [] ?_; conv => whnf)
 | (refine W.drawAll tys_ok [] mixed rfl ?_; conv => whnf)
 | (refine W.ret ?_; conv => whnf)
 | (refine W.skip ?_; conv => whnf)
 | (refine W.exit ?_; conv => whnf)
 | (refine W.cond rfl (fun hb => ?_) (fun hb => ?_) <;> (try simp only [zr, zd, zm, minL, maxL, pickB, zA] at hb) <;> (try (first | (cases hb; done) | exact absurd hb (by decide) | (exfalso; omega) | (omega))))
 | ((with_reducible refine And.intro ?_ ?_); exact zc; conv => whnf)
 | ((with_reducible refine And.intro (Side.out ?_) ?_); rotate_left; (conv => whnf))
 | ((first | refine retF1 ?_ | refine retF2 ?_) <;> (conv => whnf) <;> repeat' (first
 | exact trivial
 | (with_reducible rfl)
 | ((with_reducible refine And.intro ?_ ?_) <;> conv => whnf)
 | omega
 | rfl
 | (refine congrArg (SV.arr _) ?_)
 | (refine congrArg (Value.int _) ?_)
 | (refine congrArg Value.bool ?_)))); all_goals (try unfold Side)
         all_goals try (repeat' (first | exact zb | with_reducible refine And.intro ?_ ?_))
         refine ⟨k + 1, ⟨by omega, by omega⟩, ?_⟩
         refine subF.ok ?_ <;> (conv => whnf) <;> repeat' (first
 | exact trivial
 | (with_reducible rfl)
 | ((with_reducible refine And.intro ?_ ?_) <;> conv => whnf)
 | omega
 | rfl
 | (refine congrArg (SV.arr _) ?_)
 | (refine congrArg (Value.int _) ?_)
 | (refine congrArg Value.bool ?_))
         all_goals first | exact e2 | skip
       · have hke : k = y.length := by omega
         subst hke
         have et : y.take y.length = y := List.take_length
         rw [et]
         have hil2 := hil.1
         by_cases hm : v ∈ y
         · have e3 := nbs_skip hy hv hm
           have hd : decide (v ∈ y) = true := decide_eq_true hm
           rw [hd]
           repeat' (first
 | refine W.seq ?_
 | refine W.block ?_
 | (refine W.region tys_ok [] ?_; conv => whnf)
 | (refine W.drawAll tys_ok [] mixed rfl ?_; conv => whnf)
 | (refine W.ret ?_; conv => whnf)
 | (refine W.skip ?_; conv => whnf)
 | (refine W.exit ?_; conv => whnf)
 | (refine W.cond rfl (fun hb => ?_) (fun hb => ?_) <;> (try simp only [zr, zd, zm, minL, maxL, pickB, zA] at hb) <;> (try (first | (cases hb; done) | exact absurd hb (by decide) | (exfalso; omega) | (omega))))
 | ((with_reducible refine And.intro ?_ ?_); exact zc; conv => whnf)
 | ((with_reducible refine And.intro (Side.out ?_) ?_); rotate_left; (conv => whnf))
 | ((first | refine retF1 ?_ | refine retF2 ?_) <;> (conv => whnf) <;> repeat' (first
 | exact trivial
 | (with_reducible rfl)
 | ((with_reducible refine And.intro ?_ ?_) <;> conv => whnf)
 | omega
 | rfl
 | (refine congrArg (SV.arr _) ?_)
 | (refine congrArg (Value.int _) ?_)
 | (refine congrArg Value.bool ?_)))); all_goals (try unfold Side)
           all_goals try (repeat' (first | exact zb | with_reducible refine And.intro ?_ ?_))
           refine ⟨i + 1, ⟨by omega, by omega⟩, ?_⟩
           refine subF.ok ?_ <;> (conv => whnf) <;> repeat' (first
 | exact trivial
 | (with_reducible rfl)
 | ((with_reducible refine And.intro ?_ ?_) <;> conv => whnf)
 | omega
 | rfl
 | (refine congrArg (SV.arr _) ?_)
 | (refine congrArg (Value.int _) ?_)
 | (refine congrArg Value.bool ?_))
           all_goals first | exact e3 | skip
         · have e3 := nbs_put hy hv hm hil.2
           have hd : decide (v ∈ y) = false := decide_eq_false hm
           rw [hd]
           repeat' (first
 | refine W.seq ?_
 | refine W.block ?_
 | (refine W.region tys_ok [] ?_; conv => whnf)
 | (refine W.drawAll tys_ok [] mixed rfl ?_; conv => whnf)
 | (refine W.ret ?_; conv => whnf)
 | (refine W.skip ?_; conv => whnf)
 | (refine W.exit ?_; conv => whnf)
 | (refine W.cond rfl (fun hb => ?_) (fun hb => ?_) <;> (try simp only [zr, zd, zm, minL, maxL, pickB, zA] at hb) <;> (try (first | (cases hb; done) | exact absurd hb (by decide) | (exfalso; omega) | (omega))))
 | ((with_reducible refine And.intro ?_ ?_); exact zc; conv => whnf)
 | ((with_reducible refine And.intro (Side.out ?_) ?_); rotate_left; (conv => whnf))
 | ((first | refine retF1 ?_ | refine retF2 ?_) <;> (conv => whnf) <;> repeat' (first
 | exact trivial
 | (with_reducible rfl)
 | ((with_reducible refine And.intro ?_ ?_) <;> conv => whnf)
 | omega
 | rfl
 | (refine congrArg (SV.arr _) ?_)
 | (refine congrArg (Value.int _) ?_)
 | (refine congrArg Value.bool ?_)))); all_goals (try unfold Side)
           all_goals try (repeat' (first | exact zb | with_reducible refine And.intro ?_ ?_))
           refine ⟨i + 1, ⟨by omega, by omega⟩, ?_⟩
           refine subF.ok ?_ <;> (conv => whnf) <;> repeat' (first
 | exact trivial
 | (with_reducible rfl)
 | ((with_reducible refine And.intro ?_ ?_) <;> conv => whnf)
 | omega
 | rfl
 | (refine congrArg (SV.arr _) ?_)
 | (refine congrArg (Value.int _) ?_)
 | (refine congrArg Value.bool ?_))
           all_goals first | exact e3 | skip
   · have e4 := nbs_all hi (by rw [← hy]; exact hil)
     rw [← hy] at e4
     rw [e4] at hl0
     unfold nbl at hl0
     by_cases h0 : y.length = 0
     · rw [if_pos h0] at hl0
       subst hl0
       repeat' (first
 | refine W.seq ?_
 | refine W.block ?_
 | (refine W.region tys_ok [] ?_; conv => whnf)
 | (refine W.drawAll tys_ok [] mixed rfl ?_; conv => whnf)
 | (refine W.ret ?_; conv => whnf)
 | (refine W.skip ?_; conv => whnf)
 | (refine W.exit ?_; conv => whnf)
 | (refine W.cond rfl (fun hb => ?_) (fun hb => ?_) <;> (try simp only [zr, zd, zm, minL, maxL, pickB, zA] at hb) <;> (try (first | (cases hb; done) | exact absurd hb (by decide) | (exfalso; omega) | (omega) | ((simp [pickB] at hb; omega)))))
 | ((with_reducible refine And.intro ?_ ?_); exact zc; conv => whnf)
 | ((with_reducible refine And.intro (Side.out ?_) ?_); rotate_left; (conv => whnf))
 | ((first | refine retF1 ?_ | refine retF2 ?_) <;> (conv => whnf) <;> repeat' (first
 | exact trivial
 | (with_reducible rfl)
 | ((with_reducible refine And.intro ?_ ?_) <;> conv => whnf)
 | omega
 | rfl
 | (refine congrArg (SV.arr _) ?_)
 | (refine congrArg (Value.int _) ?_)
 | (refine congrArg Value.bool ?_)))); all_goals (try unfold Side)
       all_goals try (repeat' (first | exact zb | with_reducible refine And.intro ?_ ?_))
     · rw [if_neg h0] at hl0
       subst hl0
       repeat' (first
 | refine W.seq ?_
 | refine W.block ?_
 | (refine W.region tys_ok [] ?_; conv => whnf)
 | (refine W.drawAll tys_ok [] mixed rfl ?_; conv => whnf)
 | (refine W.ret ?_; conv => whnf)
 | (refine W.skip ?_; conv => whnf)
 | (refine W.exit ?_; conv => whnf)
 | (refine W.cond rfl (fun hb => ?_) (fun hb => ?_) <;> (try simp only [zr, zd, zm, minL, maxL, pickB, zA] at hb) <;> (try (first | (cases hb; done) | exact absurd hb (by decide) | (exfalso; omega) | (omega) | ((simp [pickB] at hb; omega)))))
 | ((with_reducible refine And.intro ?_ ?_); exact zc; conv => whnf)
 | ((with_reducible refine And.intro (Side.out ?_) ?_); rotate_left; (conv => whnf))
 | ((first | refine retF1 ?_ | refine retF2 ?_) <;> (conv => whnf) <;> repeat' (first
 | exact trivial
 | (with_reducible rfl)
 | ((with_reducible refine And.intro ?_ ?_) <;> conv => whnf)
 | omega
 | rfl
 | (refine congrArg (SV.arr _) ?_)
 | (refine congrArg (Value.int _) ?_)
 | (refine congrArg Value.bool ?_)))); all_goals (try unfold Side)
       all_goals try (repeat' (first | exact zb | with_reducible refine And.intro ?_ ?_))
end Go.Proofs.Ytkjcnegkdlmapaa
namespace Go.Rg
variable {pet : Bool} {n m0 : Nat} {num : Nat → Int} {M : Int} {R : Nat} {r : Rn} {c : Ct} {os : List Int}
end Go.Rg
namespace Go.Vc
def litsOf : List AV → Option (List SV)
 | [] => some []
 | .lit v :: r => match litsOf r with
  | some l => some (.lit v :: l)
  | none => none
 | _ :: _ => none
theorem litsOf_len : ∀ {l : List AV} {s : List SV}, litsOf l = some s → s.length = l.length
 | [], s, h => by cases h; rfl
 | A :: r, s, h => by
  cases A <;> simp only [litsOf] at h <;> first | (cases h; done) | skip
  split at h
  · rename_i l hl
    cases h
    rw [List.length_cons, List.length_cons, litsOf_len hl]
  · cases h
theorem litsOf_get : ∀ {l : List AV} {s : List SV} {i : Nat} {B : SV}, litsOf l = some s → s[i]? = some B → ∃ v, B = .lit v ∧ l[i]? = some (.lit v)
 | [], s, i, B, h, hi => by cases h; simp at hi
 | A :: r, s, i, B, h, hi => by
  cases A <;> simp only [litsOf] at h <;> first | (cases h; done) | skip
  rename_i v
  split at h
  · rename_i l hl
    cases h
    cases i with
    | zero => simp at hi; subst hi; exact ⟨v, rfl, rfl⟩
    | succ i =>
     obtain ⟨u, h1, h2⟩ := litsOf_get (l := r) (i := i) (B := B) hl (by simpa using hi)
     exact ⟨u, h1, by simpa using h2⟩
  · cases h
def Sy.frz (Γ : Sy) (t k : Nat) (s : List SV) : Sy := ⟨(t, .st false (.sadr (.agg s))) :: (Γ.drop k).tmps, (Γ.drop k).own⟩
theorem St.frzBox {c : Cx} {Γ : Sy} {g : Nat → Value} {a : Act} {w : World} (h : St c Γ g a w) {t k : Nat} {l : List AV} {s : List SV} (ht : get? Γ.tmps t = some (.padr k 0)) (hk : get? Γ.own k = some (.box l)) (hs : litsOf l = some s) : St c (Γ.frz t k s) g a w := by
 have hd := h.drop k
 obtain ⟨b, hg, hv⟩ := h.tmps t _ ht
 obtain ⟨b', arr, e, hg', hb1, hb2, hsz, hc⟩ := h.hp.ok k _ hk
 have eb : b' = b := by rw [hg] at hg'; cases hg'; rfl
 subst eb
 have hn : ¬ Oset (Γ.drop k).own g b' := by
  rintro ⟨j, o, h1, h2⟩
  simp only [Sy.drop, get?_mapv, get?_del] at h1
  split at h1
  · cases h1
  · rename_i hne
    obtain ⟨o', h3, _⟩ := Option.map_eq_some_iff.1 h1
    have hb : Blk (g k) b' := Blk.of (by rw [hg]; rfl)
    exact hne (h.hp.inj j k o' _ b' h3 hk h2 hb)
 have key : RpS w (Av (Oset (Γ.drop k).own g) c.O0 false) (.pointer (some ⟨b', 0, none⟩)) (.sadr (.agg s)) := by
  refine RpS.sadr b' 0 _ (.agg arr) arr e (0, 0) hb2 (fun hO => ?_) (fun j hj => ?_) ?_
  · rcases hO with hO | ⟨hO, _⟩
    · exact hn hO
    · cases hO
  · rw [Nat.zero_add]; rfl
  · refine RpS.agg arr s (fun i => arr.getD i undef) (by rw [hsz, litsOf_len hs]) (fun i hi => ?_) (fun i B hB => ?_)
    · obtain ⟨v, _, hl⟩ := litsOf_get hs (List.getElem?_eq_getElem hi) (B := s[i])
      obtain ⟨x, h1, h2, _⟩ := hc i _ hl
      rw [Array.getD_eq_getD_getElem?, h1]
      exact ⟨rfl, h2⟩
    · obtain ⟨v, rfl, hl⟩ := litsOf_get hs hB
      obtain ⟨x, h1, h2, h3⟩ := hc i _ hl
      rw [Array.getD_eq_getD_getElem?, h1]
      have h4 : x = v ∧ v.oneCell' = true := h3
      obtain ⟨rfl, _⟩ := h4
      exact RpS.lit _ h2
 refine ⟨hd.defers, hd.size, hd.keep, hd.o0, fun t' A hA => ?_, hd.kept, hd.hp, hd.low, hd.pin⟩
 have hA : get? ((t, .st false (.sadr (.agg s))) :: (Γ.drop k).tmps) t' = some A := hA
 simp only [get?] at hA
 split at hA
 · rename_i he
   have he := Nat.eq_of_beq_eq_true he
   cases hA
   subst he
   rw [hv]
   exact key
 · exact hd.tmps t' A hA
theorem W.frz {P : Program} {n : Nat} {Q : Exit → Sy → Prop} {Γ : Sy} {x : Code} {t k : Nat} {l : List AV} {s : List SV} (ht : get? Γ.tmps t = some (.padr k 0)) (hk : get? Γ.own k = some (.box l)) (hs : litsOf l = some s) (h : W P n x (Γ.frz t k s) Q) : W P n x Γ Q :=
 ⟨fun c g a w hn hst => h.out c g a w hn (hst.frzBox ht hk hs)⟩
end Go.Vc
namespace Go.Proofs.Ytkjcnegkdlmapaa
open Int renaming reduceToNat → zr, reduceTDiv → zd, reduceTMod → zm
open Go Go.Vc Go.Rg
open Go Go.Vc Go.Rg
theorem getM {l : List Int} {i : Nat} (h : i < l.length) : l.getD i 0 ∈ l := by
 rw [List.getD_eq_getElem?_getD, List.getElem?_eq_getElem h]; exact List.getElem_mem h
theorem smw_wf {y : List Int} (h : (Ty.sl (.int .u16)).wf y) : smw y := by
 have h1 : y.length ≤ maxLen := h.1
 have e1 : maxLen = 9223372036854775807 := rfl
 refine ⟨by omega, fun i => ?_⟩
 have h2 : ∀ z ∈ y, (Ty.int .u16).wf z := h.2
 by_cases hi : i < y.length
 · exact wf_u16 (h2 _ (getM hi))
 · have : y.getD i 0 = 0 := by simp [List.getD, List.getElem?_eq_none (Nat.le_of_not_lt hi)]
   rw [this]; decide
end Go.Proofs.Ytkjcnegkdlmapaa
