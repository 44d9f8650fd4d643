/- Joined of: W14 Ha1 Ha2 Ha3 Ha4 Ha5 Ha6 H1 H2 Ha11 H3 H5. No condition. -/
import Derived.Test.YtckmhlpngolbpaaDoorJ8
import Derived.Test.YtckmhlpngolbpaaDoorJ4
import Derived.Test.YtckmhlpngolbpaaDoorJ5
set_option linter.unusedVariables false
set_option linter.unusedSimpArgs false
namespace Go.Proofs.YtckmhlpngolbpaaDoor
open Int renaming reduceToNat → zr, reduceTDiv → zd, reduceTMod → zm
open Go Go.Vc Go.Rg
def dots (w : Nat) : ByteArray := ⟨⟨List.replicate w 46⟩⟩
def pA : Nat → AV
 | 0 => .lit (.pointer none)
 | _ + 1 => .padr 13000 0
def cN : Bool → ByteArray → AV
 | false, _ => .lit (.slice none 0 0)
 | true, r => .st true (.arr .str [r])
def cM : Bool → ByteArray → AV
 | false, _ => .lit (.slice none 0 0)
 | true, r => .st true (.arr (.sl .str) [[r]])
theorem byI_dot {x : Nat} : byI (List.replicate x 46) ++ [46] = byI (List.replicate (x + 1) 46) := by
 rw [List.replicate_succ']
 simp [byI]
theorem byI_len {x : Nat} : (byI (List.replicate x 46)).length = x := by simp [byI]
set_option maxHeartbeats 16000000 in
theorem Kernel_m {row : ByteArray} {w : Nat} (hw : 1 ≤ w ∧ w ≤ 16) (hs : RowB row w) (hd : row = dots w) (hr : ∀ y, y < w → isPt row y = true) :
  FnM Tryd.prog 12 [.st true (.agg [.arr (.sl .str) ([[row]] : List (List ByteArray)), .arr MT mvL, .arr KT jlL])] [] (.tup [.st true (.arr (.sl .str) ([[row]] : List (List ByteArray))), (.lit (.int .i64 (0 : Int)))]) [] := by
 have c1 := read_m hw hs
 have hA : ∀ x : Nat, x < w → (x : Int) ∈ inK row w := fun x hx => inK_mem.2 ⟨x, hx, rfl, hr x hx⟩
 obtain ⟨L, hL⟩ : ∃ L, inK row w = L := ⟨_, rfl⟩
 rw [hL] at hA
 have c2 := kernel_m hw (by rw [hs.len]; exact Nat.le_refl _) hL hA
 have c3 := string_m (A := .padr 1000000000 0) (l := List.replicate w 46) rfl (by cases w with | zero => omega | succ w => simp [List.replicate])
 have hrl : @List.length (Ty.sl .str).T [[row]] = 1 := rfl
 refine FnM.of_body tys_ok Tryd.func12 (by rfl) rfl Tryd.ntmps12 (by rw [Tryd.results12]) (by simp) ?_
 repeat' (first
 | refine W.seq ?_
 | refine W.block ?_
 | (refine W.resub (x := Code.region 1 _ _) (Γ' := ⟨[(1, .st true (.sadr (.agg [.arr (.sl .str) ([[row]] : List (List ByteArray)), .arr MT mvL, .arr KT jlL])))], []⟩) ?_ (W.regionM tys_ok [] [1] ?_); rotate_left; (conv => whnf))
 | (refine W.regionM (id := 4) tys_ok [] [1] ?_; conv => whnf)
 | (refine W.region tys_ok [] ?_; conv => whnf)
 | (refine W.drawAll tys_ok [] mixed rfl ?_; conv => whnf)
 | (refine W.ret ?_; conv => whnf)
 | (refine W.skip ?_; conv => whnf)
 | (refine W.exit ?_; conv => whnf)
 | (refine callM_at (c1) ?_; conv => whnf)
 | (refine callM_at (c2) ?_; conv => whnf)
 | (refine W.cond rfl (fun hb => ?_) (fun hb => ?_) <;> (try simp only [zr, zd, zm, minL, maxL, pickB, zA] at hb) <;> (try (first | (cases hb; done) | exact absurd hb (by decide) | (exfalso; omega) | (omega))))
 | (refine Or.inl (And.intro trivial ?_); (conv => whnf))
 | ((with_reducible refine And.intro ?_ ?_); exact zc; conv => whnf)
 | ((with_reducible refine And.intro (Side.out ?_) ?_); rotate_left; (conv => whnf))
 | ((first | refine retM1 ?_ | refine retM2 ?_) <;> (conv => whnf) <;> repeat' (first
 | exact trivial
 | (with_reducible rfl)
 | ((with_reducible refine And.intro ?_ ?_) <;> conv => whnf)
 | omega
 | rfl
 | (refine congrArg (SV.arr _) ?_)
 | (refine congrArg (Value.int _) ?_)
 | (refine congrArg Value.bool ?_)))); all_goals (try unfold Side)
 all_goals try refine subF.ok ?_ <;> (conv => whnf) <;> repeat' (first
 | exact trivial
 | (with_reducible rfl)
 | ((with_reducible refine And.intro ?_ ?_) <;> conv => whnf)
 | omega
 | rfl
 | (refine congrArg (SV.arr _) ?_)
 | (refine congrArg (Value.int _) ?_)
 | (refine congrArg Value.bool ?_))
 all_goals try (repeat' (first | exact zb | with_reducible refine And.intro ?_ ?_))
 refine W.loop (fun z : Bool => ⟨[(4, .st true (.sadr (.agg [.arr (.sl .str) ([[row]] : List (List ByteArray)), .arr MT mvL, .arr KT jlL, I64 1, I64 (w : Int)]))), (6, .own 7000), (8, cM z row), (31, (.lit (.int .i64 (1 : Int)))), (32, (.lit (.int .i64 ((if z = true then 1 else 0) : Int))))], [(7000, .mps L)]⟩) (fun z => True) (fun z => (if z = true then 0 else 1)) (false) ?_ ?_
 · refine ⟨trivial, ?_⟩
   refine subF.ok ?_ <;> (conv => whnf) <;> repeat' (first
 | exact trivial
 | (with_reducible rfl)
 | ((with_reducible refine And.intro ?_ ?_) <;> conv => whnf)
 | omega
 | rfl
 | (refine congrArg (SV.arr _) ?_)
 | (refine congrArg (Value.int _) ?_)
 | (refine congrArg Value.bool ?_))
 · rintro z _
   cases z with
   | false =>
    repeat' (first
 | refine W.seq ?_
 | refine W.block ?_
 | (refine W.region tys_ok [] ?_; conv => whnf)
 | (refine W.drawAll tys_ok [] mixed rfl ?_; conv => whnf)
 | (refine W.ret ?_; conv => whnf)
 | (refine W.skip ?_; conv => whnf)
 | (refine W.exit ?_; conv => whnf)
 | (refine W.cond rfl (fun hb => ?_) (fun hb => ?_) <;> (try simp only [zr, zd, zm, minL, maxL, pickB, zA] at hb) <;> (try (first | (cases hb; done) | exact absurd hb (by decide) | (exfalso; omega) | (omega))))
 | ((with_reducible refine And.intro ?_ ?_); exact zc; conv => whnf)
 | ((with_reducible refine And.intro (Side.out ?_) ?_); rotate_left; (conv => whnf))
 | ((first | refine retM1 ?_ | refine retM2 ?_) <;> (conv => whnf) <;> repeat' (first
 | exact trivial
 | (with_reducible rfl)
 | ((with_reducible refine And.intro ?_ ?_) <;> conv => whnf)
 | omega
 | rfl
 | (refine congrArg (SV.arr _) ?_)
 | (refine congrArg (Value.int _) ?_)
 | (refine congrArg Value.bool ?_)))); all_goals (try unfold Side)
    all_goals try (repeat' (first | exact zb | with_reducible refine And.intro ?_ ?_))
    refine W.loop (fun z : Bool => ⟨[(4, .st true (.sadr (.agg [.arr (.sl .str) ([[row]] : List (List ByteArray)), .arr MT mvL, .arr KT jlL, I64 1, I64 (w : Int)]))), (6, .own 7000), (8, .lit (.slice none 0 0)), (9, (.lit (.int .i64 (0 : Int)))), (10, cN z row), (31, (.lit (.int .i64 (1 : Int)))), (32, (.lit (.int .i64 (0 : Int)))), (38, (.lit (.int .i64 (1 : Int)))), (39, (.lit (.int .i64 ((if z = true then 1 else 0) : Int))))], [(7000, .mps L)]⟩) (fun z => True) (fun z => (if z = true then 0 else 1)) (false) ?_ ?_
    · refine ⟨trivial, ?_⟩
      refine subF.ok ?_ <;> (conv => whnf) <;> repeat' (first
 | exact trivial
 | (with_reducible rfl)
 | ((with_reducible refine And.intro ?_ ?_) <;> conv => whnf)
 | omega
 | rfl
 | (refine congrArg (SV.arr _) ?_)
 | (refine congrArg (Value.int _) ?_)
 | (refine congrArg Value.bool ?_))
    · rintro z _
      cases z with
      | true =>
       repeat' (first
 | refine W.seq ?_
 | refine W.block ?_
 | (refine W.region tys_ok [] ?_; conv => whnf)
 | (refine W.drawAll tys_ok [] mixed rfl ?_; conv => whnf)
 | (refine W.ret ?_; conv => whnf)
 | (refine W.skip ?_; conv => whnf)
 | (refine W.exit ?_; conv => whnf)
 | (refine W.cond rfl (fun hb => ?_) (fun hb => ?_) <;> (try simp only [zr, zd, zm, minL, maxL, pickB, zA] at hb) <;> (try (first | (cases hb; done) | exact absurd hb (by decide) | (exfalso; omega) | (omega))))
 | ((with_reducible refine And.intro ?_ ?_); exact zc; conv => whnf)
 | ((with_reducible refine And.intro (Side.out ?_) ?_); rotate_left; (conv => whnf))
 | ((first | refine retM1 ?_ | refine retM2 ?_) <;> (conv => whnf) <;> repeat' (first
 | exact trivial
 | (with_reducible rfl)
 | ((with_reducible refine And.intro ?_ ?_) <;> conv => whnf)
 | omega
 | rfl
 | (refine congrArg (SV.arr _) ?_)
 | (refine congrArg (Value.int _) ?_)
 | (refine congrArg Value.bool ?_)))); all_goals (try unfold Side)
       all_goals try (repeat' (first | exact zb | with_reducible refine And.intro ?_ ?_))
       all_goals first | exact Nat.le_of_ble_eq_true rfl | skip
       refine ⟨true, ⟨trivial, by decide⟩, ?_⟩
       refine subF.ok ?_ <;> (conv => whnf) <;> repeat' (first
 | exact trivial
 | (with_reducible rfl)
 | ((with_reducible refine And.intro ?_ ?_) <;> conv => whnf)
 | omega
 | rfl
 | (refine congrArg (SV.arr _) ?_)
 | (refine congrArg (Value.int _) ?_)
 | (refine congrArg Value.bool ?_))
       all_goals first | rfl | skip
      | false =>
       repeat' (first
 | refine W.seq ?_
 | refine W.block ?_
 | (refine W.region tys_ok [] ?_; conv => whnf)
 | (refine W.drawAll tys_ok [] mixed rfl ?_; conv => whnf)
 | (refine W.ret ?_; conv => whnf)
 | (refine W.skip ?_; conv => whnf)
 | (refine W.exit ?_; conv => whnf)
 | (refine W.cond rfl (fun hb => ?_) (fun hb => ?_) <;> (try simp only [zr, zd, zm, minL, maxL, pickB, zA] at hb) <;> (try (first | (cases hb; done) | exact absurd hb (by decide) | (exfalso; omega) | (omega))))
 | ((with_reducible refine And.intro ?_ ?_); exact zc; conv => whnf)
 | ((with_reducible refine And.intro (Side.out ?_) ?_); rotate_left; (conv => whnf))
 | ((first | refine retM1 ?_ | refine retM2 ?_) <;> (conv => whnf) <;> repeat' (first
 | exact trivial
 | (with_reducible rfl)
 | ((with_reducible refine And.intro ?_ ?_) <;> conv => whnf)
 | omega
 | rfl
 | (refine congrArg (SV.arr _) ?_)
 | (refine congrArg (Value.int _) ?_)
 | (refine congrArg Value.bool ?_)))); all_goals (try unfold Side)
       all_goals try (repeat' (first | exact zb | with_reducible refine And.intro ?_ ?_))
       refine W.loop (fun x : Nat => ⟨[(4, .st true (.sadr (.agg [.arr (.sl .str) ([[row]] : List (List ByteArray)), .arr MT mvL, .arr KT jlL, I64 1, I64 (w : Int)]))), (6, .own 7000), (8, .lit (.slice none 0 0)), (9, (.lit (.int .i64 (0 : Int)))), (10, .lit (.slice none 0 0)), (11, (.lit (.int .i64 (0 : Int)))), (12, .padr 13000 0), (31, (.lit (.int .i64 (1 : Int)))), (32, (.lit (.int .i64 (0 : Int)))), (38, (.lit (.int .i64 (1 : Int)))), (39, (.lit (.int .i64 (0 : Int)))), (45, (.lit (.int .i64 (w : Int)))), (46, (.lit (.int .i64 (x : Int))))], [(7000, .mps L), (13000, .box [pA x, .own 13002]), (13002, .row 5 (.int .u8) true (byI (List.replicate x 46)))]⟩) (fun x => x ≤ w) (fun x => w - x) (0) ?_ ?_
       · refine ⟨Nat.zero_le _, ?_⟩
         refine subF.ok ?_ <;> (conv => whnf) <;> repeat' (first
 | exact trivial
 | (with_reducible rfl)
 | ((with_reducible refine And.intro ?_ ?_) <;> conv => whnf)
 | omega
 | rfl
 | (refine congrArg (SV.arr _) ?_)
 | (refine congrArg (Value.int _) ?_)
 | (refine congrArg Value.bool ?_))
       · rintro x hx
         cases x with
         | zero =>
          have c4 := write_m (A := .lit (.pointer none)) (l := byI (List.replicate 0 46)) (c := 46) (.inl rfl) (by decide) (by decide)
          rw [byI_dot] at c4
          have q : (0 : Int) = 0 ∧ (0 : Int) = 0 ∧ SpotR ((0 : Nat) : Int) := ⟨rfl, rfl, by decide, by decide⟩
          repeat' (first
 | refine W.seq ?_
 | refine W.block ?_
 | (refine W.regionM (id := 18) tys_ok [] [0] ?_; conv => whnf)
 | (refine W.region tys_ok [] ?_; conv => whnf)
 | (refine W.drawAll tys_ok [] mixed rfl ?_; conv => whnf)
 | (refine W.ret ?_; conv => whnf)
 | (refine W.skip ?_; conv => whnf)
 | (refine W.exit ?_; conv => whnf)
 | (refine callM_at (c4) ?_; conv => whnf)
 | (refine W.cond rfl (fun hb => ?_) (fun hb => ?_) <;> (try simp only [zr, zd, zm, minL, maxL, pickB, zA] at hb) <;> (try (first | (cases hb; done) | exact absurd hb (by decide) | (exfalso; omega) | (omega) | ((exact absurd (hA 0 (by omega)) hb)))))
 | (refine Or.inl (And.intro trivial ?_); (conv => whnf))
 | ((with_reducible refine And.intro ?_ ?_); exact zc; conv => whnf)
 | ((with_reducible refine And.intro (Side.out ?_) ?_); rotate_left; (conv => whnf))
 | ((first | refine retM1 ?_ | refine retM2 ?_) <;> (conv => whnf) <;> repeat' (first
 | exact trivial
 | (with_reducible rfl)
 | ((with_reducible refine And.intro ?_ ?_) <;> conv => whnf)
 | omega
 | rfl
 | (refine congrArg (SV.arr _) ?_)
 | (refine congrArg (Value.int _) ?_)
 | (refine congrArg Value.bool ?_)))); all_goals (try unfold Side)
          all_goals try (repeat' (first | exact zb | with_reducible refine And.intro ?_ ?_))
          all_goals first | exact Path.imp_of q | skip
          refine ⟨1, ⟨by omega, by omega⟩, ?_⟩
          refine subF.ok ?_ <;> (conv => whnf) <;> repeat' (first
 | exact trivial
 | (with_reducible rfl)
 | ((with_reducible refine And.intro ?_ ?_) <;> conv => whnf)
 | omega
 | rfl
 | (refine congrArg (SV.arr _) ?_)
 | (refine congrArg (Value.int _) ?_)
 | (refine congrArg Value.bool ?_))
          all_goals first | rfl | skip
         | succ x =>
          have c4 := write_m (A := .padr 1000000000 0) (l := byI (List.replicate (x + 1) 46)) (c := 46) (.inr rfl) (by decide) (by rw [byI_len]; omega)
          rw [byI_dot] at c4
          by_cases hxw : x + 1 < w
          · have q : (0 : Int) = 0 ∧ (0 : Int) = 0 ∧ SpotR ((x + 1 : Nat) : Int) := ⟨rfl, rfl, by omega, by omega⟩
            repeat' (first
 | refine W.seq ?_
 | refine W.block ?_
 | (refine W.regionM (id := 18) tys_ok [] [0] ?_; conv => whnf)
 | (refine W.region tys_ok [] ?_; conv => whnf)
 | (refine W.drawAll tys_ok [] mixed rfl ?_; conv => whnf)
 | (refine W.ret ?_; conv => whnf)
 | (refine W.skip ?_; conv => whnf)
 | (refine W.exit ?_; conv => whnf)
 | (refine callM_at (c4) ?_; conv => whnf)
 | (refine W.cond rfl (fun hb => ?_) (fun hb => ?_) <;> (try simp only [zr, zd, zm, minL, maxL, pickB, zA] at hb) <;> (try (first | (cases hb; done) | exact absurd hb (by decide) | (exfalso; omega) | (omega) | ((exact absurd (hA _ hxw) hb)))))
 | (refine Or.inl (And.intro trivial ?_); (conv => whnf))
 | ((with_reducible refine And.intro ?_ ?_); exact zc; conv => whnf)
 | ((with_reducible refine And.intro (Side.out ?_) ?_); rotate_left; (conv => whnf))
 | ((first | refine retM1 ?_ | refine retM2 ?_) <;> (conv => whnf) <;> repeat' (first
 | exact trivial
 | (with_reducible rfl)
 | ((with_reducible refine And.intro ?_ ?_) <;> conv => whnf)
 | omega
 | rfl
 | (refine congrArg (SV.arr _) ?_)
 | (refine congrArg (Value.int _) ?_)
 | (refine congrArg Value.bool ?_)))); all_goals (try unfold Side)
            all_goals try (repeat' (first | exact zb | with_reducible refine And.intro ?_ ?_))
            all_goals first | exact Path.imp_of q | skip
            refine ⟨x + 1 + 1, ⟨by omega, by omega⟩, ?_⟩
            refine subF.ok ?_ <;> (conv => whnf) <;> repeat' (first
 | exact trivial
 | (with_reducible rfl)
 | ((with_reducible refine And.intro ?_ ?_) <;> conv => whnf)
 | omega
 | rfl
 | (refine congrArg (SV.arr _) ?_)
 | (refine congrArg (Value.int _) ?_)
 | (refine congrArg Value.bool ?_))
            all_goals first | rfl | skip
          · obtain rfl : w = x + 1 := by omega
            repeat' (first
 | refine W.seq ?_
 | refine W.block ?_
 | (refine W.regionM (id := 21) tys_ok [] [1] ?_; conv => whnf)
 | (refine W.region tys_ok [] ?_; conv => whnf)
 | (refine W.drawAll tys_ok [] mixed rfl ?_; conv => whnf)
 | (refine W.ret ?_; conv => whnf)
 | (refine W.skip ?_; conv => whnf)
 | (refine W.exit ?_; conv => whnf)
 | (refine callM_at (c3) ?_; conv => whnf)
 | (refine W.cond rfl (fun hb => ?_) (fun hb => ?_) <;> (try simp only [zr, zd, zm, minL, maxL, pickB, zA] at hb) <;> (try (first | (cases hb; done) | exact absurd hb (by decide) | (exfalso; omega) | (omega))))
 | (refine Or.inl (And.intro trivial ?_); (conv => whnf))
 | ((with_reducible refine And.intro ?_ ?_); exact zc; conv => whnf)
 | ((with_reducible refine And.intro (Side.out ?_) ?_); rotate_left; (conv => whnf))
 | ((first | refine retM1 ?_ | refine retM2 ?_) <;> (conv => whnf) <;> repeat' (first
 | exact trivial
 | (with_reducible rfl)
 | ((with_reducible refine And.intro ?_ ?_) <;> conv => whnf)
 | omega
 | rfl
 | (refine congrArg (SV.arr _) ?_)
 | (refine congrArg (Value.int _) ?_)
 | (refine congrArg Value.bool ?_)))); all_goals (try unfold Side)
            all_goals try (repeat' (first | exact zb | with_reducible refine And.intro ?_ ?_))
            all_goals first | exact Nat.le_of_ble_eq_true rfl | skip
            refine ⟨true, ⟨trivial, by decide⟩, ?_⟩
            refine subF.ok ?_ <;> (conv => whnf) <;> repeat' (first
 | exact trivial
 | (with_reducible rfl)
 | ((with_reducible refine And.intro ?_ ?_) <;> conv => whnf)
 | omega
 | rfl
 | (refine congrArg (SV.arr _) ?_)
 | (refine congrArg (Value.int _) ?_)
 | (refine congrArg Value.bool ?_))
            all_goals first | exact congrArg (fun z : ByteArray => [z]) hd.symm | skip
   | true =>
    repeat' (first
 | refine W.seq ?_
 | refine W.block ?_
 | (refine W.region tys_ok [] ?_; conv => whnf)
 | (refine W.drawAll tys_ok [] mixed rfl ?_; conv => whnf)
 | (refine W.ret ?_; conv => whnf)
 | (refine W.skip ?_; conv => whnf)
 | (refine W.exit ?_; conv => whnf)
 | (refine W.cond rfl (fun hb => ?_) (fun hb => ?_) <;> (try simp only [zr, zd, zm, minL, maxL, pickB, zA] at hb) <;> (try (first | (cases hb; done) | exact absurd hb (by decide) | (exfalso; omega) | (omega))))
 | ((with_reducible refine And.intro ?_ ?_); exact zc; conv => whnf)
 | ((with_reducible refine And.intro (Side.out ?_) ?_); rotate_left; (conv => whnf))
 | ((first | refine retM1 ?_ | refine retM2 ?_) <;> (conv => whnf) <;> repeat' (first
 | exact trivial
 | (with_reducible rfl)
 | ((with_reducible refine And.intro ?_ ?_) <;> conv => whnf)
 | omega
 | rfl
 | (refine congrArg (SV.arr _) ?_)
 | (refine congrArg (Value.int _) ?_)
 | (refine congrArg Value.bool ?_)))); all_goals (try unfold Side)
    all_goals try (repeat' (first | exact zb | with_reducible refine And.intro ?_ ?_))
    done
end Go.Proofs.YtckmhlpngolbpaaDoor
namespace Go.Sh
abbrev Jb := Int × Int × Int × Int × Unit
abbrev Od := Int × Int × Unit
@[reducible] def J0 : Jb := (0, 0, 0, 0, ())
@[reducible] def O0 : Od := (0, 0, ())
def jf (l : List Jb) (i : Nat) : Int := (l.getD i J0).1
def jt (l : List Jb) (i : Nat) : Int := (l.getD i J0).2.1
def jl (l : List Jb) (i : Nat) : Int := (l.getD i J0).2.2.1
def jp (l : List Jb) (i : Nat) : Int := (l.getD i J0).2.2.2.1
def sumZ (f : Nat → Int) : Nat → Int
 | 0 => 0
 | k + 1 => sumZ f k + f k
theorem sumZ_congr {f g : Nat → Int} : ∀ {k : Nat}, (∀ i, i < k → f i = g i) → sumZ f k = sumZ g k
 | 0, _ => rfl
 | k + 1, h => by rw [sumZ, sumZ, sumZ_congr fun i hi => h i (by omega), h k (by omega)]
theorem sumZ_le {f g : Nat → Int} : ∀ {k : Nat}, (∀ i, i < k → f i ≤ g i) → sumZ f k ≤ sumZ g k
 | 0, _ => Int.le_refl _
 | k + 1, h => by
  rw [sumZ, sumZ]
  have := sumZ_le (f := f) (g := g) (k := k) fun i hi => h i (by omega)
  have := h k (by omega)
  omega
theorem sumZ_add {f g : Nat → Int} : ∀ {k : Nat}, sumZ (fun i => f i + g i) k = sumZ f k + sumZ g k
 | 0 => rfl
 | k + 1 => by rw [sumZ, sumZ, sumZ, sumZ_add]; omega
theorem sumZ_zero : ∀ {k : Nat}, sumZ (fun _ => 0) k = 0
 | 0 => rfl
 | k + 1 => by rw [sumZ, sumZ_zero]; rfl
theorem sumZ_swap {f : Nat → Nat → Int} {m : Nat} : ∀ {k : Nat}, sumZ (fun i => sumZ (fun j => f i j) m) k = sumZ (fun j => sumZ (fun i => f i j) k) m
 | 0 => sumZ_zero.symm
 | k + 1 => by rw [sumZ, sumZ_swap, ← sumZ_add]; rfl
theorem sumZ_const {c : Int} : ∀ {k : Nat}, sumZ (fun _ => c) k = c * k
 | 0 => by simp [sumZ]
 | k + 1 => by
  rw [sumZ, sumZ_const]
  rw [show ((k + 1 : Nat) : Int) = (k : Int) + 1 by omega, Int.mul_add, Int.mul_one]
theorem sumZ_mul {c : Int} {f : Nat → Int} : ∀ {k : Nat}, sumZ (fun i => c * f i) k = c * sumZ f k
 | 0 => by simp [sumZ]
 | k + 1 => by rw [sumZ, sumZ, sumZ_mul, Int.mul_add]
def ndT (f t n a b : Int) : Int := min n (min (b - a) (min (max 0 (f + n - a)) (max 0 (b - t + n))))
def needT (l : List Jb) (i : Nat) (a b : Int) : Int := jp l i * ndT (jf l i) (jt l i) (jl l i) a b
def needsT (l : List Jb) (a b : Int) : Int := sumZ (fun i => needT l i a b) l.length
def onT (x n t : Int) : Int := if x ≤ t ∧ t < x + n then 1 else 0
def loadT (l : List Jb) (s : List Int) (t : Int) : Int := sumZ (fun i => jp l i * onT (s.getD i 0) (jl l i) t) s.length
structure Fit (P : Int) (l : List Jb) (os : List Od) (s : List Int) : Prop where
 len : s.length = l.length
 rg : ∀ i, i < l.length → jf l i ≤ s.getD i 0 ∧ s.getD i 0 ≤ jt l i - jl l i
 load : ∀ t : Nat, t < 24 → loadT l s t ≤ P
 ord : ∀ o ∈ os, s.getD o.1.toNat 0 + jl l o.1.toNat ≤ s.getD o.2.1.toNat 0
theorem on_sum {x n a : Int} (hn : 0 ≤ n) : ∀ {k : Nat}, sumZ (fun i => onT x n (a + (i : Int))) k = max 0 (min (x + n) (a + (k : Int)) - max x a)
 | 0 => by simp only [sumZ]; omega
 | k + 1 => by
  rw [sumZ, on_sum hn]
  unfold onT
  split <;> omega
theorem nd_le {f t n x a : Int} {k : Nat} (hn : 0 ≤ n) (h0 : f ≤ x) (h1 : x ≤ t - n) : ndT f t n a (a + k) ≤ sumZ (fun i => onT x n (a + (i : Int))) k := by
 rw [on_sum hn]
 unfold ndT
 omega
theorem needs_le {P : Int} {l : List Jb} {os : List Od} {s : List Int} (h : Fit P l os s) (hp : ∀ i, i < l.length → 0 ≤ jp l i ∧ 0 ≤ jl l i) {a k : Nat} : needsT l a ((a : Int) + k) ≤ sumZ (fun i => loadT l s ((a : Int) + (i : Int))) k := by
 unfold needsT loadT
 rw [sumZ_swap, h.len]
 refine sumZ_le fun i hi => ?_
 rw [sumZ_mul]
 unfold needT
 exact Int.mul_le_mul_of_nonneg_left (nd_le (hp i hi).2 (h.rg i hi).1 (h.rg i hi).2) (hp i hi).1
theorem over_none {P : Int} {l : List Jb} {os : List Od} {s : List Int} (h : Fit P l os s) (hp : ∀ i, i < l.length → 0 ≤ jp l i ∧ 0 ≤ jl l i) {a b : Nat} (hab : a ≤ b) (hb : b ≤ 24) : needsT l a b ≤ P * ((b : Int) - a) := by
 obtain ⟨k, rfl⟩ : ∃ k, b = a + k := ⟨b - a, by omega⟩
 have h1 := needs_le h hp (a := a) (k := k)
 have h2 : sumZ (fun i => loadT l s ((a : Int) + (i : Int))) k ≤ sumZ (fun _ => P) k := sumZ_le fun i hi => by
  have := h.load (a + i) (by omega)
  rwa [show ((a + i : Nat) : Int) = (a : Int) + i by omega] at this
 rw [sumZ_const] at h2
 rw [show ((a + k : Nat) : Int) = (a : Int) + k by omega, show (a : Int) + k - a = k by omega]
 omega
def lateT (l : List Jb) (o : Od) : Bool := decide (jt l o.2.1.toNat - jl l o.2.1.toNat < jf l o.1.toNat + jl l o.1.toNat)
theorem late_none {P : Int} {l : List Jb} {os : List Od} {s : List Int} (h : Fit P l os s) {o : Od} (ho : o ∈ os) (h1 : o.1.toNat < l.length) (h2 : o.2.1.toNat < l.length) : lateT l o = false := by
 unfold lateT
 rw [decide_eq_false]
 have := h.ord o ho
 have := h.rg _ h1
 have := h.rg _ h2
 omega
def overB (P : Int) (l : List Jb) : Bool := (List.range 24).any fun a => (List.range 25).any fun b => decide (a < b) && decide (P * ((b : Int) - a) < needsT l a b)
def badB (P : Int) (l : List Jb) (os : List Od) : Bool := overB P l || os.any (lateT l)
def fixT (l : List Jb) (i : Nat) (x : Int) : List Jb := l.set i (x, x + jl l i, jl l i, jp l i, ())
def tryK (f : Nat → Option (List Int)) : Nat → Option (List Int)
 | 0 => none
 | k + 1 => match tryK f k with
  | some r => some r
  | none => f k
theorem tryK_none {f : Nat → Option (List Int)} : ∀ {k : Nat}, tryK f k = none → ∀ d, d < k → f d = none
 | 0, _, d, hd => by omega
 | k + 1, h, d, hd => by
  rw [tryK] at h
  split at h
  · cases h
  · rename_i h2
    by_cases e : d = k
    · subst e; exact h
    · exact tryK_none h2 d (by omega)
theorem tryK_of {f : Nat → Option (List Int)} : ∀ {k : Nat}, (∀ d, d < k → f d = none) → tryK f k = none
 | 0, _ => rfl
 | k + 1, h => by rw [tryK, tryK_of fun d hd => h d (by omega)]; exact h k (by omega)
theorem tryK_some {f : Nat → Option (List Int)} {r : List Int} : ∀ {k : Nat}, tryK f k = some r → ∃ d, d < k ∧ f d = some r ∧ ∀ e, e < d → f e = none
 | 0, h => by cases h
 | k + 1, h => by
  rw [tryK] at h
  split at h
  · rename_i r' h2
    cases h
    obtain ⟨d, h3, h4⟩ := tryK_some h2
    exact ⟨d, by omega, h4⟩
  · rename_i h2
    exact ⟨k, by omega, h, tryK_none h2⟩
theorem tryK_hit {f : Nat → Option (List Int)} {r : List Int} {d : Nat} (h0 : f d = some r) (h1 : ∀ e, e < d → f e = none) : ∀ {k : Nat}, d < k → tryK f k = some r
 | 0, h => by omega
 | k + 1, h => by
  rw [tryK]
  by_cases e : d = k
  · subst e; rw [tryK_of h1]; exact h0
  · rw [tryK_hit h0 h1 (by omega)]
def growT (P : Int) (os : List Od) : Nat → List Jb → Nat → Option (List Int)
 | 0, l, i => if badB P l os = true then none else some (l.map (·.1))
 | k + 1, l, i => if badB P l os = true then none else tryK (fun d => growT P os k (fixT l i (jf l i + d)) (i + 1)) (jt l i - jl l i - jf l i + 1).toNat
structure Pre (l : List Jb) (os : List Od) (i : Nat) : Prop where
 fx : ∀ m, m < i → m < l.length → jt l m = jf l m + jl l m
 rg : ∀ m, m < l.length → 0 ≤ jf l m ∧ jf l m ≤ jt l m - jl l m ∧ jt l m ≤ 24 ∧ 1 ≤ jl l m ∧ 1 ≤ jp l m
 od : ∀ o ∈ os, (o.1.toNat < l.length ∧ 0 ≤ o.1) ∧ (o.2.1.toNat < l.length ∧ 0 ≤ o.2.1)
theorem fix_len {l : List Jb} {i : Nat} {x : Int} : (fixT l i x).length = l.length := by simp [fixT]
theorem fix_get {l : List Jb} {i m : Nat} {x : Int} (hi : i < l.length) : (fixT l i x).getD m J0 = if m = i then (x, x + jl l i, jl l i, jp l i, ()) else l.getD m J0 := by
 unfold fixT
 rw [List.getD_eq_getElem?_getD, List.getElem?_set, List.getD_eq_getElem?_getD]
 by_cases e : i = m
 · subst e; simp [hi]
 · rw [if_neg e, if_neg (fun h => e h.symm)]
theorem fix_f {l : List Jb} {i m : Nat} {x : Int} (hi : i < l.length) : jf (fixT l i x) m = if m = i then x else jf l m := by
 unfold jf; rw [fix_get hi]; split <;> rfl
theorem fix_t {l : List Jb} {i m : Nat} {x : Int} (hi : i < l.length) : jt (fixT l i x) m = if m = i then x + jl l i else jt l m := by
 unfold jt; rw [fix_get hi]; split <;> rfl
theorem fix_l {l : List Jb} {i m : Nat} {x : Int} (hi : i < l.length) : jl (fixT l i x) m = jl l m := by
 by_cases e : m = i
 · subst e
   have : (fixT l m x).getD m J0 = _ := fix_get hi
   rw [if_pos rfl] at this
   unfold jl at this ⊢; rw [this]
 · unfold jl; rw [fix_get hi, if_neg e]
theorem fix_p {l : List Jb} {i m : Nat} {x : Int} (hi : i < l.length) : jp (fixT l i x) m = jp l m := by
 by_cases e : m = i
 · subst e
   have : (fixT l m x).getD m J0 = _ := fix_get hi
   rw [if_pos rfl] at this
   unfold jp at this ⊢; rw [this]
 · unfold jp; rw [fix_get hi, if_neg e]
theorem fix_pre {l : List Jb} {os : List Od} {i : Nat} {x : Int} (h : Pre l os i) (hi : i < l.length) (h0 : jf l i ≤ x) (h1 : x ≤ jt l i - jl l i) : Pre (fixT l i x) os (i + 1) := by
 refine ⟨fun m hm hml => ?_, fun m hm => ?_, fun o ho => ?_⟩
 · rw [fix_t hi, fix_f hi, fix_l hi]
   by_cases e : m = i
   · subst e; rw [if_pos rfl, if_pos rfl]
   · rw [if_neg e, if_neg e]; exact h.fx m (by omega) (by rwa [fix_len] at hml)
 · rw [fix_len] at hm
   have := h.rg m hm
   rw [fix_t hi, fix_f hi, fix_l hi, fix_p hi]
   by_cases e : m = i
   · subst e; rw [if_pos rfl, if_pos rfl]; omega
   · rw [if_neg e, if_neg e]; exact this
 · rw [fix_len]; exact h.od o ho
theorem load_fix {l : List Jb} {i : Nat} {x : Int} {s : List Int} {t : Int} (hi : i < l.length) : loadT (fixT l i x) s t = loadT l s t :=
 sumZ_congr fun m _ => by rw [fix_p hi, fix_l hi]
theorem fit_fix {P : Int} {l : List Jb} {os : List Od} {s : List Int} {i : Nat} (h : Fit P l os s) (hi : i < l.length) : Fit P (fixT l i (s.getD i 0)) os s := by
 refine ⟨by rw [fix_len]; exact h.len, fun m hm => ?_, fun t ht => by rw [load_fix hi]; exact h.load t ht, fun o ho => by rw [fix_l hi]; exact h.ord o ho⟩
 rw [fix_len] at hm
 rw [fix_f hi, fix_t hi, fix_l hi]
 by_cases e : m = i
 · subst e; rw [if_pos rfl, if_pos rfl]; omega
 · rw [if_neg e, if_neg e]; exact h.rg m hm
theorem fit_of_fix {P : Int} {l : List Jb} {os : List Od} {s : List Int} {i : Nat} {x : Int} (h : Fit P (fixT l i x) os s) (hi : i < l.length) (h0 : jf l i ≤ x) (h1 : x ≤ jt l i - jl l i) : Fit P l os s ∧ s.getD i 0 = x := by
 have hx : s.getD i 0 = x := by
  have := h.rg i (by rw [fix_len]; exact hi)
  rw [fix_f hi, fix_t hi, fix_l hi, if_pos rfl, if_pos rfl] at this
  omega
 refine ⟨⟨by have := h.len; rwa [fix_len] at this, fun m hm => ?_, fun t ht => by have := h.load t ht; rwa [load_fix hi] at this, fun o ho => by have := h.ord o ho; rwa [fix_l hi] at this⟩, hx⟩
 have := h.rg m (by rw [fix_len]; exact hm)
 rw [fix_f hi, fix_t hi, fix_l hi] at this
 by_cases e : m = i
 · subst e; omega
 · rw [if_neg e, if_neg e] at this; exact this
def lexle (s r : List Int) : Prop := s = r ∨ ∃ i, i < s.length ∧ (∀ j, j < i → s.getD j 0 = r.getD j 0) ∧ s.getD i 0 < r.getD i 0
theorem ext_get {s r : List Int} (hl : s.length = r.length) (h : ∀ i, i < s.length → s.getD i 0 = r.getD i 0) : s = r := by
 refine List.ext_getElem hl fun i h1 h2 => ?_
 have := h i h1
 simpa [List.getD_eq_getElem?_getD, h1, h2] using this
theorem bad_none {P : Int} {l : List Jb} {os : List Od} {i : Nat} (hp : Pre l os i) (hb : badB P l os = true) {s : List Int} (h : Fit P l os s) : False := by
 unfold badB at hb
 rw [Bool.or_eq_true] at hb
 rcases hb with hb | hb
 · unfold overB at hb
   obtain ⟨a, ha, hb⟩ := List.any_eq_true.1 hb
   obtain ⟨b, hb1, hb⟩ := List.any_eq_true.1 hb
   rw [List.mem_range] at ha hb1
   rw [Bool.and_eq_true, decide_eq_true_eq, decide_eq_true_eq] at hb
   have := over_none h (fun m hm => by have := hp.rg m hm; omega) (a := a) (b := b) (by omega) (by omega)
   omega
 · obtain ⟨o, ho, hb⟩ := List.any_eq_true.1 hb
   have := late_none h ho (hp.od o ho).1.1 (hp.od o ho).2.1
   rw [this] at hb; cases hb
theorem map_get {l : List Jb} {i : Nat} : (l.map (·.1)).getD i 0 = jf l i := by
 unfold jf
 rw [List.getD_eq_getElem?_getD, List.getElem?_map, List.getD_eq_getElem?_getD]
 cases l[i]? <;> rfl
theorem fit_fixed {P : Int} {l : List Jb} {os : List Od} (hp : Pre l os l.length) (hb : badB P l os = false) : Fit P l os (l.map (·.1)) := by
 unfold badB at hb
 rw [Bool.or_eq_false_iff] at hb
 refine ⟨by simp, fun i hi => ?_, fun t ht => ?_, fun o ho => ?_⟩
 · rw [map_get]; have := hp.rg i hi; omega
 · have h1 := List.any_eq_false.1 hb.1 t (List.mem_range.2 ht)
   rw [Bool.not_eq_true] at h1
   have h2 := List.any_eq_false.1 h1 (t + 1) (List.mem_range.2 (by omega))
   rw [Bool.and_eq_true, decide_eq_true_eq, decide_eq_true_eq] at h2
   have h3 : needsT l t ((t + 1 : Nat) : Int) ≤ P := by
    have : ¬ P * (((t + 1 : Nat) : Int) - (t : Int)) < needsT l t ((t + 1 : Nat) : Int) := fun g => h2 ⟨by omega, g⟩
    rw [show ((t + 1 : Nat) : Int) - (t : Int) = 1 by omega, Int.mul_one] at this
    omega
   refine Int.le_trans (Int.le_of_eq ?_) h3
   unfold loadT needsT
   rw [List.length_map]
   refine sumZ_congr fun i hi => ?_
   have h4 := hp.rg i hi
   have h5 := hp.fx i hi hi
   rw [map_get]
   unfold needT
   congr 1
   unfold ndT onT
   split <;> omega
 · rw [map_get, map_get]
   have h1 := List.any_eq_false.1 hb.2 o ho
   unfold lateT at h1
   rw [decide_eq_true_eq] at h1
   have h2 := hp.fx _ (hp.od o ho).2.1 (hp.od o ho).2.1
   omega
theorem growT_ok {P : Int} {os : List Od} : ∀ {k : Nat} {l : List Jb} {i : Nat}, k + i = l.length → Pre l os i →
  match growT P os k l i with
  | none => ∀ s, ¬ Fit P l os s
  | some r => Fit P l os r ∧ ∀ s, Fit P l os s → lexle r s
 | 0, l, i, hk, hp => by
  have hk : i = l.length := by omega
  subst hk
  unfold growT
  cases hb : badB P l os with
  | true => rw [if_pos rfl]; exact fun s hs => bad_none hp hb hs
  | false =>
   rw [if_neg (by decide)]
   refine ⟨fit_fixed hp hb, fun s hs => .inl (ext_get (by rw [hs.len]; simp) fun i hi => ?_)⟩
   rw [map_get]
   rw [List.length_map] at hi
   have := hs.rg i hi
   have := hp.fx i hi hi
   omega
 | k + 1, l, i, hk, hp => by
  have hi : i < l.length := by omega
  unfold growT
  cases hb : badB P l os with
  | true => rw [if_pos rfl]; exact fun s hs => bad_none hp hb hs
  | false =>
   rw [if_neg (by decide)]
   have hr := hp.rg i hi
   have key : ∀ d, d < (jt l i - jl l i - jf l i + 1).toNat → _ := fun d hd => growT_ok (P := P) (os := os) (k := k) (l := fixT l i (jf l i + d)) (i := i + 1) (by rw [fix_len]; omega) (fix_pre hp hi (by omega) (by omega))
   have none_at : ∀ d, d < (jt l i - jl l i - jf l i + 1).toNat → growT P os k (fixT l i (jf l i + d)) (i + 1) = none → ∀ s, Fit P l os s → s.getD i 0 ≠ jf l i + d := fun d hd hn s hs e => by
    have h1 := key d hd
    rw [hn] at h1
    have h2 := fit_fix hs hi
    rw [e] at h2
    exact h1 s h2
   cases ht : tryK (fun d => growT P os k (fixT l i (jf l i + d)) (i + 1)) (jt l i - jl l i - jf l i + 1).toNat with
   | none =>
    intro s hs
    have h1 := hs.rg i hi
    refine none_at (s.getD i 0 - jf l i).toNat (by omega) (tryK_none ht _ (by omega)) s hs (by omega)
   | some r =>
    obtain ⟨d, hd, h1, h2⟩ := tryK_some ht
    have h3 := key d hd
    rw [h1] at h3
    obtain ⟨h4, h5⟩ := h3
    obtain ⟨h6, h7⟩ := fit_of_fix h4 hi (by omega) (by omega)
    refine ⟨h6, fun s hs => ?_⟩
    have h8 := hs.rg i hi
    by_cases e1 : s.getD i 0 < jf l i + d
    · exact absurd (by omega) (none_at (s.getD i 0 - jf l i).toNat (by omega) (h2 _ (by omega)) s hs)
    · by_cases e2 : s.getD i 0 = jf l i + d
      · have h9 := fit_fix hs hi
        rw [e2] at h9
        exact h5 s h9
      · refine .inr ⟨i, by rw [h6.len]; exact hi, fun j hj => ?_, by omega⟩
        have g1 := h6.rg j (by omega)
        have g2 := hs.rg j (by omega)
        have g3 := hp.fx j hj (by omega)
        omega
def endK (l : List Jb) (s : List Int) : Nat → Int
 | 0 => 0
 | k + 1 => max (endK l s k) (s.getD k 0 + jl l k)
theorem endK_le {l : List Jb} {s : List Int} {e : Int} : ∀ {k : Nat}, endK l s k ≤ e ↔ 0 ≤ e ∧ ∀ i, i < k → s.getD i 0 + jl l i ≤ e
 | 0 => by simp [endK]
 | k + 1 => by
  rw [endK, Int.max_le, endK_le]
  constructor
  · rintro ⟨⟨h0, h1⟩, h2⟩
    refine ⟨h0, fun i hi => ?_⟩
    by_cases e : i = k
    · subst e; exact h2
    · exact h1 i (by omega)
  · rintro ⟨h0, h1⟩
    exact ⟨⟨h0, fun i hi => h1 i (by omega)⟩, h1 k (by omega)⟩
def endT (l : List Jb) (s : List Int) : Int := endK l s s.length
def cutT (l : List Jb) (e : Int) : List Jb := l.map fun j => (j.1, min j.2.1 e, j.2.2.1, j.2.2.2.1, ())
theorem cut_len {l : List Jb} {e : Int} : (cutT l e).length = l.length := by simp [cutT]
theorem cut_get {l : List Jb} {e : Int} {m : Nat} (hm : m < l.length) : (cutT l e).getD m J0 = (jf l m, min (jt l m) e, jl l m, jp l m, ()) := by
 unfold cutT jf jt jl jp
 rw [List.getD_eq_getElem?_getD, List.getElem?_map, List.getD_eq_getElem?_getD, List.getElem?_eq_getElem hm]; rfl
theorem cut_f {l : List Jb} {e : Int} {m : Nat} (hm : m < l.length) : jf (cutT l e) m = jf l m := by
 have := cut_get (e := e) hm
 generalize (cutT l e).getD m J0 = y at this
 unfold jf at this ⊢; rw [cut_get hm]; rfl
theorem cut_t {l : List Jb} {e : Int} {m : Nat} (hm : m < l.length) : jt (cutT l e) m = min (jt l m) e := by
 show ((cutT l e).getD m J0).2.1 = _
 rw [cut_get hm]
theorem cut_l {l : List Jb} {e : Int} {m : Nat} : jl (cutT l e) m = jl l m := by
 by_cases hm : m < l.length
 · show ((cutT l e).getD m J0).2.2.1 = _
   rw [cut_get hm]
 · unfold jl
   rw [List.getD_eq_getElem?_getD, List.getD_eq_getElem?_getD, List.getElem?_eq_none (by rw [cut_len]; omega), List.getElem?_eq_none (by omega)]
theorem cut_p {l : List Jb} {e : Int} {m : Nat} : jp (cutT l e) m = jp l m := by
 by_cases hm : m < l.length
 · show ((cutT l e).getD m J0).2.2.2.1 = _
   rw [cut_get hm]
 · unfold jp
   rw [List.getD_eq_getElem?_getD, List.getD_eq_getElem?_getD, List.getElem?_eq_none (by rw [cut_len]; omega), List.getElem?_eq_none (by omega)]
theorem cut_fit {P : Int} {l : List Jb} {os : List Od} {s : List Int} {e : Int} (h0 : 0 ≤ e) : Fit P (cutT l e) os s ↔ Fit P l os s ∧ endT l s ≤ e := by
 have hl : ∀ t, loadT (cutT l e) s t = loadT l s t := fun t => sumZ_congr fun m _ => by rw [cut_p, cut_l]
 unfold endT
 rw [endK_le]
 constructor
 · intro h
   have hn : s.length = l.length := by rw [h.len, cut_len]
   refine ⟨⟨hn, fun i hi => ?_, fun t ht => by rw [← hl]; exact h.load t ht, fun o ho => by have := h.ord o ho; rwa [cut_l] at this⟩, h0, fun i hi => ?_⟩
   · have := h.rg i (by rw [cut_len]; exact hi)
     rw [cut_f hi, cut_t hi, cut_l] at this
     omega
   · rw [hn] at hi
     have := h.rg i (by rw [cut_len]; exact hi)
     rw [cut_f hi, cut_t hi, cut_l] at this
     omega
 · rintro ⟨h, _, he⟩
   refine ⟨by rw [cut_len]; exact h.len, fun i hi => ?_, fun t ht => by rw [hl]; exact h.load t ht, fun o ho => by rw [cut_l]; exact h.ord o ho⟩
   rw [cut_len] at hi
   rw [cut_f hi, cut_t hi, cut_l]
   have h1 := h.rg i hi
   have h2 := he i (by rw [h.len]; exact hi)
   omega
def okE (l : List Jb) (e : Int) : Prop := ∀ i, i < l.length → jf l i + jl l i ≤ min (jt l i) e
theorem cut_pre {l : List Jb} {os : List Od} {e : Int} (h : Pre l os 0) (he : okE l e) : Pre (cutT l e) os 0 := by
 refine ⟨fun m hm => by omega, fun m hm => ?_, fun o ho => by rw [cut_len]; exact h.od o ho⟩
 rw [cut_len] at hm
 rw [cut_f hm, cut_t hm, cut_l, cut_p]
 have h1 := h.rg m hm
 have h2 := he m hm
 omega
theorem okE_of {P : Int} {l : List Jb} {os : List Od} {s : List Int} {e : Int} (h : Fit P l os s) (he : endT l s ≤ e) : okE l e := fun i hi => by
 have h1 := h.rg i hi
 have h2 := (endK_le.1 he).2 i (by rw [h.len]; exact hi)
 omega
noncomputable def atE (P : Int) (l : List Jb) (os : List Od) (e : Int) : Option (List Int) :=
 open Classical in if okE l e then growT P os l.length (cutT l e) 0 else none
noncomputable def shortK (P : Int) (l : List Jb) (os : List Od) : Nat → Option (Nat × List Int)
 | 0 => none
 | k + 1 => match shortK P l os k with
  | some r => some r
  | none => (atE P l os ((k + 1 : Nat) : Int)).map fun r => (k + 1, r)
theorem atE_no {P : Int} {l : List Jb} {os : List Od} {e : Int} (h : ¬ okE l e) : atE P l os e = none := by unfold atE; rw [if_neg h]
theorem atE_ok {P : Int} {l : List Jb} {os : List Od} {e : Int} (h : okE l e) : atE P l os e = growT P os l.length (cutT l e) 0 := by unfold atE; rw [if_pos h]
theorem atE_spec {P : Int} {l : List Jb} {os : List Od} {e : Int} (hp : Pre l os 0) (h0 : 0 ≤ e) : match atE P l os e with
  | none => ∀ s, Fit P l os s → ¬ endT l s ≤ e
  | some r => Fit P l os r ∧ endT l r ≤ e ∧ ∀ s, Fit P l os s → endT l s ≤ e → lexle r s := by
 by_cases hk : okE l e
 · rw [atE_ok hk]
   have := growT_ok (P := P) (os := os) (k := l.length) (l := cutT l e) (i := 0) (by rw [cut_len]; rfl) (cut_pre hp hk)
   cases hg : growT P os l.length (cutT l e) 0 with
   | none =>
    rw [hg] at this
    exact fun s hs he => this s ((cut_fit h0).2 ⟨hs, he⟩)
   | some r =>
    rw [hg] at this
    obtain ⟨h1, h2⟩ := (cut_fit h0).1 this.1
    exact ⟨h1, h2, fun s hs he => this.2 s ((cut_fit h0).2 ⟨hs, he⟩)⟩
 · rw [atE_no hk]
   exact fun s hs he => hk (okE_of hs he)
theorem shortK_none {P : Int} {l : List Jb} {os : List Od} : ∀ {k : Nat}, shortK P l os k = none → ∀ e : Nat, 1 ≤ e → e ≤ k → atE P l os (e : Int) = none
 | 0, _, e, h1, h2 => by omega
 | k + 1, h, e, h1, h2 => by
  rw [shortK] at h
  split at h
  · cases h
  · rename_i h3
    by_cases g : e = k + 1
    · subst g; exact Option.map_eq_none_iff.1 h
    · exact shortK_none h3 e h1 (by omega)
theorem shortK_some {P : Int} {l : List Jb} {os : List Od} {e : Nat} {r : List Int} : ∀ {k : Nat}, shortK P l os k = some (e, r) → 1 ≤ e ∧ e ≤ k ∧ atE P l os (e : Int) = some r ∧ ∀ d : Nat, 1 ≤ d → d < e → atE P l os (d : Int) = none
 | 0, h => by cases h
 | k + 1, h => by
  rw [shortK] at h
  split at h
  · rename_i r' h2
    cases h
    obtain ⟨h3, h4, h5⟩ := shortK_some h2
    exact ⟨h3, by omega, h5⟩
  · rename_i h2
    obtain ⟨r', h3, h4⟩ := Option.map_eq_some_iff.1 h
    cases h4
    exact ⟨by omega, by omega, h3, fun d h5 h6 => shortK_none h2 d h5 (by omega)⟩
theorem end_pos {P : Int} {l : List Jb} {os : List Od} {s : List Int} (hp : Pre l os 0) (h : Fit P l os s) (hl : 1 ≤ l.length) : 1 ≤ endT l s ∧ endT l s ≤ 24 := by
 constructor
 · refine Classical.byContradiction fun hn => ?_
   have h1 := (endK_le (e := 0)).1 (show endK l s s.length ≤ 0 by unfold endT at hn; omega)
   have h2 := h1.2 0 (by rw [h.len]; omega)
   have h3 := h.rg 0 (by omega)
   have h4 := hp.rg 0 (by omega)
   omega
 · refine endK_le.2 ⟨by omega, fun i hi => ?_⟩
   rw [h.len] at hi
   have h3 := h.rg i hi
   have h4 := hp.rg i hi
   omega
theorem short_ok {P : Int} {l : List Jb} {os : List Od} (hp : Pre l os 0) (hl : 1 ≤ l.length) : match shortK P l os 24 with
  | none => ∀ s, ¬ Fit P l os s
  | some (e, r) => Fit P l os r ∧ endT l r = (e : Int) ∧ ∀ s, Fit P l os s → (e : Int) ≤ endT l s ∧ (endT l s = (e : Int) → lexle r s) := by
 have no : ∀ e : Nat, atE P l os (e : Int) = none → ∀ s, Fit P l os s → ¬ endT l s ≤ e := fun e he s hs => by
  have := atE_spec (P := P) (e := (e : Int)) hp (by omega)
  rw [he] at this
  exact this s hs
 cases hk : shortK P l os 24 with
 | none =>
  intro s hs
  have h1 := end_pos hp hs hl
  refine no (endT l s).toNat (shortK_none hk _ (by omega) (by omega)) s hs (by omega)
 | some er =>
  obtain ⟨e, r⟩ := er
  obtain ⟨h1, h2, h3, h4⟩ := shortK_some hk
  have h5 := atE_spec (P := P) (e := (e : Int)) hp (by omega)
  rw [h3] at h5
  obtain ⟨h6, h7, h8⟩ := h5
  have low : ∀ s, Fit P l os s → (e : Int) ≤ endT l s := fun s hs => Classical.byContradiction fun hn => by
   have h9 := end_pos hp hs hl
   exact no (endT l s).toNat (h4 _ (by omega) (by omega)) s hs (by omega)
  exact ⟨h6, Int.le_antisymm h7 (low r h6), fun s hs => ⟨low s hs, fun he => h8 s hs (by omega)⟩⟩
abbrev Nd := Int × Int × Int × Int × Int × Int × Unit
@[reducible] def N0 : Nd := (0, 0, 0, 0, 0, 0, ())
def Nd.kind (x : Nd) : Int := x.1
def Nd.job (x : Nd) : Int := x.2.1
def Nd.a (x : Nd) : Int := x.2.2.1
def Nd.b (x : Nd) : Int := x.2.2.2.1
def Nd.lf (x : Nd) : Int := x.2.2.2.2.1
def Nd.rt (x : Nd) : Int := x.2.2.2.2.2.1
theorem set_get {l : List Jb} {i m : Nat} {y : Jb} (hi : i < l.length) : (l.set i y).getD m J0 = if m = i then y else l.getD m J0 := by
 rw [List.getD_eq_getElem?_getD, List.getElem?_set, List.getD_eq_getElem?_getD]
 by_cases e : i = m
 · subst e; simp [hi]
 · rw [if_neg e, if_neg (fun h => e h.symm)]
theorem set_job {l : List Jb} {i m : Nat} {f t : Int} (hi : i < l.length) : jf (l.set i (f, t, jl l i, jp l i, ())) m = (if m = i then f else jf l m) ∧ jt (l.set i (f, t, jl l i, jp l i, ())) m = (if m = i then t else jt l m) ∧
  jl (l.set i (f, t, jl l i, jp l i, ())) m = jl l m ∧ jp (l.set i (f, t, jl l i, jp l i, ())) m = jp l m := by
 have h := set_get (m := m) (y := (f, t, jl l i, jp l i, ())) hi
 generalize hl' : l.set i (f, t, jl l i, jp l i, ()) = l' at h
 by_cases e : m = i
 · subst e
   rw [if_pos rfl] at h
   refine ⟨?_, ?_, ?_, ?_⟩
   · rw [if_pos rfl]; unfold jf; rw [h]
   · rw [if_pos rfl]; unfold jt; rw [h]
   · show (l'.getD m J0).2.2.1 = _; rw [h]
   · show (l'.getD m J0).2.2.2.1 = _; rw [h]
 · rw [if_neg e] at h
   refine ⟨?_, ?_, ?_, ?_⟩
   · rw [if_neg e]; unfold jf; rw [h]
   · rw [if_neg e]; unfold jt; rw [h]
   · unfold jl; rw [h]
   · unfold jp; rw [h]
structure Prj (l : List Jb) (os : List Od) (n : Nat) : Prop where
 len : l.length = n
 rg : ∀ m, m < l.length → 0 ≤ jl l m ∧ 0 ≤ jp l m
 od : ∀ o ∈ os, o.1.toNat < n ∧ o.2.1.toNat < n
theorem Prj.set {l : List Jb} {os : List Od} {n i : Nat} {f t : Int} (h : Prj l os n) (hi : i < l.length) : Prj (l.set i (f, t, jl l i, jp l i, ())) os n := by
 refine ⟨by simp [h.len], fun m hm => ?_, h.od⟩
 obtain ⟨_, _, e3, e4⟩ := set_job (m := m) (f := f) (t := t) hi
 rw [e3, e4]
 rw [List.length_set] at hm
 exact h.rg m hm
def crowdB (P : Int) (l : List Jb) (x : Nd) : Bool := decide (x.job = 0 ∧ x.lf = 0 ∧ x.rt = 0) && (decide (0 ≤ x.a ∧ x.a < x.b ∧ x.b ≤ 24) && decide (P * (x.b - x.a) < needsT l x.a x.b))
def firstK {α : Type} (f : Nat → Option α) : Nat → Option α
 | 0 => none
 | k + 1 => match firstK f k with
  | some r => some r
  | none => f k
theorem firstK_none {α : Type} {f : Nat → Option α} : ∀ {k : Nat}, firstK f k = none → ∀ d, d < k → f d = none
 | 0, _, d, hd => by omega
 | k + 1, h, d, hd => by
  rw [firstK] at h
  split at h
  · cases h
  · rename_i h2
    by_cases e : d = k
    · subst e; exact h
    · exact firstK_none h2 d (by omega)
theorem firstK_of {α : Type} {f : Nat → Option α} : ∀ {k : Nat}, (∀ d, d < k → f d = none) → firstK f k = none
 | 0, _ => rfl
 | k + 1, h => by rw [firstK, firstK_of fun d hd => h d (by omega)]; exact h k (by omega)
theorem firstK_some {α : Type} {f : Nat → Option α} {r : α} : ∀ {k : Nat}, firstK f k = some r → ∃ d, d < k ∧ f d = some r ∧ ∀ e, e < d → f e = none
 | 0, h => by cases h
 | k + 1, h => by
  rw [firstK] at h
  split at h
  · rename_i r' h2
    cases h
    obtain ⟨d, h3, h4⟩ := firstK_some h2
    exact ⟨d, by omega, h4⟩
  · rename_i h2
    exact ⟨k, by omega, h, firstK_none h2⟩
def lateI (os : List Od) (l : List Jb) : Option Nat := firstK (fun i => if lateT l (os.getD i O0) = true then some i else none) os.length
def overF (P : Int) (l : List Jb) : Option (Nat × Nat) := firstK (fun a => firstK (fun d => if P * ((d : Int) + 1) < needsT l a ((a : Int) + 1 + d) then some (a, a + 1 + d) else none) (24 - a)) 24
theorem lateI_none {os : List Od} {l : List Jb} (h : lateI os l = none) : os.any (lateT l) = false := by
 rw [List.any_eq_false]
 intro o ho
 obtain ⟨i, hi, e⟩ := List.getElem_of_mem ho
 have := firstK_none h i hi
 rw [List.getD_eq_getElem?_getD, List.getElem?_eq_getElem hi] at this
 simp only [Option.getD_some, e] at this
 intro hl
 rw [if_pos hl] at this
 cases this
theorem overF_some {P : Int} {l : List Jb} {a b : Nat} (h : overF P l = some (a, b)) : crowdB P l (2, 0, (a : Int), (b : Int), 0, 0, ()) = true := by
 obtain ⟨a', h1, h2, _⟩ := firstK_some h
 obtain ⟨d, h3, h4, _⟩ := firstK_some h2
 split at h4
 · rename_i h5
   cases h4
   show (decide ((0 : Int) = 0 ∧ (0 : Int) = 0 ∧ (0 : Int) = 0) && (decide (0 ≤ (a : Int) ∧ (a : Int) < ((a + 1 + d : Nat) : Int) ∧ ((a + 1 + d : Nat) : Int) ≤ 24) && decide (P * (((a + 1 + d : Nat) : Int) - (a : Int)) < needsT l (a : Int) ((a + 1 + d : Nat) : Int)))) = true
   rw [show ((a + 1 + d : Nat) : Int) = (a : Int) + 1 + d by omega, show (a : Int) + 1 + d - a = (d : Int) + 1 by omega, decide_eq_true h5, decide_eq_true (p := 0 ≤ (a : Int) ∧ (a : Int) < (a : Int) + 1 + d ∧ (a : Int) + 1 + d ≤ 24) (by omega)]
   rfl
 · cases h4
theorem overF_none {P : Int} {l : List Jb} (h : overF P l = none) : overB P l = false := by
 unfold overB
 rw [List.any_eq_false]
 intro a ha
 rw [List.mem_range] at ha
 rw [Bool.not_eq_true, List.any_eq_false]
 intro b hb
 rw [List.mem_range] at hb
 rw [Bool.and_eq_true, decide_eq_true_eq, decide_eq_true_eq]
 rintro ⟨h1, h2⟩
 have h3 := firstK_none (firstK_none h a ha) (b - a - 1) (by omega)
 rw [show ((b - a - 1 : Nat) : Int) + 1 = (b : Int) - a by omega, show (a : Int) + 1 + ((b - a - 1 : Nat) : Int) = b by omega, if_pos h2] at h3
 cases h3
end Go.Sh
namespace Go.Proofs.YtckmhlpngolbpaaDoor
open Int renaming reduceToNat → zr, reduceTDiv → zd, reduceTMod → zm
open Go Go.Vc Go.Sh
abbrev JT : Ty := .cons (.int .i64) (.cons (.int .i64) (.cons (.int .i64) (.cons (.int .i64) .nil)))
abbrev OT : Ty := .cons (.int .i64) (.cons (.int .i64) .nil)
abbrev NTj : Ty := .cons (.int .i64) (.cons (.int .i64) (.cons (.int .i64) (.cons (.int .i64) (.cons (.int .i64) (.cons (.int .i64) .nil)))))
theorem zSJ : (∀ (xs : List Jb) (i : Nat), @List.getD JT.T xs i JT.dflt = @List.getD Jb xs i J0) ∧ (∀ (xs : List Jb), @List.length JT.T xs = @List.length Jb xs) ∧
  (∀ (xs : List Od) (i : Nat), @List.getD OT.T xs i OT.dflt = @List.getD Od xs i O0) ∧ (∀ (xs : List Od), @List.length OT.T xs = @List.length Od xs) ∧
  (∀ (xs : List Nd) (i : Nat), @List.getD NTj.T xs i NTj.dflt = @List.getD Nd xs i N0) ∧ ∀ (xs : List Nd), @List.length NTj.T xs = @List.length Nd xs :=
 ⟨fun _ _ => rfl, fun _ => rfl, fun _ _ => rfl, fun _ => rfl, fun _ _ => rfl, fun _ => rfl⟩
structure Bd (l : List Jb) : Prop where
 len : l.length ≤ 100
 rg : ∀ m, m < l.length → (0 ≤ jf l m ∧ jf l m ≤ 100) ∧ (0 ≤ jt l m ∧ jt l m ≤ 100) ∧ (0 ≤ jl l m ∧ jl l m ≤ 100) ∧ 0 ≤ jp l m ∧ jp l m ≤ 100
theorem nd_rg {f t n p a b : Int} (hn : 0 ≤ n ∧ n ≤ 100) (hp : 0 ≤ p ∧ p ≤ 100) (ha : 0 ≤ a ∧ a ≤ b ∧ b ≤ 100) : 0 ≤ p * ndT f t n a b ∧ p * ndT f t n a b ≤ 10000 := by
 have h0 : 0 ≤ ndT f t n a b ∧ ndT f t n a b ≤ 100 := by unfold ndT; omega
 refine ⟨Int.mul_nonneg hp.1 h0.1, ?_⟩
 have := Int.mul_le_mul hp.2 h0.2 h0.1 (by omega)
 omega
theorem need_at {f t n p a b : Int} (hf : 0 ≤ f ∧ f ≤ 100) (ht : 0 ≤ t ∧ t ≤ 100) (hn : 0 ≤ n ∧ n ≤ 100) (hp : 0 ≤ p ∧ p ≤ 100) (ha : 0 ≤ a ∧ a ≤ b ∧ b ≤ 100) :
  FnAt Tryd.prog false 66 [.agg [I64 f, I64 t, I64 n, I64 p], I64 a, I64 b] (.lit (.int .i64 (p * ndT f t n a b))) [] := by
 have e : minL n [b - a, maxL 0 [f + n - a], maxL 0 [b - t + n]] = ndT f t n a b := by simp only [minL, maxL, ndT]; omega
 have hr := nd_rg (f := f) (t := t) hn hp ha
 have hik : InK .i64 (p * minL n [b - a, maxL 0 [f + n - a], maxL 0 [b - t + n]]) := by rw [e]; simp only [InK]; omega
 refine FnAt.of_body tys_ok Tryd.func66 (by rfl) rfl Tryd.ntmps66 (by rw [Tryd.results66]) (by simp) ?_
 repeat' (first
 | refine W.seq ?_
 | refine W.block ?_
 | (refine W.region tys_ok [] ?_; conv => whnf)
 | (refine W.drawAll tys_ok [] mixed rfl ?_; conv => whnf)
 | (refine W.ret ?_; conv => whnf)
 | (refine W.skip ?_; conv => whnf)
 | (refine W.exit ?_; conv => whnf)
 | (refine W.cond rfl (fun hb => ?_) (fun hb => ?_) <;> (try simp only [Int.reduceToNat, Int.reduceTDiv, Int.reduceTMod, minL, maxL, pickB, zHB, zSJ] at hb) <;> (try (first | (cases hb; done) | exact absurd hb (by decide) | (exfalso; omega))))
 | ((with_reducible refine And.intro ?_ ?_); (focus (first | (with_reducible rfl) | omega | rfl | ((try simp only [Int.reduceToNat, Int.reduceTDiv, Int.reduceTMod, minL, maxL, pickB, zHB, zSJ, InK, Path.imp, zL] at *); omega))); (conv => whnf))
 | ((with_reducible refine And.intro (Side.out ?_) ?_); rotate_left; (conv => whnf))
 | ((first | refine retF1 ?_ | refine retF2 ?_) <;> (conv => whnf) <;> repeat' (first
 | exact trivial
 | (with_reducible rfl)
 | ((with_reducible refine And.intro ?_ ?_) <;> conv => whnf)
 | omega
 | rfl
 | (refine congrArg (SV.arr _) ?_)
 | (refine congrArg (Value.int _) ?_)
 | (refine congrArg Value.bool ?_)))); all_goals (try unfold Side)
 all_goals try exact hik
 all_goals try (repeat' (first | (with_reducible rfl) | (with_reducible refine And.intro ?_ ?_) | omega | rfl | exact Or.inl rfl | exact Or.inr rfl | exact of_decide_eq_true rfl | exact Path.imp_of (of_decide_eq_true rfl) | (focus ((try simp only [Int.reduceToNat, Int.reduceTDiv, Int.reduceTMod, minL, maxL, pickB, zHB, zSJ, InK, Path.imp, zL] at *); omega)) | (refine app_le rfl ?_; omega)))
 all_goals rw [e]
open Go Go.Vc Go.Sh
theorem sumZ_rg {f : Nat → Int} {c : Int} {n : Nat} (hc : 0 ≤ c) (h : ∀ i, i < n → 0 ≤ f i ∧ f i ≤ c) : ∀ {k : Nat}, k ≤ n → 0 ≤ sumZ f k ∧ sumZ f k ≤ c * k
 | 0, _ => by simp [sumZ]
 | k + 1, hk => by
  have h1 := sumZ_rg hc h (k := k) (by omega)
  have h2 := h k (by omega)
  rw [sumZ, show ((k + 1 : Nat) : Int) = (k : Int) + 1 by omega, Int.mul_add, Int.mul_one]
  omega
theorem need_rg {l : List Jb} (h : Bd l) {a b : Int} (ha : 0 ≤ a ∧ a ≤ b ∧ b ≤ 100) : ∀ i, i < l.length → 0 ≤ needT l i a b ∧ needT l i a b ≤ 10000 := fun i hi => by
 have hj := h.rg i hi
 exact nd_rg hj.2.2.1 hj.2.2.2 ha
theorem needs_rg {l : List Jb} (h : Bd l) {a b : Int} (ha : 0 ≤ a ∧ a ≤ b ∧ b ≤ 100) {k : Nat} (hk : k ≤ l.length) : 0 ≤ sumZ (fun i => needT l i a b) k ∧ sumZ (fun i => needT l i a b) k ≤ 1000000 := by
 have h1 := sumZ_rg (c := 10000) (by omega) (need_rg h ha) hk
 have := h.len
 omega
theorem needs_at {l : List Jb} (h : Bd l) {a b : Int} (ha : 0 ≤ a ∧ a ≤ b ∧ b ≤ 100) : FnAt Tryd.prog false 60 [.arr JT l, I64 a, I64 b] (.lit (.int .i64 (needsT l a b))) [] := by
 have hl := h.len
 have hll : @List.length JT.T l = l.length := rfl
 have hrg := fun i hi => needs_rg h ha (k := i) hi
 have hr1 := need_rg h ha
 obtain ⟨S, hS⟩ : ∃ S : Nat → Int, S = sumZ (fun i => needT l i a b) := ⟨_, rfl⟩
 have hSs : ∀ i, S i + jp l i * ndT (jf l i) (jt l i) (jl l i) a b = S (i + 1) := fun i => by rw [hS, sumZ]; rfl
 have hSn : needsT l a b = S l.length := by rw [hS]; rfl
 have hS0 : S 0 = 0 := by rw [hS]; rfl
 rw [← hS] at hrg
 rw [hSn]
 have hnd := fun i (hi : i < l.length) => need_at (f := jf l i) (t := jt l i) (n := jl l i) (p := jp l i) (a := a) (b := b) (h.rg i hi).1 (h.rg i hi).2.1 (h.rg i hi).2.2.1 (h.rg i hi).2.2.2 ha
 refine FnAt.of_body tys_ok Tryd.func60 (by rfl) rfl Tryd.ntmps60 (by rw [Tryd.results60]) (by simp) ?_
 repeat' (first
 | refine W.seq ?_
 | refine W.block ?_
 | (refine W.region tys_ok [] ?_; conv => whnf)
 | (refine W.drawAll tys_ok [] mixed rfl ?_; conv => whnf)
 | (refine W.ret ?_; conv => whnf)
 | (refine W.skip ?_; conv => whnf)
 | (refine W.exit ?_; conv => whnf)
 | (refine W.cond rfl (fun hb => ?_) (fun hb => ?_) <;> (try simp only [Int.reduceToNat, Int.reduceTDiv, Int.reduceTMod, minL, maxL, pickB, zHB, zSJ] at hb) <;> (try (first | (cases hb; done) | exact absurd hb (by decide) | (exfalso; omega))))
 | ((with_reducible refine And.intro ?_ ?_); (focus (first | (with_reducible rfl) | omega | rfl | ((try simp only [Int.reduceToNat, Int.reduceTDiv, Int.reduceTMod, minL, maxL, pickB, zHB, zSJ, InK, Path.imp, zL] at *); omega))); (conv => whnf))
 | ((with_reducible refine And.intro (Side.out ?_) ?_); rotate_left; (conv => whnf))
 | ((first | refine retF1 ?_ | refine retF2 ?_) <;> (conv => whnf) <;> repeat' (first
 | exact trivial
 | (with_reducible rfl)
 | ((with_reducible refine And.intro ?_ ?_) <;> conv => whnf)
 | omega
 | rfl
 | (refine congrArg (SV.arr _) ?_)
 | (refine congrArg (Value.int _) ?_)
 | (refine congrArg Value.bool ?_)))); all_goals (try unfold Side)
 all_goals try (repeat' (first | (with_reducible rfl) | (with_reducible refine And.intro ?_ ?_) | omega | rfl | exact Or.inl rfl | exact Or.inr rfl | exact of_decide_eq_true rfl | exact Path.imp_of (of_decide_eq_true rfl) | (focus ((try simp only [Int.reduceToNat, Int.reduceTDiv, Int.reduceTMod, minL, maxL, pickB, zHB, zSJ, InK, Path.imp, zL] at *); omega)) | (refine app_le rfl ?_; omega)))
 refine W.loop (fun i : Nat => ⟨[(0, .st false (.arr JT l)), (1, .lit (.int .i64 (a))), (2, .lit (.int .i64 (b))), (7, .lit (.int .i64 ((S i)))), (10, .st false (.arr JT l)), (11, .lit (.int .i64 ((l.length : Int)))), (12, .lit (.int .i64 (i)))], []⟩) (fun i => i ≤ l.length) (fun i => l.length - i) (0) ?_ ?_
 · refine ⟨Nat.zero_le _, ?_⟩
   refine subF.ok ?_ <;> (conv => whnf) <;> repeat' (first
 | exact trivial
 | (with_reducible rfl)
 | ((with_reducible refine And.intro ?_ ?_) <;> conv => whnf)
 | omega
 | rfl
 | (refine congrArg (SV.arr _) ?_)
 | (refine congrArg (Value.int _) ?_)
 | (refine congrArg Value.bool ?_))
   all_goals exact hS0.symm
 · intro i hi
   by_cases hil : i < l.length
   · have hn := hnd i hil
     have h1 := hr1 i hil
     have h2 := hrg i hi
     have hs := hSs i
     have h3 := hrg (i + 1) (by omega)
     have hik : InK .i64 (S i + jp l i * ndT (jf l i) (jt l i) (jl l i) a b) := by rw [hs]; simp only [InK]; omega
     repeat' (first
 | refine W.seq ?_
 | refine W.block ?_
 | (refine W.region tys_ok [] ?_; conv => whnf)
 | (refine W.drawAll tys_ok [] mixed rfl ?_; conv => whnf)
 | (refine W.ret ?_; conv => whnf)
 | (refine W.skip ?_; conv => whnf)
 | (refine W.exit ?_; conv => whnf)
 | (refine call_at (al := false) (hn) rfl rfl rfl rfl ?_; conv => whnf)
 | (refine W.cond rfl (fun hb => ?_) (fun hb => ?_) <;> (try simp only [Int.reduceToNat, Int.reduceTDiv, Int.reduceTMod, minL, maxL, pickB, zHB, zSJ] at hb) <;> (try (first | (cases hb; done) | exact absurd hb (by decide) | (exfalso; omega))))
 | ((with_reducible refine And.intro ?_ ?_); (focus (first | (with_reducible rfl) | omega | rfl | ((try simp only [Int.reduceToNat, Int.reduceTDiv, Int.reduceTMod, minL, maxL, pickB, zHB, zSJ, InK, Path.imp, zL] at *); omega))); (conv => whnf))
 | ((with_reducible refine And.intro (Side.out ?_) ?_); rotate_left; (conv => whnf))
 | ((first | refine retF1 ?_ | refine retF2 ?_) <;> (conv => whnf) <;> repeat' (first
 | exact trivial
 | (with_reducible rfl)
 | ((with_reducible refine And.intro ?_ ?_) <;> conv => whnf)
 | omega
 | rfl
 | (refine congrArg (SV.arr _) ?_)
 | (refine congrArg (Value.int _) ?_)
 | (refine congrArg Value.bool ?_)))); all_goals (try unfold Side)
     all_goals try exact hik
     all_goals try (repeat' (first | (with_reducible rfl) | (with_reducible refine And.intro ?_ ?_) | omega | rfl | exact Or.inl rfl | exact Or.inr rfl | exact of_decide_eq_true rfl | exact Path.imp_of (of_decide_eq_true rfl) | (focus ((try simp only [Int.reduceToNat, Int.reduceTDiv, Int.reduceTMod, minL, maxL, pickB, zHB, zSJ, InK, Path.imp, zL] at *); omega)) | (refine app_le rfl ?_; omega)))
     refine ⟨i + 1, ⟨by omega, by omega⟩, ?_⟩
     refine subF.ok ?_ <;> (conv => whnf) <;> repeat' (first
 | exact trivial
 | (with_reducible rfl)
 | ((with_reducible refine And.intro ?_ ?_) <;> conv => whnf)
 | omega
 | rfl
 | (refine congrArg (SV.arr _) ?_)
 | (refine congrArg (Value.int _) ?_)
 | (refine congrArg Value.bool ?_))
     all_goals exact hs
   · have hie : l.length = i := by omega
     subst hie
     repeat' (first
 | refine W.seq ?_
 | refine W.block ?_
 | (refine W.region tys_ok [] ?_; conv => whnf)
 | (refine W.drawAll tys_ok [] mixed rfl ?_; conv => whnf)
 | (refine W.ret ?_; conv => whnf)
 | (refine W.skip ?_; conv => whnf)
 | (refine W.exit ?_; conv => whnf)
 | (refine W.cond rfl (fun hb => ?_) (fun hb => ?_) <;> (try simp only [Int.reduceToNat, Int.reduceTDiv, Int.reduceTMod, minL, maxL, pickB, zHB, zSJ] at hb) <;> (try (first | (cases hb; done) | exact absurd hb (by decide) | (exfalso; omega))))
 | ((with_reducible refine And.intro ?_ ?_); (focus (first | (with_reducible rfl) | omega | rfl | ((try simp only [Int.reduceToNat, Int.reduceTDiv, Int.reduceTMod, minL, maxL, pickB, zHB, zSJ, InK, Path.imp, zL] at *); omega))); (conv => whnf))
 | ((with_reducible refine And.intro (Side.out ?_) ?_); rotate_left; (conv => whnf))
 | ((first | refine retF1 ?_ | refine retF2 ?_) <;> (conv => whnf) <;> repeat' (first
 | exact trivial
 | (with_reducible rfl)
 | ((with_reducible refine And.intro ?_ ?_) <;> conv => whnf)
 | omega
 | rfl
 | (refine congrArg (SV.arr _) ?_)
 | (refine congrArg (Value.int _) ?_)
 | (refine congrArg Value.bool ?_)))); all_goals (try unfold Side)
     all_goals try (repeat' (first | (with_reducible rfl) | (with_reducible refine And.intro ?_ ?_) | omega | rfl | exact Or.inl rfl | exact Or.inr rfl | exact of_decide_eq_true rfl | exact Path.imp_of (of_decide_eq_true rfl) | (focus ((try simp only [Int.reduceToNat, Int.reduceTDiv, Int.reduceTMod, minL, maxL, pickB, zHB, zSJ, InK, Path.imp, zL] at *); omega)) | (refine app_le rfl ?_; omega)))
theorem clone_at {l : List Jb} (h : 1 ≤ l.length) (hl : l.length ≤ 1000) : FnAt Tryd.prog false 34 [.arr JT l] (.own 0) [(0, .row 58 JT true l)] := by
 have hwl : @List.length JT.T l ≤ 1000 := hl
 have hne : l ≠ [] := fun e => by rw [e] at h; simp at h
 have he : l.isEmpty = false := by cases l with | nil => exact absurd rfl hne | cons => rfl
 have hn : FnAt Tryd.prog false 34 [.narr JT l] (.own 0) [(0, .row 58 JT true l)] := by
  refine FnAt.of_body tys_ok Tryd.func34 (by rfl) rfl Tryd.ntmps34 (by rw [Tryd.results34]) (by simp) ?_
  repeat' (first
 | refine W.seq ?_
 | refine W.block ?_
 | (refine W.region tys_ok [] ?_; conv => whnf)
 | (refine W.drawAll tys_ok [] mixed rfl ?_; conv => whnf)
 | (refine W.ret ?_; conv => whnf)
 | (refine W.skip ?_; conv => whnf)
 | (refine W.exit ?_; conv => whnf)
 | (refine W.cond rfl (fun hb => ?_) (fun hb => ?_) <;> (try simp only [Int.reduceToNat, Int.reduceTDiv, Int.reduceTMod, minL, maxL, pickB, zHB, zSJ] at hb) <;> (try (first | (cases hb; done) | exact absurd hb (by decide) | (exfalso; omega) | (exact Bool.noConfusion (hb.symm.trans he)))))
 | ((with_reducible refine And.intro ?_ ?_); (focus (first | (with_reducible rfl) | omega | rfl | ((try simp only [Int.reduceToNat, Int.reduceTDiv, Int.reduceTMod, minL, maxL, pickB, zHB, zSJ, InK, Path.imp, zL] at *); omega))); (conv => whnf))
 | ((with_reducible refine And.intro (Side.out ?_) ?_); rotate_left; (conv => whnf))
 | ((first | refine retF1 ?_ | refine retF2 ?_) <;> (conv => whnf) <;> repeat' (first
 | exact trivial
 | (with_reducible rfl)
 | ((with_reducible refine And.intro ?_ ?_) <;> conv => whnf)
 | omega
 | rfl
 | (refine congrArg (SV.arr _) ?_)
 | (refine congrArg (Value.int _) ?_)
 | (refine congrArg Value.bool ?_)))); all_goals (try unfold Side)
  all_goals try (repeat' (first | (with_reducible rfl) | (with_reducible refine And.intro ?_ ?_) | omega | rfl | exact Or.inl rfl | exact Or.inr rfl | exact of_decide_eq_true rfl | exact Path.imp_of (of_decide_eq_true rfl) | (focus ((try simp only [Int.reduceToNat, Int.reduceTDiv, Int.reduceTMod, minL, maxL, pickB, zHB, zSJ, InK, Path.imp, zL] at *); omega)) | (refine app_le rfl ?_; omega)))
 refine ⟨hn.1, fun w O vals hO ha => hn.2 w O vals hO ⟨by simpa using ha.1, fun i v A hv hA => ?_⟩⟩
 cases i with
 | zero =>
  simp at hA
  subst hA
  exact .narr _ _ _ (ha.2 0 v _ hv rfl) (fun h => absurd h hne)
 | succ i => exact ha.2 (i + 1) v A hv (by simp at hA)
theorem late_at {l : List Jb} (h : Bd l) {x y : Int} (hx : 0 ≤ x ∧ x < l.length) (hy : 0 ≤ y ∧ y < l.length) : FnAt Tryd.prog false 50 [.agg [I64 x, I64 y], .arr JT l] (.lit (.bool (lateT l (x, y, ())))) [] := by
 have hl := h.len
 have hll : @List.length JT.T l = l.length := rfl
 have h1 := h.rg x.toNat (by omega)
 have h2 := h.rg y.toNat (by omega)
 unfold jf jt jl jp at h1 h2
 refine FnAt.of_body tys_ok Tryd.func50 (by rfl) rfl Tryd.ntmps50 (by rw [Tryd.results50]) (by simp) ?_
 repeat' (first
 | refine W.seq ?_
 | refine W.block ?_
 | (refine W.resub (x := Code.region 1 _ _) (Γ' := ⟨[(1, .st false (.arr JT l)), (2, .st true (.sadr (.agg [I64 x, I64 y])))], []⟩) ?_ (W.drawPh (id := 1) tys_ok [] mixed [0, 0, 2, 5, 8, 0, 0, 64, 160, 256, 0, 0, 3103, 8191] [([0, 1, 2, 3, 4, 5, 6, 7, 8, 9], 2, 4095), ([], 1, 8191), ([], 1, 16383)] (by decide +kernel) ?_); rotate_left; (conv => whnf))
 | (refine W.region tys_ok [] ?_; conv => whnf)
 | (refine W.drawAll tys_ok [] mixed rfl ?_; conv => whnf)
 | (refine W.ret ?_; conv => whnf)
 | (refine W.skip ?_; conv => whnf)
 | (refine W.exit ?_; conv => whnf)
 | (refine Both.mk ?_ ?_ <;> (conv => whnf))
 | (refine W.cond rfl (fun hb => ?_) (fun hb => ?_) <;> (try simp only [Int.reduceToNat, Int.reduceTDiv, Int.reduceTMod, minL, maxL, pickB, zHB, zSJ] at hb) <;> (try (first | (cases hb; done) | exact absurd hb (by decide) | (exfalso; omega))))
 | ((with_reducible refine And.intro ?_ ?_); (focus (first | (with_reducible rfl) | omega | rfl | ((try simp only [Int.reduceToNat, Int.reduceTDiv, Int.reduceTMod, minL, maxL, pickB, zHB, zSJ, InK, Path.imp, zL] at *); omega))); (conv => whnf))
 | ((with_reducible refine And.intro (Side.out ?_) ?_); rotate_left; (conv => whnf))
 | ((first | refine retF1 ?_ | refine retF2 ?_ | refine subF.leaf ?_ | refine subF.side ?_) <;> (conv => whnf) <;> repeat' (first
 | exact trivial
 | (with_reducible rfl)
 | ((with_reducible refine And.intro ?_ ?_) <;> conv => whnf)
 | omega
 | rfl
 | (refine congrArg (SV.arr _) ?_)
 | (refine congrArg (Value.int _) ?_)
 | (refine congrArg Value.bool ?_)))); all_goals (try unfold Side)
 all_goals try (repeat' (first | (with_reducible rfl) | (with_reducible refine And.intro ?_ ?_) | omega | rfl | exact Or.inl rfl | exact Or.inr rfl | exact of_decide_eq_true rfl | exact Path.imp_of (of_decide_eq_true rfl) | (focus ((try simp only [Int.reduceToNat, Int.reduceTDiv, Int.reduceTMod, minL, maxL, pickB, zHB, zSJ, InK, Path.imp, zL] at *); omega)) | (refine app_le rfl ?_; omega)))
end Go.Proofs.YtckmhlpngolbpaaDoor
namespace Go.Sh
theorem firstK_hit {α : Type} {f : Nat → Option α} {r : α} {d : Nat} (h0 : f d = some r) (h1 : ∀ e, e < d → f e = none) : ∀ {k : Nat}, d < k → firstK f k = some r
 | 0, h => by omega
 | k + 1, h => by
  rw [firstK]
  by_cases e : d = k
  · subst e; rw [firstK_of h1]; exact h0
  · rw [firstK_hit h0 h1 (by omega)]
def ovC (P : Int) (l : List Jb) (a d : Nat) : Prop := P * ((d : Int) + 1) < needsT l a ((a : Int) + 1 + d)
theorem over_hit {P : Int} {l : List Jb} {a d : Nat} (ha : a < 24) (hd : d < 24 - a) (h : ovC P l a d) (h1 : ∀ e, e < d → ¬ ovC P l a e) (h2 : ∀ b, b < a → ∀ e, e < 24 - b → ¬ ovC P l b e) : overF P l = some (a, a + 1 + d) := by
 unfold overF
 refine firstK_hit (d := a) ?_ ?_ ha
 · exact firstK_hit (d := d) (if_pos h) (fun e he => if_neg (h1 e he)) hd
 · exact fun b hb => firstK_of fun e he => if_neg (h2 b hb e he)
theorem over_miss {P : Int} {l : List Jb} (h2 : ∀ b, b < 24 → ∀ e, e < 24 - b → ¬ ovC P l b e) : overF P l = none :=
 firstK_of fun b hb => firstK_of fun e he => if_neg (h2 b hb e he)
def ovA (P : Int) (l : List Jb) : Int := match overF P l with
 | some r => (r.1 : Int)
 | none => 0
def ovE (P : Int) (l : List Jb) : Int := match overF P l with
 | some r => (r.2 : Int)
 | none => 0
def ovB (P : Int) (l : List Jb) : Bool := match overF P l with
 | some _ => true
 | none => false
theorem ovB_over {P : Int} {l : List Jb} : ovB P l = overB P l := by
 unfold ovB
 cases h : overF P l with
 | none => rw [overF_none h]
 | some r =>
  obtain ⟨a, b⟩ := r
  have h1 := overF_some h
  unfold crowdB at h1
  simp only [Bool.and_eq_true, decide_eq_true_eq] at h1
  obtain ⟨_, ⟨a0, a1, a2⟩, h3⟩ := h1
  have a1 : (a : Int) < (b : Int) := a1
  have a2 : (b : Int) ≤ 24 := a2
  have h3 : P * ((b : Int) - a) < needsT l a b := h3
  show true = overB P l
  unfold overB
  refine (List.any_eq_true.2 ⟨a, List.mem_range.2 (by omega), List.any_eq_true.2 ⟨b, List.mem_range.2 (by omega), ?_⟩⟩).symm
  rw [decide_eq_true (by omega), decide_eq_true h3]; rfl
def JobOk (j : Jb) : Prop := 0 ≤ j.1 ∧ j.2.1 ≤ 24 ∧ 1 ≤ j.2.2.1 ∧ j.2.2.1 ≤ j.2.1 - j.1 ∧ 1 ≤ j.2.2.2.1 ∧ j.2.2.2.1 ≤ 20
def OrdOk (n : Nat) (o : Od) : Prop := 0 ≤ o.1 ∧ o.1 < n ∧ 0 ≤ o.2.1 ∧ o.2.1 < n ∧ o.1 ≠ o.2.1
structure VS (P : Int) (l : List Jb) (os : List Od) : Prop where
 pw : 1 ≤ P ∧ P ≤ 20
 ln : 1 ≤ l.length ∧ l.length ≤ 6
 lo : os.length ≤ 20
 rg : ∀ m, m < l.length → JobOk (l.getD m J0)
 od : ∀ m, m < os.length → OrdOk l.length (os.getD m O0)
noncomputable def validB (P : Int) (l : List Jb) (os : List Od) : Bool := open Classical in decide (VS P l os)
theorem validB_yes {P : Int} {l : List Jb} {os : List Od} (h : VS P l os) : validB P l os = true := by classical exact decide_eq_true h
theorem validB_no {P : Int} {l : List Jb} {os : List Od} (h : ¬ VS P l os) : validB P l os = false := by classical exact decide_eq_false h
theorem VS.pre {P : Int} {l : List Jb} {os : List Od} (h : VS P l os) : Pre l os 0 := by
 refine ⟨fun m hm => by omega, fun m hm => ?_, fun o ho => ?_⟩
 · have := h.rg m hm
   unfold JobOk at this
   unfold jf jt jl jp
   omega
 · obtain ⟨i, hi, e⟩ := List.getElem_of_mem ho
   have := h.od i hi
   rw [List.getD_eq_getElem?_getD, List.getElem?_eq_getElem hi, Option.getD_some, e] at this
   unfold OrdOk at this
   omega
end Go.Sh
namespace Go.Proofs.YtckmhlpngolbpaaDoor
open Int renaming reduceToNat → zr, reduceTDiv → zd, reduceTMod → zm
open Go Go.Vc Go.Sh
theorem pmul {P : Int} (hP : 0 ≤ P ∧ P ≤ 100) {a d : Nat} (hd : d ≤ 24) : P * ((a : Int) + 1 + d - a) = P * ((d : Int) + 1) ∧ 0 ≤ P * ((d : Int) + 1) ∧ P * ((d : Int) + 1) ≤ 2500 := by
 refine ⟨by congr 1; omega, Int.mul_nonneg hP.1 (by omega), ?_⟩
 have := Int.mul_le_mul (a := P) (b := (d : Int) + 1) (c := 100) (d := 25) hP.2 (by omega) (by omega) (by omega)
 omega
theorem overfull_at {P : Int} {l : List Jb} (hP : 0 ≤ P ∧ P ≤ 100) (h : Bd l) : FnAt Tryd.prog false 47 [I64 P, .arr JT l] (.tup [.lit (.int .i64 (ovA P l)), .lit (.int .i64 (ovE P l)), .lit (.bool (ovB P l))]) [] := by
 have hhit : ∀ a d, a < 24 → d < 24 - a → ovC P l a d → (∀ e, e < d → ¬ ovC P l a e) → (∀ b, b < a → ∀ e, e < 24 - b → ¬ ovC P l b e) → ovA P l = a ∧ ovE P l = (a : Int) + 1 + d ∧ ovB P l = true := fun a d h1 h2 h3 h4 h5 => by
  have := over_hit h1 h2 h3 h4 h5
  unfold ovA ovE ovB
  rw [this]
  exact ⟨rfl, by dsimp only; omega, rfl⟩
 have hmiss : (∀ b, b < 24 → ∀ e, e < 24 - b → ¬ ovC P l b e) → ovA P l = 0 ∧ ovE P l = 0 ∧ ovB P l = false := fun h5 => by
  have := over_miss h5
  unfold ovA ovE ovB
  rw [this]
  exact ⟨rfl, rfl, rfl⟩
 obtain ⟨A, hA⟩ : ∃ A, A = ovA P l := ⟨_, rfl⟩
 obtain ⟨E, hE⟩ : ∃ E, E = ovE P l := ⟨_, rfl⟩
 obtain ⟨B, hB⟩ : ∃ B, B = ovB P l := ⟨_, rfl⟩
 rw [← hA, ← hE, ← hB] at hhit hmiss
 rw [← hA, ← hE, ← hB]
 clear hA hE hB
 refine FnAt.of_body tys_ok Tryd.func47 (by rfl) rfl Tryd.ntmps47 (by rw [Tryd.results47]) (by simp) ?_
 repeat' (first
 | refine W.seq ?_
 | refine W.block ?_
 | (refine W.region tys_ok [] ?_; conv => whnf)
 | (refine W.drawAll tys_ok [] mixed rfl ?_; conv => whnf)
 | (refine W.ret ?_; conv => whnf)
 | (refine W.skip ?_; conv => whnf)
 | (refine W.exit ?_; conv => whnf)
 | (refine W.cond rfl (fun hb => ?_) (fun hb => ?_) <;> (try simp only [Int.reduceToNat, Int.reduceTDiv, Int.reduceTMod, minL, maxL, pickB, zHB, zSJ] at hb) <;> (try (first | (cases hb; done) | exact absurd hb (by decide) | (exfalso; omega))))
 | ((with_reducible refine And.intro ?_ ?_); (focus (first | (with_reducible rfl) | omega | rfl | ((try simp only [Int.reduceToNat, Int.reduceTDiv, Int.reduceTMod, minL, maxL, pickB, zHB, zSJ, InK, Path.imp, zL] at *); omega))); (conv => whnf))
 | ((with_reducible refine And.intro (Side.out ?_) ?_); rotate_left; (conv => whnf))
 | ((first | refine retF1 ?_ | refine retF2 ?_) <;> (conv => whnf) <;> repeat' (first
 | exact trivial
 | (with_reducible rfl)
 | ((with_reducible refine And.intro ?_ ?_) <;> conv => whnf)
 | omega
 | rfl
 | (refine congrArg (SV.arr _) ?_)
 | (refine congrArg (Value.int _) ?_)
 | (refine congrArg Value.bool ?_)))); all_goals (try unfold Side)
 all_goals try (repeat' (first | (with_reducible rfl) | (with_reducible refine And.intro ?_ ?_) | omega | rfl | exact Or.inl rfl | exact Or.inr rfl | exact of_decide_eq_true rfl | exact Path.imp_of (of_decide_eq_true rfl) | (focus ((try simp only [Int.reduceToNat, Int.reduceTDiv, Int.reduceTMod, minL, maxL, pickB, zHB, zSJ, InK, Path.imp, zL] at *); omega)) | (refine app_le rfl ?_; omega)))
 refine W.loop (fun a : Nat => ⟨[(0, .lit (.int .i64 (P))), (1, .st false (.arr JT l)), (9, .lit (.int .i64 (a)))], []⟩) (fun a => a ≤ 24 ∧ (∀ b, b < a → ∀ e, e < 24 - b → ¬ ovC P l b e)) (fun a => 24 - a) (0) ?_ ?_
 · refine ⟨⟨Nat.zero_le _, by omega⟩, ?_⟩
   refine subF.ok ?_ <;> (conv => whnf) <;> repeat' (first
 | exact trivial
 | (with_reducible rfl)
 | ((with_reducible refine And.intro ?_ ?_) <;> conv => whnf)
 | omega
 | rfl
 | (refine congrArg (SV.arr _) ?_)
 | (refine congrArg (Value.int _) ?_)
 | (refine congrArg Value.bool ?_))
 · rintro a ⟨ha, hno⟩
   by_cases hal : a < 24
   · repeat' (first
 | refine W.seq ?_
 | refine W.block ?_
 | (refine W.region tys_ok [] ?_; conv => whnf)
 | (refine W.drawAll tys_ok [] mixed rfl ?_; conv => whnf)
 | (refine W.ret ?_; conv => whnf)
 | (refine W.skip ?_; conv => whnf)
 | (refine W.exit ?_; conv => whnf)
 | (refine W.cond rfl (fun hb => ?_) (fun hb => ?_) <;> (try simp only [Int.reduceToNat, Int.reduceTDiv, Int.reduceTMod, minL, maxL, pickB, zHB, zSJ] at hb) <;> (try (first | (cases hb; done) | exact absurd hb (by decide) | (exfalso; omega))))
 | ((with_reducible refine And.intro ?_ ?_); (focus (first | (with_reducible rfl) | omega | rfl | ((try simp only [Int.reduceToNat, Int.reduceTDiv, Int.reduceTMod, minL, maxL, pickB, zHB, zSJ, InK, Path.imp, zL] at *); omega))); (conv => whnf))
 | ((with_reducible refine And.intro (Side.out ?_) ?_); rotate_left; (conv => whnf))
 | ((first | refine retF1 ?_ | refine retF2 ?_) <;> (conv => whnf) <;> repeat' (first
 | exact trivial
 | (with_reducible rfl)
 | ((with_reducible refine And.intro ?_ ?_) <;> conv => whnf)
 | omega
 | rfl
 | (refine congrArg (SV.arr _) ?_)
 | (refine congrArg (Value.int _) ?_)
 | (refine congrArg Value.bool ?_)))); all_goals (try unfold Side)
     all_goals try (repeat' (first | (with_reducible rfl) | (with_reducible refine And.intro ?_ ?_) | omega | rfl | exact Or.inl rfl | exact Or.inr rfl | exact of_decide_eq_true rfl | exact Path.imp_of (of_decide_eq_true rfl) | (focus ((try simp only [Int.reduceToNat, Int.reduceTDiv, Int.reduceTMod, minL, maxL, pickB, zHB, zSJ, InK, Path.imp, zL] at *); omega)) | (refine app_le rfl ?_; omega)))
     refine W.loop (fun d : Nat => ⟨[(0, .lit (.int .i64 (P))), (1, .st false (.arr JT l)), (9, .lit (.int .i64 (a))), (7, .lit (.int .i64 (a))), (8, .lit (.int .i64 (((a : Int) + 1 + (d : Int)))))], []⟩) (fun d => d ≤ 24 - a ∧ (∀ e, e < d → ¬ ovC P l a e)) (fun d => 24 - a - d) (0) ?_ ?_
     · refine ⟨⟨Nat.zero_le _, by omega⟩, ?_⟩
       refine subF.ok ?_ <;> (conv => whnf) <;> repeat' (first
 | exact trivial
 | (with_reducible rfl)
 | ((with_reducible refine And.intro ?_ ?_) <;> conv => whnf)
 | omega
 | rfl
 | (refine congrArg (SV.arr _) ?_)
 | (refine congrArg (Value.int _) ?_)
 | (refine congrArg Value.bool ?_))
     · rintro d ⟨hd, hnd⟩
       by_cases hdl : d < 24 - a
       · have hn := needs_at h (a := a) (b := (a : Int) + 1 + d) (by omega)
         have hm := pmul hP (a := a) (d := d) (by omega)
         by_cases hc : ovC P l a d
         · obtain ⟨e1, e2, e3⟩ := hhit a d hal hdl hc hnd hno
           have hc' : P * ((d : Int) + 1) < needsT l a ((a : Int) + 1 + d) := hc
           repeat' (first
 | refine W.seq ?_
 | refine W.block ?_
 | (refine W.region tys_ok [] ?_; conv => whnf)
 | (refine W.drawAll tys_ok [] mixed rfl ?_; conv => whnf)
 | (refine W.ret ?_; conv => whnf)
 | (refine W.skip ?_; conv => whnf)
 | (refine W.exit ?_; conv => whnf)
 | (refine call_at (al := false) (hn) rfl rfl rfl rfl ?_; conv => whnf)
 | (refine W.cond rfl (fun hb => ?_) (fun hb => ?_) <;> (try simp only [Int.reduceToNat, Int.reduceTDiv, Int.reduceTMod, minL, maxL, pickB, zHB, zSJ] at hb) <;> (try (first | (cases hb; done) | exact absurd hb (by decide) | (exfalso; omega) | (omega))))
 | ((with_reducible refine And.intro ?_ ?_); (focus (first | (with_reducible rfl) | omega | rfl | ((try simp only [Int.reduceToNat, Int.reduceTDiv, Int.reduceTMod, minL, maxL, pickB, zHB, zSJ, InK, Path.imp, zL] at *); omega))); (conv => whnf))
 | ((with_reducible refine And.intro (Side.out ?_) ?_); rotate_left; (conv => whnf))
 | ((first | refine retF1 ?_ | refine retF2 ?_) <;> (conv => whnf) <;> repeat' (first
 | exact trivial
 | (with_reducible rfl)
 | ((with_reducible refine And.intro ?_ ?_) <;> conv => whnf)
 | omega
 | rfl
 | (refine congrArg (SV.arr _) ?_)
 | (refine congrArg (Value.int _) ?_)
 | (refine congrArg Value.bool ?_)))); all_goals (try unfold Side)
           all_goals try (repeat' (first | (with_reducible rfl) | (with_reducible refine And.intro ?_ ?_) | omega | rfl | exact Or.inl rfl | exact Or.inr rfl | exact of_decide_eq_true rfl | exact Path.imp_of (of_decide_eq_true rfl) | (focus ((try simp only [Int.reduceToNat, Int.reduceTDiv, Int.reduceTMod, minL, maxL, pickB, zHB, zSJ, InK, Path.imp, zL] at *); omega)) | (refine app_le rfl ?_; omega)))
           all_goals first | exact e1.symm | exact e2.symm | exact e3.symm
         · have hc' : ¬ P * ((d : Int) + 1) < needsT l a ((a : Int) + 1 + d) := hc
           repeat' (first
 | refine W.seq ?_
 | refine W.block ?_
 | (refine W.region tys_ok [] ?_; conv => whnf)
 | (refine W.drawAll tys_ok [] mixed rfl ?_; conv => whnf)
 | (refine W.ret ?_; conv => whnf)
 | (refine W.skip ?_; conv => whnf)
 | (refine W.exit ?_; conv => whnf)
 | (refine call_at (al := false) (hn) rfl rfl rfl rfl ?_; conv => whnf)
 | (refine W.cond rfl (fun hb => ?_) (fun hb => ?_) <;> (try simp only [Int.reduceToNat, Int.reduceTDiv, Int.reduceTMod, minL, maxL, pickB, zHB, zSJ] at hb) <;> (try (first | (cases hb; done) | exact absurd hb (by decide) | (exfalso; omega) | (omega))))
 | ((with_reducible refine And.intro ?_ ?_); (focus (first | (with_reducible rfl) | omega | rfl | ((try simp only [Int.reduceToNat, Int.reduceTDiv, Int.reduceTMod, minL, maxL, pickB, zHB, zSJ, InK, Path.imp, zL] at *); omega))); (conv => whnf))
 | ((with_reducible refine And.intro (Side.out ?_) ?_); rotate_left; (conv => whnf))
 | ((first | refine retF1 ?_ | refine retF2 ?_) <;> (conv => whnf) <;> repeat' (first
 | exact trivial
 | (with_reducible rfl)
 | ((with_reducible refine And.intro ?_ ?_) <;> conv => whnf)
 | omega
 | rfl
 | (refine congrArg (SV.arr _) ?_)
 | (refine congrArg (Value.int _) ?_)
 | (refine congrArg Value.bool ?_)))); all_goals (try unfold Side)
           all_goals try (repeat' (first | (with_reducible rfl) | (with_reducible refine And.intro ?_ ?_) | omega | rfl | exact Or.inl rfl | exact Or.inr rfl | exact of_decide_eq_true rfl | exact Path.imp_of (of_decide_eq_true rfl) | (focus ((try simp only [Int.reduceToNat, Int.reduceTDiv, Int.reduceTMod, minL, maxL, pickB, zHB, zSJ, InK, Path.imp, zL] at *); omega)) | (refine app_le rfl ?_; omega)))
           refine ⟨d + 1, ⟨⟨by omega, fun e he => ?_⟩, by omega⟩, ?_⟩
           · by_cases g : e = d
             · subst g; exact hc
             · exact hnd e (by omega)
           · refine subF.ok ?_ <;> (conv => whnf) <;> repeat' (first
 | exact trivial
 | (with_reducible rfl)
 | ((with_reducible refine And.intro ?_ ?_) <;> conv => whnf)
 | omega
 | rfl
 | (refine congrArg (SV.arr _) ?_)
 | (refine congrArg (Value.int _) ?_)
 | (refine congrArg Value.bool ?_))
       · have hde : d = 24 - a := by omega
         repeat' (first
 | refine W.seq ?_
 | refine W.block ?_
 | (refine W.region tys_ok [] ?_; conv => whnf)
 | (refine W.drawAll tys_ok [] mixed rfl ?_; conv => whnf)
 | (refine W.ret ?_; conv => whnf)
 | (refine W.skip ?_; conv => whnf)
 | (refine W.exit ?_; conv => whnf)
 | (refine W.cond rfl (fun hb => ?_) (fun hb => ?_) <;> (try simp only [Int.reduceToNat, Int.reduceTDiv, Int.reduceTMod, minL, maxL, pickB, zHB, zSJ] at hb) <;> (try (first | (cases hb; done) | exact absurd hb (by decide) | (exfalso; omega))))
 | ((with_reducible refine And.intro ?_ ?_); (focus (first | (with_reducible rfl) | omega | rfl | ((try simp only [Int.reduceToNat, Int.reduceTDiv, Int.reduceTMod, minL, maxL, pickB, zHB, zSJ, InK, Path.imp, zL] at *); omega))); (conv => whnf))
 | ((with_reducible refine And.intro (Side.out ?_) ?_); rotate_left; (conv => whnf))
 | ((first | refine retF1 ?_ | refine retF2 ?_) <;> (conv => whnf) <;> repeat' (first
 | exact trivial
 | (with_reducible rfl)
 | ((with_reducible refine And.intro ?_ ?_) <;> conv => whnf)
 | omega
 | rfl
 | (refine congrArg (SV.arr _) ?_)
 | (refine congrArg (Value.int _) ?_)
 | (refine congrArg Value.bool ?_)))); all_goals (try unfold Side)
         all_goals try (repeat' (first | (with_reducible rfl) | (with_reducible refine And.intro ?_ ?_) | omega | rfl | exact Or.inl rfl | exact Or.inr rfl | exact of_decide_eq_true rfl | exact Path.imp_of (of_decide_eq_true rfl) | (focus ((try simp only [Int.reduceToNat, Int.reduceTDiv, Int.reduceTMod, minL, maxL, pickB, zHB, zSJ, InK, Path.imp, zL] at *); omega)) | (refine app_le rfl ?_; omega)))
         refine ⟨a + 1, ⟨⟨by omega, fun b hb => ?_⟩, by omega⟩, ?_⟩
         · by_cases g : b = a
           · subst g; rw [← hde]; exact hnd
           · exact hno b (by omega)
         · refine subF.ok ?_ <;> (conv => whnf) <;> repeat' (first
 | exact trivial
 | (with_reducible rfl)
 | ((with_reducible refine And.intro ?_ ?_) <;> conv => whnf)
 | omega
 | rfl
 | (refine congrArg (SV.arr _) ?_)
 | (refine congrArg (Value.int _) ?_)
 | (refine congrArg Value.bool ?_))
   · have hae : a = 24 := by omega
     subst hae
     obtain ⟨e1, e2, e3⟩ := hmiss hno
     repeat' (first
 | refine W.seq ?_
 | refine W.block ?_
 | (refine W.region tys_ok [] ?_; conv => whnf)
 | (refine W.drawAll tys_ok [] mixed rfl ?_; conv => whnf)
 | (refine W.ret ?_; conv => whnf)
 | (refine W.skip ?_; conv => whnf)
 | (refine W.exit ?_; conv => whnf)
 | (refine W.cond rfl (fun hb => ?_) (fun hb => ?_) <;> (try simp only [Int.reduceToNat, Int.reduceTDiv, Int.reduceTMod, minL, maxL, pickB, zHB, zSJ] at hb) <;> (try (first | (cases hb; done) | exact absurd hb (by decide) | (exfalso; omega))))
 | ((with_reducible refine And.intro ?_ ?_); (focus (first | (with_reducible rfl) | omega | rfl | ((try simp only [Int.reduceToNat, Int.reduceTDiv, Int.reduceTMod, minL, maxL, pickB, zHB, zSJ, InK, Path.imp, zL] at *); omega))); (conv => whnf))
 | ((with_reducible refine And.intro (Side.out ?_) ?_); rotate_left; (conv => whnf))
 | ((first | refine retF1 ?_ | refine retF2 ?_) <;> (conv => whnf) <;> repeat' (first
 | exact trivial
 | (with_reducible rfl)
 | ((with_reducible refine And.intro ?_ ?_) <;> conv => whnf)
 | omega
 | rfl
 | (refine congrArg (SV.arr _) ?_)
 | (refine congrArg (Value.int _) ?_)
 | (refine congrArg Value.bool ?_)))); all_goals (try unfold Side)
     all_goals try (repeat' (first | (with_reducible rfl) | (with_reducible refine And.intro ?_ ?_) | omega | rfl | exact Or.inl rfl | exact Or.inr rfl | exact of_decide_eq_true rfl | exact Path.imp_of (of_decide_eq_true rfl) | (focus ((try simp only [Int.reduceToNat, Int.reduceTDiv, Int.reduceTMod, minL, maxL, pickB, zHB, zSJ, InK, Path.imp, zL] at *); omega)) | (refine app_le rfl ?_; omega)))
     all_goals first | exact e1.symm | exact e2.symm | exact e3.symm
open Go Go.Vc Go.Sh
set_option maxHeartbeats 4000000 in
theorem valid_at {P : Int} {l : List Jb} {os : List Od} (hl : l.length ≤ 1000) (ho : os.length ≤ 1000) : FnAt Tryd.prog false 33 [.agg [I64 P, .arr JT l, .arr OT os]] (.lit (.bool (validB P l os))) [] := by
 have hno0 : ¬ ((1 ≤ P ∧ P ≤ 20) ∧ (1 ≤ l.length ∧ l.length ≤ 6) ∧ os.length ≤ 20) → validB P l os = false := fun hc => validB_no fun h => hc ⟨h.pw, h.ln, h.lo⟩
 have hno1 : ∀ i, i < l.length → ¬ JobOk (l.getD i J0) → validB P l os = false := fun i hi hc => validB_no fun h => hc (h.rg i hi)
 have hno2 : ∀ i, i < os.length → ¬ OrdOk l.length (os.getD i O0) → validB P l os = false := fun i hi hc => validB_no fun h => hc (h.od i hi)
 have hend : ((1 ≤ P ∧ P ≤ 20) ∧ (1 ≤ l.length ∧ l.length ≤ 6) ∧ os.length ≤ 20) → (∀ i, i < l.length → JobOk (l.getD i J0)) → (∀ i, i < os.length → OrdOk l.length (os.getD i O0)) → validB P l os = true := fun h0 h1 h2 => validB_yes ⟨h0.1, h0.2.1, h0.2.2, h1, h2⟩
 obtain ⟨V, hV⟩ : ∃ V, V = validB P l os := ⟨_, rfl⟩
 rw [← hV] at hno0 hno1 hno2 hend ⊢
 clear hV
 have hll : @List.length JT.T l = l.length := rfl
 have hlo : @List.length OT.T os = os.length := rfl
 refine FnAt.of_body tys_ok Tryd.func33 (by rfl) rfl Tryd.ntmps33 (by rw [Tryd.results33]) (by simp) ?_
 by_cases h0 : (1 ≤ P ∧ P ≤ 20) ∧ (1 ≤ l.length ∧ l.length ≤ 6) ∧ os.length ≤ 20
 · repeat' (first
 | refine W.seq ?_
 | refine W.block ?_
 | (refine W.region tys_ok [] ?_; conv => whnf)
 | (refine W.drawAll tys_ok [] mixed rfl ?_; conv => whnf)
 | (refine W.ret ?_; conv => whnf)
 | (refine W.skip ?_; conv => whnf)
 | (refine W.exit ?_; conv => whnf)
 | (refine W.cond rfl (fun hb => ?_) (fun hb => ?_) <;> (try simp only [Int.reduceToNat, Int.reduceTDiv, Int.reduceTMod, minL, maxL, pickB, zHB, zSJ] at hb) <;> (try (first | (cases hb; done) | exact absurd hb (by decide) | (exfalso; omega) | (omega))))
 | ((with_reducible refine And.intro ?_ ?_); (focus (first | (with_reducible rfl) | omega | rfl | ((try simp only [Int.reduceToNat, Int.reduceTDiv, Int.reduceTMod, minL, maxL, pickB, zHB, zSJ, InK, Path.imp, zL] at *); omega))); (conv => whnf))
 | ((with_reducible refine And.intro (Side.out ?_) ?_); rotate_left; (conv => whnf))
 | ((first | refine retF1 ?_ | refine retF2 ?_) <;> (conv => whnf) <;> repeat' (first
 | exact trivial
 | (with_reducible rfl)
 | ((with_reducible refine And.intro ?_ ?_) <;> conv => whnf)
 | omega
 | rfl
 | (refine congrArg (SV.arr _) ?_)
 | (refine congrArg (Value.int _) ?_)
 | (refine congrArg Value.bool ?_)))); all_goals (try unfold Side)
   all_goals try (repeat' (first | (with_reducible rfl) | (with_reducible refine And.intro ?_ ?_) | omega | rfl | exact Or.inl rfl | exact Or.inr rfl | exact of_decide_eq_true rfl | exact Path.imp_of (of_decide_eq_true rfl) | (focus ((try simp only [Int.reduceToNat, Int.reduceTDiv, Int.reduceTMod, minL, maxL, pickB, zHB, zSJ, InK, Path.imp, zL] at *); omega)) | (refine app_le rfl ?_; omega)))
   refine W.loop (fun i : Nat => ⟨[(1, .st false (.sadr (.agg [I64 P, .arr JT l, .arr OT os]))), (35, .st false (.arr JT l)), (36, .lit (.int .i64 ((l.length : Int)))), (37, .lit (.int .i64 (i)))], []⟩) (fun i => i ≤ l.length ∧ (∀ m, m < i → JobOk (l.getD m J0))) (fun i => l.length - i) (0) ?_ ?_
   · refine ⟨⟨Nat.zero_le _, by omega⟩, ?_⟩
     refine subF.ok ?_ <;> (conv => whnf) <;> repeat' (first
 | exact trivial
 | (with_reducible rfl)
 | ((with_reducible refine And.intro ?_ ?_) <;> conv => whnf)
 | omega
 | rfl
 | (refine congrArg (SV.arr _) ?_)
 | (refine congrArg (Value.int _) ?_)
 | (refine congrArg Value.bool ?_))
   · rintro i ⟨hi, hj⟩
     by_cases hil : i < l.length
     · have hn := hno1 i hil
       by_cases hc : JobOk (l.getD i J0)
       · have hc' := hc
         unfold JobOk at hc'
         repeat' (first
 | refine W.seq ?_
 | refine W.block ?_
 | (refine W.region tys_ok [] ?_; conv => whnf)
 | (refine W.drawAll tys_ok [] mixed rfl ?_; conv => whnf)
 | (refine W.ret ?_; conv => whnf)
 | (refine W.skip ?_; conv => whnf)
 | (refine W.exit ?_; conv => whnf)
 | (refine W.cond rfl (fun hb => ?_) (fun hb => ?_) <;> (try simp only [Int.reduceToNat, Int.reduceTDiv, Int.reduceTMod, minL, maxL, pickB, zHB, zSJ] at hb) <;> (try (first | (cases hb; done) | exact absurd hb (by decide) | (exfalso; omega) | (omega))))
 | ((with_reducible refine And.intro ?_ ?_); (focus (first | (with_reducible rfl) | omega | rfl | ((try simp only [Int.reduceToNat, Int.reduceTDiv, Int.reduceTMod, minL, maxL, pickB, zHB, zSJ, InK, Path.imp, zL] at *); omega))); (conv => whnf))
 | ((with_reducible refine And.intro (Side.out ?_) ?_); rotate_left; (conv => whnf))
 | ((first | refine retF1 ?_ | refine retF2 ?_) <;> (conv => whnf) <;> repeat' (first
 | exact trivial
 | (with_reducible rfl)
 | ((with_reducible refine And.intro ?_ ?_) <;> conv => whnf)
 | omega
 | rfl
 | (refine congrArg (SV.arr _) ?_)
 | (refine congrArg (Value.int _) ?_)
 | (refine congrArg Value.bool ?_)))); all_goals (try unfold Side)
         all_goals try (repeat' (first | (with_reducible rfl) | (with_reducible refine And.intro ?_ ?_) | omega | rfl | exact Or.inl rfl | exact Or.inr rfl | exact of_decide_eq_true rfl | exact Path.imp_of (of_decide_eq_true rfl) | (focus ((try simp only [Int.reduceToNat, Int.reduceTDiv, Int.reduceTMod, minL, maxL, pickB, zHB, zSJ, InK, Path.imp, zL] at *); omega)) | (refine app_le rfl ?_; omega)))
         refine ⟨i + 1, ⟨⟨by omega, fun m hm => ?_⟩, by omega⟩, ?_⟩
         · by_cases e : m = i
           · subst e; exact hc
           · exact hj m (by omega)
         · refine subF.ok ?_ <;> (conv => whnf) <;> repeat' (first
 | exact trivial
 | (with_reducible rfl)
 | ((with_reducible refine And.intro ?_ ?_) <;> conv => whnf)
 | omega
 | rfl
 | (refine congrArg (SV.arr _) ?_)
 | (refine congrArg (Value.int _) ?_)
 | (refine congrArg Value.bool ?_))
       · have hc' := hc
         have hn := hn hc
         unfold JobOk at hc'
         repeat' (first
 | refine W.seq ?_
 | refine W.block ?_
 | (refine W.region tys_ok [] ?_; conv => whnf)
 | (refine W.drawAll tys_ok [] mixed rfl ?_; conv => whnf)
 | (refine W.ret ?_; conv => whnf)
 | (refine W.skip ?_; conv => whnf)
 | (refine W.exit ?_; conv => whnf)
 | (refine W.cond rfl (fun hb => ?_) (fun hb => ?_) <;> (try simp only [Int.reduceToNat, Int.reduceTDiv, Int.reduceTMod, minL, maxL, pickB, zHB, zSJ] at hb) <;> (try (first | (cases hb; done) | exact absurd hb (by decide) | (exfalso; omega) | (omega))))
 | ((with_reducible refine And.intro ?_ ?_); (focus (first | (with_reducible rfl) | omega | rfl | ((try simp only [Int.reduceToNat, Int.reduceTDiv, Int.reduceTMod, minL, maxL, pickB, zHB, zSJ, InK, Path.imp, zL] at *); omega))); (conv => whnf))
 | ((with_reducible refine And.intro (Side.out ?_) ?_); rotate_left; (conv => whnf))
 | ((first | refine retF1 ?_ | refine retF2 ?_) <;> (conv => whnf) <;> repeat' (first
 | exact trivial
 | (with_reducible rfl)
 | ((with_reducible refine And.intro ?_ ?_) <;> conv => whnf)
 | omega
 | rfl
 | (refine congrArg (SV.arr _) ?_)
 | (refine congrArg (Value.int _) ?_)
 | (refine congrArg Value.bool ?_)))); all_goals (try unfold Side)
         all_goals try (repeat' (first | (with_reducible rfl) | (with_reducible refine And.intro ?_ ?_) | omega | rfl | exact Or.inl rfl | exact Or.inr rfl | exact of_decide_eq_true rfl | exact Path.imp_of (of_decide_eq_true rfl) | (focus ((try simp only [Int.reduceToNat, Int.reduceTDiv, Int.reduceTMod, minL, maxL, pickB, zHB, zSJ, InK, Path.imp, zL] at *); omega)) | (refine app_le rfl ?_; omega)))
         all_goals exact hn.symm
     · have hie : l.length = i := by omega
       subst hie
       repeat' (first
 | refine W.seq ?_
 | refine W.block ?_
 | (refine W.region tys_ok [] ?_; conv => whnf)
 | (refine W.drawAll tys_ok [] mixed rfl ?_; conv => whnf)
 | (refine W.ret ?_; conv => whnf)
 | (refine W.skip ?_; conv => whnf)
 | (refine W.exit ?_; conv => whnf)
 | (refine W.cond rfl (fun hb => ?_) (fun hb => ?_) <;> (try simp only [Int.reduceToNat, Int.reduceTDiv, Int.reduceTMod, minL, maxL, pickB, zHB, zSJ] at hb) <;> (try (first | (cases hb; done) | exact absurd hb (by decide) | (exfalso; omega))))
 | ((with_reducible refine And.intro ?_ ?_); (focus (first | (with_reducible rfl) | omega | rfl | ((try simp only [Int.reduceToNat, Int.reduceTDiv, Int.reduceTMod, minL, maxL, pickB, zHB, zSJ, InK, Path.imp, zL] at *); omega))); (conv => whnf))
 | ((with_reducible refine And.intro (Side.out ?_) ?_); rotate_left; (conv => whnf))
 | ((first | refine retF1 ?_ | refine retF2 ?_) <;> (conv => whnf) <;> repeat' (first
 | exact trivial
 | (with_reducible rfl)
 | ((with_reducible refine And.intro ?_ ?_) <;> conv => whnf)
 | omega
 | rfl
 | (refine congrArg (SV.arr _) ?_)
 | (refine congrArg (Value.int _) ?_)
 | (refine congrArg Value.bool ?_)))); all_goals (try unfold Side)
       all_goals try (repeat' (first | (with_reducible rfl) | (with_reducible refine And.intro ?_ ?_) | omega | rfl | exact Or.inl rfl | exact Or.inr rfl | exact of_decide_eq_true rfl | exact Path.imp_of (of_decide_eq_true rfl) | (focus ((try simp only [Int.reduceToNat, Int.reduceTDiv, Int.reduceTMod, minL, maxL, pickB, zHB, zSJ, InK, Path.imp, zL] at *); omega)) | (refine app_le rfl ?_; omega)))
       refine W.loop (fun i : Nat => ⟨[(5, .lit (.int .i64 ((l.length : Int)))), (86, .st false (.arr OT os)), (87, .lit (.int .i64 ((os.length : Int)))), (88, .lit (.int .i64 (i)))], []⟩) (fun i => i ≤ os.length ∧ (∀ m, m < i → OrdOk l.length (os.getD m O0))) (fun i => os.length - i) (0) ?_ ?_
       · refine ⟨⟨Nat.zero_le _, by omega⟩, ?_⟩
         refine subF.ok ?_ <;> (conv => whnf) <;> repeat' (first
 | exact trivial
 | (with_reducible rfl)
 | ((with_reducible refine And.intro ?_ ?_) <;> conv => whnf)
 | omega
 | rfl
 | (refine congrArg (SV.arr _) ?_)
 | (refine congrArg (Value.int _) ?_)
 | (refine congrArg Value.bool ?_))
       · rintro i ⟨hi, hj2⟩
         by_cases hil : i < os.length
         · have hn := hno2 i hil
           by_cases hc : OrdOk l.length (os.getD i O0)
           · have hc' := hc
             unfold OrdOk at hc'
             repeat' (first
 | refine W.seq ?_
 | refine W.block ?_
 | (refine W.region tys_ok [] ?_; conv => whnf)
 | (refine W.drawAll tys_ok [] mixed rfl ?_; conv => whnf)
 | (refine W.ret ?_; conv => whnf)
 | (refine W.skip ?_; conv => whnf)
 | (refine W.exit ?_; conv => whnf)
 | (refine W.cond rfl (fun hb => ?_) (fun hb => ?_) <;> (try simp only [Int.reduceToNat, Int.reduceTDiv, Int.reduceTMod, minL, maxL, pickB, zHB, zSJ] at hb) <;> (try (first | (cases hb; done) | exact absurd hb (by decide) | (exfalso; omega) | (omega))))
 | ((with_reducible refine And.intro ?_ ?_); (focus (first | (with_reducible rfl) | omega | rfl | ((try simp only [Int.reduceToNat, Int.reduceTDiv, Int.reduceTMod, minL, maxL, pickB, zHB, zSJ, InK, Path.imp, zL] at *); omega))); (conv => whnf))
 | ((with_reducible refine And.intro (Side.out ?_) ?_); rotate_left; (conv => whnf))
 | ((first | refine retF1 ?_ | refine retF2 ?_) <;> (conv => whnf) <;> repeat' (first
 | exact trivial
 | (with_reducible rfl)
 | ((with_reducible refine And.intro ?_ ?_) <;> conv => whnf)
 | omega
 | rfl
 | (refine congrArg (SV.arr _) ?_)
 | (refine congrArg (Value.int _) ?_)
 | (refine congrArg Value.bool ?_)))); all_goals (try unfold Side)
             all_goals try (repeat' (first | (with_reducible rfl) | (with_reducible refine And.intro ?_ ?_) | omega | rfl | exact Or.inl rfl | exact Or.inr rfl | exact of_decide_eq_true rfl | exact Path.imp_of (of_decide_eq_true rfl) | (focus ((try simp only [Int.reduceToNat, Int.reduceTDiv, Int.reduceTMod, minL, maxL, pickB, zHB, zSJ, InK, Path.imp, zL] at *); omega)) | (refine app_le rfl ?_; omega)))
             refine ⟨i + 1, ⟨⟨by omega, fun m hm => ?_⟩, by omega⟩, ?_⟩
             · by_cases e : m = i
               · subst e; exact hc
               · exact hj2 m (by omega)
             · refine subF.ok ?_ <;> (conv => whnf) <;> repeat' (first
 | exact trivial
 | (with_reducible rfl)
 | ((with_reducible refine And.intro ?_ ?_) <;> conv => whnf)
 | omega
 | rfl
 | (refine congrArg (SV.arr _) ?_)
 | (refine congrArg (Value.int _) ?_)
 | (refine congrArg Value.bool ?_))
           · have hc' := hc
             have hn := hn hc
             unfold OrdOk at hc'
             repeat' (first
 | refine W.seq ?_
 | refine W.block ?_
 | (refine W.region tys_ok [] ?_; conv => whnf)
 | (refine W.drawAll tys_ok [] mixed rfl ?_; conv => whnf)
 | (refine W.ret ?_; conv => whnf)
 | (refine W.skip ?_; conv => whnf)
 | (refine W.exit ?_; conv => whnf)
 | (refine W.cond rfl (fun hb => ?_) (fun hb => ?_) <;> (try simp only [Int.reduceToNat, Int.reduceTDiv, Int.reduceTMod, minL, maxL, pickB, zHB, zSJ] at hb) <;> (try (first | (cases hb; done) | exact absurd hb (by decide) | (exfalso; omega) | (omega))))
 | ((with_reducible refine And.intro ?_ ?_); (focus (first | (with_reducible rfl) | omega | rfl | ((try simp only [Int.reduceToNat, Int.reduceTDiv, Int.reduceTMod, minL, maxL, pickB, zHB, zSJ, InK, Path.imp, zL] at *); omega))); (conv => whnf))
 | ((with_reducible refine And.intro (Side.out ?_) ?_); rotate_left; (conv => whnf))
 | ((first | refine retF1 ?_ | refine retF2 ?_) <;> (conv => whnf) <;> repeat' (first
 | exact trivial
 | (with_reducible rfl)
 | ((with_reducible refine And.intro ?_ ?_) <;> conv => whnf)
 | omega
 | rfl
 | (refine congrArg (SV.arr _) ?_)
 | (refine congrArg (Value.int _) ?_)
 | (refine congrArg Value.bool ?_)))); all_goals (try unfold Side)
             all_goals try (repeat' (first | (with_reducible rfl) | (with_reducible refine And.intro ?_ ?_) | omega | rfl | exact Or.inl rfl | exact Or.inr rfl | exact of_decide_eq_true rfl | exact Path.imp_of (of_decide_eq_true rfl) | (focus ((try simp only [Int.reduceToNat, Int.reduceTDiv, Int.reduceTMod, minL, maxL, pickB, zHB, zSJ, InK, Path.imp, zL] at *); omega)) | (refine app_le rfl ?_; omega)))
             all_goals exact hn.symm
         · have hie : os.length = i := by omega
           subst hie
           repeat' (first
 | refine W.seq ?_
 | refine W.block ?_
 | (refine W.region tys_ok [] ?_; conv => whnf)
 | (refine W.drawAll tys_ok [] mixed rfl ?_; conv => whnf)
 | (refine W.ret ?_; conv => whnf)
 | (refine W.skip ?_; conv => whnf)
 | (refine W.exit ?_; conv => whnf)
 | (refine W.cond rfl (fun hb => ?_) (fun hb => ?_) <;> (try simp only [Int.reduceToNat, Int.reduceTDiv, Int.reduceTMod, minL, maxL, pickB, zHB, zSJ] at hb) <;> (try (first | (cases hb; done) | exact absurd hb (by decide) | (exfalso; omega))))
 | ((with_reducible refine And.intro ?_ ?_); (focus (first | (with_reducible rfl) | omega | rfl | ((try simp only [Int.reduceToNat, Int.reduceTDiv, Int.reduceTMod, minL, maxL, pickB, zHB, zSJ, InK, Path.imp, zL] at *); omega))); (conv => whnf))
 | ((with_reducible refine And.intro (Side.out ?_) ?_); rotate_left; (conv => whnf))
 | ((first | refine retF1 ?_ | refine retF2 ?_) <;> (conv => whnf) <;> repeat' (first
 | exact trivial
 | (with_reducible rfl)
 | ((with_reducible refine And.intro ?_ ?_) <;> conv => whnf)
 | omega
 | rfl
 | (refine congrArg (SV.arr _) ?_)
 | (refine congrArg (Value.int _) ?_)
 | (refine congrArg Value.bool ?_)))); all_goals (try unfold Side)
           all_goals try (repeat' (first | (with_reducible rfl) | (with_reducible refine And.intro ?_ ?_) | omega | rfl | exact Or.inl rfl | exact Or.inr rfl | exact of_decide_eq_true rfl | exact Path.imp_of (of_decide_eq_true rfl) | (focus ((try simp only [Int.reduceToNat, Int.reduceTDiv, Int.reduceTMod, minL, maxL, pickB, zHB, zSJ, InK, Path.imp, zL] at *); omega)) | (refine app_le rfl ?_; omega)))
           all_goals exact (hend h0 hj hj2).symm
 · have hn := hno0 h0
   repeat' (first
 | refine W.seq ?_
 | refine W.block ?_
 | (refine W.region tys_ok [] ?_; conv => whnf)
 | (refine W.drawAll tys_ok [] mixed rfl ?_; conv => whnf)
 | (refine W.ret ?_; conv => whnf)
 | (refine W.skip ?_; conv => whnf)
 | (refine W.exit ?_; conv => whnf)
 | (refine W.cond rfl (fun hb => ?_) (fun hb => ?_) <;> (try simp only [Int.reduceToNat, Int.reduceTDiv, Int.reduceTMod, minL, maxL, pickB, zHB, zSJ] at hb) <;> (try (first | (cases hb; done) | exact absurd hb (by decide) | (exfalso; omega) | (omega))))
 | ((with_reducible refine And.intro ?_ ?_); (focus (first | (with_reducible rfl) | omega | rfl | ((try simp only [Int.reduceToNat, Int.reduceTDiv, Int.reduceTMod, minL, maxL, pickB, zHB, zSJ, InK, Path.imp, zL] at *); omega))); (conv => whnf))
 | ((with_reducible refine And.intro (Side.out ?_) ?_); rotate_left; (conv => whnf))
 | ((first | refine retF1 ?_ | refine retF2 ?_) <;> (conv => whnf) <;> repeat' (first
 | exact trivial
 | (with_reducible rfl)
 | ((with_reducible refine And.intro ?_ ?_) <;> conv => whnf)
 | omega
 | rfl
 | (refine congrArg (SV.arr _) ?_)
 | (refine congrArg (Value.int _) ?_)
 | (refine congrArg Value.bool ?_)))); all_goals (try unfold Side)
   all_goals try (repeat' (first | (with_reducible rfl) | (with_reducible refine And.intro ?_ ?_) | omega | rfl | exact Or.inl rfl | exact Or.inr rfl | exact of_decide_eq_true rfl | exact Path.imp_of (of_decide_eq_true rfl) | (focus ((try simp only [Int.reduceToNat, Int.reduceTDiv, Int.reduceTMod, minL, maxL, pickB, zHB, zSJ, InK, Path.imp, zL] at *); omega)) | (refine app_le rfl ?_; omega)))
   all_goals exact hn.symm
end Go.Proofs.YtckmhlpngolbpaaDoor
