/- Joined of: Vc1 Vc2 Vc3 Vc4 Vc5 Vc6 Vc7 Vc8 Vc9 Vc10 Vc11. No condition. -/
import Derived.Orders
import Derived.KernelRfl
import Derived.Laws.AppendOwn
import Derived.Laws.MakeOwn
import Derived.Laws.CopyOwn
import Derived.Laws.Slices
import Derived.OwnWalk
import Derived.IntWalk
set_option linter.unusedVariables false
set_option linter.unusedSimpArgs false
namespace Go.Vc
abbrev Path := List (Bool × Bool)
def Path.ok : Path → Prop
 | [] => True
 | x :: r => x.1 = x.2 ∧ Path.ok r
instance Path.dec : (p : Path) → Decidable p.ok
 | [] => isTrue trivial
 | x :: r => by
  have := Path.dec r
  unfold Path.ok
  exact inferInstance
inductive Ty where
 | int (k : IntKind)
 | bool
 | str
 | sl (t : Ty)
 | nil
 | cons (h t : Ty)
 deriving DecidableEq
def Ty.T : Ty → Type
 | .int _ => Int
 | .bool => Bool
 | .str => ByteArray
 | .sl t => List t.T
 | .nil => Unit
 | .cons h t => h.T × t.T
def Ty.dflt : (t : Ty) → t.T
 | .int _ => (0 : Int)
 | .bool => false
 | .str => ByteArray.empty
 | .sl _ => []
 | .nil => ()
 | .cons h t => (h.dflt, t.dflt)
def Ty.size : Ty → Nat
 | .nil => 0
 | .cons _ t => t.size + 1
 | _ => 1
def Ty.zcells : Ty → List Value
 | .int k => [.int k 0]
 | .bool => [.bool false]
 | .str => [.string ByteArray.empty]
 | .sl _ => [.slice none 0 0]
 | .nil => []
 | .cons h t => h.zcells ++ t.zcells
def Ty.leaf : Ty → Bool
 | .nil => false
 | .cons _ _ => false
 | _ => true
def Ty.good : Ty → Bool
 | .nil => true
 | .cons h t => h.leaf && h.good && t.good && (match t with | .nil => true | .cons _ _ => true | _ => false)
 | .sl t => t.good
 | _ => true
inductive SV where
 | lit (v : Value)
 | agg (l : List SV)
 | arr (t : Ty) (xs : List t.T)
 | narr (t : Ty) (xs : List t.T)
 | sadr (A : SV)
 | fn (f : Nat) (caps : List SV)
 | ifc (t : TypeId) (A : SV)
 /- a row whose cells are these values -/
 | vec (l : List SV)
mutual
def Ty.enc : (t : Ty) → t.T → SV
 | .int k, (n : Int) => .lit (.int k n)
 | .bool, (b : Bool) => .lit (.bool b)
 | .str, (s : ByteArray) => .lit (.string s)
 | .sl t, (xs : List t.T) => .arr t xs
 | .nil, _ => .agg []
 | .cons h t, (x : h.T × t.T) => .agg (h.enc x.1 :: t.encL x.2)
def Ty.encL : (t : Ty) → t.T → List SV
 | .cons h t, (x : h.T × t.T) => h.enc x.1 :: t.encL x.2
 | _, _ => []
end
inductive AV where
 | lit (v : Value)
 | st (fr : Bool) (A : SV)
 | fn (f : Nat) (caps : List AV)
 | own (k : Nat)
 | oadr (k es i j : Nat)
 | padr (k j : Nat)
 | tup (l : List AV)
 | strct (l : List AV)
 | gd (p : Path) (A : AV)
 | mown (k : Nat)
 | madr (k i : Nat)
 | inn (k i : Nat)
 | iadr (k i es j l : Nat)
 | qadr (k i : Nat)
 | ocut (k i j : Nat)
 | any
inductive RpS (w : World) (O : Nat → Prop) : Value → SV → Prop
  | lit (v : Value) (h : v.oneCell' = true) : RpS w O v (.lit v)
  | agg (cs : Array Value) (l : List SV) (f : Nat → Value) (hs : cs.size = l.length)
      (hf : ∀ i, i < l.length → cs[i]? = some (f i) ∧ (f i).oneCell' = true) (hr : ∀ i B, l[i]? = some B → RpS w O (f i) B) : RpS w O (.agg cs) (.agg l)
  | nil (t : Ty) : RpS w O (.slice none 0 0) (.arr t [])
  | emp (t : Ty) (a : Addr) (cap : Nat) : RpS w O (.slice (some a) 0 cap) (.arr t [])
  | arr (b off cap n : Nat) (t : Ty) (xs : List t.T) (arr : Array Value) (e : TypeId) (fz : Nat × Nat) (f : Nat → Value)
      (hb : w.heap[b]? = some (.cells arr e fz)) (hO : ¬ O b) (hn : n = xs.length) (hc : n ≤ cap) (hm : cap ≤ maxLen)
      (hf : ∀ i, i < n → (f i).cells.size = t.size ∧ ∀ j, j < t.size → arr[off + (i * t.size + j)]? = (f i).cells[j]?)
      (hr : ∀ i x, xs[i]? = some x → RpS w O (f i) (t.enc x)) : RpS w O (.slice (some ⟨b, off, none⟩) n cap) (.arr t xs)
  | narr (t : Ty) (xs : List t.T) (v : Value) (h : RpS w O v (.arr t xs)) (hn : xs = [] → v = .slice none 0 0) : RpS w O v (.narr t xs)
  | sadr (b off : Nat) (A : SV) (x : Value) (arr : Array Value) (e : TypeId) (fz : Nat × Nat)
      (hb : w.heap[b]? = some (.cells arr e fz)) (hO : ¬ O b)
      (hf : ∀ j, j < x.cells.size → arr[off + j]? = x.cells[j]?) (hr : RpS w O x A) : RpS w O (.pointer (some ⟨b, off, none⟩)) (.sadr A)
  | fn (f : Nat) (caps : List SV) (cs : Array Value) (g : Nat → Value) (hs : cs.size = caps.length)
      (hf : ∀ i, i < caps.length → cs[i]? = some (g i)) (hr : ∀ i B, caps[i]? = some B → RpS w O (g i) B) : RpS w O (.func (.func f) #[] cs) (.fn f caps)
  | ifc (t : TypeId) (A : SV) (v : Value) (hr : RpS w O v A) : RpS w O (.iface t v) (.ifc t A)
  | vec (b off cap n : Nat) (l : List SV) (arr : Array Value) (e : TypeId) (fz : Nat × Nat) (f : Nat → Value)
      (hb : w.heap[b]? = some (.cells arr e fz)) (hO : ¬ O b) (hn : n = l.length) (hc : n ≤ cap)
      (hf : ∀ i, i < n → arr[off + i]? = some (f i) ∧ (f i).oneCell' = true) (hr : ∀ i B, l[i]? = some B → RpS w O (f i) B) : RpS w O (.slice (some ⟨b, off, none⟩) n cap) (.vec l)
theorem RpS.mono {w w' : World} {O O' : Nat → Prop} (hw : ∀ b c e fz, w.heap[b]? = some (.cells c e fz) → ¬ O b → w'.heap[b]? = some (.cells c e fz) ∧ ¬ O' b)
  {v : Value} {A : SV} (h : RpS w O v A) : RpS w' O' v A := by
 induction h with
 | lit v h => exact .lit v h
 | agg cs l f hs hf _ ih => exact .agg cs l f hs hf ih
 | nil t => exact .nil t
 | emp t a cap => exact .emp t a cap
 | arr b off cap n t xs arr e fz f hb hO hn hc hm hf _ ih => exact .arr b off cap n t xs arr e fz f (hw _ _ _ _ hb hO).1 (hw _ _ _ _ hb hO).2 hn hc hm hf ih
 | narr t xs v _ hn ih => exact .narr t xs v ih hn
 | sadr b off A x arr e fz hb hO hf _ ih => exact .sadr b off A x arr e fz (hw _ _ _ _ hb hO).1 (hw _ _ _ _ hb hO).2 hf ih
 | fn f caps cs g hs hf _ ih => exact .fn f caps cs g hs hf ih
 | ifc t A v _ ih => exact .ifc t A v ih
 | vec b off cap n l arr e fz f hb hO hn hc hf _ ih => exact .vec b off cap n l arr e fz f (hw _ _ _ _ hb hO).1 (hw _ _ _ _ hb hO).2 hn hc hf ih
def Av (O O0 : Nat → Prop) (fr : Bool) (b : Nat) : Prop := O b ∨ (fr = true ∧ O0 b)
def hd : Value → Value
 | .tuple cs => cs.getD 0 (.slice none 0 0)
 | v => v
def sub : Value → Nat → Value
 | .tuple cs, i => cs.getD (i + 1) (.slice none 0 0)
 | _, _ => .slice none 0 0
def isPl (m : Nat) : Bool := Nat.blt m 1000000
def unB (m : Nat) : Nat := m - 1000000
def fnV (m : Nat) (vs : Array Value) : Value := match isPl m with
 | true => .func (.func m) #[] vs
 | false => .func (.func (unB m)) vs #[]
def Rp1 (w : World) (O O0 : Nat → Prop) (g : Nat → Value) (v : Value) : AV → Prop
 | .own k => v = g k
 | .oadr k es i j => ∃ b n c, g k = .slice (some ⟨b, 0, none⟩) n c ∧ v = .pointer (some ⟨b, i * es + j, none⟩)
 | .padr k j => ∃ b, g k = .pointer (some ⟨b, 0, none⟩) ∧ v = .pointer (some ⟨b, j, none⟩)
 | .mown k => v = hd (g k)
 | .madr k i => ∃ b n c, hd (g k) = .slice (some ⟨b, 0, none⟩) n c ∧ v = .pointer (some ⟨b, i, none⟩)
 | .inn k i => v = sub (g k) i
 | .iadr k i es j l => ∃ b n c, sub (g k) i = .slice (some ⟨b, 0, none⟩) n c ∧ v = .pointer (some ⟨b, j * es + l, none⟩)
 | .ocut k i j => ∃ b n c, g k = .slice (some ⟨b, 0, none⟩) n c ∧ i ≤ j ∧ j ≤ n ∧ v = .slice (some (if c = i then ⟨b, 0, none⟩ else ⟨b, i, none⟩)) (j - i) (c - i)
 | .qadr k i => ∃ b off n c, g k = .slice (some ⟨b, off, none⟩) n c ∧ v = .pointer (some ⟨b, off + i, none⟩)
 | .any => True
 | .lit u => v = u ∧ u.oneCell' = true
 | .st fr A => RpS w (Av O O0 fr) v A
 | _ => False
def RpM (w : World) (O O0 : Nat → Prop) (g : Nat → Value) (v : Value) : AV → Prop
 | .strct l => ∃ (f : Nat → Value) (vs : Array Value), v = .agg vs ∧ vs.size = l.length ∧ ∀ i B, l[i]? = some B → (vs[i]? = some (f i) ∧ (f i).oneCell' = true) ∧ Rp1 w O O0 g (f i) B
 | A => Rp1 w O O0 g v A
def Rp2 (w : World) (O O0 : Nat → Prop) (g : Nat → Value) (v : Value) : AV → Prop
 | .tup l => ∃ (f : Nat → Value) (vs : Array Value), v = .tuple vs ∧ vs.size = l.length ∧ ∀ i B, l[i]? = some B → vs[i]? = some (f i) ∧ RpM w O O0 g (f i) B
 | .fn m caps => ∃ (f : Nat → Value) (vs : Array Value), v = fnV m vs ∧ vs.size = caps.length ∧ ∀ i B, caps[i]? = some B → vs[i]? = some (f i) ∧ Rp1 w O O0 g (f i) B
 | A => RpM w O O0 g v A
def Rp (w : World) (O O0 : Nat → Prop) (g : Nat → Value) (v : Value) : AV → Prop
 | .gd p A => (p.ok → Rp2 w O O0 g v A) ∧ (¬ p.ok → v = undef)
 | A => Rp2 w O O0 g v A
def AV.key1 (k : Nat) : AV → Bool
 | .own k' => Nat.beq k' k
 | .oadr k' _ _ _ => Nat.beq k' k
 | .padr k' _ => Nat.beq k' k
 | .mown k' => Nat.beq k' k
 | .madr k' _ => Nat.beq k' k
 | .inn k' _ => Nat.beq k' k
 | .iadr k' _ _ _ _ => Nat.beq k' k
 | .qadr k' _ => Nat.beq k' k
 | .ocut k' _ _ => Nat.beq k' k
 | _ => false
def anyKey (k : Nat) : List AV → Bool
 | [] => false
 | A :: r => A.key1 k || anyKey k r
def AV.keyM (k : Nat) : AV → Bool
 | .strct l => anyKey k l
 | A => A.key1 k
def anyKeyM (k : Nat) : List AV → Bool
 | [] => false
 | A :: r => A.keyM k || anyKeyM k r
def AV.key2 (k : Nat) : AV → Bool
 | .tup l => anyKeyM k l
 | .fn _ l => anyKey k l
 | A => A.keyM k
def AV.hasKey (k : Nat) : AV → Bool
 | .gd _ A => A.key2 k
 | A => A.key2 k
theorem anyKey_of {k : Nat} : ∀ {l : List AV} {i : Nat} {B : AV}, l[i]? = some B → B.key1 k = true → anyKey k l = true
 | [], i, B, h, _ => by simp at h
 | A :: r, i, B, h, h1 => by
  cases i with
  | zero => simp at h; subst h; simp [anyKey, h1]
  | succ i => simp [anyKey, anyKey_of (l := r) (i := i) (B := B) (by simpa using h) h1]
theorem anyKeyM_of {k : Nat} : ∀ {l : List AV} {i : Nat} {B : AV}, l[i]? = some B → B.keyM k = true → anyKeyM k l = true
 | [], i, B, h, _ => by simp at h
 | A :: r, i, B, h, h1 => by
  cases i with
  | zero => simp at h; subst h; simp [anyKeyM, h1]
  | succ i => simp [anyKeyM, anyKeyM_of (l := r) (i := i) (B := B) (by simpa using h) h1]
def anyKey2 (k : Nat) : List AV → Bool
 | [] => false
 | A :: r => A.key2 k || anyKey2 k r
theorem anyKey2_of {k : Nat} : ∀ {l : List AV} {i : Nat} {B : AV}, l[i]? = some B → B.key2 k = true → anyKey2 k l = true
 | [], i, B, h, _ => by simp at h
 | A :: r, i, B, h, h1 => by
  cases i with
  | zero => simp at h; subst h; simp [anyKey2, h1]
  | succ i => simp [anyKey2, anyKey2_of (l := r) (i := i) (B := B) (by simpa using h) h1]
def AV.same1 (g g' : Nat → Value) : AV → Prop
 | .own k => g' k = g k
 | .oadr k _ _ _ => g' k = g k
 | .padr k _ => g' k = g k
 | .mown k => hd (g' k) = hd (g k)
 | .madr k _ => hd (g' k) = hd (g k)
 | .inn k i => sub (g' k) i = sub (g k) i
 | .iadr k i _ _ _ => sub (g' k) i = sub (g k) i
 | .qadr k _ => g' k = g k
 | .ocut k _ _ => g' k = g k
 | _ => True
def AV.sameM (g g' : Nat → Value) : AV → Prop
 | .strct l => ∀ B ∈ l, AV.same1 g g' B
 | A => A.same1 g g'
def AV.same2 (g g' : Nat → Value) : AV → Prop
 | .tup l => ∀ B ∈ l, AV.sameM g g' B
 | .fn _ l => ∀ B ∈ l, AV.same1 g g' B
 | A => A.sameM g g'
def AV.same (g g' : Nat → Value) : AV → Prop
 | .gd _ A => A.same2 g g'
 | A => A.same2 g g'
theorem same1_of {g g' : Nat → Value} {A : AV} (hg : ∀ k, A.key1 k = true → g' k = g k) : A.same1 g g' := by
 cases A <;> simp only [AV.same1] <;> first | trivial | (rw [hg _ (by simp [AV.key1])])
theorem sameM_of {g g' : Nat → Value} {A : AV} (hg : ∀ k, A.keyM k = true → g' k = g k) : A.sameM g g' := by
 cases A with
 | strct l => exact fun B hB => same1_of fun k hk => let ⟨i, hi⟩ := List.getElem?_of_mem hB; hg k (anyKey_of hi hk)
 | _ => simp only [AV.sameM]; exact same1_of fun k hk => hg k (by simpa only [AV.keyM] using hk)
theorem same2_of {g g' : Nat → Value} {A : AV} (hg : ∀ k, A.key2 k = true → g' k = g k) : A.same2 g g' := by
 cases A with
 | tup l => exact fun B hB => sameM_of fun k hk => let ⟨i, hi⟩ := List.getElem?_of_mem hB; hg k (anyKeyM_of hi hk)
 | fn m l => exact fun B hB => same1_of fun k hk => let ⟨i, hi⟩ := List.getElem?_of_mem hB; hg k (anyKey_of hi hk)
 | _ => simp only [AV.same2]; exact sameM_of fun k hk => hg k (by simpa only [AV.key2] using hk)
theorem same_of {g g' : Nat → Value} {A : AV} (hg : ∀ k, A.hasKey k = true → g' k = g k) : A.same g g' := by
 cases A with
 | gd p A => exact same2_of fun k hk => hg k hk
 | _ => simp only [AV.same]; exact same2_of fun k hk => hg k (by simpa only [AV.hasKey] using hk)
section mono
variable {w w' : World} {O O' O0 O0' : Nat → Prop} {g g' : Nat → Value}
 (hw : ∀ b c e fz, w.heap[b]? = some (.cells c e fz) → ¬ O b → w'.heap[b]? = some (.cells c e fz) ∧ ¬ O' b)
 (h0 : ∀ b c e fz, w.heap[b]? = some (.cells c e fz) → ¬ O b → ¬ O0 b → ¬ O0' b)
include hw h0
theorem RpS.mono' {fr : Bool} {v : Value} {A : SV} (h : RpS w (Av O O0 fr) v A) : RpS w' (Av O' O0' fr) v A :=
 h.mono fun b c e fz hb hn => by
  have h1 := hw b c e fz hb (fun h => hn (.inl h))
  refine ⟨h1.1, fun h2 => ?_⟩
  rcases h2 with h2 | ⟨h2, h3⟩
  · exact h1.2 h2
  · exact h0 b c e fz hb (fun h => hn (.inl h)) (fun h => hn (.inr ⟨h2, h⟩)) h3
theorem Rp1.monoS {v : Value} {A : AV} (hg : A.same1 g g') (h : Rp1 w O O0 g v A) : Rp1 w' O' O0' g' v A := by
 cases A <;> simp only [Rp1, AV.same1] at h hg ⊢ <;> first | trivial | exact h | exact h.mono' hw h0 | (rw [hg]; exact h)
theorem RpM.monoS {v : Value} {A : AV} (hg : A.sameM g g') (h : RpM w O O0 g v A) : RpM w' O' O0' g' v A := by
 cases A with
 | strct l => obtain ⟨f, vs, h1, h2, h3⟩ := h; exact ⟨f, vs, h1, h2, fun i B hB => ⟨(h3 i B hB).1, Rp1.monoS hw h0 (hg B (List.mem_of_getElem? hB)) (h3 i B hB).2⟩⟩
 | _ => simp only [RpM] at h ⊢; exact Rp1.monoS hw h0 hg h
theorem Rp2.monoS {v : Value} {A : AV} (hg : A.same2 g g') (h : Rp2 w O O0 g v A) : Rp2 w' O' O0' g' v A := by
 cases A with
 | tup l => obtain ⟨f, vs, h1, h2, h3⟩ := h; exact ⟨f, vs, h1, h2, fun i B hB => ⟨(h3 i B hB).1, RpM.monoS hw h0 (hg B (List.mem_of_getElem? hB)) (h3 i B hB).2⟩⟩
 | fn m l => obtain ⟨f, vs, h1, h2, h3⟩ := h; exact ⟨f, vs, h1, h2, fun i B hB => ⟨(h3 i B hB).1, Rp1.monoS hw h0 (hg B (List.mem_of_getElem? hB)) (h3 i B hB).2⟩⟩
 | _ => simp only [Rp2] at h ⊢; exact RpM.monoS hw h0 hg h
theorem Rp.monoS {v : Value} {A : AV} (hg : A.same g g') (h : Rp w O O0 g v A) : Rp w' O' O0' g' v A := by
 cases A with
 | gd p A => exact ⟨fun hp => Rp2.monoS hw h0 hg (h.1 hp), h.2⟩
 | _ => simp only [Rp] at h ⊢; exact Rp2.monoS hw h0 hg h
theorem Rp1.mono {v : Value} {A : AV} (hg : ∀ k, A.key1 k = true → g' k = g k) (h : Rp1 w O O0 g v A) : Rp1 w' O' O0' g' v A := h.monoS hw h0 (same1_of hg)
theorem RpM.mono {v : Value} {A : AV} (hg : ∀ k, A.keyM k = true → g' k = g k) (h : RpM w O O0 g v A) : RpM w' O' O0' g' v A := h.monoS hw h0 (sameM_of hg)
theorem Rp2.mono {v : Value} {A : AV} (hg : ∀ k, A.key2 k = true → g' k = g k) (h : Rp2 w O O0 g v A) : Rp2 w' O' O0' g' v A := h.monoS hw h0 (same2_of hg)
theorem Rp.mono {v : Value} {A : AV} (hg : ∀ k, A.hasKey k = true → g' k = g k) (h : Rp w O O0 g v A) : Rp w' O' O0' g' v A := h.monoS hw h0 (same_of hg)
end mono
def get? {α : Type} : List (Nat × α) → Nat → Option α
 | [], _ => none
 | (k, v) :: r, n => match Nat.beq k n with
  | true => some v
  | false => get? r n
def del {α : Type} : List (Nat × α) → Nat → List (Nat × α)
 | [], _ => []
 | (k, v) :: r, n => match Nat.beq k n with
  | true => del r n
  | false => (k, v) :: del r n
def set {α : Type} (l : List (Nat × α)) (k : Nat) (v : α) : List (Nat × α) := (k, v) :: l
theorem get?_del {α : Type} (l : List (Nat × α)) (k n : Nat) : get? (del l k) n = if n = k then none else get? l n := by
 induction l with
 | nil => simp [del, get?]
 | cons x r ih =>
  obtain ⟨k', v⟩ := x
  simp only [del]
  cases hk : Nat.beq k' k with
  | true =>
   have := Nat.eq_of_beq_eq_true hk
   subst this
   simp only [ih, get?]
   split
   · rfl
   · rename_i hne
     have : Nat.beq k' n = false := by
      cases h : Nat.beq k' n with
      | false => rfl
      | true => exact absurd (Nat.eq_of_beq_eq_true h).symm hne
     simp [this]
  | false =>
   simp only [get?, ih]
   cases h : Nat.beq k' n with
   | true =>
    have h1 := Nat.eq_of_beq_eq_true h
    subst h1
    have := Nat.ne_of_beq_eq_false hk
    simp [this]
   | false => rfl
theorem get?_set {α : Type} (l : List (Nat × α)) (k : Nat) (v : α) (n : Nat) : get? (set l k v) n = if n = k then some v else get? l n := by
 unfold set
 simp only [get?]
 cases h : Nat.beq k n with
 | true => simp [(Nat.eq_of_beq_eq_true h).symm]
 | false => have := Nat.ne_of_beq_eq_false h; simp [Ne.symm this]
theorem get?_append {α : Type} (l m : List (Nat × α)) (n : Nat) : get? (l ++ m) n = match get? l n with | some x => some x | none => get? m n := by
 induction l with
 | nil => rfl
 | cons x r ih =>
  obtain ⟨k, v⟩ := x
  simp only [List.cons_append, get?]
  cases Nat.beq k n <;> simp [ih]
def mkA : AV → Bool
 | .lit (.pointer none) => true
 | .padr _ _ => true
 | _ => false
def mk2 : List AV → Bool
 | [A, _] => mkA A
 | _ => false
abbrev BT (l : List AV) := {e : TypeId // mk2 l = true → e = 104}
theorem mk2_of {l l' : List AV} (hl : l.length = l'.length) (h : ∀ A A', l[0]? = some A → l'[0]? = some A' → mkA A' = true → mkA A = true) (h2 : mk2 l' = true) : mk2 l = true := by
 match l', l, hl with
 | [A', _], [A, _], _ => exact h A A' rfl rfl h2
 | [], _, _ => cases h2
 | [_], _, _ => cases h2
 | _ :: _ :: _ :: _, _, _ => cases h2
def mkOk (l l' : List AV) : Bool := !(mk2 l') || mk2 l
theorem mkOk_of {l l' : List AV} (h : mkOk l l' = true) (h2 : mk2 l' = true) : mk2 l = true := by
 unfold mkOk at h
 rw [h2] at h
 simpa using h
def BT.of {l l' : List AV} (e : BT l) (h : mk2 l' = true → mk2 l = true) : BT l' := ⟨e.1, fun h' => e.2 (h h')⟩
inductive Ob where
 | row (e : TypeId) (t : Ty) (fr : Bool) (xs : List t.T)
 /- a row of rows, all its own (the outer element type, the inner one; the place whose cell is behind) -/
 | mat (e e' : TypeId) (t : Ty) (fr : Bool) (xs : List (List t.T)) (st : Option Nat)
 | box (l : List AV)
 | box1 (A : AV)
 /- a map: of integers, to integers or bools; how many it has -/
 | mp (kk : IntKind) (t : Ty) (m : Int → Option t.T) (n : Nat)
 /- a queue of integers: a row whose first ones may have gone -/
 | que (e : TypeId) (kk : IntKind) (xs : List Int)
 /- what goes through a string: where it is -/
 | sit (s : ByteArray) (p : Nat)
 /- a set of cells in a row: a map from spots (0, x, 0) to bools, all true, in the order in which they came -/
 | mps (l : List Int)
 /- what goes through such a map of one entry: the map; whether it has been there -/
 | mit (km : Nat) (st : Bool)
 /- something -/
 | gone
def spotV (x : Int) : Value := .agg #[.int .i64 0, .int .i64 x, .int .i64 0]
def spotL : List Int → Nat → List MapEntry
 | [], _ => []
 | x :: r, i => { key := spotV x, val := .bool true, born := i } :: spotL r (i + 1)
def SpotR (x : Int) : Prop := -9223372036854775808 ≤ x ∧ x ≤ 9223372036854775807
def Ty.val1 : (t : Ty) → t.T → Value
 | .int k, (n : Int) => .int k n
 | .bool, (b : Bool) => .bool b
 | _, _ => undef
structure MapOk (kk : IntKind) (t : Ty) (m : Int → Option t.T) (n : Nat) (es : List MapEntry) : Prop where
 len : es.length = n
 key : ∀ x ∈ es, ∃ i, x.key = .int kk i
 has : ∀ i, (∃ x ∈ es, x.key = .int kk i) ↔ (m i).isSome = true
 val : ∀ x ∈ es, ∀ i y, x.key = .int kk i → m i = some y → x.val = t.val1 y
 dis : es.Pairwise (fun x y => x.key ≠ y.key)
def blk : Value → Option Nat
 | .slice (some a) _ _ => some a.block
 | .pointer (some a) => some a.block
 | .map (some b) => some b
 | _ => none
def Blk (v : Value) (b : Nat) : Prop := blk (hd v) = some b ∨ ∃ i, blk (sub v i) = some b
theorem Blk.single {v : Value} {b n : Nat} (h : blk v = some n) : Blk v b ↔ b = n := by
 have h0 : hd v = v ∧ ∀ i, blk (sub v i) = none := by
  cases v <;> first | exact ⟨rfl, fun _ => rfl⟩ | cases h
 constructor
 · rintro (h1 | ⟨i, h1⟩)
   · rw [h0.1, h] at h1; cases h1; rfl
   · rw [h0.2 i] at h1; cases h1
 · rintro rfl; exact .inl (by rw [h0.1, h])
theorem Blk.of {v : Value} {b : Nat} (h : blk v = some b) : Blk v b := (Blk.single h).2 rfl
theorem Blk.nil {b n c : Nat} (h : Blk (.slice none n c) b) : False := by
 rcases h with h | ⟨i, h⟩ <;> cases h
structure Sy where
 tmps : List (Nat × AV)
 own : List (Nat × Ob)
structure Cx where
 w0 : World
 n : Nat
 O0 : Nat → Prop
 K : Nat → Option (Array Value × TypeId × (Nat × Nat)) := fun _ => none
 /- the blocks that were handed over -/
 B : Nat → Prop := fun _ => False
 /- the ghosts of the keys that never turn -/
 kv : Nat → Value := fun _ => undef
@[reducible] def PK : Nat := 1000000000
@[reducible] def PK2 : Nat := 2000000000
def Keep (w w' : World) : Prop := w.grownBy w' none
theorem Keep.b {w w' : World} (h : Keep w w') : ∀ b, b < w.heap.size → w'.heap[b]? = w.heap[b]? := fun b hb => h.block b hb (by simp)
theorem Keep.refl (w : World) : Keep w w := ⟨rfl, rfl, rfl, Nat.le_refl _, fun _ _ _ => rfl⟩
theorem Keep.trans {a b c : World} (h : Keep a b) (h' : Keep b c) : Keep a c :=
 ⟨h'.os.trans h.os, h'.tape.trans h.tape, h'.output.trans h.output, Nat.le_trans h.size h'.size, fun i hi _ => (h'.b i (Nat.lt_of_lt_of_le hi h.size)).trans (h.b i hi)⟩
theorem Keep.alloc (w : World) (o : Obj) : Keep w (w.alloc o) := World.grownBy_alloc w o none
theorem Keep.drew (w : World) : Keep w w.drew := ⟨rfl, rfl, rfl, Nat.le_refl _, fun _ _ _ => rfl⟩
structure KeepB (B : Nat → Prop) (w w' : World) : Prop where
 os : w'.os = w.os
 tape : w'.tape = w.tape
 output : w'.output = w.output
 size : w.heap.size ≤ w'.heap.size
 b : ∀ b, b < w.heap.size → ¬ B b → w'.heap[b]? = w.heap[b]?
theorem Keep.toB {B : Nat → Prop} {w w' : World} (h : Keep w w') : KeepB B w w' := ⟨h.os, h.tape, h.output, h.size, fun b hb _ => h.b b hb⟩
theorem KeepB.trans {B : Nat → Prop} {w w' w'' : World} (h : KeepB B w w') (h' : Keep w' w'') : KeepB B w w'' :=
 ⟨h'.os.trans h.os, h'.tape.trans h.tape, h'.output.trans h.output, Nat.le_trans h.size h'.size, fun i hi hn => (h'.b i (Nat.lt_of_lt_of_le hi h.size)).trans (h.b i hi hn)⟩
theorem KeepB.none {w w' : World} {B : Nat → Prop} (hB : ∀ b, ¬ B b) (h : KeepB B w w') : Keep w w' := ⟨h.os, h.tape, h.output, h.size, fun b hb _ => h.b b hb (hB b)⟩
def Oset (own : List (Nat × Ob)) (g : Nat → Value) (b : Nat) : Prop := ∃ k o, get? own k = some o ∧ Blk (g k) b
def Cells (w : World) (O : Nat → Prop) (cell : Nat → Option Value) (t : Ty) (xs : List t.T) : Prop :=
 ∃ f : Nat → Value, (∀ i, i < xs.length → (f i).cells.size = t.size ∧ ∀ j, j < t.size → cell (i * t.size + j) = (f i).cells[j]?) ∧ ∀ i x, xs[i]? = some x → RpS w O (f i) (t.enc x)
def RowOk (w : World) (base : Nat) (O O0 : Nat → Prop) (v : Value) (e : TypeId) (t : Ty) (fr : Bool) (l : List t.T) : Prop :=
 ∃ xs, w.ownsRow base e t.size v l.length xs ∧ (∀ x ∈ xs, x.oneCell' = true) ∧ Cells w (Av O O0 fr) (fun p => xs[p]?) t l
def OwnOk (w : World) (base : Nat) (O O0 : Nat → Prop) (g : Nat → Value) (v : Value) : Ob → Prop
  | .row e t fr l => RowOk w base O O0 v e t fr l
  | .mat e e' t fr xs st => (∃ cells, w.ownsRow base e 1 (hd v) xs.length cells ∧ (∀ x ∈ cells, x.oneCell' = true) ∧ ∀ i, i < xs.length → st ≠ some i → cells[i]? = some (sub v i)) ∧
      (∀ i, RowOk w base O O0 (sub v i) e' t fr (xs.getD i [])) ∧ (∀ i j b, blk (sub v i) = some b → blk (sub v j) = some b → i = j) ∧ (∀ i b, blk (sub v i) = some b → blk (hd v) ≠ some b)
  | .box l => ∃ b arr, ∃ e : BT l, v = .pointer (some ⟨b, 0, none⟩) ∧ base ≤ b ∧ w.heap[b]? = some (.cells arr e.1 (0, 0)) ∧
      arr.size = l.length ∧ ∀ (i : Nat) (B : AV), l[i]? = some B → ∃ x, arr[i]? = some x ∧ x.oneCell' = true ∧ Rp2 w O O0 g x B
  | .box1 A => ∃ b x e, v = .pointer (some ⟨b, 0, none⟩) ∧ base ≤ b ∧ w.heap[b]? = some (.cells #[x] e (0, 0)) ∧ x.oneCell' = true ∧ Rp2 w O O0 g x A
  | .mp kk t m n => ∃ b es clock, v = .map (some b) ∧ base ≤ b ∧ w.heap[b]? = some (.map es clock) ∧ MapOk kk t m n es.toList
  | .que e kk xs => ∃ b off cap arr, v = .slice (some ⟨b, off, none⟩) xs.length cap ∧ base ≤ b ∧ w.heap[b]? = some (.cells arr e (0, 0)) ∧ xs.length ≤ cap ∧ cap ≤ maxLen ∧ off + cap ≤ arr.size ∧ ∀ (i : Nat) (x : Int), xs[i]? = some x → arr[off + i]? = some (.int kk x)
  | .sit s p => ∃ b, v = .pointer (some ⟨b, 0, none⟩) ∧ base ≤ b ∧ w.heap[b]? = some (.stringIter s p)
  | .mps l => ∃ b, v = .map (some b) ∧ base ≤ b ∧ w.heap[b]? = some (.map (spotL l 0).toArray l.length) ∧ l.Nodup ∧ ∀ x ∈ l, SpotR x
  | .mit km st => ∃ b mb, v = .pointer (some ⟨b, 0, none⟩) ∧ base ≤ b ∧ w.heap[b]? = some (.mapIter (some mb) 1 (if st = true then #[0] else #[]) 1) ∧ g km = .map (some mb)
  | .gone => ∃ b o, v = .pointer (some ⟨b, 0, none⟩) ∧ base ≤ b ∧ w.heap[b]? = some o
structure Hp (base : Nat) (O0 : Nat → Prop) (own : List (Nat × Ob)) (g : Nat → Value) (w : World) : Prop where
 ok : ∀ k o, get? own k = some o → OwnOk w base (Oset own g) O0 g (g k) o
 inj : ∀ k k' o o' b, get? own k = some o → get? own k' = some o' → Blk (g k) b → Blk (g k') b → k = k'
structure St (c : Cx) (Γ : Sy) (g : Nat → Value) (a : Act) (w : World) : Prop where
 defers : a.defers = []
 size : a.tmps.size = c.n
 keep : KeepB c.B c.w0 w
 o0 : ∀ b, c.O0 b → b < c.w0.heap.size ∧ ¬ c.B b
 tmps : ∀ t A, get? Γ.tmps t = some A → Rp w (Oset Γ.own g) c.O0 g (a.tmps.getD t undef) A
 kept : ∀ b x, c.K b = some x → w.heap[b]? = some (.cells x.1 x.2.1 x.2.2) ∧ ¬ Oset Γ.own g b
 hp : Hp 0 c.O0 Γ.own g w
 low : ∀ b, Oset Γ.own g b → c.w0.heap.size ≤ b ∨ c.B b
 pin : ∀ k, PK ≤ k % PK2 → g k = c.kv k
theorem St.apart {c : Cx} {Γ : Sy} {g : Nat → Value} {a : Act} {w : World} (h : St c Γ g a w) : ∀ b, c.O0 b → ¬ Oset Γ.own g b := fun b hb hO => by
 have h1 := h.o0 b hb
 rcases h.low b hO with h2 | h2
 · omega
 · exact h1.2 h2
def Ob.hasKey (k : Nat) : Ob → Bool
 | .row .. => false
 | .mat .. => false
 | .box l => anyKey2 k l
 | .box1 A => A.key2 k
 | .mp .. => false
 | .que .. => false
 | .sit .. => false
 | .mps .. => false
 | .mit km _ => Nat.beq km k
 | .gone => false
def Ob.same (g g' : Nat → Value) : Ob → Prop
 | .row .. => True
 | .mat .. => True
 | .box l => ∀ B ∈ l, AV.same2 g g' B
 | .box1 A => A.same2 g g'
 | .mp .. => True
 | .que .. => True
 | .sit .. => True
 | .mps .. => True
 | .mit km _ => g' km = g km
 | .gone => True
theorem Ob.same_of {g g' : Nat → Value} {o : Ob} (hg : ∀ k, o.hasKey k = true → g' k = g k) : o.same g g' := by
 cases o with
 | row => trivial
 | mat => trivial
 | box l => exact fun B hB => same2_of fun k hk => let ⟨i, hi⟩ := List.getElem?_of_mem hB; hg k (anyKey2_of hi hk)
 | box1 A => exact same2_of fun k hk => hg k hk
 | mp => trivial
 | que => trivial
 | sit => trivial
 | mps => trivial
 | mit km st => exact hg km (Nat.beq_refl km)
 | gone => trivial
theorem ownsRow_mono {w w' : World} {base e size n : Nat} {v : Value} {xs : List Value} (hb : ∀ b, blk v = some b → w'.heap[b]? = w.heap[b]?) (h : w.ownsRow base e size v n xs) : w'.ownsRow base e size v n xs := by
 refine ⟨h.1, ?_⟩
 rcases h.2 with hn | ⟨b, cap, cur, rfl, h2, h3, h4⟩
 · exact .inl hn
 · exact .inr ⟨b, cap, cur, rfl, h2, (hb b rfl).trans h3, h4⟩
section own
variable {w w' : World} {O O' O0 O0' : Nat → Prop} {g g' : Nat → Value}
 (hw : ∀ b c e fz, w.heap[b]? = some (.cells c e fz) → ¬ O b → w'.heap[b]? = some (.cells c e fz) ∧ ¬ O' b)
 (h0 : ∀ b c e fz, w.heap[b]? = some (.cells c e fz) → ¬ O b → ¬ O0 b → ¬ O0' b)
include hw h0
theorem Cells.mono {cell : Nat → Option Value} {t : Ty} {fr : Bool} {l : List t.T} (h : Cells w (Av O O0 fr) cell t l) : Cells w' (Av O' O0' fr) cell t l :=
 let ⟨f, h1, h2⟩ := h
 ⟨f, h1, fun i B hB => (h2 i B hB).mono' hw h0⟩
theorem RowOk.mono {base : Nat} {v : Value} {e : TypeId} {t : Ty} {fr : Bool} {l : List t.T} (hb : ∀ b, blk v = some b → w'.heap[b]? = w.heap[b]?) (h : RowOk w base O O0 v e t fr l) : RowOk w' base O' O0' v e t fr l := by
 obtain ⟨xs, ho, h1, hc⟩ := h
 exact ⟨xs, ownsRow_mono hb ho, h1, hc.mono hw h0⟩
theorem OwnOk.monoS {base : Nat} {v : Value} {o : Ob} (hb : ∀ b, Blk v b → w'.heap[b]? = w.heap[b]?) (hg : o.same g g')
  (h : OwnOk w base O O0 g v o) : OwnOk w' base O' O0' g' v o := by
 cases o with
 | row e t fr l => exact RowOk.mono hw h0 (fun b h => hb b (.of h)) h
 | mat e e' t fr xs st =>
  obtain ⟨⟨cells, h1, h2, h3⟩, h4, h5, h6⟩ := h
  exact ⟨⟨cells, ownsRow_mono (fun b h => hb b (.inl h)) h1, h2, h3⟩, fun i => RowOk.mono hw h0 (fun b h => hb b (.inr ⟨i, h⟩)) (h4 i), h5, h6⟩
 | box l =>
  obtain ⟨b, arr, e, rfl, h1, h2, h3, h4⟩ := h
  exact ⟨b, arr, e, rfl, h1, (hb b (.inl rfl)).trans h2, h3, fun i B hB => let ⟨x, h5, h6, h7⟩ := h4 i B hB; ⟨x, h5, h6, h7.monoS hw h0 (hg B (List.mem_of_getElem? hB))⟩⟩
 | box1 A =>
  obtain ⟨b, x, e, rfl, h1, h2, h3, h4⟩ := h
  exact ⟨b, x, e, rfl, h1, (hb b (.inl rfl)).trans h2, h3, h4.monoS hw h0 hg⟩
 | mp kk t m n =>
  obtain ⟨b, es, clock, rfl, h1, h2, h3⟩ := h
  exact ⟨b, es, clock, rfl, h1, (hb b (.inl rfl)).trans h2, h3⟩
 | que e kk xs =>
  obtain ⟨b, off, cap, arr, rfl, h1, h2, h3⟩ := h
  exact ⟨b, off, cap, arr, rfl, h1, (hb b (.inl rfl)).trans h2, h3⟩
 | sit s p =>
  obtain ⟨b, rfl, h1, h2⟩ := h
  exact ⟨b, rfl, h1, (hb b (.inl rfl)).trans h2⟩
 | mps l =>
  obtain ⟨b, rfl, h1, h2⟩ := h
  exact ⟨b, rfl, h1, (hb b (.inl rfl)).trans h2.1, h2.2⟩
 | mit km st =>
  obtain ⟨b, mb, rfl, h1, h2, h3⟩ := h
  exact ⟨b, mb, rfl, h1, (hb b (.inl rfl)).trans h2, hg.trans h3⟩
 | gone =>
  obtain ⟨b, o, rfl, h1, h2⟩ := h
  exact ⟨b, o, rfl, h1, (hb b (.inl rfl)).trans h2⟩
theorem OwnOk.mono {base : Nat} {v : Value} {o : Ob} (hb : ∀ b, Blk v b → w'.heap[b]? = w.heap[b]?) (hg : ∀ k, o.hasKey k = true → g' k = g k)
  (h : OwnOk w base O O0 g v o) : OwnOk w' base O' O0' g' v o := h.monoS hw h0 hb (Ob.same_of hg)
end own
theorem ownsRow_lt {w : World} {base e size n : Nat} {v : Value} {xs : List Value} (h : w.ownsRow base e size v n xs) {b : Nat} (hb : blk v = some b) : base ≤ b ∧ b < w.heap.size := by
 rcases h.2 with ⟨rfl, _⟩ | ⟨b', cap, cur, rfl, h2, h3, _⟩
 · cases hb
 · cases hb
   exact ⟨h2, (Array.getElem?_eq_some_iff.1 h3).1⟩
theorem ownsRow_blk {w : World} {base e size n : Nat} {v : Value} {xs : List Value} (h : w.ownsRow base e size v n xs) {b : Nat} (hb : Blk v b) : blk v = some b := by
 rcases h.2 with ⟨rfl, _⟩ | ⟨b', cap, cur, rfl, _⟩
 · exact (Blk.nil hb).elim
 · rw [(Blk.single (n := b') rfl).1 hb]; rfl
def Ob.isMat : Ob → Bool
 | .mat .. => true
 | _ => false
theorem OwnOk.one {w : World} {base : Nat} {O O0 : Nat → Prop} {g : Nat → Value} {v : Value} {o : Ob} (h : OwnOk w base O O0 g v o) (hm : o.isMat = false) {b : Nat} (hb : Blk v b) : blk v = some b := by
 cases o with
 | row e t fr l => obtain ⟨xs, ho, _⟩ := h; exact ownsRow_blk ho hb
 | mat => cases hm
 | box l => obtain ⟨b', arr, e, rfl, _⟩ := h; rw [(Blk.single (n := b') rfl).1 hb]; rfl
 | box1 A => obtain ⟨b', arr, e, rfl, _⟩ := h; rw [(Blk.single (n := b') rfl).1 hb]; rfl
 | mp kk t m n => obtain ⟨b', es, cl, rfl, _⟩ := h; rw [(Blk.single (n := b') rfl).1 hb]; rfl
 | que e kk xs => obtain ⟨b', off, cap, arr, rfl, _⟩ := h; rw [(Blk.single (n := b') rfl).1 hb]; rfl
 | sit s p => obtain ⟨b', rfl, _⟩ := h; rw [(Blk.single (n := b') rfl).1 hb]; rfl
 | mps l => obtain ⟨b', rfl, _⟩ := h; rw [(Blk.single (n := b') rfl).1 hb]; rfl
 | mit km st => obtain ⟨b', mb, rfl, _⟩ := h; rw [(Blk.single (n := b') rfl).1 hb]; rfl
 | gone => obtain ⟨b', o, rfl, _⟩ := h; rw [(Blk.single (n := b') rfl).1 hb]; rfl
theorem OwnOk.lt {w : World} {base : Nat} {O O0 : Nat → Prop} {g : Nat → Value} {v : Value} {o : Ob} (h : OwnOk w base O O0 g v o) {b : Nat} (hb : Blk v b) : base ≤ b ∧ b < w.heap.size := by
 cases o with
 | row e t fr l =>
  obtain ⟨xs, ho, _⟩ := h
  exact ownsRow_lt ho (ownsRow_blk ho hb)
 | mat e e' t fr xs st =>
  obtain ⟨⟨cells, h1, _⟩, h4, _⟩ := h
  rcases hb with hb | ⟨i, hb⟩
  · exact ownsRow_lt h1 hb
  · obtain ⟨ys, ho, _⟩ := h4 i
    exact ownsRow_lt ho hb
 | box l =>
  have hb := h.one rfl hb
  obtain ⟨b', arr, e, rfl, h2, h3, _⟩ := h
  cases hb
  exact ⟨h2, (Array.getElem?_eq_some_iff.1 h3).1⟩
 | box1 A =>
  have hb := h.one rfl hb
  obtain ⟨b', x, e, rfl, h2, h3, _⟩ := h
  cases hb
  exact ⟨h2, (Array.getElem?_eq_some_iff.1 h3).1⟩
 | mp kk t m n =>
  have hb := h.one rfl hb
  obtain ⟨b', es, cl, rfl, h2, h3, _⟩ := h
  cases hb
  exact ⟨h2, (Array.getElem?_eq_some_iff.1 h3).1⟩
 | que e kk xs =>
  have hb := h.one rfl hb
  obtain ⟨b', off, cap, arr, rfl, h2, h3, _⟩ := h
  cases hb
  exact ⟨h2, (Array.getElem?_eq_some_iff.1 h3).1⟩
 | sit s p =>
  have hb := h.one rfl hb
  obtain ⟨b', rfl, h2, h3⟩ := h
  cases hb
  exact ⟨h2, (Array.getElem?_eq_some_iff.1 h3).1⟩
 | mps l =>
  have hb := h.one rfl hb
  obtain ⟨b', rfl, h2, h3, _⟩ := h
  cases hb
  exact ⟨h2, (Array.getElem?_eq_some_iff.1 h3).1⟩
 | mit km st =>
  have hb := h.one rfl hb
  obtain ⟨b', mb, rfl, h2, h3, _⟩ := h
  cases hb
  exact ⟨h2, (Array.getElem?_eq_some_iff.1 h3).1⟩
 | gone =>
  have hb := h.one rfl hb
  obtain ⟨b', o, rfl, h2, h3⟩ := h
  cases hb
  exact ⟨h2, (Array.getElem?_eq_some_iff.1 h3).1⟩
theorem St.change {c : Cx} {Γ Γ' : Sy} {g g' : Nat → Value} {a : Act} {w w' : World} (h : St c Γ g a w) (hk : KeepB c.B c.w0 w')
  (hw : ∀ b x e fz, w.heap[b]? = some (.cells x e fz) → ¬ Oset Γ.own g b → w'.heap[b]? = some (.cells x e fz) ∧ ¬ Oset Γ'.own g' b)
  (ht : ∀ t A', get? Γ'.tmps t = some A' → A' = .any ∨ (get? Γ.tmps t = some A' ∧ ∀ k, A'.hasKey k = true → g' k = g k))
  (hh : Hp 0 c.O0 Γ'.own g' w') (hlow : ∀ b, Oset Γ'.own g' b → Oset Γ.own g b ∨ c.w0.heap.size ≤ b) (hpin : ∀ k, PK ≤ k % PK2 → g' k = g k) : St c Γ' g' a w' :=
 ⟨h.defers, h.size, hk, h.o0, fun t A hA => by
  rcases ht t A hA with rfl | ⟨h1, h2⟩
  · trivial
  · exact (h.tmps t A h1).mono hw (fun _ _ _ _ _ _ h => h) h2, fun b x hb => hw b _ _ _ (h.kept b x hb).1 (h.kept b x hb).2, hh, fun b hb => (hlow b hb).elim (h.low b) .inl, fun k hk => (hpin k hk).trans (h.pin k hk)⟩
theorem St.put {c : Cx} {Γ : Sy} {g : Nat → Value} {a : Act} {w : World} (h : St c Γ g a w) {t : Nat} {A : AV} {v : Value} (ht : t < c.n)
  (hv : Rp w (Oset Γ.own g) c.O0 g v A) : St c ⟨set Γ.tmps t A, Γ.own⟩ g (a.put (some t) v) w := by
 refine ⟨h.defers, by simp [Act.put, h.size], h.keep, h.o0, fun t' A' hA' => ?_, h.kept, h.hp, h.low, h.pin⟩
 simp only [get?_set] at hA'
 by_cases e : t' = t
 · subst e
   simp only [if_true] at hA'
   cases hA'
   have : t' < a.tmps.size := by rw [h.size]; exact ht
   simp only [Act.put, Array.getD_eq_getD_getElem?, Array.getElem?_setIfInBounds, this, if_true, Option.getD_some]
   exact hv
 · simp only [e, if_false] at hA'
   have := h.tmps t' A' hA'
   simpa only [Act.put, Array.getD_eq_getD_getElem?, Array.getElem?_setIfInBounds_ne (Ne.symm e)] using this
theorem Hp.lt {base : Nat} {O0 : Nat → Prop} {own : List (Nat × Ob)} {g : Nat → Value} {w : World} (h : Hp base O0 own g w) {b : Nat} (hb : Oset own g b) : base ≤ b ∧ b < w.heap.size := by
 obtain ⟨k, o, h1, h2⟩ := hb
 exact (h.ok k o h1).lt h2
theorem ownsRow_raise {w : World} {base base' e size n : Nat} {v : Value} {xs : List Value} (hb : ∀ b, blk v = some b → base' ≤ b) (h : w.ownsRow base e size v n xs) : w.ownsRow base' e size v n xs := by
 refine ⟨h.1, ?_⟩
 rcases h.2 with h1 | ⟨b, cap, cur, h1, h2, h3⟩
 · exact .inl h1
 · exact .inr ⟨b, cap, cur, h1, hb b (by rw [h1]; rfl), h3⟩
theorem OwnOk.raise {w : World} {base base' : Nat} {O O0 : Nat → Prop} {g : Nat → Value} {v : Value} {o : Ob} (hb : ∀ b, Blk v b → base' ≤ b) (h : OwnOk w base O O0 g v o) : OwnOk w base' O O0 g v o := by
 cases o with
 | row e t fr l =>
  obtain ⟨xs, ho, h1, hc⟩ := h
  exact ⟨xs, ownsRow_raise (fun b h => hb b (.of h)) ho, h1, hc⟩
 | mat e e' t fr xs st =>
  obtain ⟨⟨cells, h1, h2, h3⟩, h4, h5, h6⟩ := h
  refine ⟨⟨cells, ownsRow_raise (fun b h => hb b (.inl h)) h1, h2, h3⟩, fun i => ?_, h5, h6⟩
  obtain ⟨ys, ho, h7, hc⟩ := h4 i
  exact ⟨ys, ownsRow_raise (fun b h => hb b (.inr ⟨i, h⟩)) ho, h7, hc⟩
 | box l =>
  obtain ⟨b, arr, e, rfl, h1, h2⟩ := h
  exact ⟨b, arr, e, rfl, hb b (.of rfl), h2⟩
 | box1 A =>
  obtain ⟨b, x, e, rfl, h1, h2⟩ := h
  exact ⟨b, x, e, rfl, hb b (.of rfl), h2⟩
 | mp kk t m n =>
  obtain ⟨b, es, cl, rfl, h1, h2⟩ := h
  exact ⟨b, es, cl, rfl, hb b (.of rfl), h2⟩
 | que e kk xs =>
  obtain ⟨b, off, cap, arr, rfl, h1, h2⟩ := h
  exact ⟨b, off, cap, arr, rfl, hb b (.of rfl), h2⟩
 | sit s p =>
  obtain ⟨b, rfl, h1, h2⟩ := h
  exact ⟨b, rfl, hb b (.of rfl), h2⟩
 | mps l =>
  obtain ⟨b, rfl, h1, h2⟩ := h
  exact ⟨b, rfl, hb b (.of rfl), h2⟩
 | mit km st =>
  obtain ⟨b, mb, rfl, h1, h2⟩ := h
  exact ⟨b, mb, rfl, hb b (.of rfl), h2⟩
 | gone =>
  obtain ⟨b, o, rfl, h1, h2⟩ := h
  exact ⟨b, o, rfl, hb b (.of rfl), h2⟩
theorem Hp.raise {base base' : Nat} {O0 : Nat → Prop} {own : List (Nat × Ob)} {g : Nat → Value} {w : World} (hb : ∀ b, Oset own g b → base' ≤ b) (h : Hp base O0 own g w) : Hp base' O0 own g w :=
 ⟨fun k o hk => (h.ok k o hk).raise fun b hbb => hb b ⟨k, o, hk, hbb⟩, h.inj⟩
theorem heap_lt {w : World} {b : Nat} {x : Obj} (h : w.heap[b]? = some x) : b < w.heap.size := (Array.getElem?_eq_some_iff.1 h).1
theorem Hp.keepW {base : Nat} {O0 : Nat → Prop} {own : List (Nat × Ob)} {g : Nat → Value} {w w' : World} (h : Hp base O0 own g w) (hk : Keep w w') : Hp base O0 own g w' :=
 ⟨fun k o hko => (h.ok k o hko).mono (fun b x e fz hb hO => ⟨(hk.b b (heap_lt hb)).trans hb, hO⟩) (fun _ _ _ _ _ _ h => h) (fun b hb => hk.b b ((h.ok k o hko).lt hb).2) (fun _ _ => rfl), h.inj⟩
theorem St.keepW {c : Cx} {Γ : Sy} {g : Nat → Value} {a : Act} {w w' : World} (h : St c Γ g a w) (hk : Keep w w') : St c Γ g a w' :=
 h.change (h.keep.trans hk) (fun b x e fz hb hO => ⟨(hk.b b (heap_lt hb)).trans hb, hO⟩) (fun _ _ hA => .inr ⟨hA, fun _ _ => rfl⟩) (h.hp.keepW hk) (fun _ h => .inl h) (fun _ _ => rfl)
theorem Oset.congr {own own' : List (Nat × Ob)} {g : Nat → Value} (h : ∀ k, get? own' k = get? own k) : Oset own' g = Oset own g := by
 funext b
 simp only [Oset, h]
theorem St.congr {c : Cx} {Γ Γ' : Sy} {g : Nat → Value} {a : Act} {w : World} (h : St c Γ g a w) (ht : ∀ t, get? Γ'.tmps t = get? Γ.tmps t) (ho : ∀ k, get? Γ'.own k = get? Γ.own k) : St c Γ' g a w := by
 have hO := Oset.congr (g := g) ho
 refine ⟨h.defers, h.size, h.keep, h.o0, fun t A hA => ?_, fun b x hb => by rw [hO]; exact h.kept b x hb, ⟨fun k o hk => ?_, fun k k' o o' b h1 h2 => ?_⟩, fun b hb => h.low b (by rw [hO] at hb; exact hb), h.pin⟩
 · rw [hO]; exact h.tmps t A (by rw [← ht]; exact hA)
 · rw [hO]; exact h.hp.ok k o (by rw [← ho]; exact hk)
 · exact h.hp.inj k k' o o' b (by rw [← ho]; exact h1) (by rw [← ho]; exact h2)
def AV.purge (k : Nat) (A : AV) : AV := match A.hasKey k with
 | true => .any
 | false => A
def AV.purge2 (k : Nat) (A : AV) : AV := match A.key2 k with
 | true => .any
 | false => A
def purgeL (k : Nat) : List AV → List AV
 | [] => []
 | A :: r => A.purge2 k :: purgeL k r
def Ob.purge (k : Nat) : Ob → Ob
 | .row e t fr l => .row e t fr l
 | .mat e e' t fr xs st => .mat e e' t fr xs st
 | .box l => .box (purgeL k l)
 | .box1 A => .box1 (A.purge2 k)
 | .mp kk t m n => .mp kk t m n
 | .que e kk xs => .que e kk xs
 | .sit s p => .sit s p
 | .mps l => .mps l
 | .mit km st => match Nat.beq km k with
  | true => .gone
  | false => .mit km st
 | .gone => .gone
def mapv {α : Type} (f : α → α) : List (Nat × α) → List (Nat × α)
 | [] => []
 | (k, v) :: r => (k, f v) :: mapv f r
theorem get?_mapv {α : Type} (f : α → α) (l : List (Nat × α)) (k : Nat) : get? (mapv f l) k = (get? l k).map f := by
 induction l with
 | nil => rfl
 | cons x r ih =>
  obtain ⟨k', v⟩ := x
  simp only [mapv, get?]
  cases Nat.beq k' k <;> simp [ih]
theorem AV.purge_key (k : Nat) (A : AV) : A.purge k = .any ∨ (A.purge k = A ∧ A.hasKey k = false) := by
 unfold AV.purge
 cases A.hasKey k <;> simp
theorem AV.purge2_key (k : Nat) (A : AV) : A.purge2 k = .any ∨ (A.purge2 k = A ∧ A.key2 k = false) := by
 unfold AV.purge2
 cases A.key2 k <;> simp
theorem purgeL_get {k : Nat} : ∀ {l : List AV} {i : Nat}, (purgeL k l)[i]? = (l[i]?).map (AV.purge2 k)
 | [], i => by simp [purgeL]
 | A :: r, i => by
  cases i with
  | zero => simp [purgeL]
  | succ i => simp [purgeL, purgeL_get (l := r) (i := i)]
theorem purgeL_len {k : Nat} : ∀ {l : List AV}, (purgeL k l).length = l.length
 | [] => rfl
 | A :: r => by simp [purgeL, purgeL_len (l := r)]
theorem purge2_no {k : Nat} {A : AV} : (A.purge2 k).key2 k = false := by
 rcases AV.purge2_key k A with h | ⟨h, h'⟩
 · rw [h]; rfl
 · rw [h]; exact h'
theorem anyKey2_purge {k : Nat} : ∀ {l : List AV}, anyKey2 k (purgeL k l) = false
 | [] => rfl
 | A :: r => by simp [purgeL, anyKey2, purge2_no, anyKey2_purge (l := r)]
theorem Ob.purge_no {k : Nat} {o : Ob} : (o.purge k).hasKey k = false := by
 cases o with
 | row => rfl
 | mat => rfl
 | box l => exact anyKey2_purge
 | box1 A => exact purge2_no
 | mp => rfl
 | que => rfl
 | sit => rfl
 | mps => rfl
 | mit km st =>
  simp only [Ob.purge]
  cases h : Nat.beq km k with
  | true => rfl
  | false => exact h
 | gone => rfl
theorem Rp2.purge {w : World} {O O0 : Nat → Prop} {g : Nat → Value} {v : Value} {A : AV} {k : Nat} (h : Rp2 w O O0 g v A) : Rp2 w O O0 g v (A.purge2 k) := by
 rcases AV.purge2_key k A with h' | ⟨h', _⟩ <;> rw [h']
 · trivial
 · exact h
theorem OwnOk.purge {w : World} {base : Nat} {O O0 : Nat → Prop} {g : Nat → Value} {v : Value} {o : Ob} {k : Nat} (h : OwnOk w base O O0 g v o) : OwnOk w base O O0 g v (o.purge k) := by
 cases o with
 | row => exact h
 | mat => exact h
 | mp => exact h
 | que => exact h
 | sit => exact h
 | mps => exact h
 | mit km st =>
  simp only [Ob.purge]
  cases hb : Nat.beq km k with
  | true =>
   obtain ⟨b, mb, h1, h2, h3, _⟩ := h
   exact ⟨b, _, h1, h2, h3⟩
  | false => exact h
 | gone => exact h
 | box l =>
  obtain ⟨b, arr, e, rfl, h1, h2, h3, h4⟩ := h
  have hm : mk2 (purgeL k l) = true → mk2 l = true := mk2_of purgeL_len.symm fun A A' hA hA' hm => by
   rw [purgeL_get, hA] at hA'
   cases hA'
   rcases AV.purge2_key k A with h | ⟨h, _⟩
   · rw [h] at hm; cases hm
   · rw [h] at hm; exact hm
  refine ⟨b, arr, e.of hm, rfl, h1, h2, by rw [purgeL_len]; exact h3, fun i B hB => ?_⟩
  rw [purgeL_get] at hB
  obtain ⟨A0, hA0, rfl⟩ := Option.map_eq_some_iff.1 hB
  obtain ⟨x, h5, h6, h7⟩ := h4 i A0 hA0
  exact ⟨x, h5, h6, h7.purge⟩
 | box1 A =>
  obtain ⟨b, x, e, rfl, h1, h2, h3, h4⟩ := h
  exact ⟨b, x, e, rfl, h1, h2, h3, h4.purge⟩
def Sy.drop (Γ : Sy) (k : Nat) : Sy := ⟨mapv (AV.purge k) Γ.tmps, mapv (Ob.purge k) (del Γ.own k)⟩
theorem St.drop {c : Cx} {Γ : Sy} {g : Nat → Value} {a : Act} {w : World} (k : Nat) (h : St c Γ g a w) : St c (Γ.drop k) g a w := by
 have hO : ∀ b, Oset (Γ.drop k).own g b → Oset Γ.own g b := by
  rintro b ⟨j, o, h1, h2⟩
  simp only [Sy.drop, get?_mapv, get?_del] at h1
  split at h1
  · cases h1
  · obtain ⟨o', h3, _⟩ := Option.map_eq_some_iff.1 h1
    exact ⟨j, o', h3, h2⟩
 refine h.change h.keep (fun b x e fz hb hn => ⟨hb, fun h' => hn (hO b h')⟩) (fun t A hA => ?_) ⟨fun j o hj => ?_, fun j j' o o' b hj hj' => ?_⟩ (fun b hb => .inl (hO b hb)) (fun _ _ => rfl)
 · simp only [Sy.drop, get?_mapv] at hA
   obtain ⟨A0, h1, rfl⟩ := Option.map_eq_some_iff.1 hA
   rcases AV.purge_key k A0 with h' | ⟨h', _⟩
   · exact .inl h'
   · rw [h']; exact .inr ⟨h1, fun _ _ => rfl⟩
 · simp only [Sy.drop, get?_mapv, get?_del] at hj
   split at hj
   · cases hj
   · obtain ⟨o', h3, rfl⟩ := Option.map_eq_some_iff.1 hj
     exact ((h.hp.ok j o' h3).mono (fun b x e fz hb hn => ⟨hb, fun h' => hn (hO b h')⟩) (fun _ _ _ _ _ _ h => h) (fun _ _ => rfl) (fun _ _ => rfl)).purge
 · simp only [Sy.drop, get?_mapv, get?_del] at hj hj'
   split at hj
   · cases hj
   · split at hj'
     · cases hj'
     · obtain ⟨o1, h3, rfl⟩ := Option.map_eq_some_iff.1 hj
       obtain ⟨o2, h4, rfl⟩ := Option.map_eq_some_iff.1 hj'
       exact h.hp.inj j j' o1 o2 b h3 h4
def Sy.free (Γ : Sy) (k : Nat) : Prop := (∀ t A, get? Γ.tmps t = some A → A.hasKey k = false) ∧ (∀ j o, get? Γ.own j = some o → o.hasKey k = false) ∧ get? Γ.own k = none ∧ k % PK2 < PK
theorem Sy.drop_free (Γ : Sy) (k : Nat) (hk : k % PK2 < PK) : (Γ.drop k).free k := by
 refine ⟨fun t A hA => ?_, fun j o hj => ?_, ?_, hk⟩
 · simp only [Sy.drop, get?_mapv] at hA
   obtain ⟨A0, h1, rfl⟩ := Option.map_eq_some_iff.1 hA
   rcases AV.purge_key k A0 with h' | ⟨h', h''⟩
   · rw [h']; rfl
   · rw [h']; exact h''
 · simp only [Sy.drop, get?_mapv] at hj
   obtain ⟨o0, h1, rfl⟩ := Option.map_eq_some_iff.1 hj
   exact Ob.purge_no
 · simp [Sy.drop, get?_mapv, get?_del]
def updg (g : Nat → Value) (k : Nat) (v : Value) : Nat → Value := fun j => if j = k then v else g j
def mg (N : List (Nat × Ob)) (gN g : Nat → Value) : Nat → Value := fun k => match get? N k with
 | some _ => gN k
 | none => g k
theorem mg_some {N : List (Nat × Ob)} {gN g : Nat → Value} {k : Nat} {o : Ob} (h : get? N k = some o) : mg N gN g k = gN k := by simp [mg, h]
theorem mg_none {N : List (Nat × Ob)} {gN g : Nat → Value} {k : Nat} (h : get? N k = none) : mg N gN g k = g k := by simp [mg, h]
theorem St.adopt {c : Cx} {Γ : Sy} {g gN : Nat → Value} {a : Act} {w w' : World} (h : St c Γ g a w) (hk : Keep w w') {N : List (Nat × Ob)} (hf : ∀ k o, get? N k = some o → Γ.free k)
  (hv : ∀ k o b, get? N k = some o → Blk (gN k) b → w.heap.size ≤ b)
  (hi : ∀ k k' o o' b, get? N k = some o → get? N k' = some o' → Blk (gN k) b → Blk (gN k') b → k = k')
  (ho : ∀ k o, get? N k = some o → OwnOk w' 0 (Oset (N ++ Γ.own) (mg N gN g)) c.O0 (mg N gN g) (gN k) o) : St c ⟨Γ.tmps, N ++ Γ.own⟩ (mg N gN g) a w' := by
 have own_of : ∀ k o, get? (N ++ Γ.own) k = some o → get? N k = some o ∨ (get? N k = none ∧ get? Γ.own k = some o) := by
  intro k o h1
  rw [get?_append] at h1
  cases hN : get? N k with
  | some x => rw [hN] at h1; exact .inl h1
  | none => rw [hN] at h1; exact .inr ⟨rfl, h1⟩
 have hO : ∀ b, b < w.heap.size → Oset (N ++ Γ.own) (mg N gN g) b → Oset Γ.own g b := by
  rintro b hlt ⟨j, o', h1, h2⟩
  rcases own_of j o' h1 with h3 | ⟨h3, h4⟩
  · rw [mg_some h3] at h2
    have := hv j o' b h3 h2
    omega
  · rw [mg_none h3] at h2
    exact ⟨j, o', h4, h2⟩
 have hmono : ∀ b x e fz, w.heap[b]? = some (.cells x e fz) → ¬ Oset Γ.own g b → w'.heap[b]? = some (.cells x e fz) ∧ ¬ Oset (N ++ Γ.own) (mg N gN g) b :=
  fun b x e fz hb hn => ⟨(hk.b b (heap_lt hb)).trans hb, fun h' => hn (hO b (heap_lt hb) h')⟩
 have hg : ∀ k, Γ.free k ∨ mg N gN g k = g k := by
  intro k
  cases hN : get? N k with
  | some x => exact .inl (hf k x hN)
  | none => exact .inr (mg_none hN)
 have hlow : ∀ b, Oset (N ++ Γ.own) (mg N gN g) b → Oset Γ.own g b ∨ c.w0.heap.size ≤ b := fun b hb => by
  by_cases hlt : b < w.heap.size
  · exact .inl (hO b hlt hb)
  · exact .inr (Nat.le_trans h.keep.size (by omega))
 have hpin : ∀ k, PK ≤ k % PK2 → mg N gN g k = g k := fun k hk => by
  cases hN : get? N k with
  | some x => have := (hf k x hN).2.2.2; omega
  | none => exact mg_none hN
 refine h.change (h.keep.trans hk) hmono (fun t A hA => .inr ⟨hA, fun j hj => ?_⟩) ⟨fun j o' hj => ?_, fun j j' o1 o2 b hj hj' hb hb' => ?_⟩ hlow hpin
 · rcases hg j with h1 | h1
   · rw [h1.1 t A hA] at hj; cases hj
   · exact h1
 · rcases own_of j o' hj with h3 | ⟨h3, h4⟩
   · rw [mg_some h3]; exact ho j o' h3
   · rw [mg_none h3]
     have h1 := h.hp.ok j o' h4
     refine h1.mono hmono (fun _ _ _ _ _ _ h => h) (fun b hb => hk.b b (h1.lt hb).2) (fun i hi => ?_)
     rcases hg i with h5 | h5
     · rw [h5.2.1 j o' h4] at hi; cases hi
     · exact h5
 · rcases own_of j o1 hj with h3 | ⟨h3, h4⟩ <;> rcases own_of j' o2 hj' with h5 | ⟨h5, h6⟩
   · rw [mg_some h3] at hb; rw [mg_some h5] at hb'
     exact hi j j' o1 o2 b h3 h5 hb hb'
   · rw [mg_some h3] at hb; rw [mg_none h5] at hb'
     have := hv j o1 b h3 hb
     have := ((h.hp.ok j' o2 h6).lt hb').2
     omega
   · rw [mg_none h3] at hb; rw [mg_some h5] at hb'
     have := hv j' o2 b h5 hb'
     have := ((h.hp.ok j o1 h4).lt hb).2
     omega
   · rw [mg_none h3] at hb; rw [mg_none h5] at hb'
     exact h.hp.inj j j' o1 o2 b h4 h6 hb hb'
theorem St.writeB {c : Cx} {Γ : Sy} {g : Nat → Value} {a : Act} {w w' : World} (h : St c Γ g a w) {k : Nat} {o o' : Ob} (hko : get? Γ.own k = some o) {v' : Value}
  (h1 : w'.os = w.os) (h2 : w'.tape = w.tape) (h3 : w'.output = w.output) (h4 : w.heap.size ≤ w'.heap.size) (hw : ∀ b, b < w.heap.size → ¬ Blk (g k) b → w'.heap[b]? = w.heap[b]?)
  (hf : (∀ t A, get? Γ.tmps t = some A → A.same g (updg g k v')) ∧ (∀ j o, j ≠ k → get? Γ.own j = some o → o.same g (updg g k v')))
  (hv : ∀ b, Blk v' b → Blk (g k) b ∨ w.heap.size ≤ b)
  (ho : OwnOk w' 0 (Oset (set Γ.own k o') (updg g k v')) c.O0 (updg g k v') v' o') (hpk : k % PK2 < PK ∨ v' = g k) : St c ⟨Γ.tmps, set Γ.own k o'⟩ (updg g k v') a w' := by
 have hO : ∀ b, b < w.heap.size → Oset (set Γ.own k o') (updg g k v') b → Oset Γ.own g b := by
  rintro b hlt ⟨j, o'', h1, h2⟩
  simp only [get?_set] at h1
  by_cases hj : j = k
  · subst hj
    simp only [updg, if_true] at h2
    rcases hv b h2 with h3 | h3
    · exact ⟨j, o, hko, h3⟩
    · omega
  · simp only [hj, if_false] at h1
    simp only [updg, hj, if_false] at h2
    exact ⟨j, o'', h1, h2⟩
 have hmono : ∀ b x e fz, w.heap[b]? = some (.cells x e fz) → ¬ Oset Γ.own g b → w'.heap[b]? = some (.cells x e fz) ∧ ¬ Oset (set Γ.own k o') (updg g k v') b :=
  fun b x e fz hb hn => ⟨(hw b (heap_lt hb) (fun h' => hn ⟨k, o, hko, h'⟩)).trans hb, fun h' => hn (hO b (heap_lt hb) h')⟩
 have hgk : ∀ j, j ≠ k → updg g k v' j = g j := fun j hj => by simp [updg, hj]
 refine ⟨h.defers, h.size, ⟨h1.trans h.keep.os, h2.trans h.keep.tape, h3.trans h.keep.output, Nat.le_trans h.keep.size h4, fun b hb hnB => ?_⟩, h.o0,
  fun t A hA => (h.tmps t A hA).monoS hmono (fun _ _ _ _ _ _ h => h) (hf.1 t A hA), fun b x hb => hmono b _ _ _ (h.kept b x hb).1 (h.kept b x hb).2, ⟨fun j o'' hj => ?_, fun j j' o1 o2 b hj hj' hb hb' => ?_⟩, fun b hb => ?_, fun j hj => ?_⟩
 · refine (hw b (Nat.lt_of_lt_of_le hb h.keep.size) (fun h' => ?_)).trans (h.keep.b b hb hnB)
   rcases h.low b ⟨k, o, hko, h'⟩ with h5 | h5
   · omega
   · exact hnB h5
 rotate_left 2
 · by_cases hlt : b < w.heap.size
   · exact h.low b (hO b hlt hb)
   · exact .inl (Nat.le_trans h.keep.size (by omega))
 · rw [← h.pin j hj]
   unfold updg
   split
   · rename_i e
     subst e
     rcases hpk with h5 | h5
     · omega
     · exact h5
   · rfl
 · simp only [get?_set] at hj
   by_cases e : j = k
   · subst e
     simp only [if_true] at hj
     cases hj
     simpa [updg] using ho
   · simp only [e, if_false] at hj
     have h1 := h.hp.ok j o'' hj
     rw [hgk j e]
     exact h1.monoS hmono (fun _ _ _ _ _ _ h => h) (fun b hb => hw b (h1.lt hb).2 (fun h' => e (h.hp.inj j k _ _ b hj hko hb h'))) (hf.2 j o'' e hj)
 · simp only [get?_set] at hj hj'
   by_cases e : j = k <;> by_cases e' : j' = k
   · rw [e, e']
   · subst e
     simp only [if_true] at hj
     simp only [e', if_false] at hj'
     rw [hgk j' e'] at hb'
     simp only [updg, if_true] at hb
     rcases hv b hb with h3 | h3
     · exact absurd (h.hp.inj j j' _ _ b hko hj' h3 hb').symm e'
     · have := ((h.hp.ok j' _ hj').lt hb').2; omega
   · subst e'
     simp only [if_true] at hj'
     simp only [e, if_false] at hj
     rw [hgk j e] at hb
     simp only [updg, if_true] at hb'
     rcases hv b hb' with h3 | h3
     · exact absurd (h.hp.inj j j' _ _ b hj hko hb h3) e
     · have := ((h.hp.ok j _ hj).lt hb).2; omega
   · simp only [e, e', if_false] at hj hj'
     rw [hgk j e] at hb
     rw [hgk j' e'] at hb'
     exact h.hp.inj j j' _ _ b hj hj' hb hb'
theorem St.write {c : Cx} {Γ : Sy} {g : Nat → Value} {a : Act} {w w' : World} (h : St c Γ g a w) {k : Nat} {o o' : Ob} (hko : get? Γ.own k = some o) {v' : Value}
  (hw0 : w.grownBy w' (blk (g k)))
  (hf : v' = g k ∨ (((∀ t A, get? Γ.tmps t = some A → A.hasKey k = false) ∧ (∀ j o, j ≠ k → get? Γ.own j = some o → o.hasKey k = false)) ∧ k % PK2 < PK))
  (hv : ∀ b, blk v' = some b → blk (g k) = some b ∨ w.heap.size ≤ b)
  (ho : OwnOk w' 0 (Oset (set Γ.own k o') (updg g k v')) c.O0 (updg g k v') v' o') (hm : o'.isMat = false := by rfl) : St c ⟨Γ.tmps, set Γ.own k o'⟩ (updg g k v') a w' := by
 have same : ∀ j, j ≠ k ∨ v' = g k → updg g k v' j = g j := by
  intro j hj
  unfold updg
  split
  · rename_i e
    rcases hj with hj | hj
    · exact absurd e hj
    · rw [e]; exact hj
  · rfl
 refine h.writeB hko hw0.os hw0.tape hw0.output hw0.size (fun b hb hn => hw0.block b hb (fun e => hn (.of e.symm))) ⟨fun t A hA => same_of fun j hj => same j ?_, fun j o hjk hj => Ob.same_of fun i hi => same i ?_⟩ (fun b hb => ?_) ho (hf.elim .inr fun h => .inl h.2)
 · rcases hf with hf | ⟨⟨hf, _⟩, _⟩
   · exact .inr hf
   · refine .inl fun e => ?_
     rw [e, hf t A hA] at hj; cases hj
 · rcases hf with hf | ⟨⟨_, hf⟩, _⟩
   · exact .inr hf
   · refine .inl fun e => ?_
     rw [e, hf j o hjk hj] at hi; cases hi
 · rcases hv b (ho.one hm hb) with h1 | h1
   · exact .inl (.of h1)
   · exact .inr h1
inductive TK where
 | int (k : IntKind) | bool | str | sl (e : TypeId) | strct (l : List (Nat × TypeId)) | arr (n : Nat) (e : TypeId) | map (k e : TypeId) | ptr (e : TypeId) | blank | ifc | oth
def TK.of : TypeDesc → TK
 | .int k => .int k
 | .bool => .bool
 | .string => .str
 | .slice e => .sl e
 | .struct fs => match fs.toList.all (fun f => f.name != "_") with
  | true => .strct (fs.toList.map fun f => (f.offset, f.type))
  | false => .blank
 | .pointer e => .ptr e
 | .array n e => .arr n e
 | .map k e => .map k e
 | .interface _ => .ifc
 | _ => .oth
def TK.isAgg : TK → Bool
 | .strct _ => true
 | .arr _ _ => true
 | .blank => true
 | _ => false
structure TE where
 kind : TK
 size : Nat
 bytes : Nat
 zero : Value
 ty : Option Ty
def TE.ok (P : Program) (t : TypeId) (x : TE) : Prop :=
 (P.info? t).map (fun i => (i.zero, i.size, i.bytes)) = some (some x.zero, x.size, x.bytes) ∧ (P.underlying t).map TK.of = some x.kind ∧
 (∀ y, x.ty = some y → x.zero.cells.toList = y.zcells ∧ x.size = y.size ∧ y.good = true ∧ 0 < y.size ∧ x.bytes ≤ 4096 ∧ x.kind.isAgg = !y.leaf) ∧
 (P.stoodInHeld t = false ∧ (x.ty.isSome = true → P.eqGuardType P.depth t = false))
def TOk (P : Program) (T : List (Nat × TE)) : Prop := ∀ t x, get? T t = some x → x.ok P t
theorem TOk.nil (P : Program) : TOk P [] := fun _ _ h => by cases h
theorem TOk.cons {P : Program} {t : TypeId} {x : TE} {T : List (Nat × TE)} (h : x.ok P t) (hT : TOk P T) : TOk P ((t, x) :: T) := by
 intro t' y hy
 simp only [get?] at hy
 cases hb : Nat.beq t t' with
 | true =>
  rw [hb] at hy
  cases hy
  rw [← Nat.eq_of_beq_eq_true hb]
  exact h
 | false => rw [hb] at hy; exact hT t' y hy
theorem TE.ok.under {P : Program} {t : TypeId} {x : TE} (h : x.ok P t) : ∃ d, P.underlying t = some d ∧ TK.of d = x.kind := by
 have := h.2.1
 cases hd : P.underlying t with
 | none => rw [hd] at this; cases this
 | some d => rw [hd] at this; exact ⟨d, rfl, by simpa using this⟩
theorem TE.ok.info {P : Program} {t : TypeId} {x : TE} (h : x.ok P t) : ∃ i, P.info? t = some i ∧ i.zero = some x.zero ∧ i.size = x.size ∧ i.bytes = x.bytes := by
 have := h.1
 cases hd : P.info? t with
 | none => rw [hd] at this; cases this
 | some d => rw [hd] at this; simp at this; exact ⟨d, rfl, this.1, this.2.1, this.2.2⟩
theorem TE.ok.sl {P : Program} {t : TypeId} {x : TE} (h : x.ok P t) {e : TypeId} (hk : x.kind = .sl e) : P.underlying t = some (.slice e) := by
 obtain ⟨d, h1, h2⟩ := h.under
 rw [hk] at h2
 cases d with
 | struct fs => simp only [TK.of] at h2; split at h2 <;> cases h2
 | _ => first | (simp [TK.of] at h2; done) | (simp [TK.of] at h2; subst h2; exact h1)
theorem TE.ok.int {P : Program} {t : TypeId} {x : TE} (h : x.ok P t) {k : IntKind} (hk : x.kind = .int k) : P.underlying t = some (.int k) := by
 obtain ⟨d, h1, h2⟩ := h.under
 rw [hk] at h2
 cases d with
 | struct fs => simp only [TK.of] at h2; split at h2 <;> cases h2
 | _ => first | (simp [TK.of] at h2; done) | (simp [TK.of] at h2; subst h2; exact h1)
theorem TE.ok.strct' {P : Program} {t : TypeId} {x : TE} (h : x.ok P t) {l : List (Nat × TypeId)} (hk : x.kind = .strct l) : ∃ fs, P.underlying t = some (.struct fs) ∧ fs.toList.map (fun f => (f.offset, f.type)) = l ∧ ∀ f ∈ fs.toList, f.name ≠ "_" := by
 obtain ⟨d, h1, h2⟩ := h.under
 rw [hk] at h2
 cases d <;> simp only [TK.of] at h2 <;> first | (cases h2; done) | skip
 rename_i fs
 split at h2
 · rename_i ha
   refine ⟨fs, h1, by simpa using h2, fun f hf => ?_⟩
   have := List.all_eq_true.1 ha f hf
   simpa using this
 · cases h2
theorem TE.ok.strct {P : Program} {t : TypeId} {x : TE} (h : x.ok P t) {l : List (Nat × TypeId)} (hk : x.kind = .strct l) : ∃ fs, P.underlying t = some (.struct fs) ∧ fs.toList.map (fun f => (f.offset, f.type)) = l :=
 let ⟨fs, h1, h2, _⟩ := h.strct' hk
 ⟨fs, h1, h2⟩
theorem TE.ok.isAgg {P : Program} {t : TypeId} {x : TE} (h : x.ok P t) (w : World) : (Go.isAgg t).run P w = .ok x.kind.isAgg w := by
 obtain ⟨d, h1, h2⟩ := h.under
 rw [← h2]
 cases d with
 | struct fs =>
  simp only [TK.of]
  split
  · simp [Go.isAgg, run_underlying h1, TK.isAgg]
  · simp [Go.isAgg, run_underlying h1, TK.isAgg]
 | _ => simp [Go.isAgg, run_underlying h1, TK.of, TK.isAgg]
def look (Γ : Sy) : Operand → Option AV
 | .tmp t => get? Γ.tmps t
 | .const v => match v.oneCell' with
  | true => some (.lit v)
  | false => none
 | .func f => match isPl f with
  | true => some (.fn f [])
  | false => none
 | .global _ => none
theorem St.look {c : Cx} {Γ : Sy} {g : Nat → Value} {a : Act} {w : World} (h : St c Γ g a w) {x : Operand} {A : AV} (hx : Vc.look Γ x = some A) : Rp w (Oset Γ.own g) c.O0 g (a.eval x) A := by
 cases x with
 | tmp t => exact h.tmps t A hx
 | const v =>
  simp only [Vc.look] at hx
  cases hv : v.oneCell' with
  | false => rw [hv] at hx; cases hx
  | true => rw [hv] at hx; cases hx; exact ⟨rfl, hv⟩
 | func f =>
  simp only [Vc.look] at hx
  cases hv : isPl f with
  | false => rw [hv] at hx; cases hx
  | true => rw [hv] at hx; cases hx; exact ⟨fun _ => undef, #[], by unfold fnV; rw [hv]; rfl, rfl, fun i B hB => by simp at hB⟩
 | global => cases hx
def Ev (c : Cx) (Γ : Sy) (G : Path) (x : Operand) (A : AV) : Prop :=
 G.ok → ∀ Γ' g a w, look Γ' x = look Γ x → St c Γ' g a w → Rp2 w (Oset Γ'.own g) c.O0 g (a.eval x) A
def withOp (Γ : Sy) (G : Path) (x : Operand) (K : AV → Prop) : Prop := match look Γ x with
 | some (.gd p A) => G.drop (G.length - p.length) = p ∧ K A
 | some A => K A
 | none => False
theorem Path.ok_drop : ∀ {G : Path} (n : Nat), G.ok → Path.ok (G.drop n)
 | _, 0, h => h
 | [], _ + 1, h => h
 | _ :: r, n + 1, h => Path.ok_drop (G := r) n h.2
theorem withOp.ev {c : Cx} {Γ : Sy} {G : Path} {x : Operand} {K : AV → Prop} (h : withOp Γ G x K) : ∃ A, Ev c Γ G x A ∧ K A := by
 unfold withOp at h
 cases hl : look Γ x with
 | none => rw [hl] at h; exact h.elim
 | some A =>
  rw [hl] at h
  cases A with
  | gd p A =>
   obtain ⟨h1, h2⟩ := h
   refine ⟨A, fun hG Γ' g a w hx hst => ?_, h2⟩
   rw [hl] at hx
   exact (hst.look hx).1 (h1 ▸ Path.ok_drop _ hG)
  | _ => exact ⟨_, fun hG Γ' g a w hx hst => by rw [hl] at hx; exact hst.look hx, h⟩
def withOps (Γ : Sy) (G : Path) : List Operand → (List AV → Prop) → Prop
 | [], K => K []
 | x :: r, K => withOp Γ G x fun A => withOps Γ G r fun l => K (A :: l)
theorem withOps.ev {c : Cx} {Γ : Sy} {G : Path} : ∀ {xs : List Operand} {K : List AV → Prop}, withOps Γ G xs K → ∃ l, l.length = xs.length ∧ (∀ (i : Nat) (x : Operand) (A : AV), xs[i]? = some x → l[i]? = some A → Ev c Γ G x A) ∧ K l
 | [], K, h => ⟨[], rfl, fun i x A hx => by simp at hx, h⟩
 | x :: r, K, h => by
  obtain ⟨A, h1, h2⟩ := withOp.ev (c := c) h
  obtain ⟨l, h3, h4, h5⟩ := withOps.ev (c := c) h2
  refine ⟨A :: l, by simp [h3], fun i y B hy hB => ?_, h5⟩
  cases i with
  | zero => simp at hy hB; subst hy; subst hB; exact h1
  | succ i => exact h4 i y B (by simpa using hy) (by simpa using hB)
def Does (P : Program) (c : Cx) (o : Oper) (Γ : Sy) (A : AV) (N : List (Nat × Ob)) : Prop :=
 ∀ (Γ' : Sy) (g : Nat → Value) (a : Act) (w : World) (next : Act → World → Prop) (Q : Exit → Act → World → Prop),
   (∀ x ∈ o.op.operands, look Γ' x = look Γ x) → (∀ k b, get? Γ.own k = some b → get? Γ'.own k = some b) → (∀ k b, get? N k = some b → Γ'.free k) → St c Γ' g a w →
   (∀ g' v w', St c ⟨Γ'.tmps, N ++ Γ'.own⟩ g' a w' → Rp2 w' (Oset (N ++ Γ'.own) g') c.O0 g' v A → next (a.put o.dst v) w') → o.wp P a w next Q
theorem Does.value {P : Program} {c : Cx} {o : Oper} {Γ : Sy} {A : AV}
  (h : ∀ (Γ' : Sy) (g : Nat → Value) (a : Act) (w : World), (∀ x ∈ o.op.operands, look Γ' x = look Γ x) → (∀ k b, get? Γ.own k = some b → get? Γ'.own k = some b) → St c Γ' g a w →
   ∃ v, (execOp a.eval o).run P w = .ok (.value v) w ∧ Rp2 w (Oset Γ'.own g) c.O0 g v A) : Does P c o Γ A [] := by
 intro Γ' g a w next Q hl ho _ hst hk
 obtain ⟨v, h1, h2⟩ := h Γ' g a w hl ho hst
 unfold Oper.wp
 rw [h1]
 exact hk g v w hst h2
def Cx.S (c : Cx) (w : World) : Prop := ∀ b x, c.K b = some x → w.heap[b]? = some (.cells x.1 x.2.1 x.2.2)
theorem St.s {c : Cx} {Γ : Sy} {g : Nat → Value} {a : Act} {w : World} (h : St c Γ g a w) : c.S w := fun b x hb => (h.kept b x hb).1
def Cx.full (c : Cx) (w : World) (O : Nat → Prop) : Prop := ∀ b x e fz, w.heap[b]? = some (.cells x e fz) → ¬ O b → c.K b = some (x, e, fz)
def Still (P : Program) (c : Cx) (o : Oper) (Γ : Sy) (A : AV) : Prop :=
  ∀ (Γ' : Sy) (g : Nat → Value) (a : Act) (w : World), (∀ x ∈ o.op.operands, look Γ' x = look Γ x) → (∀ k b, get? Γ.own k = some b → get? Γ'.own k = some b) → St c Γ' g a w →
      c.full w (Oset Γ'.own g) → ∃ v, (∀ w', c.S w' → (execOp a.eval o).run P w' = .ok (.value v) w') ∧ Rp2 w (Oset Γ'.own g) c.O0 g v A
def Still0 (P : Program) (c : Cx) (o : Oper) (Γ : Sy) (A : AV) : Prop :=
  ∀ (Γ' : Sy) (g : Nat → Value) (a : Act) (w : World), (∀ x ∈ o.op.operands, look Γ' x = look Γ x) → (∀ k b, get? Γ.own k = some b → get? Γ'.own k = some b) → St c Γ' g a w →
      ∃ v, (∀ w', (execOp a.eval o).run P w' = .ok (.value v) w') ∧ Rp2 w (Oset Γ'.own g) c.O0 g v A
theorem Still0.still {P : Program} {c : Cx} {o : Oper} {Γ : Sy} {A : AV} (h : Still0 P c o Γ A) : Still P c o Γ A :=
 fun Γ' g a w hl hown hst _ => let ⟨v, h1, h2⟩ := h Γ' g a w hl hown hst; ⟨v, fun w' _ => h1 w', h2⟩
theorem Still0.does {P : Program} {c : Cx} {o : Oper} {Γ : Sy} {A : AV} (h : Still0 P c o Γ A) : Does P c o Γ A [] :=
 Does.value fun Γ' g a w hl hown hst => let ⟨v, h1, h2⟩ := h Γ' g a w hl hown hst; ⟨v, h1 w, h2⟩
def InK : IntKind → Int → Prop
 | .i64, n => -9223372036854775808 ≤ n ∧ n ≤ 9223372036854775807
 | .i32, n => -2147483648 ≤ n ∧ n ≤ 2147483647
 | .u8, n => 0 ≤ n ∧ n ≤ 255
 | .u16, n => 0 ≤ n ∧ n ≤ 65535
 | .u32, n => 0 ≤ n ∧ n ≤ 4294967295
 | .u64, n => 0 ≤ n ∧ n ≤ 18446744073709551615
 | k, n => k.wrap n = n
theorem InK.wrap {k : IntKind} {n : Int} (h : InK k n) : k.wrap n = n := by
 cases k <;> first
  | exact IntWalk.i64_in n h
  | exact IntWalk.i32_in n h
  | exact IntWalk.u8_in n h
  | exact IntWalk.u16_in n h
  | exact IntWalk.u32_in n h
  | exact IntWalk.u64_in n h
  | exact h
def Path.imp : Path → Prop → Prop
 | [], s => s
 | x :: r, s => x.1 = x.2 → Path.imp r s
theorem Path.imp_ok : ∀ {G : Path} {s : Prop}, G.imp s → G.ok → s
 | [], _, h, _ => h
 | _ :: _, _, h, hG => Path.imp_ok (h hG.1) hG.2
theorem wrap_low {k : IntKind} {n : Int} (h0 : 0 ≤ n) (h : k.wrap n = n) : n < 2 ^ k.bits := by
 simp only [IntKind.wrap] at h
 have hp : (0 : Int) < 2 ^ k.bits := Int.pow_pos (by decide)
 have h2 := Int.emod_lt_of_pos n hp
 have h3 := Int.emod_nonneg n (Int.ne_of_gt hp)
 split at h <;> omega
theorem wrap_lower {k : IntKind} {n m : Int} (h0 : 0 ≤ n) (hnm : n ≤ m) (h : k.wrap m = m) : k.wrap n = n := by
 have hm := wrap_low (by omega) h
 simp only [IntKind.wrap] at h ⊢
 rw [Int.emod_eq_of_lt h0 (by omega)]
 rw [Int.emod_eq_of_lt (by omega) hm] at h
 split at h
 · omega
 · rename_i hc
   rw [if_neg]
   intro hx
   simp only [Bool.and_eq_true, decide_eq_true_eq] at hx hc
   exact hc ⟨hx.1, by omega⟩
theorem intBits_and {P : Program} {k : IntKind} {a b : Int} (ha : 0 ≤ a) (hb : 0 ≤ b) (ha' : InK k a) (hb' : InK k b) (w : World) : (Op.intBits .and k a b).run P w = .ok (.int k ((a.toNat &&& b.toNat : Nat) : Int)) w := by
 have h1 := wrap_low ha ha'.wrap
 have h2 := wrap_low hb hb'.wrap
 have e : (BitVec.ofInt k.bits a &&& BitVec.ofInt k.bits b).toNat = a.toNat &&& b.toNat := by
  rw [BitVec.toNat_and, BitVec.toNat_ofInt, BitVec.toNat_ofInt]
  have c : ((2 ^ k.bits : Nat) : Int) = 2 ^ k.bits := by simp
  rw [c, Int.emod_eq_of_lt ha h1, Int.emod_eq_of_lt hb h2]
 have hw : k.wrap ((a.toNat &&& b.toNat : Nat) : Int) = ((a.toNat &&& b.toNat : Nat) : Int) := by
  refine wrap_lower (by omega) ?_ ha'.wrap
  have := Nat.and_le_left (n := a.toNat) (m := b.toNat)
  omega
 simp only [Op.intBits, e, hw]
 rfl
def eqKind (a b : IntKind) : Bool := decide (a = b)
def litV : List AV → Option (List Value)
 | [] => some []
 | .lit v :: r => match litV r with
  | some l => some (v :: l)
  | none => none
 | _ => none
def litS : List SV → Option (List Value)
 | [] => some []
 | .lit v :: r => match litS r with
  | some l => some (v :: l)
  | none => none
 | _ => none
def litA : AV → Option (List Value)
 | .st _ (.agg l) => litS l
 | .strct l => litV l
 | _ => none
def cmpL (T : List (Nat × TE)) (l m : List Value) : List (Nat × TypeId) → Option Bool
 | [] => some true
 | (off, ft) :: r => match get? T ft with
  | some te => match te.kind, l[off]?, m[off]? with
   | .int _, some (.int k1 a), some (.int k2 b) => match eqKind k1 k2, cmpL T l m r with
    | true, some q => some (decide (a = b) && q)
    | _, _ => none
   | .bool, some (.bool a), some (.bool b) => match cmpL T l m r with
    | some q => some ((a == b) && q)
    | none => none
   | _, _, _ => none
  | none => none
def isRef : AV → Bool
 | .padr _ _ => true
 | .st _ (.sadr _) => true
 | .oadr _ _ _ _ => true
 | _ => false
def binVC (T : List (Nat × TE)) (G : Path) (op : BinOp) (t : TypeId) (A B : AV) (K : AV → Prop) : Prop := match A, B with
 | .lit (.int k a), .lit (.int k' b) => match op with
  | .shl => G.imp (0 ≤ b ∧ b.toNat ≤ k.bits ∧ InK k (a * 2 ^ b.toNat)) ∧ K (.lit (.int k (a * 2 ^ b.toNat)))
  | .shr => G.imp (0 ≤ b ∧ b.toNat ≤ k.bits) ∧ K (.lit (.int k (a / 2 ^ b.toNat)))
  | _ => match eqKind k k' with
  | false => False
  | true => match op with
   | .and => G.imp (0 ≤ a ∧ 0 ≤ b ∧ InK k a ∧ InK k b) ∧ K (.lit (.int k ((a.toNat &&& b.toNat : Nat) : Int)))
   | .add => G.imp (InK k (a + b)) ∧ K (.lit (.int k (a + b)))
   | .sub => G.imp (InK k (a - b)) ∧ K (.lit (.int k (a - b)))
   | .mul => G.imp (InK k (a * b)) ∧ K (.lit (.int k (a * b)))
   | .quo => G.imp (b ≠ 0 ∧ InK k (a.tdiv b)) ∧ K (.lit (.int k (a.tdiv b)))
   | .rem => G.imp (b ≠ 0) ∧ K (.lit (.int k (a.tmod b)))
   | .lss => K (.lit (.bool (decide (a < b))))
   | .leq => K (.lit (.bool (decide (a ≤ b))))
   | .gtr => K (.lit (.bool (decide (b < a))))
   | .geq => K (.lit (.bool (decide (b ≤ a))))
   | .eql => K (.lit (.bool (decide (a = b))))
   | .neq => K (.lit (.bool (!decide (a = b))))
   | _ => False
 | .lit (.bool a), .lit (.bool b) => match get? T t with
  | some { kind := .bool, .. } => match op with
   | .eql => K (.lit (.bool (a == b)))
   | .neq => K (.lit (.bool (a != b)))
   | _ => False
  | _ => False
 | .lit (.slice none _ _), .lit (.slice none _ _) => match get? T t with
  | some { kind := .sl _, .. } => match op with
   | .eql => K (.lit (.bool true))
   | .neq => K (.lit (.bool false))
   | _ => False
  | _ => False
 | .st _ (.narr _ xs), .lit (.slice none _ _) => match get? T t with
  | some { kind := .sl _, .. } => match op with
   | .eql => K (.lit (.bool xs.isEmpty))
   | .neq => K (.lit (.bool (!xs.isEmpty)))
   | _ => False
  | _ => False
 | .lit (.pointer none), .lit (.pointer none) => match get? T t with
  | some { kind := .ptr _, .. } => match op with
   | .eql => K (.lit (.bool true))
   | .neq => K (.lit (.bool false))
   | _ => False
  | _ => False
 | A, .lit (.pointer none) => match get? T t, isRef A with
  | some { kind := .ptr _, .. }, true => match op with
   | .eql => K (.lit (.bool false))
   | .neq => K (.lit (.bool true))
   | _ => False
  | _, _ => False
 | A, B => match get? T t, litA A, litA B with
  | some { kind := .strct offs, ty := some _, .. }, some l, some m => match cmpL T l m offs with
   | some q => match op with
    | .eql => K (.lit (.bool q))
    | .neq => K (.lit (.bool (!q)))
    | _ => False
   | none => False
  | _, _, _ => False
def isNilS : Value → Bool
 | .slice none _ _ => true
 | _ => false
theorem equalIn_bool {P : Program} {t : TypeId} (hu : P.underlying t = some .bool) (d : Nat) (a b : Bool) (w : World) : (Op.equalIn (d + 1) t (.bool a) (.bool b)).run P w = .ok (a == b) w := by
 rw [Op.equalIn]
 simp only [Sem.run_bind, run_underlying hu, Result.andThen_ok]
 rfl
theorem equal_bool {P : Program} {t : TypeId} (hu : P.underlying t = some .bool) (a b : Bool) (w : World) : (Op.equal t (.bool a) (.bool b)).run P w = .ok (a == b) w := equalIn_bool hu 9999 a b w
theorem equalIn_slice {P : Program} {t e : TypeId} (hu : P.underlying t = some (.slice e)) (d : Nat) (v : Value) (h : (∃ a n c, v = .slice a n c)) (n c : Nat) (w : World) :
  (Op.equalIn (d + 1) t v (.slice none n c)).run P w = .ok (isNilS v) w := by
 obtain ⟨a, n', c', rfl⟩ := h
 rw [Op.equalIn]
 simp only [Sem.run_bind, run_underlying hu, Result.andThen_ok]
 cases a <;> rfl
theorem equal_slice {P : Program} {t e : TypeId} (hu : P.underlying t = some (.slice e)) (v : Value) (h : (∃ a n c, v = .slice a n c)) (n c : Nat) (w : World) :
  (Op.equal t v (.slice none n c)).run P w = .ok (isNilS v) w := equalIn_slice hu 9999 v h n c w
theorem TE.ok.bool {P : Program} {t : TypeId} {x : TE} (h : x.ok P t) (hk : x.kind = .bool) : P.underlying t = some .bool := by
 obtain ⟨d, h1, h2⟩ := h.under
 rw [hk] at h2
 cases d with
 | struct fs => simp only [TK.of] at h2; split at h2 <;> cases h2
 | _ => first | (simp [TK.of] at h2; done) | exact h1
theorem RpS.narr_nil {w : World} {O : Nat → Prop} {v : Value} {t : Ty} {xs : List t.T} (h : RpS w O v (.narr t xs)) : (∃ a n c, v = .slice a n c) ∧ (isNilS v) = xs.isEmpty := by
 cases h with
 | narr _ _ _ h hn =>
  cases h with
  | nil => exact ⟨⟨_, _, _, rfl⟩, rfl⟩
  | emp a cap => have := hn rfl; cases this
  | arr b off cap n _ _ _ _ _ _ _ _ _ _ _ _ =>
   refine ⟨⟨_, _, _, rfl⟩, ?_⟩
   cases xs with
   | nil => simp at hn
   | cons => rfl
theorem equalIn_int {P : Program} {t : TypeId} {k0 : IntKind} (hu : P.underlying t = some (.int k0)) (d : Nat) (k : IntKind) (a b : Int) (w : World) : (Op.equalIn (d + 1) t (.int k a) (.int k b)).run P w = .ok (a == b) w := by
 rw [Op.equalIn]
 simp only [Sem.run_bind, run_underlying hu, Result.andThen_ok]
 simp
theorem equalIn_struct {P : Program} {t : TypeId} {fs : Array Field} (hu : P.underlying t = some (.struct fs)) (hs : P.stoodInHeld t = false) (hn : ∀ f ∈ fs.toList, f.name ≠ "_") (xs ys : Array Value) (w : World) (d : Nat) (r : Field → Bool)
  (hr : ∀ f ∈ fs.toList, ∃ u v, (part f.type xs f.offset).run P w = .ok u w ∧ (part f.type ys f.offset).run P w = .ok v w ∧ (Op.equalIn d f.type u v).run P w = .ok (r f) w) :
  (Op.equalIn (d + 1) t (.agg xs) (.agg ys)).run P w = .ok (fs.toList.all r) w := by
 rw [Op.equalIn]
 simp only [Sem.run_bind, run_underlying hu, Result.andThen_ok, run_program, hs, Bool.false_eq_true, if_false]
 rw [← Array.forIn_toList]
 generalize fs.toList = l at hn hr
 induction l with
 | nil => simp
 | cons f l ih =>
  obtain ⟨u, v, h1, h2, h3⟩ := hr f (by simp)
  have hnf := hn f (by simp)
  simp only [List.forIn_cons, hnf, ne_eq, not_false_eq_true, if_true, Sem.run_bind, h1, h2, h3, Result.andThen_ok]
  cases hrf : r f with
  | false => simp [hrf]
  | true =>
   have := ih (fun f hf => hn f (by simp [hf])) (fun f hf => hr f (by simp [hf]))
   simp [hrf]
   simpa using this
theorem litV_get : ∀ {l : List AV} {m : List Value}, litV l = some m → m.length = l.length ∧ ∀ (i : Nat) (u : Value), m[i]? = some u → l[i]? = some (.lit u)
 | [], m, h => by cases h; simp
 | A :: r, m, h => by
  unfold litV at h
  split at h
  · rename_i e; cases e
  · rename_i v r' e
    cases e
    split at h
    · rename_i l hl
      cases h
      obtain ⟨h1, h2⟩ := litV_get hl
      refine ⟨by simp [h1], fun i x hx => ?_⟩
      cases i with
      | zero => simp at hx ⊢; exact hx
      | succ i => simpa using h2 i x (by simpa using hx)
    · cases h
  · cases h
theorem litS_get : ∀ {l : List SV} {m : List Value}, litS l = some m → m.length = l.length ∧ ∀ (i : Nat) (u : Value), m[i]? = some u → l[i]? = some (.lit u)
 | [], m, h => by cases h; simp
 | A :: r, m, h => by
  unfold litS at h
  split at h
  · rename_i e; cases e
  · rename_i v r' e
    cases e
    split at h
    · rename_i l hl
      cases h
      obtain ⟨h1, h2⟩ := litS_get hl
      refine ⟨by simp [h1], fun i x hx => ?_⟩
      cases i with
      | zero => simp at hx ⊢; exact hx
      | succ i => simpa using h2 i x (by simpa using hx)
    · cases h
  · cases h
theorem RpS.lit_eq {w : World} {O : Nat → Prop} {v u : Value} (h : RpS w O v (.lit u)) : v = u := by
 cases h; rfl
theorem litA_ok {w : World} {O O0 : Nat → Prop} {g : Nat → Value} {v : Value} {A : AV} {m : List Value} (h : litA A = some m) (hr : Rp2 w O O0 g v A) : ∃ cs, v = .agg cs ∧ ∀ (i : Nat) (u : Value), m[i]? = some u → cs[i]? = some u := by
 unfold litA at h
 split at h
 · rename_i fr l
   obtain ⟨h1, h2⟩ := litS_get h
   have hr' : RpS w (Av O O0 fr) v (.agg l) := hr
   cases hr' with
   | agg cs _ f hs hf hr =>
    refine ⟨cs, rfl, fun i u hu => ?_⟩
    have h3 := h2 i u hu
    have h4 := hr i _ h3
    have h5 := (hf i (List.getElem?_eq_some_iff.1 h3).1).1
    rw [h5, RpS.lit_eq h4]
 · rename_i l
   obtain ⟨h1, h2⟩ := litV_get h
   obtain ⟨f, vs, rfl, hs, hf⟩ := hr
   refine ⟨vs, rfl, fun i u hu => ?_⟩
   obtain ⟨⟨h3, _⟩, h4⟩ := hf i _ (h2 i u hu)
   have h4 : f i = u ∧ u.oneCell' = true := h4
   rw [h3, h4.1]
 · cases h
theorem cmpL_ok {P : Program} {T : List (Nat × TE)} (hT : TOk P T) {l m : List Value} {xs ys : Array Value} (hx : ∀ (i : Nat) (u : Value), l[i]? = some u → xs[i]? = some u) (hy : ∀ (i : Nat) (u : Value), m[i]? = some u → ys[i]? = some u) (w : World) (d : Nat) :
  ∀ {fs : List Field} {q : Bool}, cmpL T l m (fs.map fun f => (f.offset, f.type)) = some q → ∃ r : Field → Bool, fs.all r = q ∧ ∀ f ∈ fs, ∃ u v, (part f.type xs f.offset).run P w = .ok u w ∧ (part f.type ys f.offset).run P w = .ok v w ∧ (Op.equalIn (d + 1) f.type u v).run P w = .ok (r f) w := by
 have hpart : ∀ (f : Field) (te : TE) (cs : Array Value) (u : Value), get? T f.type = some te → te.kind.isAgg = false → cs[f.offset]? = some u → (part f.type cs f.offset).run P w = .ok u w := fun f te cs u h1 h2 h3 => by
  unfold part
  simp only [Sem.run_bind, (hT _ _ h1).isAgg, h2, Result.andThen_ok, Bool.false_eq_true, if_false, h3, Sem.run_pure]
 -- for one field
 have one : ∀ (f : Field) (q : Bool) (R : Option Bool), cmpL T l m [(f.offset, f.type)] = some q → ∃ u v, (part f.type xs f.offset).run P w = .ok u w ∧ (part f.type ys f.offset).run P w = .ok v w ∧ (Op.equalIn (d + 1) f.type u v).run P w = .ok q w := by
  intro f q R h
  simp only [cmpL] at h
  split at h
  · rename_i te hte
    split at h
    · rename_i k k1 a k2 b hk h1 h2
      split at h
      · rename_i q' hkk hq
        cases hq
        have hkk : k1 = k2 := of_decide_eq_true hkk
        subst hkk
        cases h
        refine ⟨_, _, hpart f te xs _ hte (by rw [hk]; rfl) (hx _ _ h1), hpart f te ys _ hte (by rw [hk]; rfl) (hy _ _ h2), ?_⟩
        rw [equalIn_int ((hT _ _ hte).int hk)]
        simp only [Bool.and_true]
        rfl
      · cases h
    · rename_i a b hk h1 h2
      cases h
      refine ⟨_, _, hpart f te xs _ hte (by rw [hk]; rfl) (hx _ _ h1), hpart f te ys _ hte (by rw [hk]; rfl) (hy _ _ h2), ?_⟩
      rw [equalIn_bool (by
       obtain ⟨dd, g1, g2⟩ := (hT _ _ hte).under
       rw [hk] at g2
       cases dd <;> simp only [TK.of] at g2 <;> first | exact g1 | (cases g2; done) | (split at g2 <;> cases g2))]
      simp only [Bool.and_true]
    · cases h
  · cases h
 intro fs
 have split1 : ∀ (f : Field) (fs : List Field) (q : Bool), cmpL T l m ((f :: fs).map fun f => (f.offset, f.type)) = some q → ∃ q1 q2, cmpL T l m [(f.offset, f.type)] = some q1 ∧ cmpL T l m (fs.map fun f => (f.offset, f.type)) = some q2 ∧ q = (q1 && q2) := by
  intro f fs q h
  simp only [List.map_cons, cmpL] at h ⊢
  split at h
  · rename_i te hte
    split at h
    · rename_i k k1 a k2 b hk h1 h2
      split at h
      · rename_i q' hkk hq
        cases h
        exact ⟨decide (a = b), q', by simp [hkk], hq, rfl⟩
      · cases h
    · rename_i a b hk h1 h2
      split at h
      · rename_i q' hq
        cases h
        exact ⟨(a == b), q', by simp, hq, rfl⟩
      · cases h
    · cases h
  · cases h
 have key : ∀ (fs : List Field) (q : Bool), cmpL T l m (fs.map fun f => (f.offset, f.type)) = some q → ∀ f ∈ fs, ∃ q1, cmpL T l m [(f.offset, f.type)] = some q1 := by
  intro fs
  induction fs with
  | nil => intro q _ f hf; cases hf
  | cons f fs ih =>
   intro q h f' hf'
   obtain ⟨q1, q2, h1, h2, _⟩ := split1 f fs q h
   rcases List.mem_cons.1 hf' with rfl | hf'
   · exact ⟨q1, h1⟩
   · exact ih q2 h2 f' hf'
 intro q h
 refine ⟨fun f => (cmpL T l m [(f.offset, f.type)]).getD false, ?_, fun f hf => ?_⟩
 · clear key
   induction fs generalizing q with
   | nil => cases h; rfl
   | cons f fs ih =>
    obtain ⟨q1, q2, h1, h2, h3⟩ := split1 f fs q h
    rw [List.all_cons, ih h2, h1, h3]
    rfl
 · obtain ⟨q1, h1⟩ := key fs q h f hf
   show ∃ u v, _ ∧ _ ∧ _ = Result.ok ((cmpL T l m [(f.offset, f.type)]).getD false) w
   rw [h1]
   exact one f q1 none h1
theorem isRef_ok {w : World} {O O0 : Nat → Prop} {g : Nat → Value} {v : Value} {A : AV} (h : isRef A = true) (hr : Rp2 w O O0 g v A) : ∃ a, v = .pointer (some a) := by
 unfold isRef at h
 split at h
 · obtain ⟨b, _, h2⟩ := hr; exact ⟨_, h2⟩
 · rename_i fr S
   have hr' : RpS w (Av O O0 fr) v (.sadr S) := hr
   cases hr' with | sadr b off => exact ⟨_, rfl⟩
 · obtain ⟨b, _, _, _, h2⟩ := hr; exact ⟨_, h2⟩
 · cases h
theorem binVC.any {P : Program} {T : List (Nat × TE)} (hT : TOk P T) {c : Cx} {o : Oper} {Γ : Sy} {G : Path} {op : BinOp} {t t' : TypeId} {x y : Operand} {A B : AV} {K : AV → Prop}
  (ho : o.op = .binOp op t x y t') (hx : Ev c Γ G x A) (hy : Ev c Γ G y B) (h : binVC T G op t A B K) : ∃ R, (G.ok → Still0 P c o Γ R) ∧ K R := by
 unfold binVC at h
 split at h
 · rename_i k a k' b
   have sh : ∀ r : Value, r.oneCell' = true → (G.ok → ∀ w, (Go.binOp op t (.int k a) (.int k' b)).run P w = .ok r w) → (G.ok → Still0 P c o Γ (.lit r)) := by
    intro r hr hrun hG
    intro Γ' g ac w hl _ hst
    have h1 := hx hG Γ' g ac w (hl x (by simp [ho, Op.operands])) hst
    have h2 := hy hG Γ' g ac w (hl y (by simp [ho, Op.operands])) hst
    refine ⟨r, fun w => ?_, rfl, hr⟩
    simp only [Rp2, Rp1] at h1 h2
    simp [execOp, ho, h1.1, h2.1, eqGuard, hrun hG w]
    all_goals (split <;> simp [hrun hG w])
   split at h
   · refine ⟨_, sh _ rfl (fun hG w => ?_), h.2⟩
     have h1 := Path.imp_ok h.1 hG
     have h2 := h1.2.2.wrap
     have h3 : min b.toNat k.bits = b.toNat := Nat.min_eq_left h1.2.1
     have h4 : ¬ b < 0 := by omega
     simp only [Go.binOp, Op.shift, if_neg h4, h3, h2]
     rfl
   · refine ⟨_, sh _ rfl (fun hG w => ?_), h.2⟩
     have h1 := Path.imp_ok h.1 hG
     have h3 : min b.toNat k.bits = b.toNat := Nat.min_eq_left h1.2
     have h4 : ¬ b < 0 := by omega
     have h5 : a.fdiv (2 ^ b.toNat) = a / 2 ^ b.toNat := Int.fdiv_eq_ediv_of_nonneg a (Int.le_of_lt (Int.pow_pos (by decide)))
     simp only [Go.binOp, Op.shift, if_neg h4, h3, h5]
     rfl
   clear sh
   rename_i hn1 hn2
   cases hk : eqKind k k' with
   | false => rw [hk] at h; exact h.elim
   | true =>
    rw [hk] at h
    have hk' : k = k' := by simpa [eqKind] using hk
    subst hk'
    have go : ∀ r : Value, r.oneCell' = true → (G.ok → ∀ w, (Go.binOp op t (.int k a) (.int k b)).run P w = .ok r w) → (G.ok → Still0 P c o Γ (.lit r)) := by
     intro r hr hrun hG
     intro Γ' g ac w hl _ hst
     have h1 := hx hG Γ' g ac w (hl x (by simp [ho, Op.operands])) hst
     have h2 := hy hG Γ' g ac w (hl y (by simp [ho, Op.operands])) hst
     refine ⟨r, fun w => ?_, rfl, hr⟩
     simp only [Rp2, Rp1] at h1 h2
     simp [execOp, ho, h1.1, h2.1, eqGuard, hrun hG w]
     all_goals (split <;> simp [hrun hG w])
    cases op with
    | and => exact ⟨_, go _ rfl (fun hG w => by have h1 := Path.imp_ok h.1 hG; have h2 := intBits_and (P := P) h1.1 h1.2.1 h1.2.2.1 h1.2.2.2 w; simp only [Go.binOp]; exact (by simpa using h2)), h.2⟩
    | add => exact ⟨_, go _ rfl (fun hG w => by have := InK.wrap (Path.imp_ok h.1 hG); simp [Go.binOp, Op.intArith, this]), h.2⟩
    | sub => exact ⟨_, go _ rfl (fun hG w => by have := InK.wrap (Path.imp_ok h.1 hG); simp [Go.binOp, Op.intArith, this]), h.2⟩
    | mul => exact ⟨_, go _ rfl (fun hG w => by have := InK.wrap (Path.imp_ok h.1 hG); simp [Go.binOp, Op.intArith, this]), h.2⟩
    | quo => exact ⟨_, go _ rfl (fun hG w => by have h1 := Path.imp_ok h.1 hG; have h2 := InK.wrap h1.2; simp [Go.binOp, Op.intDiv, h1.1, h2]), h.2⟩
    | rem => exact ⟨_, go _ rfl (fun hG w => by have h1 := Path.imp_ok h.1 hG; simp [Go.binOp, Op.intDiv, h1]), h.2⟩
    | lss => exact ⟨_, go _ rfl (fun hG w => by simp [Go.binOp, Op.intCmp]), h⟩
    | leq => exact ⟨_, go _ rfl (fun hG w => by simp [Go.binOp, Op.intCmp]), h⟩
    | gtr => exact ⟨_, go _ rfl (fun hG w => by simp [Go.binOp, Op.intCmp]), h⟩
    | geq => exact ⟨_, go _ rfl (fun hG w => by simp [Go.binOp, Op.intCmp]), h⟩
    | eql => exact ⟨_, go _ rfl (fun hG w => by simp [Go.binOp, Op.intCmp]; cases hd : decide (a = b) <;> simp_all), h⟩
    | neq => exact ⟨_, go _ rfl (fun hG w => by simp [Go.binOp, Op.intCmp]; cases hd : decide (a = b) <;> simp_all), h⟩
    | _ => exact h.elim
 · rename_i a b
   split at h
   · rename_i sz by_ ze ty hty
     have hu := (hT _ _ hty).bool rfl
     have go : ∀ r : Bool, (G.ok → ∀ w, (Go.binOp op t (.bool a) (.bool b)).run P w = .ok (.bool r) w) → (G.ok → Still0 P c o Γ (.lit (.bool r))) := by
      intro r hrun hG
      intro Γ' g ac w hl _ hst
      have h1 := hx hG Γ' g ac w (hl x (by simp [ho, Op.operands])) hst
      have h2 := hy hG Γ' g ac w (hl y (by simp [ho, Op.operands])) hst
      refine ⟨.bool r, fun w => ?_, rfl, rfl⟩
      simp only [Rp2, Rp1] at h1 h2
      simp [execOp, ho, h1.1, h2.1, eqGuard, hrun hG w]
      all_goals (split <;> simp [hrun hG w])
     cases op with
     | eql => exact ⟨_, go _ (fun hG w => by simp [Go.binOp, equal_bool hu]), h⟩
     | neq => exact ⟨_, go _ (fun hG w => by simp [Go.binOp, equal_bool hu, bne]), h⟩
     | _ => exact h.elim
   · exact h.elim
 · split at h
   · rename_i sz by_ ze ty hty
     have hu := (hT _ _ hty).sl rfl
     have go : ∀ r : Bool, (∀ w n1 c1 n2 c2, (Go.binOp op t (.slice none n1 c1) (.slice none n2 c2)).run P w = .ok (.bool r) w) → (G.ok → Still0 P c o Γ (.lit (.bool r))) := by
      intro r hrun hG
      intro Γ' g ac w hl _ hst
      have h1 := hx hG Γ' g ac w (hl x (by simp [ho, Op.operands])) hst
      have h2 := hy hG Γ' g ac w (hl y (by simp [ho, Op.operands])) hst
      refine ⟨.bool r, fun w => ?_, rfl, rfl⟩
      simp only [Rp2, Rp1] at h1 h2
      simp [execOp, ho, h1.1, h2.1, eqGuard, hrun w]
      all_goals (split <;> simp [hrun w])
     cases op with
     | eql => exact ⟨_, go _ (fun w n1 c1 n2 c2 => by simp [Go.binOp, equal_slice hu, isNilS]), h⟩
     | neq => exact ⟨_, go _ (fun w n1 c1 n2 c2 => by simp [Go.binOp, equal_slice hu, isNilS]), h⟩
     | _ => exact h.elim
   · exact h.elim
 · split at h
   · rename_i sz by_ ze ty hty
     have hu := (hT _ _ hty).sl rfl
     rename_i xs _ _ _ _
     have go : ∀ r : Bool, (∀ v w n2 c2, (∃ a n c, v = .slice a n c) → (isNilS v) = xs.isEmpty → (Go.binOp op t v (.slice none n2 c2)).run P w = .ok (.bool r) w) → (G.ok → Still0 P c o Γ (.lit (.bool r))) := by
      intro r hrun hG
      intro Γ' g ac w hl _ hst
      have h1 := hx hG Γ' g ac w (hl x (by simp [ho, Op.operands])) hst
      have h2 := hy hG Γ' g ac w (hl y (by simp [ho, Op.operands])) hst
      refine ⟨.bool r, fun w => ?_, rfl, rfl⟩
      simp only [Rp2, Rp1] at h1 h2
      obtain ⟨h3, h4⟩ := h1.narr_nil
      have h5 := fun n2 c2 => hrun _ w n2 c2 h3 h4
      obtain ⟨av, nv, cv, hv⟩ := h3
      simp only [hv] at h5
      simp [execOp, ho, hv, h2.1, eqGuard, h5]
      all_goals (split <;> simp [h5])
     cases op with
     | eql => exact ⟨_, go _ (fun v w n2 c2 h1 h2 => by obtain ⟨a, n, c, rfl⟩ := h1; simp [Go.binOp, equal_slice hu, h2]), h⟩
     | neq => exact ⟨_, go _ (fun v w n2 c2 h1 h2 => by obtain ⟨a, n, c, rfl⟩ := h1; simp [Go.binOp, equal_slice hu, h2]), h⟩
     | _ => exact h.elim
   · exact h.elim
 · split at h
   · rename_i e sz by_ ze ty hty
     have hu : ∃ e, P.underlying t = some (.pointer e) := by
      obtain ⟨dd, g1, g2⟩ := (hT _ _ hty).under
      cases dd <;> simp only [TK.of] at g2 <;> first | exact ⟨_, g1⟩ | (cases g2; done) | (split at g2 <;> cases g2)
     obtain ⟨e, hu⟩ := hu
     have go : ∀ r : Bool, (∀ w, (Go.binOp op t (.pointer none) (.pointer none)).run P w = .ok (.bool r) w) → (G.ok → Still0 P c o Γ (.lit (.bool r))) := by
      intro r hrun hG
      intro Γ' g ac w hl _ hst
      have h1 := hx hG Γ' g ac w (hl x (by simp [ho, Op.operands])) hst
      have h2 := hy hG Γ' g ac w (hl y (by simp [ho, Op.operands])) hst
      refine ⟨.bool r, fun w => ?_, rfl, rfl⟩
      simp only [Rp2, Rp1] at h1 h2
      simp [execOp, ho, h1.1, h2.1, eqGuard, hrun w]
      all_goals (split <;> simp [hrun w])
     have he : ∀ w, (Op.equal t (.pointer none) (.pointer none)).run P w = .ok true w := fun w => by
      unfold Op.equal Op.maxDepth
      rw [Op.equalIn]
      simp only [Sem.run_bind, run_underlying hu, Result.andThen_ok]
      rfl
     cases op with
     | eql => exact ⟨_, go _ (fun w => by simp [Go.binOp, he]), h⟩
     | neq => exact ⟨_, go _ (fun w => by simp [Go.binOp, he]), h⟩
     | _ => exact h.elim
   · exact h.elim
 · split at h
   · rename_i e sz by_ ze ty hty hrf
     have hu : ∃ e, P.underlying t = some (.pointer e) := by
      obtain ⟨dd, g1, g2⟩ := (hT _ _ hty).under
      cases dd <;> simp only [TK.of] at g2 <;> first | exact ⟨_, g1⟩ | (cases g2; done) | (split at g2 <;> cases g2)
     obtain ⟨e, hu⟩ := hu
     have go : ∀ r : Bool, (∀ w a, (Go.binOp op t (.pointer (some a)) (.pointer none)).run P w = .ok (.bool r) w) → (G.ok → Still0 P c o Γ (.lit (.bool r))) := by
      intro r hrun hG
      intro Γ' g ac w hl _ hst
      have h1 := hx hG Γ' g ac w (hl x (by simp [ho, Op.operands])) hst
      have h2 := hy hG Γ' g ac w (hl y (by simp [ho, Op.operands])) hst
      refine ⟨.bool r, fun w => ?_, rfl, rfl⟩
      obtain ⟨ad, had⟩ := isRef_ok hrf h1
      simp only [Rp2, Rp1] at h2
      simp [execOp, ho, had, h2.1, eqGuard, hrun w]
      all_goals (split <;> simp [hrun w])
     have he : ∀ w a, (Op.equal t (.pointer (some a)) (.pointer none)).run P w = .ok false w := fun w a => by
      unfold Op.equal Op.maxDepth
      rw [Op.equalIn]
      simp only [Sem.run_bind, run_underlying hu, Result.andThen_ok]
      rfl
     cases op with
     | eql => exact ⟨_, go _ (fun w a => by simp [Go.binOp, he]), h⟩
     | neq => exact ⟨_, go _ (fun w a => by simp [Go.binOp, he]), h⟩
     | _ => exact h.elim
   · exact h.elim
 · split at h
   · rename_i offs sz by_ ze ty l m hty hl1 hm1
     split at h
     · rename_i q hq
       obtain ⟨fs, hu, hfs, hnm⟩ := (hT _ _ hty).strct' rfl
       have hsh := (hT _ _ hty).2.2.2.1
       have heg : P.eqGuardType P.depth t = false := (hT _ _ hty).2.2.2.2 rfl
       have he : ∀ w xs ys, (∀ (i : Nat) (u : Value), l[i]? = some u → xs[i]? = some u) → (∀ (i : Nat) (u : Value), m[i]? = some u → ys[i]? = some u) → (Op.equal t (.agg xs) (.agg ys)).run P w = .ok q w := fun w xs ys h1 h2 => by
        rw [← hfs] at hq
        obtain ⟨r, g1, g2⟩ := cmpL_ok hT h1 h2 w 9998 hq
        rw [← g1]
        exact equalIn_struct hu hsh hnm xs ys w 9999 r g2
       have go : ∀ r : Bool, (∀ w xs ys, (Op.equal t (.agg xs) (.agg ys)).run P w = .ok q w → (Go.binOp op t (.agg xs) (.agg ys)).run P w = .ok (.bool r) w) → (G.ok → Still0 P c o Γ (.lit (.bool r))) := by
        intro r hrun hG
        intro Γ' g ac w hl _ hst
        have h1 := hx hG Γ' g ac w (hl x (by simp [ho, Op.operands])) hst
        have h2 := hy hG Γ' g ac w (hl y (by simp [ho, Op.operands])) hst
        obtain ⟨xs, hxv, hx2⟩ := litA_ok hl1 h1
        obtain ⟨ys, hyv, hy2⟩ := litA_ok hm1 h2
        refine ⟨.bool r, fun w => ?_, rfl, rfl⟩
        have h3 := hrun w xs ys (he w xs ys hx2 hy2)
        simp [execOp, ho, hxv, hyv, eqGuard, heg, h3]
        all_goals (split <;> simp [h3])
       cases op with
       | eql => exact ⟨_, go _ (fun w xs ys h => by simp [Go.binOp, h]), h⟩
       | neq => exact ⟨_, go _ (fun w xs ys h => by simp [Go.binOp, h]), h⟩
       | _ => exact h.elim
     · exact h.elim
   · exact h.elim
theorem Still0.move {P : Program} {c : Cx} {o : Oper} {Γ : Sy} {G : Path} {x : Operand} {A : AV} (ho : o.op = .move x ∨ o.op = .assign x) (hx : Ev c Γ G x A) : G.ok → Still0 P c o Γ A := by
 intro hG Γ' g a w hl _ hst
 refine ⟨a.eval x, fun w' => ?_, hx hG Γ' g a w (hl x ?_) hst⟩
 · rcases ho with ho | ho <;> simp [execOp, ho]
 · rcases ho with ho | ho <;> simp [ho, Op.operands]
theorem Does.move {P : Program} {c : Cx} {o : Oper} {Γ : Sy} {G : Path} {x : Operand} {A : AV} (ho : o.op = .move x ∨ o.op = .assign x) (hx : Ev c Γ G x A) : G.ok → Does P c o Γ A [] := by
 intro hG
 refine Does.value fun Γ' g a w hl _ hst => ⟨a.eval x, ?_, hx hG Γ' g a w (hl x ?_) hst⟩
 · rcases ho with ho | ho <;> simp [execOp, ho]
 · rcases ho with ho | ho <;> simp [ho, Op.operands]
def pickB (c : Bool) (x y : Operand) (a b : Bool) : Bool := match x, y with
 | .const (.bool true), _ => c || b
 | _, .const (.bool false) => c && a
 | _, _ => cond c a b
def pickVC (Γ : Sy) (G : Path) (c x y : Operand) (K : AV → Prop) : Prop := withOp Γ G c fun C => match C with
 | .lit (.bool b) => withOp Γ ((b, true) :: G) x fun A => withOp Γ ((b, false) :: G) y fun B => match A, B with
  | .lit (.bool p), .lit (.bool q) => K (.lit (.bool (pickB b x y p q)))
  | _, _ => False
 | _ => False
theorem pickVC.any {P : Program} {c : Cx} {o : Oper} {Γ : Sy} {G : Path} {z x y : Operand} {K : AV → Prop} (ho : o.op = .pick z x y) (h : pickVC Γ G z x y K) : ∃ R, (G.ok → Still0 P c o Γ R) ∧ K R := by
 obtain ⟨C, hC, h⟩ := withOp.ev (c := c) h
 split at h
 · rename_i b
   obtain ⟨A, hA, h2⟩ := withOp.ev (c := c) h
   obtain ⟨B, hB, h3⟩ := withOp.ev (c := c) h2
   clear h h2
   split at h3
   · rename_i p q
     have h := h3
     clear h3
     refine ⟨.lit (.bool (pickB b x y p q)), fun hG Γ' g a w hl _ hst => ⟨.bool (cond b p q), fun w' => ?_, ?_⟩, h⟩
     · have h1 := hC hG Γ' g a w (hl z (by simp [ho, Op.operands])) hst
       simp only [Rp2, Rp1] at h1
       cases b with
       | true =>
        have h2 := hA ⟨rfl, hG⟩ Γ' g a w (hl x (by simp [ho, Op.operands])) hst
        simp only [Rp2, Rp1] at h2
        simp [execOp, ho, h1.1, asBool, h2.1]
       | false =>
        have h2 := hB ⟨rfl, hG⟩ Γ' g a w (hl y (by simp [ho, Op.operands])) hst
        simp only [Rp2, Rp1] at h2
        simp [execOp, ho, h1.1, asBool, h2.1]
     · refine ⟨?_, rfl⟩
       congr 1
       unfold pickB
       split
       · cases b with
         | true => 
          have h2 := hA ⟨rfl, hG⟩ Γ' g a w (hl _ (by simp [ho, Op.operands])) hst
          simp only [Rp2, Rp1, Act.eval] at h2
          have := h2.1
          simp at this
          simp [← this]
         | false => rfl
       · cases b with
         | true => rfl
         | false => 
          have h2 := hB ⟨rfl, hG⟩ Γ' g a w (hl _ (by simp [ho, Op.operands])) hst
          simp only [Rp2, Rp1, Act.eval] at h2
          have := h2.1
          simp at this
          simp [← this]
       · rfl
   · exact h3.elim
 · exact h.elim
theorem pickVC.sound {P : Program} {c : Cx} {o : Oper} {Γ : Sy} {G : Path} {z x y : Operand} {K : AV → Prop} (ho : o.op = .pick z x y) (h : pickVC Γ G z x y K) : ∃ R, (G.ok → Does P c o Γ R []) ∧ K R :=
 let ⟨R, h1, h2⟩ := pickVC.any ho h
 ⟨R, fun hG => (h1 hG).does, h2⟩
theorem not_u16 {P : Program} {n : Int} (h : InK .u16 n) (w : World) : (Op.unary .xor (.int .u16 n)).run P w = .ok (.int .u16 (65535 - n)) w := by
 have h' : 0 ≤ n ∧ n ≤ 65535 := h
 have e : (BitVec.ofInt 16 65535 ^^^ BitVec.ofInt 16 n).toNat = 65535 - n.toNat := by
  have h1 : BitVec.ofInt 16 65535 = BitVec.allOnes 16 := by decide
  rw [h1, BitVec.allOnes_xor, BitVec.toNat_not, BitVec.toNat_ofInt]
  have : n % ((2 ^ 16 : Nat) : Int) = n := Int.emod_eq_of_lt h'.1 (by omega)
  rw [this]
 have e2 : (((65535 - n.toNat : Nat)) : Int) = 65535 - n := by omega
 have e3 : IntKind.u16.wrap (65535 - n) = 65535 - n := IntWalk.u16_in _ (by omega)
 simp only [Op.unary, Op.intBits, IntKind.signed, IntKind.max, IntKind.bits]
 show Sem.run P (pure (Value.int .u16 (IntKind.u16.wrap ((BitVec.ofInt 16 65535 ^^^ BitVec.ofInt 16 n).toNat : Int)))) w = _
 rw [e, e2, e3]
 rfl
def notVC (op : UnOp) (G : Path) (A : AV) (K : AV → Prop) : Prop := match op, A with
 | .not, .lit (.bool b) => K (.lit (.bool (!b)))
 | .neg, .lit (.int k n) => G.imp (InK k (0 - n)) ∧ K (.lit (.int k (-n)))
 | .xor, .lit (.int .u16 n) => G.imp (InK .u16 n) ∧ K (.lit (.int .u16 (65535 - n)))
 | _, _ => False
theorem notVC.any {P : Program} {c : Cx} {o : Oper} {Γ : Sy} {G : Path} {op : UnOp} {t : TypeId} {x : Operand} {A : AV} {K : AV → Prop} (ho : o.op = .unOp op t x) (hx : Ev c Γ G x A) (h : notVC op G A K) :
  ∃ R, (G.ok → Still0 P c o Γ R) ∧ K R := by
 unfold notVC at h
 split at h
 · rename_i b
   refine ⟨.lit (.bool (!b)), fun hG Γ' g a w hl _ hst => ⟨.bool (!b), fun w' => ?_, rfl, rfl⟩, h⟩
   have h1 := hx hG Γ' g a w (hl x (by simp [ho, Op.operands])) hst
   simp only [Rp2, Rp1] at h1
   simp [execOp, ho, h1.1, Op.unary]
 · rename_i k n
   refine ⟨.lit (.int k (-n)), fun hG Γ' g a w hl _ hst => ⟨.int k (-n), fun w' => ?_, rfl, rfl⟩, h.2⟩
   have h1 := hx hG Γ' g a w (hl x (by simp [ho, Op.operands])) hst
   have h2 := (Path.imp_ok h.1 hG).wrap
   simp only [Rp2, Rp1] at h1
   simp only [Int.zero_sub] at h2
   simp [execOp, ho, h1.1, Op.unary, Op.intArith, h2]
 · rename_i n
   refine ⟨.lit (.int .u16 (65535 - n)), fun hG Γ' g a w hl _ hst => ⟨.int .u16 (65535 - n), fun w' => ?_, rfl, rfl⟩, h.2⟩
   have h1 := hx hG Γ' g a w (hl x (by simp [ho, Op.operands])) hst
   have h2 := not_u16 (P := P) (Path.imp_ok h.1 hG) w'
   simp only [Rp2, Rp1] at h1
   simp only [execOp, ho, h1.1]
   simp [h2]
 · exact h.elim
theorem notVC.sound {P : Program} {c : Cx} {o : Oper} {Γ : Sy} {G : Path} {op : UnOp} {t : TypeId} {x : Operand} {A : AV} {K : AV → Prop} (ho : o.op = .unOp op t x) (hx : Ev c Γ G x A) (h : notVC op G A K) :
  ∃ R, (G.ok → Does P c o Γ R []) ∧ K R :=
 let ⟨R, h1, h2⟩ := notVC.any ho hx h
 ⟨R, fun hG => (h1 hG).does, h2⟩
def convVC (T : List (Nat × TE)) (G : Path) (d : TypeId) (A : AV) (K : AV → Prop) : Prop := match A, get? T d with
 | .lit (.int _ n), some { kind := .int k, .. } => G.imp (InK k n) ∧ K (.lit (.int k n))
 | _, _ => False
theorem convVC.any {P : Program} {T : List (Nat × TE)} (hT : TOk P T) {c : Cx} {o : Oper} {Γ : Sy} {G : Path} {s d : TypeId} {x : Operand} {A : AV} {K : AV → Prop} (ho : o.op = .convert s d x)
  (hs : ∃ y, get? T s = some y) (hx : Ev c Γ G x A) (h : convVC T G d A K) : ∃ R, (G.ok → Still0 P c o Γ R) ∧ K R := by
 unfold convVC at h
 split at h
 · rename_i k' n k sz by_ ze ty hty
   have hu := (hT _ _ hty).int rfl
   obtain ⟨y, hy⟩ := hs
   obtain ⟨d1, hd1, _⟩ := (hT _ _ hy).under
   refine ⟨.lit (.int k n), fun hG Γ' g a w hl _ hst => ⟨.int k n, fun w' => ?_, rfl, rfl⟩, h.2⟩
   have h1 := hx hG Γ' g a w (hl x (by simp [ho, Op.operands])) hst
   have h2 := (Path.imp_ok h.1 hG).wrap
   simp only [Rp2, Rp1] at h1
   simp [execOp, ho, h1.1, Go.convert, run_underlying hu, run_underlying hd1, Conv.intToInt, h2]
 · exact h.elim
theorem convVC.sound {P : Program} {T : List (Nat × TE)} (hT : TOk P T) {c : Cx} {o : Oper} {Γ : Sy} {G : Path} {s d : TypeId} {x : Operand} {A : AV} {K : AV → Prop} (ho : o.op = .convert s d x)
  (hs : ∃ y, get? T s = some y) (hx : Ev c Γ G x A) (h : convVC T G d A K) : ∃ R, (G.ok → Does P c o Γ R []) ∧ K R :=
 let ⟨R, h1, h2⟩ := convVC.any hT ho hs hx h
 ⟨R, fun hG => (h1 hG).does, h2⟩
theorem run_load_scalar {P : Program} {t : TypeId} {x : TE} (hx : x.ok P t) (hk : x.kind.isAgg = false) {w : World} {b p : Nat} {arr : Array Value} {e : TypeId} {fz : Nat × Nat} {v : Value}
  (hb : w.heap[b]? = some (.cells arr e fz)) (hv : arr[p]? = some v) : (Instr.loadAt t (.pointer (some ⟨b, p, none⟩))).run P w = .ok v w := by
 have hc : w.cell? ⟨b, p, none⟩ = some v := by rw [cell_of_row w b p arr e fz hb]; exact hv
 simp [Instr.loadAt, Instr.sureAddr, loadVar, hx.isAgg, hk, hc]
theorem run_load_agg {P : Program} {t : TypeId} {x : TE} (hx : x.ok P t) (hk : x.kind.isAgg = true) {w : World} {b p : Nat} {arr cs : Array Value} {e : TypeId} {fz : Nat × Nat}
  (hb : w.heap[b]? = some (.cells arr e fz)) (hs : cs.size = x.size) (hv : ∀ j, j < cs.size → arr[p + j]? = cs[j]?) : (Instr.loadAt t (.pointer (some ⟨b, p, none⟩))).run P w = .ok (.agg cs) w := by
 obtain ⟨i, hi, _, hsz, _⟩ := hx.info
 have := run_loadCells_list (P := P) w ⟨b, p, none⟩ cs.toList (fun j v hj => by
  rw [Addr.add_lit, cell_of_row w b (p + j) arr e fz hb]
  have hjl : j < cs.size := by
   have := (List.getElem?_eq_some_iff.1 hj).1
   simpa using this
  rw [hv j hjl]
  simpa using hj)
 simp only [Array.length_toList] at this
 simp [Instr.loadAt, Instr.sureAddr, loadVar, hx.isAgg, hk, sizeOf, typeInfo, hi, hsz, ← hs, this]
def up (fr : Bool) : SV → AV
 | .lit v => .lit v
 | A => .st fr A
theorem RpS.up {w : World} {O O0 : Nat → Prop} {g : Nat → Value} {fr : Bool} {v : Value} {B : SV} (h : RpS w (Av O O0 fr) v B) : Rp2 w O O0 g v (up fr B) := by
 cases B with
 | lit u => cases h with | lit _ h => exact ⟨rfl, h⟩
 | _ => exact h
def SV.isAgg : SV → Bool
 | .agg _ => true
 | _ => false
theorem RpS.cells1 {w : World} {O : Nat → Prop} {v : Value} {B : SV} (h : RpS w O v B) (hB : B.isAgg = false) : v.cells = #[v] := by
 induction h with
 | lit v h => cases v <;> first | rfl | cases h
 | agg => cases hB
 | narr _ _ _ _ _ ih => exact ih rfl
 | _ => rfl
theorem RpS.aggc {w : World} {O : Nat → Prop} {v : Value} {l : List SV} (h : RpS w O v (.agg l)) : ∃ cs, v = .agg cs ∧ cs.size = l.length ∧ ∀ (i : Nat) (B : SV), l[i]? = some B → ∃ x, cs[i]? = some x ∧ x.oneCell' = true ∧ RpS w O x B := by
 cases h with
 | agg cs _ f hs hf hr =>
  refine ⟨cs, rfl, hs, fun i B hB => ?_⟩
  have hi := (List.getElem?_eq_some_iff.1 hB).1
  exact ⟨f i, (hf i hi).1, (hf i hi).2, hr i B hB⟩
def loadS (T : List (Nat × TE)) (t : TypeId) (fr : Bool) (B : SV) (K : AV → Prop) : Prop := match get? T t with
 | some te => match te.kind.isAgg, B with
  | true, .agg l => te.size = l.length ∧ K (.st fr (.agg l))
  | false, .agg _ => False
  | true, _ => False
  | false, B => K (up fr B)
 | none => False
theorem loadS.sound {P : Program} {T : List (Nat × TE)} (hT : TOk P T) {t : TypeId} {fr : Bool} {B : SV} {K : AV → Prop} (h : loadS T t fr B K) :
  ∃ R, K R ∧ ∀ (w : World) (O O0 : Nat → Prop) (g : Nat → Value) (x : Value) (b p : Nat) (arr : Array Value) (e : TypeId) (fz : Nat × Nat),
    w.heap[b]? = some (.cells arr e fz) → (∀ j, j < x.cells.size → arr[p + j]? = x.cells[j]?) → RpS w (Av O O0 fr) x B →
    (Instr.loadAt t (.pointer (some ⟨b, p, none⟩))).run P w = .ok x w ∧ Rp2 w O O0 g x R := by
 unfold loadS at h
 cases ht : get? T t with
 | none => rw [ht] at h; exact h.elim
 | some te =>
  rw [ht] at h
  have hok := hT _ _ ht
  cases hk : te.kind.isAgg with
  | true =>
   simp only [hk] at h
   cases B with
   | agg l =>
    refine ⟨_, h.2, fun w O O0 g x b p arr e fz hb hf hr => ?_⟩
    obtain ⟨cs, rfl, h1, h2⟩ := hr.aggc
    refine ⟨run_load_agg hok hk hb (by rw [h.1]; exact h1) hf, hr⟩
   | _ => exact h.elim
  | false =>
   simp only [hk] at h
   cases B with
   | agg l => exact h.elim
   | _ =>
    refine ⟨_, h, fun w O O0 g x b p arr e fz hb hf hr => ?_⟩
    have h1 := hr.cells1 rfl
    have h2 := hf 0 (by rw [h1]; simp)
    rw [h1] at h2
    exact ⟨run_load_scalar hok hk hb (by simpa using h2), hr.up⟩
def fieldOf (t : Ty) (x : t.T) (j : Nat) : Option SV := match t.leaf with
 | true => match j with
  | 0 => some (t.enc x)
  | _ => none
 | false => (t.encL x)[j]?
theorem enc_leaf : ∀ (t : Ty) (x : t.T), t.leaf = true → (t.enc x).isAgg = false
 | .int _, _, _ => rfl
 | .bool, _, _ => rfl
 | .str, _, _ => rfl
 | .sl _, _, _ => rfl
theorem enc_cons : ∀ (t : Ty) (x : t.T), t.leaf = false → t.enc x = .agg (t.encL x)
 | .nil, _, _ => rfl
 | .cons _ _, _, _ => rfl
theorem encL_len : ∀ (t : Ty) (x : t.T), t.good = true → t.leaf = false → (t.encL x).length = t.size
 | .nil, _, _, _ => rfl
 | .cons h t, x, hg, _ => by
  simp only [Ty.encL, List.length_cons, Ty.size]
  rw [encL_len t x.2]
  · simp only [Ty.good, Bool.and_eq_true] at hg; exact hg.1.2
  · simp only [Ty.good, Bool.and_eq_true] at hg
    cases t <;> first | rfl | (simp at hg)
def lv1 : List AV → Bool
 | [] => true
 | .tup _ :: _ => false
 | .strct _ :: _ => false
 | .fn _ _ :: _ => false
 | _ :: r => lv1 r
theorem lv1_get {w : World} {O O0 : Nat → Prop} {g : Nat → Value} {x : Value} : ∀ {l : List AV} {i : Nat} {B : AV}, lv1 l = true → l[i]? = some B → Rp2 w O O0 g x B → Rp1 w O O0 g x B
 | [], _, _, _, h, _ => by simp at h
 | A :: r, 0, B, hl, h, hr => by
  simp at h
  subst h
  cases A <;> first | exact hr | cases hl
 | A :: r, i + 1, B, hl, h, hr => lv1_get (l := r) (i := i) (by cases A <;> first | exact hl | cases hl) (by simpa using h) hr
def loadVC (T : List (Nat × TE)) (own : List (Nat × Ob)) (G : Path) (t : TypeId) (A : AV) (K : AV → Prop) : Prop := match A with
 | .st fr (.sadr B) => loadS T t fr B K
 | .oadr k es i j => match get? own k with
  | some (.row e τ fr xs) => match get? T t with
   | some te => match te.kind.isAgg with
    | false => match fieldOf τ (xs.getD i τ.dflt) j with
     | some B => es = τ.size ∧ τ.good = true ∧ G.imp (i < xs.length) ∧ K (up fr B)
     | none => False
    | true => match j with
     | 0 => es = τ.size ∧ G.imp (i < xs.length) ∧ loadS T t fr (τ.enc (xs.getD i τ.dflt)) K
     | _ => False
   | none => False
  | _ => False
 | .madr k i => match get? own k with
  | some (.mat _ _ _ _ xs none) => match get? T t with
   | some te => match te.kind.isAgg with
    | false => G.imp (i < xs.length) ∧ K (.inn k i)
    | true => False
   | none => False
  | _ => False
 | .iadr k ii es i j => match get? own k with
  | some (.mat _ _ τ fr xss _) => match get? T t with
   | some te => match te.kind.isAgg with
    | false => match fieldOf τ ((xss.getD ii []).getD i τ.dflt) j with
     | some B => es = τ.size ∧ τ.good = true ∧ G.imp (i < (xss.getD ii []).length) ∧ K (up fr B)
     | none => False
    | true => match j with
     | 0 => es = τ.size ∧ G.imp (i < (xss.getD ii []).length) ∧ loadS T t fr (τ.enc ((xss.getD ii []).getD i τ.dflt)) K
     | _ => False
   | none => False
  | _ => False
 | .padr k j => match get? own k with
  | some (.box l) => match get? T t with
   | some te => match te.kind.isAgg, j with
    | false, j => match l[j]? with
     | some B => K B
     | none => False
    | true, 0 => te.size = l.length ∧ lv1 l = true ∧ K (.strct l)
    | _, _ => False
   | none => False
  | some (.box1 B) => match get? T t, j with
   | some te, 0 => match te.kind.isAgg with
    | false => K B
    | true => False
   | _, _ => False
  | _ => False
 | .qadr k i => match get? own k with
  | some (.que _ kk xs) => match get? T t with
   | some te => match te.kind.isAgg with
    | false => G.imp (i < xs.length) ∧ K (.lit (.int kk (xs.getD i 0)))
    | true => False
   | none => False
  | _ => False
 | _ => False
theorem ownRow {w : World} {base : Nat} {O O0 : Nat → Prop} {g : Nat → Value} {v : Value} {e : TypeId} {τ : Ty} {fr : Bool} {xs : List τ.T} {b n cp : Nat}
  (h : OwnOk w base O O0 g v (.row e τ fr xs)) (hv : v = .slice (some ⟨b, 0, none⟩) n cp) :
  ∃ (arr : Array Value) (f : Nat → Value), w.heap[b]? = some (.cells arr e (0, 0)) ∧ n = xs.length ∧ n ≤ cp ∧ cp ≤ maxLen ∧ arr.size = cp * τ.size ∧
    (∀ i, i < xs.length → (f i).cells.size = τ.size ∧ ∀ j, j < τ.size → arr[i * τ.size + j]? = (f i).cells[j]?) ∧ ∀ i x, xs[i]? = some x → RpS w (Av O O0 fr) (f i) (τ.enc x) := by
 obtain ⟨ys, ho, h1, f, h2, h3⟩ := h
 subst hv
 rcases ho.2 with ⟨h4, _⟩ | ⟨b', cap, cur, h4, h5, h6, h7, h8, h9, h10⟩
 · cases h4
 · cases h4
   refine ⟨cur, f, h6, rfl, h7, h8, h9, fun i hi => ⟨(h2 i hi).1, fun j hj => ?_⟩, h3⟩
   rw [← (h2 i hi).2 j hj]
   show _ = ys[i * τ.size + j]?
   rw [← h10, List.getElem?_take]
   have : i * τ.size + j < xs.length * τ.size := by
    have : (i + 1) * τ.size ≤ xs.length * τ.size := Nat.mul_le_mul_right _ hi
    rw [Nat.add_mul, Nat.one_mul] at this
    omega
   simp [this]
theorem getD_some {α : Type} {xs : List α} {i : Nat} {d : α} (hi : i < xs.length) : xs[i]? = some (xs.getD i d) := by simp [List.getD, hi]
theorem loadVC.sound {P : Program} {T : List (Nat × TE)} (hT : TOk P T) {c : Cx} {o : Oper} {Γ : Sy} {G : Path} {t : TypeId} {x : Operand} {A : AV} {K : AV → Prop} (ho : o.op = .load t x)
    (hx : Ev c Γ G x A) (h : loadVC T Γ.own G t A K) : ∃ R, (G.ok → Does P c o Γ R []) ∧ K R := by
  have fin : ∀ R, (∀ Γ' g a w, G.ok → (∀ k b, get? Γ.own k = some b → get? Γ'.own k = some b) → St c Γ' g a w → Rp2 w (Oset Γ'.own g) c.O0 g (a.eval x) A →
      ∃ v, (Instr.loadAt t (a.eval x)).run P w = .ok v w ∧ Rp2 w (Oset Γ'.own g) c.O0 g v R) → (G.ok → Does P c o Γ R []) := by
    intro R hR hG
    refine Does.value fun Γ' g a w hl hown hst => ?_
    obtain ⟨v, h1, h2⟩ := hR Γ' g a w hG hown hst (hx hG Γ' g a w (hl x (by simp [ho, Op.operands])) hst)
    exact ⟨v, by simp [execOp, ho, h1], h2⟩
  unfold loadVC at h
  split at h
  · rename_i fr B
    obtain ⟨R, hK, hR⟩ := loadS.sound hT h
    refine ⟨R, fin R fun Γ' g a w hG hown hst h1 => ?_, hK⟩
    simp only [Rp2, Rp1] at h1
    generalize a.eval x = v at h1
    cases h1 with
    | sadr b off _ y arr e fz hb hO hf hr => exact ⟨y, hR w _ _ g y b off arr e fz hb hf hr⟩
  · rename_i k es i j
    split at h
    · rename_i e τ fr xs hk
      split at h
      · rename_i te hte
        split at h
        · rename_i hagg
          split at h
          · rename_i B hB
            obtain ⟨h1, hg, h2, hK⟩ := h
            refine ⟨_, fin _ fun Γ' g a w hG hown hst h3 => ?_, hK⟩
            obtain ⟨b, n, cp, h4, h5⟩ := h3
            obtain ⟨arr, f, h6, h7, h8, h9, h10, h11, h12⟩ := ownRow (hst.hp.ok k _ (hown k _ hk)) h4
            have hi := Path.imp_ok h2 hG
            have hxi : xs[i]? = some (xs.getD i τ.dflt) := by simp [List.getD, hi]
            have hr := h12 i _ hxi
            rw [h5, h1]
            have hcell := (h11 i hi).2
            have hsz := (h11 i hi).1
            unfold fieldOf at hB
            cases hlf : τ.leaf with
            | true =>
              rw [hlf] at hB
              cases j with
              | succ j => cases hB
              | zero =>
                cases hB
                have hc := hr.cells1 (enc_leaf _ _ hlf)
                rw [hc] at hsz hcell
                have h0 := hcell 0 (by rw [← hsz]; simp)
                exact ⟨_, run_load_scalar (hT _ _ hte) hagg h6 (by simpa using h0), hr.up⟩
            | false =>
              rw [hlf] at hB
              rw [enc_cons _ _ hlf] at hr
              obtain ⟨cs, hcs, h13, h14⟩ := hr.aggc
              obtain ⟨y, h15, h16, h17⟩ := h14 j B hB
              have hj : j < τ.size := by
                have := (List.getElem?_eq_some_iff.1 hB).1
                rwa [encL_len τ _ hg hlf] at this
              have h0 := hcell j hj
              rw [hcs] at h0
              simp only [Value.cells] at h0
              rw [h15] at h0
              exact ⟨y, run_load_scalar (hT _ _ hte) hagg h6 h0, h17.up⟩
          · exact h.elim
        · rename_i hagg
          split at h
          · obtain ⟨h1, h2, h3⟩ := h
            obtain ⟨R, hK, hR⟩ := loadS.sound hT h3
            refine ⟨R, fin R fun Γ' g a w hG hown hst h3 => ?_, hK⟩
            obtain ⟨b, n, cp, h4, h5⟩ := h3
            obtain ⟨arr, f, h6, h7, h8, h9, h10, h11, h12⟩ := ownRow (hst.hp.ok k _ (hown k _ hk)) h4
            have hi := Path.imp_ok h2 hG
            have hxi : xs[i]? = some (xs.getD i τ.dflt) := by simp [List.getD, hi]
            rw [h5, h1]
            refine ⟨f i, hR w _ _ g (f i) b _ arr e (0, 0) h6 (fun j hj => ?_) (h12 i _ hxi)⟩
            rw [Nat.add_zero]
            exact (h11 i hi).2 j (by rw [← (h11 i hi).1]; exact hj)
          · exact h.elim
      · exact h.elim
    · exact h.elim
  · rename_i k i
    split at h
    · rename_i e0 e τ fr xs hk
      split at h
      · rename_i te hte
        split at h
        · rename_i hagg
          obtain ⟨h1, hK⟩ := h
          refine ⟨_, fin _ fun Γ' g a w hG hown hst h3 => ?_, hK⟩
          obtain ⟨b, n, cp, h4, h5⟩ := h3
          obtain ⟨⟨cells, g1, g2, g3⟩, _⟩ := hst.hp.ok k _ (hown k _ hk)
          have hi := Path.imp_ok h1 hG
          have g4 := g3 i hi (by simp)
          rcases g1.2 with ⟨g5, _⟩ | ⟨b', cap, cur, g5, g6, g7, g8, g9, g10, g11⟩
          · rw [h4] at g5; cases g5
          · rw [h4] at g5
            cases g5
            rw [h5]
            refine ⟨_, run_load_scalar (hT _ _ hte) hagg g7 (v := sub (g k) i) ?_, rfl⟩
            rw [← g11, List.getElem?_take] at g4
            split at g4
            · simpa using g4
            · cases g4
        · exact h.elim
      · exact h.elim
    · exact h.elim
  · rename_i k ii es i j
    split at h
    · rename_i e0 e τ fr xss st hk
      split at h
      · rename_i te hte
        split at h
        · rename_i hagg
          split at h
          · rename_i B hB
            obtain ⟨h1, hg, h2, hK⟩ := h
            refine ⟨_, fin _ fun Γ' g a w hG hown hst h3 => ?_, hK⟩
            obtain ⟨b, n, cp, h4, h5⟩ := h3
            obtain ⟨arr, f, h6, h7, h8, h9, h10, h11, h12⟩ := ownRow (g := g) (xs := xss.getD ii []) ((hst.hp.ok k _ (hown k _ hk)).2.1 ii) h4
            have hi := Path.imp_ok h2 hG
            have hxi : (xss.getD ii [])[i]? = some ((xss.getD ii []).getD i τ.dflt) := getD_some hi
            have hr := h12 i _ hxi
            rw [h5, h1]
            have hcell := (h11 i hi).2
            have hsz := (h11 i hi).1
            unfold fieldOf at hB
            cases hlf : τ.leaf with
            | true =>
              rw [hlf] at hB
              cases j with
              | succ j => cases hB
              | zero =>
                cases hB
                have hc := hr.cells1 (enc_leaf _ _ hlf)
                rw [hc] at hsz hcell
                have h0 := hcell 0 (by rw [← hsz]; simp)
                exact ⟨_, run_load_scalar (hT _ _ hte) hagg h6 (by simpa using h0), hr.up⟩
            | false =>
              rw [hlf] at hB
              rw [enc_cons _ _ hlf] at hr
              obtain ⟨cs, hcs, h13, h14⟩ := hr.aggc
              obtain ⟨y, h15, h16, h17⟩ := h14 j B hB
              have hj : j < τ.size := by
                have := (List.getElem?_eq_some_iff.1 hB).1
                rwa [encL_len τ _ hg hlf] at this
              have h0 := hcell j hj
              rw [hcs] at h0
              simp only [Value.cells] at h0
              rw [h15] at h0
              exact ⟨y, run_load_scalar (hT _ _ hte) hagg h6 h0, h17.up⟩
          · exact h.elim
        · rename_i hagg
          split at h
          · obtain ⟨h1, h2, h3⟩ := h
            obtain ⟨R, hK, hR⟩ := loadS.sound hT h3
            refine ⟨R, fin R fun Γ' g a w hG hown hst h3 => ?_, hK⟩
            obtain ⟨b, n, cp, h4, h5⟩ := h3
            obtain ⟨arr, f, h6, h7, h8, h9, h10, h11, h12⟩ := ownRow (g := g) (xs := xss.getD ii []) ((hst.hp.ok k _ (hown k _ hk)).2.1 ii) h4
            have hi := Path.imp_ok h2 hG
            have hxi : (xss.getD ii [])[i]? = some ((xss.getD ii []).getD i τ.dflt) := getD_some hi
            rw [h5, h1]
            refine ⟨f i, hR w _ _ g (f i) b _ arr e (0, 0) h6 (fun j hj => ?_) (h12 i _ hxi)⟩
            rw [Nat.add_zero]
            exact (h11 i hi).2 j (by rw [← (h11 i hi).1]; exact hj)
          · exact h.elim
      · exact h.elim
    · exact h.elim
  · rename_i k j
    split at h
    · rename_i l hk
      split at h
      · rename_i te hte
        split at h
        · rename_i hagg
          split at h
          · rename_i B hB
            refine ⟨B, fin B fun Γ' g a w hG hown hst h3 => ?_, h⟩
            obtain ⟨b, h4, h5⟩ := h3
            obtain ⟨b', arr, e, h6, h7, h8, h9, h10⟩ := hst.hp.ok k _ (hown k _ hk)
            rw [h4] at h6
            cases h6
            obtain ⟨y, h11, h12, h13⟩ := h10 _ B hB
            rw [h5]
            exact ⟨y, run_load_scalar (hT _ _ hte) hagg h8 h11, h13⟩
          · exact h.elim
        · rename_i hagg
          obtain ⟨h1, h2, hK⟩ := h
          refine ⟨_, fin _ fun Γ' g a w hG hown hst h3 => ?_, hK⟩
          obtain ⟨b, h4, h5⟩ := h3
          obtain ⟨b', arr, e, h6, h7, h8, h9, h10⟩ := hst.hp.ok k _ (hown k _ hk)
          rw [h4] at h6
          cases h6
          rw [h5]
          refine ⟨.agg arr, run_load_agg (hT _ _ hte) hagg h8 (by rw [h9, h1]) (fun j _ => by simp), fun i => arr.getD i undef, arr, rfl, h9, fun i B hB => ?_⟩
          obtain ⟨y, h11, h12, h13⟩ := h10 i B hB
          have : arr.getD i undef = y := by simp [Array.getD_eq_getD_getElem?, h11]
          dsimp only
          rw [this]
          exact ⟨⟨h11, h12⟩, lv1_get h2 hB h13⟩
        · exact h.elim
      · exact h.elim
    · rename_i B hk
      split at h
      · rename_i te hte
        split at h
        · rename_i hagg
          refine ⟨B, fin B fun Γ' g a w hG hown hst h3 => ?_, h⟩
          obtain ⟨b, h4, h5⟩ := h3
          obtain ⟨b', y, e, h6, h7, h8, h9, h10⟩ := hst.hp.ok k _ (hown k _ hk)
          rw [h4] at h6
          cases h6
          rw [h5]
          exact ⟨y, run_load_scalar (hT _ _ hte) hagg h8 (by simp), h10⟩
        · exact h.elim
      · exact h.elim
    · exact h.elim
  · rename_i k i
    split at h
    · rename_i e' kk xs hk
      split at h
      · rename_i te hte
        split at h
        · rename_i hagg
          obtain ⟨h1, hK⟩ := h
          refine ⟨_, fin _ fun Γ' g a w hG hown hst h3 => ?_, hK⟩
          have h2 := Path.imp_ok h1 hG
          obtain ⟨b, off, n, c', h4, h5⟩ := h3
          obtain ⟨b', off', cap, arr, h6, h7, h8, h9, h10, h11, h12⟩ := hst.hp.ok k _ (hown k _ hk)
          rw [h4] at h6
          cases h6
          rw [h5]
          have hx : xs[i]? = some (xs.getD i 0) := by simp [List.getD, h2]
          exact ⟨_, run_load_scalar (hT _ _ hte) hagg h8 (h12 i _ hx), rfl, rfl⟩
        · exact h.elim
      · exact h.elim
    · exact h.elim
  · exact h.elim
def indexVC (T : List (Nat × TE)) (own : List (Nat × Ob)) (G : Path) (t : TypeId) (A I : AV) (K : AV → Prop) : Prop := match I with
 | .lit (.int _ n) => match get? T t with
  | some { kind := .sl e, .. } => match get? T e with
   | some te => match A with
    | .st fr (.arr τ xs) => te.size = τ.size ∧ G.imp (0 ≤ n ∧ n.toNat < xs.length) ∧ K (.st fr (.sadr (τ.enc (xs.getD n.toNat τ.dflt))))
    | .st fr (.narr τ xs) => te.size = τ.size ∧ G.imp (0 ≤ n ∧ n.toNat < xs.length) ∧ K (.st fr (.sadr (τ.enc (xs.getD n.toNat τ.dflt))))
    | .own k => match get? own k with
     | some (.row _ τ _ xs) => te.size = τ.size ∧ G.imp (0 ≤ n ∧ n.toNat < xs.length) ∧ K (.oadr k τ.size n.toNat 0)
     | some (.que _ _ xs) => te.size = 1 ∧ G.imp (0 ≤ n ∧ n.toNat < xs.length) ∧ K (.qadr k n.toNat)
     | _ => False
    | .mown k => match get? own k with
     | some (.mat _ _ _ _ xs _) => te.size = 1 ∧ G.imp (0 ≤ n ∧ n.toNat < xs.length) ∧ K (.madr k n.toNat)
     | _ => False
    | .inn k i => match get? own k with
     | some (.mat _ _ τ _ xs _) => te.size = τ.size ∧ G.imp (0 ≤ n ∧ n.toNat < (xs.getD i []).length) ∧ K (.iadr k i τ.size n.toNat 0)
     | _ => False
    | _ => False
   | none => False
  | some { kind := .arr m e, .. } => match get? T e with
   | some te => (Nat.beq te.size 1 && !te.kind.isAgg) = true ∧ G.imp (0 ≤ n ∧ n.toNat < m) ∧ match A with
    | .st fr (.sadr (.agg l)) => match l[n.toNat]? with
     | some B => B.isAgg = false ∧ K (.st fr (.sadr B))
     | none => False
    | .oadr k es i j => K (.oadr k es i (j + n.toNat))
    | .iadr k ii es i j => K (.iadr k ii es i (j + n.toNat))
    | .padr k j => K (.padr k (j + n.toNat))
    | _ => False
   | none => False
  | _ => False
 | _ => False
theorem run_indexAt {P : Program} {t e : TypeId} {te : TE} (hu : P.underlying t = some (.slice e)) (he : te.ok P e) {w : World} {b off n cp : Nat} {k : IntKind} {i : Int} (h0 : 0 ≤ i) (hi : i.toNat < n) :
  (Instr.indexAt t (.slice (some ⟨b, off, none⟩) n cp) (.int k i)).run P w = .ok (.pointer (some ⟨b, off + i.toNat * te.size, none⟩)) w := by
 obtain ⟨j, hj, _, hs, _⟩ := he.info
 have h1 : 0 ≤ i ∧ i < (n : Int) := ⟨h0, by omega⟩
 simp [Instr.indexAt, asIntOf, run_underlying hu, h1, sizeOf, typeInfo, hj, hs, Addr.add_lit]
theorem TE.ok.arr0 {P : Program} {t : TypeId} {x : TE} (h : x.ok P t) {m : Nat} {e : TypeId} (hk : x.kind = .arr m e) : P.underlying t = some (.array m e) := by
  obtain ⟨d, h1, h2⟩ := h.under
  rw [hk] at h2
  cases d with
  | struct fs => simp only [TK.of] at h2; split at h2 <;> cases h2
  | _ => first | (simp [TK.of] at h2; done) | (try simp [TK.of] at h2); (
      obtain ⟨rfl, rfl⟩ := h2
      exact h1)
theorem run_indexArr {P : Program} {t e : TypeId} {te : TE} {m : Nat} (hu : P.underlying t = some (.array m e)) (he : te.ok P e) (h1 : te.size = 1) {w : World} {b p : Nat} {k : IntKind} {i : Int} (h0 : 0 ≤ i) (hi : i.toNat < m) :
  (Instr.indexAt t (.pointer (some ⟨b, p, none⟩)) (.int k i)).run P w = .ok (.pointer (some ⟨b, p + i.toNat, none⟩)) w := by
 obtain ⟨j, hj, _, hs, _⟩ := he.info
 have h2 : 0 ≤ i ∧ i < (m : Int) := ⟨h0, by omega⟩
 simp [Instr.indexAt, asIntOf, run_underlying hu, h2, sizeOf, typeInfo, hj, hs, h1, Instr.sureAddr, Addr.add_lit]
theorem RpS.arr_elem {w : World} {O : Nat → Prop} {v : Value} {τ : Ty} {xs : List τ.T} (h : RpS w O v (.arr τ xs)) {i : Nat} (hi : i < xs.length) :
  ∃ b off cp, v = .slice (some ⟨b, off, none⟩) xs.length cp ∧ RpS w O (.pointer (some ⟨b, off + i * τ.size, none⟩)) (.sadr (τ.enc (xs.getD i τ.dflt))) := by
 cases h with
 | nil => simp at hi
 | emp a cap => simp at hi
 | arr b off cap n _ _ arr e fz f hb hO hn hc hm hf hr =>
  subst hn
  refine ⟨b, off, cap, rfl, .sadr b _ _ (f i) arr e fz hb hO (fun j hj => ?_) (hr i _ (by simp [List.getD, hi]))⟩
  rw [← (hf i hi).2 j (by rw [← (hf i hi).1]; exact hj)]
  congr 1
  omega
theorem indexVC.any {P : Program} {T : List (Nat × TE)} (hT : TOk P T) {c : Cx} {o : Oper} {Γ : Sy} {G : Path} {t : TypeId} {x y : Operand} {A I : AV} {K : AV → Prop} (ho : o.op = .indexAddr t x y)
    (hx : Ev c Γ G x A) (hy : Ev c Γ G y I) (h : indexVC T Γ.own G t A I K) : ∃ R, (G.ok → Still0 P c o Γ R) ∧ K R := by
  unfold indexVC at h
  split at h
  · rename_i ki n
    split at h
    · rename_i e sz by_ ze ty ht
      have hu := (hT _ _ ht).sl rfl
      split at h
      · rename_i te hte
        have he := hT _ _ hte
        have fin : ∀ R, (∀ Γ' g a w, G.ok → (∀ k b, get? Γ.own k = some b → get? Γ'.own k = some b) → St c Γ' g a w → Rp2 w (Oset Γ'.own g) c.O0 g (a.eval x) A →
            ∃ v, (∀ w', (Instr.indexAt t (a.eval x) (.int ki n)).run P w' = .ok v w') ∧ Rp2 w (Oset Γ'.own g) c.O0 g v R) → (G.ok → Still0 P c o Γ R) := by
          intro R hR hG
          intro Γ' g a w hl hown hst
          obtain ⟨v, h1, h2⟩ := hR Γ' g a w hG hown hst (hx hG Γ' g a w (hl x (by simp [ho, Op.operands])) hst)
          have h3 := hy hG Γ' g a w (hl y (by simp [ho, Op.operands])) hst
          simp only [Rp2, Rp1] at h3
          exact ⟨v, fun w' => by simp [execOp, ho, h3.1, h1], h2⟩
        split at h
        · rename_i fr τ xs
          obtain ⟨h1, h2, hK⟩ := h
          refine ⟨_, fin _ fun Γ' g a w hG hown hst h3 => ?_, hK⟩
          obtain ⟨h4, h5⟩ := Path.imp_ok h2 hG
          obtain ⟨b, off, cp, h6, h7⟩ := RpS.arr_elem (h3 : RpS _ _ _ _) h5
          rw [h6]
          exact ⟨_, fun w' => run_indexAt hu he h4 h5, by rw [h1]; exact h7⟩
        · rename_i fr τ xs
          obtain ⟨h1, h2, hK⟩ := h
          refine ⟨_, fin _ fun Γ' g a w hG hown hst h3 => ?_, hK⟩
          obtain ⟨h4, h5⟩ := Path.imp_ok h2 hG
          have h3' : RpS w (Av (Oset Γ'.own g) c.O0 fr) (a.eval x) (.narr τ xs) := h3
          generalize a.eval x = v at h3'
          cases h3' with
          | narr _ _ _ h3' _ =>
            obtain ⟨b, off, cp, h6, h7⟩ := RpS.arr_elem h3' h5
            rw [h6]
            exact ⟨_, fun w' => run_indexAt hu he h4 h5, by rw [h1]; exact h7⟩
        · rename_i k
          split at h
          · rename_i e' τ fr xs hk
            obtain ⟨h1, h2, hK⟩ := h
            refine ⟨_, fin _ fun Γ' g a w hG hown hst h3 => ?_, hK⟩
            obtain ⟨h4, h5⟩ := Path.imp_ok h2 hG
            have hok := hst.hp.ok k _ (hown k _ hk)
            have h6 : a.eval x = g k := h3
            obtain ⟨ys, ho', _⟩ := hok
            rcases ho'.2 with ⟨_, h7⟩ | ⟨b, cap, cur, h7, h8, h9, h10⟩
            · simp [h7] at h5
            · rw [h6, h7]
              exact ⟨_, fun w' => run_indexAt hu he h4 h5, b, xs.length, cap, h7, by rw [h1]; simp⟩
          · rename_i e' kk xs hk
            obtain ⟨h1, h2, hK⟩ := h
            refine ⟨_, fin _ fun Γ' g a w hG hown hst h3 => ?_, hK⟩
            obtain ⟨h4, h5⟩ := Path.imp_ok h2 hG
            have h6 : a.eval x = g k := h3
            obtain ⟨b, off, cap, arr, h7, _⟩ := hst.hp.ok k _ (hown k _ hk)
            rw [h6, h7]
            exact ⟨_, fun w' => run_indexAt hu he h4 h5, b, off, _, cap, h7, by rw [h1]; simp⟩
          · exact h.elim
        · rename_i k
          split at h
          · rename_i e1 e2 τ fr xs st hk
            obtain ⟨h1, h2, hK⟩ := h
            refine ⟨_, fin _ fun Γ' g a w hG hown hst h3 => ?_, hK⟩
            obtain ⟨h4, h5⟩ := Path.imp_ok h2 hG
            obtain ⟨⟨ys, ho', _⟩, _⟩ := hst.hp.ok k _ (hown k _ hk)
            have h6 : a.eval x = hd (g k) := h3
            rcases ho'.2 with ⟨_, h7⟩ | ⟨b, cap, cur, h7, h8, h9, h10⟩
            · simp [h7] at h5
            · rw [h6, h7]
              exact ⟨_, fun w' => run_indexAt hu he h4 h5, b, xs.length, cap, h7, by rw [h1]; simp⟩
          · exact h.elim
        · rename_i k i
          split at h
          · rename_i e1 e2 τ fr xs st hk
            obtain ⟨h1, h2, hK⟩ := h
            refine ⟨_, fin _ fun Γ' g a w hG hown hst h3 => ?_, hK⟩
            obtain ⟨h4, h5⟩ := Path.imp_ok h2 hG
            obtain ⟨ys, ho', _⟩ := (hst.hp.ok k _ (hown k _ hk)).2.1 i
            have h6 : a.eval x = sub (g k) i := h3
            rcases ho'.2 with ⟨_, h7⟩ | ⟨b, cap, cur, h7, h8, h9, h10⟩
            · rw [h7] at h5; exact absurd h5 (by omega)
            · rw [h6, h7]
              exact ⟨_, fun w' => run_indexAt hu he h4 h5, b, _, cap, h7, by rw [h1]; simp⟩
          · exact h.elim
        · exact h.elim
      · exact h.elim
    · rename_i m e sz by_ ze ty ht
      have hu := (hT _ _ ht).arr0 rfl
      split at h
      · rename_i te hte
        have he := hT _ _ hte
        obtain ⟨h1, h2, h⟩ := h
        rw [Bool.and_eq_true] at h1
        have hs1 := Nat.eq_of_beq_eq_true h1.1
        have fin : ∀ R, (∀ Γ' g a w, G.ok → St c Γ' g a w → Rp2 w (Oset Γ'.own g) c.O0 g (a.eval x) A →
            ∃ b p, a.eval x = .pointer (some ⟨b, p, none⟩) ∧ Rp2 w (Oset Γ'.own g) c.O0 g (.pointer (some ⟨b, p + n.toNat, none⟩)) R) → (G.ok → Still0 P c o Γ R) := by
          intro R hR hG
          intro Γ' g a w hl hown hst
          obtain ⟨b, p, h3, h4⟩ := hR Γ' g a w hG hst (hx hG Γ' g a w (hl x (by simp [ho, Op.operands])) hst)
          have h5 := hy hG Γ' g a w (hl y (by simp [ho, Op.operands])) hst
          simp only [Rp2, Rp1] at h5
          obtain ⟨h6, h7⟩ := Path.imp_ok h2 hG
          exact ⟨_, fun w' => by simp [execOp, ho, h5.1, h3, run_indexArr hu he hs1 h6 h7], h4⟩
        split at h
        · rename_i fr l
          split at h
          · rename_i B hB
            refine ⟨_, fin _ fun Γ' g a w hG hst h3 => ?_, h.2⟩
            have h3' : RpS w (Av (Oset Γ'.own g) c.O0 fr) (a.eval x) (.sadr (.agg l)) := h3
            generalize a.eval x = v at h3'
            cases h3' with
            | sadr b p _ y arr e fz hb hO hf hr =>
              obtain ⟨cs, rfl, h4, h5⟩ := hr.aggc
              obtain ⟨z, h6, h7, h8⟩ := h5 _ B hB
              refine ⟨b, p, rfl, RpS.sadr b _ B z arr e fz hb hO (fun j hj => ?_) h8⟩
              have hc := h8.cells1 h.1
              rw [hc] at hj ⊢
              simp at hj
              subst hj
              have := hf n.toNat (by simp only [Value.cells]; exact (Array.getElem?_eq_some_iff.1 h6).1)
              simp only [Value.cells] at this
              rw [Nat.add_zero, this, h6]
              simp
          · exact h.elim
        · rename_i k es i j
          refine ⟨_, fin _ fun Γ' g a w hG hst h3 => ?_, h⟩
          obtain ⟨b, nn, cp, h4, h5⟩ := h3
          exact ⟨b, _, h5, b, nn, cp, h4, by rw [Nat.add_assoc]⟩
        · rename_i k ii es i j
          refine ⟨_, fin _ fun Γ' g a w hG hst h3 => ?_, h⟩
          obtain ⟨b, nn, cp, h4, h5⟩ := h3
          exact ⟨b, _, h5, b, nn, cp, h4, by rw [Nat.add_assoc]⟩
        · rename_i k j
          refine ⟨_, fin _ fun Γ' g a w hG hst h3 => ?_, h⟩
          obtain ⟨b, h4, h5⟩ := h3
          exact ⟨b, _, h5, b, h4, rfl⟩
        · exact h.elim
      · exact h.elim
    · exact h.elim
  · exact h.elim
theorem indexVC.sound {P : Program} {T : List (Nat × TE)} (hT : TOk P T) {c : Cx} {o : Oper} {Γ : Sy} {G : Path} {t : TypeId} {x y : Operand} {A I : AV} {K : AV → Prop} (ho : o.op = .indexAddr t x y)
  (hx : Ev c Γ G x A) (hy : Ev c Γ G y I) (h : indexVC T Γ.own G t A I K) : ∃ R, (G.ok → Does P c o Γ R []) ∧ K R :=
 let ⟨R, h1, h2⟩ := indexVC.any hT ho hx hy h
 ⟨R, fun hG => (h1 hG).does, h2⟩
def fieldVC (T : List (Nat × TE)) (s : TypeId) (f : Nat) (A : AV) (K : AV → Prop) : Prop := match get? T s with
 | some { kind := .strct offs, .. } => match offs[f]? with
  | some (off, ft) => match get? T ft with
   | some te => Nat.beq te.size 0 = false ∧ match A with
    | .st fr (.sadr (.agg l)) => match te.kind.isAgg with
     | false => match l[off]? with
      | some B => B.isAgg = false ∧ K (.st fr (.sadr B))
      | none => False
     | true => off + te.size ≤ l.length ∧ K (.st fr (.sadr (.agg ((l.drop off).take te.size))))
    | .oadr k es i j => K (.oadr k es i (j + off))
    | .iadr k ii es i j => K (.iadr k ii es i (j + off))
    | .padr k j => K (.padr k (j + off))
    | _ => False
   | none => False
  | none => False
 | _ => False
theorem fieldVC.any {P : Program} {T : List (Nat × TE)} (hT : TOk P T) {c : Cx} {o : Oper} {Γ : Sy} {G : Path} {s : TypeId} {f : Nat} {x : Operand} {A : AV} {K : AV → Prop} (ho : o.op = .fieldAddr s x f)
    (hx : Ev c Γ G x A) (h : fieldVC T s f A K) : ∃ R, (G.ok → Still0 P c o Γ R) ∧ K R := by
  unfold fieldVC at h
  split at h
  · rename_i offs sz by_ ze ty ht
    obtain ⟨fs, hu, hfs⟩ := (hT _ _ ht).strct rfl
    split at h
    · rename_i off ft hoff
      rw [← hfs, List.getElem?_map] at hoff
      obtain ⟨fd, h1, h2⟩ := Option.map_eq_some_iff.1 hoff
      simp only [Prod.mk.injEq] at h2
      obtain ⟨rfl, rfl⟩ := h2
      have hfd : fs[f]? = some fd := by simpa using h1
      split at h
      · rename_i te hte
        obtain ⟨hsz, h⟩ := h
        obtain ⟨i, hi, _, hs, _⟩ := (hT _ _ hte).info
        have hne : i.size ≠ 0 := by rw [hs]; exact Nat.ne_of_beq_eq_false hsz
        have run : ∀ (w : World) b p, (Instr.fieldAt s (.pointer (some ⟨b, p, none⟩)) f).run P w = .ok (.pointer (some ⟨b, p + fd.offset, none⟩)) w := by
          intro w b p
          simp [Instr.fieldAt, run_underlying hu, hfd, Instr.sureAddr, fieldPlace, sizeOf, typeInfo, hi, hne, Addr.add_lit]
        have fin : ∀ R, (∀ Γ' g a w, St c Γ' g a w → Rp2 w (Oset Γ'.own g) c.O0 g (a.eval x) A →
            ∃ b p, a.eval x = .pointer (some ⟨b, p, none⟩) ∧ Rp2 w (Oset Γ'.own g) c.O0 g (.pointer (some ⟨b, p + fd.offset, none⟩)) R) → (G.ok → Still0 P c o Γ R) := by
          intro R hR hG
          intro Γ' g a w hl hown hst
          obtain ⟨b, p, h1, h2⟩ := hR Γ' g a w hst (hx hG Γ' g a w (hl x (by simp [ho, Op.operands])) hst)
          exact ⟨_, fun w' => by simp [execOp, ho, h1, run], h2⟩
        split at h
        · rename_i fr l
          split at h
          · split at h
            · rename_i B hB
              refine ⟨_, fin _ fun Γ' g a w hst h3 => ?_, h.2⟩
              have h3' : RpS w (Av (Oset Γ'.own g) c.O0 fr) (a.eval x) (.sadr (.agg l)) := h3
              generalize a.eval x = v at h3'
              cases h3' with
              | sadr b p _ y arr e fz hb hO hf hr =>
                obtain ⟨cs, rfl, h4, h5⟩ := hr.aggc
                obtain ⟨z, h6, h7, h8⟩ := h5 _ B hB
                refine ⟨b, p, rfl, RpS.sadr b _ B z arr e fz hb hO (fun j hj => ?_) h8⟩
                have hc := h8.cells1 h.1
                rw [hc] at hj ⊢
                simp at hj
                subst hj
                have := hf fd.offset (by simp only [Value.cells]; exact (Array.getElem?_eq_some_iff.1 h6).1)
                simp only [Value.cells] at this
                rw [Nat.add_zero, this, h6]
                simp
            · exact h.elim
          · refine ⟨_, fin _ fun Γ' g a w hst h3 => ?_, h.2⟩
            have h3' : RpS w (Av (Oset Γ'.own g) c.O0 fr) (a.eval x) (.sadr (.agg l)) := h3
            generalize a.eval x = v at h3'
            cases h3' with
            | sadr b p _ y arr e fz hb hO hf hr =>
              obtain ⟨cs, rfl, h4, h5⟩ := hr.aggc
              have hlen := h.1
              refine ⟨b, p, rfl, RpS.sadr b _ _ (.agg (cs.extract fd.offset (fd.offset + te.size))) arr e fz hb hO (fun j hj => ?_) ?_⟩
              · simp only [Value.cells] at hj hf ⊢
                simp only [Array.size_extract] at hj
                rw [Array.getElem?_extract]
                rw [Nat.add_assoc, hf _ (by omega)]
                simp only [show j < min (fd.offset + te.size) cs.size - fd.offset from by omega, if_true]
              · refine RpS.agg _ _ (fun j => cs.getD (fd.offset + j) undef) ?_ (fun j hj => ?_) (fun j B hB => ?_)
                · simp only [Array.size_extract, List.length_take, List.length_drop]; omega
                · simp only [List.length_take, List.length_drop] at hj
                  obtain ⟨z, h6, h7, h8⟩ := h5 (fd.offset + j) l[fd.offset + j] (by rw [List.getElem?_eq_getElem])
                  rw [Array.getElem?_extract]
                  simp only [show j < min (fd.offset + te.size) cs.size - fd.offset from by omega, if_true]
                  simp [Array.getD_eq_getD_getElem?, h6, h7]
                · rw [List.getElem?_take] at hB
                  split at hB
                  · rw [List.getElem?_drop] at hB
                    obtain ⟨z, h6, h7, h8⟩ := h5 _ B hB
                    simpa [Array.getD_eq_getD_getElem?, h6] using h8
                  · cases hB
        · rename_i k es i j
          refine ⟨_, fin _ fun Γ' g a w hst h3 => ?_, h⟩
          obtain ⟨b, n, cp, h4, h5⟩ := h3
          exact ⟨b, _, h5, b, n, cp, h4, by rw [Nat.add_assoc]⟩
        · rename_i k ii es i j
          refine ⟨_, fin _ fun Γ' g a w hst h3 => ?_, h⟩
          obtain ⟨b, n, cp, h4, h5⟩ := h3
          exact ⟨b, _, h5, b, n, cp, h4, by rw [Nat.add_assoc]⟩
        · rename_i k j
          refine ⟨_, fin _ fun Γ' g a w hst h3 => ?_, h⟩
          obtain ⟨b, h4, h5⟩ := h3
          exact ⟨b, _, h5, b, h4, rfl⟩
        · exact h.elim
      · exact h.elim
    · exact h.elim
  · exact h.elim
theorem fieldVC.sound {P : Program} {T : List (Nat × TE)} (hT : TOk P T) {c : Cx} {o : Oper} {Γ : Sy} {G : Path} {s : TypeId} {f : Nat} {x : Operand} {A : AV} {K : AV → Prop} (ho : o.op = .fieldAddr s x f)
  (hx : Ev c Γ G x A) (h : fieldVC T s f A K) : ∃ R, (G.ok → Does P c o Γ R []) ∧ K R :=
 let ⟨R, h1, h2⟩ := fieldVC.any hT ho hx h
 ⟨R, fun hG => (h1 hG).does, h2⟩
def extractVC (A : AV) (i : Nat) (K : AV → Prop) : Prop := match A with
 | .tup l => match l[i]? with
  | some B => K B
  | none => False
 | _ => False
theorem Rp1.mid {w : World} {O O0 : Nat → Prop} {g : Nat → Value} {v : Value} {A : AV} (h : Rp1 w O O0 g v A) : RpM w O O0 g v A := by
 cases A <;> first | exact h | exact h.elim
theorem RpM.two {w : World} {O O0 : Nat → Prop} {g : Nat → Value} {v : Value} {A : AV} (h : RpM w O O0 g v A) : Rp2 w O O0 g v A := by
 cases A <;> first | exact h | exact h.elim
theorem Rp1.two {w : World} {O O0 : Nat → Prop} {g : Nat → Value} {v : Value} {A : AV} (h : Rp1 w O O0 g v A) : Rp2 w O O0 g v A := h.mid.two
theorem extractVC.any {P : Program} {c : Cx} {o : Oper} {Γ : Sy} {G : Path} {i : Nat} {x : Operand} {A : AV} {K : AV → Prop} (ho : o.op = .extract x i) (hx : Ev c Γ G x A) (h : extractVC A i K) :
  ∃ R, (G.ok → Still0 P c o Γ R) ∧ K R := by
 unfold extractVC at h
 split at h
 · rename_i l
   split at h
   · rename_i B hB
     refine ⟨B, fun hG Γ' g a w hl _ hst => ?_, h⟩
     obtain ⟨f, vs, h1, h2, h3⟩ := hx hG Γ' g a w (hl x (by simp [ho, Op.operands])) hst
     obtain ⟨h4, h5⟩ := h3 _ B hB
     exact ⟨f i, fun w' => by simp [execOp, ho, h1, Instr.extract, h4], h5.two⟩
   · exact h.elim
 · exact h.elim
theorem extractVC.sound {P : Program} {c : Cx} {o : Oper} {Γ : Sy} {G : Path} {i : Nat} {x : Operand} {A : AV} {K : AV → Prop} (ho : o.op = .extract x i) (hx : Ev c Γ G x A) (h : extractVC A i K) :
  ∃ R, (G.ok → Does P c o Γ R []) ∧ K R :=
 let ⟨R, h1, h2⟩ := extractVC.any ho hx h
 ⟨R, fun hG => (h1 hG).does, h2⟩
def lenVC (T : List (Nat × TE)) (own : List (Nat × Ob)) (t : TypeId) (A : AV) (K : AV → Prop) : Prop := match get? T t with
 | some { kind := .sl _, .. } => match A with
  | .st _ (.arr _ xs) => K (.lit (.int .i64 xs.length))
  | .st _ (.narr _ xs) => K (.lit (.int .i64 xs.length))
  | .lit (.slice none 0 0) => K (.lit (.int .i64 0))
  | .own k => match get? own k with
   | some (.row _ _ _ xs) => K (.lit (.int .i64 xs.length))
   | some (.que _ _ xs) => K (.lit (.int .i64 xs.length))
   | _ => False
  | .mown k => match get? own k with
   | some (.mat _ _ _ _ xs _) => K (.lit (.int .i64 xs.length))
   | _ => False
  | .inn k i => match get? own k with
   | some (.mat _ _ _ _ xs _) => K (.lit (.int .i64 (xs.getD i []).length))
   | _ => False
  | _ => False
 | _ => False
theorem RpS.arr_len {w : World} {O : Nat → Prop} {v : Value} {τ : Ty} {xs : List τ.T} (h : RpS w O v (.arr τ xs)) : ∃ a cp, v = .slice a xs.length cp := by
 cases h with
 | nil => exact ⟨_, _, rfl⟩
 | emp a cap => exact ⟨_, _, rfl⟩
 | arr b off cap n _ _ arr e fz f hb hO hn => subst hn; exact ⟨_, _, rfl⟩
theorem lenVC.any {P : Program} {T : List (Nat × TE)} (hT : TOk P T) {c : Cx} {o : Oper} {Γ : Sy} {G : Path} {t : TypeId} {x : Operand} {A : AV} {K : AV → Prop}
    (ho : o.op = .call { callee := .builtin .len, args := #[x], argTypes := #[t] }) (hx : Ev c Γ G x A) (h : lenVC T Γ.own t A K) : ∃ R, (G.ok → Still0 P c o Γ R) ∧ K R := by
  unfold lenVC at h
  split at h
  · rename_i e sz by_ ze ty ht
    have hu := (hT _ _ ht).sl rfl
    have fin : ∀ n : Nat, (∀ Γ' g a w, (∀ k b, get? Γ.own k = some b → get? Γ'.own k = some b) → St c Γ' g a w → Rp2 w (Oset Γ'.own g) c.O0 g (a.eval x) A →
        ∃ ad cp, a.eval x = .slice ad n cp) → (G.ok → Still0 P c o Γ (.lit (.int .i64 n))) := by
      intro n hR hG
      intro Γ' g a w hl hown hst
      obtain ⟨ad, cp, h1⟩ := hR Γ' g a w hown hst (hx hG Γ' g a w (hl x (by simp [ho, Op.operands, Call.operands])) hst)
      exact ⟨.int .i64 n, fun w' => by simp [execOp, ho, resolve, invoke, builtin, Builtin.len_, h1, run_underlying hu, goInt], rfl, rfl⟩
    split at h
    · exact ⟨_, fin _ fun Γ' g a w _ hst h3 => RpS.arr_len (h3 : RpS _ _ _ _), h⟩
    · rename_i fr τ xs
      refine ⟨_, fin _ fun Γ' g a w _ hst h3 => ?_, h⟩
      have h3' : RpS w (Av (Oset Γ'.own g) c.O0 fr) (a.eval x) (.narr τ xs) := h3
      generalize a.eval x = v at h3'
      cases h3' with
      | narr _ _ _ h3' _ => exact RpS.arr_len h3'
    · exact ⟨_, fin 0 fun Γ' g a w _ hst h3 => ⟨none, 0, h3.1⟩, h⟩
    · rename_i k
      split at h
      · rename_i e' τ fr xs hk
        refine ⟨_, fin _ fun Γ' g a w hown hst h3 => ?_, h⟩
        obtain ⟨ys, ho', _⟩ := hst.hp.ok k _ (hown k _ hk)
        have h6 : a.eval x = g k := h3
        rw [h6]
        rcases ho'.2 with ⟨h7, h8⟩ | ⟨b, cap, cur, h7, _⟩
        · exact ⟨none, 0, by rw [h7, h8]⟩
        · exact ⟨_, _, h7⟩
      · rename_i e' kk xs hk
        refine ⟨_, fin _ fun Γ' g a w hown hst h3 => ?_, h⟩
        have h6 : a.eval x = g k := h3
        obtain ⟨b, off, cap, arr, h7, _⟩ := hst.hp.ok k _ (hown k _ hk)
        rw [h6]
        exact ⟨_, _, h7⟩
      · exact h.elim
    · rename_i k
      split at h
      · rename_i e1 e2 τ fr xs st hk
        refine ⟨_, fin _ fun Γ' g a w hown hst h3 => ?_, h⟩
        obtain ⟨⟨ys, ho', _⟩, _⟩ := hst.hp.ok k _ (hown k _ hk)
        have h6 : a.eval x = hd (g k) := h3
        rw [h6]
        rcases ho'.2 with ⟨h7, h8⟩ | ⟨b, cap, cur, h7, _⟩
        · exact ⟨none, 0, by rw [h7, h8]⟩
        · exact ⟨_, _, h7⟩
      · exact h.elim
    · rename_i k i
      split at h
      · rename_i e1 e2 τ fr xs st hk
        refine ⟨_, fin _ fun Γ' g a w hown hst h3 => ?_, h⟩
        obtain ⟨ys, ho', _⟩ := (hst.hp.ok k _ (hown k _ hk)).2.1 i
        have h6 : a.eval x = sub (g k) i := h3
        rw [h6]
        rcases ho'.2 with ⟨h7, h8⟩ | ⟨b, cap, cur, h7, _⟩
        · exact ⟨none, 0, by rw [h7, h8]⟩
        · exact ⟨_, _, h7⟩
      · exact h.elim
    · exact h.elim
  · exact h.elim
theorem lenVC.sound {P : Program} {T : List (Nat × TE)} (hT : TOk P T) {c : Cx} {o : Oper} {Γ : Sy} {G : Path} {t : TypeId} {x : Operand} {A : AV} {K : AV → Prop}
  (ho : o.op = .call { callee := .builtin .len, args := #[x], argTypes := #[t] }) (hx : Ev c Γ G x A) (h : lenVC T Γ.own t A K) : ∃ R, (G.ok → Does P c o Γ R []) ∧ K R :=
 let ⟨R, h1, h2⟩ := lenVC.any hT ho hx h
 ⟨R, fun hG => (h1 hG).does, h2⟩
def minL (x : Int) : List Int → Int
 | [] => x
 | y :: r => minL (min x y) r
def maxL (x : Int) : List Int → Int
 | [] => x
 | y :: r => maxL (max x y) r
def intsOf (k : IntKind) : List AV → Option (List Int)
 | [] => some []
 | .lit (.int k' n) :: r => match eqKind k k', intsOf k r with
  | true, some l => some (n :: l)
  | _, _ => none
 | _ => none
def minmaxVC (b : Builtin) (l : List AV) (K : AV → Prop) : Prop := match l with
 | .lit (.int k n) :: r => match intsOf k r, b with
  | some ns, .min => K (.lit (.int k (minL n ns)))
  | some ns, .max => K (.lit (.int k (maxL n ns)))
  | _, _ => False
 | _ => False
theorem intsOf_vals {w : World} {O O0 : Nat → Prop} {g : Nat → Value} {k : IntKind} : ∀ {l : List AV} {ns : List Int} {vs : List Value}, intsOf k l = some ns → vs.length = l.length →
  (∀ (i : Nat) (A : AV) (v : Value), l[i]? = some A → vs[i]? = some v → Rp2 w O O0 g v A) → vs = ns.map (Value.int k)
 | [], ns, vs, h, hl, _ => by cases h; simpa using hl
 | A :: r, ns, vs, h, hl, hr => by
  cases vs with
  | nil => simp at hl
  | cons v vs =>
   unfold intsOf at h
   split at h
   · rename_i heq
     cases heq
   · rename_i k' n r' heq
     cases heq
     split at h
     · rename_i l' h1 h2
       cases h
       have := intsOf_vals h2 (by simpa using hl) (fun i A v hA hv => hr (i + 1) A v (by simpa using hA) (by simpa using hv))
       have h3 := hr 0 (.lit (.int k' n)) v rfl rfl
       simp only [Rp2, Rp1] at h3
       have hk : k = k' := by simpa [eqKind] using h1
       simp [this, h3.1, hk]
     · cases h
   · cases h
theorem run_min_ints {P : Program} (k : IntKind) (w : World) : ∀ (ns : List Int) (n : Int), ((ns.map (Value.int k)).foldlM Builtin.min2 (.int k n)).run P w = .ok (.int k (minL n ns)) w
 | [], n => rfl
 | m :: r, n => by
  simp only [List.map_cons, List.foldlM_cons, Sem.run_bind, Builtin.min2, Sem.run_pure, Result.andThen_ok, minL]
  rw [run_min_ints k w r]
  congr 3
  rw [Int.min_def]
  split <;> split <;> omega
theorem run_max_ints {P : Program} (k : IntKind) (w : World) : ∀ (ns : List Int) (n : Int), ((ns.map (Value.int k)).foldlM Builtin.max2 (.int k n)).run P w = .ok (.int k (maxL n ns)) w
 | [], n => rfl
 | m :: r, n => by
  simp only [List.map_cons, List.foldlM_cons, Sem.run_bind, Builtin.max2, Sem.run_pure, Result.andThen_ok, maxL]
  rw [run_max_ints k w r]
  congr 3
  rw [Int.max_def]
  split <;> split <;> omega
theorem minmaxVC.any {P : Program} {c : Cx} {o : Oper} {Γ : Sy} {G : Path} {b : Builtin} {xs : Array Operand} {ts : Array TypeId} {l : List AV} {K : AV → Prop}
  (ho : o.op = .call { callee := .builtin b, args := xs, argTypes := ts }) (hl : l.length = xs.toList.length) (hx : ∀ (i : Nat) (x : Operand) (A : AV), xs.toList[i]? = some x → l[i]? = some A → Ev c Γ G x A)
  (h : minmaxVC b l K) : ∃ R, (G.ok → Still0 P c o Γ R) ∧ K R := by
 unfold minmaxVC at h
 split at h
 · rename_i k n r
   have key : ∀ ns, intsOf k r = some ns → G.ok → ∀ Γ' g a w, (∀ x ∈ o.op.operands, look Γ' x = look Γ x) → St c Γ' g a w → xs.toList.map a.eval = .int k n :: ns.map (Value.int k) := by
    intro ns hns hG Γ' g a w hlk hst
    have hev : ∀ (i : Nat) (x : Operand) (A : AV), xs.toList[i]? = some x → (AV.lit (.int k n) :: r)[i]? = some A → Rp2 w (Oset Γ'.own g) c.O0 g (a.eval x) A := fun i x A h1 h2 =>
     hx i x A h1 h2 hG Γ' g a w (hlk x (by
      have := List.mem_of_getElem? h1
      simp [ho, Op.operands, Call.operands]; simpa using this)) hst
    cases hxs : xs.toList with
    | nil => rw [hxs] at hl; simp at hl
    | cons x0 xr =>
     rw [hxs] at hev hl
     have h0 := hev 0 x0 (.lit (.int k n)) rfl rfl
     simp only [Rp2, Rp1] at h0
     have := intsOf_vals (w := w) (O := Oset Γ'.own g) (O0 := c.O0) (g := g) (vs := xr.map a.eval) hns (by simpa using hl.symm) (fun i A v hA hv => by
      rw [List.getElem?_map] at hv
      obtain ⟨x, hx1, rfl⟩ := Option.map_eq_some_iff.1 hv
      exact hev (i + 1) x A (by simpa using hx1) (by simpa using hA))
     simp [h0.1, this]
   split at h
   · rename_i ns hns
     refine ⟨.lit (.int k (minL n ns)), fun hG Γ' g a w hlk _ hst => ⟨.int k (minL n ns), fun w' => ?_, rfl, rfl⟩, h⟩
     have h1 := key ns hns hG Γ' g a w hlk hst
     simp [execOp, ho, resolve, invoke, builtin, Builtin.min_, h1, run_min_ints]
   · rename_i ns hns
     refine ⟨.lit (.int k (maxL n ns)), fun hG Γ' g a w hlk _ hst => ⟨.int k (maxL n ns), fun w' => ?_, rfl, rfl⟩, h⟩
     have h1 := key ns hns hG Γ' g a w hlk hst
     simp [execOp, ho, resolve, invoke, builtin, Builtin.max_, h1, run_max_ints]
   · exact h.elim
 · exact h.elim
theorem minmaxVC.sound {P : Program} {c : Cx} {o : Oper} {Γ : Sy} {G : Path} {b : Builtin} {xs : Array Operand} {ts : Array TypeId} {l : List AV} {K : AV → Prop}
  (ho : o.op = .call { callee := .builtin b, args := xs, argTypes := ts }) (hl : l.length = xs.toList.length) (hx : ∀ (i : Nat) (x : Operand) (A : AV), xs.toList[i]? = some x → l[i]? = some A → Ev c Γ G x A)
  (h : minmaxVC b l K) : ∃ R, (G.ok → Does P c o Γ R []) ∧ K R := by
 obtain ⟨R, h1, h2⟩ := minmaxVC.any ho hl hx h
 exact ⟨R, fun hG => (h1 hG).does, h2⟩
set_option linter.unusedSectionVars false
def ArgsOk (w : World) (O : Nat → Prop) (vals : List Value) (args : List SV) : Prop :=
 vals.length = args.length ∧ ∀ (i : Nat) (v : Value) (A : SV), vals[i]? = some v → args[i]? = some A → RpS w O v A
def RetOk (w w' : World) (O : Nat → Prop) (r : Value) (R : AV) (N : List (Nat × Ob)) : Prop :=
 ∃ g, Rp2 w' (Oset N g) O g r R ∧ Hp w.heap.size O N g w'
def FnAt (P : Program) (al : Bool) (f : FuncId) (args : List SV) (R : AV) (N : List (Nat × Ob)) : Prop :=
 (∃ fn, P.funcs[f]? = some fn ∧ (fn.name == "runtime.NumGoroutine") = false ∧ fn.body.isNone = false) ∧
 ∀ (w : World) (O : Nat → Prop) (vals : List Value), (∀ b, O b → b < w.heap.size) → ArgsOk w (fun b => al = true ∧ O b) vals args →
   Calls P f vals.toArray w fun e w' => ∃ r, e = .returned r ∧ Keep w w' ∧ RetOk w w' O r R N
def v1 (own : List (Nat × Ob)) : AV → Option SV
 | .lit v => some (.lit v)
 | .st _ A => some A
 | .mown k => match get? own k with
  | some (.mat _ _ τ _ xs none) => some (.arr (.sl τ) xs)
  | _ => none
 | .inn k i => match get? own k with
  | some (.mat _ _ τ _ xs _) => some (.arr τ (xs.getD i []))
  | _ => none
 | .own k => match get? own k with
  | some (.row _ τ _ xs) => some (.arr τ xs)
  | _ => none
 | _ => none
def vL1 (own : List (Nat × Ob)) : List AV → Option (List SV)
 | [] => some []
 | A :: r => match v1 own A with
  | some B => match vL1 own r with
   | some l => some (B :: l)
   | none => none
  | none => none
def notAgg : SV → Bool
 | .agg _ => false
 | _ => true
def v2 (own : List (Nat × Ob)) : AV → Option SV
 | .padr k j => match j with
  | 0 => match get? own k with
   | some (.box l) => match vL1 own l with
    | some m => some (.sadr (.agg m))
    | none => none
   | some (.box1 A) => match v1 own A with
    | some B => match notAgg B with
     | true => some (.sadr B)
     | false => none
    | none => none
   | _ => none
  | _ => none
 | A => v1 own A
def vL2 (own : List (Nat × Ob)) : List AV → Option (List SV)
 | [] => some []
 | A :: r => match v2 own A with
  | some B => match vL2 own r with
   | some l => some (B :: l)
   | none => none
  | none => none
def v3 (own : List (Nat × Ob)) : AV → Option SV
 | .fn f l => match isPl f, vL2 own l with
  | true, some m => some (.fn f m)
  | _, _ => none
 | .strct l => match vL1 own l with
  | some m => some (.agg m)
  | none => none
 | A => v2 own A
def vL3 (own : List (Nat × Ob)) : List AV → Option (List SV)
 | [] => some []
 | A :: r => match v3 own A with
  | some B => match vL3 own r with
   | some l => some (B :: l)
   | none => none
  | none => none
theorem RowOk.view {w : World} {base : Nat} {O O0 O' : Nat → Prop} {v : Value} {e : TypeId} {t : Ty} {fr : Bool} {xs : List t.T} (hm : ∀ v A, RpS w (Av O O0 fr) v A → RpS w O' v A) (hO : ∀ b, blk v = some b → ¬ O' b)
  (h : RowOk w base O O0 v e t fr xs) : RpS w O' v (.arr t xs) := by
 have h' : OwnOk w base O O0 (fun _ => undef) v (.row e t fr xs) := h
 obtain ⟨ys, ho, _⟩ := h
 rcases ho.2 with ⟨h3, h4⟩ | ⟨b, cap, cur, h3, _⟩
 · have : xs = [] := List.eq_nil_of_length_eq_zero h4
   subst this
   rw [h3]
   exact .nil t
 · obtain ⟨arr, f, h6, h7, h8, h9, h10, h11, h12⟩ := ownRow h' h3
   have hb := hO b (by rw [h3]; rfl)
   rw [h3]
   exact .arr b 0 cap _ t xs arr e (0, 0) f h6 hb rfl h8 h9 (fun i hi => ⟨(h11 i hi).1, fun j hj => by rw [Nat.zero_add]; exact (h11 i hi).2 j hj⟩) (fun i x hx => hm _ _ (h12 i x hx))
theorem MatOk.view {w : World} {base : Nat} {O O0 O' : Nat → Prop} {g : Nat → Value} {v : Value} {e e' : TypeId} {t : Ty} {fr : Bool} {xs : List (List t.T)} (hm : ∀ v A, RpS w (Av O O0 fr) v A → RpS w O' v A) (hO : ∀ b, Blk v b → ¬ O' b)
  (h : OwnOk w base O O0 g v (.mat e e' t fr xs none)) : RpS w O' (hd v) (.arr (.sl t) xs) := by
 obtain ⟨⟨cells, h1, h2, h3⟩, h4, h5, h6⟩ := h
 have inn : ∀ i, RpS w O' (sub v i) (.arr t (xs.getD i [])) := fun i => (h4 i).view hm (fun b hb => hO b (.inr ⟨i, hb⟩))
 rcases h1.2 with ⟨h7, h8⟩ | ⟨b, cap, cur, h7, h8, h9, h10, h11, h12, h13⟩
 · have : xs = [] := List.eq_nil_of_length_eq_zero h8
   subst this
   rw [h7]
   exact .nil _
 · have hblk : Blk v b := .inl (by rw [h7]; rfl)
   have hb := hO b hblk
   rw [h7]
   refine .arr b 0 cap _ (.sl t) xs cur e (0, 0) (sub v) h9 hb rfl h10 h11 (fun i hi => ?_) (fun i x hx => ?_)
   · have hc := (inn i).cells1 rfl
     refine ⟨by rw [hc]; rfl, fun j hj => ?_⟩
     have hj0 : j = 0 := by have : j < 1 := hj; omega
     subst hj0
     rw [hc]
     have h14 := h3 i hi (by simp)
     show cur[0 + (i * 1 + 0)]? = some (sub v i)
     rw [Nat.zero_add, Nat.mul_one, Nat.add_zero]
     rw [← h14, ← h13, List.getElem?_take, if_pos (by omega)]
     simp
   · have hx' : @getElem? (List (List t.T)) Nat (List t.T) _ _ xs i = some x := hx
     have : xs.getD i [] = x := by rw [List.getD_eq_getElem?_getD, hx']; rfl
     rw [← this]
     exact inn i
section view
variable {base : Nat} {O0 : Nat → Prop} {own : List (Nat × Ob)} {g : Nat → Value} {w : World} (hp : Hp base O0 own g w)
include hp
theorem v1_ok {v : Value} {A : AV} {B : SV} (h : v1 own A = some B) (hr : Rp1 w (Oset own g) O0 g v A) : RpS w (fun _ => False) v B := by
 cases A with
 | lit u => cases h; rw [hr.1]; exact .lit u hr.2
 | st fr A => cases h; exact RpS.mono (fun b c e fz hb _ => ⟨hb, id⟩) hr
 | own k =>
  simp only [v1] at h
  split at h
  · rename_i e τ fr xs hk
    cases h
    have h1 := hp.ok k _ hk
    have hv : v = g k := hr
    obtain ⟨ys, ho, h2, hc⟩ := h1
    rcases ho.2 with ⟨h3, h4⟩ | ⟨b, cap, cur, h3, _⟩
    · rw [hv, h3]
      have : xs = [] := List.eq_nil_of_length_eq_zero h4
      subst this
      exact .nil τ
    · obtain ⟨arr, f, h6, h7, h8, h9, h10, h11, h12⟩ := ownRow (hp.ok k _ hk) h3
      rw [hv, h3]
      exact .arr b 0 cap _ τ xs arr e (0, 0) f h6 id rfl h8 h9 (fun i hi => ⟨(h11 i hi).1, fun j hj => by rw [Nat.zero_add]; exact (h11 i hi).2 j hj⟩)
       (fun i x hx => RpS.mono (fun b c e fz hb _ => ⟨hb, id⟩) (h12 i x hx))
  · cases h
 | mown k =>
  simp only [v1] at h
  split at h
  · rename_i e e' τ fr xs hk
    cases h
    have hv : v = hd (g k) := hr
    rw [hv]
    exact MatOk.view (fun _ _ h => RpS.mono (fun b c e fz hb _ => ⟨hb, id⟩) h) (fun _ _ => id) (hp.ok k _ hk)
  · cases h
 | inn k i =>
  simp only [v1] at h
  split at h
  · rename_i e e' τ fr xs st hk
    cases h
    have hv : v = sub (g k) i := hr
    rw [hv]
    exact RowOk.view (fun _ _ h => RpS.mono (fun b c e fz hb _ => ⟨hb, id⟩) h) (fun _ _ => id) ((hp.ok k _ hk).2.1 i)
  · cases h
 | _ => cases h
theorem vL1_ok : ∀ {l : List AV} {m : List SV}, vL1 own l = some m → m.length = l.length ∧ ∀ (i : Nat) (A : AV) (B : SV), l[i]? = some A → m[i]? = some B → v1 own A = some B
 | [], m, h => by cases h; exact ⟨rfl, fun i A B hA => by simp at hA⟩
 | A :: r, m, h => by
  simp only [vL1] at h
  split at h
  · rename_i B hB
    split at h
    · rename_i l hl
      cases h
      obtain ⟨h1, h2⟩ := vL1_ok hl
      refine ⟨by simp [h1], fun i A' B' hA hB' => ?_⟩
      cases i with
      | zero => simp at hA hB'; subst hA; subst hB'; exact hB
      | succ i => exact h2 i A' B' (by simpa using hA) (by simpa using hB')
    · cases h
  · cases h
theorem v2_ok {v : Value} {A : AV} {B : SV} (h : v2 own A = some B) (hr : Rp1 w (Oset own g) O0 g v A) : RpS w (fun _ => False) v B := by
 unfold v2 at h
 split at h
 · rename_i k j
   split at h
   · split at h
     · rename_i l hk
       split at h
       · rename_i m hm
         cases h
         obtain ⟨b, h1, h2⟩ := hr
         obtain ⟨b', arr, e, h3, h4, h5, h6, h7⟩ := hp.ok k _ hk
         rw [h1] at h3
         cases h3
         rw [h2]
         obtain ⟨h8, h9⟩ := vL1_ok hp hm
         refine .sadr b 0 _ (.agg arr) arr e (0, 0) h5 id (fun j _ => by simp [Value.cells]) (.agg arr m (fun i => arr.getD i undef) (by rw [h6, h8]) (fun i hi => ?_) (fun i B hB => ?_))
         · obtain ⟨y, h11, h12, h13⟩ := h7 i l[i] (by rw [List.getElem?_eq_getElem])
           simp [Array.getD_eq_getD_getElem?, h11, h12]
         · have hi : i < l.length := by rw [← h8]; exact (List.getElem?_eq_some_iff.1 hB).1
           obtain ⟨y, h11, h12, h13⟩ := h7 i l[i] (by rw [List.getElem?_eq_getElem])
           have h14 := h9 i l[i] B (by rw [List.getElem?_eq_getElem]) hB
           have : arr.getD i undef = y := by simp [Array.getD_eq_getD_getElem?, h11]
           rw [this]
           refine v1_ok hp h14 ?_
           cases hl : l[i] <;> rw [hl] at h13 h14 <;> first | exact h13 | cases h14
       · cases h
     · rename_i A hk
       split at h
       · rename_i B' hB
         split at h
         · rename_i hna
           cases h
           obtain ⟨b, h1, h2⟩ := hr
           obtain ⟨b', y, e, h3, h4, h5, h6, h7⟩ := hp.ok k _ hk
           rw [h1] at h3
           cases h3
           rw [h2]
           have h8 : RpS w (fun _ => False) y B' := v1_ok hp hB (by cases A <;> first | exact h7 | cases hB)
           have h9 := h8.cells1 (by cases B' <;> first | rfl | cases hna)
           exact .sadr b 0 _ y #[y] e (0, 0) h5 id (fun j hj => by rw [h9]; simp) h8
         · cases h
       · cases h
     · cases h
   · cases h
 · exact v1_ok hp h hr
theorem vL2_ok : ∀ {l : List AV} {m : List SV}, vL2 own l = some m → m.length = l.length ∧ ∀ (i : Nat) (A : AV) (B : SV), l[i]? = some A → m[i]? = some B → v2 own A = some B
 | [], m, h => by cases h; exact ⟨rfl, fun i A B hA => by simp at hA⟩
 | A :: r, m, h => by
  simp only [vL2] at h
  split at h
  · rename_i B hB
    split at h
    · rename_i l hl
      cases h
      obtain ⟨h1, h2⟩ := vL2_ok hl
      refine ⟨by simp [h1], fun i A' B' hA hB' => ?_⟩
      cases i with
      | zero => simp at hA hB'; subst hA; subst hB'; exact hB
      | succ i => exact h2 i A' B' (by simpa using hA) (by simpa using hB')
    · cases h
  · cases h
theorem v3_ok {v : Value} {A : AV} {B : SV} (h : v3 own A = some B) (hr : Rp2 w (Oset own g) O0 g v A) : RpS w (fun _ => False) v B := by
 unfold v3 at h
 split at h
 · rename_i f l
   split at h
   · rename_i m hb hm
     cases h
     obtain ⟨h1, h2⟩ := vL2_ok hp hm
     obtain ⟨f', vs, h0, h3, h4⟩ := hr
     have h0 : v = .func (.func f) #[] vs := by rw [h0]; unfold fnV; rw [hb]
     subst h0
     refine .fn f m vs f' (by rw [h3, h1]) (fun i hi => ?_) (fun i B hB => ?_)
     · exact (h4 i (l[i]'(by omega)) (by rw [List.getElem?_eq_getElem])).1
     · have hi : i < l.length := by rw [← h1]; exact (List.getElem?_eq_some_iff.1 hB).1
       exact v2_ok hp (h2 i l[i] B (by rw [List.getElem?_eq_getElem]) hB) (h4 i l[i] (by rw [List.getElem?_eq_getElem])).2
   · cases h
 · rename_i l
   split at h
   · rename_i m hm
     cases h
     obtain ⟨h1, h2⟩ := vL1_ok hp hm
     obtain ⟨f', vs, rfl, h3, h4⟩ := hr
     refine .agg vs m f' (by rw [h3, h1]) (fun i hi => ?_) (fun i B hB => ?_)
     · exact (h4 i (l[i]'(by omega)) (by rw [List.getElem?_eq_getElem])).1
     · have hi : i < l.length := by rw [← h1]; exact (List.getElem?_eq_some_iff.1 hB).1
       exact v1_ok hp (h2 i l[i] B (by rw [List.getElem?_eq_getElem]) hB) (h4 i l[i] (by rw [List.getElem?_eq_getElem])).2
   · cases h
 · cases A <;> first | exact v2_ok hp h hr | cases h
theorem vL3_ok : ∀ {l : List AV} {m : List SV}, vL3 own l = some m → m.length = l.length ∧ ∀ (i : Nat) (A : AV) (B : SV), l[i]? = some A → m[i]? = some B → v3 own A = some B
 | [], m, h => by cases h; exact ⟨rfl, fun i A B hA => by simp at hA⟩
 | A :: r, m, h => by
  simp only [vL3] at h
  split at h
  · rename_i B hB
    split at h
    · rename_i l hl
      cases h
      obtain ⟨h1, h2⟩ := vL3_ok hl
      refine ⟨by simp [h1], fun i A' B' hA hB' => ?_⟩
      cases i with
      | zero => simp at hA hB'; subst hA; subst hB'; exact hB
      | succ i => exact h2 i A' B' (by simpa using hA) (by simpa using hB')
    · cases h
  · cases h
end view
def stab1 : AV → Option (SV × Bool)
 | .lit v => some (.lit v, true)
 | .st fr A => some (A, fr)
 | _ => none
def stabL1 : List AV → Option (List SV × Bool)
 | [] => some ([], true)
 | A :: r => match stab1 A with
  | some (B, b) => match stabL1 r with
   | some (l, b') => some (B :: l, b && b')
   | none => none
  | none => none
def stab2 : AV → Option (SV × Bool)
 | .strct l => match stabL1 l with
  | some (m, b) => some (.agg m, b)
  | none => none
 | A => stab1 A
def stabL : List AV → Option (List SV × Bool)
 | [] => some ([], true)
 | A :: r => match stab2 A with
  | some (B, b) => match stabL r with
   | some (l, b') => some (B :: l, b && b')
   | none => none
  | none => none
section stab
variable {w : World} {O O0 : Nat → Prop} {g : Nat → Value}
theorem RpS.lower {w : World} {O O0 : Nat → Prop} {fr φ : Bool} (hφ : φ = true → fr = true) {v : Value} {A : SV} (h : RpS w (Av O O0 fr) v A) : RpS w (Av O O0 φ) v A :=
 h.mono fun b c e fz hb hn => ⟨hb, fun h' => hn (by rcases h' with h' | ⟨h', h''⟩; exact .inl h'; exact .inr ⟨hφ h', h''⟩)⟩
theorem stab1_ok {v : Value} {A : AV} {B : SV} {b φ : Bool} (h : stab1 A = some (B, b)) (hφ : φ = true → b = true) (hr : Rp1 w O O0 g v A) : RpS w (Av O O0 φ) v B := by
 cases A with
 | lit u => cases h; rw [hr.1]; exact .lit u hr.2
 | st fr A => cases h; exact RpS.lower hφ hr
 | _ => cases h
theorem stabL1_ok : ∀ {l : List AV} {m : List SV} {b : Bool}, stabL1 l = some (m, b) → m.length = l.length ∧ ∀ (i : Nat) (A : AV) (B : SV), l[i]? = some A → m[i]? = some B → ∃ b', stab1 A = some (B, b') ∧ (b = true → b' = true)
 | [], m, b, h => by cases h; exact ⟨rfl, fun i A B hA => by simp at hA⟩
 | A :: r, m, b, h => by
  simp only [stabL1] at h
  split at h
  · rename_i B b1 hB
    split at h
    · rename_i l b2 hl
      cases h
      obtain ⟨h1, h2⟩ := stabL1_ok hl
      refine ⟨by simp [h1], fun i A' B' hA hB' => ?_⟩
      cases i with
      | zero => simp at hA hB'; subst hA; subst hB'; exact ⟨b1, hB, fun h => by simp at h; exact h.1⟩
      | succ i => obtain ⟨b', h3, h4⟩ := h2 i A' B' (by simpa using hA) (by simpa using hB'); exact ⟨b', h3, fun h => h4 (by simp at h; exact h.2)⟩
    · cases h
  · cases h
theorem stab2_ok {v : Value} {A : AV} {B : SV} {b φ : Bool} (h : stab2 A = some (B, b)) (hφ : φ = true → b = true) (hr : Rp2 w O O0 g v A) : RpS w (Av O O0 φ) v B := by
 unfold stab2 at h
 split at h
 · rename_i l
   split at h
   · rename_i m b' hm
     cases h
     obtain ⟨h1, h2⟩ := stabL1_ok hm
     obtain ⟨f', vs, rfl, h3, h4⟩ := hr
     refine .agg vs m f' (by rw [h3, h1]) (fun i hi => ?_) (fun i B hB => ?_)
     · exact (h4 i (l[i]'(by omega)) (by rw [List.getElem?_eq_getElem])).1
     · have hi : i < l.length := by rw [← h1]; exact (List.getElem?_eq_some_iff.1 hB).1
       obtain ⟨b', h5, h6⟩ := h2 i l[i] B (by rw [List.getElem?_eq_getElem]) hB
       exact stab1_ok h5 (fun h => h6 (hφ h)) (h4 i l[i] (by rw [List.getElem?_eq_getElem])).2
   · cases h
 · cases A <;> first | exact stab1_ok (g := g) (O0 := O0) (O := O) h hφ hr | cases h
theorem stabL_ok : ∀ {l : List AV} {m : List SV} {b : Bool}, stabL l = some (m, b) → m.length = l.length ∧ ∀ (i : Nat) (A : AV) (B : SV), l[i]? = some A → m[i]? = some B → ∃ b', stab2 A = some (B, b') ∧ (b = true → b' = true)
 | [], m, b, h => by cases h; exact ⟨rfl, fun i A B hA => by simp at hA⟩
 | A :: r, m, b, h => by
  simp only [stabL] at h
  split at h
  · rename_i B b1 hB
    split at h
    · rename_i l b2 hl
      cases h
      obtain ⟨h1, h2⟩ := stabL_ok hl
      refine ⟨by simp [h1], fun i A' B' hA hB' => ?_⟩
      cases i with
      | zero => simp at hA hB'; subst hA; subst hB'; exact ⟨b1, hB, fun h => by simp at h; exact h.1⟩
      | succ i => obtain ⟨b', h3, h4⟩ := h2 i A' B' (by simpa using hA) (by simpa using hB'); exact ⟨b', h3, fun h => h4 (by simp at h; exact h.2)⟩
    · cases h
  · cases h
end stab
def viewAll (own : List (Nat × Ob)) (al : Bool) (l : List AV) : Option (List SV × Bool) := match al with
 | true => stabL l
 | false => match vL3 own l with
  | some m => some (m, true)
  | none => none
theorem viewAll_ok {c : Cx} {Γ : Sy} {g : Nat → Value} {a : Act} {w : World} (hst : St c Γ g a w) {own : List (Nat × Ob)} (hown : ∀ k b, get? own k = some b → get? Γ.own k = some b) {al : Bool} {l : List AV} {S : List SV} {φ : Bool} (h : viewAll own al l = some (S, φ))
  {vals : List Value} (hl : vals.length = l.length) (hv : ∀ (i : Nat) (v : Value) (A : AV), vals[i]? = some v → l[i]? = some A → Rp2 w (Oset Γ.own g) c.O0 g v A) :
  ArgsOk w (fun b => al = true ∧ Av (Oset Γ.own g) c.O0 φ b) vals S := by
 cases al with
 | true =>
  obtain ⟨h1, h2⟩ := stabL_ok h
  refine ⟨by rw [hl, h1], fun i v B hv' hB => ?_⟩
  have hi : i < l.length := by rw [← h1]; exact (List.getElem?_eq_some_iff.1 hB).1
  obtain ⟨b', h3, h4⟩ := h2 i l[i] B (by rw [List.getElem?_eq_getElem]) hB
  exact (stab2_ok h3 h4 (hv i v l[i] hv' (by rw [List.getElem?_eq_getElem]))).mono fun b c e fz hb hn => ⟨hb, fun h' => hn h'.2⟩
 | false =>
  simp only [viewAll] at h
  split at h
  · rename_i m hm
    cases h
    have hv2 : ∀ k b, get? own k = some b → get? Γ.own k = some b := hown
    -- the view reads the same things in Γ
    have e1 : ∀ {A : AV} {B : SV}, v1 own A = some B → v1 Γ.own A = some B := by
     intro A B h
     cases A <;> simp only [v1] at h ⊢ <;> first | exact h | cases h | skip
     all_goals
      split at h
      · rename_i hk; rw [hown _ _ hk]; exact h
      · cases h
    have eL1 : ∀ {l : List AV} {m : List SV}, vL1 own l = some m → vL1 Γ.own l = some m := by
     intro l
     induction l with
     | nil => intro m h; exact h
     | cons A r ih =>
      intro m h
      simp only [vL1] at h ⊢
      split at h
      · rename_i B hB
        split at h
        · rename_i l' hl'
          rw [e1 hB, ih hl']; exact h
        · cases h
      · cases h
    have e2 : ∀ {A : AV} {B : SV}, v2 own A = some B → v2 Γ.own A = some B := by
     intro A B h
     unfold v2 at h ⊢
     split at h
     · split at h
       · split at h
         · rename_i hk
           split at h
           · rename_i hm'; simp only [hown _ _ hk, eL1 hm']; exact h
           · cases h
         · rename_i hk
           split at h
           · rename_i hB; simp only [hown _ _ hk, e1 hB]; exact h
           · cases h
         · cases h
       · cases h
     · exact e1 h
    have eL2 : ∀ {l : List AV} {m : List SV}, vL2 own l = some m → vL2 Γ.own l = some m := by
     intro l
     induction l with
     | nil => intro m h; exact h
     | cons A r ih =>
      intro m h
      simp only [vL2] at h ⊢
      split at h
      · rename_i B hB
        split at h
        · rename_i l' hl'
          rw [e2 hB, ih hl']; exact h
        · cases h
      · cases h
    have e3 : ∀ {A : AV} {B : SV}, v3 own A = some B → v3 Γ.own A = some B := by
     intro A B h
     unfold v3 at h ⊢
     split at h
     · split at h
       · rename_i hb' hm'; simp only [hb', eL2 hm']; exact h
       · cases h
     · split at h
       · rename_i hm'; simp only [eL1 hm']; exact h
       · cases h
     · exact e2 h
    have eL3 : ∀ {l : List AV} {m : List SV}, vL3 own l = some m → vL3 Γ.own l = some m := by
     intro l
     induction l with
     | nil => intro m h; exact h
     | cons A r ih =>
      intro m h
      simp only [vL3] at h ⊢
      split at h
      · rename_i B hB
        split at h
        · rename_i l' hl'
          rw [e3 hB, ih hl']; exact h
        · cases h
      · cases h
    obtain ⟨h1, h2⟩ := vL3_ok hst.hp (eL3 hm)
    refine ⟨by rw [hl, h1], fun i v B hv' hB => ?_⟩
    have hi : i < l.length := by rw [← h1]; exact (List.getElem?_eq_some_iff.1 hB).1
    exact (v3_ok hst.hp (h2 i l[i] B (by rw [List.getElem?_eq_getElem]) hB) (hv i v l[i] hv' (by rw [List.getElem?_eq_getElem]))).mono fun b c e fz hb _ => ⟨hb, fun h' => by cases h'.1⟩
  · cases h
def AV.tr1 (d : Nat) (φ : Bool) : AV → AV
 | .st _ A => .st φ A
 | .own k => .own (k + d)
 | .mown k => .mown (k + d)
 | .lit v => .lit v
 | _ => .any
def trL (d : Nat) (φ : Bool) : List AV → List AV
 | [] => []
 | A :: r => A.tr1 d φ :: trL d φ r
def AV.trM (d : Nat) (φ : Bool) : AV → AV
 | .strct l => .strct (trL d φ l)
 | A => A.tr1 d φ
def trML (d : Nat) (φ : Bool) : List AV → List AV
 | [] => []
 | A :: r => A.trM d φ :: trML d φ r
def AV.tr (d : Nat) (φ : Bool) : AV → AV
 | .tup l => .tup (trML d φ l)
 | A => A.trM d φ
def AV.fr1 : AV → Bool
 | .st fr _ => fr
 | _ => true
def frL : List AV → Bool
 | [] => true
 | A :: r => A.fr1 && frL r
def AV.frM : AV → Bool
 | .strct l => frL l
 | A => A.fr1
def frML : List AV → Bool
 | [] => true
 | A :: r => A.frM && frML r
def AV.okR : AV → Bool
 | .tup l => frML l
 | A => A.frM
def Ob.okN : Ob → Bool
 | .row _ _ fr _ => fr
 | .mat _ _ _ fr _ _ => fr
 | _ => false
def okN : List (Nat × Ob) → Bool
 | [] => true
 | (_, o) :: r => o.okN && okN r
def Ob.tr (φ : Bool) : Ob → Ob
 | .row e τ _ xs => .row e τ φ xs
 | .mat e e' τ _ xs st => .mat e e' τ φ xs st
 | o => o
def trN (d : Nat) (φ : Bool) : List (Nat × Ob) → List (Nat × Ob)
 | [] => []
 | (k, o) :: r => (k + d, o.tr φ) :: trN d φ r
def AV.frz1 (φ : Bool) (N : List (Nat × Ob)) : AV → AV
 | .st _ A => .st φ A
 | .own k => match get? N k with
  | some (.row _ τ _ xs) => .st φ (.arr τ xs)
  | _ => .any
 | .lit v => .lit v
 | _ => .any
def frzL (φ : Bool) (N : List (Nat × Ob)) : List AV → List AV
 | [] => []
 | A :: r => A.frz1 φ N :: frzL φ N r
def AV.frzM (φ : Bool) (N : List (Nat × Ob)) : AV → AV
 | .strct l => .strct (frzL φ N l)
 | A => A.frz1 φ N
def frzML (φ : Bool) (N : List (Nat × Ob)) : List AV → List AV
 | [] => []
 | A :: r => A.frzM φ N :: frzML φ N r
def AV.frz (φ : Bool) (N : List (Nat × Ob)) : AV → AV
 | .tup l => .tup (frzML φ N l)
 | A => A.frzM φ N
theorem trML_get {d : Nat} {φ : Bool} : ∀ {l : List AV} {i : Nat}, (trML d φ l)[i]? = (l[i]?).map (AV.trM d φ)
 | [], i => by simp [trML]
 | A :: r, i => by
  cases i with
  | zero => simp [trML]
  | succ i => simp [trML, trML_get (l := r) (i := i)]
theorem trML_len {d : Nat} {φ : Bool} : ∀ {l : List AV}, (trML d φ l).length = l.length
 | [] => rfl
 | A :: r => by simp [trML, trML_len (l := r)]
theorem frzML_get {φ : Bool} {N : List (Nat × Ob)} : ∀ {l : List AV} {i : Nat}, (frzML φ N l)[i]? = (l[i]?).map (AV.frzM φ N)
 | [], i => by simp [frzML]
 | A :: r, i => by
  cases i with
  | zero => simp [frzML]
  | succ i => simp [frzML, frzML_get (l := r) (i := i)]
theorem frzML_len {φ : Bool} {N : List (Nat × Ob)} : ∀ {l : List AV}, (frzML φ N l).length = l.length
 | [] => rfl
 | A :: r => by simp [frzML, frzML_len (l := r)]
theorem frML_get : ∀ {l : List AV} {i : Nat} {A : AV}, frML l = true → l[i]? = some A → A.frM = true
 | [], i, A, _, h => by simp at h
 | B :: r, i, A, hl, h => by
  simp only [frML, Bool.and_eq_true] at hl
  cases i with
  | zero => simp at h; subst h; exact hl.1
  | succ i => exact frML_get hl.2 (by simpa using h)
theorem trL_get {d : Nat} {φ : Bool} : ∀ {l : List AV} {i : Nat}, (trL d φ l)[i]? = (l[i]?).map (AV.tr1 d φ)
 | [], i => by simp [trL]
 | A :: r, i => by
  cases i with
  | zero => simp [trL]
  | succ i => simp [trL, trL_get (l := r) (i := i)]
theorem trL_len {d : Nat} {φ : Bool} : ∀ {l : List AV}, (trL d φ l).length = l.length
 | [] => rfl
 | A :: r => by simp [trL, trL_len (l := r)]
theorem frzL_get {φ : Bool} {N : List (Nat × Ob)} : ∀ {l : List AV} {i : Nat}, (frzL φ N l)[i]? = (l[i]?).map (AV.frz1 φ N)
 | [], i => by simp [frzL]
 | A :: r, i => by
  cases i with
  | zero => simp [frzL]
  | succ i => simp [frzL, frzL_get (l := r) (i := i)]
theorem frzL_len {φ : Bool} {N : List (Nat × Ob)} : ∀ {l : List AV}, (frzL φ N l).length = l.length
 | [] => rfl
 | A :: r => by simp [frzL, frzL_len (l := r)]
theorem frL_get : ∀ {l : List AV} {i : Nat} {A : AV}, frL l = true → l[i]? = some A → A.fr1 = true
 | [], i, A, _, h => by simp at h
 | B :: r, i, A, hl, h => by
  simp only [frL, Bool.and_eq_true] at hl
  cases i with
  | zero => simp at h; subst h; exact hl.1
  | succ i => exact frL_get hl.2 (by simpa using h)
theorem okN_get : ∀ {N : List (Nat × Ob)} {k : Nat} {o : Ob}, okN N = true → get? N k = some o → o.okN = true
 | [], k, o, _, h => by cases h
 | (k', o') :: r, k, o, hl, h => by
  simp only [okN, Bool.and_eq_true] at hl
  simp only [get?] at h
  split at h
  · cases h; exact hl.1
  · exact okN_get hl.2 h
theorem trN_get {d : Nat} {φ : Bool} : ∀ {N : List (Nat × Ob)} {k : Nat}, get? (trN d φ N) k = if d ≤ k then (get? N (k - d)).map (Ob.tr φ) else none
 | [], k => by simp [trN, get?]
 | (k', o) :: r, k => by
  simp only [trN, get?, trN_get (N := r) (k := k)]
  by_cases hd : d ≤ k
  · simp only [hd, if_true]
    cases hb : Nat.beq k' (k - d) with
    | true =>
     have := Nat.eq_of_beq_eq_true hb
     have : Nat.beq (k' + d) k = true := by
      rw [show k' + d = k from by omega]
      exact Nat.beq_refl k
     simp [this]
    | false =>
     have h1 := Nat.ne_of_beq_eq_false hb
     have : Nat.beq (k' + d) k = false := by
      cases h : Nat.beq (k' + d) k with
      | false => rfl
      | true => exact absurd (by have := Nat.eq_of_beq_eq_true h; omega) h1
     simp [this]
  · simp only [hd, if_false]
    have : Nat.beq (k' + d) k = false := by
     cases h : Nat.beq (k' + d) k with
     | false => rfl
     | true => exact absurd (by have := Nat.eq_of_beq_eq_true h; omega) hd
    simp [this]
section ret
variable {c : Cx} {Γ : Sy} {g gN : Nat → Value} {a : Act} {w w' : World} {N : List (Nat × Ob)} {φ : Bool} {d : Nat}
theorem Oset.tr (hst : St c Γ g a w) {b : Nat} (h : Oset (trN d φ N ++ Γ.own) (mg (trN d φ N) (fun k => gN (k - d)) g) b) : Oset N gN b ∨ Oset Γ.own g b := by
 obtain ⟨k, o, h1, h2⟩ := h
 rw [get?_append] at h1
 cases hk : get? (trN d φ N) k with
 | some o' =>
  rw [mg_some hk] at h2
  rw [trN_get] at hk
  split at hk
  · obtain ⟨o'', h3, _⟩ := Option.map_eq_some_iff.1 hk
    exact .inl ⟨_, o'', h3, h2⟩
  · cases hk
 | none =>
  rw [hk] at h1
  rw [mg_none hk] at h2
  exact .inr ⟨k, o, h1, h2⟩
theorem ret_mono (hst : St c Γ g a w) {v : Value} {A : SV} (h : RpS w' (Av (Oset N gN) (Av (Oset Γ.own g) c.O0 φ) true) v A) : RpS w' (Av (Oset (trN d φ N ++ Γ.own) (mg (trN d φ N) (fun k => gN (k - d)) g)) c.O0 φ) v A :=
 h.mono fun b x e fz hb hn => ⟨hb, fun h' => hn (by
  rcases h' with h' | h'
  · rcases Oset.tr hst h' with h' | h'
    · exact .inl h'
    · exact .inr ⟨rfl, .inl h'⟩
  · exact .inr ⟨rfl, .inr h'⟩)⟩
theorem ownsRow_base {w : World} {base base' e size n : Nat} {v : Value} {xs : List Value} (hb : base' ≤ base) (h : w.ownsRow base e size v n xs) : w.ownsRow base' e size v n xs := by
 refine ⟨h.1, ?_⟩
 rcases h.2 with h10 | ⟨b, cap, cur, h10, h11, h12⟩
 · exact .inl h10
 · exact .inr ⟨b, cap, cur, h10, Nat.le_trans hb h11, h12⟩
theorem RowOk.turn {w : World} {base base' : Nat} {O O0 O' O0' : Nat → Prop} {fr fr' : Bool} {v : Value} {e : TypeId} {t : Ty} {l : List t.T} (hb : base' ≤ base)
  (hm : ∀ (v : Value) (x : t.T), RpS w (Av O O0 fr) v (t.enc x) → RpS w (Av O' O0' fr') v (t.enc x)) (h : RowOk w base O O0 v e t fr l) : RowOk w base' O' O0' v e t fr' l := by
 obtain ⟨xs, h1, h2, f, h3, h4⟩ := h
 exact ⟨xs, ownsRow_base hb h1, h2, f, h3, fun i x hx => hm _ _ (h4 i x hx)⟩
theorem St.ret (hst : St c Γ g a w) (hk : Keep w w') (hN : Hp w.heap.size (Av (Oset Γ.own g) c.O0 φ) N gN w') (hok : okN N = true) (hf : ∀ k o, get? (trN d φ N) k = some o → Γ.free k) :
  St c ⟨Γ.tmps, trN d φ N ++ Γ.own⟩ (mg (trN d φ N) (fun k => gN (k - d)) g) a w' := by
 have back : ∀ k o, get? (trN d φ N) k = some o → ∃ o', get? N (k - d) = some o' ∧ o = o'.tr φ ∧ d ≤ k := by
  intro k o h
  rw [trN_get] at h
  split at h
  · obtain ⟨o', h1, h2⟩ := Option.map_eq_some_iff.1 h
    exact ⟨o', h1, h2.symm, by assumption⟩
  · cases h
 refine hst.adopt hk hf (fun k o b h1 h2 => ?_) (fun k k' o o' b h1 h2 h3 h4 => ?_) (fun k o h1 => ?_)
 · obtain ⟨o', h3, _⟩ := back k o h1
   exact ((hN.ok _ _ h3).lt h2).1
 · obtain ⟨o1, h5, _, h6⟩ := back k o h1
   obtain ⟨o2, h7, _, h8⟩ := back k' o' h2
   have := hN.inj _ _ _ _ b h5 h7 h3 h4
   omega
 · obtain ⟨o', h2, rfl, h3⟩ := back k o h1
   have h4 := hN.ok _ _ h2
   have h5 := okN_get hok h2
   cases o' with
   | row e τ fr xs =>
    have hfr : fr = true := h5
    subst hfr
    exact RowOk.turn (Nat.zero_le _) (fun _ _ h => ret_mono hst h) h4
   | mat e e' τ fr xs st =>
    have hfr : fr = true := h5
    subst hfr
    obtain ⟨⟨cells, g1, g2, g3⟩, g4, g5, g6⟩ := h4
    exact ⟨⟨cells, ownsRow_base (Nat.zero_le _) g1, g2, g3⟩, fun i => RowOk.turn (Nat.zero_le _) (fun _ _ h => ret_mono hst h) (g4 i), g5, g6⟩
   | box l => cases h5
   | box1 A => cases h5
   | mp => cases h5
   | que => cases h5
   | sit => cases h5
   | mps => cases h5
   | mit => cases h5
   | gone => cases h5
theorem Rp1.tr (hst : St c Γ g a w) {v : Value} {A : AV} (hfr : A.fr1 = true) (hN : ∀ k, A = .own k ∨ A = .mown k → ∃ o, get? N k = some o) (h : Rp1 w' (Oset N gN) (Av (Oset Γ.own g) c.O0 φ) gN v A) :
  Rp1 w' (Oset (trN d φ N ++ Γ.own) (mg (trN d φ N) (fun k => gN (k - d)) g)) c.O0 (mg (trN d φ N) (fun k => gN (k - d)) g) v (A.tr1 d φ) := by
 cases A with
 | lit u => exact h
 | st fr A =>
  have : fr = true := hfr
  subst this
  exact ret_mono hst h
 | own k =>
  obtain ⟨o, ho⟩ := hN k (.inl rfl)
  show v = mg (trN d φ N) (fun k => gN (k - d)) g (k + d)
  rw [mg_some (o := o.tr φ) (by rw [trN_get, if_pos (by omega), Nat.add_sub_cancel, ho]; rfl)]
  rw [Nat.add_sub_cancel]
  exact h
 | mown k =>
  obtain ⟨o, ho⟩ := hN k (.inr rfl)
  show v = hd (mg (trN d φ N) (fun k => gN (k - d)) g (k + d))
  rw [mg_some (o := o.tr φ) (by rw [trN_get, if_pos (by omega), Nat.add_sub_cancel, ho]; rfl)]
  rw [Nat.add_sub_cancel]
  exact h
 | _ => trivial
def ownIn (N : List (Nat × Ob)) : AV → Bool
 | .own k => (get? N k).isSome
 | .mown k => (get? N k).isSome
 | _ => true
def ownInL (N : List (Nat × Ob)) : List AV → Bool
 | [] => true
 | A :: r => ownIn N A && ownInL N r
def AV.ownInM (N : List (Nat × Ob)) : AV → Bool
 | .strct l => ownInL N l
 | A => ownIn N A
def ownInML (N : List (Nat × Ob)) : List AV → Bool
 | [] => true
 | A :: r => A.ownInM N && ownInML N r
def AV.ownIn2 (N : List (Nat × Ob)) : AV → Bool
 | .tup l => ownInML N l
 | A => A.ownInM N
theorem ownInML_get : ∀ {l : List AV} {i : Nat} {A : AV}, ownInML N l = true → l[i]? = some A → A.ownInM N = true
 | [], i, A, _, h => by simp at h
 | B :: r, i, A, hl, h => by
  simp only [ownInML, Bool.and_eq_true] at hl
  cases i with
  | zero => simp at h; subst h; exact hl.1
  | succ i => exact ownInML_get (l := r) hl.2 (by simpa using h)
theorem ownInL_get : ∀ {l : List AV} {i : Nat} {A : AV}, ownInL N l = true → l[i]? = some A → ownIn N A = true
 | [], i, A, _, h => by simp at h
 | B :: r, i, A, hl, h => by
  simp only [ownInL, Bool.and_eq_true] at hl
  cases i with
  | zero => simp at h; subst h; exact hl.1
  | succ i => exact ownInL_get (l := r) hl.2 (by simpa using h)
theorem ownIn_get {A : AV} (h : ownIn N A = true) : ∀ k, A = .own k ∨ A = .mown k → ∃ o, get? N k = some o := by
 rintro k (hA | hA)
 all_goals
  subst hA
  exact Option.isSome_iff_exists.1 h
theorem RpM.tr (hst : St c Γ g a w) {v : Value} {A : AV} (hfr : A.frM = true) (hN : A.ownInM N = true) (h : RpM w' (Oset N gN) (Av (Oset Γ.own g) c.O0 φ) gN v A) :
  RpM w' (Oset (trN d φ N ++ Γ.own) (mg (trN d φ N) (fun k => gN (k - d)) g)) c.O0 (mg (trN d φ N) (fun k => gN (k - d)) g) v (A.trM d φ) := by
 cases A with
 | strct l =>
  obtain ⟨f, vs, h1, h2, h3⟩ := h
  refine ⟨f, vs, h1, by rw [trL_len]; exact h2, fun i B hB => ?_⟩
  rw [trL_get] at hB
  obtain ⟨B', hB', rfl⟩ := Option.map_eq_some_iff.1 hB
  exact ⟨(h3 i B' hB').1, (h3 i B' hB').2.tr hst (frL_get hfr hB') (ownIn_get (ownInL_get hN hB'))⟩
 | lit u => exact (Rp1.tr (A := .lit u) hst hfr (ownIn_get hN) h).mid
 | st fr A => exact (Rp1.tr (A := .st fr A) hst hfr (ownIn_get hN) h).mid
 | own k => exact (Rp1.tr (A := .own k) hst hfr (ownIn_get hN) h).mid
 | mown k => exact (Rp1.tr (A := .mown k) hst hfr (ownIn_get hN) h).mid
 | _ => trivial
theorem Rp2.tr (hst : St c Γ g a w) {v : Value} {A : AV} (hfr : A.okR = true) (hN : A.ownIn2 N = true) (h : Rp2 w' (Oset N gN) (Av (Oset Γ.own g) c.O0 φ) gN v A) :
  Rp2 w' (Oset (trN d φ N ++ Γ.own) (mg (trN d φ N) (fun k => gN (k - d)) g)) c.O0 (mg (trN d φ N) (fun k => gN (k - d)) g) v (A.tr d φ) := by
 cases A with
 | tup l =>
  obtain ⟨f, vs, h1, h2, h3⟩ := h
  refine ⟨f, vs, h1, by rw [trML_len]; exact h2, fun i B hB => ?_⟩
  rw [trML_get] at hB
  obtain ⟨B', hB', rfl⟩ := Option.map_eq_some_iff.1 hB
  exact ⟨(h3 i B' hB').1, (h3 i B' hB').2.tr hst (frML_get hfr hB') (ownInML_get hN hB')⟩
 | fn => trivial
 | strct l => exact (RpM.tr (A := .strct l) hst hfr hN h).two
 | lit u => exact (RpM.tr (A := .lit u) hst hfr hN h).two
 | st fr A => exact (RpM.tr (A := .st fr A) hst hfr hN h).two
 | own k => exact (RpM.tr (A := .own k) hst hfr hN h).two
 | mown k => exact (RpM.tr (A := .mown k) hst hfr hN h).two
 | _ => trivial
theorem frz_mono (hst : St c Γ g a w) {v : Value} {A : SV} (h : RpS w' (Av (Oset N gN) (Av (Oset Γ.own g) c.O0 φ) true) v A) : RpS w' (Av (Oset Γ.own g) c.O0 φ) v A :=
 h.mono fun b x e fz hb hn => ⟨hb, fun h' => hn (.inr ⟨rfl, h'⟩)⟩
theorem Rp1.frz (hst : St c Γ g a w) (hN : Hp w.heap.size (Av (Oset Γ.own g) c.O0 φ) N gN w') (hok : okN N = true) {v : Value} {A : AV} (hfr : A.fr1 = true)
  (h : Rp1 w' (Oset N gN) (Av (Oset Γ.own g) c.O0 φ) gN v A) : Rp1 w' (Oset Γ.own g) c.O0 g v (A.frz1 φ N) := by
 cases A with
 | lit u => exact h
 | st fr A =>
  have : fr = true := hfr
  subst this
  exact frz_mono hst h
 | own k =>
  simp only [AV.frz1]
  split
  · rename_i e τ fr xs hk
    have hfr' : fr = true := okN_get hok hk
    subst hfr'
    have hv : v = gN k := h
    have h4 := hN.ok _ _ hk
    obtain ⟨ys, ho, _⟩ := h4
    rcases ho.2 with ⟨h3, h5⟩ | ⟨b, cap, cur, h3, h5, _⟩
    · have : xs = [] := List.eq_nil_of_length_eq_zero h5
      subst this
      rw [hv, h3]
      exact RpS.nil τ
    · obtain ⟨arr, f, h6, h7, h8, h9, h10, h11, h12⟩ := ownRow (hN.ok _ _ hk) h3
      rw [hv, h3]
      refine RpS.arr b 0 cap _ τ xs arr e (0, 0) f h6 (fun h' => ?_) rfl h8 h9 (fun i hi => ⟨(h11 i hi).1, fun j hj => by rw [Nat.zero_add]; exact (h11 i hi).2 j hj⟩) (fun i x hx => frz_mono hst (h12 i x hx))
      rcases h' with h' | ⟨_, h'⟩
      · have := (hst.hp.lt h').2; omega
      · have := (hst.o0 b h').1; have := hst.keep.size; omega
  · trivial
 | _ => trivial
theorem RpM.frz (hst : St c Γ g a w) (hN : Hp w.heap.size (Av (Oset Γ.own g) c.O0 φ) N gN w') (hok : okN N = true) {v : Value} {A : AV} (hfr : A.frM = true)
  (h : RpM w' (Oset N gN) (Av (Oset Γ.own g) c.O0 φ) gN v A) : RpM w' (Oset Γ.own g) c.O0 g v (A.frzM φ N) := by
 cases A with
 | strct l =>
  obtain ⟨f, vs, h1, h2, h3⟩ := h
  refine ⟨f, vs, h1, by rw [frzL_len]; exact h2, fun i B hB => ?_⟩
  rw [frzL_get] at hB
  obtain ⟨B', hB', rfl⟩ := Option.map_eq_some_iff.1 hB
  exact ⟨(h3 i B' hB').1, (h3 i B' hB').2.frz hst hN hok (frL_get hfr hB')⟩
 | lit u => exact (Rp1.frz (A := .lit u) hst hN hok hfr h).mid
 | st fr A => exact (Rp1.frz (A := .st fr A) hst hN hok hfr h).mid
 | own k => exact (Rp1.frz (A := .own k) hst hN hok hfr h).mid
 | _ => trivial
theorem Rp2.frz (hst : St c Γ g a w) (hN : Hp w.heap.size (Av (Oset Γ.own g) c.O0 φ) N gN w') (hok : okN N = true) {v : Value} {A : AV} (hfr : A.okR = true)
  (h : Rp2 w' (Oset N gN) (Av (Oset Γ.own g) c.O0 φ) gN v A) : Rp2 w' (Oset Γ.own g) c.O0 g v (A.frz φ N) := by
 cases A with
 | tup l =>
  obtain ⟨f, vs, h1, h2, h3⟩ := h
  refine ⟨f, vs, h1, by rw [frzML_len]; exact h2, fun i B hB => ?_⟩
  rw [frzML_get] at hB
  obtain ⟨B', hB', rfl⟩ := Option.map_eq_some_iff.1 hB
  exact ⟨(h3 i B' hB').1, (h3 i B' hB').2.frz hst hN hok (frML_get hfr hB')⟩
 | fn => trivial
 | strct l => exact (RpM.frz (A := .strct l) hst hN hok hfr h).two
 | lit u => exact (RpM.frz (A := .lit u) hst hN hok hfr h).two
 | st fr A => exact (RpM.frz (A := .st fr A) hst hN hok hfr h).two
 | own k => exact (RpM.frz (A := .own k) hst hN hok hfr h).two
 | _ => trivial
end ret
def callVC (P : Program) (own : List (Nat × Ob)) (fz : Bool) (G : Path) (d : Nat) (F : AV) (l : List AV) (K : AV → List (Nat × Ob) → Prop) : Prop := match F with
 | .fn f caps => match isPl f with
  | false => False
  | true => ∃ (al : Bool) (S : List SV) (φ : Bool) (R : AV) (N : List (Nat × Ob)), viewAll own al (l ++ caps) = some (S, φ) ∧ G.imp (FnAt P al f S R N) ∧ R.okR = true ∧ okN N = true ∧ R.ownIn2 N = true ∧
   match fz, G with
   | false, [] => K (R.tr d φ) (trN d φ N)
   | _, _ => K (R.frz φ N) []
 | _ => False
theorem FnAt.call {P : Program} {c : Cx} {o : Oper} {Γ : Sy} {G : Path} {f : Operand} {xs : Array Operand} {ts : Array TypeId} {F : Nat} {caps l : List AV} {S : List SV} {φ al : Bool} {R : AV} {N : List (Nat × Ob)}
  (ho : o.op = .call { callee := .value f, args := xs, argTypes := ts }) (hf : Ev c Γ G f (.fn F caps)) (hl : l.length = xs.toList.length)
  (hx : ∀ (i : Nat) (x : Operand) (A : AV), xs.toList[i]? = some x → l[i]? = some A → Ev c Γ G x A) (hv : viewAll Γ.own al (l ++ caps) = some (S, φ)) (hF : isPl F = true) (hG : G.ok) (hfn : FnAt P al F S R N)
  {Γ' : Sy} {g : Nat → Value} {a : Act} {w : World} {next : Act → World → Prop} {Q : Exit → Act → World → Prop}
  (hlk : ∀ x ∈ o.op.operands, look Γ' x = look Γ x) (hown : ∀ k b, get? Γ.own k = some b → get? Γ'.own k = some b) (hst : St c Γ' g a w)
  (hk : ∀ v w' gN, Keep w w' → Rp2 w' (Oset N gN) (Av (Oset Γ'.own g) c.O0 φ) gN v R → Hp w.heap.size (Av (Oset Γ'.own g) c.O0 φ) N gN w' → next (a.put o.dst v) w') : o.wp P a w next Q := by
 obtain ⟨fc, vs, h1, h2, h3⟩ := hf hG Γ' g a w (hlk f (by simp [ho, Op.operands, Call.operands])) hst
 have h1 : a.eval f = .func (.func F) #[] vs := by rw [h1]; unfold fnV; rw [hF]
 have hev : ∀ (i : Nat) (x : Operand) (A : AV), xs.toList[i]? = some x → l[i]? = some A → Rp2 w (Oset Γ'.own g) c.O0 g (a.eval x) A := fun i x A h4 h5 =>
  hx i x A h4 h5 hG Γ' g a w (hlk x (by
   have := List.mem_of_getElem? h4
   simp [ho, Op.operands, Call.operands]; exact .inr (by simpa using this))) hst
 obtain ⟨⟨fn, hfn1, hfn2, hfn3⟩, hcall⟩ := hfn
 have hargs := viewAll_ok hst hown hv (vals := xs.toList.map a.eval ++ vs.toList) (by simp [hl, h2]) (fun i v A hv' hA => by
  by_cases hi : i < l.length
  · rw [List.getElem?_append_left (by rw [List.length_map, ← hl]; exact hi)] at hv'
    rw [List.getElem?_append_left hi] at hA
    rw [List.getElem?_map] at hv'
    obtain ⟨x, hx1, rfl⟩ := Option.map_eq_some_iff.1 hv'
    exact hev i x A hx1 hA
  · rw [List.getElem?_append_right (by rw [List.length_map, ← hl]; omega)] at hv'
    rw [List.getElem?_append_right (by omega)] at hA
    have h6 := h3 _ A hA
    rw [show i - (xs.toList.map a.eval).length = i - l.length from by simp [hl]] at hv'
    have : vs[i - l.length]? = some v := by simpa using hv'
    rw [h6.1] at this
    cases this
    exact h6.2.two)
 have hc := hcall w (Av (Oset Γ'.own g) c.O0 φ) _ (fun b hb => by
  rcases hb with hb | ⟨_, hb⟩
  · exact (hst.hp.lt hb).2
  · have := (hst.o0 b hb).1; have := hst.keep.size; omega) hargs
 have harr : (xs.toList.map a.eval ++ vs.toList).toArray = xs.map a.eval ++ vs := by
  apply Array.ext'
  simp
 rw [harr] at hc
 unfold Oper.wp
 have hrun : (execOp a.eval o).run P w = .ok (.enter F (xs.map a.eval ++ vs)) w := by
  have h8 : ¬ fn.name = "runtime.NumGoroutine" := by simpa using hfn2
  have h9 : ¬ fn.body = none := fun h => by rw [h] at hfn3; cases hfn3
  simp [execOp, ho, resolve, h1, Deferred.ofValue, invoke, callFunc, hfn1, h8, h9]
 rw [hrun]
 refine hc.mono fun e w' he => ?_
 obtain ⟨r, rfl, hkeep, gN, h4, h5⟩ := he
 exact hk r w' gN hkeep h4 h5
theorem callVC.sound {P : Program} {c : Cx} {o : Oper} {Γ : Sy} {G : Path} {d : Nat} {f : Operand} {xs : Array Operand} {ts : Array TypeId} {F : AV} {l : List AV} {K : AV → List (Nat × Ob) → Prop}
  (ho : o.op = .call { callee := .value f, args := xs, argTypes := ts }) (hf : Ev c Γ G f F) (hl : l.length = xs.toList.length)
  (hx : ∀ (i : Nat) (x : Operand) (A : AV), xs.toList[i]? = some x → l[i]? = some A → Ev c Γ G x A) {fz : Bool} (h : callVC P Γ.own fz G d F l K) :
  ∃ R N, (G.ok → Does P c o Γ R N) ∧ (G ≠ [] ∨ fz = true → N = []) ∧ K R N := by
 unfold callVC at h
 split at h
 · rename_i f' caps
   split at h
   · exact h.elim
   rename_i hF
   obtain ⟨al, S, φ, R, N, hv, hfn, hR, hN, hin, hK⟩ := h
   have frz : K (R.frz φ N) [] → ∃ R N, (G.ok → Does P c o Γ R N) ∧ (G ≠ [] ∨ fz = true → N = []) ∧ K R N := by
    intro hK
    refine ⟨R.frz φ N, [], fun hG Γ' g a w next Q hlk hown hfree hst hk => ?_, fun _ => rfl, hK⟩
    refine FnAt.call ho hf hl hx hv hF hG (Path.imp_ok hfn hG) hlk hown hst fun v w' gN hkeep h1 h2 => ?_
    exact hk g v w' (hst.keepW hkeep) (h1.frz hst h2 hN hR)
   cases fz with
   | true => exact frz hK
   | false =>
    cases G with
    | nil =>
     refine ⟨R.tr d φ, trN d φ N, fun hG Γ' g a w next Q hlk hown hfree hst hk => ?_, fun h => by simp at h, hK⟩
     refine FnAt.call ho hf hl hx hv hF hG (Path.imp_ok hfn hG) hlk hown hst fun v w' gN hkeep h1 h2 => ?_
     exact hk _ v w' (hst.ret hkeep h2 hN hfree) (h1.tr hst hR hin)
    | cons x G => exact frz hK
 · exact h.elim
def Src (Γ : Sy) (x : Operand) (A : AV) : Prop := look Γ x = some A ∨ ∃ p, look Γ x = some (.gd p A)
theorem withOp.ev2 {c : Cx} {Γ : Sy} {G : Path} {x : Operand} {K : AV → Prop} (h : withOp Γ G x K) : ∃ A, (Ev c Γ G x A ∧ Src Γ x A) ∧ K A := by
 unfold withOp at h
 cases hl : look Γ x with
 | none => rw [hl] at h; exact h.elim
 | some A =>
  rw [hl] at h
  cases A with
  | gd p A =>
   obtain ⟨h1, h2⟩ := h
   refine ⟨A, ⟨fun hG Γ' g a w hx hst => ?_, .inr ⟨p, hl⟩⟩, h2⟩
   rw [hl] at hx
   exact (hst.look hx).1 (h1 ▸ Path.ok_drop _ hG)
  | _ => exact ⟨_, ⟨fun hG Γ' g a w hx hst => by rw [hl] at hx; exact hst.look hx, .inl hl⟩, h⟩
theorem Src.nokey {Γ Γ' : Sy} {x : Operand} {A : AV} {k : Nat} (h : Src Γ x A) (hl : look Γ' x = look Γ x) (hf : Γ'.free k) : A.key2 k = false := by
 have key : ∀ B, look Γ' x = some B → B.hasKey k = false := by
  intro B hB
  cases x with
  | tmp t => exact hf.1 t B hB
  | const v =>
   simp only [look] at hB
   split at hB
   · cases hB; rfl
   · cases hB
  | func f =>
   simp only [look] at hB
   split at hB
   · cases hB; rfl
   · cases hB
  | global => cases hB
 rcases h with h | ⟨p, h⟩
 · have := key A (hl.trans h)
   cases A <;> first | exact this | rfl
 · exact key _ (hl.trans h)
theorem Does.new {P : Program} {c : Cx} {o : Oper} {Γ : Sy} {G : Path} {d : Nat} {ob : Ob} {A : AV}
  (h : G.ok → ∀ (Γ' : Sy) (g : Nat → Value) (a : Act) (w : World), (∀ x ∈ o.op.operands, look Γ' x = look Γ x) → (∀ k b, get? Γ.own k = some b → get? Γ'.own k = some b) → Γ'.free d → St c Γ' g a w →
   ∃ v w', (execOp a.eval o).run P w = .ok (.value v) w' ∧ Keep w w' ∧ blk v = some w.heap.size ∧
     OwnOk w' 0 (Oset ([(d, ob)] ++ Γ'.own) (mg [(d, ob)] (fun _ => v) g)) c.O0 (mg [(d, ob)] (fun _ => v) g) v ob ∧
     (A = .own d ∨ (A = .padr d 0 ∧ ∃ b, v = .pointer (some ⟨b, 0, none⟩)))) : G.ok → Does P c o Γ A [(d, ob)] := by
 intro hG Γ' g a w next Q hl hown hfree hst hk
 have hf := hfree d ob (by simp [get?])
 obtain ⟨v, w', h1, h2, h3, h4, h5⟩ := h hG Γ' g a w hl hown hf hst
 have one : ∀ k b, get? [(d, ob)] k = some b → k = d ∧ b = ob := by
  intro k b hkb
  simp only [get?] at hkb
  split at hkb
  · rename_i hb; cases hkb; exact ⟨(Nat.eq_of_beq_eq_true hb).symm, rfl⟩
  · cases hkb
 unfold Oper.wp
 rw [h1]
 refine hk _ v w' (hst.adopt (gN := fun _ => v) h2 hfree (fun k b bb hk1 hk2 => ?_) (fun k k' b b' bb hk1 hk2 _ _ => ?_) (fun k b hk1 => ?_)) ?_
 · have := (Blk.single h3).1 hk2; omega
 · rw [(one k b hk1).1, (one k' b' hk2).1]
 · rw [(one k b hk1).2]; exact h4
 · have hm : mg [(d, ob)] (fun _ => v) g d = v := by simp [mg, get?]
   rcases h5 with rfl | ⟨rfl, b, rfl⟩
   · exact hm.symm
   · exact ⟨b, hm, rfl⟩
theorem fresh1 (A : AV) : ∃ B, ∀ k, B ≤ k → A.key1 k = false := by
 have nb : ∀ k' k : Nat, k' + 1 ≤ k → Nat.beq k' k = false := fun k' k h => by
  cases hb : Nat.beq k' k with
  | false => rfl
  | true => have := Nat.eq_of_beq_eq_true hb; omega
 cases A with
 | own k' => exact ⟨k' + 1, fun k h => nb k' k h⟩
 | oadr k' _ _ _ => exact ⟨k' + 1, fun k h => nb k' k h⟩
 | padr k' _ => exact ⟨k' + 1, fun k h => nb k' k h⟩
 | mown k' => exact ⟨k' + 1, fun k h => nb k' k h⟩
 | madr k' _ => exact ⟨k' + 1, fun k h => nb k' k h⟩
 | inn k' _ => exact ⟨k' + 1, fun k h => nb k' k h⟩
 | iadr k' _ _ _ _ => exact ⟨k' + 1, fun k h => nb k' k h⟩
 | qadr k' _ => exact ⟨k' + 1, fun k h => nb k' k h⟩
 | ocut k' _ _ => exact ⟨k' + 1, fun k h => nb k' k h⟩
 | _ => exact ⟨0, fun k _ => rfl⟩
theorem freshL : ∀ l : List AV, ∃ B, ∀ k, B ≤ k → anyKey k l = false
 | [] => ⟨0, fun _ _ => rfl⟩
 | A :: r => by
  obtain ⟨B, h⟩ := fresh1 A
  obtain ⟨C, h'⟩ := freshL r
  exact ⟨max B C, fun k hk => by simp [anyKey, h k (by omega), h' k (by omega)]⟩
theorem freshM (A : AV) : ∃ B, ∀ k, B ≤ k → A.keyM k = false := by
 obtain ⟨B, h⟩ := fresh1 A
 cases A with
 | strct l => exact freshL l
 | _ => exact ⟨B, h⟩
theorem freshML : ∀ l : List AV, ∃ B, ∀ k, B ≤ k → anyKeyM k l = false
 | [] => ⟨0, fun _ _ => rfl⟩
 | A :: r => by
  obtain ⟨B, h⟩ := freshM A
  obtain ⟨C, h'⟩ := freshML r
  exact ⟨max B C, fun k hk => by simp [anyKeyM, h k (by omega), h' k (by omega)]⟩
theorem fresh2 (A : AV) : ∃ B, ∀ k, B ≤ k → A.key2 k = false := by
 obtain ⟨B, h⟩ := freshM A
 cases A with
 | tup l => exact freshML l
 | fn f l => exact freshL l
 | _ => exact ⟨B, h⟩
theorem freshA (A : AV) : ∃ B, ∀ k, B ≤ k → A.hasKey k = false := by
 obtain ⟨B, h⟩ := fresh2 A
 cases A with
 | gd p A => exact fresh2 A
 | _ => exact ⟨B, h⟩
theorem fresh2L : ∀ l : List AV, ∃ B, ∀ k, B ≤ k → anyKey2 k l = false
 | [] => ⟨0, fun _ _ => rfl⟩
 | A :: r => by
  obtain ⟨B, h⟩ := fresh2 A
  obtain ⟨C, h'⟩ := fresh2L r
  exact ⟨max B C, fun k hk => by simp [anyKey2, h k (by omega), h' k (by omega)]⟩
theorem freshO (o : Ob) : ∃ B, ∀ k, B ≤ k → o.hasKey k = false := by
  cases o with
  | row e t fr xs => exact ⟨0, fun _ _ => rfl⟩
  | mat => exact ⟨0, fun _ _ => rfl⟩
  | box l => exact fresh2L l
  | box1 A => exact fresh2 A
  | mp => exact ⟨0, fun _ _ => rfl⟩
  | que => exact ⟨0, fun _ _ => rfl⟩
  | sit => exact ⟨0, fun _ _ => rfl⟩
  | mps => exact ⟨0, fun _ _ => rfl⟩
  | mit km st => exact ⟨km + 1, fun k hk => by cases h : Nat.beq km k with
      | true => have := Nat.eq_of_beq_eq_true h; omega
      | false => exact h⟩
  | gone => exact ⟨0, fun _ _ => rfl⟩
theorem freshT {α : Type} (f : Nat → α → Bool) (h : ∀ A, ∃ B, ∀ k, B ≤ k → f k A = false) : ∀ l : List (Nat × α), ∃ B, ∀ k, B ≤ k → (∀ t A, get? l t = some A → f k A = false) ∧ (∀ t A, get? l t = some A → t < B)
 | [] => ⟨0, fun _ _ => ⟨fun t A h => by (cases h), fun t A h => by (cases h)⟩⟩
 | (t', A') :: r => by
  obtain ⟨B, h1⟩ := h A'
  obtain ⟨C, h2⟩ := freshT f h r
  refine ⟨max (max B C) (t' + 1), fun k hk => ⟨fun t A hA => ?_, fun t A hA => ?_⟩⟩
  · simp only [get?] at hA
    split at hA
    · cases hA; exact h1 k (by omega)
    · exact (h2 k (by omega)).1 t A hA
  · simp only [get?] at hA
    split at hA
    · rename_i hb; have := Nat.eq_of_beq_eq_true hb; omega
    · have := (h2 k (by omega)).2 t A hA; omega
theorem fresh (Γ : Sy) : ∃ d, Γ.free d := by
 obtain ⟨B, h1⟩ := freshT (fun k A => A.hasKey k) freshA Γ.tmps
 obtain ⟨C, h2⟩ := freshT (fun k A => A.hasKey k) freshO Γ.own
 have hle : max B C ≤ PK2 * max B C := Nat.le_mul_of_pos_left _ (by decide)
 refine ⟨PK2 * max B C, (h1 _ (by omega)).1, (h2 _ (by omega)).1, ?_, by rw [Nat.mul_mod_right]; decide⟩
 cases hg : get? Γ.own (PK2 * max B C) with
 | none => rfl
 | some o => have := (h2 (PK2 * max B C) (by omega)).2 _ _ hg; omega
theorem Does.newF {P : Program} {c : Cx} {o : Oper} {Γ : Sy} {G : Path} {e : TypeId} {τ : Ty} {fr : Bool} {xs : List τ.T}
  (h : G.ok → ∀ (d : Nat) (Γ' : Sy) (g : Nat → Value) (a : Act) (w : World), (∀ x ∈ o.op.operands, look Γ' x = look Γ x) → (∀ k b, get? Γ.own k = some b → get? Γ'.own k = some b) → St c Γ' g a w →
   ∃ v w', (execOp a.eval o).run P w = .ok (.value v) w' ∧ Keep w w' ∧ blk v = some w.heap.size ∧
     OwnOk w' 0 (Oset ([(d, .row e τ fr xs)] ++ Γ'.own) (mg [(d, .row e τ fr xs)] (fun _ => v) g)) c.O0 (mg [(d, .row e τ fr xs)] (fun _ => v) g) v (.row e τ fr xs)) : G.ok → Does P c o Γ (.st fr (.arr τ xs)) [] := by
 intro hG Γ' g a w next Q hl hown _ hst hk
 obtain ⟨d, hf⟩ := fresh Γ'
 obtain ⟨v, w', h1, h2, h3, h4⟩ := h hG d Γ' g a w hl hown hst
 unfold Oper.wp
 rw [h1]
 refine hk g v w' (hst.keepW h2) ?_
 show RpS w' (Av (Oset Γ'.own g) c.O0 fr) v (.arr τ xs)
 have hsub : ∀ b, Oset Γ'.own g b → Oset ([(d, Ob.row e τ fr xs)] ++ Γ'.own) (mg [(d, .row e τ fr xs)] (fun _ => v) g) b := by
  rintro b ⟨k, o', h5, h6⟩
  have hkd : k ≠ d := fun e => by subst e; rw [hf.2.2.1] at h5; cases h5
  have hn : get? [(d, Ob.row e τ fr xs)] k = none := by
   simp only [get?]
   have : Nat.beq d k = false := by
    cases hb : Nat.beq d k with
    | false => rfl
    | true => exact absurd (Nat.eq_of_beq_eq_true hb).symm hkd
   simp [this]
  exact ⟨k, o', by rw [get?_append, hn]; exact h5, by rw [mg_none hn]; exact h6⟩
 have h4' := h4
 obtain ⟨ys, ho, _⟩ := h4
 rcases ho.2 with ⟨h5, h6⟩ | ⟨b, cap, cur, h5, _⟩
 · rw [h5] at h3; cases h3
 · obtain ⟨arr, f, h6, h7, h8, h9, h10, h11, h12⟩ := ownRow h4' h5
   have hb : b = w.heap.size := by rw [h5] at h3; cases h3; rfl
   rw [h5]
   refine RpS.arr b 0 cap _ τ xs arr e (0, 0) f h6 (fun h' => ?_) rfl h8 h9 (fun i hi => ⟨(h11 i hi).1, fun j hj => by rw [Nat.zero_add]; exact (h11 i hi).2 j hj⟩) (fun i x hx => RpS.mono (fun b c e fz hb hn => ⟨hb, fun h' => hn ?_⟩) (h12 i x hx))
   · rcases h' with h' | ⟨_, h'⟩
     · have := (hst.hp.lt h').2; omega
     · have := (hst.o0 b h').1; have := hst.keep.size; omega
   · rcases h' with h' | h'
     · exact .inl (hsub _ h')
     · exact .inr h'
def upL (fr : Bool) : List SV → List AV
 | [] => []
 | A :: r => up fr A :: upL fr r
theorem upL_get {fr : Bool} : ∀ {l : List SV} {i : Nat}, (upL fr l)[i]? = (l[i]?).map (up fr)
 | [], i => by simp [upL]
 | A :: r, i => by
  cases i with
  | zero => simp [upL]
  | succ i => simp [upL, upL_get (l := r) (i := i)]
theorem upL_len {fr : Bool} : ∀ {l : List SV}, (upL fr l).length = l.length
 | [] => rfl
 | A :: r => by simp [upL, upL_len (l := r)]
def leaves : AV → List AV
 | .strct l => l
 | .st fr (.agg l) => upL fr l
 | A => [A]
def isStrct : AV → Bool
 | .strct _ => true
 | .st _ (.agg _) => true
 | _ => false
def isTup : AV → Bool
 | .tup _ => true
 | .any => true
 | .gd _ _ => true
 | _ => false
theorem up_key {k : Nat} {fr : Bool} {A : SV} : (up fr A).key2 k = false := by cases A <;> rfl
theorem up_one {w : World} {O O0 : Nat → Prop} {g : Nat → Value} {fr : Bool} {x : Value} {A : SV} (h : RpS w (Av O O0 fr) x A) : Rp1 w O O0 g x (up fr A) := by
 cases A with
 | lit u => cases h with | lit _ h => exact ⟨rfl, h⟩
 | _ => exact h
theorem lv1_key {k : Nat} : ∀ {l : List AV} {i : Nat} {B : AV}, lv1 l = true → l[i]? = some B → B.key2 k = true → anyKey k l = true
 | [], i, B, _, h, _ => by simp at h
 | A :: r, i, B, hl, h, hk => by
  cases i with
  | zero =>
   simp at h
   subst h
   have : A.key1 k = true := by cases A <;> first | exact hk | cases hl
   simp [anyKey, this]
  | succ i => simp [anyKey, lv1_key (l := r) (i := i) (B := B) (by cases A <;> first | exact hl | cases hl) (by simpa using h) hk]
theorem RpS.one {w : World} {O : Nat → Prop} {v : Value} {B : SV} (h : RpS w O v B) (hB : B.isAgg = false) : v.oneCell' = true := by
 induction h with
 | lit v h => exact h
 | agg => cases hB
 | narr _ _ _ _ _ ih => exact ih rfl
 | _ => rfl
def boxVC (own : List (Nat × Ob)) (G : Path) (d : Nat) (A : AV) (K : AV → List (Nat × Ob) → Prop) : Prop := match G with
 | [] => match A with
  | .strct l => (lv1 l && !(mk2 l)) = true ∧ K (.padr d 0) [(d, .box l)]
  | .st fr (.agg l) => match mk2 (upL fr l) with
   | true => False
   | false => K (.padr d 0) [(d, .box (upL fr l))]
  | .tup _ => False
  | .any => False
  | .gd _ _ => False
  | .own k => match get? own k with
   | some (.row _ _ _ _) => K (.padr d 0) [(d, .box1 (.own k))]
   | _ => False
  | .mown k => match get? own k with
   | some (.mat _ _ _ _ _ _) => K (.padr d 0) [(d, .box1 (.mown k))]
   | _ => False
  | .madr _ _ => False
  | .inn _ _ => False
  | .iadr _ _ _ _ _ => False
  | .qadr _ _ => False
  | .ocut _ _ _ => False
  | A => K (.padr d 0) [(d, .box1 A)]
 | _ => False
theorem Hp.new_mono {base : Nat} {O0 : Nat → Prop} {own : List (Nat × Ob)} {g : Nat → Value} {w : World} (hp : Hp base O0 own g w) {o : Obj} {d : Nat} {ob : Ob} {v : Value} (hv : blk v = some w.heap.size) :
  ∀ b x e fz, w.heap[b]? = some (.cells x e fz) → ¬ Oset own g b → (w.alloc o).heap[b]? = some (.cells x e fz) ∧ ¬ Oset ([(d, ob)] ++ own) (mg [(d, ob)] (fun _ => v) g) b := by
 intro b x e fz hb hn
 refine ⟨((Keep.alloc w o).b b (heap_lt hb)).trans hb, ?_⟩
 rintro ⟨k, o', h1, h2⟩
 rw [get?_append] at h1
 cases hk : get? [(d, ob)] k with
 | some o'' =>
  rw [mg_some hk] at h2
  have := (Blk.single hv).1 h2
  exact absurd (heap_lt hb) (by omega)
 | none =>
  rw [hk] at h1
  rw [mg_none hk] at h2
  exact hn ⟨k, o', h1, h2⟩
theorem boxVC.sound {P : Program} {c : Cx} {o : Oper} {Γ : Sy} {G : Path} {d : Nat} {t : TypeId} {x : Operand} {A : AV} {K : AV → List (Nat × Ob) → Prop} (ho : o.op = .box t x) (hx : Ev c Γ G x A ∧ Src Γ x A)
    (h : boxVC Γ.own G d A K) : ∃ R N, (G.ok → Does P c o Γ R N) ∧ (G ≠ [] → N = []) ∧ K R N := by
  cases G with
  | cons _ _ => exact h.elim
  | nil =>
    have go : ∀ ob : Ob, (∀ (Γ' : Sy) (g : Nat → Value) (a : Act) (w : World), look Γ' x = look Γ x → (∀ k b, get? Γ.own k = some b → get? Γ'.own k = some b) → Γ'.free d → St c Γ' g a w → Rp2 w (Oset Γ'.own g) c.O0 g (a.eval x) A →
        OwnOk (w.alloc (.cells (a.eval x).cells t)) 0 (Oset ([(d, ob)] ++ Γ'.own) (mg [(d, ob)] (fun _ => .pointer (some ⟨w.heap.size, 0, none⟩)) g)) c.O0
          (mg [(d, ob)] (fun _ => .pointer (some ⟨w.heap.size, 0, none⟩)) g) (.pointer (some ⟨w.heap.size, 0, none⟩)) ob) → (Path.ok [] → Does P c o Γ (.padr d 0) [(d, ob)]) := by
      intro ob hob
      refine Does.new fun hG Γ' g a w hl hown hf hst => ⟨.pointer (some ⟨w.heap.size, 0, none⟩), w.alloc (.cells (a.eval x).cells t), ?_, Keep.alloc w _, rfl, ?_, .inr ⟨rfl, _, rfl⟩⟩
      · simp [execOp, ho, Instr.box, newVar, newRow]
      · exact hob Γ' g a w (hl x (by simp [ho, Op.operands])) hown hf hst (hx.1 hG Γ' g a w (hl x (by simp [ho, Op.operands])) hst)
    have big : ∀ l : List AV, mk2 l = false → (∀ (Γ' : Sy) (g : Nat → Value) (a : Act) (w : World), look Γ' x = look Γ x → Γ'.free d → St c Γ' g a w → Rp2 w (Oset Γ'.own g) c.O0 g (a.eval x) A →
        (a.eval x).cells.size = l.length ∧ ∀ (i : Nat) (B : AV), l[i]? = some B → ∃ y, (a.eval x).cells[i]? = some y ∧ y.oneCell' = true ∧ Rp2 w (Oset Γ'.own g) c.O0 g y B ∧ B.key2 d = false) →
        (Path.ok [] → Does P c o Γ (.padr d 0) [(d, .box l)]) := by
      intro l hmk hl
      refine go _ fun Γ' g a w hlk hown hf hst hr => ?_
      obtain ⟨h1, h2⟩ := hl Γ' g a w hlk hf hst hr
      refine ⟨_, _, ⟨t, fun hm => by rw [hmk] at hm; cases hm⟩, rfl, Nat.zero_le _, heap_alloc_new w _, h1, fun i B hB => ?_⟩
      obtain ⟨y, h3, h4, h5, h6⟩ := h2 i B hB
      refine ⟨y, h3, h4, h5.mono (hst.hp.new_mono rfl) (fun _ _ _ _ _ _ h => h) (fun k hk => ?_)⟩
      by_cases e : k = d
      · subst e; rw [h6] at hk; cases hk
      · exact mg_none (by simp only [get?]; have : Nat.beq d k = false := by
                            cases hb : Nat.beq d k with
                            | false => rfl
                            | true => exact absurd (Nat.eq_of_beq_eq_true hb).symm e
                          simp [this])
    have small : A.key2 d = A.key2 d → isStrct A = false → isTup A = false → (∀ (Γ' : Sy) (w : World) (a : Act) g v, (∀ k b, get? Γ.own k = some b → get? Γ'.own k = some b) → St c Γ' g a w → Rp2 w (Oset Γ'.own g) c.O0 g v A → v.oneCell' = true) → (Path.ok [] → Does P c o Γ (.padr d 0) [(d, .box1 A)]) := by
      intro _ _ _ hone
      refine go _ fun Γ' g a w hlk hown hf hst hr => ?_
      have hv := hone _ _ _ _ _ hown hst hr
      have hc : (a.eval x).cells = #[a.eval x] := by cases hv' : a.eval x <;> rw [hv'] at hv <;> first | rfl | cases hv
      refine ⟨_, a.eval x, t, rfl, Nat.zero_le _, by rw [← hc]; exact heap_alloc_new w _, hv, hr.mono (hst.hp.new_mono rfl) (fun _ _ _ _ _ _ h => h) (fun k hk => ?_)⟩
      by_cases e : k = d
      · subst e
        rw [hx.2.nokey hlk hf] at hk; cases hk
      · exact mg_none (by simp only [get?]; have : Nat.beq d k = false := by
                            cases hb : Nat.beq d k with
                            | false => rfl
                            | true => exact absurd (Nat.eq_of_beq_eq_true hb).symm e
                          simp [this])
    cases A with
    | strct l =>
      have h0 := h.1
      rw [Bool.and_eq_true] at h0
      refine ⟨_, _, big l (by simpa using h0.2) fun Γ' g a w hlk hf hst hr => ?_, fun h => absurd rfl h, h.2⟩
      obtain ⟨f, vs, h1, h2, h3⟩ := hr
      rw [h1]
      refine ⟨h2, fun i B hB => ⟨f i, (h3 i B hB).1.1, (h3 i B hB).1.2, (h3 i B hB).2.two, ?_⟩⟩
      cases hk : B.key2 d with
      | false => rfl
      | true =>
        have h4 := lv1_key h0.1 hB hk
        have h5 := hx.2.nokey hlk hf
        simp only [AV.key2, AV.keyM] at h5
        rw [h4] at h5; cases h5
    | st fr S =>
      cases S with
      | agg l =>
        simp only [boxVC] at h
        split at h
        · exact h.elim
        rename_i hmk
        refine ⟨_, _, big (upL fr l) hmk fun Γ' g a w hlk hf hst hr => ?_, fun h => absurd rfl h, h⟩
        have hr' : RpS w (Av (Oset Γ'.own g) c.O0 fr) (a.eval x) (.agg l) := hr
        obtain ⟨cs, h1, h2, h3⟩ := hr'.aggc
        rw [h1]
        refine ⟨by rw [upL_len]; exact h2, fun i B hB => ?_⟩
        rw [upL_get] at hB
        obtain ⟨C, hC, rfl⟩ := Option.map_eq_some_iff.1 hB
        obtain ⟨y, h4, h5, h6⟩ := h3 i C hC
        exact ⟨y, h4, h5, h6.up, up_key⟩
      | _ =>
        refine ⟨_, _, small rfl rfl rfl fun Γ' w a g v hown hst hr => ?_, fun h => absurd rfl h, h⟩
        exact RpS.one hr rfl
    | lit u => exact ⟨_, _, small rfl rfl rfl fun Γ' w a g v hown hst hr => by rw [hr.1]; exact hr.2, fun h => absurd rfl h, h⟩
    | fn f caps => exact ⟨_, _, small rfl rfl rfl fun Γ' w a g v hown hst hr => by obtain ⟨_, _, rfl, _⟩ := hr; unfold fnV; split <;> rfl, fun h => absurd rfl h, h⟩
    | oadr k es i j => exact ⟨_, _, small rfl rfl rfl fun Γ' w a g v hown hst hr => by obtain ⟨_, _, _, _, rfl⟩ := hr; rfl, fun h => absurd rfl h, h⟩
    | padr k j => exact ⟨_, _, small rfl rfl rfl fun Γ' w a g v hown hst hr => by obtain ⟨_, _, rfl⟩ := hr; rfl, fun h => absurd rfl h, h⟩
    | own k =>
      simp only [boxVC] at h
      split at h
      · rename_i e τ fr xs hk
        refine ⟨_, _, small rfl rfl rfl fun Γ' w a g v hown hst hr => ?_, fun h => absurd rfl h, h⟩
        obtain ⟨ys, hw, _⟩ := hst.hp.ok k _ (hown k _ hk)
        have hv : v = g k := hr
        rw [hv]
        rcases hw.2 with ⟨h1, _⟩ | ⟨_, _, _, h1, _⟩ <;> rw [h1] <;> rfl
      · exact h.elim
    | mown k =>
      simp only [boxVC] at h
      split at h
      · rename_i e e' τ fr xs st hk
        refine ⟨_, _, small rfl rfl rfl fun Γ' w a g v hown hst hr => ?_, fun h => absurd rfl h, h⟩
        obtain ⟨⟨ys, hw, _⟩, _⟩ := hst.hp.ok k _ (hown k _ hk)
        have hv : v = hd (g k) := hr
        rw [hv]
        rcases hw.2 with ⟨h1, _⟩ | ⟨_, _, _, h1, _⟩ <;> rw [h1] <;> rfl
      · exact h.elim
    | _ => exact h.elim
def okCaps : List AV → Bool
 | [] => true
 | .tup _ :: _ => false
 | .strct _ :: _ => false
 | .fn _ _ :: _ => false
 | .gd _ _ :: _ => false
 | _ :: r => okCaps r
theorem okCaps_get {w : World} {O O0 : Nat → Prop} {g : Nat → Value} {x : Value} : ∀ {l : List AV} {i : Nat} {B : AV}, okCaps l = true → l[i]? = some B → Rp2 w O O0 g x B → Rp1 w O O0 g x B
 | [], _, _, _, h, _ => by simp at h
 | A :: r, 0, B, hl, h, hr => by
  simp at h
  subst h
  cases A <;> first | exact hr | cases hl
 | A :: r, i + 1, B, hl, h, hr => okCaps_get (l := r) (i := i) (by cases A <;> first | exact hl | cases hl) (by simpa using h) hr
theorem fnV_bound {m f : Nat} {vs : Array Value} (h : m = f + 1000000) : fnV m vs = .func (.func f) vs #[] := by
 have h1 : isPl m = false := by
  unfold isPl
  rw [Bool.eq_false_iff, ne_eq, Nat.blt_eq]
  omega
 have h2 : unB m = f := by unfold unB; omega
 unfold fnV
 rw [h1, h2]
theorem makeFunc.sound {P : Program} {c : Cx} {o : Oper} {Γ : Sy} {G : Path} {f : Nat} {xs : Array Operand} {l : List AV} (ho : o.op = .makeFunc (.func f) #[] xs) (hl : l.length = xs.toList.length)
  (hx : ∀ (i : Nat) (x : Operand) (A : AV), xs.toList[i]? = some x → l[i]? = some A → Ev c Γ G x A) (hok : okCaps l = true) (hF : isPl f = true) : G.ok → Does P c o Γ (.fn f l) [] := by
 intro hG
 refine Does.value fun Γ' g a w hlk _ hst => ⟨.func (.func f) #[] (xs.map a.eval), by simp [execOp, ho, Instr.makeFunc], ?_⟩
 refine ⟨fun i => (xs.map a.eval).getD i undef, xs.map a.eval, (by unfold fnV; rw [hF]), by simp [hl], fun i B hB => ?_⟩
 have hi : i < xs.toList.length := by rw [← hl]; exact (List.getElem?_eq_some_iff.1 hB).1
 have hi' : i < xs.size := by simpa using hi
 have h1 := hx i xs[i] B (by simp [hi']) hB hG Γ' g a w (hlk _ (by simp [ho, Op.operands])) hst
 have h2 : (xs.map a.eval)[i]? = some (a.eval xs[i]) := by simp [hi']
 simp only [Array.getD_eq_getD_getElem?, h2, Option.getD_some]
 exact ⟨trivial, okCaps_get hok hB h1⟩
theorem makeBound.sound {P : Program} {c : Cx} {o : Oper} {Γ : Sy} {G : Path} {f : Nat} {xs : Array Operand} {l : List AV} (ho : o.op = .makeFunc (.func f) xs #[]) (hl : l.length = xs.toList.length)
  (hx : ∀ (i : Nat) (x : Operand) (A : AV), xs.toList[i]? = some x → l[i]? = some A → Ev c Γ G x A) (hok : okCaps l = true)  : G.ok → Does P c o Γ (.fn (f + 1000000) l) [] := by
 intro hG
 refine Does.value fun Γ' g a w hlk _ hst => ⟨.func (.func f) (xs.map a.eval) #[], by simp [execOp, ho, Instr.makeFunc], ?_⟩
 refine ⟨fun i => (xs.map a.eval).getD i undef, xs.map a.eval, (fnV_bound rfl).symm, by simp [hl], fun i B hB => ?_⟩
 have hi : i < xs.toList.length := by rw [← hl]; exact (List.getElem?_eq_some_iff.1 hB).1
 have hi' : i < xs.size := by simpa using hi
 have h1 := hx i xs[i] B (by simp [hi']) hB hG Γ' g a w (hlk _ (by simp [ho, Op.operands])) hst
 have h2 : (xs.map a.eval)[i]? = some (a.eval xs[i]) := by simp [hi']
 simp only [Array.getD_eq_getD_getElem?, h2, Option.getD_some]
 exact ⟨trivial, okCaps_get hok hB h1⟩
def nilVC (A : AV) (K : AV → Prop) : Prop := match A with
 | .padr k j => K (.padr k j)
 | .st fr (.sadr B) => K (.st fr (.sadr B))
 | .oadr k es i j => K (.oadr k es i j)
 | .fn f l => K (.fn f l)
 | _ => False
theorem nilVC.any {P : Program} {c : Cx} {o : Oper} {Γ : Sy} {G : Path} {x : Operand} {A : AV} {K : AV → Prop} (ho : o.op = .nilCheck x) (hx : Ev c Γ G x A) (h : nilVC A K) : ∃ R, (G.ok → Still0 P c o Γ R) ∧ K R := by
 have fin : (∀ Γ' g a w, St c Γ' g a w → Rp2 w (Oset Γ'.own g) c.O0 g (a.eval x) A → ((∃ p, a.eval x = .pointer (some p)) ∨ ∃ f bs cs, a.eval x = .func (.func f) bs cs)) → (G.ok → Still0 P c o Γ A) := by
  intro hp hG Γ' g a w hl _ hst
  have h1 := hx hG Γ' g a w (hl x (by simp [ho, Op.operands])) hst
  refine ⟨_, fun w' => ?_, h1⟩
  rcases hp Γ' g a w hst h1 with ⟨p, hv⟩ | ⟨f, bs, cs, hv⟩ <;> simp [execOp, ho, hv] <;> rfl
 unfold nilVC at h
 split at h
 · exact ⟨_, fin fun Γ' g a w hst h1 => by obtain ⟨b, _, h2⟩ := h1; exact .inl ⟨_, h2⟩, h⟩
 · rename_i fr B
   refine ⟨_, fin fun Γ' g a w hst h1 => ?_, h⟩
   have h1' : RpS w (Av (Oset Γ'.own g) c.O0 fr) (a.eval x) (.sadr B) := h1
   generalize a.eval x = v at h1'
   cases h1' with | sadr b off => exact .inl ⟨_, rfl⟩
 · exact ⟨_, fin fun Γ' g a w hst h1 => by obtain ⟨b, _, _, _, h2⟩ := h1; exact .inl ⟨_, h2⟩, h⟩
 · exact ⟨_, fin fun Γ' g a w hst h1 => by obtain ⟨_, vs, h2, _⟩ := h1; unfold fnV at h2; split at h2 <;> exact .inr ⟨_, _, _, h2⟩, h⟩
 · exact h.elim
theorem nilVC.sound {P : Program} {c : Cx} {o : Oper} {Γ : Sy} {G : Path} {x : Operand} {A : AV} {K : AV → Prop} (ho : o.op = .nilCheck x) (hx : Ev c Γ G x A) (h : nilVC A K) : ∃ R, (G.ok → Does P c o Γ R []) ∧ K R := by
 obtain ⟨R, h1, h2⟩ := nilVC.any (P := P) ho hx h
 exact ⟨R, fun hG => (h1 hG).does, h2⟩
def litInts : List SV → Option (List Int)
 | [] => some []
 | .lit (.int .i64 n) :: r => match litInts r with
  | some l => some (n :: l)
  | none => none
 | _ => none
def bound (Γ : Sy) (G : Path) (x : Option Operand) (n : Int) (K : Int → Prop) : Prop := match x with
 | none => K n
 | some x => withOp Γ G x fun A => match A with
  | .lit (.int _ i) => K i
  | _ => False
def cutVC (T : List (Nat × TE)) (Γ : Sy) (G : Path) (t : TypeId) (A : AV) (lo hi mx : Option Operand) (K : AV → Prop) : Prop := match mx with
 | some _ => False
 | none => match get? T t with
  | some { kind := .sl e, .. } => match get? T e with
   | some te => match A with
    | .st fr (.arr τ xs) => te.size = τ.size ∧ bound Γ G lo 0 fun l => bound Γ G hi xs.length fun h => G.imp (0 ≤ l ∧ l ≤ h ∧ h ≤ xs.length) ∧ K (.st fr (.arr τ ((xs.take h.toNat).drop l.toNat)))
    | .own k => match get? Γ.own k with
     | some (.row _ τ _ xs) => (te.size = 1 ∧ τ.leaf = true) ∧ bound Γ G lo 0 fun l => bound Γ G hi xs.length fun h => G.imp (0 ≤ l ∧ l ≤ h ∧ h ≤ xs.length ∧ 0 < xs.length) ∧ K (.ocut k l.toNat h.toNat)
     | _ => False
    | _ => False
   | none => False
  | some { kind := .arr n e, .. } => match get? T e, lo, hi with
   | some te, none, none => match A with
    | .st fr (.sadr (.agg l)) => match litInts l with
     | some xs => (Nat.beq te.size 1 && Nat.beq l.length n && Nat.ble n 1000) = true ∧ K (.st fr (.arr (.int .i64) xs))
     | none => False
    | _ => False
   | _, _, _ => False
  | _ => False
theorem bound.ev {c : Cx} {Γ : Sy} {G : Path} {x : Option Operand} {n : Int} {K : Int → Prop} (h : bound Γ G x n K) : ∃ i, K i ∧ (match x with | none => i = n | some x => ∃ k, Ev c Γ G x (.lit (.int k i))) := by
 unfold bound at h
 split at h
 · exact ⟨n, h, rfl⟩
 · obtain ⟨A, h1, h2⟩ := withOp.ev (c := c) h
   split at h2
   · rename_i k i; exact ⟨i, h2, k, h1⟩
   · exact h2.elim
theorem run_cut {P : Program} {t e : TypeId} {te : TE} (hu : P.underlying t = some (.slice e)) (he : te.ok P e) {w : World} {ad : Option Addr} {n cp : Nat} {l h : Int} (h0 : 0 ≤ l) (h1 : l ≤ h) (h2 : h ≤ n) (hn : n ≤ cp) {lo hi : Option Value}
  (hlo : (lo = none ∧ l = 0) ∨ ∃ k, lo = some (.int k l)) (hhi : (hi = none ∧ h = n) ∨ ∃ k, hi = some (.int k h)) :
  (Instr.sliceAt t (.slice ad n cp) lo hi none).run P w = .ok (.slice (if cp = l.toNat then ad else ad.map (·.add (l.toNat * te.size))) (h.toNat - l.toNat) (cp - l.toNat)) w := by
 obtain ⟨j, hj, _, hs, _⟩ := he.info
 have hhc : h ≤ (cp : Int) := by omega
 have h0h : 0 ≤ h := by omega
 have hlh : l ≤ max h 0 := by omega
 have hlh' : ¬ max h 0 < l := by omega
 rcases hlo with ⟨rfl, rfl⟩ | ⟨kl, rfl⟩ <;> rcases hhi with ⟨rfl, rfl⟩ | ⟨kh, rfl⟩ <;>
  simp [Instr.sliceAt, run_underlying hu, Instr.slice, Instr.sliceBounds, Instr.sliceBound, asIntOf, sizeOf, typeInfo, hj, hs, h0, h1, h2, hhc, h0h, hlh, hlh']
theorem RpS.cut {w : World} {O : Nat → Prop} {v : Value} {τ : Ty} {xs : List τ.T} (h : RpS w O v (.arr τ xs)) {l m : Nat} (hlm : l ≤ m) (hm : m ≤ xs.length) :
  ∃ ad cp, v = .slice ad xs.length cp ∧ xs.length ≤ cp ∧ RpS w O (.slice (if cp = l then ad else ad.map (·.add (l * τ.size))) (m - l) (cp - l)) (.arr τ ((xs.take m).drop l)) := by
 cases h with
 | nil =>
  refine ⟨none, 0, rfl, Nat.le_refl _, ?_⟩
  simp at hm
  subst hm
  have : l = 0 := by omega
  subst this
  simp
  exact .nil τ
 | emp _ ad cap =>
  refine ⟨some ad, cap, rfl, Nat.zero_le _, ?_⟩
  simp at hm
  subst hm
  have : l = 0 := by omega
  subst this
  split
  · exact .emp τ _ _
  · exact .emp τ _ _
 | arr b off cap n _ _ arr e fz f hb hO hn hc hm' hf hr =>
  subst hn
  refine ⟨_, cap, rfl, hc, ?_⟩
  have key : ∀ off', (m - l = 0 ∨ off' = off + l * τ.size) → RpS w O (.slice (some ⟨b, off', none⟩) (m - l) (cap - l)) (.arr τ ((xs.take m).drop l)) := by
   intro off' ho
   refine .arr b off' (cap - l) (m - l) τ _ arr e fz (fun i => f (l + i)) hb hO (by simp; omega) (by omega) (by omega) (fun i hi => ?_) (fun i x hx => ?_)
   · rcases ho with ho | rfl
     · omega
     · obtain ⟨h1, h2⟩ := hf (l + i) (by omega)
       refine ⟨h1, fun j hj => ?_⟩
       rw [← h2 j hj, Nat.add_mul]
       congr 1
       omega
   · rw [List.getElem?_drop, List.getElem?_take] at hx
     split at hx
     · exact hr _ x hx
     · cases hx
  split
  · rename_i hcl
    exact key off (.inl (by omega))
  · simp only [Option.map_some, Addr.add_lit]
    exact key _ (.inr rfl)
theorem litInts_ok : ∀ {l : List SV} {xs : List Int}, litInts l = some xs → xs.length = l.length ∧ ∀ (i : Nat) (x : Int), xs[i]? = some x → l[i]? = some (.lit (.int .i64 x))
 | [], xs, h => by cases h; simp
 | A :: r, xs, h => by
  unfold litInts at h
  split at h
  · rename_i e; cases e
  · rename_i n r' e
    cases e
    split at h
    · rename_i l hl
      cases h
      obtain ⟨h1, h2⟩ := litInts_ok hl
      refine ⟨by simp [h1], fun i x hx => ?_⟩
      cases i with
      | zero => simp at hx ⊢; exact hx.symm ▸ rfl
      | succ i => simpa using h2 i x (by simpa using hx)
    · cases h
  · cases h
theorem run_cutArr {P : Program} {t e : TypeId} {te : TE} {n : Nat} (hu : P.underlying t = some (.array n e)) (he : te.ok P e) {w : World} {b off : Nat} :
  (Instr.sliceAt t (.pointer (some ⟨b, off, none⟩)) none none none).run P w = .ok (.slice (some ⟨b, off, none⟩) n n) w := by
 obtain ⟨j, hj, _, hs, _⟩ := he.info
 simp [Instr.sliceAt, run_underlying hu, Instr.sliceBounds, Instr.sureAddr, asAddr, sizeOf, typeInfo, hj, hs, Addr.add_lit]
theorem cutVC.sound {P : Program} {T : List (Nat × TE)} (hT : TOk P T) {c : Cx} {o : Oper} {Γ : Sy} {G : Path} {t : TypeId} {x : Operand} {lo hi mx : Option Operand} {A : AV} {K : AV → Prop} (ho : o.op = .slice t x lo hi mx)
  (hx : Ev c Γ G x A) (h : cutVC T Γ G t A lo hi mx K) : ∃ R, (G.ok → Does P c o Γ R []) ∧ K R := by
 unfold cutVC at h
 split at h
 · exact h.elim
 · split at h
   · rename_i e sz by_ ze ty ht
     have hu := (hT _ _ ht).sl rfl
     split at h
     · rename_i te hte
       have he := hT _ _ hte
       split at h
       · rename_i fr τ xs
         obtain ⟨hsz, h⟩ := h
         obtain ⟨l, h, hl⟩ := bound.ev (c := c) h
         obtain ⟨m, h, hm⟩ := bound.ev (c := c) h
         obtain ⟨hb, hK⟩ := h
         refine ⟨.st fr (.arr τ ((xs.take m.toNat).drop l.toNat)), fun hG => Does.value fun Γ' g a w hlk _ hst => ?_, hK⟩
         obtain ⟨h0, h1, h2⟩ := Path.imp_ok hb hG
         have hxv : RpS w (Av (Oset Γ'.own g) c.O0 fr) (a.eval x) (.arr τ xs) := hx hG Γ' g a w (hlk x (by simp [ho, Op.operands])) hst
         obtain ⟨ad, cp, h3, h4, h5⟩ := RpS.cut hxv (l := l.toNat) (m := m.toNat) (by omega) (by omega)
         have hlo : (lo.map a.eval = none ∧ l = 0) ∨ ∃ k, lo.map a.eval = some (.int k l) := by
          cases lo with
          | none => exact .inl ⟨rfl, hl⟩
          | some y =>
           obtain ⟨k, hk⟩ := hl
           have := hk hG Γ' g a w (hlk y (by simp [ho, Op.operands])) hst
           simp only [Rp2, Rp1] at this
           exact .inr ⟨k, by simp [this.1]⟩
         have hhi : (hi.map a.eval = none ∧ m = xs.length) ∨ ∃ k, hi.map a.eval = some (.int k m) := by
          cases hi with
          | none => exact .inl ⟨rfl, hm⟩
          | some y =>
           obtain ⟨k, hk⟩ := hm
           have := hk hG Γ' g a w (hlk y (by simp [ho, Op.operands])) hst
           simp only [Rp2, Rp1] at this
           exact .inr ⟨k, by simp [this.1]⟩
         have hrun := run_cut (w := w) (ad := ad) hu he h0 h1 h2 h4 hlo hhi
         rw [hsz] at hrun
         refine ⟨_, ?_, h5⟩
         simp only [execOp, ho, h3]
         simp only [Option.map_none, Sem.run_bind, hrun, Result.andThen_ok, Sem.run_pure]
       · rename_i k
         split at h
         · rename_i e' τ fr xs hk
           obtain ⟨⟨hsz, hlf⟩, h⟩ := h
           obtain ⟨l, h, hl⟩ := bound.ev (c := c) h
           obtain ⟨m, h, hm⟩ := bound.ev (c := c) h
           obtain ⟨hb, hK⟩ := h
           refine ⟨.ocut k l.toNat m.toNat, fun hG => Does.value fun Γ' g a w hlk hown hst => ?_, hK⟩
           obtain ⟨h0, h1, h2, h20⟩ := Path.imp_ok hb hG
           have hxv : a.eval x = g k := hx hG Γ' g a w (hlk x (by simp [ho, Op.operands])) hst
           obtain ⟨zs, hrow, _⟩ := hst.hp.ok k _ (hown k _ hk)
           rcases hrow.2 with ⟨_, h4⟩ | ⟨b, cap, cur, h3, _, h5, h6, h7, _⟩
           · omega
           have hlo : (lo.map a.eval = none ∧ l = 0) ∨ ∃ k, lo.map a.eval = some (.int k l) := by
            cases lo with
            | none => exact .inl ⟨rfl, hl⟩
            | some y =>
             obtain ⟨k, hk⟩ := hl
             have := hk hG Γ' g a w (hlk y (by simp [ho, Op.operands])) hst
             simp only [Rp2, Rp1] at this
             exact .inr ⟨k, by simp [this.1]⟩
           have hhi : (hi.map a.eval = none ∧ m = xs.length) ∨ ∃ k, hi.map a.eval = some (.int k m) := by
            cases hi with
            | none => exact .inl ⟨rfl, hm⟩
            | some y =>
             obtain ⟨k, hk⟩ := hm
             have := hk hG Γ' g a w (hlk y (by simp [ho, Op.operands])) hst
             simp only [Rp2, Rp1] at this
             exact .inr ⟨k, by simp [this.1]⟩
           have hrun := run_cut (w := w) (ad := some ⟨b, 0, none⟩) hu he h0 h1 h2 h6 hlo hhi
           rw [hsz, Nat.mul_one] at hrun
           refine ⟨_, ?_, ⟨b, xs.length, cap, h3, by omega, by omega, rfl⟩⟩
           simp only [execOp, ho, hxv, h3]
           simp only [Option.map_none, Sem.run_bind, hrun, Result.andThen_ok, Sem.run_pure]
           have hif : (if cap = l.toNat then some (⟨b, 0, none⟩ : Addr) else (some (⟨b, 0, none⟩ : Addr)).map (·.add l.toNat)) = some (if cap = l.toNat then ⟨b, 0, none⟩ else ⟨b, l.toNat, none⟩) := by
            split
            · rfl
            · show some (Addr.add ⟨b, 0, none⟩ l.toNat) = _
              rw [Addr.add_lit, Nat.zero_add]
           rw [hif]
         · exact h.elim
       · exact h.elim
     · exact h.elim
   · rename_i n e sz by_ ze ty ht
     have hu := (hT _ _ ht).arr0 rfl
     split at h
     · rename_i te hte
       have he := hT _ _ hte
       split at h
       · rename_i fr l
         split at h
         · rename_i xs hxs
           obtain ⟨hb, hK⟩ := h
           simp only [Bool.and_eq_true] at hb
           obtain ⟨⟨hb1, hb2⟩, hb3⟩ := hb
           have hb1 := Nat.eq_of_beq_eq_true hb1
           have hb2 := Nat.eq_of_beq_eq_true hb2
           have hb3 := Nat.le_of_ble_eq_true hb3
           obtain ⟨hl1, hl2⟩ := litInts_ok hxs
           refine ⟨_, fun hG => Does.value fun Γ' g a w hlk _ hst => ?_, hK⟩
           have hxv : RpS w (Av (Oset Γ'.own g) c.O0 fr) (a.eval x) (.sadr (.agg l)) := hx hG Γ' g a w (hlk x (by simp [ho, Op.operands])) hst
           obtain ⟨bb, off, arr, ez, fz, x0, h3, h4, h5, h6, h7⟩ : ∃ bb off arr ez fz x0, a.eval x = .pointer (some ⟨bb, off, none⟩) ∧ w.heap[bb]? = some (.cells arr ez fz) ∧ ¬ Av (Oset Γ'.own g) c.O0 fr bb ∧ (∀ j, j < x0.cells.size → arr[off + j]? = x0.cells[j]?) ∧ RpS w (Av (Oset Γ'.own g) c.O0 fr) x0 (.agg l) := by
            generalize a.eval x = v at hxv
            cases hxv with
            | sadr b off A x arr e fz hb hO hf hr => exact ⟨b, off, arr, e, fz, x, rfl, hb, hO, hf, hr⟩
           obtain ⟨cs, rfl, hcs, hci⟩ := h7.aggc
           refine ⟨.slice (some ⟨bb, off, none⟩) n n, ?_, ?_⟩
           · simp only [execOp, ho, h3]
             simp only [Option.map_none, Sem.run_bind, run_cutArr hu he, Result.andThen_ok, Sem.run_pure]
           · refine RpS.arr bb off n n (.int .i64) xs arr ez fz (fun i => .int .i64 (xs.getD i 0)) h4 h5 (hl1.trans hb2).symm (Nat.le_refl _) (by unfold maxLen; omega) (fun i hi => ⟨rfl, fun j hj => ?_⟩) (fun i y hy => ?_)
             · have hj0 : j = 0 := by simp only [Ty.size] at hj; omega
               subst hj0
               have hxi : xs[i]? = some (xs.getD i 0) := by simp [List.getD, hl1, hb2, hi]
               obtain ⟨y, hy1, _, hy2⟩ := hci i _ (hl2 i _ hxi)
               have h8 := h6 i (by show i < cs.size; omega)
               have h9 : arr[off + i]? = some y := h8.trans hy1
               cases hy2
               simpa [Ty.size, Value.cells] using h9
             · have hy' : (xs.getD i (0 : Int)) = y := by rw [List.getD, show xs[i]? = some y from hy]; rfl
               show RpS w _ (.int .i64 (xs.getD i (0 : Int))) (.lit (.int .i64 y))
               rw [hy']
               exact .lit _ rfl
         · exact h.elim
       · exact h.elim
     · exact h.elim
   · exact h.elim
def cutSV (T : List (Nat × TE)) (Γ : Sy) (G : Path) (t : TypeId) (A : AV) (lo hi mx : Option Operand) (K : AV → Prop) : Prop := match mx, A with
 | none, .st fr (.arr τ xs) => match get? T t with
  | some { kind := .sl e, .. } => match get? T e with
   | some te => te.size = τ.size ∧ bound Γ G lo 0 fun l => bound Γ G hi xs.length fun h => G.imp (0 ≤ l ∧ l ≤ h ∧ h ≤ xs.length) ∧ K (.st fr (.arr τ ((xs.take h.toNat).drop l.toNat)))
   | none => False
  | _ => False
 | _, _ => False
theorem cutSV.any {P : Program} {T : List (Nat × TE)} (hT : TOk P T) {c : Cx} {o : Oper} {Γ : Sy} {G : Path} {t : TypeId} {x : Operand} {lo hi mx : Option Operand} {A : AV} {K : AV → Prop} (ho : o.op = .slice t x lo hi mx)
  (hx : Ev c Γ G x A) (h : cutSV T Γ G t A lo hi mx K) : ∃ R, (G.ok → Still0 P c o Γ R) ∧ K R := by
 unfold cutSV at h
 split at h
 · rename_i fr τ xs
   split at h
   · rename_i e sz by_ ze ty ht
     have hu := (hT _ _ ht).sl rfl
     split at h
     · rename_i te hte
       have he := hT _ _ hte
       obtain ⟨hsz, h⟩ := h
       obtain ⟨l, h, hl⟩ := bound.ev (c := c) h
       obtain ⟨m, h, hm⟩ := bound.ev (c := c) h
       obtain ⟨hb, hK⟩ := h
       refine ⟨.st fr (.arr τ ((xs.take m.toNat).drop l.toNat)), fun hG Γ' g a w hlk _ hst => ?_, hK⟩
       obtain ⟨h0, h1, h2⟩ := Path.imp_ok hb hG
       have hxv : RpS w (Av (Oset Γ'.own g) c.O0 fr) (a.eval x) (.arr τ xs) := hx hG Γ' g a w (hlk x (by simp [ho, Op.operands])) hst
       obtain ⟨ad, cp, h3, h4, h5⟩ := RpS.cut hxv (l := l.toNat) (m := m.toNat) (by omega) (by omega)
       have hlo : (lo.map a.eval = none ∧ l = 0) ∨ ∃ k, lo.map a.eval = some (.int k l) := by
        cases lo with
        | none => exact .inl ⟨rfl, hl⟩
        | some y =>
         obtain ⟨k, hk⟩ := hl
         have := hk hG Γ' g a w (hlk y (by simp [ho, Op.operands])) hst
         simp only [Rp2, Rp1] at this
         exact .inr ⟨k, by simp [this.1]⟩
       have hhi : (hi.map a.eval = none ∧ m = xs.length) ∨ ∃ k, hi.map a.eval = some (.int k m) := by
        cases hi with
        | none => exact .inl ⟨rfl, hm⟩
        | some y =>
         obtain ⟨k, hk⟩ := hm
         have := hk hG Γ' g a w (hlk y (by simp [ho, Op.operands])) hst
         simp only [Rp2, Rp1] at this
         exact .inr ⟨k, by simp [this.1]⟩
       have hrun := fun w' => run_cut (w := w') (ad := ad) hu he h0 h1 h2 h4 hlo hhi
       rw [hsz] at hrun
       refine ⟨_, fun w' => ?_, h5⟩
       simp only [execOp, ho, h3]
       simp only [Option.map_none, Sem.run_bind, hrun, Result.andThen_ok, Sem.run_pure]
     · exact h.elim
   · exact h.elim
 · exact h.elim
def Ty.zval (t : Ty) : Value := match t.leaf with
 | true => t.zcells.headD undef
 | false => .agg t.zcells.toArray
theorem zcells_leaf : ∀ (t : Ty), t.leaf = true → t.zcells = [t.zval] ∧ t.zval.oneCell' = true ∧ ∀ w O, RpS w O t.zval (t.enc t.dflt)
 | .int k, _ => ⟨rfl, rfl, fun w O => .lit _ rfl⟩
 | .bool, _ => ⟨rfl, rfl, fun w O => .lit _ rfl⟩
 | .str, _ => ⟨rfl, rfl, fun w O => .lit _ rfl⟩
 | .sl t, _ => ⟨rfl, rfl, fun w O => .nil t⟩
theorem zcells_enc (w : World) (O : Nat → Prop) : ∀ (t : Ty), t.good = true → t.leaf = false → t.zcells.length = (t.encL t.dflt).length ∧
  ∀ (i : Nat) (B : SV), (t.encL t.dflt)[i]? = some B → ∃ x, t.zcells[i]? = some x ∧ x.oneCell' = true ∧ RpS w O x B
 | .nil, _, _ => ⟨rfl, fun i B h => by simp [Ty.encL] at h⟩
 | .cons h t, hg, _ => by
  simp only [Ty.good, Bool.and_eq_true] at hg
  obtain ⟨h1, h2, h3⟩ := zcells_leaf h hg.1.1.1
  have ht : t.leaf = false := by
   cases t <;> first | rfl | (simp at hg)
  obtain ⟨h4, h5⟩ := zcells_enc w O t hg.1.2 ht
  have hz : (Ty.cons h t).zcells = h.zval :: t.zcells := by simp only [Ty.zcells, h1]; rfl
  have he : (Ty.cons h t).encL (Ty.cons h t).dflt = h.enc h.dflt :: t.encL t.dflt := rfl
  rw [hz, he]
  refine ⟨by simp [h4], fun i B hB => ?_⟩
  cases i with
  | zero => simp at hB; subst hB; exact ⟨h.zval, by simp, h2, h3 w O⟩
  | succ i => simpa using h5 i B (by simpa using hB)
theorem zval_cells (t : Ty) (hg : t.good = true) : t.zval.cells.toList = t.zcells := by
 cases hl : t.leaf with
 | true =>
  obtain ⟨h1, h2, _⟩ := zcells_leaf t hl
  have : t.zval.cells = #[t.zval] := by cases hv : t.zval <;> rw [hv] at h2 <;> first | rfl | cases h2
  rw [this, h1]
 | false => simp [Ty.zval, hl, Value.cells]
theorem zval_rp (w : World) (O : Nat → Prop) (t : Ty) (hg : t.good = true) : RpS w O t.zval (t.enc t.dflt) := by
 cases hl : t.leaf with
 | true => exact (zcells_leaf t hl).2.2 w O
 | false =>
  obtain ⟨h1, h2⟩ := zcells_enc w O t hg hl
  rw [enc_cons _ _ hl]
  have hz : t.zval = .agg t.zcells.toArray := by simp [Ty.zval, hl]
  rw [hz]
  refine .agg _ _ (fun i => t.zcells.getD i undef) (by simp [h1]) (fun i hi => ?_) (fun i B hB => ?_)
  · obtain ⟨x, h3, h4, h5⟩ := h2 i (t.encL t.dflt)[i] (by rw [List.getElem?_eq_getElem])
    simp [List.getD, h3, h4]
  · obtain ⟨x, h3, h4, h5⟩ := h2 i B hB
    simpa [List.getD, h3] using h5
theorem zcells_one (t : Ty) (hg : t.good = true) : ∀ x ∈ t.zcells, x.oneCell' = true := by
 cases hl : t.leaf with
 | true => obtain ⟨h1, h2, _⟩ := zcells_leaf t hl; rw [h1]; simpa using h2
 | false =>
  obtain ⟨h1, h2⟩ := zcells_enc (default : World) (fun _ => False) t hg hl
  intro x hx
  obtain ⟨i, hi, rfl⟩ := List.mem_iff_getElem.1 hx
  obtain ⟨y, h3, h4, _⟩ := h2 i ((t.encL t.dflt)[i]'(by omega)) (by rw [List.getElem?_eq_getElem])
  rw [List.getElem?_eq_getElem hi] at h3
  cases h3
  exact h4
theorem zcells_len (t : Ty) (hg : t.good = true) : t.zcells.length = t.size := by
 cases hl : t.leaf with
 | true =>
  rw [(zcells_leaf t hl).1]
  cases t <;> first | rfl | cases hl
 | false => rw [(zcells_enc (default : World) (fun _ => False) t hg hl).1, encL_len t _ hg hl]
def makeVC (T : List (Nat × TE)) (G : Path) (d : Nat) (t : TypeId) (L C : AV) (K : AV → List (Nat × Ob) → Prop) : Prop := match G with
 | [] => match get? T t with
  | some { kind := .sl e, .. } => match get? T e with
   | some { ty := some τ, .. } => match L, C with
    | .lit (.int _ n), .lit (.int _ m) => (0 ≤ n ∧ n ≤ m ∧ m ≤ 4294967296) ∧ K (.own d) [(d, .row e τ true (List.replicate n.toNat τ.dflt))]
    | _, _ => False
   | _ => False
  | _ => False
 | _ => False
theorem madeCells_get (z : Array Value) (n p : Nat) (hp : p < n) (hz : 0 < z.size) : (madeCells z n)[p]? = z[p % z.size]? := by
 have : p % z.size < z.size := Nat.mod_lt _ hz
 simp [madeCells, hp, this]
theorem makeVC.sound {P : Program} {T : List (Nat × TE)} (hT : TOk P T) {c : Cx} {o : Oper} {Γ : Sy} {G : Path} {d : Nat} {t : TypeId} {x y : Operand} {L C : AV} {K : AV → List (Nat × Ob) → Prop}
  (ho : o.op = .makeSlice t x y) (hx : Ev c Γ G x L) (hy : Ev c Γ G y C) (h : makeVC T G d t L C K) : ∃ R N, (G.ok → Does P c o Γ R N) ∧ (G ≠ [] → N = []) ∧ K R N := by
 cases G with
 | cons _ _ => exact h.elim
 | nil =>
  unfold makeVC at h
  simp only at h
  split at h
  · rename_i e sz by_ ze ty ht
    have hu := (hT _ _ ht).sl rfl
    split at h
    · rename_i ke se be zz τ hte
      have he := hT _ _ hte
      obtain ⟨h1, h2, h3, h4, h5, h6⟩ := he.2.2.1 τ rfl
      obtain ⟨i, hi, hz, hs, hb⟩ := he.info
      split at h
      · rename_i kl n km m
        obtain ⟨⟨hn0, hnm, hm⟩, hK⟩ := h
        refine ⟨_, _, Does.new fun hG Γ' g a w hl hown hf hst => ?_, fun h => absurd rfl h, hK⟩
        have hxv := hx hG Γ' g a w (hl x (by simp [ho, Op.operands])) hst
        have hyv := hy hG Γ' g a w (hl y (by simp [ho, Op.operands])) hst
        simp only [Rp2, Rp1] at hxv hyv
        dsimp only at h1 h2 h5 hz hs hb
        have hbytes : (i.bytes : Int) * m ≤ 281474976710656 := by
         rw [hb]
         have : (be : Int) * m ≤ 4096 * 4294967296 := Int.mul_le_mul (by omega) hm (by omega) (by omega)
         omega
        have hrun := run_make (P := P) w t e i zz hu hi hz kl km n m hn0 hnm hbytes (by omega)
        have hzs : zz.cells.size = τ.size := by rw [← zcells_len τ h3, ← h1]; simp
        refine ⟨_, _, by simp [execOp, ho, hxv.1, hyv.1, hrun]; exact ⟨rfl, rfl⟩, Keep.alloc w _, rfl, ?_, .inl rfl⟩
        have hlen : (List.replicate n.toNat τ.dflt).length = n.toNat := by simp
        have hmn : n.toNat ≤ m.toNat := by omega
        have hsz : i.size = τ.size := by rw [hs]; exact h2
        have cell : ∀ p, p < n.toNat * τ.size → (madeCells zz.cells (m.toNat * i.size))[p]? = τ.zcells[p % τ.size]? := by
         intro p hp
         have h7 : n.toNat * τ.size ≤ m.toNat * τ.size := Nat.mul_le_mul_right _ hmn
         rw [madeCells_get _ _ _ (by rw [hsz]; omega) (by omega), hzs, ← h1]
         simp
        refine ⟨(madeCells zz.cells (m.toNat * i.size)).toList.take (n.toNat * τ.size), ?_, fun v hv => ?_, fun _ => τ.zval, fun k hk => ?_, fun k v hv => ?_⟩
        · rw [hlen]
          refine ⟨?_, .inr ⟨w.heap.size, m.toNat, madeCells zz.cells (m.toNat * i.size), rfl, Nat.zero_le _, heap_alloc_new w _, hmn, by unfold maxLen; omega, by rw [size_madeCells, hsz], rfl⟩⟩
          have : n.toNat * τ.size ≤ m.toNat * τ.size := Nat.mul_le_mul_right _ hmn
          simp [size_madeCells, hsz, this]
        · obtain ⟨p, hp, rfl⟩ := List.mem_iff_getElem.1 hv
          have hp' : p < n.toNat * τ.size := by simp at hp; omega
          have := cell p hp'
          rw [List.getElem_take]
          have h7 : (madeCells zz.cells (m.toNat * i.size)).toList[p]? = τ.zcells[p % τ.size]? := by simpa using this
          rw [List.getElem?_eq_getElem (by simp at hp ⊢; omega)] at h7
          exact zcells_one τ h3 _ (List.mem_of_getElem? h7.symm)
        · refine ⟨by rw [← zcells_len τ h3, ← zval_cells τ h3]; simp, fun j hj => ?_⟩
          rw [hlen] at hk
          have hp : k * τ.size + j < n.toNat * τ.size := by
           have : (k + 1) * τ.size ≤ n.toNat * τ.size := Nat.mul_le_mul_right _ hk
           rw [Nat.add_mul, Nat.one_mul] at this
           omega
          have := cell _ hp
          dsimp only
          rw [List.getElem?_take, if_pos hp]
          rw [show (k * τ.size + j) % τ.size = j from by rw [Nat.add_comm, Nat.add_mul_mod_self_right]; exact Nat.mod_eq_of_lt hj] at this
          rw [← zval_cells τ h3] at this
          simpa using this
        · rw [List.getElem?_replicate] at hv
          split at hv
          · cases hv; exact zval_rp _ _ τ h3
          · cases hv
      · exact h.elim
    · exact h.elim
  · exact h.elim
def Ty.cast (a b : Ty) (xs : List a.T) : Option (List b.T) :=
 if h : a = b then some (h ▸ xs) else none
theorem Ty.cast_some {a b : Ty} {xs : List a.T} {ys : List b.T} (h : Ty.cast a b xs = some ys) : SV.arr a xs = SV.arr b ys ∧ SV.narr a xs = SV.narr b ys := by
 unfold Ty.cast at h
 split at h
 · rename_i e
   subst e
   cases h
   exact ⟨rfl, rfl⟩
 · cases h
def dec1 : (t : Ty) → AV → Option (t.T × Bool)
 | .int k, .lit (.int k' n) => match eqKind k k' with
  | true => some ((n : Int), true)
  | false => none
 | .bool, .lit (.bool b) => some ((b : Bool), true)
 | .str, .lit (.string s) => some ((s : ByteArray), true)
 | .sl t, .st fr (.arr t' xs) => match Ty.cast t' t xs with
  | some ys => some ((ys : List t.T), fr)
  | none => none
 | .sl t, .st fr (.narr t' xs) => match Ty.cast t' t xs with
  | some ys => some ((ys : List t.T), fr)
  | none => none
 | .sl t, .lit (.slice none 0 0) => some (([] : List t.T), true)
 | _, _ => none
def decL : (t : Ty) → List AV → Option (t.T × Bool)
 | .nil, [] => some ((), true)
 | .cons h t, A :: r => match dec1 h A with
  | some (x, b) => match decL t r with
   | some (y, b') => some ((x, y), b && b')
   | none => none
  | none => none
 | _, _ => none
def dec (t : Ty) (A : AV) : Option (t.T × Bool) := match t.leaf with
 | true => dec1 t A
 | false => match isStrct A with
  | true => decL t (leaves A)
  | false => none
theorem dec1_ok {w : World} {O O0 : Nat → Prop} {g : Nat → Value} {v : Value} {fr φ : Bool} : ∀ {t : Ty} {A : AV} {x : t.T}, dec1 t A = some (x, fr) → (φ = true → fr = true) → Rp1 w O O0 g v A → RpS w (Av O O0 φ) v (t.enc x) ∧ v.oneCell' = true := by
 intro t A x h hφ hr
 unfold dec1 at h
 split at h
 · split at h
   · rename_i hk
     cases h
     have := of_decide_eq_true hk
     subst this
     rw [hr.1]; exact ⟨.lit _ rfl, rfl⟩
   · cases h
 · cases h; rw [hr.1]; exact ⟨.lit _ rfl, rfl⟩
 · cases h; rw [hr.1]; exact ⟨.lit _ rfl, rfl⟩
 · split at h
   · rename_i hc
     cases h
     have h1 : RpS w (Av O O0 φ) v _ := RpS.lower hφ hr
     rw [(Ty.cast_some hc).1] at h1
     exact ⟨h1, h1.one rfl⟩
   · cases h
 · split at h
   · rename_i hc
     cases h
     have h1 : RpS w (Av O O0 φ) v _ := RpS.lower hφ hr
     rw [(Ty.cast_some hc).2] at h1
     cases h1 with
     | narr _ _ _ h2 _ => exact ⟨h2, h2.one rfl⟩
   · cases h
 · cases h; rw [hr.1]; exact ⟨.nil _, rfl⟩
 · cases h
theorem decL_ok {w : World} {O O0 : Nat → Prop} {g : Nat → Value} : ∀ {φ : Bool} {t : Ty} {l : List AV} {x : t.T} {fr : Bool} {vs : List Value}, decL t l = some (x, fr) → (φ = true → fr = true) → vs.length = l.length →
  (∀ (i : Nat) (A : AV) (v : Value), l[i]? = some A → vs[i]? = some v → Rp1 w O O0 g v A) → vs.length = (t.encL x).length ∧ ∀ (i : Nat) (B : SV) (v : Value), (t.encL x)[i]? = some B → vs[i]? = some v → RpS w (Av O O0 φ) v B ∧ v.oneCell' = true := by
 intro φ t
 induction t with
 | nil =>
  intro l x fr vs h hφ hl hr
  cases l with
  | nil => exact ⟨hl, fun i B v hB => by simp [Ty.encL] at hB⟩
  | cons => simp [decL] at h
 | cons h t _ ih =>
  intro l x fr vs hd hφ hl hr
  cases l with
  | nil => simp [decL] at hd
  | cons A r =>
   simp only [decL] at hd
   split at hd
   · rename_i x1 b1 h1
     split at hd
     · rename_i y b2 h2
       cases hd
       cases vs with
       | nil => simp at hl
       | cons v vs =>
        obtain ⟨h3, h4⟩ := ih h2 (fun h => by have := hφ h; simp at this; exact this.2) (by simpa using hl) (fun i A v hA hv => hr (i + 1) A v (by simpa using hA) (by simpa using hv))
        refine ⟨by simp [Ty.encL, h3], fun i B u hB hu => ?_⟩
        cases i with
        | zero =>
         simp [Ty.encL] at hB hu
         subst hB; subst hu
         exact dec1_ok h1 (fun h => by have := hφ h; simp at this; exact this.1) (hr 0 A v rfl rfl)
        | succ i => exact h4 i B u (by simpa [Ty.encL] using hB) (by simpa using hu)
     · cases hd
   · cases hd
 | _ => intro l x fr vs h; simp [decL] at h
theorem leaves_ok {w : World} {O O0 : Nat → Prop} {g : Nat → Value} {v : Value} {A : AV} (hs : isStrct A = true) (hr : Rp2 w O O0 g v A) :
  ∃ cs : Array Value, v = .agg cs ∧ cs.size = (leaves A).length ∧ ∀ (i : Nat) (B : AV) (x : Value), (leaves A)[i]? = some B → cs[i]? = some x → Rp1 w O O0 g x B ∧ x.oneCell' = true := by
 cases A with
 | strct l =>
  obtain ⟨f, vs, h1, h2, h3⟩ := hr
  refine ⟨vs, h1, h2, fun i B x hB hx => ?_⟩
  obtain ⟨⟨h4, h5⟩, h6⟩ := h3 i B hB
  rw [h4] at hx
  cases hx
  exact ⟨h6, h5⟩
 | st fr S =>
  cases S with
  | agg l =>
   have hr' : RpS w (Av O O0 fr) v (.agg l) := hr
   obtain ⟨cs, h1, h2, h3⟩ := hr'.aggc
   refine ⟨cs, h1, by simp only [leaves, upL_len]; exact h2, fun i B x hB hx => ?_⟩
   simp only [leaves, upL_get] at hB
   obtain ⟨C, hC, rfl⟩ := Option.map_eq_some_iff.1 hB
   obtain ⟨y, h4, h5, h6⟩ := h3 i C hC
   rw [h4] at hx
   cases hx
   exact ⟨up_one h6, h5⟩
  | _ => cases hs
 | _ => cases hs
theorem dec_ok {w : World} {O O0 : Nat → Prop} {g : Nat → Value} {v : Value} {fr φ : Bool} {t : Ty} {A : AV} {x : t.T} (h : dec t A = some (x, fr)) (hφ : φ = true → fr = true) (hg : t.good = true) (hr : Rp2 w O O0 g v A) :
  RpS w (Av O O0 φ) v (t.enc x) ∧ v.cells.size = t.size ∧ ∀ u ∈ v.cells.toList, u.oneCell' = true := by
 unfold dec at h
 cases hl : t.leaf with
 | true =>
  simp only [hl] at h
  have hr1 : Rp1 w O O0 g v A := by
   cases A <;> first | exact hr | (exfalso; cases t <;> simp [dec1] at h)
  obtain ⟨h1, h2⟩ := dec1_ok h hφ hr1
  have h3 := h1.cells1 (enc_leaf _ _ hl)
  have hsz : t.size = 1 := by cases t <;> first | rfl | (cases hl; done)
  exact ⟨h1, by rw [h3, hsz]; rfl, by rw [h3]; simpa using h2⟩
 | false =>
  simp only [hl] at h
  cases hs : isStrct A with
  | false => rw [hs] at h; cases h
  | true =>
   rw [hs] at h
   obtain ⟨cs, rfl, h1, h2⟩ := leaves_ok hs hr
   obtain ⟨h3, h4⟩ := decL_ok (vs := cs.toList) h hφ (by simpa using h1) (fun i A v hA hv => (h2 i A v hA (by simpa using hv)).1)
   have h5 : cs.size = (t.encL x).length := by simpa using h3
   refine ⟨?_, ?_, ?_⟩
   · rw [enc_cons _ _ hl]
     refine .agg cs _ (fun i => cs.getD i undef) h5 (fun i hi => ?_) (fun i B hB => ?_)
     · have hi' : i < cs.size := by omega
       have := h4 i (t.encL x)[i] cs[i] (by rw [List.getElem?_eq_getElem]) (by simp [hi'])
       simp [Array.getD_eq_getD_getElem?, hi', this.2]
     · have hi : i < cs.size := by rw [h5]; exact (List.getElem?_eq_some_iff.1 hB).1
       have := h4 i B cs[i] hB (by simp [hi])
       simpa [Array.getD_eq_getD_getElem?, hi] using this.1
   · simp only [Value.cells]; rw [h5, encL_len t x hg hl]
   · intro u hu
     obtain ⟨i, hi, rfl⟩ := List.mem_iff_getElem.1 hu
     have hi' : i < cs.size := by simpa [Value.cells] using hi
     exact (h4 i ((t.encL x)[i]'(by omega)) _ (by rw [List.getElem?_eq_getElem]) (by simp [Value.cells, hi'])).2
def lay (cells : Array Value) (off : Nat) (vs : Array Value) : Array Value := vs.zipIdx.foldl (fun cs (c, j) => cs.setIfInBounds (off + j) c) cells
theorem lay_list (off : Nat) : ∀ (vs : List Value) (k : Nat) (cells : Array Value),
  ((vs.zipIdx k).foldl (fun cs (c, j) => cs.setIfInBounds (off + j) c) cells).size = cells.size ∧
  ∀ p, ((vs.zipIdx k).foldl (fun cs (c, j) => cs.setIfInBounds (off + j) c) cells)[p]? = if off + k ≤ p ∧ p < off + k + vs.length ∧ p < cells.size then vs[p - (off + k)]? else cells[p]?
 | [], k, cells => ⟨rfl, fun p => by
  have : ¬ (off + k ≤ p ∧ p < off + k + 0 ∧ p < cells.size) := by omega
  simp only [List.zipIdx_nil, List.foldl_nil, List.length_nil]
  rw [if_neg this]⟩
 | v :: vs, k, cells => by
  simp only [List.zipIdx_cons, List.foldl_cons]
  obtain ⟨h1, h2⟩ := lay_list off vs (k + 1) (cells.setIfInBounds (off + k) v)
  refine ⟨by rw [h1]; simp, fun p => ?_⟩
  rw [h2 p]
  simp only [Array.size_setIfInBounds, List.length_cons]
  by_cases hp : off + k = p
  · subst hp
    have n1 : ¬ (off + (k + 1) ≤ off + k ∧ off + k < off + (k + 1) + vs.length ∧ off + k < cells.size) := by omega
    rw [if_neg n1]
    by_cases hs : off + k < cells.size
    · have y1 : off + k ≤ off + k ∧ off + k < off + k + (vs.length + 1) ∧ off + k < cells.size := by omega
      rw [if_pos y1]
      simp [hs]
    · have n2 : ¬ (off + k ≤ off + k ∧ off + k < off + k + (vs.length + 1) ∧ off + k < cells.size) := by omega
      rw [if_neg n2]
      simp [Array.setIfInBounds, hs]
  · by_cases hin : off + (k + 1) ≤ p ∧ p < off + (k + 1) + vs.length ∧ p < cells.size
    · have y1 : off + k ≤ p ∧ p < off + k + (vs.length + 1) ∧ p < cells.size := by omega
      rw [if_pos hin, if_pos y1]
      rw [show p - (off + k) = (p - (off + (k + 1))) + 1 from by omega]
      simp
    · have n1 : ¬ (off + k ≤ p ∧ p < off + k + (vs.length + 1) ∧ p < cells.size) := by omega
      rw [if_neg hin, if_neg n1]
      rw [Array.getElem?_setIfInBounds_ne hp]
theorem lay_size (cells : Array Value) (off : Nat) (vs : Array Value) : (lay cells off vs).size = cells.size := by
 have := (lay_list off vs.toList 0 cells).1
 unfold lay
 rw [← Array.foldl_toList]
 simpa using this
theorem lay_get (cells : Array Value) (off : Nat) (vs : Array Value) (p : Nat) : (lay cells off vs)[p]? = if off ≤ p ∧ p < off + vs.size ∧ p < cells.size then vs[p - off]? else cells[p]? := by
 have := (lay_list off vs.toList 0 cells).2 p
 unfold lay
 rw [← Array.foldl_toList]
 simpa using this
theorem fill_cons {place : Nat → Option (Nat × Nat)} {cells : Array Value} {i off size : Nat} {v : Value} {rest : List (Nat × Value)} (hp : place i = some (off, size)) (hs : v.cells.size = size) (hb : off + v.cells.size ≤ cells.size) :
  Instr.fill place cells ((i, v) :: rest) = Instr.fill place (lay cells off v.cells) rest := by
 have h1 : ¬ (v.cells.size ≠ size ∨ off + v.cells.size > cells.size) := by omega
 simp only [Instr.fill, hp]
 have : (decide (v.cells.size ≠ size) || decide (off + v.cells.size > cells.size)) = false := by
  simp; omega
 simp only [lay]
 split
 · rename_i h; simp at h; omega
 · rfl
def decs (t : Ty) : List AV → Option (List t.T × Bool)
 | [] => some ([], true)
 | A :: r => match dec t A with
  | some (x, b) => match decs t r with
   | some (l, b') => some (x :: l, b && b')
   | none => none
  | none => none
theorem decs_ok {t : Ty} : ∀ {l : List AV} {xs : List t.T} {fr : Bool}, decs t l = some (xs, fr) → xs.length = l.length ∧ ∀ (i : Nat) (A : AV) (x : t.T), l[i]? = some A → xs[i]? = some x → ∃ b, dec t A = some (x, b) ∧ (fr = true → b = true)
 | [], xs, fr, h => by cases h; exact ⟨rfl, fun i A x hA => by simp at hA⟩
 | A :: r, xs, fr, h => by
  simp only [decs] at h
  split at h
  · rename_i x b1 hB
    split at h
    · rename_i l b2 hl
      cases h
      obtain ⟨h1, h2⟩ := decs_ok hl
      refine ⟨by simp [h1], fun i A' x' hA hx => ?_⟩
      cases i with
      | zero => simp at hA hx; subst hA; subst hx; exact ⟨b1, hB, fun h => by simp at h; exact h.1⟩
      | succ i => obtain ⟨b', h3, h4⟩ := h2 i A' x' (by simpa using hA) (by simpa using hx); exact ⟨b', h3, fun h => h4 (by simp at h; exact h.2)⟩
    · cases h
  · cases h
end Go.Vc
