/- A small symbolic machine over the kit's rules: abstract values, what they say of a world, and that it stays true. No condition. -/
import Derived.Orders
import Derived.KernelRfl
import Derived.Laws.AppendOwn
import Derived.Laws.MakeOwn
import Derived.Laws.CopyOwn
import Derived.Laws.Slices
import Derived.OwnWalk
namespace Go.Vc
set_option linter.unusedVariables false
set_option linter.unusedSimpArgs false

abbrev Path := List (Bool × Bool)
def Path.ok : Path → Prop
  | [] => True
  | x :: r => x.1 = x.2 ∧ Path.ok r
instance Path.dec : (p : Path) → Decidable p.ok
  | [] => isTrue trivial
  | x :: r => by
    have := Path.dec r
    unfold Path.ok
    exact inferInstance

/-- The kinds of elements of a row: integers, bools, strings, rows, and records of these ('cons', 'nil'). -/
inductive Ty where
  | int (k : IntKind)
  | bool
  | str
  | sl (t : Ty)
  | nil
  | cons (h t : Ty)
  deriving DecidableEq
def Ty.T : Ty → Type
  | .int _ => Int
  | .bool => Bool
  | .str => ByteArray
  | .sl t => List t.T
  | .nil => Unit
  | .cons h t => h.T × t.T
def Ty.dflt : (t : Ty) → t.T
  | .int _ => (0 : Int)
  | .bool => false
  | .str => ByteArray.empty
  | .sl _ => []
  | .nil => ()
  | .cons h t => (h.dflt, t.dflt)
def Ty.size : Ty → Nat
  | .nil => 0
  | .cons _ t => t.size + 1
  | _ => 1
def Ty.zcells : Ty → List Value
  | .int k => [.int k 0]
  | .bool => [.bool false]
  | .str => [.string ByteArray.empty]
  | .sl _ => [.slice none 0 0]
  | .nil => []
  | .cons h t => h.zcells ++ t.zcells
def Ty.leaf : Ty → Bool
  | .nil => false
  | .cons _ _ => false
  | _ => true
def Ty.good : Ty → Bool
  | .nil => true
  | .cons h t => h.leaf && h.good && t.good && (match t with | .nil => true | .cons _ _ => true | _ => false)
  | .sl t => t.good
  | _ => true

/-- Stable values: nothing that the call writes turns them. -/
inductive SV where
  | lit (v : Value)
  | agg (l : List SV)
  | arr (t : Ty) (xs : List t.T)
  | narr (t : Ty) (xs : List t.T)
  | sadr (A : SV)
  | fn (f : Nat) (caps : List SV)

mutual
def Ty.enc : (t : Ty) → t.T → SV
  | .int k, (n : Int) => .lit (.int k n)
  | .bool, (b : Bool) => .lit (.bool b)
  | .str, (s : ByteArray) => .lit (.string s)
  | .sl t, (xs : List t.T) => .arr t xs
  | .nil, _ => .agg []
  | .cons h t, (x : h.T × t.T) => .agg (h.enc x.1 :: t.encL x.2)
def Ty.encL : (t : Ty) → t.T → List SV
  | .cons h t, (x : h.T × t.T) => h.enc x.1 :: t.encL x.2
  | _, _ => []
end

/-- Abstract values. 'fr': no block that is reached is one of those that a fresh value avoids. -/
inductive AV where
  | lit (v : Value)
  | st (fr : Bool) (A : SV)
  | fn (f : Nat) (caps : List AV)
  | own (k : Nat)
  | oadr (k es i j : Nat)
  | padr (k j : Nat)
  | tup (l : List AV)
  | strct (l : List AV)
  | gd (p : Path) (A : AV)
  | mown (k : Nat)
  | madr (k i : Nat)
  | inn (k i : Nat)
  | iadr (k i es j l : Nat)
  | any

inductive RpS (w : World) (O : Nat → Prop) : Value → SV → Prop
  | lit (v : Value) (h : v.oneCell' = true) : RpS w O v (.lit v)
  | agg (cs : Array Value) (l : List SV) (f : Nat → Value) (hs : cs.size = l.length)
      (hf : ∀ i, i < l.length → cs[i]? = some (f i) ∧ (f i).oneCell' = true) (hr : ∀ i B, l[i]? = some B → RpS w O (f i) B) : RpS w O (.agg cs) (.agg l)
  | nil (t : Ty) : RpS w O (.slice none 0 0) (.arr t [])
  | emp (t : Ty) (a : Addr) (cap : Nat) : RpS w O (.slice (some a) 0 cap) (.arr t [])
  | arr (b off cap n : Nat) (t : Ty) (xs : List t.T) (arr : Array Value) (e : TypeId) (fz : Nat × Nat) (f : Nat → Value)
      (hb : w.heap[b]? = some (.cells arr e fz)) (hO : ¬ O b) (hn : n = xs.length) (hc : n ≤ cap) (hm : cap ≤ maxLen)
      (hf : ∀ i, i < n → (f i).cells.size = t.size ∧ ∀ j, j < t.size → arr[off + (i * t.size + j)]? = (f i).cells[j]?)
      (hr : ∀ i x, xs[i]? = some x → RpS w O (f i) (t.enc x)) : RpS w O (.slice (some ⟨b, off, none⟩) n cap) (.arr t xs)
  | narr (t : Ty) (xs : List t.T) (v : Value) (h : RpS w O v (.arr t xs)) (hn : xs = [] → v = .slice none 0 0) : RpS w O v (.narr t xs)
  | sadr (b off : Nat) (A : SV) (x : Value) (arr : Array Value) (e : TypeId) (fz : Nat × Nat)
      (hb : w.heap[b]? = some (.cells arr e fz)) (hO : ¬ O b)
      (hf : ∀ j, j < x.cells.size → arr[off + j]? = x.cells[j]?) (hr : RpS w O x A) : RpS w O (.pointer (some ⟨b, off, none⟩)) (.sadr A)
  | fn (f : Nat) (caps : List SV) (cs : Array Value) (g : Nat → Value) (hs : cs.size = caps.length)
      (hf : ∀ i, i < caps.length → cs[i]? = some (g i)) (hr : ∀ i B, caps[i]? = some B → RpS w O (g i) B) : RpS w O (.func (.func f) #[] cs) (.fn f caps)

theorem RpS.mono {w w' : World} {O O' : Nat → Prop} (hw : ∀ b c e fz, w.heap[b]? = some (.cells c e fz) → ¬ O b → w'.heap[b]? = some (.cells c e fz) ∧ ¬ O' b)
    {v : Value} {A : SV} (h : RpS w O v A) : RpS w' O' v A := by
  induction h with
  | lit v h => exact .lit v h
  | agg cs l f hs hf _ ih => exact .agg cs l f hs hf ih
  | nil t => exact .nil t
  | emp t a cap => exact .emp t a cap
  | arr b off cap n t xs arr e fz f hb hO hn hc hm hf _ ih => exact .arr b off cap n t xs arr e fz f (hw _ _ _ _ hb hO).1 (hw _ _ _ _ hb hO).2 hn hc hm hf ih
  | narr t xs v _ hn ih => exact .narr t xs v ih hn
  | sadr b off A x arr e fz hb hO hf _ ih => exact .sadr b off A x arr e fz (hw _ _ _ _ hb hO).1 (hw _ _ _ _ hb hO).2 hf ih
  | fn f caps cs g hs hf _ ih => exact .fn f caps cs g hs hf ih

/-- The blocks that a stable value avoids: the call's own ones, and, if it is fresh, the given ones. -/
def Av (O O0 : Nat → Prop) (fr : Bool) (b : Nat) : Prop := O b ∨ (fr = true ∧ O0 b)

/-- The ghost of a row of rows is a tuple: the header of the outer row, and those of the inner ones. -/
def hd : Value → Value
  | .tuple cs => cs.getD 0 (.slice none 0 0)
  | v => v
def sub : Value → Nat → Value
  | .tuple cs, i => cs.getD (i + 1) (.slice none 0 0)
  | _, _ => .slice none 0 0
/-- One level above: references to what the call itself owns. 'g': for each key the header of an owned row, or the pointer to a boxed variable. -/
def Rp1 (w : World) (O O0 : Nat → Prop) (g : Nat → Value) (v : Value) : AV → Prop
  | .own k => v = g k
  | .oadr k es i j => ∃ b n c, g k = .slice (some ⟨b, 0, none⟩) n c ∧ v = .pointer (some ⟨b, i * es + j, none⟩)
  | .padr k j => ∃ b, g k = .pointer (some ⟨b, 0, none⟩) ∧ v = .pointer (some ⟨b, j, none⟩)
  | .mown k => v = hd (g k)
  | .madr k i => ∃ b n c, hd (g k) = .slice (some ⟨b, 0, none⟩) n c ∧ v = .pointer (some ⟨b, i, none⟩)
  | .inn k i => v = sub (g k) i
  | .iadr k i es j l => ∃ b n c, sub (g k) i = .slice (some ⟨b, 0, none⟩) n c ∧ v = .pointer (some ⟨b, j * es + l, none⟩)
  | .any => True
  | .lit u => v = u ∧ u.oneCell' = true
  | .st fr A => RpS w (Av O O0 fr) v A
  | _ => False
def RpM (w : World) (O O0 : Nat → Prop) (g : Nat → Value) (v : Value) : AV → Prop
  | .strct l => ∃ (f : Nat → Value) (vs : Array Value), v = .agg vs ∧ vs.size = l.length ∧ ∀ i B, l[i]? = some B → (vs[i]? = some (f i) ∧ (f i).oneCell' = true) ∧ Rp1 w O O0 g (f i) B
  | A => Rp1 w O O0 g v A
def Rp2 (w : World) (O O0 : Nat → Prop) (g : Nat → Value) (v : Value) : AV → Prop
  | .tup l => ∃ (f : Nat → Value) (vs : Array Value), v = .tuple vs ∧ vs.size = l.length ∧ ∀ i B, l[i]? = some B → vs[i]? = some (f i) ∧ RpM w O O0 g (f i) B
  | .fn m caps => ∃ (f : Nat → Value) (vs : Array Value), v = .func (.func m) #[] vs ∧ vs.size = caps.length ∧ ∀ i B, caps[i]? = some B → vs[i]? = some (f i) ∧ Rp1 w O O0 g (f i) B
  | A => RpM w O O0 g v A
def Rp (w : World) (O O0 : Nat → Prop) (g : Nat → Value) (v : Value) : AV → Prop
  | .gd p A => (p.ok → Rp2 w O O0 g v A) ∧ (¬ p.ok → v = undef)
  | A => Rp2 w O O0 g v A

/-- Does a value name key k? -/
def AV.key1 (k : Nat) : AV → Bool
  | .own k' => Nat.beq k' k
  | .oadr k' _ _ _ => Nat.beq k' k
  | .padr k' _ => Nat.beq k' k
  | .mown k' => Nat.beq k' k
  | .madr k' _ => Nat.beq k' k
  | .inn k' _ => Nat.beq k' k
  | .iadr k' _ _ _ _ => Nat.beq k' k
  | _ => false
def anyKey (k : Nat) : List AV → Bool
  | [] => false
  | A :: r => A.key1 k || anyKey k r
def AV.keyM (k : Nat) : AV → Bool
  | .strct l => anyKey k l
  | A => A.key1 k
def anyKeyM (k : Nat) : List AV → Bool
  | [] => false
  | A :: r => A.keyM k || anyKeyM k r
def AV.key2 (k : Nat) : AV → Bool
  | .tup l => anyKeyM k l
  | .fn _ l => anyKey k l
  | A => A.keyM k
def AV.hasKey (k : Nat) : AV → Bool
  | .gd _ A => A.key2 k
  | A => A.key2 k
theorem anyKey_of {k : Nat} : ∀ {l : List AV} {i : Nat} {B : AV}, l[i]? = some B → B.key1 k = true → anyKey k l = true
  | [], i, B, h, _ => by simp at h
  | A :: r, i, B, h, h1 => by
    cases i with
    | zero => simp at h; subst h; simp [anyKey, h1]
    | succ i => simp [anyKey, anyKey_of (l := r) (i := i) (B := B) (by simpa using h) h1]
theorem anyKeyM_of {k : Nat} : ∀ {l : List AV} {i : Nat} {B : AV}, l[i]? = some B → B.keyM k = true → anyKeyM k l = true
  | [], i, B, h, _ => by simp at h
  | A :: r, i, B, h, h1 => by
    cases i with
    | zero => simp at h; subst h; simp [anyKeyM, h1]
    | succ i => simp [anyKeyM, anyKeyM_of (l := r) (i := i) (B := B) (by simpa using h) h1]
def anyKey2 (k : Nat) : List AV → Bool
  | [] => false
  | A :: r => A.key2 k || anyKey2 k r
theorem anyKey2_of {k : Nat} : ∀ {l : List AV} {i : Nat} {B : AV}, l[i]? = some B → B.key2 k = true → anyKey2 k l = true
  | [], i, B, h, _ => by simp at h
  | A :: r, i, B, h, h1 => by
    cases i with
    | zero => simp at h; subst h; simp [anyKey2, h1]
    | succ i => simp [anyKey2, anyKey2_of (l := r) (i := i) (B := B) (by simpa using h) h1]
/-- What a value names reads as before. -/
def AV.same1 (g g' : Nat → Value) : AV → Prop
  | .own k => g' k = g k
  | .oadr k _ _ _ => g' k = g k
  | .padr k _ => g' k = g k
  | .mown k => hd (g' k) = hd (g k)
  | .madr k _ => hd (g' k) = hd (g k)
  | .inn k i => sub (g' k) i = sub (g k) i
  | .iadr k i _ _ _ => sub (g' k) i = sub (g k) i
  | _ => True
def AV.sameM (g g' : Nat → Value) : AV → Prop
  | .strct l => ∀ B ∈ l, AV.same1 g g' B
  | A => A.same1 g g'
def AV.same2 (g g' : Nat → Value) : AV → Prop
  | .tup l => ∀ B ∈ l, AV.sameM g g' B
  | .fn _ l => ∀ B ∈ l, AV.same1 g g' B
  | A => A.sameM g g'
def AV.same (g g' : Nat → Value) : AV → Prop
  | .gd _ A => A.same2 g g'
  | A => A.same2 g g'
theorem same1_of {g g' : Nat → Value} {A : AV} (hg : ∀ k, A.key1 k = true → g' k = g k) : A.same1 g g' := by
  cases A <;> simp only [AV.same1] <;> first | trivial | (rw [hg _ (by simp [AV.key1])])
theorem sameM_of {g g' : Nat → Value} {A : AV} (hg : ∀ k, A.keyM k = true → g' k = g k) : A.sameM g g' := by
  cases A with
  | strct l => exact fun B hB => same1_of fun k hk => let ⟨i, hi⟩ := List.getElem?_of_mem hB; hg k (anyKey_of hi hk)
  | _ => simp only [AV.sameM]; exact same1_of fun k hk => hg k (by simpa only [AV.keyM] using hk)
theorem same2_of {g g' : Nat → Value} {A : AV} (hg : ∀ k, A.key2 k = true → g' k = g k) : A.same2 g g' := by
  cases A with
  | tup l => exact fun B hB => sameM_of fun k hk => let ⟨i, hi⟩ := List.getElem?_of_mem hB; hg k (anyKeyM_of hi hk)
  | fn m l => exact fun B hB => same1_of fun k hk => let ⟨i, hi⟩ := List.getElem?_of_mem hB; hg k (anyKey_of hi hk)
  | _ => simp only [AV.same2]; exact sameM_of fun k hk => hg k (by simpa only [AV.key2] using hk)
theorem same_of {g g' : Nat → Value} {A : AV} (hg : ∀ k, A.hasKey k = true → g' k = g k) : A.same g g' := by
  cases A with
  | gd p A => exact same2_of fun k hk => hg k hk
  | _ => simp only [AV.same]; exact same2_of fun k hk => hg k (by simpa only [AV.hasKey] using hk)
section mono
variable {w w' : World} {O O' O0 O0' : Nat → Prop} {g g' : Nat → Value}
  (hw : ∀ b c e fz, w.heap[b]? = some (.cells c e fz) → ¬ O b → w'.heap[b]? = some (.cells c e fz) ∧ ¬ O' b)
  (h0 : ∀ b c e fz, w.heap[b]? = some (.cells c e fz) → ¬ O b → ¬ O0 b → ¬ O0' b)
include hw h0
theorem RpS.mono' {fr : Bool} {v : Value} {A : SV} (h : RpS w (Av O O0 fr) v A) : RpS w' (Av O' O0' fr) v A :=
  h.mono fun b c e fz hb hn => by
    have h1 := hw b c e fz hb (fun h => hn (.inl h))
    refine ⟨h1.1, fun h2 => ?_⟩
    rcases h2 with h2 | ⟨h2, h3⟩
    · exact h1.2 h2
    · exact h0 b c e fz hb (fun h => hn (.inl h)) (fun h => hn (.inr ⟨h2, h⟩)) h3
theorem Rp1.monoS {v : Value} {A : AV} (hg : A.same1 g g') (h : Rp1 w O O0 g v A) : Rp1 w' O' O0' g' v A := by
  cases A <;> simp only [Rp1, AV.same1] at h hg ⊢ <;> first | trivial | exact h | exact h.mono' hw h0 | (rw [hg]; exact h)
theorem RpM.monoS {v : Value} {A : AV} (hg : A.sameM g g') (h : RpM w O O0 g v A) : RpM w' O' O0' g' v A := by
  cases A with
  | strct l => obtain ⟨f, vs, h1, h2, h3⟩ := h; exact ⟨f, vs, h1, h2, fun i B hB => ⟨(h3 i B hB).1, Rp1.monoS hw h0 (hg B (List.mem_of_getElem? hB)) (h3 i B hB).2⟩⟩
  | _ => simp only [RpM] at h ⊢; exact Rp1.monoS hw h0 hg h
theorem Rp2.monoS {v : Value} {A : AV} (hg : A.same2 g g') (h : Rp2 w O O0 g v A) : Rp2 w' O' O0' g' v A := by
  cases A with
  | tup l => obtain ⟨f, vs, h1, h2, h3⟩ := h; exact ⟨f, vs, h1, h2, fun i B hB => ⟨(h3 i B hB).1, RpM.monoS hw h0 (hg B (List.mem_of_getElem? hB)) (h3 i B hB).2⟩⟩
  | fn m l => obtain ⟨f, vs, h1, h2, h3⟩ := h; exact ⟨f, vs, h1, h2, fun i B hB => ⟨(h3 i B hB).1, Rp1.monoS hw h0 (hg B (List.mem_of_getElem? hB)) (h3 i B hB).2⟩⟩
  | _ => simp only [Rp2] at h ⊢; exact RpM.monoS hw h0 hg h
theorem Rp.monoS {v : Value} {A : AV} (hg : A.same g g') (h : Rp w O O0 g v A) : Rp w' O' O0' g' v A := by
  cases A with
  | gd p A => exact ⟨fun hp => Rp2.monoS hw h0 hg (h.1 hp), h.2⟩
  | _ => simp only [Rp] at h ⊢; exact Rp2.monoS hw h0 hg h
theorem Rp1.mono {v : Value} {A : AV} (hg : ∀ k, A.key1 k = true → g' k = g k) (h : Rp1 w O O0 g v A) : Rp1 w' O' O0' g' v A := h.monoS hw h0 (same1_of hg)
theorem RpM.mono {v : Value} {A : AV} (hg : ∀ k, A.keyM k = true → g' k = g k) (h : RpM w O O0 g v A) : RpM w' O' O0' g' v A := h.monoS hw h0 (sameM_of hg)
theorem Rp2.mono {v : Value} {A : AV} (hg : ∀ k, A.key2 k = true → g' k = g k) (h : Rp2 w O O0 g v A) : Rp2 w' O' O0' g' v A := h.monoS hw h0 (same2_of hg)
theorem Rp.mono {v : Value} {A : AV} (hg : ∀ k, A.hasKey k = true → g' k = g k) (h : Rp w O O0 g v A) : Rp w' O' O0' g' v A := h.monoS hw h0 (same_of hg)
end mono

/-- Finite maps as lists. -/
def get? {α : Type} : List (Nat × α) → Nat → Option α
  | [], _ => none
  | (k, v) :: r, n => match Nat.beq k n with
    | true => some v
    | false => get? r n
def del {α : Type} : List (Nat × α) → Nat → List (Nat × α)
  | [], _ => []
  | (k, v) :: r, n => match Nat.beq k n with
    | true => del r n
    | false => (k, v) :: del r n
def set {α : Type} (l : List (Nat × α)) (k : Nat) (v : α) : List (Nat × α) := (k, v) :: l
theorem get?_del {α : Type} (l : List (Nat × α)) (k n : Nat) : get? (del l k) n = if n = k then none else get? l n := by
  induction l with
  | nil => simp [del, get?]
  | cons x r ih =>
    obtain ⟨k', v⟩ := x
    simp only [del]
    cases hk : Nat.beq k' k with
    | true =>
      have := Nat.eq_of_beq_eq_true hk
      subst this
      simp only [ih, get?]
      split
      · rfl
      · rename_i hne
        have : Nat.beq k' n = false := by
          cases h : Nat.beq k' n with
          | false => rfl
          | true => exact absurd (Nat.eq_of_beq_eq_true h).symm hne
        simp [this]
    | false =>
      simp only [get?, ih]
      cases h : Nat.beq k' n with
      | true =>
        have h1 := Nat.eq_of_beq_eq_true h
        subst h1
        have := Nat.ne_of_beq_eq_false hk
        simp [this]
      | false => rfl
theorem get?_set {α : Type} (l : List (Nat × α)) (k : Nat) (v : α) (n : Nat) : get? (set l k v) n = if n = k then some v else get? l n := by
  unfold set
  simp only [get?]
  cases h : Nat.beq k n with
  | true => simp [(Nat.eq_of_beq_eq_true h).symm]
  | false => have := Nat.ne_of_beq_eq_false h; simp [Ne.symm this]
theorem get?_append {α : Type} (l m : List (Nat × α)) (n : Nat) : get? (l ++ m) n = match get? l n with | some x => some x | none => get? m n := by
  induction l with
  | nil => rfl
  | cons x r ih =>
    obtain ⟨k, v⟩ := x
    simp only [List.cons_append, get?]
    cases Nat.beq k n <;> simp [ih]

/-- What the call owns: a row of elements (element type, their kind, whether they are fresh, the elements), or a boxed variable. -/
inductive Ob where
  | row (e : TypeId) (t : Ty) (fr : Bool) (xs : List t.T)
  /- a row of rows, all its own (the outer element type, the inner one; the place whose cell is behind) -/
  | mat (e e' : TypeId) (t : Ty) (fr : Bool) (xs : List (List t.T)) (st : Option Nat)
  | box (l : List AV)
  | box1 (A : AV)

def blk : Value → Option Nat
  | .slice (some a) _ _ => some a.block
  | .pointer (some a) => some a.block
  | _ => none

/-- The blocks of a ghost. -/
def Blk (v : Value) (b : Nat) : Prop := blk (hd v) = some b ∨ ∃ i, blk (sub v i) = some b
theorem Blk.single {v : Value} {b n : Nat} (h : blk v = some n) : Blk v b ↔ b = n := by
  have h0 : hd v = v ∧ ∀ i, blk (sub v i) = none := by
    cases v <;> first | exact ⟨rfl, fun _ => rfl⟩ | cases h
  constructor
  · rintro (h1 | ⟨i, h1⟩)
    · rw [h0.1, h] at h1; cases h1; rfl
    · rw [h0.2 i] at h1; cases h1
  · rintro rfl; exact .inl (by rw [h0.1, h])
theorem Blk.of {v : Value} {b : Nat} (h : blk v = some b) : Blk v b := (Blk.single h).2 rfl
theorem Blk.nil {b n c : Nat} (h : Blk (.slice none n c) b) : False := by
  rcases h with h | ⟨i, h⟩ <;> cases h
structure Sy where
  tmps : List (Nat × AV)
  own : List (Nat × Ob)

/-- The call's own things: the world at its begin, its frame's size, the blocks that a fresh value avoids. -/
structure Cx where
  w0 : World
  n : Nat
  O0 : Nat → Prop
  K : Nat → Option (Array Value × TypeId × (Nat × Nat)) := fun _ => none

/-- The world grows; nothing that was there has turned. -/
def Keep (w w' : World) : Prop := w.grownBy w' none
theorem Keep.b {w w' : World} (h : Keep w w') : ∀ b, b < w.heap.size → w'.heap[b]? = w.heap[b]? := fun b hb => h.block b hb (by simp)
theorem Keep.refl (w : World) : Keep w w := ⟨rfl, rfl, rfl, Nat.le_refl _, fun _ _ _ => rfl⟩
theorem Keep.trans {a b c : World} (h : Keep a b) (h' : Keep b c) : Keep a c :=
  ⟨h'.os.trans h.os, h'.tape.trans h.tape, h'.output.trans h.output, Nat.le_trans h.size h'.size, fun i hi _ => (h'.b i (Nat.lt_of_lt_of_le hi h.size)).trans (h.b i hi)⟩
theorem Keep.alloc (w : World) (o : Obj) : Keep w (w.alloc o) := World.grownBy_alloc w o none
theorem Keep.drew (w : World) : Keep w w.drew := ⟨rfl, rfl, rfl, Nat.le_refl _, fun _ _ _ => rfl⟩

def Oset (own : List (Nat × Ob)) (g : Nat → Value) (b : Nat) : Prop := ∃ k o, get? own k = some o ∧ Blk (g k) b

/-- The elements of a row: 'cell p' is its p-th cell. -/
def Cells (w : World) (O : Nat → Prop) (cell : Nat → Option Value) (t : Ty) (xs : List t.T) : Prop :=
  ∃ f : Nat → Value, (∀ i, i < xs.length → (f i).cells.size = t.size ∧ ∀ j, j < t.size → cell (i * t.size + j) = (f i).cells[j]?) ∧ ∀ i x, xs[i]? = some x → RpS w O (f i) (t.enc x)

def RowOk (w : World) (base : Nat) (O O0 : Nat → Prop) (v : Value) (e : TypeId) (t : Ty) (fr : Bool) (l : List t.T) : Prop :=
  ∃ xs, w.ownsRow base e t.size v l.length xs ∧ (∀ x ∈ xs, x.oneCell' = true) ∧ Cells w (Av O O0 fr) (fun p => xs[p]?) t l
def OwnOk (w : World) (base : Nat) (O O0 : Nat → Prop) (g : Nat → Value) (v : Value) : Ob → Prop
  | .row e t fr l => RowOk w base O O0 v e t fr l
  | .mat e e' t fr xs st => (∃ cells, w.ownsRow base e 1 (hd v) xs.length cells ∧ (∀ x ∈ cells, x.oneCell' = true) ∧ ∀ i, i < xs.length → st ≠ some i → cells[i]? = some (sub v i)) ∧
      (∀ i, RowOk w base O O0 (sub v i) e' t fr (xs.getD i [])) ∧ (∀ i j b, blk (sub v i) = some b → blk (sub v j) = some b → i = j) ∧ (∀ i b, blk (sub v i) = some b → blk (hd v) ≠ some b)
  | .box l => ∃ b arr e, v = .pointer (some ⟨b, 0, none⟩) ∧ base ≤ b ∧ w.heap[b]? = some (.cells arr e (0, 0)) ∧
      arr.size = l.length ∧ ∀ (i : Nat) (B : AV), l[i]? = some B → ∃ x, arr[i]? = some x ∧ x.oneCell' = true ∧ Rp2 w O O0 g x B
  | .box1 A => ∃ b x e, v = .pointer (some ⟨b, 0, none⟩) ∧ base ≤ b ∧ w.heap[b]? = some (.cells #[x] e (0, 0)) ∧ x.oneCell' = true ∧ Rp2 w O O0 g x A

structure Hp (base : Nat) (O0 : Nat → Prop) (own : List (Nat × Ob)) (g : Nat → Value) (w : World) : Prop where
  ok : ∀ k o, get? own k = some o → OwnOk w base (Oset own g) O0 g (g k) o
  inj : ∀ k k' o o' b, get? own k = some o → get? own k' = some o' → Blk (g k) b → Blk (g k') b → k = k'

structure St (c : Cx) (Γ : Sy) (g : Nat → Value) (a : Act) (w : World) : Prop where
  defers : a.defers = []
  size : a.tmps.size = c.n
  keep : Keep c.w0 w
  o0 : ∀ b, c.O0 b → b < c.w0.heap.size
  tmps : ∀ t A, get? Γ.tmps t = some A → Rp w (Oset Γ.own g) c.O0 g (a.tmps.getD t undef) A
  kept : ∀ b x, c.K b = some x → w.heap[b]? = some (.cells x.1 x.2.1 x.2.2) ∧ ¬ Oset Γ.own g b
  hp : Hp c.w0.heap.size c.O0 Γ.own g w

def Ob.hasKey (k : Nat) : Ob → Bool
  | .row .. => false
  | .mat .. => false
  | .box l => anyKey2 k l
  | .box1 A => A.key2 k

def Ob.same (g g' : Nat → Value) : Ob → Prop
  | .row .. => True
  | .mat .. => True
  | .box l => ∀ B ∈ l, AV.same2 g g' B
  | .box1 A => A.same2 g g'
theorem Ob.same_of {g g' : Nat → Value} {o : Ob} (hg : ∀ k, o.hasKey k = true → g' k = g k) : o.same g g' := by
  cases o with
  | row => trivial
  | mat => trivial
  | box l => exact fun B hB => same2_of fun k hk => let ⟨i, hi⟩ := List.getElem?_of_mem hB; hg k (anyKey2_of hi hk)
  | box1 A => exact same2_of fun k hk => hg k hk
theorem ownsRow_mono {w w' : World} {base e size n : Nat} {v : Value} {xs : List Value} (hb : ∀ b, blk v = some b → w'.heap[b]? = w.heap[b]?) (h : w.ownsRow base e size v n xs) : w'.ownsRow base e size v n xs := by
  refine ⟨h.1, ?_⟩
  rcases h.2 with hn | ⟨b, cap, cur, rfl, h2, h3, h4⟩
  · exact .inl hn
  · exact .inr ⟨b, cap, cur, rfl, h2, (hb b rfl).trans h3, h4⟩
section own
variable {w w' : World} {O O' O0 O0' : Nat → Prop} {g g' : Nat → Value}
  (hw : ∀ b c e fz, w.heap[b]? = some (.cells c e fz) → ¬ O b → w'.heap[b]? = some (.cells c e fz) ∧ ¬ O' b)
  (h0 : ∀ b c e fz, w.heap[b]? = some (.cells c e fz) → ¬ O b → ¬ O0 b → ¬ O0' b)
include hw h0
theorem Cells.mono {cell : Nat → Option Value} {t : Ty} {fr : Bool} {l : List t.T} (h : Cells w (Av O O0 fr) cell t l) : Cells w' (Av O' O0' fr) cell t l :=
  let ⟨f, h1, h2⟩ := h
  ⟨f, h1, fun i B hB => (h2 i B hB).mono' hw h0⟩
theorem RowOk.mono {base : Nat} {v : Value} {e : TypeId} {t : Ty} {fr : Bool} {l : List t.T} (hb : ∀ b, blk v = some b → w'.heap[b]? = w.heap[b]?) (h : RowOk w base O O0 v e t fr l) : RowOk w' base O' O0' v e t fr l := by
  obtain ⟨xs, ho, h1, hc⟩ := h
  exact ⟨xs, ownsRow_mono hb ho, h1, hc.mono hw h0⟩
/-- An owned thing whose own blocks read as before. -/
theorem OwnOk.monoS {base : Nat} {v : Value} {o : Ob} (hb : ∀ b, Blk v b → w'.heap[b]? = w.heap[b]?) (hg : o.same g g')
    (h : OwnOk w base O O0 g v o) : OwnOk w' base O' O0' g' v o := by
  cases o with
  | row e t fr l => exact RowOk.mono hw h0 (fun b h => hb b (.of h)) h
  | mat e e' t fr xs st =>
    obtain ⟨⟨cells, h1, h2, h3⟩, h4, h5, h6⟩ := h
    exact ⟨⟨cells, ownsRow_mono (fun b h => hb b (.inl h)) h1, h2, h3⟩, fun i => RowOk.mono hw h0 (fun b h => hb b (.inr ⟨i, h⟩)) (h4 i), h5, h6⟩
  | box l =>
    obtain ⟨b, arr, e, rfl, h1, h2, h3, h4⟩ := h
    exact ⟨b, arr, e, rfl, h1, (hb b (.inl rfl)).trans h2, h3, fun i B hB => let ⟨x, h5, h6, h7⟩ := h4 i B hB; ⟨x, h5, h6, h7.monoS hw h0 (hg B (List.mem_of_getElem? hB))⟩⟩
  | box1 A =>
    obtain ⟨b, x, e, rfl, h1, h2, h3, h4⟩ := h
    exact ⟨b, x, e, rfl, h1, (hb b (.inl rfl)).trans h2, h3, h4.monoS hw h0 hg⟩
theorem OwnOk.mono {base : Nat} {v : Value} {o : Ob} (hb : ∀ b, Blk v b → w'.heap[b]? = w.heap[b]?) (hg : ∀ k, o.hasKey k = true → g' k = g k)
    (h : OwnOk w base O O0 g v o) : OwnOk w' base O' O0' g' v o := h.monoS hw h0 hb (Ob.same_of hg)
end own
end Go.Vc
