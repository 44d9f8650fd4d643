/- What an operation does to the symbolic state of Vc1: structs, new rows, functions, cuts. No condition. -/
import Derived.Test.YtohfemfgnohhdaaVc8
namespace Go.Vc
set_option linter.unusedVariables false
set_option linter.unusedSimpArgs false

/-- A function value. -/
def okCaps : List AV → Bool
  | [] => true
  | .tup _ :: _ => false
  | .strct _ :: _ => false
  | .fn _ _ :: _ => false
  | .gd _ _ :: _ => false
  | _ :: r => okCaps r
theorem okCaps_get {w : World} {O O0 : Nat → Prop} {g : Nat → Value} {x : Value} : ∀ {l : List AV} {i : Nat} {B : AV}, okCaps l = true → l[i]? = some B → Rp2 w O O0 g x B → Rp1 w O O0 g x B
  | [], _, _, _, h, _ => by simp at h
  | A :: r, 0, B, hl, h, hr => by
    simp at h
    subst h
    cases A <;> first | exact hr | cases hl
  | A :: r, i + 1, B, hl, h, hr => okCaps_get (l := r) (i := i) (by cases A <;> first | exact hl | cases hl) (by simpa using h) hr
theorem makeFunc.sound {P : Program} {c : Cx} {o : Oper} {Γ : Sy} {G : Path} {f : Nat} {xs : Array Operand} {l : List AV} (ho : o.op = .makeFunc (.func f) #[] xs) (hl : l.length = xs.toList.length)
    (hx : ∀ (i : Nat) (x : Operand) (A : AV), xs.toList[i]? = some x → l[i]? = some A → Ev c Γ G x A) (hok : okCaps l = true) : G.ok → Does P c o Γ (.fn f l) [] := by
  intro hG
  refine Does.value fun Γ' g a w hlk _ hst => ⟨.func (.func f) #[] (xs.map a.eval), by simp [execOp, ho, Instr.makeFunc], ?_⟩
  refine ⟨fun i => (xs.map a.eval).getD i undef, xs.map a.eval, rfl, by simp [hl], fun i B hB => ?_⟩
  have hi : i < xs.toList.length := by rw [← hl]; exact (List.getElem?_eq_some_iff.1 hB).1
  have hi' : i < xs.size := by simpa using hi
  have h1 := hx i xs[i] B (by simp [hi']) hB hG Γ' g a w (hlk _ (by simp [ho, Op.operands])) hst
  have h2 : (xs.map a.eval)[i]? = some (a.eval xs[i]) := by simp [hi']
  simp only [Array.getD_eq_getD_getElem?, h2, Option.getD_some]
  exact ⟨trivial, okCaps_get hok hB h1⟩

/-- A pointer that is not nil. -/
def nilVC (A : AV) (K : AV → Prop) : Prop := match A with
  | .padr k j => K (.padr k j)
  | .st fr (.sadr B) => K (.st fr (.sadr B))
  | .oadr k es i j => K (.oadr k es i j)
  | .fn f l => K (.fn f l)
  | _ => False
theorem nilVC.sound {P : Program} {c : Cx} {o : Oper} {Γ : Sy} {G : Path} {x : Operand} {A : AV} {K : AV → Prop} (ho : o.op = .nilCheck x) (hx : Ev c Γ G x A) (h : nilVC A K) : ∃ R, (G.ok → Does P c o Γ R []) ∧ K R := by
  have fin : (∀ Γ' g a w, St c Γ' g a w → Rp2 w (Oset Γ'.own g) c.O0 g (a.eval x) A → ((∃ p, a.eval x = .pointer (some p)) ∨ ∃ f cs, a.eval x = .func (.func f) #[] cs)) → (G.ok → Does P c o Γ A []) := by
    intro hp hG
    refine Does.value fun Γ' g a w hl _ hst => ?_
    have h1 := hx hG Γ' g a w (hl x (by simp [ho, Op.operands])) hst
    refine ⟨_, ?_, h1⟩
    rcases hp Γ' g a w hst h1 with ⟨p, hv⟩ | ⟨f, cs, hv⟩ <;> simp [execOp, ho, hv]
  unfold nilVC at h
  split at h
  · exact ⟨_, fin fun Γ' g a w hst h1 => by obtain ⟨b, _, h2⟩ := h1; exact .inl ⟨_, h2⟩, h⟩
  · rename_i fr B
    refine ⟨_, fin fun Γ' g a w hst h1 => ?_, h⟩
    have h1' : RpS w (Av (Oset Γ'.own g) c.O0 fr) (a.eval x) (.sadr B) := h1
    generalize a.eval x = v at h1'
    cases h1' with | sadr b off => exact .inl ⟨_, rfl⟩
  · exact ⟨_, fin fun Γ' g a w hst h1 => by obtain ⟨b, _, _, _, h2⟩ := h1; exact .inl ⟨_, h2⟩, h⟩
  · exact ⟨_, fin fun Γ' g a w hst h1 => by obtain ⟨_, vs, h2, _⟩ := h1; exact .inr ⟨_, _, h2⟩, h⟩
  · exact h.elim

/-- A cut of a stable row. -/
def bound (Γ : Sy) (G : Path) (x : Option Operand) (n : Int) (K : Int → Prop) : Prop := match x with
  | none => K n
  | some x => withOp Γ G x fun A => match A with
    | .lit (.int _ i) => K i
    | _ => False
def cutVC (T : List (Nat × TE)) (Γ : Sy) (G : Path) (t : TypeId) (A : AV) (lo hi mx : Option Operand) (K : AV → Prop) : Prop := match mx with
  | some _ => False
  | none => match get? T t with
    | some { kind := .sl e, .. } => match get? T e with
      | some te => match A with
        | .st fr (.arr τ xs) => te.size = τ.size ∧ bound Γ G lo 0 fun l => bound Γ G hi xs.length fun h => G.imp (0 ≤ l ∧ l ≤ h ∧ h ≤ xs.length) ∧ K (.st fr (.arr τ ((xs.take h.toNat).drop l.toNat)))
        | _ => False
      | none => False
    | _ => False

theorem bound.ev {c : Cx} {Γ : Sy} {G : Path} {x : Option Operand} {n : Int} {K : Int → Prop} (h : bound Γ G x n K) : ∃ i, K i ∧ (match x with | none => i = n | some x => ∃ k, Ev c Γ G x (.lit (.int k i))) := by
  unfold bound at h
  split at h
  · exact ⟨n, h, rfl⟩
  · obtain ⟨A, h1, h2⟩ := withOp.ev (c := c) h
    split at h2
    · rename_i k i; exact ⟨i, h2, k, h1⟩
    · exact h2.elim

theorem run_cut {P : Program} {t e : TypeId} {te : TE} (hu : P.underlying t = some (.slice e)) (he : te.ok P e) {w : World} {ad : Option Addr} {n cp : Nat} {l h : Int} (h0 : 0 ≤ l) (h1 : l ≤ h) (h2 : h ≤ n) (hn : n ≤ cp) {lo hi : Option Value}
    (hlo : (lo = none ∧ l = 0) ∨ ∃ k, lo = some (.int k l)) (hhi : (hi = none ∧ h = n) ∨ ∃ k, hi = some (.int k h)) :
    (Instr.sliceAt t (.slice ad n cp) lo hi none).run P w = .ok (.slice (if cp = l.toNat then ad else ad.map (·.add (l.toNat * te.size))) (h.toNat - l.toNat) (cp - l.toNat)) w := by
  obtain ⟨j, hj, _, hs, _⟩ := he.info
  have hhc : h ≤ (cp : Int) := by omega
  have h0h : 0 ≤ h := by omega
  have hlh : l ≤ max h 0 := by omega
  have hlh' : ¬ max h 0 < l := by omega
  rcases hlo with ⟨rfl, rfl⟩ | ⟨kl, rfl⟩ <;> rcases hhi with ⟨rfl, rfl⟩ | ⟨kh, rfl⟩ <;>
    simp [Instr.sliceAt, run_underlying hu, Instr.slice, Instr.sliceBounds, Instr.sliceBound, asIntOf, sizeOf, typeInfo, hj, hs, h0, h1, h2, hhc, h0h, hlh, hlh']

theorem RpS.cut {w : World} {O : Nat → Prop} {v : Value} {τ : Ty} {xs : List τ.T} (h : RpS w O v (.arr τ xs)) {l m : Nat} (hlm : l ≤ m) (hm : m ≤ xs.length) :
    ∃ ad cp, v = .slice ad xs.length cp ∧ xs.length ≤ cp ∧ RpS w O (.slice (if cp = l then ad else ad.map (·.add (l * τ.size))) (m - l) (cp - l)) (.arr τ ((xs.take m).drop l)) := by
  cases h with
  | nil =>
    refine ⟨none, 0, rfl, Nat.le_refl _, ?_⟩
    simp at hm
    subst hm
    have : l = 0 := by omega
    subst this
    simp
    exact .nil τ
  | emp _ ad cap =>
    refine ⟨some ad, cap, rfl, Nat.zero_le _, ?_⟩
    simp at hm
    subst hm
    have : l = 0 := by omega
    subst this
    split
    · exact .emp τ _ _
    · exact .emp τ _ _
  | arr b off cap n _ _ arr e fz f hb hO hn hc hm' hf hr =>
    subst hn
    refine ⟨_, cap, rfl, hc, ?_⟩
    have key : ∀ off', (m - l = 0 ∨ off' = off + l * τ.size) → RpS w O (.slice (some ⟨b, off', none⟩) (m - l) (cap - l)) (.arr τ ((xs.take m).drop l)) := by
      intro off' ho
      refine .arr b off' (cap - l) (m - l) τ _ arr e fz (fun i => f (l + i)) hb hO (by simp; omega) (by omega) (by omega) (fun i hi => ?_) (fun i x hx => ?_)
      · rcases ho with ho | rfl
        · omega
        · obtain ⟨h1, h2⟩ := hf (l + i) (by omega)
          refine ⟨h1, fun j hj => ?_⟩
          rw [← h2 j hj, Nat.add_mul]
          congr 1
          omega
      · rw [List.getElem?_drop, List.getElem?_take] at hx
        split at hx
        · exact hr _ x hx
        · cases hx
    split
    · rename_i hcl
      exact key off (.inl (by omega))
    · simp only [Option.map_some, Addr.add_lit]
      exact key _ (.inr rfl)

theorem cutVC.sound {P : Program} {T : List (Nat × TE)} (hT : TOk P T) {c : Cx} {o : Oper} {Γ : Sy} {G : Path} {t : TypeId} {x : Operand} {lo hi mx : Option Operand} {A : AV} {K : AV → Prop} (ho : o.op = .slice t x lo hi mx)
    (hx : Ev c Γ G x A) (h : cutVC T Γ G t A lo hi mx K) : ∃ R, (G.ok → Does P c o Γ R []) ∧ K R := by
  unfold cutVC at h
  split at h
  · exact h.elim
  · split at h
    · rename_i e sz by_ ze ty ht
      have hu := (hT _ _ ht).sl rfl
      split at h
      · rename_i te hte
        have he := hT _ _ hte
        split at h
        · rename_i fr τ xs
          obtain ⟨hsz, h⟩ := h
          obtain ⟨l, h, hl⟩ := bound.ev (c := c) h
          obtain ⟨m, h, hm⟩ := bound.ev (c := c) h
          obtain ⟨hb, hK⟩ := h
          refine ⟨.st fr (.arr τ ((xs.take m.toNat).drop l.toNat)), fun hG => Does.value fun Γ' g a w hlk _ hst => ?_, hK⟩
          obtain ⟨h0, h1, h2⟩ := Path.imp_ok hb hG
          have hxv : RpS w (Av (Oset Γ'.own g) c.O0 fr) (a.eval x) (.arr τ xs) := hx hG Γ' g a w (hlk x (by simp [ho, Op.operands])) hst
          obtain ⟨ad, cp, h3, h4, h5⟩ := RpS.cut hxv (l := l.toNat) (m := m.toNat) (by omega) (by omega)
          have hlo : (lo.map a.eval = none ∧ l = 0) ∨ ∃ k, lo.map a.eval = some (.int k l) := by
            cases lo with
            | none => exact .inl ⟨rfl, hl⟩
            | some y =>
              obtain ⟨k, hk⟩ := hl
              have := hk hG Γ' g a w (hlk y (by simp [ho, Op.operands])) hst
              simp only [Rp2, Rp1] at this
              exact .inr ⟨k, by simp [this.1]⟩
          have hhi : (hi.map a.eval = none ∧ m = xs.length) ∨ ∃ k, hi.map a.eval = some (.int k m) := by
            cases hi with
            | none => exact .inl ⟨rfl, hm⟩
            | some y =>
              obtain ⟨k, hk⟩ := hm
              have := hk hG Γ' g a w (hlk y (by simp [ho, Op.operands])) hst
              simp only [Rp2, Rp1] at this
              exact .inr ⟨k, by simp [this.1]⟩
          have hrun := run_cut (w := w) (ad := ad) hu he h0 h1 h2 h4 hlo hhi
          rw [hsz] at hrun
          refine ⟨_, ?_, h5⟩
          simp only [execOp, ho, h3]
          simp only [Option.map_none, Sem.run_bind, hrun, Result.andThen_ok, Sem.run_pure]
        · exact h.elim
      · exact h.elim
    · exact h.elim
end Go.Vc
