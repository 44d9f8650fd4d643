/- One operation: which rule. No condition. -/
import Derived.Test.YtohfemfgnohhdaaVc16n
namespace Go.Vc
set_option linter.unusedVariables false
set_option linter.unusedSimpArgs false

/-- An operation that only adds to the state. 'fz': what it makes is taken as stable. -/
def pureVC (P : Program) (T : List (Nat × TE)) (Γ : Sy) (fz : Bool) (G : Path) (d : Nat) (o : Oper) (K : AV → List (Nat × Ob) → Prop) : Prop := match o.op with
  | .move x => withOp Γ G x fun A => K A []
  | .assign x => withOp Γ G x fun A => K A []
  | .pick z x y => pickVC Γ G z x y fun A => K A []
  | .binOp op t x y _ => withOp Γ G x fun A => withOp Γ G y fun B => binVC T G op t A B fun R => K R []
  | .unOp op _ x => withOp Γ G x fun A => notVC op G A fun R => K R []
  | .convert s e x => (get? T s).isSome = true ∧ withOp Γ G x fun A => convVC T G e A fun R => K R []
  | .load t x => withOp Γ G x fun A => loadVC T Γ.own G t A fun R => K R []
  | .indexAddr t x y => withOp Γ G x fun A => withOp Γ G y fun I => indexVC T Γ.own G t A I fun R => K R []
  | .fieldAddr s x f => withOp Γ G x fun A => fieldVC T s f A fun R => K R []
  | .extract x i => withOp Γ G x fun A => extractVC A i fun R => K R []
  | .slice t x lo hi mx => withOp Γ G x fun A => cutVC T Γ G t A lo hi mx fun R => K R []
  | .nilCheck x => withOp Γ G x fun A => nilVC A fun R => K R []
  | .makeFunc (.func f) first xs => first = #[] ∧ withOps Γ G xs.toList fun l => okCaps l = true ∧ K (.fn f l) []
  | .build t parts => withOps Γ G (parts.toList.map (·.2)) fun l => buildVC T Γ.own t parts.toList l fun R => K R []
  | .box t x => match fz with
    | false => withOp Γ G x fun A => boxVC Γ.own G d A K
    | true => False
  | .alloc t => match fz with
    | false => allocVC T G d t K
    | true => False
  | .makeSlice t x y => match fz with
    | false => withOp Γ G x fun A => withOp Γ G y fun B => makeVC T G d t A B K
    | true => False
  | .buildSlice t len parts => withOps Γ G (parts.toList.map (·.2)) fun l => litVC T fz G d t len parts.toList l K
  | .call c => match c.callee with
    | .builtin .len => match c.args.toList, c.argTypes.toList with
      | [x], [t] => withOp Γ G x fun A => lenVC T Γ.own t A fun R => K R []
      | _, _ => False
    | .builtin b => withOps Γ G c.args.toList fun l => minmaxVC b l fun R => K R []
    | .value f => withOp Γ G f fun F => withOps Γ G c.args.toList fun l => callVC P Γ.own fz G d F l K
    | _ => False
  | _ => False

theorem arr_of_list1 {α : Type} {xs : Array α} {x : α} (h : xs.toList = [x]) : xs = #[x] := by
  apply Array.ext'; simpa using h
theorem arr_of_list2 {α : Type} {xs : Array α} {x y : α} (h : xs.toList = [x, y]) : xs = #[x, y] := by
  apply Array.ext'; simpa using h

theorem pureVC.sound {P : Program} {T : List (Nat × TE)} (hT : TOk P T) {c : Cx} {o : Oper} {Γ : Sy} {fz : Bool} {G : Path} {d : Nat} {K : AV → List (Nat × Ob) → Prop} (h : pureVC P T Γ fz G d o K) :
    ∃ R N, (G.ok → Does P c o Γ R N) ∧ (G ≠ [] ∨ fz = true → N = []) ∧ K R N := by
  have one : (∃ R, (G.ok → Does P c o Γ R []) ∧ K R []) → ∃ R N, (G.ok → Does P c o Γ R N) ∧ (G ≠ [] ∨ fz = true → N = []) ∧ K R N := fun ⟨R, h1, h2⟩ => ⟨R, [], h1, fun _ => rfl, h2⟩
  have two : fz = false → (∃ R N, (G.ok → Does P c o Γ R N) ∧ (G ≠ [] → N = []) ∧ K R N) → ∃ R N, (G.ok → Does P c o Γ R N) ∧ (G ≠ [] ∨ fz = true → N = []) ∧ K R N := fun hf ⟨R, N, h1, h2, h3⟩ =>
    ⟨R, N, h1, fun h => h.elim h2 (fun h => by rw [hf] at h; cases h), h3⟩
  unfold pureVC at h
  split at h
  · rename_i x ho
    obtain ⟨A, h1, h2⟩ := withOp.ev (c := c) h
    exact one ⟨A, Does.move (.inl ho) h1, h2⟩
  · rename_i x ho
    obtain ⟨A, h1, h2⟩ := withOp.ev (c := c) h
    exact one ⟨A, Does.move (.inr ho) h1, h2⟩
  · rename_i z x y ho
    exact one (pickVC.sound ho h)
  · rename_i op t x y t' ho
    obtain ⟨A, h1, h2⟩ := withOp.ev (c := c) h
    obtain ⟨B, h3, h4⟩ := withOp.ev (c := c) h2
    exact one (binVC.sound hT ho h1 h3 h4)
  · rename_i op t x ho
    obtain ⟨A, h1, h2⟩ := withOp.ev (c := c) h
    exact one (notVC.sound ho h1 h2)
  · rename_i s e x ho
    obtain ⟨A, h1, h2⟩ := withOp.ev (c := c) h.2
    exact one (convVC.sound hT ho (Option.isSome_iff_exists.1 h.1) h1 h2)
  · rename_i t x ho
    obtain ⟨A, h1, h2⟩ := withOp.ev (c := c) h
    exact one (loadVC.sound hT ho h1 h2)
  · rename_i t x y ho
    obtain ⟨A, h1, h2⟩ := withOp.ev (c := c) h
    obtain ⟨B, h3, h4⟩ := withOp.ev (c := c) h2
    exact one (indexVC.sound hT ho h1 h3 h4)
  · rename_i s x f ho
    obtain ⟨A, h1, h2⟩ := withOp.ev (c := c) h
    exact one (fieldVC.sound hT ho h1 h2)
  · rename_i x i ho
    obtain ⟨A, h1, h2⟩ := withOp.ev (c := c) h
    exact one (extractVC.sound ho h1 h2)
  · rename_i t x lo hi mx ho
    obtain ⟨A, h1, h2⟩ := withOp.ev (c := c) h
    exact one (cutVC.sound hT ho h1 h2)
  · rename_i x ho
    obtain ⟨A, h1, h2⟩ := withOp.ev (c := c) h
    exact one (nilVC.sound ho h1 h2)
  · rename_i f first xs ho
    obtain ⟨hfi, h⟩ := h
    subst hfi
    obtain ⟨l, h1, h2, h3, h4⟩ := withOps.ev (c := c) h
    exact one ⟨_, makeFunc.sound ho h1 h2 h3, h4⟩
  · rename_i t parts ho
    obtain ⟨l, h1, h2, h3⟩ := withOps.ev (c := c) h
    exact one (buildVC.sound hT ho (by simpa using h1) h2 h3)
  · rename_i t x ho
    split at h
    · obtain ⟨A, h1, h2⟩ := withOp.ev2 (c := c) h
      exact two rfl (boxVC.sound ho h1 h2)
    · exact h.elim
  · rename_i t ho
    split at h
    · exact two rfl (allocVC.sound hT ho h)
    · exact h.elim
  · rename_i t x y ho
    split at h
    · obtain ⟨A, h1, h2⟩ := withOp.ev (c := c) h
      obtain ⟨B, h3, h4⟩ := withOp.ev (c := c) h2
      exact two rfl (makeVC.sound hT ho h1 h3 h4)
    · exact h.elim
  · rename_i t len parts ho
    obtain ⟨l, h1, h2, h3⟩ := withOps.ev (c := c) h
    exact litVC.sound hT ho (by simpa using h1) h2 h3
  · rename_i cl ho
    obtain ⟨callee, args, ats⟩ := cl
    dsimp only at h
    split at h
    · split at h
      · rename_i x t hx ht
        have := arr_of_list1 hx
        subst this
        have := arr_of_list1 ht
        subst this
        obtain ⟨A, h1, h2⟩ := withOp.ev (c := c) h
        exact one (lenVC.sound hT ho h1 h2)
      · exact h.elim
    · obtain ⟨l, h1, h2, h3⟩ := withOps.ev (c := c) h
      exact one (minmaxVC.sound ho h1 h2 h3)
    · obtain ⟨F, h1, h2⟩ := withOp.ev (c := c) h
      obtain ⟨l, h3, h4, h5⟩ := withOps.ev (c := c) h2
      exact callVC.sound ho h1 h3 h4 h5
    · exact h.elim
  · exact h.elim

/-- An operation that writes what the call owns. -/
def isMut (o : Oper) : Bool := match o.op with
  | .store _ _ _ => true
  | .call c => match c.callee with
    | .builtin .append => true
    | .builtin .copy => true
    | _ => false
  | _ => false
def mutVC (T : List (Nat × TE)) (n : Nat) (Γ : Sy) (d : Nat) (o : Oper) (K : Sy → Prop) : Prop := match o.op with
  | .store t x y => match o.dst with
    | none => withOp Γ [] x fun A => withOp Γ [] y fun B => match A with
      | .madr k i => mstoreVC T Γ t k i B K
      | A => storeVC T Γ t A B K
    | some _ => False
  | .makeSlice t x y => match o.dst with
    | none => False
    | some D => withOp Γ [] x fun A => withOp Γ [] y fun B => mmakeVC T Γ n d t A B D K
  | .call c => match c.callee, c.args.toList, c.argTypes.toList, o.dst with
    | .builtin .append, [s, x], [t, t'], some D => t' = t ∧ withOp Γ [] s fun A => withOp Γ [] x fun B => match A with
      | .inn k i => iappendVC T Γ n t k i B D K
      | A => appendVC T Γ n d t A B D K
    | .builtin .copy, [s, x], [dT, sT], some D => withOp Γ [] s fun A => withOp Γ [] x fun B => copyVC T Γ n dT A B D K
    | _, _, _, _ => False
  | _ => False
theorem mutVC.sound {P : Program} {T : List (Nat × TE)} (hT : TOk P T) {c : Cx} {o : Oper} {Γ : Sy} {d : Nat} {K : Sy → Prop} (h : mutVC T c.n Γ d o K) : ∃ Γ', Seq P c o Γ Γ' ∧ K Γ' := by
  unfold mutVC at h
  split at h
  · rename_i t x y ho
    split at h
    · rename_i hd
      obtain ⟨A, h1, h2⟩ := withOp.ev (c := c) h
      obtain ⟨B, h3, h4⟩ := withOp.ev (c := c) h2
      split at h4
      · exact mstoreVC.sound hT ho hd h1 h3 h4
      · exact storeVC.sound hT ho hd h1 h3 h4
    · exact h.elim
  · rename_i t x y ho
    split at h
    · exact h.elim
    · rename_i D hd
      obtain ⟨A, h1, h2⟩ := withOp.ev (c := c) h
      obtain ⟨B, h3, h4⟩ := withOp.ev (c := c) h2
      exact mmakeVC.sound hT ho hd h1 h3 h4
  · rename_i cl ho
    obtain ⟨callee, args, ats⟩ := cl
    dsimp only at h
    split at h
    · rename_i s x t t' D hx ht hd
      have := arr_of_list2 hx
      subst this
      have := arr_of_list2 ht
      subst this
      obtain ⟨rfl, h⟩ := h
      obtain ⟨A, h1, h2⟩ := withOp.ev (c := c) h
      obtain ⟨B, h3, h4⟩ := withOp.ev (c := c) h2
      split at h4
      · exact iappendVC.sound hT ho hd h1 h3 h4
      · exact appendVC.sound hT ho hd h1 h3 h4
    · rename_i s x dT sT D hx ht hd
      have := arr_of_list2 hx
      subst this
      have := arr_of_list2 ht
      subst this
      obtain ⟨A, h1, h2⟩ := withOp.ev (c := c) h
      obtain ⟨B, h3, h4⟩ := withOp.ev (c := c) h2
      exact copyVC.sound hT ho hd h1 h3 h4
    · exact h.elim
  · exact h.elim
end Go.Vc
