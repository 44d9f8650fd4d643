/- Joined of: Se5 Sd1 Sm8 Sm9 Sc1 Sc2 S31 S32 S11 S13 S34. No condition. -/
import Derived.Test.YtdfajcfkdfjoeaaJ5

/- At most n + 2 faces; two colours; faces with all signs changed. No condition. -/
namespace Go.Scr
set_option linter.unusedVariables false
set_option linter.unusedSimpArgs false

theorem FK.disj {nx : Int → Int} {m k : Nat} {F : List (List Int)} (h : FK nx m k F) {i j : Nat} (hi : i < F.length) (hj : j < F.length) {x : Int} (h1 : x ∈ F.getD i []) (h2 : x ∈ F.getD j []) : i = j := by
  have hp := (List.pairwise_flatten.1 h.nd).2
  rw [List.pairwise_iff_getElem] at hp
  rw [List.getD_eq_getElem?_getD, List.getElem?_eq_getElem hi] at h1
  rw [List.getD_eq_getElem?_getD, List.getElem?_eq_getElem hj] at h2
  rcases Nat.lt_trichotomy i j with hlt | he | hlt
  · exact absurd rfl (hp i j hi hj hlt x h1 x h2)
  · exact he
  · exact absurd rfl (hp j i hj hi hlt x h2 x h1)
theorem Fac.head {nx : Int → Int} {m : Nat} {f : List Int} (h : Fac nx m f) : f.getD 0 0 ∈ f := mem_getD (List.length_pos_iff.2 h.ne)
theorem getD_mem' {F : List (List Int)} {i : Nat} (h : i < F.length) : F.getD i [] ∈ F := by
  rw [List.getD_eq_getElem?_getD, List.getElem?_eq_getElem h]; exact List.getElem_mem h
theorem mem_true {c : List Bool} (h : ∀ i, i < c.length → c.getD i false = false) : ¬ true ∈ c := fun hc => by
  obtain ⟨i, hi, e⟩ := List.getElem_of_mem hc
  have := h i hi
  rw [List.getD_eq_getElem?_getD, List.getElem?_eq_getElem hi] at this
  simp [e] at this
theorem rel {w s : List Int} {n : Nat} (h : Word w n) (hs : s.all (fun x => decide (x = 1) || decide (x = -1)) = true) (hl : s.length = n) {k : Nat} {f0 : List Int} {fs : List (List Int)} (hF : FK (nextT w s) (2 * n) k (f0 :: fs))
    {c0 : Bool} {c1 c2 : List Bool} (l1 : c1.length = fs.length) (l2 : c2.length = (tree w n).length) (h0 : ∀ e, e < 2 * n → (c0 ^^ (comb c1 (fs.map dv) e ^^ comb c2 ((tree w n).map uv) e)) = false) :
    (∀ e : Nat, e < 2 * n → (comb c1 (fs.map ind) (e : Int) ^^ comb c1 (fs.map ind) (-1 - (e : Int))) = c0) ∧ (c0 = false → ¬ true ∈ c1 ∧ ¬ true ∈ c2) := by
  have hX : Cl (nextT w s) (2 * n) (comb c1 (fs.map ind)) := comb_cl fun f hf => hF.fac f (by simp [hf])
  have hz := tree_zero h hs hl (z := fun e => c0 ^^ (comb c1 (fs.map ind) (e : Int) ^^ comb c1 (fs.map ind) (-1 - (e : Int)))) (fun x p q hx C => even_at C hX fun e => rfl) (fun e he hn => by
    have := h0 e he
    rw [comb_uv hn, comb_dv] at this
    simpa using this) (2 * n)
  have hz2 : ∀ e : Nat, e < 2 * n → (comb c1 (fs.map ind) (e : Int) ^^ comb c1 (fs.map ind) (-1 - (e : Int))) = c0 := fun e he => by
    have := hz e he (by omega)
    revert this
    cases (comb c1 (fs.map ind) (e : Int) ^^ comb c1 (fs.map ind) (-1 - (e : Int))) <;> cases c0 <;> simp
  refine ⟨hz2, fun hc => ?_⟩
  subst hc
  have hc := conn h hs hl hX fun e he => by
    have := hz2 e he
    revert this
    cases comb c1 (fs.map ind) (e : Int) <;> cases comb c1 (fs.map ind) (-1 - (e : Int)) <;> simp
  have hrg : ∀ f, f ∈ f0 :: fs → ∀ x ∈ f, -((2 * n : Nat) : Int) ≤ x ∧ x < (2 * n : Nat) := fun f hf x hx => hF.rg x (List.mem_flatten.2 ⟨f, hf, hx⟩)
  have hh := (hF.fac f0 (by simp)).head
  have hX0 : comb c1 (fs.map ind) (f0.getD 0 0) = false := comb_zero fun v hv => by
    obtain ⟨f, hf, rfl⟩ := List.mem_map.1 hv
    unfold ind; rw [decide_eq_false]
    intro hm
    obtain ⟨i, hi, e⟩ := List.getElem_of_mem hf
    have := hF.disj (i := 0) (j := i + 1) (by simp) (by simp; omega) (x := f0.getD 0 0) (by simpa using hh) (by simp [hi, e]; simpa using hm)
    omega
  have hX1 : ∀ st, -((2 * n : Nat) : Int) ≤ st → st < (2 * n : Nat) → comb c1 (fs.map ind) st = false := fun st g0 g1 => by
    have r0 := hrg f0 (by simp) _ hh
    rw [hc st g0 g1, ← hc _ r0.1 r0.2, hX0]
  have n1 : ¬ true ∈ c1 := mem_true fun i hi => by
    have hi2 : i < fs.length := by omega
    have hm := (hF.fac (fs.getD i []) (List.mem_cons_of_mem _ (getD_mem' hi2))).head
    have r := hrg (fs.getD i []) (List.mem_cons_of_mem _ (getD_mem' hi2)) _ hm
    rw [← comb_at (L := fs.map ind) (i := i) (j := (fs.getD i []).getD 0 0) (by simpa using l1) (by simpa using hi2) fun k hk => ?_, hX1 _ r.1 r.2]
    simp only [List.length_map] at hk
    have e : (fs.map ind).getD k (fun _ => false) = ind (fs.getD k []) := by
      simp [List.getD_eq_getElem?_getD, List.getElem?_eq_getElem hk]
    rw [e]
    constructor
    · intro g
      have := hF.disj (i := i + 1) (j := k + 1) (by simp; omega) (by simp; omega) (x := (fs.getD i []).getD 0 0) (by simpa using hm) (by simpa [ind] using g)
      omega
    · rintro rfl; unfold ind; simpa using hm
  refine ⟨n1, mem_true fun i hi => ?_⟩
  have hi2 : i < (tree w n).length := by omega
  have ht : (tree w n).getD i 0 ∈ tree w n := by rw [List.getD_eq_getElem?_getD, List.getElem?_eq_getElem hi2]; exact List.getElem_mem hi2
  have hlt := tree_lt h _ ht
  have h3 := h0 _ hlt
  rw [comb_dv, hX1 _ (by omega) (by omega), hX1 _ (by omega) (by omega)] at h3
  rw [comb_at (L := (tree w n).map uv) (i := i) (by simpa using l2) (by simpa using hi2) fun k hk => ?_] at h3
  · simpa using h3
  · simp only [List.length_map] at hk
    have e : ((tree w n).map uv).getD k (fun _ => false) = uv ((tree w n).getD k 0) := by
      simp [List.getD_eq_getElem?_getD, List.getElem?_eq_getElem hk]
    rw [e]
    unfold uv
    rw [decide_eq_true_iff]
    constructor
    · intro g
      rw [List.getD_eq_getElem?_getD, List.getElem?_eq_getElem hi2, List.getD_eq_getElem?_getD, List.getElem?_eq_getElem hk] at g
      exact ((List.getElem_inj (tree_nodup h)).1 g).symm
    · rintro rfl; rfl
theorem faces_cons {w s : List Int} {n : Nat} (h : Word w n) (hs : s.all (fun x => decide (x = 1) || decide (x = -1)) = true) (hl : s.length = n) : ∃ f0 fs, facesT (nextT w s) (2 * n) = f0 :: fs := by
  have H := facesT_FK (next_pn h hs hl)
  have := H.all 0 (by have := h.pos; omega)
  match hF : facesT (nextT w s) (2 * n) with
  | [] => rw [hF] at this; simp at this
  | f0 :: fs => exact ⟨f0, fs, rfl⟩
/-- There are at most n + 2 faces. -/
theorem faces_le {w s : List Int} {n : Nat} (h : Word w n) (hs : s.all (fun x => decide (x = 1) || decide (x = -1)) = true) (hl : s.length = n) : (facesT (nextT w s) (2 * n)).length ≤ n + 2 := by
  have hpos := h.pos
  obtain ⟨f0, fs, hF⟩ := faces_cons h hs hl
  have H := facesT_FK (next_pn h hs hl)
  rw [hF] at H ⊢
  refine Nat.le_of_not_lt fun hgt => ?_
  simp only [List.length_cons] at hgt
  obtain ⟨c, h1, h2, h3⟩ := dep (2 * n) (fs.map dv ++ (tree w n).map uv) (by simp [tree_len h]; omega)
  simp only [List.length_append, List.length_map] at h1
  have hc : c = c.take fs.length ++ c.drop fs.length := (List.take_append_drop _ _).symm
  have l1 : (c.take fs.length).length = fs.length := by simp; omega
  have l2 : (c.drop fs.length).length = (tree w n).length := by simp; omega
  generalize c.take fs.length = c1 at *
  generalize c.drop fs.length = c2 at *
  subst hc
  have := (rel h hs hl H (c0 := false) l1 l2 fun e he => by
    have := h3 e he
    rw [comb_app (by simpa using l1)] at this
    simpa using this).2 rfl
  rcases List.mem_append.1 h2 with g | g
  · exact this.1 g
  · exact this.2 g
/-- Where there are n + 2 faces, they have two colours. -/
theorem two_colors {w s : List Int} {n : Nat} (h : Word w n) (hs : s.all (fun x => decide (x = 1) || decide (x = -1)) = true) (hl : s.length = n) (hg : (facesT (nextT w s) (2 * n)).length = n + 2) :
    ∃ X, Cl (nextT w s) (2 * n) X ∧ ∀ e : Nat, e < 2 * n → X (-1 - (e : Int)) = ! X (e : Int) := by
  have hpos := h.pos
  obtain ⟨f0, fs, hF⟩ := faces_cons h hs hl
  have H := facesT_FK (next_pn h hs hl)
  rw [hF] at H hg
  simp only [List.length_cons] at hg
  obtain ⟨c, h1, h2, h3⟩ := dep (2 * n) ((fun _ => true) :: (fs.map dv ++ (tree w n).map uv)) (by simp [tree_len h]; omega)
  match c, h1, h2, h3 with
  | [], h1, _, _ => simp at h1
  | c0 :: c, h1, h2, h3 => ?_
  simp only [List.length_cons, List.length_append, List.length_map, Nat.add_right_cancel_iff] at h1
  have hc : c = c.take fs.length ++ c.drop fs.length := (List.take_append_drop _ _).symm
  have l1 : (c.take fs.length).length = fs.length := by simp; omega
  have l2 : (c.drop fs.length).length = (tree w n).length := by simp; omega
  generalize c.take fs.length = c1 at *
  generalize c.drop fs.length = c2 at *
  subst hc
  have R := rel h hs hl H (c0 := c0) l1 l2 fun e he => by
    have := h3 e he
    rw [comb, comb_app (by simpa using l1)] at this
    simpa using this
  have hc0 : c0 = true := by
    cases c0 with
    | true => rfl
    | false =>
      have := R.2 rfl
      simp at h2
      rcases h2 with g | g
      · exact absurd g this.1
      · exact absurd g this.2
  subst hc0
  refine ⟨_, comb_cl (c := c1) (fs := fs) fun f hf => H.fac f (by simp [hf]), fun e he => ?_⟩
  have := R.1 e he
  revert this
  cases comb c1 (fs.map ind) (e : Int) <;> cases comb c1 (fs.map ind) (-1 - (e : Int)) <;> simp

/-- Steps that closed sets keep apart are at most as many as the faces. -/
theorem sep_le {nx : Int → Int} {m : Nat} (h : Pn nx m) {xs : List Int} (hr : ∀ x ∈ xs, -(m : Int) ≤ x ∧ x < m) (hp : xs.Pairwise fun a b => ∃ C, Cl nx m C ∧ C a ≠ C b) : xs.length ≤ (facesT nx m).length := by
  have H := facesT_FK h
  have hex : ∀ x, -(m : Int) ≤ x → x < m → ∃ i, i < (facesT nx m).length ∧ x ∈ (facesT nx m).getD i [] := fun x h0 h1 => by
    have := H.all (x + m).toNat (by omega)
    rw [show (((x + m).toNat : Nat) : Int) - m = x by omega] at this
    obtain ⟨f, hf, hx⟩ := List.mem_flatten.1 this
    obtain ⟨i, hi, e⟩ := List.getElem_of_mem hf
    exact ⟨i, hi, by rw [List.getD_eq_getElem?_getD, List.getElem?_eq_getElem hi]; simpa [e] using hx⟩
  have g : ∃ g : Int → Nat, ∀ x, -(m : Int) ≤ x → x < m → g x < (facesT nx m).length ∧ x ∈ (facesT nx m).getD (g x) [] := by
    refine ⟨fun x => open Classical in if hx : -(m : Int) ≤ x ∧ x < m then (hex x hx.1 hx.2).choose else 0, fun x h0 h1 => ?_⟩
    dsimp only
    rw [dif_pos ⟨h0, h1⟩]
    exact (hex x h0 h1).choose_spec
  obtain ⟨g, hg⟩ := g
  have hn : (xs.map g).Nodup := by
    unfold List.Nodup
    rw [List.pairwise_map]
    refine hp.imp_of_mem fun {a b} ha hb ⟨C, hC, hne⟩ e => ?_
    have ra := hr a ha; have rb := hr b hb
    have ga := hg a ra.1 ra.2; have gb := hg b rb.1 rb.2
    rw [← e] at gb
    have hf := H.fac _ (getD_mem' ga.1)
    generalize (facesT nx m).getD (g a) [] = f at *
    cases hd : C (f.getD 0 0) with
    | true => exact hne (by rw [hf.ch C hC hd a ga.2, hf.ch C hC hd b gb.2])
    | false =>
      have k1 := hf.ch (fun x => ! C x) (fun x h0 h1 => by show (! C x) = (! C (nx x)); rw [hC x h0 h1]) (by show (! C _) = true; rw [hd]; rfl)
      have k2 := k1 a ga.2; have k3 := k1 b gb.2
      exact hne (by revert k2 k3; cases C a <;> cases C b <;> simp)
  have := nodup_lt (n := (facesT nx m).length) hn fun x hx => by
    obtain ⟨y, hy, rfl⟩ := List.mem_map.1 hx
    exact (hg y (hr y hy).1 (hr y hy).2).1
  simpa using this
/-- The first steps of the faces are kept apart by closed sets. -/
theorem heads_sep {nx : Int → Int} {m : Nat} (h : Pn nx m) : ((facesT nx m).map fun f => f.getD 0 0).Pairwise fun a b => ∃ C, Cl nx m C ∧ C a ≠ C b := by
  have H := facesT_FK h
  rw [List.pairwise_map]
  have hp := (List.pairwise_flatten.1 H.nd).2
  refine hp.imp_of_mem fun {f g} hf hg hd => ⟨ind f, fun x h0 h1 => by unfold ind; rw [decide_eq_decide]; exact (H.fac f hf).cl x h0 h1, ?_⟩
  unfold ind
  have h1 := (H.fac f hf).head
  have h2 : ¬ g.getD 0 0 ∈ f := fun hm => hd _ hm _ (H.fac g hg).head rfl
  rw [decide_eq_true h1, decide_eq_false h2]; simp
/-- A map of steps that brings closed sets to closed sets. -/
theorem faces_map {nx nx' : Int → Int} {m m' : Nat} (h : Pn nx m) (h' : Pn nx' m') {φ : Int → Int} (hr : ∀ x, -(m' : Int) ≤ x → x < m' → -(m : Int) ≤ φ x ∧ φ x < m)
    (hc : ∀ D, Cl nx' m' D → ∃ C, Cl nx m C ∧ ∀ x, -(m' : Int) ≤ x → x < m' → C (φ x) = D x) : (facesT nx' m').length ≤ (facesT nx m).length := by
  have H' := facesT_FK h'
  have hin : ∀ f ∈ facesT nx' m', -(m' : Int) ≤ f.getD 0 0 ∧ f.getD 0 0 < m' := fun f hf => H'.rg _ (List.mem_flatten.2 ⟨f, hf, (H'.fac f hf).head⟩)
  have := sep_le h (xs := ((facesT nx' m').map fun f => f.getD 0 0).map φ) (fun x hx => by
    obtain ⟨y, hy, rfl⟩ := List.mem_map.1 hx
    obtain ⟨f, hf, rfl⟩ := List.mem_map.1 hy
    exact hr _ (hin f hf).1 (hin f hf).2) (by
    rw [List.pairwise_map]
    refine (heads_sep h').imp_of_mem fun {a b} ha hb ⟨D, hD, hne⟩ => ?_
    obtain ⟨C, hC, e⟩ := hc D hD
    obtain ⟨f, hf, rfl⟩ := List.mem_map.1 ha
    obtain ⟨g, hg, rfl⟩ := List.mem_map.1 hb
    exact ⟨C, hC, by rw [e _ (hin f hf).1 (hin f hf).2, e _ (hin g hg).1 (hin g hg).2]; exact hne⟩)
  simpa using this
/-- All signs changed: each walk is walked backwards. -/
theorem next_neg {w s t : List Int} {n : Nat} (h : Word w n) (hs : s.all (fun x => decide (x = 1) || decide (x = -1)) = true) (hl : s.length = n) (ht : t.all (fun x => decide (x = 1) || decide (x = -1)) = true) (hlt : t.length = n)
    (hn : ∀ v, v < n → t.getD v 0 = - s.getD v 0) {y : Int} (h0 : -((2 * n : Nat) : Int) ≤ y) (h1 : y < (2 * n : Nat)) : nextT w t (-1 - nextT w s y) = -1 - y := by
  obtain ⟨a, x, p, q, H⟩ := at_of h hs hl h0 h1
  obtain ⟨p, q, C⟩ := cr_of h hs hl H.hx
  obtain ⟨p', q', D⟩ := cr_of h ht hlt H.hx
  have e := C.pl.symm.trans D.pl
  simp at e
  obtain ⟨e1, e2⟩ := e
  have e1 : p = p' := by omega
  have e2 : q = q' := by omega
  subst e1 e2
  have hpq := C.pq; have hq := C.hq
  have h2 := C.all a H.ha H.wa
  have h3 := at_cases H.ha h0 h1 H.at_
  have h4 := hn x H.hx
  rcases C.nx with ⟨f1, v1, v2, v3, v4⟩ | ⟨f1, v1, v2, v3, v4⟩ <;> rcases D.nx with ⟨g1, u1, u2, u3, u4⟩ | ⟨g1, u1, u2, u3, u4⟩ <;> (try omega) <;>
    rcases h2 with e | e <;> subst e <;> rcases h3 with e | e <;> subst e
  · rw [v1, show -1 - (-1 - ((bf n q : Nat) : Int)) = (bf n q : Nat) by omega, u3]
  · rw [v2, u4]; omega
  · rw [v3, u2]
  · rw [v4, show -1 - (-1 - ((bf n p : Nat) : Int)) = (bf n p : Nat) by omega, u1]; omega
  · rw [v1, u4]
  · rw [v2, show -1 - (-1 - ((bf n q : Nat) : Int)) = (bf n q : Nat) by omega, u3]; omega
  · rw [v3, show -1 - (-1 - ((bf n p : Nat) : Int)) = (bf n p : Nat) by omega, u1]
  · rw [v4, u2]; omega
theorem neg_le {w s t : List Int} {n : Nat} (h : Word w n) (hs : s.all (fun x => decide (x = 1) || decide (x = -1)) = true) (hl : s.length = n) (ht : t.all (fun x => decide (x = 1) || decide (x = -1)) = true) (hlt : t.length = n)
    (hn : ∀ v, v < n → t.getD v 0 = - s.getD v 0) : (facesT (nextT w t) (2 * n)).length ≤ (facesT (nextT w s) (2 * n)).length := by
  refine faces_map (next_pn h hs hl) (next_pn h ht hlt) (φ := fun x => -1 - x) (fun x h0 h1 => by omega) fun D hD => ⟨fun y => D (-1 - y), fun y h0 h1 => ?_, fun x h0 h1 => ?_⟩
  · have h2 := (next_pn h hs hl).rg y h0 h1
    show D (-1 - y) = D (-1 - nextT w s y)
    rw [hD (-1 - nextT w s y) (by omega) (by omega), next_neg h hs hl ht hlt hn h0 h1]
  · show D (-1 - (-1 - x)) = D x
    rw [show -1 - (-1 - x) = x by omega]
/-- Changing all signs does not change the number of faces. -/
theorem neg_eq {w s t : List Int} {n : Nat} (h : Word w n) (hs : s.all (fun x => decide (x = 1) || decide (x = -1)) = true) (hl : s.length = n) (ht : t.all (fun x => decide (x = 1) || decide (x = -1)) = true) (hlt : t.length = n)
    (hn : ∀ v, v < n → t.getD v 0 = - s.getD v 0) : (facesT (nextT w t) (2 * n)).length = (facesT (nextT w s) (2 * n)).length :=
  Nat.le_antisymm (neg_le h hs hl ht hlt hn) (neg_le h ht hlt hs hl fun v hv => by have := hn v hv; omega)
end Go.Scr
/- A search that gives nodes two colours. No condition. -/
namespace Go.Scr
set_option linter.unusedVariables false
set_option linter.unusedSimpArgs false

/-- The colour that a neighbour has. -/
def wt (e : Nat → Nat → Bool) (s : List Int) (x z : Nat) : Int := if e x z = true then 1 - s.getD x 0 else s.getD x 0
/-- Colours in order. -/
def Valid (n : Nat) (g e : Nat → Nat → Bool) (d : Nat → Bool) : Prop := ∀ x y, x < n → y < n → g x y = true → (d x ^^ d y) = e x y
/-- What has a colour, with all its neighbours, in order. -/
def Clo (n : Nat) (g e : Nat → Nat → Bool) (s : List Int) : Prop := ∀ x z, x < n → z < n → 0 ≤ s.getD x 0 → g x z = true → 0 ≤ s.getD z 0 ∧ s.getD z 0 = wt e s x z
structure Vals (n : Nat) (s : List Int) : Prop where
  len : s.length = n
  val : ∀ x, x < n → s.getD x 0 = -1 ∨ s.getD x 0 = 0 ∨ s.getD x 0 = 1
structure Rd (n : Nat) (g e : Nat → Nat → Bool) (s0 s : List Int) (H : List Int) (k y : Nat) : Prop where
  va : Vals n s
  old : ∀ x, x < n → 0 ≤ s0.getD x 0 → s.getD x 0 = s0.getD x 0
  new : ∀ x, x < n → 0 ≤ s.getD x 0 → 0 ≤ s0.getD x 0 ∨ (x : Int) ∈ H
  mem : ∀ x ∈ H, 0 ≤ x ∧ x < n ∧ s0.getD x.toNat 0 < 0 ∧ 0 ≤ s.getD x.toNat 0
  nd : H.Nodup
  kl : k ≤ H.length
  don : ∀ i x z, i < k → H.getD i 0 = ((x : Nat) : Int) → z < n → g x z = true → 0 ≤ s.getD z 0 ∧ s.getD z 0 = wt e s x z
  par : ∀ x z, k < H.length → H.getD k 0 = ((x : Nat) : Int) → z < y → z < n → g x z = true → 0 ≤ s.getD z 0 ∧ s.getD z 0 = wt e s x z
  con : ∀ d, Valid n g e d → ∃ c : Bool, ∀ x : Nat, (x : Int) ∈ H → d x = (decide (s.getD x 0 = 1) ^^ c)

theorem set_get {s : List Int} {i j : Nat} {v : Int} (h : i < s.length) : (s.set i v).getD j 0 = if j = i then v else s.getD j 0 := by
  simp only [List.getD_eq_getElem?_getD]
  by_cases e : j = i
  · subst e; rw [if_pos rfl, List.getElem?_set_self h]; rfl
  · rw [if_neg e, List.getElem?_set_ne (Ne.symm e)]
theorem Vals.set {n : Nat} {s : List Int} (h : Vals n s) {f : Nat} (hf : f < n) {v : Int} (hv : v = 0 ∨ v = 1) : Vals n (s.set f v) := by
  refine ⟨by rw [List.length_set]; exact h.len, fun x hx => ?_⟩
  rw [set_get (by rw [h.len]; exact hf)]
  split
  · rcases hv with h | h <;> simp [h]
  · exact h.val x hx
theorem Rd.init {n : Nat} {g e : Nat → Nat → Bool} {s0 : List Int} (h : Vals n s0) {f : Nat} (hf : f < n) (hs : s0.getD f 0 < 0) : Rd n g e s0 (s0.set f 0) [(f : Int)] 0 0 := by
  have hfl : f < s0.length := by rw [h.len]; exact hf
  refine ⟨h.set hf (.inl rfl), fun x hx h0 => ?_, fun x hx h0 => ?_, fun x hx => ?_, by simp, by simp, fun i x z hi => by omega, fun x z hk hx hz => by omega, fun d hd => ⟨d f, fun x hx => ?_⟩⟩
  · rw [set_get hfl, if_neg (by rintro rfl; omega)]
  · rw [set_get hfl] at h0
    split at h0
    · rename_i e; subst e; exact .inr (by simp)
    · exact .inl h0
  · simp at hx; subst hx
    refine ⟨by omega, by omega, by simpa using hs, ?_⟩
    rw [Int.toNat_natCast, set_get hfl, if_pos rfl]; omega
  · simp at hx
    have : x = f := by omega
    subst this
    rw [set_get hfl, if_pos rfl]; simp
theorem Rd.len {n : Nat} {g e : Nat → Nat → Bool} {s0 s H : List Int} {k y : Nat} (h : Rd n g e s0 s H k y) : H.length ≤ n := by
  have := nodup_lt (n := n) (l := H.map Int.toNat) ?_ fun x hx => ?_
  · simpa using this
  · rw [List.nodup_iff_pairwise_ne, List.pairwise_map]
    refine List.Pairwise.imp_of_mem (fun {a b} ha hb hab => ?_) (List.nodup_iff_pairwise_ne.1 h.nd)
    have := h.mem a ha; have := h.mem b hb; omega
  · obtain ⟨a, ha, rfl⟩ := List.mem_map.1 hx
    have := h.mem a ha; omega
theorem Rd.at {n : Nat} {g e : Nat → Nat → Bool} {s0 s H : List Int} {k y : Nat} (h : Rd n g e s0 s H k y) (hk : k < H.length) : ∃ x : Nat, H.getD k 0 = (x : Int) ∧ x < n ∧ (s.getD x 0 = 0 ∨ s.getD x 0 = 1) ∧ s0.getD x 0 < 0 ∧ (x : Int) ∈ H := by
  have hm := mem_getD hk
  have := h.mem _ hm
  refine ⟨(H.getD k 0).toNat, by omega, by omega, ?_, this.2.2.1, ?_⟩
  · have hv := h.va.val (H.getD k 0).toNat (by omega); omega
  · rw [Int.toNat_of_nonneg this.1]; exact hm
/-- Nothing is to be done with y. -/
theorem Rd.skip {n : Nat} {g e : Nat → Nat → Bool} {s0 s H : List Int} {k y x : Nat} (h : Rd n g e s0 s H k y) (hx : H.getD k 0 = (x : Int)) (hg : g x y = true → 0 ≤ s.getD y 0 ∧ s.getD y 0 = wt e s x y) : Rd n g e s0 s H k (y + 1) := by
  refine ⟨h.va, h.old, h.new, h.mem, h.nd, h.kl, h.don, fun x' z hk hx' hz hn hgz => ?_, h.con⟩
  have : x' = x := by omega
  subst this
  by_cases e : z = y
  · subst e; exact hg hgz
  · exact h.par x' z hk hx' (by omega) hn hgz
/-- y gets its colour. -/
theorem Rd.put {n : Nat} {g e : Nat → Nat → Bool} {s0 s H : List Int} {k y x : Nat} (h : Rd n g e s0 s H k y) (hk : k < H.length) (hx : H.getD k 0 = (x : Int)) (hy : y < n) (hg : g x y = true) (hs : s.getD y 0 < 0) :
    Rd n g e s0 (s.set y (wt e s x y)) (H ++ [(y : Int)]) k (y + 1) := by
  obtain ⟨x', hx', hxn, hxv, hx0, hxm⟩ := h.at hk
  have : x' = x := by omega
  subst this
  have hyl : y < s.length := by rw [h.va.len]; exact hy
  have hw : wt e s x' y = 0 ∨ wt e s x' y = 1 := by unfold wt; split <;> rcases hxv with h | h <;> omega
  have ho : s0.getD y 0 < 0 := by
    refine Int.not_le.1 fun h0 => ?_
    have := h.old y hy h0; omega
  have hyH : ¬ (y : Int) ∈ H := fun hm => by have := h.mem _ hm; rw [Int.toNat_natCast] at this; omega
  have hne : ∀ z : Nat, 0 ≤ s.getD z 0 → z ≠ y := fun z hz e => by subst e; omega
  have hst : ∀ z, 0 ≤ s.getD z 0 → (s.set y (wt e s x' y)).getD z 0 = s.getD z 0 := fun z hz => by rw [set_get hyl, if_neg (hne z hz)]
  have hwt : ∀ a z, 0 ≤ s.getD a 0 → wt e (s.set y (wt e s x' y)) a z = wt e s a z := fun a z ha => by
    have h1 := hst a ha
    unfold wt at h1 ⊢; rw [h1]
  have hgd : ∀ i, i < H.length → (H ++ [(y : Int)]).getD i 0 = H.getD i 0 := fun i hi => by rw [getD_app, if_pos hi]
  have hgx : ∀ i (a : Nat), i < H.length → H.getD i 0 = (a : Int) → 0 ≤ s.getD a 0 := fun i a hi ha => by
    have := h.mem _ (mem_getD hi); rw [ha, Int.toNat_natCast] at this; exact this.2.2.2
  refine ⟨h.va.set hy hw, fun a ha h0 => ?_, fun a ha h0 => ?_, fun a ha => ?_, ?_, by simp; have := h.kl; omega, fun i a z hi ha hz hgz => ?_, fun a z _ ha hz hzn hgz => ?_, fun d hd => ?_⟩
  · have h1 := h.old a ha h0
    rw [hst a (by omega), h1]
  · rw [set_get hyl] at h0
    split at h0
    · rename_i e1; subst e1; exact .inr (by simp)
    · rcases h.new a ha h0 with h | h
      · exact .inl h
      · exact .inr (by simp [h])
  · rcases List.mem_append.1 ha with ha | ha
    · have := h.mem a ha
      refine ⟨this.1, this.2.1, this.2.2.1, ?_⟩
      rw [hst _ this.2.2.2]; exact this.2.2.2
    · simp at ha; subst ha
      refine ⟨by omega, by omega, by simpa using ho, ?_⟩
      rw [Int.toNat_natCast, set_get hyl, if_pos rfl]; omega
  · rw [List.nodup_append]
    refine ⟨h.nd, by simp, fun a ha b hb => ?_⟩
    simp at hb; subst hb
    rintro rfl; exact hyH ha
  · have hil : i < H.length := by have := h.kl; omega
    rw [hgd i hil] at ha
    have hz1 := h.don i a z hi ha hz hgz
    rw [hst z hz1.1, hwt a z (hgx i a hil ha)]; exact hz1
  · rw [hgd k hk] at ha
    have : a = x' := by omega
    subst this
    rw [hwt a z (by omega)]
    by_cases e1 : z = y
    · subst e1; rw [set_get hyl, if_pos rfl]; exact ⟨by omega, rfl⟩
    · have hz1 := h.par a z hk ha (by omega) hzn hgz
      rw [hst z hz1.1]; exact hz1
  · obtain ⟨c, hc⟩ := h.con d hd
    refine ⟨c, fun a ha => ?_⟩
    rcases List.mem_append.1 ha with ha | ha
    · have := h.mem _ ha; rw [Int.toNat_natCast] at this
      rw [hst a this.2.2.2]; exact hc a ha
    · simp at ha
      have : a = y := by omega
      subst this
      rw [set_get hyl, if_pos rfl]
      have h1 := hc x' hxm
      have h2 := hd x' a hxn hy hg
      have h3 : decide (wt e s x' a = 1) = (decide (s.getD x' 0 = 1) ^^ e x' a) := by
        unfold wt
        cases e x' a <;> rcases hxv with h | h <;> rw [h] <;> decide
      rw [h3]
      revert h1 h2
      generalize d x' = p; generalize d a = q; generalize e x' a = r; generalize decide (s.getD x' 0 = 1) = t
      cases p <;> cases q <;> cases r <;> cases t <;> cases c <;> simp
/-- All neighbours of the k-th are done. -/
theorem Rd.next {n : Nat} {g e : Nat → Nat → Bool} {s0 s H : List Int} {k : Nat} (h : Rd n g e s0 s H k n) (hk : k < H.length) : Rd n g e s0 s H (k + 1) 0 := by
  refine ⟨h.va, h.old, h.new, h.mem, h.nd, hk, fun i x z hi hx hz hg => ?_, fun x z _ _ hz => by omega, h.con⟩
  by_cases e : i = k
  · subst e; exact h.par x z hk hx hz hz hg
  · exact h.don i x z (by omega) hx hz hg
/-- The search has ended. -/
theorem Rd.done {n : Nat} {g e : Nat → Nat → Bool} {s0 s H : List Int} {y : Nat} (h : Rd n g e s0 s H H.length y) (h0 : Clo n g e s0) : Clo n g e s := fun x z hx hz hs hg => by
  rcases h.new x hx hs with h1 | h1
  · have h2 := h0 x z hx hz h1 hg
    have h3 := h.old z hz h2.1
    have h4 := h.old x hx h1
    rw [h3, h2.2]
    unfold wt at *
    rw [h4]; exact ⟨h2.2 ▸ h2.1, rfl⟩
  · obtain ⟨i, hi, hgi⟩ := getD_mem h1
    exact h.don i x z hi hgi hz hg
/-- A neighbour has the other colour: there is no division. -/
theorem Rd.bad {n : Nat} {g e : Nat → Nat → Bool} (hsy : ∀ x y, x < n → y < n → g x y = true → g y x = true) {s0 s H : List Int} {k y x : Nat} (h : Rd n g e s0 s H k y) (h0 : Clo n g e s0) (hk : k < H.length) (hx : H.getD k 0 = (x : Int)) (hy : y < n) (hg : g x y = true) (hs : 0 ≤ s.getD y 0) (hw : ¬ s.getD y 0 = wt e s x y)
    (d : Nat → Bool) (hd : Valid n g e d) : False := by
  obtain ⟨x', hx', hxn, hxv, hx0, hxm⟩ := h.at hk
  have : x' = x := by omega
  subst this
  rcases h.new y hy hs with h1 | h1
  · have := h0 y x' hy hxn h1 (hsy x' y hxn hy hg); omega
  · obtain ⟨c, hc⟩ := h.con d hd
    have h1 := hc x' hxm
    have h2 := hc y ‹_›
    have h3 := hd x' y hxn hy hg
    have hyv := h.va.val y hy
    apply hw
    have hyv' : s.getD y 0 = 0 ∨ s.getD y 0 = 1 := by omega
    unfold wt
    rw [h1, h2] at h3
    rw [← h3]
    rcases hxv with h | h <;> rcases hyv' with h' | h' <;> rw [h, h'] <;> cases c <;> simp
/-- Colours for all: a division. -/
theorem Clo.valid {n : Nat} {g e : Nat → Nat → Bool} {s : List Int} (h : Clo n g e s) (hv : Vals n s) (ha : ∀ x, x < n → 0 ≤ s.getD x 0) : Valid n g e fun x => decide (s.getD x 0 = 1) := fun x y hx hy hg => by
  have h1 := (h x y hx hy (ha x hx) hg).2
  have h2 := hv.val x hx; have h3 := hv.val y hy
  have h4 := ha x hx; have h5 := ha y hy
  have hx' : s.getD x 0 = 0 ∨ s.getD x 0 = 1 := by omega
  have hy' : s.getD y 0 = 0 ∨ s.getD y 0 = 1 := by omega
  dsimp only
  unfold wt at h1
  generalize e x y = r at h1 ⊢
  cases r <;> rcases hx' with h | h <;> rcases hy' with h' | h' <;> rw [h, h'] at h1 ⊢ <;> simp at h1 ⊢
end Go.Scr
/- Words made of numbers. No condition. -/
namespace Go.Scr
set_option linter.unusedVariables false
set_option linter.unusedSimpArgs false

def putT (l : List Int) (a : Nat) (v : Int) : List Int := l.take a ++ [v] ++ l.drop a
theorem putT_len {l : List Int} {a : Nat} {v : Int} : (putT l a v).length = l.length + 1 := by
  unfold putT; simp; omega
def madeK (x : List (Int × Int × Unit)) : Nat → List Int
  | 0 => [0, 0]
  | i + 1 => let w := putT (madeK x i) ((x.getD i (0, 0, ())).1.toNat % (2 * i + 3)) (i + 1)
    putT w ((x.getD i (0, 0, ())).2.1.toNat % (2 * i + 4)) (i + 1)
theorem madeK_len {x : List (Int × Int × Unit)} : ∀ {i : Nat}, (madeK x i).length = 2 * i + 2
  | 0 => rfl
  | i + 1 => by rw [madeK]; simp only [putT_len, madeK_len]; omega
theorem putT_get {l : List Int} {a : Nat} {v : Int} (ha : a ≤ l.length) {i : Nat} : (putT l a v).getD i 0 = if i < a then l.getD i 0 else if i = a then v else l.getD (i - 1) 0 := by
  unfold putT
  simp only [List.getD_eq_getElem?_getD]
  have hl : (l.take a).length = a := by rw [List.length_take]; omega
  by_cases h : i < a
  · rw [if_pos h, List.append_assoc, List.getElem?_append_left (by omega), List.getElem?_take, if_pos h]
  · rw [if_neg h]
    by_cases h2 : i = a
    · subst h2
      rw [if_pos rfl, List.append_assoc, List.getElem?_append_right (by omega), hl]; simp
    · rw [if_neg h2, List.getElem?_append_right (by simp; omega), List.getElem?_drop]
      congr 2
      simp; omega
/-- Signs made of a number. -/
def sigAt (z i : Nat) : Int := 1 - 2 * (bitT z i : Int)
def sigT (n z : Nat) : List Int := (List.range n).map fun i => sigAt z i
theorem sigT_len {n z : Nat} : (sigT n z).length = n := by simp [sigT]
theorem sigT_get {n z i : Nat} (h : i < n) : (sigT n z).getD i 0 = sigAt z i := by
  simp [sigT, List.getD_eq_getElem?_getD, List.getElem?_map, List.getElem?_range h]
theorem sigT_succ {n z : Nat} : sigT (n + 1) z = sigT n z ++ [sigAt z n] := by simp [sigT, List.range_succ]
theorem sigT_all {n z : Nat} : (sigT n z).all (fun x => decide (x = 1) || decide (x = -1)) = true := by
  rw [List.all_eq_true]
  intro x hx
  obtain ⟨i, _, rfl⟩ := List.mem_map.1 hx
  have := bitT_le (k := z) (j := i)
  unfold sigAt
  have h : bitT z i = 0 ∨ bitT z i = 1 := by omega
  rcases h with h | h <;> rw [h] <;> decide
theorem sigT_neg {n z v : Nat} (hz : z < 65536) (hn : n ≤ 16) (hv : v < n) : (sigT n (65535 - z)).getD v 0 = - (sigT n z).getD v 0 := by
  rw [sigT_get hv, sigT_get hv]
  have := bit_not (n := 16) (k := z) (j := v) (by omega) (by omega)
  have h2 := bitT_le (k := z) (j := v)
  unfold sigAt
  rw [show 65535 - z = 2 ^ 16 - 1 - z by omega, this]
  omega
end Go.Scr
/- Words by counting letters; what the law asks of faces. No condition. -/
namespace Go.Scr
set_option linter.unusedVariables false
set_option linter.unusedSimpArgs false

theorem placesK_count {w : List Int} {v : Int} : ∀ {k : Nat}, k ≤ w.length → (placesK w v k).length = (w.take k).count v
  | 0, _ => by simp [placesK]
  | k + 1, h => by
    rw [placesK, take_getD' (by omega), List.count_append, ← placesK_count (k := k) (by omega)]
    by_cases e : w.getD k 0 = v
    · rw [if_pos e, e, List.length_append]; simp
    · rw [if_neg e, List.count_singleton]
      have : (w.getD k 0 == v) = false := by simpa using e
      rw [this]; rfl
theorem places_count {w : List Int} {v : Int} : (placesT w v).length = w.count v := by
  rw [placesT, placesK_count (Nat.le_refl _), List.take_length]
theorem word_count {w : List Int} {n : Nat} (h : Word w n) : ∀ v : Nat, v < n → w.count (v : Int) = 2 := fun v hv => by rw [← places_count]; exact h.two v hv
theorem count_word {w : List Int} {n : Nat} (hl : w.length = 2 * n) (hn : 1 ≤ n) (h : ∀ v : Nat, v < n → w.count (v : Int) = 2) : Word w n :=
  word_of hl hn fun v hv => by rw [places_count]; exact h v hv
theorem count_none {w : List Int} {n : Nat} (h : Word w n) {v : Int} (hv : v < 0 ∨ (n : Int) ≤ v) : w.count v = 0 := by
  rw [List.count_eq_zero]
  intro hm
  obtain ⟨i, hi, rfl⟩ := getD_mem hm
  have := h.rg i (by rw [← h.len]; exact hi)
  omega
theorem count_put {l : List Int} {a : Nat} {v u : Int} : (putT l a v).count u = l.count u + if v = u then 1 else 0 := by
  have h : l.count u = (l.take a).count u + (l.drop a).count u := by rw [← List.count_append, List.take_append_drop]
  unfold putT
  rw [List.count_append, List.count_append, List.count_singleton, h]
  by_cases e : v = u
  · subst e; simp; omega
  · have : (v == u) = false := by simpa using e
    rw [this, if_neg e]; simp
/-- A new letter is put in twice. -/
theorem word_put {w : List Int} {n a b : Nat} (h : Word w n) : Word (putT (putT w a n) b n) (n + 1) := by
  refine count_word ?_ (by omega) fun v hv => ?_
  · rw [putT_len, putT_len, h.len]; omega
  · rw [count_put, count_put]
    by_cases e : v = n
    · subst e; rw [count_none h (.inr (by omega)), if_pos rfl]
    · rw [word_count h v (by omega), if_neg (by omega)]
theorem made_word {x : List (Int × Int × Unit)} : ∀ {i : Nat}, Word (madeK x i) (i + 1)
  | 0 => count_word rfl (by omega) fun v hv => by
    have : v = 0 := by omega
    subst this; rfl
  | i + 1 => by
    rw [madeK]
    exact word_put (made_word (i := i))
theorem nodup_sub {α : Type} [DecidableEq α] : ∀ {l l' : List α}, l.Nodup → (∀ x ∈ l, x ∈ l') → l.length ≤ l'.length
  | [], _, _, _ => by simp
  | x :: l, l', hn, h => by
    have hx := h x (by simp)
    have hn' := List.nodup_cons.1 hn
    have := nodup_sub (l := l) (l' := l'.erase x) hn'.2 fun y hy => by
      have : y ≠ x := fun e => hn'.1 (e ▸ hy)
      exact (List.mem_erase_of_ne this).2 (h y (by simp [hy]))
    rw [List.length_erase_of_mem hx] at this
    have := List.length_pos_of_mem hx
    simp; omega
theorem FK.len {nx : Int → Int} {m : Nat} {F : List (List Int)} (h : FK nx m (2 * m) F) : F.flatten.length = 2 * m := by
  refine Nat.le_antisymm (nodup_range h.nd h.rg) ?_
  have := nodup_sub (l := (List.range (2 * m)).map fun (j : Nat) => (j : Int) - m) (l' := F.flatten) ?_ ?_
  · simpa using this
  · rw [List.nodup_iff_pairwise_ne, List.pairwise_map]
    exact (List.nodup_iff_pairwise_ne.1 List.nodup_range).imp fun {a b} h => by omega
  · intro x hx
    obtain ⟨j, hj, rfl⟩ := List.mem_map.1 hx
    exact h.all j (by simpa using hj)
theorem take_face {F : List (List Int)} {j : Nat} (h : j < F.length) : F.take (j + 1) = F.take j ++ [F.getD j []] := by
  rw [List.take_add_one, List.getD_eq_getElem?_getD, List.getElem?_eq_getElem h]; rfl
theorem flat_take {F : List (List Int)} {j : Nat} (h : j < F.length) : (F.take (j + 1)).flatten = (F.take j).flatten ++ F.getD j [] := by
  rw [take_face h]; simp
theorem flat_len {F : List (List Int)} {j : Nat} : (F.take j).flatten.length ≤ F.flatten.length := by
  have : F.flatten = (F.take j).flatten ++ (F.drop j).flatten := by rw [← List.flatten_append, List.take_append_drop]
  rw [this, List.length_append]; omega
/-- What the law asks at the q-th step of the j-th face. -/
theorem FK.at {nx : Int → Int} {m k : Nat} {F : List (List Int)} (h : FK nx m k F) {j q : Nat} (hj : j < F.length) (hq : q < (F.getD j []).length) :
    -(m : Int) ≤ (F.getD j []).getD q 0 ∧ (F.getD j []).getD q 0 < m ∧ ¬ (F.getD j []).getD q 0 ∈ (F.take j).flatten ++ (F.getD j []).take q ∧ (F.getD j []).getD 0 0 ≤ (F.getD j []).getD q 0 := by
  have hf := getD_mem' hj
  have hv : (F.getD j []).getD q 0 ∈ F.getD j [] := mem_getD hq
  have hr := h.rg _ (List.mem_flatten.2 ⟨_, hf, hv⟩)
  refine ⟨hr.1, hr.2, ?_, h.hd _ hf _ hv⟩
  have hnd := h.nd
  rw [← List.take_append_drop (j + 1) F, List.flatten_append, flat_take hj] at hnd
  have hnd := (List.nodup_append.1 hnd).1
  rw [← List.take_append_drop (q + 1) (F.getD j []), take_getD' hq, ← List.append_assoc] at hnd
  have hnd := (List.nodup_append.1 hnd).1
  rw [← List.append_assoc, List.nodup_append] at hnd
  intro hm
  exact hnd.2.2 _ hm _ (by simp) rfl
theorem FK.inc_at {nx : Int → Int} {m k : Nat} {F : List (List Int)} (h : FK nx m k F) {j : Nat} (hj : j + 1 < F.length) : (F.getD j []).getD 0 0 < (F.getD (j + 1) []).getD 0 0 := by
  have := List.pairwise_iff_getElem.1 h.inc j (j + 1) (by simp; omega) (by simpa using hj) (by omega)
  simp only [List.getElem_map] at this
  have e : ∀ i, (hi : i < F.length) → F.getD i [] = F[i] := fun i hi => by rw [List.getD_eq_getElem?_getD, List.getElem?_eq_getElem hi]; rfl
  rw [e j (by omega), e (j + 1) hj]; exact this
theorem FK.ne_at {nx : Int → Int} {m k : Nat} {F : List (List Int)} (h : FK nx m k F) {j : Nat} (hj : j < F.length) : 1 ≤ (F.getD j []).length :=
  List.length_pos_iff.2 (h.fac _ (getD_mem' hj)).ne
/-- The genus by the number of faces. -/
theorem genus_ok {n : Nat} {w s : List Int} (h : Word w n) (hs : s.all (fun x => decide (x = 1) || decide (x = -1)) = true) (hl : s.length = n) : 0 ≤ genusT n w s ∧ 2 * genusT n w s = (n : Int) + 2 - (facesT (nextT w s) (2 * n)).length := by
  have h1 := faces_le h hs hl
  have h2 := faces_par h hs hl
  unfold genusT
  rw [Int.tdiv_eq_ediv_of_nonneg (by omega)]
  omega
end Go.Scr
/- The colours of the faces of a plane word. No condition. -/
namespace Go.Scr
set_option linter.unusedVariables false
set_option linter.unusedSimpArgs false
set_option linter.unusedSectionVars false

/-! ### In which list an element lies -/
def ofI (x : Int) : List (List Int) → Nat
  | [] => 0
  | f :: r => if x ∈ f then 0 else ofI x r + 1
theorem ofI_lt {x : Int} : ∀ {L : List (List Int)}, x ∈ L.flatten → ofI x L < L.length ∧ x ∈ L.getD (ofI x L) []
  | [], h => by simp at h
  | f :: r, h => by
    rw [ofI]
    split
    · rename_i e; exact ⟨by simp, e⟩
    · rename_i e
      have hr : x ∈ r.flatten := by
        rw [List.flatten_cons, List.mem_append] at h; exact h.resolve_left e
      have := ofI_lt hr
      exact ⟨by simp; exact this.1, by simpa using this.2⟩
theorem ofI_in {x : Int} : ∀ {L M : List (List Int)}, x ∈ L.flatten → ofI x (L ++ M) = ofI x L
  | [], M, h => by simp at h
  | f :: r, M, h => by
    rw [List.cons_append, ofI, ofI]
    split
    · rfl
    · rename_i e
      have hr : x ∈ r.flatten := by
        rw [List.flatten_cons, List.mem_append] at h; exact h.resolve_left e
      rw [ofI_in hr]
theorem ofI_out {x : Int} : ∀ {L M : List (List Int)}, ¬ x ∈ L.flatten → ofI x (L ++ M) = L.length + ofI x M
  | [], M, h => by simp
  | f :: r, M, h => by
    rw [List.flatten_cons, List.mem_append, not_or] at h
    rw [List.cons_append, ofI, if_neg h.1, ofI_out h.2, List.length_cons]; omega
/-- The map from elements to lists. -/
def ofM (L : List (List Int)) : Int → Option Int := fun x => if x ∈ L.flatten then some (ofI x L : Int) else none
theorem ofM_in {L : List (List Int)} {x : Int} (h : x ∈ L.flatten) : ofM L x = some (ofI x L : Int) := by rw [ofM, if_pos h]
theorem ofM_out {L : List (List Int)} {x : Int} (h : ¬ x ∈ L.flatten) : ofM L x = none := by rw [ofM, if_neg h]
theorem ofM_nil : ofM [] = fun _ => none := by funext x; simp [ofM]
theorem ofM_put {A : List (List Int)} {f : List Int} {x : Int} (h : ¬ x ∈ (A ++ [f]).flatten) : (fun y => if y = x then some (A.length : Int) else ofM (A ++ [f]) y) = ofM (A ++ [f ++ [x]]) := by
  funext y
  have hA : ¬ x ∈ A.flatten := fun hx => h (by simp only [List.flatten_append, List.mem_append]; exact .inl hx)
  by_cases e : y = x
  · subst e
    rw [if_pos rfl, ofM_in (by simp), ofI_out hA]
    simp [ofI]
  · rw [if_neg e]
    have hm : y ∈ (A ++ [f ++ [x]]).flatten ↔ y ∈ (A ++ [f]).flatten := by simp [e]
    by_cases hy : y ∈ (A ++ [f]).flatten
    · rw [ofM_in hy, ofM_in (hm.2 hy)]
      by_cases hyA : y ∈ A.flatten
      · rw [ofI_in hyA, ofI_in hyA]
      · rw [ofI_out hyA, ofI_out hyA]
        have hyf : y ∈ f := by
          simp only [List.flatten_append, List.mem_append] at hy
          have := hy.resolve_left hyA
          simpa using this
        simp [ofI, hyf]
    · rw [ofM_out hy, ofM_out (fun h => hy (hm.1 h))]
theorem ofM_new {A : List (List Int)} : ofM (A ++ [[]]) = ofM A := by
  funext y
  have hm : y ∈ (A ++ [[]]).flatten ↔ y ∈ A.flatten := by simp
  by_cases hy : y ∈ A.flatten
  · rw [ofM_in hy, ofM_in (hm.2 hy), ofI_in hy]
  · rw [ofM_out hy, ofM_out (fun h => hy (hm.1 h))]

/-! ### Two colours -/
structure Col (F : List (List Int)) (M : Nat) (d : Nat → Bool) : Prop where
  pos : 0 < M
  mem : ∀ x, -(M : Int) ≤ x → x < M → x ∈ F.flatten
  un : ∀ i j x, i < F.length → j < F.length → x ∈ F.getD i [] → x ∈ F.getD j [] → i = j
  rg : ∀ i x, i < F.length → x ∈ F.getD i [] → -(M : Int) ≤ x ∧ x < M
  z : d (ofI 0 F) = false
  op : ∀ x, -(M : Int) ≤ x → x < M → d (ofI (-1 - x) F) = !d (ofI x F)
  cn : ∀ S : Nat → Bool, S (ofI 0 F) = true → (∀ x, -(M : Int) ≤ x → x < M → S (ofI x F) = true → S (ofI (-1 - x) F) = true) → ∀ i, i < F.length → S i = true
theorem Col.at {F : List (List Int)} {M : Nat} {d : Nat → Bool} (h : Col F M d) {x : Int} (h0 : -(M : Int) ≤ x) (h1 : x < M) : ofI x F < F.length ∧ x ∈ F.getD (ofI x F) [] := ofI_lt (h.mem x h0 h1)
theorem Col.of {F : List (List Int)} {M : Nat} {d : Nat → Bool} (h : Col F M d) {i : Nat} {x : Int} (hi : i < F.length) (hx : x ∈ F.getD i []) : ofI x F = i := by
  have hr := h.rg i x hi hx
  have := h.at hr.1 hr.2
  exact h.un _ _ x this.1 hi this.2 hx
theorem col_of {w s : List Int} {n : Nat} (h : Word w n) (hs : s.all (fun x => decide (x = 1) || decide (x = -1)) = true) (hl : s.length = n) (hg : (facesT (nextT w s) (2 * n)).length = n + 2) : ∃ d, Col (facesT (nextT w s) (2 * n)) (2 * n) d := by
  have hpos := h.pos
  have H := facesT_FK (next_pn h hs hl)
  obtain ⟨X, hX, hXe⟩ := two_colors h hs hl hg
  obtain ⟨F, hF⟩ : ∃ F, F = facesT (nextT w s) (2 * n) := ⟨_, rfl⟩
  rw [← hF] at H ⊢
  have hfac : ∀ i, i < F.length → Fac (nextT w s) (2 * n) (F.getD i []) := fun i hi => H.fac _ (getD_mem' hi)
  have hun : ∀ i j x, i < F.length → j < F.length → x ∈ F.getD i [] → x ∈ F.getD j [] → i = j := fun i j x hi hj h1 h2 => H.disj hi hj h1 h2
  have hrg : ∀ i x, i < F.length → x ∈ F.getD i [] → -((2 * n : Nat) : Int) ≤ x ∧ x < (2 * n : Nat) := fun i x hi hx => H.rg x (List.mem_flatten.2 ⟨_, getD_mem' hi, hx⟩)
  have hmem : ∀ x, -((2 * n : Nat) : Int) ≤ x → x < (2 * n : Nat) → x ∈ F.flatten := fun x h0 h1 => by
    have := nodup_full H.nd H.rg H.len x h0 h1
    exact this
  have hat : ∀ x, -((2 * n : Nat) : Int) ≤ x → x < (2 * n : Nat) → ofI x F < F.length ∧ x ∈ F.getD (ofI x F) [] := fun x h0 h1 => ofI_lt (hmem x h0 h1)
  -- closed sets do not part faces
  have same : ∀ C, Cl (nextT w s) (2 * n) C → ∀ i x y, i < F.length → x ∈ F.getD i [] → y ∈ F.getD i [] → C x = C y := fun C hC i x y hi hx hy => by
    have hh := hfac i hi
    have k1 : ∀ C, Cl (nextT w s) (2 * n) C → ∀ x ∈ F.getD i [], C x = C ((F.getD i []).getD 0 0) := fun C hC x hx => by
      cases e : C ((F.getD i []).getD 0 0) with
      | true => exact hh.ch C hC e x hx
      | false =>
        have hC2 : Cl (nextT w s) (2 * n) fun x => !C x := fun x h0 h1 => by show (!C x) = (!C _); rw [hC x h0 h1]
        have := hh.ch (fun x => !C x) hC2 (by show (!C _) = true; rw [e]; rfl) x hx
        simpa using this
    rw [k1 C hC x hx, k1 C hC y hy]
  have hXo : ∀ x, -((2 * n : Nat) : Int) ≤ x → x < (2 * n : Nat) → X (-1 - x) = !X x := fun x h0 h1 => by
    by_cases hx : 0 ≤ x
    · have := hXe x.toNat (by omega)
      rw [Int.toNat_of_nonneg hx] at this; exact this
    · have := hXe (-1 - x).toNat (by omega)
      rw [Int.toNat_of_nonneg (by omega), show -1 - (-1 - x) = x by omega] at this
      rw [this]; simp
  have hd : ∀ x, -((2 * n : Nat) : Int) ≤ x → x < (2 * n : Nat) → X ((F.getD (ofI x F) []).getD 0 0) = X x := fun x h0 h1 => by
    have := hat x h0 h1
    exact same X hX _ _ _ this.1 (hfac _ this.1).head this.2
  refine ⟨fun i => X ((F.getD i []).getD 0 0) ^^ X 0, by omega, hmem, hun, hrg, ?_, fun x h0 h1 => ?_, fun S hS hcl i hi => ?_⟩
  · show (X ((F.getD (ofI 0 F) []).getD 0 0) ^^ X 0) = false
    rw [hd 0 (by omega) (by omega)]; simp
  · show (X ((F.getD (ofI (-1 - x) F) []).getD 0 0) ^^ X 0) = !(X ((F.getD (ofI x F) []).getD 0 0) ^^ X 0)
    rw [hd _ (by omega) (by omega), hd x h0 h1, hXo x h0 h1]
    cases X x <;> cases X 0 <;> rfl
  · have hY : Cl (nextT w s) (2 * n) fun x => S (ofI x F) := fun x h0 h1 => by
      have h2 := hat x h0 h1
      have h3 := ((hfac _ h2.1).cl x h0 h1).1 h2.2
      have h4 := (next_pn h hs hl).rg x h0 h1
      have h5 := hat _ h4.1 h4.2
      show S (ofI x F) = S (ofI (nextT w s x) F)
      rw [hun _ _ _ h2.1 h5.1 h3 h5.2]
    have hc := conn h hs hl hY fun e he => by
      have k1 := hcl (e : Int) (by omega) (by omega)
      have k2 := hcl (-1 - (e : Int)) (by omega) (by omega)
      rw [show -1 - (-1 - (e : Int)) = e by omega] at k2
      cases e1 : S (ofI (e : Int) F) with
      | true => exact (k1 e1).symm
      | false =>
        cases e2 : S (ofI (-1 - (e : Int)) F) with
        | false => rfl
        | true => rw [k2 e2] at e1; cases e1
    have hx := (hfac i hi).head
    have hr := hrg i _ hi hx
    have := hc _ hr.1 hr.2
    have h2 := hat _ hr.1 hr.2
    rw [hun _ _ _ h2.1 hi h2.2 hx] at this
    rw [this]; exact hS

/-- How many of the first k are white. -/
def whK (d : Nat → Bool) : Nat → Nat
  | 0 => 0
  | k + 1 => whK d k + (d k).toNat
theorem whK_le {d : Nat → Bool} : ∀ {k : Nat}, whK d k ≤ k
  | 0 => Nat.le_refl _
  | k + 1 => by have := whK_le (d := d) (k := k); rw [whK]; cases d k <;> simp <;> omega
theorem whK_pos {d : Nat → Bool} : ∀ {k i : Nat}, i < k → d i = true → 0 < whK d k
  | k + 1, i, hi, hd => by
    rw [whK]
    by_cases e : i = k
    · subst e; rw [hd]; simp
    · have := whK_pos (d := d) (k := k) (i := i) (by omega) hd; omega
theorem whK_lt {d : Nat → Bool} : ∀ {k i : Nat}, i < k → d i = false → whK d k < k
  | k + 1, i, hi, hd => by
    rw [whK]
    by_cases e : i = k
    · subst e; have := whK_le (d := d) (k := i); rw [hd]; simp; omega
    · have := whK_lt (d := d) (k := k) (i := i) (by omega) hd; cases d k <;> simp <;> omega

/-! ### The program's search -/
structure Bf (F : List (List Int)) (d : Nat → Bool) (s H : List Int) (k q : Nat) : Prop where
  len : s.length = F.length
  val : ∀ i, i < F.length → s.getD i 0 = -1 ∨ s.getD i 0 = ((d i).toNat : Int)
  mem : ∀ x ∈ H, 0 ≤ x ∧ x < F.length ∧ 0 ≤ s.getD x.toNat 0
  new : ∀ i : Nat, i < F.length → 0 ≤ s.getD i 0 → (i : Int) ∈ H
  nd : H.Nodup
  kl : k ≤ H.length
  z : 0 ≤ s.getD (ofI 0 F) 0
  don : ∀ i x, i < k → H.getD i 0 = ((x : Nat) : Int) → ∀ p, p < (F.getD x []).length → 0 ≤ s.getD (ofI (-1 - (F.getD x []).getD p 0) F) 0
  par : ∀ x, k < H.length → H.getD k 0 = ((x : Nat) : Int) → ∀ p, p < q → p < (F.getD x []).length → 0 ≤ s.getD (ofI (-1 - (F.getD x []).getD p 0) F) 0
theorem Bf.init {F : List (List Int)} {M : Nat} {d : Nat → Bool} (h : Col F M d) : Bf F d ((List.replicate F.length (-1)).set (ofI 0 F) 0) [(ofI 0 F : Int)] 0 0 := by
  have hp := h.pos
  have h0 := h.at (x := 0) (by omega) (by omega)
  have hg : ∀ i, i < F.length → ((List.replicate F.length (-1 : Int)).set (ofI 0 F) 0).getD i 0 = if i = ofI 0 F then 0 else -1 := fun i hi => by
    rw [set_get (by simp; exact h0.1)]
    split
    · rfl
    · simp [List.getD, hi]
  refine ⟨by simp, fun i hi => ?_, fun x hx => ?_, fun i hi h1 => ?_, by simp, by simp, ?_, by omega, by omega⟩
  · rw [hg i hi]
    split
    · rename_i e; subst e; rw [h.z]; exact .inr rfl
    · exact .inl rfl
  · simp at hx; subst hx
    refine ⟨by omega, by omega, ?_⟩
    rw [Int.toNat_natCast, hg _ h0.1, if_pos rfl]; omega
  · rw [hg i hi] at h1
    split at h1
    · rename_i e; subst e; simp
    · omega
  · rw [hg _ h0.1, if_pos rfl]; omega
theorem Bf.lenH {F : List (List Int)} {d : Nat → Bool} {s H : List Int} {k q : Nat} (h : Bf F d s H k q) : H.length ≤ F.length := by
  have := nodup_lt (n := F.length) (l := H.map Int.toNat) ?_ fun x hx => ?_
  · simpa using this
  · rw [List.nodup_iff_pairwise_ne, List.pairwise_map]
    refine List.Pairwise.imp_of_mem (fun {a b} ha hb hab => ?_) (List.nodup_iff_pairwise_ne.1 h.nd)
    have := h.mem a ha; have := h.mem b hb; omega
  · obtain ⟨a, ha, rfl⟩ := List.mem_map.1 hx
    have := h.mem a ha; omega
theorem Bf.at {F : List (List Int)} {d : Nat → Bool} {s H : List Int} {k q : Nat} (h : Bf F d s H k q) (hk : k < H.length) : ∃ x : Nat, H.getD k 0 = (x : Int) ∧ x < F.length ∧ s.getD x 0 = ((d x).toNat : Int) := by
  have := h.mem _ (mem_getD hk)
  refine ⟨(H.getD k 0).toNat, by omega, by omega, ?_⟩
  have hv := h.val (H.getD k 0).toNat (by omega); omega
theorem Bf.skip {F : List (List Int)} {d : Nat → Bool} {s H : List Int} {k q x : Nat} (h : Bf F d s H k q) (hx : H.getD k 0 = (x : Int)) (hs : 0 ≤ s.getD (ofI (-1 - (F.getD x []).getD q 0) F) 0) : Bf F d s H k (q + 1) := by
  refine ⟨h.len, h.val, h.mem, h.new, h.nd, h.kl, h.z, h.don, fun x' hk hx' p hp hpl => ?_⟩
  have : x' = x := by omega
  subst this
  by_cases e : p = q
  · subst e; exact hs
  · exact h.par x' hk hx' p (by omega) hpl
theorem Bf.put {F : List (List Int)} {M : Nat} {d : Nat → Bool} (hc : Col F M d) {s H : List Int} {k q x y : Nat} (h : Bf F d s H k q) (hk : k < H.length) (hx : H.getD k 0 = (x : Int)) (hq : q < (F.getD x []).length) (hy : y = ofI (-1 - (F.getD x []).getD q 0) F) (hs : s.getD y 0 < 0) :
    Bf F d (s.set y (1 - s.getD x 0)) (H ++ [(y : Int)]) k (q + 1) := by
  obtain ⟨x', hx', hxl, hxv⟩ := h.at hk
  have : x' = x := by omega
  subst this
  have hm : (F.getD x' []).getD q 0 ∈ F.getD x' [] := mem_getD hq
  have hr := hc.rg x' _ hxl hm
  have hyl := (hc.at (x := -1 - (F.getD x' []).getD q 0) (by omega) (by omega)).1
  rw [← hy] at hyl
  have ho := hc.op _ hr.1 hr.2
  rw [hc.of hxl hm, ← hy] at ho
  have hysl : y < s.length := by rw [h.len]; exact hyl
  have hw : 1 - s.getD x' 0 = ((d y).toNat : Int) := by rw [hxv, ho]; cases d x' <;> rfl
  rw [hw]
  have hge : ∀ i, 0 ≤ s.getD i 0 → (s.set y ((d y).toNat : Int)).getD i 0 = s.getD i 0 := fun i hi => by rw [set_get hysl, if_neg (by rintro rfl; omega)]
  have hyy : (s.set y ((d y).toNat : Int)).getD y 0 = ((d y).toNat : Int) := by rw [set_get hysl, if_pos rfl]
  have hge2 : ∀ i, 0 ≤ s.getD i 0 → 0 ≤ (s.set y ((d y).toNat : Int)).getD i 0 := fun i hi => by rw [hge i hi]; exact hi
  have hyH : ¬ (y : Int) ∈ H := fun hm => by have := h.mem _ hm; rw [Int.toNat_natCast] at this; omega
  refine ⟨by rw [List.length_set]; exact h.len, fun i hi => ?_, fun a ha => ?_, fun i hi h0 => ?_, ?_, by simp; have := h.kl; omega, hge2 _ h.z, fun i a hi ha p hp => ?_, fun a _ ha p hp hpl => ?_⟩
  · rw [set_get hysl]
    split
    · rename_i e; subst e; exact .inr rfl
    · exact h.val i hi
  · rcases List.mem_append.1 ha with ha | ha
    · have := h.mem a ha; exact ⟨this.1, this.2.1, hge2 _ this.2.2⟩
    · simp at ha; subst ha; exact ⟨by omega, by omega, by rw [Int.toNat_natCast, hyy]; omega⟩
  · rw [set_get hysl] at h0
    split at h0
    · rename_i e; subst e; simp
    · exact List.mem_append.2 (.inl (h.new i hi h0))
  · rw [List.nodup_append]
    refine ⟨h.nd, by simp, fun a ha b hb => ?_⟩
    simp at hb; subst hb
    rintro rfl; exact hyH ha
  · have hil : i < H.length := by have := h.kl; omega
    rw [getD_app, if_pos hil] at ha
    exact hge2 _ (h.don i a hi ha p hp)
  · rw [getD_app, if_pos hk] at ha
    have : a = x' := by omega
    subst this
    by_cases e : p = q
    · subst e; rw [← hy, hyy]; omega
    · exact hge2 _ (h.par a hk hx' p (by omega) hpl)
theorem Bf.next {F : List (List Int)} {d : Nat → Bool} {s H : List Int} {k x : Nat} (h : Bf F d s H k (F.getD x []).length) (hk : k < H.length) (hx : H.getD k 0 = (x : Int)) : Bf F d s H (k + 1) 0 := by
  refine ⟨h.len, h.val, h.mem, h.new, h.nd, hk, h.z, fun i a hi ha p hp => ?_, fun _ _ _ p hp => by omega⟩
  by_cases e : i = k
  · subst e
    have : a = x := by omega
    subst this
    exact h.par a hk ha p hp hp
  · exact h.don i a (by omega) ha p hp
theorem Bf.done {F : List (List Int)} {M : Nat} {d : Nat → Bool} (hc : Col F M d) {s H : List Int} {q : Nat} (h : Bf F d s H H.length q) : ∀ i, i < F.length → s.getD i 0 = ((d i).toNat : Int) := by
  have hall := hc.cn (fun i => decide (0 ≤ s.getD i 0)) (decide_eq_true h.z) fun x h0 h1 hx => by
    have h2 := hc.at h0 h1
    have h3 := h.new _ h2.1 (of_decide_eq_true hx)
    obtain ⟨i, hi, hgi⟩ := getD_mem h3
    obtain ⟨p, hp, hgp⟩ := getD_mem h2.2
    have := h.don i _ hi hgi p hp
    rw [hgp] at this
    exact decide_eq_true this
  intro i hi
  have := of_decide_eq_true (hall i hi)
  have hv := h.val i hi; omega
end Go.Scr
/- The colours of the faces of a plane word: by rounds. No condition. -/
namespace Go.Scr
set_option linter.unusedVariables false
set_option linter.unusedSimpArgs false
set_option linter.unusedSectionVars false

def sgC (b : Bool) : Int := if b = true then -1 else 1
theorem sgC_ne {b : Bool} : sgC b ≠ 0 := by cases b <;> decide
theorem sgC_not {b : Bool} : sgC (!b) = - sgC b := by cases b <;> rfl
structure Rl (F : List (List Int)) (d : Nat → Bool) (c : List Int) : Prop where
  len : c.length = F.length
  val : ∀ i, i < F.length → c.getD i 0 = 0 ∨ c.getD i 0 = sgC (d i)
  z : c.getD (ofI 0 F) 0 ≠ 0
structure Re (F : List (List Int)) (d : Nat → Bool) (c0 c : List Int) (e : Nat) : Prop where
  rl : Rl F d c
  mono : ∀ i, i < F.length → c0.getD i 0 ≠ 0 → c.getD i 0 ≠ 0
  dn : ∀ e' : Nat, e' < e → (c0.getD (ofI (e' : Int) F) 0 ≠ 0 ∨ c0.getD (ofI (-1 - (e' : Int)) F) 0 ≠ 0) → c.getD (ofI (e' : Int) F) 0 ≠ 0 ∧ c.getD (ofI (-1 - (e' : Int)) F) 0 ≠ 0
theorem Re.init {F : List (List Int)} {d : Nat → Bool} {c : List Int} (h : Rl F d c) : Re F d c c 0 := ⟨h, fun _ _ h => h, fun _ h => by omega⟩
theorem Re.upd {F : List (List Int)} {M : Nat} {d : Nat → Bool} (hc : Col F M d) {c0 c c' : List Int} {e : Nat} (h : Re F d c0 c e) (he : e < M) (hl : c'.length = c.length)
    (hv : ∀ i, i < F.length → c'.getD i 0 = c.getD i 0 ∨ c'.getD i 0 = sgC (d i))
    (hd : (c.getD (ofI (e : Int) F) 0 ≠ 0 ∨ c.getD (ofI (-1 - (e : Int)) F) 0 ≠ 0) → c'.getD (ofI (e : Int) F) 0 ≠ 0 ∧ c'.getD (ofI (-1 - (e : Int)) F) 0 ≠ 0) : Re F d c0 c' (e + 1) := by
  have keep : ∀ i, i < F.length → c.getD i 0 ≠ 0 → c'.getD i 0 ≠ 0 := fun i hi h0 => by
    rcases hv i hi with h1 | h1 <;> rw [h1]
    · exact h0
    · exact sgC_ne
  have hp := hc.pos
  have h0 := (hc.at (x := 0) (by omega) (by omega)).1
  have ha : ∀ e' : Nat, e' < M → ofI (e' : Int) F < F.length ∧ ofI (-1 - (e' : Int)) F < F.length := fun e' he' => ⟨(hc.at (by omega) (by omega)).1, (hc.at (by omega) (by omega)).1⟩
  refine ⟨⟨hl.trans h.rl.len, fun i hi => ?_, keep _ h0 h.rl.z⟩, fun i hi h1 => keep i hi (h.mono i hi h1), fun e' he' h1 => ?_⟩
  · rcases hv i hi with h1 | h1
    · rw [h1]; exact h.rl.val i hi
    · exact .inr h1
  · by_cases e1 : e' = e
    · subst e1
      exact hd (h1.imp (h.mono _ (ha e' he).1) (h.mono _ (ha e' he).2))
    · have := h.dn e' (by omega) h1
      exact ⟨keep _ (ha e' (by omega)).1 this.1, keep _ (ha e' (by omega)).2 this.2⟩
theorem Re.facts {F : List (List Int)} {M : Nat} {d : Nat → Bool} (hc : Col F M d) {e a b : Nat} (he : e < M) (ha : a = ofI (e : Int) F) (hb : b = ofI (-1 - (e : Int)) F) : a < F.length ∧ b < F.length ∧ d b = !d a ∧ a ≠ b := by
  have h1 := hc.at (x := (e : Int)) (by omega) (by omega)
  have h2 := hc.at (x := -1 - (e : Int)) (by omega) (by omega)
  have h3 := hc.op (e : Int) (by omega) (by omega)
  rw [← ha, ← hb] at h3
  refine ⟨by rw [ha]; exact h1.1, by rw [hb]; exact h2.1, h3, fun e => ?_⟩
  rw [e] at h3
  cases d b <;> simp at h3
section
variable {F : List (List Int)} {M : Nat} {d : Nat → Bool} (hc : Col F M d) {c0 c : List Int} {e a b : Nat} (h : Re F d c0 c e) (he : e < M) (ha : a = ofI (e : Int) F) (hb : b = ofI (-1 - (e : Int)) F)
include hc h he ha hb
theorem Re.none (h1 : c.getD a 0 = 0) (h2 : c.getD b 0 = 0) : Re F d c0 c (e + 1) :=
  h.upd hc he rfl (fun _ _ => .inl rfl) fun h3 => by rw [← ha, ← hb] at h3; exact h3.elim (fun h => absurd h1 h) fun h => absurd h2 h
theorem Re.right (h1 : c.getD a 0 = 0) (h2 : ¬ c.getD b 0 = 0) : Re F d c0 (c.set a (- c.getD b 0)) (e + 1) := by
  obtain ⟨hal, hbl, hd, hne⟩ := Re.facts hc he ha hb
  have hl := h.rl.len
  have hv : - c.getD b 0 = sgC (d a) := by
    rw [(h.rl.val b hbl).resolve_left h2, hd, sgC_not, Int.neg_neg]
  refine h.upd hc he (by simp) (fun i hi => ?_) fun _ => ?_
  · rw [set_get (by omega)]
    split
    · rename_i e1; subst e1; exact .inr hv
    · exact .inl rfl
  · rw [← ha, ← hb, set_get (by omega), if_pos rfl, hv, set_get (by omega), if_neg (Ne.symm hne)]
    exact ⟨sgC_ne, h2⟩
theorem Re.both (h1 : ¬ c.getD a 0 = 0) : ¬ (c.set b (- c.getD a 0)).getD b 0 = 0 ∧ Re F d c0 ((c.set b (- c.getD a 0)).set a (- (c.set b (- c.getD a 0)).getD b 0)) (e + 1) := by
  obtain ⟨hal, hbl, hd, hne⟩ := Re.facts hc he ha hb
  have hl := h.rl.len
  have hva : c.getD a 0 = sgC (d a) := (h.rl.val a hal).resolve_left h1
  have hvb : - c.getD a 0 = sgC (d b) := by rw [hva, hd, sgC_not]
  have hgb : (c.set b (- c.getD a 0)).getD b 0 = sgC (d b) := by rw [set_get (by omega), if_pos rfl]; exact hvb
  have hvaa : - sgC (d b) = sgC (d a) := by rw [hd, sgC_not, Int.neg_neg]
  rw [hgb, hvaa, hvb]
  refine ⟨sgC_ne, h.upd hc he (by simp) (fun i hi => ?_) fun _ => ?_⟩
  · rw [set_get (by simp; omega)]
    split
    · rename_i e1; subst e1; exact .inr rfl
    · rw [set_get (by omega)]
      split
      · rename_i e1; subst e1; exact .inr rfl
      · exact .inl rfl
  · rw [← ha, ← hb, set_get (by simp; omega), if_pos rfl, set_get (by simp; omega), if_neg (Ne.symm hne), set_get (by omega), if_pos rfl]
    exact ⟨sgC_ne, sgC_ne⟩
end
/-- How many of the first k have a colour. -/
def nzK (c : List Int) : Nat → Nat
  | 0 => 0
  | k + 1 => nzK c k + if c.getD k 0 = 0 then 0 else 1
theorem nzK_le {c : List Int} : ∀ {k : Nat}, nzK c k ≤ k
  | 0 => Nat.le_refl _
  | k + 1 => by have := nzK_le (c := c) (k := k); rw [nzK]; split <;> omega
theorem nzK_pos {c : List Int} : ∀ {k i : Nat}, i < k → c.getD i 0 ≠ 0 → 1 ≤ nzK c k
  | k + 1, i, hi, h => by
    rw [nzK]
    by_cases e : i = k
    · subst e; rw [if_neg h]; omega
    · have := nzK_pos (c := c) (k := k) (i := i) (by omega) h; omega
theorem nzK_mono {c c' : List Int} : ∀ {k : Nat}, (∀ i, i < k → c.getD i 0 ≠ 0 → c'.getD i 0 ≠ 0) → nzK c k ≤ nzK c' k
  | 0, _ => Nat.le_refl _
  | k + 1, h => by
    have := nzK_mono (c := c) (c' := c') (k := k) fun i hi => h i (by omega)
    rw [nzK, nzK]
    by_cases e : c.getD k 0 = 0
    · rw [if_pos e]; omega
    · rw [if_neg e, if_neg (h k (by omega) e)]; omega
theorem nzK_more {c c' : List Int} : ∀ {k i : Nat}, (∀ i, i < k → c.getD i 0 ≠ 0 → c'.getD i 0 ≠ 0) → i < k → c.getD i 0 = 0 → c'.getD i 0 ≠ 0 → nzK c k + 1 ≤ nzK c' k
  | k + 1, i, h, hi, h0, h1 => by
    rw [nzK, nzK]
    by_cases e : i = k
    · subst e
      have := nzK_mono (c := c) (c' := c') (k := i) fun j hj => h j (by omega)
      rw [if_pos h0, if_neg h1]; omega
    · have := nzK_more (c := c) (c' := c') (k := k) (i := i) (fun j hj => h j (by omega)) (by omega) h0 h1
      by_cases e2 : c.getD k 0 = 0
      · rw [if_pos e2]; omega
      · rw [if_neg e2, if_neg (h k (by omega) e2)]; omega
theorem nzK_all {c : List Int} : ∀ {k : Nat}, nzK c k = k → ∀ i, i < k → c.getD i 0 ≠ 0
  | k + 1, h, i, hi => by
    have := nzK_le (c := c) (k := k)
    rw [nzK] at h
    by_cases e : c.getD k 0 = 0
    · rw [if_pos e] at h; omega
    · rw [if_neg e] at h
      by_cases e2 : i = k
      · subst e2; exact e
      · exact nzK_all (k := k) (by omega) i (by omega)
theorem nzK_full {c : List Int} : ∀ {k : Nat}, (∀ i, i < k → c.getD i 0 ≠ 0) → nzK c k = k
  | 0, _ => rfl
  | k + 1, h => by rw [nzK, nzK_full fun i hi => h i (by omega), if_neg (h k (by omega))]
/-- A round. -/
theorem Re.round {F : List (List Int)} {M : Nat} {d : Nat → Bool} (hc : Col F M d) {c0 c : List Int} (h0 : Rl F d c0) (h : Re F d c0 c M) {r : Nat} (hr : min (r + 1) F.length ≤ nzK c0 F.length) : min (r + 1 + 1) F.length ≤ nzK c F.length := by
  have hle := nzK_le (c := c0) (k := F.length)
  by_cases hall : nzK c0 F.length = F.length
  · have h1 := nzK_all hall
    have := nzK_full (c := c) (k := F.length) fun i hi => h.mono i hi (h1 i hi)
    omega
  · -- some edge leads from a face with a colour to one without
    have key : ∃ x, -(M : Int) ≤ x ∧ x < M ∧ c0.getD (ofI x F) 0 ≠ 0 ∧ c0.getD (ofI (-1 - x) F) 0 = 0 := Classical.byContradiction fun hno => by
      apply hall
      refine nzK_full fun i hi => ?_
      have := hc.cn (fun i => !decide (c0.getD i 0 = 0)) (by simp only [Bool.not_eq_true', decide_eq_false_iff_not]; exact h0.z) (fun x hx0 hx1 hx => by
        simp only [Bool.not_eq_true', decide_eq_false_iff_not] at hx ⊢
        intro h2
        exact hno ⟨x, hx0, hx1, hx, h2⟩) i hi
      simpa using this
    obtain ⟨x, hx0, hx1, hx2, hx3⟩ := key
    have hl := (hc.at (x := -1 - x) (by omega) (by omega)).1
    have hnz : c.getD (ofI (-1 - x) F) 0 ≠ 0 := by
      by_cases hx : 0 ≤ x
      · have := h.dn x.toNat (by omega) (by rw [Int.toNat_of_nonneg hx]; exact .inl hx2)
        rw [Int.toNat_of_nonneg hx] at this; exact this.2
      · have := h.dn (-1 - x).toNat (by omega) (by rw [Int.toNat_of_nonneg (by omega), show -1 - (-1 - x) = x by omega]; exact .inr hx2)
        rw [Int.toNat_of_nonneg (by omega)] at this; exact this.1
    have := nzK_more h.mono hl hx3 hnz
    omega
theorem Rl.init {F : List (List Int)} {M : Nat} {d : Nat → Bool} (hc : Col F M d) : Rl F d ((List.replicate F.length 0).set (ofI 0 F) 1) ∧ min (0 + 1) F.length ≤ nzK ((List.replicate F.length 0).set (ofI 0 F) 1) F.length := by
  have hp := hc.pos
  have h0 := (hc.at (x := 0) (by omega) (by omega)).1
  have hg : ∀ i, i < F.length → ((List.replicate F.length (0 : Int)).set (ofI 0 F) 1).getD i 0 = if i = ofI 0 F then 1 else 0 := fun i hi => by
    rw [set_get (by simp; exact h0)]
    split
    · rfl
    · simp [List.getD, hi]
  have hz : ((List.replicate F.length (0 : Int)).set (ofI 0 F) 1).getD (ofI 0 F) 0 ≠ 0 := by rw [hg _ h0, if_pos rfl]; decide
  refine ⟨⟨by simp, fun i hi => ?_, hz⟩, ?_⟩
  · rw [hg i hi]
    split
    · rename_i e; subst e; rw [hc.z]; exact .inr rfl
    · exact .inl rfl
  · have := nzK_pos h0 hz
    omega
/-- All faces have their colour in the end. -/
theorem Rl.final {F : List (List Int)} {d : Nat → Bool} {c : List Int} (h : Rl F d c) (hn : min (F.length + 1) F.length ≤ nzK c F.length) : ∀ i, i < F.length → c.getD i 0 = sgC (d i) := fun i hi => by
  have hle := nzK_le (c := c) (k := F.length)
  exact (h.val i hi).resolve_left (nzK_all (by omega) i hi)
end Go.Scr
/- The colours of the faces: the program's. No condition. -/
namespace Go.Proofs.Ytdfajcfkdfjoeaa
open Go Go.Vc Go.Scr
set_option linter.unusedVariables false
set_option linter.unusedSimpArgs false

theorem mi_eq' {m m' : Int → Option Int} {c c' : Nat} (h : m = m') (hc : c = c') : Ob.mp .i64 (.int .i64) m c = Ob.mp .i64 (.int .i64) m' c' := by rw [h, hc]
theorem Colors_no {w s : List Int} (h : ¬ whyT w s = 0) (hl : w.length ≤ 1000) (hs : s.length ≤ 1000) : FnAt Try.prog false 32 [.arr (.int .i64) w, .arr (.int .i64) s] (.tup [.lit (.int .i64 0), .lit (.int .i64 0), .lit (.int .i64 (whyT w s))]) [] := by
  refine FnAt.of_body tys_ok Try.func32 (by rfl) rfl Try.ntmps32 (by rw [Try.results32]) (by simp) ?_
  
  repeat' (first
 | refine W.seq ?_
 | refine W.block ?_
 | (refine W.region tys_ok [] ?_; conv => whnf)
 | (refine W.drawAll tys_ok [] mixed rfl ?_; conv => whnf)
 | (refine W.ret ?_; conv => whnf)
 | (refine W.skip ?_; conv => whnf)
 | (refine W.exit ?_; conv => whnf)
 | (refine call_at (al := true) (signed_no h hl hs) rfl rfl rfl rfl ?_; conv => whnf)

    | (refine W.cond rfl (fun hb => ?_) (fun hb => ?_) <;> (try simp only [Int.reduceToNat, Int.reduceTDiv, Int.reduceTMod, minL, maxL, pickB, zHB] at hb) <;> (try (first | (cases hb; done) | exact absurd hb (by decide) | (exfalso; omega))))
    | ((with_reducible refine And.intro ?_ ?_); (focus ((repeat' (first | (with_reducible rfl) | (with_reducible refine And.intro ?_ ?_) | omega | rfl | exact Or.inl rfl | exact Or.inr rfl | exact of_decide_eq_true rfl | exact Path.imp_of (of_decide_eq_true rfl) | (focus ((try simp only [Int.reduceToNat, Int.reduceTDiv, Int.reduceTMod, minL, maxL, pickB, zHB, InK, Path.imp, List.length_replicate, List.length_set, List.length_append, List.length_cons, List.length_nil] at *); omega)) | (refine app_le rfl ?_; omega))); done)); (conv => whnf))
    | ((with_reducible refine And.intro (Side.out ?_) ?_); rotate_left; (conv => whnf))
    | (refine retF1 ?_ <;> (conv => whnf) <;> repeat' (first
 | exact trivial
 | (with_reducible rfl)
 | ((with_reducible refine And.intro ?_ ?_) <;> conv => whnf)
 | omega
 | rfl
 | (refine congrArg (SV.arr _) ?_)
 | (refine congrArg (Value.int _) ?_)
 | (refine congrArg Value.bool ?_)))
 | (refine retF2 ?_ <;> (conv => whnf) <;> repeat' (first
 | exact trivial
 | (with_reducible rfl)
 | ((with_reducible refine And.intro ?_ ?_) <;> conv => whnf)
 | omega
 | rfl
 | (refine congrArg (SV.arr _) ?_)
 | (refine congrArg (Value.int _) ?_)
 | (refine congrArg Value.bool ?_)))); all_goals (try unfold Side)
  all_goals try (repeat' (first | (with_reducible rfl) | (with_reducible refine And.intro ?_ ?_) | omega | rfl | exact Or.inl rfl | exact Or.inr rfl | exact of_decide_eq_true rfl | exact Path.imp_of (of_decide_eq_true rfl) | (focus ((try simp only [Int.reduceToNat, Int.reduceTDiv, Int.reduceTMod, minL, maxL, pickB, zHB, InK, Path.imp, List.length_replicate, List.length_set, List.length_append, List.length_cons, List.length_nil] at *); omega)) | (refine app_le rfl ?_; omega)))
theorem Colors_none {w s : List Int} {n : Nat} (h : Word w n) (hn : n ≤ 10) (hs : signsB s n = true) (hg : ¬ genusT n w s = 0) : FnAt Try.prog false 32 [.arr (.int .i64) w, .arr (.int .i64) s] (.tup [.lit (.int .i64 0), .lit (.int .i64 0), .lit (.int .i64 5)]) [] := by
  refine FnAt.of_body tys_ok Try.func32 (by rfl) rfl Try.ntmps32 (by rw [Try.results32]) (by simp) ?_
  
  repeat' (first
 | refine W.seq ?_
 | refine W.block ?_
 | (refine W.region tys_ok [] ?_; conv => whnf)
 | (refine W.drawAll tys_ok [] mixed rfl ?_; conv => whnf)
 | (refine W.ret ?_; conv => whnf)
 | (refine W.skip ?_; conv => whnf)
 | (refine W.exit ?_; conv => whnf)
 | (refine call_at (al := true) (signed_ok h hn hs) rfl rfl rfl rfl ?_; conv => whnf)
 | (refine call_at (al := false) (genus_at h hn hs) rfl rfl rfl rfl ?_; conv => whnf)

    | (refine W.cond rfl (fun hb => ?_) (fun hb => ?_) <;> (try simp only [Int.reduceToNat, Int.reduceTDiv, Int.reduceTMod, minL, maxL, pickB, zHB] at hb) <;> (try (first | (cases hb; done) | exact absurd hb (by decide) | (exfalso; omega))))
    | ((with_reducible refine And.intro ?_ ?_); (focus ((repeat' (first | (with_reducible rfl) | (with_reducible refine And.intro ?_ ?_) | omega | rfl | exact Or.inl rfl | exact Or.inr rfl | exact of_decide_eq_true rfl | exact Path.imp_of (of_decide_eq_true rfl) | (focus ((try simp only [Int.reduceToNat, Int.reduceTDiv, Int.reduceTMod, minL, maxL, pickB, zHB, InK, Path.imp, List.length_replicate, List.length_set, List.length_append, List.length_cons, List.length_nil] at *); omega)) | (refine app_le rfl ?_; omega))); done)); (conv => whnf))
    | ((with_reducible refine And.intro (Side.out ?_) ?_); rotate_left; (conv => whnf))
    | (refine retF1 ?_ <;> (conv => whnf) <;> repeat' (first
 | exact trivial
 | (with_reducible rfl)
 | ((with_reducible refine And.intro ?_ ?_) <;> conv => whnf)
 | omega
 | rfl
 | (refine congrArg (SV.arr _) ?_)
 | (refine congrArg (Value.int _) ?_)
 | (refine congrArg Value.bool ?_)))
 | (refine retF2 ?_ <;> (conv => whnf) <;> repeat' (first
 | exact trivial
 | (with_reducible rfl)
 | ((with_reducible refine And.intro ?_ ?_) <;> conv => whnf)
 | omega
 | rfl
 | (refine congrArg (SV.arr _) ?_)
 | (refine congrArg (Value.int _) ?_)
 | (refine congrArg Value.bool ?_)))); all_goals (try unfold Side)
  all_goals try (repeat' (first | (with_reducible rfl) | (with_reducible refine And.intro ?_ ?_) | omega | rfl | exact Or.inl rfl | exact Or.inr rfl | exact of_decide_eq_true rfl | exact Path.imp_of (of_decide_eq_true rfl) | (focus ((try simp only [Int.reduceToNat, Int.reduceTDiv, Int.reduceTMod, minL, maxL, pickB, zHB, InK, Path.imp, List.length_replicate, List.length_set, List.length_append, List.length_cons, List.length_nil] at *); omega)) | (refine app_le rfl ?_; omega)))
theorem ofM_get {F : List (List Int)} {x : Int} (h : x ∈ F.flatten) : (ofM F x).getD 0 = (ofI x F : Int) := by rw [ofM_in h]; rfl
theorem take_get {xs : List Int} {j : Nat} (h : j < xs.length) : xs.take (j + 1) = xs.take j ++ [xs.getD j 0] := by
  rw [List.take_add_one]; simp [List.getD, h]
set_option maxHeartbeats 16000000 in
theorem Colors_ok {w s : List Int} {n : Nat} (h : Word w n) (hn : n ≤ 10) (hs : signsB s n = true) (hg : genusT n w s = 0) {d : Nat → Bool} (hd : Col (facesT (nextT w s) (2 * n)) (2 * n) d) :
    FnAt Try.prog false 32 [.arr (.int .i64) w, .arr (.int .i64) s] (.tup [.lit (.int .i64 ((n + 2 : Nat) - (whK d (n + 2) : Int))), .lit (.int .i64 (whK d (n + 2))), .lit (.int .i64 0)]) [] := by
  have hp := h.pos
  have hs' := hs
  simp only [signsB, Bool.and_eq_true, decide_eq_true_eq] at hs'
  have hgk := (genus_ok h hs'.1 hs'.2).2
  have hgen := genus_at h hn hs
  have hfac := faces_at h hn hs
  have H := facesT_FK (next_pn h hs'.1 hs'.2)
  rw [hg] at hgk hgen
  obtain ⟨F, hF⟩ : ∃ F, F = facesT (nextT w s) (2 * n) := ⟨_, rfl⟩
  rw [← hF] at hd hgk hfac H
  clear hF
  have hFl : F.length = n + 2 := by omega
  have hFl2 : @List.length (Ty.sl (.int .i64)).T F = n + 2 := hFl
  rw [← hFl]
  have H1 := fun j q hj hq => H.at (j := j) (q := q) hj hq
  have H4 := H.len
  have H5 := fun j => flat_len (F := F) (j := j)
  have H6 := fun j hj => flat_take (F := F) (j := j) hj
  have H7 := fun j hj => take_face (F := F) (j := j) hj
  have hz := hd.mem 0 (by omega) (by omega)
  have hz0 := ofM_get hz
  have hzl := (hd.at (x := 0) (by omega) (by omega)).1
  have hrep := repeat_at (n := F.length) (by omega) (by omega)
  have hini := Bf.init hd
  have hfl40 : ∀ j, j < F.length → (F.getD j []).length ≤ 40 := fun j hj => by
    have h6 := H6 j hj
    have h5 := H5 (j + 1)
    rw [h6, List.length_append] at h5; omega
  refine FnAt.of_body tys_ok Try.func32 (by rfl) rfl Try.ntmps32 (by rw [Try.results32]) (by simp) ?_
  
  repeat' (first
 | refine W.seq ?_
 | refine W.block ?_
 | (refine W.region tys_ok [40] ?_; conv => whnf)
 | (refine W.drawAll tys_ok [40] mixed rfl ?_; conv => whnf)
 | (refine W.ret ?_; conv => whnf)
 | (refine W.skip ?_; conv => whnf)
 | (refine W.exit ?_; conv => whnf)
 | (refine call_at (al := true) (signed_ok h hn hs) rfl rfl rfl rfl ?_; conv => whnf)
 | (refine call_at (al := false) (hgen) rfl rfl rfl rfl ?_; conv => whnf)
 | (refine call_at (al := false) (hfac) rfl rfl rfl rfl ?_; conv => whnf)

    | (refine W.cond rfl (fun hb => ?_) (fun hb => ?_) <;> (try simp only [Int.reduceToNat, Int.reduceTDiv, Int.reduceTMod, minL, maxL, pickB, zHB] at hb) <;> (try (first | (cases hb; done) | exact absurd hb (by decide) | (exfalso; omega))))
    | ((with_reducible refine And.intro ?_ ?_); (focus ((repeat' (first | (with_reducible rfl) | (with_reducible refine And.intro ?_ ?_) | omega | rfl | exact Or.inl rfl | exact Or.inr rfl | exact of_decide_eq_true rfl | exact Path.imp_of (of_decide_eq_true rfl) | (focus ((try simp only [Int.reduceToNat, Int.reduceTDiv, Int.reduceTMod, minL, maxL, pickB, zHB, InK, Path.imp, List.length_replicate, List.length_set, List.length_append, List.length_cons, List.length_nil] at *); omega)) | (refine app_le rfl ?_; omega))); done)); (conv => whnf))
    | ((with_reducible refine And.intro (Side.out ?_) ?_); rotate_left; (conv => whnf))
    | (refine retF1 ?_ <;> (conv => whnf) <;> repeat' (first
 | exact trivial
 | (with_reducible rfl)
 | ((with_reducible refine And.intro ?_ ?_) <;> conv => whnf)
 | omega
 | rfl
 | (refine congrArg (SV.arr _) ?_)
 | (refine congrArg (Value.int _) ?_)
 | (refine congrArg Value.bool ?_)))
 | (refine retF2 ?_ <;> (conv => whnf) <;> repeat' (first
 | exact trivial
 | (with_reducible rfl)
 | ((with_reducible refine And.intro ?_ ?_) <;> conv => whnf)
 | omega
 | rfl
 | (refine congrArg (SV.arr _) ?_)
 | (refine congrArg (Value.int _) ?_)
 | (refine congrArg Value.bool ?_)))); all_goals (try unfold Side)
  all_goals try (repeat' (first | (with_reducible rfl) | (with_reducible refine And.intro ?_ ?_) | omega | rfl | exact Or.inl rfl | exact Or.inr rfl | exact of_decide_eq_true rfl | exact Path.imp_of (of_decide_eq_true rfl) | (focus ((try simp only [Int.reduceToNat, Int.reduceTDiv, Int.reduceTMod, minL, maxL, pickB, zHB, InK, Path.imp, List.length_replicate, List.length_set, List.length_append, List.length_cons, List.length_nil] at *); omega)) | (refine app_le rfl ?_; omega)))
  refine W.loop (fun i : Nat => ⟨[(9, .st true (.arr (.sl (.int .i64)) (F : List (List Int)))), (10, .own 900010), (42, .st true (.arr (.sl (.int .i64)) (F : List (List Int)))), (43, .lit (.int .i64 ((F.length : Nat)))), (44, .lit (.int .i64 (i)))], [(900010, .mp .i64 (.int .i64) (ofM (F.take i)) (F.take i).flatten.length)]⟩) (fun i => i ≤ F.length) (fun i => F.length - i) (0) ?_ ?_
  · refine ⟨Nat.zero_le _, ?_⟩
    refine subF.ok ?_ <;> (conv => whnf) <;> repeat' (first
 | exact trivial
 | (with_reducible rfl)
 | ((with_reducible refine And.intro ?_ ?_) <;> conv => whnf)
 | omega
 | rfl
 | (refine congrArg (SV.arr _) ?_)
 | (refine congrArg (Value.int _) ?_)
 | (refine congrArg Value.bool ?_))
    all_goals exact mi_eq' ofM_nil.symm rfl
  · intro i hi
    by_cases hil : i < F.length
    · have h40 := hfl40 i hil
      have hfe : @List.length (Ty.int .i64).T (F.getD i []) = (F.getD i []).length := rfl
      repeat' (first
 | refine W.seq ?_
 | refine W.block ?_
 | (refine W.region tys_ok [] ?_; conv => whnf)
 | (refine W.drawAll tys_ok [] mixed rfl ?_; conv => whnf)
 | (refine W.ret ?_; conv => whnf)
 | (refine W.skip ?_; conv => whnf)
 | (refine W.exit ?_; conv => whnf)

    | (refine W.cond rfl (fun hb => ?_) (fun hb => ?_) <;> (try simp only [Int.reduceToNat, Int.reduceTDiv, Int.reduceTMod, minL, maxL, pickB, zHB] at hb) <;> (try (first | (cases hb; done) | exact absurd hb (by decide) | (exfalso; omega))))
    | ((with_reducible refine And.intro ?_ ?_); (focus ((repeat' (first | (with_reducible rfl) | (with_reducible refine And.intro ?_ ?_) | omega | rfl | exact Or.inl rfl | exact Or.inr rfl | exact of_decide_eq_true rfl | exact Path.imp_of (of_decide_eq_true rfl) | (focus ((try simp only [Int.reduceToNat, Int.reduceTDiv, Int.reduceTMod, minL, maxL, pickB, zHB, InK, Path.imp, List.length_replicate, List.length_set, List.length_append, List.length_cons, List.length_nil] at *); omega)) | (refine app_le rfl ?_; omega))); done)); (conv => whnf))
    | ((with_reducible refine And.intro (Side.out ?_) ?_); rotate_left; (conv => whnf))
    | (refine retF1 ?_ <;> (conv => whnf) <;> repeat' (first
 | exact trivial
 | (with_reducible rfl)
 | ((with_reducible refine And.intro ?_ ?_) <;> conv => whnf)
 | omega
 | rfl
 | (refine congrArg (SV.arr _) ?_)
 | (refine congrArg (Value.int _) ?_)
 | (refine congrArg Value.bool ?_)))
 | (refine retF2 ?_ <;> (conv => whnf) <;> repeat' (first
 | exact trivial
 | (with_reducible rfl)
 | ((with_reducible refine And.intro ?_ ?_) <;> conv => whnf)
 | omega
 | rfl
 | (refine congrArg (SV.arr _) ?_)
 | (refine congrArg (Value.int _) ?_)
 | (refine congrArg Value.bool ?_)))); all_goals (try unfold Side)
      all_goals try (repeat' (first | (with_reducible rfl) | (with_reducible refine And.intro ?_ ?_) | omega | rfl | exact Or.inl rfl | exact Or.inr rfl | exact of_decide_eq_true rfl | exact Path.imp_of (of_decide_eq_true rfl) | (focus ((try simp only [Int.reduceToNat, Int.reduceTDiv, Int.reduceTMod, minL, maxL, pickB, zHB, InK, Path.imp, List.length_replicate, List.length_set, List.length_append, List.length_cons, List.length_nil] at *); omega)) | (refine app_le rfl ?_; omega)))
      refine W.loop (fun q : Nat => ⟨[(9, .st true (.arr (.sl (.int .i64)) (F : List (List Int)))), (10, .own 900010), (42, .st true (.arr (.sl (.int .i64)) (F : List (List Int)))), (43, .lit (.int .i64 ((F.length : Nat)))), (44, .lit (.int .i64 (i))), (11, .lit (.int .i64 (i))), (49, .st true (.arr (.int .i64) ((F.getD i []) : List Int))), (50, .lit (.int .i64 ((F.getD i []).length))), (51, .lit (.int .i64 (q)))], [(900010, .mp .i64 (.int .i64) (ofM (F.take i ++ [(F.getD i []).take q])) (F.take i ++ [(F.getD i []).take q]).flatten.length)]⟩) (fun q => q ≤ (F.getD i []).length) (fun q => (F.getD i []).length - q) (0) ?_ ?_
      · refine ⟨Nat.zero_le _, ?_⟩
        refine subF.ok ?_ <;> (conv => whnf) <;> repeat' (first
 | exact trivial
 | (with_reducible rfl)
 | ((with_reducible refine And.intro ?_ ?_) <;> conv => whnf)
 | omega
 | rfl
 | (refine congrArg (SV.arr _) ?_)
 | (refine congrArg (Value.int _) ?_)
 | (refine congrArg Value.bool ?_))
        all_goals exact mi_eq' (by rw [List.take_zero, ofM_new]) (by simp)
      · intro q hq
        by_cases hql : q < (F.getD i []).length
        · obtain ⟨k1, k2, k3, k4⟩ := H1 i q hil hql
          have hni : ¬ (F.getD i []).getD q 0 ∈ (F.take i ++ [(F.getD i []).take q]).flatten := by simpa using k3
          have hput := ofM_put hni
          have htl : (F.take i).length = i := by rw [List.length_take]; omega
          rw [htl, ← take_get hql] at hput
          have hno : (ofM (F.take i ++ [(F.getD i []).take q]) ((F.getD i []).getD q 0)).isSome = false := by rw [ofM_out hni]; rfl
          have hm : Ob.mp .i64 (.int .i64) (mput (ofM (F.take i ++ [(F.getD i []).take q])) ((F.getD i []).getD q 0) (i : Int)) (if (ofM (F.take i ++ [(F.getD i []).take q]) ((F.getD i []).getD q 0)).isSome = true then (F.take i ++ [(F.getD i []).take q]).flatten.length else (F.take i ++ [(F.getD i []).take q]).flatten.length + 1) = Ob.mp .i64 (.int .i64) (ofM (F.take i ++ [(F.getD i []).take (q + 1)])) (F.take i ++ [(F.getD i []).take (q + 1)]).flatten.length :=
            mi_eq' hput (by rw [hno, take_get hql]; simp; omega)
          repeat' (first
 | refine W.seq ?_
 | refine W.block ?_
 | (refine W.region tys_ok [] ?_; conv => whnf)
 | (refine W.drawAll tys_ok [] mixed rfl ?_; conv => whnf)
 | (refine W.ret ?_; conv => whnf)
 | (refine W.skip ?_; conv => whnf)
 | (refine W.exit ?_; conv => whnf)

    | (refine W.cond rfl (fun hb => ?_) (fun hb => ?_) <;> (try simp only [Int.reduceToNat, Int.reduceTDiv, Int.reduceTMod, minL, maxL, pickB, zHB] at hb) <;> (try (first | (cases hb; done) | exact absurd hb (by decide) | (exfalso; omega))))
    | ((with_reducible refine And.intro ?_ ?_); (focus ((repeat' (first | (with_reducible rfl) | (with_reducible refine And.intro ?_ ?_) | omega | rfl | exact Or.inl rfl | exact Or.inr rfl | exact of_decide_eq_true rfl | exact Path.imp_of (of_decide_eq_true rfl) | (focus ((try simp only [Int.reduceToNat, Int.reduceTDiv, Int.reduceTMod, minL, maxL, pickB, zHB, InK, Path.imp, List.length_replicate, List.length_set, List.length_append, List.length_cons, List.length_nil] at *); omega)) | (refine app_le rfl ?_; omega))); done)); (conv => whnf))
    | ((with_reducible refine And.intro (Side.out ?_) ?_); rotate_left; (conv => whnf))
    | (refine retF1 ?_ <;> (conv => whnf) <;> repeat' (first
 | exact trivial
 | (with_reducible rfl)
 | ((with_reducible refine And.intro ?_ ?_) <;> conv => whnf)
 | omega
 | rfl
 | (refine congrArg (SV.arr _) ?_)
 | (refine congrArg (Value.int _) ?_)
 | (refine congrArg Value.bool ?_)))
 | (refine retF2 ?_ <;> (conv => whnf) <;> repeat' (first
 | exact trivial
 | (with_reducible rfl)
 | ((with_reducible refine And.intro ?_ ?_) <;> conv => whnf)
 | omega
 | rfl
 | (refine congrArg (SV.arr _) ?_)
 | (refine congrArg (Value.int _) ?_)
 | (refine congrArg Value.bool ?_)))); all_goals (try unfold Side)
          all_goals try (repeat' (first | (with_reducible rfl) | (with_reducible refine And.intro ?_ ?_) | omega | rfl | exact Or.inl rfl | exact Or.inr rfl | exact of_decide_eq_true rfl | exact Path.imp_of (of_decide_eq_true rfl) | (focus ((try simp only [Int.reduceToNat, Int.reduceTDiv, Int.reduceTMod, minL, maxL, pickB, zHB, InK, Path.imp, List.length_replicate, List.length_set, List.length_append, List.length_cons, List.length_nil] at *); omega)) | (refine app_le rfl ?_; omega)))
          refine ⟨q + 1, ⟨by omega, by omega⟩, ?_⟩
          refine subF.ok ?_ <;> (conv => whnf) <;> repeat' (first
 | exact trivial
 | (with_reducible rfl)
 | ((with_reducible refine And.intro ?_ ?_) <;> conv => whnf)
 | omega
 | rfl
 | (refine congrArg (SV.arr _) ?_)
 | (refine congrArg (Value.int _) ?_)
 | (refine congrArg Value.bool ?_))
          all_goals exact hm
        · have hqe : (F.getD i []).length = q := by omega
          subst hqe
          repeat' (first
 | refine W.seq ?_
 | refine W.block ?_
 | (refine W.region tys_ok [] ?_; conv => whnf)
 | (refine W.drawAll tys_ok [] mixed rfl ?_; conv => whnf)
 | (refine W.ret ?_; conv => whnf)
 | (refine W.skip ?_; conv => whnf)
 | (refine W.exit ?_; conv => whnf)

    | (refine W.cond rfl (fun hb => ?_) (fun hb => ?_) <;> (try simp only [Int.reduceToNat, Int.reduceTDiv, Int.reduceTMod, minL, maxL, pickB, zHB] at hb) <;> (try (first | (cases hb; done) | exact absurd hb (by decide) | (exfalso; omega))))
    | ((with_reducible refine And.intro ?_ ?_); (focus ((repeat' (first | (with_reducible rfl) | (with_reducible refine And.intro ?_ ?_) | omega | rfl | exact Or.inl rfl | exact Or.inr rfl | exact of_decide_eq_true rfl | exact Path.imp_of (of_decide_eq_true rfl) | (focus ((try simp only [Int.reduceToNat, Int.reduceTDiv, Int.reduceTMod, minL, maxL, pickB, zHB, InK, Path.imp, List.length_replicate, List.length_set, List.length_append, List.length_cons, List.length_nil] at *); omega)) | (refine app_le rfl ?_; omega))); done)); (conv => whnf))
    | ((with_reducible refine And.intro (Side.out ?_) ?_); rotate_left; (conv => whnf))
    | (refine retF1 ?_ <;> (conv => whnf) <;> repeat' (first
 | exact trivial
 | (with_reducible rfl)
 | ((with_reducible refine And.intro ?_ ?_) <;> conv => whnf)
 | omega
 | rfl
 | (refine congrArg (SV.arr _) ?_)
 | (refine congrArg (Value.int _) ?_)
 | (refine congrArg Value.bool ?_)))
 | (refine retF2 ?_ <;> (conv => whnf) <;> repeat' (first
 | exact trivial
 | (with_reducible rfl)
 | ((with_reducible refine And.intro ?_ ?_) <;> conv => whnf)
 | omega
 | rfl
 | (refine congrArg (SV.arr _) ?_)
 | (refine congrArg (Value.int _) ?_)
 | (refine congrArg Value.bool ?_)))); all_goals (try unfold Side)
          all_goals try (repeat' (first | (with_reducible rfl) | (with_reducible refine And.intro ?_ ?_) | omega | rfl | exact Or.inl rfl | exact Or.inr rfl | exact of_decide_eq_true rfl | exact Path.imp_of (of_decide_eq_true rfl) | (focus ((try simp only [Int.reduceToNat, Int.reduceTDiv, Int.reduceTMod, minL, maxL, pickB, zHB, InK, Path.imp, List.length_replicate, List.length_set, List.length_append, List.length_cons, List.length_nil] at *); omega)) | (refine app_le rfl ?_; omega)))
          refine ⟨i + 1, ⟨by omega, by omega⟩, ?_⟩
          refine subF.ok ?_ <;> (conv => whnf) <;> repeat' (first
 | exact trivial
 | (with_reducible rfl)
 | ((with_reducible refine And.intro ?_ ?_) <;> conv => whnf)
 | omega
 | rfl
 | (refine congrArg (SV.arr _) ?_)
 | (refine congrArg (Value.int _) ?_)
 | (refine congrArg Value.bool ?_))
          all_goals exact mi_eq' (by rw [List.take_length, H7 i hil]) (by rw [List.take_length, H7 i hil])
    · have hie : F.length = i := by omega
      subst hie
      have htk : ofM (F.take F.length) = ofM F := by rw [List.take_length]
      have htl : (F.take F.length).flatten.length = F.flatten.length := by rw [List.take_length]
      rw [htk, htl]
      have hq1 : 0 ≤ (ofM F 0).getD 0 ∧ Int.toNat ((ofM F 0).getD 0) < @List.length (Ty.int .i64).T (List.replicate F.length (-1 : Int)) := by
        rw [hz0]
        show _ ∧ _ < (List.replicate F.length (-1 : Int)).length
        rw [List.length_replicate]; omega
      have hq2 : (List.replicate F.length (-1 : Int)).set (Int.toNat ((ofM F 0).getD 0)) 0 = (List.replicate F.length (-1)).set (ofI 0 F) 0 := by rw [hz0]; rfl
      have hq3 : [(ofM F 0).getD 0] = List.drop 0 [(ofI 0 F : Int)] := by rw [hz0]; rfl
      repeat' (first
 | refine W.seq ?_
 | refine W.block ?_
 | (refine W.region tys_ok [] ?_; conv => whnf)
 | (refine W.drawAll tys_ok [] mixed rfl ?_; conv => whnf)
 | (refine W.ret ?_; conv => whnf)
 | (refine W.skip ?_; conv => whnf)
 | (refine W.exit ?_; conv => whnf)
 | (refine call_at (al := false) (hrep) rfl rfl rfl rfl ?_; conv => whnf)

    | (refine W.cond rfl (fun hb => ?_) (fun hb => ?_) <;> (try simp only [Int.reduceToNat, Int.reduceTDiv, Int.reduceTMod, minL, maxL, pickB, zHB] at hb) <;> (try (first | (cases hb; done) | exact absurd hb (by decide) | (exfalso; omega))))
    | ((with_reducible refine And.intro ?_ ?_); (focus ((repeat' (first | (with_reducible rfl) | (with_reducible refine And.intro ?_ ?_) | omega | rfl | exact Or.inl rfl | exact Or.inr rfl | exact of_decide_eq_true rfl | exact Path.imp_of (of_decide_eq_true rfl) | (focus ((try simp only [Int.reduceToNat, Int.reduceTDiv, Int.reduceTMod, minL, maxL, pickB, zHB, InK, Path.imp, List.length_replicate, List.length_set, List.length_append, List.length_cons, List.length_nil] at *); omega)) | (refine app_le rfl ?_; omega))); done)); (conv => whnf))
    | ((with_reducible refine And.intro (Side.out ?_) ?_); rotate_left; (conv => whnf))
    | (refine retF1 ?_ <;> (conv => whnf) <;> repeat' (first
 | exact trivial
 | (with_reducible rfl)
 | ((with_reducible refine And.intro ?_ ?_) <;> conv => whnf)
 | omega
 | rfl
 | (refine congrArg (SV.arr _) ?_)
 | (refine congrArg (Value.int _) ?_)
 | (refine congrArg Value.bool ?_)))
 | (refine retF2 ?_ <;> (conv => whnf) <;> repeat' (first
 | exact trivial
 | (with_reducible rfl)
 | ((with_reducible refine And.intro ?_ ?_) <;> conv => whnf)
 | omega
 | rfl
 | (refine congrArg (SV.arr _) ?_)
 | (refine congrArg (Value.int _) ?_)
 | (refine congrArg Value.bool ?_)))); all_goals (try unfold Side)
      all_goals try exact Path.imp_of hq1
      all_goals try exact hq1.2
      all_goals try (repeat' (first | (with_reducible rfl) | (with_reducible refine And.intro ?_ ?_) | omega | rfl | exact Or.inl rfl | exact Or.inr rfl | exact of_decide_eq_true rfl | exact Path.imp_of (of_decide_eq_true rfl) | (focus ((try simp only [Int.reduceToNat, Int.reduceTDiv, Int.reduceTMod, minL, maxL, pickB, zHB, InK, Path.imp, List.length_replicate, List.length_set, List.length_append, List.length_cons, List.length_nil] at *); omega)) | (refine app_le rfl ?_; omega)))
      refine W.loop (fun z : List Int × List Int × Nat => ⟨[(9, .st true (.arr (.sl (.int .i64)) (F : List (List Int)))), (10, .own 900010), (15, .own 900015), (16, .own 900016)], [(900010, .mp .i64 (.int .i64) (ofM F) F.flatten.length), (900015, .row 3 (.int .i64) true (z.1 : List Int)), (900016, .que 3 .i64 (z.2.1.drop z.2.2))]⟩) (fun z => Bf F d z.1 z.2.1 z.2.2 0) (fun z => F.length - z.2.2) (((List.replicate F.length (-1)).set (ofI 0 F) 0, [(ofI 0 F : Int)], 0)) ?_ ?_
      · refine ⟨hini, ?_⟩
        refine subF.ok ?_ <;> (conv => whnf) <;> repeat' (first
 | exact trivial
 | (with_reducible rfl)
 | ((with_reducible refine And.intro ?_ ?_) <;> conv => whnf)
 | omega
 | rfl
 | (refine congrArg (SV.arr _) ?_)
 | (refine congrArg (Value.int _) ?_)
 | (refine congrArg Value.bool ?_))
        all_goals first | exact hq2 | exact hq3 | exact fun e => by cases e
      · rintro ⟨s1, H, k⟩ hbf
        dsimp only at hbf ⊢
        have hkl := hbf.kl
        have hHl := hbf.lenH
        have hdl : @List.length Int (H.drop k) = H.length - k := List.length_drop
        have hs1l : @List.length (Ty.int .i64).T s1 = F.length := hbf.len
        by_cases hk : k < H.length
        · obtain ⟨x, hx, hxl, hxv⟩ := hbf.at hk
          have hgx : (H.drop k).getD 0 0 = (x : Int) := by rw [← hx]; simp [List.getD]
          have hgx2 : 0 ≤ (H.drop k).getD 0 0 ∧ ((H.drop k).getD 0 0).toNat < @List.length (Ty.sl (.int .i64)).T F := by rw [hgx]; omega
          have hfx : F.getD ((H.drop k).getD 0 0).toNat [] = F.getD x [] := by rw [hgx]; rfl
          have hfxl : ((F.getD ((H.drop k).getD 0 0).toNat []).length : Int) = (F.getD x []).length := by rw [hfx]
          repeat' (first
 | refine W.seq ?_
 | refine W.block ?_
 | (refine W.region tys_ok [0, 75] ?_; conv => whnf)
 | (refine W.drawAll tys_ok [0, 75] mixed rfl ?_; conv => whnf)
 | (refine W.ret ?_; conv => whnf)
 | (refine W.skip ?_; conv => whnf)
 | (refine W.exit ?_; conv => whnf)

    | (refine W.cond rfl (fun hb => ?_) (fun hb => ?_) <;> (try simp only [Int.reduceToNat, Int.reduceTDiv, Int.reduceTMod, minL, maxL, pickB, zHB] at hb) <;> (try (first | (cases hb; done) | exact absurd hb (by decide) | (exfalso; omega))))
    | ((with_reducible refine And.intro ?_ ?_); (focus ((repeat' (first | (with_reducible rfl) | (with_reducible refine And.intro ?_ ?_) | omega | rfl | exact Or.inl rfl | exact Or.inr rfl | exact of_decide_eq_true rfl | exact Path.imp_of (of_decide_eq_true rfl) | (focus ((try simp only [Int.reduceToNat, Int.reduceTDiv, Int.reduceTMod, minL, maxL, pickB, zHB, InK, Path.imp, List.length_replicate, List.length_set, List.length_append, List.length_cons, List.length_nil] at *); omega)) | (refine app_le rfl ?_; omega))); done)); (conv => whnf))
    | ((with_reducible refine And.intro (Side.out ?_) ?_); rotate_left; (conv => whnf))
    | (refine retF1 ?_ <;> (conv => whnf) <;> repeat' (first
 | exact trivial
 | (with_reducible rfl)
 | ((with_reducible refine And.intro ?_ ?_) <;> conv => whnf)
 | omega
 | rfl
 | (refine congrArg (SV.arr _) ?_)
 | (refine congrArg (Value.int _) ?_)
 | (refine congrArg Value.bool ?_)))
 | (refine retF2 ?_ <;> (conv => whnf) <;> repeat' (first
 | exact trivial
 | (with_reducible rfl)
 | ((with_reducible refine And.intro ?_ ?_) <;> conv => whnf)
 | omega
 | rfl
 | (refine congrArg (SV.arr _) ?_)
 | (refine congrArg (Value.int _) ?_)
 | (refine congrArg Value.bool ?_)))); all_goals (try unfold Side)
          all_goals try exact Path.imp_of hgx2
          all_goals try (repeat' (first | (with_reducible rfl) | (with_reducible refine And.intro ?_ ?_) | omega | rfl | exact Or.inl rfl | exact Or.inr rfl | exact of_decide_eq_true rfl | exact Path.imp_of (of_decide_eq_true rfl) | (focus ((try simp only [Int.reduceToNat, Int.reduceTDiv, Int.reduceTMod, minL, maxL, pickB, zHB, InK, Path.imp, List.length_replicate, List.length_set, List.length_append, List.length_cons, List.length_nil] at *); omega)) | (refine app_le rfl ?_; omega)))
          refine W.loop (fun v : List Int × List Int × Nat => ⟨[(9, .st true (.arr (.sl (.int .i64)) (F : List (List Int)))), (10, .own 900010), (15, .own 900015), (16, .own 900016), (81, .st true (.arr (.int .i64) ((F.getD x []) : List Int))), (82, .lit (.int .i64 ((F.getD x []).length))), (83, .lit (.int .i64 (v.2.2)))], [(900010, .mp .i64 (.int .i64) (ofM F) F.flatten.length), (900015, .row 3 (.int .i64) true (v.1 : List Int)), (900016, .que 3 .i64 (v.2.1.drop k))]⟩) (fun v => v.2.2 ≤ (F.getD x []).length ∧ Bf F d v.1 v.2.1 k v.2.2 ∧ k < v.2.1.length ∧ v.2.1.getD k 0 = (x : Int)) (fun v => (F.getD x []).length - v.2.2) ((s1, H, 0)) ?_ ?_
          · refine ⟨⟨Nat.zero_le _, hbf, hk, hx⟩, ?_⟩
            refine subF.ok ?_ <;> (conv => whnf) <;> repeat' (first
 | exact trivial
 | (with_reducible rfl)
 | ((with_reducible refine And.intro ?_ ?_) <;> conv => whnf)
 | omega
 | rfl
 | (refine congrArg (SV.arr _) ?_)
 | (refine congrArg (Value.int _) ?_)
 | (refine congrArg Value.bool ?_))
            all_goals first | exact hfx | exact hfxl
          · rintro ⟨s2, H2, q⟩ ⟨hq, hb2, hk2, hx2⟩
            dsimp only at hq hb2 hk2 hx2 ⊢
            have h40 := hfl40 x hxl
            have hfe : @List.length (Ty.int .i64).T (F.getD x []) = (F.getD x []).length := rfl
            have hs2l : @List.length (Ty.int .i64).T s2 = F.length := hb2.len
            have hdl2 : @List.length Int (H2.drop k) = H2.length - k := List.length_drop
            have hH2l := hb2.lenH
            have hgx3 : (H2.drop k).getD 0 0 = (x : Int) := by rw [← hx2]; simp [List.getD]
            obtain ⟨x', hx', _, hxv2⟩ := hb2.at hk2
            have hxx : x' = x := by omega
            subst hxx
            by_cases hql : q < (F.getD x' []).length
            · have hm : (F.getD x' []).getD q 0 ∈ F.getD x' [] := mem_getD hql
              have hrg := hd.rg x' _ hxl hm
              have hof := hd.mem (-1 - (F.getD x' []).getD q 0) (by omega) (by omega)
              have hofl := (hd.at (x := -1 - (F.getD x' []).getD q 0) (by omega) (by omega)).1
              have hog := ofM_get hof
              obtain ⟨y, hy⟩ : ∃ y, y = ofI (-1 - (F.getD x' []).getD q 0) F := ⟨_, rfl⟩
              rw [← hy] at hog hofl
              have hyb : 0 ≤ (ofM F (-1 - (F.getD x' []).getD q 0)).getD 0 ∧ ((ofM F (-1 - (F.getD x' []).getD q 0)).getD 0).toNat < @List.length (Ty.int .i64).T s2 := by rw [hog]; omega
              have hyv : s2.getD ((ofM F (-1 - (F.getD x' []).getD q 0)).getD 0).toNat 0 = s2.getD y 0 := by rw [hog]; rfl
              by_cases hneg : s2.getD y 0 < 0
              · have hput := hb2.put hd hk2 hx2 hql hy hneg
                have happ : H2.drop k ++ [(ofM F (-1 - (F.getD x' []).getD q 0)).getD 0] = (H2 ++ [(y : Int)]).drop k := by rw [hog, List.drop_append_of_le_length (by omega)]
                have hset : s2.set ((ofM F (-1 - (F.getD x' []).getD q 0)).getD 0).toNat (1 - s2.getD ((H2.drop k).getD 0 0).toNat 0) = s2.set y (1 - s2.getD x' 0) := by rw [hog, hgx3]; rfl
                have hkh : k < (H2 ++ [(y : Int)]).length := by rw [List.length_append]; omega
                have hxh : (H2 ++ [(y : Int)]).getD k 0 = (x' : Int) := by rw [getD_app, if_pos hk2]; exact hx2
                have hxb : 0 ≤ (H2.drop k).getD 0 0 ∧ ((H2.drop k).getD 0 0).toNat < @List.length (Ty.int .i64).T s2 := by rw [hgx3]; omega
                have hik : InK .i64 (1 - s2.getD ((H2.drop k).getD 0 0).toNat 0) := by
                  rw [hgx3, Int.toNat_natCast, hxv2]
                  cases d x' <;> simp [InK]
                rw [← hyv] at hneg
                repeat' (first
 | refine W.seq ?_
 | refine W.block ?_
 | (refine W.region tys_ok [] ?_; conv => whnf)
 | (refine W.drawAll tys_ok [] mixed rfl ?_; conv => whnf)
 | (refine W.ret ?_; conv => whnf)
 | (refine W.skip ?_; conv => whnf)
 | (refine W.exit ?_; conv => whnf)

    | (refine W.cond rfl (fun hb => ?_) (fun hb => ?_) <;> (try simp only [Int.reduceToNat, Int.reduceTDiv, Int.reduceTMod, minL, maxL, pickB, zHB] at hb) <;> (try (first | (cases hb; done) | exact absurd hb (by decide) | (exfalso; omega) | (exact absurd hneg hb))))
    | ((with_reducible refine And.intro ?_ ?_); (focus ((repeat' (first | (with_reducible rfl) | (with_reducible refine And.intro ?_ ?_) | omega | rfl | exact Or.inl rfl | exact Or.inr rfl | exact of_decide_eq_true rfl | exact Path.imp_of (of_decide_eq_true rfl) | (focus ((try simp only [Int.reduceToNat, Int.reduceTDiv, Int.reduceTMod, minL, maxL, pickB, zHB, InK, Path.imp, List.length_replicate, List.length_set, List.length_append, List.length_cons, List.length_nil] at *); omega)) | (refine app_le rfl ?_; omega))); done)); (conv => whnf))
    | ((with_reducible refine And.intro (Side.out ?_) ?_); rotate_left; (conv => whnf))
    | (refine retF1 ?_ <;> (conv => whnf) <;> repeat' (first
 | exact trivial
 | (with_reducible rfl)
 | ((with_reducible refine And.intro ?_ ?_) <;> conv => whnf)
 | omega
 | rfl
 | (refine congrArg (SV.arr _) ?_)
 | (refine congrArg (Value.int _) ?_)
 | (refine congrArg Value.bool ?_)))
 | (refine retF2 ?_ <;> (conv => whnf) <;> repeat' (first
 | exact trivial
 | (with_reducible rfl)
 | ((with_reducible refine And.intro ?_ ?_) <;> conv => whnf)
 | omega
 | rfl
 | (refine congrArg (SV.arr _) ?_)
 | (refine congrArg (Value.int _) ?_)
 | (refine congrArg Value.bool ?_)))); all_goals (try unfold Side)
                all_goals try (first | exact Path.imp_of hyb | exact Path.imp_of hxb | exact Path.imp_of hik | exact hyb.2)
                all_goals try (repeat' (first | (with_reducible rfl) | (with_reducible refine And.intro ?_ ?_) | omega | rfl | exact Or.inl rfl | exact Or.inr rfl | exact of_decide_eq_true rfl | exact Path.imp_of (of_decide_eq_true rfl) | (focus ((try simp only [Int.reduceToNat, Int.reduceTDiv, Int.reduceTMod, minL, maxL, pickB, zHB, InK, Path.imp, List.length_replicate, List.length_set, List.length_append, List.length_cons, List.length_nil] at *); omega)) | (refine app_le rfl ?_; omega)))
                all_goals (refine ⟨(s2.set y (1 - s2.getD x' 0), H2 ++ [(y : Int)], q + 1), ⟨⟨hql, hput, hkh, hxh⟩, by dsimp only; omega⟩, ?_⟩)
                all_goals refine subF.ok ?_ <;> (conv => whnf) <;> repeat' (first
 | exact trivial
 | (with_reducible rfl)
 | ((with_reducible refine And.intro ?_ ?_) <;> conv => whnf)
 | omega
 | rfl
 | (refine congrArg (SV.arr _) ?_)
 | (refine congrArg (Value.int _) ?_)
 | (refine congrArg Value.bool ?_))
                all_goals first | exact happ | exact hset
              · have hskip := hb2.skip hx2 (by rw [← hy]; omega)
                rw [← hyv] at hneg
                repeat' (first
 | refine W.seq ?_
 | refine W.block ?_
 | (refine W.region tys_ok [] ?_; conv => whnf)
 | (refine W.drawAll tys_ok [] mixed rfl ?_; conv => whnf)
 | (refine W.ret ?_; conv => whnf)
 | (refine W.skip ?_; conv => whnf)
 | (refine W.exit ?_; conv => whnf)

    | (refine W.cond rfl (fun hb => ?_) (fun hb => ?_) <;> (try simp only [Int.reduceToNat, Int.reduceTDiv, Int.reduceTMod, minL, maxL, pickB, zHB] at hb) <;> (try (first | (cases hb; done) | exact absurd hb (by decide) | (exfalso; omega) | (exact absurd hb hneg))))
    | ((with_reducible refine And.intro ?_ ?_); (focus ((repeat' (first | (with_reducible rfl) | (with_reducible refine And.intro ?_ ?_) | omega | rfl | exact Or.inl rfl | exact Or.inr rfl | exact of_decide_eq_true rfl | exact Path.imp_of (of_decide_eq_true rfl) | (focus ((try simp only [Int.reduceToNat, Int.reduceTDiv, Int.reduceTMod, minL, maxL, pickB, zHB, InK, Path.imp, List.length_replicate, List.length_set, List.length_append, List.length_cons, List.length_nil] at *); omega)) | (refine app_le rfl ?_; omega))); done)); (conv => whnf))
    | ((with_reducible refine And.intro (Side.out ?_) ?_); rotate_left; (conv => whnf))
    | (refine retF1 ?_ <;> (conv => whnf) <;> repeat' (first
 | exact trivial
 | (with_reducible rfl)
 | ((with_reducible refine And.intro ?_ ?_) <;> conv => whnf)
 | omega
 | rfl
 | (refine congrArg (SV.arr _) ?_)
 | (refine congrArg (Value.int _) ?_)
 | (refine congrArg Value.bool ?_)))
 | (refine retF2 ?_ <;> (conv => whnf) <;> repeat' (first
 | exact trivial
 | (with_reducible rfl)
 | ((with_reducible refine And.intro ?_ ?_) <;> conv => whnf)
 | omega
 | rfl
 | (refine congrArg (SV.arr _) ?_)
 | (refine congrArg (Value.int _) ?_)
 | (refine congrArg Value.bool ?_)))); all_goals (try unfold Side)
                all_goals try (first | exact Path.imp_of hyb | exact hyb.2)
                all_goals try (repeat' (first | (with_reducible rfl) | (with_reducible refine And.intro ?_ ?_) | omega | rfl | exact Or.inl rfl | exact Or.inr rfl | exact of_decide_eq_true rfl | exact Path.imp_of (of_decide_eq_true rfl) | (focus ((try simp only [Int.reduceToNat, Int.reduceTDiv, Int.reduceTMod, minL, maxL, pickB, zHB, InK, Path.imp, List.length_replicate, List.length_set, List.length_append, List.length_cons, List.length_nil] at *); omega)) | (refine app_le rfl ?_; omega)))
                all_goals (refine ⟨(s2, H2, q + 1), ⟨⟨hql, hskip, hk2, hx2⟩, by dsimp only; omega⟩, ?_⟩)
                all_goals refine subF.ok ?_ <;> (conv => whnf) <;> repeat' (first
 | exact trivial
 | (with_reducible rfl)
 | ((with_reducible refine And.intro ?_ ?_) <;> conv => whnf)
 | omega
 | rfl
 | (refine congrArg (SV.arr _) ?_)
 | (refine congrArg (Value.int _) ?_)
 | (refine congrArg Value.bool ?_))
            · have hqe : (F.getD x' []).length = q := by omega
              subst hqe
              have hnx := hb2.next hk2 hx2
              have hdd : (H2.drop k).drop 1 = H2.drop (k + 1) := by rw [List.drop_drop]
              repeat' (first
 | refine W.seq ?_
 | refine W.block ?_
 | (refine W.region tys_ok [0, 75] ?_; conv => whnf)
 | (refine W.drawAll tys_ok [0, 75] mixed rfl ?_; conv => whnf)
 | (refine W.ret ?_; conv => whnf)
 | (refine W.skip ?_; conv => whnf)
 | (refine W.exit ?_; conv => whnf)

    | (refine W.cond rfl (fun hb => ?_) (fun hb => ?_) <;> (try simp only [Int.reduceToNat, Int.reduceTDiv, Int.reduceTMod, minL, maxL, pickB, zHB] at hb) <;> (try (first | (cases hb; done) | exact absurd hb (by decide) | (exfalso; omega))))
    | ((with_reducible refine And.intro ?_ ?_); (focus ((repeat' (first | (with_reducible rfl) | (with_reducible refine And.intro ?_ ?_) | omega | rfl | exact Or.inl rfl | exact Or.inr rfl | exact of_decide_eq_true rfl | exact Path.imp_of (of_decide_eq_true rfl) | (focus ((try simp only [Int.reduceToNat, Int.reduceTDiv, Int.reduceTMod, minL, maxL, pickB, zHB, InK, Path.imp, List.length_replicate, List.length_set, List.length_append, List.length_cons, List.length_nil] at *); omega)) | (refine app_le rfl ?_; omega))); done)); (conv => whnf))
    | ((with_reducible refine And.intro (Side.out ?_) ?_); rotate_left; (conv => whnf))
    | (refine retF1 ?_ <;> (conv => whnf) <;> repeat' (first
 | exact trivial
 | (with_reducible rfl)
 | ((with_reducible refine And.intro ?_ ?_) <;> conv => whnf)
 | omega
 | rfl
 | (refine congrArg (SV.arr _) ?_)
 | (refine congrArg (Value.int _) ?_)
 | (refine congrArg Value.bool ?_)))
 | (refine retF2 ?_ <;> (conv => whnf) <;> repeat' (first
 | exact trivial
 | (with_reducible rfl)
 | ((with_reducible refine And.intro ?_ ?_) <;> conv => whnf)
 | omega
 | rfl
 | (refine congrArg (SV.arr _) ?_)
 | (refine congrArg (Value.int _) ?_)
 | (refine congrArg Value.bool ?_)))); all_goals (try unfold Side)
              all_goals try (repeat' (first | (with_reducible rfl) | (with_reducible refine And.intro ?_ ?_) | omega | rfl | exact Or.inl rfl | exact Or.inr rfl | exact of_decide_eq_true rfl | exact Path.imp_of (of_decide_eq_true rfl) | (focus ((try simp only [Int.reduceToNat, Int.reduceTDiv, Int.reduceTMod, minL, maxL, pickB, zHB, InK, Path.imp, List.length_replicate, List.length_set, List.length_append, List.length_cons, List.length_nil] at *); omega)) | (refine app_le rfl ?_; omega)))
              refine ⟨(s2, H2, k + 1), ⟨hnx, by dsimp only; omega⟩, ?_⟩
              refine subF.ok ?_ <;> (conv => whnf) <;> repeat' (first
 | exact trivial
 | (with_reducible rfl)
 | ((with_reducible refine And.intro ?_ ?_) <;> conv => whnf)
 | omega
 | rfl
 | (refine congrArg (SV.arr _) ?_)
 | (refine congrArg (Value.int _) ?_)
 | (refine congrArg Value.bool ?_))
              all_goals exact hdd
        · have hke : k = H.length := by omega
          subst hke
          have hfin := hbf.done hd
          have hdn : @List.length Int (H.drop H.length) = 0 := by simp
          repeat' (first
 | refine W.seq ?_
 | refine W.block ?_
 | (refine W.region tys_ok [] ?_; conv => whnf)
 | (refine W.drawAll tys_ok [] mixed rfl ?_; conv => whnf)
 | (refine W.ret ?_; conv => whnf)
 | (refine W.skip ?_; conv => whnf)
 | (refine W.exit ?_; conv => whnf)

    | (refine W.cond rfl (fun hb => ?_) (fun hb => ?_) <;> (try simp only [Int.reduceToNat, Int.reduceTDiv, Int.reduceTMod, minL, maxL, pickB, zHB] at hb) <;> (try (first | (cases hb; done) | exact absurd hb (by decide) | (exfalso; omega))))
    | ((with_reducible refine And.intro ?_ ?_); (focus ((repeat' (first | (with_reducible rfl) | (with_reducible refine And.intro ?_ ?_) | omega | rfl | exact Or.inl rfl | exact Or.inr rfl | exact of_decide_eq_true rfl | exact Path.imp_of (of_decide_eq_true rfl) | (focus ((try simp only [Int.reduceToNat, Int.reduceTDiv, Int.reduceTMod, minL, maxL, pickB, zHB, InK, Path.imp, List.length_replicate, List.length_set, List.length_append, List.length_cons, List.length_nil] at *); omega)) | (refine app_le rfl ?_; omega))); done)); (conv => whnf))
    | ((with_reducible refine And.intro (Side.out ?_) ?_); rotate_left; (conv => whnf))
    | (refine retF1 ?_ <;> (conv => whnf) <;> repeat' (first
 | exact trivial
 | (with_reducible rfl)
 | ((with_reducible refine And.intro ?_ ?_) <;> conv => whnf)
 | omega
 | rfl
 | (refine congrArg (SV.arr _) ?_)
 | (refine congrArg (Value.int _) ?_)
 | (refine congrArg Value.bool ?_)))
 | (refine retF2 ?_ <;> (conv => whnf) <;> repeat' (first
 | exact trivial
 | (with_reducible rfl)
 | ((with_reducible refine And.intro ?_ ?_) <;> conv => whnf)
 | omega
 | rfl
 | (refine congrArg (SV.arr _) ?_)
 | (refine congrArg (Value.int _) ?_)
 | (refine congrArg Value.bool ?_)))); all_goals (try unfold Side)
          all_goals try (repeat' (first | (with_reducible rfl) | (with_reducible refine And.intro ?_ ?_) | omega | rfl | exact Or.inl rfl | exact Or.inr rfl | exact of_decide_eq_true rfl | exact Path.imp_of (of_decide_eq_true rfl) | (focus ((try simp only [Int.reduceToNat, Int.reduceTDiv, Int.reduceTMod, minL, maxL, pickB, zHB, InK, Path.imp, List.length_replicate, List.length_set, List.length_append, List.length_cons, List.length_nil] at *); omega)) | (refine app_le rfl ?_; omega)))
          refine W.loop (fun j : Nat => ⟨[(9, .st true (.arr (.sl (.int .i64)) (F : List (List Int)))), (20, .lit (.int .i64 ((whK d j : Nat)))), (111, .own 900015), (112, .lit (.int .i64 ((F.length : Nat)))), (113, .lit (.int .i64 (j)))], [(900015, .row 3 (.int .i64) true (s1 : List Int))]⟩) (fun j => j ≤ F.length) (fun j => F.length - j) (0) ?_ ?_
          · refine ⟨Nat.zero_le _, ?_⟩
            refine subF.ok ?_ <;> (conv => whnf) <;> repeat' (first
 | exact trivial
 | (with_reducible rfl)
 | ((with_reducible refine And.intro ?_ ?_) <;> conv => whnf)
 | omega
 | rfl
 | (refine congrArg (SV.arr _) ?_)
 | (refine congrArg (Value.int _) ?_)
 | (refine congrArg Value.bool ?_))
          · intro j hj
            have hwl := whK_le (d := d) (k := j)
            by_cases hjl : j < F.length
            · have hv := hfin j hjl
              have hws : ((whK d j : Nat) : Int) + s1.getD j 0 = (whK d (j + 1) : Nat) := by rw [hv, whK]; omega
              have hik : InK .i64 (((whK d j : Nat) : Int) + s1.getD j 0) := by
                rw [hws]
                have := whK_le (d := d) (k := j + 1)
                simp only [InK]; omega
              repeat' (first
 | refine W.seq ?_
 | refine W.block ?_
 | (refine W.region tys_ok [] ?_; conv => whnf)
 | (refine W.drawAll tys_ok [] mixed rfl ?_; conv => whnf)
 | (refine W.ret ?_; conv => whnf)
 | (refine W.skip ?_; conv => whnf)
 | (refine W.exit ?_; conv => whnf)

    | (refine W.cond rfl (fun hb => ?_) (fun hb => ?_) <;> (try simp only [Int.reduceToNat, Int.reduceTDiv, Int.reduceTMod, minL, maxL, pickB, zHB] at hb) <;> (try (first | (cases hb; done) | exact absurd hb (by decide) | (exfalso; omega))))
    | ((with_reducible refine And.intro ?_ ?_); (focus ((repeat' (first | (with_reducible rfl) | (with_reducible refine And.intro ?_ ?_) | omega | rfl | exact Or.inl rfl | exact Or.inr rfl | exact of_decide_eq_true rfl | exact Path.imp_of (of_decide_eq_true rfl) | (focus ((try simp only [Int.reduceToNat, Int.reduceTDiv, Int.reduceTMod, minL, maxL, pickB, zHB, InK, Path.imp, List.length_replicate, List.length_set, List.length_append, List.length_cons, List.length_nil] at *); omega)) | (refine app_le rfl ?_; omega))); done)); (conv => whnf))
    | ((with_reducible refine And.intro (Side.out ?_) ?_); rotate_left; (conv => whnf))
    | (refine retF1 ?_ <;> (conv => whnf) <;> repeat' (first
 | exact trivial
 | (with_reducible rfl)
 | ((with_reducible refine And.intro ?_ ?_) <;> conv => whnf)
 | omega
 | rfl
 | (refine congrArg (SV.arr _) ?_)
 | (refine congrArg (Value.int _) ?_)
 | (refine congrArg Value.bool ?_)))
 | (refine retF2 ?_ <;> (conv => whnf) <;> repeat' (first
 | exact trivial
 | (with_reducible rfl)
 | ((with_reducible refine And.intro ?_ ?_) <;> conv => whnf)
 | omega
 | rfl
 | (refine congrArg (SV.arr _) ?_)
 | (refine congrArg (Value.int _) ?_)
 | (refine congrArg Value.bool ?_)))); all_goals (try unfold Side)
              all_goals try exact Path.imp_of hik
              all_goals try (repeat' (first | (with_reducible rfl) | (with_reducible refine And.intro ?_ ?_) | omega | rfl | exact Or.inl rfl | exact Or.inr rfl | exact of_decide_eq_true rfl | exact Path.imp_of (of_decide_eq_true rfl) | (focus ((try simp only [Int.reduceToNat, Int.reduceTDiv, Int.reduceTMod, minL, maxL, pickB, zHB, InK, Path.imp, List.length_replicate, List.length_set, List.length_append, List.length_cons, List.length_nil] at *); omega)) | (refine app_le rfl ?_; omega)))
              refine ⟨j + 1, ⟨by omega, by omega⟩, ?_⟩
              refine subF.ok ?_ <;> (conv => whnf) <;> repeat' (first
 | exact trivial
 | (with_reducible rfl)
 | ((with_reducible refine And.intro ?_ ?_) <;> conv => whnf)
 | omega
 | rfl
 | (refine congrArg (SV.arr _) ?_)
 | (refine congrArg (Value.int _) ?_)
 | (refine congrArg Value.bool ?_))
              all_goals exact hws
            · have hje : F.length = j := by omega
              subst hje
              repeat' (first
 | refine W.seq ?_
 | refine W.block ?_
 | (refine W.region tys_ok [] ?_; conv => whnf)
 | (refine W.drawAll tys_ok [] mixed rfl ?_; conv => whnf)
 | (refine W.ret ?_; conv => whnf)
 | (refine W.skip ?_; conv => whnf)
 | (refine W.exit ?_; conv => whnf)

    | (refine W.cond rfl (fun hb => ?_) (fun hb => ?_) <;> (try simp only [Int.reduceToNat, Int.reduceTDiv, Int.reduceTMod, minL, maxL, pickB, zHB] at hb) <;> (try (first | (cases hb; done) | exact absurd hb (by decide) | (exfalso; omega))))
    | ((with_reducible refine And.intro ?_ ?_); (focus ((repeat' (first | (with_reducible rfl) | (with_reducible refine And.intro ?_ ?_) | omega | rfl | exact Or.inl rfl | exact Or.inr rfl | exact of_decide_eq_true rfl | exact Path.imp_of (of_decide_eq_true rfl) | (focus ((try simp only [Int.reduceToNat, Int.reduceTDiv, Int.reduceTMod, minL, maxL, pickB, zHB, InK, Path.imp, List.length_replicate, List.length_set, List.length_append, List.length_cons, List.length_nil] at *); omega)) | (refine app_le rfl ?_; omega))); done)); (conv => whnf))
    | ((with_reducible refine And.intro (Side.out ?_) ?_); rotate_left; (conv => whnf))
    | (refine retF1 ?_ <;> (conv => whnf) <;> repeat' (first
 | exact trivial
 | (with_reducible rfl)
 | ((with_reducible refine And.intro ?_ ?_) <;> conv => whnf)
 | omega
 | rfl
 | (refine congrArg (SV.arr _) ?_)
 | (refine congrArg (Value.int _) ?_)
 | (refine congrArg Value.bool ?_)))
 | (refine retF2 ?_ <;> (conv => whnf) <;> repeat' (first
 | exact trivial
 | (with_reducible rfl)
 | ((with_reducible refine And.intro ?_ ?_) <;> conv => whnf)
 | omega
 | rfl
 | (refine congrArg (SV.arr _) ?_)
 | (refine congrArg (Value.int _) ?_)
 | (refine congrArg Value.bool ?_)))); all_goals (try unfold Side)
              all_goals try (repeat' (first | (with_reducible rfl) | (with_reducible refine And.intro ?_ ?_) | omega | rfl | exact Or.inl rfl | exact Or.inr rfl | exact of_decide_eq_true rfl | exact Path.imp_of (of_decide_eq_true rfl) | (focus ((try simp only [Int.reduceToNat, Int.reduceTDiv, Int.reduceTMod, minL, maxL, pickB, zHB, InK, Path.imp, List.length_replicate, List.length_set, List.length_append, List.length_cons, List.length_nil] at *); omega)) | (refine app_le rfl ?_; omega)))
end Go.Proofs.Ytdfajcfkdfjoeaa
/- The colours of the faces: the document's. No condition. -/
namespace Go.Proofs.Ytdfajcfkdfjoeaa
open Go Go.Vc Go.Scr
set_option linter.unusedVariables false
set_option linter.unusedSimpArgs false

set_option maxHeartbeats 16000000 in
theorem colors_ref {w s : List Int} {n : Nat} (h : Word w n) (hn : n ≤ 10) (hs : signsB s n = true) (hg : genusT n w s = 0) {d : Nat → Bool} (hd : Col (facesT (nextT w s) (2 * n)) (2 * n) d) :
    FnAt Try.prog false 33 [.arr (.int .i64) w, .arr (.int .i64) s] (.tup [.lit (.int .i64 ((n + 2 : Nat) - (whK d (n + 2) : Int))), .lit (.int .i64 (whK d (n + 2)))]) [] := by
  have hp := h.pos
  have hwl : @List.length (Ty.int .i64).T w = 2 * n := h.len
  have hs' := hs
  simp only [signsB, Bool.and_eq_true, decide_eq_true_eq] at hs'
  have hgk := (genus_ok h hs'.1 hs'.2).2
  have hfac := faces_ref h hn hs
  have H := facesT_FK (next_pn h hs'.1 hs'.2)
  rw [hg] at hgk
  obtain ⟨F, hF⟩ : ∃ F, F = facesT (nextT w s) (2 * n) := ⟨_, rfl⟩
  rw [← hF] at hd hgk hfac H
  clear hF
  have hFl : F.length = n + 2 := by omega
  have hFl2 : @List.length (Ty.sl (.int .i64)).T F = n + 2 := hFl
  rw [← hFl]
  have H1 := fun j q hj hq => H.at (j := j) (q := q) hj hq
  have H4 := H.len
  have H5 := fun j => flat_len (F := F) (j := j)
  have H6 := fun j hj => flat_take (F := F) (j := j) hj
  have H7 := fun j hj => take_face (F := F) (j := j) hj
  have hz := hd.mem 0 (by omega) (by omega)
  have hz0 := ofM_get hz
  have hzl := (hd.at (x := 0) (by omega) (by omega)).1
  obtain ⟨hini, hcnt⟩ := Rl.init hd
  have hfl40 : ∀ j, j < F.length → (F.getD j []).length ≤ 40 := fun j hj => by
    have h6 := H6 j hj
    have h5 := H5 (j + 1)
    rw [h6, List.length_append] at h5; omega
  have hz5 : List.replicate (@List.length (Ty.sl (.int .i64)).T F : Int).toNat (0 : Int) = List.replicate F.length 0 := rfl
  have hz6 : List.replicate F.length (0 : Int) = List.replicate (@List.length (Ty.sl (.int .i64)).T F : Int).toNat (0 : Int) := rfl
  refine FnAt.of_body tys_ok Try.func33 (by rfl) rfl Try.ntmps33 (by rw [Try.results33]) (by simp) ?_
  
  repeat' (first
 | refine W.seq ?_
 | refine W.block ?_
 | (refine W.drawPhTo (id := 2) tys_ok [19] mixed [0, 0, 2, 4, 1, 31] [([1], 4, 31), ([5], 0, 63)] ⟨[(0, .st false (.arr (.int .i64) (w : List Int))), (6, .st true (.arr (.sl (.int .i64)) (F : List (List Int)))), (7, .own 900007), (8, .own 900008)], [(900007, .mp .i64 (.int .i64) (fun _ => none) 0), (900008, .row 3 (.int .i64) true ((List.replicate F.length 0) : List Int))]⟩ (by decide +kernel) ?_ ?_ <;> (conv => whnf))
 | (refine W.region tys_ok [19] ?_; conv => whnf)
 | (refine W.drawAll tys_ok [19] mixed rfl ?_; conv => whnf)
 | (refine W.ret ?_; conv => whnf)
 | (refine W.skip ?_; conv => whnf)
 | (refine W.exit ?_; conv => whnf)
 | (refine call_at (al := false) (hfac) rfl rfl rfl rfl ?_; conv => whnf)

    | (refine Both.mk ?_ ?_ <;> (conv => whnf))
    | (refine subF.leaf ?_ <;> (conv => whnf) <;> repeat' (first
 | exact trivial
 | (with_reducible rfl)
 | ((with_reducible refine And.intro ?_ ?_) <;> conv => whnf)
 | omega
 | rfl
 | (refine congrArg (SV.arr _) ?_)
 | (refine congrArg (Value.int _) ?_)
 | (refine congrArg Value.bool ?_)))
 | (refine subF.side ?_ <;> (conv => whnf) <;> repeat' (first
 | exact trivial
 | (with_reducible rfl)
 | ((with_reducible refine And.intro ?_ ?_) <;> conv => whnf)
 | omega
 | rfl
 | (refine congrArg (SV.arr _) ?_)
 | (refine congrArg (Value.int _) ?_)
 | (refine congrArg Value.bool ?_)))
 | (refine W.cond rfl (fun hb => ?_) (fun hb => ?_) <;> (try simp only [Int.reduceToNat, Int.reduceTDiv, Int.reduceTMod, minL, maxL, pickB, zHB] at hb) <;> (try (first | (cases hb; done) | exact absurd hb (by decide) | (exfalso; omega))))
 | ((with_reducible refine And.intro ?_ ?_); (focus ((repeat' (first | (with_reducible rfl) | (with_reducible refine And.intro ?_ ?_) | omega | rfl | exact Or.inl rfl | exact Or.inr rfl | exact of_decide_eq_true rfl | exact Path.imp_of (of_decide_eq_true rfl) | (focus ((try simp only [Int.reduceToNat, Int.reduceTDiv, Int.reduceTMod, minL, maxL, pickB, zHB, InK, Path.imp, List.length_replicate, List.length_set, List.length_append, List.length_cons, List.length_nil] at *); omega)) | (refine app_le rfl ?_; omega))); done)); (conv => whnf))
 | ((with_reducible refine And.intro (Side.out ?_) ?_); rotate_left; (conv => whnf))
 | (refine retF1 ?_ <;> (conv => whnf) <;> repeat' (first
 | exact trivial
 | (with_reducible rfl)
 | ((with_reducible refine And.intro ?_ ?_) <;> conv => whnf)
 | omega
 | rfl
 | (refine congrArg (SV.arr _) ?_)
 | (refine congrArg (Value.int _) ?_)
 | (refine congrArg Value.bool ?_)))
 | (refine retF2 ?_ <;> (conv => whnf) <;> repeat' (first
 | exact trivial
 | (with_reducible rfl)
 | ((with_reducible refine And.intro ?_ ?_) <;> conv => whnf)
 | omega
 | rfl
 | (refine congrArg (SV.arr _) ?_)
 | (refine congrArg (Value.int _) ?_)
 | (refine congrArg Value.bool ?_)))); all_goals (try unfold Side)
  all_goals try (repeat' (first | (with_reducible rfl) | (with_reducible refine And.intro ?_ ?_) | omega | rfl | exact Or.inl rfl | exact Or.inr rfl | exact of_decide_eq_true rfl | exact Path.imp_of (of_decide_eq_true rfl) | (focus ((try simp only [Int.reduceToNat, Int.reduceTDiv, Int.reduceTMod, minL, maxL, pickB, zHB, InK, Path.imp, List.length_replicate, List.length_set, List.length_append, List.length_cons, List.length_nil] at *); omega)) | (refine app_le rfl ?_; omega)))
  all_goals try (first | exact hz5 | exact hz6)
  refine W.loop (fun i : Nat => ⟨[(0, .st false (.arr (.int .i64) (w : List Int))), (6, .st true (.arr (.sl (.int .i64)) (F : List (List Int)))), (7, .own 900007), (8, .own 900008), (9, .lit (.int .i64 (i)))], [(900007, .mp .i64 (.int .i64) (ofM (F.take i)) (F.take i).flatten.length), (900008, .row 3 (.int .i64) true ((List.replicate F.length 0) : List Int))]⟩) (fun i => i ≤ F.length) (fun i => F.length - i) (0) ?_ ?_
  · refine ⟨Nat.zero_le _, ?_⟩
    refine subF.ok ?_ <;> (conv => whnf) <;> repeat' (first
 | exact trivial
 | (with_reducible rfl)
 | ((with_reducible refine And.intro ?_ ?_) <;> conv => whnf)
 | omega
 | rfl
 | (refine congrArg (SV.arr _) ?_)
 | (refine congrArg (Value.int _) ?_)
 | (refine congrArg Value.bool ?_))
    all_goals exact mi_eq' ofM_nil.symm rfl
  · intro i hi
    by_cases hil : i < F.length
    · have h40 := hfl40 i hil
      have hfe : @List.length (Ty.int .i64).T (F.getD i []) = (F.getD i []).length := rfl
      repeat' (first
 | refine W.seq ?_
 | refine W.block ?_
 | (refine W.region tys_ok [] ?_; conv => whnf)
 | (refine W.drawAll tys_ok [] mixed rfl ?_; conv => whnf)
 | (refine W.ret ?_; conv => whnf)
 | (refine W.skip ?_; conv => whnf)
 | (refine W.exit ?_; conv => whnf)

    | (refine W.cond rfl (fun hb => ?_) (fun hb => ?_) <;> (try simp only [Int.reduceToNat, Int.reduceTDiv, Int.reduceTMod, minL, maxL, pickB, zHB] at hb) <;> (try (first | (cases hb; done) | exact absurd hb (by decide) | (exfalso; omega))))
    | ((with_reducible refine And.intro ?_ ?_); (focus ((repeat' (first | (with_reducible rfl) | (with_reducible refine And.intro ?_ ?_) | omega | rfl | exact Or.inl rfl | exact Or.inr rfl | exact of_decide_eq_true rfl | exact Path.imp_of (of_decide_eq_true rfl) | (focus ((try simp only [Int.reduceToNat, Int.reduceTDiv, Int.reduceTMod, minL, maxL, pickB, zHB, InK, Path.imp, List.length_replicate, List.length_set, List.length_append, List.length_cons, List.length_nil] at *); omega)) | (refine app_le rfl ?_; omega))); done)); (conv => whnf))
    | ((with_reducible refine And.intro (Side.out ?_) ?_); rotate_left; (conv => whnf))
    | (refine retF1 ?_ <;> (conv => whnf) <;> repeat' (first
 | exact trivial
 | (with_reducible rfl)
 | ((with_reducible refine And.intro ?_ ?_) <;> conv => whnf)
 | omega
 | rfl
 | (refine congrArg (SV.arr _) ?_)
 | (refine congrArg (Value.int _) ?_)
 | (refine congrArg Value.bool ?_)))
 | (refine retF2 ?_ <;> (conv => whnf) <;> repeat' (first
 | exact trivial
 | (with_reducible rfl)
 | ((with_reducible refine And.intro ?_ ?_) <;> conv => whnf)
 | omega
 | rfl
 | (refine congrArg (SV.arr _) ?_)
 | (refine congrArg (Value.int _) ?_)
 | (refine congrArg Value.bool ?_)))); all_goals (try unfold Side)
      all_goals try (repeat' (first | (with_reducible rfl) | (with_reducible refine And.intro ?_ ?_) | omega | rfl | exact Or.inl rfl | exact Or.inr rfl | exact of_decide_eq_true rfl | exact Path.imp_of (of_decide_eq_true rfl) | (focus ((try simp only [Int.reduceToNat, Int.reduceTDiv, Int.reduceTMod, minL, maxL, pickB, zHB, InK, Path.imp, List.length_replicate, List.length_set, List.length_append, List.length_cons, List.length_nil] at *); omega)) | (refine app_le rfl ?_; omega)))
      refine W.loop (fun q : Nat => ⟨[(0, .st false (.arr (.int .i64) (w : List Int))), (6, .st true (.arr (.sl (.int .i64)) (F : List (List Int)))), (7, .own 900007), (8, .own 900008), (9, .lit (.int .i64 (i))), (10, .lit (.int .i64 (q)))], [(900007, .mp .i64 (.int .i64) (ofM (F.take i ++ [(F.getD i []).take q])) (F.take i ++ [(F.getD i []).take q]).flatten.length), (900008, .row 3 (.int .i64) true ((List.replicate F.length 0) : List Int))]⟩) (fun q => q ≤ (F.getD i []).length) (fun q => (F.getD i []).length - q) (0) ?_ ?_
      · refine ⟨Nat.zero_le _, ?_⟩
        refine subF.ok ?_ <;> (conv => whnf) <;> repeat' (first
 | exact trivial
 | (with_reducible rfl)
 | ((with_reducible refine And.intro ?_ ?_) <;> conv => whnf)
 | omega
 | rfl
 | (refine congrArg (SV.arr _) ?_)
 | (refine congrArg (Value.int _) ?_)
 | (refine congrArg Value.bool ?_))
        all_goals exact mi_eq' (by rw [List.take_zero, ofM_new]) (by simp)
      · intro q hq
        by_cases hql : q < (F.getD i []).length
        · obtain ⟨k1, k2, k3, k4⟩ := H1 i q hil hql
          have hni : ¬ (F.getD i []).getD q 0 ∈ (F.take i ++ [(F.getD i []).take q]).flatten := by simpa using k3
          have hput := ofM_put hni
          have htl : (F.take i).length = i := by rw [List.length_take]; omega
          rw [htl, ← take_get hql] at hput
          have hno : (ofM (F.take i ++ [(F.getD i []).take q]) ((F.getD i []).getD q 0)).isSome = false := by rw [ofM_out hni]; rfl
          have hm : Ob.mp .i64 (.int .i64) (mput (ofM (F.take i ++ [(F.getD i []).take q])) ((F.getD i []).getD q 0) (i : Int)) (if (ofM (F.take i ++ [(F.getD i []).take q]) ((F.getD i []).getD q 0)).isSome = true then (F.take i ++ [(F.getD i []).take q]).flatten.length else (F.take i ++ [(F.getD i []).take q]).flatten.length + 1) = Ob.mp .i64 (.int .i64) (ofM (F.take i ++ [(F.getD i []).take (q + 1)])) (F.take i ++ [(F.getD i []).take (q + 1)]).flatten.length :=
            mi_eq' hput (by rw [hno, take_get hql]; simp; omega)
          repeat' (first
 | refine W.seq ?_
 | refine W.block ?_
 | (refine W.region tys_ok [] ?_; conv => whnf)
 | (refine W.drawAll tys_ok [] mixed rfl ?_; conv => whnf)
 | (refine W.ret ?_; conv => whnf)
 | (refine W.skip ?_; conv => whnf)
 | (refine W.exit ?_; conv => whnf)

    | (refine W.cond rfl (fun hb => ?_) (fun hb => ?_) <;> (try simp only [Int.reduceToNat, Int.reduceTDiv, Int.reduceTMod, minL, maxL, pickB, zHB] at hb) <;> (try (first | (cases hb; done) | exact absurd hb (by decide) | (exfalso; omega))))
    | ((with_reducible refine And.intro ?_ ?_); (focus ((repeat' (first | (with_reducible rfl) | (with_reducible refine And.intro ?_ ?_) | omega | rfl | exact Or.inl rfl | exact Or.inr rfl | exact of_decide_eq_true rfl | exact Path.imp_of (of_decide_eq_true rfl) | (focus ((try simp only [Int.reduceToNat, Int.reduceTDiv, Int.reduceTMod, minL, maxL, pickB, zHB, InK, Path.imp, List.length_replicate, List.length_set, List.length_append, List.length_cons, List.length_nil] at *); omega)) | (refine app_le rfl ?_; omega))); done)); (conv => whnf))
    | ((with_reducible refine And.intro (Side.out ?_) ?_); rotate_left; (conv => whnf))
    | (refine retF1 ?_ <;> (conv => whnf) <;> repeat' (first
 | exact trivial
 | (with_reducible rfl)
 | ((with_reducible refine And.intro ?_ ?_) <;> conv => whnf)
 | omega
 | rfl
 | (refine congrArg (SV.arr _) ?_)
 | (refine congrArg (Value.int _) ?_)
 | (refine congrArg Value.bool ?_)))
 | (refine retF2 ?_ <;> (conv => whnf) <;> repeat' (first
 | exact trivial
 | (with_reducible rfl)
 | ((with_reducible refine And.intro ?_ ?_) <;> conv => whnf)
 | omega
 | rfl
 | (refine congrArg (SV.arr _) ?_)
 | (refine congrArg (Value.int _) ?_)
 | (refine congrArg Value.bool ?_)))); all_goals (try unfold Side)
          all_goals try (repeat' (first | (with_reducible rfl) | (with_reducible refine And.intro ?_ ?_) | omega | rfl | exact Or.inl rfl | exact Or.inr rfl | exact of_decide_eq_true rfl | exact Path.imp_of (of_decide_eq_true rfl) | (focus ((try simp only [Int.reduceToNat, Int.reduceTDiv, Int.reduceTMod, minL, maxL, pickB, zHB, InK, Path.imp, List.length_replicate, List.length_set, List.length_append, List.length_cons, List.length_nil] at *); omega)) | (refine app_le rfl ?_; omega)))
          refine ⟨q + 1, ⟨by omega, by omega⟩, ?_⟩
          refine subF.ok ?_ <;> (conv => whnf) <;> repeat' (first
 | exact trivial
 | (with_reducible rfl)
 | ((with_reducible refine And.intro ?_ ?_) <;> conv => whnf)
 | omega
 | rfl
 | (refine congrArg (SV.arr _) ?_)
 | (refine congrArg (Value.int _) ?_)
 | (refine congrArg Value.bool ?_))
          all_goals exact hm
        · have hqe : (F.getD i []).length = q := by omega
          subst hqe
          repeat' (first
 | refine W.seq ?_
 | refine W.block ?_
 | (refine W.region tys_ok [] ?_; conv => whnf)
 | (refine W.drawAll tys_ok [] mixed rfl ?_; conv => whnf)
 | (refine W.ret ?_; conv => whnf)
 | (refine W.skip ?_; conv => whnf)
 | (refine W.exit ?_; conv => whnf)

    | (refine W.cond rfl (fun hb => ?_) (fun hb => ?_) <;> (try simp only [Int.reduceToNat, Int.reduceTDiv, Int.reduceTMod, minL, maxL, pickB, zHB] at hb) <;> (try (first | (cases hb; done) | exact absurd hb (by decide) | (exfalso; omega))))
    | ((with_reducible refine And.intro ?_ ?_); (focus ((repeat' (first | (with_reducible rfl) | (with_reducible refine And.intro ?_ ?_) | omega | rfl | exact Or.inl rfl | exact Or.inr rfl | exact of_decide_eq_true rfl | exact Path.imp_of (of_decide_eq_true rfl) | (focus ((try simp only [Int.reduceToNat, Int.reduceTDiv, Int.reduceTMod, minL, maxL, pickB, zHB, InK, Path.imp, List.length_replicate, List.length_set, List.length_append, List.length_cons, List.length_nil] at *); omega)) | (refine app_le rfl ?_; omega))); done)); (conv => whnf))
    | ((with_reducible refine And.intro (Side.out ?_) ?_); rotate_left; (conv => whnf))
    | (refine retF1 ?_ <;> (conv => whnf) <;> repeat' (first
 | exact trivial
 | (with_reducible rfl)
 | ((with_reducible refine And.intro ?_ ?_) <;> conv => whnf)
 | omega
 | rfl
 | (refine congrArg (SV.arr _) ?_)
 | (refine congrArg (Value.int _) ?_)
 | (refine congrArg Value.bool ?_)))
 | (refine retF2 ?_ <;> (conv => whnf) <;> repeat' (first
 | exact trivial
 | (with_reducible rfl)
 | ((with_reducible refine And.intro ?_ ?_) <;> conv => whnf)
 | omega
 | rfl
 | (refine congrArg (SV.arr _) ?_)
 | (refine congrArg (Value.int _) ?_)
 | (refine congrArg Value.bool ?_)))); all_goals (try unfold Side)
          all_goals try (repeat' (first | (with_reducible rfl) | (with_reducible refine And.intro ?_ ?_) | omega | rfl | exact Or.inl rfl | exact Or.inr rfl | exact of_decide_eq_true rfl | exact Path.imp_of (of_decide_eq_true rfl) | (focus ((try simp only [Int.reduceToNat, Int.reduceTDiv, Int.reduceTMod, minL, maxL, pickB, zHB, InK, Path.imp, List.length_replicate, List.length_set, List.length_append, List.length_cons, List.length_nil] at *); omega)) | (refine app_le rfl ?_; omega)))
          refine ⟨i + 1, ⟨by omega, by omega⟩, ?_⟩
          refine subF.ok ?_ <;> (conv => whnf) <;> repeat' (first
 | exact trivial
 | (with_reducible rfl)
 | ((with_reducible refine And.intro ?_ ?_) <;> conv => whnf)
 | omega
 | rfl
 | (refine congrArg (SV.arr _) ?_)
 | (refine congrArg (Value.int _) ?_)
 | (refine congrArg Value.bool ?_))
          all_goals exact mi_eq' (by rw [List.take_length, H7 i hil]) (by rw [List.take_length, H7 i hil])
    · have hie : F.length = i := by omega
      subst hie
      have htk : ofM (F.take F.length) = ofM F := by rw [List.take_length]
      have htl : (F.take F.length).flatten.length = F.flatten.length := by rw [List.take_length]
      rw [htk, htl]
      have hq1 : 0 ≤ (ofM F 0).getD 0 ∧ Int.toNat ((ofM F 0).getD 0) < @List.length (Ty.int .i64).T (List.replicate F.length (0 : Int)) := by
        rw [hz0]
        show _ ∧ _ < (List.replicate F.length (0 : Int)).length
        rw [List.length_replicate]; omega
      have hq2 : (List.replicate F.length (0 : Int)).set (Int.toNat ((ofM F 0).getD 0)) 1 = (List.replicate F.length 0).set (ofI 0 F) 1 := by rw [hz0]; rfl
      repeat' (first
 | refine W.seq ?_
 | refine W.block ?_
 | (refine W.region tys_ok [] ?_; conv => whnf)
 | (refine W.drawAll tys_ok [] mixed rfl ?_; conv => whnf)
 | (refine W.ret ?_; conv => whnf)
 | (refine W.skip ?_; conv => whnf)
 | (refine W.exit ?_; conv => whnf)

    | (refine W.cond rfl (fun hb => ?_) (fun hb => ?_) <;> (try simp only [Int.reduceToNat, Int.reduceTDiv, Int.reduceTMod, minL, maxL, pickB, zHB] at hb) <;> (try (first | (cases hb; done) | exact absurd hb (by decide) | (exfalso; omega))))
    | ((with_reducible refine And.intro ?_ ?_); (focus ((repeat' (first | (with_reducible rfl) | (with_reducible refine And.intro ?_ ?_) | omega | rfl | exact Or.inl rfl | exact Or.inr rfl | exact of_decide_eq_true rfl | exact Path.imp_of (of_decide_eq_true rfl) | (focus ((try simp only [Int.reduceToNat, Int.reduceTDiv, Int.reduceTMod, minL, maxL, pickB, zHB, InK, Path.imp, List.length_replicate, List.length_set, List.length_append, List.length_cons, List.length_nil] at *); omega)) | (refine app_le rfl ?_; omega))); done)); (conv => whnf))
    | ((with_reducible refine And.intro (Side.out ?_) ?_); rotate_left; (conv => whnf))
    | (refine retF1 ?_ <;> (conv => whnf) <;> repeat' (first
 | exact trivial
 | (with_reducible rfl)
 | ((with_reducible refine And.intro ?_ ?_) <;> conv => whnf)
 | omega
 | rfl
 | (refine congrArg (SV.arr _) ?_)
 | (refine congrArg (Value.int _) ?_)
 | (refine congrArg Value.bool ?_)))
 | (refine retF2 ?_ <;> (conv => whnf) <;> repeat' (first
 | exact trivial
 | (with_reducible rfl)
 | ((with_reducible refine And.intro ?_ ?_) <;> conv => whnf)
 | omega
 | rfl
 | (refine congrArg (SV.arr _) ?_)
 | (refine congrArg (Value.int _) ?_)
 | (refine congrArg Value.bool ?_)))); all_goals (try unfold Side)
      all_goals try exact Path.imp_of hq1
      all_goals try exact hq1.2
      all_goals try (repeat' (first | (with_reducible rfl) | (with_reducible refine And.intro ?_ ?_) | omega | rfl | exact Or.inl rfl | exact Or.inr rfl | exact of_decide_eq_true rfl | exact Path.imp_of (of_decide_eq_true rfl) | (focus ((try simp only [Int.reduceToNat, Int.reduceTDiv, Int.reduceTMod, minL, maxL, pickB, zHB, InK, Path.imp, List.length_replicate, List.length_set, List.length_append, List.length_cons, List.length_nil] at *); omega)) | (refine app_le rfl ?_; omega)))
      refine W.loop (fun z : List Int × Nat => ⟨[(0, .st false (.arr (.int .i64) (w : List Int))), (6, .st true (.arr (.sl (.int .i64)) (F : List (List Int)))), (7, .own 900007), (8, .own 900008), (11, .lit (.int .i64 (z.2)))], [(900007, .mp .i64 (.int .i64) (ofM F) F.flatten.length), (900008, .row 3 (.int .i64) true (z.1 : List Int))]⟩) (fun z => z.2 ≤ F.length ∧ Rl F d z.1 ∧ min (z.2 + 1) F.length ≤ nzK z.1 F.length) (fun z => F.length - z.2) (((List.replicate F.length 0).set (ofI 0 F) 1, 0)) ?_ ?_
      · refine ⟨⟨Nat.zero_le _, hini, hcnt⟩, ?_⟩
        refine subF.ok ?_ <;> (conv => whnf) <;> repeat' (first
 | exact trivial
 | (with_reducible rfl)
 | ((with_reducible refine And.intro ?_ ?_) <;> conv => whnf)
 | omega
 | rfl
 | (refine congrArg (SV.arr _) ?_)
 | (refine congrArg (Value.int _) ?_)
 | (refine congrArg Value.bool ?_))
        all_goals exact hq2
      · rintro ⟨c0, r⟩ ⟨hr, hrl, hnz⟩
        dsimp only at hr hrl hnz ⊢
        have hc0l : @List.length (Ty.int .i64).T c0 = F.length := hrl.len
        by_cases hrF : r < F.length
        · repeat' (first
 | refine W.seq ?_
 | refine W.block ?_
 | (refine W.region tys_ok [] ?_; conv => whnf)
 | (refine W.drawAll tys_ok [] mixed rfl ?_; conv => whnf)
 | (refine W.ret ?_; conv => whnf)
 | (refine W.skip ?_; conv => whnf)
 | (refine W.exit ?_; conv => whnf)

    | (refine W.cond rfl (fun hb => ?_) (fun hb => ?_) <;> (try simp only [Int.reduceToNat, Int.reduceTDiv, Int.reduceTMod, minL, maxL, pickB, zHB] at hb) <;> (try (first | (cases hb; done) | exact absurd hb (by decide) | (exfalso; omega))))
    | ((with_reducible refine And.intro ?_ ?_); (focus ((repeat' (first | (with_reducible rfl) | (with_reducible refine And.intro ?_ ?_) | omega | rfl | exact Or.inl rfl | exact Or.inr rfl | exact of_decide_eq_true rfl | exact Path.imp_of (of_decide_eq_true rfl) | (focus ((try simp only [Int.reduceToNat, Int.reduceTDiv, Int.reduceTMod, minL, maxL, pickB, zHB, InK, Path.imp, List.length_replicate, List.length_set, List.length_append, List.length_cons, List.length_nil] at *); omega)) | (refine app_le rfl ?_; omega))); done)); (conv => whnf))
    | ((with_reducible refine And.intro (Side.out ?_) ?_); rotate_left; (conv => whnf))
    | (refine retF1 ?_ <;> (conv => whnf) <;> repeat' (first
 | exact trivial
 | (with_reducible rfl)
 | ((with_reducible refine And.intro ?_ ?_) <;> conv => whnf)
 | omega
 | rfl
 | (refine congrArg (SV.arr _) ?_)
 | (refine congrArg (Value.int _) ?_)
 | (refine congrArg Value.bool ?_)))
 | (refine retF2 ?_ <;> (conv => whnf) <;> repeat' (first
 | exact trivial
 | (with_reducible rfl)
 | ((with_reducible refine And.intro ?_ ?_) <;> conv => whnf)
 | omega
 | rfl
 | (refine congrArg (SV.arr _) ?_)
 | (refine congrArg (Value.int _) ?_)
 | (refine congrArg Value.bool ?_)))); all_goals (try unfold Side)
          all_goals try (repeat' (first | (with_reducible rfl) | (with_reducible refine And.intro ?_ ?_) | omega | rfl | exact Or.inl rfl | exact Or.inr rfl | exact of_decide_eq_true rfl | exact Path.imp_of (of_decide_eq_true rfl) | (focus ((try simp only [Int.reduceToNat, Int.reduceTDiv, Int.reduceTMod, minL, maxL, pickB, zHB, InK, Path.imp, List.length_replicate, List.length_set, List.length_append, List.length_cons, List.length_nil] at *); omega)) | (refine app_le rfl ?_; omega)))
          refine W.loop (fun v : List Int × Nat => ⟨[(0, .st false (.arr (.int .i64) (w : List Int))), (6, .st true (.arr (.sl (.int .i64)) (F : List (List Int)))), (7, .own 900007), (8, .own 900008), (11, .lit (.int .i64 (r))), (12, .lit (.int .i64 (v.2)))], [(900007, .mp .i64 (.int .i64) (ofM F) F.flatten.length), (900008, .row 3 (.int .i64) true (v.1 : List Int))]⟩) (fun v => v.2 ≤ 2 * n ∧ Re F d c0 v.1 v.2) (fun v => 2 * n - v.2) ((c0, 0)) ?_ ?_
          · refine ⟨⟨Nat.zero_le _, Re.init hrl⟩, ?_⟩
            refine subF.ok ?_ <;> (conv => whnf) <;> repeat' (first
 | exact trivial
 | (with_reducible rfl)
 | ((with_reducible refine And.intro ?_ ?_) <;> conv => whnf)
 | omega
 | rfl
 | (refine congrArg (SV.arr _) ?_)
 | (refine congrArg (Value.int _) ?_)
 | (refine congrArg Value.bool ?_))
          · rintro ⟨c, e⟩ ⟨he, hre⟩
            dsimp only at he hre ⊢
            have hcl : @List.length (Ty.int .i64).T c = F.length := hre.rl.len
            by_cases hel : e < 2 * n
            · obtain ⟨a, ha⟩ : ∃ a, a = ofI (e : Int) F := ⟨_, rfl⟩
              obtain ⟨b, hb⟩ : ∃ b, b = ofI (-1 - (e : Int)) F := ⟨_, rfl⟩
              obtain ⟨hal, hbl, _, hne⟩ := Re.facts hd hel ha hb
              have hga := ofM_get (hd.mem (e : Int) (by omega) (by omega))
              have hgb := ofM_get (hd.mem (-1 - (e : Int)) (by omega) (by omega))
              rw [← ha] at hga
              rw [← hb] at hgb
              have hab : 0 ≤ (ofM F (e : Int)).getD 0 ∧ ((ofM F (e : Int)).getD 0).toNat < @List.length (Ty.int .i64).T c := by rw [hga]; omega
              have hbb : 0 ≤ (ofM F (-1 - (e : Int))).getD 0 ∧ ((ofM F (-1 - (e : Int))).getD 0).toNat < @List.length (Ty.int .i64).T c := by rw [hgb]; omega
              have hav : c.getD ((ofM F (e : Int)).getD 0).toNat 0 = c.getD a 0 := by rw [hga]; rfl
              have hbv : c.getD ((ofM F (-1 - (e : Int))).getD 0).toNat 0 = c.getD b 0 := by rw [hgb]; rfl
              have hva := hre.rl.val a hal
              have hvb := hre.rl.val b hbl
              have hsg : ∀ q, sgC q = 1 ∨ sgC q = -1 := fun q => by cases q <;> decide
              have hsa := hsg (d a)
              have hsb := hsg (d b)
              by_cases h1 : c.getD a 0 = 0
              · by_cases h2 : c.getD b 0 = 0
                · have hnx := Re.none hd hre hel ha hb h1 h2
                  rw [← hav] at h1
                  rw [← hbv] at h2
                  repeat' (first
 | refine W.seq ?_
 | refine W.block ?_
 | (refine W.drawPh (id := 17) tys_ok [] mixed [0, 0, 3, 0, 0, 16, 40, 7, 255] [([0, 1, 3, 4, 5], 3, 255), ([8], 0, 511)] (by decide +kernel) ?_; conv => whnf)
 | (refine W.region tys_ok [] ?_; conv => whnf)
 | (refine W.drawAll tys_ok [] mixed rfl ?_; conv => whnf)
 | (refine W.ret ?_; conv => whnf)
 | (refine W.skip ?_; conv => whnf)
 | (refine W.exit ?_; conv => whnf)

    | (refine Both.mk ?_ ?_ <;> (conv => whnf))
    | (refine subF.leaf ?_ <;> (conv => whnf) <;> repeat' (first
 | exact trivial
 | (with_reducible rfl)
 | ((with_reducible refine And.intro ?_ ?_) <;> conv => whnf)
 | omega
 | rfl
 | (refine congrArg (SV.arr _) ?_)
 | (refine congrArg (Value.int _) ?_)
 | (refine congrArg Value.bool ?_)))
 | (refine subF.side ?_ <;> (conv => whnf) <;> repeat' (first
 | exact trivial
 | (with_reducible rfl)
 | ((with_reducible refine And.intro ?_ ?_) <;> conv => whnf)
 | omega
 | rfl
 | (refine congrArg (SV.arr _) ?_)
 | (refine congrArg (Value.int _) ?_)
 | (refine congrArg Value.bool ?_)))
 | (refine W.cond rfl (fun hb => ?_) (fun hb => ?_) <;> (try simp only [Int.reduceToNat, Int.reduceTDiv, Int.reduceTMod, minL, maxL, pickB, zHB] at hb) <;> (try (first | (cases hb; done) | exact absurd hb (by decide) | (exfalso; omega) | (exact absurd h1 hb) | (exact absurd h2 hb))))
 | ((with_reducible refine And.intro ?_ ?_); (focus ((repeat' (first | (with_reducible rfl) | (with_reducible refine And.intro ?_ ?_) | omega | rfl | exact Or.inl rfl | exact Or.inr rfl | exact of_decide_eq_true rfl | exact Path.imp_of (of_decide_eq_true rfl) | (focus ((try simp only [Int.reduceToNat, Int.reduceTDiv, Int.reduceTMod, minL, maxL, pickB, zHB, InK, Path.imp, List.length_replicate, List.length_set, List.length_append, List.length_cons, List.length_nil] at *); omega)) | (refine app_le rfl ?_; omega))); done)); (conv => whnf))
 | ((with_reducible refine And.intro (Side.out ?_) ?_); rotate_left; (conv => whnf))
 | (refine retF1 ?_ <;> (conv => whnf) <;> repeat' (first
 | exact trivial
 | (with_reducible rfl)
 | ((with_reducible refine And.intro ?_ ?_) <;> conv => whnf)
 | omega
 | rfl
 | (refine congrArg (SV.arr _) ?_)
 | (refine congrArg (Value.int _) ?_)
 | (refine congrArg Value.bool ?_)))
 | (refine retF2 ?_ <;> (conv => whnf) <;> repeat' (first
 | exact trivial
 | (with_reducible rfl)
 | ((with_reducible refine And.intro ?_ ?_) <;> conv => whnf)
 | omega
 | rfl
 | (refine congrArg (SV.arr _) ?_)
 | (refine congrArg (Value.int _) ?_)
 | (refine congrArg Value.bool ?_)))); all_goals (try unfold Side)
                  all_goals try (first | exact Path.imp_of hab | exact Path.imp_of hbb | exact hab.2 | exact hbb.2)
                  all_goals try (repeat' (first | (with_reducible rfl) | (with_reducible refine And.intro ?_ ?_) | omega | rfl | exact Or.inl rfl | exact Or.inr rfl | exact of_decide_eq_true rfl | exact Path.imp_of (of_decide_eq_true rfl) | (focus ((try simp only [Int.reduceToNat, Int.reduceTDiv, Int.reduceTMod, minL, maxL, pickB, zHB, InK, Path.imp, List.length_replicate, List.length_set, List.length_append, List.length_cons, List.length_nil] at *); omega)) | (refine app_le rfl ?_; omega)))
                  all_goals (refine ⟨(c, e + 1), ⟨⟨hel, hnx⟩, by dsimp only; omega⟩, ?_⟩)
                  all_goals refine subF.ok ?_ <;> (conv => whnf) <;> repeat' (first
 | exact trivial
 | (with_reducible rfl)
 | ((with_reducible refine And.intro ?_ ?_) <;> conv => whnf)
 | omega
 | rfl
 | (refine congrArg (SV.arr _) ?_)
 | (refine congrArg (Value.int _) ?_)
 | (refine congrArg Value.bool ?_))
                · have hnx := Re.right hd hre hel ha hb h1 h2
                  have hset : c.set ((ofM F (e : Int)).getD 0).toNat (-(c.getD ((ofM F (-1 - (e : Int))).getD 0).toNat 0)) = c.set a (-(c.getD b 0)) := by rw [hga, hgb]; rfl
                  have hik : InK .i64 (0 - (c.getD ((ofM F (-1 - (e : Int))).getD 0).toNat 0)) := by rw [hbv]; simp only [InK]; omega
                  rw [← hav] at h1
                  rw [← hbv] at h2
                  repeat' (first
 | refine W.seq ?_
 | refine W.block ?_
 | (refine W.drawPh (id := 17) tys_ok [] mixed [0, 0, 3, 0, 0, 16, 40, 7, 255] [([0, 1, 3, 4, 5], 3, 255), ([8], 0, 511)] (by decide +kernel) ?_; conv => whnf)
 | (refine W.region tys_ok [] ?_; conv => whnf)
 | (refine W.drawAll tys_ok [] mixed rfl ?_; conv => whnf)
 | (refine W.ret ?_; conv => whnf)
 | (refine W.skip ?_; conv => whnf)
 | (refine W.exit ?_; conv => whnf)

    | (refine Both.mk ?_ ?_ <;> (conv => whnf))
    | (refine subF.leaf ?_ <;> (conv => whnf) <;> repeat' (first
 | exact trivial
 | (with_reducible rfl)
 | ((with_reducible refine And.intro ?_ ?_) <;> conv => whnf)
 | omega
 | rfl
 | (refine congrArg (SV.arr _) ?_)
 | (refine congrArg (Value.int _) ?_)
 | (refine congrArg Value.bool ?_)))
 | (refine subF.side ?_ <;> (conv => whnf) <;> repeat' (first
 | exact trivial
 | (with_reducible rfl)
 | ((with_reducible refine And.intro ?_ ?_) <;> conv => whnf)
 | omega
 | rfl
 | (refine congrArg (SV.arr _) ?_)
 | (refine congrArg (Value.int _) ?_)
 | (refine congrArg Value.bool ?_)))
 | (refine W.cond rfl (fun hb => ?_) (fun hb => ?_) <;> (try simp only [Int.reduceToNat, Int.reduceTDiv, Int.reduceTMod, minL, maxL, pickB, zHB] at hb) <;> (try (first | (cases hb; done) | exact absurd hb (by decide) | (exfalso; omega) | (exact absurd h1 hb) | (exact absurd hb h2))))
 | ((with_reducible refine And.intro ?_ ?_); (focus ((repeat' (first | (with_reducible rfl) | (with_reducible refine And.intro ?_ ?_) | omega | rfl | exact Or.inl rfl | exact Or.inr rfl | exact of_decide_eq_true rfl | exact Path.imp_of (of_decide_eq_true rfl) | (focus ((try simp only [Int.reduceToNat, Int.reduceTDiv, Int.reduceTMod, minL, maxL, pickB, zHB, InK, Path.imp, List.length_replicate, List.length_set, List.length_append, List.length_cons, List.length_nil] at *); omega)) | (refine app_le rfl ?_; omega))); done)); (conv => whnf))
 | ((with_reducible refine And.intro (Side.out ?_) ?_); rotate_left; (conv => whnf))
 | (refine retF1 ?_ <;> (conv => whnf) <;> repeat' (first
 | exact trivial
 | (with_reducible rfl)
 | ((with_reducible refine And.intro ?_ ?_) <;> conv => whnf)
 | omega
 | rfl
 | (refine congrArg (SV.arr _) ?_)
 | (refine congrArg (Value.int _) ?_)
 | (refine congrArg Value.bool ?_)))
 | (refine retF2 ?_ <;> (conv => whnf) <;> repeat' (first
 | exact trivial
 | (with_reducible rfl)
 | ((with_reducible refine And.intro ?_ ?_) <;> conv => whnf)
 | omega
 | rfl
 | (refine congrArg (SV.arr _) ?_)
 | (refine congrArg (Value.int _) ?_)
 | (refine congrArg Value.bool ?_)))); all_goals (try unfold Side)
                  all_goals try (first | exact Path.imp_of hab | exact Path.imp_of hbb | exact hab.2 | exact hbb.2 | exact Path.imp_of hik)
                  all_goals try (repeat' (first | (with_reducible rfl) | (with_reducible refine And.intro ?_ ?_) | omega | rfl | exact Or.inl rfl | exact Or.inr rfl | exact of_decide_eq_true rfl | exact Path.imp_of (of_decide_eq_true rfl) | (focus ((try simp only [Int.reduceToNat, Int.reduceTDiv, Int.reduceTMod, minL, maxL, pickB, zHB, InK, Path.imp, List.length_replicate, List.length_set, List.length_append, List.length_cons, List.length_nil] at *); omega)) | (refine app_le rfl ?_; omega)))
                  all_goals (refine ⟨(c.set a (-(c.getD b 0)), e + 1), ⟨⟨hel, hnx⟩, by dsimp only; omega⟩, ?_⟩)
                  all_goals refine subF.ok ?_ <;> (conv => whnf) <;> repeat' (first
 | exact trivial
 | (with_reducible rfl)
 | ((with_reducible refine And.intro ?_ ?_) <;> conv => whnf)
 | omega
 | rfl
 | (refine congrArg (SV.arr _) ?_)
 | (refine congrArg (Value.int _) ?_)
 | (refine congrArg Value.bool ?_))
                  all_goals exact hset
              · obtain ⟨h3, hnx⟩ := Re.both hd hre hel ha hb h1
                have e0 : ((ofM F (e : Int)).getD 0).toNat = a := by rw [hga]; rfl
                have e1 : ((ofM F (-1 - (e : Int))).getD 0).toNat = b := by rw [hgb]; rfl
                obtain ⟨c1, hc1⟩ : ∃ c1, c1 = c.set b (-(c.getD a 0)) := ⟨_, rfl⟩
                have hset1 : c.set ((ofM F (-1 - (e : Int))).getD 0).toNat (-(c.getD ((ofM F (e : Int)).getD 0).toNat 0)) = c1 := by rw [e0, e1, hc1]
                have hset2 : c1.set ((ofM F (e : Int)).getD 0).toNat (-(c1.getD ((ofM F (-1 - (e : Int))).getD 0).toNat 0)) = c1.set a (-(c1.getD b 0)) := by rw [e0, e1]
                rw [← hc1] at h3 hnx
                have hc1l : @List.length (Ty.int .i64).T c1 = F.length := by show c1.length = _; rw [hc1, List.length_set]; exact hcl
                have hab1 : 0 ≤ (ofM F (e : Int)).getD 0 ∧ ((ofM F (e : Int)).getD 0).toNat < @List.length (Ty.int .i64).T c1 := by rw [hga]; omega
                have hbb1 : 0 ≤ (ofM F (-1 - (e : Int))).getD 0 ∧ ((ofM F (-1 - (e : Int))).getD 0).toNat < @List.length (Ty.int .i64).T c1 := by rw [hgb]; omega
                have hik : InK .i64 (0 - c.getD ((ofM F (e : Int)).getD 0).toNat 0) := by rw [hav]; simp only [InK]; omega
                have hv1 : c1.getD b 0 = 1 ∨ c1.getD b 0 = -1 := by
                  have := hnx.rl.len
                  rw [hc1, set_get (by have : c.length = F.length := hcl; omega), if_pos rfl]; omega
                have hik1 : InK .i64 (0 - c1.getD ((ofM F (-1 - (e : Int))).getD 0).toNat 0) := by rw [e1]; simp only [InK]; omega
                rw [← hav] at h1
                have h3' : ¬ c1.getD ((ofM F (-1 - (e : Int))).getD 0).toNat 0 = 0 := by rw [e1]; exact h3
                repeat' (first
 | refine W.seq ?_
 | refine W.block ?_
 | (refine W.drawPh (id := 17) tys_ok [] mixed [0, 0, 3, 0, 0, 16, 40, 7, 255] [([0, 1, 3, 4, 5], 3, 255), ([8], 0, 511)] (by decide +kernel) ?_; conv => whnf)
 | (refine W.resub (x := Code.region 20 _ _) (Γ' := ⟨[(0, .st false (.arr (.int .i64) (w : List Int))), (6, .st true (.arr (.sl (.int .i64)) (F : List (List Int)))), (7, .own 900007), (8, .own 900008), (11, .lit (.int .i64 (r))), (12, .lit (.int .i64 (e))), (13, .lit (.int .i64 (((ofM F (e : Int)).getD 0)))), (14, .lit (.int .i64 (((ofM F (-1 - (e : Int))).getD 0))))], [(900007, .mp .i64 (.int .i64) (ofM F) F.flatten.length), (900008, .row 3 (.int .i64) true (c1 : List Int))]⟩) ?_ (W.region tys_ok [] ?_); rotate_left; (conv => whnf))
 | (refine W.region tys_ok [] ?_; conv => whnf)
 | (refine W.drawAll tys_ok [] mixed rfl ?_; conv => whnf)
 | (refine W.ret ?_; conv => whnf)
 | (refine W.skip ?_; conv => whnf)
 | (refine W.exit ?_; conv => whnf)

    | (refine Both.mk ?_ ?_ <;> (conv => whnf))
    | (refine subF.leaf ?_ <;> (conv => whnf) <;> repeat' (first
 | exact trivial
 | (with_reducible rfl)
 | ((with_reducible refine And.intro ?_ ?_) <;> conv => whnf)
 | omega
 | rfl
 | (refine congrArg (SV.arr _) ?_)
 | (refine congrArg (Value.int _) ?_)
 | (refine congrArg Value.bool ?_)))
 | (refine subF.side ?_ <;> (conv => whnf) <;> repeat' (first
 | exact trivial
 | (with_reducible rfl)
 | ((with_reducible refine And.intro ?_ ?_) <;> conv => whnf)
 | omega
 | rfl
 | (refine congrArg (SV.arr _) ?_)
 | (refine congrArg (Value.int _) ?_)
 | (refine congrArg Value.bool ?_)))
 | (refine W.cond rfl (fun hb => ?_) (fun hb => ?_) <;> (try simp only [Int.reduceToNat, Int.reduceTDiv, Int.reduceTMod, minL, maxL, pickB, zHB] at hb) <;> (try (first | (cases hb; done) | exact absurd hb (by decide) | (exfalso; omega) | (exact absurd hb h1) | (exact absurd hb h3'))))
 | ((with_reducible refine And.intro ?_ ?_); (focus ((repeat' (first | (with_reducible rfl) | (with_reducible refine And.intro ?_ ?_) | omega | rfl | exact Or.inl rfl | exact Or.inr rfl | exact of_decide_eq_true rfl | exact Path.imp_of (of_decide_eq_true rfl) | (focus ((try simp only [Int.reduceToNat, Int.reduceTDiv, Int.reduceTMod, minL, maxL, pickB, zHB, InK, Path.imp, List.length_replicate, List.length_set, List.length_append, List.length_cons, List.length_nil] at *); omega)) | (refine app_le rfl ?_; omega))); done)); (conv => whnf))
 | ((with_reducible refine And.intro (Side.out ?_) ?_); rotate_left; (conv => whnf))
 | (refine retF1 ?_ <;> (conv => whnf) <;> repeat' (first
 | exact trivial
 | (with_reducible rfl)
 | ((with_reducible refine And.intro ?_ ?_) <;> conv => whnf)
 | omega
 | rfl
 | (refine congrArg (SV.arr _) ?_)
 | (refine congrArg (Value.int _) ?_)
 | (refine congrArg Value.bool ?_)))
 | (refine retF2 ?_ <;> (conv => whnf) <;> repeat' (first
 | exact trivial
 | (with_reducible rfl)
 | ((with_reducible refine And.intro ?_ ?_) <;> conv => whnf)
 | omega
 | rfl
 | (refine congrArg (SV.arr _) ?_)
 | (refine congrArg (Value.int _) ?_)
 | (refine congrArg Value.bool ?_)))); all_goals (try unfold Side)
                all_goals try (first | exact Path.imp_of hab | exact Path.imp_of hbb | exact hab.2 | exact hbb.2 | exact Path.imp_of hik | exact Path.imp_of hab1 | exact Path.imp_of hbb1 | exact hab1.2 | exact hbb1.2 | exact Path.imp_of hik1)
                all_goals try (repeat' (first | (with_reducible rfl) | (with_reducible refine And.intro ?_ ?_) | omega | rfl | exact Or.inl rfl | exact Or.inr rfl | exact of_decide_eq_true rfl | exact Path.imp_of (of_decide_eq_true rfl) | (focus ((try simp only [Int.reduceToNat, Int.reduceTDiv, Int.reduceTMod, minL, maxL, pickB, zHB, InK, Path.imp, List.length_replicate, List.length_set, List.length_append, List.length_cons, List.length_nil] at *); omega)) | (refine app_le rfl ?_; omega)))
                all_goals try refine subF.ok ?_ <;> (conv => whnf) <;> repeat' (first
 | exact trivial
 | (with_reducible rfl)
 | ((with_reducible refine And.intro ?_ ?_) <;> conv => whnf)
 | omega
 | rfl
 | (refine congrArg (SV.arr _) ?_)
 | (refine congrArg (Value.int _) ?_)
 | (refine congrArg Value.bool ?_))
                all_goals try exact hset1
                all_goals (refine ⟨(c1.set a (-(c1.getD b 0)), e + 1), ⟨⟨hel, hnx⟩, by dsimp only; omega⟩, ?_⟩)
                all_goals refine subF.ok ?_ <;> (conv => whnf) <;> repeat' (first
 | exact trivial
 | (with_reducible rfl)
 | ((with_reducible refine And.intro ?_ ?_) <;> conv => whnf)
 | omega
 | rfl
 | (refine congrArg (SV.arr _) ?_)
 | (refine congrArg (Value.int _) ?_)
 | (refine congrArg Value.bool ?_))
                all_goals exact hset2
            · have hee : 2 * n = e := by omega
              subst hee
              have hrd := Re.round hd hrl hre hnz
              repeat' (first
 | refine W.seq ?_
 | refine W.block ?_
 | (refine W.region tys_ok [] ?_; conv => whnf)
 | (refine W.drawAll tys_ok [] mixed rfl ?_; conv => whnf)
 | (refine W.ret ?_; conv => whnf)
 | (refine W.skip ?_; conv => whnf)
 | (refine W.exit ?_; conv => whnf)

    | (refine W.cond rfl (fun hb => ?_) (fun hb => ?_) <;> (try simp only [Int.reduceToNat, Int.reduceTDiv, Int.reduceTMod, minL, maxL, pickB, zHB] at hb) <;> (try (first | (cases hb; done) | exact absurd hb (by decide) | (exfalso; omega))))
    | ((with_reducible refine And.intro ?_ ?_); (focus ((repeat' (first | (with_reducible rfl) | (with_reducible refine And.intro ?_ ?_) | omega | rfl | exact Or.inl rfl | exact Or.inr rfl | exact of_decide_eq_true rfl | exact Path.imp_of (of_decide_eq_true rfl) | (focus ((try simp only [Int.reduceToNat, Int.reduceTDiv, Int.reduceTMod, minL, maxL, pickB, zHB, InK, Path.imp, List.length_replicate, List.length_set, List.length_append, List.length_cons, List.length_nil] at *); omega)) | (refine app_le rfl ?_; omega))); done)); (conv => whnf))
    | ((with_reducible refine And.intro (Side.out ?_) ?_); rotate_left; (conv => whnf))
    | (refine retF1 ?_ <;> (conv => whnf) <;> repeat' (first
 | exact trivial
 | (with_reducible rfl)
 | ((with_reducible refine And.intro ?_ ?_) <;> conv => whnf)
 | omega
 | rfl
 | (refine congrArg (SV.arr _) ?_)
 | (refine congrArg (Value.int _) ?_)
 | (refine congrArg Value.bool ?_)))
 | (refine retF2 ?_ <;> (conv => whnf) <;> repeat' (first
 | exact trivial
 | (with_reducible rfl)
 | ((with_reducible refine And.intro ?_ ?_) <;> conv => whnf)
 | omega
 | rfl
 | (refine congrArg (SV.arr _) ?_)
 | (refine congrArg (Value.int _) ?_)
 | (refine congrArg Value.bool ?_)))); all_goals (try unfold Side)
              all_goals try (repeat' (first | (with_reducible rfl) | (with_reducible refine And.intro ?_ ?_) | omega | rfl | exact Or.inl rfl | exact Or.inr rfl | exact of_decide_eq_true rfl | exact Path.imp_of (of_decide_eq_true rfl) | (focus ((try simp only [Int.reduceToNat, Int.reduceTDiv, Int.reduceTMod, minL, maxL, pickB, zHB, InK, Path.imp, List.length_replicate, List.length_set, List.length_append, List.length_cons, List.length_nil] at *); omega)) | (refine app_le rfl ?_; omega)))
              refine ⟨(c, r + 1), ⟨⟨hrF, hre.rl, hrd⟩, by dsimp only; omega⟩, ?_⟩
              refine subF.ok ?_ <;> (conv => whnf) <;> repeat' (first
 | exact trivial
 | (with_reducible rfl)
 | ((with_reducible refine And.intro ?_ ?_) <;> conv => whnf)
 | omega
 | rfl
 | (refine congrArg (SV.arr _) ?_)
 | (refine congrArg (Value.int _) ?_)
 | (refine congrArg Value.bool ?_))
        · have hre : F.length = r := by omega
          subst hre
          have hfin := hrl.final hnz
          repeat' (first
 | refine W.seq ?_
 | refine W.block ?_
 | (refine W.region tys_ok [] ?_; conv => whnf)
 | (refine W.drawAll tys_ok [] mixed rfl ?_; conv => whnf)
 | (refine W.ret ?_; conv => whnf)
 | (refine W.skip ?_; conv => whnf)
 | (refine W.exit ?_; conv => whnf)

    | (refine W.cond rfl (fun hb => ?_) (fun hb => ?_) <;> (try simp only [Int.reduceToNat, Int.reduceTDiv, Int.reduceTMod, minL, maxL, pickB, zHB] at hb) <;> (try (first | (cases hb; done) | exact absurd hb (by decide) | (exfalso; omega))))
    | ((with_reducible refine And.intro ?_ ?_); (focus ((repeat' (first | (with_reducible rfl) | (with_reducible refine And.intro ?_ ?_) | omega | rfl | exact Or.inl rfl | exact Or.inr rfl | exact of_decide_eq_true rfl | exact Path.imp_of (of_decide_eq_true rfl) | (focus ((try simp only [Int.reduceToNat, Int.reduceTDiv, Int.reduceTMod, minL, maxL, pickB, zHB, InK, Path.imp, List.length_replicate, List.length_set, List.length_append, List.length_cons, List.length_nil] at *); omega)) | (refine app_le rfl ?_; omega))); done)); (conv => whnf))
    | ((with_reducible refine And.intro (Side.out ?_) ?_); rotate_left; (conv => whnf))
    | (refine retF1 ?_ <;> (conv => whnf) <;> repeat' (first
 | exact trivial
 | (with_reducible rfl)
 | ((with_reducible refine And.intro ?_ ?_) <;> conv => whnf)
 | omega
 | rfl
 | (refine congrArg (SV.arr _) ?_)
 | (refine congrArg (Value.int _) ?_)
 | (refine congrArg Value.bool ?_)))
 | (refine retF2 ?_ <;> (conv => whnf) <;> repeat' (first
 | exact trivial
 | (with_reducible rfl)
 | ((with_reducible refine And.intro ?_ ?_) <;> conv => whnf)
 | omega
 | rfl
 | (refine congrArg (SV.arr _) ?_)
 | (refine congrArg (Value.int _) ?_)
 | (refine congrArg Value.bool ?_)))); all_goals (try unfold Side)
          all_goals try (repeat' (first | (with_reducible rfl) | (with_reducible refine And.intro ?_ ?_) | omega | rfl | exact Or.inl rfl | exact Or.inr rfl | exact of_decide_eq_true rfl | exact Path.imp_of (of_decide_eq_true rfl) | (focus ((try simp only [Int.reduceToNat, Int.reduceTDiv, Int.reduceTMod, minL, maxL, pickB, zHB, InK, Path.imp, List.length_replicate, List.length_set, List.length_append, List.length_cons, List.length_nil] at *); omega)) | (refine app_le rfl ?_; omega)))
          refine W.loop (fun j : Nat => ⟨[(6, .st true (.arr (.sl (.int .i64)) (F : List (List Int)))), (8, .own 900008), (15, .lit (.int .i64 (((j : Int) - whK d j)))), (16, .lit (.int .i64 (j)))], [(900008, .row 3 (.int .i64) true (c0 : List Int))]⟩) (fun j => j ≤ F.length) (fun j => F.length - j) (0) ?_ ?_
          · refine ⟨Nat.zero_le _, ?_⟩
            refine subF.ok ?_ <;> (conv => whnf) <;> repeat' (first
 | exact trivial
 | (with_reducible rfl)
 | ((with_reducible refine And.intro ?_ ?_) <;> conv => whnf)
 | omega
 | rfl
 | (refine congrArg (SV.arr _) ?_)
 | (refine congrArg (Value.int _) ?_)
 | (refine congrArg Value.bool ?_))
          · intro j hj
            have hwl := whK_le (d := d) (k := j)
            by_cases hjl : j < F.length
            · have hv := hfin j hjl
              cases hdj : d j with
              | true =>
                rw [hdj] at hv
                have hne : ¬ c0.getD j 0 = 1 := by rw [hv]; decide
                have hws : ((j : Int) - whK d j : Int) = ((j + 1 : Nat) : Int) - whK d (j + 1) := by rw [whK, hdj]; simp; omega
                repeat' (first
 | refine W.seq ?_
 | refine W.block ?_
 | (refine W.region tys_ok [] ?_; conv => whnf)
 | (refine W.drawAll tys_ok [] mixed rfl ?_; conv => whnf)
 | (refine W.ret ?_; conv => whnf)
 | (refine W.skip ?_; conv => whnf)
 | (refine W.exit ?_; conv => whnf)

    | (refine W.cond rfl (fun hb => ?_) (fun hb => ?_) <;> (try simp only [Int.reduceToNat, Int.reduceTDiv, Int.reduceTMod, minL, maxL, pickB, zHB] at hb) <;> (try (first | (cases hb; done) | exact absurd hb (by decide) | (exfalso; omega) | (exact absurd hb hne))))
    | ((with_reducible refine And.intro ?_ ?_); (focus ((repeat' (first | (with_reducible rfl) | (with_reducible refine And.intro ?_ ?_) | omega | rfl | exact Or.inl rfl | exact Or.inr rfl | exact of_decide_eq_true rfl | exact Path.imp_of (of_decide_eq_true rfl) | (focus ((try simp only [Int.reduceToNat, Int.reduceTDiv, Int.reduceTMod, minL, maxL, pickB, zHB, InK, Path.imp, List.length_replicate, List.length_set, List.length_append, List.length_cons, List.length_nil] at *); omega)) | (refine app_le rfl ?_; omega))); done)); (conv => whnf))
    | ((with_reducible refine And.intro (Side.out ?_) ?_); rotate_left; (conv => whnf))
    | (refine retF1 ?_ <;> (conv => whnf) <;> repeat' (first
 | exact trivial
 | (with_reducible rfl)
 | ((with_reducible refine And.intro ?_ ?_) <;> conv => whnf)
 | omega
 | rfl
 | (refine congrArg (SV.arr _) ?_)
 | (refine congrArg (Value.int _) ?_)
 | (refine congrArg Value.bool ?_)))
 | (refine retF2 ?_ <;> (conv => whnf) <;> repeat' (first
 | exact trivial
 | (with_reducible rfl)
 | ((with_reducible refine And.intro ?_ ?_) <;> conv => whnf)
 | omega
 | rfl
 | (refine congrArg (SV.arr _) ?_)
 | (refine congrArg (Value.int _) ?_)
 | (refine congrArg Value.bool ?_)))); all_goals (try unfold Side)
                all_goals try (repeat' (first | (with_reducible rfl) | (with_reducible refine And.intro ?_ ?_) | omega | rfl | exact Or.inl rfl | exact Or.inr rfl | exact of_decide_eq_true rfl | exact Path.imp_of (of_decide_eq_true rfl) | (focus ((try simp only [Int.reduceToNat, Int.reduceTDiv, Int.reduceTMod, minL, maxL, pickB, zHB, InK, Path.imp, List.length_replicate, List.length_set, List.length_append, List.length_cons, List.length_nil] at *); omega)) | (refine app_le rfl ?_; omega)))
                refine ⟨j + 1, ⟨by omega, by omega⟩, ?_⟩
                refine subF.ok ?_ <;> (conv => whnf) <;> repeat' (first
 | exact trivial
 | (with_reducible rfl)
 | ((with_reducible refine And.intro ?_ ?_) <;> conv => whnf)
 | omega
 | rfl
 | (refine congrArg (SV.arr _) ?_)
 | (refine congrArg (Value.int _) ?_)
 | (refine congrArg Value.bool ?_))
                all_goals exact hws
              | false =>
                rw [hdj] at hv
                have hne : c0.getD j 0 = 1 := by rw [hv]; decide
                have hws : ((j : Int) - whK d j : Int) + 1 = ((j + 1 : Nat) : Int) - whK d (j + 1) := by rw [whK, hdj]; simp; omega
                repeat' (first
 | refine W.seq ?_
 | refine W.block ?_
 | (refine W.region tys_ok [] ?_; conv => whnf)
 | (refine W.drawAll tys_ok [] mixed rfl ?_; conv => whnf)
 | (refine W.ret ?_; conv => whnf)
 | (refine W.skip ?_; conv => whnf)
 | (refine W.exit ?_; conv => whnf)

    | (refine W.cond rfl (fun hb => ?_) (fun hb => ?_) <;> (try simp only [Int.reduceToNat, Int.reduceTDiv, Int.reduceTMod, minL, maxL, pickB, zHB] at hb) <;> (try (first | (cases hb; done) | exact absurd hb (by decide) | (exfalso; omega) | (exact absurd hne hb))))
    | ((with_reducible refine And.intro ?_ ?_); (focus ((repeat' (first | (with_reducible rfl) | (with_reducible refine And.intro ?_ ?_) | omega | rfl | exact Or.inl rfl | exact Or.inr rfl | exact of_decide_eq_true rfl | exact Path.imp_of (of_decide_eq_true rfl) | (focus ((try simp only [Int.reduceToNat, Int.reduceTDiv, Int.reduceTMod, minL, maxL, pickB, zHB, InK, Path.imp, List.length_replicate, List.length_set, List.length_append, List.length_cons, List.length_nil] at *); omega)) | (refine app_le rfl ?_; omega))); done)); (conv => whnf))
    | ((with_reducible refine And.intro (Side.out ?_) ?_); rotate_left; (conv => whnf))
    | (refine retF1 ?_ <;> (conv => whnf) <;> repeat' (first
 | exact trivial
 | (with_reducible rfl)
 | ((with_reducible refine And.intro ?_ ?_) <;> conv => whnf)
 | omega
 | rfl
 | (refine congrArg (SV.arr _) ?_)
 | (refine congrArg (Value.int _) ?_)
 | (refine congrArg Value.bool ?_)))
 | (refine retF2 ?_ <;> (conv => whnf) <;> repeat' (first
 | exact trivial
 | (with_reducible rfl)
 | ((with_reducible refine And.intro ?_ ?_) <;> conv => whnf)
 | omega
 | rfl
 | (refine congrArg (SV.arr _) ?_)
 | (refine congrArg (Value.int _) ?_)
 | (refine congrArg Value.bool ?_)))); all_goals (try unfold Side)
                all_goals try (repeat' (first | (with_reducible rfl) | (with_reducible refine And.intro ?_ ?_) | omega | rfl | exact Or.inl rfl | exact Or.inr rfl | exact of_decide_eq_true rfl | exact Path.imp_of (of_decide_eq_true rfl) | (focus ((try simp only [Int.reduceToNat, Int.reduceTDiv, Int.reduceTMod, minL, maxL, pickB, zHB, InK, Path.imp, List.length_replicate, List.length_set, List.length_append, List.length_cons, List.length_nil] at *); omega)) | (refine app_le rfl ?_; omega)))
                refine ⟨j + 1, ⟨by omega, by omega⟩, ?_⟩
                refine subF.ok ?_ <;> (conv => whnf) <;> repeat' (first
 | exact trivial
 | (with_reducible rfl)
 | ((with_reducible refine And.intro ?_ ?_) <;> conv => whnf)
 | omega
 | rfl
 | (refine congrArg (SV.arr _) ?_)
 | (refine congrArg (Value.int _) ?_)
 | (refine congrArg Value.bool ?_))
                all_goals exact hws
            · have hje : F.length = j := by omega
              subst hje
              repeat' (first
 | refine W.seq ?_
 | refine W.block ?_
 | (refine W.region tys_ok [] ?_; conv => whnf)
 | (refine W.drawAll tys_ok [] mixed rfl ?_; conv => whnf)
 | (refine W.ret ?_; conv => whnf)
 | (refine W.skip ?_; conv => whnf)
 | (refine W.exit ?_; conv => whnf)

    | (refine W.cond rfl (fun hb => ?_) (fun hb => ?_) <;> (try simp only [Int.reduceToNat, Int.reduceTDiv, Int.reduceTMod, minL, maxL, pickB, zHB] at hb) <;> (try (first | (cases hb; done) | exact absurd hb (by decide) | (exfalso; omega))))
    | ((with_reducible refine And.intro ?_ ?_); (focus ((repeat' (first | (with_reducible rfl) | (with_reducible refine And.intro ?_ ?_) | omega | rfl | exact Or.inl rfl | exact Or.inr rfl | exact of_decide_eq_true rfl | exact Path.imp_of (of_decide_eq_true rfl) | (focus ((try simp only [Int.reduceToNat, Int.reduceTDiv, Int.reduceTMod, minL, maxL, pickB, zHB, InK, Path.imp, List.length_replicate, List.length_set, List.length_append, List.length_cons, List.length_nil] at *); omega)) | (refine app_le rfl ?_; omega))); done)); (conv => whnf))
    | ((with_reducible refine And.intro (Side.out ?_) ?_); rotate_left; (conv => whnf))
    | (refine retF1 ?_ <;> (conv => whnf) <;> repeat' (first
 | exact trivial
 | (with_reducible rfl)
 | ((with_reducible refine And.intro ?_ ?_) <;> conv => whnf)
 | omega
 | rfl
 | (refine congrArg (SV.arr _) ?_)
 | (refine congrArg (Value.int _) ?_)
 | (refine congrArg Value.bool ?_)))
 | (refine retF2 ?_ <;> (conv => whnf) <;> repeat' (first
 | exact trivial
 | (with_reducible rfl)
 | ((with_reducible refine And.intro ?_ ?_) <;> conv => whnf)
 | omega
 | rfl
 | (refine congrArg (SV.arr _) ?_)
 | (refine congrArg (Value.int _) ?_)
 | (refine congrArg Value.bool ?_)))); all_goals (try unfold Side)
              all_goals try (repeat' (first | (with_reducible rfl) | (with_reducible refine And.intro ?_ ?_) | omega | rfl | exact Or.inl rfl | exact Or.inr rfl | exact of_decide_eq_true rfl | exact Path.imp_of (of_decide_eq_true rfl) | (focus ((try simp only [Int.reduceToNat, Int.reduceTDiv, Int.reduceTMod, minL, maxL, pickB, zHB, InK, Path.imp, List.length_replicate, List.length_set, List.length_append, List.length_cons, List.length_nil] at *); omega)) | (refine app_le rfl ?_; omega)))
end Go.Proofs.Ytdfajcfkdfjoeaa
/- The least genus of a word: the program's and the document's. No condition. -/
namespace Go.Proofs.Ytdfajcfkdfjoeaa
open Go Go.Vc Go.Scr
set_option linter.unusedVariables false
set_option linter.unusedSimpArgs false

theorem sgT_signs {n k : Nat} : signsB (sgT n k) n = true := by
  rw [signsB, sgT_len, show sgnB (sgT n k) = true from sgT_all]; simp
theorem leastK_rg {n : Nat} {w : List Int} (hn : n ≤ 10) : ∀ k, -100 ≤ (leastK n w k).1 ∧ (leastK n w k).1 ≤ 100
  | 0 => by simp [leastK]
  | k + 1 => by
    rw [leastK]
    split
    · exact (genus_rg hn).2
    · exact leastK_rg hn k
theorem pow_le {n : Nat} (hn : n ≤ 10) : 1 ≤ 2 ^ n ∧ 2 ^ n ≤ 1024 := ⟨Nat.one_le_two_pow, Nat.pow_le_pow_right (by omega) hn⟩
theorem toNat_sub' {n i : Nat} (h : i < n) : ((n : Int) - 1 - i).toNat = n - 1 - i := by omega
theorem sgp {n k i N : Nat} (hN : N = 2 ^ n) (hk : k < N) (hi : i < n) (hn : n ≤ 10) : ∃ e : Int, ((((N : Int) - 1 - k) / 2 ^ ((n : Int) - 1 - i).toNat).toNat &&& Int.toNat 1 : Nat) = e ∧ 0 ≤ e ∧ e ≤ 1 ∧ e * 2 - 1 = sgAt n k i ∧
    (0 ≤ (n : Int) - 1 - i ∧ ((n : Int) - 1 - i).toNat ≤ IntKind.i64.bits) ∧ (0 ≤ ((N : Int) - 1 - k) / 2 ^ ((n : Int) - 1 - i).toNat ∧ (0 : Int) ≤ 1 ∧ InK .i64 (((N : Int) - 1 - k) / 2 ^ ((n : Int) - 1 - i).toNat) ∧ InK .i64 1) := by
  have hb := pow_le hn
  have h1 : ((n : Int) - 1 - i).toNat = n - 1 - i := by omega
  have h2 : ((N : Int) - 1 - k) / 2 ^ (n - 1 - i) = (((N - 1 - k) / 2 ^ (n - 1 - i) : Nat) : Int) := by
    rw [show (N : Int) - 1 - k = ((N - 1 - k : Nat) : Int) by omega]; norm_cast
  have h3 : (N - 1 - k) / 2 ^ (n - 1 - i) ≤ 1024 := Nat.le_trans (Nat.div_le_self _ _) (by omega)
  subst hN
  have h4 := sg_prog hk hi
  rw [h1, h2, Int.toNat_natCast]
  have h5 : ((2 ^ n - 1 - k) / 2 ^ (n - 1 - i)) &&& Int.toNat 1 ≤ 1 := by
    show _ &&& 1 ≤ 1
    rw [Nat.and_one_is_mod]; omega
  obtain ⟨Q, hQ⟩ : ∃ Q : Nat, Q = (2 ^ n - 1 - k) / 2 ^ (n - 1 - i) := ⟨_, rfl⟩
  rw [← hQ] at h3 h4 h5 ⊢
  refine ⟨_, rfl, by omega, by exact_mod_cast h5, h4, ⟨by omega, by show _ ≤ 64; omega⟩, by omega, by omega, ?_, by simp [InK]⟩
  simp only [InK]; omega
set_option maxHeartbeats 4000000 in
theorem least_at {w : List Int} {n : Nat} (h : Word w n) (hn : n ≤ 10) : FnAt Try.prog false 45 [curveT n w] (.tup [.lit (.int .i64 (leastT n w).1), .st true (.arr (.int .i64) (leastT n w).2)]) [] := by
  have hp := h.pos
  obtain ⟨N, hN⟩ : ∃ N : Nat, N = 2 ^ n := ⟨_, rfl⟩
  have hNb := pow_le hn
  rw [← hN] at hNb
  have hNi : (1 : Int) * 2 ^ (n : Int).toNat = (N : Int) := by rw [hN, Int.toNat_natCast, Int.one_mul]; norm_cast
  have hg := fun k => genus_at h hn (sgT_signs (n := n) (k := k))
  have hrg := fun k => genus_rg (w := w) (s := sgT n k) hn
  obtain ⟨L, hL⟩ : ∃ L : Nat → Int × List Int, L = leastK n w := ⟨_, rfl⟩
  have hLT : L N = leastT n w := by rw [hL, hN]; rfl
  have hL0 : L 0 = (0, []) := by rw [hL]; rfl
  have hLy : ∀ k, (L k).2 = [] ∨ genusT n w (sgT n k) < (L k).1 → L (k + 1) = (genusT n w (sgT n k), sgT n k) := by rw [hL]; exact fun k => leastK_yes
  have hLn : ∀ k, ¬ ((L k).2 = [] ∨ genusT n w (sgT n k) < (L k).1) → L (k + 1) = L k := by rw [hL]; exact fun k => leastK_no
  rw [← hLT]
  clear hL hLT
  have hsh : 0 ≤ (n : Int) ∧ (n : Int).toNat ≤ IntKind.i64.bits ∧ InK .i64 (1 * 2 ^ (n : Int).toNat) := ⟨by omega, by show _ ≤ 64; omega, by rw [hNi]; simp only [InK]; omega⟩
  refine FnAt.of_body tys_ok Try.func45 (by rfl) rfl Try.ntmps45 (by rw [Try.results45]) (by simp) ?_
  
  repeat' (first
 | refine W.seq ?_
 | refine W.block ?_
 | (refine W.region tys_ok [] ?_; conv => whnf)
 | (refine W.drawAll tys_ok [] mixed rfl ?_; conv => whnf)
 | (refine W.ret ?_; conv => whnf)
 | (refine W.skip ?_; conv => whnf)
 | (refine W.exit ?_; conv => whnf)

    | (refine W.cond rfl (fun hb => ?_) (fun hb => ?_) <;> (try simp only [Int.reduceToNat, Int.reduceTDiv, Int.reduceTMod, minL, maxL, pickB, zHB] at hb) <;> (try (first | (cases hb; done) | exact absurd hb (by decide) | (exfalso; omega))))
    | ((with_reducible refine And.intro ?_ ?_); (focus ((repeat' (first | (with_reducible rfl) | (with_reducible refine And.intro ?_ ?_) | omega | rfl | exact Or.inl rfl | exact Or.inr rfl | exact of_decide_eq_true rfl | exact Path.imp_of (of_decide_eq_true rfl) | (focus ((try simp only [Int.reduceToNat, Int.reduceTDiv, Int.reduceTMod, minL, maxL, pickB, zHB, InK, Path.imp, List.length_replicate, List.length_set, List.length_append, List.length_cons, List.length_nil] at *); omega)) | (refine app_le rfl ?_; omega))); done)); (conv => whnf))
    | ((with_reducible refine And.intro (Side.out ?_) ?_); rotate_left; (conv => whnf))
    | (refine retF1 ?_ <;> (conv => whnf) <;> repeat' (first
 | exact trivial
 | (with_reducible rfl)
 | ((with_reducible refine And.intro ?_ ?_) <;> conv => whnf)
 | omega
 | rfl
 | (refine congrArg (SV.arr _) ?_)
 | (refine congrArg (Value.int _) ?_)
 | (refine congrArg Value.bool ?_)))
 | (refine retF2 ?_ <;> (conv => whnf) <;> repeat' (first
 | exact trivial
 | (with_reducible rfl)
 | ((with_reducible refine And.intro ?_ ?_) <;> conv => whnf)
 | omega
 | rfl
 | (refine congrArg (SV.arr _) ?_)
 | (refine congrArg (Value.int _) ?_)
 | (refine congrArg Value.bool ?_)))); all_goals (try unfold Side)
  all_goals try exact Path.imp_of hsh
  all_goals try (repeat' (first | (with_reducible rfl) | (with_reducible refine And.intro ?_ ?_) | omega | rfl | exact Or.inl rfl | exact Or.inr rfl | exact of_decide_eq_true rfl | exact Path.imp_of (of_decide_eq_true rfl) | (focus ((try simp only [Int.reduceToNat, Int.reduceTDiv, Int.reduceTMod, minL, maxL, pickB, zHB, InK, Path.imp, List.length_replicate, List.length_set, List.length_append, List.length_cons, List.length_nil] at *); omega)) | (refine app_le rfl ?_; omega)))
  refine W.loop (fun k : Nat => ⟨[(0, .st false (curveT n w)), (4, .st true (.narr (.int .i64) ((L k).2 : List Int))), (5, .lit (.int .i64 ((L k).1))), (6, .lit (.int .i64 ((N : Int) - 1 - k)))], []⟩) (fun k => k ≤ N) (fun k => N - k) (0) ?_ ?_
  · refine ⟨Nat.zero_le _, ?_⟩
    refine subF.ok ?_ <;> (conv => whnf) <;> repeat' (first
 | exact trivial
 | (with_reducible rfl)
 | ((with_reducible refine And.intro ?_ ?_) <;> conv => whnf)
 | omega
 | rfl
 | (refine congrArg (SV.arr _) ?_)
 | (refine congrArg (Value.int _) ?_)
 | (refine congrArg Value.bool ?_))
    all_goals first | exact congrArg Prod.snd hL0 | exact (congrArg Prod.fst hL0).symm | (rw [hNi]; omega)
  · intro k hk
    by_cases hil : k < N
    · repeat' (first
 | refine W.seq ?_
 | refine W.block ?_
 | (refine W.region tys_ok [] ?_; conv => whnf)
 | (refine W.drawAll tys_ok [] mixed rfl ?_; conv => whnf)
 | (refine W.ret ?_; conv => whnf)
 | (refine W.skip ?_; conv => whnf)
 | (refine W.exit ?_; conv => whnf)

    | (refine W.cond rfl (fun hb => ?_) (fun hb => ?_) <;> (try simp only [Int.reduceToNat, Int.reduceTDiv, Int.reduceTMod, minL, maxL, pickB, zHB] at hb) <;> (try (first | (cases hb; done) | exact absurd hb (by decide) | (exfalso; omega))))
    | ((with_reducible refine And.intro ?_ ?_); (focus ((repeat' (first | (with_reducible rfl) | (with_reducible refine And.intro ?_ ?_) | omega | rfl | exact Or.inl rfl | exact Or.inr rfl | exact of_decide_eq_true rfl | exact Path.imp_of (of_decide_eq_true rfl) | (focus ((try simp only [Int.reduceToNat, Int.reduceTDiv, Int.reduceTMod, minL, maxL, pickB, zHB, InK, Path.imp, List.length_replicate, List.length_set, List.length_append, List.length_cons, List.length_nil] at *); omega)) | (refine app_le rfl ?_; omega))); done)); (conv => whnf))
    | ((with_reducible refine And.intro (Side.out ?_) ?_); rotate_left; (conv => whnf))
    | (refine retF1 ?_ <;> (conv => whnf) <;> repeat' (first
 | exact trivial
 | (with_reducible rfl)
 | ((with_reducible refine And.intro ?_ ?_) <;> conv => whnf)
 | omega
 | rfl
 | (refine congrArg (SV.arr _) ?_)
 | (refine congrArg (Value.int _) ?_)
 | (refine congrArg Value.bool ?_)))
 | (refine retF2 ?_ <;> (conv => whnf) <;> repeat' (first
 | exact trivial
 | (with_reducible rfl)
 | ((with_reducible refine And.intro ?_ ?_) <;> conv => whnf)
 | omega
 | rfl
 | (refine congrArg (SV.arr _) ?_)
 | (refine congrArg (Value.int _) ?_)
 | (refine congrArg Value.bool ?_)))); all_goals (try unfold Side)
      all_goals try (repeat' (first | (with_reducible rfl) | (with_reducible refine And.intro ?_ ?_) | omega | rfl | exact Or.inl rfl | exact Or.inr rfl | exact of_decide_eq_true rfl | exact Path.imp_of (of_decide_eq_true rfl) | (focus ((try simp only [Int.reduceToNat, Int.reduceTDiv, Int.reduceTMod, minL, maxL, pickB, zHB, InK, Path.imp, List.length_replicate, List.length_set, List.length_append, List.length_cons, List.length_nil] at *); omega)) | (refine app_le rfl ?_; omega)))
      refine W.loop (fun i : Nat => ⟨[(0, .st false (curveT n w)), (4, .st true (.narr (.int .i64) ((L k).2 : List Int))), (5, .lit (.int .i64 ((L k).1))), (6, .lit (.int .i64 ((N : Int) - 1 - k))), (7, .own 900007), (23, .lit (.int .i64 (n))), (24, .lit (.int .i64 (i)))], [(900007, .row 3 (.int .i64) true ((sgT n k).take i : List Int))]⟩) (fun i => i ≤ n) (fun i => n - i) (0) ?_ ?_
      · refine ⟨Nat.zero_le _, ?_⟩
        refine subF.ok ?_ <;> (conv => whnf) <;> repeat' (first
 | exact trivial
 | (with_reducible rfl)
 | ((with_reducible refine And.intro ?_ ?_) <;> conv => whnf)
 | omega
 | rfl
 | (refine congrArg (SV.arr _) ?_)
 | (refine congrArg (Value.int _) ?_)
 | (refine congrArg Value.bool ?_))
      · intro i hi
        have hsl : @List.length (Ty.int .i64).T ((sgT n k).take i) ≤ i := by
          show ((sgT n k).take i).length ≤ i
          rw [List.length_take]; omega
        by_cases hin : i < n
        · obtain ⟨e, f0, f1, f2, f3, f4, f5⟩ := sgp hN hil hin hn
          have htk' : (sgT n k).take i ++ [(((((N : Int) - 1 - k) / 2 ^ ((n : Int) - 1 - i).toNat).toNat &&& Int.toNat 1 : Nat) : Int) * 2 - 1] = (sgT n k).take (i + 1) := by rw [sgT_take hin, f0, f3]
          repeat' (first
 | refine W.seq ?_
 | refine W.block ?_
 | (refine W.region tys_ok [] ?_; conv => whnf)
 | (refine W.drawAll tys_ok [] mixed rfl ?_; conv => whnf)
 | (refine W.ret ?_; conv => whnf)
 | (refine W.skip ?_; conv => whnf)
 | (refine W.exit ?_; conv => whnf)

    | (refine W.cond rfl (fun hb => ?_) (fun hb => ?_) <;> (try simp only [Int.reduceToNat, Int.reduceTDiv, Int.reduceTMod, minL, maxL, pickB, zHB] at hb) <;> (try (first | (cases hb; done) | exact absurd hb (by decide) | (exfalso; omega))))
    | ((with_reducible refine And.intro ?_ ?_); (focus ((repeat' (first | (with_reducible rfl) | (with_reducible refine And.intro ?_ ?_) | omega | rfl | exact Or.inl rfl | exact Or.inr rfl | exact of_decide_eq_true rfl | exact Path.imp_of (of_decide_eq_true rfl) | (focus ((try simp only [Int.reduceToNat, Int.reduceTDiv, Int.reduceTMod, minL, maxL, pickB, zHB, InK, Path.imp, List.length_replicate, List.length_set, List.length_append, List.length_cons, List.length_nil] at *); omega)) | (refine app_le rfl ?_; omega))); done)); (conv => whnf))
    | ((with_reducible refine And.intro (Side.out ?_) ?_); rotate_left; (conv => whnf))
    | (refine retF1 ?_ <;> (conv => whnf) <;> repeat' (first
 | exact trivial
 | (with_reducible rfl)
 | ((with_reducible refine And.intro ?_ ?_) <;> conv => whnf)
 | omega
 | rfl
 | (refine congrArg (SV.arr _) ?_)
 | (refine congrArg (Value.int _) ?_)
 | (refine congrArg Value.bool ?_)))
 | (refine retF2 ?_ <;> (conv => whnf) <;> repeat' (first
 | exact trivial
 | (with_reducible rfl)
 | ((with_reducible refine And.intro ?_ ?_) <;> conv => whnf)
 | omega
 | rfl
 | (refine congrArg (SV.arr _) ?_)
 | (refine congrArg (Value.int _) ?_)
 | (refine congrArg Value.bool ?_)))); all_goals (try unfold Side)
          all_goals try exact Path.imp_of f4
          all_goals try exact Path.imp_of f5
          all_goals try exact app_le rfl (Nat.le_trans (Nat.succ_le_succ hsl) (by omega))
          all_goals try (rw [f0])
          all_goals try (repeat' (first | (with_reducible rfl) | (with_reducible refine And.intro ?_ ?_) | omega | rfl | exact Or.inl rfl | exact Or.inr rfl | exact of_decide_eq_true rfl | exact Path.imp_of (of_decide_eq_true rfl) | (focus ((try simp only [Int.reduceToNat, Int.reduceTDiv, Int.reduceTMod, minL, maxL, pickB, zHB, InK, Path.imp, List.length_replicate, List.length_set, List.length_append, List.length_cons, List.length_nil] at *); omega)) | (refine app_le rfl ?_; omega)))
          refine ⟨i + 1, ⟨by omega, by omega⟩, ?_⟩
          refine subF.ok ?_ <;> (conv => whnf) <;> repeat' (first
 | exact trivial
 | (with_reducible rfl)
 | ((with_reducible refine And.intro ?_ ?_) <;> conv => whnf)
 | omega
 | rfl
 | (refine congrArg (SV.arr _) ?_)
 | (refine congrArg (Value.int _) ?_)
 | (refine congrArg Value.bool ?_))
          all_goals first | exact htk' | (refine Eq.trans ?_ htk'; rw [f0]; rfl)
        · have hie : n = i := by omega
          subst hie
          have hta : (sgT n k).take n = sgT n k := List.take_of_length_le (Nat.le_of_eq sgT_len)
          have hgk := hg k
          have hne : ∀ x : List Int, x = sgT n k → x ≠ [] := fun x e h0 => by
            have := sgT_len (n := n) (k := k)
            rw [← e, h0] at this; simp at this; omega
          repeat' (first
 | refine W.seq ?_
 | refine W.block ?_
 | (refine W.resub (x := Code.region 12 _ _) (Γ' := ⟨[(0, .st false (curveT n w)), (4, .st true (.narr (.int .i64) ((L k).2 : List Int))), (5, .lit (.int .i64 ((L k).1))), (6, .lit (.int .i64 ((N : Int) - 1 - k))), (7, .st true (.arr (.int .i64) (sgT n k : List Int)))], []⟩) ?_ (W.region tys_ok [] ?_); rotate_left; (conv => whnf))
 | (refine W.region tys_ok [] ?_; conv => whnf)
 | (refine W.drawAll tys_ok [] mixed rfl ?_; conv => whnf)
 | (refine W.ret ?_; conv => whnf)
 | (refine W.skip ?_; conv => whnf)
 | (refine W.exit ?_; conv => whnf)
 | (refine call_at (al := false) (hgk) rfl rfl rfl rfl ?_; conv => whnf)

    | (refine W.cond rfl (fun hb => ?_) (fun hb => ?_) <;> (try simp only [Int.reduceToNat, Int.reduceTDiv, Int.reduceTMod, minL, maxL, pickB, zHB] at hb) <;> (try (first | (cases hb; done) | exact absurd hb (by decide) | (exfalso; omega))))
    | ((with_reducible refine And.intro ?_ ?_); (focus ((repeat' (first | (with_reducible rfl) | (with_reducible refine And.intro ?_ ?_) | omega | rfl | exact Or.inl rfl | exact Or.inr rfl | exact of_decide_eq_true rfl | exact Path.imp_of (of_decide_eq_true rfl) | (focus ((try simp only [Int.reduceToNat, Int.reduceTDiv, Int.reduceTMod, minL, maxL, pickB, zHB, InK, Path.imp, List.length_replicate, List.length_set, List.length_append, List.length_cons, List.length_nil] at *); omega)) | (refine app_le rfl ?_; omega))); done)); (conv => whnf))
    | ((with_reducible refine And.intro (Side.out ?_) ?_); rotate_left; (conv => whnf))
    | (refine retF1 ?_ <;> (conv => whnf) <;> repeat' (first
 | exact trivial
 | (with_reducible rfl)
 | ((with_reducible refine And.intro ?_ ?_) <;> conv => whnf)
 | omega
 | rfl
 | (refine congrArg (SV.arr _) ?_)
 | (refine congrArg (Value.int _) ?_)
 | (refine congrArg Value.bool ?_)))
 | (refine retF2 ?_ <;> (conv => whnf) <;> repeat' (first
 | exact trivial
 | (with_reducible rfl)
 | ((with_reducible refine And.intro ?_ ?_) <;> conv => whnf)
 | omega
 | rfl
 | (refine congrArg (SV.arr _) ?_)
 | (refine congrArg (Value.int _) ?_)
 | (refine congrArg Value.bool ?_)))); all_goals (try unfold Side)
          all_goals try (repeat' (first | (with_reducible rfl) | (with_reducible refine And.intro ?_ ?_) | omega | rfl | exact Or.inl rfl | exact Or.inr rfl | exact of_decide_eq_true rfl | exact Path.imp_of (of_decide_eq_true rfl) | (focus ((try simp only [Int.reduceToNat, Int.reduceTDiv, Int.reduceTMod, minL, maxL, pickB, zHB, InK, Path.imp, List.length_replicate, List.length_set, List.length_append, List.length_cons, List.length_nil] at *); omega)) | (refine app_le rfl ?_; omega)))
          · refine ⟨k + 1, ⟨by omega, by omega⟩, ?_⟩
            rw [hLy k (hb.imp (fun h => List.isEmpty_iff.1 h) id)]
            refine subF.ok ?_ <;> (conv => whnf) <;> repeat' (first
 | exact trivial
 | (with_reducible rfl)
 | ((with_reducible refine And.intro ?_ ?_) <;> conv => whnf)
 | omega
 | rfl
 | (refine congrArg (SV.arr _) ?_)
 | (refine congrArg (Value.int _) ?_)
 | (refine congrArg Value.bool ?_))
            all_goals exact hne _ rfl
          · refine ⟨k + 1, ⟨by omega, by omega⟩, ?_⟩
            rw [hLn k (fun h => h.elim (fun h => by rw [h] at hb; exact absurd hb.1 (by decide)) hb.2)]
            refine subF.ok ?_ <;> (conv => whnf) <;> repeat' (first
 | exact trivial
 | (with_reducible rfl)
 | ((with_reducible refine And.intro ?_ ?_) <;> conv => whnf)
 | omega
 | rfl
 | (refine congrArg (SV.arr _) ?_)
 | (refine congrArg (Value.int _) ?_)
 | (refine congrArg Value.bool ?_))
          · refine subF.ok ?_ <;> (conv => whnf) <;> repeat' (first
 | exact trivial
 | (with_reducible rfl)
 | ((with_reducible refine And.intro ?_ ?_) <;> conv => whnf)
 | omega
 | rfl
 | (refine congrArg (SV.arr _) ?_)
 | (refine congrArg (Value.int _) ?_)
 | (refine congrArg Value.bool ?_))
            all_goals exact hta
    · have hie : N = k := by omega
      subst hie
      repeat' (first
 | refine W.seq ?_
 | refine W.block ?_
 | (refine W.region tys_ok [] ?_; conv => whnf)
 | (refine W.drawAll tys_ok [] mixed rfl ?_; conv => whnf)
 | (refine W.ret ?_; conv => whnf)
 | (refine W.skip ?_; conv => whnf)
 | (refine W.exit ?_; conv => whnf)

    | (refine W.cond rfl (fun hb => ?_) (fun hb => ?_) <;> (try simp only [Int.reduceToNat, Int.reduceTDiv, Int.reduceTMod, minL, maxL, pickB, zHB] at hb) <;> (try (first | (cases hb; done) | exact absurd hb (by decide) | (exfalso; omega))))
    | ((with_reducible refine And.intro ?_ ?_); (focus ((repeat' (first | (with_reducible rfl) | (with_reducible refine And.intro ?_ ?_) | omega | rfl | exact Or.inl rfl | exact Or.inr rfl | exact of_decide_eq_true rfl | exact Path.imp_of (of_decide_eq_true rfl) | (focus ((try simp only [Int.reduceToNat, Int.reduceTDiv, Int.reduceTMod, minL, maxL, pickB, zHB, InK, Path.imp, List.length_replicate, List.length_set, List.length_append, List.length_cons, List.length_nil] at *); omega)) | (refine app_le rfl ?_; omega))); done)); (conv => whnf))
    | ((with_reducible refine And.intro (Side.out ?_) ?_); rotate_left; (conv => whnf))
    | (refine retF1 ?_ <;> (conv => whnf) <;> repeat' (first
 | exact trivial
 | (with_reducible rfl)
 | ((with_reducible refine And.intro ?_ ?_) <;> conv => whnf)
 | omega
 | rfl
 | (refine congrArg (SV.arr _) ?_)
 | (refine congrArg (Value.int _) ?_)
 | (refine congrArg Value.bool ?_)))
 | (refine retF2 ?_ <;> (conv => whnf) <;> repeat' (first
 | exact trivial
 | (with_reducible rfl)
 | ((with_reducible refine And.intro ?_ ?_) <;> conv => whnf)
 | omega
 | rfl
 | (refine congrArg (SV.arr _) ?_)
 | (refine congrArg (Value.int _) ?_)
 | (refine congrArg Value.bool ?_)))); all_goals (try unfold Side)
      all_goals try (repeat' (first | (with_reducible rfl) | (with_reducible refine And.intro ?_ ?_) | omega | rfl | exact Or.inl rfl | exact Or.inr rfl | exact of_decide_eq_true rfl | exact Path.imp_of (of_decide_eq_true rfl) | (focus ((try simp only [Int.reduceToNat, Int.reduceTDiv, Int.reduceTMod, minL, maxL, pickB, zHB, InK, Path.imp, List.length_replicate, List.length_set, List.length_append, List.length_cons, List.length_nil] at *); omega)) | (refine app_le rfl ?_; omega)))
end Go.Proofs.Ytdfajcfkdfjoeaa
/- Least, Plane, Interlaced, and what lives asks. No condition. -/
namespace Go.Proofs.Ytdfajcfkdfjoeaa
open Go Go.Vc Go.Scr
set_option linter.unusedVariables false
set_option linter.unusedSimpArgs false

theorem Least_ok {w : List Int} {n : Nat} (h : Word w n) (hn : n ≤ 10) : FnAt Try.prog false 21 [.arr (.int .i64) w] (.tup [.lit (.int .i64 (leastT n w).1), .st true (.arr (.int .i64) (leastT n w).2), .lit (.int .i64 0)]) [] := by
  refine FnAt.of_body tys_ok Try.func21 (by rfl) rfl Try.ntmps21 (by rw [Try.results21]) (by simp) ?_
  
  repeat' (first
 | refine W.seq ?_
 | refine W.block ?_
 | (refine W.region tys_ok [] ?_; conv => whnf)
 | (refine W.drawAll tys_ok [] mixed rfl ?_; conv => whnf)
 | (refine W.ret ?_; conv => whnf)
 | (refine W.skip ?_; conv => whnf)
 | (refine W.exit ?_; conv => whnf)
 | (refine call_at (al := true) (read_ok h hn) rfl rfl rfl rfl ?_; conv => whnf)
 | (refine call_at (al := false) (least_at h hn) rfl rfl rfl rfl ?_; conv => whnf)

    | (refine W.cond rfl (fun hb => ?_) (fun hb => ?_) <;> (try simp only [Int.reduceToNat, Int.reduceTDiv, Int.reduceTMod, minL, maxL, pickB, zHB] at hb) <;> (try (first | (cases hb; done) | exact absurd hb (by decide) | (exfalso; omega))))
    | ((with_reducible refine And.intro ?_ ?_); (focus ((repeat' (first | (with_reducible rfl) | (with_reducible refine And.intro ?_ ?_) | omega | rfl | exact Or.inl rfl | exact Or.inr rfl | exact of_decide_eq_true rfl | exact Path.imp_of (of_decide_eq_true rfl) | (focus ((try simp only [Int.reduceToNat, Int.reduceTDiv, Int.reduceTMod, minL, maxL, pickB, zHB, InK, Path.imp, List.length_replicate, List.length_set, List.length_append, List.length_cons, List.length_nil] at *); omega)) | (refine app_le rfl ?_; omega))); done)); (conv => whnf))
    | ((with_reducible refine And.intro (Side.out ?_) ?_); rotate_left; (conv => whnf))
    | (refine retF1 ?_ <;> (conv => whnf) <;> repeat' (first
 | exact trivial
 | (with_reducible rfl)
 | ((with_reducible refine And.intro ?_ ?_) <;> conv => whnf)
 | omega
 | rfl
 | (refine congrArg (SV.arr _) ?_)
 | (refine congrArg (Value.int _) ?_)
 | (refine congrArg Value.bool ?_)))
 | (refine retF2 ?_ <;> (conv => whnf) <;> repeat' (first
 | exact trivial
 | (with_reducible rfl)
 | ((with_reducible refine And.intro ?_ ?_) <;> conv => whnf)
 | omega
 | rfl
 | (refine congrArg (SV.arr _) ?_)
 | (refine congrArg (Value.int _) ?_)
 | (refine congrArg Value.bool ?_)))); all_goals (try unfold Side)
  all_goals try (repeat' (first | (with_reducible rfl) | (with_reducible refine And.intro ?_ ?_) | omega | rfl | exact Or.inl rfl | exact Or.inr rfl | exact of_decide_eq_true rfl | exact Path.imp_of (of_decide_eq_true rfl) | (focus ((try simp only [Int.reduceToNat, Int.reduceTDiv, Int.reduceTMod, minL, maxL, pickB, zHB, InK, Path.imp, List.length_replicate, List.length_set, List.length_append, List.length_cons, List.length_nil] at *); omega)) | (refine app_le rfl ?_; omega)))
theorem Least_no {w : List Int} (h : ¬ checkT w = 0) (hl : w.length ≤ 1000) : FnAt Try.prog false 21 [.arr (.int .i64) w] (.tup [.lit (.int .i64 0), .own 0, .lit (.int .i64 (checkT w))]) [(0, .row 3 (.int .i64) true [])] := by
  refine FnAt.of_body tys_ok Try.func21 (by rfl) rfl Try.ntmps21 (by rw [Try.results21]) (by simp) ?_
  
  repeat' (first
 | refine W.seq ?_
 | refine W.block ?_
 | (refine W.region tys_ok [] ?_; conv => whnf)
 | (refine W.drawAll tys_ok [] mixed rfl ?_; conv => whnf)
 | (refine W.ret ?_; conv => whnf)
 | (refine W.skip ?_; conv => whnf)
 | (refine W.exit ?_; conv => whnf)
 | (refine call_at (al := true) (read_bad h hl) rfl rfl rfl rfl ?_; conv => whnf)

    | (refine W.cond rfl (fun hb => ?_) (fun hb => ?_) <;> (try simp only [Int.reduceToNat, Int.reduceTDiv, Int.reduceTMod, minL, maxL, pickB, zHB] at hb) <;> (try (first | (cases hb; done) | exact absurd hb (by decide) | (exfalso; omega))))
    | ((with_reducible refine And.intro ?_ ?_); (focus ((repeat' (first | (with_reducible rfl) | (with_reducible refine And.intro ?_ ?_) | omega | rfl | exact Or.inl rfl | exact Or.inr rfl | exact of_decide_eq_true rfl | exact Path.imp_of (of_decide_eq_true rfl) | (focus ((try simp only [Int.reduceToNat, Int.reduceTDiv, Int.reduceTMod, minL, maxL, pickB, zHB, InK, Path.imp, List.length_replicate, List.length_set, List.length_append, List.length_cons, List.length_nil] at *); omega)) | (refine app_le rfl ?_; omega))); done)); (conv => whnf))
    | ((with_reducible refine And.intro (Side.out ?_) ?_); rotate_left; (conv => whnf))
    | (refine retF1 ?_ <;> (conv => whnf) <;> repeat' (first
 | exact trivial
 | (with_reducible rfl)
 | ((with_reducible refine And.intro ?_ ?_) <;> conv => whnf)
 | omega
 | rfl
 | (refine congrArg (SV.arr _) ?_)
 | (refine congrArg (Value.int _) ?_)
 | (refine congrArg Value.bool ?_)))
 | (refine retF2 ?_ <;> (conv => whnf) <;> repeat' (first
 | exact trivial
 | (with_reducible rfl)
 | ((with_reducible refine And.intro ?_ ?_) <;> conv => whnf)
 | omega
 | rfl
 | (refine congrArg (SV.arr _) ?_)
 | (refine congrArg (Value.int _) ?_)
 | (refine congrArg Value.bool ?_)))); all_goals (try unfold Side)
  all_goals try (repeat' (first | (with_reducible rfl) | (with_reducible refine And.intro ?_ ?_) | omega | rfl | exact Or.inl rfl | exact Or.inr rfl | exact of_decide_eq_true rfl | exact Path.imp_of (of_decide_eq_true rfl) | (focus ((try simp only [Int.reduceToNat, Int.reduceTDiv, Int.reduceTMod, minL, maxL, pickB, zHB, InK, Path.imp, List.length_replicate, List.length_set, List.length_append, List.length_cons, List.length_nil] at *); omega)) | (refine app_le rfl ?_; omega)))
theorem Plane_ok {w : List Int} {n : Nat} (h : Word w n) (hn : n ≤ 10) (hg : (leastT n w).1 = 0) : FnAt Try.prog false 16 [.arr (.int .i64) w] (.tup [.st true (.arr (.int .i64) (leastT n w).2), .lit (.int .i64 0)]) [] := by
  refine FnAt.of_body tys_ok Try.func16 (by rfl) rfl Try.ntmps16 (by rw [Try.results16]) (by simp) ?_
  
  repeat' (first
 | refine W.seq ?_
 | refine W.block ?_
 | (refine W.region tys_ok [] ?_; conv => whnf)
 | (refine W.drawAll tys_ok [] mixed rfl ?_; conv => whnf)
 | (refine W.ret ?_; conv => whnf)
 | (refine W.skip ?_; conv => whnf)
 | (refine W.exit ?_; conv => whnf)
 | (refine call_at (al := true) (read_ok h hn) rfl rfl rfl rfl ?_; conv => whnf)
 | (refine call_at (al := false) (least_at h hn) rfl rfl rfl rfl ?_; conv => whnf)

    | (refine W.cond rfl (fun hb => ?_) (fun hb => ?_) <;> (try simp only [Int.reduceToNat, Int.reduceTDiv, Int.reduceTMod, minL, maxL, pickB, zHB] at hb) <;> (try (first | (cases hb; done) | exact absurd hb (by decide) | (exfalso; omega))))
    | ((with_reducible refine And.intro ?_ ?_); (focus ((repeat' (first | (with_reducible rfl) | (with_reducible refine And.intro ?_ ?_) | omega | rfl | exact Or.inl rfl | exact Or.inr rfl | exact of_decide_eq_true rfl | exact Path.imp_of (of_decide_eq_true rfl) | (focus ((try simp only [Int.reduceToNat, Int.reduceTDiv, Int.reduceTMod, minL, maxL, pickB, zHB, InK, Path.imp, List.length_replicate, List.length_set, List.length_append, List.length_cons, List.length_nil] at *); omega)) | (refine app_le rfl ?_; omega))); done)); (conv => whnf))
    | ((with_reducible refine And.intro (Side.out ?_) ?_); rotate_left; (conv => whnf))
    | (refine retF1 ?_ <;> (conv => whnf) <;> repeat' (first
 | exact trivial
 | (with_reducible rfl)
 | ((with_reducible refine And.intro ?_ ?_) <;> conv => whnf)
 | omega
 | rfl
 | (refine congrArg (SV.arr _) ?_)
 | (refine congrArg (Value.int _) ?_)
 | (refine congrArg Value.bool ?_)))
 | (refine retF2 ?_ <;> (conv => whnf) <;> repeat' (first
 | exact trivial
 | (with_reducible rfl)
 | ((with_reducible refine And.intro ?_ ?_) <;> conv => whnf)
 | omega
 | rfl
 | (refine congrArg (SV.arr _) ?_)
 | (refine congrArg (Value.int _) ?_)
 | (refine congrArg Value.bool ?_)))); all_goals (try unfold Side)
  all_goals try (repeat' (first | (with_reducible rfl) | (with_reducible refine And.intro ?_ ?_) | omega | rfl | exact Or.inl rfl | exact Or.inr rfl | exact of_decide_eq_true rfl | exact Path.imp_of (of_decide_eq_true rfl) | (focus ((try simp only [Int.reduceToNat, Int.reduceTDiv, Int.reduceTMod, minL, maxL, pickB, zHB, InK, Path.imp, List.length_replicate, List.length_set, List.length_append, List.length_cons, List.length_nil] at *); omega)) | (refine app_le rfl ?_; omega)))
theorem Plane_none {w : List Int} {n : Nat} (h : Word w n) (hn : n ≤ 10) (hg : ¬ (leastT n w).1 = 0) : FnAt Try.prog false 16 [.arr (.int .i64) w] (.tup [.own 0, .lit (.int .i64 5)]) [(0, .row 3 (.int .i64) true [])] := by
  refine FnAt.of_body tys_ok Try.func16 (by rfl) rfl Try.ntmps16 (by rw [Try.results16]) (by simp) ?_
  
  repeat' (first
 | refine W.seq ?_
 | refine W.block ?_
 | (refine W.region tys_ok [] ?_; conv => whnf)
 | (refine W.drawAll tys_ok [] mixed rfl ?_; conv => whnf)
 | (refine W.ret ?_; conv => whnf)
 | (refine W.skip ?_; conv => whnf)
 | (refine W.exit ?_; conv => whnf)
 | (refine call_at (al := true) (read_ok h hn) rfl rfl rfl rfl ?_; conv => whnf)
 | (refine call_at (al := false) (least_at h hn) rfl rfl rfl rfl ?_; conv => whnf)

    | (refine W.cond rfl (fun hb => ?_) (fun hb => ?_) <;> (try simp only [Int.reduceToNat, Int.reduceTDiv, Int.reduceTMod, minL, maxL, pickB, zHB] at hb) <;> (try (first | (cases hb; done) | exact absurd hb (by decide) | (exfalso; omega))))
    | ((with_reducible refine And.intro ?_ ?_); (focus ((repeat' (first | (with_reducible rfl) | (with_reducible refine And.intro ?_ ?_) | omega | rfl | exact Or.inl rfl | exact Or.inr rfl | exact of_decide_eq_true rfl | exact Path.imp_of (of_decide_eq_true rfl) | (focus ((try simp only [Int.reduceToNat, Int.reduceTDiv, Int.reduceTMod, minL, maxL, pickB, zHB, InK, Path.imp, List.length_replicate, List.length_set, List.length_append, List.length_cons, List.length_nil] at *); omega)) | (refine app_le rfl ?_; omega))); done)); (conv => whnf))
    | ((with_reducible refine And.intro (Side.out ?_) ?_); rotate_left; (conv => whnf))
    | (refine retF1 ?_ <;> (conv => whnf) <;> repeat' (first
 | exact trivial
 | (with_reducible rfl)
 | ((with_reducible refine And.intro ?_ ?_) <;> conv => whnf)
 | omega
 | rfl
 | (refine congrArg (SV.arr _) ?_)
 | (refine congrArg (Value.int _) ?_)
 | (refine congrArg Value.bool ?_)))
 | (refine retF2 ?_ <;> (conv => whnf) <;> repeat' (first
 | exact trivial
 | (with_reducible rfl)
 | ((with_reducible refine And.intro ?_ ?_) <;> conv => whnf)
 | omega
 | rfl
 | (refine congrArg (SV.arr _) ?_)
 | (refine congrArg (Value.int _) ?_)
 | (refine congrArg Value.bool ?_)))); all_goals (try unfold Side)
  all_goals try (repeat' (first | (with_reducible rfl) | (with_reducible refine And.intro ?_ ?_) | omega | rfl | exact Or.inl rfl | exact Or.inr rfl | exact of_decide_eq_true rfl | exact Path.imp_of (of_decide_eq_true rfl) | (focus ((try simp only [Int.reduceToNat, Int.reduceTDiv, Int.reduceTMod, minL, maxL, pickB, zHB, InK, Path.imp, List.length_replicate, List.length_set, List.length_append, List.length_cons, List.length_nil] at *); omega)) | (refine app_le rfl ?_; omega)))
theorem Plane_no {w : List Int} (h : ¬ checkT w = 0) (hl : w.length ≤ 1000) : FnAt Try.prog false 16 [.arr (.int .i64) w] (.tup [.own 0, .lit (.int .i64 (checkT w))]) [(0, .row 3 (.int .i64) true [])] := by
  refine FnAt.of_body tys_ok Try.func16 (by rfl) rfl Try.ntmps16 (by rw [Try.results16]) (by simp) ?_
  
  repeat' (first
 | refine W.seq ?_
 | refine W.block ?_
 | (refine W.region tys_ok [] ?_; conv => whnf)
 | (refine W.drawAll tys_ok [] mixed rfl ?_; conv => whnf)
 | (refine W.ret ?_; conv => whnf)
 | (refine W.skip ?_; conv => whnf)
 | (refine W.exit ?_; conv => whnf)
 | (refine call_at (al := true) (read_bad h hl) rfl rfl rfl rfl ?_; conv => whnf)

    | (refine W.cond rfl (fun hb => ?_) (fun hb => ?_) <;> (try simp only [Int.reduceToNat, Int.reduceTDiv, Int.reduceTMod, minL, maxL, pickB, zHB] at hb) <;> (try (first | (cases hb; done) | exact absurd hb (by decide) | (exfalso; omega))))
    | ((with_reducible refine And.intro ?_ ?_); (focus ((repeat' (first | (with_reducible rfl) | (with_reducible refine And.intro ?_ ?_) | omega | rfl | exact Or.inl rfl | exact Or.inr rfl | exact of_decide_eq_true rfl | exact Path.imp_of (of_decide_eq_true rfl) | (focus ((try simp only [Int.reduceToNat, Int.reduceTDiv, Int.reduceTMod, minL, maxL, pickB, zHB, InK, Path.imp, List.length_replicate, List.length_set, List.length_append, List.length_cons, List.length_nil] at *); omega)) | (refine app_le rfl ?_; omega))); done)); (conv => whnf))
    | ((with_reducible refine And.intro (Side.out ?_) ?_); rotate_left; (conv => whnf))
    | (refine retF1 ?_ <;> (conv => whnf) <;> repeat' (first
 | exact trivial
 | (with_reducible rfl)
 | ((with_reducible refine And.intro ?_ ?_) <;> conv => whnf)
 | omega
 | rfl
 | (refine congrArg (SV.arr _) ?_)
 | (refine congrArg (Value.int _) ?_)
 | (refine congrArg Value.bool ?_)))
 | (refine retF2 ?_ <;> (conv => whnf) <;> repeat' (first
 | exact trivial
 | (with_reducible rfl)
 | ((with_reducible refine And.intro ?_ ?_) <;> conv => whnf)
 | omega
 | rfl
 | (refine congrArg (SV.arr _) ?_)
 | (refine congrArg (Value.int _) ?_)
 | (refine congrArg Value.bool ?_)))); all_goals (try unfold Side)
  all_goals try (repeat' (first | (with_reducible rfl) | (with_reducible refine And.intro ?_ ?_) | omega | rfl | exact Or.inl rfl | exact Or.inr rfl | exact of_decide_eq_true rfl | exact Path.imp_of (of_decide_eq_true rfl) | (focus ((try simp only [Int.reduceToNat, Int.reduceTDiv, Int.reduceTMod, minL, maxL, pickB, zHB, InK, Path.imp, List.length_replicate, List.length_set, List.length_append, List.length_cons, List.length_nil] at *); omega)) | (refine app_le rfl ?_; omega)))

theorem word3 : Word [0, 1, 2, 0, 1, 2] 3 := word_of rfl (by decide) (by decide)
theorem word2 : Word [0, 1, 0, 1] 2 := word_of rfl (by decide) (by decide)
theorem word1 : Word [0, 0] 1 := word_of rfl (by decide) (by decide)
theorem least3 : leastT 3 [0, 1, 2, 0, 1, 2] = (0, [1, -1, 1]) := by decide +kernel
theorem least2 : (leastT 2 [0, 1, 0, 1]).1 = 1 := by decide +kernel
theorem faces1 : (facesT (nextT [0, 0] [1]) 2).length = 3 := by decide +kernel
theorem lives_1 : FnAt Try.prog false 16 [.arr (.int .i64) ([0, 1, 2, 0, 1, 2] : List Int)] (.tup [.st true (.arr (.int .i64) ([1, -1, 1] : List Int)), .lit (.int .i64 0)]) [] := by
  have := Plane_ok word3 (by decide) (by rw [least3])
  rw [least3] at this
  exact this
theorem lives_2 : FnAt Try.prog false 16 [.arr (.int .i64) ([0, 1, 0, 1] : List Int)] (.tup [.own 0, .lit (.int .i64 5)]) [(0, .row 3 (.int .i64) true [])] :=
  Plane_none word2 (by decide) (by rw [least2]; decide)
theorem lives_3 : FnAt Try.prog false 23 [.arr (.int .i64) ([0, 0] : List Int), .arr (.int .i64) ([1] : List Int)] (.tup [.own 0, .lit (.int .i64 0)]) [(0, .row 22 (.sl (.int .i64)) true (facesT (nextT [0, 0] [1]) 2))] :=
  Faces_ok word1 (by decide) (by decide)
theorem lives_4 : ∃ s, FnAt Try.prog false 21 [.arr (.int .i64) ([0, 1, 0, 1] : List Int)] (.tup [.lit (.int .i64 1), .st true (.arr (.int .i64) s), .lit (.int .i64 0)]) [] := by
  have := Least_ok word2 (by decide)
  rw [least2] at this
  exact ⟨_, this⟩
theorem lives_at : FnAt Try.prog false 20 [] (.lit (.bool true)) [] := by
  obtain ⟨s, h4⟩ := lives_4
  have h3 := lives_3
  have hf := faces1
  obtain ⟨F, hF⟩ : ∃ F, F = facesT (nextT [0, 0] [1]) 2 := ⟨_, rfl⟩
  rw [← hF] at h3 hf
  have hf' : @List.length (Ty.sl (.int .i64)).T F = 3 := hf
  refine FnAt.of_body tys_ok Try.func20 (by rfl) rfl Try.ntmps20 (by rw [Try.results20]) (by simp) ?_
  
  repeat' (first
 | refine W.seq ?_
 | refine W.block ?_
 | (refine W.region tys_ok [] ?_; conv => whnf)
 | (refine W.drawAll tys_ok [] mixed rfl ?_; conv => whnf)
 | (refine W.ret ?_; conv => whnf)
 | (refine W.skip ?_; conv => whnf)
 | (refine W.exit ?_; conv => whnf)
 | (refine call_at (al := false) (lives_1) rfl rfl rfl rfl ?_; conv => whnf)
 | (refine call_at (al := false) (lives_2) rfl rfl rfl rfl ?_; conv => whnf)
 | (refine call_at (al := false) (h3) rfl rfl rfl rfl ?_; conv => whnf)
 | (refine call_at (al := false) (h4) rfl rfl rfl rfl ?_; conv => whnf)

    | (refine W.cond rfl (fun hb => ?_) (fun hb => ?_) <;> (try simp only [Int.reduceToNat, Int.reduceTDiv, Int.reduceTMod, minL, maxL, pickB, zHB] at hb) <;> (try (first | (cases hb; done) | exact absurd hb (by decide) | (exfalso; omega))))
    | ((with_reducible refine And.intro ?_ ?_); (focus ((repeat' (first | (with_reducible rfl) | (with_reducible refine And.intro ?_ ?_) | omega | rfl | exact Or.inl rfl | exact Or.inr rfl | exact of_decide_eq_true rfl | exact Path.imp_of (of_decide_eq_true rfl) | (focus ((try simp only [Int.reduceToNat, Int.reduceTDiv, Int.reduceTMod, minL, maxL, pickB, zHB, InK, Path.imp, List.length_replicate, List.length_set, List.length_append, List.length_cons, List.length_nil] at *); omega)) | (refine app_le rfl ?_; omega))); done)); (conv => whnf))
    | ((with_reducible refine And.intro (Side.out ?_) ?_); rotate_left; (conv => whnf))
    | (refine retF1 ?_ <;> (conv => whnf) <;> repeat' (first
 | exact trivial
 | (with_reducible rfl)
 | ((with_reducible refine And.intro ?_ ?_) <;> conv => whnf)
 | omega
 | rfl
 | (refine congrArg (SV.arr _) ?_)
 | (refine congrArg (Value.int _) ?_)
 | (refine congrArg Value.bool ?_)))
 | (refine retF2 ?_ <;> (conv => whnf) <;> repeat' (first
 | exact trivial
 | (with_reducible rfl)
 | ((with_reducible refine And.intro ?_ ?_) <;> conv => whnf)
 | omega
 | rfl
 | (refine congrArg (SV.arr _) ?_)
 | (refine congrArg (Value.int _) ?_)
 | (refine congrArg Value.bool ?_)))); all_goals (try unfold Side)
  all_goals try (repeat' (first | (with_reducible rfl) | (with_reducible refine And.intro ?_ ?_) | omega | rfl | exact Or.inl rfl | exact Or.inr rfl | exact of_decide_eq_true rfl | exact Path.imp_of (of_decide_eq_true rfl) | (focus ((try simp only [Int.reduceToNat, Int.reduceTDiv, Int.reduceTMod, minL, maxL, pickB, zHB, InK, Path.imp, List.length_replicate, List.length_set, List.length_append, List.length_cons, List.length_nil] at *); omega)) | (refine app_le rfl ?_; omega)))
end Go.Proofs.Ytdfajcfkdfjoeaa
/- ScrollColors. No condition. -/
namespace Go.Proofs.Ytdfajcfkdfjoeaa
open Go Go.Vc Go.Scr
set_option linter.unusedVariables false
set_option linter.unusedSimpArgs false

set_option maxHeartbeats 4000000 in
theorem ScrollColors_at (x y : List Int) : FnAt Try.prog false 8 [.arr (.int .i64) x, .arr (.int .i64) y] (.lit (.bool true)) [] := by
  obtain ⟨w, hw⟩ : ∃ w, w = x.take 21 := ⟨_, rfl⟩
  obtain ⟨s, hs⟩ : ∃ s, s = y.take 21 := ⟨_, rfl⟩
  have hwl : w.length ≤ 1000 := by rw [hw, List.length_take]; omega
  have hsl : s.length ≤ 1000 := by rw [hs, List.length_take]; omega
  have hy := why_at w s hwl hsl
  by_cases hc : whyT w s = 0
  · obtain ⟨n, hW, hn, hS⟩ := whyT_ok hc
    have hg := genus_ref hW hn hS
    rw [hc] at hy
    by_cases h0 : genusT n w s = 0
    · have hS' := hS
      simp only [signsB, Bool.and_eq_true, decide_eq_true_eq] at hS'
      have hgk := (genus_ok hW hS'.1 hS'.2).2
      obtain ⟨d, hd⟩ := col_of hW hS'.1 hS'.2 (by omega)
      have hp := Colors_ok hW hn hS h0 hd
      have hr := colors_ref hW hn hS h0 hd
      rw [h0] at hg
      obtain ⟨a, ha⟩ : ∃ a : Int, a = ((n + 2 : Nat) - (whK d (n + 2) : Int)) := ⟨_, rfl⟩
      obtain ⟨b, hb⟩ : ∃ b : Int, b = (whK d (n + 2) : Int) := ⟨_, rfl⟩
      rw [← ha, ← hb] at hp hr
      refine FnAt.of_body tys_ok Try.func8 (by rfl) rfl Try.ntmps8 (by rw [Try.results8]) (by simp) ?_
  
      repeat' (first
 | refine W.seq ?_
 | refine W.block ?_
 | (refine W.region tys_ok [5, 6, 14, 16] ?_; conv => whnf)
 | (refine W.drawAll tys_ok [5, 6, 14, 16] mixed rfl ?_; conv => whnf)
 | (refine W.ret ?_; conv => whnf)
 | (refine W.skip ?_; conv => whnf)
 | (refine W.exit ?_; conv => whnf)
 | (refine call_at (al := false) (cut_eq hw) rfl rfl rfl rfl ?_; conv => whnf)
 | (refine call_at (al := false) (cut_eq hs) rfl rfl rfl rfl ?_; conv => whnf)
 | (refine call_at (al := false) (hp) rfl rfl rfl rfl ?_; conv => whnf)
 | (refine call_at (al := false) (hy) rfl rfl rfl rfl ?_; conv => whnf)
 | (refine call_at (al := false) (hg) rfl rfl rfl rfl ?_; conv => whnf)
 | (refine call_at (al := false) (hr) rfl rfl rfl rfl ?_; conv => whnf)
 | (refine call_at (al := false) (lives_at) rfl rfl rfl rfl ?_; conv => whnf)

    | (refine W.cond rfl (fun hb => ?_) (fun hb => ?_) <;> (try simp only [Int.reduceToNat, Int.reduceTDiv, Int.reduceTMod, minL, maxL, pickB, zHB] at hb) <;> (try (first | (cases hb; done) | exact absurd hb (by decide) | (exfalso; omega))))
    | ((with_reducible refine And.intro ?_ ?_); (focus ((repeat' (first | (with_reducible rfl) | (with_reducible refine And.intro ?_ ?_) | omega | rfl | exact Or.inl rfl | exact Or.inr rfl | exact of_decide_eq_true rfl | exact Path.imp_of (of_decide_eq_true rfl) | (focus ((try simp only [Int.reduceToNat, Int.reduceTDiv, Int.reduceTMod, minL, maxL, pickB, zHB, InK, Path.imp, List.length_replicate, List.length_set, List.length_append, List.length_cons, List.length_nil] at *); omega)) | (refine app_le rfl ?_; omega))); done)); (conv => whnf))
    | ((with_reducible refine And.intro (Side.out ?_) ?_); rotate_left; (conv => whnf))
    | (refine retF1 ?_ <;> (conv => whnf) <;> repeat' (first
 | exact trivial
 | (with_reducible rfl)
 | ((with_reducible refine And.intro ?_ ?_) <;> conv => whnf)
 | omega
 | rfl
 | (refine congrArg (SV.arr _) ?_)
 | (refine congrArg (Value.int _) ?_)
 | (refine congrArg Value.bool ?_)))
 | (refine retF2 ?_ <;> (conv => whnf) <;> repeat' (first
 | exact trivial
 | (with_reducible rfl)
 | ((with_reducible refine And.intro ?_ ?_) <;> conv => whnf)
 | omega
 | rfl
 | (refine congrArg (SV.arr _) ?_)
 | (refine congrArg (Value.int _) ?_)
 | (refine congrArg Value.bool ?_)))); all_goals (try unfold Side)
      all_goals try (repeat' (first | (with_reducible rfl) | (with_reducible refine And.intro ?_ ?_) | omega | rfl | exact Or.inl rfl | exact Or.inr rfl | exact of_decide_eq_true rfl | exact Path.imp_of (of_decide_eq_true rfl) | (focus ((try simp only [Int.reduceToNat, Int.reduceTDiv, Int.reduceTMod, minL, maxL, pickB, zHB, InK, Path.imp, List.length_replicate, List.length_set, List.length_append, List.length_cons, List.length_nil] at *); omega)) | (refine app_le rfl ?_; omega)))
      all_goals simp [pickB]
    · have hp := Colors_none hW hn hS h0
      refine FnAt.of_body tys_ok Try.func8 (by rfl) rfl Try.ntmps8 (by rw [Try.results8]) (by simp) ?_
  
      repeat' (first
 | refine W.seq ?_
 | refine W.block ?_
 | (refine W.region tys_ok [5, 6, 14, 16] ?_; conv => whnf)
 | (refine W.drawAll tys_ok [5, 6, 14, 16] mixed rfl ?_; conv => whnf)
 | (refine W.ret ?_; conv => whnf)
 | (refine W.skip ?_; conv => whnf)
 | (refine W.exit ?_; conv => whnf)
 | (refine call_at (al := false) (cut_eq hw) rfl rfl rfl rfl ?_; conv => whnf)
 | (refine call_at (al := false) (cut_eq hs) rfl rfl rfl rfl ?_; conv => whnf)
 | (refine call_at (al := false) (hp) rfl rfl rfl rfl ?_; conv => whnf)
 | (refine call_at (al := false) (hy) rfl rfl rfl rfl ?_; conv => whnf)
 | (refine call_at (al := false) (hg) rfl rfl rfl rfl ?_; conv => whnf)
 | (refine call_at (al := false) (lives_at) rfl rfl rfl rfl ?_; conv => whnf)

    | (refine W.cond rfl (fun hb => ?_) (fun hb => ?_) <;> (try simp only [Int.reduceToNat, Int.reduceTDiv, Int.reduceTMod, minL, maxL, pickB, zHB] at hb) <;> (try (first | (cases hb; done) | exact absurd hb (by decide) | (exfalso; omega) | (exact absurd hb h0))))
    | ((with_reducible refine And.intro ?_ ?_); (focus ((repeat' (first | (with_reducible rfl) | (with_reducible refine And.intro ?_ ?_) | omega | rfl | exact Or.inl rfl | exact Or.inr rfl | exact of_decide_eq_true rfl | exact Path.imp_of (of_decide_eq_true rfl) | (focus ((try simp only [Int.reduceToNat, Int.reduceTDiv, Int.reduceTMod, minL, maxL, pickB, zHB, InK, Path.imp, List.length_replicate, List.length_set, List.length_append, List.length_cons, List.length_nil] at *); omega)) | (refine app_le rfl ?_; omega))); done)); (conv => whnf))
    | ((with_reducible refine And.intro (Side.out ?_) ?_); rotate_left; (conv => whnf))
    | (refine retF1 ?_ <;> (conv => whnf) <;> repeat' (first
 | exact trivial
 | (with_reducible rfl)
 | ((with_reducible refine And.intro ?_ ?_) <;> conv => whnf)
 | omega
 | rfl
 | (refine congrArg (SV.arr _) ?_)
 | (refine congrArg (Value.int _) ?_)
 | (refine congrArg Value.bool ?_)))
 | (refine retF2 ?_ <;> (conv => whnf) <;> repeat' (first
 | exact trivial
 | (with_reducible rfl)
 | ((with_reducible refine And.intro ?_ ?_) <;> conv => whnf)
 | omega
 | rfl
 | (refine congrArg (SV.arr _) ?_)
 | (refine congrArg (Value.int _) ?_)
 | (refine congrArg Value.bool ?_)))); all_goals (try unfold Side)
      all_goals try (repeat' (first | (with_reducible rfl) | (with_reducible refine And.intro ?_ ?_) | omega | rfl | exact Or.inl rfl | exact Or.inr rfl | exact of_decide_eq_true rfl | exact Path.imp_of (of_decide_eq_true rfl) | (focus ((try simp only [Int.reduceToNat, Int.reduceTDiv, Int.reduceTMod, minL, maxL, pickB, zHB, InK, Path.imp, List.length_replicate, List.length_set, List.length_append, List.length_cons, List.length_nil] at *); omega)) | (refine app_le rfl ?_; omega)))
      all_goals simp [pickB]
  · have hp := Colors_no hc hwl hsl
    have hP : decide (whyT w s = 0) = true → FnAt Try.prog false 27 [.arr (.int .i64) w, .arr (.int .i64) s] (.lit (.int .i64 0)) [] := fun h => absurd (of_decide_eq_true h) hc
    refine FnAt.of_body tys_ok Try.func8 (by rfl) rfl Try.ntmps8 (by rw [Try.results8]) (by simp) ?_
  
    repeat' (first
 | refine W.seq ?_
 | refine W.block ?_
 | (refine W.region tys_ok [5, 6, 14, 16] ?_; conv => whnf)
 | (refine W.drawAll tys_ok [5, 6, 14, 16] mixed rfl ?_; conv => whnf)
 | (refine W.ret ?_; conv => whnf)
 | (refine W.skip ?_; conv => whnf)
 | (refine W.exit ?_; conv => whnf)
 | (refine call_at (al := false) (cut_eq hw) rfl rfl rfl rfl ?_; conv => whnf)
 | (refine call_at (al := false) (cut_eq hs) rfl rfl rfl rfl ?_; conv => whnf)
 | (refine call_at (al := false) (hp) rfl rfl rfl rfl ?_; conv => whnf)
 | (refine call_at (al := false) (hy) rfl rfl rfl rfl ?_; conv => whnf)
 | (refine ⟨false, _, _, _, _, rfl, fun h => hP h, rfl, rfl, rfl, ?_⟩; conv => whnf)
 | (refine call_at (al := false) (lives_at) rfl rfl rfl rfl ?_; conv => whnf)

    | (refine W.cond rfl (fun hb => ?_) (fun hb => ?_) <;> (try simp only [Int.reduceToNat, Int.reduceTDiv, Int.reduceTMod, minL, maxL, pickB, zHB] at hb) <;> (try (first | (cases hb; done) | exact absurd hb (by decide) | (exfalso; omega) | (exact absurd hb hc))))
    | ((with_reducible refine And.intro ?_ ?_); (focus ((repeat' (first | (with_reducible rfl) | (with_reducible refine And.intro ?_ ?_) | omega | rfl | exact Or.inl rfl | exact Or.inr rfl | exact of_decide_eq_true rfl | exact Path.imp_of (of_decide_eq_true rfl) | (focus ((try simp only [Int.reduceToNat, Int.reduceTDiv, Int.reduceTMod, minL, maxL, pickB, zHB, InK, Path.imp, List.length_replicate, List.length_set, List.length_append, List.length_cons, List.length_nil] at *); omega)) | (refine app_le rfl ?_; omega))); done)); (conv => whnf))
    | ((with_reducible refine And.intro (Side.out ?_) ?_); rotate_left; (conv => whnf))
    | (refine retF1 ?_ <;> (conv => whnf) <;> repeat' (first
 | exact trivial
 | (with_reducible rfl)
 | ((with_reducible refine And.intro ?_ ?_) <;> conv => whnf)
 | omega
 | rfl
 | (refine congrArg (SV.arr _) ?_)
 | (refine congrArg (Value.int _) ?_)
 | (refine congrArg Value.bool ?_)))
 | (refine retF2 ?_ <;> (conv => whnf) <;> repeat' (first
 | exact trivial
 | (with_reducible rfl)
 | ((with_reducible refine And.intro ?_ ?_) <;> conv => whnf)
 | omega
 | rfl
 | (refine congrArg (SV.arr _) ?_)
 | (refine congrArg (Value.int _) ?_)
 | (refine congrArg Value.bool ?_)))); all_goals (try unfold Side)
    all_goals try (repeat' (first | (with_reducible rfl) | (with_reducible refine And.intro ?_ ?_) | omega | rfl | exact Or.inl rfl | exact Or.inr rfl | exact of_decide_eq_true rfl | exact Path.imp_of (of_decide_eq_true rfl) | (focus ((try simp only [Int.reduceToNat, Int.reduceTDiv, Int.reduceTMod, minL, maxL, pickB, zHB, InK, Path.imp, List.length_replicate, List.length_set, List.length_append, List.length_cons, List.length_nil] at *); omega)) | (refine app_le rfl ?_; omega)))
    all_goals simp [pickB]
end Go.Proofs.Ytdfajcfkdfjoeaa
