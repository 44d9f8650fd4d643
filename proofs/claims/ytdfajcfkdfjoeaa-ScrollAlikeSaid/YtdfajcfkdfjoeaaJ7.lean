/- Joined of: Se5 Sm9 S18 S19 Sm10 Sl1 Sl2 Sl3 S37. No condition. -/
import Derived.Test.YtdfajcfkdfjoeaaJ6
import Derived.Test.YtdfajcfkdfjoeaaJ5

namespace Go.Scr
set_option linter.unusedVariables false
set_option linter.unusedSimpArgs false
theorem FK.disj {nx : Int → Int} {m k : Nat} {F : List (List Int)} (h : FK nx m k F) {i j : Nat} (hi : i < F.length) (hj : j < F.length) {x : Int} (h1 : x ∈ F.getD i []) (h2 : x ∈ F.getD j []) : i = j := by
  have hp := (List.pairwise_flatten.1 h.nd).2
  rw [List.pairwise_iff_getElem] at hp
  rw [List.getD_eq_getElem?_getD, List.getElem?_eq_getElem hi] at h1
  rw [List.getD_eq_getElem?_getD, List.getElem?_eq_getElem hj] at h2
  rcases Nat.lt_trichotomy i j with hlt | he | hlt
  · exact absurd rfl (hp i j hi hj hlt x h1 x h2)
  · exact he
  · exact absurd rfl (hp j i hj hi hlt x h2 x h1)
theorem Fac.head {nx : Int → Int} {m : Nat} {f : List Int} (h : Fac nx m f) : f.getD 0 0 ∈ f := mem_getD (List.length_pos_iff.2 h.ne)
theorem getD_mem' {F : List (List Int)} {i : Nat} (h : i < F.length) : F.getD i [] ∈ F := by
  rw [List.getD_eq_getElem?_getD, List.getElem?_eq_getElem h]; exact List.getElem_mem h
theorem mem_true {c : List Bool} (h : ∀ i, i < c.length → c.getD i false = false) : ¬ true ∈ c := fun hc => by
  obtain ⟨i, hi, e⟩ := List.getElem_of_mem hc
  have := h i hi
  rw [List.getD_eq_getElem?_getD, List.getElem?_eq_getElem hi] at this
  simp [e] at this
theorem rel {w s : List Int} {n : Nat} (h : Word w n) (hs : s.all (fun x => decide (x = 1) || decide (x = -1)) = true) (hl : s.length = n) {k : Nat} {f0 : List Int} {fs : List (List Int)} (hF : FK (nextT w s) (2 * n) k (f0 :: fs))
    {c0 : Bool} {c1 c2 : List Bool} (l1 : c1.length = fs.length) (l2 : c2.length = (tree w n).length) (h0 : ∀ e, e < 2 * n → (c0 ^^ (comb c1 (fs.map dv) e ^^ comb c2 ((tree w n).map uv) e)) = false) :
    (∀ e : Nat, e < 2 * n → (comb c1 (fs.map ind) (e : Int) ^^ comb c1 (fs.map ind) (-1 - (e : Int))) = c0) ∧ (c0 = false → ¬ true ∈ c1 ∧ ¬ true ∈ c2) := by
  have hX : Cl (nextT w s) (2 * n) (comb c1 (fs.map ind)) := comb_cl fun f hf => hF.fac f (by simp [hf])
  have hz := tree_zero h hs hl (z := fun e => c0 ^^ (comb c1 (fs.map ind) (e : Int) ^^ comb c1 (fs.map ind) (-1 - (e : Int)))) (fun x p q hx C => even_at C hX fun e => rfl) (fun e he hn => by
    have := h0 e he
    rw [comb_uv hn, comb_dv] at this
    simpa using this) (2 * n)
  have hz2 : ∀ e : Nat, e < 2 * n → (comb c1 (fs.map ind) (e : Int) ^^ comb c1 (fs.map ind) (-1 - (e : Int))) = c0 := fun e he => by
    have := hz e he (by omega)
    revert this
    cases (comb c1 (fs.map ind) (e : Int) ^^ comb c1 (fs.map ind) (-1 - (e : Int))) <;> cases c0 <;> simp
  refine ⟨hz2, fun hc => ?_⟩
  subst hc
  have hc := conn h hs hl hX fun e he => by
    have := hz2 e he
    revert this
    cases comb c1 (fs.map ind) (e : Int) <;> cases comb c1 (fs.map ind) (-1 - (e : Int)) <;> simp
  have hrg : ∀ f, f ∈ f0 :: fs → ∀ x ∈ f, -((2 * n : Nat) : Int) ≤ x ∧ x < (2 * n : Nat) := fun f hf x hx => hF.rg x (List.mem_flatten.2 ⟨f, hf, hx⟩)
  have hh := (hF.fac f0 (by simp)).head
  have hX0 : comb c1 (fs.map ind) (f0.getD 0 0) = false := comb_zero fun v hv => by
    obtain ⟨f, hf, rfl⟩ := List.mem_map.1 hv
    unfold ind; rw [decide_eq_false]
    intro hm
    obtain ⟨i, hi, e⟩ := List.getElem_of_mem hf
    have := hF.disj (i := 0) (j := i + 1) (by simp) (by simp; omega) (x := f0.getD 0 0) (by simpa using hh) (by simp [hi, e]; simpa using hm)
    omega
  have hX1 : ∀ st, -((2 * n : Nat) : Int) ≤ st → st < (2 * n : Nat) → comb c1 (fs.map ind) st = false := fun st g0 g1 => by
    have r0 := hrg f0 (by simp) _ hh
    rw [hc st g0 g1, ← hc _ r0.1 r0.2, hX0]
  have n1 : ¬ true ∈ c1 := mem_true fun i hi => by
    have hi2 : i < fs.length := by omega
    have hm := (hF.fac (fs.getD i []) (List.mem_cons_of_mem _ (getD_mem' hi2))).head
    have r := hrg (fs.getD i []) (List.mem_cons_of_mem _ (getD_mem' hi2)) _ hm
    rw [← comb_at (L := fs.map ind) (i := i) (j := (fs.getD i []).getD 0 0) (by simpa using l1) (by simpa using hi2) fun k hk => ?_, hX1 _ r.1 r.2]
    simp only [List.length_map] at hk
    have e : (fs.map ind).getD k (fun _ => false) = ind (fs.getD k []) := by
      simp [List.getD_eq_getElem?_getD, List.getElem?_eq_getElem hk]
    rw [e]
    constructor
    · intro g
      have := hF.disj (i := i + 1) (j := k + 1) (by simp; omega) (by simp; omega) (x := (fs.getD i []).getD 0 0) (by simpa using hm) (by simpa [ind] using g)
      omega
    · rintro rfl; unfold ind; simpa using hm
  refine ⟨n1, mem_true fun i hi => ?_⟩
  have hi2 : i < (tree w n).length := by omega
  have ht : (tree w n).getD i 0 ∈ tree w n := by rw [List.getD_eq_getElem?_getD, List.getElem?_eq_getElem hi2]; exact List.getElem_mem hi2
  have hlt := tree_lt h _ ht
  have h3 := h0 _ hlt
  rw [comb_dv, hX1 _ (by omega) (by omega), hX1 _ (by omega) (by omega)] at h3
  rw [comb_at (L := (tree w n).map uv) (i := i) (by simpa using l2) (by simpa using hi2) fun k hk => ?_] at h3
  · simpa using h3
  · simp only [List.length_map] at hk
    have e : ((tree w n).map uv).getD k (fun _ => false) = uv ((tree w n).getD k 0) := by
      simp [List.getD_eq_getElem?_getD, List.getElem?_eq_getElem hk]
    rw [e]
    unfold uv
    rw [decide_eq_true_iff]
    constructor
    · intro g
      rw [List.getD_eq_getElem?_getD, List.getElem?_eq_getElem hi2, List.getD_eq_getElem?_getD, List.getElem?_eq_getElem hk] at g
      exact ((List.getElem_inj (tree_nodup h)).1 g).symm
    · rintro rfl; rfl
theorem faces_cons {w s : List Int} {n : Nat} (h : Word w n) (hs : s.all (fun x => decide (x = 1) || decide (x = -1)) = true) (hl : s.length = n) : ∃ f0 fs, facesT (nextT w s) (2 * n) = f0 :: fs := by
  have H := facesT_FK (next_pn h hs hl)
  have := H.all 0 (by have := h.pos; omega)
  match hF : facesT (nextT w s) (2 * n) with
  | [] => rw [hF] at this; simp at this
  | f0 :: fs => exact ⟨f0, fs, rfl⟩
theorem faces_le {w s : List Int} {n : Nat} (h : Word w n) (hs : s.all (fun x => decide (x = 1) || decide (x = -1)) = true) (hl : s.length = n) : (facesT (nextT w s) (2 * n)).length ≤ n + 2 := by
  have hpos := h.pos
  obtain ⟨f0, fs, hF⟩ := faces_cons h hs hl
  have H := facesT_FK (next_pn h hs hl)
  rw [hF] at H ⊢
  refine Nat.le_of_not_lt fun hgt => ?_
  simp only [List.length_cons] at hgt
  obtain ⟨c, h1, h2, h3⟩ := dep (2 * n) (fs.map dv ++ (tree w n).map uv) (by simp [tree_len h]; omega)
  simp only [List.length_append, List.length_map] at h1
  have hc : c = c.take fs.length ++ c.drop fs.length := (List.take_append_drop _ _).symm
  have l1 : (c.take fs.length).length = fs.length := by simp; omega
  have l2 : (c.drop fs.length).length = (tree w n).length := by simp; omega
  generalize c.take fs.length = c1 at *
  generalize c.drop fs.length = c2 at *
  subst hc
  have := (rel h hs hl H (c0 := false) l1 l2 fun e he => by
    have := h3 e he
    rw [comb_app (by simpa using l1)] at this
    simpa using this).2 rfl
  rcases List.mem_append.1 h2 with g | g
  · exact this.1 g
  · exact this.2 g
theorem two_colors {w s : List Int} {n : Nat} (h : Word w n) (hs : s.all (fun x => decide (x = 1) || decide (x = -1)) = true) (hl : s.length = n) (hg : (facesT (nextT w s) (2 * n)).length = n + 2) :
    ∃ X, Cl (nextT w s) (2 * n) X ∧ ∀ e : Nat, e < 2 * n → X (-1 - (e : Int)) = ! X (e : Int) := by
  have hpos := h.pos
  obtain ⟨f0, fs, hF⟩ := faces_cons h hs hl
  have H := facesT_FK (next_pn h hs hl)
  rw [hF] at H hg
  simp only [List.length_cons] at hg
  obtain ⟨c, h1, h2, h3⟩ := dep (2 * n) ((fun _ => true) :: (fs.map dv ++ (tree w n).map uv)) (by simp [tree_len h]; omega)
  match c, h1, h2, h3 with
  | [], h1, _, _ => simp at h1
  | c0 :: c, h1, h2, h3 => ?_
  simp only [List.length_cons, List.length_append, List.length_map, Nat.add_right_cancel_iff] at h1
  have hc : c = c.take fs.length ++ c.drop fs.length := (List.take_append_drop _ _).symm
  have l1 : (c.take fs.length).length = fs.length := by simp; omega
  have l2 : (c.drop fs.length).length = (tree w n).length := by simp; omega
  generalize c.take fs.length = c1 at *
  generalize c.drop fs.length = c2 at *
  subst hc
  have R := rel h hs hl H (c0 := c0) l1 l2 fun e he => by
    have := h3 e he
    rw [comb, comb_app (by simpa using l1)] at this
    simpa using this
  have hc0 : c0 = true := by
    cases c0 with
    | true => rfl
    | false =>
      have := R.2 rfl
      simp at h2
      rcases h2 with g | g
      · exact absurd g this.1
      · exact absurd g this.2
  subst hc0
  refine ⟨_, comb_cl (c := c1) (fs := fs) fun f hf => H.fac f (by simp [hf]), fun e he => ?_⟩
  have := R.1 e he
  revert this
  cases comb c1 (fs.map ind) (e : Int) <;> cases comb c1 (fs.map ind) (-1 - (e : Int)) <;> simp
theorem sep_le {nx : Int → Int} {m : Nat} (h : Pn nx m) {xs : List Int} (hr : ∀ x ∈ xs, -(m : Int) ≤ x ∧ x < m) (hp : xs.Pairwise fun a b => ∃ C, Cl nx m C ∧ C a ≠ C b) : xs.length ≤ (facesT nx m).length := by
  have H := facesT_FK h
  have hex : ∀ x, -(m : Int) ≤ x → x < m → ∃ i, i < (facesT nx m).length ∧ x ∈ (facesT nx m).getD i [] := fun x h0 h1 => by
    have := H.all (x + m).toNat (by omega)
    rw [show (((x + m).toNat : Nat) : Int) - m = x by omega] at this
    obtain ⟨f, hf, hx⟩ := List.mem_flatten.1 this
    obtain ⟨i, hi, e⟩ := List.getElem_of_mem hf
    exact ⟨i, hi, by rw [List.getD_eq_getElem?_getD, List.getElem?_eq_getElem hi]; simpa [e] using hx⟩
  have g : ∃ g : Int → Nat, ∀ x, -(m : Int) ≤ x → x < m → g x < (facesT nx m).length ∧ x ∈ (facesT nx m).getD (g x) [] := by
    refine ⟨fun x => open Classical in if hx : -(m : Int) ≤ x ∧ x < m then (hex x hx.1 hx.2).choose else 0, fun x h0 h1 => ?_⟩
    dsimp only
    rw [dif_pos ⟨h0, h1⟩]
    exact (hex x h0 h1).choose_spec
  obtain ⟨g, hg⟩ := g
  have hn : (xs.map g).Nodup := by
    unfold List.Nodup
    rw [List.pairwise_map]
    refine hp.imp_of_mem fun {a b} ha hb ⟨C, hC, hne⟩ e => ?_
    have ra := hr a ha; have rb := hr b hb
    have ga := hg a ra.1 ra.2; have gb := hg b rb.1 rb.2
    rw [← e] at gb
    have hf := H.fac _ (getD_mem' ga.1)
    generalize (facesT nx m).getD (g a) [] = f at *
    cases hd : C (f.getD 0 0) with
    | true => exact hne (by rw [hf.ch C hC hd a ga.2, hf.ch C hC hd b gb.2])
    | false =>
      have k1 := hf.ch (fun x => ! C x) (fun x h0 h1 => by show (! C x) = (! C (nx x)); rw [hC x h0 h1]) (by show (! C _) = true; rw [hd]; rfl)
      have k2 := k1 a ga.2; have k3 := k1 b gb.2
      exact hne (by revert k2 k3; cases C a <;> cases C b <;> simp)
  have := nodup_lt (n := (facesT nx m).length) hn fun x hx => by
    obtain ⟨y, hy, rfl⟩ := List.mem_map.1 hx
    exact (hg y (hr y hy).1 (hr y hy).2).1
  simpa using this
theorem heads_sep {nx : Int → Int} {m : Nat} (h : Pn nx m) : ((facesT nx m).map fun f => f.getD 0 0).Pairwise fun a b => ∃ C, Cl nx m C ∧ C a ≠ C b := by
  have H := facesT_FK h
  rw [List.pairwise_map]
  have hp := (List.pairwise_flatten.1 H.nd).2
  refine hp.imp_of_mem fun {f g} hf hg hd => ⟨ind f, fun x h0 h1 => by unfold ind; rw [decide_eq_decide]; exact (H.fac f hf).cl x h0 h1, ?_⟩
  unfold ind
  have h1 := (H.fac f hf).head
  have h2 : ¬ g.getD 0 0 ∈ f := fun hm => hd _ hm _ (H.fac g hg).head rfl
  rw [decide_eq_true h1, decide_eq_false h2]; simp
theorem faces_map {nx nx' : Int → Int} {m m' : Nat} (h : Pn nx m) (h' : Pn nx' m') {φ : Int → Int} (hr : ∀ x, -(m' : Int) ≤ x → x < m' → -(m : Int) ≤ φ x ∧ φ x < m)
    (hc : ∀ D, Cl nx' m' D → ∃ C, Cl nx m C ∧ ∀ x, -(m' : Int) ≤ x → x < m' → C (φ x) = D x) : (facesT nx' m').length ≤ (facesT nx m).length := by
  have H' := facesT_FK h'
  have hin : ∀ f ∈ facesT nx' m', -(m' : Int) ≤ f.getD 0 0 ∧ f.getD 0 0 < m' := fun f hf => H'.rg _ (List.mem_flatten.2 ⟨f, hf, (H'.fac f hf).head⟩)
  have := sep_le h (xs := ((facesT nx' m').map fun f => f.getD 0 0).map φ) (fun x hx => by
    obtain ⟨y, hy, rfl⟩ := List.mem_map.1 hx
    obtain ⟨f, hf, rfl⟩ := List.mem_map.1 hy
    exact hr _ (hin f hf).1 (hin f hf).2) (by
    rw [List.pairwise_map]
    refine (heads_sep h').imp_of_mem fun {a b} ha hb ⟨D, hD, hne⟩ => ?_
    obtain ⟨C, hC, e⟩ := hc D hD
    obtain ⟨f, hf, rfl⟩ := List.mem_map.1 ha
    obtain ⟨g, hg, rfl⟩ := List.mem_map.1 hb
    exact ⟨C, hC, by rw [e _ (hin f hf).1 (hin f hf).2, e _ (hin g hg).1 (hin g hg).2]; exact hne⟩)
  simpa using this
theorem next_neg {w s t : List Int} {n : Nat} (h : Word w n) (hs : s.all (fun x => decide (x = 1) || decide (x = -1)) = true) (hl : s.length = n) (ht : t.all (fun x => decide (x = 1) || decide (x = -1)) = true) (hlt : t.length = n)
    (hn : ∀ v, v < n → t.getD v 0 = - s.getD v 0) {y : Int} (h0 : -((2 * n : Nat) : Int) ≤ y) (h1 : y < (2 * n : Nat)) : nextT w t (-1 - nextT w s y) = -1 - y := by
  obtain ⟨a, x, p, q, H⟩ := at_of h hs hl h0 h1
  obtain ⟨p, q, C⟩ := cr_of h hs hl H.hx
  obtain ⟨p', q', D⟩ := cr_of h ht hlt H.hx
  have e := C.pl.symm.trans D.pl
  simp at e
  obtain ⟨e1, e2⟩ := e
  have e1 : p = p' := by omega
  have e2 : q = q' := by omega
  subst e1 e2
  have hpq := C.pq; have hq := C.hq
  have h2 := C.all a H.ha H.wa
  have h3 := at_cases H.ha h0 h1 H.at_
  have h4 := hn x H.hx
  rcases C.nx with ⟨f1, v1, v2, v3, v4⟩ | ⟨f1, v1, v2, v3, v4⟩ <;> rcases D.nx with ⟨g1, u1, u2, u3, u4⟩ | ⟨g1, u1, u2, u3, u4⟩ <;> (try omega) <;>
    rcases h2 with e | e <;> subst e <;> rcases h3 with e | e <;> subst e
  · rw [v1, show -1 - (-1 - ((bf n q : Nat) : Int)) = (bf n q : Nat) by omega, u3]
  · rw [v2, u4]; omega
  · rw [v3, u2]
  · rw [v4, show -1 - (-1 - ((bf n p : Nat) : Int)) = (bf n p : Nat) by omega, u1]; omega
  · rw [v1, u4]
  · rw [v2, show -1 - (-1 - ((bf n q : Nat) : Int)) = (bf n q : Nat) by omega, u3]; omega
  · rw [v3, show -1 - (-1 - ((bf n p : Nat) : Int)) = (bf n p : Nat) by omega, u1]
  · rw [v4, u2]; omega
theorem neg_le {w s t : List Int} {n : Nat} (h : Word w n) (hs : s.all (fun x => decide (x = 1) || decide (x = -1)) = true) (hl : s.length = n) (ht : t.all (fun x => decide (x = 1) || decide (x = -1)) = true) (hlt : t.length = n)
    (hn : ∀ v, v < n → t.getD v 0 = - s.getD v 0) : (facesT (nextT w t) (2 * n)).length ≤ (facesT (nextT w s) (2 * n)).length := by
  refine faces_map (next_pn h hs hl) (next_pn h ht hlt) (φ := fun x => -1 - x) (fun x h0 h1 => by omega) fun D hD => ⟨fun y => D (-1 - y), fun y h0 h1 => ?_, fun x h0 h1 => ?_⟩
  · have h2 := (next_pn h hs hl).rg y h0 h1
    show D (-1 - y) = D (-1 - nextT w s y)
    rw [hD (-1 - nextT w s y) (by omega) (by omega), next_neg h hs hl ht hlt hn h0 h1]
  · show D (-1 - (-1 - x)) = D x
    rw [show -1 - (-1 - x) = x by omega]
theorem neg_eq {w s t : List Int} {n : Nat} (h : Word w n) (hs : s.all (fun x => decide (x = 1) || decide (x = -1)) = true) (hl : s.length = n) (ht : t.all (fun x => decide (x = 1) || decide (x = -1)) = true) (hlt : t.length = n)
    (hn : ∀ v, v < n → t.getD v 0 = - s.getD v 0) : (facesT (nextT w t) (2 * n)).length = (facesT (nextT w s) (2 * n)).length :=
  Nat.le_antisymm (neg_le h hs hl ht hlt hn) (neg_le h ht hlt hs hl fun v hv => by have := hn v hv; omega)
end Go.Scr
namespace Go.Scr
set_option linter.unusedVariables false
set_option linter.unusedSimpArgs false
theorem placesK_count {w : List Int} {v : Int} : ∀ {k : Nat}, k ≤ w.length → (placesK w v k).length = (w.take k).count v
  | 0, _ => by simp [placesK]
  | k + 1, h => by
    rw [placesK, take_getD' (by omega), List.count_append, ← placesK_count (k := k) (by omega)]
    by_cases e : w.getD k 0 = v
    · rw [if_pos e, e, List.length_append]; simp
    · rw [if_neg e, List.count_singleton]
      have : (w.getD k 0 == v) = false := by simpa using e
      rw [this]; rfl
theorem places_count {w : List Int} {v : Int} : (placesT w v).length = w.count v := by
  rw [placesT, placesK_count (Nat.le_refl _), List.take_length]
theorem word_count {w : List Int} {n : Nat} (h : Word w n) : ∀ v : Nat, v < n → w.count (v : Int) = 2 := fun v hv => by rw [← places_count]; exact h.two v hv
theorem count_word {w : List Int} {n : Nat} (hl : w.length = 2 * n) (hn : 1 ≤ n) (h : ∀ v : Nat, v < n → w.count (v : Int) = 2) : Word w n :=
  word_of hl hn fun v hv => by rw [places_count]; exact h v hv
theorem count_none {w : List Int} {n : Nat} (h : Word w n) {v : Int} (hv : v < 0 ∨ (n : Int) ≤ v) : w.count v = 0 := by
  rw [List.count_eq_zero]
  intro hm
  obtain ⟨i, hi, rfl⟩ := getD_mem hm
  have := h.rg i (by rw [← h.len]; exact hi)
  omega
theorem count_put {l : List Int} {a : Nat} {v u : Int} : (putT l a v).count u = l.count u + if v = u then 1 else 0 := by
  have h : l.count u = (l.take a).count u + (l.drop a).count u := by rw [← List.count_append, List.take_append_drop]
  unfold putT
  rw [List.count_append, List.count_append, List.count_singleton, h]
  by_cases e : v = u
  · subst e; simp; omega
  · have : (v == u) = false := by simpa using e
    rw [this, if_neg e]; simp
theorem word_put {w : List Int} {n a b : Nat} (h : Word w n) : Word (putT (putT w a n) b n) (n + 1) := by
  refine count_word ?_ (by omega) fun v hv => ?_
  · rw [putT_len, putT_len, h.len]; omega
  · rw [count_put, count_put]
    by_cases e : v = n
    · subst e; rw [count_none h (.inr (by omega)), if_pos rfl]
    · rw [word_count h v (by omega), if_neg (by omega)]
theorem made_word {x : List (Int × Int × Unit)} : ∀ {i : Nat}, Word (madeK x i) (i + 1)
  | 0 => count_word rfl (by omega) fun v hv => by
    have : v = 0 := by omega
    subst this; rfl
  | i + 1 => by
    rw [madeK]
    exact word_put (made_word (i := i))
theorem nodup_sub {α : Type} [DecidableEq α] : ∀ {l l' : List α}, l.Nodup → (∀ x ∈ l, x ∈ l') → l.length ≤ l'.length
  | [], _, _, _ => by simp
  | x :: l, l', hn, h => by
    have hx := h x (by simp)
    have hn' := List.nodup_cons.1 hn
    have := nodup_sub (l := l) (l' := l'.erase x) hn'.2 fun y hy => by
      have : y ≠ x := fun e => hn'.1 (e ▸ hy)
      exact (List.mem_erase_of_ne this).2 (h y (by simp [hy]))
    rw [List.length_erase_of_mem hx] at this
    have := List.length_pos_of_mem hx
    simp; omega
theorem FK.len {nx : Int → Int} {m : Nat} {F : List (List Int)} (h : FK nx m (2 * m) F) : F.flatten.length = 2 * m := by
  refine Nat.le_antisymm (nodup_range h.nd h.rg) ?_
  have := nodup_sub (l := (List.range (2 * m)).map fun (j : Nat) => (j : Int) - m) (l' := F.flatten) ?_ ?_
  · simpa using this
  · rw [List.nodup_iff_pairwise_ne, List.pairwise_map]
    exact (List.nodup_iff_pairwise_ne.1 List.nodup_range).imp fun {a b} h => by omega
  · intro x hx
    obtain ⟨j, hj, rfl⟩ := List.mem_map.1 hx
    exact h.all j (by simpa using hj)
theorem take_face {F : List (List Int)} {j : Nat} (h : j < F.length) : F.take (j + 1) = F.take j ++ [F.getD j []] := by
  rw [List.take_add_one, List.getD_eq_getElem?_getD, List.getElem?_eq_getElem h]; rfl
theorem flat_take {F : List (List Int)} {j : Nat} (h : j < F.length) : (F.take (j + 1)).flatten = (F.take j).flatten ++ F.getD j [] := by
  rw [take_face h]; simp
theorem flat_len {F : List (List Int)} {j : Nat} : (F.take j).flatten.length ≤ F.flatten.length := by
  have : F.flatten = (F.take j).flatten ++ (F.drop j).flatten := by rw [← List.flatten_append, List.take_append_drop]
  rw [this, List.length_append]; omega
theorem FK.at {nx : Int → Int} {m k : Nat} {F : List (List Int)} (h : FK nx m k F) {j q : Nat} (hj : j < F.length) (hq : q < (F.getD j []).length) :
    -(m : Int) ≤ (F.getD j []).getD q 0 ∧ (F.getD j []).getD q 0 < m ∧ ¬ (F.getD j []).getD q 0 ∈ (F.take j).flatten ++ (F.getD j []).take q ∧ (F.getD j []).getD 0 0 ≤ (F.getD j []).getD q 0 := by
  have hf := getD_mem' hj
  have hv : (F.getD j []).getD q 0 ∈ F.getD j [] := mem_getD hq
  have hr := h.rg _ (List.mem_flatten.2 ⟨_, hf, hv⟩)
  refine ⟨hr.1, hr.2, ?_, h.hd _ hf _ hv⟩
  have hnd := h.nd
  rw [← List.take_append_drop (j + 1) F, List.flatten_append, flat_take hj] at hnd
  have hnd := (List.nodup_append.1 hnd).1
  rw [← List.take_append_drop (q + 1) (F.getD j []), take_getD' hq, ← List.append_assoc] at hnd
  have hnd := (List.nodup_append.1 hnd).1
  rw [← List.append_assoc, List.nodup_append] at hnd
  intro hm
  exact hnd.2.2 _ hm _ (by simp) rfl
theorem FK.inc_at {nx : Int → Int} {m k : Nat} {F : List (List Int)} (h : FK nx m k F) {j : Nat} (hj : j + 1 < F.length) : (F.getD j []).getD 0 0 < (F.getD (j + 1) []).getD 0 0 := by
  have := List.pairwise_iff_getElem.1 h.inc j (j + 1) (by simp; omega) (by simpa using hj) (by omega)
  simp only [List.getElem_map] at this
  have e : ∀ i, (hi : i < F.length) → F.getD i [] = F[i] := fun i hi => by rw [List.getD_eq_getElem?_getD, List.getElem?_eq_getElem hi]; rfl
  rw [e j (by omega), e (j + 1) hj]; exact this
theorem FK.ne_at {nx : Int → Int} {m k : Nat} {F : List (List Int)} (h : FK nx m k F) {j : Nat} (hj : j < F.length) : 1 ≤ (F.getD j []).length :=
  List.length_pos_iff.2 (h.fac _ (getD_mem' hj)).ne
theorem genus_ok {n : Nat} {w s : List Int} (h : Word w n) (hs : s.all (fun x => decide (x = 1) || decide (x = -1)) = true) (hl : s.length = n) : 0 ≤ genusT n w s ∧ 2 * genusT n w s = (n : Int) + 2 - (facesT (nextT w s) (2 * n)).length := by
  have h1 := faces_le h hs hl
  have h2 := faces_par h hs hl
  unfold genusT
  rw [Int.tdiv_eq_ediv_of_nonneg (by omega)]
  omega
end Go.Scr
namespace Go.Proofs.Ytdfajcfkdfjoeaa
open Go Go.Vc Go.Scr
set_option linter.unusedVariables false
set_option linter.unusedSimpArgs false
@[reducible] def U2 : Ty := .cons (.int .u8) (.cons (.int .u8) .nil)
def small (x : List (Int × Int × Unit)) : Prop := ∀ i : Nat, 0 ≤ (x.getD i (0, 0, ())).1 ∧ (x.getD i (0, 0, ())).1 ≤ 255 ∧ 0 ≤ (x.getD i (0, 0, ())).2.1 ∧ (x.getD i (0, 0, ())).2.1 ≤ 255
theorem tm_nat {p : Int} {l : Nat} (h0 : 0 ≤ p) (k : Nat) (hk : l + 1 = k) : p.tmod ((l : Int) + 1) = ((p.toNat % k : Nat) : Int) := by
  rw [Int.tmod_eq_emod_of_nonneg h0, Int.natCast_emod, Int.toNat_of_nonneg h0, ← hk]; rfl
theorem mod_le' {a k j : Nat} (h : k = j + 1) : a % k ≤ j := by have := Nat.mod_lt a (y := k) (by omega); omega
set_option maxHeartbeats 4000000 in
theorem made_at {x : List (Int × Int × Unit)} (hx : small x) {m c : Nat} (hm : m ≤ 10) (hc : c = min x.length (m - 1)) : FnAt Try.prog false 28 [.arr U2 x, .lit (.int .i64 m)] (.st true (.arr (.int .i64) (madeK x c))) [] := by
  have hxl : ∀ i, @List.getD U2.T x i U2.dflt = x.getD i (0, 0, ()) := fun i => rfl
  have hll : @List.length U2.T x = x.length := rfl
  have hml : ∀ i, @List.length (Ty.int .i64).T (madeK x i) = 2 * i + 2 := fun i => madeK_len
  refine FnAt.of_body tys_ok Try.func28 (by rfl) rfl Try.ntmps28 (by rw [Try.results28]) (by simp) ?_
  
  repeat' (first
 | refine W.seq ?_
 | refine W.block ?_
 | (refine W.region tys_ok [5, 7] ?_; conv => whnf)
 | (refine W.drawAll tys_ok [5, 7] mixed rfl ?_; conv => whnf)
 | (refine W.ret ?_; conv => whnf)
 | (refine W.skip ?_; conv => whnf)
 | (refine W.exit ?_; conv => whnf)
 | (refine W.cond rfl (fun hb => ?_) (fun hb => ?_) <;> (try simp only [Int.reduceToNat, Int.reduceTDiv, Int.reduceTMod, minL, maxL, pickB, zHB] at hb) <;> (try (first | (cases hb; done) | exact absurd hb (by decide) | (exfalso; omega))))
 | ((with_reducible refine And.intro ?_ ?_); (focus ((repeat' (first | (with_reducible rfl) | (with_reducible refine And.intro ?_ ?_) | omega | rfl | exact Or.inl rfl | exact Or.inr rfl | exact of_decide_eq_true rfl | exact Path.imp_of (of_decide_eq_true rfl) | (focus ((try simp only [Int.reduceToNat, Int.reduceTDiv, Int.reduceTMod, minL, maxL, pickB, zHB, InK, Path.imp, List.length_replicate, List.length_set, List.length_append, List.length_cons, List.length_nil] at *); omega)) | (refine app_le rfl ?_; omega))); done)); (conv => whnf))
 | ((with_reducible refine And.intro (Side.out ?_) ?_); rotate_left; (conv => whnf))
 | ((first | refine retF1 ?_ | refine retF2 ?_) <;> (conv => whnf) <;> repeat' (first
 | exact trivial
 | (with_reducible rfl)
 | ((with_reducible refine And.intro ?_ ?_) <;> conv => whnf)
 | omega
 | rfl
 | (refine congrArg (SV.arr _) ?_)
 | (refine congrArg (Value.int _) ?_)
 | (refine congrArg Value.bool ?_)))); all_goals (try unfold Side)
  all_goals try (repeat' (first | (with_reducible rfl) | (with_reducible refine And.intro ?_ ?_) | omega | rfl | exact Or.inl rfl | exact Or.inr rfl | exact of_decide_eq_true rfl | exact Path.imp_of (of_decide_eq_true rfl) | (focus ((try simp only [Int.reduceToNat, Int.reduceTDiv, Int.reduceTMod, minL, maxL, pickB, zHB, InK, Path.imp, List.length_replicate, List.length_set, List.length_append, List.length_cons, List.length_nil] at *); omega)) | (refine app_le rfl ?_; omega)))
  refine W.loop (fun i : Nat => ⟨[(0, .st false (.arr U2 x)), (1, .lit (.int .i64 (m))), (5, .st true (.arr (.int .i64) ((madeK x i : List Int) : List Int))), (6, .lit (.int .i64 (i)))], []⟩) (fun i => i ≤ x.length ∧ i ≤ m - 1) (fun i => m - i) (0) ?_ ?_
  · refine ⟨⟨Nat.zero_le _, Nat.zero_le _⟩, ?_⟩
    refine subF.ok ?_ <;> (conv => whnf) <;> repeat' (first
 | exact trivial
 | (with_reducible rfl)
 | ((with_reducible refine And.intro ?_ ?_) <;> conv => whnf)
 | omega
 | rfl
 | (refine congrArg (SV.arr _) ?_)
 | (refine congrArg (Value.int _) ?_)
 | (refine congrArg Value.bool ?_))
  · rintro i ⟨hi, hi2⟩
    have hl := hml i
    obtain ⟨x0, x1, x2, x3⟩ := hx i
    by_cases hil : i < x.length ∧ i + 1 < m
    · obtain ⟨hil, him⟩ := hil
      obtain ⟨p, hp⟩ : ∃ p, p = (x.getD i (0, 0, ())).1 := ⟨_, rfl⟩
      obtain ⟨q, hq⟩ : ∃ q, q = (x.getD i (0, 0, ())).2.1 := ⟨_, rfl⟩
      obtain ⟨v1, hv1⟩ : ∃ v1, v1 = putT (madeK x i) (p.toNat % (2 * i + 3)) (i + 1) := ⟨_, rfl⟩
      have hl1 : @List.length (Ty.int .i64).T v1 = 2 * i + 3 := by show v1.length = _; rw [hv1, putT_len, madeK_len]
      have e2 : putT v1 (q.toNat % (2 * i + 4)) (i + 1) = madeK x (i + 1) := by rw [hv1, hp, hq]; rfl
      have c1 := put_at (w := madeK x i) (a := p.toNat % (2 * i + 3)) (v := i + 1) (by have : (madeK x i).length = _ := hl; rw [this]; exact mod_le' rfl) (by have : (madeK x i).length = _ := hl; omega)
      have c2 := put_at (w := v1) (a := q.toNat % (2 * i + 4)) (v := i + 1) (by have : v1.length = _ := hl1; rw [this]; exact mod_le' rfl) (by have : v1.length = _ := hl1; omega)
      rw [← hv1] at c1
      rw [e2] at c2
      have t1 := tm_nat (p := p) (l := @List.length (Ty.int .i64).T (madeK x i)) (by omega) (2 * i + 3) (by omega)
      have t2 := tm_nat (p := q) (l := @List.length (Ty.int .i64).T v1) (by omega) (2 * i + 4) (by omega)
      rw [← t1, hp] at c1
      rw [← t2, hq] at c2
      have ik1 : InK .i64 (x.getD i (0, 0, ())).1 := by simp only [InK]; omega
      have ik2 : InK .i64 (x.getD i (0, 0, ())).2.1 := by simp only [InK]; omega
      repeat' (first
 | refine W.seq ?_
 | refine W.block ?_
 | (refine W.region tys_ok [33, 47, 5] ?_; conv => whnf)
 | (refine W.drawAll tys_ok [33, 47, 5] mixed rfl ?_; conv => whnf)
 | (refine W.ret ?_; conv => whnf)
 | (refine W.skip ?_; conv => whnf)
 | (refine W.exit ?_; conv => whnf)
 | (refine call_at (al := false) (c1) rfl rfl rfl rfl ?_; conv => whnf)
 | (refine call_at (al := false) (c2) rfl rfl rfl rfl ?_; conv => whnf)
 | (refine W.cond rfl (fun hb => ?_) (fun hb => ?_) <;> (try simp only [Int.reduceToNat, Int.reduceTDiv, Int.reduceTMod, minL, maxL, pickB, zHB] at hb) <;> (try (first | (cases hb; done) | exact absurd hb (by decide) | (exfalso; omega))))
 | ((with_reducible refine And.intro ?_ ?_); (focus ((repeat' (first | (with_reducible rfl) | (with_reducible refine And.intro ?_ ?_) | omega | rfl | exact Or.inl rfl | exact Or.inr rfl | exact of_decide_eq_true rfl | exact Path.imp_of (of_decide_eq_true rfl) | (focus ((try simp only [Int.reduceToNat, Int.reduceTDiv, Int.reduceTMod, minL, maxL, pickB, zHB, InK, Path.imp, List.length_replicate, List.length_set, List.length_append, List.length_cons, List.length_nil] at *); omega)) | (refine app_le rfl ?_; omega))); done)); (conv => whnf))
 | ((with_reducible refine And.intro (Side.out ?_) ?_); rotate_left; (conv => whnf))
 | ((first | refine retF1 ?_ | refine retF2 ?_) <;> (conv => whnf) <;> repeat' (first
 | exact trivial
 | (with_reducible rfl)
 | ((with_reducible refine And.intro ?_ ?_) <;> conv => whnf)
 | omega
 | rfl
 | (refine congrArg (SV.arr _) ?_)
 | (refine congrArg (Value.int _) ?_)
 | (refine congrArg Value.bool ?_)))); all_goals (try unfold Side)
      all_goals try (repeat' (first | (with_reducible rfl) | (with_reducible refine And.intro ?_ ?_) | omega | rfl | exact Or.inl rfl | exact Or.inr rfl | exact of_decide_eq_true rfl | exact Path.imp_of (of_decide_eq_true rfl) | (focus ((try simp only [Int.reduceToNat, Int.reduceTDiv, Int.reduceTMod, minL, maxL, pickB, zHB, InK, Path.imp, List.length_replicate, List.length_set, List.length_append, List.length_cons, List.length_nil] at *); omega)) | (refine app_le rfl ?_; omega)))
      all_goals try (first | exact Path.imp_of ik1 | exact Path.imp_of ik2)
      refine ⟨i + 1, ⟨⟨by omega, by omega⟩, by omega⟩, ?_⟩
      refine subF.ok ?_ <;> (conv => whnf) <;> repeat' (first
 | exact trivial
 | (with_reducible rfl)
 | ((with_reducible refine And.intro ?_ ?_) <;> conv => whnf)
 | omega
 | rfl
 | (refine congrArg (SV.arr _) ?_)
 | (refine congrArg (Value.int _) ?_)
 | (refine congrArg Value.bool ?_))
    · have hie : c = i := by omega
      subst hie
      repeat' (first
 | refine W.seq ?_
 | refine W.block ?_
 | (refine W.region tys_ok [] ?_; conv => whnf)
 | (refine W.drawAll tys_ok [] mixed rfl ?_; conv => whnf)
 | (refine W.ret ?_; conv => whnf)
 | (refine W.skip ?_; conv => whnf)
 | (refine W.exit ?_; conv => whnf)
 | (refine W.cond rfl (fun hb => ?_) (fun hb => ?_) <;> (try simp only [Int.reduceToNat, Int.reduceTDiv, Int.reduceTMod, minL, maxL, pickB, zHB] at hb) <;> (try (first | (cases hb; done) | exact absurd hb (by decide) | (exfalso; omega))))
 | ((with_reducible refine And.intro ?_ ?_); (focus ((repeat' (first | (with_reducible rfl) | (with_reducible refine And.intro ?_ ?_) | omega | rfl | exact Or.inl rfl | exact Or.inr rfl | exact of_decide_eq_true rfl | exact Path.imp_of (of_decide_eq_true rfl) | (focus ((try simp only [Int.reduceToNat, Int.reduceTDiv, Int.reduceTMod, minL, maxL, pickB, zHB, InK, Path.imp, List.length_replicate, List.length_set, List.length_append, List.length_cons, List.length_nil] at *); omega)) | (refine app_le rfl ?_; omega))); done)); (conv => whnf))
 | ((with_reducible refine And.intro (Side.out ?_) ?_); rotate_left; (conv => whnf))
 | ((first | refine retF1 ?_ | refine retF2 ?_) <;> (conv => whnf) <;> repeat' (first
 | exact trivial
 | (with_reducible rfl)
 | ((with_reducible refine And.intro ?_ ?_) <;> conv => whnf)
 | omega
 | rfl
 | (refine congrArg (SV.arr _) ?_)
 | (refine congrArg (Value.int _) ?_)
 | (refine congrArg Value.bool ?_)))); all_goals (try unfold Side)
      all_goals try (repeat' (first | (with_reducible rfl) | (with_reducible refine And.intro ?_ ?_) | omega | rfl | exact Or.inl rfl | exact Or.inr rfl | exact of_decide_eq_true rfl | exact Path.imp_of (of_decide_eq_true rfl) | (focus ((try simp only [Int.reduceToNat, Int.reduceTDiv, Int.reduceTMod, minL, maxL, pickB, zHB, InK, Path.imp, List.length_replicate, List.length_set, List.length_append, List.length_cons, List.length_nil] at *); omega)) | (refine app_le rfl ?_; omega)))
end Go.Proofs.Ytdfajcfkdfjoeaa
namespace Go.Proofs.Ytdfajcfkdfjoeaa
open Go Go.Vc Go.Scr
set_option linter.unusedVariables false
set_option linter.unusedSimpArgs false
theorem sigT_signs {n z : Nat} : signsB (sigT n z) n = true := by
  rw [signsB, sigT_len, show sgnB (sigT n z) = true from sigT_all]; simp
set_option maxHeartbeats 4000000 in
theorem ScrollEuler_at {x : List (Int × Int × Unit)} (hx : small x) {z : Int} (hz0 : 0 ≤ z) (hz1 : z ≤ 65535) : FnAt Try.prog false 6 [.arr U2 x, .lit (.int .u16 z)] (.lit (.bool true)) [] := by
  obtain ⟨z, rfl⟩ : ∃ y : Nat, z = y := ⟨z.toNat, by omega⟩
  obtain ⟨c, hc⟩ : ∃ c, c = min x.length (10 - 1) := ⟨_, rfl⟩
  have c1 := made_at hx (m := 10) (Nat.le_refl _) hc
  have hw : Word (madeK x c) (c + 1) := made_word
  obtain ⟨n, hn⟩ : ∃ n, n = c + 1 := ⟨_, rfl⟩
  rw [← hn] at hw
  have hn10 : n ≤ 10 := by omega
  obtain ⟨w, hwe⟩ : ∃ w, w = madeK x c := ⟨_, rfl⟩
  rw [← hwe] at hw c1
  have hl : @List.length (Ty.int .i64).T w = 2 * n := hw.len
  have hd : Int.tdiv (@List.length (Ty.int .i64).T w) 2 = n := by rw [hl, Int.tdiv_eq_ediv_of_nonneg (by omega)]; omega
  have c2 := signs_at (n := n) (z := z) hn10 (by omega)
  have c3 := signs_at (n := n) (z := 65535 - z) hn10 (by omega)
  rw [← hd] at c2 c3
  rw [show ((65535 - z : Nat) : Int) = 65535 - (z : Int) by omega] at c3
  have s1 := sigT_signs (n := n) (z := z)
  have s2 := sigT_signs (n := n) (z := 65535 - z)
  have a1 := sigT_all (n := n) (z := z)
  have a2 := sigT_all (n := n) (z := 65535 - z)
  have l1 := sigT_len (n := n) (z := z)
  have l2 := sigT_len (n := n) (z := 65535 - z)
  have sneg := fun v (hv : v < n) => sigT_neg (n := n) (z := z) (by omega) (by omega) hv
  obtain ⟨s, hs⟩ : ∃ s, s = sigT n z := ⟨_, rfl⟩
  obtain ⟨t, ht⟩ : ∃ t, t = sigT n (65535 - z) := ⟨_, rfl⟩
  rw [← hs] at c2 s1 a1 l1
  rw [← ht] at c3 s2 a2 l2
  rw [← hs, ← ht] at sneg
  have c4 := Faces_ok hw hn10 s1
  have c5 := Faces_ok hw hn10 s2
  have c6 := Genus_ok hw hn10 s1
  have c7 := Genus_ok hw hn10 s2
  obtain ⟨g0, g1⟩ := genus_ok hw a1 l1
  obtain ⟨g2, g3⟩ := genus_ok hw a2 l2
  have eqF := neg_eq hw a1 l1 a2 l2 sneg
  have H := facesT_FK (next_pn hw a1 l1)
  have flen := faces_le hw a1 l1
  obtain ⟨F, hF⟩ : ∃ F, F = facesT (nextT w s) (2 * n) := ⟨_, rfl⟩
  obtain ⟨F2, hF2⟩ : ∃ F2, F2 = facesT (nextT w t) (2 * n) := ⟨_, rfl⟩
  rw [← hF] at H eqF g1 c4 flen
  rw [← hF2] at eqF g3 c5
  obtain ⟨G, hG⟩ : ∃ G, G = genusT n w s := ⟨_, rfl⟩
  obtain ⟨G2, hG2⟩ : ∃ G2, G2 = genusT n w t := ⟨_, rfl⟩
  rw [← hG] at g0 g1 c6
  rw [← hG2] at g2 g3 c7
  have H1 := fun j q hj hq => H.at (j := j) (q := q) hj hq
  have H2 := fun j hj => H.inc_at (j := j) hj
  have H3 := fun j hj => H.ne_at (j := j) hj
  have H4 := H.len
  have H5 := fun j => flat_len (F := F) (j := j)
  have H6 := fun j hj => flat_take (F := F) (j := j) hj
  clear H hF hF2 hG hG2 hs ht hwe sneg
  have hFl : @List.length (List (Ty.int .i64).T) F ≤ n + 2 := flen
  have hFl2 : @List.length (Ty.sl (.int .i64)).T F2 = @List.length (Ty.sl (.int .i64)).T F := eqF
  have hGG : G2 = G := by omega
  subst hGG
  have hg4 : ∀ k, k = @List.length (Ty.sl (.int .i64)).T F → 2 * G2 = (Int.tdiv (@List.length (Ty.int .i64).T w) 2) + 2 - k := fun k hk => by subst hk; rw [hd]; exact g1
  have hgl : 0 ≤ G2 ∧ G2 ≤ 20 := by omega
  refine FnAt.of_body tys_ok Try.func6 (by rfl) rfl Try.ntmps6 (by rw [Try.results6]) (by simp) ?_
  
  repeat' (first
 | refine W.seq ?_
 | refine W.block ?_
 | (refine W.region tys_ok [5, 6, 7, 21, 26, 32, 8, 10, 33, 36, 37, 39, 42, 43] ?_; conv => whnf)
 | (refine W.drawAll tys_ok [5, 6, 7, 21, 26, 32, 8, 10, 33, 36, 37, 39, 42, 43] mixed rfl ?_; conv => whnf)
 | (refine W.ret ?_; conv => whnf)
 | (refine W.skip ?_; conv => whnf)
 | (refine W.exit ?_; conv => whnf)
 | (refine call_at (al := false) (c1) rfl rfl rfl rfl ?_; conv => whnf)
 | (refine call_at (al := false) (c2) rfl rfl rfl rfl ?_; conv => whnf)
 | (refine call_at (al := false) (c3) rfl rfl rfl rfl ?_; conv => whnf)
 | (refine call_at (al := false) (c4) rfl rfl rfl rfl ?_; conv => whnf)
 | (refine call_at (al := false) (c5) rfl rfl rfl rfl ?_; conv => whnf)
 | (refine call_at (al := false) (c6) rfl rfl rfl rfl ?_; conv => whnf)
 | (refine call_at (al := false) (c7) rfl rfl rfl rfl ?_; conv => whnf)
 | (refine call_at (al := false) (lives_at) rfl rfl rfl rfl ?_; conv => whnf)
 | (refine W.cond rfl (fun hb => ?_) (fun hb => ?_) <;> (try simp only [Int.reduceToNat, Int.reduceTDiv, Int.reduceTMod, minL, maxL, pickB, zHB] at hb) <;> (try (first | (cases hb; done) | exact absurd hb (by decide) | (exfalso; omega))))
 | ((with_reducible refine And.intro ?_ ?_); (focus ((repeat' (first | (with_reducible rfl) | (with_reducible refine And.intro ?_ ?_) | omega | rfl | exact Or.inl rfl | exact Or.inr rfl | exact of_decide_eq_true rfl | exact Path.imp_of (of_decide_eq_true rfl) | (focus ((try simp only [Int.reduceToNat, Int.reduceTDiv, Int.reduceTMod, minL, maxL, pickB, zHB, InK, Path.imp, List.length_replicate, List.length_set, List.length_append, List.length_cons, List.length_nil] at *); omega)) | (refine app_le rfl ?_; omega))); done)); (conv => whnf))
 | ((with_reducible refine And.intro (Side.out ?_) ?_); rotate_left; (conv => whnf))
 | ((first | refine retF1 ?_ | refine retF2 ?_) <;> (conv => whnf) <;> repeat' (first
 | exact trivial
 | (with_reducible rfl)
 | ((with_reducible refine And.intro ?_ ?_) <;> conv => whnf)
 | omega
 | rfl
 | (refine congrArg (SV.arr _) ?_)
 | (refine congrArg (Value.int _) ?_)
 | (refine congrArg Value.bool ?_)))); all_goals (try unfold Side)
  all_goals try (repeat' (first | (with_reducible rfl) | (with_reducible refine And.intro ?_ ?_) | omega | rfl | exact Or.inl rfl | exact Or.inr rfl | exact of_decide_eq_true rfl | exact Path.imp_of (of_decide_eq_true rfl) | (focus ((try simp only [Int.reduceToNat, Int.reduceTDiv, Int.reduceTMod, minL, maxL, pickB, zHB, InK, Path.imp, List.length_replicate, List.length_set, List.length_append, List.length_cons, List.length_nil] at *); omega)) | (refine app_le rfl ?_; omega)))
  have Hin : ∀ j q : Nat, j < F.length → q < (F.getD j []).length → @List.length (Ty.int .i64).T (@List.getD (List (Ty.int .i64).T) F j []) = (F.getD j []).length := fun _ _ _ _ => rfl
  refine W.loop (fun j : Nat => ⟨[(5, .st true (.arr (.int .i64) (w : List Int))), (8, .st true (.arr (.sl (.int .i64)) (F : List (List Int)))), (16, .own 900016), (17, .lit (.int .i64 (j)))], [(900016, .mp .i64 .bool (mpT (F.take j).flatten) (F.take j).flatten.length)]⟩) (fun j => j ≤ F.length) (fun j => F.length - j) (0) ?_ ?_
  · refine ⟨Nat.zero_le _, ?_⟩
    refine subF.ok ?_ <;> (conv => whnf) <;> repeat' (first
 | exact trivial
 | (with_reducible rfl)
 | ((with_reducible refine And.intro ?_ ?_) <;> conv => whnf)
 | omega
 | rfl
 | (refine congrArg (SV.arr _) ?_)
 | (refine congrArg (Value.int _) ?_)
 | (refine congrArg Value.bool ?_))
    all_goals exact mp_nil rfl
  · intro j hj
    by_cases hjl : j < F.length
    · have K1 := fun q hq => H1 j q hjl hq
      have K3 := H3 j hjl
      have K6 := H6 j hjl
      have K5 := H5 (j + 1)
      have K5' := H5 j
      have hfl : (F.getD j []).length ≤ 40 := by rw [K6, List.length_append] at K5; omega
      repeat' (first
 | refine W.seq ?_
 | refine W.block ?_
 | (refine W.region tys_ok [] ?_; conv => whnf)
 | (refine W.drawAll tys_ok [] mixed rfl ?_; conv => whnf)
 | (refine W.ret ?_; conv => whnf)
 | (refine W.skip ?_; conv => whnf)
 | (refine W.exit ?_; conv => whnf)
 | (refine W.cond rfl (fun hb => ?_) (fun hb => ?_) <;> (try simp only [Int.reduceToNat, Int.reduceTDiv, Int.reduceTMod, minL, maxL, pickB, zHB] at hb) <;> (try (first | (cases hb; done) | exact absurd hb (by decide) | (exfalso; omega))))
 | ((with_reducible refine And.intro ?_ ?_); (focus ((repeat' (first | (with_reducible rfl) | (with_reducible refine And.intro ?_ ?_) | omega | rfl | exact Or.inl rfl | exact Or.inr rfl | exact of_decide_eq_true rfl | exact Path.imp_of (of_decide_eq_true rfl) | (focus ((try simp only [Int.reduceToNat, Int.reduceTDiv, Int.reduceTMod, minL, maxL, pickB, zHB, InK, Path.imp, List.length_replicate, List.length_set, List.length_append, List.length_cons, List.length_nil] at *); omega)) | (refine app_le rfl ?_; omega))); done)); (conv => whnf))
 | ((with_reducible refine And.intro (Side.out ?_) ?_); rotate_left; (conv => whnf))
 | ((first | refine retF1 ?_ | refine retF2 ?_) <;> (conv => whnf) <;> repeat' (first
 | exact trivial
 | (with_reducible rfl)
 | ((with_reducible refine And.intro ?_ ?_) <;> conv => whnf)
 | omega
 | rfl
 | (refine congrArg (SV.arr _) ?_)
 | (refine congrArg (Value.int _) ?_)
 | (refine congrArg Value.bool ?_)))); all_goals (try unfold Side)
      all_goals try (repeat' (first | (with_reducible rfl) | (with_reducible refine And.intro ?_ ?_) | omega | rfl | exact Or.inl rfl | exact Or.inr rfl | exact of_decide_eq_true rfl | exact Path.imp_of (of_decide_eq_true rfl) | (focus ((try simp only [Int.reduceToNat, Int.reduceTDiv, Int.reduceTMod, minL, maxL, pickB, zHB, InK, Path.imp, List.length_replicate, List.length_set, List.length_append, List.length_cons, List.length_nil] at *); omega)) | (refine app_le rfl ?_; omega)))
      refine W.loop (fun q : Nat => ⟨[(5, .st true (.arr (.int .i64) (w : List Int))), (8, .st true (.arr (.sl (.int .i64)) (F : List (List Int)))), (16, .own 900016), (17, .lit (.int .i64 (j))), (18, .lit (.int .i64 (q)))], [(900016, .mp .i64 .bool (mpT ((F.take j).flatten ++ (F.getD j []).take q)) ((F.take j).flatten ++ (F.getD j []).take q).length)]⟩) (fun q => q ≤ (F.getD j []).length) (fun q => (F.getD j []).length - q) (0) ?_ ?_
      · refine ⟨Nat.zero_le _, ?_⟩
        refine subF.ok ?_ <;> (conv => whnf) <;> repeat' (first
 | exact trivial
 | (with_reducible rfl)
 | ((with_reducible refine And.intro ?_ ?_) <;> conv => whnf)
 | omega
 | rfl
 | (refine congrArg (SV.arr _) ?_)
 | (refine congrArg (Value.int _) ?_)
 | (refine congrArg Value.bool ?_))
        all_goals exact mp_eq (by simp)
      · intro q hq
        by_cases hql : q < (F.getD j []).length
        · obtain ⟨k1, k2, k3, k4⟩ := K1 q hql
          have hv := mpT_out k3
          have hadd := mp_add k3
          have htk := take_getD' hql
          have hno : (decide ((F.getD j []).getD q 0 < -(@List.length (Ty.int .i64).T w : Int)) || decide ((@List.length (Ty.int .i64).T w : Int) ≤ (F.getD j []).getD q 0) || (mpT ((F.take j).flatten ++ (F.getD j []).take q) ((F.getD j []).getD q 0)).getD false) = false := by rw [hv, decide_eq_false (by omega), decide_eq_false (by omega)]; rfl
          repeat' (first
 | refine W.seq ?_
 | refine W.block ?_
 | (refine W.drawPh (id := 18) tys_ok [] mixed [0, 0, 2, 4, 9, 16, 32, 32, 160, 352, 544, 1056, 2048, 2048, 14336, 18432, 34816, 65536, 65536, 458752, 589824, 1114112, 2162688, 65536, 12648448, 16842752] [([0, 1], 1, 7), ([3, 4, 5, 6, 7], 1, 511), ([9, 10, 11, 12, 13], 1, 32767), ([15, 16, 17, 18, 19, 20, 21, 22, 23, 24, 25], 0, 67108863)] (by decide +kernel) ?_; conv => whnf)
 | (refine W.region tys_ok [] ?_; conv => whnf)
 | (refine W.drawAll tys_ok [] mixed rfl ?_; conv => whnf)
 | (refine W.ret ?_; conv => whnf)
 | (refine W.skip ?_; conv => whnf)
 | (refine W.exit ?_; conv => whnf)
 | (refine Both.mk ?_ ?_ <;> (conv => whnf))
 | (refine W.cond rfl (fun hb => ?_) (fun hb => ?_) <;> (try simp only [Int.reduceToNat, Int.reduceTDiv, Int.reduceTMod, minL, maxL, pickB, zHB] at hb) <;> (try (first | (cases hb; done) | exact absurd hb (by decide) | (exfalso; omega) | (rcases hb with h | h; exact absurd (h.symm.trans hno) (by decide); omega))))
 | ((with_reducible refine And.intro ?_ ?_); (focus ((repeat' (first | (with_reducible rfl) | (with_reducible refine And.intro ?_ ?_) | omega | rfl | exact Or.inl rfl | exact Or.inr rfl | exact of_decide_eq_true rfl | exact Path.imp_of (of_decide_eq_true rfl) | (focus ((try simp only [Int.reduceToNat, Int.reduceTDiv, Int.reduceTMod, minL, maxL, pickB, zHB, InK, Path.imp, List.length_replicate, List.length_set, List.length_append, List.length_cons, List.length_nil] at *); omega)) | (refine app_le rfl ?_; omega))); done)); (conv => whnf))
 | ((with_reducible refine And.intro (Side.out ?_) ?_); rotate_left; (conv => whnf))
 | ((first | refine retF1 ?_ | refine retF2 ?_ | refine subF.leaf ?_ | refine subF.side ?_) <;> (conv => whnf) <;> repeat' (first
 | exact trivial
 | (with_reducible rfl)
 | ((with_reducible refine And.intro ?_ ?_) <;> conv => whnf)
 | omega
 | rfl
 | (refine congrArg (SV.arr _) ?_)
 | (refine congrArg (Value.int _) ?_)
 | (refine congrArg Value.bool ?_)))); all_goals (try unfold Side)
          all_goals try (repeat' (first | (with_reducible rfl) | (with_reducible refine And.intro ?_ ?_) | omega | rfl | exact Or.inl rfl | exact Or.inr rfl | exact of_decide_eq_true rfl | exact Path.imp_of (of_decide_eq_true rfl) | (focus ((try simp only [Int.reduceToNat, Int.reduceTDiv, Int.reduceTMod, minL, maxL, pickB, zHB, InK, Path.imp, List.length_replicate, List.length_set, List.length_append, List.length_cons, List.length_nil] at *); omega)) | (refine app_le rfl ?_; omega)))
          refine ⟨q + 1, ⟨by omega, by omega⟩, ?_⟩
          refine subF.ok ?_ <;> (conv => whnf) <;> repeat' (first
 | exact trivial
 | (with_reducible rfl)
 | ((with_reducible refine And.intro ?_ ?_) <;> conv => whnf)
 | omega
 | rfl
 | (refine congrArg (SV.arr _) ?_)
 | (refine congrArg (Value.int _) ?_)
 | (refine congrArg Value.bool ?_))
          all_goals exact hadd.trans (mp_eq (by rw [htk, List.append_assoc]))
        · have hie : q = (F.getD j []).length := by omega
          subst hie
          have K7 : 0 < j → (F.getD ((j : Int) - 1).toNat []).getD 0 0 < (F.getD j []).getD 0 0 := fun h0 => by
            have h1 := H2 (j - 1) (by omega)
            rw [show j - 1 + 1 = j by omega] at h1
            rw [show ((j : Int) - 1).toNat = j - 1 by omega]
            exact h1
          have K8 : (F.take j).flatten ++ (F.getD j []).take (F.getD j []).length = (F.take (j + 1)).flatten := by rw [K6, List.take_length]
          have K9 : 0 < @List.length (Ty.int .i64).T (F.getD ((j : Int) - 1).toNat (Ty.sl (.int .i64)).dflt) := H3 _ (by omega)
          repeat' (first
 | refine W.seq ?_
 | refine W.block ?_
 | (refine W.drawPh (id := 21) tys_ok [] mixed [0, 0, 3, 4, 8, 16, 32, 64, 192, 320, 512, 512, 2560, 5632, 8704, 16896, 33280, 512, 512, 393728, 524800, 1049088, 2097664, 4260352, 8389184, 16777280] [([0, 1, 2, 3], 1, 31), ([5, 6, 7, 8, 9, 10, 11, 12, 13, 14, 15, 16, 17, 18, 19, 20, 21, 22, 23, 24, 25], 0, 67108863)] (by decide +kernel) ?_; conv => whnf)
 | (refine W.region tys_ok [] ?_; conv => whnf)
 | (refine W.drawAll tys_ok [] mixed rfl ?_; conv => whnf)
 | (refine W.ret ?_; conv => whnf)
 | (refine W.skip ?_; conv => whnf)
 | (refine W.exit ?_; conv => whnf)
 | (refine Both.mk ?_ ?_ <;> (conv => whnf))
 | (refine W.cond rfl (fun hb => ?_) (fun hb => ?_) <;> (try simp only [Int.reduceToNat, Int.reduceTDiv, Int.reduceTMod, minL, maxL, pickB, zHB] at hb) <;> (try (first | (cases hb; done) | exact absurd hb (by decide) | (exfalso; omega) | (rcases hb with h | h; omega; exact absurd h.2 (by have := K7 (by omega); omega)))))
 | ((with_reducible refine And.intro ?_ ?_); (focus ((repeat' (first | (with_reducible rfl) | (with_reducible refine And.intro ?_ ?_) | omega | rfl | exact Or.inl rfl | exact Or.inr rfl | exact of_decide_eq_true rfl | exact Path.imp_of (of_decide_eq_true rfl) | (focus ((try simp only [Int.reduceToNat, Int.reduceTDiv, Int.reduceTMod, minL, maxL, pickB, zHB, InK, Path.imp, List.length_replicate, List.length_set, List.length_append, List.length_cons, List.length_nil] at *); omega)) | (refine app_le rfl ?_; omega))); done)); (conv => whnf))
 | ((with_reducible refine And.intro (Side.out ?_) ?_); rotate_left; (conv => whnf))
 | ((first | refine retF1 ?_ | refine retF2 ?_ | refine subF.leaf ?_ | refine subF.side ?_) <;> (conv => whnf) <;> repeat' (first
 | exact trivial
 | (with_reducible rfl)
 | ((with_reducible refine And.intro ?_ ?_) <;> conv => whnf)
 | omega
 | rfl
 | (refine congrArg (SV.arr _) ?_)
 | (refine congrArg (Value.int _) ?_)
 | (refine congrArg Value.bool ?_)))); all_goals (try unfold Side)
          all_goals try exact Path.imp_of ⟨by decide, K9⟩
          all_goals try (repeat' (first | (with_reducible rfl) | (with_reducible refine And.intro ?_ ?_) | omega | rfl | exact Or.inl rfl | exact Or.inr rfl | exact of_decide_eq_true rfl | exact Path.imp_of (of_decide_eq_true rfl) | (focus ((try simp only [Int.reduceToNat, Int.reduceTDiv, Int.reduceTMod, minL, maxL, pickB, zHB, InK, Path.imp, List.length_replicate, List.length_set, List.length_append, List.length_cons, List.length_nil] at *); omega)) | (refine app_le rfl ?_; omega)))
          refine ⟨j + 1, ⟨by omega, by omega⟩, ?_⟩
          refine subF.ok ?_ <;> (conv => whnf) <;> repeat' (first
 | exact trivial
 | (with_reducible rfl)
 | ((with_reducible refine And.intro ?_ ?_) <;> conv => whnf)
 | omega
 | rfl
 | (refine congrArg (SV.arr _) ?_)
 | (refine congrArg (Value.int _) ?_)
 | (refine congrArg Value.bool ?_))
          all_goals exact mp_eq K8
    · have hie : F.length = j := by omega
      subst hie
      have K10 : ((F.take F.length).flatten.length : Int) = 2 * @List.length (Ty.int .i64).T w := by rw [List.take_length, H4, hl]; omega
      repeat' (first
 | refine W.seq ?_
 | refine W.block ?_
 | (refine W.region tys_ok [] ?_; conv => whnf)
 | (refine W.drawAll tys_ok [] mixed rfl ?_; conv => whnf)
 | (refine W.ret ?_; conv => whnf)
 | (refine W.skip ?_; conv => whnf)
 | (refine W.exit ?_; conv => whnf)
 | (refine W.cond rfl (fun hb => ?_) (fun hb => ?_) <;> (try simp only [Int.reduceToNat, Int.reduceTDiv, Int.reduceTMod, minL, maxL, pickB, zHB] at hb) <;> (try (first | (cases hb; done) | exact absurd hb (by decide) | (exfalso; omega))))
 | ((with_reducible refine And.intro ?_ ?_); (focus ((repeat' (first | (with_reducible rfl) | (with_reducible refine And.intro ?_ ?_) | omega | rfl | exact Or.inl rfl | exact Or.inr rfl | exact of_decide_eq_true rfl | exact Path.imp_of (of_decide_eq_true rfl) | (focus ((try simp only [Int.reduceToNat, Int.reduceTDiv, Int.reduceTMod, minL, maxL, pickB, zHB, InK, Path.imp, List.length_replicate, List.length_set, List.length_append, List.length_cons, List.length_nil] at *); omega)) | (refine app_le rfl ?_; omega))); done)); (conv => whnf))
 | ((with_reducible refine And.intro (Side.out ?_) ?_); rotate_left; (conv => whnf))
 | ((first | refine retF1 ?_ | refine retF2 ?_) <;> (conv => whnf) <;> repeat' (first
 | exact trivial
 | (with_reducible rfl)
 | ((with_reducible refine And.intro ?_ ?_) <;> conv => whnf)
 | omega
 | rfl
 | (refine congrArg (SV.arr _) ?_)
 | (refine congrArg (Value.int _) ?_)
 | (refine congrArg Value.bool ?_)))); all_goals (try unfold Side)
      all_goals try (repeat' (first | (with_reducible rfl) | (with_reducible refine And.intro ?_ ?_) | omega | rfl | exact Or.inl rfl | exact Or.inr rfl | exact of_decide_eq_true rfl | exact Path.imp_of (of_decide_eq_true rfl) | (focus ((try simp only [Int.reduceToNat, Int.reduceTDiv, Int.reduceTMod, minL, maxL, pickB, zHB, InK, Path.imp, List.length_replicate, List.length_set, List.length_append, List.length_cons, List.length_nil] at *); omega)) | (refine app_le rfl ?_; omega)))
      all_goals exact (decide_eq_true K10).symm
theorem small_wf {x : List (Int × Int × Unit)} (h : (Ty.sl U2).wf x) : small x := fun i => by
  have h2 : ∀ y ∈ x, U2.wf y := h.2
  by_cases hi : i < x.length
  · have hm : x.getD i (0, 0, ()) ∈ x := by
      have : x.getD i (0, 0, ()) = x[i] := by simp [List.getD, hi]
      rw [this]; exact List.getElem_mem hi
    have h3 := h2 _ hm
    have a := wf_u8 h3.1
    have b := wf_u8 h3.2.1
    exact ⟨a.1, a.2, b.1, b.2⟩
  · have : x.getD i (0, 0, ()) = (0, 0, ()) := by simp [List.getD, List.getElem?_eq_none (Nat.le_of_not_lt hi)]
    rw [this]; simp
end Go.Proofs.Ytdfajcfkdfjoeaa
namespace Go.Scr
set_option linter.unusedVariables false
set_option linter.unusedSimpArgs false
set_option linter.unusedSectionVars false
theorem leastK_in {n : Nat} {w : List Int} (hn : 1 ≤ n) : ∀ {k : Nat}, 1 ≤ k → ∃ j, j < k ∧ leastK n w k = (genusT n w (sgT n j), sgT n j)
  | k + 1, _ => by
    by_cases h : (leastK n w k).2 = [] ∨ genusT n w (sgT n k) < (leastK n w k).1
    · exact ⟨k, Nat.lt_succ_self k, leastK_yes h⟩
    · rw [leastK_no h]
      have hk : 1 ≤ k := by
        refine Nat.pos_of_ne_zero fun e => ?_
        subst e
        exact h (.inl rfl)
      obtain ⟨j, hj, e⟩ := leastK_in hn hk
      exact ⟨j, by omega, e⟩
theorem leastK_le {n : Nat} {w : List Int} (hn : 1 ≤ n) : ∀ {k j : Nat}, j < k → (leastK n w k).1 ≤ genusT n w (sgT n j)
  | k + 1, j, hj => by
    by_cases h : (leastK n w k).2 = [] ∨ genusT n w (sgT n k) < (leastK n w k).1
    · rw [leastK_yes h]
      by_cases e : j = k
      · subst e; exact Int.le_refl _
      · have hk : 1 ≤ k := by omega
        obtain ⟨i, _, he⟩ := leastK_in (w := w) hn hk
        have h1 := leastK_le (w := w) hn (k := k) (j := j) (by omega)
        rcases h with h | h
        · rw [he] at h
          have := congrArg List.length h
          rw [sgT_len] at this; simp at this; omega
        · exact Int.le_trans (Int.le_of_lt h) h1
    · rw [leastK_no h]
      by_cases e : j = k
      · subst e
        exact Int.not_lt.1 fun hl => h (.inr hl)
      · exact leastK_le hn (by omega)
theorem leastT_in {n : Nat} {w : List Int} (hn : 1 ≤ n) : ∃ j, j < 2 ^ n ∧ leastT n w = (genusT n w (sgT n j), sgT n j) := leastK_in hn Nat.one_le_two_pow
theorem leastT_le {n : Nat} {w : List Int} (hn : 1 ≤ n) {j : Nat} (hj : j < 2 ^ n) : (leastT n w).1 ≤ genusT n w (sgT n j) := leastK_le hn hj
theorem sgT_of {n : Nat} : ∀ {s : List Int}, s.length = n → s.all (fun x => decide (x = 1) || decide (x = -1)) = true → ∃ j, j < 2 ^ n ∧ s = sgT n j := by
  intro s hl hs
  -- the number whose bits are the signs
  have key : ∀ (m : Nat) (t : List Int), t.length = m → t.all (fun x => decide (x = 1) || decide (x = -1)) = true → ∃ j, j < 2 ^ m ∧ ∀ i, i < m → t.getD i 0 = sgAt m j i := by
    intro m
    induction m with
    | zero => intro t _ _; exact ⟨0, by simp, by omega⟩
    | succ m ih =>
      intro t ht ha
      match t, ht, ha with
      | x :: r, ht, ha =>
        simp only [List.all_cons, Bool.and_eq_true, Bool.or_eq_true, decide_eq_true_eq] at ha
        obtain ⟨j, hj, hi⟩ := ih r (by simpa using ht) ha.2
        have tail : ∀ c, ∀ i, i < m → sgAt (m + 1) (2 ^ m * c + j) (i + 1) = sgAt m j i := fun c i him => by
          unfold sgAt bitT
          rw [show m + 1 - 1 - (i + 1) = m - 1 - i by omega]
          obtain ⟨b, hb⟩ : ∃ b, m = (m - 1 - i) + (b + 1) := ⟨i, by omega⟩
          have e : 2 ^ m * c = 2 ^ (m - 1 - i) * (2 * (2 ^ b * c)) := by
            conv => lhs; rw [hb]
            rw [Nat.pow_add, Nat.pow_succ, Nat.mul_assoc, Nat.mul_comm (2 ^ b) 2, Nat.mul_assoc]
          rw [e, Nat.mul_add_div (Nat.two_pow_pos _)]
          have : ∀ a b : Nat, (2 * a + b) % 2 = b % 2 := fun a b => by omega
          rw [this]
        have head : ∀ c, c ≤ 1 → bitT (2 ^ m * c + j) m = c := fun c hc => by
          unfold bitT
          rw [Nat.mul_add_div (Nat.two_pow_pos _), Nat.div_eq_of_lt hj]; omega
        rcases ha.1 with hx | hx
        · refine ⟨2 ^ m * 0 + j, by rw [Nat.pow_succ]; omega, fun i hi' => ?_⟩
          match i with
          | 0 => 
            show x = sgAt (m + 1) _ 0
            unfold sgAt
            rw [show m + 1 - 1 - 0 = m by omega, head 0 (by omega), hx]; rfl
          | i + 1 => rw [tail 0 i (by omega)]; exact hi i (by omega)
        · refine ⟨2 ^ m * 1 + j, by rw [Nat.pow_succ]; omega, fun i hi' => ?_⟩
          match i with
          | 0 =>
            show x = sgAt (m + 1) _ 0
            unfold sgAt
            rw [show m + 1 - 1 - 0 = m by omega, head 1 (by omega), hx]; rfl
          | i + 1 => rw [tail 1 i (by omega)]; exact hi i (by omega)
  obtain ⟨j, hj, hi⟩ := key n s hl hs
  refine ⟨j, hj, ?_⟩
  refine List.ext_getElem (by rw [sgT_len]; exact hl) fun i h1 h2 => ?_
  have h3 := hi i (by omega)
  have h4 := sgT_get (n := n) (k := j) (i := i) (by omega)
  simp only [List.getD_eq_getElem?_getD, List.getElem?_eq_getElem h1, List.getElem?_eq_getElem h2, Option.getD_some] at h3 h4
  rw [h3, h4]
theorem leastT_min {n : Nat} {w s : List Int} (hn : 1 ≤ n) (hl : s.length = n) (hs : s.all (fun x => decide (x = 1) || decide (x = -1)) = true) : (leastT n w).1 ≤ genusT n w s := by
  obtain ⟨j, hj, e⟩ := sgT_of hl hs
  rw [e]; exact leastT_le hn hj
end Go.Scr
namespace Go.Scr
set_option linter.unusedVariables false
set_option linter.unusedSimpArgs false
set_option linter.unusedSectionVars false
def sgOk (s : List Int) (n : Nat) : Prop := s.all (fun x => decide (x = 1) || decide (x = -1)) = true ∧ s.length = n
structure Iso (nx nx' : Int → Int) (m : Nat) (φ ψ : Int → Int) : Prop where
  pn : Pn nx m
  pn' : Pn nx' m
  φr : ∀ x, -(m : Int) ≤ x → x < m → -(m : Int) ≤ φ x ∧ φ x < m
  ψφ : ∀ x, -(m : Int) ≤ x → x < m → ψ (φ x) = x
  ψr : ∀ x, -(m : Int) ≤ x → x < m → -(m : Int) ≤ ψ x ∧ ψ x < m
  φψ : ∀ x, -(m : Int) ≤ x → x < m → φ (ψ x) = x
  st : ∀ x, -(m : Int) ≤ x → x < m → nx' (φ x) = φ (nx x)
theorem Iso.le {nx nx' : Int → Int} {m : Nat} {φ ψ : Int → Int} (h : Iso nx nx' m φ ψ) : (facesT nx m).length ≤ (facesT nx' m).length :=
  faces_map h.pn' h.pn (φ := φ) h.φr fun D hD => ⟨fun y => D (ψ y), fun y h0 h1 => by
    have r := h.ψr y h0 h1
    have r2 := h.pn.rg _ r.1 r.2
    have := h.st _ r.1 r.2
    rw [h.φψ y h0 h1] at this
    show D (ψ y) = D (ψ (nx' y))
    rw [this, h.ψφ _ r2.1 r2.2]; exact hD _ r.1 r.2, fun x h0 h1 => by show D (ψ (φ x)) = D x; rw [h.ψφ x h0 h1]⟩
theorem Iso.symm {nx nx' : Int → Int} {m : Nat} {φ ψ : Int → Int} (h : Iso nx nx' m φ ψ) : Iso nx' nx m ψ φ :=
  ⟨h.pn', h.pn, h.ψr, h.φψ, h.φr, h.ψφ, fun y h0 h1 => by
    have r := h.ψr y h0 h1
    have r2 := h.pn.rg _ r.1 r.2
    have := h.st _ r.1 r.2
    rw [h.φψ y h0 h1] at this
    rw [this, h.ψφ _ r2.1 r2.2]⟩
theorem Iso.faces {nx nx' : Int → Int} {m : Nat} {φ ψ : Int → Int} (h : Iso nx nx' m φ ψ) : (facesT nx m).length = (facesT nx' m).length := Nat.le_antisymm h.le h.symm.le
structure Alk (w v : List Int) (n : Nat) : Prop where
  ww : Word w n
  wv : Word v n
  to : ∀ s, sgOk s n → ∃ t, sgOk t n ∧ (facesT (nextT v t) (2 * n)).length = (facesT (nextT w s) (2 * n)).length
  fro : ∀ t, sgOk t n → ∃ s, sgOk s n ∧ (facesT (nextT v t) (2 * n)).length = (facesT (nextT w s) (2 * n)).length
theorem Alk.refl {w : List Int} {n : Nat} (h : Word w n) : Alk w w n := ⟨h, h, fun s hs => ⟨s, hs, rfl⟩, fun s hs => ⟨s, hs, rfl⟩⟩
theorem Alk.trans {w v u : List Int} {n : Nat} (h : Alk w v n) (h' : Alk v u n) : Alk w u n :=
  ⟨h.ww, h'.wv, fun s hs => let ⟨t, ht, e⟩ := h.to s hs; let ⟨r, hr, e'⟩ := h'.to t ht; ⟨r, hr, e'.trans e⟩, fun r hr => let ⟨t, ht, e⟩ := h'.fro r hr; let ⟨s, hs, e'⟩ := h.fro t ht; ⟨s, hs, e.trans e'⟩⟩
theorem Alk.least {w v : List Int} {n : Nat} (h : Alk w v n) : (leastT n v).1 = (leastT n w).1 := by
  have hpos := h.ww.pos
  obtain ⟨i, _, e⟩ := leastT_in (n := n) (w := w) hpos
  obtain ⟨j, _, e'⟩ := leastT_in (n := n) (w := v) hpos
  refine Int.le_antisymm ?_ ?_
  · obtain ⟨t, ht, hf⟩ := h.to _ ⟨sgT_all (n := n) (k := i), sgT_len⟩
    have := leastT_min (w := v) hpos ht.2 ht.1
    rw [e]
    show (leastT n v).1 ≤ genusT n w _
    unfold genusT at this ⊢
    rw [hf] at this; exact this
  · obtain ⟨s, hs, hf⟩ := h.fro _ ⟨sgT_all (n := n) (k := j), sgT_len⟩
    have := leastT_min (w := w) hpos hs.2 hs.1
    rw [e']
    show (leastT n w).1 ≤ genusT n v _
    unfold genusT at this ⊢
    rw [hf]; exact this
theorem Cr.same {w s : List Int} {n x p q p' q' : Nat} (C : Cr w s n x p q) (h1 : w.getD p' 0 = x) (h2 : w.getD q' 0 = x) (hp : p' < q') (hq : q' < 2 * n) : p' = p ∧ q' = q := by
  have a := C.all p' (by omega) h1
  have b := C.all q' hq h2
  have := C.pq
  omega
theorem step_cases {n : Nat} {y : Int} (h0 : -((2 * n : Nat) : Int) ≤ y) (h1 : y < (2 * n : Nat)) : ∃ a, a < 2 * n ∧ (y = (bf n a : Nat) ∨ y = -1 - (a : Int)) := by
  obtain ⟨q0, q1⟩ := atT_lt (m := 2 * n) (st := y) (by omega) h0 h1
  refine ⟨(atT (2 * n) y).toNat, by omega, at_cases (by omega) h0 h1 (by omega)⟩
section
variable {w v s t : List Int} {n : Nat} (hw : Word w n) (hv : Word v n) (hs : sgOk s n) (ht : sgOk t n) {φ : Int → Int}
include hw hv hs ht
theorem iso_st (key : ∀ x, x < n → ∀ p q, Cr w s n x p q → nextT v t (φ (bf n p : Nat)) = φ (nextT w s (bf n p : Nat)) ∧ nextT v t (φ (-1 - (p : Int))) = φ (nextT w s (-1 - (p : Int))) ∧ nextT v t (φ (bf n q : Nat)) = φ (nextT w s (bf n q : Nat)) ∧ nextT v t (φ (-1 - (q : Int))) = φ (nextT w s (-1 - (q : Int)))) :
    ∀ x, -((2 * n : Nat) : Int) ≤ x → x < (2 * n : Nat) → nextT v t (φ x) = φ (nextT w s x) := fun y h0 h1 => by
  obtain ⟨a, ha, hy⟩ := step_cases h0 h1
  have hr := hw.rg a ha
  obtain ⟨p, q, C⟩ := cr_of hw hs.1 hs.2 (x := (w.getD a 0).toNat) (by omega)
  have hk := key _ (by omega) p q C
  rcases C.all a ha (by omega) with rfl | rfl
  · rcases hy with rfl | rfl
    · exact hk.1
    · exact hk.2.1
  · rcases hy with rfl | rfl
    · exact hk.2.2.1
    · exact hk.2.2.2
end
/-! ### Other letters -/
section
variable {w : List Int} {n : Nat} (hw : Word w n) {f g : Nat → Nat} (hf : ∀ x, x < n → f x < n ∧ g (f x) = x) (hg : ∀ x, x < n → g x < n ∧ f (g x) = x)
include hw hf hg
theorem ren_get {i : Nat} (hi : i < 2 * n) : (w.map fun x => (f x.toNat : Int)).getD i 0 = (f (w.getD i 0).toNat : Int) := by
  have := hw.len
  simp only [List.getD_eq_getElem?_getD, List.getElem?_map]
  rw [List.getElem?_eq_getElem (by omega)]; rfl
theorem ren_word : Word (w.map fun x => (f x.toNat : Int)) n := by
  refine count_word (by rw [List.length_map]; exact hw.len) hw.pos fun y hy => ?_
  have h1 := hg y hy
  rw [← word_count hw (g y) h1.1, List.count, List.count, List.countP_map]
  refine List.countP_congr fun x hx => ?_
  obtain ⟨i, hi, rfl⟩ := List.mem_iff_getElem.1 hx
  have hr := hw.rg i (by have := hw.len; omega)
  simp only [List.getD_eq_getElem?_getD, List.getElem?_eq_getElem hi, Option.getD_some] at hr
  simp only [Function.comp, beq_iff_eq]
  constructor
  · intro e
    have h2 := hf w[i].toNat (by omega)
    have h3 : f w[i].toNat = y := by omega
    rw [h3] at h2; omega
  · intro e
    rw [e, Int.toNat_natCast, h1.2]
def renS (s : List Int) (g : Nat → Nat) (n : Nat) : List Int := (List.range n).map fun y => s.getD (g y) 0
theorem renS_ok {s : List Int} (hs : sgOk s n) {g' : Nat → Nat} (h' : ∀ x, x < n → g' x < n) : sgOk (renS s g' n) n ∧ ∀ y, y < n → (renS s g' n).getD y 0 = s.getD (g' y) 0 := by
  refine ⟨⟨?_, by simp [renS]⟩, fun y hy => by simp [renS, List.getD, hy]⟩
  rw [List.all_eq_true]
  intro x hx
  obtain ⟨y, hy, rfl⟩ := List.mem_map.1 hx
  have := h' y (List.mem_range.1 hy)
  exact List.all_eq_true.1 hs.1 _ (mem_getD (by rw [hs.2]; exact this))
theorem ren_iso {s t : List Int} (hs : sgOk s n) (ht : sgOk t n) (he : ∀ x, x < n → t.getD (f x) 0 = s.getD x 0) : Iso (nextT w s) (nextT (w.map fun x => (f x.toNat : Int)) t) (2 * n) (fun x => x) (fun x => x) := by
  have hv := ren_word hw hf hg
  refine ⟨next_pn hw hs.1 hs.2, next_pn hv ht.1 ht.2, fun x a b => ⟨a, b⟩, fun _ _ _ => rfl, fun x a b => ⟨a, b⟩, fun _ _ _ => rfl, iso_st hw hv hs ht fun x hx p q C => ?_⟩
  obtain ⟨p', q', D⟩ := cr_of hv ht.1 ht.2 (x := f x) (hf x hx).1
  have hp := C.pq
  have hq := C.hq
  have e := D.same (p' := p) (q' := q) (by rw [ren_get hw hf hg (by omega), C.wp, Int.toNat_natCast]) (by rw [ren_get hw hf hg hq, C.wq, Int.toNat_natCast]) hp hq
  have hD := D.nx
  rw [← e.1, ← e.2, he x hx] at hD
  rcases C.nx with ⟨a, c1, c2, c3, c4⟩ | ⟨a, c1, c2, c3, c4⟩
  · rcases hD with ⟨_, d1, d2, d3, d4⟩ | ⟨b, _⟩
    · exact ⟨by rw [c1, d1], by rw [c2, d2], by rw [c3, d3], by rw [c4, d4]⟩
    · rw [a] at b; cases b
  · rcases hD with ⟨b, _⟩ | ⟨_, d1, d2, d3, d4⟩
    · rw [a] at b; cases b
    · exact ⟨by rw [c1, d1], by rw [c2, d2], by rw [c3, d3], by rw [c4, d4]⟩
theorem ren_alk : Alk w (w.map fun x => (f x.toNat : Int)) n := by
  refine ⟨hw, ren_word hw hf hg, fun s hs => ?_, fun t ht => ?_⟩
  · obtain ⟨h1, h2⟩ := renS_ok hw hf hg hs (g' := g) fun x hx => (hg x hx).1
    exact ⟨_, h1, ((ren_iso hw hf hg hs h1 fun x hx => by rw [h2 _ (hf x hx).1, (hf x hx).2]).faces).symm⟩
  · obtain ⟨h1, h2⟩ := renS_ok hw hf hg ht (g' := f) fun x hx => (hf x hx).1
    exact ⟨_, h1, ((ren_iso hw hf hg h1 ht fun x hx => by rw [h2 x hx]).faces).symm⟩
end
/-! ### Read backwards -/
section
variable {w : List Int} {n : Nat} (hw : Word w n)
include hw
theorem rev_get {i : Nat} (hi : i < 2 * n) : w.reverse.getD i 0 = w.getD (2 * n - 1 - i) 0 := by
  have := hw.len
  simp only [List.getD_eq_getElem?_getD]
  rw [List.getElem?_reverse (by omega), this]
theorem rev_word : Word w.reverse n := count_word (by rw [List.length_reverse]; exact hw.len) hw.pos fun y hy => by rw [List.count_reverse]; exact word_count hw y hy
def rvE (n e : Nat) : Nat := if e = 2 * n - 1 then 2 * n - 1 else 2 * n - 2 - e
def rvS (n : Nat) (y : Int) : Int := if 0 ≤ y then -1 - (rvE n y.toNat : Nat) else (rvE n (-1 - y).toNat : Nat)
theorem rvS_f {e : Nat} : rvS n (e : Int) = -1 - (rvE n e : Nat) := by unfold rvS; rw [if_pos (by omega), Int.toNat_natCast]
theorem rvS_b {e : Nat} : rvS n (-1 - (e : Int)) = (rvE n e : Nat) := by unfold rvS; rw [if_neg (by omega), show -1 - (-1 - (e : Int)) = e by omega, Int.toNat_natCast]
theorem rvE_lt {e : Nat} (h : e < 2 * n) : rvE n e < 2 * n ∧ rvE n (rvE n e) = e := by
  unfold rvE
  by_cases h1 : e = 2 * n - 1
  · rw [if_pos h1, if_pos rfl]; omega
  · rw [if_neg h1, if_neg (by omega)]; omega
theorem rvE_bf {p : Nat} (h : p < 2 * n) : rvE n (bf n p) = 2 * n - 1 - p ∧ rvE n p = bf n (2 * n - 1 - p) := by
  unfold rvE bf
  by_cases h0 : p = 0
  · rw [if_pos h0, if_pos rfl]
    by_cases h1 : p = 2 * n - 1
    · omega
    · rw [if_neg h1, if_neg (by omega)]; omega
  · rw [if_neg h0, if_neg (by omega)]
    by_cases h1 : p = 2 * n - 1
    · rw [if_pos h1, if_pos (by omega)]; omega
    · rw [if_neg h1, if_neg (by omega)]; omega
def negS (s : List Int) : List Int := s.map fun x => -x
theorem negS_ok {s : List Int} (hs : sgOk s n) : sgOk (negS s) n ∧ ∀ x, x < n → (negS s).getD x 0 = - s.getD x 0 := by
  refine ⟨⟨?_, by rw [negS, List.length_map]; exact hs.2⟩, fun x hx => ?_⟩
  · rw [List.all_eq_true]
    intro x hx
    obtain ⟨y, hy, rfl⟩ := List.mem_map.1 hx
    have := List.all_eq_true.1 hs.1 _ hy
    simp only [Bool.or_eq_true, decide_eq_true_eq] at this ⊢
    omega
  · simp only [negS, List.getD_eq_getElem?_getD, List.getElem?_map]
    rw [List.getElem?_eq_getElem (by rw [hs.2]; exact hx)]; rfl
theorem rev_iso {s t : List Int} (hs : sgOk s n) (ht : sgOk t n) (he : ∀ x, x < n → t.getD x 0 = - s.getD x 0) : Iso (nextT w s) (nextT w.reverse t) (2 * n) (rvS n) (rvS n) := by
  have hv := rev_word hw
  have hpos := hw.pos
  have rg : ∀ x, -((2 * n : Nat) : Int) ≤ x → x < (2 * n : Nat) → (-((2 * n : Nat) : Int) ≤ rvS n x ∧ rvS n x < (2 * n : Nat)) ∧ rvS n (rvS n x) = x := fun x h0 h1 => by
    by_cases hx : 0 ≤ x
    · obtain ⟨b, rfl⟩ : ∃ b : Nat, x = b := ⟨x.toNat, by omega⟩
      have := rvE_lt hw (e := b) (by omega)
      rw [rvS_f hw, rvS_b hw, this.2]; omega
    · obtain ⟨b, rfl⟩ : ∃ b : Nat, x = -1 - (b : Int) := ⟨(-1 - x).toNat, by omega⟩
      have := rvE_lt hw (e := b) (by omega)
      rw [rvS_b hw, rvS_f hw, this.2]; omega
  refine ⟨next_pn hw hs.1 hs.2, next_pn hv ht.1 ht.2, fun x a b => (rg x a b).1, fun x a b => (rg x a b).2, fun x a b => (rg x a b).1, fun x a b => (rg x a b).2, iso_st hw hv hs ht fun x hx p q C => ?_⟩
  obtain ⟨p', q', D⟩ := cr_of hv ht.1 ht.2 (x := x) hx
  have hp := C.pq
  have hq := C.hq
  have e := D.same (p' := 2 * n - 1 - q) (q' := 2 * n - 1 - p) (by rw [rev_get hw (by omega), show 2 * n - 1 - (2 * n - 1 - q) = q by omega]; exact C.wq) (by rw [rev_get hw (by omega), show 2 * n - 1 - (2 * n - 1 - p) = p by omega]; exact C.wp) (by omega) (by omega)
  have hD := D.nx
  rw [← e.1, ← e.2, he x hx] at hD
  have ep := rvE_bf hw (p := p) (by omega)
  have eq := rvE_bf hw (p := q) hq
  have f1 := rvS_f hw (e := bf n p); have f2 := rvS_b hw (e := p); have f3 := rvS_f hw (e := bf n q); have f4 := rvS_b hw (e := q)
  have f5 := rvS_b hw (e := bf n p); have f6 := rvS_f hw (e := p); have f7 := rvS_b hw (e := bf n q); have f8 := rvS_f hw (e := q)
  rw [ep.1] at f1 f5
  rw [ep.2] at f2 f6
  rw [eq.1] at f3 f7
  rw [eq.2] at f4 f8
  rw [f1, f2, f3, f4]
  rcases C.nx with ⟨a, c1, c2, c3, c4⟩ | ⟨a, c1, c2, c3, c4⟩
  · rcases hD with ⟨b, _⟩ | ⟨_, d1, d2, d3, d4⟩
    · rw [a] at b; cases b
    · exact ⟨by rw [c1, d4, f7], by rw [c2, d3, f8], by rw [c3, d2, f6], by rw [c4, d1, f5]⟩
  · rcases hD with ⟨_, d1, d2, d3, d4⟩ | ⟨b, _⟩
    · exact ⟨by rw [c1, d4, f8], by rw [c2, d3, f7], by rw [c3, d2, f5], by rw [c4, d1, f6]⟩
    · rw [a] at b; cases b
theorem rev_alk : Alk w w.reverse n := by
  refine ⟨hw, rev_word hw, fun s hs => ?_, fun t ht => ?_⟩
  · obtain ⟨h1, h2⟩ := negS_ok hw hs
    exact ⟨_, h1, ((rev_iso hw hs h1 h2).faces).symm⟩
  · obtain ⟨h1, h2⟩ := negS_ok hw ht
    exact ⟨_, h1, ((rev_iso hw h1 ht fun x hx => by rw [h2 x hx]; omega).faces).symm⟩
end
/-! ### Begun at the next position -/
section
variable {w : List Int} {n : Nat} (hw : Word w n)
include hw
def rotT (w : List Int) : List Int := w.drop 1 ++ w.take 1
theorem rot_len : (rotT w).length = w.length := by have := hw.len; have := hw.pos; simp [rotT]; omega
theorem rot_get {i : Nat} (hi : i < 2 * n) : (rotT w).getD (bf n i) 0 = w.getD i 0 := by
  have hl := hw.len; have hp := hw.pos
  unfold rotT bf
  by_cases h0 : i = 0
  · subst h0
    rw [if_pos rfl]
    simp only [List.getD_eq_getElem?_getD]
    rw [List.getElem?_append_right (by simp; omega)]
    simp only [List.length_drop, hl, Nat.sub_self]
    rw [List.getElem?_take, if_pos (by omega)]
  · rw [if_neg h0]
    simp only [List.getD_eq_getElem?_getD]
    rw [List.getElem?_append_left (by simp; omega), List.getElem?_drop, show 1 + (i - 1) = i by omega]
theorem rot_word : Word (rotT w) n := count_word (by rw [rot_len hw]; exact hw.len) hw.pos fun y hy => by
  rw [rotT, List.count_append, Nat.add_comm, ← List.count_append, List.take_append_drop]; exact word_count hw y hy
def fwE (n e : Nat) : Nat := if e = 2 * n - 1 then 0 else e + 1
def roS (n : Nat) (y : Int) : Int := if 0 ≤ y then (bf n y.toNat : Nat) else -1 - (bf n (-1 - y).toNat : Nat)
def orS (n : Nat) (y : Int) : Int := if 0 ≤ y then (fwE n y.toNat : Nat) else -1 - (fwE n (-1 - y).toNat : Nat)
theorem roS_f {e : Nat} : roS n (e : Int) = (bf n e : Nat) := by unfold roS; rw [if_pos (by omega), Int.toNat_natCast]
theorem roS_b {e : Nat} : roS n (-1 - (e : Int)) = -1 - (bf n e : Nat) := by unfold roS; rw [if_neg (by omega), show -1 - (-1 - (e : Int)) = e by omega, Int.toNat_natCast]
theorem orS_f {e : Nat} : orS n (e : Int) = (fwE n e : Nat) := by unfold orS; rw [if_pos (by omega), Int.toNat_natCast]
theorem orS_b {e : Nat} : orS n (-1 - (e : Int)) = -1 - (fwE n e : Nat) := by unfold orS; rw [if_neg (by omega), show -1 - (-1 - (e : Int)) = e by omega, Int.toNat_natCast]
theorem fw_bf {e : Nat} (h : e < 2 * n) : fwE n (bf n e) = e ∧ bf n (fwE n e) = e ∧ fwE n e < 2 * n := by
  unfold fwE bf
  by_cases h0 : e = 0
  · rw [if_pos h0, if_pos rfl]
    by_cases h1 : e = 2 * n - 1
    · omega
    · rw [if_neg h1, if_neg (by omega)]; omega
  · rw [if_neg h0, if_neg (by omega)]
    by_cases h1 : e = 2 * n - 1
    · rw [if_pos h1, if_pos rfl]; omega
    · rw [if_neg h1, if_neg (by omega)]; omega
def swS (s : List Int) (z : Nat) : List Int := s.set z (- s.getD z 0)
theorem swS_ok {s : List Int} (hs : sgOk s n) {z : Nat} (hz : z < n) : sgOk (swS s z) n ∧ ∀ x, x < n → (swS s z).getD x 0 = if x = z then - s.getD z 0 else s.getD x 0 := by
  have hsl : z < s.length := by rw [hs.2]; exact hz
  refine ⟨⟨?_, by rw [swS, List.length_set]; exact hs.2⟩, fun x hx => by rw [swS, set_get hsl]⟩
  rw [List.all_eq_true]
  intro x hx
  have hm := List.all_eq_true.1 hs.1 _ (mem_getD hsl)
  rcases List.mem_or_eq_of_mem_set hx with h | h
  · exact List.all_eq_true.1 hs.1 _ h
  · rw [h]
    simp only [Bool.or_eq_true, decide_eq_true_eq] at hm ⊢
    omega
theorem rot_iso {s t : List Int} (hs : sgOk s n) (ht : sgOk t n) (he : ∀ x, x < n → t.getD x 0 = if x = (w.getD 0 0).toNat then - s.getD x 0 else s.getD x 0) : Iso (nextT w s) (nextT (rotT w) t) (2 * n) (roS n) (orS n) := by
  have hv := rot_word hw
  have hpos := hw.pos
  have r1 : ∀ x, -((2 * n : Nat) : Int) ≤ x → x < (2 * n : Nat) → (-((2 * n : Nat) : Int) ≤ roS n x ∧ roS n x < (2 * n : Nat)) ∧ orS n (roS n x) = x := fun x h0 h1 => by
    by_cases hx : 0 ≤ x
    · obtain ⟨b, rfl⟩ : ∃ b : Nat, x = b := ⟨x.toNat, by omega⟩
      have := fw_bf hw (e := b) (by omega)
      have := bf_lt (n := n) (a := b) (by omega)
      rw [roS_f hw, orS_f hw]; omega
    · obtain ⟨b, rfl⟩ : ∃ b : Nat, x = -1 - (b : Int) := ⟨(-1 - x).toNat, by omega⟩
      have := fw_bf hw (e := b) (by omega)
      have := bf_lt (n := n) (a := b) (by omega)
      rw [roS_b hw, orS_b hw]; omega
  have r2 : ∀ x, -((2 * n : Nat) : Int) ≤ x → x < (2 * n : Nat) → (-((2 * n : Nat) : Int) ≤ orS n x ∧ orS n x < (2 * n : Nat)) ∧ roS n (orS n x) = x := fun x h0 h1 => by
    by_cases hx : 0 ≤ x
    · obtain ⟨b, rfl⟩ : ∃ b : Nat, x = b := ⟨x.toNat, by omega⟩
      have := fw_bf hw (e := b) (by omega)
      rw [orS_f hw, roS_f hw]; omega
    · obtain ⟨b, rfl⟩ : ∃ b : Nat, x = -1 - (b : Int) := ⟨(-1 - x).toNat, by omega⟩
      have := fw_bf hw (e := b) (by omega)
      rw [orS_b hw, roS_b hw]; omega
  refine ⟨next_pn hw hs.1 hs.2, next_pn hv ht.1 ht.2, fun x a b => (r1 x a b).1, fun x a b => (r1 x a b).2, fun x a b => (r2 x a b).1, fun x a b => (r2 x a b).2, iso_st hw hv hs ht fun x hx p q C => ?_⟩
  obtain ⟨p', q', D⟩ := cr_of hv ht.1 ht.2 (x := x) hx
  have hp := C.pq
  have hq := C.hq
  have gp := (rot_get hw (i := p) (by omega)).trans C.wp
  have gq := (rot_get hw (i := q) hq).trans C.wq
  have f1 := roS_f hw (e := bf n p); have f2 := roS_b hw (e := p); have f3 := roS_f hw (e := bf n q); have f4 := roS_b hw (e := q)
  have f5 := roS_b hw (e := bf n p); have f6 := roS_f hw (e := p); have f7 := roS_b hw (e := bf n q); have f8 := roS_f hw (e := q)
  rw [f1, f2, f3, f4]
  by_cases h0 : p = 0
  · -- the first letter
    have hz : x = (w.getD 0 0).toNat := by have := C.wp; rw [h0] at this; omega
    have e := D.same (p' := bf n q) (q' := bf n p) gq gp (by unfold bf; rw [if_neg (by omega), if_pos h0]; omega) (bf_lt (by omega))
    have hD := D.nx
    rw [← e.1, ← e.2, he x hx, if_pos hz] at hD
    rcases C.nx with ⟨a, c1, c2, c3, c4⟩ | ⟨a, c1, c2, c3, c4⟩
    · rcases hD with ⟨b, _⟩ | ⟨_, d1, d2, d3, d4⟩
      · rw [a] at b; cases b
      · exact ⟨by rw [c1, d3, f7], by rw [c2, d4, f8], by rw [c3, d1, f6], by rw [c4, d2, f5]⟩
    · rcases hD with ⟨_, d1, d2, d3, d4⟩ | ⟨b, _⟩
      · exact ⟨by rw [c1, d3, f8], by rw [c2, d4, f7], by rw [c3, d1, f5], by rw [c4, d2, f6]⟩
      · rw [a] at b; cases b
  · have hz : ¬ x = (w.getD 0 0).toNat := fun e => by
      have hr := hw.rg 0 (by omega)
      have := C.all 0 (by omega) (by omega)
      omega
    have e := D.same (p' := bf n p) (q' := bf n q) gp gq (by unfold bf; rw [if_neg (by omega), if_neg (by omega)]; omega) (bf_lt (by omega))
    have hD := D.nx
    rw [← e.1, ← e.2, he x hx, if_neg hz] at hD
    rcases C.nx with ⟨a, c1, c2, c3, c4⟩ | ⟨a, c1, c2, c3, c4⟩
    · rcases hD with ⟨_, d1, d2, d3, d4⟩ | ⟨b, _⟩
      · exact ⟨by rw [c1, d1, f7], by rw [c2, d2, f8], by rw [c3, d3, f6], by rw [c4, d4, f5]⟩
      · rw [a] at b; cases b
    · rcases hD with ⟨b, _⟩ | ⟨_, d1, d2, d3, d4⟩
      · rw [a] at b; cases b
      · exact ⟨by rw [c1, d1, f8], by rw [c2, d2, f7], by rw [c3, d3, f5], by rw [c4, d4, f6]⟩
theorem rot_alk : Alk w (rotT w) n := by
  have hz : (w.getD 0 0).toNat < n := by have := hw.rg 0 (by have := hw.pos; omega); omega
  refine ⟨hw, rot_word hw, fun s hs => ?_, fun t ht => ?_⟩
  · obtain ⟨h1, h2⟩ := swS_ok hw hs hz
    exact ⟨_, h1, ((rot_iso hw hs h1 fun x hx => by
      rw [h2 x hx]
      by_cases e : x = (w.getD 0 0).toNat
      · rw [if_pos e, if_pos e, e]
      · rw [if_neg e, if_neg e]).faces).symm⟩
  · obtain ⟨h1, h2⟩ := swS_ok hw ht hz
    exact ⟨_, h1, ((rot_iso hw h1 ht fun x hx => by
      rw [h2 x hx]
      by_cases e : x = (w.getD 0 0).toNat
      · rw [if_pos e, if_pos e, e]; omega
      · rw [if_neg e, if_neg e]).faces).symm⟩
end
end Go.Scr
namespace Go.Scr
set_option linter.unusedVariables false
set_option linter.unusedSimpArgs false
set_option linter.unusedSectionVars false
/-! ### The least word -/
def CanS (w x : List Int) : Prop := ∃ j, j < w.length ∧ (x = namedT (begun w j) ∨ x = namedT (begun w j).reverse)
theorem canS_iff {w x : List Int} (hw : 1 ≤ w.length) : x ∈ namedT w :: bothK w w.length ↔ CanS w x := by
  constructor
  · intro h
    rcases List.mem_cons.1 h with rfl | h
    · exact ⟨0, by omega, .inl (by rw [begun_zero])⟩
    · simp only [bothK, List.mem_flatten, List.mem_map, List.mem_range] at h
      obtain ⟨_, ⟨j, hj, rfl⟩, hx⟩ := h
      exact ⟨j, hj, by simpa using hx⟩
  · rintro ⟨j, hj, h⟩
    refine List.mem_cons_of_mem _ ?_
    simp only [bothK, List.mem_flatten, List.mem_map, List.mem_range]
    exact ⟨_, ⟨j, hj, rfl⟩, by simpa using h⟩
theorem canon_eq {w v : List Int} (hw : 1 ≤ w.length) (hv : 1 ≤ v.length) (h : ∀ x, CanS w x ↔ CanS v x) : canonT w = canonT v :=
  bestL_eq (fun x hx => (canS_iff hv).2 ((h x).1 ((canS_iff hw).1 hx))) fun x hx => (canS_iff hw).2 ((h x).2 ((canS_iff hv).1 hx))
theorem canon_mem {w : List Int} (hw : 1 ≤ w.length) : CanS w (canonT w) := (canS_iff hw).1 bestL_mem
theorem begun_rot {w : List Int} {j : Nat} (h : j + 1 ≤ w.length) : begun (rotT w) j = begun w (j + 1) := by
  unfold begun rotT
  rw [List.drop_append_of_le_length (by simp; omega), List.take_append_of_le_length (by simp; omega), List.drop_drop, List.append_assoc, Nat.add_comm 1 j]
  congr 1
  rw [Nat.add_comm j 1, List.take_add]
theorem canS_rot {w x : List Int} (hw : 1 ≤ w.length) : CanS (rotT w) x ↔ CanS w x := by
  have hl : (rotT w).length = w.length := by simp [rotT]; omega
  constructor
  · rintro ⟨j, hj, h⟩
    rw [hl] at hj
    rw [begun_rot (by omega)] at h
    by_cases e : j + 1 = w.length
    · rw [e, begun_all, ← begun_zero (w := w)] at h
      exact ⟨0, by omega, h⟩
    · exact ⟨j + 1, by omega, h⟩
  · rintro ⟨j, hj, h⟩
    by_cases e : j = 0
    · subst e
      refine ⟨w.length - 1, by omega, ?_⟩
      rw [begun_rot (by omega), show w.length - 1 + 1 = w.length by omega, begun_all]
      rw [begun_zero] at h; exact h
    · refine ⟨j - 1, by omega, ?_⟩
      rw [begun_rot (by omega), show j - 1 + 1 = j by omega]; exact h
theorem canS_rev {w x : List Int} (hw : 1 ≤ w.length) : CanS w.reverse x ↔ CanS w x := by
  have key : ∀ (u : List Int), 1 ≤ u.length → CanS u.reverse x → CanS u x := fun u hu ⟨j, hj, h⟩ => by
    rw [List.length_reverse] at hj
    by_cases e : j = 0
    · subst e
      rw [begun_zero, List.reverse_reverse] at h
      exact ⟨0, by omega, by rw [begun_zero]; exact h.symm⟩
    · have hb := begun_rev (w := u) (i := u.length - j) (by omega)
      rw [show u.length - (u.length - j) = j by omega] at hb
      rw [← hb, List.reverse_reverse] at h
      exact ⟨u.length - j, by omega, h.symm⟩
  refine ⟨key w hw, fun h => key w.reverse (by rw [List.length_reverse]; exact hw) (by rw [List.reverse_reverse]; exact h)⟩
/-! ### Renamed words -/
theorem nmI_map {F : Int → Int} {x : Int} : ∀ {l : List Int}, (∀ y ∈ l, F y = F x → y = x) → nmI (F x) (l.map F) = nmI x l
  | [], _ => rfl
  | y :: l, h => by
    rw [List.map_cons, nmI, nmI]
    by_cases e : y = x
    · subst e; rw [if_pos rfl, if_pos rfl]
    · rw [if_neg (fun e2 => e (h y (by simp) e2)), if_neg e, nmI_map fun z hz => h z (by simp [hz])]
theorem names_sub {w : List Int} : ∀ {i : Nat}, i ≤ w.length → ∀ x ∈ namesK w i, x ∈ w
  | 0, _, x, hx => by simp [namesK] at hx
  | i + 1, hi, x, hx => by
    by_cases h : w.getD i 0 ∈ namesK w i
    · rw [namesK_in h] at hx; exact names_sub (by omega) x hx
    · rw [namesK_out h] at hx
      rcases List.mem_append.1 hx with hx | hx
      · exact names_sub (by omega) x hx
      · simp at hx
        rw [hx]
        have : w[i]?.getD 0 = w[i] := by rw [List.getElem?_eq_getElem (by omega)]; rfl
        rw [this]; exact List.getElem_mem _
theorem map_getD {F : Int → Int} {w : List Int} {i : Nat} (h : i < w.length) : (w.map F).getD i 0 = F (w.getD i 0) := by
  simp only [List.getD_eq_getElem?_getD, List.getElem?_map]
  rw [List.getElem?_eq_getElem h]; rfl
theorem getD_in {w : List Int} {i : Nat} (h : i < w.length) : w.getD i 0 ∈ w := by
  rw [List.getD_eq_getElem?_getD, List.getElem?_eq_getElem h]; exact List.getElem_mem h
theorem named_map {F : Int → Int} {w : List Int} (hF : ∀ x ∈ w, ∀ y ∈ w, F y = F x → y = x) : namedT (w.map F) = namedT w := by
  have key : ∀ i, i ≤ w.length → namesK (w.map F) i = (namesK w i).map F ∧ namedK (w.map F) i = namedK w i := by
    intro i
    induction i with
    | zero => intro _; exact ⟨rfl, rfl⟩
    | succ i ih =>
      intro hi
      obtain ⟨h1, h2⟩ := ih (by omega)
      have hx := map_getD (F := F) (w := w) (i := i) (by omega)
      have hm := getD_in (w := w) (i := i) (by omega)
      have hsub := names_sub (w := w) (i := i) (by omega)
      have hn := nmI_map (F := F) (x := w.getD i 0) (l := namesK w i) fun y hy => hF _ hm _ (hsub y hy)
      have hiff : F (w.getD i 0) ∈ (namesK w i).map F ↔ w.getD i 0 ∈ namesK w i := by
        constructor
        · intro h
          obtain ⟨y, hy, e⟩ := List.mem_map.1 h
          rw [← hF _ hm _ (hsub y hy) e]; exact hy
        · exact fun h => List.mem_map_of_mem h
      refine ⟨?_, ?_⟩
      · by_cases h : w.getD i 0 ∈ namesK w i
        · rw [namesK_in h, namesK_in (w := w.map F) (by rw [hx, h1]; exact hiff.2 h), h1]
        · rw [namesK_out h, namesK_out (w := w.map F) (by rw [hx, h1]; exact fun q => h (hiff.1 q)), h1, hx, List.map_append]; rfl
      · rw [namedK_in, namedK_in, h2, hx, h1, hn]
  unfold namedT
  rw [List.length_map]
  exact (key _ (Nat.le_refl _)).2
theorem begun_map {F : Int → Int} {w : List Int} {j : Nat} : begun (w.map F) j = (begun w j).map F := by
  unfold begun; rw [List.map_append, List.map_drop, List.map_take]
theorem begun_in {w : List Int} {j : Nat} {x : Int} : x ∈ begun w j ↔ x ∈ w := by
  unfold begun
  rw [List.mem_append, or_comm, ← List.mem_append, List.take_append_drop]
theorem canS_map {F : Int → Int} {w x : List Int} (hF : ∀ x ∈ w, ∀ y ∈ w, F y = F x → y = x) : CanS (w.map F) x ↔ CanS w x := by
  have e : ∀ j, namedT (begun (w.map F) j) = namedT (begun w j) ∧ namedT (begun (w.map F) j).reverse = namedT (begun w j).reverse := fun j => by
    rw [begun_map, ← List.map_reverse]
    exact ⟨named_map fun x hx y hy => hF x (begun_in.1 hx) y (begun_in.1 hy), named_map fun x hx y hy => hF x (begun_in.1 (List.mem_reverse.1 hx)) y (begun_in.1 (List.mem_reverse.1 hy))⟩
  unfold CanS
  rw [List.length_map]
  constructor
  · rintro ⟨j, hj, h⟩; rw [(e j).1, (e j).2] at h; exact ⟨j, hj, h⟩
  · rintro ⟨j, hj, h⟩; exact ⟨j, hj, by rw [(e j).1, (e j).2]; exact h⟩
structure Nms (w : List Int) (n : Nat) (l : List Int) : Prop where
  nd : l.Nodup
  mem : ∀ x : Int, x ∈ l ↔ 0 ≤ x ∧ x < n
theorem names_nd {w : List Int} : ∀ {i : Nat}, (namesK w i).Nodup
  | 0 => by simp [namesK]
  | i + 1 => by
    by_cases h : w.getD i 0 ∈ namesK w i
    · rw [namesK_in h]; exact names_nd
    · rw [namesK_out h, List.nodup_append]
      refine ⟨names_nd, by simp, fun a ha b hb => ?_⟩
      simp only [List.mem_singleton] at hb
      rw [hb]
      rintro rfl; exact h ha
theorem names_grow {w : List Int} {i : Nat} : ∀ {j : Nat}, i ≤ j → ∃ r, namesK w j = namesK w i ++ r
  | 0, h => by
    have : i = 0 := by omega
    subst this; exact ⟨[], by simp⟩
  | j + 1, h => by
    by_cases e : i = j + 1
    · subst e; exact ⟨[], by simp⟩
    · obtain ⟨r, hr⟩ := names_grow (w := w) (i := i) (j := j) (by omega)
      by_cases h : w.getD j 0 ∈ namesK w j
      · exact ⟨r, by rw [namesK_in h, hr]⟩
      · exact ⟨r ++ [w.getD j 0], by rw [namesK_out h, hr, List.append_assoc]⟩
theorem names_has {w : List Int} {i : Nat} : w.getD i 0 ∈ namesK w (i + 1) := by
  by_cases h : w.getD i 0 ∈ namesK w i
  · rw [namesK_in h]; exact h
  · rw [namesK_out h]; simp
theorem names_all {w : List Int} {i j : Nat} (h : i < j) : w.getD i 0 ∈ namesK w j := by
  obtain ⟨r, hr⟩ := names_grow (w := w) (i := i + 1) (j := j) (by omega)
  rw [hr]; exact List.mem_append.2 (.inl names_has)
theorem nms_of {w : List Int} {n : Nat} (h : Word w n) : Nms w n (namesK w w.length) := by
  have hl := h.len
  refine ⟨names_nd, fun x => ⟨fun hx => ?_, fun hx => ?_⟩⟩
  · obtain ⟨i, hi, e⟩ := List.mem_iff_getElem.1 (names_sub (Nat.le_refl _) x hx)
    have := h.rg i (by omega)
    simp only [List.getD_eq_getElem?_getD, List.getElem?_eq_getElem hi, Option.getD_some] at this
    omega
  · obtain ⟨p, q, hpq, hq, _, hp, _⟩ := h.places (v := x.toNat) (by omega)
    have := names_all (w := w) (i := p) (j := w.length) (by omega)
    rw [hp] at this
    rw [Int.toNat_of_nonneg hx.1] at this; exact this
theorem nmI_at {x : Int} : ∀ {l : List Int} {k : Nat}, l.Nodup → k < l.length → l.getD k 0 = x → nmI x l = k
  | y :: l, 0, _, _, e => by
    have : y = x := by simpa using e
    rw [nmI, if_pos this]
  | y :: l, k + 1, hn, hk, e => by
    have e' : l.getD k 0 = x := by simpa using e
    have hkl : k < l.length := by simpa using hk
    have : y ≠ x := by
      rintro rfl
      have := getD_in hkl
      rw [e'] at this
      exact (List.nodup_cons.1 hn).1 this
    rw [nmI, if_neg this, nmI_at (List.nodup_cons.1 hn).2 hkl e']
theorem named_eq {w : List Int} : ∀ {i : Nat}, i ≤ w.length → namedK w i = (w.take i).map fun x => (nmI x (namesK w w.length) : Int)
  | 0, _ => by simp [namedK]
  | i + 1, hi => by
    have ht : w.take (i + 1) = w.take i ++ [w.getD i 0] := by rw [List.take_add_one]; simp [List.getD, show i < w.length by omega]
    rw [namedK_in, named_eq (by omega), ht, List.map_append]
    congr 1
    obtain ⟨r, hr⟩ := names_grow (w := w) (i := i + 1) (j := w.length) hi
    have : nmI (w.getD i 0) (namesK w w.length) = nmI (w.getD i 0) (namesK w i) := by
      rw [hr, nmI_app names_has]
      by_cases h : w.getD i 0 ∈ namesK w i
      · rw [namesK_in h]
      · rw [namesK_out h, nmI_not h, nmI_end h]; simp [nmI]
    rw [← this]; rfl
theorem named_ren {w : List Int} {n : Nat} (h : Word w n) : ∃ f g : Nat → Nat, (∀ x, x < n → f x < n ∧ g (f x) = x) ∧ (∀ x, x < n → g x < n ∧ f (g x) = x) ∧ namedT w = w.map fun x => (f x.toNat : Int) := by
  have hN := nms_of h
  have hl := h.len
  have hnm := named_eq (w := w) (Nat.le_refl w.length)
  rw [List.take_length] at hnm
  obtain ⟨l, hL⟩ : ∃ l, l = namesK w w.length := ⟨_, rfl⟩
  rw [← hL] at hN hnm
  have hll : l.length = n := by
    have a := nodup_sub hN.nd (l' := (List.range n).map fun k : Nat => (k : Int)) fun x hx => by
      have := (hN.mem x).1 hx
      exact List.mem_map.2 ⟨x.toNat, List.mem_range.2 (by omega), by omega⟩
    have b := nodup_sub (l := (List.range n).map fun k : Nat => (k : Int)) (l' := l) (by
      rw [List.nodup_iff_pairwise_ne, List.pairwise_map]
      exact List.Pairwise.imp (fun hab => by omega) (List.nodup_iff_pairwise_ne.1 List.nodup_range)) fun x hx => by
      obtain ⟨k, hk, rfl⟩ := List.mem_map.1 hx
      have := List.mem_range.1 hk
      exact (hN.mem _).2 ⟨by omega, by omega⟩
    simp at a b; omega
  refine ⟨fun x => nmI (x : Int) l, fun y => (l.getD y 0).toNat, fun x hx => ?_, fun y hy => ?_, ?_⟩
  · have hm := (hN.mem (x : Int)).2 ⟨by omega, by omega⟩
    have := nmI_lt.1 hm
    exact ⟨by show nmI (x : Int) l < n; omega, by show (l.getD (nmI (x : Int) l) 0).toNat = x; rw [nmI_get hm]; exact Int.toNat_natCast x⟩
  · have hm := (hN.mem _).1 (getD_in (w := l) (i := y) (by omega))
    refine ⟨by show (l.getD y 0).toNat < n; omega, ?_⟩
    show nmI (((l.getD y 0).toNat : Nat) : Int) l = y
    rw [Int.toNat_of_nonneg hm.1]
    exact nmI_at hN.nd (by omega) rfl
  · show namedK w w.length = _
    rw [hnm]
    refine List.map_congr_left fun x hx => ?_
    obtain ⟨i, hi, e⟩ := List.mem_iff_getElem.1 hx
    have := h.rg i (by omega)
    simp only [List.getD_eq_getElem?_getD, List.getElem?_eq_getElem hi, Option.getD_some] at this
    show (nmI x l : Int) = (nmI ((x.toNat : Nat) : Int) l : Nat)
    rw [Int.toNat_of_nonneg (by omega)]
theorem ren_inj {w : List Int} {n : Nat} (h : Word w n) {f g : Nat → Nat} (hf : ∀ x, x < n → f x < n ∧ g (f x) = x) : ∀ x ∈ w, ∀ y ∈ w, ((f y.toNat : Nat) : Int) = (f x.toNat : Nat) → y = x := fun x hx y hy e => by
  have hl := h.len
  have rg : ∀ x ∈ w, 0 ≤ x ∧ x < n := fun x hx => by
    obtain ⟨i, hi, e⟩ := List.mem_iff_getElem.1 hx
    have := h.rg i (by omega)
    simp only [List.getD_eq_getElem?_getD, List.getElem?_eq_getElem hi, Option.getD_some] at this
    omega
  have r1 := rg x hx; have r2 := rg y hy
  have h1 := hf x.toNat (by omega); have h2 := hf y.toNat (by omega)
  have : f y.toNat = f x.toNat := by omega
  rw [this, h1.2] at h2
  omega
/-! ### What is alike -/
structure Like (w v : List Int) (n : Nat) : Prop where
  alk : Alk w v n
  can : canonT v = canonT w
theorem like_refl {w : List Int} {n : Nat} (h : Word w n) : Like w w n := ⟨Alk.refl h, rfl⟩
theorem Like.trans {w v u : List Int} {n : Nat} (h : Like w v n) (h' : Like v u n) : Like w u n := ⟨h.alk.trans h'.alk, h'.can.trans h.can⟩
theorem word_pos {w : List Int} {n : Nat} (h : Word w n) : 1 ≤ w.length := by have := h.len; have := h.pos; omega
theorem like_rot {w : List Int} {n : Nat} (h : Word w n) : Like w (rotT w) n :=
  ⟨rot_alk h, canon_eq (by rw [rot_len h]; exact word_pos h) (word_pos h) fun x => canS_rot (word_pos h)⟩
theorem like_rev {w : List Int} {n : Nat} (h : Word w n) : Like w w.reverse n :=
  ⟨rev_alk h, canon_eq (by rw [List.length_reverse]; exact word_pos h) (word_pos h) fun x => canS_rev (word_pos h)⟩
theorem like_ren {w : List Int} {n : Nat} (h : Word w n) {f g : Nat → Nat} (hf : ∀ x, x < n → f x < n ∧ g (f x) = x) (hg : ∀ x, x < n → g x < n ∧ f (g x) = x) : Like w (w.map fun x => (f x.toNat : Int)) n :=
  ⟨ren_alk h hf hg, canon_eq (by rw [List.length_map]; exact word_pos h) (word_pos h) fun x => canS_map (ren_inj h hf)⟩
theorem begun_succ {w : List Int} {i : Nat} (h : i + 1 ≤ w.length) : begun w (i + 1) = rotT (begun w i) := by
  have hd : w.drop i = w[i] :: w.drop (i + 1) := List.drop_eq_getElem_cons (by omega)
  unfold rotT begun
  rw [hd, List.cons_append]
  simp only [List.drop_succ_cons, List.drop_zero, List.take_succ_cons, List.take_zero]
  rw [List.take_add_one, List.getElem?_eq_getElem (by omega), List.append_assoc]; rfl
theorem like_begun {w : List Int} {n : Nat} (h : Word w n) : ∀ {i : Nat}, i ≤ w.length → Like w (begun w i) n
  | 0, _ => by rw [begun_zero]; exact like_refl h
  | i + 1, hi => by
    have ih := like_begun h (i := i) (by omega)
    rw [begun_succ hi]
    exact ih.trans (like_rot ih.alk.wv)
theorem like_named {w : List Int} {n : Nat} (h : Word w n) : Like w (namedT w) n := by
  obtain ⟨f, g, hf, hg, e⟩ := named_ren h
  rw [e]; exact like_ren h hf hg
theorem like_canon {w : List Int} {n : Nat} (h : Word w n) : Like w (canonT w) n := by
  obtain ⟨j, hj, e | e⟩ := canon_mem (word_pos h)
  · rw [e]
    have := like_begun h (i := j) (by omega)
    exact this.trans (like_named this.alk.wv)
  · rw [e]
    have := like_begun h (i := j) (by omega)
    have h2 := this.trans (like_rev this.alk.wv)
    exact h2.trans (like_named h2.alk.wv)
end Go.Scr
namespace Go.Scr
set_option linter.unusedVariables false
set_option linter.unusedSimpArgs false
set_option linter.unusedSectionVars false
def altB (p q r s : Nat) : Bool := (decide (p < r) && decide (r < q)) != (decide (p < s) && decide (s < q))
theorem altB_iff {p q r s : Nat} : altB p q r s = true ↔ ¬ ((p < r ∧ r < q) ↔ (p < s ∧ s < q)) := by
  unfold altB
  by_cases h1 : p < r <;> by_cases h2 : r < q <;> by_cases h3 : p < s <;> by_cases h4 : s < q <;> simp [h1, h2, h3, h4]
theorem inter_of {w : List Int} {n : Nat} (h : Word w n) {a b p q r s : Nat} (ha : a < n) (hb : b < n) (hpq : p < q) (hq : q < 2 * n) (hrs : r < s) (hs : s < 2 * n)
    (hp1 : w.getD p 0 = a) (hq1 : w.getD q 0 = a) (hr1 : w.getD r 0 = b) (hs1 : w.getD s 0 = b) : interT w a b = (decide (a ≠ b) && altB p q r s) := by
  obtain ⟨p', q', hpq', hq', hA, hp1', hq1', hallA⟩ := h.places ha
  obtain ⟨r', s', hrs', hs', hB, hr1', hs1', hallB⟩ := h.places hb
  have a1 := hallA p (by omega) hp1
  have a2 := hallA q hq hq1
  have b1 := hallB r (by omega) hr1
  have b2 := hallB s hs hs1
  have e1 : p' = p := by omega
  have e2 : q' = q := by omega
  have e3 : r' = r := by omega
  have e4 : s' = s := by omega
  subst e1 e2 e3 e4
  rw [inter_places h ha hb hA hB hpq' hq' hrs' hs' hp1' hq1' hr1' hs1' hallB]
  have : decide ((a : Int) ≠ b) = decide (a ≠ b) := by rw [decide_eq_decide]; omega
  rw [this]
  unfold altB
  have k : ∀ i j : Nat, decide ((i : Int) < j) = decide (i < j) := fun i j => by rw [decide_eq_decide]; omega
  rw [k, k, k, k]
section
variable {w : List Int} {n : Nat} (hw : Word w n) {a b : Nat} (ha : a < n) (hb : b < n)
include hw ha hb
theorem inter_rot : interT (rotT w) a b = interT w a b := by
  by_cases e : a = b
  · subst e; rw [inter_self, inter_self]
  · obtain ⟨p, q, hpq, hq, _, hp1, hq1, _⟩ := hw.places ha
    obtain ⟨r, s, hrs, hs, _, hr1, hs1, _⟩ := hw.places hb
    have d1 : p ≠ r := by rintro rfl; omega
    have d2 : p ≠ s := by rintro rfl; omega
    have d3 : q ≠ r := by rintro rfl; omega
    have d4 : q ≠ s := by rintro rfl; omega
    have gp := (rot_get hw (i := p) (by omega)).trans hp1
    have gq := (rot_get hw (i := q) hq).trans hq1
    have gr := (rot_get hw (i := r) (by omega)).trans hr1
    have gs := (rot_get hw (i := s) hs).trans hs1
    have hv := rot_word hw
    have fq : bf n q = q - 1 := by unfold bf; rw [if_neg (by omega)]
    have fs : bf n s = s - 1 := by unfold bf; rw [if_neg (by omega)]
    rw [fq] at gq
    rw [fs] at gs
    rw [inter_of hw ha hb hpq hq hrs hs hp1 hq1 hr1 hs1]
    by_cases h0 : p = 0
    · have fp : bf n p = 2 * n - 1 := by unfold bf; rw [if_pos h0]
      have fr : bf n r = r - 1 := by unfold bf; rw [if_neg (by omega)]
      rw [fp] at gp
      rw [fr] at gr
      rw [inter_of hv ha hb (p := q - 1) (q := 2 * n - 1) (r := r - 1) (s := s - 1) (by omega) (by omega) (by omega) (by omega) gq gp gr gs]
      congr 1
      rw [Bool.eq_iff_iff, altB_iff, altB_iff]; omega
    · have fp : bf n p = p - 1 := by unfold bf; rw [if_neg h0]
      rw [fp] at gp
      by_cases h1 : r = 0
      · have fr : bf n r = 2 * n - 1 := by unfold bf; rw [if_pos h1]
        rw [fr] at gr
        rw [inter_of hv ha hb (p := p - 1) (q := q - 1) (r := s - 1) (s := 2 * n - 1) (by omega) (by omega) (by omega) (by omega) gp gq gs gr]
        congr 1
        rw [Bool.eq_iff_iff, altB_iff, altB_iff]; omega
      · have fr : bf n r = r - 1 := by unfold bf; rw [if_neg h1]
        rw [fr] at gr
        rw [inter_of hv ha hb (p := p - 1) (q := q - 1) (r := r - 1) (s := s - 1) (by omega) (by omega) (by omega) (by omega) gp gq gr gs]
        congr 1
        rw [Bool.eq_iff_iff, altB_iff, altB_iff]; omega
theorem inter_rev : interT w.reverse a b = interT w a b := by
  by_cases e : a = b
  · subst e; rw [inter_self, inter_self]
  · obtain ⟨p, q, hpq, hq, _, hp1, hq1, _⟩ := hw.places ha
    obtain ⟨r, s, hrs, hs, _, hr1, hs1, _⟩ := hw.places hb
    have d1 : p ≠ r := by rintro rfl; omega
    have d2 : p ≠ s := by rintro rfl; omega
    have d3 : q ≠ r := by rintro rfl; omega
    have d4 : q ≠ s := by rintro rfl; omega
    have g : ∀ i, i < 2 * n → w.reverse.getD (2 * n - 1 - i) 0 = w.getD i 0 := fun i hi => by rw [rev_get hw (by omega), show 2 * n - 1 - (2 * n - 1 - i) = i by omega]
    have gp := (g p (by omega)).trans hp1
    have gq := (g q hq).trans hq1
    have gr := (g r (by omega)).trans hr1
    have gs := (g s hs).trans hs1
    rw [inter_of hw ha hb hpq hq hrs hs hp1 hq1 hr1 hs1, inter_of (rev_word hw) ha hb (p := 2 * n - 1 - q) (q := 2 * n - 1 - p) (r := 2 * n - 1 - s) (s := 2 * n - 1 - r) (by omega) (by omega) (by omega) (by omega) gq gp gs gr]
    congr 1
    rw [Bool.eq_iff_iff, altB_iff, altB_iff]; omega
theorem inter_ren {f g : Nat → Nat} (hf : ∀ x, x < n → f x < n ∧ g (f x) = x) (hg : ∀ x, x < n → g x < n ∧ f (g x) = x) : interT (w.map fun x => (f x.toNat : Int)) (f a : Nat) (f b : Nat) = interT w a b := by
  obtain ⟨p, q, hpq, hq, _, hp1, hq1, _⟩ := hw.places ha
  obtain ⟨r, s, hrs, hs, _, hr1, hs1, _⟩ := hw.places hb
  have gg : ∀ i (x : Nat), i < 2 * n → w.getD i 0 = x → (w.map fun x => (f x.toNat : Int)).getD i 0 = (f x : Nat) := fun i x hi h => by rw [ren_get hw hf hg hi, h, Int.toNat_natCast]
  rw [inter_of hw ha hb hpq hq hrs hs hp1 hq1 hr1 hs1, inter_of (ren_word hw hf hg) (hf a ha).1 (hf b hb).1 hpq hq hrs hs (gg p a (by omega) hp1) (gg q a hq hq1) (gg r b (by omega) hr1) (gg s b hs hs1)]
  congr 1
  rw [decide_eq_decide]
  constructor
  · exact fun h e => h (by rw [e])
  · intro h e
    have h1 := (hf a ha).2
    rw [e, (hf b hb).2] at h1
    exact h h1.symm
end
end Go.Scr
namespace Go.Proofs.Ytdfajcfkdfjoeaa
open Go Go.Vc Go.Scr
set_option linter.unusedVariables false
set_option linter.unusedSimpArgs false
/-! ### How many pairs -/
theorem pairsK_congr {w v : List Int} {n : Nat} (h : ∀ a b, a < n → b < n → interT v (a : Nat) (b : Nat) = interT w (a : Nat) (b : Nat)) : pairsK v n n = pairsK w n n := by
  have h1 : ∀ a, a < n → ∀ j, j ≤ n → rowP v a j = rowP w a j := by
    intro a ha j
    induction j with
    | zero => intro _; rfl
    | succ j ih => intro hj; rw [rowP, rowP, ih (by omega), h a j ha (by omega)]
  have h2 : ∀ j, j ≤ n → pairsK v n j = pairsK w n j := by
    intro j
    induction j with
    | zero => intro _; rfl
    | succ j ih => intro hj; rw [pairsK, pairsK, ih (by omega), h1 j (by omega) n (Nat.le_refl _)]
  exact h2 n (Nat.le_refl _)
theorem rowP_nd {w : List Int} {a : Nat} : ∀ {b : Nat}, (rowP w a b).Nodup
  | 0 => by simp [rowP]
  | b + 1 => by
    rw [rowP]
    split
    · rw [List.nodup_append]
      refine ⟨rowP_nd, by simp, fun x hx y hy => ?_⟩
      simp only [List.mem_singleton] at hy
      obtain ⟨c, h1, h2, h3, h4⟩ := rowP_mem.1 hx
      rw [hy, h4]
      intro e
      have : (c : Int) = b := congrArg (fun z : Int × Int × Unit => z.2.1) e
      omega
    · exact rowP_nd
theorem pairsK_nd {w : List Int} {n : Nat} : ∀ {a : Nat}, (pairsK w n a).Nodup
  | 0 => by simp [pairsK]
  | a + 1 => by
    rw [pairsK, List.nodup_append]
    refine ⟨pairsK_nd, rowP_nd, fun x hx y hy => ?_⟩
    obtain ⟨c, e, h1, h2, h3, h4, h5⟩ := pairsK_mem.1 hx
    obtain ⟨g, k1, k2, k3, k4⟩ := rowP_mem.1 hy
    rw [h5, k4]
    intro q
    have : (c : Int) = a := congrArg (fun z : Int × Int × Unit => z.1) q
    omega
theorem pairs_ren_le {w : List Int} {n : Nat} (hw : Word w n) {f g : Nat → Nat} (hf : ∀ x, x < n → f x < n ∧ g (f x) = x) (hg : ∀ x, x < n → g x < n ∧ f (g x) = x) : (pairsK w n n).length ≤ (pairsK (w.map fun x => (f x.toNat : Int)) n n).length := by
  have hinj : ∀ x y, x < n → y < n → f x = f y → x = y := fun x y hx hy e => by
    have := (hf x hx).2
    rw [e, (hf y hy).2] at this; exact this.symm
  obtain ⟨F, hF⟩ : ∃ F : Int × Int × Unit → Int × Int × Unit, F = fun x => if f x.1.toNat < f x.2.1.toNat then ((f x.1.toNat : Int), (f x.2.1.toNat : Int), ()) else ((f x.2.1.toNat : Int), (f x.1.toNat : Int), ()) := ⟨_, rfl⟩
  have h1 : ((pairsK w n n).map F).Nodup := by
    rw [List.nodup_iff_pairwise_ne, List.pairwise_map]
    refine List.Pairwise.imp_of_mem (fun {x y} hx hy hxy => ?_) (List.nodup_iff_pairwise_ne.1 pairsK_nd)
    obtain ⟨a, b, _, hab, hb, _, rfl⟩ := pairsK_mem.1 hx
    obtain ⟨c, e, _, hce, he, _, rfl⟩ := pairsK_mem.1 hy
    rw [hF]
    intro q
    apply hxy
    simp only [Int.toNat_natCast] at q
    have ab : f a ≠ f b := fun h => by have := hinj a b (by omega) hb h; omega
    have key : (f a = f c ∧ f b = f e) ∨ (f a = f e ∧ f b = f c) := by
      split at q <;> split at q <;> (simp only [Prod.mk.injEq] at q; omega)
    rcases key with ⟨k1, k2⟩ | ⟨k1, k2⟩
    · rw [hinj a c (by omega) (by omega) k1, hinj b e hb he k2]
    · have := hinj a e (by omega) he k1
      have := hinj b c hb (by omega) k2
      omega
  have h2 : ∀ x ∈ (pairsK w n n).map F, x ∈ pairsK (w.map fun x => (f x.toNat : Int)) n n := fun x hx => by
    obtain ⟨y, hy, rfl⟩ := List.mem_map.1 hx
    obtain ⟨a, b, _, hab, hb, hi, rfl⟩ := pairsK_mem.1 hy
    have ab : f a ≠ f b := fun h => by have := hinj a b (by omega) hb h; omega
    have i1 := inter_ren hw (a := a) (b := b) (by omega) hb hf hg
    have i2 := inter_ren hw (a := b) (b := a) hb (by omega) hf hg
    rw [inter_symm hw hb (by omega : a < n)] at i2
    rw [hi] at i1 i2
    have fa := (hf a (by omega)).1
    have fb := (hf b hb).1
    rw [hF]
    simp only [Int.toNat_natCast]
    split
    · exact pairsK_mem.2 ⟨f a, f b, fa, by omega, fb, i1, rfl⟩
    · exact pairsK_mem.2 ⟨f b, f a, fb, by omega, fa, i2, rfl⟩
  have := nodup_sub h1 h2
  rw [List.length_map] at this; exact this
theorem pairs_ren {w : List Int} {n : Nat} (hw : Word w n) {f g : Nat → Nat} (hf : ∀ x, x < n → f x < n ∧ g (f x) = x) (hg : ∀ x, x < n → g x < n ∧ f (g x) = x) : (pairsK (w.map fun x => (f x.toNat : Int)) n n).length = (pairsK w n n).length := by
  refine Nat.le_antisymm ?_ (pairs_ren_le hw hf hg)
  have := pairs_ren_le (ren_word hw hf hg) hg hf
  have e : ((w.map fun x => (f x.toNat : Int)).map fun x => (g x.toNat : Int)) = w := by
    rw [List.map_map]
    refine (List.map_congr_left fun x hx => ?_).trans (List.map_id w)
    obtain ⟨i, hi, e⟩ := List.mem_iff_getElem.1 hx
    have hr := hw.rg i (by have := hw.len; omega)
    simp only [List.getD_eq_getElem?_getD, List.getElem?_eq_getElem hi, Option.getD_some] at hr
    show ((g ((f x.toNat : Nat) : Int).toNat : Nat) : Int) = x
    rw [Int.toNat_natCast, (hf x.toNat (by omega)).2]; omega
  rw [e] at this; exact this
theorem pairs_begun {w : List Int} {n : Nat} (hw : Word w n) : ∀ {i : Nat}, i ≤ w.length → pairsK (Go.Scr.begun w i) n n = pairsK w n n
  | 0, _ => by rw [begun_zero]
  | i + 1, hi => by
    have hb := (like_begun hw (i := i) (by omega)).alk.wv
    rw [begun_succ hi, pairsK_congr fun a b ha hb' => inter_rot hb ha hb', pairs_begun hw (by omega)]
/-! ### Letters moved on -/
def movT (n z x : Nat) : Nat := (x + z) % n
theorem mov_eq {n z x : Nat} (hx : x < n) : movT n z x = if x + z % n < n then x + z % n else x + z % n - n := by
  have hz := Nat.mod_lt z (y := n) (by omega)
  unfold movT
  rw [Nat.add_mod, Nat.mod_eq_of_lt hx]
  split
  · rename_i h; exact Nat.mod_eq_of_lt h
  · rw [Nat.mod_eq_sub_mod (by omega), Nat.mod_eq_of_lt (by omega)]
theorem mov_ok {n z : Nat} : ∀ x, x < n → movT n z x < n ∧ movT n (n - z % n) (movT n z x) = x := fun x hx => by
  have hz := Nat.mod_lt z (y := n) (by omega)
  have h1 : movT n z x < n := by rw [mov_eq hx]; split <;> omega
  refine ⟨h1, ?_⟩
  rw [mov_eq h1]
  have h2 : (n - z % n) % n = if z % n = 0 then 0 else n - z % n := by
    split
    · rename_i h; rw [h, Nat.sub_zero, Nat.mod_self]
    · exact Nat.mod_eq_of_lt (by omega)
  rw [h2, mov_eq hx]
  split <;> split <;> split <;> omega
theorem mov_ok' {n z : Nat} : ∀ x, x < n → movT n (n - z % n) x < n ∧ movT n z (movT n (n - z % n) x) = x := fun x hx => by
  have hz := Nat.mod_lt z (y := n) (by omega)
  have h2 : (n - z % n) % n = if z % n = 0 then 0 else n - z % n := by
    split
    · rename_i h; rw [h, Nat.sub_zero, Nat.mod_self]
    · exact Nat.mod_eq_of_lt (by omega)
  have h1 : movT n (n - z % n) x < n := by rw [mov_eq hx, h2]; split <;> split <;> omega
  refine ⟨h1, ?_⟩
  rw [mov_eq h1, mov_eq hx, h2]
  split <;> split <;> split <;> omega
def movK (u : List Int) (n z i : Nat) : List Int := (u.map fun x => (movT n z x.toNat : Int)).take i ++ u.drop i
theorem movK_len {u : List Int} {n z i : Nat} : (movK u n z i).length = u.length := by simp [movK]; omega
theorem movK_step {u : List Int} {n z i : Nat} (h : i < u.length) : (movK u n z i).getD i 0 = u.getD i 0 ∧ (movK u n z i).set i ((movT n z (u.getD i 0).toNat : Nat) : Int) = movK u n z (i + 1) := by
  have hm : (u.map fun x => (movT n z x.toNat : Int)).getD i 0 = ((movT n z (u.getD i 0).toNat : Nat) : Int) := map_getD h
  refine ⟨?_, ?_⟩
  · unfold movK
    simp only [List.getD_eq_getElem?_getD]
    rw [List.getElem?_append_right (by simp; omega)]
    simp only [List.length_take, List.length_map, Nat.min_eq_left (Nat.le_of_lt h), Nat.sub_self, List.getElem?_drop, Nat.add_zero]
  · refine ext_getD 0 (by rw [List.length_set, movK_len, movK_len]) fun j hj => ?_
    rw [List.length_set, movK_len] at hj
    rw [set_get (by rw [movK_len]; exact h)]
    have g : ∀ k, (movK u n z k).getD j 0 = if j < k then (u.map fun x => (movT n z x.toNat : Int)).getD j 0 else u.getD j 0 := fun k => by
      unfold movK
      simp only [List.getD_eq_getElem?_getD]
      by_cases hk : j < k
      · rw [if_pos hk, List.getElem?_append_left (by simp; omega), List.getElem?_take, if_pos hk]
      · rw [if_neg hk, List.getElem?_append_right (by simp; omega), List.getElem?_drop]
        simp only [List.length_take, List.length_map, Nat.min_eq_left (show k ≤ u.length by omega)]
        rw [show k + (j - k) = j by omega]
    rw [g, g]
    by_cases e : j = i
    · subst e; rw [if_pos rfl, if_pos (by omega), hm]
    · rw [if_neg e]
      by_cases h1 : j < i
      · rw [if_pos h1, if_pos (by omega)]
      · rw [if_neg h1, if_neg (by omega)]
set_option maxHeartbeats 8000000 in
theorem Alike_core {x : List (Int × Int × Unit)} (hx : small x) {z : Nat} (hz1 : z ≤ 255) (b : Bool) {c n : Nat} {w u : List Int} (hc : c = min x.length (8 - 1)) (hn : n = c + 1) (hwe : w = madeK x c) (hw : Word w n)
    (hu : u = if b = true then (Go.Scr.begun w (z % (2 * n))).reverse else Go.Scr.begun w (z % (2 * n))) (hlu : Like w u n) (hpu : pairsK u n n = pairsK w n n) : FnAt Try.prog false 14 [.arr U2 x, .lit (.int .u8 z), .lit (.bool b)] (.lit (.bool true)) [] := by
  have c1 := made_at hx (m := 8) (by omega) hc
  rw [← hwe] at c1
  have hp := hw.pos
  have hn8 : n ≤ 8 := by omega
  have hwn := hw.len
  have hl : @List.length (Ty.int .i64).T w = 2 * n := hw.len
  have hdv : Int.tdiv (@List.length (Ty.int .i64).T w) 2 = n := by rw [hl, Int.tdiv_eq_ediv_of_nonneg (by omega)]; omega
  have hzm := Nat.mod_lt z (y := 2 * n) (by omega)
  have htm : Int.tmod (z : Int) (@List.length (Ty.int .i64).T w : Int) = ((z % (2 * n) : Nat) : Int) := by
    rw [hl, Int.tmod_eq_emod_of_nonneg (by omega)]; norm_cast
  have b1 := begun_ref (w := w) (i := z % (2 * n)) (by omega) (by omega)
  rw [← htm] at b1
  obtain ⟨B, hB⟩ : ∃ B, B = Go.Scr.begun w (z % (2 * n)) := ⟨_, rfl⟩
  have hBl : B.length = 2 * n := by rw [hB, begun_len]; exact hwn
  have r1 := back_ref (w := B) (by omega)
  rw [← hB] at b1 hu
  have hwu := hlu.alk.wv
  have hul := hwu.len
  have hul2 : @List.length (Ty.int .i64).T u = 2 * n := hul
  have hlv := hlu.trans (like_ren hwu (f := movT n z) (g := movT n (n - z % n)) mov_ok mov_ok')
  obtain ⟨v, hv⟩ : ∃ v, v = u.map fun x => (movT n z x.toNat : Int) := ⟨_, rfl⟩
  have hpv : (pairsK v n n).length = (pairsK w n n).length := by rw [hv, pairs_ren hwu mov_ok mov_ok', hpu]
  have hmv : movK u n z (2 * n) = v := by
    unfold movK
    rw [hv, List.take_of_length_le (by rw [List.length_map]; omega), List.drop_of_length_le (by omega), List.append_nil]
  rw [← hv] at hlv
  have hwv := hlv.alk.wv
  have hla := like_canon hw
  have a1 := Canon_ok hw (by omega)
  have a2 := Canon_ok hwv (by omega)
  have a3 := Canon_ok hla.alk.wv (by omega)
  have hcl : (canonT w).length ≤ 1000 := by have := hla.alk.wv.len; omega
  have l1 := Least_ok hw (by omega)
  have l2 := Least_ok hwv (by omega)
  have i1 := Inters_ok hw (by omega)
  have i2 := Inters_ok hwv (by omega)
  have hpl := pairs_len (w := w) (n := n) (by omega)
  rw [hlv.can] at a2
  rw [hla.can] at a3
  rw [hlv.alk.least] at l2
  obtain ⟨A, hA⟩ : ∃ A, A = canonT w := ⟨_, rfl⟩
  obtain ⟨G, hG⟩ : ∃ G, G = (leastT n w).1 := ⟨_, rfl⟩
  obtain ⟨P, hP⟩ : ∃ P, P = pairsK w n n := ⟨_, rfl⟩
  obtain ⟨Q, hQ⟩ : ∃ Q, Q = pairsK v n n := ⟨_, rfl⟩
  rw [← hA] at a1 a2 a3 hcl
  rw [← hG] at l1 l2
  rw [← hP] at i1 hpl hpv
  rw [← hQ] at i2 hpv
  have hPl : @List.length PairTy.T P ≤ 100 := hpl
  have hQl : @List.length PairTy.T Q = @List.length PairTy.T P := hpv
  have hsm := same_at A A (by omega) (by omega)
  have hik : InK .i64 (z : Int) := by simp only [InK]; omega
  have hrg := hwu.rg
  obtain ⟨L, hL⟩ : ∃ L : Nat → List Int, L = movK u n z := ⟨_, rfl⟩
  have hL0 : u = L 0 := by rw [hL]; simp [movK]
  have hLn : L (2 * n) = v := by rw [hL]; exact hmv
  have hLl : ∀ i, @List.length (Ty.int .i64).T (L i) = 2 * n := fun i => by rw [hL]; exact movK_len.trans hul
  have hLs : ∀ i, i < 2 * n → (L i).getD i 0 = u.getD i 0 ∧ (L i).set i ((movT n z (u.getD i 0).toNat : Nat) : Int) = L (i + 1) := fun i hi => by rw [hL]; exact movK_step (by omega)
  clear hL hmv hv hA hG hP hQ hB
  cases b with
  | false =>
    have hu : u = B := hu
    rw [← hu] at b1
    refine FnAt.of_body tys_ok Try.func14 (by rfl) rfl Try.ntmps14 (by rw [Try.results14]) (by simp) ?_
  
    repeat' (first
 | refine W.seq ?_
 | refine W.block ?_
 | (refine W.region tys_ok [7, 27] ?_; conv => whnf)
 | (refine W.drawAll tys_ok [7, 27] mixed rfl ?_; conv => whnf)
 | (refine W.ret ?_; conv => whnf)
 | (refine W.skip ?_; conv => whnf)
 | (refine W.exit ?_; conv => whnf)
 | (refine call_at (al := false) (c1) rfl rfl rfl rfl ?_; conv => whnf)
 | (refine call_at (al := false) (b1) rfl rfl rfl rfl ?_; conv => whnf)
 | (refine call_at (al := false) (r1) rfl rfl rfl rfl ?_; conv => whnf)
 | (refine W.cond rfl (fun hb => ?_) (fun hb => ?_) <;> (try simp only [Int.reduceToNat, Int.reduceTDiv, Int.reduceTMod, minL, maxL, pickB, zHB] at hb) <;> (try (first | (cases hb; done) | exact absurd hb (by decide) | (exfalso; omega))))
 | ((with_reducible refine And.intro ?_ ?_); (focus ((repeat' (first | (with_reducible rfl) | (with_reducible refine And.intro ?_ ?_) | omega | rfl | exact Or.inl rfl | exact Or.inr rfl | exact of_decide_eq_true rfl | exact Path.imp_of (of_decide_eq_true rfl) | (focus ((try simp only [Int.reduceToNat, Int.reduceTDiv, Int.reduceTMod, minL, maxL, pickB, zHB, InK, Path.imp, List.length_replicate, List.length_set, List.length_append, List.length_cons, List.length_nil] at *); omega)) | (refine app_le rfl ?_; omega))); done)); (conv => whnf))
 | ((with_reducible refine And.intro (Side.out ?_) ?_); rotate_left; (conv => whnf))
 | ((first | refine retF1 ?_ | refine retF2 ?_) <;> (conv => whnf) <;> repeat' (first
 | exact trivial
 | (with_reducible rfl)
 | ((with_reducible refine And.intro ?_ ?_) <;> conv => whnf)
 | omega
 | rfl
 | (refine congrArg (SV.arr _) ?_)
 | (refine congrArg (Value.int _) ?_)
 | (refine congrArg Value.bool ?_)))); all_goals (try unfold Side)
    all_goals try exact Path.imp_of hik
    all_goals try (repeat' (first | (with_reducible rfl) | (with_reducible refine And.intro ?_ ?_) | omega | rfl | exact Or.inl rfl | exact Or.inr rfl | exact of_decide_eq_true rfl | exact Path.imp_of (of_decide_eq_true rfl) | (focus ((try simp only [Int.reduceToNat, Int.reduceTDiv, Int.reduceTMod, minL, maxL, pickB, zHB, InK, Path.imp, List.length_replicate, List.length_set, List.length_append, List.length_cons, List.length_nil] at *); omega)) | (refine app_le rfl ?_; omega)))
    refine W.loop (fun i : Nat => ⟨[(1, .lit (.int .u8 z)), (7, .st true (.arr (.int .i64) (w : List Int))), (8, .own 900008), (9, .lit (.int .i64 (i)))], [(900008, .row 3 (.int .i64) true ((L i) : List Int))]⟩) (fun i => i ≤ 2 * n) (fun i => 2 * n - i) (0) ?_ ?_
    · refine ⟨Nat.zero_le _, ?_⟩
      refine subF.ok ?_ <;> (conv => whnf) <;> repeat' (first
 | exact trivial
 | (with_reducible rfl)
 | ((with_reducible refine And.intro ?_ ?_) <;> conv => whnf)
 | omega
 | rfl
 | (refine congrArg (SV.arr _) ?_)
 | (refine congrArg (Value.int _) ?_)
 | (refine congrArg Value.bool ?_))
      all_goals exact hL0
    · intro i hi
      have hli := hLl i
      by_cases hil : i < 2 * n
      · obtain ⟨e1, e2⟩ := hLs i hil
        have hr := hrg i hil
        obtain ⟨y, hy⟩ : ∃ y : Nat, u.getD i 0 = y := ⟨(u.getD i 0).toNat, by omega⟩
        have hval : Int.tmod ((L i).getD i 0 + (z : Int)) (Int.tdiv (@List.length (Ty.int .i64).T w) 2) = ((movT n z (u.getD i 0).toNat : Nat) : Int) := by
          rw [e1, hdv, hy, Int.toNat_natCast, Int.tmod_eq_emod_of_nonneg (by omega)]
          unfold movT; norm_cast
        have hset : (L i).set i (Int.tmod ((L i).getD i 0 + (z : Int)) (Int.tdiv (@List.length (Ty.int .i64).T w) 2)) = L (i + 1) := by rw [hval]; exact e2
        have hik2 : InK .i64 ((L i).getD i 0 + (z : Int)) := by rw [e1]; simp only [InK]; omega
        have hne : Int.tdiv (@List.length (Ty.int .i64).T w) 2 ≠ 0 := by rw [hdv]; omega
        repeat' (first
 | refine W.seq ?_
 | refine W.block ?_
 | (refine W.drawPh (id := 8) tys_ok [] mixed [0, 0, 0, 0, 12, 16, 0, 64, 160, 0, 512, 1024, 2304, 8191, 16383] [([0, 1, 2, 3, 4, 6, 7, 9], 4, 4095), ([12, 13], 1, 32767)] (by decide +kernel) ?_; conv => whnf)
 | (refine W.region tys_ok [] ?_; conv => whnf)
 | (refine W.drawAll tys_ok [] mixed rfl ?_; conv => whnf)
 | (refine W.ret ?_; conv => whnf)
 | (refine W.skip ?_; conv => whnf)
 | (refine W.exit ?_; conv => whnf)
 | (refine Both.mk ?_ ?_ <;> (conv => whnf))
 | (refine W.cond rfl (fun hb => ?_) (fun hb => ?_) <;> (try simp only [Int.reduceToNat, Int.reduceTDiv, Int.reduceTMod, minL, maxL, pickB, zHB] at hb) <;> (try (first | (cases hb; done) | exact absurd hb (by decide) | (exfalso; omega))))
 | ((with_reducible refine And.intro ?_ ?_); (focus ((repeat' (first | (with_reducible rfl) | (with_reducible refine And.intro ?_ ?_) | omega | rfl | exact Or.inl rfl | exact Or.inr rfl | exact of_decide_eq_true rfl | exact Path.imp_of (of_decide_eq_true rfl) | (focus ((try simp only [Int.reduceToNat, Int.reduceTDiv, Int.reduceTMod, minL, maxL, pickB, zHB, InK, Path.imp, List.length_replicate, List.length_set, List.length_append, List.length_cons, List.length_nil] at *); omega)) | (refine app_le rfl ?_; omega))); done)); (conv => whnf))
 | ((with_reducible refine And.intro (Side.out ?_) ?_); rotate_left; (conv => whnf))
 | ((first | refine retF1 ?_ | refine retF2 ?_ | refine subF.leaf ?_ | refine subF.side ?_) <;> (conv => whnf) <;> repeat' (first
 | exact trivial
 | (with_reducible rfl)
 | ((with_reducible refine And.intro ?_ ?_) <;> conv => whnf)
 | omega
 | rfl
 | (refine congrArg (SV.arr _) ?_)
 | (refine congrArg (Value.int _) ?_)
 | (refine congrArg Value.bool ?_)))); all_goals (try unfold Side)
        all_goals try (first | exact Path.imp_of hik | exact Path.imp_of hik2 | exact Path.imp_of hne)
        all_goals try (repeat' (first | (with_reducible rfl) | (with_reducible refine And.intro ?_ ?_) | omega | rfl | exact Or.inl rfl | exact Or.inr rfl | exact of_decide_eq_true rfl | exact Path.imp_of (of_decide_eq_true rfl) | (focus ((try simp only [Int.reduceToNat, Int.reduceTDiv, Int.reduceTMod, minL, maxL, pickB, zHB, InK, Path.imp, List.length_replicate, List.length_set, List.length_append, List.length_cons, List.length_nil] at *); omega)) | (refine app_le rfl ?_; omega)))
        all_goals (refine ⟨i + 1, ⟨by omega, by omega⟩, ?_⟩)
        all_goals refine subF.ok ?_ <;> (conv => whnf) <;> repeat' (first
 | exact trivial
 | (with_reducible rfl)
 | ((with_reducible refine And.intro ?_ ?_) <;> conv => whnf)
 | omega
 | rfl
 | (refine congrArg (SV.arr _) ?_)
 | (refine congrArg (Value.int _) ?_)
 | (refine congrArg Value.bool ?_))
        all_goals exact hset
      · have hie : 2 * n = i := by omega
        subst hie
        have hvl : @List.length (Ty.int .i64).T v = 2 * n := hwv.len
        rw [hLn]
        repeat' (first
 | refine W.seq ?_
 | refine W.block ?_
 | (refine W.resub (x := Code.region 9 _ _) (Γ' := ⟨[(7, .st true (.arr (.int .i64) (w : List Int))), (8, .st true (.arr (.int .i64) (v : List Int)))], []⟩) ?_ (W.region tys_ok [] ?_); rotate_left; (conv => whnf))
 | (refine W.region tys_ok [] ?_; conv => whnf)
 | (refine W.drawAll tys_ok [] mixed rfl ?_; conv => whnf)
 | (refine W.ret ?_; conv => whnf)
 | (refine W.skip ?_; conv => whnf)
 | (refine W.exit ?_; conv => whnf)
 | (refine call_at (al := false) (a1) rfl rfl rfl rfl ?_; conv => whnf)
 | (refine call_at (al := false) (a2) rfl rfl rfl rfl ?_; conv => whnf)
 | (refine call_at (al := false) (a3) rfl rfl rfl rfl ?_; conv => whnf)
 | (refine call_at (al := false) (l1) rfl rfl rfl rfl ?_; conv => whnf)
 | (refine call_at (al := false) (l2) rfl rfl rfl rfl ?_; conv => whnf)
 | (refine call_at (al := false) (i1) rfl rfl rfl rfl ?_; conv => whnf)
 | (refine call_at (al := false) (i2) rfl rfl rfl rfl ?_; conv => whnf)
 | (refine call_at (al := false) (hsm) rfl rfl rfl rfl ?_; conv => whnf)
 | (refine call_at (al := false) (lives_at) rfl rfl rfl rfl ?_; conv => whnf)
 | (refine W.cond rfl (fun hb => ?_) (fun hb => ?_) <;> (try simp only [Int.reduceToNat, Int.reduceTDiv, Int.reduceTMod, minL, maxL, pickB, zHB] at hb) <;> (try (first | (cases hb; done) | exact absurd hb (by decide) | (exfalso; omega))))
 | ((with_reducible refine And.intro ?_ ?_); (focus ((repeat' (first | (with_reducible rfl) | (with_reducible refine And.intro ?_ ?_) | omega | rfl | exact Or.inl rfl | exact Or.inr rfl | exact of_decide_eq_true rfl | exact Path.imp_of (of_decide_eq_true rfl) | (focus ((try simp only [Int.reduceToNat, Int.reduceTDiv, Int.reduceTMod, minL, maxL, pickB, zHB, InK, Path.imp, List.length_replicate, List.length_set, List.length_append, List.length_cons, List.length_nil] at *); omega)) | (refine app_le rfl ?_; omega))); done)); (conv => whnf))
 | ((with_reducible refine And.intro (Side.out ?_) ?_); rotate_left; (conv => whnf))
 | ((first | refine retF1 ?_ | refine retF2 ?_) <;> (conv => whnf) <;> repeat' (first
 | exact trivial
 | (with_reducible rfl)
 | ((with_reducible refine And.intro ?_ ?_) <;> conv => whnf)
 | omega
 | rfl
 | (refine congrArg (SV.arr _) ?_)
 | (refine congrArg (Value.int _) ?_)
 | (refine congrArg Value.bool ?_)))); all_goals (try unfold Side)
        all_goals try (repeat' (first | (with_reducible rfl) | (with_reducible refine And.intro ?_ ?_) | omega | rfl | exact Or.inl rfl | exact Or.inr rfl | exact of_decide_eq_true rfl | exact Path.imp_of (of_decide_eq_true rfl) | (focus ((try simp only [Int.reduceToNat, Int.reduceTDiv, Int.reduceTMod, minL, maxL, pickB, zHB, InK, Path.imp, List.length_replicate, List.length_set, List.length_append, List.length_cons, List.length_nil] at *); omega)) | (refine app_le rfl ?_; omega)))
        all_goals try refine subF.ok ?_ <;> (conv => whnf) <;> repeat' (first
 | exact trivial
 | (with_reducible rfl)
 | ((with_reducible refine And.intro ?_ ?_) <;> conv => whnf)
 | omega
 | rfl
 | (refine congrArg (SV.arr _) ?_)
 | (refine congrArg (Value.int _) ?_)
 | (refine congrArg Value.bool ?_))
  | true =>
    have hu : u = B.reverse := hu
    rw [← hu] at r1
    refine FnAt.of_body tys_ok Try.func14 (by rfl) rfl Try.ntmps14 (by rw [Try.results14]) (by simp) ?_
  
    repeat' (first
 | refine W.seq ?_
 | refine W.block ?_
 | (refine W.region tys_ok [7, 27] ?_; conv => whnf)
 | (refine W.drawAll tys_ok [7, 27] mixed rfl ?_; conv => whnf)
 | (refine W.ret ?_; conv => whnf)
 | (refine W.skip ?_; conv => whnf)
 | (refine W.exit ?_; conv => whnf)
 | (refine call_at (al := false) (c1) rfl rfl rfl rfl ?_; conv => whnf)
 | (refine call_at (al := false) (b1) rfl rfl rfl rfl ?_; conv => whnf)
 | (refine call_at (al := false) (r1) rfl rfl rfl rfl ?_; conv => whnf)
 | (refine W.cond rfl (fun hb => ?_) (fun hb => ?_) <;> (try simp only [Int.reduceToNat, Int.reduceTDiv, Int.reduceTMod, minL, maxL, pickB, zHB] at hb) <;> (try (first | (cases hb; done) | exact absurd hb (by decide) | (exfalso; omega))))
 | ((with_reducible refine And.intro ?_ ?_); (focus ((repeat' (first | (with_reducible rfl) | (with_reducible refine And.intro ?_ ?_) | omega | rfl | exact Or.inl rfl | exact Or.inr rfl | exact of_decide_eq_true rfl | exact Path.imp_of (of_decide_eq_true rfl) | (focus ((try simp only [Int.reduceToNat, Int.reduceTDiv, Int.reduceTMod, minL, maxL, pickB, zHB, InK, Path.imp, List.length_replicate, List.length_set, List.length_append, List.length_cons, List.length_nil] at *); omega)) | (refine app_le rfl ?_; omega))); done)); (conv => whnf))
 | ((with_reducible refine And.intro (Side.out ?_) ?_); rotate_left; (conv => whnf))
 | ((first | refine retF1 ?_ | refine retF2 ?_) <;> (conv => whnf) <;> repeat' (first
 | exact trivial
 | (with_reducible rfl)
 | ((with_reducible refine And.intro ?_ ?_) <;> conv => whnf)
 | omega
 | rfl
 | (refine congrArg (SV.arr _) ?_)
 | (refine congrArg (Value.int _) ?_)
 | (refine congrArg Value.bool ?_)))); all_goals (try unfold Side)
    all_goals try exact Path.imp_of hik
    all_goals try (repeat' (first | (with_reducible rfl) | (with_reducible refine And.intro ?_ ?_) | omega | rfl | exact Or.inl rfl | exact Or.inr rfl | exact of_decide_eq_true rfl | exact Path.imp_of (of_decide_eq_true rfl) | (focus ((try simp only [Int.reduceToNat, Int.reduceTDiv, Int.reduceTMod, minL, maxL, pickB, zHB, InK, Path.imp, List.length_replicate, List.length_set, List.length_append, List.length_cons, List.length_nil] at *); omega)) | (refine app_le rfl ?_; omega)))
    refine W.loop (fun i : Nat => ⟨[(1, .lit (.int .u8 z)), (7, .st true (.arr (.int .i64) (w : List Int))), (8, .own 900008), (9, .lit (.int .i64 (i)))], [(900008, .row 3 (.int .i64) true ((L i) : List Int))]⟩) (fun i => i ≤ 2 * n) (fun i => 2 * n - i) (0) ?_ ?_
    · refine ⟨Nat.zero_le _, ?_⟩
      refine subF.ok ?_ <;> (conv => whnf) <;> repeat' (first
 | exact trivial
 | (with_reducible rfl)
 | ((with_reducible refine And.intro ?_ ?_) <;> conv => whnf)
 | omega
 | rfl
 | (refine congrArg (SV.arr _) ?_)
 | (refine congrArg (Value.int _) ?_)
 | (refine congrArg Value.bool ?_))
      all_goals exact hL0
    · intro i hi
      have hli := hLl i
      by_cases hil : i < 2 * n
      · obtain ⟨e1, e2⟩ := hLs i hil
        have hr := hrg i hil
        obtain ⟨y, hy⟩ : ∃ y : Nat, u.getD i 0 = y := ⟨(u.getD i 0).toNat, by omega⟩
        have hval : Int.tmod ((L i).getD i 0 + (z : Int)) (Int.tdiv (@List.length (Ty.int .i64).T w) 2) = ((movT n z (u.getD i 0).toNat : Nat) : Int) := by
          rw [e1, hdv, hy, Int.toNat_natCast, Int.tmod_eq_emod_of_nonneg (by omega)]
          unfold movT; norm_cast
        have hset : (L i).set i (Int.tmod ((L i).getD i 0 + (z : Int)) (Int.tdiv (@List.length (Ty.int .i64).T w) 2)) = L (i + 1) := by rw [hval]; exact e2
        have hik2 : InK .i64 ((L i).getD i 0 + (z : Int)) := by rw [e1]; simp only [InK]; omega
        have hne : Int.tdiv (@List.length (Ty.int .i64).T w) 2 ≠ 0 := by rw [hdv]; omega
        repeat' (first
 | refine W.seq ?_
 | refine W.block ?_
 | (refine W.drawPh (id := 8) tys_ok [] mixed [0, 0, 0, 0, 12, 16, 0, 64, 160, 0, 512, 1024, 2304, 8191, 16383] [([0, 1, 2, 3, 4, 6, 7, 9], 4, 4095), ([12, 13], 1, 32767)] (by decide +kernel) ?_; conv => whnf)
 | (refine W.region tys_ok [] ?_; conv => whnf)
 | (refine W.drawAll tys_ok [] mixed rfl ?_; conv => whnf)
 | (refine W.ret ?_; conv => whnf)
 | (refine W.skip ?_; conv => whnf)
 | (refine W.exit ?_; conv => whnf)
 | (refine Both.mk ?_ ?_ <;> (conv => whnf))
 | (refine W.cond rfl (fun hb => ?_) (fun hb => ?_) <;> (try simp only [Int.reduceToNat, Int.reduceTDiv, Int.reduceTMod, minL, maxL, pickB, zHB] at hb) <;> (try (first | (cases hb; done) | exact absurd hb (by decide) | (exfalso; omega))))
 | ((with_reducible refine And.intro ?_ ?_); (focus ((repeat' (first | (with_reducible rfl) | (with_reducible refine And.intro ?_ ?_) | omega | rfl | exact Or.inl rfl | exact Or.inr rfl | exact of_decide_eq_true rfl | exact Path.imp_of (of_decide_eq_true rfl) | (focus ((try simp only [Int.reduceToNat, Int.reduceTDiv, Int.reduceTMod, minL, maxL, pickB, zHB, InK, Path.imp, List.length_replicate, List.length_set, List.length_append, List.length_cons, List.length_nil] at *); omega)) | (refine app_le rfl ?_; omega))); done)); (conv => whnf))
 | ((with_reducible refine And.intro (Side.out ?_) ?_); rotate_left; (conv => whnf))
 | ((first | refine retF1 ?_ | refine retF2 ?_ | refine subF.leaf ?_ | refine subF.side ?_) <;> (conv => whnf) <;> repeat' (first
 | exact trivial
 | (with_reducible rfl)
 | ((with_reducible refine And.intro ?_ ?_) <;> conv => whnf)
 | omega
 | rfl
 | (refine congrArg (SV.arr _) ?_)
 | (refine congrArg (Value.int _) ?_)
 | (refine congrArg Value.bool ?_)))); all_goals (try unfold Side)
        all_goals try (first | exact Path.imp_of hik | exact Path.imp_of hik2 | exact Path.imp_of hne)
        all_goals try (repeat' (first | (with_reducible rfl) | (with_reducible refine And.intro ?_ ?_) | omega | rfl | exact Or.inl rfl | exact Or.inr rfl | exact of_decide_eq_true rfl | exact Path.imp_of (of_decide_eq_true rfl) | (focus ((try simp only [Int.reduceToNat, Int.reduceTDiv, Int.reduceTMod, minL, maxL, pickB, zHB, InK, Path.imp, List.length_replicate, List.length_set, List.length_append, List.length_cons, List.length_nil] at *); omega)) | (refine app_le rfl ?_; omega)))
        all_goals (refine ⟨i + 1, ⟨by omega, by omega⟩, ?_⟩)
        all_goals refine subF.ok ?_ <;> (conv => whnf) <;> repeat' (first
 | exact trivial
 | (with_reducible rfl)
 | ((with_reducible refine And.intro ?_ ?_) <;> conv => whnf)
 | omega
 | rfl
 | (refine congrArg (SV.arr _) ?_)
 | (refine congrArg (Value.int _) ?_)
 | (refine congrArg Value.bool ?_))
        all_goals exact hset
      · have hie : 2 * n = i := by omega
        subst hie
        have hvl : @List.length (Ty.int .i64).T v = 2 * n := hwv.len
        rw [hLn]
        repeat' (first
 | refine W.seq ?_
 | refine W.block ?_
 | (refine W.resub (x := Code.region 9 _ _) (Γ' := ⟨[(7, .st true (.arr (.int .i64) (w : List Int))), (8, .st true (.arr (.int .i64) (v : List Int)))], []⟩) ?_ (W.region tys_ok [] ?_); rotate_left; (conv => whnf))
 | (refine W.region tys_ok [] ?_; conv => whnf)
 | (refine W.drawAll tys_ok [] mixed rfl ?_; conv => whnf)
 | (refine W.ret ?_; conv => whnf)
 | (refine W.skip ?_; conv => whnf)
 | (refine W.exit ?_; conv => whnf)
 | (refine call_at (al := false) (a1) rfl rfl rfl rfl ?_; conv => whnf)
 | (refine call_at (al := false) (a2) rfl rfl rfl rfl ?_; conv => whnf)
 | (refine call_at (al := false) (a3) rfl rfl rfl rfl ?_; conv => whnf)
 | (refine call_at (al := false) (l1) rfl rfl rfl rfl ?_; conv => whnf)
 | (refine call_at (al := false) (l2) rfl rfl rfl rfl ?_; conv => whnf)
 | (refine call_at (al := false) (i1) rfl rfl rfl rfl ?_; conv => whnf)
 | (refine call_at (al := false) (i2) rfl rfl rfl rfl ?_; conv => whnf)
 | (refine call_at (al := false) (hsm) rfl rfl rfl rfl ?_; conv => whnf)
 | (refine call_at (al := false) (lives_at) rfl rfl rfl rfl ?_; conv => whnf)
 | (refine W.cond rfl (fun hb => ?_) (fun hb => ?_) <;> (try simp only [Int.reduceToNat, Int.reduceTDiv, Int.reduceTMod, minL, maxL, pickB, zHB] at hb) <;> (try (first | (cases hb; done) | exact absurd hb (by decide) | (exfalso; omega))))
 | ((with_reducible refine And.intro ?_ ?_); (focus ((repeat' (first | (with_reducible rfl) | (with_reducible refine And.intro ?_ ?_) | omega | rfl | exact Or.inl rfl | exact Or.inr rfl | exact of_decide_eq_true rfl | exact Path.imp_of (of_decide_eq_true rfl) | (focus ((try simp only [Int.reduceToNat, Int.reduceTDiv, Int.reduceTMod, minL, maxL, pickB, zHB, InK, Path.imp, List.length_replicate, List.length_set, List.length_append, List.length_cons, List.length_nil] at *); omega)) | (refine app_le rfl ?_; omega))); done)); (conv => whnf))
 | ((with_reducible refine And.intro (Side.out ?_) ?_); rotate_left; (conv => whnf))
 | ((first | refine retF1 ?_ | refine retF2 ?_) <;> (conv => whnf) <;> repeat' (first
 | exact trivial
 | (with_reducible rfl)
 | ((with_reducible refine And.intro ?_ ?_) <;> conv => whnf)
 | omega
 | rfl
 | (refine congrArg (SV.arr _) ?_)
 | (refine congrArg (Value.int _) ?_)
 | (refine congrArg Value.bool ?_)))); all_goals (try unfold Side)
        all_goals try (repeat' (first | (with_reducible rfl) | (with_reducible refine And.intro ?_ ?_) | omega | rfl | exact Or.inl rfl | exact Or.inr rfl | exact of_decide_eq_true rfl | exact Path.imp_of (of_decide_eq_true rfl) | (focus ((try simp only [Int.reduceToNat, Int.reduceTDiv, Int.reduceTMod, minL, maxL, pickB, zHB, InK, Path.imp, List.length_replicate, List.length_set, List.length_append, List.length_cons, List.length_nil] at *); omega)) | (refine app_le rfl ?_; omega)))
        all_goals try refine subF.ok ?_ <;> (conv => whnf) <;> repeat' (first
 | exact trivial
 | (with_reducible rfl)
 | ((with_reducible refine And.intro ?_ ?_) <;> conv => whnf)
 | omega
 | rfl
 | (refine congrArg (SV.arr _) ?_)
 | (refine congrArg (Value.int _) ?_)
 | (refine congrArg Value.bool ?_))
theorem ScrollAlike_at {x : List (Int × Int × Unit)} (hx : small x) {z : Int} (hz0 : 0 ≤ z) (hz1 : z ≤ 255) (b : Bool) : FnAt Try.prog false 14 [.arr U2 x, .lit (.int .u8 z), .lit (.bool b)] (.lit (.bool true)) [] := by
  obtain ⟨z, rfl⟩ : ∃ y : Nat, z = y := ⟨z.toNat, by omega⟩
  obtain ⟨c, hc⟩ : ∃ c, c = min x.length (8 - 1) := ⟨_, rfl⟩
  have hw : Word (madeK x c) (c + 1) := made_word
  have hwl := hw.len
  have hm := Nat.mod_lt z (y := 2 * (c + 1)) (by omega)
  have h1 := like_begun hw (i := z % (2 * (c + 1))) (by omega)
  have p1 := pairs_begun hw (i := z % (2 * (c + 1))) (by omega)
  cases b with
  | false => exact Alike_core hx (by omega) false hc rfl rfl hw rfl h1 p1
  | true => exact Alike_core hx (by omega) true hc rfl rfl hw rfl (h1.trans (like_rev h1.alk.wv)) ((pairsK_congr fun a b ha hb => inter_rev h1.alk.wv ha hb).trans p1)
end Go.Proofs.Ytdfajcfkdfjoeaa
