/- Joined of: H32 Ha20. No condition. -/
import Derived.Test.YtmfholchenihaaaJ12

namespace Go.Proofs.Ytmfholchenihaaa
open Go Go.Vc Go.Sh
set_option linter.unusedVariables false
set_option linter.unusedSimpArgs false
def sm1 (y : List Int) : Prop := ∀ i : Nat, 0 ≤ y.getD i 0 ∧ y.getD i 0 ≤ 255
theorem sm1_wf {y : List Int} (h : (Ty.sl (.int .u8)).wf y) : sm1 y := fun i => by
  have h2 : ∀ z ∈ y, (Ty.int .u8).wf z := h.2
  by_cases hi : i < y.length
  · exact wf_u8 (h2 _ (getD_mem (d := (0 : Int)) hi))
  · have : y.getD i 0 = 0 := by simp [List.getD, List.getElem?_eq_none (Nat.le_of_not_lt hi)]
    rw [this]; decide
end Go.Proofs.Ytmfholchenihaaa
namespace Go.Sh
set_option linter.unusedVariables false
set_option linter.unusedSimpArgs false
theorem take_step {α : Type} {l : List α} {i : Nat} {d x : α} (h : i < l.length) (e : l.getD i d = x) : l.take i ++ [x] = l.take (i + 1) := by
  rw [List.take_succ_eq_append_getElem h, ← e, List.getD_eq_getElem?_getD, List.getElem?_eq_getElem h]; rfl
theorem mirO_get {os : List Od} {i : Nat} (h : i < os.length) : (mirO os).getD i O0 = ((os.getD i O0).2.1, (os.getD i O0).1, ()) := by
  unfold mirO
  rw [List.getD_eq_getElem?_getD, List.getElem?_map, List.getD_eq_getElem?_getD, List.getElem?_eq_getElem h]; rfl
theorem mirO_len {os : List Od} : (mirO os).length = os.length := by simp [mirO]
theorem mir_vs {P : Int} {l : List Jb} {os : List Od} (h : VS P l os) : VS P (mirJ l) (mirO os) := by
  refine ⟨h.pw, by rw [mir_len]; exact h.ln, by rw [mirO_len]; exact h.lo, fun i hi => ?_, fun i hi => ?_⟩
  · rw [mir_len] at hi
    rw [mir_get hi]
    have := h.rg i hi
    unfold JobOk at this ⊢
    unfold jf jt jl jp
    dsimp only
    omega
  · rw [mirO_len] at hi
    rw [mirO_get hi, mir_len]
    have := h.od i hi
    unfold OrdOk at this ⊢
    dsimp only
    omega
theorem od_lt {P : Int} {l : List Jb} {os : List Od} (h : VS P l os) : ∀ o ∈ os, o.1.toNat < l.length ∧ o.2.1.toNat < l.length := fun o ho => by
  obtain ⟨k, hk, e⟩ := List.getElem_of_mem ho
  have := h.od k hk
  rw [List.getD_eq_getElem?_getD, List.getElem?_eq_getElem hk, Option.getD_some, e] at this
  unfold OrdOk at this
  omega
theorem mirS_mirS {l : List Jb} {s : List Int} (hs : s.length = l.length) : mirS (mirJ l) (mirS l s) = s := by
  apply ext_get
  · rw [mirS_len, mir_len, hs]
  · intro i hi
    rw [mirS_len, mir_len] at hi
    rw [mirS_get (by rw [mir_len]; exact hi), mirS_get hi, mir_l hi]
    omega
theorem mir_back {P : Int} {l : List Jb} {os : List Od} {s : List Int} (h : VS P l os) (hs : s.length = l.length) (hf : Fit P (mirJ l) (mirO os) (mirS l s)) : Fit P l os s := by
  have h1 := mir_fit (od_lt (mir_vs h)) hf
  rw [mir_mir, mirO_mirO, mirS_mirS hs] at h1
  exact h1
theorem mir_no {P : Int} {l : List Jb} {os : List Od} (h : VS P l os) : (∀ s, ¬ Fit P l os s) ↔ ∀ s, ¬ Fit P (mirJ l) (mirO os) s := by
  constructor
  · intro hn s hs
    have := mir_fit (od_lt (mir_vs h)) hs
    rw [mir_mir, mirO_mirO] at this
    exact hn _ this
  · intro hn s hs
    exact hn _ (mir_fit (od_lt h) hs)
theorem fitB_mir {P : Int} {l : List Jb} {os : List Od} {s : List Int} (h : VS P l os) (hs : s.length = l.length) : fitB P (mirJ l) (mirO os) (mirS l s) = fitB P l os s := by
  by_cases e : Fit P l os s
  · rw [fitB_yes e, fitB_yes (mir_fit (od_lt h) e)]
  · rw [fitB_no e, fitB_no fun hf => e (mir_back h hs hf)]
theorem over_iff {P : Int} {l : List Jb} : overB P l = true ↔ ∃ a b : Nat, a < b ∧ b ≤ 24 ∧ P * ((b : Int) - a) < needsT l a b := by
  unfold overB
  simp only [List.any_eq_true, List.mem_range, Bool.and_eq_true, decide_eq_true_eq]
  constructor
  · rintro ⟨a, ha, b, hb, h1, h2⟩
    exact ⟨a, b, h1, by omega, h2⟩
  · rintro ⟨a, b, h1, h2, h3⟩
    exact ⟨a, by omega, b, by omega, h1, h3⟩
theorem over_mir1 {P : Int} {l : List Jb} (h : overB P l = true) : overB P (mirJ l) = true := by
  rw [over_iff] at h ⊢
  obtain ⟨a, b, h1, h2, h3⟩ := h
  refine ⟨24 - b, 24 - a, by omega, by omega, ?_⟩
  have e1 : ((24 - b : Nat) : Int) = 24 - (b : Int) := by omega
  have e2 : ((24 - a : Nat) : Int) = 24 - (a : Int) := by omega
  rw [e1, e2, mir_needs, show (24 - (a : Int) - (24 - (b : Int))) = (b : Int) - a by omega]
  exact h3
theorem ovB_mir {P : Int} {l : List Jb} : ovB P (mirJ l) = ovB P l := by
  rw [ovB_over, ovB_over, Bool.eq_iff_iff]
  refine ⟨fun h => ?_, over_mir1⟩
  have := over_mir1 h
  rwa [mir_mir] at this
def miV (l : List Jb) (r y : List Int) (i : Nat) : Int := if i < y.length ∧ y.getD i 0 % 4 = 0 then y.getD i 0 / 4 % 24 else if r = [] then jf l i else 24 - r.getD i 0 - jl l i
theorem mirS_up {l : List Jb} {V : Nat → Int} : mirS l (upL V l.length) = upL (fun i => 24 - V i - jl l i) l.length := by
  apply ext_get
  · rw [mirS_len, upL_len]
  · intro i hi
    rw [mirS_len] at hi
    rw [mirS_get hi, upL_get hi, upL_get hi]
end Go.Sh

