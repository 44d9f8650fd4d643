/- What an operation does to the symbolic state of Vc1: new rows. No condition. -/
import Derived.Test.YtohfemfgnohhdaaVc9
namespace Go.Vc
set_option linter.unusedVariables false
set_option linter.unusedSimpArgs false

/-- The zero value of a kind. -/
def Ty.zval (t : Ty) : Value := match t.leaf with
  | true => t.zcells.headD undef
  | false => .agg t.zcells.toArray
theorem zcells_leaf : ∀ (t : Ty), t.leaf = true → t.zcells = [t.zval] ∧ t.zval.oneCell' = true ∧ ∀ w O, RpS w O t.zval (t.enc t.dflt)
  | .int k, _ => ⟨rfl, rfl, fun w O => .lit _ rfl⟩
  | .bool, _ => ⟨rfl, rfl, fun w O => .lit _ rfl⟩
  | .str, _ => ⟨rfl, rfl, fun w O => .lit _ rfl⟩
  | .sl t, _ => ⟨rfl, rfl, fun w O => .nil t⟩
theorem zcells_enc (w : World) (O : Nat → Prop) : ∀ (t : Ty), t.good = true → t.leaf = false → t.zcells.length = (t.encL t.dflt).length ∧
    ∀ (i : Nat) (B : SV), (t.encL t.dflt)[i]? = some B → ∃ x, t.zcells[i]? = some x ∧ x.oneCell' = true ∧ RpS w O x B
  | .nil, _, _ => ⟨rfl, fun i B h => by simp [Ty.encL] at h⟩
  | .cons h t, hg, _ => by
    simp only [Ty.good, Bool.and_eq_true] at hg
    obtain ⟨h1, h2, h3⟩ := zcells_leaf h hg.1.1.1
    have ht : t.leaf = false := by
      cases t <;> first | rfl | (simp at hg)
    obtain ⟨h4, h5⟩ := zcells_enc w O t hg.1.2 ht
    have hz : (Ty.cons h t).zcells = h.zval :: t.zcells := by simp only [Ty.zcells, h1]; rfl
    have he : (Ty.cons h t).encL (Ty.cons h t).dflt = h.enc h.dflt :: t.encL t.dflt := rfl
    rw [hz, he]
    refine ⟨by simp [h4], fun i B hB => ?_⟩
    cases i with
    | zero => simp at hB; subst hB; exact ⟨h.zval, by simp, h2, h3 w O⟩
    | succ i => simpa using h5 i B (by simpa using hB)
theorem zval_cells (t : Ty) (hg : t.good = true) : t.zval.cells.toList = t.zcells := by
  cases hl : t.leaf with
  | true =>
    obtain ⟨h1, h2, _⟩ := zcells_leaf t hl
    have : t.zval.cells = #[t.zval] := by cases hv : t.zval <;> rw [hv] at h2 <;> first | rfl | cases h2
    rw [this, h1]
  | false => simp [Ty.zval, hl, Value.cells]
theorem zval_rp (w : World) (O : Nat → Prop) (t : Ty) (hg : t.good = true) : RpS w O t.zval (t.enc t.dflt) := by
  cases hl : t.leaf with
  | true => exact (zcells_leaf t hl).2.2 w O
  | false =>
    obtain ⟨h1, h2⟩ := zcells_enc w O t hg hl
    rw [enc_cons _ _ hl]
    have hz : t.zval = .agg t.zcells.toArray := by simp [Ty.zval, hl]
    rw [hz]
    refine .agg _ _ (fun i => t.zcells.getD i undef) (by simp [h1]) (fun i hi => ?_) (fun i B hB => ?_)
    · obtain ⟨x, h3, h4, h5⟩ := h2 i (t.encL t.dflt)[i] (by rw [List.getElem?_eq_getElem])
      simp [List.getD, h3, h4]
    · obtain ⟨x, h3, h4, h5⟩ := h2 i B hB
      simpa [List.getD, h3] using h5
theorem zcells_one (t : Ty) (hg : t.good = true) : ∀ x ∈ t.zcells, x.oneCell' = true := by
  cases hl : t.leaf with
  | true => obtain ⟨h1, h2, _⟩ := zcells_leaf t hl; rw [h1]; simpa using h2
  | false =>
    obtain ⟨h1, h2⟩ := zcells_enc (default : World) (fun _ => False) t hg hl
    intro x hx
    obtain ⟨i, hi, rfl⟩ := List.mem_iff_getElem.1 hx
    obtain ⟨y, h3, h4, _⟩ := h2 i ((t.encL t.dflt)[i]'(by omega)) (by rw [List.getElem?_eq_getElem])
    rw [List.getElem?_eq_getElem hi] at h3
    cases h3
    exact h4
theorem zcells_len (t : Ty) (hg : t.good = true) : t.zcells.length = t.size := by
  cases hl : t.leaf with
  | true =>
    rw [(zcells_leaf t hl).1]
    cases t <;> first | rfl | cases hl
  | false => rw [(zcells_enc (default : World) (fun _ => False) t hg hl).1, encL_len t _ hg hl]

/-- A new row of zeros. -/
def makeVC (T : List (Nat × TE)) (G : Path) (d : Nat) (t : TypeId) (L C : AV) (K : AV → List (Nat × Ob) → Prop) : Prop := match G with
  | [] => match get? T t with
    | some { kind := .sl e, .. } => match get? T e with
      | some { ty := some τ, .. } => match L, C with
        | .lit (.int _ n), .lit (.int _ m) => (0 ≤ n ∧ n ≤ m ∧ m ≤ 4294967296) ∧ K (.own d) [(d, .row e τ true (List.replicate n.toNat τ.dflt))]
        | _, _ => False
      | _ => False
    | _ => False
  | _ => False

theorem madeCells_get (z : Array Value) (n p : Nat) (hp : p < n) (hz : 0 < z.size) : (madeCells z n)[p]? = z[p % z.size]? := by
  have : p % z.size < z.size := Nat.mod_lt _ hz
  simp [madeCells, hp, this]

theorem makeVC.sound {P : Program} {T : List (Nat × TE)} (hT : TOk P T) {c : Cx} {o : Oper} {Γ : Sy} {G : Path} {d : Nat} {t : TypeId} {x y : Operand} {L C : AV} {K : AV → List (Nat × Ob) → Prop}
    (ho : o.op = .makeSlice t x y) (hx : Ev c Γ G x L) (hy : Ev c Γ G y C) (h : makeVC T G d t L C K) : ∃ R N, (G.ok → Does P c o Γ R N) ∧ (G ≠ [] → N = []) ∧ K R N := by
  cases G with
  | cons _ _ => exact h.elim
  | nil =>
    unfold makeVC at h
    simp only at h
    split at h
    · rename_i e sz by_ ze ty ht
      have hu := (hT _ _ ht).sl rfl
      split at h
      · rename_i ke se be zz τ hte
        have he := hT _ _ hte
        obtain ⟨h1, h2, h3, h4, h5, h6⟩ := he.2.2 τ rfl
        obtain ⟨i, hi, hz, hs, hb⟩ := he.info
        split at h
        · rename_i kl n km m
          obtain ⟨⟨hn0, hnm, hm⟩, hK⟩ := h
          refine ⟨_, _, Does.new fun hG Γ' g a w hl hown hf hst => ?_, fun h => absurd rfl h, hK⟩
          have hxv := hx hG Γ' g a w (hl x (by simp [ho, Op.operands])) hst
          have hyv := hy hG Γ' g a w (hl y (by simp [ho, Op.operands])) hst
          simp only [Rp2, Rp1] at hxv hyv
          dsimp only at h1 h2 h5 hz hs hb
          have hbytes : (i.bytes : Int) * m ≤ 281474976710656 := by
            rw [hb]
            have : (be : Int) * m ≤ 4096 * 4294967296 := Int.mul_le_mul (by omega) hm (by omega) (by omega)
            omega
          have hrun := run_make (P := P) w t e i zz hu hi hz kl km n m hn0 hnm hbytes (by omega)
          have hzs : zz.cells.size = τ.size := by rw [← zcells_len τ h3, ← h1]; simp
          refine ⟨_, _, by simp [execOp, ho, hxv.1, hyv.1, hrun]; exact ⟨rfl, rfl⟩, Keep.alloc w _, rfl, ?_, .inl rfl⟩
          have hlen : (List.replicate n.toNat τ.dflt).length = n.toNat := by simp
          have hmn : n.toNat ≤ m.toNat := by omega
          have hsz : i.size = τ.size := by rw [hs]; exact h2
          have cell : ∀ p, p < n.toNat * τ.size → (madeCells zz.cells (m.toNat * i.size))[p]? = τ.zcells[p % τ.size]? := by
            intro p hp
            have h7 : n.toNat * τ.size ≤ m.toNat * τ.size := Nat.mul_le_mul_right _ hmn
            rw [madeCells_get _ _ _ (by rw [hsz]; omega) (by omega), hzs, ← h1]
            simp
          refine ⟨(madeCells zz.cells (m.toNat * i.size)).toList.take (n.toNat * τ.size), ?_, fun v hv => ?_, fun _ => τ.zval, fun k hk => ?_, fun k v hv => ?_⟩
          · rw [hlen]
            refine ⟨?_, .inr ⟨w.heap.size, m.toNat, madeCells zz.cells (m.toNat * i.size), rfl, hst.keep.size, heap_alloc_new w _, hmn, by unfold maxLen; omega, by rw [size_madeCells, hsz], rfl⟩⟩
            have : n.toNat * τ.size ≤ m.toNat * τ.size := Nat.mul_le_mul_right _ hmn
            simp [size_madeCells, hsz, this]
          · obtain ⟨p, hp, rfl⟩ := List.mem_iff_getElem.1 hv
            have hp' : p < n.toNat * τ.size := by simp at hp; omega
            have := cell p hp'
            rw [List.getElem_take]
            have h7 : (madeCells zz.cells (m.toNat * i.size)).toList[p]? = τ.zcells[p % τ.size]? := by simpa using this
            rw [List.getElem?_eq_getElem (by simp at hp ⊢; omega)] at h7
            exact zcells_one τ h3 _ (List.mem_of_getElem? h7.symm)
          · refine ⟨by rw [← zcells_len τ h3, ← zval_cells τ h3]; simp, fun j hj => ?_⟩
            rw [hlen] at hk
            have hp : k * τ.size + j < n.toNat * τ.size := by
              have : (k + 1) * τ.size ≤ n.toNat * τ.size := Nat.mul_le_mul_right _ hk
              rw [Nat.add_mul, Nat.one_mul] at this
              omega
            have := cell _ hp
            dsimp only
            rw [List.getElem?_take, if_pos hp]
            rw [show (k * τ.size + j) % τ.size = j from by rw [Nat.add_comm, Nat.add_mul_mod_self_right]; exact Nat.mod_eq_of_lt hj] at this
            rw [← zval_cells τ h3] at this
            simpa using this
          · rw [List.getElem?_replicate] at hv
            split at hv
            · cases hv; exact zval_rp _ _ τ h3
            · cases hv
        · exact h.elim
      · exact h.elim
    · exact h.elim
end Go.Vc
