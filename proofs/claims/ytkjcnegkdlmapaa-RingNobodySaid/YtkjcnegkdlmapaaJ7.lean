/- Joined of: K1 K2 K3 K4 K5 K6. No condition. -/
import Derived.Test.YtkjcnegkdlmapaaJ4
import Derived.Test.YtkjcnegkdlmapaaJ6
import Derived.WalkKit
import Derived.WalkSpells
import Derived.Deep.LoopGhost
import Derived.Deep.RegionLaw
import Derived.Shelf.RegionOpenPlain
import Derived.Test.YtkjcnegkdlmapaaJ5
import Derived.Below
import Derived.Lib.SliceRun
set_option linter.unusedVariables false
set_option linter.unusedSimpArgs false
namespace Go.Proofs.Ytkjcnegkdlmapaa
open Int renaming reduceToNat → zr, reduceTDiv → zd, reduceTMod → zm
open Go Go.Vc Go.RowKit Go.Lib
theorem zero_run {P : Program} {t : TypeId} {te : TE} (h : te.ok P t) : ∀ w, (zeroValue t).run P w = .ok te.zero w := by
 intro w
 obtain ⟨i, hi, hz, _⟩ := h.info
 simp [zeroValue, typeInfo, hi, hz]
set_option maxHeartbeats 4000000 in
set_option maxRecDepth 1000000 in
theorem del_letter : DelC Try.prog 56 50 3 := by
 refine ⟨⟨Try.f56, Try.func56, rfl, rfl⟩, fun w base n i j v zs hown hone hij hj hn => ?_⟩
 obtain ⟨hz, hv⟩ := hown
 rcases hv with ⟨_, h⟩ | ⟨g, cap, cur, rfl, hb, hg, hnc, hcm, hs, ht⟩
 · omega
 obtain ⟨news, hnews⟩ : ∃ news, news = (cur.toList.take (n * 3)).drop (j * 3) := ⟨_, rfl⟩
 have hcl : cur.toList.length = cap * 3 := by simpa using hs
 have hlen : news.length = (n - j) * 3 := by rw [hnews, List.length_drop, List.length_take]; omega
 have hcell : ∀ p, p < cap * 3 → ∃ u, cur[p]? = some u := fun p hp => ⟨cur[p]'(by omega), Array.getElem?_eq_getElem _⟩
 obtain ⟨A, hA, hsrc⟩ : ∃ A : Addr, (if cap = j then some (⟨g, 0, none⟩ : Addr) else some ⟨g, j * 3, none⟩) = some A ∧ Hid (∀ t u, news[t]? = some u → w.drew.cell? (A.add t) = some u) := by
  by_cases h : cap = j
  · refine ⟨⟨g, 0, none⟩, by simp [h], fun t u hu => ?_⟩
    have h0 : news.length = 0 := by rw [hlen]; omega
    rw [List.length_eq_zero_iff.1 h0] at hu
    simp at hu
  · refine ⟨⟨g, j * 3, none⟩, by simp [h], fun t u hu => ?_⟩
    have h1 : t < (n - j) * 3 := by
     have := (List.getElem?_eq_some_iff.1 hu).1
     rwa [hlen] at this
    rw [hnews, List.getElem?_drop, List.getElem?_take, if_pos (by omega), Array.getElem?_toList] at hu
    rw [Addr.add_lit]
    show (match w.heap[g]? with | some (.cells c _ _) => _ | _ => _) = _
    rw [hg]
    exact hu
 have s1 : Hid (news.length = (n - j) * 3) := hlen
 have s2 : Hid (∀ u ∈ news, u.oneCell' = true) := fun u hu => hone u (by rw [← ht]; rw [hnews] at hu; exact List.mem_of_mem_drop hu)
 have s3 : Hid (∀ t, t < news.length → (w.drew.cell? ⟨g, 0 + i * 3 + t, none⟩).isSome = true ∧ w.drew.frozen? ⟨g, 0 + i * 3 + t, none⟩ = false) := by
  intro t ht
  rw [hlen] at ht
  obtain ⟨u, hu⟩ := hcell (0 + i * 3 + t) (by omega)
  refine ⟨?_, ?_⟩
  · show (World.cell? w _).isSome = true
    simp only [World.cell?, hg]
    have : 0 + i * 3 + t < cur.size := by omega
    simpa using this
  · show World.frozen? w _ = false
    simp [World.frozen?, hg]
 obtain ⟨W1, hW1⟩ : ∃ W1, W1 = w.drew.setCells g (0 + i * 3) news := ⟨_, rfl⟩
 have hW : Hid (W1 = w.drew.setCells g (0 + i * 3) news) := hW1
 have hzv := zero_run te50_ok
 obtain ⟨c1, hc1, hc2, _⟩ := setCells_heap g news (0 + i * 3) w.drew cur hg (by rw [hlen]; omega)
 rw [← hW1] at hc1
 have hzl : (Builtin.zeroCells te50.zero.cells (n - (i + (n - j)))).toList.length = (n - (i + (n - j))) * 3 := by simp [Builtin.zeroCells, te50, Value.cells]
 have hz1 : ∀ u ∈ (Builtin.zeroCells te50.zero.cells (n - (i + (n - j)))).toList, u.oneCell' = true := by
  intro u hu
  obtain ⟨p, hp, rfl⟩ := List.mem_iff_getElem.1 hu
  simp [Builtin.zeroCells, te50, Value.cells]
  have : p % 3 = 0 ∨ p % 3 = 1 ∨ p % 3 = 2 := by omega
  rcases this with h | h | h <;> simp [h] <;> rfl
 obtain ⟨zz, hzz⟩ : ∃ zz, (Builtin.zeroCells te50.zero.cells (n - (i + (n - j)))).toList = zz := ⟨_, rfl⟩
 have hclr : ∀ ty, (Builtin.clear_ #[39] ty #[.slice (some ⟨g, (i + (n - j)) * 3, none⟩) (n - (i + (n - j))) (cap - (i + (n - j)))]).run Try.prog W1 = .ok (.tuple #[]) (W1.setCells g ((i + (n - j)) * 3) zz) := fun ty =>
  run_clear_cells W1 39 50 ty te50.zero (by kernel_rfl) hzv g ((i + (n - j)) * 3) _ _ zz hzz (fun u hu => hz1 u (by rw [hzz]; exact hu)) (by omega) (fun p hp => by
   rw [← hzz, hzl] at hp
   have : (i + (n - j)) * 3 + p < c1.size := by omega
   simp only [World.cell?, hc1]
   simpa using this) (fun p hp => by simp [World.frozen?, hc1])
 rw [hzz] at hzl
 have hzl : Hid (zz.length = (n - (i + (n - j))) * 3) := hzl
 have hgH : Hid (w.heap[g]? = some (Obj.cells cur 50 (0, 0))) := hg
 have hsH : Hid (cur.size = cap * 3) := hs
 have hnH : Hid (news = (cur.toList.take (n * 3)).drop (j * 3)) := hnews
 have htH : Hid (List.take (n * 3) cur.toList = zs) := ht
 obtain ⟨ti, hti, _, hts, _⟩ := te50_ok.info
 have hts : ti.size = 3 := hts
 have hic : i ≤ cap := by omega
 have hjc : j ≤ cap := by omega
 have hnm : cap ≤ 9223372036854775807 := by unfold maxLen at hcm; omega
 clear hW1 hg hcell hcl hone hz1 hzz hc1 hc2 hnews ht hlen hs
 go_enter Try.func56, Try.ntmps56
 go_wp2
 go_region_law (refine step_append_room rfl (.tmp 22) (.tmp 25) 39 rfl 50 ti 3 (by kernel_rfl) hti hts g 0 i cap (by simp [Act.eval, Act.put]) A (n - j) (cap - j) news (by simp [Act.eval, Act.put]) s1.out hsrc.out s2.out (by omega) s3.out ?_; rw [← hW.out])
 go_wp2
 go_ret
 have hW' := hW.out
 rw [Nat.zero_add, hnH.out] at hW'
 obtain ⟨⟨c3, b1, b2, b3⟩, b4⟩ := del_cells (W1 := W1) (W2 := W1.setCells g ((i + (n - j)) * 3) zz) (zs := zz) hgH.out hnc hsH.out (Nat.le_of_lt hij) hj (by rw [hzl.out]; congr 1; omega) hW' rfl
 rw [htH.out] at b3
 refine ⟨_, rfl, ⟨?_, .inr ⟨g, cap, c3, ?_, hb, b1, by omega, hcm, b2, b3⟩⟩, b4, rfl⟩
 · rw [List.length_append, List.length_take, List.length_drop, hz]
   omega
 · show Value.slice _ (i + (n - j)) cap = _
   rw [show i + (n - j) = n - (j - i) by omega]
set_option maxHeartbeats 4000000 in
set_option maxRecDepth 1000000 in
theorem del_note : DelC Try.prog 65 91 2 := by
 refine ⟨⟨Try.f65, Try.func65, rfl, rfl⟩, fun w base n i j v zs hown hone hij hj hn => ?_⟩
 obtain ⟨hz, hv⟩ := hown
 rcases hv with ⟨_, h⟩ | ⟨g, cap, cur, rfl, hb, hg, hnc, hcm, hs, ht⟩
 · omega
 obtain ⟨news, hnews⟩ : ∃ news, news = (cur.toList.take (n * 2)).drop (j * 2) := ⟨_, rfl⟩
 have hcl : cur.toList.length = cap * 2 := by simpa using hs
 have hlen : news.length = (n - j) * 2 := by rw [hnews, List.length_drop, List.length_take]; omega
 have hcell : ∀ p, p < cap * 2 → ∃ u, cur[p]? = some u := fun p hp => ⟨cur[p]'(by omega), Array.getElem?_eq_getElem _⟩
 obtain ⟨A, hA, hsrc⟩ : ∃ A : Addr, (if cap = j then some (⟨g, 0, none⟩ : Addr) else some ⟨g, j * 2, none⟩) = some A ∧ Hid (∀ t u, news[t]? = some u → w.drew.cell? (A.add t) = some u) := by
  by_cases h : cap = j
  · refine ⟨⟨g, 0, none⟩, by simp [h], fun t u hu => ?_⟩
    have h0 : news.length = 0 := by rw [hlen]; omega
    rw [List.length_eq_zero_iff.1 h0] at hu
    simp at hu
  · refine ⟨⟨g, j * 2, none⟩, by simp [h], fun t u hu => ?_⟩
    have h1 : t < (n - j) * 2 := by
     have := (List.getElem?_eq_some_iff.1 hu).1
     rwa [hlen] at this
    rw [hnews, List.getElem?_drop, List.getElem?_take, if_pos (by omega), Array.getElem?_toList] at hu
    rw [Addr.add_lit]
    show (match w.heap[g]? with | some (.cells c _ _) => _ | _ => _) = _
    rw [hg]
    exact hu
 have s1 : Hid (news.length = (n - j) * 2) := hlen
 have s2 : Hid (∀ u ∈ news, u.oneCell' = true) := fun u hu => hone u (by rw [← ht]; rw [hnews] at hu; exact List.mem_of_mem_drop hu)
 have s3 : Hid (∀ t, t < news.length → (w.drew.cell? ⟨g, 0 + i * 2 + t, none⟩).isSome = true ∧ w.drew.frozen? ⟨g, 0 + i * 2 + t, none⟩ = false) := by
  intro t ht
  rw [hlen] at ht
  obtain ⟨u, hu⟩ := hcell (0 + i * 2 + t) (by omega)
  refine ⟨?_, ?_⟩
  · show (World.cell? w _).isSome = true
    simp only [World.cell?, hg]
    have : 0 + i * 2 + t < cur.size := by omega
    simpa using this
  · show World.frozen? w _ = false
    simp [World.frozen?, hg]
 obtain ⟨W1, hW1⟩ : ∃ W1, W1 = w.drew.setCells g (0 + i * 2) news := ⟨_, rfl⟩
 have hW : Hid (W1 = w.drew.setCells g (0 + i * 2) news) := hW1
 have hzv := zero_run te91_ok
 obtain ⟨c1, hc1, hc2, _⟩ := setCells_heap g news (0 + i * 2) w.drew cur hg (by rw [hlen]; omega)
 rw [← hW1] at hc1
 have hzl : (Builtin.zeroCells te91.zero.cells (n - (i + (n - j)))).toList.length = (n - (i + (n - j))) * 2 := by simp [Builtin.zeroCells, te91, Value.cells]
 have hz1 : ∀ u ∈ (Builtin.zeroCells te91.zero.cells (n - (i + (n - j)))).toList, u.oneCell' = true := by
  intro u hu
  obtain ⟨p, hp, rfl⟩ := List.mem_iff_getElem.1 hu
  simp [Builtin.zeroCells, te91, Value.cells]
  have : p % 2 = 0 ∨ p % 2 = 1 := by omega
  rcases this with h | h <;> simp [h] <;> rfl
 obtain ⟨zz, hzz⟩ : ∃ zz, (Builtin.zeroCells te91.zero.cells (n - (i + (n - j)))).toList = zz := ⟨_, rfl⟩
 have hclr : ∀ ty, (Builtin.clear_ #[80] ty #[.slice (some ⟨g, (i + (n - j)) * 2, none⟩) (n - (i + (n - j))) (cap - (i + (n - j)))]).run Try.prog W1 = .ok (.tuple #[]) (W1.setCells g ((i + (n - j)) * 2) zz) := fun ty =>
  run_clear_cells W1 80 91 ty te91.zero (by kernel_rfl) hzv g ((i + (n - j)) * 2) _ _ zz hzz (fun u hu => hz1 u (by rw [hzz]; exact hu)) (by omega) (fun p hp => by
   rw [← hzz, hzl] at hp
   have : (i + (n - j)) * 2 + p < c1.size := by omega
   simp only [World.cell?, hc1]
   simpa using this) (fun p hp => by simp [World.frozen?, hc1])
 rw [hzz] at hzl
 have hzl : Hid (zz.length = (n - (i + (n - j))) * 2) := hzl
 have hgH : Hid (w.heap[g]? = some (Obj.cells cur 91 (0, 0))) := hg
 have hsH : Hid (cur.size = cap * 2) := hs
 have hnH : Hid (news = (cur.toList.take (n * 2)).drop (j * 2)) := hnews
 have htH : Hid (List.take (n * 2) cur.toList = zs) := ht
 obtain ⟨ti, hti, _, hts, _⟩ := te91_ok.info
 have hts : ti.size = 2 := hts
 have hic : i ≤ cap := by omega
 have hjc : j ≤ cap := by omega
 have hnm : cap ≤ 9223372036854775807 := by unfold maxLen at hcm; omega
 clear hW1 hg hcell hcl hone hz1 hzz hc1 hc2 hnews ht hlen hs
 go_enter Try.func65, Try.ntmps65
 go_wp2
 go_region_law (refine step_append_room rfl (.tmp 22) (.tmp 25) 80 rfl 91 ti 2 (by kernel_rfl) hti hts g 0 i cap (by simp [Act.eval, Act.put]) A (n - j) (cap - j) news (by simp [Act.eval, Act.put]) s1.out hsrc.out s2.out (by omega) s3.out ?_; rw [← hW.out])
 go_wp2
 go_ret
 have hW' := hW.out
 rw [Nat.zero_add, hnH.out] at hW'
 obtain ⟨⟨c3, b1, b2, b3⟩, b4⟩ := del_cells (W1 := W1) (W2 := W1.setCells g ((i + (n - j)) * 2) zz) (zs := zz) hgH.out hnc hsH.out (Nat.le_of_lt hij) hj (by rw [hzl.out]; congr 1; omega) hW' rfl
 rw [htH.out] at b3
 refine ⟨_, rfl, ⟨?_, .inr ⟨g, cap, c3, ?_, hb, b1, by omega, hcm, b2, b3⟩⟩, b4, rfl⟩
 · rw [List.length_append, List.length_take, List.length_drop, hz]
   omega
 · show Value.slice _ (i + (n - j)) cap = _
   rw [show i + (n - j) = n - (j - i) by omega]
open Go Go.Vc
theorem FnM.del {P : Program} {f : Nat} {e : TypeId} {τ : Ty} (hD : DelC P f e τ.size) {xs : List τ.T} {i j : Nat} {a b : Int} {fr : Bool} (ha : a = i) (hb : b = j) (hij : i < j) (hj : j ≤ xs.length) (hn : xs.length ≤ 4294967296) :
  FnM P f [.own 5000, .lit (.int .i64 a), .lit (.int .i64 b)] [(5000, .row e τ fr xs)] (.own 5000) [(5000, .row e τ fr (xs.take i ++ xs.drop j))] := by
 subst ha hb
 refine ⟨hD.1, fun w O vals g0 hO hhp hvl hargs => ?_⟩
 match vals, hvl with
 | [v0, v1, v2], _ =>
  have h0 : v0 = g0 5000 := hargs 0 v0 _ rfl rfl
  have h1 : v1 = _ := (hargs 1 v1 _ rfl rfl).1
  have h2 : v2 = _ := (hargs 2 v2 _ rfl rfl).1
  subst h0 h1 h2
  obtain ⟨zs, ho, h1c, hc⟩ : RowOk _ _ _ _ _ _ _ _ _ := hhp.ok 5000 _ rfl
  refine (hD.2 w 0 xs.length i j _ zs ho h1c hij hj hn).mono ?_
  rintro x w' ⟨u, rfl, o1, gb, bu⟩
  have hO0 : ∀ b, Oset [(5000, Ob.row e τ fr xs)] g0 b → Blk (g0 5000) b := by
   rintro b ⟨k, o, h3, h4⟩
   rw [get?_cons] at h3
   split at h3
   · rename_i hk
     subst hk
     exact h4
   · cases h3
  have hO1 : ∀ b, Blk (g0 5000) b → Oset [(5000, Ob.row e τ fr xs)] g0 b := fun b h => ⟨5000, _, rfl, h⟩
  have hO2 : ∀ b, Oset [(5000, Ob.row e τ fr (xs.take i ++ xs.drop j))] (fun k => if k = 5000 then u else g0 k) b → blk u = some b := by
   rintro b ⟨k, o, h3, h4⟩
   rw [get?_cons] at h3
   split at h3
   · rename_i hk
     subst hk
     exact ownsRow_blk o1 h4
   · cases h3
  refine ⟨u, fun k => if k = 5000 then u else g0 k, rfl, ⟨gb.os, gb.tape, gb.output, gb.size, fun b hb hn => gb.block b hb fun he => hn (hO1 b (.of he.symm))⟩, fun k hk => ?_, fun b hb => ?_, ?_, ?_⟩
  · have : k ≠ 5000 := fun e => by subst e; revert hk; decide
    simp [this]
  · have := hO2 b hb
    rw [bu] at this
    exact .inl (hO1 b (.of this))
  · show u = _
    simp
  · have hm : ∀ v A, RpS w (Av (Oset [(5000, Ob.row e τ fr xs)] g0) O fr) v A → RpS w' (Av (Oset [(5000, Ob.row e τ fr (xs.take i ++ xs.drop j))] (fun k => if k = 5000 then u else g0 k)) O fr) v A := by
     intro v A h
     refine h.mono fun b' y e2 fz hb' hn => ⟨?_, fun h' => ?_⟩
     · rw [gb.block b' (heap_lt hb') (fun h' => hn (.inl (hO1 b' (.of h'.symm))))]; exact hb'
     · rcases h' with h' | h'
       · have h3 := hO2 b' h'
         rw [bu] at h3
         exact hn (.inl (hO1 b' (.of h3)))
       · exact hn (.inr h')
    refine ⟨fun k o hk => ?_, fun k k' o o' b h3 h4 _ _ => ?_⟩
    · rw [get?_cons] at hk
      split at hk
      · rename_i h3
        subst h3
        cases hk
        refine ⟨_, ?_, ?_, Cells.del ho.1 (Nat.le_of_lt hij) hj hc hm⟩
        · have : (xs.take i ++ xs.drop j).length = xs.length - (j - i) := by rw [List.length_append, List.length_take, List.length_drop]; omega
          rw [this]
          simpa using o1
        · intro x hx
          rcases List.mem_append.1 hx with h | h
          · exact h1c x (List.mem_of_mem_take h)
          · exact h1c x (List.mem_of_mem_drop h)
      · cases hk
    · rw [get?_cons] at h3 h4
      split at h3
      · split at h4
        · omega
        · cases h4
      · cases h3
open Int renaming reduceToNat → zr, reduceTDiv → zd, reduceTMod → zm
open Go Go.Vc Go.RowKit Go.Lib
open Go Go.Vc Go.Rg
variable {hs : List Hd} {fl : List Lt}
theorem is_at (h : 0 < hs.length) : FnM Try.prog 51 [.padr 1000000000 0] [(1000000000, .box [.own 1000000001, .own 1000000002]), (1000000001, .row 96 HT true (hs)), (1000000002, .row 50 LT true (fl))] (.lit (.bool true)) [(1000000000, .box [.own 1000000001, .own 1000000002]), (1000000001, .row 96 HT true (hs)), (1000000002, .row 50 LT true (fl))] := by
 have hl : @List.length HT.T hs = hs.length := rfl
 refine FnM.of_body tys_ok Try.func51 (by rfl) rfl Try.ntmps51 (by rw [Try.results51]) (by simp) ?_
 repeat' (first
 | refine W.seq ?_
 | refine W.block ?_
 | (refine W.region tys_ok [] ?_; conv => whnf)
 | (refine W.drawAll tys_ok [] mixed rfl ?_; conv => whnf)
 | (refine W.ret ?_; conv => whnf)
 | (refine W.skip ?_; conv => whnf)
 | (refine W.exit ?_; conv => whnf)
 | (refine W.cond rfl (fun hb => ?_) (fun hb => ?_) <;> (try simp only [zr, zd, zm, minL, maxL, pickB, zA] at hb) <;> (try (first | (cases hb; done) | exact absurd hb (by decide) | (exfalso; omega) | (omega))))
 | ((with_reducible refine And.intro ?_ ?_); exact zc; conv => whnf)
 | ((with_reducible refine And.intro (Side.out ?_) ?_); rotate_left; (conv => whnf))
 | ((first | refine retM1 ?_ | refine retM2 ?_) <;> (conv => whnf) <;> repeat' (first
 | exact trivial
 | (with_reducible rfl)
 | ((with_reducible refine And.intro ?_ ?_) <;> conv => whnf)
 | omega
 | rfl
 | (refine congrArg (SV.arr _) ?_)
 | (refine congrArg (Value.int _) ?_)
 | (refine congrArg Value.bool ?_)))); all_goals (try unfold Side)
 all_goals try (repeat' (first | exact zb | with_reducible refine And.intro ?_ ?_))
 all_goals (simp [pickB]; omega)
theorem hasf_at {i : Int} {b : Bool} (h : b = !hasB hs.length i) : FnM Try.prog 76 [.lit (.int .i64 i), .padr 1000000003 0] [(1000000003, .box1 (.padr 1000000000 0)), (1000000000, .box [.own 1000000001, .own 1000000002]), (1000000001, .row 96 HT true (hs)), (1000000002, .row 50 LT true (fl))] (.lit (.bool b)) [(1000000003, .box1 (.padr 1000000000 0)), (1000000000, .box [.own 1000000001, .own 1000000002]), (1000000001, .row 96 HT true (hs)), (1000000002, .row 50 LT true (fl))] := by
 subst h
 have hl : @List.length HT.T hs = hs.length := rfl
 refine FnM.of_body tys_ok Try.func76 (by rfl) rfl Try.ntmps76 (by rw [Try.results76]) (by simp) ?_
 repeat' (first
 | refine W.seq ?_
 | refine W.block ?_
 | (refine W.region tys_ok [] ?_; conv => whnf)
 | (refine W.drawAll tys_ok [] mixed rfl ?_; conv => whnf)
 | (refine W.ret ?_; conv => whnf)
 | (refine W.skip ?_; conv => whnf)
 | (refine W.exit ?_; conv => whnf)
 | (refine W.cond rfl (fun hb => ?_) (fun hb => ?_) <;> (try simp only [zr, zd, zm, minL, maxL, pickB, zA] at hb) <;> (try (first | (cases hb; done) | exact absurd hb (by decide) | (exfalso; omega) | (omega))))
 | ((with_reducible refine And.intro ?_ ?_); exact zc; conv => whnf)
 | ((with_reducible refine And.intro (Side.out ?_) ?_); rotate_left; (conv => whnf))
 | ((first | refine retM1 ?_ | refine retM2 ?_) <;> (conv => whnf) <;> repeat' (first
 | exact trivial
 | (with_reducible rfl)
 | ((with_reducible refine And.intro ?_ ?_) <;> conv => whnf)
 | omega
 | rfl
 | (refine congrArg (SV.arr _) ?_)
 | (refine congrArg (Value.int _) ?_)
 | (refine congrArg Value.bool ?_)))); all_goals (try unfold Side)
 all_goals try (repeat' (first | exact zb | with_reducible refine And.intro ?_ ?_))
 unfold hasB
 simp only [pickB]
 rw [Bool.eq_iff_iff]
 simp
 omega
def ixB (n : Nat) (l : List Int) (i : Nat) : Int := if (l.drop i).all (hasB n) = true then -1 else ((i + (l.drop i).findIdx (fun x => !hasB n x) : Nat) : Int)
theorem ixB_end {n : Nat} {l : List Int} {i : Nat} (h : l.length ≤ i) : ixB n l i = -1 := by
 unfold ixB
 rw [List.drop_of_length_le h]
 rfl
theorem ixB_no {n : Nat} {l : List Int} {i : Nat} (h : i < l.length) (hb : hasB n (l.getD i 0) = false) : ixB n l i = (i : Int) := by
 unfold ixB
 rw [List.drop_eq_getElem_cons h]
 have : l.getD i 0 = l[i] := by rw [List.getD_eq_getElem?_getD, List.getElem?_eq_getElem h]; rfl
 rw [this] at hb
 rw [List.all_cons, hb, Bool.false_and, if_neg (by decide), List.findIdx_cons, hb]
 simp
theorem ixB_yes {n : Nat} {l : List Int} {i : Nat} (h : i < l.length) (hb : hasB n (l.getD i 0) = true) : ixB n l i = ixB n l (i + 1) := by
 unfold ixB
 rw [List.drop_eq_getElem_cons h]
 have : l.getD i 0 = l[i] := by rw [List.getD_eq_getElem?_getD, List.getElem?_eq_getElem h]; rfl
 rw [this] at hb
 simp only [List.all_cons, hb, Bool.true_and, List.findIdx_cons, Bool.not_true, cond_false]
 split
 · rfl
 · congr 1; omega
theorem ixB_sign {n : Nat} {l : List Int} : decide (0 ≤ ixB n l 0) = !l.all (hasB n) := by
 unfold ixB
 rw [List.drop_zero]
 cases h : l.all (hasB n)
 · simp
 · simp
theorem index_at {l : List Int} (hll : l.length ≤ 1000) : FnM Try.prog 81 [.st false (.arr (.int .i64) l), .fn 76 [.padr 1000000003 0]] [(1000000003, .box1 (.padr 1000000000 0)), (1000000000, .box [.own 1000000001, .own 1000000002]), (1000000001, .row 96 HT true (hs)), (1000000002, .row 50 LT true (fl))] (.lit (.int .i64 (ixB hs.length l 0))) [(1000000003, .box1 (.padr 1000000000 0)), (1000000000, .box [.own 1000000001, .own 1000000002]), (1000000001, .row 96 HT true (hs)), (1000000002, .row 50 LT true (fl))] := by
 have hl : @List.length (Ty.int .i64).T l = l.length := rfl
 refine FnM.of_body tys_ok Try.func81 (by rfl) rfl Try.ntmps81 (by rw [Try.results81]) (by simp) ?_
 repeat' (first
 | refine W.seq ?_
 | refine W.block ?_
 | (refine W.region tys_ok [] ?_; conv => whnf)
 | (refine W.drawAll tys_ok [] mixed rfl ?_; conv => whnf)
 | (refine W.ret ?_; conv => whnf)
 | (refine W.skip ?_; conv => whnf)
 | (refine W.exit ?_; conv => whnf)
 | (refine W.cond rfl (fun hb => ?_) (fun hb => ?_) <;> (try simp only [zr, zd, zm, minL, maxL, pickB, zA] at hb) <;> (try (first | (cases hb; done) | exact absurd hb (by decide) | (exfalso; omega) | (omega))))
 | ((with_reducible refine And.intro ?_ ?_); exact zc; conv => whnf)
 | ((with_reducible refine And.intro (Side.out ?_) ?_); rotate_left; (conv => whnf))
 | ((first | refine retM1 ?_ | refine retM2 ?_) <;> (conv => whnf) <;> repeat' (first
 | exact trivial
 | (with_reducible rfl)
 | ((with_reducible refine And.intro ?_ ?_) <;> conv => whnf)
 | omega
 | rfl
 | (refine congrArg (SV.arr _) ?_)
 | (refine congrArg (Value.int _) ?_)
 | (refine congrArg Value.bool ?_)))); all_goals (try unfold Side)
 all_goals try (repeat' (first | exact zb | with_reducible refine And.intro ?_ ?_))
 refine W.loop (fun i : Nat => ⟨[(0, .st false (.arr (.int .i64) l)), (1, .fn 76 [.padr 1000000003 0]), (7, .lit (.int .i64 ((l.length : Int)))), (8, .lit (.int .i64 (i)))], [(1000000003, .box1 (.padr 1000000000 0)), (1000000000, .box [.own 1000000001, .own 1000000002]), (1000000001, .row 96 HT true hs), (1000000002, .row 50 LT true fl)]⟩) (fun i => i ≤ l.length ∧ ixB hs.length l 0 = ixB hs.length l i) (fun i => l.length - i) (0) ?_ ?_
 · refine ⟨⟨Nat.zero_le _, rfl⟩, ?_⟩
   refine subF.ok ?_ <;> (conv => whnf) <;> repeat' (first
 | exact trivial
 | (with_reducible rfl)
 | ((with_reducible refine And.intro ?_ ?_) <;> conv => whnf)
 | omega
 | rfl
 | (refine congrArg (SV.arr _) ?_)
 | (refine congrArg (Value.int _) ?_)
 | (refine congrArg Value.bool ?_))
 · rintro i ⟨hi, hix⟩
   by_cases hil : i < l.length
   · cases hb0 : hasB hs.length (l.getD i 0) with
     | true =>
      have hy := ixB_yes hil hb0
      have c1 := hasf_at (hs := hs) (fl := fl) (i := l.getD i 0) (b := false) (by rw [hb0]; rfl)
      repeat' (first
 | refine W.seq ?_
 | refine W.block ?_
 | (refine W.regionM (id := 4) tys_ok [] [5] ?_; conv => whnf)
 | (refine W.region tys_ok [] ?_; conv => whnf)
 | (refine W.drawAll tys_ok [] mixed rfl ?_; conv => whnf)
 | (refine W.ret ?_; conv => whnf)
 | (refine W.skip ?_; conv => whnf)
 | (refine W.exit ?_; conv => whnf)
 | (refine callM_at (c1) ?_; conv => whnf)
 | (refine W.cond rfl (fun hb => ?_) (fun hb => ?_) <;> (try simp only [zr, zd, zm, minL, maxL, pickB, zA] at hb) <;> (try (first | (cases hb; done) | exact absurd hb (by decide) | (exfalso; omega) | (omega))))
 | (refine Or.inl (And.intro trivial ?_); (conv => whnf))
 | ((with_reducible refine And.intro ?_ ?_); exact zc; conv => whnf)
 | ((with_reducible refine And.intro (Side.out ?_) ?_); rotate_left; (conv => whnf))
 | ((first | refine retM1 ?_ | refine retM2 ?_) <;> (conv => whnf) <;> repeat' (first
 | exact trivial
 | (with_reducible rfl)
 | ((with_reducible refine And.intro ?_ ?_) <;> conv => whnf)
 | omega
 | rfl
 | (refine congrArg (SV.arr _) ?_)
 | (refine congrArg (Value.int _) ?_)
 | (refine congrArg Value.bool ?_)))); all_goals (try unfold Side)
      all_goals try (repeat' (first | exact zb | with_reducible refine And.intro ?_ ?_))
      refine ⟨i + 1, ⟨⟨by omega, by rw [hix, hy]⟩, by omega⟩, ?_⟩
      refine subF.ok ?_ <;> (conv => whnf) <;> repeat' (first
 | exact trivial
 | (with_reducible rfl)
 | ((with_reducible refine And.intro ?_ ?_) <;> conv => whnf)
 | omega
 | rfl
 | (refine congrArg (SV.arr _) ?_)
 | (refine congrArg (Value.int _) ?_)
 | (refine congrArg Value.bool ?_))
     | false =>
      have hy := ixB_no hil hb0
      have c1 := hasf_at (hs := hs) (fl := fl) (i := l.getD i 0) (b := true) (by rw [hb0]; rfl)
      repeat' (first
 | refine W.seq ?_
 | refine W.block ?_
 | (refine W.regionM (id := 4) tys_ok [] [5] ?_; conv => whnf)
 | (refine W.region tys_ok [] ?_; conv => whnf)
 | (refine W.drawAll tys_ok [] mixed rfl ?_; conv => whnf)
 | (refine W.ret ?_; conv => whnf)
 | (refine W.skip ?_; conv => whnf)
 | (refine W.exit ?_; conv => whnf)
 | (refine callM_at (c1) ?_; conv => whnf)
 | (refine W.cond rfl (fun hb => ?_) (fun hb => ?_) <;> (try simp only [zr, zd, zm, minL, maxL, pickB, zA] at hb) <;> (try (first | (cases hb; done) | exact absurd hb (by decide) | (exfalso; omega) | (omega))))
 | (refine Or.inl (And.intro trivial ?_); (conv => whnf))
 | ((with_reducible refine And.intro ?_ ?_); exact zc; conv => whnf)
 | ((with_reducible refine And.intro (Side.out ?_) ?_); rotate_left; (conv => whnf))
 | ((first | refine retM1 ?_ | refine retM2 ?_) <;> (conv => whnf) <;> repeat' (first
 | exact trivial
 | (with_reducible rfl)
 | ((with_reducible refine And.intro ?_ ?_) <;> conv => whnf)
 | omega
 | rfl
 | (refine congrArg (SV.arr _) ?_)
 | (refine congrArg (Value.int _) ?_)
 | (refine congrArg Value.bool ?_)))); all_goals (try unfold Side)
      all_goals try (repeat' (first | exact zb | with_reducible refine And.intro ?_ ?_))
      all_goals (rw [hix, hy])
   · have hy := ixB_end (n := hs.length) (l := l) (i := i) (by omega)
     repeat' (first
 | refine W.seq ?_
 | refine W.block ?_
 | (refine W.region tys_ok [] ?_; conv => whnf)
 | (refine W.drawAll tys_ok [] mixed rfl ?_; conv => whnf)
 | (refine W.ret ?_; conv => whnf)
 | (refine W.skip ?_; conv => whnf)
 | (refine W.exit ?_; conv => whnf)
 | (refine W.cond rfl (fun hb => ?_) (fun hb => ?_) <;> (try simp only [zr, zd, zm, minL, maxL, pickB, zA] at hb) <;> (try (first | (cases hb; done) | exact absurd hb (by decide) | (exfalso; omega) | (omega))))
 | ((with_reducible refine And.intro ?_ ?_); exact zc; conv => whnf)
 | ((with_reducible refine And.intro (Side.out ?_) ?_); rotate_left; (conv => whnf))
 | ((first | refine retM1 ?_ | refine retM2 ?_) <;> (conv => whnf) <;> repeat' (first
 | exact trivial
 | (with_reducible rfl)
 | ((with_reducible refine And.intro ?_ ?_) <;> conv => whnf)
 | omega
 | rfl
 | (refine congrArg (SV.arr _) ?_)
 | (refine congrArg (Value.int _) ?_)
 | (refine congrArg Value.bool ?_)))); all_goals (try unfold Side)
     all_goals try (repeat' (first | exact zb | with_reducible refine And.intro ?_ ?_))
     all_goals (rw [hix, hy])
theorem contains_at {l : List Int} (hll : l.length ≤ 1000) : FnM Try.prog 75 [.st false (.arr (.int .i64) l), .fn 76 [.padr 1000000003 0]] [(1000000003, .box1 (.padr 1000000000 0)), (1000000000, .box [.own 1000000001, .own 1000000002]), (1000000001, .row 96 HT true (hs)), (1000000002, .row 50 LT true (fl))] (.lit (.bool (!l.all (hasB hs.length)))) [(1000000003, .box1 (.padr 1000000000 0)), (1000000000, .box [.own 1000000001, .own 1000000002]), (1000000001, .row 96 HT true (hs)), (1000000002, .row 50 LT true (fl))] := by
 have c1 := index_at (hs := hs) (fl := fl) hll
 have hs1 := ixB_sign (n := hs.length) (l := l)
 refine FnM.of_body tys_ok Try.func75 (by rfl) rfl Try.ntmps75 (by rw [Try.results75]) (by simp) ?_
 repeat' (first
 | refine W.seq ?_
 | refine W.block ?_
 | (refine W.regionM (id := 1) tys_ok [] [2] ?_; conv => whnf)
 | (refine W.region tys_ok [] ?_; conv => whnf)
 | (refine W.drawAll tys_ok [] mixed rfl ?_; conv => whnf)
 | (refine W.ret ?_; conv => whnf)
 | (refine W.skip ?_; conv => whnf)
 | (refine W.exit ?_; conv => whnf)
 | (refine callM_at (c1) ?_; conv => whnf)
 | (refine W.cond rfl (fun hb => ?_) (fun hb => ?_) <;> (try simp only [zr, zd, zm, minL, maxL, pickB, zA] at hb) <;> (try (first | (cases hb; done) | exact absurd hb (by decide) | (exfalso; omega) | (omega))))
 | (refine Or.inl (And.intro trivial ?_); (conv => whnf))
 | ((with_reducible refine And.intro ?_ ?_); exact zc; conv => whnf)
 | ((with_reducible refine And.intro (Side.out ?_) ?_); rotate_left; (conv => whnf))
 | ((first | refine retM1 ?_ | refine retM2 ?_) <;> (conv => whnf) <;> repeat' (first
 | exact trivial
 | (with_reducible rfl)
 | ((with_reducible refine And.intro ?_ ?_) <;> conv => whnf)
 | omega
 | rfl
 | (refine congrArg (SV.arr _) ?_)
 | (refine congrArg (Value.int _) ?_)
 | (refine congrArg Value.bool ?_)))); all_goals (try unfold Side)
 all_goals try (repeat' (first | exact zb | with_reducible refine And.intro ?_ ?_))
 all_goals exact hs1
theorem has_at {l : List Int} {b : Bool} (hll : l.length ≤ 1000) (h : b = l.all (hasB hs.length)) : FnM Try.prog 52 [.padr 1000000000 0, .st false (.arr (.int .i64) l)] [(1000000000, .box [.own 1000000001, .own 1000000002]), (1000000001, .row 96 HT true (hs)), (1000000002, .row 50 LT true (fl))] (.lit (.bool b)) [(1000000000, .box [.own 1000000001, .own 1000000002]), (1000000001, .row 96 HT true (hs)), (1000000002, .row 50 LT true (fl))] := by
 subst h
 have c1 := contains_at (hs := hs) (fl := fl) hll
 refine FnM.of_body tys_ok Try.func52 (by rfl) rfl Try.ntmps52 (by rw [Try.results52]) (by simp) ?_
 repeat' (first
 | refine W.seq ?_
 | refine W.block ?_
 | (refine W.regionM (id := 1) tys_ok [] [2] ?_; conv => whnf)
 | (refine W.region tys_ok [] ?_; conv => whnf)
 | (refine W.drawAll tys_ok [] mixed rfl ?_; conv => whnf)
 | (refine W.ret ?_; conv => whnf)
 | (refine W.skip ?_; conv => whnf)
 | (refine W.exit ?_; conv => whnf)
 | (refine callM_at (c1) ?_; conv => whnf)
 | (refine W.cond rfl (fun hb => ?_) (fun hb => ?_) <;> (try simp only [zr, zd, zm, minL, maxL, pickB, zA] at hb) <;> (try (first | (cases hb; done) | exact absurd hb (by decide) | (exfalso; omega) | (omega))))
 | (refine Or.inl (And.intro trivial ?_); (conv => whnf))
 | ((with_reducible refine And.intro ?_ ?_); exact zc; conv => whnf)
 | ((with_reducible refine And.intro (Side.out ?_) ?_); rotate_left; (conv => whnf))
 | ((first | refine retM1 ?_ | refine retM2 ?_) <;> (conv => whnf) <;> repeat' (first
 | exact trivial
 | (with_reducible rfl)
 | ((with_reducible refine And.intro ?_ ?_) <;> conv => whnf)
 | omega
 | rfl
 | (refine congrArg (SV.arr _) ?_)
 | (refine congrArg (Value.int _) ?_)
 | (refine congrArg Value.bool ?_)))); all_goals (try unfold Side)
 all_goals try (repeat' (first | exact zb | with_reducible refine And.intro ?_ ?_))
 all_goals simp
open Int renaming reduceToNat → zr, reduceTDiv → zd, reduceTMod → zm
open Go Go.Vc Go.Rg
variable {hs : List Hd} {fl : List Lt}
theorem leaves_at {i : Nat} {b : Bool} (hi : i < hs.length) (h : b = goesB hs i) : FnM Try.prog 53 [.padr 1000000000 0, .lit (.int .i64 (i : Int))] [(1000000000, .box [.own 1000000001, .own 1000000002]), (1000000001, .row 96 HT true (hs)), (1000000002, .row 50 LT true (fl))] (.lit (.bool b)) [(1000000000, .box [.own 1000000001, .own 1000000002]), (1000000001, .row 96 HT true (hs)), (1000000002, .row 50 LT true (fl))] := by
 subst h
 have hl : @List.length HT.T hs = hs.length := rfl
 refine FnM.of_body tys_ok Try.func53 (by rfl) rfl Try.ntmps53 (by rw [Try.results53]) (by simp) ?_
 repeat' (first
 | refine W.seq ?_
 | refine W.block ?_
 | (refine W.region tys_ok [] ?_; conv => whnf)
 | (refine W.drawAll tys_ok [] mixed rfl ?_; conv => whnf)
 | (refine W.ret ?_; conv => whnf)
 | (refine W.skip ?_; conv => whnf)
 | (refine W.exit ?_; conv => whnf)
 | (refine W.cond rfl (fun hb => ?_) (fun hb => ?_) <;> (try simp only [zr, zd, zm, minL, maxL, pickB, zA] at hb) <;> (try (first | (cases hb; done) | exact absurd hb (by decide) | (exfalso; omega) | (omega))))
 | ((with_reducible refine And.intro ?_ ?_); exact zc; conv => whnf)
 | ((with_reducible refine And.intro (Side.out ?_) ?_); rotate_left; (conv => whnf))
 | ((first | refine retM1 ?_ | refine retM2 ?_) <;> (conv => whnf) <;> repeat' (first
 | exact trivial
 | (with_reducible rfl)
 | ((with_reducible refine And.intro ?_ ?_) <;> conv => whnf)
 | omega
 | rfl
 | (refine congrArg (SV.arr _) ?_)
 | (refine congrArg (Value.int _) ?_)
 | (refine congrArg Value.bool ?_)))); all_goals (try unfold Side)
 all_goals try (repeat' (first | exact zb | with_reducible refine And.intro ?_ ?_))
 rw [Int.toNat_natCast]
 show pickB (pickB (pickB (!decide ((i : Int) = 0)) (Operand.tmp 17) (Operand.const (Value.bool false)) (ge hs i) false) (Operand.tmp 22) (Operand.const (Value.bool false)) (!gw hs i) false) (Operand.tmp 27) (Operand.const (Value.bool false)) (decide (go hs i = 0)) false = goesB hs i
 unfold goesB
 simp only [pickB]
 by_cases e : i = 0
 · subst e; simp
 · have : ¬ (i : Int) = 0 := by omega
   cases ge hs i <;> cases gw hs i <;> simp [e, this]
theorem settle_no {i : Nat} (hi : i < hs.length) (h : goesB hs i = false) : FnM Try.prog 54 [.padr 1000000000 0, .lit (.int .i64 (i : Int))] [(1000000000, .box [.own 1000000001, .own 5]), (1000000001, .row 96 HT true (hs)), (5, .row 50 LT true (fl))] (.tup []) [(1000000000, .box [.own 1000000001, .own 5]), (1000000001, .row 96 HT true (hs)), (5, .row 50 LT true (fl))] := by
 have c1 := leaves_at (fl := fl) hi h.symm
 refine FnM.of_body tys_ok Try.func54 (by rfl) rfl Try.ntmps54 (by rw [Try.results54]) (by simp) ?_
 repeat' (first
 | refine W.seq ?_
 | refine W.block ?_
 | (refine W.regionM (id := 0) tys_ok [] [2] ?_; conv => whnf)
 | (refine W.region tys_ok [] ?_; conv => whnf)
 | (refine W.drawAll tys_ok [] mixed rfl ?_; conv => whnf)
 | (refine W.ret ?_; conv => whnf)
 | (refine W.skip ?_; conv => whnf)
 | (refine W.exit ?_; conv => whnf)
 | (refine callM_at (c1) ?_; conv => whnf)
 | (refine W.cond rfl (fun hb => ?_) (fun hb => ?_) <;> (try simp only [zr, zd, zm, minL, maxL, pickB, zA] at hb) <;> (try (first | (cases hb; done) | exact absurd hb (by decide) | (exfalso; omega) | (omega))))
 | (refine Or.inl (And.intro trivial ?_); (conv => whnf))
 | ((with_reducible refine And.intro ?_ ?_); exact zc; conv => whnf)
 | ((with_reducible refine And.intro (Side.out ?_) ?_); rotate_left; (conv => whnf))
 | ((first | refine retM1 ?_ | refine retM2 ?_) <;> (conv => whnf) <;> repeat' (first
 | exact trivial
 | (with_reducible rfl)
 | ((with_reducible refine And.intro ?_ ?_) <;> conv => whnf)
 | omega
 | rfl
 | (refine congrArg (SV.arr _) ?_)
 | (refine congrArg (Value.int _) ?_)
 | (refine congrArg Value.bool ?_)))); all_goals (try unfold Side)
 all_goals try (repeat' (first | exact zb | with_reducible refine And.intro ?_ ?_))
set_option maxHeartbeats 4000000 in
theorem settle_yes {i : Nat} (hi : i < hs.length) (hfl : fl.length ≤ 1000) (h : goesB hs i = true) : FnM Try.prog 54 [.padr 1000000000 0, .lit (.int .i64 (i : Int))] [(1000000000, .box [.own 1000000001, .own 5]), (1000000001, .row 96 HT true (hs)), (5, .row 50 LT true (fl))] (.tup []) [(1000000000, .box [.own 1000000001, .own 5]), (1000000001, .row 96 HT true ((leftL i (hs, fl)).1)), (5, .row 50 LT true ((leftL i (hs, fl)).2))] := by
 have c1 := leaves_at (fl := fl) hi h.symm
 have hl : @List.length HT.T hs = hs.length := rfl
 have hlf : @List.length LT.T fl = fl.length := rfl
 refine FnM.of_body tys_ok Try.func54 (by rfl) rfl Try.ntmps54 (by rw [Try.results54]) (by simp) ?_
 have e1 : (hs.set i ((hs.getD i H0).1, false, (hs.getD i H0).2.2)).getD i H0 = ((hs.getD i H0).1, false, (hs.getD i H0).2.2) := by rw [Rg.getD_set hi, if_pos rfl]
 have e2 : (hs.set i ((hs.getD i H0).1, false, (hs.getD i H0).2.2)).set i (((hs.set i ((hs.getD i H0).1, false, (hs.getD i H0).2.2)).getD i H0).1, ((hs.set i ((hs.getD i H0).1, false, (hs.getD i H0).2.2)).getD i H0).2.1, -1, ((hs.set i ((hs.getD i H0).1, false, (hs.getD i H0).2.2)).getD i H0).2.2.2) = (leftL i (hs, fl)).1 := by
  rw [e1, List.set_set]; rfl
 have e3 : i < (hs.set i ((hs.getD i H0).1, false, (hs.getD i H0).2.2)).length := by rw [List.length_set]; exact hi
 repeat' (first
 | refine W.seq ?_
 | refine W.block ?_
 | (refine W.regionM (id := 0) tys_ok [] [2] ?_; conv => whnf)
 | (refine W.resub (x := Code.region 2 _ _) (Γ' := ⟨[(0, .padr 1000000000 0), (1, .lit (.int .i64 ((i : Int)))), (4, .oadr 1000000001 4 i 0)], [(1000000000, .box [.own 1000000001, .own 5]), (1000000001, .row 96 HT true (hs)), (5, .row 50 LT true (fl))]⟩) ?_ ?_; rotate_left; refine W.drawPhTo (id := 2) tys_ok [] mixed [0, 0, 2, 4, 8, 0, 0, 64, 128, 256, 544, 1024, 2064, 8191, 16383, 24575] [([0, 1, 2, 3, 5, 6, 7, 8], 4, 4095), ([], 1, 8191), ([13, 14], 1, 65535)] ⟨[(0, .padr 1000000000 0), (4, .oadr 1000000001 4 i 0)], [(1000000000, .box [.own 1000000001, .own 5]), (1000000001, .row 96 HT true (hs)), (5, .row 50 LT true (fl ++ [((i : Int), gp hs i, true, ())]))]⟩ (by decide +kernel) ?_ ?_; (conv => whnf); rotate_left; (conv => whnf))
 | (refine W.region tys_ok [] ?_; conv => whnf)
 | (refine W.drawAll tys_ok [] mixed rfl ?_; conv => whnf)
 | (refine W.ret ?_; conv => whnf)
 | (refine W.skip ?_; conv => whnf)
 | (refine W.exit ?_; conv => whnf)
 | (refine callM_at (c1) ?_; conv => whnf)
 | (refine Both.mk ?_ ?_ <;> (conv => whnf))
 | (refine W.cond rfl (fun hb => ?_) (fun hb => ?_) <;> (try simp only [zr, zd, zm, minL, maxL, pickB, zA] at hb) <;> (try (first | (cases hb; done) | exact absurd hb (by decide) | (exfalso; omega) | (omega))))
 | (refine Or.inl (And.intro trivial ?_); (conv => whnf))
 | ((with_reducible refine And.intro ?_ ?_); exact zc; conv => whnf)
 | ((with_reducible refine And.intro (Side.out ?_) ?_); rotate_left; (conv => whnf))
 | ((first | refine retM1 ?_ | refine retM2 ?_ | refine subF.leaf ?_ | refine subF.side ?_) <;> (conv => whnf) <;> repeat' (first
 | exact trivial
 | (with_reducible rfl)
 | ((with_reducible refine And.intro ?_ ?_) <;> conv => whnf)
 | omega
 | rfl
 | (refine congrArg (SV.arr _) ?_)
 | (refine congrArg (Value.int _) ?_)
 | (refine congrArg Value.bool ?_)))); all_goals (try unfold Side)
 all_goals try (repeat' (first | exact zb | with_reducible refine And.intro ?_ ?_))
 · exact e2
 · exact e3
open Go Go.Vc Go.Rg
variable {hs : List Hd} {fl : List Lt}
theorem settle_at {i : Nat} {h2 : List Hd} {f2 : List Lt} (hi : i < hs.length) (hfl : fl.length ≤ 1000) (h : settL i (hs, fl) = (h2, f2)) : FnM Try.prog 54 [.padr 1000000000 0, .lit (.int .i64 (i : Int))] [(1000000000, .box [.own 1000000001, .own 5]), (1000000001, .row 96 HT true (hs)), (5, .row 50 LT true (fl))] (.tup []) [(1000000000, .box [.own 1000000001, .own 5]), (1000000001, .row 96 HT true (h2)), (5, .row 50 LT true (f2))] := by
 cases g : goesB hs i with
 | false =>
  rw [settL, if_neg (by rw [g]; decide)] at h
  cases h
  exact settle_no hi g
 | true =>
  rw [settL, if_pos g] at h
  have e1 : h2 = (leftL i (hs, fl)).1 := by rw [h]
  have e2 : f2 = (leftL i (hs, fl)).2 := by rw [h]
  rw [e1, e2]
  exact settle_yes hi hfl g
theorem send_arg {a b : Int} (h0 : 0 < hs.length) (h : (hasB hs.length a && hasB hs.length b) = false) : FnM Try.prog 38 [.padr 1000000000 0, .lit (.int .i64 a), .lit (.int .i64 b)] [(1000000000, .box [.own 1000000001, .own 5]), (1000000001, .row 96 HT true (hs)), (5, .row 50 LT true (fl))] (.lit (.int .i64 1)) [(1000000000, .box [.own 1000000001, .own 5]), (1000000001, .row 96 HT true (hs)), (5, .row 50 LT true (fl))] := by
 have c1 := is_at (fl := fl) h0
 have c2 := has_at (hs := hs) (fl := fl) (l := [a, b]) (b := false) (by simp) (by simpa using h.symm)
 refine FnM.of_body tys_ok Try.func38 (by rfl) rfl Try.ntmps38 (by rw [Try.results38]) (by simp) ?_
 repeat' (first
 | refine W.seq ?_
 | refine W.block ?_
 | (refine W.regionM (id := 1) tys_ok [15] [1] ?_; conv => whnf)
 | (refine W.regionM (id := 3) tys_ok [15] [4] ?_; conv => whnf)
 | (refine W.region tys_ok [15] ?_; conv => whnf)
 | (refine W.drawAll tys_ok [15] mixed rfl ?_; conv => whnf)
 | (refine W.ret ?_; conv => whnf)
 | (refine W.skip ?_; conv => whnf)
 | (refine W.exit ?_; conv => whnf)
 | (refine callM_at (c1) ?_; conv => whnf)
 | (refine callM_at (c2) ?_; conv => whnf)
 | (refine W.cond rfl (fun hb => ?_) (fun hb => ?_) <;> (try simp only [zr, zd, zm, minL, maxL, pickB, zA] at hb) <;> (try (first | (cases hb; done) | exact absurd hb (by decide) | (exfalso; omega) | (omega))))
 | (refine Or.inl (And.intro trivial ?_); (conv => whnf))
 | ((with_reducible refine And.intro ?_ ?_); exact zc; conv => whnf)
 | ((with_reducible refine And.intro (Side.out ?_) ?_); rotate_left; (conv => whnf))
 | ((first | refine retM1 ?_ | refine retM2 ?_) <;> (conv => whnf) <;> repeat' (first
 | exact trivial
 | (with_reducible rfl)
 | ((with_reducible refine And.intro ?_ ?_) <;> conv => whnf)
 | omega
 | rfl
 | (refine congrArg (SV.arr _) ?_)
 | (refine congrArg (Value.int _) ?_)
 | (refine congrArg Value.bool ?_)))); all_goals (try unfold Side)
 all_goals try (repeat' (first | exact zb | with_reducible refine And.intro ?_ ?_))
theorem send_none {a b : Nat} (ha : a < hs.length) (hb : b < hs.length) (hw : gw hs a = false) : FnM Try.prog 38 [.padr 1000000000 0, .lit (.int .i64 (a : Int)), .lit (.int .i64 (b : Int))] [(1000000000, .box [.own 1000000001, .own 5]), (1000000001, .row 96 HT true (hs)), (5, .row 50 LT true (fl))] (.lit (.int .i64 5)) [(1000000000, .box [.own 1000000001, .own 5]), (1000000001, .row 96 HT true (hs)), (5, .row 50 LT true (fl))] := by
 have c1 := is_at (hs := hs) (fl := fl) (by omega)
 have c2 := has_at (hs := hs) (fl := fl) (l := [(a : Int), (b : Int)]) (b := true) (by simp) (by simp [has_of ha, has_of hb])
 have hw' : (hs.getD a H0).1 = false := hw
 have hl : @List.length HT.T hs = hs.length := rfl
 refine FnM.of_body tys_ok Try.func38 (by rfl) rfl Try.ntmps38 (by rw [Try.results38]) (by simp) ?_
 repeat' (first
 | refine W.seq ?_
 | refine W.block ?_
 | (refine W.regionM (id := 1) tys_ok [15] [1] ?_; conv => whnf)
 | (refine W.regionM (id := 3) tys_ok [15] [4] ?_; conv => whnf)
 | (refine W.region tys_ok [15] ?_; conv => whnf)
 | (refine W.drawAll tys_ok [15] mixed rfl ?_; conv => whnf)
 | (refine W.ret ?_; conv => whnf)
 | (refine W.skip ?_; conv => whnf)
 | (refine W.exit ?_; conv => whnf)
 | (refine callM_at (c1) ?_; conv => whnf)
 | (refine callM_at (c2) ?_; conv => whnf)
 | (refine W.cond rfl (fun hb => ?_) (fun hb => ?_) <;> (try simp only [zr, zd, zm, minL, maxL, pickB, zA] at hb) <;> (try (first | (cases hb; done) | exact absurd hb (by decide) | (exfalso; omega) | (omega) | ((simp_all; done)))))
 | (refine Or.inl (And.intro trivial ?_); (conv => whnf))
 | ((with_reducible refine And.intro ?_ ?_); exact zc; conv => whnf)
 | ((with_reducible refine And.intro (Side.out ?_) ?_); rotate_left; (conv => whnf))
 | ((first | refine retM1 ?_ | refine retM2 ?_) <;> (conv => whnf) <;> repeat' (first
 | exact trivial
 | (with_reducible rfl)
 | ((with_reducible refine And.intro ?_ ?_) <;> conv => whnf)
 | omega
 | rfl
 | (refine congrArg (SV.arr _) ?_)
 | (refine congrArg (Value.int _) ?_)
 | (refine congrArg Value.bool ?_)))); all_goals (try unfold Side)
 all_goals try (repeat' (first | exact zb | with_reducible refine And.intro ?_ ?_))
theorem send_full {a b : Nat} (ha : a < hs.length) (hb : b < hs.length) (hw : gw hs a = true) (hf : 200 ≤ fl.length) : FnM Try.prog 38 [.padr 1000000000 0, .lit (.int .i64 (a : Int)), .lit (.int .i64 (b : Int))] [(1000000000, .box [.own 1000000001, .own 5]), (1000000001, .row 96 HT true (hs)), (5, .row 50 LT true (fl))] (.lit (.int .i64 7)) [(1000000000, .box [.own 1000000001, .own 5]), (1000000001, .row 96 HT true (hs)), (5, .row 50 LT true (fl))] := by
 have c1 := is_at (hs := hs) (fl := fl) (by omega)
 have c2 := has_at (hs := hs) (fl := fl) (l := [(a : Int), (b : Int)]) (b := true) (by simp) (by simp [has_of ha, has_of hb])
 have hw' : (hs.getD a H0).1 = true := hw
 have hl : @List.length HT.T hs = hs.length := rfl
 have hlf : @List.length LT.T fl = fl.length := rfl
 refine FnM.of_body tys_ok Try.func38 (by rfl) rfl Try.ntmps38 (by rw [Try.results38]) (by simp) ?_
 repeat' (first
 | refine W.seq ?_
 | refine W.block ?_
 | (refine W.regionM (id := 1) tys_ok [15] [1] ?_; conv => whnf)
 | (refine W.regionM (id := 3) tys_ok [15] [4] ?_; conv => whnf)
 | (refine W.region tys_ok [15] ?_; conv => whnf)
 | (refine W.drawAll tys_ok [15] mixed rfl ?_; conv => whnf)
 | (refine W.ret ?_; conv => whnf)
 | (refine W.skip ?_; conv => whnf)
 | (refine W.exit ?_; conv => whnf)
 | (refine callM_at (c1) ?_; conv => whnf)
 | (refine callM_at (c2) ?_; conv => whnf)
 | (refine W.cond rfl (fun hb => ?_) (fun hb => ?_) <;> (try simp only [zr, zd, zm, minL, maxL, pickB, zA] at hb) <;> (try (first | (cases hb; done) | exact absurd hb (by decide) | (exfalso; omega) | (omega) | ((simp_all; done)))))
 | (refine Or.inl (And.intro trivial ?_); (conv => whnf))
 | ((with_reducible refine And.intro ?_ ?_); exact zc; conv => whnf)
 | ((with_reducible refine And.intro (Side.out ?_) ?_); rotate_left; (conv => whnf))
 | ((first | refine retM1 ?_ | refine retM2 ?_) <;> (conv => whnf) <;> repeat' (first
 | exact trivial
 | (with_reducible rfl)
 | ((with_reducible refine And.intro ?_ ?_) <;> conv => whnf)
 | omega
 | rfl
 | (refine congrArg (SV.arr _) ?_)
 | (refine congrArg (Value.int _) ?_)
 | (refine congrArg Value.bool ?_)))); all_goals (try unfold Side)
 all_goals try (repeat' (first | exact zb | with_reducible refine And.intro ?_ ?_))
theorem send_ok {a b : Nat} (ha : a < hs.length) (hb : b < hs.length) (hw : gw hs a = true) (hf : ¬ 200 ≤ fl.length) (ho : 0 ≤ go hs a ∧ go hs a ≤ 1000) : FnM Try.prog 38 [.padr 1000000000 0, .lit (.int .i64 (a : Int)), .lit (.int .i64 (b : Int))] [(1000000000, .box [.own 1000000001, .own 5]), (1000000001, .row 96 HT true (hs)), (5, .row 50 LT true (fl))] (.lit (.int .i64 0)) [(1000000000, .box [.own 1000000001, .own 5]), (1000000001, .row 96 HT true (setO hs a (go hs a + 1))), (5, .row 50 LT true (fl ++ [((a : Int), (b : Int), false, ())]))] := by
 have c1 := is_at (hs := hs) (fl := fl) (by omega)
 have c2 := has_at (hs := hs) (fl := fl) (l := [(a : Int), (b : Int)]) (b := true) (by simp) (by simp [has_of ha, has_of hb])
 have hw' : (hs.getD a H0).1 = true := hw
 have ho' : 0 ≤ (hs.getD a H0).2.2.2.1 ∧ (hs.getD a H0).2.2.2.1 ≤ 1000 := ho
 have hl : @List.length HT.T hs = hs.length := rfl
 have hlf : @List.length LT.T fl = fl.length := rfl
 refine FnM.of_body tys_ok Try.func38 (by rfl) rfl Try.ntmps38 (by rw [Try.results38]) (by simp) ?_
 repeat' (first
 | refine W.seq ?_
 | refine W.block ?_
 | (refine W.regionM (id := 1) tys_ok [15] [1] ?_; conv => whnf)
 | (refine W.regionM (id := 3) tys_ok [15] [4] ?_; conv => whnf)
 | (refine W.region tys_ok [15] ?_; conv => whnf)
 | (refine W.drawAll tys_ok [15] mixed rfl ?_; conv => whnf)
 | (refine W.ret ?_; conv => whnf)
 | (refine W.skip ?_; conv => whnf)
 | (refine W.exit ?_; conv => whnf)
 | (refine callM_at (c1) ?_; conv => whnf)
 | (refine callM_at (c2) ?_; conv => whnf)
 | (refine W.cond rfl (fun hb => ?_) (fun hb => ?_) <;> (try simp only [zr, zd, zm, minL, maxL, pickB, zA] at hb) <;> (try (first | (cases hb; done) | exact absurd hb (by decide) | (exfalso; omega) | (omega) | ((simp_all; done)))))
 | (refine Or.inl (And.intro trivial ?_); (conv => whnf))
 | ((with_reducible refine And.intro ?_ ?_); exact zc; conv => whnf)
 | ((with_reducible refine And.intro (Side.out ?_) ?_); rotate_left; (conv => whnf))
 | ((first | refine retM1 ?_ | refine retM2 ?_) <;> (conv => whnf) <;> repeat' (first
 | exact trivial
 | (with_reducible rfl)
 | ((with_reducible refine And.intro ?_ ?_) <;> conv => whnf)
 | omega
 | rfl
 | (refine congrArg (SV.arr _) ?_)
 | (refine congrArg (Value.int _) ?_)
 | (refine congrArg Value.bool ?_)))); all_goals (try unfold Side)
 all_goals try (repeat' (first | exact zb | with_reducible refine And.intro ?_ ?_))
 · exact Nat.le_of_ble_eq_true rfl
theorem idle_arg {i : Int} (h0 : 0 < hs.length) (h : hasB hs.length i = false) : FnM Try.prog 19 [.padr 1000000000 0, .lit (.int .i64 i)] [(1000000000, .box [.own 1000000001, .own 5]), (1000000001, .row 96 HT true (hs)), (5, .row 50 LT true (fl))] (.lit (.int .i64 1)) [(1000000000, .box [.own 1000000001, .own 5]), (1000000001, .row 96 HT true (hs)), (5, .row 50 LT true (fl))] := by
 have c1 := is_at (fl := fl) h0
 have c2 := has_at (hs := hs) (fl := fl) (l := [i]) (b := false) (by simp) (by simpa using h.symm)
 refine FnM.of_body tys_ok Try.func19 (by rfl) rfl Try.ntmps19 (by rw [Try.results19]) (by simp) ?_
 repeat' (first
 | refine W.seq ?_
 | refine W.block ?_
 | (refine W.regionM (id := 1) tys_ok [12] [1] ?_; conv => whnf)
 | (refine W.regionM (id := 3) tys_ok [12] [3] ?_; conv => whnf)
 | (refine W.region tys_ok [12] ?_; conv => whnf)
 | (refine W.drawAll tys_ok [12] mixed rfl ?_; conv => whnf)
 | (refine W.ret ?_; conv => whnf)
 | (refine W.skip ?_; conv => whnf)
 | (refine W.exit ?_; conv => whnf)
 | (refine callM_at (c1) ?_; conv => whnf)
 | (refine callM_at (c2) ?_; conv => whnf)
 | (refine W.cond rfl (fun hb => ?_) (fun hb => ?_) <;> (try simp only [zr, zd, zm, minL, maxL, pickB, zA] at hb) <;> (try (first | (cases hb; done) | exact absurd hb (by decide) | (exfalso; omega) | (omega))))
 | (refine Or.inl (And.intro trivial ?_); (conv => whnf))
 | ((with_reducible refine And.intro ?_ ?_); exact zc; conv => whnf)
 | ((with_reducible refine And.intro (Side.out ?_) ?_); rotate_left; (conv => whnf))
 | ((first | refine retM1 ?_ | refine retM2 ?_) <;> (conv => whnf) <;> repeat' (first
 | exact trivial
 | (with_reducible rfl)
 | ((with_reducible refine And.intro ?_ ?_) <;> conv => whnf)
 | omega
 | rfl
 | (refine congrArg (SV.arr _) ?_)
 | (refine congrArg (Value.int _) ?_)
 | (refine congrArg Value.bool ?_)))); all_goals (try unfold Side)
 all_goals try (repeat' (first | exact zb | with_reducible refine And.intro ?_ ?_))
theorem idle_none {i : Nat} (hi : i < hs.length) (hw : gw hs i = false) : FnM Try.prog 19 [.padr 1000000000 0, .lit (.int .i64 (i : Int))] [(1000000000, .box [.own 1000000001, .own 5]), (1000000001, .row 96 HT true (hs)), (5, .row 50 LT true (fl))] (.lit (.int .i64 5)) [(1000000000, .box [.own 1000000001, .own 5]), (1000000001, .row 96 HT true (hs)), (5, .row 50 LT true (fl))] := by
 have c1 := is_at (hs := hs) (fl := fl) (by omega)
 have c2 := has_at (hs := hs) (fl := fl) (l := [(i : Int)]) (b := true) (by simp) (by simp [has_of hi])
 have hw' : (hs.getD i H0).1 = false := hw
 have hl : @List.length HT.T hs = hs.length := rfl
 refine FnM.of_body tys_ok Try.func19 (by rfl) rfl Try.ntmps19 (by rw [Try.results19]) (by simp) ?_
 repeat' (first
 | refine W.seq ?_
 | refine W.block ?_
 | (refine W.regionM (id := 1) tys_ok [12] [1] ?_; conv => whnf)
 | (refine W.regionM (id := 3) tys_ok [12] [3] ?_; conv => whnf)
 | (refine W.region tys_ok [12] ?_; conv => whnf)
 | (refine W.drawAll tys_ok [12] mixed rfl ?_; conv => whnf)
 | (refine W.ret ?_; conv => whnf)
 | (refine W.skip ?_; conv => whnf)
 | (refine W.exit ?_; conv => whnf)
 | (refine callM_at (c1) ?_; conv => whnf)
 | (refine callM_at (c2) ?_; conv => whnf)
 | (refine W.cond rfl (fun hb => ?_) (fun hb => ?_) <;> (try simp only [zr, zd, zm, minL, maxL, pickB, zA] at hb) <;> (try (first | (cases hb; done) | exact absurd hb (by decide) | (exfalso; omega) | (omega) | ((simp_all; done)))))
 | (refine Or.inl (And.intro trivial ?_); (conv => whnf))
 | ((with_reducible refine And.intro ?_ ?_); exact zc; conv => whnf)
 | ((with_reducible refine And.intro (Side.out ?_) ?_); rotate_left; (conv => whnf))
 | ((first | refine retM1 ?_ | refine retM2 ?_) <;> (conv => whnf) <;> repeat' (first
 | exact trivial
 | (with_reducible rfl)
 | ((with_reducible refine And.intro ?_ ?_) <;> conv => whnf)
 | omega
 | rfl
 | (refine congrArg (SV.arr _) ?_)
 | (refine congrArg (Value.int _) ?_)
 | (refine congrArg Value.bool ?_)))); all_goals (try unfold Side)
 all_goals try (repeat' (first | exact zb | with_reducible refine And.intro ?_ ?_))
theorem idle_full {i : Nat} (hi : i < hs.length) (hw : gw hs i = true) (hg : goesI hs i = true) (hf : 200 ≤ fl.length) : FnM Try.prog 19 [.padr 1000000000 0, .lit (.int .i64 (i : Int))] [(1000000000, .box [.own 1000000001, .own 5]), (1000000001, .row 96 HT true (hs)), (5, .row 50 LT true (fl))] (.lit (.int .i64 7)) [(1000000000, .box [.own 1000000001, .own 5]), (1000000001, .row 96 HT true (hs)), (5, .row 50 LT true (fl))] := by
 have c1 := is_at (hs := hs) (fl := fl) (by omega)
 have c2 := has_at (hs := hs) (fl := fl) (l := [(i : Int)]) (b := true) (by simp) (by simp [has_of hi])
 have c3 := leaves_at (hs := setW hs i false) (fl := fl) (i := i) (b := true) (by rw [setW_len]; exact hi) (by rw [goes_setW hi, hg])
 have hw' : (hs.getD i H0).1 = true := hw
 have hl : @List.length HT.T hs = hs.length := rfl
 have hlf : @List.length LT.T fl = fl.length := rfl
 have e1 : (setW hs i false).set i (true, ((setW hs i false).getD i H0).2) = hs := by
  unfold setW
  rw [Rg.getD_set hi, if_pos rfl, List.set_set]
  have : (true, ge hs i, gp hs i, go hs i, ()) = hs[i] := by
   have e : hs.getD i H0 = hs[i] := by rw [List.getD_eq_getElem?_getD, List.getElem?_eq_getElem hi]; rfl
   rw [← e, ← hw']
   rfl
  rw [this, List.set_getElem_self]
 have e2 : i < (setW hs i false).length := by rw [setW_len]; exact hi
 refine FnM.of_body tys_ok Try.func19 (by rfl) rfl Try.ntmps19 (by rw [Try.results19]) (by simp) ?_
 repeat' (first
 | refine W.seq ?_
 | refine W.block ?_
 | (refine W.regionM (id := 1) tys_ok [12] [1] ?_; conv => whnf)
 | (refine W.regionM (id := 3) tys_ok [12] [3] ?_; conv => whnf)
 | (refine W.regionM (id := 8) tys_ok [12] [2] ?_; conv => whnf)
 | (refine W.region tys_ok [12] ?_; conv => whnf)
 | (refine W.drawAll tys_ok [12] mixed rfl ?_; conv => whnf)
 | (refine W.ret ?_; conv => whnf)
 | (refine W.skip ?_; conv => whnf)
 | (refine W.exit ?_; conv => whnf)
 | (refine callM_at (c1) ?_; conv => whnf)
 | (refine callM_at (c2) ?_; conv => whnf)
 | (refine callM_at (c3) ?_; conv => whnf)
 | (refine W.cond rfl (fun hb => ?_) (fun hb => ?_) <;> (try simp only [zr, zd, zm, minL, maxL, pickB, zA] at hb) <;> (try (first | (cases hb; done) | exact absurd hb (by decide) | (exfalso; omega) | (omega) | ((simp_all; done)))))
 | (refine Or.inl (And.intro trivial ?_); (conv => whnf))
 | ((with_reducible refine And.intro ?_ ?_); exact zc; conv => whnf)
 | ((with_reducible refine And.intro (Side.out ?_) ?_); rotate_left; (conv => whnf))
 | ((first | refine retM1 ?_ | refine retM2 ?_) <;> (conv => whnf) <;> repeat' (first
 | exact trivial
 | (with_reducible rfl)
 | ((with_reducible refine And.intro ?_ ?_) <;> conv => whnf)
 | omega
 | rfl
 | (refine congrArg (SV.arr _) ?_)
 | (refine congrArg (Value.int _) ?_)
 | (refine congrArg Value.bool ?_)))); all_goals (try unfold Side)
 all_goals try (repeat' (first | exact zb | with_reducible refine And.intro ?_ ?_))
 · simp only [Int.toNat_natCast]
   exact e1
 · simp only [Int.toNat_natCast]
   exact e2
theorem idle_ok {i : Nat} {h2 : List Hd} {f2 : List Lt} (hi : i < hs.length) (hw : gw hs i = true) (hg : ¬ (goesI hs i = true ∧ 200 ≤ fl.length)) (hfl : fl.length ≤ 1000) (h : settL i (setW hs i false, fl) = (h2, f2)) : FnM Try.prog 19 [.padr 1000000000 0, .lit (.int .i64 (i : Int))] [(1000000000, .box [.own 1000000001, .own 5]), (1000000001, .row 96 HT true (hs)), (5, .row 50 LT true (fl))] (.lit (.int .i64 0)) [(1000000000, .box [.own 1000000001, .own 5]), (1000000001, .row 96 HT true (h2)), (5, .row 50 LT true (f2))] := by
 have c1 := is_at (hs := hs) (fl := fl) (by omega)
 have c2 := has_at (hs := hs) (fl := fl) (l := [(i : Int)]) (b := true) (by simp) (by simp [has_of hi])
 have c3 := leaves_at (hs := setW hs i false) (fl := fl) (i := i) (b := goesI hs i) (by rw [setW_len]; exact hi) (by rw [goes_setW hi])
 have c4 := settle_at (hs := setW hs i false) (fl := fl) (i := i) (by rw [setW_len]; exact hi) hfl h
 have hw' : (hs.getD i H0).1 = true := hw
 have hl : @List.length HT.T hs = hs.length := rfl
 have hlf : @List.length LT.T fl = fl.length := rfl
 cases hgi : goesI hs i with
 | false =>
  rw [hgi] at c3
  refine FnM.of_body tys_ok Try.func19 (by rfl) rfl Try.ntmps19 (by rw [Try.results19]) (by simp) ?_
  repeat' (first
 | refine W.seq ?_
 | refine W.block ?_
 | (refine W.regionM (id := 1) tys_ok [12] [1] ?_; conv => whnf)
 | (refine W.regionM (id := 3) tys_ok [12] [3] ?_; conv => whnf)
 | (refine W.regionM (id := 8) tys_ok [12] [2] ?_; conv => whnf)
 | (refine W.regionM (id := 11) tys_ok [12] [2] ?_; conv => whnf)
 | (refine W.region tys_ok [12] ?_; conv => whnf)
 | (refine W.drawAll tys_ok [12] mixed rfl ?_; conv => whnf)
 | (refine W.ret ?_; conv => whnf)
 | (refine W.skip ?_; conv => whnf)
 | (refine W.exit ?_; conv => whnf)
 | (refine callM_at (c1) ?_; conv => whnf)
 | (refine callM_at (c2) ?_; conv => whnf)
 | (refine callM_at (c3) ?_; conv => whnf)
 | (refine callM_at (c4) ?_; conv => whnf)
 | (refine W.cond rfl (fun hb => ?_) (fun hb => ?_) <;> (try simp only [zr, zd, zm, minL, maxL, pickB, zA] at hb) <;> (try (first | (cases hb; done) | exact absurd hb (by decide) | (exfalso; omega) | (omega) | ((simp_all; done)))))
 | (refine Or.inl (And.intro trivial ?_); (conv => whnf))
 | ((with_reducible refine And.intro ?_ ?_); exact zc; conv => whnf)
 | ((with_reducible refine And.intro (Side.out ?_) ?_); rotate_left; (conv => whnf))
 | ((first | refine retM1 ?_ | refine retM2 ?_) <;> (conv => whnf) <;> repeat' (first
 | exact trivial
 | (with_reducible rfl)
 | ((with_reducible refine And.intro ?_ ?_) <;> conv => whnf)
 | omega
 | rfl
 | (refine congrArg (SV.arr _) ?_)
 | (refine congrArg (Value.int _) ?_)
 | (refine congrArg Value.bool ?_)))); all_goals (try unfold Side)
  all_goals try (repeat' (first | exact zb | with_reducible refine And.intro ?_ ?_))
 | true =>
  rw [hgi] at c3
  have hf : ¬ 200 ≤ fl.length := fun h => hg ⟨hgi, h⟩
  refine FnM.of_body tys_ok Try.func19 (by rfl) rfl Try.ntmps19 (by rw [Try.results19]) (by simp) ?_
  repeat' (first
 | refine W.seq ?_
 | refine W.block ?_
 | (refine W.regionM (id := 1) tys_ok [12] [1] ?_; conv => whnf)
 | (refine W.regionM (id := 3) tys_ok [12] [3] ?_; conv => whnf)
 | (refine W.regionM (id := 8) tys_ok [12] [2] ?_; conv => whnf)
 | (refine W.regionM (id := 11) tys_ok [12] [2] ?_; conv => whnf)
 | (refine W.region tys_ok [12] ?_; conv => whnf)
 | (refine W.drawAll tys_ok [12] mixed rfl ?_; conv => whnf)
 | (refine W.ret ?_; conv => whnf)
 | (refine W.skip ?_; conv => whnf)
 | (refine W.exit ?_; conv => whnf)
 | (refine callM_at (c1) ?_; conv => whnf)
 | (refine callM_at (c2) ?_; conv => whnf)
 | (refine callM_at (c3) ?_; conv => whnf)
 | (refine callM_at (c4) ?_; conv => whnf)
 | (refine W.cond rfl (fun hb => ?_) (fun hb => ?_) <;> (try simp only [zr, zd, zm, minL, maxL, pickB, zA] at hb) <;> (try (first | (cases hb; done) | exact absurd hb (by decide) | (exfalso; omega) | (omega) | ((simp_all; done)))))
 | (refine Or.inl (And.intro trivial ?_); (conv => whnf))
 | ((with_reducible refine And.intro ?_ ?_); exact zc; conv => whnf)
 | ((with_reducible refine And.intro (Side.out ?_) ?_); rotate_left; (conv => whnf))
 | ((first | refine retM1 ?_ | refine retM2 ?_) <;> (conv => whnf) <;> repeat' (first
 | exact trivial
 | (with_reducible rfl)
 | ((with_reducible refine And.intro ?_ ?_) <;> conv => whnf)
 | omega
 | rfl
 | (refine congrArg (SV.arr _) ?_)
 | (refine congrArg (Value.int _) ?_)
 | (refine congrArg Value.bool ?_)))); all_goals (try unfold Side)
  all_goals try (repeat' (first | exact zb | with_reducible refine And.intro ?_ ?_))
end Go.Proofs.Ytkjcnegkdlmapaa
