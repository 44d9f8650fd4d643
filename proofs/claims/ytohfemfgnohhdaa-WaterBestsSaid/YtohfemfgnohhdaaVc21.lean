/- Code, and a function's body. No condition. -/
import Derived.Test.YtohfemfgnohhdaaVc20
import Derived.Deep.LoopGhost
import Derived.Scope
namespace Go.Vc
set_option linter.unusedVariables false
set_option linter.unusedSimpArgs false

/-- From the state Γ the code ends so that Q holds. -/
structure W (P : Program) (n : Nat) (code : Code) (Γ : Sy) (Q : Exit → Sy → Prop) : Prop where
  out : ∀ (c : Cx) (g : Nat → Value) (a : Act) (w : World), c.n = n → St c Γ g a w → code.wp P (fun e a' w' => ∃ Γ' g', Q e Γ' ∧ St c Γ' g' a' w') a w

def thenQ (K : Sy → Prop) (Q : Exit → Sy → Prop) : Exit → Sy → Prop
  | .normal, Γ => K Γ
  | e, Γ => Q e Γ
def blockQ (id : Nat) (Q : Exit → Sy → Prop) : Exit → Sy → Prop
  | .exit id', Γ => match Nat.beq id' id with
    | true => Q .normal Γ
    | false => Q (.exit id') Γ
  | e, Γ => Q e Γ

section rules
variable {P : Program} {n : Nat} {Γ : Sy} {Q : Exit → Sy → Prop}
theorem W.seq {x y : Code} (h : W P n x Γ (thenQ (fun Γ' => W P n y Γ' Q) Q)) : W P n (.seq x y) Γ Q := by
  refine ⟨fun c g a w hn hst => wp_seq (wp_mono (h.out c g a w hn hst) fun e a' w' hq => ?_)⟩
  obtain ⟨Γ', g', h1, h2⟩ := hq
  cases e with
  | normal => exact W.out h1 c g' a' w' hn h2
  | _ => exact ⟨Γ', g', h1, h2⟩
theorem W.skip (h : Q .normal Γ) : W P n .skip Γ Q := ⟨fun c g a w hn hst => wp_skip ⟨Γ, g, h, hst⟩⟩
theorem W.ret (h : Q .ret Γ) : W P n .ret Γ Q := ⟨fun c g a w hn hst => wp_ret ⟨Γ, g, h, hst⟩⟩
theorem W.exit {id : Nat} (h : Q (.exit id) Γ) : W P n (.exit id) Γ Q := ⟨fun c g a w hn hst => wp_exit ⟨Γ, g, h, hst⟩⟩
theorem W.block {id : Nat} {x : Code} (h : W P n x Γ (blockQ id Q)) : W P n (.block id x) Γ Q := by
  refine ⟨fun c g a w hn hst => wp_block (wp_mono (h.out c g a w hn hst) fun e a' w' hq => ?_)⟩
  obtain ⟨Γ', g', h1, h2⟩ := hq
  cases e with
  | exit id' =>
    simp only [Exit.inBlock]
    simp only [blockQ] at h1
    cases hb : Nat.beq id' id with
    | true => rw [hb] at h1; rw [if_pos (Nat.eq_of_beq_eq_true hb)]; exact ⟨Γ', g', h1, h2⟩
    | false => rw [hb] at h1; rw [if_neg (Nat.ne_of_beq_eq_false hb)]; exact ⟨Γ', g', h1, h2⟩
  | _ => exact ⟨Γ', g', h1, h2⟩
theorem W.cond {x : Operand} {b : Bool} {t e : Code} (hx : look Γ x = some (.lit (.bool b))) (ht : b = true → W P n t Γ Q) (he : b = false → W P n e Γ Q) : W P n (.cond x t e) Γ Q := by
  refine ⟨fun c g a w hn hst => ?_⟩
  have h1 := hst.look hx
  simp only [Rp, Rp2, Rp1] at h1
  exact wp_cond_split h1.1 (fun h => (ht h).out c g a w hn hst) (fun h => (he h).out c g a w hn hst)
theorem W.region {T : List (Nat × TE)} (hT : TOk P T) (F : List Nat) {id : Nat} {ops : Array Oper} (h : opsVC P T F n (dstsOf ops) [] ops.toList 0 0 Γ (Q .normal)) : W P n (.region id ops false) Γ Q := by
  refine ⟨fun c g a w hn hst => region_seq hT (K := Q .normal) (by rw [hn]; exact h) hst fun Γ' g' a' w' h1 h2 => ⟨Γ', g', h1, h2⟩⟩
theorem keepAll (w : World) (O : Nat → Prop) : ∃ K : Nat → Option (Array Value × TypeId × (Nat × Nat)), (∀ b x, K b = some x → w.heap[b]? = some (.cells x.1 x.2.1 x.2.2) ∧ ¬ O b) ∧ (∀ b x e fz, w.heap[b]? = some (.cells x e fz) → ¬ O b → K b = some (x, e, fz)) := by
  have each : ∀ b, ∃ k : Option (Array Value × TypeId × (Nat × Nat)), (∀ x, k = some x → w.heap[b]? = some (.cells x.1 x.2.1 x.2.2) ∧ ¬ O b) ∧ (∀ x e fz, w.heap[b]? = some (.cells x e fz) → ¬ O b → k = some (x, e, fz)) := by
    intro b
    by_cases h : ∃ x e fz, w.heap[b]? = some (.cells x e fz) ∧ ¬ O b
    · obtain ⟨x, e, fz, h1, h2⟩ := h
      refine ⟨some (x, e, fz), fun y hy => (by cases hy; exact ⟨h1, h2⟩), fun y e' fz' hy _ => ?_⟩
      rw [h1] at hy
      cases hy
      rfl
    · exact ⟨none, fun y hy => (by cases hy), fun y e fz hy hn => absurd ⟨y, e, fz, hy, hn⟩ h⟩
  obtain ⟨K, hK⟩ := Classical.axiomOfChoice each
  exact ⟨K, fun b x h => (hK b).1 x h, fun b x e fz h h' => (hK b).2 x e fz h h'⟩
theorem W.draw {T : List (Nat × TE)} (hT : TOk P T) (F : List Nat) (hmx : P.follows .mixedOrders = true) {id : Nat} {ops : Array Oper} (M L : List Nat) (m : Nat)
    (hd : (drawOk ops M L m && floatOk ops L (Array.replicate ops.size false) && Region.noSelect ops && listOnce ops.size L) = true) (h : floatVC T n ops L Γ fun Γ1 => opsVC P T F n (dstsOf ops) L ops.toList 0 m Γ1 (Q .normal)) : W P n (.region id ops true) Γ Q := by
  simp only [Bool.and_eq_true] at hd
  obtain ⟨⟨⟨h1, h2⟩, h3⟩, h4⟩ := hd
  refine ⟨fun c g a w hn hst => ?_⟩
  -- all that is not the call's own is kept throughout
  obtain ⟨K, hK1, hK2⟩ := keepAll w (Oset Γ.own g)
  let c' : Cx := { c with K := K }
  have hst' : St c' Γ g a w := ⟨hst.defers, hst.size, hst.keep, hst.o0, hst.tmps, hK1, hst.hp⟩
  have hcK : ∀ b x, c.K b = some x → K b = some x := fun b x hb => hK2 b _ _ _ (hst.kept b x hb).1 (hst.kept b x hb).2
  have key : (Code.region id ops true).wp P (fun e a' w' => match e with | .normal => ∃ Γ' g', Q .normal Γ' ∧ St c Γ' g' a' w' | _ => False) a w :=
    region_draw (c := c') hT hmx h1 h2 h3 h4 (K := Q .normal) (by show floatVC T c.n ops L Γ fun Γ1 => opsVC P T F c.n (dstsOf ops) L ops.toList 0 m Γ1 (Q .normal); rw [hn]; exact h) (fun _ _ _ h => h) hst' hK2
      fun Γ' g' a' w' h1 h2 => ⟨Γ', g', h1, ⟨h2.defers, h2.size, h2.keep, h2.o0, h2.tmps, fun b x hb => h2.kept b x (hcK b x hb), h2.hp⟩⟩
  refine wp_mono key fun e a' w' hq => ?_
  cases e with
  | normal => exact hq
  | _ => exact hq.elim
theorem W.mono {x : Code} {Q' : Exit → Sy → Prop} (h : W P n x Γ Q) (hq : ∀ e Γ, Q e Γ → Q' e Γ) : W P n x Γ Q' :=
  ⟨fun c g a w hn hst => wp_mono (h.out c g a w hn hst) fun e a' w' ⟨Γ', g', h1, h2⟩ => ⟨Γ', g', hq _ _ h1, h2⟩⟩
theorem W.sub {x : Code} {Γ' : Sy} {ρ : Ren} (hs : Sub Γ Γ' ρ) (h : W P n x Γ' Q) : W P n x Γ Q := ⟨fun c g a w hn hst => h.out c _ a w hn (hs.st hst)⟩
/-- A loop: what is known at its head, in terms of x; a number that every round lowers. -/
theorem W.loop {α : Type} (I : α → Sy) (J : α → Prop) (μ : α → Nat) (x0 : α) {body : Code} (h0 : J x0 ∧ Sub Γ (I x0) (mkRen Γ (I x0)))
    (round : ∀ x, J x → W P n body (I x) (thenQ (fun Γ' => ∃ y, (J y ∧ μ y < μ x) ∧ Sub Γ' (I y) (mkRen Γ' (I y))) Q)) : W P n (.loop body) Γ Q := by
  refine ⟨fun c g a w hn hst => ?_⟩
  refine wp_loop_ghost (fun k a w => ∃ x g, J x ∧ μ x = k ∧ St c (I x) g a w) (μ x0) ⟨x0, _, h0.1, rfl, h0.2.st hst⟩ ?_
  rintro k a w ⟨x, g, h1, rfl, h2⟩
  refine wp_mono ((round x h1).out c g a w hn h2) fun e a' w' hq => ?_
  obtain ⟨Γ', g', h3, h4⟩ := hq
  cases e with
  | normal =>
    obtain ⟨y, ⟨h5, h6⟩, h7⟩ := h3
    exact ⟨μ y, h6, y, _, h5, rfl, h7.st h4⟩
  | _ => exact ⟨Γ', g', h3, h4⟩
end rules

/-- The arguments as the body finds them. -/
def inA (fr : Bool) : SV → AV
  | .lit v => .lit v
  | .fn f l => .fn f (upL fr l)
  | A => .st fr A
def initT (fr : Bool) : List SV → Nat → List (Nat × AV)
  | [], _ => []
  | A :: r, i => (i, inA fr A) :: initT fr r (i + 1)
theorem initT_get {fr : Bool} : ∀ {l : List SV} {i t : Nat} {A : AV}, get? (initT fr l i) t = some A → i ≤ t ∧ ∃ S, l[t - i]? = some S ∧ A = inA fr S
  | [], i, t, A, h => by cases h
  | S :: r, i, t, A, h => by
    simp only [initT, get?] at h
    split at h
    · rename_i hb
      cases h
      have := Nat.eq_of_beq_eq_true hb
      subst this
      exact ⟨Nat.le_refl _, S, by simp, rfl⟩
    · rename_i hb
      obtain ⟨h1, S', h2, h3⟩ := initT_get h
      refine ⟨by omega, S', ?_, h3⟩
      rw [show t - i = (t - (i + 1)) + 1 from by omega]
      simpa using h2
theorem inA_ok {w : World} {O O0 : Nat → Prop} {g : Nat → Value} {fr : Bool} {v : Value} {S : SV} (h : RpS w (Av O O0 fr) v S) : Rp w O O0 g v (inA fr S) := by
  cases S with
  | lit u => cases h with | lit _ h => exact ⟨rfl, h⟩
  | fn f l =>
    cases h with
    | fn _ _ cs f' hs hf hr =>
      refine ⟨f', cs, rfl, by rw [upL_len]; exact hs, fun i B hB => ?_⟩
      rw [upL_get] at hB
      obtain ⟨C, hC, rfl⟩ := Option.map_eq_some_iff.1 hB
      exact ⟨hf i (List.getElem?_eq_some_iff.1 hC).1, up_one (hr i C hC)⟩
  | _ => exact h

/-- A result variable's value. -/
def resA (T : List (Nat × TE)) (Γ : Sy) : ResultVar → Option AV
  | .tmp t => match get? Γ.tmps t with
    | some (.gd _ _) => none
    | x => x
  | .cell a ty => match get? Γ.tmps a with
    | some (.padr k j) => match j with
      | 0 => match get? Γ.own k with
        | some (.box l) => match get? T ty with
          | some te => match te.kind.isAgg && Nat.beq te.size l.length && lv1 l with
            | true => some (.strct l)
            | false => none
          | none => none
        | some (.box1 A) => match get? T ty with
          | some te => match te.kind.isAgg with
            | true => none
            | false => some A
          | none => none
        | _ => none
      | _ => none
    | _ => none
def resL (T : List (Nat × TE)) (Γ : Sy) : List ResultVar → Option (List AV)
  | [] => some []
  | r :: l => match resA T Γ r with
    | some A => match resL T Γ l with
      | some m => some (A :: m)
      | none => none
    | none => none
def lvM : List AV → Bool
  | [] => true
  | .tup _ :: _ => false
  | .fn _ _ :: _ => false
  | _ :: r => lvM r
theorem lvM_get {w : World} {O O0 : Nat → Prop} {g : Nat → Value} {x : Value} : ∀ {l : List AV} {i : Nat} {B : AV}, lvM l = true → l[i]? = some B → Rp2 w O O0 g x B → RpM w O O0 g x B
  | [], _, _, _, h, _ => by simp at h
  | A :: r, 0, B, hl, h, hr => by
    simp at h
    subst h
    cases A <;> first | exact hr | cases hl
  | A :: r, i + 1, B, hl, h, hr => lvM_get (l := r) (i := i) (by cases A <;> first | exact hl | cases hl) (by simpa using h) hr
/-- What a return must show. -/
def retQ (T : List (Nat × TE)) (rs : List ResultVar) (R : AV) (N : List (Nat × Ob)) (Γ : Sy) : Prop := match resL T Γ rs with
  | some [A] => ∃ ρ : Ren, ρ = dedupR (mkRen2 A R []) ∧ nodupR ρ = true ∧ match2 Γ.own ρ A R ∧ matchOs Γ.own ρ N
  | some l => ∃ ρ : Ren, ρ = dedupR (mkRen2 (.tup l) R []) ∧ nodupR ρ = true ∧ (lvM l = true ∧ match2 Γ.own ρ (.tup l) R) ∧ matchOs Γ.own ρ N
  | none => False
def bodyQ (T : List (Nat × TE)) (rs : List ResultVar) (R : AV) (N : List (Nat × Ob)) : Exit → Sy → Prop
  | .normal, Γ => retQ T rs R N Γ
  | .ret, Γ => retQ T rs R N Γ
  | _, _ => False

def resSem (tmps : Array Value) : ResultVar → Sem Value
  | .tmp t => pure (tmps.getD t undef)
  | .cell b t => do loadVar t (← asAddr (tmps.getD b undef))
theorem resA_ok {P : Program} {T : List (Nat × TE)} (hT : TOk P T) {c : Cx} {Γ : Sy} {g : Nat → Value} {a : Act} {w : World} (hst : St c Γ g a w) {r : ResultVar} {A : AV} (h : resA T Γ r = some A) :
    ∃ v, (resSem a.tmps r).run P w = .ok v w ∧ Rp2 w (Oset Γ.own g) c.O0 g v A := by
  cases r with
  | tmp t =>
    refine ⟨_, rfl, ?_⟩
    simp only [resA] at h
    split at h
    · cases h
    · rename_i hne
      have h1 := hst.tmps t A h
      cases A <;> first | exact h1 | exact absurd h (hne _ _)
  | cell b ty =>
    simp only [resA] at h
    split at h
    · rename_i k j hb
      split at h
      · have h1 := hst.tmps b _ hb
        obtain ⟨bb, h2, h3⟩ := h1
        split at h
        · rename_i l hk
          split at h
          · rename_i te hte
            split at h
            · rename_i hc
              cases h
              simp only [Bool.and_eq_true] at hc
              obtain ⟨b', arr, e, h4, h5, h6, h7, h8⟩ := hst.hp.ok k _ hk
              rw [h2] at h4
              cases h4
              have hsz := Nat.eq_of_beq_eq_true hc.1.2
              have hrun := run_load_agg (P := P) (hT _ _ hte) hc.1.1 (p := 0) h6 (by rw [h7, hsz]) (fun j _ => by simp)
              refine ⟨.agg arr, ?_, fun i => arr.getD i undef, arr, rfl, h7, fun i B hB => ?_⟩
              · have h3' : a.tmps.getD b undef = .pointer (some ⟨bb, 0, none⟩) := h3
                simp only [Instr.loadAt, Instr.sureAddr, Sem.run_bind, Sem.run_pure, Result.andThen_ok] at hrun
                simp [resSem, h3', asAddr, hrun]
              · obtain ⟨y, h11, h12, h13⟩ := h8 i B hB
                have : arr.getD i undef = y := by simp [Array.getD_eq_getD_getElem?, h11]
                dsimp only
                rw [this]
                exact ⟨⟨h11, h12⟩, lv1_get hc.2 hB h13⟩
            · cases h
          · cases h
        · rename_i B hk
          split at h
          · rename_i te hte
            split at h
            · cases h
            · rename_i hagg
              cases h
              obtain ⟨b', y, e, h4, h5, h6, h7, h8⟩ := hst.hp.ok k _ hk
              rw [h2] at h4
              cases h4
              have hrun := run_load_scalar (P := P) (hT _ _ hte) hagg (p := 0) h6 (v := y) (by simp)
              refine ⟨y, ?_, h8⟩
              have h3' : a.tmps.getD b undef = .pointer (some ⟨bb, 0, none⟩) := h3
              simp only [Instr.loadAt, Instr.sureAddr, Sem.run_bind, Sem.run_pure, Result.andThen_ok] at hrun
              simp [resSem, h3', asAddr, hrun]
          · cases h
        · cases h
      · cases h
    · cases h

theorem resL_ok {P : Program} {T : List (Nat × TE)} (hT : TOk P T) {c : Cx} {Γ : Sy} {g : Nat → Value} {a : Act} {w : World} (hst : St c Γ g a w) : ∀ {rs : List ResultVar} {l : List AV}, resL T Γ rs = some l →
    ∃ vs : List Value, (rs.mapM (resSem a.tmps)).run P w = .ok vs w ∧ vs.length = l.length ∧
      ∀ (i : Nat) (A : AV) (v : Value), l[i]? = some A → vs[i]? = some v → Rp2 w (Oset Γ.own g) c.O0 g v A
  | [], l, h => by cases h; exact ⟨[], by simp [List.mapM_nil], rfl, fun i A v h => by simp at h⟩
  | r :: rs, l, h => by
    simp only [resL] at h
    split at h
    · rename_i A hA
      split at h
      · rename_i m hm
        cases h
        obtain ⟨v, h1, h2⟩ := resA_ok hT hst hA
        obtain ⟨vs, h3, h4, h5⟩ := resL_ok hT hst hm
        refine ⟨v :: vs, ?_, by simp [h4], fun i B u hB hu => ?_⟩
        · rw [List.mapM_cons, Sem.run_bind, h1]
          simp only [Result.andThen_ok, Sem.run_bind, h3, Sem.run_pure]
        · cases i with
          | zero => simp at hB hu; subst hB; subst hu; exact h2
          | succ i => exact h5 i B u (by simpa using hB) (by simpa using hu)
      · cases h
    · cases h

def resV : List Value → Value
  | [v] => v
  | vs => .tuple vs.toArray
theorem results_run {P : Program} {fn : Func} {tmps : Array Value} {w : World} {vs : List Value} (h : (fn.results.toList.mapM (resSem tmps)).run P w = .ok vs w) :
    (results fn tmps).run P w = .ok (resV vs) w := by
  have e : results fn tmps = (do let vs ← fn.results.mapM (resSem tmps); pure (if h : vs.size = 1 then vs[0] else .tuple vs)) := by
    unfold results
    congr 1
  rw [e, Array.mapM_eq_mapM_toList]
  simp only [Sem.run_bind, Sem.run_map, h, Result.andThen_ok, Sem.run_pure]
  cases vs with
  | nil => rfl
  | cons v r =>
    cases r with
    | nil => rfl
    | cons u r => rfl

/-- A function keeps its contract if its body does. -/
theorem FnAt.of_body {P : Program} {T : List (Nat × TE)} (hT : TOk P T) {al : Bool} {f : FuncId} {fn : Func} {code : Code} {n : Nat} {rs : List ResultVar} {args : List SV} {R : AV} {N : List (Nat × Ob)} (hf : P.funcs[f]? = some fn)
    (hname : (fn.name == "runtime.NumGoroutine") = false) (hb : fn.body = some code) (hn : fn.ntmps = n) (hrs : fn.results.toList = rs) (hlen : args.length ≤ n)
    (h : W P n code ⟨initT al args 0, []⟩ (bodyQ T rs R N)) : FnAt P al f args R N := by
  refine ⟨⟨fn, hf, hname, by rw [hb]; rfl⟩, fun w O vals hO hargs => ?_⟩
  -- the call's own context
  let c : Cx := { w0 := w, n := n, O0 := fun b => (al = true ∧ O b) ∨ (al = false ∧ b < w.heap.size) }
  have hO0 : ∀ b, O b → c.O0 b := by
    intro b hb
    cases al with
    | true => exact .inl ⟨rfl, hb⟩
    | false => exact .inr ⟨rfl, hO b hb⟩
  have hclt : ∀ b, c.O0 b → b < w.heap.size := by
    rintro b (⟨_, hb⟩ | ⟨_, hb⟩)
    · exact hO b hb
    · exact hb
  have hsz : vals.length ≤ n := by rw [hargs.1]; exact hlen
  have hst : St c ⟨initT al args 0, []⟩ (fun _ => undef) { tmps := vals.toArray ++ Array.replicate (fn.ntmps - vals.toArray.size) undef, defers := [] } w := by
    refine ⟨rfl, ?_, Keep.refl w, hclt, fun t A hA => ?_, fun b x hb => (by cases hb), ⟨fun k o hk => (by cases hk), fun k k' o o' b hk => (by cases hk)⟩⟩
    · simp [hn]
      show vals.length + (n - vals.length) = n
      omega
    · obtain ⟨_, S, h2, rfl⟩ := initT_get hA
      have ht : t < vals.length := by
        rw [hargs.1]
        simpa using (List.getElem?_eq_some_iff.1 h2).1
      have hv : vals[t]? = some vals[t] := List.getElem?_eq_getElem ht
      have h3 := hargs.2 t _ S hv (by simpa using h2)
      have : (vals.toArray ++ Array.replicate (fn.ntmps - vals.toArray.size) undef).getD t undef = vals[t] := by
        rw [Array.getD_eq_getD_getElem?, Array.getElem?_append_left (by simpa using ht)]
        simp [ht]
      dsimp only
      rw [this]
      refine inA_ok (h3.mono fun b x e fz hb hn => ⟨hb, fun h' => ?_⟩)
      rcases h' with ⟨k, o, hk, _⟩ | ⟨h', h''⟩
      · cases hk
      · rcases h'' with ⟨h4, h5⟩ | ⟨h4, _⟩
        · exact hn ⟨h4, h5⟩
        · rw [h4] at h'; cases h'
  refine calls_of_wp hf hb (wp_mono (h.out c _ _ w rfl hst) fun e a' w' hq => ?_)
  obtain ⟨Γ', g', h1, h2⟩ := hq
  have fin : retQ T rs R N Γ' → ∃ v, (results fn a'.tmps).run P w' = .ok v w' ∧ ∃ r, Ending.returned v = .returned r ∧ Keep w w' ∧ RetOk w w' O r R N := by
    intro hr
    unfold retQ at hr
    have conv : ∀ (ρ : Ren) (A : AV) (v : Value), nodupR ρ = true → match2 Γ'.own ρ A R → matchOs Γ'.own ρ N → Rp2 w' (Oset Γ'.own g') c.O0 g' v A → RetOk w w' O v R N := by
      intro ρ A v h3 h4 h5 h6
      exact ⟨gR ρ g', match2_ok h2.hp hO0 hO h5 h4 h6, sub_hp h2.hp hO0 hO h5 h3 (Nat.le_refl _)⟩
    split at hr
    · rename_i A hA
      obtain ⟨ρ, _, h3, h4, h5⟩ := hr
      obtain ⟨vs, h6, h7, h8⟩ := resL_ok hT h2 hA
      have h9 := results_run (fn := fn) (by rw [hrs]; exact h6)
      match vs, h7 with
      | [v], _ => exact ⟨v, h9, v, rfl, h2.keep, conv ρ A v h3 h4 h5 (h8 0 A v rfl rfl)⟩
    · rename_i l hne hA
      obtain ⟨ρ, _, h3, ⟨h4, h4'⟩, h5⟩ := hr
      obtain ⟨vs, h6, h7, h8⟩ := resL_ok hT h2 hA
      have h9 := results_run (fn := fn) (by rw [hrs]; exact h6)
      have hvs : resV vs = .tuple vs.toArray := by
        match vs, h7 with
        | [], _ => rfl
        | [v], h7 =>
          match l, h7, hne with
          | [A], _, hne => exact (hne A rfl).elim
        | _ :: _ :: _, _ => rfl
      rw [hvs] at h9
      refine ⟨_, h9, _, rfl, h2.keep, conv ρ (.tup l) _ h3 h4' h5 ⟨fun i => vs.getD i undef, vs.toArray, rfl, by simp [h7], fun i B hB => ?_⟩⟩
      have hi : i < vs.length := by rw [h7]; exact (List.getElem?_eq_some_iff.1 hB).1
      have hv : vs[i]? = some vs[i] := List.getElem?_eq_getElem hi
      have : vs.getD i undef = vs[i] := by simp [List.getD, hi]
      dsimp only
      rw [this]
      exact ⟨by simp [hi], lvM_get h4 hB (h8 i B _ hB hv)⟩
    · exact hr.elim
  cases e with
  | normal => obtain ⟨v, h3, h4⟩ := fin h1; exact ⟨h2.defers, v, h3, h4⟩
  | ret => obtain ⟨v, h3, h4⟩ := fin h1; exact ⟨h2.defers, v, h3, h4⟩
  | exit id => exact h1.elim
  | goto l => exact h1.elim
  | panic ch => exact h1.elim
  | outgrown => exact h1.elim
/-- No operation selects. -/
def noSel : List Oper → Bool
  | [] => true
  | o :: r => (match o.op with | .select _ _ => false | _ => true) && noSel r
theorem noSel_ok {ops : Array Oper} (h : noSel ops.toList = true) : Region.noSelect ops = true := by
  have go : ∀ l : List Oper, noSel l = true → ∀ o ∈ l, (match o.op with | .select _ _ => false | _ => true) = true := by
    intro l
    induction l with
    | nil => intro _ o ho; cases ho
    | cons x r ih =>
      intro h o ho
      simp only [noSel, Bool.and_eq_true] at h
      rcases List.mem_cons.1 ho with rfl | ho
      · exact h.1
      · exact ih h.2 o ho
  unfold Region.noSelect
  rw [Array.all_eq_true_iff_forall_mem]
  intro o ho
  exact go _ h o (by simpa using ho)
/-- A side condition. -/
def Side (p : Prop) : Prop := p
theorem Side.out {p : Prop} (h : Side p) : p := h
theorem Path.imp_of {p : Prop} (h : p) : ∀ {G : Path}, Path.imp G p
  | [] => h
  | _ :: r => fun _ => Path.imp_of h (G := r)
theorem W.resub {P : Program} {n : Nat} {Q : Exit → Sy → Prop} {x : Code} {Γ Γ' : Sy} (hs : Side (Sub Γ Γ' (mkRen Γ Γ'))) (h : W P n x Γ' Q) : W P n x Γ Q := W.sub hs h
/-- The masks of a region. -/
def masks (ops : Array Oper) : List Nat := ops.toList.foldl (fun M o => M ++ [upm M o.after.toList 0]) []
theorem W.drawAll {P : Program} {n : Nat} {Q : Exit → Sy → Prop} {Γ : Sy} {T : List (Nat × TE)} (hT : TOk P T) (F : List Nat) (hmx : P.follows .mixedOrders = true) {id : Nat} {ops : Array Oper}
    (hd : (drawOk ops (masks ops) [] ops.size && noSel ops.toList) = true) (h : opsVC P T F n (dstsOf ops) [] ops.toList 0 ops.size Γ (Q .normal)) :
    W P n (.region id ops true) Γ Q := by
  simp only [Bool.and_eq_true] at hd
  exact W.draw hT F hmx (masks ops) [] ops.size (by rw [hd.1, noSel_ok hd.2]; rfl) h
theorem W.drawTo {P : Program} {n : Nat} {Q : Exit → Sy → Prop} {Γ : Sy} {T : List (Nat × TE)} (hT : TOk P T) (F : List Nat) (hmx : P.follows .mixedOrders = true) (L : List Nat) (m : Nat) {id : Nat} {ops : Array Oper}
    (hd : (drawOk ops (masks ops) L m && floatOk ops L (Array.replicate ops.size false) && Region.noSelect ops && listOnce ops.size L) = true) (h : floatVC T n ops L Γ fun Γ1 => opsVC P T F n (dstsOf ops) L ops.toList 0 m Γ1 (Q .normal)) :
    W P n (.region id ops true) Γ Q := W.draw hT F hmx (masks ops) L m hd h
end Go.Vc
