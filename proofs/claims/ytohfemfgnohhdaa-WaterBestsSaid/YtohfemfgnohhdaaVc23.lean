/- A law whose arguments came in: from the contract of the function to what the row asks. No condition. -/
import Derived.Test.YtohfemfgnohhdaaVc22
import Derived.WalkKit
import Derived.ProofKit
import Derived.ShutString
import Derived.ChangeOld
namespace Go.Vc
open Go.ChangeShapes Go.WideShapes Go.ChangeAt Go.RowKit
set_option linter.unusedVariables false
set_option linter.unusedSimpArgs false

def TyArgs : List Ty → Type
  | [] => Unit
  | t :: r => t.T × TyArgs r
def wfArgs : (l : List Ty) → TyArgs l → Prop
  | [], _ => True
  | t :: r, x => t.wf x.1 ∧ wfArgs r x.2
def encArgs : (l : List Ty) → TyArgs l → List SV
  | [], _ => []
  | t :: r, x => t.enc x.1 :: encArgs r x.2
def okArgs (T : List (Nat × TE)) : List Ty → List TypeId → Bool
  | [], [] => true
  | t :: r, e :: es => okArg T t e && okArgs T r es
  | _, _ => false
def rowedArgs (P : Program) (ts : List TypeId) : Bool := ts.all fun t => P.readableRec t && decide (t < P.types.size)

theorem Keep.below {w w' : World} (h : Keep w w') : Below w.heap.size w w' := ⟨h.os, h.tape, h.output, h.size, h.b⟩

section
variable {H : Type} {enc : TypeId × Value → H} {P : Program} {T : List (Nat × TE)}
theorem args_open (hT : TOk P T) {w : World} {held : Bool} {base : Nat} {r : Reach} : ∀ {τs : List Ty} {ts : List TypeId} {vs : List Value} {ds : List (DataW H)} {ps : List MemPlace}, okArgs T τs ts = true →
    (∀ (j : Nat) t v, ts[j]? = some t → vs[j]? = some v → Value.okWide P w r base t v) → DataW.TrodAll enc P w 0 (fun _ => true) held ts vs ds ps →
    ∃ zs : TyArgs τs, wfArgs τs zs ∧ ArgsOk w (fun _ => False) vs (encArgs τs zs) ∧ ds.length = ts.length
  | [], [], [], [], _, _, _, _ => ⟨(), trivial, ⟨rfl, fun i v A h => by simp at h⟩, rfl⟩
  | τ :: τs, t :: ts, v :: vs, d :: ds, _, hk, hv, ⟨p, q, h1, h2, _⟩ => by
    simp only [okArgs, Bool.and_eq_true] at hk
    obtain ⟨z, h3, h4⟩ := arg_open hT hk.1 (hv 0 t v rfl rfl) h1
    obtain ⟨zs, h5, h6, h7⟩ := args_open hT (τs := τs) hk.2 (fun j t v h h' => hv (j + 1) t v (by simpa using h) (by simpa using h')) h2
    refine ⟨(z, zs), ⟨h3, h5⟩, ⟨by simp [encArgs, h6.1], fun i v A hv hA => ?_⟩, by simp [h7]⟩
    cases i with
    | zero => simp [encArgs] at hv hA; subst hv; subst hA; exact h4
    | succ i => exact h6.2 i v A (by simpa using hv) (by simpa [encArgs] using hA)
  | [], _ :: _, _, _, _, hk, _, _ => by simp [okArgs] at hk
  | _ :: _, [], _, _, _, hk, _, _ => by simp [okArgs] at hk
  | [], [], _ :: _, _, _, _, _, h => h.elim
  | [], [], [], _ :: _, _, _, _, h => h.elim
  | _ :: _, _ :: _, [], _, _, _, _, h => h.elim
  | _ :: _, _ :: _, _ :: _, [], _, _, _, h => h.elim

theorem args_shut (hl : laidOutB P = true) {W W' : World} (hb : Below W.heap.size W W') : ∀ {ts : List TypeId} {vs : List Value} {ds : List (DataW H)} {ps : List MemPlace}, rowedArgs P ts = true →
    (∀ x ∈ ps, x.block < W.heap.size) → DataW.TrodAll enc P W 0 (fun _ => true) true ts vs ds ps → DataW.TrodAll enc P W' 0 (fun b => decide (b < W.heap.size)) true ts vs ds ps
  | [], [], [], _, _, _, h => h
  | t :: ts, v :: vs, d :: ds, _, hr, hlt, ⟨p, q, h1, h2, h3⟩ => by
    simp only [rowedArgs, List.all_cons, Bool.and_eq_true, decide_eq_true_eq] at hr
    subst h3
    exact ⟨p, q, Below.trod hl hr.1.1 hr.1.2 h1 hb (fun x hx => hlt x (by simp [hx])), args_shut hl hb hr.2 (fun x hx => hlt x (by simp [hx])) h2, rfl⟩
  | [], [], _ :: _, _, _, _, h => h.elim
  | [], _ :: _, _, _, _, _, h => h.elim
  | _ :: _, [], _, _, _, _, h => h.elim
  | _ :: _, _ :: _, [], _, _, _, h => h.elim

theorem law_contract (hT : TOk P T) (hl : laidOutB P = true) {f : FuncId} {fn : Func} {s : ChangeSpec} (hvars : s.vars = []) {ts : List TypeId} (hts : fn.params.toList = ts) (hro : rowedArgs P ts = true) {tb : TypeId}
    (hres : fn.resultTypes = #[tb]) (hub : P.underlying tb = some .bool) {τs : List Ty} (hk : okArgs T τs ts = true)
    (hs : ∀ ds : List (DataW H), ds.length = ts.length → (s.fn H ds).results = [.lit (.bool true)] ∧ (s.fn H ds).args = ds ∧ (s.fn H ds).vars = [])
    (hfn : ∀ zs : TyArgs τs, wfArgs τs zs → FnAt P false f (encArgs τs zs) (.lit (.bool true)) [])
    {W : World} {base : Nat} {args : Array Value} {ds gs : List (DataW H)} {before : List MemPlace}
    (hval : ∀ (j : Nat) t v, fn.params[j]? = some t → args[j]? = some v → Value.okWide P W .any base t v)
    (hW : DataW.Whole enc P fn.params.toList s.vars false W args.toList ds gs before) :
    Calls P f args W fun e W' => ∃ v, e = .returned v ∧ s.post enc P fn false true false false W args v W' := by
  have hW' := hW
  obtain ⟨p, q, hA, hV, rfl, hfz, hnd⟩ := hW
  rw [hvars] at hV
  obtain ⟨rfl, rfl⟩ := trodVars_none hV
  rw [hts] at hA
  obtain ⟨zs, h1, h2, h3⟩ := args_open hT (τs := τs) hk (fun j t v ht hv => hval j t v (by rw [← hts] at ht; simpa using ht) (by simpa using hv)) hA
  obtain ⟨_, h4⟩ := hfn zs h1
  have h5 := h4 W (fun _ => False) args.toList (fun _ h => h.elim) ⟨h2.1, fun i v A hv hB => (h2.2 i v A hv hB).mono fun b x e fz hb hn => ⟨hb, fun h => h.2⟩⟩
  refine h5.mono fun e W' ⟨r, he, hkp, g, hr, _⟩ => ?_
  have hrv : r = .bool true := hr.1
  subst hrv
  have hb := hkp.below
  obtain ⟨h6, h7, h8⟩ := hs ds h3
  have hlt : ∀ x ∈ p, x.block < W.heap.size := DataW.TrodAll.lt hA
  refine ⟨_, he, ds, [], p ++ [], [], p, [], hW', ?_, ?_, ?_, hb.frame _, fun h => by cases h⟩
  · rw [hres]
    simp only [List.append_nil, h6]
    exact trodAll_mk1 (shut_bool hub _)
  · rw [hts]
    simp only [List.append_nil, h7]
    exact args_shut hl hb hro hlt hA
  · rw [hvars]
    simp only [List.append_nil, h8]
    rfl
end
end Go.Vc
