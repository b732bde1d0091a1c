/- Words for calls of function values: one step of the walk, and what a search over a list tells. No condition. -/
import Derived.Test.YtkblngkfeafdaaaWLast
import Derived.Test.YtkblngkfeafdaaaWMore
import Derived.Test.YtkblngkfeafdaaaWWords
namespace Go.Proofs.Ytkblngkfeafdaaa.Fn
open Go.RowKit Go.Proofs.YtkblngkfeafdaaaW.PrintWords Go.Proofs.YtkblngkfeafdaaaW.PrintLast Go.Proofs.YtkblngkfeafdaaaW.PrintMore
section
variable {P : Program} {ops : Array Oper} {Q : Exit → Act → World → Prop}
/-- A call of a function value that a slot holds, as an arm of go_wp2_with. -/
theorem goesF_ {rest : List Oper} {oi : Oper} {a : Act} {w : World} (N : Option Tmp) (hd : oi.dst = N) (hg : oi.guard = none) {f : FuncId} {fn : Func} {c : Operand} {as : Array Operand} {ts : Array TypeId} {lb : Array Value} (hf : P.funcs[f]? = some fn) (hname : (fn.name == "runtime.NumGoroutine") = false) (hb : fn.body.isSome = true) (args : Array Value)
    (hop : oi.op = .call { callee := .value c, args := as, argTypes := ts }) (hc : a.eval c = .func (.func f) #[] lb) (hargs : as.map a.eval = args)
    (h : Calls P f (args ++ lb) w fun e w' => ∃ v, e = .returned v ∧ wpList P ops Q rest (a.put N v) w') : wpList P ops Q (oi :: rest) a w := by
  refine wpList_plain hg fun K hK => ?_
  have he := enters_ hf hname hb (args ++ lb) w
  have hrun : (execOp a.eval oi).run P w = .ok (.enter f (args ++ lb)) w := by
    unfold execOp
    simp [hop, resolve, Deferred.ofValue, invoke, hc, hargs, he]
  unfold Oper.wp
  rw [hrun, Oper.upon_enter]
  refine h.mono fun e w'' hh => ?_
  obtain ⟨v, rfl, hk⟩ := hh
  subst hd
  exact hK _ _ hk
end
/-- Is there an element of which p holds, asked one after the other. -/
def anyO {α : Type} (p : α → Option Bool) : List α → Option Bool
  | [] => some false
  | x :: l => (p x).bind fun t => if t = true then some true else anyO p l
theorem anyO_drop {α : Type} (p : α → Option Bool) (l : List α) (z : α) (j : Nat) (hj : j < l.length) (b : Bool) (h : anyO p (l.drop j) = some b) :
    ∃ t, p (l.getD j z) = some t ∧ ((t = true ∧ b = true) ∨ (t = false ∧ anyO p (l.drop (j + 1)) = some b)) := by
  rw [List.drop_eq_getElem_cons hj] at h
  simp only [anyO] at h
  obtain ⟨t, ht, h⟩ := Option.bind_eq_some_iff.mp h
  refine ⟨t, by rw [List.getD_eq_getElem?_getD, List.getElem?_eq_getElem hj]; exact ht, ?_⟩
  cases t with
  | true => rw [if_pos rfl] at h; exact .inl ⟨rfl, (Option.some.inj h).symm⟩
  | false => rw [if_neg (by decide)] at h; exact .inr ⟨rfl, h⟩
theorem anyO_le {α : Type} {p q : α → Option Bool} (hpq : ∀ x r, p x = some r → q x = some r) : ∀ (l : List α) (b : Bool), anyO p l = some b → anyO q l = some b
  | [], b, h => h
  | x :: l, b, h => by
    simp only [anyO] at h ⊢
    obtain ⟨t, ht, h⟩ := Option.bind_eq_some_iff.mp h
    rw [hpq x t ht]
    simp only [Option.bind_some]
    cases t with
    | true => exact h
    | false => rw [if_neg (by decide)] at h ⊢; exact anyO_le hpq l b h
/-- What an index tells: is there such an element? -/
def idxOk (b : Bool) (i : Int) : Prop := (b = true ∧ 0 ≤ i) ∨ (b = false ∧ i < 0)
theorem idxOk_yes {b : Bool} {i : Int} (h : b = true) (hi : 0 ≤ i) : idxOk b i := .inl ⟨h, hi⟩
theorem idxOk_no {b : Bool} {i : Int} (h : b = false) (hi : i < 0) : idxOk b i := .inr ⟨h, hi⟩
theorem idxOk_true {i : Int} (h : idxOk true i) : 0 ≤ i := by
  rcases h with ⟨_, h⟩ | ⟨h, _⟩
  · exact h
  · cases h
theorem idxOk_false {i : Int} (h : idxOk false i) : i < 0 := by
  rcases h with ⟨h, _⟩ | ⟨_, h⟩
  · cases h
  · exact h
/-- Where every element is decided. -/
theorem anyO_some {α : Type} {p : α → Option Bool} {f : α → Bool} : ∀ (l : List α), (∀ x ∈ l, p x = some (f x)) → anyO p l = some (l.any f)
  | [], _ => rfl
  | x :: l, h => by
    simp only [anyO, h x List.mem_cons_self, Option.bind_some, List.any_cons]
    cases hx : f x with
    | true => simp
    | false => simp [anyO_some l (fun y hy => h y (List.mem_cons_of_mem _ hy))]
end Go.Proofs.Ytkblngkfeafdaaa.Fn
