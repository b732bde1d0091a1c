/- Short names for what the walks say often: guards, calls of law functions, proofs of side conditions. No condition. -/
import Derived.Test.YtmfbjhkhgkphcaaGreatDoorWLast
import Derived.Test.YtmfbjhkhgkphcaaGreatDoorWMore
import Derived.Test.YtmfbjhkhgkphcaaGreatDoorWWords
import Derived.KernelRfl
namespace Go.Proofs.YtmfbjhkhgkphcaaGreatDoorW.PrintWords
open Go.RowKit Go.Proofs.YtmfbjhkhgkphcaaGreatDoorW.PrintLast Go.Proofs.YtmfbjhkhgkphcaaGreatDoorW.PrintMore
set_option linter.unusedVariables false
section
variable {P : Program} {ops : Array Oper} {Q : Exit → Act → World → Prop} {rest : List Oper} {oi : Oper} {a : Act} {W : World}
theorem gc_ (f : FuncId) {as : Array Operand} {ts : Array TypeId} (_ho : oi.op = .call { callee := .value (.func f), args := as, argTypes := ts }) (h : wpList P ops Q (oi :: rest) a W) : wpList P ops Q (oi :: rest) a W := h
theorem gL_ (N : Nat) {f : FuncId} {fn : Func} {as : Array Operand} {ts : Array TypeId} (hf : P.funcs[f]? = some fn) (args : Array Value) (h : Calls P f args W fun e w' => ∃ v, e = .returned v ∧ wpList P ops Q rest (a.put (some N) v) w')
    (hd : oi.dst = some N := by exact rfl) (hg : oi.guard = none := by exact rfl) (hname : (fn.name == "runtime.NumGoroutine") = false := by kernel_rfl) (hb : fn.body.isSome = true := by exact rfl)
    (hop : oi.op = .call { callee := .value (.func f), args := as, argTypes := ts } := by exact rfl)
    (hargs : as.map a.eval = args := by (try simp only [List.map_toArray, List.map_cons, List.map_nil]); first | done | rfl | (simp only [List.length_drop, List.length_take]; rfl)) : wpList P ops Q (oi :: rest) a W :=
  goesL_ (some N) hd hg hf hname hb args hop hargs h
end
theorem gd_ {α : Type} {p : Prop} [Decidable p] {x : Option α} {r : α} (H : (if p then x else none) = some r) : p ∧ x = some r := by
  by_cases c : p
  · rw [if_pos c] at H; exact ⟨c, H⟩
  · rw [if_neg c] at H; cases H
theorem dg_ {p : Prop} [Decidable p] {x : Option Bool} {r : Bool} (H : (if p then x else some false) = some r) (h : Aside0 (r = true)) : p ∧ x = some r := by
  by_cases c : p
  · rw [if_pos c] at H; exact ⟨c, H⟩
  · rw [if_neg c] at H; exact Bool.noConfusion ((Option.some.inj H).trans h.out)
theorem bd_ {α β : Type} {x : Option α} {f : α → Option β} {r : β} (H : x.bind f = some r) : ∃ a, Aside0 (x = some a) ∧ f a = some r := by
  obtain ⟨a, h1, h2⟩ := Option.bind_eq_some_iff.mp H
  exact ⟨a, ⟨h1⟩, h2⟩
theorem bf_ {α : Type} {b : Bool} {x y : Option α} {r : α} (c : ¬ b = true) (H : (if b = true then x else y) = some r) : b = false ∧ y = some r := by
  rw [if_neg c] at H; exact ⟨Bool.eq_false_iff.mpr c, H⟩
theorem zB_ {p : Prop} (h : p := by repeat (first | (with_reducible first | exact HB.out | apply below_alloc | apply pw_below_drewN | apply below_drew1) | exact HB.out)) : p := h
theorem zR_ {p : Prop} (h : p := by first | rfl | (simp [errW_none, errW_some] <;> rfl) | (simp [*, errW_none, errW_some] <;> rfl)) : p := h
theorem zL_ {p : Prop} (h : p := by first | exact rfl | (simp [errW_none, errW_some] <;> rfl) | (simp [*, errW_none, errW_some] <;> rfl)) : p := h
theorem zV_ {p : Prop} (h : p := by first | exact rfl | rfl | (simp; done) | (simp [*]; done)) : p := h
theorem zS_ {p : Prop} (h : p := by first | (with_reducible assumption) | assumption) : p := h
end Go.Proofs.YtmfbjhkhgkphcaaGreatDoorW.PrintWords
