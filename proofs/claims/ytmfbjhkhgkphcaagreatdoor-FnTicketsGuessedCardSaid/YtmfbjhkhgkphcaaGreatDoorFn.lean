/- Words for calls of function values: one step of the walk, and what a search over a list tells. No condition. -/
import Derived.Test.YtmfbjhkhgkphcaaGreatDoorWLast
import Derived.Test.YtmfbjhkhgkphcaaGreatDoorWMore
import Derived.Test.YtmfbjhkhgkphcaaGreatDoorWWords
import Derived.Laws.IdiomCopy
import Derived.Laws.Slices
import Derived.Lib.SliceRun
import Derived.StillTailTactics
namespace Go.Proofs.YtmfbjhkhgkphcaaGreatDoor.Fn
open Go.RowKit Go.Proofs.YtmfbjhkhgkphcaaGreatDoorW.PrintWords Go.Proofs.YtmfbjhkhgkphcaaGreatDoorW.PrintLast Go.Proofs.YtmfbjhkhgkphcaaGreatDoorW.PrintMore
section
variable {P : Program} {ops : Array Oper} {Q : Exit → Act → World → Prop}
/-- A call of a function value that a slot holds, as an arm of go_wp2_with. -/
theorem goesF_ {rest : List Oper} {oi : Oper} {a : Act} {w : World} (N : Option Tmp) (hd : oi.dst = N) (hg : oi.guard = none) {f : FuncId} {fn : Func} {c : Operand} {as : Array Operand} {ts : Array TypeId} {lb : Array Value} (hf : P.funcs[f]? = some fn) (hname : (fn.name == "runtime.NumGoroutine") = false) (hb : fn.body.isSome = true) (args : Array Value)
    (hop : oi.op = .call { callee := .value c, args := as, argTypes := ts }) (hc : a.eval c = .func (.func f) #[] lb) (hargs : as.map a.eval = args)
    (h : Calls P f (args ++ lb) w fun e w' => ∃ v, e = .returned v ∧ wpList P ops Q rest (a.put N v) w') : wpList P ops Q (oi :: rest) a w := by
  refine wpList_plain hg fun K hK => ?_
  have he := enters_ hf hname hb (args ++ lb) w
  have hrun : (execOp a.eval oi).run P w = .ok (.enter f (args ++ lb)) w := by
    unfold execOp
    simp [hop, resolve, Deferred.ofValue, invoke, hc, hargs, he]
  unfold Oper.wp
  rw [hrun, Oper.upon_enter]
  refine h.mono fun e w'' hh => ?_
  obtain ⟨v, rfl, hk⟩ := hh
  subst hd
  exact hK _ _ hk
end
/-- Is there an element of which p holds, asked one after the other. -/
def anyO {α : Type} (p : α → Option Bool) : List α → Option Bool
  | [] => some false
  | x :: l => (p x).bind fun t => if t = true then some true else anyO p l
theorem anyO_drop {α : Type} (p : α → Option Bool) (l : List α) (z : α) (j : Nat) (hj : j < l.length) (b : Bool) (h : anyO p (l.drop j) = some b) :
    ∃ t, p (l.getD j z) = some t ∧ ((t = true ∧ b = true) ∨ (t = false ∧ anyO p (l.drop (j + 1)) = some b)) := by
  rw [List.drop_eq_getElem_cons hj] at h
  simp only [anyO] at h
  obtain ⟨t, ht, h⟩ := Option.bind_eq_some_iff.mp h
  refine ⟨t, by rw [List.getD_eq_getElem?_getD, List.getElem?_eq_getElem hj]; exact ht, ?_⟩
  cases t with
  | true => rw [if_pos rfl] at h; exact .inl ⟨rfl, (Option.some.inj h).symm⟩
  | false => rw [if_neg (by decide)] at h; exact .inr ⟨rfl, h⟩
theorem anyO_le {α : Type} {p q : α → Option Bool} (hpq : ∀ x r, p x = some r → q x = some r) : ∀ (l : List α) (b : Bool), anyO p l = some b → anyO q l = some b
  | [], b, h => h
  | x :: l, b, h => by
    simp only [anyO] at h ⊢
    obtain ⟨t, ht, h⟩ := Option.bind_eq_some_iff.mp h
    rw [hpq x t ht]
    simp only [Option.bind_some]
    cases t with
    | true => exact h
    | false => rw [if_neg (by decide)] at h ⊢; exact anyO_le hpq l b h
/-- What an index tells: is there such an element? -/
def idxOk (b : Bool) (i : Int) : Prop := (b = true ∧ 0 ≤ i) ∨ (b = false ∧ i < 0)
theorem idxOk_yes {b : Bool} {i : Int} (h : b = true) (hi : 0 ≤ i) : idxOk b i := .inl ⟨h, hi⟩
theorem idxOk_no {b : Bool} {i : Int} (h : b = false) (hi : i < 0) : idxOk b i := .inr ⟨h, hi⟩
theorem idxOk_true {i : Int} (h : idxOk true i) : 0 ≤ i := by
  rcases h with ⟨_, h⟩ | ⟨h, _⟩
  · exact h
  · cases h
theorem idxOk_false {i : Int} (h : idxOk false i) : i < 0 := by
  rcases h with ⟨h, _⟩ | ⟨_, h⟩
  · cases h
  · exact h
/-- Where every element is decided. -/
theorem anyO_some {α : Type} {p : α → Option Bool} {f : α → Bool} : ∀ (l : List α), (∀ x ∈ l, p x = some (f x)) → anyO p l = some (l.any f)
  | [], _ => rfl
  | x :: l, h => by
    simp only [anyO, h x List.mem_cons_self, Option.bind_some, List.any_cons]
    cases hx : f x with
    | true => simp
    | false => simp [anyO_some l (fun y hy => h y (List.mem_cons_of_mem _ hy))]
section
variable {P : Program} {α : Type}
/-- Cells behind the elements of a row of one's own are written: the row stays. -/
theorem R_beyond {d : Kd α} {e : Nat} {W : World} {base : Nat} {ok : Nat → Prop} {g m c : Nat} {xs : List α} (HO : d.R e W base ok (.slice (some ⟨g, 0, none⟩) m c) xs) (o : Nat) (news : List Value) (ho : m * d.sz ≤ o) (hfit : o + news.length ≤ c * d.sz) :
    d.R e (W.setCells g o news) base ok (.slice (some ⟨g, 0, none⟩) m c) xs ∧ W.grownBy (W.setCells g o news) (some g) := by
  obtain ⟨hn, hnc, _⟩ := Kd.R_reads' HO
  obtain ⟨hok, inner, hown, hr⟩ := HO
  rcases hown.2 with ⟨hv, _⟩ | ⟨g', cap', cur, hv, hb, hh, hc1, hcm, hcs, htake⟩
  · cases hv
  injection hv with ha _ hc
  injection ha with ha
  injection ha with hg
  subst hg; subst hc
  obtain ⟨cur', h3, h4, h5⟩ := setCells_row news o W cur hh (by rw [hcs]; exact hfit)
  obtain ⟨s1, s2, s3, s4⟩ := setCells_same g news o W
  have hfar : ∀ k', k' ≠ g → (W.setCells g o news).heap[k']? = W.heap[k']? := fun k' hk' => setCells_far news _ k' hk'
  refine ⟨⟨hok, inner, ⟨hown.1, .inr ⟨g, c, cur', by rw [← hn], hb, h3, by rw [← hn]; exact hnc, hcm, by rw [h4, hcs], ?_⟩⟩, hr.imp_ (fun p q hp => d.M_move (fun k' hk' => hfar k' (fun he => hk'.2 (by simp [Value.ownBlock, he]))) hp)⟩, ⟨s1, s2, s3, by rw [s4]; exact Nat.le_refl _, fun k' _ hk' => hfar k' (fun he => hk' (by rw [he]))⟩⟩
  rw [← hn] at htake ⊢
  rw [h5, List.append_assoc, List.take_append_of_le_length (by rw [List.length_take]; simp; have := hcs; omega), List.take_take, Nat.min_eq_left ho]
  exact htake
/-- 'clear(s)', s the last element alone of a row of one's own. -/
theorem run_clear_one (W : World) (t e ty : TypeId) (z : Value) (zs : List Value) (ht : P.underlying t = some (.slice e)) (hv : ∀ w, (zeroValue e).run P w = .ok z w) (hz : (Builtin.zeroCells z.cells 1).toList = zs) (h1 : ∀ v ∈ zs, v.oneCell' = true) (g o c : Nat) {cur : Array Value} {q : TypeId}
    (hb : W.heap[g]? = some (.cells cur q (0, 0))) (hfit : o + zs.length ≤ cur.size) :
    (Builtin.clear_ #[t] ty #[.slice (some ⟨g, o, none⟩) 1 c]).run P W = .ok (.tuple #[]) (W.setCells g o zs) := by
  have hst := run_storeCells_cells (P := P) g o zs 0 W (fun j hj => by rw [cell_of_row W g _ cur q (0, 0) hb]; simp; omega) (fun j _ => blk_frozen hb _) h1
  simp only [Nat.add_zero] at hst
  simp [Builtin.clear_, run_underlying ht, hv, hz, hst]
/-- 's[l:h:m]' can be told. -/
theorem cut3 (t e : TypeId) (kl kh km : IntKind) {i : TypeInfo} (ht : P.underlying t = some (.slice e)) (hi : P.info? e = some i) (A : Option Addr) (n c : Nat) (l h m : Int) (h0 : 0 ≤ l) (h1 : l ≤ h) (h2 : h ≤ m) (h3 : m ≤ c) :
    ∃ v, ∀ W : World, (Instr.slice t (.slice A n c) (some (.int kl l)) (some (.int kh h)) (some (.int km m))).run P W = .ok v W := by
  have hel : P.elem t = e := by simp [Program.elem, ht]
  have hu : P.underlying t = some (.slice (P.elem t)) := by rw [hel]; exact ht
  refine ⟨.slice (if m.toNat = l.toNat then A else A.map (·.add (l.toNat * i.size))) (h.toNat - l.toNat) (m.toNat - l.toNat), fun W => ?_⟩
  rw [run_slice_lhm W t A n c hu kl kh km l h m h0 h1 h2 h3, hel]
  simp [sizeOf, typeInfo, hi, sliced, Result.andThen]
/-- 's[l:h]', h within the capacity. -/
theorem cut_cap (t e : TypeId) (kl kh : IntKind) {i : TypeInfo} (ht : P.underlying t = some (.slice e)) (hi : P.info? e = some i) (size : Nat) (hsz : i.size = size) (g : Nat) (n c : Nat) (l h : Int) (h0 : 0 ≤ l) (h1 : l ≤ h) (h2 : h ≤ c) (hl : l < c) :
    ∀ W : World, (Instr.slice t (.slice (some ⟨g, 0, none⟩) n c) (some (.int kl l)) (some (.int kh h)) none).run P W = .ok (.slice (some ⟨g, l.toNat * size, none⟩) (h.toNat - l.toNat) (c - l.toNat)) W := by
  intro W
  have hel : P.elem t = e := by simp [Program.elem, ht]
  have hu : P.underlying t = some (.slice (P.elem t)) := by rw [hel]; exact ht
  rw [run_slice_lh W t (some ⟨g, 0, none⟩) n c hu kl kh l h h0 h1 h2, hel]
  have hne : ¬ c = l.toNat := by omega
  simp [sizeOf, typeInfo, hi, hsz, sliced, Result.andThen, hne, add_at]
end
section
variable {P : Program} {ops : Array Oper} {rest : List Oper} {o : Oper} {a : Act} {Q : Exit → Act → World → Prop} {α : Type}
/-- 'clear(s)', s what is left behind a row of one's own: one element. -/
theorem clear_step (d : Kd α) {w0 W : World} (base : Nat) (hgd : o.guard = none) (x : Operand) (t e : TypeId) (z : Value) (zs : List Value) (ho : o.op = .call { callee := .builtin .clear, args := #[x], argTypes := #[t] })
    (ht : P.underlying t = some (.slice e)) (hv : ∀ w, (zeroValue e).run P w = .ok z w) (hz : (Builtin.zeroCells z.cells 1).toList = zs) (h1 : ∀ v ∈ zs, v.oneCell' = true) (hzl : zs.length = d.sz) {g m c c2 off : Nat} {xs : List α} {ok : Nat → Prop}
    (hx : a.eval x = .slice (some ⟨g, off, none⟩) 1 c2) (hoff : off = m * d.sz) (hm : m < c)
    (HO : d.R e W base ok (.slice (some ⟨g, 0, none⟩) m c) xs) (HB : Below base w0 W) (hbase : base ≤ W.heap.size)
    (h : ∀ w1, d.R e w1 base ok (.slice (some ⟨g, 0, none⟩) m c) xs → Below base w0 w1 → wpList P ops Q rest (a.put o.dst (.tuple #[])) w1) : wpList P ops Q (o :: rest) a W := by
  subst hoff
  have hfit : m * d.sz + zs.length ≤ c * d.sz := by
    rw [hzl, ← Nat.succ_mul]; exact Nat.mul_le_mul_right _ hm
  obtain ⟨h2, h3⟩ := R_beyond HO (m * d.sz) zs (Nat.le_refl _) hfit
  have hr : (Builtin.clear_ #[t] o.type #[.slice (some ⟨g, m * d.sz, none⟩) 1 c2]).run P W = .ok (.tuple #[]) (W.setCells g (m * d.sz) zs) := by
    obtain ⟨_, inner, hown, _⟩ := HO
    rcases hown.2 with ⟨hv', _⟩ | ⟨g', cap', cur, hv', hb, hh, hc1, hcm, hcs, htake⟩
    · cases hv'
    injection hv' with ha _ hc
    injection ha with ha
    injection ha with hg
    subst hg; subst hc
    exact run_clear_one W t e o.type z zs ht hv hz h1 g (m * d.sz) c2 hh (by rw [hcs]; exact hfit)
  refine wpList_plain hgd fun K hK => ?_
  unfold Oper.wp execOp
  simp only [ho, resolve, invoke, builtin, Sem.run_bind, Sem.run_pure, Result.andThen_ok, List.map_toArray, List.map_cons, List.map_nil, hx, hr]
  exact hK _ _ (h _ h2 (HB.grown h3 hbase (fun k hk => by injection hk with hk; subst hk; exact Kd.R_base HO _ (by simp [Value.ownBlock]))))
end
end Go.Proofs.YtmfbjhkhgkphcaaGreatDoor.Fn
