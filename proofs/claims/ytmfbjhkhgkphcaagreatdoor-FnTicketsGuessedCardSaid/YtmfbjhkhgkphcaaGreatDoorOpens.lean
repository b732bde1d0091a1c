/- An argument of any kind that is read, told as a value of the printed texts' kinds: from the data's reading to 'Kd.K'. No condition. -/
import Derived.Test.YtmfbjhkhgkphcaaGreatDoorWWords
import Derived.Deep.Slices
import Derived.ChangeArms
import Derived.DataReads
import Derived.WideShapes
namespace Go.Proofs.YtmfbjhkhgkphcaaGreatDoor.Opens
open Go.RowKit Go.ChangeShapes Go.WideShapes Go.Deep Go.Proofs.YtmfbjhkhgkphcaaGreatDoorW.PrintWords
section
variable {H : Type} {enc : TypeId × Value → H} {P : Program} {w : World} {base : Nat} {spare : Nat → Bool} {held : Bool}

/-- Whatever data of type t reads as: its cells are those of a value of the kind d, which is good. -/
def Opens {α : Type} (enc : TypeId × Value → H) (P : Program) (w : World) (base : Nat) (spare : Nat → Bool) (held : Bool) (d : Kd α) (t : TypeId) (good : α → Prop) : Prop :=
  ∀ (fuel : Nat) (cs : List Value) (x : DataW H × List MemPlace), DataW.trod enc P w base spare held fuel t cs = some x → ∃ y, d.K w y cs ∧ good y

theorem opens_int {k : IntKind} {t : TypeId} (ht : P.underlying t = some (.int k)) : Opens enc P w base spare held (Kd.int k) t (fun n => (Lit.int k n).wf = true) := by
  intro fuel cs x h
  obtain ⟨n, rfl, _, hw⟩ := DataW.trod_int ht h
  exact ⟨n, rfl, hw⟩

theorem opens_bool {t : TypeId} (ht : P.underlying t = some .bool) : Opens enc P w base spare held Kd.bool t (fun _ => True) := by
  intro fuel cs x h
  obtain ⟨n, rfl, _⟩ := DataW.trod_bool ht h
  exact ⟨n, rfl, trivial⟩

theorem opens_string {t : TypeId} (ht : P.underlying t = some .string) : Opens enc P w base spare held Kd.string t (fun s => s.size ≤ maxLen) := by
  intro fuel cs x h
  obtain ⟨n, rfl, _, hw⟩ := DataW.trod_string ht h
  exact ⟨n, rfl, hw⟩

theorem opens_iso {α β : Type} {d : Kd α} {t : TypeId} {good : α → Prop} (h : Opens enc P w base spare held d t good) (f : β → α) (g : α → β) (hfg : ∀ x, f (g x) = x) :
    Opens enc P w base spare held (Kd.iso d f) t (fun y => good (f y)) := by
  intro fuel cs x hx
  obtain ⟨y, hy, hg⟩ := h fuel cs x hx
  refine ⟨g y, ?_, ?_⟩
  · show d.K w (f (g y)) cs
    rw [hfg]; exact hy
  · show good (f (g y))
    rw [hfg]; exact hg

theorem opens_slice {α : Type} {d : Kd α} {t e : TypeId} {good : α → Prop} (ht : P.underlying t = some (.slice e)) (hz : P.cellsOf e = d.sz) (h : Opens enc P w base spare held d e good) :
    Opens enc P w base spare held (Kd.slice e d) t (fun l => (∀ y ∈ l, good y) ∧ l.length ≤ maxLen) := by
  intro fuel cs x hx
  rcases open_slice ht hx with ⟨rfl, _⟩ | ⟨a, len, cap, m, n, D, Pl, rfl, _, hl, hm, hmm, _, hi⟩
  · exact ⟨[], ⟨none, 0, rfl, Nat.le_refl _, rfl, by simp, fun hh => absurd hh (by simp)⟩, by simp⟩
  · have hlm : len ≤ m := by rw [hmm]; split <;> omega
    have hex : ∀ i : Fin len, ∃ y : α, (∃ c : List Value, c.length = d.sz ∧ d.K w y c ∧ ∀ j u, c[j]? = some u → w.cell? (a.add (i.val * d.sz + j)) = some u) ∧ good y := by
      intro i
      obtain ⟨cs', hc, ht'⟩ := hi i.val (by omega)
      obtain ⟨y, hy, hg⟩ := h n cs' _ ht'
      obtain ⟨_, hcl, hat⟩ := World.cells?_some hc
      refine ⟨y, ⟨cs', hcl.trans hz, hy, fun j u hj => ?_⟩, hg⟩
      have hjl : j < P.cellsOf e := by
        have := (List.getElem?_eq_some_iff.1 hj).1
        omega
      have := hat j hjl
      rw [hj, hz] at this
      rw [← Go.Deep.add_add]
      exact this
    obtain ⟨f, hf⟩ := Classical.axiomOfChoice hex
    refine ⟨List.ofFn f, ⟨some a, cap, by rw [List.length_ofFn], by rw [List.length_ofFn]; exact hl, rfl, ?_, fun _ => ⟨a, rfl, ?_⟩⟩, ?_, ?_⟩
    · rw [List.length_ofFn]
      have := Nat.le_trans hl hm
      unfold maxLen at this
      exact this
    · intro j p hj
      obtain ⟨hlt, hp⟩ := List.getElem?_eq_some_iff.1 hj
      rw [List.length_ofFn] at hlt
      obtain ⟨⟨c, h1, h2, h3⟩, _⟩ := hf ⟨j, hlt⟩
      have : p = f ⟨j, hlt⟩ := by rw [← hp]; simp
      rw [this]
      exact ⟨c, h1, h2, h3⟩
    · intro y hy
      obtain ⟨i, rfl⟩ := (List.mem_ofFn).1 hy
      exact (hf i).2
    · rw [List.length_ofFn]; exact Nat.le_trans hl hm

/-- A struct's fields, in line: where the offsets are what the sizes before make. -/
theorem opens_struct1 {α : Type} {d0 : Kd α} {t : TypeId} {f0 : Field} {g0 : α → Prop} (hs : P.underlying t = some (.struct #[f0])) (h : Opens enc P w base spare held d0 f0.type g0)
    (ho : f0.offset = 0) (hc0 : P.cellsOf f0.type = d0.sz) (hct : P.cellsOf t = d0.sz) : Opens enc P w base spare held d0 t g0 := by
  intro fuel cs x hx
  obtain ⟨xs, n, _, _, hcl, hxl, hg⟩ := DataW.trod_struct hs hx
  have h0 := hg 0 f0 rfl
  have hxl1 : xs.length = 1 := by simpa using hxl
  have hx0 : xs[0]? = some (xs[0]'(by omega)) := List.getElem?_eq_getElem (by omega)
  rw [hx0, ho, hc0] at h0
  have e : (cs.drop 0).take d0.sz = cs := by rw [List.drop_zero, List.take_of_length_le (by omega)]
  rw [e] at h0
  exact h _ _ _ h0

theorem opens_struct2 {α β : Type} {d0 : Kd α} {d1 : Kd β} {t : TypeId} {f0 f1 : Field} {g0 : α → Prop} {g1 : β → Prop} (hs : P.underlying t = some (.struct #[f0, f1]))
    (h0 : Opens enc P w base spare held d0 f0.type g0) (h1 : Opens enc P w base spare held d1 f1.type g1)
    (ho0 : f0.offset = 0) (ho1 : f1.offset = d0.sz) (hc0 : P.cellsOf f0.type = d0.sz) (hc1 : P.cellsOf f1.type = d1.sz) (hct : P.cellsOf t = d0.sz + d1.sz) :
    Opens enc P w base spare held (Kd.pair d0 d1) t (fun y => g0 y.1 ∧ g1 y.2) := by
  intro fuel cs x hx
  obtain ⟨xs, n, _, _, hcl, hxl, hg⟩ := DataW.trod_struct hs hx
  have hxl1 : xs.length = 2 := by simpa using hxl
  have k0 := hg 0 f0 rfl
  have k1 := hg 1 f1 rfl
  rw [List.getElem?_eq_getElem (by omega), ho0, hc0] at k0
  rw [List.getElem?_eq_getElem (by omega), ho1, hc1] at k1
  obtain ⟨y0, a0, b0⟩ := h0 _ _ _ k0
  obtain ⟨y1, a1, b1⟩ := h1 _ _ _ k1
  have e1 : (cs.drop d0.sz).take d1.sz = cs.drop d0.sz := List.take_of_length_le (by simp; omega)
  rw [List.drop_zero] at a0
  rw [e1] at a1
  exact ⟨(y0, y1), ⟨_, _, (List.take_append_drop d0.sz cs).symm, a0, a1⟩, b0, b1⟩

theorem opens_struct3 {α β γ : Type} {d0 : Kd α} {d1 : Kd β} {d2 : Kd γ} {t : TypeId} {f0 f1 f2 : Field} {g0 : α → Prop} {g1 : β → Prop} {g2 : γ → Prop} (hs : P.underlying t = some (.struct #[f0, f1, f2]))
    (h0 : Opens enc P w base spare held d0 f0.type g0) (h1 : Opens enc P w base spare held d1 f1.type g1) (h2 : Opens enc P w base spare held d2 f2.type g2)
    (ho0 : f0.offset = 0) (ho1 : f1.offset = d0.sz) (ho2 : f2.offset = d0.sz + d1.sz) (hc0 : P.cellsOf f0.type = d0.sz) (hc1 : P.cellsOf f1.type = d1.sz) (hc2 : P.cellsOf f2.type = d2.sz) (hct : P.cellsOf t = d0.sz + d1.sz + d2.sz) :
    Opens enc P w base spare held (Kd.pair d0 (Kd.pair d1 d2)) t (fun y => g0 y.1 ∧ g1 y.2.1 ∧ g2 y.2.2) := by
  intro fuel cs x hx
  obtain ⟨xs, n, _, _, hcl, hxl, hg⟩ := DataW.trod_struct hs hx
  have hxl1 : xs.length = 3 := by simpa using hxl
  have k0 := hg 0 f0 rfl
  have k1 := hg 1 f1 rfl
  have k2 := hg 2 f2 rfl
  rw [List.getElem?_eq_getElem (by omega), ho0, hc0] at k0
  rw [List.getElem?_eq_getElem (by omega), ho1, hc1] at k1
  rw [List.getElem?_eq_getElem (by omega), ho2, hc2] at k2
  obtain ⟨y0, a0, b0⟩ := h0 _ _ _ k0
  obtain ⟨y1, a1, b1⟩ := h1 _ _ _ k1
  obtain ⟨y2, a2, b2⟩ := h2 _ _ _ k2
  have e2 : (cs.drop (d0.sz + d1.sz)).take d2.sz = (cs.drop d0.sz).drop d1.sz := by
    rw [List.drop_drop]; exact List.take_of_length_le (by simp; omega)
  rw [List.drop_zero] at a0
  rw [e2] at a2
  exact ⟨(y0, y1, y2), ⟨_, _, (List.take_append_drop d0.sz cs).symm, a0, ⟨_, _, (List.take_append_drop d1.sz _).symm, a1, a2⟩⟩, b0, b1, b2⟩

theorem opens_struct4 {α β γ δ : Type} {d0 : Kd α} {d1 : Kd β} {d2 : Kd γ} {d3 : Kd δ} {t : TypeId} {f0 f1 f2 f3 : Field} {g0 : α → Prop} {g1 : β → Prop} {g2 : γ → Prop} {g3 : δ → Prop} (hs : P.underlying t = some (.struct #[f0, f1, f2, f3]))
    (h0 : Opens enc P w base spare held d0 f0.type g0) (h1 : Opens enc P w base spare held d1 f1.type g1) (h2 : Opens enc P w base spare held d2 f2.type g2) (h3 : Opens enc P w base spare held d3 f3.type g3)
    (ho0 : f0.offset = 0) (ho1 : f1.offset = d0.sz) (ho2 : f2.offset = d0.sz + d1.sz) (ho3 : f3.offset = d0.sz + d1.sz + d2.sz) (hc0 : P.cellsOf f0.type = d0.sz) (hc1 : P.cellsOf f1.type = d1.sz) (hc2 : P.cellsOf f2.type = d2.sz) (hc3 : P.cellsOf f3.type = d3.sz)
    (hct : P.cellsOf t = d0.sz + d1.sz + d2.sz + d3.sz) :
    Opens enc P w base spare held (Kd.pair d0 (Kd.pair d1 (Kd.pair d2 d3))) t (fun y => g0 y.1 ∧ g1 y.2.1 ∧ g2 y.2.2.1 ∧ g3 y.2.2.2) := by
  intro fuel cs x hx
  obtain ⟨xs, n, _, _, hcl, hxl, hg⟩ := DataW.trod_struct hs hx
  have hxl1 : xs.length = 4 := by simpa using hxl
  have k0 := hg 0 f0 rfl
  have k1 := hg 1 f1 rfl
  have k2 := hg 2 f2 rfl
  have k3 := hg 3 f3 rfl
  rw [List.getElem?_eq_getElem (by omega), ho0, hc0] at k0
  rw [List.getElem?_eq_getElem (by omega), ho1, hc1] at k1
  rw [List.getElem?_eq_getElem (by omega), ho2, hc2] at k2
  rw [List.getElem?_eq_getElem (by omega), ho3, hc3] at k3
  obtain ⟨y0, a0, b0⟩ := h0 _ _ _ k0
  obtain ⟨y1, a1, b1⟩ := h1 _ _ _ k1
  obtain ⟨y2, a2, b2⟩ := h2 _ _ _ k2
  obtain ⟨y3, a3, b3⟩ := h3 _ _ _ k3
  have e2 : (cs.drop (d0.sz + d1.sz)).take d2.sz = ((cs.drop d0.sz).drop d1.sz).take d2.sz := by rw [List.drop_drop]
  have e3 : (cs.drop (d0.sz + d1.sz + d2.sz)).take d3.sz = ((cs.drop d0.sz).drop d1.sz).drop d2.sz := by
    have hh : (cs.drop (d0.sz + d1.sz + d2.sz)).length ≤ d3.sz := by rw [List.length_drop]; omega
    rw [List.drop_drop, List.drop_drop, ← Nat.add_assoc]; exact List.take_of_length_le hh
  rw [List.drop_zero] at a0
  rw [e2] at a2
  rw [e3] at a3
  exact ⟨(y0, y1, y2, y3), ⟨_, _, (List.take_append_drop d0.sz cs).symm, a0, ⟨_, _, (List.take_append_drop d1.sz _).symm, a1, ⟨_, _, (List.take_append_drop d2.sz _).symm, a2, a3⟩⟩⟩, b0, b1, b2, b3⟩

end
end Go.Proofs.YtmfbjhkhgkphcaaGreatDoor.Opens
