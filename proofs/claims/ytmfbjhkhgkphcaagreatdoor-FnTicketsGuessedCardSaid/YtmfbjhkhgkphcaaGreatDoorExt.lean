/- Regions that draw their order and hold calls that make memory: one walk, in the class of the worlds that stand over the one at hand; and the order of a region's text looked through once, number by number. No condition. -/
import Derived.Test.YtmfbjhkhgkphcaaGreatDoorWWords
import Derived.Deep.Quiet
import Derived.BigQuiet
import Derived.KernelRfl
namespace Go.Proofs.YtmfbjhkhgkphcaaGreatDoorW.PrintWords
open Go.RowKit
structure Ext (v : World) where
  w : World
  h : Below v.heap.size v w
instance (v : World) : Nonempty (Ext v) := ⟨⟨v, Below.refl _ _⟩⟩
theorem wp_region_ext_ {P : Program} {id : Nat} {Q : Exit → Act → World → Prop} {a : Act} {w : World} {l : List Oper} (hm : P.follows .mixedOrders = true) (hB : Region.lexB .any l.toArray = true)
    (h : wpQuiet P l.toArray (fun w' => ∃ x : Ext w, w' = x.w) (fun a' => ∀ w', (∃ x : Ext w, w' = x.w) → Q .normal a' w') l a) : (Code.region id l.toArray true).wp P Q a w :=
  wp_region_quiet (C := fun w' => ∃ x : Ext w, w' = x.w) hm hB ⟨⟨_, (Below.refl _ w).drew⟩, rfl⟩ (by simpa using h)
theorem ext_ofB_ {P : Program} {f : FuncId} {xs : Array Value} {v : World} {u : Value} {x : Ext v} (h : Calls P f xs x.w fun e w' => e = .returned u ∧ Below x.w.heap.size x.w w') : Calls P f xs x.w fun e w' => e = .returned u ∧ ∃ y : Ext v, w' = y.w :=
  h.mono fun _ w' k => ⟨k.1, ⟨w', below_step x.h k.2⟩, rfl⟩
theorem ext_ofD_ {P : Program} {f : FuncId} {xs : Array Value} {v : World} {u : Value} {x : Ext v} (h : Calls P f xs x.w fun e w' => e = .returned u ∧ Drawn0 x.w w') : Calls P f xs x.w fun e w' => e = .returned u ∧ ∃ y : Ext v, w' = y.w :=
  h.mono fun _ w' k => ⟨k.1, ⟨w', below_step x.h k.2.below⟩, rfl⟩
theorem ext_out_ {v w : World} (h : ∃ x : Ext v, w = x.w) : Below v.heap.size v w := by obtain ⟨x, rfl⟩ := h; exact x.h
theorem wpList_quiet_ {P : Program} {ops : Array Oper} {C : World → Prop} {Q : Exit → Act → World → Prop} : ∀ (l : List Oper) (a : Act) (w : World), C w → wpQuiet P ops C (fun a' => ∀ w', C w' → Q .normal a' w') l a → wpList P ops Q l a w
  | [], a, w, hw, h => h w hw
  | o :: l, a, w, hw, h => by
    unfold wpQuiet at h
    unfold wpList
    split
    · rename_i hq
      rw [if_pos hq] at h
      exact .inl (Oper.wp_of_quiet hw (fun a' w' hw' h' => wpList_quiet_ l a' w' hw' h') h)
    · rename_i hq
      rw [if_neg hq] at h
      exact wpList_quiet_ l _ w hw h
/-- The same for a region that keeps to the order of its text. -/
theorem wp_region_extL_ {P : Program} {id : Nat} {Q : Exit → Act → World → Prop} {a : Act} {w : World} {l : List Oper}
    (h : wpQuiet P l.toArray (fun w' => ∃ x : Ext w, w' = x.w) (fun a' => ∀ w', (∃ x : Ext w, w' = x.w) → Q .normal a' w') l a) : (Code.region id l.toArray false).wp P Q a w :=
  wp_region_lit (wpList_quiet_ (C := fun w' => ∃ x : Ext w, w' = x.w) l a w ⟨⟨w, Below.refl _ w⟩, rfl⟩ h)
/-- Where all callees are quiet: the class of the worlds that have drawn alone. -/
theorem wp_region_quietL_ {P : Program} {id : Nat} {Q : Exit → Act → World → Prop} {a : Act} {w : World} {l : List Oper}
    (h : wpQuiet P l.toArray (fun w' => ∃ n, w' = w.drewN n) (fun a' => ∀ w', (∃ n, w' = w.drewN n) → Q .normal a' w') l a) : (Code.region id l.toArray false).wp P Q a w :=
  wp_region_lit (wpList_quiet_ (C := fun w' => ∃ n, w' = w.drewN n) l a w ⟨0, rfl⟩ h)
/-- A region whose operations' destinations stand one behind the other from b on: what each looks at of them lies ahead of it and is waited for; so the order of the text is one of the orders, and all others come to the same. Looked through once, number by number. -/
def lexC (md : Region.Mode) (b : Nat) (ops : Array Oper) : Nat → List Oper → Bool
  | _, [] => true
  | j, o :: r => o.dst == some (b + j) && o.after.all (fun e => !Region.binds md e || decide (e.on < j)) && (o.looksAt ops).all (fun (t : Nat) => decide (t < b) || decide (b + ops.size ≤ t) || (decide (t < b + j) && o.after.any (fun e => Region.binds md e && e.on == t - b))) && lexC md b ops (j + 1) r
theorem lexC_at {md : Region.Mode} {b : Nat} {ops : Array Oper} : ∀ {l : List Oper} {j : Nat}, lexC md b ops j l = true → ∀ (i : Nat) (o : Oper), l[i]? = some o →
    o.dst = some (b + (j + i)) ∧ (∀ e ∈ o.after, Region.binds md e = true → e.on < j + i) ∧ ∀ t : Nat, t ∈ o.looksAt ops → t < b ∨ b + ops.size ≤ t ∨ (t < b + (j + i) ∧ ∃ e ∈ o.after, Region.binds md e = true ∧ e.on = t - b)
  | [], _, _, i, o, h => by simp at h
  | x :: l, j, hc, i, o, h => by
    unfold lexC at hc
    simp only [Bool.and_eq_true] at hc
    obtain ⟨⟨⟨h1, h2⟩, h3⟩, h4⟩ := hc
    cases i with
    | zero =>
      have : x = o := by simpa using h
      subst this
      refine ⟨by simpa using h1, fun e he hb => ?_, fun t ht => ?_⟩
      · have := Array.all_eq_true_iff_forall_mem.1 h2 e he
        simp [hb] at this
        omega
      · have := List.all_eq_true.1 h3 t ht
        simp only [Bool.or_eq_true, Bool.and_eq_true, decide_eq_true_eq, Array.any_eq_true', beq_iff_eq] at this
        rcases this with (q | q) | ⟨q, e, he, hb, hq⟩
        · exact .inl q
        · exact .inr (.inl q)
        · exact .inr (.inr ⟨by omega, e, he, hb, hq⟩)
    | succ i =>
      have := lexC_at h4 i o (by simpa using h)
      rw [show j + 1 + i = j + (i + 1) by omega] at this
      exact this
theorem lexC_from {md : Region.Mode} {b : Nat} {ops : Array Oper} (hc : lexC md b ops 0 ops.toList = true) : ∀ (fuel k : Nat) (listed : Array Bool), k + fuel = ops.size → listed.size = ops.size →
    (∀ j, j < ops.size → listed[j]? = some (decide (j < k))) → Region.lexFrom md ops fuel k listed = true := by
  have at_ : ∀ (i : Nat) (o : Oper), ops[i]? = some o → o.dst = some (b + i) ∧ (∀ e ∈ o.after, Region.binds md e = true → e.on < i) ∧ ∀ t : Nat, t ∈ o.looksAt ops → t < b ∨ b + ops.size ≤ t ∨ (t < b + i ∧ ∃ e ∈ o.after, Region.binds md e = true ∧ e.on = t - b) := fun i o h => by
    have := lexC_at hc i o (by simpa using h)
    rwa [Nat.zero_add] at this
  intro fuel
  induction fuel with
  | zero =>
    intro k listed hk hs hl
    unfold Region.lexFrom Region.ready
    rw [List.isEmpty_iff, List.filter_eq_nil_iff]
    intro i hi
    have hi := List.mem_range.1 hi
    rw [Array.getD_eq_getD_getElem?, hl i hi]
    simp; omega
  | succ fuel ih =>
    intro k listed hk hs hl
    have hkn : k < ops.size := by omega
    obtain ⟨o, ho⟩ : ∃ o, ops[k]? = some o := ⟨ops[k], Array.getElem?_eq_getElem hkn⟩
    obtain ⟨d1, d2, d3⟩ := at_ k o ho
    unfold Region.lexFrom
    rw [Bool.and_eq_true, Bool.and_eq_true]
    refine ⟨⟨?_, ?_⟩, ?_⟩
    · unfold Region.ready
      rw [List.contains_iff_mem, List.mem_filter]
      refine ⟨List.mem_range.2 hkn, ?_⟩
      rw [Array.getD_eq_getD_getElem?, hl k hkn, ho]
      simp only [Option.getD_some, Nat.lt_irrefl, decide_false, Bool.not_false, Bool.true_and, Option.map_some]
      refine Array.all_eq_true_iff_forall_mem.2 fun e he => ?_
      cases hb : Region.binds md e with
      | false => rfl
      | true =>
        have := d2 e he hb
        rw [Array.getD_eq_getD_getElem?, hl e.on (by omega)]
        simp [this]
    · unfold Region.free
      rw [ho]
      simp only
      refine List.all_eq_true.2 fun j hj => ?_
      have hj := List.mem_range.1 hj
      rw [Array.getD_eq_getD_getElem?, hl j hj]
      by_cases q : j < k
      · simp [q]
      by_cases q2 : j = k
      · simp [q2]
      have hoj : ops[j]? = some ops[j] := Array.getElem?_eq_getElem hj
      rw [hoj]
      simp only
      obtain ⟨e1, e2, e3⟩ := at_ j _ hoj
      cases hw : ops[j].after.any (fun e => Region.binds md e && e.on == k) with
      | true => simp
      | false =>
        have hap : o.apart ops ops[j] = true := by
          unfold Oper.apart
          rw [d1, e1]
          simp only [Bool.and_eq_true, Bool.not_eq_true']
          refine ⟨⟨?_, ?_⟩, ?_⟩
          · rw [Bool.eq_false_iff]
            intro hm
            have ht := List.contains_iff_mem.1 hm
            rcases e3 (b + k) ht with g | g | ⟨g, e, he, hb, hq⟩
            · omega
            · omega
            · have : ops[j].after.any (fun e => Region.binds md e && e.on == k) = true := Array.any_eq_true'.2 ⟨e, he, by rw [hb]; simp; omega⟩
              rw [hw] at this; cases this
          · rw [bne_iff_ne]
            intro h
            have := Option.some.inj h
            omega
          · rw [Bool.eq_false_iff]
            intro hm
            have ht := List.contains_iff_mem.1 hm
            rcases d3 (b + j) ht with g | g | ⟨g, _⟩ <;> omega
        rw [hap]; simp
    · refine ih (k + 1) _ (by omega) (by simpa using hs) (fun j hj => ?_)
      rw [Array.getElem?_setIfInBounds]
      by_cases q : k = j
      · subst q
        rw [if_pos rfl, if_pos (by omega)]; simp
      · rw [if_neg q, hl j hj]
        congr 1
        by_cases g : j < k
        · simp [g]; omega
        · simp [g]; omega
theorem lexB_of {ops : Array Oper} (h : (Region.noSelect ops && lexC .any (((ops[0]?).bind (·.dst)).getD 0) ops 0 ops.toList) = true) : Region.lexB .any ops = true := by
  rw [Bool.and_eq_true] at h
  unfold Region.lexB
  rw [Bool.and_eq_true]
  exact ⟨h.1, lexC_from h.2 ops.size 0 _ (by omega) (by simp) (fun j hj => by simp [hj])⟩
end Go.Proofs.YtmfbjhkhgkphcaaGreatDoorW.PrintWords
