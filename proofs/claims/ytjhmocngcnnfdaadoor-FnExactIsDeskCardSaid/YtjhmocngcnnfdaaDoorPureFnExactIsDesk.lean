/- IsDesk: program and reference tell the same of every desk (lists, numbers and texts alone). -/
import Derived.Test.YtjhmocngcnnfdaaDoorPFnExactIsDeskx5
namespace Go.Proofs.YtjhmocngcnnfdaaDoor.Pure
open Go.RowKit Go.Proofs.YtjhmocngcnnfdaaDoor.PFnExactIsDesk Go.Proofs.YtjhmocngcnnfdaaDoorW.PrintWords Go.Proofs.YtjhmocngcnnfdaaDoorW.PrintLast
set_option linter.unusedVariables false
set_option linter.unusedSimpArgs false

theorem wrap_of {x : Int} (h0 : -9223372036854775808 ≤ x) (h1 : x ≤ 9223372036854775807) : wrap64 x = x := by unfold wrap64; omega
theorem wrap_nat {i : Nat} (h : i < 4611686018427387904) : wrap64 ((i : Int) + 1) = ((i + 1 : Nat) : Int) := by unfold wrap64; omega
theorem ev_eq {α : Type} {g : Nat → Option α} {r : α} (h : ∀ k, g k = some r) : Ev g r := ⟨0, fun k _ => h k⟩
theorem ev_bind {α β : Type} {x : Option α} {f : Nat → α → Option β} {a : α} {r : β} (h : x = some a) (k : Ev (fun n => f n a) r) : Ev (fun n => x.bind (f n)) r := by subst h; exact k
theorem ev_pos {α : Type} {c : Prop} [Decidable c] {g f : Nat → Option α} {r : α} (h : c) (k : Ev g r) : Ev (fun n => if c then g n else f n) r := by simp only [if_pos h]; exact k
theorem ev_neg {α : Type} {c : Prop} [Decidable c] {g f : Nat → Option α} {r : α} (h : ¬ c) (k : Ev f r) : Ev (fun n => if c then g n else f n) r := by simp only [if_neg h]; exact k
theorem ev_from {α : Type} {g : Nat → Option α} {r : α} (K : Nat) (h : ∀ k, K ≤ k → g k = some r) : Ev g r := ⟨K, h⟩

/-! ### bytes of a text -/
theorem size_len (t : ByteArray) : t.data.toList.length = t.size := by rw [Array.length_toList]; rfl
theorem bt_get (t : ByteArray) (i : Nat) (h : i < t.data.toList.length) : bt t (i : Int) = ((t.data.toList[i]).toNat : Int) := by
  unfold bt
  rw [dif_pos (by rw [Int.toNat_natCast]; simpa using h)]
  simp only [Int.toNat_natCast]
  rfl
theorem ev_succ {α : Type} {g : Nat → Option α} {r : α} (h : Ev (fun k => g (k + 1)) r) : Ev g r := by
  obtain ⟨K, hK⟩ := h
  refine ev_from (K + 1) (fun k hk => ?_)
  obtain ⟨k, rfl⟩ : ∃ m, k = m + 1 := ⟨k - 1, by omega⟩
  exact hK k (by omega)
theorem ext_list (s : ByteArray) (a b : Nat) (hb : b ≤ s.size) : (s.extract a b).data.toList = (s.data.toList.take b).drop a := by
  rw [ByteArray.data_extract, Array.toList_extract, List.extract_eq_take_drop]
  rw [List.drop_take]
theorem take_list (s : ByteArray) (i : Nat) (h : i ≤ s.size) : (s.extract 0 i).data.toList = s.data.toList.take i := by rw [ext_list s 0 i h]; rfl
theorem drop_list (s : ByteArray) (i : Nat) : (s.extract i s.size).data.toList = s.data.toList.drop i := by
  rw [ext_list s i s.size (Nat.le_refl _), List.take_of_length_le (by rw [size_len]; exact Nat.le_refl _)]
theorem mk_data (s : ByteArray) : (⟨s.data.toList.toArray⟩ : ByteArray) = s := by cases s; simp
theorem of_list {s : ByteArray} {l : List UInt8} (h : s.data.toList = l) : s = ⟨l.toArray⟩ := by rw [← h, mk_data]
theorem list_of (l : List UInt8) : (⟨l.toArray⟩ : ByteArray).data.toList = l := by simp
theorem mk_size (l : List UInt8) : (⟨l.toArray⟩ : ByteArray).size = l.length := by rw [← size_len, list_of]
theorem mk_append (a b : List UInt8) : (⟨a.toArray⟩ : ByteArray) ++ ⟨b.toArray⟩ = ⟨(a ++ b).toArray⟩ := by
  apply of_list; rw [ByteArray.data_append, Array.toList_append, list_of, list_of]
theorem l1In_eq (n lo hi : Int) : spec_l1In.f n lo hi = some (decide (lo ≤ n ∧ n ≤ hi)) := by
  unfold spec_l1In.f
  by_cases h : n ≥ lo
  · rw [if_pos h]; congr 1; simp; intro _; omega
  · rw [if_neg h]; congr 1; simp; intro; omega
theorem within_eq (n lo hi : Int) : impl_within.f n lo hi = some (decide (lo ≤ n ∧ n ≤ hi)) := by
  unfold impl_within.f
  by_cases h : lo ≤ n
  · rw [if_pos h]; congr 1; simp; intro _; omega
  · rw [if_neg h]; congr 1; simp; intro; omega

/-! ### loops that look at each byte -/
theorem wrap_lt {i n : Nat} (h : i < n) (hn : n ≤ 9223372036854775807) : wrap64 ((i : Int) + 1) = ((i + 1 : Nat) : Int) := by unfold wrap64; omega
theorem scan_ev {t : ByteArray} {p : UInt8 → Bool} {F : Nat → Int → Option Bool} {b : Bool}
    (hstep : ∀ k (i : Nat) (h : i < t.data.toList.length), F (k + 1) (i : Int) = if p t.data.toList[i] = true then F k ((i + 1 : Nat) : Int) else some false)
    (hend : Ev (fun k => F k (t.size : Int)) b) : ∀ (d i : Nat), i + d = t.size → Ev (fun k => F k (i : Int)) ((t.data.toList.drop i).all p && b) := by
  intro d
  induction d with
  | zero =>
    intro i hi
    rw [List.drop_eq_nil_of_le (by rw [size_len]; omega)]
    have : i = t.size := by omega
    subst this
    simpa using hend
  | succ d ih =>
    intro i hi
    have h : i < t.data.toList.length := by rw [size_len]; omega
    refine ev_succ ?_
    rw [List.drop_eq_getElem_cons h, List.all_cons]
    simp only [hstep _ i h]
    cases c : p t.data.toList[i] with
    | true => simp only [if_pos trivial]; rw [Bool.true_and]; exact ih (i + 1) (by omega)
    | false => exact ev_neg (by decide) (ev_eq fun _ => by simp)
theorem scan_all {t : ByteArray} {p : UInt8 → Bool} {F : Nat → Int → Option Bool} {b : Bool}
    (hstep : ∀ k (i : Nat) (h : i < t.data.toList.length), F (k + 1) (i : Int) = if p t.data.toList[i] = true then F k ((i + 1 : Nat) : Int) else some false)
    (hend : Ev (fun k => F k (t.size : Int)) b) : Ev (fun k => F k 0) (t.data.toList.all p && b) := scan_ev hstep hend t.size 0 (by omega)
def rise : List UInt8 → Bool
  | a :: b :: r => decide (a.toNat < b.toNat) && rise (b :: r)
  | _ => true
theorem rise_ev {t : ByteArray} {F : Nat → Int → Option Bool} {b : Bool}
    (hstep : ∀ k (i : Nat) (h : i + 1 < t.data.toList.length), F (k + 1) ((i + 1 : Nat) : Int) = if decide (t.data.toList[i].toNat < t.data.toList[i + 1].toNat) = true then F k ((i + 2 : Nat) : Int) else some false)
    (hend : ∀ i : Nat, t.size ≤ i → Ev (fun k => F k (i : Int)) b) : ∀ (d i : Nat), i + 1 + d = t.size → Ev (fun k => F k ((i + 1 : Nat) : Int)) (rise (t.data.toList.drop i) && b) := by
  intro d
  induction d with
  | zero =>
    intro i hi
    have h : i < t.data.toList.length := by rw [size_len]; omega
    rw [List.drop_eq_getElem_cons h, List.drop_eq_nil_of_le (by rw [size_len]; omega)]
    exact hend (i + 1) (by omega)
  | succ d ih =>
    intro i hi
    have h : i + 1 < t.data.toList.length := by rw [size_len]; omega
    refine ev_succ ?_
    rw [List.drop_eq_getElem_cons (Nat.lt_of_succ_lt h), List.drop_eq_getElem_cons h]
    simp only [hstep _ i h, rise]
    have ihh := ih (i + 1) (by omega)
    rw [List.drop_eq_getElem_cons h] at ihh
    cases c : decide (t.data.toList[i].toNat < t.data.toList[i + 1].toNat) with
    | true => simp only [if_pos trivial]; rw [Bool.true_and]; exact ihh
    | false => exact ev_neg (by decide) (ev_eq fun _ => by simp)
theorem rise_all {t : ByteArray} {F : Nat → Int → Option Bool} {b : Bool}
    (hstep : ∀ k (i : Nat) (h : i + 1 < t.data.toList.length), F (k + 1) ((i + 1 : Nat) : Int) = if decide (t.data.toList[i].toNat < t.data.toList[i + 1].toNat) = true then F k ((i + 2 : Nat) : Int) else some false)
    (hend : ∀ i : Nat, t.size ≤ i → Ev (fun k => F k (i : Int)) b) : Ev (fun k => F k 1) (rise t.data.toList && b) := by
  by_cases h : t.size = 0
  · have e : t.data.toList = [] := List.eq_nil_of_length_eq_zero (by rw [size_len]; exact h)
    rw [e]
    exact hend 1 (by omega)
  · exact rise_ev hstep hend (t.size - 1) 0 (by omega)
theorem dropWhile_all {p : UInt8 → Bool} : ∀ l : List UInt8, (l.dropWhile p).isEmpty = l.all p
  | [] => rfl
  | a :: r => by
    rw [List.all_cons]
    cases c : p a with
    | true => rw [List.dropWhile_cons, if_pos c, dropWhile_all r]; rfl
    | false => rw [List.dropWhile_cons, if_neg (by simp [c])]; rfl
theorem all_dropWhile {p : UInt8 → Bool} : ∀ l : List UInt8, (l.dropWhile p).all p = l.all p
  | [] => rfl
  | a :: r => by
    cases c : p a with
    | true => rw [List.dropWhile_cons, if_pos c, all_dropWhile r, List.all_cons, c]; rfl
    | false => rw [List.dropWhile_cons, if_neg (by simp [c])]
theorem trim_all (l cs : List UInt8) : (Lib.trimS l cs).isEmpty = l.all (fun b => cs.contains b) := by
  unfold Lib.trimS Lib.trimLeftS Lib.trimRightS
  rw [dropWhile_all, List.all_reverse, all_dropWhile, List.all_reverse]
theorem loop_ne (bs : ByteArray) : ∀ (n i : Nat) (r : List UInt8), bs.size - i = n → r ≠ [] → ByteArray.toList.loop bs i r ≠ [] := by
  intro n
  induction n with
  | zero =>
    intro i r hi hr
    rw [ByteArray.toList.loop, if_neg (by omega)]
    exact fun e => hr (List.reverse_eq_nil_iff.mp e)
  | succ n ih =>
    intro i r hi hr
    rw [ByteArray.toList.loop, if_pos (by omega)]
    exact ih (i + 1) _ (by omega) (by simp)
theorem empty_list (l : List UInt8) : ((⟨l.toArray⟩ : ByteArray).toList == ([] : List UInt8)) = l.isEmpty := by
  cases l with
  | nil =>
    unfold ByteArray.toList
    rw [ByteArray.toList.loop, if_neg (by show ¬ (0 : Nat) < 0; decide)]
    rfl
  | cons a r =>
    have : (⟨(a :: r).toArray⟩ : ByteArray).toList ≠ [] := by
      unfold ByteArray.toList
      rw [ByteArray.toList.loop, if_pos (by show 0 < (a :: r).length; simp)]
      exact loop_ne _ _ 1 _ rfl (by simp)
    exact beq_eq_false_iff_ne.mpr this
def dgc (b : UInt8) : Bool := decide (48 ≤ b.toNat ∧ b.toNat ≤ 57)
def sgc (b : UInt8) : Bool := decide ((65 ≤ b.toNat ∧ b.toNat ≤ 90) ∨ (48 ≤ b.toNat ∧ b.toNat ≤ 57))

/-! ### tickets, readings, signs, schemes, desks -/
theorem areDigits_ev (t : ByteArray) (lo hi : Int) (hs : t.size ≤ maxLen) : Ev (fun k => impl_areDigits.f k t lo hi) (t.data.toList.all dgc && decide (lo ≤ (t.size : Int) ∧ (t.size : Int) ≤ hi)) := by
  unfold impl_areDigits.f
  unfold maxLen at hs
  refine scan_all (F := fun k i => impl_areDigits.l0 k t lo hi (t.size : Int) i) (fun k i h => ?_) (ev_succ ?_)
  · have hi := h
    rw [size_len] at hi
    simp only [impl_areDigits.l0]
    rw [bt_get t i h, wrap_lt hi (by omega), if_pos (by omega), if_pos (by omega), if_pos (by omega)]
    unfold dgc
    by_cases c1 : ((t.data.toList[i]).toNat : Int) < 48
    · rw [if_pos c1, if_neg (by simp only [decide_eq_true_eq, beq_iff_eq, Bool.and_eq_true]; omega)]
    · rw [if_neg c1]
      by_cases c2 : ((t.data.toList[i]).toNat : Int) > 57
      · rw [if_pos c2, if_neg (by simp only [decide_eq_true_eq, beq_iff_eq, Bool.and_eq_true]; omega)]
      · rw [if_neg c2, if_pos (by simp only [decide_eq_true_eq, beq_iff_eq, Bool.and_eq_true]; omega)]
  · simp only [impl_areDigits.l0]
    exact ev_neg (by omega) (ev_bind (within_eq _ _ _) (ev_eq fun _ => rfl))
theorem areSigns_ev (t : ByteArray) (lo hi : Int) (hs : t.size ≤ maxLen) : Ev (fun k => impl_areSigns.f k t lo hi) (t.data.toList.all sgc && decide (lo ≤ (t.size : Int) ∧ (t.size : Int) ≤ hi)) := by
  unfold impl_areSigns.f
  unfold maxLen at hs
  refine scan_all (F := fun k i => impl_areSigns.l0 k t lo hi (t.size : Int) i) (fun k i h => ?_) (ev_succ ?_)
  · have hi := h
    rw [size_len] at hi
    simp only [impl_areSigns.l0, impl_isLetter.f]
    rw [bt_get t i h, wrap_lt hi (by omega), if_pos (by omega), if_pos (by omega), if_pos (by omega)]
    unfold sgc
    by_cases c0 : ((t.data.toList[i]).toNat : Int) ≥ 65
    · rw [if_pos c0]; simp only [Option.bind_some]
      by_cases c3 : ((t.data.toList[i]).toNat : Int) ≤ 90
      · rw [if_pos (by simp only [decide_eq_true_eq, beq_iff_eq, Bool.and_eq_true]; omega), if_pos (by simp only [decide_eq_true_eq, beq_iff_eq, Bool.and_eq_true]; omega)]
      · rw [if_neg (by simp only [decide_eq_true_eq, beq_iff_eq, Bool.and_eq_true]; omega), if_neg (by omega), if_pos (by omega), if_neg (by simp only [decide_eq_true_eq, beq_iff_eq, Bool.and_eq_true]; omega)]
    · rw [if_neg c0]; simp only [Option.bind_some]
      rw [if_neg (by decide)]
      by_cases c1 : ((t.data.toList[i]).toNat : Int) < 48
      · rw [if_pos c1, if_neg (by simp only [decide_eq_true_eq, beq_iff_eq, Bool.and_eq_true]; omega)]
      · rw [if_neg c1]
        by_cases c2 : ((t.data.toList[i]).toNat : Int) > 57
        · rw [if_pos c2, if_neg (by simp only [decide_eq_true_eq, beq_iff_eq, Bool.and_eq_true]; omega)]
        · rw [if_neg c2, if_pos (by simp only [decide_eq_true_eq, beq_iff_eq, Bool.and_eq_true]; omega)]
  · simp only [impl_areSigns.l0]
    exact ev_neg (by omega) (ev_bind (within_eq _ _ _) (ev_eq fun _ => rfl))
def tickB (t : ByteArray) : Bool := t.data.toList.all dgc && decide (2 ≤ t.size ∧ t.size ≤ 12 ∧ t.size % 2 = 0)
theorem isTicket_ev (t : ByteArray) (hs : t.size ≤ maxLen) : Ev (fun k => impl_IsTicket.f k t) (tickB t) := by
  unfold impl_IsTicket.f
  refine Ev.bind (areDigits_ev t 2 12 hs) ?_
  unfold tickB
  cases t.data.toList.all dgc with
  | false => exact ev_neg (by simp) (ev_eq fun _ => by simp)
  | true =>
    rw [Bool.true_and, Bool.true_and]
    by_cases h : 2 ≤ t.size ∧ t.size ≤ 12
    · refine ev_pos (by simp only [decide_eq_true_eq, beq_iff_eq, Bool.and_eq_true]; omega) (ev_eq fun _ => congrArg some ?_)
      rw [Bool.eq_iff_iff]; simp; omega
    · refine ev_neg (by simp only [decide_eq_true_eq, beq_iff_eq, Bool.and_eq_true]; omega) (ev_eq fun _ => congrArg some ?_)
      symm; apply decide_eq_false; omega
theorem tkGood_ev (t : ByteArray) (hs : t.size ≤ maxLen) : Ev (fun k => spec_tkGood.f k t) (tickB t) := by
  unfold spec_tkGood.f spec_tkSize.f
  unfold maxLen at hs
  rw [l1In_eq]
  simp only [Option.bind_some]
  unfold tickB
  have hl := scan_all (t := t) (p := dgc) (b := true) (F := fun k i => spec_tkGood.l0 k t i) (fun k i h => by
    have hi := h
    rw [size_len] at hi
    simp only [spec_tkGood.l0]
    rw [bt_get t i h, wrap_lt hi (by omega), if_pos (by omega), if_pos (by omega)]
    unfold dgc
    by_cases c1 : ((t.data.toList[i]).toNat : Int) < 48
    · rw [if_pos c1, if_neg (by simp only [decide_eq_true_eq, beq_iff_eq, Bool.and_eq_true]; omega)]
    · rw [if_neg c1]
      by_cases c2 : ((t.data.toList[i]).toNat : Int) > 57
      · rw [if_pos c2, if_neg (by simp only [decide_eq_true_eq, beq_iff_eq, Bool.and_eq_true]; omega)]
      · rw [if_neg c2, if_pos (by simp only [decide_eq_true_eq, beq_iff_eq, Bool.and_eq_true]; omega)]) (ev_succ (by simp only [spec_tkGood.l0]; exact ev_neg (by omega) (ev_eq fun _ => rfl)))
  rw [Bool.and_true] at hl
  by_cases h : 2 ≤ t.size ∧ t.size ≤ 12
  · rw [if_pos (by simp only [decide_eq_true_eq, beq_iff_eq, Bool.and_eq_true]; omega)]
    simp only [Option.bind_some]
    have em : Int.tmod (t.size : Int) 2 = ((t.size % 2 : Nat) : Int) := by rw [Int.tmod_eq_emod_of_nonneg (by omega)]; omega
    rw [em]
    by_cases h2 : t.size % 2 = 0
    · rw [decide_eq_true (show 2 ≤ t.size ∧ t.size ≤ 12 ∧ t.size % 2 = 0 from ⟨h.1, h.2, h2⟩), Bool.and_true]
      exact ev_pos (by simp only [decide_eq_true_eq, beq_iff_eq, Bool.and_eq_true]; omega) hl
    · rw [decide_eq_false (by omega), Bool.and_false]
      exact ev_neg (by simp only [decide_eq_true_eq, beq_iff_eq, Bool.and_eq_true]; omega) (ev_eq fun _ => rfl)
  · rw [if_neg (by simp only [decide_eq_true_eq, beq_iff_eq, Bool.and_eq_true]; omega), decide_eq_false (by omega), Bool.and_false]
    simp only [Option.bind_some]
    exact ev_neg (by decide) (ev_eq fun _ => rfl)
theorem miGood_ev (t : ByteArray) (hs : t.size ≤ maxLen) : Ev (fun k => spec_miGood.f k t) (t.data.toList.all dgc && decide (1 ≤ (t.size : Int) ∧ (t.size : Int) ≤ 9)) := by
  unfold spec_miGood.f
  unfold maxLen at hs
  rw [l1In_eq]
  simp only [Option.bind_some]
  have hl := scan_all (t := t) (p := dgc) (b := true) (F := fun k i => spec_miGood.l0 k t i) (fun k i h => by
    have hi := h
    rw [size_len] at hi
    simp only [spec_miGood.l0]
    rw [bt_get t i h, wrap_lt hi (by omega), if_pos (by omega), if_pos (by omega)]
    unfold dgc
    by_cases c1 : ((t.data.toList[i]).toNat : Int) < 48
    · rw [if_pos c1, if_neg (by simp only [decide_eq_true_eq, beq_iff_eq, Bool.and_eq_true]; omega)]
    · rw [if_neg c1]
      by_cases c2 : ((t.data.toList[i]).toNat : Int) > 57
      · rw [if_pos c2, if_neg (by simp only [decide_eq_true_eq, beq_iff_eq, Bool.and_eq_true]; omega)]
      · rw [if_neg c2, if_pos (by simp only [decide_eq_true_eq, beq_iff_eq, Bool.and_eq_true]; omega)]) (ev_succ (by simp only [spec_miGood.l0]; exact ev_neg (by omega) (ev_eq fun _ => rfl)))
  rw [Bool.and_true] at hl
  by_cases h : 1 ≤ (t.size : Int) ∧ (t.size : Int) ≤ 9
  · rw [decide_eq_true h, Bool.and_true]
    exact ev_pos rfl hl
  · rw [decide_eq_false h, Bool.and_false]
    exact ev_neg (by decide) (ev_eq fun _ => rfl)
theorem plSign_eq (b : UInt8) : spec_plSign.f (b.toNat : Int) = some (sgc b) := by
  unfold spec_plSign.f sgc
  by_cases c0 : (b.toNat : Int) ≥ 65
  · rw [if_pos c0]
    by_cases c1 : (b.toNat : Int) ≤ 90
    · rw [if_pos c1, decide_eq_true (by omega)]
    · rw [if_neg c1, if_pos (by omega)]; congr 1; rw [Bool.eq_iff_iff]; simp; omega
  · rw [if_neg c0]
    by_cases c1 : (b.toNat : Int) ≥ 48
    · rw [if_pos c1]; congr 1; rw [Bool.eq_iff_iff]; simp; omega
    · rw [if_neg c1, decide_eq_false (by omega)]
theorem plSigns_ev (t : ByteArray) (lo hi : Int) (hs : t.size ≤ maxLen) : Ev (fun k => spec_plSigns.f k t lo hi) (t.data.toList.all sgc && decide (lo ≤ (t.size : Int) ∧ (t.size : Int) ≤ hi)) := by
  unfold spec_plSigns.f
  unfold maxLen at hs
  rw [l1In_eq]
  simp only [Option.bind_some]
  have hl := scan_all (t := t) (p := sgc) (b := true) (F := fun k i => spec_plSigns.l0 k t i) (fun k i h => by
    have hi := h
    rw [size_len] at hi
    simp only [spec_plSigns.l0]
    rw [bt_get t i h, wrap_lt hi (by omega), if_pos (by omega), if_pos (by omega), plSign_eq]
    simp only [Option.bind_some]) (ev_succ (by simp only [spec_plSigns.l0]; exact ev_neg (by omega) (ev_eq fun _ => rfl)))
  rw [Bool.and_true] at hl
  by_cases h : lo ≤ (t.size : Int) ∧ (t.size : Int) ≤ hi
  · rw [decide_eq_true h, Bool.and_true]
    exact ev_pos rfl hl
  · rw [decide_eq_false h, Bool.and_false]
    exact ev_neg (by decide) (ev_eq fun _ => rfl)
def ldc (b : UInt8) : Bool := decide (b.toNat = 76 ∨ b.toNat = 68)
def wordB (t : ByteArray) : Bool := t.data.toList.all sgc && decide (1 ≤ (t.size : Int) ∧ (t.size : Int) ≤ 4)
def schB (p b : ByteArray) (l : List ByteArray) : Bool :=
  decide (1 ≤ (p.size : Int) ∧ (p.size : Int) ≤ 8) && (p.data.toList.all ldc && ((b.data.toList.all sgc && decide (0 ≤ (b.size : Int) ∧ (b.size : Int) ≤ 36)) && (rise b.data.toList && (decide (l.length ≤ 3) && l.all wordB))))
theorem rdS_at (l : List ByteArray) (i : Nat) (h : i < l.length) : rdOf ByteArray.empty l (i : Int) = l[i] := by
  unfold rdOf
  rw [Int.toNat_natCast, List.getD_eq_getElem?_getD, List.getElem?_eq_getElem h]; rfl
theorem plGood_l2 (l : List ByteArray) (hw : ∀ x ∈ l, x.size ≤ maxLen) (hl : l.length ≤ 1048576) : ∀ (d i : Nat), i + d = l.length → Ev (fun k => spec_plGood.l2 k l (l.length : Int) (i : Int)) ((l.drop i).all wordB) := by
  intro d
  induction d with
  | zero =>
    intro i hi
    refine ev_succ ?_
    simp only [spec_plGood.l2]
    rw [List.drop_eq_nil_of_le (by omega)]
    exact ev_neg (by omega) (ev_eq fun _ => rfl)
  | succ d ih =>
    intro i hi
    refine ev_succ ?_
    simp only [spec_plGood.l2]
    have hlt : i < l.length := by omega
    rw [rdS_at l i hlt, List.drop_eq_getElem_cons hlt, List.all_cons, wrap_nat (by omega)]
    refine ev_pos (by omega) (ev_pos (by omega) (ev_pos (by omega) (Ev.bind (plSigns_ev _ 1 4 (hw _ (List.getElem_mem hlt))) ?_)))
    show Ev (fun k => if wordB l[i] = true then _ else _) _
    cases wordB l[i] with
    | true => rw [Bool.true_and]; exact ev_pos rfl (ih (i + 1) (by omega))
    | false => exact ev_neg (by decide) (ev_eq fun _ => by simp)
theorem plGood_ev (p b : ByteArray) (l : List ByteArray) (hp : p.size ≤ maxLen) (hb : b.size ≤ maxLen) (hw : ∀ x ∈ l, x.size ≤ maxLen) (hl : l.length ≤ 1048576) : Ev (fun k => spec_plGood.f k p b l) (schB p b l) := by
  have h2 := plGood_l2 l hw hl l.length 0 (by omega)
  rw [List.drop_zero] at h2
  have hp' := hp
  have hb' := hb
  unfold maxLen at hp' hb'
  have h1 := rise_all (t := b) (b := l.all wordB) (F := fun k i => spec_plGood.l1 k i p b l) (fun k i h => by
    have hi := h
    rw [size_len] at hi
    simp only [spec_plGood.l1]
    have e1 : wrap64 (((i + 1 : Nat) : Int) - 1) = ((i : Nat) : Int) := by rw [wrap_of (by omega) (by omega)]; omega
    have e2 : wrap64 (((i + 1 : Nat) : Int) + 1) = ((i + 2 : Nat) : Int) := by rw [wrap_of (by omega) (by omega)]; omega
    rw [e1, e2, bt_get b i (by omega), bt_get b (i + 1) h, if_pos (by omega), if_pos (by omega), if_pos (by omega), if_pos (by omega)]
    by_cases c : (b.data.toList[i]).toNat < (b.data.toList[i + 1]).toNat
    · rw [if_neg (by omega), if_pos (by rw [decide_eq_true_eq]; exact c)]
    · rw [if_pos (by omega), if_neg (by rw [decide_eq_true_eq]; exact c)]) (fun i hi => ev_succ (by simp only [spec_plGood.l1]; exact ev_neg (by omega) h2))
  have h0 := scan_all (t := p) (p := ldc) (b := rise b.data.toList && l.all wordB) (F := fun k i => spec_plGood.l0 k i p b l) (fun k i h => by
    have hi := h
    rw [size_len] at hi
    simp only [spec_plGood.l0]
    rw [bt_get p i h, wrap_lt hi (by omega), if_pos (by omega), if_pos (by omega)]
    unfold ldc
    by_cases c1 : ((p.data.toList[i]).toNat : Int) = 76
    · rw [if_pos c1, if_pos (by simp only [decide_eq_true_eq, beq_iff_eq, Bool.and_eq_true]; omega)]
    · rw [if_neg c1]
      by_cases c2 : ((p.data.toList[i]).toNat : Int) = 68
      · rw [if_pos c2, if_pos (by simp only [decide_eq_true_eq, beq_iff_eq, Bool.and_eq_true]; omega)]
      · rw [if_neg c2, if_neg (by simp only [decide_eq_true_eq, beq_iff_eq, Bool.and_eq_true]; omega)]) (ev_succ (by simp only [spec_plGood.l0]; exact ev_neg (by omega) h1))
  unfold spec_plGood.f schB
  rw [l1In_eq]
  simp only [Option.bind_some]
  have hj : ∀ x, Ev (fun k => spec_plGood.j0 k x p b l) (!x && (p.data.toList.all ldc && (rise b.data.toList && l.all wordB))) := fun x => by
    refine ev_succ ?_
    simp only [spec_plGood.j0]
    cases x with
    | true => exact ev_pos rfl (ev_eq fun _ => rfl)
    | false => exact ev_neg (by decide) h0
  cases decide (1 ≤ (p.size : Int) ∧ (p.size : Int) ≤ 8) with
  | false => exact ev_neg (by decide) (by simpa using hj true)
  | true =>
    refine ev_pos rfl (Ev.bind (plSigns_ev b 0 36 hb) ?_)
    cases (b.data.toList.all sgc && decide (0 ≤ (b.size : Int) ∧ (b.size : Int) ≤ 36)) with
    | false => exact ev_neg (by decide) (by simpa using hj true)
    | true =>
      refine ev_pos rfl ?_
      by_cases h3 : l.length ≤ 3
      · rw [decide_eq_false (show ¬ (l.length : Int) > 3 by omega), decide_eq_true h3]
        simpa using hj false
      · rw [decide_eq_true (show (l.length : Int) > 3 by omega), decide_eq_false h3]
        simpa using hj true
theorem isScheme_ev (p b : ByteArray) (l : List ByteArray) (hp : p.size ≤ maxLen) (hb : b.size ≤ maxLen) (hw : ∀ x ∈ l, x.size ≤ maxLen) : Ev (fun k => impl_IsScheme.f k p b l) (schB p b l) := by
  have hp' := hp
  have hb' := hb
  unfold maxLen at hp' hb'
  have hany : Ev (fun k => slices_ContainsFunc_IsScheme.f k l) (!l.all wordB) := by
    have hx : ∀ x ∈ l, Ev (fun k => impl_IsScheme_1.f k x) (!wordB x) := fun x hx => by
      unfold impl_IsScheme_1.f
      exact Ev.bind (areSigns_ev x 1 4 (hw x hx)) (ev_eq fun _ => rfl)
    have hall : ∃ K, ∀ k, K ≤ k → ∀ x ∈ l, impl_IsScheme_1.f k x = some (!wordB x) := by
      clear hw
      induction l with
      | nil => exact ⟨0, fun k _ x hx => by cases hx⟩
      | cons a r ih =>
        obtain ⟨K1, h1⟩ := hx a (List.mem_cons_self ..)
        obtain ⟨K2, h2⟩ := ih (fun x h => hx x (List.mem_cons_of_mem _ h))
        refine ⟨max K1 K2, fun k hk x h => ?_⟩
        rcases List.mem_cons.mp h with rfl | h
        · exact h1 k (by omega)
        · exact h2 k (by omega) x h
    obtain ⟨K, hK⟩ := hall
    refine ev_from K (fun k hk => ?_)
    unfold slices_ContainsFunc_IsScheme.f
    rw [Fn.anyO_some (f := fun x => !wordB x) l (fun x hx => hK k hk x hx)]
    simp [List.all_eq_not_any_not]
  have hrest : Ev (fun k => (impl_within.f (p.size : Int) 1 8).bind fun t149 => (if t149 = true then ((strings_Trim.f p (⟨#[76, 68]⟩ : ByteArray)).bind fun t150 => (if t150.toList = ([] : List UInt8) then ((impl_areSigns.f k b 0 36).bind fun t151 => (if t151 = true then (if (l.length : Int) ≤ 3 then ((slices_ContainsFunc_IsScheme.f k l).bind fun t152 => (some (!t152))) else (some false)) else (some false))) else (some false))) else (some false)))
      (decide (1 ≤ (p.size : Int) ∧ (p.size : Int) ≤ 8) && (p.data.toList.all ldc && ((b.data.toList.all sgc && decide (0 ≤ (b.size : Int) ∧ (b.size : Int) ≤ 36)) && (decide (l.length ≤ 3) && l.all wordB)))) := by
    refine ev_bind (within_eq _ _ _) ?_
    cases decide (1 ≤ (p.size : Int) ∧ (p.size : Int) ≤ 8) with
    | false => exact ev_neg (by decide) (ev_eq fun _ => by simp)
    | true =>
      refine ev_pos rfl (ev_bind (a := (⟨(Lib.trimS p.data.toList [76, 68]).toArray⟩ : ByteArray)) ?_ ?_)
      · unfold strings_Trim.f
        rw [if_pos (by omega), if_pos (by decide), if_pos (by decide)]
      · have ht : (((⟨(Lib.trimS p.data.toList [76, 68]).toArray⟩ : ByteArray).toList == ([] : List UInt8))) = p.data.toList.all ldc := by
          rw [empty_list, trim_all]
          congr 1
          funext c
          unfold ldc
          rw [Bool.eq_iff_iff]
          simp only [List.contains_cons, List.contains_nil, Bool.or_false, Bool.or_eq_true, beq_iff_eq, decide_eq_true_eq, ← UInt8.toNat_inj]
          exact Iff.rfl
        cases hq : p.data.toList.all ldc with
        | false =>
          rw [hq, beq_eq_false_iff_ne] at ht
          exact ev_neg ht (ev_eq fun _ => by simp)
        | true =>
          rw [hq, beq_iff_eq] at ht
          refine ev_pos ht (Ev.bind (areSigns_ev b 0 36 hb) ?_)
          cases (b.data.toList.all sgc && decide (0 ≤ (b.size : Int) ∧ (b.size : Int) ≤ 36)) with
          | false => exact ev_neg (by decide) (ev_eq fun _ => by simp)
          | true =>
            refine ev_pos rfl ?_
            by_cases h3 : l.length ≤ 3
            · rw [decide_eq_true h3]
              exact ev_pos (by omega) (Ev.bind hany (ev_eq fun _ => by simp))
            · rw [decide_eq_false h3]
              exact ev_neg (by omega) (ev_eq fun _ => by simp)
  unfold impl_IsScheme.f
  have h := rise_all (t := b) (F := fun k i => impl_IsScheme.l0 k i p b l) (fun k i h => by
    have hi := h
    rw [size_len] at hi
    simp only [impl_IsScheme.l0]
    have e1 : wrap64 (((i + 1 : Nat) : Int) - 1) = ((i : Nat) : Int) := by rw [wrap_of (by omega) (by omega)]; omega
    have e2 : wrap64 (((i + 1 : Nat) : Int) + 1) = ((i + 2 : Nat) : Int) := by rw [wrap_of (by omega) (by omega)]; omega
    rw [e1, e2, bt_get b i (by omega), bt_get b (i + 1) h, if_pos (by omega), if_pos (by omega), if_pos (by omega), if_pos (by omega)]
    by_cases c : (b.data.toList[i]).toNat < (b.data.toList[i + 1]).toNat
    · rw [if_neg (by omega), if_pos (by rw [decide_eq_true_eq]; exact c)]
    · rw [if_pos (by omega), if_neg (by rw [decide_eq_true_eq]; exact c)]) (fun i hi => ev_succ (by simp only [impl_IsScheme.l0]; exact ev_neg (by omega) hrest))
  have e : schB p b l = (rise b.data.toList && (decide (1 ≤ (p.size : Int) ∧ (p.size : Int) ≤ 8) && (p.data.toList.all ldc && ((b.data.toList.all sgc && decide (0 ≤ (b.size : Int) ∧ (b.size : Int) ≤ 36)) && (decide (l.length ≤ 3) && l.all wordB))))) := by
    unfold schB
    cases rise b.data.toList <;> cases (decide (1 ≤ (p.size : Int) ∧ (p.size : Int) ≤ 8)) <;> cases p.data.toList.all ldc <;> cases (b.data.toList.all sgc && decide (0 ≤ (b.size : Int) ∧ (b.size : Int) ≤ 36)) <;> simp
  rw [e]
  exact h
def deskB (t p b : ByteArray) (l : List ByteArray) (n : Int) (r : ByteArray) : Bool := tickB t && (schB p b l && (decide (0 ≤ n ∧ n ≤ 1000000000000) && (r.data.toList.all dgc && decide (1 ≤ (r.size : Int) ∧ (r.size : Int) ≤ 9))))
theorem coGood_ev (t p b : ByteArray) (l : List ByteArray) (n : Int) (r : ByteArray) (ht : t.size ≤ maxLen) (hp : p.size ≤ maxLen) (hb : b.size ≤ maxLen) (hw : ∀ x ∈ l, x.size ≤ maxLen) (hl : l.length ≤ 1048576) (hr : r.size ≤ maxLen) :
    Ev (fun k => spec_coGood.f k t p b l n r) (deskB t p b l n r) := by
  unfold spec_coGood.f spec_diGood.f deskB
  refine Ev.bind (tkGood_ev t ht) ?_
  cases tickB t with
  | false => exact ev_neg (by decide) (ev_eq fun _ => rfl)
  | true =>
    refine ev_pos rfl (Ev.bind (plGood_ev p b l hp hb hw hl) ?_)
    cases schB p b l with
    | false => exact ev_neg (by decide) (ev_eq fun _ => rfl)
    | true =>
      rw [l1In_eq]
      simp only [Option.bind_some]
      refine ev_pos (by first | rfl | trivial) ?_
      cases decide (0 ≤ n ∧ n ≤ 1000000000000) with
      | false => exact ev_neg (by decide) (ev_eq fun _ => rfl)
      | true => exact ev_pos rfl (Ev.bind (miGood_ev r hr) (ev_eq fun _ => by simp))
theorem isDesk_ev (t p b : ByteArray) (l : List ByteArray) (n : Int) (r : ByteArray) (ht : t.size ≤ maxLen) (hp : p.size ≤ maxLen) (hb : b.size ≤ maxLen) (hw : ∀ x ∈ l, x.size ≤ maxLen) (hr : r.size ≤ maxLen) :
    Ev (fun k => impl_IsDesk.f k t p b l n r) (deskB t p b l n r) := by
  unfold impl_IsDesk.f impl_isWritten.f deskB
  refine Ev.bind (isTicket_ev t ht) ?_
  cases tickB t with
  | false => exact ev_neg (by decide) (ev_eq fun _ => rfl)
  | true =>
    refine ev_pos rfl (Ev.bind (isScheme_ev p b l hp hb hw) ?_)
    cases schB p b l with
    | false => exact ev_neg (by decide) (ev_eq fun _ => rfl)
    | true =>
      rw [within_eq]
      simp only [Option.bind_some]
      refine ev_pos (by first | rfl | trivial) ?_
      cases decide (0 ≤ n ∧ n ≤ 1000000000000) with
      | false => exact ev_neg (by decide) (ev_eq fun _ => rfl)
      | true =>
        unfold impl_IsReading.f
        exact ev_pos rfl (Ev.bind (Ev.bind (areDigits_ev r 1 9 hr) (ev_eq fun _ => rfl)) (ev_eq fun _ => by simp))

/-! ### a desk's size, copy, likeness -/
theorem szStringS_loop (l : List ByteArray) (hl : l.length ≤ 1048576) (hw : ∀ x ∈ l, x.size ≤ maxLen) : ∀ (d i : Nat) (x : Int), i + d = l.length → 0 ≤ x → x ≤ 1048576 →
    ∃ v, Ev (fun k => laws_szStringS.l0 k l x (i : Int)) v ∧ -1 ≤ v ∧ v ≤ 1048576 := by
  intro d
  induction d with
  | zero =>
    intro i x hi h0 h1
    refine ⟨x, ev_succ ?_, by omega, h1⟩
    simp only [laws_szStringS.l0]
    exact ev_neg (by omega) (ev_eq fun _ => rfl)
  | succ d ih =>
    intro i x hi h0 h1
    have hlt : i < l.length := by omega
    have hz := hw l[i] (List.getElem_mem hlt)
    unfold maxLen at hz
    by_cases c : x - (l[i].size : Int) < 0
    · refine ⟨-1, ev_succ ?_, by omega, by omega⟩
      simp only [laws_szStringS.l0]
      rw [rdS_at l i hlt, wrap_of (x := x - (l[i].size : Int)) (by omega) (by omega)]
      exact ev_pos (by omega) (ev_pos (by omega) (ev_pos c (ev_eq fun _ => rfl)))
    · obtain ⟨v, hv, h2, h3⟩ := ih (i + 1) (x - (l[i].size : Int)) (by omega) (by omega) (by omega)
      refine ⟨v, ev_succ ?_, h2, h3⟩
      simp only [laws_szStringS.l0]
      rw [rdS_at l i hlt, wrap_of (x := x - (l[i].size : Int)) (by omega) (by omega), wrap_nat (by omega)]
      exact ev_pos (by omega) (ev_pos (by omega) (ev_neg c hv))
theorem szDesk_ev (t p b : ByteArray) (l : List ByteArray) (n : Int) (r : ByteArray) (ht : t.size ≤ maxLen) (hp : p.size ≤ maxLen) (hb : b.size ≤ maxLen) (hw : ∀ x ∈ l, x.size ≤ maxLen) (hl : l.length ≤ maxLen) (hr : r.size ≤ maxLen) :
    ∃ v, Ev (fun k => laws_szDesk.f k t p b l n r 1048576) v ∧ (0 ≤ v → l.length ≤ 1048576) := by
  unfold maxLen at ht hp hb hl hr
  have dead : (∃ v : Int, v = -1 ∧ (0 ≤ v → l.length ≤ 1048576)) := ⟨-1, rfl, fun h => by omega⟩
  by_cases c1 : (1048576 : Int) - (t.size : Int) < 0
  · refine ⟨-1, ?_, fun h => by omega⟩
    unfold laws_szDesk.f
    rw [wrap_of (x := 1048576 - (t.size : Int)) (by omega) (by omega)]
    exact ev_pos c1 (ev_eq fun _ => rfl)
  have hsch : ∃ v, Ev (fun k => laws_szScheme.f k p b l (1048576 - (t.size : Int))) v ∧ -1 ≤ v ∧ v ≤ 1048576 ∧ (0 ≤ v → l.length ≤ 1048576) := by
    by_cases c2 : 1048576 - (t.size : Int) - (p.size : Int) < 0
    · refine ⟨-1, ?_, by omega, by omega, fun h => by omega⟩
      unfold laws_szScheme.f
      rw [wrap_of (x := 1048576 - (t.size : Int) - (p.size : Int)) (by omega) (by omega)]
      exact ev_pos c2 (ev_eq fun _ => rfl)
    by_cases c3 : 1048576 - (t.size : Int) - (p.size : Int) - (b.size : Int) < 0
    · refine ⟨-1, ?_, by omega, by omega, fun h => by omega⟩
      unfold laws_szScheme.f
      rw [wrap_of (x := 1048576 - (t.size : Int) - (p.size : Int)) (by omega) (by omega), wrap_of (x := 1048576 - (t.size : Int) - (p.size : Int) - (b.size : Int)) (by omega) (by omega)]
      exact ev_neg c2 (ev_pos c3 (ev_eq fun _ => rfl))
    have hs : ∃ v, Ev (fun k => laws_szStringS.f k l (1048576 - (t.size : Int) - (p.size : Int) - (b.size : Int))) v ∧ -1 ≤ v ∧ v ≤ 1048576 ∧ (0 ≤ v → l.length ≤ 1048576) := by
      by_cases c4 : 1048576 - (t.size : Int) - (p.size : Int) - (b.size : Int) - (l.length : Int) < 0
      · refine ⟨-1, ?_, by omega, by omega, fun h => by omega⟩
        unfold laws_szStringS.f
        rw [wrap_of (x := 1048576 - (t.size : Int) - (p.size : Int) - (b.size : Int) - (l.length : Int)) (by omega) (by omega)]
        exact ev_pos c4 (ev_eq fun _ => rfl)
      · obtain ⟨v, hv, h2, h3⟩ := szStringS_loop l (by omega) hw l.length 0 (1048576 - (t.size : Int) - (p.size : Int) - (b.size : Int) - (l.length : Int)) (by omega) (by omega) (by omega)
        refine ⟨v, ?_, h2, h3, fun _ => by omega⟩
        unfold laws_szStringS.f
        rw [wrap_of (x := 1048576 - (t.size : Int) - (p.size : Int) - (b.size : Int) - (l.length : Int)) (by omega) (by omega)]
        exact ev_neg c4 hv
    obtain ⟨v, hv, h2, h3, h4⟩ := hs
    by_cases c5 : v < 0
    · refine ⟨-1, ?_, by omega, by omega, fun h => by omega⟩
      unfold laws_szScheme.f
      rw [wrap_of (x := 1048576 - (t.size : Int) - (p.size : Int)) (by omega) (by omega), wrap_of (x := 1048576 - (t.size : Int) - (p.size : Int) - (b.size : Int)) (by omega) (by omega)]
      exact ev_neg c2 (ev_neg c3 (Ev.bind hv (ev_pos c5 (ev_eq fun _ => rfl))))
    · refine ⟨v, ?_, h2, h3, h4⟩
      unfold laws_szScheme.f
      rw [wrap_of (x := 1048576 - (t.size : Int) - (p.size : Int)) (by omega) (by omega), wrap_of (x := 1048576 - (t.size : Int) - (p.size : Int) - (b.size : Int)) (by omega) (by omega)]
      exact ev_neg c2 (ev_neg c3 (Ev.bind hv (ev_neg c5 (ev_eq fun _ => rfl))))
  obtain ⟨v, hv, h2, h3, h4⟩ := hsch
  by_cases c5 : v < 0
  · refine ⟨-1, ?_, fun h => by omega⟩
    unfold laws_szDesk.f
    rw [wrap_of (x := 1048576 - (t.size : Int)) (by omega) (by omega)]
    exact ev_neg c1 (Ev.bind hv (ev_pos c5 (ev_eq fun _ => rfl)))
  by_cases c6 : v - (r.size : Int) < 0
  · refine ⟨-1, ?_, fun h => by omega⟩
    unfold laws_szDesk.f
    rw [wrap_of (x := 1048576 - (t.size : Int)) (by omega) (by omega)]
    refine ev_neg c1 (Ev.bind hv (ev_neg c5 ?_))
    rw [wrap_of (x := v - (r.size : Int)) (by omega) (by omega)]
    exact ev_pos c6 (ev_eq fun _ => rfl)
  · refine ⟨v - (r.size : Int), ?_, fun _ => h4 (by omega)⟩
    unfold laws_szDesk.f
    rw [wrap_of (x := 1048576 - (t.size : Int)) (by omega) (by omega)]
    refine ev_neg c1 (Ev.bind hv (ev_neg c5 ?_))
    rw [wrap_of (x := v - (r.size : Int)) (by omega) (by omega)]
    exact ev_neg c6 (ev_eq fun _ => rfl)
theorem toStringS_loop (l : List ByteArray) (hl : l.length ≤ 1048576) : ∀ (d i : Nat) (m : List ByteArray), i + d = l.length → m.length = l.length → m.take i = l.take i → Ev (fun k => laws_toStringS.l0 k l m (i : Int)) l := by
  intro d
  induction d with
  | zero =>
    intro i m hi hm ht
    refine ev_succ ?_
    simp only [laws_toStringS.l0]
    have : i = l.length := by omega
    subst this
    rw [List.take_of_length_le (by omega), List.take_of_length_le (by omega)] at ht
    exact ev_neg (by omega) (ev_eq fun _ => by rw [ht])
  | succ d ih =>
    intro i m hi hm ht
    refine ev_succ ?_
    have hlt : i < l.length := by omega
    simp only [laws_toStringS.l0]
    rw [rdS_at l i hlt, wrap_nat (by omega), Int.toNat_natCast]
    refine ev_pos (by omega) (ev_pos (by omega) (ev_pos (by omega) (ih (i + 1) _ (by omega) (by simpa using hm) ?_)))
    rw [List.take_succ_eq_append_getElem (by simpa [hm] using hlt), List.take_set_of_le (Nat.le_refl _), ht, List.take_succ_eq_append_getElem hlt]
    congr 1
    simp
theorem toDesk_ev (t p b : ByteArray) (l : List ByteArray) (n : Int) (r : ByteArray) (hl : l.length ≤ 1048576) : Ev (fun k => laws_toDesk.f k t p b l n r) (t, p, b, l, n, r) := by
  unfold laws_toDesk.f laws_toScheme.f laws_toStringS.f
  refine Ev.bind (Ev.bind (a := l) (ev_pos (by omega) (ev_pos (by omega) ?_)) (ev_eq fun _ => rfl)) (ev_eq fun _ => rfl)
  rw [Int.toNat_natCast]
  exact toStringS_loop l hl l.length 0 _ (by omega) (by simp) (by simp)
theorem eqStringSs_loop (l : List ByteArray) (hl : l.length ≤ 1048577) : ∀ (d i : Nat), i + d = l.length → Ev (fun k => laws_eqStringS.l0 k l l (i : Int)) true := by
  intro d
  induction d with
  | zero =>
    intro i hi
    refine ev_succ ?_
    simp only [laws_eqStringS.l0]
    exact ev_neg (by omega) (ev_eq fun _ => rfl)
  | succ d ih =>
    intro i hi
    refine ev_succ ?_
    simp only [laws_eqStringS.l0]
    rw [wrap_nat (by omega)]
    exact ev_pos (by omega) (ev_pos (by omega) (ev_pos (by omega) (ev_pos (by first | rfl | trivial) (ih (i + 1) (by omega)))))
theorem eqDesk_ev (t p b : ByteArray) (l : List ByteArray) (n : Int) (r : ByteArray) (hl : l.length ≤ 1048576) : Ev (fun k => laws_eqDesk.f k t p b l n r t p b l n r) true := by
  unfold laws_eqDesk.f laws_eqScheme.f laws_eqStringS.f
  refine ev_pos rfl (Ev.bind (a := true) (ev_pos rfl (ev_pos rfl (Ev.bind (a := true) (ev_pos rfl (eqStringSs_loop l (by omega) l.length 0 (by omega))) (ev_pos rfl (ev_eq fun _ => rfl))))) ?_)
  exact ev_pos rfl (ev_pos rfl (ev_pos rfl (ev_eq fun _ => rfl)))

theorem FnExactIsDesk : ∀ (a0_0 : ByteArray) (a0_1 : ByteArray) (a0_2 : ByteArray) (l0_3 : List ByteArray) (a0_4 : Int) (a0_5 : ByteArray), (a0_0.size ≤ maxLen ∧ (a0_1.size ≤ maxLen ∧ a0_2.size ≤ maxLen ∧ ((∀ y ∈ l0_3, y.size ≤ maxLen) ∧ l0_3.length ≤ maxLen)) ∧ (Lit.int .i64 a0_4).wf = true ∧ a0_5.size ≤ maxLen) → ∃ k, laws_FnExactIsDesk.f k a0_0 a0_1 a0_2 l0_3 a0_4 a0_5 = some true := by
  rintro t p b l n r ⟨ht, ⟨hp, hb, hw, hl⟩, _, hr⟩
  refine Ev.rounds ?_
  unfold laws_FnExactIsDesk.f
  obtain ⟨v, hv, hvl⟩ := szDesk_ev t p b l n r ht hp hb hw hl hr
  refine Ev.bind hv ?_
  by_cases h : v < 0
  · exact ev_pos h (ev_eq fun _ => rfl)
  · have hl2 := hvl (by omega)
    refine ev_neg h (Ev.bind (toDesk_ev t p b l n r hl2) (Ev.bind (Ev.bind (coGood_ev t p b l n r ht hp hb hw hl2 hr) (ev_eq fun _ => rfl)) (Ev.bind (toDesk_ev t p b l n r hl2) (Ev.bind (isDesk_ev t p b l n r ht hp hb hw hr) ?_))))
    exact ev_neg (by simp) (Ev.bind (toDesk_ev t p b l n r hl2) (Ev.bind (eqDesk_ev t p b l n r hl2) (ev_pos rfl (ev_eq fun _ => rfl))))

end Go.Proofs.YtjhmocngcnnfdaaDoor.Pure
