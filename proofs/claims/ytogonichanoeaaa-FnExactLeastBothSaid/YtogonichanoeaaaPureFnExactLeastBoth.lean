/- LeastBoth: program and reference tell the same of every pair of numbers (lists and numbers alone). -/
import Derived.Test.YtogonichanoeaaaPFnExactLeastBothx2
namespace Go.Proofs.Ytogonichanoeaaa.Pure
open Go.RowKit Go.Proofs.Ytogonichanoeaaa.PFnExactLeastBoth Go.Proofs.YtogonichanoeaaaW.PrintWords Go.Proofs.YtogonichanoeaaaW.PrintLast
set_option linter.unusedVariables false
set_option linter.unusedSimpArgs false

theorem wrap_of {x : Int} (h0 : -9223372036854775808 ≤ x) (h1 : x ≤ 9223372036854775807) : wrap64 x = x := by unfold wrap64; omega
theorem wrap_nat {i : Nat} (h : i < 4611686018427387904) : wrap64 ((i : Int) + 1) = ((i + 1 : Nat) : Int) := by unfold wrap64; omega
theorem ev_eq {α : Type} {g : Nat → Option α} {r : α} (h : ∀ k, g k = some r) : Ev g r := ⟨0, fun k _ => h k⟩
theorem ev_bind {α β : Type} {x : Option α} {f : Nat → α → Option β} {a : α} {r : β} (h : x = some a) (k : Ev (fun n => f n a) r) : Ev (fun n => x.bind (f n)) r := by subst h; exact k
theorem ev_pos {α : Type} {c : Prop} [Decidable c] {g f : Nat → Option α} {r : α} (h : c) (k : Ev g r) : Ev (fun n => if c then g n else f n) r := by simp only [if_pos h]; exact k
theorem ev_neg {α : Type} {c : Prop} [Decidable c] {g f : Nat → Option α} {r : α} (h : ¬ c) (k : Ev f r) : Ev (fun n => if c then g n else f n) r := by simp only [if_neg h]; exact k
theorem ev_from {α : Type} {g : Nat → Option α} {r : α} (K : Nat) (h : ∀ k, K ≤ k → g k = some r) : Ev g r := ⟨K, h⟩

/-! ### bytes of a text -/
theorem size_len (t : ByteArray) : t.data.toList.length = t.size := by rw [Array.length_toList]; rfl
theorem bt_get (t : ByteArray) (i : Nat) (h : i < t.data.toList.length) : bt t (i : Int) = ((t.data.toList[i]).toNat : Int) := by
  unfold bt
  rw [dif_pos (by rw [Int.toNat_natCast]; simpa using h)]
  simp only [Int.toNat_natCast]
  rfl
theorem ev_succ {α : Type} {g : Nat → Option α} {r : α} (h : Ev (fun k => g (k + 1)) r) : Ev g r := by
  obtain ⟨K, hK⟩ := h
  refine ev_from (K + 1) (fun k hk => ?_)
  obtain ⟨k, rfl⟩ : ∃ m, k = m + 1 := ⟨k - 1, by omega⟩
  exact hK k (by omega)
theorem ext_list (s : ByteArray) (a b : Nat) (hb : b ≤ s.size) : (s.extract a b).data.toList = (s.data.toList.take b).drop a := by
  rw [ByteArray.data_extract, Array.toList_extract, List.extract_eq_take_drop]
  rw [List.drop_take]
theorem take_list (s : ByteArray) (i : Nat) (h : i ≤ s.size) : (s.extract 0 i).data.toList = s.data.toList.take i := by rw [ext_list s 0 i h]; rfl
theorem drop_list (s : ByteArray) (i : Nat) : (s.extract i s.size).data.toList = s.data.toList.drop i := by
  rw [ext_list s i s.size (Nat.le_refl _), List.take_of_length_le (by rw [size_len]; exact Nat.le_refl _)]
theorem mk_data (s : ByteArray) : (⟨s.data.toList.toArray⟩ : ByteArray) = s := by cases s; simp
theorem of_list {s : ByteArray} {l : List UInt8} (h : s.data.toList = l) : s = ⟨l.toArray⟩ := by rw [← h, mk_data]
theorem list_of (l : List UInt8) : (⟨l.toArray⟩ : ByteArray).data.toList = l := by simp
theorem mk_size (l : List UInt8) : (⟨l.toArray⟩ : ByteArray).size = l.length := by rw [← size_len, list_of]
theorem mk_append (a b : List UInt8) : (⟨a.toArray⟩ : ByteArray) ++ ⟨b.toArray⟩ = ⟨(a ++ b).toArray⟩ := by
  apply of_list; rw [ByteArray.data_append, Array.toList_append, list_of, list_of]
theorem l1In_eq (n lo hi : Int) : spec_l1In.f n lo hi = some (decide (lo ≤ n ∧ n ≤ hi)) := by
  unfold spec_l1In.f
  by_cases h : n ≥ lo
  · rw [if_pos h]; congr 1; simp; intro _; omega
  · rw [if_neg h]; congr 1; simp; intro; omega
theorem within_eq (n lo hi : Int) : impl_within.f n lo hi = some (decide (lo ≤ n ∧ n ≤ hi)) := by
  unfold impl_within.f
  by_cases h : lo ≤ n
  · rw [if_pos h]; congr 1; simp; intro _; omega
  · rw [if_neg h]; congr 1; simp; intro; omega

/-! ### lists of digits that do not fall: sums, products, numbers -/
def asc : Nat → List Nat → Prop
  | _, [] => True
  | lo, d :: l => lo ≤ d ∧ d ≤ 9 ∧ asc d l
def lsN : List Nat → Nat
  | [] => 0
  | d :: l => d + lsN l
def lpN : List Nat → Nat
  | [] => 1
  | d :: l => d * lpN l
def numL (n : Nat) : List Nat → Nat
  | [] => n
  | d :: l => numL (10 * n + d) l
theorem numL_eq (l : List Nat) : ∀ n, numL n l = n * 10 ^ l.length + numL 0 l := by
  induction l with
  | nil => intro n; simp [numL]
  | cons d l ih =>
    intro n
    simp only [numL, List.length_cons]
    rw [ih (10 * n + d), ih (10 * 0 + d), Nat.pow_succ, Nat.add_mul, Nat.add_mul]
    rw [show 10 * n * 10 ^ l.length = n * (10 ^ l.length * 10) by rw [Nat.mul_comm 10 n, Nat.mul_assoc, Nat.mul_comm 10]]
    omega
theorem numL_lt (l : List Nat) : ∀ lo, asc lo l → numL 0 l < 10 ^ l.length := by
  induction l with
  | nil => intro lo _; simp [numL]
  | cons d l ih =>
    intro lo h
    simp only [numL, List.length_cons]
    have h1 := ih d h.2.2
    have h2 := h.2.1
    rw [numL_eq, Nat.pow_succ]
    have h3 := Nat.mul_le_mul_right (10 ^ l.length) (show 10 * 0 + d ≤ 9 by omega)
    omega
theorem asc_sum (l : List Nat) : ∀ lo, asc lo l → lo * l.length ≤ lsN l := by
  induction l with
  | nil => intro lo _; simp [lsN]
  | cons d l ih =>
    intro lo h
    have h1 := ih d h.2.2
    have h2 := Nat.mul_le_mul_right l.length h.1
    simp only [lsN, List.length_cons, Nat.mul_succ]
    have := h.1
    omega
theorem asc_mono {l : List Nat} {lo lo' : Nat} (h : asc lo l) (hl : lo' ≤ lo) : asc lo' l := by
  cases l with
  | nil => trivial
  | cons d l => exact ⟨Nat.le_trans hl h.1, h.2⟩
/-- a list that goes on with a number: so many digits, a sum, a product -/
def goesOn (lo m s p : Nat) (l : List Nat) : Prop := asc lo l ∧ l.length = m ∧ lsN l = s ∧ lpN l = p
/-- the least such list's number, or none -/
def BB (n lo m s p : Nat) (o : Int × Bool) : Prop :=
  (∃ l, goesOn lo m s p l ∧ (∀ l', goesOn lo m s p l' → numL n l ≤ numL n l') ∧ o = ((numL n l : Int), true)) ∨ ((∀ l', ¬ goesOn lo m s p l') ∧ o.2 = false)
theorem w_10nd (n d : Nat) (hn : n < 1000000000000) (hd : d < 10) : wrap64 (wrap64 (10 * (n : Int)) + (d : Int)) = ((10 * n + d : Nat) : Int) := by
  rw [wrap_of (x := 10 * (n : Int)) (by omega) (by omega), wrap_of (by omega) (by omega)]; omega
theorem w_sub1 (m : Nat) (hm : m ≤ 12) : wrap64 (((m + 1 : Nat) : Int) - 1) = (m : Int) := by rw [wrap_of (by omega) (by omega)]; omega
theorem w_subd (s d : Nat) (hs : s ≤ 108) (hd : d ≤ s) : wrap64 ((s : Int) - (d : Int)) = ((s - d : Nat) : Int) := by rw [wrap_of (by omega) (by omega)]; omega
theorem w_divd (p d q : Nat) (hq : q = p / d) (hp : q ≤ 1000000000000) : wrap64 (Int.tdiv (p : Int) (d : Int)) = (q : Int) := by
  rw [Int.tdiv_eq_ediv_of_nonneg (Int.natCast_nonneg p), ← Int.natCast_ediv, ← hq]
  exact wrap_of (by omega) (by omega)
theorem w_modd (p d : Nat) : Int.tmod (p : Int) (d : Int) = ((p % d : Nat) : Int) := by rw [Int.tmod_eq_emod_of_nonneg (Int.natCast_nonneg p), Int.natCast_emod]
theorem pdiv_facts (p d : Nat) (hp : 1 ≤ p) (c : p % d = 0) : d * (p / d) = p ∧ 1 ≤ p / d ∧ p / d ≤ p := by
  have h1 := Nat.div_add_mod p d
  rw [c, Nat.add_zero] at h1
  refine ⟨h1, ?_, Nat.div_le_self _ _⟩
  rcases Nat.eq_zero_or_pos (p / d) with z | z
  · rw [z, Nat.mul_zero] at h1; omega
  · exact z
theorem w_mul (d m : Nat) (h : d * m ≤ 200) : wrap64 ((d : Int) * (m : Int)) = ((d * m : Nat) : Int) := by
  rw [← Int.natCast_mul]; generalize d * m = x at *; exact wrap_of (by omega) (by omega)
theorem pow_step (n d m : Nat) (hm : m + 1 ≤ 12) (hn : n < 10 ^ (12 - (m + 1))) (hd : d < 10) : 10 * n + d < 10 ^ (12 - m) ∧ n < 1000000000000 := by
  have e : 10 ^ (12 - m) = 10 ^ (12 - (m + 1)) * 10 := by rw [← Nat.pow_succ, show (12 - (m + 1)).succ = 12 - m by omega]
  have h1 : (10 : Nat) ^ (12 - (m + 1)) ≤ 10 ^ 12 := Nat.pow_le_pow_right (by omega) (by omega)
  have h2 : (10 : Nat) ^ 12 = 1000000000000 := by decide
  rw [e]; rw [h2] at h1
  generalize (10 : Nat) ^ (12 - (m + 1)) = z at *
  omega
theorem d_ne (d : Nat) (h1 : 1 ≤ d) : ¬ (d : Int) = 0 := by omega
theorem numL_less (n d x z a b : Nat) (h : d < x) (ha : a < z) : (10 * n + d) * z + a ≤ (10 * n + x) * z + b := by
  have h1 := Nat.mul_le_mul_right z (show 10 * n + d + 1 ≤ 10 * n + x by omega)
  rw [Nat.add_mul (10 * n + d) 1, Nat.one_mul] at h1
  generalize (10 * n + d) * z = u at *
  generalize (10 * n + x) * z = v at *
  omega
theorem lsN_tail {d s : Nat} {l : List Nat} (h : lsN (d :: l) = s) : lsN l = s - d := by rw [← h]; simp [lsN]
theorem lpN_tail {d q p : Nat} {l : List Nat} (h1 : 1 ≤ d) (hpd : d * q = p) (h : lpN (d :: l) = p) : lpN l = q := by
  rw [← hpd] at h; exact Nat.eq_of_mul_eq_mul_left h1 h
theorem len_tail {d m : Nat} {l : List Nat} (h : (d :: l).length = m + 1) : l.length = m := by simpa using h
theorem sleB (m : Nat) : ∀ (n lo s p : Nat), m ≤ 12 → n < 10 ^ (12 - m) → 1 ≤ lo → s ≤ 108 → 1 ≤ p → p ≤ 1000000000000 →
    ∃ o, BB n lo m s p o ∧ Ev (fun k => spec_leBoth.f k (n : Int) (m : Int) (lo : Int) (s : Int) (p : Int)) o := by
  induction m with
  | zero =>
    intro n lo s p _ hn hlo hs hp _
    by_cases c : s = 0
    · by_cases c1 : p = 1
      · refine ⟨((n : Int), true), .inl ⟨[], ⟨trivial, rfl, c.symm, c1.symm⟩, fun l' h => ?_, rfl⟩, ev_succ ?_⟩
        · have : l' = [] := List.eq_nil_of_length_eq_zero h.2.1
          subst this; exact Nat.le_refl _
        · simp only [spec_leBoth.f]
          exact ev_pos rfl (ev_pos (by omega) (ev_eq fun _ => by rw [c1]; rfl))
      · refine ⟨((n : Int), false), .inr ⟨fun l' h => ?_, rfl⟩, ev_succ ?_⟩
        · have : l' = [] := List.eq_nil_of_length_eq_zero h.2.1
          subst this; exact c1 h.2.2.2.symm
        · simp only [spec_leBoth.f]
          have e : ((p : Int) == 1) = false := by rw [beq_eq_false_iff_ne]; omega
          exact ev_pos rfl (ev_pos (by omega) (ev_eq fun _ => by rw [e]))
    · refine ⟨((n : Int), false), .inr ⟨fun l' h => ?_, rfl⟩, ev_succ ?_⟩
      · have : l' = [] := List.eq_nil_of_length_eq_zero h.2.1
        subst this; exact c h.2.2.1.symm
      · simp only [spec_leBoth.f]
        exact ev_pos rfl (ev_neg (by omega) (ev_eq fun _ => rfl))
  | succ m ih =>
    intro n lo s p hm hn hlo hs hp hp2
    have loop : ∀ (e d : Nat), d + e = 10 ∨ (e = 0 ∧ 10 ≤ d) → 1 ≤ d → ∃ o, BB n d (m + 1) s p o ∧ Ev (fun k => spec_leBoth.l0 k (n : Int) ((m + 1 : Nat) : Int) (s : Int) (p : Int) (d : Int)) o := by
      intro e
      induction e with
      | zero =>
        intro d hd h1
        refine ⟨(0, false), .inr ⟨fun l' h => ?_, rfl⟩, ev_succ ?_⟩
        · cases l' with
          | nil => simp [goesOn] at h
          | cons x l => have := h.1.1; have := h.1.2.1; omega
        · simp only [spec_leBoth.l0]
          refine ev_neg (by omega) (ev_succ ?_)
          simp only [spec_leBoth.j1]
          exact ev_neg (by decide) (ev_eq fun _ => rfl)
      | succ e ihe =>
        intro d hd h1
        have hd10 : d < 10 := by omega
        by_cases c : d * (m + 1) ≤ s
        · obtain ⟨o2, ho2, he2⟩ := ihe (d + 1) (by omega) (by omega)
          have next : ∀ l', goesOn d (m + 1) s p l' → (∀ l, l' ≠ d :: l) → goesOn (d + 1) (m + 1) s p l' := by
            intro l' h hne
            cases l' with
            | nil => simp [goesOn] at h
            | cons x l =>
              have hx := h.1.1
              by_cases q : x = d
              · exact absurd (by rw [q]) (hne l)
              · exact ⟨⟨by omega, h.1.2⟩, h.2⟩
          have wr := w_mul d (m + 1) (Nat.le_trans c (Nat.le_trans hs (by decide)))
          have e1 := w_modd p d
          by_cases c2 : p % d = 0
          · obtain ⟨hpd, hq1, hq3⟩ := pdiv_facts p d hp c2
            have hq2 := Nat.le_trans hq3 hp2
            have hds : d ≤ s := Nat.le_trans (Nat.le_mul_of_pos_right d (Nat.succ_pos m)) c
            obtain ⟨hnn, hnb⟩ := pow_step n d m hm hn hd10
            obtain ⟨q, hq⟩ : ∃ q, q = p / d := ⟨_, rfl⟩
            rw [← hq] at hpd hq1 hq2 hq3
            obtain ⟨o1, ho1, he1⟩ := ih (10 * n + d) d (s - d) q (Nat.le_of_succ_le hm) hnn h1 (Nat.le_trans (Nat.sub_le _ _) hs) hq1 hq2
            have w1 := w_10nd n d hnb hd10
            have w2 := w_sub1 m (Nat.le_of_succ_le hm)
            have w3 := w_subd s d hs hds
            have w4 := w_divd p d q hq hq2
            have w5 : wrap64 ((d : Int) + 1) = ((d + 1 : Nat) : Int) := wrap_nat (Nat.lt_trans hd10 (by decide))
            have w6 : ((d * (m + 1) : Nat) : Int) ≤ (s : Int) := Int.ofNat_le.mpr c
            have w7 : (d : Int) < 10 := Int.ofNat_lt.mpr hd10
            have w8 := d_ne d h1
            have w9 : ((p % d : Nat) : Int) = 0 := by rw [c2]; rfl
            have step : ∀ o, Ev (fun k => if o1.2 = true then some (o1.1, true) else spec_leBoth.l0 k (n : Int) ((m + 1 : Nat) : Int) (s : Int) (p : Int) ((d + 1 : Nat) : Int)) o →
                Ev (fun k => spec_leBoth.l0 k (n : Int) ((m + 1 : Nat) : Int) (s : Int) (p : Int) (d : Int)) o := by
              intro o h
              refine ev_succ ?_
              simp only [spec_leBoth.l0]
              rw [wr, decide_eq_true w6]
              refine ev_pos w7 (ev_succ ?_)
              simp only [spec_leBoth.j1]
              rw [e1, w1, w2, w3, w4, w5]
              exact ev_pos trivial (ev_neg w8 (ev_pos w9 (Ev.bind he1 h)))
            rcases ho1 with ⟨l, hl, hmin, rfl⟩ | ⟨hno, hf⟩
            · refine ⟨((numL n (d :: l) : Int), true), .inl ⟨d :: l, ⟨⟨Nat.le_refl _, Nat.le_of_lt_succ hd10, hl.1⟩, by rw [List.length_cons, hl.2.1], ?_, by simp only [lpN]; rw [hl.2.2.2, hpd]⟩, fun l' h => ?_, rfl⟩, step _ (ev_pos rfl (ev_eq fun _ => rfl))⟩
              · simp only [lsN]; rw [hl.2.2.1]; exact Nat.add_sub_cancel' hds
              cases l' with
              | nil => simp [goesOn] at h
              | cons x l2 =>
                have hx := h.1.1
                have hlen := len_tail h.2.1
                by_cases qx : x = d
                · subst qx
                  exact hmin l2 ⟨h.1.2.2, hlen, lsN_tail h.2.2.1, lpN_tail h1 hpd h.2.2.2⟩
                · simp only [numL]
                  have b1 := numL_lt l d hl.1
                  rw [hl.2.1] at b1
                  rw [numL_eq l, numL_eq l2, hl.2.1, hlen]
                  exact numL_less n d x (10 ^ m) _ _ (Nat.lt_of_le_of_ne hx (Ne.symm qx)) b1
            · refine ⟨o2, ?_, step _ (ev_neg (by rw [hf]; decide) he2)⟩
              have hsub : ∀ l', goesOn d (m + 1) s p l' → goesOn (d + 1) (m + 1) s p l' := fun l' h => next l' h (fun l e => by
                subst e
                exact hno l ⟨h.1.2.2, len_tail h.2.1, lsN_tail h.2.2.1, lpN_tail h1 hpd h.2.2.2⟩)
              rcases ho2 with ⟨l, hl, hmin, e⟩ | ⟨hno2, hf2⟩
              · exact .inl ⟨l, ⟨asc_mono hl.1 (Nat.le_succ d), hl.2⟩, fun l' h => hmin l' (hsub l' h), e⟩
              · exact .inr ⟨fun l' h => hno2 l' (hsub l' h), hf2⟩
          · refine ⟨o2, ?_, ev_succ ?_⟩
            · have hsub : ∀ l', goesOn d (m + 1) s p l' → goesOn (d + 1) (m + 1) s p l' := fun l' h => next l' h (fun l e => by
                subst e
                have := h.2.2.2
                simp only [lpN] at this
                exact c2 (by rw [← this]; exact Nat.mul_mod_right _ _))
              rcases ho2 with ⟨l, hl, hmin, e⟩ | ⟨hno2, hf2⟩
              · exact .inl ⟨l, ⟨asc_mono hl.1 (by omega), hl.2⟩, fun l' h => hmin l' (hsub l' h), e⟩
              · exact .inr ⟨fun l' h => hno2 l' (hsub l' h), hf2⟩
            · simp only [spec_leBoth.l0]
              have w5 : wrap64 ((d : Int) + 1) = ((d + 1 : Nat) : Int) := wrap_nat (Nat.lt_trans hd10 (by decide))
              rw [wr, decide_eq_true (Int.ofNat_le.mpr c)]
              refine ev_pos (Int.ofNat_lt.mpr hd10) (ev_succ ?_)
              simp only [spec_leBoth.j1]
              rw [e1, w5]
              exact ev_pos trivial (ev_neg (d_ne d h1) (ev_neg (fun z => c2 (Int.natCast_eq_zero.mp z)) he2))
        · refine ⟨(0, false), .inr ⟨fun l' h => ?_, rfl⟩, ev_succ ?_⟩
          · have := asc_sum l' d h.1
            rw [h.2.1, h.2.2.1] at this; omega
          · have wr := w_mul d (m + 1) (Nat.le_trans (Nat.mul_le_mul (Nat.le_of_lt_succ hd10) hm) (by decide))
            simp only [spec_leBoth.l0]
            rw [wr, decide_eq_false (fun z => c (Int.ofNat_le.mp z))]
            refine ev_pos (Int.ofNat_lt.mpr hd10) (ev_succ ?_)
            simp only [spec_leBoth.j1]
            exact ev_neg (by decide) (ev_eq fun _ => rfl)
    obtain ⟨o, ho, he⟩ := loop (10 - lo) lo (by omega) hlo
    refine ⟨o, ho, ev_succ ?_⟩
    simp only [spec_leBoth.f]
    exact ev_neg (by omega) he
/-- the lists that count: one to twelve digits that do not fall, with a sum and a product -/
def cand (s p : Nat) (l : List Nat) : Prop := asc 1 l ∧ 1 ≤ l.length ∧ l.length ≤ 12 ∧ lsN l = s ∧ lpN l = p
/-- the least of them, or none -/
def leastOf (s p : Nat) (o : Int × Bool) : Prop :=
  (∃ l, cand s p l ∧ (∀ l', cand s p l' → numL 0 l ≤ numL 0 l') ∧ o = ((numL 0 l : Int), true)) ∨ ((∀ l', ¬ cand s p l') ∧ o = (0, false))
theorem leastOf_uniq {s p : Nat} {o o' : Int × Bool} (h : leastOf s p o) (g : leastOf s p o') : o = o' := by
  rcases h with ⟨l, hl, hm, rfl⟩ | ⟨hno, rfl⟩ <;> rcases g with ⟨l', hl', hm', rfl⟩ | ⟨hno', rfl⟩
  · have h1 := hm l' hl'
    have h2 := hm' l hl
    rw [Nat.le_antisymm h1 h2]
  · exact absurd hl (hno' l)
  · exact absurd hl' (hno l')
  · rfl
theorem numL_ge (l : List Nat) (h : asc 1 l) (hp : 1 ≤ l.length) : 10 ^ (l.length - 1) ≤ numL 0 l := by
  cases l with
  | nil => simp at hp
  | cons d l =>
    have hd := h.1
    simp only [numL, List.length_cons, Nat.add_sub_cancel]
    rw [numL_eq]
    have := Nat.mul_le_mul_right (10 ^ l.length) (show 1 ≤ 10 * 0 + d by omega)
    rw [Nat.one_mul] at this
    exact Nat.le_trans this (Nat.le_add_right _ _)
theorem sLB_loop (s p : Nat) (hs : s ≤ 108) (hp : 1 ≤ p) (hp2 : p ≤ 1000000000000) : ∀ (e j : Nat), j + e = 13 → 1 ≤ j → (∀ l, cand s p l → j ≤ l.length) →
    ∃ o, leastOf s p o ∧ Ev (fun k => spec_LeastBoth.l0 k (s : Int) (p : Int) (j : Int)) o := by
  intro e
  induction e with
  | zero =>
    intro j hj h1 hno
    refine ⟨(0, false), .inr ⟨fun l h => by have h3 := hno l h; have h4 := h.2.2.1; omega, rfl⟩, ev_succ ?_⟩
    simp only [spec_LeastBoth.l0]
    exact ev_neg (by omega) (ev_eq fun _ => rfl)
  | succ e ih =>
    intro j hj h1 hno
    obtain ⟨o1, ho1, he1⟩ := sleB j 0 1 s p (by omega) (Nat.pow_pos (by omega)) (Nat.le_refl _) hs hp hp2
    have step : ∀ o, Ev (fun k => if o1.2 = true then some (o1.1, true) else spec_LeastBoth.l0 k (s : Int) (p : Int) ((j + 1 : Nat) : Int)) o → Ev (fun k => spec_LeastBoth.l0 k (s : Int) (p : Int) (j : Int)) o := by
      intro o h
      refine ev_succ ?_
      simp only [spec_LeastBoth.l0]
      rw [wrap_nat (by omega)]
      exact ev_pos (by omega) (Ev.bind he1 h)
    rcases ho1 with ⟨l, hl, hmin, rfl⟩ | ⟨hnone, hf⟩
    · refine ⟨((numL 0 l : Int), true), .inl ⟨l, ⟨hl.1, by rw [hl.2.1]; exact h1, by rw [hl.2.1]; omega, hl.2.2⟩, fun l' h => ?_, rfl⟩, step _ (ev_pos rfl (ev_eq fun _ => rfl))⟩
      have hj' := hno l' h
      by_cases c : l'.length = j
      · exact hmin l' ⟨h.1, c, h.2.2.2⟩
      · have b1 := numL_lt l 1 hl.1
        rw [hl.2.1] at b1
        have b2 := numL_ge l' h.1 h.2.1
        have b3 : 10 ^ j ≤ 10 ^ (l'.length - 1) := Nat.pow_le_pow_right (by omega) (by omega)
        exact Nat.le_of_lt (Nat.lt_of_lt_of_le b1 (Nat.le_trans b3 b2))
    · obtain ⟨o2, ho2, he2⟩ := ih (j + 1) (by omega) (by omega) (fun l h => by
        have h3 := hno l h
        by_cases c : l.length = j
        · exact absurd ⟨h.1, c, h.2.2.2⟩ (hnone l)
        · omega)
      exact ⟨o2, ho2, step _ (ev_neg (by rw [hf]; decide) he2)⟩
theorem sLB_ev (s p : Nat) (hs : s ≤ 108) (hp : 1 ≤ p) (hp2 : p ≤ 1000000000000) : ∃ o, leastOf s p o ∧ Ev (fun k => spec_LeastBoth.f k (s : Int) (p : Int)) o := by
  obtain ⟨o, ho, he⟩ := sLB_loop s p hs hp hp2 12 1 (by omega) (by omega) (fun l h => h.2.1)
  refine ⟨o, ho, ?_⟩
  unfold spec_LeastBoth.f spec_leSum.f
  rw [l1In_eq, l1In_eq]
  refine ev_pos (decide_eq_true ⟨by omega, by omega⟩) (ev_succ ?_)
  simp only [spec_LeastBoth.j0]
  exact ev_neg (by simp; omega) he
theorem sLB_out (s p : Int) (h : ¬ ((0 ≤ s ∧ s ≤ 108) ∧ (1 ≤ p ∧ p ≤ 1000000000000))) : Ev (fun k => spec_LeastBoth.f k s p) (0, false) := by
  unfold spec_LeastBoth.f spec_leSum.f
  rw [l1In_eq, l1In_eq]
  by_cases c : 0 ≤ s ∧ s ≤ 108
  · refine ev_pos (decide_eq_true c) (ev_succ ?_)
    simp only [spec_LeastBoth.j0]
    exact ev_pos (by simp; omega) (ev_eq fun _ => rfl)
  · refine ev_neg (by simpa using c) (ev_succ ?_)
    simp only [spec_LeastBoth.j0]
    exact ev_pos trivial (ev_eq fun _ => rfl)
theorem rd_at (l : List Int) (i : Nat) (h : i < l.length) : rd l (i : Int) = l[i] := by
  unfold rd
  rw [Int.toNat_natCast, List.getD_eq_getElem?_getD, List.getElem?_eq_getElem h]; rfl
/-- The number that digits tell. -/
def val (a : Int) (l : List Int) : Int := l.foldl (fun a d => 10 * a + d) a
theorem val_range (k : Nat) : ∀ (l : List Int) (a : Int), l.length ≤ k → (∀ d ∈ l, 0 ≤ d ∧ d ≤ 9) → 0 ≤ a → 0 ≤ val a l ∧ val a l < (a + 1) * 10 ^ l.length
  | l, a, hk, hd, ha => by
    induction l generalizing a with
    | nil => simp [val]; omega
    | cons x l ih =>
      have h1 := hd x List.mem_cons_self
      have := ih (10 * a + x) (by simp at hk; omega) (fun d hd' => hd d (List.mem_cons_of_mem _ hd')) (by omega)
      refine ⟨this.1, Int.lt_of_lt_of_le this.2 ?_⟩
      rw [List.length_cons, Int.pow_succ, Int.mul_comm (10 ^ l.length) 10, ← Int.mul_assoc]
      exact Int.mul_le_mul_of_nonneg_right (by omega) (Int.pow_nonneg (by omega))
theorem pow13 (n : Nat) (h : n ≤ 13) : (10 : Int) ^ n ≤ 10000000000000 := by
  have : (10 : Int) ^ n = ((10 ^ n : Nat) : Int) := by simp
  rw [this]
  have := Nat.pow_le_pow_right (n := 10) (by decide) h
  omega
theorem val_snoc (a : Int) (l : List Int) (x : Int) : val a (l ++ [x]) = 10 * val a l + x := by unfold val; rw [List.foldl_append]; rfl
theorem val_small (l : List Int) (h : l.length ≤ 13) (hd : ∀ d ∈ l, 0 ≤ d ∧ d ≤ 9) : 0 ≤ val 0 l ∧ val 0 l < 10000000000000 := by
  have h1 := val_range 13 l 0 h hd (Int.le_refl 0)
  have h2 := pow13 l.length h
  omega
theorem bt_at' (s : ByteArray) (xs : List Int) (hs : bytesOf s = xs) (i : Nat) (hi : i < xs.length) : bt s (i : Int) = xs[i] := by
  rw [← rd_bytesOf, hs, rd_at _ i hi]
theorem numberOf_ev (l : List Int) (h : l.length ≤ 13) (hd : ∀ d ∈ l, 0 ≤ d ∧ d ≤ 9) : Ev (fun k => impl_numberOf.f k (strOfNums (l.map (48 + ·)))) (val 0 l) := by
  have hb : bytesOf (strOfNums (l.map (48 + ·))) = l.map (48 + ·) := by
    unfold bytesOf strOfNums
    simp only [List.map_map]
    apply List.map_congr_left
    intro d hdm
    have := hd d hdm
    simp only [Function.comp]
    rw [UInt8.toNat_ofNat']
    omega
  have hsz : (strOfNums (l.map (48 + ·))).size = l.length := by rw [← bytesOf_length, hb, List.length_map]
  have go : ∀ (d i : Nat), i + d = l.length → Ev (fun k => impl_numberOf.l0 k (strOfNums (l.map (48 + ·))) (val 0 (l.take i)) (l.length : Int) (i : Int)) (val 0 l) := by
    intro d
    induction d with
    | zero =>
      intro i hi
      refine ev_succ ?_
      simp only [impl_numberOf.l0]
      refine ev_neg (by omega) (ev_eq fun _ => ?_)
      rw [List.take_of_length_le (by omega)]
    | succ d ih =>
      intro i hi
      have hlt : i < l.length := by omega
      refine ev_succ ?_
      simp only [impl_numberOf.l0]
      have hx := hd l[i] (List.getElem_mem hlt)
      have hbt : bt (strOfNums (l.map (48 + ·))) (i : Int) = 48 + l[i] := by
        rw [bt_at' _ _ hb i (by rw [List.length_map]; exact hlt), List.getElem_map]
      have hv := val_small (l.take i) (by have := List.length_take_le i l; omega) (fun y hy => hd y (List.mem_of_mem_take hy))
      rw [hbt, wrap_nat (by omega), show (48 + l[i] - 48) % 256 = l[i] by omega, wrap_of (x := 10 * val 0 (l.take i)) (by omega) (by omega), wrap_of (by omega) (by omega)]
      refine ev_pos (by omega) (ev_pos (by omega) (ev_pos (by rw [hsz]; omega) ?_))
      have := ih (i + 1) (by omega)
      rw [List.take_succ_eq_append_getElem hlt, val_snoc] at this
      exact this
  unfold impl_numberOf.f
  rw [hsz]
  exact go l.length 0 (by omega)

/-! ### the program's search -/
def toI (l : List Nat) : List Int := l.map (fun d : Nat => (d : Int))
def chs (l : List Nat) : List Int := (toI l).map (48 + ·)
theorem chs_append (a b : List Nat) : chs (a ++ b) = chs a ++ chs b := by simp [chs, toI]
theorem asc_all (l : List Nat) : ∀ lo, asc lo l → l.Pairwise (· ≤ ·) ∧ ∀ x ∈ l, lo ≤ x ∧ x ≤ 9 := by
  induction l with
  | nil => intro lo _; exact ⟨List.Pairwise.nil, by simp⟩
  | cons d l ih =>
    intro lo h
    obtain ⟨h1, h2⟩ := ih d h.2.2
    refine ⟨List.pairwise_cons.mpr ⟨fun x hx => (h2 x hx).1, h1⟩, fun x hx => ?_⟩
    rcases List.mem_cons.mp hx with e | e
    · rw [e]; exact ⟨h.1, h.2.1⟩
    · have := h2 x e; have := h.1; omega
theorem asc_of (l : List Nat) : ∀ lo, l.Pairwise (· ≤ ·) → (∀ x ∈ l, lo ≤ x ∧ x ≤ 9) → asc lo l := by
  induction l with
  | nil => intro lo _ _; trivial
  | cons d l ih =>
    intro lo h1 h2
    obtain ⟨h3, h4⟩ := List.pairwise_cons.mp h1
    have hd := h2 d (List.mem_cons_self ..)
    exact ⟨hd.1, hd.2, ih d h4 (fun x hx => ⟨h3 x hx, (h2 x (List.mem_cons_of_mem _ hx)).2⟩)⟩
theorem val_numL (l : List Nat) : ∀ a : Nat, val (a : Int) (toI l) = (numL a l : Int) := by
  induction l with
  | nil => intro a; rfl
  | cons d l ih =>
    intro a
    have := ih (10 * a + d)
    simp only [toI, List.map_cons, val, List.foldl_cons, numL] at this ⊢
    rw [show 10 * (a : Int) + (d : Int) = ((10 * a + d : Nat) : Int) by omega]
    exact this
theorem sorted_chs (l m : List Nat) (hp : l.Perm m) (hm : m.Pairwise (· ≤ ·)) : SortB.sorted (chs l) = chs m := by
  have hs1 : (SortB.sorted (chs l)).Pairwise (· ≤ ·) := by
    have := List.pairwise_mergeSort (le := fun (x y : Int) => decide (x ≤ y)) (fun a b c h1 h2 => by simp at *; omega) (fun a b => by simp; omega) (chs l)
    exact this.imp (fun {a b} h => by simpa using h)
  have hs2 : (chs m).Pairwise (· ≤ ·) := by
    unfold chs toI
    rw [List.map_map]
    exact List.pairwise_map.mpr (hm.imp (fun {a b} h => by simp; omega))
  have hp2 : (SortB.sorted (chs l)).Perm (chs m) := (List.mergeSort_perm _ _).trans ((hp.map _).map _)
  exact hp2.eq_of_pairwise (fun a b _ _ h1 h2 => by omega) hs1 hs2
/-- the row of a search's way: its digits fall -/
def dsOf (r : List Nat) : List Int := chs r.reverse
theorem dsOf_cons (d : Nat) (r : List Nat) : dsOf (d :: r) = dsOf r ++ [48 + (d : Int)] := by
  unfold dsOf; rw [List.reverse_cons, chs_append]; rfl
theorem dsOf_len (r : List Nat) : (dsOf r).length = r.length := by simp [dsOf, chs, toI]
theorem lsN_append (a b : List Nat) : lsN (a ++ b) = lsN a + lsN b := by
  induction a with
  | nil => simp [lsN]
  | cons x a ih => simp only [List.cons_append, lsN, ih]; omega
theorem lpN_append (a b : List Nat) : lpN (a ++ b) = lpN a * lpN b := by
  induction a with
  | nil => simp [lpN]
  | cons x a ih => simp only [List.cons_append, lpN, ih, Nat.mul_assoc]
theorem ones_sum (n : Nat) : lsN (List.replicate n 1) = n ∧ lpN (List.replicate n 1) = 1 := by
  induction n with
  | zero => exact ⟨rfl, rfl⟩
  | succ n ih => rw [List.replicate_succ]; exact ⟨by simp only [lsN, ih.1]; omega, by simp only [lpN, ih.2]⟩
theorem ones_asc (n : Nat) (r : List Nat) (h : asc 2 r) : asc 1 (List.replicate n 1 ++ r) := by
  induction n with
  | zero => exact asc_mono h (by omega)
  | succ n ih => rw [List.replicate_succ, List.cons_append]; exact ⟨Nat.le_refl _, by omega, ih⟩
theorem asL_ev (r : List Nat) (s : Nat) (h : asc 2 r) : Ev (fun k => impl_asLeast.f k (dsOf r ++ List.replicate s 49)) (if (List.replicate s 1 ++ r).length > 12 then (0, false) else ((numL 0 (List.replicate s 1 ++ r) : Int), true)) := by
  have e : dsOf r ++ List.replicate s 49 = chs (r.reverse ++ List.replicate s 1) := by
    rw [chs_append]; simp [dsOf, chs, toI]
  have hlen : (chs (r.reverse ++ List.replicate s 1)).length = (List.replicate s 1 ++ r).length := by simp [chs, toI]; omega
  have ha := ones_asc s r h
  obtain ⟨a1, a2⟩ := asc_all _ 1 ha
  have hs := sorted_chs (r.reverse ++ List.replicate s 1) (List.replicate s 1 ++ r) (List.perm_append_comm.trans ((List.reverse_perm r).append_left _)) a1
  unfold impl_asLeast.f
  rw [e, hs, hlen]
  by_cases c : (List.replicate s 1 ++ r).length > 12
  · rw [if_pos c]; exact ev_pos c (ev_eq fun _ => rfl)
  · rw [if_neg c]
    refine ev_neg c ?_
    have hn := numberOf_ev (toI (List.replicate s 1 ++ r)) (by simp only [toI, List.length_map]; omega) (fun d hd => by
      obtain ⟨x, hx, rfl⟩ := List.mem_map.mp hd
      have := a2 x hx; omega)
    have hv := val_numL (List.replicate s 1 ++ r) 0
    rw [show ((0 : Nat) : Int) = 0 from rfl] at hv
    rw [hv] at hn
    exact Ev.bind hn (ev_eq fun _ => rfl)
/-- the best of some lists -/
def Bst (X : List Nat → Prop) (st : Int × Bool) : Prop :=
  (∃ l, X l ∧ (∀ l', X l' → numL 0 l ≤ numL 0 l') ∧ st = ((numL 0 l : Int), true)) ∨ ((∀ l', ¬ X l') ∧ st = (0, false))
theorem Bst_congr {X Y : List Nat → Prop} {st : Int × Bool} (h : ∀ l, X l ↔ Y l) (b : Bst X st) : Bst Y st := by
  have : X = Y := funext fun l => propext (h l)
  rw [← this]; exact b
/-- what a way goes on with: digits from 2 up to most, ahead of it, and ones ahead of all -/
def Yl (r : List Nat) (most s p : Nat) (l : List Nat) : Prop :=
  ∃ q, asc 2 q ∧ (∀ x ∈ q, x ≤ most) ∧ lsN q ≤ s ∧ lpN q = p ∧ l = List.replicate (s - lsN q) 1 ++ (q ++ r) ∧ 1 ≤ l.length ∧ l.length ≤ 12
theorem asc_snoc (q : List Nat) (d : Nat) (h2 : 2 ≤ d) (h9 : d ≤ 9) : asc 2 (q ++ [d]) ↔ asc 2 q ∧ ∀ x ∈ q, x ≤ d := by
  constructor
  · intro h
    obtain ⟨h1, h3⟩ := asc_all _ 2 h
    obtain ⟨h4, _, h5⟩ := List.pairwise_append.mp h1
    exact ⟨asc_of q 2 h4 (fun x hx => h3 x (List.mem_append_left _ hx)), fun x hx => h5 x hx d (List.mem_singleton.mpr rfl)⟩
  · rintro ⟨h, hd⟩
    obtain ⟨h1, h3⟩ := asc_all _ 2 h
    refine asc_of _ 2 (List.pairwise_append.mpr ⟨h1, List.pairwise_singleton _ _, fun x hx y hy => ?_⟩) (fun x hx => ?_)
    · rw [List.mem_singleton.mp hy]; exact hd x hx
    · rcases List.mem_append.mp hx with e | e
      · exact h3 x e
      · rw [List.mem_singleton.mp e]; exact ⟨h2, h9⟩
theorem lastOf (q : List Nat) (d : Nat) (h : asc 2 q) (hd : ∀ x ∈ q, x ≤ d) (hm : d ∈ q) : ∃ q', q = q' ++ [d] := by
  have hne : q ≠ [] := fun e => by subst e; simp at hm
  refine ⟨q.dropLast, ?_⟩
  have e := List.dropLast_concat_getLast hne
  have hl : q.getLast hne = d := by
    obtain ⟨h1, _⟩ := asc_all _ 2 h
    have h2 := hd _ (List.getLast_mem hne)
    rw [← e] at h1 hm
    obtain ⟨_, _, h5⟩ := List.pairwise_append.mp h1
    rcases List.mem_append.mp hm with m | m
    · have := h5 d m _ (List.mem_singleton.mpr rfl); omega
    · exact (List.mem_singleton.mp m).symm
  rw [← hl]; exact e.symm
theorem Yl_step (r : List Nat) (c s p : Nat) (hp : 1 ≤ p) (hc : c + 2 ≤ 9) (l : List Nat) :
    Yl r (c + 2) s p l ↔ (p % (c + 2) = 0 ∧ c + 2 ≤ s ∧ Yl ((c + 2) :: r) (c + 2) (s - (c + 2)) (p / (c + 2)) l) ∨ Yl r (c + 1) s p l := by
  constructor
  · rintro ⟨q, h1, h2, h3, h4, h5, h6⟩
    by_cases m : c + 2 ∈ q
    · obtain ⟨q', rfl⟩ := lastOf q (c + 2) h1 h2 m
      obtain ⟨g1, g2⟩ := (asc_snoc q' (c + 2) (by omega) hc).mp h1
      rw [lsN_append] at h3 h5
      rw [lpN_append] at h4
      simp only [lsN, lpN, Nat.mul_one, Nat.add_zero] at h3 h4 h5
      refine .inl ⟨by rw [← h4]; exact Nat.mul_mod_left _ _, by omega, q', g1, g2, by omega, ?_, ?_, h6⟩
      · rw [← h4]; exact (Nat.mul_div_cancel _ (by omega)).symm
      · rw [h5, show s - (lsN q' + (c + 2)) = s - (c + 2) - lsN q' by omega, List.append_assoc]; rfl
    · refine .inr ⟨q, h1, fun x hx => ?_, h3, h4, h5, h6⟩
      have := h2 x hx
      have : x ≠ c + 2 := fun e => m (e ▸ hx)
      omega
  · rintro (⟨hm, hs, q', h1, h2, h3, h4, h5, h6⟩ | ⟨q, h1, h2, h3, h4, h5, h6⟩)
    · refine ⟨q' ++ [c + 2], (asc_snoc q' (c + 2) (by omega) hc).mpr ⟨h1, h2⟩, fun x hx => ?_, ?_, ?_, ?_, h6⟩
      · rcases List.mem_append.mp hx with e | e
        · exact h2 x e
        · rw [List.mem_singleton.mp e]; exact Nat.le_refl _
      · rw [lsN_append]; simp only [lsN]; omega
      · rw [lpN_append, h4]; simp only [lpN, Nat.mul_one]; exact Nat.div_mul_cancel (Nat.dvd_of_mod_eq_zero hm)
      · rw [h5, lsN_append]; simp only [lsN, Nat.add_zero]
        rw [show s - (lsN q' + (c + 2)) = s - (c + 2) - lsN q' by omega, List.append_assoc]; rfl
    · exact ⟨q, h1, fun x hx => Nat.le_succ_of_le (h2 x hx), h3, h4, h5, h6⟩
theorem lpN_one (q : List Nat) (h : asc 2 q) (hp : lpN q = 1) : q = [] := by
  cases q with
  | nil => rfl
  | cons d q =>
    exfalso
    simp only [lpN] at hp
    have h1 := h.1
    have : d = 1 := Nat.eq_one_of_mul_eq_one_right hp
    omega
theorem Yl_one (r : List Nat) (s p : Nat) (hp : p ≠ 1) (l : List Nat) : ¬ Yl r 1 s p l := by
  rintro ⟨q, h1, h2, _, h4, _⟩
  cases q with
  | nil => simp only [lpN] at h4; exact hp h4.symm
  | cons d q => have := h1.1; have := h2 d (List.mem_cons_self ..); omega
theorem Yl_leaf (r : List Nat) (most s : Nat) (l : List Nat) : Yl r most s 1 l ↔ (l = List.replicate s 1 ++ r ∧ 1 ≤ l.length ∧ l.length ≤ 12) := by
  constructor
  · rintro ⟨q, h1, _, _, h4, h5, h6⟩
    obtain rfl := lpN_one q h1 h4
    exact ⟨by simpa [lsN] using h5, h6⟩
  · rintro ⟨h, h6⟩
    exact ⟨[], trivial, by simp, Nat.zero_le _, rfl, by simpa [lsN] using h, h6⟩
theorem leaf_ev (r : List Nat) (most s : Nat) (h : asc 2 r) (X : List Nat → Prop) (st : Int × Bool) (hb : Bst X st) :
    ∃ st', Ev (fun k => impl_choose.leaf k (dsOf r) (s : Int) st) st' ∧ Bst (fun l => X l ∨ Yl r most s 1 l) st' := by
  obtain ⟨L, hL⟩ : ∃ L, L = List.replicate s 1 ++ r := ⟨_, rfl⟩
  have he := asL_ev r s h
  rw [← hL] at he
  have ha := ones_asc s r h
  rw [← hL] at ha
  obtain ⟨o, ho⟩ : ∃ o, o = (if L.length > 12 then ((0 : Int), false) else ((numL 0 L : Int), true)) := ⟨_, rfl⟩
  rw [← ho] at he
  refine ⟨if o.2 = true ∧ 0 < o.1 ∧ (st.2 = false ∨ o.1 < st.1) then (o.1, true) else st, ?_, ?_⟩
  · unfold impl_choose.leaf
    rw [Int.toNat_natCast]
    exact Ev.bind he (ev_eq fun _ => rfl)
  have hY : ∀ l, (X l ∨ Yl r most s 1 l) ↔ (X l ∨ (l = L ∧ 1 ≤ l.length ∧ l.length ≤ 12)) := fun l => by rw [Yl_leaf, hL]
  refine Bst_congr (fun l => (hY l).symm) ?_
  by_cases c : L.length > 12
  · rw [if_pos c] at ho
    subst ho
    rw [if_neg (by simp)]
    refine Bst_congr (fun l => ⟨.inl, fun z => ?_⟩) hb
    rcases z with z | ⟨rfl, _, z⟩
    · exact z
    · omega
  rw [if_neg c] at ho
  subst ho
  by_cases c0 : L.length = 0
  · have : L = [] := List.eq_nil_of_length_eq_zero c0
    subst this
    rw [if_neg (by simp [numL])]
    refine Bst_congr (fun l => ⟨.inl, fun z => ?_⟩) hb
    rcases z with z | ⟨rfl, z, _⟩
    · exact z
    · simp at z
  have hpos := numL_ge L ha (by omega)
  have hp10 : 0 < 10 ^ (L.length - 1) := Nat.pow_pos (by omega)
  have hn0 : 0 < numL 0 L := Nat.lt_of_lt_of_le hp10 hpos
  clear hpos hp10
  rcases hb with ⟨l0, hl0, hmin, rfl⟩ | ⟨hno, rfl⟩
  · by_cases cl : numL 0 L < numL 0 l0
    · rw [if_pos ⟨rfl, by dsimp only; omega, .inr (by dsimp only; omega)⟩]
      refine .inl ⟨L, .inr ⟨rfl, by omega, by omega⟩, fun l' h' => ?_, rfl⟩
      rcases h' with h' | ⟨rfl, _⟩
      · have := hmin l' h'; omega
      · exact Nat.le_refl _
    · rw [if_neg (by rintro ⟨_, _, z | z⟩ <;> dsimp only at z <;> first | cases z | omega)]
      refine .inl ⟨l0, .inl hl0, fun l' h' => ?_, rfl⟩
      rcases h' with h' | ⟨rfl, _⟩
      · exact hmin l' h'
      · omega
  · rw [if_pos ⟨rfl, by dsimp only; omega, .inl rfl⟩]
    refine .inl ⟨L, .inr ⟨rfl, by omega, by omega⟩, fun l' h' => ?_, rfl⟩
    rcases h' with h' | ⟨rfl, _⟩
    · exact absurd h' (hno l')
    · exact Nat.le_refl _
theorem choose_ev : ∀ (n : Nat) (r : List Nat) (most s p : Nat) (X : List Nat → Prop) (st : Int × Bool), asc 2 r → (∀ x ∈ r, most ≤ x) → 1 ≤ most → most ≤ 9 → s ≤ 108 → 1 ≤ p → p ≤ 1000000000000 → p < 2 ^ n → r.length + n ≤ 60 → Bst X st →
    ∃ st', Ev (fun k => impl_choose.f k n (dsOf r) most (s : Int) (p : Int) st) st' ∧ Bst (fun l => X l ∨ Yl r most s p l) st' := by
  intro n
  induction n with
  | zero => intro r most s p X st _ _ _ _ _ h1 _ h2 _ _; rw [Nat.pow_zero] at h2; omega
  | succ n ih =>
    intro r most s p X st hr hmr h1 h9 hs hp hp2 hpn hrn hb
    have guard : ∀ st', Ev (fun k => if (p : Int) = 1 then impl_choose.leaf k (dsOf r) (s : Int) st else impl_choose.loop (impl_choose.f k n) (dsOf r) (s : Int) (p : Int) (most - 1) st) st' →
        Ev (fun k => impl_choose.f k (n + 1) (dsOf r) most (s : Int) (p : Int) st) st' := by
      intro st' h
      have g : ((0 : Int) ≤ (s : Int) ∧ (s : Int) ≤ 108) ∧ ((1 : Int) ≤ (p : Int) ∧ (p : Int) ≤ 1000000000000) ∧ (1 ≤ most ∧ most ≤ 9) ∧ (dsOf r).length ≤ 60 := by
        rw [dsOf_len]
        exact ⟨⟨by omega, by omega⟩, ⟨by omega, by omega⟩, ⟨h1, h9⟩, by omega⟩
      unfold impl_choose.f
      exact ev_pos g h
    by_cases c1 : p = 1
    · subst c1
      obtain ⟨st', he, hb'⟩ := leaf_ev r most s hr X st hb
      exact ⟨st', guard st' (ev_pos rfl he), hb'⟩
    have loop : ∀ (c : Nat), c + 1 ≤ most → ∀ (X : List Nat → Prop) (st : Int × Bool), Bst X st →
        ∃ st', Ev (fun k => impl_choose.loop (impl_choose.f k n) (dsOf r) (s : Int) (p : Int) c st) st' ∧ Bst (fun l => X l ∨ Yl r (c + 1) s p l) st' := by
      intro c
      induction c with
      | zero =>
        intro _ X st hb
        refine ⟨st, ev_eq fun _ => rfl, Bst_congr (fun l => ⟨.inl, fun z => ?_⟩) hb⟩
        rcases z with z | z
        · exact z
        · exact absurd z (Yl_one r s p c1 l)
      | succ c ihc =>
        intro hc X st hb
        have hstep := Yl_step r c s p hp (by omega)
        have em : Int.tmod (p : Int) ((c + 2 : Nat) : Int) = ((p % (c + 2) : Nat) : Int) := w_modd p (c + 2)
        by_cases cd : p % (c + 2) = 0 ∧ c + 2 ≤ s
        · obtain ⟨hpd, hq1, hq2⟩ := pdiv_facts p (c + 2) hp cd.1
          obtain ⟨q, hq⟩ : ∃ q, q = p / (c + 2) := ⟨_, rfl⟩
          rw [← hq] at hpd hq1 hq2
          have hqn : q < 2 ^ n := by
            have h5 : 2 * q ≤ p := by rw [← hpd]; exact Nat.mul_le_mul_right q (by omega)
            rw [Nat.pow_succ] at hpn
            generalize 2 ^ n = z at *
            clear hpd hstep
            omega
          obtain ⟨st1, he1, hb1⟩ := ih ((c + 2) :: r) (c + 2) (s - (c + 2)) q X st ⟨by omega, by omega, (by
              cases r with
              | nil => trivial
              | cons y r => exact ⟨by have := hmr y (List.mem_cons_self ..); omega, hr.2.1, hr.2.2⟩)⟩
            (fun x hx => by
              rcases List.mem_cons.mp hx with e | e
              · rw [e]; exact Nat.le_refl _
              · have := hmr x e; omega)
            (by omega) (by omega) (by omega) hq1 (Nat.le_trans hq2 hp2) hqn (by rw [List.length_cons]; omega) hb
          obtain ⟨st2, he2, hb2⟩ := ihc (by omega) _ st1 hb1
          refine ⟨st2, ?_, Bst_congr (fun l => ?_) hb2⟩
          · have e2 : dsOf r ++ [((c + 50 : Nat) : Int)] = dsOf ((c + 2) :: r) := by rw [dsOf_cons]; congr 2; omega
            have e3 : (s : Int) - ((c + 2 : Nat) : Int) = ((s - (c + 2) : Nat) : Int) := by omega
            have e4 : Int.tdiv (p : Int) ((c + 2 : Nat) : Int) = (q : Int) := by rw [Int.tdiv_eq_ediv_of_nonneg (Int.natCast_nonneg p), ← Int.natCast_ediv, ← hq]
            unfold impl_choose.loop
            rw [em, e2, e3, e4]
            exact ev_pos ⟨by rw [cd.1]; rfl, by omega⟩ (Ev.bind he1 he2)
          · rw [hstep l, ← hq]
            constructor
            · rintro ((z | z) | z)
              · exact .inl z
              · exact .inr (.inl ⟨cd.1, cd.2, z⟩)
              · exact .inr (.inr z)
            · rintro (z | ⟨_, _, z⟩ | z)
              · exact .inl (.inl z)
              · exact .inl (.inr z)
              · exact .inr z
        · obtain ⟨st2, he2, hb2⟩ := ihc (by omega) X st hb
          refine ⟨st2, ?_, Bst_congr (fun l => ?_) hb2⟩
          · unfold impl_choose.loop
            rw [em]
            exact ev_neg (fun z => cd ⟨by have := z.1; omega, by have := z.2; omega⟩) he2
          · rw [hstep l]
            constructor
            · rintro (z | z)
              · exact .inl z
              · exact .inr (.inr z)
            · rintro (z | ⟨z1, z2, _⟩ | z)
              · exact .inl z
              · exact absurd ⟨z1, z2⟩ cd
              · exact .inr z
    obtain ⟨st', he, hb'⟩ := loop (most - 1) (by omega) X st hb
    rw [Nat.sub_add_cancel h1] at hb'
    exact ⟨st', guard st' (ev_neg (by omega) he), hb'⟩
/-- ones ahead, then digits from 2 on -/
theorem asc_split (l : List Nat) (h : asc 1 l) : ∃ a q, l = List.replicate a 1 ++ q ∧ asc 2 q := by
  induction l with
  | nil => exact ⟨0, [], rfl, trivial⟩
  | cons d l ih =>
    by_cases c : d = 1
    · subst c
      obtain ⟨a, q, e, hq⟩ := ih h.2.2
      exact ⟨a + 1, q, by rw [e, List.replicate_succ, List.cons_append], hq⟩
    · exact ⟨0, d :: l, rfl, ⟨by have := h.1; omega, h.2⟩⟩
theorem Yl_cand (s p : Nat) (l : List Nat) : Yl [] 9 s p l ↔ cand s p l := by
  constructor
  · rintro ⟨q, h1, _, h3, h4, h5, h6, h7⟩
    rw [List.append_nil] at h5
    have ho := ones_sum (s - lsN q)
    refine ⟨by rw [h5]; exact ones_asc _ q h1, h6, h7, ?_, ?_⟩
    · rw [h5, lsN_append, ho.1]; omega
    · rw [h5, lpN_append, ho.2, h4, Nat.one_mul]
  · rintro ⟨h1, h2, h3, h4, h5⟩
    obtain ⟨a, q, e, hq⟩ := asc_split l h1
    have ho := ones_sum a
    rw [e, lsN_append, ho.1] at h4
    rw [e, lpN_append, ho.2, Nat.one_mul] at h5
    exact ⟨q, hq, fun x hx => ((asc_all q 2 hq).2 x hx).2, by omega, h5, by rw [List.append_nil, e, show s - lsN q = a by omega], h2, h3⟩
theorem iLB_ev (s p : Nat) (hs : s ≤ 108) (hp : 1 ≤ p) (hp2 : p ≤ 1000000000000) : ∃ o, leastOf s p o ∧ Ev (fun k => impl_LeastBoth.f k (s : Int) (p : Int)) o := by
  have h42 : (2 : Nat) ^ 42 = 4398046511104 := by decide
  obtain ⟨o, he, hb⟩ := choose_ev 42 [] 9 s p (fun _ => False) (0, false) trivial (by simp) (by omega) (by omega) hs hp hp2 (by rw [h42]; omega) (by decide) (.inr ⟨fun _ h => h, rfl⟩)
  refine ⟨o, Bst_congr (fun l => ?_) hb, ?_⟩
  · rw [Yl_cand]
    exact ⟨fun z => z.resolve_left id, .inr⟩
  · unfold impl_LeastBoth.f impl_isSum.f impl_isProduct.f
    rw [within_eq, within_eq]
    exact ev_pos (decide_eq_true ⟨by omega, by omega⟩) (ev_pos (decide_eq_true ⟨by omega, by omega⟩) he)
theorem iLB_out (s p : Int) (h : ¬ ((0 ≤ s ∧ s ≤ 108) ∧ (1 ≤ p ∧ p ≤ 1000000000000))) : Ev (fun k => impl_LeastBoth.f k s p) (0, false) := by
  unfold impl_LeastBoth.f impl_isSum.f impl_isProduct.f
  rw [within_eq, within_eq]
  by_cases c : 0 ≤ s ∧ s ≤ 108
  · exact ev_pos (decide_eq_true c) (ev_neg (by simp; omega) (ev_eq fun _ => rfl))
  · exact ev_neg (by simpa using c) (ev_eq fun _ => rfl)
theorem FnExactLeastBoth : laws_FnExactLeastBoth.Pure := by
  intro a0 a1 _ _
  refine Ev.rounds ?_
  unfold laws_FnExactLeastBoth.f
  have both : ∃ o, Ev (fun k => spec_LeastBoth.f k a0 a1) o ∧ Ev (fun k => impl_LeastBoth.f k a0 a1) o := by
    by_cases c : (0 ≤ a0 ∧ a0 ≤ 108) ∧ (1 ≤ a1 ∧ a1 ≤ 1000000000000)
    · obtain ⟨s, rfl⟩ : ∃ s : Nat, a0 = (s : Int) := ⟨a0.toNat, by omega⟩
      obtain ⟨p, rfl⟩ : ∃ p : Nat, a1 = (p : Int) := ⟨a1.toNat, by omega⟩
      obtain ⟨o, ho, he⟩ := sLB_ev s p (by omega) (by omega) (by omega)
      obtain ⟨o', ho', he'⟩ := iLB_ev s p (by omega) (by omega) (by omega)
      obtain rfl := leastOf_uniq ho ho'
      exact ⟨o, he, he'⟩
    · exact ⟨(0, false), sLB_out a0 a1 c, iLB_out a0 a1 c⟩
  obtain ⟨o, h1, h2⟩ := both
  exact Ev.bind h1 (Ev.bind h2 (ev_pos rfl (ev_neg (by simp) (ev_eq fun _ => rfl))))
end Go.Proofs.Ytogonichanoeaaa.Pure
