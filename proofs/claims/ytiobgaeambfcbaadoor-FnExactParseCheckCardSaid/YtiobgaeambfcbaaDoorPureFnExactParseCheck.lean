/- ParseCheck: program and reference tell the same of every text (lists, numbers and texts alone). -/
import Derived.Test.YtiobgaeambfcbaaDoorPFnExactParseCheckx5
namespace Go.Proofs.YtiobgaeambfcbaaDoor.Pure
open Go.RowKit Go.Proofs.YtiobgaeambfcbaaDoor.PFnExactParseCheck Go.Proofs.YtiobgaeambfcbaaDoorW.PrintWords Go.Proofs.YtiobgaeambfcbaaDoorW.PrintLast
set_option linter.unusedVariables false
set_option linter.unusedSimpArgs false

theorem wrap_of {x : Int} (h0 : -9223372036854775808 ≤ x) (h1 : x ≤ 9223372036854775807) : wrap64 x = x := by unfold wrap64; omega
theorem wrap_nat {i : Nat} (h : i < 4611686018427387904) : wrap64 ((i : Int) + 1) = ((i + 1 : Nat) : Int) := by unfold wrap64; omega
theorem ev_eq {α : Type} {g : Nat → Option α} {r : α} (h : ∀ k, g k = some r) : Ev g r := ⟨0, fun k _ => h k⟩
theorem ev_bind {α β : Type} {x : Option α} {f : Nat → α → Option β} {a : α} {r : β} (h : x = some a) (k : Ev (fun n => f n a) r) : Ev (fun n => x.bind (f n)) r := by subst h; exact k
theorem ev_pos {α : Type} {c : Prop} [Decidable c] {g f : Nat → Option α} {r : α} (h : c) (k : Ev g r) : Ev (fun n => if c then g n else f n) r := by simp only [if_pos h]; exact k
theorem ev_neg {α : Type} {c : Prop} [Decidable c] {g f : Nat → Option α} {r : α} (h : ¬ c) (k : Ev f r) : Ev (fun n => if c then g n else f n) r := by simp only [if_neg h]; exact k
theorem ev_from {α : Type} {g : Nat → Option α} {r : α} (K : Nat) (h : ∀ k, K ≤ k → g k = some r) : Ev g r := ⟨K, h⟩

/-! ### bytes of a text -/
theorem size_len (t : ByteArray) : t.data.toList.length = t.size := by rw [Array.length_toList]; rfl
theorem bt_get (t : ByteArray) (i : Nat) (h : i < t.data.toList.length) : bt t (i : Int) = ((t.data.toList[i]).toNat : Int) := by
  unfold bt
  rw [dif_pos (by rw [Int.toNat_natCast]; simpa using h)]
  simp only [Int.toNat_natCast]
  rfl
theorem ev_succ {α : Type} {g : Nat → Option α} {r : α} (h : Ev (fun k => g (k + 1)) r) : Ev g r := by
  obtain ⟨K, hK⟩ := h
  refine ev_from (K + 1) (fun k hk => ?_)
  obtain ⟨k, rfl⟩ : ∃ m, k = m + 1 := ⟨k - 1, by omega⟩
  exact hK k (by omega)
theorem ext_list (s : ByteArray) (a b : Nat) (hb : b ≤ s.size) : (s.extract a b).data.toList = (s.data.toList.take b).drop a := by
  rw [ByteArray.data_extract, Array.toList_extract, List.extract_eq_take_drop]
  rw [List.drop_take]
theorem take_list (s : ByteArray) (i : Nat) (h : i ≤ s.size) : (s.extract 0 i).data.toList = s.data.toList.take i := by rw [ext_list s 0 i h]; rfl
theorem drop_list (s : ByteArray) (i : Nat) : (s.extract i s.size).data.toList = s.data.toList.drop i := by
  rw [ext_list s i s.size (Nat.le_refl _), List.take_of_length_le (by rw [size_len]; exact Nat.le_refl _)]
theorem mk_data (s : ByteArray) : (⟨s.data.toList.toArray⟩ : ByteArray) = s := by cases s; simp
theorem of_list {s : ByteArray} {l : List UInt8} (h : s.data.toList = l) : s = ⟨l.toArray⟩ := by rw [← h, mk_data]
theorem list_of (l : List UInt8) : (⟨l.toArray⟩ : ByteArray).data.toList = l := by simp
theorem mk_size (l : List UInt8) : (⟨l.toArray⟩ : ByteArray).size = l.length := by rw [← size_len, list_of]
theorem mk_append (a b : List UInt8) : (⟨a.toArray⟩ : ByteArray) ++ ⟨b.toArray⟩ = ⟨(a ++ b).toArray⟩ := by
  apply of_list; rw [ByteArray.data_append, Array.toList_append, list_of, list_of]
theorem l1In_eq (n lo hi : Int) : spec_l1In.f n lo hi = some (decide (lo ≤ n ∧ n ≤ hi)) := by
  unfold spec_l1In.f
  by_cases h : n ≥ lo
  · rw [if_pos h]; congr 1; simp; intro _; omega
  · rw [if_neg h]; congr 1; simp; intro; omega
theorem within_eq (n lo hi : Int) : impl_within.f n lo hi = some (decide (lo ≤ n ∧ n ≤ hi)) := by
  unfold impl_within.f
  by_cases h : lo ≤ n
  · rw [if_pos h]; congr 1; simp; intro _; omega
  · rw [if_neg h]; congr 1; simp; intro; omega
theorem nDig_le (n : Nat) : ∀ k, 0 < k → n < 10 ^ k → Lib.nDigits n ≤ k := by
  induction n using Nat.strongRecOn with
  | _ n ih =>
    intro k hk h
    by_cases c : n < 10
    · rw [Lib.nDigits_small c]; exact hk
    · rw [Lib.nDigits_big c]
      obtain ⟨k, rfl⟩ : ∃ j, k = j + 1 := ⟨k - 1, by omega⟩
      have hk1 : 0 < k := by
        rcases Nat.eq_zero_or_pos k with e | e
        · subst e; simp at h; omega
        · exact e
      have := ih (n / 10) (by omega) k hk1 (by rw [Nat.pow_succ] at h; omega)
      omega

/-! ### the reference's own decimals -/
theorem strOne (x : Int) (h0 : 0 ≤ x) (h : x < 256) : strOfNums [x] = (⟨[UInt8.ofNat x.toNat].toArray⟩ : ByteArray) := by
  unfold strOfNums
  simp
theorem l1Num_ev (n : Nat) (hn : n ≤ 9223372036854775807) : Ev (fun k => spec_l1Num.f k (n : Int)) ⟨(Lib.decDigits n).toArray⟩ := by
  induction n using Nat.strongRecOn with
  | _ n ih =>
    refine ev_succ ?_
    simp only [spec_l1Num.f]
    by_cases h : n < 10
    · refine ev_pos (by omega) (ev_eq fun _ => ?_)
      have e : wrap64 (48 + (n : Int)) % 256 = 48 + (n : Int) := by rw [wrap_of (by omega) (by omega)]; omega
      rw [e, strOne _ (by omega) (by omega), Lib.decDigits_one h, show (48 + (n : Int)).toNat = 48 + n by omega]
    · refine ev_neg (by omega) ?_
      have e1 : wrap64 (Int.tdiv (n : Int) 10) = ((n / 10 : Nat) : Int) := by
        rw [Int.tdiv_eq_ediv_of_nonneg (by omega), wrap_of (by omega) (by omega)]; omega
      rw [e1]
      have hd := ih (n / 10) (by omega) (by omega)
      refine Ev.bind hd (ev_eq fun _ => ?_)
      have e2 : Int.tmod (n : Int) 10 = ((n % 10 : Nat) : Int) := by rw [Int.tmod_eq_emod_of_nonneg (by omega)]; omega
      have e3 : wrap64 (48 + ((n % 10 : Nat) : Int)) % 256 = 48 + ((n % 10 : Nat) : Int) := by rw [wrap_of (by omega) (by omega)]; omega
      rw [e2, e3]
      simp only [Option.bind_some]
      rw [strOne _ (by omega) (by omega), show (48 + ((n % 10 : Nat) : Int)).toNat = 48 + n % 10 by omega]
      have hl := nDig_le (n / 10) 19 (by omega) (by omega)
      rw [mk_size, mk_size, Lib.decDigits_length, if_pos (by simp; omega), mk_append]
      congr 3
      rw [Lib.decDigits.eq_1 n, dif_neg h]
theorem itoa_small (n : Int) (h0 : 0 ≤ n) (h : n < 100) : strconv_Itoa.f n = some ⟨(Lib.decDigits n.toNat).toArray⟩ := by
  unfold strconv_Itoa.f
  rw [if_pos (by omega), if_pos (by omega)]
  unfold Lib.itoa
  rw [if_neg (by omega)]

/-! ### lists of numbers: alike, marked, held -/
theorem rdi_at (l : List Int) (i : Nat) (h : i < l.length) : rd l (i : Int) = l[i] := by
  unfold rd
  rw [Int.toNat_natCast, List.getD_eq_getElem?_getD, List.getElem?_eq_getElem h]; rfl
theorem eqIntS_loop (l : List Int) (hl : l.length ≤ 1048577) : ∀ (d i k : Nat), i + d = l.length → d < k → laws_eqIntS.l0 k l l (i : Int) = some true := by
  intro d
  induction d with
  | zero =>
    intro i k hi hk
    obtain ⟨k, rfl⟩ : ∃ n, k = n + 1 := ⟨k - 1, by omega⟩
    simp only [laws_eqIntS.l0]
    rw [if_neg (by omega)]
  | succ d ih =>
    intro i k hi hk
    obtain ⟨k, rfl⟩ : ∃ n, k = n + 1 := ⟨k - 1, by omega⟩
    simp only [laws_eqIntS.l0]
    rw [if_pos (by omega), if_pos (by omega), if_pos (by omega), if_pos trivial, wrap_nat (by omega), ih (i + 1) k (by omega) (by omega)]
theorem eqIntS_ev (l : List Int) (hl : l.length ≤ 1048577) : Ev (fun k => laws_eqIntS.f k l l) true := by
  refine ev_from (l.length + 1) (fun k hk => ?_)
  unfold laws_eqIntS.f
  rw [if_pos rfl]
  exact eqIntS_loop l hl l.length 0 k (by omega) (by omega)
def imk (j : Nat) : Int := 1 + (j : Int)
def imarks (n : Nat) : List Int := (List.range' 0 n).map imk
theorem imarks_len (n : Nat) : (imarks n).length = n := by simp [imarks]
theorem imarks_get (n i : Nat) (h : i < (imarks n).length) : (imarks n)[i] = imk i := by simp [imarks]
theorem imark_loop : ∀ (d i k : Nat) (m : List Int), m.length ≤ 1048577 → i + d = m.length → d < k →
    laws_markIntS.l0 k m (imk i) (i : Int) = some (imk m.length, m.take i ++ (List.range' i d).map imk) := by
  intro d
  induction d with
  | zero =>
    intro i k m hl hi hk
    obtain ⟨k, rfl⟩ : ∃ n, k = n + 1 := ⟨k - 1, by omega⟩
    simp only [laws_markIntS.l0]
    rw [if_neg (by omega)]
    have : i = m.length := by omega
    subst this
    simp
  | succ d ih =>
    intro i k m hl hi hk
    obtain ⟨k, rfl⟩ : ∃ n, k = n + 1 := ⟨k - 1, by omega⟩
    have hlt : i < m.length := by omega
    simp only [laws_markIntS.l0]
    have e1 : wrap64 (imk i + 1) = imk (i + 1) := by unfold imk; rw [wrap_of (by omega) (by omega)]; omega
    rw [if_pos (by omega), if_pos (by omega), e1, wrap_nat (by omega), Int.toNat_natCast, ih (i + 1) k _ (by simpa using hl) (by simp; omega) (by omega)]
    have e4 : (m.set i (imk i)).take (i + 1) = m.take i ++ [imk i] := by
      rw [List.take_succ_eq_append_getElem (by simpa using hlt), List.take_set_of_le (Nat.le_refl _)]
      simp
    rw [e4]
    simp [List.range'_succ]
theorem imark_ev (m : List Int) (hl : m.length ≤ 1048577) : Ev (fun k => laws_markIntS.f k m 1) (imk m.length, imarks m.length) := by
  refine ev_from (m.length + 1) (fun k hk => ?_)
  exact imark_loop m.length 0 k m hl (by omega) (by omega)
theorem iheld_loop (n : Nat) (hn : n ≤ 1048577) : ∀ (d i k : Nat), i + d = n → d < k → laws_heldIntS.l0 k (imarks n) (imk i) (i : Int) = some (imk n) := by
  intro d
  induction d with
  | zero =>
    intro i k hi hk
    obtain ⟨k, rfl⟩ : ∃ n, k = n + 1 := ⟨k - 1, by omega⟩
    simp only [laws_heldIntS.l0]
    rw [if_neg (by rw [imarks_len]; omega)]
    have : i = n := by omega
    rw [this]
  | succ d ih =>
    intro i k hi hk
    obtain ⟨k, rfl⟩ : ∃ n, k = n + 1 := ⟨k - 1, by omega⟩
    have hlt : i < (imarks n).length := by rw [imarks_len]; omega
    have e1 : wrap64 (imk i + 1) = imk (i + 1) := by unfold imk; rw [wrap_of (by omega) (by omega)]; omega
    simp only [laws_heldIntS.l0]
    rw [if_pos (by omega), if_pos (by omega), rdi_at _ i hlt, imarks_get n i hlt, if_pos rfl, e1, wrap_nat (by omega)]
    exact ih (i + 1) k (by omega) (by omega)
theorem iheld_ev (n : Nat) (hn : n ≤ 1048577) : Ev (fun k => laws_heldIntS.f k (imarks n) 1) (imk n) :=
  ev_from (n + 1) (fun k hk => iheld_loop n hn n 0 k (by omega) (by omega))
theorem mono_le {α : Type} {g : Nat → Option α} (hm : ∀ k, LeO (g k) (g (k + 1))) {K k : Nat} {r : α} (h : g K = some r) (hk : K ≤ k) : g k = some r := by
  induction k with
  | zero => obtain rfl : K = 0 := by omega
            exact h
  | succ k ih =>
    by_cases e : K = k + 1
    · subst e; exact h
    · exact hm k r (ih (by omega))

/-! ### a text cut at a byte -/
abbrev mkB (l : List UInt8) : ByteArray := ⟨l.toArray⟩
def sp (c : UInt8) : List UInt8 → List (List UInt8)
  | [] => [[]]
  | b :: l => if b = c then [] :: sp c l else match sp c l with
    | [] => [[b]]
    | h :: t => (b :: h) :: t
theorem sp_cons_eq (c : UInt8) (l : List UInt8) : sp c (c :: l) = [] :: sp c l := by rw [sp, if_pos rfl]
theorem sp_plain (c : UInt8) : ∀ w : List UInt8, c ∉ w → sp c w = [w]
  | [], _ => rfl
  | b :: w, h => by
    rw [sp, if_neg (show ¬ b = c from fun e => h (by rw [e]; exact List.mem_cons_self ..)), sp_plain c w (fun e => h (List.mem_cons_of_mem _ e))]
theorem sp_append (c : UInt8) (r : List UInt8) : ∀ w : List UInt8, c ∉ w → sp c (w ++ c :: r) = w :: sp c r
  | [], _ => sp_cons_eq c r
  | b :: w, h => by
    rw [List.cons_append, sp, if_neg (show ¬ b = c from fun e => h (by rw [e]; exact List.mem_cons_self ..)), sp_append c r w (fun e => h (List.mem_cons_of_mem _ e))]
theorem first_or (c : UInt8) (l : List UInt8) : c ∉ l ∨ ∃ w r, c ∉ w ∧ l = w ++ c :: r := by
  induction l with
  | nil => exact Or.inl (by simp)
  | cons b l ih =>
    by_cases e : b = c
    · subst e; exact Or.inr ⟨[], l, by simp, rfl⟩
    · rcases ih with h | ⟨w, r, h, rfl⟩
      · exact Or.inl (fun hm => (List.mem_cons.mp hm).elim (fun h1 => e h1.symm) (fun h1 => h h1))
      · exact Or.inr ⟨b :: w, r, fun hm => (List.mem_cons.mp hm).elim (fun h1 => e h1.symm) (fun h1 => h h1), rfl⟩
theorem sp_join (c : UInt8) : ∀ ws : List (List UInt8), ws ≠ [] → (∀ w ∈ ws, c ∉ w) → sp c (Lib.join ws [c]) = ws
  | [], h, _ => absurd rfl h
  | [w], _, h => by rw [Lib.join_one]; exact sp_plain c w (h w (by simp))
  | w :: x :: r, _, h => by
    have e : Lib.join (w :: x :: r) [c] = w ++ c :: Lib.join (x :: r) [c] := by
      rw [Lib.join_cons, Lib.join_cons, Lib.joinTail, Lib.joinTail]; simp
    rw [e, sp_append c _ w (h w (by simp)), sp_join c (x :: r) (by simp) (fun y hy => h y (List.mem_cons_of_mem _ hy))]
theorem index_none (c : UInt8) : ∀ l : List UInt8, c ∉ l → Lib.index l [c] = -1
  | [], _ => rfl
  | b :: l, h => by
    have hb : ¬ ([c].isPrefixOf (b :: l)) = true := by
      intro e; simp [List.isPrefixOf] at e; exact h (by rw [e]; exact List.mem_cons_self ..)
    rw [Lib.index, if_neg hb, index_none c l (fun e => h (List.mem_cons_of_mem _ e))]; rfl
theorem index_first (c : UInt8) (r : List UInt8) : ∀ w : List UInt8, c ∉ w → Lib.index (w ++ c :: r) [c] = (w.length : Int)
  | [], _ => by simp [Lib.index, List.isPrefixOf]
  | b :: w, h => by
    have hb : ¬ ([c].isPrefixOf (b :: (w ++ c :: r))) = true := by
      intro e; simp [List.isPrefixOf] at e; exact h (by rw [e]; exact List.mem_cons_self ..)
    rw [List.cons_append, Lib.index, if_neg hb, index_first c r w (fun e => h (List.mem_cons_of_mem _ e)), if_neg (by simp; try omega), List.length_cons]; omega
theorem splitK_sp (c : UInt8) : ∀ (n : Nat) (l : List UInt8), l.length ≤ n → Lib.splitK [c] 0 (Lib.count l [c]) l = sp c l := by
  intro n
  induction n with
  | zero =>
    intro l hl
    obtain rfl : l = [] := List.length_eq_zero_iff.mp (by omega)
    rw [Lib.count_miss (index_none c [] (by simp))]; rfl
  | succ n ih =>
    intro l hl
    rcases first_or c l with h | ⟨w, r, h, rfl⟩
    · rw [Lib.count_miss (index_none c l h), sp_plain c l h]; rfl
    · rw [Lib.count_hit (by simp) (index_first c r w h), sp_append c r w h, Nat.add_comm 1, Lib.splitK, index_first c r w h, if_neg (by simp; try omega)]
      have e1 : (w ++ c :: r).take ((w.length : Int).toNat + 0) = w := by simp
      have e2 : (w ++ c :: r).drop ((w.length : Int).toNat + [c].length) = r := by simp
      have e3 : (w ++ c :: r).drop (w.length + [c].length) = r := by simp
      rw [e1, e2, e3, ih r (by simp at hl; omega)]
theorem splitB_sp (c : UInt8) (s : ByteArray) : Lib.splitB (mkB [c]) 0 (Lib.countB s (mkB [c])) s = (sp c s.data.toList).map mkB := by
  have h := Lib.splitB_data (mkB [c]) 0 (Lib.countB s (mkB [c])) s
  have e : (mkB [c]).data.toList = [c] := by simp
  have e2 : Lib.countB s (mkB [c]) = Lib.count s.data.toList [c] := rfl
  rw [e, e2, splitK_sp c _ _ (Nat.le_refl _)] at h
  rw [← h, e2, List.map_map]
  conv => lhs; rw [← List.map_id (Lib.splitB _ _ _ _)]
  exact List.map_congr_left (fun x _ => by simp [Function.comp, mkB])
theorem sp_sizes (c : UInt8) : ∀ (l : List UInt8), (sp c l).length ≤ l.length + 1 ∧ 1 ≤ (sp c l).length ∧ ∀ w ∈ sp c l, w.length ≤ l.length := by
  intro l
  induction l with
  | nil => simp [sp]
  | cons b l ih =>
    rw [sp]
    by_cases e : b = c
    · rw [if_pos e]
      refine ⟨by simp; omega, by simp, fun w hw => ?_⟩
      rcases List.mem_cons.mp hw with rfl | hw
      · simp
      · have := ih.2.2 w hw; simp; omega
    · rw [if_neg e]
      cases hs : sp c l with
      | nil => rw [hs] at ih; simp at ih
      | cons h t =>
        rw [hs] at ih
        refine ⟨by have := ih.1; simp at this ⊢; omega, by simp, fun w hw => ?_⟩
        rcases List.mem_cons.mp hw with rfl | hw
        · have := ih.2.2 h (by simp); simp; omega
        · have := ih.2.2 w (by simp [hw]); simp; omega
theorem split_eq (c : UInt8) (s : ByteArray) (hs : s.size ≤ 1048576) : strings_Split.f s (mkB [c]) = some ((sp c s.data.toList).map mkB) := by
  unfold strings_Split.f
  rw [if_pos (by omega), if_pos (by rw [mk_size]; exact Nat.le_refl _), splitB_sp]
theorem l1Split_loop (s : ByteArray) (c : UInt8) (hs : s.size ≤ 1048576) : ∀ (d i j : Nat) (out : List ByteArray), i + d = s.size → j ≤ i → out.length ≤ i → c ∉ (s.data.toList.take i).drop j → Ev (fun k => spec_l1Split.l0 k s (c.toNat : Int) out (j : Int) (i : Int)) (out ++ (sp c (s.data.toList.drop j)).map mkB) := by
  have hsz := size_len s
  intro d
  induction d with
  | zero =>
    intro i j out hi hj ho hc
    refine ev_succ ?_
    simp only [spec_l1Split.l0]
    refine ev_neg (by omega) (ev_pos (by omega) (ev_pos (by omega) (ev_pos (by omega) (ev_eq fun _ => ?_))))
    rw [List.take_of_length_le (by omega)] at hc
    rw [sp_plain c _ hc, Int.toNat_natCast, of_list (drop_list s j)]
    rfl
  | succ d ih =>
    intro i j out hi hj ho hc
    refine ev_succ ?_
    simp only [spec_l1Split.l0]
    have hlt : i < s.data.toList.length := by omega
    have hd : (s.data.toList.take (i + 1)).drop j = (s.data.toList.take i).drop j ++ [s.data.toList[i]] := by
      rw [List.take_succ_eq_append_getElem hlt, List.drop_append_of_le_length (by rw [List.length_take]; omega)]
    have hl : s.data.toList.drop j = (s.data.toList.take i).drop j ++ s.data.toList[i] :: s.data.toList.drop (i + 1) := by
      conv => lhs; rw [← List.take_append_drop i s.data.toList]
      rw [List.drop_append_of_le_length (by rw [List.length_take]; omega), List.drop_eq_getElem_cons hlt]
    rw [bt_get s i hlt, wrap_nat (by omega)]
    refine ev_pos (by omega) (ev_pos (by omega) ?_)
    by_cases e : s.data.toList[i] = c
    · refine ev_pos (by rw [e]) (ev_pos (by omega) (ev_pos (by omega) (ev_pos (by omega) (ev_pos (by omega) ?_))))
      have h := ih (i + 1) (i + 1) (out ++ [s.extract j i]) (by omega) (by omega) (by simp; omega) (by simp)
      rw [hl, e, sp_append c _ _ hc, List.map_cons]
      rw [Int.toNat_natCast, Int.toNat_natCast]
      have he : s.extract j i = mkB ((s.data.toList.take i).drop j) := of_list (ext_list s j i (by omega))
      rw [List.append_assoc, he] at h
      rw [he]
      exact h
    · refine ev_neg (fun h => e (UInt8.toNat_inj.mp (by omega))) ?_
      refine ih (i + 1) j out (by omega) (by omega) (by omega) ?_
      rw [hd]
      intro hm
      rcases List.mem_append.mp hm with h | h
      · exact hc h
      · exact e (List.mem_singleton.mp h).symm
theorem l1Split_ev (s : ByteArray) (c : UInt8) (hs : s.size ≤ 1048576) : Ev (fun k => spec_l1Split.f k s (c.toNat : Int)) ((sp c s.data.toList).map mkB) := by
  unfold spec_l1Split.f
  have h := l1Split_loop s c hs s.size 0 0 [] (by omega) (by omega) (by simp) (by simp)
  simpa using h
/-! ### numbers read out of texts -/
def dg (v : Nat) : List UInt8 := if v < 10 then [UInt8.ofNat (48 + v)] else [UInt8.ofNat (48 + v / 10), UInt8.ofNat (48 + v % 10)]
theorem dec_dg (v : Nat) (h : v < 100) : Lib.decDigits v = dg v := by
  unfold dg
  by_cases c : v < 10
  · rw [if_pos c, Lib.decDigits_one c]
  · rw [if_neg c, Lib.decDigits.eq_1 v, dif_neg c, Lib.decDigits_one (by omega)]; rfl
theorem chkV : (List.range 12).all (fun v => impl_number.val (mkB (dg v)) == some (v : Int)) = true := by kernel_rfl
theorem chkR : (List.range 12).all (fun v => spec_l1Read.f 8 (mkB (dg v)) == some (v : Int)) = true := by kernel_rfl
theorem chkC : (List.range 12).all (fun v => (dg v).all (fun b => b != 44 && b != 109)) = true := by kernel_rfl
theorem num_dec (v : Int) (h0 : 0 ≤ v) (h : v ≤ 11) : impl_number.f (mkB (Lib.decDigits v.toNat)) 11 = some (v, true) := by
  have hv := List.all_eq_true.mp chkV v.toNat (List.mem_range.mpr (by omega))
  have hv := eq_of_beq hv
  rw [← dec_dg _ (by omega), Int.toNat_of_nonneg h0] at hv
  have hl := nDig_le v.toNat 2 (by omega) (by omega)
  unfold impl_number.f
  rw [if_pos (by rw [mk_size, Lib.decDigits_length]; omega), hv]
  dsimp only
  rw [itoa_small v h0 (by omega), Option.bind_some, if_pos rfl, within_eq, Option.bind_some, if_pos (decide_eq_true ⟨h0, h⟩)]
theorem num_total (s : ByteArray) (hs : s.size ≤ 1048576) : ∃ r, impl_number.f s 11 = some r := by
  unfold impl_number.f
  rw [if_pos (by omega)]
  cases hv : impl_number.val s with
  | none => exact ⟨_, rfl⟩
  | some v =>
    have hb : -9223372036854775808 ≤ v ∧ v ≤ 9223372036854775807 := by
      unfold impl_number.val at hv
      rcases hc : Lib.atoiAll s.data.toList with u | _ | _
      · rw [hc] at hv; injection hv with hv; subst hv; exact Lib.atoiAll_bounds hc
      · rw [hc] at hv; cases hv
      · rw [hc] at hv; cases hv
    dsimp only
    unfold strconv_Itoa.f
    rw [if_pos hb.1, if_pos hb.2, Option.bind_some, within_eq, Option.bind_some]
    by_cases c : (⟨(Lib.itoa v).toArray⟩ : ByteArray).toList = s.toList
    · rw [if_pos c]
      by_cases c2 : decide (0 ≤ v ∧ v ≤ 11) = true
      · rw [if_pos c2]; exact ⟨_, rfl⟩
      · rw [if_neg c2]; exact ⟨_, rfl⟩
    · rw [if_neg c]; exact ⟨_, rfl⟩
theorem rds_at (l : List ByteArray) (i : Nat) (h : i < l.length) : rdOf ByteArray.empty l (i : Int) = l[i] := by
  unfold rdOf
  rw [Int.toNat_natCast, List.getD_eq_getElem?_getD, List.getElem?_eq_getElem h]; rfl
theorem dec_no (v : Int) (h0 : 0 ≤ v) (h : v ≤ 11) : (44 : UInt8) ∉ Lib.decDigits v.toNat ∧ (109 : UInt8) ∉ Lib.decDigits v.toNat := by
  have hv := List.all_eq_true.mp chkC v.toNat (List.mem_range.mpr (by omega))
  rw [← dec_dg _ (by omega), List.all_eq_true] at hv
  refine ⟨fun hm => ?_, fun hm => ?_⟩
  · have := hv _ hm; simp at this
  · have := hv _ hm; simp at this
theorem read_loop (s : ByteArray) (hs : s.size ≤ 1048576) : ∀ (d i : Nat) (n : Int), i + d = s.size → ∃ v, Ev (fun k => spec_l1Read.l0 k s n (i : Int)) v := by
  intro d
  induction d with
  | zero =>
    intro i n h
    refine ⟨n, ev_succ ?_⟩
    simp only [spec_l1Read.l0]
    exact ev_neg (by omega) (ev_eq fun _ => rfl)
  | succ d ih =>
    intro i n h
    by_cases c : bt s (i : Int) < 48
    · refine ⟨-1, ev_succ ?_⟩
      simp only [spec_l1Read.l0]
      exact ev_pos (by omega) (ev_pos (by omega) (ev_pos c (ev_eq fun _ => rfl)))
    by_cases c2 : bt s (i : Int) > 57
    · refine ⟨-1, ev_succ ?_⟩
      simp only [spec_l1Read.l0]
      exact ev_pos (by omega) (ev_pos (by omega) (ev_neg c (ev_pos c2 (ev_eq fun _ => rfl))))
    obtain ⟨v, hv⟩ := ih (i + 1) (wrap64 ((wrap64 (10 * n)) + (((bt s (i : Int)) - 48) % 256))) (by omega)
    refine ⟨v, ev_succ ?_⟩
    simp only [spec_l1Read.l0]
    rw [wrap_nat (by omega)]
    exact ev_pos (by omega) (ev_pos (by omega) (ev_neg c (ev_neg c2 hv)))
theorem readj (s : ByteArray) (hs : s.size ≤ 1048576) (b : Bool) : ∃ v, Ev (fun k => spec_l1Read.j0 k s b) v := by
  cases b with
  | true => exact ⟨-1, ev_succ (by simp only [spec_l1Read.j0]; exact ev_pos trivial (ev_eq fun _ => rfl))⟩
  | false =>
    obtain ⟨v, hv⟩ := read_loop s hs s.size 0 0 (by omega)
    exact ⟨v, ev_succ (by simp only [spec_l1Read.j0]; exact ev_neg (by decide) hv)⟩
theorem read_total (s : ByteArray) (hs : s.size ≤ 1048576) : ∃ v, Ev (fun k => spec_l1Read.f k s) v := by
  unfold spec_l1Read.f
  by_cases h : (1 : Int) ≤ s.size ∧ (s.size : Int) ≤ 6
  · by_cases c : bt s 0 = 48
    · obtain ⟨v, hv⟩ := readj s hs (decide ((s.size : Int) > 1))
      exact ⟨v, ev_bind (l1In_eq _ _ _) (ev_pos (decide_eq_true h) (ev_pos (by omega) (ev_pos c hv)))⟩
    · obtain ⟨v, hv⟩ := readj s hs false
      exact ⟨v, ev_bind (l1In_eq _ _ _) (ev_pos (decide_eq_true h) (ev_pos (by omega) (ev_neg c hv)))⟩
  · obtain ⟨v, hv⟩ := readj s hs true
    exact ⟨v, ev_bind (l1In_eq _ _ _) (ev_neg (by rw [decide_eq_false h]; decide) hv)⟩
theorem read_dec (v : Int) (h0 : 0 ≤ v) (h : v ≤ 11) : Ev (fun k => spec_l1Read.f k (mkB (Lib.decDigits v.toNat))) v := by
  have hv := List.all_eq_true.mp chkR v.toNat (List.mem_range.mpr (by omega))
  have hv := eq_of_beq hv
  rw [← dec_dg _ (by omega), Int.toNat_of_nonneg h0] at hv
  exact ev_from 8 (fun k hk => mono_le (g := fun k => spec_l1Read.f k _) (fun k => spec_l1Read.mono _ k) hv hk)

/-! ### checks and their texts -/
theorem l1Num_int (n : Int) (h0 : 0 ≤ n) (h : n ≤ 9223372036854775807) : Ev (fun k => spec_l1Num.f k n) ⟨(Lib.decDigits n.toNat).toArray⟩ := by
  have h := l1Num_ev n.toNat (by omega)
  rw [Int.toNat_of_nonneg h0] at h
  exact h
theorem m109 : (⟨#[109]⟩ : ByteArray) = ⟨[109].toArray⟩ := rfl
theorem m44 : (⟨#[44]⟩ : ByteArray) = ⟨[44].toArray⟩ := rfl
theorem join_snoc (a : List (List UInt8)) (y s : List UInt8) (h : a ≠ []) : Lib.join (a ++ [y]) s = Lib.join a s ++ s ++ y := by
  cases a with
  | nil => exact absurd rfl h
  | cons x r => rw [List.cons_append, Lib.join_cons, Lib.join_cons, Lib.joinTail, Lib.joinTail, List.map_append, List.flatten_append]; simp
def goodC (l : List Int) (m : Int) : Bool := decide (2 ≤ (l.length : Int) ∧ (l.length : Int) ≤ 12) && (decide (2 ≤ m ∧ m ≤ 11) && l.all (fun x => decide (0 ≤ x ∧ x ≤ m - 1)))
theorem good_parts {l : List Int} {m : Int} (h : goodC l m = true) : (2 ≤ l.length ∧ l.length ≤ 12) ∧ (2 ≤ m ∧ m ≤ 11) ∧ ∀ x ∈ l, 0 ≤ x ∧ x ≤ 11 := by
  unfold goodC at h
  rw [Bool.and_eq_true, Bool.and_eq_true, List.all_eq_true] at h
  have h1 := of_decide_eq_true h.1
  have h2 := of_decide_eq_true h.2.1
  refine ⟨⟨by omega, by omega⟩, h2, fun x hx => ?_⟩
  have := of_decide_eq_true (h.2.2 x hx)
  omega
theorem isCheck_eq (l : List Int) (m : Int) : impl_IsCheck.f l m = some (goodC l m) := by
  unfold impl_IsCheck.f goodC
  by_cases a : 2 ≤ (l.length : Int) ∧ (l.length : Int) ≤ 12
  · rw [if_pos a, decide_eq_true a]
    by_cases b : 2 ≤ m ∧ m ≤ 11
    · rw [if_pos b, decide_eq_true b, Fn.anyO_some (f := fun x => !(decide (0 ≤ x ∧ x ≤ m - 1))) l (fun x _ => rfl), Option.bind_some, Bool.true_and, Bool.true_and, List.all_eq_not_any_not]
    · rw [if_neg b, decide_eq_false b]; rfl
  · rw [if_neg a, decide_eq_false a]; rfl
theorem l1All_loop (l : List Int) (lo hi : Int) (hl : l.length ≤ 1000000) : ∀ (d i : Nat), i + d = l.length → Ev (fun k => spec_l1All.l0 k lo hi l (l.length : Int) (i : Int)) ((l.drop i).all (fun x => decide (lo ≤ x ∧ x ≤ hi))) := by
  intro d
  induction d with
  | zero =>
    intro i h
    refine ev_succ ?_
    simp only [spec_l1All.l0]
    rw [List.drop_eq_nil_of_le (by omega)]
    exact ev_neg (by omega) (ev_eq fun _ => rfl)
  | succ d ih =>
    intro i h
    have hlt : i < l.length := by omega
    refine ev_succ ?_
    simp only [spec_l1All.l0]
    rw [List.drop_eq_getElem_cons hlt, List.all_cons, rdi_at l i hlt, wrap_nat (by omega)]
    refine ev_pos (by omega) (ev_pos (by omega) (ev_pos (by omega) (ev_bind (l1In_eq _ _ _) ?_)))
    by_cases c : lo ≤ l[i] ∧ l[i] ≤ hi
    · rw [decide_eq_true c, Bool.true_and]; exact ev_pos (by trivial) (ih (i + 1) (by omega))
    · rw [decide_eq_false c, Bool.false_and]; exact ev_neg (by decide) (ev_eq fun _ => rfl)
theorem slGood_ev (l : List Int) (m : Int) : Ev (fun k => spec_slGood.f k l m) (goodC l m) := by
  unfold spec_slGood.f goodC
  refine ev_bind (l1In_eq _ _ _) ?_
  by_cases a : 2 ≤ (l.length : Int) ∧ (l.length : Int) ≤ 12
  · rw [decide_eq_true a, Bool.true_and]
    refine ev_pos (by trivial) (ev_bind (l1In_eq _ _ _) ?_)
    by_cases b : 2 ≤ m ∧ m ≤ 11
    · rw [decide_eq_true b, Bool.true_and, wrap_of (by omega) (by omega)]
      exact ev_pos (by trivial) (Ev.bind (l1All_loop l 0 (m - 1) (by omega) l.length 0 (by omega)) (ev_eq fun _ => rfl))
    · rw [decide_eq_false b, Bool.false_and]; exact ev_neg (by decide) (ev_eq fun _ => rfl)
  · rw [decide_eq_false a, Bool.false_and]; exact ev_neg (by decide) (ev_eq fun _ => rfl)
def wd (v : Int) : List UInt8 := Lib.decDigits v.toNat
def wtext (l : List Int) : List UInt8 := Lib.join (l.map wd) [44]
def ctext (l : List Int) (m : Int) : List UInt8 := wtext l ++ 109 :: Lib.decDigits m.toNat
theorem wd_len {x : Int} (h : 0 ≤ x ∧ x ≤ 11) : (wd x).length ≤ 2 := by
  have h0 := nDig_le x.toNat 2 (by omega) (by omega)
  unfold wd
  rw [Lib.decDigits_length]; omega
theorem wtext_len (l : List Int) (hl : ∀ x ∈ l, 0 ≤ x ∧ x ≤ 11) : (wtext l).length ≤ 3 * l.length := by
  cases l with
  | nil => simp [wtext, Lib.join_nil]
  | cons x r =>
    unfold wtext
    rw [List.map_cons, Lib.join_cons, List.length_append]
    have hx := wd_len (hl x (List.mem_cons_self ..))
    have hr : ∀ r : List Int, (∀ x ∈ r, 0 ≤ x ∧ x ≤ 11) → (Lib.joinTail [44] (r.map wd)).length ≤ 3 * r.length := by
      intro r
      induction r with
      | nil => intro _; simp [Lib.joinTail]
      | cons y r ih =>
        intro h
        have h1 := wd_len (h y (List.mem_cons_self ..))
        have h2 := ih (fun z hz => h z (List.mem_cons_of_mem _ hz))
        unfold Lib.joinTail at h2 ⊢
        simp only [List.map_cons, List.flatten_cons, List.length_append, List.length_cons, List.length_nil] at h2 ⊢
        omega
    have := hr r (fun z hz => hl z (List.mem_cons_of_mem _ hz))
    simp only [List.length_cons]
    omega
theorem ctext_len {l : List Int} {m : Int} (h : goodC l m = true) : (ctext l m).length ≤ 39 := by
  obtain ⟨h1, h2, h3⟩ := good_parts h
  have := wtext_len l h3
  have h0 := nDig_le m.toNat 2 (by omega) (by omega)
  unfold ctext
  simp only [List.length_append, List.length_cons, Lib.decDigits_length]
  omega
theorem listed_loop (l : List Int) (hl : ∀ x ∈ l, 0 ≤ x ∧ x ≤ 11) (h12 : l.length ≤ 12) : ∀ (d i : Nat), i + d = l.length → Ev (fun k => impl_listed.l0 k ((l.take i).map fun x => (⟨(wd x).toArray⟩ : ByteArray)) l (l.length : Int) (i : Int)) ⟨(wtext l).toArray⟩ := by
  intro d
  induction d with
  | zero =>
    intro i hi
    refine ev_succ ?_
    simp only [impl_listed.l0]
    rw [List.take_of_length_le (by omega)]
    refine ev_neg (by omega) (ev_bind ?_ (ev_eq fun _ => rfl))
    unfold strings_Join.f
    have e : ((l.map fun x => (⟨(wd x).toArray⟩ : ByteArray)).map fun x => x.data.toList) = l.map wd := by
      rw [List.map_map]; apply List.map_congr_left; intro x _; simp
    have hj : Lib.join (l.map wd) (⟨#[44]⟩ : ByteArray).data.toList = wtext l := rfl
    have hlen := wtext_len l hl
    rw [e, hj, if_pos (by simp; omega), if_pos (by omega)]
  | succ d ih =>
    intro i hi
    refine ev_succ ?_
    simp only [impl_listed.l0]
    have hlt : i < l.length := by omega
    have hb := hl l[i] (List.getElem_mem hlt)
    rw [rdi_at l i hlt, wrap_nat (by omega)]
    have ihh := ih (i + 1) (by omega)
    rw [List.take_succ_eq_append_getElem hlt, List.map_append, List.map_cons, List.map_nil] at ihh
    refine ev_pos (by omega) (ev_pos (by omega) (ev_pos (by omega) (ev_bind (itoa_small _ hb.1 (by omega)) (ev_pos (by simp; omega) ?_))))
    exact ihh
theorem checkText_ev {l : List Int} {m : Int} (h : goodC l m = true) : Ev (fun k => impl_checkText.f k l m) (mkB (ctext l m)) := by
  obtain ⟨h1, h2, h3⟩ := good_parts h
  have hw := wtext_len l h3
  have h0 := nDig_le m.toNat 2 (by omega) (by omega)
  have hl := listed_loop l h3 (by omega) l.length 0 (by omega)
  unfold impl_checkText.f impl_listed.f
  refine Ev.bind hl (ev_pos (by rw [mk_size]; omega) (ev_bind (itoa_small m (by omega) (by omega)) ?_))
  rw [m109]
  refine ev_pos (by rw [mk_append, mk_size, mk_size, Lib.decDigits_length, List.length_append]; simp; omega) (ev_eq fun _ => ?_)
  rw [mk_append, mk_append]
  unfold ctext mkB
  simp
theorem slText_loop (l : List Int) (m : Int) (h : goodC l m = true) : ∀ (d i : Nat), i + d = l.length → Ev (fun k => spec_slText.l0 k ⟨(wtext (l.take i)).toArray⟩ l (l.length : Int) (i : Int) l m) (mkB (ctext l m)) := by
  obtain ⟨h1, h2, h3⟩ := good_parts h
  intro d
  induction d with
  | zero =>
    intro i hi
    refine ev_succ ?_
    simp only [spec_slText.l0]
    rw [List.take_of_length_le (by omega)]
    have hw := wtext_len l h3
    have h0 := nDig_le m.toNat 2 (by omega) (by omega)
    refine ev_neg (by omega) (ev_pos (by rw [mk_size]; omega) (Ev.bind (l1Num_int m (by omega) (by omega)) ?_))
    rw [m109]
    refine ev_pos (by rw [mk_append, mk_size, mk_size, Lib.decDigits_length, List.length_append]; simp; omega) (ev_eq fun _ => ?_)
    rw [mk_append, mk_append]
    unfold ctext mkB
    simp
  | succ d ih =>
    intro i hi
    refine ev_succ ?_
    simp only [spec_slText.l0]
    have hlt : i < l.length := by omega
    have hb := h3 l[i] (List.getElem_mem hlt)
    have hlen := wtext_len (l.take i) (fun x hx => h3 x (List.mem_of_mem_take hx))
    rw [List.length_take] at hlen
    have g0 := nDig_le l[i].toNat 2 (by omega) (by omega)
    rw [rdi_at l i hlt, m44]
    have ihh := ih (i + 1) (by omega)
    rw [List.take_succ_eq_append_getElem hlt] at ihh
    have key : ∀ w, w = wd l[i] → wtext (l.take i ++ [l[i]]) = if i = 0 then w else wtext (l.take i) ++ [44] ++ w := by
      rintro w rfl
      unfold wtext
      rw [List.map_append, List.map_cons, List.map_nil]
      by_cases c : i = 0
      · subst c; rw [if_pos rfl]; simp [Lib.join_one]
      · rw [if_neg c, join_snoc _ _ _ (fun e => by have e := congrArg List.length e; rw [List.length_map, List.length_take, List.length_nil] at e; omega)]
    have kw := key _ rfl
    rw [wrap_nat (by omega)]
    refine ev_pos (by omega) (ev_pos (by omega) (ev_pos (by omega) ?_))
    by_cases c : i = 0
    · subst c
      rw [if_pos rfl] at kw
      refine ev_neg (by omega) (Ev.bind (l1Num_int _ hb.1 (by omega)) ?_)
      have e0 : wtext (List.take 0 l) = [] := rfl
      rw [e0]
      rw [kw] at ihh
      unfold wd at ihh
      refine ev_pos (by rw [mk_size, mk_size, Lib.decDigits_length]; simp; omega) ?_
      simp only [mk_append, List.nil_append]
      exact ihh
    · rw [if_neg c] at kw
      rw [kw] at ihh
      unfold wd at ihh
      refine ev_pos (by omega) (ev_pos (by rw [mk_size]; omega) (Ev.bind (l1Num_int _ hb.1 (by omega)) ?_))
      refine ev_pos (by rw [mk_append, mk_size, mk_size, Lib.decDigits_length, List.length_append]; simp; omega) ?_
      simp only [mk_append]
      exact ihh
theorem slText_ev {l : List Int} {m : Int} (h : goodC l m = true) : Ev (fun k => spec_slText.f k l m) (mkB (ctext l m)) := by
  unfold spec_slText.f
  exact slText_loop l m h l.length 0 (by omega)

/-! ### a check read out of its text -/
theorem cut_none (c : UInt8) (l : List UInt8) (h : c ∉ l) : Lib.cut l [c] = (l, [], false) := by
  unfold Lib.cut
  rw [index_none c l h, if_neg (by decide)]
theorem cut_first (c : UInt8) (w r : List UInt8) (h : c ∉ w) : Lib.cut (w ++ c :: r) [c] = (w, r, true) := by
  unfold Lib.cut
  rw [index_first c r w h, if_pos (by omega)]
  simp
theorem cut_sizes (c : UInt8) (l : List UInt8) : (Lib.cut l [c]).1.length ≤ l.length ∧ (Lib.cut l [c]).2.1.length ≤ l.length := by
  rcases first_or c l with h | ⟨w, r, h, rfl⟩
  · rw [cut_none c l h]; simp
  · rw [cut_first c w r h]; simp; omega
theorem cut_eq (s : ByteArray) (hs : s.size ≤ 1048576) : strings_Cut.f s (⟨#[109]⟩ : ByteArray) = some (mkB (Lib.cut s.data.toList [109]).1, mkB (Lib.cut s.data.toList [109]).2.1, (Lib.cut s.data.toList [109]).2.2) := by
  unfold strings_Cut.f
  rw [if_pos (by omega)]
theorem wtext_sp {l : List Int} {m : Int} (h : goodC l m = true) : sp 44 (wtext l) = l.map wd ∧ (109 : UInt8) ∉ wtext l := by
  obtain ⟨h1, h2, h3⟩ := good_parts h
  have hne : l.map wd ≠ [] := fun e => by have e := congrArg List.length e; rw [List.length_map, List.length_nil] at e; omega
  refine ⟨sp_join 44 _ hne (fun w hw => ?_), ?_⟩
  · obtain ⟨x, hx, rfl⟩ := List.mem_map.mp hw
    exact (dec_no x (h3 x hx).1 (h3 x hx).2).1
  · unfold wtext
    cases l with
    | nil => simp [Lib.join_nil]
    | cons x r =>
      rw [List.map_cons, Lib.join_cons]
      have hr : ∀ r : List Int, (∀ x ∈ r, 0 ≤ x ∧ x ≤ 11) → (109 : UInt8) ∉ Lib.joinTail [44] (r.map wd) := by
        intro r
        induction r with
        | nil => intro _; simp [Lib.joinTail]
        | cons y r ih =>
          intro h hm
          unfold Lib.joinTail at ih hm
          rw [List.map_cons, List.map_cons, List.flatten_cons] at hm
          rcases List.mem_append.mp hm with hm | hm
          · rcases List.mem_append.mp hm with hm | hm
            · exact absurd hm (by decide)
            · exact (dec_no y (h y (List.mem_cons_self ..)).1 (h y (List.mem_cons_self ..)).2).2 hm
          · exact ih (fun z hz => h z (List.mem_cons_of_mem _ hz)) hm
      intro hm
      rcases List.mem_append.mp hm with hm | hm
      · exact (dec_no x (h3 x (List.mem_cons_self ..)).1 (h3 x (List.mem_cons_self ..)).2).2 hm
      · exact hr r (fun z hz => h3 z (List.mem_cons_of_mem _ hz)) hm
def Good (s : ByteArray) : Prop := ∃ l m, goodC l m = true ∧ ctext l m = s.data.toList
theorem il_no (s : ByteArray) (hno : ¬ Good s) (words : List ByteArray) (hw : ∀ w ∈ words, w.size ≤ 1048576) (hl : words.length ≤ 1048577) (M : Int) : ∀ (d i : Nat) (acc : List Int), i + d = words.length → acc.length ≤ i → Ev (fun k => impl_ParseCheck.l0 k s words (words.length : Int) (i : Int) acc M) ([], 0, false) := by
  intro d
  induction d with
  | zero =>
    intro i acc hi ha
    refine ev_succ ?_
    simp only [impl_ParseCheck.l0]
    refine ev_neg (by omega) (ev_bind (isCheck_eq acc M) ?_)
    cases hg : goodC acc M with
    | false => exact ev_neg (by decide) (ev_eq fun _ => rfl)
    | true =>
      refine ev_pos (by trivial) (Ev.bind (checkText_ev hg) (ev_neg ?_ (ev_eq fun _ => rfl)))
      intro h
      rw [Lib.toList_data, Lib.toList_data, list_of] at h
      exact hno ⟨acc, M, hg, h⟩
  | succ d ih =>
    intro i acc hi ha
    have hlt : i < words.length := by omega
    obtain ⟨r, hr⟩ := num_total words[i] (hw words[i] (List.getElem_mem hlt))
    refine ev_succ ?_
    simp only [impl_ParseCheck.l0]
    rw [rds_at words i hlt, wrap_nat (by omega)]
    exact ev_pos (by omega) (ev_pos (by omega) (ev_pos (by omega) (ev_bind hr (ev_pos (by omega) (ih (i + 1) _ (by omega) (by simp; omega))))))
theorem sl_no (s : ByteArray) (hno : ¬ Good s) (words : List ByteArray) (hw : ∀ w ∈ words, w.size ≤ 1048576) (hl : words.length ≤ 1048577) (M : Int) : ∀ (d i : Nat) (acc : List Int), i + d = words.length → acc.length ≤ i → ∃ r : List Int × Int × Bool, r.2.2 = false ∧ Ev (fun k => spec_slParse.l0 k s words (words.length : Int) (i : Int) acc M) r := by
  intro d
  induction d with
  | zero =>
    intro i acc hi ha
    cases hg : goodC acc M with
    | false =>
      refine ⟨(acc, M, false), rfl, ev_succ ?_⟩
      simp only [spec_slParse.l0]
      exact ev_neg (by omega) (Ev.bind (hg ▸ slGood_ev acc M) (ev_neg (by decide) (ev_eq fun _ => rfl)))
    | true =>
      refine ⟨(acc, M, (mkB (ctext acc M)).toList == s.toList), ?_, ev_succ ?_⟩
      · refine beq_eq_false_iff_ne.mpr (fun h => ?_)
        rw [Lib.toList_data, Lib.toList_data, list_of] at h
        exact hno ⟨acc, M, hg, h⟩
      · simp only [spec_slParse.l0]
        exact ev_neg (by omega) (Ev.bind (hg ▸ slGood_ev acc M) (ev_pos rfl (Ev.bind (slText_ev hg) (ev_eq fun _ => rfl))))
  | succ d ih =>
    intro i acc hi ha
    have hlt : i < words.length := by omega
    obtain ⟨v, hv⟩ := read_total words[i] (hw words[i] (List.getElem_mem hlt))
    obtain ⟨r, h0, hr⟩ := ih (i + 1) (acc ++ [v]) (by omega) (by simp; omega)
    refine ⟨r, h0, ev_succ ?_⟩
    simp only [spec_slParse.l0]
    rw [rds_at words i hlt, wrap_nat (by omega)]
    exact ev_pos (by omega) (ev_pos (by omega) (ev_pos (by omega) (Ev.bind hv (ev_pos (by omega) hr))))
theorem il_yes (L : List Int) (M : Int) (h : goodC L M = true) : ∀ (d i : Nat), i + d = L.length → Ev (fun k => impl_ParseCheck.l0 k (mkB (ctext L M)) (L.map fun x => mkB (wd x)) (L.length : Int) (i : Int) (L.take i) M) (L, M, true) := by
  obtain ⟨h1, h2, h3⟩ := good_parts h
  intro d
  induction d with
  | zero =>
    intro i hi
    refine ev_succ ?_
    simp only [impl_ParseCheck.l0]
    rw [List.take_of_length_le (by omega)]
    refine ev_neg (by omega) (ev_bind (isCheck_eq L M) ?_)
    rw [h]
    exact ev_pos (by trivial) (Ev.bind (checkText_ev h) (ev_pos rfl (ev_eq fun _ => rfl)))
  | succ d ih =>
    intro i hi
    have hlt : i < L.length := by omega
    have hx := h3 L[i] (List.getElem_mem hlt)
    have ihh := ih (i + 1) (by omega)
    rw [List.take_succ_eq_append_getElem hlt] at ihh
    refine ev_succ ?_
    simp only [impl_ParseCheck.l0]
    rw [rds_at _ i (by simpa using hlt), List.getElem_map, wrap_nat (by omega)]
    exact ev_pos (by omega) (ev_pos (by omega) (ev_pos (by rw [List.length_map]; omega) (ev_bind (num_dec L[i] hx.1 hx.2) (ev_pos (by rw [List.length_take]; omega) ihh))))
theorem sl_yes (L : List Int) (M : Int) (h : goodC L M = true) : ∀ (d i : Nat), i + d = L.length → Ev (fun k => spec_slParse.l0 k (mkB (ctext L M)) (L.map fun x => mkB (wd x)) (L.length : Int) (i : Int) (L.take i) M) (L, M, true) := by
  obtain ⟨h1, h2, h3⟩ := good_parts h
  intro d
  induction d with
  | zero =>
    intro i hi
    refine ev_succ ?_
    simp only [spec_slParse.l0]
    rw [List.take_of_length_le (by omega)]
    exact ev_neg (by omega) (Ev.bind (h ▸ slGood_ev L M) (ev_pos rfl (Ev.bind (slText_ev h) (ev_eq fun _ => by simp))))
  | succ d ih =>
    intro i hi
    have hlt : i < L.length := by omega
    have hx := h3 L[i] (List.getElem_mem hlt)
    have ihh := ih (i + 1) (by omega)
    rw [List.take_succ_eq_append_getElem hlt] at ihh
    refine ev_succ ?_
    simp only [spec_slParse.l0]
    rw [rds_at _ i (by simpa using hlt), List.getElem_map, wrap_nat (by omega)]
    exact ev_pos (by omega) (ev_pos (by omega) (ev_pos (by rw [List.length_map]; omega) (Ev.bind (read_dec L[i] hx.1 hx.2) (ev_pos (by rw [List.length_take]; omega) ihh))))
theorem impl_no (s : ByteArray) (hs : s.size ≤ 1048576) (hno : ¬ Good s) : Ev (fun k => impl_ParseCheck.f k s) ([], 0, false) := by
  have hc := cut_sizes 109 s.data.toList
  rw [size_len] at hc
  obtain ⟨r, hr⟩ := num_total (mkB (Lib.cut s.data.toList [109]).2.1) (by rw [mk_size]; omega)
  have hsp := split_eq 44 (mkB (Lib.cut s.data.toList [109]).1) (by rw [mk_size]; omega)
  have hz := sp_sizes 44 (mkB (Lib.cut s.data.toList [109]).1).data.toList
  rw [size_len, mk_size] at hz
  unfold impl_ParseCheck.f
  refine ev_bind (cut_eq s hs) (ev_bind hr (ev_bind (show strings_Split.f (mkB (Lib.cut s.data.toList [109]).1) (⟨#[44]⟩ : ByteArray) = _ from hsp) ?_))
  refine il_no s hno _ (fun w hm => ?_) (by rw [List.length_map]; omega) r.1 _ 0 [] (Nat.zero_add _) (by simp)
  obtain ⟨y, hy, rfl⟩ := List.mem_map.mp hm
  rw [mk_size]; have := hz.2.2 y hy; omega
theorem spec_no (s : ByteArray) (hs : s.size ≤ 1048576) (hno : ¬ Good s) : Ev (fun k => spec_ParseCheck.f k s) ([], 0, false) := by
  have key : ∃ r : List Int × Int × Bool, r.2.2 = false ∧ Ev (fun k => spec_slParse.f k s) r := by
    have h1 := l1Split_ev s 109 hs
    have hz := sp_sizes 109 s.data.toList
    rw [size_len] at hz
    generalize hP : (sp 109 s.data.toList).map mkB = P at h1
    have hsz : ∀ q (h : q < P.length), P[q].size ≤ 1048576 := by
      intro q h
      subst hP
      obtain ⟨y, hy, e⟩ := List.mem_map.mp (List.getElem_mem h)
      rw [← e, mk_size]; have := hz.2.2 y hy; omega
    have no : Ev (fun k => spec_slParse.j0 k s P true) ([], 0, false) := by
      refine ev_succ ?_
      simp only [spec_slParse.j0]
      exact ev_pos (by trivial) (ev_eq fun _ => rfl)
    by_cases c : (s.size : Int) > 39
    · refine ⟨([], 0, false), rfl, ?_⟩
      unfold spec_slParse.f
      exact Ev.bind h1 (ev_pos c no)
    by_cases c2 : P.length = 2
    · obtain ⟨v, hv⟩ := read_total P[1] (hsz 1 (by omega))
      have h2 := l1Split_ev P[0] 44 (hsz 0 (by omega))
      have hz2 := sp_sizes 44 P[0].data.toList
      rw [size_len] at hz2
      have := hsz 0 (by omega)
      obtain ⟨r, h0, hr⟩ := sl_no s hno ((sp 44 P[0].data.toList).map mkB) (fun w hm => by
        obtain ⟨y, hy, rfl⟩ := List.mem_map.mp hm
        rw [mk_size]; have := hz2.2.2 y hy; omega) (by rw [List.length_map]; omega) v _ 0 [] (Nat.zero_add _) (by simp)
      refine ⟨r, h0, ?_⟩
      unfold spec_slParse.f
      have e : ((P.length : Int) != 2) = false := by rw [c2]; rfl
      refine Ev.bind h1 (ev_neg c ?_)
      rw [e]
      refine ev_succ ?_
      simp only [spec_slParse.j0]
      rw [show rdOf ByteArray.empty P 1 = P[1] from rds_at P 1 (by omega), show rdOf ByteArray.empty P 0 = P[0] from rds_at P 0 (by omega)]
      exact ev_neg (by decide) (ev_pos (by omega) (Ev.bind hv (ev_pos (by omega) (Ev.bind h2 hr))))
    · refine ⟨([], 0, false), rfl, ?_⟩
      unfold spec_slParse.f
      have e : ((P.length : Int) != 2) = true := bne_iff_ne.mpr (by omega)
      refine Ev.bind h1 (ev_neg c ?_)
      rw [e]
      exact no
  obtain ⟨r, h0, hr⟩ := key
  unfold spec_ParseCheck.f
  exact Ev.bind hr (ev_neg (by rw [h0]; decide) (ev_eq fun _ => rfl))
theorem impl_yes (L : List Int) (M : Int) (h : goodC L M = true) : Ev (fun k => impl_ParseCheck.f k (mkB (ctext L M))) (L, M, true) := by
  obtain ⟨h1, h2, h3⟩ := good_parts h
  have hw := wtext_sp h
  have hl := ctext_len h
  have hwl := wtext_len L h3
  have hcut : strings_Cut.f (mkB (ctext L M)) (⟨#[109]⟩ : ByteArray) = some (mkB (wtext L), mkB (Lib.decDigits M.toNat), true) := by
    rw [cut_eq _ (by rw [mk_size]; omega), list_of]
    unfold ctext
    rw [cut_first 109 _ _ hw.2]
  have hsp : strings_Split.f (mkB (wtext L)) (⟨#[44]⟩ : ByteArray) = some (L.map fun x => mkB (wd x)) := by
    have e := split_eq 44 (mkB (wtext L)) (by rw [mk_size]; omega)
    rw [list_of, hw.1, List.map_map] at e
    exact e
  unfold impl_ParseCheck.f
  refine ev_bind hcut (ev_bind (num_dec M (by omega) (by omega)) (ev_bind hsp ?_))
  have := il_yes L M h L.length 0 (by omega)
  rw [List.length_map]
  exact this
theorem spec_yes (L : List Int) (M : Int) (h : goodC L M = true) : Ev (fun k => spec_ParseCheck.f k (mkB (ctext L M))) (L, M, true) := by
  obtain ⟨h1, h2, h3⟩ := good_parts h
  have hw := wtext_sp h
  have hl := ctext_len h
  have hwl := wtext_len L h3
  have hd := dec_no M (by omega) (by omega)
  have hs1 : Ev (fun k => spec_l1Split.f k (mkB (ctext L M)) 109) [mkB (wtext L), mkB (Lib.decDigits M.toNat)] := by
    have e := l1Split_ev (mkB (ctext L M)) 109 (by rw [mk_size]; omega)
    rw [list_of] at e
    unfold ctext at e
    rw [sp_append 109 _ _ hw.2, sp_plain 109 _ hd.2] at e
    exact e
  have hs2 : Ev (fun k => spec_l1Split.f k (mkB (wtext L)) 44) (L.map fun x => mkB (wd x)) := by
    have e := l1Split_ev (mkB (wtext L)) 44 (by rw [mk_size]; omega)
    rw [list_of, hw.1, List.map_map] at e
    exact e
  have hp : Ev (fun k => spec_slParse.f k (mkB (ctext L M))) (L, M, true) := by
    unfold spec_slParse.f
    refine Ev.bind hs1 (ev_neg (by rw [mk_size]; omega) (ev_succ ?_))
    simp only [spec_slParse.j0]
    refine ev_neg (by simp) (ev_pos (by simp) (Ev.bind (a := M) (read_dec M (by omega) (by omega)) (ev_pos (by simp) (Ev.bind (a := L.map fun x => mkB (wd x)) hs2 ?_))))
    have := sl_yes L M h L.length 0 (by omega)
    rw [List.length_map]
    exact this
  unfold spec_ParseCheck.f
  exact Ev.bind hp (ev_pos rfl (ev_eq fun _ => rfl))
theorem parse_both (s : ByteArray) (hs : s.size ≤ 1048576) : ∃ r : List Int × Int × Bool, r.1.length ≤ 12 ∧ Ev (fun k => spec_ParseCheck.f k s) r ∧ Ev (fun k => impl_ParseCheck.f k s) r := by
  by_cases g : Good s
  · obtain ⟨L, M, h, e⟩ := g
    have hse : s = mkB (ctext L M) := of_list e.symm
    rw [hse]
    exact ⟨(L, M, true), (good_parts h).1.2, spec_yes L M h, impl_yes L M h⟩
  · exact ⟨([], 0, false), by simp, spec_no s hs g, impl_no s hs g⟩
theorem eqCheck_ev (l : List Int) (m : Int) (hl : l.length ≤ 12) : Ev (fun k => laws_eqCheck.f k l m l m) true := by
  unfold laws_eqCheck.f
  exact Ev.bind (eqIntS_ev l (by omega)) (ev_pos rfl (ev_pos rfl (ev_eq fun _ => rfl)))
theorem markCheck_ev (l : List Int) (m : Int) (hl : l.length ≤ 12) : Ev (fun k => laws_markCheck.f k l m 1) (imk l.length, imarks l.length) := by
  unfold laws_markCheck.f
  exact Ev.bind (imark_ev l (by omega)) (ev_eq fun _ => rfl)
theorem heldCheck_ev (n : Nat) (m : Int) (hl : n ≤ 12) : Ev (fun k => laws_heldCheck.f k (imarks n) m 1) (imk n) := by
  unfold laws_heldCheck.f
  exact Ev.bind (iheld_ev n (by omega)) (ev_neg (by unfold imk; omega) (ev_eq fun _ => rfl))

theorem FnExactParseCheck : laws_FnExactParseCheck.Pure := by
  intro s hs
  refine Ev.rounds ?_
  unfold laws_FnExactParseCheck.f
  by_cases h : (s.size : Int) > 1048576
  · exact ev_pos h (ev_eq fun _ => rfl)
  refine ev_neg h ?_
  obtain ⟨⟨L, M, b⟩, hl, h1, h2⟩ := parse_both s (by omega)
  simp only [] at hl
  refine Ev.bind h1 (Ev.bind h2 (Ev.bind (eqCheck_ev L M hl) (ev_pos rfl (ev_neg (by simp) ?_))))
  refine Ev.bind (markCheck_ev L M hl) (Ev.bind (heldCheck_ev L.length M hl) (ev_neg (by unfold imk; omega) (ev_pos rfl ?_)))
  refine Ev.bind h2 (Ev.bind (eqCheck_ev L M hl) (ev_pos rfl (ev_neg (by simp) ?_)))
  exact Ev.bind (heldCheck_ev L.length M hl) (ev_neg (by unfold imk; omega) (ev_pos rfl (ev_eq fun _ => rfl)))

end Go.Proofs.YtiobgaeambfcbaaDoor.Pure
