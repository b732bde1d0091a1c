/- MakePuzzle: program and reference tell the same of every text, number of clues and seed (lists and numbers alone). -/
import Derived.Test.YtjhmocngcnnfdaaDoorPFnExactMakePuzzlex7
namespace Go.Proofs.YtjhmocngcnnfdaaDoor.Pure
open Go.RowKit Go.Proofs.YtjhmocngcnnfdaaDoor.PFnExactMakePuzzle Go.Proofs.YtjhmocngcnnfdaaDoorW.PrintWords Go.Proofs.YtjhmocngcnnfdaaDoorW.PrintLast
set_option linter.unusedVariables false
set_option linter.unusedSimpArgs false

theorem wrap_of {x : Int} (h0 : -9223372036854775808 ≤ x) (h1 : x ≤ 9223372036854775807) : wrap64 x = x := by unfold wrap64; omega
theorem wrap_nat {i : Nat} (h : i < 4611686018427387904) : wrap64 ((i : Int) + 1) = ((i + 1 : Nat) : Int) := by unfold wrap64; omega
theorem ev_eq {α : Type} {g : Nat → Option α} {r : α} (h : ∀ k, g k = some r) : Ev g r := ⟨0, fun k _ => h k⟩
theorem ev_bind {α β : Type} {x : Option α} {f : Nat → α → Option β} {a : α} {r : β} (h : x = some a) (k : Ev (fun n => f n a) r) : Ev (fun n => x.bind (f n)) r := by subst h; exact k
theorem ev_pos {α : Type} {c : Prop} [Decidable c] {g f : Nat → Option α} {r : α} (h : c) (k : Ev g r) : Ev (fun n => if c then g n else f n) r := by simp only [if_pos h]; exact k
theorem ev_neg {α : Type} {c : Prop} [Decidable c] {g f : Nat → Option α} {r : α} (h : ¬ c) (k : Ev f r) : Ev (fun n => if c then g n else f n) r := by simp only [if_neg h]; exact k
theorem ev_from {α : Type} {g : Nat → Option α} {r : α} (K : Nat) (h : ∀ k, K ≤ k → g k = some r) : Ev g r := ⟨K, h⟩
theorem l1In_eq (n lo hi : Int) : spec_l1In.f n lo hi = some (decide (lo ≤ n ∧ n ≤ hi)) := by
  unfold spec_l1In.f
  by_cases h : n ≥ lo
  · rw [if_pos h]; congr 1; simp; intro _; omega
  · rw [if_neg h]; congr 1; simp; intro; omega
theorem within_eq (n lo hi : Int) : impl_within.f n lo hi = some (decide (lo ≤ n ∧ n ≤ hi)) := by
  unfold impl_within.f
  by_cases h : lo ≤ n
  · rw [if_pos h]; congr 1; simp; intro _; omega
  · rw [if_neg h]; congr 1; simp; intro; omega
abbrev C2 := S96
theorem rd_at (l : List C2) (i : Nat) (h : i < l.length) : rd_T96 l (i : Int) = l[i] := by
  unfold rd_T96
  rw [Int.toNat_natCast, List.getD_eq_getElem?_getD, List.getElem?_eq_getElem h]; rfl
theorem eqClue_eq (x y : C2) : laws_eqClue.f x.f0 x.f1 x.f2 y.f0 y.f1 y.f2 = some (decide (x.f0 = y.f0 ∧ x.f1 = y.f1 ∧ x.f2 = y.f2)) := by
  unfold laws_eqClue.f
  by_cases h0 : x.f0 = y.f0 <;> by_cases h1 : x.f1 = y.f1 <;> by_cases h2 : x.f2 = y.f2 <;> simp [h0, h1, h2]
theorem eqClueS_loop (l : List C2) (hl : l.length ≤ 1048577) : ∀ (d i k : Nat), i + d = l.length → d < k → laws_eqClueS.l0 k l l (i : Int) = some true := by
  intro d
  induction d with
  | zero =>
    intro i k hi hk
    obtain ⟨k, rfl⟩ : ∃ n, k = n + 1 := ⟨k - 1, by omega⟩
    simp only [laws_eqClueS.l0]
    rw [if_neg (by omega)]
  | succ d ih =>
    intro i k hi hk
    obtain ⟨k, rfl⟩ : ∃ n, k = n + 1 := ⟨k - 1, by omega⟩
    have hlt : i < l.length := by omega
    simp only [laws_eqClueS.l0]
    rw [if_pos (by omega), if_pos (by omega), if_pos (by omega), eqClue_eq, Option.bind_some, if_pos (by simp), wrap_nat (by omega), ih (i + 1) k (by omega) (by omega)]
theorem eqPuzzle_ev (l : List C2) (hl : l.length ≤ 1048577) : Ev (fun k => laws_eqPuzzle.f k l l) true := by
  refine ev_from (l.length + 1) (fun k hk => ?_)
  unfold laws_eqPuzzle.f laws_eqClueS.f
  rw [if_pos rfl, show (0 : Int) = ((0 : Nat) : Int) from rfl, eqClueS_loop l hl l.length 0 k (by omega) (by omega)]
  rfl

/-! ### values -/
def dg (i : Nat) : ByteArray := ⟨#[UInt8.ofNat (48 + i)]⟩
def pre : Nat → Nat → ByteArray
  | 0, _ => ⟨#[]⟩
  | j + 1, p => pre j (p / 6) ++ dg (p % 6)
def tk (n : Nat) : ByteArray := pre 4 n
theorem ev_of {α : Type} {g : Nat → Option α} (hm : ∀ k, LeO (g k) (g (k + 1))) {K : Nat} {r : α} (h : g K = some r) : Ev g r := by
  refine ev_from K (fun k hk => ?_)
  induction k with
  | zero => obtain rfl : K = 0 := by omega
            exact h
  | succ k ih =>
    by_cases e : K = k + 1
    · subst e; exact h
    · exact hm k r (ih (by omega))
def chkV (k a : Int) (t : ByteArray) : Bool := match spec_pzValue.f 24 k a t, impl_told.f 24 k a t with
  | some x, some y => x == y
  | _, _ => false
def chk (t : ByteArray) : Bool := chkV 0 0 t && chkV 0 1 t && chkV 1 0 t && chkV 1 1 t && chkV 1 2 t && chkV 1 3 t && chkV 2 0 t && chkV 3 0 t && chkV 3 1 t && chkV 3 2 t && chkV 4 0 t
def chkR (a : Nat) : Bool := (List.range 216).all (fun n => chk (tk (216 * a + n)))
set_option maxRecDepth 100000 in
theorem chk0 : chkR 0 = true := by kernel_rfl
set_option maxRecDepth 100000 in
theorem chk1 : chkR 1 = true := by kernel_rfl
set_option maxRecDepth 100000 in
theorem chk2 : chkR 2 = true := by kernel_rfl
set_option maxRecDepth 100000 in
theorem chk3 : chkR 3 = true := by kernel_rfl
set_option maxRecDepth 100000 in
theorem chk4 : chkR 4 = true := by kernel_rfl
set_option maxRecDepth 100000 in
theorem chk5 : chkR 5 = true := by kernel_rfl
theorem chk_all (n : Nat) (h : n < 1296) : chk (tk n) = true := by
  have hR : chkR (n / 216) = true := by
    have : n / 216 = 0 ∨ n / 216 = 1 ∨ n / 216 = 2 ∨ n / 216 = 3 ∨ n / 216 = 4 ∨ n / 216 = 5 := by omega
    rcases this with e | e | e | e | e | e <;> rw [e]
    · exact chk0
    · exact chk1
    · exact chk2
    · exact chk3
    · exact chk4
    · exact chk5
  have := List.all_eq_true.mp hR (n % 216) (List.mem_range.mpr (by omega))
  rwa [show 216 * (n / 216) + n % 216 = n by omega] at this
theorem chkV_of {k a : Int} {t : ByteArray} (h : chkV k a t = true) : ∃ v, spec_pzValue.f 24 k a t = some v ∧ impl_told.f 24 k a t = some v := by
  unfold chkV at h
  split at h
  · rename_i x y h1 h2
    exact ⟨x, h1, by rw [h2, eq_of_beq h]⟩
  · cases h
theorem mono_le {α : Type} {g : Nat → Option α} (hm : ∀ k, LeO (g k) (g (k + 1))) {K k : Nat} {r : α} (h : g K = some r) (hk : K ≤ k) : g k = some r := by
  induction k with
  | zero => obtain rfl : K = 0 := by omega
            exact h
  | succ k ih =>
    by_cases e : K = k + 1
    · subst e; exact h
    · exact hm k r (ih (by omega))

/-! ### hidden tickets -/
def okc (b : UInt8) : Bool := decide (48 ≤ b.toNat ∧ b.toNat ≤ 53)
def dgc (b : UInt8) : Bool := decide (48 ≤ b.toNat ∧ b.toNat ≤ 57)
def hidB (t : ByteArray) : Bool := decide (t.size = 4) && t.data.toList.all okc
theorem bt_get (t : ByteArray) (i : Nat) (h : i < t.data.toList.length) : bt t (i : Int) = ((t.data.toList[i]).toNat : Int) := by
  unfold bt
  rw [dif_pos (by rw [Int.toNat_natCast]; simpa using h)]
  simp only [Int.toNat_natCast]
  rfl
theorem size_len (t : ByteArray) : t.data.toList.length = t.size := by rw [Array.length_toList]; rfl
theorem ev_succ {α : Type} {g : Nat → Option α} {r : α} (h : Ev (fun k => g (k + 1)) r) : Ev g r := by
  obtain ⟨K, hK⟩ := h
  refine ev_from (K + 1) (fun k hk => ?_)
  obtain ⟨k, rfl⟩ : ∃ m, k = m + 1 := ⟨k - 1, by omega⟩
  exact hK k (by omega)
theorem specHid_loop (t : ByteArray) (h4 : t.size = 4) : ∀ (d i : Nat), i + d = 4 → Ev (fun k => spec_pzHidden.l0 k t (i : Int)) ((t.data.toList.drop i).all okc) := by
  intro d
  induction d with
  | zero =>
    intro i hi
    refine ev_succ ?_
    simp only [spec_pzHidden.l0]
    rw [List.drop_eq_nil_of_le (by rw [size_len]; omega)]
    exact ev_neg (by omega) (ev_eq fun _ => rfl)
  | succ d ih =>
    intro i hi
    refine ev_succ ?_
    simp only [spec_pzHidden.l0]
    have hlt : i < t.data.toList.length := by rw [size_len]; omega
    rw [bt_get t i hlt, List.drop_eq_getElem_cons hlt, List.all_cons, wrap_nat (by omega)]
    have hb := (t.data.toList[i]).toNat_lt
    have e1 : wrap64 (wrap64 (((t.data.toList[i]).toNat : Int)) - 48) = ((t.data.toList[i]).toNat : Int) - 48 := by
      rw [wrap_of (x := ((t.data.toList[i]).toNat : Int)) (by omega) (by omega), wrap_of (by omega) (by omega)]
    rw [e1]
    refine ev_pos (by omega) (ev_pos (by omega) (ev_pos (by omega) (ev_bind (l1In_eq _ _ _) ?_)))
    have e2 : decide (0 ≤ ((t.data.toList[i]).toNat : Int) - 48 ∧ ((t.data.toList[i]).toNat : Int) - 48 ≤ 5) = okc (t.data.toList[i]) := by
      unfold okc; congr 1; apply propext; omega
    rw [e2]
    cases okc (t.data.toList[i]) with
    | true => exact ev_pos rfl (ih (i + 1) (by omega))
    | false => exact ev_neg (by decide) (ev_eq fun _ => rfl)
theorem specHidden_ev (t : ByteArray) (_ : t.size ≤ 1048576) : Ev (fun k => spec_pzHidden.f k t) (hidB t) := by
  unfold spec_pzHidden.f hidB
  by_cases h : t.size = 4
  · have := specHid_loop t h 4 0 rfl
    refine ev_pos (by omega) ?_
    simpa [h] using this
  · exact ev_neg (by omega) (ev_eq fun _ => by simp [h])
theorem areDig_loop (t : ByteArray) (hs : t.size ≤ 1048576) : ∀ (d i : Nat), i + d = t.size → Ev (fun k => impl_areDigits.l0 k t 4 4 (t.size : Int) (i : Int)) ((t.data.toList.drop i).all dgc && decide (t.size = 4)) := by
  intro d
  induction d with
  | zero =>
    intro i hi
    refine ev_succ ?_
    simp only [impl_areDigits.l0]
    rw [List.drop_eq_nil_of_le (by rw [size_len]; omega)]
    refine ev_neg (by omega) (ev_bind (within_eq _ _ _) (ev_eq fun _ => ?_))
    congr 1
    simp only [List.all_nil, Bool.true_and]
    congr 1; apply propext; omega
  | succ d ih =>
    intro i hi
    refine ev_succ ?_
    simp only [impl_areDigits.l0]
    have hlt : i < t.data.toList.length := by rw [size_len]; omega
    rw [bt_get t i hlt, List.drop_eq_getElem_cons hlt, List.all_cons, wrap_nat (by omega)]
    refine ev_pos (by omega) (ev_pos (by omega) (ev_pos (by omega) ?_))
    by_cases h1 : ((t.data.toList[i]).toNat : Int) < 48
    · have : dgc (t.data.toList[i]) = false := by unfold dgc; apply decide_eq_false; omega
      rw [this]
      exact ev_pos h1 (ev_eq fun _ => rfl)
    · refine ev_neg h1 ?_
      by_cases h2 : ((t.data.toList[i]).toNat : Int) > 57
      · have : dgc (t.data.toList[i]) = false := by unfold dgc; apply decide_eq_false; omega
        rw [this]
        exact ev_pos h2 (ev_eq fun _ => rfl)
      · have : dgc (t.data.toList[i]) = true := by unfold dgc; apply decide_eq_true; omega
        rw [this, Bool.true_and]
        exact ev_neg h2 (ih (i + 1) (by omega))
theorem contains_ok (b : UInt8) : ([48, 49, 50, 51, 52, 53] : List UInt8).contains b = okc b := by
  unfold okc
  rw [Bool.eq_iff_iff]
  simp only [List.contains_cons, List.contains_nil, Bool.or_false, Bool.or_eq_true, beq_iff_eq, decide_eq_true_eq, ← UInt8.toNat_inj]
  show (b.toNat = 48 ∨ b.toNat = 49 ∨ b.toNat = 50 ∨ b.toNat = 51 ∨ b.toNat = 52 ∨ b.toNat = 53) ↔ _
  omega
theorem loop_ne (bs : ByteArray) : ∀ (n i : Nat) (r : List UInt8), bs.size - i = n → r ≠ [] → ByteArray.toList.loop bs i r ≠ [] := by
  intro n
  induction n with
  | zero =>
    intro i r hi hr
    rw [ByteArray.toList.loop, if_neg (by omega)]
    exact fun e => hr (List.reverse_eq_nil_iff.mp e)
  | succ n ih =>
    intro i r hi hr
    rw [ByteArray.toList.loop, if_pos (by omega)]
    exact ih (i + 1) _ (by omega) (by simp)
theorem empty_list (l : List UInt8) : ((⟨l.toArray⟩ : ByteArray).toList == ([] : List UInt8)) = l.isEmpty := by
  cases l with
  | nil =>
    unfold ByteArray.toList
    rw [ByteArray.toList.loop, if_neg (by show ¬ (0 : Nat) < 0; decide)]
    rfl
  | cons a r =>
    have : (⟨(a :: r).toArray⟩ : ByteArray).toList ≠ [] := by
      unfold ByteArray.toList
      rw [ByteArray.toList.loop, if_pos (by show 0 < (a :: r).length; simp)]
      exact loop_ne _ _ 1 _ rfl (by simp)
    exact beq_eq_false_iff_ne.mpr this
theorem trim_four (a b c d : UInt8) : (Lib.trimS [a, b, c, d] [48, 49, 50, 51, 52, 53]).isEmpty = (okc a && (okc b && (okc c && okc d))) := by
  unfold Lib.trimS Lib.trimLeftS Lib.trimRightS
  simp only [contains_ok]
  cases ha : okc a <;> cases hb : okc b <;> cases hc : okc c <;> cases hd : okc d <;> simp [List.dropWhile, ha, hb, hc, hd]
theorem okc_dgc {b : UInt8} (h : okc b = true) : dgc b = true := by
  unfold okc at h; unfold dgc
  rw [decide_eq_true_eq] at h ⊢
  omega
theorem implHidden_ev (t : ByteArray) (hs : t.size ≤ 1048576) : Ev (fun k => impl_isHidden.f k t) (hidB t) := by
  unfold impl_isHidden.f impl_areDigits.f
  refine Ev.bind (areDig_loop t hs t.size 0 (by omega)) ?_
  rw [List.drop_zero]
  unfold hidB
  by_cases h4 : t.size = 4
  · obtain ⟨⟨l⟩⟩ := t
    have h4' : l.length = 4 := h4
    match l, h4' with
    | [a, b, c, d], _ =>
      have hd : (decide (ByteArray.size ⟨(([a, b, c, d] : List UInt8)).toArray⟩ = 4)) = true := rfl
      rw [hd, Bool.and_true, Bool.true_and]
      have hall : ([a, b, c, d] : List UInt8).all okc = (okc a && (okc b && (okc c && okc d))) := by simp [List.all_cons]
      cases hq : ([a, b, c, d] : List UInt8).all dgc with
      | true =>
        refine ev_pos rfl (ev_bind (a := (⟨(Lib.trimS [a, b, c, d] [48, 49, 50, 51, 52, 53]).toArray⟩ : ByteArray)) ?_ (ev_eq fun _ => ?_))
        · unfold strings_Trim.f
          rw [if_pos (by show (4 : Nat) ≤ _; omega), if_pos (by decide), if_pos (by decide)]
        · rw [empty_list, trim_four]
          exact congrArg some hall.symm
      | false =>
        refine ev_neg (by decide) (ev_eq fun _ => ?_)
        refine congrArg some ?_
        symm
        show ([a, b, c, d] : List UInt8).all okc = false
        rw [← Bool.not_eq_true]
        intro hx
        rw [← Bool.not_eq_true] at hq
        exact hq (List.all_eq_true.mpr fun y hy => okc_dgc (List.all_eq_true.mp hx y hy))
  · simp only [h4, decide_false, Bool.and_false, Bool.false_and]
    exact ev_neg (by decide) (ev_eq fun _ => rfl)
theorem hid_tk (t : ByteArray) (h : hidB t = true) : ∃ n, n < 1296 ∧ t = tk n := by
  unfold hidB at h
  rw [Bool.and_eq_true, decide_eq_true_eq] at h
  obtain ⟨h4, hall⟩ := h
  obtain ⟨⟨l⟩⟩ := t
  have h4' : l.length = 4 := h4
  match l, h4' with
  | [a, b, c, d], _ =>
    have ho : ∀ y ∈ ([a, b, c, d] : List UInt8), 48 ≤ y.toNat ∧ y.toNat ≤ 53 := fun y hy => of_decide_eq_true (List.all_eq_true.mp hall y hy)
    have ha := ho a (by simp)
    have hb := ho b (by simp)
    have hc := ho c (by simp)
    have hd := ho d (by simp)
    refine ⟨216 * (a.toNat - 48) + 36 * (b.toNat - 48) + 6 * (c.toNat - 48) + (d.toNat - 48), by omega, ?_⟩
    generalize hn : 216 * (a.toNat - 48) + 36 * (b.toNat - 48) + 6 * (c.toNat - 48) + (d.toNat - 48) = n
    have e : tk n = ⟨#[UInt8.ofNat (48 + n / 6 / 6 / 6 % 6), UInt8.ofNat (48 + n / 6 / 6 % 6), UInt8.ofNat (48 + n / 6 % 6), UInt8.ofNat (48 + n % 6)]⟩ := rfl
    rw [e, show 48 + n / 6 / 6 / 6 % 6 = a.toNat by omega, show 48 + n / 6 / 6 % 6 = b.toNat by omega, show 48 + n / 6 % 6 = c.toNat by omega, show 48 + n % 6 = d.toNat by omega]
    simp

/-! ### marks -/
def mkC (a : Int) (j : Nat) : C2 := ⟨a + 3 * j, a + 3 * j + 1, a + 3 * j + 2⟩
def marks (a : Int) (n : Nat) : List C2 := (List.range' 0 n).map (mkC a)
theorem marks_len (a : Int) (n : Nat) : (marks a n).length = n := by simp [marks]
theorem marks_get (a : Int) (n i : Nat) (h : i < (marks a n).length) : (marks a n)[i] = mkC a i := by simp [marks]
theorem rd_set (m : List C2) (i : Nat) (u : C2) (h : i < m.length) : rd_T96 (m.set i u) (i : Int) = u := by
  rw [rd_at _ _ (by simpa using h)]; simp
theorem mark_loop (a : Int) (h0 : 0 ≤ a) (ha : a ≤ 1000000000) : ∀ (d i k : Nat) (m : List C2), m.length ≤ 1048577 → i + d = m.length → d < k →
    laws_markClueS.l0 k m (a + 3 * i) (i : Int) = some (a + 3 * m.length, m.take i ++ (List.range' i d).map (mkC a)) := by
  intro d
  induction d with
  | zero =>
    intro i k m hl hi hk
    obtain ⟨k, rfl⟩ : ∃ n, k = n + 1 := ⟨k - 1, by omega⟩
    simp only [laws_markClueS.l0]
    rw [if_neg (by omega)]
    have : i = m.length := by omega
    subst this
    simp
  | succ d ih =>
    intro i k m hl hi hk
    obtain ⟨k, rfl⟩ : ∃ n, k = n + 1 := ⟨k - 1, by omega⟩
    have hlt : i < m.length := by omega
    simp only [laws_markClueS.l0]
    rw [if_pos (by omega), if_pos (by omega)]
    simp only [Option.bind_some, Int.toNat_natCast]
    rw [rd_set m i _ hlt]
    simp only [List.set_set]
    rw [rd_set m i _ hlt]
    simp only []
    have e1 : wrap64 (a + 3 * (i : Int) + 1) = a + 3 * i + 1 := wrap_of (by omega) (by omega)
    have e2 : wrap64 (a + 3 * (i : Int) + 1 + 1) = a + 3 * i + 2 := by rw [wrap_of (by omega) (by omega)]; omega
    have e3 : wrap64 (a + 3 * (i : Int) + 2 + 1) = a + 3 * ((i + 1 : Nat) : Int) := by rw [wrap_of (by omega) (by omega)]; omega
    rw [e1, e2, e3, wrap_nat (by omega), ih (i + 1) k _ (by simpa using hl) (by simp; omega) (by omega)]
    have e4 : (m.set i (⟨a + 3 * i, a + 3 * i + 1, a + 3 * i + 2⟩ : C2)).take (i + 1) = m.take i ++ [mkC a i] := by
      rw [List.take_succ_eq_append_getElem (by simpa using hlt), List.take_set_of_le (Nat.le_refl _)]
      simp [mkC]
    rw [e4]
    simp [List.range'_succ]
theorem mark_ev (m : List C2) (hl : m.length ≤ 1048577) : Ev (fun k => laws_markPuzzle.f k m 1) (1 + 3 * (m.length : Int), marks 1 m.length) := by
  refine ev_from (m.length + 1) (fun k hk => ?_)
  unfold laws_markPuzzle.f laws_markClueS.f
  have := mark_loop 1 (by omega) (by omega) m.length 0 k m hl (by omega) (by omega)
  simp only [Int.natCast_zero, Int.mul_zero, Int.add_zero, List.take_zero, List.nil_append] at this
  have e : ((0 : Nat) : Int) = 0 := rfl
  try rw [e] at this
  try simp only [Int.mul_zero, Int.add_zero] at this
  rw [this]
  rfl
theorem held_loop (a : Int) (h0 : 0 ≤ a) (ha : a ≤ 1000000000) (n : Nat) (hn : n ≤ 1048577) : ∀ (d i k : Nat), i + d = n → d < k →
    laws_heldClueS.l0 k (marks a n) (a + 3 * i) (i : Int) = some (a + 3 * n) := by
  intro d
  induction d with
  | zero =>
    intro i k hi hk
    obtain ⟨k, rfl⟩ : ∃ n, k = n + 1 := ⟨k - 1, by omega⟩
    simp only [laws_heldClueS.l0]
    rw [if_neg (by rw [marks_len]; omega)]
    have : i = n := by omega
    rw [this]
  | succ d ih =>
    intro i k hi hk
    obtain ⟨k, rfl⟩ : ∃ n, k = n + 1 := ⟨k - 1, by omega⟩
    have hlt : i < (marks a n).length := by rw [marks_len]; omega
    have e1 : wrap64 (a + 3 * (i : Int) + 1) = a + 3 * i + 1 := wrap_of (by omega) (by omega)
    have e2 : wrap64 (a + 3 * (i : Int) + 1 + 1) = a + 3 * i + 2 := by rw [wrap_of (by omega) (by omega)]; omega
    have e3 : wrap64 (a + 3 * (i : Int) + 2 + 1) = a + 3 * ((i + 1 : Nat) : Int) := by rw [wrap_of (by omega) (by omega)]; omega
    simp only [laws_heldClueS.l0]
    rw [if_pos (by omega), if_pos (by omega), rd_at _ i hlt, marks_get a n i hlt, e1, e2, e3, wrap_nat (by omega)]
    rw [if_pos (show (mkC a i).f0 = a + 3 * (i : Int) from rfl), if_pos (show (mkC a i).f1 = a + 3 * (i : Int) + 1 from rfl), if_pos (show (mkC a i).f2 = a + 3 * (i : Int) + 2 from rfl)]
    exact ih (i + 1) k (by omega) (by omega)
theorem held_ev (n : Nat) (hn : n ≤ 1048577) : Ev (fun k => laws_heldPuzzle.f k (marks 1 n) 1) (1 + 3 * (n : Int)) := by
  refine ev_from (n + 1) (fun k hk => ?_)
  unfold laws_heldPuzzle.f laws_heldClueS.f
  have := held_loop 1 (by omega) (by omega) n hn n 0 k (by omega) (by omega)
  simp only [Int.natCast_zero, Int.mul_zero, Int.add_zero] at this
  have e : ((0 : Nat) : Int) = 0 := rfl
  try rw [e] at this
  try simp only [Int.mul_zero, Int.add_zero] at this
  rw [this]
  simp only [Option.bind_some]
  rw [if_neg (by omega)]

/-! ### making -/
def nx (z : Int) : Int := (303 * z + 709) % 10007
theorem nx_b (z : Int) : 0 ≤ nx z ∧ nx z ≤ 10006 := by unfold nx; omega
theorem implNx (z : Int) (h0 : 0 ≤ z) (h1 : z ≤ 10006) : impl_MakePuzzle.nx z = nx z := by
  unfold impl_MakePuzzle.nx nx
  rw [wrap_of (x := z * 303) (by omega) (by omega), wrap_of (by omega) (by omega), Int.tmod_eq_emod_of_nonneg (by omega), Int.mul_comm]
theorem specNx (z : Int) (h0 : 0 ≤ z) (h1 : z ≤ 10006) : spec_pzNext.f z = some (nx z) := by
  unfold spec_pzNext.f nx
  rw [wrap_of (x := 303 * z) (by omega) (by omega), wrap_of (by omega) (by omega), Int.tmod_eq_emod_of_nonneg (by omega)]
def mdK (kd : Int) : Int := rd ([2, 4, 1, 3, 1] : List Int) kd
theorem val_all (n : Nat) (hn : n < 1296) (kd y : Int) (h0 : 0 ≤ kd) (h5 : kd < 5) (hy : 0 ≤ y) (k : Nat) (hk : 24 ≤ k) :
    mdK kd ≠ 0 ∧ ∃ v, impl_told.f k kd (y % mdK kd) (tk n) = some v ∧ spec_pzOf.f k kd y (tk n) = some (kd, y % mdK kd, v) := by
  have hc := chk_all n hn
  unfold chk at hc
  simp only [Bool.and_eq_true] at hc
  obtain ⟨⟨⟨⟨⟨⟨⟨⟨⟨⟨a0, a1⟩, b0⟩, b1⟩, b2⟩, b3⟩, c0⟩, d0⟩, d1⟩, d2⟩, e0⟩ := hc
  have up : ∀ {kd a : Int}, chkV kd a (tk n) = true → ∃ v, impl_told.f k kd a (tk n) = some v ∧ spec_pzValue.f k kd a (tk n) = some v := fun h => by
    obtain ⟨v, h1, h2⟩ := chkV_of h
    exact ⟨v, mono_le (fun k => impl_told.mono _ _ _ k) (K := 24) h2 hk, mono_le (fun k => spec_pzValue.mono _ _ _ k) (K := 24) h1 hk⟩
  have hkd : kd = 0 ∨ kd = 1 ∨ kd = 2 ∨ kd = 3 ∨ kd = 4 := by omega
  unfold spec_pzOf.f
  rcases hkd with rfl | rfl | rfl | rfl | rfl
  · have e : mdK 0 = 2 := rfl
    rw [e, Int.tmod_eq_emod_of_nonneg hy]
    refine ⟨by decide, ?_⟩
    have hr : y % 2 = 0 ∨ y % 2 = 1 := by omega
    obtain ⟨v, h1, h2⟩ : ∃ v, impl_told.f k 0 (y % 2) (tk n) = some v ∧ spec_pzValue.f k 0 (y % 2) (tk n) = some v := by
      rcases hr with q | q <;> rw [q]
      · exact up a0
      · exact up a1
    exact ⟨v, h1, by rw [if_pos rfl, h2]; rfl⟩
  · have e : mdK 1 = 4 := rfl
    rw [e, if_neg (by decide), Int.tmod_eq_emod_of_nonneg hy]
    refine ⟨by decide, ?_⟩
    have hr : y % 4 = 0 ∨ y % 4 = 1 ∨ y % 4 = 2 ∨ y % 4 = 3 := by omega
    obtain ⟨v, h1, h2⟩ : ∃ v, impl_told.f k 1 (y % 4) (tk n) = some v ∧ spec_pzValue.f k 1 (y % 4) (tk n) = some v := by
      rcases hr with q | q | q | q <;> rw [q]
      · exact up b0
      · exact up b1
      · exact up b2
      · exact up b3
    exact ⟨v, h1, by rw [if_pos rfl, h2]; rfl⟩
  · have e : mdK 2 = 1 := rfl
    rw [e, if_neg (by decide), if_neg (by decide), if_neg (by decide), Int.emod_one]
    refine ⟨by decide, ?_⟩
    obtain ⟨v, h1, h2⟩ := up c0
    exact ⟨v, h1, by rw [h2]; rfl⟩
  · have e : mdK 3 = 3 := rfl
    rw [e, if_neg (by decide), if_neg (by decide), Int.tmod_eq_emod_of_nonneg hy]
    refine ⟨by decide, ?_⟩
    have hr : y % 3 = 0 ∨ y % 3 = 1 ∨ y % 3 = 2 := by omega
    obtain ⟨v, h1, h2⟩ : ∃ v, impl_told.f k 3 (y % 3) (tk n) = some v ∧ spec_pzValue.f k 3 (y % 3) (tk n) = some v := by
      rcases hr with q | q | q <;> rw [q]
      · exact up d0
      · exact up d1
      · exact up d2
    exact ⟨v, h1, by rw [if_pos rfl, h2]; rfl⟩
  · have e : mdK 4 = 1 := rfl
    rw [e, if_neg (by decide), if_neg (by decide), if_neg (by decide), Int.emod_one]
    refine ⟨by decide, ?_⟩
    obtain ⟨v, h1, h2⟩ := up e0
    exact ⟨v, h1, by rw [h2]; rfl⟩
def valF (n : Nat) (kd y : Int) : Int := (impl_told.f 24 kd (y % mdK kd) (tk n)).getD 0
theorem val_at (n : Nat) (hn : n < 1296) (kd y : Int) (h0 : 0 ≤ kd) (h5 : kd < 5) (hy : 0 ≤ y) (k : Nat) (hk : 24 ≤ k) :
    impl_told.f k kd (y % mdK kd) (tk n) = some (valF n kd y) ∧ spec_pzOf.f k kd y (tk n) = some (kd, y % mdK kd, valF n kd y) := by
  obtain ⟨_, v, h1, _⟩ := val_all n hn kd y h0 h5 hy 24 (Nat.le_refl _)
  obtain ⟨_, v', h1', h2'⟩ := val_all n hn kd y h0 h5 hy k hk
  have e : valF n kd y = v := by unfold valF; rw [h1]; rfl
  have e2 := mono_le (fun k => impl_told.mono _ _ _ k) (K := 24) h1 hk
  rw [h1'] at e2
  rw [e, ← Option.some.inj e2]
  exact ⟨h1', h2'⟩
def mkL (n : Nat) : Nat → Int → List C2 → List C2
  | 0, _, l => l
  | c + 1, z, l => mkL n c (nx (nx z)) (l ++ [⟨nx z % 5, nx (nx z) % mdK (nx z % 5), valF n (nx z % 5) (nx (nx z))⟩])
theorem mkL_len (n : Nat) : ∀ c z l, (mkL n c z l).length = l.length + c
  | 0, _, _ => rfl
  | c + 1, z, l => by rw [mkL, mkL_len n c]; simp; omega
theorem implGo (n : Nat) (hn : n < 1296) (k : Nat) (hk : 24 ≤ k) : ∀ (c : Nat) (z : Int) (l : List C2), 0 ≤ z → z ≤ 10006 → impl_MakePuzzle.go k (tk n) c z l = some (mkL n c z l)
  | 0, _, _, _, _ => rfl
  | c + 1, z, l, h0, h1 => by
    have b1 := nx_b z
    have b2 := nx_b (nx z)
    unfold impl_MakePuzzle.go mkL
    rw [implNx z h0 h1, implNx (nx z) b1.1 b1.2, Int.tmod_eq_emod_of_nonneg b1.1, if_pos (by omega), if_pos (by omega)]
    have hm := val_all n hn (nx z % 5) (nx (nx z)) (by omega) (by omega) b2.1 k hk
    have hv := val_at n hn (nx z % 5) (nx (nx z)) (by omega) (by omega) b2.1 k hk
    rw [if_neg (show ¬ rd ([2, 4, 1, 3, 1] : List Int) (nx z % 5) = 0 from hm.1), Int.tmod_eq_emod_of_nonneg b2.1]
    rw [show rd ([2, 4, 1, 3, 1] : List Int) (nx z % 5) = mdK (nx z % 5) from rfl, hv.1, Option.bind_some]
    exact implGo n hn k hk c _ _ b2.1 b2.2
theorem specGo (n : Nat) (hn : n < 1296) : ∀ (c : Nat) (z : Int) (l : List C2), c + l.length ≤ 6 → 0 ≤ z → z ≤ 10006 → Ev (fun k => spec_MakePuzzle.l0 k (tk n) (c : Int) z l) (mkL n c z l, true)
  | 0, _, _, _, _, _ => by
    refine ev_succ ?_
    simp only [spec_MakePuzzle.l0]
    exact ev_neg (by decide) (ev_eq fun _ => rfl)
  | c + 1, z, l, hl, h0, h1 => by
    have b1 := nx_b z
    have b2 := nx_b (nx z)
    refine ev_succ ?_
    simp only [spec_MakePuzzle.l0]
    refine ev_pos (by omega) (ev_bind (specNx z h0 h1) (ev_bind (specNx _ b1.1 b1.2) ?_))
    rw [Int.tmod_eq_emod_of_nonneg b1.1]
    refine Ev.bind (ev_from 24 (fun k hk => (val_at n hn (nx z % 5) (nx (nx z)) (by omega) (by omega) b2.1 k hk).2)) ?_
    refine ev_pos (by omega) ?_
    rw [show wrap64 (((c + 1 : Nat) : Int) - 1) = (c : Int) by rw [wrap_of (by omega) (by omega)]; omega]
    exact specGo n hn c _ _ (by simp; omega) b2.1 b2.2
theorem make_both (t : ByteArray) (ht : t.size ≤ 1048576) (c z : Int) : ∃ r : List C2 × Bool, r.1.length ≤ 6 ∧ Ev (fun k => spec_MakePuzzle.f k t c z) r ∧ Ev (fun k => impl_MakePuzzle.f k t c z) r := by
  have hd : ∀ b : Bool, (b = true ∧ True) ∨ b = false := fun b => by cases b <;> simp
  cases hh : hidB t with
  | false =>
    refine ⟨([], false), by simp, ?_, ?_⟩
    · unfold spec_MakePuzzle.f
      refine Ev.bind (hh ▸ specHidden_ev t ht) (ev_neg (by decide) (ev_succ ?_))
      simp only [spec_MakePuzzle.j0]
      exact ev_pos trivial (ev_eq fun _ => rfl)
    · unfold impl_MakePuzzle.f
      exact Ev.bind (hh ▸ implHidden_ev t ht) (ev_neg (by decide) (ev_eq fun _ => rfl))
  | true =>
    obtain ⟨n, hn, rfl⟩ := hid_tk t hh
    by_cases hc : 0 ≤ c ∧ c ≤ 6
    · by_cases hz : 0 ≤ z ∧ z ≤ 9999
      · obtain ⟨m, rfl⟩ : ∃ m : Nat, c = (m : Int) := ⟨c.toNat, by omega⟩
        refine ⟨(mkL n m z [], true), by rw [mkL_len]; simp; omega, ?_, ?_⟩
        · unfold spec_MakePuzzle.f
          refine Ev.bind (hh ▸ specHidden_ev _ ht) (ev_pos rfl (ev_bind (l1In_eq _ _ _) (ev_pos (decide_eq_true hc) (ev_bind (l1In_eq _ _ _) (ev_succ ?_)))))
          simp only [spec_MakePuzzle.j0]
          refine ev_neg (by rw [decide_eq_true hz]; decide) ?_
          exact specGo n hn m z [] (by simp; omega) hz.1 (by omega)
        · unfold impl_MakePuzzle.f
          refine Ev.bind (hh ▸ implHidden_ev _ ht) (ev_pos rfl (ev_bind (within_eq _ _ _) (ev_pos (decide_eq_true hc) (ev_bind (within_eq _ _ _) (ev_pos (decide_eq_true hz) (ev_pos hc.2 ?_))))))
          rw [Int.toNat_natCast]
          exact Ev.bind (ev_from 24 (fun k hk => implGo n hn k hk m z [] hz.1 (by omega))) (ev_eq fun _ => rfl)
      · refine ⟨([], false), by simp, ?_, ?_⟩
        · unfold spec_MakePuzzle.f
          refine Ev.bind (hh ▸ specHidden_ev _ ht) (ev_pos rfl (ev_bind (l1In_eq _ _ _) (ev_pos (decide_eq_true hc) (ev_bind (l1In_eq _ _ _) (ev_succ ?_)))))
          simp only [spec_MakePuzzle.j0]
          exact ev_pos (by rw [decide_eq_false hz]; rfl) (ev_eq fun _ => rfl)
        · unfold impl_MakePuzzle.f
          exact Ev.bind (hh ▸ implHidden_ev _ ht) (ev_pos rfl (ev_bind (within_eq _ _ _) (ev_pos (decide_eq_true hc) (ev_bind (within_eq _ _ _) (ev_neg (by rw [decide_eq_false hz]; decide) (ev_eq fun _ => rfl))))))
    · refine ⟨([], false), by simp, ?_, ?_⟩
      · unfold spec_MakePuzzle.f
        refine Ev.bind (hh ▸ specHidden_ev _ ht) (ev_pos rfl (ev_bind (l1In_eq _ _ _) (ev_neg (by rw [decide_eq_false hc]; decide) (ev_succ ?_))))
        simp only [spec_MakePuzzle.j0]
        exact ev_pos trivial (ev_eq fun _ => rfl)
      · unfold impl_MakePuzzle.f
        exact Ev.bind (hh ▸ implHidden_ev _ ht) (ev_pos rfl (ev_bind (within_eq _ _ _) (ev_neg (by rw [decide_eq_false hc]; decide) (ev_eq fun _ => rfl))))

theorem FnExactMakePuzzle : laws_FnExactMakePuzzle.Pure := by
  intro t c z ht _ _
  refine Ev.rounds ?_
  unfold laws_FnExactMakePuzzle.f
  by_cases h : (t.size : Int) > 1048576
  · exact ev_pos h (ev_eq fun _ => rfl)
  refine ev_neg h ?_
  obtain ⟨r, hl, h1, h2⟩ := make_both t (by omega) c z
  refine Ev.bind h1 (Ev.bind h2 (Ev.bind (eqPuzzle_ev _ (by omega)) (ev_pos rfl (ev_neg (by simp) ?_))))
  refine Ev.bind (mark_ev _ (by omega)) (Ev.bind (held_ev _ (by omega)) (ev_neg (by omega) (ev_pos rfl ?_)))
  refine Ev.bind h2 (Ev.bind (eqPuzzle_ev _ (by omega)) (ev_pos rfl (ev_neg (by simp) ?_)))
  exact Ev.bind (held_ev _ (by omega)) (ev_neg (by omega) (ev_pos rfl (ev_eq fun _ => rfl)))

end Go.Proofs.YtjhmocngcnnfdaaDoor.Pure
