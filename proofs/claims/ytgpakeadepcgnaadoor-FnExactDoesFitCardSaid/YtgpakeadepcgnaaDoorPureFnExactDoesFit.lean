/- DoesFit: program and reference tell the same of every clue and text (lists and numbers alone). -/
import Derived.Test.YtgpakeadepcgnaaDoorPFnExactDoesFitx5
namespace Go.Proofs.YtgpakeadepcgnaaDoor.Pure
open Go.RowKit Go.Proofs.YtgpakeadepcgnaaDoor.PFnExactDoesFit Go.Proofs.YtgpakeadepcgnaaDoorW.PrintWords Go.Proofs.YtgpakeadepcgnaaDoorW.PrintLast

theorem wrap_of {x : Int} (h0 : -9223372036854775808 ≤ x) (h1 : x ≤ 9223372036854775807) : wrap64 x = x := by unfold wrap64; omega
theorem wrap_nat {i : Nat} (h : i < 4611686018427387904) : wrap64 ((i : Int) + 1) = ((i + 1 : Nat) : Int) := by unfold wrap64; omega
theorem ev_eq {α : Type} {g : Nat → Option α} {r : α} (h : ∀ k, g k = some r) : Ev g r := ⟨0, fun k _ => h k⟩
theorem ev_bind {α β : Type} {x : Option α} {f : Nat → α → Option β} {a : α} {r : β} (h : x = some a) (k : Ev (fun n => f n a) r) : Ev (fun n => x.bind (f n)) r := by subst h; exact k
theorem ev_pos {α : Type} {c : Prop} [Decidable c] {g f : Nat → Option α} {r : α} (h : c) (k : Ev g r) : Ev (fun n => if c then g n else f n) r := by simp only [if_pos h]; exact k
theorem ev_neg {α : Type} {c : Prop} [Decidable c] {g f : Nat → Option α} {r : α} (h : ¬ c) (k : Ev f r) : Ev (fun n => if c then g n else f n) r := by simp only [if_neg h]; exact k
theorem ev_from {α : Type} {g : Nat → Option α} {r : α} (K : Nat) (h : ∀ k, K ≤ k → g k = some r) : Ev g r := ⟨K, h⟩

/-! ### clues -/
def clueB (k a b : Int) : Bool :=
  decide (0 ≤ b ∧ b ≤ 20 ∧ ((k = 0 ∧ 0 ≤ a ∧ a ≤ 1) ∨ (k = 1 ∧ 0 ≤ a ∧ a ≤ 3) ∨ (k = 2 ∧ a = 0 ∧ b < 2) ∨ (k = 3 ∧ 0 ≤ a ∧ a ≤ 2 ∧ b < 2) ∨ (k = 4 ∧ a = 0) ∨ (k = 5 ∧ a = 0 ∧ 2 ≤ b ∧ b ≤ 9)))
theorem l1In_eq (n lo hi : Int) : spec_l1In.f n lo hi = some (decide (lo ≤ n ∧ n ≤ hi)) := by
  unfold spec_l1In.f
  by_cases h : n ≥ lo
  · rw [if_pos h]; congr 1; simp; intro _; omega
  · rw [if_neg h]; congr 1; simp; intro; omega
theorem within_eq (n lo hi : Int) : impl_within.f n lo hi = some (decide (lo ≤ n ∧ n ≤ hi)) := by
  unfold impl_within.f
  by_cases h : lo ≤ n
  · rw [if_pos h]; congr 1; simp; intro _; omega
  · rw [if_neg h]; congr 1; simp; intro; omega
theorem specClue_eq (k a b : Int) : spec_pzClue.f k a b = some (clueB k a b) := by
  unfold spec_pzClue.f clueB
  simp only [l1In_eq, Option.bind_some]
  by_cases hb : 0 ≤ b ∧ b ≤ 20
  · rw [if_pos (by simpa using hb)]
    by_cases h0 : k = 0
    · subst h0; simp [hb]
    rw [if_neg h0]
    by_cases h1 : k = 1
    · subst h1; simp [hb]
    rw [if_neg h1]
    by_cases h2 : k = 2
    · subst h2; by_cases ha : a = 0 <;> simp [hb, ha]
    rw [if_neg h2]
    by_cases h3 : k = 3
    · subst h3; by_cases ha : 0 ≤ a ∧ a ≤ 2
      · simp [hb, ha]
      · have : ¬ (0 ≤ a ∧ a ≤ 2 ∧ b < 2) := fun h => ha ⟨h.1, h.2.1⟩
        simp [hb, ha, this]
    rw [if_neg h3]
    by_cases h4 : k = 4
    · subst h4; by_cases ha : a = 0 <;> simp [hb, ha]
    rw [if_neg h4]
    by_cases h5 : k = 5
    · subst h5; by_cases ha : a = 0 <;> simp [hb, ha]
    · rw [if_neg h5]; simp [hb, h0, h1, h2, h3, h4, h5]
  · rw [if_neg (by simpa using hb)]
    congr 1
    symm
    apply decide_eq_false
    rintro ⟨x, y, _⟩
    exact hb ⟨x, y⟩
theorem implClue_eq (n : Nat) (k a b : Int) : impl_IsClue.f (n + 1) k a b = some (clueB k a b) := by
  unfold impl_IsClue.f clueB
  simp only [within_eq, Option.bind_some]
  by_cases hk : 0 ≤ k ∧ k ≤ 5
  · rw [if_pos (by simpa using hk), if_pos hk.1, if_pos (by simp; omega)]
    have : k = 0 ∨ k = 1 ∨ k = 2 ∨ k = 3 ∨ k = 4 ∨ k = 5 := by omega
    rcases this with rfl | rfl | rfl | rfl | rfl | rfl
    all_goals
      by_cases ha : 0 ≤ a
      all_goals by_cases hb : 0 ≤ b
      all_goals simp [impl_IsClue.j0, within_eq, rd, ha, hb]
      all_goals try split
      all_goals try (simp; omega)
      all_goals try omega
      all_goals (congr 1; rw [Bool.eq_iff_iff]; simp; omega)
  · rw [if_neg (by simpa using hk)]
    congr 1
    symm
    apply decide_eq_false
    omega
theorem implClue_ev (k a b : Int) : Ev (fun n => impl_IsClue.f n k a b) (clueB k a b) := ⟨1, fun n hn => by obtain ⟨m, rfl⟩ : ∃ m, n = m + 1 := ⟨n - 1, by omega⟩; exact implClue_eq m k a b⟩
structure C2 where
  f0 : Int
  f1 : Int
  f2 : Int
def clueS (x : C2) : Bool := clueB x.f0 x.f1 x.f2

/-! ### solutions -/
def dg (i : Nat) : ByteArray := ⟨#[UInt8.ofNat (48 + i)]⟩
def pre : Nat → Nat → ByteArray
  | 0, _ => ⟨#[]⟩
  | j + 1, p => pre j (p / 6) ++ dg (p % 6)
def tk (n : Nat) : ByteArray := pre 4 n
theorem ev_of {α : Type} {g : Nat → Option α} (hm : ∀ k, LeO (g k) (g (k + 1))) {K : Nat} {r : α} (h : g K = some r) : Ev g r := by
  refine ev_from K (fun k hk => ?_)
  induction k with
  | zero => obtain rfl : K = 0 := by omega
            exact h
  | succ k ih =>
    by_cases e : K = k + 1
    · subst e; exact h
    · exact hm k r (ih (by omega))
def chkV (k a : Int) (t : ByteArray) : Bool := match spec_pzValue.f 24 k a t, impl_told.f 24 k a t with
  | some x, some y => x == y
  | _, _ => false
def chkN (t : ByteArray) : Bool := match spec_tkNumber.f 24 t, impl_numberOf.f 24 t with
  | some x, some y => x == y
  | _, _ => false
def chk (t : ByteArray) : Bool := chkV 0 0 t && chkV 0 1 t && chkV 1 0 t && chkV 1 1 t && chkV 1 2 t && chkV 1 3 t && chkV 2 0 t && chkV 3 0 t && chkV 3 1 t && chkV 3 2 t && chkV 4 0 t && chkN t
def chkR (a : Nat) : Bool := (List.range 216).all (fun n => chk (tk (216 * a + n)))
set_option maxRecDepth 100000 in
theorem chk0 : chkR 0 = true := by kernel_rfl
set_option maxRecDepth 100000 in
theorem chk1 : chkR 1 = true := by kernel_rfl
set_option maxRecDepth 100000 in
theorem chk2 : chkR 2 = true := by kernel_rfl
set_option maxRecDepth 100000 in
theorem chk3 : chkR 3 = true := by kernel_rfl
set_option maxRecDepth 100000 in
theorem chk4 : chkR 4 = true := by kernel_rfl
set_option maxRecDepth 100000 in
theorem chk5 : chkR 5 = true := by kernel_rfl
theorem chk_all (n : Nat) (h : n < 1296) : chk (tk n) = true := by
  have hR : chkR (n / 216) = true := by
    have : n / 216 = 0 ∨ n / 216 = 1 ∨ n / 216 = 2 ∨ n / 216 = 3 ∨ n / 216 = 4 ∨ n / 216 = 5 := by omega
    rcases this with e | e | e | e | e | e <;> rw [e]
    · exact chk0
    · exact chk1
    · exact chk2
    · exact chk3
    · exact chk4
    · exact chk5
  have := List.all_eq_true.mp hR (n % 216) (List.mem_range.mpr (by omega))
  rwa [show 216 * (n / 216) + n % 216 = n by omega] at this
theorem chkV_of {k a : Int} {t : ByteArray} (h : chkV k a t = true) : ∃ v, spec_pzValue.f 24 k a t = some v ∧ impl_told.f 24 k a t = some v := by
  unfold chkV at h
  split at h
  · rename_i x y h1 h2
    exact ⟨x, h1, by rw [h2, eq_of_beq h]⟩
  · cases h
theorem chkN_of {t : ByteArray} (h : chkN t = true) : ∃ v, spec_tkNumber.f 24 t = some v ∧ impl_numberOf.f 24 t = some v := by
  unfold chkN at h
  split at h
  · rename_i x y h1 h2
    exact ⟨x, h1, by rw [h2, eq_of_beq h]⟩
  · cases h
theorem fits_both (x : C2) (hx : clueS x = true) (n : Nat) (hn : n < 1296) : ∃ v, spec_pzFits.f 24 x.f0 x.f1 x.f2 (tk n) = some v ∧ impl_Clue_fits.f 24 x.f0 x.f1 x.f2 (tk n) = some v := by
  have hc := chk_all n hn
  generalize tk n = t at hc
  unfold chk at hc
  simp only [Bool.and_eq_true] at hc
  obtain ⟨⟨⟨⟨⟨⟨⟨⟨⟨⟨⟨h00, h01⟩, h10⟩, h11⟩, h12⟩, h13⟩, h20⟩, h30⟩, h31⟩, h32⟩, h40⟩, hN⟩ := hc
  obtain ⟨k, a, b⟩ := x
  have hx' := of_decide_eq_true (show decide _ = true from hx)
  dsimp only at hx'
  obtain ⟨hb0, hb1, hx'⟩ := hx'
  show ∃ v, spec_pzFits.f 24 k a b t = some v ∧ impl_Clue_fits.f 24 k a b t = some v
  unfold spec_pzFits.f impl_Clue_fits.f
  by_cases h5 : k = 5
  · have hb : b ≠ 0 := by
      rcases hx' with h | h | h | h | h | h <;> omega
    obtain ⟨v, h1, h2⟩ := chkN_of hN
    rw [if_pos h5, if_pos h5, h1, h2]
    simp only [Option.bind_some, if_neg hb]
    exact ⟨_, rfl, rfl⟩
  · have hV : chkV k a t = true := by
      rcases hx' with ⟨rfl, h1, h2⟩ | ⟨rfl, h1, h2⟩ | ⟨rfl, rfl, _⟩ | ⟨rfl, h1, h2, _⟩ | ⟨rfl, rfl⟩ | ⟨h, _⟩
      · have : a = 0 ∨ a = 1 := by omega
        rcases this with rfl | rfl <;> assumption
      · have : a = 0 ∨ a = 1 ∨ a = 2 ∨ a = 3 := by omega
        rcases this with rfl | rfl | rfl | rfl <;> assumption
      · assumption
      · have : a = 0 ∨ a = 1 ∨ a = 2 := by omega
        rcases this with rfl | rfl | rfl <;> assumption
      · assumption
      · exact absurd h h5
    obtain ⟨v, h1, h2⟩ := chkV_of hV
    rw [if_neg h5, if_neg h5, h1, h2]
    exact ⟨_, rfl, rfl⟩
def fitB (x : C2) (n : Nat) : Bool := (spec_pzFits.f 24 x.f0 x.f1 x.f2 (tk n)).getD false
theorem mono_le {α : Type} {g : Nat → Option α} (hm : ∀ k, LeO (g k) (g (k + 1))) {K k : Nat} {r : α} (h : g K = some r) (hk : K ≤ k) : g k = some r := by
  induction k with
  | zero => obtain rfl : K = 0 := by omega
            exact h
  | succ k ih =>
    by_cases e : K = k + 1
    · subst e; exact h
    · exact hm k r (ih (by omega))
theorem specFits_at (x : C2) (hx : clueS x = true) (n : Nat) (hn : n < 1296) (k : Nat) (hk : 24 ≤ k) : spec_pzFits.f k x.f0 x.f1 x.f2 (tk n) = some (fitB x n) := by
  obtain ⟨v, h1, _⟩ := fits_both x hx n hn
  refine mono_le (fun k => spec_pzFits.mono _ _ _ _ k) (K := 24) ?_ hk
  unfold fitB; rw [h1]; rfl
theorem implFits_at (x : C2) (hx : clueS x = true) (n : Nat) (hn : n < 1296) (k : Nat) (hk : 24 ≤ k) : impl_Clue_fits.f k x.f0 x.f1 x.f2 (tk n) = some (fitB x n) := by
  obtain ⟨v, h1, h2⟩ := fits_both x hx n hn
  refine mono_le (fun k => impl_Clue_fits.mono _ _ _ _ k) (K := 24) ?_ hk
  unfold fitB; rw [h1, h2]; rfl

/-! ### hidden tickets -/
def okc (b : UInt8) : Bool := decide (48 ≤ b.toNat ∧ b.toNat ≤ 53)
def dgc (b : UInt8) : Bool := decide (48 ≤ b.toNat ∧ b.toNat ≤ 57)
def hidB (t : ByteArray) : Bool := decide (t.size = 4) && t.data.toList.all okc
theorem bt_get (t : ByteArray) (i : Nat) (h : i < t.data.toList.length) : bt t (i : Int) = ((t.data.toList[i]).toNat : Int) := by
  unfold bt
  rw [dif_pos (by rw [Int.toNat_natCast]; simpa using h)]
  simp only [Int.toNat_natCast]
  rfl
theorem size_len (t : ByteArray) : t.data.toList.length = t.size := by rw [Array.length_toList]; rfl
theorem ev_succ {α : Type} {g : Nat → Option α} {r : α} (h : Ev (fun k => g (k + 1)) r) : Ev g r := by
  obtain ⟨K, hK⟩ := h
  refine ev_from (K + 1) (fun k hk => ?_)
  obtain ⟨k, rfl⟩ : ∃ m, k = m + 1 := ⟨k - 1, by omega⟩
  exact hK k (by omega)
theorem specHid_loop (t : ByteArray) (h4 : t.size = 4) : ∀ (d i : Nat), i + d = 4 → Ev (fun k => spec_pzHidden.l0 k t (i : Int)) ((t.data.toList.drop i).all okc) := by
  intro d
  induction d with
  | zero =>
    intro i hi
    refine ev_succ ?_
    simp only [spec_pzHidden.l0]
    rw [List.drop_eq_nil_of_le (by rw [size_len]; omega)]
    exact ev_neg (by omega) (ev_eq fun _ => rfl)
  | succ d ih =>
    intro i hi
    refine ev_succ ?_
    simp only [spec_pzHidden.l0]
    have hlt : i < t.data.toList.length := by rw [size_len]; omega
    rw [bt_get t i hlt, List.drop_eq_getElem_cons hlt, List.all_cons, wrap_nat (by omega)]
    have hb := (t.data.toList[i]).toNat_lt
    have e1 : wrap64 (wrap64 (((t.data.toList[i]).toNat : Int)) - 48) = ((t.data.toList[i]).toNat : Int) - 48 := by
      rw [wrap_of (x := ((t.data.toList[i]).toNat : Int)) (by omega) (by omega), wrap_of (by omega) (by omega)]
    rw [e1]
    refine ev_pos (by omega) (ev_pos (by omega) (ev_pos (by omega) (ev_bind (l1In_eq _ _ _) ?_)))
    have e2 : decide (0 ≤ ((t.data.toList[i]).toNat : Int) - 48 ∧ ((t.data.toList[i]).toNat : Int) - 48 ≤ 5) = okc (t.data.toList[i]) := by
      unfold okc; congr 1; apply propext; omega
    rw [e2]
    cases okc (t.data.toList[i]) with
    | true => exact ev_pos rfl (ih (i + 1) (by omega))
    | false => exact ev_neg (by decide) (ev_eq fun _ => rfl)
theorem specHidden_ev (t : ByteArray) (_ : t.size ≤ 1048576) : Ev (fun k => spec_pzHidden.f k t) (hidB t) := by
  unfold spec_pzHidden.f hidB
  by_cases h : t.size = 4
  · have := specHid_loop t h 4 0 rfl
    refine ev_pos (by omega) ?_
    simpa [h] using this
  · exact ev_neg (by omega) (ev_eq fun _ => by simp [h])
theorem areDig_loop (t : ByteArray) (hs : t.size ≤ 1048576) : ∀ (d i : Nat), i + d = t.size → Ev (fun k => impl_areDigits.l0 k t 4 4 (t.size : Int) (i : Int)) ((t.data.toList.drop i).all dgc && decide (t.size = 4)) := by
  intro d
  induction d with
  | zero =>
    intro i hi
    refine ev_succ ?_
    simp only [impl_areDigits.l0]
    rw [List.drop_eq_nil_of_le (by rw [size_len]; omega)]
    refine ev_neg (by omega) (ev_bind (within_eq _ _ _) (ev_eq fun _ => ?_))
    congr 1
    simp only [List.all_nil, Bool.true_and]
    congr 1; apply propext; omega
  | succ d ih =>
    intro i hi
    refine ev_succ ?_
    simp only [impl_areDigits.l0]
    have hlt : i < t.data.toList.length := by rw [size_len]; omega
    rw [bt_get t i hlt, List.drop_eq_getElem_cons hlt, List.all_cons, wrap_nat (by omega)]
    refine ev_pos (by omega) (ev_pos (by omega) (ev_pos (by omega) ?_))
    by_cases h1 : ((t.data.toList[i]).toNat : Int) < 48
    · have : dgc (t.data.toList[i]) = false := by unfold dgc; apply decide_eq_false; omega
      rw [this]
      exact ev_pos h1 (ev_eq fun _ => rfl)
    · refine ev_neg h1 ?_
      by_cases h2 : ((t.data.toList[i]).toNat : Int) > 57
      · have : dgc (t.data.toList[i]) = false := by unfold dgc; apply decide_eq_false; omega
        rw [this]
        exact ev_pos h2 (ev_eq fun _ => rfl)
      · have : dgc (t.data.toList[i]) = true := by unfold dgc; apply decide_eq_true; omega
        rw [this, Bool.true_and]
        exact ev_neg h2 (ih (i + 1) (by omega))
theorem contains_ok (b : UInt8) : ([48, 49, 50, 51, 52, 53] : List UInt8).contains b = okc b := by
  unfold okc
  rw [Bool.eq_iff_iff]
  simp only [List.contains_cons, List.contains_nil, Bool.or_false, Bool.or_eq_true, beq_iff_eq, decide_eq_true_eq, ← UInt8.toNat_inj]
  show (b.toNat = 48 ∨ b.toNat = 49 ∨ b.toNat = 50 ∨ b.toNat = 51 ∨ b.toNat = 52 ∨ b.toNat = 53) ↔ _
  omega
theorem loop_ne (bs : ByteArray) : ∀ (n i : Nat) (r : List UInt8), bs.size - i = n → r ≠ [] → ByteArray.toList.loop bs i r ≠ [] := by
  intro n
  induction n with
  | zero =>
    intro i r hi hr
    rw [ByteArray.toList.loop, if_neg (by omega)]
    exact fun e => hr (List.reverse_eq_nil_iff.mp e)
  | succ n ih =>
    intro i r hi hr
    rw [ByteArray.toList.loop, if_pos (by omega)]
    exact ih (i + 1) _ (by omega) (by simp)
theorem empty_list (l : List UInt8) : ((⟨l.toArray⟩ : ByteArray).toList == ([] : List UInt8)) = l.isEmpty := by
  cases l with
  | nil =>
    unfold ByteArray.toList
    rw [ByteArray.toList.loop, if_neg (by show ¬ (0 : Nat) < 0; decide)]
    rfl
  | cons a r =>
    have : (⟨(a :: r).toArray⟩ : ByteArray).toList ≠ [] := by
      unfold ByteArray.toList
      rw [ByteArray.toList.loop, if_pos (by show 0 < (a :: r).length; simp)]
      exact loop_ne _ _ 1 _ rfl (by simp)
    exact beq_eq_false_iff_ne.mpr this
theorem trim_four (a b c d : UInt8) : (Lib.trimS [a, b, c, d] [48, 49, 50, 51, 52, 53]).isEmpty = (okc a && (okc b && (okc c && okc d))) := by
  unfold Lib.trimS Lib.trimLeftS Lib.trimRightS
  simp only [contains_ok]
  cases ha : okc a <;> cases hb : okc b <;> cases hc : okc c <;> cases hd : okc d <;> simp [List.dropWhile, ha, hb, hc, hd]
theorem okc_dgc {b : UInt8} (h : okc b = true) : dgc b = true := by
  unfold okc at h; unfold dgc
  rw [decide_eq_true_eq] at h ⊢
  omega
theorem implHidden_ev (t : ByteArray) (hs : t.size ≤ 1048576) : Ev (fun k => impl_isHidden.f k t) (hidB t) := by
  unfold impl_isHidden.f impl_areDigits.f
  refine Ev.bind (areDig_loop t hs t.size 0 (by omega)) ?_
  rw [List.drop_zero]
  unfold hidB
  by_cases h4 : t.size = 4
  · obtain ⟨⟨l⟩⟩ := t
    have h4' : l.length = 4 := h4
    match l, h4' with
    | [a, b, c, d], _ =>
      have hd : (decide (ByteArray.size ⟨(([a, b, c, d] : List UInt8)).toArray⟩ = 4)) = true := rfl
      rw [hd, Bool.and_true, Bool.true_and]
      have hall : ([a, b, c, d] : List UInt8).all okc = (okc a && (okc b && (okc c && okc d))) := by simp [List.all_cons]
      cases hq : ([a, b, c, d] : List UInt8).all dgc with
      | true =>
        refine ev_pos rfl (ev_bind (a := (⟨(Lib.trimS [a, b, c, d] [48, 49, 50, 51, 52, 53]).toArray⟩ : ByteArray)) ?_ (ev_eq fun _ => ?_))
        · unfold strings_Trim.f
          rw [if_pos (by show (4 : Nat) ≤ _; omega), if_pos (by decide), if_pos (by decide)]
        · rw [empty_list, trim_four]
          exact congrArg some hall.symm
      | false =>
        refine ev_neg (by decide) (ev_eq fun _ => ?_)
        refine congrArg some ?_
        symm
        show ([a, b, c, d] : List UInt8).all okc = false
        rw [← Bool.not_eq_true]
        intro hx
        rw [← Bool.not_eq_true] at hq
        exact hq (List.all_eq_true.mpr fun y hy => okc_dgc (List.all_eq_true.mp hx y hy))
  · simp only [h4, decide_false, Bool.and_false, Bool.false_and]
    exact ev_neg (by decide) (ev_eq fun _ => rfl)
theorem hid_tk (t : ByteArray) (h : hidB t = true) : ∃ n, n < 1296 ∧ t = tk n := by
  unfold hidB at h
  rw [Bool.and_eq_true, decide_eq_true_eq] at h
  obtain ⟨h4, hall⟩ := h
  obtain ⟨⟨l⟩⟩ := t
  have h4' : l.length = 4 := h4
  match l, h4' with
  | [a, b, c, d], _ =>
    have ho : ∀ y ∈ ([a, b, c, d] : List UInt8), 48 ≤ y.toNat ∧ y.toNat ≤ 53 := fun y hy => of_decide_eq_true (List.all_eq_true.mp hall y hy)
    have ha := ho a (by simp)
    have hb := ho b (by simp)
    have hc := ho c (by simp)
    have hd := ho d (by simp)
    refine ⟨216 * (a.toNat - 48) + 36 * (b.toNat - 48) + 6 * (c.toNat - 48) + (d.toNat - 48), by omega, ?_⟩
    generalize hn : 216 * (a.toNat - 48) + 36 * (b.toNat - 48) + 6 * (c.toNat - 48) + (d.toNat - 48) = n
    have e : tk n = ⟨#[UInt8.ofNat (48 + n / 6 / 6 / 6 % 6), UInt8.ofNat (48 + n / 6 / 6 % 6), UInt8.ofNat (48 + n / 6 % 6), UInt8.ofNat (48 + n % 6)]⟩ := rfl
    rw [e, show 48 + n / 6 / 6 / 6 % 6 = a.toNat by omega, show 48 + n / 6 / 6 % 6 = b.toNat by omega, show 48 + n / 6 % 6 = c.toNat by omega, show 48 + n % 6 = d.toNat by omega]
    simp

theorem FnExactDoesFit : ∀ (a0_0 a0_1 a0_2 : Int) (a1 : ByteArray), ((Lit.int .i64 a0_0).wf = true ∧ (Lit.int .i64 a0_1).wf = true ∧ (Lit.int .i64 a0_2).wf = true) → a1.size ≤ 140737488351232 → ∃ k, laws_FnExactDoesFit.f k a0_0 a0_1 a0_2 a1 = some true := by
  intro x y z t _ _
  refine Ev.rounds ?_
  unfold laws_FnExactDoesFit.f
  by_cases h : (t.size : Int) > 1048576
  · exact ev_pos h (ev_eq fun _ => rfl)
  refine ev_neg h ?_
  have hc : ∃ r : Bool × Bool, Ev (fun k => spec_DoesFit.f k x y z t) r ∧ Ev (fun k => impl_DoesFit.f k x y z t) r := by
    cases hh : hidB t with
    | false =>
      refine ⟨(false, false), ?_, ?_⟩
      · unfold spec_DoesFit.f
        exact Ev.bind (hh ▸ specHidden_ev t (by omega)) (ev_neg (by decide) (ev_eq fun _ => rfl))
      · unfold impl_DoesFit.f
        refine Ev.bind (implClue_ev x y z) ?_
        cases clueB x y z with
        | false => exact ev_neg (by decide) (ev_eq fun _ => rfl)
        | true => exact ev_pos rfl (Ev.bind (hh ▸ implHidden_ev t (by omega)) (ev_neg (by decide) (ev_eq fun _ => rfl)))
    | true =>
      cases hb : clueB x y z with
      | false =>
        refine ⟨(false, false), ?_, ?_⟩
        · unfold spec_DoesFit.f
          exact Ev.bind (hh ▸ specHidden_ev t (by omega)) (ev_pos rfl (ev_bind (specClue_eq x y z) (ev_neg (by rw [hb]; decide) (ev_eq fun _ => rfl))))
        · unfold impl_DoesFit.f
          exact Ev.bind (hb ▸ implClue_ev x y z) (ev_neg (by decide) (ev_eq fun _ => rfl))
      | true =>
        obtain ⟨n, hn, rfl⟩ := hid_tk t hh
        refine ⟨(fitB ⟨x, y, z⟩ n, true), ?_, ?_⟩
        · unfold spec_DoesFit.f
          exact Ev.bind (hh ▸ specHidden_ev _ (by omega)) (ev_pos rfl (ev_bind (specClue_eq x y z) (ev_pos hb (Ev.bind (ev_from 24 (fun k hk => specFits_at ⟨x, y, z⟩ hb n hn k hk)) (ev_eq fun _ => rfl)))))
        · unfold impl_DoesFit.f
          exact Ev.bind (hb ▸ implClue_ev x y z) (ev_pos rfl (Ev.bind (hh ▸ implHidden_ev _ (by omega)) (ev_pos rfl (Ev.bind (ev_from 24 (fun k hk => implFits_at ⟨x, y, z⟩ hb n hn k hk)) (ev_eq fun _ => rfl)))))
  obtain ⟨r, h1, h2⟩ := hc
  refine ev_bind rfl (Ev.bind h1 (ev_bind rfl (Ev.bind h2 ?_)))
  exact ev_neg (by simp) (ev_neg (by simp) (ev_eq fun _ => rfl))

end Go.Proofs.YtgpakeadepcgnaaDoor.Pure
