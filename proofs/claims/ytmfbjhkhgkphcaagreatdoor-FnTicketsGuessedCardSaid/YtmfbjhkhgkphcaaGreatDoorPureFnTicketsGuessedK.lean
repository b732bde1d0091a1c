/- TicketsGuessed: puzzles, their solutions, draws, texts and what is told of them; what is looked through ticket by ticket is told by the kernel (numbers, lists and texts alone). -/
import Derived.Test.YtmfbjhkhgkphcaaGreatDoorPFnTicketsGuessedx6
import Derived.Test.YtmfbjhkhgkphcaaGreatDoorPFnTicketsGuessedx10
import Derived.Test.YtmfbjhkhgkphcaaGreatDoorPFnTicketsGuessedx15
import Derived.Test.YtmfbjhkhgkphcaaGreatDoorPFnTicketsGuessedx19
import Derived.KernelRfl
namespace Go.Proofs.YtmfbjhkhgkphcaaGreatDoor.Pure
open Go.RowKit Go.Proofs.YtmfbjhkhgkphcaaGreatDoor.PFnTicketsGuessed Go.Proofs.YtmfbjhkhgkphcaaGreatDoorW.PrintWords Go.Proofs.YtmfbjhkhgkphcaaGreatDoorW.PrintLast
set_option linter.unusedVariables false
set_option linter.unusedSimpArgs false

theorem wrap_of {x : Int} (h0 : -9223372036854775808 ≤ x) (h1 : x ≤ 9223372036854775807) : wrap64 x = x := by unfold wrap64; omega
theorem wrap_nat {i : Nat} (h : i < 4611686018427387904) : wrap64 ((i : Int) + 1) = ((i + 1 : Nat) : Int) := by unfold wrap64; omega
theorem ev_eq {α : Type} {g : Nat → Option α} {r : α} (h : ∀ k, g k = some r) : Ev g r := ⟨0, fun k _ => h k⟩
theorem ev_bind {α β : Type} {x : Option α} {f : Nat → α → Option β} {a : α} {r : β} (h : x = some a) (k : Ev (fun n => f n a) r) : Ev (fun n => x.bind (f n)) r := by subst h; exact k
theorem ev_pos {α : Type} {c : Prop} [Decidable c] {g f : Nat → Option α} {r : α} (h : c) (k : Ev g r) : Ev (fun n => if c then g n else f n) r := by simp only [if_pos h]; exact k
theorem ev_neg {α : Type} {c : Prop} [Decidable c] {g f : Nat → Option α} {r : α} (h : ¬ c) (k : Ev f r) : Ev (fun n => if c then g n else f n) r := by simp only [if_neg h]; exact k
theorem ev_from {α : Type} {g : Nat → Option α} {r : α} (K : Nat) (h : ∀ k, K ≤ k → g k = some r) : Ev g r := ⟨K, h⟩

/-! ### bytes of a text -/
theorem size_len (t : ByteArray) : t.data.toList.length = t.size := by rw [Array.length_toList]; rfl
theorem bt_get (t : ByteArray) (i : Nat) (h : i < t.data.toList.length) : bt t (i : Int) = ((t.data.toList[i]).toNat : Int) := by
  unfold bt
  rw [dif_pos (by rw [Int.toNat_natCast]; simpa using h)]
  simp only [Int.toNat_natCast]
  rfl
theorem ev_succ {α : Type} {g : Nat → Option α} {r : α} (h : Ev (fun k => g (k + 1)) r) : Ev g r := by
  obtain ⟨K, hK⟩ := h
  refine ev_from (K + 1) (fun k hk => ?_)
  obtain ⟨k, rfl⟩ : ∃ m, k = m + 1 := ⟨k - 1, by omega⟩
  exact hK k (by omega)
theorem ext_list (s : ByteArray) (a b : Nat) (hb : b ≤ s.size) : (s.extract a b).data.toList = (s.data.toList.take b).drop a := by
  rw [ByteArray.data_extract, Array.toList_extract, List.extract_eq_take_drop]
  rw [List.drop_take]
theorem take_list (s : ByteArray) (i : Nat) (h : i ≤ s.size) : (s.extract 0 i).data.toList = s.data.toList.take i := by rw [ext_list s 0 i h]; rfl
theorem drop_list (s : ByteArray) (i : Nat) : (s.extract i s.size).data.toList = s.data.toList.drop i := by
  rw [ext_list s i s.size (Nat.le_refl _), List.take_of_length_le (by rw [size_len]; exact Nat.le_refl _)]
theorem mk_data (s : ByteArray) : (⟨s.data.toList.toArray⟩ : ByteArray) = s := by cases s; simp
theorem of_list {s : ByteArray} {l : List UInt8} (h : s.data.toList = l) : s = ⟨l.toArray⟩ := by rw [← h, mk_data]
theorem list_of (l : List UInt8) : (⟨l.toArray⟩ : ByteArray).data.toList = l := by simp
theorem mk_size (l : List UInt8) : (⟨l.toArray⟩ : ByteArray).size = l.length := by rw [← size_len, list_of]
theorem mk_append (a b : List UInt8) : (⟨a.toArray⟩ : ByteArray) ++ ⟨b.toArray⟩ = ⟨(a ++ b).toArray⟩ := by
  apply of_list; rw [ByteArray.data_append, Array.toList_append, list_of, list_of]

/-! ### clues -/
def clueB (k a b : Int) : Bool :=
  decide (0 ≤ b ∧ b ≤ 20 ∧ ((k = 0 ∧ 0 ≤ a ∧ a ≤ 1) ∨ (k = 1 ∧ 0 ≤ a ∧ a ≤ 3) ∨ (k = 2 ∧ a = 0 ∧ b < 2) ∨ (k = 3 ∧ 0 ≤ a ∧ a ≤ 2 ∧ b < 2) ∨ (k = 4 ∧ a = 0) ∨ (k = 5 ∧ a = 0 ∧ 2 ≤ b ∧ b ≤ 9)))
theorem l1In_eq (n lo hi : Int) : spec_l1In.f n lo hi = some (decide (lo ≤ n ∧ n ≤ hi)) := by
  unfold spec_l1In.f
  by_cases h : n ≥ lo
  · rw [if_pos h]; congr 1; simp; intro _; omega
  · rw [if_neg h]; congr 1; simp; intro; omega
theorem within_eq (n lo hi : Int) : impl_within.f n lo hi = some (decide (lo ≤ n ∧ n ≤ hi)) := by
  unfold impl_within.f
  by_cases h : lo ≤ n
  · rw [if_pos h]; congr 1; simp; intro _; omega
  · rw [if_neg h]; congr 1; simp; intro; omega
theorem specClue_eq (k a b : Int) : spec_pzClue.f k a b = some (clueB k a b) := by
  unfold spec_pzClue.f clueB
  simp only [l1In_eq, Option.bind_some]
  by_cases hb : 0 ≤ b ∧ b ≤ 20
  · rw [if_pos (by simpa using hb)]
    by_cases h0 : k = 0
    · subst h0; simp [hb]
    rw [if_neg h0]
    by_cases h1 : k = 1
    · subst h1; simp [hb]
    rw [if_neg h1]
    by_cases h2 : k = 2
    · subst h2; by_cases ha : a = 0 <;> simp [hb, ha]
    rw [if_neg h2]
    by_cases h3 : k = 3
    · subst h3; by_cases ha : 0 ≤ a ∧ a ≤ 2
      · simp [hb, ha]
      · have : ¬ (0 ≤ a ∧ a ≤ 2 ∧ b < 2) := fun h => ha ⟨h.1, h.2.1⟩
        simp [hb, ha, this]
    rw [if_neg h3]
    by_cases h4 : k = 4
    · subst h4; by_cases ha : a = 0 <;> simp [hb, ha]
    rw [if_neg h4]
    by_cases h5 : k = 5
    · subst h5; by_cases ha : a = 0 <;> simp [hb, ha]
    · rw [if_neg h5]; simp [hb, h0, h1, h2, h3, h4, h5]
  · rw [if_neg (by simpa using hb)]
    congr 1
    symm
    apply decide_eq_false
    rintro ⟨x, y, _⟩
    exact hb ⟨x, y⟩
theorem implClue_eq (n : Nat) (k a b : Int) : impl_IsClue.f (n + 1) k a b = some (clueB k a b) := by
  unfold impl_IsClue.f clueB
  simp only [within_eq, Option.bind_some]
  by_cases hk : 0 ≤ k ∧ k ≤ 5
  · rw [if_pos (by simpa using hk), if_pos hk.1, if_pos (by simp; omega)]
    have : k = 0 ∨ k = 1 ∨ k = 2 ∨ k = 3 ∨ k = 4 ∨ k = 5 := by omega
    rcases this with rfl | rfl | rfl | rfl | rfl | rfl
    all_goals
      by_cases ha : 0 ≤ a
      all_goals by_cases hb : 0 ≤ b
      all_goals simp [impl_IsClue.j0, within_eq, rd, ha, hb]
      all_goals try split
      all_goals try (simp; omega)
      all_goals try omega
      all_goals (congr 1; rw [Bool.eq_iff_iff]; simp; omega)
  · rw [if_neg (by simpa using hk)]
    congr 1
    symm
    apply decide_eq_false
    omega
theorem implClue_ev (k a b : Int) : Ev (fun n => impl_IsClue.f n k a b) (clueB k a b) := ⟨1, fun n hn => by obtain ⟨m, rfl⟩ : ∃ m, n = m + 1 := ⟨n - 1, by omega⟩; exact implClue_eq m k a b⟩

/-! ### puzzles -/
abbrev C2 := S46
def clueS (x : C2) : Bool := clueB x.f0 x.f1 x.f2
def goodB (l : List C2) : Bool := decide (l.length ≤ 6) && l.all clueS
theorem rd_at (l : List C2) (i : Nat) (h : i < l.length) : rd_T46 l (i : Int) = l[i] := by
  unfold rd_T46
  rw [Int.toNat_natCast, List.getD_eq_getElem?_getD, List.getElem?_eq_getElem h]; rfl
theorem pzGood_loop (l : List C2) (hl : l.length ≤ 6) : ∀ (d i k : Nat), i + d = l.length → d < k → spec_pzGood.l0 k l (l.length : Int) (i : Int) = some ((l.drop i).all clueS) := by
  intro d
  induction d with
  | zero =>
    intro i k hi hk
    obtain ⟨k, rfl⟩ : ∃ n, k = n + 1 := ⟨k - 1, by omega⟩
    simp only [spec_pzGood.l0]
    rw [if_neg (by omega), List.drop_eq_nil_of_le (by omega)]; rfl
  | succ d ih =>
    intro i k hi hk
    obtain ⟨k, rfl⟩ : ∃ n, k = n + 1 := ⟨k - 1, by omega⟩
    have hlt : i < l.length := by omega
    simp only [spec_pzGood.l0]
    rw [if_pos (by omega), if_pos (by omega), if_pos (by omega), rd_at l i hlt, specClue_eq, Option.bind_some, List.drop_eq_getElem_cons hlt, List.all_cons]
    show (if clueS l[i] = true then _ else _) = _
    cases hc : clueS l[i] with
    | true => rw [if_pos rfl, wrap_nat (by omega), ih (i + 1) k (by omega) (by omega)]; simp
    | false => rw [if_neg (by decide)]; simp
theorem pzGood_ev (l : List C2) : Ev (fun k => spec_pzGood.f k l) (goodB l) := by
  unfold spec_pzGood.f goodB
  by_cases h : l.length ≤ 6
  · refine ev_from (l.length + 1) (fun k hk => ?_)
    rw [if_neg (by omega), show (0 : Int) = ((0 : Nat) : Int) from rfl, pzGood_loop l h l.length 0 k (by omega) (by omega)]
    simp [h]
  · refine ev_from (0) (fun k _ => ?_)
    rw [if_pos (by omega)]; simp [h]
theorem isPuzzle_ev (l : List C2) : Ev (fun k => impl_IsPuzzle.f k l) (goodB l) := by
  refine ev_from (1) (fun k hk => ?_)
  obtain ⟨k, rfl⟩ : ∃ m, k = m + 1 := ⟨k - 1, by omega⟩
  unfold impl_IsPuzzle.f goodB
  by_cases h : l.length ≤ 6
  · rw [if_pos (by omega), Fn.anyO_some (f := fun x => !clueS x) l (fun x _ => by show impl_IsPuzzle_1.f _ _ _ _ = _; unfold impl_IsPuzzle_1.f; rw [implClue_eq]; rfl)]
    simp [h, List.all_eq_not_any_not]
  · rw [if_neg (by omega)]; simp [h]

/-! ### solutions -/
def dg (i : Nat) : ByteArray := ⟨#[UInt8.ofNat (48 + i)]⟩
def pre : Nat → Nat → ByteArray
  | 0, _ => ⟨#[]⟩
  | j + 1, p => pre j (p / 6) ++ dg (p % 6)
def tk (n : Nat) : ByteArray := pre 4 n
theorem ev_of {α : Type} {g : Nat → Option α} (hm : ∀ k, LeO (g k) (g (k + 1))) {K : Nat} {r : α} (h : g K = some r) : Ev g r := by
  refine ev_from K (fun k hk => ?_)
  induction k with
  | zero => obtain rfl : K = 0 := by omega
            exact h
  | succ k ih =>
    by_cases e : K = k + 1
    · subst e; exact h
    · exact hm k r (ih (by omega))
def chkV (k a : Int) (t : ByteArray) : Bool := match spec_pzValue.f 24 k a t, impl_told.f 24 k a t with
  | some x, some y => x == y
  | _, _ => false
def chkN (t : ByteArray) : Bool := match spec_tkNumber.f 24 t, impl_numberOf.f 24 t with
  | some x, some y => x == y
  | _, _ => false
def chk (t : ByteArray) : Bool := chkV 0 0 t && chkV 0 1 t && chkV 1 0 t && chkV 1 1 t && chkV 1 2 t && chkV 1 3 t && chkV 2 0 t && chkV 3 0 t && chkV 3 1 t && chkV 3 2 t && chkV 4 0 t && chkN t
def chkR (a : Nat) : Bool := (List.range 216).all (fun n => chk (tk (216 * a + n)))
set_option maxRecDepth 100000 in
theorem chk0 : chkR 0 = true := by kernel_rfl
set_option maxRecDepth 100000 in
theorem chk1 : chkR 1 = true := by kernel_rfl
set_option maxRecDepth 100000 in
theorem chk2 : chkR 2 = true := by kernel_rfl
set_option maxRecDepth 100000 in
theorem chk3 : chkR 3 = true := by kernel_rfl
set_option maxRecDepth 100000 in
theorem chk4 : chkR 4 = true := by kernel_rfl
set_option maxRecDepth 100000 in
theorem chk5 : chkR 5 = true := by kernel_rfl
theorem chk_all (n : Nat) (h : n < 1296) : chk (tk n) = true := by
  have hR : chkR (n / 216) = true := by
    have : n / 216 = 0 ∨ n / 216 = 1 ∨ n / 216 = 2 ∨ n / 216 = 3 ∨ n / 216 = 4 ∨ n / 216 = 5 := by omega
    rcases this with e | e | e | e | e | e <;> rw [e]
    · exact chk0
    · exact chk1
    · exact chk2
    · exact chk3
    · exact chk4
    · exact chk5
  have := List.all_eq_true.mp hR (n % 216) (List.mem_range.mpr (by omega))
  rwa [show 216 * (n / 216) + n % 216 = n by omega] at this
theorem chkV_of {k a : Int} {t : ByteArray} (h : chkV k a t = true) : ∃ v, spec_pzValue.f 24 k a t = some v ∧ impl_told.f 24 k a t = some v := by
  unfold chkV at h
  split at h
  · rename_i x y h1 h2
    exact ⟨x, h1, by rw [h2, eq_of_beq h]⟩
  · cases h
theorem chkN_of {t : ByteArray} (h : chkN t = true) : ∃ v, spec_tkNumber.f 24 t = some v ∧ impl_numberOf.f 24 t = some v := by
  unfold chkN at h
  split at h
  · rename_i x y h1 h2
    exact ⟨x, h1, by rw [h2, eq_of_beq h]⟩
  · cases h
theorem fits_both (x : C2) (hx : clueS x = true) (n : Nat) (hn : n < 1296) : ∃ v, spec_pzFits.f 24 x.f0 x.f1 x.f2 (tk n) = some v ∧ impl_Clue_fits.f 24 x.f0 x.f1 x.f2 (tk n) = some v := by
  have hc := chk_all n hn
  generalize tk n = t at hc
  unfold chk at hc
  simp only [Bool.and_eq_true] at hc
  obtain ⟨⟨⟨⟨⟨⟨⟨⟨⟨⟨⟨h00, h01⟩, h10⟩, h11⟩, h12⟩, h13⟩, h20⟩, h30⟩, h31⟩, h32⟩, h40⟩, hN⟩ := hc
  obtain ⟨k, a, b⟩ := x
  have hx' := of_decide_eq_true (show decide _ = true from hx)
  dsimp only at hx'
  obtain ⟨hb0, hb1, hx'⟩ := hx'
  show ∃ v, spec_pzFits.f 24 k a b t = some v ∧ impl_Clue_fits.f 24 k a b t = some v
  unfold spec_pzFits.f impl_Clue_fits.f
  by_cases h5 : k = 5
  · have hb : b ≠ 0 := by
      rcases hx' with h | h | h | h | h | h <;> omega
    obtain ⟨v, h1, h2⟩ := chkN_of hN
    rw [if_pos h5, if_pos h5, h1, h2]
    simp only [Option.bind_some, if_neg hb]
    exact ⟨_, rfl, rfl⟩
  · have hV : chkV k a t = true := by
      rcases hx' with ⟨rfl, h1, h2⟩ | ⟨rfl, h1, h2⟩ | ⟨rfl, rfl, _⟩ | ⟨rfl, h1, h2, _⟩ | ⟨rfl, rfl⟩ | ⟨h, _⟩
      · have : a = 0 ∨ a = 1 := by omega
        rcases this with rfl | rfl <;> assumption
      · have : a = 0 ∨ a = 1 ∨ a = 2 ∨ a = 3 := by omega
        rcases this with rfl | rfl | rfl | rfl <;> assumption
      · assumption
      · have : a = 0 ∨ a = 1 ∨ a = 2 := by omega
        rcases this with rfl | rfl | rfl <;> assumption
      · assumption
      · exact absurd h h5
    obtain ⟨v, h1, h2⟩ := chkV_of hV
    rw [if_neg h5, if_neg h5, h1, h2]
    exact ⟨_, rfl, rfl⟩
def fitB (x : C2) (n : Nat) : Bool := (spec_pzFits.f 24 x.f0 x.f1 x.f2 (tk n)).getD false
theorem mono_le {α : Type} {g : Nat → Option α} (hm : ∀ k, LeO (g k) (g (k + 1))) {K k : Nat} {r : α} (h : g K = some r) (hk : K ≤ k) : g k = some r := by
  induction k with
  | zero => obtain rfl : K = 0 := by omega
            exact h
  | succ k ih =>
    by_cases e : K = k + 1
    · subst e; exact h
    · exact hm k r (ih (by omega))
theorem specFits_at (x : C2) (hx : clueS x = true) (n : Nat) (hn : n < 1296) (k : Nat) (hk : 24 ≤ k) : spec_pzFits.f k x.f0 x.f1 x.f2 (tk n) = some (fitB x n) := by
  obtain ⟨v, h1, _⟩ := fits_both x hx n hn
  refine mono_le (fun k => spec_pzFits.mono _ _ _ _ k) (K := 24) ?_ hk
  unfold fitB; rw [h1]; rfl
theorem implFits_at (x : C2) (hx : clueS x = true) (n : Nat) (hn : n < 1296) (k : Nat) (hk : 24 ≤ k) : impl_Clue_fits.f k x.f0 x.f1 x.f2 (tk n) = some (fitB x n) := by
  obtain ⟨v, h1, h2⟩ := fits_both x hx n hn
  refine mono_le (fun k => impl_Clue_fits.mono _ _ _ _ k) (K := 24) ?_ hk
  unfold fitB; rw [h1, h2]; rfl
def okT (l : List C2) (n : Nat) : Bool := l.all (fun x => fitB x n)
def sg (l : List C2) : Nat → Nat → List ByteArray → List ByteArray
  | 0, _, out => out
  | c + 1, n, out => sg l c (n + 1) (if okT l n then out ++ [tk n] else out)
def sol (l : List C2) : List ByteArray := sg l 1296 0 []
theorem sg_add (l : List C2) : ∀ (c1 c2 n : Nat) (out : List ByteArray), sg l (c1 + c2) n out = sg l c2 (n + c1) (sg l c1 n out)
  | 0, c2, n, out => by rw [Nat.zero_add]; rfl
  | c1 + 1, c2, n, out => by
    rw [show c1 + 1 + c2 = (c1 + c2) + 1 by omega]
    show sg l (c1 + c2) (n + 1) _ = sg l c2 (n + (c1 + 1)) (sg l c1 (n + 1) _)
    rw [sg_add l c1 c2 (n + 1), show n + 1 + c1 = n + (c1 + 1) by omega]
theorem sg_len (l : List C2) : ∀ (c n : Nat) (out : List ByteArray), out.length ≤ n → (sg l c n out).length ≤ n + c
  | 0, n, out, h => h
  | c + 1, n, out, h => by
    have hx : (if okT l n = true then out ++ [tk n] else out).length ≤ n + 1 := by
      split
      · rw [List.length_append]; exact Nat.succ_le_succ h
      · exact Nat.le_succ_of_le h
    have := sg_len l c (n + 1) _ hx
    show (sg l c (n + 1) _).length ≤ _
    omega
theorem tick_eq (n : Nat) : impl_solutions.tick 4 (n : Int) ByteArray.empty = tk n := by
  have e : ∀ m : Nat, impl_solutions.digit ((m : Int) % 6) = dg (m % 6) := fun m => by
    unfold dg impl_solutions.digit
    rw [show ((m : Int) % 6).toNat = m % 6 by omega]
  have q : ∀ m : Nat, (m : Int) / 6 = ((m / 6 : Nat) : Int) := fun m => by omega
  have z : (⟨#[]⟩ : ByteArray) = ByteArray.empty := rfl
  simp only [impl_solutions.tick, e, q, tk, pre, z, ByteArray.append_empty, ByteArray.empty_append, ByteArray.append_assoc]
theorem any_bad {l : List C2} {n : Nat} : (l.any fun x => !fitB x n) = !okT l n := by
  unfold okT; rw [List.all_eq_not_any_not]; simp
theorem go_eq (l : List C2) (hl : l.all clueS = true) (k : Nat) (hk : 24 ≤ k) : ∀ (c n : Nat) (out : List ByteArray), c + n = 1296 → impl_solutions.go k l c (n : Int) out = some (sg l c n out)
  | 0, n, out, _ => rfl
  | c + 1, n, out, h => by
    unfold impl_solutions.go
    rw [tick_eq, Fn.anyO_some (f := fun x => !fitB x n) l (fun x hx => by unfold impl_solutions.bad; rw [implFits_at x (List.all_eq_true.mp hl x hx) n (by omega) k hk]; rfl), Option.bind_some, any_bad]
    have := go_eq l hl k hk c (n + 1) (if okT l n then out ++ [tk n] else out) (by omega)
    rw [show ((n : Int) + 1) = ((n + 1 : Nat) : Int) by omega]
    cases ho : okT l n <;> rw [ho] at this <;> simpa [sg, ho] using this
theorem solutions_ev (l : List C2) (hl : l.all clueS = true) : Ev (fun k => impl_solutions.f k l) (sol l) :=
  ev_from 24 (fun k hk => go_eq l hl k hk 1296 0 [] rfl)
theorem leaf_eq (l : List C2) (hl : l.all clueS = true) (k : Nat) (hk : 24 ≤ k) (n : Nat) (hn : n < 1296) (out : List ByteArray) (ho : out.length ≤ n) : spec_pzLook.leaf k l (tk n) out = some (sg l 1 n out) := by
  unfold spec_pzLook.leaf
  rw [if_pos (by omega), Fn.anyO_some (f := fun x => !fitB x n) l (fun x hx => by unfold spec_pzLook.bad; rw [specFits_at x (List.all_eq_true.mp hl x hx) n hn k hk]; rfl), Option.bind_some, any_bad]
  cases h : okT l n <;> simp [sg, h]
theorem num_eq (k : Nat) (hk : 1 ≤ k) (i : Nat) (hi : i < 6) : spec_l1Num.f k (i : Int) = some (dg i) := by
  obtain ⟨k, rfl⟩ : ∃ m, k = m + 1 := ⟨k - 1, by omega⟩
  have : i = 0 ∨ i = 1 ∨ i = 2 ∨ i = 3 ∨ i = 4 ∨ i = 5 := by omega
  rw [spec_l1Num.f, if_pos (by omega)]
  refine congrArg some ?_
  rcases this with rfl | rfl | rfl | rfl | rfl | rfl <;> kernel_rfl
theorem pre_size : ∀ j p, (pre j p).size = j
  | 0, _ => rfl
  | j + 1, p => by rw [pre, ByteArray.size_append, pre_size j]; rfl
theorem look_eq (l : List C2) (hl : l.all clueS = true) (k : Nat) (hk : 24 ≤ k) : ∀ (d j p : Nat) (out : List ByteArray), j + d = 4 → p < 6 ^ j → out.length ≤ p * 6 ^ d → spec_pzLook.f k l d (pre j p) out = some (sg l (6 ^ d) (p * 6 ^ d) out) := by
  intro d
  induction d with
  | zero =>
    intro j p out hj hp ho
    obtain rfl : j = 4 := by omega
    rw [Nat.pow_zero, Nat.mul_one] at *
    exact leaf_eq l hl k hk p (by simpa using hp) out ho
  | succ d ih =>
    intro j p out hj hp ho
    have step : ∀ (c i : Nat) (o : List ByteArray), c + i = 6 → o.length ≤ (6 * p + i) * 6 ^ d → spec_pzLook.dig (spec_pzLook.f k l d) k (pre j p) c (i : Int) o = some (sg l (c * 6 ^ d) ((6 * p + i) * 6 ^ d) o) := by
      intro c
      induction c with
      | zero => intro i o _ _; rw [Nat.zero_mul]; rfl
      | succ c ihc =>
        intro i o hi hlen
        unfold spec_pzLook.dig
        rw [num_eq k (by omega) i (by omega), Option.bind_some, pre_size, if_pos (show j + (dg i).size ≤ 4 by show j + 1 ≤ 4; omega), if_pos (show (dg i).size = 1 from rfl)]
        have hp6 : pre j p ++ dg i = pre (j + 1) (6 * p + i) := by
          rw [pre, show (6 * p + i) / 6 = p by omega, show (6 * p + i) % 6 = i by omega]
        have hlt : 6 * p + i < 6 ^ (j + 1) := by rw [Nat.pow_succ]; omega
        rw [hp6, ih (j + 1) (6 * p + i) o (by omega) hlt hlen, Option.bind_some, show ((i : Int) + 1) = ((i + 1 : Nat) : Int) by omega]
        have hb := sg_len l (6 ^ d) ((6 * p + i) * 6 ^ d) o hlen
        have he : (6 * p + i) * 6 ^ d + 6 ^ d = (6 * p + (i + 1)) * 6 ^ d := by
          rw [← Nat.succ_mul]; congr 1
        rw [ihc (i + 1) _ (by omega) (by rw [← he]; exact hb), show (c + 1) * 6 ^ d = 6 ^ d + c * 6 ^ d by rw [Nat.succ_mul, Nat.add_comm], sg_add, he]
    have h6 : p * 6 ^ (d + 1) = (6 * p + 0) * 6 ^ d := by rw [Nat.pow_succ, Nat.add_zero, Nat.mul_comm (6 ^ d) 6, ← Nat.mul_assoc, Nat.mul_comm p 6]
    have := step 6 0 out rfl (by rw [← h6]; exact ho)
    rw [h6, Nat.pow_succ, Nat.mul_comm (6 ^ d) 6]
    exact this
theorem pzAll_ev (l : List C2) (hl : l.all clueS = true) : Ev (fun k => spec_pzAll.f k l) (sol l) := by
  refine ev_from 24 (fun k hk => ?_)
  have := look_eq l hl k hk 4 0 0 [] rfl (by decide) (by simp)
  exact this
attribute [irreducible] sol
theorem all_good {l : List C2} (h : goodB l = true) : l.all clueS = true := by unfold goodB at h; simp only [Bool.and_eq_true] at h; exact h.2
theorem pzGood_yes {l : List C2} (h : goodB l = true) : Ev (fun k => spec_pzGood.f k l) true := h ▸ pzGood_ev l
theorem pzGood_no {l : List C2} (h : goodB l = false) : Ev (fun k => spec_pzGood.f k l) false := h ▸ pzGood_ev l
theorem isPuzzle_yes {l : List C2} (h : goodB l = true) : Ev (fun k => impl_IsPuzzle.f k l) true := h ▸ isPuzzle_ev l
theorem isPuzzle_no {l : List C2} (h : goodB l = false) : Ev (fun k => impl_IsPuzzle.f k l) false := h ▸ isPuzzle_ev l
theorem Solutions_yes {l : List C2} (h : goodB l = true) : Ev (fun k => impl_Solutions.f k l) (sol l, true) := by
  unfold impl_Solutions.f
  exact Ev.bind (isPuzzle_yes h) (ev_pos rfl (Ev.bind (solutions_ev l (all_good h)) (ev_eq fun _ => rfl)))
theorem Solutions_no {l : List C2} (h : goodB l = false) : Ev (fun k => impl_Solutions.f k l) ([], false) := by
  unfold impl_Solutions.f
  exact Ev.bind (isPuzzle_no h) (ev_neg (by decide) (ev_eq fun _ => rfl))

/-! ### without one -/
theorem goodB_len {l : List C2} (h : goodB l = true) : l.length ≤ 6 := by
  unfold goodB at h
  simp only [Bool.and_eq_true, decide_eq_true_eq] at h
  exact h.1
theorem pzWithout_eq (l : List C2) (k : Nat) (hk : k < l.length) (hl : l.length ≤ 1048577) : spec_pzWithout.f l (k : Int) = some (l.eraseIdx k) := by
  unfold spec_pzWithout.f
  obtain ⟨N, hN, hN'⟩ : ∃ N : Nat, N = 5864062014805 ∧ 2000000 ≤ N := ⟨_, rfl, by omega⟩
  rw [← hN, Option.bind_some, if_pos (by omega), if_pos (by omega), Option.bind_some, Int.toNat_natCast]
  rw [if_pos (by rw [List.length_take]; simp only [List.length_nil]; omega), Option.bind_some, wrap_nat (by omega)]
  rw [if_pos (by omega), if_pos (by omega), Option.bind_some, Int.toNat_natCast, if_pos (by simp only [List.length_append, List.length_take, List.length_drop, List.length_nil]; omega)]
  rw [List.nil_append, List.eraseIdx_eq_take_drop_succ]
theorem dropped_eq (l : List C2) (k : Nat) (hk : k < l.length) (hl : l.length ≤ 1048577) : impl_dropped.f l (k : Int) = some (l.eraseIdx k) := by
  unfold impl_dropped.f
  rw [if_pos (by omega), if_pos (by omega), if_pos (by omega), Int.toNat_natCast]
theorem all_erase {c : List C2} (h : c.all clueS = true) (i : Nat) : (c.eraseIdx i).all clueS = true :=
  List.all_eq_true.mpr fun x hx => List.all_eq_true.mp h x (List.mem_of_mem_eraseIdx hx)

theorem wrap_len {n : Nat} (h : n ≤ 1048577) : wrap64 ((n : Int) - 1) = n - 1 := wrap_of (by omega) (by omega)
def dropB (l : List C2) (a : Int) : List C2 × Bool := if goodB l = true ∧ 0 ≤ a ∧ a ≤ (l.length : Int) - 1 then (l.eraseIdx a.toNat, true) else ([], false)
theorem implDrop_ev (l : List C2) (a : Int) (hl : l.length ≤ 1048577) : Ev (fun k => impl_DropClue.f k l a) (dropB l a) := by
  unfold impl_DropClue.f dropB
  refine Ev.bind (isPuzzle_ev l) ?_
  cases hg : goodB l with
  | false => exact ev_neg (by decide) (ev_eq fun _ => by simp)
  | true =>
    refine ev_pos rfl ?_
    refine ev_bind (within_eq _ _ _) ?_
    rw [wrap_len hl]
    by_cases h : 0 ≤ a ∧ a ≤ (l.length : Int) - 1
    · refine ev_pos (by simpa using h) ?_
      obtain ⟨k, rfl⟩ : ∃ k : Nat, a = (k : Int) := ⟨a.toNat, by omega⟩
      refine ev_bind (dropped_eq l k (by omega) hl) ?_
      refine ev_eq fun _ => ?_
      rw [if_pos ⟨rfl, h⟩, Int.toNat_natCast]
    · refine ev_neg (by simpa using h) ?_
      refine ev_eq fun _ => ?_
      rw [if_neg (fun x => h x.2)]
theorem dropB_len (l : List C2) (a : Int) (hl : l.length ≤ 1048577) : (dropB l a).1.length ≤ 1048577 := by
  unfold dropB
  split
  · have := List.length_eraseIdx_le l a.toNat
    simp only
    omega
  · simp

/-! ### hidden tickets -/
def okc (b : UInt8) : Bool := decide (48 ≤ b.toNat ∧ b.toNat ≤ 53)
def dgc (b : UInt8) : Bool := decide (48 ≤ b.toNat ∧ b.toNat ≤ 57)
def hidB (t : ByteArray) : Bool := decide (t.size = 4) && t.data.toList.all okc
theorem specHid_loop (t : ByteArray) (h4 : t.size = 4) : ∀ (d i : Nat), i + d = 4 → Ev (fun k => spec_pzHidden.l0 k t (i : Int)) ((t.data.toList.drop i).all okc) := by
  intro d
  induction d with
  | zero =>
    intro i hi
    refine ev_succ ?_
    simp only [spec_pzHidden.l0]
    rw [List.drop_eq_nil_of_le (by rw [size_len]; omega)]
    exact ev_neg (by omega) (ev_eq fun _ => rfl)
  | succ d ih =>
    intro i hi
    refine ev_succ ?_
    simp only [spec_pzHidden.l0]
    have hlt : i < t.data.toList.length := by rw [size_len]; omega
    rw [bt_get t i hlt, List.drop_eq_getElem_cons hlt, List.all_cons, wrap_nat (by omega)]
    have hb := (t.data.toList[i]).toNat_lt
    have e1 : wrap64 (wrap64 (((t.data.toList[i]).toNat : Int)) - 48) = ((t.data.toList[i]).toNat : Int) - 48 := by
      rw [wrap_of (x := ((t.data.toList[i]).toNat : Int)) (by omega) (by omega), wrap_of (by omega) (by omega)]
    rw [e1]
    refine ev_pos (by omega) (ev_pos (by omega) (ev_pos (by omega) (ev_bind (l1In_eq _ _ _) ?_)))
    have e2 : decide (0 ≤ ((t.data.toList[i]).toNat : Int) - 48 ∧ ((t.data.toList[i]).toNat : Int) - 48 ≤ 5) = okc (t.data.toList[i]) := by
      unfold okc; congr 1; apply propext; omega
    rw [e2]
    cases okc (t.data.toList[i]) with
    | true => exact ev_pos rfl (ih (i + 1) (by omega))
    | false => exact ev_neg (by decide) (ev_eq fun _ => rfl)
theorem specHidden_ev (t : ByteArray) (_ : t.size ≤ 1048576) : Ev (fun k => spec_pzHidden.f k t) (hidB t) := by
  unfold spec_pzHidden.f hidB
  by_cases h : t.size = 4
  · have := specHid_loop t h 4 0 rfl
    refine ev_pos (by omega) ?_
    simpa [h] using this
  · exact ev_neg (by omega) (ev_eq fun _ => by simp [h])
theorem areDig_loop (t : ByteArray) (hs : t.size ≤ 1048576) : ∀ (d i : Nat), i + d = t.size → Ev (fun k => impl_areDigits.l0 k t 4 4 (t.size : Int) (i : Int)) ((t.data.toList.drop i).all dgc && decide (t.size = 4)) := by
  intro d
  induction d with
  | zero =>
    intro i hi
    refine ev_succ ?_
    simp only [impl_areDigits.l0]
    rw [List.drop_eq_nil_of_le (by rw [size_len]; omega)]
    refine ev_neg (by omega) (ev_bind (within_eq _ _ _) (ev_eq fun _ => ?_))
    congr 1
    simp only [List.all_nil, Bool.true_and]
    congr 1; apply propext; omega
  | succ d ih =>
    intro i hi
    refine ev_succ ?_
    simp only [impl_areDigits.l0]
    have hlt : i < t.data.toList.length := by rw [size_len]; omega
    rw [bt_get t i hlt, List.drop_eq_getElem_cons hlt, List.all_cons, wrap_nat (by omega)]
    refine ev_pos (by omega) (ev_pos (by omega) (ev_pos (by omega) ?_))
    by_cases h1 : ((t.data.toList[i]).toNat : Int) < 48
    · have : dgc (t.data.toList[i]) = false := by unfold dgc; apply decide_eq_false; omega
      rw [this]
      exact ev_pos h1 (ev_eq fun _ => rfl)
    · refine ev_neg h1 ?_
      by_cases h2 : ((t.data.toList[i]).toNat : Int) > 57
      · have : dgc (t.data.toList[i]) = false := by unfold dgc; apply decide_eq_false; omega
        rw [this]
        exact ev_pos h2 (ev_eq fun _ => rfl)
      · have : dgc (t.data.toList[i]) = true := by unfold dgc; apply decide_eq_true; omega
        rw [this, Bool.true_and]
        exact ev_neg h2 (ih (i + 1) (by omega))
theorem contains_ok (b : UInt8) : ([48, 49, 50, 51, 52, 53] : List UInt8).contains b = okc b := by
  unfold okc
  rw [Bool.eq_iff_iff]
  simp only [List.contains_cons, List.contains_nil, Bool.or_false, Bool.or_eq_true, beq_iff_eq, decide_eq_true_eq, ← UInt8.toNat_inj]
  show (b.toNat = 48 ∨ b.toNat = 49 ∨ b.toNat = 50 ∨ b.toNat = 51 ∨ b.toNat = 52 ∨ b.toNat = 53) ↔ _
  omega
theorem loop_ne (bs : ByteArray) : ∀ (n i : Nat) (r : List UInt8), bs.size - i = n → r ≠ [] → ByteArray.toList.loop bs i r ≠ [] := by
  intro n
  induction n with
  | zero =>
    intro i r hi hr
    rw [ByteArray.toList.loop, if_neg (by omega)]
    exact fun e => hr (List.reverse_eq_nil_iff.mp e)
  | succ n ih =>
    intro i r hi hr
    rw [ByteArray.toList.loop, if_pos (by omega)]
    exact ih (i + 1) _ (by omega) (by simp)
theorem empty_list (l : List UInt8) : ((⟨l.toArray⟩ : ByteArray).toList == ([] : List UInt8)) = l.isEmpty := by
  cases l with
  | nil =>
    unfold ByteArray.toList
    rw [ByteArray.toList.loop, if_neg (by show ¬ (0 : Nat) < 0; decide)]
    rfl
  | cons a r =>
    have : (⟨(a :: r).toArray⟩ : ByteArray).toList ≠ [] := by
      unfold ByteArray.toList
      rw [ByteArray.toList.loop, if_pos (by show 0 < (a :: r).length; simp)]
      exact loop_ne _ _ 1 _ rfl (by simp)
    exact beq_eq_false_iff_ne.mpr this
theorem trim_four (a b c d : UInt8) : (Lib.trimS [a, b, c, d] [48, 49, 50, 51, 52, 53]).isEmpty = (okc a && (okc b && (okc c && okc d))) := by
  unfold Lib.trimS Lib.trimLeftS Lib.trimRightS
  simp only [contains_ok]
  cases ha : okc a <;> cases hb : okc b <;> cases hc : okc c <;> cases hd : okc d <;> simp [List.dropWhile, ha, hb, hc, hd]
theorem okc_dgc {b : UInt8} (h : okc b = true) : dgc b = true := by
  unfold okc at h; unfold dgc
  rw [decide_eq_true_eq] at h ⊢
  omega
theorem implHidden_ev (t : ByteArray) (hs : t.size ≤ 1048576) : Ev (fun k => impl_isHidden.f k t) (hidB t) := by
  unfold impl_isHidden.f impl_areDigits.f
  refine Ev.bind (areDig_loop t hs t.size 0 (by omega)) ?_
  rw [List.drop_zero]
  unfold hidB
  by_cases h4 : t.size = 4
  · obtain ⟨⟨l⟩⟩ := t
    have h4' : l.length = 4 := h4
    match l, h4' with
    | [a, b, c, d], _ =>
      have hd : (decide (ByteArray.size ⟨(([a, b, c, d] : List UInt8)).toArray⟩ = 4)) = true := rfl
      rw [hd, Bool.and_true, Bool.true_and]
      have hall : ([a, b, c, d] : List UInt8).all okc = (okc a && (okc b && (okc c && okc d))) := by simp [List.all_cons]
      cases hq : ([a, b, c, d] : List UInt8).all dgc with
      | true =>
        refine ev_pos rfl (ev_bind (a := (⟨(Lib.trimS [a, b, c, d] [48, 49, 50, 51, 52, 53]).toArray⟩ : ByteArray)) ?_ (ev_eq fun _ => ?_))
        · unfold strings_Trim.f
          rw [if_pos (by show (4 : Nat) ≤ _; omega), if_pos (by decide), if_pos (by decide)]
        · rw [empty_list, trim_four]
          exact congrArg some hall.symm
      | false =>
        refine ev_neg (by decide) (ev_eq fun _ => ?_)
        refine congrArg some ?_
        symm
        show ([a, b, c, d] : List UInt8).all okc = false
        rw [← Bool.not_eq_true]
        intro hx
        rw [← Bool.not_eq_true] at hq
        exact hq (List.all_eq_true.mpr fun y hy => okc_dgc (List.all_eq_true.mp hx y hy))
  · simp only [h4, decide_false, Bool.and_false, Bool.false_and]
    exact ev_neg (by decide) (ev_eq fun _ => rfl)
theorem hid_tk (t : ByteArray) (h : hidB t = true) : ∃ n, n < 1296 ∧ t = tk n := by
  unfold hidB at h
  rw [Bool.and_eq_true, decide_eq_true_eq] at h
  obtain ⟨h4, hall⟩ := h
  obtain ⟨⟨l⟩⟩ := t
  have h4' : l.length = 4 := h4
  match l, h4' with
  | [a, b, c, d], _ =>
    have ho : ∀ y ∈ ([a, b, c, d] : List UInt8), 48 ≤ y.toNat ∧ y.toNat ≤ 53 := fun y hy => of_decide_eq_true (List.all_eq_true.mp hall y hy)
    have ha := ho a (by simp)
    have hb := ho b (by simp)
    have hc := ho c (by simp)
    have hd := ho d (by simp)
    refine ⟨216 * (a.toNat - 48) + 36 * (b.toNat - 48) + 6 * (c.toNat - 48) + (d.toNat - 48), by omega, ?_⟩
    generalize hn : 216 * (a.toNat - 48) + 36 * (b.toNat - 48) + 6 * (c.toNat - 48) + (d.toNat - 48) = n
    have e : tk n = ⟨#[UInt8.ofNat (48 + n / 6 / 6 / 6 % 6), UInt8.ofNat (48 + n / 6 / 6 % 6), UInt8.ofNat (48 + n / 6 % 6), UInt8.ofNat (48 + n % 6)]⟩ := rfl
    rw [e, show 48 + n / 6 / 6 / 6 % 6 = a.toNat by omega, show 48 + n / 6 / 6 % 6 = b.toNat by omega, show 48 + n / 6 % 6 = c.toNat by omega, show 48 + n % 6 = d.toNat by omega]
    simp

def nx (z : Int) : Int := (303 * z + 709) % 10007
theorem nx_b (z : Int) : 0 ≤ nx z ∧ nx z ≤ 10006 := by unfold nx; omega
theorem specNx (z : Int) (h0 : 0 ≤ z) (h1 : z ≤ 10006) : spec_pzNext.f z = some (nx z) := by
  unfold spec_pzNext.f nx
  rw [wrap_of (x := 303 * z) (by omega) (by omega), wrap_of (by omega) (by omega), Int.tmod_eq_emod_of_nonneg (by omega)]
def mdK (kd : Int) : Int := rd ([2, 4, 1, 3, 1] : List Int) kd
theorem val_all (n : Nat) (hn : n < 1296) (kd y : Int) (h0 : 0 ≤ kd) (h5 : kd < 5) (hy : 0 ≤ y) (k : Nat) (hk : 24 ≤ k) :
    mdK kd ≠ 0 ∧ ∃ v, impl_told.f k kd (y % mdK kd) (tk n) = some v ∧ spec_pzOf.f k kd y (tk n) = some (kd, y % mdK kd, v) := by
  have hc := chk_all n hn
  unfold chk at hc
  simp only [Bool.and_eq_true] at hc
  obtain ⟨⟨⟨⟨⟨⟨⟨⟨⟨⟨⟨a0, a1⟩, b0⟩, b1⟩, b2⟩, b3⟩, c0⟩, d0⟩, d1⟩, d2⟩, e0⟩, _⟩ := hc
  have up : ∀ {kd a : Int}, chkV kd a (tk n) = true → ∃ v, impl_told.f k kd a (tk n) = some v ∧ spec_pzValue.f k kd a (tk n) = some v := fun h => by
    obtain ⟨v, h1, h2⟩ := chkV_of h
    exact ⟨v, mono_le (fun k => impl_told.mono _ _ _ k) (K := 24) h2 hk, mono_le (fun k => spec_pzValue.mono _ _ _ k) (K := 24) h1 hk⟩
  have hkd : kd = 0 ∨ kd = 1 ∨ kd = 2 ∨ kd = 3 ∨ kd = 4 := by omega
  unfold spec_pzOf.f
  rcases hkd with rfl | rfl | rfl | rfl | rfl
  · have e : mdK 0 = 2 := rfl
    rw [e, Int.tmod_eq_emod_of_nonneg hy]
    refine ⟨by decide, ?_⟩
    have hr : y % 2 = 0 ∨ y % 2 = 1 := by omega
    obtain ⟨v, h1, h2⟩ : ∃ v, impl_told.f k 0 (y % 2) (tk n) = some v ∧ spec_pzValue.f k 0 (y % 2) (tk n) = some v := by
      rcases hr with q | q <;> rw [q]
      · exact up a0
      · exact up a1
    exact ⟨v, h1, by rw [if_pos rfl, h2]; rfl⟩
  · have e : mdK 1 = 4 := rfl
    rw [e, if_neg (by decide), Int.tmod_eq_emod_of_nonneg hy]
    refine ⟨by decide, ?_⟩
    have hr : y % 4 = 0 ∨ y % 4 = 1 ∨ y % 4 = 2 ∨ y % 4 = 3 := by omega
    obtain ⟨v, h1, h2⟩ : ∃ v, impl_told.f k 1 (y % 4) (tk n) = some v ∧ spec_pzValue.f k 1 (y % 4) (tk n) = some v := by
      rcases hr with q | q | q | q <;> rw [q]
      · exact up b0
      · exact up b1
      · exact up b2
      · exact up b3
    exact ⟨v, h1, by rw [if_pos rfl, h2]; rfl⟩
  · have e : mdK 2 = 1 := rfl
    rw [e, if_neg (by decide), if_neg (by decide), if_neg (by decide), Int.emod_one]
    refine ⟨by decide, ?_⟩
    obtain ⟨v, h1, h2⟩ := up c0
    exact ⟨v, h1, by rw [h2]; rfl⟩
  · have e : mdK 3 = 3 := rfl
    rw [e, if_neg (by decide), if_neg (by decide), Int.tmod_eq_emod_of_nonneg hy]
    refine ⟨by decide, ?_⟩
    have hr : y % 3 = 0 ∨ y % 3 = 1 ∨ y % 3 = 2 := by omega
    obtain ⟨v, h1, h2⟩ : ∃ v, impl_told.f k 3 (y % 3) (tk n) = some v ∧ spec_pzValue.f k 3 (y % 3) (tk n) = some v := by
      rcases hr with q | q | q <;> rw [q]
      · exact up d0
      · exact up d1
      · exact up d2
    exact ⟨v, h1, by rw [if_pos rfl, h2]; rfl⟩
  · have e : mdK 4 = 1 := rfl
    rw [e, if_neg (by decide), if_neg (by decide), if_neg (by decide), Int.emod_one]
    refine ⟨by decide, ?_⟩
    obtain ⟨v, h1, h2⟩ := up e0
    exact ⟨v, h1, by rw [h2]; rfl⟩
def valF (n : Nat) (kd y : Int) : Int := (impl_told.f 24 kd (y % mdK kd) (tk n)).getD 0
theorem val_at (n : Nat) (hn : n < 1296) (kd y : Int) (h0 : 0 ≤ kd) (h5 : kd < 5) (hy : 0 ≤ y) (k : Nat) (hk : 24 ≤ k) :
    impl_told.f k kd (y % mdK kd) (tk n) = some (valF n kd y) ∧ spec_pzOf.f k kd y (tk n) = some (kd, y % mdK kd, valF n kd y) := by
  obtain ⟨_, v, h1, _⟩ := val_all n hn kd y h0 h5 hy 24 (Nat.le_refl _)
  obtain ⟨_, v', h1', h2'⟩ := val_all n hn kd y h0 h5 hy k hk
  have e : valF n kd y = v := by unfold valF; rw [h1]; rfl
  have e2 := mono_le (fun k => impl_told.mono _ _ _ k) (K := 24) h1 hk
  rw [h1'] at e2
  rw [e, ← Option.some.inj e2]
  exact ⟨h1', h2'⟩
def mkL (n : Nat) : Nat → Int → List C2 → List C2
  | 0, _, l => l
  | c + 1, z, l => mkL n c (nx (nx z)) (l ++ [⟨nx z % 5, nx (nx z) % mdK (nx z % 5), valF n (nx z % 5) (nx (nx z))⟩])
theorem mkL_len (n : Nat) : ∀ c z l, (mkL n c z l).length = l.length + c
  | 0, _, _ => rfl
  | c + 1, z, l => by rw [mkL, mkL_len n c]; simp; omega
theorem specGo (n : Nat) (hn : n < 1296) : ∀ (c : Nat) (z : Int) (l : List C2), c + l.length ≤ 6 → 0 ≤ z → z ≤ 10006 → Ev (fun k => spec_MakePuzzle.l0 k (tk n) (c : Int) z l) (mkL n c z l, true)
  | 0, _, _, _, _, _ => by
    refine ev_succ ?_
    simp only [spec_MakePuzzle.l0]
    exact ev_neg (by decide) (ev_eq fun _ => rfl)
  | c + 1, z, l, hl, h0, h1 => by
    have b1 := nx_b z
    have b2 := nx_b (nx z)
    refine ev_succ ?_
    simp only [spec_MakePuzzle.l0]
    refine ev_pos (by omega) (ev_bind (specNx z h0 h1) (ev_bind (specNx _ b1.1 b1.2) ?_))
    rw [Int.tmod_eq_emod_of_nonneg b1.1]
    refine Ev.bind (ev_from 24 (fun k hk => (val_at n hn (nx z % 5) (nx (nx z)) (by omega) (by omega) b2.1 k hk).2)) ?_
    refine ev_pos (by omega) ?_
    rw [show wrap64 (((c + 1 : Nat) : Int) - 1) = (c : Int) by rw [wrap_of (by omega) (by omega)]; omega]
    exact specGo n hn c _ _ (by simp; omega) b2.1 b2.2

/-! ### hidden tickets: halves, luck, numbers -/
def cw (n : Nat) (kd a : Int) : Bool := match impl_told.f 24 kd a (tk n) with
  | some v => clueB kd a v && fitB ⟨kd, a, v⟩ n
  | none => false
def chkH (n : Nat) : Bool := (impl_IsTicket.f 24 (tk n) == some true) && (cw n 0 0 && (cw n 0 1 && (cw n 1 0 && (cw n 1 1 && (cw n 1 2 && (cw n 1 3 && (cw n 2 0 && (cw n 3 0 && (cw n 3 1 && (cw n 3 2 && cw n 4 0))))))))))
def chkHR (a : Nat) : Bool := (List.range 216).all (fun n => chkH (216 * a + n))
set_option maxRecDepth 100000 in
theorem vchk0 : chkHR 0 = true := by kernel_rfl
set_option maxRecDepth 100000 in
theorem vchk1 : chkHR 1 = true := by kernel_rfl
set_option maxRecDepth 100000 in
theorem vchk2 : chkHR 2 = true := by kernel_rfl
set_option maxRecDepth 100000 in
theorem vchk3 : chkHR 3 = true := by kernel_rfl
set_option maxRecDepth 100000 in
theorem vchk4 : chkHR 4 = true := by kernel_rfl
set_option maxRecDepth 100000 in
theorem vchk5 : chkHR 5 = true := by kernel_rfl
theorem chkH_all (n : Nat) (h : n < 1296) : chkH n = true := by
  have hR : chkHR (n / 216) = true := by
    have : n / 216 = 0 ∨ n / 216 = 1 ∨ n / 216 = 2 ∨ n / 216 = 3 ∨ n / 216 = 4 ∨ n / 216 = 5 := by omega
    rcases this with e | e | e | e | e | e <;> rw [e]
    · exact vchk0
    · exact vchk1
    · exact vchk2
    · exact vchk3
    · exact vchk4
    · exact vchk5
  have := List.all_eq_true.mp hR (n % 216) (List.mem_range.mpr (by omega))
  rwa [show 216 * (n / 216) + n % 216 = n by omega] at this
theorem tick_yes (n : Nat) (hn : n < 1296) : Ev (fun k => impl_IsTicket.f k (tk n)) true := by
  have h := chkH_all n hn
  unfold chkH at h
  simp only [Bool.and_eq_true, beq_iff_eq] at h
  exact Ev.of (fun k => impl_IsTicket.mono _ k) h.1
theorem cw_all (n : Nat) (hn : n < 1296) (kd a : Int) (h : (kd = 0 ∧ (a = 0 ∨ a = 1)) ∨ (kd = 1 ∧ (a = 0 ∨ a = 1 ∨ a = 2 ∨ a = 3)) ∨ (kd = 2 ∧ a = 0) ∨ (kd = 3 ∧ (a = 0 ∨ a = 1 ∨ a = 2)) ∨ (kd = 4 ∧ a = 0)) : cw n kd a = true := by
  have hh := chkH_all n hn
  unfold chkH at hh
  simp only [Bool.and_eq_true] at hh
  obtain ⟨_, a0, a1, b0, b1, b2, b3, c0, d0, d1, d2, e0⟩ := hh
  rcases h with ⟨rfl, rfl | rfl⟩ | ⟨rfl, rfl | rfl | rfl | rfl⟩ | ⟨rfl, rfl⟩ | ⟨rfl, rfl | rfl | rfl⟩ | ⟨rfl, rfl⟩ <;> assumption
theorem made_fits (n : Nat) (hn : n < 1296) (kd y : Int) (h0 : 0 ≤ kd) (h5 : kd < 5) (hy : 0 ≤ y) : clueS ⟨kd, y % mdK kd, valF n kd y⟩ = true ∧ fitB ⟨kd, y % mdK kd, valF n kd y⟩ n = true := by
  have hk : kd = 0 ∨ kd = 1 ∨ kd = 2 ∨ kd = 3 ∨ kd = 4 := by omega
  have hc : cw n kd (y % mdK kd) = true := by
    refine cw_all n hn kd _ ?_
    rcases hk with rfl | rfl | rfl | rfl | rfl
    · have e : mdK 0 = 2 := rfl
      rw [e]; omega
    · have e : mdK 1 = 4 := rfl
      rw [e]; omega
    · have e : mdK 2 = 1 := rfl
      rw [e]; omega
    · have e : mdK 3 = 3 := rfl
      rw [e]; omega
    · have e : mdK 4 = 1 := rfl
      rw [e]; omega
  have hv := (val_at n hn kd y h0 h5 hy 24 (Nat.le_refl _)).1
  unfold cw at hc
  rw [hv] at hc
  simp only [Bool.and_eq_true] at hc
  exact hc
theorem mkL_fits (n : Nat) (hn : n < 1296) : ∀ (c : Nat) (z : Int) (l : List C2), (∀ x ∈ l, clueS x = true ∧ fitB x n = true) → ∀ x ∈ mkL n c z l, clueS x = true ∧ fitB x n = true
  | 0, _, _, h => h
  | c + 1, z, l, h => by
    have b1 := nx_b z
    have b2 := nx_b (nx z)
    refine mkL_fits n hn c _ _ (fun x hx => ?_)
    rcases List.mem_append.mp hx with hx | hx
    · exact h x hx
    · rw [List.mem_singleton] at hx
      subst hx
      exact made_fits n hn _ _ (by omega) (by omega) b2.1
theorem make_spec (t : ByteArray) (ht : t.size ≤ 1048576) (c z : Int) : ∃ r : List C2 × Bool, goodB r.1 = true ∧ Ev (fun k => spec_MakePuzzle.f k t c z) r := by
  have g0 : goodB ([] : List C2) = true := rfl
  cases hh : hidB t with
  | false =>
    refine ⟨([], false), g0, ?_⟩
    unfold spec_MakePuzzle.f
    refine Ev.bind (hh ▸ specHidden_ev t ht) (ev_neg (by decide) (ev_succ ?_))
    simp only [spec_MakePuzzle.j0]
    exact ev_pos trivial (ev_eq fun _ => rfl)
  | true =>
    obtain ⟨n, hn, rfl⟩ := hid_tk t hh
    by_cases hc : 0 ≤ c ∧ c ≤ 6
    · by_cases hz : 0 ≤ z ∧ z ≤ 9999
      · obtain ⟨m, rfl⟩ : ∃ m : Nat, c = (m : Int) := ⟨c.toNat, by omega⟩
        refine ⟨(mkL n m z [], true), ?_, ?_⟩
        · unfold goodB
          rw [Bool.and_eq_true, decide_eq_true_eq, List.all_eq_true, mkL_len]
          exact ⟨by simp; omega, fun x hx => (mkL_fits n hn m z [] (fun x hx => absurd hx (by simp)) x hx).1⟩
        unfold spec_MakePuzzle.f
        refine Ev.bind (hh ▸ specHidden_ev _ ht) (ev_pos rfl (ev_bind (l1In_eq _ _ _) (ev_pos (decide_eq_true hc) (ev_bind (l1In_eq _ _ _) (ev_succ ?_)))))
        simp only [spec_MakePuzzle.j0]
        refine ev_neg (by rw [decide_eq_true hz]; decide) ?_
        exact specGo n hn m z [] (by simp; omega) hz.1 (by omega)
      · refine ⟨([], false), g0, ?_⟩
        unfold spec_MakePuzzle.f
        refine Ev.bind (hh ▸ specHidden_ev _ ht) (ev_pos rfl (ev_bind (l1In_eq _ _ _) (ev_pos (decide_eq_true hc) (ev_bind (l1In_eq _ _ _) (ev_succ ?_)))))
        simp only [spec_MakePuzzle.j0]
        exact ev_pos (by rw [decide_eq_false hz]; rfl) (ev_eq fun _ => rfl)
    · refine ⟨([], false), g0, ?_⟩
      unfold spec_MakePuzzle.f
      refine Ev.bind (hh ▸ specHidden_ev _ ht) (ev_pos rfl (ev_bind (l1In_eq _ _ _) (ev_neg (by rw [decide_eq_false hc]; decide) (ev_succ ?_))))
      simp only [spec_MakePuzzle.j0]
      exact ev_pos trivial (ev_eq fun _ => rfl)

def nl (c : List C2) (many : Int) : Nat → Nat → List Int → List Int
  | 0, _, out => out
  | d + 1, i, out => if ((sol (c.eraseIdx i)).length : Int) = many then nl c many d (i + 1) (out ++ [(i : Int)]) else nl c many d (i + 1) out
theorem nl_len (c : List C2) (many : Int) : ∀ d i out, (nl c many d i out).length ≤ out.length + d
  | 0, _, _ => Nat.le_refl _
  | d + 1, i, out => by
    unfold nl
    split
    · have := nl_len c many d (i + 1) (out ++ [(i : Int)]); rw [List.length_append, List.length_singleton] at this; omega
    · have := nl_len c many d (i + 1) out; omega
theorem specNeed_loop (c : List C2) (many : Int) (hc : c.all clueS = true) (h6 : c.length ≤ 6) : ∀ (d i : Nat) (out : List Int), i + d = c.length → out.length ≤ i → Ev (fun k => spec_NeedlessClues.l0 k out many (c.length : Int) (i : Int) c) (nl c many d i out, true) := by
  intro d
  induction d with
  | zero =>
    intro i out hi ho
    refine ev_succ ?_
    simp only [spec_NeedlessClues.l0]
    exact ev_neg (by omega) (ev_eq fun _ => rfl)
  | succ d ih =>
    intro i out hi ho
    refine ev_succ ?_
    simp only [spec_NeedlessClues.l0]
    rw [wrap_nat (by omega)]
    refine ev_pos (by omega) (ev_bind (pzWithout_eq c i (by omega) (by omega)) (Ev.bind (pzAll_ev _ (all_erase hc i)) ?_))
    unfold nl
    by_cases hq : ((sol (c.eraseIdx i)).length : Int) = many
    · rw [if_pos hq]
      exact ev_pos hq (ev_pos (by omega) (ih (i + 1) _ (by omega) (by rw [List.length_append, List.length_singleton]; omega)))
    · rw [if_neg hq]
      exact ev_neg hq (ih (i + 1) _ (by omega) (by omega))
theorem implNeed_loop (c : List C2) (many : Int) (hc : c.all clueS = true) (h6 : c.length ≤ 6) : ∀ (d i : Nat) (out : List Int), i + d = c.length → out.length ≤ i → Ev (fun k => impl_NeedlessClues.l0 k out many (c.length : Int) (i : Int) c) (nl c many d i out, true) := by
  intro d
  induction d with
  | zero =>
    intro i out hi ho
    refine ev_succ ?_
    simp only [impl_NeedlessClues.l0]
    exact ev_neg (by omega) (ev_eq fun _ => rfl)
  | succ d ih =>
    intro i out hi ho
    refine ev_succ ?_
    simp only [impl_NeedlessClues.l0]
    rw [wrap_nat (by omega)]
    refine ev_pos (by omega) (ev_bind (dropped_eq c i (by omega) (by omega)) (Ev.bind (solutions_ev _ (all_erase hc i)) ?_))
    unfold nl
    by_cases hq : ((sol (c.eraseIdx i)).length : Int) = many
    · rw [if_pos hq]
      exact ev_pos hq (ev_pos (by omega) (ih (i + 1) _ (by omega) (by rw [List.length_append, List.length_singleton]; omega)))
    · rw [if_neg hq]
      exact ev_neg hq (ih (i + 1) _ (by omega) (by omega))
def needR (c : List C2) : List Int × Bool := if goodB c then (nl c ((sol c).length : Int) c.length 0 [], true) else ([], false)
theorem needR_len (c : List C2) : (needR c).1.length ≤ 7 := by
  unfold needR
  cases h : goodB c with
  | true => have := goodB_len h; have := nl_len c ((sol c).length : Int) c.length 0 []; simp at this ⊢; omega
  | false => simp
theorem specNeed_ev (c : List C2) : Ev (fun k => spec_NeedlessClues.f k c) (needR c) := by
  unfold spec_NeedlessClues.f needR
  cases h : goodB c with
  | true => exact Ev.bind (pzGood_yes h) (ev_pos rfl (Ev.bind (pzAll_ev c (all_good h)) (specNeed_loop c _ (all_good h) (goodB_len h) c.length 0 [] (by omega) (Nat.le_refl _))))
  | false => exact Ev.bind (pzGood_no h) (ev_neg (by decide) (ev_eq fun _ => rfl))
theorem implNeed_ev (c : List C2) : Ev (fun k => impl_NeedlessClues.f k c) (needR c) := by
  unfold impl_NeedlessClues.f needR
  cases h : goodB c with
  | true => exact Ev.bind (isPuzzle_yes h) (ev_pos rfl (Ev.bind (solutions_ev c (all_good h)) (implNeed_loop c _ (all_good h) (goodB_len h) c.length 0 [] (by omega) (Nat.le_refl _))))
  | false => exact Ev.bind (isPuzzle_no h) (ev_neg (by decide) (ev_eq fun _ => rfl))

/-! ### solutions (out of pure/FnExactSolutions) -/
theorem sol_len (c : List C2) : (sol c).length ≤ 1296 := by
  rw [sol]
  have := sg_len c 1296 0 [] (Nat.le_refl _)
  omega
def solR (c : List C2) : List ByteArray × Bool := if goodB c then (sol c, true) else ([], false)
theorem solR_len (c : List C2) : (solR c).1.length ≤ 1296 := by
  unfold solR
  cases h : goodB c with
  | true => exact sol_len c
  | false => simp
theorem implSol_ev (c : List C2) : Ev (fun k => impl_Solutions.f k c) (solR c) := by
  unfold solR
  cases h : goodB c with
  | true => exact Solutions_yes h
  | false => exact Solutions_no h


theorem specSol_ev (c : List C2) : Ev (fun k => spec_Solutions.f k c) (solR c) := by
  unfold spec_Solutions.f solR
  cases h : goodB c with
  | true => exact Ev.bind (pzGood_yes h) (ev_pos rfl (Ev.bind (pzAll_ev c (all_good h)) (ev_eq fun _ => rfl)))
  | false => exact Ev.bind (pzGood_no h) (ev_neg (by decide) (ev_eq fun _ => rfl))

/-! ### choices out of bytes: each of them is made -/
def Bytes (l : List Int) : Prop := ∀ x ∈ l, (Lit.int .u8 x).wf = true
theorem byte_range {l : List Int} (h : Bytes l) {i : Int} (h0 : 0 ≤ i) (h1 : i < (l.length : Int)) : 0 ≤ rd l i ∧ rd l i ≤ 255 := by
  have hm : rd l i ∈ l := by
    unfold rd
    rw [List.getD_eq_getElem?_getD, List.getElem?_eq_getElem (by omega)]
    exact List.getElem_mem _
  have := h _ hm
  have h2 := by simpa only [Lit.wf, Bool.and_eq_true, decide_eq_true_eq] using this
  exact ⟨h2.1, h2.2⟩
theorem and255 (x : Int) (h0 : 0 ≤ x) (h1 : x < 18446744073709551616) : 0 ≤ Go.bits .and .u64 x 255 ∧ Go.bits .and .u64 x 255 ≤ 255 := by
  obtain ⟨n, rfl⟩ : ∃ n : Nat, x = (n : Int) := ⟨x.toNat, by omega⟩
  have h := bits_and_u64_nat n 255 (by omega) (by omega)
  have h2 := Nat.and_le_right (n := n) (m := 255)
  rw [show ((255 : Nat) : Int) = 255 from rfl] at h
  rw [h]
  omega
theorem u64_range (x : Int) : 0 ≤ IntKind.u64.wrap x ∧ IntKind.u64.wrap x < 18446744073709551616 := by
  rw [IntKind.wrap_u64]; omega
theorem tail255 (x : Int) : ∃ v, wrap64 (Go.bits .and .u64 (IntKind.u64.wrap x / 1099511627776) 255) = v ∧ 0 ≤ v ∧ v ≤ 255 := by
  have h := u64_range x
  have h2 := and255 (IntKind.u64.wrap x / 1099511627776) (by omega) (by omega)
  exact ⟨_, wrap_of (by omega) (by omega), h2.1, h2.2⟩
theorem next_ok (l : List Int) (hl : Bytes l) (a s : Int) (h0 : 0 ≤ a) (h1 : a ≤ 1000000000000) : ∃ v s', spec_l1Cur_next.f l a s = some (v, a + 1, s') ∧ 0 ≤ v ∧ v ≤ 255 := by
  unfold spec_l1Cur_next.f
  have hw : wrap64 (a + 1) = a + 1 := wrap_of (by omega) (by omega)
  rw [hw]
  by_cases c : a < (l.length : Int)
  · have hb := byte_range hl h0 c
    rw [if_pos c, if_pos h0, if_pos (by omega), wrap_of (x := rd l a) (by omega) (by omega)]
    exact ⟨_, _, rfl, hb.1, hb.2⟩
  · rw [if_neg c, if_neg (by omega)]
    obtain ⟨v, hv, g⟩ := tail255 (IntKind.u64.wrap (IntKind.u64.wrap (s * 6364136223846793005)) + 1442695040888963407)
    rw [hv]
    exact ⟨v, _, rfl, g.1, g.2⟩
theorem tmod_range {x n : Int} (h0 : 0 ≤ x) (hn : 0 < n) : 0 ≤ Int.tmod x n ∧ Int.tmod x n < n := by
  rw [Int.tmod_eq_emod_of_nonneg h0]
  exact ⟨Int.emod_nonneg _ (by omega), Int.emod_lt_of_pos _ hn⟩
theorem pick_ok (l : List Int) (hl : Bytes l) (a s n : Int) (h0 : 0 ≤ a) (h1 : a ≤ 900000000000) : ∃ v a' s', spec_l1Cur_pick.f l a s n = some (v, a', s') ∧ 0 ≤ v ∧ (v < n ∨ v = 0) ∧ a ≤ a' ∧ a' ≤ a + 2 := by
  unfold spec_l1Cur_pick.f
  by_cases c : n ≤ 1
  · rw [if_pos c]
    exact ⟨0, a, s, rfl, Int.le_refl 0, .inr rfl, Int.le_refl a, by omega⟩
  · rw [if_neg c]
    obtain ⟨v, s1, hv, v0, v1⟩ := next_ok l hl a s h0 (by omega)
    rw [hv]
    simp only [Option.bind_some]
    by_cases c2 : n > 200
    · rw [if_pos c2]
      obtain ⟨u, s2, hu, u0, u1⟩ := next_ok l hl (a + 1) s1 (by omega) (by omega)
      rw [hu]
      simp only [Option.bind_some]
      rw [if_neg (by omega), wrap_of (x := v * 256) (by omega) (by omega), wrap_of (x := v * 256 + u) (by omega) (by omega)]
      have ht := tmod_range (x := v * 256 + u) (n := n) (by omega) (by omega)
      exact ⟨_, _, _, rfl, ht.1, .inl ht.2, by omega, by omega⟩
    · rw [if_neg c2, if_neg (by omega)]
      have ht := tmod_range (x := v) (n := n) v0 (by omega)
      exact ⟨_, _, _, rfl, ht.1, .inl ht.2, by omega, by omega⟩

theorem one_ok (l : List Int) (hl : Bytes l) (a s n : Int) (h0 : 0 ≤ a) (h1 : a ≤ 900000000000) : ∃ v a' s', spec_l1Cur_one.f l a s n = some (v, a', s') ∧ a ≤ a' ∧ a' ≤ a + 2 := by
  unfold spec_l1Cur_one.f
  obtain ⟨v, a', s', hv, _, _, g⟩ := pick_ok l hl a s n h0 h1
  rw [hv]
  exact ⟨_, a', s', rfl, g⟩

theorem pre_ok : ∀ (j p : Nat), (pre j p).data.toList.all okc = true
  | 0, _ => rfl
  | j + 1, p => by
    have h1 := pre_ok j (p / 6)
    have h2 : (pre (j + 1) p).data.toList = (pre j (p / 6)).data.toList ++ [UInt8.ofNat (48 + p % 6)] := by
      rw [pre, dg, ByteArray.data_append, Array.toList_append]
    have h3 : okc (UInt8.ofNat (48 + p % 6)) = true := by
      unfold okc
      rw [UInt8.toNat_ofNat', decide_eq_true_eq]
      omega
    rw [h2, List.all_append, h1, List.all_cons, h3]; rfl
theorem hid_of (n : Nat) (hn : n < 1296) : hidB (tk n) = true := by
  unfold hidB
  have h1 : (tk n).size = 4 := pre_size 4 n
  rw [h1, show (tk n).data.toList.all okc = true from pre_ok 4 n]; rfl
theorem hidden_loop (l : List Int) (hl : Bytes l) : ∀ (d j p : Nat) (a s : Int), j + d = 4 → p < 6 ^ j → 0 ≤ a → a + 2 * d ≤ 800000000300 → ∃ n a' s', n < 1296 ∧ Ev (fun k => spec_l1Cur_hidden.l0 k (pre j p) l a s) (tk n, a', s') ∧ a ≤ a' ∧ a' ≤ a + 2 * d := by
  intro d
  induction d with
  | zero =>
    intro j p a s hj hp h0 h1
    obtain rfl : j = 4 := by omega
    refine ⟨p, a, s, by omega, ev_succ ?_, by omega, by omega⟩
    simp only [spec_l1Cur_hidden.l0]
    rw [pre_size]
    exact ev_neg (by omega) (ev_eq fun _ => rfl)
  | succ d ih =>
    intro j p a s hj hp h0 h1
    obtain ⟨v, a1, s1, hv, v0, v1, g1, g2⟩ := pick_ok l hl a s 6 h0 (by omega)
    have hp2 : p * 6 + v.toNat < 6 ^ (j + 1) := by rw [Nat.pow_succ]; omega
    obtain ⟨n, a', s', hn, hev, g3, g4⟩ := ih (j + 1) (p * 6 + v.toNat) a1 s1 (by omega) hp2 (by omega) (by omega)
    refine ⟨n, a', s', hn, ev_succ ?_, by omega, by omega⟩
    simp only [spec_l1Cur_hidden.l0]
    rw [pre_size]
    refine ev_pos (by omega) (ev_bind hv ?_)
    have hnum : Ev (fun k => spec_l1Num.f k v) (dg v.toNat) := ev_from 1 (fun k hk => by
      have := num_eq k hk v.toNat (by omega)
      rw [show ((v.toNat : Nat) : Int) = v by omega] at this
      exact this)
    refine Ev.bind hnum ?_
    have hd1 : (dg v.toNat).size = 1 := rfl
    refine ev_pos (by rw [hd1]; omega) ?_
    have e : pre (j + 1) (p * 6 + v.toNat) = pre j p ++ dg v.toNat := by
      rw [pre]
      congr 2 <;> omega
    rw [e] at hev
    exact hev
theorem hidden_ok (l : List Int) (hl : Bytes l) (a s : Int) (h0 : 0 ≤ a) (h1 : a ≤ 800000000000) : ∃ n a' s', n < 1296 ∧ Ev (fun k => spec_l1Cur_hidden.f k l a s) (tk n, a', s') ∧ a ≤ a' ∧ a' ≤ a + 8 := by
  obtain ⟨n, a', s', hn, h, g1, g2⟩ := hidden_loop l hl 4 0 0 a s (by omega) (by omega) h0 (by omega)
  refine ⟨n, a', s', hn, ?_, g1, by omega⟩
  unfold spec_l1Cur_hidden.f
  exact h
theorem tk_size (n : Nat) : (tk n).size = 4 := pre_size 4 n
theorem sure_ok2 (l : List Int) (hl : Bytes l) (a s m : Int) (h0 : 0 ≤ a) (h1 : a ≤ 700000000000) : ∃ c a' s', Ev (fun k => spec_l1Cur_surePuzzle.f k l a s m) (c, a', s') ∧ goodB c = true ∧ a ≤ a' ∧ a' ≤ a + 20 := by
  unfold spec_l1Cur_surePuzzle.f
  obtain ⟨n, a1, s1, hn, e1, g1, g2⟩ := hidden_ok l hl a s h0 (by omega)
  obtain ⟨c, a2, s2, e2, _, _, g3, g4⟩ := pick_ok l hl a1 s1 (wrap64 (m + 1)) (by omega) (by omega)
  obtain ⟨z, a3, s3, e3, _, _, g5, g6⟩ := pick_ok l hl a2 s2 10000 (by omega) (by omega)
  obtain ⟨r, hr, e4⟩ := make_spec (tk n) (by rw [tk_size]; omega) c z
  exact ⟨r.1, a3, s3, Ev.bind e1 (ev_bind e2 (ev_bind e3 (Ev.bind e4 (ev_eq fun _ => rfl)))), hr, by omega, by omega⟩
theorem clue_j3 (l : List Int) (hl : Bytes l) (a s x y z : Int) (h0 : 0 ≤ a) (h1 : a ≤ 700000000000) : ∃ v u w a' s', Ev (fun k => spec_l1Cur_clue.j3 k l a s x y z) (v, u, w, a', s') ∧ a ≤ a' ∧ a' ≤ a + 10 := by
  obtain ⟨b, a1, s1, e1, g1, g2⟩ := one_ok l hl a s 14 h0 (by omega)
  by_cases c : b = true
  · obtain ⟨p, a2, s2, e2, _, _, g3, g4⟩ := pick_ok l hl a1 s1 3 (by omega) (by omega)
    refine ⟨x, wrap64 (p - 1), z, a2, s2, ev_succ ?_, by omega, by omega⟩
    simp only [spec_l1Cur_clue.j3]
    exact ev_bind e1 (ev_pos c (ev_bind e2 (ev_eq fun _ => rfl)))
  · refine ⟨x, y, z, a1, s1, ev_succ ?_, by omega, by omega⟩
    simp only [spec_l1Cur_clue.j3]
    exact ev_bind e1 (ev_neg c (ev_eq fun _ => rfl))
theorem clue_j2 (l : List Int) (hl : Bytes l) (b : Bool) (a s x y z : Int) (h0 : 0 ≤ a) (h1 : a ≤ 600000000000) : ∃ v u w a' s', Ev (fun k => spec_l1Cur_clue.j2 k b l a s x y z) (v, u, w, a', s') ∧ a ≤ a' ∧ a' ≤ a + 20 := by
  by_cases c : b = true
  · obtain ⟨p, a2, s2, e2, _, _, g3, g4⟩ := pick_ok l hl a s 3 (by omega) (by omega)
    obtain ⟨v, u, w, a3, s3, e3, g5, g6⟩ := clue_j3 l hl a2 s2 x y p (by omega) (by omega)
    refine ⟨v, u, w, a3, s3, ev_succ ?_, by omega, by omega⟩
    simp only [spec_l1Cur_clue.j2]
    exact ev_pos c (ev_bind e2 e3)
  · obtain ⟨v, u, w, a3, s3, e3, g5, g6⟩ := clue_j3 l hl a s x y z (by omega) (by omega)
    refine ⟨v, u, w, a3, s3, ev_succ ?_, by omega, by omega⟩
    simp only [spec_l1Cur_clue.j2]
    exact ev_neg c e3
theorem clue_j1 (l : List Int) (hl : Bytes l) (a s x y z : Int) (h0 : 0 ≤ a) (h1 : a ≤ 600000000000) : ∃ v u w a' s', Ev (fun k => spec_l1Cur_clue.j1 k l a s x y z) (v, u, w, a', s') ∧ a ≤ a' ∧ a' ≤ a + 20 := by
  by_cases c : x = 2
  · obtain ⟨v, u, w, a3, s3, e3, g⟩ := clue_j2 l hl true a s x y z h0 h1
    refine ⟨v, u, w, a3, s3, ev_succ ?_, g⟩
    simp only [spec_l1Cur_clue.j1]
    exact ev_pos c e3
  · obtain ⟨v, u, w, a3, s3, e3, g⟩ := clue_j2 l hl (x == 3) a s x y z h0 h1
    refine ⟨v, u, w, a3, s3, ev_succ ?_, g⟩
    simp only [spec_l1Cur_clue.j1]
    exact ev_neg c e3
theorem clue_j0 (l : List Int) (hl : Bytes l) (q : Int) (b : Bool) (a s x y z : Int) (h0 : 0 ≤ a) (h1 : a ≤ 500000000000) : ∃ v u w a' s', Ev (fun k => spec_l1Cur_clue.j0 k q b l a s x y z) (v, u, w, a', s') ∧ a ≤ a' ∧ a' ≤ a + 30 := by
  by_cases c : b = true
  · obtain ⟨p, a2, s2, e2, _, _, g3, g4⟩ := pick_ok l hl a s 5 (by omega) (by omega)
    obtain ⟨v, u, w, a3, s3, e3, g5, g6⟩ := clue_j1 l hl a2 s2 x p z (by omega) (by omega)
    refine ⟨v, u, w, a3, s3, ev_succ ?_, by omega, by omega⟩
    simp only [spec_l1Cur_clue.j0]
    exact ev_pos c (ev_bind e2 e3)
  · by_cases c2 : q = 5
    · obtain ⟨p, a2, s2, e2, _, _, g3, g4⟩ := pick_ok l hl a s 10 (by omega) (by omega)
      obtain ⟨v, u, w, a3, s3, e3, g5, g6⟩ := clue_j1 l hl a2 s2 x y (wrap64 (1 + p)) (by omega) (by omega)
      refine ⟨v, u, w, a3, s3, ev_succ ?_, by omega, by omega⟩
      simp only [spec_l1Cur_clue.j0]
      exact ev_neg c (ev_pos c2 (ev_bind e2 e3))
    · obtain ⟨v, u, w, a3, s3, e3, g5, g6⟩ := clue_j1 l hl a s x y z (by omega) (by omega)
      refine ⟨v, u, w, a3, s3, ev_succ ?_, by omega, by omega⟩
      simp only [spec_l1Cur_clue.j0]
      exact ev_neg c (ev_neg c2 e3)
theorem clue_ok (l : List Int) (hl : Bytes l) (a s : Int) (h0 : 0 ≤ a) (h1 : a ≤ 400000000000) : ∃ v u w a' s', Ev (fun k => spec_l1Cur_clue.f k l a s) (v, u, w, a', s') ∧ a ≤ a' ∧ a' ≤ a + 50 := by
  unfold spec_l1Cur_clue.f
  obtain ⟨p1, a1, s1, e1, _, _, g1, g2⟩ := pick_ok l hl a s 6 h0 (by omega)
  obtain ⟨p2, a2, s2, e2, _, _, g3, g4⟩ := pick_ok l hl a1 s1 9 (by omega) (by omega)
  obtain ⟨p3, a3, s3, e3, _, _, g5, g6⟩ := pick_ok l hl a2 s2 8 (by omega) (by omega)
  obtain ⟨p4, a4, s4, e4, _, _, g7, g8⟩ := pick_ok l hl a3 s3 9 (by omega) (by omega)
  generalize hx : wrap64 (p1 + wrap64 (Int.tdiv p2 8)) = x
  generalize hy : wrap64 (p3 - wrap64 (Int.tdiv p4 8)) = y
  by_cases c : x = 0
  · obtain ⟨p5, a5, s5, e5, _, _, g9, g10⟩ := pick_ok l hl a4 s4 3 (by omega) (by omega)
    obtain ⟨v, u, w, a6, s6, e6, g11, g12⟩ := clue_j1 l hl a5 s5 x p5 y (by omega) (by omega)
    refine ⟨v, u, w, a6, s6, ev_bind e1 (ev_bind e2 (ev_bind e3 (ev_bind e4 ?_))), by omega, by omega⟩
    dsimp only
    rw [hx, hy]
    exact ev_pos c (ev_bind e5 e6)
  · by_cases c2 : x = 1
    · obtain ⟨v, u, w, a6, s6, e6, g11, g12⟩ := clue_j0 l hl x (x == 1) a4 s4 x 0 y (by omega) (by omega)
      refine ⟨v, u, w, a6, s6, ev_bind e1 (ev_bind e2 (ev_bind e3 (ev_bind e4 ?_))), by omega, by omega⟩
      dsimp only
      rw [hx, hy]
      exact ev_neg c (ev_pos c2 e6)
    · obtain ⟨v, u, w, a6, s6, e6, g11, g12⟩ := clue_j0 l hl x (x == 3) a4 s4 x 0 y (by omega) (by omega)
      refine ⟨v, u, w, a6, s6, ev_bind e1 (ev_bind e2 (ev_bind e3 (ev_bind e4 ?_))), by omega, by omega⟩
      dsimp only
      rw [hx, hy]
      exact ev_neg c (ev_neg c2 e6)
theorem puz_l0 (l : List Int) (hl : Bytes l) : ∀ (d : Nat) (c : List C2) (a s : Int), 8 ≤ c.length + d → c.length ≤ 8 → 0 ≤ a → a + 2 * d ≤ 700000000000 → ∃ r a' s', Ev (fun k => spec_l1Cur_puzzle.l0 k l a s c) (r, a', s') ∧ r.length ≤ 8 ∧ a ≤ a' ∧ a' ≤ a + 2 * d + 2 := by
  intro d
  induction d with
  | zero =>
    intro c a s h8 hc h0 h1
    obtain ⟨v, a1, s1, hv, v0, v1, g1, g2⟩ := pick_ok l hl a s 2 h0 (by omega)
    refine ⟨c, a1, s1, ev_succ ?_, hc, by omega, by omega⟩
    simp only [spec_l1Cur_puzzle.l0]
    refine ev_bind hv ?_
    rw [wrap_of (by omega) (by omega)]
    exact ev_neg (by dsimp only; omega) (ev_eq fun _ => rfl)
  | succ d ih =>
    intro c a s h8 hc h0 h1
    obtain ⟨v, a1, s1, hv, v0, v1, g1, g2⟩ := pick_ok l hl a s 2 h0 (by omega)
    by_cases q : (c.length : Int) < 6 + v
    · obtain ⟨r, a', s', hr, h3, g3, g4⟩ := ih (c ++ [⟨0, 0, 5⟩]) a1 s1 (by simp; omega) (by simp; omega) (by omega) (by omega)
      refine ⟨r, a', s', ev_succ ?_, h3, by omega, by omega⟩
      simp only [spec_l1Cur_puzzle.l0]
      refine ev_bind hv ?_
      rw [wrap_of (by omega) (by omega)]
      exact ev_pos q (ev_pos (by omega) hr)
    · refine ⟨c, a1, s1, ev_succ ?_, hc, by omega, by omega⟩
      simp only [spec_l1Cur_puzzle.l0]
      refine ev_bind hv ?_
      rw [wrap_of (by omega) (by omega)]
      exact ev_neg q (ev_eq fun _ => rfl)
theorem puz_j0 (l : List Int) (hl : Bytes l) (x : Int) (b : Bool) (c : List C2) (hc : c.length ≤ 6) (a s : Int) (h0 : 0 ≤ a) (h1 : a ≤ 300000000000) : ∃ r a' s', Ev (fun k => spec_l1Cur_puzzle.j0 k x b l a s c) (r, a', s') ∧ r.length ≤ 8 ∧ a ≤ a' ∧ a' ≤ a + 60 := by
  by_cases q : b = true
  · obtain ⟨v, u, w, a1, s1, e1, g1, g2⟩ := clue_ok l hl a s h0 (by omega)
    refine ⟨c ++ [⟨v, u, w⟩], a1, s1, ev_succ ?_, by simp; omega, by omega, by omega⟩
    simp only [spec_l1Cur_puzzle.j0]
    exact ev_pos q (Ev.bind e1 (ev_pos (by omega) (ev_eq fun _ => rfl)))
  · by_cases q2 : x = 3
    · obtain ⟨r, a', s', e1, h3, g1, g2⟩ := puz_l0 l hl 8 c a s (by omega) (by omega) h0 (by omega)
      refine ⟨r, a', s', ev_succ ?_, h3, by omega, by omega⟩
      simp only [spec_l1Cur_puzzle.j0]
      exact ev_neg q (ev_pos q2 e1)
    · refine ⟨c, a, s, ev_succ ?_, by omega, by omega, by omega⟩
      simp only [spec_l1Cur_puzzle.j0]
      exact ev_neg q (ev_neg q2 (ev_eq fun _ => rfl))
theorem puzzle_ok (l : List Int) (hl : Bytes l) (a s : Int) (h0 : 0 ≤ a) (h1 : a ≤ 200000000000) : ∃ r a' s', Ev (fun k => spec_l1Cur_puzzle.f k l a s) (r, a', s') ∧ r.length ≤ 8 ∧ a ≤ a' ∧ a' ≤ a + 100 := by
  unfold spec_l1Cur_puzzle.f
  obtain ⟨c, a1, s1, e1, hg, g1, g2⟩ := sure_ok2 l hl a s 5 h0 (by omega)
  have hc := goodB_len hg
  obtain ⟨x, a2, s2, e2, _, _, g3, g4⟩ := pick_ok l hl a1 s1 12 (by omega) (by omega)
  have go : ∀ b : Bool, ∃ r a' s', Ev (fun k => spec_l1Cur_puzzle.j0 k x b l a2 s2 c) (r, a', s') ∧ r.length ≤ 8 ∧ a2 ≤ a' ∧ a' ≤ a2 + 60 := fun b => puz_j0 l hl x b c hc a2 s2 (by omega) (by omega)
  by_cases q0 : x = 0
  · obtain ⟨r, a', s', e, h, g5, g6⟩ := go (x == 0)
    exact ⟨r, a', s', Ev.bind e1 (ev_bind e2 (ev_pos q0 e)), h, by omega, by omega⟩
  · by_cases q1 : x = 1
    · obtain ⟨r, a', s', e, h, g5, g6⟩ := go (x == 1)
      exact ⟨r, a', s', Ev.bind e1 (ev_bind e2 (ev_neg q0 (ev_pos q1 e))), h, by omega, by omega⟩
    · obtain ⟨r, a', s', e, h, g5, g6⟩ := go (x == 2)
      exact ⟨r, a', s', Ev.bind e1 (ev_bind e2 (ev_neg q0 (ev_neg q1 e))), h, by omega, by omega⟩

theorem fit_yes (x : C2) (hx : clueS x = true) (n : Nat) (hn : n < 1296) : Ev (fun k => impl_DoesFit.f k x.f0 x.f1 x.f2 (tk n)) (fitB x n, true) := by
  have ht : (tk n).size ≤ 1048576 := by rw [tk_size]; omega
  have hc := implClue_ev x.f0 x.f1 x.f2
  rw [show clueB x.f0 x.f1 x.f2 = true from hx] at hc
  have hh := implHidden_ev (tk n) ht
  rw [hid_of n hn] at hh
  unfold impl_DoesFit.f
  exact Ev.bind hc (ev_pos rfl (Ev.bind hh (ev_pos rfl (Ev.bind (ev_from 24 (fun k hk => implFits_at x hx n hn k hk)) (ev_eq fun _ => rfl)))))
theorem iPz_loop (c : List C2) (hc : c.length ≤ 1000000) : ∀ (d i : Nat), i + d = c.length → Ev (fun k => laws_iPuzzle.l0 k (c.length : Int) (i : Int) c c) true := by
  intro d
  induction d with
  | zero =>
    intro i hi
    refine ev_succ ?_
    simp only [laws_iPuzzle.l0]
    exact ev_neg (by omega) (ev_eq fun _ => rfl)
  | succ d ih =>
    intro i hi
    refine ev_succ ?_
    simp only [laws_iPuzzle.l0]
    rw [wrap_nat (by omega)]
    exact ev_pos (by omega) (ev_pos (by omega) (ev_pos (by omega) (ev_pos (by omega) (ev_neg (by simp) (ih (i + 1) (by omega))))))
theorem iPz_ev (c : List C2) (hc : c.length ≤ 1000000) : Ev (fun k => laws_iPuzzle.f k c c) true := by
  unfold laws_iPuzzle.f
  exact ev_pos rfl (iPz_loop c hc c.length 0 (by omega))
theorem iTx_loop (c : List ByteArray) (hc : c.length ≤ 1000000) : ∀ (d i : Nat), i + d = c.length → Ev (fun k => laws_iTexts.l0 k c c (c.length : Int) (i : Int)) true := by
  intro d
  induction d with
  | zero =>
    intro i hi
    refine ev_succ ?_
    simp only [laws_iTexts.l0]
    exact ev_neg (by omega) (ev_eq fun _ => rfl)
  | succ d ih =>
    intro i hi
    refine ev_succ ?_
    simp only [laws_iTexts.l0]
    rw [wrap_nat (by omega)]
    exact ev_pos (by omega) (ev_pos (by omega) (ev_pos (by omega) (ev_pos (by omega) (ev_pos trivial (ih (i + 1) (by omega))))))
theorem iTx_ev (c : List ByteArray) (hc : c.length ≤ 1000000) : Ev (fun k => laws_iTexts.f k c c) true := by
  unfold laws_iTexts.f
  exact ev_pos rfl (iTx_loop c hc c.length 0 (by omega))
theorem sg_app (l : List C2) : ∀ (c n : Nat) (out : List ByteArray), sg l c n out = out ++ sg l c n []
  | 0, _, out => by simp [sg]
  | c + 1, n, out => by
    simp only [sg]
    rw [sg_app l c (n + 1) (if okT l n = true then out ++ [tk n] else out), sg_app l c (n + 1) (if okT l n = true then [] ++ [tk n] else [])]
    split
    · simp
    · simp
theorem sg_sub (l l' : List C2) (h : ∀ n, okT l n = true → okT l' n = true) : ∀ (c n : Nat), (sg l c n []).Sublist (sg l' c n [])
  | 0, _ => List.Sublist.refl _
  | c + 1, n => by
    simp only [sg]
    rw [sg_app l c (n + 1), sg_app l' c (n + 1)]
    have ih := sg_sub l l' h c (n + 1)
    by_cases q : okT l n = true
    · rw [if_pos q, if_pos (h n q)]
      exact List.Sublist.append (List.Sublist.refl _) ih
    · rw [if_neg q, List.nil_append]
      exact ih.trans (List.sublist_append_right _ _)
theorem sol_sub (l l' : List C2) (h : ∀ x ∈ l', x ∈ l) : (sol l).Sublist (sol l') := by
  unfold sol
  generalize 1296 = N
  refine sg_sub l l' (fun n hn => ?_) N 0
  unfold okT at hn ⊢
  rw [List.all_eq_true] at hn ⊢
  exact fun x hx => hn x (h x hx)
theorem erase_mem {l : List C2} {i : Nat} : ∀ x ∈ l.eraseIdx i, x ∈ l := fun x hx => List.mem_of_mem_eraseIdx hx
theorem nDig_le (n : Nat) : ∀ k, 0 < k → n < 10 ^ k → Lib.nDigits n ≤ k := by
  induction n using Nat.strongRecOn with
  | _ n ih =>
    intro k hk h
    by_cases c : n < 10
    · rw [Lib.nDigits_small c]; exact hk
    · rw [Lib.nDigits_big c]
      obtain ⟨k, rfl⟩ : ∃ j, k = j + 1 := ⟨k - 1, by omega⟩
      have hk1 : 0 < k := by
        rcases Nat.eq_zero_or_pos k with e | e
        · subst e; simp at h; omega
        · exact e
      have := ih (n / 10) (by omega) k hk1 (by rw [Nat.pow_succ] at h; omega)
      omega

/-! ### the reference's own decimals -/
theorem strOne (x : Int) (h0 : 0 ≤ x) (h : x < 256) : strOfNums [x] = (⟨[UInt8.ofNat x.toNat].toArray⟩ : ByteArray) := by
  unfold strOfNums
  simp
theorem l1Num_ev (n : Nat) (hn : n ≤ 9223372036854775807) : Ev (fun k => spec_l1Num.f k (n : Int)) ⟨(Lib.decDigits n).toArray⟩ := by
  induction n using Nat.strongRecOn with
  | _ n ih =>
    refine ev_succ ?_
    simp only [spec_l1Num.f]
    by_cases h : n < 10
    · refine ev_pos (by omega) (ev_eq fun _ => ?_)
      have e : wrap64 (48 + (n : Int)) % 256 = 48 + (n : Int) := by rw [wrap_of (by omega) (by omega)]; omega
      rw [e, strOne _ (by omega) (by omega), Lib.decDigits_one h, show (48 + (n : Int)).toNat = 48 + n by omega]
    · refine ev_neg (by omega) ?_
      have e1 : wrap64 (Int.tdiv (n : Int) 10) = ((n / 10 : Nat) : Int) := by
        rw [Int.tdiv_eq_ediv_of_nonneg (by omega), wrap_of (by omega) (by omega)]; omega
      rw [e1]
      have hd := ih (n / 10) (by omega) (by omega)
      refine Ev.bind hd (ev_eq fun _ => ?_)
      have e2 : Int.tmod (n : Int) 10 = ((n % 10 : Nat) : Int) := by rw [Int.tmod_eq_emod_of_nonneg (by omega)]; omega
      have e3 : wrap64 (48 + ((n % 10 : Nat) : Int)) % 256 = 48 + ((n % 10 : Nat) : Int) := by rw [wrap_of (by omega) (by omega)]; omega
      rw [e2, e3]
      simp only [Option.bind_some]
      rw [strOne _ (by omega) (by omega), show (48 + ((n % 10 : Nat) : Int)).toNat = 48 + n % 10 by omega]
      have hl := nDig_le (n / 10) 19 (by omega) (by omega)
      rw [mk_size, mk_size, Lib.decDigits_length, if_pos (by simp; omega), mk_append]
      congr 3
      rw [Lib.decDigits.eq_1 n, dif_neg h]
theorem itoa_small (n : Int) (h0 : 0 ≤ n) (h : n < 100) : strconv_Itoa.f n = some ⟨(Lib.decDigits n.toNat).toArray⟩ := by
  unfold strconv_Itoa.f
  rw [if_pos h0, if_pos h]

/-! ### the text of a puzzle -/
def word (x : C2) : List UInt8 := Lib.decDigits x.f0.toNat ++ [46] ++ Lib.decDigits x.f1.toNat ++ [46] ++ Lib.decDigits x.f2.toNat
def ptext (l : List C2) : List UInt8 := Lib.join (l.map word) [44]
theorem clue_bounds {x : C2} (h : clueS x = true) : 0 ≤ x.f0 ∧ x.f0 ≤ 5 ∧ 0 ≤ x.f1 ∧ x.f1 ≤ 3 ∧ 0 ≤ x.f2 ∧ x.f2 ≤ 20 := by
  unfold clueS clueB at h
  have := of_decide_eq_true h
  omega
theorem word_len {x : C2} (h : clueS x = true) : (word x).length ≤ 8 := by
  have hb := clue_bounds h
  have h0 := nDig_le x.f0.toNat 2 (by omega) (by omega)
  have h1 := nDig_le x.f1.toNat 2 (by omega) (by omega)
  have h2 := nDig_le x.f2.toNat 2 (by omega) (by omega)
  have g0 := nDig_le x.f0.toNat 1 (by omega) (by omega)
  have g1 := nDig_le x.f1.toNat 1 (by omega) (by omega)
  unfold word
  simp only [List.length_append, List.length_cons, List.length_nil, Lib.decDigits_length]
  omega
theorem join_snoc (a : List (List UInt8)) (y s : List UInt8) (h : a ≠ []) : Lib.join (a ++ [y]) s = Lib.join a s ++ s ++ y := by
  cases a with
  | nil => exact absurd rfl h
  | cons x r => rw [List.cons_append, Lib.join_cons, Lib.join_cons, Lib.joinTail, Lib.joinTail, List.map_append, List.flatten_append]; simp
theorem ptext_len (l : List C2) (hl : ∀ x ∈ l, clueS x = true) : (ptext l).length ≤ 9 * l.length := by
  cases l with
  | nil => simp [ptext, Lib.join_nil]
  | cons x r =>
    unfold ptext
    rw [List.map_cons, Lib.join_cons, List.length_append]
    have hx := word_len (hl x (List.mem_cons_self ..))
    have hr : ∀ r : List C2, (∀ x ∈ r, clueS x = true) → (Lib.joinTail [44] (r.map word)).length ≤ 9 * r.length := by
      intro r
      induction r with
      | nil => intro _; simp [Lib.joinTail]
      | cons y r ih =>
        intro h
        have h1 := word_len (h y (List.mem_cons_self ..))
        have h2 := ih (fun z hz => h z (List.mem_cons_of_mem _ hz))
        unfold Lib.joinTail at h2 ⊢
        simp only [List.map_cons, List.flatten_cons, List.length_append, List.length_cons, List.length_nil] at h2 ⊢
        omega
    have := hr r (fun z hz => hl z (List.mem_cons_of_mem _ hz))
    simp only [List.length_cons]
    omega
theorem l1Num_int (n : Int) (h0 : 0 ≤ n) (h : n ≤ 9223372036854775807) : Ev (fun k => spec_l1Num.f k n) ⟨(Lib.decDigits n.toNat).toArray⟩ := by
  have h := l1Num_ev n.toNat (by omega)
  rw [Int.toNat_of_nonneg h0] at h
  exact h
theorem m46 : (⟨#[46]⟩ : ByteArray) = ⟨[46].toArray⟩ := rfl
theorem m44 : (⟨#[44]⟩ : ByteArray) = ⟨[44].toArray⟩ := rfl
theorem pzText_loop (l : List C2) (hl : ∀ x ∈ l, clueS x = true) (h6 : l.length ≤ 6) : ∀ (d i : Nat), i + d = l.length → Ev (fun k => spec_pzText.l0 k ⟨(ptext (l.take i)).toArray⟩ l (l.length : Int) (i : Int)) ⟨(ptext l).toArray⟩ := by
  intro d
  induction d with
  | zero =>
    intro i hi
    refine ev_succ ?_
    simp only [spec_pzText.l0]
    rw [List.take_of_length_le (by omega)]
    exact ev_neg (by omega) (ev_eq fun _ => rfl)
  | succ d ih =>
    intro i hi
    refine ev_succ ?_
    simp only [spec_pzText.l0]
    have hlt : i < l.length := by omega
    have hb := clue_bounds (hl l[i] (List.getElem_mem hlt))
    have g0 := nDig_le l[i].f0.toNat 2 (by omega) (by omega)
    have g1 := nDig_le l[i].f1.toNat 2 (by omega) (by omega)
    have g2 := nDig_le l[i].f2.toNat 2 (by omega) (by omega)
    have hlen := ptext_len (l.take i) (fun x hx => hl x (List.mem_of_mem_take hx))
    rw [List.length_take] at hlen
    rw [rd_at l i hlt, m46, m44]
    have ihh := ih (i + 1) (by omega)
    rw [List.take_succ_eq_append_getElem hlt] at ihh
    have key : ∀ w, w = word l[i] → ptext (l.take i ++ [l[i]]) = if i = 0 then w else ptext (l.take i) ++ [44] ++ w := by
      rintro w rfl
      unfold ptext
      rw [List.map_append, List.map_cons, List.map_nil]
      by_cases c : i = 0
      · subst c; rw [if_pos rfl]; simp [Lib.join_one]
      · rw [if_neg c, join_snoc _ _ _ (fun e => by have e := congrArg List.length e; rw [List.length_map, List.length_take, List.length_nil] at e; omega)]
    have kw := key _ rfl
    rw [wrap_nat (by omega)]
    refine ev_pos (by omega) (ev_pos (by omega) (ev_pos (by omega) ?_))
    by_cases c : i = 0
    · subst c
      rw [if_pos rfl] at kw
      refine ev_neg (by omega) (Ev.bind (l1Num_int _ hb.1 (by omega)) (ev_pos (by rw [mk_size, Lib.decDigits_length]; omega) (Ev.bind (l1Num_int _ hb.2.2.1 (by omega)) ?_)))
      simp only [mk_append, mk_size, List.length_append, Lib.decDigits_length, List.length_cons, List.length_nil]
      refine ev_pos (by omega) (ev_pos (by omega) (Ev.bind (l1Num_int _ hb.2.2.2.2.1 (by omega)) ?_))
      simp only [mk_append, mk_size, List.length_append, Lib.decDigits_length, List.length_cons, List.length_nil]
      have e0 : ptext (List.take 0 l) = [] := rfl
      rw [e0] at hlen ⊢
      simp only [List.nil_append, List.length_nil]
      refine ev_pos (by omega) (ev_pos (by omega) ?_)
      rw [kw] at ihh
      unfold word at ihh
      exact ihh
    · rw [if_neg c] at kw
      refine ev_pos (by omega) (ev_pos (by rw [mk_size]; omega) (Ev.bind (l1Num_int _ hb.1 (by omega)) (ev_pos (by rw [mk_size, Lib.decDigits_length]; omega) (Ev.bind (l1Num_int _ hb.2.2.1 (by omega)) ?_))))
      simp only [mk_append, mk_size, List.length_append, Lib.decDigits_length, List.length_cons, List.length_nil]
      refine ev_pos (by omega) (ev_pos (by omega) (Ev.bind (l1Num_int _ hb.2.2.2.2.1 (by omega)) ?_))
      simp only [mk_append, mk_size, List.length_append, Lib.decDigits_length, List.length_cons, List.length_nil]
      refine ev_pos (by omega) (ev_pos (by omega) ?_)
      rw [kw] at ihh
      unfold word at ihh
      exact ihh
theorem pzText_ev (l : List C2) (hl : ∀ x ∈ l, clueS x = true) (h6 : l.length ≤ 6) : Ev (fun k => spec_pzText.f k l) ⟨(ptext l).toArray⟩ := by
  unfold spec_pzText.f
  exact pzText_loop l hl h6 l.length 0 (by omega)
theorem puzzleText_loop (l : List C2) (hl : ∀ x ∈ l, clueS x = true) (h6 : l.length ≤ 6) : ∀ (d i : Nat), i + d = l.length → Ev (fun k => impl_puzzleText.l0 k ((l.take i).map fun x => (⟨(word x).toArray⟩ : ByteArray)) l (l.length : Int) (i : Int)) ⟨(ptext l).toArray⟩ := by
  intro d
  induction d with
  | zero =>
    intro i hi
    refine ev_succ ?_
    simp only [impl_puzzleText.l0]
    rw [List.take_of_length_le (by omega)]
    refine ev_neg (by omega) (ev_bind ?_ (ev_eq fun _ => rfl))
    unfold strings_Join.f
    have e : ((l.map fun x => (⟨(word x).toArray⟩ : ByteArray)).map fun x => x.data.toList) = l.map word := by
      rw [List.map_map]; apply List.map_congr_left; intro x _; simp
    have hj : Lib.join (l.map word) (⟨#[44]⟩ : ByteArray).data.toList = ptext l := rfl
    have hlen := ptext_len l hl
    rw [e, hj, if_pos (by simp; omega), if_pos (by omega)]
  | succ d ih =>
    intro i hi
    refine ev_succ ?_
    simp only [impl_puzzleText.l0]
    have hlt : i < l.length := by omega
    have hb := clue_bounds (hl l[i] (List.getElem_mem hlt))
    have g0 := nDig_le l[i].f0.toNat 2 (by omega) (by omega)
    have g1 := nDig_le l[i].f1.toNat 2 (by omega) (by omega)
    have g2 := nDig_le l[i].f2.toNat 2 (by omega) (by omega)
    rw [rd_at l i hlt, m46, wrap_nat (by omega)]
    have ihh := ih (i + 1) (by omega)
    rw [List.take_succ_eq_append_getElem hlt, List.map_append, List.map_cons, List.map_nil] at ihh
    refine ev_pos (by omega) (ev_pos (by omega) (ev_pos (by omega) (ev_bind (itoa_small _ hb.1 (by omega)) (ev_pos (by rw [mk_size, Lib.decDigits_length]; omega) (ev_bind (itoa_small _ hb.2.2.1 (by omega)) ?_)))))
    simp only [mk_append, mk_size, List.length_append, Lib.decDigits_length, List.length_cons, List.length_nil]
    refine ev_pos (by omega) (ev_pos (by omega) (ev_bind (itoa_small _ hb.2.2.2.2.1 (by omega)) ?_))
    simp only [mk_append, mk_size, List.length_append, Lib.decDigits_length, List.length_cons, List.length_nil]
    refine ev_pos (by omega) (ev_pos (by simp; omega) ?_)
    unfold word at ihh ⊢
    exact ihh
theorem puzzleText_ev (l : List C2) (hl : ∀ x ∈ l, clueS x = true) (h6 : l.length ≤ 6) : Ev (fun k => impl_puzzleText.f k l) ⟨(ptext l).toArray⟩ := by
  unfold impl_puzzleText.f
  exact puzzleText_loop l hl h6 l.length 0 (by omega)

/-! ### a text cut at a byte -/
abbrev mkB (l : List UInt8) : ByteArray := ⟨l.toArray⟩
def sp (c : UInt8) : List UInt8 → List (List UInt8)
  | [] => [[]]
  | b :: l => if b = c then [] :: sp c l else match sp c l with
    | [] => [[b]]
    | h :: t => (b :: h) :: t
theorem sp_cons_eq (c : UInt8) (l : List UInt8) : sp c (c :: l) = [] :: sp c l := by rw [sp, if_pos rfl]
theorem sp_plain (c : UInt8) : ∀ w : List UInt8, c ∉ w → sp c w = [w]
  | [], _ => rfl
  | b :: w, h => by
    rw [sp, if_neg (show ¬ b = c from fun e => h (by rw [e]; exact List.mem_cons_self ..)), sp_plain c w (fun e => h (List.mem_cons_of_mem _ e))]
theorem sp_append (c : UInt8) (r : List UInt8) : ∀ w : List UInt8, c ∉ w → sp c (w ++ c :: r) = w :: sp c r
  | [], _ => sp_cons_eq c r
  | b :: w, h => by
    rw [List.cons_append, sp, if_neg (show ¬ b = c from fun e => h (by rw [e]; exact List.mem_cons_self ..)), sp_append c r w (fun e => h (List.mem_cons_of_mem _ e))]
theorem first_or (c : UInt8) (l : List UInt8) : c ∉ l ∨ ∃ w r, c ∉ w ∧ l = w ++ c :: r := by
  induction l with
  | nil => exact Or.inl (by simp)
  | cons b l ih =>
    by_cases e : b = c
    · subst e; exact Or.inr ⟨[], l, by simp, rfl⟩
    · rcases ih with h | ⟨w, r, h, rfl⟩
      · exact Or.inl (fun hm => (List.mem_cons.mp hm).elim (fun h1 => e h1.symm) (fun h1 => h h1))
      · exact Or.inr ⟨b :: w, r, fun hm => (List.mem_cons.mp hm).elim (fun h1 => e h1.symm) (fun h1 => h h1), rfl⟩
theorem sp_join (c : UInt8) : ∀ ws : List (List UInt8), ws ≠ [] → (∀ w ∈ ws, c ∉ w) → sp c (Lib.join ws [c]) = ws
  | [], h, _ => absurd rfl h
  | [w], _, h => by rw [Lib.join_one]; exact sp_plain c w (h w (by simp))
  | w :: x :: r, _, h => by
    have e : Lib.join (w :: x :: r) [c] = w ++ c :: Lib.join (x :: r) [c] := by
      rw [Lib.join_cons, Lib.join_cons, Lib.joinTail, Lib.joinTail]; simp
    rw [e, sp_append c _ w (h w (by simp)), sp_join c (x :: r) (by simp) (fun y hy => h y (List.mem_cons_of_mem _ hy))]
theorem index_none (c : UInt8) : ∀ l : List UInt8, c ∉ l → Lib.index l [c] = -1
  | [], _ => rfl
  | b :: l, h => by
    have hb : ¬ ([c].isPrefixOf (b :: l)) = true := by
      intro e; simp [List.isPrefixOf] at e; exact h (by rw [e]; exact List.mem_cons_self ..)
    rw [Lib.index, if_neg hb, index_none c l (fun e => h (List.mem_cons_of_mem _ e))]; rfl
theorem index_first (c : UInt8) (r : List UInt8) : ∀ w : List UInt8, c ∉ w → Lib.index (w ++ c :: r) [c] = (w.length : Int)
  | [], _ => by simp [Lib.index, List.isPrefixOf]
  | b :: w, h => by
    have hb : ¬ ([c].isPrefixOf (b :: (w ++ c :: r))) = true := by
      intro e; simp [List.isPrefixOf] at e; exact h (by rw [e]; exact List.mem_cons_self ..)
    rw [List.cons_append, Lib.index, if_neg hb, index_first c r w (fun e => h (List.mem_cons_of_mem _ e)), if_neg (by simp; try omega), List.length_cons]; omega
theorem splitK_sp (c : UInt8) : ∀ (n : Nat) (l : List UInt8), l.length ≤ n → Lib.splitK [c] 0 (Lib.count l [c]) l = sp c l := by
  intro n
  induction n with
  | zero =>
    intro l hl
    obtain rfl : l = [] := List.length_eq_zero_iff.mp (by omega)
    rw [Lib.count_miss (index_none c [] (by simp))]; rfl
  | succ n ih =>
    intro l hl
    rcases first_or c l with h | ⟨w, r, h, rfl⟩
    · rw [Lib.count_miss (index_none c l h), sp_plain c l h]; rfl
    · rw [Lib.count_hit (by simp) (index_first c r w h), sp_append c r w h, Nat.add_comm 1, Lib.splitK, index_first c r w h, if_neg (by simp; try omega)]
      have e1 : (w ++ c :: r).take ((w.length : Int).toNat + 0) = w := by simp
      have e2 : (w ++ c :: r).drop ((w.length : Int).toNat + [c].length) = r := by simp
      have e3 : (w ++ c :: r).drop (w.length + [c].length) = r := by simp
      rw [e1, e2, e3, ih r (by simp at hl; omega)]
theorem splitB_sp (c : UInt8) (s : ByteArray) : Lib.splitB (mkB [c]) 0 (Lib.countB s (mkB [c])) s = (sp c s.data.toList).map mkB := by
  have h := Lib.splitB_data (mkB [c]) 0 (Lib.countB s (mkB [c])) s
  have e : (mkB [c]).data.toList = [c] := by simp
  have e2 : Lib.countB s (mkB [c]) = Lib.count s.data.toList [c] := rfl
  rw [e, e2, splitK_sp c _ _ (Nat.le_refl _)] at h
  rw [← h, e2, List.map_map]
  conv => lhs; rw [← List.map_id (Lib.splitB _ _ _ _)]
  exact List.map_congr_left (fun x _ => by simp [Function.comp, mkB])
theorem sp_sizes (c : UInt8) : ∀ (l : List UInt8), (sp c l).length ≤ l.length + 1 ∧ 1 ≤ (sp c l).length ∧ ∀ w ∈ sp c l, w.length ≤ l.length := by
  intro l
  induction l with
  | nil => simp [sp]
  | cons b l ih =>
    rw [sp]
    by_cases e : b = c
    · rw [if_pos e]
      refine ⟨by simp; omega, by simp, fun w hw => ?_⟩
      rcases List.mem_cons.mp hw with rfl | hw
      · simp
      · have := ih.2.2 w hw; simp; omega
    · rw [if_neg e]
      cases hs : sp c l with
      | nil => rw [hs] at ih; simp at ih
      | cons h t =>
        rw [hs] at ih
        refine ⟨by have := ih.1; simp at this ⊢; omega, by simp, fun w hw => ?_⟩
        rcases List.mem_cons.mp hw with rfl | hw
        · have := ih.2.2 h (by simp); simp; omega
        · have := ih.2.2 w (by simp [hw]); simp; omega
theorem split_eq (c : UInt8) (s : ByteArray) (hs : s.size ≤ 1048576) : strings_Split.f s (mkB [c]) = some ((sp c s.data.toList).map mkB) := by
  unfold strings_Split.f
  rw [if_pos (by omega), if_pos (by rw [mk_size]; exact Nat.le_refl _), splitB_sp]
theorem l1Split_loop (s : ByteArray) (c : UInt8) (hs : s.size ≤ 1048576) : ∀ (d i j : Nat) (out : List ByteArray), i + d = s.size → j ≤ i → out.length ≤ i → c ∉ (s.data.toList.take i).drop j → Ev (fun k => spec_l1Split.l0 k s (c.toNat : Int) out (j : Int) (i : Int)) (out ++ (sp c (s.data.toList.drop j)).map mkB) := by
  have hsz := size_len s
  intro d
  induction d with
  | zero =>
    intro i j out hi hj ho hc
    refine ev_succ ?_
    simp only [spec_l1Split.l0]
    refine ev_neg (by omega) (ev_pos (by omega) (ev_pos (by omega) (ev_pos (by omega) (ev_eq fun _ => ?_))))
    rw [List.take_of_length_le (by omega)] at hc
    rw [sp_plain c _ hc, Int.toNat_natCast, of_list (drop_list s j)]
    rfl
  | succ d ih =>
    intro i j out hi hj ho hc
    refine ev_succ ?_
    simp only [spec_l1Split.l0]
    have hlt : i < s.data.toList.length := by omega
    have hd : (s.data.toList.take (i + 1)).drop j = (s.data.toList.take i).drop j ++ [s.data.toList[i]] := by
      rw [List.take_succ_eq_append_getElem hlt, List.drop_append_of_le_length (by rw [List.length_take]; omega)]
    have hl : s.data.toList.drop j = (s.data.toList.take i).drop j ++ s.data.toList[i] :: s.data.toList.drop (i + 1) := by
      conv => lhs; rw [← List.take_append_drop i s.data.toList]
      rw [List.drop_append_of_le_length (by rw [List.length_take]; omega), List.drop_eq_getElem_cons hlt]
    rw [bt_get s i hlt, wrap_nat (by omega)]
    refine ev_pos (by omega) (ev_pos (by omega) ?_)
    by_cases e : s.data.toList[i] = c
    · refine ev_pos (by rw [e]) (ev_pos (by omega) (ev_pos (by omega) (ev_pos (by omega) (ev_pos (by omega) ?_))))
      have h := ih (i + 1) (i + 1) (out ++ [s.extract j i]) (by omega) (by omega) (by simp; omega) (by simp)
      rw [hl, e, sp_append c _ _ hc, List.map_cons]
      rw [Int.toNat_natCast, Int.toNat_natCast]
      have he : s.extract j i = mkB ((s.data.toList.take i).drop j) := of_list (ext_list s j i (by omega))
      rw [List.append_assoc, he] at h
      rw [he]
      exact h
    · refine ev_neg (fun h => e (UInt8.toNat_inj.mp (by omega))) ?_
      refine ih (i + 1) j out (by omega) (by omega) (by omega) ?_
      rw [hd]
      intro hm
      rcases List.mem_append.mp hm with h | h
      · exact hc h
      · exact e (List.mem_singleton.mp h).symm
theorem l1Split_ev (s : ByteArray) (c : UInt8) (hs : s.size ≤ 1048576) : Ev (fun k => spec_l1Split.f k s (c.toNat : Int)) ((sp c s.data.toList).map mkB) := by
  unfold spec_l1Split.f
  have h := l1Split_loop s c hs s.size 0 0 [] (by omega) (by omega) (by simp) (by simp)
  simpa using h
theorem nitoa_small (n : Int) (h0 : 0 ≤ n) (h : n < 100) : impl_number.itoa n = some ⟨(Lib.decDigits n.toNat).toArray⟩ := by
  unfold impl_number.itoa
  rw [if_pos (by omega), if_pos (by omega)]
  unfold Lib.itoa
  rw [if_neg (by omega)]

/-! ### a puzzle read out of its text -/
def pdg (v : Nat) : List UInt8 := if v < 10 then [UInt8.ofNat (48 + v)] else [UInt8.ofNat (48 + v / 10), UInt8.ofNat (48 + v % 10)]
theorem dec_pdg (v : Nat) (h : v < 100) : Lib.decDigits v = pdg v := by
  unfold pdg
  by_cases c : v < 10
  · rw [if_pos c, Lib.decDigits_one c]
  · rw [if_neg c, Lib.decDigits.eq_1 v, dif_neg c, Lib.decDigits_one (by omega)]; rfl
theorem pchkV : (List.range 21).all (fun v => impl_number.val (mkB (pdg v)) == some (v : Int)) = true := by kernel_rfl
theorem pchkR : (List.range 21).all (fun v => spec_l1Read.f 8 (mkB (pdg v)) == some (v : Int)) = true := by kernel_rfl
theorem pchkC : (List.range 21).all (fun v => (pdg v).all (fun b => b != 44 && b != 46)) = true := by kernel_rfl
theorem num_dec (v : Int) (h0 : 0 ≤ v) (h : v ≤ 20) : impl_number.f (mkB (Lib.decDigits v.toNat)) 20 = some (v, true) := by
  have hv := List.all_eq_true.mp pchkV v.toNat (List.mem_range.mpr (by omega))
  have hv := eq_of_beq hv
  rw [← dec_pdg _ (by omega), Int.toNat_of_nonneg h0] at hv
  have hl := nDig_le v.toNat 2 (by omega) (by omega)
  unfold impl_number.f
  rw [if_pos (by rw [mk_size, Lib.decDigits_length]; omega), hv]
  dsimp only
  rw [nitoa_small v h0 (by omega), Option.bind_some, if_pos rfl, within_eq, Option.bind_some, if_pos (decide_eq_true ⟨h0, h⟩)]
theorem num_total (s : ByteArray) (hs : s.size ≤ 1048576) : ∃ r, impl_number.f s 20 = some r := by
  unfold impl_number.f
  rw [if_pos (by omega)]
  cases hv : impl_number.val s with
  | none => exact ⟨_, rfl⟩
  | some v =>
    have hb : -9223372036854775808 ≤ v ∧ v ≤ 9223372036854775807 := by
      unfold impl_number.val at hv
      rcases hc : Lib.atoiAll s.data.toList with u | _ | _
      · rw [hc] at hv; injection hv with hv; subst hv; exact Lib.atoiAll_bounds hc
      · rw [hc] at hv; cases hv
      · rw [hc] at hv; cases hv
    dsimp only
    unfold impl_number.itoa
    rw [if_pos hb.1, if_pos hb.2, Option.bind_some, within_eq, Option.bind_some]
    by_cases c : (⟨(Lib.itoa v).toArray⟩ : ByteArray).toList = s.toList
    · rw [if_pos c]
      by_cases c2 : decide (0 ≤ v ∧ v ≤ 20) = true
      · rw [if_pos c2]; exact ⟨_, rfl⟩
      · rw [if_neg c2]; exact ⟨_, rfl⟩
    · rw [if_neg c]; exact ⟨_, rfl⟩
theorem rds_at (l : List ByteArray) (i : Nat) (h : i < l.length) : rdOf ByteArray.empty l (i : Int) = l[i] := by
  unfold rdOf
  rw [Int.toNat_natCast, List.getD_eq_getElem?_getD, List.getElem?_eq_getElem h]; rfl
theorem arr_total (parts : List ByteArray) (hp : ∀ x ∈ parts, x.size ≤ 1048576) : ∀ (c i : Nat) (l : List Int), i + c ≤ parts.length → ∃ l', impl_ParsePuzzle.arr parts c i l = some l' := by
  intro c
  induction c with
  | zero => intro i l _; exact ⟨l, rfl⟩
  | succ c ih =>
    intro i l h
    rw [impl_ParsePuzzle.arr, rds_at parts i (by omega)]
    obtain ⟨r, hr⟩ := num_total parts[i] (hp _ (List.getElem_mem (by omega)))
    rw [hr, Option.bind_some]
    exact ih (i + 1) _ (by omega)
theorem arr3 (a b c : Int) (ha : 0 ≤ a ∧ a ≤ 20) (hb : 0 ≤ b ∧ b ≤ 20) (hc : 0 ≤ c ∧ c ≤ 20) : impl_ParsePuzzle.arr [mkB (Lib.decDigits a.toNat), mkB (Lib.decDigits b.toNat), mkB (Lib.decDigits c.toNat)] 3 0 [0, 0, 0] = some [a, b, c] := by
  rw [impl_ParsePuzzle.arr, rds_at _ 0 (by simp)]
  show (impl_number.f (mkB (Lib.decDigits a.toNat)) 20).bind _ = _
  rw [num_dec a ha.1 ha.2, Option.bind_some, impl_ParsePuzzle.arr, rds_at _ (0 + 1) (by simp)]
  show (impl_number.f (mkB (Lib.decDigits b.toNat)) 20).bind _ = _
  rw [num_dec b hb.1 hb.2, Option.bind_some, impl_ParsePuzzle.arr, rds_at _ (0 + 1 + 1) (by simp)]
  show (impl_number.f (mkB (Lib.decDigits c.toNat)) 20).bind _ = _
  rw [num_dec c hc.1 hc.2, Option.bind_some, impl_ParsePuzzle.arr]
  rfl
theorem dec_no (v : Int) (h0 : 0 ≤ v) (h : v ≤ 20) : (44 : UInt8) ∉ Lib.decDigits v.toNat ∧ (46 : UInt8) ∉ Lib.decDigits v.toNat := by
  have hv := List.all_eq_true.mp pchkC v.toNat (List.mem_range.mpr (by omega))
  rw [← dec_pdg _ (by omega), List.all_eq_true] at hv
  refine ⟨fun hm => ?_, fun hm => ?_⟩
  · have := hv _ hm; simp at this
  · have := hv _ hm; simp at this
theorem word_sp {x : C2} (h : clueS x = true) : sp 46 (word x) = [Lib.decDigits x.f0.toNat, Lib.decDigits x.f1.toNat, Lib.decDigits x.f2.toNat] ∧ (44 : UInt8) ∉ word x := by
  have hb := clue_bounds h
  have n0 := dec_no x.f0 hb.1 (by omega)
  have n1 := dec_no x.f1 hb.2.2.1 (by omega)
  have n2 := dec_no x.f2 hb.2.2.2.2.1 (by omega)
  have e : word x = Lib.decDigits x.f0.toNat ++ 46 :: (Lib.decDigits x.f1.toNat ++ 46 :: Lib.decDigits x.f2.toNat) := by
    unfold word; simp
  refine ⟨?_, ?_⟩
  · rw [e, sp_append 46 _ _ n0.2, sp_append 46 _ _ n1.2, sp_plain 46 _ n2.2]
  · rw [e]
    intro hm
    rcases List.mem_append.mp hm with h1 | h1
    · exact n0.1 h1
    · rcases List.mem_cons.mp h1 with h1 | h1
      · exact absurd h1 (by decide)
      · rcases List.mem_append.mp h1 with h1 | h1
        · exact n1.1 h1
        · rcases List.mem_cons.mp h1 with h1 | h1
          · exact absurd h1 (by decide)
          · exact n2.1 h1
theorem ptext_sp (p : List C2) (hp : ∀ x ∈ p, clueS x = true) (hn : p ≠ []) : sp 44 (ptext p) = p.map word := by
  unfold ptext
  refine sp_join 44 _ (by simpa using hn) (fun w hw => ?_)
  obtain ⟨x, hx, rfl⟩ := List.mem_map.mp hw
  exact (word_sp (hp x hx)).2
theorem go_total (words : List ByteArray) (hw : ∀ w ∈ words, w.size ≤ 1048576) : ∀ (c j : Nat) (out : List C2), j + c ≤ words.length → ∃ L, impl_ParsePuzzle.go words c j out = some L := by
  intro c
  induction c with
  | zero => intro j out _; exact ⟨out, rfl⟩
  | succ c ih =>
    intro j out h
    rw [impl_ParsePuzzle.go, rds_at words j (by omega)]
    have hs := hw words[j] (List.getElem_mem (by omega))
    have e := split_eq 46 words[j] hs
    rw [m46, show (⟨[46].toArray⟩ : ByteArray) = mkB [46] from rfl, e, Option.bind_some]
    have hz := sp_sizes 46 words[j].data.toList
    rw [size_len] at hz
    obtain ⟨l, hl⟩ := arr_total ((sp 46 words[j].data.toList).map mkB) (fun x hx => by
      obtain ⟨y, hy, rfl⟩ := List.mem_map.mp hx
      rw [mk_size]; have := hz.2.2 y hy; omega) (min ((sp 46 words[j].data.toList).map mkB).length 3) 0 [0, 0, 0] (by omega)
    rw [hl, Option.bind_some]
    exact ih (j + 1) _ (by omega)
theorem go_text (p : List C2) (hp : ∀ x ∈ p, clueS x = true) : ∀ (c j : Nat) (out : List C2), j + c = p.length → impl_ParsePuzzle.go (p.map fun x => mkB (word x)) c j out = some (out ++ p.drop j) := by
  intro c
  induction c with
  | zero => intro j out h; rw [impl_ParsePuzzle.go, List.drop_eq_nil_of_le (by omega), List.append_nil]
  | succ c ih =>
    intro j out h
    have hlt : j < p.length := by omega
    have hx := hp p[j] (List.getElem_mem hlt)
    have hb := clue_bounds hx
    have hwl := word_len hx
    rw [impl_ParsePuzzle.go, rds_at _ j (by simpa using hlt), List.getElem_map, m46, show (⟨[46].toArray⟩ : ByteArray) = mkB [46] from rfl, split_eq 46 _ (by rw [mk_size]; omega), Option.bind_some, list_of, (word_sp hx).1]
    have e3 : min (List.map mkB [Lib.decDigits p[j].f0.toNat, Lib.decDigits p[j].f1.toNat, Lib.decDigits p[j].f2.toNat]).length 3 = 3 := rfl
    rw [e3]
    show (impl_ParsePuzzle.arr [mkB (Lib.decDigits p[j].f0.toNat), mkB (Lib.decDigits p[j].f1.toNat), mkB (Lib.decDigits p[j].f2.toNat)] 3 0 [0, 0, 0]).bind _ = _
    rw [arr3 _ _ _ ⟨hb.1, by omega⟩ ⟨hb.2.2.1, by omega⟩ ⟨hb.2.2.2.2.1, by omega⟩, Option.bind_some, ih (j + 1) _ (by omega), List.drop_eq_getElem_cons hlt, List.append_assoc]
    rfl
theorem read_loop (s : ByteArray) (hs : s.size ≤ 1048576) : ∀ (d i : Nat) (n : Int), i + d = s.size → ∃ v, Ev (fun k => spec_l1Read.l0 k s n (i : Int)) v := by
  intro d
  induction d with
  | zero =>
    intro i n h
    refine ⟨n, ev_succ ?_⟩
    simp only [spec_l1Read.l0]
    exact ev_neg (by omega) (ev_eq fun _ => rfl)
  | succ d ih =>
    intro i n h
    by_cases c : bt s (i : Int) < 48
    · refine ⟨-1, ev_succ ?_⟩
      simp only [spec_l1Read.l0]
      exact ev_pos (by omega) (ev_pos (by omega) (ev_pos c (ev_eq fun _ => rfl)))
    by_cases c2 : bt s (i : Int) > 57
    · refine ⟨-1, ev_succ ?_⟩
      simp only [spec_l1Read.l0]
      exact ev_pos (by omega) (ev_pos (by omega) (ev_neg c (ev_pos c2 (ev_eq fun _ => rfl))))
    obtain ⟨v, hv⟩ := ih (i + 1) (wrap64 ((wrap64 (10 * n)) + (((bt s (i : Int)) - 48) % 256))) (by omega)
    refine ⟨v, ev_succ ?_⟩
    simp only [spec_l1Read.l0]
    rw [wrap_nat (by omega)]
    exact ev_pos (by omega) (ev_pos (by omega) (ev_neg c (ev_neg c2 hv)))
theorem readj (s : ByteArray) (hs : s.size ≤ 1048576) (b : Bool) : ∃ v, Ev (fun k => spec_l1Read.j0 k s b) v := by
  cases b with
  | true => exact ⟨-1, ev_succ (by simp only [spec_l1Read.j0]; exact ev_pos trivial (ev_eq fun _ => rfl))⟩
  | false =>
    obtain ⟨v, hv⟩ := read_loop s hs s.size 0 0 (by omega)
    exact ⟨v, ev_succ (by simp only [spec_l1Read.j0]; exact ev_neg (by decide) hv)⟩
theorem read_total (s : ByteArray) (hs : s.size ≤ 1048576) : ∃ v, Ev (fun k => spec_l1Read.f k s) v := by
  unfold spec_l1Read.f
  by_cases h : (1 : Int) ≤ s.size ∧ (s.size : Int) ≤ 6
  · by_cases c : bt s 0 = 48
    · obtain ⟨v, hv⟩ := readj s hs (decide ((s.size : Int) > 1))
      exact ⟨v, ev_bind (l1In_eq _ _ _) (ev_pos (decide_eq_true h) (ev_pos (by omega) (ev_pos c hv)))⟩
    · obtain ⟨v, hv⟩ := readj s hs false
      exact ⟨v, ev_bind (l1In_eq _ _ _) (ev_pos (decide_eq_true h) (ev_pos (by omega) (ev_neg c hv)))⟩
  · obtain ⟨v, hv⟩ := readj s hs true
    exact ⟨v, ev_bind (l1In_eq _ _ _) (ev_neg (by rw [decide_eq_false h]; decide) hv)⟩
theorem read_dec (v : Int) (h0 : 0 ≤ v) (h : v ≤ 20) : Ev (fun k => spec_l1Read.f k (mkB (Lib.decDigits v.toNat))) v := by
  have hv := List.all_eq_true.mp pchkR v.toNat (List.mem_range.mpr (by omega))
  have hv := eq_of_beq hv
  rw [← dec_pdg _ (by omega), Int.toNat_of_nonneg h0] at hv
  exact ev_from 8 (fun k hk => mono_le (g := fun k => spec_l1Read.f k _) (fun k => spec_l1Read.mono _ k) hv hk)
theorem good_parts {l : List C2} (h : goodB l = true) : (∀ x ∈ l, clueS x = true) ∧ l.length ≤ 6 := by
  unfold goodB at h
  rw [Bool.and_eq_true, List.all_eq_true] at h
  exact ⟨h.2, of_decide_eq_true h.1⟩
theorem pl_any (s : ByteArray) (words : List ByteArray) (hw : ∀ w ∈ words, w.size ≤ 1048576) (hl : words.length ≤ 1048577) : ∀ (d i : Nat) (acc : List C2), i + d = words.length → acc.length ≤ i → ∃ r, Ev (fun k => spec_pzParse.l0 k s words (words.length : Int) (i : Int) acc) r ∧ (r.2 = true → goodB r.1 = true ∧ ptext r.1 = s.data.toList) := by
  intro d
  induction d with
  | zero =>
    intro i acc hi ha
    cases hg : goodB acc with
    | false =>
      refine ⟨(acc, false), ev_succ ?_, fun h => by cases h⟩
      simp only [spec_pzParse.l0]
      exact ev_neg (by omega) (Ev.bind (hg ▸ pzGood_ev acc) (ev_neg (by decide) (ev_eq fun _ => rfl)))
    | true =>
      have hp := good_parts hg
      refine ⟨(acc, (mkB (ptext acc)).toList == s.toList), ev_succ ?_, fun h => ⟨hg, ?_⟩⟩
      · simp only [spec_pzParse.l0]
        exact ev_neg (by omega) (Ev.bind (hg ▸ pzGood_ev acc) (ev_pos rfl (Ev.bind (pzText_ev acc hp.1 hp.2) (ev_eq fun _ => rfl))))
      · have h := eq_of_beq h
        rw [Lib.toList_data, Lib.toList_data, list_of] at h
        exact h
  | succ d ih =>
    intro i acc hi ha
    have hlt : i < words.length := by omega
    have hs := hw words[i] (List.getElem_mem hlt)
    have hsp := l1Split_ev words[i] 46 hs
    have hz := sp_sizes 46 words[i].data.toList
    rw [size_len] at hz
    have hsz : ∀ q (h : q < ((sp 46 words[i].data.toList).map mkB).length), (((sp 46 words[i].data.toList).map mkB)[q]).size ≤ 1048576 := by
      intro q h
      obtain ⟨y, hy, e⟩ := List.mem_map.mp (List.getElem_mem h)
      rw [← e, mk_size]; have := hz.2.2 y hy; omega
    generalize hP : (sp 46 words[i].data.toList).map mkB = P at hsp hsz
    by_cases h3 : P.length = 3
    · obtain ⟨v0, h0⟩ := read_total P[0] (hsz 0 (by omega))
      obtain ⟨v1, h1⟩ := read_total P[1] (hsz 1 (by omega))
      obtain ⟨v2, h2⟩ := read_total P[2] (hsz 2 (by omega))
      obtain ⟨r, hr, hq⟩ := ih (i + 1) (acc ++ [(⟨v0, v1, v2⟩ : C2)]) (by omega) (by simp; omega)
      refine ⟨r, ev_succ ?_, hq⟩
      simp only [spec_pzParse.l0]
      rw [rds_at words i hlt, wrap_nat (by omega)]
      refine ev_pos (by omega) (ev_pos (by omega) (ev_pos (by omega) (Ev.bind hsp (ev_pos (by omega) (ev_pos (by omega) ?_)))))
      rw [show rdOf ByteArray.empty P 0 = P[0] from rds_at P 0 (by omega), show rdOf ByteArray.empty P 1 = P[1] from rds_at P 1 (by omega), show rdOf ByteArray.empty P 2 = P[2] from rds_at P 2 (by omega)]
      exact Ev.bind h0 (ev_pos (by omega) (Ev.bind h1 (ev_pos (by omega) (Ev.bind h2 (ev_pos (by omega) hr)))))
    · refine ⟨(acc, false), ev_succ ?_, fun h => by cases h⟩
      simp only [spec_pzParse.l0]
      rw [rds_at words i hlt]
      exact ev_pos (by omega) (ev_pos (by omega) (ev_pos (by omega) (Ev.bind hsp (ev_neg (by omega) (ev_eq fun _ => rfl)))))
theorem pl_text (p : List C2) (hg : goodB p = true) : ∀ (d i : Nat), i + d = p.length → Ev (fun k => spec_pzParse.l0 k (mkB (ptext p)) (p.map fun x => mkB (word x)) (p.length : Int) (i : Int) (p.take i)) (p, true) := by
  have hp := good_parts hg
  intro d
  induction d with
  | zero =>
    intro i hi
    refine ev_succ ?_
    simp only [spec_pzParse.l0]
    rw [List.take_of_length_le (by omega)]
    exact ev_neg (by omega) (Ev.bind (hg ▸ pzGood_ev p) (ev_pos rfl (Ev.bind (pzText_ev p hp.1 hp.2) (ev_eq fun _ => by simp))))
  | succ d ih =>
    intro i hi
    have hlt : i < p.length := by omega
    have hx := hp.1 p[i] (List.getElem_mem hlt)
    have hb := clue_bounds hx
    have hwl := word_len hx
    have hsp := l1Split_ev (mkB (word p[i])) 46 (by rw [mk_size]; omega)
    rw [list_of, (word_sp hx).1] at hsp
    have ihh := ih (i + 1) (by omega)
    rw [List.take_succ_eq_append_getElem hlt] at ihh
    refine ev_succ ?_
    simp only [spec_pzParse.l0]
    rw [rds_at _ i (by simpa using hlt), List.getElem_map, wrap_nat (by omega)]
    refine ev_pos (by omega) (ev_pos (by omega) (ev_pos (by rw [List.length_map]; omega) (Ev.bind hsp (ev_pos (by simp) (ev_pos (by simp) ?_)))))
    refine Ev.bind (read_dec p[i].f0 hb.1 (by omega)) (ev_pos (by simp) (Ev.bind (read_dec p[i].f1 hb.2.2.1 (by omega)) (ev_pos (by simp) (Ev.bind (read_dec p[i].f2 hb.2.2.2.2.1 (by omega)) (ev_pos (by rw [List.length_take]; omega) ?_)))))
    exact ihh
theorem ptext_ne {p : List C2} {s : ByteArray} (h : ptext p = s.data.toList) (hs : ¬ s.toList = []) : p ≠ [] := by
  rintro rfl
  rw [Lib.toList_data] at hs
  exact hs h.symm
theorem parse_both (s : ByteArray) (hs : s.size ≤ 1048576) : ∃ r : List C2 × Bool, r.1.length ≤ 6 ∧ Ev (fun k => spec_ParsePuzzle.f k s) r ∧ Ev (fun k => impl_ParsePuzzle.f k s) r ∧ (r.2 = true → goodB r.1 = true ∧ s = mkB (ptext r.1)) := by
  by_cases e : s.toList = []
  · have h0 : s.size = 0 := by rw [Lib.toList_data] at e; rw [← size_len, e]; rfl
    refine ⟨([], true), by simp, ?_, ?_, fun _ => ⟨rfl, of_list (by rw [Lib.toList_data] at e; exact e)⟩⟩
    · unfold spec_ParsePuzzle.f spec_pzParse.f
      exact Ev.bind (a := (([] : List C2), true)) (ev_neg (by omega) (ev_pos e (ev_eq fun _ => rfl))) (ev_pos rfl (ev_eq fun _ => rfl))
    · unfold impl_ParsePuzzle.f
      exact ev_pos e (ev_eq fun _ => rfl)
  have hz := sp_sizes 44 s.data.toList
  rw [size_len] at hz
  have hw : ∀ w ∈ (sp 44 s.data.toList).map mkB, w.size ≤ 1048576 := fun w hm => by
    obtain ⟨y, hy, rfl⟩ := List.mem_map.mp hm
    rw [mk_size]; have := hz.2.2 y hy; omega
  have hwn : ((sp 44 s.data.toList).map mkB).length ≤ 1048577 := by rw [List.length_map]; omega
  obtain ⟨L, hgo⟩ := go_total _ hw ((sp 44 s.data.toList).map mkB).length 0 [] (by omega)
  have hsplit : strings_Split.f s (⟨#[44]⟩ : ByteArray) = some ((sp 44 s.data.toList).map mkB) := split_eq 44 s hs
  have hl1 : Ev (fun k => spec_l1Split.f k s 44) ((sp 44 s.data.toList).map mkB) := l1Split_ev s 44 hs
  have key : ∀ p : List C2, goodB p = true → ptext p = s.data.toList → (sp 44 s.data.toList).map mkB = p.map fun x => mkB (word x) := fun p hg ht => by
    rw [← ht, ptext_sp p (good_parts hg).1 (ptext_ne ht e), List.map_map]; rfl
  by_cases g : goodB L = true ∧ ptext L = s.data.toList
  · obtain ⟨hg, ht⟩ := g
    have hp := good_parts hg
    have hlen := ptext_len L hp.1
    have hse : s = mkB (ptext L) := of_list ht.symm
    have hs60 : s.size ≤ 60 := by rw [hse, mk_size]; omega
    refine ⟨(L, true), hp.2, ?_, ?_, fun _ => ⟨hg, hse⟩⟩
    · unfold spec_ParsePuzzle.f spec_pzParse.f
      refine Ev.bind (a := (L, true)) (ev_neg (by omega) (ev_neg e (Ev.bind hl1 ?_))) (ev_pos rfl (ev_eq fun _ => rfl))
      have h := pl_text L hg L.length 0 (by omega)
      rw [key L hg ht, List.length_map]
      rw [← hse] at h
      exact h
    · unfold impl_ParsePuzzle.f
      refine ev_neg e (ev_bind hsplit (ev_pos (by omega) (ev_bind hgo (Ev.bind (hg ▸ isPuzzle_ev L) (ev_pos rfl (Ev.bind (puzzleText_ev L hp.1 hp.2) (ev_pos ?_ (ev_eq fun _ => rfl))))))))
      rw [Lib.toList_data, Lib.toList_data, list_of]
      exact ht
  · refine ⟨([], false), by simp, ?_, ?_, fun h => by cases h⟩
    · unfold spec_ParsePuzzle.f spec_pzParse.f
      by_cases c : (s.size : Int) > 60
      · exact Ev.bind (a := (([] : List C2), false)) (ev_pos c (ev_eq fun _ => rfl)) (ev_neg (by decide) (ev_eq fun _ => rfl))
      obtain ⟨⟨r1, r2⟩, hr, hq⟩ := pl_any s _ hw hwn ((sp 44 s.data.toList).map mkB).length 0 [] (by omega) (by simp)
      cases r2 with
      | false => exact Ev.bind (ev_neg c (ev_neg e (Ev.bind hl1 hr))) (ev_neg (fun h => by cases h) (ev_eq fun _ => rfl))
      | true =>
        exfalso
        obtain ⟨h1, h2⟩ := hq rfl
        have hk := key r1 h1 h2
        have ht := go_text r1 (good_parts h1).1 r1.length 0 [] (by omega)
        rw [hk, List.length_map, ht] at hgo
        have e2 : r1 = L := by simpa using hgo
        exact g (e2 ▸ ⟨h1, h2⟩)
    · unfold impl_ParsePuzzle.f
      refine ev_neg e (ev_bind hsplit (ev_pos (by omega) (ev_bind hgo ?_)))
      cases hg : goodB L with
      | false => exact Ev.bind (hg ▸ isPuzzle_ev L) (ev_neg (by decide) (ev_eq fun _ => rfl))
      | true =>
        have hp := good_parts hg
        refine Ev.bind (hg ▸ isPuzzle_ev L) (ev_pos rfl (Ev.bind (puzzleText_ev L hp.1 hp.2) (ev_neg ?_ (ev_eq fun _ => rfl))))
        rw [Lib.toList_data, Lib.toList_data, list_of]
        exact fun ht => g ⟨hg, ht⟩
theorem parse_text (p : List C2) (hg : goodB p = true) : Ev (fun k => impl_ParsePuzzle.f k (mkB (ptext p))) (p, true) := by
  have hp := good_parts hg
  have hlen := ptext_len p hp.1
  have hs : (mkB (ptext p)).size ≤ 1048576 := by rw [mk_size]; omega
  unfold impl_ParsePuzzle.f
  by_cases e : (mkB (ptext p)).toList = []
  · refine ev_pos e (ev_eq fun _ => ?_)
    rw [Lib.toList_data, list_of] at e
    cases p with
    | nil => rfl
    | cons x r =>
      exfalso
      unfold ptext at e
      rw [List.map_cons, Lib.join_cons] at e
      have := List.append_eq_nil_iff.mp e
      have h1 := this.1
      unfold word at h1
      simp at h1
  · have hne : p ≠ [] := by rintro rfl; exact e (by rw [Lib.toList_data, list_of]; rfl)
    have hk : (sp 44 (mkB (ptext p)).data.toList).map mkB = p.map fun x => mkB (word x) := by rw [list_of, ptext_sp p hp.1 hne, List.map_map]; rfl
    have hsplit : strings_Split.f (mkB (ptext p)) (⟨#[44]⟩ : ByteArray) = some ((sp 44 (mkB (ptext p)).data.toList).map mkB) := split_eq 44 _ hs
    rw [hk] at hsplit
    have hgo := go_text p hp.1 p.length 0 [] (by omega)
    rw [List.nil_append, List.drop_zero] at hgo
    refine ev_neg e (ev_bind hsplit (ev_pos (by rw [List.length_map]; omega) ?_))
    rw [List.length_map]
    refine ev_bind hgo (Ev.bind (hg ▸ isPuzzle_ev p) (ev_pos rfl (Ev.bind (puzzleText_ev p hp.1 hp.2) (ev_pos rfl (ev_eq fun _ => rfl)))))

theorem one_list (a : UInt8) : (⟨#[a]⟩ : ByteArray).toList = [a] := by
  unfold ByteArray.toList
  rw [ByteArray.toList.loop, if_pos (by show (0 : Nat) < 1; decide), ByteArray.toList.loop, if_neg (by show ¬ (1 : Nat) < 1; decide)]
  rfl
theorem four_of (t : ByteArray) (h : t.size = 4) : ∃ a b c d, t = ⟨#[a, b, c, d]⟩ := by
  obtain ⟨⟨l⟩⟩ := t
  have h : l.length = 4 := h
  match l, h with
  | [a, b, c, d], _ => exact ⟨a, b, c, d, rfl⟩
def U (t : ByteArray) (i : Nat) : UInt8 := t.data.getD i 0
theorem four_cases {i : Nat} (h : i < 4) : i = 0 ∨ i = 1 ∨ i = 2 ∨ i = 3 := by omega
theorem ex_U (t : ByteArray) (h : t.size = 4) (i : Nat) (hi : i < 4) : t.extract i (i + 1) = ⟨#[U t i]⟩ := by
  obtain ⟨a, b, c, d, rfl⟩ := four_of t h
  rcases four_cases hi with rfl | rfl | rfl | rfl <;> rfl
theorem bt_U (t : ByteArray) (h : t.size = 4) (i : Nat) (hi : i < 4) : bt t (i : Int) = ((U t i).toNat : Int) := by
  obtain ⟨a, b, c, d, rfl⟩ := four_of t h
  rcases four_cases hi with rfl | rfl | rfl | rfl <;> rfl
theorem bytes_U (t : ByteArray) (h : t.size = 4) : bytesOf t = [((U t 0).toNat : Int), ((U t 1).toNat : Int), ((U t 2).toNat : Int), ((U t 3).toNat : Int)] := by
  obtain ⟨a, b, c, d, rfl⟩ := four_of t h
  rfl
theorem bt_eq (t h : ByteArray) (ht : t.size = 4) (hh : h.size = 4) (i : Nat) (hi : i < 4) : (bt t (i : Int) = bt h (i : Int)) ↔ U t i = U h i := by
  rw [bt_U t ht i hi, bt_U h hh i hi]
  constructor
  · intro e
    exact UInt8.toNat_inj.mp (by omega)
  · intro e; rw [e]
def z (b : Bool) (x : Int) : Int := if b then x else 63
theorem z_z (a b : Bool) (x : Int) : z b (z a x) = z (a && b) x := by cases a <;> cases b <;> rfl
def same (h : ByteArray) (i : Nat) (t : ByteArray) : Bool := U t i == U h i
theorem row_eq (h t : ByteArray) (ht : t.size = 4) (hh : h.size = 4) (x0 x1 x2 x3 : Int) : impl_SureDigits.row h t 4 0 [x0, x1, x2, x3] = [z (same h 0 t) x0, z (same h 1 t) x1, z (same h 2 t) x2, z (same h 3 t) x3] := by
  have e : ∀ i, i < 4 → ∀ o, impl_SureDigits.cell h t i o = if same h i t then o else o.set i 63 := by
    intro i hi o
    unfold impl_SureDigits.cell same
    by_cases c : U t i = U h i
    · rw [if_pos ((bt_eq t h ht hh i hi).mpr c), if_pos (by simpa using c)]
    · rw [if_neg (fun x => c ((bt_eq t h ht hh i hi).mp x)), if_neg (by simpa using c)]
  simp only [impl_SureDigits.row]
  rw [e 0 (by omega), e (0 + 1) (by omega), e (0 + 1 + 1) (by omega), e (0 + 1 + 1 + 1) (by omega)]
  show (if same h 3 t then _ else _) = _
  cases same h 0 t <;> cases same h 1 t <;> cases same h 2 t <;> cases same h 3 t <;> rfl
theorem all_eq (h : ByteArray) (hh : h.size = 4) : ∀ (L : List ByteArray) (_ : ∀ t ∈ L, t.size = 4) (x0 x1 x2 x3 : Int), impl_SureDigits.all h L [x0, x1, x2, x3] = [z (L.all (same h 0)) x0, z (L.all (same h 1)) x1, z (L.all (same h 2)) x2, z (L.all (same h 3)) x3]
  | [], _, _, _, _, _ => rfl
  | t :: r, hL, x0, x1, x2, x3 => by
    unfold impl_SureDigits.all
    rw [row_eq h t (hL t List.mem_cons_self) hh, all_eq h hh r (fun y hy => hL y (List.mem_cons_of_mem _ hy))]
    simp only [z_z, List.all_cons]
def pd (h : ByteArray) (L : List ByteArray) (i : Nat) : UInt8 := if L.all (same h i) then U h i else 63
theorem z_pd (h : ByteArray) (L : List ByteArray) (i : Nat) : UInt8.ofNat (z (L.all (same h i)) ((U h i).toNat : Int)).toNat = pd h L i := by
  unfold z pd
  cases L.all (same h i) <;> simp
def four (h : ByteArray) (L : List ByteArray) : ByteArray := ⟨#[pd h L 0, pd h L 1, pd h L 2, pd h L 3]⟩
theorem impl_four (h : ByteArray) (L : List ByteArray) (hh : h.size = 4) (hL : ∀ t ∈ L, t.size = 4) : strOfNums (impl_SureDigits.all h L (bytesOf h)) = four h L := by
  rw [bytes_U h hh, all_eq h hh L hL]
  unfold strOfNums four
  simp only [List.map_cons, List.map_nil, z_pd]
def tl (h : ByteArray) (L : List ByteArray) : Nat → Nat → ByteArray
  | 0, _ => ByteArray.empty
  | d + 1, i => (⟨#[pd h L i]⟩ : ByteArray) ++ tl h L d (i + 1)
theorem spec_l1 (h : ByteArray) (L : List ByteArray) (hL : ∀ t ∈ L, t.size = 4) (hn : L.length ≤ 1296) (i : Nat) (hi : i < 4) (out : ByteArray) (ho : out.size ≤ 4) (R : ByteArray × Bool) (HA : Ev (fun k => spec_SureDigits.l0 k L (out ++ (⟨#[pd h L i]⟩ : ByteArray)) ((i + 1 : Nat) : Int)) R) :
    ∀ (d j : Nat), j + d = L.length → (∀ t ∈ L.take j, U t i = U h i) → Ev (fun k => spec_SureDigits.l1 k L out (i : Int) (⟨#[U h i]⟩ : ByteArray) L (L.length : Int) (j : Int)) R := by
  intro d
  induction d with
  | zero =>
    intro j hj hs
    obtain rfl : j = L.length := by omega
    refine ev_succ ?_
    simp only [spec_SureDigits.l1]
    rw [wrap_nat (by omega)]
    have hp : pd h L i = U h i := by
      unfold pd
      rw [if_pos]
      refine List.all_eq_true.mpr fun t ht => ?_
      unfold same
      rw [List.take_length] at hs
      rw [hs t ht]; simp
    rw [hp] at HA
    exact ev_neg (by omega) (ev_pos (by show out.size + 1 ≤ 9223372036854775807; omega) HA)
  | succ d ih =>
    intro j hj hs
    have hlt : j < L.length := by omega
    refine ev_succ ?_
    simp only [spec_SureDigits.l1]
    rw [rds_at L j hlt, wrap_nat (i := i) (by omega), wrap_nat (i := j) (by omega)]
    have h4 := hL L[j] (List.getElem_mem hlt)
    refine ev_pos (by omega) (ev_pos (by omega) (ev_pos (by omega) (ev_pos (by omega) (ev_pos (by omega) (ev_pos (by omega) ?_)))))
    simp only [Int.toNat_natCast]
    have hx := ex_U L[j] h4 i hi
    by_cases c : U L[j] i = U h i
    · refine ev_pos (by rw [hx, c]) (ih (j + 1) (by omega) ?_)
      intro t ht
      rw [List.take_succ_eq_append_getElem hlt] at ht
      rcases List.mem_append.mp ht with ht | ht
      · exact hs t ht
      · rw [List.mem_singleton.mp ht]; exact c
    · refine ev_neg (fun e => c ?_) ?_
      · rw [hx, one_list, one_list] at e
        exact (List.cons.inj e).1
      · have hp : pd h L i = 63 := by
          unfold pd
          rw [if_neg]
          intro ha
          exact c (eq_of_beq (List.all_eq_true.mp ha L[j] (List.getElem_mem hlt)))
        rw [hp] at HA
        exact ev_pos (by omega) HA
theorem spec_l0 (h : ByteArray) (L : List ByteArray) (hL : ∀ t ∈ L, t.size = 4) (hn : L.length ≤ 1296) (hp : 0 < L.length) (hh : h = L[0]) : ∀ (d i : Nat) (out : ByteArray), i + d = 4 → out.size = i → Ev (fun k => spec_SureDigits.l0 k L out (i : Int)) (out ++ tl h L d i, true) := by
  intro d
  induction d with
  | zero =>
    intro i out hi ho
    refine ev_succ ?_
    simp only [spec_SureDigits.l0]
    refine ev_neg (by omega) (ev_eq fun _ => ?_)
    rw [tl, ByteArray.append_empty]
  | succ d ih =>
    intro i out hi ho
    refine ev_succ ?_
    simp only [spec_SureDigits.l0]
    have h4 : h.size = 4 := by rw [hh]; exact hL _ (List.getElem_mem hp)
    have hr : rdOf ByteArray.empty L 0 = h := by rw [hh]; exact rds_at L 0 hp
    rw [hr, wrap_nat (by omega)]
    refine ev_pos (by omega) (ev_pos (by omega) (ev_pos (by omega) (ev_pos (by omega) (ev_pos (by omega) ?_))))
    simp only [Int.toNat_natCast]
    rw [ex_U h h4 i (by omega)]
    refine spec_l1 h L hL hn i (by omega) out (by omega) _ ?_ L.length 0 (by omega) (by simp)
    have := ih (i + 1) (out ++ (⟨#[pd h L i]⟩ : ByteArray)) (by omega) (by rw [ByteArray.size_append, ho]; rfl)
    rw [ByteArray.append_assoc] at this
    exact this
theorem sg_four (l : List C2) : ∀ (c n : Nat) (out : List ByteArray), (∀ t ∈ out, t.size = 4) → ∀ t ∈ sg l c n out, t.size = 4
  | 0, _, _, h => h
  | c + 1, n, out, h => by
    refine sg_four l c (n + 1) _ ?_
    intro t ht
    split at ht
    · rcases List.mem_append.mp ht with ht | ht
      · exact h t ht
      · rw [List.mem_singleton.mp ht]; exact pre_size 4 n
    · exact h t ht
theorem sol_four (c : List C2) : ∀ t ∈ sol c, t.size = 4 := by
  rw [sol]
  exact sg_four c 1296 0 [] (fun t ht => by cases ht)
def sureR (c : List C2) : ByteArray × Bool := if goodB c = true ∧ ((sol c).length : Int) ≠ 0 then (four (rdOf ByteArray.empty (sol c) 0) (sol c), true) else (⟨#[]⟩, false)
theorem sureR_none {c : List C2} (h : ((sol c).length : Int) = 0) : sureR c = (⟨#[]⟩, false) := by unfold sureR; rw [if_neg (fun x => x.2 h)]
theorem sureR_bad {c : List C2} (h : goodB c = false) : sureR c = (⟨#[]⟩, false) := by unfold sureR; rw [if_neg (fun x => by rw [h] at x; exact Bool.noConfusion x.1)]
theorem sureR_some {c : List C2} (hb : goodB c = true) (h : ¬ ((sol c).length : Int) = 0) : sureR c = (four (rdOf ByteArray.empty (sol c) 0) (sol c), true) := by unfold sureR; rw [if_pos ⟨hb, h⟩]
theorem specSure_ev (c : List C2) : Ev (fun k => spec_SureDigits.f k c) (sureR c) := by
  unfold spec_SureDigits.f
  cases hb : goodB c with
  | true =>
    by_cases h0 : ((sol c).length : Int) = 0
    · rw [sureR_none h0]
      exact Ev.bind (pzGood_yes hb) (ev_pos rfl (Ev.bind (pzAll_ev c (all_good hb)) (ev_pos h0 (ev_eq fun _ => rfl))))
    · rw [sureR_some hb h0]
      refine Ev.bind (pzGood_yes hb) (ev_pos rfl (Ev.bind (pzAll_ev c (all_good hb)) (ev_neg h0 ?_)))
      have hp : 0 < (sol c).length := by omega
      have hr : rdOf ByteArray.empty (sol c) 0 = (sol c)[0] := rds_at (sol c) 0 hp
      have := spec_l0 (sol c)[0] (sol c) (sol_four c) (sol_len c) hp rfl 4 0 ⟨#[]⟩ rfl rfl
      rw [hr]
      exact this
  | false =>
    rw [sureR_bad hb]
    exact Ev.bind (pzGood_no hb) (ev_neg (by decide) (ev_eq fun _ => rfl))
theorem implSure_ev (c : List C2) : Ev (fun k => impl_SureDigits.f k c) (sureR c) := by
  unfold impl_SureDigits.f
  cases hb : goodB c with
  | true =>
    refine Ev.bind (Solutions_yes hb) ?_
    by_cases h0 : ((sol c).length : Int) = 0
    · rw [sureR_none h0]
      exact ev_pos h0 (ev_eq fun _ => rfl)
    · rw [sureR_some hb h0]
      have hp : 0 < (sol c).length := by omega
      have hr : rdOf ByteArray.empty (sol c) 0 = (sol c)[0] := rds_at (sol c) 0 hp
      have h4 : (rdOf ByteArray.empty (sol c) 0).size = 4 := by rw [hr]; exact sol_four c _ (List.getElem_mem hp)
      refine ev_neg h0 (ev_pos (List.all_eq_true.mpr fun t ht => by simpa using sol_four c t ht) (ev_eq fun _ => ?_))
      rw [impl_four _ _ h4 (sol_four c)]
  | false =>
    rw [sureR_bad hb]
    refine Ev.bind (Solutions_no hb) ?_
    exact ev_pos rfl (ev_eq fun _ => rfl)

def cntL (c : List C2) (i : Nat) : Int := ((sol (c.take i)).length : Int)
def leftL (c : List C2) (i : Nat) : List Int := (List.range i).map (cntL c)
theorem left_len (c : List C2) (i : Nat) : (leftL c i).length = i := by simp [leftL]
theorem left_succ (c : List C2) (i : Nat) : leftL c i ++ [cntL c i] = leftL c (i + 1) := by simp [leftL, List.range_succ]
theorem all_take {c : List C2} (h : c.all clueS = true) (i : Nat) : (c.take i).all clueS = true :=
  List.all_eq_true.mpr fun x hx => List.all_eq_true.mp h x (List.mem_of_mem_take hx)
theorem specLeft_loop (c : List C2) (hc : c.all clueS = true) (h6 : c.length ≤ 6) : ∀ (d i : Nat), i + d = c.length + 1 → Ev (fun k => spec_LeftByClues.l0 k (leftL c i) (i : Int) c) (leftL c (c.length + 1), true) := by
  intro d
  induction d with
  | zero =>
    intro i hi
    refine ev_succ ?_
    simp only [spec_LeftByClues.l0]
    obtain rfl : i = c.length + 1 := by omega
    exact ev_neg (by omega) (ev_eq fun _ => rfl)
  | succ d ih =>
    intro i hi
    refine ev_succ ?_
    simp only [spec_LeftByClues.l0, Int.toNat_natCast]
    refine ev_pos (by omega) (ev_pos (by omega) (Ev.bind (pzAll_ev _ (all_take hc i)) ?_))
    refine ev_pos (by rw [left_len]; omega) ?_
    have := ih (i + 1) (by omega)
    rw [← left_succ, ← wrap_nat (by omega)] at this
    exact this
theorem implLeft_loop (c : List C2) (hc : c.all clueS = true) (h6 : c.length ≤ 6) : ∀ (d i : Nat), i + d = c.length + 1 → Ev (fun k => impl_LeftByClues.l0 k (leftL c i) ((c.length + 1 : Nat) : Int) (i : Int) c) (leftL c (c.length + 1), true) := by
  intro d
  induction d with
  | zero =>
    intro i hi
    refine ev_succ ?_
    simp only [impl_LeftByClues.l0]
    obtain rfl : i = c.length + 1 := by omega
    exact ev_neg (by omega) (ev_eq fun _ => rfl)
  | succ d ih =>
    intro i hi
    refine ev_succ ?_
    simp only [impl_LeftByClues.l0, Int.toNat_natCast]
    refine ev_pos (by omega) (ev_pos (by omega) (ev_pos (by omega) (Ev.bind (solutions_ev _ (all_take hc i)) ?_)))
    refine ev_pos (by rw [left_len]; omega) ?_
    have := ih (i + 1) (by omega)
    rw [← left_succ, ← wrap_nat (i := i) (by omega)] at this
    exact this
def leftR (c : List C2) : List Int × Bool := if goodB c then (leftL c (c.length + 1), true) else ([], false)
theorem leftR_len (c : List C2) : (leftR c).1.length ≤ 7 := by
  unfold leftR
  cases h : goodB c with
  | true => have := goodB_len h; simp [left_len]; omega
  | false => simp
theorem specLeft_ev (c : List C2) : Ev (fun k => spec_LeftByClues.f k c) (leftR c) := by
  unfold spec_LeftByClues.f leftR
  cases h : goodB c with
  | true => exact Ev.bind (pzGood_yes h) (ev_pos rfl (specLeft_loop c (all_good h) (goodB_len h) (c.length + 1) 0 (by omega)))
  | false => exact Ev.bind (pzGood_no h) (ev_neg (by decide) (ev_eq fun _ => rfl))
theorem implLeft_ev (c : List C2) : Ev (fun k => impl_LeftByClues.f k c) (leftR c) := by
  unfold impl_LeftByClues.f leftR
  cases h : goodB c with
  | true =>
    have h6 := goodB_len h
    refine Ev.bind (isPuzzle_yes h) (ev_pos rfl ?_)
    rw [wrap_nat (by omega)]
    exact implLeft_loop c (all_good h) h6 (c.length + 1) 0 (by omega)
  | false => exact Ev.bind (isPuzzle_no h) (ev_neg (by decide) (ev_eq fun _ => rfl))

def lone_ (c : List C2) (i : Nat) : List C2 := (c.take (i + 1)).drop i
def cnt (c : List C2) (i : Nat) : Int := ((sol (lone_ c i)).length : Int)
theorem lone_all {c : List C2} (h : c.all clueS = true) (i : Nat) : (lone_ c i).all clueS = true :=
  List.all_eq_true.mpr fun x hx => List.all_eq_true.mp h x (List.mem_of_mem_take (List.mem_of_mem_drop hx))
theorem lone_eq (c : List C2) (i : Nat) (h : i < c.length) : ([(⟨(rd_T46 c (i : Int)).f0, (rd_T46 c (i : Int)).f1, (rd_T46 c (i : Int)).f2⟩ : C2)] : List C2) = lone_ c i := by
  rw [rd_at c i h]
  unfold lone_
  rw [List.take_succ_eq_append_getElem h, List.drop_append_of_le_length (by simp; omega), List.drop_eq_nil_of_le (by rw [List.length_take]; omega)]
  rfl
def best (c : List C2) : Nat → Nat → Int → Int → Int
  | 0, _, b, _ => b
  | d + 1, i, b, m => if cnt c i < m then best c d (i + 1) (i : Int) (cnt c i) else best c d (i + 1) b m
theorem cnt_nonneg (c : List C2) (i : Nat) : 0 ≤ cnt c i := by unfold cnt; omega
theorem specBest_loop (c : List C2) (hc : c.all clueS = true) (h6 : c.length ≤ 6) : ∀ (d i : Nat) (b m : Int), i + d = c.length → 1 ≤ i → Ev (fun k => spec_BestClue.l0 k b m (c.length : Int) (i : Int) c) (best c d i b m, true) := by
  intro d
  induction d with
  | zero =>
    intro i b m hi h1
    refine ev_succ ?_
    simp only [spec_BestClue.l0]
    exact ev_neg (by omega) (ev_eq fun _ => rfl)
  | succ d ih =>
    intro i b m hi h1
    refine ev_succ ?_
    simp only [spec_BestClue.l0]
    rw [wrap_nat (by omega)]
    simp only [Int.toNat_natCast]
    refine ev_pos (by omega) (ev_pos (by omega) (ev_pos (by omega) (ev_pos (by omega) (Ev.bind (pzAll_ev _ (lone_all hc i)) (ev_neg (by omega) ?_)))))
    unfold best
    by_cases hq : cnt c i < m
    · rw [if_pos hq]
      exact ev_pos hq (ih (i + 1) _ _ (by omega) (by omega))
    · rw [if_neg hq]
      exact ev_neg hq (ih (i + 1) _ _ (by omega) (by omega))
theorem implBest_loop (c : List C2) (hc : c.all clueS = true) (h6 : c.length ≤ 6) : ∀ (d i : Nat) (b m : Int), i + d = c.length → 0 ≤ m → Ev (fun k => impl_BestClue.l0 k b m c (c.length : Int) (i : Int)) (best c d i b m, true) := by
  intro d
  induction d with
  | zero =>
    intro i b m hi h1
    refine ev_succ ?_
    simp only [impl_BestClue.l0]
    exact ev_neg (by omega) (ev_eq fun _ => rfl)
  | succ d ih =>
    intro i b m hi h1
    refine ev_succ ?_
    simp only [impl_BestClue.l0]
    rw [wrap_nat (by omega), lone_eq c i (by omega)]
    refine ev_pos (by omega) (ev_pos (by omega) (ev_pos (by omega) (Ev.bind (solutions_ev _ (lone_all hc i)) (ev_neg (by omega) ?_))))
    unfold best
    by_cases hq : cnt c i < m
    · rw [if_pos hq]
      exact ev_pos hq (ih (i + 1) _ _ (by omega) (cnt_nonneg c i))
    · rw [if_neg hq]
      exact ev_neg hq (ih (i + 1) _ _ (by omega) h1)
theorem w01 : wrap64 (0 + 1) = 1 := by rw [wrap_of (by omega) (by omega)]; rfl
def bestR (c : List C2) : Int × Bool := if goodB c then (if c.length = 0 then (0, false) else (best c (c.length - 1) 1 0 (cnt c 0), true)) else (0, false)
theorem specBest_ev (c : List C2) : Ev (fun k => spec_BestClue.f k c) (bestR c) := by
  unfold spec_BestClue.f bestR
  cases h : goodB c with
  | true =>
    have h6 := goodB_len h
    have hc := all_good h
    refine Ev.bind (pzGood_yes h) (ev_pos rfl (ev_succ ?_))
    simp only [spec_BestClue.j0]
    by_cases h0 : c.length = 0
    · rw [h0]; exact ev_pos (by first | rfl | trivial) (ev_eq fun _ => rfl)
    · have hz : ((c.length : Int) == 0) = false := by simp; exact List.ne_nil_of_length_pos (by omega)
      rw [hz, if_pos trivial, if_neg h0]
      refine ev_neg (by decide) (ev_succ ?_)
      simp only [spec_BestClue.l0, w01]
      refine ev_pos (by omega) (ev_pos (by omega) (ev_pos (by omega) (ev_pos (by omega) (Ev.bind (a := sol (lone_ c 0)) (pzAll_ev (lone_ c 0) (lone_all hc 0)) (ev_pos (by first | rfl | trivial) ?_)))))
      exact specBest_loop c hc h6 (c.length - 1) 1 0 (cnt c 0) (by omega) (by omega)
  | false =>
    refine Ev.bind (pzGood_no h) (ev_neg (by decide) (ev_succ ?_))
    simp only [spec_BestClue.j0]
    exact ev_pos (by first | rfl | trivial) (ev_eq fun _ => rfl)
theorem implBest_ev (c : List C2) : Ev (fun k => impl_BestClue.f k c) (bestR c) := by
  unfold impl_BestClue.f bestR
  cases h : goodB c with
  | true =>
    have h6 := goodB_len h
    have hc := all_good h
    refine Ev.bind (isPuzzle_yes h) (ev_pos rfl (ev_succ ?_))
    simp only [impl_BestClue.j0]
    by_cases h0 : c.length = 0
    · rw [h0]; exact ev_pos (by first | rfl | trivial) (ev_eq fun _ => rfl)
    · have hz : ((c.length : Int) == 0) = false := by simp; exact List.ne_nil_of_length_pos (by omega)
      rw [hz, if_pos trivial, if_neg h0]
      refine ev_neg (by decide) (ev_succ ?_)
      simp only [impl_BestClue.l0, w01]
      have hl := lone_eq c 0 (by omega)
      rw [show ((0 : Nat) : Int) = 0 from rfl] at hl
      rw [hl]
      refine ev_pos (by omega) (ev_pos (by omega) (ev_pos (by omega) (Ev.bind (solutions_ev _ (lone_all hc 0)) (ev_pos (by omega) ?_))))
      exact implBest_loop c hc h6 (c.length - 1) 1 0 (cnt c 0) (by omega) (cnt_nonneg c 0)
  | false =>
    refine Ev.bind (isPuzzle_no h) (ev_neg (by decide) (ev_succ ?_))
    simp only [impl_BestClue.j0]
    exact ev_pos (by first | rfl | trivial) (ev_eq fun _ => rfl)
end Go.Proofs.YtmfbjhkhgkphcaaGreatDoor.Pure
