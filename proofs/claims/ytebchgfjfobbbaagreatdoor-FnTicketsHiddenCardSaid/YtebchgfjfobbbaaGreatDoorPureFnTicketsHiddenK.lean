/- TicketsHidden: puzzles, their solutions, draws and fits; what is looked through ticket by ticket is told by the kernel (numbers, lists and texts alone). -/
import Derived.Test.YtebchgfjfobbbaaGreatDoorPFnTicketsHiddenx6
import Derived.Test.YtebchgfjfobbbaaGreatDoorPFnTicketsHiddenx11
import Derived.Test.YtebchgfjfobbbaaGreatDoorPFnTicketsHiddenx15
import Derived.Test.YtebchgfjfobbbaaGreatDoorPFnTicketsHiddenx17
import Derived.KernelRfl
namespace Go.Proofs.YtebchgfjfobbbaaGreatDoor.Pure
open Go.RowKit Go.Proofs.YtebchgfjfobbbaaGreatDoor.PFnTicketsHidden Go.Proofs.YtebchgfjfobbbaaGreatDoorW.PrintWords Go.Proofs.YtebchgfjfobbbaaGreatDoorW.PrintLast
set_option linter.unusedVariables false
set_option linter.unusedSimpArgs false

theorem wrap_of {x : Int} (h0 : -9223372036854775808 ≤ x) (h1 : x ≤ 9223372036854775807) : wrap64 x = x := by unfold wrap64; omega
theorem wrap_nat {i : Nat} (h : i < 4611686018427387904) : wrap64 ((i : Int) + 1) = ((i + 1 : Nat) : Int) := by unfold wrap64; omega
theorem ev_eq {α : Type} {g : Nat → Option α} {r : α} (h : ∀ k, g k = some r) : Ev g r := ⟨0, fun k _ => h k⟩
theorem ev_bind {α β : Type} {x : Option α} {f : Nat → α → Option β} {a : α} {r : β} (h : x = some a) (k : Ev (fun n => f n a) r) : Ev (fun n => x.bind (f n)) r := by subst h; exact k
theorem ev_pos {α : Type} {c : Prop} [Decidable c] {g f : Nat → Option α} {r : α} (h : c) (k : Ev g r) : Ev (fun n => if c then g n else f n) r := by simp only [if_pos h]; exact k
theorem ev_neg {α : Type} {c : Prop} [Decidable c] {g f : Nat → Option α} {r : α} (h : ¬ c) (k : Ev f r) : Ev (fun n => if c then g n else f n) r := by simp only [if_neg h]; exact k
theorem ev_from {α : Type} {g : Nat → Option α} {r : α} (K : Nat) (h : ∀ k, K ≤ k → g k = some r) : Ev g r := ⟨K, h⟩

/-! ### clues -/
def clueB (k a b : Int) : Bool :=
  decide (0 ≤ b ∧ b ≤ 20 ∧ ((k = 0 ∧ 0 ≤ a ∧ a ≤ 1) ∨ (k = 1 ∧ 0 ≤ a ∧ a ≤ 3) ∨ (k = 2 ∧ a = 0 ∧ b < 2) ∨ (k = 3 ∧ 0 ≤ a ∧ a ≤ 2 ∧ b < 2) ∨ (k = 4 ∧ a = 0) ∨ (k = 5 ∧ a = 0 ∧ 2 ≤ b ∧ b ≤ 9)))
theorem l1In_eq (n lo hi : Int) : spec_l1In.f n lo hi = some (decide (lo ≤ n ∧ n ≤ hi)) := by
  unfold spec_l1In.f
  by_cases h : n ≥ lo
  · rw [if_pos h]; congr 1; simp; intro _; omega
  · rw [if_neg h]; congr 1; simp; intro; omega
theorem within_eq (n lo hi : Int) : impl_within.f n lo hi = some (decide (lo ≤ n ∧ n ≤ hi)) := by
  unfold impl_within.f
  by_cases h : lo ≤ n
  · rw [if_pos h]; congr 1; simp; intro _; omega
  · rw [if_neg h]; congr 1; simp; intro; omega
theorem specClue_eq (k a b : Int) : spec_pzClue.f k a b = some (clueB k a b) := by
  unfold spec_pzClue.f clueB
  simp only [l1In_eq, Option.bind_some]
  by_cases hb : 0 ≤ b ∧ b ≤ 20
  · rw [if_pos (by simpa using hb)]
    by_cases h0 : k = 0
    · subst h0; simp [hb]
    rw [if_neg h0]
    by_cases h1 : k = 1
    · subst h1; simp [hb]
    rw [if_neg h1]
    by_cases h2 : k = 2
    · subst h2; by_cases ha : a = 0 <;> simp [hb, ha]
    rw [if_neg h2]
    by_cases h3 : k = 3
    · subst h3; by_cases ha : 0 ≤ a ∧ a ≤ 2
      · simp [hb, ha]
      · have : ¬ (0 ≤ a ∧ a ≤ 2 ∧ b < 2) := fun h => ha ⟨h.1, h.2.1⟩
        simp [hb, ha, this]
    rw [if_neg h3]
    by_cases h4 : k = 4
    · subst h4; by_cases ha : a = 0 <;> simp [hb, ha]
    rw [if_neg h4]
    by_cases h5 : k = 5
    · subst h5; by_cases ha : a = 0 <;> simp [hb, ha]
    · rw [if_neg h5]; simp [hb, h0, h1, h2, h3, h4, h5]
  · rw [if_neg (by simpa using hb)]
    congr 1
    symm
    apply decide_eq_false
    rintro ⟨x, y, _⟩
    exact hb ⟨x, y⟩
theorem implClue_eq (n : Nat) (k a b : Int) : impl_IsClue.f (n + 1) k a b = some (clueB k a b) := by
  unfold impl_IsClue.f clueB
  simp only [within_eq, Option.bind_some]
  by_cases hk : 0 ≤ k ∧ k ≤ 5
  · rw [if_pos (by simpa using hk), if_pos hk.1, if_pos (by simp; omega)]
    have : k = 0 ∨ k = 1 ∨ k = 2 ∨ k = 3 ∨ k = 4 ∨ k = 5 := by omega
    rcases this with rfl | rfl | rfl | rfl | rfl | rfl
    all_goals
      by_cases ha : 0 ≤ a
      all_goals by_cases hb : 0 ≤ b
      all_goals simp [impl_IsClue.j0, within_eq, rd, ha, hb]
      all_goals try split
      all_goals try (simp; omega)
      all_goals try omega
      all_goals (congr 1; rw [Bool.eq_iff_iff]; simp; omega)
  · rw [if_neg (by simpa using hk)]
    congr 1
    symm
    apply decide_eq_false
    omega
theorem implClue_ev (k a b : Int) : Ev (fun n => impl_IsClue.f n k a b) (clueB k a b) := ⟨1, fun n hn => by obtain ⟨m, rfl⟩ : ∃ m, n = m + 1 := ⟨n - 1, by omega⟩; exact implClue_eq m k a b⟩

/-! ### puzzles -/
abbrev C2 := S37
def clueS (x : C2) : Bool := clueB x.f0 x.f1 x.f2
def goodB (l : List C2) : Bool := decide (l.length ≤ 6) && l.all clueS
theorem rd_at (l : List C2) (i : Nat) (h : i < l.length) : rd_T37 l (i : Int) = l[i] := by
  unfold rd_T37
  rw [Int.toNat_natCast, List.getD_eq_getElem?_getD, List.getElem?_eq_getElem h]; rfl
theorem pzGood_loop (l : List C2) (hl : l.length ≤ 6) : ∀ (d i k : Nat), i + d = l.length → d < k → spec_pzGood.l0 k l (l.length : Int) (i : Int) = some ((l.drop i).all clueS) := by
  intro d
  induction d with
  | zero =>
    intro i k hi hk
    obtain ⟨k, rfl⟩ : ∃ n, k = n + 1 := ⟨k - 1, by omega⟩
    simp only [spec_pzGood.l0]
    rw [if_neg (by omega), List.drop_eq_nil_of_le (by omega)]; rfl
  | succ d ih =>
    intro i k hi hk
    obtain ⟨k, rfl⟩ : ∃ n, k = n + 1 := ⟨k - 1, by omega⟩
    have hlt : i < l.length := by omega
    simp only [spec_pzGood.l0]
    rw [if_pos (by omega), if_pos (by omega), if_pos (by omega), rd_at l i hlt, specClue_eq, Option.bind_some, List.drop_eq_getElem_cons hlt, List.all_cons]
    show (if clueS l[i] = true then _ else _) = _
    cases hc : clueS l[i] with
    | true => rw [if_pos rfl, wrap_nat (by omega), ih (i + 1) k (by omega) (by omega)]; simp
    | false => rw [if_neg (by decide)]; simp
theorem pzGood_ev (l : List C2) : Ev (fun k => spec_pzGood.f k l) (goodB l) := by
  unfold spec_pzGood.f goodB
  by_cases h : l.length ≤ 6
  · refine ev_from (l.length + 1) (fun k hk => ?_)
    rw [if_neg (by omega), show (0 : Int) = ((0 : Nat) : Int) from rfl, pzGood_loop l h l.length 0 k (by omega) (by omega)]
    simp [h]
  · refine ev_from (0) (fun k _ => ?_)
    rw [if_pos (by omega)]; simp [h]
theorem isPuzzle_ev (l : List C2) : Ev (fun k => impl_IsPuzzle.f k l) (goodB l) := by
  refine ev_from (1) (fun k hk => ?_)
  obtain ⟨k, rfl⟩ : ∃ m, k = m + 1 := ⟨k - 1, by omega⟩
  unfold impl_IsPuzzle.f goodB
  by_cases h : l.length ≤ 6
  · rw [if_pos (by omega), Fn.anyO_some (f := fun x => !clueS x) l (fun x _ => by show impl_IsPuzzle_1.f _ _ _ _ = _; unfold impl_IsPuzzle_1.f; rw [implClue_eq]; rfl)]
    simp [h, List.all_eq_not_any_not]
  · rw [if_neg (by omega)]; simp [h]

/-! ### solutions -/
def dg (i : Nat) : ByteArray := ⟨#[UInt8.ofNat (48 + i)]⟩
def pre : Nat → Nat → ByteArray
  | 0, _ => ⟨#[]⟩
  | j + 1, p => pre j (p / 6) ++ dg (p % 6)
def tk (n : Nat) : ByteArray := pre 4 n
theorem ev_of {α : Type} {g : Nat → Option α} (hm : ∀ k, LeO (g k) (g (k + 1))) {K : Nat} {r : α} (h : g K = some r) : Ev g r := by
  refine ev_from K (fun k hk => ?_)
  induction k with
  | zero => obtain rfl : K = 0 := by omega
            exact h
  | succ k ih =>
    by_cases e : K = k + 1
    · subst e; exact h
    · exact hm k r (ih (by omega))
def chkV (k a : Int) (t : ByteArray) : Bool := match spec_pzValue.f 24 k a t, impl_told.f 24 k a t with
  | some x, some y => x == y
  | _, _ => false
def chkN (t : ByteArray) : Bool := match spec_tkNumber.f 24 t, impl_numberOf.f 24 t with
  | some x, some y => x == y
  | _, _ => false
def chk (t : ByteArray) : Bool := chkV 0 0 t && chkV 0 1 t && chkV 1 0 t && chkV 1 1 t && chkV 1 2 t && chkV 1 3 t && chkV 2 0 t && chkV 3 0 t && chkV 3 1 t && chkV 3 2 t && chkV 4 0 t && chkN t
def chkR (a : Nat) : Bool := (List.range 216).all (fun n => chk (tk (216 * a + n)))
set_option maxRecDepth 100000 in
theorem chk0 : chkR 0 = true := by kernel_rfl
set_option maxRecDepth 100000 in
theorem chk1 : chkR 1 = true := by kernel_rfl
set_option maxRecDepth 100000 in
theorem chk2 : chkR 2 = true := by kernel_rfl
set_option maxRecDepth 100000 in
theorem chk3 : chkR 3 = true := by kernel_rfl
set_option maxRecDepth 100000 in
theorem chk4 : chkR 4 = true := by kernel_rfl
set_option maxRecDepth 100000 in
theorem chk5 : chkR 5 = true := by kernel_rfl
theorem chk_all (n : Nat) (h : n < 1296) : chk (tk n) = true := by
  have hR : chkR (n / 216) = true := by
    have : n / 216 = 0 ∨ n / 216 = 1 ∨ n / 216 = 2 ∨ n / 216 = 3 ∨ n / 216 = 4 ∨ n / 216 = 5 := by omega
    rcases this with e | e | e | e | e | e <;> rw [e]
    · exact chk0
    · exact chk1
    · exact chk2
    · exact chk3
    · exact chk4
    · exact chk5
  have := List.all_eq_true.mp hR (n % 216) (List.mem_range.mpr (by omega))
  rwa [show 216 * (n / 216) + n % 216 = n by omega] at this
theorem chkV_of {k a : Int} {t : ByteArray} (h : chkV k a t = true) : ∃ v, spec_pzValue.f 24 k a t = some v ∧ impl_told.f 24 k a t = some v := by
  unfold chkV at h
  split at h
  · rename_i x y h1 h2
    exact ⟨x, h1, by rw [h2, eq_of_beq h]⟩
  · cases h
theorem chkN_of {t : ByteArray} (h : chkN t = true) : ∃ v, spec_tkNumber.f 24 t = some v ∧ impl_numberOf.f 24 t = some v := by
  unfold chkN at h
  split at h
  · rename_i x y h1 h2
    exact ⟨x, h1, by rw [h2, eq_of_beq h]⟩
  · cases h
theorem fits_both (x : C2) (hx : clueS x = true) (n : Nat) (hn : n < 1296) : ∃ v, spec_pzFits.f 24 x.f0 x.f1 x.f2 (tk n) = some v ∧ impl_Clue_fits.f 24 x.f0 x.f1 x.f2 (tk n) = some v := by
  have hc := chk_all n hn
  generalize tk n = t at hc
  unfold chk at hc
  simp only [Bool.and_eq_true] at hc
  obtain ⟨⟨⟨⟨⟨⟨⟨⟨⟨⟨⟨h00, h01⟩, h10⟩, h11⟩, h12⟩, h13⟩, h20⟩, h30⟩, h31⟩, h32⟩, h40⟩, hN⟩ := hc
  obtain ⟨k, a, b⟩ := x
  have hx' := of_decide_eq_true (show decide _ = true from hx)
  dsimp only at hx'
  obtain ⟨hb0, hb1, hx'⟩ := hx'
  show ∃ v, spec_pzFits.f 24 k a b t = some v ∧ impl_Clue_fits.f 24 k a b t = some v
  unfold spec_pzFits.f impl_Clue_fits.f
  by_cases h5 : k = 5
  · have hb : b ≠ 0 := by
      rcases hx' with h | h | h | h | h | h <;> omega
    obtain ⟨v, h1, h2⟩ := chkN_of hN
    rw [if_pos h5, if_pos h5, h1, h2]
    simp only [Option.bind_some, if_neg hb]
    exact ⟨_, rfl, rfl⟩
  · have hV : chkV k a t = true := by
      rcases hx' with ⟨rfl, h1, h2⟩ | ⟨rfl, h1, h2⟩ | ⟨rfl, rfl, _⟩ | ⟨rfl, h1, h2, _⟩ | ⟨rfl, rfl⟩ | ⟨h, _⟩
      · have : a = 0 ∨ a = 1 := by omega
        rcases this with rfl | rfl <;> assumption
      · have : a = 0 ∨ a = 1 ∨ a = 2 ∨ a = 3 := by omega
        rcases this with rfl | rfl | rfl | rfl <;> assumption
      · assumption
      · have : a = 0 ∨ a = 1 ∨ a = 2 := by omega
        rcases this with rfl | rfl | rfl <;> assumption
      · assumption
      · exact absurd h h5
    obtain ⟨v, h1, h2⟩ := chkV_of hV
    rw [if_neg h5, if_neg h5, h1, h2]
    exact ⟨_, rfl, rfl⟩
def fitB (x : C2) (n : Nat) : Bool := (spec_pzFits.f 24 x.f0 x.f1 x.f2 (tk n)).getD false
theorem mono_le {α : Type} {g : Nat → Option α} (hm : ∀ k, LeO (g k) (g (k + 1))) {K k : Nat} {r : α} (h : g K = some r) (hk : K ≤ k) : g k = some r := by
  induction k with
  | zero => obtain rfl : K = 0 := by omega
            exact h
  | succ k ih =>
    by_cases e : K = k + 1
    · subst e; exact h
    · exact hm k r (ih (by omega))
theorem specFits_at (x : C2) (hx : clueS x = true) (n : Nat) (hn : n < 1296) (k : Nat) (hk : 24 ≤ k) : spec_pzFits.f k x.f0 x.f1 x.f2 (tk n) = some (fitB x n) := by
  obtain ⟨v, h1, _⟩ := fits_both x hx n hn
  refine mono_le (fun k => spec_pzFits.mono _ _ _ _ k) (K := 24) ?_ hk
  unfold fitB; rw [h1]; rfl
theorem implFits_at (x : C2) (hx : clueS x = true) (n : Nat) (hn : n < 1296) (k : Nat) (hk : 24 ≤ k) : impl_Clue_fits.f k x.f0 x.f1 x.f2 (tk n) = some (fitB x n) := by
  obtain ⟨v, h1, h2⟩ := fits_both x hx n hn
  refine mono_le (fun k => impl_Clue_fits.mono _ _ _ _ k) (K := 24) ?_ hk
  unfold fitB; rw [h1, h2]; rfl
def okT (l : List C2) (n : Nat) : Bool := l.all (fun x => fitB x n)
def sg (l : List C2) : Nat → Nat → List ByteArray → List ByteArray
  | 0, _, out => out
  | c + 1, n, out => sg l c (n + 1) (if okT l n then out ++ [tk n] else out)
def sol (l : List C2) : List ByteArray := sg l 1296 0 []
theorem sg_add (l : List C2) : ∀ (c1 c2 n : Nat) (out : List ByteArray), sg l (c1 + c2) n out = sg l c2 (n + c1) (sg l c1 n out)
  | 0, c2, n, out => by rw [Nat.zero_add]; rfl
  | c1 + 1, c2, n, out => by
    rw [show c1 + 1 + c2 = (c1 + c2) + 1 by omega]
    show sg l (c1 + c2) (n + 1) _ = sg l c2 (n + (c1 + 1)) (sg l c1 (n + 1) _)
    rw [sg_add l c1 c2 (n + 1), show n + 1 + c1 = n + (c1 + 1) by omega]
theorem sg_len (l : List C2) : ∀ (c n : Nat) (out : List ByteArray), out.length ≤ n → (sg l c n out).length ≤ n + c
  | 0, n, out, h => h
  | c + 1, n, out, h => by
    have hx : (if okT l n = true then out ++ [tk n] else out).length ≤ n + 1 := by
      split
      · rw [List.length_append]; exact Nat.succ_le_succ h
      · exact Nat.le_succ_of_le h
    have := sg_len l c (n + 1) _ hx
    show (sg l c (n + 1) _).length ≤ _
    omega
theorem tick_eq (n : Nat) : impl_solutions.tick 4 (n : Int) ByteArray.empty = tk n := by
  have e : ∀ m : Nat, impl_solutions.digit ((m : Int) % 6) = dg (m % 6) := fun m => by
    unfold dg impl_solutions.digit
    rw [show ((m : Int) % 6).toNat = m % 6 by omega]
  have q : ∀ m : Nat, (m : Int) / 6 = ((m / 6 : Nat) : Int) := fun m => by omega
  have z : (⟨#[]⟩ : ByteArray) = ByteArray.empty := rfl
  simp only [impl_solutions.tick, e, q, tk, pre, z, ByteArray.append_empty, ByteArray.empty_append, ByteArray.append_assoc]
theorem any_bad {l : List C2} {n : Nat} : (l.any fun x => !fitB x n) = !okT l n := by
  unfold okT; rw [List.all_eq_not_any_not]; simp
theorem go_eq (l : List C2) (hl : l.all clueS = true) (k : Nat) (hk : 24 ≤ k) : ∀ (c n : Nat) (out : List ByteArray), c + n = 1296 → impl_solutions.go k l c (n : Int) out = some (sg l c n out)
  | 0, n, out, _ => rfl
  | c + 1, n, out, h => by
    unfold impl_solutions.go
    rw [tick_eq, Fn.anyO_some (f := fun x => !fitB x n) l (fun x hx => by unfold impl_solutions.bad; rw [implFits_at x (List.all_eq_true.mp hl x hx) n (by omega) k hk]; rfl), Option.bind_some, any_bad]
    have := go_eq l hl k hk c (n + 1) (if okT l n then out ++ [tk n] else out) (by omega)
    rw [show ((n : Int) + 1) = ((n + 1 : Nat) : Int) by omega]
    cases ho : okT l n <;> rw [ho] at this <;> simpa [sg, ho] using this
theorem solutions_ev (l : List C2) (hl : l.all clueS = true) : Ev (fun k => impl_solutions.f k l) (sol l) :=
  ev_from 24 (fun k hk => go_eq l hl k hk 1296 0 [] rfl)
theorem leaf_eq (l : List C2) (hl : l.all clueS = true) (k : Nat) (hk : 24 ≤ k) (n : Nat) (hn : n < 1296) (out : List ByteArray) (ho : out.length ≤ n) : spec_pzLook.leaf k l (tk n) out = some (sg l 1 n out) := by
  unfold spec_pzLook.leaf
  rw [if_pos (by omega), Fn.anyO_some (f := fun x => !fitB x n) l (fun x hx => by unfold spec_pzLook.bad; rw [specFits_at x (List.all_eq_true.mp hl x hx) n hn k hk]; rfl), Option.bind_some, any_bad]
  cases h : okT l n <;> simp [sg, h]
theorem num_eq (k : Nat) (hk : 1 ≤ k) (i : Nat) (hi : i < 6) : spec_l1Num.f k (i : Int) = some (dg i) := by
  obtain ⟨k, rfl⟩ : ∃ m, k = m + 1 := ⟨k - 1, by omega⟩
  have : i = 0 ∨ i = 1 ∨ i = 2 ∨ i = 3 ∨ i = 4 ∨ i = 5 := by omega
  rw [spec_l1Num.f, if_pos (by omega)]
  refine congrArg some ?_
  rcases this with rfl | rfl | rfl | rfl | rfl | rfl <;> kernel_rfl
theorem pre_size : ∀ j p, (pre j p).size = j
  | 0, _ => rfl
  | j + 1, p => by rw [pre, ByteArray.size_append, pre_size j]; rfl
theorem look_eq (l : List C2) (hl : l.all clueS = true) (k : Nat) (hk : 24 ≤ k) : ∀ (d j p : Nat) (out : List ByteArray), j + d = 4 → p < 6 ^ j → out.length ≤ p * 6 ^ d → spec_pzLook.f k l d (pre j p) out = some (sg l (6 ^ d) (p * 6 ^ d) out) := by
  intro d
  induction d with
  | zero =>
    intro j p out hj hp ho
    obtain rfl : j = 4 := by omega
    rw [Nat.pow_zero, Nat.mul_one] at *
    exact leaf_eq l hl k hk p (by simpa using hp) out ho
  | succ d ih =>
    intro j p out hj hp ho
    have step : ∀ (c i : Nat) (o : List ByteArray), c + i = 6 → o.length ≤ (6 * p + i) * 6 ^ d → spec_pzLook.dig (spec_pzLook.f k l d) k (pre j p) c (i : Int) o = some (sg l (c * 6 ^ d) ((6 * p + i) * 6 ^ d) o) := by
      intro c
      induction c with
      | zero => intro i o _ _; rw [Nat.zero_mul]; rfl
      | succ c ihc =>
        intro i o hi hlen
        unfold spec_pzLook.dig
        rw [num_eq k (by omega) i (by omega), Option.bind_some, pre_size, if_pos (show j + (dg i).size ≤ 4 by show j + 1 ≤ 4; omega), if_pos (show (dg i).size = 1 from rfl)]
        have hp6 : pre j p ++ dg i = pre (j + 1) (6 * p + i) := by
          rw [pre, show (6 * p + i) / 6 = p by omega, show (6 * p + i) % 6 = i by omega]
        have hlt : 6 * p + i < 6 ^ (j + 1) := by rw [Nat.pow_succ]; omega
        rw [hp6, ih (j + 1) (6 * p + i) o (by omega) hlt hlen, Option.bind_some, show ((i : Int) + 1) = ((i + 1 : Nat) : Int) by omega]
        have hb := sg_len l (6 ^ d) ((6 * p + i) * 6 ^ d) o hlen
        have he : (6 * p + i) * 6 ^ d + 6 ^ d = (6 * p + (i + 1)) * 6 ^ d := by
          rw [← Nat.succ_mul]; congr 1
        rw [ihc (i + 1) _ (by omega) (by rw [← he]; exact hb), show (c + 1) * 6 ^ d = 6 ^ d + c * 6 ^ d by rw [Nat.succ_mul, Nat.add_comm], sg_add, he]
    have h6 : p * 6 ^ (d + 1) = (6 * p + 0) * 6 ^ d := by rw [Nat.pow_succ, Nat.add_zero, Nat.mul_comm (6 ^ d) 6, ← Nat.mul_assoc, Nat.mul_comm p 6]
    have := step 6 0 out rfl (by rw [← h6]; exact ho)
    rw [h6, Nat.pow_succ, Nat.mul_comm (6 ^ d) 6]
    exact this
theorem pzAll_ev (l : List C2) (hl : l.all clueS = true) : Ev (fun k => spec_pzAll.f k l) (sol l) := by
  refine ev_from 24 (fun k hk => ?_)
  have := look_eq l hl k hk 4 0 0 [] rfl (by decide) (by simp)
  exact this
attribute [irreducible] sol
theorem all_good {l : List C2} (h : goodB l = true) : l.all clueS = true := by unfold goodB at h; simp only [Bool.and_eq_true] at h; exact h.2
theorem pzGood_yes {l : List C2} (h : goodB l = true) : Ev (fun k => spec_pzGood.f k l) true := h ▸ pzGood_ev l
theorem pzGood_no {l : List C2} (h : goodB l = false) : Ev (fun k => spec_pzGood.f k l) false := h ▸ pzGood_ev l
theorem isPuzzle_yes {l : List C2} (h : goodB l = true) : Ev (fun k => impl_IsPuzzle.f k l) true := h ▸ isPuzzle_ev l
theorem isPuzzle_no {l : List C2} (h : goodB l = false) : Ev (fun k => impl_IsPuzzle.f k l) false := h ▸ isPuzzle_ev l
theorem Solutions_yes {l : List C2} (h : goodB l = true) : Ev (fun k => impl_Solutions.f k l) (sol l, true) := by
  unfold impl_Solutions.f
  exact Ev.bind (isPuzzle_yes h) (ev_pos rfl (Ev.bind (solutions_ev l (all_good h)) (ev_eq fun _ => rfl)))
theorem Solutions_no {l : List C2} (h : goodB l = false) : Ev (fun k => impl_Solutions.f k l) ([], false) := by
  unfold impl_Solutions.f
  exact Ev.bind (isPuzzle_no h) (ev_neg (by decide) (ev_eq fun _ => rfl))

/-! ### without one -/
theorem goodB_len {l : List C2} (h : goodB l = true) : l.length ≤ 6 := by
  unfold goodB at h
  simp only [Bool.and_eq_true, decide_eq_true_eq] at h
  exact h.1
theorem pzWithout_eq (l : List C2) (k : Nat) (hk : k < l.length) (hl : l.length ≤ 1048577) : spec_pzWithout.f l (k : Int) = some (l.eraseIdx k) := by
  unfold spec_pzWithout.f
  obtain ⟨N, hN, hN'⟩ : ∃ N : Nat, N = 5864062014805 ∧ 2000000 ≤ N := ⟨_, rfl, by omega⟩
  rw [← hN, Option.bind_some, if_pos (by omega), if_pos (by omega), Option.bind_some, Int.toNat_natCast]
  rw [if_pos (by rw [List.length_take]; simp only [List.length_nil]; omega), Option.bind_some, wrap_nat (by omega)]
  rw [if_pos (by omega), if_pos (by omega), Option.bind_some, Int.toNat_natCast, if_pos (by simp only [List.length_append, List.length_take, List.length_drop, List.length_nil]; omega)]
  rw [List.nil_append, List.eraseIdx_eq_take_drop_succ]
theorem dropped_eq (l : List C2) (k : Nat) (hk : k < l.length) (hl : l.length ≤ 1048577) : impl_dropped.f l (k : Int) = some (l.eraseIdx k) := by
  unfold impl_dropped.f
  rw [if_pos (by omega), if_pos (by omega), if_pos (by omega), Int.toNat_natCast]
theorem all_erase {c : List C2} (h : c.all clueS = true) (i : Nat) : (c.eraseIdx i).all clueS = true :=
  List.all_eq_true.mpr fun x hx => List.all_eq_true.mp h x (List.mem_of_mem_eraseIdx hx)

/-! ### adding -/
def addB (l : List C2) (x y z : Int) : List C2 × Bool := if goodB l = true ∧ clueB x y z = true ∧ ¬ (l.length : Int) = 6 then (l ++ [⟨x, y, z⟩], true) else ([], false)
theorem goodB_len' {l : List C2} (h : goodB l = true) : l.length ≤ 6 := by
  unfold goodB at h
  simp only [Bool.and_eq_true, decide_eq_true_eq] at h
  exact h.1
theorem specAdd_ev (l : List C2) (x y z : Int) : Ev (fun k => spec_AddClue.f k l x y z) (addB l x y z) := by
  unfold spec_AddClue.f addB
  refine Ev.bind (pzGood_ev l) ?_
  cases hg : goodB l with
  | false => exact ev_neg (by decide) (ev_eq fun _ => by simp)
  | true =>
    have hl := goodB_len' hg
    refine ev_pos rfl ?_
    refine ev_bind (specClue_eq _ _ _) ?_
    cases hc : clueB x y z with
    | false => exact ev_neg (by decide) (ev_eq fun _ => by simp)
    | true =>
      refine ev_pos rfl ?_
      by_cases h6 : (l.length : Int) = 6
      · exact ev_pos h6 (ev_eq fun _ => by simp [h6])
      · refine ev_neg h6 ?_
        refine ev_eq fun _ => ?_
        obtain ⟨N, hN, hN'⟩ : ∃ N : Nat, N = 5864062014805 ∧ 2000000 ≤ N := ⟨_, rfl, by omega⟩
        rw [← hN]
        simp only [Option.bind_some, List.nil_append, List.length_nil, List.length_cons]
        rw [if_pos (by omega), if_pos (by omega), if_pos ⟨trivial, trivial, h6⟩]
theorem implAdd_ev (l : List C2) (x y z : Int) : Ev (fun k => impl_AddClue.f k l x y z) (addB l x y z) := by
  unfold impl_AddClue.f addB
  refine Ev.bind (isPuzzle_ev l) ?_
  cases hg : goodB l with
  | false => exact ev_neg (by decide) (ev_eq fun _ => by simp)
  | true =>
    have hl := goodB_len' hg
    refine ev_pos rfl ?_
    refine Ev.bind (implClue_ev _ _ _) ?_
    cases hc : clueB x y z with
    | false => exact ev_neg (by decide) (ev_eq fun _ => by simp)
    | true =>
      refine ev_pos rfl ?_
      by_cases h6 : (l.length : Int) = 6
      · exact ev_pos h6 (ev_eq fun _ => by simp [h6])
      · refine ev_neg h6 ?_
        refine ev_eq fun _ => ?_
        unfold slices_Clone_clue.f
        obtain ⟨N, hN, hN'⟩ : ∃ N : Nat, N = 5864062014805 ∧ 2000000 ≤ N := ⟨_, rfl, by omega⟩
        rw [← hN]
        rw [if_pos (by omega)]
        simp only [Option.bind_some, List.length_nil, List.length_cons]
        rw [if_pos (by omega), if_pos ⟨trivial, trivial, h6⟩]
theorem addB_len (l : List C2) (x y z : Int) : (addB l x y z).1.length ≤ 1048577 := by
  unfold addB
  split
  · rename_i h
    have := goodB_len' h.1
    simp only [List.length_append, List.length_cons, List.length_nil]
    omega
  · simp

/-! ### a puzzle without a clue (out of pzdrop) -/
theorem wrap_len {n : Nat} (h : n ≤ 1048577) : wrap64 ((n : Int) - 1) = n - 1 := wrap_of (by omega) (by omega)
def dropB (l : List C2) (a : Int) : List C2 × Bool := if goodB l = true ∧ 0 ≤ a ∧ a ≤ (l.length : Int) - 1 then (l.eraseIdx a.toNat, true) else ([], false)
theorem specDrop_ev (l : List C2) (a : Int) (hl : l.length ≤ 1048577) : Ev (fun k => spec_DropClue.f k l a) (dropB l a) := by
  unfold spec_DropClue.f dropB
  refine Ev.bind (pzGood_ev l) ?_
  cases hg : goodB l with
  | false => exact ev_neg (by decide) (ev_eq fun _ => by simp)
  | true =>
    refine ev_pos rfl ?_
    refine ev_bind (l1In_eq _ _ _) ?_
    rw [wrap_len hl]
    by_cases h : 0 ≤ a ∧ a ≤ (l.length : Int) - 1
    · refine ev_pos (by simpa using h) ?_
      obtain ⟨k, rfl⟩ : ∃ k : Nat, a = (k : Int) := ⟨a.toNat, by omega⟩
      refine ev_bind (pzWithout_eq l k (by omega) hl) ?_
      refine ev_eq fun _ => ?_
      rw [if_pos ⟨rfl, h⟩, Int.toNat_natCast]
    · refine ev_neg (by simpa using h) ?_
      refine ev_eq fun _ => ?_
      rw [if_neg (fun x => h x.2)]
theorem implDrop_ev (l : List C2) (a : Int) (hl : l.length ≤ 1048577) : Ev (fun k => impl_DropClue.f k l a) (dropB l a) := by
  unfold impl_DropClue.f dropB
  refine Ev.bind (isPuzzle_ev l) ?_
  cases hg : goodB l with
  | false => exact ev_neg (by decide) (ev_eq fun _ => by simp)
  | true =>
    refine ev_pos rfl ?_
    refine ev_bind (within_eq _ _ _) ?_
    rw [wrap_len hl]
    by_cases h : 0 ≤ a ∧ a ≤ (l.length : Int) - 1
    · refine ev_pos (by simpa using h) ?_
      obtain ⟨k, rfl⟩ : ∃ k : Nat, a = (k : Int) := ⟨a.toNat, by omega⟩
      refine ev_bind (dropped_eq l k (by omega) hl) ?_
      refine ev_eq fun _ => ?_
      rw [if_pos ⟨rfl, h⟩, Int.toNat_natCast]
    · refine ev_neg (by simpa using h) ?_
      refine ev_eq fun _ => ?_
      rw [if_neg (fun x => h x.2)]
theorem dropB_len (l : List C2) (a : Int) (hl : l.length ≤ 1048577) : (dropB l a).1.length ≤ 1048577 := by
  unfold dropB
  split
  · have := List.length_eraseIdx_le l a.toNat
    simp only
    omega
  · simp

/-! ### hidden tickets -/
def okc (b : UInt8) : Bool := decide (48 ≤ b.toNat ∧ b.toNat ≤ 53)
def dgc (b : UInt8) : Bool := decide (48 ≤ b.toNat ∧ b.toNat ≤ 57)
def hidB (t : ByteArray) : Bool := decide (t.size = 4) && t.data.toList.all okc
theorem bt_get (t : ByteArray) (i : Nat) (h : i < t.data.toList.length) : bt t (i : Int) = ((t.data.toList[i]).toNat : Int) := by
  unfold bt
  rw [dif_pos (by rw [Int.toNat_natCast]; simpa using h)]
  simp only [Int.toNat_natCast]
  rfl
theorem size_len (t : ByteArray) : t.data.toList.length = t.size := by rw [Array.length_toList]; rfl
theorem ev_succ {α : Type} {g : Nat → Option α} {r : α} (h : Ev (fun k => g (k + 1)) r) : Ev g r := by
  obtain ⟨K, hK⟩ := h
  refine ev_from (K + 1) (fun k hk => ?_)
  obtain ⟨k, rfl⟩ : ∃ m, k = m + 1 := ⟨k - 1, by omega⟩
  exact hK k (by omega)
theorem specHid_loop (t : ByteArray) (h4 : t.size = 4) : ∀ (d i : Nat), i + d = 4 → Ev (fun k => spec_pzHidden.l0 k t (i : Int)) ((t.data.toList.drop i).all okc) := by
  intro d
  induction d with
  | zero =>
    intro i hi
    refine ev_succ ?_
    simp only [spec_pzHidden.l0]
    rw [List.drop_eq_nil_of_le (by rw [size_len]; omega)]
    exact ev_neg (by omega) (ev_eq fun _ => rfl)
  | succ d ih =>
    intro i hi
    refine ev_succ ?_
    simp only [spec_pzHidden.l0]
    have hlt : i < t.data.toList.length := by rw [size_len]; omega
    rw [bt_get t i hlt, List.drop_eq_getElem_cons hlt, List.all_cons, wrap_nat (by omega)]
    have hb := (t.data.toList[i]).toNat_lt
    have e1 : wrap64 (wrap64 (((t.data.toList[i]).toNat : Int)) - 48) = ((t.data.toList[i]).toNat : Int) - 48 := by
      rw [wrap_of (x := ((t.data.toList[i]).toNat : Int)) (by omega) (by omega), wrap_of (by omega) (by omega)]
    rw [e1]
    refine ev_pos (by omega) (ev_pos (by omega) (ev_pos (by omega) (ev_bind (l1In_eq _ _ _) ?_)))
    have e2 : decide (0 ≤ ((t.data.toList[i]).toNat : Int) - 48 ∧ ((t.data.toList[i]).toNat : Int) - 48 ≤ 5) = okc (t.data.toList[i]) := by
      unfold okc; congr 1; apply propext; omega
    rw [e2]
    cases okc (t.data.toList[i]) with
    | true => exact ev_pos rfl (ih (i + 1) (by omega))
    | false => exact ev_neg (by decide) (ev_eq fun _ => rfl)
theorem specHidden_ev (t : ByteArray) (_ : t.size ≤ 1048576) : Ev (fun k => spec_pzHidden.f k t) (hidB t) := by
  unfold spec_pzHidden.f hidB
  by_cases h : t.size = 4
  · have := specHid_loop t h 4 0 rfl
    refine ev_pos (by omega) ?_
    simpa [h] using this
  · exact ev_neg (by omega) (ev_eq fun _ => by simp [h])
theorem areDig_loop (t : ByteArray) (hs : t.size ≤ 1048576) : ∀ (d i : Nat), i + d = t.size → Ev (fun k => impl_areDigits.l0 k t 4 4 (t.size : Int) (i : Int)) ((t.data.toList.drop i).all dgc && decide (t.size = 4)) := by
  intro d
  induction d with
  | zero =>
    intro i hi
    refine ev_succ ?_
    simp only [impl_areDigits.l0]
    rw [List.drop_eq_nil_of_le (by rw [size_len]; omega)]
    refine ev_neg (by omega) (ev_bind (within_eq _ _ _) (ev_eq fun _ => ?_))
    congr 1
    simp only [List.all_nil, Bool.true_and]
    congr 1; apply propext; omega
  | succ d ih =>
    intro i hi
    refine ev_succ ?_
    simp only [impl_areDigits.l0]
    have hlt : i < t.data.toList.length := by rw [size_len]; omega
    rw [bt_get t i hlt, List.drop_eq_getElem_cons hlt, List.all_cons, wrap_nat (by omega)]
    refine ev_pos (by omega) (ev_pos (by omega) (ev_pos (by omega) ?_))
    by_cases h1 : ((t.data.toList[i]).toNat : Int) < 48
    · have : dgc (t.data.toList[i]) = false := by unfold dgc; apply decide_eq_false; omega
      rw [this]
      exact ev_pos h1 (ev_eq fun _ => rfl)
    · refine ev_neg h1 ?_
      by_cases h2 : ((t.data.toList[i]).toNat : Int) > 57
      · have : dgc (t.data.toList[i]) = false := by unfold dgc; apply decide_eq_false; omega
        rw [this]
        exact ev_pos h2 (ev_eq fun _ => rfl)
      · have : dgc (t.data.toList[i]) = true := by unfold dgc; apply decide_eq_true; omega
        rw [this, Bool.true_and]
        exact ev_neg h2 (ih (i + 1) (by omega))
theorem contains_ok (b : UInt8) : ([48, 49, 50, 51, 52, 53] : List UInt8).contains b = okc b := by
  unfold okc
  rw [Bool.eq_iff_iff]
  simp only [List.contains_cons, List.contains_nil, Bool.or_false, Bool.or_eq_true, beq_iff_eq, decide_eq_true_eq, ← UInt8.toNat_inj]
  show (b.toNat = 48 ∨ b.toNat = 49 ∨ b.toNat = 50 ∨ b.toNat = 51 ∨ b.toNat = 52 ∨ b.toNat = 53) ↔ _
  omega
theorem loop_ne (bs : ByteArray) : ∀ (n i : Nat) (r : List UInt8), bs.size - i = n → r ≠ [] → ByteArray.toList.loop bs i r ≠ [] := by
  intro n
  induction n with
  | zero =>
    intro i r hi hr
    rw [ByteArray.toList.loop, if_neg (by omega)]
    exact fun e => hr (List.reverse_eq_nil_iff.mp e)
  | succ n ih =>
    intro i r hi hr
    rw [ByteArray.toList.loop, if_pos (by omega)]
    exact ih (i + 1) _ (by omega) (by simp)
theorem empty_list (l : List UInt8) : ((⟨l.toArray⟩ : ByteArray).toList == ([] : List UInt8)) = l.isEmpty := by
  cases l with
  | nil =>
    unfold ByteArray.toList
    rw [ByteArray.toList.loop, if_neg (by show ¬ (0 : Nat) < 0; decide)]
    rfl
  | cons a r =>
    have : (⟨(a :: r).toArray⟩ : ByteArray).toList ≠ [] := by
      unfold ByteArray.toList
      rw [ByteArray.toList.loop, if_pos (by show 0 < (a :: r).length; simp)]
      exact loop_ne _ _ 1 _ rfl (by simp)
    exact beq_eq_false_iff_ne.mpr this
theorem trim_four (a b c d : UInt8) : (Lib.trimS [a, b, c, d] [48, 49, 50, 51, 52, 53]).isEmpty = (okc a && (okc b && (okc c && okc d))) := by
  unfold Lib.trimS Lib.trimLeftS Lib.trimRightS
  simp only [contains_ok]
  cases ha : okc a <;> cases hb : okc b <;> cases hc : okc c <;> cases hd : okc d <;> simp [List.dropWhile, ha, hb, hc, hd]
theorem okc_dgc {b : UInt8} (h : okc b = true) : dgc b = true := by
  unfold okc at h; unfold dgc
  rw [decide_eq_true_eq] at h ⊢
  omega
theorem implHidden_ev (t : ByteArray) (hs : t.size ≤ 1048576) : Ev (fun k => impl_isHidden.f k t) (hidB t) := by
  unfold impl_isHidden.f impl_areDigits.f
  refine Ev.bind (areDig_loop t hs t.size 0 (by omega)) ?_
  rw [List.drop_zero]
  unfold hidB
  by_cases h4 : t.size = 4
  · obtain ⟨⟨l⟩⟩ := t
    have h4' : l.length = 4 := h4
    match l, h4' with
    | [a, b, c, d], _ =>
      have hd : (decide (ByteArray.size ⟨(([a, b, c, d] : List UInt8)).toArray⟩ = 4)) = true := rfl
      rw [hd, Bool.and_true, Bool.true_and]
      have hall : ([a, b, c, d] : List UInt8).all okc = (okc a && (okc b && (okc c && okc d))) := by simp [List.all_cons]
      cases hq : ([a, b, c, d] : List UInt8).all dgc with
      | true =>
        refine ev_pos rfl (ev_bind (a := (⟨(Lib.trimS [a, b, c, d] [48, 49, 50, 51, 52, 53]).toArray⟩ : ByteArray)) ?_ (ev_eq fun _ => ?_))
        · unfold strings_Trim.f
          rw [if_pos (by show (4 : Nat) ≤ _; omega), if_pos (by decide), if_pos (by decide)]
        · rw [empty_list, trim_four]
          exact congrArg some hall.symm
      | false =>
        refine ev_neg (by decide) (ev_eq fun _ => ?_)
        refine congrArg some ?_
        symm
        show ([a, b, c, d] : List UInt8).all okc = false
        rw [← Bool.not_eq_true]
        intro hx
        rw [← Bool.not_eq_true] at hq
        exact hq (List.all_eq_true.mpr fun y hy => okc_dgc (List.all_eq_true.mp hx y hy))
  · simp only [h4, decide_false, Bool.and_false, Bool.false_and]
    exact ev_neg (by decide) (ev_eq fun _ => rfl)
theorem hid_tk (t : ByteArray) (h : hidB t = true) : ∃ n, n < 1296 ∧ t = tk n := by
  unfold hidB at h
  rw [Bool.and_eq_true, decide_eq_true_eq] at h
  obtain ⟨h4, hall⟩ := h
  obtain ⟨⟨l⟩⟩ := t
  have h4' : l.length = 4 := h4
  match l, h4' with
  | [a, b, c, d], _ =>
    have ho : ∀ y ∈ ([a, b, c, d] : List UInt8), 48 ≤ y.toNat ∧ y.toNat ≤ 53 := fun y hy => of_decide_eq_true (List.all_eq_true.mp hall y hy)
    have ha := ho a (by simp)
    have hb := ho b (by simp)
    have hc := ho c (by simp)
    have hd := ho d (by simp)
    refine ⟨216 * (a.toNat - 48) + 36 * (b.toNat - 48) + 6 * (c.toNat - 48) + (d.toNat - 48), by omega, ?_⟩
    generalize hn : 216 * (a.toNat - 48) + 36 * (b.toNat - 48) + 6 * (c.toNat - 48) + (d.toNat - 48) = n
    have e : tk n = ⟨#[UInt8.ofNat (48 + n / 6 / 6 / 6 % 6), UInt8.ofNat (48 + n / 6 / 6 % 6), UInt8.ofNat (48 + n / 6 % 6), UInt8.ofNat (48 + n % 6)]⟩ := rfl
    rw [e, show 48 + n / 6 / 6 / 6 % 6 = a.toNat by omega, show 48 + n / 6 / 6 % 6 = b.toNat by omega, show 48 + n / 6 % 6 = c.toNat by omega, show 48 + n % 6 = d.toNat by omega]
    simp

/-! ### puzzles that are made (out of pure/FnExactMakePuzzle) -/
def nx (z : Int) : Int := (303 * z + 709) % 10007
theorem nx_b (z : Int) : 0 ≤ nx z ∧ nx z ≤ 10006 := by unfold nx; omega
theorem implNx (z : Int) (h0 : 0 ≤ z) (h1 : z ≤ 10006) : impl_MakePuzzle.nx z = nx z := by
  unfold impl_MakePuzzle.nx nx
  rw [wrap_of (x := z * 303) (by omega) (by omega), wrap_of (by omega) (by omega), Int.tmod_eq_emod_of_nonneg (by omega), Int.mul_comm]
theorem specNx (z : Int) (h0 : 0 ≤ z) (h1 : z ≤ 10006) : spec_pzNext.f z = some (nx z) := by
  unfold spec_pzNext.f nx
  rw [wrap_of (x := 303 * z) (by omega) (by omega), wrap_of (by omega) (by omega), Int.tmod_eq_emod_of_nonneg (by omega)]
def mdK (kd : Int) : Int := rd ([2, 4, 1, 3, 1] : List Int) kd
theorem val_all (n : Nat) (hn : n < 1296) (kd y : Int) (h0 : 0 ≤ kd) (h5 : kd < 5) (hy : 0 ≤ y) (k : Nat) (hk : 24 ≤ k) :
    mdK kd ≠ 0 ∧ ∃ v, impl_told.f k kd (y % mdK kd) (tk n) = some v ∧ spec_pzOf.f k kd y (tk n) = some (kd, y % mdK kd, v) := by
  have hc := chk_all n hn
  unfold chk at hc
  simp only [Bool.and_eq_true] at hc
  obtain ⟨⟨⟨⟨⟨⟨⟨⟨⟨⟨⟨a0, a1⟩, b0⟩, b1⟩, b2⟩, b3⟩, c0⟩, d0⟩, d1⟩, d2⟩, e0⟩, _⟩ := hc
  have up : ∀ {kd a : Int}, chkV kd a (tk n) = true → ∃ v, impl_told.f k kd a (tk n) = some v ∧ spec_pzValue.f k kd a (tk n) = some v := fun h => by
    obtain ⟨v, h1, h2⟩ := chkV_of h
    exact ⟨v, mono_le (fun k => impl_told.mono _ _ _ k) (K := 24) h2 hk, mono_le (fun k => spec_pzValue.mono _ _ _ k) (K := 24) h1 hk⟩
  have hkd : kd = 0 ∨ kd = 1 ∨ kd = 2 ∨ kd = 3 ∨ kd = 4 := by omega
  unfold spec_pzOf.f
  rcases hkd with rfl | rfl | rfl | rfl | rfl
  · have e : mdK 0 = 2 := rfl
    rw [e, Int.tmod_eq_emod_of_nonneg hy]
    refine ⟨by decide, ?_⟩
    have hr : y % 2 = 0 ∨ y % 2 = 1 := by omega
    obtain ⟨v, h1, h2⟩ : ∃ v, impl_told.f k 0 (y % 2) (tk n) = some v ∧ spec_pzValue.f k 0 (y % 2) (tk n) = some v := by
      rcases hr with q | q <;> rw [q]
      · exact up a0
      · exact up a1
    exact ⟨v, h1, by rw [if_pos rfl, h2]; rfl⟩
  · have e : mdK 1 = 4 := rfl
    rw [e, if_neg (by decide), Int.tmod_eq_emod_of_nonneg hy]
    refine ⟨by decide, ?_⟩
    have hr : y % 4 = 0 ∨ y % 4 = 1 ∨ y % 4 = 2 ∨ y % 4 = 3 := by omega
    obtain ⟨v, h1, h2⟩ : ∃ v, impl_told.f k 1 (y % 4) (tk n) = some v ∧ spec_pzValue.f k 1 (y % 4) (tk n) = some v := by
      rcases hr with q | q | q | q <;> rw [q]
      · exact up b0
      · exact up b1
      · exact up b2
      · exact up b3
    exact ⟨v, h1, by rw [if_pos rfl, h2]; rfl⟩
  · have e : mdK 2 = 1 := rfl
    rw [e, if_neg (by decide), if_neg (by decide), if_neg (by decide), Int.emod_one]
    refine ⟨by decide, ?_⟩
    obtain ⟨v, h1, h2⟩ := up c0
    exact ⟨v, h1, by rw [h2]; rfl⟩
  · have e : mdK 3 = 3 := rfl
    rw [e, if_neg (by decide), if_neg (by decide), Int.tmod_eq_emod_of_nonneg hy]
    refine ⟨by decide, ?_⟩
    have hr : y % 3 = 0 ∨ y % 3 = 1 ∨ y % 3 = 2 := by omega
    obtain ⟨v, h1, h2⟩ : ∃ v, impl_told.f k 3 (y % 3) (tk n) = some v ∧ spec_pzValue.f k 3 (y % 3) (tk n) = some v := by
      rcases hr with q | q | q <;> rw [q]
      · exact up d0
      · exact up d1
      · exact up d2
    exact ⟨v, h1, by rw [if_pos rfl, h2]; rfl⟩
  · have e : mdK 4 = 1 := rfl
    rw [e, if_neg (by decide), if_neg (by decide), if_neg (by decide), Int.emod_one]
    refine ⟨by decide, ?_⟩
    obtain ⟨v, h1, h2⟩ := up e0
    exact ⟨v, h1, by rw [h2]; rfl⟩
def valF (n : Nat) (kd y : Int) : Int := (impl_told.f 24 kd (y % mdK kd) (tk n)).getD 0
theorem val_at (n : Nat) (hn : n < 1296) (kd y : Int) (h0 : 0 ≤ kd) (h5 : kd < 5) (hy : 0 ≤ y) (k : Nat) (hk : 24 ≤ k) :
    impl_told.f k kd (y % mdK kd) (tk n) = some (valF n kd y) ∧ spec_pzOf.f k kd y (tk n) = some (kd, y % mdK kd, valF n kd y) := by
  obtain ⟨_, v, h1, _⟩ := val_all n hn kd y h0 h5 hy 24 (Nat.le_refl _)
  obtain ⟨_, v', h1', h2'⟩ := val_all n hn kd y h0 h5 hy k hk
  have e : valF n kd y = v := by unfold valF; rw [h1]; rfl
  have e2 := mono_le (fun k => impl_told.mono _ _ _ k) (K := 24) h1 hk
  rw [h1'] at e2
  rw [e, ← Option.some.inj e2]
  exact ⟨h1', h2'⟩
def mkL (n : Nat) : Nat → Int → List C2 → List C2
  | 0, _, l => l
  | c + 1, z, l => mkL n c (nx (nx z)) (l ++ [⟨nx z % 5, nx (nx z) % mdK (nx z % 5), valF n (nx z % 5) (nx (nx z))⟩])
theorem mkL_len (n : Nat) : ∀ c z l, (mkL n c z l).length = l.length + c
  | 0, _, _ => rfl
  | c + 1, z, l => by rw [mkL, mkL_len n c]; simp; omega
theorem implGo (n : Nat) (hn : n < 1296) (k : Nat) (hk : 24 ≤ k) : ∀ (c : Nat) (z : Int) (l : List C2), 0 ≤ z → z ≤ 10006 → impl_MakePuzzle.go k (tk n) c z l = some (mkL n c z l)
  | 0, _, _, _, _ => rfl
  | c + 1, z, l, h0, h1 => by
    have b1 := nx_b z
    have b2 := nx_b (nx z)
    unfold impl_MakePuzzle.go mkL
    rw [implNx z h0 h1, implNx (nx z) b1.1 b1.2, Int.tmod_eq_emod_of_nonneg b1.1, if_pos (by omega), if_pos (by omega)]
    have hm := val_all n hn (nx z % 5) (nx (nx z)) (by omega) (by omega) b2.1 k hk
    have hv := val_at n hn (nx z % 5) (nx (nx z)) (by omega) (by omega) b2.1 k hk
    rw [if_neg (show ¬ rd ([2, 4, 1, 3, 1] : List Int) (nx z % 5) = 0 from hm.1), Int.tmod_eq_emod_of_nonneg b2.1]
    rw [show rd ([2, 4, 1, 3, 1] : List Int) (nx z % 5) = mdK (nx z % 5) from rfl, hv.1, Option.bind_some]
    exact implGo n hn k hk c _ _ b2.1 b2.2
theorem specGo (n : Nat) (hn : n < 1296) : ∀ (c : Nat) (z : Int) (l : List C2), c + l.length ≤ 6 → 0 ≤ z → z ≤ 10006 → Ev (fun k => spec_MakePuzzle.l0 k (tk n) (c : Int) z l) (mkL n c z l, true)
  | 0, _, _, _, _, _ => by
    refine ev_succ ?_
    simp only [spec_MakePuzzle.l0]
    exact ev_neg (by decide) (ev_eq fun _ => rfl)
  | c + 1, z, l, hl, h0, h1 => by
    have b1 := nx_b z
    have b2 := nx_b (nx z)
    refine ev_succ ?_
    simp only [spec_MakePuzzle.l0]
    refine ev_pos (by omega) (ev_bind (specNx z h0 h1) (ev_bind (specNx _ b1.1 b1.2) ?_))
    rw [Int.tmod_eq_emod_of_nonneg b1.1]
    refine Ev.bind (ev_from 24 (fun k hk => (val_at n hn (nx z % 5) (nx (nx z)) (by omega) (by omega) b2.1 k hk).2)) ?_
    refine ev_pos (by omega) ?_
    rw [show wrap64 (((c + 1 : Nat) : Int) - 1) = (c : Int) by rw [wrap_of (by omega) (by omega)]; omega]
    exact specGo n hn c _ _ (by simp; omega) b2.1 b2.2
theorem make_both (t : ByteArray) (ht : t.size ≤ 1048576) (c z : Int) : ∃ r : List C2 × Bool, r.1.length ≤ 6 ∧ Ev (fun k => spec_MakePuzzle.f k t c z) r ∧ Ev (fun k => impl_MakePuzzle.f k t c z) r := by
  have hd : ∀ b : Bool, (b = true ∧ True) ∨ b = false := fun b => by cases b <;> simp
  cases hh : hidB t with
  | false =>
    refine ⟨([], false), by simp, ?_, ?_⟩
    · unfold spec_MakePuzzle.f
      refine Ev.bind (hh ▸ specHidden_ev t ht) (ev_neg (by decide) (ev_succ ?_))
      simp only [spec_MakePuzzle.j0]
      exact ev_pos trivial (ev_eq fun _ => rfl)
    · unfold impl_MakePuzzle.f
      exact Ev.bind (hh ▸ implHidden_ev t ht) (ev_neg (by decide) (ev_eq fun _ => rfl))
  | true =>
    obtain ⟨n, hn, rfl⟩ := hid_tk t hh
    by_cases hc : 0 ≤ c ∧ c ≤ 6
    · by_cases hz : 0 ≤ z ∧ z ≤ 9999
      · obtain ⟨m, rfl⟩ : ∃ m : Nat, c = (m : Int) := ⟨c.toNat, by omega⟩
        refine ⟨(mkL n m z [], true), by rw [mkL_len]; simp; omega, ?_, ?_⟩
        · unfold spec_MakePuzzle.f
          refine Ev.bind (hh ▸ specHidden_ev _ ht) (ev_pos rfl (ev_bind (l1In_eq _ _ _) (ev_pos (decide_eq_true hc) (ev_bind (l1In_eq _ _ _) (ev_succ ?_)))))
          simp only [spec_MakePuzzle.j0]
          refine ev_neg (by rw [decide_eq_true hz]; decide) ?_
          exact specGo n hn m z [] (by simp; omega) hz.1 (by omega)
        · unfold impl_MakePuzzle.f
          refine Ev.bind (hh ▸ implHidden_ev _ ht) (ev_pos rfl (ev_bind (within_eq _ _ _) (ev_pos (decide_eq_true hc) (ev_bind (within_eq _ _ _) (ev_pos (decide_eq_true hz) (ev_pos hc.2 ?_))))))
          rw [Int.toNat_natCast]
          exact Ev.bind (ev_from 24 (fun k hk => implGo n hn k hk m z [] hz.1 (by omega))) (ev_eq fun _ => rfl)
      · refine ⟨([], false), by simp, ?_, ?_⟩
        · unfold spec_MakePuzzle.f
          refine Ev.bind (hh ▸ specHidden_ev _ ht) (ev_pos rfl (ev_bind (l1In_eq _ _ _) (ev_pos (decide_eq_true hc) (ev_bind (l1In_eq _ _ _) (ev_succ ?_)))))
          simp only [spec_MakePuzzle.j0]
          exact ev_pos (by rw [decide_eq_false hz]; rfl) (ev_eq fun _ => rfl)
        · unfold impl_MakePuzzle.f
          exact Ev.bind (hh ▸ implHidden_ev _ ht) (ev_pos rfl (ev_bind (within_eq _ _ _) (ev_pos (decide_eq_true hc) (ev_bind (within_eq _ _ _) (ev_neg (by rw [decide_eq_false hz]; decide) (ev_eq fun _ => rfl))))))
    · refine ⟨([], false), by simp, ?_, ?_⟩
      · unfold spec_MakePuzzle.f
        refine Ev.bind (hh ▸ specHidden_ev _ ht) (ev_pos rfl (ev_bind (l1In_eq _ _ _) (ev_neg (by rw [decide_eq_false hc]; decide) (ev_succ ?_))))
        simp only [spec_MakePuzzle.j0]
        exact ev_pos trivial (ev_eq fun _ => rfl)
      · unfold impl_MakePuzzle.f
        exact Ev.bind (hh ▸ implHidden_ev _ ht) (ev_pos rfl (ev_bind (within_eq _ _ _) (ev_neg (by rw [decide_eq_false hc]; decide) (ev_eq fun _ => rfl))))


/-! ### harder puzzles (out of pure/FnExactHarderPuzzle) -/
theorem solved_ev (c : List C2) (hc : c.all clueS = true) : Ev (fun k => spec_pzSolved.f k c) (((sol c).length : Int) == 1) := by
  unfold spec_pzSolved.f
  exact Ev.bind (pzAll_ev c hc) (ev_eq fun _ => rfl)
def hd : Nat → List C2 → Nat → List C2
  | 0, x, _ => x
  | m + 1, x, i => if i < x.length then (if ((sol (x.eraseIdx i)).length : Int) = 1 then hd m (x.eraseIdx i) i else hd m x (i + 1)) else x
theorem hd_len : ∀ m x i, (hd m x i).length ≤ x.length
  | 0, _, _ => Nat.le_refl _
  | m + 1, x, i => by
    unfold hd
    split
    · split
      · have := hd_len m (x.eraseIdx i) i; have := List.length_eraseIdx_le x i; omega
      · exact hd_len m x (i + 1)
    · exact Nat.le_refl _
theorem erase_len {x : List C2} {i : Nat} (h : i < x.length) : (x.eraseIdx i).length + 1 = x.length := by rw [List.length_eraseIdx_of_lt h]; omega
theorem specHard_loop : ∀ (m : Nat) (x : List C2) (i : Nat), x.all clueS = true → x.length ≤ 6 → x.length ≤ m + i → i ≤ 6 → Ev (fun k => spec_HarderPuzzle.l0 k x (i : Int)) (hd m x i, true) := by
  intro m
  induction m with
  | zero =>
    intro x i hc h6 hm hi
    refine ev_succ ?_
    simp only [spec_HarderPuzzle.l0]
    exact ev_neg (by omega) (ev_eq fun _ => rfl)
  | succ m ih =>
    intro x i hc h6 hm hi
    refine ev_succ ?_
    simp only [spec_HarderPuzzle.l0]
    unfold hd
    by_cases hlt : i < x.length
    · have he := erase_len hlt
      rw [if_pos hlt, wrap_nat (by omega)]
      refine ev_pos (by omega) (ev_bind (pzWithout_eq x i hlt (by omega)) (Ev.bind (solved_ev _ (all_erase hc i)) ?_))
      by_cases hq : ((sol (x.eraseIdx i)).length : Int) = 1
      · rw [if_pos hq]
        exact ev_pos (by simpa using hq) (ih _ i (all_erase hc i) (by omega) (by omega) hi)
      · rw [if_neg hq]
        exact ev_neg (by simpa using hq) (ih x (i + 1) hc h6 (by omega) (by omega))
    · rw [if_neg hlt]
      exact ev_neg (by omega) (ev_eq fun _ => rfl)
theorem implHard_loop : ∀ (m : Nat) (x : List C2) (i : Nat), x.all clueS = true → x.length ≤ 6 → x.length ≤ m + i → i ≤ 6 → Ev (fun k => impl_HarderPuzzle.l0 k x (i : Int)) (hd m x i, true) := by
  intro m
  induction m with
  | zero =>
    intro x i hc h6 hm hi
    refine ev_succ ?_
    simp only [impl_HarderPuzzle.l0]
    exact ev_neg (by omega) (ev_eq fun _ => rfl)
  | succ m ih =>
    intro x i hc h6 hm hi
    refine ev_succ ?_
    simp only [impl_HarderPuzzle.l0]
    unfold hd
    by_cases hlt : i < x.length
    · have he := erase_len hlt
      rw [if_pos hlt, wrap_nat (by omega)]
      refine ev_pos (by omega) (ev_bind (dropped_eq x i hlt (by omega)) (Ev.bind (solutions_ev _ (all_erase hc i)) ?_))
      by_cases hq : ((sol (x.eraseIdx i)).length : Int) = 1
      · rw [if_pos hq]
        exact ev_pos hq (ih _ i (all_erase hc i) (by omega) (by omega) hi)
      · rw [if_neg hq]
        exact ev_neg hq (ih x (i + 1) hc h6 (by omega) (by omega))
    · rw [if_neg hlt]
      exact ev_neg (by omega) (ev_eq fun _ => rfl)
def hardR (c : List C2) : List C2 × Bool := if goodB c = true ∧ ((sol c).length : Int) = 1 then (hd 6 c 0, true) else ([], false)
theorem hardR_len (c : List C2) : (hardR c).1.length ≤ 1048577 := by
  unfold hardR
  split
  · rename_i h
    have := goodB_len h.1; have := hd_len 6 c 0; simp; omega
  · simp
theorem clone_eq (l : List C2) (h : l.length ≤ 1048577) : slices_Clone_clue.f l = some l := by
  unfold slices_Clone_clue.f
  rw [if_pos (by omega)]
theorem specHard_ev (c : List C2) : Ev (fun k => spec_HarderPuzzle.f k c) (hardR c) := by
  unfold spec_HarderPuzzle.f hardR
  cases h : goodB c with
  | true =>
    have h6 := goodB_len h
    have hc := all_good h
    refine Ev.bind (pzGood_yes h) (ev_pos rfl (Ev.bind (solved_ev c hc) (ev_succ ?_)))
    simp only [spec_HarderPuzzle.j0]
    by_cases hq : ((sol c).length : Int) = 1
    · rw [if_pos ⟨by first | rfl | trivial, hq⟩]
      refine ev_neg (by simpa using hq) (ev_bind rfl (ev_pos (by simp only [List.length_nil]; omega) ?_))
      rw [List.nil_append]
      exact specHard_loop 6 c 0 hc h6 (by omega) (by omega)
    · rw [if_neg (fun x => hq x.2)]
      exact ev_pos (by simpa using hq) (ev_eq fun _ => rfl)
  | false =>
    rw [if_neg (fun x => Bool.noConfusion x.1)]
    refine Ev.bind (pzGood_no h) (ev_neg (by decide) (ev_succ ?_))
    simp only [spec_HarderPuzzle.j0]
    exact ev_pos (by first | rfl | trivial) (ev_eq fun _ => rfl)
theorem implHard_ev (c : List C2) : Ev (fun k => impl_HarderPuzzle.f k c) (hardR c) := by
  unfold impl_HarderPuzzle.f hardR impl_IsSolved.f impl_CountSolutions.f
  cases h : goodB c with
  | true =>
    have h6 := goodB_len h
    have hc := all_good h
    refine Ev.bind (Ev.bind (Ev.bind (Solutions_yes h) (ev_eq fun _ => rfl)) (ev_eq fun _ => rfl)) ?_
    by_cases hq : ((sol c).length : Int) = 1
    · rw [if_pos ⟨by first | rfl | trivial, hq⟩]
      exact ev_pos (by simpa using hq) (ev_bind (clone_eq c (by omega)) (implHard_loop 6 c 0 hc h6 (by omega) (by omega)))
    · rw [if_neg (fun x => hq x.2)]
      exact ev_neg (by simpa using hq) (ev_eq fun _ => rfl)
  | false =>
    rw [if_neg (fun x => Bool.noConfusion x.1)]
    refine Ev.bind (Ev.bind (Ev.bind (Solutions_no h) (ev_eq fun _ => rfl)) (ev_eq fun _ => rfl)) ?_
    exact ev_neg (by decide) (ev_eq fun _ => rfl)


/-! ### needless clues (out of pure/FnExactNeedlessClues) -/
def nl (c : List C2) (many : Int) : Nat → Nat → List Int → List Int
  | 0, _, out => out
  | d + 1, i, out => if ((sol (c.eraseIdx i)).length : Int) = many then nl c many d (i + 1) (out ++ [(i : Int)]) else nl c many d (i + 1) out
theorem nl_len (c : List C2) (many : Int) : ∀ d i out, (nl c many d i out).length ≤ out.length + d
  | 0, _, _ => Nat.le_refl _
  | d + 1, i, out => by
    unfold nl
    split
    · have := nl_len c many d (i + 1) (out ++ [(i : Int)]); rw [List.length_append, List.length_singleton] at this; omega
    · have := nl_len c many d (i + 1) out; omega
theorem implNeed_loop (c : List C2) (many : Int) (hc : c.all clueS = true) (h6 : c.length ≤ 6) : ∀ (d i : Nat) (out : List Int), i + d = c.length → out.length ≤ i → Ev (fun k => impl_NeedlessClues.l0 k out many (c.length : Int) (i : Int) c) (nl c many d i out, true) := by
  intro d
  induction d with
  | zero =>
    intro i out hi ho
    refine ev_succ ?_
    simp only [impl_NeedlessClues.l0]
    exact ev_neg (by omega) (ev_eq fun _ => rfl)
  | succ d ih =>
    intro i out hi ho
    refine ev_succ ?_
    simp only [impl_NeedlessClues.l0]
    rw [wrap_nat (by omega)]
    refine ev_pos (by omega) (ev_bind (dropped_eq c i (by omega) (by omega)) (Ev.bind (solutions_ev _ (all_erase hc i)) ?_))
    unfold nl
    by_cases hq : ((sol (c.eraseIdx i)).length : Int) = many
    · rw [if_pos hq]
      exact ev_pos hq (ev_pos (by omega) (ih (i + 1) _ (by omega) (by rw [List.length_append, List.length_singleton]; omega)))
    · rw [if_neg hq]
      exact ev_neg hq (ih (i + 1) _ (by omega) (by omega))
def needR (c : List C2) : List Int × Bool := if goodB c then (nl c ((sol c).length : Int) c.length 0 [], true) else ([], false)
theorem needR_len (c : List C2) : (needR c).1.length ≤ 7 := by
  unfold needR
  cases h : goodB c with
  | true => have := goodB_len h; have := nl_len c ((sol c).length : Int) c.length 0 []; simp at this ⊢; omega
  | false => simp
theorem implNeed_ev (c : List C2) : Ev (fun k => impl_NeedlessClues.f k c) (needR c) := by
  unfold impl_NeedlessClues.f needR
  cases h : goodB c with
  | true => exact Ev.bind (isPuzzle_yes h) (ev_pos rfl (Ev.bind (solutions_ev c (all_good h)) (implNeed_loop c _ (all_good h) (goodB_len h) c.length 0 [] (by omega) (Nat.le_refl _))))
  | false => exact Ev.bind (isPuzzle_no h) (ev_neg (by decide) (ev_eq fun _ => rfl))


/-! ### solutions (out of pure/FnExactSolutions) -/
theorem sol_len (c : List C2) : (sol c).length ≤ 1296 := by
  rw [sol]
  have := sg_len c 1296 0 [] (Nat.le_refl _)
  omega
def solR (c : List C2) : List ByteArray × Bool := if goodB c then (sol c, true) else ([], false)
theorem solR_len (c : List C2) : (solR c).1.length ≤ 1296 := by
  unfold solR
  cases h : goodB c with
  | true => exact sol_len c
  | false => simp
theorem implSol_ev (c : List C2) : Ev (fun k => impl_Solutions.f k c) (solR c) := by
  unfold solR
  cases h : goodB c with
  | true => exact Solutions_yes h
  | false => exact Solutions_no h


/-! ### choices out of bytes: each of them is made -/
def Bytes (l : List Int) : Prop := ∀ x ∈ l, (Lit.int .u8 x).wf = true
theorem byte_range {l : List Int} (h : Bytes l) {i : Int} (h0 : 0 ≤ i) (h1 : i < (l.length : Int)) : 0 ≤ rd l i ∧ rd l i ≤ 255 := by
  have hm : rd l i ∈ l := by
    unfold rd
    rw [List.getD_eq_getElem?_getD, List.getElem?_eq_getElem (by omega)]
    exact List.getElem_mem _
  have := h _ hm
  have h2 := by simpa only [Lit.wf, Bool.and_eq_true, decide_eq_true_eq] using this
  exact ⟨h2.1, h2.2⟩
theorem and255 (x : Int) (h0 : 0 ≤ x) (h1 : x < 18446744073709551616) : 0 ≤ Go.bits .and .u64 x 255 ∧ Go.bits .and .u64 x 255 ≤ 255 := by
  obtain ⟨n, rfl⟩ : ∃ n : Nat, x = (n : Int) := ⟨x.toNat, by omega⟩
  have h := bits_and_u64_nat n 255 (by omega) (by omega)
  have h2 := Nat.and_le_right (n := n) (m := 255)
  rw [show ((255 : Nat) : Int) = 255 from rfl] at h
  rw [h]
  omega
theorem u64_range (x : Int) : 0 ≤ IntKind.u64.wrap x ∧ IntKind.u64.wrap x < 18446744073709551616 := by
  rw [IntKind.wrap_u64]; omega
theorem tail255 (x : Int) : ∃ v, wrap64 (Go.bits .and .u64 (IntKind.u64.wrap x / 1099511627776) 255) = v ∧ 0 ≤ v ∧ v ≤ 255 := by
  have h := u64_range x
  have h2 := and255 (IntKind.u64.wrap x / 1099511627776) (by omega) (by omega)
  exact ⟨_, wrap_of (by omega) (by omega), h2.1, h2.2⟩
theorem next_ok (l : List Int) (hl : Bytes l) (a s : Int) (h0 : 0 ≤ a) (h1 : a ≤ 1000000000000) : ∃ v s', spec_l1Cur_next.f l a s = some (v, a + 1, s') ∧ 0 ≤ v ∧ v ≤ 255 := by
  unfold spec_l1Cur_next.f
  have hw : wrap64 (a + 1) = a + 1 := wrap_of (by omega) (by omega)
  rw [hw]
  by_cases c : a < (l.length : Int)
  · have hb := byte_range hl h0 c
    rw [if_pos c, if_pos h0, if_pos (by omega), wrap_of (x := rd l a) (by omega) (by omega)]
    exact ⟨_, _, rfl, hb.1, hb.2⟩
  · rw [if_neg c, if_neg (by omega)]
    obtain ⟨v, hv, g⟩ := tail255 (IntKind.u64.wrap (IntKind.u64.wrap (s * 6364136223846793005)) + 1442695040888963407)
    rw [hv]
    exact ⟨v, _, rfl, g.1, g.2⟩
theorem tmod_range {x n : Int} (h0 : 0 ≤ x) (hn : 0 < n) : 0 ≤ Int.tmod x n ∧ Int.tmod x n < n := by
  rw [Int.tmod_eq_emod_of_nonneg h0]
  exact ⟨Int.emod_nonneg _ (by omega), Int.emod_lt_of_pos _ hn⟩
theorem pick_ok (l : List Int) (hl : Bytes l) (a s n : Int) (h0 : 0 ≤ a) (h1 : a ≤ 900000000000) : ∃ v a' s', spec_l1Cur_pick.f l a s n = some (v, a', s') ∧ 0 ≤ v ∧ (v < n ∨ v = 0) ∧ a ≤ a' ∧ a' ≤ a + 2 := by
  unfold spec_l1Cur_pick.f
  by_cases c : n ≤ 1
  · rw [if_pos c]
    exact ⟨0, a, s, rfl, Int.le_refl 0, .inr rfl, Int.le_refl a, by omega⟩
  · rw [if_neg c]
    obtain ⟨v, s1, hv, v0, v1⟩ := next_ok l hl a s h0 (by omega)
    rw [hv]
    simp only [Option.bind_some]
    by_cases c2 : n > 200
    · rw [if_pos c2]
      obtain ⟨u, s2, hu, u0, u1⟩ := next_ok l hl (a + 1) s1 (by omega) (by omega)
      rw [hu]
      simp only [Option.bind_some]
      rw [if_neg (by omega), wrap_of (x := v * 256) (by omega) (by omega), wrap_of (x := v * 256 + u) (by omega) (by omega)]
      have ht := tmod_range (x := v * 256 + u) (n := n) (by omega) (by omega)
      exact ⟨_, _, _, rfl, ht.1, .inl ht.2, by omega, by omega⟩
    · rw [if_neg c2, if_neg (by omega)]
      have ht := tmod_range (x := v) (n := n) v0 (by omega)
      exact ⟨_, _, _, rfl, ht.1, .inl ht.2, by omega, by omega⟩
theorem among_ok (l : List Int) (hl : Bytes l) (a s : Int) (m : List Int) (hm : 0 < m.length) (h0 : 0 ≤ a) (h1 : a ≤ 900000000000) : ∃ v a' s', spec_l1Cur_among.f l a s m = some (v, a', s') ∧ v ∈ m ∧ a ≤ a' ∧ a' ≤ a + 2 := by
  unfold spec_l1Cur_among.f
  obtain ⟨v, a', s', hv, v0, v1, g⟩ := pick_ok l hl a s (m.length : Int) h0 h1
  rw [hv]
  simp only [Option.bind_some]
  have hlt : v < (m.length : Int) := by rcases v1 with h | h <;> omega
  rw [if_pos v0, if_pos hlt]
  refine ⟨_, a', s', rfl, ?_, g⟩
  unfold rd
  rw [List.getD_eq_getElem?_getD, List.getElem?_eq_getElem (by omega)]
  exact List.getElem_mem _

/-! ### tickets drawn -/
theorem one_ok (l : List Int) (hl : Bytes l) (a s n : Int) (h0 : 0 ≤ a) (h1 : a ≤ 900000000000) : ∃ v a' s', spec_l1Cur_one.f l a s n = some (v, a', s') ∧ a ≤ a' ∧ a' ≤ a + 2 := by
  unfold spec_l1Cur_one.f
  obtain ⟨v, a', s', hv, _, _, g⟩ := pick_ok l hl a s n h0 h1
  rw [hv]
  exact ⟨_, a', s', rfl, g⟩
theorem num10 (m : Nat) (h : m < 10) : Ev (fun k => spec_l1Num.f k (m : Int)) (⟨[UInt8.ofNat (48 + m)].toArray⟩ : ByteArray) := by
  refine ev_from 1 (fun k hk => ?_)
  obtain ⟨k, rfl⟩ : ∃ q, k = q + 1 := ⟨k - 1, by omega⟩
  have : m = 0 ∨ m = 1 ∨ m = 2 ∨ m = 3 ∨ m = 4 ∨ m = 5 ∨ m = 6 ∨ m = 7 ∨ m = 8 ∨ m = 9 := by omega
  rw [spec_l1Num.f, if_pos (by omega)]
  refine congrArg some ?_
  rcases this with rfl | rfl | rfl | rfl | rfl | rfl | rfl | rfl | rfl | rfl <;> kernel_rfl
theorem size10 (m : Nat) : (⟨[UInt8.ofNat (48 + m)].toArray⟩ : ByteArray).size = 1 := rfl
theorem sure_loop (l : List Int) (hl : Bytes l) (n : Nat) (hn : n ≤ 100) : ∀ (d i : Nat) (t : ByteArray) (a s : Int), i + d = n → t.size = i → 0 ≤ a → a + 2 * d ≤ 800000000300 → ∃ v a' s', Ev (fun k => spec_l1Cur_sureTicket.l0 k (n : Int) t (i : Int) l a s) (v, a', s') ∧ v.size = n ∧ a ≤ a' ∧ a' ≤ a + 2 * d := by
  intro d
  induction d with
  | zero =>
    intro i t a s hi ht h0 h1
    refine ⟨t, a, s, ev_succ ?_, by omega, Int.le_refl _, by omega⟩
    simp only [spec_l1Cur_sureTicket.l0]
    exact ev_neg (by omega) (ev_eq fun _ => rfl)
  | succ d ih =>
    intro i t a s hi ht h0 h1
    obtain ⟨x, a1, s1, hx, x0, x1, g1, g2⟩ := pick_ok l hl a s 10 h0 (by omega)
    obtain ⟨m, rfl⟩ : ∃ m : Nat, x = (m : Int) := ⟨x.toNat, by omega⟩
    have hm := num10 m (by omega)
    have hsz : (t ++ (⟨[UInt8.ofNat (48 + m)].toArray⟩ : ByteArray)).size = i + 1 := by rw [ByteArray.size_append, size10 m, ht]
    obtain ⟨v, a2, s2, hv, hz, e1, e2⟩ := ih (i + 1) (t ++ (⟨[UInt8.ofNat (48 + m)].toArray⟩ : ByteArray)) a1 s1 (by omega) hsz (by omega) (by omega)
    refine ⟨v, a2, s2, ev_succ ?_, hz, by omega, by omega⟩
    simp only [spec_l1Cur_sureTicket.l0]
    rw [wrap_nat (by omega)]
    exact ev_pos (by omega) (ev_bind hx (Ev.bind hm (ev_pos (by rw [size10 m, ht]; omega) hv)))
theorem sure_ok (l : List Int) (hl : Bytes l) (a s : Int) (n : Nat) (hn : n ≤ 100) (h0 : 0 ≤ a) (h1 : a ≤ 800000000000) : ∃ v a' s', Ev (fun k => spec_l1Cur_sureTicket.f k l a s (n : Int)) (v, a', s') ∧ v.size = n ∧ a ≤ a' ∧ a' ≤ a + 200 := by
  obtain ⟨v, a', s', h, hz, e1, e2⟩ := sure_loop l hl n hn n 0 (⟨#[]⟩ : ByteArray) a s (by omega) rfl h0 (by omega)
  refine ⟨v, a', s', ?_, hz, e1, by omega⟩
  unfold spec_l1Cur_sureTicket.f
  exact h
theorem of_ok (l : List Int) (hl : Bytes l) (a s : Int) (m : List ByteArray) (hm : 0 < m.length) (h0 : 0 ≤ a) (h1 : a ≤ 900000000000) : ∃ v a' s', spec_l1Cur_of.f l a s m = some (v, a', s') ∧ v ∈ m ∧ a ≤ a' ∧ a' ≤ a + 2 := by
  unfold spec_l1Cur_of.f
  obtain ⟨v, a', s', hv, v0, v1, g⟩ := pick_ok l hl a s (m.length : Int) h0 h1
  rw [hv]
  simp only [Option.bind_some]
  have hlt : v < (m.length : Int) := by rcases v1 with h | h <;> omega
  rw [if_pos v0, if_pos hlt]
  refine ⟨_, a', s', rfl, ?_, g⟩
  unfold rdOf
  rw [List.getD_eq_getElem?_getD, List.getElem?_eq_getElem (by omega)]
  exact List.getElem_mem _
theorem turn_loop (l : List Int) (h : ByteArray) (hh : h.size ≤ 100) (a s : Int) : ∀ (d : Nat) (t : ByteArray), d ≤ h.size → t.size + d = h.size → ∃ v, Ev (fun k => spec_l1Cur_ticket.l0 k h t ((d : Int) - 1) l a s) (v, a, s) ∧ v.size = 2 * h.size := by
  intro d
  induction d with
  | zero =>
    intro t _ ht
    refine ⟨h ++ t, ev_succ ?_, by rw [ByteArray.size_append]; omega⟩
    simp only [spec_l1Cur_ticket.l0]
    exact ev_neg (by omega) (ev_pos (by omega) (ev_eq fun _ => rfl))
  | succ d ih =>
    intro t hd ht
    have hx : (h.extract d (d + 1)).size = 1 := by rw [ByteArray.size_extract]; omega
    obtain ⟨v, hv, hz⟩ := ih (t ++ h.extract d (d + 1)) (by omega) (by rw [ByteArray.size_append, hx]; omega)
    refine ⟨v, ev_succ ?_, hz⟩
    simp only [spec_l1Cur_ticket.l0]
    rw [show ((d + 1 : Nat) : Int) - 1 = (d : Int) by omega, wrap_nat (by omega), wrap_of (x := (d : Int) - 1) (by omega) (by omega), Int.toNat_natCast, Int.toNat_natCast]
    exact ev_pos (by omega) (ev_pos (by omega) (ev_pos (by omega) (ev_pos (by omega) (ev_pos (by rw [hx]; omega) hv))))
theorem ticket_j (l : List Int) (hl : Bytes l) (b : Bool) (a s : Int) (h0 : 0 ≤ a) (h1 : a ≤ 700000000000) : ∃ v a' s', Ev (fun k => spec_l1Cur_ticket.j0 k b l a s) (v, a', s') ∧ v.size ≤ 20 ∧ a ≤ a' ∧ a' ≤ a + 300 := by
  cases b with
  | true =>
    obtain ⟨x, a1, s1, hx, x0, x1, g1, g2⟩ := pick_ok l hl a s 3 h0 (by omega)
    obtain ⟨m, rfl⟩ : ∃ m : Nat, x = (m : Int) := ⟨x.toNat, by omega⟩
    obtain ⟨h, a2, s2, hs, hz, e1, e2⟩ := sure_ok l hl a1 s1 (1 + m) (by omega) (by omega) (by omega)
    obtain ⟨v, hv, hz2⟩ := turn_loop l h (by omega) a2 s2 h.size (⟨#[]⟩ : ByteArray) (Nat.le_refl _) (by show 0 + h.size = h.size; omega)
    refine ⟨v, a2, s2, ev_succ ?_, by omega, by omega, by omega⟩
    simp only [spec_l1Cur_ticket.j0]
    refine ev_pos trivial (ev_bind hx ?_)
    rw [show wrap64 (1 + (m : Int)) = ((1 + m : Nat) : Int) by rw [wrap_of (by omega) (by omega)]; omega]
    refine Ev.bind hs ?_
    rw [wrap_of (x := (h.size : Int) - 1) (by omega) (by omega)]
    exact hv
  | false =>
    obtain ⟨y, a1, s1, hy, hm, g1, g2⟩ := among_ok l hl a s [2, 4, 6, 4, 6, 8] (by decide) h0 (by omega)
    obtain ⟨m, rfl, hm8⟩ : ∃ m : Nat, y = (m : Int) ∧ m ≤ 8 := by
      simp only [List.mem_cons, List.not_mem_nil, or_false] at hm
      exact ⟨y.toNat, by omega, by omega⟩
    obtain ⟨v, a2, s2, hs, hz, e1, e2⟩ := sure_ok l hl a1 s1 m (by omega) (by omega) (by omega)
    refine ⟨v, a2, s2, ev_succ ?_, by omega, by omega, by omega⟩
    simp only [spec_l1Cur_ticket.j0]
    exact ev_neg (by decide) (ev_bind hy (Ev.bind hs (ev_eq fun _ => rfl)))
theorem ticket_ok (l : List Int) (hl : Bytes l) (a s : Int) (h0 : 0 ≤ a) (h1 : a ≤ 600000000000) : ∃ v a' s', Ev (fun k => spec_l1Cur_ticket.f k l a s) (v, a', s') ∧ v.size ≤ 20 ∧ a ≤ a' ∧ a' ≤ a + 400 := by
  obtain ⟨x, a1, s1, hx, _, _, g1, g2⟩ := pick_ok l hl a s 16 h0 (by omega)
  unfold spec_l1Cur_ticket.f
  by_cases c : x = 0
  · obtain ⟨v, a2, s2, hv, hm, e1, e2⟩ := of_ok l hl a1 s1 [(⟨#[]⟩ : ByteArray), (⟨#[49]⟩ : ByteArray), (⟨#[49, 50, 120, 52]⟩ : ByteArray), (⟨#[49, 50, 51]⟩ : ByteArray), (⟨#[48, 48, 48, 48, 48, 48, 48, 48, 48, 48, 48, 48, 48]⟩ : ByteArray), (⟨#[57, 57, 57, 57, 57, 57, 57, 57, 57, 57, 57, 57]⟩ : ByteArray), (⟨#[48, 48, 48, 48, 48, 48, 48, 48, 48, 48, 48, 48, 48, 48]⟩ : ByteArray)] (by decide) (by omega) (by omega)
    refine ⟨v, a2, s2, ev_bind hx (ev_pos c (ev_bind hv (ev_eq fun _ => rfl))), ?_, by omega, by omega⟩
    simp only [List.mem_cons, List.not_mem_nil, or_false] at hm
    rcases hm with rfl | rfl | rfl | rfl | rfl | rfl | rfl <;> decide
  by_cases c1 : x = 1
  · obtain ⟨v, a2, s2, hv, hm, e1, e2⟩ := of_ok l hl a1 s1 [(⟨#[48, 48, 48, 48, 48, 48]⟩ : ByteArray), (⟨#[57, 57, 57, 57, 57, 57]⟩ : ByteArray), (⟨#[48, 48, 48, 48]⟩ : ByteArray), (⟨#[57, 57, 57, 57]⟩ : ByteArray), (⟨#[48, 48]⟩ : ByteArray), (⟨#[57, 57]⟩ : ByteArray), (⟨#[57, 57, 57, 48]⟩ : ByteArray), (⟨#[48, 48, 48, 48, 48, 49]⟩ : ByteArray)] (by decide) (by omega) (by omega)
    refine ⟨v, a2, s2, ev_bind hx (ev_neg c (ev_pos c1 (ev_bind hv (ev_eq fun _ => rfl)))), ?_, by omega, by omega⟩
    simp only [List.mem_cons, List.not_mem_nil, or_false] at hm
    rcases hm with rfl | rfl | rfl | rfl | rfl | rfl | rfl | rfl <;> decide
  by_cases c2 : x = 2
  · obtain ⟨v, a2, s2, hv, hz, e1, e2⟩ := ticket_j l hl (x == 2) a1 s1 (by omega) (by omega)
    exact ⟨v, a2, s2, ev_bind hx (ev_neg c (ev_neg c1 (ev_pos c2 hv))), hz, by omega, by omega⟩
  by_cases c3 : x = 3
  · obtain ⟨v, a2, s2, hv, hz, e1, e2⟩ := ticket_j l hl (x == 3) a1 s1 (by omega) (by omega)
    exact ⟨v, a2, s2, ev_bind hx (ev_neg c (ev_neg c1 (ev_neg c2 (ev_pos c3 hv)))), hz, by omega, by omega⟩
  · obtain ⟨v, a2, s2, hv, hz, e1, e2⟩ := ticket_j l hl (x == 4) a1 s1 (by omega) (by omega)
    exact ⟨v, a2, s2, ev_bind hx (ev_neg c (ev_neg c1 (ev_neg c2 (ev_neg c3 hv)))), hz, by omega, by omega⟩

/-! ### puzzles that are drawn -/
theorem pre_ok : ∀ (j p : Nat), (pre j p).data.toList.all okc = true
  | 0, _ => rfl
  | j + 1, p => by
    have h1 := pre_ok j (p / 6)
    have h2 : (pre (j + 1) p).data.toList = (pre j (p / 6)).data.toList ++ [UInt8.ofNat (48 + p % 6)] := by
      rw [pre, dg, ByteArray.data_append, Array.toList_append]
    have h3 : okc (UInt8.ofNat (48 + p % 6)) = true := by
      unfold okc
      rw [UInt8.toNat_ofNat', decide_eq_true_eq]
      omega
    rw [h2, List.all_append, h1, List.all_cons, h3]; rfl
theorem hid_of (n : Nat) (hn : n < 1296) : hidB (tk n) = true := by
  unfold hidB
  have h1 : (tk n).size = 4 := pre_size 4 n
  rw [h1, show (tk n).data.toList.all okc = true from pre_ok 4 n]; rfl
theorem make_in (n : Nat) (hn : n < 1296) (m : Nat) (hm : m ≤ 6) (z : Int) (hz : 0 ≤ z ∧ z ≤ 9999) : Ev (fun k => spec_MakePuzzle.f k (tk n) (m : Int) z) (mkL n m z [], true) ∧ Ev (fun k => impl_MakePuzzle.f k (tk n) (m : Int) z) (mkL n m z [], true) := by
  have ht : (tk n).size ≤ 1048576 := by have : (tk n).size = 4 := pre_size 4 n; omega
  have hh : hidB (tk n) = true := hid_of n hn
  have hc : 0 ≤ (m : Int) ∧ (m : Int) ≤ 6 := by omega
  refine ⟨?_, ?_⟩
  · unfold spec_MakePuzzle.f
    refine Ev.bind (hh ▸ specHidden_ev _ ht) (ev_pos rfl (ev_bind (l1In_eq _ _ _) (ev_pos (decide_eq_true hc) (ev_bind (l1In_eq _ _ _) (ev_succ ?_)))))
    simp only [spec_MakePuzzle.j0]
    refine ev_neg (by rw [decide_eq_true hz]; decide) ?_
    exact specGo n hn m z [] (by simp; omega) hz.1 (by omega)
  · unfold impl_MakePuzzle.f
    refine Ev.bind (hh ▸ implHidden_ev _ ht) (ev_pos rfl (ev_bind (within_eq _ _ _) (ev_pos (decide_eq_true hc) (ev_bind (within_eq _ _ _) (ev_pos (decide_eq_true hz) (ev_pos hc.2 ?_))))))
    rw [Int.toNat_natCast]
    exact Ev.bind (ev_from 24 (fun k hk => implGo n hn k hk m z [] hz.1 (by omega))) (ev_eq fun _ => rfl)
theorem hidden_loop (l : List Int) (hl : Bytes l) : ∀ (d j p : Nat) (a s : Int), j + d = 4 → p < 6 ^ j → 0 ≤ a → a + 2 * d ≤ 800000000300 → ∃ n a' s', n < 1296 ∧ Ev (fun k => spec_l1Cur_hidden.l0 k (pre j p) l a s) (tk n, a', s') ∧ a ≤ a' ∧ a' ≤ a + 2 * d := by
  intro d
  induction d with
  | zero =>
    intro j p a s hj hp h0 h1
    obtain rfl : j = 4 := by omega
    refine ⟨p, a, s, by omega, ev_succ ?_, by omega, by omega⟩
    simp only [spec_l1Cur_hidden.l0]
    rw [pre_size]
    exact ev_neg (by omega) (ev_eq fun _ => rfl)
  | succ d ih =>
    intro j p a s hj hp h0 h1
    obtain ⟨v, a1, s1, hv, v0, v1, g1, g2⟩ := pick_ok l hl a s 6 h0 (by omega)
    have hp2 : p * 6 + v.toNat < 6 ^ (j + 1) := by rw [Nat.pow_succ]; omega
    obtain ⟨n, a', s', hn, hev, g3, g4⟩ := ih (j + 1) (p * 6 + v.toNat) a1 s1 (by omega) hp2 (by omega) (by omega)
    refine ⟨n, a', s', hn, ev_succ ?_, by omega, by omega⟩
    simp only [spec_l1Cur_hidden.l0]
    rw [pre_size]
    refine ev_pos (by omega) (ev_bind hv ?_)
    have hnum : Ev (fun k => spec_l1Num.f k v) (dg v.toNat) := ev_from 1 (fun k hk => by
      have := num_eq k hk v.toNat (by omega)
      rw [show ((v.toNat : Nat) : Int) = v by omega] at this
      exact this)
    refine Ev.bind hnum ?_
    have hd1 : (dg v.toNat).size = 1 := rfl
    refine ev_pos (by rw [hd1]; omega) ?_
    have e : pre (j + 1) (p * 6 + v.toNat) = pre j p ++ dg v.toNat := by
      rw [pre]
      congr 2 <;> omega
    rw [e] at hev
    exact hev
theorem hidden_ok (l : List Int) (hl : Bytes l) (a s : Int) (h0 : 0 ≤ a) (h1 : a ≤ 800000000000) : ∃ n a' s', n < 1296 ∧ Ev (fun k => spec_l1Cur_hidden.f k l a s) (tk n, a', s') ∧ a ≤ a' ∧ a' ≤ a + 8 := by
  obtain ⟨n, a', s', hn, h, g1, g2⟩ := hidden_loop l hl 4 0 0 a s (by omega) (by omega) h0 (by omega)
  refine ⟨n, a', s', hn, ?_, g1, by omega⟩
  unfold spec_l1Cur_hidden.f
  exact h
theorem tk_size (n : Nat) : (tk n).size = 4 := pre_size 4 n
theorem sure_ok2 (l : List Int) (hl : Bytes l) (a s m : Int) (h0 : 0 ≤ a) (h1 : a ≤ 700000000000) (hm : m = 5) : ∃ c a' s', Ev (fun k => spec_l1Cur_surePuzzle.f k l a s m) (c, a', s') ∧ c.length ≤ 6 ∧ a ≤ a' ∧ a' ≤ a + 20 := by
  subst hm
  unfold spec_l1Cur_surePuzzle.f
  obtain ⟨n, a1, s1, hn, e1, g1, g2⟩ := hidden_ok l hl a s h0 (by omega)
  obtain ⟨c, a2, s2, e2, _, _, g3, g4⟩ := pick_ok l hl a1 s1 (wrap64 (5 + 1)) (by omega) (by omega)
  obtain ⟨z, a3, s3, e3, _, _, g5, g6⟩ := pick_ok l hl a2 s2 10000 (by omega) (by omega)
  obtain ⟨r, hr, e4, _⟩ := make_both (tk n) (by rw [tk_size]; omega) c z
  exact ⟨r.1, a3, s3, Ev.bind e1 (ev_bind e2 (ev_bind e3 (Ev.bind e4 (ev_eq fun _ => rfl)))), hr, by omega, by omega⟩
theorem clue_j3 (l : List Int) (hl : Bytes l) (a s x y z : Int) (h0 : 0 ≤ a) (h1 : a ≤ 700000000000) : ∃ v u w a' s', Ev (fun k => spec_l1Cur_clue.j3 k l a s x y z) (v, u, w, a', s') ∧ a ≤ a' ∧ a' ≤ a + 10 := by
  obtain ⟨b, a1, s1, e1, g1, g2⟩ := one_ok l hl a s 14 h0 (by omega)
  by_cases c : b = true
  · obtain ⟨p, a2, s2, e2, _, _, g3, g4⟩ := pick_ok l hl a1 s1 3 (by omega) (by omega)
    refine ⟨x, wrap64 (p - 1), z, a2, s2, ev_succ ?_, by omega, by omega⟩
    simp only [spec_l1Cur_clue.j3]
    exact ev_bind e1 (ev_pos c (ev_bind e2 (ev_eq fun _ => rfl)))
  · refine ⟨x, y, z, a1, s1, ev_succ ?_, by omega, by omega⟩
    simp only [spec_l1Cur_clue.j3]
    exact ev_bind e1 (ev_neg c (ev_eq fun _ => rfl))
theorem clue_j2 (l : List Int) (hl : Bytes l) (b : Bool) (a s x y z : Int) (h0 : 0 ≤ a) (h1 : a ≤ 600000000000) : ∃ v u w a' s', Ev (fun k => spec_l1Cur_clue.j2 k b l a s x y z) (v, u, w, a', s') ∧ a ≤ a' ∧ a' ≤ a + 20 := by
  by_cases c : b = true
  · obtain ⟨p, a2, s2, e2, _, _, g3, g4⟩ := pick_ok l hl a s 3 (by omega) (by omega)
    obtain ⟨v, u, w, a3, s3, e3, g5, g6⟩ := clue_j3 l hl a2 s2 x y p (by omega) (by omega)
    refine ⟨v, u, w, a3, s3, ev_succ ?_, by omega, by omega⟩
    simp only [spec_l1Cur_clue.j2]
    exact ev_pos c (ev_bind e2 e3)
  · obtain ⟨v, u, w, a3, s3, e3, g5, g6⟩ := clue_j3 l hl a s x y z (by omega) (by omega)
    refine ⟨v, u, w, a3, s3, ev_succ ?_, by omega, by omega⟩
    simp only [spec_l1Cur_clue.j2]
    exact ev_neg c e3
theorem clue_j1 (l : List Int) (hl : Bytes l) (a s x y z : Int) (h0 : 0 ≤ a) (h1 : a ≤ 600000000000) : ∃ v u w a' s', Ev (fun k => spec_l1Cur_clue.j1 k l a s x y z) (v, u, w, a', s') ∧ a ≤ a' ∧ a' ≤ a + 20 := by
  by_cases c : x = 2
  · obtain ⟨v, u, w, a3, s3, e3, g⟩ := clue_j2 l hl true a s x y z h0 h1
    refine ⟨v, u, w, a3, s3, ev_succ ?_, g⟩
    simp only [spec_l1Cur_clue.j1]
    exact ev_pos c e3
  · obtain ⟨v, u, w, a3, s3, e3, g⟩ := clue_j2 l hl (x == 3) a s x y z h0 h1
    refine ⟨v, u, w, a3, s3, ev_succ ?_, g⟩
    simp only [spec_l1Cur_clue.j1]
    exact ev_neg c e3
theorem clue_j0 (l : List Int) (hl : Bytes l) (q : Int) (b : Bool) (a s x y z : Int) (h0 : 0 ≤ a) (h1 : a ≤ 500000000000) : ∃ v u w a' s', Ev (fun k => spec_l1Cur_clue.j0 k q b l a s x y z) (v, u, w, a', s') ∧ a ≤ a' ∧ a' ≤ a + 30 := by
  by_cases c : b = true
  · obtain ⟨p, a2, s2, e2, _, _, g3, g4⟩ := pick_ok l hl a s 5 (by omega) (by omega)
    obtain ⟨v, u, w, a3, s3, e3, g5, g6⟩ := clue_j1 l hl a2 s2 x p z (by omega) (by omega)
    refine ⟨v, u, w, a3, s3, ev_succ ?_, by omega, by omega⟩
    simp only [spec_l1Cur_clue.j0]
    exact ev_pos c (ev_bind e2 e3)
  · by_cases c2 : q = 5
    · obtain ⟨p, a2, s2, e2, _, _, g3, g4⟩ := pick_ok l hl a s 10 (by omega) (by omega)
      obtain ⟨v, u, w, a3, s3, e3, g5, g6⟩ := clue_j1 l hl a2 s2 x y (wrap64 (1 + p)) (by omega) (by omega)
      refine ⟨v, u, w, a3, s3, ev_succ ?_, by omega, by omega⟩
      simp only [spec_l1Cur_clue.j0]
      exact ev_neg c (ev_pos c2 (ev_bind e2 e3))
    · obtain ⟨v, u, w, a3, s3, e3, g5, g6⟩ := clue_j1 l hl a s x y z (by omega) (by omega)
      refine ⟨v, u, w, a3, s3, ev_succ ?_, by omega, by omega⟩
      simp only [spec_l1Cur_clue.j0]
      exact ev_neg c (ev_neg c2 e3)
theorem clue_ok (l : List Int) (hl : Bytes l) (a s : Int) (h0 : 0 ≤ a) (h1 : a ≤ 400000000000) : ∃ v u w a' s', Ev (fun k => spec_l1Cur_clue.f k l a s) (v, u, w, a', s') ∧ a ≤ a' ∧ a' ≤ a + 50 := by
  unfold spec_l1Cur_clue.f
  obtain ⟨p1, a1, s1, e1, _, _, g1, g2⟩ := pick_ok l hl a s 6 h0 (by omega)
  obtain ⟨p2, a2, s2, e2, _, _, g3, g4⟩ := pick_ok l hl a1 s1 9 (by omega) (by omega)
  obtain ⟨p3, a3, s3, e3, _, _, g5, g6⟩ := pick_ok l hl a2 s2 8 (by omega) (by omega)
  obtain ⟨p4, a4, s4, e4, _, _, g7, g8⟩ := pick_ok l hl a3 s3 9 (by omega) (by omega)
  generalize hx : wrap64 (p1 + wrap64 (Int.tdiv p2 8)) = x
  generalize hy : wrap64 (p3 - wrap64 (Int.tdiv p4 8)) = y
  by_cases c : x = 0
  · obtain ⟨p5, a5, s5, e5, _, _, g9, g10⟩ := pick_ok l hl a4 s4 3 (by omega) (by omega)
    obtain ⟨v, u, w, a6, s6, e6, g11, g12⟩ := clue_j1 l hl a5 s5 x p5 y (by omega) (by omega)
    refine ⟨v, u, w, a6, s6, ev_bind e1 (ev_bind e2 (ev_bind e3 (ev_bind e4 ?_))), by omega, by omega⟩
    dsimp only
    rw [hx, hy]
    exact ev_pos c (ev_bind e5 e6)
  · by_cases c2 : x = 1
    · obtain ⟨v, u, w, a6, s6, e6, g11, g12⟩ := clue_j0 l hl x (x == 1) a4 s4 x 0 y (by omega) (by omega)
      refine ⟨v, u, w, a6, s6, ev_bind e1 (ev_bind e2 (ev_bind e3 (ev_bind e4 ?_))), by omega, by omega⟩
      dsimp only
      rw [hx, hy]
      exact ev_neg c (ev_pos c2 e6)
    · obtain ⟨v, u, w, a6, s6, e6, g11, g12⟩ := clue_j0 l hl x (x == 3) a4 s4 x 0 y (by omega) (by omega)
      refine ⟨v, u, w, a6, s6, ev_bind e1 (ev_bind e2 (ev_bind e3 (ev_bind e4 ?_))), by omega, by omega⟩
      dsimp only
      rw [hx, hy]
      exact ev_neg c (ev_neg c2 e6)
theorem puz_l0 (l : List Int) (hl : Bytes l) : ∀ (d : Nat) (c : List C2) (a s : Int), 8 ≤ c.length + d → c.length ≤ 8 → 0 ≤ a → a + 2 * d ≤ 700000000000 → ∃ r a' s', Ev (fun k => spec_l1Cur_puzzle.l0 k l a s c) (r, a', s') ∧ r.length ≤ 8 ∧ a ≤ a' ∧ a' ≤ a + 2 * d + 2 := by
  intro d
  induction d with
  | zero =>
    intro c a s h8 hc h0 h1
    obtain ⟨v, a1, s1, hv, v0, v1, g1, g2⟩ := pick_ok l hl a s 2 h0 (by omega)
    refine ⟨c, a1, s1, ev_succ ?_, hc, by omega, by omega⟩
    simp only [spec_l1Cur_puzzle.l0]
    refine ev_bind hv ?_
    rw [wrap_of (by omega) (by omega)]
    exact ev_neg (by dsimp only; omega) (ev_eq fun _ => rfl)
  | succ d ih =>
    intro c a s h8 hc h0 h1
    obtain ⟨v, a1, s1, hv, v0, v1, g1, g2⟩ := pick_ok l hl a s 2 h0 (by omega)
    by_cases q : (c.length : Int) < 6 + v
    · obtain ⟨r, a', s', hr, h3, g3, g4⟩ := ih (c ++ [⟨0, 0, 5⟩]) a1 s1 (by simp; omega) (by simp; omega) (by omega) (by omega)
      refine ⟨r, a', s', ev_succ ?_, h3, by omega, by omega⟩
      simp only [spec_l1Cur_puzzle.l0]
      refine ev_bind hv ?_
      rw [wrap_of (by omega) (by omega)]
      exact ev_pos q (ev_pos (by omega) hr)
    · refine ⟨c, a1, s1, ev_succ ?_, hc, by omega, by omega⟩
      simp only [spec_l1Cur_puzzle.l0]
      refine ev_bind hv ?_
      rw [wrap_of (by omega) (by omega)]
      exact ev_neg q (ev_eq fun _ => rfl)
theorem puz_j0 (l : List Int) (hl : Bytes l) (x : Int) (b : Bool) (c : List C2) (hc : c.length ≤ 6) (a s : Int) (h0 : 0 ≤ a) (h1 : a ≤ 300000000000) : ∃ r a' s', Ev (fun k => spec_l1Cur_puzzle.j0 k x b l a s c) (r, a', s') ∧ r.length ≤ 8 ∧ a ≤ a' ∧ a' ≤ a + 60 := by
  by_cases q : b = true
  · obtain ⟨v, u, w, a1, s1, e1, g1, g2⟩ := clue_ok l hl a s h0 (by omega)
    refine ⟨c ++ [⟨v, u, w⟩], a1, s1, ev_succ ?_, by simp; omega, by omega, by omega⟩
    simp only [spec_l1Cur_puzzle.j0]
    exact ev_pos q (Ev.bind e1 (ev_pos (by omega) (ev_eq fun _ => rfl)))
  · by_cases q2 : x = 3
    · obtain ⟨r, a', s', e1, h3, g1, g2⟩ := puz_l0 l hl 8 c a s (by omega) (by omega) h0 (by omega)
      refine ⟨r, a', s', ev_succ ?_, h3, by omega, by omega⟩
      simp only [spec_l1Cur_puzzle.j0]
      exact ev_neg q (ev_pos q2 e1)
    · refine ⟨c, a, s, ev_succ ?_, by omega, by omega, by omega⟩
      simp only [spec_l1Cur_puzzle.j0]
      exact ev_neg q (ev_neg q2 (ev_eq fun _ => rfl))
theorem puzzle_ok (l : List Int) (hl : Bytes l) (a s : Int) (h0 : 0 ≤ a) (h1 : a ≤ 200000000000) : ∃ r a' s', Ev (fun k => spec_l1Cur_puzzle.f k l a s) (r, a', s') ∧ r.length ≤ 8 ∧ a ≤ a' ∧ a' ≤ a + 100 := by
  unfold spec_l1Cur_puzzle.f
  obtain ⟨c, a1, s1, e1, hc, g1, g2⟩ := sure_ok2 l hl a s 5 h0 (by omega) rfl
  obtain ⟨x, a2, s2, e2, _, _, g3, g4⟩ := pick_ok l hl a1 s1 12 (by omega) (by omega)
  have go : ∀ b : Bool, ∃ r a' s', Ev (fun k => spec_l1Cur_puzzle.j0 k x b l a2 s2 c) (r, a', s') ∧ r.length ≤ 8 ∧ a2 ≤ a' ∧ a' ≤ a2 + 60 := fun b => puz_j0 l hl x b c hc a2 s2 (by omega) (by omega)
  by_cases q0 : x = 0
  · obtain ⟨r, a', s', e, h, g5, g6⟩ := go (x == 0)
    exact ⟨r, a', s', Ev.bind e1 (ev_bind e2 (ev_pos q0 e)), h, by omega, by omega⟩
  · by_cases q1 : x = 1
    · obtain ⟨r, a', s', e, h, g5, g6⟩ := go (x == 1)
      exact ⟨r, a', s', Ev.bind e1 (ev_bind e2 (ev_neg q0 (ev_pos q1 e))), h, by omega, by omega⟩
    · obtain ⟨r, a', s', e, h, g5, g6⟩ := go (x == 2)
      exact ⟨r, a', s', Ev.bind e1 (ev_bind e2 (ev_neg q0 (ev_neg q1 e))), h, by omega, by omega⟩
theorem dMP_ok (l : List Int) (hl : Bytes l) : ∃ t c z, Ev (fun k => spec_DrawMakePuzzle.f k l) (t, c, z) ∧ t.size ≤ 20 := by
  unfold spec_DrawMakePuzzle.f
  obtain ⟨b, a1, s1, e1, g1, g2⟩ := one_ok l hl 0 0 12 (by omega) (by omega)
  by_cases q : b = true
  · obtain ⟨t, a2, s2, e2, ht, g3, g4⟩ := ticket_ok l hl a1 s1 (by omega) (by omega)
    obtain ⟨c, a3, s3, e3, _, g5, g6⟩ := among_ok l hl a2 s2 [(-1), 6, 7] (by decide) (by omega) (by omega)
    obtain ⟨z, a4, s4, e4, _, g7, g8⟩ := among_ok l hl a3 s3 [(-1), 9999, 10000] (by decide) (by omega) (by omega)
    exact ⟨t, c, z, ev_bind e1 (ev_pos q (Ev.bind e2 (ev_bind e3 (ev_bind e4 (ev_eq fun _ => rfl))))), ht⟩
  · obtain ⟨n, a2, s2, hn, e2, g3, g4⟩ := hidden_ok l hl a1 s1 (by omega) (by omega)
    obtain ⟨c, a3, s3, e3, _, _, g5, g6⟩ := pick_ok l hl a2 s2 7 (by omega) (by omega)
    obtain ⟨z, a4, s4, e4, _, _, g7, g8⟩ := pick_ok l hl a3 s3 10000 (by omega) (by omega)
    exact ⟨tk n, c, z, ev_bind e1 (ev_neg q (Ev.bind e2 (ev_bind e3 (ev_bind e4 (ev_eq fun _ => rfl))))), by rw [tk_size]; omega⟩
theorem pzOf_one (n : Nat) (hn : n < 1296) (i : Nat) (hi : i < 4) : ∃ v, Ev (fun k => spec_pzOf.f k 1 (i : Int) (tk n)) v := by
  have h := fun k hk => (val_at n hn 1 (i : Int) (by omega) (by omega) (by omega) k hk).2
  exact ⟨_, ev_from 24 h⟩
theorem dHP_loop (n : Nat) (hn : n < 1296) : ∀ (d i : Nat) (c : List C2), i + d = 4 → c.length ≤ 6 + i → ∃ r, Ev (fun k => spec_DrawHarderPuzzle.l0 k (tk n) (i : Int) c) r ∧ r.length ≤ 10 := by
  intro d
  induction d with
  | zero =>
    intro i c hi hc
    refine ⟨c, ev_succ ?_, by omega⟩
    simp only [spec_DrawHarderPuzzle.l0]
    exact ev_neg (by omega) (ev_eq fun _ => rfl)
  | succ d ih =>
    intro i c hi hc
    obtain ⟨v, hv⟩ := pzOf_one n hn i (by omega)
    obtain ⟨r, hr, h10⟩ := ih (i + 1) (c ++ [⟨v.1, v.2.1, v.2.2⟩]) (by omega) (by simp; omega)
    refine ⟨r, ev_succ ?_, h10⟩
    simp only [spec_DrawHarderPuzzle.l0]
    rw [wrap_nat (by omega)]
    exact ev_pos (by omega) (Ev.bind hv (ev_pos (by omega) hr))
theorem dHP_ok (l : List Int) (hl : Bytes l) : ∃ c, Ev (fun k => spec_DrawHarderPuzzle.f k l) c ∧ c.length ≤ 10 := by
  unfold spec_DrawHarderPuzzle.f
  obtain ⟨b, a1, s1, e1, g1, g2⟩ := one_ok l hl 0 0 4 (by omega) (by omega)
  by_cases q : b = true
  · obtain ⟨c, a2, s2, e2, hc, g3, g4⟩ := puzzle_ok l hl a1 s1 (by omega) (by omega)
    exact ⟨c, ev_bind e1 (ev_pos q (Ev.bind e2 (ev_eq fun _ => rfl))), by omega⟩
  · obtain ⟨n, a2, s2, hn, e2, g3, g4⟩ := hidden_ok l hl a1 s1 (by omega) (by omega)
    obtain ⟨c, a3, s3, e3, _, _, g5, g6⟩ := pick_ok l hl a2 s2 3 (by omega) (by omega)
    obtain ⟨z, a4, s4, e4, _, _, g7, g8⟩ := pick_ok l hl a3 s3 10000 (by omega) (by omega)
    obtain ⟨r, hr, e5, _⟩ := make_both (tk n) (by rw [tk_size]; omega) c z
    obtain ⟨r2, e6, h10⟩ := dHP_loop n hn 4 0 r.1 (by omega) (by omega)
    exact ⟨r2, ev_bind e1 (ev_neg q (Ev.bind e2 (ev_bind e3 (ev_bind e4 (Ev.bind e5 e6))))), h10⟩
theorem dAC_ok (l : List Int) (hl : Bytes l) : ∃ c x y z, Ev (fun k => spec_DrawAddClue.f k l) (c, x, y, z) ∧ c.length ≤ 8 := by
  unfold spec_DrawAddClue.f
  obtain ⟨c, a2, s2, e2, hc, g3, g4⟩ := puzzle_ok l hl 0 0 (by omega) (by omega)
  obtain ⟨v, u, w, a3, s3, e3, g5, g6⟩ := clue_ok l hl a2 s2 (by omega) (by omega)
  exact ⟨c, v, u, w, Ev.bind e2 (Ev.bind e3 (ev_eq fun _ => rfl)), hc⟩
theorem dDC_ok (l : List Int) (hl : Bytes l) : ∃ c x, Ev (fun k => spec_DrawDropClue.f k l) (c, x) ∧ c.length ≤ 8 := by
  unfold spec_DrawDropClue.f
  obtain ⟨c, a2, s2, e2, hc, g3, g4⟩ := puzzle_ok l hl 0 0 (by omega) (by omega)
  obtain ⟨p, a3, s3, e3, _, _, g5, g6⟩ := pick_ok l hl a2 s2 6 (by omega) (by omega)
  obtain ⟨q, a4, s4, e4, _, _, g7, g8⟩ := pick_ok l hl a3 s3 9 (by omega) (by omega)
  exact ⟨c, _, Ev.bind e2 (ev_bind e3 (ev_bind e4 (ev_eq fun _ => rfl))), hc⟩
theorem dIC_ok (l : List Int) (hl : Bytes l) : ∃ x y z, Ev (fun k => spec_DrawIsClue.f k l) (x, y, z) := by
  unfold spec_DrawIsClue.f
  obtain ⟨b, a1, s1, e1, g1, g2⟩ := one_ok l hl 0 0 3 (by omega) (by omega)
  by_cases q : b = true
  · obtain ⟨p1, a2, s2, e2, _, _, g3, g4⟩ := pick_ok l hl a1 s1 7 (by omega) (by omega)
    obtain ⟨p2, a3, s3, e3, _, _, g5, g6⟩ := pick_ok l hl a2 s2 9 (by omega) (by omega)
    obtain ⟨p3, a4, s4, e4, _, g7, g8⟩ := among_ok l hl a3 s3 [(-1), 0, 0, 1, 2, 3, 4, 4611686018427387904] (by decide) (by omega) (by omega)
    obtain ⟨p4, a5, s5, e5, _, g9, g10⟩ := among_ok l hl a4 s4 [(-1), 0, 1, 2, 9, 10, 20, 21] (by decide) (by omega) (by omega)
    exact ⟨_, _, _, ev_bind e1 (ev_pos q (ev_bind e2 (ev_bind e3 (ev_bind e4 (ev_bind e5 (ev_eq fun _ => rfl))))))⟩
  · obtain ⟨v, u, w, a3, s3, e3, g5, g6⟩ := clue_ok l hl a1 s1 (by omega) (by omega)
    exact ⟨v, u, w, ev_bind e1 (ev_neg q (Ev.bind e3 (ev_eq fun _ => rfl)))⟩
theorem df_j0 (l : List Int) (hl : Bytes l) (t : ByteArray) (ht : t.size ≤ 20) (b : Bool) (c : List C2) (hb : b = true → 0 < c.length) (a s : Int) (h0 : 0 ≤ a) (h1 : a ≤ 200000000000) : ∃ x y z u, Ev (fun k => spec_DrawDoesFit.j0 k t b l a s c) (x, y, z, u) ∧ u.size ≤ 20 := by
  by_cases q : b = true
  · have := hb q
    refine ⟨(rd_T37 c 0).f0, (rd_T37 c 0).f1, (rd_T37 c 0).f2, t, ev_succ ?_, ht⟩
    simp only [spec_DrawDoesFit.j0]
    exact ev_pos q (ev_pos (by omega) (ev_eq fun _ => rfl))
  · obtain ⟨o, a1, s1, e1, g1, g2⟩ := one_ok l hl a s 10 h0 (by omega)
    by_cases q2 : o = true
    · obtain ⟨u, a2, s2, e2, hu, g3, g4⟩ := ticket_ok l hl a1 s1 (by omega) (by omega)
      obtain ⟨x, y, z, a3, s3, e3, g5, g6⟩ := clue_ok l hl a2 s2 (by omega) (by omega)
      refine ⟨x, y, z, u, ev_succ ?_, hu⟩
      simp only [spec_DrawDoesFit.j0]
      exact ev_neg q (ev_bind e1 (ev_pos q2 (Ev.bind e2 (Ev.bind e3 (ev_eq fun _ => rfl)))))
    · obtain ⟨x, y, z, a3, s3, e3, g5, g6⟩ := clue_ok l hl a1 s1 (by omega) (by omega)
      refine ⟨x, y, z, t, ev_succ ?_, ht⟩
      simp only [spec_DrawDoesFit.j0]
      exact ev_neg q (ev_bind e1 (ev_neg q2 (Ev.bind e3 (ev_eq fun _ => rfl))))
theorem dDF_ok (l : List Int) (hl : Bytes l) : ∃ x y z u, Ev (fun k => spec_DrawDoesFit.f k l) (x, y, z, u) ∧ u.size ≤ 20 := by
  unfold spec_DrawDoesFit.f
  obtain ⟨n, a2, s2, hn, e2, g3, g4⟩ := hidden_ok l hl 0 0 (by omega) (by omega)
  obtain ⟨z, a3, s3, e3, z0, z1, g5, g6⟩ := pick_ok l hl a2 s2 10000 (by omega) (by omega)
  have hz : 0 ≤ z ∧ z ≤ 9999 := by rcases z1 with h | h <;> omega
  have ht : (tk n).size ≤ 20 := by rw [tk_size]; omega
  have e4 := (make_in n hn 1 (by omega) z hz).1
  by_cases q : True
  · obtain ⟨b, a4, s4, e5, g7, g8⟩ := one_ok l hl a3 s3 3 (by omega) (by omega)
    obtain ⟨x, y, w, u, e6, hu⟩ := df_j0 l hl (tk n) ht b (mkL n 1 z []) (fun _ => by rw [mkL_len]; simp) a4 s4 (by omega) (by omega)
    exact ⟨x, y, w, u, Ev.bind e2 (ev_bind e3 (Ev.bind e4 (ev_pos rfl (ev_bind e5 e6)))), hu⟩
  · exact absurd trivial q

/-! ### hidden tickets: halves, luck, numbers -/
def cw (n : Nat) (kd a : Int) : Bool := match impl_told.f 24 kd a (tk n) with
  | some v => clueB kd a v && fitB ⟨kd, a, v⟩ n
  | none => false
def chkH (n : Nat) : Bool :=
  match impl_HalfSums.f 24 (tk n), impl_IsLucky.f 24 (tk n), impl_NumberOfTicket.f 24 (tk n) with
  | some (a, b, o1), some (lk, o2), some (m, o3) => o1 && (o2 && (o3 && (clueB 0 0 a && (clueB 0 1 b && (fitB ⟨0, 0, a⟩ n && (fitB ⟨0, 1, b⟩ n && ((fitB ⟨2, 0, 1⟩ n == lk) && ((fitB ⟨5, 0, 7⟩ n == (Int.tmod m 7 == 0)) && (cw n 0 0 && (cw n 0 1 && (cw n 1 0 && (cw n 1 1 && (cw n 1 2 && (cw n 1 3 && (cw n 2 0 && (cw n 3 0 && (cw n 3 1 && (cw n 3 2 && cw n 4 0))))))))))))))))))
  | _, _, _ => false
def chkHR (a : Nat) : Bool := (List.range 216).all (fun n => chkH (216 * a + n))
set_option maxRecDepth 100000 in
theorem vchk0 : chkHR 0 = true := by kernel_rfl
set_option maxRecDepth 100000 in
theorem vchk1 : chkHR 1 = true := by kernel_rfl
set_option maxRecDepth 100000 in
theorem vchk2 : chkHR 2 = true := by kernel_rfl
set_option maxRecDepth 100000 in
theorem vchk3 : chkHR 3 = true := by kernel_rfl
set_option maxRecDepth 100000 in
theorem vchk4 : chkHR 4 = true := by kernel_rfl
set_option maxRecDepth 100000 in
theorem vchk5 : chkHR 5 = true := by kernel_rfl
theorem chkH_all (n : Nat) (h : n < 1296) : chkH n = true := by
  have hR : chkHR (n / 216) = true := by
    have : n / 216 = 0 ∨ n / 216 = 1 ∨ n / 216 = 2 ∨ n / 216 = 3 ∨ n / 216 = 4 ∨ n / 216 = 5 := by omega
    rcases this with e | e | e | e | e | e <;> rw [e]
    · exact vchk0
    · exact vchk1
    · exact vchk2
    · exact vchk3
    · exact vchk4
    · exact vchk5
  have := List.all_eq_true.mp hR (n % 216) (List.mem_range.mpr (by omega))
  rwa [show 216 * (n / 216) + n % 216 = n by omega] at this
theorem hid_facts (n : Nat) (hn : n < 1296) : ∃ a b lk m, Ev (fun k => impl_HalfSums.f k (tk n)) (a, b, true) ∧ Ev (fun k => impl_IsLucky.f k (tk n)) (lk, true) ∧ Ev (fun k => impl_NumberOfTicket.f k (tk n)) (m, true) ∧
    clueB 0 0 a = true ∧ clueB 0 1 b = true ∧ fitB ⟨0, 0, a⟩ n = true ∧ fitB ⟨0, 1, b⟩ n = true ∧ fitB ⟨2, 0, 1⟩ n = lk ∧ fitB ⟨5, 0, 7⟩ n = (Int.tmod m 7 == 0) := by
  have h := chkH_all n hn
  unfold chkH at h
  split at h
  · rename_i a b o1 lk o2 m o3 e1 e2 e3
    simp only [Bool.and_eq_true, beq_iff_eq] at h
    obtain ⟨rfl, rfl, rfl, h1, h2, h3, h4, h5, h6, _⟩ := h
    exact ⟨a, b, lk, m, Ev.of (fun k => impl_HalfSums.mono _ k) e1, Ev.of (fun k => impl_IsLucky.mono _ k) e2, Ev.of (fun k => impl_NumberOfTicket.mono _ k) e3, h1, h2, h3, h4, h5, h6⟩
  · simp at h
theorem cw_all (n : Nat) (hn : n < 1296) (kd a : Int) (h : (kd = 0 ∧ (a = 0 ∨ a = 1)) ∨ (kd = 1 ∧ (a = 0 ∨ a = 1 ∨ a = 2 ∨ a = 3)) ∨ (kd = 2 ∧ a = 0) ∨ (kd = 3 ∧ (a = 0 ∨ a = 1 ∨ a = 2)) ∨ (kd = 4 ∧ a = 0)) : cw n kd a = true := by
  have hh := chkH_all n hn
  unfold chkH at hh
  split at hh
  · simp only [Bool.and_eq_true] at hh
    obtain ⟨_, _, _, _, _, _, _, _, _, a0, a1, b0, b1, b2, b3, c0, d0, d1, d2, e0⟩ := hh
    rcases h with ⟨rfl, rfl | rfl⟩ | ⟨rfl, rfl | rfl | rfl | rfl⟩ | ⟨rfl, rfl⟩ | ⟨rfl, rfl | rfl | rfl⟩ | ⟨rfl, rfl⟩ <;> assumption
  · simp at hh
theorem made_fits (n : Nat) (hn : n < 1296) (kd y : Int) (h0 : 0 ≤ kd) (h5 : kd < 5) (hy : 0 ≤ y) : clueS ⟨kd, y % mdK kd, valF n kd y⟩ = true ∧ fitB ⟨kd, y % mdK kd, valF n kd y⟩ n = true := by
  have hk : kd = 0 ∨ kd = 1 ∨ kd = 2 ∨ kd = 3 ∨ kd = 4 := by omega
  have hc : cw n kd (y % mdK kd) = true := by
    refine cw_all n hn kd _ ?_
    rcases hk with rfl | rfl | rfl | rfl | rfl
    · have e : mdK 0 = 2 := rfl
      rw [e]; omega
    · have e : mdK 1 = 4 := rfl
      rw [e]; omega
    · have e : mdK 2 = 1 := rfl
      rw [e]; omega
    · have e : mdK 3 = 3 := rfl
      rw [e]; omega
    · have e : mdK 4 = 1 := rfl
      rw [e]; omega
  have hv := (val_at n hn kd y h0 h5 hy 24 (Nat.le_refl _)).1
  unfold cw at hc
  rw [hv] at hc
  simp only [Bool.and_eq_true] at hc
  exact hc
theorem mkL_fits (n : Nat) (hn : n < 1296) : ∀ (c : Nat) (z : Int) (l : List C2), (∀ x ∈ l, clueS x = true ∧ fitB x n = true) → ∀ x ∈ mkL n c z l, clueS x = true ∧ fitB x n = true
  | 0, _, _, h => h
  | c + 1, z, l, h => by
    have b1 := nx_b z
    have b2 := nx_b (nx z)
    refine mkL_fits n hn c _ _ (fun x hx => ?_)
    rcases List.mem_append.mp hx with hx | hx
    · exact h x hx
    · rw [List.mem_singleton] at hx
      subst hx
      exact made_fits n hn _ _ (by omega) (by omega) b2.1
/-! ### fits -/
theorem fit_yes (x : C2) (hx : clueS x = true) (n : Nat) (hn : n < 1296) : Ev (fun k => impl_DoesFit.f k x.f0 x.f1 x.f2 (tk n)) (fitB x n, true) := by
  have ht : (tk n).size ≤ 1048576 := by rw [tk_size]; omega
  have hc := implClue_ev x.f0 x.f1 x.f2
  rw [show clueB x.f0 x.f1 x.f2 = true from hx] at hc
  have hh := implHidden_ev (tk n) ht
  rw [hid_of n hn] at hh
  unfold impl_DoesFit.f
  exact Ev.bind hc (ev_pos rfl (Ev.bind hh (ev_pos rfl (Ev.bind (ev_from 24 (fun k hk => implFits_at x hx n hn k hk)) (ev_eq fun _ => rfl)))))
theorem fit_all (x y z : Int) (t : ByteArray) (ht : t.size ≤ 1048576) : ∃ r : Bool × Bool, Ev (fun k => impl_DoesFit.f k x y z t) r ∧ Ev (fun k => spec_DoesFit.f k x y z t) r ∧ (r.2 = true → clueB x y z = true) := by
  cases hh : hidB t with
  | false =>
    refine ⟨(false, false), ?_, ?_, fun h => by simp at h⟩
    · unfold impl_DoesFit.f
      refine Ev.bind (implClue_ev x y z) ?_
      cases clueB x y z with
      | false => exact ev_neg (by decide) (ev_eq fun _ => rfl)
      | true => exact ev_pos rfl (Ev.bind (hh ▸ implHidden_ev t ht) (ev_neg (by decide) (ev_eq fun _ => rfl)))
    · unfold spec_DoesFit.f
      exact Ev.bind (hh ▸ specHidden_ev t ht) (ev_neg (by decide) (ev_eq fun _ => rfl))
  | true =>
    obtain ⟨n, hn, rfl⟩ := hid_tk t hh
    cases hc : clueB x y z with
    | false =>
      refine ⟨(false, false), ?_, ?_, fun h => by simp at h⟩
      · unfold impl_DoesFit.f
        exact Ev.bind (hc ▸ implClue_ev x y z) (ev_neg (by decide) (ev_eq fun _ => rfl))
      · unfold spec_DoesFit.f
        exact Ev.bind (hh ▸ specHidden_ev _ ht) (ev_pos rfl (ev_bind (specClue_eq x y z) (ev_neg (by rw [hc]; decide) (ev_eq fun _ => rfl))))
    | true =>
      refine ⟨(fitB ⟨x, y, z⟩ n, true), fit_yes ⟨x, y, z⟩ hc n hn, ?_, fun _ => rfl⟩
      unfold spec_DoesFit.f
      exact Ev.bind (hh ▸ specHidden_ev _ ht) (ev_pos rfl (ev_bind (specClue_eq x y z) (ev_pos hc (Ev.bind (ev_from 24 (fun k hk => specFits_at ⟨x, y, z⟩ hc n hn k hk)) (ev_eq fun _ => rfl)))))
theorem make_cases (t : ByteArray) (ht : t.size ≤ 1048576) (c z : Int) : (∃ n m : Nat, n < 1296 ∧ m ≤ 6 ∧ t = tk n ∧ c = (m : Int) ∧ Ev (fun k => impl_MakePuzzle.f k t c z) (mkL n m z [], true) ∧ Ev (fun k => spec_MakePuzzle.f k t c z) (mkL n m z [], true)) ∨
    (Ev (fun k => impl_MakePuzzle.f k t c z) ([], false) ∧ Ev (fun k => spec_MakePuzzle.f k t c z) ([], false)) := by
  cases hh : hidB t with
  | false =>
    refine .inr ⟨?_, ?_⟩
    · unfold impl_MakePuzzle.f
      exact Ev.bind (hh ▸ implHidden_ev t ht) (ev_neg (by decide) (ev_eq fun _ => rfl))
    · unfold spec_MakePuzzle.f
      refine Ev.bind (hh ▸ specHidden_ev t ht) (ev_neg (by decide) (ev_succ ?_))
      simp only [spec_MakePuzzle.j0]
      exact ev_pos trivial (ev_eq fun _ => rfl)
  | true =>
    obtain ⟨n, hn, rfl⟩ := hid_tk t hh
    by_cases hc : 0 ≤ c ∧ c ≤ 6
    · by_cases hz : 0 ≤ z ∧ z ≤ 9999
      · obtain ⟨m, rfl⟩ : ∃ m : Nat, c = (m : Int) := ⟨c.toNat, by omega⟩
        have h := make_in n hn m (by omega) z hz
        exact .inl ⟨n, m, hn, by omega, rfl, rfl, h.2, h.1⟩
      · refine .inr ⟨?_, ?_⟩
        · unfold impl_MakePuzzle.f
          exact Ev.bind (hh ▸ implHidden_ev _ ht) (ev_pos rfl (ev_bind (within_eq _ _ _) (ev_pos (decide_eq_true hc) (ev_bind (within_eq _ _ _) (ev_neg (by rw [decide_eq_false hz]; decide) (ev_eq fun _ => rfl))))))
        · unfold spec_MakePuzzle.f
          refine Ev.bind (hh ▸ specHidden_ev _ ht) (ev_pos rfl (ev_bind (l1In_eq _ _ _) (ev_pos (decide_eq_true hc) (ev_bind (l1In_eq _ _ _) (ev_succ ?_)))))
          simp only [spec_MakePuzzle.j0]
          exact ev_pos (by rw [decide_eq_false hz]; rfl) (ev_eq fun _ => rfl)
    · refine .inr ⟨?_, ?_⟩
      · unfold impl_MakePuzzle.f
        exact Ev.bind (hh ▸ implHidden_ev _ ht) (ev_pos rfl (ev_bind (within_eq _ _ _) (ev_neg (by rw [decide_eq_false hc]; decide) (ev_eq fun _ => rfl))))
      · unfold spec_MakePuzzle.f
        refine Ev.bind (hh ▸ specHidden_ev _ ht) (ev_pos rfl (ev_bind (l1In_eq _ _ _) (ev_neg (by rw [decide_eq_false hc]; decide) (ev_succ ?_))))
        simp only [spec_MakePuzzle.j0]
        exact ev_pos trivial (ev_eq fun _ => rfl)
/-! ### the law's own looks at puzzles and texts -/
theorem iPz_loop (c : List C2) (hc : c.length ≤ 1000000) : ∀ (d i : Nat), i + d = c.length → Ev (fun k => laws_iPuzzle.l0 k (c.length : Int) (i : Int) c c) true := by
  intro d
  induction d with
  | zero =>
    intro i hi
    refine ev_succ ?_
    simp only [laws_iPuzzle.l0]
    exact ev_neg (by omega) (ev_eq fun _ => rfl)
  | succ d ih =>
    intro i hi
    refine ev_succ ?_
    simp only [laws_iPuzzle.l0]
    rw [wrap_nat (by omega)]
    exact ev_pos (by omega) (ev_pos (by omega) (ev_pos (by omega) (ev_pos (by omega) (ev_neg (by simp) (ih (i + 1) (by omega))))))
theorem iPz_ev (c : List C2) (hc : c.length ≤ 1000000) : Ev (fun k => laws_iPuzzle.f k c c) true := by
  unfold laws_iPuzzle.f
  exact ev_pos rfl (iPz_loop c hc c.length 0 (by omega))
theorem iTx_loop (c : List ByteArray) (hc : c.length ≤ 1000000) : ∀ (d i : Nat), i + d = c.length → Ev (fun k => laws_iTexts.l0 k c c (c.length : Int) (i : Int)) true := by
  intro d
  induction d with
  | zero =>
    intro i hi
    refine ev_succ ?_
    simp only [laws_iTexts.l0]
    exact ev_neg (by omega) (ev_eq fun _ => rfl)
  | succ d ih =>
    intro i hi
    refine ev_succ ?_
    simp only [laws_iTexts.l0]
    rw [wrap_nat (by omega)]
    exact ev_pos (by omega) (ev_pos (by omega) (ev_pos (by omega) (ev_pos (by omega) (ev_pos trivial (ih (i + 1) (by omega))))))
theorem iTx_ev (c : List ByteArray) (hc : c.length ≤ 1000000) : Ev (fun k => laws_iTexts.f k c c) true := by
  unfold laws_iTexts.f
  exact ev_pos rfl (iTx_loop c hc c.length 0 (by omega))
/-! ### fewer clues, more solutions -/
theorem sg_app (l : List C2) : ∀ (c n : Nat) (out : List ByteArray), sg l c n out = out ++ sg l c n []
  | 0, _, out => by simp [sg]
  | c + 1, n, out => by
    simp only [sg]
    rw [sg_app l c (n + 1) (if okT l n = true then out ++ [tk n] else out), sg_app l c (n + 1) (if okT l n = true then [] ++ [tk n] else [])]
    split
    · simp
    · simp
theorem sg_sub (l l' : List C2) (h : ∀ n, okT l n = true → okT l' n = true) : ∀ (c n : Nat), (sg l c n []).Sublist (sg l' c n [])
  | 0, _ => List.Sublist.refl _
  | c + 1, n => by
    simp only [sg]
    rw [sg_app l c (n + 1), sg_app l' c (n + 1)]
    have ih := sg_sub l l' h c (n + 1)
    by_cases q : okT l n = true
    · rw [if_pos q, if_pos (h n q)]
      exact List.Sublist.append (List.Sublist.refl _) ih
    · rw [if_neg q, List.nil_append]
      exact ih.trans (List.sublist_append_right _ _)
theorem sol_sub (l l' : List C2) (h : ∀ x ∈ l', x ∈ l) : (sol l).Sublist (sol l') := by
  unfold sol
  generalize 1296 = N
  refine sg_sub l l' (fun n hn => ?_) N 0
  unfold okT at hn ⊢
  rw [List.all_eq_true] at hn ⊢
  exact fun x hx => hn x (h x hx)
theorem erase_mem {l : List C2} {i : Nat} : ∀ x ∈ l.eraseIdx i, x ∈ l := fun x hx => List.mem_of_mem_eraseIdx hx
theorem erase_comm : ∀ (l : List C2) (i j : Nat), j < i → (l.eraseIdx i).eraseIdx j = (l.eraseIdx j).eraseIdx (i - 1)
  | [], _, _, _ => by simp
  | x :: l, 0, j, h => by omega
  | x :: l, i + 1, 0, _ => by simp
  | x :: l, i + 1, j + 1, h => by
    have := erase_comm l i j (by omega)
    simp only [List.eraseIdx_cons_succ]
    rw [this]
    cases i with
    | zero => omega
    | succ i => simp
/-- what is left when no clue can be taken out any more -/
theorem hd_spec : ∀ (m : Nat) (x : List C2) (i : Nat), x.length ≤ m + i → (sol x).length = 1 → (∀ j, j < i → j < x.length → 2 ≤ (sol (x.eraseIdx j)).length) →
    sol (hd m x i) = sol x ∧ (∀ y ∈ hd m x i, y ∈ x) ∧ ∀ j, j < (hd m x i).length → 2 ≤ (sol ((hd m x i).eraseIdx j)).length
  | 0, x, i, hx, _, hj => ⟨rfl, fun _ h => h, fun j h => hj j (by simp only [hd] at h; omega) h⟩
  | m + 1, x, i, hx, h1, hj => by
    simp only [hd]
    by_cases q : i < x.length
    · rw [if_pos q]
      have hsub := sol_sub x (x.eraseIdx i) erase_mem
      by_cases q2 : ((sol (x.eraseIdx i)).length : Int) = 1
      · rw [if_pos q2]
        have heq : sol x = sol (x.eraseIdx i) := hsub.eq_of_length (by omega)
        have hl : (x.eraseIdx i).length + 1 = x.length := by rw [List.length_eraseIdx_of_lt q]; omega
        obtain ⟨a, b, c⟩ := hd_spec m (x.eraseIdx i) i (by omega) (by omega) (fun j hji hjl => by
          have h2 := hj j hji (by omega)
          rw [erase_comm x i j hji]
          have := (sol_sub (x.eraseIdx j) ((x.eraseIdx j).eraseIdx (i - 1)) erase_mem).length_le
          omega)
        exact ⟨by rw [a, heq], fun y hy => erase_mem y (b y hy), c⟩
      · rw [if_neg q2]
        refine hd_spec m x (i + 1) (by omega) h1 (fun j hji hjl => ?_)
        by_cases e : j = i
        · subst e
          have := hsub.length_le
          omega
        · exact hj j (by omega) hjl
    · rw [if_neg q]
      exact ⟨rfl, fun _ h => h, fun j h => hj j (by omega) h⟩
theorem nl_none (c : List C2) (many : Int) : ∀ (d i : Nat) (out : List Int), i + d ≤ c.length → (∀ j, j < c.length → ((sol (c.eraseIdx j)).length : Int) ≠ many) → nl c many d i out = out
  | 0, _, _, _, _ => rfl
  | d + 1, i, out, hi, h => by
    simp only [nl]
    rw [if_neg (h i (by omega))]
    exact nl_none c many d (i + 1) out (by omega) h
end Go.Proofs.YtebchgfjfobbbaaGreatDoor.Pure
