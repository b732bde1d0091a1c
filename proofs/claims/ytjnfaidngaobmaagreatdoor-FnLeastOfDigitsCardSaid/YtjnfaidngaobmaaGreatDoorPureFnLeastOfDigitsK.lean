/- LeastOfDigits: what is drawn of multiples and ones, looked through by the kernel (numbers and texts alone). -/
import Derived.Test.YtjnfaidngaobmaaGreatDoorPFnLeastOfDigitsx8
import Derived.Test.YtjnfaidngaobmaaGreatDoorPFnLeastOfDigitsx9
import Derived.Test.YtjnfaidngaobmaaGreatDoorPFnLeastOfDigitsx10
import Derived.Test.YtjnfaidngaobmaaGreatDoorPFnLeastOfDigitsx11
import Derived.KernelRfl
namespace Go.Proofs.YtjnfaidngaobmaaGreatDoor.Pure
open Go.RowKit Go.Proofs.YtjnfaidngaobmaaGreatDoor.PFnLeastOfDigits Go.Proofs.YtjnfaidngaobmaaGreatDoorW.PrintWords Go.Proofs.YtjnfaidngaobmaaGreatDoorW.PrintLast
set_option linter.unusedVariables false
set_option linter.unusedSimpArgs false

theorem wrap_of {x : Int} (h0 : -9223372036854775808 ≤ x) (h1 : x ≤ 9223372036854775807) : wrap64 x = x := by unfold wrap64; omega
theorem wrap_nat {i : Nat} (h : i < 4611686018427387904) : wrap64 ((i : Int) + 1) = ((i + 1 : Nat) : Int) := by unfold wrap64; omega
theorem ev_eq {α : Type} {g : Nat → Option α} {r : α} (h : ∀ k, g k = some r) : Ev g r := ⟨0, fun k _ => h k⟩
theorem ev_bind {α β : Type} {x : Option α} {f : Nat → α → Option β} {a : α} {r : β} (h : x = some a) (k : Ev (fun n => f n a) r) : Ev (fun n => x.bind (f n)) r := by subst h; exact k
theorem ev_pos {α : Type} {c : Prop} [Decidable c] {g f : Nat → Option α} {r : α} (h : c) (k : Ev g r) : Ev (fun n => if c then g n else f n) r := by simp only [if_pos h]; exact k
theorem ev_neg {α : Type} {c : Prop} [Decidable c] {g f : Nat → Option α} {r : α} (h : ¬ c) (k : Ev f r) : Ev (fun n => if c then g n else f n) r := by simp only [if_neg h]; exact k
theorem ev_from {α : Type} {g : Nat → Option α} {r : α} (K : Nat) (h : ∀ k, K ≤ k → g k = some r) : Ev g r := ⟨K, h⟩
theorem l1In_eq (n lo hi : Int) : spec_l1In.f n lo hi = some (decide (lo ≤ n ∧ n ≤ hi)) := by
  unfold spec_l1In.f
  by_cases h : n ≥ lo
  · rw [if_pos h]; congr 1; simp; intro _; omega
  · rw [if_neg h]; congr 1; simp; intro; omega
theorem within_eq (n lo hi : Int) : impl_within.f n lo hi = some (decide (lo ≤ n ∧ n ≤ hi)) := by
  unfold impl_within.f
  by_cases h : lo ≤ n
  · rw [if_pos h]; congr 1; simp; intro _; omega
  · rw [if_neg h]; congr 1; simp; intro; omega

/-! ### bytes of a text -/
theorem size_len (t : ByteArray) : t.data.toList.length = t.size := by rw [Array.length_toList]; rfl
theorem bt_get (t : ByteArray) (i : Nat) (h : i < t.data.toList.length) : bt t (i : Int) = ((t.data.toList[i]).toNat : Int) := by
  unfold bt
  rw [dif_pos (by rw [Int.toNat_natCast]; simpa using h)]
  simp only [Int.toNat_natCast]
  rfl
theorem ev_succ {α : Type} {g : Nat → Option α} {r : α} (h : Ev (fun k => g (k + 1)) r) : Ev g r := by
  obtain ⟨K, hK⟩ := h
  refine ev_from (K + 1) (fun k hk => ?_)
  obtain ⟨k, rfl⟩ : ∃ m, k = m + 1 := ⟨k - 1, by omega⟩
  exact hK k (by omega)
theorem ext_list (s : ByteArray) (a b : Nat) (hb : b ≤ s.size) : (s.extract a b).data.toList = (s.data.toList.take b).drop a := by
  rw [ByteArray.data_extract, Array.toList_extract, List.extract_eq_take_drop]
  rw [List.drop_take]
theorem take_list (s : ByteArray) (i : Nat) (h : i ≤ s.size) : (s.extract 0 i).data.toList = s.data.toList.take i := by rw [ext_list s 0 i h]; rfl
theorem drop_list (s : ByteArray) (i : Nat) : (s.extract i s.size).data.toList = s.data.toList.drop i := by
  rw [ext_list s i s.size (Nat.le_refl _), List.take_of_length_le (by rw [size_len]; exact Nat.le_refl _)]
theorem mk_data (s : ByteArray) : (⟨s.data.toList.toArray⟩ : ByteArray) = s := by cases s; simp
theorem of_list {s : ByteArray} {l : List UInt8} (h : s.data.toList = l) : s = ⟨l.toArray⟩ := by rw [← h, mk_data]
theorem list_of (l : List UInt8) : (⟨l.toArray⟩ : ByteArray).data.toList = l := by simp
theorem mk_size (l : List UInt8) : (⟨l.toArray⟩ : ByteArray).size = l.length := by rw [← size_len, list_of]
theorem mk_append (a b : List UInt8) : (⟨a.toArray⟩ : ByteArray) ++ ⟨b.toArray⟩ = ⟨(a ++ b).toArray⟩ := by
  apply of_list; rw [ByteArray.data_append, Array.toList_append, list_of, list_of]

/-! ### the program's search, told with a number's bits for what it met (for the kernel's look at the digits 0 to 9) -/
structure MS where
  all : List impl_multiple.Nd
  cnt : Nat
  mask : Nat
def MS.st (N : Nat) (a : MS) : List impl_multiple.Nd × List Bool := (a.all.reverse, (List.range N).map a.mask.testBit)
def MS.push (n : Int) (a : MS) (before rest digit : Int) : Option MS :=
  if n = 0 then none else if 0 ≤ impl_multiple.rem n rest digit then (if impl_multiple.rem n rest digit < n then (if a.mask.testBit (impl_multiple.rem n rest digit).toNat = true then some a else if a.cnt < 1000000 then some ⟨⟨impl_multiple.rem n rest digit, before, digit⟩ :: a.all, a.cnt + 1, a.mask ||| (2 ^ (impl_multiple.rem n rest digit).toNat)⟩ else none) else none) else none
def MS.ok (a : MS) : Prop := a.cnt = a.all.length
theorem map_rd (N m : Nat) (r : Int) (h0 : 0 ≤ r) (h : r < (N : Int)) : rdOf false ((List.range N).map m.testBit) r = m.testBit r.toNat := by
  unfold rdOf
  rw [List.getD_eq_getElem?_getD, List.getElem?_eq_getElem (by simp; omega)]
  simp
theorem map_set (N m r : Nat) (h : r < N) : ((List.range N).map m.testBit).set r true = (List.range N).map (m ||| 2 ^ r).testBit := by
  apply List.ext_getElem
  · simp
  · intro i h1 h2
    rw [List.getElem_set]
    simp only [List.getElem_map, List.getElem_range, Nat.testBit_or, Nat.testBit_two_pow]
    by_cases c : r = i
    · rw [if_pos c, decide_eq_true c, Bool.or_true]
    · rw [if_neg c, decide_eq_false c, Bool.or_false]
theorem push_eq (n : Int) (hn : 0 ≤ n) (a : MS) (ha : a.ok) (b r d : Int) : impl_multiple.push n (a.st n.toNat) b r d = (a.push n b r d).map (MS.st n.toNat) ∧ ∀ a', a.push n b r d = some a' → a'.ok := by
  unfold impl_multiple.push MS.push
  have hl : (((a.st n.toNat).2.length : Nat) : Int) = n := by unfold MS.st; simp; omega
  have hc : (a.st n.toNat).1.length = a.cnt := by unfold MS.st; rw [ha]; simp
  rw [hl, hc]
  by_cases c0 : n = 0
  · rw [if_pos c0, if_pos c0]; exact ⟨rfl, fun _ h => by simp at h⟩
  rw [if_neg c0, if_neg c0]
  by_cases c1 : 0 ≤ impl_multiple.rem n r d
  rotate_left
  · rw [if_neg c1, if_neg c1]; exact ⟨rfl, fun _ h => by simp at h⟩
  rw [if_pos c1, if_pos c1]
  by_cases c2 : impl_multiple.rem n r d < n
  rotate_left
  · rw [if_neg c2, if_neg c2]; exact ⟨rfl, fun _ h => by simp at h⟩
  rw [if_pos c2, if_pos c2]
  have e : rdOf false (a.st n.toNat).2 (impl_multiple.rem n r d) = a.mask.testBit (impl_multiple.rem n r d).toNat := map_rd _ _ _ c1 (by omega)
  rw [e]
  by_cases c3 : a.mask.testBit (impl_multiple.rem n r d).toNat = true
  · rw [if_pos c3, if_pos c3]; exact ⟨rfl, fun a' h => by rw [← Option.some.inj h]; exact ha⟩
  rw [if_neg c3, if_neg c3]
  by_cases c4 : a.cnt < 1000000
  · rw [if_pos c4, if_pos c4]
    refine ⟨?_, fun a' h => ?_⟩
    · simp only [Option.map_some, MS.st]
      rw [map_set _ _ _ (by omega)]
      simp
    · rw [← Option.some.inj h]
      unfold MS.ok at ha ⊢
      simp [ha]
  · rw [if_neg c4, if_neg c4]; exact ⟨rfl, fun _ h => by simp at h⟩
def MS.first (n : Int) : List Int → MS → Option MS
  | [], a => some a
  | d :: ds, a => if d = 48 then MS.first n ds a else (a.push n (-1) 0 d).bind fun a' => MS.first n ds a'
def MS.pushes (n i rest : Int) : List Int → MS → Option MS
  | [], a => some a
  | d :: ds, a => (a.push n i rest d).bind fun a' => MS.pushes n i rest ds a'
def MS.l2 (n : Int) (ds : List Int) (K : Nat) : Nat → MS → Nat → Option (ByteArray × Bool)
  | 0, _, _ => none
  | k + 1, a, i => if i < a.cnt then (if (a.all.getD (a.cnt - 1 - i) impl_multiple.zN).r = 0 then (impl_multiple.path a.all.reverse K (i : Int) []).bind fun out => some (strOfNums out.reverse, true) else (MS.pushes n (i : Int) (a.all.getD (a.cnt - 1 - i) impl_multiple.zN).r ds a).bind fun a' => MS.l2 n ds K k a' (i + 1)) else some (⟨#[]⟩, false)
theorem first_eq (n : Int) (hn : 0 ≤ n) : ∀ (ds : List Int) (a : MS), a.ok → impl_multiple.first n ds (a.st n.toNat) = (MS.first n ds a).map (MS.st n.toNat) ∧ ∀ a', MS.first n ds a = some a' → a'.ok
  | [], a, ha => ⟨rfl, fun a' h => by rw [← Option.some.inj h]; exact ha⟩
  | d :: ds, a, ha => by
    simp only [impl_multiple.first, MS.first]
    by_cases c : d = 48
    · rw [if_pos c, if_pos c]; exact first_eq n hn ds a ha
    · rw [if_neg c, if_neg c]
      obtain ⟨h1, h2⟩ := push_eq n hn a ha (-1) 0 d
      rw [h1]
      cases h : a.push n (-1) 0 d with
      | none => exact ⟨rfl, fun _ q => by simp at q⟩
      | some a1 => exact first_eq n hn ds a1 (h2 a1 h)
theorem pushes_eq (n i rest : Int) (hn : 0 ≤ n) : ∀ (ds : List Int) (a : MS), a.ok → impl_multiple.pushes n i rest ds (a.st n.toNat) = (MS.pushes n i rest ds a).map (MS.st n.toNat) ∧ ∀ a', MS.pushes n i rest ds a = some a' → a'.ok
  | [], a, ha => ⟨rfl, fun a' h => by rw [← Option.some.inj h]; exact ha⟩
  | d :: ds, a, ha => by
    simp only [impl_multiple.pushes, MS.pushes]
    obtain ⟨h1, h2⟩ := push_eq n hn a ha i rest d
    rw [h1]
    cases h : a.push n i rest d with
    | none => exact ⟨rfl, fun _ q => by simp at q⟩
    | some a1 => exact pushes_eq n i rest hn ds a1 (h2 a1 h)
theorem path_top (l : List impl_multiple.Nd) (K k : Nat) (hk : K ≤ k) (i : Int) (out : List Int) : LeO (impl_multiple.path l K i out) (impl_multiple.path l k i out) := by
  induction hk with
  | refl => exact LeO.refl _
  | step _ ih => exact LeO.trans ih (impl_multiple.path_mono _ _ _ _)
theorem l2_eq (n : Int) (hn : 0 ≤ n) (ds : List Int) (K : Nat) : ∀ (k : Nat) (a : MS) (i : Nat), a.ok → LeO (MS.l2 n ds K k a i) (impl_multiple.l2 n ds (K + k) (a.st n.toNat) (i : Int))
  | 0, _, _, _ => LeO.none _
  | k + 1, a, i, ha => by
    rw [← Nat.add_assoc]
    simp only [impl_multiple.l2, MS.l2]
    have hc : (a.st n.toNat).1.length = a.cnt := by unfold MS.st; rw [ha]; simp
    rw [hc]
    by_cases c : i < a.cnt
    · rw [if_pos c, if_pos (show (i : Int) < (a.cnt : Int) by omega)]
      have hlt : i < a.all.length := by rw [← ha]; exact c
      have e : rdOf impl_multiple.zN (a.st n.toNat).1 (i : Int) = a.all.getD (a.cnt - 1 - i) impl_multiple.zN := by
        unfold rdOf MS.st
        rw [Int.toNat_natCast, List.getD_eq_getElem?_getD, List.getD_eq_getElem?_getD, List.getElem?_eq_getElem (by simpa using hlt), List.getElem_reverse, List.getElem?_eq_getElem (by rw [ha]; omega)]
        simp only [Option.getD_some]
        congr 1
        rw [ha]
      rw [e]
      by_cases c2 : (a.all.getD (a.cnt - 1 - i) impl_multiple.zN).r = 0
      · rw [if_pos c2, if_pos c2]
        exact LeO.bind (path_top _ K (K + k) (by omega) _ _) (fun _ => LeO.refl _)
      · rw [if_neg c2, if_neg c2]
        obtain ⟨h1, h2⟩ := pushes_eq n (i : Int) (a.all.getD (a.cnt - 1 - i) impl_multiple.zN).r hn ds a ha
        rw [h1]
        cases h : MS.pushes n (i : Int) (a.all.getD (a.cnt - 1 - i) impl_multiple.zN).r ds a with
        | none => exact LeO.none _
        | some a1 =>
          have := l2_eq n hn ds K k a1 (i + 1) (h2 a1 h)
          rw [show ((i + 1 : Nat) : Int) = (i : Int) + 1 by omega] at this
          exact this
    · rw [if_neg c, if_neg (show ¬ (i : Int) < (a.cnt : Int) by omega)]; exact LeO.refl _
def mulG (K q : Nat) (n : Int) (ds : List Int) : Option (ByteArray × Bool) := (MS.first n ds ⟨[], 0, 0⟩).bind fun a => MS.l2 n ds K q a 0
theorem mulG_ev (K q : Nat) (n : Int) (s : ByteArray) (hn : 1 ≤ n ∧ n ≤ 100000) (hs : s.size ≤ 1048576) (r : ByteArray × Bool) (h : mulG K q n (bytesOf s) = some r) : Ev (fun k => impl_multiple.f k n s) r := by
  refine Ev.of (fun k => impl_multiple.mono n s k) (k := K + q) ?_
  unfold impl_multiple.f
  rw [if_pos ⟨hn, hs⟩]
  unfold mulG at h
  have h0 : (([] : List impl_multiple.Nd), List.replicate n.toNat false) = MS.st n.toNat ⟨[], 0, 0⟩ := by
    unfold MS.st
    congr 1
    apply List.ext_getElem
    · simp
    · intro i h1 h2; simp
  rw [h0]
  obtain ⟨h1, h2⟩ := first_eq n (by omega) (bytesOf s) ⟨[], 0, 0⟩ rfl
  rw [h1]
  cases hf : MS.first n (bytesOf s) ⟨[], 0, 0⟩ with
  | none => rw [hf] at h; simp at h
  | some a =>
    rw [hf] at h
    exact l2_eq n (by omega) (bytesOf s) K q a 0 (h2 a hf) r h
def mul9 (n : Int) (ds : List Int) : Option (ByteArray × Bool) := mulG 20 2000 n ds
/-- the digits 0 to 9 -/
def s9 : ByteArray := ⟨#[48, 49, 50, 51, 52, 53, 54, 55, 56, 57]⟩
def d9 : List Int := [48, 49, 50, 51, 52, 53, 54, 55, 56, 57]
theorem d9_eq : bytesOf s9 = d9 := by kernel_rfl
theorem lm9 (k : Nat) (m : Int) : impl_LeastMultiple.l0 (k + 10) m s9 1 = (impl_multiple.f k m s9).bind fun bt320 => (some (bt320.1, bt320.2)) := by kernel_rfl
theorem ad9 : impl_areDigits.f 20 s9 1 10 = some true := by kernel_rfl
theorem LM9_ev (m : Int) (hm : 1 ≤ m ∧ m ≤ 400) (r : ByteArray × Bool) (h : mul9 m d9 = some r) : Ev (fun k => impl_LeastMultiple.f k m s9) r := by
  rw [← d9_eq] at h
  have h1 := mulG_ev 20 2000 m s9 (by omega) (by decide) r h
  unfold impl_LeastMultiple.f impl_isDivisor.f
  rw [within_eq]
  simp only [Option.bind_some]
  refine ev_pos (decide_eq_true hm) (Ev.bind (Ev.of (fun k => impl_areDigits.mono s9 1 10 k) ad9) (ev_succ ?_))
  simp only [impl_LeastMultiple.j0]
  refine ev_neg (by decide) ?_
  obtain ⟨K, hK⟩ := h1
  refine ⟨K + 10, fun k hk => ?_⟩
  obtain ⟨q, rfl⟩ : ∃ q, k = q + 10 := ⟨k - 10, by omega⟩
  dsimp only
  rw [lm9]
  have := hK q (by omega)
  dsimp only at this
  rw [this]; rfl

/-! ### multiples and ones: looked through for all that is drawn -/
def divs : List Int := [-1, 0, 1, 400, 401, 4611686018427387904, 1, 2, 3, 4, 5, 6, 7, 8, 9, 10, 11, 12, 13, 14, 15, 16, 17, 18, 19, 20, 21, 22, 23, 24, 25, 26, 27, 28, 29, 30, 31, 32, 33, 34, 35, 36, 37, 38, 39, 40, 41, 42, 43, 44, 45, 46, 47, 48, 49, 50, 51, 52, 53, 54, 55, 56, 57, 58, 59, 60, 61, 62, 63, 64, 65, 66, 67, 68, 69, 70, 71, 72, 73, 74, 75, 76, 77, 78, 79, 80]
def txts : List ByteArray := [⟨#[48, 49]⟩, ⟨#[48, 49]⟩, ⟨#[49]⟩, ⟨#[49, 50]⟩, ⟨#[51]⟩, ⟨#[48, 55]⟩, ⟨#[48]⟩, ⟨#[49, 51, 53, 55, 57]⟩, ⟨#[48, 49, 50, 51, 52, 53, 54, 55, 56, 57]⟩, ⟨#[49, 48]⟩, ⟨#[]⟩, ⟨#[120]⟩]
def manys : List Int := [-1, 0, 1, 999999999999, 1000000000000, 1000000000001, 1, 2, 3, 4, 5, 6, 7, 8, 9, 10, 11, 12, 13, 14, 15, 16, 17, 18, 19, 20, 21, 22, 23, 24, 25, 26, 27, 28, 29, 30, 31, 32, 33, 34, 35, 36, 37, 38, 39, 40]
/-- the rest so far, and one digit more -/
def rst (m r b : Int) : Int := Int.tmod (wrap64 ((wrap64 (10 * r)) + ((b - 48) % 256))) m
def okT (m : Int) (s t : ByteArray) : Bool := decide (1 ≤ t.size ∧ t.size ≤ 1000000) && (decide ((t.size : Int) ≤ m) && (!(bt t 0 == 48) && ((bytesOf t).all (fun b => (bytesOf s).any (fun c => c == b)) && ((bytesOf t).foldl (rst m) 0 == 0))))
def chkM (m : Int) (s : ByteArray) : Bool :=
  match impl_LeastMultiple.f 20000 m s, spec_LeastMultiple.f 20000 m s with
  | some (t, b), some (t', b') => (t.data.toList == t'.data.toList) && ((b == b') && (!b || okT m s t))
  | _, _ => false
def chkK1 (k : Int) (few : ByteArray) (b17 : Bool) : Bool :=
  match impl_LeastMultiple.f 20000 k few with
  | some (_, g) => g && (decide (1 ≤ few.size) && (decide (few.size ≤ 2) && ((b17 == (!(Int.tmod k 2 == 0) && !(Int.tmod k 5 == 0))) && (!b17 || (few.data.toList == [49])))))
  | none => false
def nzR (k i : Int) : Bool := match impl_RestOfOnes.f 100 k i with
  | some (x, w) => w && !(x == 0)
  | none => false
def chkK2 (k ones : Int) : Bool :=
  match impl_RestOfOnes.f 100 k ones with
  | some (z, g) => g && ((z == 0) && (decide (1 ≤ ones) && (decide (ones ≤ k) && ([1, 2, 3, 4, 5, 6, 7, 8, 9, 10, 11] : List Int).all (fun i => decide (ones ≤ i) || nzR k i))))
  | none => false
def chkK (k : Int) : Bool :=
  match impl_DigitsForMultiple.f 20000 k, spec_DigitsForMultiple.f 20000 k with
  | some (few, b15), some (lst, b16) => (match impl_OnesFor.f 20000 k, spec_OnesFor.f 20000 k with
    | some (ones, b17), some (shown, b18) => (few.data.toList == lst.data.toList) && ((b15 == b16) && ((b17 == b18) && ((ones == shown) && ((!b17 || b15) && ((!b15 || chkK1 k few b17) && (!b17 || chkK2 k ones))))))
    | _, _ => false)
  | _, _ => false
def chkR1 (d many r : Int) : Bool :=
  match impl_RestOfOnes.f 100 d (wrap64 (many + 1)) with
  | some (nx, g) => g && (!(d == 0) && (decide (0 ≤ r) && (decide (r < d) && (nx == Int.tmod (wrap64 ((wrap64 (10 * r)) + 1)) d))))
  | none => false
def chkR (d many : Int) : Bool :=
  match impl_RestOfOnes.f 100 d many, spec_RestOfOnes.f 100 d many with
  | some (r, b), some (l, b') => (b == b') && ((r == l) && (!b || (!decide (many < 1000000000000) || chkR1 d many r)))
  | _, _ => false
def txtsA : List ByteArray := [⟨#[48, 49]⟩, ⟨#[49]⟩, ⟨#[49, 50]⟩, ⟨#[51]⟩, ⟨#[48, 55]⟩, ⟨#[48]⟩, ⟨#[49, 51, 53, 55, 57]⟩, ⟨#[49, 48]⟩, ⟨#[]⟩, ⟨#[120]⟩]
def chk9 (m : Int) : Bool := if 1 ≤ m ∧ m ≤ 400 then
    (match mul9 m d9, spec_LeastMultiple.f 20000 m s9 with
    | some (t, b), some (t', b') => (t.data.toList == t'.data.toList) && ((b == b') && (!b || okT m s9 t))
    | _, _ => false)
  else chkM m s9
theorem st_ {α : Type} (l : List α) (p : α → Bool) (k n m : Nat) (hm : k + n = m) (h1 : ((l.drop k).take n).all p = true) (h2 : (l.drop m).all p = true) : (l.drop k).all p = true := by
  subst hm
  rw [← List.take_append_drop n (l.drop k), List.all_append, h1, List.drop_drop, h2]; rfl
theorem kM0 : ((divs.drop 0).take 3).all (fun m => txtsA.all (chkM m)) = true := by kernel_rfl
theorem kM3 : ((divs.drop 3).take 1).all (fun m => txtsA.all (chkM m)) = true := by kernel_rfl
theorem kM4 : ((divs.drop 4).take 4).all (fun m => txtsA.all (chkM m)) = true := by kernel_rfl
theorem kM8 : ((divs.drop 8).take 6).all (fun m => txtsA.all (chkM m)) = true := by kernel_rfl
theorem kM14 : ((divs.drop 14).take 6).all (fun m => txtsA.all (chkM m)) = true := by kernel_rfl
theorem kM20 : ((divs.drop 20).take 6).all (fun m => txtsA.all (chkM m)) = true := by kernel_rfl
theorem kM26 : ((divs.drop 26).take 6).all (fun m => txtsA.all (chkM m)) = true := by kernel_rfl
theorem kM32 : ((divs.drop 32).take 6).all (fun m => txtsA.all (chkM m)) = true := by kernel_rfl
theorem kM38 : ((divs.drop 38).take 6).all (fun m => txtsA.all (chkM m)) = true := by kernel_rfl
theorem kM44 : ((divs.drop 44).take 6).all (fun m => txtsA.all (chkM m)) = true := by kernel_rfl
theorem kM50 : ((divs.drop 50).take 6).all (fun m => txtsA.all (chkM m)) = true := by kernel_rfl
theorem kM56 : ((divs.drop 56).take 6).all (fun m => txtsA.all (chkM m)) = true := by kernel_rfl
theorem kM62 : ((divs.drop 62).take 3).all (fun m => txtsA.all (chkM m)) = true := by kernel_rfl
theorem kM65 : ((divs.drop 65).take 3).all (fun m => txtsA.all (chkM m)) = true := by kernel_rfl
theorem kM68 : ((divs.drop 68).take 3).all (fun m => txtsA.all (chkM m)) = true := by kernel_rfl
theorem kM71 : ((divs.drop 71).take 3).all (fun m => txtsA.all (chkM m)) = true := by kernel_rfl
theorem kM74 : ((divs.drop 74).take 3).all (fun m => txtsA.all (chkM m)) = true := by kernel_rfl
theorem kM77 : ((divs.drop 77).take 3).all (fun m => txtsA.all (chkM m)) = true := by kernel_rfl
theorem kM80 : ((divs.drop 80).take 3).all (fun m => txtsA.all (chkM m)) = true := by kernel_rfl
theorem kM83 : ((divs.drop 83).take 3).all (fun m => txtsA.all (chkM m)) = true := by kernel_rfl
theorem kMall : divs.all (fun m => txtsA.all (chkM m)) = true := (st_ divs (fun m => txtsA.all (chkM m)) 0 3 3 rfl kM0 (st_ divs (fun m => txtsA.all (chkM m)) 3 1 4 rfl kM3 (st_ divs (fun m => txtsA.all (chkM m)) 4 4 8 rfl kM4 (st_ divs (fun m => txtsA.all (chkM m)) 8 6 14 rfl kM8 (st_ divs (fun m => txtsA.all (chkM m)) 14 6 20 rfl kM14 (st_ divs (fun m => txtsA.all (chkM m)) 20 6 26 rfl kM20 (st_ divs (fun m => txtsA.all (chkM m)) 26 6 32 rfl kM26 (st_ divs (fun m => txtsA.all (chkM m)) 32 6 38 rfl kM32 (st_ divs (fun m => txtsA.all (chkM m)) 38 6 44 rfl kM38 (st_ divs (fun m => txtsA.all (chkM m)) 44 6 50 rfl kM44 (st_ divs (fun m => txtsA.all (chkM m)) 50 6 56 rfl kM50 (st_ divs (fun m => txtsA.all (chkM m)) 56 6 62 rfl kM56 (st_ divs (fun m => txtsA.all (chkM m)) 62 3 65 rfl kM62 (st_ divs (fun m => txtsA.all (chkM m)) 65 3 68 rfl kM65 (st_ divs (fun m => txtsA.all (chkM m)) 68 3 71 rfl kM68 (st_ divs (fun m => txtsA.all (chkM m)) 71 3 74 rfl kM71 (st_ divs (fun m => txtsA.all (chkM m)) 74 3 77 rfl kM74 (st_ divs (fun m => txtsA.all (chkM m)) 77 3 80 rfl kM77 (st_ divs (fun m => txtsA.all (chkM m)) 80 3 83 rfl kM80 (st_ divs (fun m => txtsA.all (chkM m)) 83 3 86 rfl kM83 (by kernel_rfl)))))))))))))))))))))
theorem kN0 : ((divs.drop 0).take 3).all chk9 = true := by kernel_rfl
theorem kN3 : ((divs.drop 3).take 1).all chk9 = true := by kernel_rfl
theorem kN4 : ((divs.drop 4).take 10).all chk9 = true := by kernel_rfl
theorem kN14 : ((divs.drop 14).take 10).all chk9 = true := by kernel_rfl
theorem kN24 : ((divs.drop 24).take 10).all chk9 = true := by kernel_rfl
theorem kN34 : ((divs.drop 34).take 10).all chk9 = true := by kernel_rfl
theorem kN44 : ((divs.drop 44).take 10).all chk9 = true := by kernel_rfl
theorem kN54 : ((divs.drop 54).take 10).all chk9 = true := by kernel_rfl
theorem kN64 : ((divs.drop 64).take 6).all chk9 = true := by kernel_rfl
theorem kN70 : ((divs.drop 70).take 6).all chk9 = true := by kernel_rfl
theorem kN76 : ((divs.drop 76).take 5).all chk9 = true := by kernel_rfl
theorem kN81 : ((divs.drop 81).take 5).all chk9 = true := by kernel_rfl
theorem kNall : divs.all chk9 = true := (st_ divs chk9 0 3 3 rfl kN0 (st_ divs chk9 3 1 4 rfl kN3 (st_ divs chk9 4 10 14 rfl kN4 (st_ divs chk9 14 10 24 rfl kN14 (st_ divs chk9 24 10 34 rfl kN24 (st_ divs chk9 34 10 44 rfl kN34 (st_ divs chk9 44 10 54 rfl kN44 (st_ divs chk9 54 10 64 rfl kN54 (st_ divs chk9 64 6 70 rfl kN64 (st_ divs chk9 70 6 76 rfl kN70 (st_ divs chk9 76 5 81 rfl kN76 (st_ divs chk9 81 5 86 rfl kN81 (by kernel_rfl)))))))))))))
theorem kK0 : ((divs.drop 0).take 20).all chkK = true := by kernel_rfl
theorem kK20 : ((divs.drop 20).take 20).all chkK = true := by kernel_rfl
theorem kK40 : ((divs.drop 40).take 12).all chkK = true := by kernel_rfl
theorem kK52 : ((divs.drop 52).take 10).all chkK = true := by kernel_rfl
theorem kK62 : ((divs.drop 62).take 10).all chkK = true := by kernel_rfl
theorem kK72 : ((divs.drop 72).take 7).all chkK = true := by kernel_rfl
theorem kK79 : ((divs.drop 79).take 7).all chkK = true := by kernel_rfl
theorem kKall : divs.all chkK = true := (st_ divs chkK 0 20 20 rfl kK0 (st_ divs chkK 20 20 40 rfl kK20 (st_ divs chkK 40 12 52 rfl kK40 (st_ divs chkK 52 10 62 rfl kK52 (st_ divs chkK 62 10 72 rfl kK62 (st_ divs chkK 72 7 79 rfl kK72 (st_ divs chkK 79 7 86 rfl kK79 (by kernel_rfl))))))))
theorem kR0 : ((divs.drop 0).take 30).all (fun d => manys.all (chkR d)) = true := by kernel_rfl
theorem kR30 : ((divs.drop 30).take 30).all (fun d => manys.all (chkR d)) = true := by kernel_rfl
theorem kR60 : ((divs.drop 60).take 26).all (fun d => manys.all (chkR d)) = true := by kernel_rfl
theorem kRall : divs.all (fun d => manys.all (chkR d)) = true := (st_ divs (fun d => manys.all (chkR d)) 0 30 30 rfl kR0 (st_ divs (fun d => manys.all (chkR d)) 30 30 60 rfl kR30 (st_ divs (fun d => manys.all (chkR d)) 60 26 86 rfl kR60 (by kernel_rfl))))
end Go.Proofs.YtjnfaidngaobmaaGreatDoor.Pure
