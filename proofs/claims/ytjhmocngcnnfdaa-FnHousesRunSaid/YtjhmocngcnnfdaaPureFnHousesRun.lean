/- HousesRun: program and reference tell the same of every sum (lists and numbers alone). -/
import Derived.Laws.Bits64b
import Derived.Test.YtjhmocngcnnfdaaPFnHousesRunx6
namespace Go.Proofs.Ytjhmocngcnnfdaa.Pure
open Go.RowKit Go.Proofs.Ytjhmocngcnnfdaa.PFnHousesRun Go.Proofs.YtjhmocngcnnfdaaW.PrintWords Go.Proofs.YtjhmocngcnnfdaaW.PrintLast
set_option linter.unusedVariables false
set_option linter.unusedSimpArgs false

theorem wrap_of {x : Int} (h0 : -9223372036854775808 ≤ x) (h1 : x ≤ 9223372036854775807) : wrap64 x = x := by unfold wrap64; omega
theorem wrap_nat {i : Nat} (h : i < 4611686018427387904) : wrap64 ((i : Int) + 1) = ((i + 1 : Nat) : Int) := by unfold wrap64; omega
theorem ev_eq {α : Type} {g : Nat → Option α} {r : α} (h : ∀ k, g k = some r) : Ev g r := ⟨0, fun k _ => h k⟩
theorem ev_bind {α β : Type} {x : Option α} {f : Nat → α → Option β} {a : α} {r : β} (h : x = some a) (k : Ev (fun n => f n a) r) : Ev (fun n => x.bind (f n)) r := by subst h; exact k
theorem ev_pos {α : Type} {c : Prop} [Decidable c] {g f : Nat → Option α} {r : α} (h : c) (k : Ev g r) : Ev (fun n => if c then g n else f n) r := by simp only [if_pos h]; exact k
theorem ev_neg {α : Type} {c : Prop} [Decidable c] {g f : Nat → Option α} {r : α} (h : ¬ c) (k : Ev f r) : Ev (fun n => if c then g n else f n) r := by simp only [if_neg h]; exact k
theorem ev_from {α : Type} {g : Nat → Option α} {r : α} (K : Nat) (h : ∀ k, K ≤ k → g k = some r) : Ev g r := ⟨K, h⟩

/-! ### bytes of a text -/
theorem size_len (t : ByteArray) : t.data.toList.length = t.size := by rw [Array.length_toList]; rfl
theorem bt_get (t : ByteArray) (i : Nat) (h : i < t.data.toList.length) : bt t (i : Int) = ((t.data.toList[i]).toNat : Int) := by
  unfold bt
  rw [dif_pos (by rw [Int.toNat_natCast]; simpa using h)]
  simp only [Int.toNat_natCast]
  rfl
theorem ev_succ {α : Type} {g : Nat → Option α} {r : α} (h : Ev (fun k => g (k + 1)) r) : Ev g r := by
  obtain ⟨K, hK⟩ := h
  refine ev_from (K + 1) (fun k hk => ?_)
  obtain ⟨k, rfl⟩ : ∃ m, k = m + 1 := ⟨k - 1, by omega⟩
  exact hK k (by omega)
theorem ext_list (s : ByteArray) (a b : Nat) (hb : b ≤ s.size) : (s.extract a b).data.toList = (s.data.toList.take b).drop a := by
  rw [ByteArray.data_extract, Array.toList_extract, List.extract_eq_take_drop]
  rw [List.drop_take]
theorem take_list (s : ByteArray) (i : Nat) (h : i ≤ s.size) : (s.extract 0 i).data.toList = s.data.toList.take i := by rw [ext_list s 0 i h]; rfl
theorem drop_list (s : ByteArray) (i : Nat) : (s.extract i s.size).data.toList = s.data.toList.drop i := by
  rw [ext_list s i s.size (Nat.le_refl _), List.take_of_length_le (by rw [size_len]; exact Nat.le_refl _)]
theorem mk_data (s : ByteArray) : (⟨s.data.toList.toArray⟩ : ByteArray) = s := by cases s; simp
theorem of_list {s : ByteArray} {l : List UInt8} (h : s.data.toList = l) : s = ⟨l.toArray⟩ := by rw [← h, mk_data]
theorem list_of (l : List UInt8) : (⟨l.toArray⟩ : ByteArray).data.toList = l := by simp
theorem mk_size (l : List UInt8) : (⟨l.toArray⟩ : ByteArray).size = l.length := by rw [← size_len, list_of]
theorem mk_append (a b : List UInt8) : (⟨a.toArray⟩ : ByteArray) ++ ⟨b.toArray⟩ = ⟨(a ++ b).toArray⟩ := by
  apply of_list; rw [ByteArray.data_append, Array.toList_append, list_of, list_of]
theorem l1In_eq (n lo hi : Int) : spec_l1In.f n lo hi = some (decide (lo ≤ n ∧ n ≤ hi)) := by
  unfold spec_l1In.f
  by_cases h : n ≥ lo
  · rw [if_pos h]; congr 1; simp; intro _; omega
  · rw [if_neg h]; congr 1; simp; intro; omega
theorem within_eq (n lo hi : Int) : impl_within.f n lo hi = some (decide (lo ≤ n ∧ n ≤ hi)) := by
  unfold impl_within.f
  by_cases h : lo ≤ n
  · rw [if_pos h]; congr 1; simp; intro _; omega
  · rw [if_neg h]; congr 1; simp; intro; omega

/-! ### sums, streets -/
def tri (n : Int) : Int := n * (n + 1) / 2
theorem tri_two (n : Int) : 2 * tri n = n * (n + 1) := by
  unfold tri
  have : n * (n + 1) % 2 = 0 := by
    rw [Int.mul_emod]
    have : n % 2 = 0 ∨ n % 2 = 1 := by omega
    rcases this with h | h
    · rw [h]; simp
    · have h2 : (n + 1) % 2 = 0 := by omega
      rw [h2]; simp
  omega
theorem tri_step (n : Int) : tri (n + 1) = tri n + (n + 1) := by
  have h1 := tri_two n
  have h2 := tri_two (n + 1)
  have : (n + 1) * (n + 1 + 1) = n * (n + 1) + 2 * (n + 1) := by grind
  omega
theorem tri_zero : tri 0 = 0 := rfl
theorem mul_big {a b m n : Int} (h0 : 0 ≤ a) (h1 : a ≤ m) (h2 : 0 ≤ b) (h3 : b ≤ n) : 0 ≤ a * b ∧ a * b ≤ m * n :=
  ⟨Int.mul_nonneg h0 h2, Int.mul_le_mul h1 h3 h2 (by omega)⟩
theorem tri_bound {n : Int} (h0 : 0 ≤ n) (h : n ≤ 2000000) : 0 ≤ tri n ∧ tri n ≤ 2000001000000 := by
  have h1 := tri_two n
  have h2 := mul_big h0 h (show (0 : Int) ≤ n + 1 by omega) (show n + 1 ≤ 2000001 by omega)
  omega
theorem tri_mono {m n : Int} (h0 : 0 ≤ m) (h : m ≤ n) : tri m ≤ tri n := by
  have h1 := tri_two m
  have h2 := tri_two n
  have : m * (m + 1) ≤ n * (n + 1) := Int.mul_le_mul h (by omega) (by omega) (by omega)
  omega
theorem tri_lt {m n : Int} (h0 : 0 ≤ m) (h : m < n) : tri m < tri n := by
  have := tri_mono (m := m + 1) (n := n) (by omega) (by omega)
  rw [tri_step] at this
  omega
theorem upTo_eq {n : Int} (h0 : 0 ≤ n) (h : n ≤ 2000000) : impl_upTo.f n = some (tri n) := by
  unfold impl_upTo.f
  have h2 := mul_big h0 h (show (0 : Int) ≤ n + 1 by omega) (show n + 1 ≤ 2000001 by omega)
  have h3 := tri_bound h0 h
  rw [wrap_of (x := n + 1) (by omega) (by omega), wrap_of (x := n * (n + 1)) (by omega) (by omega), Int.tdiv_eq_ediv_of_nonneg h2.1]
  congr 1
  exact wrap_of (x := n * (n + 1) / 2) (by unfold tri at h3; omega) (by unfold tri at h3; omega)
def St (a b : Int) : Prop := 1 ≤ a ∧ a ≤ b ∧ b ≤ 1000000
instance (a b : Int) : Decidable (St a b) := inferInstanceAs (Decidable (_ ∧ _ ∧ _))
theorem isHouse_eq (n : Int) : impl_isHouse.f n = some (decide (1 ≤ n ∧ n ≤ 1000000)) := by
  unfold impl_isHouse.f; rw [within_eq]; rfl
theorem isStreet_eq (a b : Int) : impl_isStreet.f a b = some (decide (St a b)) := by
  unfold impl_isStreet.f
  rw [within_eq, isHouse_eq]
  simp only [Option.bind_some]
  unfold St
  by_cases h : 1 ≤ a ∧ a ≤ b
  · rw [if_pos (by simpa using h)]; exact congrArg some (decide_eq_decide.mpr ⟨fun x => ⟨h.1, h.2, x.2⟩, fun x => ⟨by omega, x.2.2⟩⟩)
  · rw [if_neg (by simpa using h)]; exact congrArg some (decide_eq_false (fun x => h ⟨x.1, x.2.1⟩)).symm
theorem hoMost_eq (n : Int) : spec_hoMost.f n = some (decide (1 ≤ n ∧ n ≤ 1000000)) := by
  unfold spec_hoMost.f; rw [l1In_eq]; rfl
/-- the sum of the numbers from a to b (0 if none) -/
theorem hoSum_eq {a b : Int} (h0 : 1 ≤ a) (h1 : a ≤ b + 1) (h : b ≤ 1000000) : spec_hoSum.f a b = some (tri b - tri (a - 1)) := by
  unfold spec_hoSum.f
  by_cases c : b < a
  · rw [if_pos c]
    have : b = a - 1 := by omega
    subst this
    congr 1; omega
  · rw [if_neg c]
    have t1 := tri_two b
    have t2 := tri_two (a - 1)
    have e : (a + b) * (b - a + 1) = b * (b + 1) - (a - 1) * (a - 1 + 1) := by grind
    have h2 := mul_big (show (0 : Int) ≤ a + b by omega) (show a + b ≤ 2000000 by omega) (show (0 : Int) ≤ b - a + 1 by omega) (show b - a + 1 ≤ 1000000 by omega)
    rw [wrap_of (x := a + b) (by omega) (by omega), wrap_of (x := b - a) (by omega) (by omega), wrap_of (x := b - a + 1) (by omega) (by omega), wrap_of (x := (a + b) * (b - a + 1)) (by omega) (by omega), Int.tdiv_eq_ediv_of_nonneg h2.1]
    congr 1
    rw [wrap_of (by omega) (by omega)]
    omega
/-- the sum of a street in steps -/
def sumH (a b s : Int) : Int := ((b - a) / s + 1) * a + s * tri ((b - a) / s)
theorem div_bound {x s : Int} (h0 : 0 ≤ x) (hs : 1 ≤ s) : 0 ≤ x / s ∧ x / s ≤ x ∧ s * (x / s) ≤ x := by
  refine ⟨Int.ediv_nonneg h0 (by omega), ?_, Int.mul_ediv_self_le (by omega)⟩
  exact Int.ediv_le_self _ h0
theorem sumH_bound {a b s : Int} (h : St a b) (hs : 1 ≤ s) : 0 ≤ s * tri ((b - a) / s) ∧ s * tri ((b - a) / s) ≤ 1000001000000 ∧ 0 ≤ ((b - a) / s + 1) * a ∧ ((b - a) / s + 1) * a ≤ 1000001000000 := by
  obtain ⟨h1, h2, h3⟩ := h
  obtain ⟨d0, d1, d2⟩ := div_bound (x := b - a) (s := s) (by omega) hs
  generalize (b - a) / s = m at *
  have t := tri_two m
  have p1 := mul_big (show (0 : Int) ≤ s * m by exact Int.mul_nonneg (by omega) d0) (show s * m ≤ 1000000 by omega) (show (0 : Int) ≤ m + 1 by omega) (show m + 1 ≤ 1000001 by omega)
  have e : 2 * (s * tri m) = s * m * (m + 1) := by grind
  have p2 := mul_big (show (0 : Int) ≤ m + 1 by omega) (show m + 1 ≤ 1000001 by omega) (show (0 : Int) ≤ a by omega) (show a ≤ 1000000 by omega)
  refine ⟨by omega, by omega, p2.1, by omega⟩
def sumO (a b s : Int) : Int × Bool := if St a b ∧ 1 ≤ s ∧ s ≤ 1000000 then (sumH a b s, true) else (0, false)
theorem implSum_eq (a b s : Int) : impl_SumOfHouses.f a b s = some (sumO a b s) := by
  unfold impl_SumOfHouses.f sumO
  rw [isStreet_eq, isHouse_eq]
  simp only [Option.bind_some]
  by_cases h : St a b
  · rw [if_pos (by simpa using h)]
    by_cases hs : 1 ≤ s ∧ s ≤ 1000000
    · rw [if_pos (by simpa using hs), if_neg (show ¬ s = 0 by omega), if_pos (show St a b ∧ 1 ≤ s ∧ s ≤ 1000000 from ⟨h, hs⟩)]
      obtain ⟨h1, h2, h3⟩ := id h
      obtain ⟨d0, d1, d2⟩ := div_bound (x := b - a) (s := s) (by omega) hs.1
      obtain ⟨b1, b2, b3, b4⟩ := sumH_bound h hs.1
      rw [wrap_of (x := b - a) (by omega) (by omega), Int.tdiv_eq_ediv_of_nonneg (show 0 ≤ b - a by omega), wrap_of (x := (b - a) / s) (by omega) (by omega), wrap_of (x := (b - a) / s + 1) (by omega) (by omega), show (b - a) / s + 1 - 1 = (b - a) / s by omega, wrap_of (x := (b - a) / s) (by omega) (by omega), upTo_eq d0 (by omega)]
      simp only [Option.bind_some]
      rw [wrap_of (x := ((b - a) / s + 1) * a) (by omega) (by omega), wrap_of (x := s * tri ((b - a) / s)) (by omega) (by omega), wrap_of (by omega) (by omega)]
      rfl
    · rw [if_neg (by simpa using hs), if_neg (fun x => hs x.2)]
  · rw [if_neg (by simpa using h), if_neg (fun x => h x.1)]
theorem sumH_one (a b : Int) : sumH a b 1 = tri b - tri (a - 1) := by
  unfold sumH
  rw [Int.ediv_one, Int.one_mul]
  have t1 := tri_two b
  have t2 := tri_two (a - 1)
  have t3 := tri_two (b - a)
  have : 2 * ((b - a + 1) * a) + (b - a) * (b - a + 1) = b * (b + 1) - (a - 1) * (a - 1 + 1) := by grind
  omega
theorem lastFor_loop (a s : Int) (ha : 1 ≤ a ∧ a ≤ 1000000) : ∀ (d : Nat) (lo hi : Int), (hi - lo).toNat = d → a ≤ lo → lo ≤ hi → hi ≤ 1000001 → (∀ x, a ≤ x → x < lo → tri x - tri (a - 1) < s) → (hi = 1000001 ∨ tri hi - tri (a - 1) ≥ s) →
    ∃ r, Ev (fun k => impl_lastFor.l0 k a s lo hi) r ∧ lo ≤ r ∧ r ≤ hi ∧ (∀ x, a ≤ x → x < r → tri x - tri (a - 1) < s) ∧ (r = 1000001 ∨ tri r - tri (a - 1) ≥ s) := by
  intro d
  induction d using Nat.strongRecOn with
  | _ d ih =>
    intro lo hi hd h0 hle hb h1 h2
    have ta := tri_bound (n := a - 1) (by omega) (by omega)
    by_cases c : lo < hi
    · have hm : lo ≤ (lo + hi) / 2 ∧ (lo + hi) / 2 < hi := by omega
      have e : wrap64 (Int.tdiv (wrap64 (lo + hi)) 2) = (lo + hi) / 2 := by
        rw [wrap_of (x := lo + hi) (by omega) (by omega), Int.tdiv_eq_ediv_of_nonneg (by omega)]
        exact wrap_of (by omega) (by omega)
      generalize hmid : (lo + hi) / 2 = m at *
      have tm := tri_bound (n := m) (by omega) (by omega)
      by_cases c2 : tri m - tri (a - 1) ≥ s
      · obtain ⟨r, hr, g1, g2, g3⟩ := ih (m - lo).toNat (by omega) lo m rfl h0 hm.1 (by omega) h1 (.inr c2)
        refine ⟨r, ev_succ ?_, g1, by omega, g3⟩
        simp only [impl_lastFor.l0]
        rw [e, wrap_of (x := a - 1) (by omega) (by omega), upTo_eq (n := m) (by omega) (by omega), upTo_eq (n := a - 1) (by omega) (by omega)]
        simp only [Option.bind_some]
        rw [wrap_of (x := tri m - tri (a - 1)) (by omega) (by omega)]
        exact ev_pos c (ev_pos c2 hr)
      · obtain ⟨r, hr, g1, g2, g3⟩ := ih (hi - (m + 1)).toNat (by omega) (m + 1) hi rfl (by omega) (by omega) hb (fun x hx hx2 => by
          by_cases cx : x < lo
          · exact h1 x hx cx
          · have := tri_mono (m := x) (n := m) (by omega) (by omega); omega) h2
        refine ⟨r, ev_succ ?_, by omega, g2, g3⟩
        simp only [impl_lastFor.l0]
        rw [e, wrap_of (x := a - 1) (by omega) (by omega), upTo_eq (n := m) (by omega) (by omega), upTo_eq (n := a - 1) (by omega) (by omega)]
        simp only [Option.bind_some]
        rw [wrap_of (x := tri m - tri (a - 1)) (by omega) (by omega), wrap_of (x := m + 1) (by omega) (by omega)]
        exact ev_pos c (ev_neg c2 hr)
    · have : lo = hi := by omega
      subst this
      refine ⟨lo, ev_succ ?_, by omega, by omega, h1, h2⟩
      simp only [impl_lastFor.l0]
      exact ev_neg c (ev_eq fun _ => rfl)
theorem lastFor_ev (a s : Int) (ha : 1 ≤ a ∧ a ≤ 1000000) : ∃ r, Ev (fun k => impl_lastFor.f k a s) r ∧ a ≤ r ∧ r ≤ 1000001 ∧ (∀ x, a ≤ x → x < r → tri x - tri (a - 1) < s) ∧ (r = 1000001 ∨ tri r - tri (a - 1) ≥ s) :=
  lastFor_loop a s ha _ a 1000001 rfl (by omega) (by omega) (by omega) (fun x h1 h2 => by omega) (.inl rfl)

/-! ### choices out of bytes: each of them is made -/
def Bytes (l : List Int) : Prop := ∀ x ∈ l, (Lit.int .u8 x).wf = true
theorem byte_range {l : List Int} (h : Bytes l) {i : Int} (h0 : 0 ≤ i) (h1 : i < (l.length : Int)) : 0 ≤ rd l i ∧ rd l i ≤ 255 := by
  have hm : rd l i ∈ l := by
    unfold rd
    rw [List.getD_eq_getElem?_getD, List.getElem?_eq_getElem (by omega)]
    exact List.getElem_mem _
  have := h _ hm
  have h2 := by simpa only [Lit.wf, Bool.and_eq_true, decide_eq_true_eq] using this
  exact ⟨h2.1, h2.2⟩
theorem and255 (x : Int) (h0 : 0 ≤ x) (h1 : x < 18446744073709551616) : 0 ≤ Go.bits .and .u64 x 255 ∧ Go.bits .and .u64 x 255 ≤ 255 := by
  obtain ⟨n, rfl⟩ : ∃ n : Nat, x = (n : Int) := ⟨x.toNat, by omega⟩
  have h := bits_and_u64_nat n 255 (by omega) (by omega)
  have h2 := Nat.and_le_right (n := n) (m := 255)
  rw [show ((255 : Nat) : Int) = 255 from rfl] at h
  rw [h]
  omega
theorem u64_range (x : Int) : 0 ≤ IntKind.u64.wrap x ∧ IntKind.u64.wrap x < 18446744073709551616 := by
  rw [IntKind.wrap_u64]; omega
theorem tail255 (x : Int) : ∃ v, wrap64 (Go.bits .and .u64 (IntKind.u64.wrap x / 1099511627776) 255) = v ∧ 0 ≤ v ∧ v ≤ 255 := by
  have h := u64_range x
  have h2 := and255 (IntKind.u64.wrap x / 1099511627776) (by omega) (by omega)
  exact ⟨_, wrap_of (by omega) (by omega), h2.1, h2.2⟩
theorem next_ok (l : List Int) (hl : Bytes l) (a s : Int) (h0 : 0 ≤ a) (h1 : a ≤ 1000000000000) : ∃ v s', spec_l1Cur_next.f l a s = some (v, a + 1, s') ∧ 0 ≤ v ∧ v ≤ 255 := by
  unfold spec_l1Cur_next.f
  have hw : wrap64 (a + 1) = a + 1 := wrap_of (by omega) (by omega)
  rw [hw]
  by_cases c : a < (l.length : Int)
  · have hb := byte_range hl h0 c
    rw [if_pos c, if_pos h0, if_pos (by omega), wrap_of (x := rd l a) (by omega) (by omega)]
    exact ⟨_, _, rfl, hb.1, hb.2⟩
  · rw [if_neg c, if_neg (by omega)]
    obtain ⟨v, hv, g⟩ := tail255 (IntKind.u64.wrap (IntKind.u64.wrap (s * 6364136223846793005)) + 1442695040888963407)
    rw [hv]
    exact ⟨v, _, rfl, g.1, g.2⟩
theorem tmod_range {x n : Int} (h0 : 0 ≤ x) (hn : 0 < n) : 0 ≤ Int.tmod x n ∧ Int.tmod x n < n := by
  rw [Int.tmod_eq_emod_of_nonneg h0]
  exact ⟨Int.emod_nonneg _ (by omega), Int.emod_lt_of_pos _ hn⟩
theorem pick_ok (l : List Int) (hl : Bytes l) (a s n : Int) (h0 : 0 ≤ a) (h1 : a ≤ 900000000000) : ∃ v a' s', spec_l1Cur_pick.f l a s n = some (v, a', s') ∧ 0 ≤ v ∧ (v < n ∨ v = 0) ∧ a ≤ a' ∧ a' ≤ a + 2 := by
  unfold spec_l1Cur_pick.f
  by_cases c : n ≤ 1
  · rw [if_pos c]
    exact ⟨0, a, s, rfl, Int.le_refl 0, .inr rfl, Int.le_refl a, by omega⟩
  · rw [if_neg c]
    obtain ⟨v, s1, hv, v0, v1⟩ := next_ok l hl a s h0 (by omega)
    rw [hv]
    simp only [Option.bind_some]
    by_cases c2 : n > 200
    · rw [if_pos c2]
      obtain ⟨u, s2, hu, u0, u1⟩ := next_ok l hl (a + 1) s1 (by omega) (by omega)
      rw [hu]
      simp only [Option.bind_some]
      rw [if_neg (by omega), wrap_of (x := v * 256) (by omega) (by omega), wrap_of (x := v * 256 + u) (by omega) (by omega)]
      have ht := tmod_range (x := v * 256 + u) (n := n) (by omega) (by omega)
      exact ⟨_, _, _, rfl, ht.1, .inl ht.2, by omega, by omega⟩
    · rw [if_neg c2, if_neg (by omega)]
      have ht := tmod_range (x := v) (n := n) v0 (by omega)
      exact ⟨_, _, _, rfl, ht.1, .inl ht.2, by omega, by omega⟩
theorem one_ok (l : List Int) (hl : Bytes l) (a s n : Int) (h0 : 0 ≤ a) (h1 : a ≤ 900000000000) : ∃ v a' s', spec_l1Cur_one.f l a s n = some (v, a', s') ∧ a ≤ a' ∧ a' ≤ a + 2 := by
  unfold spec_l1Cur_one.f
  obtain ⟨v, a', s', hv, _, _, g⟩ := pick_ok l hl a s n h0 h1
  rw [hv]
  exact ⟨_, a', s', rfl, g⟩
theorem among_ok (l : List Int) (hl : Bytes l) (a s : Int) (m : List Int) (hm : 0 < m.length) (h0 : 0 ≤ a) (h1 : a ≤ 900000000000) : ∃ v a' s', spec_l1Cur_among.f l a s m = some (v, a', s') ∧ v ∈ m ∧ a ≤ a' ∧ a' ≤ a + 2 := by
  unfold spec_l1Cur_among.f
  obtain ⟨v, a', s', hv, v0, v1, g⟩ := pick_ok l hl a s (m.length : Int) h0 h1
  rw [hv]
  simp only [Option.bind_some]
  have hlt : v < (m.length : Int) := by rcases v1 with h | h <;> omega
  rw [if_pos v0, if_pos hlt]
  refine ⟨_, a', s', rfl, ?_, g⟩
  unfold rd
  rw [List.getD_eq_getElem?_getD, List.getElem?_eq_getElem (by omega)]
  exact List.getElem_mem _

/-! ### houses drawn -/
theorem houseNumber_ok (l : List Int) (hl : Bytes l) (a s : Int) (h0 : 0 ≤ a) (h1 : a ≤ 800000000000) : ∃ v a' s', spec_l1Cur_houseNumber.f l a s = some (v, a', s') ∧ a ≤ a' ∧ a' ≤ a + 10 := by
  unfold spec_l1Cur_houseNumber.f
  obtain ⟨x, a1, s1, hx, _, _, g1, g2⟩ := pick_ok l hl a s 9 h0 (by omega)
  rw [hx]
  simp only [Option.bind_some]
  by_cases c : x = 0
  · rw [if_pos c]
    obtain ⟨y, a2, s2, hy, _, e1, e2⟩ := among_ok l hl a1 s1 [(-1), 0, 1, 8, 49, 999999, 1000000, 1000001, 4611686018427387904] (by decide) (by omega) (by omega)
    rw [hy]
    exact ⟨_, a2, s2, rfl, by omega, by omega⟩
  · rw [if_neg c]
    by_cases c1 : x = 1
    · rw [if_pos c1]
      obtain ⟨y, a2, s2, hy, _, _, e1, e2⟩ := pick_ok l hl a1 s1 250 (by omega) (by omega)
      rw [hy]
      simp only [Option.bind_some]
      obtain ⟨z, a3, s3, hz, _, _, f1, f2⟩ := pick_ok l hl a2 s2 250 (by omega) (by omega)
      rw [hz]
      exact ⟨_, a3, s3, rfl, by omega, by omega⟩
    · rw [if_neg c1]
      obtain ⟨y, a2, s2, hy, _, _, e1, e2⟩ := pick_ok l hl a1 s1 60 (by omega) (by omega)
      rw [hy]
      exact ⟨_, a2, s2, rfl, by omega, by omega⟩
theorem least_def (a b : Int) : ∃ v, spec_l1Least.f a b = some v := by
  unfold spec_l1Least.f; split <;> exact ⟨_, rfl⟩
theorem most_def (a b : Int) : ∃ v, spec_l1Most.f a b = some v := by
  unfold spec_l1Most.f; split <;> exact ⟨_, rfl⟩
theorem drawStreets_ok (l : List Int) (hl : Bytes l) : ∃ v, spec_DrawBalancedStreets.f l = some v := by
  obtain ⟨v, a, s, h, _⟩ := houseNumber_ok l hl 0 0 (by omega) (by omega)
  unfold spec_DrawBalancedStreets.f
  rw [h]
  exact ⟨_, rfl⟩

/-! ### runs with a sum -/
def lft (S t m : Int) : Int := S - t * tri (m - 1)
def Good (S t m : Int) : Prop := 0 < lft S t m ∧ lft S t m % m = 0
instance (S t m : Int) : Decidable (Good S t m) := inferInstanceAs (Decidable (_ ∧ _))
def row (S t m : Int) : List Int := [lft S t m / m, lft S t m / m + t * (m - 1)]
def ml (S t : Int) : Nat → List Int
  | 0 => []
  | j + 1 => if Good S t ((j : Int) + 2) then ((j : Int) + 2) :: ml S t j else ml S t j
def rl (S t : Int) (j : Nat) : List (List Int) := (ml S t j).map (row S t)
theorem rl_pos {S t : Int} {j : Nat} (h : Good S t ((j : Int) + 2)) : rl S t (j + 1) = row S t ((j : Int) + 2) :: rl S t j := by
  unfold rl; rw [ml, if_pos h]; rfl
theorem rl_neg {S t : Int} {j : Nat} (h : ¬ Good S t ((j : Int) + 2)) : rl S t (j + 1) = rl S t j := by
  unfold rl; rw [ml, if_neg h]
theorem ml_len (S t : Int) (j : Nat) : (ml S t j).length ≤ j := by
  induction j with
  | zero => exact Nat.le_refl _
  | succ j ih =>
    rw [ml]
    split
    · rw [List.length_cons]; omega
    · omega
theorem rl_len (S t : Int) (j : Nat) : (rl S t j).length = (ml S t j).length := List.length_map _
/-- no run of so many houses and more -/
theorem good_no {S t m n : Int} (ht : 1 ≤ t) (hm : 2 ≤ m) (h : ¬ m + t * tri (m - 1) ≤ S) (hn : m ≤ n) : ¬ Good S t n := by
  rintro ⟨g1, g2⟩
  have t1 := tri_mono (m := m - 1) (n := n - 1) (by omega) (by omega)
  have t2 : t * tri (m - 1) ≤ t * tri (n - 1) := Int.mul_le_mul_of_nonneg_left t1 (by omega)
  unfold lft at g1 g2
  rw [Int.emod_eq_of_lt (by omega) (by omega)] at g2
  omega
theorem rl_stop {S t : Int} {j : Nat} (ht : 1 ≤ t) (h : ¬ ((j : Int) + 2) + t * tri ((j : Int) + 2 - 1) ≤ S) : ∀ d, rl S t (j + d) = rl S t j := by
  intro d
  induction d with
  | zero => rfl
  | succ d ih =>
    rw [show j + (d + 1) = (j + d) + 1 by omega, rl_neg (good_no (m := (j : Int) + 2) ht (by omega) h (by omega)), ih]
theorem tri_1501 : tri 1501 = 1127251 := by decide
theorem implRuns_loop (S t : Int) (hS : 1 ≤ S ∧ S ≤ 1000000) (ht : 1 ≤ t ∧ t ≤ 2) : ∀ (d j : Nat), j + d = 1500 → Ev (fun k => impl_runs.l0 k S t (rl S t j).reverse ((j : Int) + 2)) (rl S t 1500) := by
  intro d
  induction d with
  | zero =>
    intro j hj
    have : j = 1500 := by omega
    subst this
    refine ev_succ ?_
    simp only [impl_runs.l0]
    rw [wrap_of (x := ((1500 : Nat) : Int) + 2 - 1) (by omega) (by omega), upTo_eq (n := ((1500 : Nat) : Int) + 2 - 1) (by omega) (by omega)]
    simp only [Option.bind_some]
    have e : tri (((1500 : Nat) : Int) + 2 - 1) = 1127251 := tri_1501
    rw [e]
    have h1 : 0 ≤ t * 1127251 ∧ t * 1127251 ≤ 2254502 := by omega
    rw [wrap_of (x := t * 1127251) (by omega) (by omega), wrap_of (by omega) (by omega)]
    refine ev_neg (by omega) (ev_eq fun _ => by rw [List.reverse_reverse])
  | succ d ih =>
    intro j hj
    have ihh := ih (j + 1) (by omega)
    have tb := tri_bound (n := (j : Int) + 2 - 1) (by omega) (by omega)
    have tm : tri ((j : Int) + 2 - 1) ≤ 1127251 := by have := tri_mono (m := (j : Int) + 2 - 1) (n := 1501) (by omega) (by omega); rw [tri_1501] at this; exact this
    have tt : 0 ≤ t * tri ((j : Int) + 2 - 1) ∧ t * tri ((j : Int) + 2 - 1) ≤ 2 * 1127251 := mul_big (by omega) ht.2 tb.1 tm
    have hl : (rl S t j).length ≤ j := by rw [rl_len]; exact ml_len S t j
    refine ev_succ ?_
    simp only [impl_runs.l0]
    rw [wrap_of (x := (j : Int) + 2 - 1) (by omega) (by omega), upTo_eq (n := (j : Int) + 2 - 1) (by omega) (by omega)]
    simp only [Option.bind_some]
    rw [wrap_of (x := t * tri ((j : Int) + 2 - 1)) (by omega) (by omega), wrap_of (x := (j : Int) + 2 + t * tri ((j : Int) + 2 - 1)) (by omega) (by omega), wrap_of (x := S - t * tri ((j : Int) + 2 - 1)) (by omega) (by omega), wrap_of (x := (j : Int) + 2 + 1) (by omega) (by omega)]
    rw [show (j : Int) + 2 + 1 = ((j + 1 : Nat) : Int) + 2 by omega]
    by_cases c : (j : Int) + 2 + t * tri ((j : Int) + 2 - 1) ≤ S
    · refine ev_pos c (ev_neg (by omega) ?_)
      have hl0 : 0 < lft S t ((j : Int) + 2) := by unfold lft; omega
      have hle : S - t * tri ((j : Int) + 2 - 1) = lft S t ((j : Int) + 2) := rfl
      have hlS : lft S t ((j : Int) + 2) ≤ S := by unfold lft; omega
      rw [hle]
      generalize hL : lft S t ((j : Int) + 2) = L at *
      have hd := div_bound (x := L) (s := (j : Int) + 2) (by omega) (by omega)
      have hj2 : 0 ≤ t * ((j : Int) + 1) ∧ t * ((j : Int) + 1) ≤ 2 * 1501 := mul_big (by omega) ht.2 (by omega) (by omega)
      have hj3 : (j : Int) + 2 - 1 = (j : Int) + 1 := by omega
      rw [Int.tmod_eq_emod_of_nonneg (show 0 ≤ L by omega), Int.tdiv_eq_ediv_of_nonneg (show 0 ≤ L by omega), wrap_of (x := L / ((j : Int) + 2)) (by omega) (by omega), hj3, wrap_of (x := t * ((j : Int) + 1)) (by omega) (by omega), wrap_of (x := L / ((j : Int) + 2) + t * ((j : Int) + 1)) (by omega) (by omega)]
      by_cases c2 : L % ((j : Int) + 2) = 0
      · refine ev_pos c2 (ev_pos (by rw [List.length_reverse]; omega) ?_)
        have hg : Good S t ((j : Int) + 2) := ⟨by omega, by rw [hL]; exact c2⟩
        rw [rl_pos hg, List.reverse_cons] at ihh
        have er : row S t ((j : Int) + 2) = [L / ((j : Int) + 2), L / ((j : Int) + 2) + t * ((j : Int) + 1)] := by unfold row; rw [hL, hj3]
        rw [er] at ihh
        exact ihh
      · have hg : ¬ Good S t ((j : Int) + 2) := fun g => c2 (by have := g.2; rw [hL] at this; exact this)
        rw [rl_neg hg] at ihh
        exact ev_neg c2 ihh
    · refine ev_neg c (ev_eq fun _ => ?_)
      rw [List.reverse_reverse, ← rl_stop ht.1 c (d + 1), hj]
theorem implRuns_ev (S t : Int) (hS : 1 ≤ S ∧ S ≤ 1000000) (ht : 1 ≤ t ∧ t ≤ 2) : Ev (fun k => impl_runs.f k S t) (rl S t 1500) := implRuns_loop S t hS ht 1500 0 (by omega)
theorem specRuns_loop (S t : Int) (hS : 1 ≤ S ∧ S ≤ 1000000) (ht : 1 ≤ t ∧ t ≤ 2) : ∀ (d j : Nat), j + d = 1500 → Ev (fun k => spec_hoRuns.l0 k S t (rl S t j) ((j : Int) + 2)) (rl S t 1500) := by
  intro d
  have hcond : ∀ j : Nat, j ≤ 1500 → wrap64 (Int.tdiv (wrap64 (((j : Int) + 2) * wrap64 ((j : Int) + 2 + 1))) 2) = tri ((j : Int) + 2) := by
    intro j hj
    have h1 := mul_big (show (0 : Int) ≤ (j : Int) + 2 by omega) (show (j : Int) + 2 ≤ 2000 by omega) (show (0 : Int) ≤ (j : Int) + 2 + 1 by omega) (show (j : Int) + 2 + 1 ≤ 2000 by omega)
    rw [wrap_of (x := (j : Int) + 2 + 1) (by omega) (by omega), wrap_of (x := ((j : Int) + 2) * ((j : Int) + 2 + 1)) (by omega) (by omega), Int.tdiv_eq_ediv_of_nonneg h1.1]
    have tb := tri_bound (n := (j : Int) + 2) (by omega) (by omega)
    exact wrap_of (x := tri ((j : Int) + 2)) (by omega) (by omega)
  induction d with
  | zero =>
    intro j hj
    have : j = 1500 := by omega
    subst this
    refine ev_succ ?_
    simp only [spec_hoRuns.l0]
    rw [hcond 1500 (by omega)]
    have e : tri (((1500 : Nat) : Int) + 2) = 1128753 := by decide
    exact ev_neg (by omega) (ev_eq fun _ => rfl)
  | succ d ih =>
    intro j hj
    have ihh := ih (j + 1) (by omega)
    have tb := tri_bound (n := (j : Int) + 2 - 1) (by omega) (by omega)
    have tm : tri ((j : Int) + 2 - 1) ≤ 1127251 := by have := tri_mono (m := (j : Int) + 2 - 1) (n := 1501) (by omega) (by omega); rw [tri_1501] at this; exact this
    have tt : 0 ≤ t * tri ((j : Int) + 2 - 1) ∧ t * tri ((j : Int) + 2 - 1) ≤ 2 * 1127251 := mul_big (by omega) ht.2 tb.1 tm
    have hl : (rl S t j).length ≤ j := by rw [rl_len]; exact ml_len S t j
    have e2 : wrap64 (Int.tdiv (wrap64 (((j : Int) + 2) * wrap64 ((j : Int) + 2 - 1))) 2) = tri ((j : Int) + 2 - 1) := by
      have h1 := mul_big (show (0 : Int) ≤ (j : Int) + 2 by omega) (show (j : Int) + 2 ≤ 2000 by omega) (show (0 : Int) ≤ (j : Int) + 2 - 1 by omega) (show (j : Int) + 2 - 1 ≤ 2000 by omega)
      rw [wrap_of (x := (j : Int) + 2 - 1) (by omega) (by omega), wrap_of (x := ((j : Int) + 2) * ((j : Int) + 2 - 1)) (by omega) (by omega), Int.tdiv_eq_ediv_of_nonneg h1.1]
      have t2 := tri_two ((j : Int) + 2 - 1)
      have t3 : ((j : Int) + 2 - 1) * ((j : Int) + 2 - 1 + 1) = ((j : Int) + 2) * ((j : Int) + 2 - 1) := by grind
      rw [show ((j : Int) + 2) * ((j : Int) + 2 - 1) / 2 = tri ((j : Int) + 2 - 1) by omega]
      exact wrap_of (by omega) (by omega)
    refine ev_succ ?_
    simp only [spec_hoRuns.l0]
    rw [hcond j (by omega), e2, wrap_of (x := t * tri ((j : Int) + 2 - 1)) (by omega) (by omega), wrap_of (x := S - t * tri ((j : Int) + 2 - 1)) (by omega) (by omega), wrap_of (x := (j : Int) + 2 + 1) (by omega) (by omega)]
    rw [show (j : Int) + 2 + 1 = ((j + 1 : Nat) : Int) + 2 by omega]
    by_cases c : tri ((j : Int) + 2) ≤ S
    · refine ev_pos c ?_
      have hle : S - t * tri ((j : Int) + 2 - 1) = lft S t ((j : Int) + 2) := rfl
      have hlS : lft S t ((j : Int) + 2) ≤ S := by unfold lft; omega
      rw [hle]
      by_cases c1 : lft S t ((j : Int) + 2) > 0
      · refine ev_pos c1 (ev_neg (by omega) ?_)
        generalize hL : lft S t ((j : Int) + 2) = L at *
        have hd := div_bound (x := L) (s := (j : Int) + 2) (by omega) (by omega)
        have hj2 : 0 ≤ t * ((j : Int) + 1) ∧ t * ((j : Int) + 1) ≤ 2 * 1501 := mul_big (by omega) ht.2 (by omega) (by omega)
        have hj3 : (j : Int) + 2 - 1 = (j : Int) + 1 := by omega
        rw [Int.tmod_eq_emod_of_nonneg (show 0 ≤ L by omega), Int.tdiv_eq_ediv_of_nonneg (show 0 ≤ L by omega), wrap_of (x := L / ((j : Int) + 2)) (by omega) (by omega), hj3, wrap_of (x := (j : Int) + 1) (by omega) (by omega), wrap_of (x := t * ((j : Int) + 1)) (by omega) (by omega), wrap_of (x := L / ((j : Int) + 2) + t * ((j : Int) + 1)) (by omega) (by omega)]
        by_cases c2 : L % ((j : Int) + 2) = 0
        · have hg : Good S t ((j : Int) + 2) := ⟨by omega, by rw [hL]; exact c2⟩
          rw [rl_pos hg] at ihh
          have er : row S t ((j : Int) + 2) = [L / ((j : Int) + 2), L / ((j : Int) + 2) + t * ((j : Int) + 1)] := by unfold row; rw [hL, hj3]
          rw [er] at ihh
          refine ev_pos c2 (ev_bind rfl (ev_pos ?_ ihh))
          show 1 + (rl S t j).length < 5864062014805
          omega
        · have hg : ¬ Good S t ((j : Int) + 2) := fun g => c2 (by have := g.2; rw [hL] at this; exact this)
          rw [rl_neg hg] at ihh
          exact ev_neg c2 ihh
      · have hg : ¬ Good S t ((j : Int) + 2) := fun g => c1 g.1
        rw [rl_neg hg] at ihh
        exact ev_neg c1 ihh
    · refine ev_neg c (ev_eq fun _ => ?_)
      have ts := tri_step ((j : Int) + 2 - 1)
      rw [show (j : Int) + 2 - 1 + 1 = (j : Int) + 2 by omega] at ts
      have t1 : tri ((j : Int) + 2 - 1) ≤ t * tri ((j : Int) + 2 - 1) := by have := Int.mul_le_mul_of_nonneg_right ht.1 tb.1; omega
      rw [← rl_stop (S := S) (j := j) ht.1 (by omega) (d + 1), hj]
theorem specRuns_ev (S t : Int) (hS : 1 ≤ S ∧ S ≤ 1000000) (ht : 1 ≤ t ∧ t ≤ 2) : Ev (fun k => spec_hoRuns.f k S t) (rl S t 1500) := specRuns_loop S t hS ht 1500 0 (by omega)

/-! ### the missing house, streets of a sum, the last house for a sum -/
theorem isRunSum_eq (n : Int) : impl_isRunSum.f n = some (decide (1 ≤ n ∧ n ≤ 1000000)) := by
  unfold impl_isRunSum.f; rw [within_eq]; rfl
theorem hoAsked_eq (n : Int) : spec_hoAsked.f n = some (decide (1 ≤ n ∧ n ≤ 1000000)) := by
  unfold spec_hoAsked.f; rw [l1In_eq]; rfl
theorem hoSum_eq2 {a b : Int} (h0 : 1 ≤ a) (h1 : a ≤ b + 1) (h : b ≤ 1000001) : spec_hoSum.f a b = some (tri b - tri (a - 1)) := by
  unfold spec_hoSum.f
  by_cases c : b < a
  · rw [if_pos c]
    have : b = a - 1 := by omega
    subst this
    congr 1; omega
  · rw [if_neg c]
    have t1 := tri_two b
    have t2 := tri_two (a - 1)
    have e : (a + b) * (b - a + 1) = b * (b + 1) - (a - 1) * (a - 1 + 1) := by grind
    have h2 := mul_big (show (0 : Int) ≤ a + b by omega) (show a + b ≤ 3000000 by omega) (show (0 : Int) ≤ b - a + 1 by omega) (show b - a + 1 ≤ 1000001 by omega)
    rw [wrap_of (x := a + b) (by omega) (by omega), wrap_of (x := b - a) (by omega) (by omega), wrap_of (x := b - a + 1) (by omega) (by omega), wrap_of (x := (a + b) * (b - a + 1)) (by omega) (by omega), Int.tdiv_eq_ediv_of_nonneg h2.1]
    congr 1
    rw [wrap_of (by omega) (by omega)]
    omega
theorem tri_0' : tri (1 - 1) = 0 := rfl
theorem missing_ok (S : Int) (hS : 1 ≤ S ∧ S ≤ 1000000) : ∃ n, 2 ≤ n ∧ n ≤ 2000 ∧ tri (n - 1) ≤ S ∧ S < tri n ∧ Ev (fun k => impl_MissingHouse.l0 k S 2) (n, tri n - S, true) ∧ Ev (fun k => spec_MissingHouse.l0 k S 2) (n, tri n - S, true) := by
  have h : ∀ (d : Nat) (x : Int), (1600 - x).toNat = d → 2 ≤ x → x ≤ 1600 → tri (x - 1) ≤ S → ∃ n, 2 ≤ n ∧ n ≤ 2000 ∧ tri (n - 1) ≤ S ∧ S < tri n ∧ Ev (fun k => impl_MissingHouse.l0 k S x) (n, tri n - S, true) ∧ Ev (fun k => spec_MissingHouse.l0 k S x) (n, tri n - S, true) := by
    intro d
    induction d with
    | zero =>
      intro x hd h1 h2 h3
      have : x = 1600 := by omega
      subst this
      have e : tri (1600 - 1) = 1279200 := by decide
      omega
    | succ d ih =>
      intro x hd h1 h2 h3
      have tb := tri_bound (n := x) (by omega) (by omega)
      have ts := tri_step (x - 1)
      rw [show x - 1 + 1 = x by omega] at ts
      have es1 := hoSum_eq2 (a := 1) (b := x - 1) (by omega) (by omega) (by omega)
      have es2 := hoSum_eq2 (a := 1) (b := x) (by omega) (by omega) (by omega)
      rw [tri_0'] at es1 es2
      by_cases c : tri x ≤ S
      · obtain ⟨n, n1, n2, n3, n4, n5, n6⟩ := ih (x + 1) (by omega) (by omega) (by omega) (by rw [show x + 1 - 1 = x by omega]; exact c)
        refine ⟨n, n1, n2, n3, n4, ev_succ ?_, ev_succ ?_⟩
        · simp only [impl_MissingHouse.l0]
          rw [upTo_eq (n := x) (by omega) (by omega), wrap_of (x := x + 1) (by omega) (by omega)]
          simp only [Option.bind_some]
          exact ev_pos c n5
        · simp only [spec_MissingHouse.l0]
          rw [wrap_of (x := x - 1) (by omega) (by omega), wrap_of (x := x + 1) (by omega) (by omega)]
          refine ev_bind es1 (ev_pos (by omega) (ev_bind es2 (ev_bind (l1In_eq _ _ _) (ev_neg ?_ n6))))
          rw [wrap_of (by omega) (by omega)]
          simp only [decide_eq_true_eq]
          omega
      · refine ⟨x, h1, by omega, h3, by omega, ev_succ ?_, ev_succ ?_⟩
        · simp only [impl_MissingHouse.l0]
          rw [upTo_eq (n := x) (by omega) (by omega)]
          simp only [Option.bind_some]
          rw [wrap_of (x := tri x - S) (by omega) (by omega)]
          exact ev_neg c (ev_eq fun _ => rfl)
        · simp only [spec_MissingHouse.l0]
          rw [wrap_of (x := x - 1) (by omega) (by omega)]
          refine ev_bind es1 (ev_pos (by omega) (ev_bind es2 (ev_bind (l1In_eq _ _ _) (ev_pos ?_ ?_))))
          · rw [wrap_of (by omega) (by omega)]
            simp only [decide_eq_true_eq]
            omega
          · rw [wrap_of (by omega) (by omega)]
            exact ev_eq fun _ => by rw [Int.sub_zero]
  exact h _ 2 rfl (by omega) (by omega) (by have e : tri (2 - 1) = 1 := rfl; omega)
/-- the last house for a sum: both sides -/
def Lf (a s r : Int) : Prop := a ≤ r ∧ r ≤ 1000001 ∧ (∀ x, a ≤ x → x < r → tri x - tri (a - 1) < s) ∧ tri r - tri (a - 1) ≥ s
theorem lastFor_lf (a s : Int) (ha : 1 ≤ a ∧ a ≤ 1000000) (hs : s ≤ 1000000) : ∃ r, Ev (fun k => impl_lastFor.f k a s) r ∧ Lf a s r := by
  obtain ⟨r, e, h1, h2, h3, h4⟩ := lastFor_ev a s ha
  refine ⟨r, e, h1, h2, h3, ?_⟩
  rcases h4 with h4 | h4
  · subst h4
    have t1 := tri_step 1000000
    have t2 := tri_mono (m := a - 1) (n := 1000000) (by omega) (by omega)
    rw [show (1000000 : Int) + 1 = 1000001 from rfl] at t1
    omega
  · exact h4
theorem hoUp (a s r : Int) (ha : 1 ≤ a ∧ a ≤ 1000000) (h : Lf a s r) (x : Int) (hx : a ≤ x) (hxr : x ≤ r) : spec_hoSum.f a x = some (tri x - tri (a - 1)) := hoSum_eq2 ha.1 (by omega) (by have := h.2.1; omega)
theorem lastSpec (a s r : Int) (ha : 1 ≤ a ∧ a ≤ 1000000) (h : Lf a s r) : ∀ (d : Nat) (x : Int), a ≤ x → x + d = r → Ev (fun k => spec_LastForSum.l0 k a s x) (if r > 1000000 then ((0, false) : Int × Bool) else (r, true)) := by
  intro d
  induction d with
  | zero =>
    intro x hx hd
    have : x = r := by omega
    subst this
    refine ev_succ ?_
    simp only [spec_LastForSum.l0]
    refine ev_bind (hoUp a s x ha h x hx (Int.le_refl _)) (ev_neg (by have := h.2.2.2; omega) ?_)
    by_cases c : x > 1000000
    · rw [show (if x > 1000000 then ((0, false) : Int × Bool) else (x, true)) = (0, false) from if_pos c]; exact ev_pos c (ev_eq fun _ => rfl)
    · rw [show (if x > 1000000 then ((0, false) : Int × Bool) else (x, true)) = (x, true) from if_neg c]; exact ev_neg c (ev_eq fun _ => rfl)
  | succ d ih =>
    intro x hx hd
    refine ev_succ ?_
    simp only [spec_LastForSum.l0]
    have hr := h.2.1
    rw [wrap_of (x := x + 1) (by omega) (by omega)]
    exact ev_bind (hoUp a s r ha h x hx (by omega)) (ev_pos (h.2.2.1 x hx (by omega)) (ih (x + 1) (by omega) (by omega)))
theorem streetSpec (s r : Int) (h : Lf 1 s r) (hr : r ≤ 1000000) : ∀ (d : Nat) (x : Int), 1 ≤ x → x + d = r → Ev (fun k => spec_StreetOfSum.l0 k s x) (if tri r = s then ((r, true) : Int × Bool) else (0, false)) := by
  have e0 : tri (1 - 1) = 0 := rfl
  have hs := h.2.2.2
  intro d
  induction d with
  | zero =>
    intro x hx hd
    have : x = r := by omega
    subst this
    have eu := hoUp 1 s x ⟨by omega, by omega⟩ h x hx (Int.le_refl _)
    refine ev_succ ?_
    simp only [spec_StreetOfSum.l0]
    refine ev_bind eu (ev_neg (by omega) (ev_bind eu ?_))
    by_cases c : tri x = s
    · rw [if_pos c]; exact ev_neg (by omega) (ev_eq fun _ => rfl)
    · rw [if_neg c]; exact ev_pos (by omega) (ev_eq fun _ => rfl)
  | succ d ih =>
    intro x hx hd
    refine ev_succ ?_
    simp only [spec_StreetOfSum.l0]
    rw [wrap_of (x := x + 1) (by omega) (by omega)]
    exact ev_bind (hoUp 1 s r ⟨by omega, by omega⟩ h x hx (by omega)) (ev_pos (h.2.2.1 x hx (by omega)) (ih (x + 1) (by omega) (by omega)))
theorem lastForSum_ok (a s : Int) : ∃ o : Int × Bool, Ev (fun k => impl_LastForSum.f k a s) o ∧ Ev (fun k => spec_LastForSum.f k a s) o ∧
    (o = (0, false) ∨ ∃ r, o = (r, true) ∧ 1 ≤ a ∧ r ≤ 1000000 ∧ s ≤ 1000000 ∧ Lf a s r) := by
  by_cases h : (1 ≤ a ∧ a ≤ 1000000) ∧ (1 ≤ s ∧ s ≤ 1000000)
  · obtain ⟨ha, hs⟩ := h
    obtain ⟨r, e, hr⟩ := lastFor_lf a s ha hs.2
    refine ⟨if r > 1000000 then (0, false) else (r, true), ?_, ?_, ?_⟩
    · unfold impl_LastForSum.f
      refine ev_bind (isHouse_eq a) (ev_pos (by simpa using ha) (ev_bind (isRunSum_eq s) (ev_succ ?_)))
      simp only [impl_LastForSum.j0]
      refine ev_neg (by simpa using hs) (Ev.bind e ?_)
      by_cases c : r > 1000000
      · rw [show (if r > 1000000 then ((0, false) : Int × Bool) else (r, true)) = (0, false) from if_pos c]; exact ev_pos c (ev_eq fun _ => rfl)
      · rw [show (if r > 1000000 then ((0, false) : Int × Bool) else (r, true)) = (r, true) from if_neg c]; exact ev_neg c (ev_eq fun _ => rfl)
    · unfold spec_LastForSum.f
      refine ev_bind (hoMost_eq a) (ev_pos (by simpa using ha) (ev_bind (hoAsked_eq s) (ev_succ ?_)))
      simp only [spec_LastForSum.j0]
      exact ev_neg (by simpa using hs) (lastSpec a s r ha hr (r - a).toNat a (Int.le_refl _) (by have := hr.1; omega))
    · by_cases c : r > 1000000
      · rw [if_pos c]; exact .inl rfl
      · rw [if_neg c]; exact .inr ⟨r, rfl, ha.1, by omega, hs.2, hr⟩
  · refine ⟨(0, false), ?_, ?_, .inl rfl⟩
    · unfold impl_LastForSum.f
      refine ev_bind (isHouse_eq a) ?_
      have hj : Ev (fun k => impl_LastForSum.j0 k a s true) (0, false) := by
        refine ev_succ ?_
        simp only [impl_LastForSum.j0]
        exact ev_pos trivial (ev_eq fun _ => rfl)
      by_cases ha : 1 ≤ a ∧ a ≤ 1000000
      · refine ev_pos (by simpa using ha) (ev_bind (isRunSum_eq s) ?_)
        rw [show decide (1 ≤ s ∧ s ≤ 1000000) = false from decide_eq_false (fun x => h ⟨ha, x⟩)]
        exact hj
      · exact ev_neg (by simpa using ha) hj
    · unfold spec_LastForSum.f
      refine ev_bind (hoMost_eq a) ?_
      have hj : Ev (fun k => spec_LastForSum.j0 k a s true) (0, false) := by
        refine ev_succ ?_
        simp only [spec_LastForSum.j0]
        exact ev_pos trivial (ev_eq fun _ => rfl)
      by_cases ha : 1 ≤ a ∧ a ≤ 1000000
      · refine ev_pos (by simpa using ha) (ev_bind (hoAsked_eq s) ?_)
        rw [show decide (1 ≤ s ∧ s ≤ 1000000) = false from decide_eq_false (fun x => h ⟨ha, x⟩)]
        exact hj
      · exact ev_neg (by simpa using ha) hj
theorem streetOfSum_ok (s : Int) : ∃ o : Int × Bool, Ev (fun k => impl_StreetOfSum.f k s) o ∧ Ev (fun k => spec_StreetOfSum.f k s) o ∧
    (o = (0, false) ∨ ∃ r, o = (r, true) ∧ 1 ≤ r ∧ r ≤ 1000000 ∧ tri r = s) := by
  by_cases hs : 1 ≤ s ∧ s ≤ 1000000
  · obtain ⟨r, e, hr⟩ := lastFor_lf 1 s ⟨by omega, by omega⟩ hs.2
    have e0 : tri (1 - 1) = 0 := rfl
    have hr1 := hr.1
    have hr6 : r ≤ 1000000 := by
      by_cases c : r ≤ 1000000
      · exact c
      · have := hr.2.2.1 1500 (by omega) (by omega)
        have e : tri 1500 = 1125750 := by decide
        omega
    have tb := tri_bound (n := r) (by omega) (by omega)
    refine ⟨if tri r = s then (r, true) else (0, false), ?_, ?_, ?_⟩
    · unfold impl_StreetOfSum.f
      have e1 : Ev (fun k => impl_LastForSum.f k 1 s) (r, true) := by
        unfold impl_LastForSum.f
        refine ev_bind (isHouse_eq 1) (ev_pos (by simp) (ev_bind (isRunSum_eq s) (ev_succ ?_)))
        simp only [impl_LastForSum.j0]
        exact ev_neg (by simpa using hs) (Ev.bind e (ev_neg (by omega) (ev_eq fun _ => rfl)))
      refine Ev.bind e1 (ev_pos rfl (ev_bind (upTo_eq (n := r) (by omega) (by omega)) ?_))
      by_cases c : tri r = s
      · rw [show (if tri r = s then ((r, true) : Int × Bool) else (0, false)) = (r, true) from if_pos c]; exact ev_pos c (ev_eq fun _ => rfl)
      · rw [show (if tri r = s then ((r, true) : Int × Bool) else (0, false)) = (0, false) from if_neg c]; exact ev_neg c (ev_eq fun _ => rfl)
    · unfold spec_StreetOfSum.f
      exact ev_bind (hoAsked_eq s) (ev_pos (by simpa using hs) (streetSpec s r hr hr6 (r - 1).toNat 1 (Int.le_refl _) (by omega)))
    · by_cases c : tri r = s
      · rw [if_pos c]; exact .inr ⟨r, rfl, hr1, hr6, c⟩
      · rw [if_neg c]; exact .inl rfl
  · refine ⟨(0, false), ?_, ?_, .inl rfl⟩
    · unfold impl_StreetOfSum.f
      have e1 : Ev (fun k => impl_LastForSum.f k 1 s) (0, false) := by
        unfold impl_LastForSum.f
        refine ev_bind (isHouse_eq 1) (ev_pos (by simp) (ev_bind (isRunSum_eq s) (ev_succ ?_)))
        simp only [impl_LastForSum.j0]
        exact ev_pos (by simp; omega) (ev_eq fun _ => rfl)
      exact Ev.bind e1 (ev_neg (by simp) (ev_eq fun _ => rfl))
    · unfold spec_StreetOfSum.f
      exact ev_bind (hoAsked_eq s) (ev_neg (by simpa using hs) (ev_eq fun _ => rfl))

/-! ### houses opposite, neighbours -/
def oppO (n : Int) : Int × Bool := if 1 ≤ n ∧ n ≤ 1000000 then (if n % 2 = 0 then (n - 1, true) else (n + 1, true)) else (0, false)
theorem oddImpl_ev (n : Int) : Ev (fun k => impl_OppositeOdd.f k n) (oppO n) := by
  unfold impl_OppositeOdd.f
  by_cases h : 1 ≤ n ∧ n ≤ 1000000
  · have hm : Int.tmod n 2 = n % 2 := Int.tmod_eq_emod_of_nonneg (by omega)
    rw [hm]
    unfold oppO
    rw [if_pos h]
    by_cases c : n % 2 = 0
    · rw [show (if n % 2 = 0 then ((n - 1, true) : Int × Bool) else (n + 1, true)) = (n - 1, true) from if_pos c, wrap_of (x := n - 1) (by omega) (by omega)]
      refine ev_pos c (ev_succ ?_)
      simp only [impl_OppositeOdd.j0]
      exact ev_bind (isHouse_eq n) (ev_pos (by simpa using h) (ev_bind (isHouse_eq (n - 1)) (ev_pos (by simp; omega) (ev_eq fun _ => rfl))))
    · rw [show (if n % 2 = 0 then ((n - 1, true) : Int × Bool) else (n + 1, true)) = (n + 1, true) from if_neg c, wrap_of (x := n + 1) (by omega) (by omega)]
      refine ev_neg c (ev_succ ?_)
      simp only [impl_OppositeOdd.j0]
      exact ev_bind (isHouse_eq n) (ev_pos (by simpa using h) (ev_bind (isHouse_eq (n + 1)) (ev_pos (by simp; omega) (ev_eq fun _ => rfl))))
  · have hj : ∀ y, Ev (fun k => impl_OppositeOdd.j0 k n y) (0, false) := by
      intro y
      refine ev_succ ?_
      simp only [impl_OppositeOdd.j0]
      exact ev_bind (isHouse_eq n) (ev_neg (by simpa using h) (ev_eq fun _ => rfl))
    unfold oppO
    rw [if_neg h]
    by_cases c : Int.tmod n 2 = 0
    · exact ev_pos c (hj _)
    · exact ev_neg c (hj _)
theorem oddSpec_eq (n : Int) : spec_OppositeOdd.f n = some (oppO n) := by
  unfold spec_OppositeOdd.f oppO
  rw [hoMost_eq]
  simp only [Option.bind_some]
  by_cases h : 1 ≤ n ∧ n ≤ 1000000
  · rw [if_pos (by simpa using h), if_pos h, Int.tmod_eq_emod_of_nonneg (by omega)]
    by_cases c : n % 2 = 0
    · rw [if_pos c, if_pos c, wrap_of (by omega) (by omega)]
    · rw [if_neg c, if_neg c, if_neg (by omega), wrap_of (by omega) (by omega)]
  · rw [if_neg (by simpa using h), if_neg h]
def arO (n h : Int) : Int × Bool := if (1 ≤ n ∧ n ≤ 1000000) ∧ n % 2 = 0 ∧ 1 ≤ h ∧ h ≤ n then (n + 1 - h, true) else (0, false)
theorem arImpl_eq (n h : Int) : impl_OppositeAround.f n h = some (arO n h) := by
  unfold impl_OppositeAround.f arO
  rw [isHouse_eq]
  simp only [Option.bind_some]
  by_cases c : 1 ≤ n ∧ n ≤ 1000000
  · rw [if_pos (by simpa using c), Int.tmod_eq_emod_of_nonneg (by omega)]
    by_cases e : n % 2 = 1
    · rw [if_pos e, if_neg (fun x => by omega)]
    · rw [if_neg e, within_eq]
      simp only [Option.bind_some]
      by_cases g : 1 ≤ h ∧ h ≤ n
      · rw [if_pos (by simpa using g), if_pos ⟨c, by omega, g⟩, wrap_of (x := n + 1) (by omega) (by omega), wrap_of (by omega) (by omega)]
      · rw [if_neg (by simpa using g), if_neg (fun x => g x.2.2)]
  · rw [if_neg (by simpa using c), if_neg (fun x => c x.1)]
theorem arSpec_eq (n h : Int) : spec_OppositeAround.f n h = some (arO n h) := by
  unfold spec_OppositeAround.f arO
  rw [hoMost_eq]
  simp only [Option.bind_some]
  by_cases c : 1 ≤ n ∧ n ≤ 1000000
  · rw [if_pos (by simpa using c), Int.tmod_eq_emod_of_nonneg (by omega)]
    by_cases e : n % 2 = 0
    · rw [if_pos e, l1In_eq]
      simp only [Option.bind_some]
      by_cases g : 1 ≤ h ∧ h ≤ n
      · rw [if_pos (by simpa using g), if_pos ⟨c, e, g⟩, wrap_of (x := n + 1) (by omega) (by omega), wrap_of (by omega) (by omega)]
      · rw [if_neg (by simpa using g), if_neg (fun x => g x.2.2)]
    · rw [if_neg e, if_neg (fun x => e x.2.1)]
  · rw [if_neg (by simpa using c), if_neg (fun x => c x.1)]
def neO (n h : Int) : Int × Int × Bool := if (2 ≤ n ∧ n ≤ 1000000) ∧ 1 ≤ h ∧ h ≤ n then (if h = 1 then (2, 1, true) else if h = n then (n - 1, 1, true) else (2 * h, 2, true)) else (0, 0, false)
theorem ne_end (n h : Int) (hn : 2 ≤ n ∧ n ≤ 1000000) (hh : 1 ≤ h ∧ h ≤ n) : ((if 1 ≤ h + 1 ∧ h + 1 ≤ n then (if 1 ≤ h - 1 ∧ h - 1 ≤ n then h - 1 else 0) + (h + 1) else (if 1 ≤ h - 1 ∧ h - 1 ≤ n then h - 1 else 0)), (if 1 ≤ h + 1 ∧ h + 1 ≤ n then (if 1 ≤ h - 1 ∧ h - 1 ≤ n then 1 else 0) + 1 else (if 1 ≤ h - 1 ∧ h - 1 ≤ n then (1 : Int) else 0)), true) = neO n h := by
  unfold neO
  have hc : (2 ≤ n ∧ n ≤ 1000000) ∧ 1 ≤ h ∧ h ≤ n := ⟨hn, hh⟩
  by_cases c1 : h = 1
  · have a : 1 ≤ h + 1 ∧ h + 1 ≤ n := by omega
    have b : ¬ (1 ≤ h - 1 ∧ h - 1 ≤ n) := by omega
    simp only [if_pos hc, if_pos a, if_neg b, if_pos c1]
    rw [c1]; rfl
  · have b : 1 ≤ h - 1 ∧ h - 1 ≤ n := by omega
    by_cases c2 : h = n
    · have a : ¬ (1 ≤ h + 1 ∧ h + 1 ≤ n) := by omega
      simp only [if_pos hc, if_neg a, if_pos b, if_neg c1, if_pos c2]
      rw [c2]
    · have a : 1 ≤ h + 1 ∧ h + 1 ≤ n := by omega
      simp only [if_pos hc, if_pos a, if_pos b, if_neg c1, if_neg c2]
      rw [show h - 1 + (h + 1) = 2 * h by omega]
      rfl
theorem neImpl_ev (n h : Int) : Ev (fun k => impl_NeighbourSums.f k n h) (neO n h) := by
  have hbad : Ev (fun k => impl_NeighbourSums.j0 k n h true) (0, 0, false) := by
    refine ev_succ ?_
    simp only [impl_NeighbourSums.j0]
    exact ev_pos trivial (ev_eq fun _ => rfl)
  unfold impl_NeighbourSums.f
  refine ev_bind (within_eq _ _ _) ?_
  by_cases hn : 2 ≤ n ∧ n ≤ 1000000
  · refine ev_pos (by simpa using hn) (ev_bind (within_eq _ _ _) ?_)
    by_cases hh : 1 ≤ h ∧ h ≤ n
    · rw [show decide (1 ≤ h ∧ h ≤ n) = true from decide_eq_true hh]
      have step : ∀ (i : Nat) (x y : Int), i ≤ 1 → 0 ≤ x → x ≤ 2000000 → 0 ≤ y → y ≤ 10 → ∀ r, Ev (fun k => impl_NeighbourSums.l0 k n (if 1 ≤ rd [h - 1, h + 1] i ∧ rd [h - 1, h + 1] i ≤ n then x + rd [h - 1, h + 1] i else x) (if 1 ≤ rd [h - 1, h + 1] i ∧ rd [h - 1, h + 1] i ≤ n then y + 1 else y) [h - 1, h + 1] 2 ((i + 1 : Nat) : Int)) r →
          Ev (fun k => impl_NeighbourSums.l0 k n x y [h - 1, h + 1] 2 (i : Int)) r := by
        intro i x y hi x0 x1 y0 y1 r hr
        refine ev_succ ?_
        simp only [impl_NeighbourSums.l0]
        refine ev_pos (by omega) (ev_pos (by omega) (ev_pos (by show (i : Int) < 2; omega) (ev_bind (within_eq _ _ _) ?_)))
        rw [wrap_nat (i := i) (by omega)]
        by_cases c : 1 ≤ rd [h - 1, h + 1] i ∧ rd [h - 1, h + 1] i ≤ n
        · rw [if_pos c, if_pos c] at hr
          rw [wrap_of (x := x + rd [h - 1, h + 1] i) (by omega) (by omega), wrap_of (x := y + 1) (by omega) (by omega)]
          exact ev_pos (by simpa using c) hr
        · rw [if_neg c, if_neg c] at hr
          exact ev_neg (by simpa using c) hr
      have fin : ∀ x y : Int, Ev (fun k => impl_NeighbourSums.l0 k n x y [h - 1, h + 1] 2 ((2 : Nat) : Int)) (x, y, true) := by
        intro x y
        refine ev_succ ?_
        simp only [impl_NeighbourSums.l0]
        exact ev_neg (by omega) (ev_eq fun _ => rfl)
      refine ev_succ ?_
      simp only [impl_NeighbourSums.j0]
      rw [wrap_of (x := h - 1) (by omega) (by omega), wrap_of (x := h + 1) (by omega) (by omega)]
      refine ev_neg (by decide) (ev_bind rfl ?_)
      refine step 0 0 0 (by omega) (by omega) (by omega) (by omega) (by omega) _ (step 1 _ _ (by omega) ?_ ?_ ?_ ?_ _ ?_)
      · show 0 ≤ (if 1 ≤ h - 1 ∧ h - 1 ≤ n then 0 + (h - 1) else 0)
        split <;> omega
      · show (if 1 ≤ h - 1 ∧ h - 1 ≤ n then 0 + (h - 1) else 0) ≤ 2000000
        split <;> omega
      · show 0 ≤ (if 1 ≤ h - 1 ∧ h - 1 ≤ n then (0 : Int) + 1 else 0)
        split <;> omega
      · show (if 1 ≤ h - 1 ∧ h - 1 ≤ n then (0 : Int) + 1 else 0) ≤ 10
        split <;> omega
      · rw [← ne_end n h hn hh]
        have := fin (if 1 ≤ h + 1 ∧ h + 1 ≤ n then (if 1 ≤ h - 1 ∧ h - 1 ≤ n then 0 + (h - 1) else 0) + (h + 1) else (if 1 ≤ h - 1 ∧ h - 1 ≤ n then 0 + (h - 1) else 0)) (if 1 ≤ h + 1 ∧ h + 1 ≤ n then (if 1 ≤ h - 1 ∧ h - 1 ≤ n then 0 + 1 else 0) + 1 else (if 1 ≤ h - 1 ∧ h - 1 ≤ n then (0 : Int) + 1 else 0))
        simp only [Int.zero_add] at this ⊢
        exact this
    · rw [show decide (1 ≤ h ∧ h ≤ n) = false from decide_eq_false hh]
      unfold neO
      rw [if_neg (fun x => hh x.2)]
      exact hbad
  · unfold neO
    rw [if_neg (fun x => hn x.1)]
    exact ev_neg (by simpa using hn) hbad
theorem neSpec_ev (n h : Int) : Ev (fun k => spec_NeighbourSums.f k n h) (neO n h) := by
  have hbad : Ev (fun k => spec_NeighbourSums.j0 k n h true) (0, 0, false) := by
    refine ev_succ ?_
    simp only [spec_NeighbourSums.j0]
    exact ev_pos trivial (ev_eq fun _ => rfl)
  unfold spec_NeighbourSums.f
  refine ev_bind (hoMost_eq n) ?_
  by_cases hn : 2 ≤ n ∧ n ≤ 1000000
  · refine ev_pos (by simp; omega) (ev_neg (by omega) (ev_bind (l1In_eq _ _ _) ?_))
    by_cases hh : 1 ≤ h ∧ h ≤ n
    · rw [show decide (1 ≤ h ∧ h ≤ n) = true from decide_eq_true hh]
      have step : ∀ (i : Nat) (x y : Int), i ≤ 1 → 0 ≤ x → x ≤ 2000000 → 0 ≤ y → y ≤ 10 → ∀ r, Ev (fun k => spec_NeighbourSums.l0 k n (if 1 ≤ rd [h - 1, h + 1] i ∧ rd [h - 1, h + 1] i ≤ n then x + rd [h - 1, h + 1] i else x) (if 1 ≤ rd [h - 1, h + 1] i ∧ rd [h - 1, h + 1] i ≤ n then y + 1 else y) [h - 1, h + 1] 2 ((i + 1 : Nat) : Int)) r →
          Ev (fun k => spec_NeighbourSums.l0 k n x y [h - 1, h + 1] 2 (i : Int)) r := by
        intro i x y hi x0 x1 y0 y1 r hr
        refine ev_succ ?_
        simp only [spec_NeighbourSums.l0]
        refine ev_pos (by omega) (ev_pos (by omega) (ev_pos (by show (i : Int) < 2; omega) (ev_bind (l1In_eq _ _ _) ?_)))
        rw [wrap_nat (i := i) (by omega)]
        by_cases c : 1 ≤ rd [h - 1, h + 1] i ∧ rd [h - 1, h + 1] i ≤ n
        · rw [if_pos c, if_pos c] at hr
          rw [wrap_of (x := x + rd [h - 1, h + 1] i) (by omega) (by omega), wrap_of (x := y + 1) (by omega) (by omega)]
          exact ev_pos (by simpa using c) hr
        · rw [if_neg c, if_neg c] at hr
          exact ev_neg (by simpa using c) hr
      have fin : ∀ x y : Int, Ev (fun k => spec_NeighbourSums.l0 k n x y [h - 1, h + 1] 2 ((2 : Nat) : Int)) (x, y, true) := by
        intro x y
        refine ev_succ ?_
        simp only [spec_NeighbourSums.l0]
        exact ev_neg (by omega) (ev_eq fun _ => rfl)
      refine ev_succ ?_
      simp only [spec_NeighbourSums.j0]
      rw [wrap_of (x := h - 1) (by omega) (by omega), wrap_of (x := h + 1) (by omega) (by omega)]
      refine ev_neg (by decide) (ev_bind rfl ?_)
      refine step 0 0 0 (by omega) (by omega) (by omega) (by omega) (by omega) _ (step 1 _ _ (by omega) ?_ ?_ ?_ ?_ _ ?_)
      · show 0 ≤ (if 1 ≤ h - 1 ∧ h - 1 ≤ n then 0 + (h - 1) else 0)
        split <;> omega
      · show (if 1 ≤ h - 1 ∧ h - 1 ≤ n then 0 + (h - 1) else 0) ≤ 2000000
        split <;> omega
      · show 0 ≤ (if 1 ≤ h - 1 ∧ h - 1 ≤ n then (0 : Int) + 1 else 0)
        split <;> omega
      · show (if 1 ≤ h - 1 ∧ h - 1 ≤ n then (0 : Int) + 1 else 0) ≤ 10
        split <;> omega
      · rw [← ne_end n h hn hh]
        have := fin (if 1 ≤ h + 1 ∧ h + 1 ≤ n then (if 1 ≤ h - 1 ∧ h - 1 ≤ n then 0 + (h - 1) else 0) + (h + 1) else (if 1 ≤ h - 1 ∧ h - 1 ≤ n then 0 + (h - 1) else 0)) (if 1 ≤ h + 1 ∧ h + 1 ≤ n then (if 1 ≤ h - 1 ∧ h - 1 ≤ n then 0 + 1 else 0) + 1 else (if 1 ≤ h - 1 ∧ h - 1 ≤ n then (0 : Int) + 1 else 0))
        simp only [Int.zero_add] at this ⊢
        exact this
    · rw [show decide (1 ≤ h ∧ h ≤ n) = false from decide_eq_false hh]
      unfold neO
      rw [if_neg (fun x => hh x.2)]
      exact hbad
  · unfold neO
    rw [if_neg (fun x => hn x.1)]
    by_cases h1 : 1 ≤ n ∧ n ≤ 1000000
    · exact ev_pos (by simpa using h1) (ev_pos (by omega) hbad)
    · exact ev_neg (by simpa using h1) hbad

/-! ### what the runs are -/
theorem ml_mem (S t m : Int) (j : Nat) : m ∈ ml S t j ↔ 2 ≤ m ∧ m < (j : Int) + 2 ∧ Good S t m := by
  induction j with
  | zero =>
    rw [ml]
    constructor
    · intro h; cases h
    · rintro ⟨h1, h2, _⟩; omega
  | succ j ih =>
    rw [ml]
    by_cases g : Good S t ((j : Int) + 2)
    · rw [if_pos g, List.mem_cons, ih]
      constructor
      · rintro (h | ⟨h1, h2, h3⟩)
        · subst h; exact ⟨by omega, by omega, g⟩
        · exact ⟨h1, by omega, h3⟩
      · rintro ⟨h1, h2, h3⟩
        by_cases c : m = (j : Int) + 2
        · exact .inl c
        · exact .inr ⟨h1, by omega, h3⟩
    · rw [if_neg g, ih]
      constructor
      · rintro ⟨h1, h2, h3⟩; exact ⟨h1, by omega, h3⟩
      · rintro ⟨h1, h2, h3⟩
        by_cases c : m = (j : Int) + 2
        · subst c; exact absurd h3 g
        · exact ⟨h1, by omega, h3⟩
theorem ml_pair (S t : Int) (j : Nat) : (ml S t j).Pairwise (fun a b => b < a) := by
  induction j with
  | zero => rw [ml]; exact List.Pairwise.nil
  | succ j ih =>
    rw [ml]
    split
    · refine List.Pairwise.cons (fun b hb => ?_) ih
      have := (ml_mem S t b j).mp hb
      omega
    · exact ih
theorem rd_get {l : List Int} {i : Nat} (h : i < l.length) : rd l (i : Int) = l[i] := by
  unfold rd
  rw [Int.toNat_natCast, List.getD_eq_getElem?_getD, List.getElem?_eq_getElem h]
  rfl
theorem rl_rd {S t : Int} {j i : Nat} (h : i < (ml S t j).length) : rd_L2 (rl S t j) (i : Int) = row S t (rd (ml S t j) (i : Int)) := by
  rw [rd_get h]
  unfold rd_L2 rl
  rw [Int.toNat_natCast, List.getD_eq_getElem?_getD, List.getElem?_map, List.getElem?_eq_getElem h]
  rfl
theorem ml_rd {S t : Int} {j i : Nat} (h : i < (ml S t j).length) : 2 ≤ rd (ml S t j) (i : Int) ∧ rd (ml S t j) (i : Int) < (j : Int) + 2 ∧ Good S t (rd (ml S t j) (i : Int)) := by
  rw [rd_get h]
  exact (ml_mem S t _ j).mp (List.getElem_mem h)
theorem ml_lt {S t : Int} {j i i' : Nat} (hi : i < i') (h : i' < (ml S t j).length) : rd (ml S t j) (i' : Int) < rd (ml S t j) (i : Int) := by
  rw [rd_get h, rd_get (by omega)]
  exact List.pairwise_iff_getElem.mp (ml_pair S t j) i i' (by omega) h hi
/-- first house and last house -/
theorem good_facts {S t m : Int} (hS : S ≤ 1000000) (ht : 1 ≤ t ∧ t ≤ 2) (hm : 2 ≤ m) (g : Good S t m) :
    S = m * (lft S t m / m) + t * tri (m - 1) ∧ 1 ≤ lft S t m / m ∧ 1 ≤ t * (m - 1) ∧ lft S t m / m + t * (m - 1) ≤ 1000000 := by
  obtain ⟨g1, g2⟩ := g
  have hdef : lft S t m = S - t * tri (m - 1) := rfl
  generalize lft S t m = L at *
  have he := Int.emod_def L m
  generalize L / m = a at *
  have ha : 1 ≤ a := by
    by_cases c : 1 ≤ a
    · exact c
    · have := Int.mul_le_mul_of_nonneg_left (show a ≤ 0 by omega) (show (0 : Int) ≤ m by omega)
      omega
  have t2 := tri_two (m - 1)
  have h1 : a * 1 ≤ a * m := Int.mul_le_mul_of_nonneg_left (by omega) (by omega)
  have h2 : a * m = m * a := Int.mul_comm _ _
  have h3 : (m - 1) * 2 ≤ (m - 1) * (m - 1 + 1) := Int.mul_le_mul_of_nonneg_left (by omega) (by omega)
  have h4 : t * (m - 1) ≤ t * tri (m - 1) := Int.mul_le_mul_of_nonneg_left (by omega) (by omega)
  have h5 : 1 * 1 ≤ t * (m - 1) := Int.mul_le_mul ht.1 (by omega) (by omega) (by omega)
  exact ⟨by omega, ha, by omega, by omega⟩
theorem good_sum {S t m : Int} (hS : S ≤ 1000000) (ht : 1 ≤ t ∧ t ≤ 2) (hm : 2 ≤ m) (g : Good S t m) : sumO (lft S t m / m) (lft S t m / m + t * (m - 1)) t = (S, true) := by
  obtain ⟨f1, f2, f3, f4⟩ := good_facts hS ht hm g
  generalize lft S t m / m = a at *
  unfold sumO
  rw [if_pos ⟨⟨f2, by omega, f4⟩, ht.1, by omega⟩]
  unfold sumH
  rw [show a + t * (m - 1) - a = t * (m - 1) by omega, Int.mul_ediv_cancel_left _ (show t ≠ 0 by omega), show m - 1 + 1 = m by omega]
  rw [← f1]
theorem good_less {S t m m' : Int} (hS : S ≤ 1000000) (ht : 1 ≤ t ∧ t ≤ 2) (hm : 2 ≤ m) (hl : m < m') (g : Good S t m) (g' : Good S t m') : lft S t m' / m' < lft S t m / m := by
  obtain ⟨f1, f2, _, _⟩ := good_facts hS ht hm g
  obtain ⟨f1', f2', _, _⟩ := good_facts hS ht (by omega) g'
  generalize lft S t m / m = a at *
  generalize lft S t m' / m' = a' at *
  by_cases c : a' < a
  · exact c
  · exfalso
    have h1 : m * a ≤ m' * a' := Int.mul_le_mul (by omega) (by omega) (by omega) (by omega)
    have h2 : t * tri (m - 1) < t * tri (m' - 1) := Int.mul_lt_mul_of_pos_left (tri_lt (by omega) (by omega)) (by omega)
    omega
theorem good_of {S m a : Int} (hm : 2 ≤ m) (ha : 1 ≤ a) (h : 2 * S = m * (2 * a + m - 1)) : Good S 1 m := by
  have t2 := tri_two (m - 1)
  have e : m * (2 * a + m - 1) = 2 * (m * a) + (m - 1) * (m - 1 + 1) := by grind
  have hl : lft S 1 m = m * a := by unfold lft; omega
  have hp : 1 * 1 ≤ m * a := Int.mul_le_mul (by omega) ha (by omega) (by omega)
  exact ⟨by omega, by rw [hl]; exact Int.mul_emod_right m a⟩
/-- powers of two have no odd part -/
theorem pow_odd : ∀ (e : Nat) (u v : Int), u % 2 = 1 → 1 ≤ u → (2 : Int) ^ e = u * v → u = 1 := by
  intro e
  induction e with
  | zero =>
    intro u v hu h1 h
    by_cases c : u = 1
    · exact c
    · exfalso
      have hv : 1 ≤ v := by
        by_cases cv : 1 ≤ v
        · exact cv
        · have := Int.mul_le_mul_of_nonneg_left (show v ≤ 0 by omega) (show (0 : Int) ≤ u by omega)
          have e0 : (2 : Int) ^ 0 = 1 := rfl
          omega
      have := Int.mul_le_mul (show (2 : Int) ≤ u by omega) hv (by omega) (by omega)
      have e0 : (2 : Int) ^ 0 = 1 := rfl
      omega
  | succ e ih =>
    intro u v hu h1 h
    rw [Int.pow_succ] at h
    have hv : v % 2 = 0 := by
      have h2 : (u * v) % 2 = 0 := by rw [← h]; exact Int.mul_emod_left _ _
      rw [Int.mul_emod, hu] at h2
      omega
    refine ih u (v / 2) hu h1 ?_
    have e1 : v = 2 * (v / 2) := by omega
    generalize v / 2 = v' at *
    subst e1
    have : u * (2 * v') = 2 * (u * v') := by grind
    omega
theorem runs_none {e : Nat} {S : Int} (hS : S = (2 : Int) ^ e) {m : Int} (hm : 2 ≤ m) (hS6 : S ≤ 1000000) (g : Good S 1 m) : False := by
  obtain ⟨f1, f2, _, _⟩ := good_facts hS6 ⟨by omega, by omega⟩ hm g
  generalize lft S 1 m / m = a at *
  have t2 := tri_two (m - 1)
  have e2 : (2 : Int) ^ (e + 1) = m * (2 * a + m - 1) := by
    rw [Int.pow_succ, ← hS]
    have e : m * (2 * a + m - 1) = 2 * (m * a) + (m - 1) * (m - 1 + 1) := by grind
    omega
  by_cases c : m % 2 = 1
  · have := pow_odd (e + 1) m (2 * a + m - 1) c (by omega) e2
    omega
  · rw [Int.mul_comm] at e2
    have := pow_odd (e + 1) (2 * a + m - 1) m (by omega) (by omega) e2
    omega
theorem runs_some {S o q : Int} (hS6 : S ≤ 1000000) (h : S = o * q) (ho : o % 2 = 1) (h1 : 2 ≤ o) (hq : 1 ≤ q) : 0 < (ml S 1 1500).length := by
  have hex : ∃ m a : Int, 2 ≤ m ∧ 1 ≤ a ∧ 2 * S = m * (2 * a + m - 1) := by
    by_cases c : o < 2 * q
    · refine ⟨o, q - (o - 1) / 2, h1, by omega, ?_⟩
      rw [show 2 * (q - (o - 1) / 2) + o - 1 = 2 * q by omega, h]
      grind
    · refine ⟨2 * q, (o - 2 * q + 1) / 2, by omega, by omega, ?_⟩
      rw [show 2 * ((o - 2 * q + 1) / 2) + 2 * q - 1 = o by omega, h]
      grind
  obtain ⟨m, a, hm, ha, e⟩ := hex
  have hlt : m < ((1500 : Nat) : Int) + 2 := by
    by_cases c : m < 1502
    · omega
    · exfalso
      have h2 : m * m ≤ m * (2 * a + m - 1) := Int.mul_le_mul_of_nonneg_left (by omega) (by omega)
      have h3 : (1502 : Int) * 1502 ≤ m * m := Int.mul_le_mul (by omega) (by omega) (by omega) (by omega)
      omega
  exact List.length_pos_of_mem ((ml_mem S 1 m 1500).mpr ⟨hm, hlt, good_of hm ha e⟩)

/-! ### sums drawn -/
theorem summing_ok (l : List Int) (hl : Bytes l) (a s : Int) (h0 : 0 ≤ a) (h1 : a ≤ 800000000000) : ∃ v a' s', spec_l1Cur_summing.f l a s = some (v, a', s') := by
  unfold spec_l1Cur_summing.f
  obtain ⟨x, a1, s1, hx, g1, g2⟩ := one_ok l hl a s 9 h0 (by omega)
  rw [hx]
  simp only [Option.bind_some]
  by_cases c : x = true
  · rw [if_pos c]
    obtain ⟨y, a2, s2, hy, _⟩ := among_ok l hl a1 s1 [(-1), 0, 1, 2, 1000000, 1000001, 4611686018427387904] (by decide) (by omega) (by omega)
    rw [hy]
    exact ⟨_, a2, s2, rfl⟩
  · rw [if_neg c]
    obtain ⟨y, a2, s2, hy, _, _, e1, e2⟩ := pick_ok l hl a1 s1 250 (by omega) (by omega)
    rw [hy]
    simp only [Option.bind_some]
    obtain ⟨z, a3, s3, hz, _, _, e3, e4⟩ := pick_ok l hl a2 s2 4 (by omega) (by omega)
    rw [hz]
    simp only [Option.bind_some]
    obtain ⟨u, a4, s4, hu, _, _, e5, e6⟩ := pick_ok l hl a3 s3 40 (by omega) (by omega)
    rw [hu]
    exact ⟨_, a4, s4, rfl⟩
theorem drawRuns_ok (l : List Int) (hl : Bytes l) : ∃ v, spec_DrawRunsWithSum.f l = some v := by
  obtain ⟨v, a, s, h⟩ := summing_ok l hl 0 0 (by omega) (by omega)
  unfold spec_DrawRunsWithSum.f
  rw [h]
  exact ⟨_, rfl⟩
theorem drawStreetOf_ok (l : List Int) (hl : Bytes l) : ∃ v, spec_DrawStreetOfSum.f l = some v := by
  unfold spec_DrawStreetOfSum.f
  obtain ⟨x, a1, s1, hx, g1, g2⟩ := one_ok l hl 0 0 2 (by omega) (by omega)
  rw [hx]
  simp only [Option.bind_some]
  by_cases c : x = true
  · rw [if_pos c]
    obtain ⟨y, a2, s2, hy, y0, y1, _⟩ := pick_ok l hl a1 s1 120 (by omega) (by omega)
    rw [hy]
    simp only [Option.bind_some]
    rw [wrap_of (x := 1 + y) (by omega) (by omega), hoSum_eq2 (a := 1) (b := 1 + y) (by omega) (by omega) (by omega)]
    exact ⟨_, rfl⟩
  · rw [if_neg c]
    obtain ⟨y, a2, s2, hy⟩ := summing_ok l hl a1 s1 (by omega) (by omega)
    rw [hy]
    exact ⟨_, rfl⟩
theorem drawLastFor_ok (l : List Int) (hl : Bytes l) : ∃ v w, spec_DrawLastForSum.f l = some (v, w) := by
  obtain ⟨v, a, s, h, g1, g2⟩ := houseNumber_ok l hl 0 0 (by omega) (by omega)
  obtain ⟨w, a1, s1, h1⟩ := summing_ok l hl a s (by omega) (by omega)
  unfold spec_DrawLastForSum.f
  rw [h]
  simp only [Option.bind_some]
  rw [h1]
  exact ⟨_, _, rfl⟩
theorem drawOppOdd_ok (l : List Int) (hl : Bytes l) : ∃ v, spec_DrawOppositeOdd.f l = some v := by
  obtain ⟨v, h⟩ := drawStreets_ok l hl
  unfold spec_DrawOppositeOdd.f
  rw [h]
  exact ⟨_, rfl⟩
theorem drawOppAround_ok (l : List Int) (hl : Bytes l) : ∃ v w, spec_DrawOppositeAround.f l = some (v, w) := by
  obtain ⟨v, a, s, h, g1, g2⟩ := houseNumber_ok l hl 0 0 (by omega) (by omega)
  obtain ⟨t, ht⟩ := most_def 1 v
  obtain ⟨u, hu⟩ := least_def 60 t
  obtain ⟨x, a1, s1, hx, _, _, e1, e2⟩ := pick_ok l hl a s (wrap64 (u + 2)) (by omega) (by omega)
  obtain ⟨y, a2, s2, hy, _⟩ := pick_ok l hl a1 s1 9 (by omega) (by omega)
  unfold spec_DrawOppositeAround.f
  rw [h]
  simp only [Option.bind_some]
  rw [ht]
  simp only [Option.bind_some]
  rw [hu]
  simp only [Option.bind_some]
  rw [hx]
  simp only [Option.bind_some]
  rw [hy]
  exact ⟨_, _, rfl⟩

/-! ### lists told the same; the loops of the law -/
theorem iSame_loop (l l' : List Int) (e : l' = l) (hl : l.length ≤ 1000000) : ∀ (d i : Nat), i + d = l.length → Ev (fun k => laws_iSame.l0 k l l' (l.length : Int) (i : Int)) true := by
  have hll : l'.length = l.length := by rw [e]
  intro d
  induction d with
  | zero =>
    intro i hi
    refine ev_succ ?_
    simp only [laws_iSame.l0]
    exact ev_neg (by omega) (ev_eq fun _ => rfl)
  | succ d ih =>
    intro i hi
    refine ev_succ ?_
    simp only [laws_iSame.l0]
    rw [wrap_nat (i := i) (by omega)]
    exact ev_pos (by omega) (ev_pos (by omega) (ev_pos (by omega) (ev_pos (by omega) (ev_pos (by rw [e]) (ih (i + 1) (by omega))))))
theorem iSame_ev (l : List Int) (hl : l.length ≤ 1000000) : Ev (fun k => laws_iSame.f k l l) true := by
  have := iSame_loop l l rfl hl l.length 0 (by omega)
  unfold laws_iSame.f
  exact ev_pos rfl this
theorem iRows_loop (l l' : List (List Int)) (e : l' = l) (hl : l.length ≤ 1000000) (hr : ∀ i : Nat, i < l.length → (rd_L2 l (i : Int)).length ≤ 1000000) : ∀ (d i : Nat), i + d = l.length → Ev (fun k => laws_iRows.l0 k l l' (l.length : Int) (i : Int)) true := by
  have hll : l'.length = l.length := by rw [e]
  intro d
  induction d with
  | zero =>
    intro i hi
    refine ev_succ ?_
    simp only [laws_iRows.l0]
    exact ev_neg (by omega) (ev_eq fun _ => rfl)
  | succ d ih =>
    intro i hi
    refine ev_succ ?_
    simp only [laws_iRows.l0]
    rw [wrap_nat (i := i) (by omega)]
    have hs : Ev (fun k => laws_iSame.f k (rd_L2 l (i : Int)) (rd_L2 l' (i : Int))) true := by rw [e]; exact iSame_ev _ (hr i (by omega))
    exact ev_pos (by omega) (ev_pos (by omega) (ev_pos (by omega) (ev_pos (by omega) (Ev.bind hs (ev_pos rfl (ih (i + 1) (by omega)))))))
theorem iRows_ev (l : List (List Int)) (hl : l.length ≤ 1000000) (hr : ∀ i : Nat, i < l.length → (rd_L2 l (i : Int)).length ≤ 1000000) : Ev (fun k => laws_iRows.f k l l) true := by
  have := iRows_loop l l rfl hl hr l.length 0 (by omega)
  unfold laws_iRows.f
  exact ev_pos rfl this

theorem tmod2 {x : Int} (h0 : 0 ≤ x) : Int.tmod x 2 = x % 2 := Int.tmod_eq_emod_of_nonneg h0

/-! ### the law's own steps -/
def lawj7 (x57 x58 x59 : Int) (x60 : Bool) (x63 x64 : Int) (x65 : Bool) : Option Bool := if x60 = true then ((impl_OppositeAround.f x57 x59).bind fun bt421 => (if bt421.2 = true then (if bt421.1 = x58 then (if x59 = x58 then (some false) else (if (wrap64 (x59 + x58)) = (wrap64 (x57 + 1)) then (if x65 = true then (if x64 < 1 then (some false) else (if x64 > 2 then (some false) else (if x64 = 2 then (if x63 = (wrap64 (2 * x58)) then (if x64 = 1 then (if x58 = 1 then (some true) else (if x58 = x57 then (some true) else (some false))) else (some true)) else (some false)) else (if x64 = 1 then (if x58 = 1 then (some true) else (if x58 = x57 then (some true) else (some false))) else (some true))))) else (some true)) else (some false))) else (some false)) else (some false))) else (if x65 = true then (if x64 < 1 then (some false) else (if x64 > 2 then (some false) else (if x64 = 2 then (if x63 = (wrap64 (2 * x58)) then (if x64 = 1 then (if x58 = 1 then (some true) else (if x58 = x57 then (some true) else (some false))) else (some true)) else (some false)) else (if x64 = 1 then (if x58 = 1 then (some true) else (if x58 = x57 then (some true) else (some false))) else (some true))))) else (some true))
theorem hj7 (n h : Int) : Ev (fun _ => lawj7 n h (arO n h).1 (arO n h).2 (neO n h).1 (neO n h).2.1 (neO n h).2.2) true := by
  have tl : Ev (fun k => if (neO n h).2.2 = true then (if (neO n h).2.1 < 1 then (some false) else (if (neO n h).2.1 > 2 then (some false) else (if (neO n h).2.1 = 2 then (if (neO n h).1 = (wrap64 (2 * h)) then (if (neO n h).2.1 = 1 then (if h = 1 then (some true) else (if h = n then (some true) else (some false))) else (some true)) else (some false)) else (if (neO n h).2.1 = 1 then (if h = 1 then (some true) else (if h = n then (some true) else (some false))) else (some true))))) else (some true)) true := by
    by_cases c : (2 ≤ n ∧ n ≤ 1000000) ∧ 1 ≤ h ∧ h ≤ n
    · by_cases c1 : h = 1
      · have e : neO n h = (2, 1, true) := by unfold neO; rw [if_pos c, if_pos c1]
        rw [e]
        exact ev_pos rfl (ev_neg (by simp) (ev_neg (by simp) (ev_neg (by simp) (ev_pos rfl (ev_pos c1 (ev_eq fun _ => rfl))))))
      · by_cases c2 : h = n
        · have e : neO n h = (n - 1, 1, true) := by unfold neO; rw [if_pos c, if_neg c1, if_pos c2]
          rw [e]
          exact ev_pos rfl (ev_neg (by simp) (ev_neg (by simp) (ev_neg (by simp) (ev_pos rfl (ev_neg c1 (ev_pos c2 (ev_eq fun _ => rfl)))))))
        · have e : neO n h = (2 * h, 2, true) := by unfold neO; rw [if_pos c, if_neg c1, if_neg c2]
          rw [e, wrap_of (x := 2 * h) (by omega) (by omega)]
          exact ev_pos rfl (ev_neg (by simp) (ev_neg (by simp) (ev_pos rfl (ev_pos rfl (ev_neg (by simp) (ev_eq fun _ => rfl))))))
    · have e : neO n h = (0, 0, false) := by unfold neO; rw [if_neg c]
      rw [e]
      exact ev_neg (by simp) (ev_eq fun _ => rfl)
  unfold lawj7
  by_cases c : (1 ≤ n ∧ n ≤ 1000000) ∧ n % 2 = 0 ∧ 1 ≤ h ∧ h ≤ n
  · have e : arO n h = (n + 1 - h, true) := by unfold arO; rw [if_pos c]
    have e2 : arO n (n + 1 - h) = (h, true) := by unfold arO; rw [if_pos (by omega), show n + 1 - (n + 1 - h) = h by omega]
    rw [e]
    refine ev_pos rfl (ev_bind (arImpl_eq n (n + 1 - h)) ?_)
    rw [e2, wrap_of (x := n + 1 - h + h) (by omega) (by omega), wrap_of (x := n + 1) (by omega) (by omega)]
    exact ev_pos rfl (ev_pos rfl (ev_neg (by omega) (ev_pos (by omega) tl)))
  · have e : arO n h = (0, false) := by unfold arO; rw [if_neg c]
    rw [e]
    exact ev_neg (by simp) tl
theorem hj6 (x n h : Int) : Ev (fun k => laws_FnHousesRun.j6 k x (oppO x).1 (oppO x).2 n h (arO n h).1 (arO n h).2 (neO n h).1 (neO n h).2.1 (neO n h).2.2) true := by
  refine ev_succ ?_
  simp only [laws_FnHousesRun.j6]
  by_cases c : 1 ≤ x ∧ x ≤ 1000000
  · by_cases e : x % 2 = 0
    · have e1 : oppO x = (x - 1, true) := by unfold oppO; rw [if_pos c, if_pos e]
      have e2 : oppO (x - 1) = (x, true) := by unfold oppO; rw [if_pos (by omega), if_neg (by omega), show x - 1 + 1 = x by omega]
      have b := oddImpl_ev (x - 1)
      rw [e2] at b
      rw [e1, wrap_of (x := x + 1) (by omega) (by omega), wrap_of (x := x - 1 + 1) (by omega) (by omega), Int.tdiv_eq_ediv_of_nonneg (show 0 ≤ x + 1 by omega), Int.tdiv_eq_ediv_of_nonneg (show 0 ≤ x - 1 + 1 by omega), wrap_of (x := (x + 1) / 2) (by omega) (by omega), wrap_of (x := (x - 1 + 1) / 2) (by omega) (by omega)]
      exact ev_pos rfl (Ev.bind b (ev_pos rfl (ev_pos rfl (ev_pos (by omega) (ev_neg (by omega) (hj7 n h))))))
    · have e1 : oppO x = (x + 1, true) := by unfold oppO; rw [if_pos c, if_neg e]
      have e2 : oppO (x + 1) = (x, true) := by unfold oppO; rw [if_pos (by omega), if_pos (by omega), show x + 1 - 1 = x by omega]
      have b := oddImpl_ev (x + 1)
      rw [e2] at b
      rw [e1, wrap_of (x := x + 1) (by omega) (by omega), wrap_of (x := x + 1 + 1) (by omega) (by omega), Int.tdiv_eq_ediv_of_nonneg (show 0 ≤ x + 1 by omega), Int.tdiv_eq_ediv_of_nonneg (show 0 ≤ x + 1 + 1 by omega), wrap_of (x := (x + 1) / 2) (by omega) (by omega), wrap_of (x := (x + 1 + 1) / 2) (by omega) (by omega)]
      exact ev_pos rfl (Ev.bind b (ev_pos rfl (ev_pos rfl (ev_pos (by omega) (ev_neg (by omega) (hj7 n h))))))
  · have e1 : oppO x = (0, false) := by unfold oppO; rw [if_neg c]
    rw [e1]
    exact ev_neg (by simp) (hj7 n h)
theorem hj5 (a s r x n h : Int) (b : Bool) (hb : b = true → 1 ≤ a ∧ r ≤ 1000000 ∧ s ≤ 1000000 ∧ Lf a s r) : Ev (fun k => laws_FnHousesRun.j5 k a s r b x (oppO x).1 (oppO x).2 n h (arO n h).1 (arO n h).2 (neO n h).1 (neO n h).2.1 (neO n h).2.2) true := by
  refine ev_succ ?_
  simp only [laws_FnHousesRun.j5]
  by_cases c : b = true
  · obtain ⟨h1, h2, h3, h4⟩ := hb c
    obtain ⟨l1, l2, l3, l4⟩ := h4
    have e : sumO a r 1 = (tri r - tri (a - 1), true) := by unfold sumO; rw [if_pos ⟨⟨h1, l1, h2⟩, by omega, by omega⟩, sumH_one]
    have tr := tri_bound (n := r) (by omega) (by omega)
    have ta := tri_bound (n := a - 1) (by omega) (by omega)
    refine ev_pos c (ev_bind (implSum_eq a r 1) ?_)
    rw [e]
    refine ev_pos rfl (ev_neg (by show ¬ tri r - tri (a - 1) < s; omega) ?_)
    by_cases c2 : r > a
    · have l5 := l3 (r - 1) (by omega) (by omega)
      have ts := tri_step (r - 1)
      rw [show r - 1 + 1 = r by omega] at ts
      refine ev_pos c2 (ev_neg ?_ (hj6 x n h))
      show ¬ wrap64 (tri r - tri (a - 1) - r) ≥ s
      rw [wrap_of (by omega) (by omega)]
      omega
    · exact ev_neg c2 (hj6 x n h)
  · exact ev_neg c (hj6 x n h)
theorem hj4 (l : List Int) (hl : Bytes l) : Ev (fun k => laws_FnHousesRun.j4 k l) true := by
  obtain ⟨m, hm⟩ := drawStreetOf_ok l hl
  obtain ⟨a, s, has⟩ := drawLastFor_ok l hl
  obtain ⟨x, hx⟩ := drawOppOdd_ok l hl
  obtain ⟨n, h, hnh⟩ := drawOppAround_ok l hl
  obtain ⟨o1, p1, p2, p3⟩ := streetOfSum_ok m
  obtain ⟨o2, q1, q2, q3⟩ := lastForSum_ok a s
  refine ev_succ ?_
  simp only [laws_FnHousesRun.j4]
  refine ev_bind hm (Ev.bind p1 (Ev.bind p2 (ev_bind has (Ev.bind q1 (Ev.bind q2 (ev_bind hx (Ev.bind (oddImpl_ev x) (ev_bind (oddSpec_eq x) (ev_bind hnh (ev_bind (arImpl_eq n h) (ev_bind (arSpec_eq n h) (Ev.bind (neImpl_ev n h) (Ev.bind (neSpec_ev n h) ?_)))))))))))))
  have j : Ev (fun k => laws_FnHousesRun.j5 k a s o2.1 o2.2 x (oppO x).1 (oppO x).2 n h (arO n h).1 (arO n h).2 (neO n h).1 (neO n h).2.1 (neO n h).2.2) true := by
    refine hj5 a s o2.1 x n h o2.2 (fun hb => ?_)
    rcases q3 with q3 | ⟨r, q3, g⟩
    · rw [q3] at hb; cases hb
    · rw [q3]; exact g
  refine ev_neg (by simp) (ev_pos rfl (ev_neg (by simp) (ev_pos rfl (ev_neg (by simp) (ev_pos rfl (ev_neg (by simp) (ev_pos rfl (ev_neg (by simp) (ev_pos rfl (ev_pos rfl ?_))))))))))
  by_cases c : o1.2 = true
  · rcases p3 with p3 | ⟨r, p3, g1, g2, g3⟩
    · rw [p3] at c; cases c
    · have e : sumO 1 r 1 = (m, true) := by
        unfold sumO
        rw [if_pos ⟨⟨by omega, g1, g2⟩, by omega, by omega⟩, sumH_one, tri_0', Int.sub_zero, g3]
      refine ev_pos c (ev_bind (implSum_eq 1 o1.1 1) ?_)
      rw [p3]
      show Ev (fun k => if (sumO 1 r 1).2 = true then (if (sumO 1 r 1).1 = m then _ else _) else _) true
      rw [e]
      exact ev_pos rfl (ev_pos rfl j)
  · exact ev_neg c j
theorem hl2 (l : List Int) (hl : Bytes l) (S n : Int) (hS : 1 ≤ S ∧ S ≤ 1000000) (hn : 2 ≤ n ∧ n ≤ 2000) : ∀ (d : Nat) (x : Int) (e : Nat), x.toNat ≤ d → 1 ≤ x → S = x * (2 : Int) ^ e →
    Ev (fun k => laws_FnHousesRun.l2 k l S ((rl S 1 1500).length : Int) n (tri n - S) x) true := by
  intro d
  induction d with
  | zero => intro x e h1 h2; omega
  | succ d ih =>
    intro x e hd h1 he
    have hp : (1 : Int) ≤ (2 : Int) ^ e := Int.le_of_lt_add_one (by have := Int.pow_pos (n := 2) (m := e) (by decide); omega)
    have hx : x ≤ S := by have := Int.mul_le_mul_of_nonneg_left hp (show 0 ≤ x by omega); omega
    have j := hj4 l hl
    refine ev_succ ?_
    simp only [laws_FnHousesRun.l2]
    rw [tmod2 (x := x) (by omega)]
    by_cases c : x % 2 = 0
    · rw [Int.tdiv_eq_ediv_of_nonneg (show 0 ≤ x by omega), wrap_of (x := x / 2) (by omega) (by omega)]
      refine ev_pos c (ih (x / 2) (e + 1) (by omega) (by omega) ?_)
      rw [Int.pow_succ]
      have e1 : x = 2 * (x / 2) := by omega
      generalize x / 2 = y at *
      subst e1
      rw [he]
      grind
    · have tn := tri_bound (n := n) (by omega) (by omega)
      have es : sumO 1 n 1 = (tri n, true) := by unfold sumO; rw [if_pos ⟨⟨by omega, by omega, by omega⟩, by omega, by omega⟩, sumH_one, tri_0', Int.sub_zero]
      refine ev_neg c (ev_bind (implSum_eq 1 n 1) ?_)
      rw [es]
      have hc : ((((rl S 1 1500).length : Int) == 0) != (x == 1)) = false := by
        rw [rl_len]
        by_cases c1 : x = 1
        · subst c1
          have hz : (ml S 1 1500).length = 0 := by
            cases hml : ml S 1 1500 with
            | nil => rfl
            | cons m t =>
              exfalso
              have hm : m ∈ ml S 1 1500 := by rw [hml]; exact List.mem_cons_self ..
              obtain ⟨g1, _, g3⟩ := (ml_mem S 1 m 1500).mp hm
              exact runs_none (e := e) (by rw [he, Int.one_mul]) g1 hS.2 g3
          rw [hz]; rfl
        · have := runs_some hS.2 he (by omega) (by omega) hp
          have h3 : (((ml S 1 1500).length : Int) == 0) = false := beq_eq_false_iff_ne.mpr (by omega)
          have h4 : (x == 1) = false := beq_eq_false_iff_ne.mpr c1
          rw [h3, h4]; rfl
      rw [hc]
      refine ev_neg (by decide) (ev_pos rfl (ev_pos ?_ j))
      show wrap64 (tri n - (tri n - S)) = S
      rw [show tri n - (tri n - S) = S by omega]
      exact wrap_of (by omega) (by omega)
theorem row_len' (x y : Int) : (([x, y] : List Int).length : Int) = 2 := rfl
theorem row_0' (x y : Int) : rd [x, y] 0 = x := rfl
theorem row_1' (x y : Int) : rd [x, y] 1 = y := rfl
theorem hl1 (l : List Int) (hl : Bytes l) (S n : Int) (hS : 1 ≤ S ∧ S ≤ 1000000) (hn : 2 ≤ n ∧ n ≤ 2000) : ∀ (d i : Nat), i + d = (rl S 2 1500).length →
    Ev (fun k => laws_FnHousesRun.l1 k l S ((rl S 1 1500).length : Int) (rl S 2 1500) n (tri n - S) (rl S 2 1500) ((rl S 2 1500).length : Int) (i : Int)) true := by
  have hlen := rl_len S 2 1500
  have hml := ml_len S 2 1500
  intro d
  induction d with
  | zero =>
    intro i hi
    refine ev_succ ?_
    simp only [laws_FnHousesRun.l1]
    exact ev_neg (by omega) (hl2 l hl S n hS hn S.toNat S 0 (Nat.le_refl _) hS.1 (by rw [Int.pow_zero, Int.mul_one]))
  | succ d ih =>
    intro i hi
    have ihh := ih (i + 1) (by omega)
    have hi2 : i < (ml S 2 1500).length := by omega
    obtain ⟨m2, m3, mg⟩ := ml_rd hi2
    obtain ⟨f1, f2, f3, f4⟩ := good_facts hS.2 ⟨by omega, by omega⟩ m2 mg
    have fs := good_sum hS.2 ⟨by omega, by omega⟩ m2 mg
    refine ev_succ ?_
    simp only [laws_FnHousesRun.l1]
    rw [rl_rd hi2, wrap_nat (i := i) (by omega)]
    have hless : ∀ i' : Nat, i' + 1 = i → lft S 2 (rd (ml S 2 1500) (i' : Int)) / rd (ml S 2 1500) (i' : Int) < lft S 2 (rd (ml S 2 1500) (i : Int)) / rd (ml S 2 1500) (i : Int) := by
      intro i' hi'
      exact good_less hS.2 ⟨by omega, by omega⟩ m2 (ml_lt (by omega) hi2) mg (ml_rd (by omega)).2.2
    generalize hM : rd (ml S 2 1500) (i : Int) = m at *
    unfold row
    rw [row_len', row_0', row_1']
    generalize lft S 2 m / m = a at *
    rw [wrap_of (x := a + 2 * (m - 1) - a) (by omega) (by omega), tmod2 (x := a + 2 * (m - 1) - a) (by omega)]
    have tail : Ev (fun k => (impl_SumOfHouses.f a (a + 2 * (m - 1)) 2).bind fun bt381 => (if bt381.2 = true then (if bt381.1 = S then (laws_FnHousesRun.l1 k l S ((rl S 1 1500).length : Int) (rl S 2 1500) n (tri n - S) (rl S 2 1500) ((rl S 2 1500).length : Int) ((i + 1 : Nat) : Int)) else (some false)) else (some false))) true := by
      refine ev_bind (implSum_eq _ _ _) ?_
      rw [fs]
      exact ev_pos rfl (ev_pos rfl ihh)
    refine ev_pos (by omega) (ev_pos (by omega) (ev_pos (by omega) (ev_pos rfl (ev_pos (by omega) (ev_pos (by omega) (ev_neg (by omega) (ev_pos (by omega) ?_)))))))
    by_cases z : i = 0
    · exact ev_neg (by omega) tail
    · have e : wrap64 ((i : Int) - 1) = ((i - 1 : Nat) : Int) := by rw [wrap_of (by omega) (by omega)]; omega
      have hq := hless (i - 1) (by omega)
      rw [e, rl_rd (S := S) (t := 2) (j := 1500) (i := i - 1) (by omega)]
      unfold row
      rw [row_len', row_0']
      exact ev_pos (by omega) (ev_pos (by omega) (ev_pos (by omega) (ev_pos (by omega) (ev_neg (by omega) tail))))
theorem hl0 (l : List Int) (hl : Bytes l) (S n x14 x15 : Int) (hS : 1 ≤ S ∧ S ≤ 1000000) (hn : 2 ≤ n ∧ n ≤ 2000)
    (hx : 0 < (ml S 1 1500).length → wrap64 (x15 - x14) = rd (ml S 1 1500) 0 - 1) : ∀ (d i : Nat), i + d = (rl S 1 1500).length →
    Ev (fun k => laws_FnHousesRun.l0 k l S (rl S 1 1500) ((rl S 1 1500).length : Int) x14 x15 (rl S 2 1500) n (tri n - S) (rl S 1 1500) ((rl S 1 1500).length : Int) (i : Int)) true := by
  have hlen := rl_len S 1 1500
  have hml := ml_len S 1 1500
  intro d
  induction d with
  | zero =>
    intro i hi
    have j := hl1 l hl S n hS hn (rl S 2 1500).length 0 (by omega)
    refine ev_succ ?_
    simp only [laws_FnHousesRun.l0]
    exact ev_neg (by omega) j
  | succ d ih =>
    intro i hi
    have ihh := ih (i + 1) (by omega)
    have hi2 : i < (ml S 1 1500).length := by omega
    obtain ⟨m2, m3, mg⟩ := ml_rd hi2
    obtain ⟨f1, f2, f3, f4⟩ := good_facts hS.2 ⟨by omega, by omega⟩ m2 mg
    have fs := good_sum hS.2 ⟨by omega, by omega⟩ m2 mg
    have hx2 := hx (by omega)
    have hfirst : rd (ml S 1 1500) (i : Int) ≤ rd (ml S 1 1500) 0 := by
      by_cases z : i = 0
      · subst z; exact Int.le_refl _
      · have := ml_lt (S := S) (t := 1) (j := 1500) (i := 0) (i' := i) (by omega) hi2
        have e : ((0 : Nat) : Int) = 0 := rfl
        rw [e] at this
        omega
    rw [← hlen] at hi2
    refine ev_succ ?_
    simp only [laws_FnHousesRun.l0]
    rw [hx2]
    rw [hlen] at hi2
    rw [rl_rd hi2, wrap_nat (i := i) (by omega)]
    have hless : ∀ i' : Nat, i' + 1 = i → lft S 1 (rd (ml S 1 1500) (i' : Int)) / rd (ml S 1 1500) (i' : Int) < lft S 1 (rd (ml S 1 1500) (i : Int)) / rd (ml S 1 1500) (i : Int) := by
      intro i' hi'
      exact good_less hS.2 ⟨by omega, by omega⟩ m2 (ml_lt (by omega) hi2) mg (ml_rd (by omega)).2.2
    generalize hM : rd (ml S 1 1500) (i : Int) = m at *
    generalize hM0 : rd (ml S 1 1500) 0 = m0 at *
    unfold row
    rw [row_len', row_0', row_1']
    generalize lft S 1 m / m = a at *
    rw [wrap_of (x := a + 1 * (m - 1) - a) (by omega) (by omega)]
    have tail : Ev (fun k => (impl_SumOfHouses.f a (a + 1 * (m - 1)) 1).bind fun bt381 => (if bt381.2 = true then (if bt381.1 = S then (laws_FnHousesRun.l0 k l S (rl S 1 1500) ((rl S 1 1500).length : Int) x14 x15 (rl S 2 1500) n (tri n - S) (rl S 1 1500) ((rl S 1 1500).length : Int) ((i + 1 : Nat) : Int)) else (some false)) else (some false))) true := by
      refine ev_bind (implSum_eq _ _ _) ?_
      rw [fs]
      exact ev_pos rfl (ev_pos rfl ihh)
    refine ev_pos (by omega) (ev_pos (by omega) (ev_pos (by omega) (ev_pos rfl (ev_pos (by omega) (ev_pos (by omega) (ev_neg (by omega) ?_))))))
    by_cases z : i = 0
    · exact ev_neg (by omega) (ev_neg (by omega) tail)
    · have e : wrap64 ((i : Int) - 1) = ((i - 1 : Nat) : Int) := by rw [wrap_of (by omega) (by omega)]; omega
      have hq := hless (i - 1) (by omega)
      rw [e, rl_rd (S := S) (t := 1) (j := 1500) (i := i - 1) (by omega)]
      unfold row
      rw [row_len', row_0']
      exact ev_pos (by omega) (ev_pos (by omega) (ev_pos (by omega) (ev_pos (by omega) (ev_neg (by omega) (ev_neg (by omega) tail)))))
/-- the longest run -/
def longO (S : Int) : Int × Int × Bool := if ((rl S 1 1500).length : Int) = 0 then (0, 0, false) else (rd (rd_L2 (rl S 1 1500) 0) 0, rd (rd_L2 (rl S 1 1500) 0) 1, true)
theorem rl_row0 {S t : Int} (h : ¬ ((rl S t 1500).length : Int) = 0) : rd_L2 (rl S t 1500) 0 = row S t (rd (ml S t 1500) 0) := by
  have := rl_len S t 1500
  exact rl_rd (S := S) (t := t) (j := 1500) (i := 0) (by omega)
theorem long_tail (S : Int) : (if ((rl S 1 1500).length : Int) = 0 then (some ((0, 0, false) : Int × Int × Bool)) else (if 0 < ((rl S 1 1500).length : Int) then (if 0 < ((rd_L2 (rl S 1 1500) 0).length : Int) then (if 1 < ((rd_L2 (rl S 1 1500) 0).length : Int) then (some (rd (rd_L2 (rl S 1 1500) 0) 0, rd (rd_L2 (rl S 1 1500) 0) 1, true)) else none) else none) else none)) = some (longO S) := by
  unfold longO
  by_cases c : ((rl S 1 1500).length : Int) = 0
  · rw [if_pos c, if_pos c]
  · rw [if_neg c, if_neg c, if_pos (by omega)]
    have e : ((rd_L2 (rl S 1 1500) 0).length : Int) = 2 := by rw [rl_row0 c]; rfl
    rw [e, if_pos (by omega), if_pos (by omega)]
theorem rl_rows (S t : Int) : ∀ i : Nat, i < (rl S t 1500).length → (rd_L2 (rl S t 1500) (i : Int)).length ≤ 1000000 := by
  intro i hi
  rw [rl_len] at hi
  rw [rl_rd hi]
  show 2 ≤ 1000000
  omega
theorem runs_law (l0 l1 : List Int) (h0 : Bytes l0) (h1 : Bytes l1) : Ev (fun k => laws_FnHousesRun.f k l0 l1) true := by
  obtain ⟨S, hd⟩ := drawRuns_ok l0 h0
  have hbig : ∃ t, laws_big.f l0 l1 = some t := by unfold laws_big.f; split <;> exact ⟨_, rfl⟩
  obtain ⟨t, ht⟩ := hbig
  have j4 := hj4 l1 h1
  unfold laws_FnHousesRun.f
  refine ev_bind ht ?_
  by_cases ct : t = true
  · exact ev_pos ct (ev_eq fun _ => rfl)
  refine ev_neg ct (ev_bind hd ?_)
  by_cases hS : 1 ≤ S ∧ S ≤ 1000000
  · have i1 := implRuns_ev S 1 hS ⟨by omega, by omega⟩
    have s1 := specRuns_ev S 1 hS ⟨by omega, by omega⟩
    have i2 := implRuns_ev S 2 hS ⟨by omega, by omega⟩
    have s2 := specRuns_ev S 2 hS ⟨by omega, by omega⟩
    obtain ⟨n, n1, n2, n3, n4, im, sm⟩ := missing_ok S hS
    have hc1 : decide (1 ≤ S ∧ S ≤ 1000000) = true := decide_eq_true hS
    have a1 : Ev (fun k => impl_RunsWithSum.f k S) (rl S 1 1500, true) := by
      unfold impl_RunsWithSum.f
      exact ev_bind (isRunSum_eq S) (ev_pos hc1 (Ev.bind i1 (ev_eq fun _ => rfl)))
    have a2 : Ev (fun k => spec_RunsWithSum.f k S) (rl S 1 1500, true) := by
      unfold spec_RunsWithSum.f
      exact ev_bind (hoAsked_eq S) (ev_pos hc1 (Ev.bind s1 (ev_eq fun _ => rfl)))
    have a3 : Ev (fun k => impl_CountRuns.f k S) (((rl S 1 1500).length : Int), true) := by
      unfold impl_CountRuns.f
      exact Ev.bind a1 (ev_eq fun _ => rfl)
    have a4 : Ev (fun k => spec_CountRuns.f k S) (((rl S 1 1500).length : Int), true) := by
      unfold spec_CountRuns.f
      exact ev_bind (hoAsked_eq S) (ev_pos hc1 (Ev.bind s1 (ev_eq fun _ => rfl)))
    have a5 : Ev (fun k => impl_LongestRun.f k S) (longO S) := by
      unfold impl_LongestRun.f
      exact Ev.bind a1 (ev_eq fun _ => long_tail S)
    have a6 : Ev (fun k => spec_LongestRun.f k S) (longO S) := by
      unfold spec_LongestRun.f
      exact ev_bind (hoAsked_eq S) (ev_pos hc1 (Ev.bind s1 (ev_eq fun _ => long_tail S)))
    have a7 : Ev (fun k => impl_RunsOnSide.f k S) (rl S 2 1500, true) := by
      unfold impl_RunsOnSide.f
      exact ev_bind (isRunSum_eq S) (ev_pos hc1 (Ev.bind i2 (ev_eq fun _ => rfl)))
    have a8 : Ev (fun k => spec_RunsOnSide.f k S) (rl S 2 1500, true) := by
      unfold spec_RunsOnSide.f
      exact ev_bind (hoAsked_eq S) (ev_pos hc1 (Ev.bind s2 (ev_eq fun _ => rfl)))
    have a9 : Ev (fun k => impl_MissingHouse.f k S) (n, tri n - S, true) := by
      unfold impl_MissingHouse.f
      exact ev_bind (isRunSum_eq S) (ev_pos hc1 im)
    have a10 : Ev (fun k => spec_MissingHouse.f k S) (n, tri n - S, true) := by
      unfold spec_MissingHouse.f
      exact ev_bind (hoAsked_eq S) (ev_pos hc1 sm)
    have r1 := iRows_ev (rl S 1 1500) (by have := rl_len S 1 1500; have := ml_len S 1 1500; omega) (rl_rows S 1)
    have r2 := iRows_ev (rl S 2 1500) (by have := rl_len S 2 1500; have := ml_len S 2 1500; omega) (rl_rows S 2)
    have ts := tri_step (n - 1)
    rw [show n - 1 + 1 = n by omega] at ts
    have hj : ((longO S).2.2 != decide (((rl S 1 1500).length : Int) > 0)) = false := by
      unfold longO
      by_cases c : ((rl S 1 1500).length : Int) = 0
      · rw [if_pos c, show decide (((rl S 1 1500).length : Int) > 0) = false from decide_eq_false (by omega)]; rfl
      · rw [if_neg c, show decide (((rl S 1 1500).length : Int) > 0) = true from decide_eq_true (by omega)]; rfl
    have j0 : Ev (fun k => laws_FnHousesRun.j0 k l1 S (rl S 1 1500) true ((rl S 1 1500).length : Int) (longO S).1 (longO S).2.1 (rl S 2 1500) n (tri n - S) false) true := by
      refine ev_succ ?_
      simp only [laws_FnHousesRun.j0]
      refine ev_neg (by decide) (ev_pos trivial (ev_pos trivial (ev_neg (by omega) (ev_neg (by omega) (ev_neg (by omega) ?_)))))
      refine hl0 l1 h1 S n _ _ hS ⟨n1, n2⟩ (fun hp => ?_) (rl S 1 1500).length 0 (by omega)
      have hlen := rl_len S 1 1500
      have hz : ¬ ((rl S 1 1500).length : Int) = 0 := by omega
      obtain ⟨m2, m3, mg⟩ := ml_rd (S := S) (t := 1) (j := 1500) (i := 0) hp
      have e0 : ((0 : Nat) : Int) = 0 := rfl
      rw [e0] at m2 m3 mg
      obtain ⟨f1, f2, f3, f4⟩ := good_facts hS.2 ⟨by omega, by omega⟩ m2 mg
      unfold longO
      rw [if_neg hz, rl_row0 hz]
      show wrap64 (rd (row S 1 (rd (ml S 1 1500) 0)) 1 - rd (row S 1 (rd (ml S 1 1500) 0)) 0) = _
      unfold row
      rw [row_0', row_1']
      rw [wrap_of (by omega) (by omega)]
      omega
    refine Ev.bind a1 (Ev.bind a2 (Ev.bind a3 (Ev.bind a4 (Ev.bind a5 (Ev.bind a6 (Ev.bind a7 (Ev.bind a8 (Ev.bind a9 (Ev.bind a10 ?_)))))))))
    refine ev_neg (by simp) (Ev.bind r1 (ev_pos rfl (ev_neg (by simp) (ev_pos rfl (ev_neg (by simp) (ev_pos rfl (ev_pos rfl (ev_neg (by simp) (Ev.bind r2 (ev_pos rfl (ev_neg (by simp) (ev_pos rfl (ev_pos rfl (ev_neg (by simp) (ev_neg (by simp) (ev_neg (by simp) (ev_pos rfl ?_)))))))))))))))))
    show Ev (fun k => laws_FnHousesRun.j0 k l1 S (rl S 1 1500) true ((rl S 1 1500).length : Int) (longO S).1 (longO S).2.1 (rl S 2 1500) n (tri n - S) ((longO S).2.2 != decide (((rl S 1 1500).length : Int) > 0))) true
    rw [hj]
    exact j0
  · have hc1 : ¬ decide (1 ≤ S ∧ S ≤ 1000000) = true := by simpa using hS
    have a1 : Ev (fun k => impl_RunsWithSum.f k S) (([] : List (List Int)), false) := by
      unfold impl_RunsWithSum.f
      exact ev_bind (isRunSum_eq S) (ev_neg hc1 (ev_eq fun _ => rfl))
    have a2 : Ev (fun k => spec_RunsWithSum.f k S) (([] : List (List Int)), false) := by
      unfold spec_RunsWithSum.f
      exact ev_bind (hoAsked_eq S) (ev_neg hc1 (ev_eq fun _ => rfl))
    have a3 : Ev (fun k => impl_CountRuns.f k S) ((0 : Int), false) := by
      unfold impl_CountRuns.f
      exact Ev.bind a1 (ev_eq fun _ => rfl)
    have a4 : Ev (fun k => spec_CountRuns.f k S) ((0 : Int), false) := by
      unfold spec_CountRuns.f
      exact ev_bind (hoAsked_eq S) (ev_neg hc1 (ev_eq fun _ => rfl))
    have a5 : Ev (fun k => impl_LongestRun.f k S) ((0 : Int), (0 : Int), false) := by
      unfold impl_LongestRun.f
      exact Ev.bind a1 (ev_pos rfl (ev_eq fun _ => rfl))
    have a6 : Ev (fun k => spec_LongestRun.f k S) ((0 : Int), (0 : Int), false) := by
      unfold spec_LongestRun.f
      exact ev_bind (hoAsked_eq S) (ev_neg hc1 (ev_eq fun _ => rfl))
    have a7 : Ev (fun k => impl_RunsOnSide.f k S) (([] : List (List Int)), false) := by
      unfold impl_RunsOnSide.f
      exact ev_bind (isRunSum_eq S) (ev_neg hc1 (ev_eq fun _ => rfl))
    have a8 : Ev (fun k => spec_RunsOnSide.f k S) (([] : List (List Int)), false) := by
      unfold spec_RunsOnSide.f
      exact ev_bind (hoAsked_eq S) (ev_neg hc1 (ev_eq fun _ => rfl))
    have a9 : Ev (fun k => impl_MissingHouse.f k S) ((0 : Int), (0 : Int), false) := by
      unfold impl_MissingHouse.f
      exact ev_bind (isRunSum_eq S) (ev_neg hc1 (ev_eq fun _ => rfl))
    have a10 : Ev (fun k => spec_MissingHouse.f k S) ((0 : Int), (0 : Int), false) := by
      unfold spec_MissingHouse.f
      exact ev_bind (hoAsked_eq S) (ev_neg hc1 (ev_eq fun _ => rfl))
    have r1 := iRows_ev ([] : List (List Int)) (by decide) (fun i hi => by cases hi)
    refine Ev.bind a1 (Ev.bind a2 (Ev.bind a3 (Ev.bind a4 (Ev.bind a5 (Ev.bind a6 (Ev.bind a7 (Ev.bind a8 (Ev.bind a9 (Ev.bind a10 ?_)))))))))
    refine ev_neg (by simp) (Ev.bind r1 (ev_pos rfl (ev_neg (by simp) (ev_pos rfl (ev_neg (by simp) (ev_pos rfl (ev_pos rfl (ev_neg (by simp) (Ev.bind r1 (ev_pos rfl (ev_neg (by simp) (ev_pos rfl (ev_pos rfl (ev_neg (by simp) (ev_neg (by simp) (ev_neg (by simp) (ev_neg (by simp) ?_)))))))))))))))))
    refine ev_succ ?_
    simp only [laws_FnHousesRun.j0]
    exact ev_neg (by decide) (ev_neg (by decide) j4)
theorem FnHousesRun : laws_FnHousesRun.Pure := by
  intro l0 l1 _ _ h0 _ _ h1
  obtain ⟨K, hK⟩ := runs_law l0 l1 h0 h1
  exact ⟨K, hK K (Nat.le_refl _)⟩

end Go.Proofs.Ytjhmocngcnnfdaa.Pure
