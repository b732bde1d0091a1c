/- TicketsGuessed: solutions fit all clues and come in order, sure digits are those of all, needless clues change nothing, and texts are read back (numbers, lists and texts alone). -/
import Derived.Test.YtmfbjhkhgkphcaaGreatDoorPureFnTicketsGuessedK
import Derived.Test.YtmfbjhkhgkphcaaGreatDoorPFnTicketsGuessedx20
namespace Go.Proofs.YtmfbjhkhgkphcaaGreatDoor.Pure
open Go.RowKit Go.Proofs.YtmfbjhkhgkphcaaGreatDoor.PFnTicketsGuessed Go.Proofs.YtmfbjhkhgkphcaaGreatDoorW.PrintWords Go.Proofs.YtmfbjhkhgkphcaaGreatDoorW.PrintLast
set_option linter.unusedVariables false
set_option linter.unusedSimpArgs false

/-! ### what the law's own functions tell -/
theorem hbne (a : Bool) : ¬ (a != a) = true := by simp
theorem goodB_of {c : List C2} (h6 : c.length ≤ 6) (h : ∀ x ∈ c, clueS x = true) : goodB c = true := by
  unfold goodB
  rw [Bool.and_eq_true, decide_eq_true_eq, List.all_eq_true]
  exact ⟨h6, h⟩
theorem good_all {c : List C2} (h : goodB c = true) : ∀ x ∈ c, clueS x = true := List.all_eq_true.mp (all_good h)
theorem rd_mem (c : List C2) (i : Nat) (h : i < c.length) : rd_T46 c (i : Int) ∈ c := by
  rw [rd_at c i h]; exact List.getElem_mem h
theorem rdi_at (l : List Int) (i : Nat) (h : i < l.length) : rd l (i : Int) = l[i] := by
  unfold rd
  rw [Int.toNat_natCast, List.getD_eq_getElem?_getD, List.getElem?_eq_getElem h]; rfl
theorem iSm_loop (c : List Int) (hc : c.length ≤ 1000000) : ∀ (d i : Nat), i + d = c.length → Ev (fun k => laws_iSame.l0 k c c (c.length : Int) (i : Int)) true := by
  intro d
  induction d with
  | zero =>
    intro i hi
    refine ev_succ ?_
    simp only [laws_iSame.l0]
    exact ev_neg (by omega) (ev_eq fun _ => rfl)
  | succ d ih =>
    intro i hi
    refine ev_succ ?_
    simp only [laws_iSame.l0]
    rw [wrap_nat (by omega)]
    exact ev_pos (by omega) (ev_pos (by omega) (ev_pos (by omega) (ev_pos (by omega) (ev_pos trivial (ih (i + 1) (by omega))))))
theorem iSm_ev (c : List Int) (hc : c.length ≤ 1000000) : Ev (fun k => laws_iSame.f k c c) true := by
  unfold laws_iSame.f
  exact ev_pos rfl (iSm_loop c hc c.length 0 (by omega))
theorem iHas_loop (a : Int) (c : List Int) (hc : c.length ≤ 1000000) : ∀ (d i : Nat), i + d = c.length → Ev (fun k => laws_iHas.l0 k a c (c.length : Int) (i : Int)) ((c.drop i).any (· == a)) := by
  intro d
  induction d with
  | zero =>
    intro i hi
    refine ev_succ ?_
    simp only [laws_iHas.l0]
    rw [List.drop_eq_nil_of_le (by omega)]
    exact ev_neg (by omega) (ev_eq fun _ => rfl)
  | succ d ih =>
    intro i hi
    have hlt : i < c.length := by omega
    refine ev_succ ?_
    simp only [laws_iHas.l0]
    rw [wrap_nat (by omega), rdi_at c i hlt, List.drop_eq_getElem_cons hlt, List.any_cons]
    refine ev_pos (by omega) (ev_pos (by omega) (ev_pos (by omega) ?_))
    by_cases q : c[i] = a
    · exact ev_pos q (ev_eq fun _ => by simp [q])
    · rw [show (c[i] == a) = false from beq_eq_false_iff_ne.mpr q, Bool.false_or]
      exact ev_neg q (ih (i + 1) (by omega))
theorem iHas_ev (a : Int) (c : List Int) (hc : c.length ≤ 1000000) : Ev (fun k => laws_iHas.f k c a) (c.any (· == a)) := by
  unfold laws_iHas.f
  exact iHas_loop a c hc c.length 0 (by omega)
/-! ### solutions rise -/
theorem bl_app : ∀ (a b x y : List UInt8), a.length = b.length → Op.bytesLess a b = true → Op.bytesLess (a ++ x) (b ++ y) = true
  | [], [], _, _, _, h => by simp [Op.bytesLess] at h
  | p :: a, q :: b, x, y, hl, h => by
    simp only [List.cons_append, Op.bytesLess, Bool.or_eq_true, Bool.and_eq_true, decide_eq_true_eq, beq_iff_eq] at h ⊢
    rcases h with h | ⟨h1, h2⟩
    · exact .inl h
    · exact .inr ⟨h1, bl_app a b x y (by simpa using hl) h2⟩
theorem bl_same : ∀ (a x y : List UInt8), Op.bytesLess x y = true → Op.bytesLess (a ++ x) (a ++ y) = true
  | [], _, _, h => h
  | p :: a, x, y, h => by
    simp only [List.cons_append, Op.bytesLess, Bool.or_eq_true, Bool.and_eq_true, decide_eq_true_eq, beq_iff_eq]
    exact .inr ⟨trivial, bl_same a x y h⟩
theorem pre_list (j p : Nat) : (pre (j + 1) p).data.toList = (pre j (p / 6)).data.toList ++ [UInt8.ofNat (48 + p % 6)] := by
  rw [pre, dg, ByteArray.data_append, Array.toList_append]
theorem pre_less : ∀ (j p q : Nat), p < q → q < 6 ^ j → Op.bytesLess (pre j p).data.toList (pre j q).data.toList = true
  | 0, p, q, h, hq => by simp at hq; omega
  | j + 1, p, q, h, hq => by
    rw [pre_list, pre_list]
    by_cases e : p / 6 = q / 6
    · rw [e]
      refine bl_same _ _ _ ?_
      simp only [Op.bytesLess, Bool.or_eq_true, Bool.and_eq_true, decide_eq_true_eq, beq_iff_eq]
      refine .inl (UInt8.lt_iff_toNat_lt.mpr ?_)
      rw [UInt8.toNat_ofNat', UInt8.toNat_ofNat']
      omega
    · refine bl_app _ _ _ _ ?_ (pre_less j (p / 6) (q / 6) (by omega) (by rw [Nat.pow_succ] at hq; omega))
      have h1 := pre_size j (p / 6)
      have h2 := pre_size j (q / 6)
      rw [size_len, size_len, h1, h2]
def Rl (a b : ByteArray) : Prop := Op.bytesLess a.toList b.toList = true
theorem tk_less (m n : Nat) (h : m < n) (hn : n < 1296) : Rl (tk m) (tk n) := by
  unfold Rl
  rw [Lib.toList_data, Lib.toList_data]
  exact pre_less 4 m n h (by omega)
theorem sg_facts (l : List C2) : ∀ (c n : Nat), n + c ≤ 1296 → (sg l c n []).Pairwise Rl ∧ ∀ t ∈ sg l c n [], ∃ m, n ≤ m ∧ m < n + c ∧ t = tk m ∧ okT l m = true
  | 0, n, _ => ⟨List.Pairwise.nil, fun t h => absurd h (by simp [sg])⟩
  | c + 1, n, h => by
    obtain ⟨h1, h2⟩ := sg_facts l c (n + 1) (by omega)
    have e : sg l (c + 1) n [] = (if okT l n = true then [tk n] else []) ++ sg l c (n + 1) [] := by
      show sg l c (n + 1) (if okT l n = true then [] ++ [tk n] else []) = _
      rw [sg_app, List.nil_append]
    rw [e]
    by_cases q : okT l n = true
    · rw [if_pos q]
      refine ⟨List.Pairwise.cons (fun t ht => ?_) h1, fun t ht => ?_⟩
      · obtain ⟨m, g1, g2, rfl, _⟩ := h2 t ht
        exact tk_less n m (by omega) (by omega)
      · rcases List.mem_cons.mp ht with rfl | ht
        · exact ⟨n, by omega, by omega, rfl, q⟩
        · obtain ⟨m, g1, g2, g3, g4⟩ := h2 t ht
          exact ⟨m, by omega, by omega, g3, g4⟩
    · rw [if_neg q, List.nil_append]
      refine ⟨h1, fun t ht => ?_⟩
      obtain ⟨m, g1, g2, g3, g4⟩ := h2 t ht
      exact ⟨m, by omega, by omega, g3, g4⟩
theorem sol_rise (c : List C2) : (sol c).Pairwise Rl := by
  rw [sol]; exact (sg_facts c 1296 0 (by omega)).1
theorem sol_mem (c : List C2) (t : ByteArray) (h : t ∈ sol c) : ∃ m, m < 1296 ∧ t = tk m ∧ okT c m = true := by
  rw [sol] at h
  obtain ⟨m, _, g2, g3, g4⟩ := (sg_facts c 1296 0 (by omega)).2 t h
  exact ⟨m, by omega, g3, g4⟩
theorem sg_none : ∀ (c n : Nat), (sg [] c n []).length = c
  | 0, _ => rfl
  | c + 1, n => by
    show (sg [] c (n + 1) (if okT [] n = true then [] ++ [tk n] else [])).length = _
    rw [if_pos (show okT [] n = true from rfl), sg_app, List.length_append, sg_none c (n + 1)]
    simp; omega
theorem sol_none : (sol []).length = 1296 := by rw [sol, sg_none]
theorem iRi_loop (c : List ByteArray) (hc : c.length ≤ 1000000) (hr : c.Pairwise Rl) : ∀ (d i : Nat), (i + 1) + d = c.length → Ev (fun k => laws_iRisen.l0 k c ((i + 1 : Nat) : Int)) true := by
  intro d
  induction d with
  | zero =>
    intro i hi
    refine ev_succ ?_
    simp only [laws_iRisen.l0]
    exact ev_neg (by omega) (ev_eq fun _ => rfl)
  | succ d ih =>
    intro i hi
    refine ev_succ ?_
    simp only [laws_iRisen.l0]
    rw [wrap_nat (by omega), show wrap64 (((i + 1 : Nat) : Int) - 1) = (i : Int) by rw [wrap_of (by omega) (by omega)]; omega, rds_at c i (by omega), rds_at c (i + 1) (by omega)]
    have := List.pairwise_iff_getElem.mp hr i (i + 1) (by omega) (by omega) (by omega)
    exact ev_pos (by omega) (ev_pos (by omega) (ev_pos (by omega) (ev_pos (by omega) (ev_pos this (ih (i + 1) (by omega))))))
theorem iRi_ev (c : List ByteArray) (hc : c.length ≤ 1000000) (hr : c.Pairwise Rl) : Ev (fun k => laws_iRisen.f k c) true := by
  unfold laws_iRisen.f
  by_cases h0 : c.length = 0
  · refine ev_succ ?_
    simp only [laws_iRisen.l0]
    exact ev_neg (by omega) (ev_eq fun _ => rfl)
  · exact iRi_loop c hc hr (c.length - 1) 0 (by omega)
/-! ### spoilt texts -/
theorem ex_size (t : ByteArray) (i j : Nat) (h : j ≤ t.size) : (t.extract i j).size = j - i := by rw [ByteArray.size_extract]; omega
theorem sp_ok (l : List Int) (hl : Bytes l) (x2 : ByteArray) (h2 : x2.size = 10) : ∀ (d : Nat) (t : ByteArray) (a s : Int), d ≤ 10 → t.size + d ≤ 1000 → 0 ≤ a → a + 6 * d ≤ 800000000000 → ∃ r a' s', Ev (fun k => spec_l1Cur_spoilt.l0 k t x2 (d : Int) l a s) (r, a', s') ∧ r.size ≤ t.size + d := by
  have stop : ∀ (t : ByteArray) (x a s : Int), Ev (fun k => spec_l1Cur_spoilt.j1 k t x2 x false l a s) (t, a, s) := fun t x a s => ev_succ (by simp only [spec_l1Cur_spoilt.j1]; exact ev_neg (by decide) (ev_eq fun _ => rfl))
  intro d
  induction d with
  | zero =>
    intro t a s _ _ _ _
    refine ⟨t, a, s, ev_succ ?_, by omega⟩
    simp only [spec_l1Cur_spoilt.l0]
    exact ev_neg (by omega) (stop _ _ _ _)
  | succ d ih =>
    intro t a s hd ht h0 h1
    by_cases q : (t.size : Int) > 0
    · obtain ⟨p, a1, s1, e1, p0, p1, g1, g2⟩ := pick_ok l hl a s (t.size : Int) h0 (by omega)
      obtain ⟨b, a2, s2, e2, b0, b1, g3, g4⟩ := pick_ok l hl a1 s1 (x2.size : Int) (by omega) (by omega)
      obtain ⟨w, a3, s3, e3, w0, w1, g5, g6⟩ := pick_ok l hl a2 s2 3 (by omega) (by omega)
      obtain ⟨n, rfl⟩ : ∃ n : Nat, p = (n : Int) := ⟨p.toNat, by omega⟩
      have hn : n < t.size := by omega
      have s0 : (strOfNums ([bt x2 b] : List Int)).size = 1 := rfl
      have z1 : (t.extract 0 n).size = n := by rw [ex_size t 0 n (by omega)]; omega
      have z2 : (t.extract n t.size).size = t.size - n := ex_size t n t.size (by omega)
      have z3 : (t.extract (n + 1) t.size).size = t.size - (n + 1) := ex_size t (n + 1) t.size (by omega)
      have ed : wrap64 (((d + 1 : Nat) : Int) - 1) = (d : Int) := by rw [wrap_of (by omega) (by omega)]; omega
      have top : ∀ {r : ByteArray × Int × Int}, Ev (fun k => spec_l1Cur_spoilt.j1 k t x2 ((d + 1 : Nat) : Int) true l a s) r → Ev (fun k => spec_l1Cur_spoilt.l0 k t x2 ((d + 1 : Nat) : Int) l a s) r := fun h => ev_succ (by
        simp only [spec_l1Cur_spoilt.l0]
        rw [decide_eq_true q]
        exact ev_pos (by omega) h)
      by_cases c0 : w = 0
      · obtain ⟨r, a', s', hr, hz⟩ := ih ((t.extract 0 n ++ strOfNums ([bt x2 b] : List Int)) ++ t.extract n t.size) a3 s3 (by omega) (by rw [ByteArray.size_append, ByteArray.size_append, z1, z2, s0]; omega) (by omega) (by omega)
        rw [ByteArray.size_append, ByteArray.size_append, z1, z2, s0] at hz
        refine ⟨r, a', s', top (ev_succ ?_), by omega⟩
        simp only [spec_l1Cur_spoilt.j1]
        rw [ed]
        refine ev_pos trivial (ev_bind e1 (ev_bind e2 (ev_pos b0 (ev_pos (by omega) (ev_bind rfl (ev_bind e3 (ev_pos c0 (ev_pos (by omega) (ev_pos (by omega) ?_)))))))))
        simp only [Int.toNat_natCast]
        exact ev_pos (by rw [z1, s0]; omega) (ev_pos (by rw [ByteArray.size_append, z1, s0, z2]; omega) hr)
      · by_cases c1 : w = 1
        · obtain ⟨r, a', s', hr, hz⟩ := ih ((t.extract 0 n ++ strOfNums ([bt x2 b] : List Int)) ++ t.extract (n + 1) t.size) a3 s3 (by omega) (by rw [ByteArray.size_append, ByteArray.size_append, z1, z3, s0]; omega) (by omega) (by omega)
          rw [ByteArray.size_append, ByteArray.size_append, z1, z3, s0] at hz
          refine ⟨r, a', s', top (ev_succ ?_), by omega⟩
          simp only [spec_l1Cur_spoilt.j1]
          rw [ed]
          refine ev_pos trivial (ev_bind e1 (ev_bind e2 (ev_pos b0 (ev_pos (by omega) (ev_bind rfl (ev_bind e3 (ev_neg c0 (ev_pos c1 (ev_pos (by omega) (ev_pos (by omega) ?_))))))))))
          rw [wrap_nat (by omega)]
          simp only [Int.toNat_natCast]
          exact ev_pos (by rw [z1, s0]; omega) (ev_pos (by omega) (ev_pos (by omega) (ev_pos (by rw [ByteArray.size_append, z1, s0, z3]; omega) hr)))
        · obtain ⟨r, a', s', hr, hz⟩ := ih (t.extract 0 n ++ t.extract (n + 1) t.size) a3 s3 (by omega) (by rw [ByteArray.size_append, z1, z3]; omega) (by omega) (by omega)
          rw [ByteArray.size_append, z1, z3] at hz
          refine ⟨r, a', s', top (ev_succ ?_), by omega⟩
          simp only [spec_l1Cur_spoilt.j1]
          rw [ed]
          refine ev_pos trivial (ev_bind e1 (ev_bind e2 (ev_pos b0 (ev_pos (by omega) (ev_bind rfl (ev_bind e3 (ev_neg c0 (ev_neg c1 (ev_pos (by omega) (ev_pos (by omega) ?_))))))))))
          rw [wrap_nat (by omega)]
          simp only [Int.toNat_natCast]
          exact ev_pos (by omega) (ev_pos (by omega) (ev_pos (by rw [z1, z3]; omega) hr))
    · refine ⟨t, a, s, ev_succ ?_, by omega⟩
      simp only [spec_l1Cur_spoilt.l0]
      rw [decide_eq_false q]
      exact ev_pos (by omega) (stop _ _ _ _)
theorem dPP_ok (l : List Int) (hl : Bytes l) : ∃ t, Ev (fun k => spec_DrawParsePuzzle.f k l) t ∧ t.size ≤ 1000 := by
  unfold spec_DrawParsePuzzle.f
  obtain ⟨c, a1, s1, e1, hg, g1, g2⟩ := sure_ok2 l hl 0 0 4 (by omega) (by omega)
  have hp := good_parts hg
  have hlen := ptext_len c hp.1
  have ht := pzText_ev c hp.1 hp.2
  have hz : (mkB (ptext c)).size ≤ 54 := by rw [mk_size]; omega
  obtain ⟨b, a2, s2, e2, g3, g4⟩ := one_ok l hl a1 s1 3 (by omega) (by omega)
  by_cases q : b = true
  · obtain ⟨v, a3, s3, e3, v0, v1, g5, g6⟩ := pick_ok l hl a2 s2 2 (by omega) (by omega)
    obtain ⟨d, hd⟩ : ∃ d : Nat, wrap64 (1 + v) = (d : Int) := ⟨(wrap64 (1 + v)).toNat, by rw [wrap_of (by omega) (by omega)]; omega⟩
    have hd2 : d ≤ 2 := by rw [wrap_of (by omega) (by omega)] at hd; omega
    obtain ⟨r, a', s', hr, hsz⟩ := sp_ok l hl (⟨#[48, 49, 50, 51, 52, 53, 54, 46, 44, 120]⟩ : ByteArray) rfl d (mkB (ptext c)) a3 s3 (by omega) (by omega) (by omega) (by omega)
    refine ⟨r, Ev.bind e1 (Ev.bind ht (ev_bind e2 (ev_pos q (Ev.bind (a := (r, a', s')) ?_ (ev_eq fun _ => rfl))))), by omega⟩
    unfold spec_l1Cur_spoilt.f
    refine ev_bind e3 ?_
    rw [hd]
    exact hr
  · exact ⟨_, Ev.bind e1 (Ev.bind ht (ev_bind e2 (ev_neg q (ev_eq fun _ => rfl)))), by show (mkB (ptext c)).size ≤ 1000; omega⟩
theorem dSo_ok (l : List Int) (hl : Bytes l) : ∃ c, Ev (fun k => spec_DrawSolutions.f k l) c ∧ c.length ≤ 8 := by
  obtain ⟨r, a', s', h, hr, _⟩ := puzzle_ok l hl 0 0 (by omega) (by omega)
  refine ⟨r, ?_, hr⟩
  unfold spec_DrawSolutions.f spec_DrawIsPuzzle.f
  exact Ev.bind (Ev.bind h (ev_eq fun _ => rfl)) (ev_eq fun _ => rfl)

/-! ### the law -/
theorem U_pre (j p : Nat) (i : Nat) (h : i < j) : 48 ≤ ((pre j p).data.getD i 0).toNat ∧ ((pre j p).data.getD i 0).toNat ≤ 53 := by
  have hs : i < (pre j p).data.toList.length := by rw [size_len, pre_size]; exact h
  have ha := List.all_eq_true.mp (pre_ok j p) ((pre j p).data.toList[i]) (List.getElem_mem hs)
  unfold okc at ha
  have hb := of_decide_eq_true ha
  have e : (pre j p).data.getD i 0 = (pre j p).data.toList[i] := by
    have hz : i < (pre j p).data.size := by rw [Array.length_toList] at hs; exact hs
    rw [Array.getD_eq_getD_getElem?, Array.getElem?_eq_getElem hz]; rfl
  rw [e]; exact hb
theorem U_tk (m i : Nat) (h : i < 4) : 48 ≤ (U (tk m) i).toNat ∧ (U (tk m) i).toNat ≤ 53 := U_pre 4 m i h
theorem bt_four (h : ByteArray) (L : List ByteArray) (i : Nat) (hi : i < 4) : bt (four h L) (i : Int) = ((pd h L i).toNat : Int) := by
  rcases four_cases hi with rfl | rfl | rfl | rfl <;> rfl
theorem count_impl (c : List C2) : Ev (fun k => impl_CountSolutions.f k c) ((((solR c).1.length : Nat) : Int), (solR c).2) := by
  unfold impl_CountSolutions.f
  exact Ev.bind (implSol_ev c) (ev_eq fun _ => rfl)
theorem solR_yes {c : List C2} (h : goodB c = true) : solR c = (sol c, true) := by unfold solR; rw [if_pos h]
theorem solR_no {c : List C2} (h : goodB c = false) : solR c = ([], false) := by unfold solR; rw [if_neg (by rw [h]; decide)]
theorem count_spec (c : List C2) : Ev (fun k => spec_CountSolutions.f k c) ((((solR c).1.length : Nat) : Int), (solR c).2) := by
  unfold spec_CountSolutions.f
  cases h : goodB c with
  | true => rw [solR_yes h]; exact Ev.bind (pzGood_yes h) (ev_pos rfl (Ev.bind (pzAll_ev c (all_good h)) (ev_eq fun _ => rfl)))
  | false => rw [solR_no h]; exact Ev.bind (pzGood_no h) (ev_neg (by decide) (ev_eq fun _ => rfl))
def firstR (c : List C2) : ByteArray × Bool := if goodB c = true ∧ ((sol c).length : Int) ≠ 0 then (rdOf ByteArray.empty (sol c) 0, true) else (⟨#[]⟩, false)
theorem first_both (c : List C2) : Ev (fun k => spec_FirstSolution.f k c) (firstR c) ∧ Ev (fun k => impl_FirstSolution.f k c) (firstR c) := by
  cases hb : goodB c with
  | true =>
    by_cases h0 : ((sol c).length : Int) = 0
    · have e : firstR c = (⟨#[]⟩, false) := by unfold firstR; rw [if_neg (fun x => x.2 h0)]
      rw [e]
      refine ⟨?_, ?_⟩
      · unfold spec_FirstSolution.f
        exact Ev.bind (pzGood_yes hb) (ev_pos rfl (Ev.bind (pzAll_ev c (all_good hb)) (ev_pos h0 (ev_eq fun _ => rfl))))
      · unfold impl_FirstSolution.f
        exact Ev.bind (Solutions_yes hb) (ev_pos h0 (ev_eq fun _ => rfl))
    · have e : firstR c = (rdOf ByteArray.empty (sol c) 0, true) := by unfold firstR; rw [if_pos ⟨hb, h0⟩]
      rw [e]
      refine ⟨?_, ?_⟩
      · unfold spec_FirstSolution.f
        exact Ev.bind (pzGood_yes hb) (ev_pos rfl (Ev.bind (pzAll_ev c (all_good hb)) (ev_neg h0 (ev_pos (by omega) (ev_eq fun _ => rfl)))))
      · unfold impl_FirstSolution.f
        exact Ev.bind (Solutions_yes hb) (ev_neg h0 (ev_pos (by show 0 < ((sol c).length : Int); omega) (ev_eq fun _ => rfl)))
  | false =>
    have e : firstR c = (⟨#[]⟩, false) := by unfold firstR; rw [if_neg (fun x => by rw [hb] at x; exact Bool.noConfusion x.1)]
    rw [e]
    refine ⟨?_, ?_⟩
    · unfold spec_FirstSolution.f
      exact Ev.bind (pzGood_no hb) (ev_neg (by decide) (ev_eq fun _ => rfl))
    · unfold impl_FirstSolution.f
      exact Ev.bind (Solutions_no hb) (ev_pos rfl (ev_eq fun _ => rfl))
theorem solved_impl (c : List C2) : Ev (fun k => impl_IsSolved.f k c) (((((solR c).1.length : Nat) : Int) == 1), (solR c).2) := by
  unfold impl_IsSolved.f
  exact Ev.bind (count_impl c) (ev_eq fun _ => rfl)
theorem solved_spec (c : List C2) : Ev (fun k => spec_IsSolved.f k c) (((((solR c).1.length : Nat) : Int) == 1), (solR c).2) := by
  unfold spec_IsSolved.f spec_pzSolved.f
  cases h : goodB c with
  | true => rw [solR_yes h]; exact Ev.bind (pzGood_yes h) (ev_pos rfl (Ev.bind (Ev.bind (pzAll_ev c (all_good h)) (ev_eq fun _ => rfl)) (ev_eq fun _ => rfl)))
  | false => rw [solR_no h]; exact Ev.bind (pzGood_no h) (ev_neg (by decide) (ev_eq fun _ => rfl))
def textR (c : List C2) : ByteArray × Bool := if goodB c = true then (mkB (ptext c), true) else (⟨#[]⟩, false)
theorem text_both (c : List C2) : Ev (fun k => spec_PuzzleText.f k c) (textR c) ∧ Ev (fun k => impl_PuzzleText.f k c) (textR c) := by
  cases hg : goodB c with
  | false =>
    have e : textR c = (⟨#[]⟩, false) := by unfold textR; rw [if_neg (by rw [hg]; decide)]
    rw [e]
    refine ⟨?_, ?_⟩
    · unfold spec_PuzzleText.f
      exact Ev.bind (hg ▸ pzGood_ev _) (ev_neg (by decide) (ev_eq fun _ => rfl))
    · unfold impl_PuzzleText.f
      exact Ev.bind (hg ▸ isPuzzle_ev _) (ev_neg (by decide) (ev_eq fun _ => rfl))
  | true =>
    have e : textR c = (mkB (ptext c), true) := by unfold textR; rw [if_pos hg]
    rw [e]
    have hp := good_parts hg
    refine ⟨?_, ?_⟩
    · unfold spec_PuzzleText.f
      exact Ev.bind (hg ▸ pzGood_ev _) (ev_pos rfl (Ev.bind (pzText_ev _ hp.1 hp.2) (ev_eq fun _ => rfl)))
    · unfold impl_PuzzleText.f
      exact Ev.bind (hg ▸ isPuzzle_ev _) (ev_pos rfl (Ev.bind (puzzleText_ev _ hp.1 hp.2) (ev_eq fun _ => rfl)))
theorem nl_any (c : List C2) (many : Int) : ∀ (d i : Nat) (out : List Int) (k : Nat), i ≤ k → k < i + d → (∀ x ∈ out, x < (i : Int)) → ((nl c many d i out).any (· == (k : Int))) = (((sol (c.eraseIdx k)).length : Int) == many) := by
  have after : ∀ (d i : Nat) (out : List Int) (k : Nat), k < i → ((nl c many d i out).any (· == (k : Int))) = out.any (· == (k : Int)) := by
    intro d
    induction d with
    | zero => intro i out k _; rfl
    | succ d ih =>
      intro i out k hk
      unfold nl
      split
      · rw [ih (i + 1) _ k (by omega), List.any_append]
        have : ((i : Int) == (k : Int)) = false := beq_eq_false_iff_ne.mpr (by omega)
        simp [this]
      · exact ih (i + 1) out k (by omega)
  intro d
  induction d with
  | zero => intro i out k h1 h2; omega
  | succ d ih =>
    intro i out k h1 h2 ho
    have hno : out.any (· == (i : Int)) = false := by
      rw [List.any_eq_false]
      intro x hx
      have := ho x hx
      simp; omega
    by_cases e : k = i
    · subst e
      unfold nl
      by_cases q : ((sol (c.eraseIdx k)).length : Int) = many
      · rw [if_pos q, after d (k + 1) _ k (by omega), List.any_append, hno]
        simp [q]
      · rw [if_neg q, after d (k + 1) _ k (by omega), hno]
        exact (beq_eq_false_iff_ne.mpr q).symm
    · unfold nl
      split
      · refine ih (i + 1) _ k (by omega) (by omega) (fun x hx => ?_)
        rcases List.mem_append.mp hx with hx | hx
        · have := ho x hx; omega
        · rw [List.mem_singleton] at hx; subst hx; omega
      · exact ih (i + 1) out k (by omega) (by omega) (fun x hx => by have := ho x hx; omega)
theorem best_in (c : List C2) : ∀ (d i : Nat) (b m : Int), i + d = c.length → 0 ≤ b → b < (c.length : Int) → 0 ≤ best c d i b m ∧ best c d i b m < (c.length : Int)
  | 0, i, b, m, _, h0, h1 => ⟨h0, h1⟩
  | d + 1, i, b, m, hi, h0, h1 => by
    unfold best
    split
    · exact best_in c d (i + 1) _ _ (by omega) (by omega) (by omega)
    · exact best_in c d (i + 1) b m (by omega) h0 h1
theorem cntL_le (c : List C2) (i : Nat) : cntL c (i + 1) ≤ cntL c i := by
  unfold cntL
  have := (sol_sub (c.take (i + 1)) (c.take i) (fun x hx => by
    rw [show c.take i = (c.take (i + 1)).take i by rw [List.take_take]; congr 1; omega] at hx
    exact List.mem_of_mem_take hx)).length_le
  omega
theorem rd_left (c : List C2) (n i : Nat) (h : i < n) : rd (leftL c n) (i : Int) = cntL c i := by
  rw [rdi_at _ i (by rw [left_len]; exact h)]
  simp [leftL]
theorem j6_ev (l : List Int) (hl : Bytes l) : Ev (fun k => laws_FnTicketsGuessed.j6 k l) true := by
  obtain ⟨s, d1, hs⟩ := dPP_ok l hl
  obtain ⟨r, h6, p1, p2, p3⟩ := parse_both s (by omega)
  refine ev_succ ?_
  simp only [laws_FnTicketsGuessed.j6]
  refine Ev.bind d1 (Ev.bind p2 (Ev.bind p1 (ev_neg (hbne _) (Ev.bind (iPz_ev r.1 (by omega)) (ev_pos rfl ?_)))))
  by_cases q : r.2 = true
  · obtain ⟨hg, hs⟩ := p3 q
    have ht := (text_both r.1).2
    rw [show textR r.1 = (mkB (ptext r.1), true) by unfold textR; rw [if_pos hg]] at ht
    refine ev_pos q (Ev.bind ht (ev_pos rfl (ev_eq fun _ => ?_)))
    rw [← hs]; simp
  · exact ev_neg q (ev_eq fun _ => rfl)
theorem l3_ev (l : List Int) (hl : Bytes l) (c : List C2) (hg : goodB c = true) : ∀ (d i : Nat), i + d = c.length →
    Ev (fun k => laws_FnTicketsGuessed.l3 k l ((sol c).length : Int) (nl c ((sol c).length : Int) c.length 0 []) (leftL c (c.length + 1)) (bestR c).1 (mkB (ptext c)) (c.length : Int) (i : Int) c) true := by
  have h6 := goodB_len hg
  intro d
  induction d with
  | zero =>
    intro i hi
    refine ev_succ ?_
    simp only [laws_FnTicketsGuessed.l3]
    exact ev_neg (by omega) (Ev.bind (parse_text c hg) (ev_pos rfl (Ev.bind (iPz_ev c (by omega)) (ev_pos rfl (j6_ev l hl)))))
  | succ d ih =>
    intro i hi
    refine ev_succ ?_
    simp only [laws_FnTicketsGuessed.l3]
    have hd := implDrop_ev c (i : Int) (by omega)
    rw [show dropB c (i : Int) = (c.eraseIdx i, true) by unfold dropB; rw [if_pos ⟨hg, by omega, by omega⟩, Int.toNat_natCast]] at hd
    have he : goodB (c.eraseIdx i) = true := goodB_of (by have := List.length_eraseIdx_le c i; omega) (fun x hx => good_all hg x (List.mem_of_mem_eraseIdx hx))
    have hc := count_impl (c.eraseIdx i)
    rw [solR_yes he] at hc
    have hn := iHas_ev (i : Int) (nl c ((sol c).length : Int) c.length 0 []) (by have := nl_len c ((sol c).length : Int) c.length 0 []; simp at this; omega)
    rw [nl_any c ((sol c).length : Int) c.length 0 [] i (by omega) (by omega) (fun x hx => absurd hx (by simp))] at hn
    have hb : 0 ≤ (bestR c).1 ∧ (bestR c).1 < (c.length : Int) := by
      unfold bestR
      rw [if_pos hg, if_neg (by omega)]
      exact best_in c (c.length - 1) 1 0 (cnt c 0) (by omega) (by omega) (by omega)
    have hll := left_len c (c.length + 1)
    refine ev_pos (by omega) (Ev.bind hd (Ev.bind hc (ev_pos rfl (ev_pos rfl (Ev.bind hn (ev_neg (hbne _) ?_))))))
    rw [wrap_nat (by omega)]
    refine ev_pos (by omega) (ev_pos (by omega) (ev_pos (by omega) (ev_pos (by omega) ?_)))
    rw [rd_left c (c.length + 1) (i + 1) (by omega), rd_left c (c.length + 1) i (by omega)]
    have := cntL_le c i
    exact ev_neg (by omega) (ev_neg (by omega) (ev_neg (by omega) (ih (i + 1) (by omega))))
theorem l2_ev (l : List Int) (c : List C2) (hg : goodB c = true) (m : Nat) (hm : m < 1296) (hok : okT c m = true) (x10 : Int) (x18 : ByteArray) (x26 x30 : List Int) (x34 : Int) (x38 : ByteArray) (x379 : List ByteArray) (x380 x381 : Int)
    (HA : Ev (fun k => laws_FnTicketsGuessed.l0 k l x10 x18 x26 x30 x34 x38 x379 x380 (wrap64 (x381 + 1)) c) true) : ∀ (d i : Nat), i + d = c.length →
    Ev (fun k => laws_FnTicketsGuessed.l2 k l x10 x18 x26 x30 x34 x38 (tk m) x379 x380 x381 c (c.length : Int) (i : Int) c) true := by
  have h6 := goodB_len hg
  intro d
  induction d with
  | zero =>
    intro i hi
    refine ev_succ ?_
    simp only [laws_FnTicketsGuessed.l2]
    exact ev_neg (by omega) HA
  | succ d ih =>
    intro i hi
    refine ev_succ ?_
    simp only [laws_FnTicketsGuessed.l2]
    rw [wrap_nat (by omega)]
    have hx := rd_mem c i (by omega)
    have hf := fit_yes _ (good_all hg _ hx) m hm
    rw [show fitB (rd_T46 c (i : Int)) m = true from List.all_eq_true.mp hok _ hx] at hf
    exact ev_pos (by omega) (ev_pos (by omega) (ev_pos (by omega) (Ev.bind hf (ev_pos rfl (ev_pos rfl (ih (i + 1) (by omega)))))))
theorem pd_in (h : ByteArray) (L : List ByteArray) (t : ByteArray) (ht : t ∈ L) (i : Nat) : pd h L i = 63 ∨ pd h L i = U t i := by
  unfold pd
  by_cases q : L.all (same h i) = true
  · rw [if_pos q]
    have := List.all_eq_true.mp q t ht
    unfold same at this
    exact .inr (eq_of_beq this).symm
  · rw [if_neg q]; exact .inl rfl
theorem l1_ev (l : List Int) (c : List C2) (hg : goodB c = true) (h : ByteArray) (m : Nat) (hm : m < 1296) (hok : okT c m = true) (hin : tk m ∈ sol c) (x10 : Int) (x26 x30 : List Int) (x34 : Int) (x38 : ByteArray) (x42 : Int) (x379 : List ByteArray) (x380 x381 : Int)
    (HA : Ev (fun k => laws_FnTicketsGuessed.l0 k l x10 (four h (sol c)) x26 x30 x34 x38 x379 x380 (wrap64 (x381 + 1)) c) true) : ∀ (d i : Nat), i + d = 4 →
    Ev (fun k => laws_FnTicketsGuessed.l1 k l x10 (four h (sol c)) x26 x30 x34 x38 x42 (tk m) x379 x380 x381 (tk m) (i : Int) c) true := by
  have hs := tk_size m
  have hf4 : (four h (sol c)).size = 4 := rfl
  intro d
  induction d with
  | zero =>
    intro i hi
    refine ev_succ ?_
    simp only [laws_FnTicketsGuessed.l1]
    refine ev_neg (by omega) ?_
    by_cases q : x42 > 30
    · exact ev_pos q HA
    · exact ev_neg q (l2_ev l c hg m hm hok x10 _ x26 x30 x34 x38 x379 x380 x381 HA c.length 0 (by omega))
  | succ d ih =>
    intro i hi
    have hi4 : i < 4 := by omega
    refine ev_succ ?_
    simp only [laws_FnTicketsGuessed.l1]
    rw [wrap_nat (by omega), bt_U (tk m) hs i hi4, bt_four h (sol c) i hi4]
    have hu := U_tk m i hi4
    refine ev_pos (by omega) (ev_pos (by omega) (ev_pos ⟨by omega, by omega⟩ (ev_pos (by omega) ?_)))
    have ihh := ih (i + 1) (by omega)
    rcases pd_in h (sol c) (tk m) hin i with e | e
    · rw [e]; exact ev_pos (by decide) ihh
    · rw [e]; exact ev_neg (by omega) (ev_pos (by omega) (ev_pos rfl ihh))
theorem l0_ev (l : List Int) (hl : Bytes l) (c : List C2) (hg : goodB c = true) (su h : ByteArray) (hsu : 0 < (sol c).length → su = four h (sol c)) : ∀ (d i : Nat), i + d = (sol c).length →
    Ev (fun k => laws_FnTicketsGuessed.l0 k l ((sol c).length : Int) su (nl c ((sol c).length : Int) c.length 0 []) (leftL c (c.length + 1)) (bestR c).1 (mkB (ptext c)) (sol c) ((sol c).length : Int) (i : Int) c) true := by
  have hn := sol_len c
  intro d
  induction d with
  | zero =>
    intro i hi
    refine ev_succ ?_
    simp only [laws_FnTicketsGuessed.l0]
    exact ev_neg (by omega) (l3_ev l hl c hg c.length 0 (by omega))
  | succ d ih =>
    intro i hi
    have hlt : i < (sol c).length := by omega
    have ihh := ih (i + 1) (by omega)
    refine ev_succ ?_
    simp only [laws_FnTicketsGuessed.l0]
    rw [rds_at (sol c) i hlt]
    have hin := List.getElem_mem hlt
    obtain ⟨m, hm, e, hok⟩ := sol_mem c _ hin
    rw [e] at hin ⊢
    have hs := tk_size m
    rw [hsu (by omega)] at ihh ⊢
    refine ev_pos (by omega) (ev_pos (by omega) (ev_pos (by omega) (ev_pos (by omega) (Ev.bind (tick_yes m hm) (ev_pos rfl ?_)))))
    refine l1_ev l c hg h m hm hok hin _ _ _ _ _ _ _ _ _ ?_ 4 0 (by omega)
    rw [wrap_nat (by omega)]
    exact ihh
theorem four_one (h : ByteArray) (hs : h.size = 4) : four h [h] = h := by
  obtain ⟨a, b, c, d, rfl⟩ := four_of h hs
  simp [four, pd, same, U]
theorem first_some {c : List C2} (hg : goodB c = true) (h : ¬ ((sol c).length : Int) = 0) : firstR c = (rdOf ByteArray.empty (sol c) 0, true) := by unfold firstR; rw [if_pos ⟨hg, h⟩]
theorem first_none {c : List C2} (h : ((sol c).length : Int) = 0) : firstR c = (⟨#[]⟩, false) := by unfold firstR; rw [if_neg (fun x => x.2 h)]
theorem j0_ev (l : List Int) (hl : Bytes l) (c : List C2) (hg : goodB c = true) :
    Ev (fun k => laws_FnTicketsGuessed.j0 k l (sol c) true ((sol c).length : Int) (firstR c).1 (firstR c).2 (sureR c).1 (((sol c).length : Int) == 1) (nl c ((sol c).length : Int) c.length 0 []) (leftL c (c.length + 1)) (bestR c).1 (mkB (ptext c)) false c) true := by
  have h6 := goodB_len hg
  have hn := sol_len c
  have hll := left_len c (c.length + 1)
  have r0 : rd (leftL c (c.length + 1)) 0 = 1296 := by
    have := rd_left c (c.length + 1) 0 (by omega)
    rw [show ((0 : Nat) : Int) = 0 from rfl] at this
    rw [this]; unfold cntL
    rw [List.take_zero, sol_none]; rfl
  have rn : rd (leftL c (c.length + 1)) (c.length : Int) = ((sol c).length : Int) := by
    rw [rd_left c (c.length + 1) c.length (by omega)]; unfold cntL
    rw [List.take_length]
  refine ev_succ ?_
  simp only [laws_FnTicketsGuessed.j0]
  refine ev_neg (by decide) (ev_pos trivial (ev_pos trivial (Ev.bind (iRi_ev (sol c) (by omega) (sol_rise c)) (ev_pos rfl ?_))))
  rw [wrap_nat (i := c.length) (by omega), hll]
  have fin : ∀ su h, (0 < (sol c).length → su = four h (sol c)) → Ev (fun k => laws_FnTicketsGuessed.j1 k l (sol c) ((sol c).length : Int) su (nl c ((sol c).length : Int) c.length 0 []) (leftL c (c.length + 1)) (bestR c).1 (mkB (ptext c)) false c) true := fun su h hsu => by
    refine ev_succ ?_
    simp only [laws_FnTicketsGuessed.j1]
    exact ev_neg (by decide) (l0_ev l hl c hg su h hsu (sol c).length 0 (by omega))
  by_cases h0 : ((sol c).length : Int) = 0
  · rw [first_none h0, sureR_none h0]
    refine ev_neg (by decide) (ev_neg (hbne _) (ev_pos rfl (ev_pos (by omega) (ev_pos r0 (ev_pos (by omega) (ev_pos (by omega) (ev_pos rn ?_)))))))
    exact ev_neg (by simp; omega) (fin _ ByteArray.empty (fun h => by omega))
  · rw [first_some hg h0, sureR_some hg h0]
    have hp : 0 < (sol c).length := by omega
    have hr : rdOf ByteArray.empty (sol c) 0 = (sol c)[0] := rds_at (sol c) 0 hp
    refine ev_pos rfl (ev_pos (by omega) (ev_pos rfl (ev_neg (hbne _) (ev_pos rfl (ev_pos (by omega) (ev_pos r0 (ev_pos (by omega) (ev_pos (by omega) (ev_pos rn (ev_pos rfl ?_))))))))))
    have hf := fin (four (rdOf ByteArray.empty (sol c) 0) (sol c)) (rdOf ByteArray.empty (sol c) 0) (fun _ => rfl)
    by_cases h1 : ((sol c).length : Int) = 1
    · refine ev_pos (by simpa using h1) ?_
      obtain ⟨t, ht⟩ := List.length_eq_one_iff.mp (by omega : (sol c).length = 1)
      have h4 : t.size = 4 := sol_four c t (by rw [ht]; simp)
      have e : four (rdOf ByteArray.empty (sol c) 0) (sol c) = rdOf ByteArray.empty (sol c) 0 := by
        rw [hr]
        simp only [ht, List.getElem_cons_zero]
        exact four_one t h4
      have e2 : ((four (rdOf ByteArray.empty (sol c) 0) (sol c)).toList != (rdOf ByteArray.empty (sol c) 0).toList) = false := by rw [e]; simp
      rw [e2]
      exact hf
    · exact ev_neg (by simpa using h1) hf
set_option maxRecDepth 100000 in
theorem FnTicketsGuessed : laws_FnTicketsGuessed.Pure := by
  intro l0 l1 hl0 hb0 hw0 hl1 hb1 hw1
  refine Ev.rounds ?_
  unfold laws_FnTicketsGuessed.f laws_big.f
  by_cases hbig : (l0.length : Int) > 1048576
  · rw [if_pos hbig]; exact ev_bind rfl (ev_pos rfl (ev_eq fun _ => rfl))
  rw [if_neg hbig]
  by_cases hb : decide ((l1.length : Int) > wrap64 (1048576 - (l0.length : Int))) = true
  · exact ev_bind rfl (ev_pos hb (ev_eq fun _ => rfl))
  refine ev_bind rfl (ev_neg hb ?_)
  obtain ⟨c, d1, hc⟩ := dSo_ok l0 hw0
  have s1 := implSol_ev c
  have s2 := specSol_ev c
  have n1 := count_impl c
  have n2 := count_spec c
  have f1 := (first_both c).2
  have f2 := (first_both c).1
  have u1 := implSure_ev c
  have u2 := specSure_ev c
  have v1 := solved_impl c
  have v2 := solved_spec c
  have e1 := implNeed_ev c
  have e2 := specNeed_ev c
  have g1 := implLeft_ev c
  have g2 := specLeft_ev c
  have b1 := implBest_ev c
  have b2 := specBest_ev c
  have t1 := (text_both c).2
  have t2 := (text_both c).1
  have q1 := isPuzzle_ev c
  have q2 : Ev (fun k => spec_IsPuzzle.f k c) (goodB c) := by
    unfold spec_IsPuzzle.f
    exact Ev.bind (pzGood_ev c) (ev_eq fun _ => rfl)
  have hl := solR_len c
  have hnl := needR_len c
  have hlr := leftR_len c
  have tx := iTx_ev (solR c).1 (by omega)
  have m1 := iSm_ev (needR c).1 (by omega)
  have m2 := iSm_ev (leftR c).1 (by omega)
  refine Ev.bind d1 (Ev.bind s1 (Ev.bind s2 (Ev.bind n1 (Ev.bind n2 (Ev.bind f1 (Ev.bind f2 (Ev.bind u1 (Ev.bind u2 (Ev.bind v1 (Ev.bind v2 (Ev.bind e1 (Ev.bind e2 (Ev.bind g1 (Ev.bind g2 (Ev.bind b1 (Ev.bind b2 (Ev.bind t1 (Ev.bind t2 ?_))))))))))))))))))
  refine ev_neg (hbne _) (Ev.bind tx (ev_pos rfl (ev_neg (hbne _) (ev_pos rfl (ev_neg (hbne _) (ev_pos rfl (ev_neg (hbne _) (ev_pos rfl (ev_neg (hbne _) (ev_neg (hbne _) (ev_neg (hbne _) (Ev.bind m1 (ev_pos rfl (ev_neg (hbne _) (Ev.bind m2 (ev_pos rfl (ev_neg (hbne _) (ev_pos rfl (ev_neg (hbne _) (ev_pos rfl (Ev.bind q1 ?_)))))))))))))))))))))
  cases hg : goodB c with
  | true =>
    rw [hg] at q1 q2
    have h0 := j0_ev l1 hw1 c hg
    have ef : (firstR c).2 = decide (((sol c).length : Int) > 0) := by
      by_cases h : ((sol c).length : Int) = 0
      · rw [first_none h, decide_eq_false (by omega)]
      · rw [first_some hg h, decide_eq_true (by omega)]
    have eu : (sureR c).2 = (firstR c).2 := by
      by_cases h : ((sol c).length : Int) = 0
      · rw [first_none h, sureR_none h]
      · rw [first_some hg h, sureR_some hg h]
    have eb : (bestR c).2 = decide ((c.length : Int) > 0) := by
      unfold bestR
      rw [if_pos hg]
      by_cases h : c.length = 0
      · rw [if_pos h, decide_eq_false (by omega)]
      · rw [if_neg h, decide_eq_true (by omega)]
    have en : needR c = (nl c ((sol c).length : Int) c.length 0 [], true) := by unfold needR; rw [if_pos hg]
    have el : leftR c = (leftL c (c.length + 1), true) := by unfold leftR; rw [if_pos hg]
    have et : textR c = (mkB (ptext c), true) := by unfold textR; rw [if_pos hg]
    rw [solR_yes hg, en, el, et]
    dsimp only
    rw [eb, eu, ef]
    rw [ef] at h0
    exact ev_neg (hbne _) (Ev.bind q1 (Ev.bind q2 (ev_neg (hbne _) (ev_neg (hbne _) (ev_pos rfl (ev_neg (hbne _) (ev_neg (hbne _) (ev_neg (hbne _) (ev_neg (hbne _) (ev_neg (hbne _) (ev_neg (hbne _) h0)))))))))))
  | false =>
    rw [hg] at q1 q2
    have ef : firstR c = (⟨#[]⟩, false) := by unfold firstR; rw [if_neg (fun x => by rw [hg] at x; exact Bool.noConfusion x.1)]
    have eb : bestR c = (0, false) := by unfold bestR; rw [if_neg (by rw [hg]; decide)]
    have en : needR c = ([], false) := by unfold needR; rw [if_neg (by rw [hg]; decide)]
    have el : leftR c = ([], false) := by unfold leftR; rw [if_neg (by rw [hg]; decide)]
    have et : textR c = (⟨#[]⟩, false) := by unfold textR; rw [if_neg (by rw [hg]; decide)]
    rw [solR_no hg, en, el, et, ef, sureR_bad hg, eb]
    dsimp only
    refine ev_neg (hbne _) (Ev.bind q1 (Ev.bind q2 (ev_neg (hbne _) (ev_neg (hbne _) (ev_neg (by decide) (ev_neg (hbne _) (ev_neg (hbne _) (ev_neg (hbne _) (ev_neg (hbne _) (ev_neg (hbne _) (ev_neg (hbne _) (ev_succ ?_))))))))))))
    simp only [laws_FnTicketsGuessed.j0]
    exact ev_neg (by decide) (ev_neg (by decide) (j6_ev l1 hw1))
end Go.Proofs.YtmfbjhkhgkphcaaGreatDoor.Pure
