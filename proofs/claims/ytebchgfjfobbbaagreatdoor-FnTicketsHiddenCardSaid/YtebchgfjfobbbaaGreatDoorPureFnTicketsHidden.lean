/- TicketsHidden: made puzzles are fit by their ticket, harder ones are solved by the same, clues go with halves and luck, and clues are added and dropped (numbers, lists and texts alone). -/
import Derived.Test.YtebchgfjfobbbaaGreatDoorPureFnTicketsHiddenK
import Derived.Test.YtebchgfjfobbbaaGreatDoorPFnTicketsHiddenx18
namespace Go.Proofs.YtebchgfjfobbbaaGreatDoor.Pure
open Go.RowKit Go.Proofs.YtebchgfjfobbbaaGreatDoor.PFnTicketsHidden Go.Proofs.YtebchgfjfobbbaaGreatDoorW.PrintWords Go.Proofs.YtebchgfjfobbbaaGreatDoorW.PrintLast
set_option linter.unusedVariables false
set_option linter.unusedSimpArgs false

/-! ### the law -/
theorem hbne (a : Bool) : ¬ (a != a) = true := by simp
theorem goodB_of {c : List C2} (h6 : c.length ≤ 6) (h : ∀ x ∈ c, clueS x = true) : goodB c = true := by
  unfold goodB
  rw [Bool.and_eq_true, decide_eq_true_eq, List.all_eq_true]
  exact ⟨h6, h⟩
theorem good_all {c : List C2} (h : goodB c = true) : ∀ x ∈ c, clueS x = true := List.all_eq_true.mp (all_good h)
theorem rd_mem (c : List C2) (i : Nat) (h : i < c.length) : rd_T37 c (i : Int) ∈ c := by
  rw [rd_at c i h]; exact List.getElem_mem h
theorem j6_no (x : Int) (s d : List C2) : Ev (fun k => laws_FnTicketsHidden.j6 k x false s d) true := by
  refine ev_succ ?_
  simp only [laws_FnTicketsHidden.j6]
  exact ev_neg (by decide) (ev_eq fun _ => rfl)
theorem add_back (t : List C2) (y : C2) (h : goodB (t ++ [y]) = true) : addB t y.f0 y.f1 y.f2 = (t ++ [y], true) := by
  have h6 := goodB_len h
  rw [List.length_append, List.length_singleton] at h6
  have ha := good_all h
  have hy : clueB y.f0 y.f1 y.f2 = true := ha y (by simp)
  have ht : goodB t = true := goodB_of (by omega) (fun x hx => ha x (List.mem_append_left _ hx))
  unfold addB
  rw [if_pos ⟨ht, hy, by omega⟩]
theorem erase_last (t : List C2) (y : C2) : (t ++ [y]).eraseIdx t.length = t := by
  rw [List.eraseIdx_append_of_length_le (Nat.le_refl _), Nat.sub_self]
  simp
theorem j5_ev (s : List C2) (hs : s.length ≤ 8) (x : Int) : Ev (fun k => laws_FnTicketsHidden.j5 k x (dropB s x).2 s (dropB s x).1) true := by
  refine ev_succ ?_
  simp only [laws_FnTicketsHidden.j5]
  by_cases q : goodB s = true ∧ 0 ≤ x ∧ x ≤ (s.length : Int) - 1
  · have e : dropB s x = (s.eraseIdx x.toNat, true) := by unfold dropB; rw [if_pos q]
    rw [e]
    refine ev_pos rfl ?_
    rw [wrap_len (by omega)]
    by_cases q2 : x = (s.length : Int) - 1
    · rcases List.eq_nil_or_concat s with rfl | ⟨t, y, hty⟩
      · simp at q2; omega
      · rw [List.concat_eq_append] at hty
        subst hty
        have hx : x = (t.length : Int) := by simp at q2; omega
        subst hx
        have hb : (((t.length : Nat) : Int) == (((t ++ [y]).length : Nat) : Int) - 1) = true := beq_iff_eq.mpr q2
        rw [hb, Int.toNat_natCast, erase_last]
        refine ev_succ ?_
        simp only [laws_FnTicketsHidden.j6]
        have hr : rd_T37 (t ++ [y]) (t.length : Int) = y := by
          rw [rd_at (t ++ [y]) t.length (by simp)]; simp
        rw [hr]
        have hi := implAdd_ev t y.f0 y.f1 y.f2
        rw [add_back t y q.1] at hi
        refine ev_pos trivial (ev_pos (by omega) (ev_pos (by simp; omega) (Ev.bind hi (ev_pos rfl (Ev.bind (iPz_ev (t ++ [y]) (by omega)) (ev_eq fun _ => rfl))))))
    · have hb : (x == (s.length : Int) - 1) = false := beq_eq_false_iff_ne.mpr q2
      rw [hb]
      exact j6_no x s _
  · have e : dropB s x = ([], false) := by unfold dropB; rw [if_neg q]
    rw [e]
    exact ev_neg (by decide) (j6_no x s [])
theorem j4_ev (c : List C2) (hc : c.length ≤ 8) (x y z : Int) (v : Int) (b : Bool) (s d : List C2) (h5 : Ev (fun k => laws_FnTicketsHidden.j5 k v b s d) true) : Ev (fun k => laws_FnTicketsHidden.j4 k (addB c x y z).2 v b false c x y z (addB c x y z).1 s d) true := by
  refine ev_succ ?_
  simp only [laws_FnTicketsHidden.j4]
  refine ev_neg (by decide) ?_
  by_cases q : goodB c = true ∧ clueB x y z = true ∧ ¬ (c.length : Int) = 6
  · have e : addB c x y z = (c ++ [⟨x, y, z⟩], true) := by unfold addB; rw [if_pos q]
    rw [e]
    refine ev_pos rfl ?_
    have h6 := goodB_len q.1
    have ha := good_all q.1
    have hg : goodB (c ++ [⟨x, y, z⟩]) = true := goodB_of (by simp; omega) (fun w hw => by
      rcases List.mem_append.mp hw with hw | hw
      · exact ha w hw
      · rw [List.mem_singleton] at hw; subst hw; exact q.2.1)
    have hd := implDrop_ev (c ++ [⟨x, y, z⟩]) (c.length : Int) (by simp; omega)
    have hdr : dropB (c ++ [⟨x, y, z⟩]) (c.length : Int) = (c, true) := by
      unfold dropB
      rw [if_pos ⟨hg, by omega, by simp⟩, Int.toNat_natCast, erase_last]
    rw [hdr] at hd
    have hr : rd_T37 (c ++ [(⟨x, y, z⟩ : C2)]) (c.length : Int) = (⟨x, y, z⟩ : C2) := by
      rw [rd_at (c ++ [(⟨x, y, z⟩ : C2)]) c.length (by simp)]; simp
    refine Ev.bind hd (ev_pos rfl (Ev.bind (iPz_ev c (by omega)) (ev_pos rfl (ev_pos (by omega) (ev_pos (by simp; omega) ?_)))))
    dsimp only
    rw [hr]
    exact ev_neg (by simp) h5
  · have e : addB c x y z = ([], false) := by unfold addB; rw [if_neg q]
    rw [e]
    exact ev_neg (by decide) h5
theorem addB_len7 (c : List C2) (x y z : Int) (hc : c.length ≤ 8) : (addB c x y z).1.length ≤ 1000000 := by
  unfold addB
  split
  · simp; omega
  · simp
theorem dropB_len7 (c : List C2) (x : Int) (hc : c.length ≤ 8) : (dropB c x).1.length ≤ 1000000 := by
  unfold dropB
  split
  · have := List.length_eraseIdx_le c x.toNat
    dsimp only; omega
  · simp
theorem j3_ev (l : List Int) (hl : Bytes l) : Ev (fun k => laws_FnTicketsHidden.j3 k l) true := by
  obtain ⟨c, x, y, z, d1, hc⟩ := dAC_ok l hl
  obtain ⟨s, v, d2, hs⟩ := dDC_ok l hl
  obtain ⟨p, q, w, t, d3, ht⟩ := dDF_ok l hl
  obtain ⟨r, f1, f2, f3⟩ := fit_all p q w t (by omega)
  obtain ⟨m, n, o, d4⟩ := dIC_ok l hl
  have h4 := j4_ev c hc x y z v (dropB s v).2 s (dropB s v).1 (j5_ev s hs v)
  have hp1 := iPz_ev (addB c x y z).1 (addB_len7 c x y z hc)
  have hp2 := iPz_ev (dropB s v).1 (dropB_len7 s v hs)
  refine ev_succ ?_
  simp only [laws_FnTicketsHidden.j3]
  refine Ev.bind d1 (Ev.bind (implAdd_ev c x y z) (Ev.bind (specAdd_ev c x y z) (Ev.bind d2 (Ev.bind (implDrop_ev s v (by omega)) (Ev.bind (specDrop_ev s v (by omega)) (Ev.bind d3 (Ev.bind f1 (Ev.bind f2 (Ev.bind d4 ?_)))))))))
  refine ev_neg (hbne _) (Ev.bind hp1 (ev_pos rfl (ev_neg (hbne _) (Ev.bind hp2 (ev_pos rfl (ev_neg (hbne _) (ev_neg (hbne _) (Ev.bind (implClue_ev m n o) (ev_bind (show spec_IsClue.f m n o = some (clueB m n o) from by unfold spec_IsClue.f; rw [specClue_eq]; rfl) (ev_neg (hbne _) ?_))))))))))
  by_cases g : r.2 = true
  · refine ev_pos g (Ev.bind (implClue_ev p q w) ?_)
    rw [f3 g]
    exact h4
  · exact ev_neg g h4
theorem hard_yes {c : List C2} (h : goodB c = true ∧ ((sol c).length : Int) = 1) : hardR c = (hd 6 c 0, true) := by unfold hardR; rw [if_pos h]
theorem j2_ev (l : List Int) (hl : Bytes l) (c : List C2) : Ev (fun k => laws_FnTicketsHidden.j2 k l (hardR c).2 false c (hardR c).1) true := by
  have h3 := j3_ev l hl
  refine ev_succ ?_
  simp only [laws_FnTicketsHidden.j2]
  refine ev_neg (by decide) ?_
  by_cases q : goodB c = true ∧ ((sol c).length : Int) = 1
  · rw [hard_yes q]
    refine ev_pos rfl ?_
    have h6 := goodB_len q.1
    obtain ⟨g1, g2, g3⟩ := hd_spec 6 c 0 (by omega) (by omega) (fun j hj => absurd hj (by omega))
    have hlen := hd_len 6 c 0
    have hg : goodB (hd 6 c 0) = true := goodB_of (by omega) (fun x hx => good_all q.1 x (g2 x hx))
    have hn : needR (hd 6 c 0) = ([], true) := by
      unfold needR
      rw [if_pos hg, nl_none]
      · omega
      · intro j hj
        have := g3 j hj
        rw [g1]; omega
    have n1 := implNeed_ev (hd 6 c 0)
    rw [hn] at n1
    have s2 := Solutions_yes hg
    rw [g1] at s2
    have hsl := sol_len c
    refine Ev.bind (Solutions_yes q.1) (Ev.bind s2 (Ev.bind n1 (ev_pos rfl (ev_pos rfl (Ev.bind (iTx_ev (sol c) (by omega)) (ev_pos rfl (ev_pos rfl (ev_pos rfl (ev_neg (by dsimp only; omega) h3)))))))))
  · have e : hardR c = ([], false) := by unfold hardR; rw [if_neg q]
    rw [e]
    exact ev_neg (by decide) h3
theorem isSolved_ev (c : List C2) : Ev (fun k => impl_IsSolved.f k c) (((((solR c).1.length : Nat) : Int) == 1), (solR c).2) := by
  unfold impl_IsSolved.f
  refine Ev.bind (a := ((((solR c).1.length : Nat) : Int), (solR c).2)) ?_ (ev_eq fun _ => rfl)
  unfold impl_CountSolutions.f
  exact Ev.bind (implSol_ev c) (ev_eq fun _ => rfl)
theorem j1_ev (l : List Int) (hl : Bytes l) : Ev (fun k => laws_FnTicketsHidden.j1 k l) true := by
  obtain ⟨c, d1, hc⟩ := dHP_ok l hl
  have h2 := j2_ev l hl c
  have hp : (hardR c).1.length ≤ 1000000 := by
    unfold hardR
    split
    · have := hd_len 6 c 0
      dsimp only; omega
    · simp
  refine ev_succ ?_
  simp only [laws_FnTicketsHidden.j1]
  refine Ev.bind d1 (Ev.bind (implHard_ev c) (Ev.bind (specHard_ev c) (Ev.bind (isSolved_ev c) (ev_neg (hbne _) (Ev.bind (iPz_ev _ hp) (ev_pos rfl ?_))))))
  by_cases g : goodB c = true
  · have e : solR c = (sol c, true) := by unfold solR; rw [if_pos g]
    rw [e]
    refine ev_pos rfl ?_
    have e2 : (hardR c).2 = (((sol c).length : Int) == 1) := by
      unfold hardR
      by_cases q : ((sol c).length : Int) = 1
      · rw [if_pos ⟨g, q⟩]; simp [q]
      · rw [if_neg (fun h => q h.2)]; simp [q]
    have e3 : ((hardR c).2 != (((sol c).length : Int) == 1)) = false := by rw [e2]; simp
    dsimp only
    rw [e3]
    exact h2
  · have e : solR c = ([], false) := by unfold solR; rw [if_neg g]
    rw [e]
    refine ev_neg (by decide) ?_
    have e2 : (hardR c).2 = false := by
      unfold hardR
      rw [if_neg (fun h => g h.1)]
    have e3 : ((hardR c).2 != false) = false := by rw [e2]; rfl
    rw [e3]
    exact h2
theorem l0_ev (l : List Int) (hl : Bytes l) (n : Nat) (hn : n < 1296) (c : List C2) (hc : c.length ≤ 6) (h : ∀ x ∈ c, clueS x = true ∧ fitB x n = true) : ∀ (d i : Nat), i + d = c.length → Ev (fun k => laws_FnTicketsHidden.l0 k l (tk n) c (c.length : Int) (i : Int)) true := by
  intro d
  induction d with
  | zero =>
    intro i hi
    refine ev_succ ?_
    simp only [laws_FnTicketsHidden.l0]
    exact ev_neg (by omega) (j1_ev l hl)
  | succ d ih =>
    intro i hi
    refine ev_succ ?_
    simp only [laws_FnTicketsHidden.l0]
    rw [wrap_nat (by omega)]
    obtain ⟨g1, g2⟩ := h _ (rd_mem c i (by omega))
    have hf := fit_yes _ g1 n hn
    rw [g2] at hf
    exact ev_pos (by omega) (ev_pos (by omega) (ev_pos (by omega) (Ev.bind hf (ev_pos rfl (ev_pos rfl (ih (i + 1) (by omega)))))))
theorem FnTicketsHidden : laws_FnTicketsHidden.Pure := by
  intro l0 l1 hl0 hb0 hw0 hl1 hb1 hw1
  refine Ev.rounds ?_
  unfold laws_FnTicketsHidden.f laws_big.f
  by_cases hbig : (l0.length : Int) > 1048576
  · rw [if_pos hbig]; exact ev_bind rfl (ev_pos rfl (ev_eq fun _ => rfl))
  rw [if_neg hbig]
  by_cases hb : decide ((l1.length : Int) > wrap64 (1048576 - (l0.length : Int))) = true
  · exact ev_bind rfl (ev_pos hb (ev_eq fun _ => rfl))
  refine ev_bind rfl (ev_neg hb ?_)
  obtain ⟨t, c, z, d1, ht⟩ := dMP_ok l0 hw0
  have h1 := j1_ev l1 hw1
  rcases make_cases t (by omega) c z with ⟨n, m, hn, hm, rfl, rfl, e1, e2⟩ | ⟨e1, e2⟩
  · obtain ⟨a, b, lk, num, f1, f2, f3, g1, g2, g3, g4, g5, g6⟩ := hid_facts n hn
    have hlen : (mkL n m z []).length = m := by rw [mkL_len]; simp
    have hall := mkL_fits n hn m z [] (fun x hx => absurd hx (by simp))
    have hgood : goodB (mkL n m z []) = true := goodB_of (by omega) (fun x hx => (hall x hx).1)
    have w1 := fit_yes ⟨0, 0, a⟩ g1 n hn
    rw [g3] at w1
    have w2 := fit_yes ⟨0, 1, b⟩ g2 n hn
    rw [g4] at w2
    have w3 := fit_yes ⟨2, 0, 1⟩ rfl n hn
    rw [g5] at w3
    have w4 := fit_yes ⟨5, 0, 7⟩ rfl n hn
    rw [g6] at w4
    have hl := l0_ev l1 hw1 n hn _ (by omega) hall (mkL n m z []).length 0 (by omega)
    refine Ev.bind d1 (Ev.bind e1 (Ev.bind e2 (ev_neg (hbne _) (Ev.bind (iPz_ev _ (by dsimp only; omega)) (ev_pos rfl (ev_pos rfl ?_))))))
    refine Ev.bind f1 (Ev.bind w1 (Ev.bind w2 (Ev.bind f2 (Ev.bind w3 (Ev.bind f3 (Ev.bind w4 (Ev.bind (isPuzzle_yes hgood) ?_)))))))
    refine ev_pos rfl (ev_pos (by dsimp only; omega) (ev_pos rfl (ev_pos rfl (ev_pos rfl (ev_pos rfl (ev_pos rfl (ev_pos rfl (ev_pos rfl (ev_neg (hbne _) (ev_pos rfl (ev_pos rfl (ev_neg (hbne _) ?_))))))))))))
    exact hl
  · exact Ev.bind d1 (Ev.bind e1 (Ev.bind e2 (ev_neg (hbne _) (Ev.bind (iPz_ev _ (by simp)) (ev_pos rfl (ev_neg (by decide) h1))))))
end Go.Proofs.YtebchgfjfobbbaaGreatDoor.Pure
