-- Laid by this session's program gprint.py over the kit's print.
import Derived.Test.YtjnfaidngaobmaaGreatDoorZip
import Derived.Test.YtjnfaidngaobmaaGreatDoorPFnLeastOfDigitsx0
import Derived.Test.YtjnfaidngaobmaaGreatDoorPFnLeastOfDigitsx2
import Derived.Test.YtjnfaidngaobmaaGreatDoorPFnLeastOfDigitsx7
namespace Go.Proofs.YtjnfaidngaobmaaGreatDoor.PFnLeastOfDigits
open Go.RowKit Go.Proofs.YtjnfaidngaobmaaGreatDoorW.PrintWords Go.Proofs.YtjnfaidngaobmaaGreatDoorW.PrintLast Go.Proofs.YtjnfaidngaobmaaGreatDoorW.PrintMore
attribute [local go_sem] max2_int min2_int max_two min_two max_three min_three max_four min_four   -- for this text's walks alone
set_option linter.unusedVariables false
set_option linter.unusedSimpArgs false
theorem z8_0_ {p : Prop} (h : p := by first | exact impl_multiple.p0 _ _ _ _ _ _ | exact impl_multiple.p1 _ _ _ _ _ _ | exact impl_multiple.p2 _ _ _ _ _ _ | exact impl_multiple.p3 _ _ _ _ _ _ | exact impl_multiple.p4 _ _ _ _ _ _) : p := h

/-! ### impl_multiple: function 61 -/
-- behind 46
structure impl_multiple.Nd where
 r : Int
 b : Int
 d : Int
def impl_multiple.zN : impl_multiple.Nd := ⟨0, 0, 0⟩
def impl_multiple.kN : Kd impl_multiple.Nd := Kd.iso (Kd.pair (Kd.int .i64) (Kd.pair (Kd.int .i64) (Kd.int .u8))) (fun x : impl_multiple.Nd => (x.r, x.b, x.d))
theorem impl_multiple.kN_mkM (w : World) (base : Nat) (ok : Nat → Prop) (x : impl_multiple.Nd) : impl_multiple.kN.M w base ok x [.int .i64 x.r, .int .i64 x.b, .int .u8 x.d] := ⟨[.int .i64 x.r], [.int .i64 x.b, .int .u8 x.d], rfl, rfl, ⟨[.int .i64 x.b], [.int .u8 x.d], rfl, rfl, rfl⟩⟩
theorem impl_multiple.kN_open {w : World} {x : impl_multiple.Nd} {cs : List Value} (h : impl_multiple.kN.K w x cs) : cs = [.int .i64 x.r, .int .i64 x.b, .int .u8 x.d] := by
 obtain ⟨_, _, rfl, rfl, ⟨_, _, rfl, rfl, rfl⟩⟩ := h
 exact rfl
theorem impl_multiple.info : (Tryz.prog.info? 73).map (fun i => (i.zero, i.size, i.bytes)) = some (some (.agg #[.int .i64 0, .int .i64 0, .int .u8 0]), 3, 24) := by kernel_rfl
def impl_multiple.rem (n rest digit : Int) : Int := Int.tmod (wrap64 ((wrap64 (10 * rest)) + ((digit - 48) % 256))) n
def impl_multiple.push (n : Int) (st : List impl_multiple.Nd × List Bool) (before rest digit : Int) : Option (List impl_multiple.Nd × List Bool) :=
 if n = 0 then none else if 0 ≤ impl_multiple.rem n rest digit then (if impl_multiple.rem n rest digit < (st.2.length : Int) then (if rdOf false st.2 (impl_multiple.rem n rest digit) = true then some st else if st.1.length < 1000000 then some (st.1 ++ [⟨impl_multiple.rem n rest digit, before, digit⟩], st.2.set (impl_multiple.rem n rest digit).toNat true) else none) else none) else none
/-- What the boxes and the rows hold. -/
structure impl_multiple.St (base : Nat) (w : World) (gn gm gl gM : Nat) (n : Int) (cM : Nat) (st : List impl_multiple.Nd × List Bool) (v : Value) : Prop where
 hn : w.heap[gn]? = some (.cells #[.int .i64 n] 3 (0, 0))
 hm : w.heap[gm]? = some (.cells #[.slice (some ⟨gM, 0, none⟩) st.2.length cM] 71 (0, 0))
 hl : w.heap[gl]? = some (.cells #[v] 70 (0, 0))
 rm : Kd.R Kd.bool 4 w base (fun _ => True) (.slice (some ⟨gM, 0, none⟩) st.2.length cM) st.2
 rl : Kd.R impl_multiple.kN 73 w base (fun _ => True) v st.1
theorem impl_multiple.E0 : ∀ q, q ∈ (73 : Nat) :: impl_multiple.kN.E → q = 73 := by
 intro q hq
 simpa [impl_multiple.kN, Kd.iso, Kd.pair, Kd.int, Kd.scalar] using hq
set_option maxHeartbeats 16000000 in
set_option maxRecDepth 100000 in
theorem impl_multiple.push_calls (w w0 : World) (gn gm gl gM : Nat) (n : Int) (cM : Nat) (before rest digit : Int) (st st' : List impl_multiple.Nd × List Bool) (v : Value) (hB : Below w0.heap.size w0 w) (hgl : w0.heap.size ≤ gl) (hS : impl_multiple.St w0.heap.size w gn gm gl gM n cM st v) (h : impl_multiple.push n st before rest digit = some st') :
 Calls Tryz.prog 77 #[.int .i64 before, .int .i64 rest, .int .u8 digit, .pointer (some ⟨gn, 0, none⟩), .pointer (some ⟨gm, 0, none⟩), .pointer (some ⟨gl, 0, none⟩)] w fun e w' => e = .returned (.tuple #[]) ∧ ∃ v', impl_multiple.St w0.heap.size w' gn gm gl gM n cM st' v' ∧ Below w0.heap.size w0 w' ∧ w.heap.size ≤ w'.heap.size ∧ (∀ k, k < w.heap.size → k ≠ gl → k ≠ gM → some k ≠ v.ownBlock → w'.heap[k]? = w.heap[k]?) ∧ (v'.ownBlock = v.ownBlock ∨ ∃ b, v'.ownBlock = some b ∧ w.heap.size ≤ b) := by
 unfold impl_multiple.push at h
 by_cases c0 : n = 0
 · exact none_ (if_pos c0) h
 rw [if_neg c0] at h
 obtain ⟨r, hr⟩ : ∃ r, impl_multiple.rem n rest digit = r := ⟨_, rfl⟩
 rw [hr] at h
 by_cases c1 : 0 ≤ r
 rotate_left
 · exact none_ (if_neg c1) h
 rw [if_pos c1] at h
 by_cases c2 : r < (st.2.length : Int)
 rotate_left
 · exact none_ (if_neg c2) h
 rw [if_pos c2] at h
 obtain ⟨hn, hm, hl, rm, rl⟩ := hS
 have hcn := (blk_cell hn 0).trans rfl
 have hcm := (blk_cell hm 0).trans rfl
 have hcl := (blk_cell hl 0).trans rfl
 obtain ⟨hx, hf⟩ := Kd.R_celln false rm r c1 c2
 unfold impl_multiple.rem at hr
 have HN := Aside0.mk hn
 have HM := Aside0.mk hm
 have HL := Aside0.mk hl
 have RM := Aside0.mk rm
 have RL := Aside0.mk rl
 have HB := Aside0.mk hB
 have p1 : (0 ≤ r) = True := eq_true c1
 have q1 : (r < (st.2.length : Int)) = True := eq_true c2
 have z1 : (n = 0) = False := eq_false c0
 have z2 : (n == 0) = false := beq_eq_false_iff_ne.mpr c0
 clear hn hm hl rm rl hB c0 c1 c2
 obtain ⟨t, ht⟩ : ∃ t, rdOf false st.2 r = t := ⟨_, rfl⟩
 rw [ht] at h hx
 cases t with
 | true =>
  rw [if_pos rfl] at h
  obtain rfl := Option.some.inj h
  clear h ht
  go_enter Tryz.func77, Tryz.ntmps77
  go_wp2
  (first | go_end0 | ((try simp only [Exit.inBlock, Exit.then]); refine bodyPost_ret (results_none rfl _ _ _) rfl ?_))
  exact ⟨rfl, v, ⟨HN.out, HM.out, HL.out, RM.out, RL.out⟩, HB.out, Nat.le_refl _, fun _ _ _ _ _ => rfl, .inl rfl⟩
 | false =>
  rw [if_neg (by decide)] at h
  by_cases c3 : st.1.length < 1000000
  rotate_left
  · exact none_ (if_neg c3) h
  rw [if_pos c3] at h
  obtain rfl := Option.some.inj h
  clear h ht
  obtain ⟨cM_, hcM⟩ := Kd.R_typed RM.out gM rfl
  have hne1 : gl ≠ gM := fun e => Kd.R_ne RM.out HL.out (by decide) (by rw [e]; rfl)
  have hne2 : gm ≠ gM := fun e => Kd.R_ne RM.out HM.out (by decide) (by rw [e]; rfl)
  have hne3 : gn ≠ gM := fun e => Kd.R_ne RM.out HN.out (by decide) (by rw [e]; rfl)
  have hne4 : gm ≠ gl := blk_ne HM.out HL.out (by decide)
  have hne5 : gn ≠ gl := blk_ne HN.out HL.out (by decide)
  have hput := (Kd.R_putg RM.out r true).1
  have RLn := Aside0.mk (Kd.R_set RL.out hcM (fun q hq => by rw [impl_multiple.E0 q hq]; decide) r.toNat (.bool true))
  have HNn := Aside0.mk (blk_far HN.out (p := ⟨gM, r.toNat, none⟩) hne3 (.bool true))
  have HMn := Aside0.mk (blk_far HM.out (p := ⟨gM, r.toNat, none⟩) hne2 (.bool true))
  have HLn := Aside0.mk (blk_far HL.out (p := ⟨gM, r.toNat, none⟩) hne1 (.bool true))
  have hbase := Kd.R_base RM.out gM rfl
  have HBn := Aside0.mk (below_set (g := gM) (j := r.toNat) (v := .bool true) HB.out hbase)
  have RMn := Aside0.mk hput
  have HK := Aside0.mk (fun (k : Nat) (hk : k ≠ gM) => Below.heap_setCell w ⟨gM, r.toNat, none⟩ (.bool true) k hk)
  have HSZ := Aside0.mk (show (w.setCell ⟨gM, r.toNat, none⟩ (.bool true)).heap.size = w.heap.size by simp [World.setCell])
  have hcl2 := (blk_cell HLn.out 0).trans rfl
  have HC3 := Aside0.mk c3
  clear hput hcM hbase c3
  go_enter Tryz.func77, Tryz.ntmps77
  go_upto_region 3 with fail
  generalize w.setCell ⟨gM, r.toNat, none⟩ (.bool true) = wA at RLn HNn HMn HLn HBn RMn HK HSZ hcl2 ⊢
  go_wp2_with (first | ((with_reducible refine gate_builtin (b := .append) (xs := #[.tmp 25, .tmp 30]) rfl ?_); at_builtin; refine Kd.R_append impl_multiple.kN (w0 := w0) w0.heap.size rfl (.tmp 25) (.tmp 30) 70 73 (.agg #[.int .i64 0, .int .i64 0, .int .u8 0]) 24 rfl Tryz.underlying70 impl_multiple.info rfl (by decide) (by omega) v st.1 (⟨r, before, digit⟩ : impl_multiple.Nd) [.int .i64 r, .int .i64 before, .int .u8 digit] (fun _ => True) (fun _ => False) rfl rfl ?aP (fun _ hk => hk.elim) ?aF ?aO ?aB ?aS ?aL ?_; (case aP => exact impl_multiple.kN_mkM _ _ _ ⟨r, before, digit⟩); (case aF => exact fun _ _ => trivial); (case aO => exact RLn.out); (case aB => exact HBn.out); (case aS => exact HBn.out.size); (case aL => have := HC3.out; omega); intro v1 w1 ho hb hg hat; obtain ⟨A1_, c1_, e1_⟩ := Kd.R_slice ho; subst e1_; have RL1 := Aside0.mk ho; have HB1 := Aside0.mk hb; have HG := Aside0.mk hg; have HAT := Aside0.mk hat; have HL1 := Aside0.mk (blk_grown HLn.out hg (Kd.R_ne RLn.out HLn.out (by decide))); have HM1 := Aside0.mk (blk_grown HMn.out hg (Kd.R_ne RLn.out HMn.out (by decide))); have HN1 := Aside0.mk (blk_grown HNn.out hg (Kd.R_ne RLn.out HNn.out (by decide))); have RM1 := Aside0.mk (Kd.R_over RMn.out RLn.out (fun q hq => by simp [Kd.bool, Kd.scalar] at hq; rw [hq]; decide) hg); have hcl3 := (blk_cell HL1.out 0).trans rfl; have hfl3 := blk_frozen HL1.out 0; clear ho hb hg hat))
  (first | go_end0 | ((try simp only [Exit.inBlock, Exit.then]); refine bodyPost_ret (results_none rfl _ _ _) rfl ?_))
  have hl1 := HL1.out
  have ownt := Kd.R_typed RM1.out gM rfl
  refine ⟨rfl, .slice A1_ (st.1 ++ [(⟨r, before, digit⟩ : impl_multiple.Nd)]).length c1_, ⟨blk_far HN1.out (p := ⟨gl, 0, none⟩) hne5 _, ?_, blk_put hl1 0 _ (by simp), ?_, ?_⟩, below_set HB1.out hgl, ?_, ?_, ?_⟩
  · have := blk_far HM1.out (p := ⟨gl, 0, none⟩) hne4 (.slice A1_ (st.1.length + 1) c1_)
    rw [List.length_set]
    exact this
  · have := Kd.R_set RM1.out hl1 (fun q hq => by simp [Kd.bool, Kd.scalar] at hq; rw [hq]; decide) 0 (.slice A1_ (st.1.length + 1) c1_)
    rw [List.length_set]
    exact this
  · exact Kd.R_set RL1.out hl1 (fun q hq => by rw [impl_multiple.E0 q hq]; decide) 0 _
  · have h1 := HG.out.size
    have h2 := HSZ.out
    simp only [World.setCell] at *
    simp
    omega
  · intro k hk h1 h2 h3
    rw [Below.heap_setCell _ _ _ k h1, HG.out.block k (by rw [HSZ.out]; exact hk) h3, HK.out k h2]
  have := HAT.out
  rw [HSZ.out] at this
  exact this
theorem impl_multiple.p0 (w : World) (a b c d e : Obj) : (((((w.alloc a).alloc b).alloc c).alloc d).alloc e).drew.heap[w.heap.size]? = some a := by
 show (((((w.heap.push a).push b).push c).push d).push e)[w.heap.size]? = some a
 simp only [Array.getElem?_push, Array.size_push]
 repeat (first | rw [if_pos trivial] | rw [if_neg (by omega)])
theorem impl_multiple.p1 (w : World) (a b c d e : Obj) : (((((w.alloc a).alloc b).alloc c).alloc d).alloc e).drew.heap[w.heap.size + 1]? = some b := by
 show (((((w.heap.push a).push b).push c).push d).push e)[w.heap.size + 1]? = some b
 simp only [Array.getElem?_push, Array.size_push]
 repeat (first | rw [if_pos trivial] | rw [if_neg (by omega)])
theorem impl_multiple.p2 (w : World) (a b c d e : Obj) : (((((w.alloc a).alloc b).alloc c).alloc d).alloc e).drew.heap[w.heap.size + 1 + 1]? = some c := by
 show (((((w.heap.push a).push b).push c).push d).push e)[w.heap.size + 1 + 1]? = some c
 simp only [Array.getElem?_push, Array.size_push]
 repeat (first | rw [if_pos trivial] | rw [if_neg (by omega)])
theorem impl_multiple.p3 (w : World) (a b c d e : Obj) : (((((w.alloc a).alloc b).alloc c).alloc d).alloc e).drew.heap[w.heap.size + 1 + 1 + 1]? = some d := by
 show (((((w.heap.push a).push b).push c).push d).push e)[w.heap.size + 1 + 1 + 1]? = some d
 simp only [Array.getElem?_push, Array.size_push]
 repeat (first | rw [if_pos trivial] | rw [if_neg (by omega)])
theorem impl_multiple.p4 (w : World) (a b c d e : Obj) : (((((w.alloc a).alloc b).alloc c).alloc d).alloc e).drew.heap[w.heap.size + 1 + 1 + 1 + 1]? = some e := by
 show (((((w.heap.push a).push b).push c).push d).push e)[w.heap.size + 1 + 1 + 1 + 1]? = some e
 simp only [Array.getElem?_push, Array.size_push]
 repeat (first | rw [if_pos trivial] | rw [if_neg (by omega)])
theorem impl_multiple.rowB {w : World} {g n T base : Nat} (h : w.heap[g]? = some (.cells (madeCells #[.bool false] n) T (0, 0))) (hb : base ≤ g) (hn : n ≤ 100000) : Kd.R Kd.bool T w base (fun _ => True) (.slice (some ⟨g, 0, none⟩) n n) (List.replicate n false) := by
 refine Kd.R_of_own (h1 := fun _ => rfl) ?_ (fun _ _ => trivial)
 rw [List.length_replicate]
 refine ⟨by simp [encs], .inr ⟨g, n, _, rfl, hb, h, Nat.le_refl _, by simp [maxLen]; omega, by simp [size_madeCells], ?_⟩⟩
 rw [List.take_of_length_le (by simp [size_madeCells])]
 apply List.ext_getElem
 · simp [size_madeCells, encs]
 intro i h1 h2
 simp [madeCells, encs, Nat.mod_one]
theorem impl_multiple.rowN {w : World} {g T base : Nat} (h : w.heap[g]? = some (.cells #[] T (0, 0))) (hb : base ≤ g) : Kd.R impl_multiple.kN T w base (fun _ => True) (.slice (some ⟨g, 0, none⟩) 0 0) [] := by
 refine ⟨fun _ _ => trivial, [], ?_, Reps.none _ _⟩
 exact ⟨by simp, .inr ⟨g, 0, #[], rfl, hb, h, Nat.le_refl _, by simp [maxLen], by simp, by simp⟩⟩
theorem impl_multiple.first_ (w : World) (N : Nat) (hN : N ≤ 100000) (wx : World) (gm gl : Nat) (h : ∃ gM gv : Nat, wx.heap[w.heap.size]? = some (.cells #[.int .i64 (N : Int)] 3 (0, 0)) ∧ wx.heap[gm]? = some (.cells #[.slice (some ⟨gM, 0, none⟩) N N] 71 (0, 0)) ∧ wx.heap[gl]? = some (.cells #[.slice (some ⟨gv, 0, none⟩) 0 0] 70 (0, 0)) ∧ wx.heap[gM]? = some (.cells (madeCells #[.bool false] N) 4 (0, 0)) ∧ wx.heap[gv]? = some (.cells #[] 73 (0, 0)) ∧ w.heap.size ≤ gl ∧ w.heap.size ≤ gM ∧ w.heap.size ≤ gv) (hB : Below w.heap.size w wx) :
 ∃ (gm' gl' gM : Nat) (v : Value), (Value.pointer (some ⟨gl, 0, none⟩)) = .pointer (some ⟨gl', 0, none⟩) ∧ (Value.pointer (some ⟨gm, 0, none⟩)) = .pointer (some ⟨gm', 0, none⟩) ∧ Aside0 (w.heap.size ≤ gl') ∧ Aside0 (impl_multiple.St w.heap.size wx w.heap.size gm' gl' gM (N : Int) N ([], List.replicate N false) v) ∧ Aside0 (Below w.heap.size w wx) := by
 obtain ⟨gM, gv, h1, h2, h3, h4, h5, h6, h7, h8⟩ := h
 refine ⟨gm, gl, gM, .slice (some ⟨gv, 0, none⟩) 0 0, rfl, rfl, ⟨h6⟩, ⟨⟨h1, by simpa using h2, h3, ?_, impl_multiple.rowN h5 h8⟩⟩, ⟨hB⟩⟩
 have := impl_multiple.rowB h4 h7 hN
 simpa using this
theorem impl_multiple.St.below {base : Nat} {w w1 : World} {gn gm gl gM : Nat} {n : Int} {cM : Nat} {st : List impl_multiple.Nd × List Bool} {v : Value} (h : impl_multiple.St base w gn gm gl gM n cM st v) (hb : Below w.heap.size w w1) : impl_multiple.St base w1 gn gm gl gM n cM st v :=
 ⟨blk_below h.hn hb, blk_below h.hm hb, blk_below h.hl hb, Kd.R_below h.rm hb, Kd.R_below h.rl hb⟩
theorem impl_multiple.rd_drop (ds : List Int) (j : Nat) (h : j < ds.length) : ds.drop j = rd ds (j : Int) :: ds.drop (j + 1) := by
 rw [List.drop_eq_getElem_cons h]
 congr 1
 unfold rd
 rw [Int.toNat_natCast, List.getD_eq_getElem?_getD, List.getElem?_eq_getElem h]
 rfl
open Bytes in
theorem impl_multiple.MR_one {e : Nat} {w w1 : World} {base g n c : Nat} {ok : Nat → Prop} {xs : List Int} (h : MR e w base ok (.slice (some ⟨g, 0, none⟩) n c) xs) (hk : w1.heap[g]? = w.heap[g]?) : MR e w1 base ok (.slice (some ⟨g, 0, none⟩) n c) xs := by
 obtain ⟨h0, g', cap, cur, hv, hb, hh, r⟩ := h
 have hv' := hv
 injection hv with h1 h2 h3
 injection h1 with h1
 injection h1 with h1
 subst h1
 exact ⟨h0, g, cap, cur, hv', hb, hk.trans hh, r⟩
theorem impl_multiple.len_le {e : Nat} {w : World} {base : Nat} {ok : Nat → Prop} {v : Value} {xs : List impl_multiple.Nd} (h : Kd.R impl_multiple.kN e w base ok v xs) : xs.length ≤ 9223372036854775807 := by
 obtain ⟨inner, ho⟩ := Kd.R_own h
 rcases ho.2 with ⟨_, h0⟩ | ⟨g, cap, cur, _, _, _, hc, hm, _⟩
 · omega
 simp only [maxLen] at hm; omega
theorem impl_multiple.at_N {e : Nat} {w : World} {base : Nat} {ok : Nat → Prop} {g c : Nat} {n : Nat} {xs : List impl_multiple.Nd} (h : Kd.R impl_multiple.kN e w base ok (.slice (some ⟨g, 0, none⟩) n c) xs) (i : Nat) (h1 : i < xs.length) : w.cell? ⟨g, i * 3, none⟩ = some (.int .i64 (rdOf impl_multiple.zN xs i).r) ∧ w.cell? ⟨g, i * 3 + 1, none⟩ = some (.int .i64 (rdOf impl_multiple.zN xs i).b) ∧ w.cell? ⟨g, i * 3 + 2, none⟩ = some (.int .u8 (rdOf impl_multiple.zN xs i).d) := by
 obtain ⟨hn, _, hC⟩ := Kd.R_reads' h
 obtain ⟨ad, c, e, _, hK, hc0⟩ := Kd.C_get hC impl_multiple.zN (i : Int) (by omega) (by omega)
 injection e with e
 subst e
 have hc : ∀ j u, c[j]? = some u → w.cell? ((⟨g, 0, none⟩ : Addr).add (((i : Int)).toNat * 3 + j)) = some u := hc0
 obtain rfl := impl_multiple.kN_open hK
 rw [Int.toNat_natCast] at hc
 have f : ∀ j, (⟨g, 0, none⟩ : Addr).add (i * 3 + j) = ⟨g, i * 3 + j, none⟩ := fun j => by rw [add_at]; simp
 refine ⟨?_, ?_, ?_⟩
 · have := hc 0 _ rfl; rwa [f, Nat.add_zero] at this
 · have := hc 1 _ rfl; rwa [f] at this
 have := hc 2 _ rfl; rwa [f] at this
theorem impl_multiple.push_pre {n before rest digit : Int} {st st' : List impl_multiple.Nd × List Bool} (h : impl_multiple.push n st before rest digit = some st') (i : Nat) (hi : i < st.1.length) : i < st'.1.length ∧ rdOf impl_multiple.zN st'.1 (i : Int) = rdOf impl_multiple.zN st.1 (i : Int) := by
 unfold impl_multiple.push at h
 split at h
 · cases h
 split at h
 · split at h
   · split at h
     · obtain rfl := Option.some.inj h; exact ⟨hi, rfl⟩
     split at h
     · obtain rfl := Option.some.inj h
       refine ⟨by simp; omega, ?_⟩
       unfold rdOf
       rw [Int.toNat_natCast]
       simp only [List.getD_eq_getElem?_getD]
       rw [List.getElem?_append_left hi]
     cases h
   cases h
 cases h
theorem impl_multiple.wr1 (j : Nat) (h : j < 9223372036854775807) : wrap64 ((j : Int) + 1) = (j : Int) + 1 := by unfold wrap64; omega
theorem impl_multiple.St.grown {base b : Nat} {w w1 : World} {ok : Nat → Prop} {gn gm gl gM : Nat} {n : Int} {cM : Nat} {st : List impl_multiple.Nd × List Bool} {v vo : Value} {out : List Int} (h : impl_multiple.St base w gn gm gl gM n cM st v) (hr : Kd.R (Kd.int .u8) 5 w b ok vo out) (hg : w.grownBy w1 vo.ownBlock) : impl_multiple.St base w1 gn gm gl gM n cM st v :=
 ⟨blk_grown h.hn hg (Kd.R_ne hr h.hn (by decide)), blk_grown h.hm hg (Kd.R_ne hr h.hm (by decide)), blk_grown h.hl hg (Kd.R_ne hr h.hl (by decide)), Kd.R_over h.rm hr (fun q hq => by simp [Kd.bool, Kd.scalar] at hq; rw [hq]; decide) hg, Kd.R_over h.rl hr (fun q hq => by rw [impl_multiple.E0 q hq]; decide) hg⟩
theorem impl_multiple.rowU {w : World} {g T base : Nat} (h : w.heap[g]? = some (.cells #[] T (0, 0))) (hb : base ≤ g) : Kd.R (Kd.int .u8) T w base (fun _ => True) (.slice (some ⟨g, 0, none⟩) 0 0) [] := by
 refine ⟨fun _ _ => trivial, [], ?_, Reps.none _ _⟩
 exact ⟨by simp, .inr ⟨g, 0, #[], rfl, hb, h, Nat.le_refl _, by simp [maxLen], by simp, by simp⟩⟩
open Bytes Go.Sort in
theorem impl_multiple.rev {n c g : Nat} {ok : Nat → Prop} {w w0 : World} {xs : List Int} (hB : Below w0.heap.size w0 w) (hr : Kd.R (Kd.int .u8) 5 w w0.heap.size ok (.slice (some ⟨g, 0, none⟩) n c) xs) (hp : 0 < xs.length) (hl : xs.length ≤ 9223372036854775807) :
 Calls Tryz.prog 46 #[.slice (some ⟨g, 0, none⟩) n c] w fun e' w' => e' = .returned (.tuple #[]) ∧ Kd.C (Kd.int .u8) w' (some ⟨g, 0, none⟩) xs.length xs.reverse ∧ Below w0.heap.size w0 w' := by
 have hn := (Kd.R_reads' hr).1
 have ho := Kd.own_of_R hr
 have h := MZ_of_own (ok := fun _ => True) (fun _ _ => trivial) hp ho
 obtain ⟨hH, hlt, _, hb⟩ := MZ_holds h
 have cc := RevB.slices_Reverse g 0 c xs.toArray w hH (by simpa using hl)
 rw [List.size_toArray, ← hn] at cc
 refine cc.mono ?_
 rintro e' w' ⟨rfl, m, hw⟩
 have hw2 : w' = grow (putRow (fun x => Value.int .u8 x) (Sort.ahead w m) g 0 xs.reverse.toArray) #[] := by rw [hw, grow_empty]; simp
 obtain ⟨h1, h2, h3, h4, h5, h6⟩ := MZ_put (w0 := w0) h (by simp) hw2
 refine ⟨rfl, ?_, ⟨h4.trans hB.os, h5.trans hB.tape, h6.trans hB.output, Nat.le_trans hB.size h3, fun k hk => (h2 k (by omega) (by have := hB.size; omega)).trans (hB.block k hk)⟩⟩
 have := (MZ_reads' h1).2.2
 rwa [List.length_reverse] at this
def impl_multiple.first (n : Int) : List Int → List impl_multiple.Nd × List Bool → Option (List impl_multiple.Nd × List Bool)
 | [], st => some st
 | d :: ds, st => if d = 48 then impl_multiple.first n ds st else (impl_multiple.push n st (-1) 0 d).bind fun st' => impl_multiple.first n ds st'
def impl_multiple.pushes (n i rest : Int) : List Int → List impl_multiple.Nd × List Bool → Option (List impl_multiple.Nd × List Bool)
 | [], st => some st
 | d :: ds, st => (impl_multiple.push n st i rest d).bind fun st' => impl_multiple.pushes n i rest ds st'
def impl_multiple.path (l : List impl_multiple.Nd) : Nat → Int → List Int → Option (List Int)
 | 0, _, _ => none
 | k + 1, i, out => if 0 ≤ i then (if i < (l.length : Int) then (if out.length < 1000000 then impl_multiple.path l k (rdOf impl_multiple.zN l i).b (out ++ [(rdOf impl_multiple.zN l i).d]) else none) else none) else some out
def impl_multiple.l2 (n : Int) (ds : List Int) : Nat → List impl_multiple.Nd × List Bool → Int → Option (ByteArray × Bool)
 | 0, _, _ => none
 | k + 1, st, i => if i < (st.1.length : Int) then (if (rdOf impl_multiple.zN st.1 i).r = 0 then (impl_multiple.path st.1 k i []).bind fun out => some (strOfNums out.reverse, true) else (impl_multiple.pushes n i (rdOf impl_multiple.zN st.1 i).r ds st).bind fun st' => impl_multiple.l2 n ds k st' (i + 1)) else some (⟨#[]⟩, false)
def impl_multiple.f (k : Nat) (a0 : Int) (a1 : ByteArray) : Option (ByteArray × Bool) := if (1 ≤ a0 ∧ a0 ≤ 100000) ∧ a1.size ≤ 1048576 then (impl_multiple.first a0 (bytesOf a1) ([], List.replicate a0.toNat false)).bind fun st => impl_multiple.l2 a0 (bytesOf a1) k st 0 else none
theorem impl_multiple.path_mono (l : List impl_multiple.Nd) : ∀ k i out, LeO (impl_multiple.path l k i out) (impl_multiple.path l (k + 1) i out)
 | 0, _, _ => fun r h => by simp [impl_multiple.path] at h
 | k + 1, i, out => by
  unfold impl_multiple.path
  exact LeO.ite (LeO.ite (LeO.ite (impl_multiple.path_mono l k _ _) (LeO.none _)) (LeO.none _)) (LeO.refl _)
theorem impl_multiple.l2_mono (n : Int) (ds : List Int) : ∀ k st i, LeO (impl_multiple.l2 n ds k st i) (impl_multiple.l2 n ds (k + 1) st i)
 | 0, _, _ => fun r h => by simp [impl_multiple.l2] at h
 | k + 1, st, i => by
  unfold impl_multiple.l2
  exact LeO.ite (LeO.ite (LeO.bind (impl_multiple.path_mono _ k _ _) (fun _ => LeO.refl _)) (LeO.bind (LeO.refl _) (fun _ => impl_multiple.l2_mono n ds k _ _))) (LeO.refl _)
theorem impl_multiple.mono : ∀ a0 a1 k, LeO (impl_multiple.f k a0 a1) (impl_multiple.f (k + 1) a0 a1) := by
 intro a0 a1 k
 unfold impl_multiple.f
 exact LeO.ite (LeO.bind (LeO.refl _) (fun _ => impl_multiple.l2_mono _ _ k _ _)) (LeO.none _)
set_option maxHeartbeats 16000000 in
set_option maxRecDepth 100000 in
open Bytes in
theorem impl_multiple.calls (k : Nat) (a0 : Int) (a1 : ByteArray) (r1 : ByteArray) (r2 : Bool) (w : World) (h : impl_multiple.f k a0 a1 = some (r1, r2)) :
 Calls Tryz.prog 61 #[.int .i64 a0, .string a1] w fun e w' => e = .returned (.tuple #[.string r1, .bool r2]) ∧ Below w.heap.size w w' := by
 unfold impl_multiple.f at h
 by_cases h0 : (1 ≤ a0 ∧ a0 ≤ 100000) ∧ a1.size ≤ 1048576
 rotate_left
 · exact none_ (if_neg h0) h
 rw [if_pos h0] at h
 obtain ⟨⟨h1, h2⟩, hz⟩ := h0
 obtain ⟨N, rfl⟩ : ∃ N : Nat, a0 = (N : Int) := ⟨a0.toNat, by omega⟩
 rw [Int.toNat_natCast] at h
 obtain ⟨st, hst, h⟩ := Option.bind_eq_some_iff.mp h
 have HST := Aside0.mk hst
 have H := Aside0.mk h
 have HZ := Aside0.mk hz
 have H1 := Aside0.mk h1
 have H2 := Aside0.mk h2
 have HB := Aside0.mk (Below.refl w.heap.size w)
 clear hst h hz
 have hmk := run_make_row' (P := Tryz.prog) 71 4 (.bool false) 1 Tryz.underlying71 (by kernel_rfl) rfl .i64 .i64 N (by omega) (by omega)
 go_enter Tryz.func61, Tryz.ntmps61
 go_upto_region 1 with fail
 go_cut [6, 7] from 6 to 18 (fun s6 s7 wx => ∃ (gm gl gM : Nat) (v : Value), s6 = .pointer (some ⟨gl, 0, none⟩) ∧ s7 = .pointer (some ⟨gm, 0, none⟩) ∧ Aside0 (w.heap.size ≤ gl) ∧ Aside0 (impl_multiple.St w.heap.size wx w.heap.size gm gl gM (N : Int) N ([], List.replicate N false) v) ∧ Aside0 (Below w.heap.size w wx))
 case first =>
  have HN5 : N ≤ 100000 := by omega
  go_region
  all_goals (go_wp2; go_meet; case rel => exact impl_multiple.first_ w N HN5 _ _ _ ⟨_, _, z8_0_, z8_0_, z8_0_, z8_0_, z8_0_, by omega, by omega, by omega⟩ (below_drew1 (below_alloc (below_alloc (below_alloc (below_alloc (below_alloc (Below.refl _ _) _) _) _) _) _)))
 case rest =>
  obtain ⟨gm, gl, gM, v, rfl, rfl, GL, S, HB⟩ := hcut
  obtain ⟨ds, hds⟩ : ∃ ds, ds = bytesOf a1 := ⟨_, rfl⟩
  have hdl : ds.length = a1.size := by rw [hds]; exact (bytes_reads w 5 a1 (by have := HZ.out; omega)).1
  rw [← hds] at HST H
  have HDL := Aside0.mk hdl
  have HDS := Aside0.mk hds
  have hcv := Lib.run_convert_string_bytes (P := Tryz.prog) wc 9 22 5 a1 (u := .string) Tryz.underlying9 Tryz.underlying22 Tryz.underlying5
  have hgr := grown_le wc a1.size 5 (by have := HZ.out; omega)
  have hm := MR_conv wc 5 a1 (by have := HZ.out; omega) wc.heap.size (Nat.le_refl _) hgr.2 hgr.1
  have HBV := Aside0.mk (bytes_below (Below.refl wc.heap.size wc) (Nat.le_refl _) 5 a1)
  rw [← hds] at hm
  generalize Lib.bytesWorld wc 5 a1 = w7 at hm HBV hcv
  generalize grownCap wc a1.size 0 5 = cap at hm hcv
  have HMR := Aside0.mk hm
  have S7 := Aside0.mk (S.out.below HBV.out)
  have HB7 := Aside0.mk (below_step HB.out HBV.out)
  have HV7 : Aside0 (v.ownBlock ≠ some wc.heap.size) := ⟨fun e => by have := Kd.R_lt S.out.rl _ e; omega⟩
  have HG := Aside0.mk (show gl < wc.heap.size ∧ gM < wc.heap.size from ⟨blk_lt S.out.hl, Kd.R_lt S.out.rm gM rfl⟩)
  obtain ⟨gD, hgD⟩ : ∃ gD, gD = wc.heap.size := ⟨_, rfl⟩
  clear hm hgr hdl hds h1 h2 h hmk
  go_wp2
  clear hcv
  rw [← hgD] at HMR HV7 HG
  rw [← hgD]
  have HGE := Aside0.mk hgD
  clear HBV HB S hgD
  go_loopg [23] a1.size (fun kq v23 w' => ∃ (j : Nat) (st' : List impl_multiple.Nd × List Bool) (v' : Value), v23 = .int .i64 (j : Int) ∧ Aside0 (j + kq = a1.size) ∧ Aside0 (impl_multiple.first (N : Int) (ds.drop j) st' = some st) ∧ Aside0 (impl_multiple.St w.heap.size w' w.heap.size gm gl gM (N : Int) N st' v') ∧ Aside0 (MR 5 w' gD (fun _ => True) (.slice (some ⟨gD, 0, none⟩) a1.size cap) ds) ∧ Aside0 (v'.ownBlock ≠ some gD) ∧ Aside0 (gD < w'.heap.size) ∧ Aside0 (Below w.heap.size w w'))
  case atStart => exact ⟨0, _, _, rfl, ⟨by omega⟩, HST, S7, HMR, HV7, ⟨(MR_holds HMR.out).2.1⟩, HB7⟩
  case round =>
   clear HST S7 HMR HV7 HB7
   obtain ⟨j, st', v', rfl, HJ, HF, S, HMR, HV, HGD, HB⟩ := hrel
   by_cases c : j < a1.size
   · obtain ⟨hx, hf⟩ := MR_celln 0 HMR.out (j : Int) (by omega) (by omega)
     simp only [Int.toNat_natCast] at hx hf
     have hF := HF.out
     rw [impl_multiple.rd_drop ds j (by rw [HDL.out]; exact c)] at hF
     simp only [impl_multiple.first] at hF
     obtain ⟨D, hD⟩ : ∃ D, D = rd ds (j : Int) := ⟨_, rfl⟩
     rw [← hD] at hF hx
     have hwj : wrap64 ((j : Int) + 1) = (j : Int) + 1 := by have := HZ.out; unfold wrap64; omega
     have c1 : decide ((j : Int) < (a1.size : Int)) = true := decide_eq_true (by omega)
     have c2 : decide (j < a1.size) = true := decide_eq_true c
     have p1 : (0 ≤ (j : Int)) = True := eq_true (by omega)
     have q1 : ((j : Int) < (a1.size : Int)) = True := eq_true (by omega)
     have q2 : (j < a1.size) = True := eq_true c
     have HC := Aside0.mk c
     clear hD c
     by_cases c48 : D = 48
     · rw [if_pos c48] at hF
       have e1 : (D == 48) = true := beq_iff_eq.mpr c48
       have e2 : (D != 48) = false := bne_eq_false_iff_eq.mpr c48
       have HF := Aside0.mk hF
       clear hF c48
       go_wp2
       go_roundg (gk - 1)
       case measure => have := HJ.out; have := HC.out; omega
       case rel => exact ⟨j + 1, st', v', by first | rfl | (rw [hwj]; rfl), ⟨by have := HJ.out; have := HC.out; omega⟩, HF, S, HMR, HV, HGD, HB⟩
     rw [if_neg c48] at hF
     obtain ⟨st2, hp, hF⟩ := Option.bind_eq_some_iff.mp hF
     have e1 : (D == 48) = false := beq_eq_false_iff_ne.mpr c48
     have e2 : (D != 48) = true := bne_iff_ne.mpr c48
     have HF := Aside0.mk hF
     have HP := Aside0.mk hp
     clear hF c48 hp
     go_wp2_with (first | (go_at_call 77; refine (impl_multiple.push_calls wr w w.heap.size gm gl gM (N : Int) N (-1) 0 D st' st2 v' HB.out GL.out S.out HP.out).mono ?_; rintro e w9 ⟨rfl, v2, hS, hB9, hsz, hk, hv⟩; have S2 := Aside0.mk hS; have HB2 := Aside0.mk hB9; have HMR2 := Aside0.mk (impl_multiple.MR_one HMR.out (hk gD HGD.out (by have := HG.out; omega) (by have := HG.out; omega) (fun e => HV.out e.symm))); have HGD2 : Aside0 (gD < w9.heap.size) := ⟨Nat.lt_of_lt_of_le HGD.out hsz⟩; have HV2 : Aside0 (v2.ownBlock ≠ some gD) := ⟨by intro e; rcases hv with q | ⟨b, q, hb⟩; exact HV.out (q.symm.trans e); rw [q] at e; injection e with e; have := HGD.out; omega⟩; clear hS hB9 hsz hk hv))
     go_roundg (gk - 1)
     case measure => have := HJ.out; have := HC.out; omega
     case rel => exact ⟨j + 1, st2, v2, by first | rfl | (rw [hwj]; rfl), ⟨by have := HJ.out; have := HC.out; omega⟩, HF, S2, HMR2, HV2, HGD2, HB2⟩
   have hst : st' = st := by
    have h := HF.out
    rw [List.drop_eq_nil_of_le (by rw [HDL.out]; omega)] at h
    exact Option.some.inj h
   subst hst
   have c1 : decide ((j : Int) < (a1.size : Int)) = false := decide_eq_false (by omega)
   have c2 : decide (j < a1.size) = false := decide_eq_false c
   clear c HF HJ HMR
   go_wp2
   clear HGD HV HG HGE
   go_loopg [11] k (fun kq v11 w' => ∃ (i : Nat) (st : List impl_multiple.Nd × List Bool) (v' : Value), v11 = .int .i64 (i : Int) ∧ Aside0 (impl_multiple.l2 (N : Int) ds kq st (i : Int) = some (r1, r2)) ∧ Aside0 (impl_multiple.St w.heap.size w' w.heap.size gm gl gM (N : Int) N st v') ∧ Aside0 (Below w.heap.size w w'))
   case atStart => exact ⟨0, _, _, rfl, H, S, HB⟩
   case round =>
    clear H S HB
    obtain ⟨i, st, v0, rfl, HA, S, HB⟩ := hrel
    cases gk with
    | zero => exact absurd HA.out (by simp [impl_multiple.l2])
    | succ k1 =>
     have h := HA.out
     clear HA
     simp only [impl_multiple.l2] at h
     obtain ⟨A0, c0, rfl⟩ := Kd.R_slice S.out.rl
     have hcl := (blk_cell S.out.hl 0).trans rfl
     by_cases c : (i : Int) < (st.1.length : Int)
     · rw [if_pos c] at h
       have hil : i < st.1.length := by omega
       obtain ⟨gL, cL, eL, gb_, gl_, _⟩ := Kd.R_form S.out.rl (by omega)
       injection eL with ea_ en_ ec_
       subst ea_; subst ec_
       obtain ⟨hx0, hx1, hx2⟩ := impl_multiple.at_N S.out.rl i hil
       have hlen := impl_multiple.len_le S.out.rl
       have hwi : wrap64 ((i : Int) + 1) = (i : Int) + 1 := by unfold wrap64; omega
       have c1 : decide ((i : Int) < (st.1.length : Int)) = true := decide_eq_true c
       have c2 : decide (i < st.1.length) = true := decide_eq_true hil
       have p1 : (0 ≤ (i : Int)) = True := eq_true (by omega)
       have q1 : ((i : Int) < (st.1.length : Int)) = True := eq_true c
       have q2 : (i < st.1.length) = True := eq_true hil
       have HIL := Aside0.mk hil
       clear c hil hlen gb_ gl_ en_
       obtain ⟨R0, hR0⟩ : ∃ R0, (rdOf impl_multiple.zN st.1 (i : Int)).r = R0 := ⟨_, rfl⟩
       rw [hR0] at h hx0
       have HR0 := Aside0.mk hR0
       clear hR0
       by_cases cr : R0 = 0
       · rw [if_pos cr] at h
         have e1 : (R0 == 0) = true := beq_iff_eq.mpr cr
         obtain ⟨outF, hpa, hq⟩ := Option.bind_eq_some_iff.mp h
         simp only [Option.some.injEq, Prod.mk.injEq] at hq
         obtain ⟨rfl, rfl⟩ := hq
         have HPA := Aside0.mk hpa
         clear h hpa
         have hbs := HB.out.size
         have RO := Aside0.mk (impl_multiple.rowU (T := 5) (base := w.heap.size) (blk_new wr (.cells #[] 5 (0, 0))) hbs)
         have S1 := Aside0.mk (S.out.below (below_alloc (Below.refl wr.heap.size wr) (.cells #[] 5 (0, 0))))
         have HB1 := Aside0.mk (below_alloc HB.out (.cells #[] 5 (0, 0)))
         clear hbs
         go_wp2
         go_loopg [12, 13] k1 (fun kq v12 v13 w' => ∃ (kk : Int) (out : List Int), v13 = .int .i64 kk ∧ Aside0 (impl_multiple.path st.1 kq kk out = some outF) ∧ Aside0 (0 ≤ kk ∨ 0 < out.length) ∧ Aside0 (Kd.R (Kd.int .u8) 5 w' w.heap.size (fun _ => True) v12 out) ∧ Aside0 (impl_multiple.St w.heap.size w' w.heap.size gm gl gM (N : Int) N st (.slice (some ⟨gL, 0, none⟩) st.1.length c0)) ∧ Aside0 (Below w.heap.size w w'))
         case atStart => exact ⟨_, _, rfl, HPA, ⟨.inl (Int.natCast_nonneg i)⟩, RO, S1, HB1⟩
         case round =>
          clear HPA RO S1 HB1 S HB hcl hx0 hx1 hx2 HR0 HIL
          obtain ⟨kk, out, rfl, HA, HO, RO, S, HB⟩ := hrel
          cases gk with
          | zero => exact absurd HA.out (by simp [impl_multiple.path])
          | succ k2 =>
           have h := HA.out
           clear HA
           simp only [impl_multiple.path] at h
           by_cases c0_ : 0 ≤ kk
           · rw [if_pos c0_] at h
             by_cases c1_ : kk < (st.1.length : Int)
             rotate_left
             · exact none_ (if_neg c1_) h
             rw [if_pos c1_] at h
             by_cases c2_ : out.length < 1000000
             rotate_left
             · exact none_ (if_neg c2_) h
             rw [if_pos c2_] at h
             obtain ⟨q, rfl⟩ : ∃ q : Nat, kk = (q : Int) := ⟨kk.toNat, (Int.toNat_of_nonneg c0_).symm⟩
             have hq := Int.ofNat_lt.mp c1_
             have HP := Aside0.mk h
             obtain ⟨hx0, hx1, hx2⟩ := impl_multiple.at_N S.out.rl q hq
             have hcl := (blk_cell S.out.hl 0).trans rfl
             have s0 : (0 ≤ (q : Int)) = True := eq_true c0_
             have s1 : ((q : Int) < (st.1.length : Int)) = True := eq_true c1_
             have s2 : (q < st.1.length) = True := eq_true hq
             have t0 : decide (0 ≤ (q : Int)) = true := decide_eq_true c0_
             have HQ := Aside0.mk hq
             have HL := Aside0.mk c2_
             clear h c0_ c1_ c2_ hq
             obtain ⟨D, hD⟩ : ∃ D, D = (rdOf impl_multiple.zN st.1 (q : Int)).d := ⟨_, rfl⟩
             obtain ⟨Bq, hBq⟩ : ∃ Bq, Bq = (rdOf impl_multiple.zN st.1 (q : Int)).b := ⟨_, rfl⟩
             rw [← hD, ← hBq] at HP
             rw [← hD] at hx2
             rw [← hBq] at hx1
             have HBQ := Aside0.mk hBq
             clear hD hBq
             go_wp2_with (first | ((with_reducible refine gate_builtin (b := .append) (xs := #[.tmp 54, .tmp 60]) rfl ?_); at_builtin; refine Kd.R_append (Kd.int .u8) (w0 := w) w.heap.size rfl (.tmp 54) (.tmp 60) 22 5 (.int .u8 0) 1 rfl Tryz.underlying22 (by kernel_rfl) rfl (by decide) (by omega) _ out D [.int .u8 D] (fun _ => True) (fun _ => False) rfl rfl ?aP (fun _ hk => hk.elim) ?aF ?aO ?aB ?aS ?aL ?_; (case aP => exact rfl); (case aB => exact HB.out); (case aF => exact (fun _ _ => trivial)); (case aO => exact RO.out); (case aS => exact HB.out.size); (case aL => have := HL.out; omega); intro v1 w1 ho hb hg hat; have RO1 := Aside0.mk ho; have HB1 := Aside0.mk hb; have S1 := Aside0.mk (S.out.grown RO.out hg); have hcl1 := (blk_cell S1.out.hl 0).trans rfl; have hy1 := (impl_multiple.at_N S1.out.rl q HQ.out).2.1; rw [← HBQ.out] at hy1; clear ho hb hg hat))
             go_roundg k2
             case measure => omega
             case rel => exact ⟨_, _, rfl, HP, ⟨.inr (by simp)⟩, RO1, S1, HB1⟩
           rw [if_neg c0_] at h
           obtain rfl := Option.some.inj h
           have t0 : decide (0 ≤ kk) = false := decide_eq_false c0_
           have hp : 0 < out.length := by rcases HO.out with q | q; exact absurd q c0_; exact q
           clear h c0_
           obtain ⟨gO, cO, eO, _, _, _⟩ := Kd.R_form RO.out hp
           subst eO
           have hmx : out.length ≤ 9223372036854775807 := by
            have := Kd.own_of_R RO.out
            rcases this.2 with ⟨_, h0⟩ | ⟨g, cap, cur, _, _, _, hc, hm, _⟩
            · omega
            simp only [maxLen] at hm; omega
           have HRV := Aside0.mk (impl_multiple.rev HB.out RO.out hp hmx)
           clear hp hmx
           go_wp2_with (first | (go_at_call 46; refine HRV.out.mono ?_; rintro e w9 ⟨rfl, hC, hb⟩; have HB9 := Aside0.mk hb; have hcv := Kd.C_string (P := Tryz.prog) (src := 22) (dst := 9) (e := 5) (c := cO) Tryz.underlying22 Tryz.underlying5 Tryz.underlying9 hC; clear hC hb))
           go_ret2
           exact ⟨rfl, by repeat (first | exact HB9.out | apply below_drew1 | apply pw_below_drewN)⟩
       rw [if_neg cr] at h
       have e1 : (R0 == 0) = false := beq_eq_false_iff_ne.mpr cr
       have H := Aside0.mk h
       clear h
       go_upto_region 20 with fail
       obtain ⟨stE, hps, hl2⟩ := Option.bind_eq_some_iff.mp H.out
       have HPS := Aside0.mk hps
       have HL2 := Aside0.mk hl2
       clear hps hl2 H hcl hx0 hx1 hx2
       have hcv := Lib.run_convert_string_bytes (P := Tryz.prog) wr 9 22 5 a1 (u := .string) Tryz.underlying9 Tryz.underlying22 Tryz.underlying5
       have hgr := grown_le wr a1.size 5 (by have := HZ.out; omega)
       have hm := MR_conv wr 5 a1 (by have := HZ.out; omega) wr.heap.size (Nat.le_refl _) hgr.2 hgr.1
       have HBV := Aside0.mk (bytes_below (Below.refl wr.heap.size wr) (Nat.le_refl _) 5 a1)
       rw [← HDS.out] at hm
       generalize Lib.bytesWorld wr 5 a1 = w8 at hm HBV hcv
       generalize grownCap wr a1.size 0 5 = cap8 at hm hcv
       have HMR := Aside0.mk hm
       have S8 := Aside0.mk (S.out.below HBV.out)
       have HB8 := Aside0.mk (below_step HB.out HBV.out)
       have HV8 : Aside0 ((Value.slice (some ⟨gL, 0, none⟩) st.1.length c0).ownBlock ≠ some wr.heap.size) := ⟨fun e => by have := Kd.R_lt S.out.rl _ e; omega⟩
       have HG := Aside0.mk (show gl < wr.heap.size ∧ gM < wr.heap.size from ⟨blk_lt S.out.hl, Kd.R_lt S.out.rm gM rfl⟩)
       obtain ⟨gD, hgD⟩ : ∃ gD, gD = wr.heap.size := ⟨_, rfl⟩
       clear hm hgr
       go_wp2
       clear hcv
       rw [← hgD] at HMR HV8 HG
       rw [← hgD]
       have HGE := Aside0.mk hgD
       clear HBV HB S hgD
       go_loopg [69] a1.size (fun kq v69 w' => ∃ (j : Nat) (st' : List impl_multiple.Nd × List Bool) (v' : Value), v69 = .int .i64 (j : Int) ∧ Aside0 (j + kq = a1.size) ∧ Aside0 (impl_multiple.pushes (N : Int) (i : Int) R0 (ds.drop j) st' = some stE) ∧ Aside0 (i < st'.1.length ∧ (rdOf impl_multiple.zN st'.1 (i : Int)).r = R0) ∧ Aside0 (impl_multiple.St w.heap.size w' w.heap.size gm gl gM (N : Int) N st' v') ∧ Aside0 (MR 5 w' gD (fun _ => True) (.slice (some ⟨gD, 0, none⟩) a1.size cap8) ds) ∧ Aside0 (v'.ownBlock ≠ some gD) ∧ Aside0 (gD < w'.heap.size) ∧ Aside0 (Below w.heap.size w w'))
       case atStart => exact ⟨0, _, _, rfl, ⟨by omega⟩, HPS, ⟨HIL.out, HR0.out⟩, S8, HMR, HV8, ⟨(MR_holds HMR.out).2.1⟩, HB8⟩
       case round =>
        clear HPS S8 HMR HV8 HB8 HR0 HIL
        obtain ⟨j, st', v', rfl, HJ, HF, HI, S, HMR, HV, HGD, HB⟩ := hrel
        by_cases c : j < a1.size
        · obtain ⟨hx, hf⟩ := MR_celln 0 HMR.out (j : Int) (by omega) (by omega)
          simp only [Int.toNat_natCast] at hx hf
          have hF := HF.out
          rw [impl_multiple.rd_drop ds j (by rw [HDL.out]; exact c)] at hF
          simp only [impl_multiple.pushes] at hF
          obtain ⟨D, hD⟩ : ∃ D, D = rd ds (j : Int) := ⟨_, rfl⟩
          rw [← hD] at hF hx
          obtain ⟨st2, hp, hF⟩ := Option.bind_eq_some_iff.mp hF
          have HF := Aside0.mk hF
          have HP := Aside0.mk hp
          have HI2 := Aside0.mk (impl_multiple.push_pre hp i HI.out.1)
          obtain ⟨A1, cL1, eA1⟩ := Kd.R_slice S.out.rl
          subst eA1
          obtain ⟨gL1, cL2, eL1, gb_, gl_, _⟩ := Kd.R_form S.out.rl (by have := HI.out.1; omega)
          injection eL1 with ea_ en_ ec_
          subst ea_; subst ec_
          obtain ⟨hx0, hx1, hx2⟩ := impl_multiple.at_N S.out.rl i HI.out.1
          rw [HI.out.2] at hx0
          have hcl := (blk_cell S.out.hl 0).trans rfl
          have s1 : ((i : Int) < (st'.1.length : Int)) = True := eq_true (Int.ofNat_lt.mpr HI.out.1)
          have s2 : (i < st'.1.length) = True := eq_true HI.out.1
          have hwj := impl_multiple.wr1 j (Nat.lt_of_lt_of_le c (Nat.le_trans HZ.out (by decide)))
          have c1 : decide ((j : Int) < (a1.size : Int)) = true := decide_eq_true (Int.ofNat_lt.mpr c)
          have c2 : decide (j < a1.size) = true := decide_eq_true c
          have p3 : (0 ≤ (j : Int)) = True := eq_true (Int.natCast_nonneg j)
          have q3 : ((j : Int) < (a1.size : Int)) = True := eq_true (Int.ofNat_lt.mpr c)
          have q4 : (j < a1.size) = True := eq_true c
          have HC := Aside0.mk c
          clear hD c hF hp gb_ gl_ en_ q1 q2
          go_wp2_with (first | (go_at_call 77; refine (impl_multiple.push_calls wr w w.heap.size gm gl gM (N : Int) N (i : Int) R0 D st' st2 _ HB.out GL.out S.out HP.out).mono ?_; rintro e w9 ⟨rfl, v2, hS, hB9, hsz, hk, hv⟩; have S2 := Aside0.mk hS; have HB2 := Aside0.mk hB9; have HMR2 := Aside0.mk (impl_multiple.MR_one HMR.out (hk gD HGD.out (by have := HG.out; omega) (by have := HG.out; omega) (fun e => HV.out e.symm))); have HGD2 : Aside0 (gD < w9.heap.size) := ⟨Nat.lt_of_lt_of_le HGD.out hsz⟩; have HV2 : Aside0 (v2.ownBlock ≠ some gD) := ⟨by intro e; rcases hv with q | ⟨b, q, hb⟩; exact HV.out (q.symm.trans e); rw [q] at e; injection e with e; have := HGD.out; omega⟩; clear hS hB9 hsz hk hv))
          go_roundg (gk - 1)
          case measure => have := HJ.out; have := HC.out; omega
          case rel => exact ⟨j + 1, st2, v2, by first | rfl | (rw [hwj]; rfl), ⟨by have := HJ.out; have := HC.out; omega⟩, HF, ⟨HI2.out.1, by rw [HI2.out.2]; exact HI.out.2⟩, S2, HMR2, HV2, HGD2, HB2⟩
        have hst : st' = stE := by
         have h := HF.out
         rw [List.drop_eq_nil_of_le (by rw [HDL.out]; omega)] at h
         exact Option.some.inj h
        subst hst
        have c1 : decide ((j : Int) < (a1.size : Int)) = false := decide_eq_false (by omega)
        have c2 : decide (j < a1.size) = false := decide_eq_false c
        clear c HF HJ HMR
        go_wp2
        go_roundg k1
        case measure => omega
        case rel => exact ⟨i + 1, st', v', by first | rfl | (rw [hwi]; rfl), HL2, S, HB⟩
     rw [if_neg c] at h
     have c1 : decide ((i : Int) < (st.1.length : Int)) = false := decide_eq_false c
     have c2 : decide (i < st.1.length) = false := decide_eq_false (by omega)
     simp only [Option.some.injEq, Prod.mk.injEq] at h
     obtain ⟨rfl, rfl⟩ := h
     clear c
     go_wp2
     go_ret2
     exact ⟨rfl, HB.out⟩

/-! ### impl_LeastMultiple: function 23 -/
mutual
def impl_LeastMultiple.j0 : Nat → Int → ByteArray → Bool → Option (ByteArray × Bool)
 | 0, _, _, _ => none
 | k + 1, x0, x1, x14 => if x14 = true then (some ((⟨#[]⟩ : ByteArray), false)) else (impl_LeastMultiple.l0 k x0 x1 1)
def impl_LeastMultiple.l0 : Nat → Int → ByteArray → Int → Option (ByteArray × Bool)
 | 0, _, _, _ => none
 | k + 1, x0, x1, x6 => if x6 < (x1.size : Int) then (if 0 ≤ x6 then (if 0 ≤ (wrap64 (x6 - 1)) then (if (wrap64 (x6 - 1)) < (x1.size : Int) then (if (bt x1 x6) ≤ (bt x1 (wrap64 (x6 - 1))) then (some ((⟨#[]⟩ : ByteArray), false)) else (impl_LeastMultiple.l0 k x0 x1 (wrap64 (x6 + 1)))) else (none)) else (none)) else (none)) else ((impl_multiple.f k x0 x1).bind fun bt320 => (some (bt320.1, bt320.2)))
end
def impl_LeastMultiple.f (k : Nat) (a0 : Int) (a1 : ByteArray) : Option (ByteArray × Bool) := (impl_isDivisor.f a0).bind fun t318 => (if t318 = true then ((impl_areDigits.f k a1 1 10).bind fun t319 => (impl_LeastMultiple.j0 k a0 a1 (!t319))) else (impl_LeastMultiple.j0 k a0 a1 true))
theorem impl_LeastMultiple.mono_l : ∀ k, (∀ y0 y1 y2, LeO (impl_LeastMultiple.j0 k y0 y1 y2) (impl_LeastMultiple.j0 (k + 1) y0 y1 y2)) ∧ (∀ y0 y1 y2, LeO (impl_LeastMultiple.l0 k y0 y1 y2) (impl_LeastMultiple.l0 (k + 1) y0 y1 y2))
 | 0 => ⟨fun _ _ _ r h => by simp [impl_LeastMultiple.j0] at h, fun _ _ _ r h => by simp [impl_LeastMultiple.l0] at h⟩
 | k + 1 => by
  obtain ⟨ih0, ih1⟩ := impl_LeastMultiple.mono_l k
  refine ⟨?_, ?_⟩
  · intro y0 y1 y2
    unfold impl_LeastMultiple.j0
    repeat' first
    | (with_reducible exact ih0 _ _ _)
    | (with_reducible exact ih1 _ _ _)
    | (with_reducible exact impl_areDigits.mono _ _ _ _)
    | (with_reducible exact impl_multiple.mono _ _ _)
    | (with_reducible exact LeO.refl _)
    | (with_reducible exact LeO.none _)
    | (with_reducible refine LeO.ite ?_ ?_)
    | (with_reducible refine LeO.bind ?_ (fun _ => ?_))
    | exact LeO.none _
    | refine LeO.ite ?_ ?_
    | refine LeO.bind ?_ (fun _ => ?_)
  intro y0 y1 y2
  unfold impl_LeastMultiple.l0
  repeat' first
  | (with_reducible exact ih0 _ _ _)
  | (with_reducible exact ih1 _ _ _)
  | (with_reducible exact impl_areDigits.mono _ _ _ _)
  | (with_reducible exact impl_multiple.mono _ _ _)
  | (with_reducible exact LeO.refl _)
  | (with_reducible exact LeO.none _)
  | (with_reducible refine LeO.ite ?_ ?_)
  | (with_reducible refine LeO.bind ?_ (fun _ => ?_))
  | exact LeO.none _
  | refine LeO.ite ?_ ?_
  | refine LeO.bind ?_ (fun _ => ?_)
theorem impl_LeastMultiple.mono : ∀ a0 a1 k, LeO (impl_LeastMultiple.f k a0 a1) (impl_LeastMultiple.f (k + 1) a0 a1) := by
 intro a0 a1 k
 obtain ⟨ih0, ih1⟩ := impl_LeastMultiple.mono_l k
 unfold impl_LeastMultiple.f
 repeat' first
  | (with_reducible exact ih0 _ _ _)
  | (with_reducible exact ih1 _ _ _)
  | (with_reducible exact impl_areDigits.mono _ _ _ _)
  | (with_reducible exact impl_multiple.mono _ _ _)
  | (with_reducible exact LeO.refl _)
  | (with_reducible exact LeO.none _)
  | (with_reducible refine LeO.ite ?_ ?_)
  | (with_reducible refine LeO.bind ?_ (fun _ => ?_))
  | exact LeO.none _
  | refine LeO.ite ?_ ?_
  | refine LeO.bind ?_ (fun _ => ?_)
set_option maxHeartbeats 8000000 in
set_option maxRecDepth 100000 in
theorem impl_LeastMultiple.calls (k : Nat) (a0 : Int) (a1 : ByteArray) (r1 : ByteArray) (r2 : Bool) (w : World) (h : impl_LeastMultiple.f k a0 a1 = some (r1, r2)) :
 Calls Tryz.prog 23 #[.int .i64 a0, .string a1] w fun e w' => e = .returned (.tuple #[.string r1, .bool r2]) ∧ Below w.heap.size w w' := by
 have HB := Aside0.mk (Below.refl w.heap.size w)
 unfold impl_LeastMultiple.f at h
 have H := h
 clear h
 have HC3 := Aside0.mk H
 clear H
 go_enter Tryz.func23, Tryz.ntmps23
 go_upto_region 1 with (fail)
 repeat (go_quiet (fail); go_upto_region 1 with (fail))
 go_cut [14] (fun v14 wc => ∃ (kq : Nat) (x14_2 : Bool), v14 = .bool x14_2 ∧ Aside0 (impl_LeastMultiple.j0 kq a0 a1 x14_2 = some (r1, r2)) ∧ Aside0 (kq ≤ k) ∧ Aside0 (Below w.heap.size w wc))
 case first =>
  have H := HC3.out
  clear HC3
  replace H := bd_ H; obtain ⟨t318, A4, H⟩ := H
  by_cases c5 : t318 = true
  · subst c5
    rw [if_pos rfl] at H
    replace H := bd_ H; obtain ⟨t319, A6, H⟩ := H
    have H' := Aside0.mk H
    clear H
    go_wp2_with (first | (go_at_call 59; (with_reducible refine (impl_isDivisor.calls a0 true _ A4.out).mono ?_); rintro e w' ⟨rfl, ⟨nd, rfl⟩⟩; (try first | exact ⟨rfl, _, World.drewN_drewN _ _ _⟩ | exact ⟨rfl, _, Eq.trans (World.drewN_drewN _ _ _) (congrArg (World.drewN _) (Nat.add_assoc _ _ _))⟩)) | (go_at_call 60; (with_reducible refine (impl_areDigits.calls k a1 1 10 t319 _ A6.out).mono ?_); rintro e w' ⟨rfl, ⟨nd, rfl⟩⟩; (try first | exact ⟨rfl, _, World.drewN_drewN _ _ _⟩ | exact ⟨rfl, _, Eq.trans (World.drewN_drewN _ _ _) (congrArg (World.drewN _) (Nat.add_assoc _ _ _))⟩)))
    repeat (go_quiet (fail); try go_wp2_with (first | (go_at_call 59; (with_reducible refine (impl_isDivisor.calls a0 true _ A4.out).mono ?_); rintro e w' ⟨rfl, ⟨nd, rfl⟩⟩; (try first | exact ⟨rfl, _, World.drewN_drewN _ _ _⟩ | exact ⟨rfl, _, Eq.trans (World.drewN_drewN _ _ _) (congrArg (World.drewN _) (Nat.add_assoc _ _ _))⟩)) | (go_at_call 60; (with_reducible refine (impl_areDigits.calls k a1 1 10 t319 _ A6.out).mono ?_); rintro e w' ⟨rfl, ⟨nd, rfl⟩⟩; (try first | exact ⟨rfl, _, World.drewN_drewN _ _ _⟩ | exact ⟨rfl, _, Eq.trans (World.drewN_drewN _ _ _) (congrArg (World.drewN _) (Nat.add_assoc _ _ _))⟩))))
    go_meet
    case rel => exact ⟨_, (!t319), zV_, H', ⟨by first | omega | exact Nat.le_refl _⟩, ⟨zB_⟩⟩
  replace H := bf_ c5 H; obtain ⟨rfl, H⟩ := H
  have H' := Aside0.mk H
  clear H
  go_wp2_with (first | (go_at_call 59; (with_reducible refine (impl_isDivisor.calls a0 false _ A4.out).mono ?_); rintro e w' ⟨rfl, ⟨nd, rfl⟩⟩; (try first | exact ⟨rfl, _, World.drewN_drewN _ _ _⟩ | exact ⟨rfl, _, Eq.trans (World.drewN_drewN _ _ _) (congrArg (World.drewN _) (Nat.add_assoc _ _ _))⟩)))
  repeat (go_quiet (fail); try go_wp2_with (first | (go_at_call 59; (with_reducible refine (impl_isDivisor.calls a0 false _ A4.out).mono ?_); rintro e w' ⟨rfl, ⟨nd, rfl⟩⟩; (try first | exact ⟨rfl, _, World.drewN_drewN _ _ _⟩ | exact ⟨rfl, _, Eq.trans (World.drewN_drewN _ _ _) (congrArg (World.drewN _) (Nat.add_assoc _ _ _))⟩))))
  go_meet
  case rel => exact ⟨_, (true), zV_, H', ⟨by first | omega | exact Nat.le_refl _⟩, ⟨zB_⟩⟩
 case rest =>
  clear HC3
  (try clear c2);(try clear p2);(try clear c5)
  obtain ⟨kq, x14_2, rfl, HA, HJ2, HB⟩ := hcut
  cases kq with
  | zero => exact absurd HA.out (by simp [impl_LeastMultiple.j0])
  | succ kj2 =>
   have H := HA.out
   clear HA
   simp only [impl_LeastMultiple.j0] at H
   by_cases c7 : x14_2 = true
   · subst c7
     rw [if_pos rfl] at H
     simp only [Option.some.injEq, Prod.mk.injEq] at H
     obtain ⟨rfl, rfl⟩ := H
     go_wp2
     repeat (go_quiet (fail); try go_wp2)
     go_ret2
     exact ⟨zR_, zB_⟩
   replace H := bf_ c7 H; obtain ⟨rfl, H⟩ := H
   have H' := Aside0.mk H
   clear H
   go_wp2
   repeat (go_quiet (fail); try go_wp2)
   go_loopg [6] kj2 (fun kq v6 w' => ∃ (x6_2 : Int), v6 = .int .i64 x6_2 ∧ Aside0 (impl_LeastMultiple.l0 kq a0 a1 x6_2 = some (r1, r2)) ∧ Aside0 (kq ≤ kj2) ∧ Aside0 (Below w.heap.size w w'))
   case atStart => exact ⟨(1), zV_, H', ⟨Nat.le_refl _⟩, ⟨zB_⟩⟩
   case round =>
    clear H'
    (try clear c2);(try clear p2);(try clear c5);(try clear c7);(try clear p2)
    obtain ⟨x6_2, rfl, HA, HK2, HB⟩ := hrel
    cases gk with
    | zero => exact absurd HA.out (by simp [impl_LeastMultiple.l0])
    | succ k2 =>
     have H := HA.out
     clear HA
     simp only [impl_LeastMultiple.l0] at H
     by_cases c8 : x6_2 < (a1.size : Int)
     · rw [if_pos c8] at H
       have c8b0 := decide_eq_true c8
       clear c8
       replace H := gd_ H; obtain ⟨c9, H⟩ := H
       have c9b0 : decide (0 ≤ x6_2) = true := decide_eq_true c9
       clear c9
       obtain ⟨ji11, hji11⟩ : ∃ j_ : Int, (wrap64 (x6_2 - 1)) = j_ := ⟨_, rfl⟩
       replace H : (if 0 ≤ (ji11) then (if (ji11) < (a1.size : Int) then (if (bt a1 x6_2) ≤ (bt a1 (ji11)) then (some ((⟨#[]⟩ : ByteArray), false)) else (impl_LeastMultiple.l0 k2 a0 a1 (wrap64 (x6_2 + 1)))) else (none)) else (none)) = some (r1, r2) := by first | (rw [hji11] at H; exact H) | (simp only [hji11] at H ⊢; exact H)
       have hji11w : (IntKind.i64.wrap (x6_2 - 1)) = ji11 := (i64_w _).trans hji11
       replace H := gd_ H; obtain ⟨c12, H⟩ := H
       have c12b0 : decide (0 ≤ (ji11)) = true := decide_eq_true c12
       clear c12
       replace H := gd_ H; obtain ⟨c13, H⟩ := H
       have c13b0 : decide ((ji11) < (a1.size : Int)) = true := decide_eq_true c13
       clear c13
       by_cases c15 : (bt a1 x6_2) ≤ (bt a1 (ji11))
       · rw [if_pos c15] at H
         have c15b0 := decide_eq_true c15
         clear c15
         simp only [Option.some.injEq, Prod.mk.injEq] at H
         obtain ⟨rfl, rfl⟩ := H
         have p10 : 0 ≤ (x6_2 : Int) := of_decide_eq_true zS_
         have q10 : x6_2 < (a1.size : Int) := of_decide_eq_true zS_
         have hx10 := bt_at a1 x6_2
         replace p10 := eq_true p10
         replace q10 := eq_true q10
         have p14 : 0 ≤ ((ji11) : Int) := of_decide_eq_true zS_
         have q14 : (ji11) < (a1.size : Int) := of_decide_eq_true zS_
         have hx14 := bt_at a1 (ji11)
         replace p14 := eq_true p14
         replace q14 := eq_true q14
         go_wp2
         repeat (go_quiet (fail); try go_wp2)
         go_ret2
         exact ⟨by first | rfl | (simp [errW_none, errW_some] <;> rfl) | (simp only [← hji11]; first | rfl | (simp [errW_none, errW_some] <;> rfl)) | (simp [*, errW_none, errW_some] <;> rfl), zB_⟩
       rw [if_neg c15] at H
       have c15b0 := decide_eq_false c15
       clear c15
       have H' := Aside0.mk H
       clear H
       have p10 : 0 ≤ (x6_2 : Int) := of_decide_eq_true zS_
       have q10 : x6_2 < (a1.size : Int) := of_decide_eq_true zS_
       have hx10 := bt_at a1 x6_2
       replace p10 := eq_true p10
       replace q10 := eq_true q10
       have p14 : 0 ≤ ((ji11) : Int) := of_decide_eq_true zS_
       have q14 : (ji11) < (a1.size : Int) := of_decide_eq_true zS_
       have hx14 := bt_at a1 (ji11)
       replace p14 := eq_true p14
       replace q14 := eq_true q14
       go_wp2
       repeat (go_quiet (fail); try go_wp2)
       go_roundg k2
       case measure => have := HJ2.out; have := HK2.out; omega
       case rel => exact ⟨(wrap64 (x6_2 + 1)), zV_, H', ⟨by have := HJ2.out; have := HK2.out; omega⟩, ⟨zB_⟩⟩
     rw [if_neg c8] at H
     have c8b0 := decide_eq_false c8
     clear c8
     replace H := bd_ H; obtain ⟨⟨t320, t321⟩, A16, H⟩ := H
     dsimp only at H
     simp only [Option.some.injEq, Prod.mk.injEq] at H
     obtain ⟨rfl, rfl⟩ := H
     go_wp2_with (first | (go_at_call 61; (with_reducible refine (impl_multiple.calls k2 a0 a1 t320 t321 _ A16.out).mono ?_); rintro e w17 ⟨rfl, hb⟩; replace HB := Aside0.mk (below_step zB_ hb); (try clear hb)))
     repeat (go_quiet (fail); try go_wp2_with (first | (go_at_call 61; (with_reducible refine (impl_multiple.calls k2 a0 a1 t320 t321 _ A16.out).mono ?_); rintro e w17 ⟨rfl, hb⟩; replace HB := Aside0.mk (below_step zB_ hb); (try clear hb))))
     go_ret2
     exact ⟨zR_, zB_⟩

/-! ### spec_leDivisor: function 62 -/
def spec_leDivisor.f (a0 : Int) : Option (Bool) := (spec_l1In.f a0 1 400).bind fun t322 => (some t322)
set_option maxHeartbeats 8000000 in
set_option maxRecDepth 100000 in
theorem spec_leDivisor.calls (a0 : Int) (r : Bool) (w : World) (h : spec_leDivisor.f a0 = some r) :
 Calls Tryz.prog 62 #[.int .i64 a0] w fun e w' => e = .returned (.bool r) ∧ Drawn0 w w' := by
 unfold spec_leDivisor.f at h
 have H := h
 clear h
 replace H := bd_ H; obtain ⟨t322, A2, H⟩ := H
 obtain rfl := Option.some.inj H
 go_enter Tryz.func62, Tryz.ntmps62
 go_wp2_with (first | ((with_reducible refine gc_ 55 rfl ?_); refine gL_ 4 Tryz.func55 #[.int .i64 a0, .int .i64 1, .int .i64 400] ?_; (with_reducible refine (spec_l1In.calls a0 1 400 t322 _ A2.out).mono ?_); rintro e w' ⟨rfl, ⟨nd, rfl⟩⟩; refine ⟨_, rfl, ?_⟩))
 go_ret
 exact ⟨by first | rfl | (simp; done) | (simp [*]; done), by repeat (first | exact Drawn0.refl _ | apply Drawn0.step)⟩

end Go.Proofs.YtjnfaidngaobmaaGreatDoor.PFnLeastOfDigits
