-- Laid by this session's program gprint.py over the kit's print.
import Derived.Test.YtjhmocngcnnfdaaDoorPFnExactMakePuzzlex0
import Derived.Test.YtjhmocngcnnfdaaDoorPFnExactMakePuzzlex4
namespace Go.Proofs.YtjhmocngcnnfdaaDoor.PFnExactMakePuzzle
open Go.RowKit Go.Proofs.YtjhmocngcnnfdaaDoorW.PrintWords Go.Proofs.YtjhmocngcnnfdaaDoorW.PrintLast Go.Proofs.YtjhmocngcnnfdaaDoorW.PrintMore
attribute [local go_sem] max2_int min2_int max_two min_two max_three min_three max_four min_four   -- for this text's walks alone
set_option linter.unusedVariables false
set_option linter.unusedSimpArgs false

/-! ### impl_differs: function 152 -/
/-- A row of bytes of the call's own that a conversion has made (its block bears the conversion's mark). -/
def MR (e : Nat) (w : World) (base : Nat) (ok : Nat → Prop) (v : Value) (xs : List Int) : Prop :=
 (∀ k, v.ownBlock = some k → ok k) ∧ ∃ g cap, ∃ cur : Array Value, v = .slice (some ⟨g, 0, none⟩) xs.length cap ∧ base ≤ g ∧ w.heap[g]? = some (.cells cur e (cur.size, cur.size + 1)) ∧ xs.length ≤ cap ∧ cap ≤ cur.size ∧ cap ≤ 9223372036854775807 ∧ ∀ j, j < xs.length → cur[j]? = some (.int .u8 (xs.getD j 0))
section
variable {e base n cap g m : Nat} {w w1 w' W : World} {ok ok' : Nat → Prop} {v : Value} {xs : List Int} {A : Option Addr}
theorem MR_mono (h : MR e w base ok v xs) (hok : ∀ k, ok k → ok' k) : MR e w base ok' v xs := ⟨fun k hk => hok k (h.1 k hk), h.2⟩
theorem MR_step (h : MR e w base ok v xs) (hm : ∀ k, ok k → k < w.heap.size → w1.heap[k]? = w.heap[k]?) : MR e w1 base ok v xs := by
 obtain ⟨h0, g, cap, cur, rfl, hg, hh, r⟩ := h
 exact ⟨h0, g, cap, cur, rfl, hg, (hm g (h0 g (by simp [Value.ownBlock])) (blk_lt hh)).trans hh, r⟩
theorem MR_below (h : MR e w base ok v xs) (hb : Below w.heap.size w w1) : MR e w1 base ok v xs := MR_step h (fun k _ hk => hb.block k hk)
theorem MR_alloc (h : MR e w base ok v xs) (o : Obj) : MR e (w.alloc o) base ok v xs := MR_below h (below_alloc (Below.refl _ _) o)
theorem MR_drew (h : MR e w base ok v xs) : MR e w.drew base ok v xs := MR_below h (below_drew (Below.refl _ _))
theorem MR_drewN (h : MR e w base ok v xs) (m : Nat) : MR e (w.drewN m) base ok v xs := MR_below h (pw_below_drewN (Below.refl _ _) m)
theorem MR_at (hq : w.drewN m = w') (h : MR e w base ok v xs) : MR e w' base ok v xs := by subst hq; exact MR_drewN h m
theorem MR_slice (h : MR e w base ok v xs) : ∃ A c, v = .slice A xs.length c := by
 obtain ⟨_, g, cap, cur, rfl, _⟩ := h
 exact ⟨_, _, rfl⟩
theorem MR_reads' {c : Nat} (h : MR e w base ok (.slice A n c) xs) : n = xs.length ∧ n ≤ c ∧ Kd.C (Kd.int .u8) w A xs.length xs := by
 obtain ⟨_, g, cap, cur, hv, _, hh, hl, hc, hm, hcur⟩ := h
 injection hv with h1 h2 h3
 subst h1; subst h3
 refine ⟨h2, by omega, Kd.C_of_reads (d := (0 : Int)) ⟨rfl, by omega, fun _ => ⟨_, rfl, fun j hj => ?_⟩⟩⟩
 rw [add_plain]
 rw [cell_of_row w g _ cur e _ hh]
 exact hcur j hj
theorem MR_form (h : MR e w base ok v xs) (_hp : 0 < xs.length) : ∃ g cap, v = .slice (some ⟨g, 0, none⟩) xs.length cap ∧ base ≤ g ∧ g < w.heap.size ∧ ∃ cells, w.heap[g]? = some (.cells cells e (cells.size, cells.size + 1)) := by
 obtain ⟨_, g, cap, cur, hv, hb, hh, _⟩ := h
 exact ⟨g, cap, hv, hb, blk_lt hh, cur, hh⟩
theorem MR_celln (_d : Int) (h : MR e W base ok (.slice (some ⟨g, 0, none⟩) n cap) xs) (i : Int) (h0 : 0 ≤ i) (hi : i < n) : W.cell? ⟨g, i.toNat, none⟩ = some (.int .u8 (rd xs i)) ∧ W.frozen? ⟨g, i.toNat, none⟩ = false := by
 obtain ⟨_, g', cap', cur, hv, _, hh, hl, hc, hm, hcur⟩ := h
 injection hv with h1 h2 h3
 injection h1 with h1
 injection h1 with h1
 subst h1; subst h3
 refine ⟨(cell_of_row W _ _ cur e _ hh).trans (hcur _ (by omega)), ?_⟩
 simp [World.frozen?, hh]
 omega
theorem MR_putn (h : MR e W base ok (.slice (some ⟨g, 0, none⟩) n cap) xs) (i : Int) (x : Int) : MR e (W.setCell ⟨g, i.toNat, none⟩ (.int .u8 x)) base ok (.slice (some ⟨g, 0, none⟩) n cap) (xs.set i.toNat x) := by
 obtain ⟨h0, g', cap', cur, hv, hb, hh, hl, hc, hm, hcur⟩ := h
 injection hv with h1 h2 h3
 injection h1 with h1
 injection h1 with h1
 subst h1; subst h3
 refine ⟨h0, g, cap, cur.setIfInBounds i.toNat (.int .u8 x), by rw [List.length_set, h2], hb, ?_, by rw [List.length_set]; exact hl, by simpa using hc, hm, fun j hj => ?_⟩
 · have hlt := blk_lt hh
   rw [Array.getElem?_eq_getElem hlt] at hh
   simp only [World.setCell, Array.getElem?_modify, if_true, Array.getElem?_eq_getElem hlt, Option.map_some, Array.size_setIfInBounds]
   rw [Option.some.inj hh]
   simp
 rw [List.length_set] at hj
 rw [Array.getElem?_setIfInBounds]
 by_cases c : i.toNat = j
 · subst c
   have : i.toNat < cur.size := by omega
   simp [this, List.getD, hj]
 rw [if_neg c, hcur j hj]
 simp [List.getD, c]
theorem MR_putg (h : MR e W base ok (.slice (some ⟨g, 0, none⟩) n cap) xs) (i : Int) (x : Int) : MR e (W.setCell ⟨g, i.toNat, none⟩ (.int .u8 x)) base ok (.slice (some ⟨g, 0, none⟩) n cap) (xs.set i.toNat x) ∧ W.grownBy (W.setCell ⟨g, i.toNat, none⟩ (.int .u8 x)) (some g) :=
 ⟨MR_putn h i x, rfl, rfl, rfl, by simp [World.setCell], fun k _ hk => Below.heap_setCell W _ _ k (fun h => hk (by rw [h]))⟩
theorem MR_take {c : Nat} (h : MR e w base ok (.slice A n c) xs) (hm : m ≤ xs.length) : MR e w base ok (.slice A m c) (xs.take m) := by
 obtain ⟨h0, g', cap', cur, hv, hb, hh, hl, hc, hmx, hcur⟩ := h
 injection hv with h1 h2 h3
 subst h1; subst h3
 refine ⟨fun k hk => h0 k (by simpa [Value.ownBlock] using hk), g', _, cur, by rw [List.length_take]; congr 1; omega, hb, hh, by rw [List.length_take]; omega, hc, hmx, fun j hj => ?_⟩
 rw [List.length_take] at hj
 rw [hcur j (by omega)]
 simp [List.getD, show j < m by omega]
theorem MR_conv (w : World) (e : Nat) (s : ByteArray) (hs : s.size ≤ 9223372036854775807) (base : Nat) (hb : base ≤ w.heap.size) (hcap : grownCap w s.size 0 e ≤ 9223372036854775807) (hge : s.size ≤ grownCap w s.size 0 e) : MR e (Lib.bytesWorld w e s) base (fun _ => True) (.slice (some ⟨w.heap.size, 0, none⟩) s.size (grownCap w s.size 0 e)) (bytesOf s) := by
 have hl : (bytesOf s).length = s.size := (bytes_reads w e s hs).1
 refine ⟨fun _ _ => trivial, w.heap.size, _, Lib.bytesCells w e s, by rw [hl], hb, Lib.bytesWorld_at_new w e s, by rw [hl]; exact hge, ?_, hcap, fun j hj => ?_⟩
 · simp [Lib.bytesCells]
   have : s.data.size = s.size := rfl
   omega
 have h2 := (bytes_reads w e s hs).2.2 (by omega)
 obtain ⟨ad, h3, h4⟩ := h2
 have h5 := h4 j (by omega)
 injection h3 with h3
 subst h3
 rw [add_plain] at h5
 rw [← h5]
 exact (cell_of_row _ _ _ _ e _ (Lib.bytesWorld_at_new w e s)).symm
end
section
variable {P : Program} {ops : Array Oper} {rest : List Oper} {o : Oper} {a : Act} {Q : Exit → Act → World → Prop}
theorem MR_zeros {e base cap g k : Nat} {ok : Nat → Prop} {xs : List Int} : ∀ (m o : Nat) (W : World), MR e W base ok (.slice (some ⟨g, 0, none⟩) k cap) xs → k ≤ o → MR e (W.setCells g o (List.replicate m (.int .u8 0))) base ok (.slice (some ⟨g, 0, none⟩) k cap) xs ∧ W.grownBy (W.setCells g o (List.replicate m (.int .u8 0))) (some g)
 | 0, o, W, h, _ => ⟨h, rfl, rfl, rfl, Nat.le_refl _, fun _ _ _ => rfl⟩
 | m + 1, o, W, h, ho => by
  have hk := (MR_reads' h).1
  have h1 := MR_putg h (o : Int) 0
  rw [Int.toNat_natCast, List.set_eq_of_length_le (by omega)] at h1
  have h2 := MR_zeros m (o + 1) _ h1.1 (by omega)
  rw [List.replicate_succ]
  exact ⟨h2.1, h1.2.trans h2.2⟩
theorem MR_clear (W : World) (t e ty : TypeId) {base k cap g n c : Nat} {ok : Nat → Prop} {xs : List Int} (ht : P.underlying t = some (.slice e)) (hv : ∀ w, (zeroValue e).run P w = .ok (.int .u8 0) w) (h : MR e W base ok (.slice (some ⟨g, 0, none⟩) k cap) xs) (hfit : k + n ≤ cap) :
 (Builtin.clear_ #[t] ty #[.slice (some ⟨g, k, none⟩) n c]).run P W = .ok (.tuple #[]) (W.setCells g k (List.replicate n (.int .u8 0))) := by
 obtain ⟨_, g', cap', cur, hv', _, hh, _, hc, _, _⟩ := h
 injection hv' with h1 h2 h3
 injection h1 with h1
 injection h1 with h1
 subst h1; subst h3
 have hz : (Builtin.zeroCells (Value.int .u8 0).cells n).toList = List.replicate n (.int .u8 0) := by
  apply List.ext_getElem
  · simp [Builtin.zeroCells, Value.cells]
  intro i h1 h2
  simp [Builtin.zeroCells, Value.cells, Nat.mod_one]
 have hst := run_storeCells_cells (P := P) g k (List.replicate n (.int .u8 0)) 0 W (fun j hj => by rw [cell_of_row W g _ cur e _ hh]; simp at hj ⊢; omega) (fun j hj => by simp at hj; simp [World.frozen?, hh]; omega) (fun v hv => by rw [List.mem_replicate] at hv; rw [hv.2]; rfl)
 simp only [Nat.add_zero] at hst
 cases n with
 | zero => simp [Builtin.clear_, run_underlying ht, World.setCells]
 | succ n => simp [Builtin.clear_, run_underlying ht, hv, hz, hst]
theorem MR_clear_step {e base cap g k n c2 off : Nat} {ok : Nat → Prop} {xs : List Int} {W : World} (hgd : o.guard = none) (x : Operand) (t : TypeId) (ho : o.op = .call { callee := .builtin .clear, args := #[x], argTypes := #[t] })
 (ht : P.underlying t = some (.slice e)) (hv : ∀ w, (zeroValue e).run P w = .ok (.int .u8 0) w) (hx : a.eval x = .slice (some ⟨g, off, none⟩) n c2) (hoff : off = k) (hfit : k + n ≤ cap)
 (HO : MR e W base ok (.slice (some ⟨g, 0, none⟩) k cap) xs)
 (h : ∀ w1, MR e w1 base ok (.slice (some ⟨g, 0, none⟩) k cap) xs → W.grownBy w1 (some g) → wpList P ops Q rest (a.put o.dst (.tuple #[])) w1) : wpList P ops Q (o :: rest) a W := by
 subst hoff
 have hz := MR_zeros n off W HO (Nat.le_refl _)
 refine wpList_plain hgd fun K hK => ?_
 unfold Oper.wp execOp
 simp only [ho, resolve, invoke, builtin, Sem.run_bind, Sem.run_pure, Result.andThen_ok, List.map_toArray, List.map_cons, List.map_nil, hx, MR_clear W t e o.type ht hv HO hfit]
 exact hK _ _ (h _ hz.1 hz.2)
end
theorem grown_le (w : World) (n : Nat) (e : Nat) (h : n ≤ 9223372036854775807) : n ≤ grownCap w n 0 e ∧ grownCap w n 0 e ≤ 9223372036854775807 := by
 unfold grownCap Question.cut
 simp only []
 have := Nat.mod_lt (w.tape w.drawn (Question.appendCap n 0 e)) (show 0 < 2 ^ 63 - n by omega)
 omega
theorem zda0_ {p : Prop} (h : p := by first | (with_reducible assumption) | assumption) : p := h
theorem zdb0_ {p : Prop} (h : p := by first | (with_reducible assumption) | assumption) : p := h
theorem zdb1_ {p : Prop} (h : p := by first | rfl | (simp; done) | (simp [*]; done)) : p := h
mutual
def gd_ins.l0 : Nat → List Int → Int → Int → Int → Option (List Int)
 | 0, _, _, _, _ => none
 | k + 1, x0, x1, x2, x6 => if x6 < x2 then (gd_ins.l1 k x0 x1 x2 x6 x6) else (some x0)
def gd_ins.l1 : Nat → List Int → Int → Int → Int → Int → Option (List Int)
 | 0, _, _, _, _, _ => none
 | k + 1, x0, x1, x2, x6, x7 => if x7 > x1 then (if 0 ≤ x7 then (if x7 < (x0.length : Int) then (if 0 ≤ (wrap64 (x7 - 1)) then (if (wrap64 (x7 - 1)) < (x0.length : Int) then ((cmp_Less_byte.f (rd x0 x7) (rd x0 (wrap64 (x7 - 1)))).bind fun t149 => (if t149 = true then (gd_ins.l1 k ((x0.set (x7 : Int).toNat (rd x0 (wrap64 (x7 - 1)))).set ((wrap64 (x7 - 1)) : Int).toNat (rd x0 x7)) x1 x2 x6 (wrap64 (x7 - 1))) else (gd_ins.l0 k x0 x1 x2 (wrap64 (x6 + 1))))) else (none)) else (none)) else (none)) else (none)) else (gd_ins.l0 k x0 x1 x2 (wrap64 (x6 + 1)))
end
def gd_ins.f (k : Nat) (l0 : List Int) (a1 : Int) (a2 : Int) : Option (List Int) := gd_ins.l0 k l0 a1 a2 (wrap64 (a1 + 1))
theorem gd_ins.mono_l : ∀ k, (∀ y0 y1 y2 y3, LeO (gd_ins.l0 k y0 y1 y2 y3) (gd_ins.l0 (k + 1) y0 y1 y2 y3)) ∧ (∀ y0 y1 y2 y3 y4, LeO (gd_ins.l1 k y0 y1 y2 y3 y4) (gd_ins.l1 (k + 1) y0 y1 y2 y3 y4))
 | 0 => ⟨fun _ _ _ _ r h => by simp [gd_ins.l0] at h, fun _ _ _ _ _ r h => by simp [gd_ins.l1] at h⟩
 | k + 1 => by
  obtain ⟨ih0, ih1⟩ := gd_ins.mono_l k
  refine ⟨?_, ?_⟩
  · intro y0 y1 y2 y3
    unfold gd_ins.l0
    repeat' first
    | (with_reducible exact ih0 _ _ _ _)
    | (with_reducible exact ih1 _ _ _ _ _)
    | (with_reducible exact LeO.refl _)
    | (with_reducible exact LeO.none _)
    | (with_reducible refine LeO.ite ?_ ?_)
    | (with_reducible refine LeO.bind ?_ (fun _ => ?_))
    | exact ih0 _ _ _ _
    | exact ih1 _ _ _ _ _
    | exact LeO.none _
    | refine LeO.ite ?_ ?_
    | refine LeO.bind ?_ (fun _ => ?_)
  intro y0 y1 y2 y3 y4
  unfold gd_ins.l1
  repeat' first
  | (with_reducible exact ih0 _ _ _ _)
  | (with_reducible exact ih1 _ _ _ _ _)
  | (with_reducible exact LeO.refl _)
  | (with_reducible exact LeO.none _)
  | (with_reducible refine LeO.ite ?_ ?_)
  | (with_reducible refine LeO.bind ?_ (fun _ => ?_))
  | exact ih0 _ _ _ _
  | exact ih1 _ _ _ _ _
  | exact LeO.none _
  | refine LeO.ite ?_ ?_
  | refine LeO.bind ?_ (fun _ => ?_)
theorem gd_ins.mono : ∀ a0 a1 a2 k, LeO (gd_ins.f k a0 a1 a2) (gd_ins.f (k + 1) a0 a1 a2) := by
 intro a0 a1 a2 k
 obtain ⟨ih0, ih1⟩ := gd_ins.mono_l k
 unfold gd_ins.f
 repeat' first
  | (with_reducible exact ih0 _ _ _ _)
  | (with_reducible exact ih1 _ _ _ _ _)
  | (with_reducible exact LeO.refl _)
  | (with_reducible exact LeO.none _)
  | (with_reducible refine LeO.ite ?_ ?_)
  | (with_reducible refine LeO.bind ?_ (fun _ => ?_))
  | exact ih0 _ _ _ _
  | exact ih1 _ _ _ _ _
  | exact LeO.none _
  | refine LeO.ite ?_ ?_
  | refine LeO.bind ?_ (fun _ => ?_)
def gd_ins.T4 : Bool × List (List Nat × List Nat) := (true, [([], []), ([], []), ([0, 1], [0, 1]), ([2], [2]), ([3], [3]), ([3], [3]), ([4, 5, 3], [3, 4, 5]), ([6, 3], [3, 6]), ([3], [3]), ([3], [3]), ([9, 3], [3, 9]), ([8, 10, 3], [3, 8, 10]), ([11, 3], [3, 11]), ([7, 12, 3, 3], [3, 7, 12]), ([3, 13], [3, 13])])
def gd_ins.B4 : List Nat := [0, 0, 3, 7, 15, 15, 63, 127, 15, 15, 527, 1807, 3855, 8191, 16383]
theorem gd_ins.tab4 : rtab .any (opsOf Tryd.f176 4) = gd_ins.T4 := by kernel_rfl
theorem gd_ins.bits4 : waitsOk gd_ins.T4.2 gd_ins.B4 = true := by kernel_rfl
def gd_ins.T6 : Bool × List (List Nat × List Nat) := (true, [([], []), ([], []), ([], []), ([], []), ([3], [3]), ([], []), ([], []), ([6], [6]), ([5, 7], [5, 7]), ([8], [8]), ([], []), ([], []), ([10, 11], [10, 11]), ([12], [12]), ([0, 1, 0, 1, 5, 6, 7, 8, 9, 13], [0, 1]), ([14, 9, 0, 1, 5, 6, 7, 8, 9, 13], [9, 14]), ([2, 4, 0, 1, 2, 3, 4, 5, 6, 7, 8, 9, 10, 11, 12, 13, 14, 15], [2, 4]), ([16, 13, 15, 0, 1, 2, 3, 4, 5, 6, 7, 8, 9, 10, 11, 12, 13, 14, 15], [13, 16])])
def gd_ins.B6 : List Nat := [0, 0, 0, 0, 8, 0, 0, 64, 224, 480, 0, 0, 3072, 7168, 16355, 32739, 65535, 131071]
theorem gd_ins.tab6 : rtab .any (opsOf Tryd.f176 6) = gd_ins.T6 := by kernel_rfl
theorem gd_ins.bits6 : waitsOk gd_ins.T6.2 gd_ins.B6 = true := by kernel_rfl
set_option maxHeartbeats 8000000 in
set_option maxRecDepth 100000 in
theorem gd_ins.calls (k : Nat) (P0_ : Nat → Prop) (u9000_ : Value) (l0 : List Int) (a1 : Int) (a2 : Int) (r : List Int) (w0 w : World) (hB : Below w0.heap.size w0 w) (ho0 : MR 5 w w0.heap.size P0_ u9000_ l0) (h : gd_ins.f k l0 a1 a2 = some r) :
 Calls Tryd.prog 176 #[u9000_, .int .i64 a1, .int .i64 a2] w fun e w' => e = .returned (.tuple #[]) ∧ MR 5 w' w0.heap.size (fun k_ => (P0_ k_ ∨ w.heap.size ≤ k_)) u9000_ r ∧ Below w0.heap.size w0 w' ∧ Kept w w' (fun k_ => P0_ k_) := by
 have HO0 := Aside0.mk (show MR 5 w w0.heap.size (fun k_ => (P0_ k_ ∨ w.heap.size ≤ k_)) u9000_ l0 from MR_mono ho0 (fun k_ hk => (.inl hk)))
 have HK := Aside0.mk (Kept.refl w (fun k_ => P0_ k_))
 have HW0 := Aside0.mk hB.size
 have HB := Aside0.mk hB
 clear hB
 have H : (gd_ins.l0 k l0 a1 a2 (wrap64 (a1 + 1))) = some r := h
 clear h
 have H' := Aside0.mk H
 clear H
 go_enter Tryd.func176, Tryd.ntmps176
 go_wp2
 go_loopg [6] k (fun kq v6 w' => ∃ (x0_1 : List Int) (x6_1 : Int), v6 = .int .i64 x6_1 ∧ Aside0 (gd_ins.l0 kq x0_1 a1 a2 x6_1 = some r) ∧ Aside0 (kq ≤ k) ∧ Aside0 (MR 5 w' w0.heap.size (fun k_ => (P0_ k_ ∨ w.heap.size ≤ k_)) u9000_ x0_1) ∧ Aside0 (Kept w w' (fun k_ => P0_ k_)) ∧ Aside0 (Below w0.heap.size w0 w'))
 case atStart => exact ⟨(l0), (wrap64 (a1 + 1)), (by first | rfl | (simp; done) | (simp [*]; done)), H', ⟨Nat.le_refl _⟩, ⟨by (with_reducible repeat (first | apply MR_alloc | apply MR_drewN | apply MR_drew)); exact HO0.out⟩, ⟨by repeat (first | (with_reducible first | exact HK.out | apply Kept.alloc | apply Kept.drewN | apply Kept.drew) | exact HK.out)⟩, ⟨by repeat (first | (with_reducible first | exact HB.out | apply below_alloc | apply pw_below_drewN | apply below_drew1) | exact HB.out)⟩⟩
 case round =>
  clear H'
  (try clear c1);(try clear p2)
  obtain ⟨x0_1, x6_1, rfl, HA, HK1, HO_0, HK, HB⟩ := hrel
  cases gk with
  | zero => exact absurd HA.out (by simp [gd_ins.l0])
  | succ k1 =>
   have H := HA.out
   clear HA
   simp only [gd_ins.l0] at H
   by_cases c4 : x6_1 < a2
   · rw [if_pos c4] at H
     have c4b0 : decide (x6_1 < a2) = true := decide_eq_true c4
     clear c4
     have H' := Aside0.mk H
     clear H
     go_wp2
     go_loopg [7] k1 (fun kq v7 w' => ∃ (x0_2 : List Int) (x7_2 : Int), v7 = .int .i64 x7_2 ∧ Aside0 (gd_ins.l1 kq x0_2 a1 a2 x6_1 x7_2 = some r) ∧ Aside0 (kq ≤ k1) ∧ Aside0 (MR 5 w' w0.heap.size (fun k_ => (P0_ k_ ∨ w.heap.size ≤ k_)) u9000_ x0_2) ∧ Aside0 (Kept w w' (fun k_ => P0_ k_)) ∧ Aside0 (Below w0.heap.size w0 w'))
     case atStart => exact ⟨(x0_1), (x6_1), (by first | rfl | (simp; done) | (simp [*]; done)), H', ⟨Nat.le_refl _⟩, ⟨by (with_reducible repeat (first | apply MR_alloc | apply MR_drewN | apply MR_drew)); exact HO_0.out⟩, ⟨by repeat (first | (with_reducible first | exact HK.out | apply Kept.alloc | apply Kept.drewN | apply Kept.drew) | exact HK.out)⟩, ⟨by repeat (first | (with_reducible first | exact HB.out | apply below_alloc | apply pw_below_drewN | apply below_drew1) | exact HB.out)⟩⟩
     case round =>
      clear H'
      (try clear c1);(try clear p2);(try clear c4);(try clear c4b0);(try clear p2)
      obtain ⟨x0_2, x7_2, rfl, HA, HK2, HO_0, HK, HB⟩ := hrel
      cases gk with
      | zero => exact absurd HA.out (by simp [gd_ins.l1])
      | succ k2 =>
       have H := HA.out
       clear HA
       simp only [gd_ins.l1] at H
       by_cases c5 : x7_2 > a1
       · rw [if_pos c5] at H
         have c5b0 : decide (a1 < x7_2) = true := decide_eq_true c5
         clear c5
         by_cases c6 : 0 ≤ x7_2
         rotate_left
         · exact none_ (if_neg c6) H
         rw [if_pos c6] at H
         have c6b0 : decide (0 ≤ x7_2) = true := decide_eq_true c6
         clear c6
         by_cases c7 : x7_2 < (x0_2.length : Int)
         rotate_left
         · exact none_ (if_neg c7) H
         rw [if_pos c7] at H
         have c7b0 : decide (x7_2 < (x0_2.length : Int)) = true := decide_eq_true c7
         clear c7
         obtain ⟨ji8, hji8⟩ : ∃ j_ : Int, (wrap64 (x7_2 - 1)) = j_ := ⟨_, rfl⟩
         replace H : (if 0 ≤ (ji8) then (if (ji8) < (x0_2.length : Int) then ((cmp_Less_byte.f (rd x0_2 x7_2) (rd x0_2 (ji8))).bind fun t149 => (if t149 = true then (gd_ins.l1 k2 ((x0_2.set (x7_2 : Int).toNat (rd x0_2 (ji8))).set ((ji8) : Int).toNat (rd x0_2 x7_2)) a1 a2 x6_1 ji8) else (gd_ins.l0 k2 x0_2 a1 a2 (wrap64 (x6_1 + 1))))) else (none)) else (none)) = some r := by first | (rw [hji8] at H; exact H) | (simp only [hji8] at H ⊢; exact H)
         have hji8w : (IntKind.i64.wrap (x7_2 - 1)) = ji8 := (i64_w _).trans hji8
         by_cases c9 : 0 ≤ (ji8)
         rotate_left
         · exact none_ (if_neg c9) H
         rw [if_pos c9] at H
         have c9b0 : decide (0 ≤ (ji8)) = true := decide_eq_true c9
         clear c9
         by_cases c10 : (ji8) < (x0_2.length : Int)
         rotate_left
         · exact none_ (if_neg c10) H
         rw [if_pos c10] at H
         have c10b0 : decide ((ji8) < (x0_2.length : Int)) = true := decide_eq_true c10
         clear c10
         replace H := Option.bind_eq_some_iff.mp H
         obtain ⟨t149, A110, H⟩ := H
         have A11 := Aside0.mk A110
         clear A110
         by_cases c12 : t149 = true
         · subst c12
           rw [if_pos rfl] at H
           obtain ⟨y152, hy152⟩ : ∃ y_ : List Int, y_ = (x0_2.set (x7_2 : Int).toNat (rd x0_2 (ji8))) := ⟨_, rfl⟩
           replace H : (gd_ins.l1 k2 (y152.set ((ji8) : Int).toNat (rd x0_2 x7_2)) a1 a2 x6_1 ji8) = some r := by first | (rw [hy152]; with_reducible exact H) | (have H2_ := (Option.bind_some _ _).symm.trans H; rw [hy152]; with_reducible exact H2_) | (have H2_ := (Option.bind_some _ _).symm.trans H; with_reducible exact H2_) | with_reducible exact H | (rw [hy152]; exact H) | exact H
           have Ny152 := Aside0.mk hy152
           clear hy152
           obtain ⟨y153, hy153⟩ : ∃ y_ : List Int, y_ = (y152.set ((ji8) : Int).toNat (rd x0_2 x7_2)) := ⟨_, rfl⟩
           replace H : (gd_ins.l1 k2 y153 a1 a2 x6_1 ji8) = some r := by first | (rw [hy153]; with_reducible exact H) | (have H2_ := (Option.bind_some _ _).symm.trans H; rw [hy153]; with_reducible exact H2_) | (have H2_ := (Option.bind_some _ _).symm.trans H; with_reducible exact H2_) | with_reducible exact H | (rw [hy153]; exact H) | exact H
           have Ny153 := Aside0.mk hy153
           clear hy153
           have H' := Aside0.mk H
           clear H
           try go_wp2
           have n0_ := Aside0.mk (MR_drew HO_0.out)
           have n1_ := Aside0.mk (Kept.drew HK.out)
           have n2_ := Aside0.mk (below_drew1 HB.out)
           clear HO_0
           clear HK
           clear HB
           have HO_0 := n0_
           have HK := n1_
           have HB := n2_
           clear n0_ n1_ n2_
           obtain ⟨Ao16, co16, eo16⟩ := MR_slice HO_0.out
           (first | subst eo16 | (injection eo16 with f1_ f2_ f3_; have f4_ := f1_.symm; have f5_ := f3_.symm; clear f1_ f2_ f3_; subst f4_; subst f5_))
           have p147 : 0 ≤ (x7_2 : Int) := of_decide_eq_true zda0_
           have q147 : x7_2 < (x0_2.length : Int) := of_decide_eq_true zda0_
           obtain ⟨ad147, e147, hx147_0⟩ := Kd.at_int (MR_reads' HO_0.out).2.2 x7_2 p147 q147
           cases e147
           replace p147 := eq_true p147
           replace q147 := eq_true q147
           have p148 : 0 ≤ ((ji8) : Int) := of_decide_eq_true zda0_
           have q148 : (ji8) < (x0_2.length : Int) := of_decide_eq_true zda0_
           obtain ⟨ad148, e148, hx148_0⟩ := Kd.at_int (MR_reads' HO_0.out).2.2 (ji8) p148 q148
           obtain rfl : ad147 = ad148 := (by injection e148)
           replace p148 := eq_true p148
           replace q148 := eq_true q148
           refine start_ (n := 15) (S := fun w' => w'.cell? (ad147.add (x7_2).toNat) = some (.int .u8 (rd x0_2 x7_2)) ∧ w'.cell? (ad147.add ((ji8)).toNat) = some (.int .u8 (rd x0_2 (ji8)))) (ds := []) #[false, false, false, false, false, false, false, false, false, false, false, false, false, false, false] (by kernel_rfl) rfl rfl ⟨hx147_0, hx148_0⟩ (fun hHeld => ?_); refine with_tabW gd_ins.tab4 gd_ins.bits4 (fun HT_ HW_ => ?_)
           generalize wr.drew = w15 at HO_0 HK HB hx147_0 hx148_0 hHeld ⊢
           refine pure_ (i := 0) (N := some 16) (v := ?_) (a' := ?_) #[true, false, false, false, false, false, false, false, false, false, false, false, false, false, false] rfl rfl (any_of HT_.out (by kernel_rfl)) (fun _ _ _ h => h) (Or.inl ⟨by rfl, ?_⟩) ?_ ?_
           rotate_left
           · intro w'
             go_simp
             with_reducible rfl
           rotate_left
           · simp only [Act.put, List.setIfInBounds_toArray, List.set_cons_zero, List.set_cons_succ, i64_w, i32_w]
             rfl
           refine pure_ (i := 1) (N := some 17) (v := ?_) (a' := ?_) #[true, true, false, false, false, false, false, false, false, false, false, false, false, false, false] rfl rfl (any_of HT_.out (by kernel_rfl)) (fun _ _ _ h => h) (Or.inl ⟨by rfl, ?_⟩) ?_ ?_
           rotate_left
           · intro w'
             go_simp
             with_reducible rfl
           rotate_left
           · simp only [Act.put, List.setIfInBounds_toArray, List.set_cons_zero, List.set_cons_succ, i64_w, i32_w]
             rfl
           refine pure_ (i := 2) (N := some 18) (v := ?_) (a' := ?_) #[true, true, true, false, false, false, false, false, false, false, false, false, false, false, false] rfl rfl (any_of HT_.out (by kernel_rfl)) (fun _ _ _ h => h) (Or.inl ⟨by rfl, ?_⟩) ?_ ?_
           rotate_left
           · intro w'
             go_simp
             with_reducible rfl
           rotate_left
           · simp only [Act.put, List.setIfInBounds_toArray, List.set_cons_zero, List.set_cons_succ, i64_w, i32_w]
             rfl
           refine pure_ (i := 3) (N := some 19) (v := ?_) (a' := ?_) #[true, true, true, true, false, false, false, false, false, false, false, false, false, false, false] rfl rfl (any_of HT_.out (by kernel_rfl)) (fun _ _ _ h => h) (Or.inl ⟨by rfl, ?_⟩) ?_ ?_
           rotate_left
           · intro w'
             go_simp
             with_reducible rfl
           rotate_left
           · simp only [Act.put, List.setIfInBounds_toArray, List.set_cons_zero, List.set_cons_succ, i64_w, i32_w]
             rfl
           refine pure_ (i := 4) (N := some 20) (v := ?_) (a' := ?_) #[true, true, true, true, true, false, false, false, false, false, false, false, false, false, false] rfl rfl (any_of HT_.out (by kernel_rfl)) (fun _ _ _ h => h) (Or.inl ⟨by rfl, ?_⟩) ?_ ?_
           rotate_left
           · intro w'
             go_simp
             with_reducible rfl
           rotate_left
           · simp only [Act.put, List.setIfInBounds_toArray, List.set_cons_zero, List.set_cons_succ, i64_w, i32_w]
             rfl
           refine pure_ (i := 5) (N := some 21) (v := ?_) (a' := ?_) #[true, true, true, true, true, true, false, false, false, false, false, false, false, false, false] rfl rfl (any_of HT_.out (by kernel_rfl)) (fun _ _ _ h => h) (Or.inl ⟨by rfl, ?_⟩) ?_ ?_
           rotate_left
           · intro w'
             go_simp
             with_reducible rfl
           rotate_left
           · simp only [Act.put, List.setIfInBounds_toArray, List.set_cons_zero, List.set_cons_succ, i64_w, i32_w]
             rfl
           refine pure_ (i := 6) (N := some 22) (v := ?_) (a' := ?_) #[true, true, true, true, true, true, true, false, false, false, false, false, false, false, false] rfl rfl (any_of HT_.out (by kernel_rfl)) (fun _ _ _ h => h) (Or.inl ⟨by rfl, ?_⟩) ?_ ?_
           rotate_left
           · intro w'
             go_simp
             with_reducible rfl
           rotate_left
           · simp only [Act.put, List.setIfInBounds_toArray, List.set_cons_zero, List.set_cons_succ, i64_w, i32_w]
             rfl
           refine pure_ (i := 8) (N := some 24) (v := ?_) (a' := ?_) #[true, true, true, true, true, true, true, false, true, false, false, false, false, false, false] rfl rfl (any_of HT_.out (by kernel_rfl)) (fun _ _ _ h => h) (Or.inl ⟨by rfl, ?_⟩) ?_ ?_
           rotate_left
           · intro w'
             go_simp
             with_reducible rfl
           rotate_left
           · simp only [Act.put, List.setIfInBounds_toArray, List.set_cons_zero, List.set_cons_succ, i64_w, i32_w]
             rfl
           refine pure_ (i := 9) (N := some 25) (v := ?_) (a' := ?_) #[true, true, true, true, true, true, true, false, true, true, false, false, false, false, false] rfl rfl (any_of HT_.out (by kernel_rfl)) (fun _ _ _ h => h) (Or.inl ⟨by rfl, ?_⟩) ?_ ?_
           rotate_left
           · intro w'
             go_simp
             with_reducible rfl
           rotate_left
           · simp only [Act.put, List.setIfInBounds_toArray, List.set_cons_zero, List.set_cons_succ, i64_w, i32_w]
             rfl
           refine pure_ (i := 10) (N := some 26) (v := ?_) (a' := ?_) #[true, true, true, true, true, true, true, false, true, true, true, false, false, false, false] rfl rfl (any_of HT_.out (by kernel_rfl)) (fun _ _ _ h => h) (Or.inl ⟨by rfl, ?_⟩) ?_ ?_
           rotate_left
           · intro w'
             go_simp
             with_reducible rfl
           rotate_left
           · simp only [Act.put, List.setIfInBounds_toArray, List.set_cons_zero, List.set_cons_succ, i64_w, i32_w]
             rfl
           refine pure_ (i := 11) (N := some 27) (v := ?_) (a' := ?_) #[true, true, true, true, true, true, true, false, true, true, true, true, false, false, false] rfl rfl (any_of HT_.out (by kernel_rfl)) (fun _ _ _ h => h) (Or.inl ⟨by rfl, ?_⟩) ?_ ?_
           rotate_left
           · intro w'
             go_simp
             with_reducible rfl
           rotate_left
           · simp only [Act.put, List.setIfInBounds_toArray, List.set_cons_zero, List.set_cons_succ, i64_w, i32_w]
             rfl
           refine take_ (i := 7) (N := some 23) (v := ?_) (a' := ?_) #[true, true, true, true, true, true, true, true, true, true, true, true, false, false, false] rfl rfl (take_ofW HT_.out HW_.out (by kernel_rfl)) (fun _ _ _ h => h) (Or.inl ⟨by rfl, ?_⟩) hHeld ?_ ?_
           rotate_left
           · rintro w' ⟨s0, s1⟩
             go_simp
             with_reducible rfl
           rotate_left
           · simp only [Act.put, List.setIfInBounds_toArray, List.set_cons_zero, List.set_cons_succ, i64_w, i32_w]
             rfl
           refine take_ (i := 12) (N := some 28) (v := ?_) (a' := ?_) #[true, true, true, true, true, true, true, true, true, true, true, true, true, false, false] rfl rfl (take_ofW HT_.out HW_.out (by kernel_rfl)) (fun _ _ _ h => h) (Or.inl ⟨by rfl, ?_⟩) hHeld ?_ ?_
           rotate_left
           · rintro w' ⟨s0, s1⟩
             go_simp
             with_reducible rfl
           rotate_left
           · simp only [Act.put, List.setIfInBounds_toArray, List.set_cons_zero, List.set_cons_succ, i64_w, i32_w]
             rfl
           refine one_ (i := 13) (N := some 29) #[true, true, true, true, true, true, true, true, true, true, true, true, true, true, false] rfl rfl (one_of HT_.out (by kernel_rfl)) (by decide) (fun K hK => ?_)
           refine goes_ Tryd.func182 (by kernel_rfl) rfl #[.int .u8 (rd x0_2 x7_2), .int .u8 (rd x0_2 (ji8))] (by rfl) rfl rfl (by (try simp only [List.map_toArray, List.map_cons, List.map_nil]); first | done | (simp only [hji8]; rfl) | rfl | (simp only [List.length_drop, List.length_take]; rfl)) ?_
           with_reducible refine (cmp_Less_byte.calls (rd x0_2 x7_2) (rd x0_2 (ji8)) true _ A11.out).mono ?_
           rintro e w' ⟨rfl, ⟨nd, rfl⟩⟩
           refine ⟨_, rfl, ?_⟩
           refine hK.out _ _ ⟨hHeld.1, hHeld.2⟩ (fun hHeld => ?_)
           clear hK K
           refine norm_ (a' := ?_) ?_ ?_
           rotate_left
           · show Act.put _ (some 29) _ = _
             simp only [Act.put, List.setIfInBounds_toArray, List.set_cons_zero, List.set_cons_succ, i64_w, i32_w]
             rfl
           refine pure_ (i := 14) (N := some 30) (v := ?_) (a' := ?_) #[true, true, true, true, true, true, true, true, true, true, true, true, true, true, true] rfl rfl (any_of HT_.out (by kernel_rfl)) (fun _ _ _ h => h) (Or.inl ⟨by rfl, ?_⟩) ?_ ?_
           rotate_left
           · intro w'
             go_simp
             with_reducible rfl
           rotate_left
           · simp only [Act.put, List.setIfInBounds_toArray, List.set_cons_zero, List.set_cons_succ, i64_w, i32_w]
             rfl
           refine done_ (done_of HT_.out (by kernel_rfl)) ?_
           try go_wp2
           (try (rw [drewN_self w15]; generalize hq_ : World.drewN w15 _ = w15; have n0_ : Aside0 (MR 5 w15 w0.heap.size (fun k_ => (P0_ k_ ∨ w.heap.size ≤ k_)) (.slice (some ad147) x0_2.length co16) x0_2) := ⟨by rw [← hq_]; exact (by (with_reducible repeat (first | apply MR_alloc | apply MR_drewN | apply MR_drew)); exact HO_0.out)⟩; have n1_ : Aside0 (Kept w w15 (fun k_ => P0_ k_)) := ⟨by rw [← hq_]; exact (by repeat (first | (with_reducible first | exact HK.out | apply Kept.alloc | apply Kept.drewN | apply Kept.drew) | exact HK.out))⟩; have n2_ : Aside0 (Below w0.heap.size w0 w15) := ⟨by rw [← hq_]; exact (by repeat (first | (with_reducible first | exact HB.out | apply below_alloc | apply pw_below_drewN | apply below_drew1) | exact HB.out))⟩; clear HO_0 HK HB hq_; have HO_0 := n0_; have HK := n1_; have HB := n2_; clear n0_ n1_ n2_))
           have n0_ := Aside0.mk (MR_drew HO_0.out)
           have n1_ := Aside0.mk (Kept.drew HK.out)
           have n2_ := Aside0.mk (below_drew1 HB.out)
           clear HO_0
           clear HK
           clear HB
           have HO_0 := n0_
           have HK := n1_
           have HB := n2_
           clear n0_ n1_ n2_
           have p150 : 0 ≤ ((ji8) : Int) := of_decide_eq_true zda0_
           have q150 : (ji8) < (x0_2.length : Int) := of_decide_eq_true zda0_
           obtain ⟨ad150, e150, hx150_0⟩ := Kd.at_int (MR_reads' HO_0.out).2.2 (ji8) p150 q150
           obtain rfl : ad147 = ad150 := (by injection e150)
           replace p150 := eq_true p150
           replace q150 := eq_true q150
           have p151 : 0 ≤ (x7_2 : Int) := of_decide_eq_true zda0_
           have q151 : x7_2 < (x0_2.length : Int) := of_decide_eq_true zda0_
           obtain ⟨ad151, e151, hx151_0⟩ := Kd.at_int (MR_reads' HO_0.out).2.2 x7_2 p151 q151
           obtain rfl : ad147 = ad151 := (by injection e151)
           replace p151 := eq_true p151
           replace q151 := eq_true q151
           have p13 : 0 ≤ (x7_2 : Int) := of_decide_eq_true zda0_
           have q13 : (x7_2 : Int) < ((x0_2.length : Int) : Int) := of_decide_eq_true zda0_
           obtain ⟨go13, co13, eo13, gb13, gl13, cl13, HG13⟩ := MR_form HO_0.out (by omega)
           (first | cases eo13 | (injection eo13 with ea_ en_ ec_; (first | subst ea_ | (injection ea_ with ea_; subst ea_)); subst ec_; clear en_))
           have GB13 := Aside0.mk gb13
           have GG13 := Aside0.mk HG13
           clear gb13 gl13 HG13
           have HMgo13 := Aside0.mk (show (P0_ go13 ∨ w.heap.size ≤ go13) from (HO_0.out.1 _ rfl))
           (first | simp only [add_plain] at hx147_0 | skip)
           (first | simp only [add_plain] at hx148_0 | skip)
           (first | simp only [add_plain] at hx150_0 | skip)
           (first | simp only [add_plain] at hx151_0 | skip)
           obtain ⟨hx13_0, hf13_0⟩ := MR_celln 0 HO_0.out (x7_2 : Int) p13 q13
           replace p13 := eq_true p13
           replace q13 := eq_true q13
           have HP18 := MR_putn HO_0.out (x7_2 : Int) (rd x0_2 (ji8))
           rw [← Ny152.out] at HP18
           have HQ18 := Aside0.mk HP18
           clear HP18
           have p14 : 0 ≤ ((ji8) : Int) := of_decide_eq_true zda0_
           have q14 : ((ji8) : Int) < ((x0_2.length : Int) : Int) := of_decide_eq_true zda0_
           obtain ⟨hx14_0, hf14_0⟩ := MR_celln 0 HQ18.out ((ji8) : Int) p14 q14
           replace p14 := eq_true p14
           replace q14 := eq_true q14
           have HP19 := MR_putn HQ18.out ((ji8) : Int) (rd x0_2 x7_2)
           rw [← Ny153.out] at HP19
           have HQ19 := Aside0.mk HP19
           clear HP19
           refine start_ (n := 18) (S := fun w' => w'.cell? ⟨go13, ((ji8)).toNat, none⟩ = some (.int .u8 (rd x0_2 (ji8))) ∧ w'.cell? ⟨go13, (x7_2).toNat, none⟩ = some (.int .u8 (rd x0_2 x7_2))) (ds := [15, 17]) #[false, false, false, false, false, false, false, false, false, false, false, false, false, false, false, false, false, false] (by kernel_rfl) rfl rfl ⟨hx150_0, hx151_0⟩ (fun hHeld => ?_); refine with_tabW gd_ins.tab6 gd_ins.bits6 (fun HT_ HW_ => ?_)
           generalize w15.drew = w17 at HO_0 HK HB GG13 HQ18 HQ19 hf13_0 hf14_0 hx13_0 hx147_0 hx148_0 hx14_0 hx150_0 hx151_0 hHeld ⊢
           refine pure_ (i := 0) (N := some 33) (v := ?_) (a' := ?_) #[true, false, false, false, false, false, false, false, false, false, false, false, false, false, false, false, false, false] rfl rfl (any_of HT_.out (by kernel_rfl)) (fun _ _ _ h => h) (Or.inl ⟨by rfl, ?_⟩) ?_ ?_
           rotate_left
           · intro w'
             go_simp
             with_reducible rfl
           rotate_left
           · simp only [Act.put, List.setIfInBounds_toArray, List.set_cons_zero, List.set_cons_succ, i64_w, i32_w]
             rfl
           refine pure_ (i := 1) (N := some 34) (v := ?_) (a' := ?_) #[true, true, false, false, false, false, false, false, false, false, false, false, false, false, false, false, false, false] rfl rfl (any_of HT_.out (by kernel_rfl)) (fun _ _ _ h => h) (Or.inl ⟨by rfl, ?_⟩) ?_ ?_
           rotate_left
           · intro w'
             go_simp
             with_reducible rfl
           rotate_left
           · simp only [Act.put, List.setIfInBounds_toArray, List.set_cons_zero, List.set_cons_succ, i64_w, i32_w]
             rfl
           refine pure_ (i := 2) (N := some 35) (v := ?_) (a' := ?_) #[true, true, true, false, false, false, false, false, false, false, false, false, false, false, false, false, false, false] rfl rfl (any_of HT_.out (by kernel_rfl)) (fun _ _ _ h => h) (Or.inl ⟨by rfl, ?_⟩) ?_ ?_
           rotate_left
           · intro w'
             go_simp
             with_reducible rfl
           rotate_left
           · simp only [Act.put, List.setIfInBounds_toArray, List.set_cons_zero, List.set_cons_succ, i64_w, i32_w]
             rfl
           refine pure_ (i := 3) (N := some 36) (v := ?_) (a' := ?_) #[true, true, true, true, false, false, false, false, false, false, false, false, false, false, false, false, false, false] rfl rfl (any_of HT_.out (by kernel_rfl)) (fun _ _ _ h => h) (Or.inl ⟨by rfl, ?_⟩) ?_ ?_
           rotate_left
           · intro w'
             go_simp
             with_reducible rfl
           rotate_left
           · simp only [Act.put, List.setIfInBounds_toArray, List.set_cons_zero, List.set_cons_succ, i64_w, i32_w]
             rfl
           refine pure_ (i := 4) (N := some 37) (v := ?_) (a' := ?_) #[true, true, true, true, true, false, false, false, false, false, false, false, false, false, false, false, false, false] rfl rfl (any_of HT_.out (by kernel_rfl)) (fun _ _ _ h => h) (Or.inl ⟨by rfl, ?_⟩) ?_ ?_
           rotate_left
           · intro w'
             go_simp
             with_reducible rfl
           rotate_left
           · simp only [Act.put, List.setIfInBounds_toArray, List.set_cons_zero, List.set_cons_succ, i64_w, i32_w]
             rfl
           refine pure_ (i := 5) (N := some 38) (v := ?_) (a' := ?_) #[true, true, true, true, true, true, false, false, false, false, false, false, false, false, false, false, false, false] rfl rfl (any_of HT_.out (by kernel_rfl)) (fun _ _ _ h => h) (Or.inl ⟨by rfl, ?_⟩) ?_ ?_
           rotate_left
           · intro w'
             go_simp
             with_reducible rfl
           rotate_left
           · simp only [Act.put, List.setIfInBounds_toArray, List.set_cons_zero, List.set_cons_succ, i64_w, i32_w]
             rfl
           refine pure_ (i := 6) (N := some 39) (v := ?_) (a' := ?_) #[true, true, true, true, true, true, true, false, false, false, false, false, false, false, false, false, false, false] rfl rfl (any_of HT_.out (by kernel_rfl)) (fun _ _ _ h => h) (Or.inl ⟨by rfl, ?_⟩) ?_ ?_
           rotate_left
           · intro w'
             go_simp
             with_reducible rfl
           rotate_left
           · simp only [Act.put, List.setIfInBounds_toArray, List.set_cons_zero, List.set_cons_succ, i64_w, i32_w]
             rfl
           refine pure_ (i := 7) (N := some 40) (v := ?_) (a' := ?_) #[true, true, true, true, true, true, true, true, false, false, false, false, false, false, false, false, false, false] rfl rfl (any_of HT_.out (by kernel_rfl)) (fun _ _ _ h => h) (Or.inl ⟨by rfl, ?_⟩) ?_ ?_
           rotate_left
           · intro w'
             go_simp
             with_reducible rfl
           rotate_left
           · simp only [Act.put, List.setIfInBounds_toArray, List.set_cons_zero, List.set_cons_succ, i64_w, i32_w]
             rfl
           refine pure_ (i := 8) (N := some 41) (v := ?_) (a' := ?_) #[true, true, true, true, true, true, true, true, true, false, false, false, false, false, false, false, false, false] rfl rfl (any_of HT_.out (by kernel_rfl)) (fun _ _ _ h => h) (Or.inl ⟨by rfl, ?_⟩) ?_ ?_
           rotate_left
           · intro w'
             go_simp
             with_reducible rfl
           rotate_left
           · simp only [Act.put, List.setIfInBounds_toArray, List.set_cons_zero, List.set_cons_succ, i64_w, i32_w]
             rfl
           refine pure_ (i := 10) (N := some 43) (v := ?_) (a' := ?_) #[true, true, true, true, true, true, true, true, true, false, true, false, false, false, false, false, false, false] rfl rfl (any_of HT_.out (by kernel_rfl)) (fun _ _ _ h => h) (Or.inl ⟨by rfl, ?_⟩) ?_ ?_
           rotate_left
           · intro w'
             go_simp
             with_reducible rfl
           rotate_left
           · simp only [Act.put, List.setIfInBounds_toArray, List.set_cons_zero, List.set_cons_succ, i64_w, i32_w]
             rfl
           refine pure_ (i := 11) (N := some 44) (v := ?_) (a' := ?_) #[true, true, true, true, true, true, true, true, true, false, true, true, false, false, false, false, false, false] rfl rfl (any_of HT_.out (by kernel_rfl)) (fun _ _ _ h => h) (Or.inl ⟨by rfl, ?_⟩) ?_ ?_
           rotate_left
           · intro w'
             go_simp
             with_reducible rfl
           rotate_left
           · simp only [Act.put, List.setIfInBounds_toArray, List.set_cons_zero, List.set_cons_succ, i64_w, i32_w]
             rfl
           refine pure_ (i := 12) (N := some 45) (v := ?_) (a' := ?_) #[true, true, true, true, true, true, true, true, true, false, true, true, true, false, false, false, false, false] rfl rfl (any_of HT_.out (by kernel_rfl)) (fun _ _ _ h => h) (Or.inl ⟨by rfl, ?_⟩) ?_ ?_
           rotate_left
           · intro w'
             go_simp
             with_reducible rfl
           rotate_left
           · simp only [Act.put, List.setIfInBounds_toArray, List.set_cons_zero, List.set_cons_succ, i64_w, i32_w]
             rfl
           refine take_ (i := 9) (N := some 42) (v := ?_) (a' := ?_) #[true, true, true, true, true, true, true, true, true, true, true, true, true, false, false, false, false, false] rfl rfl (take_ofW HT_.out HW_.out (by kernel_rfl)) (fun _ _ _ h => h) (Or.inl ⟨by rfl, ?_⟩) hHeld ?_ ?_
           rotate_left
           · rintro w' ⟨s0, s1⟩
             go_simp
             with_reducible rfl
           rotate_left
           · simp only [Act.put, List.setIfInBounds_toArray, List.set_cons_zero, List.set_cons_succ, i64_w, i32_w]
             rfl
           refine take_ (i := 13) (N := some 46) (v := ?_) (a' := ?_) #[true, true, true, true, true, true, true, true, true, true, true, true, true, true, false, false, false, false] rfl rfl (take_ofW HT_.out HW_.out (by kernel_rfl)) (fun _ _ _ h => h) (Or.inl ⟨by rfl, ?_⟩) hHeld ?_ ?_
           rotate_left
           · rintro w' ⟨s0, s1⟩
             go_simp
             with_reducible rfl
           rotate_left
           · simp only [Act.put, List.setIfInBounds_toArray, List.set_cons_zero, List.set_cons_succ, i64_w, i32_w]
             rfl
           refine pure_ (i := 14) (N := some 47) (v := ?_) (a' := ?_) #[true, true, true, true, true, true, true, true, true, true, true, true, true, true, true, false, false, false] rfl rfl (any_of HT_.out (by kernel_rfl)) (fun _ _ _ h => h) (Or.inl ⟨by rfl, ?_⟩) ?_ ?_
           rotate_left
           · intro w'
             go_simp
             with_reducible rfl
           rotate_left
           · simp only [Act.put, List.setIfInBounds_toArray, List.set_cons_zero, List.set_cons_succ, i64_w, i32_w]
             rfl
           refine last_ (i := 15) (N := none) #[true, true, true, true, true, true, true, true, true, true, true, true, true, true, true, true, false, false] rfl rfl (one_of HT_.out (by kernel_rfl)) (by decide) (fun K hK => ?_)
           refine skip_ (w1 := ?_) (by rfl) rfl ?_ ?_
           rotate_left
           · go_simp
             rfl
           refine hK.out _ _ ?_
           clear hK K
           refine pure_ (i := 16) (N := some 48) (v := ?_) (a' := ?_) #[true, true, true, true, true, true, true, true, true, true, true, true, true, true, true, true, true, false] rfl rfl (any_of HT_.out (by kernel_rfl)) (fun _ _ _ h => h) (Or.inl ⟨by rfl, ?_⟩) ?_ ?_
           rotate_left
           · intro w'
             go_simp
             with_reducible rfl
           rotate_left
           · simp only [Act.put, List.setIfInBounds_toArray, List.set_cons_zero, List.set_cons_succ, i64_w, i32_w]
             rfl
           refine last_ (i := 17) (N := none) #[true, true, true, true, true, true, true, true, true, true, true, true, true, true, true, true, true, true] rfl rfl (one_of HT_.out (by kernel_rfl)) (by decide) (fun K hK => ?_)
           refine skip_ (w1 := ?_) (by rfl) rfl ?_ ?_
           rotate_left
           · go_simp
             rfl
           refine hK.out _ _ ?_
           clear hK K
           refine done_ (done_of HT_.out (by kernel_rfl)) ?_
           try go_wp2
           go_roundg k2
           case measure => have := HK1.out; have := HK2.out; omega
           case rel => exact ⟨(y153), (ji8), (by first | rfl | (simp; done) | (simp only [← hji8] <;> (first | rfl | simp)) | (simp [*]; done)), H', ⟨by have := HK1.out; have := HK2.out; omega⟩, ⟨by (with_reducible repeat (first | apply MR_alloc | apply MR_drewN | apply MR_drew)); exact HQ19.out⟩, ⟨by repeat (first | (with_reducible first | exact HK.out | apply Kept.alloc | apply Kept.drewN | apply Kept.drew | refine Kept.setCell ?_ HMgo13.out _ | refine Kept.setCell ?_ HMgo13.out _) | exact HK.out)⟩, ⟨by repeat (first | (with_reducible first | exact HB.out | apply below_alloc | apply pw_below_drewN | apply below_drew1 | refine below_set ?_ GB13.out | refine below_set ?_ GB13.out) | exact HB.out)⟩⟩
         replace c12 := Bool.eq_false_iff.mpr c12
         subst c12
         rw [if_neg (show ¬ (false = true) by decide)] at H
         have H' := Aside0.mk H
         clear H
         try go_wp2
         have n0_ := Aside0.mk (MR_drew HO_0.out)
         have n1_ := Aside0.mk (Kept.drew HK.out)
         have n2_ := Aside0.mk (below_drew1 HB.out)
         clear HO_0
         clear HK
         clear HB
         have HO_0 := n0_
         have HK := n1_
         have HB := n2_
         clear n0_ n1_ n2_
         obtain ⟨Ao21, co21, eo21⟩ := MR_slice HO_0.out
         (first | subst eo21 | (injection eo21 with f1_ f2_ f3_; have f4_ := f1_.symm; have f5_ := f3_.symm; clear f1_ f2_ f3_; subst f4_; subst f5_))
         have p147 : 0 ≤ (x7_2 : Int) := of_decide_eq_true zda0_
         have q147 : x7_2 < (x0_2.length : Int) := of_decide_eq_true zda0_
         obtain ⟨ad147, e147, hx147_0⟩ := Kd.at_int (MR_reads' HO_0.out).2.2 x7_2 p147 q147
         cases e147
         replace p147 := eq_true p147
         replace q147 := eq_true q147
         have p148 : 0 ≤ ((ji8) : Int) := of_decide_eq_true zda0_
         have q148 : (ji8) < (x0_2.length : Int) := of_decide_eq_true zda0_
         obtain ⟨ad148, e148, hx148_0⟩ := Kd.at_int (MR_reads' HO_0.out).2.2 (ji8) p148 q148
         obtain rfl : ad147 = ad148 := (by injection e148)
         replace p148 := eq_true p148
         replace q148 := eq_true q148
         refine start_ (n := 15) (S := fun w' => w'.cell? (ad147.add (x7_2).toNat) = some (.int .u8 (rd x0_2 x7_2)) ∧ w'.cell? (ad147.add ((ji8)).toNat) = some (.int .u8 (rd x0_2 (ji8)))) (ds := []) #[false, false, false, false, false, false, false, false, false, false, false, false, false, false, false] (by kernel_rfl) rfl rfl ⟨hx147_0, hx148_0⟩ (fun hHeld => ?_); refine with_tabW gd_ins.tab4 gd_ins.bits4 (fun HT_ HW_ => ?_)
         generalize wr.drew = w20 at HO_0 HK HB hx147_0 hx148_0 hHeld ⊢
         refine pure_ (i := 0) (N := some 16) (v := ?_) (a' := ?_) #[true, false, false, false, false, false, false, false, false, false, false, false, false, false, false] rfl rfl (any_of HT_.out (by kernel_rfl)) (fun _ _ _ h => h) (Or.inl ⟨by rfl, ?_⟩) ?_ ?_
         rotate_left
         · intro w'
           go_simp
           with_reducible rfl
         rotate_left
         · simp only [Act.put, List.setIfInBounds_toArray, List.set_cons_zero, List.set_cons_succ, i64_w, i32_w]
           rfl
         refine pure_ (i := 1) (N := some 17) (v := ?_) (a' := ?_) #[true, true, false, false, false, false, false, false, false, false, false, false, false, false, false] rfl rfl (any_of HT_.out (by kernel_rfl)) (fun _ _ _ h => h) (Or.inl ⟨by rfl, ?_⟩) ?_ ?_
         rotate_left
         · intro w'
           go_simp
           with_reducible rfl
         rotate_left
         · simp only [Act.put, List.setIfInBounds_toArray, List.set_cons_zero, List.set_cons_succ, i64_w, i32_w]
           rfl
         refine pure_ (i := 2) (N := some 18) (v := ?_) (a' := ?_) #[true, true, true, false, false, false, false, false, false, false, false, false, false, false, false] rfl rfl (any_of HT_.out (by kernel_rfl)) (fun _ _ _ h => h) (Or.inl ⟨by rfl, ?_⟩) ?_ ?_
         rotate_left
         · intro w'
           go_simp
           with_reducible rfl
         rotate_left
         · simp only [Act.put, List.setIfInBounds_toArray, List.set_cons_zero, List.set_cons_succ, i64_w, i32_w]
           rfl
         refine pure_ (i := 3) (N := some 19) (v := ?_) (a' := ?_) #[true, true, true, true, false, false, false, false, false, false, false, false, false, false, false] rfl rfl (any_of HT_.out (by kernel_rfl)) (fun _ _ _ h => h) (Or.inl ⟨by rfl, ?_⟩) ?_ ?_
         rotate_left
         · intro w'
           go_simp
           with_reducible rfl
         rotate_left
         · simp only [Act.put, List.setIfInBounds_toArray, List.set_cons_zero, List.set_cons_succ, i64_w, i32_w]
           rfl
         refine pure_ (i := 4) (N := some 20) (v := ?_) (a' := ?_) #[true, true, true, true, true, false, false, false, false, false, false, false, false, false, false] rfl rfl (any_of HT_.out (by kernel_rfl)) (fun _ _ _ h => h) (Or.inl ⟨by rfl, ?_⟩) ?_ ?_
         rotate_left
         · intro w'
           go_simp
           with_reducible rfl
         rotate_left
         · simp only [Act.put, List.setIfInBounds_toArray, List.set_cons_zero, List.set_cons_succ, i64_w, i32_w]
           rfl
         refine pure_ (i := 5) (N := some 21) (v := ?_) (a' := ?_) #[true, true, true, true, true, true, false, false, false, false, false, false, false, false, false] rfl rfl (any_of HT_.out (by kernel_rfl)) (fun _ _ _ h => h) (Or.inl ⟨by rfl, ?_⟩) ?_ ?_
         rotate_left
         · intro w'
           go_simp
           with_reducible rfl
         rotate_left
         · simp only [Act.put, List.setIfInBounds_toArray, List.set_cons_zero, List.set_cons_succ, i64_w, i32_w]
           rfl
         refine pure_ (i := 6) (N := some 22) (v := ?_) (a' := ?_) #[true, true, true, true, true, true, true, false, false, false, false, false, false, false, false] rfl rfl (any_of HT_.out (by kernel_rfl)) (fun _ _ _ h => h) (Or.inl ⟨by rfl, ?_⟩) ?_ ?_
         rotate_left
         · intro w'
           go_simp
           with_reducible rfl
         rotate_left
         · simp only [Act.put, List.setIfInBounds_toArray, List.set_cons_zero, List.set_cons_succ, i64_w, i32_w]
           rfl
         refine pure_ (i := 8) (N := some 24) (v := ?_) (a' := ?_) #[true, true, true, true, true, true, true, false, true, false, false, false, false, false, false] rfl rfl (any_of HT_.out (by kernel_rfl)) (fun _ _ _ h => h) (Or.inl ⟨by rfl, ?_⟩) ?_ ?_
         rotate_left
         · intro w'
           go_simp
           with_reducible rfl
         rotate_left
         · simp only [Act.put, List.setIfInBounds_toArray, List.set_cons_zero, List.set_cons_succ, i64_w, i32_w]
           rfl
         refine pure_ (i := 9) (N := some 25) (v := ?_) (a' := ?_) #[true, true, true, true, true, true, true, false, true, true, false, false, false, false, false] rfl rfl (any_of HT_.out (by kernel_rfl)) (fun _ _ _ h => h) (Or.inl ⟨by rfl, ?_⟩) ?_ ?_
         rotate_left
         · intro w'
           go_simp
           with_reducible rfl
         rotate_left
         · simp only [Act.put, List.setIfInBounds_toArray, List.set_cons_zero, List.set_cons_succ, i64_w, i32_w]
           rfl
         refine pure_ (i := 10) (N := some 26) (v := ?_) (a' := ?_) #[true, true, true, true, true, true, true, false, true, true, true, false, false, false, false] rfl rfl (any_of HT_.out (by kernel_rfl)) (fun _ _ _ h => h) (Or.inl ⟨by rfl, ?_⟩) ?_ ?_
         rotate_left
         · intro w'
           go_simp
           with_reducible rfl
         rotate_left
         · simp only [Act.put, List.setIfInBounds_toArray, List.set_cons_zero, List.set_cons_succ, i64_w, i32_w]
           rfl
         refine pure_ (i := 11) (N := some 27) (v := ?_) (a' := ?_) #[true, true, true, true, true, true, true, false, true, true, true, true, false, false, false] rfl rfl (any_of HT_.out (by kernel_rfl)) (fun _ _ _ h => h) (Or.inl ⟨by rfl, ?_⟩) ?_ ?_
         rotate_left
         · intro w'
           go_simp
           with_reducible rfl
         rotate_left
         · simp only [Act.put, List.setIfInBounds_toArray, List.set_cons_zero, List.set_cons_succ, i64_w, i32_w]
           rfl
         refine take_ (i := 7) (N := some 23) (v := ?_) (a' := ?_) #[true, true, true, true, true, true, true, true, true, true, true, true, false, false, false] rfl rfl (take_ofW HT_.out HW_.out (by kernel_rfl)) (fun _ _ _ h => h) (Or.inl ⟨by rfl, ?_⟩) hHeld ?_ ?_
         rotate_left
         · rintro w' ⟨s0, s1⟩
           go_simp
           with_reducible rfl
         rotate_left
         · simp only [Act.put, List.setIfInBounds_toArray, List.set_cons_zero, List.set_cons_succ, i64_w, i32_w]
           rfl
         refine take_ (i := 12) (N := some 28) (v := ?_) (a' := ?_) #[true, true, true, true, true, true, true, true, true, true, true, true, true, false, false] rfl rfl (take_ofW HT_.out HW_.out (by kernel_rfl)) (fun _ _ _ h => h) (Or.inl ⟨by rfl, ?_⟩) hHeld ?_ ?_
         rotate_left
         · rintro w' ⟨s0, s1⟩
           go_simp
           with_reducible rfl
         rotate_left
         · simp only [Act.put, List.setIfInBounds_toArray, List.set_cons_zero, List.set_cons_succ, i64_w, i32_w]
           rfl
         refine one_ (i := 13) (N := some 29) #[true, true, true, true, true, true, true, true, true, true, true, true, true, true, false] rfl rfl (one_of HT_.out (by kernel_rfl)) (by decide) (fun K hK => ?_)
         refine goes_ Tryd.func182 (by kernel_rfl) rfl #[.int .u8 (rd x0_2 x7_2), .int .u8 (rd x0_2 (ji8))] (by rfl) rfl rfl (by (try simp only [List.map_toArray, List.map_cons, List.map_nil]); first | done | (simp only [hji8]; rfl) | rfl | (simp only [List.length_drop, List.length_take]; rfl)) ?_
         with_reducible refine (cmp_Less_byte.calls (rd x0_2 x7_2) (rd x0_2 (ji8)) false _ A11.out).mono ?_
         rintro e w' ⟨rfl, ⟨nd, rfl⟩⟩
         refine ⟨_, rfl, ?_⟩
         refine hK.out _ _ ⟨hHeld.1, hHeld.2⟩ (fun hHeld => ?_)
         clear hK K
         refine norm_ (a' := ?_) ?_ ?_
         rotate_left
         · show Act.put _ (some 29) _ = _
           simp only [Act.put, List.setIfInBounds_toArray, List.set_cons_zero, List.set_cons_succ, i64_w, i32_w]
           rfl
         refine pure_ (i := 14) (N := some 30) (v := ?_) (a' := ?_) #[true, true, true, true, true, true, true, true, true, true, true, true, true, true, true] rfl rfl (any_of HT_.out (by kernel_rfl)) (fun _ _ _ h => h) (Or.inl ⟨by rfl, ?_⟩) ?_ ?_
         rotate_left
         · intro w'
           go_simp
           with_reducible rfl
         rotate_left
         · simp only [Act.put, List.setIfInBounds_toArray, List.set_cons_zero, List.set_cons_succ, i64_w, i32_w]
           rfl
         refine done_ (done_of HT_.out (by kernel_rfl)) ?_
         try go_wp2
         go_roundg k2
         case measure => have := HK1.out; have := HK2.out; omega
         case rel => exact ⟨(x0_2), (wrap64 (x6_1 + 1)), (by first | rfl | (simp; done) | (simp [*]; done)), H', ⟨by have := HK1.out; have := HK2.out; omega⟩, ⟨by (with_reducible repeat (first | apply MR_alloc | apply MR_drewN | apply MR_drew)); exact HO_0.out⟩, ⟨by repeat (first | (with_reducible first | exact HK.out | apply Kept.alloc | apply Kept.drewN | apply Kept.drew) | exact HK.out)⟩, ⟨by repeat (first | (with_reducible first | exact HB.out | apply below_alloc | apply pw_below_drewN | apply below_drew1) | exact HB.out)⟩⟩
       rw [if_neg c5] at H
       have c5b0 : decide (a1 < x7_2) = false := decide_eq_false c5
       clear c5
       have H' := Aside0.mk H
       clear H
       try go_wp2
       have n0_ := Aside0.mk (MR_drew HO_0.out)
       have n1_ := Aside0.mk (Kept.drew HK.out)
       have n2_ := Aside0.mk (below_drew1 HB.out)
       clear HO_0
       clear HK
       clear HB
       have HO_0 := n0_
       have HK := n1_
       have HB := n2_
       clear n0_ n1_ n2_
       refine start_ (n := 15) (S := fun w' => True) (ds := []) #[false, false, false, false, false, false, false, false, false, false, false, false, false, false, false] (by kernel_rfl) rfl rfl trivial (fun hHeld => ?_); refine with_tabW gd_ins.tab4 gd_ins.bits4 (fun HT_ HW_ => ?_)
       generalize wr.drew = w22 at HO_0 HK HB hHeld ⊢
       refine pure_ (i := 0) (N := some 16) (v := ?_) (a' := ?_) #[true, false, false, false, false, false, false, false, false, false, false, false, false, false, false] rfl rfl (any_of HT_.out (by kernel_rfl)) (fun _ _ _ h => h) (Or.inl ⟨by rfl, ?_⟩) ?_ ?_
       rotate_left
       · intro w'
         go_simp
         with_reducible rfl
       rotate_left
       · simp only [Act.put, List.setIfInBounds_toArray, List.set_cons_zero, List.set_cons_succ, i64_w, i32_w]
         rfl
       refine pure_ (i := 1) (N := some 17) (v := ?_) (a' := ?_) #[true, true, false, false, false, false, false, false, false, false, false, false, false, false, false] rfl rfl (any_of HT_.out (by kernel_rfl)) (fun _ _ _ h => h) (Or.inl ⟨by rfl, ?_⟩) ?_ ?_
       rotate_left
       · intro w'
         go_simp
         with_reducible rfl
       rotate_left
       · simp only [Act.put, List.setIfInBounds_toArray, List.set_cons_zero, List.set_cons_succ, i64_w, i32_w]
         rfl
       refine pure_ (i := 2) (N := some 18) (v := ?_) (a' := ?_) #[true, true, true, false, false, false, false, false, false, false, false, false, false, false, false] rfl rfl (any_of HT_.out (by kernel_rfl)) (fun _ _ _ h => h) (Or.inl ⟨by rfl, ?_⟩) ?_ ?_
       rotate_left
       · intro w'
         go_simp
         with_reducible rfl
       rotate_left
       · simp only [Act.put, List.setIfInBounds_toArray, List.set_cons_zero, List.set_cons_succ, i64_w, i32_w]
         rfl
       refine pure_ (i := 3) (N := some 19) (v := ?_) (a' := ?_) #[true, true, true, true, false, false, false, false, false, false, false, false, false, false, false] rfl rfl (any_of HT_.out (by kernel_rfl)) (fun _ _ _ h => h) (Or.inl ⟨by rfl, ?_⟩) ?_ ?_
       rotate_left
       · intro w'
         go_simp
         with_reducible rfl
       rotate_left
       · simp only [Act.put, List.setIfInBounds_toArray, List.set_cons_zero, List.set_cons_succ, i64_w, i32_w]
         rfl
       refine pure_ (i := 4) (N := some 20) (v := undef) (a' := ?_) #[true, true, true, true, true, false, false, false, false, false, false, false, false, false, false] rfl rfl (any_of HT_.out (by kernel_rfl)) (fun _ _ _ h => h) (Or.inr ⟨by rfl, rfl⟩) ?_ ?_
       rotate_left
       · simp only [Act.put, List.setIfInBounds_toArray, List.set_cons_zero, List.set_cons_succ, i64_w, i32_w]
         rfl
       refine pure_ (i := 5) (N := some 21) (v := undef) (a' := ?_) #[true, true, true, true, true, true, false, false, false, false, false, false, false, false, false] rfl rfl (any_of HT_.out (by kernel_rfl)) (fun _ _ _ h => h) (Or.inr ⟨by rfl, rfl⟩) ?_ ?_
       rotate_left
       · simp only [Act.put, List.setIfInBounds_toArray, List.set_cons_zero, List.set_cons_succ, i64_w, i32_w]
         rfl
       refine pure_ (i := 6) (N := some 22) (v := undef) (a' := ?_) #[true, true, true, true, true, true, true, false, false, false, false, false, false, false, false] rfl rfl (any_of HT_.out (by kernel_rfl)) (fun _ _ _ h => h) (Or.inr ⟨by rfl, rfl⟩) ?_ ?_
       rotate_left
       · simp only [Act.put, List.setIfInBounds_toArray, List.set_cons_zero, List.set_cons_succ, i64_w, i32_w]
         rfl
       refine pure_ (i := 7) (N := some 23) (v := undef) (a' := ?_) #[true, true, true, true, true, true, true, true, false, false, false, false, false, false, false] rfl rfl (any_of HT_.out (by kernel_rfl)) (fun _ _ _ h => h) (Or.inr ⟨by rfl, rfl⟩) ?_ ?_
       rotate_left
       · simp only [Act.put, List.setIfInBounds_toArray, List.set_cons_zero, List.set_cons_succ, i64_w, i32_w]
         rfl
       refine pure_ (i := 8) (N := some 24) (v := undef) (a' := ?_) #[true, true, true, true, true, true, true, true, true, false, false, false, false, false, false] rfl rfl (any_of HT_.out (by kernel_rfl)) (fun _ _ _ h => h) (Or.inr ⟨by rfl, rfl⟩) ?_ ?_
       rotate_left
       · simp only [Act.put, List.setIfInBounds_toArray, List.set_cons_zero, List.set_cons_succ, i64_w, i32_w]
         rfl
       refine pure_ (i := 9) (N := some 25) (v := undef) (a' := ?_) #[true, true, true, true, true, true, true, true, true, true, false, false, false, false, false] rfl rfl (any_of HT_.out (by kernel_rfl)) (fun _ _ _ h => h) (Or.inr ⟨by rfl, rfl⟩) ?_ ?_
       rotate_left
       · simp only [Act.put, List.setIfInBounds_toArray, List.set_cons_zero, List.set_cons_succ, i64_w, i32_w]
         rfl
       refine pure_ (i := 10) (N := some 26) (v := undef) (a' := ?_) #[true, true, true, true, true, true, true, true, true, true, true, false, false, false, false] rfl rfl (any_of HT_.out (by kernel_rfl)) (fun _ _ _ h => h) (Or.inr ⟨by rfl, rfl⟩) ?_ ?_
       rotate_left
       · simp only [Act.put, List.setIfInBounds_toArray, List.set_cons_zero, List.set_cons_succ, i64_w, i32_w]
         rfl
       refine pure_ (i := 11) (N := some 27) (v := undef) (a' := ?_) #[true, true, true, true, true, true, true, true, true, true, true, true, false, false, false] rfl rfl (any_of HT_.out (by kernel_rfl)) (fun _ _ _ h => h) (Or.inr ⟨by rfl, rfl⟩) ?_ ?_
       rotate_left
       · simp only [Act.put, List.setIfInBounds_toArray, List.set_cons_zero, List.set_cons_succ, i64_w, i32_w]
         rfl
       refine pure_ (i := 12) (N := some 28) (v := undef) (a' := ?_) #[true, true, true, true, true, true, true, true, true, true, true, true, true, false, false] rfl rfl (any_of HT_.out (by kernel_rfl)) (fun _ _ _ h => h) (Or.inr ⟨by rfl, rfl⟩) ?_ ?_
       rotate_left
       · simp only [Act.put, List.setIfInBounds_toArray, List.set_cons_zero, List.set_cons_succ, i64_w, i32_w]
         rfl
       refine pure_ (i := 13) (N := some 29) (v := undef) (a' := ?_) #[true, true, true, true, true, true, true, true, true, true, true, true, true, true, false] rfl rfl (any_of HT_.out (by kernel_rfl)) (fun _ _ _ h => h) (Or.inr ⟨by rfl, rfl⟩) ?_ ?_
       rotate_left
       · simp only [Act.put, List.setIfInBounds_toArray, List.set_cons_zero, List.set_cons_succ, i64_w, i32_w]
         rfl
       refine pure_ (i := 14) (N := some 30) (v := ?_) (a' := ?_) #[true, true, true, true, true, true, true, true, true, true, true, true, true, true, true] rfl rfl (any_of HT_.out (by kernel_rfl)) (fun _ _ _ h => h) (Or.inl ⟨by rfl, ?_⟩) ?_ ?_
       rotate_left
       · intro w'
         go_simp
         with_reducible rfl
       rotate_left
       · simp only [Act.put, List.setIfInBounds_toArray, List.set_cons_zero, List.set_cons_succ, i64_w, i32_w]
         rfl
       refine done_ (done_of HT_.out (by kernel_rfl)) ?_
       try go_wp2
       go_roundg k2
       case measure => have := HK1.out; have := HK2.out; omega
       case rel => exact ⟨(x0_2), (wrap64 (x6_1 + 1)), (by first | rfl | (simp; done) | (simp [*]; done)), H', ⟨by have := HK1.out; have := HK2.out; omega⟩, ⟨by (with_reducible repeat (first | apply MR_alloc | apply MR_drewN | apply MR_drew)); exact HO_0.out⟩, ⟨by repeat (first | (with_reducible first | exact HK.out | apply Kept.alloc | apply Kept.drewN | apply Kept.drew) | exact HK.out)⟩, ⟨by repeat (first | (with_reducible first | exact HB.out | apply below_alloc | apply pw_below_drewN | apply below_drew1) | exact HB.out)⟩⟩
   rw [if_neg c4] at H
   have c4b0 : decide (x6_1 < a2) = false := decide_eq_false c4
   clear c4
   obtain rfl := Option.some.inj H
   go_wp2
   first | go_end0 | ((try simp only [Exit.inBlock, Exit.then]); refine bodyPost_ret (results_none rfl _ _ _) rfl ?_)
   exact ⟨by first | rfl | (simp [errW_none, errW_some] <;> rfl) | (simp [*, errW_none, errW_some] <;> rfl), by (with_reducible repeat (first | apply MR_alloc | apply MR_drewN | apply MR_drew)); exact HO_0.out, by repeat (first | (with_reducible first | exact HB.out | apply below_alloc | apply pw_below_drewN | apply below_drew1) | exact HB.out), by repeat (first | (with_reducible first | exact HK.out | apply Kept.alloc | apply Kept.drewN | apply Kept.drew) | exact HK.out)⟩

mutual
def gd_cmp.l0 : Nat → List Int → Int → Option (List Int)
 | 0, _, _ => none
 | k + 1, x0, x3 => if x3 < (x0.length : Int) then (if 0 ≤ x3 then (if 0 ≤ (wrap64 (x3 - 1)) then (if (wrap64 (x3 - 1)) < (x0.length : Int) then (if (rd x0 x3) = (rd x0 (wrap64 (x3 - 1))) then (if x3 ≤ (x0.length : Int) then (gd_cmp.l1 k x0 x3 x3 1) else (none)) else (gd_cmp.l0 k x0 (wrap64 (x3 + 1)))) else (none)) else (none)) else (none)) else (some x0)
def gd_cmp.l1 : Nat → List Int → Int → Int → Int → Option (List Int)
 | 0, _, _, _, _ => none
 | k + 1, x0, x3, x4, x5 => if x5 < ((x0.drop x4.toNat).length : Int) then (if 0 ≤ x5 then (if 0 ≤ (wrap64 (x5 - 1)) then (if (wrap64 (x5 - 1)) < ((x0.drop x4.toNat).length : Int) then (if (rd (x0.drop x4.toNat) x5) = (rd (x0.drop x4.toNat) (wrap64 (x5 - 1))) then (gd_cmp.l1 k x0 x3 x4 (wrap64 (x5 + 1))) else (if 0 ≤ x3 then (if x3 < (x0.length : Int) then (gd_cmp.l1 k (x0.set (x3 : Int).toNat (rd (x0.drop x4.toNat) x5)) (wrap64 (x3 + 1)) x4 (wrap64 (x5 + 1))) else (none)) else (none))) else (none)) else (none)) else (none)) else (if 0 ≤ x3 then (if x3 < (x0.length : Int) then (some (x0.take (x3 : Int).toNat)) else (none)) else (none))
end
def gd_cmp.f (k : Nat) (l0 : List Int) : Option (List Int) := if (l0.length : Int) < 2 then (some l0) else (gd_cmp.l0 k l0 1)
theorem gd_cmp.mono_l : ∀ k, (∀ y0 y1, LeO (gd_cmp.l0 k y0 y1) (gd_cmp.l0 (k + 1) y0 y1)) ∧ (∀ y0 y1 y2 y3, LeO (gd_cmp.l1 k y0 y1 y2 y3) (gd_cmp.l1 (k + 1) y0 y1 y2 y3))
 | 0 => ⟨fun _ _ r h => by simp [gd_cmp.l0] at h, fun _ _ _ _ r h => by simp [gd_cmp.l1] at h⟩
 | k + 1 => by
  obtain ⟨ih0, ih1⟩ := gd_cmp.mono_l k
  refine ⟨?_, ?_⟩
  · intro y0 y1
    unfold gd_cmp.l0
    repeat' first
    | (with_reducible exact ih0 _ _)
    | (with_reducible exact ih1 _ _ _ _)
    | (with_reducible exact LeO.refl _)
    | (with_reducible exact LeO.none _)
    | (with_reducible refine LeO.ite ?_ ?_)
    | (with_reducible refine LeO.bind ?_ (fun _ => ?_))
    | exact ih0 _ _
    | exact ih1 _ _ _ _
    | exact LeO.none _
    | refine LeO.ite ?_ ?_
    | refine LeO.bind ?_ (fun _ => ?_)
  intro y0 y1 y2 y3
  unfold gd_cmp.l1
  repeat' first
  | (with_reducible exact ih0 _ _)
  | (with_reducible exact ih1 _ _ _ _)
  | (with_reducible exact LeO.refl _)
  | (with_reducible exact LeO.none _)
  | (with_reducible refine LeO.ite ?_ ?_)
  | (with_reducible refine LeO.bind ?_ (fun _ => ?_))
  | exact ih0 _ _
  | exact ih1 _ _ _ _
  | exact LeO.none _
  | refine LeO.ite ?_ ?_
  | refine LeO.bind ?_ (fun _ => ?_)
theorem gd_cmp.mono : ∀ a0 k, LeO (gd_cmp.f k a0) (gd_cmp.f (k + 1) a0) := by
 intro a0 k
 obtain ⟨ih0, ih1⟩ := gd_cmp.mono_l k
 unfold gd_cmp.f
 repeat' first
  | (with_reducible exact ih0 _ _)
  | (with_reducible exact ih1 _ _ _ _)
  | (with_reducible exact LeO.refl _)
  | (with_reducible exact LeO.none _)
  | (with_reducible refine LeO.ite ?_ ?_)
  | (with_reducible refine LeO.bind ?_ (fun _ => ?_))
  | exact ih0 _ _
  | exact ih1 _ _ _ _
  | exact LeO.none _
  | refine LeO.ite ?_ ?_
  | refine LeO.bind ?_ (fun _ => ?_)
set_option maxHeartbeats 8000000 in
set_option maxRecDepth 100000 in
theorem gd_cmp.calls (k : Nat) (P0_ : Nat → Prop) (u9000_ : Value) (l0 : List Int) (r : List Int) (w0 w : World) (hB : Below w0.heap.size w0 w) (ho0 : MR 5 w w0.heap.size P0_ u9000_ l0) (h : gd_cmp.f k l0 = some r) :
 Calls Tryd.prog 190 #[u9000_] w fun e w' => ∃ v0_ : Value, e = .returned (v0_) ∧ MR 5 w' w0.heap.size (fun k_ => (P0_ k_ ∨ w.heap.size ≤ k_)) v0_ r ∧ Below w0.heap.size w0 w' ∧ Kept w w' (fun k_ => P0_ k_) := by
 have HO0 := Aside0.mk (show MR 5 w w0.heap.size (fun k_ => (P0_ k_ ∨ w.heap.size ≤ k_)) u9000_ l0 from MR_mono ho0 (fun k_ hk => (.inl hk)))
 have HK := Aside0.mk (Kept.refl w (fun k_ => P0_ k_))
 have HW0 := Aside0.mk hB.size
 have HB := Aside0.mk hB
 clear hB
 have H : (if (l0.length : Int) < 2 then (some l0) else (gd_cmp.l0 k l0 1)) = some r := h
 clear h
 by_cases c2 : (l0.length : Int) < 2
 · rw [if_pos c2] at H
   have c2b0 : decide ((l0.length : Int) < 2) = true := decide_eq_true c2
   have c2b1 : decide (l0.length < 2) = true := decide_eq_true (by omega)
   clear c2
   obtain rfl := Option.some.inj H
   obtain ⟨Ao3, co3, eo3⟩ := MR_slice HO0.out
   subst eo3
   go_enter Tryd.func190, Tryd.ntmps190
   go_wp2
   repeat (go_quiet (fail); try go_wp2)
   go_ret
   exact ⟨_, by first | rfl | (simp [errW_none, errW_some] <;> rfl) | (simp [*, errW_none, errW_some] <;> rfl), by (with_reducible repeat (first | apply MR_alloc | apply MR_drewN | apply MR_drew)); exact HO0.out, by repeat (first | (with_reducible first | exact HB.out | apply below_alloc | apply pw_below_drewN | apply below_drew1) | exact HB.out), by repeat (first | (with_reducible first | exact HK.out | apply Kept.alloc | apply Kept.drewN | apply Kept.drew) | exact HK.out)⟩
 rw [if_neg c2] at H
 have c2b0 : decide ((l0.length : Int) < 2) = false := decide_eq_false c2
 have c2b1 : decide (l0.length < 2) = false := decide_eq_false (by omega)
 clear c2
 have H' := Aside0.mk H
 clear H
 obtain ⟨go4, co4, eo4, gb4, gl4, cl4, HG4⟩ := MR_form HO0.out (by have := of_decide_eq_false c2b1; omega)
 have GB4 := Aside0.mk gb4
 clear gb4 gl4 HG4
 subst eo4
 go_enter Tryd.func190, Tryd.ntmps190
 go_wp2
 repeat (go_quiet (fail); try go_wp2)
 go_loopg [3] k (fun kq v3 w' => ∃ (x0_1 : List Int) (x3_1 : Int), v3 = .int .i64 x3_1 ∧ Aside0 (gd_cmp.l0 kq x0_1 x3_1 = some r) ∧ Aside0 (kq ≤ k) ∧ Aside0 (MR 5 w' w0.heap.size (fun k_ => (P0_ k_ ∨ w.heap.size ≤ k_)) (.slice (some ⟨go4, 0, none⟩) l0.length co4) x0_1) ∧ Aside0 (Kept w w' (fun k_ => P0_ k_)) ∧ Aside0 (Below w0.heap.size w0 w'))
 case atStart => exact ⟨(l0), (1), zdb1_, H', ⟨Nat.le_refl _⟩, ⟨by (with_reducible repeat (first | apply MR_alloc | apply MR_drewN | apply MR_drew)); exact HO0.out⟩, ⟨by repeat (first | (with_reducible first | exact HK.out | apply Kept.alloc | apply Kept.drewN | apply Kept.drew) | exact HK.out)⟩, ⟨by repeat (first | (with_reducible first | exact HB.out | apply below_alloc | apply pw_below_drewN | apply below_drew1) | exact HB.out)⟩⟩
 case round =>
  clear H'
  (try clear c1);(try clear c2);(try clear c2b0);(try clear c2b1);(try clear p2)
  obtain ⟨x0_1, x3_1, rfl, HA, HK1, HO_0, HK, HB⟩ := hrel
  have hl0_1 := (MR_reads' HO_0.out).1
  rw [hl0_1] at HO_0
  (try simp only [hl0_1])
  cases gk with
  | zero => exact absurd HA.out (by simp [gd_cmp.l0])
  | succ k1 =>
   have H := HA.out
   clear HA
   simp only [gd_cmp.l0] at H
   by_cases c5 : x3_1 < (x0_1.length : Int)
   · rw [if_pos c5] at H
     have c5b0 : decide (x3_1 < (x0_1.length : Int)) = true := decide_eq_true c5
     clear c5
     by_cases c6 : 0 ≤ x3_1
     rotate_left
     · exact none_ (if_neg c6) H
     rw [if_pos c6] at H
     have c6b0 : decide (0 ≤ x3_1) = true := decide_eq_true c6
     clear c6
     obtain ⟨ji7, hji7⟩ : ∃ j_ : Int, (wrap64 (x3_1 - 1)) = j_ := ⟨_, rfl⟩
     replace H : (if 0 ≤ (ji7) then (if (ji7) < (x0_1.length : Int) then (if (rd x0_1 x3_1) = (rd x0_1 (ji7)) then (if x3_1 ≤ (x0_1.length : Int) then (gd_cmp.l1 k1 x0_1 x3_1 x3_1 1) else (none)) else (gd_cmp.l0 k1 x0_1 (wrap64 (x3_1 + 1)))) else (none)) else (none)) = some r := by first | (rw [hji7] at H; exact H) | (simp only [hji7] at H ⊢; exact H)
     have hji7w : (IntKind.i64.wrap (x3_1 - 1)) = ji7 := (i64_w _).trans hji7
     by_cases c8 : 0 ≤ (ji7)
     rotate_left
     · exact none_ (if_neg c8) H
     rw [if_pos c8] at H
     have c8b0 : decide (0 ≤ (ji7)) = true := decide_eq_true c8
     clear c8
     by_cases c9 : (ji7) < (x0_1.length : Int)
     rotate_left
     · exact none_ (if_neg c9) H
     rw [if_pos c9] at H
     have c9b0 : decide ((ji7) < (x0_1.length : Int)) = true := decide_eq_true c9
     clear c9
     by_cases c10 : (rd x0_1 x3_1) = (rd x0_1 (ji7))
     · rw [if_pos c10] at H
       have c10b0 : ((rd x0_1 x3_1) == (rd x0_1 (ji7))) = true := beq_iff_eq.mpr c10
       have c10b1 : ((rd x0_1 x3_1) != (rd x0_1 (ji7))) = false := bne_eq_false_iff_eq.mpr c10
       clear c10
       have c11b0 := eq_true (of_decide_eq_true zdb0_ : 0 ≤ x3_1)
       by_cases c12 : x3_1 ≤ (x0_1.length : Int)
       rotate_left
       · exact none_ (if_neg c12) H
       rw [if_pos c12] at H
       have c12b0 := eq_true c12
       have c12b1 : decide (x3_1 ≤ (x0_1.length : Int)) = true := decide_eq_true c12
       clear c12
       obtain ⟨y267, hy267⟩ : ∃ y_ : List Int, y_ = (x0_1.drop (x3_1 : Int).toNat) := ⟨_, rfl⟩
       replace H : (gd_cmp.l1 k1 x0_1 x3_1 x3_1 1) = some r := by first | (rw [hy267]; with_reducible exact H) | (have H2_ := (Option.bind_some _ _).symm.trans H; rw [hy267]; with_reducible exact H2_) | (have H2_ := (Option.bind_some _ _).symm.trans H; with_reducible exact H2_) | with_reducible exact H | (rw [hy267]; exact H) | exact H
       have Ny267 := Aside0.mk hy267
       clear hy267
       have H' := Aside0.mk H
       clear H
       have p265 : 0 ≤ (x3_1 : Int) := of_decide_eq_true zdb0_
       have q265 : x3_1 < (x0_1.length : Int) := of_decide_eq_true zdb0_
       obtain ⟨ad265, e265, hx265_0⟩ := Kd.at_int (MR_reads' HO_0.out).2.2 x3_1 p265 q265
       cases e265
       replace p265 := eq_true p265
       replace q265 := eq_true q265
       have p266 : 0 ≤ ((ji7) : Int) := of_decide_eq_true zdb0_
       have q266 : (ji7) < (x0_1.length : Int) := of_decide_eq_true zdb0_
       obtain ⟨ad266, e266, hx266_0⟩ := Kd.at_int (MR_reads' HO_0.out).2.2 (ji7) p266 q266
       cases e266; simp only [add_plain] at hx265_0 hx266_0
       replace p266 := eq_true p266
       replace q266 := eq_true q266
       have q13 : (x3_1 : Int) ≤ ((x0_1.length : Int) : Int) := of_decide_eq_true zdb0_
       obtain ⟨i013, hi013, _, hsz13, _⟩ := info_parts info5
       have hroom13 : x0_1.length ≤ co4 := (MR_reads' HO_0.out).2.1
       have hC13 : Kd.C (Kd.int .u8) _ (some ⟨go4, 0, none⟩) x0_1.length x0_1 := (MR_reads' HO_0.out).2.2
       have q013 : (0 : Int) ≤ (x3_1 : Int) := of_decide_eq_true zdb0_
       have hcut13 := cut_from (P := Tryd.prog) 50 5 .i64 Tryd.underlying50 hi013 1 hsz13 (some ⟨go4, 0, none⟩) x0_1.length co4 x3_1 q013 q13
       have hr13 := Kd.C_drop (m := (x3_1 : Int).toNat) (c := co4) hC13 (by omega) hroom13
       obtain ⟨A13, hA13⟩ : ∃ A1, A1 = (if co4 = (x3_1 : Int).toNat then (some ⟨go4, 0, none⟩) else ((some ⟨go4, 0, none⟩) : Option Addr).map (·.add ((x3_1 : Int).toNat * 1))) := ⟨_, rfl⟩
       obtain ⟨c13, hc13⟩ : ∃ c1, c1 = co4 - (x3_1 : Int).toNat := ⟨_, rfl⟩
       have hy13 : y267.length = x0_1.length - (x3_1 : Int).toNat := (by rw [Ny267.out, List.length_drop] <;> omega)
       rw [show (x0_1).drop (x3_1 : Int).toNat = y267 from Ny267.out.symm] at hr13
       replace hr13 : Kd.C (Kd.int .u8) _ A13 y267.length y267 := (by rw [hA13]; exact hr13)
       rw [← hy13, ← hA13, ← hc13] at hcut13
       have HR270 := Aside0.mk hr13
       have HC270 := Aside0.mk (show y267.length ≤ c13 from by rw [hy13, hc13]; exact Nat.sub_le_sub_right hroom13 _)
       clear hr13 hC13 hroom13 hi013 hsz13 hc13
       have KY13 := Aside0.mk hy13
       have KA13 := Aside0.mk hA13
       clear hy13 hA13
       have KL13 := Aside0.mk (show (x3_1 : Int).toNat ≤ x0_1.length from by omega)
       replace q13 := eq_true q13
       go_wp2
       repeat (go_quiet (fail); try go_wp2)
       go_loopg [3, 5] k1 (fun kq v3 v5 w' => ∃ (x0_2 : List Int) (x3_2 : Int) (x5_2 : Int), v3 = .int .i64 x3_2 ∧ v5 = .int .i64 x5_2 ∧ Aside0 (gd_cmp.l1 kq x0_2 x3_2 x3_1 x5_2 = some r) ∧ Aside0 (kq ≤ k1) ∧ Aside0 (MR 5 w' w0.heap.size (fun k_ => (P0_ k_ ∨ w.heap.size ≤ k_)) (.slice (some ⟨go4, 0, none⟩) x0_1.length co4) x0_2) ∧ Aside0 (Kept w w' (fun k_ => P0_ k_)) ∧ Aside0 (Below w0.heap.size w0 w'))
       case atStart => exact ⟨(x0_1), (x3_1), (1), zdb1_, zdb1_, H', ⟨Nat.le_refl _⟩, ⟨by (try simp only [hl0_1]); (with_reducible repeat (first | apply MR_alloc | apply MR_drewN | apply MR_drew)); exact HO_0.out⟩, ⟨by repeat (first | (with_reducible first | exact HK.out | apply Kept.alloc | apply Kept.drewN | apply Kept.drew) | exact HK.out)⟩, ⟨by repeat (first | (with_reducible first | exact HB.out | apply below_alloc | apply pw_below_drewN | apply below_drew1) | exact HB.out)⟩⟩
       case round =>
        clear H'
        (try clear c1);(try clear q1);(try clear c2);(try clear c2b0);(try clear c2b1);(try clear p2);(try clear q2);(try clear hx2);(try clear c5);(try clear c5b0);(try clear c6);(try clear c6b0);(try clear p6);(try clear c8);(try clear c8b0);(try clear c9);(try clear c9b0);(try clear c10);(try clear c10b0);(try clear c10b1);(try clear c11);(try clear c11b0);(try clear c12);(try clear c12b0);(try clear c12b1);(try clear c13);(try clear q13);(try clear hx265_0);(try clear hx266_0);(try clear p2);(try clear p265);(try clear p266);(try clear q013);(try clear q13);(try clear q265);(try clear q266)
        obtain ⟨x0_2, x3_2, x5_2, rfl, rfl, HA, HK2, HO_0, HK, HB⟩ := hrel
        have hl0_2 := (MR_reads' HO_0.out).1
        rw [hl0_2] at HO_0
        (try simp only [hl0_2])
        cases gk with
        | zero => exact absurd HA.out (by simp [gd_cmp.l1])
        | succ k2 =>
         have H := HA.out
         clear HA
         simp only [gd_cmp.l1] at H
         obtain ⟨z267, hz267⟩ : ∃ z_ : List Int, z_ = x0_2.drop x3_1.toNat := ⟨_, rfl⟩
         rw [← hz267] at H
         have hle267 : x3_1.toNat ≤ x0_2.length := by have := KL13.out; omega
         have hzl : z267.length = y267.length := by rw [hz267, List.length_drop, KY13.out, hl0_2]
         simp only [hzl] at H
         have HRz : Aside0 (Kd.C (Kd.int .u8) _ A13 y267.length z267) := ⟨by have hC := (MR_reads' HO_0.out).2.2; have hr := Kd.C_drop (m := x3_1.toNat) (c := co4) hC hle267 (MR_reads' HO_0.out).2.1; rw [← hz267, hzl] at hr; rw [KA13.out]; exact hr⟩
         clear hz267 hle267
         by_cases c14 : x5_2 < (y267.length : Int)
         · rw [if_pos c14] at H
           have c14b0 : decide (x5_2 < (y267.length : Int)) = true := decide_eq_true c14
           clear c14
           by_cases c15 : 0 ≤ x5_2
           rotate_left
           · exact none_ (if_neg c15) H
           rw [if_pos c15] at H
           have c15b0 : decide (0 ≤ x5_2) = true := decide_eq_true c15
           clear c15
           obtain ⟨ji16, hji16⟩ : ∃ j_ : Int, (wrap64 (x5_2 - 1)) = j_ := ⟨_, rfl⟩
           replace H : (if 0 ≤ (ji16) then (if (ji16) < (y267.length : Int) then (if (rd z267 x5_2) = (rd z267 (ji16)) then (gd_cmp.l1 k2 x0_2 x3_2 x3_1 (wrap64 (x5_2 + 1))) else (if 0 ≤ x3_2 then (if x3_2 < (x0_2.length : Int) then (gd_cmp.l1 k2 (x0_2.set (x3_2 : Int).toNat (rd z267 x5_2)) (wrap64 (x3_2 + 1)) x3_1 (wrap64 (x5_2 + 1))) else (none)) else (none))) else (none)) else (none)) = some r := by first | (rw [hji16] at H; exact H) | (simp only [hji16] at H ⊢; exact H)
           have hji16w : (IntKind.i64.wrap (x5_2 - 1)) = ji16 := (i64_w _).trans hji16
           by_cases c17 : 0 ≤ (ji16)
           rotate_left
           · exact none_ (if_neg c17) H
           rw [if_pos c17] at H
           have c17b0 : decide (0 ≤ (ji16)) = true := decide_eq_true c17
           clear c17
           by_cases c18 : (ji16) < (y267.length : Int)
           rotate_left
           · exact none_ (if_neg c18) H
           rw [if_pos c18] at H
           have c18b0 : decide ((ji16) < (y267.length : Int)) = true := decide_eq_true c18
           clear c18
           by_cases c19 : (rd z267 x5_2) = (rd z267 (ji16))
           · rw [if_pos c19] at H
             have c19b0 : ((rd z267 x5_2) == (rd z267 (ji16))) = true := beq_iff_eq.mpr c19
             have c19b1 : ((rd z267 x5_2) != (rd z267 (ji16))) = false := bne_eq_false_iff_eq.mpr c19
             clear c19
             have H' := Aside0.mk H
             clear H
             have p271 : 0 ≤ (x5_2 : Int) := of_decide_eq_true zdb0_
             have q271 : x5_2 < (y267.length : Int) := of_decide_eq_true zdb0_
             obtain ⟨ad271, e271, hx271_0⟩ := Kd.at_int HRz.out x5_2 p271 q271
             cases e271
             replace p271 := eq_true p271
             replace q271 := eq_true q271
             have p272 : 0 ≤ ((ji16) : Int) := of_decide_eq_true zdb0_
             have q272 : (ji16) < (y267.length : Int) := of_decide_eq_true zdb0_
             obtain ⟨ad272, e272, hx272_0⟩ := Kd.at_int HRz.out (ji16) p272 q272
             obtain rfl : ad271 = ad272 := (by injection e272)
             replace p272 := eq_true p272
             replace q272 := eq_true q272
             go_wp2
             repeat (go_quiet (fail); try go_wp2)
             (try simp only [← hl0_2])
             go_roundg k2
             case measure => have := HK1.out; have := HK2.out; omega
             case rel => exact ⟨(x0_2), (x3_2), (wrap64 (x5_2 + 1)), zdb1_, zdb1_, H', ⟨by have := HK1.out; have := HK2.out; omega⟩, ⟨by (try simp only [hl0_1]); (try simp only [hl0_2]); (with_reducible repeat (first | apply MR_alloc | apply MR_drewN | apply MR_drew)); exact HO_0.out⟩, ⟨by repeat (first | (with_reducible first | exact HK.out | apply Kept.alloc | apply Kept.drewN | apply Kept.drew) | exact HK.out)⟩, ⟨by repeat (first | (with_reducible first | exact HB.out | apply below_alloc | apply pw_below_drewN | apply below_drew1) | exact HB.out)⟩⟩
           rw [if_neg c19] at H
           have c19b0 : ((rd z267 x5_2) == (rd z267 (ji16))) = false := beq_eq_false_iff_ne.mpr c19
           have c19b1 : ((rd z267 x5_2) != (rd z267 (ji16))) = true := bne_iff_ne.mpr c19
           by_cases c20 : 0 ≤ x3_2
           rotate_left
           · exact none_ (if_neg c20) H
           rw [if_pos c20] at H
           have c20b0 : decide (0 ≤ x3_2) = true := decide_eq_true c20
           clear c20
           by_cases c21 : x3_2 < (x0_2.length : Int)
           rotate_left
           · exact none_ (if_neg c21) H
           rw [if_pos c21] at H
           have c21b0 : decide (x3_2 < (x0_2.length : Int)) = true := decide_eq_true c21
           clear c21
           obtain ⟨y274, hy274⟩ : ∃ y_ : List Int, y_ = (x0_2.set (x3_2 : Int).toNat (rd z267 x5_2)) := ⟨_, rfl⟩
           replace H : (gd_cmp.l1 k2 y274 (wrap64 (x3_2 + 1)) x3_1 (wrap64 (x5_2 + 1))) = some r := by first | (rw [hy274]; with_reducible exact H) | (have H2_ := (Option.bind_some _ _).symm.trans H; rw [hy274]; with_reducible exact H2_) | (have H2_ := (Option.bind_some _ _).symm.trans H; with_reducible exact H2_) | with_reducible exact H | (rw [hy274]; exact H) | exact H
           have Ny274 := Aside0.mk hy274
           clear hy274
           have H' := Aside0.mk H
           clear H
           have p271 : 0 ≤ (x5_2 : Int) := of_decide_eq_true zdb0_
           have q271 : x5_2 < (y267.length : Int) := of_decide_eq_true zdb0_
           obtain ⟨ad271, e271, hx271_0⟩ := Kd.at_int HRz.out x5_2 p271 q271
           cases e271
           replace p271 := eq_true p271
           replace q271 := eq_true q271
           have p272 : 0 ≤ ((ji16) : Int) := of_decide_eq_true zdb0_
           have q272 : (ji16) < (y267.length : Int) := of_decide_eq_true zdb0_
           obtain ⟨ad272, e272, hx272_0⟩ := Kd.at_int HRz.out (ji16) p272 q272
           obtain rfl : ad271 = ad272 := (by injection e272)
           replace p272 := eq_true p272
           replace q272 := eq_true q272
           have p273 : 0 ≤ (x5_2 : Int) := of_decide_eq_true zdb0_
           have q273 : x5_2 < (y267.length : Int) := of_decide_eq_true zdb0_
           obtain ⟨ad273, e273, hx273_0⟩ := Kd.at_int HRz.out x5_2 p273 q273
           obtain rfl : ad271 = ad273 := (by injection e273)
           replace p273 := eq_true p273
           replace q273 := eq_true q273
           have p22 : 0 ≤ (x3_2 : Int) := of_decide_eq_true zdb0_
           have q22 : (x3_2 : Int) < ((x0_2.length : Int) : Int) := of_decide_eq_true zdb0_
           have HMgo4 := Aside0.mk (show (P0_ go4 ∨ w.heap.size ≤ go4) from (HO_0.out.1 _ rfl))
           (first | simp only [add_plain] at hx265_0 | skip)
           (first | simp only [add_plain] at hx266_0 | skip)
           obtain ⟨hx22_0, hf22_0⟩ := MR_celln 0 HO_0.out (x3_2 : Int) p22 q22
           replace p22 := eq_true p22
           replace q22 := eq_true q22
           go_wp2
           repeat (go_quiet (fail); try go_wp2)
           (try simp only [← hl0_2])
           go_roundg k2
           case measure => have := HK1.out; have := HK2.out; omega
           case rel => exact ⟨(y274), (wrap64 (x3_2 + 1)), (wrap64 (x5_2 + 1)), zdb1_, zdb1_, H', ⟨by have := HK1.out; have := HK2.out; omega⟩, ⟨by (try simp only [hl0_1]); (try simp only [hl0_2]); rw [Ny274.out]; exact (MR_putg (MR_drewN HO_0.out _) _ _).1⟩, ⟨Kept.of_grown (S := (fun k_ => P0_ k_)) (MR_putg (MR_drewN HO_0.out _) (x3_2 : Int) (rd z267 x5_2)).2 (Kept.drewN HK.out _) (fun k_ e_ => (HO_0.out.1 k_ e_))⟩, ⟨below_set (pw_below_drewN HB.out _) GB4.out⟩⟩
         rw [if_neg c14] at H
         have c14b0 : decide (x5_2 < (y267.length : Int)) = false := decide_eq_false c14
         clear c14
         by_cases c25 : 0 ≤ x3_2
         rotate_left
         · exact none_ (if_neg c25) H
         rw [if_pos c25] at H
         have c25b0 := eq_true c25
         have c25b1 : decide (0 ≤ x3_2) = true := decide_eq_true c25
         clear c25
         by_cases c26 : x3_2 < (x0_2.length : Int)
         rotate_left
         · exact none_ (if_neg c26) H
         rw [if_pos c26] at H
         have c26c := c26
         have c26b1 : decide (x3_2 ≤ (x0_2.length : Int)) = true := decide_eq_true (Int.le_of_lt c26)
         clear c26
         obtain ⟨y275, hy275⟩ : ∃ y_ : List Int, y_ = (x0_2.drop (x3_2 : Int).toNat) := ⟨_, rfl⟩
         replace H : (some (x0_2.take (x3_2 : Int).toNat)) = some r := by first | (rw [hy275]; with_reducible exact H) | (have H2_ := (Option.bind_some _ _).symm.trans H; rw [hy275]; with_reducible exact H2_) | (have H2_ := (Option.bind_some _ _).symm.trans H; with_reducible exact H2_) | with_reducible exact H | (rw [hy275]; exact H) | exact H
         have Ny275 := Aside0.mk hy275
         clear hy275
         have c27b0 := eq_true (Int.le_of_lt c26c : x3_2 ≤ (x0_2.length : Int))
         obtain ⟨y279, hy279⟩ : ∃ y_ : List Int, y_ = (x0_2.take (x3_2 : Int).toNat) := ⟨_, rfl⟩
         replace H : (some y279) = some r := by first | (rw [hy279]; with_reducible exact H) | (have H2_ := (Option.bind_some _ _).symm.trans H; rw [hy279]; with_reducible exact H2_) | (have H2_ := (Option.bind_some _ _).symm.trans H; with_reducible exact H2_) | with_reducible exact H | (rw [hy279]; exact H) | exact H
         have Ny279 := Aside0.mk hy279
         clear hy279
         obtain rfl := Option.some.inj H
         have q28 : (x3_2 : Int) ≤ ((x0_2.length : Int) : Int) := of_decide_eq_true zdb0_
         obtain ⟨i028, hi028, _, hsz28, _⟩ := info_parts info5
         have hroom28 : x0_2.length ≤ co4 := (MR_reads' HO_0.out).2.1
         have hC28 : Kd.C (Kd.int .u8) _ (some ⟨go4, 0, none⟩) x0_2.length x0_2 := (MR_reads' HO_0.out).2.2
         have q028 : (0 : Int) ≤ (x3_2 : Int) := of_decide_eq_true zdb0_
         have hcut28 := cut_from (P := Tryd.prog) 50 5 .i64 Tryd.underlying50 hi028 1 hsz28 (some ⟨go4, 0, none⟩) x0_2.length co4 x3_2 q028 q28
         have hr28 := Kd.C_drop (m := (x3_2 : Int).toNat) (c := co4) hC28 (by omega) hroom28
         obtain ⟨A28, hA28⟩ : ∃ A1, A1 = (if co4 = (x3_2 : Int).toNat then (some ⟨go4, 0, none⟩) else ((some ⟨go4, 0, none⟩) : Option Addr).map (·.add ((x3_2 : Int).toNat * 1))) := ⟨_, rfl⟩
         obtain ⟨c28, hc28⟩ : ∃ c1, c1 = co4 - (x3_2 : Int).toNat := ⟨_, rfl⟩
         have hy28 : y275.length = x0_2.length - (x3_2 : Int).toNat := (by rw [Ny275.out, List.length_drop] <;> omega)
         rw [show (x0_2).drop (x3_2 : Int).toNat = y275 from Ny275.out.symm] at hr28
         replace hr28 : Kd.C (Kd.int .u8) _ A28 y275.length y275 := (by rw [hA28]; exact hr28)
         rw [← hy28, ← hA28, ← hc28] at hcut28
         have HR278 := Aside0.mk hr28
         have HC278 := Aside0.mk (show y275.length ≤ c28 from by rw [hy28, hc28]; exact Nat.sub_le_sub_right hroom28 _)
         clear hr28 hC28 hroom28 hi028 hsz28 hc28
         have KY28 := Aside0.mk hy28
         have KA28 := Aside0.mk hA28
         clear hy28 hA28
         have KL28 := Aside0.mk (show (x3_2 : Int).toNat ≤ x0_2.length from by omega)
         replace q28 := eq_true q28
         have q29 : (x3_2 : Int) ≤ ((x0_2.length : Int) : Int) := of_decide_eq_true zdb0_
         obtain ⟨i029, hi029, _, hsz29, _⟩ := info_parts info5
         have hcut29 := cut_to (P := Tryd.prog) 50 5 .i64 Tryd.underlying50 hi029 (some ⟨go4, 0, none⟩) x0_2.length co4 x3_2 (of_decide_eq_true zdb0_) q29 (MR_reads' HO_0.out).2.1
         have hr29 := MR_take (m := (x3_2 : Int).toNat) HO_0.out (by omega)
         have hy29 : y279.length = (x3_2 : Int).toNat := (by rw [Ny279.out, List.length_take]; omega)
         rw [← Ny279.out] at hr29
         rw [← hy29] at hr29 hcut29
         have HCAP := Aside0.mk (MR_reads' HO_0.out).2.1
         clear hy29 hi029 hsz29 HO_0
         have HO281 := Aside0.mk hr29
         clear hr29
         replace q29 := eq_true q29
         have hroom30 : x0_2.length ≤ co4 := HCAP.out
         have hA30 : A28 = some ⟨go4, x3_2.toNat, none⟩ := by rw [KA28.out, if_neg (by omega)]; simp [add_plain]
         have hoff30 : x3_2.toNat = y279.length := by rw [Ny279.out, List.length_take]; omega
         have hfit30 : x3_2.toNat + y275.length ≤ co4 := by rw [KY28.out]; omega
         have hr30 := HO281.out
         rw [← hoff30] at hr30
         have HCLR := Aside0.mk (MR_clear (P := Tryd.prog) wr 50 5 0 (n := y275.length) (c := c28) Tryd.underlying50 (fun _ => by kernel_rfl) hr30 hfit30)
         have HZ30 := Aside0.mk (MR_zeros y275.length x3_2.toNat wr hr30 (Nat.le_refl _))
         have HO30 := Aside0.mk hoff30
         clear hfit30 hoff30 hroom30 hr30 HO281
         subst hA30
         go_wp2
         rw [HCLR.out]
         generalize wr.setCells go4 x3_2.toNat (List.replicate y275.length (.int .u8 0)) = w31 at HZ30 ⊢
         have n0_ := HZ30.out.1
         rw [HO30.out] at n0_
         have HO281 := Aside0.mk n0_
         have n1_ := Aside0.mk (Below.grown HB.out HZ30.out.2 (by have := HW0.out; have := HB.out.size; omega) (fun k_ e_ => by injection e_ with e_; subst e_; exact GB4.out))
         have n2_ := Aside0.mk (Kept.of_grown (S := (fun k_ => P0_ k_)) HZ30.out.2 HK.out (fun k_ e_ => (HO281.out.1 k_ e_)))
         clear HB HK HCLR HZ30
         have HB := n1_
         have HK := n2_
         clear n0_ n1_ n2_
         go_wp2
         go_ret
         exact ⟨_, by first | rfl | (simp [errW_none, errW_some] <;> rfl) | (simp only [← hji7]; first | rfl | (simp [errW_none, errW_some] <;> rfl)) | (simp [*, errW_none, errW_some] <;> rfl), by (with_reducible repeat (first | apply MR_alloc | apply MR_drewN | apply MR_drew)); exact HO281.out, by repeat (first | (with_reducible first | exact HB.out | apply below_alloc | apply pw_below_drewN | apply below_drew1) | exact HB.out), by repeat (first | (with_reducible first | exact HK.out | apply Kept.alloc | apply Kept.drewN | apply Kept.drew) | exact HK.out)⟩
     rw [if_neg c10] at H
     have c10b0 : ((rd x0_1 x3_1) == (rd x0_1 (ji7))) = false := beq_eq_false_iff_ne.mpr c10
     have c10b1 : ((rd x0_1 x3_1) != (rd x0_1 (ji7))) = true := bne_iff_ne.mpr c10
     have H' := Aside0.mk H
     clear H
     have p265 : 0 ≤ (x3_1 : Int) := of_decide_eq_true zdb0_
     have q265 : x3_1 < (x0_1.length : Int) := of_decide_eq_true zdb0_
     obtain ⟨ad265, e265, hx265_0⟩ := Kd.at_int (MR_reads' HO_0.out).2.2 x3_1 p265 q265
     cases e265
     replace p265 := eq_true p265
     replace q265 := eq_true q265
     have p266 : 0 ≤ ((ji7) : Int) := of_decide_eq_true zdb0_
     have q266 : (ji7) < (x0_1.length : Int) := of_decide_eq_true zdb0_
     obtain ⟨ad266, e266, hx266_0⟩ := Kd.at_int (MR_reads' HO_0.out).2.2 (ji7) p266 q266
     cases e266; simp only [add_plain] at hx265_0 hx266_0
     replace p266 := eq_true p266
     replace q266 := eq_true q266
     go_wp2
     repeat (go_quiet (fail); try go_wp2)
     (try simp only [← hl0_1])
     go_roundg k1
     case measure => have := HK1.out; omega
     case rel => exact ⟨(x0_1), (wrap64 (x3_1 + 1)), zdb1_, H', ⟨by have := HK1.out; omega⟩, ⟨by (try simp only [hl0_1]); (with_reducible repeat (first | apply MR_alloc | apply MR_drewN | apply MR_drew)); exact HO_0.out⟩, ⟨by repeat (first | (with_reducible first | exact HK.out | apply Kept.alloc | apply Kept.drewN | apply Kept.drew) | exact HK.out)⟩, ⟨by repeat (first | (with_reducible first | exact HB.out | apply below_alloc | apply pw_below_drewN | apply below_drew1) | exact HB.out)⟩⟩
   rw [if_neg c5] at H
   have c5b0 : decide (x3_1 < (x0_1.length : Int)) = false := decide_eq_false c5
   clear c5
   obtain rfl := Option.some.inj H
   go_wp2
   repeat (go_quiet (fail); try go_wp2)
   go_ret
   exact ⟨_, by first | rfl | (simp [errW_none, errW_some] <;> rfl) | (simp [*, errW_none, errW_some] <;> rfl), by (with_reducible repeat (first | apply MR_alloc | apply MR_drewN | apply MR_drew)); exact HO_0.out, by repeat (first | (with_reducible first | exact HB.out | apply below_alloc | apply pw_below_drewN | apply below_drew1) | exact HB.out), by repeat (first | (with_reducible first | exact HK.out | apply Kept.alloc | apply Kept.drewN | apply Kept.drew) | exact HK.out)⟩

-- DIFF
set_option maxHeartbeats 8000000 in
set_option maxRecDepth 100000 in
theorem gd_pdq (k : Nat) (P0_ : Nat → Prop) (A : Option Addr) (c : Nat) (l r : List Int) (lim : Int) (w0 w : World) (hB : Below w0.heap.size w0 w) (ho0 : MR 5 w w0.heap.size P0_ (.slice A l.length c) l) (hl : l.length ≤ 12) (h : gd_ins.f k l 0 (l.length : Int) = some r) :
 Calls Tryd.prog 147 #[.slice A l.length c, .int .i64 0, .int .i64 (l.length : Int), .int .i64 lim] w fun e w' => e = .returned (.tuple #[]) ∧ MR 5 w' w0.heap.size (fun k_ => (P0_ k_ ∨ w.heap.size ≤ k_)) (.slice A l.length c) r ∧ Below w0.heap.size w0 w' ∧ Kept w w' (fun k_ => P0_ k_) := by
 have HB := Aside0.mk hB
 have HO := Aside0.mk ho0
 have H := Aside0.mk h
 have c1 : decide ((l.length : Int) ≤ 12) = true := decide_eq_true (by omega)
 have c2 : decide (l.length ≤ 12) = true := decide_eq_true hl
 have hs : wrap64 ((l.length : Int) - 0) = (l.length : Int) := by simp [wrap64]; omega
 have hs' : IntKind.i64.wrap ((l.length : Int) - 0) = (l.length : Int) := by rw [i64_w]; exact hs
 have hs0 : wrap64 (l.length : Int) = (l.length : Int) := by simp [wrap64]; omega
 obtain ⟨n, hn⟩ : ∃ n : Int, n = (l.length : Int) := ⟨_, rfl⟩
 clear hB ho0 h
 rw [← hn] at H hs hs' hs0 c1 ⊢
 have HN := Aside0.mk hn
 clear hn
 go_enter Tryd.func147, Tryd.ntmps147
 go_wp2
 go_loopg [1, 2] 1 (fun kq v1 v2 w' => v1 = .int .i64 0 ∧ v2 = .int .i64 n ∧ Aside0 (w' = w))
 case atStart => exact ⟨rfl, rfl, ⟨rfl⟩⟩
 case round =>
  obtain ⟨rfl, rfl, HE⟩ := hrel
  obtain rfl := HE.out
  go_wp2_with (first | (go_at_call 176; (with_reducible refine (gd_ins.calls k P0_ _ l 0 n r w0 wr HB.out HO.out H.out).mono ?_); rintro e w1 ⟨rfl, ho, hb, hk⟩; have HO1 := Aside0.mk ho; have HB1 := Aside0.mk hb; have HK1 := Aside0.mk hk; clear ho hb hk))
  (first | go_end0 | ((try simp only [Exit.inBlock, Exit.then]); refine bodyPost_ret (results_none rfl _ _ _) rfl ?_))
  exact ⟨rfl, HO1.out, HB1.out, HK1.out⟩
set_option maxHeartbeats 8000000 in
set_option maxRecDepth 100000 in
theorem gd_len (n : Nat) (hn : n ≤ 12) (w : World) :
 Calls Tryd.prog 148 #[.int .u64 (n : Int)] w fun e w' => e = .returned (.int .i64 (Lib.bitLen n)) ∧ w' = w := by
 have HN := Aside0.mk hn
 clear hn
 go_enter Tryd.func148, Tryd.ntmps148
 go_wp2_with (first | (go_at_call 186; (with_reducible refine (Shelf.Len64 (n : Int) w (by omega) (by have := HN.out; omega)).mono ?_); rintro e w' ⟨rfl, rfl⟩))
 go_ret
 exact ⟨rfl, rfl⟩
set_option maxHeartbeats 8000000 in
set_option maxRecDepth 100000 in
theorem gd_sort (k : Nat) (P0_ : Nat → Prop) (A : Option Addr) (c : Nat) (l r : List Int) (w0 w : World) (hB : Below w0.heap.size w0 w) (ho0 : MR 5 w w0.heap.size P0_ (.slice A l.length c) l) (hl : l.length ≤ 12) (h : gd_ins.f k l 0 (l.length : Int) = some r) :
 Calls Tryd.prog 102 #[.slice A l.length c] w fun e w' => e = .returned (.tuple #[]) ∧ MR 5 w' w0.heap.size (fun k_ => (P0_ k_ ∨ w.heap.size ≤ k_)) (.slice A l.length c) r ∧ Below w0.heap.size w0 w' ∧ Kept w w' (fun k_ => P0_ k_) := by
 have HB := Aside0.mk hB
 have HO := Aside0.mk ho0
 have H := Aside0.mk h
 have HL := Aside0.mk hl
 have hcv : (l.length : Int) % 18446744073709551616 = (l.length : Int) := by omega
 clear hB ho0 h hl
 go_enter Tryd.func102, Tryd.ntmps102
 go_wp2_with (first | (go_at_call 148; (with_reducible refine (gd_len l.length HL.out _).mono ?_); rintro e w' ⟨rfl, rfl⟩) | (go_at_call 147; (with_reducible refine (gd_pdq k P0_ A c l r _ w0 _ HB.out HO.out HL.out H.out).mono ?_); rintro e w1 ⟨rfl, ho, hb, hk⟩; have HO1 := Aside0.mk ho; have HB1 := Aside0.mk hb; have HK1 := Aside0.mk hk; clear ho hb hk))
 (first | go_end0 | ((try simp only [Exit.inBlock, Exit.then]); refine bodyPost_ret (results_none rfl _ _ _) rfl ?_))
 exact ⟨rfl, HO1.out, HB1.out, HK1.out⟩

def impl_differs.f (k : Nat) (a0 : ByteArray) : Option Int := if a0.size ≤ 12 then (gd_ins.f k (bytesOf a0) 0 (a0.size : Int)).bind fun l => (gd_cmp.f k l).bind fun r => some (r.length : Int) else none
theorem impl_differs.mono : ∀ a0 k, LeO (impl_differs.f k a0) (impl_differs.f (k + 1) a0) := by
 intro a0 k
 unfold impl_differs.f
 refine LeO.ite ?_ (LeO.refl _)
 refine LeO.bind (gd_ins.mono _ _ _ _) (fun _ => ?_)
 exact LeO.bind (gd_cmp.mono _ _) (fun _ => LeO.refl _)
set_option maxHeartbeats 8000000 in
set_option maxRecDepth 100000 in
theorem impl_differs.calls (k : Nat) (a0 : ByteArray) (r : Int) (w : World) (h : impl_differs.f k a0 = some r) :
 Calls Tryd.prog 152 #[.string a0] w fun e w' => e = .returned (.int .i64 r) ∧ Below w.heap.size w w' := by
 unfold impl_differs.f at h
 by_cases c : a0.size ≤ 12
 rotate_left
 · exact none_ (if_neg c) h
 rw [if_pos c] at h
 obtain ⟨l, hl, h⟩ := Option.bind_eq_some_iff.mp h
 obtain ⟨x, hx, h⟩ := Option.bind_eq_some_iff.mp h
 obtain rfl := Option.some.inj h
 have hn : (bytesOf a0).length = a0.size := (bytes_reads w 5 a0 (by omega)).1
 have hg := grown_le w a0.size 5 (by omega)
 have hm := MR_conv w 5 a0 (by omega) w.heap.size (Nat.le_refl _) hg.2 hg.1
 rw [← hn] at hl hm
 have HB := Aside0.mk (bytes_below (Below.refl w.heap.size w) (Nat.le_refl _) 5 a0)
 have HI := Aside0.mk hl
 have HX := Aside0.mk hx
 have HL := Aside0.mk (show (bytesOf a0).length ≤ 12 by omega)
 have hcv := Lib.run_convert_string_bytes (P := Tryd.prog) w 9 50 5 a0 (u := .string) Tryd.underlying9 Tryd.underlying50 Tryd.underlying5
 rw [← hn] at hcv
 generalize Lib.bytesWorld w 5 a0 = w1 at hm HB hcv
 generalize grownCap w (bytesOf a0).length 0 5 = cap at hm hcv
 generalize bytesOf a0 = bs at hm HI HL hcv
 have HO := Aside0.mk hm
 clear hm hg hn hl hx c h
 go_enter Tryd.func152, Tryd.ntmps152
 go_wp2_with (first | (go_at_call 102; (with_reducible refine (gd_sort k _ _ cap bs l w w1 HB.out HO.out HL.out HI.out).mono ?_); rintro e w2 ⟨rfl, ho, hb, hk⟩; have hln := (MR_reads' ho).1; rw [hln] at ho ⊢; have HO1 := Aside0.mk ho; have HB1 := Aside0.mk hb; clear ho hb hk hln) | (go_at_call 190; (with_reducible refine (gd_cmp.calls k _ _ l x w w2 HB1.out HO1.out HX.out).mono ?_); rintro e w3 ⟨v, rfl, ho, hb, hk⟩; have HB2 := Aside0.mk hb; obtain ⟨A3, c3, rfl⟩ := MR_slice ho; clear ho hb hk))
 go_ret
 exact ⟨rfl, HB2.out⟩

end Go.Proofs.YtjhmocngcnnfdaaDoor.PFnExactMakePuzzle
