/- Rows of bytes that a conversion has made (their blocks bear the conversion's mark). No condition. -/
import Derived.Test.YtjnfaidngaobmaaGreatDoorFn
import Derived.Test.YtjnfaidngaobmaaGreatDoorProg
import Derived.Lib.ConvBytes
import Derived.Laws.BytesArg
import Derived.Sort.Grow
import Derived.KernelRfl
namespace Go.Proofs.YtjnfaidngaobmaaGreatDoor.Bytes
open Go.RowKit Go.Proofs.YtjnfaidngaobmaaGreatDoorW.PrintWords Go.Proofs.YtjnfaidngaobmaaGreatDoorW.PrintLast Go.Proofs.YtjnfaidngaobmaaGreatDoorW.PrintMore
set_option linter.unusedVariables false
/-- A row of bytes of the call's own that a conversion has made (its block bears the conversion's mark). -/
def MR (e : Nat) (w : World) (base : Nat) (ok : Nat → Prop) (v : Value) (xs : List Int) : Prop :=
  (∀ k, v.ownBlock = some k → ok k) ∧ ∃ g cap, ∃ cur : Array Value, v = .slice (some ⟨g, 0, none⟩) xs.length cap ∧ base ≤ g ∧ w.heap[g]? = some (.cells cur e (cur.size, cur.size + 1)) ∧ xs.length ≤ cap ∧ cap ≤ cur.size ∧ cap ≤ 9223372036854775807 ∧ ∀ j, j < xs.length → cur[j]? = some (.int .u8 (xs.getD j 0))
section
variable {e base n cap g m : Nat} {w w1 w' W : World} {ok ok' : Nat → Prop} {v : Value} {xs : List Int} {A : Option Addr}
theorem MR_mono (h : MR e w base ok v xs) (hok : ∀ k, ok k → ok' k) : MR e w base ok' v xs := ⟨fun k hk => hok k (h.1 k hk), h.2⟩
theorem MR_step (h : MR e w base ok v xs) (hm : ∀ k, ok k → k < w.heap.size → w1.heap[k]? = w.heap[k]?) : MR e w1 base ok v xs := by
  obtain ⟨h0, g, cap, cur, rfl, hg, hh, r⟩ := h
  exact ⟨h0, g, cap, cur, rfl, hg, (hm g (h0 g (by simp [Value.ownBlock])) (blk_lt hh)).trans hh, r⟩
theorem MR_below (h : MR e w base ok v xs) (hb : Below w.heap.size w w1) : MR e w1 base ok v xs := MR_step h (fun k _ hk => hb.block k hk)
theorem MR_alloc (h : MR e w base ok v xs) (o : Obj) : MR e (w.alloc o) base ok v xs := MR_below h (below_alloc (Below.refl _ _) o)
theorem MR_drew (h : MR e w base ok v xs) : MR e w.drew base ok v xs := MR_below h (below_drew (Below.refl _ _))
theorem MR_drewN (h : MR e w base ok v xs) (m : Nat) : MR e (w.drewN m) base ok v xs := MR_below h (pw_below_drewN (Below.refl _ _) m)
theorem MR_at (hq : w.drewN m = w') (h : MR e w base ok v xs) : MR e w' base ok v xs := by subst hq; exact MR_drewN h m
theorem MR_slice (h : MR e w base ok v xs) : ∃ A c, v = .slice A xs.length c := by
  obtain ⟨_, g, cap, cur, rfl, _⟩ := h
  exact ⟨_, _, rfl⟩
theorem MR_reads' {c : Nat} (h : MR e w base ok (.slice A n c) xs) : n = xs.length ∧ n ≤ c ∧ Kd.C (Kd.int .u8) w A xs.length xs := by
  obtain ⟨_, g, cap, cur, hv, _, hh, hl, hc, hm, hcur⟩ := h
  injection hv with h1 h2 h3
  subst h1; subst h3
  refine ⟨h2, by omega, Kd.C_of_reads (d := (0 : Int)) ⟨rfl, by omega, fun _ => ⟨_, rfl, fun j hj => ?_⟩⟩⟩
  rw [add_plain]
  rw [cell_of_row w g _ cur e _ hh]
  exact hcur j hj
theorem MR_form (h : MR e w base ok v xs) (_hp : 0 < xs.length) : ∃ g cap, v = .slice (some ⟨g, 0, none⟩) xs.length cap ∧ base ≤ g ∧ g < w.heap.size ∧ ∃ cells, w.heap[g]? = some (.cells cells e (cells.size, cells.size + 1)) := by
  obtain ⟨_, g, cap, cur, hv, hb, hh, _⟩ := h
  exact ⟨g, cap, hv, hb, blk_lt hh, cur, hh⟩
theorem MR_celln (_d : Int) (h : MR e W base ok (.slice (some ⟨g, 0, none⟩) n cap) xs) (i : Int) (h0 : 0 ≤ i) (hi : i < n) : W.cell? ⟨g, i.toNat, none⟩ = some (.int .u8 (rd xs i)) ∧ W.frozen? ⟨g, i.toNat, none⟩ = false := by
  obtain ⟨_, g', cap', cur, hv, _, hh, hl, hc, hm, hcur⟩ := h
  injection hv with h1 h2 h3
  injection h1 with h1
  injection h1 with h1
  subst h1; subst h3
  refine ⟨(cell_of_row W _ _ cur e _ hh).trans (hcur _ (by omega)), ?_⟩
  simp [World.frozen?, hh]
  omega
theorem MR_putn (h : MR e W base ok (.slice (some ⟨g, 0, none⟩) n cap) xs) (i : Int) (x : Int) : MR e (W.setCell ⟨g, i.toNat, none⟩ (.int .u8 x)) base ok (.slice (some ⟨g, 0, none⟩) n cap) (xs.set i.toNat x) := by
  obtain ⟨h0, g', cap', cur, hv, hb, hh, hl, hc, hm, hcur⟩ := h
  injection hv with h1 h2 h3
  injection h1 with h1
  injection h1 with h1
  subst h1; subst h3
  refine ⟨h0, g, cap, cur.setIfInBounds i.toNat (.int .u8 x), by rw [List.length_set, h2], hb, ?_, by rw [List.length_set]; exact hl, by simpa using hc, hm, fun j hj => ?_⟩
  · have hlt := blk_lt hh
    rw [Array.getElem?_eq_getElem hlt] at hh
    simp only [World.setCell, Array.getElem?_modify, if_true, Array.getElem?_eq_getElem hlt, Option.map_some, Array.size_setIfInBounds]
    rw [Option.some.inj hh]
    simp
  · rw [List.length_set] at hj
    rw [Array.getElem?_setIfInBounds]
    by_cases c : i.toNat = j
    · subst c
      have : i.toNat < cur.size := by omega
      simp [this, List.getD, hj]
    · rw [if_neg c, hcur j hj]
      simp [List.getD, c]
theorem MR_putg (h : MR e W base ok (.slice (some ⟨g, 0, none⟩) n cap) xs) (i : Int) (x : Int) : MR e (W.setCell ⟨g, i.toNat, none⟩ (.int .u8 x)) base ok (.slice (some ⟨g, 0, none⟩) n cap) (xs.set i.toNat x) ∧ W.grownBy (W.setCell ⟨g, i.toNat, none⟩ (.int .u8 x)) (some g) :=
  ⟨MR_putn h i x, rfl, rfl, rfl, by simp [World.setCell], fun k _ hk => Below.heap_setCell W _ _ k (fun h => hk (by rw [h]))⟩
theorem MR_take {c : Nat} (h : MR e w base ok (.slice A n c) xs) (hm : m ≤ xs.length) : MR e w base ok (.slice A m c) (xs.take m) := by
  obtain ⟨h0, g', cap', cur, hv, hb, hh, hl, hc, hmx, hcur⟩ := h
  injection hv with h1 h2 h3
  subst h1; subst h3
  refine ⟨fun k hk => h0 k (by simpa [Value.ownBlock] using hk), g', _, cur, by rw [List.length_take]; congr 1; omega, hb, hh, by rw [List.length_take]; omega, hc, hmx, fun j hj => ?_⟩
  rw [List.length_take] at hj
  rw [hcur j (by omega)]
  simp [List.getD, show j < m by omega]
theorem MR_conv (w : World) (e : Nat) (s : ByteArray) (hs : s.size ≤ 9223372036854775807) (base : Nat) (hb : base ≤ w.heap.size) (hcap : grownCap w s.size 0 e ≤ 9223372036854775807) (hge : s.size ≤ grownCap w s.size 0 e) : MR e (Lib.bytesWorld w e s) base (fun _ => True) (.slice (some ⟨w.heap.size, 0, none⟩) s.size (grownCap w s.size 0 e)) (bytesOf s) := by
  have hl : (bytesOf s).length = s.size := (bytes_reads w e s hs).1
  refine ⟨fun _ _ => trivial, w.heap.size, _, Lib.bytesCells w e s, by rw [hl], hb, Lib.bytesWorld_at_new w e s, by rw [hl]; exact hge, ?_, hcap, fun j hj => ?_⟩
  · simp [Lib.bytesCells]
    have : s.data.size = s.size := rfl
    omega
  · have h2 := (bytes_reads w e s hs).2.2 (by omega)
    obtain ⟨ad, h3, h4⟩ := h2
    have h5 := h4 j (by omega)
    injection h3 with h3
    subst h3
    rw [add_plain] at h5
    rw [← h5]
    exact (cell_of_row _ _ _ _ e _ (Lib.bytesWorld_at_new w e s)).symm
end
theorem grown_le (w : World) (n : Nat) (e : Nat) (h : n ≤ 9223372036854775807) : n ≤ grownCap w n 0 e ∧ grownCap w n 0 e ≤ 9223372036854775807 := by
  unfold grownCap Question.cut
  simp only []
  have := Nat.mod_lt (w.tape w.drawn (Question.appendCap n 0 e)) (show 0 < 2 ^ 63 - n by omega)
  omega

open Go.Sort in
/-- What a row of bytes holds, in the sort's words; and back. -/
theorem MR_holds {e base n cap g : Nat} {ok : Nat → Prop} {w : World} {xs : List Int} (h : MR e w base ok (.slice (some ⟨g, 0, none⟩) n cap) xs) : Holds (fun x => Value.int .u8 x) w g 0 xs.toArray ∧ g < w.heap.size ∧ n = xs.length ∧ base ≤ g := by
  obtain ⟨h0, g', cap', cur, hv, hb, hh, hl, hc, hm, hcur⟩ := h
  injection hv with h1 h2 h3
  injection h1 with h1
  injection h1 with h1
  subst h1
  refine ⟨fun j hj => ?_, blk_lt hh, h2, hb⟩
  have hj' : j < xs.length := by simpa using hj
  refine ⟨?_, ?_⟩
  · rw [cell_of_row w g _ cur e _ hh, Nat.zero_add, hcur j hj']
    simp [List.getD, hj', getElem!_pos]
  · simp [World.frozen?, hh]
    omega
open Go.Sort in
theorem MR_put {e base n cap g m : Nat} {ok : Nat → Prop} {w w0 w' : World} {os : Array Obj} {xs ys : List Int} (h : MR e w base ok (.slice (some ⟨g, 0, none⟩) n cap) xs) (hl : ys.length = xs.length) (hw : w' = grow (putRow (fun x => Value.int .u8 x) (Sort.ahead w m) g 0 ys.toArray) os) :
    MR e w' base ok (.slice (some ⟨g, 0, none⟩) n cap) ys ∧ (∀ k, k ≠ g → k < w.heap.size → w'.heap[k]? = w.heap[k]?) ∧ w.heap.size ≤ w'.heap.size ∧ w'.os = w.os ∧ w'.tape = w.tape ∧ w'.output = w.output := by
  obtain ⟨h0, g', cap', cur, hv, hb, hh, hln, hc, hm, hcur⟩ := h
  injection hv with h1 h2 h3
  injection h1 with h1
  injection h1 with h1
  subst h1; subst h3
  have hlt := blk_lt hh
  have hp : (putRow (fun x => Value.int .u8 x) (Sort.ahead w m) g 0 ys.toArray).heap[g]? = some (.cells (putCells (fun x => Value.int .u8 x) 0 ys.toArray cur) e (cur.size, cur.size + 1)) := by
    unfold putRow mapBlock Sort.ahead
    simp only [Array.getElem?_modify, hh, if_true, Option.map_some]
    rfl
  have hs : (putRow (fun x => Value.int .u8 x) (Sort.ahead w m) g 0 ys.toArray).heap.size = w.heap.size := by
    unfold putRow mapBlock Sort.ahead
    simp
  have hcs : (putCells (fun x => Value.int .u8 x) 0 ys.toArray cur).size = cur.size := by unfold putCells; simp
  have hg' : w'.heap[g]? = some (.cells (putCells (fun x => Value.int .u8 x) 0 ys.toArray cur) e (cur.size, cur.size + 1)) := by
    rw [hw, Go.Sort.heap_grow_old _ _ (by rw [hs]; exact hlt)]
    exact hp
  refine ⟨⟨h0, g, cap, putCells (fun x => Value.int .u8 x) 0 ys.toArray cur, by rw [h2, hl], hb, by rw [hg', hcs], by rw [hl]; exact hln, by rw [hcs]; exact hc, hm, fun j hj => ?_⟩, fun k hk hks => ?_, ?_, ?_, ?_, ?_⟩
  · have hjc : j < cur.size := by omega
    unfold putCells
    rw [Array.getElem?_mapIdx, Array.getElem?_eq_getElem hjc, Option.map_some]
    have hjy : 0 ≤ j ∧ j < 0 + ys.toArray.size := ⟨Nat.zero_le _, by simpa using hj⟩
    rw [if_pos hjy]
    simp [List.getD, hj, getElem!_pos]
  · rw [hw, Go.Sort.heap_grow_old _ _ (by rw [hs]; exact hks)]
    unfold putRow mapBlock Sort.ahead
    simp only [Array.getElem?_modify]
    rw [if_neg (Ne.symm hk)]
  · rw [hw, Go.Sort.size_grow, hs]; omega
  · rw [hw]; rfl
  · rw [hw]; rfl
  · rw [hw]; rfl
end Go.Proofs.YtjnfaidngaobmaaGreatDoor.Bytes
