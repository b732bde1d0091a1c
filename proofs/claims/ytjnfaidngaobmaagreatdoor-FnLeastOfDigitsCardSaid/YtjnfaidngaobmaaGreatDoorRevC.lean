/- slices.Reverse on what stands behind a place of a row of bytes. No condition. -/
import Derived.Test.YtjnfaidngaobmaaGreatDoorRevB
namespace Go.Proofs.YtjnfaidngaobmaaGreatDoor.RevB
open Go.Shelf Go.RowKit Go.Lib Go.Sort
set_option linter.unusedVariables false
set_option linter.unusedSimpArgs false
theorem put_behind (W : World) (g m : Nat) (xs : List Int) (hm : m ≤ xs.length) (hH : Holds encU W g 0 xs.toArray) :
    putRow encU W g m (xs.drop m).toArray.reverse = putRow encU W g 0 (xs.take m ++ (xs.drop m).reverse).toArray := by
  have h1 : putRow encU W g m (xs.drop m).toArray.reverse = putRow encU (putRow encU W g 0 xs.toArray) g m (xs.drop m).toArray.reverse := by rw [putRow_self encU W g 0 _ hH]
  rw [h1]
  unfold putRow
  rw [mapBlock_mapBlock]
  congr 1
  funext c
  unfold putCells
  rw [Array.mapIdx_mapIdx]
  congr 1
  funext k x
  simp only [Function.comp, Nat.zero_le, true_and, Nat.zero_add, Nat.sub_zero, Array.size_reverse, List.size_toArray, List.length_drop, List.length_append, List.length_take, List.length_reverse]
  by_cases c1 : m ≤ k ∧ k < m + (xs.length - m)
  · rw [if_pos c1, if_pos (by omega)]
    congr 1
    rw [List.reverse_toArray]
    rw [getElem!_pos _ _ (by simp; omega), getElem!_pos _ _ (by simp; omega)]
    simp only [List.getElem_toArray]
    rw [List.getElem_append_right (by simp; omega)]
    congr 1
    simp; omega
  · rw [if_neg c1]
    by_cases c2 : k < xs.length
    · rw [if_pos c2, if_pos (by omega)]
      congr 1
      rw [getElem!_pos _ _ (by simpa using c2), getElem!_pos _ _ (by simp; omega)]
      simp only [List.getElem_toArray]
      rw [List.getElem_append_left (by simp; omega), List.getElem_take]
    · rw [if_neg c2, if_neg (by omega)]
open Go.Proofs.YtjnfaidngaobmaaGreatDoor.Bytes in
theorem Reverse_MR_cut {e n cap cap2 g m : Nat} {ok : Nat → Prop} {w w0 : World} {xs : List Int} (hB : Below w0.heap.size w0 w) (h : MR e w w0.heap.size ok (.slice (some ⟨g, 0, none⟩) n cap) xs) (hm : m ≤ xs.length) (hn : xs.length ≤ 9223372036854775807) :
    Calls Tryz.prog 46 #[.slice (some ⟨g, m, none⟩) (xs.length - m) cap2] w fun e' w' => e' = .returned (.tuple #[]) ∧ MR e w' w0.heap.size ok (.slice (some ⟨g, 0, none⟩) n cap) (xs.take m ++ (xs.drop m).reverse) ∧ Below w0.heap.size w0 w' := by
  obtain ⟨hH, hlt, rfl, hb⟩ := MR_holds h
  have hH2 : Holds encU w g m (xs.drop m).toArray := by
    intro j hj
    have hj' : j < xs.length - m := by simpa using hj
    obtain ⟨h1, h2⟩ := hH (m + j) (by simp; omega)
    rw [Nat.zero_add] at h1 h2
    refine ⟨?_, h2⟩
    have e : xs.toArray[m + j]! = (xs.drop m).toArray[j]! := by rw [getElem!_pos xs.toArray (m + j) (by simp; omega), getElem!_pos (xs.drop m).toArray j hj]; simp
    rw [h1, e]
  have c := slices_Reverse g m cap2 (xs.drop m).toArray w hH2 (by simp; omega)
  rw [List.size_toArray, List.length_drop] at c
  refine c.mono ?_
  rintro e' w' ⟨rfl, q, hw⟩
  rw [put_behind _ g m xs hm (holds_ahead encU w q g 0 _ hH)] at hw
  have hw2 : w' = grow (putRow (fun x => Value.int .u8 x) (Sort.ahead w q) g 0 (xs.take m ++ (xs.drop m).reverse).toArray) #[] := by rw [hw, grow_empty]
  obtain ⟨h1, h2, h3, h4, h5, h6⟩ := MR_put (w0 := w0) h (by simp; omega) hw2
  exact ⟨rfl, h1, ⟨h4.trans hB.os, h5.trans hB.tape, h6.trans hB.output, Nat.le_trans hB.size h3, fun k hk => (h2 k (by omega) (by have := hB.size; omega)).trans (hB.block k hk)⟩⟩
end Go.Proofs.YtjnfaidngaobmaaGreatDoor.RevB
