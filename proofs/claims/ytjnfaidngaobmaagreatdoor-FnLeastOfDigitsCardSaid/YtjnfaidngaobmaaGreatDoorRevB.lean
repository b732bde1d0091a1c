/- slices.Reverse on rows of bytes: the library's own text turns them. No condition. -/
import Derived.Test.YtjnfaidngaobmaaGreatDoorBytes
import Derived.Test.YtjnfaidngaobmaaGreatDoorProg
import Derived.Shelf.RegionOpenPlain
import Derived.WalkKit
import Derived.Deep.LoopGhost
import Derived.Lib.Walk
import Derived.Sort.WalkB12
import Derived.Lib.SlicesMore
import Derived.KernelRfl
namespace Go.Proofs.YtjnfaidngaobmaaGreatDoor.RevB
open Go.Shelf Go.RowKit Go.Lib Go.Sort
set_option linter.unusedVariables false
set_option linter.unusedSimpArgs false
abbrev encU : Int → Value := fun x => Value.int .u8 x
set_option maxHeartbeats 1600000 in
set_option maxRecDepth 1000000 in
theorem slices_Reverse (blk off cap : Nat) (d : Array Int) (w : World) (hH : Holds encU w blk off d) (hsz : d.size ≤ 9223372036854775807) :
    Calls Tryz.prog 46 #[.slice (some ⟨blk, off, none⟩) d.size cap] w fun e w' => e = .returned (.tuple #[]) ∧ ∃ n, w' = putRow encU (Sort.ahead w n) blk off d.reverse := by
  have mixed : Tryz.prog.follows Departure.mixedOrders = true := by kernel_rfl
  go_enter Tryz.func46, Tryz.ntmps46
  go_wp2
  go_loopg [2, 3] d.size (fun k s2 s3 wr => ∃ (i jn : Nat) (jz : Int) (dk : Array Int) (n : Nat), s2 = .int .i64 i ∧ s3 = .int .i64 jz ∧ ((i : Int) < jz → jz = jn ∧ jn < d.size) ∧ (¬ (i : Int) < jz → ¬ i < jn) ∧ jn - i ≤ k ∧
    dk.size = d.size ∧ wr = putRow encU (Sort.ahead w n) blk off dk ∧ reverseLoop i jn dk = reverseLoop 0 (d.size - 1) d)
  case atStart => exact ⟨0, d.size - 1, (d.size : Int) - 1, d, 0, rfl, rfl, fun h => ⟨by omega, by omega⟩, fun h => by omega, by omega, rfl, (putRow_self encU w blk off d hH).symm, rfl⟩
  case round =>
    obtain ⟨i, jn, jz, dk, n, rfl, rfl, h1, h2, hk, hds, hwr, heq⟩ := hrel
    by_cases hlt : (i : Int) < jz
    · obtain ⟨rfl, hjn⟩ := h1 hlt
      have hij : i < jn := by omega
      have hHk : Holds encU wr blk off dk := by rw [hwr]; exact holds_putRow encU _ blk off d dk (holds_ahead encU w n blk off d hH) hds
      obtain ⟨ci, fi⟩ := hHk i (by omega)
      obtain ⟨cj, fj⟩ := hHk jn (by omega)
      have A : Aside (wr = putRow encU (Sort.ahead w n) blk off dk) := hwr
      clear hwr hHk hH h1 h2
      go_wp2_with fail
      have hi2 : i < d.size := by omega
      go_region
      go_wp2
      go_roundg (jn - 1 - (i + 1))
      case measure => omega
      case rel =>
        rw [reverseLoop, if_pos hij] at heq
        exact ⟨i + 1, jn - 1, (jn : Int) - 1, swp dk i jn, n + 1, by simp, rfl, fun h => ⟨by omega, by omega⟩, fun h => by omega, Nat.le_refl _, by rw [size_swp]; exact hds,
          swap_world encU (by omega) (by omega) A.out (by first | rfl | simp [encU, getElem!_pos, show jn < dk.size by omega]) (by first | rfl | simp [encU, getElem!_pos, show i < dk.size by omega]), heq⟩
    · have hnot := h2 hlt
      go_wp2
      go_end0
      refine ⟨rfl, n, ?_⟩
      rw [reverseLoop, if_neg hnot] at heq
      rw [← Lib.reverseLoop_reverse, ← heq]


open Go.Proofs.YtjnfaidngaobmaaGreatDoor.Bytes in
theorem Reverse_MR {e n cap g : Nat} {ok : Nat → Prop} {w w0 : World} {xs : List Int} (hB : Below w0.heap.size w0 w) (h : MR e w w0.heap.size ok (.slice (some ⟨g, 0, none⟩) n cap) xs) (hn : xs.length ≤ 9223372036854775807) :
    Calls Tryz.prog 46 #[.slice (some ⟨g, 0, none⟩) n cap] w fun e' w' => e' = .returned (.tuple #[]) ∧ MR e w' w0.heap.size ok (.slice (some ⟨g, 0, none⟩) n cap) xs.reverse ∧ Below w0.heap.size w0 w' := by
  obtain ⟨hH, hlt, rfl, hb⟩ := MR_holds h
  have c := slices_Reverse g 0 cap xs.toArray w hH (by simpa using hn)
  rw [List.size_toArray] at c
  refine c.mono ?_
  rintro e' w' ⟨rfl, m, hw⟩
  have hw2 : w' = grow (putRow (fun x => Value.int .u8 x) (Sort.ahead w m) g 0 xs.reverse.toArray) #[] := by rw [hw, grow_empty]; simp
  obtain ⟨h1, h2, h3, h4, h5, h6⟩ := MR_put (w0 := w0) h (by simp) hw2
  exact ⟨rfl, h1, ⟨h4.trans hB.os, h5.trans hB.tape, h6.trans hB.output, Nat.le_trans hB.size h3, fun k hk => (h2 k (by omega) (by have := hB.size; omega)).trans (hB.block k hk)⟩⟩
end Go.Proofs.YtjnfaidngaobmaaGreatDoor.RevB
