import Derived.Test.YtjhmocngcnnfdaaFn
import Derived.Test.YtjhmocngcnnfdaaProg
import Derived.Shelf.RegionOpenPlain
import Derived.WalkKit
import Derived.Deep.LoopGhost
import Derived.Lib.Walk
import Derived.Sort.WalkB12
import Derived.Lib.SlicesMore
import Derived.KernelRfl
import Derived.Test.YtjhmocngcnnfdaaWApart
import Derived.Test.YtjhmocngcnnfdaaWMore
namespace Go.Proofs.Ytjhmocngcnnfdaa.RevRows
open Go.Shelf Go.RowKit Go.Lib Go.Sort
abbrev encV : Option Addr × Nat × Nat → Value := fun x => .slice x.1 x.2.1 x.2.2
set_option maxHeartbeats 1600000 in
set_option maxRecDepth 1000000 in
theorem slices_Reverse_vals (blk off cap : Nat) (d : Array (Option Addr × Nat × Nat)) (w : World) (hH : Holds encV w blk off d) (hsz : d.size ≤ 9223372036854775807) :
    Calls Try.prog 92 #[.slice (some ⟨blk, off, none⟩) d.size cap] w fun e w' => e = .returned (.tuple #[]) ∧ ∃ n, w' = putRow encV (Sort.ahead w n) blk off d.reverse := by
  have mixed : Try.prog.follows Departure.mixedOrders = true := by kernel_rfl
  go_enter Try.func92, Try.ntmps92
  go_wp2
  go_loopg [2, 3] d.size (fun k s2 s3 wr => ∃ (i jn : Nat) (jz : Int) (dk : Array (Option Addr × Nat × Nat)) (n : Nat), s2 = .int .i64 i ∧ s3 = .int .i64 jz ∧ ((i : Int) < jz → jz = jn ∧ jn < d.size) ∧ (¬ (i : Int) < jz → ¬ i < jn) ∧ jn - i ≤ k ∧
    dk.size = d.size ∧ wr = putRow encV (Sort.ahead w n) blk off dk ∧ reverseLoop i jn dk = reverseLoop 0 (d.size - 1) d)
  case atStart => exact ⟨0, d.size - 1, (d.size : Int) - 1, d, 0, rfl, rfl, fun h => ⟨by omega, by omega⟩, fun h => by omega, by omega, rfl, (putRow_self encV w blk off d hH).symm, rfl⟩
  case round =>
    obtain ⟨i, jn, jz, dk, n, rfl, rfl, h1, h2, hk, hds, hwr, heq⟩ := hrel
    by_cases hlt : (i : Int) < jz
    · obtain ⟨rfl, hjn⟩ := h1 hlt
      have hij : i < jn := by omega
      have hHk : Holds encV wr blk off dk := by rw [hwr]; exact holds_putRow encV _ blk off d dk (holds_ahead encV w n blk off d hH) hds
      obtain ⟨ci, fi⟩ := hHk i (by omega)
      obtain ⟨cj, fj⟩ := hHk jn (by omega)
      have A : Aside (wr = putRow encV (Sort.ahead w n) blk off dk) := hwr
      clear hwr hHk hH h1 h2
      go_wp2_with fail
      have hi2 : i < d.size := by omega
      go_region
      go_wp2
      go_roundg (jn - 1 - (i + 1))
      case measure => omega
      case rel =>
        rw [reverseLoop, if_pos hij] at heq
        exact ⟨i + 1, jn - 1, (jn : Int) - 1, swp dk i jn, n + 1, by simp, rfl, fun h => ⟨by omega, by omega⟩, fun h => by omega, Nat.le_refl _, by rw [size_swp]; exact hds,
          swap_world encV (by omega) (by omega) A.out (by first | rfl | simp [encV, getElem!_pos, show jn < dk.size by omega]) (by first | rfl | simp [encV, getElem!_pos, show i < dk.size by omega]), heq⟩
    · have hnot := h2 hlt
      go_wp2
      go_end0
      refine ⟨rfl, n, ?_⟩
      rw [reverseLoop, if_neg hnot] at heq
      rw [← Lib.reverseLoop_reverse, ← heq]

open Go.Proofs.YtjhmocngcnnfdaaW.PrintWords
def toTri : Value → Option Addr × Nat × Nat
  | .slice A n c => (A, n, c)
  | _ => (none, 0, 0)
theorem heap_put (w : World) (m g : Nat) (d : Array (Option Addr × Nat × Nat)) {cur : Array Value} {e : TypeId} (h : w.heap[g]? = some (.cells cur e (0, 0))) :
    (putRow encV (Sort.ahead w m) g 0 d).heap[g]? = some (.cells (putCells encV 0 d cur) e (0, 0)) := by
  unfold putRow mapBlock Sort.ahead
  simp only [Array.getElem?_modify, h, if_true, Option.map_some]
  rfl
theorem heap_other (w : World) (m g k : Nat) (d : Array (Option Addr × Nat × Nat)) (hk : k ≠ g) :
    (putRow encV (Sort.ahead w m) g 0 d).heap[k]? = w.heap[k]? := by
  unfold putRow mapBlock Sort.ahead
  simp only [Array.getElem?_modify]
  rw [if_neg (Ne.symm hk)]
theorem heap_size (w : World) (m g : Nat) (d : Array (Option Addr × Nat × Nat)) : (putRow encV (Sort.ahead w m) g 0 d).heap.size = w.heap.size := by
  unfold putRow mapBlock Sort.ahead
  simp
theorem below_put {w0 w : World} (m g : Nat) (d : Array (Option Addr × Nat × Nat)) (hB : Below w0.heap.size w0 w) (hg : w0.heap.size ≤ g) : Below w0.heap.size w0 (putRow encV (Sort.ahead w m) g 0 d) :=
  ⟨hB.os, hB.tape, hB.output, by rw [heap_size]; exact hB.size, fun k hk => by rw [heap_other w m g k d (by omega)]; exact hB.block k hk⟩
set_option maxHeartbeats 1600000 in
theorem slices_Reverse_nil (A : Option Addr) (cap : Nat) (w : World) : Calls Try.prog 92 #[.slice A 0 cap] w fun e w' => e = .returned (.tuple #[]) ∧ w' = w := by
  go_enter Try.func92, Try.ntmps92
  go_wp2
  go_loopg [2, 3] 0 (fun _ s2 s3 wr => s2 = .int .i64 0 ∧ s3 = .int .i64 (-1) ∧ wr = w)
  case atStart => exact ⟨rfl, rfl, rfl⟩
  case round =>
    obtain ⟨rfl, rfl, rfl⟩ := hrel
    go_wp2
    go_end0
    exact ⟨rfl, rfl⟩
theorem zip_at' {α : Type} (l : List α) (j : Nat) (hj : j < l.length) : l.zipIdx[j]? = some (l[j], j) := by
  rw [List.getElem?_zipIdx, List.getElem?_eq_getElem hj, Nat.zero_add]; rfl
theorem List.drop_take_one {β : Type} (l : List β) (j : Nat) (h : j < l.length) : (l.drop j).take 1 = [l[j]] := by
  rw [List.drop_eq_getElem_cons h, List.take_succ_cons, List.take_zero]
theorem slices_Reverse_rows {α : Type} (q t : Nat) (dd : Kd α) (l : List (List α)) (v : Value) (w0 w : World) (hB : Below w0.heap.size w0 w) (ho : Kd.S (Kd.slice q dd) t w w0.heap.size (fun _ => True) v l) :
    Calls Try.prog 92 #[v] w fun e w' => e = .returned (.tuple #[]) ∧ Kd.S (Kd.slice q dd) t w' w0.heap.size (fun _ => True) v l.reverse ∧ Below w0.heap.size w0 w' := by
  by_cases hl : l = []
  · subst hl
    obtain ⟨A, c, rfl⟩ := Kd.S_slice ho
    refine (slices_Reverse_nil A c w).mono ?_
    rintro e w' ⟨rfl, rfl⟩
    exact ⟨rfl, ho, hB⟩
  · have hpos : 0 < l.length := List.length_pos_iff.mpr hl
    obtain ⟨f, h0, inner, hown, hlen, hrep⟩ := ho
    rw [List.length_zipIdx] at hown hlen
    have hsz : (Kd.tag f (Kd.slice q dd)).sz = 1 := rfl
    rw [hsz, Nat.mul_one] at hlen
    rw [hsz] at hown
    obtain ⟨hin, hv⟩ := hown
    rcases hv with ⟨_, hz⟩ | ⟨g, cap, cur, rfl, hg, hheap, hnc, hcm, hcs, hcur⟩
    · omega
    · rw [Nat.mul_one] at hcur hin hcs
      -- each cell is a slice
      have hcell : ∀ j (h : j < inner.length), encV (toTri inner[j]) = inner[j] := by
        intro j h
        have hj : j < l.length := by omega
        have := hrep j (l[j], j) (zip_at' l j hj)
        rw [hsz, Nat.mul_one] at this
        obtain ⟨ve, hve, hR⟩ := this
        rw [List.drop_take_one _ _ h] at hve
        injection hve with hve
        obtain ⟨A, c, rfl⟩ := Kd.R_slice hR
        rw [hve]
        rfl
      obtain ⟨d, hd⟩ : ∃ d : Array (Option Addr × Nat × Nat), d = (inner.map toTri).toArray := ⟨_, rfl⟩
      have hds : d.size = l.length := by rw [hd]; simp [hlen]
      have hdj : ∀ j (h : j < inner.length), encV d[j]! = inner[j] := by
        intro j h
        rw [getElem!_pos d j (by omega)]
        subst hd
        simp only [List.getElem_toArray, List.getElem_map]
        exact hcell j h
      have hcj : ∀ j (h : j < inner.length), cur[j]? = some inner[j] := by
        intro j h
        have : cur.toList[j]? = some inner[j] := by
          have h2 : (cur.toList.take l.length)[j]? = some inner[j] := by rw [hcur]; exact List.getElem?_eq_getElem h
          rw [List.getElem?_take] at h2
          split at h2
          · exact h2
          · cases h2
        simpa using this
      have hH : Holds encV w g 0 d := by
        intro j hj
        have hji : j < inner.length := by omega
        rw [Nat.zero_add, hdj j hji]
        constructor
        · unfold World.cell?
          simp only [hheap]
          exact hcj j hji
        · unfold World.frozen?
          simp only [hheap]
          simp
      have hcall := slices_Reverse_vals g 0 cap d w hH (by rw [hds]; unfold maxLen at hcm; omega)
      rw [hds] at hcall
      refine hcall.mono ?_
      rintro e w' ⟨rfl, m, rfl⟩
      refine ⟨rfl, ?_, below_put m g _ hB hg⟩
      refine ⟨fun k => l.length - 1 - f k, fun k _ => trivial, inner.reverse, ?_, ?_⟩
      · rw [List.length_zipIdx, List.length_reverse]
        show World.ownsRow _ _ _ 1 _ _ _
        refine ⟨by rw [List.length_reverse, Nat.mul_one]; exact hlen, .inr ⟨g, cap, _, rfl, hg, heap_put w m g _ hheap, hnc, hcm, ?_, ?_⟩⟩
        · simp only [putCells, Array.size_mapIdx, Nat.mul_one]
          exact hcs
        · rw [Nat.mul_one]
          apply List.ext_getElem
          · simp only [List.length_take, Array.length_toList, putCells, Array.size_mapIdx, List.length_reverse]
            omega
          · intro j h1 h2
            rw [List.length_reverse] at h2
            have hj : j < inner.length := h2
            rw [List.getElem_take, List.getElem_reverse, Array.getElem_toList]
            simp only [putCells, Array.getElem_mapIdx]
            rw [if_pos ⟨Nat.zero_le _, by rw [Array.size_reverse]; omega⟩, Nat.sub_zero, getElem!_pos d.reverse j (by rw [Array.size_reverse]; omega), Array.getElem_reverse]
            have := hdj (inner.length - 1 - j) (by omega)
            rw [getElem!_pos d _ (by omega)] at this
            rw [← this]
            congr 2
            omega
      · show Reps _ 1 _ _
        refine ⟨by rw [List.length_reverse, List.length_zipIdx, List.length_reverse]; omega, fun j p hj => ?_⟩
        have hjl : j < l.length := by
          have := (List.getElem?_eq_some_iff.mp hj).1
          rw [List.length_zipIdx, List.length_reverse] at this
          exact this
        have hp := hj.symm.trans (zip_at' l.reverse j (by rw [List.length_reverse]; exact hjl))
        obtain rfl := Option.some.inj hp
        have hr := hrep (l.length - 1 - j) (l[l.length - 1 - j], l.length - 1 - j) (zip_at' l _ (by omega))
        rw [hsz, Nat.mul_one, List.drop_take_one _ _ (by omega)] at hr
        rw [Nat.mul_one, List.drop_take_one _ _ (by rw [List.length_reverse]; omega), List.getElem_reverse]
        rw [List.getElem_reverse]
        have he : inner.length - 1 - j = l.length - 1 - j := by omega
        simp only [he]
        refine (Kd.slice q dd).M_mono (fun k hk => ⟨hk.1, ?_⟩) ((Kd.slice q dd).M_move (fun k hk => ?_) hr)
        · have := hk.2
          show l.length - 1 - f k = j
          have h3 : f k = l.length - 1 - j := this
          omega
        · refine heap_other w m g k _ (fun hkg => ?_)
          have := hk.1.2
          subst hkg
          exact this rfl
end Go.Proofs.Ytjhmocngcnnfdaa.RevRows
