-- Laid by this session's program gprint.py over the kit's print.
import Derived.Lib.OthersKept
import Derived.Laws.Runes
import Derived.Test.YtlgpjilhjfkmbaaGreatDoorPFnTicketsTurnedx0
import Derived.Test.YtlgpjilhjfkmbaaGreatDoorPFnTicketsTurnedx1
import Derived.Test.YtlgpjilhjfkmbaaGreatDoorPFnTicketsTurnedx2
import Derived.Test.YtlgpjilhjfkmbaaGreatDoorPFnTicketsTurnedx3
import Derived.Test.YtlgpjilhjfkmbaaGreatDoorPFnTicketsTurnedx4
import Derived.Test.YtlgpjilhjfkmbaaGreatDoorPFnTicketsTurnedx5
import Derived.Test.YtlgpjilhjfkmbaaGreatDoorPFnTicketsTurnedx6
import Derived.Test.YtlgpjilhjfkmbaaGreatDoorPFnTicketsTurnedx7
import Derived.Test.YtlgpjilhjfkmbaaGreatDoorPFnTicketsTurnedx8
import Derived.Test.YtlgpjilhjfkmbaaGreatDoorPFnTicketsTurnedx10
namespace Go.Proofs.YtlgpjilhjfkmbaaGreatDoor.PFnTicketsTurned
open Go.RowKit Go.Proofs.YtlgpjilhjfkmbaaGreatDoorW.PrintWords Go.Proofs.YtlgpjilhjfkmbaaGreatDoorW.PrintLast Go.Proofs.YtlgpjilhjfkmbaaGreatDoorW.PrintMore
attribute [local go_sem] max2_int min2_int max_two min_two max_three min_three max_four min_four   -- for this text's walks alone
set_option linter.unusedVariables false
set_option linter.unusedSimpArgs false
theorem undef_bool_ {b : Bool} (h : some undef = some (Value.bool b)) : False := by cases h
theorem dead2_ {r : Bool} {P : Prop} (H : some false = some r) (h : Aside0 (r = true)) : P := Bool.noConfusion ((Option.some.inj H).trans h.out)
theorem z11_0_ {p : Prop} (h : p := by (try simp only [List.map_toArray, List.map_cons, List.map_nil]); first | done | rfl | (simp only [List.length_drop, List.length_take]; rfl)) : p := h
theorem z11_1_ {p : Prop} (h : p := by repeat (first | (with_reducible first | exact HB.out | apply below_alloc | apply pw_below_drewN | apply below_drew1) | exact HB.out)) : p := h
theorem z11_2_ {p : Prop} (h : p := by first | (with_reducible assumption) | assumption) : p := h
theorem z11_3_ {p : Prop} (h : p := by first | rfl | (simp; done) | (simp [*]; done)) : p := h
theorem z11_4_ {p : Prop} (h : p := by (with_reducible repeat (first | apply Kd.R_alloc | apply Kd.R_drewN | apply Kd.R_drew)); exact HO392.out) : p := h

/-! ### laws_FnTicketsTurned: function 3 -/
theorem byte_ (s : ByteArray) (i : Nat) (h : i < s.size) : bt s (i : Int) = ((s[i]'h).toNat : Int) := by
  unfold bt
  rw [dif_pos (by rw [Int.toNat_natCast]; exact h)]
  simp only [Int.toNat_natCast]
theorem wrapn_ (n : Nat) (h : n < 4611686018427387904) : wrap64 ((n : Int) + 1) = ((n + 1 : Nat) : Int) := by simp [wrap64]; omega
mutual
def laws_FnTicketsTurned.j3 : Nat → List Int → Option (Bool)
 | 0, _ => none
 | k + 1, x1 => (spec_DrawFirstLuckyOf.f x1).bind fun bt421 => ((impl_FirstLuckyOf.f k bt421.1 bt421.2).bind fun bt423 => ((spec_FirstLuckyOf.f k bt421.1 bt421.2).bind fun bt425 => ((impl_CountLuckyOf.f k bt421.1 bt421.2).bind fun bt427 => ((spec_CountLuckyOf.f k bt421.1 bt421.2).bind fun bt429 => ((spec_DrawCountTickets.f x1).bind fun bt431 => ((impl_CountTickets.f k bt431.1 bt431.2.1 bt431.2.2).bind fun bt434 => ((spec_CountTickets.f k bt431.1 bt431.2.1 bt431.2.2).bind fun bt436 => ((spec_DrawTicketOfNumber.f x1).bind fun bt438 => ((impl_TicketOfNumber.f bt438.1 bt438.2).bind fun bt440 => ((spec_TicketOfNumber.f k bt438.1 bt438.2).bind fun bt442 => (if (bt423.2 != bt425.2) = true then (laws_FnTicketsTurned.j4 k bt421.1 bt421.2 bt423.1 bt423.2 bt431.1 bt431.2.1 bt431.2.2 bt434.1 bt434.2 bt438.1 bt438.2 bt440.1 bt440.2 true) else (if bt423.1.toList = bt425.1.toList then (if (bt427.2 != bt429.2) = true then (laws_FnTicketsTurned.j4 k bt421.1 bt421.2 bt423.1 bt423.2 bt431.1 bt431.2.1 bt431.2.2 bt434.1 bt434.2 bt438.1 bt438.2 bt440.1 bt440.2 true) else (if bt427.1 = bt429.1 then (if (bt434.2 != bt436.2) = true then (laws_FnTicketsTurned.j4 k bt421.1 bt421.2 bt423.1 bt423.2 bt431.1 bt431.2.1 bt431.2.2 bt434.1 bt434.2 bt438.1 bt438.2 bt440.1 bt440.2 true) else (if bt434.1 = bt436.1 then (if (bt440.2 != bt442.2) = true then (laws_FnTicketsTurned.j4 k bt421.1 bt421.2 bt423.1 bt423.2 bt431.1 bt431.2.1 bt431.2.2 bt434.1 bt434.2 bt438.1 bt438.2 bt440.1 bt440.2 true) else (if bt440.1.toList = bt442.1.toList then (if bt427.2 = true then (laws_FnTicketsTurned.j4 k bt421.1 bt421.2 bt423.1 bt423.2 bt431.1 bt431.2.1 bt431.2.2 bt434.1 bt434.2 bt438.1 bt438.2 bt440.1 bt440.2 (bt423.2 != (decide (bt427.1 > 0)))) else (laws_FnTicketsTurned.j4 k bt421.1 bt421.2 bt423.1 bt423.2 bt431.1 bt431.2.1 bt431.2.2 bt434.1 bt434.2 bt438.1 bt438.2 bt440.1 bt440.2 (bt423.2 != false))) else (laws_FnTicketsTurned.j4 k bt421.1 bt421.2 bt423.1 bt423.2 bt431.1 bt431.2.1 bt431.2.2 bt434.1 bt434.2 bt438.1 bt438.2 bt440.1 bt440.2 true))) else (laws_FnTicketsTurned.j4 k bt421.1 bt421.2 bt423.1 bt423.2 bt431.1 bt431.2.1 bt431.2.2 bt434.1 bt434.2 bt438.1 bt438.2 bt440.1 bt440.2 true))) else (laws_FnTicketsTurned.j4 k bt421.1 bt421.2 bt423.1 bt423.2 bt431.1 bt431.2.1 bt431.2.2 bt434.1 bt434.2 bt438.1 bt438.2 bt440.1 bt440.2 true))) else (laws_FnTicketsTurned.j4 k bt421.1 bt421.2 bt423.1 bt423.2 bt431.1 bt431.2.1 bt431.2.2 bt434.1 bt434.2 bt438.1 bt438.2 bt440.1 bt440.2 true)))))))))))))
def laws_FnTicketsTurned.j4 : Nat → Int → Int → ByteArray → Bool → Int → Int → Int → Int → Bool → Int → Int → ByteArray → Bool → Bool → Option (Bool)
 | 0, _, _, _, _, _, _, _, _, _, _, _, _, _, _ => none
 | k + 1, x50, x51, x52, x53, x60, x61, x62, x63, x64, x67, x68, x69, x70, x546 => if x546 = true then (some false) else (if x53 = true then ((impl_HalfSums.f k x52).bind fun bt444 => ((impl_LastLucky.f k x52).bind fun bt447 => (if bt444.2.2 = true then (if bt444.1 = x51 then (if bt444.2.1 = x51 then (if (x52.size : Int) = x50 then (if bt447.2 = true then ((impl_HalfSums.f k bt447.1).bind fun bt449 => (if bt449.2.2 = true then (if bt449.1 = x51 then (some false) else (laws_FnTicketsTurned.j5 k x60 x61 x62 x63 x64 x67 x68 x69 x70)) else (some false))) else (laws_FnTicketsTurned.j5 k x60 x61 x62 x63 x64 x67 x68 x69 x70)) else (some false)) else (some false)) else (some false)) else (some false)))) else (laws_FnTicketsTurned.j5 k x60 x61 x62 x63 x64 x67 x68 x69 x70))
def laws_FnTicketsTurned.j5 : Nat → Int → Int → Int → Int → Bool → Int → Int → ByteArray → Bool → Option (Bool)
 | 0, _, _, _, _, _, _, _, _, _ => none
 | k + 1, x60, x61, x62, x63, x64, x67, x68, x69, x70 => if x64 = true then ((impl_CountTickets.f k x60 x62 x61).bind fun bt452 => (if bt452.2 = true then (if bt452.1 = x63 then (if x70 = true then ((impl_NumberOfTicket.f k x69).bind fun bt454 => (if bt454.2 = true then (if bt454.1 = x68 then (some ((x69.size : Int) == x67)) else (some false)) else (some false))) else (some true)) else (some false)) else (some false))) else (if x70 = true then ((impl_NumberOfTicket.f k x69).bind fun bt456 => (if bt456.2 = true then (if bt456.1 = x68 then (some ((x69.size : Int) == x67)) else (some false)) else (some false))) else (some true))
def laws_FnTicketsTurned.l0 : Nat → List Int → ByteArray → ByteArray → ByteArray → ByteArray → Bool → List Int → Bool → List ByteArray → Int → Int → Option (Bool)
 | 0, _, _, _, _, _, _, _, _, _, _, _ => none
 | k + 1, x1, x5, x12, x16, x20, x24, x28, x32, x289, x290, x291 => if x291 < x290 then (if 0 ≤ x291 then (if x291 < (x289.length : Int) then ((impl_IsLucky.f k (rdOf ByteArray.empty x289 x291)).bind fun bt409 => (if bt409.2 = true then (if (bt409.1 != x32) = true then (some false) else (if ((rdOf ByteArray.empty x289 x291).size : Int) = (x5.size : Int) then (laws_FnTicketsTurned.l0 k x1 x5 x12 x16 x20 x24 x28 x32 x289 x290 (wrap64 (x291 + 1))) else (some false))) else (some false))) else (none)) else (none)) else ((impl_TurnTicket.f k x12).bind fun bt411 => ((impl_SwapHalves.f k x16).bind fun bt413 => ((impl_NinesTicket.f k x20).bind fun bt415 => (laws_FnTicketsTurned.l1 k x1 x5 x12 x20 x24 x28 bt411.1 bt411.2 bt413.1 bt413.2 bt415.1 bt415.2 0 x5 0))))
def laws_FnTicketsTurned.l1 : Nat → List Int → ByteArray → ByteArray → ByteArray → Bool → List Int → ByteArray → Bool → ByteArray → Bool → ByteArray → Bool → Int → ByteArray → Int → Option (Bool)
 | 0, _, _, _, _, _, _, _, _, _, _, _, _, _, _, _ => none
 | k + 1, x1, x5, x12, x20, x24, x28, x39, x40, x41, x42, x43, x44, x45, x330, x331 => if x331 < (x330.size : Int) then (if 0 ≤ x331 then (if bt x330 x331 < 128 ∧ x331 < 4611686018427387904 then (if x331 < (x12.size : Int) then (if 0 ≤ (wrap64 ((wrap64 ((x5.size : Int) - 1)) - x331)) then (if (wrap64 ((wrap64 ((x5.size : Int) - 1)) - x331)) < (x5.size : Int) then (if (bt x12 x331) = (bt x5 (wrap64 ((wrap64 ((x5.size : Int) - 1)) - x331))) then (if x331 < (x5.size : Int) then (if x331 < (x20.size : Int) then (if (((bt x5 x331) + (bt x20 x331)) % 256) = 105 then (if (Int.tmod x331 2) = 0 then (laws_FnTicketsTurned.l1 k x1 x5 x12 x20 x24 x28 x39 x40 x41 x42 x43 x44 (wrap64 (x45 + (wrap64 (bt x5 x331)))) x330 (wrap64 (x331 + 1))) else (laws_FnTicketsTurned.l1 k x1 x5 x12 x20 x24 x28 x39 x40 x41 x42 x43 x44 (wrap64 (x45 - (wrap64 (bt x5 x331)))) x330 (wrap64 (x331 + 1)))) else (some false)) else (none)) else (none)) else (some false)) else (none)) else (none)) else (none)) else (none)) else (none)) else (if x40 = true then (if x39.toList = x5.toList then (if x42 = true then (if x41.toList = x5.toList then (if x44 = true then (if x43.toList = x5.toList then (if (x24 != (x45 == 0)) = true then (some false) else (if (x28.length : Int) > 1 then (some false) else (laws_FnTicketsTurned.l2 k x1 x5 x28 0))) else (some false)) else (some false)) else (some false)) else (some false)) else (some false)) else (some false))
def laws_FnTicketsTurned.l2 : Nat → List Int → ByteArray → List Int → Int → Option (Bool)
 | 0, _, _, _, _ => none
 | k + 1, x1, x5, x28, x47 => if x47 < 10 then (if 0 ≤ (wrap64 ((x5.size : Int) - 1)) then (if (wrap64 ((x5.size : Int) - 1)) ≤ (x5.size : Int) then (if (x5.extract 0 ((wrap64 ((x5.size : Int) - 1)) : Int).toNat).size + (Utf8.encode (wrap32 (wrap64 (48 + x47)))).size ≤ 9223372036854775807 then ((impl_IsLucky.f k ((x5.extract 0 ((wrap64 ((x5.size : Int) - 1)) : Int).toNat) ++ (Utf8.encode (wrap32 (wrap64 (48 + x47)))))).bind fun bt417 => (if bt417.2 = true then ((laws_eHas.f k x28 x47).bind fun t420 => (if (bt417.1 != t420) = true then (some false) else (laws_FnTicketsTurned.l2 k x1 x5 x28 (wrap64 (x47 + 1))))) else (some false))) else (none)) else (none)) else (none)) else (laws_FnTicketsTurned.j3 k x1)
end
def laws_FnTicketsTurned.f (k : Nat) (l0 : List Int) (l1 : List Int) : Option (Bool) := (laws_big.f l0 l1).bind fun t365 => (if t365 = true then (some true) else ((spec_DrawHalfSums.f k l0).bind fun t366 => ((impl_HalfSums.f k t366).bind fun bt367 => ((spec_HalfSums.f k t366).bind fun bt370 => ((impl_TurnTicket.f k t366).bind fun bt373 => ((spec_TurnTicket.f k t366).bind fun bt375 => ((impl_SwapHalves.f k t366).bind fun bt377 => ((spec_SwapHalves.f k t366).bind fun bt379 => ((impl_NinesTicket.f k t366).bind fun bt381 => ((spec_NinesTicket.f k t366).bind fun bt383 => ((impl_IsEverySecond.f k t366).bind fun bt385 => ((spec_IsEverySecond.f k t366).bind fun bt387 => ((impl_LuckyDigits.f k t366).bind fun bt389 => ((spec_LuckyDigits.f k t366).bind fun bt393 => (if (bt367.2.2 != bt370.2.2) = true then (some false) else (if bt367.1 = bt370.1 then (if bt367.2.1 = bt370.2.1 then (if (bt373.2 != bt375.2) = true then (some false) else (if bt373.1.toList = bt375.1.toList then (if (bt377.2 != bt379.2) = true then (some false) else (if bt377.1.toList = bt379.1.toList then (if (bt381.2 != bt383.2) = true then (some false) else (if bt381.1.toList = bt383.1.toList then (if (bt385.2 != bt387.2) = true then (some false) else (if (bt385.1 != bt387.1) = true then (some false) else (if (bt389.2 != bt393.2) = true then (some false) else ((laws_eSame.f k bt389.1 bt393.1).bind fun t398 => (if t398 = true then (if (bt373.2 != bt367.2.2) = true then (some false) else (if (bt377.2 != bt367.2.2) = true then (some false) else (if (bt381.2 != bt367.2.2) = true then (some false) else (if (bt385.2 != bt367.2.2) = true then (some false) else (if (bt389.2 != bt367.2.2) = true then (some false) else (if bt367.2.2 = true then ((impl_IsLucky.f k t366).bind fun bt399 => (if 0 ≤ (wrap64 ((t366.size : Int) / 2)) then (if (wrap64 ((t366.size : Int) / 2)) ≤ (t366.size : Int) then ((laws_eDigits.f k (t366.extract 0 ((wrap64 ((t366.size : Int) / 2)) : Int).toNat)).bind fun t403 => (if bt367.1 = t403 then ((laws_eDigits.f k (t366.extract ((wrap64 ((t366.size : Int) / 2)) : Int).toNat t366.size)).bind fun t404 => (if bt367.2.1 = t404 then (if bt399.2 = true then (if (bt399.1 != (bt367.1 == bt367.2.1)) = true then (some false) else (if (t366.extract ((wrap64 ((t366.size : Int) / 2)) : Int).toNat t366.size).size + (t366.extract 0 ((wrap64 ((t366.size : Int) / 2)) : Int).toNat).size ≤ 9223372036854775807 then (if bt377.1.toList = ((t366.extract ((wrap64 ((t366.size : Int) / 2)) : Int).toNat t366.size) ++ (t366.extract 0 ((wrap64 ((t366.size : Int) / 2)) : Int).toNat)).toList then ((some (([bt373.1, bt377.1, bt381.1] : List ByteArray) : List ByteArray)).bind fun y405 => (laws_FnTicketsTurned.l0 k l1 t366 bt373.1 bt377.1 bt381.1 bt385.1 bt389.1 bt399.1 y405 (y405.length : Int) 0)) else (some false)) else (none))) else (some false)) else (some false))) else (some false))) else (none)) else (none))) else (laws_FnTicketsTurned.j3 k l1))))))) else (some false)))))) else (some false))) else (some false))) else (some false))) else (some false)) else (some false)))))))))))))))))
theorem laws_FnTicketsTurned.j4_dead {k : Nat} {x50 : Int} {x51 : Int} {x52 : ByteArray} {x53 : Bool} {x60 : Int} {x61 : Int} {x62 : Int} {x63 : Int} {x64 : Bool} {x67 : Int} {x68 : Int} {x69 : ByteArray} {x70 : Bool} {r : Bool} {P : Prop} (H : laws_FnTicketsTurned.j4 k x50 x51 x52 x53 x60 x61 x62 x63 x64 x67 x68 x69 x70 true = some r) (h : Aside0 (r = true)) : P := by
 cases k with
 | zero => exact none_ (by simp only [laws_FnTicketsTurned.j4]) H
 | succ k => exact dead_ (by simp only [laws_FnTicketsTurned.j4]; first | exact if_pos rfl | exact if_pos trivial) H h
def laws_FnTicketsTurned.T21 : Bool × List (List Nat × List Nat) := (true, [([], []), ([], []), ([], []), ([1, 2], [1, 2]), ([3], [3]), ([0, 4], [0, 4]), ([5, 4], [5]), ([6], [6]), ([6], [6]), ([6], [6]), ([8, 9, 6], [6, 8, 9]), ([10, 6, 6], [6, 10]), ([7, 11, 6], [6, 7, 11]), ([6, 12], [6, 12]), ([13, 11], [13]), ([14], [14]), ([15, 14], [14, 15]), ([14, 16], [14, 16]), ([17, 14], [17]), ([18], [18]), ([18], [18]), ([18], [18]), ([20, 21, 18], [18, 20, 21]), ([19, 22, 18], [18, 19, 22]), ([18, 23], [18, 23]), ([24, 18], [24]), ([25], [25]), ([25], [25]), ([25], [25]), ([27, 28, 25], [25, 27, 28]), ([25], [25]), ([25], [25]), ([30, 31, 25], [25, 30, 31]), ([29, 32, 25], [25, 29, 32]), ([26, 33, 25], [25, 26, 33]), ([25, 34], [25, 34])])
def laws_FnTicketsTurned.B21 : List Nat := [0, 0, 0, 6, 14, 31, 63, 127, 127, 127, 895, 1919, 4095, 8191, 16383, 32767, 65535, 131071, 262143, 524287, 524287, 524287, 3670015, 8388607, 16777215, 33554431, 67108863, 67108863, 67108863, 469762047, 67108863, 67108863, 3288334335, 8522825727, 17179869183, 34359738367]
theorem laws_FnTicketsTurned.tab21 : rtab .any (opsOf Tryz.f3 21) = laws_FnTicketsTurned.T21 := by kernel_rfl
theorem laws_FnTicketsTurned.bits21 : waitsOk laws_FnTicketsTurned.T21.2 laws_FnTicketsTurned.B21 = true := by kernel_rfl
def laws_FnTicketsTurned.T37 : Bool × List (List Nat × List Nat) := (true, [([], []), ([], []), ([0, 1], [0, 1]), ([], []), ([], []), ([4], [4]), ([5], [5]), ([], []), ([6, 7], [6, 7]), ([3, 8], [3, 8]), ([2, 9], [2, 9]), ([10], [10]), ([11], [11]), ([11], [11]), ([12, 13, 11], [11, 12, 13]), ([11], [11]), ([11], [11]), ([15, 16, 11], [11, 15, 16]), ([14, 17, 11], [11, 14, 17]), ([18, 11], [11, 18]), ([11, 19], [11, 19])])
def laws_FnTicketsTurned.B37 : List Nat := [0, 0, 3, 0, 0, 16, 48, 0, 240, 504, 1023, 2047, 4095, 4095, 16383, 4095, 4095, 102399, 262143, 524287, 1048575]
theorem laws_FnTicketsTurned.tab37 : rtab .any (opsOf Tryz.f3 37) = laws_FnTicketsTurned.T37 := by kernel_rfl
theorem laws_FnTicketsTurned.bits37 : waitsOk laws_FnTicketsTurned.T37.2 laws_FnTicketsTurned.B37 = true := by kernel_rfl
set_option maxHeartbeats 64000000 in
set_option maxRecDepth 100000 in
theorem laws_FnTicketsTurned.calls (k : Nat) (A0 : Option Addr) (c0 : Nat) (l0 : List Int) (A1 : Option Addr) (c1 : Nat) (l1 : List Int) (r : Bool) (w : World) (hT : Shelf.TabOk w) (hr0 : Kd.C (Kd.int .u8) w A0 l0.length l0) (hc0 : l0.length ≤ c0) (hr1 : Kd.C (Kd.int .u8) w A1 l1.length l1) (hc1 : l1.length ≤ c1) (hr_ : Aside0 (r = true)) (h : laws_FnTicketsTurned.f k l0 l1 = some r) :
 Calls Tryz.prog 3 #[.slice A0 l0.length c0, .slice A1 l1.length c1] w fun e w' => e = .returned (.bool r) ∧ Below w.heap.size w w' := by
 have HR0 := Aside0.mk hr0
 have HC0 := Aside0.mk hc0
 clear hr0 hc0
 have HR1 := Aside0.mk hr1
 have HC1 := Aside0.mk hc1
 clear hr1 hc1
 have HT := Aside0.mk hT
 clear hT
 have HB := Aside0.mk (Below.refl w.heap.size w)
 have H : ((laws_big.f l0 l1).bind fun t365 => (if t365 = true then (some true) else ((spec_DrawHalfSums.f k l0).bind fun t366 => ((impl_HalfSums.f k t366).bind fun bt367 => ((spec_HalfSums.f k t366).bind fun bt370 => ((impl_TurnTicket.f k t366).bind fun bt373 => ((spec_TurnTicket.f k t366).bind fun bt375 => ((impl_SwapHalves.f k t366).bind fun bt377 => ((spec_SwapHalves.f k t366).bind fun bt379 => ((impl_NinesTicket.f k t366).bind fun bt381 => ((spec_NinesTicket.f k t366).bind fun bt383 => ((impl_IsEverySecond.f k t366).bind fun bt385 => ((spec_IsEverySecond.f k t366).bind fun bt387 => ((impl_LuckyDigits.f k t366).bind fun bt389 => ((spec_LuckyDigits.f k t366).bind fun bt393 => (if (bt367.2.2 != bt370.2.2) = true then (some false) else (if bt367.1 = bt370.1 then (if bt367.2.1 = bt370.2.1 then (if (bt373.2 != bt375.2) = true then (some false) else (if bt373.1.toList = bt375.1.toList then (if (bt377.2 != bt379.2) = true then (some false) else (if bt377.1.toList = bt379.1.toList then (if (bt381.2 != bt383.2) = true then (some false) else (if bt381.1.toList = bt383.1.toList then (if (bt385.2 != bt387.2) = true then (some false) else (if (bt385.1 != bt387.1) = true then (some false) else (if (bt389.2 != bt393.2) = true then (some false) else ((laws_eSame.f k bt389.1 bt393.1).bind fun t398 => (if t398 = true then (if (bt373.2 != bt367.2.2) = true then (some false) else (if (bt377.2 != bt367.2.2) = true then (some false) else (if (bt381.2 != bt367.2.2) = true then (some false) else (if (bt385.2 != bt367.2.2) = true then (some false) else (if (bt389.2 != bt367.2.2) = true then (some false) else (if bt367.2.2 = true then ((impl_IsLucky.f k t366).bind fun bt399 => (if 0 ≤ (wrap64 ((t366.size : Int) / 2)) then (if (wrap64 ((t366.size : Int) / 2)) ≤ (t366.size : Int) then ((laws_eDigits.f k (t366.extract 0 ((wrap64 ((t366.size : Int) / 2)) : Int).toNat)).bind fun t403 => (if bt367.1 = t403 then ((laws_eDigits.f k (t366.extract ((wrap64 ((t366.size : Int) / 2)) : Int).toNat t366.size)).bind fun t404 => (if bt367.2.1 = t404 then (if bt399.2 = true then (if (bt399.1 != (bt367.1 == bt367.2.1)) = true then (some false) else (if (t366.extract ((wrap64 ((t366.size : Int) / 2)) : Int).toNat t366.size).size + (t366.extract 0 ((wrap64 ((t366.size : Int) / 2)) : Int).toNat).size ≤ 9223372036854775807 then (if bt377.1.toList = ((t366.extract ((wrap64 ((t366.size : Int) / 2)) : Int).toNat t366.size) ++ (t366.extract 0 ((wrap64 ((t366.size : Int) / 2)) : Int).toNat)).toList then ((some (([bt373.1, bt377.1, bt381.1] : List ByteArray) : List ByteArray)).bind fun y405 => (laws_FnTicketsTurned.l0 k l1 t366 bt373.1 bt377.1 bt381.1 bt385.1 bt389.1 bt399.1 y405 (y405.length : Int) 0)) else (some false)) else (none))) else (some false)) else (some false))) else (some false))) else (none)) else (none))) else (laws_FnTicketsTurned.j3 k l1))))))) else (some false)))))) else (some false))) else (some false))) else (some false))) else (some false)) else (some false)))))))))))))))))) = some r := h
 clear h
 replace H := Option.bind_eq_some_iff.mp H
 obtain ⟨t365, A30, H⟩ := H
 have A3 := Aside0.mk A30
 clear A30
 by_cases c4 : t365 = true
 · subst c4
   rw [if_pos rfl] at H
   as_aux_lemma =>
    obtain rfl := Option.some.inj H
    go_enter Tryz.func3, Tryz.ntmps3
    go_wp2_with (first | ((with_reducible refine gate_callee (f := 4) rfl ?_); refine goesL_ (some 87) rfl rfl Tryz.func4 (by kernel_rfl) rfl #[.slice A0 l0.length c0, .slice A1 l1.length c1] rfl z11_0_ ?_; (with_reducible refine (laws_big.calls _ _ l0 _ _ l1 true _ ?side1 ?side2 ?side3 ?side4 A3.out).mono ?_); (case side1 => repeat (first | exact HR0.out | (with_reducible refine Kd.C_alloc ?_ _) | (with_reducible refine Kd.C_drewN ?_ _) | (with_reducible refine Kd.C_drew ?_))); (case side2 => exact HC0.out); (case side3 => repeat (first | exact HR1.out | (with_reducible refine Kd.C_alloc ?_ _) | (with_reducible refine Kd.C_drewN ?_ _) | (with_reducible refine Kd.C_drew ?_))); (case side4 => exact HC1.out); rintro e w' ⟨rfl, ⟨nd, rfl⟩⟩; refine ⟨_, rfl, ?_⟩))
    go_ret
    exact ⟨by first | exact rfl | (simp [errW_none, errW_some] <;> rfl) | (simp [*, errW_none, errW_some] <;> rfl), by repeat (first | (with_reducible first | exact HB.out | apply below_alloc | apply pw_below_drewN | apply below_drew1) | exact HB.out)⟩
 replace c4 := Bool.eq_false_iff.mpr c4
 subst c4
 rw [if_neg (show ¬ (false = true) by decide)] at H
 as_aux_lemma =>
 replace H := Option.bind_eq_some_iff.mp H
 obtain ⟨t366, A50, H⟩ := H
 have A5 := Aside0.mk A50
 clear A50
 replace H := Option.bind_eq_some_iff.mp H
 obtain ⟨⟨t367, t368, t369⟩, A60, H⟩ := H
 dsimp only at H
 have A6 := Aside0.mk A60
 clear A60
 replace H := Option.bind_eq_some_iff.mp H
 obtain ⟨⟨t370, t371, t372⟩, A70, H⟩ := H
 dsimp only at H
 have A7 := Aside0.mk A70
 clear A70
 replace H := Option.bind_eq_some_iff.mp H
 obtain ⟨⟨t373, t374⟩, A80, H⟩ := H
 dsimp only at H
 have A8 := Aside0.mk A80
 clear A80
 replace H := Option.bind_eq_some_iff.mp H
 obtain ⟨⟨t375, t376⟩, A90, H⟩ := H
 dsimp only at H
 have A9 := Aside0.mk A90
 clear A90
 replace H := Option.bind_eq_some_iff.mp H
 obtain ⟨⟨t377, t378⟩, A100, H⟩ := H
 dsimp only at H
 have A10 := Aside0.mk A100
 clear A100
 as_aux_lemma =>
 replace H := Option.bind_eq_some_iff.mp H
 obtain ⟨⟨t379, t380⟩, A110, H⟩ := H
 dsimp only at H
 have A11 := Aside0.mk A110
 clear A110
 replace H := Option.bind_eq_some_iff.mp H
 obtain ⟨⟨t381, t382⟩, A120, H⟩ := H
 dsimp only at H
 have A12 := Aside0.mk A120
 clear A120
 replace H := Option.bind_eq_some_iff.mp H
 obtain ⟨⟨t383, t384⟩, A130, H⟩ := H
 dsimp only at H
 have A13 := Aside0.mk A130
 clear A130
 replace H := Option.bind_eq_some_iff.mp H
 obtain ⟨⟨t385, t386⟩, A140, H⟩ := H
 dsimp only at H
 have A14 := Aside0.mk A140
 clear A140
 replace H := Option.bind_eq_some_iff.mp H
 obtain ⟨⟨t387, t388⟩, A150, H⟩ := H
 dsimp only at H
 have A15 := Aside0.mk A150
 clear A150
 as_aux_lemma =>
 replace H := Option.bind_eq_some_iff.mp H
 obtain ⟨⟨t389, t390⟩, A160, H⟩ := H
 dsimp only at H
 have A16 := Aside0.mk A160
 clear A160
 replace H := Option.bind_eq_some_iff.mp H
 obtain ⟨⟨t393, t394⟩, A170, H⟩ := H
 dsimp only at H
 have A17 := Aside0.mk A170
 clear A170
 by_cases c18 : (t369 != t372) = true
 · exact dead_ (if_pos c18) H hr_
 rw [if_neg c18] at H
 have c18b0 : (t369 != t372) = false := by simpa using c18
 (try (have c18b1 : decide (t369 = t372) = true := by simpa using c18))
 (try (have c18b2 : (t369 == t372) = true := by simpa using c18))
 clear c18
 by_cases c19 : t367 = t370
 rotate_left
 · exact dead_ (if_neg c19) H hr_
 rw [if_pos c19] at H
 have c19b0 : (t367 == t370) = true := beq_iff_eq.mpr c19
 have c19b1 : (t367 != t370) = false := bne_eq_false_iff_eq.mpr c19
 clear c19
 by_cases c20 : t368 = t371
 rotate_left
 · exact dead_ (if_neg c20) H hr_
 rw [if_pos c20] at H
 have c20b0 : (t368 == t371) = true := beq_iff_eq.mpr c20
 have c20b1 : (t368 != t371) = false := bne_eq_false_iff_eq.mpr c20
 clear c20
 as_aux_lemma =>
 by_cases c21 : (t374 != t376) = true
 · exact dead_ (if_pos c21) H hr_
 rw [if_neg c21] at H
 have c21b0 : (t374 != t376) = false := by simpa using c21
 (try (have c21b1 : decide (t374 = t376) = true := by simpa using c21))
 (try (have c21b2 : (t374 == t376) = true := by simpa using c21))
 clear c21
 by_cases c22 : t373.toList = t375.toList
 rotate_left
 · exact dead_ (if_neg c22) H hr_
 rw [if_pos c22] at H
 have c22b0 : (t373.toList == t375.toList) = true := beq_iff_eq.mpr c22
 have c22b1 : (t373.toList != t375.toList) = false := bne_eq_false_iff_eq.mpr c22
 clear c22
 by_cases c23 : (t378 != t380) = true
 · exact dead_ (if_pos c23) H hr_
 rw [if_neg c23] at H
 have c23b0 : (t378 != t380) = false := by simpa using c23
 (try (have c23b1 : decide (t378 = t380) = true := by simpa using c23))
 (try (have c23b2 : (t378 == t380) = true := by simpa using c23))
 clear c23
 by_cases c24 : t377.toList = t379.toList
 rotate_left
 · exact dead_ (if_neg c24) H hr_
 rw [if_pos c24] at H
 have c24b0 : (t377.toList == t379.toList) = true := beq_iff_eq.mpr c24
 have c24b1 : (t377.toList != t379.toList) = false := bne_eq_false_iff_eq.mpr c24
 clear c24
 as_aux_lemma =>
 by_cases c25 : (t382 != t384) = true
 · exact dead_ (if_pos c25) H hr_
 rw [if_neg c25] at H
 have c25b0 : (t382 != t384) = false := by simpa using c25
 (try (have c25b1 : decide (t382 = t384) = true := by simpa using c25))
 (try (have c25b2 : (t382 == t384) = true := by simpa using c25))
 clear c25
 by_cases c26 : t381.toList = t383.toList
 rotate_left
 · exact dead_ (if_neg c26) H hr_
 rw [if_pos c26] at H
 have c26b0 : (t381.toList == t383.toList) = true := beq_iff_eq.mpr c26
 have c26b1 : (t381.toList != t383.toList) = false := bne_eq_false_iff_eq.mpr c26
 clear c26
 by_cases c27 : (t386 != t388) = true
 · exact dead_ (if_pos c27) H hr_
 rw [if_neg c27] at H
 have c27b0 : (t386 != t388) = false := by simpa using c27
 (try (have c27b1 : decide (t386 = t388) = true := by simpa using c27))
 (try (have c27b2 : (t386 == t388) = true := by simpa using c27))
 clear c27
 by_cases c28 : (t385 != t387) = true
 · exact dead_ (if_pos c28) H hr_
 rw [if_neg c28] at H
 have c28b0 : (t385 != t387) = false := by simpa using c28
 (try (have c28b1 : decide (t385 = t387) = true := by simpa using c28))
 (try (have c28b2 : (t385 == t387) = true := by simpa using c28))
 clear c28
 as_aux_lemma =>
 by_cases c29 : (t390 != t394) = true
 · exact dead_ (if_pos c29) H hr_
 rw [if_neg c29] at H
 have c29b0 : (t390 != t394) = false := by simpa using c29
 (try (have c29b1 : decide (t390 = t394) = true := by simpa using c29))
 (try (have c29b2 : (t390 == t394) = true := by simpa using c29))
 clear c29
 replace H := Option.bind_eq_some_iff.mp H
 obtain ⟨t398, A300, H⟩ := H
 have A30 := Aside0.mk A300
 clear A300
 by_cases c31 : t398 = true
 · subst c31
   rw [if_pos rfl] at H
   by_cases c32 : (t374 != t369) = true
   · exact dead_ (if_pos c32) H hr_
   rw [if_neg c32] at H
   have c32b0 : (t374 != t369) = false := by simpa using c32
   (try (have c32b1 : decide (t374 = t369) = true := by simpa using c32))
   (try (have c32b2 : (t374 == t369) = true := by simpa using c32))
   clear c32
   by_cases c33 : (t378 != t369) = true
   · exact dead_ (if_pos c33) H hr_
   rw [if_neg c33] at H
   have c33b0 : (t378 != t369) = false := by simpa using c33
   (try (have c33b1 : decide (t378 = t369) = true := by simpa using c33))
   (try (have c33b2 : (t378 == t369) = true := by simpa using c33))
   clear c33
   by_cases c34 : (t382 != t369) = true
   · exact dead_ (if_pos c34) H hr_
   rw [if_neg c34] at H
   have c34b0 : (t382 != t369) = false := by simpa using c34
   (try (have c34b1 : decide (t382 = t369) = true := by simpa using c34))
   (try (have c34b2 : (t382 == t369) = true := by simpa using c34))
   clear c34
   by_cases c35 : (t386 != t369) = true
   · exact dead_ (if_pos c35) H hr_
   rw [if_neg c35] at H
   have c35b0 : (t386 != t369) = false := by simpa using c35
   (try (have c35b1 : decide (t386 = t369) = true := by simpa using c35))
   (try (have c35b2 : (t386 == t369) = true := by simpa using c35))
   clear c35
   as_aux_lemma =>
   by_cases c36 : (t390 != t369) = true
   · exact dead_ (if_pos c36) H hr_
   rw [if_neg c36] at H
   have c36b0 : (t390 != t369) = false := by simpa using c36
   (try (have c36b1 : decide (t390 = t369) = true := by simpa using c36))
   (try (have c36b2 : (t390 == t369) = true := by simpa using c36))
   clear c36
   have HC37 := Aside0.mk H
   clear H
   go_enter Tryz.func3, Tryz.ntmps3
   go_upto_if 241 with (first | ((with_reducible refine gate_callee (f := 4) rfl ?_); refine goesL_ (some 87) rfl rfl Tryz.func4 (by kernel_rfl) rfl #[.slice A0 l0.length c0, .slice A1 l1.length c1] rfl z11_0_ ?_; (with_reducible refine (laws_big.calls _ _ l0 _ _ l1 false _ ?side1 ?side2 ?side3 ?side4 A3.out).mono ?_); (case side1 => repeat (first | exact HR0.out | (with_reducible refine Kd.C_alloc ?_ _) | (with_reducible refine Kd.C_drewN ?_ _) | (with_reducible refine Kd.C_drew ?_))); (case side2 => exact HC0.out); (case side3 => repeat (first | exact HR1.out | (with_reducible refine Kd.C_alloc ?_ _) | (with_reducible refine Kd.C_drewN ?_ _) | (with_reducible refine Kd.C_drew ?_))); (case side4 => exact HC1.out); rintro e w' ⟨rfl, ⟨nd, rfl⟩⟩; refine ⟨_, rfl, ?_⟩) | ((with_reducible refine gate_callee (f := 5) rfl ?_); refine goesL_ (some 89) rfl rfl Tryz.func5 (by kernel_rfl) rfl #[.slice A0 l0.length c0] rfl z11_0_ ?_; (with_reducible refine (spec_DrawHalfSums.calls k _ _ l0 t366 _ ?side1 ?side2 A5.out).mono ?_); (case side1 => repeat (first | exact HR0.out | (with_reducible refine Kd.C_alloc ?_ _) | (with_reducible refine Kd.C_drewN ?_ _) | (with_reducible refine Kd.C_drew ?_))); (case side2 => exact HC0.out); rintro e w38 ⟨rfl, hb⟩; refine ⟨_, rfl, ?_⟩; have n0_ := Aside0.mk (below_step z11_1_ hb); clear HB; have HB := n0_; clear n0_; (try clear hb); (try clear hb2); (try clear hk); (try clear hi)) | ((with_reducible refine gate_callee (f := 6) rfl ?_); refine goesL_ (some 92) rfl rfl Tryz.func6 (by kernel_rfl) rfl #[.string t366] rfl z11_0_ ?_; (with_reducible refine (impl_HalfSums.calls k t366 t367 t368 t369 _ A6.out).mono ?_); rintro e w' ⟨rfl, ⟨nd, rfl⟩⟩; refine ⟨_, rfl, ?_⟩) | ((with_reducible refine gate_callee (f := 7) rfl ?_); refine goesL_ (some 98) rfl rfl Tryz.func7 (by kernel_rfl) rfl #[.string t366] rfl z11_0_ ?_; (with_reducible refine (spec_HalfSums.calls k t366 t370 t371 t372 _ A7.out).mono ?_); rintro e w' ⟨rfl, ⟨nd, rfl⟩⟩; refine ⟨_, rfl, ?_⟩) | ((with_reducible refine gate_callee (f := 8) rfl ?_); refine goesL_ (some 104) rfl rfl Tryz.func8 (by kernel_rfl) rfl #[.string t366] rfl z11_0_ ?_; (with_reducible refine (impl_TurnTicket.calls k t366 t373 t374 _ A8.out).mono ?_); rintro e w39 ⟨rfl, hb⟩; refine ⟨_, rfl, ?_⟩; have n0_ := Aside0.mk (below_step z11_1_ hb); clear HB; have HB := n0_; clear n0_; (try clear hb); (try clear hb2); (try clear hk); (try clear hi)) | ((with_reducible refine gate_callee (f := 9) rfl ?_); refine goesL_ (some 109) rfl rfl Tryz.func9 (by kernel_rfl) rfl #[.string t366] rfl z11_0_ ?_; (with_reducible refine (spec_TurnTicket.calls k t366 t375 t376 _ A9.out).mono ?_); rintro e w' ⟨rfl, ⟨nd, rfl⟩⟩; refine ⟨_, rfl, ?_⟩) | ((with_reducible refine gate_callee (f := 10) rfl ?_); refine goesL_ (some 114) rfl rfl Tryz.func10 (by kernel_rfl) rfl #[.string t366] rfl z11_0_ ?_; (with_reducible refine (impl_SwapHalves.calls k t366 t377 t378 _ A10.out).mono ?_); rintro e w' ⟨rfl, ⟨nd, rfl⟩⟩; refine ⟨_, rfl, ?_⟩) | ((with_reducible refine gate_callee (f := 11) rfl ?_); refine goesL_ (some 119) rfl rfl Tryz.func11 (by kernel_rfl) rfl #[.string t366] rfl z11_0_ ?_; (with_reducible refine (spec_SwapHalves.calls k t366 t379 t380 _ A11.out).mono ?_); rintro e w' ⟨rfl, ⟨nd, rfl⟩⟩; refine ⟨_, rfl, ?_⟩) | ((with_reducible refine gate_callee (f := 12) rfl ?_); refine goesL_ (some 124) rfl rfl Tryz.func12 (by kernel_rfl) rfl #[.string t366] rfl z11_0_ ?_; (with_reducible refine (impl_NinesTicket.calls k t366 t381 t382 _ A12.out).mono ?_); rintro e w40 ⟨rfl, hb⟩; refine ⟨_, rfl, ?_⟩; have n0_ := Aside0.mk (below_step z11_1_ hb); clear HB; have HB := n0_; clear n0_; (try clear hb); (try clear hb2); (try clear hk); (try clear hi)) | ((with_reducible refine gate_callee (f := 13) rfl ?_); refine goesL_ (some 129) rfl rfl Tryz.func13 (by kernel_rfl) rfl #[.string t366] rfl z11_0_ ?_; (with_reducible refine (spec_NinesTicket.calls k t366 t383 t384 _ A13.out).mono ?_); rintro e w41 ⟨rfl, hb⟩; refine ⟨_, rfl, ?_⟩; have n0_ := Aside0.mk (below_step z11_1_ hb); clear HB; have HB := n0_; clear n0_; (try clear hb); (try clear hb2); (try clear hk); (try clear hi)) | ((with_reducible refine gate_callee (f := 14) rfl ?_); refine goesL_ (some 134) rfl rfl Tryz.func14 (by kernel_rfl) rfl #[.string t366] rfl z11_0_ ?_; (with_reducible refine (impl_IsEverySecond.calls k t366 t385 t386 _ A14.out).mono ?_); rintro e w42 ⟨rfl, hb⟩; refine ⟨_, rfl, ?_⟩; have n0_ := Aside0.mk (below_step z11_1_ hb); clear HB; have HB := n0_; clear n0_; (try clear hb); (try clear hb2); (try clear hk); (try clear hi)) | ((with_reducible refine gate_callee (f := 15) rfl ?_); refine goesL_ (some 139) rfl rfl Tryz.func15 (by kernel_rfl) rfl #[.string t366] rfl z11_0_ ?_; (with_reducible refine (spec_IsEverySecond.calls k t366 t387 t388 _ A15.out).mono ?_); rintro e w' ⟨rfl, ⟨nd, rfl⟩⟩; refine ⟨_, rfl, ?_⟩) | ((with_reducible refine gate_callee (f := 16) rfl ?_); refine goesL_ (some 144) rfl rfl Tryz.func16 (by kernel_rfl) rfl #[.string t366] rfl z11_0_ ?_; (with_reducible refine (impl_LuckyDigits.calls k t366 t389 t390 _ A16.out).mono ?_); rintro e w43 ⟨v391, rfl, ho0, hb⟩; refine ⟨_, rfl, ?_⟩; have n0_ := Aside0.mk (Kd.R_lower ho0 (below_size z11_1_)); have n1_ := Aside0.mk (below_step z11_1_ hb); clear HB; have HO392 := n0_; have HB := n1_; clear n0_ n1_; (try clear hb); (try clear hb2); (try clear hk); (try clear hi); (try clear ho0)) | ((with_reducible refine gate_callee (f := 17) rfl ?_); refine goesL_ (some 149) rfl rfl Tryz.func17 (by kernel_rfl) rfl #[.string t366] rfl z11_0_ ?_; (with_reducible refine (spec_LuckyDigits.calls k t366 t393 t394 _ A17.out).mono ?_); rintro e w44 ⟨v395, rfl, ho0, hb⟩; refine ⟨_, rfl, ?_⟩; have n0_ := Aside0.mk (Kd.R_elder' z11_4_ (Kd.R_base ho0) hb); have n1_ := Aside0.mk (Kd.R_lower (Kd.R_new' ho0 (Kd.R_lt z11_4_)) (below_size z11_1_)); have n2_ := Aside0.mk (below_step z11_1_ hb); clear HO392; clear HB; have HO392 := n0_; have HO396 := n1_; have HB := n2_; clear n0_ n1_ n2_; (try clear hb); (try clear hb2); (try clear hk); (try clear hi); (try clear ho0); obtain ⟨Ao45, co45, eo45⟩ := Kd.R_slice HO392.out; subst eo45; obtain ⟨Ao46, co46, eo46⟩ := Kd.R_slice HO396.out; subst eo46) | (go_at_call 18; (with_reducible refine (laws_eSame.calls k _ _ t389 _ _ t393 true _ ?side1 ?side2 ?side3 ?side4 A30.out).mono ?_); (case side1 => repeat (first | exact (Kd.R_reads' HO392.out).2.2 | (with_reducible refine Kd.C_alloc ?_ _) | (with_reducible refine Kd.C_drewN ?_ _) | (with_reducible refine Kd.C_drew ?_))); (case side2 => exact (Kd.R_reads' HO392.out).2.1); (case side3 => repeat (first | exact (Kd.R_reads' HO396.out).2.2 | (with_reducible refine Kd.C_alloc ?_ _) | (with_reducible refine Kd.C_drewN ?_ _) | (with_reducible refine Kd.C_drew ?_))); (case side4 => exact (Kd.R_reads' HO396.out).2.1); rintro e w' ⟨rfl, ⟨nd, rfl⟩⟩))
   (try simp only [Act.put, List.setIfInBounds_toArray, List.set_cons_zero, List.set_cons_succ])
   go_cut [] from 85 to 433 (fun wc => ∃ (kq : Nat), Aside0 (laws_FnTicketsTurned.j3 kq l1 = some r) ∧ Aside0 (kq ≤ k) ∧ Aside0 (Below w.heap.size w wc))
   case first =>
    as_aux_lemma =>
    have H := HC37.out
    clear HC37
    by_cases c47 : t369 = true
    · subst c47
      rw [if_pos rfl] at H
      replace H := Option.bind_eq_some_iff.mp H
      obtain ⟨⟨t399, t400⟩, A480, H⟩ := H
      dsimp only at H
      have A48 := Aside0.mk A480
      clear A480
      obtain ⟨ji49, hji49⟩ : ∃ j_ : Int, (wrap64 ((t366.size : Int) / 2)) = j_ := ⟨_, rfl⟩
      replace H : (if 0 ≤ (ji49) then (if (ji49) ≤ (t366.size : Int) then ((laws_eDigits.f k (t366.extract 0 ((ji49) : Int).toNat)).bind fun t403 => (if t367 = t403 then ((laws_eDigits.f k (t366.extract ((ji49) : Int).toNat t366.size)).bind fun t404 => (if t368 = t404 then (if t400 = true then (if (t399 != (t367 == t368)) = true then (some false) else (if (t366.extract ((ji49) : Int).toNat t366.size).size + (t366.extract 0 ((ji49) : Int).toNat).size ≤ 9223372036854775807 then (if t377.toList = ((t366.extract ((ji49) : Int).toNat t366.size) ++ (t366.extract 0 ((ji49) : Int).toNat)).toList then ((some (([t373, t377, t381] : List ByteArray) : List ByteArray)).bind fun y405 => (laws_FnTicketsTurned.l0 k l1 t366 t373 t377 t381 t385 t389 t399 y405 (y405.length : Int) 0)) else (some false)) else (none))) else (some false)) else (some false))) else (some false))) else (none)) else (none)) = some r := by first | (rw [hji49] at H; exact H) | (simp only [hji49] at H ⊢; exact H)
      (try rw [hji49] at A48)
      have hji49w : (IntKind.i64.wrap ((t366.size : Int) / 2)) = ji49 := (i64_w _).trans hji49
      by_cases c50 : 0 ≤ (ji49)
      rotate_left
      · exact none_ (if_neg c50) H
      rw [if_pos c50] at H
      have c50b0 := eq_true c50
      have c50b1 : decide (0 ≤ (ji49)) = true := decide_eq_true c50
      clear c50
      by_cases c51 : (ji49) ≤ (t366.size : Int)
      rotate_left
      · exact none_ (if_neg c51) H
      rw [if_pos c51] at H
      have c51b0 := eq_true c51
      have c51b1 : decide ((ji49) ≤ (t366.size : Int)) = true := decide_eq_true c51
      clear c51
      replace H := Option.bind_eq_some_iff.mp H
      obtain ⟨t403, A520, H⟩ := H
      have A52 := Aside0.mk A520
      clear A520
      as_aux_lemma =>
      by_cases c53 : t367 = t403
      · rw [if_pos c53] at H
        have c53b0 : (t367 == t403) = true := beq_iff_eq.mpr c53
        have c53b1 : (t367 != t403) = false := bne_eq_false_iff_eq.mpr c53
        clear c53
        (first | rw [c53b0] | (simp only [i64_w, i32_w]; rw [c53b0]) | skip)
        have c54b0 := eq_true (of_decide_eq_true z11_2_ : 0 ≤ (ji49))
        have c55b0 := eq_true (of_decide_eq_true z11_2_ : (ji49) ≤ (t366.size : Int))
        replace H := Option.bind_eq_some_iff.mp H
        obtain ⟨t404, A560, H⟩ := H
        have A56 := Aside0.mk A560
        clear A560
        by_cases c57 : t368 = t404
        · rw [if_pos c57] at H
          have c57b0 : (t368 == t404) = true := beq_iff_eq.mpr c57
          have c57b1 : (t368 != t404) = false := bne_eq_false_iff_eq.mpr c57
          clear c57
          by_cases c58 : t400 = true
          · subst c58
            rw [if_pos rfl] at H
            by_cases c59 : (t399 != (t367 == t368)) = true
            · rw [if_pos c59] at H
              have c59b0 : (t399 != (t367 == t368)) = true := c59
              (try (have c59b1 : decide (t399 = (t367 == t368)) = false := by simpa using c59))
              (try (have c59b2 : (t399 == (t367 == t368)) = false := by simpa using c59))
              (try (have c59b3 : ¬ (t399 = (t367 == t368)) := by simpa using c59))
              clear c59
              as_aux_lemma =>
               exact dead2_ H hr_
            rw [if_neg c59] at H
            have c59b0 : (t399 != (t367 == t368)) = false := by simpa using c59
            (try (have c59b1 : decide (t399 = (t367 == t368)) = true := by simpa using c59))
            (try (have c59b2 : (t399 == (t367 == t368)) = true := by simpa using c59))
            clear c59
            have c60b0 := eq_true (of_decide_eq_true z11_2_ : 0 ≤ (ji49))
            have c61b0 := eq_true (of_decide_eq_true z11_2_ : (ji49) ≤ (t366.size : Int))
            have c62b0 := eq_true (of_decide_eq_true z11_2_ : 0 ≤ (ji49))
            have c63b0 := eq_true (of_decide_eq_true z11_2_ : (ji49) ≤ (t366.size : Int))
            by_cases c64 : (t366.extract ((ji49) : Int).toNat t366.size).size + (t366.extract 0 ((ji49) : Int).toNat).size ≤ 9223372036854775807
            rotate_left
            · exact none_ (if_neg c64) H
            rw [if_pos c64] at H
            have c64b0 := eq_true c64
            have c64b1 : decide ((t366.extract ((ji49) : Int).toNat t366.size).size + (t366.extract 0 ((ji49) : Int).toNat).size ≤ 9223372036854775807) = true := decide_eq_true c64
            try have c64b2 : (9223372036854775807 < (t366.extract ((ji49) : Int).toNat t366.size).size + (t366.extract 0 ((ji49) : Int).toNat).size) = False := eq_false (Nat.not_lt.2 c64)
            have c64b5 : (9223372036854775807 < t366.size) = False := eq_false (by have h_ := c64; rw [ByteArray.size_extract, ByteArray.size_extract] at h_; have g_ := of_eq_true (by assumption : (ji49 ≤ (t366.size : Int)) = True); have g2_ := of_eq_true (by assumption : (0 ≤ ji49) = True); omega)
            try have c64b4 : (9223372036854775807 < (t366.extract ((ji49) : Int).toNat t366.size).size + ji49.toNat) = False := eq_false (Nat.not_lt.2 (by have h_ := c64; rw [ByteArray.size_extract] at h_; first | omega | (have g_ := of_eq_true (by assumption : (ji49 ≤ (t366.size : Int)) = True); omega)))
            as_aux_lemma =>
            by_cases c65 : t377.toList = ((t366.extract ((ji49) : Int).toNat t366.size) ++ (t366.extract 0 ((ji49) : Int).toNat)).toList
            rotate_left
            · exact dead_ (if_neg c65) H hr_
            rw [if_pos c65] at H
            have c65b0 : (t377.toList == ((t366.extract ((ji49) : Int).toNat t366.size) ++ (t366.extract 0 ((ji49) : Int).toNat)).toList) = true := beq_iff_eq.mpr c65
            have c65b1 : (t377.toList != ((t366.extract ((ji49) : Int).toNat t366.size) ++ (t366.extract 0 ((ji49) : Int).toNat)).toList) = false := bne_eq_false_iff_eq.mpr c65
            clear c65
            obtain ⟨y405, hy405⟩ : ∃ y_ : List ByteArray, y_ = (([t373, t377, t381] : List ByteArray)) := ⟨_, rfl⟩
            replace H : (laws_FnTicketsTurned.l0 k l1 t366 t373 t377 t381 t385 t389 t399 y405 (y405.length : Int) 0) = some r := by first | (rw [hy405]; with_reducible exact H) | (have H2_ := (Option.bind_some _ _).symm.trans H; rw [hy405]; with_reducible exact H2_) | (have H2_ := (Option.bind_some _ _).symm.trans H; with_reducible exact H2_) | with_reducible exact H | (rw [hy405]; exact H) | exact H
            have Ny405 := Aside0.mk hy405
            clear hy405
            have H' := Aside0.mk H
            clear H
            try go_wp2_with (first | ((with_reducible refine gate_callee (f := 19) rfl ?_); refine goesL_ (some 244) rfl rfl Tryz.func19 (by kernel_rfl) rfl #[.string t366] rfl z11_0_ ?_; (with_reducible refine (impl_IsLucky.calls k t366 t399 true _ A48.out).mono ?_); rintro e w' ⟨rfl, ⟨nd, rfl⟩⟩; refine ⟨_, rfl, ?_⟩))
            (try (rw [drewN_self w44]; generalize hq_ : World.drewN w44 _ = w44; have n0_ : Aside0 (Kd.R (Kd.int .i64) 3 w44 w.heap.size (fun k_ => some k_ ≠ (.slice Ao46 t393.length co46 : Value).ownBlock) (.slice Ao45 t389.length co45) t389) := ⟨by rw [← hq_]; exact (by (with_reducible repeat (first | apply Kd.R_alloc | apply Kd.R_drewN | apply Kd.R_drew)); exact Kd.R_mono HO392.out (fun _ hk => hk.2))⟩; have n1_ : Aside0 (Kd.R (Kd.int .i64) 3 w44 w.heap.size (fun k_ => some k_ ≠ (.slice Ao45 t389.length co45 : Value).ownBlock) (.slice Ao46 t393.length co46) t393) := ⟨by rw [← hq_]; exact (by (with_reducible repeat (first | apply Kd.R_alloc | apply Kd.R_drewN | apply Kd.R_drew)); exact Kd.R_mono HO396.out (fun _ hk => hk.2))⟩; have n2_ : Aside0 (Below w.heap.size w w44) := ⟨by rw [← hq_]; exact z11_1_⟩; clear HO392 HO396 HB hq_; have HO392 := n0_; have HO396 := n1_; have HB := n2_; clear n0_ n1_ n2_))
            have n0_ := Aside0.mk (Kd.R_drew HO392.out)
            have n1_ := Aside0.mk (Kd.R_drew HO396.out)
            have n2_ := Aside0.mk (below_drew1 HB.out)
            clear HO392
            clear HO396
            clear HB
            have HO392 := n0_
            have HO396 := n1_
            have HB := n2_
            clear n0_ n1_ n2_
            refine start_ (n := 36) (S := fun w' => True) (ds := []) #[false, false, false, false, false, false, false, false, false, false, false, false, false, false, false, false, false, false, false, false, false, false, false, false, false, false, false, false, false, false, false, false, false, false, false, false] (by kernel_rfl) rfl rfl trivial (fun hHeld => ?_); refine with_tabW laws_FnTicketsTurned.tab21 laws_FnTicketsTurned.bits21 (fun HT_ HW_ => ?_)
            generalize w44.drew = w66 at HO392 HO396 HB hHeld ⊢
            refine pure_ (i := 0) (N := some 250) (v := ?_) (a' := ?_) #[true, false, false, false, false, false, false, false, false, false, false, false, false, false, false, false, false, false, false, false, false, false, false, false, false, false, false, false, false, false, false, false, false, false, false, false] rfl rfl (any_of HT_.out (by kernel_rfl)) (fun _ _ _ h => h) (Or.inl ⟨by rfl, ?_⟩) ?_ ?_
            rotate_left
            · intro w'
              go_simp
              with_reducible rfl
            rotate_left
            · simp only [Act.put, List.setIfInBounds_toArray, List.set_cons_zero, List.set_cons_succ, i64_w, i32_w]
              rfl
            refine pure_ (i := 1) (N := some 251) (v := ?_) (a' := ?_) #[true, true, false, false, false, false, false, false, false, false, false, false, false, false, false, false, false, false, false, false, false, false, false, false, false, false, false, false, false, false, false, false, false, false, false, false] rfl rfl (any_of HT_.out (by kernel_rfl)) (fun _ _ _ h => h) (Or.inl ⟨by rfl, ?_⟩) ?_ ?_
            rotate_left
            · intro w'
              go_simp
              with_reducible rfl
            rotate_left
            · simp only [Act.put, List.setIfInBounds_toArray, List.set_cons_zero, List.set_cons_succ, i64_w, i32_w]
              rfl
            refine pure_ (i := 2) (N := some 252) (v := ?_) (a' := ?_) #[true, true, true, false, false, false, false, false, false, false, false, false, false, false, false, false, false, false, false, false, false, false, false, false, false, false, false, false, false, false, false, false, false, false, false, false] rfl rfl (any_of HT_.out (by kernel_rfl)) (fun _ _ _ h => h) (Or.inl ⟨by rfl, ?_⟩) ?_ ?_
            rotate_left
            · intro w'
              go_simp
              with_reducible rfl
            rotate_left
            · simp only [Act.put, List.setIfInBounds_toArray, List.set_cons_zero, List.set_cons_succ, i64_w, i32_w]
              rfl
            refine pure_ (i := 3) (N := some 253) (v := ?_) (a' := ?_) #[true, true, true, true, false, false, false, false, false, false, false, false, false, false, false, false, false, false, false, false, false, false, false, false, false, false, false, false, false, false, false, false, false, false, false, false] rfl rfl (any_of HT_.out (by kernel_rfl)) (fun _ _ _ h => h) (Or.inl ⟨by rfl, ?_⟩) ?_ ?_
            rotate_left
            · intro w'
              go_simp
              with_reducible rfl
            rotate_left
            · simp only [Act.put, List.setIfInBounds_toArray, List.set_cons_zero, List.set_cons_succ, i64_w, i32_w]
              rfl
            refine one_ (i := 4) (N := some 254) #[true, true, true, true, true, false, false, false, false, false, false, false, false, false, false, false, false, false, false, false, false, false, false, false, false, false, false, false, false, false, false, false, false, false, false, false] rfl rfl (one_of HT_.out (by kernel_rfl)) (by decide) (fun K hK => ?_)
            refine goes_ Tryz.func20 (by kernel_rfl) rfl #[.string (t366.extract 0 ((ji49) : Int).toNat)] (by rfl) rfl rfl (by (try simp only [List.map_toArray, List.map_cons, List.map_nil]); first | done | (simp only [hji49]; rfl) | rfl | (simp only [List.length_drop, List.length_take]; rfl)) ?_
            with_reducible refine (laws_eDigits.calls k (t366.extract 0 ((ji49) : Int).toNat) t403 _ A52.out).mono ?_
            rintro e w' ⟨rfl, ⟨nd, rfl⟩⟩
            refine ⟨_, rfl, ?_⟩
            refine hK.out _ _ trivial (fun hHeld => ?_)
            clear hK K
            refine norm_ (a' := ?_) ?_ ?_
            rotate_left
            · show Act.put _ (some 254) _ = _
              simp only [Act.put, List.setIfInBounds_toArray, List.set_cons_zero, List.set_cons_succ, i64_w, i32_w]
              rfl
            refine pure_ (i := 5) (N := some 255) (v := ?_) (a' := ?_) #[true, true, true, true, true, true, false, false, false, false, false, false, false, false, false, false, false, false, false, false, false, false, false, false, false, false, false, false, false, false, false, false, false, false, false, false] rfl rfl (any_of HT_.out (by kernel_rfl)) (fun _ _ _ h => h) (Or.inl ⟨by rfl, ?_⟩) ?_ ?_
            rotate_left
            · intro w'
              go_simp
              with_reducible rfl
            rotate_left
            · simp only [Act.put, List.setIfInBounds_toArray, List.set_cons_zero, List.set_cons_succ, i64_w, i32_w]
              rfl
            refine pure_ (i := 6) (N := some 256) (v := ?_) (a' := ?_) #[true, true, true, true, true, true, true, false, false, false, false, false, false, false, false, false, false, false, false, false, false, false, false, false, false, false, false, false, false, false, false, false, false, false, false, false] rfl rfl (any_of HT_.out (by kernel_rfl)) (fun _ _ _ h => h) (Or.inl ⟨by rfl, ?_⟩) ?_ ?_
            rotate_left
            · intro w'
              go_simp
              with_reducible rfl
            rotate_left
            · simp only [Act.put, List.setIfInBounds_toArray, List.set_cons_zero, List.set_cons_succ, i64_w, i32_w]
              rfl
            refine pure_ (i := 7) (N := some 257) (v := ?_) (a' := ?_) #[true, true, true, true, true, true, true, true, false, false, false, false, false, false, false, false, false, false, false, false, false, false, false, false, false, false, false, false, false, false, false, false, false, false, false, false] rfl rfl (any_of HT_.out (by kernel_rfl)) (fun _ _ _ h => h) (Or.inl ⟨by rfl, ?_⟩) ?_ ?_
            rotate_left
            · intro w'
              go_simp
              with_reducible rfl
            rotate_left
            · simp only [Act.put, List.setIfInBounds_toArray, List.set_cons_zero, List.set_cons_succ, i64_w, i32_w]
              rfl
            refine pure_ (i := 8) (N := some 258) (v := ?_) (a' := ?_) #[true, true, true, true, true, true, true, true, true, false, false, false, false, false, false, false, false, false, false, false, false, false, false, false, false, false, false, false, false, false, false, false, false, false, false, false] rfl rfl (any_of HT_.out (by kernel_rfl)) (fun _ _ _ h => h) (Or.inl ⟨by rfl, ?_⟩) ?_ ?_
            rotate_left
            · intro w'
              go_simp
              with_reducible rfl
            rotate_left
            · simp only [Act.put, List.setIfInBounds_toArray, List.set_cons_zero, List.set_cons_succ, i64_w, i32_w]
              rfl
            refine pure_ (i := 9) (N := some 259) (v := ?_) (a' := ?_) #[true, true, true, true, true, true, true, true, true, true, false, false, false, false, false, false, false, false, false, false, false, false, false, false, false, false, false, false, false, false, false, false, false, false, false, false] rfl rfl (any_of HT_.out (by kernel_rfl)) (fun _ _ _ h => h) (Or.inl ⟨by rfl, ?_⟩) ?_ ?_
            rotate_left
            · intro w'
              go_simp
              with_reducible rfl
            rotate_left
            · simp only [Act.put, List.setIfInBounds_toArray, List.set_cons_zero, List.set_cons_succ, i64_w, i32_w]
              rfl
            refine pure_ (i := 10) (N := some 260) (v := ?_) (a' := ?_) #[true, true, true, true, true, true, true, true, true, true, true, false, false, false, false, false, false, false, false, false, false, false, false, false, false, false, false, false, false, false, false, false, false, false, false, false] rfl rfl (any_of HT_.out (by kernel_rfl)) (fun _ _ _ h => h) (Or.inl ⟨by rfl, ?_⟩) ?_ ?_
            rotate_left
            · intro w'
              go_simp
              with_reducible rfl
            rotate_left
            · simp only [Act.put, List.setIfInBounds_toArray, List.set_cons_zero, List.set_cons_succ, i64_w, i32_w]
              rfl
            refine one_ (i := 11) (N := some 261) #[true, true, true, true, true, true, true, true, true, true, true, true, false, false, false, false, false, false, false, false, false, false, false, false, false, false, false, false, false, false, false, false, false, false, false, false] rfl rfl (one_of HT_.out (by kernel_rfl)) (by decide) (fun K hK => ?_)
            refine goes_ Tryz.func20 (by kernel_rfl) rfl #[.string (t366.extract ((ji49) : Int).toNat t366.size)] (by rfl) rfl rfl (by (try simp only [List.map_toArray, List.map_cons, List.map_nil]); first | done | (simp only [hji49]; rfl) | rfl | (simp only [List.length_drop, List.length_take]; rfl)) ?_
            with_reducible refine (laws_eDigits.calls k (t366.extract ((ji49) : Int).toNat t366.size) t404 _ A56.out).mono ?_
            rintro e w' ⟨rfl, ⟨nd, rfl⟩⟩
            refine ⟨_, rfl, ?_⟩
            refine hK.out _ _ trivial (fun hHeld => ?_)
            clear hK K
            refine norm_ (a' := ?_) ?_ ?_
            rotate_left
            · show Act.put _ (some 261) _ = _
              simp only [Act.put, List.setIfInBounds_toArray, List.set_cons_zero, List.set_cons_succ, i64_w, i32_w]
              rfl
            refine pure_ (i := 12) (N := some 262) (v := ?_) (a' := ?_) #[true, true, true, true, true, true, true, true, true, true, true, true, true, false, false, false, false, false, false, false, false, false, false, false, false, false, false, false, false, false, false, false, false, false, false, false] rfl rfl (any_of HT_.out (by kernel_rfl)) (fun _ _ _ h => h) (Or.inl ⟨by rfl, ?_⟩) ?_ ?_
            rotate_left
            · intro w'
              go_simp
              with_reducible rfl
            rotate_left
            · simp only [Act.put, List.setIfInBounds_toArray, List.set_cons_zero, List.set_cons_succ, i64_w, i32_w]
              rfl
            refine pure_ (i := 13) (N := some 263) (v := ?_) (a' := ?_) #[true, true, true, true, true, true, true, true, true, true, true, true, true, true, false, false, false, false, false, false, false, false, false, false, false, false, false, false, false, false, false, false, false, false, false, false] rfl rfl (any_of HT_.out (by kernel_rfl)) (fun _ _ _ h => h) (Or.inl ⟨by rfl, ?_⟩) ?_ ?_
            rotate_left
            · intro w'
              go_simp
              with_reducible rfl
            rotate_left
            · simp only [Act.put, List.setIfInBounds_toArray, List.set_cons_zero, List.set_cons_succ, i64_w, i32_w]
              rfl
            refine pure_ (i := 14) (N := some 264) (v := ?_) (a' := ?_) #[true, true, true, true, true, true, true, true, true, true, true, true, true, true, true, false, false, false, false, false, false, false, false, false, false, false, false, false, false, false, false, false, false, false, false, false] rfl rfl (any_of HT_.out (by kernel_rfl)) (fun _ _ _ h => h) (Or.inl ⟨by rfl, ?_⟩) ?_ ?_
            rotate_left
            · intro w'
              go_simp
              with_reducible rfl
            rotate_left
            · simp only [Act.put, List.setIfInBounds_toArray, List.set_cons_zero, List.set_cons_succ, i64_w, i32_w]
              rfl
            refine pure_ (i := 15) (N := some 265) (v := ?_) (a' := ?_) #[true, true, true, true, true, true, true, true, true, true, true, true, true, true, true, true, false, false, false, false, false, false, false, false, false, false, false, false, false, false, false, false, false, false, false, false] rfl rfl (any_of HT_.out (by kernel_rfl)) (fun _ _ _ h => h) (Or.inl ⟨by rfl, ?_⟩) ?_ ?_
            rotate_left
            · intro w'
              go_simp
              with_reducible rfl
            rotate_left
            · simp only [Act.put, List.setIfInBounds_toArray, List.set_cons_zero, List.set_cons_succ, i64_w, i32_w]
              rfl
            refine pure_ (i := 16) (N := some 266) (v := ?_) (a' := ?_) #[true, true, true, true, true, true, true, true, true, true, true, true, true, true, true, true, true, false, false, false, false, false, false, false, false, false, false, false, false, false, false, false, false, false, false, false] rfl rfl (any_of HT_.out (by kernel_rfl)) (fun _ _ _ h => h) (Or.inl ⟨by rfl, ?_⟩) ?_ ?_
            rotate_left
            · intro w'
              go_simp
              with_reducible rfl
            rotate_left
            · simp only [Act.put, List.setIfInBounds_toArray, List.set_cons_zero, List.set_cons_succ, i64_w, i32_w]
              rfl
            refine pure_ (i := 17) (N := some 267) (v := ?_) (a' := ?_) #[true, true, true, true, true, true, true, true, true, true, true, true, true, true, true, true, true, true, false, false, false, false, false, false, false, false, false, false, false, false, false, false, false, false, false, false] rfl rfl (any_of HT_.out (by kernel_rfl)) (fun _ _ _ h => h) (Or.inl ⟨by rfl, ?_⟩) ?_ ?_
            rotate_left
            · intro w'
              go_simp
              with_reducible rfl
            rotate_left
            · simp only [Act.put, List.setIfInBounds_toArray, List.set_cons_zero, List.set_cons_succ, i64_w, i32_w]
              rfl
            refine pure_ (i := 18) (N := some 268) (v := ?_) (a' := ?_) #[true, true, true, true, true, true, true, true, true, true, true, true, true, true, true, true, true, true, true, false, false, false, false, false, false, false, false, false, false, false, false, false, false, false, false, false] rfl rfl (any_of HT_.out (by kernel_rfl)) (fun _ _ _ h => h) (Or.inl ⟨by rfl, ?_⟩) ?_ ?_
            rotate_left
            · intro w'
              go_simp
              with_reducible rfl
            rotate_left
            · simp only [Act.put, List.setIfInBounds_toArray, List.set_cons_zero, List.set_cons_succ, i64_w, i32_w]
              rfl
            refine pure_ (i := 19) (N := some 269) (v := ?_) (a' := ?_) #[true, true, true, true, true, true, true, true, true, true, true, true, true, true, true, true, true, true, true, true, false, false, false, false, false, false, false, false, false, false, false, false, false, false, false, false] rfl rfl (any_of HT_.out (by kernel_rfl)) (fun _ _ _ h => h) (Or.inl ⟨by rfl, ?_⟩) ?_ ?_
            rotate_left
            · intro w'
              go_simp
              with_reducible rfl
            rotate_left
            · simp only [Act.put, List.setIfInBounds_toArray, List.set_cons_zero, List.set_cons_succ, i64_w, i32_w]
              rfl
            refine pure_ (i := 20) (N := some 270) (v := ?_) (a' := ?_) #[true, true, true, true, true, true, true, true, true, true, true, true, true, true, true, true, true, true, true, true, true, false, false, false, false, false, false, false, false, false, false, false, false, false, false, false] rfl rfl (any_of HT_.out (by kernel_rfl)) (fun _ _ _ h => h) (Or.inl ⟨by rfl, ?_⟩) ?_ ?_
            rotate_left
            · intro w'
              go_simp
              with_reducible rfl
            rotate_left
            · simp only [Act.put, List.setIfInBounds_toArray, List.set_cons_zero, List.set_cons_succ, i64_w, i32_w]
              rfl
            refine pure_ (i := 21) (N := some 271) (v := ?_) (a' := ?_) #[true, true, true, true, true, true, true, true, true, true, true, true, true, true, true, true, true, true, true, true, true, true, false, false, false, false, false, false, false, false, false, false, false, false, false, false] rfl rfl (any_of HT_.out (by kernel_rfl)) (fun _ _ _ h => h) (Or.inl ⟨by rfl, ?_⟩) ?_ ?_
            rotate_left
            · intro w'
              go_simp
              with_reducible rfl
            rotate_left
            · simp only [Act.put, List.setIfInBounds_toArray, List.set_cons_zero, List.set_cons_succ, i64_w, i32_w]
              rfl
            refine pure_ (i := 22) (N := some 272) (v := ?_) (a' := ?_) #[true, true, true, true, true, true, true, true, true, true, true, true, true, true, true, true, true, true, true, true, true, true, true, false, false, false, false, false, false, false, false, false, false, false, false, false] rfl rfl (any_of HT_.out (by kernel_rfl)) (fun _ _ _ h => h) (Or.inl ⟨by rfl, ?_⟩) ?_ ?_
            rotate_left
            · intro w'
              go_simp
              with_reducible rfl
            rotate_left
            · simp only [Act.put, List.setIfInBounds_toArray, List.set_cons_zero, List.set_cons_succ, i64_w, i32_w]
              rfl
            refine pure_ (i := 23) (N := some 273) (v := ?_) (a' := ?_) #[true, true, true, true, true, true, true, true, true, true, true, true, true, true, true, true, true, true, true, true, true, true, true, true, false, false, false, false, false, false, false, false, false, false, false, false] rfl rfl (any_of HT_.out (by kernel_rfl)) (fun _ _ _ h => h) (Or.inl ⟨by rfl, ?_⟩) ?_ ?_
            rotate_left
            · intro w'
              go_simp
              with_reducible rfl
            rotate_left
            · simp only [Act.put, List.setIfInBounds_toArray, List.set_cons_zero, List.set_cons_succ, i64_w, i32_w]
              rfl
            refine pure_ (i := 24) (N := some 274) (v := ?_) (a' := ?_) #[true, true, true, true, true, true, true, true, true, true, true, true, true, true, true, true, true, true, true, true, true, true, true, true, true, false, false, false, false, false, false, false, false, false, false, false] rfl rfl (any_of HT_.out (by kernel_rfl)) (fun _ _ _ h => h) (Or.inl ⟨by rfl, ?_⟩) ?_ ?_
            rotate_left
            · intro w'
              go_simp
              with_reducible rfl
            rotate_left
            · simp only [Act.put, List.setIfInBounds_toArray, List.set_cons_zero, List.set_cons_succ, i64_w, i32_w]
              rfl
            refine pure_ (i := 25) (N := some 275) (v := ?_) (a' := ?_) #[true, true, true, true, true, true, true, true, true, true, true, true, true, true, true, true, true, true, true, true, true, true, true, true, true, true, false, false, false, false, false, false, false, false, false, false] rfl rfl (any_of HT_.out (by kernel_rfl)) (fun _ _ _ h => h) (Or.inl ⟨by rfl, ?_⟩) ?_ ?_
            rotate_left
            · intro w'
              go_simp
              with_reducible rfl
            rotate_left
            · simp only [Act.put, List.setIfInBounds_toArray, List.set_cons_zero, List.set_cons_succ, i64_w, i32_w]
              rfl
            refine pure_ (i := 26) (N := some 276) (v := ?_) (a' := ?_) #[true, true, true, true, true, true, true, true, true, true, true, true, true, true, true, true, true, true, true, true, true, true, true, true, true, true, true, false, false, false, false, false, false, false, false, false] rfl rfl (any_of HT_.out (by kernel_rfl)) (fun _ _ _ h => h) (Or.inl ⟨by rfl, ?_⟩) ?_ ?_
            rotate_left
            · intro w'
              go_simp
              with_reducible rfl
            rotate_left
            · simp only [Act.put, List.setIfInBounds_toArray, List.set_cons_zero, List.set_cons_succ, i64_w, i32_w]
              rfl
            refine pure_ (i := 27) (N := some 277) (v := ?_) (a' := ?_) #[true, true, true, true, true, true, true, true, true, true, true, true, true, true, true, true, true, true, true, true, true, true, true, true, true, true, true, true, false, false, false, false, false, false, false, false] rfl rfl (any_of HT_.out (by kernel_rfl)) (fun _ _ _ h => h) (Or.inl ⟨by rfl, ?_⟩) ?_ ?_
            rotate_left
            · intro w'
              go_simp
              with_reducible rfl
            rotate_left
            · simp only [Act.put, List.setIfInBounds_toArray, List.set_cons_zero, List.set_cons_succ, i64_w, i32_w]
              rfl
            refine pure_ (i := 28) (N := some 278) (v := ?_) (a' := ?_) #[true, true, true, true, true, true, true, true, true, true, true, true, true, true, true, true, true, true, true, true, true, true, true, true, true, true, true, true, true, false, false, false, false, false, false, false] rfl rfl (any_of HT_.out (by kernel_rfl)) (fun _ _ _ h => h) (Or.inl ⟨by rfl, ?_⟩) ?_ ?_
            rotate_left
            · intro w'
              go_simp
              with_reducible rfl
            rotate_left
            · simp only [Act.put, List.setIfInBounds_toArray, List.set_cons_zero, List.set_cons_succ, i64_w, i32_w]
              rfl
            refine pure_ (i := 29) (N := some 279) (v := ?_) (a' := ?_) #[true, true, true, true, true, true, true, true, true, true, true, true, true, true, true, true, true, true, true, true, true, true, true, true, true, true, true, true, true, true, false, false, false, false, false, false] rfl rfl (any_of HT_.out (by kernel_rfl)) (fun _ _ _ h => h) (Or.inl ⟨by rfl, ?_⟩) ?_ ?_
            rotate_left
            · intro w'
              go_simp
              with_reducible rfl
            rotate_left
            · simp only [Act.put, List.setIfInBounds_toArray, List.set_cons_zero, List.set_cons_succ, i64_w, i32_w]
              rfl
            refine pure_ (i := 30) (N := some 280) (v := ?_) (a' := ?_) #[true, true, true, true, true, true, true, true, true, true, true, true, true, true, true, true, true, true, true, true, true, true, true, true, true, true, true, true, true, true, true, false, false, false, false, false] rfl rfl (any_of HT_.out (by kernel_rfl)) (fun _ _ _ h => h) (Or.inl ⟨by rfl, ?_⟩) ?_ ?_
            rotate_left
            · intro w'
              go_simp
              with_reducible rfl
            rotate_left
            · simp only [Act.put, List.setIfInBounds_toArray, List.set_cons_zero, List.set_cons_succ, i64_w, i32_w]
              rfl
            refine pure_ (i := 31) (N := some 281) (v := ?_) (a' := ?_) #[true, true, true, true, true, true, true, true, true, true, true, true, true, true, true, true, true, true, true, true, true, true, true, true, true, true, true, true, true, true, true, true, false, false, false, false] rfl rfl (any_of HT_.out (by kernel_rfl)) (fun _ _ _ h => h) (Or.inl ⟨by rfl, ?_⟩) ?_ ?_
            rotate_left
            · intro w'
              go_simp
              with_reducible rfl
            rotate_left
            · simp only [Act.put, List.setIfInBounds_toArray, List.set_cons_zero, List.set_cons_succ, i64_w, i32_w]
              rfl
            refine pure_ (i := 32) (N := some 282) (v := ?_) (a' := ?_) #[true, true, true, true, true, true, true, true, true, true, true, true, true, true, true, true, true, true, true, true, true, true, true, true, true, true, true, true, true, true, true, true, true, false, false, false] rfl rfl (any_of HT_.out (by kernel_rfl)) (fun _ _ _ h => h) (Or.inl ⟨by rfl, ?_⟩) ?_ ?_
            rotate_left
            · intro w'
              go_simp
              with_reducible rfl
            rotate_left
            · simp only [Act.put, List.setIfInBounds_toArray, List.set_cons_zero, List.set_cons_succ, i64_w, i32_w]
              rfl
            refine pure_ (i := 33) (N := some 283) (v := ?_) (a' := ?_) #[true, true, true, true, true, true, true, true, true, true, true, true, true, true, true, true, true, true, true, true, true, true, true, true, true, true, true, true, true, true, true, true, true, true, false, false] rfl rfl (any_of HT_.out (by kernel_rfl)) (fun _ _ _ h => h) (Or.inl ⟨by rfl, ?_⟩) ?_ ?_
            rotate_left
            · intro w'
              go_simp
              with_reducible rfl
            rotate_left
            · simp only [Act.put, List.setIfInBounds_toArray, List.set_cons_zero, List.set_cons_succ, i64_w, i32_w]
              rfl
            refine pure_ (i := 34) (N := some 284) (v := ?_) (a' := ?_) #[true, true, true, true, true, true, true, true, true, true, true, true, true, true, true, true, true, true, true, true, true, true, true, true, true, true, true, true, true, true, true, true, true, true, true, false] rfl rfl (any_of HT_.out (by kernel_rfl)) (fun _ _ _ h => h) (Or.inl ⟨by rfl, ?_⟩) ?_ ?_
            rotate_left
            · intro w'
              go_simp
              with_reducible rfl
            rotate_left
            · simp only [Act.put, List.setIfInBounds_toArray, List.set_cons_zero, List.set_cons_succ, i64_w, i32_w]
              rfl
            refine pure_ (i := 35) (N := some 285) (v := ?_) (a' := ?_) #[true, true, true, true, true, true, true, true, true, true, true, true, true, true, true, true, true, true, true, true, true, true, true, true, true, true, true, true, true, true, true, true, true, true, true, true] rfl rfl (any_of HT_.out (by kernel_rfl)) (fun _ _ _ h => h) (Or.inl ⟨by rfl, ?_⟩) ?_ ?_
            rotate_left
            · intro w'
              go_simp
              with_reducible rfl
            rotate_left
            · simp only [Act.put, List.setIfInBounds_toArray, List.set_cons_zero, List.set_cons_succ, i64_w, i32_w]
              rfl
            refine done_ (done_of HT_.out (by kernel_rfl)) ?_
            try go_wp2_with (first | ((with_reducible refine gate_dst (N := 289) rfl ?_); (try (refine gate_guard (by rfl) ?_; dsimp only)); refine Kd.R_lit Kd.string _ 9 ?hg (N := 289) ?hd (xs := ([t373, t377, t381] : List ByteArray)) (inner := [.string t373, .string t377, .string t381]) (ok := fun _ => True) (okp := fun _ => True) ?hr ?hp (fun _ hk => hk) trivial (Below.refl _ _) (Nat.le_refl _) (by simp) ?_; (case hd => rfl); (case hg => rfl); (case hr => first | (go_simp; done) | (go_simp; rfl)); (case hp => exact (Reps.one (show Kd.M Kd.string _ _ _ t373 [.string t373] from rfl) (Reps.one (show Kd.M Kd.string _ _ _ t377 [.string t377] from rfl) (Reps.one (show Kd.M Kd.string _ _ _ t381 [.string t381] from rfl) (Reps.none _ _))))); intro v406 w67 ho68 hb hg_ hnew_; clear hg_ hnew_; (first | rw [← Ny405.out] at ho68 | (simp only [Int.reduceToNat] at ho68; rw [← Ny405.out] at ho68)); have n0_ := Aside0.mk (Kd.R_below z11_4_ hb); have n1_ := Aside0.mk (Kd.R_below (by (with_reducible repeat (first | apply Kd.R_alloc | apply Kd.R_drewN | apply Kd.R_drew)); exact HO396.out) hb); have n2_ := Aside0.mk (Kd.R_lower ho68 (below_size z11_1_)); have n3_ := Aside0.mk (below_step z11_1_ hb); clear HO392; clear HO396; clear HB; have HO392 := n0_; have HO396 := n1_; have HO407 := n2_; have HB := n3_; clear n0_ n1_ n2_ n3_; clear hb ho68; obtain ⟨Ao69, co69, eo69⟩ := Kd.R_slice HO407.out; subst eo69))
            go_loopg [291] k (fun kq v291 w' => ∃ (x291_1 : Int), v291 = .int .i64 x291_1 ∧ Aside0 (laws_FnTicketsTurned.l0 kq l1 t366 t373 t377 t381 t385 t389 t399 y405 (y405.length : Int) x291_1 = some r) ∧ Aside0 (kq ≤ k) ∧ Aside0 (Kd.R (Kd.int .i64) 3 w' w.heap.size (fun _ => True) (.slice Ao45 t389.length co45) t389) ∧ Aside0 (Kd.R Kd.string 9 w' w.heap.size (fun _ => True) (.slice Ao69 y405.length co69) y405) ∧ Aside0 (Below w.heap.size w w'))
            case atStart => exact ⟨(0), z11_3_, H', ⟨Nat.le_refl _⟩, ⟨by (with_reducible repeat (first | apply Kd.R_alloc | apply Kd.R_drewN | apply Kd.R_drew)); exact Kd.R_mono HO392.out (fun _ hk => trivial)⟩, ⟨by (with_reducible repeat (first | apply Kd.R_alloc | apply Kd.R_drewN | apply Kd.R_drew)); exact HO407.out⟩, ⟨by repeat (first | (with_reducible first | exact HB.out | apply below_alloc | apply pw_below_drewN | apply below_drew1) | exact HB.out)⟩⟩
            case round =>
             clear H'
             (try clear c1);(try clear c2);(try clear p2);(try clear c3);(try clear c4);(try clear c5);(try clear c6);(try clear p6);(try clear c7);(try clear c8);(try clear c9);(try clear c10);(try clear c11);(try clear c12);(try clear c13);(try clear c14);(try clear c15);(try clear c16);(try clear c17);(try clear c18);(try clear c18b0);(try clear c18b1);(try clear c18b2);(try clear c19);(try clear c19b0);(try clear c19b1);(try clear c20);(try clear c20b0);(try clear c20b1);(try clear c21);(try clear c21b0);(try clear c21b1);(try clear c21b2);(try clear c22);(try clear c22b0);(try clear c22b1);(try clear c23);(try clear c23b0);(try clear c23b1);(try clear c23b2);(try clear c24);(try clear c24b0);(try clear c24b1);(try clear c25);(try clear c25b0);(try clear c25b1);(try clear c25b2);(try clear c26);(try clear c26b0);(try clear c26b1);(try clear c27);(try clear c27b0);(try clear c27b1);(try clear c27b2);(try clear c28);(try clear c28b0);(try clear c28b1);(try clear c28b2);(try clear c29);(try clear c29b0);(try clear c29b1);(try clear c29b2);(try clear c31);(try clear c32);(try clear c32b0);(try clear c32b1);(try clear c32b2);(try clear c33);(try clear c33b0);(try clear c33b1);(try clear c33b2);(try clear c34);(try clear c34b0);(try clear c34b1);(try clear c34b2);(try clear c35);(try clear c35b0);(try clear c35b1);(try clear c35b2);(try clear c36);(try clear c36b0);(try clear c36b1);(try clear c36b2);(try clear c47);(try clear c50);(try clear c50b0);(try clear c50b1);(try clear c51);(try clear c51b0);(try clear c51b1);(try clear c53);(try clear c53b0);(try clear c53b1);(try clear c54);(try clear c54b0);(try clear c55);(try clear c55b0);(try clear c57);(try clear c57b0);(try clear c57b1);(try clear c58);(try clear c59);(try clear c59b0);(try clear c59b1);(try clear c59b2);(try clear c60);(try clear c60b0);(try clear c61);(try clear c61b0);(try clear c62);(try clear c62b0);(try clear c63);(try clear c63b0);(try clear c64);(try clear c64b0);(try clear c64b1);(try clear c64b2);(try clear p64);(try clear c65);(try clear c65b0);(try clear c65b1)
             obtain ⟨x291_1, rfl, HA, HK1, HO_28, HO_289, HB⟩ := hrel
             cases gk with
             | zero => exact absurd HA.out (by simp [laws_FnTicketsTurned.l0])
             | succ k1 =>
              have H := HA.out
              clear HA
              simp only [laws_FnTicketsTurned.l0] at H
              by_cases c70 : x291_1 < (y405.length : Int)
              · rw [if_pos c70] at H
                have c70b0 : decide (x291_1 < (y405.length : Int)) = true := decide_eq_true c70
                clear c70
                by_cases c71 : 0 ≤ x291_1
                rotate_left
                · exact none_ (if_neg c71) H
                rw [if_pos c71] at H
                have c71b0 : decide (0 ≤ x291_1) = true := decide_eq_true c71
                clear c71
                by_cases c72 : x291_1 < (y405.length : Int)
                rotate_left
                · exact none_ (if_neg c72) H
                rw [if_pos c72] at H
                have c72b0 : decide (x291_1 < (y405.length : Int)) = true := decide_eq_true c72
                clear c72
                replace H := Option.bind_eq_some_iff.mp H
                obtain ⟨⟨t409, t410⟩, A730, H⟩ := H
                dsimp only at H
                have A73 := Aside0.mk A730
                clear A730
                by_cases c74 : t410 = true
                · subst c74
                  rw [if_pos rfl] at H
                  by_cases c75 : (t409 != t399) = true
                  · exact dead_ (if_pos c75) H hr_
                  rw [if_neg c75] at H
                  have c75b0 : (t409 != t399) = false := by simpa using c75
                  (try (have c75b1 : decide (t409 = t399) = true := by simpa using c75))
                  (try (have c75b2 : (t409 == t399) = true := by simpa using c75))
                  clear c75
                  by_cases c76 : ((rdOf ByteArray.empty y405 x291_1).size : Int) = (t366.size : Int)
                  rotate_left
                  · exact dead_ (if_neg c76) H hr_
                  rw [if_pos c76] at H
                  have c76b0 : (((rdOf ByteArray.empty y405 x291_1).size : Int) == (t366.size : Int)) = true := beq_iff_eq.mpr c76
                  have c76b1 : (((rdOf ByteArray.empty y405 x291_1).size : Int) != (t366.size : Int)) = false := bne_eq_false_iff_eq.mpr c76
                  have c76b2 : ((rdOf ByteArray.empty y405 x291_1).size == t366.size) = true := by first | simpa using c76 | (simp at c76 ⊢; omega)
                  clear c76
                  as_aux_lemma =>
                   have H' := Aside0.mk H
                   clear H
                   have p408 : 0 ≤ (x291_1 : Int) := of_decide_eq_true z11_2_
                   have q408 : x291_1 < (y405.length : Int) := of_decide_eq_true z11_2_
                   obtain ⟨ad408, e408, hx408_0⟩ := Kd.at_string (Kd.R_reads' HO_289.out).2.2 x291_1 p408 q408
                   cases e408
                   replace p408 := eq_true p408
                   replace q408 := eq_true q408
                   go_wp2_with (first | ((with_reducible refine gate_callee (f := 19) rfl ?_); refine goesL_ (some 297) rfl rfl Tryz.func19 (by kernel_rfl) rfl #[.string (rdOf ByteArray.empty y405 x291_1)] rfl z11_0_ ?_; (with_reducible refine (impl_IsLucky.calls k1 (rdOf ByteArray.empty y405 x291_1) t409 true _ A73.out).mono ?_); rintro e w' ⟨rfl, ⟨nd, rfl⟩⟩; refine ⟨_, rfl, ?_⟩))
                   go_roundg k1
                   case measure => have := HK1.out; omega
                   case rel => exact ⟨(wrap64 (x291_1 + 1)), z11_3_, H', ⟨by have := HK1.out; omega⟩, ⟨by (with_reducible repeat (first | apply Kd.R_alloc | apply Kd.R_drewN | apply Kd.R_drew)); exact HO_28.out⟩, ⟨by (with_reducible repeat (first | apply Kd.R_alloc | apply Kd.R_drewN | apply Kd.R_drew)); exact HO_289.out⟩, ⟨by repeat (first | (with_reducible first | exact HB.out | apply below_alloc | apply pw_below_drewN | apply below_drew1) | exact HB.out)⟩⟩
                replace c74 := Bool.eq_false_iff.mpr c74
                subst c74
                rw [if_neg (show ¬ (false = true) by decide)] at H
                as_aux_lemma =>
                 exact dead2_ H hr_
              rw [if_neg c70] at H
              have c70b0 : decide (x291_1 < (y405.length : Int)) = false := decide_eq_false c70
              clear c70
              as_aux_lemma =>
              replace H := Option.bind_eq_some_iff.mp H
              obtain ⟨⟨t411, t412⟩, A770, H⟩ := H
              dsimp only at H
              have A77 := Aside0.mk A770
              clear A770
              replace H := Option.bind_eq_some_iff.mp H
              obtain ⟨⟨t413, t414⟩, A780, H⟩ := H
              dsimp only at H
              have A78 := Aside0.mk A780
              clear A780
              replace H := Option.bind_eq_some_iff.mp H
              obtain ⟨⟨t415, t416⟩, A790, H⟩ := H
              dsimp only at H
              have A79 := Aside0.mk A790
              clear A790
              have H' := Aside0.mk H
              clear H
              go_wp2_with (first | ((with_reducible refine gate_callee (f := 8) rfl ?_); refine goesL_ (some 317) rfl rfl Tryz.func8 (by kernel_rfl) rfl #[.string t373] rfl z11_0_ ?_; (with_reducible refine (impl_TurnTicket.calls k1 t373 t411 t412 _ A77.out).mono ?_); rintro e w80 ⟨rfl, hb⟩; refine ⟨_, rfl, ?_⟩; have n0_ := Aside0.mk (Kd.R_below (by (with_reducible repeat (first | apply Kd.R_alloc | apply Kd.R_drewN | apply Kd.R_drew)); exact HO_28.out) hb); have n1_ := Aside0.mk (Kd.R_below (by (with_reducible repeat (first | apply Kd.R_alloc | apply Kd.R_drewN | apply Kd.R_drew)); exact HO_289.out) hb); have n2_ := Aside0.mk (below_step z11_1_ hb); clear HO_28; clear HO_289; clear HB; have HO_28 := n0_; have HO_289 := n1_; have HB := n2_; clear n0_ n1_ n2_; (try clear hb); (try clear hb2); (try clear hk); (try clear hi)) | ((with_reducible refine gate_callee (f := 10) rfl ?_); refine goesL_ (some 322) rfl rfl Tryz.func10 (by kernel_rfl) rfl #[.string t377] rfl z11_0_ ?_; (with_reducible refine (impl_SwapHalves.calls k1 t377 t413 t414 _ A78.out).mono ?_); rintro e w' ⟨rfl, ⟨nd, rfl⟩⟩; refine ⟨_, rfl, ?_⟩) | ((with_reducible refine gate_callee (f := 12) rfl ?_); refine goesL_ (some 327) rfl rfl Tryz.func12 (by kernel_rfl) rfl #[.string t381] rfl z11_0_ ?_; (with_reducible refine (impl_NinesTicket.calls k1 t381 t415 t416 _ A79.out).mono ?_); rintro e w81 ⟨rfl, hb⟩; refine ⟨_, rfl, ?_⟩; have n0_ := Aside0.mk (Kd.R_below (by (with_reducible repeat (first | apply Kd.R_alloc | apply Kd.R_drewN | apply Kd.R_drew)); exact HO_28.out) hb); have n1_ := Aside0.mk (Kd.R_below (by (with_reducible repeat (first | apply Kd.R_alloc | apply Kd.R_drewN | apply Kd.R_drew)); exact HO_289.out) hb); have n2_ := Aside0.mk (below_step z11_1_ hb); clear HO_28; clear HO_289; clear HB; have HO_28 := n0_; have HO_289 := n1_; have HB := n2_; clear n0_ n1_ n2_; (try clear hb); (try clear hb2); (try clear hk); (try clear hi)))
              have HO_28z := HO_28
              have HBz := HB
              go_loopg [45] k1 (fun kq v45 w' => ∃ (x45_2 : Int) (x331_2 : Int) (n331 : Nat), v45 = .int .i64 x45_2 ∧ Aside0 (x331_2 = (n331 : Int)) ∧ Aside0 (w'.heap[w81.heap.size]? = some (.stringIter t366 n331)) ∧ Aside0 (laws_FnTicketsTurned.l1 kq l1 t366 t373 t381 t385 t389 t411 t412 t413 t414 t415 t416 x45_2 t366 x331_2 = some r) ∧ Aside0 (kq ≤ k1) ∧ Aside0 (Below w81.heap.size w81 w'))
              case atStart => exact ⟨(0), (0), 0, (by first | rfl | (simp; done) | (simp [*]; done)), ⟨rfl⟩, ⟨World.iter_heap _ t366 0⟩, H', ⟨Nat.le_refl _⟩, ⟨by repeat (first | exact Below.refl _ _ | (with_reducible first | apply below_alloc | apply pw_below_drewN | apply below_drew1) | apply below_alloc)⟩⟩
              case round =>
               clear H'
               (try clear c1);(try clear c2);(try clear p2);(try clear c3);(try clear c4);(try clear p4);(try clear q4);(try clear hx4);(try clear c5);(try clear c6);(try clear p6);(try clear c7);(try clear c8);(try clear c9);(try clear c10);(try clear c11);(try clear c12);(try clear c13);(try clear c14);(try clear c15);(try clear c16);(try clear c17);(try clear c18);(try clear c18b0);(try clear c18b1);(try clear c18b2);(try clear c19);(try clear c19b0);(try clear c19b1);(try clear c20);(try clear c20b0);(try clear c20b1);(try clear c21);(try clear c21b0);(try clear c21b1);(try clear c21b2);(try clear c22);(try clear c22b0);(try clear c22b1);(try clear c23);(try clear c23b0);(try clear c23b1);(try clear c23b2);(try clear c24);(try clear c24b0);(try clear c24b1);(try clear c25);(try clear c25b0);(try clear c25b1);(try clear c25b2);(try clear c26);(try clear c26b0);(try clear c26b1);(try clear c27);(try clear c27b0);(try clear c27b1);(try clear c27b2);(try clear c28);(try clear c28b0);(try clear c28b1);(try clear c28b2);(try clear c29);(try clear c29b0);(try clear c29b1);(try clear c29b2);(try clear c31);(try clear c32);(try clear c32b0);(try clear c32b1);(try clear c32b2);(try clear c33);(try clear c33b0);(try clear c33b1);(try clear c33b2);(try clear c34);(try clear c34b0);(try clear c34b1);(try clear c34b2);(try clear c35);(try clear c35b0);(try clear c35b1);(try clear c35b2);(try clear c36);(try clear c36b0);(try clear c36b1);(try clear c36b2);(try clear p40);(try clear q40);(try clear hx40);(try clear c47);(try clear c50);(try clear c50b0);(try clear c50b1);(try clear c51);(try clear c51b0);(try clear c51b1);(try clear c53);(try clear c53b0);(try clear c53b1);(try clear c54);(try clear c54b0);(try clear c55);(try clear c55b0);(try clear c57);(try clear c57b0);(try clear c57b1);(try clear c58);(try clear c59);(try clear c59b0);(try clear c59b1);(try clear c59b2);(try clear c60);(try clear c60b0);(try clear c61);(try clear c61b0);(try clear c62);(try clear c62b0);(try clear c63);(try clear c63b0);(try clear c64);(try clear c64b0);(try clear c64b1);(try clear c64b2);(try clear p64);(try clear c65);(try clear c65b0);(try clear c65b1);(try clear c70);(try clear c70b0);(try clear c71);(try clear c71b0);(try clear c72);(try clear c72b0);(try clear c74);(try clear c75);(try clear c75b0);(try clear c75b1);(try clear c75b2);(try clear c76);(try clear c76b0);(try clear c76b1);(try clear c76b2);(try clear hx408_0);(try clear p2);(try clear p408);(try clear p6);(try clear p64);(try clear q408)
               obtain ⟨x45_2, x331_2, n331, rfl, HN331, HI331, HA, HK2, HY331⟩ := hrel
               cases gk with
               | zero => exact absurd HA.out (by simp [laws_FnTicketsTurned.l1])
               | succ k2 =>
                have H := HA.out
                clear HA
                simp only [laws_FnTicketsTurned.l1] at H
                by_cases c82 : x331_2 < (t366.size : Int)
                · rw [if_pos c82] at H
                  have hc331 : n331 < t366.size := by have := HN331.out; omega
                  have c82b0 : decide (x331_2 < (t366.size : Int)) = true := decide_eq_true c82
                  clear c82
                  by_cases c83 : 0 ≤ x331_2
                  rotate_left
                  · exact none_ (if_neg c83) H
                  rw [if_pos c83] at H
                  have c83b0 : decide (0 ≤ x331_2) = true := decide_eq_true c83
                  clear c83
                  by_cases ca331 : bt t366 x331_2 < 128 ∧ x331_2 < 4611686018427387904
                  rotate_left
                  · exact none_ (if_neg ca331) H
                  rw [if_pos ca331] at H
                  have hs331 : n331 < 4611686018427387904 := by have := HN331.out; have := ca331.2; omega
                  have ha331 : (t366[n331]'hc331).toNat < 128 := by have h_ := ca331.1; rw [HN331.out, byte_ t366 n331 hc331] at h_; omega
                  have hnx331 := fun ty => Lib.run_next_ascii_at (P := Tryz.prog) wr w81.heap.size t366 n331 ty HI331.out hc331 ha331
                  rw [← HN331.out] at hnx331
                  have HY1 := Aside0.mk (Lib.below_iterAt HY331.out (Nat.le_refl _) t366 (n331 + 1))
                  have HI1 := Aside0.mk (Lib.iterAt_heap wr w81.heap.size t366 n331 (n331 + 1) HI331.out)
                  clear HY331 HI331 ca331 ha331
                  generalize wr.iterAt w81.heap.size t366 (n331 + 1) = wr1 at hnx331 HY1 HI1
                  have HY331 := HY1
                  have HI331 := HI1
                  clear HY1 HI1
                  have HS331 := Aside0.mk hs331
                  clear hs331
                  have HO_28 := Aside0.mk (Kd.R_below HO_28z.out HY331.out)
                  have HB := Aside0.mk (below_step HBz.out HY331.out)
                  as_aux_lemma =>
                  by_cases c84 : x331_2 < (t373.size : Int)
                  rotate_left
                  · exact none_ (if_neg c84) H
                  rw [if_pos c84] at H
                  have c84b0 : decide (x331_2 < (t373.size : Int)) = true := decide_eq_true c84
                  clear c84
                  obtain ⟨ji86, hji86⟩ : ∃ j_ : Int, (wrap64 ((wrap64 ((t366.size : Int) - 1)) - x331_2)) = j_ := ⟨_, rfl⟩
                  replace H : (if 0 ≤ (ji86) then (if (ji86) < (t366.size : Int) then (if (bt t373 x331_2) = (bt t366 (ji86)) then (if x331_2 < (t366.size : Int) then (if x331_2 < (t381.size : Int) then (if (((bt t366 x331_2) + (bt t381 x331_2)) % 256) = 105 then (if (Int.tmod x331_2 2) = 0 then (laws_FnTicketsTurned.l1 k2 l1 t366 t373 t381 t385 t389 t411 t412 t413 t414 t415 t416 (wrap64 (x45_2 + (wrap64 (bt t366 x331_2)))) t366 (wrap64 (x331_2 + 1))) else (laws_FnTicketsTurned.l1 k2 l1 t366 t373 t381 t385 t389 t411 t412 t413 t414 t415 t416 (wrap64 (x45_2 - (wrap64 (bt t366 x331_2)))) t366 (wrap64 (x331_2 + 1)))) else (some false)) else (none)) else (none)) else (some false)) else (none)) else (none)) = some r := by first | (rw [hji86] at H; exact H) | (simp only [hji86] at H ⊢; exact H)
                  have hji86w : (IntKind.i64.wrap ((wrap64 ((t366.size : Int) - 1)) - x331_2)) = ji86 := (i64_w _).trans hji86
                  by_cases c87 : 0 ≤ (ji86)
                  rotate_left
                  · exact none_ (if_neg c87) H
                  rw [if_pos c87] at H
                  have c87b0 : decide (0 ≤ (ji86)) = true := decide_eq_true c87
                  clear c87
                  by_cases c88 : (ji86) < (t366.size : Int)
                  rotate_left
                  · exact none_ (if_neg c88) H
                  rw [if_pos c88] at H
                  have c88b0 : decide ((ji86) < (t366.size : Int)) = true := decide_eq_true c88
                  clear c88
                  by_cases c90 : (bt t373 x331_2) = (bt t366 (ji86))
                  · rw [if_pos c90] at H
                    have c90b0 : ((bt t373 x331_2) == (bt t366 (ji86))) = true := beq_iff_eq.mpr c90
                    have c90b1 : ((bt t373 x331_2) != (bt t366 (ji86))) = false := bne_eq_false_iff_eq.mpr c90
                    clear c90
                    by_cases c91 : x331_2 < (t366.size : Int)
                    rotate_left
                    · exact none_ (if_neg c91) H
                    rw [if_pos c91] at H
                    have c91b0 : decide (x331_2 < (t366.size : Int)) = true := decide_eq_true c91
                    clear c91
                    by_cases c93 : x331_2 < (t381.size : Int)
                    rotate_left
                    · exact none_ (if_neg c93) H
                    rw [if_pos c93] at H
                    have c93b0 : decide (x331_2 < (t381.size : Int)) = true := decide_eq_true c93
                    clear c93
                    by_cases c95 : (((bt t366 x331_2) + (bt t381 x331_2)) % 256) = 105
                    rotate_left
                    · exact dead_ (if_neg c95) H hr_
                    rw [if_pos c95] at H
                    have c95b0 : ((((bt t366 x331_2) + (bt t381 x331_2)) % 256) == 105) = true := beq_iff_eq.mpr c95
                    have c95b4 : (IntKind.u8.wrap ((bt t366 x331_2) + (bt t381 x331_2)) == 105) = true := c95b0
                    have c95b1 : ((((bt t366 x331_2) + (bt t381 x331_2)) % 256) != 105) = false := bne_eq_false_iff_eq.mpr c95
                    have c95b5 : (IntKind.u8.wrap ((bt t366 x331_2) + (bt t381 x331_2)) != 105) = false := c95b1
                    clear c95
                    by_cases c96 : (Int.tmod x331_2 2) = 0
                    · rw [if_pos c96] at H
                      have c96b0 : ((Int.tmod x331_2 2) == 0) = true := beq_iff_eq.mpr c96
                      have c96b1 : ((Int.tmod x331_2 2) != 0) = false := bne_eq_false_iff_eq.mpr c96
                      clear c96
                      as_aux_lemma =>
                       have H' := Aside0.mk H
                       clear H
                       try go_wp2
                       have n0_ := Aside0.mk (Kd.R_drew HO_28.out)
                       have n1_ := Aside0.mk (below_drew1 HB.out)
                       have HY331 := Aside0.mk (below_drew1 HY331.out)
                       have HI331 := Aside0.mk (show wr1.drew.heap[w81.heap.size]? = _ from HI331.out)
                       clear HO_28
                       clear HB
                       have HO_28 := n0_
                       have HB := n1_
                       clear n0_ n1_
                       have p85 : 0 ≤ (x331_2 : Int) := of_decide_eq_true z11_2_
                       have q85 : x331_2 < (t373.size : Int) := of_decide_eq_true z11_2_
                       have hx85 := bt_at t373 x331_2
                       replace p85 := eq_true p85
                       replace q85 := eq_true q85
                       have p89 : 0 ≤ ((ji86) : Int) := of_decide_eq_true z11_2_
                       have q89 : (ji86) < (t366.size : Int) := of_decide_eq_true z11_2_
                       have hx89 := bt_at t366 (ji86)
                       replace p89 := eq_true p89
                       replace q89 := eq_true q89
                       have p92 : 0 ≤ (x331_2 : Int) := of_decide_eq_true z11_2_
                       have q92 : x331_2 < (t366.size : Int) := of_decide_eq_true z11_2_
                       have hx92 := bt_at t366 x331_2
                       replace p92 := eq_true p92
                       replace q92 := eq_true q92
                       have p94 : 0 ≤ (x331_2 : Int) := of_decide_eq_true z11_2_
                       have q94 : x331_2 < (t381.size : Int) := of_decide_eq_true z11_2_
                       have hx94 := bt_at t381 x331_2
                       replace p94 := eq_true p94
                       replace q94 := eq_true q94
                       refine start_ (n := 21) (S := fun w' => True) (ds := []) #[false, false, false, false, false, false, false, false, false, false, false, false, false, false, false, false, false, false, false, false, false] (by kernel_rfl) rfl rfl trivial (fun hHeld => ?_); refine with_tabW laws_FnTicketsTurned.tab37 laws_FnTicketsTurned.bits37 (fun HT_ HW_ => ?_)
                       generalize wr1.drew = w98 at HO_28 HB HY331 HI331 hHeld ⊢
                       refine pure_ (i := 0) (N := some 335) (v := ?_) (a' := ?_) #[true, false, false, false, false, false, false, false, false, false, false, false, false, false, false, false, false, false, false, false, false] rfl rfl (any_of HT_.out (by kernel_rfl)) (fun _ _ _ h => h) (Or.inl ⟨by rfl, ?_⟩) ?_ ?_
                       rotate_left
                       · intro w'
                         go_simp
                         with_reducible rfl
                       rotate_left
                       · simp only [Act.put, List.setIfInBounds_toArray, List.set_cons_zero, List.set_cons_succ, i64_w, i32_w]
                         rfl
                       refine pure_ (i := 1) (N := some 336) (v := ?_) (a' := ?_) #[true, true, false, false, false, false, false, false, false, false, false, false, false, false, false, false, false, false, false, false, false] rfl rfl (any_of HT_.out (by kernel_rfl)) (fun _ _ _ h => h) (Or.inl ⟨by rfl, ?_⟩) ?_ ?_
                       rotate_left
                       · intro w'
                         go_simp
                         with_reducible rfl
                       rotate_left
                       · simp only [Act.put, List.setIfInBounds_toArray, List.set_cons_zero, List.set_cons_succ, i64_w, i32_w]
                         rfl
                       refine pure_ (i := 3) (N := some 338) (v := ?_) (a' := ?_) #[true, true, false, true, false, false, false, false, false, false, false, false, false, false, false, false, false, false, false, false, false] rfl rfl (any_of HT_.out (by kernel_rfl)) (fun _ _ _ h => h) (Or.inl ⟨by rfl, ?_⟩) ?_ ?_
                       rotate_left
                       · intro w'
                         go_simp
                         with_reducible rfl
                       rotate_left
                       · simp only [Act.put, List.setIfInBounds_toArray, List.set_cons_zero, List.set_cons_succ, i64_w, i32_w]
                         rfl
                       refine pure_ (i := 4) (N := some 339) (v := ?_) (a' := ?_) #[true, true, false, true, true, false, false, false, false, false, false, false, false, false, false, false, false, false, false, false, false] rfl rfl (any_of HT_.out (by kernel_rfl)) (fun _ _ _ h => h) (Or.inl ⟨by rfl, ?_⟩) ?_ ?_
                       rotate_left
                       · intro w'
                         go_simp
                         with_reducible rfl
                       rotate_left
                       · simp only [Act.put, List.setIfInBounds_toArray, List.set_cons_zero, List.set_cons_succ, i64_w, i32_w]
                         rfl
                       refine pure_ (i := 5) (N := some 340) (v := ?_) (a' := ?_) #[true, true, false, true, true, true, false, false, false, false, false, false, false, false, false, false, false, false, false, false, false] rfl rfl (any_of HT_.out (by kernel_rfl)) (fun _ _ _ h => h) (Or.inl ⟨by rfl, ?_⟩) ?_ ?_
                       rotate_left
                       · intro w'
                         go_simp
                         with_reducible rfl
                       rotate_left
                       · simp only [Act.put, List.setIfInBounds_toArray, List.set_cons_zero, List.set_cons_succ, i64_w, i32_w]
                         rfl
                       refine pure_ (i := 6) (N := some 341) (v := ?_) (a' := ?_) #[true, true, false, true, true, true, true, false, false, false, false, false, false, false, false, false, false, false, false, false, false] rfl rfl (any_of HT_.out (by kernel_rfl)) (fun _ _ _ h => h) (Or.inl ⟨by rfl, ?_⟩) ?_ ?_
                       rotate_left
                       · intro w'
                         go_simp
                         with_reducible rfl
                       rotate_left
                       · simp only [Act.put, List.setIfInBounds_toArray, List.set_cons_zero, List.set_cons_succ, i64_w, i32_w]
                         rfl
                       refine pure_ (i := 7) (N := some 342) (v := ?_) (a' := ?_) #[true, true, false, true, true, true, true, true, false, false, false, false, false, false, false, false, false, false, false, false, false] rfl rfl (any_of HT_.out (by kernel_rfl)) (fun _ _ _ h => h) (Or.inl ⟨by rfl, ?_⟩) ?_ ?_
                       rotate_left
                       · intro w'
                         go_simp
                         with_reducible rfl
                       rotate_left
                       · simp only [Act.put, List.setIfInBounds_toArray, List.set_cons_zero, List.set_cons_succ, i64_w, i32_w]
                         rfl
                       refine pure_ (i := 8) (N := some 343) (v := ?_) (a' := ?_) #[true, true, false, true, true, true, true, true, true, false, false, false, false, false, false, false, false, false, false, false, false] rfl rfl (any_of HT_.out (by kernel_rfl)) (fun _ _ _ h => h) (Or.inl ⟨by rfl, ?_⟩) ?_ ?_
                       rotate_left
                       · intro w'
                         go_simp
                         with_reducible rfl
                       rotate_left
                       · simp only [Act.put, List.setIfInBounds_toArray, List.set_cons_zero, List.set_cons_succ, i64_w, i32_w]
                         rfl
                       refine take_ (i := 2) (N := some 337) (v := ?_) (a' := ?_) #[true, true, true, true, true, true, true, true, true, false, false, false, false, false, false, false, false, false, false, false, false] rfl rfl (take_ofW HT_.out HW_.out (by kernel_rfl)) (fun _ _ _ h => h) (Or.inl ⟨by rfl, ?_⟩) hHeld ?_ ?_
                       rotate_left
                       · intro w' _
                         go_simp
                         with_reducible rfl
                       rotate_left
                       · simp only [Act.put, List.setIfInBounds_toArray, List.set_cons_zero, List.set_cons_succ, i64_w, i32_w]
                         rfl
                       refine take_ (i := 9) (N := some 344) (v := ?_) (a' := ?_) #[true, true, true, true, true, true, true, true, true, true, false, false, false, false, false, false, false, false, false, false, false] rfl rfl (take_ofW HT_.out HW_.out (by kernel_rfl)) (fun _ _ _ h => h) (Or.inl ⟨by rfl, ?_⟩) hHeld ?_ ?_
                       rotate_left
                       · intro w' _
                         go_simp
                         with_reducible rfl
                       rotate_left
                       · simp only [Act.put, List.setIfInBounds_toArray, List.set_cons_zero, List.set_cons_succ, i64_w, i32_w]
                         rfl
                       refine pure_ (i := 10) (N := some 345) (v := ?_) (a' := ?_) #[true, true, true, true, true, true, true, true, true, true, true, false, false, false, false, false, false, false, false, false, false] rfl rfl (any_of HT_.out (by kernel_rfl)) (fun _ _ _ h => h) (Or.inl ⟨by rfl, ?_⟩) ?_ ?_
                       rotate_left
                       · intro w'
                         go_simp
                         with_reducible rfl
                       rotate_left
                       · simp only [Act.put, List.setIfInBounds_toArray, List.set_cons_zero, List.set_cons_succ, i64_w, i32_w]
                         rfl
                       refine pure_ (i := 11) (N := some 346) (v := ?_) (a' := ?_) #[true, true, true, true, true, true, true, true, true, true, true, true, false, false, false, false, false, false, false, false, false] rfl rfl (any_of HT_.out (by kernel_rfl)) (fun _ _ _ h => h) (Or.inl ⟨by rfl, ?_⟩) ?_ ?_
                       rotate_left
                       · intro w'
                         go_simp
                         with_reducible rfl
                       rotate_left
                       · simp only [Act.put, List.setIfInBounds_toArray, List.set_cons_zero, List.set_cons_succ, i64_w, i32_w]
                         rfl
                       refine pure_ (i := 12) (N := some 347) (v := ?_) (a' := ?_) #[true, true, true, true, true, true, true, true, true, true, true, true, true, false, false, false, false, false, false, false, false] rfl rfl (any_of HT_.out (by kernel_rfl)) (fun _ _ _ h => h) (Or.inl ⟨by rfl, ?_⟩) ?_ ?_
                       rotate_left
                       · intro w'
                         go_simp
                         with_reducible rfl
                       rotate_left
                       · simp only [Act.put, List.setIfInBounds_toArray, List.set_cons_zero, List.set_cons_succ, i64_w, i32_w]
                         rfl
                       refine pure_ (i := 13) (N := some 348) (v := ?_) (a' := ?_) #[true, true, true, true, true, true, true, true, true, true, true, true, true, true, false, false, false, false, false, false, false] rfl rfl (any_of HT_.out (by kernel_rfl)) (fun _ _ _ h => h) (Or.inl ⟨by rfl, ?_⟩) ?_ ?_
                       rotate_left
                       · intro w'
                         go_simp
                         with_reducible rfl
                       rotate_left
                       · simp only [Act.put, List.setIfInBounds_toArray, List.set_cons_zero, List.set_cons_succ, i64_w, i32_w]
                         rfl
                       refine pure_ (i := 15) (N := some 350) (v := ?_) (a' := ?_) #[true, true, true, true, true, true, true, true, true, true, true, true, true, true, false, true, false, false, false, false, false] rfl rfl (any_of HT_.out (by kernel_rfl)) (fun _ _ _ h => h) (Or.inl ⟨by rfl, ?_⟩) ?_ ?_
                       rotate_left
                       · intro w'
                         go_simp
                         with_reducible rfl
                       rotate_left
                       · simp only [Act.put, List.setIfInBounds_toArray, List.set_cons_zero, List.set_cons_succ, i64_w, i32_w]
                         rfl
                       refine pure_ (i := 16) (N := some 351) (v := ?_) (a' := ?_) #[true, true, true, true, true, true, true, true, true, true, true, true, true, true, false, true, true, false, false, false, false] rfl rfl (any_of HT_.out (by kernel_rfl)) (fun _ _ _ h => h) (Or.inl ⟨by rfl, ?_⟩) ?_ ?_
                       rotate_left
                       · intro w'
                         go_simp
                         with_reducible rfl
                       rotate_left
                       · simp only [Act.put, List.setIfInBounds_toArray, List.set_cons_zero, List.set_cons_succ, i64_w, i32_w]
                         rfl
                       refine take_ (i := 14) (N := some 349) (v := ?_) (a' := ?_) #[true, true, true, true, true, true, true, true, true, true, true, true, true, true, true, true, true, false, false, false, false] rfl rfl (take_ofW HT_.out HW_.out (by kernel_rfl)) (fun _ _ _ h => h) (Or.inl ⟨by rfl, ?_⟩) hHeld ?_ ?_
                       rotate_left
                       · intro w' _
                         go_simp
                         with_reducible rfl
                       rotate_left
                       · simp only [Act.put, List.setIfInBounds_toArray, List.set_cons_zero, List.set_cons_succ, i64_w, i32_w]
                         rfl
                       refine take_ (i := 17) (N := some 352) (v := ?_) (a' := ?_) #[true, true, true, true, true, true, true, true, true, true, true, true, true, true, true, true, true, true, false, false, false] rfl rfl (take_ofW HT_.out HW_.out (by kernel_rfl)) (fun _ _ _ h => h) (Or.inl ⟨by rfl, ?_⟩) hHeld ?_ ?_
                       rotate_left
                       · intro w' _
                         go_simp
                         with_reducible rfl
                       rotate_left
                       · simp only [Act.put, List.setIfInBounds_toArray, List.set_cons_zero, List.set_cons_succ, i64_w, i32_w]
                         rfl
                       refine pure_ (i := 18) (N := some 353) (v := ?_) (a' := ?_) #[true, true, true, true, true, true, true, true, true, true, true, true, true, true, true, true, true, true, true, false, false] rfl rfl (any_of HT_.out (by kernel_rfl)) (fun _ _ _ h => h) (Or.inl ⟨by rfl, ?_⟩) ?_ ?_
                       rotate_left
                       · intro w'
                         go_simp
                         with_reducible rfl
                       rotate_left
                       · simp only [Act.put, List.setIfInBounds_toArray, List.set_cons_zero, List.set_cons_succ, i64_w, i32_w]
                         rfl
                       refine pure_ (i := 19) (N := some 354) (v := ?_) (a' := ?_) #[true, true, true, true, true, true, true, true, true, true, true, true, true, true, true, true, true, true, true, true, false] rfl rfl (any_of HT_.out (by kernel_rfl)) (fun _ _ _ h => h) (Or.inl ⟨by rfl, ?_⟩) ?_ ?_
                       rotate_left
                       · intro w'
                         go_simp
                         with_reducible rfl
                       rotate_left
                       · simp only [Act.put, List.setIfInBounds_toArray, List.set_cons_zero, List.set_cons_succ, i64_w, i32_w]
                         rfl
                       refine pure_ (i := 20) (N := some 355) (v := ?_) (a' := ?_) #[true, true, true, true, true, true, true, true, true, true, true, true, true, true, true, true, true, true, true, true, true] rfl rfl (any_of HT_.out (by kernel_rfl)) (fun _ _ _ h => h) (Or.inl ⟨by rfl, ?_⟩) ?_ ?_
                       rotate_left
                       · intro w'
                         go_simp
                         with_reducible rfl
                       rotate_left
                       · simp only [Act.put, List.setIfInBounds_toArray, List.set_cons_zero, List.set_cons_succ, i64_w, i32_w]
                         rfl
                       refine done_ (done_of HT_.out (by kernel_rfl)) ?_
                       have p97 : 0 ≤ (x331_2 : Int) := of_decide_eq_true z11_2_
                       have q97 : x331_2 < (t366.size : Int) := of_decide_eq_true z11_2_
                       have hx97 := bt_at t366 x331_2
                       replace p97 := eq_true p97
                       replace q97 := eq_true q97
                       try go_wp2
                       go_roundg k2
                       case measure => have := HK1.out; have := HK2.out; omega
                       case rel => exact ⟨(wrap64 (x45_2 + (wrap64 (bt t366 x331_2)))), (wrap64 (x331_2 + 1)), n331 + 1, (by first | rfl | (simp; done) | (simp [*]; done)), ⟨by rw [HN331.out]; exact wrapn_ n331 HS331.out⟩, ⟨HI331.out⟩, H', ⟨by have := HK1.out; have := HK2.out; omega⟩, ⟨by repeat (first | exact HY331.out | (with_reducible first | apply below_alloc | apply pw_below_drewN | apply below_drew1))⟩⟩
                    rw [if_neg c96] at H
                    have c96b0 : ((Int.tmod x331_2 2) == 0) = false := beq_eq_false_iff_ne.mpr c96
                    have c96b1 : ((Int.tmod x331_2 2) != 0) = true := bne_iff_ne.mpr c96
                    as_aux_lemma =>
                     have H' := Aside0.mk H
                     clear H
                     try go_wp2
                     have n0_ := Aside0.mk (Kd.R_drew HO_28.out)
                     have n1_ := Aside0.mk (below_drew1 HB.out)
                     have HY331 := Aside0.mk (below_drew1 HY331.out)
                     have HI331 := Aside0.mk (show wr1.drew.heap[w81.heap.size]? = _ from HI331.out)
                     clear HO_28
                     clear HB
                     have HO_28 := n0_
                     have HB := n1_
                     clear n0_ n1_
                     have p85 : 0 ≤ (x331_2 : Int) := of_decide_eq_true z11_2_
                     have q85 : x331_2 < (t373.size : Int) := of_decide_eq_true z11_2_
                     have hx85 := bt_at t373 x331_2
                     replace p85 := eq_true p85
                     replace q85 := eq_true q85
                     have p89 : 0 ≤ ((ji86) : Int) := of_decide_eq_true z11_2_
                     have q89 : (ji86) < (t366.size : Int) := of_decide_eq_true z11_2_
                     have hx89 := bt_at t366 (ji86)
                     replace p89 := eq_true p89
                     replace q89 := eq_true q89
                     have p92 : 0 ≤ (x331_2 : Int) := of_decide_eq_true z11_2_
                     have q92 : x331_2 < (t366.size : Int) := of_decide_eq_true z11_2_
                     have hx92 := bt_at t366 x331_2
                     replace p92 := eq_true p92
                     replace q92 := eq_true q92
                     have p94 : 0 ≤ (x331_2 : Int) := of_decide_eq_true z11_2_
                     have q94 : x331_2 < (t381.size : Int) := of_decide_eq_true z11_2_
                     have hx94 := bt_at t381 x331_2
                     replace p94 := eq_true p94
                     replace q94 := eq_true q94
                     refine start_ (n := 21) (S := fun w' => True) (ds := []) #[false, false, false, false, false, false, false, false, false, false, false, false, false, false, false, false, false, false, false, false, false] (by kernel_rfl) rfl rfl trivial (fun hHeld => ?_); refine with_tabW laws_FnTicketsTurned.tab37 laws_FnTicketsTurned.bits37 (fun HT_ HW_ => ?_)
                     generalize wr1.drew = w100 at HO_28 HB HY331 HI331 hHeld ⊢
                     refine pure_ (i := 0) (N := some 335) (v := ?_) (a' := ?_) #[true, false, false, false, false, false, false, false, false, false, false, false, false, false, false, false, false, false, false, false, false] rfl rfl (any_of HT_.out (by kernel_rfl)) (fun _ _ _ h => h) (Or.inl ⟨by rfl, ?_⟩) ?_ ?_
                     rotate_left
                     · intro w'
                       go_simp
                       with_reducible rfl
                     rotate_left
                     · simp only [Act.put, List.setIfInBounds_toArray, List.set_cons_zero, List.set_cons_succ, i64_w, i32_w]
                       rfl
                     refine pure_ (i := 1) (N := some 336) (v := ?_) (a' := ?_) #[true, true, false, false, false, false, false, false, false, false, false, false, false, false, false, false, false, false, false, false, false] rfl rfl (any_of HT_.out (by kernel_rfl)) (fun _ _ _ h => h) (Or.inl ⟨by rfl, ?_⟩) ?_ ?_
                     rotate_left
                     · intro w'
                       go_simp
                       with_reducible rfl
                     rotate_left
                     · simp only [Act.put, List.setIfInBounds_toArray, List.set_cons_zero, List.set_cons_succ, i64_w, i32_w]
                       rfl
                     refine pure_ (i := 3) (N := some 338) (v := ?_) (a' := ?_) #[true, true, false, true, false, false, false, false, false, false, false, false, false, false, false, false, false, false, false, false, false] rfl rfl (any_of HT_.out (by kernel_rfl)) (fun _ _ _ h => h) (Or.inl ⟨by rfl, ?_⟩) ?_ ?_
                     rotate_left
                     · intro w'
                       go_simp
                       with_reducible rfl
                     rotate_left
                     · simp only [Act.put, List.setIfInBounds_toArray, List.set_cons_zero, List.set_cons_succ, i64_w, i32_w]
                       rfl
                     refine pure_ (i := 4) (N := some 339) (v := ?_) (a' := ?_) #[true, true, false, true, true, false, false, false, false, false, false, false, false, false, false, false, false, false, false, false, false] rfl rfl (any_of HT_.out (by kernel_rfl)) (fun _ _ _ h => h) (Or.inl ⟨by rfl, ?_⟩) ?_ ?_
                     rotate_left
                     · intro w'
                       go_simp
                       with_reducible rfl
                     rotate_left
                     · simp only [Act.put, List.setIfInBounds_toArray, List.set_cons_zero, List.set_cons_succ, i64_w, i32_w]
                       rfl
                     refine pure_ (i := 5) (N := some 340) (v := ?_) (a' := ?_) #[true, true, false, true, true, true, false, false, false, false, false, false, false, false, false, false, false, false, false, false, false] rfl rfl (any_of HT_.out (by kernel_rfl)) (fun _ _ _ h => h) (Or.inl ⟨by rfl, ?_⟩) ?_ ?_
                     rotate_left
                     · intro w'
                       go_simp
                       with_reducible rfl
                     rotate_left
                     · simp only [Act.put, List.setIfInBounds_toArray, List.set_cons_zero, List.set_cons_succ, i64_w, i32_w]
                       rfl
                     refine pure_ (i := 6) (N := some 341) (v := ?_) (a' := ?_) #[true, true, false, true, true, true, true, false, false, false, false, false, false, false, false, false, false, false, false, false, false] rfl rfl (any_of HT_.out (by kernel_rfl)) (fun _ _ _ h => h) (Or.inl ⟨by rfl, ?_⟩) ?_ ?_
                     rotate_left
                     · intro w'
                       go_simp
                       with_reducible rfl
                     rotate_left
                     · simp only [Act.put, List.setIfInBounds_toArray, List.set_cons_zero, List.set_cons_succ, i64_w, i32_w]
                       rfl
                     refine pure_ (i := 7) (N := some 342) (v := ?_) (a' := ?_) #[true, true, false, true, true, true, true, true, false, false, false, false, false, false, false, false, false, false, false, false, false] rfl rfl (any_of HT_.out (by kernel_rfl)) (fun _ _ _ h => h) (Or.inl ⟨by rfl, ?_⟩) ?_ ?_
                     rotate_left
                     · intro w'
                       go_simp
                       with_reducible rfl
                     rotate_left
                     · simp only [Act.put, List.setIfInBounds_toArray, List.set_cons_zero, List.set_cons_succ, i64_w, i32_w]
                       rfl
                     refine pure_ (i := 8) (N := some 343) (v := ?_) (a' := ?_) #[true, true, false, true, true, true, true, true, true, false, false, false, false, false, false, false, false, false, false, false, false] rfl rfl (any_of HT_.out (by kernel_rfl)) (fun _ _ _ h => h) (Or.inl ⟨by rfl, ?_⟩) ?_ ?_
                     rotate_left
                     · intro w'
                       go_simp
                       with_reducible rfl
                     rotate_left
                     · simp only [Act.put, List.setIfInBounds_toArray, List.set_cons_zero, List.set_cons_succ, i64_w, i32_w]
                       rfl
                     refine take_ (i := 2) (N := some 337) (v := ?_) (a' := ?_) #[true, true, true, true, true, true, true, true, true, false, false, false, false, false, false, false, false, false, false, false, false] rfl rfl (take_ofW HT_.out HW_.out (by kernel_rfl)) (fun _ _ _ h => h) (Or.inl ⟨by rfl, ?_⟩) hHeld ?_ ?_
                     rotate_left
                     · intro w' _
                       go_simp
                       with_reducible rfl
                     rotate_left
                     · simp only [Act.put, List.setIfInBounds_toArray, List.set_cons_zero, List.set_cons_succ, i64_w, i32_w]
                       rfl
                     refine take_ (i := 9) (N := some 344) (v := ?_) (a' := ?_) #[true, true, true, true, true, true, true, true, true, true, false, false, false, false, false, false, false, false, false, false, false] rfl rfl (take_ofW HT_.out HW_.out (by kernel_rfl)) (fun _ _ _ h => h) (Or.inl ⟨by rfl, ?_⟩) hHeld ?_ ?_
                     rotate_left
                     · intro w' _
                       go_simp
                       with_reducible rfl
                     rotate_left
                     · simp only [Act.put, List.setIfInBounds_toArray, List.set_cons_zero, List.set_cons_succ, i64_w, i32_w]
                       rfl
                     refine pure_ (i := 10) (N := some 345) (v := ?_) (a' := ?_) #[true, true, true, true, true, true, true, true, true, true, true, false, false, false, false, false, false, false, false, false, false] rfl rfl (any_of HT_.out (by kernel_rfl)) (fun _ _ _ h => h) (Or.inl ⟨by rfl, ?_⟩) ?_ ?_
                     rotate_left
                     · intro w'
                       go_simp
                       with_reducible rfl
                     rotate_left
                     · simp only [Act.put, List.setIfInBounds_toArray, List.set_cons_zero, List.set_cons_succ, i64_w, i32_w]
                       rfl
                     refine pure_ (i := 11) (N := some 346) (v := ?_) (a' := ?_) #[true, true, true, true, true, true, true, true, true, true, true, true, false, false, false, false, false, false, false, false, false] rfl rfl (any_of HT_.out (by kernel_rfl)) (fun _ _ _ h => h) (Or.inl ⟨by rfl, ?_⟩) ?_ ?_
                     rotate_left
                     · intro w'
                       go_simp
                       with_reducible rfl
                     rotate_left
                     · simp only [Act.put, List.setIfInBounds_toArray, List.set_cons_zero, List.set_cons_succ, i64_w, i32_w]
                       rfl
                     refine pure_ (i := 12) (N := some 347) (v := ?_) (a' := ?_) #[true, true, true, true, true, true, true, true, true, true, true, true, true, false, false, false, false, false, false, false, false] rfl rfl (any_of HT_.out (by kernel_rfl)) (fun _ _ _ h => h) (Or.inl ⟨by rfl, ?_⟩) ?_ ?_
                     rotate_left
                     · intro w'
                       go_simp
                       with_reducible rfl
                     rotate_left
                     · simp only [Act.put, List.setIfInBounds_toArray, List.set_cons_zero, List.set_cons_succ, i64_w, i32_w]
                       rfl
                     refine pure_ (i := 13) (N := some 348) (v := ?_) (a' := ?_) #[true, true, true, true, true, true, true, true, true, true, true, true, true, true, false, false, false, false, false, false, false] rfl rfl (any_of HT_.out (by kernel_rfl)) (fun _ _ _ h => h) (Or.inl ⟨by rfl, ?_⟩) ?_ ?_
                     rotate_left
                     · intro w'
                       go_simp
                       with_reducible rfl
                     rotate_left
                     · simp only [Act.put, List.setIfInBounds_toArray, List.set_cons_zero, List.set_cons_succ, i64_w, i32_w]
                       rfl
                     refine pure_ (i := 15) (N := some 350) (v := ?_) (a' := ?_) #[true, true, true, true, true, true, true, true, true, true, true, true, true, true, false, true, false, false, false, false, false] rfl rfl (any_of HT_.out (by kernel_rfl)) (fun _ _ _ h => h) (Or.inl ⟨by rfl, ?_⟩) ?_ ?_
                     rotate_left
                     · intro w'
                       go_simp
                       with_reducible rfl
                     rotate_left
                     · simp only [Act.put, List.setIfInBounds_toArray, List.set_cons_zero, List.set_cons_succ, i64_w, i32_w]
                       rfl
                     refine pure_ (i := 16) (N := some 351) (v := ?_) (a' := ?_) #[true, true, true, true, true, true, true, true, true, true, true, true, true, true, false, true, true, false, false, false, false] rfl rfl (any_of HT_.out (by kernel_rfl)) (fun _ _ _ h => h) (Or.inl ⟨by rfl, ?_⟩) ?_ ?_
                     rotate_left
                     · intro w'
                       go_simp
                       with_reducible rfl
                     rotate_left
                     · simp only [Act.put, List.setIfInBounds_toArray, List.set_cons_zero, List.set_cons_succ, i64_w, i32_w]
                       rfl
                     refine take_ (i := 14) (N := some 349) (v := ?_) (a' := ?_) #[true, true, true, true, true, true, true, true, true, true, true, true, true, true, true, true, true, false, false, false, false] rfl rfl (take_ofW HT_.out HW_.out (by kernel_rfl)) (fun _ _ _ h => h) (Or.inl ⟨by rfl, ?_⟩) hHeld ?_ ?_
                     rotate_left
                     · intro w' _
                       go_simp
                       with_reducible rfl
                     rotate_left
                     · simp only [Act.put, List.setIfInBounds_toArray, List.set_cons_zero, List.set_cons_succ, i64_w, i32_w]
                       rfl
                     refine take_ (i := 17) (N := some 352) (v := ?_) (a' := ?_) #[true, true, true, true, true, true, true, true, true, true, true, true, true, true, true, true, true, true, false, false, false] rfl rfl (take_ofW HT_.out HW_.out (by kernel_rfl)) (fun _ _ _ h => h) (Or.inl ⟨by rfl, ?_⟩) hHeld ?_ ?_
                     rotate_left
                     · intro w' _
                       go_simp
                       with_reducible rfl
                     rotate_left
                     · simp only [Act.put, List.setIfInBounds_toArray, List.set_cons_zero, List.set_cons_succ, i64_w, i32_w]
                       rfl
                     refine pure_ (i := 18) (N := some 353) (v := ?_) (a' := ?_) #[true, true, true, true, true, true, true, true, true, true, true, true, true, true, true, true, true, true, true, false, false] rfl rfl (any_of HT_.out (by kernel_rfl)) (fun _ _ _ h => h) (Or.inl ⟨by rfl, ?_⟩) ?_ ?_
                     rotate_left
                     · intro w'
                       go_simp
                       with_reducible rfl
                     rotate_left
                     · simp only [Act.put, List.setIfInBounds_toArray, List.set_cons_zero, List.set_cons_succ, i64_w, i32_w]
                       rfl
                     refine pure_ (i := 19) (N := some 354) (v := ?_) (a' := ?_) #[true, true, true, true, true, true, true, true, true, true, true, true, true, true, true, true, true, true, true, true, false] rfl rfl (any_of HT_.out (by kernel_rfl)) (fun _ _ _ h => h) (Or.inl ⟨by rfl, ?_⟩) ?_ ?_
                     rotate_left
                     · intro w'
                       go_simp
                       with_reducible rfl
                     rotate_left
                     · simp only [Act.put, List.setIfInBounds_toArray, List.set_cons_zero, List.set_cons_succ, i64_w, i32_w]
                       rfl
                     refine pure_ (i := 20) (N := some 355) (v := ?_) (a' := ?_) #[true, true, true, true, true, true, true, true, true, true, true, true, true, true, true, true, true, true, true, true, true] rfl rfl (any_of HT_.out (by kernel_rfl)) (fun _ _ _ h => h) (Or.inl ⟨by rfl, ?_⟩) ?_ ?_
                     rotate_left
                     · intro w'
                       go_simp
                       with_reducible rfl
                     rotate_left
                     · simp only [Act.put, List.setIfInBounds_toArray, List.set_cons_zero, List.set_cons_succ, i64_w, i32_w]
                       rfl
                     refine done_ (done_of HT_.out (by kernel_rfl)) ?_
                     have p99 : 0 ≤ (x331_2 : Int) := of_decide_eq_true z11_2_
                     have q99 : x331_2 < (t366.size : Int) := of_decide_eq_true z11_2_
                     have hx99 := bt_at t366 x331_2
                     replace p99 := eq_true p99
                     replace q99 := eq_true q99
                     try go_wp2
                     go_roundg k2
                     case measure => have := HK1.out; have := HK2.out; omega
                     case rel => exact ⟨(wrap64 (x45_2 - (wrap64 (bt t366 x331_2)))), (wrap64 (x331_2 + 1)), n331 + 1, (by first | rfl | (simp; done) | (simp [*]; done)), ⟨by rw [HN331.out]; exact wrapn_ n331 HS331.out⟩, ⟨HI331.out⟩, H', ⟨by have := HK1.out; have := HK2.out; omega⟩, ⟨by repeat (first | exact HY331.out | (with_reducible first | apply below_alloc | apply pw_below_drewN | apply below_drew1))⟩⟩
                  rw [if_neg c90] at H
                  have c90b0 : ((bt t373 x331_2) == (bt t366 (ji86))) = false := beq_eq_false_iff_ne.mpr c90
                  have c90b1 : ((bt t373 x331_2) != (bt t366 (ji86))) = true := bne_iff_ne.mpr c90
                  as_aux_lemma =>
                   exact dead2_ H hr_
                rw [if_neg c82] at H
                have hnx331 := fun ty => Lib.run_next_end_at (P := Tryz.prog) wr w81.heap.size t366 n331 ty HI331.out (by have := HN331.out; omega)
                have HO_28 := Aside0.mk (Kd.R_below HO_28z.out HY331.out)
                have HB := Aside0.mk (below_step HBz.out HY331.out)
                have c82b0 : decide (x331_2 < (t366.size : Int)) = false := decide_eq_false c82
                clear c82
                as_aux_lemma =>
                by_cases c101 : t412 = true
                · subst c101
                  rw [if_pos rfl] at H
                  by_cases c102 : t411.toList = t366.toList
                  rotate_left
                  · exact dead_ (if_neg c102) H hr_
                  rw [if_pos c102] at H
                  have c102b0 : (t411.toList == t366.toList) = true := beq_iff_eq.mpr c102
                  have c102b1 : (t411.toList != t366.toList) = false := bne_eq_false_iff_eq.mpr c102
                  clear c102
                  by_cases c103 : t414 = true
                  · subst c103
                    rw [if_pos rfl] at H
                    by_cases c104 : t413.toList = t366.toList
                    rotate_left
                    · exact dead_ (if_neg c104) H hr_
                    rw [if_pos c104] at H
                    have c104b0 : (t413.toList == t366.toList) = true := beq_iff_eq.mpr c104
                    have c104b1 : (t413.toList != t366.toList) = false := bne_eq_false_iff_eq.mpr c104
                    clear c104
                    by_cases c105 : t416 = true
                    · subst c105
                      rw [if_pos rfl] at H
                      by_cases c106 : t415.toList = t366.toList
                      rotate_left
                      · exact dead_ (if_neg c106) H hr_
                      rw [if_pos c106] at H
                      have c106b0 : (t415.toList == t366.toList) = true := beq_iff_eq.mpr c106
                      have c106b1 : (t415.toList != t366.toList) = false := bne_eq_false_iff_eq.mpr c106
                      clear c106
                      by_cases c107 : (t385 != (x45_2 == 0)) = true
                      · exact dead_ (if_pos c107) H hr_
                      rw [if_neg c107] at H
                      have c107b0 : (t385 != (x45_2 == 0)) = false := by simpa using c107
                      (try (have c107b1 : decide (t385 = (x45_2 == 0)) = true := by simpa using c107))
                      (try (have c107b2 : (t385 == (x45_2 == 0)) = true := by simpa using c107))
                      clear c107
                      by_cases c108 : (t389.length : Int) > 1
                      · exact dead_ (if_pos c108) H hr_
                      rw [if_neg c108] at H
                      have c108b0 : decide (1 < (t389.length : Int)) = false := decide_eq_false c108
                      have c108b1 : decide (1 < t389.length) = false := decide_eq_false (by omega)
                      clear c108
                      have H' := Aside0.mk H
                      clear H
                      go_wp2
                      go_loopg [47] k2 (fun kq v47 w' => ∃ (x47_3 : Int), v47 = .int .i64 x47_3 ∧ Aside0 (laws_FnTicketsTurned.l2 kq l1 t366 t389 x47_3 = some r) ∧ Aside0 (kq ≤ k2) ∧ Aside0 (Kd.R (Kd.int .i64) 3 w' w.heap.size (fun _ => True) (.slice Ao45 t389.length co45) t389) ∧ Aside0 (Below w.heap.size w w'))
                      case atStart => exact ⟨(0), z11_3_, H', ⟨Nat.le_refl _⟩, ⟨by (with_reducible repeat (first | apply Kd.R_alloc | apply Kd.R_drewN | apply Kd.R_drew)); exact HO_28.out⟩, ⟨by repeat (first | (with_reducible first | exact HB.out | apply below_alloc | apply pw_below_drewN | apply below_drew1) | exact HB.out)⟩⟩
                      case round =>
                       clear H'
                       (try clear c1);(try clear p2);(try clear p4);(try clear q4);(try clear hx4);(try clear c5);(try clear c6);(try clear p6);(try clear c7);(try clear c8);(try clear p8);(try clear q8);(try clear hx8);(try clear c9);(try clear p9);(try clear q9);(try clear hx9);(try clear c10);(try clear p40);(try clear q40);(try clear hx40);(try clear c51);(try clear c51b0);(try clear c51b1);(try clear c53);(try clear c53b0);(try clear c53b1);(try clear c54);(try clear c54b0);(try clear c55);(try clear c55b0);(try clear c57);(try clear c57b0);(try clear c57b1);(try clear c58);(try clear c59);(try clear c59b0);(try clear c59b1);(try clear c59b2);(try clear c60);(try clear c60b0);(try clear c61);(try clear c61b0);(try clear c62);(try clear c62b0);(try clear c63);(try clear c63b0);(try clear c64);(try clear c64b0);(try clear c64b1);(try clear c64b2);(try clear p64);(try clear c65);(try clear c65b0);(try clear c65b1);(try clear c70);(try clear c70b0);(try clear c71);(try clear c71b0);(try clear c72);(try clear c72b0);(try clear c74);(try clear c75);(try clear c75b0);(try clear c75b1);(try clear c75b2);(try clear c76);(try clear c76b0);(try clear c76b1);(try clear c76b2);(try clear c82);(try clear c82b0);(try clear c83);(try clear c83b0);(try clear c84);(try clear c84b0);(try clear p85);(try clear q85);(try clear hx85);(try clear c87);(try clear c87b0);(try clear c88);(try clear c88b0);(try clear p89);(try clear q89);(try clear hx89);(try clear c90);(try clear c90b0);(try clear c90b1);(try clear c91);(try clear c91b0);(try clear p92);(try clear q92);(try clear hx92);(try clear c93);(try clear c93b0);(try clear p94);(try clear q94);(try clear hx94);(try clear c95);(try clear c95b0);(try clear c95b1);(try clear c96);(try clear c96b0);(try clear c96b1);(try clear p97);(try clear q97);(try clear hx97);(try clear p99);(try clear q99);(try clear hx99);(try clear c101);(try clear c102);(try clear c102b0);(try clear c102b1);(try clear c103);(try clear c104);(try clear c104b0);(try clear c104b1);(try clear c105);(try clear c106);(try clear c106b0);(try clear c106b1);(try clear c107);(try clear c107b0);(try clear c107b1);(try clear c107b2);(try clear c108);(try clear c108b0);(try clear c108b1);(try clear hx408_0);(try clear p2);(try clear p408);(try clear p6);(try clear p64);(try clear p85);(try clear p89);(try clear p92);(try clear p94);(try clear p97);(try clear p99);(try clear q408);(try clear q85);(try clear q89);(try clear q92);(try clear q94);(try clear q97);(try clear q99)
                       obtain ⟨x47_3, rfl, HA, HK3, HO_28, HB⟩ := hrel
                       cases gk with
                       | zero => exact absurd HA.out (by simp [laws_FnTicketsTurned.l2])
                       | succ k3 =>
                        have H := HA.out
                        clear HA
                        simp only [laws_FnTicketsTurned.l2] at H
                        by_cases c109 : x47_3 < 10
                        · rw [if_pos c109] at H
                          have c109b0 : decide (x47_3 < 10) = true := decide_eq_true c109
                          clear c109
                          obtain ⟨ji110, hji110⟩ : ∃ j_ : Int, (wrap64 ((t366.size : Int) - 1)) = j_ := ⟨_, rfl⟩
                          replace H : (if 0 ≤ (ji110) then (if (ji110) ≤ (t366.size : Int) then (if (t366.extract 0 ((ji110) : Int).toNat).size + (Utf8.encode (wrap32 (wrap64 (48 + x47_3)))).size ≤ 9223372036854775807 then ((impl_IsLucky.f k3 ((t366.extract 0 ((ji110) : Int).toNat) ++ (Utf8.encode (wrap32 (wrap64 (48 + x47_3)))))).bind fun bt417 => (if bt417.2 = true then ((laws_eHas.f k3 t389 x47_3).bind fun t420 => (if (bt417.1 != t420) = true then (some false) else (laws_FnTicketsTurned.l2 k3 l1 t366 t389 (wrap64 (x47_3 + 1))))) else (some false))) else (none)) else (none)) else (none)) = some r := by first | (rw [hji110] at H; exact H) | (simp only [hji110] at H ⊢; exact H)
                          have hji110w : (IntKind.i64.wrap ((t366.size : Int) - 1)) = ji110 := (i64_w _).trans hji110
                          by_cases c111 : 0 ≤ (ji110)
                          rotate_left
                          · exact none_ (if_neg c111) H
                          rw [if_pos c111] at H
                          have c111b0 := eq_true c111
                          have c111b1 : decide (0 ≤ (ji110)) = true := decide_eq_true c111
                          clear c111
                          by_cases c112 : (ji110) ≤ (t366.size : Int)
                          rotate_left
                          · exact none_ (if_neg c112) H
                          rw [if_pos c112] at H
                          have c112b0 := eq_true c112
                          have c112b1 : decide ((ji110) ≤ (t366.size : Int)) = true := decide_eq_true c112
                          clear c112
                          by_cases c113 : (t366.extract 0 ((ji110) : Int).toNat).size + (Utf8.encode (wrap32 (wrap64 (48 + x47_3)))).size ≤ 9223372036854775807
                          rotate_left
                          · exact none_ (if_neg c113) H
                          rw [if_pos c113] at H
                          have c113b0 := eq_true c113
                          have c113b1 : decide ((t366.extract 0 ((ji110) : Int).toNat).size + (Utf8.encode (wrap32 (wrap64 (48 + x47_3)))).size ≤ 9223372036854775807) = true := decide_eq_true c113
                          try have c113b2 : (9223372036854775807 < (t366.extract 0 ((ji110) : Int).toNat).size + (Utf8.encode (wrap32 (wrap64 (48 + x47_3)))).size) = False := eq_false (Nat.not_lt.2 c113)
                          try have c113b4 : (9223372036854775807 < ji110.toNat + (Utf8.encode (wrap32 (wrap64 (48 + x47_3)))).size) = False := eq_false (Nat.not_lt.2 (by have h_ := c113; rw [ByteArray.size_extract] at h_; first | omega | (have g_ := of_eq_true (by assumption : (ji110 ≤ (t366.size : Int)) = True); omega)))
                          as_aux_lemma =>
                          replace H := Option.bind_eq_some_iff.mp H
                          obtain ⟨⟨t417, t418⟩, A1140, H⟩ := H
                          dsimp only at H
                          have A114 := Aside0.mk A1140
                          clear A1140
                          by_cases c115 : t418 = true
                          · subst c115
                            rw [if_pos rfl] at H
                            replace H := Option.bind_eq_some_iff.mp H
                            obtain ⟨t420, A1160, H⟩ := H
                            have A116 := Aside0.mk A1160
                            clear A1160
                            by_cases c117 : (t417 != t420) = true
                            · exact dead_ (if_pos c117) H hr_
                            rw [if_neg c117] at H
                            have c117b0 : (t417 != t420) = false := by simpa using c117
                            (try (have c117b1 : decide (t417 = t420) = true := by simpa using c117))
                            (try (have c117b2 : (t417 == t420) = true := by simpa using c117))
                            clear c117
                            as_aux_lemma =>
                             have H' := Aside0.mk H
                             clear H
                             go_wp2_with (first | ((with_reducible refine gate_callee (f := 19) rfl ?_); refine goesL_ (some 422) rfl rfl Tryz.func19 (by kernel_rfl) rfl #[.string ((t366.extract 0 ((ji110) : Int).toNat) ++ (Utf8.encode (wrap32 (wrap64 (48 + x47_3)))))] rfl (by (try simp only [List.map_toArray, List.map_cons, List.map_nil]); first | done | (simp only [hji110]; rfl) | rfl | (simp only [List.length_drop, List.length_take]; rfl)) ?_; (with_reducible refine (impl_IsLucky.calls k3 ((t366.extract 0 ((ji110) : Int).toNat) ++ (Utf8.encode (wrap32 (wrap64 (48 + x47_3))))) t417 true _ A114.out).mono ?_); rintro e w' ⟨rfl, ⟨nd, rfl⟩⟩; refine ⟨_, rfl, ?_⟩) | (go_at_call 21; (with_reducible refine (laws_eHas.calls k3 _ _ t389 x47_3 t420 _ ?side1 ?side2 A116.out).mono ?_); (case side1 => repeat (first | exact (Kd.R_reads' HO_28.out).2.2 | (with_reducible refine Kd.C_alloc ?_ _) | (with_reducible refine Kd.C_drewN ?_ _) | (with_reducible refine Kd.C_drew ?_))); (case side2 => exact (Kd.R_reads' HO_28.out).2.1); rintro e w' ⟨rfl, ⟨nd, rfl⟩⟩))
                             go_roundg k3
                             case measure => have := HK1.out; have := HK2.out; have := HK3.out; omega
                             case rel => exact ⟨(wrap64 (x47_3 + 1)), z11_3_, H', ⟨by have := HK1.out; have := HK2.out; have := HK3.out; omega⟩, ⟨by (with_reducible repeat (first | apply Kd.R_alloc | apply Kd.R_drewN | apply Kd.R_drew)); exact HO_28.out⟩, ⟨by repeat (first | (with_reducible first | exact HB.out | apply below_alloc | apply pw_below_drewN | apply below_drew1) | exact HB.out)⟩⟩
                          replace c115 := Bool.eq_false_iff.mpr c115
                          subst c115
                          rw [if_neg (show ¬ (false = true) by decide)] at H
                          as_aux_lemma =>
                           exact dead2_ H hr_
                        rw [if_neg c109] at H
                        have c109b0 : decide (x47_3 < 10) = false := decide_eq_false c109
                        clear c109
                        as_aux_lemma =>
                         have H' := Aside0.mk H
                         clear H
                         go_wp2
                         try any_goals (exfalso; exact undef_bool_ (by with_reducible assumption))
                         go_meet
                         case rel => exact ⟨_, H', ⟨by have := HK1.out; have := HK2.out; have := HK3.out; first | omega | exact Nat.le_refl _⟩, ⟨by repeat (first | (with_reducible first | exact HB.out | apply below_alloc | apply pw_below_drewN | apply below_drew1) | exact HB.out)⟩⟩
                    replace c105 := Bool.eq_false_iff.mpr c105
                    subst c105
                    rw [if_neg (show ¬ (false = true) by decide)] at H
                    as_aux_lemma =>
                     exact dead2_ H hr_
                  replace c103 := Bool.eq_false_iff.mpr c103
                  subst c103
                  rw [if_neg (show ¬ (false = true) by decide)] at H
                  as_aux_lemma =>
                   exact dead2_ H hr_
                replace c101 := Bool.eq_false_iff.mpr c101
                subst c101
                rw [if_neg (show ¬ (false = true) by decide)] at H
                as_aux_lemma =>
                 exact dead2_ H hr_
          replace c58 := Bool.eq_false_iff.mpr c58
          subst c58
          rw [if_neg (show ¬ (false = true) by decide)] at H
          as_aux_lemma =>
           exact dead2_ H hr_
        rw [if_neg c57] at H
        have c57b0 : (t368 == t404) = false := beq_eq_false_iff_ne.mpr c57
        have c57b1 : (t368 != t404) = true := bne_iff_ne.mpr c57
        as_aux_lemma =>
         exact dead2_ H hr_
      rw [if_neg c53] at H
      have c53b0 : (t367 == t403) = false := beq_eq_false_iff_ne.mpr c53
      have c53b1 : (t367 != t403) = true := bne_iff_ne.mpr c53
      (first | rw [c53b0] | (simp only [i64_w, i32_w]; rw [c53b0]) | skip)
      as_aux_lemma =>
       exact dead2_ H hr_
    replace c47 := Bool.eq_false_iff.mpr c47
    subst c47
    rw [if_neg (show ¬ (false = true) by decide)] at H
    as_aux_lemma =>
     have H' := Aside0.mk H
     clear H
     go_wp2
     try any_goals (exfalso; exact undef_bool_ (by with_reducible assumption))
     go_meet
     case rel => exact ⟨_, H', ⟨by first | omega | exact Nat.le_refl _⟩, ⟨by repeat (first | (with_reducible first | exact HB.out | apply below_alloc | apply pw_below_drewN | apply below_drew1) | exact HB.out)⟩⟩
   case rest =>
    as_aux_lemma =>
    clear HC37
    (try clear c1);(try clear p2);(try clear p3);(try clear c4);(try clear p4);(try clear q4);(try clear hx4);(try clear c5);(try clear c6);(try clear p6);(try clear c7);(try clear c8);(try clear p8);(try clear q8);(try clear hx8);(try clear c9);(try clear p9);(try clear q9);(try clear hx9);(try clear c10);(try clear c11);(try clear c19);(try clear p32);(try clear p40);(try clear q40);(try clear hx40);(try clear c47);(try clear c50);(try clear c51);(try clear c51b0);(try clear c51b1);(try clear c53);(try clear c53b0);(try clear c53b1);(try clear c54);(try clear c54b0);(try clear c55);(try clear c55b0);(try clear c57);(try clear c57b0);(try clear c57b1);(try clear c58);(try clear c59);(try clear c59b0);(try clear c59b1);(try clear c59b2);(try clear c60);(try clear c60b0);(try clear c61);(try clear c61b0);(try clear c62);(try clear c62b0);(try clear c63);(try clear c63b0);(try clear c64);(try clear c64b0);(try clear c64b1);(try clear c64b2);(try clear p64);(try clear c65);(try clear c65b0);(try clear c65b1);(try clear c70);(try clear c70b0);(try clear c71);(try clear c71b0);(try clear c72);(try clear c72b0);(try clear c74);(try clear c75);(try clear c75b0);(try clear c75b1);(try clear c75b2);(try clear c76);(try clear c76b0);(try clear c76b1);(try clear c76b2);(try clear c82);(try clear c82b0);(try clear c83);(try clear c83b0);(try clear c84);(try clear c84b0);(try clear p85);(try clear q85);(try clear hx85);(try clear c87);(try clear c87b0);(try clear c88);(try clear c88b0);(try clear p89);(try clear q89);(try clear hx89);(try clear c90);(try clear c90b0);(try clear c90b1);(try clear c91);(try clear c91b0);(try clear p92);(try clear q92);(try clear hx92);(try clear c93);(try clear c93b0);(try clear p94);(try clear q94);(try clear hx94);(try clear c95);(try clear c95b0);(try clear c95b1);(try clear c96);(try clear c96b0);(try clear c96b1);(try clear p97);(try clear q97);(try clear hx97);(try clear p99);(try clear q99);(try clear hx99);(try clear c101);(try clear c102);(try clear c102b0);(try clear c102b1);(try clear c103);(try clear c104);(try clear c104b0);(try clear c104b1);(try clear c105);(try clear c106);(try clear c106b0);(try clear c106b1);(try clear c107);(try clear c107b0);(try clear c107b1);(try clear c107b2);(try clear c108);(try clear c108b0);(try clear c108b1);(try clear c109);(try clear c109b0);(try clear c111);(try clear c111b0);(try clear c111b1);(try clear c112);(try clear c112b0);(try clear c112b1);(try clear c113);(try clear c113b0);(try clear c113b1);(try clear c113b2);(try clear c115);(try clear c117);(try clear c117b0);(try clear c117b1);(try clear c117b2);(try clear hx408_0);(try clear p2);(try clear p4);(try clear p40);(try clear p408);(try clear p6);(try clear p64);(try clear p8);(try clear p85);(try clear p89);(try clear p9);(try clear p92);(try clear p94);(try clear p97);(try clear p99);(try clear q4);(try clear q40);(try clear q408);(try clear q8);(try clear q85);(try clear q89);(try clear q9);(try clear q92);(try clear q94)
    (try clear q97);(try clear q99)
    obtain ⟨kq, HA, HJ36, HB⟩ := hcut
    cases kq with
    | zero => exact absurd HA.out (by simp [laws_FnTicketsTurned.j3])
    | succ kj36 =>
     have H := HA.out
     clear HA
     simp only [laws_FnTicketsTurned.j3] at H
     replace H := Option.bind_eq_some_iff.mp H
     obtain ⟨⟨t421, t422⟩, A1180, H⟩ := H
     dsimp only at H
     have A118 := Aside0.mk A1180
     clear A1180
     replace H := Option.bind_eq_some_iff.mp H
     obtain ⟨⟨t423, t424⟩, A1190, H⟩ := H
     dsimp only at H
     have A119 := Aside0.mk A1190
     clear A1190
     replace H := Option.bind_eq_some_iff.mp H
     obtain ⟨⟨t425, t426⟩, A1200, H⟩ := H
     dsimp only at H
     have A120 := Aside0.mk A1200
     clear A1200
     replace H := Option.bind_eq_some_iff.mp H
     obtain ⟨⟨t427, t428⟩, A1210, H⟩ := H
     dsimp only at H
     have A121 := Aside0.mk A1210
     clear A1210
     replace H := Option.bind_eq_some_iff.mp H
     obtain ⟨⟨t429, t430⟩, A1220, H⟩ := H
     dsimp only at H
     have A122 := Aside0.mk A1220
     clear A1220
     as_aux_lemma =>
     replace H := Option.bind_eq_some_iff.mp H
     obtain ⟨⟨t431, t432, t433⟩, A1230, H⟩ := H
     dsimp only at H
     have A123 := Aside0.mk A1230
     clear A1230
     replace H := Option.bind_eq_some_iff.mp H
     obtain ⟨⟨t434, t435⟩, A1240, H⟩ := H
     dsimp only at H
     have A124 := Aside0.mk A1240
     clear A1240
     replace H := Option.bind_eq_some_iff.mp H
     obtain ⟨⟨t436, t437⟩, A1250, H⟩ := H
     dsimp only at H
     have A125 := Aside0.mk A1250
     clear A1250
     replace H := Option.bind_eq_some_iff.mp H
     obtain ⟨⟨t438, t439⟩, A1260, H⟩ := H
     dsimp only at H
     have A126 := Aside0.mk A1260
     clear A1260
     replace H := Option.bind_eq_some_iff.mp H
     obtain ⟨⟨t440, t441⟩, A1270, H⟩ := H
     dsimp only at H
     have A127 := Aside0.mk A1270
     clear A1270
     as_aux_lemma =>
     replace H := Option.bind_eq_some_iff.mp H
     obtain ⟨⟨t442, t443⟩, A1280, H⟩ := H
     dsimp only at H
     have A128 := Aside0.mk A1280
     clear A1280
     have HC129 := Aside0.mk H
     clear H
     go_upto_region 61 with (first | ((with_reducible refine gate_callee (f := 22) rfl ?_); refine goesL_ (some 436) rfl rfl Tryz.func22 (by kernel_rfl) rfl #[.slice A1 l1.length c1] rfl z11_0_ ?_; (with_reducible refine (spec_DrawFirstLuckyOf.calls _ _ l1 t421 t422 _ ?side1 ?side2 A118.out).mono ?_); (case side1 => repeat (first | exact (Kd.C_below HR1.out HB.out) | (with_reducible refine Kd.C_alloc ?_ _) | (with_reducible refine Kd.C_drewN ?_ _) | (with_reducible refine Kd.C_drew ?_))); (case side2 => exact HC1.out); rintro e w130 ⟨rfl, hb⟩; refine ⟨_, rfl, ?_⟩; have n0_ := Aside0.mk (below_step z11_1_ hb); clear HB; have HB := n0_; clear n0_; (try clear hb); (try clear hb2); (try clear hk); (try clear hi)) | ((with_reducible refine gate_callee (f := 23) rfl ?_); refine goesL_ (some 442) rfl rfl Tryz.func23 (by kernel_rfl) rfl #[.int .i64 t421, .int .i64 t422] rfl z11_0_ ?_; (with_reducible refine (impl_FirstLuckyOf.calls kj36 t421 t422 t423 t424 _ A119.out).mono ?_); rintro e w131 ⟨rfl, hb⟩; refine ⟨_, rfl, ?_⟩; have n0_ := Aside0.mk (below_step z11_1_ hb); clear HB; have HB := n0_; clear n0_; (try clear hb); (try clear hb2); (try clear hk); (try clear hi)) | ((with_reducible refine gate_callee (f := 24) rfl ?_); refine goesL_ (some 448) rfl rfl Tryz.func24 (by kernel_rfl) rfl #[.int .i64 t421, .int .i64 t422] rfl z11_0_ ?_; (with_reducible refine (spec_FirstLuckyOf.calls kj36 t421 t422 t425 t426 _ A120.out).mono ?_); rintro e w132 ⟨rfl, hb⟩; refine ⟨_, rfl, ?_⟩; have n0_ := Aside0.mk (below_step z11_1_ hb); clear HB; have HB := n0_; clear n0_; (try clear hb); (try clear hb2); (try clear hk); (try clear hi)) | ((with_reducible refine gate_callee (f := 25) rfl ?_); refine goesL_ (some 454) rfl rfl Tryz.func25 (by kernel_rfl) rfl #[.int .i64 t421, .int .i64 t422] rfl z11_0_ ?_; (with_reducible refine (impl_CountLuckyOf.calls kj36 t421 t422 t427 t428 _ A121.out).mono ?_); rintro e w133 ⟨rfl, hb⟩; refine ⟨_, rfl, ?_⟩; have n0_ := Aside0.mk (below_step z11_1_ hb); clear HB; have HB := n0_; clear n0_; (try clear hb); (try clear hb2); (try clear hk); (try clear hi)) | ((with_reducible refine gate_callee (f := 26) rfl ?_); refine goesL_ (some 460) rfl rfl Tryz.func26 (by kernel_rfl) rfl #[.int .i64 t421, .int .i64 t422] rfl z11_0_ ?_; (with_reducible refine (spec_CountLuckyOf.calls kj36 t421 t422 t429 t430 _ A122.out).mono ?_); rintro e w134 ⟨rfl, hb⟩; refine ⟨_, rfl, ?_⟩; have n0_ := Aside0.mk (below_step z11_1_ hb); clear HB; have HB := n0_; clear n0_; (try clear hb); (try clear hb2); (try clear hk); (try clear hi)) | ((with_reducible refine gate_callee (f := 27) rfl ?_); refine goesL_ (some 465) rfl rfl Tryz.func27 (by kernel_rfl) rfl #[.slice A1 l1.length c1] rfl z11_0_ ?_; (with_reducible refine (spec_DrawCountTickets.calls _ _ l1 t431 t432 t433 _ ?side1 ?side2 A123.out).mono ?_); (case side1 => repeat (first | exact (Kd.C_below HR1.out HB.out) | (with_reducible refine Kd.C_alloc ?_ _) | (with_reducible refine Kd.C_drewN ?_ _) | (with_reducible refine Kd.C_drew ?_))); (case side2 => exact HC1.out); rintro e w135 ⟨rfl, hb⟩; refine ⟨_, rfl, ?_⟩; have n0_ := Aside0.mk (below_step z11_1_ hb); clear HB; have HB := n0_; clear n0_; (try clear hb); (try clear hb2); (try clear hk); (try clear hi)) | ((with_reducible refine gate_callee (f := 28) rfl ?_); refine goesL_ (some 473) rfl rfl Tryz.func28 (by kernel_rfl) rfl #[.int .i64 t431, .int .i64 t432, .int .i64 t433] rfl z11_0_ ?_; (with_reducible refine (impl_CountTickets.calls kj36 t431 t432 t433 t434 t435 _ A124.out).mono ?_); rintro e w136 ⟨rfl, hb⟩; refine ⟨_, rfl, ?_⟩; have n0_ := Aside0.mk (below_step z11_1_ hb); clear HB; have HB := n0_; clear n0_; (try clear hb); (try clear hb2); (try clear hk); (try clear hi)) | ((with_reducible refine gate_callee (f := 29) rfl ?_); refine goesL_ (some 480) rfl rfl Tryz.func29 (by kernel_rfl) rfl #[.int .i64 t431, .int .i64 t432, .int .i64 t433] rfl z11_0_ ?_; (with_reducible refine (spec_CountTickets.calls kj36 t431 t432 t433 t436 t437 _ A125.out).mono ?_); rintro e w137 ⟨rfl, hb⟩; refine ⟨_, rfl, ?_⟩; have n0_ := Aside0.mk (below_step z11_1_ hb); clear HB; have HB := n0_; clear n0_; (try clear hb); (try clear hb2); (try clear hk); (try clear hi)) | ((with_reducible refine gate_callee (f := 30) rfl ?_); refine goesL_ (some 485) rfl rfl Tryz.func30 (by kernel_rfl) rfl #[.slice A1 l1.length c1] rfl z11_0_ ?_; (with_reducible refine (spec_DrawTicketOfNumber.calls _ _ l1 t438 t439 _ ?side1 ?side2 A126.out).mono ?_); (case side1 => repeat (first | exact (Kd.C_below HR1.out HB.out) | (with_reducible refine Kd.C_alloc ?_ _) | (with_reducible refine Kd.C_drewN ?_ _) | (with_reducible refine Kd.C_drew ?_))); (case side2 => exact HC1.out); rintro e w138 ⟨rfl, hb⟩; refine ⟨_, rfl, ?_⟩; have n0_ := Aside0.mk (below_step z11_1_ hb); clear HB; have HB := n0_; clear n0_; (try clear hb); (try clear hb2); (try clear hk); (try clear hi)) | ((with_reducible refine gate_callee (f := 31) rfl ?_); refine goesL_ (some 491) rfl rfl Tryz.func31 (by kernel_rfl) rfl #[.int .i64 t438, .int .i64 t439] rfl z11_0_ ?_; (with_reducible refine (impl_TicketOfNumber.calls t438 t439 t440 t441 _ ?side1 A127.out).mono ?_); (case side1 => exact Shelf.TabOk.below HT.out z11_1_); rintro e w139 ⟨rfl, hb⟩; refine ⟨_, rfl, ?_⟩; have n0_ := Aside0.mk (below_step z11_1_ hb); clear HB; have HB := n0_; clear n0_; (try clear hb); (try clear hb2); (try clear hk); (try clear hi)) | ((with_reducible refine gate_callee (f := 32) rfl ?_); refine goesL_ (some 497) rfl rfl Tryz.func32 (by kernel_rfl) rfl #[.int .i64 t438, .int .i64 t439] rfl z11_0_ ?_; (with_reducible refine (spec_TicketOfNumber.calls kj36 t438 t439 t442 t443 _ A128.out).mono ?_); rintro e w140 ⟨rfl, hb⟩; refine ⟨_, rfl, ?_⟩; have n0_ := Aside0.mk (below_step z11_1_ hb); clear HB; have HB := n0_; clear n0_; (try clear hb); (try clear hb2); (try clear hk); (try clear hi)))
     (try simp only [Act.put, List.setIfInBounds_toArray, List.set_cons_zero, List.set_cons_succ])
     go_cut [546] from 434 to 546 (fun v546 wc => ∃ (kq : Nat) (x546_128 : Bool), v546 = .bool x546_128 ∧ Aside0 (laws_FnTicketsTurned.j4 kq t421 t422 t423 t424 t431 t432 t433 t434 t435 t438 t439 t440 t441 x546_128 = some r) ∧ Aside0 (kq ≤ kj36) ∧ Aside0 (Below w.heap.size w wc))
     case first =>
      as_aux_lemma =>
      have H := HC129.out
      clear HC129
      by_cases c141 : (t424 != t426) = true
      · exact laws_FnTicketsTurned.j4_dead ((if_pos c141).symm.trans H) hr_
      rw [if_neg c141] at H
      have c141b0 : (t424 != t426) = false := by simpa using c141
      (try (have c141b1 : decide (t424 = t426) = true := by simpa using c141))
      (try (have c141b2 : (t424 == t426) = true := by simpa using c141))
      clear c141
      (first | rw [c141b0] | (simp only [i64_w, i32_w]; rw [c141b0]) | skip)
      by_cases c142 : t423.toList = t425.toList
      rotate_left
      · exact laws_FnTicketsTurned.j4_dead ((if_neg c142).symm.trans H) hr_
      rw [if_pos c142] at H
      have c142b0 : (t423.toList == t425.toList) = true := beq_iff_eq.mpr c142
      have c142b1 : (t423.toList != t425.toList) = false := bne_eq_false_iff_eq.mpr c142
      clear c142
      by_cases c143 : (t428 != t430) = true
      · exact laws_FnTicketsTurned.j4_dead ((if_pos c143).symm.trans H) hr_
      rw [if_neg c143] at H
      have c143b0 : (t428 != t430) = false := by simpa using c143
      (try (have c143b1 : decide (t428 = t430) = true := by simpa using c143))
      (try (have c143b2 : (t428 == t430) = true := by simpa using c143))
      clear c143
      by_cases c144 : t427 = t429
      rotate_left
      · exact laws_FnTicketsTurned.j4_dead ((if_neg c144).symm.trans H) hr_
      rw [if_pos c144] at H
      have c144b0 : (t427 == t429) = true := beq_iff_eq.mpr c144
      have c144b1 : (t427 != t429) = false := bne_eq_false_iff_eq.mpr c144
      clear c144
      as_aux_lemma =>
      by_cases c145 : (t435 != t437) = true
      · exact laws_FnTicketsTurned.j4_dead ((if_pos c145).symm.trans H) hr_
      rw [if_neg c145] at H
      have c145b0 : (t435 != t437) = false := by simpa using c145
      (try (have c145b1 : decide (t435 = t437) = true := by simpa using c145))
      (try (have c145b2 : (t435 == t437) = true := by simpa using c145))
      clear c145
      by_cases c146 : t434 = t436
      rotate_left
      · exact laws_FnTicketsTurned.j4_dead ((if_neg c146).symm.trans H) hr_
      rw [if_pos c146] at H
      have c146b0 : (t434 == t436) = true := beq_iff_eq.mpr c146
      have c146b1 : (t434 != t436) = false := bne_eq_false_iff_eq.mpr c146
      clear c146
      by_cases c147 : (t441 != t443) = true
      · exact laws_FnTicketsTurned.j4_dead ((if_pos c147).symm.trans H) hr_
      rw [if_neg c147] at H
      have c147b0 : (t441 != t443) = false := by simpa using c147
      (try (have c147b1 : decide (t441 = t443) = true := by simpa using c147))
      (try (have c147b2 : (t441 == t443) = true := by simpa using c147))
      clear c147
      by_cases c148 : t440.toList = t442.toList
      rotate_left
      · exact laws_FnTicketsTurned.j4_dead ((if_neg c148).symm.trans H) hr_
      rw [if_pos c148] at H
      have c148b0 : (t440.toList == t442.toList) = true := beq_iff_eq.mpr c148
      have c148b1 : (t440.toList != t442.toList) = false := bne_eq_false_iff_eq.mpr c148
      clear c148
      as_aux_lemma =>
      by_cases c149 : t428 = true
      · subst c149
        rw [if_pos rfl] at H
        as_aux_lemma =>
         have H' := Aside0.mk H
         clear H
         go_wp2
         try any_goals (exfalso; exact undef_bool_ (by with_reducible assumption))
         go_meet
         case rel => exact ⟨_, ((t424 != (decide (t427 > 0)))), z11_3_, H', ⟨by have := HJ36.out; first | omega | exact Nat.le_refl _⟩, ⟨by repeat (first | (with_reducible first | exact HB.out | apply below_alloc | apply pw_below_drewN | apply below_drew1) | exact HB.out)⟩⟩
      replace c149 := Bool.eq_false_iff.mpr c149
      subst c149
      rw [if_neg (show ¬ (false = true) by decide)] at H
      as_aux_lemma =>
       have H' := Aside0.mk H
       clear H
       go_wp2
       try any_goals (exfalso; exact undef_bool_ (by with_reducible assumption))
       go_meet
       case rel => exact ⟨_, ((t424 != false)), z11_3_, H', ⟨by have := HJ36.out; first | omega | exact Nat.le_refl _⟩, ⟨by repeat (first | (with_reducible first | exact HB.out | apply below_alloc | apply pw_below_drewN | apply below_drew1) | exact HB.out)⟩⟩
     case rest =>
      as_aux_lemma =>
      clear HC129
      (try clear c1);(try clear c2);(try clear p2);(try clear c3);(try clear p3);(try clear c4);(try clear p4);(try clear q4);(try clear hx4);(try clear c5);(try clear c6);(try clear p6);(try clear c7);(try clear c8);(try clear p8);(try clear q8);(try clear hx8);(try clear c9);(try clear p9);(try clear q9);(try clear hx9);(try clear c10);(try clear c11);(try clear c14);(try clear c19);(try clear c22);(try clear c23);(try clear c24);(try clear c25);(try clear c26);(try clear c27);(try clear c28);(try clear c29);(try clear c30);(try clear c31);(try clear c32);(try clear p32);(try clear p40);(try clear q40);(try clear hx40);(try clear c47);(try clear c50);(try clear c51);(try clear c51b0);(try clear c51b1);(try clear c53);(try clear c53b0);(try clear c53b1);(try clear c54);(try clear c54b0);(try clear c55);(try clear c55b0);(try clear c57);(try clear c57b0);(try clear c57b1);(try clear c58);(try clear c59);(try clear c59b0);(try clear c59b1);(try clear c59b2);(try clear c60);(try clear c60b0);(try clear c61);(try clear c61b0);(try clear c62);(try clear c62b0);(try clear c63);(try clear c63b0);(try clear c64);(try clear c64b0);(try clear c64b1);(try clear c64b2);(try clear p64);(try clear c65);(try clear c65b0);(try clear c65b1);(try clear c70);(try clear c70b0);(try clear c71);(try clear c71b0);(try clear c72);(try clear c72b0);(try clear c74);(try clear c75);(try clear c75b0);(try clear c75b1);(try clear c75b2);(try clear c76);(try clear c76b0);(try clear c76b1);(try clear c76b2);(try clear c82);(try clear c82b0);(try clear c83);(try clear c83b0);(try clear c84);(try clear c84b0);(try clear p85);(try clear q85);(try clear hx85);(try clear c87);(try clear c87b0);(try clear c88);(try clear c88b0);(try clear p89);(try clear q89);(try clear hx89);(try clear c90);(try clear c90b0);(try clear c90b1);(try clear c91);(try clear c91b0);(try clear p92);(try clear q92);(try clear hx92);(try clear c93);(try clear c93b0);(try clear p94);(try clear q94);(try clear hx94);(try clear c95);(try clear c95b0);(try clear c95b1);(try clear c96);(try clear c96b0);(try clear c96b1);(try clear p97);(try clear q97);(try clear hx97);(try clear p99);(try clear q99);(try clear hx99);(try clear c101);(try clear c102);(try clear c102b0);(try clear c102b1);(try clear c103);(try clear c104);(try clear c104b0);(try clear c104b1);(try clear c105);(try clear c106);(try clear c106b0);(try clear c106b1);(try clear c107);(try clear c107b0);(try clear c107b1);(try clear c107b2);(try clear c108);(try clear c108b0);(try clear c108b1);(try clear c109);(try clear c109b0);(try clear c111);(try clear c111b0);(try clear c111b1);(try clear c112);(try clear c112b0);(try clear c112b1);(try clear c113);(try clear c113b0);(try clear c113b1);(try clear c113b2);(try clear c115);(try clear c117);(try clear c117b0);(try clear c117b1);(try clear c117b2);(try clear c141);(try clear c141b0);(try clear c141b1);(try clear c141b2);(try clear c142);(try clear c142b0);(try clear c142b1);(try clear c143);(try clear c143b0)
      (try clear c143b1);(try clear c143b2);(try clear c144);(try clear c144b0);(try clear c144b1);(try clear c145);(try clear c145b0);(try clear c145b1);(try clear c145b2);(try clear c146);(try clear c146b0);(try clear c146b1);(try clear c147);(try clear c147b0);(try clear c147b1);(try clear c147b2);(try clear c148);(try clear c148b0);(try clear c148b1);(try clear c149);(try clear hx408_0);(try clear p2);(try clear p3);(try clear p32);(try clear p4);(try clear p40);(try clear p408);(try clear p6);(try clear p64);(try clear p8);(try clear p85);(try clear p89);(try clear p9);(try clear p92);(try clear p94);(try clear p97);(try clear p99);(try clear q4);(try clear q40);(try clear q408);(try clear q8);(try clear q85);(try clear q89);(try clear q9);(try clear q92);(try clear q94);(try clear q97);(try clear q99)
      obtain ⟨kq, x546_128, rfl, HA, HJ128, HB⟩ := hcut
      cases kq with
      | zero => exact absurd HA.out (by simp [laws_FnTicketsTurned.j4])
      | succ kj128 =>
       have H := HA.out
       clear HA
       simp only [laws_FnTicketsTurned.j4] at H
       by_cases c150 : x546_128 = true
       · subst c150
         rw [if_pos rfl] at H
         as_aux_lemma =>
          exact dead2_ H hr_
       replace c150 := Bool.eq_false_iff.mpr c150
       subst c150
       rw [if_neg (show ¬ (false = true) by decide)] at H
       have HC151 := Aside0.mk H
       clear H
       go_upto_if 547 with (fail)
       go_cut [] from 547 to 590 (fun wc => ∃ (kq : Nat), Aside0 (laws_FnTicketsTurned.j5 kq t431 t432 t433 t434 t435 t438 t439 t440 t441 = some r) ∧ Aside0 (kq ≤ kj128) ∧ Aside0 (Below w.heap.size w wc))
       case first =>
        as_aux_lemma =>
        have H := HC151.out
        clear HC151
        by_cases c152 : t424 = true
        · subst c152
          rw [if_pos rfl] at H
          replace H := Option.bind_eq_some_iff.mp H
          obtain ⟨⟨t444, t445, t446⟩, A1530, H⟩ := H
          dsimp only at H
          have A153 := Aside0.mk A1530
          clear A1530
          replace H := Option.bind_eq_some_iff.mp H
          obtain ⟨⟨t447, t448⟩, A1540, H⟩ := H
          dsimp only at H
          have A154 := Aside0.mk A1540
          clear A1540
          by_cases c155 : t446 = true
          · subst c155
            rw [if_pos rfl] at H
            by_cases c156 : t444 = t422
            rotate_left
            · exact dead_ (if_neg c156) H hr_
            rw [if_pos c156] at H
            have c156b0 : (t444 == t422) = true := beq_iff_eq.mpr c156
            have c156b1 : (t444 != t422) = false := bne_eq_false_iff_eq.mpr c156
            clear c156
            (first | rw [c156b0] | (simp only [i64_w, i32_w]; rw [c156b0]) | skip)
            by_cases c157 : t445 = t422
            rotate_left
            · exact dead_ (if_neg c157) H hr_
            rw [if_pos c157] at H
            have c157b0 : (t445 == t422) = true := beq_iff_eq.mpr c157
            have c157b1 : (t445 != t422) = false := bne_eq_false_iff_eq.mpr c157
            clear c157
            by_cases c158 : (t423.size : Int) = t421
            rotate_left
            · exact dead_ (if_neg c158) H hr_
            rw [if_pos c158] at H
            have c158b0 : ((t423.size : Int) == t421) = true := beq_iff_eq.mpr c158
            have c158b1 : ((t423.size : Int) != t421) = false := bne_eq_false_iff_eq.mpr c158
            clear c158
            by_cases c159 : t448 = true
            · subst c159
              rw [if_pos rfl] at H
              replace H := Option.bind_eq_some_iff.mp H
              obtain ⟨⟨t449, t450, t451⟩, A1600, H⟩ := H
              dsimp only at H
              have A160 := Aside0.mk A1600
              clear A1600
              by_cases c161 : t451 = true
              · subst c161
                rw [if_pos rfl] at H
                by_cases c162 : t449 = t422
                · exact dead_ (if_pos c162) H hr_
                rw [if_neg c162] at H
                have c162b0 : (t449 == t422) = false := beq_eq_false_iff_ne.mpr c162
                have c162b1 : (t449 != t422) = true := bne_iff_ne.mpr c162
                as_aux_lemma =>
                 have H' := Aside0.mk H
                 clear H
                 go_wp2_with (first | ((with_reducible refine gate_callee (f := 6) rfl ?_); refine goesL_ (some 550) rfl rfl Tryz.func6 (by kernel_rfl) rfl #[.string t423] rfl z11_0_ ?_; (with_reducible refine (impl_HalfSums.calls kj128 t423 t444 t445 true _ A153.out).mono ?_); rintro e w' ⟨rfl, ⟨nd, rfl⟩⟩; refine ⟨_, rfl, ?_⟩) | ((with_reducible refine gate_callee (f := 33) rfl ?_); refine goesL_ (some 556) rfl rfl Tryz.func33 (by kernel_rfl) rfl #[.string t423] rfl z11_0_ ?_; (with_reducible refine (impl_LastLucky.calls kj128 t423 t447 true _ A154.out).mono ?_); rintro e w163 ⟨rfl, hb⟩; refine ⟨_, rfl, ?_⟩; have n0_ := Aside0.mk (below_step z11_1_ hb); clear HB; have HB := n0_; clear n0_; (try clear hb); (try clear hb2); (try clear hk); (try clear hi)) | ((with_reducible refine gate_callee (f := 6) rfl ?_); refine goesL_ (some 580) rfl rfl Tryz.func6 (by kernel_rfl) rfl #[.string t447] rfl z11_0_ ?_; (with_reducible refine (impl_HalfSums.calls kj128 t447 t449 t450 true _ A160.out).mono ?_); rintro e w' ⟨rfl, ⟨nd, rfl⟩⟩; refine ⟨_, rfl, ?_⟩))
                 try any_goals (exfalso; exact undef_bool_ (by with_reducible assumption))
                 go_meet
                 case rel => exact ⟨_, H', ⟨by have := HJ36.out; have := HJ128.out; first | omega | exact Nat.le_refl _⟩, ⟨by repeat (first | (with_reducible first | exact HB.out | apply below_alloc | apply pw_below_drewN | apply below_drew1) | exact HB.out)⟩⟩
              replace c161 := Bool.eq_false_iff.mpr c161
              subst c161
              rw [if_neg (show ¬ (false = true) by decide)] at H
              as_aux_lemma =>
               exact dead2_ H hr_
            replace c159 := Bool.eq_false_iff.mpr c159
            subst c159
            rw [if_neg (show ¬ (false = true) by decide)] at H
            as_aux_lemma =>
             have H' := Aside0.mk H
             clear H
             go_wp2_with (first | ((with_reducible refine gate_callee (f := 6) rfl ?_); refine goesL_ (some 550) rfl rfl Tryz.func6 (by kernel_rfl) rfl #[.string t423] rfl z11_0_ ?_; (with_reducible refine (impl_HalfSums.calls kj128 t423 t444 t445 true _ A153.out).mono ?_); rintro e w' ⟨rfl, ⟨nd, rfl⟩⟩; refine ⟨_, rfl, ?_⟩) | ((with_reducible refine gate_callee (f := 33) rfl ?_); refine goesL_ (some 556) rfl rfl Tryz.func33 (by kernel_rfl) rfl #[.string t423] rfl z11_0_ ?_; (with_reducible refine (impl_LastLucky.calls kj128 t423 t447 false _ A154.out).mono ?_); rintro e w164 ⟨rfl, hb⟩; refine ⟨_, rfl, ?_⟩; have n0_ := Aside0.mk (below_step z11_1_ hb); clear HB; have HB := n0_; clear n0_; (try clear hb); (try clear hb2); (try clear hk); (try clear hi)))
             try any_goals (exfalso; exact undef_bool_ (by with_reducible assumption))
             go_meet
             case rel => exact ⟨_, H', ⟨by have := HJ36.out; have := HJ128.out; first | omega | exact Nat.le_refl _⟩, ⟨by repeat (first | (with_reducible first | exact HB.out | apply below_alloc | apply pw_below_drewN | apply below_drew1) | exact HB.out)⟩⟩
          replace c155 := Bool.eq_false_iff.mpr c155
          subst c155
          rw [if_neg (show ¬ (false = true) by decide)] at H
          as_aux_lemma =>
           exact dead2_ H hr_
        replace c152 := Bool.eq_false_iff.mpr c152
        subst c152
        rw [if_neg (show ¬ (false = true) by decide)] at H
        as_aux_lemma =>
         have H' := Aside0.mk H
         clear H
         go_wp2
         try any_goals (exfalso; exact undef_bool_ (by with_reducible assumption))
         go_meet
         case rel => exact ⟨_, H', ⟨by have := HJ36.out; have := HJ128.out; first | omega | exact Nat.le_refl _⟩, ⟨by repeat (first | (with_reducible first | exact HB.out | apply below_alloc | apply pw_below_drewN | apply below_drew1) | exact HB.out)⟩⟩
       case rest =>
        as_aux_lemma =>
        clear HC151
        (try clear c1);(try clear c2);(try clear p2);(try clear c3);(try clear p3);(try clear c4);(try clear p4);(try clear q4);(try clear hx4);(try clear c5);(try clear c6);(try clear p6);(try clear c7);(try clear c8);(try clear p8);(try clear q8);(try clear hx8);(try clear c9);(try clear p9);(try clear q9);(try clear hx9);(try clear c10);(try clear c11);(try clear c14);(try clear c15);(try clear c16);(try clear c19);(try clear c22);(try clear c23);(try clear c24);(try clear c25);(try clear c26);(try clear c27);(try clear c28);(try clear c29);(try clear c30);(try clear c31);(try clear c32);(try clear p32);(try clear c33);(try clear p40);(try clear q40);(try clear hx40);(try clear c47);(try clear c50);(try clear c51);(try clear c51b0);(try clear c51b1);(try clear c53);(try clear c53b0);(try clear c53b1);(try clear c54);(try clear c54b0);(try clear c55);(try clear c55b0);(try clear c57);(try clear c57b0);(try clear c57b1);(try clear c58);(try clear c59);(try clear c59b0);(try clear c59b1);(try clear c59b2);(try clear c60);(try clear c60b0);(try clear c61);(try clear c61b0);(try clear c62);(try clear c62b0);(try clear c63);(try clear c63b0);(try clear c64);(try clear c64b0);(try clear c64b1);(try clear c64b2);(try clear p64);(try clear c65);(try clear c65b0);(try clear c65b1);(try clear c70);(try clear c70b0);(try clear c71);(try clear c71b0);(try clear c72);(try clear c72b0);(try clear c74);(try clear c75);(try clear c75b0);(try clear c75b1);(try clear c75b2);(try clear c76);(try clear c76b0);(try clear c76b1);(try clear c76b2);(try clear c82);(try clear c82b0);(try clear c83);(try clear c83b0);(try clear c84);(try clear c84b0);(try clear p85);(try clear q85);(try clear hx85);(try clear c87);(try clear c87b0);(try clear c88);(try clear c88b0);(try clear p89);(try clear q89);(try clear hx89);(try clear c90);(try clear c90b0);(try clear c90b1);(try clear c91);(try clear c91b0);(try clear p92);(try clear q92);(try clear hx92);(try clear c93);(try clear c93b0);(try clear p94);(try clear q94);(try clear hx94);(try clear c95);(try clear c95b0);(try clear c95b1);(try clear c96);(try clear c96b0);(try clear c96b1);(try clear p97);(try clear q97);(try clear hx97);(try clear p99);(try clear q99);(try clear hx99);(try clear c101);(try clear c102);(try clear c102b0);(try clear c102b1);(try clear c103);(try clear c104);(try clear c104b0);(try clear c104b1);(try clear c105);(try clear c106);(try clear c106b0);(try clear c106b1);(try clear c107);(try clear c107b0);(try clear c107b1);(try clear c107b2);(try clear c108);(try clear c108b0);(try clear c108b1);(try clear c109);(try clear c109b0);(try clear c111);(try clear c111b0);(try clear c111b1);(try clear c112);(try clear c112b0);(try clear c112b1);(try clear c113);(try clear c113b0);(try clear c113b1);(try clear c113b2);(try clear c115);(try clear c117);(try clear c117b0);(try clear c117b1);(try clear c117b2);(try clear c141);(try clear c141b0);(try clear c141b1);(try clear c141b2);(try clear c142);(try clear c142b0)
        (try clear c142b1);(try clear c143);(try clear c143b0);(try clear c143b1);(try clear c143b2);(try clear c144);(try clear c144b0);(try clear c144b1);(try clear c145);(try clear c145b0);(try clear c145b1);(try clear c145b2);(try clear c146);(try clear c146b0);(try clear c146b1);(try clear c147);(try clear c147b0);(try clear c147b1);(try clear c147b2);(try clear c148);(try clear c148b0);(try clear c148b1);(try clear c149);(try clear c150);(try clear c152);(try clear c155);(try clear c156);(try clear c156b0);(try clear c156b1);(try clear c157);(try clear c157b0);(try clear c157b1);(try clear c158);(try clear c158b0);(try clear c158b1);(try clear c159);(try clear c161);(try clear c162);(try clear c162b0);(try clear c162b1);(try clear hx408_0);(try clear p2);(try clear p3);(try clear p32);(try clear p4);(try clear p40);(try clear p408);(try clear p6);(try clear p64);(try clear p8);(try clear p85);(try clear p89);(try clear p9);(try clear p92);(try clear p94);(try clear p97);(try clear p99);(try clear q4);(try clear q40);(try clear q408);(try clear q8);(try clear q85);(try clear q89);(try clear q9);(try clear q92);(try clear q94);(try clear q97);(try clear q99)
        obtain ⟨kq, HA, HJ150, HB⟩ := hcut
        cases kq with
        | zero => exact absurd HA.out (by simp [laws_FnTicketsTurned.j5])
        | succ kj150 =>
         have H := HA.out
         clear HA
         simp only [laws_FnTicketsTurned.j5] at H
         by_cases c165 : t435 = true
         · subst c165
           rw [if_pos rfl] at H
           replace H := Option.bind_eq_some_iff.mp H
           obtain ⟨⟨t452, t453⟩, A1660, H⟩ := H
           dsimp only at H
           have A166 := Aside0.mk A1660
           clear A1660
           by_cases c167 : t453 = true
           · subst c167
             rw [if_pos rfl] at H
             by_cases c168 : t452 = t434
             rotate_left
             · exact dead_ (if_neg c168) H hr_
             rw [if_pos c168] at H
             have c168b0 : (t452 == t434) = true := beq_iff_eq.mpr c168
             have c168b1 : (t452 != t434) = false := bne_eq_false_iff_eq.mpr c168
             clear c168
             by_cases c169 : t441 = true
             · subst c169
               rw [if_pos rfl] at H
               replace H := Option.bind_eq_some_iff.mp H
               obtain ⟨⟨t454, t455⟩, A1700, H⟩ := H
               dsimp only at H
               have A170 := Aside0.mk A1700
               clear A1700
               by_cases c171 : t455 = true
               · subst c171
                 rw [if_pos rfl] at H
                 by_cases c172 : t454 = t439
                 rotate_left
                 · exact dead_ (if_neg c172) H hr_
                 rw [if_pos c172] at H
                 have c172b0 : (t454 == t439) = true := beq_iff_eq.mpr c172
                 have c172b1 : (t454 != t439) = false := bne_eq_false_iff_eq.mpr c172
                 clear c172
                 as_aux_lemma =>
                  obtain rfl := Option.some.inj H
                  go_wp2_with (first | ((with_reducible refine gate_callee (f := 28) rfl ?_); refine goesL_ (some 596) rfl rfl Tryz.func28 (by kernel_rfl) rfl #[.int .i64 t431, .int .i64 t433, .int .i64 t432] rfl z11_0_ ?_; (with_reducible refine (impl_CountTickets.calls kj150 t431 t433 t432 t452 true _ A166.out).mono ?_); rintro e w173 ⟨rfl, hb⟩; refine ⟨_, rfl, ?_⟩; have n0_ := Aside0.mk (below_step z11_1_ hb); clear HB; have HB := n0_; clear n0_; (try clear hb); (try clear hb2); (try clear hk); (try clear hi)) | ((with_reducible refine gate_callee (f := 34) rfl ?_); refine goesL_ (some 609) rfl rfl Tryz.func34 (by kernel_rfl) rfl #[.string t440] rfl z11_0_ ?_; (with_reducible refine (impl_NumberOfTicket.calls kj150 t440 t454 true _ A170.out).mono ?_); rintro e w' ⟨rfl, ⟨nd, rfl⟩⟩; refine ⟨_, rfl, ?_⟩))
                  go_ret
                  exact ⟨by first | exact rfl | (simp [errW_none, errW_some] <;> rfl) | (simp [*, errW_none, errW_some] <;> rfl), by repeat (first | (with_reducible first | exact HB.out | apply below_alloc | apply pw_below_drewN | apply below_drew1) | exact HB.out)⟩
               replace c171 := Bool.eq_false_iff.mpr c171
               subst c171
               rw [if_neg (show ¬ (false = true) by decide)] at H
               as_aux_lemma =>
                exact dead2_ H hr_
             replace c169 := Bool.eq_false_iff.mpr c169
             subst c169
             rw [if_neg (show ¬ (false = true) by decide)] at H
             as_aux_lemma =>
              obtain rfl := Option.some.inj H
              go_wp2_with (first | ((with_reducible refine gate_callee (f := 28) rfl ?_); refine goesL_ (some 596) rfl rfl Tryz.func28 (by kernel_rfl) rfl #[.int .i64 t431, .int .i64 t433, .int .i64 t432] rfl z11_0_ ?_; (with_reducible refine (impl_CountTickets.calls kj150 t431 t433 t432 t452 true _ A166.out).mono ?_); rintro e w174 ⟨rfl, hb⟩; refine ⟨_, rfl, ?_⟩; have n0_ := Aside0.mk (below_step z11_1_ hb); clear HB; have HB := n0_; clear n0_; (try clear hb); (try clear hb2); (try clear hk); (try clear hi)))
              go_ret
              exact ⟨by first | exact rfl | (simp [errW_none, errW_some] <;> rfl) | (simp [*, errW_none, errW_some] <;> rfl), by repeat (first | (with_reducible first | exact HB.out | apply below_alloc | apply pw_below_drewN | apply below_drew1) | exact HB.out)⟩
           replace c167 := Bool.eq_false_iff.mpr c167
           subst c167
           rw [if_neg (show ¬ (false = true) by decide)] at H
           as_aux_lemma =>
            exact dead2_ H hr_
         replace c165 := Bool.eq_false_iff.mpr c165
         subst c165
         rw [if_neg (show ¬ (false = true) by decide)] at H
         as_aux_lemma =>
         by_cases c175 : t441 = true
         · subst c175
           rw [if_pos rfl] at H
           replace H := Option.bind_eq_some_iff.mp H
           obtain ⟨⟨t456, t457⟩, A1760, H⟩ := H
           dsimp only at H
           have A176 := Aside0.mk A1760
           clear A1760
           by_cases c177 : t457 = true
           · subst c177
             rw [if_pos rfl] at H
             by_cases c178 : t456 = t439
             rotate_left
             · exact dead_ (if_neg c178) H hr_
             rw [if_pos c178] at H
             have c178b0 : (t456 == t439) = true := beq_iff_eq.mpr c178
             have c178b1 : (t456 != t439) = false := bne_eq_false_iff_eq.mpr c178
             clear c178
             as_aux_lemma =>
              obtain rfl := Option.some.inj H
              go_wp2_with (first | ((with_reducible refine gate_callee (f := 34) rfl ?_); refine goesL_ (some 609) rfl rfl Tryz.func34 (by kernel_rfl) rfl #[.string t440] rfl z11_0_ ?_; (with_reducible refine (impl_NumberOfTicket.calls kj150 t440 t456 true _ A176.out).mono ?_); rintro e w' ⟨rfl, ⟨nd, rfl⟩⟩; refine ⟨_, rfl, ?_⟩))
              go_ret
              exact ⟨by first | exact rfl | (simp [errW_none, errW_some] <;> rfl) | (simp [*, errW_none, errW_some] <;> rfl), by repeat (first | (with_reducible first | exact HB.out | apply below_alloc | apply pw_below_drewN | apply below_drew1) | exact HB.out)⟩
           replace c177 := Bool.eq_false_iff.mpr c177
           subst c177
           rw [if_neg (show ¬ (false = true) by decide)] at H
           as_aux_lemma =>
            exact dead2_ H hr_
         replace c175 := Bool.eq_false_iff.mpr c175
         subst c175
         rw [if_neg (show ¬ (false = true) by decide)] at H
         as_aux_lemma =>
          obtain rfl := Option.some.inj H
          go_wp2
          go_ret
          exact ⟨by first | exact rfl | (simp [errW_none, errW_some] <;> rfl) | (simp [*, errW_none, errW_some] <;> rfl), by repeat (first | (with_reducible first | exact HB.out | apply below_alloc | apply pw_below_drewN | apply below_drew1) | exact HB.out)⟩
 replace c31 := Bool.eq_false_iff.mpr c31
 subst c31
 rw [if_neg (show ¬ (false = true) by decide)] at H
 as_aux_lemma =>
  exact dead2_ H hr_

/-- THE ONE PURE STATEMENT of laws_FnTicketsTurned: yours. -/
def laws_FnTicketsTurned.Pure : Prop := ∀ (l0 : List Int) (l1 : List Int), l0.length ≤ maxLen → l0.length * 1 ≤ 140737488351232 → (∀ x ∈ l0, (Lit.int .u8 x).wf = true) → l1.length ≤ maxLen → l1.length * 1 ≤ 140737488351232 → (∀ x ∈ l1, (Lit.int .u8 x).wf = true) → ∃ k, laws_FnTicketsTurned.f k l0 l1 = some true
theorem laws_FnTicketsTurned.walk (P : laws_FnTicketsTurned.Pure) (a0 : Option Addr) (len0 cap0 : Nat) (z0 : List Int) (a1 : Option Addr) (len1 cap1 : Nat) (z1 : List Int) (w : World) (hT : Shelf.TabOk w) (w0 : (a0 = none ∧ len0 = 0 ∧ cap0 = 0 ∧ z0 = []) ∨ ∃ x, a0 = some x ∧ len0 ≤ cap0 ∧ cap0 ≤ maxLen ∧ z0.length = cap0 ∧ (∀ i, i < z0.length → w.cell? (x.add i) = some (.int .u8 (z0.getD i 0))) ∧ ∀ n ∈ z0, (Lit.int .u8 n).wf = true) (y0 : len0 * 1 ≤ 140737488351232) (w1 : (a1 = none ∧ len1 = 0 ∧ cap1 = 0 ∧ z1 = []) ∨ ∃ x, a1 = some x ∧ len1 ≤ cap1 ∧ cap1 ≤ maxLen ∧ z1.length = cap1 ∧ (∀ i, i < z1.length → w.cell? (x.add i) = some (.int .u8 (z1.getD i 0))) ∧ ∀ n ∈ z1, (Lit.int .u8 n).wf = true) (y1 : len1 * 1 ≤ 140737488351232) :
 Calls Tryz.prog 3 #[.slice a0 len0 cap0, .slice a1 len1 cap1] w fun e w' => e = .returned (.bool true) ∧ Below w.heap.size w w' := by
 obtain ⟨l0, rfl, hr0, hm0, hw0, hc0⟩ := ReadsInt.ofRowC w0
 obtain ⟨l1, rfl, hr1, hm1, hw1, hc1⟩ := ReadsInt.ofRowC w1
 obtain ⟨k, h⟩ := P l0 l1 hm0 y0 hw0 hm1 y1 hw1
 refine (laws_FnTicketsTurned.calls k _ _ l0 _ _ l1 true w hT (Kd.C_of_reads (d := (0 : Int)) (h1 := fun _ => rfl) hr0) hc0 (Kd.C_of_reads (d := (0 : Int)) (h1 := fun _ => rfl) hr1) hc1 (Aside0.mk rfl) h).mono ?_
 rintro e w' ⟨rfl, hd⟩
 exact ⟨rfl, hd⟩

end Go.Proofs.YtlgpjilhjfkmbaaGreatDoor.PFnTicketsTurned
