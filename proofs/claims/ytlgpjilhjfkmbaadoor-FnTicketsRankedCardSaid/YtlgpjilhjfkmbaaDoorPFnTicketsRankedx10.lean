-- Laid by this session's program gprint.py over the kit's print.
import Derived.Laws.Cover1
import Derived.Test.YtlgpjilhjfkmbaaDoorPFnTicketsRankedx0
import Derived.Test.YtlgpjilhjfkmbaaDoorPFnTicketsRankedx1
import Derived.Test.YtlgpjilhjfkmbaaDoorPFnTicketsRankedx2
import Derived.Test.YtlgpjilhjfkmbaaDoorPFnTicketsRankedx4
import Derived.Test.YtlgpjilhjfkmbaaDoorPFnTicketsRankedx5
import Derived.Test.YtlgpjilhjfkmbaaDoorPFnTicketsRankedx6
import Derived.Test.YtlgpjilhjfkmbaaDoorPFnTicketsRankedx7
import Derived.Test.YtlgpjilhjfkmbaaDoorPFnTicketsRankedx8
import Derived.Test.YtlgpjilhjfkmbaaDoorPFnTicketsRankedx9
namespace Go.Proofs.YtlgpjilhjfkmbaaDoor.PFnTicketsRanked
open Go.RowKit Go.Proofs.YtlgpjilhjfkmbaaDoorW.PrintWords Go.Proofs.YtlgpjilhjfkmbaaDoorW.PrintLast Go.Proofs.YtlgpjilhjfkmbaaDoorW.PrintMore
attribute [local go_sem] max2_int min2_int max_two min_two max_three min_three max_four min_four   -- for this text's walks alone
set_option linter.unusedVariables false
set_option linter.unusedSimpArgs false
theorem dead2_ {r : Bool} {P : Prop} (H : some false = some r) (h : Aside0 (r = true)) : P := Bool.noConfusion ((Option.some.inj H).trans h.out)
theorem undef_bool_ {b : Bool} (h : some undef = some (Value.bool b)) : False := by cases h
theorem leq_no_ : ∀ {a b : List UInt8}, Op.bytesLess a b = true → (Op.bytesLess b a || b == a) = false
  | _, [], h => by simp [Op.bytesLess] at h
  | [], _ :: _, _ => rfl
  | x :: a, y :: b, h => by
    simp only [Op.bytesLess, Bool.or_eq_true, Bool.and_eq_true, decide_eq_true_eq, beq_iff_eq] at h
    have ih := @leq_no_ a b
    simp only [Bool.or_eq_false_iff, beq_eq_false_iff_ne] at ih ⊢
    simp only [Op.bytesLess, Bool.or_eq_false_iff, Bool.and_eq_false_iff, decide_eq_false_iff_not, beq_eq_false_iff_ne, ne_eq, List.cons.injEq, not_and]
    rcases h with h | ⟨rfl, h⟩
    · have hn : ¬ y < x := fun k => by have h1 := UInt8.lt_iff_toNat_lt.mp h; have h2 := UInt8.lt_iff_toNat_lt.mp k; omega
      have he : ¬ y = x := fun k => by subst k; have h1 := UInt8.lt_iff_toNat_lt.mp h; omega
      exact ⟨⟨hn, .inl he⟩, fun k => absurd k he⟩
    · have hi := ih h
      have hn : ¬ x < x := fun k => by have h1 := UInt8.lt_iff_toNat_lt.mp k; omega
      exact ⟨⟨hn, .inr hi.1⟩, fun _ => hi.2⟩
theorem z10_0_ {p : Prop} (h : p := by (try simp only [List.map_toArray, List.map_cons, List.map_nil]); first | done | rfl | (simp only [List.length_drop, List.length_take]; rfl)) : p := h
theorem z10_1_ {p : Prop} (h : p := by repeat (first | (with_reducible first | exact HB.out | apply below_alloc | apply pw_below_drewN | apply below_drew1) | exact HB.out)) : p := h
theorem z10_2_ {p : Prop} (h : p := by first | rfl | (simp; done) | (simp [*]; done)) : p := h

/-! ### laws_FnTicketsRanked: function 3 -/
mutual
def laws_FnTicketsRanked.j0 : Nat → List Int → Int → Int → ByteArray → Bool → Int → Bool → List Int → Bool → Option (Bool)
 | 0, _, _, _, _, _, _, _, _, _ => none
 | k + 1, x1, x5, x6, x7, x8, x11, x12, x15, x173 => if x173 = true then (some false) else (if x12 = true then (if (x15.length : Int) = (wrap64 ((wrap64 (Int.tdiv (wrap64 (9 * x5)) 2)) + 1)) then ((laws_eSum.f k x15).bind fun t404 => (if t404 = x11 then (if 0 < (x15.length : Int) then (if (rd x15 0) = 1 then (laws_FnTicketsRanked.l0 k x1 x5 x6 x7 x8 x15 x15 (x15.length : Int) 0) else (some false)) else (none)) else (some false))) else (some false)) else (laws_FnTicketsRanked.j2 k x1 x5 x6 x7 x8))
def laws_FnTicketsRanked.j2 : Nat → List Int → Int → Int → ByteArray → Bool → Option (Bool)
 | 0, _, _, _, _, _ => none
 | k + 1, x1, x5, x6, x7, x8 => if x8 = true then ((impl_IsLucky.f k x7).bind fun bt413 => ((impl_RankOfLucky.f k x7).bind fun bt415 => (if (x7.size : Int) = x5 then (if bt413.2 = true then (if bt413.1 = true then (if bt415.2 = true then (if bt415.1 = x6 then (laws_FnTicketsRanked.j3 k x1) else (some false)) else (some false)) else (some false)) else (some false)) else (some false)))) else (laws_FnTicketsRanked.j3 k x1)
def laws_FnTicketsRanked.j3 : Nat → List Int → Option (Bool)
 | 0, _ => none
 | k + 1, x1 => (spec_DrawNextLucky.f k x1).bind fun t417 => ((impl_NextLucky.f k t417).bind fun bt418 => ((spec_NextLucky.f k t417).bind fun bt420 => ((impl_LastLucky.f k t417).bind fun bt422 => ((spec_LastLucky.f k t417).bind fun bt424 => ((impl_RankOfLucky.f k t417).bind fun bt426 => ((spec_RankOfLucky.f k t417).bind fun bt428 => ((impl_GapsAround.f k t417).bind fun bt430 => ((spec_GapsAround.f k t417).bind fun bt433 => ((impl_IsLucky.f k t417).bind fun bt436 => ((spec_IsLucky.f k t417).bind fun bt438 => ((impl_NumberOfTicket.f k t417).bind fun bt440 => ((spec_NumberOfTicket.f k t417).bind fun bt442 => (if (bt418.2 != bt420.2) = true then (laws_FnTicketsRanked.j4 k x1 t417 bt418.1 bt418.2 bt422.1 bt422.2 bt426.1 bt426.2 bt430.1 bt430.2.1 bt436.1 bt440.1 true) else (if bt418.1.toList = bt420.1.toList then (if (bt422.2 != bt424.2) = true then (laws_FnTicketsRanked.j4 k x1 t417 bt418.1 bt418.2 bt422.1 bt422.2 bt426.1 bt426.2 bt430.1 bt430.2.1 bt436.1 bt440.1 true) else (if bt422.1.toList = bt424.1.toList then (if (bt426.2 != bt428.2) = true then (laws_FnTicketsRanked.j4 k x1 t417 bt418.1 bt418.2 bt422.1 bt422.2 bt426.1 bt426.2 bt430.1 bt430.2.1 bt436.1 bt440.1 true) else (if bt426.1 = bt428.1 then (if (bt430.2.2 != bt433.2.2) = true then (laws_FnTicketsRanked.j4 k x1 t417 bt418.1 bt418.2 bt422.1 bt422.2 bt426.1 bt426.2 bt430.1 bt430.2.1 bt436.1 bt440.1 true) else (if bt430.1 = bt433.1 then (if bt430.2.1 = bt433.2.1 then (if (bt436.2 != bt438.2) = true then (laws_FnTicketsRanked.j4 k x1 t417 bt418.1 bt418.2 bt422.1 bt422.2 bt426.1 bt426.2 bt430.1 bt430.2.1 bt436.1 bt440.1 true) else (if (bt436.1 != bt438.1) = true then (laws_FnTicketsRanked.j4 k x1 t417 bt418.1 bt418.2 bt422.1 bt422.2 bt426.1 bt426.2 bt430.1 bt430.2.1 bt436.1 bt440.1 true) else (if (bt440.2 != bt442.2) = true then (laws_FnTicketsRanked.j4 k x1 t417 bt418.1 bt418.2 bt422.1 bt422.2 bt426.1 bt426.2 bt430.1 bt430.2.1 bt436.1 bt440.1 true) else (if bt440.1 = bt442.1 then ((impl_IsTicket.f k t417).bind fun t447 => (if (bt426.2 != t447) = true then (laws_FnTicketsRanked.j4 k x1 t417 bt418.1 bt418.2 bt422.1 bt422.2 bt426.1 bt426.2 bt430.1 bt430.2.1 bt436.1 bt440.1 true) else ((impl_IsTicket.f k t417).bind fun t448 => ((spec_IsTicket.f k t417).bind fun t449 => (if (t448 != t449) = true then (laws_FnTicketsRanked.j4 k x1 t417 bt418.1 bt418.2 bt422.1 bt422.2 bt426.1 bt426.2 bt430.1 bt430.2.1 bt436.1 bt440.1 true) else (if (bt430.2.2 != bt426.2) = true then (laws_FnTicketsRanked.j4 k x1 t417 bt418.1 bt418.2 bt422.1 bt422.2 bt426.1 bt426.2 bt430.1 bt430.2.1 bt436.1 bt440.1 true) else (if (bt436.2 != bt426.2) = true then (laws_FnTicketsRanked.j4 k x1 t417 bt418.1 bt418.2 bt422.1 bt422.2 bt426.1 bt426.2 bt430.1 bt430.2.1 bt436.1 bt440.1 true) else (if (bt440.2 != bt426.2) = true then (laws_FnTicketsRanked.j4 k x1 t417 bt418.1 bt418.2 bt422.1 bt422.2 bt426.1 bt426.2 bt430.1 bt430.2.1 bt436.1 bt440.1 true) else (if bt418.2 = true then (if bt426.2 = true then (if bt422.2 = true then (laws_FnTicketsRanked.j4 k x1 t417 bt418.1 bt418.2 bt422.1 bt422.2 bt426.1 bt426.2 bt430.1 bt430.2.1 bt436.1 bt440.1 (!bt426.2)) else (laws_FnTicketsRanked.j4 k x1 t417 bt418.1 bt418.2 bt422.1 bt422.2 bt426.1 bt426.2 bt430.1 bt430.2.1 bt436.1 bt440.1 false)) else (laws_FnTicketsRanked.j4 k x1 t417 bt418.1 bt418.2 bt422.1 bt422.2 bt426.1 bt426.2 bt430.1 bt430.2.1 bt436.1 bt440.1 true)) else (if bt422.2 = true then (laws_FnTicketsRanked.j4 k x1 t417 bt418.1 bt418.2 bt422.1 bt422.2 bt426.1 bt426.2 bt430.1 bt430.2.1 bt436.1 bt440.1 (!bt426.2)) else (laws_FnTicketsRanked.j4 k x1 t417 bt418.1 bt418.2 bt422.1 bt422.2 bt426.1 bt426.2 bt430.1 bt430.2.1 bt436.1 bt440.1 false))))))))))) else (laws_FnTicketsRanked.j4 k x1 t417 bt418.1 bt418.2 bt422.1 bt422.2 bt426.1 bt426.2 bt430.1 bt430.2.1 bt436.1 bt440.1 true))))) else (laws_FnTicketsRanked.j4 k x1 t417 bt418.1 bt418.2 bt422.1 bt422.2 bt426.1 bt426.2 bt430.1 bt430.2.1 bt436.1 bt440.1 true)) else (laws_FnTicketsRanked.j4 k x1 t417 bt418.1 bt418.2 bt422.1 bt422.2 bt426.1 bt426.2 bt430.1 bt430.2.1 bt436.1 bt440.1 true))) else (laws_FnTicketsRanked.j4 k x1 t417 bt418.1 bt418.2 bt422.1 bt422.2 bt426.1 bt426.2 bt430.1 bt430.2.1 bt436.1 bt440.1 true))) else (laws_FnTicketsRanked.j4 k x1 t417 bt418.1 bt418.2 bt422.1 bt422.2 bt426.1 bt426.2 bt430.1 bt430.2.1 bt436.1 bt440.1 true))) else (laws_FnTicketsRanked.j4 k x1 t417 bt418.1 bt418.2 bt422.1 bt422.2 bt426.1 bt426.2 bt430.1 bt430.2.1 bt436.1 bt440.1 true)))))))))))))))
def laws_FnTicketsRanked.j4 : Nat → List Int → ByteArray → ByteArray → Bool → ByteArray → Bool → Int → Bool → Int → Int → Bool → Int → Bool → Option (Bool)
 | 0, _, _, _, _, _, _, _, _, _, _, _, _, _ => none
 | k + 1, x1, x29, x30, x31, x34, x35, x38, x39, x42, x43, x48, x52, x443 => if x443 = true then (some false) else (if x39 = true then ((impl_TicketOfNumber.f (x29.size : Int) x52).bind fun bt450 => (if bt450.2 = true then (if bt450.1.toList = x29.toList then (if (x31 != (decide (x43 > 0))) = true then (some false) else (if (x35 != (decide (x42 > 0))) = true then (some false) else (if (x35 != (decide (x38 > 0))) = true then (some false) else (laws_FnTicketsRanked.j5 k x1 x29 x30 x31 x34 x35 x38 x42 x43 x48 x52)))) else (some false)) else (some false))) else (laws_FnTicketsRanked.j5 k x1 x29 x30 x31 x34 x35 x38 x42 x43 x48 x52))
def laws_FnTicketsRanked.j5 : Nat → List Int → ByteArray → ByteArray → Bool → ByteArray → Bool → Int → Int → Int → Bool → Int → Option (Bool)
 | 0, _, _, _, _, _, _, _, _, _, _, _ => none
 | k + 1, x1, x29, x30, x31, x34, x35, x38, x42, x43, x48, x52 => if x31 = true then ((impl_RankOfLucky.f k x30).bind fun bt452 => ((impl_CountLuckyBetween.f k x29 x30).bind fun bt454 => ((impl_NumberOfTicket.f k x30).bind fun bt456 => (if x48 = true then (if ((Op.bytesLess x29.toList x30.toList) = true) then (if bt452.2 = true then (if bt452.1 = (wrap64 (x38 + 1)) then (if bt454.2 = true then (if bt454.1 = 1 then (if bt456.2 = true then (if (wrap64 (bt456.1 - x52)) = x43 then (laws_FnTicketsRanked.j6 k x1 x29 x34 x35 x38 x42 x52) else (some false)) else (some false)) else (some false)) else (some false)) else (some false)) else (some false)) else (some false)) else (if ((Op.bytesLess x29.toList x30.toList) = true) then (if bt452.2 = true then (if bt452.1 = x38 then (if bt454.2 = true then (if bt454.1 = 1 then (if bt456.2 = true then (if (wrap64 (bt456.1 - x52)) = x43 then (laws_FnTicketsRanked.j6 k x1 x29 x34 x35 x38 x42 x52) else (some false)) else (some false)) else (some false)) else (some false)) else (some false)) else (some false)) else (some false)))))) else (laws_FnTicketsRanked.j6 k x1 x29 x34 x35 x38 x42 x52)
def laws_FnTicketsRanked.j6 : Nat → List Int → ByteArray → ByteArray → Bool → Int → Int → Int → Option (Bool)
 | 0, _, _, _, _, _, _, _ => none
 | k + 1, x1, x29, x34, x35, x38, x42, x52 => if x35 = true then ((impl_RankOfLucky.f k x34).bind fun bt458 => ((impl_NumberOfTicket.f k x34).bind fun bt460 => ((impl_IsLucky.f k x34).bind fun bt462 => (if ((Op.bytesLess x34.toList x29.toList) = true) then (if bt458.2 = true then (if bt458.1 = (wrap64 (x38 - 1)) then (if bt460.2 = true then (if (wrap64 (x52 - bt460.1)) = x42 then (if bt462.2 = true then (if bt462.1 = true then (laws_FnTicketsRanked.j7 k x1) else (some false)) else (some false)) else (some false)) else (some false)) else (some false)) else (some false)) else (some false))))) else (laws_FnTicketsRanked.j7 k x1)
def laws_FnTicketsRanked.j7 : Nat → List Int → Option (Bool)
 | 0, _ => none
 | k + 1, x1 => (spec_DrawCountLuckyBetween.f k x1).bind fun bt464 => ((impl_CountLuckyBetween.f k bt464.1 bt464.2).bind fun bt466 => ((spec_CountLuckyBetween.f k bt464.1 bt464.2).bind fun bt468 => (if (bt466.2 != bt468.2) = true then (some false) else (if bt466.1 = bt468.1 then (if bt466.2 = true then ((impl_RankOfLucky.f k bt464.1).bind fun bt470 => ((impl_RankOfLucky.f k bt464.2).bind fun bt472 => ((impl_IsLucky.f k bt464.1).bind fun bt474 => ((impl_IsLucky.f k bt464.2).bind fun bt476 => (if bt474.1 = true then (if bt476.1 = true then (if bt470.2 = true then (if bt472.2 = true then (if bt474.2 = true then (if bt476.2 = true then (if bt466.1 = (wrap64 ((wrap64 ((wrap64 (bt472.1 - bt470.1)) - 1)) + 1)) then (if bt466.1 < 0 then (some false) else (some true)) else (some false)) else (some false)) else (some false)) else (some false)) else (some false)) else (if bt470.2 = true then (if bt472.2 = true then (if bt474.2 = true then (if bt476.2 = true then (if bt466.1 = (wrap64 ((wrap64 (bt472.1 - bt470.1)) - 1)) then (if bt466.1 < 0 then (some false) else (some true)) else (some false)) else (some false)) else (some false)) else (some false)) else (some false))) else (if bt476.1 = true then (if bt470.2 = true then (if bt472.2 = true then (if bt474.2 = true then (if bt476.2 = true then (if bt466.1 = (wrap64 ((wrap64 (bt472.1 - bt470.1)) + 1)) then (if bt466.1 < 0 then (some false) else (some true)) else (some false)) else (some false)) else (some false)) else (some false)) else (some false)) else (if bt470.2 = true then (if bt472.2 = true then (if bt474.2 = true then (if bt476.2 = true then (if bt466.1 = (wrap64 (bt472.1 - bt470.1)) then (if bt466.1 < 0 then (some false) else (some true)) else (some false)) else (some false)) else (some false)) else (some false)) else (some false)))))))) else (some true)) else (some false)))))
def laws_FnTicketsRanked.l0 : Nat → List Int → Int → Int → ByteArray → Bool → List Int → List Int → Int → Int → Option (Bool)
 | 0, _, _, _, _, _, _, _, _, _ => none
 | k + 1, x1, x5, x6, x7, x8, x15, x194, x195, x196 => if x196 < x195 then (if 0 ≤ x196 then (if x196 < (x194.length : Int) then ((impl_CountLuckyOf.f k x5 x196).bind fun bt407 => ((impl_CountTickets.f k x5 x196 x196).bind fun bt409 => (if 0 ≤ (wrap64 ((wrap64 ((x15.length : Int) - 1)) - x196)) then (if (wrap64 ((wrap64 ((x15.length : Int) - 1)) - x196)) < (x15.length : Int) then (if (rd x194 x196) = (rd x15 (wrap64 ((wrap64 ((x15.length : Int) - 1)) - x196))) then (if bt407.2 = true then (if bt407.1 = (rd x194 x196) then (if bt409.2 = true then (if bt409.1 = (rd x194 x196) then (laws_FnTicketsRanked.l0 k x1 x5 x6 x7 x8 x15 x194 x195 (wrap64 (x196 + 1))) else (some false)) else (some false)) else (some false)) else (some false)) else (some false)) else (none)) else (none)))) else (none)) else (none)) else (laws_FnTicketsRanked.j2 k x1 x5 x6 x7 x8)
end
def laws_FnTicketsRanked.f (k : Nat) (l0 : List Int) (l1 : List Int) : Option (Bool) := (laws_big.f l0 l1).bind fun t381 => (if t381 = true then (some true) else ((spec_DrawLuckyOfRank.f l0).bind fun bt382 => ((impl_LuckyOfRank.f k bt382.1 bt382.2).bind fun bt384 => ((spec_LuckyOfRank.f k bt382.1 bt382.2).bind fun bt386 => ((impl_CountLucky.f k bt382.1).bind fun bt388 => ((spec_CountLucky.f k bt382.1).bind fun bt390 => ((impl_SumsOfLucky.f k bt382.1).bind fun bt392 => ((spec_SumsOfLucky.f k bt382.1).bind fun bt396 => (if (bt384.2 != bt386.2) = true then (laws_FnTicketsRanked.j0 k l1 bt382.1 bt382.2 bt384.1 bt384.2 bt388.1 bt388.2 bt392.1 true) else (if bt384.1.toList = bt386.1.toList then (if (bt388.2 != bt390.2) = true then (laws_FnTicketsRanked.j0 k l1 bt382.1 bt382.2 bt384.1 bt384.2 bt388.1 bt388.2 bt392.1 true) else (if bt388.1 = bt390.1 then (if (bt392.2 != bt396.2) = true then (laws_FnTicketsRanked.j0 k l1 bt382.1 bt382.2 bt384.1 bt384.2 bt388.1 bt388.2 bt392.1 true) else ((laws_eSame.f k bt392.1 bt396.1).bind fun t401 => (if t401 = true then (if (bt392.2 != bt388.2) = true then (laws_FnTicketsRanked.j0 k l1 bt382.1 bt382.2 bt384.1 bt384.2 bt388.1 bt388.2 bt392.1 true) else (if bt388.2 = true then (if bt382.2 ≥ 0 then (laws_FnTicketsRanked.j0 k l1 bt382.1 bt382.2 bt384.1 bt384.2 bt388.1 bt388.2 bt392.1 (bt384.2 != (decide (bt382.2 < bt388.1)))) else (laws_FnTicketsRanked.j0 k l1 bt382.1 bt382.2 bt384.1 bt384.2 bt388.1 bt388.2 bt392.1 (bt384.2 != false))) else (laws_FnTicketsRanked.j0 k l1 bt382.1 bt382.2 bt384.1 bt384.2 bt388.1 bt388.2 bt392.1 (bt384.2 != false)))) else (laws_FnTicketsRanked.j0 k l1 bt382.1 bt382.2 bt384.1 bt384.2 bt388.1 bt388.2 bt392.1 true)))) else (laws_FnTicketsRanked.j0 k l1 bt382.1 bt382.2 bt384.1 bt384.2 bt388.1 bt388.2 bt392.1 true))) else (laws_FnTicketsRanked.j0 k l1 bt382.1 bt382.2 bt384.1 bt384.2 bt388.1 bt388.2 bt392.1 true)))))))))))
theorem laws_FnTicketsRanked.j0_dead {k : Nat} {x1 : List Int} {x5 : Int} {x6 : Int} {x7 : ByteArray} {x8 : Bool} {x11 : Int} {x12 : Bool} {x15 : List Int} {r : Bool} {P : Prop} (H : laws_FnTicketsRanked.j0 k x1 x5 x6 x7 x8 x11 x12 x15 true = some r) (h : Aside0 (r = true)) : P := by
 cases k with
 | zero => exact none_ (by simp only [laws_FnTicketsRanked.j0]) H
 | succ k => exact dead_ (by simp only [laws_FnTicketsRanked.j0]; first | exact if_pos rfl | exact if_pos trivial) H h
theorem laws_FnTicketsRanked.j4_dead {k : Nat} {x1 : List Int} {x29 : ByteArray} {x30 : ByteArray} {x31 : Bool} {x34 : ByteArray} {x35 : Bool} {x38 : Int} {x39 : Bool} {x42 : Int} {x43 : Int} {x48 : Bool} {x52 : Int} {r : Bool} {P : Prop} (H : laws_FnTicketsRanked.j4 k x1 x29 x30 x31 x34 x35 x38 x39 x42 x43 x48 x52 true = some r) (h : Aside0 (r = true)) : P := by
 cases k with
 | zero => exact none_ (by simp only [laws_FnTicketsRanked.j4]) H
 | succ k => exact dead_ (by simp only [laws_FnTicketsRanked.j4]; first | exact if_pos rfl | exact if_pos trivial) H h
set_option maxHeartbeats 64000000 in
set_option maxRecDepth 100000 in
theorem laws_FnTicketsRanked.calls (k : Nat) (A0 : Option Addr) (c0 : Nat) (l0 : List Int) (A1 : Option Addr) (c1 : Nat) (l1 : List Int) (r : Bool) (w : World) (hT : Shelf.TabOk w) (hr0 : Kd.C (Kd.int .u8) w A0 l0.length l0) (hc0 : l0.length ≤ c0) (hr1 : Kd.C (Kd.int .u8) w A1 l1.length l1) (hc1 : l1.length ≤ c1) (hr_ : Aside0 (r = true)) (h : laws_FnTicketsRanked.f k l0 l1 = some r) :
 Calls Tryd.prog 3 #[.slice A0 l0.length c0, .slice A1 l1.length c1] w fun e w' => e = .returned (.bool r) ∧ Below w.heap.size w w' := by
 have HR0 := Aside0.mk hr0
 have HC0 := Aside0.mk hc0
 clear hr0 hc0
 have HR1 := Aside0.mk hr1
 have HC1 := Aside0.mk hc1
 clear hr1 hc1
 have HT := Aside0.mk hT
 clear hT
 have HB := Aside0.mk (Below.refl w.heap.size w)
 have H : ((laws_big.f l0 l1).bind fun t381 => (if t381 = true then (some true) else ((spec_DrawLuckyOfRank.f l0).bind fun bt382 => ((impl_LuckyOfRank.f k bt382.1 bt382.2).bind fun bt384 => ((spec_LuckyOfRank.f k bt382.1 bt382.2).bind fun bt386 => ((impl_CountLucky.f k bt382.1).bind fun bt388 => ((spec_CountLucky.f k bt382.1).bind fun bt390 => ((impl_SumsOfLucky.f k bt382.1).bind fun bt392 => ((spec_SumsOfLucky.f k bt382.1).bind fun bt396 => (if (bt384.2 != bt386.2) = true then (laws_FnTicketsRanked.j0 k l1 bt382.1 bt382.2 bt384.1 bt384.2 bt388.1 bt388.2 bt392.1 true) else (if bt384.1.toList = bt386.1.toList then (if (bt388.2 != bt390.2) = true then (laws_FnTicketsRanked.j0 k l1 bt382.1 bt382.2 bt384.1 bt384.2 bt388.1 bt388.2 bt392.1 true) else (if bt388.1 = bt390.1 then (if (bt392.2 != bt396.2) = true then (laws_FnTicketsRanked.j0 k l1 bt382.1 bt382.2 bt384.1 bt384.2 bt388.1 bt388.2 bt392.1 true) else ((laws_eSame.f k bt392.1 bt396.1).bind fun t401 => (if t401 = true then (if (bt392.2 != bt388.2) = true then (laws_FnTicketsRanked.j0 k l1 bt382.1 bt382.2 bt384.1 bt384.2 bt388.1 bt388.2 bt392.1 true) else (if bt388.2 = true then (if bt382.2 ≥ 0 then (laws_FnTicketsRanked.j0 k l1 bt382.1 bt382.2 bt384.1 bt384.2 bt388.1 bt388.2 bt392.1 (bt384.2 != (decide (bt382.2 < bt388.1)))) else (laws_FnTicketsRanked.j0 k l1 bt382.1 bt382.2 bt384.1 bt384.2 bt388.1 bt388.2 bt392.1 (bt384.2 != false))) else (laws_FnTicketsRanked.j0 k l1 bt382.1 bt382.2 bt384.1 bt384.2 bt388.1 bt388.2 bt392.1 (bt384.2 != false)))) else (laws_FnTicketsRanked.j0 k l1 bt382.1 bt382.2 bt384.1 bt384.2 bt388.1 bt388.2 bt392.1 true)))) else (laws_FnTicketsRanked.j0 k l1 bt382.1 bt382.2 bt384.1 bt384.2 bt388.1 bt388.2 bt392.1 true))) else (laws_FnTicketsRanked.j0 k l1 bt382.1 bt382.2 bt384.1 bt384.2 bt388.1 bt388.2 bt392.1 true)))))))))))) = some r := h
 clear h
 replace H := Option.bind_eq_some_iff.mp H
 obtain ⟨t381, A30, H⟩ := H
 have A3 := Aside0.mk A30
 clear A30
 by_cases c4 : t381 = true
 · subst c4
   rw [if_pos rfl] at H
   as_aux_lemma =>
    obtain rfl := Option.some.inj H
    go_enter Tryd.func3, Tryd.ntmps3
    go_wp2_with (first | ((with_reducible refine gate_callee (f := 4) rfl ?_); refine goesL_ (some 88) rfl rfl Tryd.func4 (by kernel_rfl) rfl #[.slice A0 l0.length c0, .slice A1 l1.length c1] rfl z10_0_ ?_; (with_reducible refine (laws_big.calls _ _ l0 _ _ l1 true _ ?side1 ?side2 ?side3 ?side4 A3.out).mono ?_); (case side1 => repeat (first | exact HR0.out | (with_reducible refine Kd.C_alloc ?_ _) | (with_reducible refine Kd.C_drewN ?_ _) | (with_reducible refine Kd.C_drew ?_))); (case side2 => exact HC0.out); (case side3 => repeat (first | exact HR1.out | (with_reducible refine Kd.C_alloc ?_ _) | (with_reducible refine Kd.C_drewN ?_ _) | (with_reducible refine Kd.C_drew ?_))); (case side4 => exact HC1.out); rintro e w' ⟨rfl, ⟨nd, rfl⟩⟩; refine ⟨_, rfl, ?_⟩))
    go_ret
    exact ⟨by first | exact rfl | (simp [errW_none, errW_some] <;> rfl) | (simp [*, errW_none, errW_some] <;> rfl), by repeat (first | (with_reducible first | exact HB.out | apply below_alloc | apply pw_below_drewN | apply below_drew1) | exact HB.out)⟩
 replace c4 := Bool.eq_false_iff.mpr c4
 subst c4
 rw [if_neg (show ¬ (false = true) by decide)] at H
 as_aux_lemma =>
 replace H := Option.bind_eq_some_iff.mp H
 obtain ⟨⟨t382, t383⟩, A50, H⟩ := H
 dsimp only at H
 have A5 := Aside0.mk A50
 clear A50
 replace H := Option.bind_eq_some_iff.mp H
 obtain ⟨⟨t384, t385⟩, A60, H⟩ := H
 dsimp only at H
 have A6 := Aside0.mk A60
 clear A60
 replace H := Option.bind_eq_some_iff.mp H
 obtain ⟨⟨t386, t387⟩, A70, H⟩ := H
 dsimp only at H
 have A7 := Aside0.mk A70
 clear A70
 replace H := Option.bind_eq_some_iff.mp H
 obtain ⟨⟨t388, t389⟩, A80, H⟩ := H
 dsimp only at H
 have A8 := Aside0.mk A80
 clear A80
 replace H := Option.bind_eq_some_iff.mp H
 obtain ⟨⟨t390, t391⟩, A90, H⟩ := H
 dsimp only at H
 have A9 := Aside0.mk A90
 clear A90
 as_aux_lemma =>
 replace H := Option.bind_eq_some_iff.mp H
 obtain ⟨⟨t392, t393⟩, A100, H⟩ := H
 dsimp only at H
 have A10 := Aside0.mk A100
 clear A100
 replace H := Option.bind_eq_some_iff.mp H
 obtain ⟨⟨t396, t397⟩, A110, H⟩ := H
 dsimp only at H
 have A11 := Aside0.mk A110
 clear A110
 have HC12 := Aside0.mk H
 clear H
 go_enter Tryd.func3, Tryd.ntmps3
 go_upto_region 10 with (first | ((with_reducible refine gate_callee (f := 4) rfl ?_); refine goesL_ (some 88) rfl rfl Tryd.func4 (by kernel_rfl) rfl #[.slice A0 l0.length c0, .slice A1 l1.length c1] rfl z10_0_ ?_; (with_reducible refine (laws_big.calls _ _ l0 _ _ l1 false _ ?side1 ?side2 ?side3 ?side4 A3.out).mono ?_); (case side1 => repeat (first | exact HR0.out | (with_reducible refine Kd.C_alloc ?_ _) | (with_reducible refine Kd.C_drewN ?_ _) | (with_reducible refine Kd.C_drew ?_))); (case side2 => exact HC0.out); (case side3 => repeat (first | exact HR1.out | (with_reducible refine Kd.C_alloc ?_ _) | (with_reducible refine Kd.C_drewN ?_ _) | (with_reducible refine Kd.C_drew ?_))); (case side4 => exact HC1.out); rintro e w' ⟨rfl, ⟨nd, rfl⟩⟩; refine ⟨_, rfl, ?_⟩) | ((with_reducible refine gate_callee (f := 5) rfl ?_); refine goesL_ (some 91) rfl rfl Tryd.func5 (by kernel_rfl) rfl #[.slice A0 l0.length c0] rfl z10_0_ ?_; (with_reducible refine (spec_DrawLuckyOfRank.calls _ _ l0 t382 t383 _ ?side1 ?side2 A5.out).mono ?_); (case side1 => repeat (first | exact HR0.out | (with_reducible refine Kd.C_alloc ?_ _) | (with_reducible refine Kd.C_drewN ?_ _) | (with_reducible refine Kd.C_drew ?_))); (case side2 => exact HC0.out); rintro e w13 ⟨rfl, hb⟩; refine ⟨_, rfl, ?_⟩; have n0_ := Aside0.mk (below_step z10_1_ hb); clear HB; have HB := n0_; clear n0_; (try clear hb); (try clear hb2); (try clear hk); (try clear hi)) | ((with_reducible refine gate_callee (f := 6) rfl ?_); refine goesL_ (some 97) rfl rfl Tryd.func6 (by kernel_rfl) rfl #[.int .i64 t382, .int .i64 t383] rfl z10_0_ ?_; (with_reducible refine (impl_LuckyOfRank.calls k t382 t383 t384 t385 _ A6.out).mono ?_); rintro e w14 ⟨rfl, hb⟩; refine ⟨_, rfl, ?_⟩; have n0_ := Aside0.mk (below_step z10_1_ hb); clear HB; have HB := n0_; clear n0_; (try clear hb); (try clear hb2); (try clear hk); (try clear hi)) | ((with_reducible refine gate_callee (f := 7) rfl ?_); refine goesL_ (some 103) rfl rfl Tryd.func7 (by kernel_rfl) rfl #[.int .i64 t382, .int .i64 t383] rfl z10_0_ ?_; (with_reducible refine (spec_LuckyOfRank.calls k t382 t383 t386 t387 _ A7.out).mono ?_); rintro e w15 ⟨rfl, hb⟩; refine ⟨_, rfl, ?_⟩; have n0_ := Aside0.mk (below_step z10_1_ hb); clear HB; have HB := n0_; clear n0_; (try clear hb); (try clear hb2); (try clear hk); (try clear hi)) | ((with_reducible refine gate_callee (f := 8) rfl ?_); refine goesL_ (some 108) rfl rfl Tryd.func8 (by kernel_rfl) rfl #[.int .i64 t382] rfl z10_0_ ?_; (with_reducible refine (impl_CountLucky.calls k t382 t388 t389 _ A8.out).mono ?_); rintro e w16 ⟨rfl, hb⟩; refine ⟨_, rfl, ?_⟩; have n0_ := Aside0.mk (below_step z10_1_ hb); clear HB; have HB := n0_; clear n0_; (try clear hb); (try clear hb2); (try clear hk); (try clear hi)) | ((with_reducible refine gate_callee (f := 9) rfl ?_); refine goesL_ (some 113) rfl rfl Tryd.func9 (by kernel_rfl) rfl #[.int .i64 t382] rfl z10_0_ ?_; (with_reducible refine (spec_CountLucky.calls k t382 t390 t391 _ A9.out).mono ?_); rintro e w17 ⟨rfl, hb⟩; refine ⟨_, rfl, ?_⟩; have n0_ := Aside0.mk (below_step z10_1_ hb); clear HB; have HB := n0_; clear n0_; (try clear hb); (try clear hb2); (try clear hk); (try clear hi)) | ((with_reducible refine gate_callee (f := 10) rfl ?_); refine goesL_ (some 118) rfl rfl Tryd.func10 (by kernel_rfl) rfl #[.int .i64 t382] rfl z10_0_ ?_; (with_reducible refine (impl_SumsOfLucky.calls k t382 t392 t393 _ A10.out).mono ?_); rintro e w18 ⟨v394, rfl, ho0, hb⟩; refine ⟨_, rfl, ?_⟩; have n0_ := Aside0.mk (Kd.R_lower ho0 (below_size z10_1_)); have n1_ := Aside0.mk (below_step z10_1_ hb); clear HB; have HO395 := n0_; have HB := n1_; clear n0_ n1_; (try clear hb); (try clear hb2); (try clear hk); (try clear hi); (try clear ho0)) | ((with_reducible refine gate_callee (f := 11) rfl ?_); refine goesL_ (some 123) rfl rfl Tryd.func11 (by kernel_rfl) rfl #[.int .i64 t382] rfl z10_0_ ?_; (with_reducible refine (spec_SumsOfLucky.calls k t382 t396 t397 _ A11.out).mono ?_); rintro e w19 ⟨v398, rfl, ho0, hb⟩; refine ⟨_, rfl, ?_⟩; have n0_ := Aside0.mk (Kd.R_elder' (by (with_reducible repeat (first | apply Kd.R_alloc | apply Kd.R_drewN | apply Kd.R_drew)); exact HO395.out) (Kd.R_base ho0) hb); have n1_ := Aside0.mk (Kd.R_lower (Kd.R_new' ho0 (Kd.R_lt (by (with_reducible repeat (first | apply Kd.R_alloc | apply Kd.R_drewN | apply Kd.R_drew)); exact HO395.out))) (below_size z10_1_)); have n2_ := Aside0.mk (below_step z10_1_ hb); clear HO395; clear HB; have HO395 := n0_; have HO399 := n1_; have HB := n2_; clear n0_ n1_ n2_; (try clear hb); (try clear hb2); (try clear hk); (try clear hi); (try clear ho0)))
 (try simp only [Act.put, List.setIfInBounds_toArray, List.set_cons_zero, List.set_cons_succ])
 go_cut [173] from 86 to 173 (fun v173 wc => ∃ (kq : Nat) (x173_11 : Bool), v173 = .bool x173_11 ∧ Aside0 (laws_FnTicketsRanked.j0 kq l1 t382 t383 t384 t385 t388 t389 t392 x173_11 = some r) ∧ Aside0 (kq ≤ k) ∧ Aside0 (Kd.R (Kd.int .i64) 3 wc w.heap.size (fun _ => True) v394 t392) ∧ Aside0 (Below w.heap.size w wc))
 case first =>
  as_aux_lemma =>
  have H := HC12.out
  clear HC12
  by_cases c20 : (t385 != t387) = true
  · exact laws_FnTicketsRanked.j0_dead ((if_pos c20).symm.trans H) hr_
  rw [if_neg c20] at H
  have c20b0 : (t385 != t387) = false := by simpa using c20
  (try (have c20b1 : decide (t385 = t387) = true := by simpa using c20))
  (try (have c20b2 : (t385 == t387) = true := by simpa using c20))
  clear c20
  (first | rw [c20b0] | (simp only [i64_w, i32_w]; rw [c20b0]) | skip)
  by_cases c21 : t384.toList = t386.toList
  rotate_left
  · exact laws_FnTicketsRanked.j0_dead ((if_neg c21).symm.trans H) hr_
  rw [if_pos c21] at H
  have c21b0 : (t384.toList == t386.toList) = true := beq_iff_eq.mpr c21
  have c21b1 : (t384.toList != t386.toList) = false := bne_eq_false_iff_eq.mpr c21
  clear c21
  by_cases c22 : (t389 != t391) = true
  · exact laws_FnTicketsRanked.j0_dead ((if_pos c22).symm.trans H) hr_
  rw [if_neg c22] at H
  have c22b0 : (t389 != t391) = false := by simpa using c22
  (try (have c22b1 : decide (t389 = t391) = true := by simpa using c22))
  (try (have c22b2 : (t389 == t391) = true := by simpa using c22))
  clear c22
  by_cases c23 : t388 = t390
  rotate_left
  · exact laws_FnTicketsRanked.j0_dead ((if_neg c23).symm.trans H) hr_
  rw [if_pos c23] at H
  have c23b0 : (t388 == t390) = true := beq_iff_eq.mpr c23
  have c23b1 : (t388 != t390) = false := bne_eq_false_iff_eq.mpr c23
  clear c23
  as_aux_lemma =>
  by_cases c24 : (t393 != t397) = true
  · exact laws_FnTicketsRanked.j0_dead ((if_pos c24).symm.trans H) hr_
  rw [if_neg c24] at H
  have c24b0 : (t393 != t397) = false := by simpa using c24
  (try (have c24b1 : decide (t393 = t397) = true := by simpa using c24))
  (try (have c24b2 : (t393 == t397) = true := by simpa using c24))
  clear c24
  replace H := Option.bind_eq_some_iff.mp H
  obtain ⟨t401, A250, H⟩ := H
  have A25 := Aside0.mk A250
  clear A250
  by_cases c26 : t401 = true
  · subst c26
    rw [if_pos rfl] at H
    by_cases c27 : (t393 != t389) = true
    · exact laws_FnTicketsRanked.j0_dead ((if_pos c27).symm.trans H) hr_
    rw [if_neg c27] at H
    have c27b0 : (t393 != t389) = false := by simpa using c27
    (try (have c27b1 : decide (t393 = t389) = true := by simpa using c27))
    (try (have c27b2 : (t393 == t389) = true := by simpa using c27))
    clear c27
    by_cases c28 : t389 = true
    · subst c28
      rw [if_pos rfl] at H
      by_cases c29 : t383 ≥ 0
      · rw [if_pos c29] at H
        have c29b0 : decide (0 ≤ t383) = true := decide_eq_true c29
        clear c29
        as_aux_lemma =>
         have H' := Aside0.mk H
         clear H
         obtain ⟨Ao30, co30, eo30⟩ := Kd.R_slice HO395.out
         subst eo30
         obtain ⟨Ao31, co31, eo31⟩ := Kd.R_slice HO399.out
         subst eo31
         go_wp2_with (first | (go_at_call 12; (with_reducible refine (laws_eSame.calls k _ _ t392 _ _ t396 true _ ?side1 ?side2 ?side3 ?side4 A25.out).mono ?_); (case side1 => repeat (first | exact (Kd.R_reads' HO395.out).2.2 | (with_reducible refine Kd.C_alloc ?_ _) | (with_reducible refine Kd.C_drewN ?_ _) | (with_reducible refine Kd.C_drew ?_))); (case side2 => exact (Kd.R_reads' HO395.out).2.1); (case side3 => repeat (first | exact (Kd.R_reads' HO399.out).2.2 | (with_reducible refine Kd.C_alloc ?_ _) | (with_reducible refine Kd.C_drewN ?_ _) | (with_reducible refine Kd.C_drew ?_))); (case side4 => exact (Kd.R_reads' HO399.out).2.1); rintro e w' ⟨rfl, ⟨nd, rfl⟩⟩))
         try any_goals (exfalso; exact undef_bool_ (by with_reducible assumption))
         go_meet
         case rel => exact ⟨_, ((t385 != (decide (t383 < t388)))), z10_2_, H', ⟨by first | omega | exact Nat.le_refl _⟩, ⟨by (with_reducible repeat (first | apply Kd.R_alloc | apply Kd.R_drewN | apply Kd.R_drew)); exact Kd.R_mono HO395.out (fun _ hk => trivial)⟩, ⟨by repeat (first | (with_reducible first | exact HB.out | apply below_alloc | apply pw_below_drewN | apply below_drew1) | exact HB.out)⟩⟩
      rw [if_neg c29] at H
      have c29b0 : decide (0 ≤ t383) = false := decide_eq_false c29
      clear c29
      as_aux_lemma =>
       have H' := Aside0.mk H
       clear H
       obtain ⟨Ao32, co32, eo32⟩ := Kd.R_slice HO395.out
       subst eo32
       obtain ⟨Ao33, co33, eo33⟩ := Kd.R_slice HO399.out
       subst eo33
       go_wp2_with (first | (go_at_call 12; (with_reducible refine (laws_eSame.calls k _ _ t392 _ _ t396 true _ ?side1 ?side2 ?side3 ?side4 A25.out).mono ?_); (case side1 => repeat (first | exact (Kd.R_reads' HO395.out).2.2 | (with_reducible refine Kd.C_alloc ?_ _) | (with_reducible refine Kd.C_drewN ?_ _) | (with_reducible refine Kd.C_drew ?_))); (case side2 => exact (Kd.R_reads' HO395.out).2.1); (case side3 => repeat (first | exact (Kd.R_reads' HO399.out).2.2 | (with_reducible refine Kd.C_alloc ?_ _) | (with_reducible refine Kd.C_drewN ?_ _) | (with_reducible refine Kd.C_drew ?_))); (case side4 => exact (Kd.R_reads' HO399.out).2.1); rintro e w' ⟨rfl, ⟨nd, rfl⟩⟩))
       try any_goals (exfalso; exact undef_bool_ (by with_reducible assumption))
       go_meet
       case rel => exact ⟨_, ((t385 != false)), z10_2_, H', ⟨by first | omega | exact Nat.le_refl _⟩, ⟨by (with_reducible repeat (first | apply Kd.R_alloc | apply Kd.R_drewN | apply Kd.R_drew)); exact Kd.R_mono HO395.out (fun _ hk => trivial)⟩, ⟨by repeat (first | (with_reducible first | exact HB.out | apply below_alloc | apply pw_below_drewN | apply below_drew1) | exact HB.out)⟩⟩
    replace c28 := Bool.eq_false_iff.mpr c28
    subst c28
    rw [if_neg (show ¬ (false = true) by decide)] at H
    as_aux_lemma =>
     have H' := Aside0.mk H
     clear H
     obtain ⟨Ao34, co34, eo34⟩ := Kd.R_slice HO395.out
     subst eo34
     obtain ⟨Ao35, co35, eo35⟩ := Kd.R_slice HO399.out
     subst eo35
     go_wp2_with (first | (go_at_call 12; (with_reducible refine (laws_eSame.calls k _ _ t392 _ _ t396 true _ ?side1 ?side2 ?side3 ?side4 A25.out).mono ?_); (case side1 => repeat (first | exact (Kd.R_reads' HO395.out).2.2 | (with_reducible refine Kd.C_alloc ?_ _) | (with_reducible refine Kd.C_drewN ?_ _) | (with_reducible refine Kd.C_drew ?_))); (case side2 => exact (Kd.R_reads' HO395.out).2.1); (case side3 => repeat (first | exact (Kd.R_reads' HO399.out).2.2 | (with_reducible refine Kd.C_alloc ?_ _) | (with_reducible refine Kd.C_drewN ?_ _) | (with_reducible refine Kd.C_drew ?_))); (case side4 => exact (Kd.R_reads' HO399.out).2.1); rintro e w' ⟨rfl, ⟨nd, rfl⟩⟩))
     try any_goals (exfalso; exact undef_bool_ (by with_reducible assumption))
     go_meet
     case rel => exact ⟨_, ((t385 != false)), z10_2_, H', ⟨by first | omega | exact Nat.le_refl _⟩, ⟨by (with_reducible repeat (first | apply Kd.R_alloc | apply Kd.R_drewN | apply Kd.R_drew)); exact Kd.R_mono HO395.out (fun _ hk => trivial)⟩, ⟨by repeat (first | (with_reducible first | exact HB.out | apply below_alloc | apply pw_below_drewN | apply below_drew1) | exact HB.out)⟩⟩
  replace c26 := Bool.eq_false_iff.mpr c26
  subst c26
  rw [if_neg (show ¬ (false = true) by decide)] at H
  as_aux_lemma =>
   first | exact laws_FnTicketsRanked.j0_dead H hr_ | exact laws_FnTicketsRanked.j4_dead H hr_
 case rest =>
  as_aux_lemma =>
  clear HC12
  (try clear c1);(try clear c2);(try clear p2);(try clear c3);(try clear c4);(try clear c5);(try clear c6);(try clear c7);(try clear c8);(try clear c9);(try clear c10);(try clear c11);(try clear c20);(try clear c20b0);(try clear c20b1);(try clear c20b2);(try clear c21);(try clear c21b0);(try clear c21b1);(try clear c22);(try clear c22b0);(try clear c22b1);(try clear c22b2);(try clear c23);(try clear c23b0);(try clear c23b1);(try clear c24);(try clear c24b0);(try clear c24b1);(try clear c24b2);(try clear c26);(try clear c27);(try clear c27b0);(try clear c27b1);(try clear c27b2);(try clear c28);(try clear c29);(try clear c29b0)
  obtain ⟨kq, x173_11, rfl, HA, HJ11, HO_15, HB⟩ := hcut
  cases kq with
  | zero => exact absurd HA.out (by simp [laws_FnTicketsRanked.j0])
  | succ kj11 =>
   have H := HA.out
   clear HA
   simp only [laws_FnTicketsRanked.j0] at H
   by_cases c38 : x173_11 = true
   · subst c38
     rw [if_pos rfl] at H
     as_aux_lemma =>
      exact dead2_ H hr_
   replace c38 := Bool.eq_false_iff.mpr c38
   subst c38
   rw [if_neg (show ¬ (false = true) by decide)] at H
   have HC39 := Aside0.mk H
   clear H
   go_upto_if 174 with (fail)
   go_cut [] from 174 to 242 (fun wc => ∃ (kq : Nat), Aside0 (laws_FnTicketsRanked.j2 kq l1 t382 t383 t384 t385 = some r) ∧ Aside0 (kq ≤ kj11) ∧ Aside0 (Below w.heap.size w wc))
   case first =>
    as_aux_lemma =>
    have H := HC39.out
    clear HC39
    by_cases c40 : t389 = true
    · subst c40
      rw [if_pos rfl] at H
      by_cases c41 : (t392.length : Int) = (wrap64 ((wrap64 (Int.tdiv (wrap64 (9 * t382)) 2)) + 1))
      rotate_left
      · exact dead_ (if_neg c41) H hr_
      rw [if_pos c41] at H
      have c41b0 : ((t392.length : Int) == (wrap64 ((wrap64 (Int.tdiv (wrap64 (9 * t382)) 2)) + 1))) = true := beq_iff_eq.mpr c41
      have c41b1 : ((t392.length : Int) != (wrap64 ((wrap64 (Int.tdiv (wrap64 (9 * t382)) 2)) + 1))) = false := bne_eq_false_iff_eq.mpr c41
      clear c41
      (first | rw [c41b0] | (simp only [i64_w, i32_w]; rw [c41b0]) | skip)
      replace H := Option.bind_eq_some_iff.mp H
      obtain ⟨t404, A420, H⟩ := H
      have A42 := Aside0.mk A420
      clear A420
      by_cases c43 : t404 = t388
      rotate_left
      · exact dead_ (if_neg c43) H hr_
      rw [if_pos c43] at H
      have c43b0 : (t404 == t388) = true := beq_iff_eq.mpr c43
      have c43b1 : (t404 != t388) = false := bne_eq_false_iff_eq.mpr c43
      clear c43
      by_cases c44 : 0 < (t392.length : Int)
      rotate_left
      · exact none_ (if_neg c44) H
      rw [if_pos c44] at H
      have c44b0 : decide (0 < (t392.length : Int)) = true := decide_eq_true c44
      have c44b1 : decide (0 < t392.length) = true := decide_eq_true (by omega)
      clear c44
      as_aux_lemma =>
      by_cases c45 : (rd t392 0) = 1
      rotate_left
      · exact dead_ (if_neg c45) H hr_
      rw [if_pos c45] at H
      have c45b0 : ((rd t392 0) == 1) = true := beq_iff_eq.mpr c45
      have c45b1 : ((rd t392 0) != 1) = false := bne_eq_false_iff_eq.mpr c45
      clear c45
      have H' := Aside0.mk H
      clear H
      obtain ⟨Ao46, co46, eo46⟩ := Kd.R_slice HO_15.out
      subst eo46
      go_wp2_with (first | (go_at_call 13; (with_reducible refine (laws_eSum.calls kj11 _ _ t392 t404 _ ?side1 ?side2 A42.out).mono ?_); (case side1 => repeat (first | exact (Kd.R_reads' HO_15.out).2.2 | (with_reducible refine Kd.C_alloc ?_ _) | (with_reducible refine Kd.C_drewN ?_ _) | (with_reducible refine Kd.C_drew ?_))); (case side2 => exact (Kd.R_reads' HO_15.out).2.1); rintro e w' ⟨rfl, ⟨nd, rfl⟩⟩; have p405 : 0 ≤ (0 : Int) := (by omega); have q405 : 0 < (t392.length : Int) := of_decide_eq_true (by first | (with_reducible assumption) | assumption); obtain ⟨ad405, e405, hx405_0⟩ := Kd.at_int (Kd.R_reads' HO_15.out).2.2 0 p405 q405; cases e405; have qi405 : (0 < t392.length) = True := eq_true (by omega); (try rw [show ((0 : Int)).toNat = 0 from rfl] at hx405_0); (try rw [Addr.add_zero'] at hx405_0); replace p405 := eq_true p405; replace q405 := eq_true q405))
      go_loopg [196] kj11 (fun kq v196 w' => ∃ (x196_2 : Int), v196 = .int .i64 x196_2 ∧ Aside0 (laws_FnTicketsRanked.l0 kq l1 t382 t383 t384 t385 t392 t392 (t392.length : Int) x196_2 = some r) ∧ Aside0 (kq ≤ kj11) ∧ Aside0 (Kd.R (Kd.int .i64) 3 w' w.heap.size (fun _ => True) (.slice (some ad405) t392.length co46) t392) ∧ Aside0 (Kd.R (Kd.int .i64) 3 w' w.heap.size (fun _ => True) (.slice (some ad405) t392.length co46) t392) ∧ Aside0 (Below w.heap.size w w'))
      case atStart => exact ⟨(0), z10_2_, H', ⟨Nat.le_refl _⟩, ⟨by (with_reducible repeat (first | apply Kd.R_alloc | apply Kd.R_drewN | apply Kd.R_drew)); exact HO_15.out⟩, ⟨by (with_reducible repeat (first | apply Kd.R_alloc | apply Kd.R_drewN | apply Kd.R_drew)); exact HO_15.out⟩, ⟨by repeat (first | (with_reducible first | exact HB.out | apply below_alloc | apply pw_below_drewN | apply below_drew1) | exact HB.out)⟩⟩
      case round =>
       clear H'
       (try clear c1);(try clear c2);(try clear p2);(try clear c3);(try clear c4);(try clear p4);(try clear q4);(try clear hx4);(try clear qi4);(try clear c5);(try clear c6);(try clear p6);(try clear c7);(try clear c8);(try clear c9);(try clear c10);(try clear c11);(try clear c20);(try clear c20b0);(try clear c20b1);(try clear c20b2);(try clear c21);(try clear c21b0);(try clear c21b1);(try clear c22);(try clear c22b0);(try clear c22b1);(try clear c22b2);(try clear c23);(try clear c23b0);(try clear c23b1);(try clear c24);(try clear c24b0);(try clear c24b1);(try clear c24b2);(try clear c26);(try clear c27);(try clear c27b0);(try clear c27b1);(try clear c27b2);(try clear c28);(try clear c29);(try clear c29b0);(try clear c38);(try clear c40);(try clear p40);(try clear q40);(try clear hx40);(try clear qi40);(try clear c41);(try clear c41b0);(try clear c41b1);(try clear c43);(try clear c43b0);(try clear c43b1);(try clear c44);(try clear c44b0);(try clear c44b1);(try clear c45);(try clear c45b0);(try clear c45b1);(try clear hx405_0);(try clear p2);(try clear p405);(try clear q405)
       obtain ⟨x196_2, rfl, HA, HK2, HO_15, HO_194, HB⟩ := hrel
       cases gk with
       | zero => exact absurd HA.out (by simp [laws_FnTicketsRanked.l0])
       | succ k2 =>
        have H := HA.out
        clear HA
        simp only [laws_FnTicketsRanked.l0] at H
        by_cases c47 : x196_2 < (t392.length : Int)
        · rw [if_pos c47] at H
          have c47b0 : decide (x196_2 < (t392.length : Int)) = true := decide_eq_true c47
          clear c47
          by_cases c48 : 0 ≤ x196_2
          rotate_left
          · exact none_ (if_neg c48) H
          rw [if_pos c48] at H
          have c48b0 : decide (0 ≤ x196_2) = true := decide_eq_true c48
          clear c48
          by_cases c49 : x196_2 < (t392.length : Int)
          rotate_left
          · exact none_ (if_neg c49) H
          rw [if_pos c49] at H
          have c49b0 : decide (x196_2 < (t392.length : Int)) = true := decide_eq_true c49
          clear c49
          replace H := Option.bind_eq_some_iff.mp H
          obtain ⟨⟨t407, t408⟩, A500, H⟩ := H
          dsimp only at H
          have A50 := Aside0.mk A500
          clear A500
          replace H := Option.bind_eq_some_iff.mp H
          obtain ⟨⟨t409, t410⟩, A510, H⟩ := H
          dsimp only at H
          have A51 := Aside0.mk A510
          clear A510
          obtain ⟨ji52, hji52⟩ : ∃ j_ : Int, (wrap64 ((wrap64 ((t392.length : Int) - 1)) - x196_2)) = j_ := ⟨_, rfl⟩
          replace H : (if 0 ≤ (ji52) then (if (ji52) < (t392.length : Int) then (if (rd t392 x196_2) = (rd t392 (ji52)) then (if t408 = true then (if t407 = (rd t392 x196_2) then (if t410 = true then (if t409 = (rd t392 x196_2) then (laws_FnTicketsRanked.l0 k2 l1 t382 t383 t384 t385 t392 t392 (t392.length : Int) (wrap64 (x196_2 + 1))) else (some false)) else (some false)) else (some false)) else (some false)) else (some false)) else (none)) else (none)) = some r := by first | (rw [hji52] at H; exact H) | (simp only [hji52] at H ⊢; exact H)
          (try rw [hji52] at A50)
          (try rw [hji52] at A51)
          have hji52w : (IntKind.i64.wrap ((wrap64 ((t392.length : Int) - 1)) - x196_2)) = ji52 := (i64_w _).trans hji52
          as_aux_lemma =>
          by_cases c53 : 0 ≤ (ji52)
          rotate_left
          · exact none_ (if_neg c53) H
          rw [if_pos c53] at H
          have c53b0 : decide (0 ≤ (ji52)) = true := decide_eq_true c53
          clear c53
          by_cases c54 : (ji52) < (t392.length : Int)
          rotate_left
          · exact none_ (if_neg c54) H
          rw [if_pos c54] at H
          have c54b0 : decide ((ji52) < (t392.length : Int)) = true := decide_eq_true c54
          clear c54
          by_cases c55 : (rd t392 x196_2) = (rd t392 (ji52))
          rotate_left
          · exact dead_ (if_neg c55) H hr_
          rw [if_pos c55] at H
          have c55b0 : ((rd t392 x196_2) == (rd t392 (ji52))) = true := beq_iff_eq.mpr c55
          have c55b1 : ((rd t392 x196_2) != (rd t392 (ji52))) = false := bne_eq_false_iff_eq.mpr c55
          clear c55
          by_cases c56 : t408 = true
          · subst c56
            rw [if_pos rfl] at H
            by_cases c57 : t407 = (rd t392 x196_2)
            rotate_left
            · exact dead_ (if_neg c57) H hr_
            rw [if_pos c57] at H
            have c57b0 : (t407 == (rd t392 x196_2)) = true := beq_iff_eq.mpr c57
            have c57b1 : (t407 != (rd t392 x196_2)) = false := bne_eq_false_iff_eq.mpr c57
            clear c57
            by_cases c58 : t410 = true
            · subst c58
              rw [if_pos rfl] at H
              by_cases c59 : t409 = (rd t392 x196_2)
              rotate_left
              · exact dead_ (if_neg c59) H hr_
              rw [if_pos c59] at H
              have c59b0 : (t409 == (rd t392 x196_2)) = true := beq_iff_eq.mpr c59
              have c59b1 : (t409 != (rd t392 x196_2)) = false := bne_eq_false_iff_eq.mpr c59
              clear c59
              as_aux_lemma =>
               have H' := Aside0.mk H
               clear H
               have p406 : 0 ≤ (x196_2 : Int) := of_decide_eq_true (by first | (with_reducible assumption) | assumption)
               have q406 : x196_2 < (t392.length : Int) := of_decide_eq_true (by first | (with_reducible assumption) | assumption)
               obtain ⟨ad406, e406, hx406_0⟩ := Kd.at_int (Kd.R_reads' HO_194.out).2.2 x196_2 p406 q406
               obtain rfl : ad405 = ad406 := (by injection e406)
               replace p406 := eq_true p406
               replace q406 := eq_true q406
               go_wp2_with (first | ((with_reducible refine gate_callee (f := 14) rfl ?_); refine goesL_ (some 204) rfl rfl Tryd.func14 (by kernel_rfl) rfl #[.int .i64 t382, .int .i64 x196_2] rfl z10_0_ ?_; (with_reducible refine (impl_CountLuckyOf.calls k2 t382 x196_2 t407 true _ A50.out).mono ?_); rintro e w60 ⟨rfl, hb⟩; refine ⟨_, rfl, ?_⟩; have n0_ := Aside0.mk (Kd.R_below (by (with_reducible repeat (first | apply Kd.R_alloc | apply Kd.R_drewN | apply Kd.R_drew)); exact HO_15.out) hb); have n1_ := Aside0.mk (Kd.R_below (by (with_reducible repeat (first | apply Kd.R_alloc | apply Kd.R_drewN | apply Kd.R_drew)); exact HO_194.out) hb); have n2_ := Aside0.mk (below_step z10_1_ hb); clear HO_15; clear HO_194; clear HB; have HO_15 := n0_; have HO_194 := n1_; have HB := n2_; clear n0_ n1_ n2_; (try clear hb); (try clear hb2); (try clear hk); (try clear hi)) | ((with_reducible refine gate_callee (f := 15) rfl ?_); refine goesL_ (some 211) rfl rfl Tryd.func15 (by kernel_rfl) rfl #[.int .i64 t382, .int .i64 x196_2, .int .i64 x196_2] rfl z10_0_ ?_; (with_reducible refine (impl_CountTickets.calls k2 t382 x196_2 x196_2 t409 true _ A51.out).mono ?_); rintro e w61 ⟨rfl, hb⟩; refine ⟨_, rfl, ?_⟩; have n0_ := Aside0.mk (Kd.R_below (by (with_reducible repeat (first | apply Kd.R_alloc | apply Kd.R_drewN | apply Kd.R_drew)); exact HO_15.out) hb); have n1_ := Aside0.mk (Kd.R_below (by (with_reducible repeat (first | apply Kd.R_alloc | apply Kd.R_drewN | apply Kd.R_drew)); exact HO_194.out) hb); have n2_ := Aside0.mk (below_step z10_1_ hb); clear HO_15; clear HO_194; clear HB; have HO_15 := n0_; have HO_194 := n1_; have HB := n2_; clear n0_ n1_ n2_; (try clear hb); (try clear hb2); (try clear hk); (try clear hi); have p412 : 0 ≤ ((ji52) : Int) := of_decide_eq_true (by first | (with_reducible assumption) | assumption); have q412 : (ji52) < (t392.length : Int) := of_decide_eq_true (by first | (with_reducible assumption) | assumption); obtain ⟨ad412, e412, hx412_0⟩ := Kd.at_int (Kd.R_reads' HO_15.out).2.2 (ji52) p412 q412; obtain rfl : ad405 = ad412 := (by injection e412); replace p412 := eq_true p412; replace q412 := eq_true q412))
               go_roundg k2
               case measure => have := HJ11.out; have := HK2.out; omega
               case rel => exact ⟨(wrap64 (x196_2 + 1)), z10_2_, H', ⟨by have := HJ11.out; have := HK2.out; omega⟩, ⟨by (with_reducible repeat (first | apply Kd.R_alloc | apply Kd.R_drewN | apply Kd.R_drew)); exact HO_15.out⟩, ⟨by (with_reducible repeat (first | apply Kd.R_alloc | apply Kd.R_drewN | apply Kd.R_drew)); exact HO_194.out⟩, ⟨by repeat (first | (with_reducible first | exact HB.out | apply below_alloc | apply pw_below_drewN | apply below_drew1) | exact HB.out)⟩⟩
            replace c58 := Bool.eq_false_iff.mpr c58
            subst c58
            rw [if_neg (show ¬ (false = true) by decide)] at H
            as_aux_lemma =>
             exact dead2_ H hr_
          replace c56 := Bool.eq_false_iff.mpr c56
          subst c56
          rw [if_neg (show ¬ (false = true) by decide)] at H
          as_aux_lemma =>
           exact dead2_ H hr_
        rw [if_neg c47] at H
        have c47b0 : decide (x196_2 < (t392.length : Int)) = false := decide_eq_false c47
        clear c47
        as_aux_lemma =>
         have H' := Aside0.mk H
         clear H
         go_wp2
         try any_goals (exfalso; exact undef_bool_ (by with_reducible assumption))
         go_meet
         case rel => exact ⟨_, H', ⟨by have := HJ11.out; have := HK2.out; first | omega | exact Nat.le_refl _⟩, ⟨by repeat (first | (with_reducible first | exact HB.out | apply below_alloc | apply pw_below_drewN | apply below_drew1) | exact HB.out)⟩⟩
    replace c40 := Bool.eq_false_iff.mpr c40
    subst c40
    rw [if_neg (show ¬ (false = true) by decide)] at H
    as_aux_lemma =>
     have H' := Aside0.mk H
     clear H
     go_wp2
     try any_goals (exfalso; exact undef_bool_ (by with_reducible assumption))
     go_meet
     case rel => exact ⟨_, H', ⟨by have := HJ11.out; first | omega | exact Nat.le_refl _⟩, ⟨by repeat (first | (with_reducible first | exact HB.out | apply below_alloc | apply pw_below_drewN | apply below_drew1) | exact HB.out)⟩⟩
   case rest =>
    as_aux_lemma =>
    clear HC39
    (try clear c1);(try clear c2);(try clear p2);(try clear c3);(try clear c4);(try clear p4);(try clear q4);(try clear hx4);(try clear qi4);(try clear c5);(try clear c6);(try clear p6);(try clear c7);(try clear c8);(try clear c9);(try clear c10);(try clear c11);(try clear c14);(try clear c15);(try clear c20);(try clear c20b0);(try clear c20b1);(try clear c20b2);(try clear c21);(try clear c21b0);(try clear c21b1);(try clear c22);(try clear c22b0);(try clear c22b1);(try clear c22b2);(try clear c23);(try clear c23b0);(try clear c23b1);(try clear c24);(try clear c24b0);(try clear c24b1);(try clear c24b2);(try clear c26);(try clear c27);(try clear c27b0);(try clear c27b1);(try clear c27b2);(try clear c28);(try clear c29);(try clear c29b0);(try clear c38);(try clear c40);(try clear p40);(try clear q40);(try clear hx40);(try clear qi40);(try clear c41);(try clear c41b0);(try clear c41b1);(try clear p41);(try clear q41);(try clear hx41);(try clear c43);(try clear c43b0);(try clear c43b1);(try clear c44);(try clear c44b0);(try clear c44b1);(try clear c45);(try clear c45b0);(try clear c45b1);(try clear c47);(try clear c47b0);(try clear c48);(try clear c48b0);(try clear c49);(try clear c49b0);(try clear c53);(try clear c53b0);(try clear c54);(try clear c54b0);(try clear c55);(try clear c55b0);(try clear c55b1);(try clear c56);(try clear c57);(try clear c57b0);(try clear c57b1);(try clear c58);(try clear c59);(try clear c59b0);(try clear c59b1);(try clear hx405_0);(try clear hx406_0);(try clear hx412_0);(try clear p2);(try clear p4);(try clear p40);(try clear p405);(try clear p406);(try clear p412);(try clear p6);(try clear q4);(try clear q40);(try clear q405);(try clear q406);(try clear q412)
    obtain ⟨kq, HA, HJ38, HB⟩ := hcut
    cases kq with
    | zero => exact absurd HA.out (by simp [laws_FnTicketsRanked.j2])
    | succ kj38 =>
     have H := HA.out
     clear HA
     simp only [laws_FnTicketsRanked.j2] at H
     have HC62 := Aside0.mk H
     clear H
     go_upto_if 243 with (fail)
     go_cut [] from 243 to 274 (fun wc => ∃ (kq : Nat), Aside0 (laws_FnTicketsRanked.j3 kq l1 = some r) ∧ Aside0 (kq ≤ kj38) ∧ Aside0 (Below w.heap.size w wc))
     case first =>
      as_aux_lemma =>
      have H := HC62.out
      clear HC62
      by_cases c63 : t385 = true
      · subst c63
        rw [if_pos rfl] at H
        replace H := Option.bind_eq_some_iff.mp H
        obtain ⟨⟨t413, t414⟩, A640, H⟩ := H
        dsimp only at H
        have A64 := Aside0.mk A640
        clear A640
        replace H := Option.bind_eq_some_iff.mp H
        obtain ⟨⟨t415, t416⟩, A650, H⟩ := H
        dsimp only at H
        have A65 := Aside0.mk A650
        clear A650
        by_cases c66 : (t384.size : Int) = t382
        rotate_left
        · exact dead_ (if_neg c66) H hr_
        rw [if_pos c66] at H
        have c66b0 : ((t384.size : Int) == t382) = true := beq_iff_eq.mpr c66
        have c66b1 : ((t384.size : Int) != t382) = false := bne_eq_false_iff_eq.mpr c66
        clear c66
        (first | rw [c66b0] | (simp only [i64_w, i32_w]; rw [c66b0]) | skip)
        by_cases c67 : t414 = true
        · subst c67
          rw [if_pos rfl] at H
          by_cases c68 : t413 = true
          · subst c68
            rw [if_pos rfl] at H
            by_cases c69 : t416 = true
            · subst c69
              rw [if_pos rfl] at H
              by_cases c70 : t415 = t383
              rotate_left
              · exact dead_ (if_neg c70) H hr_
              rw [if_pos c70] at H
              have c70b0 : (t415 == t383) = true := beq_iff_eq.mpr c70
              have c70b1 : (t415 != t383) = false := bne_eq_false_iff_eq.mpr c70
              clear c70
              as_aux_lemma =>
               have H' := Aside0.mk H
               clear H
               go_wp2_with (first | ((with_reducible refine gate_callee (f := 16) rfl ?_); refine goesL_ (some 246) rfl rfl Tryd.func16 (by kernel_rfl) rfl #[.string t384] rfl z10_0_ ?_; (with_reducible refine (impl_IsLucky.calls kj38 t384 true true _ A64.out).mono ?_); rintro e w' ⟨rfl, ⟨nd, rfl⟩⟩; refine ⟨_, rfl, ?_⟩) | ((with_reducible refine gate_callee (f := 17) rfl ?_); refine goesL_ (some 251) rfl rfl Tryd.func17 (by kernel_rfl) rfl #[.string t384] rfl z10_0_ ?_; (with_reducible refine (impl_RankOfLucky.calls kj38 t384 t415 true _ A65.out).mono ?_); rintro e w71 ⟨rfl, hb⟩; refine ⟨_, rfl, ?_⟩; have n0_ := Aside0.mk (below_step z10_1_ hb); clear HB; have HB := n0_; clear n0_; (try clear hb); (try clear hb2); (try clear hk); (try clear hi)))
               try any_goals (exfalso; exact undef_bool_ (by with_reducible assumption))
               go_meet
               case rel => exact ⟨_, H', ⟨by have := HJ11.out; have := HJ38.out; first | omega | exact Nat.le_refl _⟩, ⟨by repeat (first | (with_reducible first | exact HB.out | apply below_alloc | apply pw_below_drewN | apply below_drew1) | exact HB.out)⟩⟩
            replace c69 := Bool.eq_false_iff.mpr c69
            subst c69
            rw [if_neg (show ¬ (false = true) by decide)] at H
            as_aux_lemma =>
             exact dead2_ H hr_
          replace c68 := Bool.eq_false_iff.mpr c68
          subst c68
          rw [if_neg (show ¬ (false = true) by decide)] at H
          as_aux_lemma =>
           exact dead2_ H hr_
        replace c67 := Bool.eq_false_iff.mpr c67
        subst c67
        rw [if_neg (show ¬ (false = true) by decide)] at H
        as_aux_lemma =>
         exact dead2_ H hr_
      replace c63 := Bool.eq_false_iff.mpr c63
      subst c63
      rw [if_neg (show ¬ (false = true) by decide)] at H
      as_aux_lemma =>
       have H' := Aside0.mk H
       clear H
       go_wp2
       try any_goals (exfalso; exact undef_bool_ (by with_reducible assumption))
       go_meet
       case rel => exact ⟨_, H', ⟨by have := HJ11.out; have := HJ38.out; first | omega | exact Nat.le_refl _⟩, ⟨by repeat (first | (with_reducible first | exact HB.out | apply below_alloc | apply pw_below_drewN | apply below_drew1) | exact HB.out)⟩⟩
     case rest =>
      as_aux_lemma =>
      clear HC62
      (try clear c1);(try clear c2);(try clear p2);(try clear c3);(try clear c4);(try clear p4);(try clear q4);(try clear hx4);(try clear qi4);(try clear c5);(try clear c6);(try clear p6);(try clear c7);(try clear c8);(try clear c9);(try clear c10);(try clear c11);(try clear c14);(try clear c15);(try clear c16);(try clear c17);(try clear c20);(try clear c20b0);(try clear c20b1);(try clear c20b2);(try clear c21);(try clear c21b0);(try clear c21b1);(try clear c22);(try clear c22b0);(try clear c22b1);(try clear c22b2);(try clear c23);(try clear c23b0);(try clear c23b1);(try clear c24);(try clear c24b0);(try clear c24b1);(try clear c24b2);(try clear c26);(try clear c27);(try clear c27b0);(try clear c27b1);(try clear c27b2);(try clear c28);(try clear c29);(try clear c29b0);(try clear c38);(try clear c40);(try clear p40);(try clear q40);(try clear hx40);(try clear qi40);(try clear c41);(try clear c41b0);(try clear c41b1);(try clear p41);(try clear q41);(try clear hx41);(try clear c43);(try clear c43b0);(try clear c43b1);(try clear c44);(try clear c44b0);(try clear c44b1);(try clear c45);(try clear c45b0);(try clear c45b1);(try clear c47);(try clear c47b0);(try clear c48);(try clear c48b0);(try clear c49);(try clear c49b0);(try clear c53);(try clear c53b0);(try clear c54);(try clear c54b0);(try clear c55);(try clear c55b0);(try clear c55b1);(try clear c56);(try clear c57);(try clear c57b0);(try clear c57b1);(try clear c58);(try clear c59);(try clear c59b0);(try clear c59b1);(try clear c63);(try clear p64);(try clear c66);(try clear c66b0);(try clear c66b1);(try clear c67);(try clear c68);(try clear c69);(try clear c70);(try clear c70b0);(try clear c70b1);(try clear hx405_0);(try clear hx406_0);(try clear hx412_0);(try clear p2);(try clear p4);(try clear p40);(try clear p405);(try clear p406);(try clear p41);(try clear p412);(try clear p6);(try clear q4);(try clear q40);(try clear q405);(try clear q406);(try clear q41);(try clear q412)
      obtain ⟨kq, HA, HJ61, HB⟩ := hcut
      cases kq with
      | zero => exact absurd HA.out (by simp [laws_FnTicketsRanked.j3])
      | succ kj61 =>
       have H := HA.out
       clear HA
       simp only [laws_FnTicketsRanked.j3] at H
       replace H := Option.bind_eq_some_iff.mp H
       obtain ⟨t417, A720, H⟩ := H
       have A72 := Aside0.mk A720
       clear A720
       replace H := Option.bind_eq_some_iff.mp H
       obtain ⟨⟨t418, t419⟩, A730, H⟩ := H
       dsimp only at H
       have A73 := Aside0.mk A730
       clear A730
       replace H := Option.bind_eq_some_iff.mp H
       obtain ⟨⟨t420, t421⟩, A740, H⟩ := H
       dsimp only at H
       have A74 := Aside0.mk A740
       clear A740
       replace H := Option.bind_eq_some_iff.mp H
       obtain ⟨⟨t422, t423⟩, A750, H⟩ := H
       dsimp only at H
       have A75 := Aside0.mk A750
       clear A750
       replace H := Option.bind_eq_some_iff.mp H
       obtain ⟨⟨t424, t425⟩, A760, H⟩ := H
       dsimp only at H
       have A76 := Aside0.mk A760
       clear A760
       as_aux_lemma =>
       replace H := Option.bind_eq_some_iff.mp H
       obtain ⟨⟨t426, t427⟩, A770, H⟩ := H
       dsimp only at H
       have A77 := Aside0.mk A770
       clear A770
       replace H := Option.bind_eq_some_iff.mp H
       obtain ⟨⟨t428, t429⟩, A780, H⟩ := H
       dsimp only at H
       have A78 := Aside0.mk A780
       clear A780
       replace H := Option.bind_eq_some_iff.mp H
       obtain ⟨⟨t430, t431, t432⟩, A790, H⟩ := H
       dsimp only at H
       have A79 := Aside0.mk A790
       clear A790
       replace H := Option.bind_eq_some_iff.mp H
       obtain ⟨⟨t433, t434, t435⟩, A800, H⟩ := H
       dsimp only at H
       have A80 := Aside0.mk A800
       clear A800
       replace H := Option.bind_eq_some_iff.mp H
       obtain ⟨⟨t436, t437⟩, A810, H⟩ := H
       dsimp only at H
       have A81 := Aside0.mk A810
       clear A810
       as_aux_lemma =>
       replace H := Option.bind_eq_some_iff.mp H
       obtain ⟨⟨t438, t439⟩, A820, H⟩ := H
       dsimp only at H
       have A82 := Aside0.mk A820
       clear A820
       replace H := Option.bind_eq_some_iff.mp H
       obtain ⟨⟨t440, t441⟩, A830, H⟩ := H
       dsimp only at H
       have A83 := Aside0.mk A830
       clear A830
       replace H := Option.bind_eq_some_iff.mp H
       obtain ⟨⟨t442, t443⟩, A840, H⟩ := H
       dsimp only at H
       have A84 := Aside0.mk A840
       clear A840
       have HC85 := Aside0.mk H
       clear H
       go_upto_region 41 with (first | ((with_reducible refine gate_callee (f := 18) rfl ?_); refine goesL_ (some 276) rfl rfl Tryd.func18 (by kernel_rfl) rfl #[.slice A1 l1.length c1] rfl z10_0_ ?_; (with_reducible refine (spec_DrawNextLucky.calls kj61 _ _ l1 t417 _ ?side1 ?side2 A72.out).mono ?_); (case side1 => repeat (first | exact (Kd.C_below HR1.out HB.out) | (with_reducible refine Kd.C_alloc ?_ _) | (with_reducible refine Kd.C_drewN ?_ _) | (with_reducible refine Kd.C_drew ?_))); (case side2 => exact HC1.out); rintro e w86 ⟨rfl, hb⟩; refine ⟨_, rfl, ?_⟩; have n0_ := Aside0.mk (below_step z10_1_ hb); clear HB; have HB := n0_; clear n0_; (try clear hb); (try clear hb2); (try clear hk); (try clear hi)) | ((with_reducible refine gate_callee (f := 19) rfl ?_); refine goesL_ (some 279) rfl rfl Tryd.func19 (by kernel_rfl) rfl #[.string t417] rfl z10_0_ ?_; (with_reducible refine (impl_NextLucky.calls kj61 t417 t418 t419 _ A73.out).mono ?_); rintro e w87 ⟨rfl, hb⟩; refine ⟨_, rfl, ?_⟩; have n0_ := Aside0.mk (below_step z10_1_ hb); clear HB; have HB := n0_; clear n0_; (try clear hb); (try clear hb2); (try clear hk); (try clear hi)) | ((with_reducible refine gate_callee (f := 20) rfl ?_); refine goesL_ (some 284) rfl rfl Tryd.func20 (by kernel_rfl) rfl #[.string t417] rfl z10_0_ ?_; (with_reducible refine (spec_NextLucky.calls kj61 t417 t420 t421 _ A74.out).mono ?_); rintro e w88 ⟨rfl, hb⟩; refine ⟨_, rfl, ?_⟩; have n0_ := Aside0.mk (below_step z10_1_ hb); clear HB; have HB := n0_; clear n0_; (try clear hb); (try clear hb2); (try clear hk); (try clear hi)) | ((with_reducible refine gate_callee (f := 21) rfl ?_); refine goesL_ (some 289) rfl rfl Tryd.func21 (by kernel_rfl) rfl #[.string t417] rfl z10_0_ ?_; (with_reducible refine (impl_LastLucky.calls kj61 t417 t422 t423 _ A75.out).mono ?_); rintro e w89 ⟨rfl, hb⟩; refine ⟨_, rfl, ?_⟩; have n0_ := Aside0.mk (below_step z10_1_ hb); clear HB; have HB := n0_; clear n0_; (try clear hb); (try clear hb2); (try clear hk); (try clear hi)) | ((with_reducible refine gate_callee (f := 22) rfl ?_); refine goesL_ (some 294) rfl rfl Tryd.func22 (by kernel_rfl) rfl #[.string t417] rfl z10_0_ ?_; (with_reducible refine (spec_LastLucky.calls kj61 t417 t424 t425 _ A76.out).mono ?_); rintro e w90 ⟨rfl, hb⟩; refine ⟨_, rfl, ?_⟩; have n0_ := Aside0.mk (below_step z10_1_ hb); clear HB; have HB := n0_; clear n0_; (try clear hb); (try clear hb2); (try clear hk); (try clear hi)) | ((with_reducible refine gate_callee (f := 17) rfl ?_); refine goesL_ (some 299) rfl rfl Tryd.func17 (by kernel_rfl) rfl #[.string t417] rfl z10_0_ ?_; (with_reducible refine (impl_RankOfLucky.calls kj61 t417 t426 t427 _ A77.out).mono ?_); rintro e w91 ⟨rfl, hb⟩; refine ⟨_, rfl, ?_⟩; have n0_ := Aside0.mk (below_step z10_1_ hb); clear HB; have HB := n0_; clear n0_; (try clear hb); (try clear hb2); (try clear hk); (try clear hi)) | ((with_reducible refine gate_callee (f := 23) rfl ?_); refine goesL_ (some 304) rfl rfl Tryd.func23 (by kernel_rfl) rfl #[.string t417] rfl z10_0_ ?_; (with_reducible refine (spec_RankOfLucky.calls kj61 t417 t428 t429 _ A78.out).mono ?_); rintro e w92 ⟨rfl, hb⟩; refine ⟨_, rfl, ?_⟩; have n0_ := Aside0.mk (below_step z10_1_ hb); clear HB; have HB := n0_; clear n0_; (try clear hb); (try clear hb2); (try clear hk); (try clear hi)) | ((with_reducible refine gate_callee (f := 24) rfl ?_); refine goesL_ (some 309) rfl rfl Tryd.func24 (by kernel_rfl) rfl #[.string t417] rfl z10_0_ ?_; (with_reducible refine (impl_GapsAround.calls kj61 t417 t430 t431 t432 _ A79.out).mono ?_); rintro e w93 ⟨rfl, hb⟩; refine ⟨_, rfl, ?_⟩; have n0_ := Aside0.mk (below_step z10_1_ hb); clear HB; have HB := n0_; clear n0_; (try clear hb); (try clear hb2); (try clear hk); (try clear hi)) | ((with_reducible refine gate_callee (f := 25) rfl ?_); refine goesL_ (some 315) rfl rfl Tryd.func25 (by kernel_rfl) rfl #[.string t417] rfl z10_0_ ?_; (with_reducible refine (spec_GapsAround.calls kj61 t417 t433 t434 t435 _ A80.out).mono ?_); rintro e w94 ⟨rfl, hb⟩; refine ⟨_, rfl, ?_⟩; have n0_ := Aside0.mk (below_step z10_1_ hb); clear HB; have HB := n0_; clear n0_; (try clear hb); (try clear hb2); (try clear hk); (try clear hi)) | ((with_reducible refine gate_callee (f := 16) rfl ?_); refine goesL_ (some 321) rfl rfl Tryd.func16 (by kernel_rfl) rfl #[.string t417] rfl z10_0_ ?_; (with_reducible refine (impl_IsLucky.calls kj61 t417 t436 t437 _ A81.out).mono ?_); rintro e w' ⟨rfl, ⟨nd, rfl⟩⟩; refine ⟨_, rfl, ?_⟩) | ((with_reducible refine gate_callee (f := 26) rfl ?_); refine goesL_ (some 326) rfl rfl Tryd.func26 (by kernel_rfl) rfl #[.string t417] rfl z10_0_ ?_; (with_reducible refine (spec_IsLucky.calls kj61 t417 t438 t439 _ A82.out).mono ?_); rintro e w' ⟨rfl, ⟨nd, rfl⟩⟩; refine ⟨_, rfl, ?_⟩) | ((with_reducible refine gate_callee (f := 27) rfl ?_); refine goesL_ (some 331) rfl rfl Tryd.func27 (by kernel_rfl) rfl #[.string t417] rfl z10_0_ ?_; (with_reducible refine (impl_NumberOfTicket.calls kj61 t417 t440 t441 _ A83.out).mono ?_); rintro e w' ⟨rfl, ⟨nd, rfl⟩⟩; refine ⟨_, rfl, ?_⟩) | ((with_reducible refine gate_callee (f := 28) rfl ?_); refine goesL_ (some 336) rfl rfl Tryd.func28 (by kernel_rfl) rfl #[.string t417] rfl z10_0_ ?_; (with_reducible refine (spec_NumberOfTicket.calls kj61 t417 t442 t443 _ A84.out).mono ?_); rintro e w' ⟨rfl, ⟨nd, rfl⟩⟩; refine ⟨_, rfl, ?_⟩))
       (try simp only [Act.put, List.setIfInBounds_toArray, List.set_cons_zero, List.set_cons_succ])
       go_cut [443] from 275 to 443 (fun v443 wc => ∃ (kq : Nat) (x443_84 : Bool), v443 = .bool x443_84 ∧ Aside0 (laws_FnTicketsRanked.j4 kq l1 t417 t418 t419 t422 t423 t426 t427 t430 t431 t436 t440 x443_84 = some r) ∧ Aside0 (kq ≤ kj61) ∧ Aside0 (Below w.heap.size w wc))
       case first =>
        as_aux_lemma =>
        have H := HC85.out
        clear HC85
        by_cases c95 : (t419 != t421) = true
        · exact laws_FnTicketsRanked.j4_dead ((if_pos c95).symm.trans H) hr_
        rw [if_neg c95] at H
        have c95b0 : (t419 != t421) = false := by simpa using c95
        (try (have c95b1 : decide (t419 = t421) = true := by simpa using c95))
        (try (have c95b2 : (t419 == t421) = true := by simpa using c95))
        clear c95
        (first | rw [c95b0] | (simp only [i64_w, i32_w]; rw [c95b0]) | skip)
        by_cases c96 : t418.toList = t420.toList
        rotate_left
        · exact laws_FnTicketsRanked.j4_dead ((if_neg c96).symm.trans H) hr_
        rw [if_pos c96] at H
        have c96b0 : (t418.toList == t420.toList) = true := beq_iff_eq.mpr c96
        have c96b1 : (t418.toList != t420.toList) = false := bne_eq_false_iff_eq.mpr c96
        clear c96
        by_cases c97 : (t423 != t425) = true
        · exact laws_FnTicketsRanked.j4_dead ((if_pos c97).symm.trans H) hr_
        rw [if_neg c97] at H
        have c97b0 : (t423 != t425) = false := by simpa using c97
        (try (have c97b1 : decide (t423 = t425) = true := by simpa using c97))
        (try (have c97b2 : (t423 == t425) = true := by simpa using c97))
        clear c97
        by_cases c98 : t422.toList = t424.toList
        rotate_left
        · exact laws_FnTicketsRanked.j4_dead ((if_neg c98).symm.trans H) hr_
        rw [if_pos c98] at H
        have c98b0 : (t422.toList == t424.toList) = true := beq_iff_eq.mpr c98
        have c98b1 : (t422.toList != t424.toList) = false := bne_eq_false_iff_eq.mpr c98
        clear c98
        as_aux_lemma =>
        by_cases c99 : (t427 != t429) = true
        · exact laws_FnTicketsRanked.j4_dead ((if_pos c99).symm.trans H) hr_
        rw [if_neg c99] at H
        have c99b0 : (t427 != t429) = false := by simpa using c99
        (try (have c99b1 : decide (t427 = t429) = true := by simpa using c99))
        (try (have c99b2 : (t427 == t429) = true := by simpa using c99))
        clear c99
        by_cases c100 : t426 = t428
        rotate_left
        · exact laws_FnTicketsRanked.j4_dead ((if_neg c100).symm.trans H) hr_
        rw [if_pos c100] at H
        have c100b0 : (t426 == t428) = true := beq_iff_eq.mpr c100
        have c100b1 : (t426 != t428) = false := bne_eq_false_iff_eq.mpr c100
        clear c100
        by_cases c101 : (t432 != t435) = true
        · exact laws_FnTicketsRanked.j4_dead ((if_pos c101).symm.trans H) hr_
        rw [if_neg c101] at H
        have c101b0 : (t432 != t435) = false := by simpa using c101
        (try (have c101b1 : decide (t432 = t435) = true := by simpa using c101))
        (try (have c101b2 : (t432 == t435) = true := by simpa using c101))
        clear c101
        by_cases c102 : t430 = t433
        rotate_left
        · exact laws_FnTicketsRanked.j4_dead ((if_neg c102).symm.trans H) hr_
        rw [if_pos c102] at H
        have c102b0 : (t430 == t433) = true := beq_iff_eq.mpr c102
        have c102b1 : (t430 != t433) = false := bne_eq_false_iff_eq.mpr c102
        clear c102
        as_aux_lemma =>
        by_cases c103 : t431 = t434
        rotate_left
        · exact laws_FnTicketsRanked.j4_dead ((if_neg c103).symm.trans H) hr_
        rw [if_pos c103] at H
        have c103b0 : (t431 == t434) = true := beq_iff_eq.mpr c103
        have c103b1 : (t431 != t434) = false := bne_eq_false_iff_eq.mpr c103
        clear c103
        by_cases c104 : (t437 != t439) = true
        · exact laws_FnTicketsRanked.j4_dead ((if_pos c104).symm.trans H) hr_
        rw [if_neg c104] at H
        have c104b0 : (t437 != t439) = false := by simpa using c104
        (try (have c104b1 : decide (t437 = t439) = true := by simpa using c104))
        (try (have c104b2 : (t437 == t439) = true := by simpa using c104))
        clear c104
        by_cases c105 : (t436 != t438) = true
        · exact laws_FnTicketsRanked.j4_dead ((if_pos c105).symm.trans H) hr_
        rw [if_neg c105] at H
        have c105b0 : (t436 != t438) = false := by simpa using c105
        (try (have c105b1 : decide (t436 = t438) = true := by simpa using c105))
        (try (have c105b2 : (t436 == t438) = true := by simpa using c105))
        clear c105
        by_cases c106 : (t441 != t443) = true
        · exact laws_FnTicketsRanked.j4_dead ((if_pos c106).symm.trans H) hr_
        rw [if_neg c106] at H
        have c106b0 : (t441 != t443) = false := by simpa using c106
        (try (have c106b1 : decide (t441 = t443) = true := by simpa using c106))
        (try (have c106b2 : (t441 == t443) = true := by simpa using c106))
        clear c106
        as_aux_lemma =>
        by_cases c107 : t440 = t442
        rotate_left
        · exact laws_FnTicketsRanked.j4_dead ((if_neg c107).symm.trans H) hr_
        rw [if_pos c107] at H
        have c107b0 : (t440 == t442) = true := beq_iff_eq.mpr c107
        have c107b1 : (t440 != t442) = false := bne_eq_false_iff_eq.mpr c107
        clear c107
        replace H := Option.bind_eq_some_iff.mp H
        obtain ⟨t447, A1080, H⟩ := H
        have A108 := Aside0.mk A1080
        clear A1080
        by_cases c109 : (t427 != t447) = true
        · exact laws_FnTicketsRanked.j4_dead ((if_pos c109).symm.trans H) hr_
        rw [if_neg c109] at H
        have c109b0 : (t427 != t447) = false := by simpa using c109
        (try (have c109b1 : decide (t427 = t447) = true := by simpa using c109))
        (try (have c109b2 : (t427 == t447) = true := by simpa using c109))
        clear c109
        replace H := Option.bind_eq_some_iff.mp H
        obtain ⟨t448, A1100, H⟩ := H
        have A110 := Aside0.mk A1100
        clear A1100
        have hq_ := Option.some.inj (A108.out.symm.trans A110.out)
        subst hq_
        replace H := Option.bind_eq_some_iff.mp H
        obtain ⟨t449, A1110, H⟩ := H
        have A111 := Aside0.mk A1110
        clear A1110
        as_aux_lemma =>
        by_cases c112 : (t447 != t449) = true
        · exact laws_FnTicketsRanked.j4_dead ((if_pos c112).symm.trans H) hr_
        rw [if_neg c112] at H
        have c112b0 : (t447 != t449) = false := by simpa using c112
        (try (have c112b1 : decide (t447 = t449) = true := by simpa using c112))
        (try (have c112b2 : (t447 == t449) = true := by simpa using c112))
        clear c112
        by_cases c113 : (t432 != t427) = true
        · exact laws_FnTicketsRanked.j4_dead ((if_pos c113).symm.trans H) hr_
        rw [if_neg c113] at H
        have c113b0 : (t432 != t427) = false := by simpa using c113
        (try (have c113b1 : decide (t432 = t427) = true := by simpa using c113))
        (try (have c113b2 : (t432 == t427) = true := by simpa using c113))
        clear c113
        by_cases c114 : (t437 != t427) = true
        · exact laws_FnTicketsRanked.j4_dead ((if_pos c114).symm.trans H) hr_
        rw [if_neg c114] at H
        have c114b0 : (t437 != t427) = false := by simpa using c114
        (try (have c114b1 : decide (t437 = t427) = true := by simpa using c114))
        (try (have c114b2 : (t437 == t427) = true := by simpa using c114))
        clear c114
        by_cases c115 : (t441 != t427) = true
        · exact laws_FnTicketsRanked.j4_dead ((if_pos c115).symm.trans H) hr_
        rw [if_neg c115] at H
        have c115b0 : (t441 != t427) = false := by simpa using c115
        (try (have c115b1 : decide (t441 = t427) = true := by simpa using c115))
        (try (have c115b2 : (t441 == t427) = true := by simpa using c115))
        clear c115
        as_aux_lemma =>
        by_cases c116 : t419 = true
        · subst c116
          rw [if_pos rfl] at H
          by_cases c117 : t427 = true
          · subst c117
            rw [if_pos rfl] at H
            by_cases c118 : t423 = true
            · subst c118
              rw [if_pos rfl] at H
              as_aux_lemma =>
               have H' := Aside0.mk H
               clear H
               go_wp2_with (first | (go_at_call 29; (with_reducible refine (impl_IsTicket.calls kj61 t417 t447 _ A108.out).mono ?_); rintro e w' ⟨rfl, ⟨nd, rfl⟩⟩) | (go_at_call 29; (with_reducible refine (impl_IsTicket.calls kj61 t417 t447 _ A110.out).mono ?_); rintro e w' ⟨rfl, ⟨nd, rfl⟩⟩) | (go_at_call 30; (with_reducible refine (spec_IsTicket.calls kj61 t417 t449 _ A111.out).mono ?_); rintro e w' ⟨rfl, ⟨nd, rfl⟩⟩))
               try any_goals (exfalso; exact undef_bool_ (by with_reducible assumption))
               go_meet
               case rel => exact ⟨_, (!true), z10_2_, H', ⟨by have := HJ11.out; have := HJ38.out; have := HJ61.out; first | omega | exact Nat.le_refl _⟩, ⟨by repeat (first | (with_reducible first | exact HB.out | apply below_alloc | apply pw_below_drewN | apply below_drew1) | exact HB.out)⟩⟩
            replace c118 := Bool.eq_false_iff.mpr c118
            subst c118
            rw [if_neg (show ¬ (false = true) by decide)] at H
            as_aux_lemma =>
             have H' := Aside0.mk H
             clear H
             go_wp2_with (first | (go_at_call 29; (with_reducible refine (impl_IsTicket.calls kj61 t417 t447 _ A108.out).mono ?_); rintro e w' ⟨rfl, ⟨nd, rfl⟩⟩) | (go_at_call 29; (with_reducible refine (impl_IsTicket.calls kj61 t417 t447 _ A110.out).mono ?_); rintro e w' ⟨rfl, ⟨nd, rfl⟩⟩) | (go_at_call 30; (with_reducible refine (spec_IsTicket.calls kj61 t417 t449 _ A111.out).mono ?_); rintro e w' ⟨rfl, ⟨nd, rfl⟩⟩))
             try any_goals (exfalso; exact undef_bool_ (by with_reducible assumption))
             go_meet
             case rel => exact ⟨_, (false), z10_2_, H', ⟨by have := HJ11.out; have := HJ38.out; have := HJ61.out; first | omega | exact Nat.le_refl _⟩, ⟨by repeat (first | (with_reducible first | exact HB.out | apply below_alloc | apply pw_below_drewN | apply below_drew1) | exact HB.out)⟩⟩
          replace c117 := Bool.eq_false_iff.mpr c117
          subst c117
          rw [if_neg (show ¬ (false = true) by decide)] at H
          as_aux_lemma =>
           first | exact laws_FnTicketsRanked.j0_dead H hr_ | exact laws_FnTicketsRanked.j4_dead H hr_
        replace c116 := Bool.eq_false_iff.mpr c116
        subst c116
        rw [if_neg (show ¬ (false = true) by decide)] at H
        as_aux_lemma =>
        by_cases c119 : t423 = true
        · subst c119
          rw [if_pos rfl] at H
          as_aux_lemma =>
           have H' := Aside0.mk H
           clear H
           go_wp2_with (first | (go_at_call 29; (with_reducible refine (impl_IsTicket.calls kj61 t417 t447 _ A108.out).mono ?_); rintro e w' ⟨rfl, ⟨nd, rfl⟩⟩) | (go_at_call 29; (with_reducible refine (impl_IsTicket.calls kj61 t417 t447 _ A110.out).mono ?_); rintro e w' ⟨rfl, ⟨nd, rfl⟩⟩) | (go_at_call 30; (with_reducible refine (spec_IsTicket.calls kj61 t417 t449 _ A111.out).mono ?_); rintro e w' ⟨rfl, ⟨nd, rfl⟩⟩))
           try any_goals (exfalso; exact undef_bool_ (by with_reducible assumption))
           go_meet
           case rel => exact ⟨_, (!t427), z10_2_, H', ⟨by have := HJ11.out; have := HJ38.out; have := HJ61.out; first | omega | exact Nat.le_refl _⟩, ⟨by repeat (first | (with_reducible first | exact HB.out | apply below_alloc | apply pw_below_drewN | apply below_drew1) | exact HB.out)⟩⟩
        replace c119 := Bool.eq_false_iff.mpr c119
        subst c119
        rw [if_neg (show ¬ (false = true) by decide)] at H
        as_aux_lemma =>
         have H' := Aside0.mk H
         clear H
         go_wp2_with (first | (go_at_call 29; (with_reducible refine (impl_IsTicket.calls kj61 t417 t447 _ A108.out).mono ?_); rintro e w' ⟨rfl, ⟨nd, rfl⟩⟩) | (go_at_call 29; (with_reducible refine (impl_IsTicket.calls kj61 t417 t447 _ A110.out).mono ?_); rintro e w' ⟨rfl, ⟨nd, rfl⟩⟩) | (go_at_call 30; (with_reducible refine (spec_IsTicket.calls kj61 t417 t449 _ A111.out).mono ?_); rintro e w' ⟨rfl, ⟨nd, rfl⟩⟩))
         try any_goals (exfalso; exact undef_bool_ (by with_reducible assumption))
         go_meet
         case rel => exact ⟨_, (false), z10_2_, H', ⟨by have := HJ11.out; have := HJ38.out; have := HJ61.out; first | omega | exact Nat.le_refl _⟩, ⟨by repeat (first | (with_reducible first | exact HB.out | apply below_alloc | apply pw_below_drewN | apply below_drew1) | exact HB.out)⟩⟩
       case rest =>
        as_aux_lemma =>
        clear HC85
        (try clear c1);(try clear c2);(try clear p2);(try clear c3);(try clear c4);(try clear p4);(try clear q4);(try clear hx4);(try clear qi4);(try clear c5);(try clear c6);(try clear p6);(try clear c7);(try clear c8);(try clear c9);(try clear c10);(try clear c11);(try clear c14);(try clear c15);(try clear c16);(try clear c17);(try clear c18);(try clear c19);(try clear c20);(try clear c20b0);(try clear c20b1);(try clear c20b2);(try clear c21);(try clear c21b0);(try clear c21b1);(try clear c22);(try clear c22b0);(try clear c22b1);(try clear c22b2);(try clear c23);(try clear c23b0);(try clear c23b1);(try clear c24);(try clear c24b0);(try clear c24b1);(try clear c24b2);(try clear c25);(try clear c26);(try clear c27);(try clear c27b0);(try clear c27b1);(try clear c27b2);(try clear c28);(try clear c29);(try clear c29b0);(try clear c38);(try clear c40);(try clear p40);(try clear q40);(try clear hx40);(try clear qi40);(try clear c41);(try clear c41b0);(try clear c41b1);(try clear p41);(try clear q41);(try clear hx41);(try clear c43);(try clear c43b0);(try clear c43b1);(try clear c44);(try clear c44b0);(try clear c44b1);(try clear c45);(try clear c45b0);(try clear c45b1);(try clear c47);(try clear c47b0);(try clear c48);(try clear c48b0);(try clear c49);(try clear c49b0);(try clear c53);(try clear c53b0);(try clear c54);(try clear c54b0);(try clear c55);(try clear c55b0);(try clear c55b1);(try clear c56);(try clear c57);(try clear c57b0);(try clear c57b1);(try clear c58);(try clear c59);(try clear c59b0);(try clear c59b1);(try clear c63);(try clear p64);(try clear c66);(try clear c66b0);(try clear c66b1);(try clear c67);(try clear c68);(try clear c69);(try clear c70);(try clear c70b0);(try clear c70b1);(try clear c95);(try clear c95b0);(try clear c95b1);(try clear c95b2);(try clear c96);(try clear c96b0);(try clear c96b1);(try clear c97);(try clear c97b0);(try clear c97b1);(try clear c97b2);(try clear c98);(try clear c98b0);(try clear c98b1);(try clear c99);(try clear c99b0);(try clear c99b1);(try clear c99b2);(try clear c100);(try clear c100b0);(try clear c100b1);(try clear c101);(try clear c101b0);(try clear c101b1);(try clear c101b2);(try clear c102);(try clear c102b0);(try clear c102b1);(try clear c103);(try clear c103b0);(try clear c103b1);(try clear c104);(try clear c104b0);(try clear c104b1);(try clear c104b2);(try clear c105);(try clear c105b0);(try clear c105b1);(try clear c105b2);(try clear c106);(try clear c106b0);(try clear c106b1);(try clear c106b2);(try clear c107);(try clear c107b0);(try clear c107b1);(try clear c109);(try clear c109b0);(try clear c109b1);(try clear c109b2);(try clear c112);(try clear c112b0);(try clear c112b1);(try clear c112b2);(try clear c113);(try clear c113b0);(try clear c113b1);(try clear c113b2);(try clear c114);(try clear c114b0);(try clear c114b1);(try clear c114b2);(try clear c115);(try clear c115b0);(try clear c115b1);(try clear c115b2);(try clear c116);(try clear c117);(try clear c118);(try clear c119);(try clear hx405_0)
        (try clear hx406_0);(try clear hx412_0);(try clear p2);(try clear p4);(try clear p40);(try clear p405);(try clear p406);(try clear p41);(try clear p412);(try clear p6);(try clear p64);(try clear q4);(try clear q40);(try clear q405);(try clear q406);(try clear q41);(try clear q412)
        obtain ⟨kq, x443_84, rfl, HA, HJ84, HB⟩ := hcut
        cases kq with
        | zero => exact absurd HA.out (by simp [laws_FnTicketsRanked.j4])
        | succ kj84 =>
         have H := HA.out
         clear HA
         simp only [laws_FnTicketsRanked.j4] at H
         by_cases c120 : x443_84 = true
         · subst c120
           rw [if_pos rfl] at H
           as_aux_lemma =>
            exact dead2_ H hr_
         replace c120 := Bool.eq_false_iff.mpr c120
         subst c120
         rw [if_neg (show ¬ (false = true) by decide)] at H
         have HC121 := Aside0.mk H
         clear H
         go_upto_if 444 with (fail)
         go_cut [] from 444 to 476 (fun wc => ∃ (kq : Nat), Aside0 (laws_FnTicketsRanked.j5 kq l1 t417 t418 t419 t422 t423 t426 t430 t431 t436 t440 = some r) ∧ Aside0 (kq ≤ kj84) ∧ Aside0 (Below w.heap.size w wc))
         case first =>
          as_aux_lemma =>
          have H := HC121.out
          clear HC121
          by_cases c122 : t427 = true
          · subst c122
            rw [if_pos rfl] at H
            replace H := Option.bind_eq_some_iff.mp H
            obtain ⟨⟨t450, t451⟩, A1230, H⟩ := H
            dsimp only at H
            have A123 := Aside0.mk A1230
            clear A1230
            by_cases c124 : t451 = true
            · subst c124
              rw [if_pos rfl] at H
              by_cases c125 : t450.toList = t417.toList
              rotate_left
              · exact dead_ (if_neg c125) H hr_
              rw [if_pos c125] at H
              have c125b0 : (t450.toList == t417.toList) = true := beq_iff_eq.mpr c125
              have c125b1 : (t450.toList != t417.toList) = false := bne_eq_false_iff_eq.mpr c125
              clear c125
              (first | rw [c125b0] | (simp only [i64_w, i32_w]; rw [c125b0]) | skip)
              by_cases c126 : (t419 != (decide (t431 > 0))) = true
              · exact dead_ (if_pos c126) H hr_
              rw [if_neg c126] at H
              have c126b0 : (t419 != (decide (t431 > 0))) = false := by simpa using c126
              (try (have c126b1 : decide (t419 = (decide (t431 > 0))) = true := by simpa using c126))
              (try (have c126b2 : (t419 == (decide (t431 > 0))) = true := by simpa using c126))
              clear c126
              by_cases c127 : (t423 != (decide (t430 > 0))) = true
              · exact dead_ (if_pos c127) H hr_
              rw [if_neg c127] at H
              have c127b0 : (t423 != (decide (t430 > 0))) = false := by simpa using c127
              (try (have c127b1 : decide (t423 = (decide (t430 > 0))) = true := by simpa using c127))
              (try (have c127b2 : (t423 == (decide (t430 > 0))) = true := by simpa using c127))
              clear c127
              by_cases c128 : (t423 != (decide (t426 > 0))) = true
              · exact dead_ (if_pos c128) H hr_
              rw [if_neg c128] at H
              have c128b0 : (t423 != (decide (t426 > 0))) = false := by simpa using c128
              (try (have c128b1 : decide (t423 = (decide (t426 > 0))) = true := by simpa using c128))
              (try (have c128b2 : (t423 == (decide (t426 > 0))) = true := by simpa using c128))
              clear c128
              as_aux_lemma =>
               have H' := Aside0.mk H
               clear H
               go_wp2_with (first | ((with_reducible refine gate_callee (f := 31) rfl ?_); refine goesL_ (some 449) rfl rfl Tryd.func31 (by kernel_rfl) rfl #[.int .i64 (t417.size : Int), .int .i64 t440] rfl z10_0_ ?_; (with_reducible refine (impl_TicketOfNumber.calls (t417.size : Int) t440 t450 true _ ?side1 A123.out).mono ?_); (case side1 => exact Shelf.TabOk.below HT.out z10_1_); rintro e w129 ⟨rfl, hb⟩; refine ⟨_, rfl, ?_⟩; have n0_ := Aside0.mk (below_step z10_1_ hb); clear HB; have HB := n0_; clear n0_; (try clear hb); (try clear hb2); (try clear hk); (try clear hi)))
               try any_goals (exfalso; exact undef_bool_ (by with_reducible assumption))
               go_meet
               case rel => exact ⟨_, H', ⟨by have := HJ11.out; have := HJ38.out; have := HJ61.out; have := HJ84.out; first | omega | exact Nat.le_refl _⟩, ⟨by repeat (first | (with_reducible first | exact HB.out | apply below_alloc | apply pw_below_drewN | apply below_drew1) | exact HB.out)⟩⟩
            replace c124 := Bool.eq_false_iff.mpr c124
            subst c124
            rw [if_neg (show ¬ (false = true) by decide)] at H
            as_aux_lemma =>
             exact dead2_ H hr_
          replace c122 := Bool.eq_false_iff.mpr c122
          subst c122
          rw [if_neg (show ¬ (false = true) by decide)] at H
          as_aux_lemma =>
           have H' := Aside0.mk H
           clear H
           go_wp2
           try any_goals (exfalso; exact undef_bool_ (by with_reducible assumption))
           go_meet
           case rel => exact ⟨_, H', ⟨by have := HJ11.out; have := HJ38.out; have := HJ61.out; have := HJ84.out; first | omega | exact Nat.le_refl _⟩, ⟨by repeat (first | (with_reducible first | exact HB.out | apply below_alloc | apply pw_below_drewN | apply below_drew1) | exact HB.out)⟩⟩
         case rest =>
          as_aux_lemma =>
          clear HC121
          (try clear c1);(try clear c2);(try clear p2);(try clear c3);(try clear c4);(try clear p4);(try clear q4);(try clear hx4);(try clear qi4);(try clear c5);(try clear c6);(try clear p6);(try clear c7);(try clear c8);(try clear c9);(try clear c10);(try clear c11);(try clear c12);(try clear c14);(try clear c15);(try clear c16);(try clear c17);(try clear c18);(try clear c19);(try clear c20);(try clear c20b0);(try clear c20b1);(try clear c20b2);(try clear c21);(try clear c21b0);(try clear c21b1);(try clear c22);(try clear c22b0);(try clear c22b1);(try clear c22b2);(try clear c23);(try clear c23b0);(try clear c23b1);(try clear c24);(try clear c24b0);(try clear c24b1);(try clear c24b2);(try clear c25);(try clear c26);(try clear c27);(try clear c27b0);(try clear c27b1);(try clear c27b2);(try clear c28);(try clear c29);(try clear c29b0);(try clear c31);(try clear c38);(try clear c40);(try clear p40);(try clear q40);(try clear hx40);(try clear qi40);(try clear c41);(try clear c41b0);(try clear c41b1);(try clear p41);(try clear q41);(try clear hx41);(try clear c43);(try clear c43b0);(try clear c43b1);(try clear c44);(try clear c44b0);(try clear c44b1);(try clear c45);(try clear c45b0);(try clear c45b1);(try clear c47);(try clear c47b0);(try clear c48);(try clear c48b0);(try clear c49);(try clear c49b0);(try clear c53);(try clear c53b0);(try clear c54);(try clear c54b0);(try clear c55);(try clear c55b0);(try clear c55b1);(try clear c56);(try clear c57);(try clear c57b0);(try clear c57b1);(try clear c58);(try clear c59);(try clear c59b0);(try clear c59b1);(try clear c63);(try clear p64);(try clear c66);(try clear c66b0);(try clear c66b1);(try clear c67);(try clear c68);(try clear c69);(try clear c70);(try clear c70b0);(try clear c70b1);(try clear c95);(try clear c95b0);(try clear c95b1);(try clear c95b2);(try clear c96);(try clear c96b0);(try clear c96b1);(try clear c97);(try clear c97b0);(try clear c97b1);(try clear c97b2);(try clear c98);(try clear c98b0);(try clear c98b1);(try clear c99);(try clear c99b0);(try clear c99b1);(try clear c99b2);(try clear c100);(try clear c100b0);(try clear c100b1);(try clear c101);(try clear c101b0);(try clear c101b1);(try clear c101b2);(try clear c102);(try clear c102b0);(try clear c102b1);(try clear c103);(try clear c103b0);(try clear c103b1);(try clear c104);(try clear c104b0);(try clear c104b1);(try clear c104b2);(try clear c105);(try clear c105b0);(try clear c105b1);(try clear c105b2);(try clear c106);(try clear c106b0);(try clear c106b1);(try clear c106b2);(try clear c107);(try clear c107b0);(try clear c107b1);(try clear c109);(try clear c109b0);(try clear c109b1);(try clear c109b2);(try clear c112);(try clear c112b0);(try clear c112b1);(try clear c112b2);(try clear c113);(try clear c113b0);(try clear c113b1);(try clear c113b2);(try clear c114);(try clear c114b0);(try clear c114b1);(try clear c114b2);(try clear c115);(try clear c115b0);(try clear c115b1);(try clear c115b2);(try clear c116);(try clear c117);(try clear c118)
          (try clear c119);(try clear c120);(try clear c122);(try clear c124);(try clear c125);(try clear c125b0);(try clear c125b1);(try clear c126);(try clear c126b0);(try clear c126b1);(try clear c126b2);(try clear c127);(try clear c127b0);(try clear c127b1);(try clear c127b2);(try clear c128);(try clear c128b0);(try clear c128b1);(try clear c128b2);(try clear hx405_0);(try clear hx406_0);(try clear hx412_0);(try clear p2);(try clear p4);(try clear p40);(try clear p405);(try clear p406);(try clear p41);(try clear p412);(try clear p6);(try clear p64);(try clear q4);(try clear q40);(try clear q405);(try clear q406);(try clear q41);(try clear q412)
          obtain ⟨kq, HA, HJ120, HB⟩ := hcut
          cases kq with
          | zero => exact absurd HA.out (by simp [laws_FnTicketsRanked.j5])
          | succ kj120 =>
           have H := HA.out
           clear HA
           simp only [laws_FnTicketsRanked.j5] at H
           have HC130 := Aside0.mk H
           clear H
           go_upto_if 477 with (fail)
           go_cut [] from 477 to 528 (fun wc => ∃ (kq : Nat), Aside0 (laws_FnTicketsRanked.j6 kq l1 t417 t422 t423 t426 t430 t440 = some r) ∧ Aside0 (kq ≤ kj120) ∧ Aside0 (Below w.heap.size w wc))
           case first =>
            as_aux_lemma =>
            have H := HC130.out
            clear HC130
            by_cases c131 : t419 = true
            · subst c131
              rw [if_pos rfl] at H
              replace H := Option.bind_eq_some_iff.mp H
              obtain ⟨⟨t452, t453⟩, A1320, H⟩ := H
              dsimp only at H
              have A132 := Aside0.mk A1320
              clear A1320
              replace H := Option.bind_eq_some_iff.mp H
              obtain ⟨⟨t454, t455⟩, A1330, H⟩ := H
              dsimp only at H
              have A133 := Aside0.mk A1330
              clear A1330
              replace H := Option.bind_eq_some_iff.mp H
              obtain ⟨⟨t456, t457⟩, A1340, H⟩ := H
              dsimp only at H
              have A134 := Aside0.mk A1340
              clear A1340
              by_cases c135 : t436 = true
              · subst c135
                rw [if_pos rfl] at H
                by_cases c136 : ((Op.bytesLess t417.toList t418.toList) = true)
                rotate_left
                · exact dead_ (if_neg c136) H hr_
                rw [if_pos c136] at H
                have c136b0 : (Op.bytesLess t417.toList t418.toList) = true := c136
                have c136b7 : (Op.bytesLess t418.toList t417.toList || t418.toList == t417.toList) = false := leq_no_ c136b0
                have c136b8 : (!(Op.bytesLess t417.toList t418.toList)) = false := by rw [c136b0]; rfl
                clear c136
                (first | rw [c136b0] | (simp only [i64_w, i32_w]; rw [c136b0]) | skip)
                by_cases c137 : t453 = true
                · subst c137
                  rw [if_pos rfl] at H
                  by_cases c138 : t452 = (wrap64 (t426 + 1))
                  rotate_left
                  · exact dead_ (if_neg c138) H hr_
                  rw [if_pos c138] at H
                  have c138b0 : (t452 == (wrap64 (t426 + 1))) = true := beq_iff_eq.mpr c138
                  have c138b1 : (t452 != (wrap64 (t426 + 1))) = false := bne_eq_false_iff_eq.mpr c138
                  clear c138
                  by_cases c139 : t455 = true
                  · subst c139
                    rw [if_pos rfl] at H
                    by_cases c140 : t454 = 1
                    rotate_left
                    · exact dead_ (if_neg c140) H hr_
                    rw [if_pos c140] at H
                    have c140b0 : (t454 == 1) = true := beq_iff_eq.mpr c140
                    have c140b1 : (t454 != 1) = false := bne_eq_false_iff_eq.mpr c140
                    clear c140
                    by_cases c141 : t457 = true
                    · subst c141
                      rw [if_pos rfl] at H
                      by_cases c142 : (wrap64 (t456 - t440)) = t431
                      rotate_left
                      · exact dead_ (if_neg c142) H hr_
                      rw [if_pos c142] at H
                      have c142b0 : ((wrap64 (t456 - t440)) == t431) = true := beq_iff_eq.mpr c142
                      have c142b1 : ((wrap64 (t456 - t440)) != t431) = false := bne_eq_false_iff_eq.mpr c142
                      clear c142
                      as_aux_lemma =>
                       have H' := Aside0.mk H
                       clear H
                       go_wp2_with (first | ((with_reducible refine gate_callee (f := 17) rfl ?_); refine goesL_ (some 480) rfl rfl Tryd.func17 (by kernel_rfl) rfl #[.string t418] rfl z10_0_ ?_; (with_reducible refine (impl_RankOfLucky.calls kj120 t418 t452 true _ A132.out).mono ?_); rintro e w143 ⟨rfl, hb⟩; refine ⟨_, rfl, ?_⟩; have n0_ := Aside0.mk (below_step z10_1_ hb); clear HB; have HB := n0_; clear n0_; (try clear hb); (try clear hb2); (try clear hk); (try clear hi)) | ((with_reducible refine gate_callee (f := 32) rfl ?_); refine goesL_ (some 486) rfl rfl Tryd.func32 (by kernel_rfl) rfl #[.string t417, .string t418] rfl z10_0_ ?_; (with_reducible refine (impl_CountLuckyBetween.calls kj120 t417 t418 t454 true _ A133.out).mono ?_); rintro e w144 ⟨rfl, hb⟩; refine ⟨_, rfl, ?_⟩; have n0_ := Aside0.mk (below_step z10_1_ hb); clear HB; have HB := n0_; clear n0_; (try clear hb); (try clear hb2); (try clear hk); (try clear hi)) | ((with_reducible refine gate_callee (f := 27) rfl ?_); refine goesL_ (some 491) rfl rfl Tryd.func27 (by kernel_rfl) rfl #[.string t418] rfl z10_0_ ?_; (with_reducible refine (impl_NumberOfTicket.calls kj120 t418 t456 true _ A134.out).mono ?_); rintro e w' ⟨rfl, ⟨nd, rfl⟩⟩; refine ⟨_, rfl, ?_⟩))
                       try any_goals (exfalso; exact undef_bool_ (by with_reducible assumption))
                       go_meet
                       case rel => exact ⟨_, H', ⟨by have := HJ11.out; have := HJ38.out; have := HJ61.out; have := HJ84.out; have := HJ120.out; first | omega | exact Nat.le_refl _⟩, ⟨by repeat (first | (with_reducible first | exact HB.out | apply below_alloc | apply pw_below_drewN | apply below_drew1) | exact HB.out)⟩⟩
                    replace c141 := Bool.eq_false_iff.mpr c141
                    subst c141
                    rw [if_neg (show ¬ (false = true) by decide)] at H
                    as_aux_lemma =>
                     exact dead2_ H hr_
                  replace c139 := Bool.eq_false_iff.mpr c139
                  subst c139
                  rw [if_neg (show ¬ (false = true) by decide)] at H
                  as_aux_lemma =>
                   exact dead2_ H hr_
                replace c137 := Bool.eq_false_iff.mpr c137
                subst c137
                rw [if_neg (show ¬ (false = true) by decide)] at H
                as_aux_lemma =>
                 exact dead2_ H hr_
              replace c135 := Bool.eq_false_iff.mpr c135
              subst c135
              rw [if_neg (show ¬ (false = true) by decide)] at H
              as_aux_lemma =>
              by_cases c145 : ((Op.bytesLess t417.toList t418.toList) = true)
              rotate_left
              · exact dead_ (if_neg c145) H hr_
              rw [if_pos c145] at H
              have c145b0 : (Op.bytesLess t417.toList t418.toList) = true := c145
              have c145b7 : (Op.bytesLess t418.toList t417.toList || t418.toList == t417.toList) = false := leq_no_ c145b0
              have c145b8 : (!(Op.bytesLess t417.toList t418.toList)) = false := by rw [c145b0]; rfl
              clear c145
              by_cases c146 : t453 = true
              · subst c146
                rw [if_pos rfl] at H
                by_cases c147 : t452 = t426
                rotate_left
                · exact dead_ (if_neg c147) H hr_
                rw [if_pos c147] at H
                have c147b0 : (t452 == t426) = true := beq_iff_eq.mpr c147
                have c147b1 : (t452 != t426) = false := bne_eq_false_iff_eq.mpr c147
                clear c147
                by_cases c148 : t455 = true
                · subst c148
                  rw [if_pos rfl] at H
                  by_cases c149 : t454 = 1
                  rotate_left
                  · exact dead_ (if_neg c149) H hr_
                  rw [if_pos c149] at H
                  have c149b0 : (t454 == 1) = true := beq_iff_eq.mpr c149
                  have c149b1 : (t454 != 1) = false := bne_eq_false_iff_eq.mpr c149
                  clear c149
                  by_cases c150 : t457 = true
                  · subst c150
                    rw [if_pos rfl] at H
                    by_cases c151 : (wrap64 (t456 - t440)) = t431
                    rotate_left
                    · exact dead_ (if_neg c151) H hr_
                    rw [if_pos c151] at H
                    have c151b0 : ((wrap64 (t456 - t440)) == t431) = true := beq_iff_eq.mpr c151
                    have c151b1 : ((wrap64 (t456 - t440)) != t431) = false := bne_eq_false_iff_eq.mpr c151
                    clear c151
                    as_aux_lemma =>
                     have H' := Aside0.mk H
                     clear H
                     go_wp2_with (first | ((with_reducible refine gate_callee (f := 17) rfl ?_); refine goesL_ (some 480) rfl rfl Tryd.func17 (by kernel_rfl) rfl #[.string t418] rfl z10_0_ ?_; (with_reducible refine (impl_RankOfLucky.calls kj120 t418 t452 true _ A132.out).mono ?_); rintro e w152 ⟨rfl, hb⟩; refine ⟨_, rfl, ?_⟩; have n0_ := Aside0.mk (below_step z10_1_ hb); clear HB; have HB := n0_; clear n0_; (try clear hb); (try clear hb2); (try clear hk); (try clear hi)) | ((with_reducible refine gate_callee (f := 32) rfl ?_); refine goesL_ (some 486) rfl rfl Tryd.func32 (by kernel_rfl) rfl #[.string t417, .string t418] rfl z10_0_ ?_; (with_reducible refine (impl_CountLuckyBetween.calls kj120 t417 t418 t454 true _ A133.out).mono ?_); rintro e w153 ⟨rfl, hb⟩; refine ⟨_, rfl, ?_⟩; have n0_ := Aside0.mk (below_step z10_1_ hb); clear HB; have HB := n0_; clear n0_; (try clear hb); (try clear hb2); (try clear hk); (try clear hi)) | ((with_reducible refine gate_callee (f := 27) rfl ?_); refine goesL_ (some 491) rfl rfl Tryd.func27 (by kernel_rfl) rfl #[.string t418] rfl z10_0_ ?_; (with_reducible refine (impl_NumberOfTicket.calls kj120 t418 t456 true _ A134.out).mono ?_); rintro e w' ⟨rfl, ⟨nd, rfl⟩⟩; refine ⟨_, rfl, ?_⟩))
                     try any_goals (exfalso; exact undef_bool_ (by with_reducible assumption))
                     go_meet
                     case rel => exact ⟨_, H', ⟨by have := HJ11.out; have := HJ38.out; have := HJ61.out; have := HJ84.out; have := HJ120.out; first | omega | exact Nat.le_refl _⟩, ⟨by repeat (first | (with_reducible first | exact HB.out | apply below_alloc | apply pw_below_drewN | apply below_drew1) | exact HB.out)⟩⟩
                  replace c150 := Bool.eq_false_iff.mpr c150
                  subst c150
                  rw [if_neg (show ¬ (false = true) by decide)] at H
                  as_aux_lemma =>
                   exact dead2_ H hr_
                replace c148 := Bool.eq_false_iff.mpr c148
                subst c148
                rw [if_neg (show ¬ (false = true) by decide)] at H
                as_aux_lemma =>
                 exact dead2_ H hr_
              replace c146 := Bool.eq_false_iff.mpr c146
              subst c146
              rw [if_neg (show ¬ (false = true) by decide)] at H
              as_aux_lemma =>
               exact dead2_ H hr_
            replace c131 := Bool.eq_false_iff.mpr c131
            subst c131
            rw [if_neg (show ¬ (false = true) by decide)] at H
            as_aux_lemma =>
             have H' := Aside0.mk H
             clear H
             go_wp2
             try any_goals (exfalso; exact undef_bool_ (by with_reducible assumption))
             go_meet
             case rel => exact ⟨_, H', ⟨by have := HJ11.out; have := HJ38.out; have := HJ61.out; have := HJ84.out; have := HJ120.out; first | omega | exact Nat.le_refl _⟩, ⟨by repeat (first | (with_reducible first | exact HB.out | apply below_alloc | apply pw_below_drewN | apply below_drew1) | exact HB.out)⟩⟩
           case rest =>
            as_aux_lemma =>
            clear HC130
            (try clear c1);(try clear c2);(try clear p2);(try clear c3);(try clear c4);(try clear p4);(try clear q4);(try clear hx4);(try clear qi4);(try clear c5);(try clear c6);(try clear p6);(try clear c7);(try clear c8);(try clear c9);(try clear c10);(try clear c11);(try clear c12);(try clear c13);(try clear c14);(try clear c15);(try clear c16);(try clear c17);(try clear c18);(try clear c19);(try clear c20);(try clear c20b0);(try clear c20b1);(try clear c20b2);(try clear c21);(try clear c21b0);(try clear c21b1);(try clear c22);(try clear c22b0);(try clear c22b1);(try clear c22b2);(try clear c23);(try clear c23b0);(try clear c23b1);(try clear c24);(try clear c24b0);(try clear c24b1);(try clear c24b2);(try clear c25);(try clear c26);(try clear c27);(try clear c27b0);(try clear c27b1);(try clear c27b2);(try clear c28);(try clear c29);(try clear c29b0);(try clear c31);(try clear c32);(try clear c38);(try clear c40);(try clear p40);(try clear q40);(try clear hx40);(try clear qi40);(try clear c41);(try clear c41b0);(try clear c41b1);(try clear p41);(try clear q41);(try clear hx41);(try clear c43);(try clear c43b0);(try clear c43b1);(try clear c44);(try clear c44b0);(try clear c44b1);(try clear c45);(try clear c45b0);(try clear c45b1);(try clear c47);(try clear c47b0);(try clear c48);(try clear c48b0);(try clear c49);(try clear c49b0);(try clear c53);(try clear c53b0);(try clear c54);(try clear c54b0);(try clear c55);(try clear c55b0);(try clear c55b1);(try clear c56);(try clear c57);(try clear c57b0);(try clear c57b1);(try clear c58);(try clear c59);(try clear c59b0);(try clear c59b1);(try clear c63);(try clear p64);(try clear c66);(try clear c66b0);(try clear c66b1);(try clear c67);(try clear c68);(try clear c69);(try clear c70);(try clear c70b0);(try clear c70b1);(try clear c95);(try clear c95b0);(try clear c95b1);(try clear c95b2);(try clear c96);(try clear c96b0);(try clear c96b1);(try clear c97);(try clear c97b0);(try clear c97b1);(try clear c97b2);(try clear c98);(try clear c98b0);(try clear c98b1);(try clear c99);(try clear c99b0);(try clear c99b1);(try clear c99b2);(try clear c100);(try clear c100b0);(try clear c100b1);(try clear c101);(try clear c101b0);(try clear c101b1);(try clear c101b2);(try clear c102);(try clear c102b0);(try clear c102b1);(try clear c103);(try clear c103b0);(try clear c103b1);(try clear c104);(try clear c104b0);(try clear c104b1);(try clear c104b2);(try clear c105);(try clear c105b0);(try clear c105b1);(try clear c105b2);(try clear c106);(try clear c106b0);(try clear c106b1);(try clear c106b2);(try clear c107);(try clear c107b0);(try clear c107b1);(try clear c109);(try clear c109b0);(try clear c109b1);(try clear c109b2);(try clear c112);(try clear c112b0);(try clear c112b1);(try clear c112b2);(try clear c113);(try clear c113b0);(try clear c113b1);(try clear c113b2);(try clear c114);(try clear c114b0);(try clear c114b1);(try clear c114b2);(try clear c115);(try clear c115b0);(try clear c115b1);(try clear c115b2);(try clear c116)
            (try clear c117);(try clear c118);(try clear c119);(try clear c120);(try clear c122);(try clear c124);(try clear c125);(try clear c125b0);(try clear c125b1);(try clear c126);(try clear c126b0);(try clear c126b1);(try clear c126b2);(try clear c127);(try clear c127b0);(try clear c127b1);(try clear c127b2);(try clear c128);(try clear c128b0);(try clear c128b1);(try clear c128b2);(try clear c131);(try clear c135);(try clear c136);(try clear c136b0);(try clear c137);(try clear c138);(try clear c138b0);(try clear c138b1);(try clear c139);(try clear c140);(try clear c140b0);(try clear c140b1);(try clear c141);(try clear c142);(try clear c142b0);(try clear c142b1);(try clear c145);(try clear c145b0);(try clear c146);(try clear c147);(try clear c147b0);(try clear c147b1);(try clear c148);(try clear c149);(try clear c149b0);(try clear c149b1);(try clear c150);(try clear c151);(try clear c151b0);(try clear c151b1);(try clear hx405_0);(try clear hx406_0);(try clear hx412_0);(try clear p2);(try clear p4);(try clear p40);(try clear p405);(try clear p406);(try clear p41);(try clear p412);(try clear p6);(try clear p64);(try clear q4);(try clear q40);(try clear q405);(try clear q406);(try clear q41);(try clear q412)
            obtain ⟨kq, HA, HJ129, HB⟩ := hcut
            cases kq with
            | zero => exact absurd HA.out (by simp [laws_FnTicketsRanked.j6])
            | succ kj129 =>
             have H := HA.out
             clear HA
             simp only [laws_FnTicketsRanked.j6] at H
             have HC154 := Aside0.mk H
             clear H
             go_upto_if 529 with (fail)
             go_cut [] from 529 to 576 (fun wc => ∃ (kq : Nat), Aside0 (laws_FnTicketsRanked.j7 kq l1 = some r) ∧ Aside0 (kq ≤ kj129) ∧ Aside0 (Below w.heap.size w wc))
             case first =>
              as_aux_lemma =>
              have H := HC154.out
              clear HC154
              by_cases c155 : t423 = true
              · subst c155
                rw [if_pos rfl] at H
                replace H := Option.bind_eq_some_iff.mp H
                obtain ⟨⟨t458, t459⟩, A1560, H⟩ := H
                dsimp only at H
                have A156 := Aside0.mk A1560
                clear A1560
                replace H := Option.bind_eq_some_iff.mp H
                obtain ⟨⟨t460, t461⟩, A1570, H⟩ := H
                dsimp only at H
                have A157 := Aside0.mk A1570
                clear A1570
                replace H := Option.bind_eq_some_iff.mp H
                obtain ⟨⟨t462, t463⟩, A1580, H⟩ := H
                dsimp only at H
                have A158 := Aside0.mk A1580
                clear A1580
                by_cases c159 : ((Op.bytesLess t422.toList t417.toList) = true)
                rotate_left
                · exact dead_ (if_neg c159) H hr_
                rw [if_pos c159] at H
                have c159b0 : (Op.bytesLess t422.toList t417.toList) = true := c159
                have c159b7 : (Op.bytesLess t417.toList t422.toList || t417.toList == t422.toList) = false := leq_no_ c159b0
                have c159b8 : (!(Op.bytesLess t422.toList t417.toList)) = false := by rw [c159b0]; rfl
                clear c159
                (first | rw [c159b0] | (simp only [i64_w, i32_w]; rw [c159b0]) | skip)
                by_cases c160 : t459 = true
                · subst c160
                  rw [if_pos rfl] at H
                  by_cases c161 : t458 = (wrap64 (t426 - 1))
                  rotate_left
                  · exact dead_ (if_neg c161) H hr_
                  rw [if_pos c161] at H
                  have c161b0 : (t458 == (wrap64 (t426 - 1))) = true := beq_iff_eq.mpr c161
                  have c161b1 : (t458 != (wrap64 (t426 - 1))) = false := bne_eq_false_iff_eq.mpr c161
                  clear c161
                  by_cases c162 : t461 = true
                  · subst c162
                    rw [if_pos rfl] at H
                    by_cases c163 : (wrap64 (t440 - t460)) = t430
                    rotate_left
                    · exact dead_ (if_neg c163) H hr_
                    rw [if_pos c163] at H
                    have c163b0 : ((wrap64 (t440 - t460)) == t430) = true := beq_iff_eq.mpr c163
                    have c163b1 : ((wrap64 (t440 - t460)) != t430) = false := bne_eq_false_iff_eq.mpr c163
                    clear c163
                    by_cases c164 : t463 = true
                    · subst c164
                      rw [if_pos rfl] at H
                      by_cases c165 : t462 = true
                      · subst c165
                        rw [if_pos rfl] at H
                        as_aux_lemma =>
                         have H' := Aside0.mk H
                         clear H
                         go_wp2_with (first | ((with_reducible refine gate_callee (f := 17) rfl ?_); refine goesL_ (some 532) rfl rfl Tryd.func17 (by kernel_rfl) rfl #[.string t422] rfl z10_0_ ?_; (with_reducible refine (impl_RankOfLucky.calls kj129 t422 t458 true _ A156.out).mono ?_); rintro e w166 ⟨rfl, hb⟩; refine ⟨_, rfl, ?_⟩; have n0_ := Aside0.mk (below_step z10_1_ hb); clear HB; have HB := n0_; clear n0_; (try clear hb); (try clear hb2); (try clear hk); (try clear hi)) | ((with_reducible refine gate_callee (f := 27) rfl ?_); refine goesL_ (some 537) rfl rfl Tryd.func27 (by kernel_rfl) rfl #[.string t422] rfl z10_0_ ?_; (with_reducible refine (impl_NumberOfTicket.calls kj129 t422 t460 true _ A157.out).mono ?_); rintro e w' ⟨rfl, ⟨nd, rfl⟩⟩; refine ⟨_, rfl, ?_⟩) | ((with_reducible refine gate_callee (f := 16) rfl ?_); refine goesL_ (some 542) rfl rfl Tryd.func16 (by kernel_rfl) rfl #[.string t422] rfl z10_0_ ?_; (with_reducible refine (impl_IsLucky.calls kj129 t422 true true _ A158.out).mono ?_); rintro e w' ⟨rfl, ⟨nd, rfl⟩⟩; refine ⟨_, rfl, ?_⟩))
                         try any_goals (exfalso; exact undef_bool_ (by with_reducible assumption))
                         go_meet
                         case rel => exact ⟨_, H', ⟨by have := HJ11.out; have := HJ38.out; have := HJ61.out; have := HJ84.out; have := HJ120.out; have := HJ129.out; first | omega | exact Nat.le_refl _⟩, ⟨by repeat (first | (with_reducible first | exact HB.out | apply below_alloc | apply pw_below_drewN | apply below_drew1) | exact HB.out)⟩⟩
                      replace c165 := Bool.eq_false_iff.mpr c165
                      subst c165
                      rw [if_neg (show ¬ (false = true) by decide)] at H
                      as_aux_lemma =>
                       exact dead2_ H hr_
                    replace c164 := Bool.eq_false_iff.mpr c164
                    subst c164
                    rw [if_neg (show ¬ (false = true) by decide)] at H
                    as_aux_lemma =>
                     exact dead2_ H hr_
                  replace c162 := Bool.eq_false_iff.mpr c162
                  subst c162
                  rw [if_neg (show ¬ (false = true) by decide)] at H
                  as_aux_lemma =>
                   exact dead2_ H hr_
                replace c160 := Bool.eq_false_iff.mpr c160
                subst c160
                rw [if_neg (show ¬ (false = true) by decide)] at H
                as_aux_lemma =>
                 exact dead2_ H hr_
              replace c155 := Bool.eq_false_iff.mpr c155
              subst c155
              rw [if_neg (show ¬ (false = true) by decide)] at H
              as_aux_lemma =>
               have H' := Aside0.mk H
               clear H
               go_wp2
               try any_goals (exfalso; exact undef_bool_ (by with_reducible assumption))
               go_meet
               case rel => exact ⟨_, H', ⟨by have := HJ11.out; have := HJ38.out; have := HJ61.out; have := HJ84.out; have := HJ120.out; have := HJ129.out; first | omega | exact Nat.le_refl _⟩, ⟨by repeat (first | (with_reducible first | exact HB.out | apply below_alloc | apply pw_below_drewN | apply below_drew1) | exact HB.out)⟩⟩
             case rest =>
              as_aux_lemma =>
              clear HC154
              (try clear c1);(try clear c2);(try clear p2);(try clear c3);(try clear c4);(try clear p4);(try clear q4);(try clear hx4);(try clear qi4);(try clear c5);(try clear c6);(try clear p6);(try clear c7);(try clear c8);(try clear c9);(try clear c10);(try clear c11);(try clear c12);(try clear c13);(try clear c14);(try clear c15);(try clear c16);(try clear c17);(try clear c18);(try clear c19);(try clear c20);(try clear c20b0);(try clear c20b1);(try clear c20b2);(try clear c21);(try clear c21b0);(try clear c21b1);(try clear c22);(try clear c22b0);(try clear c22b1);(try clear c22b2);(try clear c23);(try clear c23b0);(try clear c23b1);(try clear c24);(try clear c24b0);(try clear c24b1);(try clear c24b2);(try clear c25);(try clear c26);(try clear c27);(try clear c27b0);(try clear c27b1);(try clear c27b2);(try clear c28);(try clear c29);(try clear c29b0);(try clear c31);(try clear c32);(try clear c38);(try clear c40);(try clear p40);(try clear q40);(try clear hx40);(try clear qi40);(try clear c41);(try clear c41b0);(try clear c41b1);(try clear p41);(try clear q41);(try clear hx41);(try clear c43);(try clear c43b0);(try clear c43b1);(try clear c44);(try clear c44b0);(try clear c44b1);(try clear c45);(try clear c45b0);(try clear c45b1);(try clear c47);(try clear c47b0);(try clear c48);(try clear c48b0);(try clear c49);(try clear c49b0);(try clear c53);(try clear c53b0);(try clear c54);(try clear c54b0);(try clear c55);(try clear c55b0);(try clear c55b1);(try clear c56);(try clear c57);(try clear c57b0);(try clear c57b1);(try clear c58);(try clear c59);(try clear c59b0);(try clear c59b1);(try clear c63);(try clear p64);(try clear c66);(try clear c66b0);(try clear c66b1);(try clear c67);(try clear c68);(try clear c69);(try clear c70);(try clear c70b0);(try clear c70b1);(try clear c95);(try clear c95b0);(try clear c95b1);(try clear c95b2);(try clear c96);(try clear c96b0);(try clear c96b1);(try clear c97);(try clear c97b0);(try clear c97b1);(try clear c97b2);(try clear c98);(try clear c98b0);(try clear c98b1);(try clear c99);(try clear c99b0);(try clear c99b1);(try clear c99b2);(try clear c100);(try clear c100b0);(try clear c100b1);(try clear c101);(try clear c101b0);(try clear c101b1);(try clear c101b2);(try clear c102);(try clear c102b0);(try clear c102b1);(try clear c103);(try clear c103b0);(try clear c103b1);(try clear c104);(try clear c104b0);(try clear c104b1);(try clear c104b2);(try clear c105);(try clear c105b0);(try clear c105b1);(try clear c105b2);(try clear c106);(try clear c106b0);(try clear c106b1);(try clear c106b2);(try clear c107);(try clear c107b0);(try clear c107b1);(try clear c109);(try clear c109b0);(try clear c109b1);(try clear c109b2);(try clear c112);(try clear c112b0);(try clear c112b1);(try clear c112b2);(try clear c113);(try clear c113b0);(try clear c113b1);(try clear c113b2);(try clear c114);(try clear c114b0);(try clear c114b1);(try clear c114b2);(try clear c115);(try clear c115b0);(try clear c115b1);(try clear c115b2);(try clear c116)
              (try clear c117);(try clear c118);(try clear c119);(try clear c120);(try clear c122);(try clear c124);(try clear c125);(try clear c125b0);(try clear c125b1);(try clear c126);(try clear c126b0);(try clear c126b1);(try clear c126b2);(try clear c127);(try clear c127b0);(try clear c127b1);(try clear c127b2);(try clear c128);(try clear c128b0);(try clear c128b1);(try clear c128b2);(try clear c131);(try clear c135);(try clear c136);(try clear c136b0);(try clear c137);(try clear c138);(try clear c138b0);(try clear c138b1);(try clear c139);(try clear c140);(try clear c140b0);(try clear c140b1);(try clear c141);(try clear c142);(try clear c142b0);(try clear c142b1);(try clear c145);(try clear c145b0);(try clear c146);(try clear c147);(try clear c147b0);(try clear c147b1);(try clear c148);(try clear c149);(try clear c149b0);(try clear c149b1);(try clear c150);(try clear c151);(try clear c151b0);(try clear c151b1);(try clear c155);(try clear c159);(try clear c159b0);(try clear c160);(try clear c161);(try clear c161b0);(try clear c161b1);(try clear c162);(try clear c163);(try clear c163b0);(try clear c163b1);(try clear c164);(try clear c165);(try clear hx405_0);(try clear hx406_0);(try clear hx412_0);(try clear p2);(try clear p4);(try clear p40);(try clear p405);(try clear p406);(try clear p41);(try clear p412);(try clear p6);(try clear p64);(try clear q4);(try clear q40);(try clear q405);(try clear q406);(try clear q41);(try clear q412)
              obtain ⟨kq, HA, HJ153, HB⟩ := hcut
              cases kq with
              | zero => exact absurd HA.out (by simp [laws_FnTicketsRanked.j7])
              | succ kj153 =>
               have H := HA.out
               clear HA
               simp only [laws_FnTicketsRanked.j7] at H
               replace H := Option.bind_eq_some_iff.mp H
               obtain ⟨⟨t464, t465⟩, A1670, H⟩ := H
               dsimp only at H
               have A167 := Aside0.mk A1670
               clear A1670
               replace H := Option.bind_eq_some_iff.mp H
               obtain ⟨⟨t466, t467⟩, A1680, H⟩ := H
               dsimp only at H
               have A168 := Aside0.mk A1680
               clear A1680
               replace H := Option.bind_eq_some_iff.mp H
               obtain ⟨⟨t468, t469⟩, A1690, H⟩ := H
               dsimp only at H
               have A169 := Aside0.mk A1690
               clear A1690
               by_cases c170 : (t467 != t469) = true
               · exact dead_ (if_pos c170) H hr_
               rw [if_neg c170] at H
               have c170b0 : (t467 != t469) = false := by simpa using c170
               (try (have c170b1 : decide (t467 = t469) = true := by simpa using c170))
               (try (have c170b2 : (t467 == t469) = true := by simpa using c170))
               clear c170
               as_aux_lemma =>
               by_cases c171 : t466 = t468
               rotate_left
               · exact dead_ (if_neg c171) H hr_
               rw [if_pos c171] at H
               have c171b0 : (t466 == t468) = true := beq_iff_eq.mpr c171
               have c171b1 : (t466 != t468) = false := bne_eq_false_iff_eq.mpr c171
               clear c171
               by_cases c172 : t467 = true
               · subst c172
                 rw [if_pos rfl] at H
                 replace H := Option.bind_eq_some_iff.mp H
                 obtain ⟨⟨t470, t471⟩, A1730, H⟩ := H
                 dsimp only at H
                 have A173 := Aside0.mk A1730
                 clear A1730
                 replace H := Option.bind_eq_some_iff.mp H
                 obtain ⟨⟨t472, t473⟩, A1740, H⟩ := H
                 dsimp only at H
                 have A174 := Aside0.mk A1740
                 clear A1740
                 replace H := Option.bind_eq_some_iff.mp H
                 obtain ⟨⟨t474, t475⟩, A1750, H⟩ := H
                 dsimp only at H
                 have A175 := Aside0.mk A1750
                 clear A1750
                 replace H := Option.bind_eq_some_iff.mp H
                 obtain ⟨⟨t476, t477⟩, A1760, H⟩ := H
                 dsimp only at H
                 have A176 := Aside0.mk A1760
                 clear A1760
                 by_cases c177 : t474 = true
                 · subst c177
                   rw [if_pos rfl] at H
                   by_cases c178 : t476 = true
                   · subst c178
                     rw [if_pos rfl] at H
                     by_cases c179 : t471 = true
                     · subst c179
                       rw [if_pos rfl] at H
                       by_cases c180 : t473 = true
                       · subst c180
                         rw [if_pos rfl] at H
                         by_cases c181 : t475 = true
                         · subst c181
                           rw [if_pos rfl] at H
                           by_cases c182 : t477 = true
                           · subst c182
                             rw [if_pos rfl] at H
                             by_cases c183 : t466 = (wrap64 ((wrap64 ((wrap64 (t472 - t470)) - 1)) + 1))
                             rotate_left
                             · exact dead_ (if_neg c183) H hr_
                             rw [if_pos c183] at H
                             have c183b0 : (t466 == (wrap64 ((wrap64 ((wrap64 (t472 - t470)) - 1)) + 1))) = true := beq_iff_eq.mpr c183
                             have c183b1 : (t466 != (wrap64 ((wrap64 ((wrap64 (t472 - t470)) - 1)) + 1))) = false := bne_eq_false_iff_eq.mpr c183
                             clear c183
                             by_cases c184 : t466 < 0
                             · exact dead_ (if_pos c184) H hr_
                             rw [if_neg c184] at H
                             have c184b0 : decide (t466 < 0) = false := decide_eq_false c184
                             clear c184
                             as_aux_lemma =>
                              obtain rfl := Option.some.inj H
                              go_wp2_with (first | ((with_reducible refine gate_callee (f := 33) rfl ?_); refine goesL_ (some 579) rfl rfl Tryd.func33 (by kernel_rfl) rfl #[.slice A1 l1.length c1] rfl z10_0_ ?_; (with_reducible refine (spec_DrawCountLuckyBetween.calls kj153 _ _ l1 t464 t465 _ ?side1 ?side2 A167.out).mono ?_); (case side1 => repeat (first | exact (Kd.C_below HR1.out HB.out) | (with_reducible refine Kd.C_alloc ?_ _) | (with_reducible refine Kd.C_drewN ?_ _) | (with_reducible refine Kd.C_drew ?_))); (case side2 => exact HC1.out); rintro e w185 ⟨rfl, hb⟩; refine ⟨_, rfl, ?_⟩; have n0_ := Aside0.mk (below_step z10_1_ hb); clear HB; have HB := n0_; clear n0_; (try clear hb); (try clear hb2); (try clear hk); (try clear hi)) | ((with_reducible refine gate_callee (f := 32) rfl ?_); refine goesL_ (some 585) rfl rfl Tryd.func32 (by kernel_rfl) rfl #[.string t464, .string t465] rfl z10_0_ ?_; (with_reducible refine (impl_CountLuckyBetween.calls kj153 t464 t465 t466 true _ A168.out).mono ?_); rintro e w186 ⟨rfl, hb⟩; refine ⟨_, rfl, ?_⟩; have n0_ := Aside0.mk (below_step z10_1_ hb); clear HB; have HB := n0_; clear n0_; (try clear hb); (try clear hb2); (try clear hk); (try clear hi)) | ((with_reducible refine gate_callee (f := 34) rfl ?_); refine goesL_ (some 591) rfl rfl Tryd.func34 (by kernel_rfl) rfl #[.string t464, .string t465] rfl z10_0_ ?_; (with_reducible refine (spec_CountLuckyBetween.calls kj153 t464 t465 t468 t469 _ A169.out).mono ?_); rintro e w187 ⟨rfl, hb⟩; refine ⟨_, rfl, ?_⟩; have n0_ := Aside0.mk (below_step z10_1_ hb); clear HB; have HB := n0_; clear n0_; (try clear hb); (try clear hb2); (try clear hk); (try clear hi)) | ((with_reducible refine gate_callee (f := 17) rfl ?_); refine goesL_ (some 605) rfl rfl Tryd.func17 (by kernel_rfl) rfl #[.string t464] rfl z10_0_ ?_; (with_reducible refine (impl_RankOfLucky.calls kj153 t464 t470 true _ A173.out).mono ?_); rintro e w188 ⟨rfl, hb⟩; refine ⟨_, rfl, ?_⟩; have n0_ := Aside0.mk (below_step z10_1_ hb); clear HB; have HB := n0_; clear n0_; (try clear hb); (try clear hb2); (try clear hk); (try clear hi)) | ((with_reducible refine gate_callee (f := 17) rfl ?_); refine goesL_ (some 610) rfl rfl Tryd.func17 (by kernel_rfl) rfl #[.string t465] rfl z10_0_ ?_; (with_reducible refine (impl_RankOfLucky.calls kj153 t465 t472 true _ A174.out).mono ?_); rintro e w189 ⟨rfl, hb⟩; refine ⟨_, rfl, ?_⟩; have n0_ := Aside0.mk (below_step z10_1_ hb); clear HB; have HB := n0_; clear n0_; (try clear hb); (try clear hb2); (try clear hk); (try clear hi)) | ((with_reducible refine gate_callee (f := 16) rfl ?_); refine goesL_ (some 615) rfl rfl Tryd.func16 (by kernel_rfl) rfl #[.string t464] rfl z10_0_ ?_; (with_reducible refine (impl_IsLucky.calls kj153 t464 true true _ A175.out).mono ?_); rintro e w' ⟨rfl, ⟨nd, rfl⟩⟩; refine ⟨_, rfl, ?_⟩) | ((with_reducible refine gate_callee (f := 16) rfl ?_); refine goesL_ (some 620) rfl rfl Tryd.func16 (by kernel_rfl) rfl #[.string t465] rfl z10_0_ ?_; (with_reducible refine (impl_IsLucky.calls kj153 t465 true true _ A176.out).mono ?_); rintro e w' ⟨rfl, ⟨nd, rfl⟩⟩; refine ⟨_, rfl, ?_⟩))
                              go_ret
                              exact ⟨by first | exact rfl | (simp [errW_none, errW_some] <;> rfl) | (simp [*, errW_none, errW_some] <;> rfl), by repeat (first | (with_reducible first | exact HB.out | apply below_alloc | apply pw_below_drewN | apply below_drew1) | exact HB.out)⟩
                           replace c182 := Bool.eq_false_iff.mpr c182
                           subst c182
                           rw [if_neg (show ¬ (false = true) by decide)] at H
                           as_aux_lemma =>
                            exact dead2_ H hr_
                         replace c181 := Bool.eq_false_iff.mpr c181
                         subst c181
                         rw [if_neg (show ¬ (false = true) by decide)] at H
                         as_aux_lemma =>
                          exact dead2_ H hr_
                       replace c180 := Bool.eq_false_iff.mpr c180
                       subst c180
                       rw [if_neg (show ¬ (false = true) by decide)] at H
                       as_aux_lemma =>
                        exact dead2_ H hr_
                     replace c179 := Bool.eq_false_iff.mpr c179
                     subst c179
                     rw [if_neg (show ¬ (false = true) by decide)] at H
                     as_aux_lemma =>
                      exact dead2_ H hr_
                   replace c178 := Bool.eq_false_iff.mpr c178
                   subst c178
                   rw [if_neg (show ¬ (false = true) by decide)] at H
                   as_aux_lemma =>
                   by_cases c190 : t471 = true
                   · subst c190
                     rw [if_pos rfl] at H
                     by_cases c191 : t473 = true
                     · subst c191
                       rw [if_pos rfl] at H
                       by_cases c192 : t475 = true
                       · subst c192
                         rw [if_pos rfl] at H
                         by_cases c193 : t477 = true
                         · subst c193
                           rw [if_pos rfl] at H
                           by_cases c194 : t466 = (wrap64 ((wrap64 (t472 - t470)) - 1))
                           rotate_left
                           · exact dead_ (if_neg c194) H hr_
                           rw [if_pos c194] at H
                           have c194b0 : (t466 == (wrap64 ((wrap64 (t472 - t470)) - 1))) = true := beq_iff_eq.mpr c194
                           have c194b1 : (t466 != (wrap64 ((wrap64 (t472 - t470)) - 1))) = false := bne_eq_false_iff_eq.mpr c194
                           clear c194
                           by_cases c195 : t466 < 0
                           · exact dead_ (if_pos c195) H hr_
                           rw [if_neg c195] at H
                           have c195b0 : decide (t466 < 0) = false := decide_eq_false c195
                           clear c195
                           as_aux_lemma =>
                            obtain rfl := Option.some.inj H
                            go_wp2_with (first | ((with_reducible refine gate_callee (f := 33) rfl ?_); refine goesL_ (some 579) rfl rfl Tryd.func33 (by kernel_rfl) rfl #[.slice A1 l1.length c1] rfl z10_0_ ?_; (with_reducible refine (spec_DrawCountLuckyBetween.calls kj153 _ _ l1 t464 t465 _ ?side1 ?side2 A167.out).mono ?_); (case side1 => repeat (first | exact (Kd.C_below HR1.out HB.out) | (with_reducible refine Kd.C_alloc ?_ _) | (with_reducible refine Kd.C_drewN ?_ _) | (with_reducible refine Kd.C_drew ?_))); (case side2 => exact HC1.out); rintro e w196 ⟨rfl, hb⟩; refine ⟨_, rfl, ?_⟩; have n0_ := Aside0.mk (below_step z10_1_ hb); clear HB; have HB := n0_; clear n0_; (try clear hb); (try clear hb2); (try clear hk); (try clear hi)) | ((with_reducible refine gate_callee (f := 32) rfl ?_); refine goesL_ (some 585) rfl rfl Tryd.func32 (by kernel_rfl) rfl #[.string t464, .string t465] rfl z10_0_ ?_; (with_reducible refine (impl_CountLuckyBetween.calls kj153 t464 t465 t466 true _ A168.out).mono ?_); rintro e w197 ⟨rfl, hb⟩; refine ⟨_, rfl, ?_⟩; have n0_ := Aside0.mk (below_step z10_1_ hb); clear HB; have HB := n0_; clear n0_; (try clear hb); (try clear hb2); (try clear hk); (try clear hi)) | ((with_reducible refine gate_callee (f := 34) rfl ?_); refine goesL_ (some 591) rfl rfl Tryd.func34 (by kernel_rfl) rfl #[.string t464, .string t465] rfl z10_0_ ?_; (with_reducible refine (spec_CountLuckyBetween.calls kj153 t464 t465 t468 t469 _ A169.out).mono ?_); rintro e w198 ⟨rfl, hb⟩; refine ⟨_, rfl, ?_⟩; have n0_ := Aside0.mk (below_step z10_1_ hb); clear HB; have HB := n0_; clear n0_; (try clear hb); (try clear hb2); (try clear hk); (try clear hi)) | ((with_reducible refine gate_callee (f := 17) rfl ?_); refine goesL_ (some 605) rfl rfl Tryd.func17 (by kernel_rfl) rfl #[.string t464] rfl z10_0_ ?_; (with_reducible refine (impl_RankOfLucky.calls kj153 t464 t470 true _ A173.out).mono ?_); rintro e w199 ⟨rfl, hb⟩; refine ⟨_, rfl, ?_⟩; have n0_ := Aside0.mk (below_step z10_1_ hb); clear HB; have HB := n0_; clear n0_; (try clear hb); (try clear hb2); (try clear hk); (try clear hi)) | ((with_reducible refine gate_callee (f := 17) rfl ?_); refine goesL_ (some 610) rfl rfl Tryd.func17 (by kernel_rfl) rfl #[.string t465] rfl z10_0_ ?_; (with_reducible refine (impl_RankOfLucky.calls kj153 t465 t472 true _ A174.out).mono ?_); rintro e w200 ⟨rfl, hb⟩; refine ⟨_, rfl, ?_⟩; have n0_ := Aside0.mk (below_step z10_1_ hb); clear HB; have HB := n0_; clear n0_; (try clear hb); (try clear hb2); (try clear hk); (try clear hi)) | ((with_reducible refine gate_callee (f := 16) rfl ?_); refine goesL_ (some 615) rfl rfl Tryd.func16 (by kernel_rfl) rfl #[.string t464] rfl z10_0_ ?_; (with_reducible refine (impl_IsLucky.calls kj153 t464 true true _ A175.out).mono ?_); rintro e w' ⟨rfl, ⟨nd, rfl⟩⟩; refine ⟨_, rfl, ?_⟩) | ((with_reducible refine gate_callee (f := 16) rfl ?_); refine goesL_ (some 620) rfl rfl Tryd.func16 (by kernel_rfl) rfl #[.string t465] rfl z10_0_ ?_; (with_reducible refine (impl_IsLucky.calls kj153 t465 false true _ A176.out).mono ?_); rintro e w' ⟨rfl, ⟨nd, rfl⟩⟩; refine ⟨_, rfl, ?_⟩))
                            go_ret
                            exact ⟨by first | exact rfl | (simp [errW_none, errW_some] <;> rfl) | (simp [*, errW_none, errW_some] <;> rfl), by repeat (first | (with_reducible first | exact HB.out | apply below_alloc | apply pw_below_drewN | apply below_drew1) | exact HB.out)⟩
                         replace c193 := Bool.eq_false_iff.mpr c193
                         subst c193
                         rw [if_neg (show ¬ (false = true) by decide)] at H
                         as_aux_lemma =>
                          exact dead2_ H hr_
                       replace c192 := Bool.eq_false_iff.mpr c192
                       subst c192
                       rw [if_neg (show ¬ (false = true) by decide)] at H
                       as_aux_lemma =>
                        exact dead2_ H hr_
                     replace c191 := Bool.eq_false_iff.mpr c191
                     subst c191
                     rw [if_neg (show ¬ (false = true) by decide)] at H
                     as_aux_lemma =>
                      exact dead2_ H hr_
                   replace c190 := Bool.eq_false_iff.mpr c190
                   subst c190
                   rw [if_neg (show ¬ (false = true) by decide)] at H
                   as_aux_lemma =>
                    exact dead2_ H hr_
                 replace c177 := Bool.eq_false_iff.mpr c177
                 subst c177
                 rw [if_neg (show ¬ (false = true) by decide)] at H
                 as_aux_lemma =>
                 by_cases c201 : t476 = true
                 · subst c201
                   rw [if_pos rfl] at H
                   by_cases c202 : t471 = true
                   · subst c202
                     rw [if_pos rfl] at H
                     by_cases c203 : t473 = true
                     · subst c203
                       rw [if_pos rfl] at H
                       by_cases c204 : t475 = true
                       · subst c204
                         rw [if_pos rfl] at H
                         by_cases c205 : t477 = true
                         · subst c205
                           rw [if_pos rfl] at H
                           by_cases c206 : t466 = (wrap64 ((wrap64 (t472 - t470)) + 1))
                           rotate_left
                           · exact dead_ (if_neg c206) H hr_
                           rw [if_pos c206] at H
                           have c206b0 : (t466 == (wrap64 ((wrap64 (t472 - t470)) + 1))) = true := beq_iff_eq.mpr c206
                           have c206b1 : (t466 != (wrap64 ((wrap64 (t472 - t470)) + 1))) = false := bne_eq_false_iff_eq.mpr c206
                           clear c206
                           by_cases c207 : t466 < 0
                           · exact dead_ (if_pos c207) H hr_
                           rw [if_neg c207] at H
                           have c207b0 : decide (t466 < 0) = false := decide_eq_false c207
                           clear c207
                           as_aux_lemma =>
                            obtain rfl := Option.some.inj H
                            go_wp2_with (first | ((with_reducible refine gate_callee (f := 33) rfl ?_); refine goesL_ (some 579) rfl rfl Tryd.func33 (by kernel_rfl) rfl #[.slice A1 l1.length c1] rfl z10_0_ ?_; (with_reducible refine (spec_DrawCountLuckyBetween.calls kj153 _ _ l1 t464 t465 _ ?side1 ?side2 A167.out).mono ?_); (case side1 => repeat (first | exact (Kd.C_below HR1.out HB.out) | (with_reducible refine Kd.C_alloc ?_ _) | (with_reducible refine Kd.C_drewN ?_ _) | (with_reducible refine Kd.C_drew ?_))); (case side2 => exact HC1.out); rintro e w208 ⟨rfl, hb⟩; refine ⟨_, rfl, ?_⟩; have n0_ := Aside0.mk (below_step z10_1_ hb); clear HB; have HB := n0_; clear n0_; (try clear hb); (try clear hb2); (try clear hk); (try clear hi)) | ((with_reducible refine gate_callee (f := 32) rfl ?_); refine goesL_ (some 585) rfl rfl Tryd.func32 (by kernel_rfl) rfl #[.string t464, .string t465] rfl z10_0_ ?_; (with_reducible refine (impl_CountLuckyBetween.calls kj153 t464 t465 t466 true _ A168.out).mono ?_); rintro e w209 ⟨rfl, hb⟩; refine ⟨_, rfl, ?_⟩; have n0_ := Aside0.mk (below_step z10_1_ hb); clear HB; have HB := n0_; clear n0_; (try clear hb); (try clear hb2); (try clear hk); (try clear hi)) | ((with_reducible refine gate_callee (f := 34) rfl ?_); refine goesL_ (some 591) rfl rfl Tryd.func34 (by kernel_rfl) rfl #[.string t464, .string t465] rfl z10_0_ ?_; (with_reducible refine (spec_CountLuckyBetween.calls kj153 t464 t465 t468 t469 _ A169.out).mono ?_); rintro e w210 ⟨rfl, hb⟩; refine ⟨_, rfl, ?_⟩; have n0_ := Aside0.mk (below_step z10_1_ hb); clear HB; have HB := n0_; clear n0_; (try clear hb); (try clear hb2); (try clear hk); (try clear hi)) | ((with_reducible refine gate_callee (f := 17) rfl ?_); refine goesL_ (some 605) rfl rfl Tryd.func17 (by kernel_rfl) rfl #[.string t464] rfl z10_0_ ?_; (with_reducible refine (impl_RankOfLucky.calls kj153 t464 t470 true _ A173.out).mono ?_); rintro e w211 ⟨rfl, hb⟩; refine ⟨_, rfl, ?_⟩; have n0_ := Aside0.mk (below_step z10_1_ hb); clear HB; have HB := n0_; clear n0_; (try clear hb); (try clear hb2); (try clear hk); (try clear hi)) | ((with_reducible refine gate_callee (f := 17) rfl ?_); refine goesL_ (some 610) rfl rfl Tryd.func17 (by kernel_rfl) rfl #[.string t465] rfl z10_0_ ?_; (with_reducible refine (impl_RankOfLucky.calls kj153 t465 t472 true _ A174.out).mono ?_); rintro e w212 ⟨rfl, hb⟩; refine ⟨_, rfl, ?_⟩; have n0_ := Aside0.mk (below_step z10_1_ hb); clear HB; have HB := n0_; clear n0_; (try clear hb); (try clear hb2); (try clear hk); (try clear hi)) | ((with_reducible refine gate_callee (f := 16) rfl ?_); refine goesL_ (some 615) rfl rfl Tryd.func16 (by kernel_rfl) rfl #[.string t464] rfl z10_0_ ?_; (with_reducible refine (impl_IsLucky.calls kj153 t464 false true _ A175.out).mono ?_); rintro e w' ⟨rfl, ⟨nd, rfl⟩⟩; refine ⟨_, rfl, ?_⟩) | ((with_reducible refine gate_callee (f := 16) rfl ?_); refine goesL_ (some 620) rfl rfl Tryd.func16 (by kernel_rfl) rfl #[.string t465] rfl z10_0_ ?_; (with_reducible refine (impl_IsLucky.calls kj153 t465 true true _ A176.out).mono ?_); rintro e w' ⟨rfl, ⟨nd, rfl⟩⟩; refine ⟨_, rfl, ?_⟩))
                            go_ret
                            exact ⟨by first | exact rfl | (simp [errW_none, errW_some] <;> rfl) | (simp [*, errW_none, errW_some] <;> rfl), by repeat (first | (with_reducible first | exact HB.out | apply below_alloc | apply pw_below_drewN | apply below_drew1) | exact HB.out)⟩
                         replace c205 := Bool.eq_false_iff.mpr c205
                         subst c205
                         rw [if_neg (show ¬ (false = true) by decide)] at H
                         as_aux_lemma =>
                          exact dead2_ H hr_
                       replace c204 := Bool.eq_false_iff.mpr c204
                       subst c204
                       rw [if_neg (show ¬ (false = true) by decide)] at H
                       as_aux_lemma =>
                        exact dead2_ H hr_
                     replace c203 := Bool.eq_false_iff.mpr c203
                     subst c203
                     rw [if_neg (show ¬ (false = true) by decide)] at H
                     as_aux_lemma =>
                      exact dead2_ H hr_
                   replace c202 := Bool.eq_false_iff.mpr c202
                   subst c202
                   rw [if_neg (show ¬ (false = true) by decide)] at H
                   as_aux_lemma =>
                    exact dead2_ H hr_
                 replace c201 := Bool.eq_false_iff.mpr c201
                 subst c201
                 rw [if_neg (show ¬ (false = true) by decide)] at H
                 as_aux_lemma =>
                 by_cases c213 : t471 = true
                 · subst c213
                   rw [if_pos rfl] at H
                   by_cases c214 : t473 = true
                   · subst c214
                     rw [if_pos rfl] at H
                     by_cases c215 : t475 = true
                     · subst c215
                       rw [if_pos rfl] at H
                       by_cases c216 : t477 = true
                       · subst c216
                         rw [if_pos rfl] at H
                         by_cases c217 : t466 = (wrap64 (t472 - t470))
                         rotate_left
                         · exact dead_ (if_neg c217) H hr_
                         rw [if_pos c217] at H
                         have c217b0 : (t466 == (wrap64 (t472 - t470))) = true := beq_iff_eq.mpr c217
                         have c217b1 : (t466 != (wrap64 (t472 - t470))) = false := bne_eq_false_iff_eq.mpr c217
                         clear c217
                         by_cases c218 : t466 < 0
                         · exact dead_ (if_pos c218) H hr_
                         rw [if_neg c218] at H
                         have c218b0 : decide (t466 < 0) = false := decide_eq_false c218
                         clear c218
                         as_aux_lemma =>
                          obtain rfl := Option.some.inj H
                          go_wp2_with (first | ((with_reducible refine gate_callee (f := 33) rfl ?_); refine goesL_ (some 579) rfl rfl Tryd.func33 (by kernel_rfl) rfl #[.slice A1 l1.length c1] rfl z10_0_ ?_; (with_reducible refine (spec_DrawCountLuckyBetween.calls kj153 _ _ l1 t464 t465 _ ?side1 ?side2 A167.out).mono ?_); (case side1 => repeat (first | exact (Kd.C_below HR1.out HB.out) | (with_reducible refine Kd.C_alloc ?_ _) | (with_reducible refine Kd.C_drewN ?_ _) | (with_reducible refine Kd.C_drew ?_))); (case side2 => exact HC1.out); rintro e w219 ⟨rfl, hb⟩; refine ⟨_, rfl, ?_⟩; have n0_ := Aside0.mk (below_step z10_1_ hb); clear HB; have HB := n0_; clear n0_; (try clear hb); (try clear hb2); (try clear hk); (try clear hi)) | ((with_reducible refine gate_callee (f := 32) rfl ?_); refine goesL_ (some 585) rfl rfl Tryd.func32 (by kernel_rfl) rfl #[.string t464, .string t465] rfl z10_0_ ?_; (with_reducible refine (impl_CountLuckyBetween.calls kj153 t464 t465 t466 true _ A168.out).mono ?_); rintro e w220 ⟨rfl, hb⟩; refine ⟨_, rfl, ?_⟩; have n0_ := Aside0.mk (below_step z10_1_ hb); clear HB; have HB := n0_; clear n0_; (try clear hb); (try clear hb2); (try clear hk); (try clear hi)) | ((with_reducible refine gate_callee (f := 34) rfl ?_); refine goesL_ (some 591) rfl rfl Tryd.func34 (by kernel_rfl) rfl #[.string t464, .string t465] rfl z10_0_ ?_; (with_reducible refine (spec_CountLuckyBetween.calls kj153 t464 t465 t468 t469 _ A169.out).mono ?_); rintro e w221 ⟨rfl, hb⟩; refine ⟨_, rfl, ?_⟩; have n0_ := Aside0.mk (below_step z10_1_ hb); clear HB; have HB := n0_; clear n0_; (try clear hb); (try clear hb2); (try clear hk); (try clear hi)) | ((with_reducible refine gate_callee (f := 17) rfl ?_); refine goesL_ (some 605) rfl rfl Tryd.func17 (by kernel_rfl) rfl #[.string t464] rfl z10_0_ ?_; (with_reducible refine (impl_RankOfLucky.calls kj153 t464 t470 true _ A173.out).mono ?_); rintro e w222 ⟨rfl, hb⟩; refine ⟨_, rfl, ?_⟩; have n0_ := Aside0.mk (below_step z10_1_ hb); clear HB; have HB := n0_; clear n0_; (try clear hb); (try clear hb2); (try clear hk); (try clear hi)) | ((with_reducible refine gate_callee (f := 17) rfl ?_); refine goesL_ (some 610) rfl rfl Tryd.func17 (by kernel_rfl) rfl #[.string t465] rfl z10_0_ ?_; (with_reducible refine (impl_RankOfLucky.calls kj153 t465 t472 true _ A174.out).mono ?_); rintro e w223 ⟨rfl, hb⟩; refine ⟨_, rfl, ?_⟩; have n0_ := Aside0.mk (below_step z10_1_ hb); clear HB; have HB := n0_; clear n0_; (try clear hb); (try clear hb2); (try clear hk); (try clear hi)) | ((with_reducible refine gate_callee (f := 16) rfl ?_); refine goesL_ (some 615) rfl rfl Tryd.func16 (by kernel_rfl) rfl #[.string t464] rfl z10_0_ ?_; (with_reducible refine (impl_IsLucky.calls kj153 t464 false true _ A175.out).mono ?_); rintro e w' ⟨rfl, ⟨nd, rfl⟩⟩; refine ⟨_, rfl, ?_⟩) | ((with_reducible refine gate_callee (f := 16) rfl ?_); refine goesL_ (some 620) rfl rfl Tryd.func16 (by kernel_rfl) rfl #[.string t465] rfl z10_0_ ?_; (with_reducible refine (impl_IsLucky.calls kj153 t465 false true _ A176.out).mono ?_); rintro e w' ⟨rfl, ⟨nd, rfl⟩⟩; refine ⟨_, rfl, ?_⟩))
                          go_ret
                          exact ⟨by first | exact rfl | (simp [errW_none, errW_some] <;> rfl) | (simp [*, errW_none, errW_some] <;> rfl), by repeat (first | (with_reducible first | exact HB.out | apply below_alloc | apply pw_below_drewN | apply below_drew1) | exact HB.out)⟩
                       replace c216 := Bool.eq_false_iff.mpr c216
                       subst c216
                       rw [if_neg (show ¬ (false = true) by decide)] at H
                       as_aux_lemma =>
                        exact dead2_ H hr_
                     replace c215 := Bool.eq_false_iff.mpr c215
                     subst c215
                     rw [if_neg (show ¬ (false = true) by decide)] at H
                     as_aux_lemma =>
                      exact dead2_ H hr_
                   replace c214 := Bool.eq_false_iff.mpr c214
                   subst c214
                   rw [if_neg (show ¬ (false = true) by decide)] at H
                   as_aux_lemma =>
                    exact dead2_ H hr_
                 replace c213 := Bool.eq_false_iff.mpr c213
                 subst c213
                 rw [if_neg (show ¬ (false = true) by decide)] at H
                 as_aux_lemma =>
                  exact dead2_ H hr_
               replace c172 := Bool.eq_false_iff.mpr c172
               subst c172
               rw [if_neg (show ¬ (false = true) by decide)] at H
               as_aux_lemma =>
                obtain rfl := Option.some.inj H
                go_wp2_with (first | ((with_reducible refine gate_callee (f := 33) rfl ?_); refine goesL_ (some 579) rfl rfl Tryd.func33 (by kernel_rfl) rfl #[.slice A1 l1.length c1] rfl z10_0_ ?_; (with_reducible refine (spec_DrawCountLuckyBetween.calls kj153 _ _ l1 t464 t465 _ ?side1 ?side2 A167.out).mono ?_); (case side1 => repeat (first | exact (Kd.C_below HR1.out HB.out) | (with_reducible refine Kd.C_alloc ?_ _) | (with_reducible refine Kd.C_drewN ?_ _) | (with_reducible refine Kd.C_drew ?_))); (case side2 => exact HC1.out); rintro e w224 ⟨rfl, hb⟩; refine ⟨_, rfl, ?_⟩; have n0_ := Aside0.mk (below_step z10_1_ hb); clear HB; have HB := n0_; clear n0_; (try clear hb); (try clear hb2); (try clear hk); (try clear hi)) | ((with_reducible refine gate_callee (f := 32) rfl ?_); refine goesL_ (some 585) rfl rfl Tryd.func32 (by kernel_rfl) rfl #[.string t464, .string t465] rfl z10_0_ ?_; (with_reducible refine (impl_CountLuckyBetween.calls kj153 t464 t465 t466 false _ A168.out).mono ?_); rintro e w225 ⟨rfl, hb⟩; refine ⟨_, rfl, ?_⟩; have n0_ := Aside0.mk (below_step z10_1_ hb); clear HB; have HB := n0_; clear n0_; (try clear hb); (try clear hb2); (try clear hk); (try clear hi)) | ((with_reducible refine gate_callee (f := 34) rfl ?_); refine goesL_ (some 591) rfl rfl Tryd.func34 (by kernel_rfl) rfl #[.string t464, .string t465] rfl z10_0_ ?_; (with_reducible refine (spec_CountLuckyBetween.calls kj153 t464 t465 t468 t469 _ A169.out).mono ?_); rintro e w226 ⟨rfl, hb⟩; refine ⟨_, rfl, ?_⟩; have n0_ := Aside0.mk (below_step z10_1_ hb); clear HB; have HB := n0_; clear n0_; (try clear hb); (try clear hb2); (try clear hk); (try clear hi)))
                go_ret
                exact ⟨by first | exact rfl | (simp [errW_none, errW_some] <;> rfl) | (simp [*, errW_none, errW_some] <;> rfl), by repeat (first | (with_reducible first | exact HB.out | apply below_alloc | apply pw_below_drewN | apply below_drew1) | exact HB.out)⟩

/-- THE ONE PURE STATEMENT of laws_FnTicketsRanked: yours. -/
def laws_FnTicketsRanked.Pure : Prop := ∀ (l0 : List Int) (l1 : List Int), l0.length ≤ maxLen → l0.length * 1 ≤ 140737488351232 → (∀ x ∈ l0, (Lit.int .u8 x).wf = true) → l1.length ≤ maxLen → l1.length * 1 ≤ 140737488351232 → (∀ x ∈ l1, (Lit.int .u8 x).wf = true) → ∃ k, laws_FnTicketsRanked.f k l0 l1 = some true
theorem laws_FnTicketsRanked.walk (P : laws_FnTicketsRanked.Pure) (a0 : Option Addr) (len0 cap0 : Nat) (z0 : List Int) (a1 : Option Addr) (len1 cap1 : Nat) (z1 : List Int) (w : World) (hT : Shelf.TabOk w) (w0 : (a0 = none ∧ len0 = 0 ∧ cap0 = 0 ∧ z0 = []) ∨ ∃ x, a0 = some x ∧ len0 ≤ cap0 ∧ cap0 ≤ maxLen ∧ z0.length = cap0 ∧ (∀ i, i < z0.length → w.cell? (x.add i) = some (.int .u8 (z0.getD i 0))) ∧ ∀ n ∈ z0, (Lit.int .u8 n).wf = true) (y0 : len0 * 1 ≤ 140737488351232) (w1 : (a1 = none ∧ len1 = 0 ∧ cap1 = 0 ∧ z1 = []) ∨ ∃ x, a1 = some x ∧ len1 ≤ cap1 ∧ cap1 ≤ maxLen ∧ z1.length = cap1 ∧ (∀ i, i < z1.length → w.cell? (x.add i) = some (.int .u8 (z1.getD i 0))) ∧ ∀ n ∈ z1, (Lit.int .u8 n).wf = true) (y1 : len1 * 1 ≤ 140737488351232) :
 Calls Tryd.prog 3 #[.slice a0 len0 cap0, .slice a1 len1 cap1] w fun e w' => e = .returned (.bool true) ∧ Below w.heap.size w w' := by
 obtain ⟨l0, rfl, hr0, hm0, hw0, hc0⟩ := ReadsInt.ofRowC w0
 obtain ⟨l1, rfl, hr1, hm1, hw1, hc1⟩ := ReadsInt.ofRowC w1
 obtain ⟨k, h⟩ := P l0 l1 hm0 y0 hw0 hm1 y1 hw1
 refine (laws_FnTicketsRanked.calls k _ _ l0 _ _ l1 true w hT (Kd.C_of_reads (d := (0 : Int)) (h1 := fun _ => rfl) hr0) hc0 (Kd.C_of_reads (d := (0 : Int)) (h1 := fun _ => rfl) hr1) hc1 (Aside0.mk rfl) h).mono ?_
 rintro e w' ⟨rfl, hd⟩
 exact ⟨rfl, hd⟩

end Go.Proofs.YtlgpjilhjfkmbaaDoor.PFnTicketsRanked
