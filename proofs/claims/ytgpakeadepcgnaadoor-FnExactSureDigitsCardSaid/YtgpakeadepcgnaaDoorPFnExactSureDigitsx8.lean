-- Laid by this session's program gprint.py over the kit's print.
import Derived.Test.YtgpakeadepcgnaaDoorPFnExactSureDigitsx0
import Derived.Test.YtgpakeadepcgnaaDoorPFnExactSureDigitsx1
import Derived.Test.YtgpakeadepcgnaaDoorPFnExactSureDigitsx4
import Derived.Test.YtgpakeadepcgnaaDoorPFnExactSureDigitsx6
import Derived.Test.YtgpakeadepcgnaaDoorPFnExactSureDigitsx7
namespace Go.Proofs.YtgpakeadepcgnaaDoor.PFnExactSureDigits
open Go.RowKit Go.Proofs.YtgpakeadepcgnaaDoorW.PrintWords Go.Proofs.YtgpakeadepcgnaaDoorW.PrintLast Go.Proofs.YtgpakeadepcgnaaDoorW.PrintMore
attribute [local go_sem] max2_int min2_int max_two min_two max_three min_three max_four min_four   -- for this text's walks alone
set_option linter.unusedVariables false
set_option linter.unusedSimpArgs false
theorem z8_0_ {p : Prop} (h : p := by repeat (first | (with_reducible first | exact HB.out | apply below_alloc | apply pw_below_drewN | apply below_drew1 | refine below_set ?_ GE194.out) | exact HB.out)) : p := h
theorem z8_1_ {p : Prop} (h : p := by (with_reducible repeat (first | refine blk_drewN ?_ _ | refine blk_drew ?_ | refine blk_alloc ?_ _)); exact BK194.out) : p := h
theorem z8_2_ {p : Prop} (h : p := by (try simp only [List.map_toArray, List.map_cons, List.map_nil]); first | done | rfl | (simp only [List.length_drop, List.length_take]; rfl)) : p := h
theorem z8_3_ {p : Prop} (h : p := by repeat (first | (with_reducible first | exact HB.out | apply below_alloc | apply pw_below_drewN | apply below_drew1) | exact HB.out)) : p := h
theorem z8_4_ {p : Prop} (h : p := by repeat (first | (with_reducible first | exact HB.out | apply below_alloc | apply pw_below_drewN | apply below_drew1 | refine below_set ?_ GE194.out | refine below_set ?_ GE204.out) | exact HB.out)) : p := h
theorem z8_5_ {p : Prop} (h : p := by (with_reducible repeat (first | apply Kd.R_alloc | apply Kd.R_drewN | apply Kd.R_drew)); exact HO198.out) : p := h
theorem z8_6_ {p : Prop} (h : p := by (with_reducible repeat (first | apply Kd.R_alloc | apply Kd.R_drewN | apply Kd.R_drew)); exact HO203.out) : p := h

/-! ### impl_SureDigits: function 34 -/
-- behind 41 91
def impl_SureDigits.cell (h t : ByteArray) (i : Nat) (o : List Int) : List Int := if bt t (i : Int) = bt h (i : Int) then o else o.set i 63
def impl_SureDigits.row (h t : ByteArray) : Nat → Nat → List Int → List Int
 | 0, _, o => o
 | d + 1, i, o => impl_SureDigits.row h t d (i + 1) (impl_SureDigits.cell h t i o)
def impl_SureDigits.all (h : ByteArray) : List ByteArray → List Int → List Int
 | [], o => o
 | t :: r, o => impl_SureDigits.all h r (impl_SureDigits.row h t 4 0 o)
def impl_SureDigits.f (k : Nat) (l0_0 : List (S26)) : Option (ByteArray × Bool) := (impl_Solutions.f k l0_0).bind fun bt => if (bt.1.length : Int) = 0 then some ((⟨#[]⟩ : ByteArray), false) else (if bt.1.all (fun t => t.size == 4) = true then some (strOfNums (impl_SureDigits.all (rdOf ByteArray.empty bt.1 0) bt.1 (bytesOf (rdOf ByteArray.empty bt.1 0))), true) else none)
theorem impl_SureDigits.mono : ∀ a0 k, LeO (impl_SureDigits.f k a0) (impl_SureDigits.f (k + 1) a0) := by
 intro a0 k
 unfold impl_SureDigits.f
 exact LeO.bind (impl_Solutions.mono _ _) (fun _ => LeO.refl _)
theorem impl_SureDigits.succv_ (n : Nat) (h : n < 9223372036854775807) : Value.int .i64 (wrap64 ((n : Int) + 1)) = Value.int .i64 ((n + 1 : Nat) : Int) := by
 have : wrap64 ((n : Int) + 1) = ((n + 1 : Nat) : Int) := by simp [wrap64]; omega
 rw [this]
theorem impl_SureDigits.cell_len (h t : ByteArray) (i : Nat) (o : List Int) : (impl_SureDigits.cell h t i o).length = o.length := by
 unfold impl_SureDigits.cell; split <;> simp
set_option maxHeartbeats 8000000 in
set_option maxRecDepth 100000 in
theorem impl_SureDigits.calls (k : Nat) (A0_0 : Option Addr) (c0_0 : Nat) (l0_0 : List (S26)) (r1 : ByteArray) (r2 : Bool) (w : World) (hr0_0 : Kd.C k26 w A0_0 l0_0.length l0_0) (hc0_0 : l0_0.length ≤ c0_0) (h : impl_SureDigits.f k l0_0 = some (r1, r2)) :
 Calls Tryd.prog 34 #[.agg #[.slice A0_0 l0_0.length c0_0]] w fun e w' => e = .returned (.tuple #[.string r1, .bool r2]) ∧ Below w.heap.size w w' := by
 have hu := Tryd.underlying37
 have HR0 := Aside0.mk hr0_0
 have HC0 := Aside0.mk hc0_0
 have HB := Aside0.mk (Below.refl w.heap.size w)
 unfold impl_SureDigits.f at h
 obtain ⟨⟨sl, ok⟩, hs, h⟩ := Option.bind_eq_some_iff.mp h
 dsimp only at h
 have HS := Aside0.mk hs
 clear hr0_0 hc0_0 hs
 by_cases c0 : (sl.length : Int) = 0
 · rw [if_pos c0] at h
   simp only [Option.some.injEq, Prod.mk.injEq] at h
   obtain ⟨rfl, rfl⟩ := h
   have c1 : ((sl.length : Int) == 0) = true := beq_iff_eq.mpr c0
   clear c0
   go_enter Tryd.func34, Tryd.ntmps34
   go_wp2_with (first | ((with_reducible refine gate_dst (N := 1) rfl ?_); refine box_event ?hg (N := 1) ?hd (cs := #[.slice A0_0 l0_0.length c0_0]) (t := 37) ?hr ?_; (case hd => rfl); (case hg => rfl); (case hr => first | (go_simp; done) | (go_simp; rfl)); intro gb hg w4 hbox hb; have HB1 := Aside0.mk hb; have hz : w4.cell? ⟨gb, 0, none⟩ = some (.slice A0_0 l0_0.length c0_0) := (blk_cell hbox 0).trans rfl; clear hb hbox hg) | (go_at_call 41; (with_reducible refine (impl_Solutions.calls k A0_0 c0_0 l0_0 sl ok _ (Kd.C_below HR0.out HB1.out) HC0.out HS.out).mono ?_); rintro e w6 ⟨v, rfl, ho, hb⟩; have HB2 := Aside0.mk (below_step HB1.out hb); obtain ⟨AL, cL, rfl⟩ := Kd.R_slice ho; clear ho hb))
   go_ret2
   exact ⟨rfl, HB2.out⟩
 rw [if_neg c0] at h
 by_cases ha : sl.all (fun t => t.size == 4) = true
 rotate_left
 · exact none_ (if_neg ha) h
 rw [if_pos ha] at h
 simp only [Option.some.injEq, Prod.mk.injEq] at h
 obtain ⟨rfl, rfl⟩ := h
 have hp : 0 < sl.length := by omega
 have h4 : ∀ j : Nat, j < sl.length → (rdOf ByteArray.empty sl (j : Int)).size = 4 := fun j hj => by
  have := List.all_eq_true.mp ha (sl[j]) (List.getElem_mem hj)
  unfold rdOf
  rw [Int.toNat_natCast, List.getD_eq_getElem?_getD, List.getElem?_eq_getElem hj]
  exact eq_of_beq this
 have H4 := Aside0.mk h4
 have HP := Aside0.mk hp
 have c1 : ((sl.length : Int) == 0) = false := beq_eq_false_iff_ne.mpr c0
 have p0 : (0 < (sl.length : Int)) = True := eq_true (by omega)
 obtain ⟨hd, hhd⟩ : ∃ hd, hd = rdOf ByteArray.empty sl 0 := ⟨_, rfl⟩
 rw [← hhd]
 have hds : hd.size = 4 := by rw [hhd]; exact h4 0 hp
 have HHD := Aside0.mk hhd
 have HDS := Aside0.mk hds
 clear c0 ha h4 hhd hds
 go_enter Tryd.func34, Tryd.ntmps34
 go_wp2_with (first | ((with_reducible refine gate_dst (N := 1) rfl ?_); refine box_event ?hg (N := 1) ?hd (cs := #[.slice A0_0 l0_0.length c0_0]) (t := 37) ?hr ?_; (case hd => rfl); (case hg => rfl); (case hr => first | (go_simp; done) | (go_simp; rfl)); intro gb hg w4 hbox hb; have HB1 := Aside0.mk hb; have hz : w4.cell? ⟨gb, 0, none⟩ = some (.slice A0_0 l0_0.length c0_0) := (blk_cell hbox 0).trans rfl; clear hb hbox hg) | (go_at_call 41; (with_reducible refine (impl_Solutions.calls k A0_0 c0_0 l0_0 sl ok _ (Kd.C_below HR0.out HB1.out) HC0.out HS.out).mono ?_); rintro e w6 ⟨v, rfl, ho, hb⟩; have HB2 := Aside0.mk (below_step HB1.out hb); have hp' := HP.out; obtain ⟨gL, cL, rfl, hbL, hlL, clL, HGL⟩ := Kd.R_form ho hp'; have HCL := Aside0.mk (Kd.R_reads' ho).2.2; obtain ⟨ad0, e0, hx0⟩ := Kd.at_string HCL.out 0 (Int.le_refl 0) (by omega); cases e0; rw [← HHD.out] at hx0; simp only [Int.toNat_zero, add_plain] at hx0; have hcv := Lib.run_convert_string_bytes (P := Tryd.prog) w6 9 75 5 hd (u := .string) Tryd.underlying9 Tryd.underlying75 Tryd.underlying5; have hgr := grown_le w6 hd.size 5 (by have := HDS.out; omega); have hm := MR_conv w6 5 hd (by have := HDS.out; omega) w6.heap.size (Nat.le_refl _) hgr.2 hgr.1; have HBV := Aside0.mk (bytes_below (Below.refl w6.heap.size w6) (Nat.le_refl _) 5 hd); generalize Lib.bytesWorld w6 5 hd = w7 at hm HBV hcv; generalize grownCap w6 hd.size 0 5 = cap at hm hcv; have HM := Aside0.mk hm; have HSZ := Aside0.mk HB2.out.size; clear ho hb hgr hm hp' hbL hlL HGL))
 have hbl : (bytesOf hd).length = hd.size := by have := (MR_reads' HM.out).1; omega
 have hgz0 : ∃ g, w6.heap.size = g := ⟨_, rfl⟩
 obtain ⟨g, hgz⟩ := hgz0
 have HGZ := Aside0.mk hgz
 rw [hgz] at HM HBV HSZ
 clear hz hcv
 rw [hgz]
 clear hgz
 have HA0 := Aside0.mk (show impl_SureDigits.all hd (sl.drop 0) (bytesOf hd) = impl_SureDigits.all hd sl (bytesOf hd) from rfl)
 have HOL := Aside0.mk (show (bytesOf hd).length = 4 by rw [hbl]; exact HDS.out)
 have HX0 := Aside0.mk hx0
 clear hx0 hbl
 go_loopg [24] (sl.length + 1) (fun kq v24 w' => ∃ (j : Nat) (o : List Int), v24 = .int .i64 (j : Int) ∧ Aside0 (j + kq = sl.length + 1) ∧ Aside0 (o.length = 4) ∧ Aside0 (impl_SureDigits.all hd (sl.drop j) o = impl_SureDigits.all hd sl (bytesOf hd)) ∧ Aside0 (MR 5 w' g (fun _ => True) (.slice (some ⟨g, 0, none⟩) hd.size cap) o) ∧ Aside0 (Below g w6 w'))
 case atStart => exact ⟨0, _, rfl, ⟨by omega⟩, HOL, HA0, HM, HBV⟩
 case round =>
  clear HOL HA0 HM HBV
  obtain ⟨j, o, rfl, HJ, HOL, HA, HM, HBV⟩ := hrel
  by_cases c : j < sl.length
  · have d1 : decide ((j : Int) < (sl.length : Int)) = true := decide_eq_true (by omega)
    have d2 : decide (j < sl.length) = true := decide_eq_true c
    have p1 : (0 ≤ (j : Int)) = True := eq_true (by omega)
    have q1 : ((j : Int) < (sl.length : Int)) = True := eq_true (by omega)
    have hb6 : Below w6.heap.size w6 wr := by rw [HGZ.out]; exact HBV.out
    obtain ⟨ad1, e1, hx1⟩ := Kd.at_string (Kd.C_below HCL.out hb6) (j : Int) (by omega) (by omega)
    cases e1
    simp only [add_plain, Int.toNat_natCast] at hx1
    obtain ⟨T, hT⟩ : ∃ T, T = rdOf ByteArray.empty sl (j : Int) := ⟨_, rfl⟩
    rw [← hT] at hx1
    have hTs : T.size = 4 := by rw [hT]; exact H4.out j c
    have hnx : impl_SureDigits.all hd (sl.drop (j + 1)) (impl_SureDigits.row hd T 4 0 o) = impl_SureDigits.all hd sl (bytesOf hd) := by
     have h := HA.out
     rw [List.drop_eq_getElem_cons c] at h
     rw [← h, hT]
     unfold rdOf
     rw [Int.toNat_natCast, List.getD_eq_getElem?_getD, List.getElem?_eq_getElem c]
     rfl
    obtain ⟨RR, hRR⟩ : ∃ RR, impl_SureDigits.row hd T 4 0 o = RR := ⟨_, rfl⟩
    rw [hRR] at hnx
    have HRW := Aside0.mk hRR
    have HN := Aside0.mk hnx
    have HTS := Aside0.mk hTs
    have hl0 := HCL.out.2.1
    obtain ⟨gq, hgq⟩ : ∃ q, q = gk := ⟨_, rfl⟩
    subst hgq
    have HCC := Aside0.mk c
    clear HA hT hnx hb6 hTs c hRR
    go_wp2
    go_loopg [30] 5 (fun kq v30 w' => ∃ (i : Nat) (x : Int) (o2 : List Int), v30 = .int .i64 x ∧ Aside0 (x = (i : Int)) ∧ Aside0 (i + kq = 5) ∧ Aside0 (o2.length = 4) ∧ Aside0 (impl_SureDigits.row hd T (4 - i) i o2 = RR) ∧ Aside0 (MR 5 w' g (fun _ => True) (.slice (some ⟨g, 0, none⟩) hd.size cap) o2) ∧ Aside0 (Below g w6 w'))
    case atStart => exact ⟨0, 0, o, rfl, ⟨rfl⟩, ⟨by omega⟩, HOL, HRW, HM, HBV⟩
    case round =>
     clear HOL HM HBV hx1
     obtain ⟨i, x, o2, rfl, HX, HI, HOL, HR, HM, HBV⟩ := hrel
     by_cases d : i < 4
     · have hxb : 0 ≤ x ∧ x < (T.size : Int) ∧ x < (hd.size : Int) := by have := HX.out; have := HTS.out; have := HDS.out; omega
       have e1 : decide (x < (T.size : Int)) = true := decide_eq_true hxb.2.1
       have p1 : (0 ≤ x) = True := eq_true hxb.1
       have p2 : decide (0 ≤ x) = true := decide_eq_true hxb.1
       have q1 : (x < (T.size : Int)) = True := eq_true hxb.2.1
       have q2 : (x < (hd.size : Int)) = True := eq_true hxb.2.2
       have e3 : decide (x < (hd.size : Int)) = true := decide_eq_true hxb.2.2
       have hb6 : Below w6.heap.size w6 wr := by rw [HGZ.out]; exact HBV.out
       have hx0 := (hb6.cell (World.block_lt_of_cell? w6 _ HX0.out)).trans HX0.out
       have hcn := MR_celln 0 HM.out x hxb.1 hxb.2.2
       obtain ⟨hxc, hfc⟩ := hcn
       have hr := HR.out
       rw [show 4 - i = (4 - (i + 1)) + 1 by omega] at hr
       unfold impl_SureDigits.row impl_SureDigits.cell at hr
       have HID := Aside0.mk d
       rw [← HX.out] at hr
       clear hxb
       have hbT := bt_at T x
       have hbh := bt_at hd x
       by_cases hq : bt T x = bt hd x
       · have b0 : ((bt T x) == (bt hd x)) = true := beq_iff_eq.mpr hq
         have b1 : ((bt T x) != (bt hd x)) = false := bne_eq_false_iff_eq.mpr hq
         rw [if_pos hq] at hr
         have HR2 := Aside0.mk hr
         clear hr hq hb6 d
         go_wp2
         repeat (go_quiet (fail); try go_wp2)
         go_roundg (gk - 1)
         case measure => have := HI.out; have := HID.out; omega
         case rel => exact ⟨i + 1, x + 1, o2, by rw [HX.out]; exact impl_SureDigits.succv_ i (by have := HID.out; omega), ⟨by rw [HX.out]; rfl⟩, ⟨by have := HI.out; have := HID.out; omega⟩, HOL, HR2, ⟨MR_drewN HM.out _⟩, ⟨pw_below_drewN HBV.out _⟩⟩
       have b0 : ((bt T x) == (bt hd x)) = false := beq_eq_false_iff_ne.mpr hq
       have b1 : ((bt T x) != (bt hd x)) = true := bne_iff_ne.mpr hq
       rw [if_neg hq] at hr
       have HR2 := Aside0.mk hr
       clear hr hq hb6 d
       go_wp2
       repeat (go_quiet (fail); try go_wp2)
       go_roundg (gk - 1)
       case measure => have := HI.out; have := HID.out; omega
       case rel => exact ⟨i + 1, x + 1, o2.set i 63, by rw [HX.out]; exact impl_SureDigits.succv_ i (by have := HID.out; omega), ⟨by rw [HX.out]; rfl⟩, ⟨by have := HI.out; have := HID.out; omega⟩, ⟨by rw [List.length_set]; exact HOL.out⟩, HR2, ⟨by rw [show o2.set i 63 = o2.set x.toNat 63 by rw [HX.out, Int.toNat_natCast]]; exact (MR_putg (MR_drewN HM.out _) x 63).1⟩, ⟨(pw_below_drewN HBV.out _).setCell (Nat.le_refl _) _⟩⟩
     have e1 : decide (x < (T.size : Int)) = false := decide_eq_false (by have := HX.out; have := HTS.out; omega)
     have hr : o2 = RR := by
      have h := HR.out
      rw [show 4 - i = 0 by have := HI.out; omega] at h
      exact h
     have HR2 := Aside0.mk hr
     clear hr d
     go_wp2
     go_roundg (gq - 1)
     case measure => have := HJ.out; have := HCC.out; omega
     case rel => exact ⟨j + 1, o2, impl_SureDigits.succv_ j (by have := HCC.out; omega), ⟨by have := HJ.out; have := HCC.out; omega⟩, HOL, ⟨by rw [HR2.out]; exact HN.out⟩, HM, HBV⟩
  have d1 : decide ((j : Int) < (sl.length : Int)) = false := decide_eq_false (by omega)
  have d2 : decide (j < sl.length) = false := decide_eq_false c
  have hr : o = impl_SureDigits.all hd sl (bytesOf hd) := by
   have h := HA.out
   rw [List.drop_eq_nil_of_le (by omega)] at h
   exact h
  have hC : Kd.C (Kd.int .u8) wr (some ⟨g, 0, none⟩) hd.size o := by have h := MR_reads' HM.out; rw [← h.1] at h; exact h.2.2
  have hcv := Kd.C_string (P := Tryd.prog) (src := 75) (dst := 9) (e := 5) (c := cap) Tryd.underlying75 Tryd.underlying5 Tryd.underlying9 hC
  have HRR := Aside0.mk hr
  clear hr hC HA
  go_wp2
  go_ret2
  exact ⟨by rw [← HRR.out]; rfl, Below.trans HB2.out (by have h := HBV.out; have h2 := HSZ.out; rw [← HGZ.out] at h h2; exact h.mono h2)⟩

/-! ### laws_FnExactSureDigits: function 9 -/
def laws_FnExactSureDigits.f (k : Nat) (l0_0 : List (S23)) : Option (Bool) := (laws_szPuzzle.f l0_0 1048576).bind fun t195 => (if t195 < 0 then (some true) else ((laws_toPuzzle.f k l0_0).bind fun t196 => ((spec_SureDigits.f k t196).bind fun bt199 => ((laws_toPuzzle.f k l0_0).bind fun t201 => ((impl_SureDigits.f k t201).bind fun bt205 => (if bt205.1.toList = bt199.1.toList then (if (bt205.2 != bt199.2) = true then (some false) else ((laws_toPuzzle.f k l0_0).bind fun t207 => ((laws_eqPuzzle.f k t201 t207).bind fun t210 => (if t210 = true then (some true) else (some false))))) else (some false)))))))
set_option maxHeartbeats 8000000 in
set_option maxRecDepth 100000 in
theorem laws_FnExactSureDigits.calls (k : Nat) (A0_0 : Option Addr) (c0_0 : Nat) (l0_0 : List (S23)) (r : Bool) (w : World) (hr0_0 : Kd.C k23 w A0_0 l0_0.length l0_0) (hc0_0 : l0_0.length ≤ c0_0) (hr_ : Aside0 (r = true)) (h : laws_FnExactSureDigits.f k l0_0 = some r) :
 Calls Tryd.prog 9 #[.agg #[.slice A0_0 l0_0.length c0_0]] w fun e w' => e = .returned (.bool r) ∧ Below w.heap.size w w' := by
 have hu31 := Tryd.underlying31
 have hu37 := Tryd.underlying37
 have HR0_0 := Aside0.mk hr0_0
 have HC0_0 := Aside0.mk hc0_0
 clear hr0_0 hc0_0
 have HB := Aside0.mk (Below.refl w.heap.size w)
 have H : ((laws_szPuzzle.f l0_0 1048576).bind fun t195 => (if t195 < 0 then (some true) else ((laws_toPuzzle.f k l0_0).bind fun t196 => ((spec_SureDigits.f k t196).bind fun bt199 => ((laws_toPuzzle.f k l0_0).bind fun t201 => ((impl_SureDigits.f k t201).bind fun bt205 => (if bt205.1.toList = bt199.1.toList then (if (bt205.2 != bt199.2) = true then (some false) else ((laws_toPuzzle.f k l0_0).bind fun t207 => ((laws_eqPuzzle.f k t201 t207).bind fun t210 => (if t210 = true then (some true) else (some false))))) else (some false)))))))) = some r := h
 clear h
 replace H := Option.bind_eq_some_iff.mp H
 obtain ⟨t195, A20, H⟩ := H
 have A2 := Aside0.mk A20
 clear A20
 by_cases c3 : t195 < 0
 · rw [if_pos c3] at H
   have c3b0 : decide (t195 < 0) = true := decide_eq_true c3
   clear c3
   obtain rfl := Option.some.inj H
   go_enter Tryd.func9, Tryd.ntmps9
   go_wp2_with (first | ((with_reducible refine gate_dst (N := 1) rfl ?_); refine box_event ?hg (N := 1) ?hd (cs := #[.slice A0_0 l0_0.length c0_0]) (t := 31) ?hr ?_; (case hd => rfl); (case hg => rfl); (case hr => first | (go_simp; done) | (go_simp; rfl)); intro gb194 hg w4 hbox hb; have n0_ := Aside0.mk (below_step z8_3_ hb); have n1_ := Aside0.mk (hbox); have n2_ := Aside0.mk ((by rw [hg]; exact (below_size z8_3_) : w.heap.size ≤ gb194)); have n3_ := Aside0.mk ((by rw [hg]; exact (below_size z8_3_) : w.heap.size ≤ gb194)); clear HB; have HB := n0_; have BK194 := n1_; have GW194 := n2_; have GE194 := n3_; clear n0_ n1_ n2_ n3_; clear hb hbox hg; have hcz5_0 : w4.cell? ⟨gb194, 0, none⟩ = some (.slice A0_0 l0_0.length c0_0) := (blk_cell BK194.out 0).trans rfl; have hfz5_0 := blk_frozen BK194.out 0) | ((with_reducible refine gate_callee (f := 18) rfl ?_); refine goesL_ (some 11) rfl rfl Tryd.func18 (by kernel_rfl) rfl #[.agg #[.slice A0_0 l0_0.length c0_0], .int .i64 1048576] rfl z8_2_ ?_; (with_reducible refine (laws_szPuzzle.calls _ _ l0_0 1048576 t195 _ ?side1 ?side2 A2.out).mono ?_); (case side1 => repeat (first | exact (Kd.C_below HR0_0.out HB.out) | (with_reducible refine Kd.C_alloc ?_ _) | (with_reducible refine Kd.C_drewN ?_ _) | (with_reducible refine Kd.C_drew ?_))); (case side2 => exact HC0_0.out); rintro e w6 ⟨rfl, hb⟩; refine ⟨_, rfl, ?_⟩; have n0_ := Aside0.mk (blk_below (g := gb194) (o := .cells #[.slice A0_0 l0_0.length c0_0] 31 (0, 0)) z8_1_ hb); have n1_ := Aside0.mk (below_step z8_0_ hb); clear BK194; clear HB; have BK194 := n0_; have HB := n1_; clear n0_ n1_; (try clear hb); (try clear hb2); (try clear hk); (try clear hi)))
   go_ret
   exact ⟨by first | rfl | (simp [errW_none, errW_some] <;> rfl) | (simp [*, errW_none, errW_some] <;> rfl), by repeat (first | (with_reducible first | exact HB.out | apply below_alloc | apply pw_below_drewN | apply below_drew1 | refine below_set ?_ GE194.out) | exact HB.out)⟩
 rw [if_neg c3] at H
 have c3b0 : decide (t195 < 0) = false := decide_eq_false c3
 clear c3
 replace H := Option.bind_eq_some_iff.mp H
 obtain ⟨t196, A70, H⟩ := H
 have A7 := Aside0.mk A70
 clear A70
 replace H := Option.bind_eq_some_iff.mp H
 obtain ⟨⟨t199, t200⟩, A80, H⟩ := H
 dsimp only at H
 have A8 := Aside0.mk A80
 clear A80
 replace H := Option.bind_eq_some_iff.mp H
 obtain ⟨t201, A90, H⟩ := H
 have A9 := Aside0.mk A90
 clear A90
 replace H := Option.bind_eq_some_iff.mp H
 obtain ⟨⟨t205, t206⟩, A100, H⟩ := H
 dsimp only at H
 have A10 := Aside0.mk A100
 clear A100
 by_cases c11 : t205.toList = t199.toList
 rotate_left
 · exact dead_ (if_neg c11) H hr_
 rw [if_pos c11] at H
 have c11b0 : (t205.toList == t199.toList) = true := beq_iff_eq.mpr c11
 have c11b1 : (t205.toList != t199.toList) = false := bne_eq_false_iff_eq.mpr c11
 clear c11
 by_cases c12 : (t206 != t200) = true
 · exact dead_ (if_pos c12) H hr_
 rw [if_neg c12] at H
 have c12b0 : (t206 != t200) = false := by simpa using c12
 (try (have c12b1 : decide (t206 = t200) = true := by simpa using c12))
 (try (have c12b2 : (t206 == t200) = true := by simpa using c12))
 clear c12
 replace H := Option.bind_eq_some_iff.mp H
 obtain ⟨t207, A130, H⟩ := H
 have A13 := Aside0.mk A130
 clear A130
 replace H := Option.bind_eq_some_iff.mp H
 obtain ⟨t210, A140, H⟩ := H
 have A14 := Aside0.mk A140
 clear A140
 by_cases c15 : t210 = true
 · subst c15
   rw [if_pos rfl] at H
   obtain rfl := Option.some.inj H
   go_enter Tryd.func9, Tryd.ntmps9
   try go_wp2_with (first | ((with_reducible refine gate_dst (N := 1) rfl ?_); refine box_event ?hg (N := 1) ?hd (cs := #[.slice A0_0 l0_0.length c0_0]) (t := 31) ?hr ?_; (case hd => rfl); (case hg => rfl); (case hr => first | (go_simp; done) | (go_simp; rfl)); intro gb194 hg w16 hbox hb; have n0_ := Aside0.mk (below_step z8_3_ hb); have n1_ := Aside0.mk (hbox); have n2_ := Aside0.mk ((by rw [hg]; exact (below_size z8_3_) : w.heap.size ≤ gb194)); have n3_ := Aside0.mk ((by rw [hg]; exact (below_size z8_3_) : w.heap.size ≤ gb194)); clear HB; have HB := n0_; have BK194 := n1_; have GW194 := n2_; have GE194 := n3_; clear n0_ n1_ n2_ n3_; clear hb hbox hg; have hcz17_0 : w16.cell? ⟨gb194, 0, none⟩ = some (.slice A0_0 l0_0.length c0_0) := (blk_cell BK194.out 0).trans rfl; have hfz17_0 := blk_frozen BK194.out 0) | ((with_reducible refine gate_callee (f := 18) rfl ?_); refine goesL_ (some 11) rfl rfl Tryd.func18 (by kernel_rfl) rfl #[.agg #[.slice A0_0 l0_0.length c0_0], .int .i64 1048576] rfl z8_2_ ?_; (with_reducible refine (laws_szPuzzle.calls _ _ l0_0 1048576 t195 _ ?side1 ?side2 A2.out).mono ?_); (case side1 => repeat (first | exact (Kd.C_below HR0_0.out HB.out) | (with_reducible refine Kd.C_alloc ?_ _) | (with_reducible refine Kd.C_drewN ?_ _) | (with_reducible refine Kd.C_drew ?_))); (case side2 => exact HC0_0.out); rintro e w18 ⟨rfl, hb⟩; refine ⟨_, rfl, ?_⟩; have n0_ := Aside0.mk (blk_below (g := gb194) (o := .cells #[.slice A0_0 l0_0.length c0_0] 31 (0, 0)) z8_1_ hb); have n1_ := Aside0.mk (below_step z8_0_ hb); clear BK194; clear HB; have BK194 := n0_; have HB := n1_; clear n0_ n1_; (try clear hb); (try clear hb2); (try clear hk); (try clear hi); have hcz19_0 : w18.cell? ⟨gb194, 0, none⟩ = some (.slice A0_0 l0_0.length c0_0) := (blk_cell BK194.out 0).trans rfl; have hfz19_0 := blk_frozen BK194.out 0) | ((with_reducible refine gate_callee (f := 20) rfl ?_); refine goesL_ (some 16) rfl rfl Tryd.func20 (by kernel_rfl) rfl #[.agg #[.slice A0_0 l0_0.length c0_0]] rfl z8_2_ ?_; (with_reducible refine (laws_toPuzzle.calls k _ _ l0_0 t196 _ ?side1 ?side2 A7.out).mono ?_); (case side1 => repeat (first | exact (Kd.C_below HR0_0.out HB.out) | (with_reducible refine Kd.C_alloc ?_ _) | (with_reducible refine Kd.C_drewN ?_ _) | (with_reducible refine Kd.C_drew ?_))); (case side2 => exact HC0_0.out); rintro e w20 ⟨v197, rfl, ho0, hb⟩; refine ⟨_, rfl, ?_⟩; have n0_ := Aside0.mk (Kd.R_lower ho0 (below_size z8_0_)); have n1_ := Aside0.mk (blk_below (g := gb194) (o := .cells #[.slice A0_0 l0_0.length c0_0] 31 (0, 0)) z8_1_ hb); have n2_ := Aside0.mk (below_step z8_0_ hb); clear BK194; clear HB; have HO198 := n0_; have BK194 := n1_; have HB := n2_; clear n0_ n1_ n2_; (try clear hb); (try clear hb2); (try clear hk); (try clear hi); (try clear ho0); obtain ⟨Ao21, co21, eo21⟩ := Kd.R_slice HO198.out; subst eo21) | ((with_reducible refine gate_callee (f := 33) rfl ?_); refine goesL_ (some 17) rfl rfl Tryd.func33 (by kernel_rfl) rfl #[.agg #[.slice Ao21 t196.length co21]] rfl z8_2_ ?_; (with_reducible refine (spec_SureDigits.calls k _ _ t196 t199 t200 _ ?side1 ?side2 A8.out).mono ?_); (case side1 => repeat (first | exact (Kd.R_reads' HO198.out).2.2 | (with_reducible refine Kd.C_alloc ?_ _) | (with_reducible refine Kd.C_drewN ?_ _) | (with_reducible refine Kd.C_drew ?_))); (case side2 => exact (Kd.R_reads' HO198.out).2.1); rintro e w22 ⟨rfl, hb⟩; refine ⟨_, rfl, ?_⟩; have n0_ := Aside0.mk (Kd.R_below z8_5_ hb); have n1_ := Aside0.mk (blk_below (g := gb194) (o := .cells #[.slice A0_0 l0_0.length c0_0] 31 (0, 0)) z8_1_ hb); have n2_ := Aside0.mk (below_step z8_0_ hb); clear HO198; clear BK194; clear HB; have HO198 := n0_; have BK194 := n1_; have HB := n2_; clear n0_ n1_ n2_; (try clear hb); (try clear hb2); (try clear hk); (try clear hi); have hcz23_0 : w22.cell? ⟨gb194, 0, none⟩ = some (.slice A0_0 l0_0.length c0_0) := (blk_cell BK194.out 0).trans rfl; have hfz23_0 := blk_frozen BK194.out 0) | ((with_reducible refine gate_callee (f := 20) rfl ?_); refine goesL_ (some 21) rfl rfl Tryd.func20 (by kernel_rfl) rfl #[.agg #[.slice A0_0 l0_0.length c0_0]] rfl z8_2_ ?_; (with_reducible refine (laws_toPuzzle.calls k _ _ l0_0 t201 _ ?side1 ?side2 A9.out).mono ?_); (case side1 => repeat (first | exact (Kd.C_below HR0_0.out HB.out) | (with_reducible refine Kd.C_alloc ?_ _) | (with_reducible refine Kd.C_drewN ?_ _) | (with_reducible refine Kd.C_drew ?_))); (case side2 => exact HC0_0.out); rintro e w24 ⟨v202, rfl, ho0, hb⟩; refine ⟨_, rfl, ?_⟩; have n0_ := Aside0.mk (Kd.R_elder' z8_5_ (Kd.R_base ho0) hb); have n1_ := Aside0.mk (Kd.R_lower (Kd.R_new' ho0 (Kd.R_lt z8_5_)) (below_size z8_0_)); have n2_ := Aside0.mk (blk_below (g := gb194) (o := .cells #[.slice A0_0 l0_0.length c0_0] 31 (0, 0)) z8_1_ hb); have n3_ := Aside0.mk (below_step z8_0_ hb); clear HO198; clear BK194; clear HB; have HO198 := n0_; have HO203 := n1_; have BK194 := n2_; have HB := n3_; clear n0_ n1_ n2_ n3_; (try clear hb); (try clear hb2); (try clear hk); (try clear hi); (try clear ho0)) | ((with_reducible refine gate_dst (N := 6) rfl ?_); refine box_event ?hg (N := 6) ?hd (cs := #[.slice none 0 0]) (t := 37) ?hr ?_; (case hd => rfl); (case hg => rfl); (case hr => first | (go_simp; done) | (go_simp; rfl)); intro gb204 hg w25 hbox hb; have n0_ := Aside0.mk (Kd.R_below z8_5_ hb); have n1_ := Aside0.mk (Kd.R_below z8_6_ hb); have n2_ := Aside0.mk (blk_below (g := gb194) (o := .cells #[.slice A0_0 l0_0.length c0_0] 31 (0, 0)) z8_1_ hb); have n3_ := Aside0.mk (below_step z8_0_ hb); have n4_ := Aside0.mk (hbox); have n5_ := Aside0.mk ((by rw [hg]; exact (below_size z8_0_) : w.heap.size ≤ gb204)); have n6_ := Aside0.mk ((by rw [hg]; exact (below_size z8_0_) : w.heap.size ≤ gb204)); have n7_ := Aside0.mk ((by rw [hg]; exact Nat.ne_of_lt (blk_lt (g := gb194) (o := .cells #[.slice A0_0 l0_0.length c0_0] 31 (0, 0)) z8_1_) : gb194 ≠ gb204)); have n8_ := Aside0.mk ((by rw [hg]; exact Nat.ne_of_gt (blk_lt (g := gb194) (o := .cells #[.slice A0_0 l0_0.length c0_0] 31 (0, 0)) z8_1_) : gb204 ≠ gb194)); clear HO198; clear HO203; clear BK194; clear HB; have HO198 := n0_; have HO203 := n1_; have BK194 := n2_; have HB := n3_; have BK204 := n4_; have GW204 := n5_; have GE204 := n6_; have NB194_204 := n7_; have NB204_194 := n8_; clear n0_ n1_ n2_ n3_ n4_ n5_ n6_ n7_ n8_; clear hb hbox hg; obtain ⟨Ao26, co26, eo26⟩ := Kd.R_slice HO203.out; subst eo26; have hnb27 := NB204_194.out; have hnc27 := NB194_204.out; have hcz28_0 : w25.cell? ⟨gb204, 0, none⟩ = some (.slice none 0 0) := (blk_cell BK204.out 0).trans rfl; have hfz28_0 := blk_frozen BK204.out 0) | ((with_reducible refine gate_callee (f := 34) rfl ?_); refine goesL_ (some 24) rfl rfl Tryd.func34 (by kernel_rfl) rfl #[.agg #[.slice Ao26 t201.length co26]] rfl z8_2_ ?_; (with_reducible refine (impl_SureDigits.calls k _ _ t201 t205 t206 _ ?side1 ?side2 A10.out).mono ?_); (case side1 => refine (Kd.R_reads' (e := 26) (base := w.heap.size) (ok := fun k_ => (True ∧ some k_ ≠ (.slice Ao21 t196.length co21 : Value).ownBlock)) (n := t201.length) (c := co26) ?_).2.2; exact (by (with_reducible repeat (first | apply Kd.R_alloc | apply Kd.R_drewN | apply Kd.R_drew)); exact (Kd.R_mono (Kd.R_far (p := ⟨gb204, 0, none⟩) (Kd.R_types HO203.out BK204.out (by decide)) (fun _ hk => hk.2) (.slice Ao26 t201.length co26)) (fun _ h_ => h_.1)))); (case side2 => exact (Kd.R_reads' HO203.out).2.1); rintro e w29 ⟨rfl, hb⟩; refine ⟨_, rfl, ?_⟩; have n0_ := Aside0.mk (Kd.R_below (by (with_reducible repeat (first | apply Kd.R_alloc | apply Kd.R_drewN | apply Kd.R_drew)); exact (Kd.R_mono (Kd.R_far (p := ⟨gb204, 0, none⟩) (Kd.R_types HO198.out BK204.out (by decide)) (fun _ hk => hk.2) (.slice Ao26 t201.length co26)) (fun _ h_ => h_.1))) hb); have n1_ := Aside0.mk (Kd.R_below (by (with_reducible repeat (first | apply Kd.R_alloc | apply Kd.R_drewN | apply Kd.R_drew)); exact (Kd.R_mono (Kd.R_far (p := ⟨gb204, 0, none⟩) (Kd.R_types HO203.out BK204.out (by decide)) (fun _ hk => hk.2) (.slice Ao26 t201.length co26)) (fun _ h_ => h_.1))) hb); have n2_ := Aside0.mk (blk_below (g := gb194) (o := .cells #[.slice A0_0 l0_0.length c0_0] 31 (0, 0)) (by (with_reducible repeat (first | refine blk_drewN ?_ _ | refine blk_drew ?_ | refine blk_alloc ?_ _)); refine blk_far ?_ NB194_204.out _; (with_reducible repeat (first | refine blk_drewN ?_ _ | refine blk_drew ?_ | refine blk_alloc ?_ _)); exact BK194.out) hb); have n3_ := Aside0.mk (blk_below (g := gb204) (o := .cells #[.slice Ao26 t201.length co26] 37 (0, 0)) (by (with_reducible repeat (first | refine blk_drewN ?_ _ | refine blk_drew ?_ | refine blk_alloc ?_ _)); refine blk_put (cs := #[.slice none 0 0]) ?_ 0 _ rfl; (with_reducible repeat (first | refine blk_drewN ?_ _ | refine blk_drew ?_ | refine blk_alloc ?_ _)); exact BK204.out) hb); have n4_ := Aside0.mk (below_step z8_4_ hb); clear HO198; clear HO203; clear BK194; clear BK204; clear HB; have HO198 := n0_; have HO203 := n1_; have BK194 := n2_; have BK204 := n3_; have HB := n4_; clear n0_ n1_ n2_ n3_ n4_; (try clear hb); (try clear hb2); (try clear hk); (try clear hi)))
   have n0_ := Aside0.mk (Kd.R_drew HO198.out)
   have n1_ := Aside0.mk (Kd.R_drew HO203.out)
   have n2_ := Aside0.mk (blk_drew BK194.out)
   have n3_ := Aside0.mk (blk_drew BK204.out)
   have n4_ := Aside0.mk (below_drew1 HB.out)
   clear HO198
   clear HO203
   clear BK194
   clear BK204
   clear HB
   have HO198 := n0_
   have HO203 := n1_
   have BK194 := n2_
   have BK204 := n3_
   have HB := n4_
   clear n0_ n1_ n2_ n3_ n4_
   refine start_ (n := 5) (S := fun w' => w'.cell? ⟨gb204, 0, none⟩ = some (.slice Ao26 t201.length co26) ∧ w'.cell? ⟨gb194, 0, none⟩ = some (.slice A0_0 l0_0.length c0_0)) (ds := []) #[false, false, false, false, false] (by kernel_rfl) rfl rfl ⟨(blk_cell BK204.out 0).trans rfl, (blk_cell BK194.out 0).trans rfl⟩ (fun hHeld => ?_)
   generalize w29.drew = w30 at HO198 HO203 BK194 BK204 HB hHeld ⊢
   refine take_ (i := 0) (N := some 35) (v := ?_) (a' := ?_) #[true, false, false, false, false] rfl rfl (by kernel_rfl) (fun _ _ _ h => h) (Or.inl ⟨by rfl, ?_⟩) hHeld ?_ ?_
   rotate_left
   · rintro w' ⟨s0, s1⟩
     go_simp
     with_reducible rfl
   rotate_left
   · simp only [Act.put, List.setIfInBounds_toArray, List.set_cons_zero, List.set_cons_succ, i64_w, i32_w]
     rfl
   refine take_ (i := 1) (N := some 36) (v := ?_) (a' := ?_) #[true, true, false, false, false] rfl rfl (by kernel_rfl) (fun _ _ _ h => h) (Or.inl ⟨by rfl, ?_⟩) hHeld ?_ ?_
   rotate_left
   · rintro w' ⟨s0, s1⟩
     go_simp
     with_reducible rfl
   rotate_left
   · simp only [Act.put, List.setIfInBounds_toArray, List.set_cons_zero, List.set_cons_succ, i64_w, i32_w]
     rfl
   refine one_ (i := 2) (N := some 37) #[true, true, true, false, false] rfl rfl (by kernel_rfl) (by decide) (fun K hK => ?_)
   refine goes_ Tryd.func20 (by kernel_rfl) rfl #[.agg #[.slice A0_0 l0_0.length c0_0]] (by rfl) rfl rfl z8_2_ ?_
   with_reducible refine (laws_toPuzzle.calls k _ _ l0_0 t207 _ ?side1 ?side2 A13.out).mono ?_
   (case side1 => repeat (first | exact (Kd.C_below HR0_0.out HB.out) | (with_reducible refine Kd.C_alloc ?_ _) | (with_reducible refine Kd.C_drewN ?_ _) | (with_reducible refine Kd.C_drew ?_)))
   (case side2 => exact HC0_0.out)
   rintro e w31 ⟨v208, rfl, ho0, hb⟩
   refine ⟨_, rfl, ?_⟩
   have n0_ := Aside0.mk (Kd.R_elder' z8_5_ (Kd.R_base ho0) hb)
   have n1_ := Aside0.mk (Kd.R_elder' z8_6_ (Kd.R_base ho0) hb)
   have n2_ := Aside0.mk (Kd.R_lower (Kd.R_new' (Kd.R_new' ho0 (Kd.R_lt z8_5_)) (Kd.R_lt z8_6_)) (below_size z8_4_))
   have n3_ := Aside0.mk (blk_below (g := gb194) (o := .cells #[.slice A0_0 l0_0.length c0_0] 31 (0, 0)) z8_1_ hb)
   have n4_ := Aside0.mk (blk_below (g := gb204) (o := .cells #[.slice Ao26 t201.length co26] 37 (0, 0)) (by (with_reducible repeat (first | refine blk_drewN ?_ _ | refine blk_drew ?_ | refine blk_alloc ?_ _)); exact BK204.out) hb)
   have n5_ := Aside0.mk (below_step z8_4_ hb)
   clear HO198
   clear HO203
   clear BK194
   clear BK204
   clear HB
   have HO198 := n0_
   have HO203 := n1_
   have HO209 := n2_
   have BK194 := n3_
   have BK204 := n4_
   have HB := n5_
   clear n0_ n1_ n2_ n3_ n4_ n5_
   (try clear hb)
   (try clear hb2)
   (try clear hk)
   (try clear hi)
   (try clear ho0)
   obtain ⟨Ao32, co32, eo32⟩ := Kd.R_slice HO209.out
   (first | subst eo32 | (injection eo32 with f1_ f2_ f3_; have f4_ := f1_.symm; have f5_ := f3_.symm; clear f1_ f2_ f3_; subst f4_; subst f5_))
   refine hK.out _ _ ⟨(blk_cell BK204.out 0).trans rfl, (blk_cell BK194.out 0).trans rfl⟩ (fun hHeld => ?_)
   clear hK K
   refine norm_ (a' := ?_) ?_ ?_
   rotate_left
   · show Act.put _ (some 37) _ = _
     simp only [Act.put, List.setIfInBounds_toArray, List.set_cons_zero, List.set_cons_succ, i64_w, i32_w]
     rfl
   refine one_ (i := 3) (N := some 38) #[true, true, true, true, false] rfl rfl (by kernel_rfl) (by decide) (fun K hK => ?_)
   refine goes_ Tryd.func22 (by kernel_rfl) rfl #[.agg #[.slice Ao26 t201.length co26], .agg #[.slice Ao32 t207.length co32]] (by rfl) rfl rfl z8_2_ ?_
   with_reducible refine (laws_eqPuzzle.calls k _ _ t201 _ _ t207 true _ ?side1 ?side2 ?side3 ?side4 A14.out).mono ?_
   (case side1 => repeat (first | exact (Kd.R_reads' HO203.out).2.2 | (with_reducible refine Kd.C_alloc ?_ _) | (with_reducible refine Kd.C_drewN ?_ _) | (with_reducible refine Kd.C_drew ?_)))
   (case side2 => exact (Kd.R_reads' HO203.out).2.1)
   (case side3 => repeat (first | exact (Kd.R_reads' HO209.out).2.2 | (with_reducible refine Kd.C_alloc ?_ _) | (with_reducible refine Kd.C_drewN ?_ _) | (with_reducible refine Kd.C_drew ?_)))
   (case side4 => exact (Kd.R_reads' HO209.out).2.1)
   rintro e w33 ⟨rfl, hb⟩
   refine ⟨_, rfl, ?_⟩
   have n0_ := Aside0.mk (Kd.R_below z8_5_ hb)
   have n1_ := Aside0.mk (Kd.R_below z8_6_ hb)
   have n2_ := Aside0.mk (Kd.R_below (by (with_reducible repeat (first | apply Kd.R_alloc | apply Kd.R_drewN | apply Kd.R_drew)); exact HO209.out) hb)
   have n3_ := Aside0.mk (blk_below (g := gb194) (o := .cells #[.slice A0_0 l0_0.length c0_0] 31 (0, 0)) z8_1_ hb)
   have n4_ := Aside0.mk (blk_below (g := gb204) (o := .cells #[.slice Ao26 t201.length co26] 37 (0, 0)) (by (with_reducible repeat (first | refine blk_drewN ?_ _ | refine blk_drew ?_ | refine blk_alloc ?_ _)); exact BK204.out) hb)
   have n5_ := Aside0.mk (below_step z8_4_ hb)
   clear HO198
   clear HO203
   clear HO209
   clear BK194
   clear BK204
   clear HB
   have HO198 := n0_
   have HO203 := n1_
   have HO209 := n2_
   have BK194 := n3_
   have BK204 := n4_
   have HB := n5_
   clear n0_ n1_ n2_ n3_ n4_ n5_
   (try clear hb)
   (try clear hb2)
   (try clear hk)
   (try clear hi)
   refine hK.out _ _ ⟨(blk_cell BK204.out 0).trans rfl, (blk_cell BK194.out 0).trans rfl⟩ (fun hHeld => ?_)
   clear hK K
   refine norm_ (a' := ?_) ?_ ?_
   rotate_left
   · show Act.put _ (some 38) _ = _
     simp only [Act.put, List.setIfInBounds_toArray, List.set_cons_zero, List.set_cons_succ, i64_w, i32_w]
     rfl
   refine pure_ (i := 4) (N := some 39) (v := ?_) (a' := ?_) #[true, true, true, true, true] rfl rfl (by kernel_rfl) (fun _ _ _ h => h) (Or.inl ⟨by rfl, ?_⟩) ?_ ?_
   rotate_left
   · intro w'
     go_simp
     with_reducible rfl
   rotate_left
   · simp only [Act.put, List.setIfInBounds_toArray, List.set_cons_zero, List.set_cons_succ, i64_w, i32_w]
     rfl
   refine done_ (by kernel_rfl) ?_
   try go_wp2
   go_ret
   exact ⟨by first | rfl | (simp [errW_none, errW_some] <;> rfl) | (simp [*, errW_none, errW_some] <;> rfl), by repeat (first | (with_reducible first | exact HB.out | apply below_alloc | apply pw_below_drewN | apply below_drew1 | refine below_set ?_ GE194.out | refine below_set ?_ GE204.out) | exact HB.out)⟩
 replace c15 := Bool.eq_false_iff.mpr c15
 subst c15
 rw [if_neg (show ¬ (false = true) by decide)] at H
 exact Bool.noConfusion ((Option.some.inj H).trans hr_.out)

end Go.Proofs.YtgpakeadepcgnaaDoor.PFnExactSureDigits
