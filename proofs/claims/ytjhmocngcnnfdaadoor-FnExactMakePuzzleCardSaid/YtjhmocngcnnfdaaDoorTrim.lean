import Derived.Test.YtjhmocngcnnfdaaDoorProg
import Derived.Shelf.Strings.SlTrimAscii
import Derived.KernelRfl
namespace Go.Proofs.YtjhmocngcnnfdaaDoor.Shelf
open Go.Shelf Go.Lib Go.RowKit
def YtjhmocngcnnfdaaDoor.lays160_ren : Go.Shelf.Ren := ⟨fun | 160 => 137 | 232 => 166 | 231 => 165 | 227 => 167 | 234 => 169 | 233 => 168 | 236 => 171 | 235 => 170 | 228 => 202 | 271 => 205 | 151 => 204 | 197 => 203 | 120 => 232 | 152 => 231 | 260 => 230 | 137 => 246 | 119 => 247 | 224 => 241 | 225 => 240 | 217 => 239 | 266 => 250 | n => n, fun | 9 => 9 | 4 => 4 | 3 => 3 | 5 => 5 | 117 => 137 | 116 => 136 | 0 => 0 | 124 => 140 | 21 => 21 | 105 => 165 | 46 => 119 | 119 => 203 | 139 => 206 | 138 => 205 | n => n, fun | 3 => 4 | 4 => 5 | n => n⟩
theorem YtjhmocngcnnfdaaDoor.lays160 : Go.Proofs.Lays.n160 Tryd.prog YtjhmocngcnnfdaaDoor.lays160_ren := {
  mixed := by kernel_rfl
  f119 := Tryd.func247.trans (congrArg some (by kernel_rfl))
  f120 := Tryd.func232.trans (congrArg some (by kernel_rfl))
  f137 := Tryd.func246.trans (congrArg some (by kernel_rfl))
  f151 := Tryd.func204.trans (congrArg some (by kernel_rfl))
  f152 := Tryd.func231.trans (congrArg some (by kernel_rfl))
  f160 := Tryd.func137.trans (congrArg some (by kernel_rfl))
  f197 := Tryd.func203.trans (congrArg some (by kernel_rfl))
  f217 := Tryd.func239.trans (congrArg some (by kernel_rfl))
  f224 := Tryd.func241.trans (congrArg some (by kernel_rfl))
  f225 := Tryd.func240.trans (congrArg some (by kernel_rfl))
  f227 := Tryd.func167.trans (congrArg some (by kernel_rfl))
  f228 := Tryd.func202.trans (congrArg some (by kernel_rfl))
  f231 := Tryd.func165.trans (congrArg some (by kernel_rfl))
  f232 := Tryd.func166.trans (congrArg some (by kernel_rfl))
  f233 := Tryd.func168.trans (congrArg some (by kernel_rfl))
  f234 := Tryd.func169.trans (congrArg some (by kernel_rfl))
  f235 := Tryd.func170.trans (congrArg some (by kernel_rfl))
  f236 := Tryd.func171.trans (congrArg some (by kernel_rfl))
  f260 := Tryd.func230.trans (congrArg some (by kernel_rfl))
  f266 := Tryd.func250.trans (congrArg some (by kernel_rfl))
  f271 := Tryd.func205.trans (congrArg some (by kernel_rfl))
  t0 := Tryd.underlying0
  a0 := Tryd.isAgg0
  z0 := Tryd.sizeOf0
  v0 := Tryd.zeroValue0
  t3 := Tryd.underlying3
  a3 := Tryd.isAgg3
  z3 := Tryd.sizeOf3
  v3 := Tryd.zeroValue3
  t4 := Tryd.underlying4
  a4 := Tryd.isAgg4
  z4 := Tryd.sizeOf4
  v4 := Tryd.zeroValue4
  t5 := Tryd.underlying5
  a5 := Tryd.isAgg5
  z5 := Tryd.sizeOf5
  v5 := Tryd.zeroValue5
  t9 := Tryd.underlying9
  a9 := Tryd.isAgg9
  z9 := Tryd.sizeOf9
  v9 := Tryd.zeroValue9
  t21 := Tryd.underlying21
  a21 := Tryd.isAgg21
  z21 := Tryd.sizeOf21
  v21 := Tryd.zeroValue21
  t46 := Tryd.underlying119
  a46 := Tryd.isAgg119
  z46 := Tryd.sizeOf119
  v46 := Tryd.zeroValue119
  t105 := Tryd.underlying165
  a105 := Tryd.isAgg165
  z105 := Tryd.sizeOf165
  v105 := Tryd.zeroValue165
  t116 := Tryd.underlying136
  a116 := Tryd.isAgg136
  z116 := Tryd.sizeOf136
  t117 := Tryd.underlying137
  a117 := Tryd.isAgg137
  z117 := Tryd.sizeOf137
  v117 := Tryd.zeroValue137
  t119 := Tryd.underlying203
  a119 := Tryd.isAgg203
  z119 := Tryd.sizeOf203
  t124 := Tryd.underlying140
  a124 := Tryd.isAgg140
  z124 := Tryd.sizeOf140
  v124 := Tryd.zeroValue140
  t138 := Tryd.underlying205
  a138 := Tryd.isAgg205
  z138 := Tryd.sizeOf205
  v138 := Tryd.zeroValue205
  t139 := Tryd.underlying206
  a139 := Tryd.isAgg206
  z139 := Tryd.sizeOf206
  v139 := Tryd.zeroValue206
  g3 := by kernel_rfl
  g4 := by kernel_rfl }
theorem Trim (s cutset : ByteArray) (w : World) (hs : s.size ≤ 9223372036854775807) (hcs : cutset.size < 4294967281) (hascii : cutset.data.toList.all (fun b => decide (b.toNat < 128)) = true) :
    Calls Tryd.prog 137 #[.string s, .string cutset] w fun e w' => e = .returned (.string ⟨(Lib.trimS s.data.toList cutset.data.toList).toArray⟩) ∧ Below w.heap.size w w' := Any.strings_Trim_laid YtjhmocngcnnfdaaDoor.lays160 (by kernel_rfl) s cutset w hs hcs (ascii_of_all hascii)
end Go.Proofs.YtjhmocngcnnfdaaDoor.Shelf
