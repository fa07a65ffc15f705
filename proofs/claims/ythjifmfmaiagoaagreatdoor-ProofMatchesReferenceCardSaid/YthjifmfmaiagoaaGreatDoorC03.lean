/- C03: texts S0 H6 H7 H8 H9 H11 H10. -/
import Derived.Ground.Names2Prog
import Derived.Ground.SlgnProg
import Derived.Ground.SlsfProg
import Derived.Laws.BytesArg
import Derived.Laws.OwnMore
import Derived.Lib.AppendStr
import Derived.LoopIn
import Derived.LoopNIn
import Derived.Maps.OwnIn
import Derived.OwnWalkIn
import Derived.RangeFuncBox
import Derived.RangeFuncFrom
import Derived.RangeFuncLeaves
import Derived.RegionIn
import Derived.Shelf.RegionOpen
import Derived.Shelf.SlSortCmp.HeapSort1
import Derived.Shelf.SlSortCmp.Insertion
import Derived.Shelf.SlSortCmp.Insertion1
import Derived.Shelf.SlSortCmp.NoneTotal
import Derived.Shelf.SlSortCmp.Whole1
import Derived.Shelf.Slices.Cells
import Derived.Shelf.Slices.Clone
import Derived.Shelf.Slices.CompactI
import Derived.Shelf.SlicesE.Clone
import Derived.Shelf.Sort.Plain
import Derived.Shelf.Strconv.Itoa1
import Derived.TacticsInMore
import Derived.Test.YthjifmfmaiagoaaGreatDoorC02
import Derived.Test.YthjifmfmaiagoaaGreatDoorProg
set_option linter.all false

/-
  DERIVED: THE SHELF's CONTRACTS AT THIS DUMP, IN PLAIN WORDS (tools/lay-plain.mjs out of 'TryzShelf.lean', which tools/lay-shelf.mjs wrote): THE SAME DECLARATIONS UNDER THE SAME NAMES: 'import', 'namespace', 'open', 'def', 'theorem' AND NOTHING ELSE: no command of the shelf's: FOR A HAND-IN. Each laying: the table of numbers ('.._ren') and one theorem, a field a fact of the dump's own or the kernel's comparison; each contract: ONE APPLICATION.
-/
namespace Go.Proofs
open Go.Shelf
def Tryz.lays283_ren : Go.Shelf.Ren := ⟨fun | 283 => 264 | n => n, fun | 3 => 3 | 9 => 9 | 4 => 4 | n => n, fun | n => n⟩
theorem Tryz.lays283 : Go.Proofs.Lays.n283 Tryz.prog Tryz.lays283_ren := {
  mixed := by kernel_rfl
  f283 := Tryz.func264.trans (congrArg some (by kernel_rfl))
  t3 := Tryz.underlying3
  a3 := Tryz.isAgg3
  z3 := Tryz.sizeOf3
  v3 := Tryz.zeroValue3
  t4 := Tryz.underlying4
  a4 := Tryz.isAgg4
  z4 := Tryz.sizeOf4
  v4 := Tryz.zeroValue4
  t9 := Tryz.underlying9
  a9 := Tryz.isAgg9
  z9 := Tryz.sizeOf9
  v9 := Tryz.zeroValue9 }
open Go.Lib in
/-- internal/strconv.small: "small returns the string for an i with 0 <= i < nSmalls.": i's decimal numeral. The world is as it was. (LAID: no walk: one application.) -/
theorem Tryz.internal_strconv_small (i : Nat) (h : i < 100) (w : World) :
    Calls Tryz.prog 264 #[.int .i64 i] w fun e w' => e = .returned (.string ⟨(Lib.decDigits i).toArray⟩) ∧ w' = w := Any.internal_strconv_small Tryz.lays283 i h w
def Tryz.lays189_ren : Go.Shelf.Ren := ⟨fun | 189 => 167 | 125 => 207 | 257 => 206 | 128 => 238 | 129 => 239 | 294 => 230 | 295 => 231 | 296 => 232 | 297 => 233 | 298 => 234 | 299 => 235 | 216 => 187 | 300 => 236 | 301 => 237 | 328 => 252 | 329 => 253 | 330 => 254 | 331 => 255 | 332 => 256 | 215 => 217 | 343 => 262 | n => n, fun | 28 => 22 | 3 => 3 | 46 => 60 | 0 => 0 | 51 => 192 | 53 => 58 | 4 => 4 | 183 => 186 | 182 => 185 | 131 => 114 | 5 => 5 | 9 => 9 | 218 => 199 | 222 => 203 | 228 => 208 | 229 => 209 | n => n, fun | n => n⟩
theorem Tryz.lays189 : Go.Proofs.Lays.n189 Tryz.prog Tryz.lays189_ren := {
  mixed := by kernel_rfl
  f125 := Tryz.func207.trans (congrArg some (by kernel_rfl))
  f128 := Tryz.func238.trans (congrArg some (by kernel_rfl))
  f129 := Tryz.func239.trans (congrArg some (by kernel_rfl))
  f189 := Tryz.func167.trans (congrArg some (by kernel_rfl))
  f215 := Tryz.func217.trans (congrArg some (by kernel_rfl))
  f216 := Tryz.func187.trans (congrArg some (by kernel_rfl))
  f257 := Tryz.func206.trans (congrArg some (by kernel_rfl))
  f294 := Tryz.func230.trans (congrArg some (by kernel_rfl))
  f295 := Tryz.func231.trans (congrArg some (by kernel_rfl))
  f296 := Tryz.func232.trans (congrArg some (by kernel_rfl))
  f297 := Tryz.func233.trans (congrArg some (by kernel_rfl))
  f298 := Tryz.func234.trans (congrArg some (by kernel_rfl))
  f299 := Tryz.func235.trans (congrArg some (by kernel_rfl))
  f300 := Tryz.func236.trans (congrArg some (by kernel_rfl))
  f301 := Tryz.func237.trans (congrArg some (by kernel_rfl))
  f328 := Tryz.func252.trans (congrArg some (by kernel_rfl))
  f329 := Tryz.func253.trans (congrArg some (by kernel_rfl))
  f330 := Tryz.func254.trans (congrArg some (by kernel_rfl))
  f331 := Tryz.func255.trans (congrArg some (by kernel_rfl))
  f332 := Tryz.func256.trans (congrArg some (by kernel_rfl))
  f343 := Tryz.func262.trans (congrArg some (by kernel_rfl))
  t0 := Tryz.underlying0
  a0 := Tryz.isAgg0
  z0 := Tryz.sizeOf0
  v0 := Tryz.zeroValue0
  t3 := Tryz.underlying3
  a3 := Tryz.isAgg3
  z3 := Tryz.sizeOf3
  v3 := Tryz.zeroValue3
  t4 := Tryz.underlying4
  a4 := Tryz.isAgg4
  z4 := Tryz.sizeOf4
  v4 := Tryz.zeroValue4
  t5 := Tryz.underlying5
  a5 := Tryz.isAgg5
  z5 := Tryz.sizeOf5
  v5 := Tryz.zeroValue5
  t9 := Tryz.underlying9
  a9 := Tryz.isAgg9
  z9 := Tryz.sizeOf9
  v9 := Tryz.zeroValue9
  t28 := Tryz.underlying22
  a28 := Tryz.isAgg22
  z28 := Tryz.sizeOf22
  v28 := Tryz.zeroValue22
  t46 := Tryz.underlying60
  a46 := Tryz.isAgg60
  z46 := Tryz.sizeOf60
  v46 := Tryz.zeroValue60
  t51 := Tryz.underlying192
  a51 := Tryz.isAgg192
  z51 := Tryz.sizeOf192
  v51 := Tryz.zeroValue192
  t53 := Tryz.underlying58
  a53 := Tryz.isAgg58
  z53 := Tryz.sizeOf58
  v53 := Tryz.zeroValue58
  t131 := Tryz.underlying114
  a131 := Tryz.isAgg114
  z131 := Tryz.sizeOf114
  v131 := Tryz.zeroValue114
  t182 := Tryz.underlying185
  a182 := Tryz.isAgg185
  z182 := Tryz.sizeOf185
  v182 := Tryz.zeroValue185
  t183 := Tryz.underlying186
  a183 := Tryz.isAgg186
  z183 := Tryz.sizeOf186
  v183 := Tryz.zeroValue186
  t218 := Tryz.underlying199
  a218 := Tryz.isAgg199
  z218 := Tryz.sizeOf199
  v218 := Tryz.zeroValue199
  t222 := Tryz.underlying203
  a222 := Tryz.isAgg203
  z222 := Tryz.sizeOf203
  v222 := Tryz.zeroValue203
  t228 := Tryz.underlying208
  a228 := Tryz.isAgg208
  z228 := Tryz.sizeOf208
  v228 := Tryz.zeroValue208
  t229 := Tryz.underlying209
  a229 := Tryz.isAgg209
  z229 := Tryz.sizeOf209
  v229 := Tryz.zeroValue209 }
open Go.Sort Go.RowKit in
theorem Tryz.slices_Sort_int (blk off cap : Nat) (zs : List Int) (w : World) (hH : Holds (Value.int .i64) w blk off zs.toArray) (hblk : blk < w.heap.size) (hsz : zs.length < 4611686018427387904) :
    Calls Tryz.prog 167 #[.slice (some ⟨blk, off, none⟩) zs.length cap] w fun e w' =>
      e = .returned (.tuple #[]) ∧ ∃ n os, w' = grow (putRow (Value.int .i64) (Sort.ahead w n) blk off (zs.mergeSort fun x y => decide (x ≤ y)).toArray) os := Any.slices_Sort_int Tryz.lays189 blk off cap zs w hH hblk hsz
def Tryz.laysNm215_ren : Go.Shelf.Ren := ⟨fun | 15 => 221 | n => n, fun | 22 => 22 | 3 => 3 | 4 => 4 | n => n, fun | n => n⟩
theorem Tryz.laysNm215 : Go.Proofs.Lays2.n15 Tryz.prog Tryz.laysNm215_ren := {
  mixed := by kernel_rfl
  f15 := Tryz.func221.trans (congrArg some (by kernel_rfl))
  t3 := Tryz.underlying3
  a3 := Tryz.isAgg3
  z3 := Tryz.sizeOf3
  v3 := Tryz.zeroValue3
  t4 := Tryz.underlying4
  a4 := Tryz.isAgg4
  z4 := Tryz.sizeOf4
  v4 := Tryz.zeroValue4
  t22 := Tryz.underlying22
  a22 := Tryz.isAgg22
  z22 := Tryz.sizeOf22
  v22 := Tryz.zeroValue22
  i3 := by kernel_rfl }
open Go.RowKit Go.Lib in
/-- slices.Clone at []int: "Clone returns a copy of the slice. The elements are copied using assignment, so this is a shallow clone. The result may have additional unused capacity. The result preserves the nilness of s.": OF A SLICE THAT IS NOT nil IT RETURNS A SLICE THAT IS NOT nil, OF THE SAME ELEMENTS, IN MEMORY OF THE CALL's OWN: in the how-to's words (6f): 'w'.ownsRow B e 1 v' n cells': v' begins at the head of a row among the blocks from B on (B: the heap's size at the call), not frozen, whose first cells are the elements · 'Below B w w'': below B all is as it was. The capacity is whatever the run-time gives. 'zs': what the cells behind the slice's address hold; 'zs.take n': its elements. (LAID: no walk: one application.) -/
theorem Tryz.slices_Clone_int (b off n c : Nat) (zs : List Int) (w : World) (hz : n ≤ zs.length) (hbig : n * 8 ≤ 140737488355328) (hc : ∀ j, j < zs.length → w.cell? ⟨b, off + j, none⟩ = some (.int .i64 (zs.getD j 0))) :
    Calls Tryz.prog 221 #[.slice (some ⟨b, off, none⟩) n c] w fun e w' => ∃ v', e = .returned v' ∧ w'.ownsRow w.heap.size 3 1 v' n ((zs.take n).map (Value.int .i64)) ∧ v' ≠ .slice none 0 0 ∧ Below w.heap.size w w' := Any.slices_Clone_int Tryz.laysNm215 b off n c zs w hz hbig hc
open Go.RowKit Go.Lib in
/-- The same at nil: nil comes back; the world is as it was. (LAID: no walk: one application.) -/
theorem Tryz.slices_Clone_int_nil (n c : Nat) (w : World) :
    Calls Tryz.prog 221 #[.slice none n c] w fun e w' => e = .returned (.slice none 0 0) ∧ w' = w := Any.slices_Clone_int_nil Tryz.laysNm215 n c w
open Go.RowKit Go.Lib in
/-- The same at a slice of length 0 that is not nil, WHATEVER ITS ADDRESS (no cell is asked for): a slice that is not nil and owns nothing comes back. (LAID: no walk: one application.) -/
theorem Tryz.slices_Clone_int_zero (a : Addr) (c : Nat) (w : World) :
    Calls Tryz.prog 221 #[.slice (some a) 0 c] w fun e w' => ∃ v', e = .returned v' ∧ w'.ownsRow w.heap.size 3 1 v' 0 [] ∧ v' ≠ .slice none 0 0 ∧ Below w.heap.size w w' := Any.slices_Clone_int_zero Tryz.laysNm215 a c w
def Tryz.laysNm220_ren : Go.Shelf.Ren := ⟨fun | 20 => 222 | n => n, fun | 22 => 22 | 3 => 3 | 4 => 4 | 0 => 0 | n => n, fun | n => n⟩
theorem Tryz.laysNm220 : Go.Proofs.Lays2.n20 Tryz.prog Tryz.laysNm220_ren := {
  mixed := by kernel_rfl
  f20 := Tryz.func222.trans (congrArg some (by kernel_rfl))
  t0 := Tryz.underlying0
  a0 := Tryz.isAgg0
  z0 := Tryz.sizeOf0
  v0 := Tryz.zeroValue0
  t3 := Tryz.underlying3
  a3 := Tryz.isAgg3
  z3 := Tryz.sizeOf3
  v3 := Tryz.zeroValue3
  t4 := Tryz.underlying4
  a4 := Tryz.isAgg4
  z4 := Tryz.sizeOf4
  v4 := Tryz.zeroValue4
  t22 := Tryz.underlying22
  a22 := Tryz.isAgg22
  z22 := Tryz.sizeOf22
  v22 := Tryz.zeroValue22
  i3 := by kernel_rfl }
open Go.RowKit Go.Lib Go.Sort in
/-- slices.Compact at []int, over an array: the library's two loops are walked. (LAID: no walk: one application.) -/
theorem Tryz.slices_Compact_int_arr (blk off cap : Nat) (d : Array Int) (w : World) (hH : Holds encI w blk off d) (hsz : d.size ≤ 9223372036854775807) (hcap : d.size ≤ cap) :
    Calls Tryz.prog 222 #[.slice (some ⟨blk, off, none⟩) d.size cap] w fun e w' => e = .returned (.slice (some ⟨blk, off, none⟩) (compactUpTo d d.size).length cap) ∧ ∃ q, w' = putRow encI (Sort.ahead w q) blk off (compactUpTo d d.size ++ List.replicate (d.size - (compactUpTo d d.size).length) 0).toArray := Any.slices_Compact_int_arr Tryz.laysNm220 blk off cap d w hH hsz hcap
open Go.RowKit Go.Lib Go.Sort in
/-- slices.Compact at []int: "Compact replaces consecutive runs of equal elements with a single copy. This is like the uniq command found on Unix. Compact modifies the contents of the slice s and returns the modified slice, which may have a smaller length. Compact zeroes the elements between the new length and the original length. The result preserves the nilness of s.": IT RETURNS THE SLICE CUT TO 'Lib.compact zs'; ITS CELLS HOLD 'Lib.compact zs', THEN ZERO VALUES up to the old length; all else is as it was, but for the count of draws. IN THE WORDS OF slices.Sort's CONTRACT ('Holds', 'putRow'): so the everyday 'slices.Sort(xs); xs = slices.Compact(xs)' goes from the one contract to the other. It asks 'zs.length ≤ cap' (every slice's: the reslicing 's[:k]' looks at it). Length 0, nil: '.._empty'. (LAID: no walk: one application.) -/
theorem Tryz.slices_Compact_int (blk off cap : Nat) (zs : List Int) (w : World) (hH : Holds (Value.int .i64) w blk off zs.toArray) (hsz : zs.length ≤ 9223372036854775807) (hcap : zs.length ≤ cap) :
    Calls Tryz.prog 222 #[.slice (some ⟨blk, off, none⟩) zs.length cap] w fun e w' => e = .returned (.slice (some ⟨blk, off, none⟩) (Lib.compact zs).length cap) ∧ ∃ q, w' = putRow (Value.int .i64) (Sort.ahead w q) blk off (Lib.compact zs ++ List.replicate (zs.length - (Lib.compact zs).length) 0).toArray := Any.slices_Compact_int Tryz.laysNm220 blk off cap zs w hH hsz hcap
open Go.RowKit Go.Lib Go.Sort in
/-- The same at a slice of length 0, a nil one too: it comes back as it is. (LAID: no walk: one application.) -/
theorem Tryz.slices_Compact_int_empty (a : Option Addr) (cap : Nat) (w : World) :
    Calls Tryz.prog 222 #[.slice a 0 cap] w fun e w' => e = .returned (.slice a 0 cap) ∧ w' = w := Any.slices_Compact_int_empty Tryz.laysNm220 a cap w
def Tryz.laysSlE041_f152_ren : Go.Shelf.Ren := ⟨fun | 41 => 152 | n => n, fun | 22 => 109 | 23 => 4 | 4 => 4 | n => n, fun | n => n⟩
theorem Tryz.laysSlE041_f152 : Go.Proofs.SlLaysE0.n41 Tryz.prog Tryz.laysSlE041_f152_ren := {
  mixed := by kernel_rfl
  f41 := ⟨Tryz.f152.name, by decide, Tryz.func152.trans (congrArg some (by kernel_rfl))⟩
  t4 := Tryz.underlying4
  a4 := Tryz.isAgg4
  z4 := Tryz.sizeOf4
  v4 := Tryz.zeroValue4
  t22 := Tryz.underlying109
  a22 := Tryz.isAgg109
  z22 := Tryz.sizeOf109
  v22 := Tryz.zeroValue109 }
open Go.RowKit Go.Lib in
/-- slices.Clone: "Clone returns a copy of the slice. The elements are copied using assignment, so this is a shallow clone. The result may have additional unused capacity. The result preserves the nilness of s.": OF A SLICE THAT IS NOT nil IT RETURNS A SLICE THAT IS NOT nil, OF THE SAME CELLS, IN MEMORY OF THE CALL's OWN ('ownsRow': the how-to's 6f); below the heap's size at the call all is as it was. (LAID AT THE INSTANCE 'slices.Clone[[]bool,bool]': no walk: one application.) -/
theorem Tryz.slices_Clone_f152 (i0 : TypeInfo) (z : Value) (size bytes : Nat) (hi : Tryz.prog.info? 4 = some i0) (hz0 : i0.zero = some z) (hz1 : i0.size = size) (hz2 : i0.bytes = bytes) (hzs : z.cells.size = size) (hsz : 0 < size) (z23 : ∀ w, (Go.sizeOf 4).run Tryz.prog w = .ok size w) (b off n c : Nat) (news : List Value) (w : World) (hl : news.length = n * size) (hn : n ≤ maxLen) (hbig : n * bytes ≤ 140737488355328) (hc : ∀ j u, news[j]? = some u → w.cell? ⟨b, off + j, none⟩ = some u) (h1 : ∀ u ∈ news, u.oneCell' = true) :
    Calls Tryz.prog 152 #[.slice (some ⟨b, off, none⟩) n c] w fun e w' => ∃ v', e = .returned v' ∧ w'.ownsRow w.heap.size 4 size v' n news ∧ v' ≠ .slice none 0 0 ∧ Below w.heap.size w w' := AnyE.slices_Clone Tryz.laysSlE041_f152 i0 z size bytes hi hz0 hz1 hz2 hzs hsz z23 b off n c news w hl hn hbig hc h1
def Tryz.laysSlF20_f241_ren : Go.Shelf.Ren := ⟨fun | 20 => 241 | n => n, fun | 24 => 22 | 22 => 23 | 3 => 3 | 25 => 170 | 4 => 4 | 0 => 0 | n => n, fun | n => n⟩
theorem Tryz.laysSlF20_f241 : Go.Proofs.SlLaysF.n20 Tryz.prog Tryz.laysSlF20_f241_ren := {
  mixed := by kernel_rfl
  f20 := ⟨Tryz.f241.name, by decide, Tryz.func241.trans (congrArg some (by kernel_rfl))⟩
  t0 := Tryz.underlying0
  a0 := Tryz.isAgg0
  z0 := Tryz.sizeOf0
  v0 := Tryz.zeroValue0
  t3 := Tryz.underlying3
  a3 := Tryz.isAgg3
  z3 := Tryz.sizeOf3
  v3 := Tryz.zeroValue3
  t4 := Tryz.underlying4
  a4 := Tryz.isAgg4
  z4 := Tryz.sizeOf4
  v4 := Tryz.zeroValue4
  t22 := Tryz.underlying23
  a22 := Tryz.isAgg23
  z22 := Tryz.sizeOf23
  v22 := Tryz.zeroValue23
  a24 := Tryz.isAgg22
  z24 := Tryz.sizeOf22
  t25 := Tryz.underlying170
  a25 := Tryz.isAgg170
  z25 := Tryz.sizeOf170
  v25 := Tryz.zeroValue170 }
open Go.RowKit Go.Lib Go.Sort in
theorem Tryz.insertionSortCmpFunc_one {α : Type} [Inhabited α] (enc : α → Value) (hO : OneCell enc) (cf : α → α → Int) (g : Nat) (cb : Array Value) (blk off cap a b : Nat) (d : Array α) (w : World) (eg : ∀ args w, (callFunc g args).run Tryz.prog w = .ok (.enter g args) w) (hcmp : CmpReads Tryz.prog g cb enc cf blk off d.size w) (hH : Holds enc w blk off d) (hab : a ≤ b) (hb : b ≤ d.size) (hsz : d.size < 4611686018427387904) :
    Calls Tryz.prog 241 #[.slice (some ⟨blk, off, none⟩) d.size cap, .int .i64 a, .int .i64 b, .func (.func g) #[] cb] w fun e w' =>
      e = .returned (.tuple #[]) ∧ ∃ n, w' = (putRow enc w blk off (Sort.insertionSort (ltOf cf) d a b)).drewN n := Any.insertionSortCmpFunc_one Tryz.laysSlF20_f241 enc hO cf g cb blk off cap a b d w eg hcmp hH hab hb hsz
def Tryz.laysSlF21_f245_ren : Go.Shelf.Ren := ⟨fun | 21 => 245 | 46 => 259 | n => n, fun | 24 => 22 | 22 => 23 | 3 => 3 | 25 => 170 | 4 => 4 | 0 => 0 | n => n, fun | n => n⟩
theorem Tryz.laysSlF21_f245 : Go.Proofs.SlLaysF.n21 Tryz.prog Tryz.laysSlF21_f245_ren := {
  mixed := by kernel_rfl
  f21 := ⟨Tryz.f245.name, by decide, Tryz.func245.trans (congrArg some (by kernel_rfl))⟩
  f46 := ⟨Tryz.f259.name, by decide, Tryz.func259.trans (congrArg some (by kernel_rfl))⟩
  t0 := Tryz.underlying0
  a0 := Tryz.isAgg0
  z0 := Tryz.sizeOf0
  v0 := Tryz.zeroValue0
  t3 := Tryz.underlying3
  a3 := Tryz.isAgg3
  z3 := Tryz.sizeOf3
  v3 := Tryz.zeroValue3
  t4 := Tryz.underlying4
  a4 := Tryz.isAgg4
  z4 := Tryz.sizeOf4
  v4 := Tryz.zeroValue4
  t22 := Tryz.underlying23
  a22 := Tryz.isAgg23
  z22 := Tryz.sizeOf23
  v22 := Tryz.zeroValue23
  a24 := Tryz.isAgg22
  z24 := Tryz.sizeOf22
  t25 := Tryz.underlying170
  a25 := Tryz.isAgg170
  z25 := Tryz.sizeOf170
  v25 := Tryz.zeroValue170 }
open Go.RowKit Go.Lib Go.Sort in
/-- slices.heapSortCmpFunc at elements of one cell. (LAID AT THE INSTANCE 'slices.heapSortCmpFunc[[]int]': no walk: one application.) -/
theorem Tryz.heapSortCmpFunc {α : Type} [Inhabited α] (enc : α → Value) (cf : α → α → Int) (g : Nat) (cb : Array Value) (blk off cap a b : Nat) (d0 d : Array α) (w0 w : World) (eg : ∀ args w, (callFunc g args).run Tryz.prog w = .ok (.enter g args) w) (hcmp : CmpLays1 Tryz.prog g cb enc cf blk off d0.size w0) (R : Row1 enc w0 blk off d0) (hs : d0.size = d.size) (S : SW enc w0 blk off d w) (hab : a ≤ b) (hb : b ≤ d.size) (hsz : d.size < 4611686018427387904) :
    Calls Tryz.prog 245 #[.slice (some ⟨blk, off, none⟩) d.size cap, .int .i64 a, .int .i64 b, .func (.func g) #[] cb] w fun e w' =>
      e = .returned (.tuple #[]) ∧ SW enc w0 blk off (heapSort (ltOf cf) d a b) w' := Any.heapSortCmpFunc Tryz.laysSlF21_f245 enc cf g cb blk off cap a b d0 d w0 w eg hcmp R hs S hab hb hsz
open Go.RowKit Go.Lib Go.Sort in
/-- slices.insertionSortCmpFunc at elements of one cell: from a world of the sort's to a world of the sort's. (LAID AT THE INSTANCE 'slices.insertionSortCmpFunc[[]int]': no walk: one application.) -/
theorem Tryz.insertionSortCmpFunc_s {α : Type} [Inhabited α] (enc : α → Value) (cf : α → α → Int) (g : Nat) (cb : Array Value) (blk off cap a b : Nat) (d0 d : Array α) (w0 w : World) (eg : ∀ args w, (callFunc g args).run Tryz.prog w = .ok (.enter g args) w) (hcmp : CmpLays1 Tryz.prog g cb enc cf blk off d0.size w0) (R : Row1 enc w0 blk off d0) (hs : d0.size = d.size) (S : SW enc w0 blk off d w) (hab : a ≤ b) (hb : b ≤ d.size) (hsz : d.size < 4611686018427387904) :
    Calls Tryz.prog 241 #[.slice (some ⟨blk, off, none⟩) d.size cap, .int .i64 a, .int .i64 b, .func (.func g) #[] cb] w fun e w' => e = .returned (.tuple #[]) ∧ SW enc w0 blk off (Sort.insertionSort (ltOf cf) d a b) w' := Any.insertionSortCmpFunc_s Tryz.laysSlF20_f241 enc cf g cb blk off cap a b d0 d w0 w eg hcmp R hs S hab hb hsz
def Tryz.laysSlF6_f202_ren : Go.Shelf.Ren := ⟨fun | 6 => 202 | 15 => 207 | 14 => 228 | 28 => 238 | 29 => 239 | 20 => 241 | 21 => 245 | 22 => 246 | 23 => 247 | 24 => 248 | 25 => 249 | 26 => 250 | 27 => 251 | 46 => 259 | 47 => 253 | 48 => 254 | 49 => 260 | 50 => 261 | 57 => 268 | n => n, fun | 22 => 23 | 24 => 22 | 25 => 170 | 3 => 3 | 39 => 60 | 0 => 0 | 53 => 192 | 55 => 58 | 4 => 4 | 46 => 186 | 45 => 185 | 50 => 114 | 5 => 5 | 9 => 9 | 66 => 199 | 70 => 203 | 76 => 208 | 77 => 209 | n => n, fun | n => n⟩
theorem Tryz.laysSlF6_f202 : Go.Proofs.SlLaysF.n6 Tryz.prog Tryz.laysSlF6_f202_ren := {
  mixed := by kernel_rfl
  f6 := ⟨Tryz.f202.name, by decide, Tryz.func202.trans (congrArg some (by kernel_rfl))⟩
  f14 := ⟨Tryz.f228.name, by decide, Tryz.func228.trans (congrArg some (by kernel_rfl))⟩
  f15 := Tryz.func207.trans (congrArg some (by kernel_rfl))
  f20 := ⟨Tryz.f241.name, by decide, Tryz.func241.trans (congrArg some (by kernel_rfl))⟩
  f21 := ⟨Tryz.f245.name, by decide, Tryz.func245.trans (congrArg some (by kernel_rfl))⟩
  f22 := ⟨Tryz.f246.name, by decide, Tryz.func246.trans (congrArg some (by kernel_rfl))⟩
  f23 := ⟨Tryz.f247.name, by decide, Tryz.func247.trans (congrArg some (by kernel_rfl))⟩
  f24 := ⟨Tryz.f248.name, by decide, Tryz.func248.trans (congrArg some (by kernel_rfl))⟩
  f25 := ⟨Tryz.f249.name, by decide, Tryz.func249.trans (congrArg some (by kernel_rfl))⟩
  f26 := ⟨Tryz.f250.name, by decide, Tryz.func250.trans (congrArg some (by kernel_rfl))⟩
  f27 := ⟨Tryz.f251.name, by decide, Tryz.func251.trans (congrArg some (by kernel_rfl))⟩
  f28 := Tryz.func238.trans (congrArg some (by kernel_rfl))
  f29 := Tryz.func239.trans (congrArg some (by kernel_rfl))
  f46 := ⟨Tryz.f259.name, by decide, Tryz.func259.trans (congrArg some (by kernel_rfl))⟩
  f47 := Tryz.func253.trans (congrArg some (by kernel_rfl))
  f48 := Tryz.func254.trans (congrArg some (by kernel_rfl))
  f49 := ⟨Tryz.f260.name, by decide, Tryz.func260.trans (congrArg some (by kernel_rfl))⟩
  f50 := ⟨Tryz.f261.name, by decide, Tryz.func261.trans (congrArg some (by kernel_rfl))⟩
  f57 := ⟨Tryz.f268.name, by decide, Tryz.func268.trans (congrArg some (by kernel_rfl))⟩
  t0 := Tryz.underlying0
  a0 := Tryz.isAgg0
  z0 := Tryz.sizeOf0
  v0 := Tryz.zeroValue0
  t3 := Tryz.underlying3
  a3 := Tryz.isAgg3
  z3 := Tryz.sizeOf3
  v3 := Tryz.zeroValue3
  t4 := Tryz.underlying4
  a4 := Tryz.isAgg4
  z4 := Tryz.sizeOf4
  v4 := Tryz.zeroValue4
  t5 := Tryz.underlying5
  a5 := Tryz.isAgg5
  z5 := Tryz.sizeOf5
  v5 := Tryz.zeroValue5
  t9 := Tryz.underlying9
  a9 := Tryz.isAgg9
  z9 := Tryz.sizeOf9
  v9 := Tryz.zeroValue9
  t22 := Tryz.underlying23
  a22 := Tryz.isAgg23
  z22 := Tryz.sizeOf23
  v22 := Tryz.zeroValue23
  a24 := Tryz.isAgg22
  z24 := Tryz.sizeOf22
  t25 := Tryz.underlying170
  a25 := Tryz.isAgg170
  z25 := Tryz.sizeOf170
  v25 := Tryz.zeroValue170
  t39 := Tryz.underlying60
  a39 := Tryz.isAgg60
  z39 := Tryz.sizeOf60
  v39 := Tryz.zeroValue60
  t45 := Tryz.underlying185
  a45 := Tryz.isAgg185
  z45 := Tryz.sizeOf185
  v45 := Tryz.zeroValue185
  t46 := Tryz.underlying186
  a46 := Tryz.isAgg186
  z46 := Tryz.sizeOf186
  v46 := Tryz.zeroValue186
  t50 := Tryz.underlying114
  a50 := Tryz.isAgg114
  z50 := Tryz.sizeOf114
  v50 := Tryz.zeroValue114
  t53 := Tryz.underlying192
  a53 := Tryz.isAgg192
  z53 := Tryz.sizeOf192
  v53 := Tryz.zeroValue192
  t55 := Tryz.underlying58
  a55 := Tryz.isAgg58
  z55 := Tryz.sizeOf58
  v55 := Tryz.zeroValue58
  t66 := Tryz.underlying199
  a66 := Tryz.isAgg199
  z66 := Tryz.sizeOf199
  v66 := Tryz.zeroValue199
  t70 := Tryz.underlying203
  a70 := Tryz.isAgg203
  z70 := Tryz.sizeOf203
  v70 := Tryz.zeroValue203
  t76 := Tryz.underlying208
  a76 := Tryz.isAgg208
  z76 := Tryz.sizeOf208
  v76 := Tryz.zeroValue208
  t77 := Tryz.underlying209
  a77 := Tryz.isAgg209
  z77 := Tryz.sizeOf209
  v77 := Tryz.zeroValue209 }
open Go.RowKit Go.Lib Go.Sort in
/-- **slices.SortFunc: WHAT THE ROW HOLDS, TO THE ELEMENT.** (LAID AT THE INSTANCE 'slices.SortFunc[[][]int,[]int]': no walk: one application.) -/
theorem Tryz.slices_SortFunc_eq {α : Type} [Inhabited α] (enc : α → Value) (h1 : OneCell enc) (cf : α → α → Int) (hO : SWO (ltOf cf)) (g : Nat) (cb : Array Value) (blk off cap : Nat) (d : Array α) (w : World) (eg : ∀ args w, (callFunc g args).run Tryz.prog w = .ok (.enter g args) w) (hcmp : CmpLays1 Tryz.prog g cb enc cf blk off d.size w) (hH : Holds enc w blk off d) (hblk : blk < w.heap.size) (hsz : d.size < 4611686018427387904) :
    Calls Tryz.prog 202 #[.slice (some ⟨blk, off, none⟩) d.size cap, .func (.func g) #[] cb] w fun e w' =>
      e = .returned (.tuple #[]) ∧ ∃ n os, w' = sortWorld enc w blk off n (pdq (ltOf cf) d 0 d.size (Lib.bitLen d.size) true true) os := Any.slices_SortFunc_eq Tryz.laysSlF6_f202 enc h1 cf hO g cb blk off cap d w eg hcmp hH hblk hsz
open Go.RowKit Go.Lib Go.Sort in
/-- **slices.SortFunc, IN THE DOCUMENTATION's OWN TERMS: A PERMUTATION OF WHAT THE ROW HELD, SORTED BY 'cmp(a, b) < 0'.** Which of two equals comes first is left open ("The sort is not guaranteed to be stable"). (LAID AT THE INSTANCE 'slices.SortFunc[[][]int,[]int]': no walk: one application.) -/
theorem Tryz.slices_SortFunc {α : Type} [Inhabited α] (enc : α → Value) (h1 : OneCell enc) (cf : α → α → Int) (hO : SWO (ltOf cf)) (g : Nat) (cb : Array Value) (blk off cap : Nat) (d : Array α) (w : World) (eg : ∀ args w, (callFunc g args).run Tryz.prog w = .ok (.enter g args) w) (hcmp : CmpLays1 Tryz.prog g cb enc cf blk off d.size w) (hH : Holds enc w blk off d) (hblk : blk < w.heap.size) (hsz : d.size < 4611686018427387904) :
    Calls Tryz.prog 202 #[.slice (some ⟨blk, off, none⟩) d.size cap, .func (.func g) #[] cb] w fun e w' =>
      e = .returned (.tuple #[]) ∧ ∃ d' n os, PermIn 0 d.size d d' ∧ SortedIn (ltOf cf) 0 d.size d' ∧ w' = sortWorld enc w blk off n d' os := Any.slices_SortFunc Tryz.laysSlF6_f202 enc h1 cf hO g cb blk off cap d w eg hcmp hH hblk hsz
end Go.Proofs

/- hyper.set at a list that is increasing already: a new slice that reads as the same list. -/
namespace Go.Proofs.YthjifmfmaiagoaaGreatDoor
open Go.RowKit Go.Sort

theorem RI.addr {w : World} {A : Option Addr} {n c : Nat} {l : List Int} (h : RI w A n c l) (h0 : 0 < n) : ∃ b off, A = some ⟨b, off, none⟩ ∧ ∀ j, j < n → w.cell? ⟨b, off + j, none⟩ = some (.int .i64 (nth l j)) := by
  obtain ⟨⟨b, off, spot⟩, ha, hc⟩ := h.cell 0 h0
  have hs : spot = none := by
    have e : (⟨b, off, spot⟩ : Addr).add 0 = ⟨b, off, spot⟩ := rfl
    rw [e] at hc
    unfold World.cell? at hc
    split at hc
    · cases spot with
      | none => rfl
      | some s => simp at hc
    · simp at hc
  subst hs
  refine ⟨b, off, ha, fun j hj => ?_⟩
  obtain ⟨ad, e, hc⟩ := h.cell j hj
  rw [ha] at e
  cases e
  have e : (⟨b, off, none⟩ : Addr).add j = ⟨b, off + j, none⟩ := by
    unfold Addr.add
    split
    · rename_i h0
      subst h0
      rfl
    · rfl
  rwa [e] at hc
theorem add_none (b off i : Nat) : (⟨b, off, none⟩ : Addr).add i = ⟨b, off + i, none⟩ := by
  unfold Addr.add
  split
  · rename_i h0
    subst h0
    rfl
  · rfl
/-- A row of numbers of the call's own. -/
theorem own_nums {w : World} {base n : Nat} {v : Value} {l : List Int} (h : w.ownsRow base 3 1 v n (l.map (Value.int .i64))) (h0 : 0 < n) :
    ∃ g cap, v = .slice (some ⟨g, 0, none⟩) n cap ∧ base ≤ g ∧ g < w.heap.size ∧ RI w (some ⟨g, 0, none⟩) n cap l ∧ Holds (Value.int .i64) w g 0 l.toArray := by
  obtain ⟨hl, h | ⟨g, cap, cur, rfl, hg, hh, hn, hm, hsz, ht⟩⟩ := h
  · omega
  · rw [List.length_map, Nat.mul_one] at hl
    rw [Nat.mul_one] at hsz ht
    have hgs : g < w.heap.size := (Array.getElem?_eq_some_iff.1 hh).1
    have cell : ∀ j, j < n → w.cell? ⟨g, j, none⟩ = some (.int .i64 (nth l j)) ∧ w.frozen? ⟨g, j, none⟩ = false := by
      intro j hj
      refine ⟨?_, by simp [World.frozen?, hh]⟩
      simp only [World.cell?, hh]
      have e1 : (cur.toList.take n)[j]? = cur[j]? := by
        rw [List.getElem?_take, if_pos hj]
        simp
      show cur[j]? = _
      rw [← e1, ht, List.getElem?_map, List.getElem?_eq_getElem (by omega), nth_eq (by omega)]
      rfl
    refine ⟨g, cap, rfl, hg, hgs, ⟨hl, hn, by simp only [maxLen] at hm; omega, fun i hi => ⟨_, rfl, ?_⟩⟩, fun j hj => ?_⟩
    · rw [add_none, Nat.zero_add]
      exact (cell i hi).1
    · simp only [List.size_toArray] at hj
      rw [Nat.zero_add]
      have := cell j (by omega)
      rw [nth_eq (by omega : j < l.length)] at this
      rw [getElem!_pos _ j (by simpa using hj)]
      exact ⟨by simpa using this.1, this.2⟩
theorem inc_mergeSort {l : List Int} (h : Inc l) : (l.mergeSort fun x y => decide (x ≤ y)) = l := by
  apply List.mergeSort_of_pairwise
  exact List.Pairwise.imp (fun h => by simp; omega) h
theorem inc_compact {l : List Int} (h : Inc l) : Lib.compact l = l := by
  unfold Lib.compact Lib.compactUpTo
  have hk : ∀ j, j < l.length → l.toArray[j]! = nth l j := fun j hj => by
    rw [getElem!_pos _ j (by simpa using hj), nth_eq hj]
    simp
  have e : (List.range l.length).filter (Lib.keeps l.toArray) = List.range l.length := by
    rw [List.filter_eq_self]
    intro j hj
    have hj := List.mem_range.1 hj
    rcases Nat.eq_zero_or_pos j with h0 | h0
    · exact Lib.keeps_lt_one _ j (by omega)
    · apply Lib.keeps_pos
      rw [hk j hj, hk (j - 1) (by omega)]
      have := (inc_iff l).1 h (j - 1) j (by omega) hj
      omega
  rw [e]
  refine List.ext_getElem (by simp) fun i h1 h2 => ?_
  rw [List.getElem_map, List.getElem_range, hk i h2, nth_eq h2]
theorem ext_grow (w : World) (n : Nat) (os : Array Obj) : Ext w (grow (Go.Sort.ahead w n) os) :=
  ⟨rfl, rfl, rfl, by show w.heap.size ≤ (w.heap ++ os).size; rw [Array.size_append]; omega, fun _ hj => heap_grow_old (Go.Sort.ahead w n) os hj⟩

/-- What hyper.set leaves. -/
def SetDone (n : Nat) (l : List Int) (w : World) (e : Ending) (w' : World) : Prop :=
  ∃ g cap, e = .returned (.slice (some ⟨g, 0, none⟩) n cap) ∧ RI w' (some ⟨g, 0, none⟩) n cap l ∧ w.heap.size ≤ g ∧ Ext w w'
set_option maxHeartbeats 1000000 in
theorem set_any (A : Option Addr) (n c : Nat) (l : List Int) (w : World) (hr : RI w A n c l) (h0 : 0 < n) (hbig : n ≤ 1000) (hs : Inc l) :
    Calls Tryz.prog 197 #[.slice A n c] w (SetDone n l w) := by
  obtain ⟨b, off, rfl, hc⟩ := hr.addr h0
  have hl := hr.len
  have h1 := Tryz.slices_Clone_int b off n c l w (by omega) (by omega) (fun j hj => hc j (by omega))
  have e1 : l.take n = l := List.take_of_length_le (by omega)
  rw [e1] at h1
  have h2 : ∀ g cap W, RI W (some ⟨g, 0, none⟩) n cap l → Holds (Value.int .i64) W g 0 l.toArray → g < W.heap.size → Calls Tryz.prog 167 #[.slice (some ⟨g, 0, none⟩) n cap] W fun e w' => e = .returned (.tuple #[]) ∧ Ext W w' ∧ Holds (Value.int .i64) w' g 0 l.toArray := by
    intro g cap W hR hH hg
    have h := Tryz.slices_Sort_int g 0 cap l W hH hg (by omega)
    rw [hl, inc_mergeSort hs] at h
    refine h.mono fun e w' ⟨he, k, os, hw⟩ => ⟨he, ?_, ?_⟩
    · rw [hw, putRow_self _ _ _ _ _ (show Holds (Value.int .i64) (Go.Sort.ahead W k) g 0 l.toArray from hH)]
      exact ext_grow W k os
    · rw [hw, putRow_self _ _ _ _ _ (show Holds (Value.int .i64) (Go.Sort.ahead W k) g 0 l.toArray from hH)]
      intro j hj
      have hx := hH j hj
      exact ⟨(cell?_grow _ os _ hg).trans hx.1, by
        have hf : (grow (Go.Sort.ahead W k) os).frozen? ⟨g, 0 + j, none⟩ = (Go.Sort.ahead W k).frozen? ⟨g, 0 + j, none⟩ := World.frozen?_of_block (heap_grow_old (Go.Sort.ahead W k) os hg)
        rw [hf]
        exact hx.2⟩
  have h3 : ∀ g cap W, n ≤ cap → Holds (Value.int .i64) W g 0 l.toArray → Calls Tryz.prog 222 #[.slice (some ⟨g, 0, none⟩) n cap] W fun e w' => e = .returned (.slice (some ⟨g, 0, none⟩) n cap) ∧ Ext W w' := by
    intro g cap W hcap hH
    have h := Tryz.slices_Compact_int g 0 cap l W hH (by omega) (by omega)
    rw [inc_compact hs, hl, Nat.sub_self, List.replicate_zero, List.append_nil] at h
    refine h.mono fun e w' ⟨he, q, hw⟩ => ⟨he, ?_⟩
    rw [hw, putRow_self _ _ _ _ _ (show Holds (Value.int .i64) (Go.Sort.ahead W q) g 0 l.toArray from hH)]
    exact ⟨rfl, rfl, rfl, Nat.le_refl _, fun _ _ => rfl⟩
  have H1 := hid h1
  have H2 := hid h2
  have H3 := hid h3
  clear h1 h2 h3 hc hr e1 hl hs
  go_enter Tryz.func197, Tryz.ntmps197
  go_wp2_with fail
  refine H1.out.mono ?_
  rintro e w1 ⟨v', rfl, hown, hne, hb⟩
  obtain ⟨g, cap, rfl, hg, hgs, hR, hH⟩ := own_nums hown h0
  have HB : Hid (Ext w w1) := hb
  have HR := hid hR
  have HH := hid hH
  clear hb hR hH hne hown
  go_wp2_with fail
  refine (H2.out g cap _ HR.out HH.out hgs).mono ?_
  rintro e w2 ⟨rfl, hb2, hH2⟩
  have HB2 := hid hb2
  have HH2 := hid hH2
  clear hb2 hH2
  go_wp2_with fail
  refine (H3.out g cap _ HR.out.cap HH2.out).mono ?_
  rintro e w3 ⟨rfl, hb3⟩
  have HB3 := hid hb3
  clear hb3
  go_wp2
  go_ret
  exact ⟨g, cap, rfl, (HR.out.ext HB2.out).ext HB3.out, hg, (HB.out.trans HB2.out).trans HB3.out⟩
end Go.Proofs.YthjifmfmaiagoaaGreatDoor

/- hyper.text at numbers from 0 to 99: their decimal numerals, each followed by a blank. -/
namespace Go.Proofs.YthjifmfmaiagoaaGreatDoor
open Go.RowKit

def bcells (xs : List UInt8) : List Value := xs.map fun b => Value.int .u8 b.toNat
theorem bcells_length (xs : List UInt8) : (bcells xs).length = xs.length := by simp [bcells]
theorem bcells_append (xs ys : List UInt8) : bcells (xs ++ ys) = bcells xs ++ bcells ys := by simp [bcells]
theorem strCells_mk (xs : List UInt8) : Lib.strCells ⟨xs.toArray⟩ = bcells xs := by simp [Lib.strCells, bcells]
theorem size_mk (xs : List UInt8) : (⟨xs.toArray⟩ : ByteArray).size = xs.length := by simp [ByteArray.size]
theorem info5 : (Tryz.prog.info? 5).map (fun i => (i.zero, i.size, i.bytes)) = some (some (.int .u8 0), 1, 1) := by kernel_rfl
theorem info3' : (Tryz.prog.info? 3).map (fun i => (i.zero, i.size, i.bytes)) = some (some (.int .i64 0), 1, 8) := by kernel_rfl

/-- What an append to a row of bytes of the call's own leaves. -/
def Bytes (B : Nat) (w : World) (sv : Value) (ys : List UInt8) (e : Ending) (w' : World) : Prop :=
  ∃ v', e = .returned v' ∧ w'.ownsRow B 5 1 v' ys.length (bcells ys) ∧ w.grownBy w' sv.ownBlock

set_option maxRecDepth 100000 in
set_option maxHeartbeats 1000000 in
theorem f258_any (B : Nat) (sv : Value) (xs : List UInt8) (u : Nat) (w : World) (hu : u < 100) (hown : w.ownsRow B 5 1 sv xs.length (bcells xs)) (hB : B ≤ w.heap.size) (hl : xs.length ≤ 1000000) :
    Calls Tryz.prog 258 #[sv, .int .u64 u, .int .i64 10] w (Bytes B w sv (xs ++ Lib.decDigits u)) := by
  obtain ⟨i0, hi, hz⟩ := Option.map_eq_some_iff.1 info5
  simp only [Prod.mk.injEq] at hz
  obtain ⟨hz0, hz1, hz2⟩ := hz
  have hs := Tryz.internal_strconv_small u hu
  have hd : (Lib.decDigits u).length ≤ 2 := by
    rcases Nat.lt_or_ge u 10 with h | h
    · rw [Lib.decDigits_one h]; simp
    · rw [Lib.decDigits_two (by omega) hu]; simp
  have huz : (u : Int) < 100 := by omega
  generalize hD : Lib.decDigits u = ds at hs hd ⊢
  clear hD
  have HO := hid hown
  clear hown
  go_enter Tryz.func258, Tryz.ntmps258
  go_wp2_with (first
    | (go_at_call 264; refine (hs _).mono ?_; rintro e w1 ⟨rfl, rfl⟩)
    | (at_builtin; refine Lib.wpList_append_own_string (P := Tryz.prog) _ rfl _ _ 180 9 rfl B 5 i0 Tryz.underlying180 Tryz.underlying9 hi hz0 hz1 hz2 sv xs.length (bcells xs) rfl HO.out ⟨ds.toArray⟩ rfl (by rw [size_mk]; unfold maxLen; omega) (by rw [size_mk]; omega) hB ?_))
  intro v' w1 hown' hgrow _
  have HO' := hid hown'
  have HG := hid hgrow
  clear hown' hgrow
  go_wp2
  go_ret
  refine ⟨v', rfl, ?_, HG.out⟩
  have h := HO'.out
  rw [strCells_mk] at h
  rwa [List.length_append, bcells_append]

set_option maxHeartbeats 1000000 in
theorem f244_any (B : Nat) (sv : Value) (xs : List UInt8) (u : Nat) (w : World) (hu : u < 100) (hown : w.ownsRow B 5 1 sv xs.length (bcells xs)) (hB : B ≤ w.heap.size) (hl : xs.length ≤ 1000000) :
    Calls Tryz.prog 244 #[sv, .int .i64 u, .int .i64 10] w (Bytes B w sv (xs ++ Lib.decDigits u)) := by
  have h := f258_any B sv xs u w hu hown hB hl
  clear hown
  have huz : (u : Int) < 100 := by omega
  go_enter Tryz.func244, Tryz.ntmps244
  go_wp2_with (go_at_call 258; refine h.mono ?_; rintro e w1 ⟨v', rfl, h1, h2⟩)
  go_ret
  exact ⟨v', rfl, h1, h2⟩
set_option maxHeartbeats 1000000 in
theorem f227_any (B : Nat) (sv : Value) (xs : List UInt8) (u : Nat) (w : World) (hu : u < 100) (hown : w.ownsRow B 5 1 sv xs.length (bcells xs)) (hB : B ≤ w.heap.size) (hl : xs.length ≤ 1000000) :
    Calls Tryz.prog 227 #[sv, .int .i64 u, .int .i64 10] w (Bytes B w sv (xs ++ Lib.decDigits u)) := by
  have h := f244_any B sv xs u w hu hown hB hl
  clear hown
  have huz : (u : Int) < 100 := by omega
  go_enter Tryz.func227, Tryz.ntmps227
  go_wp2_with (go_at_call 244; refine h.mono ?_; rintro e w1 ⟨v', rfl, h1, h2⟩)
  go_ret
  exact ⟨v', rfl, h1, h2⟩

/-- The text of a list of small numbers. -/
def textB (l : List Int) : List UInt8 := l.flatMap fun x => Lib.decDigits x.toNat ++ [32]
theorem textB_snoc (l : List Int) (x : Int) : textB (l ++ [x]) = textB l ++ (Lib.decDigits x.toNat ++ [32]) := by simp [textB]
theorem digits_two {u : Nat} (h : u < 100) : (Lib.decDigits u).length ≤ 2 := by
  rcases Nat.lt_or_ge u 10 with h1 | h1
  · rw [Lib.decDigits_one h1]; simp
  · rw [Lib.decDigits_two (by omega) h]; simp
theorem textB_length (l : List Int) (h : ∀ x ∈ l, 0 ≤ x ∧ x < 100) : (textB l).length ≤ 3 * l.length := by
  induction l with
  | nil => simp [textB]
  | cons x l ih =>
    have h1 := ih fun y hy => h y (List.mem_cons_of_mem _ hy)
    have h2 := digits_two (u := x.toNat) (by have := h x List.mem_cons_self; omega)
    simp only [textB, List.flatMap_cons, List.length_append, List.length_cons, List.length_nil] at h1 ⊢
    omega
theorem take_snoc {l : List Int} {k : Nat} (h : k < l.length) : l.take (k + 1) = l.take k ++ [nth l k] := by
  rw [List.take_succ_eq_append_getElem h, nth_eq h]
theorem strOfNums_map (xs : List UInt8) : strOfNums (xs.map fun b => (b.toNat : Int)) = ⟨xs.toArray⟩ := by
  unfold strOfNums
  refine congrArg ByteArray.mk ?_
  refine congrArg List.toArray ?_
  rw [List.map_map]
  have e : ((fun n : Int => UInt8.ofNat n.toNat) ∘ fun b : UInt8 => (b.toNat : Int)) = id := by
    funext b
    simp
  rw [e, List.map_id]
theorem own_string {w : World} {B : Nat} {v : Value} {xs : List UInt8} (h : w.ownsRow B 5 1 v xs.length (bcells xs)) : (convert 180 9 v).run Tryz.prog w = .ok (.string ⟨xs.toArray⟩) w := by
  obtain ⟨hl, ⟨rfl, h0⟩ | ⟨g, cap, cur, rfl, hg, hh, hn, hm, hsz, ht⟩⟩ := h
  · obtain rfl := List.eq_nil_of_length_eq_zero h0
    rw [run_convert_bytes_nil w 180 5 Tryz.underlying180 Tryz.underlying5 0 0 9 Tryz.underlying9]
    rfl
  · rw [Nat.mul_one] at hsz ht
    have := run_convert_bytes_arg (P := Tryz.prog) w 180 5 Tryz.underlying180 Tryz.underlying5 g 0 xs.length cap (xs.map fun b => (b.toNat : Int)) (by simp) (fun i hi => by
      simp only [World.cell?, hh]
      have e1 : (cur.toList.take xs.length)[i]? = cur[i]? := by
        rw [List.getElem?_take, if_pos hi]
        simp
      show cur[0 + i]? = _
      rw [Nat.zero_add, ← e1, ht]
      simp [bcells, List.getElem?_eq_getElem hi]) 9 Tryz.underlying9
    rw [this, strOfNums_map]

set_option maxRecDepth 100000 in
set_option maxHeartbeats 2000000 in
theorem text_any (A : Option Addr) (n c : Nat) (l : List Int) (w : World) (hr : RI w A n c l) (hn : n ≤ 1000) (hb : ∀ x ∈ l, 0 ≤ x ∧ x < 100) :
    Calls Tryz.prog 201 #[.slice A n c] w fun e w' => e = .returned (.string ⟨(textB l).toArray⟩) ∧ Ext w w' := by
  obtain ⟨i0, hi, hz⟩ := Option.map_eq_some_iff.1 info5
  simp only [Prod.mk.injEq] at hz
  obtain ⟨hz0, hz1, hz2⟩ := hz
  have HB := hid hb
  have HR := hid hr
  clear hb hr
  go_enter Tryz.func201, Tryz.ntmps201
  go_wp2
  go_loopg [3, 5, 8] n (fun gg s3 _ s8 wr => ∃ (kk : Nat), kk ≤ n ∧ n - kk ≤ gg ∧ s8 = .int .i64 kk ∧ Aside (Ext w wr ∧ wr.ownsRow w.heap.size 5 1 s3 (textB (l.take kk)).length (bcells (textB (l.take kk)))))
  case atStart => exact ⟨0, Nat.zero_le _, by omega, rfl, Ext.refl w, by simpa [textB, bcells] using World.ownsRow_nil w w.heap.size 5 1⟩
  case round =>
    obtain ⟨kk, hkk, hg, rfl, AA⟩ := hrel
    by_cases hlt : kk < n
    · have hltz : (kk : Int) < (n : Int) := by omega
      obtain ⟨ad, rfl, hcell⟩ := (HR.out.ext AA.out.1).cell kk hlt
      have hlen := HR.out.len
      have hx := HB.out (nth l kk) (nth_mem (by omega))
      have hts : textB (l.take (kk + 1)) = textB (l.take kk) ++ Lib.decDigits (nth l kk).toNat ++ [32] := by rw [take_snoc (by omega), textB_snoc, List.append_assoc]
      have htl := textB_length (l.take kk) (fun x hx => HB.out x (List.mem_of_mem_take hx))
      rw [List.length_take] at htl
      have HL := hid hlen
      clear hlen
      obtain ⟨u, hu⟩ : ∃ u : Nat, nth l kk = u := ⟨(nth l kk).toNat, by omega⟩
      rw [hu] at hcell hx
      rw [hu, Int.toNat_natCast] at hts
      clear hu
      have hu100 : u < 100 := by omega
      have HT := hid hts
      have hd2 := digits_two hu100
      have hown := AA.out.2
      have hsz := AA.out.1.size
      have HE := hid AA.out.1
      clear hts AA
      have hcallx := f227_any w.heap.size u3 (textB (l.take kk)) u wr hu100 hown hsz (by omega)
      have hsz := hid hsz
      have hown := hid hown
      generalize textB (l.take kk) = xs at hown HT htl hcallx
      generalize Lib.decDigits u = ds at HT hd2 hcallx
      go_wp2_with (first
        | (go_at_call 227; refine hcallx.mono ?_; rintro e w1 ⟨v1, rfl, hown1, hgrow1⟩; have hsz1 := Nat.le_trans hsz.out hgrow1.size; have HO1 := hid hown1; have HG1 := hid hgrow1; clear hown1 hgrow1)
        | (at_builtin; refine app1 w.heap.size rfl _ _ 180 5 (.int .u8 0) 1 rfl Tryz.underlying180 info5 rfl (by decide) v1 (bcells (xs ++ ds)) (.int .u8 32) rfl rfl rfl (by have h := HO1.out; rwa [← bcells_length] at h) hsz1 ?c1 ?_))
      case c1 => rw [bcells_length, List.length_append]; omega
      intro v2 w2 hown2 hgrow2 _
      have HO2 := hid hown2
      have HG2 := hid hgrow2
      clear hown2 hgrow2
      go_wp2
      go_roundg (n - (kk + 1))
      case measure => omega
      case rel =>
        refine ⟨kk + 1, by omega, by omega, by go_num, (show Aside _ from ?_)⟩
        have e1 : Ext w w1 := HE.out.grown hown.out (Nat.le_refl _) HG1.out
        refine ⟨e1.grown HO1.out (Nat.le_refl _) HG2.out, ?_⟩
        rw [HT.out, bcells_append, List.length_append]
        have h := HO2.out
        rwa [bcells_length] at h
    · have hltz : ¬ (kk : Int) < (n : Int) := by omega
      have : kk = n := by omega
      subst this
      have hl : l.take kk = l := List.take_of_length_le (by have := HR.out.len; omega)
      have hown := AA.out.2
      have HE := hid AA.out.1
      rw [hl] at hown
      have hst := own_string hown
      clear hown hl AA
      go_wp2
      go_ret
      exact ⟨rfl, HE.out⟩
end Go.Proofs.YthjifmfmaiagoaaGreatDoor

/- A range over an iterator that hands its rounds values which lie in memory: one law, and hyper.subsets by it. -/
namespace Go.Proofs.YthjifmfmaiagoaaGreatDoor
open Go.RowKit Go.Shelf

/-- How a round's body may be left. -/
def roundPost {α : Type} (I : List α → World → Prop) (Ix : Code → List α → World → Prop) (xs : List α) (W : World) : Exit → Act → World → Prop
  | .normal, _, W' => KeepsOthers W W' ∧ I xs W'
  | .ret, _, W' => KeepsOthers W W' ∧ Ix .ret xs W'
  | _, _, _ => False

/-- The iterator's contract: J speaks of blocks below B alone; what a round is handed reads as x (Rd). -/
def Gives {α : Type} (F : Fence) (n : Nat) (gf : Nat) (lb : Array Value) (Rd : α → Array Value → World → Prop) (S Sp : List α → Prop) (B : Nat) (I : List α → World → Prop) : Prop :=
  ∀ (l : Nat) (J Jx : List α → World → Prop) (W : World), (∀ pre A C, J pre A → Below B A C → J pre C) → (∀ pre A C, Jx pre A → Below B A C → Jx pre C) → (∀ pre A, J pre A → I pre A ∧ B ≤ A.heap.size) →
    (∀ pre x args W1, J pre W1 → Rd x args W1 → YieldAt F (n - 1) Tryz.prog l args W1 fun e W' => (e = .returned (.bool true) ∧ J (pre ++ [x]) W') ∨ (e = .returned (.bool false) ∧ Jx (pre ++ [x]) W')) →
    J [] W → CallsIn F n Tryz.prog gf (#[.func (.yield l) #[] #[]] ++ lb) W fun e W' => (∃ v, e = .returned v) ∧ ((∃ xs, S xs ∧ J xs W') ∨ (∃ pre, Sp pre ∧ Jx pre W'))

theorem below_putObj {B : Nat} (W : World) (l : Nat) (o : Obj) (h : B ≤ l) : Below B W (W.putObj l o) :=
  ⟨rfl, rfl, rfl, by simp, fun k hk => World.putObj_heap_other (by omega)⟩

theorem range_law {α : Type} {F : Fence} {n : Nat} {g : Operand} {ps : Array Tmp} {assign body : Code} {Q : Exit → Act → World → Prop} {a : Act} {w : World}
    (hro : F.round = none) (h1 : 1 ≤ n) {gf : Nat} {lb : Array Value} (hg : a.eval g = .func (.func gf) #[] lb) (hFg : F.fn gf) (eg : ∀ args w, (callFunc gf args).run Tryz.prog w = .ok (.enter gf args) w)
    {Rd : α → Array Value → World → Prop} {S Sp : List α → Prop} (I : List α → World → Prop) (Ix : Code → List α → World → Prop)
    (hseq : Gives F (n - 1) gf lb Rd S Sp (w.heap.size + 2) I)
    (hRd : ∀ x args W l o o', Rd x args W → W.heap[l]? = some o → o.isCells = false → Rd x args (W.putObj l o'))
    (hps : ∀ x args W, Rd x args W → args.size = ps.size)
    (hI : ∀ pre A C, I pre A → Below w.heap.size A C → I pre C) (hIx : ∀ c pre A C, Ix c pre A → Below w.heap.size A C → Ix c pre C) (h0 : I [] w) (a₁ : Array Value → Act)
    (hassign : ∀ (l : Nat) (x : α) (args : Array Value) (W : World) (K : Act → World → Prop), Rd x args W → K (a₁ args) W →
      assign.wpIn (F.inRound l) (n - 1 - 1) Tryz.prog (Exit.then K (fun _ _ _ => False)) { tmps := (ps.zip args).foldl (fun t (p, v) => t.setIfInBounds p v) a.tmps, defers := [] } W)
    (hbody : ∀ (l : Nat) (pre : List α) (x : α) (args : Array Value) (W : World), I pre W → Rd x args W → body.wpIn (F.inRound l) (n - 1 - 1) Tryz.prog (roundPost I Ix (pre ++ [x]) W) (a₁ args) W)
    (hdone : ∀ (D : Nat) (xs : List α) (W : World), w.heap.size ≤ D → S xs → I xs W → W.heap[D]? = some (.deferred (some [])) → Q .normal { a with defers := { target := .collected D, args := #[] } :: a.defers } W)
    (hstop : ∀ (D : Nat) (pre : List α) (W : World), w.heap.size ≤ D → Sp pre → Ix .ret pre W → W.heap[D]? = some (.deferred (some [])) → Code.ret.wpIn F n Tryz.prog Q { a with defers := { target := .collected D, args := #[] } :: a.defers } W) :
    (Code.rangeFunc g ps assign body).wpIn F n Tryz.prog Q a w := by
  refine wpIn_rangeFunc ?_
  intro fn hfn
  rw [hro]
  obtain ⟨rec, hrec⟩ : ∃ rec : LoopState → Option Code → Loop, rec = fun st pe => { state := st, pending := pe, fn, tmps := a.tmps, params := ps, assign, body, defers := w.heap.size } := ⟨_, rfl⟩
  obtain ⟨W1, hW1⟩ : ∃ W1, (w.alloc (.deferred (some []))).alloc (.loop (rec .ready none)) = W1 := ⟨_, rfl⟩
  have hs1 : W1.heap.size = w.heap.size + 2 := by rw [← hW1]; simp
  have hL1 : W1.heap[w.heap.size + 1]? = some (.loop (rec .ready none)) := by
    rw [← hW1]; have := World.alloc_heap_new (w.alloc (.deferred (some []))) (.loop (rec .ready none)); rwa [World.size_alloc] at this
  have hK1 : W1.heap[w.heap.size]? = some (.deferred (some [])) := by
    rw [← hW1]; exact (Below.heap_alloc _ _ _ (by simp)).trans (World.alloc_heap_new w _)
  have hb1 : Below w.heap.size w W1 := by
    rw [← hW1]; exact ((Below.refl _ w).alloc (Nat.le_refl _) _).alloc (by simp) _
  have hI1 : I [] W1 := hI _ _ _ h0 hb1
  refine ⟨w.heap.size + 1, [{ target := .collected w.heap.size, args := #[] }], W1, { target := .fn (.func gf) lb, args := #[.func (.yield (w.heap.size + 1)) #[] #[]] }, W1, gf,
    #[.func (.yield (w.heap.size + 1)) #[] #[]] ++ lb, W1, ?_, ?_, ?_, ?_, fun _ => h1, ?_⟩
  · rw [← hW1, hrec]; exact run_enterLoop_outer _ _ _ _ _
  · simp only [resolve, hg]
    simp [go_sem]
  · intro f' hf'; simp [Target.leads] at hf'; subst hf'; exact hFg
  · simp [invoke, go_sem, eg]
  · refine (hseq (w.heap.size + 1)
      (fun pre W => I pre W ∧ w.heap.size + 2 ≤ W.heap.size ∧ W.heap[w.heap.size + 1]? = some (.loop (rec .ready none)) ∧ W.heap[w.heap.size]? = some (.deferred (some [])))
      (fun pre W => Ix .ret pre W ∧ W.heap[w.heap.size + 1]? = some (.loop (rec .done (some .ret))) ∧ W.heap[w.heap.size]? = some (.deferred (some [])))
      W1
      (fun pre A C hs hb => ⟨hI _ _ _ hs.1 (hb.mono (by omega)), Nat.le_trans hs.2.1 hb.size, (hb.block _ (by omega)).trans hs.2.2.1, (hb.block _ (by omega)).trans hs.2.2.2⟩)
      (fun pre A C hs hb => ⟨hIx _ _ _ _ hs.1 (hb.mono (by omega)), (hb.block _ (by omega)).trans hs.2.1, (hb.block _ (by omega)).trans hs.2.2⟩)
      (fun pre A hs => ⟨hs.1, hs.2.1⟩)
      ?_ ⟨hI1, by omega, hL1, hK1⟩).mono ?_
    · rintro pre x args W ⟨hi, hsz, hl, hk⟩ hrd
      have hlt : w.heap.size + 1 < W.heap.size := (Array.getElem?_eq_some_iff.1 hl).1
      have hy := run_yield (P := Tryz.prog) (args := args) hl (by rw [hrec]; exact hps _ _ _ hrd)
      rw [hrec] at hy
      have hrd2 := hRd x args W (w.heap.size + 1) _ (.loop { rec .ready none with state := .busy }) hrd hl rfl
      refine ⟨fn, _, assign, body, hy, roundIn_of_wpIn hfn (hassign _ x args W _ hrd ⟨_, run_beginRound hl (by rw [hrec]), ?_⟩)⟩
      have hl2 : (W.putObj (w.heap.size + 1) (.loop { rec .ready none with state := .busy })).heap[w.heap.size + 1]? = some (.loop { rec .ready none with state := .busy }) := World.putObj_heap_same hlt
      have hk2 : (W.putObj (w.heap.size + 1) (.loop { rec .ready none with state := .busy })).heap[w.heap.size]? = some (.deferred (some [])) := (World.putObj_heap_other (by omega)).trans hk
      refine wpIn_mono (hbody _ pre x args _ (hI _ _ _ hi (below_putObj _ _ _ (by omega))) hrd2) ?_
      have fin : ∀ (jump : Option Code) (W3 : World), KeepsOthers (W.putObj (w.heap.size + 1) (.loop { rec .ready none with state := .busy })) W3 →
          (Instr.endRound (w.heap.size + 1) jump).run Tryz.prog W3 = .ok (.bool jump.isNone) (W3.putObj (w.heap.size + 1) (.loop (rec (if jump.isNone then .ready else .done) jump))) ∧
          W3.heap[w.heap.size + 1]? = some (.loop { rec .ready none with state := .busy }) ∧
          (W3.putObj (w.heap.size + 1) (.loop (rec (if jump.isNone then .ready else .done) jump))).heap[w.heap.size + 1]? = some (.loop (rec (if jump.isNone then .ready else .done) jump)) ∧
          (W3.putObj (w.heap.size + 1) (.loop (rec (if jump.isNone then .ready else .done) jump))).heap[w.heap.size]? = some (.deferred (some [])) := fun jump W3 hk3 => by
        have hl3 := hk3.same _ _ hl2 rfl
        have := run_endRound (P := Tryz.prog) jump hl3
        rw [hrec] at this ⊢
        exact ⟨this, by rw [hrec] at hl3; exact hl3, World.putObj_heap_same (Array.getElem?_eq_some_iff.1 hl3).1, (World.putObj_heap_other (by omega)).trans (hk3.same _ _ hk2 rfl)⟩
      rintro e a3 W3 hp
      cases e with
      | normal =>
        obtain ⟨hk3, hi3⟩ := hp
        obtain ⟨hr, hl3, hl4, hk4⟩ := fin none W3 hk3
        have := hk3.size
        exact ⟨_, _, hr, .inl ⟨rfl, hI _ _ _ hi3 (below_putObj _ _ _ (by omega)), by simp at this ⊢; omega, hl4, hk4⟩⟩
      | ret =>
        obtain ⟨hk3, hi3⟩ := hp
        obtain ⟨hr, hl3, hl4, hk4⟩ := fin (some .ret) W3 hk3
        exact ⟨_, _, hr, .inr ⟨rfl, hIx _ _ _ _ hi3 (below_putObj _ _ _ (by omega)), hl4, hk4⟩⟩
      | exit id => exact hp.elim
      | goto t => exact hp.elim
      | panic ch => exact hp.elim
      | outgrown => exact hp.elim
    · rintro e W2 ⟨⟨v, rfl⟩, (⟨xs, hS, hi, _, hl, hk⟩ | ⟨pre, hSp, hi, hl, hk⟩)⟩
      · exact ⟨none, _, by have := run_endLoop (P := Tryz.prog) hl (by rw [hrec]; simp); rw [hrec] at this; exact this, hdone _ xs _ (Nat.le_refl _) hS (hI _ _ _ hi (below_putObj _ _ _ (by omega))) ((World.putObj_heap_other (by omega)).trans hk)⟩
      · exact ⟨some .ret, _, by have := run_endLoop (P := Tryz.prog) hl (by rw [hrec]; simp); rw [hrec] at this; exact this, hstop _ pre _ (Nat.le_refl _) hSp (hIx _ _ _ _ hi (below_putObj _ _ _ (by omega))) ((World.putObj_heap_other (by omega)).trans hk)⟩
end Go.Proofs.YthjifmfmaiagoaaGreatDoor

/- hyper.subsets -/
namespace Go.Proofs.YthjifmfmaiagoaaGreatDoor
open Go.RowKit Go.Shelf
attribute [local go_sem] Oper.semAt_some

/-- append(v, y) inside a fence, y of one cell, v a row of the call's own. -/
theorem app1In {F : Fence} {nF : Nat} {ops : Array Oper} {rest : List Oper} {o : Oper} {a : Act} {Q : Exit → Act → World → Prop} {W : World} (B : Nat) (hgd : o.guard = none) (s x : Operand) (t e : TypeId) (z : Value) (bytes : Nat)
    (ho : o.op = .call { callee := .builtin .append, args := #[s, x], argTypes := #[t, t] })
    (ht : Tryz.prog.underlying t = some (.slice e)) (hinfo : (Tryz.prog.info? e).map (fun i => (i.zero, i.size, i.bytes)) = some (some z, 1, bytes)) (hz : z.cells.size = 1) (hb0 : 0 < bytes)
    (v : Value) (xs : List Value) (y : Value) (hs : a.eval s = v) (hx : a.eval x = .slice (some ⟨W.heap.size, 0, none⟩) 1 1) (h1 : y.oneCell' = true)
    (HO : W.ownsRow B e 1 v xs.length xs) (hB : B ≤ W.heap.size) (hl : (xs.length + 1) * bytes ≤ 140737488355328)
    (h : ∀ v1 w1, w1.ownsRow B e 1 v1 (xs.length + 1) (xs ++ [y]) → W.grownBy w1 v.ownBlock → (v1.ownBlock = v.ownBlock ∨ ∃ b, v1.ownBlock = some b ∧ W.heap.size ≤ b) → wpListIn F nF Tryz.prog ops Q rest (a.put o.dst v1) w1) :
    wpListIn F nF Tryz.prog ops Q (o :: rest) a (W.alloc (.cells #[y] e)) := by
  obtain ⟨i0, hi, hzz⟩ := Option.map_eq_some_iff.1 hinfo
  simp only [Prod.mk.injEq] at hzz
  obtain ⟨hz0, hz1, hz2⟩ := hzz
  have hlen : xs.length + 1 ≤ 140737488355328 := Nat.le_trans (Nat.le_mul_of_pos_right _ hb0) hl
  refine wpListIn_append_own_at (W.alloc (.cells #[y] e)) hgd s x t ho B e i0 z 1 bytes ht hi hz0 hz1 hz2 hz (by omega) v xs.length xs hs (HO.alloc _) ⟨W.heap.size, 0, none⟩ 1 1 [y] hx rfl
    (World.news_of_block (cs := #[y]) (t := e) (fr := (0, 0)) (heap_alloc_new W _)) (by simpa using h1) (by simp only [maxLen]; omega) hl (by simp; omega) ?_
  intro v1 w1 hown hg _ hat
  refine h v1 w1 (by simpa using hown) (World.grownBy.trans (World.grownBy_alloc W _ _) hg) ?_
  rcases hat with hat | hat
  · exact .inl hat
  · exact .inr ⟨_, hat, by simp⟩

theorem bit_fin : ∀ b : Fin 64, ∀ k : Fin 6, (bits .and .i64 ((b.val : Int) / 2 ^ k.val) 1 == 1) = b.val.testBit k.val := by decide +kernel
theorem bit_at {b k : Nat} (hb : b < 64) (hk : k < 6) : (bits .and .i64 ((b : Int) / 2 ^ k) 1 == 1) = b.testBit k := bit_fin ⟨b, hb⟩ ⟨k, hk⟩
/-- The elements among the first k whose bit is set. -/
def pickTo (e : List Int) (b k : Nat) : List Int := (List.range k).filterMap fun i => if b.testBit i then some (nth e i) else none
def pick (e : List Int) (b : Nat) : List Int := pickTo e b e.length
theorem pickTo_succ (e : List Int) (b k : Nat) : pickTo e b (k + 1) = pickTo e b k ++ if b.testBit k then [nth e k] else [] := by
  unfold pickTo
  rw [List.range_succ, List.filterMap_append]
  congr 1
  cases h : b.testBit k <;> simp [h]
theorem pickTo_length (e : List Int) (b k : Nat) : (pickTo e b k).length ≤ k := by
  unfold pickTo
  exact Nat.le_trans (List.length_filterMap_le _ _) (by simp)
def subs (e : List Int) : List (List Int) := (List.range (2 ^ e.length)).map (pick e)
def nums (l : List Int) : List Value := l.map (Value.int .i64)
theorem nums_length (l : List Int) : (nums l).length = l.length := by simp [nums]
theorem nums_append (l k : List Int) : nums (l ++ k) = nums l ++ nums k := by simp [nums]

/-- A row of numbers of the call's own, read. -/
theorem own_RI {w : World} {base : Nat} {v : Value} {l : List Int} (h : w.ownsRow base 3 1 v l.length (nums l)) : ∃ A c, v = .slice A l.length c ∧ RI w A l.length c l := by
  rcases Nat.eq_zero_or_pos l.length with h0 | h0
  · have hl : l = [] := List.eq_nil_of_length_eq_zero h0
    subst hl
    obtain ⟨_, h | ⟨g, cap, cur, hv, _, _, hn, hm, _⟩⟩ := h
    · exact ⟨none, 0, h.1, RI.nil w⟩
    · exact ⟨_, cap, hv, rfl, Nat.zero_le _, by simp only [maxLen] at hm; omega, fun i hi => absurd hi (Nat.not_lt_zero _)⟩
  · obtain ⟨g, cap, rfl, _, _, hr, _⟩ := own_nums h h0
    exact ⟨_, cap, rfl, hr⟩
/-- A value that a round is handed: a slice that reads as x. -/
def RdS (e x : List Int) (args : Array Value) (W : World) : Prop := x ∈ subs e ∧ ∃ A n c, args = #[.slice A n c] ∧ RI W A n c x
theorem RdS.putObj (e x : List Int) (args : Array Value) (W : World) (l : Nat) (o o' : Obj) (h : RdS e x args W) (hl : W.heap[l]? = some o) (ho : o.isCells = false) : RdS e x args (W.putObj l o') := by
  obtain ⟨hm, A, n, c, rfl, hr⟩ := h
  refine ⟨hm, A, n, c, rfl, hr.len, hr.cap, hr.big, fun i hi => ?_⟩
  obtain ⟨ad, rfl, hc⟩ := hr.cell i hi
  refine ⟨ad, rfl, ?_⟩
  have hne : (ad.add i).block ≠ l := by
    intro e
    unfold World.cell? at hc
    rw [e, hl] at hc
    cases o <;> simp_all [Obj.isCells]
  rw [← hc]
  exact World.cell?_of_block (World.putObj_heap_other (by omega))

set_option maxRecDepth 100000 in
set_option maxHeartbeats 2000000 in
theorem subsets1_in (Bs : Nat) (A : Option Addr) (m c l B : Nat) (e : List Int) (W : World) (hm : m ≤ 6) (J Jx : List (List Int) → World → Prop)
    (hJ : ∀ pre A C, J pre A → Below B A C → J pre C) (hJr : ∀ pre X, J pre X → B ≤ X.heap.size ∧ X.cell? ⟨Bs, 0, none⟩ = some (.slice A m c) ∧ RI X A m c e)
    (hY : ∀ pre x args W1, J pre W1 → RdS e x args W1 → YieldAt Fence.wide 8 Tryz.prog l args W1 fun e W' => (e = .returned (.bool true) ∧ J (pre ++ [x]) W') ∨ (e = .returned (.bool false) ∧ Jx (pre ++ [x]) W'))
    (h0 : J [] W) :
    CallsIn Fence.wide 9 Tryz.prog 243 #[.func (.yield l) #[] #[], .pointer (some ⟨Bs, 0, none⟩)] W fun e' W' => (∃ v, e' = .returned v) ∧ ((∃ xs, xs = subs e ∧ J xs W') ∨ (∃ pre, pre <+: subs e ∧ Jx pre W')) := by
  have hlen : e.length = m := (hJr _ _ h0).2.2.len
  have HJ := hid hJ
  have HJr := hid hJr
  have HY := hid hY
  have HL := hid hlen
  have hcell := (hJr _ _ h0).2.1
  obtain ⟨T, hT⟩ : ∃ T, T = 2 ^ m := ⟨_, rfl⟩
  have hT64 : T ≤ 64 := by rw [hT]; exact Nat.pow_le_pow_right (by omega) hm
  have e9 : wrap64 ((2 : Int) ^ m) = (T : Int) := by
    have : ((2 : Int) ^ m) = (T : Int) := by rw [hT]; simp
    rw [this]
    unfold wrap64
    omega
  have HT := hid hT
  have H0 := hid h0
  clear hJ hJr hY hlen hT h0
  refine callsIn_of_wp Tryz.func243 rfl trivial ?_ rfl
  simp only [Tryz.ntmps243, List.size_toArray, List.length_cons, List.length_nil, Nat.reduceAdd, Nat.reduceSub, Array.replicate_succ, Array.replicate_zero, List.push_toArray, List.append_toArray, List.nil_append, List.cons_append]
  gi_wp2
  rw [e9]
  clear e9 hcell
  gi_loopw [3, 4, 5, 6, 10, 13, 14, 15] (fun _ _ _ _ s10 _ _ _ wr => ∃ b : Nat, b ≤ T ∧ s10 = .int .i64 b ∧ Aside (J ((List.range b).map (pick e)) wr))
    (fun _ _ _ _ s10 _ _ _ _ => T - (intOf s10).toNat)
  case atStart => exact ⟨0, Nat.zero_le _, rfl, H0.out⟩
  case round =>
    obtain ⟨b, hb, rfl, AJ⟩ := hrel
    by_cases hlt : b < T
    · have hltz : (b : Int) < (T : Int) := by omega
      obtain ⟨hBs, hcell, hre⟩ := HJr.out _ _ AJ.out
      have HR := hid hre
      clear hre
      obtain ⟨wo, rfl⟩ : ∃ wo : World, wo = wr := ⟨_, rfl⟩
      gi_wp2
      gi_loopw [4, 5, 6, 15] (fun s4 _ _ s15 wr2 => ∃ k : Nat, k ≤ m ∧ s15 = .int .i64 k ∧ Aside (Below B wo wr2 ∧ wr2.ownsRow B 3 1 s4 (pickTo e b k).length (nums (pickTo e b k))))
        (fun _ _ _ s15 _ => m - (intOf s15).toNat)
      case atStart => exact ⟨0, Nat.zero_le _, rfl, Below.refl _ _, by simpa [pickTo, nums] using World.ownsRow_nil wo B 3 1⟩
      case round =>
        obtain ⟨k, hk, rfl, AO⟩ := hrel
        by_cases hlt2 : k < m
        · have hltz2 : (k : Int) < (m : Int) := by omega
          have hb2 : Below B wo wr := AO.out.1
          obtain ⟨hBs2, hcell2, hre2⟩ := HJr.out _ _ (HJ.out _ _ _ AJ.out hb2)
          obtain ⟨ad, rfl, hx⟩ := hre2.cell k hlt2
          clear hre2 hb2
          have hbit := bit_at (b := b) (k := k) (by omega) (by omega)
          have hsz := AO.out.1.size
          have hBs3 : B ≤ wr.heap.size := by omega
          have HP := hid (pickTo_succ e b k)
          have hpl := pickTo_length e b k
          cases hq : b.testBit k with
          | true =>
            rw [hq] at hbit
            have HQ := hid hq
            clear hq
            gi_wp2_with (gi_at_builtin; refine app1In B rfl _ _ 22 3 (.int .i64 0) 8 rfl Tryz.underlying22 info3' rfl (by decide) u4 (nums (pickTo e b k)) (.int .i64 (nth e k)) rfl rfl rfl (by have h := AO.out.2; rwa [← nums_length] at h) hBs3 ?c1 ?_)
            case c1 => rw [nums_length]; omega
            intro v1 w1 hown1 hgrow1 _
            have HO1 := hid hown1
            have HG1 := hid hgrow1
            clear hown1 hgrow1
            gi_wp2
            go_roundw
            case rel =>
              refine ⟨k + 1, by omega, by go_num, (show Aside _ from ⟨?_, ?_⟩)⟩
              · exact AO.out.1.grown HG1.out (by omega) (fun j hj => by
                  rcases AO.out.2.2 with ⟨e1, _⟩ | ⟨g, cap, cur, e1, hb3, _⟩
                  · rw [e1] at hj; simp [Value.ownBlock] at hj
                  · rw [e1] at hj
                    have : g = j := by simpa [Value.ownBlock] using hj
                    omega)
              · rw [HP.out, HQ.out, if_pos rfl, nums_append, List.length_append]
                have h := HO1.out
                rwa [nums_length] at h
            case measure => simp [intOf]; omega
          | false =>
            rw [hq] at hbit
            have HQ := hid hq
            clear hq
            gi_wp2
            go_roundw
            case rel =>
              refine ⟨k + 1, by omega, by go_num, (show Aside _ from ⟨AO.out.1, ?_⟩)⟩
              rw [HP.out, HQ.out, if_neg (by simp), List.append_nil]
              exact AO.out.2
            case measure => simp [intOf]; omega
        · have hkm : k = m := by omega
          subst hkm
          have hown := AO.out.2
          rw [← HL.out] at hown
          have hRd : ∃ A' c', u4 = .slice A' (pick e b).length c' ∧ RI wr A' (pick e b).length c' (pick e b) := own_RI hown
          obtain ⟨A', c', rfl, hRI⟩ := hRd
          have hJ2 := HJ.out _ _ _ AJ.out AO.out.1
          obtain ⟨fn, tmps, assign, body, hy, hR⟩ := HY.out _ (pick e b) #[.slice A' (pick e b).length c'] wr hJ2 ⟨List.mem_map.2 ⟨b, List.mem_range.2 (by rw [HL.out, ← HT.out]; exact hlt), rfl⟩, A', _, c', rfl, hRI⟩
          have HRI := hid hRI
          clear hown hRI hJ2
          generalize (pick e b).length = pl at *
          gi_wp2
          refine hR.mono ?_
          rintro e' W3 (⟨rfl, hJ3⟩ | ⟨rfl, hJx3⟩)
          · have HJ3 := hid hJ3
            clear hJ3
            gi_wp2
            go_roundw
            case rel =>
              refine ⟨b + 1, by omega, by go_num, (show Aside _ from ?_)⟩
              have h := HJ3.out
              rwa [List.range_succ, List.map_append]
            case measure => simp [intOf]; omega
          · have HJ3 := hid hJx3
            clear hJx3
            gi_wp2
            refine bodyPost_ret (results_none rfl _ _ _) rfl ?_
            refine ⟨⟨_, rfl⟩, .inr ⟨_, ?_, HJ3.out⟩⟩
            have e1 : (List.range b).map (pick e) ++ [pick e b] = (List.range (b + 1)).map (pick e) := by rw [List.range_succ, List.map_append]; rfl
            rw [e1]
            obtain ⟨t, ht⟩ : ∃ t, T = (b + 1) + t := ⟨T - (b + 1), by omega⟩
            have e2 : subs e = (List.range (b + 1)).map (pick e) ++ ((List.range t).map fun x => b + 1 + x).map (pick e) := by
              unfold subs
              rw [HL.out, ← HT.out, ht, List.range_add, List.map_append]
            rw [e2]
            exact List.prefix_append _ _
    · have hbT : b = T := by omega
      subst hbT
      gi_wp2
      go_end0
      refine ⟨⟨_, rfl⟩, .inl ⟨_, rfl, ?_⟩⟩
      have h := AJ.out
      unfold subs
      rwa [HL.out, ← HT.out]
end Go.Proofs.YthjifmfmaiagoaaGreatDoor

/- Texts of small sets tell the sets apart; the subsets of a set. -/
namespace Go.Proofs.YthjifmfmaiagoaaGreatDoor
open Go.RowKit

theorem u8_inj {a b : Nat} (ha : a < 200) (hb : b < 200) (h : UInt8.ofNat a = UInt8.ofNat b) : a = b := by
  have := congrArg UInt8.toNat h
  simp only [UInt8.toNat_ofNat'] at this
  omega
theorem textB_cons (x : Int) (l : List Int) : textB (x :: l) = Lib.decDigits x.toNat ++ 32 :: textB l := by
  simp [textB]
theorem textB_inj : ∀ (l k : List Int), (∀ x ∈ l, 0 ≤ x ∧ x < 100) → (∀ x ∈ k, 0 ≤ x ∧ x < 100) → textB l = textB k → l = k := by
  have h32 : (32 : UInt8) = UInt8.ofNat 32 := rfl
  have dig : ∀ x : Nat, x < 100 → (x < 10 ∧ Lib.decDigits x = [UInt8.ofNat (48 + x)]) ∨ (10 ≤ x ∧ Lib.decDigits x = [UInt8.ofNat (48 + x / 10), UInt8.ofNat (48 + x % 10)]) := by
    intro x hx
    rcases Nat.lt_or_ge x 10 with h | h
    · exact .inl ⟨h, Lib.decDigits_one h⟩
    · exact .inr ⟨h, Lib.decDigits_two (by omega) hx⟩
  intro l
  induction l with
  | nil =>
    intro k _ hk h
    cases k with
    | nil => rfl
    | cons y k =>
      rw [textB_cons] at h
      simp [textB] at h
  | cons x l ih =>
    intro k hl hk h
    cases k with
    | nil =>
      rw [textB_cons] at h
      simp [textB] at h
    | cons y k =>
      rw [textB_cons, textB_cons] at h
      have hx := hl x List.mem_cons_self
      have hy := hk y List.mem_cons_self
      have hl' := fun z hz => hl z (List.mem_cons_of_mem _ hz)
      have hk' := fun z hz => hk z (List.mem_cons_of_mem _ hz)
      obtain ⟨a, rfl⟩ : ∃ a : Nat, x = a := ⟨x.toNat, by omega⟩
      obtain ⟨b, rfl⟩ : ∃ b : Nat, y = b := ⟨y.toNat, by omega⟩
      rw [Int.toNat_natCast, Int.toNat_natCast] at h
      rcases dig a (by omega) with ⟨ha, ea⟩ | ⟨ha, ea⟩ <;> rcases dig b (by omega) with ⟨hb, eb⟩ | ⟨hb, eb⟩
      · rw [ea, eb] at h
        simp only [List.cons_append, List.nil_append, List.cons.injEq] at h
        have := u8_inj (by omega) (by omega) h.1
        rw [ih k hl' hk' h.2.2, show a = b by omega]
      · rw [ea, eb] at h
        simp only [List.cons_append, List.nil_append, List.cons.injEq] at h
        have h1 := h.2.1
        rw [h32] at h1
        have := u8_inj (by omega) (by omega) h1
        omega
      · rw [ea, eb] at h
        simp only [List.cons_append, List.nil_append, List.cons.injEq] at h
        have h1 := h.2.1
        rw [h32] at h1
        have := u8_inj (by omega) (by omega) h1
        omega
      · rw [ea, eb] at h
        simp only [List.cons_append, List.nil_append, List.cons.injEq] at h
        have h1 := u8_inj (by omega) (by omega) h.1
        have h2 := u8_inj (by omega) (by omega) h.2.1
        rw [ih k hl' hk' h.2.2.2, show a = b by omega]

theorem mem_pickTo {e : List Int} {b k : Nat} {x : Int} : x ∈ pickTo e b k ↔ ∃ i, i < k ∧ b.testBit i = true ∧ nth e i = x := by
  unfold pickTo
  rw [List.mem_filterMap]
  constructor
  · rintro ⟨i, hi, h⟩
    by_cases hb : b.testBit i = true
    · rw [if_pos hb] at h
      exact ⟨i, List.mem_range.1 hi, hb, Option.some.inj h⟩
    · rw [if_neg hb] at h
      cases h
  · rintro ⟨i, hi, hb, rfl⟩
    exact ⟨i, List.mem_range.2 hi, by rw [if_pos hb]⟩
theorem pick_sub {e : List Int} {b : Nat} {x : Int} (h : x ∈ pick e b) : x ∈ e := by
  obtain ⟨i, hi, _, rfl⟩ := mem_pickTo.1 h
  exact nth_mem hi
theorem subs_sub {e s : List Int} (h : s ∈ subs e) : ∀ x ∈ s, x ∈ e := by
  obtain ⟨b, _, rfl⟩ := List.mem_map.1 h
  exact fun x hx => pick_sub hx
/-- Some number has just these bits. -/
theorem bits_of (q : Nat → Bool) : ∀ m, ∃ b, b < 2 ^ m ∧ ∀ i, i < m → b.testBit i = q i := by
  intro m
  induction m with
  | zero => exact ⟨0, by simp, fun i hi => absurd hi (Nat.not_lt_zero _)⟩
  | succ m ih =>
    obtain ⟨b, hb, h⟩ := ih
    cases hq : q m with
    | false =>
      refine ⟨b, by rw [Nat.pow_succ]; omega, fun i hi => ?_⟩
      rcases Nat.lt_or_ge i m with h1 | h1
      · exact h i h1
      · obtain rfl : i = m := by omega
        rw [hq]
        exact Nat.testBit_lt_two_pow hb
    | true =>
      refine ⟨b + 2 ^ m, by rw [Nat.pow_succ]; omega, fun i hi => ?_⟩
      rcases Nat.lt_or_ge i m with h1 | h1
      · rw [← h i h1, Nat.add_comm, Nat.testBit_two_pow_add_gt h1]
      · obtain rfl : i = m := by omega
        rw [hq, Nat.add_comm, Nat.testBit_two_pow_add_eq, Nat.testBit_lt_two_pow hb]
        rfl
theorem inc_ext {l k : List Int} (hl : Inc l) (hk : Inc k) (h : ∀ x, x ∈ l ↔ x ∈ k) : l = k := by
  induction l generalizing k with
  | nil =>
    cases k with
    | nil => rfl
    | cons y k => exact absurd ((h y).2 List.mem_cons_self) (by simp)
  | cons x l ih =>
    cases k with
    | nil => exact absurd ((h x).1 List.mem_cons_self) (by simp)
    | cons y k =>
      have hl1 := List.pairwise_cons.1 hl
      have hk1 := List.pairwise_cons.1 hk
      have hxy : x = y := by
        have h1 := (h x).1 List.mem_cons_self
        have h2 := (h y).2 List.mem_cons_self
        rcases List.mem_cons.1 h1 with e | e
        · exact e
        · rcases List.mem_cons.1 h2 with e2 | e2
          · exact e2.symm
          · have a1 := hk1.1 x e
            have a2 := hl1.1 y e2
            omega
      subst hxy
      rw [ih hl1.2 hk1.2 fun z => ?_]
      constructor
      · intro hz
        rcases List.mem_cons.1 ((h z).1 (List.mem_cons_of_mem _ hz)) with e | e
        · have := hl1.1 z hz
          omega
        · exact e
      · intro hz
        rcases List.mem_cons.1 ((h z).2 (List.mem_cons_of_mem _ hz)) with e | e
        · have := hk1.1 z hz
          omega
        · exact e
theorem pickTo_inc {e : List Int} (he : Inc e) (b : Nat) : ∀ k, k ≤ e.length → Inc (pickTo e b k) := by
  intro k
  induction k with
  | zero => exact fun _ => List.Pairwise.nil
  | succ k ih =>
    intro hk
    rw [pickTo_succ]
    refine List.pairwise_append.2 ⟨ih (by omega), ?_, ?_⟩
    · split
      · exact List.pairwise_singleton _ _
      · exact List.Pairwise.nil
    · intro x hx y hy
      obtain ⟨i, hi, _, rfl⟩ := mem_pickTo.1 hx
      split at hy
      · obtain rfl := List.mem_singleton.1 hy
        exact (inc_iff e).1 he i k hi (by omega)
      · cases hy
theorem mem_subs {e o : List Int} (he : Inc e) (ho : Inc o) (h : ∀ x ∈ o, x ∈ e) : o ∈ subs e := by
  obtain ⟨b, hb, hq⟩ := bits_of (fun i => decide (nth e i ∈ o)) e.length
  refine List.mem_map.2 ⟨b, List.mem_range.2 hb, ?_⟩
  refine inc_ext (pickTo_inc he b _ (Nat.le_refl _)) ho fun x => ?_
  unfold pick
  rw [mem_pickTo]
  constructor
  · rintro ⟨i, hi, h1, rfl⟩
    rw [hq i hi] at h1
    exact of_decide_eq_true h1
  · intro hx
    obtain ⟨i, hi, rfl⟩ := mem_iff_nth.1 (h x hx)
    exact ⟨i, hi, by rw [hq i hi]; exact decide_eq_true hx, rfl⟩
end Go.Proofs.YthjifmfmaiagoaaGreatDoor

/- hyper.above: whether a set contains one of the sets that were kept. -/
namespace Go.Proofs.YthjifmfmaiagoaaGreatDoor
open Go.RowKit Go.Shelf
attribute [local go_sem] Oper.semAt_some

theorem e224 : ∀ args w, (callFunc 224 args).run Tryz.prog w = .ok (.enter 224 args) w := enters_of Tryz.func224 (by kernel_rfl) rfl
theorem e243 : ∀ args w, (callFunc 243 args).run Tryz.prog w = .ok (.enter 243 args) w := enters_of Tryz.func243 (by kernel_rfl) rfl

theorem RR.fn {w : World} {A : Option Addr} {n c : Nat} {l : List (List Int)} (h : RR w A n c l) :
    ∃ X : Nat → Option Addr × Nat × Nat, ∀ i, i < n → ∃ ad, A = some ad ∧ w.cell? (ad.add i) = some (.slice (X i).1 (X i).2.1 (X i).2.2) ∧ RI w (X i).1 (X i).2.1 (X i).2.2 (row l i) := by
  have h1 : ∀ i, ∃ x : Option Addr × Nat × Nat, i < n → ∃ ad, A = some ad ∧ w.cell? (ad.add i) = some (.slice x.1 x.2.1 x.2.2) ∧ RI w x.1 x.2.1 x.2.2 (row l i) := by
    intro i
    by_cases hi : i < n
    · obtain ⟨ad, B, m, d, ha, hc, hr⟩ := h.cell i hi
      exact ⟨(B, m, d), fun _ => ⟨ad, ha, hc, hr⟩⟩
    · exact ⟨(none, 0, 0), fun hh => absurd hh hi⟩
  exact ⟨fun i => Classical.choose (h1 i), fun i hi => Classical.choose_spec (h1 i) hi⟩
theorem any_row (l : List (List Int)) (p : List Int → Bool) : (List.range l.length).any (fun i => p (row l i)) = l.any p := by
  rw [Bool.eq_iff_iff, List.any_eq_true, List.any_eq_true]
  constructor
  · rintro ⟨i, hi, h⟩
    exact ⟨row l i, row_mem (List.mem_range.1 hi), h⟩
  · rintro ⟨x, hx, h⟩
    obtain ⟨i, hi, e⟩ := List.mem_iff_getElem.1 hx
    exact ⟨i, List.mem_range.2 hi, by rw [row_eq hi, e]; exact h⟩
/-- slices.ContainsFunc over lists of numbers, the function value leaving the world as it is. -/
theorem f135_same (A : Option Addr) (n c : Nat) (l : List (List Int)) (g : Nat) (lb : Array Value) (eg : ∀ args w, (callFunc g args).run Tryz.prog w = .ok (.enter g args) w) (p : List Int → Bool) (w : World) (hr : RR w A n c l)
    (hc : ∀ x ∈ l, ∀ B m d, RI w B m d x → Calls Tryz.prog g (#[.slice B m d] ++ lb) w fun e w' => e = .returned (.bool (p x)) ∧ w = w') :
    Calls Tryz.prog 135 #[.slice A n c, .func (.func g) #[] lb] w fun e w' => e = .returned (.bool (l.any p)) ∧ w = w' := by
  obtain ⟨X, hX⟩ := hr.fn
  refine (f135_any A n c g lb eg (fun i => .slice (X i).1 (X i).2.1 (X i).2.2) (fun i => p (row l i)) (fun _ W => w = W) (fun _ W => w = W) w hr.lenle rfl (fun i hi W hW => by
    subst hW
    obtain ⟨ad, ha, hc, _⟩ := hX i hi
    exact ⟨ad, ha, hc⟩) (fun i hi W hW => by
    subst hW
    obtain ⟨ad, ha, hcell, hri⟩ := hX i hi
    exact (hc _ (row_mem (by rw [hr.len]; exact hi)) _ _ _ hri).mono fun e W' ⟨he, hw⟩ => ⟨he, by subst hw; split <;> rfl⟩)).mono fun e w' h => ?_
  obtain ⟨h1, h2⟩ := some_same h
  refine ⟨h1.trans (ret_bool ?_), h2⟩
  rw [← hr.len]
  exact any_row l p

set_option maxHeartbeats 400000 in
theorem f224_any (B : Nat) (E : Option Addr) (en ec : Nat) (e : List Int) (F : Option Addr) (fn fc : Nat) (f : List Int) (w : World) (he : RI w E en ec e) (hf : RI w F fn fc f) (hbig : en < 4611686018427387904) (h1 : Inc e) (h2 : Inc f)
    (hB : w.cell? ⟨B, 0, none⟩ = some (.slice E en ec)) :
    Calls Tryz.prog 224 #[.slice F fn fc, .pointer (some ⟨B, 0, none⟩)] w fun r w' => r = .returned (.bool (subB e f)) ∧ w = w' := by
  have hcall := f225_any E F en ec fn fc e f w he hf hbig h1 h2
  clear he hf h1 h2
  generalize subB e f = b at hcall ⊢
  go_enter Tryz.func224, Tryz.ntmps224
  go_wp2_with (go_at_call 225; refine hcall.mono ?_; rintro e w' ⟨rfl, rfl⟩)
  go_ret
  exact ⟨rfl, rfl⟩

/-- The map of the texts of the sets that were kept. -/
def knownF (outs : List (List Int)) (s : ByteArray) : Option Value := if ∃ o ∈ outs, s = ⟨(textB o).toArray⟩ then some (.bool true) else none
def KnownIs (w : World) (b : Nat) (outs : List (List Int)) : Prop := MapFn Value.string w b (knownF outs)

/-- A set of small numbers. -/
def Small (l : List Int) : Prop := Inc l ∧ (∀ x ∈ l, 0 ≤ x ∧ x < 100) ∧ l.length ≤ 10

set_option maxRecDepth 100000 in
set_option maxHeartbeats 1000000 in
theorem above_long (E O : Option Addr) (en ec on oc kb : Nat) (e : List Int) (outs : List (List Int)) (w : World) (he : RI w E en ec e) (ho : RR w O on oc outs) (hl : 6 < en) (hse : Small e) (hso : ∀ o ∈ outs, Small o) :
    Calls Tryz.prog 200 #[.slice E en ec, .slice O on oc, .map (some kb)] w fun r w' => r = .returned (.bool (outs.any (subB e))) ∧ Ext w w' := by
  have hen : en ≤ 10 := by have := hse.2.2; rw [he.len] at this; exact this
  have hlz : (6 : Int) < (en : Int) := by omega
  have hcall : ∀ W, Ext w W → W.cell? ⟨w.heap.size, 0, none⟩ = some (.slice E en ec) → Calls Tryz.prog 135 #[.slice O on oc, .func (.func 224) #[] #[.pointer (some ⟨w.heap.size, 0, none⟩)]] W fun r w' => r = .returned (.bool (outs.any (subB e))) ∧ W = w' := fun W hW hc =>
    f135_same O on oc outs 224 _ e224 _ W (ho.ext hW) fun x hx B m d hr => f224_any w.heap.size E en ec e B m d x W (he.ext hW) hr (by omega) hse.1 (hso x hx).1 hc
  have H := hid hcall
  clear hcall he ho hse hso
  generalize outs.any (subB e) = b at H ⊢
  go_enter Tryz.func200, Tryz.ntmps200
  go_wp2_with fail
  refine (H.out _ (by repeat' (first | exact Ext.refl _ | assumption | apply Ext.alloc | apply Ext.drewN | apply Ext.drew)) ?_).mono ?_
  · exact Ext.cell (((Ext.refl (w.alloc (.cells #[.slice E en ec] 22))).alloc _).alloc _) (by simp)
  rintro e w' ⟨rfl, rfl⟩
  go_wp2
  exact bodyPost_ret (v := .bool b) (by simp [results, Tryz.results200, go_sem]) rfl ⟨rfl, (by repeat' (first | exact Ext.refl _ | assumption | apply Ext.alloc | apply Ext.drewN | apply Ext.drew))⟩

theorem subsets_in (A : Option Addr) (n c : Nat) (w : World) :
    CallsIn Fence.wide 9 Tryz.prog 226 #[.slice A n c] w fun e w' => e = .returned (.func (.func 243) #[] #[.pointer (some ⟨w.heap.size, 0, none⟩)]) ∧ w' = w.alloc (.cells #[.slice A n c] 22) := by
  refine callsIn_of_wp Tryz.func226 rfl trivial ?_ rfl
  simp only [Tryz.ntmps226, List.size_toArray, List.length_cons, List.length_nil, Nat.reduceAdd, Nat.reduceSub, Array.replicate_succ, Array.replicate_zero, List.push_toArray, List.append_toArray, List.nil_append, List.cons_append]
  gi_wp2
  go_ret
  exact ⟨rfl, rfl⟩
theorem subsets_gives (Bs : Nat) (E : Option Addr) (en ec B : Nat) (e : List Int) (hm : en ≤ 6) (I : List (List Int) → World → Prop) (hI : ∀ pre A, I pre A → A.cell? ⟨Bs, 0, none⟩ = some (.slice E en ec) ∧ RI A E en ec e) :
    Gives Fence.wide 9 243 #[.pointer (some ⟨Bs, 0, none⟩)] (RdS e) (fun xs => xs = subs e) (fun pre => pre <+: subs e) B I := fun l J Jx W hJ _ hJI hY h0 =>
  subsets1_in Bs E en ec l B e W hm J Jx hJ (fun pre X hX => ⟨(hJI pre X hX).2, hI _ _ (hJI pre X hX).1⟩) hY h0

theorem knownF_at {outs : List (List Int)} {x : List Int} (hx : ∀ y ∈ x, 0 ≤ y ∧ y < 100) (ho : ∀ o ∈ outs, Small o) : knownF outs ⟨(textB x).toArray⟩ = if x ∈ outs then some (.bool true) else none := by
  unfold knownF
  by_cases h : x ∈ outs
  · rw [if_pos h, if_pos ⟨x, h, rfl⟩]
  · rw [if_neg h, if_neg]
    rintro ⟨o, hoo, e⟩
    have e1 : textB x = textB o := by
      have := congrArg (fun b : ByteArray => b.data.toList) e
      simpa using this
    exact h (by rw [textB_inj x o hx (ho o hoo).2.1 e1]; exact hoo)
theorem KeepsOthers.ext {w w' : World} (h : Ext w w') : KeepsOthers w w' := ⟨h.size, fun k o ho _ => (h.block k (by rcases Nat.lt_or_ge k w.heap.size with h2 | h2; exact h2; rw [Array.getElem?_eq_none h2] at ho; cases ho)).trans ho⟩
theorem inRound' {F : Fence} {n : Nat} {P : Program} {f : FuncId} {args : Array Value} {w : World} {R : Ending → World → Prop} (l : Nat) (h : CallsIn F n P f args w R) : CallsIn (F.inRound l) n P f args w R := h
/-- What holds between two rounds. -/
def AboveI (w : World) (E : Option Addr) (en ec kb : Nat) (outs : List (List Int)) (pre : List (List Int)) (W : World) : Prop :=
  (∀ x ∈ pre, x ∉ outs) ∧ Ext w W ∧ W.cell? ⟨w.heap.size + 1, 0, none⟩ = some (.map (some kb)) ∧ (W.cell? ⟨w.heap.size + 1 + 1, 0, none⟩ = some (.bool false) ∧ W.frozen? ⟨w.heap.size + 1 + 1, 0, none⟩ = false) ∧ W.cell? ⟨w.heap.size + 1 + 1 + 1, 0, none⟩ = some (.slice E en ec)
def AboveX (w : World) (outs : List (List Int)) (_ : Code) (pre : List (List Int)) (W : World) : Prop :=
  (∃ x ∈ pre, x ∈ outs) ∧ Ext w W ∧ W.cell? ⟨w.heap.size + 1 + 1, 0, none⟩ = some (.bool true)

set_option maxRecDepth 100000 in
set_option maxHeartbeats 2000000 in
theorem above_short (E O : Option Addr) (en ec on oc kb : Nat) (e : List Int) (outs : List (List Int)) (w : World) (he : RI w E en ec e) (hk : KnownIs w kb outs) (hl : en ≤ 6) (hse : Small e) (hso : ∀ o ∈ outs, Small o) :
    Calls Tryz.prog 200 #[.slice E en ec, .slice O on oc, .map (some kb)] w fun r w' => r = .returned (.bool (outs.any (subB e))) ∧ Ext w w' := by
  have hlz : (en : Int) ≤ 6 := by omega
  have HE := hid he
  have HK := hid hk
  have HSE := hid hse
  have HSO := hid hso
  clear he hk hse hso
  refine (callsIn_wide (n := 10)).1 ?_
  refine callsIn_of_wp_marks Tryz.func200 rfl trivial ?_ rfl
  simp only [Tryz.ntmps200, List.size_toArray, List.length_cons, List.length_nil, Nat.reduceAdd, Nat.reduceSub, Array.replicate_succ, Array.replicate_zero, List.push_toArray, List.append_toArray, List.nil_append, List.cons_append]
  gi_wp2
  refine ⟨trivial, ?_⟩
  refine (subsets_in _ _ _ _).mono ?_
  rintro r w' ⟨rfl, rfl⟩
  gi_wp2
  refine range_law (F := Fence.wide) (n := 10) rfl (by omega) (gf := 243) (lb := #[.pointer (some ⟨w.heap.size + 1 + 1 + 1, 0, none⟩)]) rfl trivial e243 (Rd := RdS e) (S := fun xs => xs = subs e) (Sp := fun pre => pre <+: subs e)
    (AboveI w E en ec kb outs) (AboveX w outs) (subsets_gives _ E en ec _ e hl _ (fun pre A hA => ⟨hA.2.2.2.2, HE.out.ext hA.2.1⟩)) (RdS.putObj e) ?hps ?hI ?hIx ?h0
    (fun args => { tmps := #[.slice E en ec, .slice O on oc, .map (some kb), .pointer (some ⟨w.heap.size, 0, none⟩), undef, .pointer (some ⟨w.heap.size + 1, 0, none⟩), .pointer (some ⟨w.heap.size + 1 + 1, 0, none⟩), args.getD 0 undef, .slice E en ec, .int .i64 en, .bool (decide (6 < (en : Int))), undef, undef, undef, .slice E en ec, .func (.func 243) #[] #[.pointer (some ⟨w.heap.size + 1 + 1 + 1, 0, none⟩)], args.getD 0 undef, undef, undef, undef, undef], defers := [] }) ?assign ?body ?done ?stop
  case hps =>
    rintro x args W ⟨_, A, n, c, rfl, _⟩
    rfl
  case hI =>
    rintro pre A C ⟨h1, h2, h3, ⟨h4, h5⟩, h6⟩ hb
    simp only [World.size_alloc] at hb
    exact ⟨h1, Below.trans h2 (Below.mono hb (by omega)), (hb.cell (p := ⟨w.heap.size + 1, 0, none⟩) (show w.heap.size + 1 < _ by omega)).trans h3, ⟨(hb.cell (p := ⟨w.heap.size + 1 + 1, 0, none⟩) (show w.heap.size + 1 + 1 < _ by omega)).trans h4, (hb.frozen (p := ⟨w.heap.size + 1 + 1, 0, none⟩) (show w.heap.size + 1 + 1 < _ by omega)).trans h5⟩, (hb.cell (p := ⟨w.heap.size + 1 + 1 + 1, 0, none⟩) (show w.heap.size + 1 + 1 + 1 < _ by omega)).trans h6⟩
  case hIx =>
    rintro c pre A C ⟨h1, h2, h3⟩ hb
    simp only [World.size_alloc] at hb
    exact ⟨h1, Below.trans h2 (Below.mono hb (by omega)), (hb.cell (p := ⟨w.heap.size + 1 + 1, 0, none⟩) (show w.heap.size + 1 + 1 < _ by omega)).trans h3⟩
  case h0 =>
    refine ⟨fun x hx => absurd hx (by simp), (by repeat' (first | exact Ext.refl _ | assumption | apply Ext.alloc | apply Ext.drewN | apply Ext.drew)), ?_, ⟨?_, ?_⟩, cellNew (by simp)⟩
    · exact Ext.cell (w := (w.alloc (.cells #[.slice E en ec] 22)).alloc (.cells #[.map (some kb)] 171)) (by repeat' (first | exact Ext.refl _ | assumption | apply Ext.alloc | apply Ext.drewN | apply Ext.drew)) (cellNew (by simp))
    · exact Ext.cell (w := ((w.alloc (.cells #[.slice E en ec] 22)).alloc (.cells #[.map (some kb)] 171)).alloc (.cells #[.bool false] 4)) (by repeat' (first | exact Ext.refl _ | assumption | apply Ext.alloc | apply Ext.drewN | apply Ext.drew)) (cellNew (by simp))
    · exact (Ext.frozen (w := ((w.alloc (.cells #[.slice E en ec] 22)).alloc (.cells #[.map (some kb)] 171)).alloc (.cells #[.bool false] 4)) (by repeat' (first | exact Ext.refl _ | assumption | apply Ext.alloc | apply Ext.drewN | apply Ext.drew)) (by simp)).trans (frozenNew (by simp))
  case assign =>
    rintro l x args W K ⟨_, A, n, c, rfl, hr⟩ hK
    gi_wp2
    exact hK
  case body =>
    rintro l pre x args W ⟨i1, i2, i3, ⟨i4, i5⟩, i6⟩ ⟨hxs, A, n, c, rfl, hr⟩
    have hxb : ∀ y ∈ x, 0 ≤ y ∧ y < 100 := fun y hy => HSE.out.2.1 y (subs_sub hxs y hy)
    have hn : n ≤ 1000 := by
      obtain ⟨b, _, hb⟩ := List.mem_map.1 hxs
      have h1 := pickTo_length e b e.length
      have h2 : (pick e b).length ≤ e.length := h1
      rw [hb, hr.len] at h2
      have := HSE.out.2.2
      omega
    have htext : ∀ m W', Ext W W' → CallsIn Fence.wide m Tryz.prog 201 #[.slice A n c] W' fun r w' => r = .returned (.string ⟨(textB x).toArray⟩) ∧ Ext W' w' := fun m W' hW =>
      callsIn_wide.2 (text_any A n c x W' (hr.ext hW) hn hxb)
    have HTx := hid htext
    have hlook : ∀ W', Ext W W' → (Instr.lookup 171 (.map (some kb)) (.string ⟨(textB x).toArray⟩) false).run Tryz.prog W' = .ok (.bool (decide (x ∈ outs))) W' := by
      intro W' hW
      have hk : KnownIs W' kb outs := MapFn.keep HK.out (by
        have h1 := HK.out.lt
        exact (hW.block kb (Nat.lt_of_lt_of_le h1 i2.size)).trans (i2.block kb h1))
      have h := run_look keys_string (T := 171) (kt := 9) (et := 4) Tryz.underlying171 Tryz.underlying9 (z := .bool false) Tryz.zeroValue4 hk ⟨(textB x).toArray⟩ false
      rw [knownF_at hxb HSO.out] at h
      rw [h]
      by_cases hx : x ∈ outs <;> simp [hx]
    have HLk := hid hlook
    clear htext hlook hr
    gi_wp2_with fail
    gi_region_with (refine ⟨trivial, ?_⟩; gi_at_call 201; refine (inRound' l (HTx.out _ _ (by repeat' (first | exact Ext.refl _ | assumption | apply Ext.alloc | apply Ext.drewN | apply Ext.drew)))).mono ?_; rintro r w1 ⟨rfl, hw1⟩; have hl1 := HLk.out w1 (Below.trans (by repeat' (first | exact Ext.refl _ | assumption | apply Ext.alloc | apply Ext.drewN | apply Ext.drew)) hw1); have hE : Ext W w1 := Below.trans (by repeat' (first | exact Ext.refl _ | assumption | apply Ext.alloc | apply Ext.drewN | apply Ext.drew)) hw1; have i3' := Ext.cell hE i3; have i4' := Ext.cell hE i4; have i5' := (Ext.frozen hE (World.block_lt_of_cell? W _ i4)).trans i5)
    all_goals gi_wp2
    all_goals first
      | exact ⟨(KeepsOthers.ext hE).trans (KeepsOthers.setCell _ _ _), ⟨x, by simp, by assumption⟩, (Below.setCell (Below.trans i2 (Below.mono hE i2.size)) (p := ⟨w.heap.size + 1 + 1, 0, none⟩) (show w.heap.size ≤ w.heap.size + 1 + 1 by omega) _), World.cell?_setCell_same' _ _ _ (by rw [i4']; rfl)⟩
      | exact ⟨KeepsOthers.ext hE, (by
          intro y hy
          rcases List.mem_append.1 hy with h | h
          · exact i1 y h
          · rw [List.mem_singleton.1 h]; assumption), Below.trans i2 (Below.mono hE i2.size), i3', ⟨i4', i5'⟩, Ext.cell hE i6⟩
  case done =>
    rintro D xs W hD rfl ⟨i1, i2, i3, ⟨i4, i5⟩, i6⟩ hK
    gi_wp2
    have hK' := (KeepsOthers.setCell W ⟨w.heap.size + 1 + 1, 0, none⟩ (.bool false)).same D _ hK rfl
    refine ⟨by simp, .inl ⟨_, _, rfl, run_takeDeferred hK', ?_⟩⟩
    have hc5 := cell_kept (World.cell?_setCell_same' W ⟨w.heap.size + 1 + 1, 0, none⟩ (.bool false) (by rw [i4]; rfl)) (grownBy_putObj' _ D (.deferred none)) (fun r e => by cases e; exact ⟨_, hK', rfl⟩)
    have hfin : outs.any (subB e) = false := by
      rw [List.any_eq_false]
      intro o ho hs
      exact i1 o (mem_subs HSE.out.1 (HSO.out o ho).1 (of_decide_eq_true hs)) ho
    refine ⟨.bool false, ?_, by rw [hfin], (Below.setCell i2 (p := ⟨w.heap.size + 1 + 1, 0, none⟩) (show w.heap.size ≤ w.heap.size + 1 + 1 by omega) _).trans (below_putObj _ _ _ (by simp at hD; omega))⟩
    simp [results, Tryz.f200, go_sem, hc5]
  case stop =>
    rintro D pre W hD hpre ⟨i1, i2, i3⟩ hK
    gi_wp2
    refine ⟨by simp, .inl ⟨_, _, rfl, run_takeDeferred hK, ?_⟩⟩
    have hc5 := cell_kept i3 (grownBy_putObj' _ D (.deferred none)) (fun r e => by cases e; exact ⟨_, hK, rfl⟩)
    have hfin : outs.any (subB e) = true := by
      obtain ⟨x, hx, hxo⟩ := i1
      exact List.any_eq_true.2 ⟨x, hxo, decide_eq_true (subs_sub (hpre.subset hx))⟩
    refine ⟨.bool true, ?_, by rw [hfin], Below.trans i2 (below_putObj _ _ _ (by simp at hD; omega))⟩
    simp [results, Tryz.f200, go_sem, hc5]

theorem above_any (E O : Option Addr) (en ec on oc kb : Nat) (e : List Int) (outs : List (List Int)) (w : World) (he : RI w E en ec e) (ho : RR w O on oc outs) (hk : KnownIs w kb outs) (hse : Small e) (hso : ∀ o ∈ outs, Small o) :
    Calls Tryz.prog 200 #[.slice E en ec, .slice O on oc, .map (some kb)] w fun r w' => r = .returned (.bool (outs.any (subB e))) ∧ Ext w w' := by
  by_cases h : en ≤ 6
  · exact above_short E O en ec on oc kb e outs w he hk h hse hso
  · exact above_long E O en ec on oc kb e outs w he ho (by omega) hse hso
end Go.Proofs.YthjifmfmaiagoaaGreatDoor
