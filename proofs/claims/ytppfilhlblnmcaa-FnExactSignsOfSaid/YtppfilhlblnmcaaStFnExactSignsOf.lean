/- What the functions compute, in plain Lean. No condition. -/
import Derived.Test.YtppfilhlblnmcaaCmp
import Derived.Test.YtppfilhlblnmcaaWMore
import Derived.Test.YtppfilhlblnmcaaWNEv
import Derived.Test.YtppfilhlblnmcaaShelf
namespace Go.Proofs.Ytppfilhlblnmcaa.PFnExactSignsOf
open Go.RowKit Go.Proofs.YtppfilhlblnmcaaW.PrintWords Go.Proofs.YtppfilhlblnmcaaW.PrintLast Go.Proofs.YtppfilhlblnmcaaW.PrintMore
set_option linter.unusedVariables false
def errW : Option Int → Value
  | none => .nilIface
  | some c => .iface 0 (.int .i64 c)
structure S50 where
  f0 : Int
  f1 : ByteArray
  f2 : Int
  f3 : Int
def z50 : S50 := ⟨(0 : Int), (⟨#[]⟩ : ByteArray), (0 : Int), (0 : Int)⟩
def k50 : Kd S50 := Kd.iso (Kd.pair (Kd.int .i64) (Kd.pair Kd.string (Kd.pair (Kd.int .i64) (Kd.int .i64)))) (fun x : S50 => (x.f0, x.f1, x.f2, x.f3))
def rd_T50 (xs : List S50) (i : Int) : S50 := xs.getD i.toNat z50
def IsS45 (w0 W : World) (g : Nat) (f0 : ByteArray) (f1 : Int) (f2 : List (S50)) : Prop := ∃ A2 c2, W.heap[g]? = some (.cells #[.string f0, .int .i64 f1, .slice A2 f2.length c2] 45 (0, 0)) ∧ w0.heap.size ≤ g ∧ Kd.C k50 w0 A2 f2.length f2
def spec_l04Scan_run.l0 : Nat → Int → Int → Int → ByteArray → Int → List (S50) → Option (ByteArray × ByteArray × Int)
  | 0, _, _, _, _, _, _ => none
  | k + 1, x1, x2, x7, x1000, x1001, x1002 => if x1001 < (x1000.size : Int) then (if 0 ≤ x1001 then (if (bt x1000 x1001) ≥ x1 then (if (bt x1000 x1001) ≤ x2 then (spec_l04Scan_run.l0 k x1 x2 x7 x1000 (wrap64 (x1001 + 1)) x1002) else (if 0 ≤ x7 then (if x7 ≤ x1001 then (if x1001 ≤ (x1000.size : Int) then (some (x1000.extract (x7 : Int).toNat (x1001 : Int).toNat, x1000, x1001)) else (none)) else (none)) else (none))) else (if 0 ≤ x7 then (if x7 ≤ x1001 then (if x1001 ≤ (x1000.size : Int) then (some (x1000.extract (x7 : Int).toNat (x1001 : Int).toNat, x1000, x1001)) else (none)) else (none)) else (none))) else (none)) else (if 0 ≤ x7 then (if x7 ≤ x1001 then (if x1001 ≤ (x1000.size : Int) then (some (x1000.extract (x7 : Int).toNat (x1001 : Int).toNat, x1000, x1001)) else (none)) else (none)) else (none))
def spec_l04Scan_run.f (k : Nat) (s0_0 : ByteArray) (s0_1 : Int) (s0_2 : List (S50)) (a1 : Int) (a2 : Int) : Option (ByteArray × ByteArray × Int) := spec_l04Scan_run.l0 k a1 a2 s0_1 s0_0 s0_1 s0_2
def spec_l04Mark.l0 : Nat → Int → ByteArray → Int → Option (Bool)
  | 0, _, _, _ => none
  | k + 1, x0, x3, x4 => if x4 < (x3.size : Int) then (if 0 ≤ x4 then (if (bt x3 x4) = x0 then (some true) else (spec_l04Mark.l0 k x0 x3 (wrap64 (x4 + 1)))) else (none)) else (some false)
def spec_l04Mark.f (k : Nat) (a0 : Int) : Option (Bool) := spec_l04Mark.l0 k a0 (⟨#[59, 44, 46, 40, 41, 43, 45, 42, 47, 37, 60, 61]⟩ : ByteArray) 0
def spec_l04Scan_runW.l0 : Nat → Int → Int → Int → ByteArray → Int → List S50 → Option (ByteArray × ByteArray × Int × List S50)
  | 0, _, _, _, _, _, _ => none
  | k + 1, x1, x2, x7, x901000, x901001, x901002 => if x901001 < (x901000.size : Int) then (if 0 ≤ x901001 then (if (bt x901000 x901001) ≥ x1 then (if (bt x901000 x901001) ≤ x2 then (spec_l04Scan_runW.l0 k x1 x2 x7 x901000 (wrap64 (x901001 + 1)) x901002) else (if 0 ≤ x7 then (if x7 ≤ x901001 then (if x901001 ≤ (x901000.size : Int) then (some (x901000.extract (x7 : Int).toNat (x901001 : Int).toNat, x901000, x901001, x901002)) else none) else none) else none)) else (if 0 ≤ x7 then (if x7 ≤ x901001 then (if x901001 ≤ (x901000.size : Int) then (some (x901000.extract (x7 : Int).toNat (x901001 : Int).toNat, x901000, x901001, x901002)) else none) else none) else none)) else none) else (if 0 ≤ x7 then (if x7 ≤ x901001 then (if x901001 ≤ (x901000.size : Int) then (some (x901000.extract (x7 : Int).toNat (x901001 : Int).toNat, x901000, x901001, x901002)) else none) else none) else none)
def spec_l04Scan_runW.f (k : Nat) (a0_0 : ByteArray) (a0_1 : Int) (l0_2 : List S50) (a1 : Int) (a2 : Int) : Option (ByteArray × ByteArray × Int × List S50) := spec_l04Scan_runW.l0 k a1 a2 a0_1 a0_0 a0_1 l0_2
def spec_l04Scan_one.l0 : Nat → Int → ByteArray → Int → List S50 → Int → ByteArray → Int → Int → Option (Bool × ByteArray × Int × List S50)
  | 0, _, _, _, _, _, _, _, _ => none
  | k + 1, x5, x901000, x901001, x901002, x902000, x902001, x902002, x902003 => if x5 < (x902001.size : Int) then (if 0 ≤ x5 then (spec_l04Scan_one.l0 k (wrap64 (x5 + 1)) x901000 x901001 x901002 x902000 x902001 (wrap64 ((wrap64 ((wrap64 (10 * x902002)) + (bt x902001 x5))) - 48)) x902003) else none) else (if (x901002.length : Int) ≥ 500 then (some (false, x901000, x901001, x901002)) else (if x901002.length < 3518437208883 then (some (true, x901000, x901001, x901002 ++ [(⟨x902000, x902001, x902002, x902003⟩ : S50)])) else none))
def spec_l04Scan_one.m (k : Nat) (a0_0 : ByteArray) (a0_1 : Int) (l0_2 : List S50) : Option (Bool × ByteArray × Int × List S50) := (spec_l04Mark.f k (bt a0_0 a0_1)).bind fun u => if u = true then (if a0_1 ≤ (wrap64 (a0_1 + 1)) then (if (wrap64 (a0_1 + 1)) ≤ (a0_0.size : Int) then (if (l0_2.length : Int) ≥ 500 then (some (false, a0_0, (wrap64 (a0_1 + 1)), l0_2)) else (if l0_2.length < 3518437208883 then (some (true, a0_0, (wrap64 (a0_1 + 1)), l0_2 ++ [(⟨3, a0_0.extract (a0_1 : Int).toNat ((wrap64 (a0_1 + 1)) : Int).toNat, 0, a0_1⟩ : S50)])) else none)) else none) else none) else (some (false, a0_0, a0_1, l0_2))
def spec_l04Scan_one.h (k : Nat) (a0_0 : ByteArray) (a0_1 : Int) (l0_2 : List S50) : Option (Bool × ByteArray × Int × List S50) := if (bt a0_0 a0_1) = 58 then (if (wrap64 (a0_1 + 1)) < (a0_0.size : Int) then (if 0 ≤ (wrap64 (a0_1 + 1)) then (if (bt a0_0 (wrap64 (a0_1 + 1))) = 61 then (if (l0_2.length : Int) ≥ 500 then (some (false, a0_0, (wrap64 (a0_1 + 2)), l0_2)) else (if l0_2.length < 3518437208883 then (some (true, a0_0, (wrap64 (a0_1 + 2)), l0_2 ++ [(⟨3, (⟨#[58, 61]⟩ : ByteArray), 0, a0_1⟩ : S50)])) else none)) else (spec_l04Scan_one.m k a0_0 a0_1 l0_2)) else none) else (spec_l04Scan_one.m k a0_0 a0_1 l0_2)) else (spec_l04Scan_one.m k a0_0 a0_1 l0_2)
def spec_l04Scan_one.g (k : Nat) (a0_0 : ByteArray) (a0_1 : Int) (l0_2 : List S50) : Option (Bool × ByteArray × Int × List S50) := if (bt a0_0 a0_1) ≥ 48 then (if (bt a0_0 a0_1) ≤ 57 then ((spec_l04Scan_runW.f k a0_0 a0_1 l0_2 48 57).bind fun s => if (s.1.size : Int) > 6 then (some (false, s.2.1, s.2.2.1, s.2.2.2)) else (spec_l04Scan_one.l0 k 0 s.2.1 s.2.2.1 s.2.2.2 2 s.1 0 a0_1)) else (spec_l04Scan_one.h k a0_0 a0_1 l0_2)) else (spec_l04Scan_one.h k a0_0 a0_1 l0_2)
def spec_l04Scan_one.f (k : Nat) (a0_0 : ByteArray) (a0_1 : Int) (l0_2 : List S50) : Option (Bool × ByteArray × Int × List S50) := if 0 ≤ a0_1 then (if a0_1 < (a0_0.size : Int) then (if (bt a0_0 a0_1) ≥ 97 then (if (bt a0_0 a0_1) ≤ 122 then ((spec_l04Scan_runW.f k a0_0 a0_1 l0_2 97 122).bind fun s => if (s.1.size : Int) > 8 then (some (false, s.2.1, s.2.2.1, s.2.2.2)) else (if (s.2.2.2.length : Int) ≥ 500 then (some (false, s.2.1, s.2.2.1, s.2.2.2)) else (if s.2.2.2.length < 3518437208883 then (some (true, s.2.1, s.2.2.1, s.2.2.2 ++ [(⟨1, s.1, 0, a0_1⟩ : S50)])) else none))) else (spec_l04Scan_one.g k a0_0 a0_1 l0_2)) else (spec_l04Scan_one.g k a0_0 a0_1 l0_2)) else none) else none
mutual
def spec_SignsOf.l0 : Nat → ByteArray → ByteArray → Int → List S50 → Option ((List S50) × Int)
  | 0, _, _, _, _ => none
  | k + 1, x0, x901000, x901001, x901002 => if x901001 < (x0.size : Int) then (if 0 ≤ x901001 then (if (bt x0 x901001) = 32 then (spec_SignsOf.l0 k x0 x901000 (wrap64 (x901001 + 1)) x901002) else (if (bt x0 x901001) = 10 then (spec_SignsOf.l0 k x0 x901000 (wrap64 (x901001 + 1)) x901002) else (if (bt x0 x901001) = 35 then (spec_SignsOf.l1 k x0 x901000 x901001 x901002) else ((spec_l04Scan_one.f k x901000 x901001 x901002).bind fun d => if d.1 = true then (spec_SignsOf.l0 k x0 d.2.1 d.2.2.1 d.2.2.2) else (some (([] : List S50), wrap64 (x901001 + 1))))))) else none) else (if x901002.length < 3518437208883 then (some (x901002, 0)) else none)
def spec_SignsOf.l1 : Nat → ByteArray → ByteArray → Int → List S50 → Option ((List S50) × Int)
  | 0, _, _, _, _ => none
  | k + 1, x0, x901000, x901001, x901002 => if x901001 < (x0.size : Int) then (if 0 ≤ x901001 then (if (bt x0 x901001) = 10 then (spec_SignsOf.l0 k x0 x901000 x901001 x901002) else (spec_SignsOf.l1 k x0 x901000 (wrap64 (x901001 + 1)) x901002)) else none) else (spec_SignsOf.l0 k x0 x901000 x901001 x901002)
end
def spec_SignsOf.f (k : Nat) (a0 : ByteArray) : Option ((List S50) × Int) := if (a0.size : Int) > 1500 then (some (([] : List S50), 1)) else (spec_SignsOf.l0 k a0 a0 0 ([] : List S50))
def impl_SignsOf_1.f (a0 : Int) : Option (Bool) := some (a0 != 10)
def impl_letter.f (a0 : Int) : Option (Bool) := if a0 ≥ 97 then (some (decide (a0 ≤ 122))) else (some false)
def impl_figure.f (a0 : Int) : Option (Bool) := if a0 ≥ 48 then (some (decide (a0 ≤ 57))) else (some false)
def stringslite_HasPrefix.f (a0 : ByteArray) (a1 : ByteArray) : Option (Bool) := if (a0.size : Int) ≥ (a1.size : Int) then (if 0 ≤ (a1.size : Int) then (if (a1.size : Int) ≤ (a0.size : Int) then (some ((a0.extract 0 ((a1.size : Int) : Int).toNat).toList == a1.toList)) else (none)) else (none)) else (some false)
def strings_HasPrefix.f (a0 : ByteArray) (a1 : ByteArray) : Option (Bool) := (stringslite_HasPrefix.f a0 a1).bind fun t105 => (some t105)
def strings_IndexByte.f (a0 : ByteArray) (a1 : Int) : Option (Int) := some (Lib.indexByte a0.data.toList a1.toNat.toUInt8)
def impl_run_impl_letter.l0 : Nat → ByteArray → Int → Option (Int)
  | 0, _, _ => none
  | k + 1, x0, x1 => if x1 < (x0.size : Int) then (if 0 ≤ x1 then ((impl_letter.f (bt x0 x1)).bind fun t109 => (if t109 = true then (impl_run_impl_letter.l0 k x0 (wrap64 (x1 + 1))) else (some x1))) else (none)) else (some x1)
def impl_run_impl_letter.f (k : Nat) (a0 : ByteArray) (a1 : Int)  : Option (Int) := impl_run_impl_letter.l0 k a0 a1
def impl_run_impl_figure.l0 : Nat → ByteArray → Int → Option (Int)
  | 0, _, _ => none
  | k + 1, x0, x1 => if x1 < (x0.size : Int) then (if 0 ≤ x1 then ((impl_figure.f (bt x0 x1)).bind fun t112 => (if t112 = true then (impl_run_impl_figure.l0 k x0 (wrap64 (x1 + 1))) else (some x1))) else (none)) else (some x1)
def impl_run_impl_figure.f (k : Nat) (a0 : ByteArray) (a1 : Int)  : Option (Int) := impl_run_impl_figure.l0 k a0 a1
def impl_signAt.l0 : Nat → ByteArray → Int → Int → List Int → Int → Int → Int → ByteArray → Int → Int → Option (Int × ByteArray × Int × Int × Int × Bool)
  | 0, _, _, _, _, _, _, _, _, _, _ => none
  | k + 1, x0, x1, x8, x51, x52, x53, x108000, x108001, x108002, x108003 => if x53 < x52 then (if 0 ≤ x53 then (if x53 < (x51.length : Int) then (impl_signAt.l0 k x0 x1 x8 x51 x52 (wrap64 (x53 + 1)) x108000 x108001 (wrap64 ((wrap64 (10 * x108002)) + (((rd x51 x53) - 48) % 256))) x108003) else (none)) else (none)) else (if 0 ≤ x1 then (if x1 ≤ x8 then (if x8 ≤ (x0.size : Int) then (some (x108000, x0.extract (x1 : Int).toNat (x8 : Int).toNat, x108002, x108003, x8, true)) else (none)) else (none)) else (none))
def impl_signAt.f (k : Nat) (a0 : ByteArray) (a1 : Int) : Option (Int × ByteArray × Int × Int × Int × Bool) := if 0 ≤ a1 then (if a1 < (a0.size : Int) then ((impl_letter.f (bt a0 a1)).bind fun t108 => (if t108 = true then ((impl_run_impl_letter.f k a0 a1).bind fun t110 => (if (wrap64 (t110 - a1)) > 8 then (some (1, (⟨#[]⟩ : ByteArray), 0, a1, a1, false)) else (if a1 ≤ t110 then (if t110 ≤ (a0.size : Int) then (some (1, a0.extract (a1 : Int).toNat (t110 : Int).toNat, 0, a1, t110, true)) else (none)) else (none)))) else ((impl_figure.f (bt a0 a1)).bind fun t111 => (if t111 = true then ((impl_run_impl_figure.f k a0 a1).bind fun t113 => (if (wrap64 (t113 - a1)) > 6 then (some (2, (⟨#[]⟩ : ByteArray), 0, a1, a1, false)) else (if a1 ≤ t113 then (if t113 ≤ (a0.size : Int) then (impl_signAt.l0 k a0 a1 t113 (bytesOf (a0.extract (a1 : Int).toNat (t113 : Int).toNat)) ((bytesOf (a0.extract (a1 : Int).toNat (t113 : Int).toNat)).length : Int) 0 2 (⟨#[]⟩ : ByteArray) 0 a1) else (none)) else (none)))) else (if a1 ≤ (a0.size : Int) then ((strings_HasPrefix.f (a0.extract (a1 : Int).toNat a0.size) (⟨#[58, 61]⟩ : ByteArray)).bind fun t116 => (if t116 = true then (if a1 ≤ (wrap64 (a1 + 2)) then (if (wrap64 (a1 + 2)) ≤ (a0.size : Int) then (some (3, a0.extract (a1 : Int).toNat ((wrap64 (a1 + 2)) : Int).toNat, 0, a1, wrap64 (a1 + 2), true)) else (none)) else (none)) else ((strings_IndexByte.f (⟨#[59, 44, 46, 40, 41, 43, 45, 42, 47, 37, 60, 61]⟩ : ByteArray) (bt a0 a1)).bind fun t117 => (if t117 ≥ 0 then (if a1 ≤ (wrap64 (a1 + 1)) then (if (wrap64 (a1 + 1)) ≤ (a0.size : Int) then (some (3, a0.extract (a1 : Int).toNat ((wrap64 (a1 + 1)) : Int).toNat, 0, a1, wrap64 (a1 + 1), true)) else (none)) else (none)) else (some (0, (⟨#[]⟩ : ByteArray), 0, a1, a1, false)))))) else (none)))))) else (none)) else (none)
def impl_run_impl_SignsOf_1.l0 : Nat → ByteArray → Int → Option (Int)
  | 0, _, _ => none
  | k + 1, x0, x1 => if x1 < (x0.size : Int) then (if 0 ≤ x1 then ((impl_SignsOf_1.f (bt x0 x1)).bind fun t118 => (if t118 = true then (impl_run_impl_SignsOf_1.l0 k x0 (wrap64 (x1 + 1))) else (some x1))) else (none)) else (some x1)
def impl_run_impl_SignsOf_1.f (k : Nat) (a0 : ByteArray) (a1 : Int)  : Option (Int) := impl_run_impl_SignsOf_1.l0 k a0 a1
mutual
def impl_SignsOf.l0 : Nat → ByteArray → List (S50) → Int → Option ((List (S50)) × Int)
  | 0, _, _, _ => none
  | k + 1, x0, x4, x5 => if x5 < (x0.size : Int) then (if 0 ≤ x5 then (if (bt x0 x5) = 32 then (impl_SignsOf.j1 k x0 x4 x5 (bt x0 x5) ((bt x0 x5) == 32)) else (impl_SignsOf.j1 k x0 x4 x5 (bt x0 x5) ((bt x0 x5) == 10))) else (none)) else (some (x4, 0))
def impl_SignsOf.j1 : Nat → ByteArray → List (S50) → Int → Int → Bool → Option ((List (S50)) × Int)
  | 0, _, _, _, _, _ => none
  | k + 1, x0, x4, x5, x18, x19 => if x19 = true then (impl_SignsOf.l0 k x0 x4 (wrap64 (x5 + 1))) else (if x18 = 35 then ((impl_run_impl_SignsOf_1.f k x0 x5).bind fun t119 => (impl_SignsOf.l0 k x0 x4 t119)) else ((impl_signAt.f k x0 x5).bind fun bt120 => (if bt120.2.2.2.2.2 = true then (if (x4.length : Int) = 500 then (some (([] : List (S50)), wrap64 (x5 + 1))) else (if x4.length < 3518437208883 then (impl_SignsOf.l0 k x0 (x4 ++ [(⟨bt120.1, bt120.2.1, bt120.2.2.1, bt120.2.2.2.1⟩ : S50)]) bt120.2.2.2.2.1) else (none))) else (some (([] : List (S50)), wrap64 (x5 + 1))))))
end
def impl_SignsOf.f (k : Nat) (a0 : ByteArray) : Option ((List (S50)) × Int) := if (a0.size : Int) > 1500 then (some (([] : List (S50)), 1)) else (impl_SignsOf.l0 k a0 ([] : List (S50)) 0)
def laws_eqSign.f (a0_0 : Int) (a0_1 : ByteArray) (a0_2 : Int) (a0_3 : Int) (a1_0 : Int) (a1_1 : ByteArray) (a1_2 : Int) (a1_3 : Int) : Option (Bool) := if a0_0 = a1_0 then (if a0_1.toList = a1_1.toList then (if a0_2 = a1_2 then (if a0_3 = a1_3 then (some true) else (some false)) else (some false)) else (some false)) else (some false)
def laws_eqSignS.l0 : Nat → List (S50) → List (S50) → Int → Option (Bool)
  | 0, _, _, _ => none
  | k + 1, x0, x1, x5 => if x5 < (x0.length : Int) then (if 0 ≤ x5 then (if x5 < (x1.length : Int) then ((laws_eqSign.f ((rd_T50 x0 x5).f0) ((rd_T50 x0 x5).f1) ((rd_T50 x0 x5).f2) ((rd_T50 x0 x5).f3) ((rd_T50 x1 x5).f0) ((rd_T50 x1 x5).f1) ((rd_T50 x1 x5).f2) ((rd_T50 x1 x5).f3)).bind fun t134 => (if t134 = true then (laws_eqSignS.l0 k x0 x1 (wrap64 (x5 + 1))) else (some false))) else (none)) else (none)) else (some true)
def laws_eqSignS.f (k : Nat) (l0 : List (S50)) (l1 : List (S50)) : Option (Bool) := if (l0.length : Int) = (l1.length : Int) then (laws_eqSignS.l0 k l0 l1 0) else (some false)
def laws_markText.l0 : Nat → Int → ByteArray → Option (ByteArray)
  | 0, _, _ => none
  | k + 1, x0, x3 => if x0 > 0 then ((some (([(wrap64 (48 + (Int.tmod x0 10))) % 256] : List Int) : List Int)).bind fun y135 => (if (strOfNums y135).size + x3.size ≤ 9223372036854775807 then (laws_markText.l0 k (wrap64 (Int.tdiv x0 10)) ((strOfNums y135) ++ x3)) else (none))) else (if 1 + x3.size ≤ 9223372036854775807 then (some ((⟨#[109]⟩ : ByteArray) ++ x3)) else (none))
def laws_markText.f (k : Nat) (a0 : Int) : Option (ByteArray) := if a0 ≤ 0 then (some (⟨#[109, 48]⟩ : ByteArray)) else (laws_markText.l0 k a0 (⟨#[]⟩ : ByteArray))
def laws_markSignS.l0 : Nat → List (S50) → Int → Int → Option (Int × (List (S50)))
  | 0, _, _, _ => none
  | k + 1, x0, x1, x5 => if x5 < (x0.length : Int) then (if 0 ≤ x5 then ((some (x0.set (x5 : Int).toNat (⟨x1, (rd_T50 x0 x5).f1, (rd_T50 x0 x5).f2, (rd_T50 x0 x5).f3⟩ : S50) : List (S50))).bind fun y138 => ((laws_markText.f k (wrap64 (x1 + 1))).bind fun t139 => ((some (y138.set (x5 : Int).toNat (⟨(rd_T50 y138 x5).f0, t139, (rd_T50 y138 x5).f2, (rd_T50 y138 x5).f3⟩ : S50) : List (S50))).bind fun y140 => ((some (y140.set (x5 : Int).toNat (⟨(rd_T50 y140 x5).f0, (rd_T50 y140 x5).f1, wrap64 ((wrap64 (x1 + 1)) + 1), (rd_T50 y140 x5).f3⟩ : S50) : List (S50))).bind fun y141 => (laws_markSignS.l0 k (y141.set (x5 : Int).toNat (⟨(rd_T50 y141 x5).f0, (rd_T50 y141 x5).f1, (rd_T50 y141 x5).f2, wrap64 ((wrap64 ((wrap64 (x1 + 1)) + 1)) + 1)⟩ : S50)) (wrap64 ((wrap64 ((wrap64 ((wrap64 (x1 + 1)) + 1)) + 1)) + 1)) (wrap64 (x5 + 1))))))) else (none)) else (some (x1, x0))
def laws_markSignS.f (k : Nat) (l0 : List (S50)) (a1 : Int) : Option (Int × (List (S50))) := laws_markSignS.l0 k l0 a1 0
def laws_heldSignS.l0 : Nat → List (S50) → Int → Int → Option (Int)
  | 0, _, _, _ => none
  | k + 1, x0, x1, x5 => if x5 < (x0.length : Int) then (if 0 ≤ x5 then (if ((rd_T50 x0 x5).f0) = x1 then ((laws_markText.f k (wrap64 (x1 + 1))).bind fun t145 => (if ((rd_T50 x0 x5).f1).toList = t145.toList then (if ((rd_T50 x0 x5).f2) = (wrap64 ((wrap64 (x1 + 1)) + 1)) then (if ((rd_T50 x0 x5).f3) = (wrap64 ((wrap64 ((wrap64 (x1 + 1)) + 1)) + 1)) then (laws_heldSignS.l0 k x0 (wrap64 ((wrap64 ((wrap64 ((wrap64 (x1 + 1)) + 1)) + 1)) + 1)) (wrap64 (x5 + 1))) else (some (-1))) else (some (-1))) else (some (-1)))) else (some (-1))) else (none)) else (some x1)
def laws_heldSignS.f (k : Nat) (l0 : List (S50)) (a1 : Int) : Option (Int) := laws_heldSignS.l0 k l0 a1 0
mutual
def laws_FnExactSignsOf.j0 : Nat → ByteArray → List (S50) → Int → List (S50) → Bool → Option (Bool)
  | 0, _, _, _, _, _ => none
  | k + 1, x0, x3, x4, x5, x32 => if x32 = true then (some false) else ((laws_markSignS.f k x5 1).bind fun bt157 => ((laws_heldSignS.f k bt157.2 1).bind fun t159 => (if t159 < 0 then (some false) else (if t159 = bt157.1 then ((impl_SignsOf.f k x0).bind fun bt160 => ((laws_eqSignS.f k bt160.1 x3).bind fun t164 => (if t164 = true then (laws_FnExactSignsOf.j1 k bt157.2 bt157.1 (bt160.2 != x4)) else (laws_FnExactSignsOf.j1 k bt157.2 bt157.1 true)))) else (some false)))))
def laws_FnExactSignsOf.j1 : Nat → List (S50) → Int → Bool → Option (Bool)
  | 0, _, _, _ => none
  | k + 1, x5, x7, x57 => if x57 = true then (some false) else ((laws_heldSignS.f k x5 1).bind fun t165 => (if t165 < 0 then (some false) else (if t165 = x7 then (some true) else (some false))))
end
def laws_FnExactSignsOf.f (k : Nat) (a0 : ByteArray) : Option (Bool) := if (a0.size : Int) > 1048576 then (some true) else ((spec_SignsOf.f k a0).bind fun bt148 => ((impl_SignsOf.f k a0).bind fun bt152 => ((laws_eqSignS.f k bt152.1 bt148.1).bind fun t156 => (if t156 = true then (laws_FnExactSignsOf.j0 k a0 bt148.1 bt148.2 bt152.1 (bt152.2 != bt148.2)) else (laws_FnExactSignsOf.j0 k a0 bt148.1 bt148.2 bt152.1 true)))))
end Go.Proofs.Ytppfilhlblnmcaa.PFnExactSignsOf
