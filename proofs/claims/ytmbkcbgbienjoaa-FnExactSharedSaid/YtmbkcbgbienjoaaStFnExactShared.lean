/- What the functions compute, in plain Lean. No condition. -/
import Derived.Test.YtmbkcbgbienjoaaCmp
import Derived.Test.YtmbkcbgbienjoaaWMore
import Derived.Test.YtmbkcbgbienjoaaWNEv
namespace Go.Proofs.Ytmbkcbgbienjoaa.PFnExactShared
open Go.RowKit Go.Proofs.YtmbkcbgbienjoaaW.PrintWords Go.Proofs.YtmbkcbgbienjoaaW.PrintLast Go.Proofs.YtmbkcbgbienjoaaW.PrintMore
set_option linter.unusedVariables false
def errW : Option Int → Value
  | none => .nilIface
  | some c => .iface 0 (.int .i64 c)
def rd_L2 (xs : List (List Int)) (i : Int) : (List Int) := xs.getD i.toNat ([] : List Int)
structure S113 where
  f0 : Int
  f1 : Int
  f2 : ByteArray
  f3 : ByteArray
  f4 : ByteArray
  f5 : (List Int)
def z113 : S113 := ⟨(0 : Int), (0 : Int), (⟨#[]⟩ : ByteArray), (⟨#[]⟩ : ByteArray), (⟨#[]⟩ : ByteArray), ([] : List Int)⟩
def k113 : Kd S113 := Kd.iso (Kd.pair (Kd.int .i64) (Kd.pair (Kd.int .i64) (Kd.pair Kd.string (Kd.pair Kd.string (Kd.pair Kd.string (Kd.slice 3 (Kd.int .i64))))))) (fun x : S113 => (x.f0, x.f1, x.f2, x.f3, x.f4, x.f5))
def rd_T113 (xs : List S113) (i : Int) : S113 := xs.getD i.toNat z113
structure S143 where
  f0 : ByteArray
  f1 : ByteArray
  f2 : Int
def z143 : S143 := ⟨(⟨#[]⟩ : ByteArray), (⟨#[]⟩ : ByteArray), (0 : Int)⟩
def k143 : Kd S143 := Kd.iso (Kd.pair Kd.string (Kd.pair Kd.string (Kd.int .i64))) (fun x : S143 => (x.f0, x.f1, x.f2))
def rd_T143 (xs : List S143) (i : Int) : S143 := xs.getD i.toNat z143
def rd_L5 (xs : List (List ByteArray)) (i : Int) : (List ByteArray) := xs.getD i.toNat ([] : List ByteArray)
def rd_L6 (xs : List (List S143)) (i : Int) : (List S143) := xs.getD i.toNat ([] : List S143)
structure S117 where
  f0 : ByteArray
  f1 : (List ByteArray)
  f2 : (List ByteArray)
  f3 : (List S143)
def z117 : S117 := ⟨(⟨#[]⟩ : ByteArray), ([] : List ByteArray), ([] : List ByteArray), ([] : List S143)⟩
def k117 : Kd S117 := Kd.iso (Kd.pair Kd.string (Kd.pair (Kd.slice 9 Kd.string) (Kd.pair (Kd.slice 9 Kd.string) (Kd.slice 143 k143)))) (fun x : S117 => (x.f0, x.f1, x.f2, x.f3))
def rd_T117 (xs : List S117) (i : Int) : S117 := xs.getD i.toNat z117
structure S119 where
  f0 : ByteArray
  f1 : (List ByteArray)
  f2 : (List ByteArray)
  f3 : Int
def z119 : S119 := ⟨(⟨#[]⟩ : ByteArray), ([] : List ByteArray), ([] : List ByteArray), (0 : Int)⟩
def k119 : Kd S119 := Kd.iso (Kd.pair Kd.string (Kd.pair (Kd.slice 9 Kd.string) (Kd.pair (Kd.slice 9 Kd.string) (Kd.int .i64)))) (fun x : S119 => (x.f0, x.f1, x.f2, x.f3))
def rd_T119 (xs : List S119) (i : Int) : S119 := xs.getD i.toNat z119
structure S77 where
  f0 : Int
  f1 : Int
  f2 : ByteArray
  f3 : ByteArray
  f4 : ByteArray
  f5 : (List Int)
def z77 : S77 := ⟨(0 : Int), (0 : Int), (⟨#[]⟩ : ByteArray), (⟨#[]⟩ : ByteArray), (⟨#[]⟩ : ByteArray), ([] : List Int)⟩
def k77 : Kd S77 := Kd.iso (Kd.pair (Kd.int .i64) (Kd.pair (Kd.int .i64) (Kd.pair Kd.string (Kd.pair Kd.string (Kd.pair Kd.string (Kd.slice 3 (Kd.int .i64))))))) (fun x : S77 => (x.f0, x.f1, x.f2, x.f3, x.f4, x.f5))
def rd_T77 (xs : List S77) (i : Int) : S77 := xs.getD i.toNat z77
structure S131 where
  f0 : ByteArray
  f1 : ByteArray
  f2 : Int
def z131 : S131 := ⟨(⟨#[]⟩ : ByteArray), (⟨#[]⟩ : ByteArray), (0 : Int)⟩
def k131 : Kd S131 := Kd.iso (Kd.pair Kd.string (Kd.pair Kd.string (Kd.int .i64))) (fun x : S131 => (x.f0, x.f1, x.f2))
def rd_T131 (xs : List S131) (i : Int) : S131 := xs.getD i.toNat z131
def rd_L11 (xs : List (List S131)) (i : Int) : (List S131) := xs.getD i.toNat ([] : List S131)
structure S106 where
  f0 : ByteArray
  f1 : (List ByteArray)
  f2 : (List ByteArray)
  f3 : (List S131)
def z106 : S106 := ⟨(⟨#[]⟩ : ByteArray), ([] : List ByteArray), ([] : List ByteArray), ([] : List S131)⟩
def k106 : Kd S106 := Kd.iso (Kd.pair Kd.string (Kd.pair (Kd.slice 9 Kd.string) (Kd.pair (Kd.slice 9 Kd.string) (Kd.slice 131 k131)))) (fun x : S106 => (x.f0, x.f1, x.f2, x.f3))
def rd_T106 (xs : List S106) (i : Int) : S106 := xs.getD i.toNat z106
structure S103 where
  f0 : ByteArray
  f1 : (List ByteArray)
  f2 : (List ByteArray)
  f3 : Int
def z103 : S103 := ⟨(⟨#[]⟩ : ByteArray), ([] : List ByteArray), ([] : List ByteArray), (0 : Int)⟩
def k103 : Kd S103 := Kd.iso (Kd.pair Kd.string (Kd.pair (Kd.slice 9 Kd.string) (Kd.pair (Kd.slice 9 Kd.string) (Kd.int .i64)))) (fun x : S103 => (x.f0, x.f1, x.f2, x.f3))
def rd_T103 (xs : List S103) (i : Int) : S103 := xs.getD i.toNat z103
def laws_szIntS.f (l0 : List Int) (a1 : Int) : Option (Int) := if (wrap64 (a1 - (l0.length : Int))) < 0 then (some (-1)) else (some (wrap64 (a1 - (l0.length : Int))))
def laws_szNode.f (a0_0 : Int) (a0_1 : Int) (a0_2 : ByteArray) (a0_3 : ByteArray) (a0_4 : ByteArray) (l0_5 : List Int) (a1 : Int) : Option (Int) := if (wrap64 (a1 - (a0_2.size : Int))) < 0 then (some (-1)) else (if (wrap64 ((wrap64 (a1 - (a0_2.size : Int))) - (a0_3.size : Int))) < 0 then (some (-1)) else (if (wrap64 ((wrap64 ((wrap64 (a1 - (a0_2.size : Int))) - (a0_3.size : Int))) - (a0_4.size : Int))) < 0 then (some (-1)) else ((laws_szIntS.f l0_5 (wrap64 ((wrap64 ((wrap64 (a1 - (a0_2.size : Int))) - (a0_3.size : Int))) - (a0_4.size : Int)))).bind fun t102 => (if t102 < 0 then (some (-1)) else (some t102)))))
def laws_szNodeS.l0 : Nat → List (S113) → Int → Int → Option (Int)
  | 0, _, _, _ => none
  | k + 1, x0, x1, x5 => if x5 < (x0.length : Int) then (if 0 ≤ x5 then ((laws_szNode.f ((rd_T113 x0 x5).f0) ((rd_T113 x0 x5).f1) ((rd_T113 x0 x5).f2) ((rd_T113 x0 x5).f3) ((rd_T113 x0 x5).f4) ((rd_T113 x0 x5).f5) x1).bind fun t104 => (if t104 < 0 then (some (-1)) else (laws_szNodeS.l0 k x0 t104 (wrap64 (x5 + 1))))) else (none)) else (some x1)
def laws_szNodeS.f (k : Nat) (l0 : List (S113)) (a1 : Int) : Option (Int) := if (wrap64 (a1 - (l0.length : Int))) < 0 then (some (-1)) else (laws_szNodeS.l0 k l0 (wrap64 (a1 - (l0.length : Int))) 0)
def laws_szStringS.l0 : Nat → List ByteArray → Int → Int → Option (Int)
  | 0, _, _, _ => none
  | k + 1, x0, x1, x5 => if x5 < (x0.length : Int) then (if 0 ≤ x5 then (if (wrap64 (x1 - ((rdOf ByteArray.empty x0 x5).size : Int))) < 0 then (some (-1)) else (laws_szStringS.l0 k x0 (wrap64 (x1 - ((rdOf ByteArray.empty x0 x5).size : Int))) (wrap64 (x5 + 1)))) else (none)) else (some x1)
def laws_szStringS.f (k : Nat) (l0 : List ByteArray) (a1 : Int) : Option (Int) := if (wrap64 (a1 - (l0.length : Int))) < 0 then (some (-1)) else (laws_szStringS.l0 k l0 (wrap64 (a1 - (l0.length : Int))) 0)
def laws_szEntry.f (a0_0 : ByteArray) (a0_1 : ByteArray) (a0_2 : Int) (a1 : Int) : Option (Int) := if (wrap64 (a1 - (a0_0.size : Int))) < 0 then (some (-1)) else (if (wrap64 ((wrap64 (a1 - (a0_0.size : Int))) - (a0_1.size : Int))) < 0 then (some (-1)) else (some (wrap64 ((wrap64 (a1 - (a0_0.size : Int))) - (a0_1.size : Int)))))
def laws_szEntryS.l0 : Nat → List (S143) → Int → Int → Option (Int)
  | 0, _, _, _ => none
  | k + 1, x0, x1, x5 => if x5 < (x0.length : Int) then (if 0 ≤ x5 then ((laws_szEntry.f ((rd_T143 x0 x5).f0) ((rd_T143 x0 x5).f1) ((rd_T143 x0 x5).f2) x1).bind fun t108 => (if t108 < 0 then (some (-1)) else (laws_szEntryS.l0 k x0 t108 (wrap64 (x5 + 1))))) else (none)) else (some x1)
def laws_szEntryS.f (k : Nat) (l0 : List (S143)) (a1 : Int) : Option (Int) := if (wrap64 (a1 - (l0.length : Int))) < 0 then (some (-1)) else (laws_szEntryS.l0 k l0 (wrap64 (a1 - (l0.length : Int))) 0)
def laws_szMonitor.f (k : Nat) (a0_0 : ByteArray) (l0_1 : List ByteArray) (l0_2 : List ByteArray) (l0_3 : List (S143)) (a1 : Int) : Option (Int) := if (wrap64 (a1 - (a0_0.size : Int))) < 0 then (some (-1)) else ((laws_szStringS.f k l0_1 (wrap64 (a1 - (a0_0.size : Int)))).bind fun t110 => (if t110 < 0 then (some (-1)) else ((laws_szStringS.f k l0_2 t110).bind fun t111 => (if t111 < 0 then (some (-1)) else ((laws_szEntryS.f k l0_3 t111).bind fun t112 => (if t112 < 0 then (some (-1)) else (some t112)))))))
def laws_szMonitorS.l0 : Nat → List (S117) → Int → Int → Option (Int)
  | 0, _, _, _ => none
  | k + 1, x0, x1, x5 => if x5 < (x0.length : Int) then (if 0 ≤ x5 then ((laws_szMonitor.f k ((rd_T117 x0 x5).f0) ((rd_T117 x0 x5).f1) ((rd_T117 x0 x5).f2) ((rd_T117 x0 x5).f3) x1).bind fun t114 => (if t114 < 0 then (some (-1)) else (laws_szMonitorS.l0 k x0 t114 (wrap64 (x5 + 1))))) else (none)) else (some x1)
def laws_szMonitorS.f (k : Nat) (l0 : List (S117)) (a1 : Int) : Option (Int) := if (wrap64 (a1 - (l0.length : Int))) < 0 then (some (-1)) else (laws_szMonitorS.l0 k l0 (wrap64 (a1 - (l0.length : Int))) 0)
def laws_szProcess.f (k : Nat) (a0_0 : ByteArray) (l0_1 : List ByteArray) (l0_2 : List ByteArray) (a0_3 : Int) (a1 : Int) : Option (Int) := if (wrap64 (a1 - (a0_0.size : Int))) < 0 then (some (-1)) else ((laws_szStringS.f k l0_1 (wrap64 (a1 - (a0_0.size : Int)))).bind fun t116 => (if t116 < 0 then (some (-1)) else ((laws_szStringS.f k l0_2 t116).bind fun t117 => (if t117 < 0 then (some (-1)) else (some t117)))))
def laws_szProcessS.l0 : Nat → List (S119) → Int → Int → Option (Int)
  | 0, _, _, _ => none
  | k + 1, x0, x1, x5 => if x5 < (x0.length : Int) then (if 0 ≤ x5 then ((laws_szProcess.f k ((rd_T119 x0 x5).f0) ((rd_T119 x0 x5).f1) ((rd_T119 x0 x5).f2) ((rd_T119 x0 x5).f3) x1).bind fun t119 => (if t119 < 0 then (some (-1)) else (laws_szProcessS.l0 k x0 t119 (wrap64 (x5 + 1))))) else (none)) else (some x1)
def laws_szProcessS.f (k : Nat) (l0 : List (S119)) (a1 : Int) : Option (Int) := if (wrap64 (a1 - (l0.length : Int))) < 0 then (some (-1)) else (laws_szProcessS.l0 k l0 (wrap64 (a1 - (l0.length : Int))) 0)
def laws_szProgram.f (k : Nat) (l0_0 : List (S113)) (l0_1 : List (S117)) (l0_2 : List (S119)) (a1 : Int) : Option (Int) := (laws_szNodeS.f k l0_0 a1).bind fun t121 => (if t121 < 0 then (some (-1)) else ((laws_szMonitorS.f k l0_1 t121).bind fun t122 => (if t122 < 0 then (some (-1)) else ((laws_szProcessS.f k l0_2 t122).bind fun t123 => (if t123 < 0 then (some (-1)) else (some t123))))))
def laws_toIntS.l0 : Nat → List Int → List Int → Int → Option (List Int)
  | 0, _, _, _ => none
  | k + 1, x0, x3, x4 => if x4 < (x0.length : Int) then (if 0 ≤ x4 then (if x4 < (x3.length : Int) then (laws_toIntS.l0 k x0 (x3.set (x4 : Int).toNat (rd x0 x4)) (wrap64 (x4 + 1))) else (none)) else (none)) else (some x3)
def laws_toIntS.f (k : Nat) (l0 : List Int) : Option (List Int) := if 0 ≤ (l0.length : Int) then (if ((l0.length : Int) : Int).toNat ≤ 35184372088832 then (laws_toIntS.l0 k l0 (List.replicate ((l0.length : Int) : Int).toNat 0) 0) else (none)) else (none)
def laws_toNode.f (k : Nat) (a0_0 : Int) (a0_1 : Int) (a0_2 : ByteArray) (a0_3 : ByteArray) (a0_4 : ByteArray) (l0_5 : List Int) : Option (Int × Int × ByteArray × ByteArray × ByteArray × List Int) := (laws_toIntS.f k l0_5).bind fun t132 => (some (a0_0, a0_1, a0_2, a0_3, a0_4, t132))
def laws_toNodeS.l0 : Nat → List (S113) → List (S77) → Int → Option ((List (S77)))
  | 0, _, _, _ => none
  | k + 1, x0, x3, x4 => if x4 < (x0.length : Int) then (if 0 ≤ x4 then ((laws_toNode.f k ((rd_T113 x0 x4).f0) ((rd_T113 x0 x4).f1) ((rd_T113 x0 x4).f2) ((rd_T113 x0 x4).f3) ((rd_T113 x0 x4).f4) ((rd_T113 x0 x4).f5)).bind fun bt139 => (if x4 < (x3.length : Int) then (laws_toNodeS.l0 k x0 (x3.set (x4 : Int).toNat (⟨bt139.1, bt139.2.1, bt139.2.2.1, bt139.2.2.2.1, bt139.2.2.2.2.1, bt139.2.2.2.2.2⟩ : S77)) (wrap64 (x4 + 1))) else (none))) else (none)) else (some x3)
def laws_toNodeS.f (k : Nat) (l0 : List (S113)) : Option ((List (S77))) := if 0 ≤ (l0.length : Int) then (if ((l0.length : Int) : Int).toNat ≤ 3198579280802 then (laws_toNodeS.l0 k l0 (List.replicate ((l0.length : Int) : Int).toNat z77) 0) else (none)) else (none)
def laws_toStringS.l0 : Nat → List ByteArray → List ByteArray → Int → Option (List ByteArray)
  | 0, _, _, _ => none
  | k + 1, x0, x3, x4 => if x4 < (x0.length : Int) then (if 0 ≤ x4 then (if x4 < (x3.length : Int) then (laws_toStringS.l0 k x0 (x3.set (x4 : Int).toNat (rdOf ByteArray.empty x0 x4)) (wrap64 (x4 + 1))) else (none)) else (none)) else (some x3)
def laws_toStringS.f (k : Nat) (l0 : List ByteArray) : Option (List ByteArray) := if 0 ≤ (l0.length : Int) then (if ((l0.length : Int) : Int).toNat ≤ 17592186044416 then (laws_toStringS.l0 k l0 (List.replicate ((l0.length : Int) : Int).toNat (⟨#[]⟩ : ByteArray)) 0) else (none)) else (none)
def laws_toEntry.f (a0_0 : ByteArray) (a0_1 : ByteArray) (a0_2 : Int) : Option (ByteArray × ByteArray × Int) := some (a0_0, a0_1, a0_2)
def laws_toEntryS.l0 : Nat → List (S143) → List (S131) → Int → Option ((List (S131)))
  | 0, _, _, _ => none
  | k + 1, x0, x3, x4 => if x4 < (x0.length : Int) then (if 0 ≤ x4 then ((laws_toEntry.f ((rd_T143 x0 x4).f0) ((rd_T143 x0 x4).f1) ((rd_T143 x0 x4).f2)).bind fun bt160 => (if x4 < (x3.length : Int) then (laws_toEntryS.l0 k x0 (x3.set (x4 : Int).toNat (⟨bt160.1, bt160.2.1, bt160.2.2⟩ : S131)) (wrap64 (x4 + 1))) else (none))) else (none)) else (some x3)
def laws_toEntryS.f (k : Nat) (l0 : List (S143)) : Option ((List (S131))) := if 0 ≤ (l0.length : Int) then (if ((l0.length : Int) : Int).toNat ≤ 7036874417766 then (laws_toEntryS.l0 k l0 (List.replicate ((l0.length : Int) : Int).toNat z131) 0) else (none)) else (none)
def laws_toMonitor.f (k : Nat) (a0_0 : ByteArray) (l0_1 : List ByteArray) (l0_2 : List ByteArray) (l0_3 : List (S143)) : Option (ByteArray × List ByteArray × List ByteArray × (List (S131))) := (laws_toStringS.f k l0_1).bind fun t167 => ((laws_toStringS.f k l0_2).bind fun t170 => ((laws_toEntryS.f k l0_3).bind fun t173 => (some (a0_0, t167, t170, t173))))
def laws_toMonitorS.l0 : Nat → List (S117) → List (S106) → Int → Option ((List (S106)))
  | 0, _, _, _ => none
  | k + 1, x0, x3, x4 => if x4 < (x0.length : Int) then (if 0 ≤ x4 then ((laws_toMonitor.f k ((rd_T117 x0 x4).f0) ((rd_T117 x0 x4).f1) ((rd_T117 x0 x4).f2) ((rd_T117 x0 x4).f3)).bind fun bt180 => (if x4 < (x3.length : Int) then (laws_toMonitorS.l0 k x0 (x3.set (x4 : Int).toNat (⟨bt180.1, bt180.2.1, bt180.2.2.1, bt180.2.2.2⟩ : S106)) (wrap64 (x4 + 1))) else (none))) else (none)) else (some x3)
def laws_toMonitorS.f (k : Nat) (l0 : List (S117)) : Option ((List (S106))) := if 0 ≤ (l0.length : Int) then (if ((l0.length : Int) : Int).toNat ≤ 3198579280802 then (laws_toMonitorS.l0 k l0 (List.replicate ((l0.length : Int) : Int).toNat z106) 0) else (none)) else (none)
def laws_toProcess.f (k : Nat) (a0_0 : ByteArray) (l0_1 : List ByteArray) (l0_2 : List ByteArray) (a0_3 : Int) : Option (ByteArray × List ByteArray × List ByteArray × Int) := (laws_toStringS.f k l0_1).bind fun t194 => ((laws_toStringS.f k l0_2).bind fun t197 => (some (a0_0, t194, t197, a0_3)))
def laws_toProcessS.l0 : Nat → List (S119) → List (S103) → Int → Option ((List (S103)))
  | 0, _, _, _ => none
  | k + 1, x0, x3, x4 => if x4 < (x0.length : Int) then (if 0 ≤ x4 then ((laws_toProcess.f k ((rd_T119 x0 x4).f0) ((rd_T119 x0 x4).f1) ((rd_T119 x0 x4).f2) ((rd_T119 x0 x4).f3)).bind fun bt204 => (if x4 < (x3.length : Int) then (laws_toProcessS.l0 k x0 (x3.set (x4 : Int).toNat (⟨bt204.1, bt204.2.1, bt204.2.2.1, bt204.2.2.2⟩ : S103)) (wrap64 (x4 + 1))) else (none))) else (none)) else (some x3)
def laws_toProcessS.f (k : Nat) (l0 : List (S119)) : Option ((List (S103))) := if 0 ≤ (l0.length : Int) then (if ((l0.length : Int) : Int).toNat ≤ 3909374676536 then (laws_toProcessS.l0 k l0 (List.replicate ((l0.length : Int) : Int).toNat z103) 0) else (none)) else (none)
def laws_toProgram.f (k : Nat) (l0_0 : List (S113)) (l0_1 : List (S117)) (l0_2 : List (S119)) : Option ((List (S77)) × (List (S106)) × (List (S103))) := (laws_toNodeS.f k l0_0).bind fun t216 => ((laws_toMonitorS.f k l0_1).bind fun t219 => ((laws_toProcessS.f k l0_2).bind fun t222 => (some (t216, t219, t222))))
def laws_eqIntS.l0 : Nat → List Int → List Int → Int → Option (Bool)
  | 0, _, _, _ => none
  | k + 1, x0, x1, x5 => if x5 < (x0.length : Int) then (if 0 ≤ x5 then (if x5 < (x1.length : Int) then (if (rd x0 x5) = (rd x1 x5) then (laws_eqIntS.l0 k x0 x1 (wrap64 (x5 + 1))) else (some false)) else (none)) else (none)) else (some true)
def laws_eqIntS.f (k : Nat) (l0 : List Int) (l1 : List Int) : Option (Bool) := if (l0.length : Int) = (l1.length : Int) then (laws_eqIntS.l0 k l0 l1 0) else (some false)
def laws_eqNode.f (k : Nat) (a0_0 : Int) (a0_1 : Int) (a0_2 : ByteArray) (a0_3 : ByteArray) (a0_4 : ByteArray) (l0_5 : List Int) (a1_0 : Int) (a1_1 : Int) (a1_2 : ByteArray) (a1_3 : ByteArray) (a1_4 : ByteArray) (l1_5 : List Int) : Option (Bool) := if a0_0 = a1_0 then (if a0_1 = a1_1 then (if a0_2.toList = a1_2.toList then (if a0_3.toList = a1_3.toList then (if a0_4.toList = a1_4.toList then ((laws_eqIntS.f k l0_5 l1_5).bind fun t229 => (if t229 = true then (some true) else (some false))) else (some false)) else (some false)) else (some false)) else (some false)) else (some false)
def laws_eqNodeS.l0 : Nat → List (S77) → List (S77) → Int → Option (Bool)
  | 0, _, _, _ => none
  | k + 1, x0, x1, x5 => if x5 < (x0.length : Int) then (if 0 ≤ x5 then (if x5 < (x1.length : Int) then ((laws_eqNode.f k ((rd_T77 x0 x5).f0) ((rd_T77 x0 x5).f1) ((rd_T77 x0 x5).f2) ((rd_T77 x0 x5).f3) ((rd_T77 x0 x5).f4) ((rd_T77 x0 x5).f5) ((rd_T77 x1 x5).f0) ((rd_T77 x1 x5).f1) ((rd_T77 x1 x5).f2) ((rd_T77 x1 x5).f3) ((rd_T77 x1 x5).f4) ((rd_T77 x1 x5).f5)).bind fun t232 => (if t232 = true then (laws_eqNodeS.l0 k x0 x1 (wrap64 (x5 + 1))) else (some false))) else (none)) else (none)) else (some true)
def laws_eqNodeS.f (k : Nat) (l0 : List (S77)) (l1 : List (S77)) : Option (Bool) := if (l0.length : Int) = (l1.length : Int) then (laws_eqNodeS.l0 k l0 l1 0) else (some false)
def laws_eqStringS.l0 : Nat → List ByteArray → List ByteArray → Int → Option (Bool)
  | 0, _, _, _ => none
  | k + 1, x0, x1, x5 => if x5 < (x0.length : Int) then (if 0 ≤ x5 then (if x5 < (x1.length : Int) then (if (rdOf ByteArray.empty x0 x5).toList = (rdOf ByteArray.empty x1 x5).toList then (laws_eqStringS.l0 k x0 x1 (wrap64 (x5 + 1))) else (some false)) else (none)) else (none)) else (some true)
def laws_eqStringS.f (k : Nat) (l0 : List ByteArray) (l1 : List ByteArray) : Option (Bool) := if (l0.length : Int) = (l1.length : Int) then (laws_eqStringS.l0 k l0 l1 0) else (some false)
def laws_eqEntry.f (a0_0 : ByteArray) (a0_1 : ByteArray) (a0_2 : Int) (a1_0 : ByteArray) (a1_1 : ByteArray) (a1_2 : Int) : Option (Bool) := if a0_0.toList = a1_0.toList then (if a0_1.toList = a1_1.toList then (if a0_2 = a1_2 then (some true) else (some false)) else (some false)) else (some false)
def laws_eqEntryS.l0 : Nat → List (S131) → List (S131) → Int → Option (Bool)
  | 0, _, _, _ => none
  | k + 1, x0, x1, x5 => if x5 < (x0.length : Int) then (if 0 ≤ x5 then (if x5 < (x1.length : Int) then ((laws_eqEntry.f ((rd_T131 x0 x5).f0) ((rd_T131 x0 x5).f1) ((rd_T131 x0 x5).f2) ((rd_T131 x1 x5).f0) ((rd_T131 x1 x5).f1) ((rd_T131 x1 x5).f2)).bind fun t239 => (if t239 = true then (laws_eqEntryS.l0 k x0 x1 (wrap64 (x5 + 1))) else (some false))) else (none)) else (none)) else (some true)
def laws_eqEntryS.f (k : Nat) (l0 : List (S131)) (l1 : List (S131)) : Option (Bool) := if (l0.length : Int) = (l1.length : Int) then (laws_eqEntryS.l0 k l0 l1 0) else (some false)
def laws_eqMonitor.f (k : Nat) (a0_0 : ByteArray) (l0_1 : List ByteArray) (l0_2 : List ByteArray) (l0_3 : List (S131)) (a1_0 : ByteArray) (l1_1 : List ByteArray) (l1_2 : List ByteArray) (l1_3 : List (S131)) : Option (Bool) := if a0_0.toList = a1_0.toList then ((laws_eqStringS.f k l0_1 l1_1).bind fun t242 => (if t242 = true then ((laws_eqStringS.f k l0_2 l1_2).bind fun t243 => (if t243 = true then ((laws_eqEntryS.f k l0_3 l1_3).bind fun t244 => (if t244 = true then (some true) else (some false))) else (some false))) else (some false))) else (some false)
def laws_eqMonitorS.l0 : Nat → List (S106) → List (S106) → Int → Option (Bool)
  | 0, _, _, _ => none
  | k + 1, x0, x1, x5 => if x5 < (x0.length : Int) then (if 0 ≤ x5 then (if x5 < (x1.length : Int) then ((laws_eqMonitor.f k ((rd_T106 x0 x5).f0) ((rd_T106 x0 x5).f1) ((rd_T106 x0 x5).f2) ((rd_T106 x0 x5).f3) ((rd_T106 x1 x5).f0) ((rd_T106 x1 x5).f1) ((rd_T106 x1 x5).f2) ((rd_T106 x1 x5).f3)).bind fun t247 => (if t247 = true then (laws_eqMonitorS.l0 k x0 x1 (wrap64 (x5 + 1))) else (some false))) else (none)) else (none)) else (some true)
def laws_eqMonitorS.f (k : Nat) (l0 : List (S106)) (l1 : List (S106)) : Option (Bool) := if (l0.length : Int) = (l1.length : Int) then (laws_eqMonitorS.l0 k l0 l1 0) else (some false)
def laws_eqProcess.f (k : Nat) (a0_0 : ByteArray) (l0_1 : List ByteArray) (l0_2 : List ByteArray) (a0_3 : Int) (a1_0 : ByteArray) (l1_1 : List ByteArray) (l1_2 : List ByteArray) (a1_3 : Int) : Option (Bool) := if a0_0.toList = a1_0.toList then ((laws_eqStringS.f k l0_1 l1_1).bind fun t250 => (if t250 = true then ((laws_eqStringS.f k l0_2 l1_2).bind fun t251 => (if t251 = true then (if a0_3 = a1_3 then (some true) else (some false)) else (some false))) else (some false))) else (some false)
def laws_eqProcessS.l0 : Nat → List (S103) → List (S103) → Int → Option (Bool)
  | 0, _, _, _ => none
  | k + 1, x0, x1, x5 => if x5 < (x0.length : Int) then (if 0 ≤ x5 then (if x5 < (x1.length : Int) then ((laws_eqProcess.f k ((rd_T103 x0 x5).f0) ((rd_T103 x0 x5).f1) ((rd_T103 x0 x5).f2) ((rd_T103 x0 x5).f3) ((rd_T103 x1 x5).f0) ((rd_T103 x1 x5).f1) ((rd_T103 x1 x5).f2) ((rd_T103 x1 x5).f3)).bind fun t254 => (if t254 = true then (laws_eqProcessS.l0 k x0 x1 (wrap64 (x5 + 1))) else (some false))) else (none)) else (none)) else (some true)
def laws_eqProcessS.f (k : Nat) (l0 : List (S103)) (l1 : List (S103)) : Option (Bool) := if (l0.length : Int) = (l1.length : Int) then (laws_eqProcessS.l0 k l0 l1 0) else (some false)
def laws_eqProgram.f (k : Nat) (l0_0 : List (S77)) (l0_1 : List (S106)) (l0_2 : List (S103)) (l1_0 : List (S77)) (l1_1 : List (S106)) (l1_2 : List (S103)) : Option (Bool) := (laws_eqNodeS.f k l0_0 l1_0).bind fun t257 => (if t257 = true then ((laws_eqMonitorS.f k l0_1 l1_1).bind fun t258 => (if t258 = true then ((laws_eqProcessS.f k l0_2 l1_2).bind fun t259 => (if t259 = true then (some true) else (some false))) else (some false))) else (some false))
def spec_l01In.f (a0 : Int) (a1 : Int) (a2 : Int) : Option (Bool) := if a0 ≥ a1 then (some (decide (a0 ≤ a2))) else (some false)
def spec_l05Value.f (a0 : Int) : Option (Bool) := (spec_l01In.f a0 1 5).bind fun t260 => (some t260)
def spec_l05Statement.f (a0 : Int) : Option (Bool) := (spec_l01In.f a0 11 19).bind fun t261 => (some t261)
def spec_l05Kid.f (l0_0 : List (S77)) (l0_1 : List (S106)) (l0_2 : List (S103)) (a1 : Int) (a2 : Int) : Option (Int) := if 0 ≤ a1 then (if a1 < (l0_0.length : Int) then (if 0 ≤ a2 then (if a2 < (((rd_T77 l0_0 a1).f5).length : Int) then ((spec_l01In.f (rd ((rd_T77 l0_0 a1).f5) a2) 0 (wrap64 (a1 - 1))).bind fun t265 => (if t265 = true then (if 0 ≤ (rd ((rd_T77 l0_0 a1).f5) a2) then (if (rd ((rd_T77 l0_0 a1).f5) a2) < (l0_0.length : Int) then (some ((rd_T77 l0_0 (rd ((rd_T77 l0_0 a1).f5) a2)).f0)) else (none)) else (none)) else (some 0))) else (none)) else (none)) else (none)) else (none)
def spec_l05Values.l0 : Nat → Int → Int → Int → List (S77) → List (S106) → List (S103) → Option (Bool)
  | 0, _, _, _, _, _, _ => none
  | k + 1, x1, x2, x7, x268000, x268001, x268002 => if x7 < x2 then ((spec_l05Kid.f x268000 x268001 x268002 x1 x7).bind fun t268 => ((spec_l05Value.f t268).bind fun t269 => (if t269 = true then (spec_l05Values.l0 k x1 x2 (wrap64 (x7 + 1)) x268000 x268001 x268002) else (some false)))) else (some true)
def spec_l05Values.f (k : Nat) (l0_0 : List (S77)) (l0_1 : List (S106)) (l0_2 : List (S103)) (a1 : Int) (a2 : Int) : Option (Bool) := spec_l05Values.l0 k a1 a2 0 l0_0 l0_1 l0_2
def spec_l05Blocks.l0 : Nat → Int → Int → List (S77) → List (S106) → List (S103) → Option (Bool)
  | 0, _, _, _, _, _ => none
  | k + 1, x1, x7, x271000, x271001, x271002 => if 0 ≤ x1 then (if x1 < (x271000.length : Int) then (if x7 < (((rd_T77 x271000 x1).f5).length : Int) then ((spec_l05Kid.f x271000 x271001 x271002 x1 x7).bind fun t272 => (if t272 = 20 then (spec_l05Blocks.l0 k x1 (wrap64 (x7 + 1)) x271000 x271001 x271002) else (some false))) else (some true)) else (none)) else (none)
def spec_l05Blocks.f (k : Nat) (l0_0 : List (S77)) (l0_1 : List (S106)) (l0_2 : List (S103)) (a1 : Int) (a2 : Int) : Option (Bool) := spec_l05Blocks.l0 k a1 a2 l0_0 l0_1 l0_2
mutual
def spec_l05Kids.j0 : Nat → Int → Int → Int → Bool → List (S77) → List (S106) → List (S103) → Option (Bool)
  | 0, _, _, _, _, _, _, _ => none
  | k + 1, x1, x5, x19, x20, x274000, x274001, x274002 => if x20 = true then (some (x5 == 0)) else (if x19 = 3 then (if x5 = 2 then ((spec_l05Values.f k x274000 x274001 x274002 x1 2).bind fun t276 => (some t276)) else (some false)) else (if x19 = 4 then (spec_l05Kids.j1 k x1 x5 x19 (x19 == 4) x274000 x274001 x274002) else (if x19 = 5 then (spec_l05Kids.j1 k x1 x5 x19 (x19 == 5) x274000 x274001 x274002) else (if x19 = 11 then (spec_l05Kids.j1 k x1 x5 x19 (x19 == 11) x274000 x274001 x274002) else (if x19 = 14 then (spec_l05Kids.j1 k x1 x5 x19 (x19 == 14) x274000 x274001 x274002) else (spec_l05Kids.j1 k x1 x5 x19 (x19 == 15) x274000 x274001 x274002))))))
def spec_l05Kids.j1 : Nat → Int → Int → Int → Bool → List (S77) → List (S106) → List (S103) → Option (Bool)
  | 0, _, _, _, _, _, _, _ => none
  | k + 1, x1, x5, x19, x38, x274000, x274001, x274002 => if x38 = true then (if x5 = 1 then ((spec_l05Values.f k x274000 x274001 x274002 x1 1).bind fun t277 => (some t277)) else (some false)) else (if x19 = 12 then (if x5 = 2 then ((spec_l05Values.f k x274000 x274001 x274002 x1 1).bind fun t278 => (if t278 = true then ((spec_l05Blocks.f k x274000 x274001 x274002 x1 1).bind fun t279 => (some t279)) else (some false))) else (if x5 = 3 then ((spec_l05Values.f k x274000 x274001 x274002 x1 1).bind fun t280 => (if t280 = true then ((spec_l05Blocks.f k x274000 x274001 x274002 x1 1).bind fun t281 => (some t281)) else (some false))) else (some false))) else (if x19 = 13 then (if x5 = 2 then ((spec_l05Values.f k x274000 x274001 x274002 x1 1).bind fun t282 => (if t282 = true then ((spec_l05Blocks.f k x274000 x274001 x274002 x1 1).bind fun t283 => (some t283)) else (some false))) else (some false)) else (spec_l05Kids.l0 k x1 x5 0 x274000 x274001 x274002)))
def spec_l05Kids.l0 : Nat → Int → Int → Int → List (S77) → List (S106) → List (S103) → Option (Bool)
  | 0, _, _, _, _, _, _ => none
  | k + 1, x1, x5, x6, x274000, x274001, x274002 => if x6 < x5 then ((spec_l05Kid.f x274000 x274001 x274002 x1 x6).bind fun t285 => ((spec_l05Statement.f t285).bind fun t286 => (if t286 = true then (spec_l05Kids.l0 k x1 x5 (wrap64 (x6 + 1)) x274000 x274001 x274002) else (some false)))) else ((spec_l01In.f x5 1 12).bind fun t284 => (some t284))
end
def spec_l05Kids.f (k : Nat) (l0_0 : List (S77)) (l0_1 : List (S106)) (l0_2 : List (S103)) (a1 : Int) : Option (Bool) := if 0 ≤ a1 then (if a1 < (l0_0.length : Int) then (if ((rd_T77 l0_0 a1).f0) = 1 then (spec_l05Kids.j0 k a1 (((rd_T77 l0_0 a1).f5).length : Int) ((rd_T77 l0_0 a1).f0) (((rd_T77 l0_0 a1).f0) == 1) l0_0 l0_1 l0_2) else (if ((rd_T77 l0_0 a1).f0) = 2 then (spec_l05Kids.j0 k a1 (((rd_T77 l0_0 a1).f5).length : Int) ((rd_T77 l0_0 a1).f0) (((rd_T77 l0_0 a1).f0) == 2) l0_0 l0_1 l0_2) else (if ((rd_T77 l0_0 a1).f0) = 16 then (spec_l05Kids.j0 k a1 (((rd_T77 l0_0 a1).f5).length : Int) ((rd_T77 l0_0 a1).f0) (((rd_T77 l0_0 a1).f0) == 16) l0_0 l0_1 l0_2) else (if ((rd_T77 l0_0 a1).f0) = 17 then (spec_l05Kids.j0 k a1 (((rd_T77 l0_0 a1).f5).length : Int) ((rd_T77 l0_0 a1).f0) (((rd_T77 l0_0 a1).f0) == 17) l0_0 l0_1 l0_2) else (if ((rd_T77 l0_0 a1).f0) = 18 then (spec_l05Kids.j0 k a1 (((rd_T77 l0_0 a1).f5).length : Int) ((rd_T77 l0_0 a1).f0) (((rd_T77 l0_0 a1).f0) == 18) l0_0 l0_1 l0_2) else (spec_l05Kids.j0 k a1 (((rd_T77 l0_0 a1).f5).length : Int) ((rd_T77 l0_0 a1).f0) (((rd_T77 l0_0 a1).f0) == 19) l0_0 l0_1 l0_2)))))) else (none)) else (none)
def spec_l04Keys.f  : Option (List ByteArray) := some (([(⟨#[109, 111, 110, 105, 116, 111, 114]⟩ : ByteArray), (⟨#[118, 97, 114]⟩ : ByteArray), (⟨#[113, 117, 101, 117, 101]⟩ : ByteArray), (⟨#[101, 110, 116, 114, 121]⟩ : ByteArray), (⟨#[112, 114, 111, 99, 101, 115, 115]⟩ : ByteArray), (⟨#[117, 115, 101, 115]⟩ : ByteArray), (⟨#[98, 101, 103, 105, 110]⟩ : ByteArray), (⟨#[101, 110, 100]⟩ : ByteArray), (⟨#[105, 102]⟩ : ByteArray), (⟨#[116, 104, 101, 110]⟩ : ByteArray), (⟨#[101, 108, 115, 101]⟩ : ByteArray), (⟨#[119, 104, 105, 108, 101]⟩ : ByteArray), (⟨#[100, 111]⟩ : ByteArray), (⟨#[99, 97, 108, 108]⟩ : ByteArray), (⟨#[116, 111]⟩ : ByteArray), (⟨#[112, 114, 105, 110, 116]⟩ : ByteArray), (⟨#[114, 101, 97, 100]⟩ : ByteArray), (⟨#[100, 101, 108, 97, 121]⟩ : ByteArray), (⟨#[99, 111, 110, 116, 105, 110, 117, 101]⟩ : ByteArray), (⟨#[115, 107, 105, 112]⟩ : ByteArray), (⟨#[97, 110, 100]⟩ : ByteArray), (⟨#[111, 114]⟩ : ByteArray), (⟨#[110, 111, 116]⟩ : ByteArray)] : List ByteArray))
def spec_KeyWord.l0 : Nat → ByteArray → List ByteArray → Int → Option (Bool)
  | 0, _, _, _ => none
  | k + 1, x0, x3, x4 => if x4 < (x3.length : Int) then (if 0 ≤ x4 then (if (rdOf ByteArray.empty x3 x4).toList = x0.toList then (some true) else (spec_KeyWord.l0 k x0 x3 (wrap64 (x4 + 1)))) else (none)) else (some false)
def spec_KeyWord.f (k : Nat) (a0 : ByteArray) : Option (Bool) := (spec_l04Keys.f).bind fun t290 => (spec_KeyWord.l0 k a0 t290 0)
def spec_NameOk.l0 : Nat → ByteArray → Int → Option (Bool)
  | 0, _, _ => none
  | k + 1, x0, x3 => if x3 < (x0.size : Int) then (if 0 ≤ x3 then (if (bt x0 x3) < 97 then (some false) else (if (bt x0 x3) > 122 then (some false) else (spec_NameOk.l0 k x0 (wrap64 (x3 + 1))))) else (none)) else ((spec_l01In.f (x0.size : Int) 1 8).bind fun t294 => (if t294 = true then ((spec_KeyWord.f k x0).bind fun t295 => (some (!t295))) else (some false)))
def spec_NameOk.f (k : Nat) (a0 : ByteArray) : Option (Bool) := spec_NameOk.l0 k a0 0
mutual
def spec_NodeOk.l0 : Nat → Int → Int → List (S77) → List (S106) → List (S103) → Int → Int → ByteArray → ByteArray → ByteArray → List Int → Option (Bool)
  | 0, _, _, _, _, _, _, _, _, _, _, _ => none
  | k + 1, x1, x6, x297000, x297001, x297002, x300000, x300001, x300002, x300003, x300004, x300005 => if x6 < (x300005.length : Int) then (spec_NodeOk.l1 k x1 x6 0 x297000 x297001 x297002 x300000 x300001 x300002 x300003 x300004 x300005) else ((spec_l05Value.f x300000).bind fun t302 => (if t302 = true then ((spec_l05Kids.f k x297000 x297001 x297002 x1).bind fun t303 => (spec_NodeOk.j2 k (!t303) x300000 x300001 x300002 x300003 x300004 x300005)) else ((spec_l05Statement.f x300000).bind fun t304 => (if t304 = true then ((spec_l05Kids.f k x297000 x297001 x297002 x1).bind fun t305 => (spec_NodeOk.j2 k (!t305) x300000 x300001 x300002 x300003 x300004 x300005)) else (if x300000 = 20 then ((spec_l05Kids.f k x297000 x297001 x297002 x1).bind fun t306 => (spec_NodeOk.j2 k (!t306) x300000 x300001 x300002 x300003 x300004 x300005)) else (spec_NodeOk.j2 k true x300000 x300001 x300002 x300003 x300004 x300005))))))
def spec_NodeOk.l1 : Nat → Int → Int → Int → List (S77) → List (S106) → List (S103) → Int → Int → ByteArray → ByteArray → ByteArray → List Int → Option (Bool)
  | 0, _, _, _, _, _, _, _, _, _, _, _, _ => none
  | k + 1, x1, x6, x7, x297000, x297001, x297002, x300000, x300001, x300002, x300003, x300004, x300005 => if x7 < x6 then (if 0 ≤ x6 then (if x6 < (x300005.length : Int) then (if 0 ≤ x7 then (if x7 < (x300005.length : Int) then (if (rd x300005 x6) = (rd x300005 x7) then (some false) else (spec_NodeOk.l1 k x1 x6 (wrap64 (x7 + 1)) x297000 x297001 x297002 x300000 x300001 x300002 x300003 x300004 x300005)) else (none)) else (none)) else (none)) else (none)) else (spec_NodeOk.l0 k x1 (wrap64 (x6 + 1)) x297000 x297001 x297002 x300000 x300001 x300002 x300003 x300004 x300005)
def spec_NodeOk.j2 : Nat → Bool → Int → Int → ByteArray → ByteArray → ByteArray → List Int → Option (Bool)
  | 0, _, _, _, _, _, _, _ => none
  | k + 1, x64, x300000, x300001, x300002, x300003, x300004, x300005 => if x64 = true then (some false) else (if x300000 = 2 then (spec_NodeOk.j3 k true x300000 x300001 x300002 x300003 x300004 x300005) else (if x300000 = 11 then (spec_NodeOk.j3 k true x300000 x300001 x300002 x300003 x300004 x300005) else (if x300000 = 16 then (spec_NodeOk.j3 k true x300000 x300001 x300002 x300003 x300004 x300005) else (if x300000 = 17 then (spec_NodeOk.j3 k true x300000 x300001 x300002 x300003 x300004 x300005) else (if x300000 = 18 then (spec_NodeOk.j3 k true x300000 x300001 x300002 x300003 x300004 x300005) else (spec_NodeOk.j3 k (x300000 == 14) x300000 x300001 x300002 x300003 x300004 x300005))))))
def spec_NodeOk.j3 : Nat → Bool → Int → Int → ByteArray → ByteArray → ByteArray → List Int → Option (Bool)
  | 0, _, _, _, _, _, _, _ => none
  | k + 1, x8, x300000, x300001, x300002, x300003, x300004, x300005 => if x8 = true then ((spec_NameOk.f k x300002).bind fun t307 => (if t307 = true then (spec_NodeOk.j4 k false x300000 x300001 x300002 x300003 x300004 x300005) else (spec_NodeOk.j4 k true x300000 x300001 x300002 x300003 x300004 x300005))) else (spec_NodeOk.j4 k (x300002.toList != ([] : List UInt8)) x300000 x300001 x300002 x300003 x300004 x300005)
def spec_NodeOk.j4 : Nat → Bool → Int → Int → ByteArray → ByteArray → ByteArray → List Int → Option (Bool)
  | 0, _, _, _, _, _, _, _ => none
  | k + 1, x108, x300000, x300001, x300002, x300003, x300004, x300005 => if x108 = true then (some false) else (if x300000 = 14 then ((spec_NameOk.f k x300003).bind fun t308 => (if t308 = true then (if x300004.toList = ([] : List UInt8) then (spec_NodeOk.j5 k x300000 x300001 x300002 x300003 x300004 x300005) else ((spec_NameOk.f k x300004).bind fun t309 => (if t309 = true then (spec_NodeOk.j5 k x300000 x300001 x300002 x300003 x300004 x300005) else (some false)))) else (some false))) else (if x300003.toList = ([] : List UInt8) then (if x300004.toList = ([] : List UInt8) then (spec_NodeOk.j5 k x300000 x300001 x300002 x300003 x300004 x300005) else (some false)) else (some false)))
def spec_NodeOk.j5 : Nat → Int → Int → ByteArray → ByteArray → ByteArray → List Int → Option (Bool)
  | 0, _, _, _, _, _, _ => none
  | k + 1, x300000, x300001, x300002, x300003, x300004, x300005 => if x300000 = 1 then ((spec_l01In.f x300001 0 1000000).bind fun t310 => (some t310)) else (if x300000 = 3 then ((spec_l01In.f x300001 1 9).bind fun t311 => (some t311)) else (some (x300001 == 0)))
end
def spec_NodeOk.f (k : Nat) (l0_0 : List (S77)) (l0_1 : List (S106)) (l0_2 : List (S103)) (a1 : Int) : Option (Bool) := (spec_l01In.f a1 0 (wrap64 ((l0_0.length : Int) - 1))).bind fun t297 => (if t297 = true then (if 0 ≤ a1 then (if a1 < (l0_0.length : Int) then (spec_NodeOk.l0 k a1 0 l0_0 l0_1 l0_2 ((rd_T77 l0_0 a1).f0) ((rd_T77 l0_0 a1).f1) ((rd_T77 l0_0 a1).f2) ((rd_T77 l0_0 a1).f3) ((rd_T77 l0_0 a1).f4) ((rd_T77 l0_0 a1).f5)) else (none)) else (none)) else (some false))
mutual
def spec_l05Deeps.l0 : Nat → List Int → Int → List (S77) → List (S106) → List (S103) → Option (List Int)
  | 0, _, _, _, _, _ => none
  | k + 1, x3, x4, x313000, x313001, x313002 => if x4 < (x313000.length : Int) then ((spec_NodeOk.f k x313000 x313001 x313002 x4).bind fun t316 => (if t316 = true then (spec_l05Deeps.l1 k x3 x4 1 0 x313000 x313001 x313002) else (if 0 > 10 then (if x3.length < 17592186044416 then (spec_l05Deeps.l0 k (x3 ++ [0]) (wrap64 (x4 + 1)) x313000 x313001 x313002) else (none)) else (if x4 > 0 then (if 0 ≤ (wrap64 (x4 - 1)) then (if (wrap64 (x4 - 1)) < (x3.length : Int) then (if (rd x3 (wrap64 (x4 - 1))) = 0 then (if x3.length < 17592186044416 then (spec_l05Deeps.l0 k (x3 ++ [0]) (wrap64 (x4 + 1)) x313000 x313001 x313002) else (none)) else (if x3.length < 17592186044416 then (spec_l05Deeps.l0 k (x3 ++ [0]) (wrap64 (x4 + 1)) x313000 x313001 x313002) else (none))) else (none)) else (none)) else (if x3.length < 17592186044416 then (spec_l05Deeps.l0 k (x3 ++ [0]) (wrap64 (x4 + 1)) x313000 x313001 x313002) else (none)))))) else (some x3)
def spec_l05Deeps.l1 : Nat → List Int → Int → Int → Int → List (S77) → List (S106) → List (S103) → Option (List Int)
  | 0, _, _, _, _, _, _, _ => none
  | k + 1, x3, x4, x5, x6, x313000, x313001, x313002 => if 0 ≤ x4 then (if x4 < (x313000.length : Int) then (if x6 < (((rd_T77 x313000 x4).f5).length : Int) then (if 0 ≤ x6 then (if 0 ≤ (rd ((rd_T77 x313000 x4).f5) x6) then (if (rd ((rd_T77 x313000 x4).f5) x6) < (x3.length : Int) then (if (wrap64 ((rd x3 (rd ((rd_T77 x313000 x4).f5) x6)) + 1)) > x5 then (spec_l05Deeps.l1 k x3 x4 (wrap64 ((rd x3 (rd ((rd_T77 x313000 x4).f5) x6)) + 1)) (wrap64 (x6 + 1)) x313000 x313001 x313002) else (spec_l05Deeps.l1 k x3 x4 x5 (wrap64 (x6 + 1)) x313000 x313001 x313002)) else (none)) else (none)) else (none)) else (if x5 > 10 then (if x3.length < 17592186044416 then (spec_l05Deeps.l0 k (x3 ++ [0]) (wrap64 (x4 + 1)) x313000 x313001 x313002) else (none)) else (if x4 > 0 then (if 0 ≤ (wrap64 (x4 - 1)) then (if (wrap64 (x4 - 1)) < (x3.length : Int) then (if (rd x3 (wrap64 (x4 - 1))) = 0 then (if x3.length < 17592186044416 then (spec_l05Deeps.l0 k (x3 ++ [0]) (wrap64 (x4 + 1)) x313000 x313001 x313002) else (none)) else (if x3.length < 17592186044416 then (spec_l05Deeps.l0 k (x3 ++ [x5]) (wrap64 (x4 + 1)) x313000 x313001 x313002) else (none))) else (none)) else (none)) else (if x3.length < 17592186044416 then (spec_l05Deeps.l0 k (x3 ++ [x5]) (wrap64 (x4 + 1)) x313000 x313001 x313002) else (none))))) else (none)) else (none)
end
def spec_l05Deeps.f (k : Nat) (l0_0 : List (S77)) (l0_1 : List (S106)) (l0_2 : List (S103)) : Option (List Int) := spec_l05Deeps.l0 k (([] : List Int)) 0 l0_0 l0_1 l0_2
def spec_DeepOf.f (k : Nat) (l0_0 : List (S77)) (l0_1 : List (S106)) (l0_2 : List (S103)) (a1 : Int) : Option (Int) := (spec_l01In.f a1 0 (wrap64 ((l0_0.length : Int) - 1))).bind fun t351 => (if t351 = true then ((spec_l05Deeps.f k l0_0 l0_1 l0_2).bind fun t352 => (if 0 ≤ a1 then (if a1 < (t352.length : Int) then (some (rd t352 a1)) else (none)) else (none))) else (some 0))
mutual
def spec_l08Under.l0 : Nat → List Bool → Int → List (S77) → List (S106) → List (S103) → Option (List Bool)
  | 0, _, _, _, _, _ => none
  | k + 1, x5, x6, x357000, x357001, x357002 => if x6 ≥ 0 then (spec_l08Under.l1 k x5 x6 0 x357000 x357001 x357002) else (some x5)
def spec_l08Under.l1 : Nat → List Bool → Int → Int → List (S77) → List (S106) → List (S103) → Option (List Bool)
  | 0, _, _, _, _, _, _ => none
  | k + 1, x5, x6, x7, x357000, x357001, x357002 => if 0 ≤ x6 then (if x6 < (x357000.length : Int) then (if x7 < (((rd_T77 x357000 x6).f5).length : Int) then (if x6 < (x5.length : Int) then (if rdOf false x5 x6 = true then (if 0 ≤ x7 then (if 0 ≤ (rd ((rd_T77 x357000 x6).f5) x7) then (if (rd ((rd_T77 x357000 x6).f5) x7) < (x5.length : Int) then (spec_l08Under.l1 k (x5.set ((rd ((rd_T77 x357000 x6).f5) x7) : Int).toNat true) x6 (wrap64 (x7 + 1)) x357000 x357001 x357002) else (none)) else (none)) else (none)) else (spec_l08Under.l0 k x5 (wrap64 (x6 - 1)) x357000 x357001 x357002)) else (none)) else (spec_l08Under.l0 k x5 (wrap64 (x6 - 1)) x357000 x357001 x357002)) else (none)) else (none)
end
def spec_l08Under.f (k : Nat) (l0_0 : List (S77)) (l0_1 : List (S106)) (l0_2 : List (S103)) (a1 : Int) : Option (List Bool) := if 0 ≤ (l0_0.length : Int) then (if ((l0_0.length : Int) : Int).toNat ≤ 281474976710656 then ((some (List.replicate ((l0_0.length : Int) : Int).toNat false : List Bool)).bind fun y357 => (if 0 ≤ a1 then (if a1 < (y357.length : Int) then (spec_l08Under.l0 k (y357.set (a1 : Int).toNat true) a1 l0_0 l0_1 l0_2) else (none)) else (none))) else (none)) else (none)
def spec_NodesUnder.l0 : Nat → List Int → List Bool → Int → Option (List Int)
  | 0, _, _, _ => none
  | k + 1, x5, x6, x7 => if x7 < (x6.length : Int) then (if 0 ≤ x7 then (if rdOf false x6 x7 = true then (if x5.length < 17592186044416 then (spec_NodesUnder.l0 k (x5 ++ [x7]) x6 (wrap64 (x7 + 1))) else (none)) else (spec_NodesUnder.l0 k x5 x6 (wrap64 (x7 + 1)))) else (none)) else (some x5)
def spec_NodesUnder.f (k : Nat) (l0_0 : List (S77)) (l0_1 : List (S106)) (l0_2 : List (S103)) (a1 : Int) : Option (List Int) := (some (([] : List Int) : List Int)).bind fun y367 => ((spec_DeepOf.f k l0_0 l0_1 l0_2 a1).bind fun t370 => (if t370 = 0 then (some y367) else ((spec_l08Under.f k l0_0 l0_1 l0_2 a1).bind fun t371 => (spec_NodesUnder.l0 k y367 t371 0))))
mutual
def spec_CallsOf.l0 : Nat → List Int → List Int → Int → List (S77) → List (S106) → List (S103) → Option (List Int)
  | 0, _, _, _, _, _, _ => none
  | k + 1, x5, x6, x7, x379000, x379001, x379002 => if x7 < (x379001.length : Int) then (spec_CallsOf.l1 k x5 x6 x7 false 0 x379000 x379001 x379002) else (some x5)
def spec_CallsOf.l1 : Nat → List Int → List Int → Int → Bool → Int → List (S77) → List (S106) → List (S103) → Option (List Int)
  | 0, _, _, _, _, _, _, _, _ => none
  | k + 1, x5, x6, x7, x8, x9, x379000, x379001, x379002 => if x9 < (x6.length : Int) then (if 0 ≤ x9 then (if 0 ≤ (rd x6 x9) then (if (rd x6 x9) < (x379000.length : Int) then (if x8 = true then (spec_CallsOf.l1 k x5 x6 x7 true (wrap64 (x9 + 1)) x379000 x379001 x379002) else (if ((rd_T77 x379000 (rd x6 x9)).f0) = 14 then (if 0 ≤ x7 then (if x7 < (x379001.length : Int) then (spec_CallsOf.l1 k x5 x6 x7 (((rd_T77 x379000 (rd x6 x9)).f2).toList == ((rd_T106 x379001 x7).f0).toList) (wrap64 (x9 + 1)) x379000 x379001 x379002) else (none)) else (none)) else (spec_CallsOf.l1 k x5 x6 x7 false (wrap64 (x9 + 1)) x379000 x379001 x379002))) else (none)) else (none)) else (none)) else (if x8 = true then (if x5.length < 17592186044416 then (spec_CallsOf.l0 k (x5 ++ [x7]) x6 (wrap64 (x7 + 1)) x379000 x379001 x379002) else (none)) else (spec_CallsOf.l0 k x5 x6 (wrap64 (x7 + 1)) x379000 x379001 x379002))
end
def spec_CallsOf.f (k : Nat) (l0_0 : List (S77)) (l0_1 : List (S106)) (l0_2 : List (S103)) (a1 : Int) : Option (List Int) := (some (([] : List Int) : List Int)).bind fun y379 => ((spec_l01In.f a1 0 (wrap64 ((l0_2.length : Int) - 1))).bind fun t382 => (if t382 = true then (if 0 ≤ a1 then (if a1 < (l0_2.length : Int) then ((spec_NodesUnder.f k l0_0 l0_1 l0_2 ((rd_T103 l0_2 a1).f3)).bind fun t384 => (spec_CallsOf.l0 k y379 t384 0 l0_0 l0_1 l0_2)) else (none)) else (none)) else (some y379)))
mutual
def spec_Shared.l0 : Nat → Int → Int → Int → List (S77) → List (S106) → List (S103) → Option (Bool)
  | 0, _, _, _, _, _, _ => none
  | k + 1, x1, x5, x6, x395000, x395001, x395002 => if x6 < (x395002.length : Int) then ((spec_CallsOf.f k x395000 x395001 x395002 x6).bind fun t395 => (spec_Shared.l1 k x1 x5 x6 t395 0 x395000 x395001 x395002)) else (some (decide (x5 > 1)))
def spec_Shared.l1 : Nat → Int → Int → Int → List Int → Int → List (S77) → List (S106) → List (S103) → Option (Bool)
  | 0, _, _, _, _, _, _, _, _ => none
  | k + 1, x1, x5, x6, x7, x8, x395000, x395001, x395002 => if x8 < (x7.length : Int) then (if 0 ≤ x8 then (if (rd x7 x8) = x1 then (spec_Shared.l1 k x1 (wrap64 (x5 + 1)) x6 x7 (wrap64 (x8 + 1)) x395000 x395001 x395002) else (spec_Shared.l1 k x1 x5 x6 x7 (wrap64 (x8 + 1)) x395000 x395001 x395002)) else (none)) else (spec_Shared.l0 k x1 x5 (wrap64 (x6 + 1)) x395000 x395001 x395002)
end
def spec_Shared.f (k : Nat) (l0_0 : List (S77)) (l0_1 : List (S106)) (l0_2 : List (S103)) (a1 : Int) : Option (Bool) := spec_Shared.l0 k a1 0 0 l0_0 l0_1 l0_2
def impl_within.f (a0 : Int) (a1 : Int) (a2 : Int) : Option (Bool) := if a0 ≥ a1 then (some (decide (a0 ≤ a2))) else (some false)
def impl_isNode.f (l0_0 : List (S77)) (l0_1 : List (S106)) (l0_2 : List (S103)) (a1 : Int) : Option (Bool) := (impl_within.f a1 0 (wrap64 ((l0_0.length : Int) - 1))).bind fun t400 => (some t400)
def slices_Index_int_int.l0 : Nat → List Int → Int → Int → Int → Option (Int)
  | 0, _, _, _, _ => none
  | k + 1, x0, x1, x7, x8 => if x8 < x7 then (if 0 ≤ x8 then (if x8 < (x0.length : Int) then (if x1 = (rd x0 x8) then (some x8) else (slices_Index_int_int.l0 k x0 x1 x7 (wrap64 (x8 + 1)))) else (none)) else (none)) else (some (-1))
def slices_Index_int_int.f (k : Nat) (l0 : List Int) (a1 : Int) : Option (Int) := slices_Index_int_int.l0 k l0 a1 (l0.length : Int) 0
def slices_Contains_int_int.f (k : Nat) (l0 : List Int) (a1 : Int) : Option (Bool) := (slices_Index_int_int.f k l0 a1).bind fun t402 => (some (decide (t402 ≥ 0)))
def impl_isBlock.f (l0_0 : List (S77)) (l0_1 : List (S106)) (l0_2 : List (S103)) (a1 : Int) : Option (Bool) := (impl_isNode.f l0_0 l0_1 l0_2 a1).bind fun t404 => (if t404 = true then (if 0 ≤ a1 then (if a1 < (l0_0.length : Int) then (some (((rd_T77 l0_0 a1).f0) == 20)) else (none)) else (none)) else (some false))
def impl_isValue.f (l0_0 : List (S77)) (l0_1 : List (S106)) (l0_2 : List (S103)) (a1 : Int) : Option (Bool) := (impl_isNode.f l0_0 l0_1 l0_2 a1).bind fun t407 => (if t407 = true then (if 0 ≤ a1 then (if a1 < (l0_0.length : Int) then ((impl_within.f ((rd_T77 l0_0 a1).f0) 1 5).bind fun t409 => (some t409)) else (none)) else (none)) else (some false))
def impl_isStatement.f (l0_0 : List (S77)) (l0_1 : List (S106)) (l0_2 : List (S103)) (a1 : Int) : Option (Bool) := (impl_isNode.f l0_0 l0_1 l0_2 a1).bind fun t411 => (if t411 = true then (if 0 ≤ a1 then (if a1 < (l0_0.length : Int) then ((impl_within.f ((rd_T77 l0_0 a1).f0) 11 19).bind fun t413 => (some t413)) else (none)) else (none)) else (some false))
mutual
def impl_kidsOk.j2 : Nat → Int → Int → List (S77) → List (S106) → List (S103) → Int → Int → ByteArray → ByteArray → ByteArray → List Int → Option (Bool)
  | 0, _, _, _, _, _, _, _, _, _, _, _ => none
  | k + 1, x5, x6, x415000, x415001, x415002, x416000, x416001, x416002, x416003, x416004, x416005 => if (x416005.length : Int) = (wrap64 (x5 + x6)) then (impl_kidsOk.l1 k x5 x416005 (x416005.length : Int) 0 x415000 x415001 x415002) else (some false)
def impl_kidsOk.l1 : Nat → Int → List Int → Int → Int → List (S77) → List (S106) → List (S103) → Option (Bool)
  | 0, _, _, _, _, _, _, _ => none
  | k + 1, x5, x58, x59, x60, x415000, x415001, x415002 => if x60 < x59 then (if 0 ≤ x60 then (if x60 < (x58.length : Int) then (if x60 < x5 then ((impl_isValue.f x415000 x415001 x415002 (rd x58 x60)).bind fun t421 => (if t421 = true then (if x60 ≥ x5 then ((impl_isBlock.f x415000 x415001 x415002 (rd x58 x60)).bind fun t422 => (if t422 = true then (impl_kidsOk.l1 k x5 x58 x59 (wrap64 (x60 + 1)) x415000 x415001 x415002) else (some false))) else (impl_kidsOk.l1 k x5 x58 x59 (wrap64 (x60 + 1)) x415000 x415001 x415002)) else (some false))) else (if x60 ≥ x5 then ((impl_isBlock.f x415000 x415001 x415002 (rd x58 x60)).bind fun t423 => (if t423 = true then (impl_kidsOk.l1 k x5 x58 x59 (wrap64 (x60 + 1)) x415000 x415001 x415002) else (some false))) else (impl_kidsOk.l1 k x5 x58 x59 (wrap64 (x60 + 1)) x415000 x415001 x415002))) else (none)) else (none)) else (some true)
def impl_kidsOk.j0 : Nat → Int → Int → Int → Bool → List (S77) → List (S106) → List (S103) → Int → Int → ByteArray → ByteArray → ByteArray → List Int → Option (Bool)
  | 0, _, _, _, _, _, _, _, _, _, _, _, _, _ => none
  | k + 1, x5, x6, x12, x15, x415000, x415001, x415002, x416000, x416001, x416002, x416003, x416004, x416005 => if x15 = true then (impl_kidsOk.j2 k 1 x6 x415000 x415001 x415002 x416000 x416001 x416002 x416003 x416004 x416005) else (if x12 = 12 then ((impl_within.f (wrap64 ((x416005.length : Int) - 1)) 1 2).bind fun t416 => (if t416 = true then (impl_kidsOk.j2 k 1 (wrap64 ((x416005.length : Int) - 1)) x415000 x415001 x415002 x416000 x416001 x416002 x416003 x416004 x416005) else (some false))) else (if x12 = 13 then (impl_kidsOk.j2 k 1 1 x415000 x415001 x415002 x416000 x416001 x416002 x416003 x416004 x416005) else (if x12 = 20 then (impl_kidsOk.l0 k x416005 (x416005.length : Int) 0 x415000 x415001 x415002 x416000 x416001 x416002 x416003 x416004 x416005) else (impl_kidsOk.j2 k x5 x6 x415000 x415001 x415002 x416000 x416001 x416002 x416003 x416004 x416005))))
def impl_kidsOk.l0 : Nat → List Int → Int → Int → List (S77) → List (S106) → List (S103) → Int → Int → ByteArray → ByteArray → ByteArray → List Int → Option (Bool)
  | 0, _, _, _, _, _, _, _, _, _, _, _, _ => none
  | k + 1, x35, x36, x37, x415000, x415001, x415002, x416000, x416001, x416002, x416003, x416004, x416005 => if x37 < x36 then (if 0 ≤ x37 then (if x37 < (x35.length : Int) then ((impl_isStatement.f x415000 x415001 x415002 (rd x35 x37)).bind fun t418 => (if t418 = true then (impl_kidsOk.l0 k x35 x36 (wrap64 (x37 + 1)) x415000 x415001 x415002 x416000 x416001 x416002 x416003 x416004 x416005) else (some false))) else (none)) else (none)) else ((impl_within.f (x416005.length : Int) 1 12).bind fun t419 => (some t419))
end
def impl_kidsOk.f (k : Nat) (l0_0 : List (S77)) (l0_1 : List (S106)) (l0_2 : List (S103)) (a1_0 : Int) (a1_1 : Int) (a1_2 : ByteArray) (a1_3 : ByteArray) (a1_4 : ByteArray) (l1_5 : List Int) : Option (Bool) := if a1_0 = 3 then (impl_kidsOk.j2 k 2 0 l0_0 l0_1 l0_2 a1_0 a1_1 a1_2 a1_3 a1_4 l1_5) else (if a1_0 = 4 then (impl_kidsOk.j0 k 0 0 a1_0 (a1_0 == 4) l0_0 l0_1 l0_2 a1_0 a1_1 a1_2 a1_3 a1_4 l1_5) else (if a1_0 = 5 then (impl_kidsOk.j0 k 0 0 a1_0 (a1_0 == 5) l0_0 l0_1 l0_2 a1_0 a1_1 a1_2 a1_3 a1_4 l1_5) else (if a1_0 = 11 then (impl_kidsOk.j0 k 0 0 a1_0 (a1_0 == 11) l0_0 l0_1 l0_2 a1_0 a1_1 a1_2 a1_3 a1_4 l1_5) else (if a1_0 = 14 then (impl_kidsOk.j0 k 0 0 a1_0 (a1_0 == 14) l0_0 l0_1 l0_2 a1_0 a1_1 a1_2 a1_3 a1_4 l1_5) else (impl_kidsOk.j0 k 0 0 a1_0 (a1_0 == 15) l0_0 l0_1 l0_2 a1_0 a1_1 a1_2 a1_3 a1_4 l1_5)))))
def impl_letter.f (a0 : Int) : Option (Bool) := if a0 ≥ 97 then (some (decide (a0 ≤ 122))) else (some false)
def slices_Index_string_string.l0 : Nat → List ByteArray → ByteArray → Int → Int → Option (Int)
  | 0, _, _, _, _ => none
  | k + 1, x0, x1, x7, x8 => if x8 < x7 then (if 0 ≤ x8 then (if x8 < (x0.length : Int) then (if x1.toList = (rdOf ByteArray.empty x0 x8).toList then (some x8) else (slices_Index_string_string.l0 k x0 x1 x7 (wrap64 (x8 + 1)))) else (none)) else (none)) else (some (-1))
def slices_Index_string_string.f (k : Nat) (l0 : List ByteArray) (a1 : ByteArray) : Option (Int) := slices_Index_string_string.l0 k l0 a1 (l0.length : Int) 0
def slices_Contains_string_string.f (k : Nat) (l0 : List ByteArray) (a1 : ByteArray) : Option (Bool) := (slices_Index_string_string.f k l0 a1).bind fun t425 => (some (decide (t425 ≥ 0)))
def impl_KeyWord.f (k : Nat) (a0 : ByteArray) : Option (Bool) := (slices_Contains_string_string.f k (([(⟨#[109, 111, 110, 105, 116, 111, 114]⟩ : ByteArray), (⟨#[118, 97, 114]⟩ : ByteArray), (⟨#[113, 117, 101, 117, 101]⟩ : ByteArray), (⟨#[101, 110, 116, 114, 121]⟩ : ByteArray), (⟨#[112, 114, 111, 99, 101, 115, 115]⟩ : ByteArray), (⟨#[117, 115, 101, 115]⟩ : ByteArray), (⟨#[98, 101, 103, 105, 110]⟩ : ByteArray), (⟨#[101, 110, 100]⟩ : ByteArray), (⟨#[105, 102]⟩ : ByteArray), (⟨#[116, 104, 101, 110]⟩ : ByteArray), (⟨#[101, 108, 115, 101]⟩ : ByteArray), (⟨#[119, 104, 105, 108, 101]⟩ : ByteArray), (⟨#[100, 111]⟩ : ByteArray), (⟨#[99, 97, 108, 108]⟩ : ByteArray), (⟨#[116, 111]⟩ : ByteArray), (⟨#[112, 114, 105, 110, 116]⟩ : ByteArray), (⟨#[114, 101, 97, 100]⟩ : ByteArray), (⟨#[100, 101, 108, 97, 121]⟩ : ByteArray), (⟨#[99, 111, 110, 116, 105, 110, 117, 101]⟩ : ByteArray), (⟨#[115, 107, 105, 112]⟩ : ByteArray), (⟨#[97, 110, 100]⟩ : ByteArray), (⟨#[111, 114]⟩ : ByteArray), (⟨#[110, 111, 116]⟩ : ByteArray)] : List ByteArray)) a0).bind fun t429 => (some t429)
def impl_run_impl_letter.l0 : Nat → ByteArray → Int → Option (Int)
  | 0, _, _ => none
  | k + 1, x0, x1 => if x1 < (x0.size : Int) then (if 0 ≤ x1 then ((impl_letter.f (bt x0 x1)).bind fun t431 => (if t431 = true then (impl_run_impl_letter.l0 k x0 (wrap64 (x1 + 1))) else (some x1))) else (none)) else (some x1)
def impl_run_impl_letter.f (k : Nat) (a0 : ByteArray) (a1 : Int)  : Option (Int) := impl_run_impl_letter.l0 k a0 a1
def impl_NameOk.f (k : Nat) (a0 : ByteArray) : Option (Bool) := (impl_within.f (a0.size : Int) 1 8).bind fun t430 => (if t430 = true then ((impl_run_impl_letter.f k a0 0).bind fun t432 => (if t432 = (a0.size : Int) then ((impl_KeyWord.f k a0).bind fun t433 => (some (!t433))) else (some false))) else (some false))
def impl_namesOk.j0 : Nat → Bool → Bool → Bool → Bool → Int → Bool → Int → Int → ByteArray → ByteArray → ByteArray → List Int → Option (Bool)
  | 0, _, _, _, _, _, _, _, _, _, _, _, _ => none
  | k + 1, x3, x4, x5, x6, x14, x15, x435000, x435001, x435002, x435003, x435004, x435005 => if x15 = true then (if x6 = true then (if x5 = true then ((impl_NameOk.f k x435002).bind fun t435 => (if t435 = true then (if x4 = true then ((impl_NameOk.f k x435003).bind fun t436 => (if t436 = true then (some true) else (some false))) else (some (x435003.toList == ([] : List UInt8)))) else (some false))) else (some false)) else (some false)) else (if x14 = 14 then (if x5 = true then (if x6 = true then ((impl_NameOk.f k x435002).bind fun t437 => (if t437 = true then ((impl_NameOk.f k x435003).bind fun t438 => (if t438 = true then (some true) else (some false))) else (some false))) else (some false)) else ((impl_NameOk.f k x435004).bind fun t439 => (if x6 = true then (if t439 = true then ((impl_NameOk.f k x435002).bind fun t440 => (if t440 = true then ((impl_NameOk.f k x435003).bind fun t441 => (if t441 = true then (some true) else (some false))) else (some false))) else (some false)) else (some false)))) else (if x14 = 1 then ((impl_within.f x435001 0 1000000).bind fun t442 => (if t442 = true then (if x5 = true then (if x3 = true then ((impl_NameOk.f k x435002).bind fun t443 => (if t443 = true then (if x4 = true then ((impl_NameOk.f k x435003).bind fun t444 => (if t444 = true then (some true) else (some false))) else (some (x435003.toList == ([] : List UInt8)))) else (some false))) else (if x435002.toList = ([] : List UInt8) then (if x4 = true then ((impl_NameOk.f k x435003).bind fun t445 => (if t445 = true then (some true) else (some false))) else (some (x435003.toList == ([] : List UInt8)))) else (some false))) else (some false)) else (some false))) else (if x14 = 3 then ((impl_within.f x435001 1 9).bind fun t446 => (if t446 = true then (if x5 = true then (if x3 = true then ((impl_NameOk.f k x435002).bind fun t447 => (if t447 = true then (if x4 = true then ((impl_NameOk.f k x435003).bind fun t448 => (if t448 = true then (some true) else (some false))) else (some (x435003.toList == ([] : List UInt8)))) else (some false))) else (if x435002.toList = ([] : List UInt8) then (if x4 = true then ((impl_NameOk.f k x435003).bind fun t449 => (if t449 = true then (some true) else (some false))) else (some (x435003.toList == ([] : List UInt8)))) else (some false))) else (some false)) else (some false))) else (if x6 = true then (if x5 = true then (if x3 = true then ((impl_NameOk.f k x435002).bind fun t450 => (if t450 = true then (if x4 = true then ((impl_NameOk.f k x435003).bind fun t451 => (if t451 = true then (some true) else (some false))) else (some (x435003.toList == ([] : List UInt8)))) else (some false))) else (if x435002.toList = ([] : List UInt8) then (if x4 = true then ((impl_NameOk.f k x435003).bind fun t452 => (if t452 = true then (some true) else (some false))) else (some (x435003.toList == ([] : List UInt8)))) else (some false))) else (some false)) else (some false)))))
def impl_namesOk.f (k : Nat) (a0_0 : Int) (a0_1 : Int) (a0_2 : ByteArray) (a0_3 : ByteArray) (a0_4 : ByteArray) (l0_5 : List Int) : Option (Bool) := if a0_0 = 2 then (impl_namesOk.j0 k false false (a0_4.toList == ([] : List UInt8)) (a0_1 == 0) a0_0 (a0_0 == 2) a0_0 a0_1 a0_2 a0_3 a0_4 l0_5) else (if a0_0 = 11 then (impl_namesOk.j0 k false false (a0_4.toList == ([] : List UInt8)) (a0_1 == 0) a0_0 (a0_0 == 11) a0_0 a0_1 a0_2 a0_3 a0_4 l0_5) else (if a0_0 = 16 then (impl_namesOk.j0 k false false (a0_4.toList == ([] : List UInt8)) (a0_1 == 0) a0_0 (a0_0 == 16) a0_0 a0_1 a0_2 a0_3 a0_4 l0_5) else (if a0_0 = 17 then (impl_namesOk.j0 k false false (a0_4.toList == ([] : List UInt8)) (a0_1 == 0) a0_0 (a0_0 == 17) a0_0 a0_1 a0_2 a0_3 a0_4 l0_5) else (impl_namesOk.j0 k false false (a0_4.toList == ([] : List UInt8)) (a0_1 == 0) a0_0 (a0_0 == 18) a0_0 a0_1 a0_2 a0_3 a0_4 l0_5))))
mutual
def impl_NodeOk.j0 : Nat → Int → Bool → List (S77) → List (S106) → List (S103) → Int → Int → ByteArray → ByteArray → ByteArray → List Int → Option (Bool)
  | 0, _, _, _, _, _, _, _, _, _, _, _ => none
  | k + 1, x1, x26, x454000, x454001, x454002, x457000, x457001, x457002, x457003, x457004, x457005 => if x26 = true then (some false) else (impl_NodeOk.l0 k x1 x457005 (x457005.length : Int) 0 x454000 x454001 x454002 x457000 x457001 x457002 x457003 x457004 x457005)
def impl_NodeOk.l0 : Nat → Int → List Int → Int → Int → List (S77) → List (S106) → List (S103) → Int → Int → ByteArray → ByteArray → ByteArray → List Int → Option (Bool)
  | 0, _, _, _, _, _, _, _, _, _, _, _, _, _ => none
  | k + 1, x1, x28, x29, x30, x454000, x454001, x454002, x457000, x457001, x457002, x457003, x457004, x457005 => if x30 < x29 then (if 0 ≤ x30 then (if x30 < (x28.length : Int) then ((impl_within.f (rd x28 x30) 0 (wrap64 (x1 - 1))).bind fun t462 => (if t462 = true then (if x30 ≤ (x457005.length : Int) then ((slices_Contains_int_int.f k (x457005.take (x30 : Int).toNat) (rd x28 x30)).bind fun t464 => (if t464 = true then (some false) else (impl_NodeOk.l0 k x1 x28 x29 (wrap64 (x30 + 1)) x454000 x454001 x454002 x457000 x457001 x457002 x457003 x457004 x457005))) else (none)) else (some false))) else (none)) else (none)) else ((impl_kidsOk.f k x454000 x454001 x454002 x457000 x457001 x457002 x457003 x457004 x457005).bind fun t459 => (if t459 = true then ((impl_namesOk.f k x457000 x457001 x457002 x457003 x457004 x457005).bind fun t460 => (some t460)) else (some false)))
end
def impl_NodeOk.f (k : Nat) (l0_0 : List (S77)) (l0_1 : List (S106)) (l0_2 : List (S103)) (a1 : Int) : Option (Bool) := (impl_isNode.f l0_0 l0_1 l0_2 a1).bind fun t454 => (if t454 = true then (if 0 ≤ a1 then (if a1 < (l0_0.length : Int) then ((impl_within.f ((rd_T77 l0_0 a1).f0) 1 5).bind fun t457 => (if t457 = true then (impl_NodeOk.j0 k a1 false l0_0 l0_1 l0_2 ((rd_T77 l0_0 a1).f0) ((rd_T77 l0_0 a1).f1) ((rd_T77 l0_0 a1).f2) ((rd_T77 l0_0 a1).f3) ((rd_T77 l0_0 a1).f4) ((rd_T77 l0_0 a1).f5)) else ((impl_within.f ((rd_T77 l0_0 a1).f0) 11 20).bind fun t458 => (impl_NodeOk.j0 k a1 (!t458) l0_0 l0_1 l0_2 ((rd_T77 l0_0 a1).f0) ((rd_T77 l0_0 a1).f1) ((rd_T77 l0_0 a1).f2) ((rd_T77 l0_0 a1).f3) ((rd_T77 l0_0 a1).f4) ((rd_T77 l0_0 a1).f5))))) else (none)) else (none)) else (some false))
mutual
def impl_deeps.l0 : Nat → List Int → Int → Int → List (S77) → List (S106) → List (S103) → Option (List Int)
  | 0, _, _, _, _, _, _ => none
  | k + 1, x5, x14, x15, x466000, x466001, x466002 => if x15 < x14 then ((impl_NodeOk.f k x466000 x466001 x466002 x15).bind fun t469 => (if t469 = true then (impl_deeps.j1 k x5 x15 1 x14 x15 x466000 x466001 x466002) else (impl_deeps.j1 k x5 x15 11 x14 x15 x466000 x466001 x466002))) else (some x5)
def impl_deeps.j1 : Nat → List Int → Int → Int → Int → Int → List (S77) → List (S106) → List (S103) → Option (List Int)
  | 0, _, _, _, _, _, _, _, _ => none
  | k + 1, x5, x6, x7, x14, x15, x466000, x466001, x466002 => if 0 ≤ x6 then (if x6 < (x466000.length : Int) then (impl_deeps.l1 k x5 x6 x7 x14 x15 ((rd_T77 x466000 x6).f5) (((rd_T77 x466000 x6).f5).length : Int) 0 x466000 x466001 x466002) else (none)) else (none)
def impl_deeps.l1 : Nat → List Int → Int → Int → Int → Int → List Int → Int → Int → List (S77) → List (S106) → List (S103) → Option (List Int)
  | 0, _, _, _, _, _, _, _, _, _, _, _ => none
  | k + 1, x5, x6, x7, x14, x15, x27, x28, x29, x466000, x466001, x466002 => if x29 < x28 then (if 0 ≤ x29 then (if x29 < (x27.length : Int) then ((impl_within.f (rd x27 x29) 0 (wrap64 (x6 - 1))).bind fun t472 => (if t472 = true then (if 0 ≤ (rd x27 x29) then (if (rd x27 x29) < (x5.length : Int) then (if (rd x5 (rd x27 x29)) = 0 then (if 11 > 10 then (some x5) else (if 0 ≤ x6 then (if x6 < (x5.length : Int) then (impl_deeps.l0 k (x5.set (x6 : Int).toNat 11) x14 (wrap64 (x15 + 1)) x466000 x466001 x466002) else (none)) else (none))) else (impl_deeps.l1 k x5 x6 (mx x7 (wrap64 ((rd x5 (rd x27 x29)) + 1))) x14 x15 x27 x28 (wrap64 (x29 + 1)) x466000 x466001 x466002)) else (none)) else (none)) else (if 11 > 10 then (some x5) else (if 0 ≤ x6 then (if x6 < (x5.length : Int) then (impl_deeps.l0 k (x5.set (x6 : Int).toNat 11) x14 (wrap64 (x15 + 1)) x466000 x466001 x466002) else (none)) else (none))))) else (none)) else (none)) else (if x7 > 10 then (some x5) else (if 0 ≤ x6 then (if x6 < (x5.length : Int) then (impl_deeps.l0 k (x5.set (x6 : Int).toNat x7) x14 (wrap64 (x15 + 1)) x466000 x466001 x466002) else (none)) else (none)))
end
def impl_deeps.f (k : Nat) (l0_0 : List (S77)) (l0_1 : List (S106)) (l0_2 : List (S103)) (a1 : Int) : Option (List Int) := if 0 ≤ (wrap64 (a1 + 1)) then (if (wrap64 (a1 + 1) : Int).toNat ≤ 35184372088832 then ((some (List.replicate (wrap64 (a1 + 1) : Int).toNat 0 : List Int)).bind fun y466 => (impl_deeps.l0 k y466 (y466.length : Int) 0 l0_0 l0_1 l0_2)) else (none)) else (none)
def impl_DeepOf.f (k : Nat) (l0_0 : List (S77)) (l0_1 : List (S106)) (l0_2 : List (S103)) (a1 : Int) : Option (Int) := (impl_isNode.f l0_0 l0_1 l0_2 a1).bind fun t479 => (if t479 = true then ((impl_deeps.f k l0_0 l0_1 l0_2 a1).bind fun t480 => (if 0 ≤ a1 then (if a1 < (t480.length : Int) then (some (rd t480 a1)) else (none)) else (none))) else (some 0))
def slices_Reverse_int_int.l0 : Nat → List Int → Int → Int → Option (List Int)
  | 0, _, _, _ => none
  | k + 1, x0, x2, x3 => if x2 < x3 then (if 0 ≤ x3 then (if x3 < (x0.length : Int) then (if 0 ≤ x2 then (if x2 < (x0.length : Int) then (slices_Reverse_int_int.l0 k ((x0.set (x2 : Int).toNat (rd x0 x3)).set (x3 : Int).toNat (rd x0 x2)) (wrap64 (x2 + 1)) (wrap64 (x3 - 1))) else (none)) else (none)) else (none)) else (none)) else (some x0)
def slices_Reverse_int_int.f (k : Nat) (l0 : List Int) : Option (List Int) := slices_Reverse_int_int.l0 k l0 0 (wrap64 ((l0.length : Int) - 1))
mutual
def impl_NodesUnder.l0 : Nat → List Bool → List Int → Int → List (S77) → List (S106) → List (S103) → Option (List Int)
  | 0, _, _, _, _, _, _ => none
  | k + 1, x5, x6, x7, x489000, x489001, x489002 => if x7 ≥ 0 then (if 0 ≤ x7 then (if x7 < (x5.length : Int) then (if rdOf false x5 x7 = true then (if x6.length < 17592186044416 then (if x7 < (x489000.length : Int) then (impl_NodesUnder.l1 k x5 (x6 ++ [x7]) x7 ((rd_T77 x489000 x7).f5) (((rd_T77 x489000 x7).f5).length : Int) 0 x489000 x489001 x489002) else (none)) else (none)) else (impl_NodesUnder.l0 k x5 x6 (wrap64 (x7 - 1)) x489000 x489001 x489002)) else (none)) else (none)) else ((slices_Reverse_int_int.f k x6).bind fun t494 => (some t494))
def impl_NodesUnder.l1 : Nat → List Bool → List Int → Int → List Int → Int → Int → List (S77) → List (S106) → List (S103) → Option (List Int)
  | 0, _, _, _, _, _, _, _, _, _ => none
  | k + 1, x5, x6, x7, x38, x39, x40, x489000, x489001, x489002 => if x40 < x39 then (if 0 ≤ x40 then (if x40 < (x38.length : Int) then (if 0 ≤ (rd x38 x40) then (if (rd x38 x40) < (x5.length : Int) then (impl_NodesUnder.l1 k (x5.set ((rd x38 x40) : Int).toNat true) x6 x7 x38 x39 (wrap64 (x40 + 1)) x489000 x489001 x489002) else (none)) else (none)) else (none)) else (none)) else (impl_NodesUnder.l0 k x5 x6 (wrap64 (x7 - 1)) x489000 x489001 x489002)
end
def impl_NodesUnder.f (k : Nat) (l0_0 : List (S77)) (l0_1 : List (S106)) (l0_2 : List (S103)) (a1 : Int) : Option (List Int) := (impl_DeepOf.f k l0_0 l0_1 l0_2 a1).bind fun t489 => (if t489 = 0 then (some ([] : List Int)) else (if 0 ≤ (wrap64 (a1 + 1)) then (if (wrap64 (a1 + 1) : Int).toNat ≤ 281474976710656 then ((some (List.replicate (wrap64 (a1 + 1) : Int).toNat false : List Bool)).bind fun y490 => (if 0 ≤ a1 then (if a1 < (y490.length : Int) then (impl_NodesUnder.l0 k (y490.set (a1 : Int).toNat true) ([] : List Int) a1 l0_0 l0_1 l0_2) else (none)) else (none))) else (none)) else (none)))
def impl_isProcess.f (l0_0 : List (S77)) (l0_1 : List (S106)) (l0_2 : List (S103)) (a1 : Int) : Option (Bool) := (impl_within.f a1 0 (wrap64 ((l0_2.length : Int) - 1))).bind fun t503 => (some t503)
def impl_CallsOf_1.f (a0 : Int) (p0 : List S77) (p1 : List S106) (p2 : List S103) (m0 : ByteArray) (m1 : List ByteArray) (m2 : List ByteArray) (m3 : List S131) : Option Bool :=
  if 0 ≤ a0 then (if a0 < (p0.length : Int) then (if (rd_T77 p0 a0).f0 = 14 then (if (rd_T77 p0 a0).f2.toList = m0.toList then some true else some false) else some false) else none) else none
def slices_IndexFunc_int_int_impl_CallsOf_1.l0 : Nat → List S77 → List S106 → List S103 → ByteArray → List ByteArray → List ByteArray → List S131 → List Int → Int → Int → Option Int
 | 0, _, _, _, _, _, _, _, _, _, _ => none
 | k + 1, p0, p1, p2, m0, m1, m2, m3, x0, x7, x8 => if x8 < x7 then (if 0 ≤ x8 then (if x8 < (x0.length : Int) then ((impl_CallsOf_1.f (rd x0 x8) p0 p1 p2 m0 m1 m2 m3).bind fun t => if t = true then some x8 else slices_IndexFunc_int_int_impl_CallsOf_1.l0 k p0 p1 p2 m0 m1 m2 m3 x0 x7 (wrap64 (x8 + 1))) else none) else none) else some (-1)
def slices_IndexFunc_int_int_impl_CallsOf_1.f (k : Nat) (l0 : List Int) (p0 : List S77) (p1 : List S106) (p2 : List S103) (m0 : ByteArray) (m1 : List ByteArray) (m2 : List ByteArray) (m3 : List S131) : Option Int :=
  slices_IndexFunc_int_int_impl_CallsOf_1.l0 k p0 p1 p2 m0 m1 m2 m3 l0 (l0.length : Int) 0
def slices_ContainsFunc_int_int_impl_CallsOf_1.f (k : Nat) (l0 : List Int) (p0 : List S77) (p1 : List S106) (p2 : List S103) (m0 : ByteArray) (m1 : List ByteArray) (m2 : List ByteArray) (m3 : List S131) : Option Bool :=
  (slices_IndexFunc_int_int_impl_CallsOf_1.f k l0 p0 p1 p2 m0 m1 m2 m3).bind fun t => some (decide (t ≥ 0))
def impl_CallsOf.l0 : Nat → List Int → List Int → List S106 → Int → Int → List S77 → List S106 → List S103 → Option (List Int)
 | 0, _, _, _, _, _, _, _, _ => none
 | k + 1, x5, x6, x22, x23, x24, p0, p1, p2 => if x24 < x23 then (if 0 ≤ x24 then (if x24 < (x22.length : Int) then
   ((slices_ContainsFunc_int_int_impl_CallsOf_1.f k x6 p0 p1 p2 (rd_T106 x22 x24).f0 (rd_T106 x22 x24).f1 (rd_T106 x22 x24).f2 (rd_T106 x22 x24).f3).bind fun t => if t = true then (if x5.length < 17592186044416 then impl_CallsOf.l0 k (x5 ++ [x24]) x6 x22 x23 (wrap64 (x24 + 1)) p0 p1 p2 else none) else impl_CallsOf.l0 k x5 x6 x22 x23 (wrap64 (x24 + 1)) p0 p1 p2) else none) else none) else some x5
def impl_CallsOf.f (k : Nat) (l0_0 : List S77) (l0_1 : List S106) (l0_2 : List S103) (a1 : Int) : Option (List Int) :=
  (impl_isProcess.f l0_0 l0_1 l0_2 a1).bind fun t => if t = true then (if 0 ≤ a1 then (if a1 < (l0_2.length : Int) then ((impl_NodesUnder.f k l0_0 l0_1 l0_2 (rd_T103 l0_2 a1).f3).bind fun u => impl_CallsOf.l0 k [] u l0_1 (l0_1.length : Int) 0 l0_0 l0_1 l0_2) else none) else none) else some []
def impl_Shared.l0 : Nat → Int → Int → Int → Int → List (S77) → List (S106) → List (S103) → Option (Bool)
  | 0, _, _, _, _, _, _, _ => none
  | k + 1, x1, x5, x9, x10, x505000, x505001, x505002 => if x10 < x9 then ((impl_CallsOf.f k x505000 x505001 x505002 x10).bind fun t505 => ((slices_Contains_int_int.f k t505 x1).bind fun t508 => (if t508 = true then (impl_Shared.l0 k x1 (wrap64 (x5 + 1)) x9 (wrap64 (x10 + 1)) x505000 x505001 x505002) else (impl_Shared.l0 k x1 x5 x9 (wrap64 (x10 + 1)) x505000 x505001 x505002)))) else (some (decide (x5 > 1)))
def impl_Shared.f (k : Nat) (l0_0 : List (S77)) (l0_1 : List (S106)) (l0_2 : List (S103)) (a1 : Int) : Option (Bool) := impl_Shared.l0 k a1 0 (l0_2.length : Int) 0 l0_0 l0_1 l0_2
def laws_FnExactShared.f (k : Nat) (l0_0 : List (S113)) (l0_1 : List (S117)) (l0_2 : List (S119)) (a1 : Int) : Option (Bool) := (laws_szProgram.f k l0_0 l0_1 l0_2 1048576).bind fun t510 => (if t510 < 0 then (some true) else ((laws_toProgram.f k l0_0 l0_1 l0_2).bind fun bt511 => ((spec_Shared.f k bt511.1 bt511.2.1 bt511.2.2 a1).bind fun t520 => ((laws_toProgram.f k l0_0 l0_1 l0_2).bind fun bt521 => ((impl_Shared.f k bt521.1 bt521.2.1 bt521.2.2 a1).bind fun t531 => (if (t531 != t520) = true then (some false) else ((laws_toProgram.f k l0_0 l0_1 l0_2).bind fun bt532 => ((laws_eqProgram.f k bt521.1 bt521.2.1 bt521.2.2 bt532.1 bt532.2.1 bt532.2.2).bind fun t541 => (if t541 = true then (some true) else (some false))))))))))
end Go.Proofs.Ytmbkcbgbienjoaa.PFnExactShared
