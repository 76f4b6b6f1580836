/- What the functions compute, in plain Lean. No condition. -/
import Derived.Test.YtmbkcbgbienjoaaCmp
import Derived.Test.YtmbkcbgbienjoaaWMore
import Derived.Test.YtmbkcbgbienjoaaWNEv
namespace Go.Proofs.Ytmbkcbgbienjoaa.PFnExactThreadNew
open Go.RowKit Go.Proofs.YtmbkcbgbienjoaaW.PrintWords Go.Proofs.YtmbkcbgbienjoaaW.PrintLast Go.Proofs.YtmbkcbgbienjoaaW.PrintMore
set_option linter.unusedVariables false
def errW : Option Int → Value
  | none => .nilIface
  | some c => .iface 0 (.int .i64 c)
def rd_L2 (xs : List (List Int)) (i : Int) : (List Int) := xs.getD i.toNat ([] : List Int)
structure S113 where
  f0 : Int
  f1 : Int
  f2 : ByteArray
  f3 : ByteArray
  f4 : ByteArray
  f5 : (List Int)
def z113 : S113 := ⟨(0 : Int), (0 : Int), (⟨#[]⟩ : ByteArray), (⟨#[]⟩ : ByteArray), (⟨#[]⟩ : ByteArray), ([] : List Int)⟩
def k113 : Kd S113 := Kd.iso (Kd.pair (Kd.int .i64) (Kd.pair (Kd.int .i64) (Kd.pair Kd.string (Kd.pair Kd.string (Kd.pair Kd.string (Kd.slice 3 (Kd.int .i64))))))) (fun x : S113 => (x.f0, x.f1, x.f2, x.f3, x.f4, x.f5))
def rd_T113 (xs : List S113) (i : Int) : S113 := xs.getD i.toNat z113
structure S143 where
  f0 : ByteArray
  f1 : ByteArray
  f2 : Int
def z143 : S143 := ⟨(⟨#[]⟩ : ByteArray), (⟨#[]⟩ : ByteArray), (0 : Int)⟩
def k143 : Kd S143 := Kd.iso (Kd.pair Kd.string (Kd.pair Kd.string (Kd.int .i64))) (fun x : S143 => (x.f0, x.f1, x.f2))
def rd_T143 (xs : List S143) (i : Int) : S143 := xs.getD i.toNat z143
def rd_L5 (xs : List (List ByteArray)) (i : Int) : (List ByteArray) := xs.getD i.toNat ([] : List ByteArray)
def rd_L6 (xs : List (List S143)) (i : Int) : (List S143) := xs.getD i.toNat ([] : List S143)
structure S117 where
  f0 : ByteArray
  f1 : (List ByteArray)
  f2 : (List ByteArray)
  f3 : (List S143)
def z117 : S117 := ⟨(⟨#[]⟩ : ByteArray), ([] : List ByteArray), ([] : List ByteArray), ([] : List S143)⟩
def k117 : Kd S117 := Kd.iso (Kd.pair Kd.string (Kd.pair (Kd.slice 9 Kd.string) (Kd.pair (Kd.slice 9 Kd.string) (Kd.slice 143 k143)))) (fun x : S117 => (x.f0, x.f1, x.f2, x.f3))
def rd_T117 (xs : List S117) (i : Int) : S117 := xs.getD i.toNat z117
structure S119 where
  f0 : ByteArray
  f1 : (List ByteArray)
  f2 : (List ByteArray)
  f3 : Int
def z119 : S119 := ⟨(⟨#[]⟩ : ByteArray), ([] : List ByteArray), ([] : List ByteArray), (0 : Int)⟩
def k119 : Kd S119 := Kd.iso (Kd.pair Kd.string (Kd.pair (Kd.slice 9 Kd.string) (Kd.pair (Kd.slice 9 Kd.string) (Kd.int .i64)))) (fun x : S119 => (x.f0, x.f1, x.f2, x.f3))
def rd_T119 (xs : List S119) (i : Int) : S119 := xs.getD i.toNat z119
structure S77 where
  f0 : Int
  f1 : Int
  f2 : ByteArray
  f3 : ByteArray
  f4 : ByteArray
  f5 : (List Int)
def z77 : S77 := ⟨(0 : Int), (0 : Int), (⟨#[]⟩ : ByteArray), (⟨#[]⟩ : ByteArray), (⟨#[]⟩ : ByteArray), ([] : List Int)⟩
def k77 : Kd S77 := Kd.iso (Kd.pair (Kd.int .i64) (Kd.pair (Kd.int .i64) (Kd.pair Kd.string (Kd.pair Kd.string (Kd.pair Kd.string (Kd.slice 3 (Kd.int .i64))))))) (fun x : S77 => (x.f0, x.f1, x.f2, x.f3, x.f4, x.f5))
def rd_T77 (xs : List S77) (i : Int) : S77 := xs.getD i.toNat z77
structure S131 where
  f0 : ByteArray
  f1 : ByteArray
  f2 : Int
def z131 : S131 := ⟨(⟨#[]⟩ : ByteArray), (⟨#[]⟩ : ByteArray), (0 : Int)⟩
def k131 : Kd S131 := Kd.iso (Kd.pair Kd.string (Kd.pair Kd.string (Kd.int .i64))) (fun x : S131 => (x.f0, x.f1, x.f2))
def rd_T131 (xs : List S131) (i : Int) : S131 := xs.getD i.toNat z131
def rd_L11 (xs : List (List S131)) (i : Int) : (List S131) := xs.getD i.toNat ([] : List S131)
structure S106 where
  f0 : ByteArray
  f1 : (List ByteArray)
  f2 : (List ByteArray)
  f3 : (List S131)
def z106 : S106 := ⟨(⟨#[]⟩ : ByteArray), ([] : List ByteArray), ([] : List ByteArray), ([] : List S131)⟩
def k106 : Kd S106 := Kd.iso (Kd.pair Kd.string (Kd.pair (Kd.slice 9 Kd.string) (Kd.pair (Kd.slice 9 Kd.string) (Kd.slice 131 k131)))) (fun x : S106 => (x.f0, x.f1, x.f2, x.f3))
def rd_T106 (xs : List S106) (i : Int) : S106 := xs.getD i.toNat z106
structure S103 where
  f0 : ByteArray
  f1 : (List ByteArray)
  f2 : (List ByteArray)
  f3 : Int
def z103 : S103 := ⟨(⟨#[]⟩ : ByteArray), ([] : List ByteArray), ([] : List ByteArray), (0 : Int)⟩
def k103 : Kd S103 := Kd.iso (Kd.pair Kd.string (Kd.pair (Kd.slice 9 Kd.string) (Kd.pair (Kd.slice 9 Kd.string) (Kd.int .i64)))) (fun x : S103 => (x.f0, x.f1, x.f2, x.f3))
def rd_T103 (xs : List S103) (i : Int) : S103 := xs.getD i.toNat z103
def laws_szIntS.f (l0 : List Int) (a1 : Int) : Option (Int) := if (wrap64 (a1 - (l0.length : Int))) < 0 then (some (-1)) else (some (wrap64 (a1 - (l0.length : Int))))
def laws_szNode.f (a0_0 : Int) (a0_1 : Int) (a0_2 : ByteArray) (a0_3 : ByteArray) (a0_4 : ByteArray) (l0_5 : List Int) (a1 : Int) : Option (Int) := if (wrap64 (a1 - (a0_2.size : Int))) < 0 then (some (-1)) else (if (wrap64 ((wrap64 (a1 - (a0_2.size : Int))) - (a0_3.size : Int))) < 0 then (some (-1)) else (if (wrap64 ((wrap64 ((wrap64 (a1 - (a0_2.size : Int))) - (a0_3.size : Int))) - (a0_4.size : Int))) < 0 then (some (-1)) else ((laws_szIntS.f l0_5 (wrap64 ((wrap64 ((wrap64 (a1 - (a0_2.size : Int))) - (a0_3.size : Int))) - (a0_4.size : Int)))).bind fun t102 => (if t102 < 0 then (some (-1)) else (some t102)))))
def laws_szNodeS.l0 : Nat → List (S113) → Int → Int → Option (Int)
  | 0, _, _, _ => none
  | k + 1, x0, x1, x5 => if x5 < (x0.length : Int) then (if 0 ≤ x5 then ((laws_szNode.f ((rd_T113 x0 x5).f0) ((rd_T113 x0 x5).f1) ((rd_T113 x0 x5).f2) ((rd_T113 x0 x5).f3) ((rd_T113 x0 x5).f4) ((rd_T113 x0 x5).f5) x1).bind fun t104 => (if t104 < 0 then (some (-1)) else (laws_szNodeS.l0 k x0 t104 (wrap64 (x5 + 1))))) else (none)) else (some x1)
def laws_szNodeS.f (k : Nat) (l0 : List (S113)) (a1 : Int) : Option (Int) := if (wrap64 (a1 - (l0.length : Int))) < 0 then (some (-1)) else (laws_szNodeS.l0 k l0 (wrap64 (a1 - (l0.length : Int))) 0)
def laws_szStringS.l0 : Nat → List ByteArray → Int → Int → Option (Int)
  | 0, _, _, _ => none
  | k + 1, x0, x1, x5 => if x5 < (x0.length : Int) then (if 0 ≤ x5 then (if (wrap64 (x1 - ((rdOf ByteArray.empty x0 x5).size : Int))) < 0 then (some (-1)) else (laws_szStringS.l0 k x0 (wrap64 (x1 - ((rdOf ByteArray.empty x0 x5).size : Int))) (wrap64 (x5 + 1)))) else (none)) else (some x1)
def laws_szStringS.f (k : Nat) (l0 : List ByteArray) (a1 : Int) : Option (Int) := if (wrap64 (a1 - (l0.length : Int))) < 0 then (some (-1)) else (laws_szStringS.l0 k l0 (wrap64 (a1 - (l0.length : Int))) 0)
def laws_szEntry.f (a0_0 : ByteArray) (a0_1 : ByteArray) (a0_2 : Int) (a1 : Int) : Option (Int) := if (wrap64 (a1 - (a0_0.size : Int))) < 0 then (some (-1)) else (if (wrap64 ((wrap64 (a1 - (a0_0.size : Int))) - (a0_1.size : Int))) < 0 then (some (-1)) else (some (wrap64 ((wrap64 (a1 - (a0_0.size : Int))) - (a0_1.size : Int)))))
def laws_szEntryS.l0 : Nat → List (S143) → Int → Int → Option (Int)
  | 0, _, _, _ => none
  | k + 1, x0, x1, x5 => if x5 < (x0.length : Int) then (if 0 ≤ x5 then ((laws_szEntry.f ((rd_T143 x0 x5).f0) ((rd_T143 x0 x5).f1) ((rd_T143 x0 x5).f2) x1).bind fun t108 => (if t108 < 0 then (some (-1)) else (laws_szEntryS.l0 k x0 t108 (wrap64 (x5 + 1))))) else (none)) else (some x1)
def laws_szEntryS.f (k : Nat) (l0 : List (S143)) (a1 : Int) : Option (Int) := if (wrap64 (a1 - (l0.length : Int))) < 0 then (some (-1)) else (laws_szEntryS.l0 k l0 (wrap64 (a1 - (l0.length : Int))) 0)
def laws_szMonitor.f (k : Nat) (a0_0 : ByteArray) (l0_1 : List ByteArray) (l0_2 : List ByteArray) (l0_3 : List (S143)) (a1 : Int) : Option (Int) := if (wrap64 (a1 - (a0_0.size : Int))) < 0 then (some (-1)) else ((laws_szStringS.f k l0_1 (wrap64 (a1 - (a0_0.size : Int)))).bind fun t110 => (if t110 < 0 then (some (-1)) else ((laws_szStringS.f k l0_2 t110).bind fun t111 => (if t111 < 0 then (some (-1)) else ((laws_szEntryS.f k l0_3 t111).bind fun t112 => (if t112 < 0 then (some (-1)) else (some t112)))))))
def laws_szMonitorS.l0 : Nat → List (S117) → Int → Int → Option (Int)
  | 0, _, _, _ => none
  | k + 1, x0, x1, x5 => if x5 < (x0.length : Int) then (if 0 ≤ x5 then ((laws_szMonitor.f k ((rd_T117 x0 x5).f0) ((rd_T117 x0 x5).f1) ((rd_T117 x0 x5).f2) ((rd_T117 x0 x5).f3) x1).bind fun t114 => (if t114 < 0 then (some (-1)) else (laws_szMonitorS.l0 k x0 t114 (wrap64 (x5 + 1))))) else (none)) else (some x1)
def laws_szMonitorS.f (k : Nat) (l0 : List (S117)) (a1 : Int) : Option (Int) := if (wrap64 (a1 - (l0.length : Int))) < 0 then (some (-1)) else (laws_szMonitorS.l0 k l0 (wrap64 (a1 - (l0.length : Int))) 0)
def laws_szProcess.f (k : Nat) (a0_0 : ByteArray) (l0_1 : List ByteArray) (l0_2 : List ByteArray) (a0_3 : Int) (a1 : Int) : Option (Int) := if (wrap64 (a1 - (a0_0.size : Int))) < 0 then (some (-1)) else ((laws_szStringS.f k l0_1 (wrap64 (a1 - (a0_0.size : Int)))).bind fun t116 => (if t116 < 0 then (some (-1)) else ((laws_szStringS.f k l0_2 t116).bind fun t117 => (if t117 < 0 then (some (-1)) else (some t117)))))
def laws_szProcessS.l0 : Nat → List (S119) → Int → Int → Option (Int)
  | 0, _, _, _ => none
  | k + 1, x0, x1, x5 => if x5 < (x0.length : Int) then (if 0 ≤ x5 then ((laws_szProcess.f k ((rd_T119 x0 x5).f0) ((rd_T119 x0 x5).f1) ((rd_T119 x0 x5).f2) ((rd_T119 x0 x5).f3) x1).bind fun t119 => (if t119 < 0 then (some (-1)) else (laws_szProcessS.l0 k x0 t119 (wrap64 (x5 + 1))))) else (none)) else (some x1)
def laws_szProcessS.f (k : Nat) (l0 : List (S119)) (a1 : Int) : Option (Int) := if (wrap64 (a1 - (l0.length : Int))) < 0 then (some (-1)) else (laws_szProcessS.l0 k l0 (wrap64 (a1 - (l0.length : Int))) 0)
def laws_szProgram.f (k : Nat) (l0_0 : List (S113)) (l0_1 : List (S117)) (l0_2 : List (S119)) (a1 : Int) : Option (Int) := (laws_szNodeS.f k l0_0 a1).bind fun t121 => (if t121 < 0 then (some (-1)) else ((laws_szMonitorS.f k l0_1 t121).bind fun t122 => (if t122 < 0 then (some (-1)) else ((laws_szProcessS.f k l0_2 t122).bind fun t123 => (if t123 < 0 then (some (-1)) else (some t123))))))
def laws_toIntS.l0 : Nat → List Int → List Int → Int → Option (List Int)
  | 0, _, _, _ => none
  | k + 1, x0, x3, x4 => if x4 < (x0.length : Int) then (if 0 ≤ x4 then (if x4 < (x3.length : Int) then (laws_toIntS.l0 k x0 (x3.set (x4 : Int).toNat (rd x0 x4)) (wrap64 (x4 + 1))) else (none)) else (none)) else (some x3)
def laws_toIntS.f (k : Nat) (l0 : List Int) : Option (List Int) := if 0 ≤ (l0.length : Int) then (if ((l0.length : Int) : Int).toNat ≤ 35184372088832 then (laws_toIntS.l0 k l0 (List.replicate ((l0.length : Int) : Int).toNat 0) 0) else (none)) else (none)
def laws_toNode.f (k : Nat) (a0_0 : Int) (a0_1 : Int) (a0_2 : ByteArray) (a0_3 : ByteArray) (a0_4 : ByteArray) (l0_5 : List Int) : Option (Int × Int × ByteArray × ByteArray × ByteArray × List Int) := (laws_toIntS.f k l0_5).bind fun t132 => (some (a0_0, a0_1, a0_2, a0_3, a0_4, t132))
def laws_toNodeS.l0 : Nat → List (S113) → List (S77) → Int → Option ((List (S77)))
  | 0, _, _, _ => none
  | k + 1, x0, x3, x4 => if x4 < (x0.length : Int) then (if 0 ≤ x4 then ((laws_toNode.f k ((rd_T113 x0 x4).f0) ((rd_T113 x0 x4).f1) ((rd_T113 x0 x4).f2) ((rd_T113 x0 x4).f3) ((rd_T113 x0 x4).f4) ((rd_T113 x0 x4).f5)).bind fun bt139 => (if x4 < (x3.length : Int) then (laws_toNodeS.l0 k x0 (x3.set (x4 : Int).toNat (⟨bt139.1, bt139.2.1, bt139.2.2.1, bt139.2.2.2.1, bt139.2.2.2.2.1, bt139.2.2.2.2.2⟩ : S77)) (wrap64 (x4 + 1))) else (none))) else (none)) else (some x3)
def laws_toNodeS.f (k : Nat) (l0 : List (S113)) : Option ((List (S77))) := if 0 ≤ (l0.length : Int) then (if ((l0.length : Int) : Int).toNat ≤ 3198579280802 then (laws_toNodeS.l0 k l0 (List.replicate ((l0.length : Int) : Int).toNat z77) 0) else (none)) else (none)
def laws_toStringS.l0 : Nat → List ByteArray → List ByteArray → Int → Option (List ByteArray)
  | 0, _, _, _ => none
  | k + 1, x0, x3, x4 => if x4 < (x0.length : Int) then (if 0 ≤ x4 then (if x4 < (x3.length : Int) then (laws_toStringS.l0 k x0 (x3.set (x4 : Int).toNat (rdOf ByteArray.empty x0 x4)) (wrap64 (x4 + 1))) else (none)) else (none)) else (some x3)
def laws_toStringS.f (k : Nat) (l0 : List ByteArray) : Option (List ByteArray) := if 0 ≤ (l0.length : Int) then (if ((l0.length : Int) : Int).toNat ≤ 17592186044416 then (laws_toStringS.l0 k l0 (List.replicate ((l0.length : Int) : Int).toNat (⟨#[]⟩ : ByteArray)) 0) else (none)) else (none)
def laws_toEntry.f (a0_0 : ByteArray) (a0_1 : ByteArray) (a0_2 : Int) : Option (ByteArray × ByteArray × Int) := some (a0_0, a0_1, a0_2)
def laws_toEntryS.l0 : Nat → List (S143) → List (S131) → Int → Option ((List (S131)))
  | 0, _, _, _ => none
  | k + 1, x0, x3, x4 => if x4 < (x0.length : Int) then (if 0 ≤ x4 then ((laws_toEntry.f ((rd_T143 x0 x4).f0) ((rd_T143 x0 x4).f1) ((rd_T143 x0 x4).f2)).bind fun bt160 => (if x4 < (x3.length : Int) then (laws_toEntryS.l0 k x0 (x3.set (x4 : Int).toNat (⟨bt160.1, bt160.2.1, bt160.2.2⟩ : S131)) (wrap64 (x4 + 1))) else (none))) else (none)) else (some x3)
def laws_toEntryS.f (k : Nat) (l0 : List (S143)) : Option ((List (S131))) := if 0 ≤ (l0.length : Int) then (if ((l0.length : Int) : Int).toNat ≤ 7036874417766 then (laws_toEntryS.l0 k l0 (List.replicate ((l0.length : Int) : Int).toNat z131) 0) else (none)) else (none)
def laws_toMonitor.f (k : Nat) (a0_0 : ByteArray) (l0_1 : List ByteArray) (l0_2 : List ByteArray) (l0_3 : List (S143)) : Option (ByteArray × List ByteArray × List ByteArray × (List (S131))) := (laws_toStringS.f k l0_1).bind fun t167 => ((laws_toStringS.f k l0_2).bind fun t170 => ((laws_toEntryS.f k l0_3).bind fun t173 => (some (a0_0, t167, t170, t173))))
def laws_toMonitorS.l0 : Nat → List (S117) → List (S106) → Int → Option ((List (S106)))
  | 0, _, _, _ => none
  | k + 1, x0, x3, x4 => if x4 < (x0.length : Int) then (if 0 ≤ x4 then ((laws_toMonitor.f k ((rd_T117 x0 x4).f0) ((rd_T117 x0 x4).f1) ((rd_T117 x0 x4).f2) ((rd_T117 x0 x4).f3)).bind fun bt180 => (if x4 < (x3.length : Int) then (laws_toMonitorS.l0 k x0 (x3.set (x4 : Int).toNat (⟨bt180.1, bt180.2.1, bt180.2.2.1, bt180.2.2.2⟩ : S106)) (wrap64 (x4 + 1))) else (none))) else (none)) else (some x3)
def laws_toMonitorS.f (k : Nat) (l0 : List (S117)) : Option ((List (S106))) := if 0 ≤ (l0.length : Int) then (if ((l0.length : Int) : Int).toNat ≤ 3198579280802 then (laws_toMonitorS.l0 k l0 (List.replicate ((l0.length : Int) : Int).toNat z106) 0) else (none)) else (none)
def laws_toProcess.f (k : Nat) (a0_0 : ByteArray) (l0_1 : List ByteArray) (l0_2 : List ByteArray) (a0_3 : Int) : Option (ByteArray × List ByteArray × List ByteArray × Int) := (laws_toStringS.f k l0_1).bind fun t194 => ((laws_toStringS.f k l0_2).bind fun t197 => (some (a0_0, t194, t197, a0_3)))
def laws_toProcessS.l0 : Nat → List (S119) → List (S103) → Int → Option ((List (S103)))
  | 0, _, _, _ => none
  | k + 1, x0, x3, x4 => if x4 < (x0.length : Int) then (if 0 ≤ x4 then ((laws_toProcess.f k ((rd_T119 x0 x4).f0) ((rd_T119 x0 x4).f1) ((rd_T119 x0 x4).f2) ((rd_T119 x0 x4).f3)).bind fun bt204 => (if x4 < (x3.length : Int) then (laws_toProcessS.l0 k x0 (x3.set (x4 : Int).toNat (⟨bt204.1, bt204.2.1, bt204.2.2.1, bt204.2.2.2⟩ : S103)) (wrap64 (x4 + 1))) else (none))) else (none)) else (some x3)
def laws_toProcessS.f (k : Nat) (l0 : List (S119)) : Option ((List (S103))) := if 0 ≤ (l0.length : Int) then (if ((l0.length : Int) : Int).toNat ≤ 3909374676536 then (laws_toProcessS.l0 k l0 (List.replicate ((l0.length : Int) : Int).toNat z103) 0) else (none)) else (none)
def laws_toProgram.f (k : Nat) (l0_0 : List (S113)) (l0_1 : List (S117)) (l0_2 : List (S119)) : Option ((List (S77)) × (List (S106)) × (List (S103))) := (laws_toNodeS.f k l0_0).bind fun t216 => ((laws_toMonitorS.f k l0_1).bind fun t219 => ((laws_toProcessS.f k l0_2).bind fun t222 => (some (t216, t219, t222))))
def laws_eqIntS.l0 : Nat → List Int → List Int → Int → Option (Bool)
  | 0, _, _, _ => none
  | k + 1, x0, x1, x5 => if x5 < (x0.length : Int) then (if 0 ≤ x5 then (if x5 < (x1.length : Int) then (if (rd x0 x5) = (rd x1 x5) then (laws_eqIntS.l0 k x0 x1 (wrap64 (x5 + 1))) else (some false)) else (none)) else (none)) else (some true)
def laws_eqIntS.f (k : Nat) (l0 : List Int) (l1 : List Int) : Option (Bool) := if (l0.length : Int) = (l1.length : Int) then (laws_eqIntS.l0 k l0 l1 0) else (some false)
def laws_eqNode.f (k : Nat) (a0_0 : Int) (a0_1 : Int) (a0_2 : ByteArray) (a0_3 : ByteArray) (a0_4 : ByteArray) (l0_5 : List Int) (a1_0 : Int) (a1_1 : Int) (a1_2 : ByteArray) (a1_3 : ByteArray) (a1_4 : ByteArray) (l1_5 : List Int) : Option (Bool) := if a0_0 = a1_0 then (if a0_1 = a1_1 then (if a0_2.toList = a1_2.toList then (if a0_3.toList = a1_3.toList then (if a0_4.toList = a1_4.toList then ((laws_eqIntS.f k l0_5 l1_5).bind fun t229 => (if t229 = true then (some true) else (some false))) else (some false)) else (some false)) else (some false)) else (some false)) else (some false)
def laws_eqNodeS.l0 : Nat → List (S77) → List (S77) → Int → Option (Bool)
  | 0, _, _, _ => none
  | k + 1, x0, x1, x5 => if x5 < (x0.length : Int) then (if 0 ≤ x5 then (if x5 < (x1.length : Int) then ((laws_eqNode.f k ((rd_T77 x0 x5).f0) ((rd_T77 x0 x5).f1) ((rd_T77 x0 x5).f2) ((rd_T77 x0 x5).f3) ((rd_T77 x0 x5).f4) ((rd_T77 x0 x5).f5) ((rd_T77 x1 x5).f0) ((rd_T77 x1 x5).f1) ((rd_T77 x1 x5).f2) ((rd_T77 x1 x5).f3) ((rd_T77 x1 x5).f4) ((rd_T77 x1 x5).f5)).bind fun t232 => (if t232 = true then (laws_eqNodeS.l0 k x0 x1 (wrap64 (x5 + 1))) else (some false))) else (none)) else (none)) else (some true)
def laws_eqNodeS.f (k : Nat) (l0 : List (S77)) (l1 : List (S77)) : Option (Bool) := if (l0.length : Int) = (l1.length : Int) then (laws_eqNodeS.l0 k l0 l1 0) else (some false)
def laws_eqStringS.l0 : Nat → List ByteArray → List ByteArray → Int → Option (Bool)
  | 0, _, _, _ => none
  | k + 1, x0, x1, x5 => if x5 < (x0.length : Int) then (if 0 ≤ x5 then (if x5 < (x1.length : Int) then (if (rdOf ByteArray.empty x0 x5).toList = (rdOf ByteArray.empty x1 x5).toList then (laws_eqStringS.l0 k x0 x1 (wrap64 (x5 + 1))) else (some false)) else (none)) else (none)) else (some true)
def laws_eqStringS.f (k : Nat) (l0 : List ByteArray) (l1 : List ByteArray) : Option (Bool) := if (l0.length : Int) = (l1.length : Int) then (laws_eqStringS.l0 k l0 l1 0) else (some false)
def laws_eqEntry.f (a0_0 : ByteArray) (a0_1 : ByteArray) (a0_2 : Int) (a1_0 : ByteArray) (a1_1 : ByteArray) (a1_2 : Int) : Option (Bool) := if a0_0.toList = a1_0.toList then (if a0_1.toList = a1_1.toList then (if a0_2 = a1_2 then (some true) else (some false)) else (some false)) else (some false)
def laws_eqEntryS.l0 : Nat → List (S131) → List (S131) → Int → Option (Bool)
  | 0, _, _, _ => none
  | k + 1, x0, x1, x5 => if x5 < (x0.length : Int) then (if 0 ≤ x5 then (if x5 < (x1.length : Int) then ((laws_eqEntry.f ((rd_T131 x0 x5).f0) ((rd_T131 x0 x5).f1) ((rd_T131 x0 x5).f2) ((rd_T131 x1 x5).f0) ((rd_T131 x1 x5).f1) ((rd_T131 x1 x5).f2)).bind fun t239 => (if t239 = true then (laws_eqEntryS.l0 k x0 x1 (wrap64 (x5 + 1))) else (some false))) else (none)) else (none)) else (some true)
def laws_eqEntryS.f (k : Nat) (l0 : List (S131)) (l1 : List (S131)) : Option (Bool) := if (l0.length : Int) = (l1.length : Int) then (laws_eqEntryS.l0 k l0 l1 0) else (some false)
def laws_eqMonitor.f (k : Nat) (a0_0 : ByteArray) (l0_1 : List ByteArray) (l0_2 : List ByteArray) (l0_3 : List (S131)) (a1_0 : ByteArray) (l1_1 : List ByteArray) (l1_2 : List ByteArray) (l1_3 : List (S131)) : Option (Bool) := if a0_0.toList = a1_0.toList then ((laws_eqStringS.f k l0_1 l1_1).bind fun t242 => (if t242 = true then ((laws_eqStringS.f k l0_2 l1_2).bind fun t243 => (if t243 = true then ((laws_eqEntryS.f k l0_3 l1_3).bind fun t244 => (if t244 = true then (some true) else (some false))) else (some false))) else (some false))) else (some false)
def laws_eqMonitorS.l0 : Nat → List (S106) → List (S106) → Int → Option (Bool)
  | 0, _, _, _ => none
  | k + 1, x0, x1, x5 => if x5 < (x0.length : Int) then (if 0 ≤ x5 then (if x5 < (x1.length : Int) then ((laws_eqMonitor.f k ((rd_T106 x0 x5).f0) ((rd_T106 x0 x5).f1) ((rd_T106 x0 x5).f2) ((rd_T106 x0 x5).f3) ((rd_T106 x1 x5).f0) ((rd_T106 x1 x5).f1) ((rd_T106 x1 x5).f2) ((rd_T106 x1 x5).f3)).bind fun t247 => (if t247 = true then (laws_eqMonitorS.l0 k x0 x1 (wrap64 (x5 + 1))) else (some false))) else (none)) else (none)) else (some true)
def laws_eqMonitorS.f (k : Nat) (l0 : List (S106)) (l1 : List (S106)) : Option (Bool) := if (l0.length : Int) = (l1.length : Int) then (laws_eqMonitorS.l0 k l0 l1 0) else (some false)
def laws_eqProcess.f (k : Nat) (a0_0 : ByteArray) (l0_1 : List ByteArray) (l0_2 : List ByteArray) (a0_3 : Int) (a1_0 : ByteArray) (l1_1 : List ByteArray) (l1_2 : List ByteArray) (a1_3 : Int) : Option (Bool) := if a0_0.toList = a1_0.toList then ((laws_eqStringS.f k l0_1 l1_1).bind fun t250 => (if t250 = true then ((laws_eqStringS.f k l0_2 l1_2).bind fun t251 => (if t251 = true then (if a0_3 = a1_3 then (some true) else (some false)) else (some false))) else (some false))) else (some false)
def laws_eqProcessS.l0 : Nat → List (S103) → List (S103) → Int → Option (Bool)
  | 0, _, _, _ => none
  | k + 1, x0, x1, x5 => if x5 < (x0.length : Int) then (if 0 ≤ x5 then (if x5 < (x1.length : Int) then ((laws_eqProcess.f k ((rd_T103 x0 x5).f0) ((rd_T103 x0 x5).f1) ((rd_T103 x0 x5).f2) ((rd_T103 x0 x5).f3) ((rd_T103 x1 x5).f0) ((rd_T103 x1 x5).f1) ((rd_T103 x1 x5).f2) ((rd_T103 x1 x5).f3)).bind fun t254 => (if t254 = true then (laws_eqProcessS.l0 k x0 x1 (wrap64 (x5 + 1))) else (some false))) else (none)) else (none)) else (some true)
def laws_eqProcessS.f (k : Nat) (l0 : List (S103)) (l1 : List (S103)) : Option (Bool) := if (l0.length : Int) = (l1.length : Int) then (laws_eqProcessS.l0 k l0 l1 0) else (some false)
def laws_eqProgram.f (k : Nat) (l0_0 : List (S77)) (l0_1 : List (S106)) (l0_2 : List (S103)) (l1_0 : List (S77)) (l1_1 : List (S106)) (l1_2 : List (S103)) : Option (Bool) := (laws_eqNodeS.f k l0_0 l1_0).bind fun t257 => (if t257 = true then ((laws_eqMonitorS.f k l0_1 l1_1).bind fun t258 => (if t258 = true then ((laws_eqProcessS.f k l0_2 l1_2).bind fun t259 => (if t259 = true then (some true) else (some false))) else (some false))) else (some false))
def laws_eqEnv.f (k : Nat) (l0_0 : List ByteArray) (l0_1 : List Int) (l1_0 : List ByteArray) (l1_1 : List Int) : Option (Bool) := (laws_eqStringS.f k l0_0 l1_0).bind fun t262 => (if t262 = true then ((laws_eqIntS.f k l0_1 l1_1).bind fun t263 => (if t263 = true then (some true) else (some false))) else (some false))
def laws_eqThread.f (k : Nat) (l0_0 : List Int) (l0_1 : List ByteArray) (l0_2 : List Int) (a0_3 : Int) (l1_0 : List Int) (l1_1 : List ByteArray) (l1_2 : List Int) (a1_3 : Int) : Option (Bool) := (laws_eqIntS.f k l0_0 l1_0).bind fun t266 => (if t266 = true then ((laws_eqEnv.f k l0_1 l0_2 l1_1 l1_2).bind fun t267 => (if t267 = true then (if a0_3 = a1_3 then (some true) else (some false)) else (some false))) else (some false))
def laws_markIntS.l0 : Nat → List Int → Int → Int → Option (Int × List Int)
  | 0, _, _, _ => none
  | k + 1, x0, x1, x5 => if x5 < (x0.length : Int) then (if 0 ≤ x5 then (laws_markIntS.l0 k (x0.set (x5 : Int).toNat x1) (wrap64 (x1 + 1)) (wrap64 (x5 + 1))) else (none)) else (some (x1, x0))
def laws_markIntS.f (k : Nat) (l0 : List Int) (a1 : Int) : Option (Int × List Int) := laws_markIntS.l0 k l0 a1 0
def laws_markText.l0 : Nat → Int → ByteArray → Option (ByteArray)
  | 0, _, _ => none
  | k + 1, x0, x3 => if x0 > 0 then ((some (([(wrap64 (48 + (Int.tmod x0 10))) % 256] : List Int) : List Int)).bind fun y269 => (if (strOfNums y269).size + x3.size ≤ 9223372036854775807 then (laws_markText.l0 k (wrap64 (Int.tdiv x0 10)) ((strOfNums y269) ++ x3)) else (none))) else (if 1 + x3.size ≤ 9223372036854775807 then (some ((⟨#[109]⟩ : ByteArray) ++ x3)) else (none))
def laws_markText.f (k : Nat) (a0 : Int) : Option (ByteArray) := if a0 ≤ 0 then (some (⟨#[109, 48]⟩ : ByteArray)) else (laws_markText.l0 k a0 (⟨#[]⟩ : ByteArray))
def laws_markStringS.l0 : Nat → List ByteArray → Int → Int → Option (Int × List ByteArray)
  | 0, _, _, _ => none
  | k + 1, x0, x1, x5 => if x5 < (x0.length : Int) then ((laws_markText.f k x1).bind fun t272 => (if 0 ≤ x5 then (laws_markStringS.l0 k (x0.set (x5 : Int).toNat t272) (wrap64 (x1 + 1)) (wrap64 (x5 + 1))) else (none))) else (some (x1, x0))
def laws_markStringS.f (k : Nat) (l0 : List ByteArray) (a1 : Int) : Option (Int × List ByteArray) := laws_markStringS.l0 k l0 a1 0
def laws_markEntryS.l0 : Nat → List (S131) → Int → Int → Option (Int × (List (S131)))
  | 0, _, _, _ => none
  | k + 1, x0, x1, x5 => if x5 < (x0.length : Int) then ((laws_markText.f k x1).bind fun t274 => (if 0 ≤ x5 then ((some (x0.set (x5 : Int).toNat (⟨t274, (rd_T131 x0 x5).f1, (rd_T131 x0 x5).f2⟩ : S131) : List (S131))).bind fun y275 => ((laws_markText.f k (wrap64 (x1 + 1))).bind fun t276 => ((some (y275.set (x5 : Int).toNat (⟨(rd_T131 y275 x5).f0, t276, (rd_T131 y275 x5).f2⟩ : S131) : List (S131))).bind fun y277 => (laws_markEntryS.l0 k (y277.set (x5 : Int).toNat (⟨(rd_T131 y277 x5).f0, (rd_T131 y277 x5).f1, wrap64 ((wrap64 (x1 + 1)) + 1)⟩ : S131)) (wrap64 ((wrap64 ((wrap64 (x1 + 1)) + 1)) + 1)) (wrap64 (x5 + 1)))))) else (none))) else (some (x1, x0))
def laws_markEntryS.f (k : Nat) (l0 : List (S131)) (a1 : Int) : Option (Int × (List (S131))) := laws_markEntryS.l0 k l0 a1 0
def laws_markNodeS.l0 : Nat → List S77 → Int → Int → Option (Int × List S77)
 | 0, _, _, _ => none
 | k + 1, x0, x1, x5 => if x5 < (x0.length : Int) then (if 0 ≤ x5 then
   (laws_markText.f k (wrap64 (wrap64 (x1 + 1) + 1))).bind fun t2 => (laws_markText.f k (wrap64 (wrap64 (wrap64 (x1 + 1) + 1) + 1))).bind fun t3 => (laws_markText.f k (wrap64 (wrap64 (wrap64 (wrap64 (x1 + 1) + 1) + 1) + 1))).bind fun t4 =>
   (laws_markIntS.f k (rd_T77 x0 x5).f5 (wrap64 (wrap64 (wrap64 (wrap64 (wrap64 (x1 + 1) + 1) + 1) + 1) + 1))).bind fun p =>
   laws_markNodeS.l0 k (x0.set x5.toNat ⟨x1, wrap64 (x1 + 1), t2, t3, t4, p.2⟩) p.1 (wrap64 (x5 + 1)) else none) else some (x1, x0)
def laws_markNodeS.f (k : Nat) (l0 : List S77) (a1 : Int) : Option (Int × List S77) := laws_markNodeS.l0 k l0 a1 0
def laws_markMonitorS.l0 : Nat → List S106 → Int → Int → Option (Int × List S106)
 | 0, _, _, _ => none
 | k + 1, x0, x1, x5 => if x5 < (x0.length : Int) then (if 0 ≤ x5 then
   (laws_markText.f k x1).bind fun t0 => (laws_markStringS.f k (rd_T106 x0 x5).f1 (wrap64 (x1 + 1))).bind fun p1 => (laws_markStringS.f k (rd_T106 x0 x5).f2 p1.1).bind fun p2 => (laws_markEntryS.f k (rd_T106 x0 x5).f3 p2.1).bind fun p3 =>
   laws_markMonitorS.l0 k (x0.set x5.toNat ⟨t0, p1.2, p2.2, p3.2⟩) p3.1 (wrap64 (x5 + 1)) else none) else some (x1, x0)
def laws_markMonitorS.f (k : Nat) (l0 : List S106) (a1 : Int) : Option (Int × List S106) := laws_markMonitorS.l0 k l0 a1 0
def laws_markProcessS.l0 : Nat → List S103 → Int → Int → Option (Int × List S103)
 | 0, _, _, _ => none
 | k + 1, x0, x1, x5 => if x5 < (x0.length : Int) then (if 0 ≤ x5 then
   (laws_markText.f k x1).bind fun t0 => (laws_markStringS.f k (rd_T103 x0 x5).f1 (wrap64 (x1 + 1))).bind fun p1 => (laws_markStringS.f k (rd_T103 x0 x5).f2 p1.1).bind fun p2 =>
   laws_markProcessS.l0 k (x0.set x5.toNat ⟨t0, p1.2, p2.2, p2.1⟩) (wrap64 (p2.1 + 1)) (wrap64 (x5 + 1)) else none) else some (x1, x0)
def laws_markProcessS.f (k : Nat) (l0 : List S103) (a1 : Int) : Option (Int × List S103) := laws_markProcessS.l0 k l0 a1 0
def laws_markProgram.g (k : Nat) (l0_0 : List S77) (l0_1 : List S106) (l0_2 : List S103) (a1 : Int) : Option (Int × List S77 × List S106 × List S103) :=
  (laws_markNodeS.f k l0_0 a1).bind fun p0 => (laws_markMonitorS.f k l0_1 p0.1).bind fun p1 => (laws_markProcessS.f k l0_2 p1.1).bind fun p2 => some (p2.1, p0.2, p1.2, p2.2)
def laws_markProgram.f (k : Nat) (l0_0 : List S77) (l0_1 : List S106) (l0_2 : List S103) (a1 : Int) : Option (Int) := (laws_markProgram.g k l0_0 l0_1 l0_2 a1).bind fun p => some p.1
def spec_ThreadNew.l0 : Nat → List ByteArray → Int → List Int → List ByteArray → List Int → Int → Option (List Int × List ByteArray × List Int × Int)
  | 0, _, _, _, _, _, _ => none
  | k + 1, x2, x8, x287000, x287001, x287002, x287003 => if x8 < (x2.length : Int) then (if 0 ≤ x8 then (if x287001.length < 8796093022208 then (if x287002.length < 17592186044416 then (spec_ThreadNew.l0 k x2 (wrap64 (x8 + 1)) x287000 (x287001 ++ [rdOf ByteArray.empty x2 x8]) (x287002 ++ [0]) x287003) else (none)) else (none)) else (none)) else (some (x287000, x287001, x287002, x287003))
def spec_ThreadNew.f (k : Nat) (l0_0 : List (S77)) (l0_1 : List (S106)) (l0_2 : List (S103)) (a1 : Int) (l2 : List ByteArray) : Option (List Int × List ByteArray × List Int × Int) := spec_ThreadNew.l0 k l2 0 (([a1] : List Int)) ([] : List ByteArray) ([] : List Int) 0
def impl_ThreadNew.f (l0_0 : List (S77)) (l0_1 : List (S106)) (l0_2 : List (S103)) (a1 : Int) (l2 : List ByteArray) : Option (List Int × List ByteArray × List Int × Int) := if ([] : List ByteArray).length + l2.length < 8796093022208 then (if 0 ≤ (l2.length : Int) then (if ((l2.length : Int) : Int).toNat ≤ 35184372088832 then (some ((([a1] : List Int)), (([] : List ByteArray) ++ l2), (List.replicate ((l2.length : Int) : Int).toNat 0), 0)) else (none)) else (none)) else (none)
def laws_markEnv.f (k : Nat) (l0_0 : List ByteArray) (l0_1 : List Int) (a1 : Int) : Option (Int × List ByteArray × List Int) := (laws_markStringS.f k l0_0 a1).bind fun bt306 => ((laws_markIntS.f k l0_1 bt306.1).bind fun bt308 => (some (bt308.1, bt306.2, bt308.2)))
def laws_markThread.f (k : Nat) (l0_0 : List Int) (l0_1 : List ByteArray) (l0_2 : List Int) (a0_3 : Int) (a1 : Int) : Option (Int × List Int × List ByteArray × List Int) := (laws_markIntS.f k l0_0 a1).bind fun bt311 => ((laws_markEnv.f k l0_1 l0_2 bt311.1).bind fun bt313 => (some (bt313.1, bt311.2, bt313.2.1, bt313.2.2)))
def laws_heldIntS.l0 : Nat → List Int → Int → Int → Option (Int)
  | 0, _, _, _ => none
  | k + 1, x0, x1, x5 => if x5 < (x0.length : Int) then (if 0 ≤ x5 then (if (rd x0 x5) = x1 then (laws_heldIntS.l0 k x0 (wrap64 (x1 + 1)) (wrap64 (x5 + 1))) else (some (-1))) else (none)) else (some x1)
def laws_heldIntS.f (k : Nat) (l0 : List Int) (a1 : Int) : Option (Int) := laws_heldIntS.l0 k l0 a1 0
def laws_heldStringS.l0 : Nat → List ByteArray → Int → Int → Option (Int)
  | 0, _, _, _ => none
  | k + 1, x0, x1, x5 => if x5 < (x0.length : Int) then (if 0 ≤ x5 then ((laws_markText.f k x1).bind fun t318 => (if (rdOf ByteArray.empty x0 x5).toList = t318.toList then (laws_heldStringS.l0 k x0 (wrap64 (x1 + 1)) (wrap64 (x5 + 1))) else (some (-1)))) else (none)) else (some x1)
def laws_heldStringS.f (k : Nat) (l0 : List ByteArray) (a1 : Int) : Option (Int) := laws_heldStringS.l0 k l0 a1 0
def laws_heldEnv.f (k : Nat) (l0_0 : List ByteArray) (l0_1 : List Int) (a1 : Int) : Option (Int) := (laws_heldStringS.f k l0_0 a1).bind fun t320 => (if t320 < 0 then (some (-1)) else ((laws_heldIntS.f k l0_1 t320).bind fun t321 => (if t321 < 0 then (some (-1)) else (some t321))))
def laws_heldThread.f (k : Nat) (l0_0 : List Int) (l0_1 : List ByteArray) (l0_2 : List Int) (a0_3 : Int) (a1 : Int) : Option (Int) := (laws_heldIntS.f k l0_0 a1).bind fun t323 => (if t323 < 0 then (some (-1)) else ((laws_heldEnv.f k l0_1 l0_2 t323).bind fun t324 => (if t324 < 0 then (some (-1)) else (some t324))))
def laws_FnExactThreadNew.j0 : Nat → Int → List ByteArray → Bool → List (S113) → List (S117) → List (S119) → List Int → List ByteArray → List Int → Int → List Int → List ByteArray → List Int → Int → Option (Bool)
  | 0, _, _, _, _, _, _, _, _, _, _, _, _, _, _ => none
  | k + 1, x1, x2, x67, x326000, x326001, x326002, x351000, x351001, x351002, x351003, x375000, x375001, x375002, x375003 => if x67 = true then (some false) else ((laws_markThread.f k x375000 x375001 x375002 x375003 1).bind fun bt394 => ((laws_heldThread.f k bt394.2.1 bt394.2.2.1 bt394.2.2.2 x375003 1).bind fun t398 => (if t398 < 0 then (some false) else (if t398 = bt394.1 then ((laws_toProgram.f k x326000 x326001 x326002).bind fun bt399 => ((laws_toStringS.f k x2).bind fun t408 => ((impl_ThreadNew.f bt399.1 bt399.2.1 bt399.2.2 x1 t408).bind fun bt411 => ((laws_eqThread.f k bt411.1 bt411.2.1 bt411.2.2.1 bt411.2.2.2 x351000 x351001 x351002 x351003).bind fun t422 => (if t422 = true then ((laws_heldThread.f k bt394.2.1 bt394.2.2.1 bt394.2.2.2 x375003 1).bind fun t423 => (if t423 < 0 then (some false) else (if t423 = bt394.1 then (some true) else (some false)))) else (some false)))))) else (some false)))))
def laws_FnExactThreadNew.f (k : Nat) (l0_0 : List (S113)) (l0_1 : List (S117)) (l0_2 : List (S119)) (a1 : Int) (l2 : List ByteArray) : Option (Bool) := (laws_szProgram.f k l0_0 l0_1 l0_2 1048576).bind fun t326 => (if t326 < 0 then (some true) else ((laws_szStringS.f k l2 t326).bind fun t327 => (if t327 < 0 then (some true) else ((laws_toProgram.f k l0_0 l0_1 l0_2).bind fun bt328 => ((laws_toStringS.f k l2).bind fun t337 => ((spec_ThreadNew.f k bt328.1 bt328.2.1 bt328.2.2 a1 t337).bind fun bt340 => ((laws_toProgram.f k l0_0 l0_1 l0_2).bind fun bt351 => ((laws_toStringS.f k l2).bind fun t361 => ((impl_ThreadNew.f bt351.1 bt351.2.1 bt351.2.2 a1 t361).bind fun bt364 => ((laws_eqThread.f k bt364.1 bt364.2.1 bt364.2.2.1 bt364.2.2.2 bt340.1 bt340.2.1 bt340.2.2.1 bt340.2.2.2).bind fun t375 => (if t375 = true then ((laws_toProgram.f k l0_0 l0_1 l0_2).bind fun bt376 => ((laws_eqProgram.f k bt351.1 bt351.2.1 bt351.2.2 bt376.1 bt376.2.1 bt376.2.2).bind fun t385 => (if t385 = true then ((laws_toStringS.f k l2).bind fun t386 => ((laws_eqStringS.f k t361 t386).bind fun t389 => (if t389 = true then ((laws_markProgram.f k bt351.1 bt351.2.1 bt351.2.2 1).bind fun t390 => ((laws_markStringS.f k t361 t390).bind fun bt391 => (if bt391.1 < 0 then (laws_FnExactThreadNew.j0 k a1 l2 true l0_0 l0_1 l0_2 bt340.1 bt340.2.1 bt340.2.2.1 bt340.2.2.2 bt364.1 bt364.2.1 bt364.2.2.1 bt364.2.2.2) else ((laws_eqThread.f k bt364.1 bt364.2.1 bt364.2.2.1 bt364.2.2.2 bt340.1 bt340.2.1 bt340.2.2.1 bt340.2.2.2).bind fun t393 => (laws_FnExactThreadNew.j0 k a1 l2 (!t393) l0_0 l0_1 l0_2 bt340.1 bt340.2.1 bt340.2.2.1 bt340.2.2.2 bt364.1 bt364.2.1 bt364.2.2.1 bt364.2.2.2))))) else (some false)))) else (some false)))) else (some false))))))))))))
end Go.Proofs.Ytmbkcbgbienjoaa.PFnExactThreadNew
