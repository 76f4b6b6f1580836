/- What the functions compute, in plain Lean. No condition. -/
import Derived.Test.YtegeahiflkjhmaaCmp
import Derived.Test.YtegeahiflkjhmaaWMore
import Derived.Test.YtegeahiflkjhmaaWNEv
namespace Go.Proofs.Ytegeahiflkjhmaa.PFnExactSameProgram
open Go.RowKit Go.Proofs.YtegeahiflkjhmaaW.PrintWords Go.Proofs.YtegeahiflkjhmaaW.PrintLast Go.Proofs.YtegeahiflkjhmaaW.PrintMore
set_option linter.unusedVariables false
def errW : Option Int → Value
  | none => .nilIface
  | some c => .iface 0 (.int .i64 c)
def rd_L2 (xs : List (List Int)) (i : Int) : (List Int) := xs.getD i.toNat ([] : List Int)
structure S148 where
  f0 : Int
  f1 : Int
  f2 : ByteArray
  f3 : ByteArray
  f4 : ByteArray
  f5 : (List Int)
def z148 : S148 := ⟨(0 : Int), (0 : Int), (⟨#[]⟩ : ByteArray), (⟨#[]⟩ : ByteArray), (⟨#[]⟩ : ByteArray), ([] : List Int)⟩
def k148 : Kd S148 := Kd.iso (Kd.pair (Kd.int .i64) (Kd.pair (Kd.int .i64) (Kd.pair Kd.string (Kd.pair Kd.string (Kd.pair Kd.string (Kd.slice 3 (Kd.int .i64))))))) (fun x : S148 => (x.f0, x.f1, x.f2, x.f3, x.f4, x.f5))
def rd_T148 (xs : List S148) (i : Int) : S148 := xs.getD i.toNat z148
structure S163 where
  f0 : ByteArray
  f1 : ByteArray
  f2 : Int
def z163 : S163 := ⟨(⟨#[]⟩ : ByteArray), (⟨#[]⟩ : ByteArray), (0 : Int)⟩
def k163 : Kd S163 := Kd.iso (Kd.pair Kd.string (Kd.pair Kd.string (Kd.int .i64))) (fun x : S163 => (x.f0, x.f1, x.f2))
def rd_T163 (xs : List S163) (i : Int) : S163 := xs.getD i.toNat z163
def rd_L5 (xs : List (List ByteArray)) (i : Int) : (List ByteArray) := xs.getD i.toNat ([] : List ByteArray)
def rd_L6 (xs : List (List S163)) (i : Int) : (List S163) := xs.getD i.toNat ([] : List S163)
structure S152 where
  f0 : ByteArray
  f1 : (List ByteArray)
  f2 : (List ByteArray)
  f3 : (List S163)
def z152 : S152 := ⟨(⟨#[]⟩ : ByteArray), ([] : List ByteArray), ([] : List ByteArray), ([] : List S163)⟩
def k152 : Kd S152 := Kd.iso (Kd.pair Kd.string (Kd.pair (Kd.slice 9 Kd.string) (Kd.pair (Kd.slice 9 Kd.string) (Kd.slice 163 k163)))) (fun x : S152 => (x.f0, x.f1, x.f2, x.f3))
def rd_T152 (xs : List S152) (i : Int) : S152 := xs.getD i.toNat z152
structure S154 where
  f0 : ByteArray
  f1 : (List ByteArray)
  f2 : (List ByteArray)
  f3 : Int
def z154 : S154 := ⟨(⟨#[]⟩ : ByteArray), ([] : List ByteArray), ([] : List ByteArray), (0 : Int)⟩
def k154 : Kd S154 := Kd.iso (Kd.pair Kd.string (Kd.pair (Kd.slice 9 Kd.string) (Kd.pair (Kd.slice 9 Kd.string) (Kd.int .i64)))) (fun x : S154 => (x.f0, x.f1, x.f2, x.f3))
def rd_T154 (xs : List S154) (i : Int) : S154 := xs.getD i.toNat z154
structure S132 where
  f0 : Int
  f1 : Int
  f2 : ByteArray
  f3 : ByteArray
  f4 : ByteArray
  f5 : (List Int)
def z132 : S132 := ⟨(0 : Int), (0 : Int), (⟨#[]⟩ : ByteArray), (⟨#[]⟩ : ByteArray), (⟨#[]⟩ : ByteArray), ([] : List Int)⟩
def k132 : Kd S132 := Kd.iso (Kd.pair (Kd.int .i64) (Kd.pair (Kd.int .i64) (Kd.pair Kd.string (Kd.pair Kd.string (Kd.pair Kd.string (Kd.slice 3 (Kd.int .i64))))))) (fun x : S132 => (x.f0, x.f1, x.f2, x.f3, x.f4, x.f5))
def rd_T132 (xs : List S132) (i : Int) : S132 := xs.getD i.toNat z132
structure S125 where
  f0 : ByteArray
  f1 : ByteArray
  f2 : Int
def z125 : S125 := ⟨(⟨#[]⟩ : ByteArray), (⟨#[]⟩ : ByteArray), (0 : Int)⟩
def k125 : Kd S125 := Kd.iso (Kd.pair Kd.string (Kd.pair Kd.string (Kd.int .i64))) (fun x : S125 => (x.f0, x.f1, x.f2))
def rd_T125 (xs : List S125) (i : Int) : S125 := xs.getD i.toNat z125
def rd_L11 (xs : List (List S125)) (i : Int) : (List S125) := xs.getD i.toNat ([] : List S125)
structure S114 where
  f0 : ByteArray
  f1 : (List ByteArray)
  f2 : (List ByteArray)
  f3 : (List S125)
def z114 : S114 := ⟨(⟨#[]⟩ : ByteArray), ([] : List ByteArray), ([] : List ByteArray), ([] : List S125)⟩
def k114 : Kd S114 := Kd.iso (Kd.pair Kd.string (Kd.pair (Kd.slice 9 Kd.string) (Kd.pair (Kd.slice 9 Kd.string) (Kd.slice 125 k125)))) (fun x : S114 => (x.f0, x.f1, x.f2, x.f3))
def rd_T114 (xs : List S114) (i : Int) : S114 := xs.getD i.toNat z114
structure S130 where
  f0 : ByteArray
  f1 : (List ByteArray)
  f2 : (List ByteArray)
  f3 : Int
def z130 : S130 := ⟨(⟨#[]⟩ : ByteArray), ([] : List ByteArray), ([] : List ByteArray), (0 : Int)⟩
def k130 : Kd S130 := Kd.iso (Kd.pair Kd.string (Kd.pair (Kd.slice 9 Kd.string) (Kd.pair (Kd.slice 9 Kd.string) (Kd.int .i64)))) (fun x : S130 => (x.f0, x.f1, x.f2, x.f3))
def rd_T130 (xs : List S130) (i : Int) : S130 := xs.getD i.toNat z130
def laws_szIntS.f (l0 : List Int) (a1 : Int) : Option (Int) := if (wrap64 (a1 - (l0.length : Int))) < 0 then (some (-1)) else (some (wrap64 (a1 - (l0.length : Int))))
def laws_szNode.f (a0_0 : Int) (a0_1 : Int) (a0_2 : ByteArray) (a0_3 : ByteArray) (a0_4 : ByteArray) (l0_5 : List Int) (a1 : Int) : Option (Int) := if (wrap64 (a1 - (a0_2.size : Int))) < 0 then (some (-1)) else (if (wrap64 ((wrap64 (a1 - (a0_2.size : Int))) - (a0_3.size : Int))) < 0 then (some (-1)) else (if (wrap64 ((wrap64 ((wrap64 (a1 - (a0_2.size : Int))) - (a0_3.size : Int))) - (a0_4.size : Int))) < 0 then (some (-1)) else ((laws_szIntS.f l0_5 (wrap64 ((wrap64 ((wrap64 (a1 - (a0_2.size : Int))) - (a0_3.size : Int))) - (a0_4.size : Int)))).bind fun t102 => (if t102 < 0 then (some (-1)) else (some t102)))))
def laws_szNodeS.l0 : Nat → List (S148) → Int → Int → Option (Int)
  | 0, _, _, _ => none
  | k + 1, x0, x1, x5 => if x5 < (x0.length : Int) then (if 0 ≤ x5 then ((laws_szNode.f ((rd_T148 x0 x5).f0) ((rd_T148 x0 x5).f1) ((rd_T148 x0 x5).f2) ((rd_T148 x0 x5).f3) ((rd_T148 x0 x5).f4) ((rd_T148 x0 x5).f5) x1).bind fun t104 => (if t104 < 0 then (some (-1)) else (laws_szNodeS.l0 k x0 t104 (wrap64 (x5 + 1))))) else (none)) else (some x1)
def laws_szNodeS.f (k : Nat) (l0 : List (S148)) (a1 : Int) : Option (Int) := if (wrap64 (a1 - (l0.length : Int))) < 0 then (some (-1)) else (laws_szNodeS.l0 k l0 (wrap64 (a1 - (l0.length : Int))) 0)
def laws_szStringS.l0 : Nat → List ByteArray → Int → Int → Option (Int)
  | 0, _, _, _ => none
  | k + 1, x0, x1, x5 => if x5 < (x0.length : Int) then (if 0 ≤ x5 then (if (wrap64 (x1 - ((rdOf ByteArray.empty x0 x5).size : Int))) < 0 then (some (-1)) else (laws_szStringS.l0 k x0 (wrap64 (x1 - ((rdOf ByteArray.empty x0 x5).size : Int))) (wrap64 (x5 + 1)))) else (none)) else (some x1)
def laws_szStringS.f (k : Nat) (l0 : List ByteArray) (a1 : Int) : Option (Int) := if (wrap64 (a1 - (l0.length : Int))) < 0 then (some (-1)) else (laws_szStringS.l0 k l0 (wrap64 (a1 - (l0.length : Int))) 0)
def laws_szEntry.f (a0_0 : ByteArray) (a0_1 : ByteArray) (a0_2 : Int) (a1 : Int) : Option (Int) := if (wrap64 (a1 - (a0_0.size : Int))) < 0 then (some (-1)) else (if (wrap64 ((wrap64 (a1 - (a0_0.size : Int))) - (a0_1.size : Int))) < 0 then (some (-1)) else (some (wrap64 ((wrap64 (a1 - (a0_0.size : Int))) - (a0_1.size : Int)))))
def laws_szEntryS.l0 : Nat → List (S163) → Int → Int → Option (Int)
  | 0, _, _, _ => none
  | k + 1, x0, x1, x5 => if x5 < (x0.length : Int) then (if 0 ≤ x5 then ((laws_szEntry.f ((rd_T163 x0 x5).f0) ((rd_T163 x0 x5).f1) ((rd_T163 x0 x5).f2) x1).bind fun t108 => (if t108 < 0 then (some (-1)) else (laws_szEntryS.l0 k x0 t108 (wrap64 (x5 + 1))))) else (none)) else (some x1)
def laws_szEntryS.f (k : Nat) (l0 : List (S163)) (a1 : Int) : Option (Int) := if (wrap64 (a1 - (l0.length : Int))) < 0 then (some (-1)) else (laws_szEntryS.l0 k l0 (wrap64 (a1 - (l0.length : Int))) 0)
def laws_szMonitor.f (k : Nat) (a0_0 : ByteArray) (l0_1 : List ByteArray) (l0_2 : List ByteArray) (l0_3 : List (S163)) (a1 : Int) : Option (Int) := if (wrap64 (a1 - (a0_0.size : Int))) < 0 then (some (-1)) else ((laws_szStringS.f k l0_1 (wrap64 (a1 - (a0_0.size : Int)))).bind fun t110 => (if t110 < 0 then (some (-1)) else ((laws_szStringS.f k l0_2 t110).bind fun t111 => (if t111 < 0 then (some (-1)) else ((laws_szEntryS.f k l0_3 t111).bind fun t112 => (if t112 < 0 then (some (-1)) else (some t112)))))))
def laws_szMonitorS.l0 : Nat → List (S152) → Int → Int → Option (Int)
  | 0, _, _, _ => none
  | k + 1, x0, x1, x5 => if x5 < (x0.length : Int) then (if 0 ≤ x5 then ((laws_szMonitor.f k ((rd_T152 x0 x5).f0) ((rd_T152 x0 x5).f1) ((rd_T152 x0 x5).f2) ((rd_T152 x0 x5).f3) x1).bind fun t114 => (if t114 < 0 then (some (-1)) else (laws_szMonitorS.l0 k x0 t114 (wrap64 (x5 + 1))))) else (none)) else (some x1)
def laws_szMonitorS.f (k : Nat) (l0 : List (S152)) (a1 : Int) : Option (Int) := if (wrap64 (a1 - (l0.length : Int))) < 0 then (some (-1)) else (laws_szMonitorS.l0 k l0 (wrap64 (a1 - (l0.length : Int))) 0)
def laws_szProcess.f (k : Nat) (a0_0 : ByteArray) (l0_1 : List ByteArray) (l0_2 : List ByteArray) (a0_3 : Int) (a1 : Int) : Option (Int) := if (wrap64 (a1 - (a0_0.size : Int))) < 0 then (some (-1)) else ((laws_szStringS.f k l0_1 (wrap64 (a1 - (a0_0.size : Int)))).bind fun t116 => (if t116 < 0 then (some (-1)) else ((laws_szStringS.f k l0_2 t116).bind fun t117 => (if t117 < 0 then (some (-1)) else (some t117)))))
def laws_szProcessS.l0 : Nat → List (S154) → Int → Int → Option (Int)
  | 0, _, _, _ => none
  | k + 1, x0, x1, x5 => if x5 < (x0.length : Int) then (if 0 ≤ x5 then ((laws_szProcess.f k ((rd_T154 x0 x5).f0) ((rd_T154 x0 x5).f1) ((rd_T154 x0 x5).f2) ((rd_T154 x0 x5).f3) x1).bind fun t119 => (if t119 < 0 then (some (-1)) else (laws_szProcessS.l0 k x0 t119 (wrap64 (x5 + 1))))) else (none)) else (some x1)
def laws_szProcessS.f (k : Nat) (l0 : List (S154)) (a1 : Int) : Option (Int) := if (wrap64 (a1 - (l0.length : Int))) < 0 then (some (-1)) else (laws_szProcessS.l0 k l0 (wrap64 (a1 - (l0.length : Int))) 0)
def laws_szProgram.f (k : Nat) (l0_0 : List (S148)) (l0_1 : List (S152)) (l0_2 : List (S154)) (a1 : Int) : Option (Int) := (laws_szNodeS.f k l0_0 a1).bind fun t121 => (if t121 < 0 then (some (-1)) else ((laws_szMonitorS.f k l0_1 t121).bind fun t122 => (if t122 < 0 then (some (-1)) else ((laws_szProcessS.f k l0_2 t122).bind fun t123 => (if t123 < 0 then (some (-1)) else (some t123))))))
def laws_toIntS.l0 : Nat → List Int → List Int → Int → Option (List Int)
  | 0, _, _, _ => none
  | k + 1, x0, x3, x4 => if x4 < (x0.length : Int) then (if 0 ≤ x4 then (if x4 < (x3.length : Int) then (laws_toIntS.l0 k x0 (x3.set (x4 : Int).toNat (rd x0 x4)) (wrap64 (x4 + 1))) else (none)) else (none)) else (some x3)
def laws_toIntS.f (k : Nat) (l0 : List Int) : Option (List Int) := if 0 ≤ (l0.length : Int) then (if ((l0.length : Int) : Int).toNat ≤ 35184372088832 then (laws_toIntS.l0 k l0 (List.replicate ((l0.length : Int) : Int).toNat 0) 0) else (none)) else (none)
def laws_toNode.f (k : Nat) (a0_0 : Int) (a0_1 : Int) (a0_2 : ByteArray) (a0_3 : ByteArray) (a0_4 : ByteArray) (l0_5 : List Int) : Option (Int × Int × ByteArray × ByteArray × ByteArray × List Int) := (laws_toIntS.f k l0_5).bind fun t132 => (some (a0_0, a0_1, a0_2, a0_3, a0_4, t132))
def laws_toNodeS.l0 : Nat → List (S148) → List (S132) → Int → Option ((List (S132)))
  | 0, _, _, _ => none
  | k + 1, x0, x3, x4 => if x4 < (x0.length : Int) then (if 0 ≤ x4 then ((laws_toNode.f k ((rd_T148 x0 x4).f0) ((rd_T148 x0 x4).f1) ((rd_T148 x0 x4).f2) ((rd_T148 x0 x4).f3) ((rd_T148 x0 x4).f4) ((rd_T148 x0 x4).f5)).bind fun bt139 => (if x4 < (x3.length : Int) then (laws_toNodeS.l0 k x0 (x3.set (x4 : Int).toNat (⟨bt139.1, bt139.2.1, bt139.2.2.1, bt139.2.2.2.1, bt139.2.2.2.2.1, bt139.2.2.2.2.2⟩ : S132)) (wrap64 (x4 + 1))) else (none))) else (none)) else (some x3)
def laws_toNodeS.f (k : Nat) (l0 : List (S148)) : Option ((List (S132))) := if 0 ≤ (l0.length : Int) then (if ((l0.length : Int) : Int).toNat ≤ 3198579280802 then (laws_toNodeS.l0 k l0 (List.replicate ((l0.length : Int) : Int).toNat z132) 0) else (none)) else (none)
def laws_toStringS.l0 : Nat → List ByteArray → List ByteArray → Int → Option (List ByteArray)
  | 0, _, _, _ => none
  | k + 1, x0, x3, x4 => if x4 < (x0.length : Int) then (if 0 ≤ x4 then (if x4 < (x3.length : Int) then (laws_toStringS.l0 k x0 (x3.set (x4 : Int).toNat (rdOf ByteArray.empty x0 x4)) (wrap64 (x4 + 1))) else (none)) else (none)) else (some x3)
def laws_toStringS.f (k : Nat) (l0 : List ByteArray) : Option (List ByteArray) := if 0 ≤ (l0.length : Int) then (if ((l0.length : Int) : Int).toNat ≤ 17592186044416 then (laws_toStringS.l0 k l0 (List.replicate ((l0.length : Int) : Int).toNat (⟨#[]⟩ : ByteArray)) 0) else (none)) else (none)
def laws_toEntry.f (a0_0 : ByteArray) (a0_1 : ByteArray) (a0_2 : Int) : Option (ByteArray × ByteArray × Int) := some (a0_0, a0_1, a0_2)
def laws_toEntryS.l0 : Nat → List (S163) → List (S125) → Int → Option ((List (S125)))
  | 0, _, _, _ => none
  | k + 1, x0, x3, x4 => if x4 < (x0.length : Int) then (if 0 ≤ x4 then ((laws_toEntry.f ((rd_T163 x0 x4).f0) ((rd_T163 x0 x4).f1) ((rd_T163 x0 x4).f2)).bind fun bt160 => (if x4 < (x3.length : Int) then (laws_toEntryS.l0 k x0 (x3.set (x4 : Int).toNat (⟨bt160.1, bt160.2.1, bt160.2.2⟩ : S125)) (wrap64 (x4 + 1))) else (none))) else (none)) else (some x3)
def laws_toEntryS.f (k : Nat) (l0 : List (S163)) : Option ((List (S125))) := if 0 ≤ (l0.length : Int) then (if ((l0.length : Int) : Int).toNat ≤ 7036874417766 then (laws_toEntryS.l0 k l0 (List.replicate ((l0.length : Int) : Int).toNat z125) 0) else (none)) else (none)
def laws_toMonitor.f (k : Nat) (a0_0 : ByteArray) (l0_1 : List ByteArray) (l0_2 : List ByteArray) (l0_3 : List (S163)) : Option (ByteArray × List ByteArray × List ByteArray × (List (S125))) := (laws_toStringS.f k l0_1).bind fun t167 => ((laws_toStringS.f k l0_2).bind fun t170 => ((laws_toEntryS.f k l0_3).bind fun t173 => (some (a0_0, t167, t170, t173))))
def laws_toMonitorS.l0 : Nat → List (S152) → List (S114) → Int → Option ((List (S114)))
  | 0, _, _, _ => none
  | k + 1, x0, x3, x4 => if x4 < (x0.length : Int) then (if 0 ≤ x4 then ((laws_toMonitor.f k ((rd_T152 x0 x4).f0) ((rd_T152 x0 x4).f1) ((rd_T152 x0 x4).f2) ((rd_T152 x0 x4).f3)).bind fun bt180 => (if x4 < (x3.length : Int) then (laws_toMonitorS.l0 k x0 (x3.set (x4 : Int).toNat (⟨bt180.1, bt180.2.1, bt180.2.2.1, bt180.2.2.2⟩ : S114)) (wrap64 (x4 + 1))) else (none))) else (none)) else (some x3)
def laws_toMonitorS.f (k : Nat) (l0 : List (S152)) : Option ((List (S114))) := if 0 ≤ (l0.length : Int) then (if ((l0.length : Int) : Int).toNat ≤ 3198579280802 then (laws_toMonitorS.l0 k l0 (List.replicate ((l0.length : Int) : Int).toNat z114) 0) else (none)) else (none)
def laws_toProcess.f (k : Nat) (a0_0 : ByteArray) (l0_1 : List ByteArray) (l0_2 : List ByteArray) (a0_3 : Int) : Option (ByteArray × List ByteArray × List ByteArray × Int) := (laws_toStringS.f k l0_1).bind fun t194 => ((laws_toStringS.f k l0_2).bind fun t197 => (some (a0_0, t194, t197, a0_3)))
def laws_toProcessS.l0 : Nat → List (S154) → List (S130) → Int → Option ((List (S130)))
  | 0, _, _, _ => none
  | k + 1, x0, x3, x4 => if x4 < (x0.length : Int) then (if 0 ≤ x4 then ((laws_toProcess.f k ((rd_T154 x0 x4).f0) ((rd_T154 x0 x4).f1) ((rd_T154 x0 x4).f2) ((rd_T154 x0 x4).f3)).bind fun bt204 => (if x4 < (x3.length : Int) then (laws_toProcessS.l0 k x0 (x3.set (x4 : Int).toNat (⟨bt204.1, bt204.2.1, bt204.2.2.1, bt204.2.2.2⟩ : S130)) (wrap64 (x4 + 1))) else (none))) else (none)) else (some x3)
def laws_toProcessS.f (k : Nat) (l0 : List (S154)) : Option ((List (S130))) := if 0 ≤ (l0.length : Int) then (if ((l0.length : Int) : Int).toNat ≤ 3909374676536 then (laws_toProcessS.l0 k l0 (List.replicate ((l0.length : Int) : Int).toNat z130) 0) else (none)) else (none)
def laws_toProgram.f (k : Nat) (l0_0 : List (S148)) (l0_1 : List (S152)) (l0_2 : List (S154)) : Option ((List (S132)) × (List (S114)) × (List (S130))) := (laws_toNodeS.f k l0_0).bind fun t216 => ((laws_toMonitorS.f k l0_1).bind fun t219 => ((laws_toProcessS.f k l0_2).bind fun t222 => (some (t216, t219, t222))))
def laws_eqIntS.l0 : Nat → List Int → List Int → Int → Option (Bool)
  | 0, _, _, _ => none
  | k + 1, x0, x1, x5 => if x5 < (x0.length : Int) then (if 0 ≤ x5 then (if x5 < (x1.length : Int) then (if (rd x0 x5) = (rd x1 x5) then (laws_eqIntS.l0 k x0 x1 (wrap64 (x5 + 1))) else (some false)) else (none)) else (none)) else (some true)
def laws_eqIntS.f (k : Nat) (l0 : List Int) (l1 : List Int) : Option (Bool) := if (l0.length : Int) = (l1.length : Int) then (laws_eqIntS.l0 k l0 l1 0) else (some false)
def laws_eqNode.f (k : Nat) (a0_0 : Int) (a0_1 : Int) (a0_2 : ByteArray) (a0_3 : ByteArray) (a0_4 : ByteArray) (l0_5 : List Int) (a1_0 : Int) (a1_1 : Int) (a1_2 : ByteArray) (a1_3 : ByteArray) (a1_4 : ByteArray) (l1_5 : List Int) : Option (Bool) := if a0_0 = a1_0 then (if a0_1 = a1_1 then (if a0_2.toList = a1_2.toList then (if a0_3.toList = a1_3.toList then (if a0_4.toList = a1_4.toList then ((laws_eqIntS.f k l0_5 l1_5).bind fun t229 => (if t229 = true then (some true) else (some false))) else (some false)) else (some false)) else (some false)) else (some false)) else (some false)
def laws_eqNodeS.l0 : Nat → List (S132) → List (S132) → Int → Option (Bool)
  | 0, _, _, _ => none
  | k + 1, x0, x1, x5 => if x5 < (x0.length : Int) then (if 0 ≤ x5 then (if x5 < (x1.length : Int) then ((laws_eqNode.f k ((rd_T132 x0 x5).f0) ((rd_T132 x0 x5).f1) ((rd_T132 x0 x5).f2) ((rd_T132 x0 x5).f3) ((rd_T132 x0 x5).f4) ((rd_T132 x0 x5).f5) ((rd_T132 x1 x5).f0) ((rd_T132 x1 x5).f1) ((rd_T132 x1 x5).f2) ((rd_T132 x1 x5).f3) ((rd_T132 x1 x5).f4) ((rd_T132 x1 x5).f5)).bind fun t232 => (if t232 = true then (laws_eqNodeS.l0 k x0 x1 (wrap64 (x5 + 1))) else (some false))) else (none)) else (none)) else (some true)
def laws_eqNodeS.f (k : Nat) (l0 : List (S132)) (l1 : List (S132)) : Option (Bool) := if (l0.length : Int) = (l1.length : Int) then (laws_eqNodeS.l0 k l0 l1 0) else (some false)
def laws_eqStringS.l0 : Nat → List ByteArray → List ByteArray → Int → Option (Bool)
  | 0, _, _, _ => none
  | k + 1, x0, x1, x5 => if x5 < (x0.length : Int) then (if 0 ≤ x5 then (if x5 < (x1.length : Int) then (if (rdOf ByteArray.empty x0 x5).toList = (rdOf ByteArray.empty x1 x5).toList then (laws_eqStringS.l0 k x0 x1 (wrap64 (x5 + 1))) else (some false)) else (none)) else (none)) else (some true)
def laws_eqStringS.f (k : Nat) (l0 : List ByteArray) (l1 : List ByteArray) : Option (Bool) := if (l0.length : Int) = (l1.length : Int) then (laws_eqStringS.l0 k l0 l1 0) else (some false)
def laws_eqEntry.f (a0_0 : ByteArray) (a0_1 : ByteArray) (a0_2 : Int) (a1_0 : ByteArray) (a1_1 : ByteArray) (a1_2 : Int) : Option (Bool) := if a0_0.toList = a1_0.toList then (if a0_1.toList = a1_1.toList then (if a0_2 = a1_2 then (some true) else (some false)) else (some false)) else (some false)
def laws_eqEntryS.l0 : Nat → List (S125) → List (S125) → Int → Option (Bool)
  | 0, _, _, _ => none
  | k + 1, x0, x1, x5 => if x5 < (x0.length : Int) then (if 0 ≤ x5 then (if x5 < (x1.length : Int) then ((laws_eqEntry.f ((rd_T125 x0 x5).f0) ((rd_T125 x0 x5).f1) ((rd_T125 x0 x5).f2) ((rd_T125 x1 x5).f0) ((rd_T125 x1 x5).f1) ((rd_T125 x1 x5).f2)).bind fun t239 => (if t239 = true then (laws_eqEntryS.l0 k x0 x1 (wrap64 (x5 + 1))) else (some false))) else (none)) else (none)) else (some true)
def laws_eqEntryS.f (k : Nat) (l0 : List (S125)) (l1 : List (S125)) : Option (Bool) := if (l0.length : Int) = (l1.length : Int) then (laws_eqEntryS.l0 k l0 l1 0) else (some false)
def laws_eqMonitor.f (k : Nat) (a0_0 : ByteArray) (l0_1 : List ByteArray) (l0_2 : List ByteArray) (l0_3 : List (S125)) (a1_0 : ByteArray) (l1_1 : List ByteArray) (l1_2 : List ByteArray) (l1_3 : List (S125)) : Option (Bool) := if a0_0.toList = a1_0.toList then ((laws_eqStringS.f k l0_1 l1_1).bind fun t242 => (if t242 = true then ((laws_eqStringS.f k l0_2 l1_2).bind fun t243 => (if t243 = true then ((laws_eqEntryS.f k l0_3 l1_3).bind fun t244 => (if t244 = true then (some true) else (some false))) else (some false))) else (some false))) else (some false)
def laws_eqMonitorS.l0 : Nat → List (S114) → List (S114) → Int → Option (Bool)
  | 0, _, _, _ => none
  | k + 1, x0, x1, x5 => if x5 < (x0.length : Int) then (if 0 ≤ x5 then (if x5 < (x1.length : Int) then ((laws_eqMonitor.f k ((rd_T114 x0 x5).f0) ((rd_T114 x0 x5).f1) ((rd_T114 x0 x5).f2) ((rd_T114 x0 x5).f3) ((rd_T114 x1 x5).f0) ((rd_T114 x1 x5).f1) ((rd_T114 x1 x5).f2) ((rd_T114 x1 x5).f3)).bind fun t247 => (if t247 = true then (laws_eqMonitorS.l0 k x0 x1 (wrap64 (x5 + 1))) else (some false))) else (none)) else (none)) else (some true)
def laws_eqMonitorS.f (k : Nat) (l0 : List (S114)) (l1 : List (S114)) : Option (Bool) := if (l0.length : Int) = (l1.length : Int) then (laws_eqMonitorS.l0 k l0 l1 0) else (some false)
def laws_eqProcess.f (k : Nat) (a0_0 : ByteArray) (l0_1 : List ByteArray) (l0_2 : List ByteArray) (a0_3 : Int) (a1_0 : ByteArray) (l1_1 : List ByteArray) (l1_2 : List ByteArray) (a1_3 : Int) : Option (Bool) := if a0_0.toList = a1_0.toList then ((laws_eqStringS.f k l0_1 l1_1).bind fun t250 => (if t250 = true then ((laws_eqStringS.f k l0_2 l1_2).bind fun t251 => (if t251 = true then (if a0_3 = a1_3 then (some true) else (some false)) else (some false))) else (some false))) else (some false)
def laws_eqProcessS.l0 : Nat → List (S130) → List (S130) → Int → Option (Bool)
  | 0, _, _, _ => none
  | k + 1, x0, x1, x5 => if x5 < (x0.length : Int) then (if 0 ≤ x5 then (if x5 < (x1.length : Int) then ((laws_eqProcess.f k ((rd_T130 x0 x5).f0) ((rd_T130 x0 x5).f1) ((rd_T130 x0 x5).f2) ((rd_T130 x0 x5).f3) ((rd_T130 x1 x5).f0) ((rd_T130 x1 x5).f1) ((rd_T130 x1 x5).f2) ((rd_T130 x1 x5).f3)).bind fun t254 => (if t254 = true then (laws_eqProcessS.l0 k x0 x1 (wrap64 (x5 + 1))) else (some false))) else (none)) else (none)) else (some true)
def laws_eqProcessS.f (k : Nat) (l0 : List (S130)) (l1 : List (S130)) : Option (Bool) := if (l0.length : Int) = (l1.length : Int) then (laws_eqProcessS.l0 k l0 l1 0) else (some false)
def laws_eqProgram.f (k : Nat) (l0_0 : List (S132)) (l0_1 : List (S114)) (l0_2 : List (S130)) (l1_0 : List (S132)) (l1_1 : List (S114)) (l1_2 : List (S130)) : Option (Bool) := (laws_eqNodeS.f k l0_0 l1_0).bind fun t257 => (if t257 = true then ((laws_eqMonitorS.f k l0_1 l1_1).bind fun t258 => (if t258 = true then ((laws_eqProcessS.f k l0_2 l1_2).bind fun t259 => (if t259 = true then (some true) else (some false))) else (some false))) else (some false))
def spec_l06Ints.l0 : Nat → List Int → List Int → Int → Option (Bool)
  | 0, _, _, _ => none
  | k + 1, x0, x1, x5 => if x5 < (x0.length : Int) then (if 0 ≤ x5 then (if x5 < (x1.length : Int) then (if (rd x0 x5) = (rd x1 x5) then (spec_l06Ints.l0 k x0 x1 (wrap64 (x5 + 1))) else (some false)) else (none)) else (none)) else (some true)
def spec_l06Ints.f (k : Nat) (l0 : List Int) (l1 : List Int) : Option (Bool) := if (l0.length : Int) = (l1.length : Int) then (spec_l06Ints.l0 k l0 l1 0) else (some false)
def spec_l06Texts.l0 : Nat → List ByteArray → List ByteArray → Int → Option (Bool)
  | 0, _, _, _ => none
  | k + 1, x0, x1, x5 => if x5 < (x0.length : Int) then (if 0 ≤ x5 then (if x5 < (x1.length : Int) then (if (rdOf ByteArray.empty x0 x5).toList = (rdOf ByteArray.empty x1 x5).toList then (spec_l06Texts.l0 k x0 x1 (wrap64 (x5 + 1))) else (some false)) else (none)) else (none)) else (some true)
def spec_l06Texts.f (k : Nat) (l0 : List ByteArray) (l1 : List ByteArray) : Option (Bool) := if (l0.length : Int) = (l1.length : Int) then (spec_l06Texts.l0 k l0 l1 0) else (some false)
mutual
def spec_SameProgram.j0 : Nat → Bool → List (S132) → List (S114) → List (S130) → List (S132) → List (S114) → List (S130) → Option (Bool)
  | 0, _, _, _, _, _, _, _ => none
  | k + 1, x39, x265000, x265001, x265002, x266000, x266001, x266002 => if x39 = true then (some false) else (spec_SameProgram.l0 k 0 x265000 x265001 x265002 x266000 x266001 x266002)
def spec_SameProgram.l0 : Nat → Int → List (S132) → List (S114) → List (S130) → List (S132) → List (S114) → List (S130) → Option (Bool)
  | 0, _, _, _, _, _, _, _ => none
  | k + 1, x5, x265000, x265001, x265002, x266000, x266001, x266002 => if x5 < (x265000.length : Int) then (if 0 ≤ x5 then (if x5 < (x266000.length : Int) then (if ((rd_T132 x265000 x5).f0) = ((rd_T132 x266000 x5).f0) then (if ((rd_T132 x265000 x5).f1) = ((rd_T132 x266000 x5).f1) then (if ((rd_T132 x265000 x5).f2).toList = ((rd_T132 x266000 x5).f2).toList then (if ((rd_T132 x265000 x5).f3).toList = ((rd_T132 x266000 x5).f3).toList then (if ((rd_T132 x265000 x5).f4).toList = ((rd_T132 x266000 x5).f4).toList then ((spec_l06Ints.f k ((rd_T132 x265000 x5).f5) ((rd_T132 x266000 x5).f5)).bind fun t270 => (spec_SameProgram.j2 k x5 (!t270) x265000 x265001 x265002 x266000 x266001 x266002)) else (spec_SameProgram.j2 k x5 true x265000 x265001 x265002 x266000 x266001 x266002)) else (spec_SameProgram.j2 k x5 true x265000 x265001 x265002 x266000 x266001 x266002)) else (spec_SameProgram.j2 k x5 true x265000 x265001 x265002 x266000 x266001 x266002)) else (spec_SameProgram.j2 k x5 true x265000 x265001 x265002 x266000 x266001 x266002)) else (spec_SameProgram.j2 k x5 true x265000 x265001 x265002 x266000 x266001 x266002)) else (none)) else (none)) else (spec_SameProgram.l1 k 0 x265000 x265001 x265002 x266000 x266001 x266002)
def spec_SameProgram.j2 : Nat → Int → Bool → List (S132) → List (S114) → List (S130) → List (S132) → List (S114) → List (S130) → Option (Bool)
  | 0, _, _, _, _, _, _, _, _ => none
  | k + 1, x5, x97, x265000, x265001, x265002, x266000, x266001, x266002 => if x97 = true then (some false) else (spec_SameProgram.l0 k (wrap64 (x5 + 1)) x265000 x265001 x265002 x266000 x266001 x266002)
def spec_SameProgram.l1 : Nat → Int → List (S132) → List (S114) → List (S130) → List (S132) → List (S114) → List (S130) → Option (Bool)
  | 0, _, _, _, _, _, _, _ => none
  | k + 1, x8, x265000, x265001, x265002, x266000, x266001, x266002 => if x8 < (x265001.length : Int) then (if 0 ≤ x8 then (if x8 < (x266001.length : Int) then (if ((rd_T114 x265001 x8).f0).toList = ((rd_T114 x266001 x8).f0).toList then ((spec_l06Texts.f k ((rd_T114 x265001 x8).f1) ((rd_T114 x266001 x8).f1)).bind fun t275 => (if t275 = true then ((spec_l06Texts.f k ((rd_T114 x265001 x8).f2) ((rd_T114 x266001 x8).f2)).bind fun t276 => (if t276 = true then (spec_SameProgram.j4 k x8 ((((rd_T114 x265001 x8).f3).length : Int) != (((rd_T114 x266001 x8).f3).length : Int)) x265000 x265001 x265002 x266000 x266001 x266002 ((rd_T114 x265001 x8).f0) ((rd_T114 x265001 x8).f1) ((rd_T114 x265001 x8).f2) ((rd_T114 x265001 x8).f3) ((rd_T114 x266001 x8).f0) ((rd_T114 x266001 x8).f1) ((rd_T114 x266001 x8).f2) ((rd_T114 x266001 x8).f3)) else (spec_SameProgram.j4 k x8 true x265000 x265001 x265002 x266000 x266001 x266002 ((rd_T114 x265001 x8).f0) ((rd_T114 x265001 x8).f1) ((rd_T114 x265001 x8).f2) ((rd_T114 x265001 x8).f3) ((rd_T114 x266001 x8).f0) ((rd_T114 x266001 x8).f1) ((rd_T114 x266001 x8).f2) ((rd_T114 x266001 x8).f3)))) else (spec_SameProgram.j4 k x8 true x265000 x265001 x265002 x266000 x266001 x266002 ((rd_T114 x265001 x8).f0) ((rd_T114 x265001 x8).f1) ((rd_T114 x265001 x8).f2) ((rd_T114 x265001 x8).f3) ((rd_T114 x266001 x8).f0) ((rd_T114 x266001 x8).f1) ((rd_T114 x266001 x8).f2) ((rd_T114 x266001 x8).f3)))) else (spec_SameProgram.j4 k x8 true x265000 x265001 x265002 x266000 x266001 x266002 ((rd_T114 x265001 x8).f0) ((rd_T114 x265001 x8).f1) ((rd_T114 x265001 x8).f2) ((rd_T114 x265001 x8).f3) ((rd_T114 x266001 x8).f0) ((rd_T114 x266001 x8).f1) ((rd_T114 x266001 x8).f2) ((rd_T114 x266001 x8).f3))) else (none)) else (none)) else (spec_SameProgram.l3 k 0 x265000 x265001 x265002 x266000 x266001 x266002)
def spec_SameProgram.j4 : Nat → Int → Bool → List (S132) → List (S114) → List (S130) → List (S132) → List (S114) → List (S130) → ByteArray → List ByteArray → List ByteArray → List (S125) → ByteArray → List ByteArray → List ByteArray → List (S125) → Option (Bool)
  | 0, _, _, _, _, _, _, _, _, _, _, _, _, _, _, _, _ => none
  | k + 1, x8, x144, x265000, x265001, x265002, x266000, x266001, x266002, x273000, x273001, x273002, x273003, x275000, x275001, x275002, x275003 => if x144 = true then (some false) else (spec_SameProgram.l2 k x8 0 x265000 x265001 x265002 x266000 x266001 x266002 x273000 x273001 x273002 x273003 x275000 x275001 x275002 x275003)
def spec_SameProgram.l2 : Nat → Int → Int → List (S132) → List (S114) → List (S130) → List (S132) → List (S114) → List (S130) → ByteArray → List ByteArray → List ByteArray → List (S125) → ByteArray → List ByteArray → List ByteArray → List (S125) → Option (Bool)
  | 0, _, _, _, _, _, _, _, _, _, _, _, _, _, _, _, _ => none
  | k + 1, x8, x11, x265000, x265001, x265002, x266000, x266001, x266002, x273000, x273001, x273002, x273003, x275000, x275001, x275002, x275003 => if x11 < (x273003.length : Int) then (if 0 ≤ x11 then (if x11 < (x275003.length : Int) then (if (!((((rd_T125 x273003 x11).f0).toList) == (((rd_T125 x275003 x11).f0).toList)) || (!((((rd_T125 x273003 x11).f1).toList) == (((rd_T125 x275003 x11).f1).toList)) || (!(((rd_T125 x273003 x11).f2) == ((rd_T125 x275003 x11).f2))))) = true then (some false) else (spec_SameProgram.l2 k x8 (wrap64 (x11 + 1)) x265000 x265001 x265002 x266000 x266001 x266002 x273000 x273001 x273002 x273003 x275000 x275001 x275002 x275003)) else (none)) else (none)) else (spec_SameProgram.l1 k (wrap64 (x8 + 1)) x265000 x265001 x265002 x266000 x266001 x266002)
def spec_SameProgram.l3 : Nat → Int → List (S132) → List (S114) → List (S130) → List (S132) → List (S114) → List (S130) → Option (Bool)
  | 0, _, _, _, _, _, _, _ => none
  | k + 1, x12, x265000, x265001, x265002, x266000, x266001, x266002 => if x12 < (x265002.length : Int) then (if 0 ≤ x12 then (if x12 < (x266002.length : Int) then (if ((rd_T130 x265002 x12).f0).toList = ((rd_T130 x266002 x12).f0).toList then ((spec_l06Texts.f k ((rd_T130 x265002 x12).f1) ((rd_T130 x266002 x12).f1)).bind fun t283 => (if t283 = true then ((spec_l06Texts.f k ((rd_T130 x265002 x12).f2) ((rd_T130 x266002 x12).f2)).bind fun t284 => (if t284 = true then (spec_SameProgram.j7 k x12 (((rd_T130 x265002 x12).f3) != ((rd_T130 x266002 x12).f3)) x265000 x265001 x265002 x266000 x266001 x266002) else (spec_SameProgram.j7 k x12 true x265000 x265001 x265002 x266000 x266001 x266002))) else (spec_SameProgram.j7 k x12 true x265000 x265001 x265002 x266000 x266001 x266002))) else (spec_SameProgram.j7 k x12 true x265000 x265001 x265002 x266000 x266001 x266002)) else (none)) else (none)) else (some true)
def spec_SameProgram.j7 : Nat → Int → Bool → List (S132) → List (S114) → List (S130) → List (S132) → List (S114) → List (S130) → Option (Bool)
  | 0, _, _, _, _, _, _, _, _ => none
  | k + 1, x12, x207, x265000, x265001, x265002, x266000, x266001, x266002 => if x207 = true then (some false) else (spec_SameProgram.l3 k (wrap64 (x12 + 1)) x265000 x265001 x265002 x266000 x266001 x266002)
end
def spec_SameProgram.f (k : Nat) (l0_0 : List (S132)) (l0_1 : List (S114)) (l0_2 : List (S130)) (l1_0 : List (S132)) (l1_1 : List (S114)) (l1_2 : List (S130)) : Option (Bool) := if (l0_0.length : Int) = (l1_0.length : Int) then (if (l0_1.length : Int) = (l1_1.length : Int) then (spec_SameProgram.j0 k ((l0_2.length : Int) != (l1_2.length : Int)) l0_0 l0_1 l0_2 l1_0 l1_1 l1_2) else (spec_SameProgram.j0 k true l0_0 l0_1 l0_2 l1_0 l1_1 l1_2)) else (spec_SameProgram.j0 k true l0_0 l0_1 l0_2 l1_0 l1_1 l1_2)
def slices_Equal_int_int.l0 : Nat → List Int → List Int → Int → Int → Option (Bool)
  | 0, _, _, _, _ => none
  | k + 1, x0, x1, x12, x13 => if x13 < x12 then (if 0 ≤ x13 then (if x13 < (x0.length : Int) then (if x13 < (x1.length : Int) then (if (rd x0 x13) = (rd x1 x13) then (slices_Equal_int_int.l0 k x0 x1 x12 (wrap64 (x13 + 1))) else (some false)) else (none)) else (none)) else (none)) else (some true)
def slices_Equal_int_int.f (k : Nat) (l0 : List Int) (l1 : List Int) : Option (Bool) := if (l0.length : Int) = (l1.length : Int) then (slices_Equal_int_int.l0 k l0 l1 (l0.length : Int) 0) else (some false)
def impl_sameNode.f (k : Nat) (a0_0 : Int) (a0_1 : Int) (a0_2 : ByteArray) (a0_3 : ByteArray) (a0_4 : ByteArray) (l0_5 : List Int) (a1_0 : Int) (a1_1 : Int) (a1_2 : ByteArray) (a1_3 : ByteArray) (a1_4 : ByteArray) (l1_5 : List Int) : Option (Bool) := if a0_0 = a1_0 then (if a0_1 = a1_1 then (if a0_2.toList = a1_2.toList then (if a0_3.toList = a1_3.toList then (if a0_4.toList = a1_4.toList then ((slices_Equal_int_int.f k l0_5 l1_5).bind fun t289 => (some t289)) else (some false)) else (some false)) else (some false)) else (some false)) else (some false)
def slices_Equal_string_string.l0 : Nat → List ByteArray → List ByteArray → Int → Int → Option (Bool)
  | 0, _, _, _, _ => none
  | k + 1, x0, x1, x12, x13 => if x13 < x12 then (if 0 ≤ x13 then (if x13 < (x0.length : Int) then (if x13 < (x1.length : Int) then (if (rdOf ByteArray.empty x0 x13).toList = (rdOf ByteArray.empty x1 x13).toList then (slices_Equal_string_string.l0 k x0 x1 x12 (wrap64 (x13 + 1))) else (some false)) else (none)) else (none)) else (none)) else (some true)
def slices_Equal_string_string.f (k : Nat) (l0 : List ByteArray) (l1 : List ByteArray) : Option (Bool) := if (l0.length : Int) = (l1.length : Int) then (slices_Equal_string_string.l0 k l0 l1 (l0.length : Int) 0) else (some false)
def impl_Entry.l0 : Nat → List (S125) → List (S125) → Int → Int → Option (Bool)
  | 0, _, _, _, _ => none
  | k + 1, x0, x1, x12, x13 => if x13 < x12 then (if 0 ≤ x13 then (if x13 < (x0.length : Int) then (if x13 < (x1.length : Int) then (if (!((((rd_T125 x0 x13).f0).toList) == (((rd_T125 x1 x13).f0).toList)) || (!((((rd_T125 x0 x13).f1).toList) == (((rd_T125 x1 x13).f1).toList)) || (!(((rd_T125 x0 x13).f2) == ((rd_T125 x1 x13).f2))))) = true then (some false) else (impl_Entry.l0 k x0 x1 x12 (wrap64 (x13 + 1)))) else (none)) else (none)) else (none)) else (some true)
def impl_Entry.f (k : Nat) (l0 : List (S125)) (l1 : List (S125)) : Option (Bool) := if (l0.length : Int) = (l1.length : Int) then (impl_Entry.l0 k l0 l1 (l0.length : Int) 0) else (some false)
def impl_sameMonitor.f (k : Nat) (a0_0 : ByteArray) (l0_1 : List ByteArray) (l0_2 : List ByteArray) (l0_3 : List (S125)) (a1_0 : ByteArray) (l1_1 : List ByteArray) (l1_2 : List ByteArray) (l1_3 : List (S125)) : Option (Bool) := if a0_0.toList = a1_0.toList then ((slices_Equal_string_string.f k l0_1 l1_1).bind fun t296 => (if t296 = true then ((slices_Equal_string_string.f k l0_2 l1_2).bind fun t297 => (if t297 = true then ((impl_Entry.f k l0_3 l1_3).bind fun t298 => (some t298)) else (some false))) else (some false))) else (some false)
def impl_sameProcess.f (k : Nat) (a0_0 : ByteArray) (l0_1 : List ByteArray) (l0_2 : List ByteArray) (a0_3 : Int) (a1_0 : ByteArray) (l1_1 : List ByteArray) (l1_2 : List ByteArray) (a1_3 : Int) : Option (Bool) := if a0_0.toList = a1_0.toList then ((slices_Equal_string_string.f k l0_1 l1_1).bind fun t301 => (if t301 = true then ((slices_Equal_string_string.f k l0_2 l1_2).bind fun t302 => (if t302 = true then (some (a0_3 == a1_3)) else (some false))) else (some false))) else (some false)
def impl_Node_impl_sameNode.l0 : Nat → List (S132) → List (S132) → Int → Int → Option (Bool)
  | 0, _, _, _, _ => none
  | k + 1, x1, x15, x16, x17 => if x17 < x16 then (if 0 ≤ x17 then (if x17 < (x15.length : Int) then (if x17 < (x1.length : Int) then ((impl_sameNode.f k ((rd_T132 x15 x17).f0) ((rd_T132 x15 x17).f1) ((rd_T132 x15 x17).f2) ((rd_T132 x15 x17).f3) ((rd_T132 x15 x17).f4) ((rd_T132 x15 x17).f5) ((rd_T132 x1 x17).f0) ((rd_T132 x1 x17).f1) ((rd_T132 x1 x17).f2) ((rd_T132 x1 x17).f3) ((rd_T132 x1 x17).f4) ((rd_T132 x1 x17).f5)).bind fun t309 => (if t309 = true then (impl_Node_impl_sameNode.l0 k x1 x15 x16 (wrap64 (x17 + 1))) else (some false))) else (none)) else (none)) else (none)) else (some true)
def impl_Node_impl_sameNode.f (k : Nat) (l0 : List (S132)) (l1 : List (S132))  : Option (Bool) := if (l0.length : Int) = (l1.length : Int) then (impl_Node_impl_sameNode.l0 k l1 l0 (l0.length : Int) 0) else (some false)
def impl_Monitor_impl_sameMonitor.l0 : Nat → List (S114) → List (S114) → Int → Int → Option (Bool)
  | 0, _, _, _, _ => none
  | k + 1, x1, x15, x16, x17 => if x17 < x16 then (if 0 ≤ x17 then (if x17 < (x15.length : Int) then (if x17 < (x1.length : Int) then ((impl_sameMonitor.f k ((rd_T114 x15 x17).f0) ((rd_T114 x15 x17).f1) ((rd_T114 x15 x17).f2) ((rd_T114 x15 x17).f3) ((rd_T114 x1 x17).f0) ((rd_T114 x1 x17).f1) ((rd_T114 x1 x17).f2) ((rd_T114 x1 x17).f3)).bind fun t315 => (if t315 = true then (impl_Monitor_impl_sameMonitor.l0 k x1 x15 x16 (wrap64 (x17 + 1))) else (some false))) else (none)) else (none)) else (none)) else (some true)
def impl_Monitor_impl_sameMonitor.f (k : Nat) (l0 : List (S114)) (l1 : List (S114))  : Option (Bool) := if (l0.length : Int) = (l1.length : Int) then (impl_Monitor_impl_sameMonitor.l0 k l1 l0 (l0.length : Int) 0) else (some false)
def impl_Process_impl_sameProcess.l0 : Nat → List (S130) → List (S130) → Int → Int → Option (Bool)
  | 0, _, _, _, _ => none
  | k + 1, x1, x15, x16, x17 => if x17 < x16 then (if 0 ≤ x17 then (if x17 < (x15.length : Int) then (if x17 < (x1.length : Int) then ((impl_sameProcess.f k ((rd_T130 x15 x17).f0) ((rd_T130 x15 x17).f1) ((rd_T130 x15 x17).f2) ((rd_T130 x15 x17).f3) ((rd_T130 x1 x17).f0) ((rd_T130 x1 x17).f1) ((rd_T130 x1 x17).f2) ((rd_T130 x1 x17).f3)).bind fun t321 => (if t321 = true then (impl_Process_impl_sameProcess.l0 k x1 x15 x16 (wrap64 (x17 + 1))) else (some false))) else (none)) else (none)) else (none)) else (some true)
def impl_Process_impl_sameProcess.f (k : Nat) (l0 : List (S130)) (l1 : List (S130))  : Option (Bool) := if (l0.length : Int) = (l1.length : Int) then (impl_Process_impl_sameProcess.l0 k l1 l0 (l0.length : Int) 0) else (some false)
def impl_SameProgram.f (k : Nat) (l0_0 : List (S132)) (l0_1 : List (S114)) (l0_2 : List (S130)) (l1_0 : List (S132)) (l1_1 : List (S114)) (l1_2 : List (S130)) : Option (Bool) := (impl_Node_impl_sameNode.f k l0_0 l1_0).bind fun t310 => (if t310 = true then ((impl_Monitor_impl_sameMonitor.f k l0_1 l1_1).bind fun t316 => (if t316 = true then ((impl_Process_impl_sameProcess.f k l0_2 l1_2).bind fun t322 => (some t322)) else (some false))) else (some false))
def laws_FnExactSameProgram.f (k : Nat) (l0_0 : List (S148)) (l0_1 : List (S152)) (l0_2 : List (S154)) (l1_0 : List (S148)) (l1_1 : List (S152)) (l1_2 : List (S154)) : Option (Bool) := (laws_szProgram.f k l0_0 l0_1 l0_2 1048576).bind fun t325 => (if t325 < 0 then (some true) else ((laws_szProgram.f k l1_0 l1_1 l1_2 t325).bind fun t326 => (if t326 < 0 then (some true) else ((laws_toProgram.f k l0_0 l0_1 l0_2).bind fun bt327 => ((laws_toProgram.f k l1_0 l1_1 l1_2).bind fun bt336 => ((spec_SameProgram.f k bt327.1 bt327.2.1 bt327.2.2 bt336.1 bt336.2.1 bt336.2.2).bind fun t345 => ((laws_toProgram.f k l0_0 l0_1 l0_2).bind fun bt346 => ((laws_toProgram.f k l1_0 l1_1 l1_2).bind fun bt356 => ((impl_SameProgram.f k bt346.1 bt346.2.1 bt346.2.2 bt356.1 bt356.2.1 bt356.2.2).bind fun t366 => (if (t366 != t345) = true then (some false) else ((laws_toProgram.f k l0_0 l0_1 l0_2).bind fun bt367 => ((laws_eqProgram.f k bt346.1 bt346.2.1 bt346.2.2 bt367.1 bt367.2.1 bt367.2.2).bind fun t376 => (if t376 = true then ((laws_toProgram.f k l1_0 l1_1 l1_2).bind fun bt377 => ((laws_eqProgram.f k bt356.1 bt356.2.1 bt356.2.2 bt377.1 bt377.2.1 bt377.2.2).bind fun t386 => (if t386 = true then (some true) else (some false)))) else (some false))))))))))))))
end Go.Proofs.Ytegeahiflkjhmaa.PFnExactSameProgram
