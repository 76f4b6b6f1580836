/- What values are in cells; facts on the program's types. No condition. -/
import Derived.Test.YtppfilhlblnmcaaShelf
import Derived.Test.YtppfilhlblnmcaaChecked
import Derived.KernelRfl
import Derived.Test.YtppfilhlblnmcaaStFnExactSignsOf
import Derived.Test.YtppfilhlblnmcaaA5
open Go Go.Proofs Go.Proofs.Ytppfilhlblnmcaa.Abs
namespace Go.Proofs.Ytppfilhlblnmcaa.PFnExactSignsOf
open Go.RowKit Go.Proofs.YtppfilhlblnmcaaW.PrintWords Go.Proofs.YtppfilhlblnmcaaW.PrintLast Go.Proofs.YtppfilhlblnmcaaW.PrintMore
set_option linter.unusedVariables false
set_option linter.unusedSimpArgs false
set_option maxRecDepth 100000
theorem eU_at (l : List Int) (i : Int) (h0 : 0 ≤ i) (h1 : i < l.length) : idx 1 (List.flatMap eU l) i = some (eU (rd l i)) := idx_map eU_len _ l i h0 h1
theorem eU_gd (l : List Int) (i : Int) : l.getD i.toNat 0 = rd l i := rfl
theorem eU_ln (l : List Int) : (List.flatMap eU l).length = l.length := by rw [len_map eU_len]; exact Nat.mul_one _
theorem eU_row (l : List Int) (n : Nat) (h : n < l.length) : List.take 1 (List.drop (n) (List.flatMap eU l)) = eU (l.getD n 0) := by have := row_map eU_len 0 l n h; simpa using this
theorem eU_cp (l : List Int) : cpyL (List.flatMap eU l) = true := cpyL_map eU_cpy l
theorem eU_nms (l : List Int) : noMutL (List.flatMap eU l) = true := noMutL_map eU_nm l
theorem eU_pu (l : List Int) : pureL (List.flatMap eU l) = true := pureL_map eU_pure l
theorem eU_sh (l : List Int) : shrL (List.flatMap eU l) = List.flatMap eU l := shrL_map eU_shr l
theorem eU_rep (x : Int) (n : Nat) : List.flatMap eU (List.replicate n x) = (List.replicate n (eU x)).flatten := (replicate_map x n).symm
theorem eU_sd (l : List Int) (n : Nat) : List.take ((l.length - n)) (List.drop (n) (List.flatMap eU l)) = List.flatMap eU (l.drop n) := by have := slD_map eU_len l n; simpa using this
theorem eU_st (l : List Int) (n : Nat) : List.take (n) (List.flatMap eU l) = List.flatMap eU (l.take n) := by have := take_map eU_len l n; simpa using this
theorem eU_sb (l : List Int) (h n : Nat) : List.take ((h - n)) (List.drop (n) (List.flatMap eU l)) = List.flatMap eU ((l.drop n).take (h - n)) := by have := slB_map eU_len l h n; simpa using this
theorem eU_set (l : List Int) (n : Nat) (x : Int) (h : n < l.length) : List.flatMap eU (l.set n x) = (List.flatMap eU l).take (n * 1) ++ eU x ++ (List.flatMap eU l).drop ((n + 1) * 1) := (set_map eU_len l n h x).symm
attribute [go_sem] eU_at eU_ln eU_row eU_nms eU_sh eU_rep eU_set eU_sd eU_st eU_sb eU_gd eU_cp eU_pu
def e50 (x : S50) : List Cell := [.sc (.int .i64 x.f0), .sc (.string x.f1), .sc (.int .i64 x.f2), .sc (.int .i64 x.f3)]
abbrev o50 := e50
theorem e50_len : ∀ x, (e50 x).length = 4 := fun _ => rfl
theorem e50_nm : ∀ x, noMutL (e50 x) = true := by intro x; simp [e50, go_sem]
theorem e50_cpy : ∀ x, cpyL (e50 x) = true := by intro x; simp [e50, go_sem]
theorem e50_shr : ∀ x, shrL (e50 x) = e50 x := by intro x; simp [e50, go_sem]
theorem e50_pure : ∀ x, pureL (e50 x) = true := by intro x; rfl
theorem e50_at (l : List S50) (i : Int) (h0 : 0 ≤ i) (h1 : i < l.length) : idx 4 (List.flatMap e50 l) i = some (e50 (rd_T50 l i)) := idx_map e50_len _ l i h0 h1
theorem e50_gd (l : List S50) (i : Int) : l.getD i.toNat z50 = rd_T50 l i := rfl
theorem e50_ln (l : List S50) : (List.flatMap e50 l).length = (l.length) * 4 := by rw [len_map e50_len]
theorem e50_row (l : List S50) (n : Nat) (h : n < l.length) : List.take 4 (List.drop ((n) * 4) (List.flatMap e50 l)) = e50 (l.getD n z50) := by have := row_map e50_len z50 l n h; simpa using this
theorem e50_cp (l : List S50) : cpyL (List.flatMap e50 l) = true := cpyL_map e50_cpy l
theorem e50_nms (l : List S50) : noMutL (List.flatMap e50 l) = true := noMutL_map e50_nm l
theorem e50_pu (l : List S50) : pureL (List.flatMap e50 l) = true := pureL_map e50_pure l
theorem e50_sh (l : List S50) : shrL (List.flatMap e50 l) = List.flatMap e50 l := shrL_map e50_shr l
theorem e50_rep (x : S50) (n : Nat) : List.flatMap e50 (List.replicate n x) = (List.replicate n (e50 x)).flatten := (replicate_map x n).symm
theorem e50_sd (l : List S50) (n : Nat) : List.take (((l.length - n)) * 4) (List.drop ((n) * 4) (List.flatMap e50 l)) = List.flatMap e50 (l.drop n) := by have := slD_map e50_len l n; simpa using this
theorem e50_st (l : List S50) (n : Nat) : List.take ((n) * 4) (List.flatMap e50 l) = List.flatMap e50 (l.take n) := by have := take_map e50_len l n; simpa using this
theorem e50_sb (l : List S50) (h n : Nat) : List.take (((h - n)) * 4) (List.drop ((n) * 4) (List.flatMap e50 l)) = List.flatMap e50 ((l.drop n).take (h - n)) := by have := slB_map e50_len l h n; simpa using this
theorem e50_set (l : List S50) (n : Nat) (x : S50) (h : n < l.length) : List.flatMap e50 (l.set n x) = (List.flatMap e50 l).take (n * 4) ++ e50 x ++ (List.flatMap e50 l).drop ((n + 1) * 4) := (set_map e50_len l n h x).symm
attribute [go_sem] e50_at e50_ln e50_row e50_nms e50_sh e50_rep e50_set e50_sd e50_st e50_sb e50_gd e50_cp e50_pu e50
theorem es9 : elemSz Try.prog 9 = none := by kernel_rfl
theorem is9 : isStr Try.prog 9 = true := by kernel_rfl
theorem es22 : elemSz Try.prog 22 = some 4 := by kernel_rfl
theorem es33 : elemSz Try.prog 33 = some 1 := by kernel_rfl
theorem vz3 : vsz Try.prog 3 = some (false, 1) := by kernel_rfl
theorem vz5 : vsz Try.prog 5 = some (false, 1) := by kernel_rfl
theorem vz9 : vsz Try.prog 9 = some (false, 1) := by kernel_rfl
theorem vz22 : vsz Try.prog 22 = some (false, 1) := by kernel_rfl
theorem vz45 : vsz Try.prog 45 = some (true, 3) := by kernel_rfl
theorem vz50 : vsz Try.prog 50 = some (true, 4) := by kernel_rfl
theorem fo45_0 : fldOff Try.prog 45 0 = some 0 := by kernel_rfl
theorem fo45_1 : fldOff Try.prog 45 1 = some 1 := by kernel_rfl
theorem fo45_2 : fldOff Try.prog 45 2 = some 2 := by kernel_rfl
theorem fo50_0 : fldOff Try.prog 50 0 = some 0 := by kernel_rfl
theorem fo50_1 : fldOff Try.prog 50 1 = some 1 := by kernel_rfl
theorem fo50_2 : fldOff Try.prog 50 2 = some 2 := by kernel_rfl
theorem fo50_3 : fldOff Try.prog 50 3 = some 3 := by kernel_rfl
attribute [go_sem] Try.underlying22
theorem bo50_22 : Try.prog.bytesOf 50 = 40 := by kernel_rfl
attribute [go_sem] Try.underlying33
theorem bo5_33 : Try.prog.bytesOf 5 = 1 := by kernel_rfl
theorem zc5 : zcell Try.prog 5 = some [.sc (.int .u8 0)] := by kernel_rfl
theorem zc45 : zcell Try.prog 45 = some [.sc (.string .empty), .sc (.int .i64 0), .sl (some 0) 4 []] := by kernel_rfl
theorem zc50 : zcell Try.prog 50 = some [.sc (.int .i64 0), .sc (.string .empty), .sc (.int .i64 0), .sc (.int .i64 0)] := by kernel_rfl
attribute [go_sem] Try.underlying3
attribute [go_sem] Try.underlying5
attribute [go_sem] Try.underlying9
attribute [go_sem] Try.underlying33
theorem dv4 (n : Nat) : n * 4 / 4 = n := Nat.mul_div_cancel _ (by decide)
attribute [go_sem] Nat.div_one
def byteAt (s : ByteArray) (i : Int) : UInt8 := if h : i.toNat < s.size then s[i.toNat] else 0
theorem byteAt_get (s : ByteArray) (i : Int) (h0 : 0 ≤ i) (h1 : i < s.size) : s[i.toNat]? = some (byteAt s i) := by
  have h : i.toNat < s.size := by omega
  rw [getElem?_pos s i.toNat h]
  simp [byteAt, h]
theorem byteAt_bt (s : ByteArray) (i : Int) : ((byteAt s i).toNat : Int) = bt s i := by
  unfold byteAt bt
  split <;> simp
attribute [go_sem] evStrIx
theorem ba_empty : (⟨#[]⟩ : ByteArray) = ByteArray.empty := rfl
attribute [go_sem] z50
theorem mo : Try.prog.follows .mixedOrders = true := by kernel_rfl
attribute [go_sem] es9 is9 es22 es33 vz3 vz5 vz9 vz22 vz45 vz50 fo45_0 fo45_1 fo45_2 fo50_0 fo50_1 fo50_2 fo50_3 bo50_22 bo5_33 zc5 zc45 zc50 dv4 byteAt_bt byteAt_get ba_empty
theorem e50_fold (l : List S50) (n : Nat) (y0 : Int) (y1 : ByteArray) (y2 : Int) (y3 : Int) (h : n < l.length) : List.take (n * 4) (List.flatMap e50 l) ++ (.sc (.int .i64 y0) :: .sc (.string y1) :: .sc (.int .i64 y2) :: .sc (.int .i64 y3) :: List.drop ((n + 1) * 4) (List.flatMap e50 l)) = List.flatMap e50 (l.set n ⟨y0, y1, y2, y3⟩) := by rw [← set_map e50_len l n h]; simp [e50]
theorem e50_fold2 (l : List S50) (n : Nat) (z : S50) (y0 : Int) (y1 : ByteArray) (y2 : Int) (y3 : Int) (h : n < l.length) : List.take (n * 4) (List.flatMap e50 (l.set n z)) ++ (.sc (.int .i64 y0) :: .sc (.string y1) :: .sc (.int .i64 y2) :: .sc (.int .i64 y3) :: List.drop ((n + 1) * 4) (List.flatMap e50 (l.set n z))) = List.flatMap e50 (l.set n ⟨y0, y1, y2, y3⟩) := by rw [e50_fold _ _ y0 y1 y2 y3 (by rw [List.length_set]; exact h), List.set_set]
theorem e50_ats (l : List S50) (n : Nat) (z : S50) (i : Int) (h0 : 0 ≤ i) (h1 : i < l.length) : idx 4 (List.flatMap e50 (l.set n z)) i = some (e50 (rd_T50 (l.set n z) i)) := e50_at _ i h0 (by rw [List.length_set]; exact h1)
theorem e50_rows (l : List S50) (m n : Nat) (z : S50) (h : n < l.length) : List.take 4 (List.drop ((n) * 4) (List.flatMap e50 (l.set m z))) = e50 ((l.set m z).getD n z50) := e50_row _ n (by rw [List.length_set]; exact h)
theorem e50_get (l : List S50) (n : Nat) (x z : S50) (h : n < l.length) : (l.set n x).getD n z = x := by rw [List.getD_eq_getElem?_getD, List.getElem?_set_self h]; rfl
theorem e50_rd (l : List S50) (i : Int) (x : S50) (h : i.toNat < l.length) : rd_T50 (l.set i.toNat x) i = x := e50_get l i.toNat x _ h
theorem byteCl_eU (s : ByteArray) : byteCl s = List.flatMap eU (bytesOf s) := by
  unfold byteCl bytesOf
  generalize s.data.toList = l
  induction l with
  | nil => rfl
  | cons c l ih => rw [List.map_cons, List.map_cons, List.flatMap_cons, ih]; rfl
attribute [go_sem] byteCl_eU
theorem wrap256 (x : Int) : wrap64 (x % 256) = x % 256 := by unfold wrap64; omega
attribute [go_sem] wrap256
theorem wrapBt (s : ByteArray) (i : Int) : wrap64 (bt s i) = bt s i := by
  have h := bt_range s i
  unfold wrap64
  omega
attribute [go_sem] wrapBt
end Go.Proofs.Ytppfilhlblnmcaa.PFnExactSignsOf
