/- What values are in cells; facts on the program's types. No condition. -/
import Derived.Test.YtppfilhlblnmcaaShelf
import Derived.Test.YtppfilhlblnmcaaChecked
import Derived.KernelRfl
import Derived.Test.YtppfilhlblnmcaaStFnExactSignText
import Derived.Test.YtppfilhlblnmcaaA5
open Go Go.Proofs Go.Proofs.Ytppfilhlblnmcaa.Abs
namespace Go.Proofs.Ytppfilhlblnmcaa.PFnExactSignText
open Go.RowKit Go.Proofs.YtppfilhlblnmcaaW.PrintWords Go.Proofs.YtppfilhlblnmcaaW.PrintLast Go.Proofs.YtppfilhlblnmcaaW.PrintMore
set_option linter.unusedVariables false
set_option linter.unusedSimpArgs false
set_option maxRecDepth 100000
theorem eS_at (l : List ByteArray) (i : Int) (h0 : 0 ≤ i) (h1 : i < l.length) : idx 1 (List.flatMap eS l) i = some (eS (rdOf ByteArray.empty l i)) := idx_map eS_len _ l i h0 h1
theorem eS_gd (l : List ByteArray) (i : Int) : l.getD i.toNat ByteArray.empty = rdOf ByteArray.empty l i := rfl
theorem eS_ln (l : List ByteArray) : (List.flatMap eS l).length = l.length := by rw [len_map eS_len]; exact Nat.mul_one _
theorem eS_row (l : List ByteArray) (n : Nat) (h : n < l.length) : List.take 1 (List.drop (n) (List.flatMap eS l)) = eS (l.getD n ByteArray.empty) := by have := row_map eS_len ByteArray.empty l n h; simpa using this
theorem eS_cp (l : List ByteArray) : cpyL (List.flatMap eS l) = true := cpyL_map eS_cpy l
theorem eS_nms (l : List ByteArray) : noMutL (List.flatMap eS l) = true := noMutL_map eS_nm l
theorem eS_pu (l : List ByteArray) : pureL (List.flatMap eS l) = true := pureL_map eS_pure l
theorem eS_sh (l : List ByteArray) : shrL (List.flatMap eS l) = List.flatMap eS l := shrL_map eS_shr l
theorem eS_rep (x : ByteArray) (n : Nat) : List.flatMap eS (List.replicate n x) = (List.replicate n (eS x)).flatten := (replicate_map x n).symm
theorem eS_sd (l : List ByteArray) (n : Nat) : List.take ((l.length - n)) (List.drop (n) (List.flatMap eS l)) = List.flatMap eS (l.drop n) := by have := slD_map eS_len l n; simpa using this
theorem eS_st (l : List ByteArray) (n : Nat) : List.take (n) (List.flatMap eS l) = List.flatMap eS (l.take n) := by have := take_map eS_len l n; simpa using this
theorem eS_sb (l : List ByteArray) (h n : Nat) : List.take ((h - n)) (List.drop (n) (List.flatMap eS l)) = List.flatMap eS ((l.drop n).take (h - n)) := by have := slB_map eS_len l h n; simpa using this
theorem eS_set (l : List ByteArray) (n : Nat) (x : ByteArray) (h : n < l.length) : List.flatMap eS (l.set n x) = (List.flatMap eS l).take (n * 1) ++ eS x ++ (List.flatMap eS l).drop ((n + 1) * 1) := (set_map eS_len l n h x).symm
attribute [go_sem] eS_at eS_ln eS_row eS_nms eS_sh eS_rep eS_set eS_sd eS_st eS_sb eS_gd eS_cp eS_pu
def e50 (x : S50) : List Cell := [.sc (.int .i64 x.f0), .sc (.string x.f1), .sc (.int .i64 x.f2), .sc (.int .i64 x.f3)]
abbrev o50 := e50
theorem e50_len : ∀ x, (e50 x).length = 4 := fun _ => rfl
theorem e50_nm : ∀ x, noMutL (e50 x) = true := by intro x; simp [e50, go_sem]
theorem e50_cpy : ∀ x, cpyL (e50 x) = true := by intro x; simp [e50, go_sem]
theorem e50_shr : ∀ x, shrL (e50 x) = e50 x := by intro x; simp [e50, go_sem]
theorem e50_pure : ∀ x, pureL (e50 x) = true := by intro x; rfl
theorem e50_at (l : List S50) (i : Int) (h0 : 0 ≤ i) (h1 : i < l.length) : idx 4 (List.flatMap e50 l) i = some (e50 (rd_T50 l i)) := idx_map e50_len _ l i h0 h1
theorem e50_gd (l : List S50) (i : Int) : l.getD i.toNat z50 = rd_T50 l i := rfl
theorem e50_ln (l : List S50) : (List.flatMap e50 l).length = (l.length) * 4 := by rw [len_map e50_len]
theorem e50_row (l : List S50) (n : Nat) (h : n < l.length) : List.take 4 (List.drop ((n) * 4) (List.flatMap e50 l)) = e50 (l.getD n z50) := by have := row_map e50_len z50 l n h; simpa using this
theorem e50_cp (l : List S50) : cpyL (List.flatMap e50 l) = true := cpyL_map e50_cpy l
theorem e50_nms (l : List S50) : noMutL (List.flatMap e50 l) = true := noMutL_map e50_nm l
theorem e50_pu (l : List S50) : pureL (List.flatMap e50 l) = true := pureL_map e50_pure l
theorem e50_sh (l : List S50) : shrL (List.flatMap e50 l) = List.flatMap e50 l := shrL_map e50_shr l
theorem e50_rep (x : S50) (n : Nat) : List.flatMap e50 (List.replicate n x) = (List.replicate n (e50 x)).flatten := (replicate_map x n).symm
theorem e50_sd (l : List S50) (n : Nat) : List.take (((l.length - n)) * 4) (List.drop ((n) * 4) (List.flatMap e50 l)) = List.flatMap e50 (l.drop n) := by have := slD_map e50_len l n; simpa using this
theorem e50_st (l : List S50) (n : Nat) : List.take ((n) * 4) (List.flatMap e50 l) = List.flatMap e50 (l.take n) := by have := take_map e50_len l n; simpa using this
theorem e50_sb (l : List S50) (h n : Nat) : List.take (((h - n)) * 4) (List.drop ((n) * 4) (List.flatMap e50 l)) = List.flatMap e50 ((l.drop n).take (h - n)) := by have := slB_map e50_len l h n; simpa using this
theorem e50_set (l : List S50) (n : Nat) (x : S50) (h : n < l.length) : List.flatMap e50 (l.set n x) = (List.flatMap e50 l).take (n * 4) ++ e50 x ++ (List.flatMap e50 l).drop ((n + 1) * 4) := (set_map e50_len l n h x).symm
attribute [go_sem] e50_at e50_ln e50_row e50_nms e50_sh e50_rep e50_set e50_sd e50_st e50_sb e50_gd e50_cp e50_pu e50
def e56 (x : S56) : List Cell := [.sc (.int .i64 x.f0), .sc (.string x.f1), .sc (.int .i64 x.f2), .sc (.int .i64 x.f3)]
abbrev o56 := e56
theorem e56_len : ∀ x, (e56 x).length = 4 := fun _ => rfl
theorem e56_nm : ∀ x, noMutL (e56 x) = true := by intro x; simp [e56, go_sem]
theorem e56_cpy : ∀ x, cpyL (e56 x) = true := by intro x; simp [e56, go_sem]
theorem e56_shr : ∀ x, shrL (e56 x) = e56 x := by intro x; simp [e56, go_sem]
theorem e56_pure : ∀ x, pureL (e56 x) = true := by intro x; rfl
theorem e56_at (l : List S56) (i : Int) (h0 : 0 ≤ i) (h1 : i < l.length) : idx 4 (List.flatMap e56 l) i = some (e56 (rd_T56 l i)) := idx_map e56_len _ l i h0 h1
theorem e56_gd (l : List S56) (i : Int) : l.getD i.toNat z56 = rd_T56 l i := rfl
theorem e56_ln (l : List S56) : (List.flatMap e56 l).length = (l.length) * 4 := by rw [len_map e56_len]
theorem e56_row (l : List S56) (n : Nat) (h : n < l.length) : List.take 4 (List.drop ((n) * 4) (List.flatMap e56 l)) = e56 (l.getD n z56) := by have := row_map e56_len z56 l n h; simpa using this
theorem e56_cp (l : List S56) : cpyL (List.flatMap e56 l) = true := cpyL_map e56_cpy l
theorem e56_nms (l : List S56) : noMutL (List.flatMap e56 l) = true := noMutL_map e56_nm l
theorem e56_pu (l : List S56) : pureL (List.flatMap e56 l) = true := pureL_map e56_pure l
theorem e56_sh (l : List S56) : shrL (List.flatMap e56 l) = List.flatMap e56 l := shrL_map e56_shr l
theorem e56_rep (x : S56) (n : Nat) : List.flatMap e56 (List.replicate n x) = (List.replicate n (e56 x)).flatten := (replicate_map x n).symm
theorem e56_sd (l : List S56) (n : Nat) : List.take (((l.length - n)) * 4) (List.drop ((n) * 4) (List.flatMap e56 l)) = List.flatMap e56 (l.drop n) := by have := slD_map e56_len l n; simpa using this
theorem e56_st (l : List S56) (n : Nat) : List.take ((n) * 4) (List.flatMap e56 l) = List.flatMap e56 (l.take n) := by have := take_map e56_len l n; simpa using this
theorem e56_sb (l : List S56) (h n : Nat) : List.take (((h - n)) * 4) (List.drop ((n) * 4) (List.flatMap e56 l)) = List.flatMap e56 ((l.drop n).take (h - n)) := by have := slB_map e56_len l h n; simpa using this
theorem e56_set (l : List S56) (n : Nat) (x : S56) (h : n < l.length) : List.flatMap e56 (l.set n x) = (List.flatMap e56 l).take (n * 4) ++ e56 x ++ (List.flatMap e56 l).drop ((n + 1) * 4) := (set_map e56_len l n h x).symm
attribute [go_sem] e56_at e56_ln e56_row e56_nms e56_sh e56_rep e56_set e56_sd e56_st e56_sb e56_gd e56_cp e56_pu e56
theorem es9 : elemSz Try.prog 9 = none := by kernel_rfl
theorem is9 : isStr Try.prog 9 = true := by kernel_rfl
theorem es22 : elemSz Try.prog 22 = some 4 := by kernel_rfl
theorem es28 : elemSz Try.prog 28 = some 4 := by kernel_rfl
theorem es58 : elemSz Try.prog 58 = some 1 := by kernel_rfl
theorem vz3 : vsz Try.prog 3 = some (false, 1) := by kernel_rfl
theorem vz9 : vsz Try.prog 9 = some (false, 1) := by kernel_rfl
theorem vz50 : vsz Try.prog 50 = some (true, 4) := by kernel_rfl
theorem vz56 : vsz Try.prog 56 = some (true, 4) := by kernel_rfl
theorem fo50_0 : fldOff Try.prog 50 0 = some 0 := by kernel_rfl
theorem fo50_1 : fldOff Try.prog 50 1 = some 1 := by kernel_rfl
theorem fo50_2 : fldOff Try.prog 50 2 = some 2 := by kernel_rfl
theorem fo50_3 : fldOff Try.prog 50 3 = some 3 := by kernel_rfl
theorem fo56_0 : fldOff Try.prog 56 0 = some 0 := by kernel_rfl
theorem fo56_1 : fldOff Try.prog 56 1 = some 1 := by kernel_rfl
theorem fo56_2 : fldOff Try.prog 56 2 = some 2 := by kernel_rfl
theorem fo56_3 : fldOff Try.prog 56 3 = some 3 := by kernel_rfl
attribute [go_sem] Try.underlying22
theorem bo50_22 : Try.prog.bytesOf 50 = 40 := by kernel_rfl
attribute [go_sem] Try.underlying58
theorem bo9_58 : Try.prog.bytesOf 9 = 16 := by kernel_rfl
theorem zc9 : zcell Try.prog 9 = some [.sc (.string .empty)] := by kernel_rfl
theorem zc50 : zcell Try.prog 50 = some [.sc (.int .i64 0), .sc (.string .empty), .sc (.int .i64 0), .sc (.int .i64 0)] := by kernel_rfl
theorem dv4 (n : Nat) : n * 4 / 4 = n := Nat.mul_div_cancel _ (by decide)
attribute [go_sem] Nat.div_one
def byteAt (s : ByteArray) (i : Int) : UInt8 := if h : i.toNat < s.size then s[i.toNat] else 0
theorem byteAt_get (s : ByteArray) (i : Int) (h0 : 0 ≤ i) (h1 : i < s.size) : s[i.toNat]? = some (byteAt s i) := by
  have h : i.toNat < s.size := by omega
  rw [getElem?_pos s i.toNat h]
  simp [byteAt, h]
attribute [go_sem] evStrIx
theorem ba_empty : (⟨#[]⟩ : ByteArray) = ByteArray.empty := rfl
attribute [go_sem] z50 z56
theorem mo : Try.prog.follows .mixedOrders = true := by kernel_rfl
attribute [go_sem] es9 is9 es22 es28 es58 vz3 vz9 vz50 vz56 fo50_0 fo50_1 fo50_2 fo50_3 fo56_0 fo56_1 fo56_2 fo56_3 bo50_22 bo9_58 zc9 zc50 dv4 byteAt_get ba_empty
end Go.Proofs.Ytppfilhlblnmcaa.PFnExactSignText
