/- The machine side of the law FnNumbers: for each function that it reaches, a Lean function and its contract. Written by a program of this session's over the kit's print. No condition. -/
import Derived.Test.YtmbkcbgbienjoaaDoorCmq
import Derived.Test.YtmbkcbgbienjoaaDoorPFnNumbersx0
namespace Go.Proofs.YtmbkcbgbienjoaaDoor.PFnNumbers
open Go.RowKit Go.Proofs.YtmbkcbgbienjoaaDoorW.PrintWords Go.Proofs.YtmbkcbgbienjoaaDoorW.PrintLast Go.Proofs.YtmbkcbgbienjoaaDoorW.PrintMore Go.Proofs.YtmbkcbgbienjoaaDoor.Cmp
attribute [local go_sem] max2_int min2_int max_two min_two max_three min_three max_four min_four   -- for this text's walks alone
set_option linter.unusedVariables false
set_option maxHeartbeats 8000000
set_option maxRecDepth 100000
set_option linter.unusedSimpArgs false

/-! ### impl_Decimal: function 11 -/
/-- What the package's variables hold that strconv reads. -/
def VarsOk (w : World) : Prop := Lib.TabIs Tryd.prog w "internal/strconv.uint64pow10" .u64 Lib.pow10Tab ∧ (∃ tp p, w.var? Tryd.prog "strconv.ErrSyntax" = some #[.iface tp p]) ∧ ∃ tp p, w.var? Tryd.prog "strconv.ErrRange" = some #[.iface tp p]
theorem VarsOk.below {w w1 : World} (h : VarsOk w) (hb : Below w.heap.size w w1) : VarsOk w1 := by
  obtain ⟨h1, ⟨t2, p2, h2⟩, t3, p3, h3⟩ := h
  exact ⟨Go.Joins.tab_stays (g := 3) (by kernel_rfl) h1 hb (Nat.le_refl _), ⟨t2, p2, Go.Joins.var_stays (g := 0) (by kernel_rfl) h2 hb (Nat.le_refl _)⟩, t3, p3, Go.Joins.var_stays (g := 1) (by kernel_rfl) h3 hb (Nat.le_refl _)⟩
def impl_Decimal.f (_ : Nat) (a0 : Int) : Option ByteArray := if -9223372036854775808 ≤ a0 ∧ a0 ≤ 9223372036854775807 then some ⟨(Lib.itoa a0).toArray⟩ else none
set_option maxRecDepth 100000 in
theorem impl_Decimal.calls (k : Nat) (a0 : Int) (r : ByteArray) (w : World) (h : impl_Decimal.f k a0 = some r) (ht : VarsOk w := by first | exact HTAB.out | exact VarsOk.below HTAB.out (Hf_ HB)) :
    Calls Tryd.prog 11 #[.int .i64 a0] w fun e w' => e = .returned (.string r) ∧ Below w.heap.size w w' := by
  unfold impl_Decimal.f at h
  split at h
  · rename_i hc
    obtain rfl := Option.some.inj h
    have ht1 := ht.1
    go_enter Tryd.func11, Tryd.ntmps11
    go_wp2_with (go_at_call 22; refine (Tryd.strconv_Itoa a0 hc.1 hc.2 _ ht1).mono ?_; rintro e w1 ⟨rfl, k, os, rfl⟩)
    go_ret
    exact ⟨rfl, Lib.below_grow _ _ (Nat.le_refl _) _ _⟩
  · cases h
end Go.Proofs.YtmbkcbgbienjoaaDoor.PFnNumbers
