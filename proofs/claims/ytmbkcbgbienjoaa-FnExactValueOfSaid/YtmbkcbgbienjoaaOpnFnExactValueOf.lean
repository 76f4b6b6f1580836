/- The arguments of the law FnExactValueOf, opened: what they read as is a value of its kind. No condition beyond what the row gives. -/
import Derived.Test.YtmbkcbgbienjoaaPFnExactValueOfx24
import Derived.Test.YtmbkcbgbienjoaaOpn
set_option linter.unusedVariables false
set_option linter.unusedSimpArgs false
namespace Go.Proofs.Ytmbkcbgbienjoaa.OpnFnExactValueOf
open Go.RowKit Go.Proofs.Ytmbkcbgbienjoaa.PFnExactValueOf Go.Proofs.Ytmbkcbgbienjoaa.Opn Go.Proofs.YtmbkcbgbienjoaaW.PrintWords Go.Proofs.YtmbkcbgbienjoaaW.PrintLast Go.Proofs.YtmbkcbgbienjoaaW.PrintMore

/-! #### struct type 26 -/
structure S26 where
  f0 : (List S113)
  f1 : (List S117)
  f2 : (List S119)
def z26 : S26 := ⟨([] : List S113), ([] : List S117), ([] : List S119)⟩
def k26 : Kd S26 := Kd.iso (Kd.pair (Kd.slice 113 k113) (Kd.pair (Kd.slice 117 k117) (Kd.slice 119 k119))) (fun x : S26 => (x.f0, x.f1, x.f2))
theorem k26_open {w : World} {x : S26} {cs : List Value} (h : k26.K w x cs) : ∃ A0 c0 A1 c1 A2 c2, cs = [.slice A0 x.f0.length c0, .slice A1 x.f1.length c1, .slice A2 x.f2.length c2] ∧ x.f0.length ≤ c0 ∧ k113.C w A0 x.f0.length x.f0 ∧ x.f1.length ≤ c1 ∧ k117.C w A1 x.f1.length x.f1 ∧ x.f2.length ≤ c2 ∧ k119.C w A2 x.f2.length x.f2 := by
  obtain ⟨_, _, rfl, ⟨A0, c0, rfl, l0, g0⟩, ⟨_, _, rfl, ⟨A1, c1, rfl, l1, g1⟩, ⟨A2, c2, rfl, l2, g2⟩⟩⟩ := h
  exact ⟨A0, c0, A1, c1, A2, c2, rfl, l0, g0, l1, g1, l2, g2⟩
theorem k26_openM {w : World} {base : Nat} {ok : Nat → Prop} {x : S26} {cs : List Value} (h : k26.M w base ok x cs) : ∃ v0 v1 v2, cs = [v0, v1, v2] ∧ k113.R 113 w base ok v0 x.f0 ∧ k117.R 117 w base ok v1 x.f1 ∧ k119.R 119 w base ok v2 x.f2 := by
  obtain ⟨_, _, rfl, ⟨v0, rfl, g0⟩, ⟨_, _, rfl, ⟨v1, rfl, g1⟩, ⟨v2, rfl, g2⟩⟩⟩ := h
  exact ⟨v0, v1, v2, rfl, g0, g1, g2⟩
theorem k26_mk (w : World) (x : S26) {A0 : Option Addr} {c0 : Nat} (l0 : x.f0.length ≤ c0) (g0 : k113.C w A0 x.f0.length x.f0) {A1 : Option Addr} {c1 : Nat} (l1 : x.f1.length ≤ c1) (g1 : k117.C w A1 x.f1.length x.f1) {A2 : Option Addr} {c2 : Nat} (l2 : x.f2.length ≤ c2) (g2 : k119.C w A2 x.f2.length x.f2) : k26.K w x [.slice A0 x.f0.length c0, .slice A1 x.f1.length c1, .slice A2 x.f2.length c2] := ⟨[.slice A0 x.f0.length c0], [.slice A1 x.f1.length c1, .slice A2 x.f2.length c2], rfl, ⟨A0, c0, rfl, l0, g0⟩, ⟨[.slice A1 x.f1.length c1], [.slice A2 x.f2.length c2], rfl, ⟨A1, c1, rfl, l1, g1⟩, ⟨A2, c2, rfl, l2, g2⟩⟩⟩
theorem k26_mkM (w : World) (base : Nat) (ok : Nat → Prop) (x : S26) {v0 : Value} (g0 : k113.R 113 w base ok v0 x.f0) {v1 : Value} (g1 : k117.R 117 w base ok v1 x.f1) {v2 : Value} (g2 : k119.R 119 w base ok v2 x.f2) : k26.M w base ok x [v0, v1, v2] := ⟨[v0], [v1, v2], rfl, ⟨v0, rfl, g0⟩, ⟨[v1], [v2], rfl, ⟨v1, rfl, g1⟩, ⟨v2, rfl, g2⟩⟩⟩
def rd_T26 (xs : List S26) (i : Int) : S26 := xs.getD i.toNat z26
theorem at_T26 {w : World} {A : Option Addr} {n : Nat} {xs : List S26} (h : Kd.C k26 w A n xs) (i : Int) (h0 : 0 ≤ i) (h1 : i < n) : ∃ ad A0 c0 A1 c1 A2 c2, A = some ad ∧ w.cell? (ad.add (i.toNat * 3)) = some (.slice A0 (rd_T26 xs i).f0.length c0) ∧ w.cell? ⟨(ad.add (i.toNat * 3)).block, (ad.add (i.toNat * 3)).off + 1, none⟩ = some (.slice A1 (rd_T26 xs i).f1.length c1) ∧ w.cell? ⟨(ad.add (i.toNat * 3)).block, (ad.add (i.toNat * 3)).off + 2, none⟩ = some (.slice A2 (rd_T26 xs i).f2.length c2) ∧ (rd_T26 xs i).f0.length ≤ c0 ∧ k113.C w A0 (rd_T26 xs i).f0.length (rd_T26 xs i).f0 ∧ (rd_T26 xs i).f1.length ≤ c1 ∧ k117.C w A1 (rd_T26 xs i).f1.length (rd_T26 xs i).f1 ∧ (rd_T26 xs i).f2.length ≤ c2 ∧ k119.C w A2 (rd_T26 xs i).f2.length (rd_T26 xs i).f2 := by
  obtain ⟨ad, c, e, _, hK, hc0⟩ := Kd.C_get h z26 i h0 h1
  have hc : ∀ j u, c[j]? = some u → w.cell? (ad.add (i.toNat * 3 + j)) = some u := hc0
  obtain ⟨A0, c0, A1, c1, A2, c2, rfl, l0, g0, l1, g1, l2, g2⟩ := k26_open hK
  exact ⟨ad, A0, c0, A1, c1, A2, c2, e, hc 0 _ rfl, by rw [← add_field _ _ 1 (by omega)]; exact hc 1 _ rfl, by rw [← add_field _ _ 2 (by omega)]; exact hc 2 _ rfl, l0, g0, l1, g1, l2, g2⟩

/-! #### struct type 30 -/
structure S30 where
  f0 : (List ByteArray)
  f1 : (List Int)
def z30 : S30 := ⟨([] : List ByteArray), ([] : List Int)⟩
def k30 : Kd S30 := Kd.iso (Kd.pair (Kd.slice 9 Kd.string) (Kd.slice 3 (Kd.int .i64))) (fun x : S30 => (x.f0, x.f1))
theorem k30_open {w : World} {x : S30} {cs : List Value} (h : k30.K w x cs) : ∃ A0 c0 A1 c1, cs = [.slice A0 x.f0.length c0, .slice A1 x.f1.length c1] ∧ x.f0.length ≤ c0 ∧ Kd.string.C w A0 x.f0.length x.f0 ∧ x.f1.length ≤ c1 ∧ (Kd.int .i64).C w A1 x.f1.length x.f1 := by
  obtain ⟨_, _, rfl, ⟨A0, c0, rfl, l0, g0⟩, ⟨A1, c1, rfl, l1, g1⟩⟩ := h
  exact ⟨A0, c0, A1, c1, rfl, l0, g0, l1, g1⟩
theorem k30_openM {w : World} {base : Nat} {ok : Nat → Prop} {x : S30} {cs : List Value} (h : k30.M w base ok x cs) : ∃ v0 v1, cs = [v0, v1] ∧ Kd.string.R 9 w base ok v0 x.f0 ∧ (Kd.int .i64).R 3 w base ok v1 x.f1 := by
  obtain ⟨_, _, rfl, ⟨v0, rfl, g0⟩, ⟨v1, rfl, g1⟩⟩ := h
  exact ⟨v0, v1, rfl, g0, g1⟩
theorem k30_mk (w : World) (x : S30) {A0 : Option Addr} {c0 : Nat} (l0 : x.f0.length ≤ c0) (g0 : Kd.string.C w A0 x.f0.length x.f0) {A1 : Option Addr} {c1 : Nat} (l1 : x.f1.length ≤ c1) (g1 : (Kd.int .i64).C w A1 x.f1.length x.f1) : k30.K w x [.slice A0 x.f0.length c0, .slice A1 x.f1.length c1] := ⟨[.slice A0 x.f0.length c0], [.slice A1 x.f1.length c1], rfl, ⟨A0, c0, rfl, l0, g0⟩, ⟨A1, c1, rfl, l1, g1⟩⟩
theorem k30_mkM (w : World) (base : Nat) (ok : Nat → Prop) (x : S30) {v0 : Value} (g0 : Kd.string.R 9 w base ok v0 x.f0) {v1 : Value} (g1 : (Kd.int .i64).R 3 w base ok v1 x.f1) : k30.M w base ok x [v0, v1] := ⟨[v0], [v1], rfl, ⟨v0, rfl, g0⟩, ⟨v1, rfl, g1⟩⟩
def rd_T30 (xs : List S30) (i : Int) : S30 := xs.getD i.toNat z30
theorem at_T30 {w : World} {A : Option Addr} {n : Nat} {xs : List S30} (h : Kd.C k30 w A n xs) (i : Int) (h0 : 0 ≤ i) (h1 : i < n) : ∃ ad A0 c0 A1 c1, A = some ad ∧ w.cell? (ad.add (i.toNat * 2)) = some (.slice A0 (rd_T30 xs i).f0.length c0) ∧ w.cell? ⟨(ad.add (i.toNat * 2)).block, (ad.add (i.toNat * 2)).off + 1, none⟩ = some (.slice A1 (rd_T30 xs i).f1.length c1) ∧ (rd_T30 xs i).f0.length ≤ c0 ∧ Kd.string.C w A0 (rd_T30 xs i).f0.length (rd_T30 xs i).f0 ∧ (rd_T30 xs i).f1.length ≤ c1 ∧ (Kd.int .i64).C w A1 (rd_T30 xs i).f1.length (rd_T30 xs i).f1 := by
  obtain ⟨ad, c, e, _, hK, hc0⟩ := Kd.C_get h z30 i h0 h1
  have hc : ∀ j u, c[j]? = some u → w.cell? (ad.add (i.toNat * 2 + j)) = some u := hc0
  obtain ⟨A0, c0, A1, c1, rfl, l0, g0, l1, g1⟩ := k30_open hK
  exact ⟨ad, A0, c0, A1, c1, e, hc 0 _ rfl, by rw [← add_field _ _ 1 (by omega)]; exact hc 1 _ rfl, l0, g0, l1, g1⟩

def G113 (x : S113) : Prop := (GI .i64) x.f0 ∧ (GI .i64) x.f1 ∧ GS x.f2 ∧ GS x.f3 ∧ GS x.f4 ∧ (GL (GI .i64)) x.f5
theorem opn113 {H : Type} {enc : TypeId × Value → H} {w : World} : Opn enc Try.prog w 113 k113 G113 :=
  opn_struct (fun x : S113 => (x.f0, x.f1, x.f2, x.f3, x.f4, x.f5)) (fun y => (⟨y.1, y.2.1, y.2.2.1, y.2.2.2.1, y.2.2.2.2.1, y.2.2.2.2.2⟩ : S113)) (fun _ => rfl) Try.underlying113 (by kernel_rfl) (opnF_cons rfl (by kernel_rfl) (opn_int Try.underlying3) rfl (opnF_cons rfl (by kernel_rfl) (opn_int Try.underlying3) rfl (opnF_cons rfl (by kernel_rfl) (opn_str Try.underlying9) rfl (opnF_cons rfl (by kernel_rfl) (opn_str Try.underlying9) rfl (opnF_cons rfl (by kernel_rfl) (opn_str Try.underlying9) rfl (opnF_one rfl (by kernel_rfl) (opn_slice 3 Try.underlying27 (by kernel_rfl) (opn_int Try.underlying3))))))))
def G143 (x : S143) : Prop := GS x.f0 ∧ GS x.f1 ∧ (GI .i64) x.f2
theorem opn143 {H : Type} {enc : TypeId × Value → H} {w : World} : Opn enc Try.prog w 143 k143 G143 :=
  opn_struct (fun x : S143 => (x.f0, x.f1, x.f2)) (fun y => (⟨y.1, y.2.1, y.2.2⟩ : S143)) (fun _ => rfl) Try.underlying143 (by kernel_rfl) (opnF_cons rfl (by kernel_rfl) (opn_str Try.underlying9) rfl (opnF_cons rfl (by kernel_rfl) (opn_str Try.underlying9) rfl (opnF_one rfl (by kernel_rfl) (opn_int Try.underlying3))))
def G117 (x : S117) : Prop := GS x.f0 ∧ (GL GS) x.f1 ∧ (GL GS) x.f2 ∧ (GL G143) x.f3
theorem opn117 {H : Type} {enc : TypeId × Value → H} {w : World} : Opn enc Try.prog w 117 k117 G117 :=
  opn_struct (fun x : S117 => (x.f0, x.f1, x.f2, x.f3)) (fun y => (⟨y.1, y.2.1, y.2.2.1, y.2.2.2⟩ : S117)) (fun _ => rfl) Try.underlying117 (by kernel_rfl) (opnF_cons rfl (by kernel_rfl) (opn_str Try.underlying9) rfl (opnF_cons rfl (by kernel_rfl) (opn_slice 9 Try.underlying28 (by kernel_rfl) (opn_str Try.underlying9)) rfl (opnF_cons rfl (by kernel_rfl) (opn_slice 9 Try.underlying28 (by kernel_rfl) (opn_str Try.underlying9)) rfl (opnF_one rfl (by kernel_rfl) (opn_slice 143 Try.underlying115 (by kernel_rfl) opn143)))))
def G119 (x : S119) : Prop := GS x.f0 ∧ (GL GS) x.f1 ∧ (GL GS) x.f2 ∧ (GI .i64) x.f3
theorem opn119 {H : Type} {enc : TypeId × Value → H} {w : World} : Opn enc Try.prog w 119 k119 G119 :=
  opn_struct (fun x : S119 => (x.f0, x.f1, x.f2, x.f3)) (fun y => (⟨y.1, y.2.1, y.2.2.1, y.2.2.2⟩ : S119)) (fun _ => rfl) Try.underlying119 (by kernel_rfl) (opnF_cons rfl (by kernel_rfl) (opn_str Try.underlying9) rfl (opnF_cons rfl (by kernel_rfl) (opn_slice 9 Try.underlying28 (by kernel_rfl) (opn_str Try.underlying9)) rfl (opnF_cons rfl (by kernel_rfl) (opn_slice 9 Try.underlying28 (by kernel_rfl) (opn_str Try.underlying9)) rfl (opnF_one rfl (by kernel_rfl) (opn_int Try.underlying3)))))
def G26 (x : S26) : Prop := (GL G113) x.f0 ∧ (GL G117) x.f1 ∧ (GL G119) x.f2
theorem opn26 {H : Type} {enc : TypeId × Value → H} {w : World} : Opn enc Try.prog w 26 k26 G26 :=
  opn_struct (fun x : S26 => (x.f0, x.f1, x.f2)) (fun y => (⟨y.1, y.2.1, y.2.2⟩ : S26)) (fun _ => rfl) Try.underlying26 (by kernel_rfl) (opnF_cons rfl (by kernel_rfl) (opn_slice 113 Try.underlying22 (by kernel_rfl) opn113) rfl (opnF_cons rfl (by kernel_rfl) (opn_slice 117 Try.underlying23 (by kernel_rfl) opn117) rfl (opnF_one rfl (by kernel_rfl) (opn_slice 119 Try.underlying24 (by kernel_rfl) opn119))))
def G30 (x : S30) : Prop := (GL GS) x.f0 ∧ (GL (GI .i64)) x.f1
theorem opn30 {H : Type} {enc : TypeId × Value → H} {w : World} : Opn enc Try.prog w 30 k30 G30 :=
  opn_struct (fun x : S30 => (x.f0, x.f1)) (fun y => (⟨y.1, y.2⟩ : S30)) (fun _ => rfl) Try.underlying30 (by kernel_rfl) (opnF_cons rfl (by kernel_rfl) (opn_slice 9 Try.underlying28 (by kernel_rfl) (opn_str Try.underlying9)) rfl (opnF_one rfl (by kernel_rfl) (opn_slice 3 Try.underlying27 (by kernel_rfl) (opn_int Try.underlying3))))
/-- THE PURE STATEMENT of FnExactValueOf. -/
def Pure : Prop := ∀ (l0_0 : List S113) (l0_1 : List S117) (l0_2 : List S119) (a1 : Int) (l2_0 : List ByteArray) (l2_1 : List Int), (GL G113) l0_0 → (GL G117) l0_1 → (GL G119) l0_2 → (GI .i64) a1 → (GL GS) l2_0 → (GL (GI .i64)) l2_1 → ∃ k, laws_FnExactValueOf.f k l0_0 l0_1 l0_2 a1 l2_0 l2_1 = some true
end Go.Proofs.Ytmbkcbgbienjoaa.OpnFnExactValueOf
