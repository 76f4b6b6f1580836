/- The arguments of the law FnExactEntryAt, opened: what they read as is a value of its kind. No condition beyond what the row gives. -/
import Derived.Test.YtegeahiflkjhmaaPFnExactEntryAtx8
import Derived.Test.YtegeahiflkjhmaaOpn
set_option linter.unusedVariables false
set_option linter.unusedSimpArgs false
namespace Go.Proofs.Ytegeahiflkjhmaa.OpnFnExactEntryAt
open Go.RowKit Go.Proofs.Ytegeahiflkjhmaa.PFnExactEntryAt Go.Proofs.Ytegeahiflkjhmaa.Opn Go.Proofs.YtegeahiflkjhmaaW.PrintWords Go.Proofs.YtegeahiflkjhmaaW.PrintLast Go.Proofs.YtegeahiflkjhmaaW.PrintMore

/-! #### struct type 66 -/
structure S66 where
  f0 : (List S148)
  f1 : (List S152)
  f2 : (List S154)
def z66 : S66 := ⟨([] : List S148), ([] : List S152), ([] : List S154)⟩
def k66 : Kd S66 := Kd.iso (Kd.pair (Kd.slice 148 k148) (Kd.pair (Kd.slice 152 k152) (Kd.slice 154 k154))) (fun x : S66 => (x.f0, x.f1, x.f2))
theorem k66_open {w : World} {x : S66} {cs : List Value} (h : k66.K w x cs) : ∃ A0 c0 A1 c1 A2 c2, cs = [.slice A0 x.f0.length c0, .slice A1 x.f1.length c1, .slice A2 x.f2.length c2] ∧ x.f0.length ≤ c0 ∧ k148.C w A0 x.f0.length x.f0 ∧ x.f1.length ≤ c1 ∧ k152.C w A1 x.f1.length x.f1 ∧ x.f2.length ≤ c2 ∧ k154.C w A2 x.f2.length x.f2 := by
  obtain ⟨_, _, rfl, ⟨A0, c0, rfl, l0, g0⟩, ⟨_, _, rfl, ⟨A1, c1, rfl, l1, g1⟩, ⟨A2, c2, rfl, l2, g2⟩⟩⟩ := h
  exact ⟨A0, c0, A1, c1, A2, c2, rfl, l0, g0, l1, g1, l2, g2⟩
theorem k66_openM {w : World} {base : Nat} {ok : Nat → Prop} {x : S66} {cs : List Value} (h : k66.M w base ok x cs) : ∃ v0 v1 v2, cs = [v0, v1, v2] ∧ k148.R 148 w base ok v0 x.f0 ∧ k152.R 152 w base ok v1 x.f1 ∧ k154.R 154 w base ok v2 x.f2 := by
  obtain ⟨_, _, rfl, ⟨v0, rfl, g0⟩, ⟨_, _, rfl, ⟨v1, rfl, g1⟩, ⟨v2, rfl, g2⟩⟩⟩ := h
  exact ⟨v0, v1, v2, rfl, g0, g1, g2⟩
theorem k66_mk (w : World) (x : S66) {A0 : Option Addr} {c0 : Nat} (l0 : x.f0.length ≤ c0) (g0 : k148.C w A0 x.f0.length x.f0) {A1 : Option Addr} {c1 : Nat} (l1 : x.f1.length ≤ c1) (g1 : k152.C w A1 x.f1.length x.f1) {A2 : Option Addr} {c2 : Nat} (l2 : x.f2.length ≤ c2) (g2 : k154.C w A2 x.f2.length x.f2) : k66.K w x [.slice A0 x.f0.length c0, .slice A1 x.f1.length c1, .slice A2 x.f2.length c2] := ⟨[.slice A0 x.f0.length c0], [.slice A1 x.f1.length c1, .slice A2 x.f2.length c2], rfl, ⟨A0, c0, rfl, l0, g0⟩, ⟨[.slice A1 x.f1.length c1], [.slice A2 x.f2.length c2], rfl, ⟨A1, c1, rfl, l1, g1⟩, ⟨A2, c2, rfl, l2, g2⟩⟩⟩
theorem k66_mkM (w : World) (base : Nat) (ok : Nat → Prop) (x : S66) {v0 : Value} (g0 : k148.R 148 w base ok v0 x.f0) {v1 : Value} (g1 : k152.R 152 w base ok v1 x.f1) {v2 : Value} (g2 : k154.R 154 w base ok v2 x.f2) : k66.M w base ok x [v0, v1, v2] := ⟨[v0], [v1, v2], rfl, ⟨v0, rfl, g0⟩, ⟨[v1], [v2], rfl, ⟨v1, rfl, g1⟩, ⟨v2, rfl, g2⟩⟩⟩
def rd_T66 (xs : List S66) (i : Int) : S66 := xs.getD i.toNat z66
theorem at_T66 {w : World} {A : Option Addr} {n : Nat} {xs : List S66} (h : Kd.C k66 w A n xs) (i : Int) (h0 : 0 ≤ i) (h1 : i < n) : ∃ ad A0 c0 A1 c1 A2 c2, A = some ad ∧ w.cell? (ad.add (i.toNat * 3)) = some (.slice A0 (rd_T66 xs i).f0.length c0) ∧ w.cell? ⟨(ad.add (i.toNat * 3)).block, (ad.add (i.toNat * 3)).off + 1, none⟩ = some (.slice A1 (rd_T66 xs i).f1.length c1) ∧ w.cell? ⟨(ad.add (i.toNat * 3)).block, (ad.add (i.toNat * 3)).off + 2, none⟩ = some (.slice A2 (rd_T66 xs i).f2.length c2) ∧ (rd_T66 xs i).f0.length ≤ c0 ∧ k148.C w A0 (rd_T66 xs i).f0.length (rd_T66 xs i).f0 ∧ (rd_T66 xs i).f1.length ≤ c1 ∧ k152.C w A1 (rd_T66 xs i).f1.length (rd_T66 xs i).f1 ∧ (rd_T66 xs i).f2.length ≤ c2 ∧ k154.C w A2 (rd_T66 xs i).f2.length (rd_T66 xs i).f2 := by
  obtain ⟨ad, c, e, _, hK, hc0⟩ := Kd.C_get h z66 i h0 h1
  have hc : ∀ j u, c[j]? = some u → w.cell? (ad.add (i.toNat * 3 + j)) = some u := hc0
  obtain ⟨A0, c0, A1, c1, A2, c2, rfl, l0, g0, l1, g1, l2, g2⟩ := k66_open hK
  exact ⟨ad, A0, c0, A1, c1, A2, c2, e, hc 0 _ rfl, by rw [← add_field _ _ 1 (by omega)]; exact hc 1 _ rfl, by rw [← add_field _ _ 2 (by omega)]; exact hc 2 _ rfl, l0, g0, l1, g1, l2, g2⟩

def G148 (x : S148) : Prop := (GI .i64) x.f0 ∧ (GI .i64) x.f1 ∧ GS x.f2 ∧ GS x.f3 ∧ GS x.f4 ∧ (GL (GI .i64)) x.f5
theorem opn148 {H : Type} {enc : TypeId × Value → H} {w : World} : Opn enc Try.prog w 148 k148 G148 :=
  opn_struct (fun x : S148 => (x.f0, x.f1, x.f2, x.f3, x.f4, x.f5)) (fun y => (⟨y.1, y.2.1, y.2.2.1, y.2.2.2.1, y.2.2.2.2.1, y.2.2.2.2.2⟩ : S148)) (fun _ => rfl) Try.underlying148 (by kernel_rfl) (opnF_cons rfl (by kernel_rfl) (opn_int Try.underlying3) rfl (opnF_cons rfl (by kernel_rfl) (opn_int Try.underlying3) rfl (opnF_cons rfl (by kernel_rfl) (opn_str Try.underlying9) rfl (opnF_cons rfl (by kernel_rfl) (opn_str Try.underlying9) rfl (opnF_cons rfl (by kernel_rfl) (opn_str Try.underlying9) rfl (opnF_one rfl (by kernel_rfl) (opn_slice 3 Try.underlying23 (by kernel_rfl) (opn_int Try.underlying3))))))))
def G163 (x : S163) : Prop := GS x.f0 ∧ GS x.f1 ∧ (GI .i64) x.f2
theorem opn163 {H : Type} {enc : TypeId × Value → H} {w : World} : Opn enc Try.prog w 163 k163 G163 :=
  opn_struct (fun x : S163 => (x.f0, x.f1, x.f2)) (fun y => (⟨y.1, y.2.1, y.2.2⟩ : S163)) (fun _ => rfl) Try.underlying163 (by kernel_rfl) (opnF_cons rfl (by kernel_rfl) (opn_str Try.underlying9) rfl (opnF_cons rfl (by kernel_rfl) (opn_str Try.underlying9) rfl (opnF_one rfl (by kernel_rfl) (opn_int Try.underlying3))))
def G152 (x : S152) : Prop := GS x.f0 ∧ (GL GS) x.f1 ∧ (GL GS) x.f2 ∧ (GL G163) x.f3
theorem opn152 {H : Type} {enc : TypeId × Value → H} {w : World} : Opn enc Try.prog w 152 k152 G152 :=
  opn_struct (fun x : S152 => (x.f0, x.f1, x.f2, x.f3)) (fun y => (⟨y.1, y.2.1, y.2.2.1, y.2.2.2⟩ : S152)) (fun _ => rfl) Try.underlying152 (by kernel_rfl) (opnF_cons rfl (by kernel_rfl) (opn_str Try.underlying9) rfl (opnF_cons rfl (by kernel_rfl) (opn_slice 9 Try.underlying22 (by kernel_rfl) (opn_str Try.underlying9)) rfl (opnF_cons rfl (by kernel_rfl) (opn_slice 9 Try.underlying22 (by kernel_rfl) (opn_str Try.underlying9)) rfl (opnF_one rfl (by kernel_rfl) (opn_slice 163 Try.underlying150 (by kernel_rfl) opn163)))))
def G154 (x : S154) : Prop := GS x.f0 ∧ (GL GS) x.f1 ∧ (GL GS) x.f2 ∧ (GI .i64) x.f3
theorem opn154 {H : Type} {enc : TypeId × Value → H} {w : World} : Opn enc Try.prog w 154 k154 G154 :=
  opn_struct (fun x : S154 => (x.f0, x.f1, x.f2, x.f3)) (fun y => (⟨y.1, y.2.1, y.2.2.1, y.2.2.2⟩ : S154)) (fun _ => rfl) Try.underlying154 (by kernel_rfl) (opnF_cons rfl (by kernel_rfl) (opn_str Try.underlying9) rfl (opnF_cons rfl (by kernel_rfl) (opn_slice 9 Try.underlying22 (by kernel_rfl) (opn_str Try.underlying9)) rfl (opnF_cons rfl (by kernel_rfl) (opn_slice 9 Try.underlying22 (by kernel_rfl) (opn_str Try.underlying9)) rfl (opnF_one rfl (by kernel_rfl) (opn_int Try.underlying3)))))
def G66 (x : S66) : Prop := (GL G148) x.f0 ∧ (GL G152) x.f1 ∧ (GL G154) x.f2
theorem opn66 {H : Type} {enc : TypeId × Value → H} {w : World} : Opn enc Try.prog w 66 k66 G66 :=
  opn_struct (fun x : S66 => (x.f0, x.f1, x.f2)) (fun y => (⟨y.1, y.2.1, y.2.2⟩ : S66)) (fun _ => rfl) Try.underlying66 (by kernel_rfl) (opnF_cons rfl (by kernel_rfl) (opn_slice 148 Try.underlying62 (by kernel_rfl) opn148) rfl (opnF_cons rfl (by kernel_rfl) (opn_slice 152 Try.underlying63 (by kernel_rfl) opn152) rfl (opnF_one rfl (by kernel_rfl) (opn_slice 154 Try.underlying64 (by kernel_rfl) opn154))))
/-- THE PURE STATEMENT of FnExactEntryAt. -/
def Pure : Prop := ∀ (l0_0 : List S148) (l0_1 : List S152) (l0_2 : List S154) (a1 : Int) (a2 : ByteArray), (GL G148) l0_0 → (GL G152) l0_1 → (GL G154) l0_2 → (GI .i64) a1 → a2.size ≤ 140737488351232 → ∃ k, laws_FnExactEntryAt.f k l0_0 l0_1 l0_2 a1 a2 = some true
end Go.Proofs.Ytegeahiflkjhmaa.OpnFnExactEntryAt
