/- The given row of laws.FnExactKept out of a pure statement about lists and numbers: whatever the input. -/
import Derived.Test.YthdeicbkimlnhaaRows
import Derived.Test.YthdeicbkimlnhaaPFnExactKeptx13
import Derived.Test.YthdeicbkimlnhaaOpen
import Derived.WalkKit
import Derived.ProofKit
import Derived.OpenShut
import Derived.ShutString
import Derived.ChangeOld
import Derived.Below
import Derived.SizedLaws
namespace Go.Proofs.Ythdeicbkimlnhaa.AFnExactKept
open Go.ChangeShapes Go.WideShapes Go.ChangeAt Go.RowKit Go.Proofs.YthdeicbkimlnhaaW.PrintWords Go.Proofs.YthdeicbkimlnhaaO Go.Proofs.Ythdeicbkimlnhaa.PFnExactKept
open Go.ChangeMaps (open_string shut_string)
set_option linter.unusedVariables false
theorem own : ownKnob Try.prog.godebug = none := by kernel_rfl
theorem laidOut : laidOutB Try.prog = true := by kernel_rfl
def Ok105 (x : S105) : Prop := (OkN .i64) x.f0 ∧ (OkN .i64) x.f1 ∧ (OkN .i64) x.f2 ∧ (OkN .i64) x.f3
set_option maxRecDepth 100000 in
theorem opens105 : Opens Try.prog 105 k105 Ok105 := by
  refine opens_struct (k := (Kd.pair (Kd.int .i64) (Kd.pair (Kd.int .i64) (Kd.pair (Kd.int .i64) (Kd.int .i64))))) (ok := (fun x => (OkN .i64) x.1 ∧ (fun x => (OkN .i64) x.1 ∧ (fun x => (OkN .i64) x.1 ∧ (OkN .i64) x.2) x.2) x.2)) (fun x : S105 => (x.f0, x.f1, x.f2, x.f3)) (fun a => ⟨⟨a.1, a.2.1, a.2.2.1, a.2.2.2⟩, rfl⟩) Try.underlying105 (l := [_, _, _, _]) rfl (by kernel_rfl) ?_
  apply opensF_cons (k := (Kd.int .i64)) (ok := (OkN .i64)) (k' := (Kd.pair (Kd.int .i64) (Kd.pair (Kd.int .i64) (Kd.int .i64)))) (ok' := (fun x => (OkN .i64) x.1 ∧ (fun x => (OkN .i64) x.1 ∧ (OkN .i64) x.2) x.2))
  · rfl
  · rfl
  · exact (opens_int Try.underlying3 (by kernel_rfl))
  apply opensF_cons (k := (Kd.int .i64)) (ok := (OkN .i64)) (k' := (Kd.pair (Kd.int .i64) (Kd.int .i64))) (ok' := (fun x => (OkN .i64) x.1 ∧ (OkN .i64) x.2))
  · rfl
  · rfl
  · exact (opens_int Try.underlying3 (by kernel_rfl))
  apply opensF_cons (k := (Kd.int .i64)) (ok := (OkN .i64)) (k' := (Kd.int .i64)) (ok' := (OkN .i64))
  · rfl
  · rfl
  · exact (opens_int Try.underlying3 (by kernel_rfl))
  exact opensF_one (by rfl) (by exact (opens_int Try.underlying3 (by kernel_rfl)))
def Ok175 (x : S175) : Prop := (OkN .i64) x.f0 ∧ (OkN .i64) x.f1 ∧ Ok105 x.f2
set_option maxRecDepth 100000 in
theorem opens175 : Opens Try.prog 175 k175 Ok175 := by
  refine opens_struct (k := (Kd.pair (Kd.int .i64) (Kd.pair (Kd.int .i64) k105))) (ok := (fun x => (OkN .i64) x.1 ∧ (fun x => (OkN .i64) x.1 ∧ Ok105 x.2) x.2)) (fun x : S175 => (x.f0, x.f1, x.f2)) (fun a => ⟨⟨a.1, a.2.1, a.2.2⟩, rfl⟩) Try.underlying175 (l := [_, _, _]) rfl (by kernel_rfl) ?_
  apply opensF_cons (k := (Kd.int .i64)) (ok := (OkN .i64)) (k' := (Kd.pair (Kd.int .i64) k105)) (ok' := (fun x => (OkN .i64) x.1 ∧ Ok105 x.2))
  · rfl
  · rfl
  · exact (opens_int Try.underlying3 (by kernel_rfl))
  apply opensF_cons (k := (Kd.int .i64)) (ok := (OkN .i64)) (k' := k105) (ok' := Ok105)
  · rfl
  · rfl
  · exact (opens_int Try.underlying3 (by kernel_rfl))
  exact opensF_one (by rfl) (by exact opens105)
def Ok177 (x : S177) : Prop := (OkN .i64) x.f0 ∧ (OkN .i64) x.f1 ∧ Ok105 x.f2
set_option maxRecDepth 100000 in
theorem opens177 : Opens Try.prog 177 k177 Ok177 := by
  refine opens_struct (k := (Kd.pair (Kd.int .i64) (Kd.pair (Kd.int .i64) k105))) (ok := (fun x => (OkN .i64) x.1 ∧ (fun x => (OkN .i64) x.1 ∧ Ok105 x.2) x.2)) (fun x : S177 => (x.f0, x.f1, x.f2)) (fun a => ⟨⟨a.1, a.2.1, a.2.2⟩, rfl⟩) Try.underlying177 (l := [_, _, _]) rfl (by kernel_rfl) ?_
  apply opensF_cons (k := (Kd.int .i64)) (ok := (OkN .i64)) (k' := (Kd.pair (Kd.int .i64) k105)) (ok' := (fun x => (OkN .i64) x.1 ∧ Ok105 x.2))
  · rfl
  · rfl
  · exact (opens_int Try.underlying3 (by kernel_rfl))
  apply opensF_cons (k := (Kd.int .i64)) (ok := (OkN .i64)) (k' := k105) (ok' := Ok105)
  · rfl
  · rfl
  · exact (opens_int Try.underlying3 (by kernel_rfl))
  exact opensF_one (by rfl) (by exact opens105)
set_option maxRecDepth 100000 in
theorem vopens45 : Opens Try.prog 45 (Kd.iso (Kd.pair (Kd.slice 175 k175) (Kd.pair (Kd.slice 3 (Kd.int .i64)) (Kd.pair (Kd.slice 177 k177) (Kd.pair (Kd.int .i64) (Kd.slice 3 (Kd.int .i64)))))) id) (fun b => (fun x => (OkL Ok175) x.1 ∧ (fun x => (OkL (OkN .i64)) x.1 ∧ (fun x => (OkL Ok177) x.1 ∧ (fun x => (OkN .i64) x.1 ∧ (OkL (OkN .i64)) x.2) x.2) x.2) x.2) (id b)) := by
  refine opens_struct (k := (Kd.pair (Kd.slice 175 k175) (Kd.pair (Kd.slice 3 (Kd.int .i64)) (Kd.pair (Kd.slice 177 k177) (Kd.pair (Kd.int .i64) (Kd.slice 3 (Kd.int .i64))))))) (ok := (fun x => (OkL Ok175) x.1 ∧ (fun x => (OkL (OkN .i64)) x.1 ∧ (fun x => (OkL Ok177) x.1 ∧ (fun x => (OkN .i64) x.1 ∧ (OkL (OkN .i64)) x.2) x.2) x.2) x.2)) id (fun a => ⟨a, rfl⟩) Try.underlying45 (l := [_, _, _, _, _]) rfl (by kernel_rfl) ?_
  apply opensF_cons (k := (Kd.slice 175 k175)) (ok := (OkL Ok175)) (k' := (Kd.pair (Kd.slice 3 (Kd.int .i64)) (Kd.pair (Kd.slice 177 k177) (Kd.pair (Kd.int .i64) (Kd.slice 3 (Kd.int .i64)))))) (ok' := (fun x => (OkL (OkN .i64)) x.1 ∧ (fun x => (OkL Ok177) x.1 ∧ (fun x => (OkN .i64) x.1 ∧ (OkL (OkN .i64)) x.2) x.2) x.2))
  · rfl
  · rfl
  · exact (opens_slice 175 Try.underlying42 (by kernel_rfl) opens175)
  apply opensF_cons (k := (Kd.slice 3 (Kd.int .i64))) (ok := (OkL (OkN .i64))) (k' := (Kd.pair (Kd.slice 177 k177) (Kd.pair (Kd.int .i64) (Kd.slice 3 (Kd.int .i64))))) (ok' := (fun x => (OkL Ok177) x.1 ∧ (fun x => (OkN .i64) x.1 ∧ (OkL (OkN .i64)) x.2) x.2))
  · rfl
  · rfl
  · exact (opens_slice 3 Try.underlying30 (by kernel_rfl) (opens_int Try.underlying3 (by kernel_rfl)))
  apply opensF_cons (k := (Kd.slice 177 k177)) (ok := (OkL Ok177)) (k' := (Kd.pair (Kd.int .i64) (Kd.slice 3 (Kd.int .i64)))) (ok' := (fun x => (OkN .i64) x.1 ∧ (OkL (OkN .i64)) x.2))
  · rfl
  · rfl
  · exact (opens_slice 177 Try.underlying43 (by kernel_rfl) opens177)
  apply opensF_cons (k := (Kd.int .i64)) (ok := (OkN .i64)) (k' := (Kd.slice 3 (Kd.int .i64))) (ok' := (OkL (OkN .i64)))
  · rfl
  · rfl
  · exact (opens_int Try.underlying3 (by kernel_rfl))
  exact opensF_one (by rfl) (by exact (opens_slice 3 Try.underlying30 (by kernel_rfl) (opens_int Try.underlying3 (by kernel_rfl))))
set_option maxRecDepth 100000 in
theorem vopens105 : Opens Try.prog 105 (Kd.iso (Kd.pair (Kd.int .i64) (Kd.pair (Kd.int .i64) (Kd.pair (Kd.int .i64) (Kd.int .i64)))) id) (fun b => (fun x => (OkN .i64) x.1 ∧ (fun x => (OkN .i64) x.1 ∧ (fun x => (OkN .i64) x.1 ∧ (OkN .i64) x.2) x.2) x.2) (id b)) := by
  refine opens_struct (k := (Kd.pair (Kd.int .i64) (Kd.pair (Kd.int .i64) (Kd.pair (Kd.int .i64) (Kd.int .i64))))) (ok := (fun x => (OkN .i64) x.1 ∧ (fun x => (OkN .i64) x.1 ∧ (fun x => (OkN .i64) x.1 ∧ (OkN .i64) x.2) x.2) x.2)) id (fun a => ⟨a, rfl⟩) Try.underlying105 (l := [_, _, _, _]) rfl (by kernel_rfl) ?_
  apply opensF_cons (k := (Kd.int .i64)) (ok := (OkN .i64)) (k' := (Kd.pair (Kd.int .i64) (Kd.pair (Kd.int .i64) (Kd.int .i64)))) (ok' := (fun x => (OkN .i64) x.1 ∧ (fun x => (OkN .i64) x.1 ∧ (OkN .i64) x.2) x.2))
  · rfl
  · rfl
  · exact (opens_int Try.underlying3 (by kernel_rfl))
  apply opensF_cons (k := (Kd.int .i64)) (ok := (OkN .i64)) (k' := (Kd.pair (Kd.int .i64) (Kd.int .i64))) (ok' := (fun x => (OkN .i64) x.1 ∧ (OkN .i64) x.2))
  · rfl
  · rfl
  · exact (opens_int Try.underlying3 (by kernel_rfl))
  apply opensF_cons (k := (Kd.int .i64)) (ok := (OkN .i64)) (k' := (Kd.int .i64)) (ok' := (OkN .i64))
  · rfl
  · rfl
  · exact (opens_int Try.underlying3 (by kernel_rfl))
  exact opensF_one (by rfl) (by exact (opens_int Try.underlying3 (by kernel_rfl)))
set_option maxRecDepth 100000 in
theorem vopens107 : Opens Try.prog 107 (Kd.iso (Kd.pair (Kd.int .i64) (Kd.pair (Kd.int .i64) (Kd.pair (Kd.int .i64) (Kd.iso (Kd.pair (Kd.int .i64) (Kd.pair (Kd.int .i64) (Kd.pair (Kd.int .i64) (Kd.int .i64)))) id)))) id) (fun b => (fun x => (OkN .i64) x.1 ∧ (fun x => (OkN .i64) x.1 ∧ (fun x => (OkN .i64) x.1 ∧ (fun b => (fun x => (OkN .i64) x.1 ∧ (fun x => (OkN .i64) x.1 ∧ (fun x => (OkN .i64) x.1 ∧ (OkN .i64) x.2) x.2) x.2) (id b)) x.2) x.2) x.2) (id b)) := by
  refine opens_struct (k := (Kd.pair (Kd.int .i64) (Kd.pair (Kd.int .i64) (Kd.pair (Kd.int .i64) (Kd.iso (Kd.pair (Kd.int .i64) (Kd.pair (Kd.int .i64) (Kd.pair (Kd.int .i64) (Kd.int .i64)))) id))))) (ok := (fun x => (OkN .i64) x.1 ∧ (fun x => (OkN .i64) x.1 ∧ (fun x => (OkN .i64) x.1 ∧ (fun b => (fun x => (OkN .i64) x.1 ∧ (fun x => (OkN .i64) x.1 ∧ (fun x => (OkN .i64) x.1 ∧ (OkN .i64) x.2) x.2) x.2) (id b)) x.2) x.2) x.2)) id (fun a => ⟨a, rfl⟩) Try.underlying107 (l := [_, _, _, _]) rfl (by kernel_rfl) ?_
  apply opensF_cons (k := (Kd.int .i64)) (ok := (OkN .i64)) (k' := (Kd.pair (Kd.int .i64) (Kd.pair (Kd.int .i64) (Kd.iso (Kd.pair (Kd.int .i64) (Kd.pair (Kd.int .i64) (Kd.pair (Kd.int .i64) (Kd.int .i64)))) id)))) (ok' := (fun x => (OkN .i64) x.1 ∧ (fun x => (OkN .i64) x.1 ∧ (fun b => (fun x => (OkN .i64) x.1 ∧ (fun x => (OkN .i64) x.1 ∧ (fun x => (OkN .i64) x.1 ∧ (OkN .i64) x.2) x.2) x.2) (id b)) x.2) x.2))
  · rfl
  · rfl
  · exact (opens_int Try.underlying3 (by kernel_rfl))
  apply opensF_cons (k := (Kd.int .i64)) (ok := (OkN .i64)) (k' := (Kd.pair (Kd.int .i64) (Kd.iso (Kd.pair (Kd.int .i64) (Kd.pair (Kd.int .i64) (Kd.pair (Kd.int .i64) (Kd.int .i64)))) id))) (ok' := (fun x => (OkN .i64) x.1 ∧ (fun b => (fun x => (OkN .i64) x.1 ∧ (fun x => (OkN .i64) x.1 ∧ (fun x => (OkN .i64) x.1 ∧ (OkN .i64) x.2) x.2) x.2) (id b)) x.2))
  · rfl
  · rfl
  · exact (opens_int Try.underlying3 (by kernel_rfl))
  apply opensF_cons (k := (Kd.int .i64)) (ok := (OkN .i64)) (k' := (Kd.iso (Kd.pair (Kd.int .i64) (Kd.pair (Kd.int .i64) (Kd.pair (Kd.int .i64) (Kd.int .i64)))) id)) (ok' := (fun b => (fun x => (OkN .i64) x.1 ∧ (fun x => (OkN .i64) x.1 ∧ (fun x => (OkN .i64) x.1 ∧ (OkN .i64) x.2) x.2) x.2) (id b)))
  · rfl
  · rfl
  · exact (opens_int Try.underlying3 (by kernel_rfl))
  exact opensF_one (by rfl) (by exact vopens105)
/-- What is to be proved of lists and numbers alone. -/
def Pure : Prop := ∀ (l0_0 : (List S175)) (l0_1 : (List Int)) (l0_2 : (List S177)) (a0_3 : Int) (l0_4 : (List Int)) (a1_0 : Int) (a1_1 : Int) (a1_2 : Int) (a1_3 : Int) (a1_4 : Int) (a1_5 : Int) (a1_6 : Int), (OkL Ok175) l0_0 → (OkL (OkN .i64)) l0_1 → (OkL Ok177) l0_2 → (OkN .i64) a0_3 → (OkL (OkN .i64)) l0_4 → (OkN .i64) a1_0 → (OkN .i64) a1_1 → (OkN .i64) a1_2 → (OkN .i64) a1_3 → (OkN .i64) a1_4 → (OkN .i64) a1_5 → (OkN .i64) a1_6 → ∃ k, laws_FnExactKept.f k l0_0 l0_1 l0_2 a0_3 l0_4 a1_0 a1_1 a1_2 a1_3 a1_4 a1_5 a1_6 = some true
set_option maxRecDepth 100000 in
theorem lifted (Q : Pure) (os : Os) (started : os.Started) (H : Type) (enc : TypeId × Value → H) :
    ReturnsInHanded {} Try.checked os 12 .any (Rows.fnExactKeptSpec.pre6 enc Try.prog Try.f12 Rows.fnExactKeptRow.domain false) (Rows.fnExactKeptSpec.post enc Try.prog Try.f12 false true false false) := by
  refine returnsInHanded_of_change_sized (C := Try.checked) own started (by kernel_rfl) Try.func12
    (ChangeSpec.witness6 (enc := enc) (C := Try.checked) false ⟨#[], #[.agg #[.slice none 0 0, .slice none 0 0, .slice none 0 0, .int .i64 0, .slice none 0 0], .agg #[.int .i64 0, .int .i64 0, .int .i64 0, .int .i64 0, .int .i64 0, .int .i64 0, .int .i64 0]], []⟩ 8 (by kernel_rfl) (by kernel_rfl) (by kernel_rfl) (by kernel_rfl)) ?_
  intro W base args ds gs before hval0 hW hcnd hsz0 _
  have hsz : (DataW.weightsEach Try.prog (Try.f12.params.toList ++ Rows.fnExactKeptSpec.plain.varTypes Try.prog) (ds ++ gs)).all (· ≤ reachBytes) = true := hsz0
  have hval : ∀ (j : Nat) t v, Try.f12.params[j]? = some t → args[j]? = some v → Value.okWide Try.prog W .any base t v := hval0
  have hW' := hW
  obtain ⟨p, q, hA0, hV, rfl, hfz, hnd⟩ := hW
  have hA : DataW.TrodAll enc Try.prog W 0 (fun _ => true) true Try.f12.params.toList args.toList ds p := hA0
  rw [Try.params12] at hA hval hsz
  obtain ⟨v0, vs0, d0, ds0, p0, q0, hargs, rfl, rfl, h0, r0⟩ := trodAll_cons hA
  obtain ⟨v1, vs1, d1, ds1, p1, q1, rfl, rfl, rfl, h1, r1⟩ := trodAll_cons r0
  obtain ⟨rfl, rfl, rfl⟩ := trodAll_nil r1
  obtain rfl : args = #[v0, v1] := by cases args; simp_all
  obtain ⟨rfl, rfl⟩ := trodVars_none hV
  have k0 := h0
  have lt0 : ∀ x ∈ p0, x.block < W.heap.size := by obtain ⟨m, hm⟩ := k0; exact DataW.trod_lt m _ _ _ hm
  obtain ⟨x0, cs0, rfl, hK0, o0⟩ := arg_struct Try.underlying45 vopens45 (hval 0 45 v0 rfl rfl) h0
  obtain ⟨_, _, rfl, ⟨A1, c1, rfl, hc1, hr1⟩, ⟨_, _, rfl, ⟨A2, c2, rfl, hc2, hr2⟩, ⟨_, _, rfl, ⟨A3, c3, rfl, hc3, hr3⟩, ⟨_, _, rfl, rfl, ⟨A4, c4, rfl, hc4, hr4⟩⟩⟩⟩⟩ := hK0
  have k1 := h1
  have lt1 : ∀ x ∈ p1, x.block < W.heap.size := by obtain ⟨m, hm⟩ := k1; exact DataW.trod_lt m _ _ _ hm
  obtain ⟨x1, cs1, rfl, hK1, o1⟩ := arg_struct Try.underlying107 vopens107 (hval 1 107 v1 rfl rfl) h1
  obtain ⟨_, _, rfl, rfl, ⟨_, _, rfl, rfl, ⟨_, _, rfl, rfl, ⟨_, _, rfl, rfl, ⟨_, _, rfl, rfl, ⟨_, _, rfl, rfl, rfl⟩⟩⟩⟩⟩⟩ := hK1
  clear hA0 hval0 hsz0 hsz
  obtain ⟨k, hk⟩ := Q x0.1 x0.2.1 x0.2.2.1 x0.2.2.2.1 x0.2.2.2.2 x1.1 x1.2.1 x1.2.2.1 x1.2.2.2.1 x1.2.2.2.2.1 x1.2.2.2.2.2.1 x1.2.2.2.2.2.2 o0.1 o0.2.1 o0.2.2.1 o0.2.2.2.1 o0.2.2.2.2 o1.1 o1.2.1 o1.2.2.1 o1.2.2.2.1 o1.2.2.2.2.1 o1.2.2.2.2.2.1 o1.2.2.2.2.2.2
  refine (laws_FnExactKept.calls k _ _ _ _ _ _ _ _ _ _ _ _ _ _ _ _ _ _ _ _ true W hr1 hc1 hr2 hc2 hr3 hc3 hr4 hc4 hk).mono ?_
  rintro e W' ⟨he, bel0⟩
  have bel : Below W.heap.size W W' := bel0
  subst he
  exact ⟨_, rfl, _, _, _, [], _, [], hW', trodAll_mk1 (shut_bool Try.underlying4 _), (trodAll_cons_mk (Below.trod laidOut (by kernel_rfl) (of_decide_eq_true (by kernel_rfl)) k0 bel lt0) (trodAll_cons_mk (Below.trod laidOut (by kernel_rfl) (of_decide_eq_true (by kernel_rfl)) k1 bel lt1) trodAll_mk0)), rfl, bel.frame _, fun h => by cases h⟩
theorem over (Q : Pure) : Rows.fnExactKeptRow.holds Try.pinned (OpenSpec.ofChange Rows.fnExactKeptSpec) :=
  OpenClaim.holds_of_wide 12 Try.f12 rfl rfl rfl rfl rfl rfl rfl ⟨rfl, rfl, rfl, rfl, rfl⟩ rfl rfl rfl rfl rfl (by kernel_rfl) Try.func12 (by kernel_rfl)
    (of_decide_eq_true (by kernel_rfl)) (by unfold Func.isWrapper; first | (rw [if_pos (by decide +kernel)]; kernel_rfl) | (rw [if_neg (by decide +kernel)]; exact ⟨rfl, rfl⟩))
    (fun os started H enc _ => lifted Q os started H enc)
theorem row (Q : Pure) : Rows.FnExactKeptSaid := over Q
end Go.Proofs.Ythdeicbkimlnhaa.AFnExactKept
