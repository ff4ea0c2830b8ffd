/- The given row of laws.FnExactFits out of a pure statement about lists and numbers: whatever the input. -/
import Derived.Test.YtkbabldehmgmaaaRows
import Derived.Test.YtkbabldehmgmaaaPFnExactFitsx4
import Derived.Test.YtkbabldehmgmaaaOpen
import Derived.WalkKit
import Derived.ProofKit
import Derived.OpenShut
import Derived.ShutString
import Derived.ChangeOld
import Derived.Below
import Derived.SizedLaws
namespace Go.Proofs.Ytkbabldehmgmaaa.AFnExactFits
open Go.ChangeShapes Go.WideShapes Go.ChangeAt Go.RowKit Go.Proofs.YtkbabldehmgmaaaW.PrintWords Go.Proofs.YtkbabldehmgmaaaO Go.Proofs.Ytkbabldehmgmaaa.PFnExactFits
open Go.ChangeMaps (open_string shut_string)
set_option linter.unusedVariables false
theorem own : ownKnob Try.prog.godebug = none := by kernel_rfl
theorem laidOut : laidOutB Try.prog = true := by kernel_rfl
def Ok43 (x : S43) : Prop := (OkN .i64) x.f0 ∧ (OkN .i64) x.f1 ∧ (OkN .i64) x.f2 ∧ (OkN .i64) x.f3
set_option maxRecDepth 100000 in
theorem opens43 : Opens Try.prog 43 k43 Ok43 := by
  refine opens_struct (k := (Kd.pair (Kd.int .i64) (Kd.pair (Kd.int .i64) (Kd.pair (Kd.int .i64) (Kd.int .i64))))) (ok := (fun x => (OkN .i64) x.1 ∧ (fun x => (OkN .i64) x.1 ∧ (fun x => (OkN .i64) x.1 ∧ (OkN .i64) x.2) x.2) x.2)) (fun x : S43 => (x.f0, x.f1, x.f2, x.f3)) (fun a => ⟨⟨a.1, a.2.1, a.2.2.1, a.2.2.2⟩, rfl⟩) Try.underlying43 (l := [_, _, _, _]) rfl (by kernel_rfl) ?_
  apply opensF_cons (k := (Kd.int .i64)) (ok := (OkN .i64)) (k' := (Kd.pair (Kd.int .i64) (Kd.pair (Kd.int .i64) (Kd.int .i64)))) (ok' := (fun x => (OkN .i64) x.1 ∧ (fun x => (OkN .i64) x.1 ∧ (OkN .i64) x.2) x.2))
  · rfl
  · rfl
  · exact (opens_int Try.underlying3 (by kernel_rfl))
  apply opensF_cons (k := (Kd.int .i64)) (ok := (OkN .i64)) (k' := (Kd.pair (Kd.int .i64) (Kd.int .i64))) (ok' := (fun x => (OkN .i64) x.1 ∧ (OkN .i64) x.2))
  · rfl
  · rfl
  · exact (opens_int Try.underlying3 (by kernel_rfl))
  apply opensF_cons (k := (Kd.int .i64)) (ok := (OkN .i64)) (k' := (Kd.int .i64)) (ok' := (OkN .i64))
  · rfl
  · rfl
  · exact (opens_int Try.underlying3 (by kernel_rfl))
  exact opensF_one (by rfl) (by exact (opens_int Try.underlying3 (by kernel_rfl)))
def Ok137 (x : S137) : Prop := (OkN .i64) x.f0 ∧ (OkN .i64) x.f1 ∧ (OkN .i64) x.f2 ∧ OkT x.f3
set_option maxRecDepth 100000 in
theorem opens137 : Opens Try.prog 137 k137 Ok137 := by
  refine opens_struct (k := (Kd.pair (Kd.int .i64) (Kd.pair (Kd.int .i64) (Kd.pair (Kd.int .i64) Kd.bool)))) (ok := (fun x => (OkN .i64) x.1 ∧ (fun x => (OkN .i64) x.1 ∧ (fun x => (OkN .i64) x.1 ∧ OkT x.2) x.2) x.2)) (fun x : S137 => (x.f0, x.f1, x.f2, x.f3)) (fun a => ⟨⟨a.1, a.2.1, a.2.2.1, a.2.2.2⟩, rfl⟩) Try.underlying137 (l := [_, _, _, _]) rfl (by kernel_rfl) ?_
  apply opensF_cons (k := (Kd.int .i64)) (ok := (OkN .i64)) (k' := (Kd.pair (Kd.int .i64) (Kd.pair (Kd.int .i64) Kd.bool))) (ok' := (fun x => (OkN .i64) x.1 ∧ (fun x => (OkN .i64) x.1 ∧ OkT x.2) x.2))
  · rfl
  · rfl
  · exact (opens_int Try.underlying3 (by kernel_rfl))
  apply opensF_cons (k := (Kd.int .i64)) (ok := (OkN .i64)) (k' := (Kd.pair (Kd.int .i64) Kd.bool)) (ok' := (fun x => (OkN .i64) x.1 ∧ OkT x.2))
  · rfl
  · rfl
  · exact (opens_int Try.underlying3 (by kernel_rfl))
  apply opensF_cons (k := (Kd.int .i64)) (ok := (OkN .i64)) (k' := Kd.bool) (ok' := OkT)
  · rfl
  · rfl
  · exact (opens_int Try.underlying3 (by kernel_rfl))
  exact opensF_one (by rfl) (by exact (opens_bool Try.underlying4 (by kernel_rfl)))
/-- What is to be proved of lists and numbers alone. -/
def Pure : Prop := ∀ (l0 : (List S43)) (l1 : (List S137)), (OkL Ok43) l0 → (OkL Ok137) l1 → ∃ k, laws_FnExactFits.f k l0 l1 = some true
set_option maxRecDepth 100000 in
theorem lifted (Q : Pure) (os : Os) (started : os.Started) (H : Type) (enc : TypeId × Value → H) :
    ReturnsInHanded {} Try.checked os 9 .any (Rows.fnExactFitsSpec.pre6 enc Try.prog Try.f9 Rows.fnExactFitsRow.domain false) (Rows.fnExactFitsSpec.post enc Try.prog Try.f9 false true false false) := by
  refine returnsInHanded_of_change_sized (C := Try.checked) own started (by kernel_rfl) Try.func9
    (ChangeSpec.witness6 (enc := enc) (C := Try.checked) false ⟨#[], #[.slice none 0 0, .slice none 0 0], []⟩ 8 (by kernel_rfl) (by kernel_rfl) (by kernel_rfl) (by kernel_rfl)) ?_
  intro W base args ds gs before hval0 hW hcnd hsz0 _
  have hsz : (DataW.weightsEach Try.prog (Try.f9.params.toList ++ Rows.fnExactFitsSpec.plain.varTypes Try.prog) (ds ++ gs)).all (· ≤ reachBytes) = true := hsz0
  have hval : ∀ (j : Nat) t v, Try.f9.params[j]? = some t → args[j]? = some v → Value.okWide Try.prog W .any base t v := hval0
  have hW' := hW
  obtain ⟨p, q, hA0, hV, rfl, hfz, hnd⟩ := hW
  have hA : DataW.TrodAll enc Try.prog W 0 (fun _ => true) true Try.f9.params.toList args.toList ds p := hA0
  rw [Try.params9] at hA hval hsz
  obtain ⟨v0, vs0, d0, ds0, p0, q0, hargs, rfl, rfl, h0, r0⟩ := trodAll_cons hA
  obtain ⟨v1, vs1, d1, ds1, p1, q1, rfl, rfl, rfl, h1, r1⟩ := trodAll_cons r0
  obtain ⟨rfl, rfl, rfl⟩ := trodAll_nil r1
  obtain rfl : args = #[v0, v1] := by cases args; simp_all
  obtain ⟨rfl, rfl⟩ := trodVars_none hV
  have k0 := h0
  have lt0 : ∀ x ∈ p0, x.block < W.heap.size := by obtain ⟨m, hm⟩ := k0; exact DataW.trod_lt m _ _ _ hm
  obtain ⟨A1, z0, c1, rfl, hc1, hr1, o0⟩ := arg_slice Try.underlying29 (by kernel_rfl) opens43 (hval 0 29 v0 rfl rfl) h0
  have k1 := h1
  have lt1 : ∀ x ∈ p1, x.block < W.heap.size := by obtain ⟨m, hm⟩ := k1; exact DataW.trod_lt m _ _ _ hm
  obtain ⟨A2, z1, c2, rfl, hc2, hr2, o1⟩ := arg_slice Try.underlying81 (by kernel_rfl) opens137 (hval 1 81 v1 rfl rfl) h1
  clear hA0 hval0 hsz0 hsz
  obtain ⟨k, hk⟩ := Q z0 z1 o0 o1
  refine (laws_FnExactFits.calls k _ _ _ _ _ _ true W hr1 hc1 hr2 hc2 hk).mono ?_
  rintro e W' ⟨he, bel0⟩
  have bel : Below W.heap.size W W' := bel0
  subst he
  exact ⟨_, rfl, _, _, _, [], _, [], hW', trodAll_mk1 (shut_bool Try.underlying4 _), (trodAll_cons_mk (Below.trod laidOut (by kernel_rfl) (of_decide_eq_true (by kernel_rfl)) k0 bel lt0) (trodAll_cons_mk (Below.trod laidOut (by kernel_rfl) (of_decide_eq_true (by kernel_rfl)) k1 bel lt1) trodAll_mk0)), rfl, bel.frame _, fun h => by cases h⟩
theorem over (Q : Pure) : Rows.fnExactFitsRow.holds Try.pinned (OpenSpec.ofChange Rows.fnExactFitsSpec) :=
  OpenClaim.holds_of_wide 9 Try.f9 rfl rfl rfl rfl rfl rfl rfl ⟨rfl, rfl, rfl, rfl, rfl⟩ rfl rfl rfl rfl rfl (by kernel_rfl) Try.func9 (by kernel_rfl)
    (of_decide_eq_true (by kernel_rfl)) (by unfold Func.isWrapper; first | (rw [if_pos (by decide +kernel)]; kernel_rfl) | (rw [if_neg (by decide +kernel)]; exact ⟨rfl, rfl⟩))
    (fun os started H enc _ => lifted Q os started H enc)
theorem row (Q : Pure) : Rows.FnExactFitsSaid := over Q
end Go.Proofs.Ytkbabldehmgmaaa.AFnExactFits
