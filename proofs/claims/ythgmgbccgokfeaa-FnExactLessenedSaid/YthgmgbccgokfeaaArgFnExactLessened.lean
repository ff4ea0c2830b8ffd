/- The given row of laws.FnExactLessened out of a pure statement about lists and numbers: whatever the input. -/
import Derived.Test.YthgmgbccgokfeaaRows
import Derived.Test.YthgmgbccgokfeaaPFnExactLessenedx3
import Derived.Test.YthgmgbccgokfeaaA21
import Derived.WalkKit
import Derived.ProofKit
import Derived.OpenShut
import Derived.ShutString
import Derived.ChangeOld
import Derived.Below
import Derived.SizedLaws
namespace Go.Proofs.Ythgmgbccgokfeaa.AFnExactLessened
open Go.ChangeShapes Go.WideShapes Go.ChangeAt Go.RowKit Go.Proofs.YthgmgbccgokfeaaA Go.Proofs.Ythgmgbccgokfeaa.PFnExactLessened
open Go.ChangeMaps (open_string shut_string)
set_option linter.unusedVariables false
theorem own : ownKnob Try.prog.godebug = none := by kernel_rfl
theorem laidOut : laidOutB Try.prog = true := by kernel_rfl
def Ok115 (x : S115) : Prop := (OkN .i64) x.f0 ∧ (OkN .i64) x.f1
set_option maxRecDepth 100000 in
theorem opens115 : Opens Try.prog 115 (fun b : S115 => (e115 b).leaves) Ok115 :=
  opens_struct (fun x : S115 => (x.f0, x.f1)) _ (fun _ => rfl) (fun a => ⟨⟨a.1, a.2⟩, rfl⟩) Try.underlying115 (l := [_, _]) rfl (by kernel_rfl) (opensF_cons (n := 1) rfl (by kernel_rfl) (opens_int Try.underlying3 (by kernel_rfl)) (opensF_one (n := 1) rfl (by kernel_rfl) (opens_int Try.underlying3 (by kernel_rfl))))
def Ok117 (x : S117) : Prop := (OkN .i64) x.f0 ∧ Ok115 x.f1 ∧ (OkN .i64) x.f2 ∧ Ok115 x.f3
set_option maxRecDepth 100000 in
theorem opens117 : Opens Try.prog 117 (fun b : S117 => (e117 b).leaves) Ok117 :=
  opens_struct (fun x : S117 => (x.f0, x.f1, x.f2, x.f3)) _ (fun _ => rfl) (fun a => ⟨⟨a.1, a.2.1, a.2.2.1, a.2.2.2⟩, rfl⟩) Try.underlying117 (l := [_, _, _, _]) rfl (by kernel_rfl) (opensF_cons (n := 1) rfl (by kernel_rfl) (opens_int Try.underlying3 (by kernel_rfl)) (opensF_cons (n := 2) rfl (by kernel_rfl) opens115 (opensF_cons (n := 1) rfl (by kernel_rfl) (opens_int Try.underlying3 (by kernel_rfl)) (opensF_one (n := 2) rfl (by kernel_rfl) opens115))))
def Ok86 (x : S86) : Prop := (OkL (OkN .i64)) x.f0 ∧ (OkL Ok117) x.f1 ∧ (OkN .i64) x.f2 ∧ (OkN .i64) x.f3
set_option maxRecDepth 100000 in
theorem opens86 : Opens Try.prog 86 (fun b : S86 => (e86 b).leaves) Ok86 :=
  opens_struct (fun x : S86 => (x.f0, x.f1, x.f2, x.f3)) _ (fun _ => rfl) (fun a => ⟨⟨a.1, a.2.1, a.2.2.1, a.2.2.2⟩, rfl⟩) Try.underlying86 (l := [_, _, _, _]) rfl (by kernel_rfl) (opensF_cons (n := 1) rfl (by kernel_rfl) (opens_slice (eI .i64) 1 (fun _ => rfl) Try.underlying26 (by kernel_rfl) (by kernel_rfl) rfl (opens_int Try.underlying3 (by kernel_rfl))) (opensF_cons (n := 1) rfl (by kernel_rfl) (opens_slice (e117) 6 (fun _ => rfl) Try.underlying84 (by kernel_rfl) (by kernel_rfl) rfl opens117) (opensF_cons (n := 1) rfl (by kernel_rfl) (opens_int Try.underlying3 (by kernel_rfl)) (opensF_one (n := 1) rfl (by kernel_rfl) (opens_int Try.underlying3 (by kernel_rfl))))))
def Ok24 (x : S24) : Prop := (OkN .i64) x.f0 ∧ (OkN .i64) x.f1 ∧ (OkN .i64) x.f2 ∧ (OkL Ok86) x.f3
set_option maxRecDepth 100000 in
theorem opens24 : Opens Try.prog 24 (fun b : S24 => (e24 b).leaves) Ok24 :=
  opens_struct (fun x : S24 => (x.f0, x.f1, x.f2, x.f3)) _ (fun _ => rfl) (fun a => ⟨⟨a.1, a.2.1, a.2.2.1, a.2.2.2⟩, rfl⟩) Try.underlying24 (l := [_, _, _, _]) rfl (by kernel_rfl) (opensF_cons (n := 1) rfl (by kernel_rfl) (opens_int Try.underlying3 (by kernel_rfl)) (opensF_cons (n := 1) rfl (by kernel_rfl) (opens_int Try.underlying3 (by kernel_rfl)) (opensF_cons (n := 1) rfl (by kernel_rfl) (opens_int Try.underlying3 (by kernel_rfl)) (opensF_one (n := 1) rfl (by kernel_rfl) (opens_slice (e86) 4 (fun _ => rfl) Try.underlying22 (by kernel_rfl) (by kernel_rfl) rfl opens86)))))
/-- What is to be proved of lists and numbers alone. -/
def Pure : Prop := ∀ (a0_0 : Int) (a0_1 : Int) (a0_2 : Int) (l0_3 : List S86), (OkN .i64) a0_0 → (OkN .i64) a0_1 → (OkN .i64) a0_2 → (OkL Ok86) l0_3 → ∃ k, laws_FnExactLessened.f k a0_0 a0_1 a0_2 l0_3 = some true
set_option maxRecDepth 100000 in
theorem lifted (Q : Pure) (os : Os) (started : os.Started) (H : Type) (enc : TypeId × Value → H) :
    ReturnsInHanded {} Try.checked os 6 .any (Rows.fnExactLessenedSpec.pre6 enc Try.prog Try.f6 Rows.fnExactLessenedRow.domain false) (Rows.fnExactLessenedSpec.post enc Try.prog Try.f6 false true false false) := by
  refine returnsInHanded_of_change_sized (C := Try.checked) own started (by kernel_rfl) Try.func6
    (ChangeSpec.witness6 (enc := enc) (C := Try.checked) false ⟨#[], #[.agg #[.int .i64 0, .int .i64 0, .int .i64 0, .slice none 0 0]], []⟩ 8 (by kernel_rfl) (by kernel_rfl) (by kernel_rfl) (by kernel_rfl)) ?_
  intro W base args ds gs before hval0 hW hcnd hsz0 _
  have hsz : (DataW.weightsEach Try.prog (Try.f6.params.toList ++ Rows.fnExactLessenedSpec.plain.varTypes Try.prog) (ds ++ gs)).all (· ≤ reachBytes) = true := hsz0
  have hval : ∀ (j : Nat) t v, Try.f6.params[j]? = some t → args[j]? = some v → Value.okWide Try.prog W .any base t v := hval0
  have hW' := hW
  obtain ⟨p, q, hA0, hV, rfl, hfz, hnd⟩ := hW
  have hA : DataW.TrodAll enc Try.prog W 0 (fun _ => true) true Try.f6.params.toList args.toList ds p := hA0
  rw [Try.params6] at hA hval hsz
  obtain ⟨v0, vs0, d0, ds0, p0, q0, hargs, rfl, rfl, h0, r0⟩ := trodAll_cons hA
  obtain ⟨rfl, rfl, rfl⟩ := trodAll_nil r0
  obtain rfl : args = #[v0] := by cases args; simp_all
  obtain ⟨rfl, rfl⟩ := trodVars_none hV
  have k0 := h0
  have lt0 : ∀ x ∈ p0, x.block < W.heap.size := by obtain ⟨m, hm⟩ := k0; exact DataW.trod_lt m _ _ _ hm
  obtain ⟨x0, g0, o0⟩ := arg_struct Try.underlying24 opens24 (hval 0 24 v0 rfl rfl) h0
  clear hA0 hval0 hsz0 hsz
  obtain ⟨k, hk⟩ := Q x0.f0 x0.f1 x0.f2 x0.f3 o0.1 o0.2.1 o0.2.2.1 o0.2.2.2
  refine (law_calls (laws_FnExactLessened.ok hk) (Fa.cons g0 Fa.nil)).mono ?_
  rintro e W' ⟨he, bel⟩
  subst he
  exact ⟨_, rfl, _, _, _, [], _, [], hW', trodAll_mk1 (shut_bool Try.underlying4 _), (trodAll_cons_mk (Below.trod laidOut (by kernel_rfl) (of_decide_eq_true (by kernel_rfl)) k0 bel lt0) trodAll_mk0), rfl, bel.frame _, fun h => by cases h⟩
theorem over (Q : Pure) : Rows.fnExactLessenedRow.holds Try.pinned (OpenSpec.ofChange Rows.fnExactLessenedSpec) :=
  OpenClaim.holds_of_wide 6 Try.f6 rfl rfl rfl rfl rfl rfl rfl ⟨rfl, rfl, rfl, rfl, rfl⟩ rfl rfl rfl rfl rfl (by kernel_rfl) Try.func6 (by kernel_rfl)
    (of_decide_eq_true (by kernel_rfl)) (by unfold Func.isWrapper; first | (rw [if_pos (by decide +kernel)]; kernel_rfl) | (rw [if_neg (by decide +kernel)]; exact ⟨rfl, rfl⟩))
    (fun os started H enc _ => lifted Q os started H enc)
theorem row (Q : Pure) : Rows.FnExactLessenedSaid := over Q
end Go.Proofs.Ythgmgbccgokfeaa.AFnExactLessened
