/- The given row of laws.FnExactOnlyFor out of a pure statement about lists and numbers: whatever the input. -/
import Derived.Test.YthgmgbccgokfeaaRows
import Derived.Test.YthgmgbccgokfeaaPFnExactOnlyForx2
import Derived.Test.YthgmgbccgokfeaaA21
import Derived.WalkKit
import Derived.ProofKit
import Derived.OpenShut
import Derived.ShutString
import Derived.ChangeOld
import Derived.Below
import Derived.SizedLaws
namespace Go.Proofs.Ythgmgbccgokfeaa.AFnExactOnlyFor
open Go.ChangeShapes Go.WideShapes Go.ChangeAt Go.RowKit Go.Proofs.YthgmgbccgokfeaaA Go.Proofs.Ythgmgbccgokfeaa.PFnExactOnlyFor
open Go.ChangeMaps (open_string shut_string)
set_option linter.unusedVariables false
theorem own : ownKnob Try.prog.godebug = none := by kernel_rfl
theorem laidOut : laidOutB Try.prog = true := by kernel_rfl
def Ok115 (x : S115) : Prop := (OkN .i64) x.f0 ∧ (OkN .i64) x.f1
set_option maxRecDepth 100000 in
theorem opens115 : Opens Try.prog 115 (fun b : S115 => (e115 b).leaves) Ok115 :=
  opens_struct (fun x : S115 => (x.f0, x.f1)) _ (fun _ => rfl) (fun a => ⟨⟨a.1, a.2⟩, rfl⟩) Try.underlying115 (l := [_, _]) rfl (by kernel_rfl) (opensF_cons (n := 1) rfl (by kernel_rfl) (opens_int Try.underlying3 (by kernel_rfl)) (opensF_one (n := 1) rfl (by kernel_rfl) (opens_int Try.underlying3 (by kernel_rfl))))
def Ok117 (x : S117) : Prop := (OkN .i64) x.f0 ∧ Ok115 x.f1 ∧ (OkN .i64) x.f2 ∧ Ok115 x.f3
set_option maxRecDepth 100000 in
theorem opens117 : Opens Try.prog 117 (fun b : S117 => (e117 b).leaves) Ok117 :=
  opens_struct (fun x : S117 => (x.f0, x.f1, x.f2, x.f3)) _ (fun _ => rfl) (fun a => ⟨⟨a.1, a.2.1, a.2.2.1, a.2.2.2⟩, rfl⟩) Try.underlying117 (l := [_, _, _, _]) rfl (by kernel_rfl) (opensF_cons (n := 1) rfl (by kernel_rfl) (opens_int Try.underlying3 (by kernel_rfl)) (opensF_cons (n := 2) rfl (by kernel_rfl) opens115 (opensF_cons (n := 1) rfl (by kernel_rfl) (opens_int Try.underlying3 (by kernel_rfl)) (opensF_one (n := 2) rfl (by kernel_rfl) opens115))))
def Ok86 (x : S86) : Prop := (OkL (OkN .i64)) x.f0 ∧ (OkL Ok117) x.f1 ∧ (OkN .i64) x.f2 ∧ (OkN .i64) x.f3
set_option maxRecDepth 100000 in
theorem opens86 : Opens Try.prog 86 (fun b : S86 => (e86 b).leaves) Ok86 :=
  opens_struct (fun x : S86 => (x.f0, x.f1, x.f2, x.f3)) _ (fun _ => rfl) (fun a => ⟨⟨a.1, a.2.1, a.2.2.1, a.2.2.2⟩, rfl⟩) Try.underlying86 (l := [_, _, _, _]) rfl (by kernel_rfl) (opensF_cons (n := 1) rfl (by kernel_rfl) (opens_slice (eI .i64) 1 (fun _ => rfl) Try.underlying26 (by kernel_rfl) (by kernel_rfl) rfl (opens_int Try.underlying3 (by kernel_rfl))) (opensF_cons (n := 1) rfl (by kernel_rfl) (opens_slice (e117) 6 (fun _ => rfl) Try.underlying84 (by kernel_rfl) (by kernel_rfl) rfl opens117) (opensF_cons (n := 1) rfl (by kernel_rfl) (opens_int Try.underlying3 (by kernel_rfl)) (opensF_one (n := 1) rfl (by kernel_rfl) (opens_int Try.underlying3 (by kernel_rfl))))))
def Ok24 (x : S24) : Prop := (OkN .i64) x.f0 ∧ (OkN .i64) x.f1 ∧ (OkN .i64) x.f2 ∧ (OkL Ok86) x.f3
set_option maxRecDepth 100000 in
theorem opens24 : Opens Try.prog 24 (fun b : S24 => (e24 b).leaves) Ok24 :=
  opens_struct (fun x : S24 => (x.f0, x.f1, x.f2, x.f3)) _ (fun _ => rfl) (fun a => ⟨⟨a.1, a.2.1, a.2.2.1, a.2.2.2⟩, rfl⟩) Try.underlying24 (l := [_, _, _, _]) rfl (by kernel_rfl) (opensF_cons (n := 1) rfl (by kernel_rfl) (opens_int Try.underlying3 (by kernel_rfl)) (opensF_cons (n := 1) rfl (by kernel_rfl) (opens_int Try.underlying3 (by kernel_rfl)) (opensF_cons (n := 1) rfl (by kernel_rfl) (opens_int Try.underlying3 (by kernel_rfl)) (opensF_one (n := 1) rfl (by kernel_rfl) (opens_slice (e86) 4 (fun _ => rfl) Try.underlying22 (by kernel_rfl) (by kernel_rfl) rfl opens86)))))
/-- What is to be proved of lists and numbers alone. -/
def Pure : Prop := ∀ (a0_0 : Int) (a0_1 : Int) (a0_2 : Int) (l0_3 : List S86) (a1 : Int), (OkN .i64) a0_0 → (OkN .i64) a0_1 → (OkN .i64) a0_2 → (OkL Ok86) l0_3 → (OkN .i64) a1 → ∃ k, laws_FnExactOnlyFor.f k a0_0 a0_1 a0_2 l0_3 a1 = some true
set_option maxRecDepth 100000 in
theorem lifted (Q : Pure) (os : Os) (started : os.Started) (H : Type) (enc : TypeId × Value → H) :
    ReturnsInHanded {} Try.checked os 4 .any (Rows.fnExactOnlyForSpec.pre6 enc Try.prog Try.f4 Rows.fnExactOnlyForRow.domain false) (Rows.fnExactOnlyForSpec.post enc Try.prog Try.f4 false true false false) := by
  refine returnsInHanded_of_change_sized (C := Try.checked) own started (by kernel_rfl) Try.func4
    (ChangeSpec.witness6 (enc := enc) (C := Try.checked) false ⟨#[], #[.agg #[.int .i64 0, .int .i64 0, .int .i64 0, .slice none 0 0], .int .i64 0], []⟩ 8 (by kernel_rfl) (by kernel_rfl) (by kernel_rfl) (by kernel_rfl)) ?_
  intro W base args ds gs before hval0 hW hcnd hsz0 _
  have hsz : (DataW.weightsEach Try.prog (Try.f4.params.toList ++ Rows.fnExactOnlyForSpec.plain.varTypes Try.prog) (ds ++ gs)).all (· ≤ reachBytes) = true := hsz0
  have hval : ∀ (j : Nat) t v, Try.f4.params[j]? = some t → args[j]? = some v → Value.okWide Try.prog W .any base t v := hval0
  have hW' := hW
  obtain ⟨p, q, hA0, hV, rfl, hfz, hnd⟩ := hW
  have hA : DataW.TrodAll enc Try.prog W 0 (fun _ => true) true Try.f4.params.toList args.toList ds p := hA0
  rw [Try.params4] at hA hval hsz
  obtain ⟨v0, vs0, d0, ds0, p0, q0, hargs, rfl, rfl, h0, r0⟩ := trodAll_cons hA
  obtain ⟨v1, vs1, d1, ds1, p1, q1, rfl, rfl, rfl, h1, r1⟩ := trodAll_cons r0
  obtain ⟨rfl, rfl, rfl⟩ := trodAll_nil r1
  obtain rfl : args = #[v0, v1] := by cases args; simp_all
  obtain ⟨rfl, rfl⟩ := trodVars_none hV
  have k0 := h0
  have lt0 : ∀ x ∈ p0, x.block < W.heap.size := by obtain ⟨m, hm⟩ := k0; exact DataW.trod_lt m _ _ _ hm
  obtain ⟨x0, g0, o0⟩ := arg_struct Try.underlying24 opens24 (hval 0 24 v0 rfl rfl) h0
  have k1 := h1
  have lt1 : ∀ x ∈ p1, x.block < W.heap.size := by obtain ⟨m, hm⟩ := k1; exact DataW.trod_lt m _ _ _ hm
  obtain ⟨z1, rfl, rfl, rfl, o1⟩ := open_int Try.underlying3 (hval 1 3 v1 rfl rfl) h1
  clear hA0 hval0 hsz0 hsz
  obtain ⟨k, hk⟩ := Q x0.f0 x0.f1 x0.f2 x0.f3 z1 o0.1 o0.2.1 o0.2.2.1 o0.2.2.2 o1
  refine (law_calls (laws_FnExactOnlyFor.ok hk) (Fa.cons g0 (Fa.cons hasA_int Fa.nil))).mono ?_
  rintro e W' ⟨he, bel⟩
  subst he
  exact ⟨_, rfl, _, _, _, [], _, [], hW', trodAll_mk1 (shut_bool Try.underlying4 _), (trodAll_cons_mk (Below.trod laidOut (by kernel_rfl) (of_decide_eq_true (by kernel_rfl)) k0 bel lt0) (trodAll_cons_mk (Below.trod laidOut (by kernel_rfl) (of_decide_eq_true (by kernel_rfl)) k1 bel lt1) trodAll_mk0)), rfl, bel.frame _, fun h => by cases h⟩
theorem over (Q : Pure) : Rows.fnExactOnlyForRow.holds Try.pinned (OpenSpec.ofChange Rows.fnExactOnlyForSpec) :=
  OpenClaim.holds_of_wide 4 Try.f4 rfl rfl rfl rfl rfl rfl rfl ⟨rfl, rfl, rfl, rfl, rfl⟩ rfl rfl rfl rfl rfl (by kernel_rfl) Try.func4 (by kernel_rfl)
    (of_decide_eq_true (by kernel_rfl)) (by unfold Func.isWrapper; first | (rw [if_pos (by decide +kernel)]; kernel_rfl) | (rw [if_neg (by decide +kernel)]; exact ⟨rfl, rfl⟩))
    (fun os started H enc _ => lifted Q os started H enc)
theorem row (Q : Pure) : Rows.FnExactOnlyForSaid := over Q
end Go.Proofs.Ythgmgbccgokfeaa.AFnExactOnlyFor
