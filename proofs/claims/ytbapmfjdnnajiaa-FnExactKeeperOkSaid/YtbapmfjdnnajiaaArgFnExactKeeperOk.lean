/- The given row of laws.FnExactKeeperOk out of a pure statement about lists and numbers: whatever the input. -/
import Derived.Test.YtbapmfjdnnajiaaRows
import Derived.Test.YtbapmfjdnnajiaaPFnExactKeeperOkx2
import Derived.Test.YtbapmfjdnnajiaaA18
import Derived.WalkKit
import Derived.ProofKit
import Derived.OpenShut
import Derived.ShutString
import Derived.ChangeOld
import Derived.Below
import Derived.SizedLaws
namespace Go.Proofs.Ytbapmfjdnnajiaa.AFnExactKeeperOk
open Go.ChangeShapes Go.WideShapes Go.ChangeAt Go.RowKit Go.Proofs.YtbapmfjdnnajiaaA Go.Proofs.Ytbapmfjdnnajiaa.PFnExactKeeperOk
open Go.ChangeMaps (open_string shut_string)
set_option linter.unusedVariables false
theorem own : ownKnob Try.prog.godebug = none := by kernel_rfl
theorem laidOut : laidOutB Try.prog = true := by kernel_rfl
def Ok178 (x : S178) : Prop := (OkN .i64) x.f0 ∧ (OkN .i64) x.f1 ∧ (OkN .i64) x.f2 ∧ (OkN .i64) x.f3
set_option maxRecDepth 100000 in
theorem opens178 : Opens Try.prog 178 (fun b : S178 => (e178 b).leaves) Ok178 :=
  opens_struct (fun x : S178 => (x.f0, x.f1, x.f2, x.f3)) _ (fun _ => rfl) (fun a => ⟨⟨a.1, a.2.1, a.2.2.1, a.2.2.2⟩, rfl⟩) Try.underlying178 (l := [_, _, _, _]) rfl (by kernel_rfl) (opensF_cons (n := 1) rfl (by kernel_rfl) (opens_int Try.underlying3 (by kernel_rfl)) (opensF_cons (n := 1) rfl (by kernel_rfl) (opens_int Try.underlying3 (by kernel_rfl)) (opensF_cons (n := 1) rfl (by kernel_rfl) (opens_int Try.underlying3 (by kernel_rfl)) (opensF_one (n := 1) rfl (by kernel_rfl) (opens_int Try.underlying3 (by kernel_rfl))))))
def Ok180 (x : S180) : Prop := (OkN .i64) x.f0 ∧ (OkN .i64) x.f1 ∧ Ok178 x.f2
set_option maxRecDepth 100000 in
theorem opens180 : Opens Try.prog 180 (fun b : S180 => (e180 b).leaves) Ok180 :=
  opens_struct (fun x : S180 => (x.f0, x.f1, x.f2)) _ (fun _ => rfl) (fun a => ⟨⟨a.1, a.2.1, a.2.2⟩, rfl⟩) Try.underlying180 (l := [_, _, _]) rfl (by kernel_rfl) (opensF_cons (n := 1) rfl (by kernel_rfl) (opens_int Try.underlying3 (by kernel_rfl)) (opensF_cons (n := 1) rfl (by kernel_rfl) (opens_int Try.underlying3 (by kernel_rfl)) (opensF_one (n := 4) rfl (by kernel_rfl) opens178)))
def Ok182 (x : S182) : Prop := (OkN .i64) x.f0 ∧ (OkN .i64) x.f1 ∧ Ok178 x.f2
set_option maxRecDepth 100000 in
theorem opens182 : Opens Try.prog 182 (fun b : S182 => (e182 b).leaves) Ok182 :=
  opens_struct (fun x : S182 => (x.f0, x.f1, x.f2)) _ (fun _ => rfl) (fun a => ⟨⟨a.1, a.2.1, a.2.2⟩, rfl⟩) Try.underlying182 (l := [_, _, _]) rfl (by kernel_rfl) (opensF_cons (n := 1) rfl (by kernel_rfl) (opens_int Try.underlying3 (by kernel_rfl)) (opensF_cons (n := 1) rfl (by kernel_rfl) (opens_int Try.underlying3 (by kernel_rfl)) (opensF_one (n := 4) rfl (by kernel_rfl) opens178)))
def Ok26 (x : S26) : Prop := (OkL Ok180) x.f0 ∧ (OkL (OkN .i64)) x.f1 ∧ (OkL Ok182) x.f2 ∧ (OkN .i64) x.f3 ∧ (OkL (OkN .i64)) x.f4
set_option maxRecDepth 100000 in
theorem opens26 : Opens Try.prog 26 (fun b : S26 => (e26 b).leaves) Ok26 :=
  opens_struct (fun x : S26 => (x.f0, x.f1, x.f2, x.f3, x.f4)) _ (fun _ => rfl) (fun a => ⟨⟨a.1, a.2.1, a.2.2.1, a.2.2.2.1, a.2.2.2.2⟩, rfl⟩) Try.underlying26 (l := [_, _, _, _, _]) rfl (by kernel_rfl) (opensF_cons (n := 1) rfl (by kernel_rfl) (opens_slice (e180) 6 (fun _ => rfl) Try.underlying22 (by kernel_rfl) (by kernel_rfl) rfl opens180) (opensF_cons (n := 1) rfl (by kernel_rfl) (opens_slice (eI .i64) 1 (fun _ => rfl) Try.underlying23 (by kernel_rfl) (by kernel_rfl) rfl (opens_int Try.underlying3 (by kernel_rfl))) (opensF_cons (n := 1) rfl (by kernel_rfl) (opens_slice (e182) 6 (fun _ => rfl) Try.underlying24 (by kernel_rfl) (by kernel_rfl) rfl opens182) (opensF_cons (n := 1) rfl (by kernel_rfl) (opens_int Try.underlying3 (by kernel_rfl)) (opensF_one (n := 1) rfl (by kernel_rfl) (opens_slice (eI .i64) 1 (fun _ => rfl) Try.underlying23 (by kernel_rfl) (by kernel_rfl) rfl (opens_int Try.underlying3 (by kernel_rfl))))))))
/-- What is to be proved of lists and numbers alone. -/
def Pure : Prop := ∀ (l0_0 : List S180) (l0_1 : List Int) (l0_2 : List S182) (a0_3 : Int) (l0_4 : List Int), (OkL Ok180) l0_0 → (OkL (OkN .i64)) l0_1 → (OkL Ok182) l0_2 → (OkN .i64) a0_3 → (OkL (OkN .i64)) l0_4 → ∃ k, laws_FnExactKeeperOk.f k l0_0 l0_1 l0_2 a0_3 l0_4 = some true
set_option maxRecDepth 100000 in
theorem lifted (Q : Pure) (os : Os) (started : os.Started) (H : Type) (enc : TypeId × Value → H) :
    ReturnsInHanded {} Try.checked os 3 .any (Rows.fnExactKeeperOkSpec.pre6 enc Try.prog Try.f3 Rows.fnExactKeeperOkRow.domain false) (Rows.fnExactKeeperOkSpec.post enc Try.prog Try.f3 false true false false) := by
  refine returnsInHanded_of_change_sized (C := Try.checked) own started (by kernel_rfl) Try.func3
    (ChangeSpec.witness6 (enc := enc) (C := Try.checked) false ⟨#[], #[.agg #[.slice none 0 0, .slice none 0 0, .slice none 0 0, .int .i64 0, .slice none 0 0]], []⟩ 8 (by kernel_rfl) (by kernel_rfl) (by kernel_rfl) (by kernel_rfl)) ?_
  intro W base args ds gs before hval0 hW hcnd hsz0 _
  have hsz : (DataW.weightsEach Try.prog (Try.f3.params.toList ++ Rows.fnExactKeeperOkSpec.plain.varTypes Try.prog) (ds ++ gs)).all (· ≤ reachBytes) = true := hsz0
  have hval : ∀ (j : Nat) t v, Try.f3.params[j]? = some t → args[j]? = some v → Value.okWide Try.prog W .any base t v := hval0
  have hW' := hW
  obtain ⟨p, q, hA0, hV, rfl, hfz, hnd⟩ := hW
  have hA : DataW.TrodAll enc Try.prog W 0 (fun _ => true) true Try.f3.params.toList args.toList ds p := hA0
  rw [Try.params3] at hA hval hsz
  obtain ⟨v0, vs0, d0, ds0, p0, q0, hargs, rfl, rfl, h0, r0⟩ := trodAll_cons hA
  obtain ⟨rfl, rfl, rfl⟩ := trodAll_nil r0
  obtain rfl : args = #[v0] := by cases args; simp_all
  obtain ⟨rfl, rfl⟩ := trodVars_none hV
  have k0 := h0
  have lt0 : ∀ x ∈ p0, x.block < W.heap.size := by obtain ⟨m, hm⟩ := k0; exact DataW.trod_lt m _ _ _ hm
  obtain ⟨x0, g0, o0⟩ := arg_struct Try.underlying26 opens26 (hval 0 26 v0 rfl rfl) h0
  clear hA0 hval0 hsz0 hsz
  obtain ⟨k, hk⟩ := Q x0.f0 x0.f1 x0.f2 x0.f3 x0.f4 o0.1 o0.2.1 o0.2.2.1 o0.2.2.2.1 o0.2.2.2.2
  refine (law_calls (laws_FnExactKeeperOk.ok hk) (Fa.cons g0 Fa.nil)).mono ?_
  rintro e W' ⟨he, bel⟩
  subst he
  exact ⟨_, rfl, _, _, _, [], _, [], hW', trodAll_mk1 (shut_bool Try.underlying4 _), (trodAll_cons_mk (Below.trod laidOut (by kernel_rfl) (of_decide_eq_true (by kernel_rfl)) k0 bel lt0) trodAll_mk0), rfl, bel.frame _, fun h => by cases h⟩
theorem over (Q : Pure) : Rows.fnExactKeeperOkRow.holds Try.pinned (OpenSpec.ofChange Rows.fnExactKeeperOkSpec) :=
  OpenClaim.holds_of_wide 3 Try.f3 rfl rfl rfl rfl rfl rfl rfl ⟨rfl, rfl, rfl, rfl, rfl⟩ rfl rfl rfl rfl rfl (by kernel_rfl) Try.func3 (by kernel_rfl)
    (of_decide_eq_true (by kernel_rfl)) (by unfold Func.isWrapper; first | (rw [if_pos (by decide +kernel)]; kernel_rfl) | (rw [if_neg (by decide +kernel)]; exact ⟨rfl, rfl⟩))
    (fun os started H enc _ => lifted Q os started H enc)
theorem row (Q : Pure) : Rows.FnExactKeeperOkSaid := over Q
end Go.Proofs.Ytbapmfjdnnajiaa.AFnExactKeeperOk
