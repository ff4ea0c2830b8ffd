/- The given row of laws.FnExactEntryText out of a pure statement about lists and numbers: whatever the input. -/
import Derived.Test.YtkbabldehmgmaaaRows
import Derived.Test.YtkbabldehmgmaaaPFnExactEntryTextx5
import Derived.Test.YtkbabldehmgmaaaOpen
import Derived.WalkKit
import Derived.ProofKit
import Derived.OpenShut
import Derived.ShutString
import Derived.ChangeOld
import Derived.Below
import Derived.SizedLaws
namespace Go.Proofs.Ytkbabldehmgmaaa.AFnExactEntryText
open Go.ChangeShapes Go.WideShapes Go.ChangeAt Go.RowKit Go.Proofs.YtkbabldehmgmaaaW.PrintWords Go.Proofs.YtkbabldehmgmaaaO Go.Proofs.Ytkbabldehmgmaaa.PFnExactEntryText
open Go.ChangeMaps (open_string shut_string)
set_option linter.unusedVariables false
theorem own : ownKnob Try.prog.godebug = none := by kernel_rfl
theorem laidOut : laidOutB Try.prog = true := by kernel_rfl
set_option maxRecDepth 100000 in
theorem vopens43 : Opens Try.prog 43 (Kd.iso (Kd.pair (Kd.int .i64) (Kd.pair (Kd.int .i64) (Kd.pair (Kd.int .i64) (Kd.int .i64)))) id) (fun b => (fun x => (OkN .i64) x.1 ∧ (fun x => (OkN .i64) x.1 ∧ (fun x => (OkN .i64) x.1 ∧ (OkN .i64) x.2) x.2) x.2) (id b)) := by
  refine opens_struct (k := (Kd.pair (Kd.int .i64) (Kd.pair (Kd.int .i64) (Kd.pair (Kd.int .i64) (Kd.int .i64))))) (ok := (fun x => (OkN .i64) x.1 ∧ (fun x => (OkN .i64) x.1 ∧ (fun x => (OkN .i64) x.1 ∧ (OkN .i64) x.2) x.2) x.2)) id (fun a => ⟨a, rfl⟩) Try.underlying43 (l := [_, _, _, _]) rfl (by kernel_rfl) ?_
  apply opensF_cons (k := (Kd.int .i64)) (ok := (OkN .i64)) (k' := (Kd.pair (Kd.int .i64) (Kd.pair (Kd.int .i64) (Kd.int .i64)))) (ok' := (fun x => (OkN .i64) x.1 ∧ (fun x => (OkN .i64) x.1 ∧ (OkN .i64) x.2) x.2))
  · rfl
  · rfl
  · exact (opens_int Try.underlying3 (by kernel_rfl))
  apply opensF_cons (k := (Kd.int .i64)) (ok := (OkN .i64)) (k' := (Kd.pair (Kd.int .i64) (Kd.int .i64))) (ok' := (fun x => (OkN .i64) x.1 ∧ (OkN .i64) x.2))
  · rfl
  · rfl
  · exact (opens_int Try.underlying3 (by kernel_rfl))
  apply opensF_cons (k := (Kd.int .i64)) (ok := (OkN .i64)) (k' := (Kd.int .i64)) (ok' := (OkN .i64))
  · rfl
  · rfl
  · exact (opens_int Try.underlying3 (by kernel_rfl))
  exact opensF_one (by rfl) (by exact (opens_int Try.underlying3 (by kernel_rfl)))
set_option maxRecDepth 100000 in
theorem vopens45 : Opens Try.prog 45 (Kd.iso (Kd.pair (Kd.int .i64) (Kd.pair (Kd.int .i64) (Kd.iso (Kd.pair (Kd.int .i64) (Kd.pair (Kd.int .i64) (Kd.pair (Kd.int .i64) (Kd.int .i64)))) id))) id) (fun b => (fun x => (OkN .i64) x.1 ∧ (fun x => (OkN .i64) x.1 ∧ (fun b => (fun x => (OkN .i64) x.1 ∧ (fun x => (OkN .i64) x.1 ∧ (fun x => (OkN .i64) x.1 ∧ (OkN .i64) x.2) x.2) x.2) (id b)) x.2) x.2) (id b)) := by
  refine opens_struct (k := (Kd.pair (Kd.int .i64) (Kd.pair (Kd.int .i64) (Kd.iso (Kd.pair (Kd.int .i64) (Kd.pair (Kd.int .i64) (Kd.pair (Kd.int .i64) (Kd.int .i64)))) id)))) (ok := (fun x => (OkN .i64) x.1 ∧ (fun x => (OkN .i64) x.1 ∧ (fun b => (fun x => (OkN .i64) x.1 ∧ (fun x => (OkN .i64) x.1 ∧ (fun x => (OkN .i64) x.1 ∧ (OkN .i64) x.2) x.2) x.2) (id b)) x.2) x.2)) id (fun a => ⟨a, rfl⟩) Try.underlying45 (l := [_, _, _]) rfl (by kernel_rfl) ?_
  apply opensF_cons (k := (Kd.int .i64)) (ok := (OkN .i64)) (k' := (Kd.pair (Kd.int .i64) (Kd.iso (Kd.pair (Kd.int .i64) (Kd.pair (Kd.int .i64) (Kd.pair (Kd.int .i64) (Kd.int .i64)))) id))) (ok' := (fun x => (OkN .i64) x.1 ∧ (fun b => (fun x => (OkN .i64) x.1 ∧ (fun x => (OkN .i64) x.1 ∧ (fun x => (OkN .i64) x.1 ∧ (OkN .i64) x.2) x.2) x.2) (id b)) x.2))
  · rfl
  · rfl
  · exact (opens_int Try.underlying3 (by kernel_rfl))
  apply opensF_cons (k := (Kd.int .i64)) (ok := (OkN .i64)) (k' := (Kd.iso (Kd.pair (Kd.int .i64) (Kd.pair (Kd.int .i64) (Kd.pair (Kd.int .i64) (Kd.int .i64)))) id)) (ok' := (fun b => (fun x => (OkN .i64) x.1 ∧ (fun x => (OkN .i64) x.1 ∧ (fun x => (OkN .i64) x.1 ∧ (OkN .i64) x.2) x.2) x.2) (id b)))
  · rfl
  · rfl
  · exact (opens_int Try.underlying3 (by kernel_rfl))
  exact opensF_one (by rfl) (by exact vopens43)
/-- What is to be proved of lists and numbers alone. -/
def Pure : Prop := ∀ (a0_0 : Int) (a0_1 : Int) (a0_2 : Int) (a0_3 : Int) (a0_4 : Int) (a0_5 : Int), (OkN .i64) a0_0 → (OkN .i64) a0_1 → (OkN .i64) a0_2 → (OkN .i64) a0_3 → (OkN .i64) a0_4 → (OkN .i64) a0_5 → ∃ k, laws_FnExactEntryText.f k a0_0 a0_1 a0_2 a0_3 a0_4 a0_5 = some true
set_option maxRecDepth 100000 in
theorem lifted (Q : Pure) (os : Os) (started : os.Started) (H : Type) (enc : TypeId × Value → H) :
    ReturnsInHanded {} Try.checked os 6 .any (Rows.fnExactEntryTextSpec.pre6 enc Try.prog Try.f6 Rows.fnExactEntryTextRow.domain false) (Rows.fnExactEntryTextSpec.post enc Try.prog Try.f6 false true false false) := by
  refine returnsInHanded_of_change_sized (C := Try.checked) own started (by kernel_rfl) Try.func6
    (ChangeSpec.witness6 (enc := enc) (C := Try.checked) false ⟨#[], #[.agg #[.int .i64 0, .int .i64 0, .int .i64 0, .int .i64 0, .int .i64 0, .int .i64 0]], []⟩ 8 (by kernel_rfl) (by kernel_rfl) (by kernel_rfl) (by kernel_rfl)) ?_
  intro W base args ds gs before hval0 hW hcnd hsz0 _
  have hsz : (DataW.weightsEach Try.prog (Try.f6.params.toList ++ Rows.fnExactEntryTextSpec.plain.varTypes Try.prog) (ds ++ gs)).all (· ≤ reachBytes) = true := hsz0
  have hval : ∀ (j : Nat) t v, Try.f6.params[j]? = some t → args[j]? = some v → Value.okWide Try.prog W .any base t v := hval0
  have hW' := hW
  obtain ⟨p, q, hA0, hV, rfl, hfz, hnd⟩ := hW
  have hA : DataW.TrodAll enc Try.prog W 0 (fun _ => true) true Try.f6.params.toList args.toList ds p := hA0
  rw [Try.params6] at hA hval hsz
  obtain ⟨v0, vs0, d0, ds0, p0, q0, hargs, rfl, rfl, h0, r0⟩ := trodAll_cons hA
  obtain ⟨rfl, rfl, rfl⟩ := trodAll_nil r0
  obtain rfl : args = #[v0] := by cases args; simp_all
  obtain ⟨rfl, rfl⟩ := trodVars_none hV
  have k0 := h0
  have lt0 : ∀ x ∈ p0, x.block < W.heap.size := by obtain ⟨m, hm⟩ := k0; exact DataW.trod_lt m _ _ _ hm
  obtain ⟨x0, cs0, rfl, hK0, o0⟩ := arg_struct Try.underlying45 vopens45 (hval 0 45 v0 rfl rfl) h0
  obtain ⟨_, _, rfl, rfl, ⟨_, _, rfl, rfl, ⟨_, _, rfl, rfl, ⟨_, _, rfl, rfl, ⟨_, _, rfl, rfl, rfl⟩⟩⟩⟩⟩ := hK0
  clear hA0 hval0 hsz0 hsz
  obtain ⟨k, hk⟩ := Q x0.1 x0.2.1 x0.2.2.1 x0.2.2.2.1 x0.2.2.2.2.1 x0.2.2.2.2.2 o0.1 o0.2.1 o0.2.2.1 o0.2.2.2.1 o0.2.2.2.2.1 o0.2.2.2.2.2
  refine (laws_FnExactEntryText.calls k _ _ _ _ _ _ true W hk).mono ?_
  rintro e W' ⟨he, bel0⟩
  have bel : Below W.heap.size W W' := bel0
  subst he
  exact ⟨_, rfl, _, _, _, [], _, [], hW', trodAll_mk1 (shut_bool Try.underlying4 _), (trodAll_cons_mk (Below.trod laidOut (by kernel_rfl) (of_decide_eq_true (by kernel_rfl)) k0 bel lt0) trodAll_mk0), rfl, bel.frame _, fun h => by cases h⟩
theorem over (Q : Pure) : Rows.fnExactEntryTextRow.holds Try.pinned (OpenSpec.ofChange Rows.fnExactEntryTextSpec) :=
  OpenClaim.holds_of_wide 6 Try.f6 rfl rfl rfl rfl rfl rfl rfl ⟨rfl, rfl, rfl, rfl, rfl⟩ rfl rfl rfl rfl rfl (by kernel_rfl) Try.func6 (by kernel_rfl)
    (of_decide_eq_true (by kernel_rfl)) (by unfold Func.isWrapper; first | (rw [if_pos (by decide +kernel)]; kernel_rfl) | (rw [if_neg (by decide +kernel)]; exact ⟨rfl, rfl⟩))
    (fun os started H enc _ => lifted Q os started H enc)
theorem row (Q : Pure) : Rows.FnExactEntryTextSaid := over Q
end Go.Proofs.Ytkbabldehmgmaaa.AFnExactEntryText
