/- The given row of laws.FnExactLogText out of a pure statement about lists and numbers: whatever the input. -/
import Derived.Test.YtfobhfnkjmfbmaaRows
import Derived.Test.YtfobhfnkjmfbmaaPFnExactLogTextx8
import Derived.Test.YtfobhfnkjmfbmaaOpen
import Derived.WalkKit
import Derived.ProofKit
import Derived.OpenShut
import Derived.ShutString
import Derived.ChangeOld
import Derived.Below
import Derived.SizedLaws
namespace Go.Proofs.Ytfobhfnkjmfbmaa.AFnExactLogText
open Go.ChangeShapes Go.WideShapes Go.ChangeAt Go.RowKit Go.Proofs.YtfobhfnkjmfbmaaW.PrintWords Go.Proofs.YtfobhfnkjmfbmaaO Go.Proofs.Ytfobhfnkjmfbmaa.PFnExactLogText
open Go.ChangeMaps (open_string shut_string)
set_option linter.unusedVariables false
theorem own : ownKnob Try.prog.godebug = none := by kernel_rfl
theorem laidOut : laidOutB Try.prog = true := by kernel_rfl
def Ok175 (x : S175) : Prop := (OkN .i64) x.f0 ∧ (OkN .i64) x.f1 ∧ (OkN .i64) x.f2 ∧ (OkN .i64) x.f3
set_option maxRecDepth 100000 in
theorem opens175 : Opens Try.prog 175 k175 Ok175 := by
  refine opens_struct (k := (Kd.pair (Kd.int .i64) (Kd.pair (Kd.int .i64) (Kd.pair (Kd.int .i64) (Kd.int .i64))))) (ok := (fun x => (OkN .i64) x.1 ∧ (fun x => (OkN .i64) x.1 ∧ (fun x => (OkN .i64) x.1 ∧ (OkN .i64) x.2) x.2) x.2)) (fun x : S175 => (x.f0, x.f1, x.f2, x.f3)) (fun a => ⟨⟨a.1, a.2.1, a.2.2.1, a.2.2.2⟩, rfl⟩) Try.underlying175 (l := [_, _, _, _]) rfl (by kernel_rfl) ?_
  apply opensF_cons (k := (Kd.int .i64)) (ok := (OkN .i64)) (k' := (Kd.pair (Kd.int .i64) (Kd.pair (Kd.int .i64) (Kd.int .i64)))) (ok' := (fun x => (OkN .i64) x.1 ∧ (fun x => (OkN .i64) x.1 ∧ (OkN .i64) x.2) x.2))
  · rfl
  · rfl
  · exact (opens_int Try.underlying3 (by kernel_rfl))
  apply opensF_cons (k := (Kd.int .i64)) (ok := (OkN .i64)) (k' := (Kd.pair (Kd.int .i64) (Kd.int .i64))) (ok' := (fun x => (OkN .i64) x.1 ∧ (OkN .i64) x.2))
  · rfl
  · rfl
  · exact (opens_int Try.underlying3 (by kernel_rfl))
  apply opensF_cons (k := (Kd.int .i64)) (ok := (OkN .i64)) (k' := (Kd.int .i64)) (ok' := (OkN .i64))
  · rfl
  · rfl
  · exact (opens_int Try.underlying3 (by kernel_rfl))
  exact opensF_one (by rfl) (by exact (opens_int Try.underlying3 (by kernel_rfl)))
def Ok177 (x : S177) : Prop := (OkN .i64) x.f0 ∧ (OkN .i64) x.f1 ∧ Ok175 x.f2
set_option maxRecDepth 100000 in
theorem opens177 : Opens Try.prog 177 k177 Ok177 := by
  refine opens_struct (k := (Kd.pair (Kd.int .i64) (Kd.pair (Kd.int .i64) k175))) (ok := (fun x => (OkN .i64) x.1 ∧ (fun x => (OkN .i64) x.1 ∧ Ok175 x.2) x.2)) (fun x : S177 => (x.f0, x.f1, x.f2)) (fun a => ⟨⟨a.1, a.2.1, a.2.2⟩, rfl⟩) Try.underlying177 (l := [_, _, _]) rfl (by kernel_rfl) ?_
  apply opensF_cons (k := (Kd.int .i64)) (ok := (OkN .i64)) (k' := (Kd.pair (Kd.int .i64) k175)) (ok' := (fun x => (OkN .i64) x.1 ∧ Ok175 x.2))
  · rfl
  · rfl
  · exact (opens_int Try.underlying3 (by kernel_rfl))
  apply opensF_cons (k := (Kd.int .i64)) (ok := (OkN .i64)) (k' := k175) (ok' := Ok175)
  · rfl
  · rfl
  · exact (opens_int Try.underlying3 (by kernel_rfl))
  exact opensF_one (by rfl) (by exact opens175)
/-- What is to be proved of lists and numbers alone. -/
def Pure : Prop := ∀ (l0 : (List S177)), (OkL Ok177) l0 → ∃ k, laws_FnExactLogText.f k l0 = some true
set_option maxRecDepth 100000 in
theorem lifted (Q : Pure) (os : Os) (started : os.Started) (H : Type) (enc : TypeId × Value → H) :
    ReturnsInHanded {} Try.checked os 14 .any (Rows.fnExactLogTextSpec.pre6 enc Try.prog Try.f14 Rows.fnExactLogTextRow.domain false) (Rows.fnExactLogTextSpec.post enc Try.prog Try.f14 false true false false) := by
  refine returnsInHanded_of_change_sized (C := Try.checked) own started (by kernel_rfl) Try.func14
    (ChangeSpec.witness6 (enc := enc) (C := Try.checked) false ⟨#[], #[.slice none 0 0], []⟩ 8 (by kernel_rfl) (by kernel_rfl) (by kernel_rfl) (by kernel_rfl)) ?_
  intro W base args ds gs before hval0 hW hcnd hsz0 _
  have hsz : (DataW.weightsEach Try.prog (Try.f14.params.toList ++ Rows.fnExactLogTextSpec.plain.varTypes Try.prog) (ds ++ gs)).all (· ≤ reachBytes) = true := hsz0
  have hval : ∀ (j : Nat) t v, Try.f14.params[j]? = some t → args[j]? = some v → Value.okWide Try.prog W .any base t v := hval0
  have hW' := hW
  obtain ⟨p, q, hA0, hV, rfl, hfz, hnd⟩ := hW
  have hA : DataW.TrodAll enc Try.prog W 0 (fun _ => true) true Try.f14.params.toList args.toList ds p := hA0
  rw [Try.params14] at hA hval hsz
  obtain ⟨v0, vs0, d0, ds0, p0, q0, hargs, rfl, rfl, h0, r0⟩ := trodAll_cons hA
  obtain ⟨rfl, rfl, rfl⟩ := trodAll_nil r0
  obtain rfl : args = #[v0] := by cases args; simp_all
  obtain ⟨rfl, rfl⟩ := trodVars_none hV
  have k0 := h0
  have lt0 : ∀ x ∈ p0, x.block < W.heap.size := by obtain ⟨m, hm⟩ := k0; exact DataW.trod_lt m _ _ _ hm
  obtain ⟨A1, z0, c1, rfl, hc1, hr1, o0⟩ := arg_slice Try.underlying22 (by kernel_rfl) opens177 (hval 0 22 v0 rfl rfl) h0
  clear hA0 hval0 hsz0 hsz
  obtain ⟨k, hk⟩ := Q z0 o0
  refine (laws_FnExactLogText.calls k _ _ _ true W hr1 hc1 hk).mono ?_
  rintro e W' ⟨he, bel0⟩
  have bel : Below W.heap.size W W' := bel0
  subst he
  exact ⟨_, rfl, _, _, _, [], _, [], hW', trodAll_mk1 (shut_bool Try.underlying4 _), (trodAll_cons_mk (Below.trod laidOut (by kernel_rfl) (of_decide_eq_true (by kernel_rfl)) k0 bel lt0) trodAll_mk0), rfl, bel.frame _, fun h => by cases h⟩
theorem over (Q : Pure) : Rows.fnExactLogTextRow.holds Try.pinned (OpenSpec.ofChange Rows.fnExactLogTextSpec) :=
  OpenClaim.holds_of_wide 14 Try.f14 rfl rfl rfl rfl rfl rfl rfl ⟨rfl, rfl, rfl, rfl, rfl⟩ rfl rfl rfl rfl rfl (by kernel_rfl) Try.func14 (by kernel_rfl)
    (of_decide_eq_true (by kernel_rfl)) (by unfold Func.isWrapper; first | (rw [if_pos (by decide +kernel)]; kernel_rfl) | (rw [if_neg (by decide +kernel)]; exact ⟨rfl, rfl⟩))
    (fun os started H enc _ => lifted Q os started H enc)
theorem row (Q : Pure) : Rows.FnExactLogTextSaid := over Q
end Go.Proofs.Ytfobhfnkjmfbmaa.AFnExactLogText
