/- The given row of laws.FnExactTaken out of a pure statement about lists and numbers: whatever the input. -/
import Derived.Test.YtbapmfjdnnajiaaRows
import Derived.Test.YtbapmfjdnnajiaaPFnExactTakenx2
import Derived.Test.YtbapmfjdnnajiaaA18
import Derived.WalkKit
import Derived.ProofKit
import Derived.OpenShut
import Derived.ShutString
import Derived.ChangeOld
import Derived.Below
import Derived.SizedLaws
namespace Go.Proofs.Ytbapmfjdnnajiaa.AFnExactTaken
open Go.ChangeShapes Go.WideShapes Go.ChangeAt Go.RowKit Go.Proofs.YtbapmfjdnnajiaaA Go.Proofs.Ytbapmfjdnnajiaa.PFnExactTaken
open Go.ChangeMaps (open_string shut_string)
set_option linter.unusedVariables false
theorem own : ownKnob Try.prog.godebug = none := by kernel_rfl
theorem laidOut : laidOutB Try.prog = true := by kernel_rfl
def Ok178 (x : S178) : Prop := (OkN .i64) x.f0 ∧ (OkN .i64) x.f1 ∧ (OkN .i64) x.f2 ∧ (OkN .i64) x.f3
set_option maxRecDepth 100000 in
theorem opens178 : Opens Try.prog 178 (fun b : S178 => (e178 b).leaves) Ok178 :=
  opens_struct (fun x : S178 => (x.f0, x.f1, x.f2, x.f3)) _ (fun _ => rfl) (fun a => ⟨⟨a.1, a.2.1, a.2.2.1, a.2.2.2⟩, rfl⟩) Try.underlying178 (l := [_, _, _, _]) rfl (by kernel_rfl) (opensF_cons (n := 1) rfl (by kernel_rfl) (opens_int Try.underlying3 (by kernel_rfl)) (opensF_cons (n := 1) rfl (by kernel_rfl) (opens_int Try.underlying3 (by kernel_rfl)) (opensF_cons (n := 1) rfl (by kernel_rfl) (opens_int Try.underlying3 (by kernel_rfl)) (opensF_one (n := 1) rfl (by kernel_rfl) (opens_int Try.underlying3 (by kernel_rfl))))))
def Ok106 (x : S106) : Prop := (OkN .i64) x.f0 ∧ (OkN .i64) x.f1 ∧ (OkL Ok178) x.f2 ∧ (OkN .i64) x.f3 ∧ (OkN .i64) x.f4
set_option maxRecDepth 100000 in
theorem opens106 : Opens Try.prog 106 (fun b : S106 => (e106 b).leaves) Ok106 :=
  opens_struct (fun x : S106 => (x.f0, x.f1, x.f2, x.f3, x.f4)) _ (fun _ => rfl) (fun a => ⟨⟨a.1, a.2.1, a.2.2.1, a.2.2.2.1, a.2.2.2.2⟩, rfl⟩) Try.underlying106 (l := [_, _, _, _, _]) rfl (by kernel_rfl) (opensF_cons (n := 1) rfl (by kernel_rfl) (opens_int Try.underlying3 (by kernel_rfl)) (opensF_cons (n := 1) rfl (by kernel_rfl) (opens_int Try.underlying3 (by kernel_rfl)) (opensF_cons (n := 1) rfl (by kernel_rfl) (opens_slice (e178) 4 (fun _ => rfl) Try.underlying104 (by kernel_rfl) (by kernel_rfl) rfl opens178) (opensF_cons (n := 1) rfl (by kernel_rfl) (opens_int Try.underlying3 (by kernel_rfl)) (opensF_one (n := 1) rfl (by kernel_rfl) (opens_int Try.underlying3 (by kernel_rfl)))))))
def Ok108 (x : S108) : Prop := (OkL Ok178) x.f0 ∧ (OkN .i64) x.f1 ∧ (OkN .i64) x.f2 ∧ (OkN .i64) x.f3
set_option maxRecDepth 100000 in
theorem opens108 : Opens Try.prog 108 (fun b : S108 => (e108 b).leaves) Ok108 :=
  opens_struct (fun x : S108 => (x.f0, x.f1, x.f2, x.f3)) _ (fun _ => rfl) (fun a => ⟨⟨a.1, a.2.1, a.2.2.1, a.2.2.2⟩, rfl⟩) Try.underlying108 (l := [_, _, _, _]) rfl (by kernel_rfl) (opensF_cons (n := 1) rfl (by kernel_rfl) (opens_slice (e178) 4 (fun _ => rfl) Try.underlying104 (by kernel_rfl) (by kernel_rfl) rfl opens178) (opensF_cons (n := 1) rfl (by kernel_rfl) (opens_int Try.underlying3 (by kernel_rfl)) (opensF_cons (n := 1) rfl (by kernel_rfl) (opens_int Try.underlying3 (by kernel_rfl)) (opensF_one (n := 1) rfl (by kernel_rfl) (opens_int Try.underlying3 (by kernel_rfl))))))
/-- What is to be proved of lists and numbers alone. -/
def Pure : Prop := ∀ (a0_0 : Int) (a0_1 : Int) (l0_2 : List S178) (a0_3 : Int) (a0_4 : Int) (l1_0 : List S178) (a1_1 : Int) (a1_2 : Int) (a1_3 : Int) (a2 : Int), (OkN .i64) a0_0 → (OkN .i64) a0_1 → (OkL Ok178) l0_2 → (OkN .i64) a0_3 → (OkN .i64) a0_4 → (OkL Ok178) l1_0 → (OkN .i64) a1_1 → (OkN .i64) a1_2 → (OkN .i64) a1_3 → (OkN .i64) a2 → ∃ k, laws_FnExactTaken.f k a0_0 a0_1 l0_2 a0_3 a0_4 l1_0 a1_1 a1_2 a1_3 a2 = some true
set_option maxRecDepth 100000 in
theorem lifted (Q : Pure) (os : Os) (started : os.Started) (H : Type) (enc : TypeId × Value → H) :
    ReturnsInHanded {} Try.checked os 10 .any (Rows.fnExactTakenSpec.pre6 enc Try.prog Try.f10 Rows.fnExactTakenRow.domain false) (Rows.fnExactTakenSpec.post enc Try.prog Try.f10 false true false false) := by
  refine returnsInHanded_of_change_sized (C := Try.checked) own started (by kernel_rfl) Try.func10
    (ChangeSpec.witness6 (enc := enc) (C := Try.checked) false ⟨#[], #[.agg #[.int .i64 0, .int .i64 0, .slice none 0 0, .int .i64 0, .int .i64 0], .agg #[.slice none 0 0, .int .i64 0, .int .i64 0, .int .i64 0], .int .i64 0], []⟩ 8 (by kernel_rfl) (by kernel_rfl) (by kernel_rfl) (by kernel_rfl)) ?_
  intro W base args ds gs before hval0 hW hcnd hsz0 _
  have hsz : (DataW.weightsEach Try.prog (Try.f10.params.toList ++ Rows.fnExactTakenSpec.plain.varTypes Try.prog) (ds ++ gs)).all (· ≤ reachBytes) = true := hsz0
  have hval : ∀ (j : Nat) t v, Try.f10.params[j]? = some t → args[j]? = some v → Value.okWide Try.prog W .any base t v := hval0
  have hW' := hW
  obtain ⟨p, q, hA0, hV, rfl, hfz, hnd⟩ := hW
  have hA : DataW.TrodAll enc Try.prog W 0 (fun _ => true) true Try.f10.params.toList args.toList ds p := hA0
  rw [Try.params10] at hA hval hsz
  obtain ⟨v0, vs0, d0, ds0, p0, q0, hargs, rfl, rfl, h0, r0⟩ := trodAll_cons hA
  obtain ⟨v1, vs1, d1, ds1, p1, q1, rfl, rfl, rfl, h1, r1⟩ := trodAll_cons r0
  obtain ⟨v2, vs2, d2, ds2, p2, q2, rfl, rfl, rfl, h2, r2⟩ := trodAll_cons r1
  obtain ⟨rfl, rfl, rfl⟩ := trodAll_nil r2
  obtain rfl : args = #[v0, v1, v2] := by cases args; simp_all
  obtain ⟨rfl, rfl⟩ := trodVars_none hV
  have k0 := h0
  have lt0 : ∀ x ∈ p0, x.block < W.heap.size := by obtain ⟨m, hm⟩ := k0; exact DataW.trod_lt m _ _ _ hm
  obtain ⟨x0, g0, o0⟩ := arg_struct Try.underlying106 opens106 (hval 0 106 v0 rfl rfl) h0
  have k1 := h1
  have lt1 : ∀ x ∈ p1, x.block < W.heap.size := by obtain ⟨m, hm⟩ := k1; exact DataW.trod_lt m _ _ _ hm
  obtain ⟨x1, g1, o1⟩ := arg_struct Try.underlying108 opens108 (hval 1 108 v1 rfl rfl) h1
  have k2 := h2
  have lt2 : ∀ x ∈ p2, x.block < W.heap.size := by obtain ⟨m, hm⟩ := k2; exact DataW.trod_lt m _ _ _ hm
  obtain ⟨z2, rfl, rfl, rfl, o2⟩ := open_int Try.underlying3 (hval 2 3 v2 rfl rfl) h2
  clear hA0 hval0 hsz0 hsz
  obtain ⟨k, hk⟩ := Q x0.f0 x0.f1 x0.f2 x0.f3 x0.f4 x1.f0 x1.f1 x1.f2 x1.f3 z2 o0.1 o0.2.1 o0.2.2.1 o0.2.2.2.1 o0.2.2.2.2 o1.1 o1.2.1 o1.2.2.1 o1.2.2.2 o2
  refine (law_calls (laws_FnExactTaken.ok hk) (Fa.cons g0 (Fa.cons g1 (Fa.cons hasA_int Fa.nil)))).mono ?_
  rintro e W' ⟨he, bel⟩
  subst he
  exact ⟨_, rfl, _, _, _, [], _, [], hW', trodAll_mk1 (shut_bool Try.underlying4 _), (trodAll_cons_mk (Below.trod laidOut (by kernel_rfl) (of_decide_eq_true (by kernel_rfl)) k0 bel lt0) (trodAll_cons_mk (Below.trod laidOut (by kernel_rfl) (of_decide_eq_true (by kernel_rfl)) k1 bel lt1) (trodAll_cons_mk (Below.trod laidOut (by kernel_rfl) (of_decide_eq_true (by kernel_rfl)) k2 bel lt2) trodAll_mk0))), rfl, bel.frame _, fun h => by cases h⟩
theorem over (Q : Pure) : Rows.fnExactTakenRow.holds Try.pinned (OpenSpec.ofChange Rows.fnExactTakenSpec) :=
  OpenClaim.holds_of_wide 10 Try.f10 rfl rfl rfl rfl rfl rfl rfl ⟨rfl, rfl, rfl, rfl, rfl⟩ rfl rfl rfl rfl rfl (by kernel_rfl) Try.func10 (by kernel_rfl)
    (of_decide_eq_true (by kernel_rfl)) (by unfold Func.isWrapper; first | (rw [if_pos (by decide +kernel)]; kernel_rfl) | (rw [if_neg (by decide +kernel)]; exact ⟨rfl, rfl⟩))
    (fun os started H enc _ => lifted Q os started H enc)
theorem row (Q : Pure) : Rows.FnExactTakenSaid := over Q
end Go.Proofs.Ytbapmfjdnnajiaa.AFnExactTaken
