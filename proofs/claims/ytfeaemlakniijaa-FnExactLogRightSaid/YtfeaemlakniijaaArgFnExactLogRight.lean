/- The given row of laws.FnExactLogRight out of a pure statement about lists and numbers: whatever the input. -/
import Derived.Test.YtfeaemlakniijaaRows
import Derived.Test.YtfeaemlakniijaaPFnExactLogRightx4
import Derived.Test.YtfeaemlakniijaaA21
import Derived.WalkKit
import Derived.ProofKit
import Derived.OpenShut
import Derived.ShutString
import Derived.ChangeOld
import Derived.Below
import Derived.SizedLaws
namespace Go.Proofs.Ytfeaemlakniijaa.AFnExactLogRight
open Go.ChangeShapes Go.WideShapes Go.ChangeAt Go.RowKit Go.Proofs.YtfeaemlakniijaaA Go.Proofs.Ytfeaemlakniijaa.PFnExactLogRight
open Go.ChangeMaps (open_string shut_string)
set_option linter.unusedVariables false
theorem own : ownKnob Try.prog.godebug = none := by kernel_rfl
theorem laidOut : laidOutB Try.prog = true := by kernel_rfl
def Ok214 (x : S214) : Prop := (OkN .i64) x.f0 ∧ (OkN .i64) x.f1 ∧ (OkN .i64) x.f2 ∧ (OkN .i64) x.f3
set_option maxRecDepth 100000 in
theorem opens214 : Opens Try.prog 214 (fun b : S214 => (e214 b).leaves) Ok214 :=
  opens_struct (fun x : S214 => (x.f0, x.f1, x.f2, x.f3)) _ (fun _ => rfl) (fun a => ⟨⟨a.1, a.2.1, a.2.2.1, a.2.2.2⟩, rfl⟩) Try.underlying214 (l := [_, _, _, _]) rfl (by kernel_rfl) (opensF_cons (n := 1) rfl (by kernel_rfl) (opens_int Try.underlying3 (by kernel_rfl)) (opensF_cons (n := 1) rfl (by kernel_rfl) (opens_int Try.underlying3 (by kernel_rfl)) (opensF_cons (n := 1) rfl (by kernel_rfl) (opens_int Try.underlying3 (by kernel_rfl)) (opensF_one (n := 1) rfl (by kernel_rfl) (opens_int Try.underlying3 (by kernel_rfl))))))
def Ok194 (x : S194) : Prop := (OkN .i64) x.f0 ∧ (OkN .i64) x.f1 ∧ (OkN .i64) x.f2 ∧ (OkN .i64) x.f3
set_option maxRecDepth 100000 in
theorem opens194 : Opens Try.prog 194 (fun b : S194 => (e194 b).leaves) Ok194 :=
  opens_struct (fun x : S194 => (x.f0, x.f1, x.f2, x.f3)) _ (fun _ => rfl) (fun a => ⟨⟨a.1, a.2.1, a.2.2.1, a.2.2.2⟩, rfl⟩) Try.underlying194 (l := [_, _, _, _]) rfl (by kernel_rfl) (opensF_cons (n := 1) rfl (by kernel_rfl) (opens_int Try.underlying3 (by kernel_rfl)) (opensF_cons (n := 1) rfl (by kernel_rfl) (opens_int Try.underlying3 (by kernel_rfl)) (opensF_cons (n := 1) rfl (by kernel_rfl) (opens_int Try.underlying3 (by kernel_rfl)) (opensF_one (n := 1) rfl (by kernel_rfl) (opens_int Try.underlying3 (by kernel_rfl))))))
def Ok150 (x : S150) : Prop := (OkL Ok194) x.f0 ∧ (OkN .i64) x.f1 ∧ (OkN .i64) x.f2 ∧ (OkN .i64) x.f3
set_option maxRecDepth 100000 in
theorem opens150 : Opens Try.prog 150 (fun b : S150 => (e150 b).leaves) Ok150 :=
  opens_struct (fun x : S150 => (x.f0, x.f1, x.f2, x.f3)) _ (fun _ => rfl) (fun a => ⟨⟨a.1, a.2.1, a.2.2.1, a.2.2.2⟩, rfl⟩) Try.underlying150 (l := [_, _, _, _]) rfl (by kernel_rfl) (opensF_cons (n := 1) rfl (by kernel_rfl) (opens_slice (e194) 4 (fun _ => rfl) Try.underlying148 (by kernel_rfl) (by kernel_rfl) rfl opens194) (opensF_cons (n := 1) rfl (by kernel_rfl) (opens_int Try.underlying3 (by kernel_rfl)) (opensF_cons (n := 1) rfl (by kernel_rfl) (opens_int Try.underlying3 (by kernel_rfl)) (opensF_one (n := 1) rfl (by kernel_rfl) (opens_int Try.underlying3 (by kernel_rfl))))))
def Ok153 (x : S153) : Prop := (OkN .i64) x.f0 ∧ (OkN .i64) x.f1 ∧ (OkL Ok194) x.f2 ∧ (OkN .i64) x.f3 ∧ (OkN .i64) x.f4
set_option maxRecDepth 100000 in
theorem opens153 : Opens Try.prog 153 (fun b : S153 => (e153 b).leaves) Ok153 :=
  opens_struct (fun x : S153 => (x.f0, x.f1, x.f2, x.f3, x.f4)) _ (fun _ => rfl) (fun a => ⟨⟨a.1, a.2.1, a.2.2.1, a.2.2.2.1, a.2.2.2.2⟩, rfl⟩) Try.underlying153 (l := [_, _, _, _, _]) rfl (by kernel_rfl) (opensF_cons (n := 1) rfl (by kernel_rfl) (opens_int Try.underlying3 (by kernel_rfl)) (opensF_cons (n := 1) rfl (by kernel_rfl) (opens_int Try.underlying3 (by kernel_rfl)) (opensF_cons (n := 1) rfl (by kernel_rfl) (opens_slice (e194) 4 (fun _ => rfl) Try.underlying148 (by kernel_rfl) (by kernel_rfl) rfl opens194) (opensF_cons (n := 1) rfl (by kernel_rfl) (opens_int Try.underlying3 (by kernel_rfl)) (opensF_one (n := 1) rfl (by kernel_rfl) (opens_int Try.underlying3 (by kernel_rfl)))))))
def Ok196 (x : S196) : Prop := (OkN .i64) x.f0 ∧ (OkN .i64) x.f1 ∧ Ok194 x.f2
set_option maxRecDepth 100000 in
theorem opens196 : Opens Try.prog 196 (fun b : S196 => (e196 b).leaves) Ok196 :=
  opens_struct (fun x : S196 => (x.f0, x.f1, x.f2)) _ (fun _ => rfl) (fun a => ⟨⟨a.1, a.2.1, a.2.2⟩, rfl⟩) Try.underlying196 (l := [_, _, _]) rfl (by kernel_rfl) (opensF_cons (n := 1) rfl (by kernel_rfl) (opens_int Try.underlying3 (by kernel_rfl)) (opensF_cons (n := 1) rfl (by kernel_rfl) (opens_int Try.underlying3 (by kernel_rfl)) (opensF_one (n := 4) rfl (by kernel_rfl) opens194)))
def Ok198 (x : S198) : Prop := (OkN .i64) x.f0 ∧ (OkN .i64) x.f1 ∧ Ok194 x.f2
set_option maxRecDepth 100000 in
theorem opens198 : Opens Try.prog 198 (fun b : S198 => (e198 b).leaves) Ok198 :=
  opens_struct (fun x : S198 => (x.f0, x.f1, x.f2)) _ (fun _ => rfl) (fun a => ⟨⟨a.1, a.2.1, a.2.2⟩, rfl⟩) Try.underlying198 (l := [_, _, _]) rfl (by kernel_rfl) (opensF_cons (n := 1) rfl (by kernel_rfl) (opens_int Try.underlying3 (by kernel_rfl)) (opensF_cons (n := 1) rfl (by kernel_rfl) (opens_int Try.underlying3 (by kernel_rfl)) (opensF_one (n := 4) rfl (by kernel_rfl) opens194)))
def Ok57 (x : S57) : Prop := (OkL Ok196) x.f0 ∧ (OkL (OkN .i64)) x.f1 ∧ (OkL Ok198) x.f2 ∧ (OkN .i64) x.f3 ∧ (OkL (OkN .i64)) x.f4
set_option maxRecDepth 100000 in
theorem opens57 : Opens Try.prog 57 (fun b : S57 => (e57 b).leaves) Ok57 :=
  opens_struct (fun x : S57 => (x.f0, x.f1, x.f2, x.f3, x.f4)) _ (fun _ => rfl) (fun a => ⟨⟨a.1, a.2.1, a.2.2.1, a.2.2.2.1, a.2.2.2.2⟩, rfl⟩) Try.underlying57 (l := [_, _, _, _, _]) rfl (by kernel_rfl) (opensF_cons (n := 1) rfl (by kernel_rfl) (opens_slice (e196) 6 (fun _ => rfl) Try.underlying54 (by kernel_rfl) (by kernel_rfl) rfl opens196) (opensF_cons (n := 1) rfl (by kernel_rfl) (opens_slice (eI .i64) 1 (fun _ => rfl) Try.underlying24 (by kernel_rfl) (by kernel_rfl) rfl (opens_int Try.underlying3 (by kernel_rfl))) (opensF_cons (n := 1) rfl (by kernel_rfl) (opens_slice (e198) 6 (fun _ => rfl) Try.underlying55 (by kernel_rfl) (by kernel_rfl) rfl opens198) (opensF_cons (n := 1) rfl (by kernel_rfl) (opens_int Try.underlying3 (by kernel_rfl)) (opensF_one (n := 1) rfl (by kernel_rfl) (opens_slice (eI .i64) 1 (fun _ => rfl) Try.underlying24 (by kernel_rfl) (by kernel_rfl) rfl (opens_int Try.underlying3 (by kernel_rfl))))))))
def Ok158 (x : S158) : Prop := OkT x.f0 ∧ OkS x.f1 ∧ OkT x.f2
set_option maxRecDepth 100000 in
theorem opens158 : Opens Try.prog 158 (fun b : S158 => (e158 b).leaves) Ok158 :=
  opens_struct (fun x : S158 => (x.f0, x.f1, x.f2)) _ (fun _ => rfl) (fun a => ⟨⟨a.1, a.2.1, a.2.2⟩, rfl⟩) Try.underlying158 (l := [_, _, _]) rfl (by kernel_rfl) (opensF_cons (n := 1) rfl (by kernel_rfl) (opens_bool Try.underlying4 (by kernel_rfl)) (opensF_cons (n := 1) rfl (by kernel_rfl) (opens_string Try.underlying9 (by kernel_rfl)) (opensF_one (n := 1) rfl (by kernel_rfl) (opens_bool Try.underlying4 (by kernel_rfl)))))
def Ok172 (x : S172) : Prop := (OkN .i64) x.f0 ∧ (OkN .i64) x.f1 ∧ (OkN .i64) x.f2 ∧ OkT x.f3
set_option maxRecDepth 100000 in
theorem opens172 : Opens Try.prog 172 (fun b : S172 => (e172 b).leaves) Ok172 :=
  opens_struct (fun x : S172 => (x.f0, x.f1, x.f2, x.f3)) _ (fun _ => rfl) (fun a => ⟨⟨a.1, a.2.1, a.2.2.1, a.2.2.2⟩, rfl⟩) Try.underlying172 (l := [_, _, _, _]) rfl (by kernel_rfl) (opensF_cons (n := 1) rfl (by kernel_rfl) (opens_int Try.underlying3 (by kernel_rfl)) (opensF_cons (n := 1) rfl (by kernel_rfl) (opens_int Try.underlying3 (by kernel_rfl)) (opensF_cons (n := 1) rfl (by kernel_rfl) (opens_int Try.underlying3 (by kernel_rfl)) (opensF_one (n := 1) rfl (by kernel_rfl) (opens_bool Try.underlying4 (by kernel_rfl))))))
def Ok61 (x : S61) : Prop := (OkL (OkL (OkL Ok214))) x.f0 ∧ (OkL Ok150) x.f1 ∧ (OkL Ok153) x.f2 ∧ Ok57 x.f3 ∧ (OkL Ok158) x.f4 ∧ (OkN .i64) x.f5 ∧ (OkL (OkN .i64)) x.f6 ∧ (OkL Ok172) x.f7
set_option maxRecDepth 100000 in
theorem opens61 : Opens Try.prog 61 (fun b : S61 => (e61 b).leaves) Ok61 :=
  opens_struct (fun x : S61 => (x.f0, x.f1, x.f2, x.f3, x.f4, x.f5, x.f6, x.f7)) _ (fun _ => rfl) (fun a => ⟨⟨a.1, a.2.1, a.2.2.1, a.2.2.2.1, a.2.2.2.2.1, a.2.2.2.2.2.1, a.2.2.2.2.2.2.1, a.2.2.2.2.2.2.2⟩, rfl⟩) Try.underlying61 (l := [_, _, _, _, _, _, _, _]) rfl (by kernel_rfl) (opensF_cons (n := 1) rfl (by kernel_rfl) (opens_slice (eL 1 (eL 4 (e214))) 1 (fun _ => rfl) Try.underlying51 (by kernel_rfl) (by kernel_rfl) rfl (opens_slice (eL 4 (e214)) 1 (fun _ => rfl) Try.underlying146 (by kernel_rfl) (by kernel_rfl) rfl (opens_slice (e214) 4 (fun _ => rfl) Try.underlying188 (by kernel_rfl) (by kernel_rfl) rfl opens214))) (opensF_cons (n := 1) rfl (by kernel_rfl) (opens_slice (e150) 4 (fun _ => rfl) Try.underlying52 (by kernel_rfl) (by kernel_rfl) rfl opens150) (opensF_cons (n := 1) rfl (by kernel_rfl) (opens_slice (e153) 5 (fun _ => rfl) Try.underlying53 (by kernel_rfl) (by kernel_rfl) rfl opens153) (opensF_cons (n := 5) rfl (by kernel_rfl) opens57 (opensF_cons (n := 1) rfl (by kernel_rfl) (opens_slice (e158) 3 (fun _ => rfl) Try.underlying58 (by kernel_rfl) (by kernel_rfl) rfl opens158) (opensF_cons (n := 1) rfl (by kernel_rfl) (opens_int Try.underlying3 (by kernel_rfl)) (opensF_cons (n := 1) rfl (by kernel_rfl) (opens_slice (eI .i64) 1 (fun _ => rfl) Try.underlying24 (by kernel_rfl) (by kernel_rfl) rfl (opens_int Try.underlying3 (by kernel_rfl))) (opensF_one (n := 1) rfl (by kernel_rfl) (opens_slice (e172) 4 (fun _ => rfl) Try.underlying59 (by kernel_rfl) (by kernel_rfl) rfl opens172)))))))))
/-- What is to be proved of lists and numbers alone. -/
def Pure : Prop := ∀ (l0_0 : List (List (List S214))) (l0_1 : List S150) (l0_2 : List S153) (l0_3 : List S196) (l0_4 : List Int) (l0_5 : List S198) (a0_6 : Int) (l0_7 : List Int) (l0_8 : List S158) (a0_9 : Int) (l0_10 : List Int) (l0_11 : List S172), (OkL (OkL (OkL Ok214))) l0_0 → (OkL Ok150) l0_1 → (OkL Ok153) l0_2 → (OkL Ok196) l0_3 → (OkL (OkN .i64)) l0_4 → (OkL Ok198) l0_5 → (OkN .i64) a0_6 → (OkL (OkN .i64)) l0_7 → (OkL Ok158) l0_8 → (OkN .i64) a0_9 → (OkL (OkN .i64)) l0_10 → (OkL Ok172) l0_11 → ∃ k, laws_FnExactLogRight.f k l0_0 l0_1 l0_2 l0_3 l0_4 l0_5 a0_6 l0_7 l0_8 a0_9 l0_10 l0_11 = some true
set_option maxRecDepth 100000 in
theorem lifted (Q : Pure) (os : Os) (started : os.Started) (H : Type) (enc : TypeId × Value → H) :
    ReturnsInHanded {} Try.checked os 5 .any (Rows.fnExactLogRightSpec.pre6 enc Try.prog Try.f5 Rows.fnExactLogRightRow.domain false) (Rows.fnExactLogRightSpec.post enc Try.prog Try.f5 false true false false) := by
  refine returnsInHanded_of_change_sized (C := Try.checked) own started (by kernel_rfl) Try.func5
    (ChangeSpec.witness6 (enc := enc) (C := Try.checked) false ⟨#[], #[.agg #[.slice none 0 0, .slice none 0 0, .slice none 0 0, .slice none 0 0, .slice none 0 0, .slice none 0 0, .int .i64 0, .slice none 0 0, .slice none 0 0, .int .i64 0, .slice none 0 0, .slice none 0 0]], []⟩ 8 (by kernel_rfl) (by kernel_rfl) (by kernel_rfl) (by kernel_rfl)) ?_
  intro W base args ds gs before hval0 hW hcnd hsz0 _
  have hsz : (DataW.weightsEach Try.prog (Try.f5.params.toList ++ Rows.fnExactLogRightSpec.plain.varTypes Try.prog) (ds ++ gs)).all (· ≤ reachBytes) = true := hsz0
  have hval : ∀ (j : Nat) t v, Try.f5.params[j]? = some t → args[j]? = some v → Value.okWide Try.prog W .any base t v := hval0
  have hW' := hW
  obtain ⟨p, q, hA0, hV, rfl, hfz, hnd⟩ := hW
  have hA : DataW.TrodAll enc Try.prog W 0 (fun _ => true) true Try.f5.params.toList args.toList ds p := hA0
  rw [Try.params5] at hA hval hsz
  obtain ⟨v0, vs0, d0, ds0, p0, q0, hargs, rfl, rfl, h0, r0⟩ := trodAll_cons hA
  obtain ⟨rfl, rfl, rfl⟩ := trodAll_nil r0
  obtain rfl : args = #[v0] := by cases args; simp_all
  obtain ⟨rfl, rfl⟩ := trodVars_none hV
  have k0 := h0
  have lt0 : ∀ x ∈ p0, x.block < W.heap.size := by obtain ⟨m, hm⟩ := k0; exact DataW.trod_lt m _ _ _ hm
  obtain ⟨x0, g0, o0⟩ := arg_struct Try.underlying61 opens61 (hval 0 61 v0 rfl rfl) h0
  clear hA0 hval0 hsz0 hsz
  obtain ⟨k, hk⟩ := Q x0.f0 x0.f1 x0.f2 x0.f3.f0 x0.f3.f1 x0.f3.f2 x0.f3.f3 x0.f3.f4 x0.f4 x0.f5 x0.f6 x0.f7 o0.1 o0.2.1 o0.2.2.1 o0.2.2.2.1.1 o0.2.2.2.1.2.1 o0.2.2.2.1.2.2.1 o0.2.2.2.1.2.2.2.1 o0.2.2.2.1.2.2.2.2 o0.2.2.2.2.1 o0.2.2.2.2.2.1 o0.2.2.2.2.2.2.1 o0.2.2.2.2.2.2.2
  refine (law_calls (laws_FnExactLogRight.ok hk) (Fa.cons g0 Fa.nil)).mono ?_
  rintro e W' ⟨he, bel⟩
  subst he
  exact ⟨_, rfl, _, _, _, [], _, [], hW', trodAll_mk1 (shut_bool Try.underlying4 _), (trodAll_cons_mk (Below.trod laidOut (by kernel_rfl) (of_decide_eq_true (by kernel_rfl)) k0 bel lt0) trodAll_mk0), rfl, bel.frame _, fun h => by cases h⟩
theorem over (Q : Pure) : Rows.fnExactLogRightRow.holds Try.pinned (OpenSpec.ofChange Rows.fnExactLogRightSpec) :=
  OpenClaim.holds_of_wide 5 Try.f5 rfl rfl rfl rfl rfl rfl rfl ⟨rfl, rfl, rfl, rfl, rfl⟩ rfl rfl rfl rfl rfl (by kernel_rfl) Try.func5 (by kernel_rfl)
    (of_decide_eq_true (by kernel_rfl)) (by unfold Func.isWrapper; first | (rw [if_pos (by decide +kernel)]; kernel_rfl) | (rw [if_neg (by decide +kernel)]; exact ⟨rfl, rfl⟩))
    (fun os started H enc _ => lifted Q os started H enc)
theorem row (Q : Pure) : Rows.FnExactLogRightSaid := over Q
end Go.Proofs.Ytfeaemlakniijaa.AFnExactLogRight
