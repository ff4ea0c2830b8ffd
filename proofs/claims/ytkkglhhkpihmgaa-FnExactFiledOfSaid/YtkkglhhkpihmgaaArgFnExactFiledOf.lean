/- The given row of laws.FnExactFiledOf out of a pure statement about lists and numbers: whatever the input. -/
import Derived.Test.YtkkglhhkpihmgaaRows
import Derived.Test.YtkkglhhkpihmgaaPFnExactFiledOfx3
import Derived.Test.YtkkglhhkpihmgaaA21
import Derived.WalkKit
import Derived.ProofKit
import Derived.OpenShut
import Derived.ShutString
import Derived.ChangeOld
import Derived.Below
import Derived.SizedLaws
namespace Go.Proofs.Ytkkglhhkpihmgaa.AFnExactFiledOf
open Go.ChangeShapes Go.WideShapes Go.ChangeAt Go.RowKit Go.Proofs.YtkkglhhkpihmgaaA Go.Proofs.Ytkkglhhkpihmgaa.PFnExactFiledOf
open Go.ChangeMaps (open_string shut_string)
set_option linter.unusedVariables false
theorem own : ownKnob Try.prog.godebug = none := by kernel_rfl
theorem laidOut : laidOutB Try.prog = true := by kernel_rfl
def Ok154 (x : S154) : Prop := (OkN .i64) x.f0 ∧ (OkN .i64) x.f1 ∧ (OkN .i64) x.f2 ∧ (OkN .i64) x.f3
set_option maxRecDepth 100000 in
theorem opens154 : Opens Try.prog 154 (fun b : S154 => (e154 b).leaves) Ok154 :=
  opens_struct (fun x : S154 => (x.f0, x.f1, x.f2, x.f3)) _ (fun _ => rfl) (fun a => ⟨⟨a.1, a.2.1, a.2.2.1, a.2.2.2⟩, rfl⟩) Try.underlying154 (l := [_, _, _, _]) rfl (by kernel_rfl) (opensF_cons (n := 1) rfl (by kernel_rfl) (opens_int Try.underlying3 (by kernel_rfl)) (opensF_cons (n := 1) rfl (by kernel_rfl) (opens_int Try.underlying3 (by kernel_rfl)) (opensF_cons (n := 1) rfl (by kernel_rfl) (opens_int Try.underlying3 (by kernel_rfl)) (opensF_one (n := 1) rfl (by kernel_rfl) (opens_int Try.underlying3 (by kernel_rfl))))))
def Ok144 (x : S144) : Prop := (OkN .i64) x.f0 ∧ (OkN .i64) x.f1 ∧ (OkN .i64) x.f2 ∧ (OkN .i64) x.f3
set_option maxRecDepth 100000 in
theorem opens144 : Opens Try.prog 144 (fun b : S144 => (e144 b).leaves) Ok144 :=
  opens_struct (fun x : S144 => (x.f0, x.f1, x.f2, x.f3)) _ (fun _ => rfl) (fun a => ⟨⟨a.1, a.2.1, a.2.2.1, a.2.2.2⟩, rfl⟩) Try.underlying144 (l := [_, _, _, _]) rfl (by kernel_rfl) (opensF_cons (n := 1) rfl (by kernel_rfl) (opens_int Try.underlying3 (by kernel_rfl)) (opensF_cons (n := 1) rfl (by kernel_rfl) (opens_int Try.underlying3 (by kernel_rfl)) (opensF_cons (n := 1) rfl (by kernel_rfl) (opens_int Try.underlying3 (by kernel_rfl)) (opensF_one (n := 1) rfl (by kernel_rfl) (opens_int Try.underlying3 (by kernel_rfl))))))
def Ok110 (x : S110) : Prop := (OkL Ok144) x.f0 ∧ (OkN .i64) x.f1 ∧ (OkN .i64) x.f2 ∧ (OkN .i64) x.f3
set_option maxRecDepth 100000 in
theorem opens110 : Opens Try.prog 110 (fun b : S110 => (e110 b).leaves) Ok110 :=
  opens_struct (fun x : S110 => (x.f0, x.f1, x.f2, x.f3)) _ (fun _ => rfl) (fun a => ⟨⟨a.1, a.2.1, a.2.2.1, a.2.2.2⟩, rfl⟩) Try.underlying110 (l := [_, _, _, _]) rfl (by kernel_rfl) (opensF_cons (n := 1) rfl (by kernel_rfl) (opens_slice (e144) 4 (fun _ => rfl) Try.underlying108 (by kernel_rfl) (by kernel_rfl) rfl opens144) (opensF_cons (n := 1) rfl (by kernel_rfl) (opens_int Try.underlying3 (by kernel_rfl)) (opensF_cons (n := 1) rfl (by kernel_rfl) (opens_int Try.underlying3 (by kernel_rfl)) (opensF_one (n := 1) rfl (by kernel_rfl) (opens_int Try.underlying3 (by kernel_rfl))))))
def Ok113 (x : S113) : Prop := (OkN .i64) x.f0 ∧ (OkN .i64) x.f1 ∧ (OkL Ok144) x.f2 ∧ (OkN .i64) x.f3 ∧ (OkN .i64) x.f4
set_option maxRecDepth 100000 in
theorem opens113 : Opens Try.prog 113 (fun b : S113 => (e113 b).leaves) Ok113 :=
  opens_struct (fun x : S113 => (x.f0, x.f1, x.f2, x.f3, x.f4)) _ (fun _ => rfl) (fun a => ⟨⟨a.1, a.2.1, a.2.2.1, a.2.2.2.1, a.2.2.2.2⟩, rfl⟩) Try.underlying113 (l := [_, _, _, _, _]) rfl (by kernel_rfl) (opensF_cons (n := 1) rfl (by kernel_rfl) (opens_int Try.underlying3 (by kernel_rfl)) (opensF_cons (n := 1) rfl (by kernel_rfl) (opens_int Try.underlying3 (by kernel_rfl)) (opensF_cons (n := 1) rfl (by kernel_rfl) (opens_slice (e144) 4 (fun _ => rfl) Try.underlying108 (by kernel_rfl) (by kernel_rfl) rfl opens144) (opensF_cons (n := 1) rfl (by kernel_rfl) (opens_int Try.underlying3 (by kernel_rfl)) (opensF_one (n := 1) rfl (by kernel_rfl) (opens_int Try.underlying3 (by kernel_rfl)))))))
def Ok146 (x : S146) : Prop := (OkN .i64) x.f0 ∧ (OkN .i64) x.f1 ∧ Ok144 x.f2
set_option maxRecDepth 100000 in
theorem opens146 : Opens Try.prog 146 (fun b : S146 => (e146 b).leaves) Ok146 :=
  opens_struct (fun x : S146 => (x.f0, x.f1, x.f2)) _ (fun _ => rfl) (fun a => ⟨⟨a.1, a.2.1, a.2.2⟩, rfl⟩) Try.underlying146 (l := [_, _, _]) rfl (by kernel_rfl) (opensF_cons (n := 1) rfl (by kernel_rfl) (opens_int Try.underlying3 (by kernel_rfl)) (opensF_cons (n := 1) rfl (by kernel_rfl) (opens_int Try.underlying3 (by kernel_rfl)) (opensF_one (n := 4) rfl (by kernel_rfl) opens144)))
def Ok148 (x : S148) : Prop := (OkN .i64) x.f0 ∧ (OkN .i64) x.f1 ∧ Ok144 x.f2
set_option maxRecDepth 100000 in
theorem opens148 : Opens Try.prog 148 (fun b : S148 => (e148 b).leaves) Ok148 :=
  opens_struct (fun x : S148 => (x.f0, x.f1, x.f2)) _ (fun _ => rfl) (fun a => ⟨⟨a.1, a.2.1, a.2.2⟩, rfl⟩) Try.underlying148 (l := [_, _, _]) rfl (by kernel_rfl) (opensF_cons (n := 1) rfl (by kernel_rfl) (opens_int Try.underlying3 (by kernel_rfl)) (opensF_cons (n := 1) rfl (by kernel_rfl) (opens_int Try.underlying3 (by kernel_rfl)) (opensF_one (n := 4) rfl (by kernel_rfl) opens144)))
def Ok44 (x : S44) : Prop := (OkL Ok146) x.f0 ∧ (OkL (OkN .i64)) x.f1 ∧ (OkL Ok148) x.f2 ∧ (OkN .i64) x.f3 ∧ (OkL (OkN .i64)) x.f4
set_option maxRecDepth 100000 in
theorem opens44 : Opens Try.prog 44 (fun b : S44 => (e44 b).leaves) Ok44 :=
  opens_struct (fun x : S44 => (x.f0, x.f1, x.f2, x.f3, x.f4)) _ (fun _ => rfl) (fun a => ⟨⟨a.1, a.2.1, a.2.2.1, a.2.2.2.1, a.2.2.2.2⟩, rfl⟩) Try.underlying44 (l := [_, _, _, _, _]) rfl (by kernel_rfl) (opensF_cons (n := 1) rfl (by kernel_rfl) (opens_slice (e146) 6 (fun _ => rfl) Try.underlying41 (by kernel_rfl) (by kernel_rfl) rfl opens146) (opensF_cons (n := 1) rfl (by kernel_rfl) (opens_slice (eI .i64) 1 (fun _ => rfl) Try.underlying26 (by kernel_rfl) (by kernel_rfl) rfl (opens_int Try.underlying3 (by kernel_rfl))) (opensF_cons (n := 1) rfl (by kernel_rfl) (opens_slice (e148) 6 (fun _ => rfl) Try.underlying42 (by kernel_rfl) (by kernel_rfl) rfl opens148) (opensF_cons (n := 1) rfl (by kernel_rfl) (opens_int Try.underlying3 (by kernel_rfl)) (opensF_one (n := 1) rfl (by kernel_rfl) (opens_slice (eI .i64) 1 (fun _ => rfl) Try.underlying26 (by kernel_rfl) (by kernel_rfl) rfl (opens_int Try.underlying3 (by kernel_rfl))))))))
def Ok117 (x : S117) : Prop := OkT x.f0 ∧ OkS x.f1 ∧ OkT x.f2
set_option maxRecDepth 100000 in
theorem opens117 : Opens Try.prog 117 (fun b : S117 => (e117 b).leaves) Ok117 :=
  opens_struct (fun x : S117 => (x.f0, x.f1, x.f2)) _ (fun _ => rfl) (fun a => ⟨⟨a.1, a.2.1, a.2.2⟩, rfl⟩) Try.underlying117 (l := [_, _, _]) rfl (by kernel_rfl) (opensF_cons (n := 1) rfl (by kernel_rfl) (opens_bool Try.underlying4 (by kernel_rfl)) (opensF_cons (n := 1) rfl (by kernel_rfl) (opens_string Try.underlying9 (by kernel_rfl)) (opensF_one (n := 1) rfl (by kernel_rfl) (opens_bool Try.underlying4 (by kernel_rfl)))))
def Ok125 (x : S125) : Prop := (OkN .i64) x.f0 ∧ (OkN .i64) x.f1 ∧ (OkN .i64) x.f2 ∧ OkT x.f3
set_option maxRecDepth 100000 in
theorem opens125 : Opens Try.prog 125 (fun b : S125 => (e125 b).leaves) Ok125 :=
  opens_struct (fun x : S125 => (x.f0, x.f1, x.f2, x.f3)) _ (fun _ => rfl) (fun a => ⟨⟨a.1, a.2.1, a.2.2.1, a.2.2.2⟩, rfl⟩) Try.underlying125 (l := [_, _, _, _]) rfl (by kernel_rfl) (opensF_cons (n := 1) rfl (by kernel_rfl) (opens_int Try.underlying3 (by kernel_rfl)) (opensF_cons (n := 1) rfl (by kernel_rfl) (opens_int Try.underlying3 (by kernel_rfl)) (opensF_cons (n := 1) rfl (by kernel_rfl) (opens_int Try.underlying3 (by kernel_rfl)) (opensF_one (n := 1) rfl (by kernel_rfl) (opens_bool Try.underlying4 (by kernel_rfl))))))
def Ok48 (x : S48) : Prop := (OkL (OkL (OkL Ok154))) x.f0 ∧ (OkL Ok110) x.f1 ∧ (OkL Ok113) x.f2 ∧ Ok44 x.f3 ∧ (OkL Ok117) x.f4 ∧ (OkN .i64) x.f5 ∧ (OkL (OkN .i64)) x.f6 ∧ (OkL Ok125) x.f7
set_option maxRecDepth 100000 in
theorem opens48 : Opens Try.prog 48 (fun b : S48 => (e48 b).leaves) Ok48 :=
  opens_struct (fun x : S48 => (x.f0, x.f1, x.f2, x.f3, x.f4, x.f5, x.f6, x.f7)) _ (fun _ => rfl) (fun a => ⟨⟨a.1, a.2.1, a.2.2.1, a.2.2.2.1, a.2.2.2.2.1, a.2.2.2.2.2.1, a.2.2.2.2.2.2.1, a.2.2.2.2.2.2.2⟩, rfl⟩) Try.underlying48 (l := [_, _, _, _, _, _, _, _]) rfl (by kernel_rfl) (opensF_cons (n := 1) rfl (by kernel_rfl) (opens_slice (eL 1 (eL 4 (e154))) 1 (fun _ => rfl) Try.underlying38 (by kernel_rfl) (by kernel_rfl) rfl (opens_slice (eL 4 (e154)) 1 (fun _ => rfl) Try.underlying106 (by kernel_rfl) (by kernel_rfl) rfl (opens_slice (e154) 4 (fun _ => rfl) Try.underlying139 (by kernel_rfl) (by kernel_rfl) rfl opens154))) (opensF_cons (n := 1) rfl (by kernel_rfl) (opens_slice (e110) 4 (fun _ => rfl) Try.underlying39 (by kernel_rfl) (by kernel_rfl) rfl opens110) (opensF_cons (n := 1) rfl (by kernel_rfl) (opens_slice (e113) 5 (fun _ => rfl) Try.underlying40 (by kernel_rfl) (by kernel_rfl) rfl opens113) (opensF_cons (n := 5) rfl (by kernel_rfl) opens44 (opensF_cons (n := 1) rfl (by kernel_rfl) (opens_slice (e117) 3 (fun _ => rfl) Try.underlying45 (by kernel_rfl) (by kernel_rfl) rfl opens117) (opensF_cons (n := 1) rfl (by kernel_rfl) (opens_int Try.underlying3 (by kernel_rfl)) (opensF_cons (n := 1) rfl (by kernel_rfl) (opens_slice (eI .i64) 1 (fun _ => rfl) Try.underlying26 (by kernel_rfl) (by kernel_rfl) rfl (opens_int Try.underlying3 (by kernel_rfl))) (opensF_one (n := 1) rfl (by kernel_rfl) (opens_slice (e125) 4 (fun _ => rfl) Try.underlying46 (by kernel_rfl) (by kernel_rfl) rfl opens125)))))))))
/-- What is to be proved of lists and numbers alone. -/
def Pure : Prop := ∀ (l0_0 : List (List (List S154))) (l0_1 : List S110) (l0_2 : List S113) (l0_3 : List S146) (l0_4 : List Int) (l0_5 : List S148) (a0_6 : Int) (l0_7 : List Int) (l0_8 : List S117) (a0_9 : Int) (l0_10 : List Int) (l0_11 : List S125) (a1 : Int), (OkL (OkL (OkL Ok154))) l0_0 → (OkL Ok110) l0_1 → (OkL Ok113) l0_2 → (OkL Ok146) l0_3 → (OkL (OkN .i64)) l0_4 → (OkL Ok148) l0_5 → (OkN .i64) a0_6 → (OkL (OkN .i64)) l0_7 → (OkL Ok117) l0_8 → (OkN .i64) a0_9 → (OkL (OkN .i64)) l0_10 → (OkL Ok125) l0_11 → (OkN .i64) a1 → ∃ k, laws_FnExactFiledOf.f k l0_0 l0_1 l0_2 l0_3 l0_4 l0_5 a0_6 l0_7 l0_8 a0_9 l0_10 l0_11 a1 = some true
set_option maxRecDepth 100000 in
theorem lifted (Q : Pure) (os : Os) (started : os.Started) (H : Type) (enc : TypeId × Value → H) :
    ReturnsInHanded {} Try.checked os 4 .any (Rows.fnExactFiledOfSpec.pre6 enc Try.prog Try.f4 Rows.fnExactFiledOfRow.domain false) (Rows.fnExactFiledOfSpec.post enc Try.prog Try.f4 false true false false) := by
  refine returnsInHanded_of_change_sized (C := Try.checked) own started (by kernel_rfl) Try.func4
    (ChangeSpec.witness6 (enc := enc) (C := Try.checked) false ⟨#[], #[.agg #[.slice none 0 0, .slice none 0 0, .slice none 0 0, .slice none 0 0, .slice none 0 0, .slice none 0 0, .int .i64 0, .slice none 0 0, .slice none 0 0, .int .i64 0, .slice none 0 0, .slice none 0 0], .int .i64 0], []⟩ 8 (by kernel_rfl) (by kernel_rfl) (by kernel_rfl) (by kernel_rfl)) ?_
  intro W base args ds gs before hval0 hW hcnd hsz0 _
  have hsz : (DataW.weightsEach Try.prog (Try.f4.params.toList ++ Rows.fnExactFiledOfSpec.plain.varTypes Try.prog) (ds ++ gs)).all (· ≤ reachBytes) = true := hsz0
  have hval : ∀ (j : Nat) t v, Try.f4.params[j]? = some t → args[j]? = some v → Value.okWide Try.prog W .any base t v := hval0
  have hW' := hW
  obtain ⟨p, q, hA0, hV, rfl, hfz, hnd⟩ := hW
  have hA : DataW.TrodAll enc Try.prog W 0 (fun _ => true) true Try.f4.params.toList args.toList ds p := hA0
  rw [Try.params4] at hA hval hsz
  obtain ⟨v0, vs0, d0, ds0, p0, q0, hargs, rfl, rfl, h0, r0⟩ := trodAll_cons hA
  obtain ⟨v1, vs1, d1, ds1, p1, q1, rfl, rfl, rfl, h1, r1⟩ := trodAll_cons r0
  obtain ⟨rfl, rfl, rfl⟩ := trodAll_nil r1
  obtain rfl : args = #[v0, v1] := by cases args; simp_all
  obtain ⟨rfl, rfl⟩ := trodVars_none hV
  have k0 := h0
  have lt0 : ∀ x ∈ p0, x.block < W.heap.size := by obtain ⟨m, hm⟩ := k0; exact DataW.trod_lt m _ _ _ hm
  obtain ⟨x0, g0, o0⟩ := arg_struct Try.underlying48 opens48 (hval 0 48 v0 rfl rfl) h0
  have k1 := h1
  have lt1 : ∀ x ∈ p1, x.block < W.heap.size := by obtain ⟨m, hm⟩ := k1; exact DataW.trod_lt m _ _ _ hm
  obtain ⟨z1, rfl, rfl, rfl, o1⟩ := open_int Try.underlying3 (hval 1 3 v1 rfl rfl) h1
  clear hA0 hval0 hsz0 hsz
  obtain ⟨k, hk⟩ := Q x0.f0 x0.f1 x0.f2 x0.f3.f0 x0.f3.f1 x0.f3.f2 x0.f3.f3 x0.f3.f4 x0.f4 x0.f5 x0.f6 x0.f7 z1 o0.1 o0.2.1 o0.2.2.1 o0.2.2.2.1.1 o0.2.2.2.1.2.1 o0.2.2.2.1.2.2.1 o0.2.2.2.1.2.2.2.1 o0.2.2.2.1.2.2.2.2 o0.2.2.2.2.1 o0.2.2.2.2.2.1 o0.2.2.2.2.2.2.1 o0.2.2.2.2.2.2.2 o1
  refine (law_calls (laws_FnExactFiledOf.ok hk) (Fa.cons g0 (Fa.cons hasA_int Fa.nil))).mono ?_
  rintro e W' ⟨he, bel⟩
  subst he
  exact ⟨_, rfl, _, _, _, [], _, [], hW', trodAll_mk1 (shut_bool Try.underlying4 _), (trodAll_cons_mk (Below.trod laidOut (by kernel_rfl) (of_decide_eq_true (by kernel_rfl)) k0 bel lt0) (trodAll_cons_mk (Below.trod laidOut (by kernel_rfl) (of_decide_eq_true (by kernel_rfl)) k1 bel lt1) trodAll_mk0)), rfl, bel.frame _, fun h => by cases h⟩
theorem over (Q : Pure) : Rows.fnExactFiledOfRow.holds Try.pinned (OpenSpec.ofChange Rows.fnExactFiledOfSpec) :=
  OpenClaim.holds_of_wide 4 Try.f4 rfl rfl rfl rfl rfl rfl rfl ⟨rfl, rfl, rfl, rfl, rfl⟩ rfl rfl rfl rfl rfl (by kernel_rfl) Try.func4 (by kernel_rfl)
    (of_decide_eq_true (by kernel_rfl)) (by unfold Func.isWrapper; first | (rw [if_pos (by decide +kernel)]; kernel_rfl) | (rw [if_neg (by decide +kernel)]; exact ⟨rfl, rfl⟩))
    (fun os started H enc _ => lifted Q os started H enc)
theorem row (Q : Pure) : Rows.FnExactFiledOfSaid := over Q
end Go.Proofs.Ytkkglhhkpihmgaa.AFnExactFiledOf
