/- The given row of laws.FnExactCalmWorld out of a pure statement about lists and numbers: whatever the input. -/
import Derived.Test.YtkkglhhkpihmgaaGreatRows
import Derived.Test.YtkkglhhkpihmgaaGreatPFnExactCalmWorldx7
import Derived.Test.YtkkglhhkpihmgaaGreatA21
import Derived.WalkKit
import Derived.ProofKit
import Derived.OpenShut
import Derived.ShutString
import Derived.ChangeOld
import Derived.Below
import Derived.SizedLaws
namespace Go.Proofs.YtkkglhhkpihmgaaGreat.AFnExactCalmWorld
open Go.ChangeShapes Go.WideShapes Go.ChangeAt Go.RowKit Go.Proofs.YtkkglhhkpihmgaaGreatA Go.Proofs.YtkkglhhkpihmgaaGreat.PFnExactCalmWorld
open Go.ChangeMaps (open_string shut_string)
set_option linter.unusedVariables false
theorem own : ownKnob Tryz.prog.godebug = none := by kernel_rfl
theorem laidOut : laidOutB Tryz.prog = true := by kernel_rfl
def Ok308 (x : S308) : Prop := (OkN .i64) x.f0 ∧ (OkN .i64) x.f1 ∧ (OkN .i64) x.f2 ∧ (OkN .i64) x.f3
set_option maxRecDepth 100000 in
theorem opens308 : Opens Tryz.prog 308 (fun b : S308 => (e308 b).leaves) Ok308 :=
  opens_struct (fun x : S308 => (x.f0, x.f1, x.f2, x.f3)) _ (fun _ => rfl) (fun a => ⟨⟨a.1, a.2.1, a.2.2.1, a.2.2.2⟩, rfl⟩) Tryz.underlying308 (l := [_, _, _, _]) rfl (by kernel_rfl) (opensF_cons (n := 1) rfl (by kernel_rfl) (opens_int Tryz.underlying3 (by kernel_rfl)) (opensF_cons (n := 1) rfl (by kernel_rfl) (opens_int Tryz.underlying3 (by kernel_rfl)) (opensF_cons (n := 1) rfl (by kernel_rfl) (opens_int Tryz.underlying3 (by kernel_rfl)) (opensF_one (n := 1) rfl (by kernel_rfl) (opens_int Tryz.underlying3 (by kernel_rfl))))))
def Ok266 (x : S266) : Prop := (OkN .i64) x.f0 ∧ (OkN .i64) x.f1 ∧ (OkN .i64) x.f2 ∧ (OkN .i64) x.f3
set_option maxRecDepth 100000 in
theorem opens266 : Opens Tryz.prog 266 (fun b : S266 => (e266 b).leaves) Ok266 :=
  opens_struct (fun x : S266 => (x.f0, x.f1, x.f2, x.f3)) _ (fun _ => rfl) (fun a => ⟨⟨a.1, a.2.1, a.2.2.1, a.2.2.2⟩, rfl⟩) Tryz.underlying266 (l := [_, _, _, _]) rfl (by kernel_rfl) (opensF_cons (n := 1) rfl (by kernel_rfl) (opens_int Tryz.underlying3 (by kernel_rfl)) (opensF_cons (n := 1) rfl (by kernel_rfl) (opens_int Tryz.underlying3 (by kernel_rfl)) (opensF_cons (n := 1) rfl (by kernel_rfl) (opens_int Tryz.underlying3 (by kernel_rfl)) (opensF_one (n := 1) rfl (by kernel_rfl) (opens_int Tryz.underlying3 (by kernel_rfl))))))
def Ok187 (x : S187) : Prop := (OkL Ok266) x.f0 ∧ (OkN .i64) x.f1 ∧ (OkN .i64) x.f2 ∧ (OkN .i64) x.f3
set_option maxRecDepth 100000 in
theorem opens187 : Opens Tryz.prog 187 (fun b : S187 => (e187 b).leaves) Ok187 :=
  opens_struct (fun x : S187 => (x.f0, x.f1, x.f2, x.f3)) _ (fun _ => rfl) (fun a => ⟨⟨a.1, a.2.1, a.2.2.1, a.2.2.2⟩, rfl⟩) Tryz.underlying187 (l := [_, _, _, _]) rfl (by kernel_rfl) (opensF_cons (n := 1) rfl (by kernel_rfl) (opens_slice (e266) 4 (fun _ => rfl) Tryz.underlying185 (by kernel_rfl) (by kernel_rfl) rfl opens266) (opensF_cons (n := 1) rfl (by kernel_rfl) (opens_int Tryz.underlying3 (by kernel_rfl)) (opensF_cons (n := 1) rfl (by kernel_rfl) (opens_int Tryz.underlying3 (by kernel_rfl)) (opensF_one (n := 1) rfl (by kernel_rfl) (opens_int Tryz.underlying3 (by kernel_rfl))))))
def Ok190 (x : S190) : Prop := (OkN .i64) x.f0 ∧ (OkN .i64) x.f1 ∧ (OkL Ok266) x.f2 ∧ (OkN .i64) x.f3 ∧ (OkN .i64) x.f4
set_option maxRecDepth 100000 in
theorem opens190 : Opens Tryz.prog 190 (fun b : S190 => (e190 b).leaves) Ok190 :=
  opens_struct (fun x : S190 => (x.f0, x.f1, x.f2, x.f3, x.f4)) _ (fun _ => rfl) (fun a => ⟨⟨a.1, a.2.1, a.2.2.1, a.2.2.2.1, a.2.2.2.2⟩, rfl⟩) Tryz.underlying190 (l := [_, _, _, _, _]) rfl (by kernel_rfl) (opensF_cons (n := 1) rfl (by kernel_rfl) (opens_int Tryz.underlying3 (by kernel_rfl)) (opensF_cons (n := 1) rfl (by kernel_rfl) (opens_int Tryz.underlying3 (by kernel_rfl)) (opensF_cons (n := 1) rfl (by kernel_rfl) (opens_slice (e266) 4 (fun _ => rfl) Tryz.underlying185 (by kernel_rfl) (by kernel_rfl) rfl opens266) (opensF_cons (n := 1) rfl (by kernel_rfl) (opens_int Tryz.underlying3 (by kernel_rfl)) (opensF_one (n := 1) rfl (by kernel_rfl) (opens_int Tryz.underlying3 (by kernel_rfl)))))))
def Ok268 (x : S268) : Prop := (OkN .i64) x.f0 ∧ (OkN .i64) x.f1 ∧ Ok266 x.f2
set_option maxRecDepth 100000 in
theorem opens268 : Opens Tryz.prog 268 (fun b : S268 => (e268 b).leaves) Ok268 :=
  opens_struct (fun x : S268 => (x.f0, x.f1, x.f2)) _ (fun _ => rfl) (fun a => ⟨⟨a.1, a.2.1, a.2.2⟩, rfl⟩) Tryz.underlying268 (l := [_, _, _]) rfl (by kernel_rfl) (opensF_cons (n := 1) rfl (by kernel_rfl) (opens_int Tryz.underlying3 (by kernel_rfl)) (opensF_cons (n := 1) rfl (by kernel_rfl) (opens_int Tryz.underlying3 (by kernel_rfl)) (opensF_one (n := 4) rfl (by kernel_rfl) opens266)))
def Ok270 (x : S270) : Prop := (OkN .i64) x.f0 ∧ (OkN .i64) x.f1 ∧ Ok266 x.f2
set_option maxRecDepth 100000 in
theorem opens270 : Opens Tryz.prog 270 (fun b : S270 => (e270 b).leaves) Ok270 :=
  opens_struct (fun x : S270 => (x.f0, x.f1, x.f2)) _ (fun _ => rfl) (fun a => ⟨⟨a.1, a.2.1, a.2.2⟩, rfl⟩) Tryz.underlying270 (l := [_, _, _]) rfl (by kernel_rfl) (opensF_cons (n := 1) rfl (by kernel_rfl) (opens_int Tryz.underlying3 (by kernel_rfl)) (opensF_cons (n := 1) rfl (by kernel_rfl) (opens_int Tryz.underlying3 (by kernel_rfl)) (opensF_one (n := 4) rfl (by kernel_rfl) opens266)))
def Ok29 (x : S29) : Prop := (OkL Ok268) x.f0 ∧ (OkL (OkN .i64)) x.f1 ∧ (OkL Ok270) x.f2 ∧ (OkN .i64) x.f3 ∧ (OkL (OkN .i64)) x.f4
set_option maxRecDepth 100000 in
theorem opens29 : Opens Tryz.prog 29 (fun b : S29 => (e29 b).leaves) Ok29 :=
  opens_struct (fun x : S29 => (x.f0, x.f1, x.f2, x.f3, x.f4)) _ (fun _ => rfl) (fun a => ⟨⟨a.1, a.2.1, a.2.2.1, a.2.2.2.1, a.2.2.2.2⟩, rfl⟩) Tryz.underlying29 (l := [_, _, _, _, _]) rfl (by kernel_rfl) (opensF_cons (n := 1) rfl (by kernel_rfl) (opens_slice (e268) 6 (fun _ => rfl) Tryz.underlying25 (by kernel_rfl) (by kernel_rfl) rfl opens268) (opensF_cons (n := 1) rfl (by kernel_rfl) (opens_slice (eI .i64) 1 (fun _ => rfl) Tryz.underlying26 (by kernel_rfl) (by kernel_rfl) rfl (opens_int Tryz.underlying3 (by kernel_rfl))) (opensF_cons (n := 1) rfl (by kernel_rfl) (opens_slice (e270) 6 (fun _ => rfl) Tryz.underlying27 (by kernel_rfl) (by kernel_rfl) rfl opens270) (opensF_cons (n := 1) rfl (by kernel_rfl) (opens_int Tryz.underlying3 (by kernel_rfl)) (opensF_one (n := 1) rfl (by kernel_rfl) (opens_slice (eI .i64) 1 (fun _ => rfl) Tryz.underlying26 (by kernel_rfl) (by kernel_rfl) rfl (opens_int Tryz.underlying3 (by kernel_rfl))))))))
def Ok194 (x : S194) : Prop := OkT x.f0 ∧ OkS x.f1 ∧ OkT x.f2
set_option maxRecDepth 100000 in
theorem opens194 : Opens Tryz.prog 194 (fun b : S194 => (e194 b).leaves) Ok194 :=
  opens_struct (fun x : S194 => (x.f0, x.f1, x.f2)) _ (fun _ => rfl) (fun a => ⟨⟨a.1, a.2.1, a.2.2⟩, rfl⟩) Tryz.underlying194 (l := [_, _, _]) rfl (by kernel_rfl) (opensF_cons (n := 1) rfl (by kernel_rfl) (opens_bool Tryz.underlying4 (by kernel_rfl)) (opensF_cons (n := 1) rfl (by kernel_rfl) (opens_string Tryz.underlying9 (by kernel_rfl)) (opensF_one (n := 1) rfl (by kernel_rfl) (opens_bool Tryz.underlying4 (by kernel_rfl)))))
def Ok210 (x : S210) : Prop := (OkN .i64) x.f0 ∧ (OkN .i64) x.f1 ∧ (OkN .i64) x.f2 ∧ OkT x.f3
set_option maxRecDepth 100000 in
theorem opens210 : Opens Tryz.prog 210 (fun b : S210 => (e210 b).leaves) Ok210 :=
  opens_struct (fun x : S210 => (x.f0, x.f1, x.f2, x.f3)) _ (fun _ => rfl) (fun a => ⟨⟨a.1, a.2.1, a.2.2.1, a.2.2.2⟩, rfl⟩) Tryz.underlying210 (l := [_, _, _, _]) rfl (by kernel_rfl) (opensF_cons (n := 1) rfl (by kernel_rfl) (opens_int Tryz.underlying3 (by kernel_rfl)) (opensF_cons (n := 1) rfl (by kernel_rfl) (opens_int Tryz.underlying3 (by kernel_rfl)) (opensF_cons (n := 1) rfl (by kernel_rfl) (opens_int Tryz.underlying3 (by kernel_rfl)) (opensF_one (n := 1) rfl (by kernel_rfl) (opens_bool Tryz.underlying4 (by kernel_rfl))))))
def Ok33 (x : S33) : Prop := (OkL (OkL (OkL Ok308))) x.f0 ∧ (OkL Ok187) x.f1 ∧ (OkL Ok190) x.f2 ∧ Ok29 x.f3 ∧ (OkL Ok194) x.f4 ∧ (OkN .i64) x.f5 ∧ (OkL (OkN .i64)) x.f6 ∧ (OkL Ok210) x.f7
set_option maxRecDepth 100000 in
theorem opens33 : Opens Tryz.prog 33 (fun b : S33 => (e33 b).leaves) Ok33 :=
  opens_struct (fun x : S33 => (x.f0, x.f1, x.f2, x.f3, x.f4, x.f5, x.f6, x.f7)) _ (fun _ => rfl) (fun a => ⟨⟨a.1, a.2.1, a.2.2.1, a.2.2.2.1, a.2.2.2.2.1, a.2.2.2.2.2.1, a.2.2.2.2.2.2.1, a.2.2.2.2.2.2.2⟩, rfl⟩) Tryz.underlying33 (l := [_, _, _, _, _, _, _, _]) rfl (by kernel_rfl) (opensF_cons (n := 1) rfl (by kernel_rfl) (opens_slice (eL 1 (eL 4 (e308))) 1 (fun _ => rfl) Tryz.underlying22 (by kernel_rfl) (by kernel_rfl) rfl (opens_slice (eL 4 (e308)) 1 (fun _ => rfl) Tryz.underlying183 (by kernel_rfl) (by kernel_rfl) rfl (opens_slice (e308) 4 (fun _ => rfl) Tryz.underlying260 (by kernel_rfl) (by kernel_rfl) rfl opens308))) (opensF_cons (n := 1) rfl (by kernel_rfl) (opens_slice (e187) 4 (fun _ => rfl) Tryz.underlying23 (by kernel_rfl) (by kernel_rfl) rfl opens187) (opensF_cons (n := 1) rfl (by kernel_rfl) (opens_slice (e190) 5 (fun _ => rfl) Tryz.underlying24 (by kernel_rfl) (by kernel_rfl) rfl opens190) (opensF_cons (n := 5) rfl (by kernel_rfl) opens29 (opensF_cons (n := 1) rfl (by kernel_rfl) (opens_slice (e194) 3 (fun _ => rfl) Tryz.underlying30 (by kernel_rfl) (by kernel_rfl) rfl opens194) (opensF_cons (n := 1) rfl (by kernel_rfl) (opens_int Tryz.underlying3 (by kernel_rfl)) (opensF_cons (n := 1) rfl (by kernel_rfl) (opens_slice (eI .i64) 1 (fun _ => rfl) Tryz.underlying26 (by kernel_rfl) (by kernel_rfl) rfl (opens_int Tryz.underlying3 (by kernel_rfl))) (opensF_one (n := 1) rfl (by kernel_rfl) (opens_slice (e210) 4 (fun _ => rfl) Tryz.underlying31 (by kernel_rfl) (by kernel_rfl) rfl opens210)))))))))
/-- What is to be proved of lists and numbers alone. -/
def Pure : Prop := ∀ (l0_0 : List (List (List S308))) (l0_1 : List S187) (l0_2 : List S190) (l0_3 : List S268) (l0_4 : List Int) (l0_5 : List S270) (a0_6 : Int) (l0_7 : List Int) (l0_8 : List S194) (a0_9 : Int) (l0_10 : List Int) (l0_11 : List S210) (a1 : Int), (OkL (OkL (OkL Ok308))) l0_0 → (OkL Ok187) l0_1 → (OkL Ok190) l0_2 → (OkL Ok268) l0_3 → (OkL (OkN .i64)) l0_4 → (OkL Ok270) l0_5 → (OkN .i64) a0_6 → (OkL (OkN .i64)) l0_7 → (OkL Ok194) l0_8 → (OkN .i64) a0_9 → (OkL (OkN .i64)) l0_10 → (OkL Ok210) l0_11 → (OkN .i64) a1 → ∃ k, laws_FnExactCalmWorld.f k l0_0 l0_1 l0_2 l0_3 l0_4 l0_5 a0_6 l0_7 l0_8 a0_9 l0_10 l0_11 a1 = some true
set_option maxRecDepth 100000 in
theorem lifted (Q : Pure) (os : Os) (started : os.Started) (H : Type) (enc : TypeId × Value → H) :
    ReturnsInHanded {} Tryz.checked os 3 .any (Rows.fnExactCalmWorldSpec.pre6 enc Tryz.prog Tryz.f3 Rows.fnExactCalmWorldRow.domain false) (Rows.fnExactCalmWorldSpec.post enc Tryz.prog Tryz.f3 false true false false) := by
  refine returnsInHanded_of_change_sized (C := Tryz.checked) own started (by kernel_rfl) Tryz.func3
    (ChangeSpec.witness6 (enc := enc) (C := Tryz.checked) false ⟨#[], #[.agg #[.slice none 0 0, .slice none 0 0, .slice none 0 0, .slice none 0 0, .slice none 0 0, .slice none 0 0, .int .i64 0, .slice none 0 0, .slice none 0 0, .int .i64 0, .slice none 0 0, .slice none 0 0], .int .i64 0], []⟩ 8 (by kernel_rfl) (by kernel_rfl) (by kernel_rfl) (by kernel_rfl)) ?_
  intro W base args ds gs before hval0 hW hcnd hsz0 _
  have hsz : (DataW.weightsEach Tryz.prog (Tryz.f3.params.toList ++ Rows.fnExactCalmWorldSpec.plain.varTypes Tryz.prog) (ds ++ gs)).all (· ≤ reachBytes) = true := hsz0
  have hval : ∀ (j : Nat) t v, Tryz.f3.params[j]? = some t → args[j]? = some v → Value.okWide Tryz.prog W .any base t v := hval0
  have hW' := hW
  obtain ⟨p, q, hA0, hV, rfl, hfz, hnd⟩ := hW
  have hA : DataW.TrodAll enc Tryz.prog W 0 (fun _ => true) true Tryz.f3.params.toList args.toList ds p := hA0
  rw [Tryz.params3] at hA hval hsz
  obtain ⟨v0, vs0, d0, ds0, p0, q0, hargs, rfl, rfl, h0, r0⟩ := trodAll_cons hA
  obtain ⟨v1, vs1, d1, ds1, p1, q1, rfl, rfl, rfl, h1, r1⟩ := trodAll_cons r0
  obtain ⟨rfl, rfl, rfl⟩ := trodAll_nil r1
  obtain rfl : args = #[v0, v1] := by cases args; simp_all
  obtain ⟨rfl, rfl⟩ := trodVars_none hV
  have k0 := h0
  have lt0 : ∀ x ∈ p0, x.block < W.heap.size := by obtain ⟨m, hm⟩ := k0; exact DataW.trod_lt m _ _ _ hm
  obtain ⟨x0, g0, o0⟩ := arg_struct Tryz.underlying33 opens33 (hval 0 33 v0 rfl rfl) h0
  have k1 := h1
  have lt1 : ∀ x ∈ p1, x.block < W.heap.size := by obtain ⟨m, hm⟩ := k1; exact DataW.trod_lt m _ _ _ hm
  obtain ⟨z1, rfl, rfl, rfl, o1⟩ := open_int Tryz.underlying3 (hval 1 3 v1 rfl rfl) h1
  clear hA0 hval0 hsz0 hsz
  obtain ⟨k, hk⟩ := Q x0.f0 x0.f1 x0.f2 x0.f3.f0 x0.f3.f1 x0.f3.f2 x0.f3.f3 x0.f3.f4 x0.f4 x0.f5 x0.f6 x0.f7 z1 o0.1 o0.2.1 o0.2.2.1 o0.2.2.2.1.1 o0.2.2.2.1.2.1 o0.2.2.2.1.2.2.1 o0.2.2.2.1.2.2.2.1 o0.2.2.2.1.2.2.2.2 o0.2.2.2.2.1 o0.2.2.2.2.2.1 o0.2.2.2.2.2.2.1 o0.2.2.2.2.2.2.2 o1
  refine (law_calls (laws_FnExactCalmWorld.ok hk) (Fa.cons g0 (Fa.cons hasA_int Fa.nil))).mono ?_
  rintro e W' ⟨he, bel⟩
  subst he
  exact ⟨_, rfl, _, _, _, [], _, [], hW', trodAll_mk1 (shut_bool Tryz.underlying4 _), (trodAll_cons_mk (Below.trod laidOut (by kernel_rfl) (of_decide_eq_true (by kernel_rfl)) k0 bel lt0) (trodAll_cons_mk (Below.trod laidOut (by kernel_rfl) (of_decide_eq_true (by kernel_rfl)) k1 bel lt1) trodAll_mk0)), rfl, bel.frame _, fun h => by cases h⟩
theorem tt {a b : Bool} (h : a = true) (k : b = true) : (a && b) = true := by rw [h, k]; rfl
theorem joined {P : Program} {f : FuncId} {fn : Func} {s : ChangeSpec} {c : OpenClaim} (k0 : (c.wf (OpenSpec.ofChange s)) = true) (k1 : (laidOutB P) = true) (k2 : (mapsRowed P) = true) (k3 : (fn.params.all (P.readableRec ·)) = true) (k4 : (namedTie P c.named s.vars) = true) (k5 : ((c.stops == [])) = true) (k6 : ((P.stops == [])) = true) (k7 : ((c.knobs == [])) = true) (k8 : ((P.stopKnobs == [])) = true) (k9 : ((c.inPlace == P.inPlace f)) = true) (k10 : ((c.unfollowed == P.unfollowed f)) = true) (k11 : ((c.recurses == P.recurses f)) = true) (k12 : ((c.named == P.varsNamed f)) = true) (k13 : ((c.maps == (fn.params.toList ++ s.plain.varTypes P).any (P.mapsRec ·))) = true) (k14 : ((c.ifaces == (fn.params.toList ++ s.plain.varTypes P).any (P.ifacesRec ·))) = true) (k15 : ((c.mapsOut == P.mapsAmong fn.resultTypes.toList)) = true) (k16 : ((c.loops == (fn.params.toList ++ s.plain.varTypes P).any (P.loopsFrom ·))) = true) (k17 : ((c.wideKeys == (fn.params.toList ++ s.plain.varTypes P ++ fn.resultTypes.toList).any (P.wideKeysFrom ·))) = true) (k18 : (s.vars.all (P.varReadable ·)) = true) (k19 : (fn.resultTypes.all (fun t => P.readableRec t && decide (t < P.types.size))) = true) (k20 : ((c.ifacesOut == fn.resultTypes.toList.any (P.ifacesRec ·))) = true) (k21 : ((c.loopsOut == fn.resultTypes.toList.any (P.loopsFrom ·))) = true) (k22 : ((c.plainKeys == P.plainKeys)) = true) (k23 : (c.shortTexts.isNone) = true) (k24 : (P.stopsHeard) = true) (k25 : (P.mayEnter) = true) (k26 : ((c.lifted == P.liftsFinal)) = true) (k27 : ((P.make == some c.make)) = true) (k28 : ((c.kinds == (if c.domain.isEmpty then [] else fn.params.toList.map fun t => match P.underlying t with | some (.int k) => some k | _ => none))) = true) (k29 : ((c.pinned == c.pinnedBy)) = true) (k30 : ((c.veiled == (fn.params.toList ++ s.plain.varTypes P ++ fn.resultTypes.toList).any (P.veiledRec ·))) = true) (k31 : (c.veiledFits P fn.params.toList (fn.params.toList ++ s.plain.varTypes P ++ fn.resultTypes.toList)) = true) : joinedFacts P f fn s c = true := tt (tt (tt (tt (tt (tt (tt (tt (tt (tt (tt (tt (tt (tt (tt (tt (tt (tt (tt (tt (tt (tt (tt (tt (tt (tt (tt (tt (tt (tt (tt k0 k1) k2) k3) k4) k5) k6) k7) k8) k9) k10) k11) k12) k13) k14) k15) k16) k17) k18) k19) k20) k21) k22) k23) k24) k25) k26) k27) k28) k29) k30) k31
theorem jf0 : (Go.Proofs.YtkkglhhkpihmgaaGreat.Rows.fnExactCalmWorldRow.wf (OpenSpec.ofChange Go.Proofs.YtkkglhhkpihmgaaGreat.Rows.fnExactCalmWorldSpec)) = true := by kernel_rfl
theorem jf1 : (laidOutB Tryz.prog) = true := by kernel_rfl
theorem jf2 : (mapsRowed Tryz.prog) = true := by kernel_rfl
theorem jf3 : (Tryz.f3.params.all (Tryz.prog.readableRec ·)) = true := by kernel_rfl
theorem jf4 : (namedTie Tryz.prog Go.Proofs.YtkkglhhkpihmgaaGreat.Rows.fnExactCalmWorldRow.named Go.Proofs.YtkkglhhkpihmgaaGreat.Rows.fnExactCalmWorldSpec.vars) = true := by kernel_rfl
theorem jf5 : ((Go.Proofs.YtkkglhhkpihmgaaGreat.Rows.fnExactCalmWorldRow.stops == [])) = true := by kernel_rfl
theorem jf6 : ((Tryz.prog.stops == [])) = true := by kernel_rfl
theorem jf7 : ((Go.Proofs.YtkkglhhkpihmgaaGreat.Rows.fnExactCalmWorldRow.knobs == [])) = true := by kernel_rfl
theorem jf8 : ((Tryz.prog.stopKnobs == [])) = true := by kernel_rfl
theorem jf9 : ((Go.Proofs.YtkkglhhkpihmgaaGreat.Rows.fnExactCalmWorldRow.inPlace == Tryz.prog.inPlace 3)) = true := by kernel_rfl
theorem jf10 : ((Go.Proofs.YtkkglhhkpihmgaaGreat.Rows.fnExactCalmWorldRow.unfollowed == Tryz.prog.unfollowed 3)) = true := by kernel_rfl
theorem jf11 : ((Go.Proofs.YtkkglhhkpihmgaaGreat.Rows.fnExactCalmWorldRow.recurses == Tryz.prog.recurses 3)) = true := by kernel_rfl
theorem jf12 : ((Go.Proofs.YtkkglhhkpihmgaaGreat.Rows.fnExactCalmWorldRow.named == Tryz.prog.varsNamed 3)) = true := by kernel_rfl
theorem jf13 : ((Go.Proofs.YtkkglhhkpihmgaaGreat.Rows.fnExactCalmWorldRow.maps == (Tryz.f3.params.toList ++ Go.Proofs.YtkkglhhkpihmgaaGreat.Rows.fnExactCalmWorldSpec.plain.varTypes Tryz.prog).any (Tryz.prog.mapsRec ·))) = true := by kernel_rfl
theorem jf14 : ((Go.Proofs.YtkkglhhkpihmgaaGreat.Rows.fnExactCalmWorldRow.ifaces == (Tryz.f3.params.toList ++ Go.Proofs.YtkkglhhkpihmgaaGreat.Rows.fnExactCalmWorldSpec.plain.varTypes Tryz.prog).any (Tryz.prog.ifacesRec ·))) = true := by kernel_rfl
theorem jf15 : ((Go.Proofs.YtkkglhhkpihmgaaGreat.Rows.fnExactCalmWorldRow.mapsOut == Tryz.prog.mapsAmong Tryz.f3.resultTypes.toList)) = true := by kernel_rfl
theorem jf16 : ((Go.Proofs.YtkkglhhkpihmgaaGreat.Rows.fnExactCalmWorldRow.loops == (Tryz.f3.params.toList ++ Go.Proofs.YtkkglhhkpihmgaaGreat.Rows.fnExactCalmWorldSpec.plain.varTypes Tryz.prog).any (Tryz.prog.loopsFrom ·))) = true := by kernel_rfl
theorem jf17 : ((Go.Proofs.YtkkglhhkpihmgaaGreat.Rows.fnExactCalmWorldRow.wideKeys == (Tryz.f3.params.toList ++ Go.Proofs.YtkkglhhkpihmgaaGreat.Rows.fnExactCalmWorldSpec.plain.varTypes Tryz.prog ++ Tryz.f3.resultTypes.toList).any (Tryz.prog.wideKeysFrom ·))) = true := by kernel_rfl
theorem jf18 : (Go.Proofs.YtkkglhhkpihmgaaGreat.Rows.fnExactCalmWorldSpec.vars.all (Tryz.prog.varReadable ·)) = true := by kernel_rfl
theorem jf19 : (Tryz.f3.resultTypes.all (fun t => Tryz.prog.readableRec t && decide (t < Tryz.prog.types.size))) = true := by kernel_rfl
theorem jf20 : ((Go.Proofs.YtkkglhhkpihmgaaGreat.Rows.fnExactCalmWorldRow.ifacesOut == Tryz.f3.resultTypes.toList.any (Tryz.prog.ifacesRec ·))) = true := by kernel_rfl
theorem jf21 : ((Go.Proofs.YtkkglhhkpihmgaaGreat.Rows.fnExactCalmWorldRow.loopsOut == Tryz.f3.resultTypes.toList.any (Tryz.prog.loopsFrom ·))) = true := by kernel_rfl
theorem jf22 : ((Go.Proofs.YtkkglhhkpihmgaaGreat.Rows.fnExactCalmWorldRow.plainKeys == Tryz.prog.plainKeys)) = true := by kernel_rfl
theorem jf23 : (Go.Proofs.YtkkglhhkpihmgaaGreat.Rows.fnExactCalmWorldRow.shortTexts.isNone) = true := by kernel_rfl
theorem jf24 : (Tryz.prog.stopsHeard) = true := by kernel_rfl
theorem jf25 : (Tryz.prog.mayEnter) = true := by kernel_rfl
theorem jf26 : ((Go.Proofs.YtkkglhhkpihmgaaGreat.Rows.fnExactCalmWorldRow.lifted == Tryz.prog.liftsFinal)) = true := by kernel_rfl
theorem jf27 : ((Tryz.prog.make == some Go.Proofs.YtkkglhhkpihmgaaGreat.Rows.fnExactCalmWorldRow.make)) = true := by kernel_rfl
theorem jf28 : ((Go.Proofs.YtkkglhhkpihmgaaGreat.Rows.fnExactCalmWorldRow.kinds == (if Go.Proofs.YtkkglhhkpihmgaaGreat.Rows.fnExactCalmWorldRow.domain.isEmpty then [] else Tryz.f3.params.toList.map fun t => match Tryz.prog.underlying t with | some (.int k) => some k | _ => none))) = true := by kernel_rfl
theorem jf29 : ((Go.Proofs.YtkkglhhkpihmgaaGreat.Rows.fnExactCalmWorldRow.pinned == Go.Proofs.YtkkglhhkpihmgaaGreat.Rows.fnExactCalmWorldRow.pinnedBy)) = true := by kernel_rfl
theorem jf30 : ((Go.Proofs.YtkkglhhkpihmgaaGreat.Rows.fnExactCalmWorldRow.veiled == (Tryz.f3.params.toList ++ Go.Proofs.YtkkglhhkpihmgaaGreat.Rows.fnExactCalmWorldSpec.plain.varTypes Tryz.prog ++ Tryz.f3.resultTypes.toList).any (Tryz.prog.veiledRec ·))) = true := by kernel_rfl
theorem jf31 : (Go.Proofs.YtkkglhhkpihmgaaGreat.Rows.fnExactCalmWorldRow.veiledFits Tryz.prog Tryz.f3.params.toList (Tryz.f3.params.toList ++ Go.Proofs.YtkkglhhkpihmgaaGreat.Rows.fnExactCalmWorldSpec.plain.varTypes Tryz.prog ++ Tryz.f3.resultTypes.toList)) = true := by kernel_rfl
theorem jf : joinedFacts Tryz.prog 3 Tryz.f3 Go.Proofs.YtkkglhhkpihmgaaGreat.Rows.fnExactCalmWorldSpec Go.Proofs.YtkkglhhkpihmgaaGreat.Rows.fnExactCalmWorldRow = true := joined jf0 jf1 jf2 jf3 jf4 jf5 jf6 jf7 jf8 jf9 jf10 jf11 jf12 jf13 jf14 jf15 jf16 jf17 jf18 jf19 jf20 jf21 jf22 jf23 jf24 jf25 jf26 jf27 jf28 jf29 jf30 jf31
theorem jn : Tryz.prog.funcNamed Go.Proofs.YtkkglhhkpihmgaaGreat.Rows.fnExactCalmWorldRow.func = some 3 := by kernel_rfl
theorem over (Q : Pure) : Rows.fnExactCalmWorldRow.holds Tryz.pinned (OpenSpec.ofChange Rows.fnExactCalmWorldSpec) :=
  OpenClaim.holds_of_wide 3 Tryz.f3 rfl rfl rfl rfl rfl rfl rfl ⟨rfl, rfl, rfl, rfl, rfl⟩ rfl rfl rfl rfl rfl jn Tryz.func3 jf
    (of_decide_eq_true (by kernel_rfl)) (by unfold Func.isWrapper; first | (rw [if_pos (by decide +kernel)]; kernel_rfl) | (rw [if_neg (by decide +kernel)]; exact ⟨rfl, rfl⟩))
    (fun os started H enc _ => lifted Q os started H enc)
theorem row (Q : Pure) : Rows.FnExactCalmWorldSaid := over Q
end Go.Proofs.YtkkglhhkpihmgaaGreat.AFnExactCalmWorld
