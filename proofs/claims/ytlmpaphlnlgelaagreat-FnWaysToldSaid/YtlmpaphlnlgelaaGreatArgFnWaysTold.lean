/- The given row of laws.FnWaysTold out of a pure statement about lists and numbers: whatever the input. -/
import Derived.Test.YtlmpaphlnlgelaaGreatRows
import Derived.Test.YtlmpaphlnlgelaaGreatPFnWaysToldx5
import Derived.Test.YtlmpaphlnlgelaaGreatA21
import Derived.WalkKit
import Derived.ProofKit
import Derived.OpenShut
import Derived.ShutString
import Derived.ChangeOld
import Derived.Below
import Derived.SizedLaws
namespace Go.Proofs.YtlmpaphlnlgelaaGreat.AFnWaysTold
open Go.ChangeShapes Go.WideShapes Go.ChangeAt Go.RowKit Go.Proofs.YtlmpaphlnlgelaaGreatA Go.Proofs.YtlmpaphlnlgelaaGreat.PFnWaysTold
open Go.ChangeMaps (open_string shut_string)
set_option linter.unusedVariables false
theorem own : ownKnob Tryz.prog.godebug = none := by kernel_rfl
theorem laidOut : laidOutB Tryz.prog = true := by kernel_rfl
/-- What is to be proved of lists and numbers alone. -/
def Pure : Prop := ∀ (l0 : List Int), (OkL (OkN .u8)) l0 → ∃ k, laws_FnWaysTold.f k l0 = some true
set_option maxRecDepth 100000 in
theorem lifted (Q : Pure) (os : Os) (started : os.Started) (H : Type) (enc : TypeId × Value → H) :
    ReturnsInHanded {} Tryz.checked os 3 .any (Rows.fnWaysToldSpec.pre6 enc Tryz.prog Tryz.f3 Rows.fnWaysToldRow.domain false) (Rows.fnWaysToldSpec.post enc Tryz.prog Tryz.f3 false true false false) := by
  refine returnsInHanded_of_change_sized (C := Tryz.checked) own started (by kernel_rfl) Tryz.func3
    (ChangeSpec.witness6 (enc := enc) (C := Tryz.checked) false ⟨#[], #[.slice none 0 0], []⟩ 8 (by kernel_rfl) (by kernel_rfl) (by kernel_rfl) (by kernel_rfl)) ?_
  intro W base args ds gs before hval0 hW hcnd hsz0 _
  have hsz : (DataW.weightsEach Tryz.prog (Tryz.f3.params.toList ++ Rows.fnWaysToldSpec.plain.varTypes Tryz.prog) (ds ++ gs)).all (· ≤ reachBytes) = true := hsz0
  have hval : ∀ (j : Nat) t v, Tryz.f3.params[j]? = some t → args[j]? = some v → Value.okWide Tryz.prog W .any base t v := hval0
  have hW' := hW
  obtain ⟨p, q, hA0, hV, rfl, hfz, hnd⟩ := hW
  have hA : DataW.TrodAll enc Tryz.prog W 0 (fun _ => true) true Tryz.f3.params.toList args.toList ds p := hA0
  rw [Tryz.params3] at hA hval hsz
  obtain ⟨v0, vs0, d0, ds0, p0, q0, hargs, rfl, rfl, h0, r0⟩ := trodAll_cons hA
  obtain ⟨rfl, rfl, rfl⟩ := trodAll_nil r0
  obtain rfl : args = #[v0] := by cases args; simp_all
  obtain ⟨rfl, rfl⟩ := trodVars_none hV
  have k0 := h0
  have lt0 : ∀ x ∈ p0, x.block < W.heap.size := by obtain ⟨m, hm⟩ := k0; exact DataW.trod_lt m _ _ _ hm
  obtain ⟨z0, g0, o0⟩ := arg_slice (eI .u8) 1 (fun _ => rfl) Tryz.underlying22 (by kernel_rfl) (by kernel_rfl) rfl (opens_int Tryz.underlying5 (by kernel_rfl)) (hval 0 22 v0 rfl rfl) h0
  clear hA0 hval0 hsz0 hsz
  obtain ⟨k, hk⟩ := Q z0 o0
  refine (law_calls (laws_FnWaysTold.ok hk) (Fa.cons g0 Fa.nil)).mono ?_
  rintro e W' ⟨he, bel⟩
  subst he
  exact ⟨_, rfl, _, _, _, [], _, [], hW', trodAll_mk1 (shut_bool Tryz.underlying4 _), (trodAll_cons_mk (Below.trod laidOut (by kernel_rfl) (of_decide_eq_true (by kernel_rfl)) k0 bel lt0) trodAll_mk0), rfl, bel.frame _, fun h => by cases h⟩
theorem tt {a b : Bool} (h : a = true) (k : b = true) : (a && b) = true := by rw [h, k]; rfl
theorem joined {P : Program} {f : FuncId} {fn : Func} {s : ChangeSpec} {c : OpenClaim} (k0 : (c.wf (OpenSpec.ofChange s)) = true) (k1 : (laidOutB P) = true) (k2 : (mapsRowed P) = true) (k3 : (fn.params.all (P.readableRec ·)) = true) (k4 : (namedTie P c.named s.vars) = true) (k5 : ((c.stops == [])) = true) (k6 : ((P.stops == [])) = true) (k7 : ((c.knobs == [])) = true) (k8 : ((P.stopKnobs == [])) = true) (k9 : ((c.inPlace == P.inPlace f)) = true) (k10 : ((c.unfollowed == P.unfollowed f)) = true) (k11 : ((c.recurses == P.recurses f)) = true) (k12 : ((c.named == P.varsNamed f)) = true) (k13 : ((c.maps == (fn.params.toList ++ s.plain.varTypes P).any (P.mapsRec ·))) = true) (k14 : ((c.ifaces == (fn.params.toList ++ s.plain.varTypes P).any (P.ifacesRec ·))) = true) (k15 : ((c.mapsOut == P.mapsAmong fn.resultTypes.toList)) = true) (k16 : ((c.loops == (fn.params.toList ++ s.plain.varTypes P).any (P.loopsFrom ·))) = true) (k17 : ((c.wideKeys == (fn.params.toList ++ s.plain.varTypes P ++ fn.resultTypes.toList).any (P.wideKeysFrom ·))) = true) (k18 : (s.vars.all (P.varReadable ·)) = true) (k19 : (fn.resultTypes.all (fun t => P.readableRec t && decide (t < P.types.size))) = true) (k20 : ((c.ifacesOut == fn.resultTypes.toList.any (P.ifacesRec ·))) = true) (k21 : ((c.loopsOut == fn.resultTypes.toList.any (P.loopsFrom ·))) = true) (k22 : ((c.plainKeys == P.plainKeys)) = true) (k23 : (c.shortTexts.isNone) = true) (k24 : (P.stopsHeard) = true) (k25 : (P.mayEnter) = true) (k26 : ((c.lifted == P.liftsFinal)) = true) (k27 : ((P.make == some c.make)) = true) (k28 : ((c.kinds == (if c.domain.isEmpty then [] else fn.params.toList.map fun t => match P.underlying t with | some (.int k) => some k | _ => none))) = true) (k29 : ((c.pinned == c.pinnedBy)) = true) (k30 : ((c.veiled == (fn.params.toList ++ s.plain.varTypes P ++ fn.resultTypes.toList).any (P.veiledRec ·))) = true) (k31 : (c.veiledFits P fn.params.toList (fn.params.toList ++ s.plain.varTypes P ++ fn.resultTypes.toList)) = true) : joinedFacts P f fn s c = true := tt (tt (tt (tt (tt (tt (tt (tt (tt (tt (tt (tt (tt (tt (tt (tt (tt (tt (tt (tt (tt (tt (tt (tt (tt (tt (tt (tt (tt (tt (tt k0 k1) k2) k3) k4) k5) k6) k7) k8) k9) k10) k11) k12) k13) k14) k15) k16) k17) k18) k19) k20) k21) k22) k23) k24) k25) k26) k27) k28) k29) k30) k31
theorem jf0 : (Go.Proofs.YtlmpaphlnlgelaaGreat.Rows.fnWaysToldRow.wf (OpenSpec.ofChange Go.Proofs.YtlmpaphlnlgelaaGreat.Rows.fnWaysToldSpec)) = true := by kernel_rfl
theorem jf1 : (laidOutB Tryz.prog) = true := by kernel_rfl
theorem jf2 : (mapsRowed Tryz.prog) = true := by kernel_rfl
theorem jf3 : (Tryz.f3.params.all (Tryz.prog.readableRec ·)) = true := by kernel_rfl
theorem jf4 : (namedTie Tryz.prog Go.Proofs.YtlmpaphlnlgelaaGreat.Rows.fnWaysToldRow.named Go.Proofs.YtlmpaphlnlgelaaGreat.Rows.fnWaysToldSpec.vars) = true := by kernel_rfl
theorem jf5 : ((Go.Proofs.YtlmpaphlnlgelaaGreat.Rows.fnWaysToldRow.stops == [])) = true := by kernel_rfl
theorem jf6 : ((Tryz.prog.stops == [])) = true := by kernel_rfl
theorem jf7 : ((Go.Proofs.YtlmpaphlnlgelaaGreat.Rows.fnWaysToldRow.knobs == [])) = true := by kernel_rfl
theorem jf8 : ((Tryz.prog.stopKnobs == [])) = true := by kernel_rfl
theorem jf9 : ((Go.Proofs.YtlmpaphlnlgelaaGreat.Rows.fnWaysToldRow.inPlace == Tryz.prog.inPlace 3)) = true := by kernel_rfl
theorem jf10 : ((Go.Proofs.YtlmpaphlnlgelaaGreat.Rows.fnWaysToldRow.unfollowed == Tryz.prog.unfollowed 3)) = true := by kernel_rfl
theorem jf11 : ((Go.Proofs.YtlmpaphlnlgelaaGreat.Rows.fnWaysToldRow.recurses == Tryz.prog.recurses 3)) = true := by kernel_rfl
theorem jf12 : ((Go.Proofs.YtlmpaphlnlgelaaGreat.Rows.fnWaysToldRow.named == Tryz.prog.varsNamed 3)) = true := by kernel_rfl
theorem jf13 : ((Go.Proofs.YtlmpaphlnlgelaaGreat.Rows.fnWaysToldRow.maps == (Tryz.f3.params.toList ++ Go.Proofs.YtlmpaphlnlgelaaGreat.Rows.fnWaysToldSpec.plain.varTypes Tryz.prog).any (Tryz.prog.mapsRec ·))) = true := by kernel_rfl
theorem jf14 : ((Go.Proofs.YtlmpaphlnlgelaaGreat.Rows.fnWaysToldRow.ifaces == (Tryz.f3.params.toList ++ Go.Proofs.YtlmpaphlnlgelaaGreat.Rows.fnWaysToldSpec.plain.varTypes Tryz.prog).any (Tryz.prog.ifacesRec ·))) = true := by kernel_rfl
theorem jf15 : ((Go.Proofs.YtlmpaphlnlgelaaGreat.Rows.fnWaysToldRow.mapsOut == Tryz.prog.mapsAmong Tryz.f3.resultTypes.toList)) = true := by kernel_rfl
theorem jf16 : ((Go.Proofs.YtlmpaphlnlgelaaGreat.Rows.fnWaysToldRow.loops == (Tryz.f3.params.toList ++ Go.Proofs.YtlmpaphlnlgelaaGreat.Rows.fnWaysToldSpec.plain.varTypes Tryz.prog).any (Tryz.prog.loopsFrom ·))) = true := by kernel_rfl
theorem jf17 : ((Go.Proofs.YtlmpaphlnlgelaaGreat.Rows.fnWaysToldRow.wideKeys == (Tryz.f3.params.toList ++ Go.Proofs.YtlmpaphlnlgelaaGreat.Rows.fnWaysToldSpec.plain.varTypes Tryz.prog ++ Tryz.f3.resultTypes.toList).any (Tryz.prog.wideKeysFrom ·))) = true := by kernel_rfl
theorem jf18 : (Go.Proofs.YtlmpaphlnlgelaaGreat.Rows.fnWaysToldSpec.vars.all (Tryz.prog.varReadable ·)) = true := by kernel_rfl
theorem jf19 : (Tryz.f3.resultTypes.all (fun t => Tryz.prog.readableRec t && decide (t < Tryz.prog.types.size))) = true := by kernel_rfl
theorem jf20 : ((Go.Proofs.YtlmpaphlnlgelaaGreat.Rows.fnWaysToldRow.ifacesOut == Tryz.f3.resultTypes.toList.any (Tryz.prog.ifacesRec ·))) = true := by kernel_rfl
theorem jf21 : ((Go.Proofs.YtlmpaphlnlgelaaGreat.Rows.fnWaysToldRow.loopsOut == Tryz.f3.resultTypes.toList.any (Tryz.prog.loopsFrom ·))) = true := by kernel_rfl
theorem jf22 : ((Go.Proofs.YtlmpaphlnlgelaaGreat.Rows.fnWaysToldRow.plainKeys == Tryz.prog.plainKeys)) = true := by kernel_rfl
theorem jf23 : (Go.Proofs.YtlmpaphlnlgelaaGreat.Rows.fnWaysToldRow.shortTexts.isNone) = true := by kernel_rfl
theorem jf24 : (Tryz.prog.stopsHeard) = true := by kernel_rfl
theorem jf25 : (Tryz.prog.mayEnter) = true := by kernel_rfl
theorem jf26 : ((Go.Proofs.YtlmpaphlnlgelaaGreat.Rows.fnWaysToldRow.lifted == Tryz.prog.liftsFinal)) = true := by kernel_rfl
theorem jf27 : ((Tryz.prog.make == some Go.Proofs.YtlmpaphlnlgelaaGreat.Rows.fnWaysToldRow.make)) = true := by kernel_rfl
theorem jf28 : ((Go.Proofs.YtlmpaphlnlgelaaGreat.Rows.fnWaysToldRow.kinds == (if Go.Proofs.YtlmpaphlnlgelaaGreat.Rows.fnWaysToldRow.domain.isEmpty then [] else Tryz.f3.params.toList.map fun t => match Tryz.prog.underlying t with | some (.int k) => some k | _ => none))) = true := by kernel_rfl
theorem jf29 : ((Go.Proofs.YtlmpaphlnlgelaaGreat.Rows.fnWaysToldRow.pinned == Go.Proofs.YtlmpaphlnlgelaaGreat.Rows.fnWaysToldRow.pinnedBy)) = true := by kernel_rfl
theorem jf30 : ((Go.Proofs.YtlmpaphlnlgelaaGreat.Rows.fnWaysToldRow.veiled == (Tryz.f3.params.toList ++ Go.Proofs.YtlmpaphlnlgelaaGreat.Rows.fnWaysToldSpec.plain.varTypes Tryz.prog ++ Tryz.f3.resultTypes.toList).any (Tryz.prog.veiledRec ·))) = true := by kernel_rfl
theorem jf31 : (Go.Proofs.YtlmpaphlnlgelaaGreat.Rows.fnWaysToldRow.veiledFits Tryz.prog Tryz.f3.params.toList (Tryz.f3.params.toList ++ Go.Proofs.YtlmpaphlnlgelaaGreat.Rows.fnWaysToldSpec.plain.varTypes Tryz.prog ++ Tryz.f3.resultTypes.toList)) = true := by kernel_rfl
theorem jf : joinedFacts Tryz.prog 3 Tryz.f3 Go.Proofs.YtlmpaphlnlgelaaGreat.Rows.fnWaysToldSpec Go.Proofs.YtlmpaphlnlgelaaGreat.Rows.fnWaysToldRow = true := joined jf0 jf1 jf2 jf3 jf4 jf5 jf6 jf7 jf8 jf9 jf10 jf11 jf12 jf13 jf14 jf15 jf16 jf17 jf18 jf19 jf20 jf21 jf22 jf23 jf24 jf25 jf26 jf27 jf28 jf29 jf30 jf31
theorem jn : Tryz.prog.funcNamed Go.Proofs.YtlmpaphlnlgelaaGreat.Rows.fnWaysToldRow.func = some 3 := by kernel_rfl
theorem over (Q : Pure) : Rows.fnWaysToldRow.holds Tryz.pinned (OpenSpec.ofChange Rows.fnWaysToldSpec) :=
  OpenClaim.holds_of_wide 3 Tryz.f3 rfl rfl rfl rfl rfl rfl rfl ⟨rfl, rfl, rfl, rfl, rfl⟩ rfl rfl rfl rfl rfl jn Tryz.func3 jf
    (of_decide_eq_true (by kernel_rfl)) (by unfold Func.isWrapper; first | (rw [if_pos (by decide +kernel)]; kernel_rfl) | (rw [if_neg (by decide +kernel)]; exact ⟨rfl, rfl⟩))
    (fun os started H enc _ => lifted Q os started H enc)
theorem row (Q : Pure) : Rows.FnWaysToldSaid := over Q
end Go.Proofs.YtlmpaphlnlgelaaGreat.AFnWaysTold
