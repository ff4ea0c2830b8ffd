import Derived.Test.YtahmbcgolnplgaaGreatRows
import Derived.Test.YtahmbcgolnplgaaGreatPFnNoHolesx9
import Derived.Test.YtahmbcgolnplgaaGreatA19
import Derived.WalkKit
import Derived.ProofKit
import Derived.OpenShut
import Derived.ShutString
import Derived.ChangeOld
import Derived.Below
import Derived.SizedLaws
namespace Go.Proofs.YtahmbcgolnplgaaGreat.AFnNoHoles
open Go.ChangeShapes Go.WideShapes Go.ChangeAt Go.RowKit Go.Proofs.YtahmbcgolnplgaaGreatA Go.Proofs.YtahmbcgolnplgaaGreat.PFnNoHoles
open Go.ChangeMaps (open_string shut_string)
set_option linter.unusedVariables false
theorem own : ownKnob Tryz.prog.godebug = none:=by kernel_rfl
theorem bQ0 : laidOutB Tryz.prog = true:=by kernel_rfl
def bv8 : Prop:=∀ (l0 : List Int),(OkL (OkN .u8)) l0→∃ k,r6.f k l0 = some true
set_option maxRecDepth 100000 in
theorem lifted (Q : bv8) (os : Os) (started : os.Started) (H : Type) (enc : TypeId×Value→H) :
 ReturnsInHanded {} Tryz.checked os 4 .any (Rows.fnNoHolesSpec.pre6 enc Tryz.prog Tryz.f4 Rows.fnNoHolesRow.domain false) (Rows.fnNoHolesSpec.post enc Tryz.prog Tryz.f4 false true false false):=by
 refine returnsInHanded_of_change_sized (C:=Tryz.checked) own started (by kernel_rfl) Tryz.func4
  (ChangeSpec.witness6 (enc:=enc) (C:=Tryz.checked) false ⟨#[],#[.slice none 0 0],[]⟩ 8 (by kernel_rfl) (by kernel_rfl) (by kernel_rfl) (by kernel_rfl)) ?_
 intro W base args ds gs before hval0 hW hcnd hsz0 _
 have hsz : (DataW.weightsEach Tryz.prog (Tryz.f4.params.toList ++ Rows.fnNoHolesSpec.plain.varTypes Tryz.prog) (ds ++ gs)).all (·≤reachBytes) = true:=hsz0
 have hval : ∀ (j : Nat) t v,Tryz.f4.params[j]? = some t→args[j]? = some v→Value.okWide Tryz.prog W .any base t v:=hval0
 have hW':=hW
 obtain ⟨p,q,hA0,hV,rfl,hfz,hnd⟩:=hW
 have hA : DataW.TrodAll enc Tryz.prog W 0 (fun _=>true) true Tryz.f4.params.toList args.toList ds p:=hA0
 rw [Tryz.params4] at hA hval hsz
 obtain ⟨v0,vs0,d0,ds0,p0,q0,hargs,rfl,rfl,h0,r0⟩:=trodAll_cons hA
 obtain ⟨rfl,rfl,rfl⟩:=trodAll_nil r0
 obtain rfl : args = #[v0]:=by cases args;simp_all
 obtain ⟨rfl,rfl⟩:=trodVars_none hV
 have k0:=h0
 have lt0 : ∀ x ∈ p0,x.block < W.heap.size:=by obtain ⟨m,hm⟩:=k0;exact DataW.trod_lt m _ _ _ hm
 obtain ⟨z0,g0,o0⟩:=bB3 (eI .u8) 1 (fun _=>rfl) Tryz.underlying22 (by kernel_rfl) (by kernel_rfl) rfl (bE0 Tryz.underlying5 (by kernel_rfl)) (hval 0 22 v0 rfl rfl) h0
 clear hA0 hval0 hsz0 hsz
 obtain ⟨k,hk⟩:=Q z0 o0
 refine (bC3 (r6.ok hk) (Fa.cons g0 Fa.nil)).mono ?_
 rintro e W' ⟨he,bel⟩
 subst he
 exact ⟨_,rfl,_,_,_,[],_,[],hW',trodAll_mk1 (shut_bool Tryz.underlying4 _),(trodAll_cons_mk (Below.trod bQ0 (by kernel_rfl) (of_decide_eq_true (by kernel_rfl)) k0 bel lt0) trodAll_mk0),rfl,bel.frame _,fun h=>by cases h⟩
theorem tt {a b : Bool} (h : a = true) (k : b = true) : (a && b) = true:=by rw [h,k];rfl
theorem bD3 {P : Program} {f : FuncId} {fn : Func} {s : ChangeSpec} {c : OpenClaim} (k0 : (c.wf (OpenSpec.ofChange s)) = true) (k1 : (laidOutB P) = true) (k2 : (mapsRowed P) = true) (k3 : (fn.params.all (P.readableRec ·)) = true) (k4 : (namedTie P c.named s.vars) = true) (k5 : ((c.stops == [])) = true) (k6 : ((P.stops == [])) = true) (k7 : ((c.knobs == [])) = true) (k8 : ((P.stopKnobs == [])) = true) (k9 : ((c.inPlace == P.inPlace f)) = true) (k10 : ((c.unfollowed == P.unfollowed f)) = true) (k11 : ((c.recurses == P.recurses f)) = true) (k12 : ((c.named == P.varsNamed f)) = true) (k13 : ((c.maps == (fn.params.toList ++ s.plain.varTypes P).any (P.mapsRec ·))) = true) (k14 : ((c.ifaces == (fn.params.toList ++ s.plain.varTypes P).any (P.ifacesRec ·))) = true) (k15 : ((c.mapsOut == P.mapsAmong fn.resultTypes.toList)) = true) (k16 : ((c.loops == (fn.params.toList ++ s.plain.varTypes P).any (P.loopsFrom ·))) = true) (k17 : ((c.wideKeys == (fn.params.toList ++ s.plain.varTypes P ++ fn.resultTypes.toList).any (P.wideKeysFrom ·))) = true) (k18 : (s.vars.all (P.varReadable ·)) = true) (k19 : (fn.resultTypes.all (fun t=>P.readableRec t && decide (t < P.types.size))) = true) (k20 : ((c.ifacesOut == fn.resultTypes.toList.any (P.ifacesRec ·))) = true) (k21 : ((c.loopsOut == fn.resultTypes.toList.any (P.loopsFrom ·))) = true) (k22 : ((c.plainKeys == P.plainKeys)) = true) (k23 : (c.shortTexts.isNone) = true) (k24 : (P.stopsHeard) = true) (k25 : (P.mayEnter) = true) (k26 : ((c.lifted == P.liftsFinal)) = true) (k27 : ((P.make == some c.make)) = true) (k28 : ((c.kinds == (if c.domain.isEmpty then [] else fn.params.toList.map fun t=>match P.underlying t with | some (.int k)=>some k | _=>none))) = true) (k29 : ((c.pinned == c.pinnedBy)) = true) (k30 : ((c.veiled == (fn.params.toList ++ s.plain.varTypes P ++ fn.resultTypes.toList).any (P.veiledRec ·))) = true) (k31 : (c.veiledFits P fn.params.toList (fn.params.toList ++ s.plain.varTypes P ++ fn.resultTypes.toList)) = true) : joinedFacts P f fn s c = true:=tt (tt (tt (tt (tt (tt (tt (tt (tt (tt (tt (tt (tt (tt (tt (tt (tt (tt (tt (tt (tt (tt (tt (tt (tt (tt (tt (tt (tt (tt (tt k0 k1) k2) k3) k4) k5) k6) k7) k8) k9) k10) k11) k12) k13) k14) k15) k16) k17) k18) k19) k20) k21) k22) k23) k24) k25) k26) k27) k28) k29) k30) k31
theorem jf0 : (Go.Proofs.YtahmbcgolnplgaaGreat.Rows.fnNoHolesRow.wf (OpenSpec.ofChange Go.Proofs.YtahmbcgolnplgaaGreat.Rows.fnNoHolesSpec)) = true:=by kernel_rfl
theorem jf1 : (laidOutB Tryz.prog) = true:=by kernel_rfl
theorem jf2 : (mapsRowed Tryz.prog) = true:=by kernel_rfl
theorem jf3 : (Tryz.f4.params.all (Tryz.prog.readableRec ·)) = true:=by kernel_rfl
theorem jf4 : (namedTie Tryz.prog Go.Proofs.YtahmbcgolnplgaaGreat.Rows.fnNoHolesRow.named Go.Proofs.YtahmbcgolnplgaaGreat.Rows.fnNoHolesSpec.vars) = true:=by kernel_rfl
theorem jf5 : ((Go.Proofs.YtahmbcgolnplgaaGreat.Rows.fnNoHolesRow.stops == [])) = true:=by kernel_rfl
theorem jf6 : ((Tryz.prog.stops == [])) = true:=by kernel_rfl
theorem jf7 : ((Go.Proofs.YtahmbcgolnplgaaGreat.Rows.fnNoHolesRow.knobs == [])) = true:=by kernel_rfl
theorem jf8 : ((Tryz.prog.stopKnobs == [])) = true:=by kernel_rfl
theorem jf9 : ((Go.Proofs.YtahmbcgolnplgaaGreat.Rows.fnNoHolesRow.inPlace == Tryz.prog.inPlace 4)) = true:=by kernel_rfl
theorem cf4 : ((Go.Proofs.YtahmbcgolnplgaaGreat.Rows.fnNoHolesRow.unfollowed == Tryz.prog.unfollowed 4)) = true:=by kernel_rfl
theorem ce3 : ((Go.Proofs.YtahmbcgolnplgaaGreat.Rows.fnNoHolesRow.recurses == Tryz.prog.recurses 4)) = true:=by kernel_rfl
theorem cg1 : ((Go.Proofs.YtahmbcgolnplgaaGreat.Rows.fnNoHolesRow.named == Tryz.prog.varsNamed 4)) = true:=by kernel_rfl
theorem cf5 : ((Go.Proofs.YtahmbcgolnplgaaGreat.Rows.fnNoHolesRow.maps == (Tryz.f4.params.toList ++ Go.Proofs.YtahmbcgolnplgaaGreat.Rows.fnNoHolesSpec.plain.varTypes Tryz.prog).any (Tryz.prog.mapsRec ·))) = true:=by kernel_rfl
theorem cc3 : ((Go.Proofs.YtahmbcgolnplgaaGreat.Rows.fnNoHolesRow.ifaces == (Tryz.f4.params.toList ++ Go.Proofs.YtahmbcgolnplgaaGreat.Rows.fnNoHolesSpec.plain.varTypes Tryz.prog).any (Tryz.prog.ifacesRec ·))) = true:=by kernel_rfl
theorem cb8 : ((Go.Proofs.YtahmbcgolnplgaaGreat.Rows.fnNoHolesRow.mapsOut == Tryz.prog.mapsAmong Tryz.f4.resultTypes.toList)) = true:=by kernel_rfl
theorem cb5 : ((Go.Proofs.YtahmbcgolnplgaaGreat.Rows.fnNoHolesRow.loops == (Tryz.f4.params.toList ++ Go.Proofs.YtahmbcgolnplgaaGreat.Rows.fnNoHolesSpec.plain.varTypes Tryz.prog).any (Tryz.prog.loopsFrom ·))) = true:=by kernel_rfl
theorem cf0 : ((Go.Proofs.YtahmbcgolnplgaaGreat.Rows.fnNoHolesRow.wideKeys == (Tryz.f4.params.toList ++ Go.Proofs.YtahmbcgolnplgaaGreat.Rows.fnNoHolesSpec.plain.varTypes Tryz.prog ++ Tryz.f4.resultTypes.toList).any (Tryz.prog.wideKeysFrom ·))) = true:=by kernel_rfl
theorem cc9 : (Go.Proofs.YtahmbcgolnplgaaGreat.Rows.fnNoHolesSpec.vars.all (Tryz.prog.varReadable ·)) = true:=by kernel_rfl
theorem ce4 : (Tryz.f4.resultTypes.all (fun t=>Tryz.prog.readableRec t && decide (t < Tryz.prog.types.size))) = true:=by kernel_rfl
theorem cd1 : ((Go.Proofs.YtahmbcgolnplgaaGreat.Rows.fnNoHolesRow.ifacesOut == Tryz.f4.resultTypes.toList.any (Tryz.prog.ifacesRec ·))) = true:=by kernel_rfl
theorem ce1 : ((Go.Proofs.YtahmbcgolnplgaaGreat.Rows.fnNoHolesRow.loopsOut == Tryz.f4.resultTypes.toList.any (Tryz.prog.loopsFrom ·))) = true:=by kernel_rfl
theorem ce5 : ((Go.Proofs.YtahmbcgolnplgaaGreat.Rows.fnNoHolesRow.plainKeys == Tryz.prog.plainKeys)) = true:=by kernel_rfl
theorem cg9 : (Go.Proofs.YtahmbcgolnplgaaGreat.Rows.fnNoHolesRow.shortTexts.isNone) = true:=by kernel_rfl
theorem cb6 : (Tryz.prog.stopsHeard) = true:=by kernel_rfl
theorem cc5 : (Tryz.prog.mayEnter) = true:=by kernel_rfl
theorem ce0 : ((Go.Proofs.YtahmbcgolnplgaaGreat.Rows.fnNoHolesRow.lifted == Tryz.prog.liftsFinal)) = true:=by kernel_rfl
theorem ce2 : ((Tryz.prog.make == some Go.Proofs.YtahmbcgolnplgaaGreat.Rows.fnNoHolesRow.make)) = true:=by kernel_rfl
theorem cd2 : ((Go.Proofs.YtahmbcgolnplgaaGreat.Rows.fnNoHolesRow.kinds == (if Go.Proofs.YtahmbcgolnplgaaGreat.Rows.fnNoHolesRow.domain.isEmpty then [] else Tryz.f4.params.toList.map fun t=>match Tryz.prog.underlying t with | some (.int k)=>some k | _=>none))) = true:=by kernel_rfl
theorem cc0 : ((Go.Proofs.YtahmbcgolnplgaaGreat.Rows.fnNoHolesRow.pinned == Go.Proofs.YtahmbcgolnplgaaGreat.Rows.fnNoHolesRow.pinnedBy)) = true:=by kernel_rfl
theorem cc6 : ((Go.Proofs.YtahmbcgolnplgaaGreat.Rows.fnNoHolesRow.veiled == (Tryz.f4.params.toList ++ Go.Proofs.YtahmbcgolnplgaaGreat.Rows.fnNoHolesSpec.plain.varTypes Tryz.prog ++ Tryz.f4.resultTypes.toList).any (Tryz.prog.veiledRec ·))) = true:=by kernel_rfl
theorem cd3 : (Go.Proofs.YtahmbcgolnplgaaGreat.Rows.fnNoHolesRow.veiledFits Tryz.prog Tryz.f4.params.toList (Tryz.f4.params.toList ++ Go.Proofs.YtahmbcgolnplgaaGreat.Rows.fnNoHolesSpec.plain.varTypes Tryz.prog ++ Tryz.f4.resultTypes.toList)) = true:=by kernel_rfl
theorem jf : joinedFacts Tryz.prog 4 Tryz.f4 Go.Proofs.YtahmbcgolnplgaaGreat.Rows.fnNoHolesSpec Go.Proofs.YtahmbcgolnplgaaGreat.Rows.fnNoHolesRow = true:=bD3 jf0 jf1 jf2 jf3 jf4 jf5 jf6 jf7 jf8 jf9 cf4 ce3 cg1 cf5 cc3 cb8 cb5 cf0 cc9 ce4 cd1 ce1 ce5 cg9 cb6 cc5 ce0 ce2 cd2 cc0 cc6 cd3
theorem jn : Tryz.prog.funcNamed Go.Proofs.YtahmbcgolnplgaaGreat.Rows.fnNoHolesRow.func = some 4:=by kernel_rfl
theorem over (Q : bv8) : Rows.fnNoHolesRow.holds Tryz.pinned (OpenSpec.ofChange Rows.fnNoHolesSpec):=
 OpenClaim.holds_of_wide 4 Tryz.f4 rfl rfl rfl rfl rfl rfl rfl ⟨rfl,rfl,rfl,rfl,rfl⟩ rfl rfl rfl rfl rfl jn Tryz.func4 jf
  (of_decide_eq_true (by kernel_rfl)) (by unfold Func.isWrapper;first | (rw [if_pos (by decide +kernel)];kernel_rfl) | (rw [if_neg (by decide +kernel)];exact ⟨rfl,rfl⟩))
  (fun os started H enc _=>lifted Q os started H enc)
theorem row (Q : bv8) : Rows.FnNoHolesSaid:=over Q
end Go.Proofs.YtahmbcgolnplgaaGreat.AFnNoHoles
