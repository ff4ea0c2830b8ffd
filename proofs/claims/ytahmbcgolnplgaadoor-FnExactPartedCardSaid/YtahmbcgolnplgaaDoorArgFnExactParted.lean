/- The given row of laws.FnExactParted out of a pure statement about lists and numbers: whatever the input. -/
import Derived.Test.YtahmbcgolnplgaaDoorRows
import Derived.Test.YtahmbcgolnplgaaDoorPFnExactPartedx2
import Derived.Test.YtahmbcgolnplgaaDoorA21
import Derived.WalkKit
import Derived.ProofKit
import Derived.OpenShut
import Derived.ShutString
import Derived.ChangeOld
import Derived.Below
import Derived.SizedLaws
import Derived.Handed
import Derived.LaidLaws
import Derived.ChangeVars
import Derived.JoinedOf
import Derived.SevenTiedAt
import Derived.Lib.LaidTab
import Derived.Test.YtahmbcgolnplgaaDoorCards
import Derived.Test.YtahmbcgolnplgaaDoorTie
namespace Go.Proofs.YtahmbcgolnplgaaDoor.AFnExactParted
open Go.ChangeShapes Go.WideShapes Go.ChangeAt Go.RowKit Go.Proofs.YtahmbcgolnplgaaDoorA Go.Proofs.YtahmbcgolnplgaaDoor.PFnExactParted
open Go.ChangeMaps (open_string shut_string)
set_option linter.unusedVariables false
theorem own : ownKnob Tryd.prog.godebug = none := by kernel_rfl
theorem laidOut : laidOutB Tryd.prog = true := by kernel_rfl
def Ok38 (x : S38) : Prop := (OkN .i64) x.f0 ∧ (OkN .i64) x.f1 ∧ (OkN .i64) x.f2 ∧ (OkN .i64) x.f3
set_option maxRecDepth 100000 in
theorem opens38 : Opens Tryd.prog 38 (fun b : S38 => (e38 b).leaves) Ok38 :=
  opens_struct (fun x : S38 => (x.f0, x.f1, x.f2, x.f3)) _ (fun _ => rfl) (fun a => ⟨⟨a.1, a.2.1, a.2.2.1, a.2.2.2⟩, rfl⟩) Tryd.underlying38 (l := [_, _, _, _]) rfl (by kernel_rfl) (opensF_cons (n := 1) rfl (by kernel_rfl) (opens_int Tryd.underlying3 (by kernel_rfl)) (opensF_cons (n := 1) rfl (by kernel_rfl) (opens_int Tryd.underlying3 (by kernel_rfl)) (opensF_cons (n := 1) rfl (by kernel_rfl) (opens_int Tryd.underlying3 (by kernel_rfl)) (opensF_one (n := 1) rfl (by kernel_rfl) (opens_int Tryd.underlying3 (by kernel_rfl))))))
def Ok40 (x : S40) : Prop := (OkN .i64) x.f0 ∧ (OkN .i64) x.f1 ∧ Ok38 x.f2
set_option maxRecDepth 100000 in
theorem opens40 : Opens Tryd.prog 40 (fun b : S40 => (e40 b).leaves) Ok40 :=
  opens_struct (fun x : S40 => (x.f0, x.f1, x.f2)) _ (fun _ => rfl) (fun a => ⟨⟨a.1, a.2.1, a.2.2⟩, rfl⟩) Tryd.underlying40 (l := [_, _, _]) rfl (by kernel_rfl) (opensF_cons (n := 1) rfl (by kernel_rfl) (opens_int Tryd.underlying3 (by kernel_rfl)) (opensF_cons (n := 1) rfl (by kernel_rfl) (opens_int Tryd.underlying3 (by kernel_rfl)) (opensF_one (n := 4) rfl (by kernel_rfl) opens38)))
/-- What is to be proved of lists and numbers alone. -/
def Pure : Prop := ∀ (l0 : List S40) (l1 : List S40), (OkL Ok40) l0 → (OkL Ok40) l1 → ∃ k, laws_FnExactParted.f k l0 l1 = some true
/-! The listed variable. -/
abbrev vN : String := "loop.example/g00397/impl.shaWords"
abbrev vL : List (String × DataW Unit) := [(vN, Rows.laid_loop_example_g00397_impl_shaWords)]
theorem vG : Tryd.prog.globalNamed vN = some 0 := by kernel_rfl
theorem vT : (Tryd.prog.globals[0]?).map (·.type) = some 51 := by kernel_rfl
abbrev vC : Array Value := (gW.map fun z => Value.int .u32 z).toArray
theorem vLE : vL = [(vN, Lib.tabData .u32 gW)] := rfl
theorem cells_of_laid {W : World} (h : laidMet Tryd.prog vL W) : W.var? Tryd.prog vN = some vC :=
  Lib.tabIs_of_head vG vT Tryd.underlying51 Tryd.underlying48 (by kernel_rfl) (by kernel_rfl) (vLE ▸ h)
noncomputable def laidWorld (os : Os) : World :=
  { World.holding Tryd.prog os ⟨#[], #[], []⟩ with heap := (World.holding Tryd.prog os ⟨#[], #[], []⟩).heap.modify 0 fun
      | .cells _ t frozen => .cells vC t frozen
      | o => o }
theorem reads_table {H : Type} (enc : TypeId × Value → H) (W : World) (sp : Nat → Bool) : DataW.trod enc Tryd.prog W 0 sp true 3 51 vC.toList = some (Lib.tabData .u32 gW, []) := by kernel_rfl
theorem var_below {P : Program} {B g : Nat} {W W' : World} {n : String} {cs : Array Value} (h : Below B W W') (hg : P.globalNamed n = some g) (hgB : g < B) (hv : W.var? P n = some cs) : W'.var? P n = some cs := by
  unfold World.var? at hv ⊢
  simp only [hg, Option.bind_some] at hv ⊢
  rw [h.block g hgB]
  exact hv
theorem gl_of {W : World} (h : W.var? Tryd.prog vN = some vC) : GL (Zall W) W := by
  have hc : ∀ (i : Nat) (x : Int), gW[i]? = some x → W.cell? ⟨0, i, none⟩ = some (.int .u32 x) := fun i x hx => by
    have := World.var?_cell vG h i
    rw [this]
    simp [hx]
  exact ⟨World.block_lt_of_cell? _ _ (hc 0 1116352408 rfl), hc⟩
set_option maxRecDepth 100000 in
theorem lifted (Q : Pure) (os : Os) (started : os.Started) (H : Type) (enc : TypeId × Value → H) :
    ReturnsInHanded {} Tryd.checked os 3 .any (fun w args => (Rows.fnExactPartedSpec.pre enc Tryd.prog Tryd.f3 [] false w args ∧ laidMet Tryd.prog vL w) ∧ sizedMet enc Tryd.prog Tryd.f3 (OpenSpec.ofChange Rows.fnExactPartedSpec) false w args) (Rows.fnExactPartedSpec.post enc Tryd.prog Tryd.f3 false true false false) := by
  refine returnsInHanded_of_change_and (C := Tryd.checked) (X := fun w _ => laidMet Tryd.prog vL w) (fun _ _ _ hh h => h.of_heap hh) own started (by kernel_rfl) Tryd.func3
    (ChangeSpec.witness_at (enc := enc) (C := Tryd.checked) (os := os) (X := fun w _ => laidMet Tryd.prog vL w) false (laidWorld os) #[.slice none 0 0, .slice none 0 0] 8 rfl (by kernel_rfl) (by kernel_rfl) (by kernel_rfl) (by kernel_rfl) (by kernel_rfl)
      (laidMet_of_run' 8 (by kernel_rfl) (by kernel_rfl))) ?_
  intro W base args ds gs before hval0 hW _ _ hL _
  have hval : ∀ (j : Nat) t v, Tryd.f3.params[j]? = some t → args[j]? = some v → Value.okWide Tryd.prog W .any base t v := hval0
  have hW' := hW
  obtain ⟨p, q, hA0, hV0, rfl, hfz, hnd⟩ := hW
  have hV : DataW.TrodVars enc Tryd.prog W (fun _ => true) [vN] gs q := hV0
  have hA : DataW.TrodAll enc Tryd.prog W 0 (fun _ => true) true Tryd.f3.params.toList args.toList ds p := hA0
  rw [Tryd.params3] at hA hval
  obtain ⟨v0, vs0, d0, ds0, p0, q0, hargs, rfl, rfl, h0, r0⟩ := trodAll_cons hA
  obtain ⟨v1, vs1, d1, ds1, p1, q1, rfl, rfl, rfl, h1, r1⟩ := trodAll_cons r0
  obtain ⟨rfl, rfl, rfl⟩ := trodAll_nil r1
  obtain rfl : args = #[v0, v1] := by cases args; simp_all
  obtain ⟨g, t, cs, fuel, d, p', rfl, hg, ht, hvar, hd, rfl⟩ := trodVars_one hV
  obtain rfl := Option.some.inj (vG.symm.trans hg)
  obtain rfl := Option.some.inj (vT.symm.trans ht)
  obtain rfl : cs = vC := Option.some.inj (hvar.symm.trans (cells_of_laid hL))
  obtain ⟨rfl, rfl⟩ := DataW.Trod.unique (v := .agg vC) ⟨fuel, hd⟩ ⟨3, reads_table enc W _⟩
  have hGL := gl_of hvar
  have k0 := h0
  have lt0 : ∀ x ∈ p0, x.block < W.heap.size := by obtain ⟨m, hm⟩ := k0; exact DataW.trod_lt m _ _ _ hm
  obtain ⟨z0, g0, o0⟩ := arg_slice (e40) 6 (fun _ => rfl) Tryd.underlying22 (by kernel_rfl) (by kernel_rfl) rfl opens40 (hval 0 22 v0 rfl rfl) h0
  have k1 := h1
  have lt1 : ∀ x ∈ p1, x.block < W.heap.size := by obtain ⟨m, hm⟩ := k1; exact DataW.trod_lt m _ _ _ hm
  obtain ⟨z1, g1, o1⟩ := arg_slice (e40) 6 (fun _ => rfl) Tryd.underlying22 (by kernel_rfl) (by kernel_rfl) rfl opens40 (hval 1 22 v1 rfl rfl) h1
  clear hA0 hV0 hval0
  obtain ⟨k, hk⟩ := Q z0 z1 o0 o1
  refine (law_calls (laws_FnExactParted.ok hk) hGL (Fa.cons g0 (Fa.cons g1 Fa.nil))).mono ?_
  rintro e W' ⟨he, bel⟩
  subst he
  exact ⟨_, rfl, _, _, _, [], _, _, hW', trodAll_mk1 (shut_bool Tryd.underlying4 _), (trodAll_cons_mk (Below.trod laidOut (by kernel_rfl) (of_decide_eq_true (by kernel_rfl)) k0 bel lt0) (trodAll_cons_mk (Below.trod laidOut (by kernel_rfl) (of_decide_eq_true (by kernel_rfl)) k1 bel lt1) trodAll_mk0)), trodVars_mk1 vG vT (var_below bel vG hGL.1 hvar) (reads_table enc W' _), bel.frame _, fun h => by cases h⟩
theorem over (Q : Pure) : Rows.fnExactPartedRow.holds Tryd.pinned (OpenSpec.ofChange Rows.fnExactPartedSpec) :=
  OpenClaim.holds_of_wide 3 Tryd.f3 rfl rfl rfl rfl rfl rfl rfl ⟨rfl, rfl, rfl, rfl, rfl⟩ rfl rfl rfl rfl rfl (by kernel_rfl) Tryd.func3 (by kernel_rfl)
    (of_decide_eq_true (by kernel_rfl)) (by unfold Func.isWrapper; first | (rw [if_pos (by decide +kernel)]; kernel_rfl) | (rw [if_neg (by decide +kernel)]; exact ⟨rfl, rfl⟩))
    (fun os started H enc _ => lifted Q os started H enc)
theorem row (Q : Pure) : Rows.FnExactPartedSaid := over Q
set_option maxRecDepth 100000 in
theorem card (Q : Pure) : Rows.FnExactPartedCardSaid :=
  Claim7.holds_tied_plain_at .later [] [.data] true (true, "f9d3b3ed11255c98907866ec384163df5cc2758ebbedfb43e5146104e93771ff") false
    (row Q) (fun _ h => by cases h) (by kernel_rfl) (fun _ h => by cases h) fnExactParted_row_tie rfl ⟨rfl, rfl⟩ (by kernel_rfl) rfl
    (fun f fn hf hfn => by
      obtain rfl : f = 3 := Option.some.inj ((show Tryd.prog.funcNamed "loop.example/g00397/laws.FnExactParted" = some 3 by kernel_rfl).symm.trans hf) |>.symm
      obtain rfl : fn = Tryd.f3 := (Option.some.inj (Tryd.func3.symm.trans hfn)).symm
      exact ⟨by kernel_rfl, fun j t ht => by
        rw [Tryd.params3] at ht
        have h3 : t = 22 := by
          rcases j with _ | _ | j
          · simpa using ht.symm
          · simpa using ht.symm
          · simp at ht
        subst h3
        exact (show Tryd.prog.wantsStandIn 22 = false by kernel_rfl)⟩)
    (by kernel_rfl)
end Go.Proofs.YtahmbcgolnplgaaDoor.AFnExactParted
