import Derived.Test.YthfflkfpmebbbaaPFnExactFieldsReadx1
set_option linter.unusedVariables false
set_option linter.unusedSimpArgs false
set_option maxRecDepth 100000
namespace Go.Proofs.Ythfflkfpmebbbaa.PFnExactFieldsRead
open Go Go.RowKit Go.Proofs.YthfflkfpmebbbaaA
/-! laws_markInsS -/
def laws_markInsS.l0 : Nat → (List S46) → Int → Int → Option (Int × (List S46))
 | 0, _, _, _ => none
 | k6 + 1, q3, p4, p5 => if p5 < (q3.length : Int) then if 0 ≤ p5 then laws_markInsS.l0 k6 ((((q3.set p5.toNat (⟨p4, (rd_T46 q3 p5).f1, (rd_T46 q3 p5).f2, (rd_T46 q3 p5).f3⟩ : S46)).set p5.toNat (⟨(rd_T46 (q3.set p5.toNat (⟨p4, (rd_T46 q3 p5).f1, (rd_T46 q3 p5).f2, (rd_T46 q3 p5).f3⟩ : S46)) p5).f0, wrap64 (p4 + 1), (rd_T46 (q3.set p5.toNat (⟨p4, (rd_T46 q3 p5).f1, (rd_T46 q3 p5).f2, (rd_T46 q3 p5).f3⟩ : S46)) p5).f2, (rd_T46 (q3.set p5.toNat (⟨p4, (rd_T46 q3 p5).f1, (rd_T46 q3 p5).f2, (rd_T46 q3 p5).f3⟩ : S46)) p5).f3⟩ : S46)).set p5.toNat (⟨(rd_T46 ((q3.set p5.toNat (⟨p4, (rd_T46 q3 p5).f1, (rd_T46 q3 p5).f2, (rd_T46 q3 p5).f3⟩ : S46)).set p5.toNat (⟨(rd_T46 (q3.set p5.toNat (⟨p4, (rd_T46 q3 p5).f1, (rd_T46 q3 p5).f2, (rd_T46 q3 p5).f3⟩ : S46)) p5).f0, wrap64 (p4 + 1), (rd_T46 (q3.set p5.toNat (⟨p4, (rd_T46 q3 p5).f1, (rd_T46 q3 p5).f2, (rd_T46 q3 p5).f3⟩ : S46)) p5).f2, (rd_T46 (q3.set p5.toNat (⟨p4, (rd_T46 q3 p5).f1, (rd_T46 q3 p5).f2, (rd_T46 q3 p5).f3⟩ : S46)) p5).f3⟩ : S46)) p5).f0, (rd_T46 ((q3.set p5.toNat (⟨p4, (rd_T46 q3 p5).f1, (rd_T46 q3 p5).f2, (rd_T46 q3 p5).f3⟩ : S46)).set p5.toNat (⟨(rd_T46 (q3.set p5.toNat (⟨p4, (rd_T46 q3 p5).f1, (rd_T46 q3 p5).f2, (rd_T46 q3 p5).f3⟩ : S46)) p5).f0, wrap64 (p4 + 1), (rd_T46 (q3.set p5.toNat (⟨p4, (rd_T46 q3 p5).f1, (rd_T46 q3 p5).f2, (rd_T46 q3 p5).f3⟩ : S46)) p5).f2, (rd_T46 (q3.set p5.toNat (⟨p4, (rd_T46 q3 p5).f1, (rd_T46 q3 p5).f2, (rd_T46 q3 p5).f3⟩ : S46)) p5).f3⟩ : S46)) p5).f1, wrap64 ((wrap64 (p4 + 1)) + 1), (rd_T46 ((q3.set p5.toNat (⟨p4, (rd_T46 q3 p5).f1, (rd_T46 q3 p5).f2, (rd_T46 q3 p5).f3⟩ : S46)).set p5.toNat (⟨(rd_T46 (q3.set p5.toNat (⟨p4, (rd_T46 q3 p5).f1, (rd_T46 q3 p5).f2, (rd_T46 q3 p5).f3⟩ : S46)) p5).f0, wrap64 (p4 + 1), (rd_T46 (q3.set p5.toNat (⟨p4, (rd_T46 q3 p5).f1, (rd_T46 q3 p5).f2, (rd_T46 q3 p5).f3⟩ : S46)) p5).f2, (rd_T46 (q3.set p5.toNat (⟨p4, (rd_T46 q3 p5).f1, (rd_T46 q3 p5).f2, (rd_T46 q3 p5).f3⟩ : S46)) p5).f3⟩ : S46)) p5).f3⟩ : S46)).set p5.toNat (⟨(rd_T46 (((q3.set p5.toNat (⟨p4, (rd_T46 q3 p5).f1, (rd_T46 q3 p5).f2, (rd_T46 q3 p5).f3⟩ : S46)).set p5.toNat (⟨(rd_T46 (q3.set p5.toNat (⟨p4, (rd_T46 q3 p5).f1, (rd_T46 q3 p5).f2, (rd_T46 q3 p5).f3⟩ : S46)) p5).f0, wrap64 (p4 + 1), (rd_T46 (q3.set p5.toNat (⟨p4, (rd_T46 q3 p5).f1, (rd_T46 q3 p5).f2, (rd_T46 q3 p5).f3⟩ : S46)) p5).f2, (rd_T46 (q3.set p5.toNat (⟨p4, (rd_T46 q3 p5).f1, (rd_T46 q3 p5).f2, (rd_T46 q3 p5).f3⟩ : S46)) p5).f3⟩ : S46)).set p5.toNat (⟨(rd_T46 ((q3.set p5.toNat (⟨p4, (rd_T46 q3 p5).f1, (rd_T46 q3 p5).f2, (rd_T46 q3 p5).f3⟩ : S46)).set p5.toNat (⟨(rd_T46 (q3.set p5.toNat (⟨p4, (rd_T46 q3 p5).f1, (rd_T46 q3 p5).f2, (rd_T46 q3 p5).f3⟩ : S46)) p5).f0, wrap64 (p4 + 1), (rd_T46 (q3.set p5.toNat (⟨p4, (rd_T46 q3 p5).f1, (rd_T46 q3 p5).f2, (rd_T46 q3 p5).f3⟩ : S46)) p5).f2, (rd_T46 (q3.set p5.toNat (⟨p4, (rd_T46 q3 p5).f1, (rd_T46 q3 p5).f2, (rd_T46 q3 p5).f3⟩ : S46)) p5).f3⟩ : S46)) p5).f0, (rd_T46 ((q3.set p5.toNat (⟨p4, (rd_T46 q3 p5).f1, (rd_T46 q3 p5).f2, (rd_T46 q3 p5).f3⟩ : S46)).set p5.toNat (⟨(rd_T46 (q3.set p5.toNat (⟨p4, (rd_T46 q3 p5).f1, (rd_T46 q3 p5).f2, (rd_T46 q3 p5).f3⟩ : S46)) p5).f0, wrap64 (p4 + 1), (rd_T46 (q3.set p5.toNat (⟨p4, (rd_T46 q3 p5).f1, (rd_T46 q3 p5).f2, (rd_T46 q3 p5).f3⟩ : S46)) p5).f2, (rd_T46 (q3.set p5.toNat (⟨p4, (rd_T46 q3 p5).f1, (rd_T46 q3 p5).f2, (rd_T46 q3 p5).f3⟩ : S46)) p5).f3⟩ : S46)) p5).f1, wrap64 ((wrap64 (p4 + 1)) + 1), (rd_T46 ((q3.set p5.toNat (⟨p4, (rd_T46 q3 p5).f1, (rd_T46 q3 p5).f2, (rd_T46 q3 p5).f3⟩ : S46)).set p5.toNat (⟨(rd_T46 (q3.set p5.toNat (⟨p4, (rd_T46 q3 p5).f1, (rd_T46 q3 p5).f2, (rd_T46 q3 p5).f3⟩ : S46)) p5).f0, wrap64 (p4 + 1), (rd_T46 (q3.set p5.toNat (⟨p4, (rd_T46 q3 p5).f1, (rd_T46 q3 p5).f2, (rd_T46 q3 p5).f3⟩ : S46)) p5).f2, (rd_T46 (q3.set p5.toNat (⟨p4, (rd_T46 q3 p5).f1, (rd_T46 q3 p5).f2, (rd_T46 q3 p5).f3⟩ : S46)) p5).f3⟩ : S46)) p5).f3⟩ : S46)) p5).f0, (rd_T46 (((q3.set p5.toNat (⟨p4, (rd_T46 q3 p5).f1, (rd_T46 q3 p5).f2, (rd_T46 q3 p5).f3⟩ : S46)).set p5.toNat (⟨(rd_T46 (q3.set p5.toNat (⟨p4, (rd_T46 q3 p5).f1, (rd_T46 q3 p5).f2, (rd_T46 q3 p5).f3⟩ : S46)) p5).f0, wrap64 (p4 + 1), (rd_T46 (q3.set p5.toNat (⟨p4, (rd_T46 q3 p5).f1, (rd_T46 q3 p5).f2, (rd_T46 q3 p5).f3⟩ : S46)) p5).f2, (rd_T46 (q3.set p5.toNat (⟨p4, (rd_T46 q3 p5).f1, (rd_T46 q3 p5).f2, (rd_T46 q3 p5).f3⟩ : S46)) p5).f3⟩ : S46)).set p5.toNat (⟨(rd_T46 ((q3.set p5.toNat (⟨p4, (rd_T46 q3 p5).f1, (rd_T46 q3 p5).f2, (rd_T46 q3 p5).f3⟩ : S46)).set p5.toNat (⟨(rd_T46 (q3.set p5.toNat (⟨p4, (rd_T46 q3 p5).f1, (rd_T46 q3 p5).f2, (rd_T46 q3 p5).f3⟩ : S46)) p5).f0, wrap64 (p4 + 1), (rd_T46 (q3.set p5.toNat (⟨p4, (rd_T46 q3 p5).f1, (rd_T46 q3 p5).f2, (rd_T46 q3 p5).f3⟩ : S46)) p5).f2, (rd_T46 (q3.set p5.toNat (⟨p4, (rd_T46 q3 p5).f1, (rd_T46 q3 p5).f2, (rd_T46 q3 p5).f3⟩ : S46)) p5).f3⟩ : S46)) p5).f0, (rd_T46 ((q3.set p5.toNat (⟨p4, (rd_T46 q3 p5).f1, (rd_T46 q3 p5).f2, (rd_T46 q3 p5).f3⟩ : S46)).set p5.toNat (⟨(rd_T46 (q3.set p5.toNat (⟨p4, (rd_T46 q3 p5).f1, (rd_T46 q3 p5).f2, (rd_T46 q3 p5).f3⟩ : S46)) p5).f0, wrap64 (p4 + 1), (rd_T46 (q3.set p5.toNat (⟨p4, (rd_T46 q3 p5).f1, (rd_T46 q3 p5).f2, (rd_T46 q3 p5).f3⟩ : S46)) p5).f2, (rd_T46 (q3.set p5.toNat (⟨p4, (rd_T46 q3 p5).f1, (rd_T46 q3 p5).f2, (rd_T46 q3 p5).f3⟩ : S46)) p5).f3⟩ : S46)) p5).f1, wrap64 ((wrap64 (p4 + 1)) + 1), (rd_T46 ((q3.set p5.toNat (⟨p4, (rd_T46 q3 p5).f1, (rd_T46 q3 p5).f2, (rd_T46 q3 p5).f3⟩ : S46)).set p5.toNat (⟨(rd_T46 (q3.set p5.toNat (⟨p4, (rd_T46 q3 p5).f1, (rd_T46 q3 p5).f2, (rd_T46 q3 p5).f3⟩ : S46)) p5).f0, wrap64 (p4 + 1), (rd_T46 (q3.set p5.toNat (⟨p4, (rd_T46 q3 p5).f1, (rd_T46 q3 p5).f2, (rd_T46 q3 p5).f3⟩ : S46)) p5).f2, (rd_T46 (q3.set p5.toNat (⟨p4, (rd_T46 q3 p5).f1, (rd_T46 q3 p5).f2, (rd_T46 q3 p5).f3⟩ : S46)) p5).f3⟩ : S46)) p5).f3⟩ : S46)) p5).f1, (rd_T46 (((q3.set p5.toNat (⟨p4, (rd_T46 q3 p5).f1, (rd_T46 q3 p5).f2, (rd_T46 q3 p5).f3⟩ : S46)).set p5.toNat (⟨(rd_T46 (q3.set p5.toNat (⟨p4, (rd_T46 q3 p5).f1, (rd_T46 q3 p5).f2, (rd_T46 q3 p5).f3⟩ : S46)) p5).f0, wrap64 (p4 + 1), (rd_T46 (q3.set p5.toNat (⟨p4, (rd_T46 q3 p5).f1, (rd_T46 q3 p5).f2, (rd_T46 q3 p5).f3⟩ : S46)) p5).f2, (rd_T46 (q3.set p5.toNat (⟨p4, (rd_T46 q3 p5).f1, (rd_T46 q3 p5).f2, (rd_T46 q3 p5).f3⟩ : S46)) p5).f3⟩ : S46)).set p5.toNat (⟨(rd_T46 ((q3.set p5.toNat (⟨p4, (rd_T46 q3 p5).f1, (rd_T46 q3 p5).f2, (rd_T46 q3 p5).f3⟩ : S46)).set p5.toNat (⟨(rd_T46 (q3.set p5.toNat (⟨p4, (rd_T46 q3 p5).f1, (rd_T46 q3 p5).f2, (rd_T46 q3 p5).f3⟩ : S46)) p5).f0, wrap64 (p4 + 1), (rd_T46 (q3.set p5.toNat (⟨p4, (rd_T46 q3 p5).f1, (rd_T46 q3 p5).f2, (rd_T46 q3 p5).f3⟩ : S46)) p5).f2, (rd_T46 (q3.set p5.toNat (⟨p4, (rd_T46 q3 p5).f1, (rd_T46 q3 p5).f2, (rd_T46 q3 p5).f3⟩ : S46)) p5).f3⟩ : S46)) p5).f0, (rd_T46 ((q3.set p5.toNat (⟨p4, (rd_T46 q3 p5).f1, (rd_T46 q3 p5).f2, (rd_T46 q3 p5).f3⟩ : S46)).set p5.toNat (⟨(rd_T46 (q3.set p5.toNat (⟨p4, (rd_T46 q3 p5).f1, (rd_T46 q3 p5).f2, (rd_T46 q3 p5).f3⟩ : S46)) p5).f0, wrap64 (p4 + 1), (rd_T46 (q3.set p5.toNat (⟨p4, (rd_T46 q3 p5).f1, (rd_T46 q3 p5).f2, (rd_T46 q3 p5).f3⟩ : S46)) p5).f2, (rd_T46 (q3.set p5.toNat (⟨p4, (rd_T46 q3 p5).f1, (rd_T46 q3 p5).f2, (rd_T46 q3 p5).f3⟩ : S46)) p5).f3⟩ : S46)) p5).f1, wrap64 ((wrap64 (p4 + 1)) + 1), (rd_T46 ((q3.set p5.toNat (⟨p4, (rd_T46 q3 p5).f1, (rd_T46 q3 p5).f2, (rd_T46 q3 p5).f3⟩ : S46)).set p5.toNat (⟨(rd_T46 (q3.set p5.toNat (⟨p4, (rd_T46 q3 p5).f1, (rd_T46 q3 p5).f2, (rd_T46 q3 p5).f3⟩ : S46)) p5).f0, wrap64 (p4 + 1), (rd_T46 (q3.set p5.toNat (⟨p4, (rd_T46 q3 p5).f1, (rd_T46 q3 p5).f2, (rd_T46 q3 p5).f3⟩ : S46)) p5).f2, (rd_T46 (q3.set p5.toNat (⟨p4, (rd_T46 q3 p5).f1, (rd_T46 q3 p5).f2, (rd_T46 q3 p5).f3⟩ : S46)) p5).f3⟩ : S46)) p5).f3⟩ : S46)) p5).f2, wrap64 ((wrap64 ((wrap64 (p4 + 1)) + 1)) + 1)⟩ : S46)) (wrap64 ((wrap64 ((wrap64 ((wrap64 (p4 + 1)) + 1)) + 1)) + 1)) (wrap64 (p5 + 1)) else none else some (p4, q3)
def laws_markInsS.f (k : Nat) (l0 : List S46) (a1 : Int) : Option (Int × (List S46)) := laws_markInsS.l0 k l0 a1 0
theorem laws_markInsS.ok {k : Nat} {l0 : List S46} {a1 : Int} {r : Int × (List S46)} (H : laws_markInsS.f k l0 a1 = some r) : ACalls Try.prog 13 [(0, .row 46 4 (l0.map e46))] [.row 0, .lit (.int .i64 a1)] [(0, .row 46 4 (r.2.map e46))] (.lit (.int .i64 r.1)) := by
 refine acalls (fn := Try.f13) (nt := 41) Try.func13 rfl rfl (Nat.le_of_ble_eq_true rfl) fun E hE => ?_
 rw [laws_markInsS.f] at H
 refine aw_grp1 ?_
 refine wk_start ?_
 refine kv g0 (asg) ?_
 refine wk_end ?_
 refine ac_next ?_
 refine aw_grp1 ?_
 refine aw_grp1 ?_
 refine wk_start ?_
 refine kv g0 (asg) ?_
 refine wk_end ?_
 refine ac_next ?_
 refine aw_block ?_
 refine aw_loop3 (fun (k_ : Nat) (q3 : List S46) (p4 : Int) (p5 : Int) => k_ ≤ k ∧ laws_markInsS.l0 k_ q3 p4 p5 = some r) (fun (q3 : List S46) (p4 : Int) (p5 : Int) => ⟨[(0, .row 0), (1, .lit (.int .i64 p4)), (5, .lit (.int .i64 p5))], [(0, .row 46 4 (q3.map e46))]⟩) k l0 a1 0 ⟨Nat.le_refl _, H⟩ (fun K_ h_ => acw hE [(0, 0)] 9999 h_) (fun _ _ _ => by intro h_; have h_ := h_.2; rw [laws_markInsS.l0.eq_1] at h_; cases h_) ?_
 intro k6 q3 p4 p5 hq_ K9 hK10
 have hk6 := hq_.1
 have H := hq_.2
 clear hq_
 rw [laws_markInsS.l0.eq_2] at H
 refine aw_grp1 ?_
 refine aw_grp1 ?_
 refine wk_start ?_
 refine kv g0 (mv) ?_
 refine kv g0 (mv) ?_
 refine kv g0 (lnR lenE) ?_
 refine kv g0 (lss) ?_
 refine wk_end ?_
 refine ac_next ?_
 by_cases c7 : p5 < (q3.length : Int)
 ·rw [if_pos c7] at H
  refine aw_ifT ?_ (decide_eq_true c7)
  refine aw_skip ?_
  refine ac_next ?_
  refine aw_grp1 ?_
  refine aw_block ?_
  refine aw_grp1 ?_
  refine wk_start ?_
  refine kv g0 (mv) ?_
  refine kv g0 (mv) ?_
  refine kv g0 (mv) ?_
  obtain ⟨c8, H⟩ := of_if H
  refine kv g0 (ixR 46 c8 (ltE c7)) ?_
  refine kv g0 (faE 0 0) ?_
  refine ks g0 (stE 1 (e46 (⟨p4, (rd_T46 q3 p5).f1, (rd_T46 q3 p5).f2, (rd_T46 q3 p5).f3⟩ : S46)) ((q3.set p5.toNat (⟨p4, (rd_T46 q3 p5).f1, (rd_T46 q3 p5).f2, (rd_T46 q3 p5).f3⟩ : S46)).map e46) (getE (z := z46) c8 c7) setE) ?_
  refine wk_end ?_
  refine ac_next ?_
  refine aw_grp1 ?_
  refine wk_start ?_
  refine kv g0 (mv) ?_
  refine kv g0 (add6) ?_
  refine kv g0 (asg) ?_
  refine wk_end ?_
  refine ac_next ?_
  refine aw_grp1 ?_
  refine wk_start ?_
  refine kv g0 (mv) ?_
  refine kv g0 (mv) ?_
  refine kv g0 (mv) ?_
  refine kv g0 (ixR 46 c8 (ltE (ls c7))) ?_
  refine kv g0 (faE 1 1) ?_
  refine ks g0 (stE 1 (e46 (⟨(rd_T46 (q3.set p5.toNat (⟨p4, (rd_T46 q3 p5).f1, (rd_T46 q3 p5).f2, (rd_T46 q3 p5).f3⟩ : S46)) p5).f0, wrap64 (p4 + 1), (rd_T46 (q3.set p5.toNat (⟨p4, (rd_T46 q3 p5).f1, (rd_T46 q3 p5).f2, (rd_T46 q3 p5).f3⟩ : S46)) p5).f2, (rd_T46 (q3.set p5.toNat (⟨p4, (rd_T46 q3 p5).f1, (rd_T46 q3 p5).f2, (rd_T46 q3 p5).f3⟩ : S46)) p5).f3⟩ : S46)) (((q3.set p5.toNat (⟨p4, (rd_T46 q3 p5).f1, (rd_T46 q3 p5).f2, (rd_T46 q3 p5).f3⟩ : S46)).set p5.toNat (⟨(rd_T46 (q3.set p5.toNat (⟨p4, (rd_T46 q3 p5).f1, (rd_T46 q3 p5).f2, (rd_T46 q3 p5).f3⟩ : S46)) p5).f0, wrap64 (p4 + 1), (rd_T46 (q3.set p5.toNat (⟨p4, (rd_T46 q3 p5).f1, (rd_T46 q3 p5).f2, (rd_T46 q3 p5).f3⟩ : S46)) p5).f2, (rd_T46 (q3.set p5.toNat (⟨p4, (rd_T46 q3 p5).f1, (rd_T46 q3 p5).f2, (rd_T46 q3 p5).f3⟩ : S46)) p5).f3⟩ : S46)).map e46) (getE (z := z46) c8 (ls c7)) setE) ?_
  refine wk_end ?_
  refine ac_next ?_
  refine aw_grp1 ?_
  refine wk_start ?_
  refine kv g0 (mv) ?_
  refine kv g0 (add6) ?_
  refine kv g0 (asg) ?_
  refine wk_end ?_
  refine ac_next ?_
  refine aw_grp1 ?_
  refine wk_start ?_
  refine kv g0 (mv) ?_
  refine kv g0 (mv) ?_
  refine kv g0 (mv) ?_
  refine kv g0 (ixR 46 c8 (ltE (ls (ls c7)))) ?_
  refine kv g0 (faE 2 2) ?_
  refine ks g0 (stE 1 (e46 (⟨(rd_T46 ((q3.set p5.toNat (⟨p4, (rd_T46 q3 p5).f1, (rd_T46 q3 p5).f2, (rd_T46 q3 p5).f3⟩ : S46)).set p5.toNat (⟨(rd_T46 (q3.set p5.toNat (⟨p4, (rd_T46 q3 p5).f1, (rd_T46 q3 p5).f2, (rd_T46 q3 p5).f3⟩ : S46)) p5).f0, wrap64 (p4 + 1), (rd_T46 (q3.set p5.toNat (⟨p4, (rd_T46 q3 p5).f1, (rd_T46 q3 p5).f2, (rd_T46 q3 p5).f3⟩ : S46)) p5).f2, (rd_T46 (q3.set p5.toNat (⟨p4, (rd_T46 q3 p5).f1, (rd_T46 q3 p5).f2, (rd_T46 q3 p5).f3⟩ : S46)) p5).f3⟩ : S46)) p5).f0, (rd_T46 ((q3.set p5.toNat (⟨p4, (rd_T46 q3 p5).f1, (rd_T46 q3 p5).f2, (rd_T46 q3 p5).f3⟩ : S46)).set p5.toNat (⟨(rd_T46 (q3.set p5.toNat (⟨p4, (rd_T46 q3 p5).f1, (rd_T46 q3 p5).f2, (rd_T46 q3 p5).f3⟩ : S46)) p5).f0, wrap64 (p4 + 1), (rd_T46 (q3.set p5.toNat (⟨p4, (rd_T46 q3 p5).f1, (rd_T46 q3 p5).f2, (rd_T46 q3 p5).f3⟩ : S46)) p5).f2, (rd_T46 (q3.set p5.toNat (⟨p4, (rd_T46 q3 p5).f1, (rd_T46 q3 p5).f2, (rd_T46 q3 p5).f3⟩ : S46)) p5).f3⟩ : S46)) p5).f1, wrap64 ((wrap64 (p4 + 1)) + 1), (rd_T46 ((q3.set p5.toNat (⟨p4, (rd_T46 q3 p5).f1, (rd_T46 q3 p5).f2, (rd_T46 q3 p5).f3⟩ : S46)).set p5.toNat (⟨(rd_T46 (q3.set p5.toNat (⟨p4, (rd_T46 q3 p5).f1, (rd_T46 q3 p5).f2, (rd_T46 q3 p5).f3⟩ : S46)) p5).f0, wrap64 (p4 + 1), (rd_T46 (q3.set p5.toNat (⟨p4, (rd_T46 q3 p5).f1, (rd_T46 q3 p5).f2, (rd_T46 q3 p5).f3⟩ : S46)) p5).f2, (rd_T46 (q3.set p5.toNat (⟨p4, (rd_T46 q3 p5).f1, (rd_T46 q3 p5).f2, (rd_T46 q3 p5).f3⟩ : S46)) p5).f3⟩ : S46)) p5).f3⟩ : S46)) ((((q3.set p5.toNat (⟨p4, (rd_T46 q3 p5).f1, (rd_T46 q3 p5).f2, (rd_T46 q3 p5).f3⟩ : S46)).set p5.toNat (⟨(rd_T46 (q3.set p5.toNat (⟨p4, (rd_T46 q3 p5).f1, (rd_T46 q3 p5).f2, (rd_T46 q3 p5).f3⟩ : S46)) p5).f0, wrap64 (p4 + 1), (rd_T46 (q3.set p5.toNat (⟨p4, (rd_T46 q3 p5).f1, (rd_T46 q3 p5).f2, (rd_T46 q3 p5).f3⟩ : S46)) p5).f2, (rd_T46 (q3.set p5.toNat (⟨p4, (rd_T46 q3 p5).f1, (rd_T46 q3 p5).f2, (rd_T46 q3 p5).f3⟩ : S46)) p5).f3⟩ : S46)).set p5.toNat (⟨(rd_T46 ((q3.set p5.toNat (⟨p4, (rd_T46 q3 p5).f1, (rd_T46 q3 p5).f2, (rd_T46 q3 p5).f3⟩ : S46)).set p5.toNat (⟨(rd_T46 (q3.set p5.toNat (⟨p4, (rd_T46 q3 p5).f1, (rd_T46 q3 p5).f2, (rd_T46 q3 p5).f3⟩ : S46)) p5).f0, wrap64 (p4 + 1), (rd_T46 (q3.set p5.toNat (⟨p4, (rd_T46 q3 p5).f1, (rd_T46 q3 p5).f2, (rd_T46 q3 p5).f3⟩ : S46)) p5).f2, (rd_T46 (q3.set p5.toNat (⟨p4, (rd_T46 q3 p5).f1, (rd_T46 q3 p5).f2, (rd_T46 q3 p5).f3⟩ : S46)) p5).f3⟩ : S46)) p5).f0, (rd_T46 ((q3.set p5.toNat (⟨p4, (rd_T46 q3 p5).f1, (rd_T46 q3 p5).f2, (rd_T46 q3 p5).f3⟩ : S46)).set p5.toNat (⟨(rd_T46 (q3.set p5.toNat (⟨p4, (rd_T46 q3 p5).f1, (rd_T46 q3 p5).f2, (rd_T46 q3 p5).f3⟩ : S46)) p5).f0, wrap64 (p4 + 1), (rd_T46 (q3.set p5.toNat (⟨p4, (rd_T46 q3 p5).f1, (rd_T46 q3 p5).f2, (rd_T46 q3 p5).f3⟩ : S46)) p5).f2, (rd_T46 (q3.set p5.toNat (⟨p4, (rd_T46 q3 p5).f1, (rd_T46 q3 p5).f2, (rd_T46 q3 p5).f3⟩ : S46)) p5).f3⟩ : S46)) p5).f1, wrap64 ((wrap64 (p4 + 1)) + 1), (rd_T46 ((q3.set p5.toNat (⟨p4, (rd_T46 q3 p5).f1, (rd_T46 q3 p5).f2, (rd_T46 q3 p5).f3⟩ : S46)).set p5.toNat (⟨(rd_T46 (q3.set p5.toNat (⟨p4, (rd_T46 q3 p5).f1, (rd_T46 q3 p5).f2, (rd_T46 q3 p5).f3⟩ : S46)) p5).f0, wrap64 (p4 + 1), (rd_T46 (q3.set p5.toNat (⟨p4, (rd_T46 q3 p5).f1, (rd_T46 q3 p5).f2, (rd_T46 q3 p5).f3⟩ : S46)) p5).f2, (rd_T46 (q3.set p5.toNat (⟨p4, (rd_T46 q3 p5).f1, (rd_T46 q3 p5).f2, (rd_T46 q3 p5).f3⟩ : S46)) p5).f3⟩ : S46)) p5).f3⟩ : S46)).map e46) (getE (z := z46) c8 (ls (ls c7))) setE) ?_
  refine wk_end ?_
  refine ac_next ?_
  refine aw_grp1 ?_
  refine wk_start ?_
  refine kv g0 (mv) ?_
  refine kv g0 (add6) ?_
  refine kv g0 (asg) ?_
  refine wk_end ?_
  refine ac_next ?_
  refine aw_grp1 ?_
  refine wk_start ?_
  refine kv g0 (mv) ?_
  refine kv g0 (mv) ?_
  refine kv g0 (mv) ?_
  refine kv g0 (ixR 46 c8 (ltE (ls (ls (ls c7))))) ?_
  refine kv g0 (faE 3 3) ?_
  refine ks g0 (stE 1 (e46 (⟨(rd_T46 (((q3.set p5.toNat (⟨p4, (rd_T46 q3 p5).f1, (rd_T46 q3 p5).f2, (rd_T46 q3 p5).f3⟩ : S46)).set p5.toNat (⟨(rd_T46 (q3.set p5.toNat (⟨p4, (rd_T46 q3 p5).f1, (rd_T46 q3 p5).f2, (rd_T46 q3 p5).f3⟩ : S46)) p5).f0, wrap64 (p4 + 1), (rd_T46 (q3.set p5.toNat (⟨p4, (rd_T46 q3 p5).f1, (rd_T46 q3 p5).f2, (rd_T46 q3 p5).f3⟩ : S46)) p5).f2, (rd_T46 (q3.set p5.toNat (⟨p4, (rd_T46 q3 p5).f1, (rd_T46 q3 p5).f2, (rd_T46 q3 p5).f3⟩ : S46)) p5).f3⟩ : S46)).set p5.toNat (⟨(rd_T46 ((q3.set p5.toNat (⟨p4, (rd_T46 q3 p5).f1, (rd_T46 q3 p5).f2, (rd_T46 q3 p5).f3⟩ : S46)).set p5.toNat (⟨(rd_T46 (q3.set p5.toNat (⟨p4, (rd_T46 q3 p5).f1, (rd_T46 q3 p5).f2, (rd_T46 q3 p5).f3⟩ : S46)) p5).f0, wrap64 (p4 + 1), (rd_T46 (q3.set p5.toNat (⟨p4, (rd_T46 q3 p5).f1, (rd_T46 q3 p5).f2, (rd_T46 q3 p5).f3⟩ : S46)) p5).f2, (rd_T46 (q3.set p5.toNat (⟨p4, (rd_T46 q3 p5).f1, (rd_T46 q3 p5).f2, (rd_T46 q3 p5).f3⟩ : S46)) p5).f3⟩ : S46)) p5).f0, (rd_T46 ((q3.set p5.toNat (⟨p4, (rd_T46 q3 p5).f1, (rd_T46 q3 p5).f2, (rd_T46 q3 p5).f3⟩ : S46)).set p5.toNat (⟨(rd_T46 (q3.set p5.toNat (⟨p4, (rd_T46 q3 p5).f1, (rd_T46 q3 p5).f2, (rd_T46 q3 p5).f3⟩ : S46)) p5).f0, wrap64 (p4 + 1), (rd_T46 (q3.set p5.toNat (⟨p4, (rd_T46 q3 p5).f1, (rd_T46 q3 p5).f2, (rd_T46 q3 p5).f3⟩ : S46)) p5).f2, (rd_T46 (q3.set p5.toNat (⟨p4, (rd_T46 q3 p5).f1, (rd_T46 q3 p5).f2, (rd_T46 q3 p5).f3⟩ : S46)) p5).f3⟩ : S46)) p5).f1, wrap64 ((wrap64 (p4 + 1)) + 1), (rd_T46 ((q3.set p5.toNat (⟨p4, (rd_T46 q3 p5).f1, (rd_T46 q3 p5).f2, (rd_T46 q3 p5).f3⟩ : S46)).set p5.toNat (⟨(rd_T46 (q3.set p5.toNat (⟨p4, (rd_T46 q3 p5).f1, (rd_T46 q3 p5).f2, (rd_T46 q3 p5).f3⟩ : S46)) p5).f0, wrap64 (p4 + 1), (rd_T46 (q3.set p5.toNat (⟨p4, (rd_T46 q3 p5).f1, (rd_T46 q3 p5).f2, (rd_T46 q3 p5).f3⟩ : S46)) p5).f2, (rd_T46 (q3.set p5.toNat (⟨p4, (rd_T46 q3 p5).f1, (rd_T46 q3 p5).f2, (rd_T46 q3 p5).f3⟩ : S46)) p5).f3⟩ : S46)) p5).f3⟩ : S46)) p5).f0, (rd_T46 (((q3.set p5.toNat (⟨p4, (rd_T46 q3 p5).f1, (rd_T46 q3 p5).f2, (rd_T46 q3 p5).f3⟩ : S46)).set p5.toNat (⟨(rd_T46 (q3.set p5.toNat (⟨p4, (rd_T46 q3 p5).f1, (rd_T46 q3 p5).f2, (rd_T46 q3 p5).f3⟩ : S46)) p5).f0, wrap64 (p4 + 1), (rd_T46 (q3.set p5.toNat (⟨p4, (rd_T46 q3 p5).f1, (rd_T46 q3 p5).f2, (rd_T46 q3 p5).f3⟩ : S46)) p5).f2, (rd_T46 (q3.set p5.toNat (⟨p4, (rd_T46 q3 p5).f1, (rd_T46 q3 p5).f2, (rd_T46 q3 p5).f3⟩ : S46)) p5).f3⟩ : S46)).set p5.toNat (⟨(rd_T46 ((q3.set p5.toNat (⟨p4, (rd_T46 q3 p5).f1, (rd_T46 q3 p5).f2, (rd_T46 q3 p5).f3⟩ : S46)).set p5.toNat (⟨(rd_T46 (q3.set p5.toNat (⟨p4, (rd_T46 q3 p5).f1, (rd_T46 q3 p5).f2, (rd_T46 q3 p5).f3⟩ : S46)) p5).f0, wrap64 (p4 + 1), (rd_T46 (q3.set p5.toNat (⟨p4, (rd_T46 q3 p5).f1, (rd_T46 q3 p5).f2, (rd_T46 q3 p5).f3⟩ : S46)) p5).f2, (rd_T46 (q3.set p5.toNat (⟨p4, (rd_T46 q3 p5).f1, (rd_T46 q3 p5).f2, (rd_T46 q3 p5).f3⟩ : S46)) p5).f3⟩ : S46)) p5).f0, (rd_T46 ((q3.set p5.toNat (⟨p4, (rd_T46 q3 p5).f1, (rd_T46 q3 p5).f2, (rd_T46 q3 p5).f3⟩ : S46)).set p5.toNat (⟨(rd_T46 (q3.set p5.toNat (⟨p4, (rd_T46 q3 p5).f1, (rd_T46 q3 p5).f2, (rd_T46 q3 p5).f3⟩ : S46)) p5).f0, wrap64 (p4 + 1), (rd_T46 (q3.set p5.toNat (⟨p4, (rd_T46 q3 p5).f1, (rd_T46 q3 p5).f2, (rd_T46 q3 p5).f3⟩ : S46)) p5).f2, (rd_T46 (q3.set p5.toNat (⟨p4, (rd_T46 q3 p5).f1, (rd_T46 q3 p5).f2, (rd_T46 q3 p5).f3⟩ : S46)) p5).f3⟩ : S46)) p5).f1, wrap64 ((wrap64 (p4 + 1)) + 1), (rd_T46 ((q3.set p5.toNat (⟨p4, (rd_T46 q3 p5).f1, (rd_T46 q3 p5).f2, (rd_T46 q3 p5).f3⟩ : S46)).set p5.toNat (⟨(rd_T46 (q3.set p5.toNat (⟨p4, (rd_T46 q3 p5).f1, (rd_T46 q3 p5).f2, (rd_T46 q3 p5).f3⟩ : S46)) p5).f0, wrap64 (p4 + 1), (rd_T46 (q3.set p5.toNat (⟨p4, (rd_T46 q3 p5).f1, (rd_T46 q3 p5).f2, (rd_T46 q3 p5).f3⟩ : S46)) p5).f2, (rd_T46 (q3.set p5.toNat (⟨p4, (rd_T46 q3 p5).f1, (rd_T46 q3 p5).f2, (rd_T46 q3 p5).f3⟩ : S46)) p5).f3⟩ : S46)) p5).f3⟩ : S46)) p5).f1, (rd_T46 (((q3.set p5.toNat (⟨p4, (rd_T46 q3 p5).f1, (rd_T46 q3 p5).f2, (rd_T46 q3 p5).f3⟩ : S46)).set p5.toNat (⟨(rd_T46 (q3.set p5.toNat (⟨p4, (rd_T46 q3 p5).f1, (rd_T46 q3 p5).f2, (rd_T46 q3 p5).f3⟩ : S46)) p5).f0, wrap64 (p4 + 1), (rd_T46 (q3.set p5.toNat (⟨p4, (rd_T46 q3 p5).f1, (rd_T46 q3 p5).f2, (rd_T46 q3 p5).f3⟩ : S46)) p5).f2, (rd_T46 (q3.set p5.toNat (⟨p4, (rd_T46 q3 p5).f1, (rd_T46 q3 p5).f2, (rd_T46 q3 p5).f3⟩ : S46)) p5).f3⟩ : S46)).set p5.toNat (⟨(rd_T46 ((q3.set p5.toNat (⟨p4, (rd_T46 q3 p5).f1, (rd_T46 q3 p5).f2, (rd_T46 q3 p5).f3⟩ : S46)).set p5.toNat (⟨(rd_T46 (q3.set p5.toNat (⟨p4, (rd_T46 q3 p5).f1, (rd_T46 q3 p5).f2, (rd_T46 q3 p5).f3⟩ : S46)) p5).f0, wrap64 (p4 + 1), (rd_T46 (q3.set p5.toNat (⟨p4, (rd_T46 q3 p5).f1, (rd_T46 q3 p5).f2, (rd_T46 q3 p5).f3⟩ : S46)) p5).f2, (rd_T46 (q3.set p5.toNat (⟨p4, (rd_T46 q3 p5).f1, (rd_T46 q3 p5).f2, (rd_T46 q3 p5).f3⟩ : S46)) p5).f3⟩ : S46)) p5).f0, (rd_T46 ((q3.set p5.toNat (⟨p4, (rd_T46 q3 p5).f1, (rd_T46 q3 p5).f2, (rd_T46 q3 p5).f3⟩ : S46)).set p5.toNat (⟨(rd_T46 (q3.set p5.toNat (⟨p4, (rd_T46 q3 p5).f1, (rd_T46 q3 p5).f2, (rd_T46 q3 p5).f3⟩ : S46)) p5).f0, wrap64 (p4 + 1), (rd_T46 (q3.set p5.toNat (⟨p4, (rd_T46 q3 p5).f1, (rd_T46 q3 p5).f2, (rd_T46 q3 p5).f3⟩ : S46)) p5).f2, (rd_T46 (q3.set p5.toNat (⟨p4, (rd_T46 q3 p5).f1, (rd_T46 q3 p5).f2, (rd_T46 q3 p5).f3⟩ : S46)) p5).f3⟩ : S46)) p5).f1, wrap64 ((wrap64 (p4 + 1)) + 1), (rd_T46 ((q3.set p5.toNat (⟨p4, (rd_T46 q3 p5).f1, (rd_T46 q3 p5).f2, (rd_T46 q3 p5).f3⟩ : S46)).set p5.toNat (⟨(rd_T46 (q3.set p5.toNat (⟨p4, (rd_T46 q3 p5).f1, (rd_T46 q3 p5).f2, (rd_T46 q3 p5).f3⟩ : S46)) p5).f0, wrap64 (p4 + 1), (rd_T46 (q3.set p5.toNat (⟨p4, (rd_T46 q3 p5).f1, (rd_T46 q3 p5).f2, (rd_T46 q3 p5).f3⟩ : S46)) p5).f2, (rd_T46 (q3.set p5.toNat (⟨p4, (rd_T46 q3 p5).f1, (rd_T46 q3 p5).f2, (rd_T46 q3 p5).f3⟩ : S46)) p5).f3⟩ : S46)) p5).f3⟩ : S46)) p5).f2, wrap64 ((wrap64 ((wrap64 (p4 + 1)) + 1)) + 1)⟩ : S46)) (((((q3.set p5.toNat (⟨p4, (rd_T46 q3 p5).f1, (rd_T46 q3 p5).f2, (rd_T46 q3 p5).f3⟩ : S46)).set p5.toNat (⟨(rd_T46 (q3.set p5.toNat (⟨p4, (rd_T46 q3 p5).f1, (rd_T46 q3 p5).f2, (rd_T46 q3 p5).f3⟩ : S46)) p5).f0, wrap64 (p4 + 1), (rd_T46 (q3.set p5.toNat (⟨p4, (rd_T46 q3 p5).f1, (rd_T46 q3 p5).f2, (rd_T46 q3 p5).f3⟩ : S46)) p5).f2, (rd_T46 (q3.set p5.toNat (⟨p4, (rd_T46 q3 p5).f1, (rd_T46 q3 p5).f2, (rd_T46 q3 p5).f3⟩ : S46)) p5).f3⟩ : S46)).set p5.toNat (⟨(rd_T46 ((q3.set p5.toNat (⟨p4, (rd_T46 q3 p5).f1, (rd_T46 q3 p5).f2, (rd_T46 q3 p5).f3⟩ : S46)).set p5.toNat (⟨(rd_T46 (q3.set p5.toNat (⟨p4, (rd_T46 q3 p5).f1, (rd_T46 q3 p5).f2, (rd_T46 q3 p5).f3⟩ : S46)) p5).f0, wrap64 (p4 + 1), (rd_T46 (q3.set p5.toNat (⟨p4, (rd_T46 q3 p5).f1, (rd_T46 q3 p5).f2, (rd_T46 q3 p5).f3⟩ : S46)) p5).f2, (rd_T46 (q3.set p5.toNat (⟨p4, (rd_T46 q3 p5).f1, (rd_T46 q3 p5).f2, (rd_T46 q3 p5).f3⟩ : S46)) p5).f3⟩ : S46)) p5).f0, (rd_T46 ((q3.set p5.toNat (⟨p4, (rd_T46 q3 p5).f1, (rd_T46 q3 p5).f2, (rd_T46 q3 p5).f3⟩ : S46)).set p5.toNat (⟨(rd_T46 (q3.set p5.toNat (⟨p4, (rd_T46 q3 p5).f1, (rd_T46 q3 p5).f2, (rd_T46 q3 p5).f3⟩ : S46)) p5).f0, wrap64 (p4 + 1), (rd_T46 (q3.set p5.toNat (⟨p4, (rd_T46 q3 p5).f1, (rd_T46 q3 p5).f2, (rd_T46 q3 p5).f3⟩ : S46)) p5).f2, (rd_T46 (q3.set p5.toNat (⟨p4, (rd_T46 q3 p5).f1, (rd_T46 q3 p5).f2, (rd_T46 q3 p5).f3⟩ : S46)) p5).f3⟩ : S46)) p5).f1, wrap64 ((wrap64 (p4 + 1)) + 1), (rd_T46 ((q3.set p5.toNat (⟨p4, (rd_T46 q3 p5).f1, (rd_T46 q3 p5).f2, (rd_T46 q3 p5).f3⟩ : S46)).set p5.toNat (⟨(rd_T46 (q3.set p5.toNat (⟨p4, (rd_T46 q3 p5).f1, (rd_T46 q3 p5).f2, (rd_T46 q3 p5).f3⟩ : S46)) p5).f0, wrap64 (p4 + 1), (rd_T46 (q3.set p5.toNat (⟨p4, (rd_T46 q3 p5).f1, (rd_T46 q3 p5).f2, (rd_T46 q3 p5).f3⟩ : S46)) p5).f2, (rd_T46 (q3.set p5.toNat (⟨p4, (rd_T46 q3 p5).f1, (rd_T46 q3 p5).f2, (rd_T46 q3 p5).f3⟩ : S46)) p5).f3⟩ : S46)) p5).f3⟩ : S46)).set p5.toNat (⟨(rd_T46 (((q3.set p5.toNat (⟨p4, (rd_T46 q3 p5).f1, (rd_T46 q3 p5).f2, (rd_T46 q3 p5).f3⟩ : S46)).set p5.toNat (⟨(rd_T46 (q3.set p5.toNat (⟨p4, (rd_T46 q3 p5).f1, (rd_T46 q3 p5).f2, (rd_T46 q3 p5).f3⟩ : S46)) p5).f0, wrap64 (p4 + 1), (rd_T46 (q3.set p5.toNat (⟨p4, (rd_T46 q3 p5).f1, (rd_T46 q3 p5).f2, (rd_T46 q3 p5).f3⟩ : S46)) p5).f2, (rd_T46 (q3.set p5.toNat (⟨p4, (rd_T46 q3 p5).f1, (rd_T46 q3 p5).f2, (rd_T46 q3 p5).f3⟩ : S46)) p5).f3⟩ : S46)).set p5.toNat (⟨(rd_T46 ((q3.set p5.toNat (⟨p4, (rd_T46 q3 p5).f1, (rd_T46 q3 p5).f2, (rd_T46 q3 p5).f3⟩ : S46)).set p5.toNat (⟨(rd_T46 (q3.set p5.toNat (⟨p4, (rd_T46 q3 p5).f1, (rd_T46 q3 p5).f2, (rd_T46 q3 p5).f3⟩ : S46)) p5).f0, wrap64 (p4 + 1), (rd_T46 (q3.set p5.toNat (⟨p4, (rd_T46 q3 p5).f1, (rd_T46 q3 p5).f2, (rd_T46 q3 p5).f3⟩ : S46)) p5).f2, (rd_T46 (q3.set p5.toNat (⟨p4, (rd_T46 q3 p5).f1, (rd_T46 q3 p5).f2, (rd_T46 q3 p5).f3⟩ : S46)) p5).f3⟩ : S46)) p5).f0, (rd_T46 ((q3.set p5.toNat (⟨p4, (rd_T46 q3 p5).f1, (rd_T46 q3 p5).f2, (rd_T46 q3 p5).f3⟩ : S46)).set p5.toNat (⟨(rd_T46 (q3.set p5.toNat (⟨p4, (rd_T46 q3 p5).f1, (rd_T46 q3 p5).f2, (rd_T46 q3 p5).f3⟩ : S46)) p5).f0, wrap64 (p4 + 1), (rd_T46 (q3.set p5.toNat (⟨p4, (rd_T46 q3 p5).f1, (rd_T46 q3 p5).f2, (rd_T46 q3 p5).f3⟩ : S46)) p5).f2, (rd_T46 (q3.set p5.toNat (⟨p4, (rd_T46 q3 p5).f1, (rd_T46 q3 p5).f2, (rd_T46 q3 p5).f3⟩ : S46)) p5).f3⟩ : S46)) p5).f1, wrap64 ((wrap64 (p4 + 1)) + 1), (rd_T46 ((q3.set p5.toNat (⟨p4, (rd_T46 q3 p5).f1, (rd_T46 q3 p5).f2, (rd_T46 q3 p5).f3⟩ : S46)).set p5.toNat (⟨(rd_T46 (q3.set p5.toNat (⟨p4, (rd_T46 q3 p5).f1, (rd_T46 q3 p5).f2, (rd_T46 q3 p5).f3⟩ : S46)) p5).f0, wrap64 (p4 + 1), (rd_T46 (q3.set p5.toNat (⟨p4, (rd_T46 q3 p5).f1, (rd_T46 q3 p5).f2, (rd_T46 q3 p5).f3⟩ : S46)) p5).f2, (rd_T46 (q3.set p5.toNat (⟨p4, (rd_T46 q3 p5).f1, (rd_T46 q3 p5).f2, (rd_T46 q3 p5).f3⟩ : S46)) p5).f3⟩ : S46)) p5).f3⟩ : S46)) p5).f0, (rd_T46 (((q3.set p5.toNat (⟨p4, (rd_T46 q3 p5).f1, (rd_T46 q3 p5).f2, (rd_T46 q3 p5).f3⟩ : S46)).set p5.toNat (⟨(rd_T46 (q3.set p5.toNat (⟨p4, (rd_T46 q3 p5).f1, (rd_T46 q3 p5).f2, (rd_T46 q3 p5).f3⟩ : S46)) p5).f0, wrap64 (p4 + 1), (rd_T46 (q3.set p5.toNat (⟨p4, (rd_T46 q3 p5).f1, (rd_T46 q3 p5).f2, (rd_T46 q3 p5).f3⟩ : S46)) p5).f2, (rd_T46 (q3.set p5.toNat (⟨p4, (rd_T46 q3 p5).f1, (rd_T46 q3 p5).f2, (rd_T46 q3 p5).f3⟩ : S46)) p5).f3⟩ : S46)).set p5.toNat (⟨(rd_T46 ((q3.set p5.toNat (⟨p4, (rd_T46 q3 p5).f1, (rd_T46 q3 p5).f2, (rd_T46 q3 p5).f3⟩ : S46)).set p5.toNat (⟨(rd_T46 (q3.set p5.toNat (⟨p4, (rd_T46 q3 p5).f1, (rd_T46 q3 p5).f2, (rd_T46 q3 p5).f3⟩ : S46)) p5).f0, wrap64 (p4 + 1), (rd_T46 (q3.set p5.toNat (⟨p4, (rd_T46 q3 p5).f1, (rd_T46 q3 p5).f2, (rd_T46 q3 p5).f3⟩ : S46)) p5).f2, (rd_T46 (q3.set p5.toNat (⟨p4, (rd_T46 q3 p5).f1, (rd_T46 q3 p5).f2, (rd_T46 q3 p5).f3⟩ : S46)) p5).f3⟩ : S46)) p5).f0, (rd_T46 ((q3.set p5.toNat (⟨p4, (rd_T46 q3 p5).f1, (rd_T46 q3 p5).f2, (rd_T46 q3 p5).f3⟩ : S46)).set p5.toNat (⟨(rd_T46 (q3.set p5.toNat (⟨p4, (rd_T46 q3 p5).f1, (rd_T46 q3 p5).f2, (rd_T46 q3 p5).f3⟩ : S46)) p5).f0, wrap64 (p4 + 1), (rd_T46 (q3.set p5.toNat (⟨p4, (rd_T46 q3 p5).f1, (rd_T46 q3 p5).f2, (rd_T46 q3 p5).f3⟩ : S46)) p5).f2, (rd_T46 (q3.set p5.toNat (⟨p4, (rd_T46 q3 p5).f1, (rd_T46 q3 p5).f2, (rd_T46 q3 p5).f3⟩ : S46)) p5).f3⟩ : S46)) p5).f1, wrap64 ((wrap64 (p4 + 1)) + 1), (rd_T46 ((q3.set p5.toNat (⟨p4, (rd_T46 q3 p5).f1, (rd_T46 q3 p5).f2, (rd_T46 q3 p5).f3⟩ : S46)).set p5.toNat (⟨(rd_T46 (q3.set p5.toNat (⟨p4, (rd_T46 q3 p5).f1, (rd_T46 q3 p5).f2, (rd_T46 q3 p5).f3⟩ : S46)) p5).f0, wrap64 (p4 + 1), (rd_T46 (q3.set p5.toNat (⟨p4, (rd_T46 q3 p5).f1, (rd_T46 q3 p5).f2, (rd_T46 q3 p5).f3⟩ : S46)) p5).f2, (rd_T46 (q3.set p5.toNat (⟨p4, (rd_T46 q3 p5).f1, (rd_T46 q3 p5).f2, (rd_T46 q3 p5).f3⟩ : S46)) p5).f3⟩ : S46)) p5).f3⟩ : S46)) p5).f1, (rd_T46 (((q3.set p5.toNat (⟨p4, (rd_T46 q3 p5).f1, (rd_T46 q3 p5).f2, (rd_T46 q3 p5).f3⟩ : S46)).set p5.toNat (⟨(rd_T46 (q3.set p5.toNat (⟨p4, (rd_T46 q3 p5).f1, (rd_T46 q3 p5).f2, (rd_T46 q3 p5).f3⟩ : S46)) p5).f0, wrap64 (p4 + 1), (rd_T46 (q3.set p5.toNat (⟨p4, (rd_T46 q3 p5).f1, (rd_T46 q3 p5).f2, (rd_T46 q3 p5).f3⟩ : S46)) p5).f2, (rd_T46 (q3.set p5.toNat (⟨p4, (rd_T46 q3 p5).f1, (rd_T46 q3 p5).f2, (rd_T46 q3 p5).f3⟩ : S46)) p5).f3⟩ : S46)).set p5.toNat (⟨(rd_T46 ((q3.set p5.toNat (⟨p4, (rd_T46 q3 p5).f1, (rd_T46 q3 p5).f2, (rd_T46 q3 p5).f3⟩ : S46)).set p5.toNat (⟨(rd_T46 (q3.set p5.toNat (⟨p4, (rd_T46 q3 p5).f1, (rd_T46 q3 p5).f2, (rd_T46 q3 p5).f3⟩ : S46)) p5).f0, wrap64 (p4 + 1), (rd_T46 (q3.set p5.toNat (⟨p4, (rd_T46 q3 p5).f1, (rd_T46 q3 p5).f2, (rd_T46 q3 p5).f3⟩ : S46)) p5).f2, (rd_T46 (q3.set p5.toNat (⟨p4, (rd_T46 q3 p5).f1, (rd_T46 q3 p5).f2, (rd_T46 q3 p5).f3⟩ : S46)) p5).f3⟩ : S46)) p5).f0, (rd_T46 ((q3.set p5.toNat (⟨p4, (rd_T46 q3 p5).f1, (rd_T46 q3 p5).f2, (rd_T46 q3 p5).f3⟩ : S46)).set p5.toNat (⟨(rd_T46 (q3.set p5.toNat (⟨p4, (rd_T46 q3 p5).f1, (rd_T46 q3 p5).f2, (rd_T46 q3 p5).f3⟩ : S46)) p5).f0, wrap64 (p4 + 1), (rd_T46 (q3.set p5.toNat (⟨p4, (rd_T46 q3 p5).f1, (rd_T46 q3 p5).f2, (rd_T46 q3 p5).f3⟩ : S46)) p5).f2, (rd_T46 (q3.set p5.toNat (⟨p4, (rd_T46 q3 p5).f1, (rd_T46 q3 p5).f2, (rd_T46 q3 p5).f3⟩ : S46)) p5).f3⟩ : S46)) p5).f1, wrap64 ((wrap64 (p4 + 1)) + 1), (rd_T46 ((q3.set p5.toNat (⟨p4, (rd_T46 q3 p5).f1, (rd_T46 q3 p5).f2, (rd_T46 q3 p5).f3⟩ : S46)).set p5.toNat (⟨(rd_T46 (q3.set p5.toNat (⟨p4, (rd_T46 q3 p5).f1, (rd_T46 q3 p5).f2, (rd_T46 q3 p5).f3⟩ : S46)) p5).f0, wrap64 (p4 + 1), (rd_T46 (q3.set p5.toNat (⟨p4, (rd_T46 q3 p5).f1, (rd_T46 q3 p5).f2, (rd_T46 q3 p5).f3⟩ : S46)) p5).f2, (rd_T46 (q3.set p5.toNat (⟨p4, (rd_T46 q3 p5).f1, (rd_T46 q3 p5).f2, (rd_T46 q3 p5).f3⟩ : S46)) p5).f3⟩ : S46)) p5).f3⟩ : S46)) p5).f2, wrap64 ((wrap64 ((wrap64 (p4 + 1)) + 1)) + 1)⟩ : S46)).map e46) (getE (z := z46) c8 (ls (ls (ls c7)))) setE) ?_
  refine wk_end ?_
  refine ac_next ?_
  refine wk_start ?_
  refine kv g0 (mv) ?_
  refine kv g0 (add6) ?_
  refine kv g0 (asg) ?_
  refine wk_end ?_
  refine ac_blkN ?_
  refine ac_next ?_
  refine wk_start ?_
  refine kv g0 (mv) ?_
  refine kv g0 (add6) ?_
  refine kv g0 (asg) ?_
  refine wk_end ?_
  refine ac_k ?_
  exact acw hE [(0, 0)] 9999 (hK10 k6 ((((q3.set p5.toNat (⟨p4, (rd_T46 q3 p5).f1, (rd_T46 q3 p5).f2, (rd_T46 q3 p5).f3⟩ : S46)).set p5.toNat (⟨(rd_T46 (q3.set p5.toNat (⟨p4, (rd_T46 q3 p5).f1, (rd_T46 q3 p5).f2, (rd_T46 q3 p5).f3⟩ : S46)) p5).f0, wrap64 (p4 + 1), (rd_T46 (q3.set p5.toNat (⟨p4, (rd_T46 q3 p5).f1, (rd_T46 q3 p5).f2, (rd_T46 q3 p5).f3⟩ : S46)) p5).f2, (rd_T46 (q3.set p5.toNat (⟨p4, (rd_T46 q3 p5).f1, (rd_T46 q3 p5).f2, (rd_T46 q3 p5).f3⟩ : S46)) p5).f3⟩ : S46)).set p5.toNat (⟨(rd_T46 ((q3.set p5.toNat (⟨p4, (rd_T46 q3 p5).f1, (rd_T46 q3 p5).f2, (rd_T46 q3 p5).f3⟩ : S46)).set p5.toNat (⟨(rd_T46 (q3.set p5.toNat (⟨p4, (rd_T46 q3 p5).f1, (rd_T46 q3 p5).f2, (rd_T46 q3 p5).f3⟩ : S46)) p5).f0, wrap64 (p4 + 1), (rd_T46 (q3.set p5.toNat (⟨p4, (rd_T46 q3 p5).f1, (rd_T46 q3 p5).f2, (rd_T46 q3 p5).f3⟩ : S46)) p5).f2, (rd_T46 (q3.set p5.toNat (⟨p4, (rd_T46 q3 p5).f1, (rd_T46 q3 p5).f2, (rd_T46 q3 p5).f3⟩ : S46)) p5).f3⟩ : S46)) p5).f0, (rd_T46 ((q3.set p5.toNat (⟨p4, (rd_T46 q3 p5).f1, (rd_T46 q3 p5).f2, (rd_T46 q3 p5).f3⟩ : S46)).set p5.toNat (⟨(rd_T46 (q3.set p5.toNat (⟨p4, (rd_T46 q3 p5).f1, (rd_T46 q3 p5).f2, (rd_T46 q3 p5).f3⟩ : S46)) p5).f0, wrap64 (p4 + 1), (rd_T46 (q3.set p5.toNat (⟨p4, (rd_T46 q3 p5).f1, (rd_T46 q3 p5).f2, (rd_T46 q3 p5).f3⟩ : S46)) p5).f2, (rd_T46 (q3.set p5.toNat (⟨p4, (rd_T46 q3 p5).f1, (rd_T46 q3 p5).f2, (rd_T46 q3 p5).f3⟩ : S46)) p5).f3⟩ : S46)) p5).f1, wrap64 ((wrap64 (p4 + 1)) + 1), (rd_T46 ((q3.set p5.toNat (⟨p4, (rd_T46 q3 p5).f1, (rd_T46 q3 p5).f2, (rd_T46 q3 p5).f3⟩ : S46)).set p5.toNat (⟨(rd_T46 (q3.set p5.toNat (⟨p4, (rd_T46 q3 p5).f1, (rd_T46 q3 p5).f2, (rd_T46 q3 p5).f3⟩ : S46)) p5).f0, wrap64 (p4 + 1), (rd_T46 (q3.set p5.toNat (⟨p4, (rd_T46 q3 p5).f1, (rd_T46 q3 p5).f2, (rd_T46 q3 p5).f3⟩ : S46)) p5).f2, (rd_T46 (q3.set p5.toNat (⟨p4, (rd_T46 q3 p5).f1, (rd_T46 q3 p5).f2, (rd_T46 q3 p5).f3⟩ : S46)) p5).f3⟩ : S46)) p5).f3⟩ : S46)).set p5.toNat (⟨(rd_T46 (((q3.set p5.toNat (⟨p4, (rd_T46 q3 p5).f1, (rd_T46 q3 p5).f2, (rd_T46 q3 p5).f3⟩ : S46)).set p5.toNat (⟨(rd_T46 (q3.set p5.toNat (⟨p4, (rd_T46 q3 p5).f1, (rd_T46 q3 p5).f2, (rd_T46 q3 p5).f3⟩ : S46)) p5).f0, wrap64 (p4 + 1), (rd_T46 (q3.set p5.toNat (⟨p4, (rd_T46 q3 p5).f1, (rd_T46 q3 p5).f2, (rd_T46 q3 p5).f3⟩ : S46)) p5).f2, (rd_T46 (q3.set p5.toNat (⟨p4, (rd_T46 q3 p5).f1, (rd_T46 q3 p5).f2, (rd_T46 q3 p5).f3⟩ : S46)) p5).f3⟩ : S46)).set p5.toNat (⟨(rd_T46 ((q3.set p5.toNat (⟨p4, (rd_T46 q3 p5).f1, (rd_T46 q3 p5).f2, (rd_T46 q3 p5).f3⟩ : S46)).set p5.toNat (⟨(rd_T46 (q3.set p5.toNat (⟨p4, (rd_T46 q3 p5).f1, (rd_T46 q3 p5).f2, (rd_T46 q3 p5).f3⟩ : S46)) p5).f0, wrap64 (p4 + 1), (rd_T46 (q3.set p5.toNat (⟨p4, (rd_T46 q3 p5).f1, (rd_T46 q3 p5).f2, (rd_T46 q3 p5).f3⟩ : S46)) p5).f2, (rd_T46 (q3.set p5.toNat (⟨p4, (rd_T46 q3 p5).f1, (rd_T46 q3 p5).f2, (rd_T46 q3 p5).f3⟩ : S46)) p5).f3⟩ : S46)) p5).f0, (rd_T46 ((q3.set p5.toNat (⟨p4, (rd_T46 q3 p5).f1, (rd_T46 q3 p5).f2, (rd_T46 q3 p5).f3⟩ : S46)).set p5.toNat (⟨(rd_T46 (q3.set p5.toNat (⟨p4, (rd_T46 q3 p5).f1, (rd_T46 q3 p5).f2, (rd_T46 q3 p5).f3⟩ : S46)) p5).f0, wrap64 (p4 + 1), (rd_T46 (q3.set p5.toNat (⟨p4, (rd_T46 q3 p5).f1, (rd_T46 q3 p5).f2, (rd_T46 q3 p5).f3⟩ : S46)) p5).f2, (rd_T46 (q3.set p5.toNat (⟨p4, (rd_T46 q3 p5).f1, (rd_T46 q3 p5).f2, (rd_T46 q3 p5).f3⟩ : S46)) p5).f3⟩ : S46)) p5).f1, wrap64 ((wrap64 (p4 + 1)) + 1), (rd_T46 ((q3.set p5.toNat (⟨p4, (rd_T46 q3 p5).f1, (rd_T46 q3 p5).f2, (rd_T46 q3 p5).f3⟩ : S46)).set p5.toNat (⟨(rd_T46 (q3.set p5.toNat (⟨p4, (rd_T46 q3 p5).f1, (rd_T46 q3 p5).f2, (rd_T46 q3 p5).f3⟩ : S46)) p5).f0, wrap64 (p4 + 1), (rd_T46 (q3.set p5.toNat (⟨p4, (rd_T46 q3 p5).f1, (rd_T46 q3 p5).f2, (rd_T46 q3 p5).f3⟩ : S46)) p5).f2, (rd_T46 (q3.set p5.toNat (⟨p4, (rd_T46 q3 p5).f1, (rd_T46 q3 p5).f2, (rd_T46 q3 p5).f3⟩ : S46)) p5).f3⟩ : S46)) p5).f3⟩ : S46)) p5).f0, (rd_T46 (((q3.set p5.toNat (⟨p4, (rd_T46 q3 p5).f1, (rd_T46 q3 p5).f2, (rd_T46 q3 p5).f3⟩ : S46)).set p5.toNat (⟨(rd_T46 (q3.set p5.toNat (⟨p4, (rd_T46 q3 p5).f1, (rd_T46 q3 p5).f2, (rd_T46 q3 p5).f3⟩ : S46)) p5).f0, wrap64 (p4 + 1), (rd_T46 (q3.set p5.toNat (⟨p4, (rd_T46 q3 p5).f1, (rd_T46 q3 p5).f2, (rd_T46 q3 p5).f3⟩ : S46)) p5).f2, (rd_T46 (q3.set p5.toNat (⟨p4, (rd_T46 q3 p5).f1, (rd_T46 q3 p5).f2, (rd_T46 q3 p5).f3⟩ : S46)) p5).f3⟩ : S46)).set p5.toNat (⟨(rd_T46 ((q3.set p5.toNat (⟨p4, (rd_T46 q3 p5).f1, (rd_T46 q3 p5).f2, (rd_T46 q3 p5).f3⟩ : S46)).set p5.toNat (⟨(rd_T46 (q3.set p5.toNat (⟨p4, (rd_T46 q3 p5).f1, (rd_T46 q3 p5).f2, (rd_T46 q3 p5).f3⟩ : S46)) p5).f0, wrap64 (p4 + 1), (rd_T46 (q3.set p5.toNat (⟨p4, (rd_T46 q3 p5).f1, (rd_T46 q3 p5).f2, (rd_T46 q3 p5).f3⟩ : S46)) p5).f2, (rd_T46 (q3.set p5.toNat (⟨p4, (rd_T46 q3 p5).f1, (rd_T46 q3 p5).f2, (rd_T46 q3 p5).f3⟩ : S46)) p5).f3⟩ : S46)) p5).f0, (rd_T46 ((q3.set p5.toNat (⟨p4, (rd_T46 q3 p5).f1, (rd_T46 q3 p5).f2, (rd_T46 q3 p5).f3⟩ : S46)).set p5.toNat (⟨(rd_T46 (q3.set p5.toNat (⟨p4, (rd_T46 q3 p5).f1, (rd_T46 q3 p5).f2, (rd_T46 q3 p5).f3⟩ : S46)) p5).f0, wrap64 (p4 + 1), (rd_T46 (q3.set p5.toNat (⟨p4, (rd_T46 q3 p5).f1, (rd_T46 q3 p5).f2, (rd_T46 q3 p5).f3⟩ : S46)) p5).f2, (rd_T46 (q3.set p5.toNat (⟨p4, (rd_T46 q3 p5).f1, (rd_T46 q3 p5).f2, (rd_T46 q3 p5).f3⟩ : S46)) p5).f3⟩ : S46)) p5).f1, wrap64 ((wrap64 (p4 + 1)) + 1), (rd_T46 ((q3.set p5.toNat (⟨p4, (rd_T46 q3 p5).f1, (rd_T46 q3 p5).f2, (rd_T46 q3 p5).f3⟩ : S46)).set p5.toNat (⟨(rd_T46 (q3.set p5.toNat (⟨p4, (rd_T46 q3 p5).f1, (rd_T46 q3 p5).f2, (rd_T46 q3 p5).f3⟩ : S46)) p5).f0, wrap64 (p4 + 1), (rd_T46 (q3.set p5.toNat (⟨p4, (rd_T46 q3 p5).f1, (rd_T46 q3 p5).f2, (rd_T46 q3 p5).f3⟩ : S46)) p5).f2, (rd_T46 (q3.set p5.toNat (⟨p4, (rd_T46 q3 p5).f1, (rd_T46 q3 p5).f2, (rd_T46 q3 p5).f3⟩ : S46)) p5).f3⟩ : S46)) p5).f3⟩ : S46)) p5).f1, (rd_T46 (((q3.set p5.toNat (⟨p4, (rd_T46 q3 p5).f1, (rd_T46 q3 p5).f2, (rd_T46 q3 p5).f3⟩ : S46)).set p5.toNat (⟨(rd_T46 (q3.set p5.toNat (⟨p4, (rd_T46 q3 p5).f1, (rd_T46 q3 p5).f2, (rd_T46 q3 p5).f3⟩ : S46)) p5).f0, wrap64 (p4 + 1), (rd_T46 (q3.set p5.toNat (⟨p4, (rd_T46 q3 p5).f1, (rd_T46 q3 p5).f2, (rd_T46 q3 p5).f3⟩ : S46)) p5).f2, (rd_T46 (q3.set p5.toNat (⟨p4, (rd_T46 q3 p5).f1, (rd_T46 q3 p5).f2, (rd_T46 q3 p5).f3⟩ : S46)) p5).f3⟩ : S46)).set p5.toNat (⟨(rd_T46 ((q3.set p5.toNat (⟨p4, (rd_T46 q3 p5).f1, (rd_T46 q3 p5).f2, (rd_T46 q3 p5).f3⟩ : S46)).set p5.toNat (⟨(rd_T46 (q3.set p5.toNat (⟨p4, (rd_T46 q3 p5).f1, (rd_T46 q3 p5).f2, (rd_T46 q3 p5).f3⟩ : S46)) p5).f0, wrap64 (p4 + 1), (rd_T46 (q3.set p5.toNat (⟨p4, (rd_T46 q3 p5).f1, (rd_T46 q3 p5).f2, (rd_T46 q3 p5).f3⟩ : S46)) p5).f2, (rd_T46 (q3.set p5.toNat (⟨p4, (rd_T46 q3 p5).f1, (rd_T46 q3 p5).f2, (rd_T46 q3 p5).f3⟩ : S46)) p5).f3⟩ : S46)) p5).f0, (rd_T46 ((q3.set p5.toNat (⟨p4, (rd_T46 q3 p5).f1, (rd_T46 q3 p5).f2, (rd_T46 q3 p5).f3⟩ : S46)).set p5.toNat (⟨(rd_T46 (q3.set p5.toNat (⟨p4, (rd_T46 q3 p5).f1, (rd_T46 q3 p5).f2, (rd_T46 q3 p5).f3⟩ : S46)) p5).f0, wrap64 (p4 + 1), (rd_T46 (q3.set p5.toNat (⟨p4, (rd_T46 q3 p5).f1, (rd_T46 q3 p5).f2, (rd_T46 q3 p5).f3⟩ : S46)) p5).f2, (rd_T46 (q3.set p5.toNat (⟨p4, (rd_T46 q3 p5).f1, (rd_T46 q3 p5).f2, (rd_T46 q3 p5).f3⟩ : S46)) p5).f3⟩ : S46)) p5).f1, wrap64 ((wrap64 (p4 + 1)) + 1), (rd_T46 ((q3.set p5.toNat (⟨p4, (rd_T46 q3 p5).f1, (rd_T46 q3 p5).f2, (rd_T46 q3 p5).f3⟩ : S46)).set p5.toNat (⟨(rd_T46 (q3.set p5.toNat (⟨p4, (rd_T46 q3 p5).f1, (rd_T46 q3 p5).f2, (rd_T46 q3 p5).f3⟩ : S46)) p5).f0, wrap64 (p4 + 1), (rd_T46 (q3.set p5.toNat (⟨p4, (rd_T46 q3 p5).f1, (rd_T46 q3 p5).f2, (rd_T46 q3 p5).f3⟩ : S46)) p5).f2, (rd_T46 (q3.set p5.toNat (⟨p4, (rd_T46 q3 p5).f1, (rd_T46 q3 p5).f2, (rd_T46 q3 p5).f3⟩ : S46)) p5).f3⟩ : S46)) p5).f3⟩ : S46)) p5).f2, wrap64 ((wrap64 ((wrap64 (p4 + 1)) + 1)) + 1)⟩ : S46)) (wrap64 ((wrap64 ((wrap64 ((wrap64 (p4 + 1)) + 1)) + 1)) + 1)) (wrap64 (p5 + 1)) (Nat.le_refl _) ⟨by omega, H⟩)
 rw [if_neg c7] at H
 refine aw_ifF ?_ (decide_eq_false c7)
 refine aw_exit ?_
 refine ac_then ?_
 refine ac_then ?_
 refine ac_hit rfl ?_
 refine ac_next ?_
 refine aw_grp1 ?_
 refine wk_start ?_
 refine kv g0 (mv) ?_
 refine kv g0 (asg) ?_
 refine wk_end ?_
 refine ac_next ?_
 refine aw_ret ?_
 obtain rfl := Option.some.inj H
 exact acr hE [.tmp 4] (.tmp .nil) (.one _) [(0, 0)] 9999
/-! laws_markIntS -/
def laws_markIntS.l0 : Nat → (List Int) → Int → Int → Option (Int × (List Int))
 | 0, _, _, _ => none
 | k6 + 1, q3, p4, p5 => if p5 < (q3.length : Int) then if 0 ≤ p5 then laws_markIntS.l0 k6 (q3.set p5.toNat p4) (wrap64 (p4 + 1)) (wrap64 (p5 + 1)) else none else some (p4, q3)
def laws_markIntS.f (k : Nat) (l0 : List Int) (a1 : Int) : Option (Int × (List Int)) := laws_markIntS.l0 k l0 a1 0
theorem laws_markIntS.ok {k : Nat} {l0 : List Int} {a1 : Int} {r : Int × (List Int)} (H : laws_markIntS.f k l0 a1 = some r) : ACalls Try.prog 14 [(0, .row 3 1 (l0.map (eI .i64)))] [.row 0, .lit (.int .i64 a1)] [(0, .row 3 1 (r.2.map (eI .i64)))] (.lit (.int .i64 r.1)) := by
 refine acalls (fn := Try.f14) (nt := 19) Try.func14 rfl rfl (Nat.le_of_ble_eq_true rfl) fun E hE => ?_
 rw [laws_markIntS.f] at H
 refine aw_grp1 ?_
 refine wk_start ?_
 refine kv g0 (asg) ?_
 refine wk_end ?_
 refine ac_next ?_
 refine aw_grp1 ?_
 refine aw_grp1 ?_
 refine wk_start ?_
 refine kv g0 (asg) ?_
 refine wk_end ?_
 refine ac_next ?_
 refine aw_block ?_
 refine aw_loop3 (fun (k_ : Nat) (q3 : List Int) (p4 : Int) (p5 : Int) => k_ ≤ k ∧ laws_markIntS.l0 k_ q3 p4 p5 = some r) (fun (q3 : List Int) (p4 : Int) (p5 : Int) => ⟨[(0, .row 0), (1, .lit (.int .i64 p4)), (5, .lit (.int .i64 p5))], [(0, .row 3 1 (q3.map (eI .i64)))]⟩) k l0 a1 0 ⟨Nat.le_refl _, H⟩ (fun K_ h_ => acw hE [(0, 0)] 9999 h_) (fun _ _ _ => by intro h_; have h_ := h_.2; rw [laws_markIntS.l0.eq_1] at h_; cases h_) ?_
 intro k6 q3 p4 p5 hq_ K9 hK10
 have hk6 := hq_.1
 have H := hq_.2
 clear hq_
 rw [laws_markIntS.l0.eq_2] at H
 refine aw_grp1 ?_
 refine aw_grp1 ?_
 refine wk_start ?_
 refine kv g0 (mv) ?_
 refine kv g0 (mv) ?_
 refine kv g0 (lnR lenE) ?_
 refine kv g0 (lss) ?_
 refine wk_end ?_
 refine ac_next ?_
 by_cases c7 : p5 < (q3.length : Int)
 ·rw [if_pos c7] at H
  refine aw_ifT ?_ (decide_eq_true c7)
  refine aw_skip ?_
  refine ac_next ?_
  refine aw_grp1 ?_
  refine aw_block ?_
  refine aw_grp1 ?_
  refine wk_start ?_
  refine kv g0 (mv) ?_
  refine kv g0 (mv) ?_
  refine kv g0 (mv) ?_
  obtain ⟨c8, H⟩ := of_if H
  refine kv g0 (ixR 3 c8 (ltE c7)) ?_
  refine ks g0 (stE 1 (eI .i64 p4) ((q3.set p5.toNat p4).map (eI .i64)) (getE (z := (0 : Int)) c8 c7) setE) ?_
  refine wk_end ?_
  refine ac_next ?_
  refine wk_start ?_
  refine kv g0 (mv) ?_
  refine kv g0 (add6) ?_
  refine kv g0 (asg) ?_
  refine wk_end ?_
  refine ac_blkN ?_
  refine ac_next ?_
  refine wk_start ?_
  refine kv g0 (mv) ?_
  refine kv g0 (add6) ?_
  refine kv g0 (asg) ?_
  refine wk_end ?_
  refine ac_k ?_
  exact acw hE [(0, 0)] 9999 (hK10 k6 (q3.set p5.toNat p4) (wrap64 (p4 + 1)) (wrap64 (p5 + 1)) (Nat.le_refl _) ⟨by omega, H⟩)
 rw [if_neg c7] at H
 refine aw_ifF ?_ (decide_eq_false c7)
 refine aw_exit ?_
 refine ac_then ?_
 refine ac_then ?_
 refine ac_hit rfl ?_
 refine ac_next ?_
 refine aw_grp1 ?_
 refine wk_start ?_
 refine kv g0 (mv) ?_
 refine kv g0 (asg) ?_
 refine wk_end ?_
 refine ac_next ?_
 refine aw_ret ?_
 obtain rfl := Option.some.inj H
 exact acr hE [.tmp 4] (.tmp .nil) (.one _) [(0, 0)] 9999
/-! laws_heldIntS -/
def laws_heldIntS.l0 : Nat → (List Int) → Int → Int → Option (Int)
 | 0, _, _, _ => none
 | k6 + 1, l0, p4, p5 => if p5 < (l0.length : Int) then if 0 ≤ p5 then if (rd l0 p5) = p4 then laws_heldIntS.l0 k6 l0 (wrap64 (p4 + 1)) (wrap64 (p5 + 1)) else some (-1) else none else some p4
def laws_heldIntS.f (k : Nat) (l0 : List Int) (a1 : Int) : Option (Int) := laws_heldIntS.l0 k l0 a1 0
theorem laws_heldIntS.ok {k : Nat} {l0 : List Int} {a1 : Int} {r : Int} (H : laws_heldIntS.f k l0 a1 = some r) : ACalls Try.prog 15 [] [.sl .o 1 (l0.map (eI .i64)), .lit (.int .i64 a1)] [] (.lit (.int .i64 r)) := by
 refine acalls (fn := Try.f15) (nt := 21) Try.func15 rfl rfl (Nat.le_of_ble_eq_true rfl) fun E hE => ?_
 rw [laws_heldIntS.f] at H
 refine aw_grp1 ?_
 refine wk_start ?_
 refine kv g0 (asg) ?_
 refine wk_end ?_
 refine ac_next ?_
 refine aw_grp1 ?_
 refine aw_grp1 ?_
 refine wk_start ?_
 refine kv g0 (asg) ?_
 refine wk_end ?_
 refine ac_next ?_
 refine aw_block ?_
 refine aw_loop2 (fun (k_ : Nat) (p4 : Int) (p5 : Int) => k_ ≤ k ∧ laws_heldIntS.l0 k_ l0 p4 p5 = some r) (fun (p4 : Int) (p5 : Int) => ⟨[(0, .sl .o 1 (l0.map (eI .i64))), (1, .lit (.int .i64 p4)), (5, .lit (.int .i64 p5))], []⟩) k a1 0 ⟨Nat.le_refl _, H⟩ (fun K_ h_ => acw hE [] 9999 h_) (fun _ _ => by intro h_; have h_ := h_.2; rw [laws_heldIntS.l0.eq_1] at h_; cases h_) ?_
 intro k6 p4 p5 hq_ K10 hK11
 have hk6 := hq_.1
 have H := hq_.2
 clear hq_
 rw [laws_heldIntS.l0.eq_2] at H
 refine aw_grp1 ?_
 refine aw_grp1 ?_
 refine wk_start ?_
 refine kv g0 (mv) ?_
 refine kv g0 (mv) ?_
 refine kv g0 (lnS lenE) ?_
 refine kv g0 (lss) ?_
 refine wk_end ?_
 refine ac_next ?_
 by_cases c7 : p5 < (l0.length : Int)
 ·rw [if_pos c7] at H
  refine aw_ifT ?_ (decide_eq_true c7)
  refine aw_skip ?_
  refine ac_next ?_
  refine aw_grp1 ?_
  refine aw_block ?_
  refine aw_grp1 ?_
  refine aw_grp1 ?_
  refine wk_start ?_
  refine kv g0 (mv) ?_
  refine kv g0 (mv) ?_
  obtain ⟨c8, H⟩ := of_if H
  refine kv g0 (ixS 3 (eI .i64 (rd l0 p5)) c8 (getE (z := (0 : Int)) c8 c7)) ?_
  refine kv g0 (ldR (.lit (.int .i64 (rd l0 p5)))) ?_
  refine kv g0 (mv) ?_
  refine kv g0 (neq) ?_
  refine wk_end ?_
  refine ac_next ?_
  by_cases c9 : (rd l0 p5) = p4
  ·rw [if_pos c9] at H
   refine aw_ifF ?_ (eM c9)
   refine aw_skip ?_
   refine ac_next ?_
   refine wk_start ?_
   refine kv g0 (mv) ?_
   refine kv g0 (add6) ?_
   refine kv g0 (asg) ?_
   refine wk_end ?_
   refine ac_blkN ?_
   refine ac_next ?_
   refine wk_start ?_
   refine kv g0 (mv) ?_
   refine kv g0 (add6) ?_
   refine kv g0 (asg) ?_
   refine wk_end ?_
   refine ac_k ?_
   exact acw hE [] 9999 (hK11 k6 (wrap64 (p4 + 1)) (wrap64 (p5 + 1)) (Nat.le_refl _) ⟨by omega, H⟩)
  rw [if_neg c9] at H
  refine aw_ifT ?_ (eN c9)
  refine aw_grp1 ?_
  refine wk_start ?_
  refine kv g0 (asg) ?_
  refine wk_end ?_
  refine ac_next ?_
  refine aw_ret ?_
  refine ac_thenR ?_
  refine ac_blkR ?_
  refine ac_thenR ?_
  refine ac_thenR ?_
  refine ac_blkR ?_
  refine ac_thenR ?_
  obtain rfl := Option.some.inj H
  exact acr hE [.tmp 4] (.tmp .nil) (.one _) [] 9999
 rw [if_neg c7] at H
 refine aw_ifF ?_ (decide_eq_false c7)
 refine aw_exit ?_
 refine ac_then ?_
 refine ac_then ?_
 refine ac_hit rfl ?_
 refine ac_next ?_
 refine aw_grp1 ?_
 refine wk_start ?_
 refine kv g0 (mv) ?_
 refine kv g0 (asg) ?_
 refine wk_end ?_
 refine ac_next ?_
 refine aw_ret ?_
 obtain rfl := Option.some.inj H
 exact acr hE [.tmp 4] (.tmp .nil) (.one _) [] 9999
/-! laws_FnExactFieldsRead -/
def laws_FnExactFieldsRead.f (k : Nat) (l0 : List S58) : Option (Bool) := (laws_szInsS.f l0 1048576).bind fun t1 => if t1 < 0 then some true else (laws_toInsS.f k l0).bind fun t4 => ((spec_FieldsRead.f k t4).bind fun t6 => (laws_toInsS.f k l0).bind fun t8 => (impl_FieldsRead.f k t8).bind fun t10 => (laws_eqIntS.f k t10 t6).bind fun t12 => if t12 = true then (laws_toInsS.f k l0).bind fun t15 => ((laws_eqInsS.f k t8 t15).bind fun t17 => if t17 = true then (laws_markInsS.f k t8 1).bind fun t20 => if t20.1 < 0 then some false else ((laws_eqIntS.f k t10 t6).bind fun t23 => if t23 = true then (laws_markIntS.f k t10 1).bind fun t26 => (laws_heldIntS.f k t26.2 1).bind fun t28 => if t28 < 0 then some false else if t28 = t26.1 then (laws_toInsS.f k l0).bind fun t32 => ((impl_FieldsRead.f k t32).bind fun t34 => (laws_eqIntS.f k t34 t6).bind fun t36 => if t36 = true then (laws_heldIntS.f k t26.2 1).bind fun t39 => if t39 < 0 then some false else if t39 = t26.1 then some true else some false else some false) else some false else some false) else some false) else some false)
theorem laws_FnExactFieldsRead.ok {k : Nat} {l0 : List S58} {r : Bool} (H : laws_FnExactFieldsRead.f k l0 = some r) : ACalls Try.prog 3 [] [.sl .o 4 (l0.map e58)] [] (.lit (.bool r)) := by
 refine acalls (fn := Try.f3) (nt := 69) Try.func3 rfl rfl (Nat.le_of_ble_eq_true rfl) fun E hE => ?_
 rw [laws_FnExactFieldsRead.f] at H
 refine aw_grp1 ?_
 refine wk_start ?_
 refine kv g0 (asg) ?_
 refine wk_end ?_
 refine ac_next ?_
 refine aw_grp1 ?_
 refine wk_start ?_
 refine kv g0 (asg) ?_
 refine wk_end ?_
 refine ac_next ?_
 refine aw_grp1 ?_
 refine wk_start ?_
 refine kv g0 (mv) ?_
 refine kv g0 (mv) ?_
 obtain ⟨t1, A2, H⟩ := of_bind H
 refine kcS0 13 (.lit (.int .i64 t1)) [] g0 (cal (laws_szInsS.ok A2) [] 9999 .n (hf := Try.func7)) rfl rfl ?_
 refine kv g0 (asg) ?_
 refine wk_end ?_
 refine ac_next ?_
 refine aw_grp1 ?_
 refine aw_grp1 ?_
 refine wk_start ?_
 refine kv g0 (mv) ?_
 refine kv g0 (lss) ?_
 refine wk_end ?_
 refine ac_next ?_
 by_cases c3 : t1 < 0
 ·rw [if_pos c3] at H
  refine aw_ifT ?_ (decide_eq_true c3)
  refine aw_grp1 ?_
  refine wk_start ?_
  refine kv g0 (asg) ?_
  refine wk_end ?_
  refine ac_next ?_
  refine aw_ret ?_
  refine ac_thenR ?_
  obtain rfl := Option.some.inj H
  exact acr hE [.tmp 2] (.tmp .nil) (.one _) [] 9999
 rw [if_neg c3] at H
 refine aw_ifF ?_ (decide_eq_false c3)
 refine aw_skip ?_
 refine ac_next ?_
 refine aw_grp1 ?_
 refine wk_start ?_
 refine kv g0 (mv) ?_
 obtain ⟨t4, A5, H⟩ := of_bind H
 refine kcS1 17 (.row 0) [(0, .row 46 4 (t4.map e46))] g0 (cal (laws_toInsS.ok A5) [0] 9999 .n (hf := Try.func9)) rfl rfl ?_
 obtain ⟨t6, A7, H⟩ := of_bind H
 refine kcS1 18 (.row 1) [(1, .row 3 1 (t6.map (eI .i64)))] g0 (cal (spec_FieldsRead.ok A7) [1] 9999 .n (hf := Try.func8)) rfl rfl ?_
 refine kv g0 (asg) ?_
 refine wk_end ?_
 refine ac_next ?_
 refine aw_grp1 ?_
 refine wk_start ?_
 refine kv g0 (mv) ?_
 obtain ⟨t8, A9, H⟩ := of_bind H
 refine kcS1 20 (.row 2) [(2, .row 46 4 (t8.map e46))] g0 (cal (laws_toInsS.ok A9) [2] 9999 .n (hf := Try.func9)) rfl rfl ?_
 refine kv g0 (asg) ?_
 refine wk_end ?_
 refine ac_next ?_
 refine aw_grp1 ?_
 refine wk_start ?_
 refine kv g0 (mv) ?_
 obtain ⟨t10, A11, H⟩ := of_bind H
 refine kcS1 22 (.row 3) [(3, .row 3 1 (t10.map (eI .i64)))] g0 (cal (impl_FieldsRead.ok A11) [3] 9999 .n (hf := Try.func10)) rfl rfl ?_
 refine kv g0 (asg) ?_
 refine wk_end ?_
 refine ac_next ?_
 refine aw_grp1 ?_
 refine aw_grp1 ?_
 refine wk_start ?_
 refine kv g0 (mv) ?_
 refine kv g0 (mv) ?_
 obtain ⟨t12, A13, H⟩ := of_bind H
 refine kcS0 25 (.lit (.bool t12)) [] g0 (cal (laws_eqIntS.ok A13) [] 9999 .n (hf := Try.func11)) rfl rfl ?_
 refine kv g0 (not_) ?_
 refine wk_end ?_
 refine ac_next ?_
 by_cases c14 : t12 = true
 ·rw [if_pos c14] at H
  refine aw_ifF ?_ (nF c14)
  refine aw_skip ?_
  refine ac_next ?_
  refine aw_grp1 ?_
  refine aw_grp1 ?_
  refine wk_start ?_
  refine kv g0 (mv) ?_
  refine kv g0 (mv) ?_
  obtain ⟨t15, A16, H⟩ := of_bind H
  refine kcS1 29 (.row 4) [(4, .row 46 4 (t15.map e46))] g0 (cal (laws_toInsS.ok A16) [4] 9999 .n (hf := Try.func9)) rfl rfl ?_
  obtain ⟨t17, A18, H⟩ := of_bind H
  refine kcS0 30 (.lit (.bool t17)) [] g0 (cal (laws_eqInsS.ok A18) [] 9999 .n (hf := Try.func12)) rfl rfl ?_
  refine kv g0 (not_) ?_
  refine wk_end ?_
  refine ac_next ?_
  by_cases c19 : t17 = true
  ·rw [if_pos c19] at H
   refine aw_ifF ?_ (nF c19)
   refine aw_skip ?_
   refine ac_next ?_
   refine aw_grp1 ?_
   refine wk_start ?_
   refine kv g0 (asg) ?_
   refine wk_end ?_
   refine ac_next ?_
   refine aw_grp1 ?_
   refine wk_start ?_
   refine kv g0 (mv) ?_
   refine kv g0 (mv) ?_
   obtain ⟨t20, A21, H⟩ := of_bind H
   refine kcS1 34 (.lit (.int .i64 t20.1)) [(2, .row 46 4 (t20.2.map e46))] g0 (cal (laws_markInsS.ok A21) [2] 9999 .n (hf := Try.func13)) rfl rfl ?_
   refine kv g0 (asg) ?_
   refine wk_end ?_
   refine ac_next ?_
   refine aw_grp1 ?_
   refine aw_grp1 ?_
   refine wk_start ?_
   refine kv g0 (mv) ?_
   refine kv g0 (lss) ?_
   refine kv g0 (mv) ?_
   by_cases c22 : t20.1 < 0
   ·rw [if_pos c22] at H
    refine kx (hF (decide_eq_true c22)) ?_
    refine kx (hF (decide_eq_true c22)) ?_
    refine kx (hF (decide_eq_true c22)) ?_
    refine kx (hF (decide_eq_true c22)) ?_
    refine kv g0 (pkT (decide_eq_true c22)) ?_
    refine wk_end ?_
    refine ac_next ?_
    refine aw_ifT ?_ rfl
    refine aw_grp1 ?_
    refine wk_start ?_
    refine kv g0 (asg) ?_
    refine wk_end ?_
    refine ac_next ?_
    refine aw_ret ?_
    refine ac_thenR ?_
    obtain rfl := Option.some.inj H
    exact acr hE [.tmp 2] (.tmp .nil) (.one _) [] 9999
   rw [if_neg c22] at H
   refine kv (g1 (decide_eq_false c22)) (mv) ?_
   refine kv (g1 (decide_eq_false c22)) (mv) ?_
   obtain ⟨t23, A24, H⟩ := of_bind H
   refine kcS0 40 (.lit (.bool t23)) [] (g1 (decide_eq_false c22)) (cal (laws_eqIntS.ok A24) [] 9999 .n (hf := Try.func11)) rfl rfl ?_
   refine kv (g1 (decide_eq_false c22)) (not_) ?_
   refine kv g0 (pkF (decide_eq_false c22)) ?_
   refine wk_end ?_
   refine ac_next ?_
   by_cases c25 : t23 = true
   ·rw [if_pos c25] at H
    refine aw_ifF ?_ (nF c25)
    refine aw_skip ?_
    refine ac_next ?_
    refine aw_grp1 ?_
    refine wk_start ?_
    refine kv g0 (asg) ?_
    refine wk_end ?_
    refine ac_next ?_
    refine aw_grp1 ?_
    refine wk_start ?_
    refine kv g0 (mv) ?_
    refine kv g0 (mv) ?_
    obtain ⟨t26, A27, H⟩ := of_bind H
    refine kcS1 45 (.lit (.int .i64 t26.1)) [(3, .row 3 1 (t26.2.map (eI .i64)))] g0 (cal (laws_markIntS.ok A27) [3] 9999 .n (hf := Try.func14)) rfl rfl ?_
    refine kv g0 (asg) ?_
    refine wk_end ?_
    refine ac_next ?_
    refine aw_grp1 ?_
    refine wk_start ?_
    refine kv g0 (asg) ?_
    refine wk_end ?_
    refine ac_next ?_
    refine aw_grp1 ?_
    refine wk_start ?_
    refine kv g0 (mv) ?_
    refine kv g0 (mv) ?_
    obtain ⟨t28, A29, H⟩ := of_bind H
    refine kcS0 48 (.lit (.int .i64 t28)) [] g0 (cal (laws_heldIntS.ok A29) [] 9999 .n (hf := Try.func15)) rfl rfl ?_
    refine kv g0 (asg) ?_
    refine wk_end ?_
    refine ac_next ?_
    refine aw_grp1 ?_
    refine aw_grp1 ?_
    refine wk_start ?_
    refine kv g0 (mv) ?_
    refine kv g0 (lss) ?_
    refine wk_end ?_
    refine ac_next ?_
    by_cases c30 : t28 < 0
    ·rw [if_pos c30] at H
     refine aw_ifT ?_ (decide_eq_true c30)
     refine aw_grp1 ?_
     refine wk_start ?_
     refine kv g0 (asg) ?_
     refine wk_end ?_
     refine ac_next ?_
     refine aw_ret ?_
     refine ac_thenR ?_
     obtain rfl := Option.some.inj H
     exact acr hE [.tmp 2] (.tmp .nil) (.one _) [] 9999
    rw [if_neg c30] at H
    refine aw_ifF ?_ (decide_eq_false c30)
    refine aw_skip ?_
    refine ac_next ?_
    refine aw_grp1 ?_
    refine aw_grp1 ?_
    refine wk_start ?_
    refine kv g0 (mv) ?_
    refine kv g0 (mv) ?_
    refine kv g0 (neq) ?_
    refine wk_end ?_
    refine ac_next ?_
    by_cases c31 : t28 = t26.1
    ·rw [if_pos c31] at H
     refine aw_ifF ?_ (eM c31)
     refine aw_skip ?_
     refine ac_next ?_
     refine aw_grp1 ?_
     refine wk_start ?_
     refine kv g0 (mv) ?_
     obtain ⟨t32, A33, H⟩ := of_bind H
     refine kcS1 55 (.row 5) [(5, .row 46 4 (t32.map e46))] g0 (cal (laws_toInsS.ok A33) [5] 9999 .n (hf := Try.func9)) rfl rfl ?_
     obtain ⟨t34, A35, H⟩ := of_bind H
     refine kcS1 56 (.row 6) [(6, .row 3 1 (t34.map (eI .i64)))] g0 (cal (impl_FieldsRead.ok A35) [6] 9999 .n (hf := Try.func10)) rfl rfl ?_
     refine kv g0 (asg) ?_
     refine wk_end ?_
     refine ac_next ?_
     refine aw_grp1 ?_
     refine aw_grp1 ?_
     refine wk_start ?_
     refine kv g0 (mv) ?_
     refine kv g0 (mv) ?_
     obtain ⟨t36, A37, H⟩ := of_bind H
     refine kcS0 59 (.lit (.bool t36)) [] g0 (cal (laws_eqIntS.ok A37) [] 9999 .n (hf := Try.func11)) rfl rfl ?_
     refine kv g0 (not_) ?_
     refine wk_end ?_
     refine ac_next ?_
     by_cases c38 : t36 = true
     ·rw [if_pos c38] at H
      refine aw_ifF ?_ (nF c38)
      refine aw_skip ?_
      refine ac_next ?_
      refine aw_grp1 ?_
      refine wk_start ?_
      refine kv g0 (asg) ?_
      refine wk_end ?_
      refine ac_next ?_
      refine aw_grp1 ?_
      refine wk_start ?_
      refine kv g0 (mv) ?_
      refine kv g0 (mv) ?_
      obtain ⟨t39, A40, H⟩ := of_bind H
      refine kcS0 63 (.lit (.int .i64 t39)) [] g0 (cal (laws_heldIntS.ok A40) [] 9999 .n (hf := Try.func15)) rfl rfl ?_
      refine kv g0 (asg) ?_
      refine wk_end ?_
      refine ac_next ?_
      refine aw_grp1 ?_
      refine aw_grp1 ?_
      refine wk_start ?_
      refine kv g0 (mv) ?_
      refine kv g0 (lss) ?_
      refine wk_end ?_
      refine ac_next ?_
      by_cases c41 : t39 < 0
      ·rw [if_pos c41] at H
       refine aw_ifT ?_ (decide_eq_true c41)
       refine aw_grp1 ?_
       refine wk_start ?_
       refine kv g0 (asg) ?_
       refine wk_end ?_
       refine ac_next ?_
       refine aw_ret ?_
       refine ac_thenR ?_
       obtain rfl := Option.some.inj H
       exact acr hE [.tmp 2] (.tmp .nil) (.one _) [] 9999
      rw [if_neg c41] at H
      refine aw_ifF ?_ (decide_eq_false c41)
      refine aw_skip ?_
      refine ac_next ?_
      refine aw_grp1 ?_
      refine aw_grp1 ?_
      refine wk_start ?_
      refine kv g0 (mv) ?_
      refine kv g0 (mv) ?_
      refine kv g0 (neq) ?_
      refine wk_end ?_
      refine ac_next ?_
      by_cases c42 : t39 = t26.1
      ·rw [if_pos c42] at H
       refine aw_ifF ?_ (eM c42)
       refine aw_skip ?_
       refine ac_next ?_
       refine aw_grp1 ?_
       refine wk_start ?_
       refine kv g0 (asg) ?_
       refine wk_end ?_
       refine ac_next ?_
       refine aw_ret ?_
       obtain rfl := Option.some.inj H
       exact acr hE [.tmp 2] (.tmp .nil) (.one _) [] 9999
      rw [if_neg c42] at H
      refine aw_ifT ?_ (eN c42)
      refine aw_grp1 ?_
      refine wk_start ?_
      refine kv g0 (asg) ?_
      refine wk_end ?_
      refine ac_next ?_
      refine aw_ret ?_
      refine ac_thenR ?_
      obtain rfl := Option.some.inj H
      exact acr hE [.tmp 2] (.tmp .nil) (.one _) [] 9999
     rw [if_neg c38] at H
     refine aw_ifT ?_ (nT (bF c38))
     refine aw_grp1 ?_
     refine wk_start ?_
     refine kv g0 (asg) ?_
     refine wk_end ?_
     refine ac_next ?_
     refine aw_ret ?_
     refine ac_thenR ?_
     obtain rfl := Option.some.inj H
     exact acr hE [.tmp 2] (.tmp .nil) (.one _) [] 9999
    rw [if_neg c31] at H
    refine aw_ifT ?_ (eN c31)
    refine aw_grp1 ?_
    refine wk_start ?_
    refine kv g0 (asg) ?_
    refine wk_end ?_
    refine ac_next ?_
    refine aw_ret ?_
    refine ac_thenR ?_
    obtain rfl := Option.some.inj H
    exact acr hE [.tmp 2] (.tmp .nil) (.one _) [] 9999
   rw [if_neg c25] at H
   refine aw_ifT ?_ (nT (bF c25))
   refine aw_grp1 ?_
   refine wk_start ?_
   refine kv g0 (asg) ?_
   refine wk_end ?_
   refine ac_next ?_
   refine aw_ret ?_
   refine ac_thenR ?_
   obtain rfl := Option.some.inj H
   exact acr hE [.tmp 2] (.tmp .nil) (.one _) [] 9999
  rw [if_neg c19] at H
  refine aw_ifT ?_ (nT (bF c19))
  refine aw_grp1 ?_
  refine wk_start ?_
  refine kv g0 (asg) ?_
  refine wk_end ?_
  refine ac_next ?_
  refine aw_ret ?_
  refine ac_thenR ?_
  obtain rfl := Option.some.inj H
  exact acr hE [.tmp 2] (.tmp .nil) (.one _) [] 9999
 rw [if_neg c14] at H
 refine aw_ifT ?_ (nT (bF c14))
 refine aw_grp1 ?_
 refine wk_start ?_
 refine kv g0 (asg) ?_
 refine wk_end ?_
 refine ac_next ?_
 refine aw_ret ?_
 refine ac_thenR ?_
 obtain rfl := Option.some.inj H
 exact acr hE [.tmp 2] (.tmp .nil) (.one _) [] 9999
end Go.Proofs.Ythfflkfpmebbbaa.PFnExactFieldsRead
