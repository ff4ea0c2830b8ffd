/- laws.FnExactFiledOf returns true at every input, its arguments as they were. No condition. -/
import Derived.Test.YtkkglhhkpihmgaaExFnExactFiledOf
import Derived.Test.YtkkglhhkpihmgaaArgFnExactFiledOf
set_option linter.unusedVariables false
set_option linter.unusedSimpArgs false
namespace Go.Proofs.Ytkkglhhkpihmgaa.PFnExactFiledOf
open Go.RowKit Go.Proofs.YtkkglhhkpihmgaaA Go.Proofs.YtkkglhhkpihmgaaL Go.Proofs.Ytkkglhhkpihmgaa.AFnExactFiledOf
theorem i64_of {x : Int} (h : OkN .i64 x) : -9223372036854775808 ≤ x ∧ x ≤ 9223372036854775807 := bounds_i64 h
def filOn (pid : Int) (s : List S83) (x : S83) : Except (List S83) (List S83) := .ok (if x.f0 = pid then s ++ [x] else s)
def filedV (pid : Int) (l : List S83) : List S83 := foldE (filOn pid) id l []
theorem spec_FiledOf_ev (w0 : List (List (List S151))) (w1 : List S59) (w2 : List S62) (w3 : List S133) (w4 : List Int) (w5 : List S135) (w6 : Int) (w7 : List Int) (w8 : List S99) (w9 : Int) (w10 : List Int) (l : List S83) (pid : Int) (hn : l.length ≤ 1048576) : Ev (fun k => spec_FiledOf.f k w0 w1 w2 w3 w4 w5 w6 w7 w8 w9 w10 l pid) (filedV pid l) := by
  unfold spec_FiledOf.f filedV
  have := foldE_ev (fun k s i => spec_FiledOf.l0 k w0 w1 w2 w3 w4 w5 w6 w7 w8 w9 w10 l pid s i) l (filOn pid) id (fun i s => s.length ≤ i) ?_ ?_ ?_ l.length 0 [] rfl (Nat.zero_le _) (by simp)
  · simpa using this
  · intro s hs
    refine Ev.step (f := fun _ => some s) (fun k => ?_) (Ev.now _)
    simp only [spec_FiledOf.l0]; rw [if_neg (by omega)]
  · intro i x s e hx hs he; cases he
  · intro i x s s' hx hs he
    have hi := lt_of hx
    obtain rfl : (if x.f0 = pid then s ++ [x] else s) = s' := by injection he
    refine ⟨by split <;> (try simp) <;> omega, fun r h => ?_⟩
    refine Ev.step (fun k => ?_) h
    simp only [spec_FiledOf.l0]
    rw [if_pos (by omega), if_pos (by omega), rd83 hx, w64 (by omega) (by omega)]
    by_cases hp : x.f0 = pid
    · rw [if_pos hp, if_pos hp, if_pos (by simp only [List.length_cons, List.length_nil]; omega)]
    · rw [if_neg hp, if_neg hp]
theorem impl_FiledOf_ev (w0 : List (List (List S151))) (w1 : List S59) (w2 : List S62) (w3 : List S133) (w4 : List Int) (w5 : List S135) (w6 : Int) (w7 : List Int) (w8 : List S99) (w9 : Int) (w10 : List Int) (l : List S83) (pid : Int) (hn : l.length ≤ 1048576) : Ev (fun k => impl_FiledOf.f k w0 w1 w2 w3 w4 w5 w6 w7 w8 w9 w10 l pid) (filedV pid l) := by
  unfold impl_FiledOf.f filedV
  have := foldE_ev (fun k s i => impl_FiledOf.l0 k l pid s i) l (filOn pid) id (fun i s => s.length ≤ i) ?_ ?_ ?_ l.length 0 [] rfl (Nat.zero_le _) (by simp)
  · simpa using this
  · intro s hs
    refine Ev.step (f := fun _ => some s) (fun k => ?_) (Ev.now _)
    simp only [impl_FiledOf.l0]; rw [if_neg (by omega)]
  · intro i x s e hx hs he; cases he
  · intro i x s s' hx hs he
    have hi := lt_of hx
    obtain rfl : (if x.f0 = pid then s ++ [x] else s) = s' := by injection he
    refine ⟨by split <;> (try simp) <;> omega, fun r h => ?_⟩
    refine Ev.step (fun k => ?_) h
    simp only [impl_FiledOf.l0]
    rw [if_pos (by omega), if_pos (by omega), rd83 hx, w64 (by omega) (by omega)]
    by_cases hp : x.f0 = pid
    · rw [if_pos hp, if_pos hp, if_pos (by simp only [List.length_cons, List.length_nil]; omega)]
    · rw [if_neg hp, if_neg hp]
theorem world_count (x0 : List (List (List S151))) (x1 : List S59) (x2 : List S62) (x3 : List S133) (x4 : List Int) (x5 : List S135) (x7 : List Int) (x8 : List S99) (x10 : List Int) (x11 : List S83)
    (c0 : FitL (FitL (FitL FitA)) x0) (c1 : FitL Fit59 x1) (c2 : FitL Fit62 x2) (c3 : FitL FitA x3) (c4 : FitL FitA x4) (c5 : FitL FitA x5) (c7 : FitL FitA x7) (c8 : FitL Fit99 x8) (c10 : FitL FitA x10) (c11 : FitL FitA x11) :
    mcount ctLLS151 x0 ≤ 4611686018427387904 ∧ mcount ctS59 x1 ≤ 4398049656832 ∧ mcount ctS62 x2 ≤ 4398050705408 ∧ mcount ctS133 x3 ≤ 6291456 ∧ mcount ctInt x4 ≤ 1048576 ∧ mcount ctS135 x5 ≤ 7340032 ∧ mcount ctInt x7 ≤ 1048576 ∧ mcount ctS99 x8 ≤ 3145728 ∧ mcount ctInt x10 ≤ 1048576 ∧ mcount ctS83 x11 ≤ 4194304 :=
  ⟨mc_le c0 (fun y hy => ctLLS151_le y hy), mc_le c1 (fun y hy => ctS59_le y hy), mc_le c2 (fun y hy => ctS62_le y hy), mc_le c3 (fun y hy => ctS133_le y hy), mc_le c4 (fun y hy => ctInt_le y hy), (Nat.le_trans (mc_le c5 (fun y hy => ctS135_le y hy)) (by decide)), mc_le c7 (fun y hy => ctInt_le y hy), mc_le c8 (fun y hy => ctS99_le y hy), mc_le c10 (fun y hy => ctInt_le y hy), mc_le c11 (fun y hy => ctS83_le y hy)⟩
theorem filedV_length (pid : Int) (l : List S83) : (filedV pid l).length ≤ l.length := by
  have key : ∀ (l s : List S83), (foldE (filOn pid) id l s).length ≤ s.length + l.length := by
    intro l
    induction l with
    | nil => intro s; simp [foldE]
    | cons x r ih =>
      intro s
      rw [foldE_on r (show filOn pid s x = .ok _ from rfl)]
      have := ih (if x.f0 = pid then s ++ [x] else s)
      refine Nat.le_trans this ?_
      split <;> simp <;> omega
  have := key l []
  simpa [filedV] using this
theorem pure : Pure := by
  intro w0 w1 w2 w3 w4 w5 w6 w7 w8 w9 w10 w11 pid h0 h1 h2 h3 h4 h5 h6 h7 h8 h9 h10 h11 hp
  refine Ev.rounds ?_
  unfold laws_FnExactFiledOf.f
  obtain ⟨v, hv, h⟩ := szWorld_ev w0 w1 w2 w3 w4 w5 w6 w7 w8 w9 w10 w11 1048576 h0 h1 h2 h3 h4 h5 h7 h8 h10 h11 (by omega) (by omega)
  refine Ev.bind hv ?_
  rcases h with h | ⟨_, _, n0, n1, n2, n3, n4, n5, n7, n8, n10, n11⟩
  · exact Ev.pos h (Ev.now _)
  refine Ev.neg (by omega) ?_
  have e1 := toWorld_ev w0 w1 w2 w3 w4 w5 w6 w7 w8 w9 w10 w11 n0 n1 n2 n3 n4 n5 n7 n8 n10 n11
  have c0 : FitL (FitL (FitL FitA)) (w0.map (List.map (List.map cvS154_S151))) := ⟨by rw [List.length_map]; exact n0.1, fun x hx => by
    obtain ⟨y, hy, rfl⟩ := List.mem_map.1 hx
    have := n0.2 y hy
    exact ⟨by rw [List.length_map]; exact this.1, fun x hx => by
      obtain ⟨z, hz, rfl⟩ := List.mem_map.1 hx
      exact ⟨by rw [List.length_map]; exact (this.2 z hz).1, fun _ _ => trivial⟩⟩⟩
  have c1 : FitL Fit59 (w1.map cvS110_S59) := ⟨by rw [List.length_map]; exact n1.1, fun x hx => by
    obtain ⟨y, hy, rfl⟩ := List.mem_map.1 hx
    exact ⟨by show (List.map _ _).length ≤ _; rw [List.length_map]; exact (n1.2 y hy).1, fun _ _ => trivial⟩⟩
  have c2 : FitL Fit62 (w2.map cvS113_S62) := ⟨by rw [List.length_map]; exact n2.1, fun x hx => by
    obtain ⟨y, hy, rfl⟩ := List.mem_map.1 hx
    exact ⟨by show (List.map _ _).length ≤ _; rw [List.length_map]; exact (n2.2 y hy).1, fun _ _ => trivial⟩⟩
  have c3 : FitL FitA (w3.map cvS146_S133) := ⟨by rw [List.length_map]; exact n3.1, fun _ _ => trivial⟩
  have c5 : FitL FitA (w5.map cvS148_S135) := ⟨by rw [List.length_map]; exact n5.1, fun _ _ => trivial⟩
  have c8 : FitL Fit99 (w8.map cvS117_S99) := ⟨by rw [List.length_map]; exact n8.1, fun x hx => by
    obtain ⟨y, hy, rfl⟩ := List.mem_map.1 hx
    exact n8.2 y hy⟩
  have c11 : FitL FitA (w11.map cvS125_S83) := ⟨by rw [List.length_map]; exact n11.1, fun _ _ => trivial⟩
  generalize w0.map (List.map (List.map cvS154_S151)) = x0 at e1 c0
  generalize w1.map cvS110_S59 = x1 at e1 c1
  generalize w2.map cvS113_S62 = x2 at e1 c2
  generalize w3.map cvS146_S133 = x3 at e1 c3
  generalize w5.map cvS148_S135 = x5 at e1 c5
  generalize w8.map cvS117_S99 = x8 at e1 c8
  generalize w11.map cvS125_S83 = x11 at e1 c11
  obtain ⟨m0, m1, m2, m3, m4, m5, m7, m8, m10, m11⟩ := world_count x0 x1 x2 x3 w4 x5 w7 x8 w10 x11 c0 c1 c2 c3 n4 c5 n7 c8 n10 c11
  have e2 := eqWorld_ev x0 x1 x2 x3 w4 x5 w6 w7 x8 w9 w10 x11 c0 c1 c2 c3 n4 c5 n7 c8 n10 c11
  have e3 := markWorld_ev x0 x1 x2 x3 w4 x5 w6 w7 x8 w9 w10 x11 1 c0 c1 c2 c3 n4 c5 n7 c8 n10 c11 (by omega) (by omega)
  have f3 := spec_FiledOf_ev x0 x1 x2 x3 w4 x5 w6 w7 x8 w9 w10 x11 pid c11.1
  have f4 := impl_FiledOf_ev x0 x1 x2 x3 w4 x5 w6 w7 x8 w9 w10 x11 pid c11.1
  have hg : FitL FitA (filedV pid x11) := ⟨Nat.le_trans (filedV_length pid x11) c11.1, fun _ _ => trivial⟩
  generalize filedV pid x11 = g at f3 f4 hg
  have mg : mcount ctS83 g ≤ 4194304 := mc_le hg (fun y hy => ctS83_le y hy)
  have e4 := eqSeenS_ev g hg
  have e5 := markSeenS_ev g 1 hg (by omega) (by omega)
  have e6 := heldSeenS_ev g 1 hg (by omega) (by omega)
  repeat (first
    | (with_reducible refine Ev.bind e1 ?_; try dsimp only)
    | (with_reducible refine Ev.bind e2 ?_; try dsimp only)
    | (with_reducible refine Ev.bind e3 ?_; try dsimp only)
    | (with_reducible refine Ev.bind f3 ?_; try dsimp only)
    | (with_reducible refine Ev.bind f4 ?_; try dsimp only)
    | (with_reducible refine Ev.bind e4 ?_; try dsimp only)
    | (with_reducible refine Ev.bind e5 ?_; try dsimp only)
    | (with_reducible refine Ev.bind e6 ?_; try dsimp only)
    | (refine Ev.neg (by omega) ?_)
    | (refine Ev.pos (by first | rfl | omega) ?_)
    | (refine Ev.neg (by simp) ?_)
    | exact Ev.now _)
end Go.Proofs.Ytkkglhhkpihmgaa.PFnExactFiledOf
namespace Go.Proofs.Ytkkglhhkpihmgaa
/-- The given statement. -/
theorem fnExactFiledOf_holds : Rows.FnExactFiledOfSaid := AFnExactFiledOf.row PFnExactFiledOf.pure
#print axioms fnExactFiledOf_holds
end Go.Proofs.Ytkkglhhkpihmgaa
