import Derived.Test.YthdeicbkimlnhaaPFnExactReadLogx0
import Derived.Test.YthdeicbkimlnhaaPFnExactReadLogx2
namespace Go.Proofs.Ythdeicbkimlnhaa.PFnExactReadLog
open Go.RowKit Go.Proofs.YthdeicbkimlnhaaW.PrintWords Go.Proofs.YthdeicbkimlnhaaW.PrintLast Go.Proofs.YthdeicbkimlnhaaW.PrintMore Go.Proofs.YthdeicbkimlnhaaH
attribute [local go_sem] max2_int min2_int max_two min_two max_three min_three max_four min_four   -- for this text's walks alone
set_option linter.unusedVariables false
set_option linter.unusedSimpArgs false

/-! ### spec_FrameText: function 44 -/
def spec_FrameText.f (k : Nat) (a0_0 : Int) (a0_1 : Int) (a0_2 : Int) (a0_3 : Int) (a0_4 : Int) (a0_5 : Int) (a0_6 : Int) : Option (ByteArray × Bool) := (spec_FrameOk.f k a0_0 a0_1 a0_2 a0_3 a0_4 a0_5 a0_6).bind fun t129 => (if t129 = true then ((some (([(a0_0) % 256, (a0_1) % 256] : List Int) : List Int)).bind fun y131 => ((spec_l01Var.f k a0_2).bind fun t134 => (if (strOfNums y131).size + t134.size ≤ 9223372036854775807 then ((some (([(a0_3) % 256] : List Int) : List Int)).bind fun y135 => (if ((strOfNums y131) ++ t134).size + (strOfNums y135).size ≤ 9223372036854775807 then ((spec_l06Four.f a0_4).bind fun t138 => (if (((strOfNums y131) ++ t134) ++ (strOfNums y135)).size + t138.size ≤ 9223372036854775807 then ((spec_l06Four.f a0_5).bind fun t139 => (if ((((strOfNums y131) ++ t134) ++ (strOfNums y135)) ++ t138).size + t139.size ≤ 9223372036854775807 then ((spec_l01Var.f k a0_6).bind fun t140 => (if (((((strOfNums y131) ++ t134) ++ (strOfNums y135)) ++ t138) ++ t139).size + t140.size ≤ 9223372036854775807 then ((spec_Sealed.f k ((((((strOfNums y131) ++ t134) ++ (strOfNums y135)) ++ t138) ++ t139) ++ t140)).bind fun bt141 => (some (bt141.1, bt141.2))) else (none))) else (none))) else (none))) else (none))) else (none)))) else (some ((⟨#[]⟩ : ByteArray), false)))
theorem spec_FrameText.mono : ∀ a0 a1 a2 a3 a4 a5 a6 k, LeO (spec_FrameText.f k a0 a1 a2 a3 a4 a5 a6) (spec_FrameText.f (k + 1) a0 a1 a2 a3 a4 a5 a6) := by
 intro a0 a1 a2 a3 a4 a5 a6 k
 unfold spec_FrameText.f
 repeat' first
   | (with_reducible exact spec_FrameOk.mono _ _ _ _ _ _ _ _)
   | (with_reducible exact spec_Sealed.mono _ _)
   | (with_reducible exact spec_l01Var.mono _ _)
   | (with_reducible exact LeO.refl _)
   | (with_reducible exact LeO.none _)
   | (with_reducible refine LeO.ite ?_ ?_)
   | (with_reducible refine LeO.bind ?_ (fun _ => ?_))
   | exact spec_FrameOk.mono _ _ _ _ _ _ _ _
   | exact spec_Sealed.mono _ _
   | exact spec_l01Var.mono _ _
   | exact LeO.none _
   | refine LeO.ite ?_ ?_
   | refine LeO.bind ?_ (fun _ => ?_)
def spec_FrameText.T4 : Bool × List (List Nat × List Nat) := (true, [([], []), ([0], [0]), ([1], [1]), ([], []), ([3], [3]), ([4], [4]), ([2, 5], [2, 5]), ([6], [6]), ([], []), ([8], [8]), ([9], [9]), ([7, 10], [7, 10]), ([], []), ([12], [12]), ([13], [13]), ([14], [14]), ([15], [15]), ([11, 16], [11, 16]), ([], []), ([18], [18]), ([19, 10], [19]), ([17, 20], [17, 20]), ([], []), ([22], [22]), ([23, 20], [23]), ([21, 24], [21, 24]), ([], []), ([26], [26]), ([27, 24], [27]), ([25, 28], [25, 28]), ([29, 28], [29]), ([30], [30]), ([30], [30]), ([31, 30, 0, 1, 2, 3, 4, 5, 6, 7, 8, 9, 10, 11, 12, 13, 14, 15, 16, 17, 18, 19, 20, 21, 22, 23, 24, 25, 26, 27, 28, 29, 30, 31, 32], [31]), ([32, 33, 0, 1, 2, 3, 4, 5, 6, 7, 8, 9, 10, 11, 12, 13, 14, 15, 16, 17, 18, 19, 20, 21, 22, 23, 24, 25, 26, 27, 28, 29, 30, 31, 32, 33], [32])])
def spec_FrameText.B4 : List Nat := [0, 1, 3, 0, 8, 24, 63, 127, 0, 256, 768, 2047, 0, 4096, 12288, 28672, 61440, 131071, 0, 262144, 788224, 2097151, 0, 4194304, 14419712, 33554431, 0, 67108864, 232523520, 536870911, 1073741823, 2147483647, 2147483647, 8589934591, 17179869183]
theorem spec_FrameText.tab4 : rtab .any (opsOf Try.f44 4) = spec_FrameText.T4 := by kernel_rfl
theorem spec_FrameText.bits4 : waitsOk spec_FrameText.T4.2 spec_FrameText.B4 = true := by kernel_rfl
set_option maxHeartbeats 8000000 in
set_option maxRecDepth 100000 in
theorem spec_FrameText.calls (k : Nat) (a0_0 : Int) (a0_1 : Int) (a0_2 : Int) (a0_3 : Int) (a0_4 : Int) (a0_5 : Int) (a0_6 : Int) (r1 : ByteArray) (r2 : Bool) (w : World) (h : spec_FrameText.f k a0_0 a0_1 a0_2 a0_3 a0_4 a0_5 a0_6 = some (r1, r2)) :
  Calls Try.prog 44 #[.agg #[.int .i64 a0_0, .int .i64 a0_1, .int .i64 a0_2, .int .i64 a0_3, .int .i64 a0_4, .int .i64 a0_5, .int .i64 a0_6]] w fun e w' => e = .returned (.tuple #[.string r1, .bool r2]) ∧ Below w.heap.size w w' := by
 have hu36 := Try.underlying36
 have hu34 := Try.underlying34
 have HB := Aside0.mk (Below.refl w.heap.size w)
 have H : ((spec_FrameOk.f k a0_0 a0_1 a0_2 a0_3 a0_4 a0_5 a0_6).bind fun t129 => (if t129 = true then ((some (([(a0_0) % 256, (a0_1) % 256] : List Int) : List Int)).bind fun y131 => ((spec_l01Var.f k a0_2).bind fun t134 => (if (strOfNums y131).size + t134.size ≤ 9223372036854775807 then ((some (([(a0_3) % 256] : List Int) : List Int)).bind fun y135 => (if ((strOfNums y131) ++ t134).size + (strOfNums y135).size ≤ 9223372036854775807 then ((spec_l06Four.f a0_4).bind fun t138 => (if (((strOfNums y131) ++ t134) ++ (strOfNums y135)).size + t138.size ≤ 9223372036854775807 then ((spec_l06Four.f a0_5).bind fun t139 => (if ((((strOfNums y131) ++ t134) ++ (strOfNums y135)) ++ t138).size + t139.size ≤ 9223372036854775807 then ((spec_l01Var.f k a0_6).bind fun t140 => (if (((((strOfNums y131) ++ t134) ++ (strOfNums y135)) ++ t138) ++ t139).size + t140.size ≤ 9223372036854775807 then ((spec_Sealed.f k ((((((strOfNums y131) ++ t134) ++ (strOfNums y135)) ++ t138) ++ t139) ++ t140)).bind fun bt141 => (some (bt141.1, bt141.2))) else (none))) else (none))) else (none))) else (none))) else (none)))) else (some ((⟨#[]⟩ : ByteArray), false)))) = some (r1, r2) := h
 clear h
 replace H := Option.bind_eq_some_iff.mp H
 obtain ⟨t129, A20, H⟩ := H
 replace H : (if t129 = true then ((some (([(a0_0) % 256, (a0_1) % 256] : List Int) : List Int)).bind fun y131 => ((spec_l01Var.f k a0_2).bind fun t134 => (if (strOfNums y131).size + t134.size ≤ 9223372036854775807 then ((some (([(a0_3) % 256] : List Int) : List Int)).bind fun y135 => (if ((strOfNums y131) ++ t134).size + (strOfNums y135).size ≤ 9223372036854775807 then ((spec_l06Four.f a0_4).bind fun t138 => (if (((strOfNums y131) ++ t134) ++ (strOfNums y135)).size + t138.size ≤ 9223372036854775807 then ((spec_l06Four.f a0_5).bind fun t139 => (if ((((strOfNums y131) ++ t134) ++ (strOfNums y135)) ++ t138).size + t139.size ≤ 9223372036854775807 then ((spec_l01Var.f k a0_6).bind fun t140 => (if (((((strOfNums y131) ++ t134) ++ (strOfNums y135)) ++ t138) ++ t139).size + t140.size ≤ 9223372036854775807 then ((spec_Sealed.f k ((((((strOfNums y131) ++ t134) ++ (strOfNums y135)) ++ t138) ++ t139) ++ t140)).bind fun bt141 => (some (bt141.1, bt141.2))) else (none))) else (none))) else (none))) else (none))) else (none)))) else (some ((⟨#[]⟩ : ByteArray), false))) = some (r1, r2) := H
 have A2 := Aside0.mk A20
 clear A20
 by_cases c3 : t129 = true
 rotate_left
 ·replace c3 := Bool.eq_false_iff.mpr c3
  subst c3
  have H1 : (some ((⟨#[]⟩ : ByteArray), false)) = some (r1, r2) := by rw [if_neg (show ¬ (false = true) by decide)] at H; exact H
  clear H
  have H := H1
  clear H1
  simp only [Option.some.injEq, Prod.mk.injEq] at H
  obtain ⟨rfl, rfl⟩ := H
  go_enter Try.func44, Try.ntmps44
  go_wp2_with (first | ((with_reducible refine gate_dst (N := 1) rfl ?_); refine box_event ?hg (N := 1) ?hd (cs := #[.int .i64 a0_0, .int .i64 a0_1, .int .i64 a0_2, .int .i64 a0_3, .int .i64 a0_4, .int .i64 a0_5, .int .i64 a0_6]) (t := 36) ?hr ?_; (case hd => rfl); (case hg => rfl); (case hr => first | (go_simp; done) | (go_simp; rfl)); intro gb128 hg w33 hbox hb; have n0_ := Aside0.mk (below_step (rb HB.out) hb); have n1_ := Aside0.mk (hbox); have n2_ := Aside0.mk ((by rw [hg]; exact (below_size (rb HB.out)) : w.heap.size ≤ gb128)); have n3_ := Aside0.mk ((by rw [hg]; exact (below_size (rb HB.out)) : w.heap.size ≤ gb128)); clear HB; have HB := n0_; have BK128 := n1_; have GW128 := n2_; have GE128 := n3_; clear n0_ n1_ n2_ n3_; clear hb hbox hg; have hcz34_0 : w33.cell? ⟨gb128, 0, none⟩ = some (.int .i64 a0_0) := (blk_cell BK128.out 0).trans rfl; have hcz34_1 : w33.cell? ⟨gb128, 1, none⟩ = some (.int .i64 a0_1) := (blk_cell BK128.out 1).trans rfl; have hcz34_2 : w33.cell? ⟨gb128, 2, none⟩ = some (.int .i64 a0_2) := (blk_cell BK128.out 2).trans rfl; have hcz34_3 : w33.cell? ⟨gb128, 3, none⟩ = some (.int .i64 a0_3) := (blk_cell BK128.out 3).trans rfl; have hcz34_4 : w33.cell? ⟨gb128, 4, none⟩ = some (.int .i64 a0_4) := (blk_cell BK128.out 4).trans rfl; have hcz34_5 : w33.cell? ⟨gb128, 5, none⟩ = some (.int .i64 a0_5) := (blk_cell BK128.out 5).trans rfl; have hcz34_6 : w33.cell? ⟨gb128, 6, none⟩ = some (.int .i64 a0_6) := (blk_cell BK128.out 6).trans rfl; have hfz34_0 := blk_frozen BK128.out 0; have hfz34_1 := blk_frozen BK128.out 1; have hfz34_2 := blk_frozen BK128.out 2; have hfz34_3 := blk_frozen BK128.out 3; have hfz34_4 := blk_frozen BK128.out 4; have hfz34_5 := blk_frozen BK128.out 5; have hfz34_6 := blk_frozen BK128.out 6) | ((with_reducible refine gate_callee (f := 126) rfl ?_); refine goesL_ (some 6) rfl rfl Try.func126 (by kernel_rfl) rfl #[.agg #[.int .i64 a0_0, .int .i64 a0_1, .int .i64 a0_2, .int .i64 a0_3, .int .i64 a0_4, .int .i64 a0_5, .int .i64 a0_6]] rfl (by (try simp only [List.map_toArray, List.map_cons, List.map_nil]); first | done | rfl | (simp only [List.length_drop, List.length_take]; rfl)) ?_; (with_reducible refine (spec_FrameOk.calls k a0_0 a0_1 a0_2 a0_3 a0_4 a0_5 a0_6 false _ A2.out).mono ?_); rintro e w35 ⟨rfl, hb⟩; refine ⟨_, rfl, ?_⟩; have n0_ := Aside0.mk (blk_below (g := gb128) (o := .cells #[.int .i64 a0_0, .int .i64 a0_1, .int .i64 a0_2, .int .i64 a0_3, .int .i64 a0_4, .int .i64 a0_5, .int .i64 a0_6] 36 (0, 0)) (rk BK128.out) hb); have n1_ := Aside0.mk (below_step (rb1 GE128.out HB.out) hb); clear BK128; clear HB; have BK128 := n0_; have HB := n1_; clear n0_ n1_; (try clear hb); (try clear hb2); (try clear hk); (try clear hi)))
  go_ret2
  exact ⟨by first | rfl | (simp [errW_none, errW_some] <;> rfl) | (simp [*, errW_none, errW_some] <;> rfl), by repeat (first | (with_reducible first | exact HB.out | apply below_alloc | apply pw_below_drewN | apply below_drew1 | refine below_set ?_ GE128.out) | exact HB.out)⟩
 subst c3
 have H1 : ((some (([(a0_0) % 256, (a0_1) % 256] : List Int) : List Int)).bind fun y131 => ((spec_l01Var.f k a0_2).bind fun t134 => (if (strOfNums y131).size + t134.size ≤ 9223372036854775807 then ((some (([(a0_3) % 256] : List Int) : List Int)).bind fun y135 => (if ((strOfNums y131) ++ t134).size + (strOfNums y135).size ≤ 9223372036854775807 then ((spec_l06Four.f a0_4).bind fun t138 => (if (((strOfNums y131) ++ t134) ++ (strOfNums y135)).size + t138.size ≤ 9223372036854775807 then ((spec_l06Four.f a0_5).bind fun t139 => (if ((((strOfNums y131) ++ t134) ++ (strOfNums y135)) ++ t138).size + t139.size ≤ 9223372036854775807 then ((spec_l01Var.f k a0_6).bind fun t140 => (if (((((strOfNums y131) ++ t134) ++ (strOfNums y135)) ++ t138) ++ t139).size + t140.size ≤ 9223372036854775807 then ((spec_Sealed.f k ((((((strOfNums y131) ++ t134) ++ (strOfNums y135)) ++ t138) ++ t139) ++ t140)).bind fun bt141 => (some (bt141.1, bt141.2))) else (none))) else (none))) else (none))) else (none))) else (none)))) = some (r1, r2) := by rw [if_pos rfl] at H; exact H
 clear H
 have H := H1
 clear H1
 obtain ⟨y131, hy131⟩ : ∃ y_ : List Int, y_ = (([(a0_0) % 256, (a0_1) % 256] : List Int)) := ⟨_, rfl⟩
 replace H : ((spec_l01Var.f k a0_2).bind fun t134 => (if (strOfNums y131).size + t134.size ≤ 9223372036854775807 then ((some (([(a0_3) % 256] : List Int) : List Int)).bind fun y135 => (if ((strOfNums y131) ++ t134).size + (strOfNums y135).size ≤ 9223372036854775807 then ((spec_l06Four.f a0_4).bind fun t138 => (if (((strOfNums y131) ++ t134) ++ (strOfNums y135)).size + t138.size ≤ 9223372036854775807 then ((spec_l06Four.f a0_5).bind fun t139 => (if ((((strOfNums y131) ++ t134) ++ (strOfNums y135)) ++ t138).size + t139.size ≤ 9223372036854775807 then ((spec_l01Var.f k a0_6).bind fun t140 => (if (((((strOfNums y131) ++ t134) ++ (strOfNums y135)) ++ t138) ++ t139).size + t140.size ≤ 9223372036854775807 then ((spec_Sealed.f k ((((((strOfNums y131) ++ t134) ++ (strOfNums y135)) ++ t138) ++ t139) ++ t140)).bind fun bt141 => (some (bt141.1, bt141.2))) else (none))) else (none))) else (none))) else (none))) else (none))) = some (r1, r2) := by first | (rw [hy131]; with_reducible exact H) | (have H2_ := (Option.bind_some _ _).symm.trans H; rw [hy131]; with_reducible exact H2_) | (have H2_ := (Option.bind_some _ _).symm.trans H; with_reducible exact H2_) | with_reducible exact H | (rw [hy131]; exact H) | exact H
 have Ny131 := Aside0.mk hy131
 clear hy131
 replace H := Option.bind_eq_some_iff.mp H
 obtain ⟨t134, A40, H⟩ := H
 replace H : (if (strOfNums y131).size + t134.size ≤ 9223372036854775807 then ((some (([(a0_3) % 256] : List Int) : List Int)).bind fun y135 => (if ((strOfNums y131) ++ t134).size + (strOfNums y135).size ≤ 9223372036854775807 then ((spec_l06Four.f a0_4).bind fun t138 => (if (((strOfNums y131) ++ t134) ++ (strOfNums y135)).size + t138.size ≤ 9223372036854775807 then ((spec_l06Four.f a0_5).bind fun t139 => (if ((((strOfNums y131) ++ t134) ++ (strOfNums y135)) ++ t138).size + t139.size ≤ 9223372036854775807 then ((spec_l01Var.f k a0_6).bind fun t140 => (if (((((strOfNums y131) ++ t134) ++ (strOfNums y135)) ++ t138) ++ t139).size + t140.size ≤ 9223372036854775807 then ((spec_Sealed.f k ((((((strOfNums y131) ++ t134) ++ (strOfNums y135)) ++ t138) ++ t139) ++ t140)).bind fun bt141 => (some (bt141.1, bt141.2))) else (none))) else (none))) else (none))) else (none))) else (none)) = some (r1, r2) := H
 have A4 := Aside0.mk A40
 clear A40
 by_cases c5 : (strOfNums y131).size + t134.size ≤ 9223372036854775807
 rotate_left
 ·rw [if_neg c5] at H
  exact absurd H (by simp)
 rw [if_pos c5] at H
 have c5b0 := eq_true c5
 have c5b1 : decide ((strOfNums y131).size + t134.size ≤ 9223372036854775807) = true := decide_eq_true c5
 try have c5b2 : (9223372036854775807 < (strOfNums y131).size + t134.size) = False := eq_false (Nat.not_lt.2 c5)
 obtain ⟨y135, hy135⟩ : ∃ y_ : List Int, y_ = (([(a0_3) % 256] : List Int)) := ⟨_, rfl⟩
 replace H : (if ((strOfNums y131) ++ t134).size + (strOfNums y135).size ≤ 9223372036854775807 then ((spec_l06Four.f a0_4).bind fun t138 => (if (((strOfNums y131) ++ t134) ++ (strOfNums y135)).size + t138.size ≤ 9223372036854775807 then ((spec_l06Four.f a0_5).bind fun t139 => (if ((((strOfNums y131) ++ t134) ++ (strOfNums y135)) ++ t138).size + t139.size ≤ 9223372036854775807 then ((spec_l01Var.f k a0_6).bind fun t140 => (if (((((strOfNums y131) ++ t134) ++ (strOfNums y135)) ++ t138) ++ t139).size + t140.size ≤ 9223372036854775807 then ((spec_Sealed.f k ((((((strOfNums y131) ++ t134) ++ (strOfNums y135)) ++ t138) ++ t139) ++ t140)).bind fun bt141 => (some (bt141.1, bt141.2))) else (none))) else (none))) else (none))) else (none)) = some (r1, r2) := by first | (rw [hy135]; with_reducible exact H) | (have H2_ := (Option.bind_some _ _).symm.trans H; rw [hy135]; with_reducible exact H2_) | (have H2_ := (Option.bind_some _ _).symm.trans H; with_reducible exact H2_) | with_reducible exact H | (rw [hy135]; exact H) | exact H
 have Ny135 := Aside0.mk hy135
 clear hy135
 by_cases c6 : ((strOfNums y131) ++ t134).size + (strOfNums y135).size ≤ 9223372036854775807
 rotate_left
 ·rw [if_neg c6] at H
  exact absurd H (by simp)
 rw [if_pos c6] at H
 have c6b0 := eq_true c6
 have c6b1 : decide (((strOfNums y131) ++ t134).size + (strOfNums y135).size ≤ 9223372036854775807) = true := decide_eq_true c6
 try have c6b2 : (9223372036854775807 < ((strOfNums y131) ++ t134).size + (strOfNums y135).size) = False := eq_false (Nat.not_lt.2 c6)
 replace H := Option.bind_eq_some_iff.mp H
 obtain ⟨t138, A70, H⟩ := H
 replace H : (if (((strOfNums y131) ++ t134) ++ (strOfNums y135)).size + t138.size ≤ 9223372036854775807 then ((spec_l06Four.f a0_5).bind fun t139 => (if ((((strOfNums y131) ++ t134) ++ (strOfNums y135)) ++ t138).size + t139.size ≤ 9223372036854775807 then ((spec_l01Var.f k a0_6).bind fun t140 => (if (((((strOfNums y131) ++ t134) ++ (strOfNums y135)) ++ t138) ++ t139).size + t140.size ≤ 9223372036854775807 then ((spec_Sealed.f k ((((((strOfNums y131) ++ t134) ++ (strOfNums y135)) ++ t138) ++ t139) ++ t140)).bind fun bt141 => (some (bt141.1, bt141.2))) else (none))) else (none))) else (none)) = some (r1, r2) := H
 have A7 := Aside0.mk A70
 clear A70
 by_cases c8 : (((strOfNums y131) ++ t134) ++ (strOfNums y135)).size + t138.size ≤ 9223372036854775807
 rotate_left
 ·rw [if_neg c8] at H
  exact absurd H (by simp)
 rw [if_pos c8] at H
 have c8b0 := eq_true c8
 have c8b1 : decide ((((strOfNums y131) ++ t134) ++ (strOfNums y135)).size + t138.size ≤ 9223372036854775807) = true := decide_eq_true c8
 try have c8b2 : (9223372036854775807 < (((strOfNums y131) ++ t134) ++ (strOfNums y135)).size + t138.size) = False := eq_false (Nat.not_lt.2 c8)
 replace H := Option.bind_eq_some_iff.mp H
 obtain ⟨t139, A90, H⟩ := H
 replace H : (if ((((strOfNums y131) ++ t134) ++ (strOfNums y135)) ++ t138).size + t139.size ≤ 9223372036854775807 then ((spec_l01Var.f k a0_6).bind fun t140 => (if (((((strOfNums y131) ++ t134) ++ (strOfNums y135)) ++ t138) ++ t139).size + t140.size ≤ 9223372036854775807 then ((spec_Sealed.f k ((((((strOfNums y131) ++ t134) ++ (strOfNums y135)) ++ t138) ++ t139) ++ t140)).bind fun bt141 => (some (bt141.1, bt141.2))) else (none))) else (none)) = some (r1, r2) := H
 have A9 := Aside0.mk A90
 clear A90
 by_cases c10 : ((((strOfNums y131) ++ t134) ++ (strOfNums y135)) ++ t138).size + t139.size ≤ 9223372036854775807
 rotate_left
 ·rw [if_neg c10] at H
  exact absurd H (by simp)
 rw [if_pos c10] at H
 have c10b0 := eq_true c10
 have c10b1 : decide (((((strOfNums y131) ++ t134) ++ (strOfNums y135)) ++ t138).size + t139.size ≤ 9223372036854775807) = true := decide_eq_true c10
 try have c10b2 : (9223372036854775807 < ((((strOfNums y131) ++ t134) ++ (strOfNums y135)) ++ t138).size + t139.size) = False := eq_false (Nat.not_lt.2 c10)
 replace H := Option.bind_eq_some_iff.mp H
 obtain ⟨t140, A110, H⟩ := H
 replace H : (if (((((strOfNums y131) ++ t134) ++ (strOfNums y135)) ++ t138) ++ t139).size + t140.size ≤ 9223372036854775807 then ((spec_Sealed.f k ((((((strOfNums y131) ++ t134) ++ (strOfNums y135)) ++ t138) ++ t139) ++ t140)).bind fun bt141 => (some (bt141.1, bt141.2))) else (none)) = some (r1, r2) := H
 have A11 := Aside0.mk A110
 clear A110
 by_cases c12 : (((((strOfNums y131) ++ t134) ++ (strOfNums y135)) ++ t138) ++ t139).size + t140.size ≤ 9223372036854775807
 rotate_left
 ·rw [if_neg c12] at H
  exact absurd H (by simp)
 rw [if_pos c12] at H
 have c12b0 := eq_true c12
 have c12b1 : decide ((((((strOfNums y131) ++ t134) ++ (strOfNums y135)) ++ t138) ++ t139).size + t140.size ≤ 9223372036854775807) = true := decide_eq_true c12
 try have c12b2 : (9223372036854775807 < (((((strOfNums y131) ++ t134) ++ (strOfNums y135)) ++ t138) ++ t139).size + t140.size) = False := eq_false (Nat.not_lt.2 c12)
 replace H := Option.bind_eq_some_iff.mp H
 obtain ⟨⟨t141, t142⟩, A130, H⟩ := H
 replace H : (some (t141, t142)) = some (r1, r2) := H
 have A13 := Aside0.mk A130
 clear A130
 simp only [Option.some.injEq, Prod.mk.injEq] at H
 obtain ⟨rfl, rfl⟩ := H
 go_enter Try.func44, Try.ntmps44
 try go_wp2_with (first | ((with_reducible refine gate_dst (N := 1) rfl ?_); refine box_event ?hg (N := 1) ?hd (cs := #[.int .i64 a0_0, .int .i64 a0_1, .int .i64 a0_2, .int .i64 a0_3, .int .i64 a0_4, .int .i64 a0_5, .int .i64 a0_6]) (t := 36) ?hr ?_; (case hd => rfl); (case hg => rfl); (case hr => first | (go_simp; done) | (go_simp; rfl)); intro gb128 hg w14 hbox hb; have n0_ := Aside0.mk (below_step (rb HB.out) hb); have n1_ := Aside0.mk (hbox); have n2_ := Aside0.mk ((by rw [hg]; exact (below_size (rb HB.out)) : w.heap.size ≤ gb128)); have n3_ := Aside0.mk ((by rw [hg]; exact (below_size (rb HB.out)) : w.heap.size ≤ gb128)); clear HB; have HB := n0_; have BK128 := n1_; have GW128 := n2_; have GE128 := n3_; clear n0_ n1_ n2_ n3_; clear hb hbox hg; have hcz15_0 : w14.cell? ⟨gb128, 0, none⟩ = some (.int .i64 a0_0) := (blk_cell BK128.out 0).trans rfl; have hcz15_1 : w14.cell? ⟨gb128, 1, none⟩ = some (.int .i64 a0_1) := (blk_cell BK128.out 1).trans rfl; have hcz15_2 : w14.cell? ⟨gb128, 2, none⟩ = some (.int .i64 a0_2) := (blk_cell BK128.out 2).trans rfl; have hcz15_3 : w14.cell? ⟨gb128, 3, none⟩ = some (.int .i64 a0_3) := (blk_cell BK128.out 3).trans rfl; have hcz15_4 : w14.cell? ⟨gb128, 4, none⟩ = some (.int .i64 a0_4) := (blk_cell BK128.out 4).trans rfl; have hcz15_5 : w14.cell? ⟨gb128, 5, none⟩ = some (.int .i64 a0_5) := (blk_cell BK128.out 5).trans rfl; have hcz15_6 : w14.cell? ⟨gb128, 6, none⟩ = some (.int .i64 a0_6) := (blk_cell BK128.out 6).trans rfl; have hfz15_0 := blk_frozen BK128.out 0; have hfz15_1 := blk_frozen BK128.out 1; have hfz15_2 := blk_frozen BK128.out 2; have hfz15_3 := blk_frozen BK128.out 3; have hfz15_4 := blk_frozen BK128.out 4; have hfz15_5 := blk_frozen BK128.out 5; have hfz15_6 := blk_frozen BK128.out 6) | ((with_reducible refine gate_callee (f := 126) rfl ?_); refine goesL_ (some 6) rfl rfl Try.func126 (by kernel_rfl) rfl #[.agg #[.int .i64 a0_0, .int .i64 a0_1, .int .i64 a0_2, .int .i64 a0_3, .int .i64 a0_4, .int .i64 a0_5, .int .i64 a0_6]] rfl (by (try simp only [List.map_toArray, List.map_cons, List.map_nil]); first | done | rfl | (simp only [List.length_drop, List.length_take]; rfl)) ?_; (with_reducible refine (spec_FrameOk.calls k a0_0 a0_1 a0_2 a0_3 a0_4 a0_5 a0_6 true _ A2.out).mono ?_); rintro e w16 ⟨rfl, hb⟩; refine ⟨_, rfl, ?_⟩; have n0_ := Aside0.mk (blk_below (g := gb128) (o := .cells #[.int .i64 a0_0, .int .i64 a0_1, .int .i64 a0_2, .int .i64 a0_3, .int .i64 a0_4, .int .i64 a0_5, .int .i64 a0_6] 36 (0, 0)) (rk BK128.out) hb); have n1_ := Aside0.mk (below_step (rb1 GE128.out HB.out) hb); clear BK128; clear HB; have BK128 := n0_; have HB := n1_; clear n0_ n1_; (try clear hb); (try clear hb2); (try clear hk); (try clear hi); have hcz17_0 : w16.cell? ⟨gb128, 0, none⟩ = some (.int .i64 a0_0) := (blk_cell BK128.out 0).trans rfl; have hcz17_1 : w16.cell? ⟨gb128, 1, none⟩ = some (.int .i64 a0_1) := (blk_cell BK128.out 1).trans rfl; have hcz17_2 : w16.cell? ⟨gb128, 2, none⟩ = some (.int .i64 a0_2) := (blk_cell BK128.out 2).trans rfl; have hcz17_3 : w16.cell? ⟨gb128, 3, none⟩ = some (.int .i64 a0_3) := (blk_cell BK128.out 3).trans rfl; have hcz17_4 : w16.cell? ⟨gb128, 4, none⟩ = some (.int .i64 a0_4) := (blk_cell BK128.out 4).trans rfl; have hcz17_5 : w16.cell? ⟨gb128, 5, none⟩ = some (.int .i64 a0_5) := (blk_cell BK128.out 5).trans rfl; have hcz17_6 : w16.cell? ⟨gb128, 6, none⟩ = some (.int .i64 a0_6) := (blk_cell BK128.out 6).trans rfl; have hfz17_0 := blk_frozen BK128.out 0; have hfz17_1 := blk_frozen BK128.out 1; have hfz17_2 := blk_frozen BK128.out 2; have hfz17_3 := blk_frozen BK128.out 3; have hfz17_4 := blk_frozen BK128.out 4; have hfz17_5 := blk_frozen BK128.out 5; have hfz17_6 := blk_frozen BK128.out 6) | ((with_reducible refine gate_dst (N := 4) rfl ?_); refine box_event ?hg (N := 4) ?hd (cs := #[.int .i64 0, .int .i64 0, .int .i64 0, .int .i64 0]) (t := 34) ?hr ?_; (case hd => rfl); (case hg => rfl); (case hr => first | (go_simp; done) | (go_simp; rfl)); intro gb130 hg w18 hbox hb; have n0_ := Aside0.mk (blk_below (g := gb128) (o := .cells #[.int .i64 a0_0, .int .i64 a0_1, .int .i64 a0_2, .int .i64 a0_3, .int .i64 a0_4, .int .i64 a0_5, .int .i64 a0_6] 36 (0, 0)) (rk BK128.out) hb); have n1_ := Aside0.mk (below_step (rb1 GE128.out HB.out) hb); have n2_ := Aside0.mk (hbox); have n3_ := Aside0.mk ((by rw [hg]; exact (below_size (rb1 GE128.out HB.out)) : w.heap.size ≤ gb130)); have n4_ := Aside0.mk ((by rw [hg]; exact (below_size (rb1 GE128.out HB.out)) : w.heap.size ≤ gb130)); have n5_ := Aside0.mk ((by rw [hg]; exact Nat.ne_of_lt (blk_lt (g := gb128) (o := .cells #[.int .i64 a0_0, .int .i64 a0_1, .int .i64 a0_2, .int .i64 a0_3, .int .i64 a0_4, .int .i64 a0_5, .int .i64 a0_6] 36 (0, 0)) (rk BK128.out)) : gb128 ≠ gb130)); have n6_ := Aside0.mk ((by rw [hg]; exact Nat.ne_of_gt (blk_lt (g := gb128) (o := .cells #[.int .i64 a0_0, .int .i64 a0_1, .int .i64 a0_2, .int .i64 a0_3, .int .i64 a0_4, .int .i64 a0_5, .int .i64 a0_6] 36 (0, 0)) (rk BK128.out)) : gb130 ≠ gb128)); clear BK128; clear HB; have BK128 := n0_; have HB := n1_; have BK130 := n2_; have GW130 := n3_; have GE130 := n4_; have NB128_130 := n5_; have NB130_128 := n6_; clear n0_ n1_ n2_ n3_ n4_ n5_ n6_; clear hb hbox hg; have hnb19 := NB130_128.out; have hnc19 := NB128_130.out; have hcz20_0 : w18.cell? ⟨gb130, 0, none⟩ = some (.int .i64 0) := (blk_cell BK130.out 0).trans rfl; have hcz20_1 : w18.cell? ⟨gb130, 1, none⟩ = some (.int .i64 0) := (blk_cell BK130.out 1).trans rfl; have hcz20_2 : w18.cell? ⟨gb130, 2, none⟩ = some (.int .i64 0) := (blk_cell BK130.out 2).trans rfl; have hcz20_3 : w18.cell? ⟨gb130, 3, none⟩ = some (.int .i64 0) := (blk_cell BK130.out 3).trans rfl; have hfz20_0 := blk_frozen BK130.out 0; have hfz20_1 := blk_frozen BK130.out 1; have hfz20_2 := blk_frozen BK130.out 2; have hfz20_3 := blk_frozen BK130.out 3))
 have n0_ : Aside0 (((((w18.setCell ⟨gb130, 0, none⟩ (.int .i64 a0_3)).setCell ⟨gb130, 1, none⟩ (.int .i64 a0_4)).setCell ⟨gb130, 2, none⟩ (.int .i64 a0_5)).setCell ⟨gb130, 3, none⟩ (.int .i64 a0_6)).heap[gb128]? = some (.cells #[.int .i64 a0_0, .int .i64 a0_1, .int .i64 a0_2, .int .i64 a0_3, .int .i64 a0_4, .int .i64 a0_5, .int .i64 a0_6] 36 (0, 0))) := ⟨by (with_reducible repeat (first | refine blk_drewN ?_ _ | refine blk_drew ?_ | refine blk_alloc ?_ _)); refine blk_far ?_ NB128_130.out _; (with_reducible repeat (first | refine blk_drewN ?_ _ | refine blk_drew ?_ | refine blk_alloc ?_ _)); refine blk_far ?_ NB128_130.out _; (with_reducible repeat (first | refine blk_drewN ?_ _ | refine blk_drew ?_ | refine blk_alloc ?_ _)); refine blk_far ?_ NB128_130.out _; (with_reducible repeat (first | refine blk_drewN ?_ _ | refine blk_drew ?_ | refine blk_alloc ?_ _)); refine blk_far ?_ NB128_130.out _; (with_reducible repeat (first | refine blk_drewN ?_ _ | refine blk_drew ?_ | refine blk_alloc ?_ _)); exact BK128.out⟩
 have n1_ : Aside0 (((((w18.setCell ⟨gb130, 0, none⟩ (.int .i64 a0_3)).setCell ⟨gb130, 1, none⟩ (.int .i64 a0_4)).setCell ⟨gb130, 2, none⟩ (.int .i64 a0_5)).setCell ⟨gb130, 3, none⟩ (.int .i64 a0_6)).heap[gb130]? = some (.cells #[.int .i64 a0_3, .int .i64 a0_4, .int .i64 a0_5, .int .i64 a0_6] 34 (0, 0))) := ⟨by (with_reducible repeat (first | refine blk_drewN ?_ _ | refine blk_drew ?_ | refine blk_alloc ?_ _)); refine blk_put (cs := #[.int .i64 a0_3, .int .i64 a0_4, .int .i64 a0_5, .int .i64 0]) ?_ 3 _ rfl; (with_reducible repeat (first | refine blk_drewN ?_ _ | refine blk_drew ?_ | refine blk_alloc ?_ _)); refine blk_put (cs := #[.int .i64 a0_3, .int .i64 a0_4, .int .i64 0, .int .i64 0]) ?_ 2 _ rfl; (with_reducible repeat (first | refine blk_drewN ?_ _ | refine blk_drew ?_ | refine blk_alloc ?_ _)); refine blk_put (cs := #[.int .i64 a0_3, .int .i64 0, .int .i64 0, .int .i64 0]) ?_ 1 _ rfl; (with_reducible repeat (first | refine blk_drewN ?_ _ | refine blk_drew ?_ | refine blk_alloc ?_ _)); refine blk_put (cs := #[.int .i64 0, .int .i64 0, .int .i64 0, .int .i64 0]) ?_ 0 _ rfl; (with_reducible repeat (first | refine blk_drewN ?_ _ | refine blk_drew ?_ | refine blk_alloc ?_ _)); exact BK130.out⟩
 have n2_ : Aside0 (Below w.heap.size w ((((w18.setCell ⟨gb130, 0, none⟩ (.int .i64 a0_3)).setCell ⟨gb130, 1, none⟩ (.int .i64 a0_4)).setCell ⟨gb130, 2, none⟩ (.int .i64 a0_5)).setCell ⟨gb130, 3, none⟩ (.int .i64 a0_6))) := ⟨by repeat (first | (with_reducible first | exact HB.out | apply below_alloc | apply pw_below_drewN | apply below_drew1 | refine below_set ?_ GE128.out | refine below_set ?_ GE130.out) | exact HB.out)⟩
 (try clear BK128)
 (try clear BK130)
 (try clear HB)
 generalize ((((w18.setCell ⟨gb130, 0, none⟩ (.int .i64 a0_3)).setCell ⟨gb130, 1, none⟩ (.int .i64 a0_4)).setCell ⟨gb130, 2, none⟩ (.int .i64 a0_5)).setCell ⟨gb130, 3, none⟩ (.int .i64 a0_6)) = w21 at n0_ n1_ n2_ ⊢
 have BK128 := n0_
 have BK130 := n1_
 have HB := n2_
 clear n0_ n1_ n2_
 have n0_ := Aside0.mk (blk_drew BK128.out)
 have n1_ := Aside0.mk (blk_drew BK130.out)
 have n2_ := Aside0.mk (below_drew1 HB.out)
 clear BK128
 clear BK130
 clear HB
 have BK128 := n0_
 have BK130 := n1_
 have HB := n2_
 clear n0_ n1_ n2_
 refine start_ (n := 35) (S := fun w' => True) (ds := []) #[false, false, false, false, false, false, false, false, false, false, false, false, false, false, false, false, false, false, false, false, false, false, false, false, false, false, false, false, false, false, false, false, false, false, false] (by kernel_rfl) rfl rfl trivial (fun hHeld => ?_); refine with_tabW spec_FrameText.tab4 spec_FrameText.bits4 (fun HT_ HW_ => ?_)
 generalize w21.drew = w22 at BK128 BK130 HB hHeld ⊢
 refine pure_ (i := 0) (N := some 10) (v := ?_) (a' := ?_) #[true, false, false, false, false, false, false, false, false, false, false, false, false, false, false, false, false, false, false, false, false, false, false, false, false, false, false, false, false, false, false, false, false, false, false] rfl rfl (any_of HT_.out (by kernel_rfl)) (fun _ _ _ h => h) (Or.inl ⟨by rfl, ?_⟩) ?_ ?_
 rotate_left
 ·intro w'
  go_simp
  with_reducible rfl
 rotate_left
 ·simp only [Act.put, List.setIfInBounds_toArray, List.set_cons_zero, List.set_cons_succ, i64_w, i32_w]
  rfl
 refine pure_ (i := 3) (N := some 13) (v := ?_) (a' := ?_) #[true, false, false, true, false, false, false, false, false, false, false, false, false, false, false, false, false, false, false, false, false, false, false, false, false, false, false, false, false, false, false, false, false, false, false] rfl rfl (any_of HT_.out (by kernel_rfl)) (fun _ _ _ h => h) (Or.inl ⟨by rfl, ?_⟩) ?_ ?_
 rotate_left
 ·intro w'
  go_simp
  with_reducible rfl
 rotate_left
 ·simp only [Act.put, List.setIfInBounds_toArray, List.set_cons_zero, List.set_cons_succ, i64_w, i32_w]
  rfl
 refine pure_ (i := 8) (N := some 18) (v := ?_) (a' := ?_) #[true, false, false, true, false, false, false, false, true, false, false, false, false, false, false, false, false, false, false, false, false, false, false, false, false, false, false, false, false, false, false, false, false, false, false] rfl rfl (any_of HT_.out (by kernel_rfl)) (fun _ _ _ h => h) (Or.inl ⟨by rfl, ?_⟩) ?_ ?_
 rotate_left
 ·intro w'
  go_simp
  with_reducible rfl
 rotate_left
 ·simp only [Act.put, List.setIfInBounds_toArray, List.set_cons_zero, List.set_cons_succ, i64_w, i32_w]
  rfl
 refine pure_ (i := 12) (N := some 22) (v := ?_) (a' := ?_) #[true, false, false, true, false, false, false, false, true, false, false, false, true, false, false, false, false, false, false, false, false, false, false, false, false, false, false, false, false, false, false, false, false, false, false] rfl rfl (any_of HT_.out (by kernel_rfl)) (fun _ _ _ h => h) (Or.inl ⟨by rfl, ?_⟩) ?_ ?_
 rotate_left
 ·intro w'
  go_simp
  with_reducible rfl
 rotate_left
 ·simp only [Act.put, List.setIfInBounds_toArray, List.set_cons_zero, List.set_cons_succ, i64_w, i32_w]
  rfl
 refine pure_ (i := 18) (N := some 28) (v := ?_) (a' := ?_) #[true, false, false, true, false, false, false, false, true, false, false, false, true, false, false, false, false, false, true, false, false, false, false, false, false, false, false, false, false, false, false, false, false, false, false] rfl rfl (any_of HT_.out (by kernel_rfl)) (fun _ _ _ h => h) (Or.inl ⟨by rfl, ?_⟩) ?_ ?_
 rotate_left
 ·intro w'
  go_simp
  with_reducible rfl
 rotate_left
 ·simp only [Act.put, List.setIfInBounds_toArray, List.set_cons_zero, List.set_cons_succ, i64_w, i32_w]
  rfl
 refine pure_ (i := 22) (N := some 32) (v := ?_) (a' := ?_) #[true, false, false, true, false, false, false, false, true, false, false, false, true, false, false, false, false, false, true, false, false, false, true, false, false, false, false, false, false, false, false, false, false, false, false] rfl rfl (any_of HT_.out (by kernel_rfl)) (fun _ _ _ h => h) (Or.inl ⟨by rfl, ?_⟩) ?_ ?_
 rotate_left
 ·intro w'
  go_simp
  with_reducible rfl
 rotate_left
 ·simp only [Act.put, List.setIfInBounds_toArray, List.set_cons_zero, List.set_cons_succ, i64_w, i32_w]
  rfl
 refine pure_ (i := 26) (N := some 36) (v := ?_) (a' := ?_) #[true, false, false, true, false, false, false, false, true, false, false, false, true, false, false, false, false, false, true, false, false, false, true, false, false, false, true, false, false, false, false, false, false, false, false] rfl rfl (any_of HT_.out (by kernel_rfl)) (fun _ _ _ h => h) (Or.inl ⟨by rfl, ?_⟩) ?_ ?_
 rotate_left
 ·intro w'
  go_simp
  with_reducible rfl
 rotate_left
 ·simp only [Act.put, List.setIfInBounds_toArray, List.set_cons_zero, List.set_cons_succ, i64_w, i32_w]
  rfl
 refine inv_at [1, 2, 4, 5, 6, 7, 9, 10, 11, 13, 14, 15, 16, 17, 19, 20, 21, 23, 24, 25, 27, 28, 29, 30, 31, 32, 33, 34] (fun a0_ b a w' => ∃ (v132 : Value) (v136 : Value), a = putSel a0_ b [(1, 11, .int .i64 a0_0), (2, 12, .int .u8 ((a0_0) % 256)), (4, 14, .int .i64 a0_1), (5, 15, .int .u8 ((a0_1) % 256)), (6, 16, v132), (7, 17, .string (strOfNums y131)), (9, 19, .int .i64 a0_2), (10, 20, .string t134), (11, 21, .string ((strOfNums y131) ++ t134)), (13, 23, .int .i64 a0_3), (14, 24, .int .u8 ((a0_3) % 256)), (15, 25, v136), (16, 26, .string (strOfNums y135)), (17, 27, .string (((strOfNums y131) ++ t134) ++ (strOfNums y135))), (19, 29, .int .i64 a0_4), (20, 30, .string t138), (21, 31, .string ((((strOfNums y131) ++ t134) ++ (strOfNums y135)) ++ t138)), (23, 33, .int .i64 a0_5), (24, 34, .string t139), (25, 35, .string (((((strOfNums y131) ++ t134) ++ (strOfNums y135)) ++ t138) ++ t139)), (27, 37, .int .i64 a0_6), (28, 38, .string t140), (29, 39, .string ((((((strOfNums y131) ++ t134) ++ (strOfNums y135)) ++ t138) ++ t139) ++ t140)), (30, 40, .tuple #[.string t141, .bool t142]), (31, 41, .string t141), (32, 42, .bool t142), (33, 2, .string t141), (34, 3, .bool t142)] ∧ (w'.heap[gb128]? = some (.cells #[.int .i64 a0_0, .int .i64 a0_1, .int .i64 a0_2, .int .i64 a0_3, .int .i64 a0_4, .int .i64 a0_5, .int .i64 a0_6] 36 (0, 0))) ∧ (w'.heap[gb130]? = some (.cells #[.int .i64 a0_3, .int .i64 a0_4, .int .i64 a0_5, .int .i64 a0_6] 34 (0, 0))) ∧ (Below w.heap.size w w') ∧ (b 6 = true → Kd.R (Kd.int .u8) 5 w' w.heap.size (fun _ => True) v132 y131) ∧ (b 15 = true → Kd.R (Kd.int .u8) 5 w' w.heap.size (fun _ => True) v136 y135)) HT_.out HW_.out (by kernel_rfl) (by kernel_rfl) ?_ ?_ ?_
 ·exact ⟨.bool false, .bool false, by simp only [putSel, Bool.false_eq_true, if_false], BK128.out, BK130.out, HB.out, fun h_ => absurd h_ (by decide), fun h_ => absurd h_ (by decide)⟩
 ·skip
  clear BK128 BK130 HB
  refine steps_cons ?_ ?_
  ·rintro b a w' ⟨v132, v136, ha, Q_BK128, Q_BK130, Q_HB, Q_HO133, Q_HO137⟩ hb_ hon hoff
   refine ⟨_, rfl, fun K hK => ?_⟩
   have e10 : a.tmps[10]? = some (.pointer (some ⟨gb128, 0, none⟩)) := by rw [ha]; exact (putSel_off rfl).trans rfl
   replace ha := Aside0.mk ha
   have BK128 := Aside0.mk Q_BK128
   have BK130 := Aside0.mk Q_BK130
   have HB := Aside0.mk Q_HB
   have hc0_ : w'.cell? ⟨gb128, 0, none⟩ = some (.int .i64 a0_0) := (blk_cell BK128.out 0).trans rfl
   have hc1_ : w'.cell? ⟨gb128, 1, none⟩ = some (.int .i64 a0_1) := (blk_cell BK128.out 1).trans rfl
   have hc2_ : w'.cell? ⟨gb128, 2, none⟩ = some (.int .i64 a0_2) := (blk_cell BK128.out 2).trans rfl
   have hc3_ : w'.cell? ⟨gb128, 3, none⟩ = some (.int .i64 a0_3) := (blk_cell BK128.out 3).trans rfl
   have hc4_ : w'.cell? ⟨gb128, 4, none⟩ = some (.int .i64 a0_4) := (blk_cell BK128.out 4).trans rfl
   have hc5_ : w'.cell? ⟨gb128, 5, none⟩ = some (.int .i64 a0_5) := (blk_cell BK128.out 5).trans rfl
   have hc6_ : w'.cell? ⟨gb128, 6, none⟩ = some (.int .i64 a0_6) := (blk_cell BK128.out 6).trans rfl
   refine value_ (w1 := w') (v := .int .i64 a0_0) (by rfl) rfl ?_ ?_
   ·go_simp
    (try simp only [i64_w])
    try rfl
   refine hK.out _ _ ⟨v132, v136, (by rw [ha.out]; exact putSel_upk 0 hb_ rfl rfl rfl), Q_BK128, Q_BK130, Q_HB, fun h0_ => absurd ((hoff 6 (by kernel_rfl)).symm.trans h0_) (by decide), Q_HO137⟩
  refine steps_cons ?_ ?_
  ·rintro b a w' ⟨v132, v136, ha, Q_BK128, Q_BK130, Q_HB, Q_HO133, Q_HO137⟩ hb_ hon hoff
   refine ⟨_, rfl, fun K hK => ?_⟩
   have e11 : a.tmps[11]? = some (.int .i64 a0_0) := by rw [ha]; exact putSel_on (e := (1, 11, .int .i64 a0_0)) 0 rfl rfl (hon 1 (by kernel_rfl)) rfl
   replace ha := Aside0.mk ha
   have BK128 := Aside0.mk Q_BK128
   have BK130 := Aside0.mk Q_BK130
   have HB := Aside0.mk Q_HB
   refine value_ (w1 := w') (v := .int .u8 ((a0_0) % 256)) (by rfl) rfl ?_ ?_
   ·go_simp
    (try simp only [i64_w])
    try rfl
   refine hK.out _ _ ⟨v132, v136, (by rw [ha.out]; exact putSel_upk 1 hb_ rfl rfl rfl), Q_BK128, Q_BK130, Q_HB, fun h0_ => absurd ((hoff 6 (by kernel_rfl)).symm.trans h0_) (by decide), Q_HO137⟩
  refine steps_cons ?_ ?_
  ·rintro b a w' ⟨v132, v136, ha, Q_BK128, Q_BK130, Q_HB, Q_HO133, Q_HO137⟩ hb_ hon hoff
   refine ⟨_, rfl, fun K hK => ?_⟩
   have e13 : a.tmps[13]? = some (.pointer (some ⟨gb128, 1, none⟩)) := by rw [ha]; exact (putSel_off rfl).trans rfl
   replace ha := Aside0.mk ha
   have BK128 := Aside0.mk Q_BK128
   have BK130 := Aside0.mk Q_BK130
   have HB := Aside0.mk Q_HB
   have hc0_ : w'.cell? ⟨gb128, 0, none⟩ = some (.int .i64 a0_0) := (blk_cell BK128.out 0).trans rfl
   have hc1_ : w'.cell? ⟨gb128, 1, none⟩ = some (.int .i64 a0_1) := (blk_cell BK128.out 1).trans rfl
   have hc2_ : w'.cell? ⟨gb128, 2, none⟩ = some (.int .i64 a0_2) := (blk_cell BK128.out 2).trans rfl
   have hc3_ : w'.cell? ⟨gb128, 3, none⟩ = some (.int .i64 a0_3) := (blk_cell BK128.out 3).trans rfl
   have hc4_ : w'.cell? ⟨gb128, 4, none⟩ = some (.int .i64 a0_4) := (blk_cell BK128.out 4).trans rfl
   have hc5_ : w'.cell? ⟨gb128, 5, none⟩ = some (.int .i64 a0_5) := (blk_cell BK128.out 5).trans rfl
   have hc6_ : w'.cell? ⟨gb128, 6, none⟩ = some (.int .i64 a0_6) := (blk_cell BK128.out 6).trans rfl
   refine value_ (w1 := w') (v := .int .i64 a0_1) (by rfl) rfl ?_ ?_
   ·go_simp
    (try simp only [i64_w])
    try rfl
   refine hK.out _ _ ⟨v132, v136, (by rw [ha.out]; exact putSel_upk 2 hb_ rfl rfl rfl), Q_BK128, Q_BK130, Q_HB, fun h0_ => absurd ((hoff 6 (by kernel_rfl)).symm.trans h0_) (by decide), Q_HO137⟩
  refine steps_cons ?_ ?_
  ·rintro b a w' ⟨v132, v136, ha, Q_BK128, Q_BK130, Q_HB, Q_HO133, Q_HO137⟩ hb_ hon hoff
   refine ⟨_, rfl, fun K hK => ?_⟩
   have e14 : a.tmps[14]? = some (.int .i64 a0_1) := by rw [ha]; exact putSel_on (e := (4, 14, .int .i64 a0_1)) 2 rfl rfl (hon 4 (by kernel_rfl)) rfl
   replace ha := Aside0.mk ha
   have BK128 := Aside0.mk Q_BK128
   have BK130 := Aside0.mk Q_BK130
   have HB := Aside0.mk Q_HB
   refine value_ (w1 := w') (v := .int .u8 ((a0_1) % 256)) (by rfl) rfl ?_ ?_
   ·go_simp
    (try simp only [i64_w])
    try rfl
   refine hK.out _ _ ⟨v132, v136, (by rw [ha.out]; exact putSel_upk 3 hb_ rfl rfl rfl), Q_BK128, Q_BK130, Q_HB, fun h0_ => absurd ((hoff 6 (by kernel_rfl)).symm.trans h0_) (by decide), Q_HO137⟩
  refine steps_cons ?_ ?_
  ·rintro b a w' ⟨v132, v136, ha, Q_BK128, Q_BK130, Q_HB, Q_HO133, Q_HO137⟩ hb_ hon hoff
   refine ⟨_, rfl, fun K hK => ?_⟩
   have e12 : a.tmps[12]? = some (.int .u8 ((a0_0) % 256)) := by rw [ha]; exact putSel_on (e := (2, 12, .int .u8 ((a0_0) % 256))) 1 rfl rfl (hon 2 (by kernel_rfl)) rfl
   have e15 : a.tmps[15]? = some (.int .u8 ((a0_1) % 256)) := by rw [ha]; exact putSel_on (e := (5, 15, .int .u8 ((a0_1) % 256))) 3 rfl rfl (hon 5 (by kernel_rfl)) rfl
   replace ha := Aside0.mk ha
   have BK128 := Aside0.mk Q_BK128
   have BK130 := Aside0.mk Q_BK130
   have HB := Aside0.mk Q_HB
   refine Kd.R_lit_step (Kd.int .u8) _ 5 ?hg (N := 16) ?hd (xs := ([(a0_0) % 256, (a0_1) % 256] : List Int)) (inner := [.int .u8 ((a0_0) % 256), .int .u8 ((a0_1) % 256)]) (ok := fun _ => True) (okp := fun _ => True) ?hr ?hp (fun _ hk => hk) trivial (Below.refl _ _) (Nat.le_refl _) (by simp) ?_; (case hd => rfl); (case hg => rfl); (case hr => first | (go_simp; done) | (go_simp; rfl)); (case hp => exact (Reps.one (show Kd.M (Kd.int .u8) _ _ _ ((a0_0) % 256) [.int .u8 ((a0_0) % 256)] from rfl) (Reps.one (show Kd.M (Kd.int .u8) _ _ _ ((a0_1) % 256) [.int .u8 ((a0_1) % 256)] from rfl) (Reps.none _ _))))
   intro v132 w23 ho24 hb hg_ hnew_
   clear hg_ hnew_
   (first | rw [← Ny131.out] at ho24 | (simp only [Int.reduceToNat] at ho24; rw [← Ny131.out] at ho24))
   have n0_ := Aside0.mk (Kd.R_lower ho24 (below_size (rb2 GE128.out GE130.out HB.out)))
   have n1_ := Aside0.mk (blk_below (g := gb128) (o := .cells #[.int .i64 a0_0, .int .i64 a0_1, .int .i64 a0_2, .int .i64 a0_3, .int .i64 a0_4, .int .i64 a0_5, .int .i64 a0_6] 36 (0, 0)) (rk BK128.out) hb)
   have n2_ := Aside0.mk (blk_below (g := gb130) (o := .cells #[.int .i64 a0_3, .int .i64 a0_4, .int .i64 a0_5, .int .i64 a0_6] 34 (0, 0)) (rk BK130.out) hb)
   have n3_ := Aside0.mk (below_step (rb2 GE128.out GE130.out HB.out) hb)
   have z_HO137 := fun (h0_ : b 15 = true) => (show Kd.R (Kd.int .u8) 5 w23 w.heap.size (fun _ => True) v136 y135 from by first | exact (Kd.R_elder' (by (with_reducible repeat (first | apply Kd.R_alloc | apply Kd.R_drewN | apply Kd.R_drew)); exact (Q_HO137 h0_)) (Kd.R_base ho24) hb) | exact Kd.R_mono (Kd.R_elder' (by (with_reducible repeat (first | apply Kd.R_alloc | apply Kd.R_drewN | apply Kd.R_drew)); exact (Q_HO137 h0_)) (Kd.R_base ho24) hb) (fun _ h_ => by first | trivial | exact h_ | exact h_.1))
   clear BK128
   clear BK130
   clear HB
   have HO133 := n0_
   have BK128 := n1_
   have BK130 := n2_
   have HB := n3_
   clear n0_ n1_ n2_ n3_
   clear hb ho24
   refine hK.out _ _ ⟨v132, v136, (by rw [ha.out]; exact putSel_upk 4 hb_ rfl rfl rfl), (rk BK128.out), (rk BK130.out), (rb2 GE128.out GE130.out HB.out), fun _ => (rr HO133.out), z_HO137⟩
  refine steps_cons ?_ ?_
  ·rintro b a w' ⟨v132, v136, ha, Q_BK128, Q_BK130, Q_HB, Q_HO133, Q_HO137⟩ hb_ hon hoff
   refine ⟨_, rfl, fun K hK => ?_⟩
   have e16 : a.tmps[16]? = some (v132) := by rw [ha]; exact putSel_on (e := (6, 16, v132)) 4 rfl rfl (hon 6 (by kernel_rfl)) rfl
   replace ha := Aside0.mk ha
   have BK128 := Aside0.mk Q_BK128
   have BK130 := Aside0.mk Q_BK130
   have HB := Aside0.mk Q_HB
   have HO133 := Aside0.mk (Q_HO133 (hon 6 (by kernel_rfl)))
   obtain ⟨Ao7_0, co7_0, eo_⟩ := Kd.R_slice HO133.out
   subst eo_
   have hcv_ := own_string (P := Try.prog) Try.underlying22 Try.underlying5 Try.underlying9 (Kd.own_of_R HO133.out)
   refine value_ (w1 := w') (v := .string (strOfNums y131)) (by rfl) rfl ?_ ?_
   ·go_simp
    (try simp only [i64_w])
    try rfl
   refine hK.out _ _ ⟨.slice Ao7_0 y131.length co7_0, v136, (by rw [ha.out]; exact putSel_upk 5 hb_ rfl rfl rfl), Q_BK128, Q_BK130, Q_HB, Q_HO133, Q_HO137⟩
  refine steps_cons ?_ ?_
  ·rintro b a w' ⟨v132, v136, ha, Q_BK128, Q_BK130, Q_HB, Q_HO133, Q_HO137⟩ hb_ hon hoff
   refine ⟨_, rfl, fun K hK => ?_⟩
   have e18 : a.tmps[18]? = some (.pointer (some ⟨gb128, 2, none⟩)) := by rw [ha]; exact (putSel_off rfl).trans rfl
   replace ha := Aside0.mk ha
   have BK128 := Aside0.mk Q_BK128
   have BK130 := Aside0.mk Q_BK130
   have HB := Aside0.mk Q_HB
   have hc0_ : w'.cell? ⟨gb128, 0, none⟩ = some (.int .i64 a0_0) := (blk_cell BK128.out 0).trans rfl
   have hc1_ : w'.cell? ⟨gb128, 1, none⟩ = some (.int .i64 a0_1) := (blk_cell BK128.out 1).trans rfl
   have hc2_ : w'.cell? ⟨gb128, 2, none⟩ = some (.int .i64 a0_2) := (blk_cell BK128.out 2).trans rfl
   have hc3_ : w'.cell? ⟨gb128, 3, none⟩ = some (.int .i64 a0_3) := (blk_cell BK128.out 3).trans rfl
   have hc4_ : w'.cell? ⟨gb128, 4, none⟩ = some (.int .i64 a0_4) := (blk_cell BK128.out 4).trans rfl
   have hc5_ : w'.cell? ⟨gb128, 5, none⟩ = some (.int .i64 a0_5) := (blk_cell BK128.out 5).trans rfl
   have hc6_ : w'.cell? ⟨gb128, 6, none⟩ = some (.int .i64 a0_6) := (blk_cell BK128.out 6).trans rfl
   refine value_ (w1 := w') (v := .int .i64 a0_2) (by rfl) rfl ?_ ?_
   ·go_simp
    (try simp only [i64_w])
    try rfl
   refine hK.out _ _ ⟨v132, v136, (by rw [ha.out]; exact putSel_upk 6 hb_ rfl rfl rfl), Q_BK128, Q_BK130, Q_HB, Q_HO133, Q_HO137⟩
  refine steps_cons ?_ ?_
  ·rintro b a w' ⟨v132, v136, ha, Q_BK128, Q_BK130, Q_HB, Q_HO133, Q_HO137⟩ hb_ hon hoff
   refine ⟨_, rfl, fun K hK => ?_⟩
   have e19 : a.tmps[19]? = some (.int .i64 a0_2) := by rw [ha]; exact putSel_on (e := (9, 19, .int .i64 a0_2)) 6 rfl rfl (hon 9 (by kernel_rfl)) rfl
   replace ha := Aside0.mk ha
   have BK128 := Aside0.mk Q_BK128
   have BK130 := Aside0.mk Q_BK130
   have HB := Aside0.mk Q_HB
   refine goes_ Try.func127 (by kernel_rfl) rfl #[.int .i64 a0_2] (by rfl) rfl rfl (by first | (simp only [List.map_toArray, List.map_cons, List.map_nil, Act.eval, Array.getD_eq_getD_getElem?, Option.getD_some, e19]; done) | (simp only [List.map_toArray, List.map_cons, List.map_nil, Act.eval, Array.getD_eq_getD_getElem?, Option.getD_some, e19]; rfl)) ?_
   with_reducible refine (spec_l01Var.calls k a0_2 t134 _ A4.out).mono ?_
   rintro e w23 ⟨rfl, hb⟩
   refine ⟨_, rfl, ?_⟩
   have n0_ := Aside0.mk (blk_below (g := gb128) (o := .cells #[.int .i64 a0_0, .int .i64 a0_1, .int .i64 a0_2, .int .i64 a0_3, .int .i64 a0_4, .int .i64 a0_5, .int .i64 a0_6] 36 (0, 0)) (rk BK128.out) hb)
   have n1_ := Aside0.mk (blk_below (g := gb130) (o := .cells #[.int .i64 a0_3, .int .i64 a0_4, .int .i64 a0_5, .int .i64 a0_6] 34 (0, 0)) (rk BK130.out) hb)
   have n2_ := Aside0.mk (below_step (rb2 GE128.out GE130.out HB.out) hb)
   have z_HO133 := fun (h0_ : b 6 = true) => (show Kd.R (Kd.int .u8) 5 w23 w.heap.size (fun _ => True) v132 y131 from by first | exact (Kd.R_below (by (with_reducible repeat (first | apply Kd.R_alloc | apply Kd.R_drewN | apply Kd.R_drew)); exact (Q_HO133 h0_)) hb) | exact Kd.R_mono (Kd.R_below (by (with_reducible repeat (first | apply Kd.R_alloc | apply Kd.R_drewN | apply Kd.R_drew)); exact (Q_HO133 h0_)) hb) (fun _ h_ => by first | trivial | exact h_ | exact h_.1))
   have z_HO137 := fun (h0_ : b 15 = true) => (show Kd.R (Kd.int .u8) 5 w23 w.heap.size (fun _ => True) v136 y135 from by first | exact (Kd.R_below (by (with_reducible repeat (first | apply Kd.R_alloc | apply Kd.R_drewN | apply Kd.R_drew)); exact (Q_HO137 h0_)) hb) | exact Kd.R_mono (Kd.R_below (by (with_reducible repeat (first | apply Kd.R_alloc | apply Kd.R_drewN | apply Kd.R_drew)); exact (Q_HO137 h0_)) hb) (fun _ h_ => by first | trivial | exact h_ | exact h_.1))
   clear BK128
   clear BK130
   clear HB
   have BK128 := n0_
   have BK130 := n1_
   have HB := n2_
   clear n0_ n1_ n2_
   (try clear hb)
   (try clear hb2)
   (try clear hk)
   (try clear hi)
   refine hK.out _ _ ⟨v132, v136, (by rw [ha.out]; exact putSel_upk 7 hb_ rfl rfl rfl), (rk BK128.out), (rk BK130.out), (rb2 GE128.out GE130.out HB.out), z_HO133, z_HO137⟩
  refine steps_cons ?_ ?_
  ·rintro b a w' ⟨v132, v136, ha, Q_BK128, Q_BK130, Q_HB, Q_HO133, Q_HO137⟩ hb_ hon hoff
   refine ⟨_, rfl, fun K hK => ?_⟩
   have e17 : a.tmps[17]? = some (.string (strOfNums y131)) := by rw [ha]; exact putSel_on (e := (7, 17, .string (strOfNums y131))) 5 rfl rfl (hon 7 (by kernel_rfl)) rfl
   have e20 : a.tmps[20]? = some (.string t134) := by rw [ha]; exact putSel_on (e := (10, 20, .string t134)) 7 rfl rfl (hon 10 (by kernel_rfl)) rfl
   replace ha := Aside0.mk ha
   have BK128 := Aside0.mk Q_BK128
   have BK130 := Aside0.mk Q_BK130
   have HB := Aside0.mk Q_HB
   have HO133 := Aside0.mk (Q_HO133 (hon 6 (by kernel_rfl)))
   refine value_ (w1 := w') (v := .string ((strOfNums y131) ++ t134)) (by rfl) rfl ?_ ?_
   ·go_simp
    (try simp only [i64_w])
    try rfl
    (try (first | done | (simp only [ByteArray.size_append] at *; omega)))
   refine hK.out _ _ ⟨v132, v136, (by rw [ha.out]; exact putSel_upk 8 hb_ rfl rfl rfl), Q_BK128, Q_BK130, Q_HB, Q_HO133, Q_HO137⟩
  refine steps_cons ?_ ?_
  ·rintro b a w' ⟨v132, v136, ha, Q_BK128, Q_BK130, Q_HB, Q_HO133, Q_HO137⟩ hb_ hon hoff
   refine ⟨_, rfl, fun K hK => ?_⟩
   have e22 : a.tmps[22]? = some (.pointer (some ⟨gb130, 0, none⟩)) := by rw [ha]; exact (putSel_off rfl).trans rfl
   replace ha := Aside0.mk ha
   have BK128 := Aside0.mk Q_BK128
   have BK130 := Aside0.mk Q_BK130
   have HB := Aside0.mk Q_HB
   have hc0_ : w'.cell? ⟨gb130, 0, none⟩ = some (.int .i64 a0_3) := (blk_cell BK130.out 0).trans rfl
   have hc1_ : w'.cell? ⟨gb130, 1, none⟩ = some (.int .i64 a0_4) := (blk_cell BK130.out 1).trans rfl
   have hc2_ : w'.cell? ⟨gb130, 2, none⟩ = some (.int .i64 a0_5) := (blk_cell BK130.out 2).trans rfl
   have hc3_ : w'.cell? ⟨gb130, 3, none⟩ = some (.int .i64 a0_6) := (blk_cell BK130.out 3).trans rfl
   refine value_ (w1 := w') (v := .int .i64 a0_3) (by rfl) rfl ?_ ?_
   ·go_simp
    (try simp only [i64_w])
    try rfl
   refine hK.out _ _ ⟨v132, v136, (by rw [ha.out]; exact putSel_upk 9 hb_ rfl rfl rfl), Q_BK128, Q_BK130, Q_HB, Q_HO133, fun h0_ => absurd ((hoff 15 (by kernel_rfl)).symm.trans h0_) (by decide)⟩
  refine steps_cons ?_ ?_
  ·rintro b a w' ⟨v132, v136, ha, Q_BK128, Q_BK130, Q_HB, Q_HO133, Q_HO137⟩ hb_ hon hoff
   refine ⟨_, rfl, fun K hK => ?_⟩
   have e23 : a.tmps[23]? = some (.int .i64 a0_3) := by rw [ha]; exact putSel_on (e := (13, 23, .int .i64 a0_3)) 9 rfl rfl (hon 13 (by kernel_rfl)) rfl
   replace ha := Aside0.mk ha
   have BK128 := Aside0.mk Q_BK128
   have BK130 := Aside0.mk Q_BK130
   have HB := Aside0.mk Q_HB
   refine value_ (w1 := w') (v := .int .u8 ((a0_3) % 256)) (by rfl) rfl ?_ ?_
   ·go_simp
    (try simp only [i64_w])
    try rfl
   refine hK.out _ _ ⟨v132, v136, (by rw [ha.out]; exact putSel_upk 10 hb_ rfl rfl rfl), Q_BK128, Q_BK130, Q_HB, Q_HO133, fun h0_ => absurd ((hoff 15 (by kernel_rfl)).symm.trans h0_) (by decide)⟩
  refine steps_cons ?_ ?_
  ·rintro b a w' ⟨v132, v136, ha, Q_BK128, Q_BK130, Q_HB, Q_HO133, Q_HO137⟩ hb_ hon hoff
   refine ⟨_, rfl, fun K hK => ?_⟩
   have e24 : a.tmps[24]? = some (.int .u8 ((a0_3) % 256)) := by rw [ha]; exact putSel_on (e := (14, 24, .int .u8 ((a0_3) % 256))) 10 rfl rfl (hon 14 (by kernel_rfl)) rfl
   replace ha := Aside0.mk ha
   have BK128 := Aside0.mk Q_BK128
   have BK130 := Aside0.mk Q_BK130
   have HB := Aside0.mk Q_HB
   refine Kd.R_lit_step (Kd.int .u8) _ 5 ?hg (N := 25) ?hd (xs := ([(a0_3) % 256] : List Int)) (inner := [.int .u8 ((a0_3) % 256)]) (ok := fun _ => True) (okp := fun _ => True) ?hr ?hp (fun _ hk => hk) trivial (Below.refl _ _) (Nat.le_refl _) (by simp) ?_; (case hd => rfl); (case hg => rfl); (case hr => first | (go_simp; done) | (go_simp; rfl)); (case hp => exact (Reps.one (show Kd.M (Kd.int .u8) _ _ _ ((a0_3) % 256) [.int .u8 ((a0_3) % 256)] from rfl) (Reps.none _ _)))
   intro v136 w23 ho24 hb hg_ hnew_
   clear hg_ hnew_
   (first | rw [← Ny135.out] at ho24 | (simp only [Int.reduceToNat] at ho24; rw [← Ny135.out] at ho24))
   have n0_ := Aside0.mk (Kd.R_lower ho24 (below_size (rb2 GE128.out GE130.out HB.out)))
   have n1_ := Aside0.mk (blk_below (g := gb128) (o := .cells #[.int .i64 a0_0, .int .i64 a0_1, .int .i64 a0_2, .int .i64 a0_3, .int .i64 a0_4, .int .i64 a0_5, .int .i64 a0_6] 36 (0, 0)) (rk BK128.out) hb)
   have n2_ := Aside0.mk (blk_below (g := gb130) (o := .cells #[.int .i64 a0_3, .int .i64 a0_4, .int .i64 a0_5, .int .i64 a0_6] 34 (0, 0)) (rk BK130.out) hb)
   have n3_ := Aside0.mk (below_step (rb2 GE128.out GE130.out HB.out) hb)
   have z_HO133 := fun (h0_ : b 6 = true) => (show Kd.R (Kd.int .u8) 5 w23 w.heap.size (fun _ => True) v132 y131 from by first | exact (Kd.R_elder' (by (with_reducible repeat (first | apply Kd.R_alloc | apply Kd.R_drewN | apply Kd.R_drew)); exact (Q_HO133 h0_)) (Kd.R_base ho24) hb) | exact Kd.R_mono (Kd.R_elder' (by (with_reducible repeat (first | apply Kd.R_alloc | apply Kd.R_drewN | apply Kd.R_drew)); exact (Q_HO133 h0_)) (Kd.R_base ho24) hb) (fun _ h_ => by first | trivial | exact h_ | exact h_.1))
   clear BK128
   clear BK130
   clear HB
   have HO137 := n0_
   have BK128 := n1_
   have BK130 := n2_
   have HB := n3_
   clear n0_ n1_ n2_ n3_
   clear hb ho24
   refine hK.out _ _ ⟨v132, v136, (by rw [ha.out]; exact putSel_upk 11 hb_ rfl rfl rfl), (rk BK128.out), (rk BK130.out), (rb2 GE128.out GE130.out HB.out), z_HO133, fun _ => (rr HO137.out)⟩
  refine steps_cons ?_ ?_
  ·rintro b a w' ⟨v132, v136, ha, Q_BK128, Q_BK130, Q_HB, Q_HO133, Q_HO137⟩ hb_ hon hoff
   refine ⟨_, rfl, fun K hK => ?_⟩
   have e25 : a.tmps[25]? = some (v136) := by rw [ha]; exact putSel_on (e := (15, 25, v136)) 11 rfl rfl (hon 15 (by kernel_rfl)) rfl
   replace ha := Aside0.mk ha
   have BK128 := Aside0.mk Q_BK128
   have BK130 := Aside0.mk Q_BK130
   have HB := Aside0.mk Q_HB
   have HO137 := Aside0.mk (Q_HO137 (hon 15 (by kernel_rfl)))
   obtain ⟨Ao16_0, co16_0, eo_⟩ := Kd.R_slice HO137.out
   subst eo_
   have hcv_ := own_string (P := Try.prog) Try.underlying22 Try.underlying5 Try.underlying9 (Kd.own_of_R HO137.out)
   refine value_ (w1 := w') (v := .string (strOfNums y135)) (by rfl) rfl ?_ ?_
   ·go_simp
    (try simp only [i64_w])
    try rfl
   refine hK.out _ _ ⟨v132, .slice Ao16_0 y135.length co16_0, (by rw [ha.out]; exact putSel_upk 12 hb_ rfl rfl rfl), Q_BK128, Q_BK130, Q_HB, Q_HO133, Q_HO137⟩
  refine steps_cons ?_ ?_
  ·rintro b a w' ⟨v132, v136, ha, Q_BK128, Q_BK130, Q_HB, Q_HO133, Q_HO137⟩ hb_ hon hoff
   refine ⟨_, rfl, fun K hK => ?_⟩
   have e21 : a.tmps[21]? = some (.string ((strOfNums y131) ++ t134)) := by rw [ha]; exact putSel_on (e := (11, 21, .string ((strOfNums y131) ++ t134))) 8 rfl rfl (hon 11 (by kernel_rfl)) rfl
   have e26 : a.tmps[26]? = some (.string (strOfNums y135)) := by rw [ha]; exact putSel_on (e := (16, 26, .string (strOfNums y135))) 12 rfl rfl (hon 16 (by kernel_rfl)) rfl
   replace ha := Aside0.mk ha
   have BK128 := Aside0.mk Q_BK128
   have BK130 := Aside0.mk Q_BK130
   have HB := Aside0.mk Q_HB
   have HO133 := Aside0.mk (Q_HO133 (hon 6 (by kernel_rfl)))
   have HO137 := Aside0.mk (Q_HO137 (hon 15 (by kernel_rfl)))
   refine value_ (w1 := w') (v := .string (((strOfNums y131) ++ t134) ++ (strOfNums y135))) (by rfl) rfl ?_ ?_
   ·go_simp
    (try simp only [i64_w])
    try rfl
    (try (first | done | (simp only [ByteArray.size_append] at *; omega)))
   refine hK.out _ _ ⟨v132, v136, (by rw [ha.out]; exact putSel_upk 13 hb_ rfl rfl rfl), Q_BK128, Q_BK130, Q_HB, Q_HO133, Q_HO137⟩
  refine steps_cons ?_ ?_
  ·rintro b a w' ⟨v132, v136, ha, Q_BK128, Q_BK130, Q_HB, Q_HO133, Q_HO137⟩ hb_ hon hoff
   refine ⟨_, rfl, fun K hK => ?_⟩
   have e28 : a.tmps[28]? = some (.pointer (some ⟨gb130, 1, none⟩)) := by rw [ha]; exact (putSel_off rfl).trans rfl
   replace ha := Aside0.mk ha
   have BK128 := Aside0.mk Q_BK128
   have BK130 := Aside0.mk Q_BK130
   have HB := Aside0.mk Q_HB
   have hc0_ : w'.cell? ⟨gb130, 0, none⟩ = some (.int .i64 a0_3) := (blk_cell BK130.out 0).trans rfl
   have hc1_ : w'.cell? ⟨gb130, 1, none⟩ = some (.int .i64 a0_4) := (blk_cell BK130.out 1).trans rfl
   have hc2_ : w'.cell? ⟨gb130, 2, none⟩ = some (.int .i64 a0_5) := (blk_cell BK130.out 2).trans rfl
   have hc3_ : w'.cell? ⟨gb130, 3, none⟩ = some (.int .i64 a0_6) := (blk_cell BK130.out 3).trans rfl
   refine value_ (w1 := w') (v := .int .i64 a0_4) (by rfl) rfl ?_ ?_
   ·go_simp
    (try simp only [i64_w])
    try rfl
   refine hK.out _ _ ⟨v132, v136, (by rw [ha.out]; exact putSel_upk 14 hb_ rfl rfl rfl), Q_BK128, Q_BK130, Q_HB, Q_HO133, Q_HO137⟩
  refine steps_cons ?_ ?_
  ·rintro b a w' ⟨v132, v136, ha, Q_BK128, Q_BK130, Q_HB, Q_HO133, Q_HO137⟩ hb_ hon hoff
   refine ⟨_, rfl, fun K hK => ?_⟩
   have e29 : a.tmps[29]? = some (.int .i64 a0_4) := by rw [ha]; exact putSel_on (e := (19, 29, .int .i64 a0_4)) 14 rfl rfl (hon 19 (by kernel_rfl)) rfl
   replace ha := Aside0.mk ha
   have BK128 := Aside0.mk Q_BK128
   have BK130 := Aside0.mk Q_BK130
   have HB := Aside0.mk Q_HB
   refine goes_ Try.func128 (by kernel_rfl) rfl #[.int .i64 a0_4] (by rfl) rfl rfl (by first | (simp only [List.map_toArray, List.map_cons, List.map_nil, Act.eval, Array.getD_eq_getD_getElem?, Option.getD_some, e29]; done) | (simp only [List.map_toArray, List.map_cons, List.map_nil, Act.eval, Array.getD_eq_getD_getElem?, Option.getD_some, e29]; rfl)) ?_
   with_reducible refine (spec_l06Four.calls a0_4 t138 _ A7.out).mono ?_
   rintro e w25 ⟨rfl, hb⟩
   refine ⟨_, rfl, ?_⟩
   have n0_ := Aside0.mk (blk_below (g := gb128) (o := .cells #[.int .i64 a0_0, .int .i64 a0_1, .int .i64 a0_2, .int .i64 a0_3, .int .i64 a0_4, .int .i64 a0_5, .int .i64 a0_6] 36 (0, 0)) (rk BK128.out) hb)
   have n1_ := Aside0.mk (blk_below (g := gb130) (o := .cells #[.int .i64 a0_3, .int .i64 a0_4, .int .i64 a0_5, .int .i64 a0_6] 34 (0, 0)) (rk BK130.out) hb)
   have n2_ := Aside0.mk (below_step (rb2 GE128.out GE130.out HB.out) hb)
   have z_HO133 := fun (h0_ : b 6 = true) => (show Kd.R (Kd.int .u8) 5 w25 w.heap.size (fun _ => True) v132 y131 from by first | exact (Kd.R_below (by (with_reducible repeat (first | apply Kd.R_alloc | apply Kd.R_drewN | apply Kd.R_drew)); exact (Q_HO133 h0_)) hb) | exact Kd.R_mono (Kd.R_below (by (with_reducible repeat (first | apply Kd.R_alloc | apply Kd.R_drewN | apply Kd.R_drew)); exact (Q_HO133 h0_)) hb) (fun _ h_ => by first | trivial | exact h_ | exact h_.1))
   have z_HO137 := fun (h0_ : b 15 = true) => (show Kd.R (Kd.int .u8) 5 w25 w.heap.size (fun _ => True) v136 y135 from by first | exact (Kd.R_below (by (with_reducible repeat (first | apply Kd.R_alloc | apply Kd.R_drewN | apply Kd.R_drew)); exact (Q_HO137 h0_)) hb) | exact Kd.R_mono (Kd.R_below (by (with_reducible repeat (first | apply Kd.R_alloc | apply Kd.R_drewN | apply Kd.R_drew)); exact (Q_HO137 h0_)) hb) (fun _ h_ => by first | trivial | exact h_ | exact h_.1))
   clear BK128
   clear BK130
   clear HB
   have BK128 := n0_
   have BK130 := n1_
   have HB := n2_
   clear n0_ n1_ n2_
   (try clear hb)
   (try clear hb2)
   (try clear hk)
   (try clear hi)
   refine hK.out _ _ ⟨v132, v136, (by rw [ha.out]; exact putSel_upk 15 hb_ rfl rfl rfl), (rk BK128.out), (rk BK130.out), (rb2 GE128.out GE130.out HB.out), z_HO133, z_HO137⟩
  refine steps_cons ?_ ?_
  ·rintro b a w' ⟨v132, v136, ha, Q_BK128, Q_BK130, Q_HB, Q_HO133, Q_HO137⟩ hb_ hon hoff
   refine ⟨_, rfl, fun K hK => ?_⟩
   have e27 : a.tmps[27]? = some (.string (((strOfNums y131) ++ t134) ++ (strOfNums y135))) := by rw [ha]; exact putSel_on (e := (17, 27, .string (((strOfNums y131) ++ t134) ++ (strOfNums y135)))) 13 rfl rfl (hon 17 (by kernel_rfl)) rfl
   have e30 : a.tmps[30]? = some (.string t138) := by rw [ha]; exact putSel_on (e := (20, 30, .string t138)) 15 rfl rfl (hon 20 (by kernel_rfl)) rfl
   replace ha := Aside0.mk ha
   have BK128 := Aside0.mk Q_BK128
   have BK130 := Aside0.mk Q_BK130
   have HB := Aside0.mk Q_HB
   have HO133 := Aside0.mk (Q_HO133 (hon 6 (by kernel_rfl)))
   have HO137 := Aside0.mk (Q_HO137 (hon 15 (by kernel_rfl)))
   refine value_ (w1 := w') (v := .string ((((strOfNums y131) ++ t134) ++ (strOfNums y135)) ++ t138)) (by rfl) rfl ?_ ?_
   ·go_simp
    (try simp only [i64_w])
    try rfl
    (try (first | done | (simp only [ByteArray.size_append] at *; omega)))
   refine hK.out _ _ ⟨v132, v136, (by rw [ha.out]; exact putSel_upk 16 hb_ rfl rfl rfl), Q_BK128, Q_BK130, Q_HB, Q_HO133, Q_HO137⟩
  refine steps_cons ?_ ?_
  ·rintro b a w' ⟨v132, v136, ha, Q_BK128, Q_BK130, Q_HB, Q_HO133, Q_HO137⟩ hb_ hon hoff
   refine ⟨_, rfl, fun K hK => ?_⟩
   have e32 : a.tmps[32]? = some (.pointer (some ⟨gb130, 2, none⟩)) := by rw [ha]; exact (putSel_off rfl).trans rfl
   replace ha := Aside0.mk ha
   have BK128 := Aside0.mk Q_BK128
   have BK130 := Aside0.mk Q_BK130
   have HB := Aside0.mk Q_HB
   have hc0_ : w'.cell? ⟨gb130, 0, none⟩ = some (.int .i64 a0_3) := (blk_cell BK130.out 0).trans rfl
   have hc1_ : w'.cell? ⟨gb130, 1, none⟩ = some (.int .i64 a0_4) := (blk_cell BK130.out 1).trans rfl
   have hc2_ : w'.cell? ⟨gb130, 2, none⟩ = some (.int .i64 a0_5) := (blk_cell BK130.out 2).trans rfl
   have hc3_ : w'.cell? ⟨gb130, 3, none⟩ = some (.int .i64 a0_6) := (blk_cell BK130.out 3).trans rfl
   refine value_ (w1 := w') (v := .int .i64 a0_5) (by rfl) rfl ?_ ?_
   ·go_simp
    (try simp only [i64_w])
    try rfl
   refine hK.out _ _ ⟨v132, v136, (by rw [ha.out]; exact putSel_upk 17 hb_ rfl rfl rfl), Q_BK128, Q_BK130, Q_HB, Q_HO133, Q_HO137⟩
  refine steps_cons ?_ ?_
  ·rintro b a w' ⟨v132, v136, ha, Q_BK128, Q_BK130, Q_HB, Q_HO133, Q_HO137⟩ hb_ hon hoff
   refine ⟨_, rfl, fun K hK => ?_⟩
   have e33 : a.tmps[33]? = some (.int .i64 a0_5) := by rw [ha]; exact putSel_on (e := (23, 33, .int .i64 a0_5)) 17 rfl rfl (hon 23 (by kernel_rfl)) rfl
   replace ha := Aside0.mk ha
   have BK128 := Aside0.mk Q_BK128
   have BK130 := Aside0.mk Q_BK130
   have HB := Aside0.mk Q_HB
   refine goes_ Try.func128 (by kernel_rfl) rfl #[.int .i64 a0_5] (by rfl) rfl rfl (by first | (simp only [List.map_toArray, List.map_cons, List.map_nil, Act.eval, Array.getD_eq_getD_getElem?, Option.getD_some, e33]; done) | (simp only [List.map_toArray, List.map_cons, List.map_nil, Act.eval, Array.getD_eq_getD_getElem?, Option.getD_some, e33]; rfl)) ?_
   with_reducible refine (spec_l06Four.calls a0_5 t139 _ A9.out).mono ?_
   rintro e w26 ⟨rfl, hb⟩
   refine ⟨_, rfl, ?_⟩
   have n0_ := Aside0.mk (blk_below (g := gb128) (o := .cells #[.int .i64 a0_0, .int .i64 a0_1, .int .i64 a0_2, .int .i64 a0_3, .int .i64 a0_4, .int .i64 a0_5, .int .i64 a0_6] 36 (0, 0)) (rk BK128.out) hb)
   have n1_ := Aside0.mk (blk_below (g := gb130) (o := .cells #[.int .i64 a0_3, .int .i64 a0_4, .int .i64 a0_5, .int .i64 a0_6] 34 (0, 0)) (rk BK130.out) hb)
   have n2_ := Aside0.mk (below_step (rb2 GE128.out GE130.out HB.out) hb)
   have z_HO133 := fun (h0_ : b 6 = true) => (show Kd.R (Kd.int .u8) 5 w26 w.heap.size (fun _ => True) v132 y131 from by first | exact (Kd.R_below (by (with_reducible repeat (first | apply Kd.R_alloc | apply Kd.R_drewN | apply Kd.R_drew)); exact (Q_HO133 h0_)) hb) | exact Kd.R_mono (Kd.R_below (by (with_reducible repeat (first | apply Kd.R_alloc | apply Kd.R_drewN | apply Kd.R_drew)); exact (Q_HO133 h0_)) hb) (fun _ h_ => by first | trivial | exact h_ | exact h_.1))
   have z_HO137 := fun (h0_ : b 15 = true) => (show Kd.R (Kd.int .u8) 5 w26 w.heap.size (fun _ => True) v136 y135 from by first | exact (Kd.R_below (by (with_reducible repeat (first | apply Kd.R_alloc | apply Kd.R_drewN | apply Kd.R_drew)); exact (Q_HO137 h0_)) hb) | exact Kd.R_mono (Kd.R_below (by (with_reducible repeat (first | apply Kd.R_alloc | apply Kd.R_drewN | apply Kd.R_drew)); exact (Q_HO137 h0_)) hb) (fun _ h_ => by first | trivial | exact h_ | exact h_.1))
   clear BK128
   clear BK130
   clear HB
   have BK128 := n0_
   have BK130 := n1_
   have HB := n2_
   clear n0_ n1_ n2_
   (try clear hb)
   (try clear hb2)
   (try clear hk)
   (try clear hi)
   refine hK.out _ _ ⟨v132, v136, (by rw [ha.out]; exact putSel_upk 18 hb_ rfl rfl rfl), (rk BK128.out), (rk BK130.out), (rb2 GE128.out GE130.out HB.out), z_HO133, z_HO137⟩
  refine steps_cons ?_ ?_
  ·rintro b a w' ⟨v132, v136, ha, Q_BK128, Q_BK130, Q_HB, Q_HO133, Q_HO137⟩ hb_ hon hoff
   refine ⟨_, rfl, fun K hK => ?_⟩
   have e31 : a.tmps[31]? = some (.string ((((strOfNums y131) ++ t134) ++ (strOfNums y135)) ++ t138)) := by rw [ha]; exact putSel_on (e := (21, 31, .string ((((strOfNums y131) ++ t134) ++ (strOfNums y135)) ++ t138))) 16 rfl rfl (hon 21 (by kernel_rfl)) rfl
   have e34 : a.tmps[34]? = some (.string t139) := by rw [ha]; exact putSel_on (e := (24, 34, .string t139)) 18 rfl rfl (hon 24 (by kernel_rfl)) rfl
   replace ha := Aside0.mk ha
   have BK128 := Aside0.mk Q_BK128
   have BK130 := Aside0.mk Q_BK130
   have HB := Aside0.mk Q_HB
   have HO133 := Aside0.mk (Q_HO133 (hon 6 (by kernel_rfl)))
   have HO137 := Aside0.mk (Q_HO137 (hon 15 (by kernel_rfl)))
   refine value_ (w1 := w') (v := .string (((((strOfNums y131) ++ t134) ++ (strOfNums y135)) ++ t138) ++ t139)) (by rfl) rfl ?_ ?_
   ·go_simp
    (try simp only [i64_w])
    try rfl
    (try (first | done | (simp only [ByteArray.size_append] at *; omega)))
   refine hK.out _ _ ⟨v132, v136, (by rw [ha.out]; exact putSel_upk 19 hb_ rfl rfl rfl), Q_BK128, Q_BK130, Q_HB, Q_HO133, Q_HO137⟩
  refine steps_cons ?_ ?_
  ·rintro b a w' ⟨v132, v136, ha, Q_BK128, Q_BK130, Q_HB, Q_HO133, Q_HO137⟩ hb_ hon hoff
   refine ⟨_, rfl, fun K hK => ?_⟩
   have e36 : a.tmps[36]? = some (.pointer (some ⟨gb130, 3, none⟩)) := by rw [ha]; exact (putSel_off rfl).trans rfl
   replace ha := Aside0.mk ha
   have BK128 := Aside0.mk Q_BK128
   have BK130 := Aside0.mk Q_BK130
   have HB := Aside0.mk Q_HB
   have hc0_ : w'.cell? ⟨gb130, 0, none⟩ = some (.int .i64 a0_3) := (blk_cell BK130.out 0).trans rfl
   have hc1_ : w'.cell? ⟨gb130, 1, none⟩ = some (.int .i64 a0_4) := (blk_cell BK130.out 1).trans rfl
   have hc2_ : w'.cell? ⟨gb130, 2, none⟩ = some (.int .i64 a0_5) := (blk_cell BK130.out 2).trans rfl
   have hc3_ : w'.cell? ⟨gb130, 3, none⟩ = some (.int .i64 a0_6) := (blk_cell BK130.out 3).trans rfl
   refine value_ (w1 := w') (v := .int .i64 a0_6) (by rfl) rfl ?_ ?_
   ·go_simp
    (try simp only [i64_w])
    try rfl
   refine hK.out _ _ ⟨v132, v136, (by rw [ha.out]; exact putSel_upk 20 hb_ rfl rfl rfl), Q_BK128, Q_BK130, Q_HB, Q_HO133, Q_HO137⟩
  refine steps_cons ?_ ?_
  ·rintro b a w' ⟨v132, v136, ha, Q_BK128, Q_BK130, Q_HB, Q_HO133, Q_HO137⟩ hb_ hon hoff
   refine ⟨_, rfl, fun K hK => ?_⟩
   have e37 : a.tmps[37]? = some (.int .i64 a0_6) := by rw [ha]; exact putSel_on (e := (27, 37, .int .i64 a0_6)) 20 rfl rfl (hon 27 (by kernel_rfl)) rfl
   replace ha := Aside0.mk ha
   have BK128 := Aside0.mk Q_BK128
   have BK130 := Aside0.mk Q_BK130
   have HB := Aside0.mk Q_HB
   refine goes_ Try.func127 (by kernel_rfl) rfl #[.int .i64 a0_6] (by rfl) rfl rfl (by first | (simp only [List.map_toArray, List.map_cons, List.map_nil, Act.eval, Array.getD_eq_getD_getElem?, Option.getD_some, e37]; done) | (simp only [List.map_toArray, List.map_cons, List.map_nil, Act.eval, Array.getD_eq_getD_getElem?, Option.getD_some, e37]; rfl)) ?_
   with_reducible refine (spec_l01Var.calls k a0_6 t140 _ A11.out).mono ?_
   rintro e w27 ⟨rfl, hb⟩
   refine ⟨_, rfl, ?_⟩
   have n0_ := Aside0.mk (blk_below (g := gb128) (o := .cells #[.int .i64 a0_0, .int .i64 a0_1, .int .i64 a0_2, .int .i64 a0_3, .int .i64 a0_4, .int .i64 a0_5, .int .i64 a0_6] 36 (0, 0)) (rk BK128.out) hb)
   have n1_ := Aside0.mk (blk_below (g := gb130) (o := .cells #[.int .i64 a0_3, .int .i64 a0_4, .int .i64 a0_5, .int .i64 a0_6] 34 (0, 0)) (rk BK130.out) hb)
   have n2_ := Aside0.mk (below_step (rb2 GE128.out GE130.out HB.out) hb)
   have z_HO133 := fun (h0_ : b 6 = true) => (show Kd.R (Kd.int .u8) 5 w27 w.heap.size (fun _ => True) v132 y131 from by first | exact (Kd.R_below (by (with_reducible repeat (first | apply Kd.R_alloc | apply Kd.R_drewN | apply Kd.R_drew)); exact (Q_HO133 h0_)) hb) | exact Kd.R_mono (Kd.R_below (by (with_reducible repeat (first | apply Kd.R_alloc | apply Kd.R_drewN | apply Kd.R_drew)); exact (Q_HO133 h0_)) hb) (fun _ h_ => by first | trivial | exact h_ | exact h_.1))
   have z_HO137 := fun (h0_ : b 15 = true) => (show Kd.R (Kd.int .u8) 5 w27 w.heap.size (fun _ => True) v136 y135 from by first | exact (Kd.R_below (by (with_reducible repeat (first | apply Kd.R_alloc | apply Kd.R_drewN | apply Kd.R_drew)); exact (Q_HO137 h0_)) hb) | exact Kd.R_mono (Kd.R_below (by (with_reducible repeat (first | apply Kd.R_alloc | apply Kd.R_drewN | apply Kd.R_drew)); exact (Q_HO137 h0_)) hb) (fun _ h_ => by first | trivial | exact h_ | exact h_.1))
   clear BK128
   clear BK130
   clear HB
   have BK128 := n0_
   have BK130 := n1_
   have HB := n2_
   clear n0_ n1_ n2_
   (try clear hb)
   (try clear hb2)
   (try clear hk)
   (try clear hi)
   refine hK.out _ _ ⟨v132, v136, (by rw [ha.out]; exact putSel_upk 21 hb_ rfl rfl rfl), (rk BK128.out), (rk BK130.out), (rb2 GE128.out GE130.out HB.out), z_HO133, z_HO137⟩
  refine steps_cons ?_ ?_
  ·rintro b a w' ⟨v132, v136, ha, Q_BK128, Q_BK130, Q_HB, Q_HO133, Q_HO137⟩ hb_ hon hoff
   refine ⟨_, rfl, fun K hK => ?_⟩
   have e35 : a.tmps[35]? = some (.string (((((strOfNums y131) ++ t134) ++ (strOfNums y135)) ++ t138) ++ t139)) := by rw [ha]; exact putSel_on (e := (25, 35, .string (((((strOfNums y131) ++ t134) ++ (strOfNums y135)) ++ t138) ++ t139))) 19 rfl rfl (hon 25 (by kernel_rfl)) rfl
   have e38 : a.tmps[38]? = some (.string t140) := by rw [ha]; exact putSel_on (e := (28, 38, .string t140)) 21 rfl rfl (hon 28 (by kernel_rfl)) rfl
   replace ha := Aside0.mk ha
   have BK128 := Aside0.mk Q_BK128
   have BK130 := Aside0.mk Q_BK130
   have HB := Aside0.mk Q_HB
   have HO133 := Aside0.mk (Q_HO133 (hon 6 (by kernel_rfl)))
   have HO137 := Aside0.mk (Q_HO137 (hon 15 (by kernel_rfl)))
   refine value_ (w1 := w') (v := .string ((((((strOfNums y131) ++ t134) ++ (strOfNums y135)) ++ t138) ++ t139) ++ t140)) (by rfl) rfl ?_ ?_
   ·go_simp
    (try simp only [i64_w])
    try rfl
    (try (first | done | (simp only [ByteArray.size_append] at *; omega)))
   refine hK.out _ _ ⟨v132, v136, (by rw [ha.out]; exact putSel_upk 22 hb_ rfl rfl rfl), Q_BK128, Q_BK130, Q_HB, Q_HO133, Q_HO137⟩
  refine steps_cons ?_ ?_
  ·rintro b a w' ⟨v132, v136, ha, Q_BK128, Q_BK130, Q_HB, Q_HO133, Q_HO137⟩ hb_ hon hoff
   refine ⟨_, rfl, fun K hK => ?_⟩
   have e39 : a.tmps[39]? = some (.string ((((((strOfNums y131) ++ t134) ++ (strOfNums y135)) ++ t138) ++ t139) ++ t140)) := by rw [ha]; exact putSel_on (e := (29, 39, .string ((((((strOfNums y131) ++ t134) ++ (strOfNums y135)) ++ t138) ++ t139) ++ t140))) 22 rfl rfl (hon 29 (by kernel_rfl)) rfl
   replace ha := Aside0.mk ha
   have BK128 := Aside0.mk Q_BK128
   have BK130 := Aside0.mk Q_BK130
   have HB := Aside0.mk Q_HB
   have HO133 := Aside0.mk (Q_HO133 (hon 6 (by kernel_rfl)))
   have HO137 := Aside0.mk (Q_HO137 (hon 15 (by kernel_rfl)))
   refine goes_ Try.func122 (by kernel_rfl) rfl #[.string ((((((strOfNums y131) ++ t134) ++ (strOfNums y135)) ++ t138) ++ t139) ++ t140)] (by rfl) rfl rfl (by first | (simp only [List.map_toArray, List.map_cons, List.map_nil, Act.eval, Array.getD_eq_getD_getElem?, Option.getD_some, e39]; done) | (simp only [List.map_toArray, List.map_cons, List.map_nil, Act.eval, Array.getD_eq_getD_getElem?, Option.getD_some, e39]; rfl)) ?_
   with_reducible refine (spec_Sealed.calls k ((((((strOfNums y131) ++ t134) ++ (strOfNums y135)) ++ t138) ++ t139) ++ t140) t141 t142 _ A13.out).mono ?_
   rintro e w32 ⟨rfl, hb⟩
   refine ⟨_, rfl, ?_⟩
   have n0_ := Aside0.mk (Kd.R_below (rr HO133.out) hb)
   have n1_ := Aside0.mk (Kd.R_below (rr HO137.out) hb)
   have n2_ := Aside0.mk (blk_below (g := gb128) (o := .cells #[.int .i64 a0_0, .int .i64 a0_1, .int .i64 a0_2, .int .i64 a0_3, .int .i64 a0_4, .int .i64 a0_5, .int .i64 a0_6] 36 (0, 0)) (rk BK128.out) hb)
   have n3_ := Aside0.mk (blk_below (g := gb130) (o := .cells #[.int .i64 a0_3, .int .i64 a0_4, .int .i64 a0_5, .int .i64 a0_6] 34 (0, 0)) (rk BK130.out) hb)
   have n4_ := Aside0.mk (below_step (rb2 GE128.out GE130.out HB.out) hb)
   clear HO133
   clear HO137
   clear BK128
   clear BK130
   clear HB
   have HO133 := n0_
   have HO137 := n1_
   have BK128 := n2_
   have BK130 := n3_
   have HB := n4_
   clear n0_ n1_ n2_ n3_ n4_
   (try clear hb)
   (try clear hb2)
   (try clear hk)
   (try clear hi)
   refine hK.out _ _ ⟨v132, v136, (by rw [ha.out]; exact putSel_upk 23 hb_ rfl rfl rfl), (rk BK128.out), (rk BK130.out), (rb2 GE128.out GE130.out HB.out), fun _ => (rr HO133.out), fun _ => (rr HO137.out)⟩
  refine steps_cons ?_ ?_
  ·rintro b a w' ⟨v132, v136, ha, Q_BK128, Q_BK130, Q_HB, Q_HO133, Q_HO137⟩ hb_ hon hoff
   refine ⟨_, rfl, fun K hK => ?_⟩
   have e40 : a.tmps[40]? = some (.tuple #[.string t141, .bool t142]) := by rw [ha]; exact putSel_on (e := (30, 40, .tuple #[.string t141, .bool t142])) 23 rfl rfl (hon 30 (by kernel_rfl)) rfl
   replace ha := Aside0.mk ha
   have BK128 := Aside0.mk Q_BK128
   have BK130 := Aside0.mk Q_BK130
   have HB := Aside0.mk Q_HB
   have HO133 := Aside0.mk (Q_HO133 (hon 6 (by kernel_rfl)))
   have HO137 := Aside0.mk (Q_HO137 (hon 15 (by kernel_rfl)))
   refine value_ (w1 := w') (v := .string t141) (by rfl) rfl ?_ ?_
   ·go_simp
    (try simp only [i64_w])
    try rfl
   refine hK.out _ _ ⟨v132, v136, (by rw [ha.out]; exact putSel_upk 24 hb_ rfl rfl rfl), Q_BK128, Q_BK130, Q_HB, Q_HO133, Q_HO137⟩
  refine steps_cons ?_ ?_
  ·rintro b a w' ⟨v132, v136, ha, Q_BK128, Q_BK130, Q_HB, Q_HO133, Q_HO137⟩ hb_ hon hoff
   refine ⟨_, rfl, fun K hK => ?_⟩
   have e40 : a.tmps[40]? = some (.tuple #[.string t141, .bool t142]) := by rw [ha]; exact putSel_on (e := (30, 40, .tuple #[.string t141, .bool t142])) 23 rfl rfl (hon 30 (by kernel_rfl)) rfl
   replace ha := Aside0.mk ha
   have BK128 := Aside0.mk Q_BK128
   have BK130 := Aside0.mk Q_BK130
   have HB := Aside0.mk Q_HB
   have HO133 := Aside0.mk (Q_HO133 (hon 6 (by kernel_rfl)))
   have HO137 := Aside0.mk (Q_HO137 (hon 15 (by kernel_rfl)))
   refine value_ (w1 := w') (v := .bool t142) (by rfl) rfl ?_ ?_
   ·go_simp
    (try simp only [i64_w])
    try rfl
   refine hK.out _ _ ⟨v132, v136, (by rw [ha.out]; exact putSel_upk 25 hb_ rfl rfl rfl), Q_BK128, Q_BK130, Q_HB, Q_HO133, Q_HO137⟩
  refine steps_cons ?_ ?_
  ·rintro b a w' ⟨v132, v136, ha, Q_BK128, Q_BK130, Q_HB, Q_HO133, Q_HO137⟩ hb_ hon hoff
   refine ⟨_, rfl, fun K hK => ?_⟩
   have e41 : a.tmps[41]? = some (.string t141) := by rw [ha]; exact putSel_on (e := (31, 41, .string t141)) 24 rfl rfl (hon 31 (by kernel_rfl)) rfl
   replace ha := Aside0.mk ha
   have BK128 := Aside0.mk Q_BK128
   have BK130 := Aside0.mk Q_BK130
   have HB := Aside0.mk Q_HB
   have HO133 := Aside0.mk (Q_HO133 (hon 6 (by kernel_rfl)))
   have HO137 := Aside0.mk (Q_HO137 (hon 15 (by kernel_rfl)))
   refine value_ (w1 := w') (v := .string t141) (by rfl) rfl ?_ ?_
   ·go_simp
    (try simp only [i64_w])
    try rfl
   refine hK.out _ _ ⟨v132, v136, (by rw [ha.out]; exact putSel_upk 26 hb_ rfl rfl rfl), Q_BK128, Q_BK130, Q_HB, Q_HO133, Q_HO137⟩
  refine steps_cons ?_ ?_
  ·rintro b a w' ⟨v132, v136, ha, Q_BK128, Q_BK130, Q_HB, Q_HO133, Q_HO137⟩ hb_ hon hoff
   refine ⟨_, rfl, fun K hK => ?_⟩
   have e42 : a.tmps[42]? = some (.bool t142) := by rw [ha]; exact putSel_on (e := (32, 42, .bool t142)) 25 rfl rfl (hon 32 (by kernel_rfl)) rfl
   replace ha := Aside0.mk ha
   have BK128 := Aside0.mk Q_BK128
   have BK130 := Aside0.mk Q_BK130
   have HB := Aside0.mk Q_HB
   have HO133 := Aside0.mk (Q_HO133 (hon 6 (by kernel_rfl)))
   have HO137 := Aside0.mk (Q_HO137 (hon 15 (by kernel_rfl)))
   refine value_ (w1 := w') (v := .bool t142) (by rfl) rfl ?_ ?_
   ·go_simp
    (try simp only [i64_w])
    try rfl
   refine hK.out _ _ ⟨v132, v136, (by rw [ha.out]; exact putSel_upk 27 hb_ rfl rfl rfl), Q_BK128, Q_BK130, Q_HB, Q_HO133, Q_HO137⟩
  exact steps_nil
 rintro b a w32 hall ⟨v132, v136, ha, Q_BK128, Q_BK130, Q_HB, Q_HO133, Q_HO137⟩
 clear BK128 BK130 HB
 have hb1_ := hall 1 (by kernel_rfl)
 have hb2_ := hall 2 (by kernel_rfl)
 have hb4_ := hall 4 (by kernel_rfl)
 have hb5_ := hall 5 (by kernel_rfl)
 have hb6_ := hall 6 (by kernel_rfl)
 have hb7_ := hall 7 (by kernel_rfl)
 have hb9_ := hall 9 (by kernel_rfl)
 have hb10_ := hall 10 (by kernel_rfl)
 have hb11_ := hall 11 (by kernel_rfl)
 have hb13_ := hall 13 (by kernel_rfl)
 have hb14_ := hall 14 (by kernel_rfl)
 have hb15_ := hall 15 (by kernel_rfl)
 have hb16_ := hall 16 (by kernel_rfl)
 have hb17_ := hall 17 (by kernel_rfl)
 have hb19_ := hall 19 (by kernel_rfl)
 have hb20_ := hall 20 (by kernel_rfl)
 have hb21_ := hall 21 (by kernel_rfl)
 have hb23_ := hall 23 (by kernel_rfl)
 have hb24_ := hall 24 (by kernel_rfl)
 have hb25_ := hall 25 (by kernel_rfl)
 have hb27_ := hall 27 (by kernel_rfl)
 have hb28_ := hall 28 (by kernel_rfl)
 have hb29_ := hall 29 (by kernel_rfl)
 have hb30_ := hall 30 (by kernel_rfl)
 have hb31_ := hall 31 (by kernel_rfl)
 have hb32_ := hall 32 (by kernel_rfl)
 have hb33_ := hall 33 (by kernel_rfl)
 have hb34_ := hall 34 (by kernel_rfl)
 subst ha
 simp only [putSel, hb1_, hb2_, hb4_, hb5_, hb6_, hb7_, hb9_, hb10_, hb11_, hb13_, hb14_, hb15_, hb16_, hb17_, hb19_, hb20_, hb21_, hb23_, hb24_, hb25_, hb27_, hb28_, hb29_, hb30_, hb31_, hb32_, hb33_, hb34_, if_true, Act.put, List.setIfInBounds_toArray, List.set_cons_zero, List.set_cons_succ]
 have BK128 := Aside0.mk Q_BK128
 clear Q_BK128
 have BK130 := Aside0.mk Q_BK130
 clear Q_BK130
 have HB := Aside0.mk Q_HB
 clear Q_HB
 have HO133 := Aside0.mk (Q_HO133 hb6_)
 clear Q_HO133
 have HO137 := Aside0.mk (Q_HO137 hb15_)
 clear Q_HO137
 clear hall hb1_ hb2_ hb4_ hb5_ hb6_ hb7_ hb9_ hb10_ hb11_ hb13_ hb14_ hb15_ hb16_ hb17_ hb19_ hb20_ hb21_ hb23_ hb24_ hb25_ hb27_ hb28_ hb29_ hb30_ hb31_ hb32_ hb33_ hb34_
 try go_wp2
 go_ret2
 exact ⟨by first | rfl | (simp [errW_none, errW_some] <;> rfl) | (simp [*, errW_none, errW_some] <;> rfl), by repeat (first | (with_reducible first | exact HB.out | apply below_alloc | apply pw_below_drewN | apply below_drew1 | refine below_set ?_ GE128.out | refine below_set ?_ GE130.out) | exact HB.out)⟩

end Go.Proofs.Ythdeicbkimlnhaa.PFnExactReadLog
