import Derived.Test.YtfobhfnkjmfbmaaPFnExactLogTextx0
import Derived.Test.YtfobhfnkjmfbmaaPFnExactLogTextx4
import Derived.Test.YtfobhfnkjmfbmaaPFnExactLogTextx5
namespace Go.Proofs.Ytfobhfnkjmfbmaa.PFnExactLogText
open Go.RowKit Go.Proofs.YtfobhfnkjmfbmaaW.PrintWords Go.Proofs.YtfobhfnkjmfbmaaW.PrintLast Go.Proofs.YtfobhfnkjmfbmaaW.PrintMore Go.Proofs.YtfobhfnkjmfbmaaH
attribute [local go_sem] max2_int min2_int max_two min_two max_three min_three max_four min_four   -- for this text's walks alone
set_option linter.unusedVariables false
set_option linter.unusedSimpArgs false

/-! ### impl_FrameText: function 185 -/
def impl_FrameText.f (k : Nat) (a0_0 : Int) (a0_1 : Int) (a0_2 : Int) (a0_3 : Int) (a0_4 : Int) (a0_5 : Int) (a0_6 : Int) : Option (ByteArray × Bool) := (impl_FrameOk.f k a0_0 a0_1 a0_2 a0_3 a0_4 a0_5 a0_6).bind fun t197 => (if t197 = true then ((impl_VarText.f k a0_2).bind fun bt198 => ((impl_VarText.f k a0_6).bind fun bt200 => ((some (([(a0_0) % 256, (a0_1) % 256] : List Int) : List Int)).bind fun y202 => (if (strOfNums y202).size + bt198.1.size ≤ 9223372036854775807 then ((some (([(a0_3) % 256] : List Int) : List Int)).bind fun y205 => (if ((strOfNums y202) ++ bt198.1).size + (strOfNums y205).size ≤ 9223372036854775807 then ((impl_four.f a0_4).bind fun t208 => (if (((strOfNums y202) ++ bt198.1) ++ (strOfNums y205)).size + t208.size ≤ 9223372036854775807 then ((impl_four.f a0_5).bind fun t209 => (if ((((strOfNums y202) ++ bt198.1) ++ (strOfNums y205)) ++ t208).size + t209.size ≤ 9223372036854775807 then (if (((((strOfNums y202) ++ bt198.1) ++ (strOfNums y205)) ++ t208) ++ t209).size + bt200.1.size ≤ 9223372036854775807 then ((impl_Sealed.f k ((((((strOfNums y202) ++ bt198.1) ++ (strOfNums y205)) ++ t208) ++ t209) ++ bt200.1)).bind fun bt210 => (some (bt210.1, bt210.2))) else (none)) else (none))) else (none))) else (none))) else (none))))) else (some ((⟨#[]⟩ : ByteArray), false)))
theorem impl_FrameText.mono : ∀ a0 a1 a2 a3 a4 a5 a6 k, LeO (impl_FrameText.f k a0 a1 a2 a3 a4 a5 a6) (impl_FrameText.f (k + 1) a0 a1 a2 a3 a4 a5 a6) := by
 intro a0 a1 a2 a3 a4 a5 a6 k
 unfold impl_FrameText.f
 repeat' first
   | (with_reducible exact impl_FrameOk.mono _ _ _ _ _ _ _ _)
   | (with_reducible exact impl_Sealed.mono _ _)
   | (with_reducible exact impl_VarText.mono _ _)
   | (with_reducible exact LeO.refl _)
   | (with_reducible exact LeO.none _)
   | (with_reducible refine LeO.ite ?_ ?_)
   | (with_reducible refine LeO.bind ?_ (fun _ => ?_))
   | exact impl_FrameOk.mono _ _ _ _ _ _ _ _
   | exact impl_Sealed.mono _ _
   | exact impl_VarText.mono _ _
   | exact LeO.none _
   | refine LeO.ite ?_ ?_
   | refine LeO.bind ?_ (fun _ => ?_)
def impl_FrameText.T5 : Bool × List (List Nat × List Nat) := (true, [([], []), ([0], [0]), ([1], [1]), ([], []), ([3], [3]), ([4], [4]), ([2, 5], [2, 5]), ([6], [6]), ([], []), ([7, 8], [7, 8]), ([], []), ([10], [10]), ([11], [11]), ([12], [12]), ([13], [13]), ([14], [14]), ([9, 15], [9, 15]), ([], []), ([17], [17]), ([18], [18]), ([19], [19]), ([16, 20], [16, 20]), ([], []), ([22], [22]), ([23], [23]), ([24, 20], [24]), ([21, 25], [21, 25]), ([], []), ([26, 27], [26, 27]), ([28, 25], [28]), ([29], [29]), ([29], [29]), ([30, 29, 0, 1, 2, 3, 4, 5, 6, 7, 8, 9, 10, 11, 12, 13, 14, 15, 16, 17, 18, 19, 20, 21, 22, 23, 24, 25, 26, 27, 28, 29, 30, 31], [30]), ([31, 32, 0, 1, 2, 3, 4, 5, 6, 7, 8, 9, 10, 11, 12, 13, 14, 15, 16, 17, 18, 19, 20, 21, 22, 23, 24, 25, 26, 27, 28, 29, 30, 31, 32], [31])])
def impl_FrameText.B5 : List Nat := [0, 1, 3, 0, 8, 24, 63, 127, 0, 511, 0, 1024, 3072, 7168, 15360, 31744, 65535, 0, 131072, 393216, 917504, 2097151, 0, 4194304, 12582912, 31326208, 67108863, 0, 268435455, 536870911, 1073741823, 1073741823, 4294967295, 8589934591]
theorem impl_FrameText.tab5 : rtab .any (opsOf Try.f185 5) = impl_FrameText.T5 := by kernel_rfl
theorem impl_FrameText.bits5 : waitsOk impl_FrameText.T5.2 impl_FrameText.B5 = true := by kernel_rfl
set_option maxHeartbeats 8000000 in
set_option maxRecDepth 100000 in
theorem impl_FrameText.calls (k : Nat) (a0_0 : Int) (a0_1 : Int) (a0_2 : Int) (a0_3 : Int) (a0_4 : Int) (a0_5 : Int) (a0_6 : Int) (r1 : ByteArray) (r2 : Bool) (w : World) (h : impl_FrameText.f k a0_0 a0_1 a0_2 a0_3 a0_4 a0_5 a0_6 = some (r1, r2)) :
  Calls Try.prog 185 #[.agg #[.int .i64 a0_0, .int .i64 a0_1, .int .i64 a0_2, .int .i64 a0_3, .int .i64 a0_4, .int .i64 a0_5, .int .i64 a0_6]] w fun e w' => e = .returned (.tuple #[.string r1, .bool r2]) ∧ Below w.heap.size w w' := by
 have hu31 := Try.underlying31
 have HB := Aside0.mk (Below.refl w.heap.size w)
 have H : ((impl_FrameOk.f k a0_0 a0_1 a0_2 a0_3 a0_4 a0_5 a0_6).bind fun t197 => (if t197 = true then ((impl_VarText.f k a0_2).bind fun bt198 => ((impl_VarText.f k a0_6).bind fun bt200 => ((some (([(a0_0) % 256, (a0_1) % 256] : List Int) : List Int)).bind fun y202 => (if (strOfNums y202).size + bt198.1.size ≤ 9223372036854775807 then ((some (([(a0_3) % 256] : List Int) : List Int)).bind fun y205 => (if ((strOfNums y202) ++ bt198.1).size + (strOfNums y205).size ≤ 9223372036854775807 then ((impl_four.f a0_4).bind fun t208 => (if (((strOfNums y202) ++ bt198.1) ++ (strOfNums y205)).size + t208.size ≤ 9223372036854775807 then ((impl_four.f a0_5).bind fun t209 => (if ((((strOfNums y202) ++ bt198.1) ++ (strOfNums y205)) ++ t208).size + t209.size ≤ 9223372036854775807 then (if (((((strOfNums y202) ++ bt198.1) ++ (strOfNums y205)) ++ t208) ++ t209).size + bt200.1.size ≤ 9223372036854775807 then ((impl_Sealed.f k ((((((strOfNums y202) ++ bt198.1) ++ (strOfNums y205)) ++ t208) ++ t209) ++ bt200.1)).bind fun bt210 => (some (bt210.1, bt210.2))) else (none)) else (none))) else (none))) else (none))) else (none))))) else (some ((⟨#[]⟩ : ByteArray), false)))) = some (r1, r2) := h
 clear h
 replace H := Option.bind_eq_some_iff.mp H
 obtain ⟨t197, A20, H⟩ := H
 replace H : (if t197 = true then ((impl_VarText.f k a0_2).bind fun bt198 => ((impl_VarText.f k a0_6).bind fun bt200 => ((some (([(a0_0) % 256, (a0_1) % 256] : List Int) : List Int)).bind fun y202 => (if (strOfNums y202).size + bt198.1.size ≤ 9223372036854775807 then ((some (([(a0_3) % 256] : List Int) : List Int)).bind fun y205 => (if ((strOfNums y202) ++ bt198.1).size + (strOfNums y205).size ≤ 9223372036854775807 then ((impl_four.f a0_4).bind fun t208 => (if (((strOfNums y202) ++ bt198.1) ++ (strOfNums y205)).size + t208.size ≤ 9223372036854775807 then ((impl_four.f a0_5).bind fun t209 => (if ((((strOfNums y202) ++ bt198.1) ++ (strOfNums y205)) ++ t208).size + t209.size ≤ 9223372036854775807 then (if (((((strOfNums y202) ++ bt198.1) ++ (strOfNums y205)) ++ t208) ++ t209).size + bt200.1.size ≤ 9223372036854775807 then ((impl_Sealed.f k ((((((strOfNums y202) ++ bt198.1) ++ (strOfNums y205)) ++ t208) ++ t209) ++ bt200.1)).bind fun bt210 => (some (bt210.1, bt210.2))) else (none)) else (none))) else (none))) else (none))) else (none))))) else (some ((⟨#[]⟩ : ByteArray), false))) = some (r1, r2) := H
 have A2 := Aside0.mk A20
 clear A20
 by_cases c3 : t197 = true
 rotate_left
 ·replace c3 := Bool.eq_false_iff.mpr c3
  subst c3
  have H1 : (some ((⟨#[]⟩ : ByteArray), false)) = some (r1, r2) := by rw [if_neg (show ¬ (false = true) by decide)] at H; exact H
  clear H
  have H := H1
  clear H1
  simp only [Option.some.injEq, Prod.mk.injEq] at H
  obtain ⟨rfl, rfl⟩ := H
  go_enter Try.func185, Try.ntmps185
  go_wp2_with (first | ((with_reducible refine gate_dst (N := 1) rfl ?_); refine box_event ?hg (N := 1) ?hd (cs := #[.int .i64 a0_0, .int .i64 a0_1, .int .i64 a0_2, .int .i64 a0_3, .int .i64 a0_4, .int .i64 a0_5, .int .i64 a0_6]) (t := 31) ?hr ?_; (case hd => rfl); (case hg => rfl); (case hr => first | (go_simp; done) | (go_simp; rfl)); intro gb196 hg w30 hbox hb; have n0_ := Aside0.mk (below_step (rb HB.out) hb); have n1_ := Aside0.mk (hbox); have n2_ := Aside0.mk ((by rw [hg]; exact (below_size (rb HB.out)) : w.heap.size ≤ gb196)); have n3_ := Aside0.mk ((by rw [hg]; exact (below_size (rb HB.out)) : w.heap.size ≤ gb196)); clear HB; have HB := n0_; have BK196 := n1_; have GW196 := n2_; have GE196 := n3_; clear n0_ n1_ n2_ n3_; clear hb hbox hg; have hcz31_0 : w30.cell? ⟨gb196, 0, none⟩ = some (.int .i64 a0_0) := (blk_cell BK196.out 0).trans rfl; have hcz31_1 : w30.cell? ⟨gb196, 1, none⟩ = some (.int .i64 a0_1) := (blk_cell BK196.out 1).trans rfl; have hcz31_2 : w30.cell? ⟨gb196, 2, none⟩ = some (.int .i64 a0_2) := (blk_cell BK196.out 2).trans rfl; have hcz31_3 : w30.cell? ⟨gb196, 3, none⟩ = some (.int .i64 a0_3) := (blk_cell BK196.out 3).trans rfl; have hcz31_4 : w30.cell? ⟨gb196, 4, none⟩ = some (.int .i64 a0_4) := (blk_cell BK196.out 4).trans rfl; have hcz31_5 : w30.cell? ⟨gb196, 5, none⟩ = some (.int .i64 a0_5) := (blk_cell BK196.out 5).trans rfl; have hcz31_6 : w30.cell? ⟨gb196, 6, none⟩ = some (.int .i64 a0_6) := (blk_cell BK196.out 6).trans rfl; have hfz31_0 := blk_frozen BK196.out 0; have hfz31_1 := blk_frozen BK196.out 1; have hfz31_2 := blk_frozen BK196.out 2; have hfz31_3 := blk_frozen BK196.out 3; have hfz31_4 := blk_frozen BK196.out 4; have hfz31_5 := blk_frozen BK196.out 5; have hfz31_6 := blk_frozen BK196.out 6) | ((with_reducible refine gate_callee (f := 146) rfl ?_); refine goesL_ (some 9) rfl rfl Try.func146 (by kernel_rfl) rfl #[.agg #[.int .i64 a0_0, .int .i64 a0_1, .int .i64 a0_2, .int .i64 a0_3, .int .i64 a0_4, .int .i64 a0_5, .int .i64 a0_6]] rfl (by (try simp only [List.map_toArray, List.map_cons, List.map_nil]); first | done | rfl | (simp only [List.length_drop, List.length_take]; rfl)) ?_; (with_reducible refine (impl_FrameOk.calls k a0_0 a0_1 a0_2 a0_3 a0_4 a0_5 a0_6 false _ A2.out).mono ?_); rintro e w32 ⟨rfl, hb⟩; refine ⟨_, rfl, ?_⟩; have n0_ := Aside0.mk (blk_below (g := gb196) (o := .cells #[.int .i64 a0_0, .int .i64 a0_1, .int .i64 a0_2, .int .i64 a0_3, .int .i64 a0_4, .int .i64 a0_5, .int .i64 a0_6] 31 (0, 0)) (rk BK196.out) hb); have n1_ := Aside0.mk (below_step (rb1 GE196.out HB.out) hb); clear BK196; clear HB; have BK196 := n0_; have HB := n1_; clear n0_ n1_; (try clear hb); (try clear hb2); (try clear hk); (try clear hi)))
  go_ret2
  exact ⟨by first | rfl | (simp [errW_none, errW_some] <;> rfl) | (simp [*, errW_none, errW_some] <;> rfl), by repeat (first | (with_reducible first | exact HB.out | apply below_alloc | apply pw_below_drewN | apply below_drew1 | refine below_set ?_ GE196.out) | exact HB.out)⟩
 subst c3
 have H1 : ((impl_VarText.f k a0_2).bind fun bt198 => ((impl_VarText.f k a0_6).bind fun bt200 => ((some (([(a0_0) % 256, (a0_1) % 256] : List Int) : List Int)).bind fun y202 => (if (strOfNums y202).size + bt198.1.size ≤ 9223372036854775807 then ((some (([(a0_3) % 256] : List Int) : List Int)).bind fun y205 => (if ((strOfNums y202) ++ bt198.1).size + (strOfNums y205).size ≤ 9223372036854775807 then ((impl_four.f a0_4).bind fun t208 => (if (((strOfNums y202) ++ bt198.1) ++ (strOfNums y205)).size + t208.size ≤ 9223372036854775807 then ((impl_four.f a0_5).bind fun t209 => (if ((((strOfNums y202) ++ bt198.1) ++ (strOfNums y205)) ++ t208).size + t209.size ≤ 9223372036854775807 then (if (((((strOfNums y202) ++ bt198.1) ++ (strOfNums y205)) ++ t208) ++ t209).size + bt200.1.size ≤ 9223372036854775807 then ((impl_Sealed.f k ((((((strOfNums y202) ++ bt198.1) ++ (strOfNums y205)) ++ t208) ++ t209) ++ bt200.1)).bind fun bt210 => (some (bt210.1, bt210.2))) else (none)) else (none))) else (none))) else (none))) else (none))))) = some (r1, r2) := by rw [if_pos rfl] at H; exact H
 clear H
 have H := H1
 clear H1
 replace H := Option.bind_eq_some_iff.mp H
 obtain ⟨⟨t198, t199⟩, A40, H⟩ := H
 replace H : ((impl_VarText.f k a0_6).bind fun bt200 => ((some (([(a0_0) % 256, (a0_1) % 256] : List Int) : List Int)).bind fun y202 => (if (strOfNums y202).size + t198.size ≤ 9223372036854775807 then ((some (([(a0_3) % 256] : List Int) : List Int)).bind fun y205 => (if ((strOfNums y202) ++ t198).size + (strOfNums y205).size ≤ 9223372036854775807 then ((impl_four.f a0_4).bind fun t208 => (if (((strOfNums y202) ++ t198) ++ (strOfNums y205)).size + t208.size ≤ 9223372036854775807 then ((impl_four.f a0_5).bind fun t209 => (if ((((strOfNums y202) ++ t198) ++ (strOfNums y205)) ++ t208).size + t209.size ≤ 9223372036854775807 then (if (((((strOfNums y202) ++ t198) ++ (strOfNums y205)) ++ t208) ++ t209).size + bt200.1.size ≤ 9223372036854775807 then ((impl_Sealed.f k ((((((strOfNums y202) ++ t198) ++ (strOfNums y205)) ++ t208) ++ t209) ++ bt200.1)).bind fun bt210 => (some (bt210.1, bt210.2))) else (none)) else (none))) else (none))) else (none))) else (none)))) = some (r1, r2) := H
 have A4 := Aside0.mk A40
 clear A40
 replace H := Option.bind_eq_some_iff.mp H
 obtain ⟨⟨t200, t201⟩, A50, H⟩ := H
 replace H : ((some (([(a0_0) % 256, (a0_1) % 256] : List Int) : List Int)).bind fun y202 => (if (strOfNums y202).size + t198.size ≤ 9223372036854775807 then ((some (([(a0_3) % 256] : List Int) : List Int)).bind fun y205 => (if ((strOfNums y202) ++ t198).size + (strOfNums y205).size ≤ 9223372036854775807 then ((impl_four.f a0_4).bind fun t208 => (if (((strOfNums y202) ++ t198) ++ (strOfNums y205)).size + t208.size ≤ 9223372036854775807 then ((impl_four.f a0_5).bind fun t209 => (if ((((strOfNums y202) ++ t198) ++ (strOfNums y205)) ++ t208).size + t209.size ≤ 9223372036854775807 then (if (((((strOfNums y202) ++ t198) ++ (strOfNums y205)) ++ t208) ++ t209).size + t200.size ≤ 9223372036854775807 then ((impl_Sealed.f k ((((((strOfNums y202) ++ t198) ++ (strOfNums y205)) ++ t208) ++ t209) ++ t200)).bind fun bt210 => (some (bt210.1, bt210.2))) else (none)) else (none))) else (none))) else (none))) else (none))) = some (r1, r2) := H
 have A5 := Aside0.mk A50
 clear A50
 obtain ⟨y202, hy202⟩ : ∃ y_ : List Int, y_ = (([(a0_0) % 256, (a0_1) % 256] : List Int)) := ⟨_, rfl⟩
 replace H : (if (strOfNums y202).size + t198.size ≤ 9223372036854775807 then ((some (([(a0_3) % 256] : List Int) : List Int)).bind fun y205 => (if ((strOfNums y202) ++ t198).size + (strOfNums y205).size ≤ 9223372036854775807 then ((impl_four.f a0_4).bind fun t208 => (if (((strOfNums y202) ++ t198) ++ (strOfNums y205)).size + t208.size ≤ 9223372036854775807 then ((impl_four.f a0_5).bind fun t209 => (if ((((strOfNums y202) ++ t198) ++ (strOfNums y205)) ++ t208).size + t209.size ≤ 9223372036854775807 then (if (((((strOfNums y202) ++ t198) ++ (strOfNums y205)) ++ t208) ++ t209).size + t200.size ≤ 9223372036854775807 then ((impl_Sealed.f k ((((((strOfNums y202) ++ t198) ++ (strOfNums y205)) ++ t208) ++ t209) ++ t200)).bind fun bt210 => (some (bt210.1, bt210.2))) else (none)) else (none))) else (none))) else (none))) else (none)) = some (r1, r2) := by first | (rw [hy202]; with_reducible exact H) | (have H2_ := (Option.bind_some _ _).symm.trans H; rw [hy202]; with_reducible exact H2_) | (have H2_ := (Option.bind_some _ _).symm.trans H; with_reducible exact H2_) | with_reducible exact H | (rw [hy202]; exact H) | exact H
 have Ny202 := Aside0.mk hy202
 clear hy202
 by_cases c6 : (strOfNums y202).size + t198.size ≤ 9223372036854775807
 rotate_left
 ·rw [if_neg c6] at H
  exact absurd H (by simp)
 rw [if_pos c6] at H
 have c6b0 := eq_true c6
 have c6b1 : decide ((strOfNums y202).size + t198.size ≤ 9223372036854775807) = true := decide_eq_true c6
 try have c6b2 : (9223372036854775807 < (strOfNums y202).size + t198.size) = False := eq_false (Nat.not_lt.2 c6)
 obtain ⟨y205, hy205⟩ : ∃ y_ : List Int, y_ = (([(a0_3) % 256] : List Int)) := ⟨_, rfl⟩
 replace H : (if ((strOfNums y202) ++ t198).size + (strOfNums y205).size ≤ 9223372036854775807 then ((impl_four.f a0_4).bind fun t208 => (if (((strOfNums y202) ++ t198) ++ (strOfNums y205)).size + t208.size ≤ 9223372036854775807 then ((impl_four.f a0_5).bind fun t209 => (if ((((strOfNums y202) ++ t198) ++ (strOfNums y205)) ++ t208).size + t209.size ≤ 9223372036854775807 then (if (((((strOfNums y202) ++ t198) ++ (strOfNums y205)) ++ t208) ++ t209).size + t200.size ≤ 9223372036854775807 then ((impl_Sealed.f k ((((((strOfNums y202) ++ t198) ++ (strOfNums y205)) ++ t208) ++ t209) ++ t200)).bind fun bt210 => (some (bt210.1, bt210.2))) else (none)) else (none))) else (none))) else (none)) = some (r1, r2) := by first | (rw [hy205]; with_reducible exact H) | (have H2_ := (Option.bind_some _ _).symm.trans H; rw [hy205]; with_reducible exact H2_) | (have H2_ := (Option.bind_some _ _).symm.trans H; with_reducible exact H2_) | with_reducible exact H | (rw [hy205]; exact H) | exact H
 have Ny205 := Aside0.mk hy205
 clear hy205
 by_cases c7 : ((strOfNums y202) ++ t198).size + (strOfNums y205).size ≤ 9223372036854775807
 rotate_left
 ·rw [if_neg c7] at H
  exact absurd H (by simp)
 rw [if_pos c7] at H
 have c7b0 := eq_true c7
 have c7b1 : decide (((strOfNums y202) ++ t198).size + (strOfNums y205).size ≤ 9223372036854775807) = true := decide_eq_true c7
 try have c7b2 : (9223372036854775807 < ((strOfNums y202) ++ t198).size + (strOfNums y205).size) = False := eq_false (Nat.not_lt.2 c7)
 replace H := Option.bind_eq_some_iff.mp H
 obtain ⟨t208, A80, H⟩ := H
 replace H : (if (((strOfNums y202) ++ t198) ++ (strOfNums y205)).size + t208.size ≤ 9223372036854775807 then ((impl_four.f a0_5).bind fun t209 => (if ((((strOfNums y202) ++ t198) ++ (strOfNums y205)) ++ t208).size + t209.size ≤ 9223372036854775807 then (if (((((strOfNums y202) ++ t198) ++ (strOfNums y205)) ++ t208) ++ t209).size + t200.size ≤ 9223372036854775807 then ((impl_Sealed.f k ((((((strOfNums y202) ++ t198) ++ (strOfNums y205)) ++ t208) ++ t209) ++ t200)).bind fun bt210 => (some (bt210.1, bt210.2))) else (none)) else (none))) else (none)) = some (r1, r2) := H
 have A8 := Aside0.mk A80
 clear A80
 by_cases c9 : (((strOfNums y202) ++ t198) ++ (strOfNums y205)).size + t208.size ≤ 9223372036854775807
 rotate_left
 ·rw [if_neg c9] at H
  exact absurd H (by simp)
 rw [if_pos c9] at H
 have c9b0 := eq_true c9
 have c9b1 : decide ((((strOfNums y202) ++ t198) ++ (strOfNums y205)).size + t208.size ≤ 9223372036854775807) = true := decide_eq_true c9
 try have c9b2 : (9223372036854775807 < (((strOfNums y202) ++ t198) ++ (strOfNums y205)).size + t208.size) = False := eq_false (Nat.not_lt.2 c9)
 replace H := Option.bind_eq_some_iff.mp H
 obtain ⟨t209, A100, H⟩ := H
 replace H : (if ((((strOfNums y202) ++ t198) ++ (strOfNums y205)) ++ t208).size + t209.size ≤ 9223372036854775807 then (if (((((strOfNums y202) ++ t198) ++ (strOfNums y205)) ++ t208) ++ t209).size + t200.size ≤ 9223372036854775807 then ((impl_Sealed.f k ((((((strOfNums y202) ++ t198) ++ (strOfNums y205)) ++ t208) ++ t209) ++ t200)).bind fun bt210 => (some (bt210.1, bt210.2))) else (none)) else (none)) = some (r1, r2) := H
 have A10 := Aside0.mk A100
 clear A100
 by_cases c11 : ((((strOfNums y202) ++ t198) ++ (strOfNums y205)) ++ t208).size + t209.size ≤ 9223372036854775807
 rotate_left
 ·rw [if_neg c11] at H
  exact absurd H (by simp)
 rw [if_pos c11] at H
 have c11b0 := eq_true c11
 have c11b1 : decide (((((strOfNums y202) ++ t198) ++ (strOfNums y205)) ++ t208).size + t209.size ≤ 9223372036854775807) = true := decide_eq_true c11
 try have c11b2 : (9223372036854775807 < ((((strOfNums y202) ++ t198) ++ (strOfNums y205)) ++ t208).size + t209.size) = False := eq_false (Nat.not_lt.2 c11)
 by_cases c12 : (((((strOfNums y202) ++ t198) ++ (strOfNums y205)) ++ t208) ++ t209).size + t200.size ≤ 9223372036854775807
 rotate_left
 ·rw [if_neg c12] at H
  exact absurd H (by simp)
 rw [if_pos c12] at H
 have c12b0 := eq_true c12
 have c12b1 : decide ((((((strOfNums y202) ++ t198) ++ (strOfNums y205)) ++ t208) ++ t209).size + t200.size ≤ 9223372036854775807) = true := decide_eq_true c12
 try have c12b2 : (9223372036854775807 < (((((strOfNums y202) ++ t198) ++ (strOfNums y205)) ++ t208) ++ t209).size + t200.size) = False := eq_false (Nat.not_lt.2 c12)
 replace H := Option.bind_eq_some_iff.mp H
 obtain ⟨⟨t210, t211⟩, A130, H⟩ := H
 replace H : (some (t210, t211)) = some (r1, r2) := H
 have A13 := Aside0.mk A130
 clear A130
 simp only [Option.some.injEq, Prod.mk.injEq] at H
 obtain ⟨rfl, rfl⟩ := H
 go_enter Try.func185, Try.ntmps185
 try go_wp2_with (first | ((with_reducible refine gate_dst (N := 1) rfl ?_); refine box_event ?hg (N := 1) ?hd (cs := #[.int .i64 a0_0, .int .i64 a0_1, .int .i64 a0_2, .int .i64 a0_3, .int .i64 a0_4, .int .i64 a0_5, .int .i64 a0_6]) (t := 31) ?hr ?_; (case hd => rfl); (case hg => rfl); (case hr => first | (go_simp; done) | (go_simp; rfl)); intro gb196 hg w14 hbox hb; have n0_ := Aside0.mk (below_step (rb HB.out) hb); have n1_ := Aside0.mk (hbox); have n2_ := Aside0.mk ((by rw [hg]; exact (below_size (rb HB.out)) : w.heap.size ≤ gb196)); have n3_ := Aside0.mk ((by rw [hg]; exact (below_size (rb HB.out)) : w.heap.size ≤ gb196)); clear HB; have HB := n0_; have BK196 := n1_; have GW196 := n2_; have GE196 := n3_; clear n0_ n1_ n2_ n3_; clear hb hbox hg; have hcz15_0 : w14.cell? ⟨gb196, 0, none⟩ = some (.int .i64 a0_0) := (blk_cell BK196.out 0).trans rfl; have hcz15_1 : w14.cell? ⟨gb196, 1, none⟩ = some (.int .i64 a0_1) := (blk_cell BK196.out 1).trans rfl; have hcz15_2 : w14.cell? ⟨gb196, 2, none⟩ = some (.int .i64 a0_2) := (blk_cell BK196.out 2).trans rfl; have hcz15_3 : w14.cell? ⟨gb196, 3, none⟩ = some (.int .i64 a0_3) := (blk_cell BK196.out 3).trans rfl; have hcz15_4 : w14.cell? ⟨gb196, 4, none⟩ = some (.int .i64 a0_4) := (blk_cell BK196.out 4).trans rfl; have hcz15_5 : w14.cell? ⟨gb196, 5, none⟩ = some (.int .i64 a0_5) := (blk_cell BK196.out 5).trans rfl; have hcz15_6 : w14.cell? ⟨gb196, 6, none⟩ = some (.int .i64 a0_6) := (blk_cell BK196.out 6).trans rfl; have hfz15_0 := blk_frozen BK196.out 0; have hfz15_1 := blk_frozen BK196.out 1; have hfz15_2 := blk_frozen BK196.out 2; have hfz15_3 := blk_frozen BK196.out 3; have hfz15_4 := blk_frozen BK196.out 4; have hfz15_5 := blk_frozen BK196.out 5; have hfz15_6 := blk_frozen BK196.out 6) | ((with_reducible refine gate_callee (f := 146) rfl ?_); refine goesL_ (some 9) rfl rfl Try.func146 (by kernel_rfl) rfl #[.agg #[.int .i64 a0_0, .int .i64 a0_1, .int .i64 a0_2, .int .i64 a0_3, .int .i64 a0_4, .int .i64 a0_5, .int .i64 a0_6]] rfl (by (try simp only [List.map_toArray, List.map_cons, List.map_nil]); first | done | rfl | (simp only [List.length_drop, List.length_take]; rfl)) ?_; (with_reducible refine (impl_FrameOk.calls k a0_0 a0_1 a0_2 a0_3 a0_4 a0_5 a0_6 true _ A2.out).mono ?_); rintro e w16 ⟨rfl, hb⟩; refine ⟨_, rfl, ?_⟩; have n0_ := Aside0.mk (blk_below (g := gb196) (o := .cells #[.int .i64 a0_0, .int .i64 a0_1, .int .i64 a0_2, .int .i64 a0_3, .int .i64 a0_4, .int .i64 a0_5, .int .i64 a0_6] 31 (0, 0)) (rk BK196.out) hb); have n1_ := Aside0.mk (below_step (rb1 GE196.out HB.out) hb); clear BK196; clear HB; have BK196 := n0_; have HB := n1_; clear n0_ n1_; (try clear hb); (try clear hb2); (try clear hk); (try clear hi); have hcz17_0 : w16.cell? ⟨gb196, 0, none⟩ = some (.int .i64 a0_0) := (blk_cell BK196.out 0).trans rfl; have hcz17_1 : w16.cell? ⟨gb196, 1, none⟩ = some (.int .i64 a0_1) := (blk_cell BK196.out 1).trans rfl; have hcz17_2 : w16.cell? ⟨gb196, 2, none⟩ = some (.int .i64 a0_2) := (blk_cell BK196.out 2).trans rfl; have hcz17_3 : w16.cell? ⟨gb196, 3, none⟩ = some (.int .i64 a0_3) := (blk_cell BK196.out 3).trans rfl; have hcz17_4 : w16.cell? ⟨gb196, 4, none⟩ = some (.int .i64 a0_4) := (blk_cell BK196.out 4).trans rfl; have hcz17_5 : w16.cell? ⟨gb196, 5, none⟩ = some (.int .i64 a0_5) := (blk_cell BK196.out 5).trans rfl; have hcz17_6 : w16.cell? ⟨gb196, 6, none⟩ = some (.int .i64 a0_6) := (blk_cell BK196.out 6).trans rfl; have hfz17_0 := blk_frozen BK196.out 0; have hfz17_1 := blk_frozen BK196.out 1; have hfz17_2 := blk_frozen BK196.out 2; have hfz17_3 := blk_frozen BK196.out 3; have hfz17_4 := blk_frozen BK196.out 4; have hfz17_5 := blk_frozen BK196.out 5; have hfz17_6 := blk_frozen BK196.out 6) | ((with_reducible refine gate_callee (f := 183) rfl ?_); refine goesL_ (some 14) rfl rfl Try.func183 (by kernel_rfl) rfl #[.int .i64 a0_2] rfl (by (try simp only [List.map_toArray, List.map_cons, List.map_nil]); first | done | rfl | (simp only [List.length_drop, List.length_take]; rfl)) ?_; (with_reducible refine (impl_VarText.calls k a0_2 t198 t199 _ A4.out).mono ?_); rintro e w18 ⟨rfl, hb⟩; refine ⟨_, rfl, ?_⟩; have n0_ := Aside0.mk (blk_below (g := gb196) (o := .cells #[.int .i64 a0_0, .int .i64 a0_1, .int .i64 a0_2, .int .i64 a0_3, .int .i64 a0_4, .int .i64 a0_5, .int .i64 a0_6] 31 (0, 0)) (rk BK196.out) hb); have n1_ := Aside0.mk (below_step (rb1 GE196.out HB.out) hb); clear BK196; clear HB; have BK196 := n0_; have HB := n1_; clear n0_ n1_; (try clear hb); (try clear hb2); (try clear hk); (try clear hi); have hcz19_0 : w18.cell? ⟨gb196, 0, none⟩ = some (.int .i64 a0_0) := (blk_cell BK196.out 0).trans rfl; have hcz19_1 : w18.cell? ⟨gb196, 1, none⟩ = some (.int .i64 a0_1) := (blk_cell BK196.out 1).trans rfl; have hcz19_2 : w18.cell? ⟨gb196, 2, none⟩ = some (.int .i64 a0_2) := (blk_cell BK196.out 2).trans rfl; have hcz19_3 : w18.cell? ⟨gb196, 3, none⟩ = some (.int .i64 a0_3) := (blk_cell BK196.out 3).trans rfl; have hcz19_4 : w18.cell? ⟨gb196, 4, none⟩ = some (.int .i64 a0_4) := (blk_cell BK196.out 4).trans rfl; have hcz19_5 : w18.cell? ⟨gb196, 5, none⟩ = some (.int .i64 a0_5) := (blk_cell BK196.out 5).trans rfl; have hcz19_6 : w18.cell? ⟨gb196, 6, none⟩ = some (.int .i64 a0_6) := (blk_cell BK196.out 6).trans rfl; have hfz19_0 := blk_frozen BK196.out 0; have hfz19_1 := blk_frozen BK196.out 1; have hfz19_2 := blk_frozen BK196.out 2; have hfz19_3 := blk_frozen BK196.out 3; have hfz19_4 := blk_frozen BK196.out 4; have hfz19_5 := blk_frozen BK196.out 5; have hfz19_6 := blk_frozen BK196.out 6) | ((with_reducible refine gate_callee (f := 183) rfl ?_); refine goesL_ (some 21) rfl rfl Try.func183 (by kernel_rfl) rfl #[.int .i64 a0_6] rfl (by (try simp only [List.map_toArray, List.map_cons, List.map_nil]); first | done | rfl | (simp only [List.length_drop, List.length_take]; rfl)) ?_; (with_reducible refine (impl_VarText.calls k a0_6 t200 t201 _ A5.out).mono ?_); rintro e w20 ⟨rfl, hb⟩; refine ⟨_, rfl, ?_⟩; have n0_ := Aside0.mk (blk_below (g := gb196) (o := .cells #[.int .i64 a0_0, .int .i64 a0_1, .int .i64 a0_2, .int .i64 a0_3, .int .i64 a0_4, .int .i64 a0_5, .int .i64 a0_6] 31 (0, 0)) (rk BK196.out) hb); have n1_ := Aside0.mk (below_step (rb1 GE196.out HB.out) hb); clear BK196; clear HB; have BK196 := n0_; have HB := n1_; clear n0_ n1_; (try clear hb); (try clear hb2); (try clear hk); (try clear hi)))
 have n0_ := Aside0.mk (blk_drew BK196.out)
 have n1_ := Aside0.mk (below_drew1 HB.out)
 clear BK196
 clear HB
 have BK196 := n0_
 have HB := n1_
 clear n0_ n1_
 refine start_ (n := 34) (S := fun w' => True) (ds := []) #[false, false, false, false, false, false, false, false, false, false, false, false, false, false, false, false, false, false, false, false, false, false, false, false, false, false, false, false, false, false, false, false, false, false] (by kernel_rfl) rfl rfl trivial (fun hHeld => ?_); refine with_tabW impl_FrameText.tab5 impl_FrameText.bits5 (fun HT_ HW_ => ?_)
 generalize w20.drew = w21 at BK196 HB hHeld ⊢
 refine pure_ (i := 0) (N := some 24) (v := ?_) (a' := ?_) #[true, false, false, false, false, false, false, false, false, false, false, false, false, false, false, false, false, false, false, false, false, false, false, false, false, false, false, false, false, false, false, false, false, false] rfl rfl (any_of HT_.out (by kernel_rfl)) (fun _ _ _ h => h) (Or.inl ⟨by rfl, ?_⟩) ?_ ?_
 rotate_left
 ·intro w'
  go_simp
  with_reducible rfl
 rotate_left
 ·simp only [Act.put, List.setIfInBounds_toArray, List.set_cons_zero, List.set_cons_succ, i64_w, i32_w]
  rfl
 refine pure_ (i := 3) (N := some 27) (v := ?_) (a' := ?_) #[true, false, false, true, false, false, false, false, false, false, false, false, false, false, false, false, false, false, false, false, false, false, false, false, false, false, false, false, false, false, false, false, false, false] rfl rfl (any_of HT_.out (by kernel_rfl)) (fun _ _ _ h => h) (Or.inl ⟨by rfl, ?_⟩) ?_ ?_
 rotate_left
 ·intro w'
  go_simp
  with_reducible rfl
 rotate_left
 ·simp only [Act.put, List.setIfInBounds_toArray, List.set_cons_zero, List.set_cons_succ, i64_w, i32_w]
  rfl
 refine pure_ (i := 8) (N := some 32) (v := ?_) (a' := ?_) #[true, false, false, true, false, false, false, false, true, false, false, false, false, false, false, false, false, false, false, false, false, false, false, false, false, false, false, false, false, false, false, false, false, false] rfl rfl (any_of HT_.out (by kernel_rfl)) (fun _ _ _ h => h) (Or.inl ⟨by rfl, ?_⟩) ?_ ?_
 rotate_left
 ·intro w'
  go_simp
  with_reducible rfl
 rotate_left
 ·simp only [Act.put, List.setIfInBounds_toArray, List.set_cons_zero, List.set_cons_succ, i64_w, i32_w]
  rfl
 refine pure_ (i := 10) (N := some 34) (v := ?_) (a' := ?_) #[true, false, false, true, false, false, false, false, true, false, true, false, false, false, false, false, false, false, false, false, false, false, false, false, false, false, false, false, false, false, false, false, false, false] rfl rfl (any_of HT_.out (by kernel_rfl)) (fun _ _ _ h => h) (Or.inl ⟨by rfl, ?_⟩) ?_ ?_
 rotate_left
 ·intro w'
  go_simp
  with_reducible rfl
 rotate_left
 ·simp only [Act.put, List.setIfInBounds_toArray, List.set_cons_zero, List.set_cons_succ, i64_w, i32_w]
  rfl
 refine pure_ (i := 11) (N := some 35) (v := ?_) (a' := ?_) #[true, false, false, true, false, false, false, false, true, false, true, true, false, false, false, false, false, false, false, false, false, false, false, false, false, false, false, false, false, false, false, false, false, false] rfl rfl (any_of HT_.out (by kernel_rfl)) (fun _ _ _ h => h) (Or.inl ⟨by rfl, ?_⟩) ?_ ?_
 rotate_left
 ·intro w'
  go_simp
  with_reducible rfl
 rotate_left
 ·simp only [Act.put, List.setIfInBounds_toArray, List.set_cons_zero, List.set_cons_succ, i64_w, i32_w]
  rfl
 refine pure_ (i := 17) (N := some 41) (v := ?_) (a' := ?_) #[true, false, false, true, false, false, false, false, true, false, true, true, false, false, false, false, false, true, false, false, false, false, false, false, false, false, false, false, false, false, false, false, false, false] rfl rfl (any_of HT_.out (by kernel_rfl)) (fun _ _ _ h => h) (Or.inl ⟨by rfl, ?_⟩) ?_ ?_
 rotate_left
 ·intro w'
  go_simp
  with_reducible rfl
 rotate_left
 ·simp only [Act.put, List.setIfInBounds_toArray, List.set_cons_zero, List.set_cons_succ, i64_w, i32_w]
  rfl
 refine pure_ (i := 18) (N := some 42) (v := ?_) (a' := ?_) #[true, false, false, true, false, false, false, false, true, false, true, true, false, false, false, false, false, true, true, false, false, false, false, false, false, false, false, false, false, false, false, false, false, false] rfl rfl (any_of HT_.out (by kernel_rfl)) (fun _ _ _ h => h) (Or.inl ⟨by rfl, ?_⟩) ?_ ?_
 rotate_left
 ·intro w'
  go_simp
  with_reducible rfl
 rotate_left
 ·simp only [Act.put, List.setIfInBounds_toArray, List.set_cons_zero, List.set_cons_succ, i64_w, i32_w]
  rfl
 refine pure_ (i := 22) (N := some 46) (v := ?_) (a' := ?_) #[true, false, false, true, false, false, false, false, true, false, true, true, false, false, false, false, false, true, true, false, false, false, true, false, false, false, false, false, false, false, false, false, false, false] rfl rfl (any_of HT_.out (by kernel_rfl)) (fun _ _ _ h => h) (Or.inl ⟨by rfl, ?_⟩) ?_ ?_
 rotate_left
 ·intro w'
  go_simp
  with_reducible rfl
 rotate_left
 ·simp only [Act.put, List.setIfInBounds_toArray, List.set_cons_zero, List.set_cons_succ, i64_w, i32_w]
  rfl
 refine pure_ (i := 23) (N := some 47) (v := ?_) (a' := ?_) #[true, false, false, true, false, false, false, false, true, false, true, true, false, false, false, false, false, true, true, false, false, false, true, true, false, false, false, false, false, false, false, false, false, false] rfl rfl (any_of HT_.out (by kernel_rfl)) (fun _ _ _ h => h) (Or.inl ⟨by rfl, ?_⟩) ?_ ?_
 rotate_left
 ·intro w'
  go_simp
  with_reducible rfl
 rotate_left
 ·simp only [Act.put, List.setIfInBounds_toArray, List.set_cons_zero, List.set_cons_succ, i64_w, i32_w]
  rfl
 refine pure_ (i := 27) (N := some 51) (v := ?_) (a' := ?_) #[true, false, false, true, false, false, false, false, true, false, true, true, false, false, false, false, false, true, true, false, false, false, true, true, false, false, false, true, false, false, false, false, false, false] rfl rfl (any_of HT_.out (by kernel_rfl)) (fun _ _ _ h => h) (Or.inl ⟨by rfl, ?_⟩) ?_ ?_
 rotate_left
 ·intro w'
  go_simp
  with_reducible rfl
 rotate_left
 ·simp only [Act.put, List.setIfInBounds_toArray, List.set_cons_zero, List.set_cons_succ, i64_w, i32_w]
  rfl
 refine inv_at [1, 2, 4, 5, 6, 7, 9, 12, 13, 14, 15, 16, 19, 20, 21, 24, 25, 26, 28, 29, 30, 31, 32, 33] (fun a0_ b a w' => ∃ (v203 : Value) (v206 : Value), a = putSel a0_ b [(1, 25, .int .i64 a0_0), (2, 26, .int .u8 ((a0_0) % 256)), (4, 28, .int .i64 a0_1), (5, 29, .int .u8 ((a0_1) % 256)), (6, 30, v203), (7, 31, .string (strOfNums y202)), (9, 33, .string ((strOfNums y202) ++ t198)), (12, 36, .int .i64 a0_3), (13, 37, .int .u8 ((a0_3) % 256)), (14, 38, v206), (15, 39, .string (strOfNums y205)), (16, 40, .string (((strOfNums y202) ++ t198) ++ (strOfNums y205))), (19, 43, .int .i64 a0_4), (20, 44, .string t208), (21, 45, .string ((((strOfNums y202) ++ t198) ++ (strOfNums y205)) ++ t208)), (24, 48, .int .i64 a0_5), (25, 49, .string t209), (26, 50, .string (((((strOfNums y202) ++ t198) ++ (strOfNums y205)) ++ t208) ++ t209)), (28, 52, .string ((((((strOfNums y202) ++ t198) ++ (strOfNums y205)) ++ t208) ++ t209) ++ t200)), (29, 53, .tuple #[.string t210, .bool t211]), (30, 54, .string t210), (31, 55, .bool t211), (32, 2, .string t210), (33, 3, .bool t211)] ∧ (w'.heap[gb196]? = some (.cells #[.int .i64 a0_0, .int .i64 a0_1, .int .i64 a0_2, .int .i64 a0_3, .int .i64 a0_4, .int .i64 a0_5, .int .i64 a0_6] 31 (0, 0))) ∧ (Below w.heap.size w w') ∧ (b 6 = true → Kd.R (Kd.int .u8) 5 w' w.heap.size (fun _ => True) v203 y202) ∧ (b 14 = true → Kd.R (Kd.int .u8) 5 w' w.heap.size (fun _ => True) v206 y205)) HT_.out HW_.out (by kernel_rfl) (by kernel_rfl) ?_ ?_ ?_
 ·exact ⟨.bool false, .bool false, by simp only [putSel, Bool.false_eq_true, if_false], BK196.out, HB.out, fun h_ => absurd h_ (by decide), fun h_ => absurd h_ (by decide)⟩
 ·skip
  clear BK196 HB
  refine steps_cons ?_ ?_
  ·rintro b a w' ⟨v203, v206, ha, Q_BK196, Q_HB, Q_HO204, Q_HO207⟩ hb_ hon hoff
   refine ⟨_, rfl, fun K hK => ?_⟩
   have e24 : a.tmps[24]? = some (.pointer (some ⟨gb196, 0, none⟩)) := by rw [ha]; exact (putSel_off rfl).trans rfl
   replace ha := Aside0.mk ha
   have BK196 := Aside0.mk Q_BK196
   have HB := Aside0.mk Q_HB
   have hc0_ : w'.cell? ⟨gb196, 0, none⟩ = some (.int .i64 a0_0) := (blk_cell BK196.out 0).trans rfl
   have hc1_ : w'.cell? ⟨gb196, 1, none⟩ = some (.int .i64 a0_1) := (blk_cell BK196.out 1).trans rfl
   have hc2_ : w'.cell? ⟨gb196, 2, none⟩ = some (.int .i64 a0_2) := (blk_cell BK196.out 2).trans rfl
   have hc3_ : w'.cell? ⟨gb196, 3, none⟩ = some (.int .i64 a0_3) := (blk_cell BK196.out 3).trans rfl
   have hc4_ : w'.cell? ⟨gb196, 4, none⟩ = some (.int .i64 a0_4) := (blk_cell BK196.out 4).trans rfl
   have hc5_ : w'.cell? ⟨gb196, 5, none⟩ = some (.int .i64 a0_5) := (blk_cell BK196.out 5).trans rfl
   have hc6_ : w'.cell? ⟨gb196, 6, none⟩ = some (.int .i64 a0_6) := (blk_cell BK196.out 6).trans rfl
   refine value_ (w1 := w') (v := .int .i64 a0_0) (by rfl) rfl ?_ ?_
   ·go_simp
    (try simp only [i64_w])
    try rfl
   refine hK.out _ _ ⟨v203, v206, (by rw [ha.out]; exact putSel_upk 0 hb_ rfl rfl rfl), Q_BK196, Q_HB, fun h0_ => absurd ((hoff 6 (by kernel_rfl)).symm.trans h0_) (by decide), Q_HO207⟩
  refine steps_cons ?_ ?_
  ·rintro b a w' ⟨v203, v206, ha, Q_BK196, Q_HB, Q_HO204, Q_HO207⟩ hb_ hon hoff
   refine ⟨_, rfl, fun K hK => ?_⟩
   have e25 : a.tmps[25]? = some (.int .i64 a0_0) := by rw [ha]; exact putSel_on (e := (1, 25, .int .i64 a0_0)) 0 rfl rfl (hon 1 (by kernel_rfl)) rfl
   replace ha := Aside0.mk ha
   have BK196 := Aside0.mk Q_BK196
   have HB := Aside0.mk Q_HB
   refine value_ (w1 := w') (v := .int .u8 ((a0_0) % 256)) (by rfl) rfl ?_ ?_
   ·go_simp
    (try simp only [i64_w])
    try rfl
   refine hK.out _ _ ⟨v203, v206, (by rw [ha.out]; exact putSel_upk 1 hb_ rfl rfl rfl), Q_BK196, Q_HB, fun h0_ => absurd ((hoff 6 (by kernel_rfl)).symm.trans h0_) (by decide), Q_HO207⟩
  refine steps_cons ?_ ?_
  ·rintro b a w' ⟨v203, v206, ha, Q_BK196, Q_HB, Q_HO204, Q_HO207⟩ hb_ hon hoff
   refine ⟨_, rfl, fun K hK => ?_⟩
   have e27 : a.tmps[27]? = some (.pointer (some ⟨gb196, 1, none⟩)) := by rw [ha]; exact (putSel_off rfl).trans rfl
   replace ha := Aside0.mk ha
   have BK196 := Aside0.mk Q_BK196
   have HB := Aside0.mk Q_HB
   have hc0_ : w'.cell? ⟨gb196, 0, none⟩ = some (.int .i64 a0_0) := (blk_cell BK196.out 0).trans rfl
   have hc1_ : w'.cell? ⟨gb196, 1, none⟩ = some (.int .i64 a0_1) := (blk_cell BK196.out 1).trans rfl
   have hc2_ : w'.cell? ⟨gb196, 2, none⟩ = some (.int .i64 a0_2) := (blk_cell BK196.out 2).trans rfl
   have hc3_ : w'.cell? ⟨gb196, 3, none⟩ = some (.int .i64 a0_3) := (blk_cell BK196.out 3).trans rfl
   have hc4_ : w'.cell? ⟨gb196, 4, none⟩ = some (.int .i64 a0_4) := (blk_cell BK196.out 4).trans rfl
   have hc5_ : w'.cell? ⟨gb196, 5, none⟩ = some (.int .i64 a0_5) := (blk_cell BK196.out 5).trans rfl
   have hc6_ : w'.cell? ⟨gb196, 6, none⟩ = some (.int .i64 a0_6) := (blk_cell BK196.out 6).trans rfl
   refine value_ (w1 := w') (v := .int .i64 a0_1) (by rfl) rfl ?_ ?_
   ·go_simp
    (try simp only [i64_w])
    try rfl
   refine hK.out _ _ ⟨v203, v206, (by rw [ha.out]; exact putSel_upk 2 hb_ rfl rfl rfl), Q_BK196, Q_HB, fun h0_ => absurd ((hoff 6 (by kernel_rfl)).symm.trans h0_) (by decide), Q_HO207⟩
  refine steps_cons ?_ ?_
  ·rintro b a w' ⟨v203, v206, ha, Q_BK196, Q_HB, Q_HO204, Q_HO207⟩ hb_ hon hoff
   refine ⟨_, rfl, fun K hK => ?_⟩
   have e28 : a.tmps[28]? = some (.int .i64 a0_1) := by rw [ha]; exact putSel_on (e := (4, 28, .int .i64 a0_1)) 2 rfl rfl (hon 4 (by kernel_rfl)) rfl
   replace ha := Aside0.mk ha
   have BK196 := Aside0.mk Q_BK196
   have HB := Aside0.mk Q_HB
   refine value_ (w1 := w') (v := .int .u8 ((a0_1) % 256)) (by rfl) rfl ?_ ?_
   ·go_simp
    (try simp only [i64_w])
    try rfl
   refine hK.out _ _ ⟨v203, v206, (by rw [ha.out]; exact putSel_upk 3 hb_ rfl rfl rfl), Q_BK196, Q_HB, fun h0_ => absurd ((hoff 6 (by kernel_rfl)).symm.trans h0_) (by decide), Q_HO207⟩
  refine steps_cons ?_ ?_
  ·rintro b a w' ⟨v203, v206, ha, Q_BK196, Q_HB, Q_HO204, Q_HO207⟩ hb_ hon hoff
   refine ⟨_, rfl, fun K hK => ?_⟩
   have e26 : a.tmps[26]? = some (.int .u8 ((a0_0) % 256)) := by rw [ha]; exact putSel_on (e := (2, 26, .int .u8 ((a0_0) % 256))) 1 rfl rfl (hon 2 (by kernel_rfl)) rfl
   have e29 : a.tmps[29]? = some (.int .u8 ((a0_1) % 256)) := by rw [ha]; exact putSel_on (e := (5, 29, .int .u8 ((a0_1) % 256))) 3 rfl rfl (hon 5 (by kernel_rfl)) rfl
   replace ha := Aside0.mk ha
   have BK196 := Aside0.mk Q_BK196
   have HB := Aside0.mk Q_HB
   refine Kd.R_lit_step (Kd.int .u8) _ 5 ?hg (N := 30) ?hd (xs := ([(a0_0) % 256, (a0_1) % 256] : List Int)) (inner := [.int .u8 ((a0_0) % 256), .int .u8 ((a0_1) % 256)]) (ok := fun _ => True) (okp := fun _ => True) ?hr ?hp (fun _ hk => hk) trivial (Below.refl _ _) (Nat.le_refl _) (by simp) ?_; (case hd => rfl); (case hg => rfl); (case hr => first | (go_simp; done) | (go_simp; rfl)); (case hp => exact (Reps.one (show Kd.M (Kd.int .u8) _ _ _ ((a0_0) % 256) [.int .u8 ((a0_0) % 256)] from rfl) (Reps.one (show Kd.M (Kd.int .u8) _ _ _ ((a0_1) % 256) [.int .u8 ((a0_1) % 256)] from rfl) (Reps.none _ _))))
   intro v203 w22 ho23 hb hg_ hnew_
   clear hg_ hnew_
   (first | rw [← Ny202.out] at ho23 | (simp only [Int.reduceToNat] at ho23; rw [← Ny202.out] at ho23))
   have n0_ := Aside0.mk (Kd.R_lower ho23 (below_size (rb1 GE196.out HB.out)))
   have n1_ := Aside0.mk (blk_below (g := gb196) (o := .cells #[.int .i64 a0_0, .int .i64 a0_1, .int .i64 a0_2, .int .i64 a0_3, .int .i64 a0_4, .int .i64 a0_5, .int .i64 a0_6] 31 (0, 0)) (rk BK196.out) hb)
   have n2_ := Aside0.mk (below_step (rb1 GE196.out HB.out) hb)
   have z_HO207 := fun (h0_ : b 14 = true) => (show Kd.R (Kd.int .u8) 5 w22 w.heap.size (fun _ => True) v206 y205 from by first | exact (Kd.R_elder' (by (with_reducible repeat (first | apply Kd.R_alloc | apply Kd.R_drewN | apply Kd.R_drew)); exact (Q_HO207 h0_)) (Kd.R_base ho23) hb) | exact Kd.R_mono (Kd.R_elder' (by (with_reducible repeat (first | apply Kd.R_alloc | apply Kd.R_drewN | apply Kd.R_drew)); exact (Q_HO207 h0_)) (Kd.R_base ho23) hb) (fun _ h_ => by first | trivial | exact h_ | exact h_.1))
   clear BK196
   clear HB
   have HO204 := n0_
   have BK196 := n1_
   have HB := n2_
   clear n0_ n1_ n2_
   clear hb ho23
   refine hK.out _ _ ⟨v203, v206, (by rw [ha.out]; exact putSel_upk 4 hb_ rfl rfl rfl), (rk BK196.out), (rb1 GE196.out HB.out), fun _ => (rr HO204.out), z_HO207⟩
  refine steps_cons ?_ ?_
  ·rintro b a w' ⟨v203, v206, ha, Q_BK196, Q_HB, Q_HO204, Q_HO207⟩ hb_ hon hoff
   refine ⟨_, rfl, fun K hK => ?_⟩
   have e30 : a.tmps[30]? = some (v203) := by rw [ha]; exact putSel_on (e := (6, 30, v203)) 4 rfl rfl (hon 6 (by kernel_rfl)) rfl
   replace ha := Aside0.mk ha
   have BK196 := Aside0.mk Q_BK196
   have HB := Aside0.mk Q_HB
   have HO204 := Aside0.mk (Q_HO204 (hon 6 (by kernel_rfl)))
   obtain ⟨Ao7_0, co7_0, eo_⟩ := Kd.R_slice HO204.out
   subst eo_
   have hcv_ := own_string (P := Try.prog) Try.underlying209 Try.underlying5 Try.underlying9 (Kd.own_of_R HO204.out)
   refine value_ (w1 := w') (v := .string (strOfNums y202)) (by rfl) rfl ?_ ?_
   ·go_simp
    (try simp only [i64_w])
    try rfl
   refine hK.out _ _ ⟨.slice Ao7_0 y202.length co7_0, v206, (by rw [ha.out]; exact putSel_upk 5 hb_ rfl rfl rfl), Q_BK196, Q_HB, Q_HO204, Q_HO207⟩
  refine steps_cons ?_ ?_
  ·rintro b a w' ⟨v203, v206, ha, Q_BK196, Q_HB, Q_HO204, Q_HO207⟩ hb_ hon hoff
   refine ⟨_, rfl, fun K hK => ?_⟩
   have e31 : a.tmps[31]? = some (.string (strOfNums y202)) := by rw [ha]; exact putSel_on (e := (7, 31, .string (strOfNums y202))) 5 rfl rfl (hon 7 (by kernel_rfl)) rfl
   have e32 : a.tmps[32]? = some (.string t198) := by rw [ha]; exact (putSel_off rfl).trans rfl
   replace ha := Aside0.mk ha
   have BK196 := Aside0.mk Q_BK196
   have HB := Aside0.mk Q_HB
   have HO204 := Aside0.mk (Q_HO204 (hon 6 (by kernel_rfl)))
   refine value_ (w1 := w') (v := .string ((strOfNums y202) ++ t198)) (by rfl) rfl ?_ ?_
   ·go_simp
    (try simp only [i64_w])
    try rfl
    (try (first | done | (simp only [ByteArray.size_append] at *; omega)))
   refine hK.out _ _ ⟨v203, v206, (by rw [ha.out]; exact putSel_upk 6 hb_ rfl rfl rfl), Q_BK196, Q_HB, Q_HO204, Q_HO207⟩
  refine steps_cons ?_ ?_
  ·rintro b a w' ⟨v203, v206, ha, Q_BK196, Q_HB, Q_HO204, Q_HO207⟩ hb_ hon hoff
   refine ⟨_, rfl, fun K hK => ?_⟩
   have e35 : a.tmps[35]? = some (.pointer (some ⟨gb196, 3, none⟩)) := by rw [ha]; exact (putSel_off rfl).trans rfl
   replace ha := Aside0.mk ha
   have BK196 := Aside0.mk Q_BK196
   have HB := Aside0.mk Q_HB
   have hc0_ : w'.cell? ⟨gb196, 0, none⟩ = some (.int .i64 a0_0) := (blk_cell BK196.out 0).trans rfl
   have hc1_ : w'.cell? ⟨gb196, 1, none⟩ = some (.int .i64 a0_1) := (blk_cell BK196.out 1).trans rfl
   have hc2_ : w'.cell? ⟨gb196, 2, none⟩ = some (.int .i64 a0_2) := (blk_cell BK196.out 2).trans rfl
   have hc3_ : w'.cell? ⟨gb196, 3, none⟩ = some (.int .i64 a0_3) := (blk_cell BK196.out 3).trans rfl
   have hc4_ : w'.cell? ⟨gb196, 4, none⟩ = some (.int .i64 a0_4) := (blk_cell BK196.out 4).trans rfl
   have hc5_ : w'.cell? ⟨gb196, 5, none⟩ = some (.int .i64 a0_5) := (blk_cell BK196.out 5).trans rfl
   have hc6_ : w'.cell? ⟨gb196, 6, none⟩ = some (.int .i64 a0_6) := (blk_cell BK196.out 6).trans rfl
   refine value_ (w1 := w') (v := .int .i64 a0_3) (by rfl) rfl ?_ ?_
   ·go_simp
    (try simp only [i64_w])
    try rfl
   refine hK.out _ _ ⟨v203, v206, (by rw [ha.out]; exact putSel_upk 7 hb_ rfl rfl rfl), Q_BK196, Q_HB, Q_HO204, fun h0_ => absurd ((hoff 14 (by kernel_rfl)).symm.trans h0_) (by decide)⟩
  refine steps_cons ?_ ?_
  ·rintro b a w' ⟨v203, v206, ha, Q_BK196, Q_HB, Q_HO204, Q_HO207⟩ hb_ hon hoff
   refine ⟨_, rfl, fun K hK => ?_⟩
   have e36 : a.tmps[36]? = some (.int .i64 a0_3) := by rw [ha]; exact putSel_on (e := (12, 36, .int .i64 a0_3)) 7 rfl rfl (hon 12 (by kernel_rfl)) rfl
   replace ha := Aside0.mk ha
   have BK196 := Aside0.mk Q_BK196
   have HB := Aside0.mk Q_HB
   refine value_ (w1 := w') (v := .int .u8 ((a0_3) % 256)) (by rfl) rfl ?_ ?_
   ·go_simp
    (try simp only [i64_w])
    try rfl
   refine hK.out _ _ ⟨v203, v206, (by rw [ha.out]; exact putSel_upk 8 hb_ rfl rfl rfl), Q_BK196, Q_HB, Q_HO204, fun h0_ => absurd ((hoff 14 (by kernel_rfl)).symm.trans h0_) (by decide)⟩
  refine steps_cons ?_ ?_
  ·rintro b a w' ⟨v203, v206, ha, Q_BK196, Q_HB, Q_HO204, Q_HO207⟩ hb_ hon hoff
   refine ⟨_, rfl, fun K hK => ?_⟩
   have e37 : a.tmps[37]? = some (.int .u8 ((a0_3) % 256)) := by rw [ha]; exact putSel_on (e := (13, 37, .int .u8 ((a0_3) % 256))) 8 rfl rfl (hon 13 (by kernel_rfl)) rfl
   replace ha := Aside0.mk ha
   have BK196 := Aside0.mk Q_BK196
   have HB := Aside0.mk Q_HB
   refine Kd.R_lit_step (Kd.int .u8) _ 5 ?hg (N := 38) ?hd (xs := ([(a0_3) % 256] : List Int)) (inner := [.int .u8 ((a0_3) % 256)]) (ok := fun _ => True) (okp := fun _ => True) ?hr ?hp (fun _ hk => hk) trivial (Below.refl _ _) (Nat.le_refl _) (by simp) ?_; (case hd => rfl); (case hg => rfl); (case hr => first | (go_simp; done) | (go_simp; rfl)); (case hp => exact (Reps.one (show Kd.M (Kd.int .u8) _ _ _ ((a0_3) % 256) [.int .u8 ((a0_3) % 256)] from rfl) (Reps.none _ _)))
   intro v206 w22 ho23 hb hg_ hnew_
   clear hg_ hnew_
   (first | rw [← Ny205.out] at ho23 | (simp only [Int.reduceToNat] at ho23; rw [← Ny205.out] at ho23))
   have n0_ := Aside0.mk (Kd.R_lower ho23 (below_size (rb1 GE196.out HB.out)))
   have n1_ := Aside0.mk (blk_below (g := gb196) (o := .cells #[.int .i64 a0_0, .int .i64 a0_1, .int .i64 a0_2, .int .i64 a0_3, .int .i64 a0_4, .int .i64 a0_5, .int .i64 a0_6] 31 (0, 0)) (rk BK196.out) hb)
   have n2_ := Aside0.mk (below_step (rb1 GE196.out HB.out) hb)
   have z_HO204 := fun (h0_ : b 6 = true) => (show Kd.R (Kd.int .u8) 5 w22 w.heap.size (fun _ => True) v203 y202 from by first | exact (Kd.R_elder' (by (with_reducible repeat (first | apply Kd.R_alloc | apply Kd.R_drewN | apply Kd.R_drew)); exact (Q_HO204 h0_)) (Kd.R_base ho23) hb) | exact Kd.R_mono (Kd.R_elder' (by (with_reducible repeat (first | apply Kd.R_alloc | apply Kd.R_drewN | apply Kd.R_drew)); exact (Q_HO204 h0_)) (Kd.R_base ho23) hb) (fun _ h_ => by first | trivial | exact h_ | exact h_.1))
   clear BK196
   clear HB
   have HO207 := n0_
   have BK196 := n1_
   have HB := n2_
   clear n0_ n1_ n2_
   clear hb ho23
   refine hK.out _ _ ⟨v203, v206, (by rw [ha.out]; exact putSel_upk 9 hb_ rfl rfl rfl), (rk BK196.out), (rb1 GE196.out HB.out), z_HO204, fun _ => (rr HO207.out)⟩
  refine steps_cons ?_ ?_
  ·rintro b a w' ⟨v203, v206, ha, Q_BK196, Q_HB, Q_HO204, Q_HO207⟩ hb_ hon hoff
   refine ⟨_, rfl, fun K hK => ?_⟩
   have e38 : a.tmps[38]? = some (v206) := by rw [ha]; exact putSel_on (e := (14, 38, v206)) 9 rfl rfl (hon 14 (by kernel_rfl)) rfl
   replace ha := Aside0.mk ha
   have BK196 := Aside0.mk Q_BK196
   have HB := Aside0.mk Q_HB
   have HO207 := Aside0.mk (Q_HO207 (hon 14 (by kernel_rfl)))
   obtain ⟨Ao15_0, co15_0, eo_⟩ := Kd.R_slice HO207.out
   subst eo_
   have hcv_ := own_string (P := Try.prog) Try.underlying209 Try.underlying5 Try.underlying9 (Kd.own_of_R HO207.out)
   refine value_ (w1 := w') (v := .string (strOfNums y205)) (by rfl) rfl ?_ ?_
   ·go_simp
    (try simp only [i64_w])
    try rfl
   refine hK.out _ _ ⟨v203, .slice Ao15_0 y205.length co15_0, (by rw [ha.out]; exact putSel_upk 10 hb_ rfl rfl rfl), Q_BK196, Q_HB, Q_HO204, Q_HO207⟩
  refine steps_cons ?_ ?_
  ·rintro b a w' ⟨v203, v206, ha, Q_BK196, Q_HB, Q_HO204, Q_HO207⟩ hb_ hon hoff
   refine ⟨_, rfl, fun K hK => ?_⟩
   have e33 : a.tmps[33]? = some (.string ((strOfNums y202) ++ t198)) := by rw [ha]; exact putSel_on (e := (9, 33, .string ((strOfNums y202) ++ t198))) 6 rfl rfl (hon 9 (by kernel_rfl)) rfl
   have e39 : a.tmps[39]? = some (.string (strOfNums y205)) := by rw [ha]; exact putSel_on (e := (15, 39, .string (strOfNums y205))) 10 rfl rfl (hon 15 (by kernel_rfl)) rfl
   replace ha := Aside0.mk ha
   have BK196 := Aside0.mk Q_BK196
   have HB := Aside0.mk Q_HB
   have HO204 := Aside0.mk (Q_HO204 (hon 6 (by kernel_rfl)))
   have HO207 := Aside0.mk (Q_HO207 (hon 14 (by kernel_rfl)))
   refine value_ (w1 := w') (v := .string (((strOfNums y202) ++ t198) ++ (strOfNums y205))) (by rfl) rfl ?_ ?_
   ·go_simp
    (try simp only [i64_w])
    try rfl
    (try (first | done | (simp only [ByteArray.size_append] at *; omega)))
   refine hK.out _ _ ⟨v203, v206, (by rw [ha.out]; exact putSel_upk 11 hb_ rfl rfl rfl), Q_BK196, Q_HB, Q_HO204, Q_HO207⟩
  refine steps_cons ?_ ?_
  ·rintro b a w' ⟨v203, v206, ha, Q_BK196, Q_HB, Q_HO204, Q_HO207⟩ hb_ hon hoff
   refine ⟨_, rfl, fun K hK => ?_⟩
   have e42 : a.tmps[42]? = some (.pointer (some ⟨gb196, 4, none⟩)) := by rw [ha]; exact (putSel_off rfl).trans rfl
   replace ha := Aside0.mk ha
   have BK196 := Aside0.mk Q_BK196
   have HB := Aside0.mk Q_HB
   have hc0_ : w'.cell? ⟨gb196, 0, none⟩ = some (.int .i64 a0_0) := (blk_cell BK196.out 0).trans rfl
   have hc1_ : w'.cell? ⟨gb196, 1, none⟩ = some (.int .i64 a0_1) := (blk_cell BK196.out 1).trans rfl
   have hc2_ : w'.cell? ⟨gb196, 2, none⟩ = some (.int .i64 a0_2) := (blk_cell BK196.out 2).trans rfl
   have hc3_ : w'.cell? ⟨gb196, 3, none⟩ = some (.int .i64 a0_3) := (blk_cell BK196.out 3).trans rfl
   have hc4_ : w'.cell? ⟨gb196, 4, none⟩ = some (.int .i64 a0_4) := (blk_cell BK196.out 4).trans rfl
   have hc5_ : w'.cell? ⟨gb196, 5, none⟩ = some (.int .i64 a0_5) := (blk_cell BK196.out 5).trans rfl
   have hc6_ : w'.cell? ⟨gb196, 6, none⟩ = some (.int .i64 a0_6) := (blk_cell BK196.out 6).trans rfl
   refine value_ (w1 := w') (v := .int .i64 a0_4) (by rfl) rfl ?_ ?_
   ·go_simp
    (try simp only [i64_w])
    try rfl
   refine hK.out _ _ ⟨v203, v206, (by rw [ha.out]; exact putSel_upk 12 hb_ rfl rfl rfl), Q_BK196, Q_HB, Q_HO204, Q_HO207⟩
  refine steps_cons ?_ ?_
  ·rintro b a w' ⟨v203, v206, ha, Q_BK196, Q_HB, Q_HO204, Q_HO207⟩ hb_ hon hoff
   refine ⟨_, rfl, fun K hK => ?_⟩
   have e43 : a.tmps[43]? = some (.int .i64 a0_4) := by rw [ha]; exact putSel_on (e := (19, 43, .int .i64 a0_4)) 12 rfl rfl (hon 19 (by kernel_rfl)) rfl
   replace ha := Aside0.mk ha
   have BK196 := Aside0.mk Q_BK196
   have HB := Aside0.mk Q_HB
   refine goes_ Try.func192 (by kernel_rfl) rfl #[.int .i64 a0_4] (by rfl) rfl rfl (by first | (simp only [List.map_toArray, List.map_cons, List.map_nil, Act.eval, Array.getD_eq_getD_getElem?, Option.getD_some, e43]; done) | (simp only [List.map_toArray, List.map_cons, List.map_nil, Act.eval, Array.getD_eq_getD_getElem?, Option.getD_some, e43]; rfl)) ?_
   with_reducible refine (impl_four.calls a0_4 t208 _ A8.out).mono ?_
   rintro e w22 ⟨rfl, hb⟩
   refine ⟨_, rfl, ?_⟩
   have n0_ := Aside0.mk (blk_below (g := gb196) (o := .cells #[.int .i64 a0_0, .int .i64 a0_1, .int .i64 a0_2, .int .i64 a0_3, .int .i64 a0_4, .int .i64 a0_5, .int .i64 a0_6] 31 (0, 0)) (rk BK196.out) hb)
   have n1_ := Aside0.mk (below_step (rb1 GE196.out HB.out) hb)
   have z_HO204 := fun (h0_ : b 6 = true) => (show Kd.R (Kd.int .u8) 5 w22 w.heap.size (fun _ => True) v203 y202 from by first | exact (Kd.R_below (by (with_reducible repeat (first | apply Kd.R_alloc | apply Kd.R_drewN | apply Kd.R_drew)); exact (Q_HO204 h0_)) hb) | exact Kd.R_mono (Kd.R_below (by (with_reducible repeat (first | apply Kd.R_alloc | apply Kd.R_drewN | apply Kd.R_drew)); exact (Q_HO204 h0_)) hb) (fun _ h_ => by first | trivial | exact h_ | exact h_.1))
   have z_HO207 := fun (h0_ : b 14 = true) => (show Kd.R (Kd.int .u8) 5 w22 w.heap.size (fun _ => True) v206 y205 from by first | exact (Kd.R_below (by (with_reducible repeat (first | apply Kd.R_alloc | apply Kd.R_drewN | apply Kd.R_drew)); exact (Q_HO207 h0_)) hb) | exact Kd.R_mono (Kd.R_below (by (with_reducible repeat (first | apply Kd.R_alloc | apply Kd.R_drewN | apply Kd.R_drew)); exact (Q_HO207 h0_)) hb) (fun _ h_ => by first | trivial | exact h_ | exact h_.1))
   clear BK196
   clear HB
   have BK196 := n0_
   have HB := n1_
   clear n0_ n1_
   (try clear hb)
   (try clear hb2)
   (try clear hk)
   (try clear hi)
   refine hK.out _ _ ⟨v203, v206, (by rw [ha.out]; exact putSel_upk 13 hb_ rfl rfl rfl), (rk BK196.out), (rb1 GE196.out HB.out), z_HO204, z_HO207⟩
  refine steps_cons ?_ ?_
  ·rintro b a w' ⟨v203, v206, ha, Q_BK196, Q_HB, Q_HO204, Q_HO207⟩ hb_ hon hoff
   refine ⟨_, rfl, fun K hK => ?_⟩
   have e40 : a.tmps[40]? = some (.string (((strOfNums y202) ++ t198) ++ (strOfNums y205))) := by rw [ha]; exact putSel_on (e := (16, 40, .string (((strOfNums y202) ++ t198) ++ (strOfNums y205)))) 11 rfl rfl (hon 16 (by kernel_rfl)) rfl
   have e44 : a.tmps[44]? = some (.string t208) := by rw [ha]; exact putSel_on (e := (20, 44, .string t208)) 13 rfl rfl (hon 20 (by kernel_rfl)) rfl
   replace ha := Aside0.mk ha
   have BK196 := Aside0.mk Q_BK196
   have HB := Aside0.mk Q_HB
   have HO204 := Aside0.mk (Q_HO204 (hon 6 (by kernel_rfl)))
   have HO207 := Aside0.mk (Q_HO207 (hon 14 (by kernel_rfl)))
   refine value_ (w1 := w') (v := .string ((((strOfNums y202) ++ t198) ++ (strOfNums y205)) ++ t208)) (by rfl) rfl ?_ ?_
   ·go_simp
    (try simp only [i64_w])
    try rfl
    (try (first | done | (simp only [ByteArray.size_append] at *; omega)))
   refine hK.out _ _ ⟨v203, v206, (by rw [ha.out]; exact putSel_upk 14 hb_ rfl rfl rfl), Q_BK196, Q_HB, Q_HO204, Q_HO207⟩
  refine steps_cons ?_ ?_
  ·rintro b a w' ⟨v203, v206, ha, Q_BK196, Q_HB, Q_HO204, Q_HO207⟩ hb_ hon hoff
   refine ⟨_, rfl, fun K hK => ?_⟩
   have e47 : a.tmps[47]? = some (.pointer (some ⟨gb196, 5, none⟩)) := by rw [ha]; exact (putSel_off rfl).trans rfl
   replace ha := Aside0.mk ha
   have BK196 := Aside0.mk Q_BK196
   have HB := Aside0.mk Q_HB
   have hc0_ : w'.cell? ⟨gb196, 0, none⟩ = some (.int .i64 a0_0) := (blk_cell BK196.out 0).trans rfl
   have hc1_ : w'.cell? ⟨gb196, 1, none⟩ = some (.int .i64 a0_1) := (blk_cell BK196.out 1).trans rfl
   have hc2_ : w'.cell? ⟨gb196, 2, none⟩ = some (.int .i64 a0_2) := (blk_cell BK196.out 2).trans rfl
   have hc3_ : w'.cell? ⟨gb196, 3, none⟩ = some (.int .i64 a0_3) := (blk_cell BK196.out 3).trans rfl
   have hc4_ : w'.cell? ⟨gb196, 4, none⟩ = some (.int .i64 a0_4) := (blk_cell BK196.out 4).trans rfl
   have hc5_ : w'.cell? ⟨gb196, 5, none⟩ = some (.int .i64 a0_5) := (blk_cell BK196.out 5).trans rfl
   have hc6_ : w'.cell? ⟨gb196, 6, none⟩ = some (.int .i64 a0_6) := (blk_cell BK196.out 6).trans rfl
   refine value_ (w1 := w') (v := .int .i64 a0_5) (by rfl) rfl ?_ ?_
   ·go_simp
    (try simp only [i64_w])
    try rfl
   refine hK.out _ _ ⟨v203, v206, (by rw [ha.out]; exact putSel_upk 15 hb_ rfl rfl rfl), Q_BK196, Q_HB, Q_HO204, Q_HO207⟩
  refine steps_cons ?_ ?_
  ·rintro b a w' ⟨v203, v206, ha, Q_BK196, Q_HB, Q_HO204, Q_HO207⟩ hb_ hon hoff
   refine ⟨_, rfl, fun K hK => ?_⟩
   have e48 : a.tmps[48]? = some (.int .i64 a0_5) := by rw [ha]; exact putSel_on (e := (24, 48, .int .i64 a0_5)) 15 rfl rfl (hon 24 (by kernel_rfl)) rfl
   replace ha := Aside0.mk ha
   have BK196 := Aside0.mk Q_BK196
   have HB := Aside0.mk Q_HB
   refine goes_ Try.func192 (by kernel_rfl) rfl #[.int .i64 a0_5] (by rfl) rfl rfl (by first | (simp only [List.map_toArray, List.map_cons, List.map_nil, Act.eval, Array.getD_eq_getD_getElem?, Option.getD_some, e48]; done) | (simp only [List.map_toArray, List.map_cons, List.map_nil, Act.eval, Array.getD_eq_getD_getElem?, Option.getD_some, e48]; rfl)) ?_
   with_reducible refine (impl_four.calls a0_5 t209 _ A10.out).mono ?_
   rintro e w24 ⟨rfl, hb⟩
   refine ⟨_, rfl, ?_⟩
   have n0_ := Aside0.mk (blk_below (g := gb196) (o := .cells #[.int .i64 a0_0, .int .i64 a0_1, .int .i64 a0_2, .int .i64 a0_3, .int .i64 a0_4, .int .i64 a0_5, .int .i64 a0_6] 31 (0, 0)) (rk BK196.out) hb)
   have n1_ := Aside0.mk (below_step (rb1 GE196.out HB.out) hb)
   have z_HO204 := fun (h0_ : b 6 = true) => (show Kd.R (Kd.int .u8) 5 w24 w.heap.size (fun _ => True) v203 y202 from by first | exact (Kd.R_below (by (with_reducible repeat (first | apply Kd.R_alloc | apply Kd.R_drewN | apply Kd.R_drew)); exact (Q_HO204 h0_)) hb) | exact Kd.R_mono (Kd.R_below (by (with_reducible repeat (first | apply Kd.R_alloc | apply Kd.R_drewN | apply Kd.R_drew)); exact (Q_HO204 h0_)) hb) (fun _ h_ => by first | trivial | exact h_ | exact h_.1))
   have z_HO207 := fun (h0_ : b 14 = true) => (show Kd.R (Kd.int .u8) 5 w24 w.heap.size (fun _ => True) v206 y205 from by first | exact (Kd.R_below (by (with_reducible repeat (first | apply Kd.R_alloc | apply Kd.R_drewN | apply Kd.R_drew)); exact (Q_HO207 h0_)) hb) | exact Kd.R_mono (Kd.R_below (by (with_reducible repeat (first | apply Kd.R_alloc | apply Kd.R_drewN | apply Kd.R_drew)); exact (Q_HO207 h0_)) hb) (fun _ h_ => by first | trivial | exact h_ | exact h_.1))
   clear BK196
   clear HB
   have BK196 := n0_
   have HB := n1_
   clear n0_ n1_
   (try clear hb)
   (try clear hb2)
   (try clear hk)
   (try clear hi)
   refine hK.out _ _ ⟨v203, v206, (by rw [ha.out]; exact putSel_upk 16 hb_ rfl rfl rfl), (rk BK196.out), (rb1 GE196.out HB.out), z_HO204, z_HO207⟩
  refine steps_cons ?_ ?_
  ·rintro b a w' ⟨v203, v206, ha, Q_BK196, Q_HB, Q_HO204, Q_HO207⟩ hb_ hon hoff
   refine ⟨_, rfl, fun K hK => ?_⟩
   have e45 : a.tmps[45]? = some (.string ((((strOfNums y202) ++ t198) ++ (strOfNums y205)) ++ t208)) := by rw [ha]; exact putSel_on (e := (21, 45, .string ((((strOfNums y202) ++ t198) ++ (strOfNums y205)) ++ t208))) 14 rfl rfl (hon 21 (by kernel_rfl)) rfl
   have e49 : a.tmps[49]? = some (.string t209) := by rw [ha]; exact putSel_on (e := (25, 49, .string t209)) 16 rfl rfl (hon 25 (by kernel_rfl)) rfl
   replace ha := Aside0.mk ha
   have BK196 := Aside0.mk Q_BK196
   have HB := Aside0.mk Q_HB
   have HO204 := Aside0.mk (Q_HO204 (hon 6 (by kernel_rfl)))
   have HO207 := Aside0.mk (Q_HO207 (hon 14 (by kernel_rfl)))
   refine value_ (w1 := w') (v := .string (((((strOfNums y202) ++ t198) ++ (strOfNums y205)) ++ t208) ++ t209)) (by rfl) rfl ?_ ?_
   ·go_simp
    (try simp only [i64_w])
    try rfl
    (try (first | done | (simp only [ByteArray.size_append] at *; omega)))
   refine hK.out _ _ ⟨v203, v206, (by rw [ha.out]; exact putSel_upk 17 hb_ rfl rfl rfl), Q_BK196, Q_HB, Q_HO204, Q_HO207⟩
  refine steps_cons ?_ ?_
  ·rintro b a w' ⟨v203, v206, ha, Q_BK196, Q_HB, Q_HO204, Q_HO207⟩ hb_ hon hoff
   refine ⟨_, rfl, fun K hK => ?_⟩
   have e50 : a.tmps[50]? = some (.string (((((strOfNums y202) ++ t198) ++ (strOfNums y205)) ++ t208) ++ t209)) := by rw [ha]; exact putSel_on (e := (26, 50, .string (((((strOfNums y202) ++ t198) ++ (strOfNums y205)) ++ t208) ++ t209))) 17 rfl rfl (hon 26 (by kernel_rfl)) rfl
   have e51 : a.tmps[51]? = some (.string t200) := by rw [ha]; exact (putSel_off rfl).trans rfl
   replace ha := Aside0.mk ha
   have BK196 := Aside0.mk Q_BK196
   have HB := Aside0.mk Q_HB
   have HO204 := Aside0.mk (Q_HO204 (hon 6 (by kernel_rfl)))
   have HO207 := Aside0.mk (Q_HO207 (hon 14 (by kernel_rfl)))
   refine value_ (w1 := w') (v := .string ((((((strOfNums y202) ++ t198) ++ (strOfNums y205)) ++ t208) ++ t209) ++ t200)) (by rfl) rfl ?_ ?_
   ·go_simp
    (try simp only [i64_w])
    try rfl
    (try (first | done | (simp only [ByteArray.size_append] at *; omega)))
   refine hK.out _ _ ⟨v203, v206, (by rw [ha.out]; exact putSel_upk 18 hb_ rfl rfl rfl), Q_BK196, Q_HB, Q_HO204, Q_HO207⟩
  refine steps_cons ?_ ?_
  ·rintro b a w' ⟨v203, v206, ha, Q_BK196, Q_HB, Q_HO204, Q_HO207⟩ hb_ hon hoff
   refine ⟨_, rfl, fun K hK => ?_⟩
   have e52 : a.tmps[52]? = some (.string ((((((strOfNums y202) ++ t198) ++ (strOfNums y205)) ++ t208) ++ t209) ++ t200)) := by rw [ha]; exact putSel_on (e := (28, 52, .string ((((((strOfNums y202) ++ t198) ++ (strOfNums y205)) ++ t208) ++ t209) ++ t200))) 18 rfl rfl (hon 28 (by kernel_rfl)) rfl
   replace ha := Aside0.mk ha
   have BK196 := Aside0.mk Q_BK196
   have HB := Aside0.mk Q_HB
   have HO204 := Aside0.mk (Q_HO204 (hon 6 (by kernel_rfl)))
   have HO207 := Aside0.mk (Q_HO207 (hon 14 (by kernel_rfl)))
   refine goes_ Try.func191 (by kernel_rfl) rfl #[.string ((((((strOfNums y202) ++ t198) ++ (strOfNums y205)) ++ t208) ++ t209) ++ t200)] (by rfl) rfl rfl (by first | (simp only [List.map_toArray, List.map_cons, List.map_nil, Act.eval, Array.getD_eq_getD_getElem?, Option.getD_some, e52]; done) | (simp only [List.map_toArray, List.map_cons, List.map_nil, Act.eval, Array.getD_eq_getD_getElem?, Option.getD_some, e52]; rfl)) ?_
   with_reducible refine (impl_Sealed.calls k ((((((strOfNums y202) ++ t198) ++ (strOfNums y205)) ++ t208) ++ t209) ++ t200) t210 t211 _ A13.out).mono ?_
   rintro e w29 ⟨rfl, hb⟩
   refine ⟨_, rfl, ?_⟩
   have n0_ := Aside0.mk (Kd.R_below (rr HO204.out) hb)
   have n1_ := Aside0.mk (Kd.R_below (rr HO207.out) hb)
   have n2_ := Aside0.mk (blk_below (g := gb196) (o := .cells #[.int .i64 a0_0, .int .i64 a0_1, .int .i64 a0_2, .int .i64 a0_3, .int .i64 a0_4, .int .i64 a0_5, .int .i64 a0_6] 31 (0, 0)) (rk BK196.out) hb)
   have n3_ := Aside0.mk (below_step (rb1 GE196.out HB.out) hb)
   clear HO204
   clear HO207
   clear BK196
   clear HB
   have HO204 := n0_
   have HO207 := n1_
   have BK196 := n2_
   have HB := n3_
   clear n0_ n1_ n2_ n3_
   (try clear hb)
   (try clear hb2)
   (try clear hk)
   (try clear hi)
   refine hK.out _ _ ⟨v203, v206, (by rw [ha.out]; exact putSel_upk 19 hb_ rfl rfl rfl), (rk BK196.out), (rb1 GE196.out HB.out), fun _ => (rr HO204.out), fun _ => (rr HO207.out)⟩
  refine steps_cons ?_ ?_
  ·rintro b a w' ⟨v203, v206, ha, Q_BK196, Q_HB, Q_HO204, Q_HO207⟩ hb_ hon hoff
   refine ⟨_, rfl, fun K hK => ?_⟩
   have e53 : a.tmps[53]? = some (.tuple #[.string t210, .bool t211]) := by rw [ha]; exact putSel_on (e := (29, 53, .tuple #[.string t210, .bool t211])) 19 rfl rfl (hon 29 (by kernel_rfl)) rfl
   replace ha := Aside0.mk ha
   have BK196 := Aside0.mk Q_BK196
   have HB := Aside0.mk Q_HB
   have HO204 := Aside0.mk (Q_HO204 (hon 6 (by kernel_rfl)))
   have HO207 := Aside0.mk (Q_HO207 (hon 14 (by kernel_rfl)))
   refine value_ (w1 := w') (v := .string t210) (by rfl) rfl ?_ ?_
   ·go_simp
    (try simp only [i64_w])
    try rfl
   refine hK.out _ _ ⟨v203, v206, (by rw [ha.out]; exact putSel_upk 20 hb_ rfl rfl rfl), Q_BK196, Q_HB, Q_HO204, Q_HO207⟩
  refine steps_cons ?_ ?_
  ·rintro b a w' ⟨v203, v206, ha, Q_BK196, Q_HB, Q_HO204, Q_HO207⟩ hb_ hon hoff
   refine ⟨_, rfl, fun K hK => ?_⟩
   have e53 : a.tmps[53]? = some (.tuple #[.string t210, .bool t211]) := by rw [ha]; exact putSel_on (e := (29, 53, .tuple #[.string t210, .bool t211])) 19 rfl rfl (hon 29 (by kernel_rfl)) rfl
   replace ha := Aside0.mk ha
   have BK196 := Aside0.mk Q_BK196
   have HB := Aside0.mk Q_HB
   have HO204 := Aside0.mk (Q_HO204 (hon 6 (by kernel_rfl)))
   have HO207 := Aside0.mk (Q_HO207 (hon 14 (by kernel_rfl)))
   refine value_ (w1 := w') (v := .bool t211) (by rfl) rfl ?_ ?_
   ·go_simp
    (try simp only [i64_w])
    try rfl
   refine hK.out _ _ ⟨v203, v206, (by rw [ha.out]; exact putSel_upk 21 hb_ rfl rfl rfl), Q_BK196, Q_HB, Q_HO204, Q_HO207⟩
  refine steps_cons ?_ ?_
  ·rintro b a w' ⟨v203, v206, ha, Q_BK196, Q_HB, Q_HO204, Q_HO207⟩ hb_ hon hoff
   refine ⟨_, rfl, fun K hK => ?_⟩
   have e54 : a.tmps[54]? = some (.string t210) := by rw [ha]; exact putSel_on (e := (30, 54, .string t210)) 20 rfl rfl (hon 30 (by kernel_rfl)) rfl
   replace ha := Aside0.mk ha
   have BK196 := Aside0.mk Q_BK196
   have HB := Aside0.mk Q_HB
   have HO204 := Aside0.mk (Q_HO204 (hon 6 (by kernel_rfl)))
   have HO207 := Aside0.mk (Q_HO207 (hon 14 (by kernel_rfl)))
   refine value_ (w1 := w') (v := .string t210) (by rfl) rfl ?_ ?_
   ·go_simp
    (try simp only [i64_w])
    try rfl
   refine hK.out _ _ ⟨v203, v206, (by rw [ha.out]; exact putSel_upk 22 hb_ rfl rfl rfl), Q_BK196, Q_HB, Q_HO204, Q_HO207⟩
  refine steps_cons ?_ ?_
  ·rintro b a w' ⟨v203, v206, ha, Q_BK196, Q_HB, Q_HO204, Q_HO207⟩ hb_ hon hoff
   refine ⟨_, rfl, fun K hK => ?_⟩
   have e55 : a.tmps[55]? = some (.bool t211) := by rw [ha]; exact putSel_on (e := (31, 55, .bool t211)) 21 rfl rfl (hon 31 (by kernel_rfl)) rfl
   replace ha := Aside0.mk ha
   have BK196 := Aside0.mk Q_BK196
   have HB := Aside0.mk Q_HB
   have HO204 := Aside0.mk (Q_HO204 (hon 6 (by kernel_rfl)))
   have HO207 := Aside0.mk (Q_HO207 (hon 14 (by kernel_rfl)))
   refine value_ (w1 := w') (v := .bool t211) (by rfl) rfl ?_ ?_
   ·go_simp
    (try simp only [i64_w])
    try rfl
   refine hK.out _ _ ⟨v203, v206, (by rw [ha.out]; exact putSel_upk 23 hb_ rfl rfl rfl), Q_BK196, Q_HB, Q_HO204, Q_HO207⟩
  exact steps_nil
 rintro b a w29 hall ⟨v203, v206, ha, Q_BK196, Q_HB, Q_HO204, Q_HO207⟩
 clear BK196 HB
 have hb1_ := hall 1 (by kernel_rfl)
 have hb2_ := hall 2 (by kernel_rfl)
 have hb4_ := hall 4 (by kernel_rfl)
 have hb5_ := hall 5 (by kernel_rfl)
 have hb6_ := hall 6 (by kernel_rfl)
 have hb7_ := hall 7 (by kernel_rfl)
 have hb9_ := hall 9 (by kernel_rfl)
 have hb12_ := hall 12 (by kernel_rfl)
 have hb13_ := hall 13 (by kernel_rfl)
 have hb14_ := hall 14 (by kernel_rfl)
 have hb15_ := hall 15 (by kernel_rfl)
 have hb16_ := hall 16 (by kernel_rfl)
 have hb19_ := hall 19 (by kernel_rfl)
 have hb20_ := hall 20 (by kernel_rfl)
 have hb21_ := hall 21 (by kernel_rfl)
 have hb24_ := hall 24 (by kernel_rfl)
 have hb25_ := hall 25 (by kernel_rfl)
 have hb26_ := hall 26 (by kernel_rfl)
 have hb28_ := hall 28 (by kernel_rfl)
 have hb29_ := hall 29 (by kernel_rfl)
 have hb30_ := hall 30 (by kernel_rfl)
 have hb31_ := hall 31 (by kernel_rfl)
 have hb32_ := hall 32 (by kernel_rfl)
 have hb33_ := hall 33 (by kernel_rfl)
 subst ha
 simp only [putSel, hb1_, hb2_, hb4_, hb5_, hb6_, hb7_, hb9_, hb12_, hb13_, hb14_, hb15_, hb16_, hb19_, hb20_, hb21_, hb24_, hb25_, hb26_, hb28_, hb29_, hb30_, hb31_, hb32_, hb33_, if_true, Act.put, List.setIfInBounds_toArray, List.set_cons_zero, List.set_cons_succ]
 have BK196 := Aside0.mk Q_BK196
 clear Q_BK196
 have HB := Aside0.mk Q_HB
 clear Q_HB
 have HO204 := Aside0.mk (Q_HO204 hb6_)
 clear Q_HO204
 have HO207 := Aside0.mk (Q_HO207 hb14_)
 clear Q_HO207
 clear hall hb1_ hb2_ hb4_ hb5_ hb6_ hb7_ hb9_ hb12_ hb13_ hb14_ hb15_ hb16_ hb19_ hb20_ hb21_ hb24_ hb25_ hb26_ hb28_ hb29_ hb30_ hb31_ hb32_ hb33_
 try go_wp2
 go_ret2
 exact ⟨by first | rfl | (simp [errW_none, errW_some] <;> rfl) | (simp [*, errW_none, errW_some] <;> rfl), by repeat (first | (with_reducible first | exact HB.out | apply below_alloc | apply pw_below_drewN | apply below_drew1 | refine below_set ?_ GE196.out) | exact HB.out)⟩

/-! ### impl_EntryText: function 150 -/
def impl_EntryText.f (k : Nat) (a0_0 : Int) (a0_1 : Int) (a0_2 : Int) (a0_3 : Int) (a0_4 : Int) (a0_5 : Int) : Option (ByteArray) := (impl_FrameText.f k 1 a0_0 a0_1 a0_2 a0_3 a0_4 a0_5).bind fun bt213 => (some bt213.1)
theorem impl_EntryText.mono : ∀ a0 a1 a2 a3 a4 a5 k, LeO (impl_EntryText.f k a0 a1 a2 a3 a4 a5) (impl_EntryText.f (k + 1) a0 a1 a2 a3 a4 a5) := by
 intro a0 a1 a2 a3 a4 a5 k
 unfold impl_EntryText.f
 repeat' first
   | (with_reducible exact impl_FrameText.mono _ _ _ _ _ _ _ _)
   | (with_reducible exact LeO.refl _)
   | (with_reducible exact LeO.none _)
   | (with_reducible refine LeO.ite ?_ ?_)
   | (with_reducible refine LeO.bind ?_ (fun _ => ?_))
   | exact impl_FrameText.mono _ _ _ _ _ _ _ _
   | exact LeO.none _
   | refine LeO.ite ?_ ?_
   | refine LeO.bind ?_ (fun _ => ?_)
set_option maxHeartbeats 8000000 in
set_option maxRecDepth 100000 in
theorem impl_EntryText.calls (k : Nat) (a0_0 : Int) (a0_1 : Int) (a0_2 : Int) (a0_3 : Int) (a0_4 : Int) (a0_5 : Int) (r : ByteArray) (w : World) (h : impl_EntryText.f k a0_0 a0_1 a0_2 a0_3 a0_4 a0_5 = some r) :
  Calls Try.prog 150 #[.agg #[.int .i64 a0_0, .int .i64 a0_1, .int .i64 a0_2, .int .i64 a0_3, .int .i64 a0_4, .int .i64 a0_5]] w fun e w' => e = .returned (.string r) ∧ Below w.heap.size w w' := by
 have hu136 := Try.underlying136
 have hu29 := Try.underlying29
 have hu31 := Try.underlying31
 have HB := Aside0.mk (Below.refl w.heap.size w)
 have H : ((impl_FrameText.f k 1 a0_0 a0_1 a0_2 a0_3 a0_4 a0_5).bind fun bt213 => (some bt213.1)) = some r := h
 clear h
 replace H := Option.bind_eq_some_iff.mp H
 obtain ⟨⟨t213, t214⟩, A20, H⟩ := H
 replace H : (some t213) = some r := H
 have A2 := Aside0.mk A20
 clear A20
 obtain rfl := Option.some.inj H
 go_enter Try.func150, Try.ntmps150
 go_wp2_with (first | ((with_reducible refine gate_dst (N := 1) rfl ?_); refine box_event ?hg (N := 1) ?hd (cs := #[.int .i64 a0_0, .int .i64 a0_1, .int .i64 a0_2, .int .i64 a0_3, .int .i64 a0_4, .int .i64 a0_5]) (t := 136) ?hr ?_; (case hd => rfl); (case hg => rfl); (case hr => first | (go_simp; done) | (go_simp; rfl)); intro gb212 hg w3 hbox hb; have n0_ := Aside0.mk (below_step (rb HB.out) hb); have n1_ := Aside0.mk (hbox); have n2_ := Aside0.mk ((by rw [hg]; exact (below_size (rb HB.out)) : w.heap.size ≤ gb212)); have n3_ := Aside0.mk ((by rw [hg]; exact (below_size (rb HB.out)) : w.heap.size ≤ gb212)); clear HB; have HB := n0_; have BK212 := n1_; have GW212 := n2_; have GE212 := n3_; clear n0_ n1_ n2_ n3_; clear hb hbox hg; have hcz4_0 : w3.cell? ⟨gb212, 0, none⟩ = some (.int .i64 a0_0) := (blk_cell BK212.out 0).trans rfl; have hcz4_1 : w3.cell? ⟨gb212, 1, none⟩ = some (.int .i64 a0_1) := (blk_cell BK212.out 1).trans rfl; have hcz4_2 : w3.cell? ⟨gb212, 2, none⟩ = some (.int .i64 a0_2) := (blk_cell BK212.out 2).trans rfl; have hcz4_3 : w3.cell? ⟨gb212, 3, none⟩ = some (.int .i64 a0_3) := (blk_cell BK212.out 3).trans rfl; have hcz4_4 : w3.cell? ⟨gb212, 4, none⟩ = some (.int .i64 a0_4) := (blk_cell BK212.out 4).trans rfl; have hcz4_5 : w3.cell? ⟨gb212, 5, none⟩ = some (.int .i64 a0_5) := (blk_cell BK212.out 5).trans rfl; have hfz4_0 := blk_frozen BK212.out 0; have hfz4_1 := blk_frozen BK212.out 1; have hfz4_2 := blk_frozen BK212.out 2; have hfz4_3 := blk_frozen BK212.out 3; have hfz4_4 := blk_frozen BK212.out 4; have hfz4_5 := blk_frozen BK212.out 5) | ((with_reducible refine gate_callee (f := 185) rfl ?_); refine goesL_ (some 13) rfl rfl Try.func185 (by kernel_rfl) rfl #[.agg #[.int .i64 1, .int .i64 a0_0, .int .i64 a0_1, .int .i64 a0_2, .int .i64 a0_3, .int .i64 a0_4, .int .i64 a0_5]] rfl (by (try simp only [List.map_toArray, List.map_cons, List.map_nil]); first | done | rfl | (simp only [List.length_drop, List.length_take]; rfl)) ?_; (with_reducible refine (impl_FrameText.calls k 1 a0_0 a0_1 a0_2 a0_3 a0_4 a0_5 t213 t214 _ A2.out).mono ?_); rintro e w5 ⟨rfl, hb⟩; refine ⟨_, rfl, ?_⟩; have n0_ := Aside0.mk (blk_below (g := gb212) (o := .cells #[.int .i64 a0_0, .int .i64 a0_1, .int .i64 a0_2, .int .i64 a0_3, .int .i64 a0_4, .int .i64 a0_5] 136 (0, 0)) (rk BK212.out) hb); have n1_ := Aside0.mk (below_step (rb1 GE212.out HB.out) hb); clear BK212; clear HB; have BK212 := n0_; have HB := n1_; clear n0_ n1_; (try clear hb); (try clear hb2); (try clear hk); (try clear hi)))
 go_ret
 exact ⟨by first | rfl | (simp [errW_none, errW_some] <;> rfl) | (simp [*, errW_none, errW_some] <;> rfl), by repeat (first | (with_reducible first | exact HB.out | apply below_alloc | apply pw_below_drewN | apply below_drew1 | refine below_set ?_ GE212.out) | exact HB.out)⟩

/-! ### impl_ShortText: function 151 -/
def impl_ShortText.f (k : Nat) (a0 : ByteArray) : Option (ByteArray × Bool) := if (a0.size : Int) > 20000 then (some ((⟨#[]⟩ : ByteArray), false)) else ((impl_VarText.f k (a0.size : Int)).bind fun bt215 => (if bt215.1.size + a0.size ≤ 9223372036854775807 then (some (bt215.1 ++ a0, true)) else (none)))
theorem impl_ShortText.mono : ∀ a0 k, LeO (impl_ShortText.f k a0) (impl_ShortText.f (k + 1) a0) := by
 intro a0 k
 unfold impl_ShortText.f
 repeat' first
   | (with_reducible exact impl_VarText.mono _ _)
   | (with_reducible exact LeO.refl _)
   | (with_reducible exact LeO.none _)
   | (with_reducible refine LeO.ite ?_ ?_)
   | (with_reducible refine LeO.bind ?_ (fun _ => ?_))
   | exact impl_VarText.mono _ _
   | exact LeO.none _
   | refine LeO.ite ?_ ?_
   | refine LeO.bind ?_ (fun _ => ?_)
set_option maxHeartbeats 8000000 in
set_option maxRecDepth 100000 in
theorem impl_ShortText.calls (k : Nat) (a0 : ByteArray) (r1 : ByteArray) (r2 : Bool) (w : World) (h : impl_ShortText.f k a0 = some (r1, r2)) :
  Calls Try.prog 151 #[.string a0] w fun e w' => e = .returned (.tuple #[.string r1, .bool r2]) ∧ Below w.heap.size w w' := by
 have HB := Aside0.mk (Below.refl w.heap.size w)
 have H : (if (a0.size : Int) > 20000 then (some ((⟨#[]⟩ : ByteArray), false)) else ((impl_VarText.f k (a0.size : Int)).bind fun bt215 => (if bt215.1.size + a0.size ≤ 9223372036854775807 then (some (bt215.1 ++ a0, true)) else (none)))) = some (r1, r2) := h
 clear h
 by_cases c2 : (a0.size : Int) > 20000
 ·rw [if_pos c2] at H
  have c2b0 : decide (20000 < (a0.size : Int)) = true := decide_eq_true c2
  have c2b1 : decide (20000 < a0.size) = true := decide_eq_true (by omega)
  clear c2
  simp only [Option.some.injEq, Prod.mk.injEq] at H
  obtain ⟨rfl, rfl⟩ := H
  go_enter Try.func151, Try.ntmps151
  go_wp2
  go_ret2
  exact ⟨by first | rfl | (simp [errW_none, errW_some] <;> rfl) | (simp [*, errW_none, errW_some] <;> rfl), by repeat (first | (with_reducible first | exact HB.out | apply below_alloc | apply pw_below_drewN | apply below_drew1) | exact HB.out)⟩
 rw [if_neg c2] at H
 have c2b0 : decide (20000 < (a0.size : Int)) = false := decide_eq_false c2
 have c2b1 : decide (20000 < a0.size) = false := decide_eq_false (by omega)
 clear c2
 replace H := Option.bind_eq_some_iff.mp H
 obtain ⟨⟨t215, t216⟩, A30, H⟩ := H
 replace H : (if t215.size + a0.size ≤ 9223372036854775807 then (some (t215 ++ a0, true)) else (none)) = some (r1, r2) := H
 have A3 := Aside0.mk A30
 clear A30
 by_cases c4 : t215.size + a0.size ≤ 9223372036854775807
 rotate_left
 ·rw [if_neg c4] at H
  exact absurd H (by simp)
 rw [if_pos c4] at H
 have c4b0 := eq_true c4
 have c4b1 : decide (t215.size + a0.size ≤ 9223372036854775807) = true := decide_eq_true c4
 try have c4b2 : (9223372036854775807 < t215.size + a0.size) = False := eq_false (Nat.not_lt.2 c4)
 simp only [Option.some.injEq, Prod.mk.injEq] at H
 obtain ⟨rfl, rfl⟩ := H
 go_enter Try.func151, Try.ntmps151
 go_wp2_with (first | ((with_reducible refine gate_callee (f := 183) rfl ?_); refine goesL_ (some 12) rfl rfl Try.func183 (by kernel_rfl) rfl #[.int .i64 (a0.size : Int)] rfl (by (try simp only [List.map_toArray, List.map_cons, List.map_nil]); first | done | rfl | (simp only [List.length_drop, List.length_take]; rfl)) ?_; (with_reducible refine (impl_VarText.calls k (a0.size : Int) t215 t216 _ A3.out).mono ?_); rintro e w5 ⟨rfl, hb⟩; refine ⟨_, rfl, ?_⟩; have n0_ := Aside0.mk (below_step (rb HB.out) hb); clear HB; have HB := n0_; clear n0_; (try clear hb); (try clear hb2); (try clear hk); (try clear hi)))
 go_ret2
 exact ⟨by first | rfl | (simp [errW_none, errW_some] <;> rfl) | (simp [*, errW_none, errW_some] <;> rfl), by repeat (first | (with_reducible first | exact HB.out | apply below_alloc | apply pw_below_drewN | apply below_drew1) | exact HB.out)⟩

end Go.Proofs.Ytfobhfnkjmfbmaa.PFnExactLogText
