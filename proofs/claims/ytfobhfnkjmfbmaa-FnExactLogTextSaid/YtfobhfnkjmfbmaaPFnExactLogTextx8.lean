import Derived.Test.YtfobhfnkjmfbmaaPFnExactLogTextx0
import Derived.Test.YtfobhfnkjmfbmaaPFnExactLogTextx2
import Derived.Test.YtfobhfnkjmfbmaaPFnExactLogTextx4
import Derived.Test.YtfobhfnkjmfbmaaPFnExactLogTextx7
namespace Go.Proofs.Ytfobhfnkjmfbmaa.PFnExactLogText
open Go.RowKit Go.Proofs.YtfobhfnkjmfbmaaW.PrintWords Go.Proofs.YtfobhfnkjmfbmaaW.PrintLast Go.Proofs.YtfobhfnkjmfbmaaW.PrintMore Go.Proofs.YtfobhfnkjmfbmaaH
attribute [local go_sem] max2_int min2_int max_two min_two max_three min_three max_four min_four   -- for this text's walks alone
set_option linter.unusedVariables false
set_option linter.unusedSimpArgs false

/-! ### laws_FnExactLogText: function 14 -/
def laws_FnExactLogText.j0 : Nat → List (S177) → List (S136) → Bool → Option (Bool)
 | 0, _, _, _ => none
 | k + 1, x0, x6, x34 => if x34 = true then (some false) else ((laws_toEntryS.f k x0).bind fun t241 => ((laws_eqEntryS.f k x6 t241).bind fun t244 => (if t244 = true then (some true) else (some false))))
def laws_FnExactLogText.f (k : Nat) (l0 : List (S177)) : Option (Bool) := (laws_szEntryS.f l0 1048576).bind fun t230 => (if t230 < 0 then (some true) else ((laws_toEntryS.f k l0).bind fun t231 => ((spec_LogText.f k t231).bind fun bt234 => ((laws_toEntryS.f k l0).bind fun t236 => ((impl_LogText.f k t236).bind fun bt239 => (if bt239.1.toList = bt234.1.toList then (laws_FnExactLogText.j0 k l0 t236 (bt239.2 != bt234.2)) else (laws_FnExactLogText.j0 k l0 t236 true)))))))
theorem laws_FnExactLogText.mono_l : ∀ k, (∀ y0 y1 y2, LeO (laws_FnExactLogText.j0 k y0 y1 y2) (laws_FnExactLogText.j0 (k + 1) y0 y1 y2))
 | 0 => fun _ _ _ r h => by simp [laws_FnExactLogText.j0] at h
 | k + 1 => by
  have ih0 := laws_FnExactLogText.mono_l k
  ·intro y0 y1 y2
   unfold laws_FnExactLogText.j0
   repeat' first
   | (with_reducible exact ih0 _ _ _)
   | (with_reducible exact impl_LogText.mono _ _)
   | (with_reducible exact laws_eqEntryS.mono _ _ _)
   | (with_reducible exact laws_toEntryS.mono _ _)
   | (with_reducible exact spec_LogText.mono _ _)
   | (with_reducible exact LeO.refl _)
   | (with_reducible exact LeO.none _)
   | (with_reducible refine LeO.ite ?_ ?_)
   | (with_reducible refine LeO.bind ?_ (fun _ => ?_))
   | exact ih0 _ _ _
   | exact impl_LogText.mono _ _
   | exact laws_eqEntryS.mono _ _ _
   | exact laws_toEntryS.mono _ _
   | exact spec_LogText.mono _ _
   | exact LeO.none _
   | refine LeO.ite ?_ ?_
   | refine LeO.bind ?_ (fun _ => ?_)
theorem laws_FnExactLogText.mono : ∀ a0 k, LeO (laws_FnExactLogText.f k a0) (laws_FnExactLogText.f (k + 1) a0) := by
 intro a0 k
 have ih0 := laws_FnExactLogText.mono_l k
 unfold laws_FnExactLogText.f
 repeat' first
   | (with_reducible exact ih0 _ _ _)
   | (with_reducible exact impl_LogText.mono _ _)
   | (with_reducible exact laws_eqEntryS.mono _ _ _)
   | (with_reducible exact laws_toEntryS.mono _ _)
   | (with_reducible exact spec_LogText.mono _ _)
   | (with_reducible exact LeO.refl _)
   | (with_reducible exact LeO.none _)
   | (with_reducible refine LeO.ite ?_ ?_)
   | (with_reducible refine LeO.bind ?_ (fun _ => ?_))
   | exact ih0 _ _ _
   | exact impl_LogText.mono _ _
   | exact laws_eqEntryS.mono _ _ _
   | exact laws_toEntryS.mono _ _
   | exact spec_LogText.mono _ _
   | exact LeO.none _
   | refine LeO.ite ?_ ?_
   | refine LeO.bind ?_ (fun _ => ?_)
set_option maxHeartbeats 8000000 in
set_option maxRecDepth 100000 in
theorem laws_FnExactLogText.calls (k : Nat) (A0 : Option Addr) (c0 : Nat) (l0 : List (S177)) (r_ : Bool) (w : World) (hr0 : Kd.C k177 w A0 l0.length l0) (hc0 : l0.length ≤ c0) (h : laws_FnExactLogText.f k l0 = some true) :
  Calls Try.prog 14 #[.slice A0 l0.length c0] w fun e w' => e = .returned (.bool true) ∧ Below w.heap.size w w' := by
 have HR0 := Aside0.mk hr0
 have HC0 := Aside0.mk hc0
 clear hr0 hc0
 have HB := Aside0.mk (Below.refl w.heap.size w)
 have H : ((laws_szEntryS.f l0 1048576).bind fun t230 => (if t230 < 0 then (some true) else ((laws_toEntryS.f k l0).bind fun t231 => ((spec_LogText.f k t231).bind fun bt234 => ((laws_toEntryS.f k l0).bind fun t236 => ((impl_LogText.f k t236).bind fun bt239 => (if bt239.1.toList = bt234.1.toList then (laws_FnExactLogText.j0 k l0 t236 (bt239.2 != bt234.2)) else (laws_FnExactLogText.j0 k l0 t236 true)))))))) = some true := h
 clear h
 replace H := Option.bind_eq_some_iff.mp H
 obtain ⟨t230, A20, H⟩ := H
 replace H : (if t230 < 0 then (some true) else ((laws_toEntryS.f k l0).bind fun t231 => ((spec_LogText.f k t231).bind fun bt234 => ((laws_toEntryS.f k l0).bind fun t236 => ((impl_LogText.f k t236).bind fun bt239 => (if bt239.1.toList = bt234.1.toList then (laws_FnExactLogText.j0 k l0 t236 (bt239.2 != bt234.2)) else (laws_FnExactLogText.j0 k l0 t236 true))))))) = some true := H
 have A2 := Aside0.mk A20
 clear A20
 by_cases c3 : t230 < 0
 ·rw [if_pos c3] at H
  have c3b0 : decide (t230 < 0) = true := decide_eq_true c3
  clear c3
  (first | (obtain rfl := Option.some.inj H) | clear H)
  go_enter Try.func14, Try.ntmps14
  go_wp2_with (first | ((with_reducible refine gate_callee (f := 74) rfl ?_); refine goesL_ (some 11) rfl rfl Try.func74 (by kernel_rfl) rfl #[.slice A0 l0.length c0, .int .i64 1048576] rfl (by (try simp only [List.map_toArray, List.map_cons, List.map_nil]); first | done | rfl | (simp only [List.length_drop, List.length_take]; rfl)) ?_; (with_reducible refine (laws_szEntryS.calls _ _ l0 1048576 t230 _ ?side1 ?side2 A2.out).mono ?_); (case side1 => exact rc HR0.out); (case side2 => exact HC0.out); rintro e w' ⟨rfl, ⟨nd, rfl⟩⟩; refine ⟨_, rfl, ?_⟩))
  go_ret
  exact ⟨by first | rfl | (simp [errW_none, errW_some] <;> rfl) | (simp [*, errW_none, errW_some] <;> rfl), by repeat (first | (with_reducible first | exact HB.out | apply below_alloc | apply pw_below_drewN | apply below_drew1) | exact HB.out)⟩
 rw [if_neg c3] at H
 have c3b0 : decide (t230 < 0) = false := decide_eq_false c3
 clear c3
 replace H := Option.bind_eq_some_iff.mp H
 obtain ⟨t231, A40, H⟩ := H
 replace H : ((spec_LogText.f k t231).bind fun bt234 => ((laws_toEntryS.f k l0).bind fun t236 => ((impl_LogText.f k t236).bind fun bt239 => (if bt239.1.toList = bt234.1.toList then (laws_FnExactLogText.j0 k l0 t236 (bt239.2 != bt234.2)) else (laws_FnExactLogText.j0 k l0 t236 true))))) = some true := H
 have A4 := Aside0.mk A40
 clear A40
 replace H := Option.bind_eq_some_iff.mp H
 obtain ⟨⟨t234, t235⟩, A50, H⟩ := H
 replace H : ((laws_toEntryS.f k l0).bind fun t236 => ((impl_LogText.f k t236).bind fun bt239 => (if bt239.1.toList = t234.toList then (laws_FnExactLogText.j0 k l0 t236 (bt239.2 != t235)) else (laws_FnExactLogText.j0 k l0 t236 true)))) = some true := H
 have A5 := Aside0.mk A50
 clear A50
 replace H := Option.bind_eq_some_iff.mp H
 obtain ⟨t236, A60, H⟩ := H
 replace H : ((impl_LogText.f k t236).bind fun bt239 => (if bt239.1.toList = t234.toList then (laws_FnExactLogText.j0 k l0 t236 (bt239.2 != t235)) else (laws_FnExactLogText.j0 k l0 t236 true))) = some true := H
 have A6 := Aside0.mk A60
 clear A60
 replace H := Option.bind_eq_some_iff.mp H
 obtain ⟨⟨t239, t240⟩, A70, H⟩ := H
 replace H : (if t239.toList = t234.toList then (laws_FnExactLogText.j0 k l0 t236 (t240 != t235)) else (laws_FnExactLogText.j0 k l0 t236 true)) = some true := H
 have A7 := Aside0.mk A70
 clear A70
 have HC8 := Aside0.mk H
 clear H
 go_enter Try.func14, Try.ntmps14
 go_upto_region 8 with (first | ((with_reducible refine gate_callee (f := 74) rfl ?_); refine goesL_ (some 11) rfl rfl Try.func74 (by kernel_rfl) rfl #[.slice A0 l0.length c0, .int .i64 1048576] rfl (by (try simp only [List.map_toArray, List.map_cons, List.map_nil]); first | done | rfl | (simp only [List.length_drop, List.length_take]; rfl)) ?_; (with_reducible refine (laws_szEntryS.calls _ _ l0 1048576 t230 _ ?side1 ?side2 A2.out).mono ?_); (case side1 => exact rc HR0.out); (case side2 => exact HC0.out); rintro e w' ⟨rfl, ⟨nd, rfl⟩⟩; refine ⟨_, rfl, ?_⟩) | ((with_reducible refine gate_callee (f := 76) rfl ?_); refine goesL_ (some 16) rfl rfl Try.func76 (by kernel_rfl) rfl #[.slice A0 l0.length c0] rfl (by (try simp only [List.map_toArray, List.map_cons, List.map_nil]); first | done | rfl | (simp only [List.length_drop, List.length_take]; rfl)) ?_; (with_reducible refine (laws_toEntryS.calls k _ _ l0 t231 _ ?side1 ?side2 A4.out).mono ?_); (case side1 => exact rc HR0.out); (case side2 => exact HC0.out); rintro e w9 ⟨v232, rfl, ho0, hb⟩; refine ⟨_, rfl, ?_⟩; have n0_ := Aside0.mk (Kd.R_lower ho0 (below_size (rb HB.out))); have n1_ := Aside0.mk (below_step (rb HB.out) hb); clear HB; have HO233 := n0_; have HB := n1_; clear n0_ n1_; (try clear hb); (try clear hb2); (try clear hk); (try clear hi); (try clear ho0); obtain ⟨Ao10, co10, eo10⟩ := Kd.R_slice HO233.out; subst eo10) | ((with_reducible refine gate_callee (f := 75) rfl ?_); refine goesL_ (some 17) rfl rfl Try.func75 (by kernel_rfl) rfl #[.slice Ao10 t231.length co10] rfl (by (try simp only [List.map_toArray, List.map_cons, List.map_nil]); first | done | rfl | (simp only [List.length_drop, List.length_take]; rfl)) ?_; (with_reducible refine (spec_LogText.calls k _ _ t231 t234 t235 _ ?side1 ?side2 A5.out).mono ?_); (case side1 => exact rc (Kd.R_reads' HO233.out).2.2); (case side2 => exact (Kd.R_reads' HO233.out).2.1); rintro e w11 ⟨rfl, hb⟩; refine ⟨_, rfl, ?_⟩; have n0_ := Aside0.mk (Kd.R_below (rr HO233.out) hb); have n1_ := Aside0.mk (below_step (rb HB.out) hb); clear HO233; clear HB; have HO233 := n0_; have HB := n1_; clear n0_ n1_; (try clear hb); (try clear hb2); (try clear hk); (try clear hi)) | ((with_reducible refine gate_callee (f := 76) rfl ?_); refine goesL_ (some 21) rfl rfl Try.func76 (by kernel_rfl) rfl #[.slice A0 l0.length c0] rfl (by (try simp only [List.map_toArray, List.map_cons, List.map_nil]); first | done | rfl | (simp only [List.length_drop, List.length_take]; rfl)) ?_; (with_reducible refine (laws_toEntryS.calls k _ _ l0 t236 _ ?side1 ?side2 A6.out).mono ?_); (case side1 => exact rc (Kd.C_below HR0.out HB.out)); (case side2 => exact HC0.out); rintro e w12 ⟨v237, rfl, ho0, hb⟩; refine ⟨_, rfl, ?_⟩; have n0_ := Aside0.mk (Kd.R_elder' (rr HO233.out) (Kd.R_base ho0) hb); have n1_ := Aside0.mk (Kd.R_lower (Kd.R_new' ho0 (Kd.R_lt (rr HO233.out))) (below_size (rb HB.out))); have n2_ := Aside0.mk (below_step (rb HB.out) hb); clear HO233; clear HB; have HO233 := n0_; have HO238 := n1_; have HB := n2_; clear n0_ n1_ n2_; (try clear hb); (try clear hb2); (try clear hk); (try clear hi); (try clear ho0); obtain ⟨Ao13, co13, eo13⟩ := Kd.R_slice HO238.out; subst eo13) | ((with_reducible refine gate_callee (f := 77) rfl ?_); refine goesL_ (some 24) rfl rfl Try.func77 (by kernel_rfl) rfl #[.slice Ao13 t236.length co13] rfl (by (try simp only [List.map_toArray, List.map_cons, List.map_nil]); first | done | rfl | (simp only [List.length_drop, List.length_take]; rfl)) ?_; (with_reducible refine (impl_LogText.calls k _ _ t236 t239 t240 _ ?side1 ?side2 A7.out).mono ?_); (case side1 => exact rc (Kd.R_reads' HO238.out).2.2); (case side2 => exact (Kd.R_reads' HO238.out).2.1); rintro e w14 ⟨rfl, hb⟩; refine ⟨_, rfl, ?_⟩; have n0_ := Aside0.mk (Kd.R_below (rr HO233.out) hb); have n1_ := Aside0.mk (Kd.R_below (rr HO238.out) hb); have n2_ := Aside0.mk (below_step (rb HB.out) hb); clear HO233; clear HO238; clear HB; have HO233 := n0_; have HO238 := n1_; have HB := n2_; clear n0_ n1_ n2_; (try clear hb); (try clear hb2); (try clear hk); (try clear hi)))
 (try simp only [Act.put, List.setIfInBounds_toArray, List.set_cons_zero, List.set_cons_succ])
 go_cut [34] (fun v34 wc => ∃ (kq : Nat) (x34_7 : Bool), v34 = .bool x34_7 ∧ Aside0 (laws_FnExactLogText.j0 kq l0 t236 x34_7 = some true) ∧ Aside0 (kq ≤ k) ∧ Aside0 (Kd.R k136 136 wc w.heap.size (fun _ => True) (.slice Ao13 t236.length co13) t236) ∧ Aside0 (Below w.heap.size w wc))
 case first =>
  have H := HC8.out
  clear HC8
  by_cases c15 : t239.toList = t234.toList
  rotate_left
  ·rw [if_neg c15] at H
   exact absurd H (by cases k <;> simp [laws_FnExactLogText.j0])
  rw [if_pos c15] at H
  have c15b0 : (t239.toList == t234.toList) = true := beq_iff_eq.mpr c15
  have c15b1 : (t239.toList != t234.toList) = false := bne_eq_false_iff_eq.mpr c15
  clear c15
  (first | rw [c15b0] | (simp only [i64_w, i32_w]; rw [c15b0]) | skip)
  have H' := Aside0.mk H
  clear H
  go_wp2
  go_meet
  case rel => exact ⟨_, ((t240 != t235)), (by first | rfl | (simp; done) | (simp [*]; done)), H', ⟨by first | omega | exact Nat.le_refl _⟩, ⟨by (with_reducible repeat (first | apply Kd.R_alloc | apply Kd.R_drewN | apply Kd.R_drew)); exact Kd.R_mono HO238.out (fun _ hk => trivial)⟩, ⟨by repeat (first | (with_reducible first | exact HB.out | apply below_alloc | apply pw_below_drewN | apply below_drew1) | exact HB.out)⟩⟩
 case rest =>
  clear HC8
  try clear c1
  try clear p2
  try clear c3
  try clear c3b0
  try clear c7
  try clear c14
  try clear c15
  try clear c15b0
  try clear c15b1
  obtain ⟨kq, x34_7, rfl, HA, HJ7, HO_6, HB⟩ := hcut
  cases kq with
  | zero => exact absurd HA.out (by simp [laws_FnExactLogText.j0])
  | succ kj7 =>
   have H := HA.out
   clear HA
   simp only [laws_FnExactLogText.j0] at H
   by_cases c16 : x34_7 = true
   ·subst c16
    have H1 : (some false) = some true := by rw [if_pos rfl] at H; exact H
    exact absurd H1 (by simp)
   replace c16 := Bool.eq_false_iff.mpr c16
   subst c16
   have H1 : ((laws_toEntryS.f kj7 l0).bind fun t241 => ((laws_eqEntryS.f kj7 t236 t241).bind fun t244 => (if t244 = true then (some true) else (some false)))) = some true := by rw [if_neg (show ¬ (false = true) by decide)] at H; exact H
   clear H
   have H := H1
   clear H1
   replace H := Option.bind_eq_some_iff.mp H
   obtain ⟨t241, A170, H⟩ := H
   replace H : ((laws_eqEntryS.f kj7 t236 t241).bind fun t244 => (if t244 = true then (some true) else (some false))) = some true := H
   have A17 := Aside0.mk A170
   clear A170
   replace H := Option.bind_eq_some_iff.mp H
   obtain ⟨t244, A180, H⟩ := H
   replace H : (if t244 = true then (some true) else (some false)) = some true := H
   have A18 := Aside0.mk A180
   clear A180
   by_cases c19 : t244 = true
   rotate_left
   ·replace c19 := Bool.eq_false_iff.mpr c19
    subst c19
    have H1 : (some false) = some true := by rw [if_neg (show ¬ (false = true) by decide)] at H; exact H
    exact absurd H1 (by simp)
   subst c19
   have H1 : (some true) = some true := rfl
   clear H
   have H := H1
   clear H1
   (first | (obtain rfl := Option.some.inj H) | clear H)
   go_wp2_with (first | ((with_reducible refine gate_callee (f := 76) rfl ?_); refine goesL_ (some 37) rfl rfl Try.func76 (by kernel_rfl) rfl #[.slice A0 l0.length c0] rfl (by (try simp only [List.map_toArray, List.map_cons, List.map_nil]); first | done | rfl | (simp only [List.length_drop, List.length_take]; rfl)) ?_; (with_reducible refine (laws_toEntryS.calls kj7 _ _ l0 t241 _ ?side1 ?side2 A17.out).mono ?_); (case side1 => exact rc (Kd.C_below HR0.out HB.out)); (case side2 => exact HC0.out); rintro e w20 ⟨v242, rfl, ho0, hb⟩; refine ⟨_, rfl, ?_⟩; have n0_ := Aside0.mk (Kd.R_elder' (rr HO_6.out) (Kd.R_base ho0) hb); have n1_ := Aside0.mk (Kd.R_lower (Kd.R_new' ho0 (Kd.R_lt (rr HO_6.out))) (below_size (rb HB.out))); have n2_ := Aside0.mk (below_step (rb HB.out) hb); clear HO_6; clear HB; have HO_6 := n0_; have HO243 := n1_; have HB := n2_; clear n0_ n1_ n2_; (try clear hb); (try clear hb2); (try clear hk); (try clear hi); (try clear ho0); obtain ⟨Ao21, co21, eo21⟩ := Kd.R_slice HO243.out; subst eo21) | ((with_reducible refine gate_callee (f := 78) rfl ?_); refine goesL_ (some 38) rfl rfl Try.func78 (by kernel_rfl) rfl #[.slice Ao13 t236.length co13, .slice Ao21 t241.length co21] rfl (by (try simp only [List.map_toArray, List.map_cons, List.map_nil]); first | done | rfl | (simp only [List.length_drop, List.length_take]; rfl)) ?_; (with_reducible refine (laws_eqEntryS.calls kj7 _ _ t236 _ _ t241 true _ ?side1 ?side2 ?side3 ?side4 A18.out).mono ?_); (case side1 => exact rc (Kd.R_reads' HO_6.out).2.2); (case side2 => exact (Kd.R_reads' HO_6.out).2.1); (case side3 => exact rc (Kd.R_reads' HO243.out).2.2); (case side4 => exact (Kd.R_reads' HO243.out).2.1); rintro e w22 ⟨rfl, hb⟩; refine ⟨_, rfl, ?_⟩; have n0_ := Aside0.mk (Kd.R_below (rr HO_6.out) hb); have n1_ := Aside0.mk (Kd.R_below (rr HO243.out) hb); have n2_ := Aside0.mk (below_step (rb HB.out) hb); clear HO_6; clear HO243; clear HB; have HO_6 := n0_; have HO243 := n1_; have HB := n2_; clear n0_ n1_ n2_; (try clear hb); (try clear hb2); (try clear hk); (try clear hi)))
   go_ret
   exact ⟨by first | rfl | (simp [errW_none, errW_some] <;> rfl) | (simp [*, errW_none, errW_some] <;> rfl), by repeat (first | (with_reducible first | exact HB.out | apply below_alloc | apply pw_below_drewN | apply below_drew1) | exact HB.out)⟩

end Go.Proofs.Ytfobhfnkjmfbmaa.PFnExactLogText
