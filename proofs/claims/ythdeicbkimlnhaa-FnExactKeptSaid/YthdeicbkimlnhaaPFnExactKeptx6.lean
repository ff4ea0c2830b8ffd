import Derived.Test.YthdeicbkimlnhaaPFnExactKeptx0
import Derived.Test.YthdeicbkimlnhaaPFnExactKeptx5
namespace Go.Proofs.Ythdeicbkimlnhaa.PFnExactKept
open Go.RowKit Go.Proofs.YthdeicbkimlnhaaW.PrintWords Go.Proofs.YthdeicbkimlnhaaW.PrintLast Go.Proofs.YthdeicbkimlnhaaW.PrintMore Go.Proofs.YthdeicbkimlnhaaH
attribute [local go_sem] max2_int min2_int max_two min_two max_three min_three max_four min_four   -- for this text's walks alone
set_option linter.unusedVariables false
set_option linter.unusedSimpArgs false
set_option maxRecDepth 100000

/-! ### impl_copyKeeper: function 110 -/
def impl_copyKeeper.f (l0_0 : List (S134)) (l0_1 : List Int) (l0_2 : List (S127)) (a0_3 : Int) (l0_4 : List Int) : Option ((List (S134)) × List Int × (List (S127)) × Int × List Int) := (some (([] : List (S134)) : List (S134))).bind fun y207 => (if y207.length + l0_0.length < 2932031007402 then ((impl_copyInts.f l0_1).bind fun t213 => ((some (([] : List (S127)) : List (S127))).bind fun y216 => (if y216.length + l0_2.length < 2932031007402 then ((impl_copyInts.f l0_4).bind fun t222 => (some ((y207 ++ l0_0), t213, (y216 ++ l0_2), a0_3, t222))) else (none)))) else (none))
def impl_copyKeeper.T1 : Bool × List (List Nat × List Nat) := (true, [([], []), ([], []), ([1], [1]), ([0, 2], [0, 2]), ([], []), ([4], [4]), ([5, 3], [5]), ([], []), ([], []), ([8], [8]), ([7, 9, 6], [7, 9]), ([], []), ([11], [11]), ([], []), ([13], [13]), ([14, 10], [14]), ([3, 6, 10, 12, 15], [3, 6, 10, 12, 15]), ([16, 15, 0, 1, 2, 3, 4, 5, 6, 7, 8, 9, 10, 11, 12, 13, 14, 15, 16], [16])])
def impl_copyKeeper.B1 : List Nat := [0, 0, 2, 7, 0, 16, 63, 0, 0, 256, 1023, 0, 2048, 0, 8192, 26623, 65535, 131071]
theorem impl_copyKeeper.tab1 : rtab .any (opsOf Try.f110 1) = impl_copyKeeper.T1 := by kernel_rfl
theorem impl_copyKeeper.bits1 : waitsOk impl_copyKeeper.T1.2 impl_copyKeeper.B1 = true := by kernel_rfl
set_option maxHeartbeats 8000000 in
theorem impl_copyKeeper.calls (A0_0 : Option Addr) (c0_0 : Nat) (l0_0 : List (S134)) (A0_1 : Option Addr) (c0_1 : Nat) (l0_1 : List Int) (A0_2 : Option Addr) (c0_2 : Nat) (l0_2 : List (S127)) (a0_3 : Int) (A0_4 : Option Addr) (c0_4 : Nat) (l0_4 : List Int) (r1 : List (S134)) (r2 : List Int) (r3 : List (S127)) (r4 : Int) (r5 : List Int) (w : World) (hr0_0 : Kd.C k134 w A0_0 l0_0.length l0_0) (hc0_0 : l0_0.length ≤ c0_0) (hr0_1 : Kd.C (Kd.int .i64) w A0_1 l0_1.length l0_1) (hc0_1 : l0_1.length ≤ c0_1) (hr0_2 : Kd.C k127 w A0_2 l0_2.length l0_2) (hc0_2 : l0_2.length ≤ c0_2) (hr0_4 : Kd.C (Kd.int .i64) w A0_4 l0_4.length l0_4) (hc0_4 : l0_4.length ≤ c0_4) (h : impl_copyKeeper.f l0_0 l0_1 l0_2 a0_3 l0_4 = some (r1, r2, r3, r4, r5)) :
  Calls Try.prog 110 #[.agg #[.slice A0_0 l0_0.length c0_0, .slice A0_1 l0_1.length c0_1, .slice A0_2 l0_2.length c0_2, .int .i64 a0_3, .slice A0_4 l0_4.length c0_4]] w fun e w' => ∃ v0_ v1_ v2_ v4_ : Value, e = .returned (.agg #[v0_, v1_, v2_, .int .i64 r4, v4_]) ∧ Kd.R k134 134 w' w.heap.size (fun _ => True) v0_ r1 ∧ Kd.R (Kd.int .i64) 3 w' w.heap.size (fun k_ => some k_ ≠ (v4_ : Value).ownBlock) v1_ r2 ∧ Kd.R k127 127 w' w.heap.size (fun _ => True) v2_ r3 ∧ Kd.R (Kd.int .i64) 3 w' w.heap.size (fun k_ => some k_ ≠ (v1_ : Value).ownBlock) v4_ r5 ∧ Below w.heap.size w w' := by
 have hu51 := Try.underlying51
 have HR0_0 := ak hr0_0
 have HC0_0 := ak hc0_0
 clear hr0_0 hc0_0
 have HR0_1 := ak hr0_1
 have HC0_1 := ak hc0_1
 clear hr0_1 hc0_1
 have HR0_2 := ak hr0_2
 have HC0_2 := ak hc0_2
 clear hr0_2 hc0_2
 have HR0_4 := ak hr0_4
 have HC0_4 := ak hc0_4
 clear hr0_4 hc0_4
 have HB := ak (Below.refl w.heap.size w)
 have H := h
 clear h
 unfold impl_copyKeeper.f at H
 obtain ⟨y207, hy207⟩ : ∃ y_ : List (S134), y_ = (([] : List (S134))) := ⟨_, rfl⟩
 replace H : (if y207.length + l0_0.length < 2932031007402 then ((impl_copyInts.f l0_1).bind fun t213 => ((some (([] : List (S127)) : List (S127))).bind fun y216 => (if y216.length + l0_2.length < 2932031007402 then ((impl_copyInts.f l0_4).bind fun t222 => (some ((y207 ++ l0_0), t213, (y216 ++ l0_2), a0_3, t222))) else (none)))) else (none)) = some (r1, r2, r3, r4, r5) := by first | (rw [hy207]; with_reducible exact H) | (have H2_ := (Option.bind_some _ _).symm.trans H; rw [hy207]; with_reducible exact H2_) | (have H2_ := (Option.bind_some _ _).symm.trans H; with_reducible exact H2_) | with_reducible exact H | (rw [hy207]; exact H) | exact H
 have Ny207 := ak hy207
 clear hy207
 by_cases c2 : y207.length + l0_0.length < 2932031007402
 rotate_left
 ·rw [if_neg c2] at H
  exact absurd H (by simp)
 rw [if_pos c2] at H
 have LMc2 := ak c2
 clear c2
 obtain ⟨y210, hy210⟩ : ∃ y_ : List (S134), y_ = (y207 ++ l0_0) := ⟨_, rfl⟩
 replace H : ((impl_copyInts.f l0_1).bind fun t213 => ((some (([] : List (S127)) : List (S127))).bind fun y216 => (if y216.length + l0_2.length < 2932031007402 then ((impl_copyInts.f l0_4).bind fun t222 => (some (y210, t213, (y216 ++ l0_2), a0_3, t222))) else (none)))) = some (r1, r2, r3, r4, r5) := by first | (rw [hy210]; with_reducible exact H) | (have H2_ := (Option.bind_some _ _).symm.trans H; rw [hy210]; with_reducible exact H2_) | (have H2_ := (Option.bind_some _ _).symm.trans H; with_reducible exact H2_) | with_reducible exact H | (rw [hy210]; exact H) | exact H
 have Ny210 := ak hy210
 clear hy210
 replace H := Option.bind_eq_some_iff.mp H
 obtain ⟨t213, A30, H⟩ := H
 try dsimp only at H
 have A3 := ak A30
 clear A30
 obtain ⟨y216, hy216⟩ : ∃ y_ : List (S127), y_ = (([] : List (S127))) := ⟨_, rfl⟩
 replace H : (if y216.length + l0_2.length < 2932031007402 then ((impl_copyInts.f l0_4).bind fun t222 => (some (y210, t213, (y216 ++ l0_2), a0_3, t222))) else (none)) = some (r1, r2, r3, r4, r5) := by first | (rw [hy216]; with_reducible exact H) | (have H2_ := (Option.bind_some _ _).symm.trans H; rw [hy216]; with_reducible exact H2_) | (have H2_ := (Option.bind_some _ _).symm.trans H; with_reducible exact H2_) | with_reducible exact H | (rw [hy216]; exact H) | exact H
 have Ny216 := ak hy216
 clear hy216
 by_cases c4 : y216.length + l0_2.length < 2932031007402
 rotate_left
 ·rw [if_neg c4] at H
  exact absurd H (by simp)
 rw [if_pos c4] at H
 have LMc4 := ak c4
 clear c4
 obtain ⟨y219, hy219⟩ : ∃ y_ : List (S127), y_ = (y216 ++ l0_2) := ⟨_, rfl⟩
 replace H : ((impl_copyInts.f l0_4).bind fun t222 => (some (y210, t213, y219, a0_3, t222))) = some (r1, r2, r3, r4, r5) := by first | (rw [hy219]; with_reducible exact H) | (have H2_ := (Option.bind_some _ _).symm.trans H; rw [hy219]; with_reducible exact H2_) | (have H2_ := (Option.bind_some _ _).symm.trans H; with_reducible exact H2_) | with_reducible exact H | (rw [hy219]; exact H) | exact H
 have Ny219 := ak hy219
 clear hy219
 replace H := Option.bind_eq_some_iff.mp H
 obtain ⟨t222, A50, H⟩ := H
 try dsimp only at H
 have A5 := ak A50
 clear A50
 simp only [Option.some.injEq, Prod.mk.injEq] at H
 obtain ⟨rfl, rfl, rfl, rfl, rfl⟩ := H
 go_enter Try.func110, Try.ntmps110
 try go_wp2_with (first | ((with_reducible refine gate_dst (N := 1) rfl ?_); refine box_event ?hg (N := 1) ?hd (cs := #[.slice A0_0 l0_0.length c0_0, .slice A0_1 l0_1.length c0_1, .slice A0_2 l0_2.length c0_2, .int .i64 a0_3, .slice A0_4 l0_4.length c0_4]) (t := 51) ?hr ?_; (case hd => rfl); (case hg => rfl); (case hr => first | (go_simp; done) | (go_simp; rfl)); intro gb205 hg w6 hbox hb; have n_ : _ ∧ _ ∧ _ ∧ _ := ⟨kh HB hb, ak (hbox), kz HB hg, kz HB hg⟩; clear HB hb hbox hg; obtain ⟨HB, BK205, GW205, GE205⟩ := n_) | ((with_reducible refine gate_dst (N := 2) rfl ?_); refine box_event ?hg (N := 2) ?hd (cs := #[.slice none 0 0, .slice none 0 0, .slice none 0 0, .int .i64 0, .slice none 0 0]) (t := 51) ?hr ?_; (case hd => rfl); (case hg => rfl); (case hr => first | (go_simp; done) | (go_simp; rfl)); intro gb206 hg w7 hbox hb; have n_ : _ ∧ _ ∧ _ ∧ _ ∧ _ ∧ _ ∧ _ := ⟨kb BK205 hb, kh HB hb, ak (hbox), kz HB hg, kz HB hg, nl BK205 hg, ng BK205 hg⟩; clear BK205 HB hb hbox hg; obtain ⟨BK205, HB, BK206, GW206, GE206, NB205_206, NB206_205⟩ := n_))
 have n_ : _ ∧ _ ∧ _ := ⟨ak (blk_drew BK205.out), ak (blk_drew BK206.out), ak (below_drew1 HB.out)⟩
 clear BK205 BK206 HB
 obtain ⟨BK205, BK206, HB⟩ := n_
 refine start_ (n := 18) (S := fun w' => True) (ds := []) #[false, false, false, false, false, false, false, false, false, false, false, false, false, false, false, false, false, false] (by kernel_rfl) rfl rfl trivial (fun hHeld => ?_); refine with_tabW impl_copyKeeper.tab1 impl_copyKeeper.bits1 (fun HT_ HW_ => ?_)
 generalize w7.drew = w8 at BK205 BK206 HB hHeld ⊢
 refine pure_ (i := 1) (N := some 4) (v := ?_) (a' := ?_) #[false, true, false, false, false, false, false, false, false, false, false, false, false, false, false, false, false, false] rfl rfl (any_of HT_.out (by kernel_rfl)) (fun _ _ _ h => h) (Or.inl ⟨by rfl, ?_⟩) ?_ ?_
 rotate_left
 ·intro w'
  go_simp
  with_reducible rfl
 rotate_left
 ·simp only [Act.put, List.setIfInBounds_toArray, List.set_cons_zero, List.set_cons_succ, i64_w, i32_w]
  rfl
 refine pure_ (i := 4) (N := some 7) (v := ?_) (a' := ?_) #[false, true, false, false, true, false, false, false, false, false, false, false, false, false, false, false, false, false] rfl rfl (any_of HT_.out (by kernel_rfl)) (fun _ _ _ h => h) (Or.inl ⟨by rfl, ?_⟩) ?_ ?_
 rotate_left
 ·intro w'
  go_simp
  with_reducible rfl
 rotate_left
 ·simp only [Act.put, List.setIfInBounds_toArray, List.set_cons_zero, List.set_cons_succ, i64_w, i32_w]
  rfl
 refine pure_ (i := 8) (N := some 11) (v := ?_) (a' := ?_) #[false, true, false, false, true, false, false, false, true, false, false, false, false, false, false, false, false, false] rfl rfl (any_of HT_.out (by kernel_rfl)) (fun _ _ _ h => h) (Or.inl ⟨by rfl, ?_⟩) ?_ ?_
 rotate_left
 ·intro w'
  go_simp
  with_reducible rfl
 rotate_left
 ·simp only [Act.put, List.setIfInBounds_toArray, List.set_cons_zero, List.set_cons_succ, i64_w, i32_w]
  rfl
 refine pure_ (i := 11) (N := some 14) (v := ?_) (a' := ?_) #[false, true, false, false, true, false, false, false, true, false, false, true, false, false, false, false, false, false] rfl rfl (any_of HT_.out (by kernel_rfl)) (fun _ _ _ h => h) (Or.inl ⟨by rfl, ?_⟩) ?_ ?_
 rotate_left
 ·intro w'
  go_simp
  with_reducible rfl
 rotate_left
 ·simp only [Act.put, List.setIfInBounds_toArray, List.set_cons_zero, List.set_cons_succ, i64_w, i32_w]
  rfl
 refine pure_ (i := 13) (N := some 16) (v := ?_) (a' := ?_) #[false, true, false, false, true, false, false, false, true, false, false, true, false, true, false, false, false, false] rfl rfl (any_of HT_.out (by kernel_rfl)) (fun _ _ _ h => h) (Or.inl ⟨by rfl, ?_⟩) ?_ ?_
 rotate_left
 ·intro w'
  go_simp
  with_reducible rfl
 rotate_left
 ·simp only [Act.put, List.setIfInBounds_toArray, List.set_cons_zero, List.set_cons_succ, i64_w, i32_w]
  rfl
 refine inv_at [0, 2, 3, 5, 6, 7, 9, 10, 12, 14, 15, 16, 17] (fun a0_ b a w' => ∃ (v208 : Value) (v211 : Value) (v214 : Value) (v217 : Value) (v220 : Value) (v223 : Value) (m16_ : Value), a = putSel a0_ b [(0, 3, v208), (2, 5, .slice A0_0 l0_0.length c0_0), (3, 6, v211), (5, 8, .slice A0_1 l0_1.length c0_1), (6, 9, v214), (7, 10, v217), (9, 12, .slice A0_2 l0_2.length c0_2), (10, 13, v220), (12, 15, .int .i64 a0_3), (14, 17, .slice A0_4 l0_4.length c0_4), (15, 18, v223), (16, 19, m16_)] ∧ (w'.heap[gb205]? = some (.cells #[.slice A0_0 l0_0.length c0_0, .slice A0_1 l0_1.length c0_1, .slice A0_2 l0_2.length c0_2, .int .i64 a0_3, .slice A0_4 l0_4.length c0_4] 51 (0, 0))) ∧ (b 17 = false → w'.heap[gb206]? = some (.cells #[.slice none 0 0, .slice none 0 0, .slice none 0 0, .int .i64 0, .slice none 0 0] 51 (0, 0))) ∧ (Below w.heap.size w w') ∧ (b 0 = true → b 3 = false → Kd.R k134 134 w' w.heap.size (fun _ => True) v208 y207) ∧ (b 3 = true → Kd.R k134 134 w' w.heap.size (fun _ => True) v211 y210) ∧ (b 6 = true → Kd.R (Kd.int .i64) 3 w' w.heap.size (fun _ => True) v214 t213) ∧ (b 7 = true → b 10 = false → Kd.R k127 127 w' w.heap.size (fun _ => True) v217 y216) ∧ (b 10 = true → Kd.R k127 127 w' w.heap.size (fun _ => True) v220 y219) ∧ (b 15 = true → Kd.R (Kd.int .i64) 3 w' w.heap.size (fun _ => True) v223 t222) ∧ (b 17 = true → w'.heap[gb206]? = some (.cells #[v211, v214, v220, .int .i64 a0_3, v223] 51 (0, 0))) ∧ (b 16 = true → (m16_ : Value) = .agg #[v211, v214, v220, .int .i64 a0_3, v223]) ∧ (b 6 = true → b 15 = true → Ap v214 v223)) HT_.out HW_.out (by kernel_rfl) (by kernel_rfl) ?_ ?_ ?_
 ·exact ⟨.bool false, .bool false, .bool false, .bool false, .bool false, .bool false, .bool false, by simp only [putSel, Bool.false_eq_true, if_false], BK205.out, fun _ => BK206.out, HB.out, nf, nf, nf, nf, nf, nf, nf, nf, nf⟩
 ·skip
  clear BK205 BK206 HB
  refine steps_cons ?_ ?_
  ·rintro b a w' ⟨v208, v211, v214, v217, v220, v223, m16_, ha, Q_BK205, Q_BK206, Q_HB, Q_HO209, Q_HO212, Q_HO215, Q_HO218, Q_HO221, Q_HO224, Q_BK206_e17, Q_X16_, Q_AP214_223⟩ hb_ hon hoff
   refine ⟨_, rfl, fun K hK => ?_⟩
   replace ha := ak ha
   have BK205 := ak Q_BK205
   have BK206 := ak (Q_BK206 (hn hoff 17))
   have HB := ak Q_HB
   refine Kd.R_lit_step k134 _ 134 ?hg (N := 3) ?hd (xs := ([] : List (S134))) (inner := []) (ok := fun _ => True) (okp := fun _ => True) ?hr ?hp (fun _ hk => hk) trivial (Below.refl _ _) (Nat.le_refl _) (by simp) ?_; (case hd => rfl); (case hg => rfl); (case hr => first | (go_simp; done) | (go_simp; rfl)); (case hp => exact (Reps.none _ _))
   intro v208 w9 ho10 hb hg_ hnew_
   clear hg_ hnew_
   (first | rw [← Ny207.out] at ho10 | (simp only [Int.reduceToNat] at ho10; rw [← Ny207.out] at ho10))
   have n_ : _ ∧ _ ∧ _ ∧ _ := ⟨kl ho10 HB, kb BK205 hb, kb BK206 hb, kh HB hb⟩
   have z_HO218 := fun (h0_ : b 7 = true) (h1_ : b 10 = false) => (show Kd.R k127 127 w9 w.heap.size (fun _ => True) v217 y216 from zm (Kd.R_below (by (with_reducible repeat (first | apply Kd.R_alloc | apply Kd.R_drewN | apply Kd.R_drew)); exact (Q_HO218 h0_ h1_)) hb))
   clear BK205 BK206 HB hb ho10
   obtain ⟨HO209, BK205, BK206, HB⟩ := n_
   refine hK.out _ _ ⟨v208, v211, v214, v217, v220, v223, m16_, (by rw [ha.out]; exact putSel_upk 0 hb_ rfl rfl rfl), (rk BK205.out), fun _ => (rk BK206.out), (rb2 GE205.out GE206.out HB.out), fun _ _ => (rr HO209.out), nx (hn hoff 3), nx (hn hoff 6), z_HO218, nx (hn hoff 10), nx (hn hoff 15), nx (hn hoff 17), nx (hn hoff 16), Q_AP214_223⟩
  refine steps_cons ?_ ?_
  ·rintro b a w' ⟨v208, v211, v214, v217, v220, v223, m16_, ha, Q_BK205, Q_BK206, Q_HB, Q_HO209, Q_HO212, Q_HO215, Q_HO218, Q_HO221, Q_HO224, Q_BK206_e17, Q_X16_, Q_AP214_223⟩ hb_ hon hoff
   refine ⟨_, rfl, fun K hK => ?_⟩
   have e4 : a.tmps[4]? = some (.pointer (some ⟨gb205, 0, none⟩)) := by rw [ha]; exact (putSel_off rfl).trans rfl
   replace ha := ak ha
   have BK205 := ak Q_BK205
   have BK206 := ak (Q_BK206 (hn hoff 17))
   have HB := ak Q_HB
   have hc0_ : w'.cell? ⟨gb205, 0, none⟩ = some (.slice A0_0 l0_0.length c0_0) := (blk_cell BK205.out 0).trans rfl
   have hc1_ : w'.cell? ⟨gb205, 1, none⟩ = some (.slice A0_1 l0_1.length c0_1) := (blk_cell BK205.out 1).trans rfl
   have hc2_ : w'.cell? ⟨gb205, 2, none⟩ = some (.slice A0_2 l0_2.length c0_2) := (blk_cell BK205.out 2).trans rfl
   have hc3_ : w'.cell? ⟨gb205, 3, none⟩ = some (.int .i64 a0_3) := (blk_cell BK205.out 3).trans rfl
   have hc4_ : w'.cell? ⟨gb205, 4, none⟩ = some (.slice A0_4 l0_4.length c0_4) := (blk_cell BK205.out 4).trans rfl
   refine value_ (w1 := w') (v := .slice A0_0 l0_0.length c0_0) (by rfl) rfl ?_ ?_
   ·go_simp
    (try simp only [i64_w])
    try rfl
   refine hK.out _ _ ⟨v208, v211, v214, v217, v220, v223, m16_, (by rw [ha.out]; exact putSel_upk 1 hb_ rfl rfl rfl), Q_BK205, Q_BK206, Q_HB, Q_HO209, nx (hn hoff 3), nx (hn hoff 6), Q_HO218, nx (hn hoff 10), nx (hn hoff 15), nx (hn hoff 17), nx (hn hoff 16), Q_AP214_223⟩
  refine steps_cons ?_ ?_
  ·rintro b a w' ⟨v208, v211, v214, v217, v220, v223, m16_, ha, Q_BK205, Q_BK206, Q_HB, Q_HO209, Q_HO212, Q_HO215, Q_HO218, Q_HO221, Q_HO224, Q_BK206_e17, Q_X16_, Q_AP214_223⟩ hb_ hon hoff
   refine ⟨_, rfl, fun K hK => ?_⟩
   have e3 : a.tmps[3]? = some (v208) := by rw [ha]; exact putSel_on (e := (0, 3, v208)) 0 rfl rfl (hn hon 0) rfl
   have e5 : a.tmps[5]? = some (.slice A0_0 l0_0.length c0_0) := by rw [ha]; exact putSel_on (e := (2, 5, .slice A0_0 l0_0.length c0_0)) 1 rfl rfl (hn hon 2) rfl
   replace ha := ak ha
   have BK205 := ak Q_BK205
   have BK206 := ak (Q_BK206 (hn hoff 17))
   have HB := ak Q_HB
   have HO209 := ak (Q_HO209 (hn hon 0) hb_)
   refine Kd.R_append_rows_step k134 (w0 := w) w.heap.size (by rfl) (.tmp 3) (.tmp 5) 48 134 (.agg #[(.int .i64 0), (.int .i64 0), (.int .i64 0), (.int .i64 0), (.int .i64 0), (.int .i64 0)]) 48 rfl Try.underlying48 info134 rfl (by decide) (by omega) v208 y207 l0_0 _ _ _ (fun _ => True) (fun _ => False) (by first | rfl | exact ev_ e3) (by first | rfl | exact ev_ e5) ?aO ?aR (fun _ _ h => h) (fun _ h => h.elim) ?aF ?aB ?aS ?aL ?_
   (case aR => repeat (first | exact (Kd.C_below HR0_0.out HB.out) | (with_reducible refine Kd.C_alloc ?_ _) | (with_reducible refine Kd.C_drewN ?_ _) | (with_reducible refine Kd.C_drew ?_)))
   (case aB => exact (rb2 GE205.out GE206.out HB.out))
   (case aF => exact (fun _ _ => trivial))
   (case aO => exact (rr HO209.out))
   (case aS => exact (below_size (rb2 GE205.out GE206.out HB.out)))
   (case aL => have := LMc2.out; omega)
   intro v211 w12 ho hb hg hat
   rw [← Ny210.out] at ho
   have n_ : _ ∧ _ ∧ _ ∧ _ := ⟨kg BK205 HO209 hg, kg BK206 HO209 hg, ak (hb), ak (ho)⟩
   have z_HO218 := fun (h0_ : b 7 = true) (h1_ : b 10 = false) => (show Kd.R k127 127 w12 w.heap.size (fun _ => True) v217 y216 from zm (Kd.R_over' (by (with_reducible repeat (first | apply Kd.R_alloc | apply Kd.R_drewN | apply Kd.R_drew)); exact (Q_HO218 h0_ h1_)) (Kd.R_typed (rr HO209.out)) (by decide) hg))
   clear BK205 BK206 HB HO209 ho hb hg hat
   obtain ⟨BK205, BK206, HB, HO212⟩ := n_
   refine hK.out _ _ ⟨v208, v211, v214, v217, v220, v223, m16_, (by rw [ha.out]; exact putSel_upk 2 hb_ rfl rfl rfl), (rk BK205.out), fun _ => (rk BK206.out), (rb2 GE205.out GE206.out HB.out), fun _ h1_ => absurd ((up_self b 3).symm.trans h1_) (by decide), fun _ => (rr HO212.out), nx (hn hoff 6), z_HO218, nx (hn hoff 10), nx (hn hoff 15), nx (hn hoff 17), nx (hn hoff 16), Q_AP214_223⟩
  refine steps_cons ?_ ?_
  ·rintro b a w' ⟨v208, v211, v214, v217, v220, v223, m16_, ha, Q_BK205, Q_BK206, Q_HB, Q_HO209, Q_HO212, Q_HO215, Q_HO218, Q_HO221, Q_HO224, Q_BK206_e17, Q_X16_, Q_AP214_223⟩ hb_ hon hoff
   refine ⟨_, rfl, fun K hK => ?_⟩
   have e7 : a.tmps[7]? = some (.pointer (some ⟨gb205, 1, none⟩)) := by rw [ha]; exact (putSel_off rfl).trans rfl
   replace ha := ak ha
   have BK205 := ak Q_BK205
   have BK206 := ak (Q_BK206 (hn hoff 17))
   have HB := ak Q_HB
   have hc0_ : w'.cell? ⟨gb205, 0, none⟩ = some (.slice A0_0 l0_0.length c0_0) := (blk_cell BK205.out 0).trans rfl
   have hc1_ : w'.cell? ⟨gb205, 1, none⟩ = some (.slice A0_1 l0_1.length c0_1) := (blk_cell BK205.out 1).trans rfl
   have hc2_ : w'.cell? ⟨gb205, 2, none⟩ = some (.slice A0_2 l0_2.length c0_2) := (blk_cell BK205.out 2).trans rfl
   have hc3_ : w'.cell? ⟨gb205, 3, none⟩ = some (.int .i64 a0_3) := (blk_cell BK205.out 3).trans rfl
   have hc4_ : w'.cell? ⟨gb205, 4, none⟩ = some (.slice A0_4 l0_4.length c0_4) := (blk_cell BK205.out 4).trans rfl
   refine value_ (w1 := w') (v := .slice A0_1 l0_1.length c0_1) (by rfl) rfl ?_ ?_
   ·go_simp
    (try simp only [i64_w])
    try rfl
   refine hK.out _ _ ⟨v208, v211, v214, v217, v220, v223, m16_, (by rw [ha.out]; exact putSel_upk 3 hb_ rfl rfl rfl), Q_BK205, Q_BK206, Q_HB, Q_HO209, Q_HO212, nx (hn hoff 6), Q_HO218, nx (hn hoff 10), nx (hn hoff 15), nx (hn hoff 17), nx (hn hoff 16), Q_AP214_223⟩
  refine steps_cons ?_ ?_
  ·rintro b a w' ⟨v208, v211, v214, v217, v220, v223, m16_, ha, Q_BK205, Q_BK206, Q_HB, Q_HO209, Q_HO212, Q_HO215, Q_HO218, Q_HO221, Q_HO224, Q_BK206_e17, Q_X16_, Q_AP214_223⟩ hb_ hon hoff
   refine ⟨_, rfl, fun K hK => ?_⟩
   have e8 : a.tmps[8]? = some (.slice A0_1 l0_1.length c0_1) := by rw [ha]; exact putSel_on (e := (5, 8, .slice A0_1 l0_1.length c0_1)) 3 rfl rfl (hn hon 5) rfl
   replace ha := ak ha
   have BK205 := ak Q_BK205
   have BK206 := ak (Q_BK206 (hn hoff 17))
   have HB := ak Q_HB
   have HO212 := ak (Q_HO212 (hn hon 3))
   refine goes_ Try.func112 (by kernel_rfl) rfl #[.slice A0_1 l0_1.length c0_1] (by rfl) rfl rfl (by first | (simp only [List.map_toArray, List.map_cons, List.map_nil, Act.eval, Array.getD_eq_getD_getElem?, Option.getD_some, e8]; done) | (simp only [List.map_toArray, List.map_cons, List.map_nil, Act.eval, Array.getD_eq_getD_getElem?, Option.getD_some, e8]; rfl)) ?_
   with_reducible refine (impl_copyInts.calls _ _ l0_1 t213 _ ?side1 ?side2 A3.out).mono ?_
   (case side1 => exact rc (Kd.C_below HR0_1.out HB.out))
   (case side2 => exact HC0_1.out)
   rintro e w13 ⟨v214, rfl, ho0, hb⟩
   refine ⟨_, rfl, ?_⟩
   have n_ : _ ∧ _ ∧ _ ∧ _ ∧ _ := ⟨ka HO212 hb, kl ho0 HB, kb BK205 hb, kb BK206 hb, kh HB hb⟩
   have z_HO218 := fun (h0_ : b 7 = true) (h1_ : b 10 = false) => (show Kd.R k127 127 w13 w.heap.size (fun _ => True) v217 y216 from zm (Kd.R_below (by (with_reducible repeat (first | apply Kd.R_alloc | apply Kd.R_drewN | apply Kd.R_drew)); exact (Q_HO218 h0_ h1_)) hb))
   clear HO212 BK205 BK206 HB
   obtain ⟨HO212, HO215, BK205, BK206, HB⟩ := n_
   (try clear hb)
   (try clear hb2)
   (try clear hk)
   (try clear hi)
   (try clear ho0)
   refine hK.out _ _ ⟨v208, v211, v214, v217, v220, v223, m16_, (by rw [ha.out]; exact putSel_upk 4 hb_ rfl rfl rfl), (rk BK205.out), fun _ => (rk BK206.out), (rb2 GE205.out GE206.out HB.out), fun _ h1_ => absurd ((hn hon 3).symm.trans h1_) (by decide), fun _ => (rr HO212.out), fun _ => (rr (Kd.R_mono HO215.out (fun _ _ => trivial))), z_HO218, nx (hn hoff 10), nx (hn hoff 15), nx (hn hoff 17), nx (hn hoff 16), fun _ => nx (hn hoff 15)⟩
  refine steps_cons ?_ ?_
  ·rintro b a w' ⟨v208, v211, v214, v217, v220, v223, m16_, ha, Q_BK205, Q_BK206, Q_HB, Q_HO209, Q_HO212, Q_HO215, Q_HO218, Q_HO221, Q_HO224, Q_BK206_e17, Q_X16_, Q_AP214_223⟩ hb_ hon hoff
   refine ⟨_, rfl, fun K hK => ?_⟩
   replace ha := ak ha
   have BK205 := ak Q_BK205
   have BK206 := ak (Q_BK206 (hn hoff 17))
   have HB := ak Q_HB
   refine Kd.R_lit_step k127 _ 127 ?hg (N := 10) ?hd (xs := ([] : List (S127))) (inner := []) (ok := fun _ => True) (okp := fun _ => True) ?hr ?hp (fun _ hk => hk) trivial (Below.refl _ _) (Nat.le_refl _) (by simp) ?_; (case hd => rfl); (case hg => rfl); (case hr => first | (go_simp; done) | (go_simp; rfl)); (case hp => exact (Reps.none _ _))
   intro v217 w9 ho10 hb hg_ hnew_
   clear hg_ hnew_
   (first | rw [← Ny216.out] at ho10 | (simp only [Int.reduceToNat] at ho10; rw [← Ny216.out] at ho10))
   have n_ : _ ∧ _ ∧ _ ∧ _ := ⟨kl ho10 HB, kb BK205 hb, kb BK206 hb, kh HB hb⟩
   have z_HO209 := fun (h0_ : b 0 = true) (h1_ : b 3 = false) => (show Kd.R k134 134 w9 w.heap.size (fun _ => True) v208 y207 from zm (Kd.R_below (by (with_reducible repeat (first | apply Kd.R_alloc | apply Kd.R_drewN | apply Kd.R_drew)); exact (Q_HO209 h0_ h1_)) hb))
   have z_HO212 := fun (h0_ : b 3 = true) => (show Kd.R k134 134 w9 w.heap.size (fun _ => True) v211 y210 from zm (Kd.R_below (by (with_reducible repeat (first | apply Kd.R_alloc | apply Kd.R_drewN | apply Kd.R_drew)); exact (Q_HO212 h0_)) hb))
   have z_HO215 := fun (h0_ : b 6 = true) => (show Kd.R (Kd.int .i64) 3 w9 w.heap.size (fun _ => True) v214 t213 from zm (Kd.R_below (by (with_reducible repeat (first | apply Kd.R_alloc | apply Kd.R_drewN | apply Kd.R_drew)); exact (Q_HO215 h0_)) hb))
   clear BK205 BK206 HB hb ho10
   obtain ⟨HO218, BK205, BK206, HB⟩ := n_
   refine hK.out _ _ ⟨v208, v211, v214, v217, v220, v223, m16_, (by rw [ha.out]; exact putSel_upk 5 hb_ rfl rfl rfl), (rk BK205.out), fun _ => (rk BK206.out), (rb2 GE205.out GE206.out HB.out), z_HO209, z_HO212, z_HO215, fun _ _ => (rr HO218.out), nx (hn hoff 10), nx (hn hoff 15), nx (hn hoff 17), nx (hn hoff 16), Q_AP214_223⟩
  refine steps_cons ?_ ?_
  ·rintro b a w' ⟨v208, v211, v214, v217, v220, v223, m16_, ha, Q_BK205, Q_BK206, Q_HB, Q_HO209, Q_HO212, Q_HO215, Q_HO218, Q_HO221, Q_HO224, Q_BK206_e17, Q_X16_, Q_AP214_223⟩ hb_ hon hoff
   refine ⟨_, rfl, fun K hK => ?_⟩
   have e11 : a.tmps[11]? = some (.pointer (some ⟨gb205, 2, none⟩)) := by rw [ha]; exact (putSel_off rfl).trans rfl
   replace ha := ak ha
   have BK205 := ak Q_BK205
   have BK206 := ak (Q_BK206 (hn hoff 17))
   have HB := ak Q_HB
   have hc0_ : w'.cell? ⟨gb205, 0, none⟩ = some (.slice A0_0 l0_0.length c0_0) := (blk_cell BK205.out 0).trans rfl
   have hc1_ : w'.cell? ⟨gb205, 1, none⟩ = some (.slice A0_1 l0_1.length c0_1) := (blk_cell BK205.out 1).trans rfl
   have hc2_ : w'.cell? ⟨gb205, 2, none⟩ = some (.slice A0_2 l0_2.length c0_2) := (blk_cell BK205.out 2).trans rfl
   have hc3_ : w'.cell? ⟨gb205, 3, none⟩ = some (.int .i64 a0_3) := (blk_cell BK205.out 3).trans rfl
   have hc4_ : w'.cell? ⟨gb205, 4, none⟩ = some (.slice A0_4 l0_4.length c0_4) := (blk_cell BK205.out 4).trans rfl
   refine value_ (w1 := w') (v := .slice A0_2 l0_2.length c0_2) (by rfl) rfl ?_ ?_
   ·go_simp
    (try simp only [i64_w])
    try rfl
   refine hK.out _ _ ⟨v208, v211, v214, v217, v220, v223, m16_, (by rw [ha.out]; exact putSel_upk 6 hb_ rfl rfl rfl), Q_BK205, Q_BK206, Q_HB, Q_HO209, Q_HO212, Q_HO215, Q_HO218, nx (hn hoff 10), nx (hn hoff 15), nx (hn hoff 17), nx (hn hoff 16), Q_AP214_223⟩
  refine steps_cons ?_ ?_
  ·rintro b a w' ⟨v208, v211, v214, v217, v220, v223, m16_, ha, Q_BK205, Q_BK206, Q_HB, Q_HO209, Q_HO212, Q_HO215, Q_HO218, Q_HO221, Q_HO224, Q_BK206_e17, Q_X16_, Q_AP214_223⟩ hb_ hon hoff
   refine ⟨_, rfl, fun K hK => ?_⟩
   have e10 : a.tmps[10]? = some (v217) := by rw [ha]; exact putSel_on (e := (7, 10, v217)) 5 rfl rfl (hn hon 7) rfl
   have e12 : a.tmps[12]? = some (.slice A0_2 l0_2.length c0_2) := by rw [ha]; exact putSel_on (e := (9, 12, .slice A0_2 l0_2.length c0_2)) 6 rfl rfl (hn hon 9) rfl
   replace ha := ak ha
   have BK205 := ak Q_BK205
   have BK206 := ak (Q_BK206 (hn hoff 17))
   have HB := ak Q_HB
   have HO212 := ak (Q_HO212 (hn hon 3))
   have HO215 := ak (Q_HO215 (hn hon 6))
   have HO218 := ak (Q_HO218 (hn hon 7) hb_)
   refine Kd.R_append_rows_step k127 (w0 := w) w.heap.size (by rfl) (.tmp 10) (.tmp 12) 49 127 (.agg #[(.int .i64 0), (.int .i64 0), (.int .i64 0), (.int .i64 0), (.int .i64 0), (.int .i64 0)]) 48 rfl Try.underlying49 info127 rfl (by decide) (by omega) v217 y216 l0_2 _ _ _ (fun _ => True) (fun _ => False) (by first | rfl | exact ev_ e10) (by first | rfl | exact ev_ e12) ?aO ?aR (fun _ _ h => h) (fun _ h => h.elim) ?aF ?aB ?aS ?aL ?_
   (case aR => repeat (first | exact (Kd.C_below HR0_2.out HB.out) | (with_reducible refine Kd.C_alloc ?_ _) | (with_reducible refine Kd.C_drewN ?_ _) | (with_reducible refine Kd.C_drew ?_)))
   (case aB => exact (rb2 GE205.out GE206.out HB.out))
   (case aF => exact (fun _ _ => trivial))
   (case aO => exact (rr HO218.out))
   (case aS => exact (below_size (rb2 GE205.out GE206.out HB.out)))
   (case aL => have := LMc4.out; omega)
   intro v220 w16 ho hb hg hat
   rw [← Ny219.out] at ho
   have n_ : _ ∧ _ ∧ _ ∧ _ ∧ _ ∧ _ := ⟨kg BK205 HO218 hg, kg BK206 HO218 hg, ak (Kd.R_over' (rr HO212.out) (Kd.R_typed (rr HO218.out)) (by decide) hg), ak (Kd.R_over' (rr HO215.out) (Kd.R_typed (rr HO218.out)) (by decide) hg), ak (hb), ak (ho)⟩
   clear BK205 BK206 HO212 HO215 HB HO218 ho hb hg hat
   obtain ⟨BK205, BK206, HO212, HO215, HB, HO221⟩ := n_
   refine hK.out _ _ ⟨v208, v211, v214, v217, v220, v223, m16_, (by rw [ha.out]; exact putSel_upk 7 hb_ rfl rfl rfl), (rk BK205.out), fun _ => (rk BK206.out), (rb2 GE205.out GE206.out HB.out), fun _ h1_ => absurd ((hn hon 3).symm.trans h1_) (by decide), fun _ => (rr HO212.out), fun _ => (rr (Kd.R_mono HO215.out (fun _ _ => trivial))), fun _ h1_ => absurd ((up_self b 10).symm.trans h1_) (by decide), fun _ => (rr HO221.out), nx (hn hoff 15), nx (hn hoff 17), nx (hn hoff 16), Q_AP214_223⟩
  refine steps_cons ?_ ?_
  ·rintro b a w' ⟨v208, v211, v214, v217, v220, v223, m16_, ha, Q_BK205, Q_BK206, Q_HB, Q_HO209, Q_HO212, Q_HO215, Q_HO218, Q_HO221, Q_HO224, Q_BK206_e17, Q_X16_, Q_AP214_223⟩ hb_ hon hoff
   refine ⟨_, rfl, fun K hK => ?_⟩
   have e14 : a.tmps[14]? = some (.pointer (some ⟨gb205, 3, none⟩)) := by rw [ha]; exact (putSel_off rfl).trans rfl
   replace ha := ak ha
   have BK205 := ak Q_BK205
   have BK206 := ak (Q_BK206 (hn hoff 17))
   have HB := ak Q_HB
   have hc0_ : w'.cell? ⟨gb205, 0, none⟩ = some (.slice A0_0 l0_0.length c0_0) := (blk_cell BK205.out 0).trans rfl
   have hc1_ : w'.cell? ⟨gb205, 1, none⟩ = some (.slice A0_1 l0_1.length c0_1) := (blk_cell BK205.out 1).trans rfl
   have hc2_ : w'.cell? ⟨gb205, 2, none⟩ = some (.slice A0_2 l0_2.length c0_2) := (blk_cell BK205.out 2).trans rfl
   have hc3_ : w'.cell? ⟨gb205, 3, none⟩ = some (.int .i64 a0_3) := (blk_cell BK205.out 3).trans rfl
   have hc4_ : w'.cell? ⟨gb205, 4, none⟩ = some (.slice A0_4 l0_4.length c0_4) := (blk_cell BK205.out 4).trans rfl
   refine value_ (w1 := w') (v := .int .i64 a0_3) (by rfl) rfl ?_ ?_
   ·go_simp
    (try simp only [i64_w])
    try rfl
   refine hK.out _ _ ⟨v208, v211, v214, v217, v220, v223, m16_, (by rw [ha.out]; exact putSel_upk 8 hb_ rfl rfl rfl), Q_BK205, Q_BK206, Q_HB, Q_HO209, Q_HO212, Q_HO215, Q_HO218, Q_HO221, Q_HO224, nx (hn hoff 17), nx (hn hoff 16), Q_AP214_223⟩
  refine steps_cons ?_ ?_
  ·rintro b a w' ⟨v208, v211, v214, v217, v220, v223, m16_, ha, Q_BK205, Q_BK206, Q_HB, Q_HO209, Q_HO212, Q_HO215, Q_HO218, Q_HO221, Q_HO224, Q_BK206_e17, Q_X16_, Q_AP214_223⟩ hb_ hon hoff
   refine ⟨_, rfl, fun K hK => ?_⟩
   have e16 : a.tmps[16]? = some (.pointer (some ⟨gb205, 4, none⟩)) := by rw [ha]; exact (putSel_off rfl).trans rfl
   replace ha := ak ha
   have BK205 := ak Q_BK205
   have BK206 := ak (Q_BK206 (hn hoff 17))
   have HB := ak Q_HB
   have hc0_ : w'.cell? ⟨gb205, 0, none⟩ = some (.slice A0_0 l0_0.length c0_0) := (blk_cell BK205.out 0).trans rfl
   have hc1_ : w'.cell? ⟨gb205, 1, none⟩ = some (.slice A0_1 l0_1.length c0_1) := (blk_cell BK205.out 1).trans rfl
   have hc2_ : w'.cell? ⟨gb205, 2, none⟩ = some (.slice A0_2 l0_2.length c0_2) := (blk_cell BK205.out 2).trans rfl
   have hc3_ : w'.cell? ⟨gb205, 3, none⟩ = some (.int .i64 a0_3) := (blk_cell BK205.out 3).trans rfl
   have hc4_ : w'.cell? ⟨gb205, 4, none⟩ = some (.slice A0_4 l0_4.length c0_4) := (blk_cell BK205.out 4).trans rfl
   refine value_ (w1 := w') (v := .slice A0_4 l0_4.length c0_4) (by rfl) rfl ?_ ?_
   ·go_simp
    (try simp only [i64_w])
    try rfl
   refine hK.out _ _ ⟨v208, v211, v214, v217, v220, v223, m16_, (by rw [ha.out]; exact putSel_upk 9 hb_ rfl rfl rfl), Q_BK205, Q_BK206, Q_HB, Q_HO209, Q_HO212, Q_HO215, Q_HO218, Q_HO221, nx (hn hoff 15), nx (hn hoff 17), nx (hn hoff 16), Q_AP214_223⟩
  refine steps_cons ?_ ?_
  ·rintro b a w' ⟨v208, v211, v214, v217, v220, v223, m16_, ha, Q_BK205, Q_BK206, Q_HB, Q_HO209, Q_HO212, Q_HO215, Q_HO218, Q_HO221, Q_HO224, Q_BK206_e17, Q_X16_, Q_AP214_223⟩ hb_ hon hoff
   refine ⟨_, rfl, fun K hK => ?_⟩
   have e17 : a.tmps[17]? = some (.slice A0_4 l0_4.length c0_4) := by rw [ha]; exact putSel_on (e := (14, 17, .slice A0_4 l0_4.length c0_4)) 9 rfl rfl (hn hon 14) rfl
   replace ha := ak ha
   have BK205 := ak Q_BK205
   have BK206 := ak (Q_BK206 (hn hoff 17))
   have HB := ak Q_HB
   have HO212 := ak (Q_HO212 (hn hon 3))
   have HO215 := ak (Q_HO215 (hn hon 6))
   have HO221 := ak (Q_HO221 (hn hon 10))
   refine goes_ Try.func112 (by kernel_rfl) rfl #[.slice A0_4 l0_4.length c0_4] (by rfl) rfl rfl (by first | (simp only [List.map_toArray, List.map_cons, List.map_nil, Act.eval, Array.getD_eq_getD_getElem?, Option.getD_some, e17]; done) | (simp only [List.map_toArray, List.map_cons, List.map_nil, Act.eval, Array.getD_eq_getD_getElem?, Option.getD_some, e17]; rfl)) ?_
   with_reducible refine (impl_copyInts.calls _ _ l0_4 t222 _ ?side1 ?side2 A5.out).mono ?_
   (case side1 => exact rc (Kd.C_below HR0_4.out HB.out))
   (case side2 => exact HC0_4.out)
   rintro e w17 ⟨v223, rfl, ho0, hb⟩
   refine ⟨_, rfl, ?_⟩
   have n_ : _ ∧ _ ∧ _ ∧ _ ∧ _ ∧ _ ∧ _ := ⟨ka HO212 hb, ke HO215 ho0 hb, ka HO221 hb, kl (kn ho0 HO215) HB, kb BK205 hb, kb BK206 hb, kh HB hb⟩
   have z_AP214_223 := fun (g1_ : b 6 = true) (_ : up b 15 15 = true) => (show Ap v214 v223 from (ap_new ho0 (Q_HO215 g1_)).symm)
   clear HO212 HO215 HO221 BK205 BK206 HB
   obtain ⟨HO212, HO215, HO221, HO224, BK205, BK206, HB⟩ := n_
   (try clear hb)
   (try clear hb2)
   (try clear hk)
   (try clear hi)
   (try clear ho0)
   obtain ⟨Ao18, co18, eo18⟩ := Kd.R_slice HO224.out
   (first | subst eo18 | (injection eo18 with f1_ f2_ f3_; have f4_ := f1_.symm; have f5_ := f3_.symm; clear f1_ f2_ f3_; subst f4_; subst f5_))
   obtain ⟨Ao19, co19, eo19⟩ := Kd.R_slice HO221.out
   (first | subst eo19 | (injection eo19 with f1_ f2_ f3_; have f4_ := f1_.symm; have f5_ := f3_.symm; clear f1_ f2_ f3_; subst f4_; subst f5_))
   obtain ⟨Ao20, co20, eo20⟩ := Kd.R_slice HO215.out
   (first | subst eo20 | (injection eo20 with f1_ f2_ f3_; have f4_ := f1_.symm; have f5_ := f3_.symm; clear f1_ f2_ f3_; subst f4_; subst f5_))
   obtain ⟨Ao21, co21, eo21⟩ := Kd.R_slice HO212.out
   (first | subst eo21 | (injection eo21 with f1_ f2_ f3_; have f4_ := f1_.symm; have f5_ := f3_.symm; clear f1_ f2_ f3_; subst f4_; subst f5_))
   refine hK.out _ _ ⟨v208, .slice Ao21 y210.length co21, .slice Ao20 t213.length co20, v217, .slice Ao19 y219.length co19, .slice Ao18 t222.length co18, m16_, (by rw [ha.out]; exact putSel_upk 10 hb_ rfl rfl rfl), (rk BK205.out), fun _ => (rk BK206.out), (rb2 GE205.out GE206.out HB.out), fun _ h1_ => absurd ((hn hon 3).symm.trans h1_) (by decide), fun _ => (rr HO212.out), fun _ => (rr (Kd.R_mono HO215.out (fun _ _ => trivial))), fun _ h1_ => absurd ((hn hon 10).symm.trans h1_) (by decide), fun _ => (rr HO221.out), fun _ => (rr (Kd.R_mono HO224.out (fun _ _ => trivial))), nx (hn hoff 17), nx (hn hoff 16), z_AP214_223⟩
  refine steps_cons ?_ ?_
  ·rintro b a w' ⟨v208, v211, v214, v217, v220, v223, m16_, ha, Q_BK205, Q_BK206, Q_HB, Q_HO209, Q_HO212, Q_HO215, Q_HO218, Q_HO221, Q_HO224, Q_BK206_e17, Q_X16_, Q_AP214_223⟩ hb_ hon hoff
   refine ⟨_, rfl, fun K hK => ?_⟩
   have e6 : a.tmps[6]? = some (v211) := by rw [ha]; exact putSel_on (e := (3, 6, v211)) 2 rfl rfl (hn hon 3) rfl
   have e9 : a.tmps[9]? = some (v214) := by rw [ha]; exact putSel_on (e := (6, 9, v214)) 4 rfl rfl (hn hon 6) rfl
   have e13 : a.tmps[13]? = some (v220) := by rw [ha]; exact putSel_on (e := (10, 13, v220)) 7 rfl rfl (hn hon 10) rfl
   have e15 : a.tmps[15]? = some (.int .i64 a0_3) := by rw [ha]; exact putSel_on (e := (12, 15, .int .i64 a0_3)) 8 rfl rfl (hn hon 12) rfl
   have e18 : a.tmps[18]? = some (v223) := by rw [ha]; exact putSel_on (e := (15, 18, v223)) 10 rfl rfl (hn hon 15) rfl
   replace ha := ak ha
   have BK205 := ak Q_BK205
   have BK206 := ak (Q_BK206 (hn hoff 17))
   have HB := ak Q_HB
   have HO212 := ak (Q_HO212 (hn hon 3))
   have HO215 := ak (Q_HO215 (hn hon 6))
   have HO221 := ak (Q_HO221 (hn hon 10))
   have HO224 := ak (Q_HO224 (hn hon 15))
   obtain ⟨Ao16_0, co16_0, eo_⟩ := Kd.R_slice HO212.out
   subst eo_
   obtain ⟨Ao16_1, co16_1, eo_⟩ := Kd.R_slice HO215.out
   subst eo_
   obtain ⟨Ao16_2, co16_2, eo_⟩ := Kd.R_slice HO221.out
   subst eo_
   obtain ⟨Ao16_3, co16_3, eo_⟩ := Kd.R_slice HO224.out
   subst eo_
   refine value_ (w1 := w') (v := .agg #[.slice Ao16_0 y210.length co16_0, .slice Ao16_1 t213.length co16_1, .slice Ao16_2 y219.length co16_2, .int .i64 a0_3, .slice Ao16_3 t222.length co16_3]) (by rfl) rfl ?_ ?_
   ·go_simp
    (try simp only [i64_w])
    try rfl
   refine hK.out _ _ ⟨v208, .slice Ao16_0 y210.length co16_0, .slice Ao16_1 t213.length co16_1, v217, .slice Ao16_2 y219.length co16_2, .slice Ao16_3 t222.length co16_3, (.agg #[.slice Ao16_0 y210.length co16_0, .slice Ao16_1 t213.length co16_1, .slice Ao16_2 y219.length co16_2, .int .i64 a0_3, .slice Ao16_3 t222.length co16_3]), (by rw [ha.out]; exact putSel_upk 11 hb_ rfl rfl rfl), Q_BK205, Q_BK206, Q_HB, fun _ h1_ => absurd ((hn hon 3).symm.trans h1_) (by decide), Q_HO212, Q_HO215, fun _ h1_ => absurd ((hn hon 10).symm.trans h1_) (by decide), Q_HO221, Q_HO224, nx (hn hoff 17), fun _ => rfl, Q_AP214_223⟩
  refine steps_cons ?_ ?_
  ·rintro b a w' ⟨v208, v211, v214, v217, v220, v223, m16_, ha, Q_BK205, Q_BK206, Q_HB, Q_HO209, Q_HO212, Q_HO215, Q_HO218, Q_HO221, Q_HO224, Q_BK206_e17, Q_X16_, Q_AP214_223⟩ hb_ hon hoff
   refine ⟨_, rfl, fun K hK => ?_⟩
   have e2 : a.tmps[2]? = some (.pointer (some ⟨gb206, 0, none⟩)) := by rw [ha]; exact (putSel_off rfl).trans rfl
   have e19 : a.tmps[19]? = some (m16_) := by rw [ha]; exact putSel_on (e := (16, 19, m16_)) 11 rfl rfl (hn hon 16) rfl
   rw [Q_X16_ (hn hon 16)] at e19
   replace ha := ak ha
   have BK205 := ak Q_BK205
   have BK206 := ak (Q_BK206 hb_)
   have HB := ak Q_HB
   have HO212 := ak (Q_HO212 (hn hon 3))
   have HO215 := ak (Q_HO215 (hn hon 6))
   have HO221 := ak (Q_HO221 (hn hon 10))
   have HO224 := ak (Q_HO224 (hn hon 15))
   obtain ⟨Ao22, co22, eo22⟩ := Kd.R_slice HO224.out
   (first | subst eo22 | (injection eo22 with f1_ f2_ f3_; have f4_ := f1_.symm; have f5_ := f3_.symm; clear f1_ f2_ f3_; subst f4_; subst f5_))
   obtain ⟨Ao23, co23, eo23⟩ := Kd.R_slice HO221.out
   (first | subst eo23 | (injection eo23 with f1_ f2_ f3_; have f4_ := f1_.symm; have f5_ := f3_.symm; clear f1_ f2_ f3_; subst f4_; subst f5_))
   obtain ⟨Ao24, co24, eo24⟩ := Kd.R_slice HO215.out
   (first | subst eo24 | (injection eo24 with f1_ f2_ f3_; have f4_ := f1_.symm; have f5_ := f3_.symm; clear f1_ f2_ f3_; subst f4_; subst f5_))
   obtain ⟨Ao25, co25, eo25⟩ := Kd.R_slice HO212.out
   (first | subst eo25 | (injection eo25 with f1_ f2_ f3_; have f4_ := f1_.symm; have f5_ := f3_.symm; clear f1_ f2_ f3_; subst f4_; subst f5_))
   have hs26 : w'.cell? ⟨gb206, 0, none⟩ = some (.slice none 0 0) := (blk_cell BK206.out 0).trans rfl
   have hfs26 := blk_frozen BK206.out 0
   have hns26_0 := NB205_206.out
   have hms26_0 := NB206_205.out
   have hs27 : w'.cell? ⟨gb206, 1, none⟩ = some (.slice none 0 0) := (blk_cell BK206.out 1).trans rfl
   have hfs27 := blk_frozen BK206.out 1
   have hns27_0 := NB205_206.out
   have hms27_0 := NB206_205.out
   have hs28 : w'.cell? ⟨gb206, 2, none⟩ = some (.slice none 0 0) := (blk_cell BK206.out 2).trans rfl
   have hfs28 := blk_frozen BK206.out 2
   have hns28_0 := NB205_206.out
   have hms28_0 := NB206_205.out
   have hs29 : w'.cell? ⟨gb206, 3, none⟩ = some (.int .i64 0) := (blk_cell BK206.out 3).trans rfl
   have hfs29 := blk_frozen BK206.out 3
   have hns29_0 := NB205_206.out
   have hms29_0 := NB206_205.out
   have hs30 : w'.cell? ⟨gb206, 4, none⟩ = some (.slice none 0 0) := (blk_cell BK206.out 4).trans rfl
   have hfs30 := blk_frozen BK206.out 4
   have hns30_0 := NB205_206.out
   have hms30_0 := NB206_205.out
   refine skip_ (w1 := ?_) (by rfl) rfl ?_ ?_
   rotate_left
   ·go_simp
    rfl
   refine hK.out _ _ ⟨v208, .slice Ao25 y210.length co25, .slice Ao24 t213.length co24, v217, .slice Ao23 y219.length co23, .slice Ao22 t222.length co22, m16_, (by rw [ha.out]; exact putSel_none (v := undef) rfl), (kq BK205), fun h0_ => absurd ((up_self b 17).symm.trans h0_) (by decide), (rb2 GE205.out GE206.out HB.out), fun _ h1_ => absurd ((hn hon 3).symm.trans h1_) (by decide), fun _ => (rfa HO212), fun _ => (rfa HO215), fun _ h1_ => absurd ((hn hon 10).symm.trans h1_) (by decide), fun _ => (rfa HO221), fun _ => (rfa HO224), fun _ => (kq BK206), Q_X16_, Q_AP214_223⟩
  exact steps_nil
 rintro b a w26 hall ⟨v208, v211, v214, v217, v220, v223, m16_, ha, Q_BK205, Q_BK206, Q_HB, Q_HO209, Q_HO212, Q_HO215, Q_HO218, Q_HO221, Q_HO224, Q_BK206_e17, Q_X16_, Q_AP214_223⟩
 clear BK205 BK206 HB
 have hb0_ := hall 0 (by kernel_rfl)
 have hb2_ := hall 2 (by kernel_rfl)
 have hb3_ := hall 3 (by kernel_rfl)
 have hb5_ := hall 5 (by kernel_rfl)
 have hb6_ := hall 6 (by kernel_rfl)
 have hb7_ := hall 7 (by kernel_rfl)
 have hb9_ := hall 9 (by kernel_rfl)
 have hb10_ := hall 10 (by kernel_rfl)
 have hb12_ := hall 12 (by kernel_rfl)
 have hb14_ := hall 14 (by kernel_rfl)
 have hb15_ := hall 15 (by kernel_rfl)
 have hb16_ := hall 16 (by kernel_rfl)
 have hb17_ := hall 17 (by kernel_rfl)
 subst ha
 obtain rfl := Q_X16_ hb16_
 simp only [putSel, hb0_, hb2_, hb3_, hb5_, hb6_, hb7_, hb9_, hb10_, hb12_, hb14_, hb15_, hb16_, hb17_, if_true, Act.put, List.setIfInBounds_toArray, List.set_cons_zero, List.set_cons_succ]
 have BK205 := ak Q_BK205
 clear Q_BK205 Q_BK206
 have HB := ak Q_HB
 clear Q_HB Q_HO209
 have HO212 := ak (Q_HO212 hb3_)
 clear Q_HO212
 have HO215 := ak (rap (Q_HO215 hb6_) (Q_AP214_223 hb6_ hb15_))
 clear Q_HO215 Q_HO218
 have HO221 := ak (Q_HO221 hb10_)
 clear Q_HO221
 have HO224 := ak (rap (Q_HO224 hb15_) (Ap.symm (Q_AP214_223 hb6_ hb15_)))
 clear Q_HO224
 have BK206 := ak (Q_BK206_e17 hb17_)
 clear Q_AP214_223 Q_BK206_e17 hall hb0_ hb2_ hb3_ hb5_ hb6_ hb7_ hb9_ hb10_ hb12_ hb14_ hb15_ hb16_ hb17_
 obtain ⟨Ao27, co27, eo27⟩ := Kd.R_slice HO224.out
 (first | subst eo27 | (injection eo27 with f1_ f2_ f3_; have f4_ := f1_.symm; have f5_ := f3_.symm; clear f1_ f2_ f3_; subst f4_; subst f5_))
 obtain ⟨Ao28, co28, eo28⟩ := Kd.R_slice HO221.out
 (first | subst eo28 | (injection eo28 with f1_ f2_ f3_; have f4_ := f1_.symm; have f5_ := f3_.symm; clear f1_ f2_ f3_; subst f4_; subst f5_))
 obtain ⟨Ao29, co29, eo29⟩ := Kd.R_slice HO215.out
 (first | subst eo29 | (injection eo29 with f1_ f2_ f3_; have f4_ := f1_.symm; have f5_ := f3_.symm; clear f1_ f2_ f3_; subst f4_; subst f5_))
 obtain ⟨Ao30, co30, eo30⟩ := Kd.R_slice HO212.out
 (first | subst eo30 | (injection eo30 with f1_ f2_ f3_; have f4_ := f1_.symm; have f5_ := f3_.symm; clear f1_ f2_ f3_; subst f4_; subst f5_))
 try go_wp2
 refine bodyPost_ret (results_cell_row rfl _ _ gb206 51 #[.slice Ao30 y210.length co30, .slice Ao29 t213.length co29, .slice Ao28 y219.length co28, .int .i64 a0_3, .slice Ao27 t222.length co27] (0, 0) _ rfl (rk BK206.out) Try.underlying51 rfl (by kernel_rfl)) rfl ?_
 exact ⟨_, _, _, _, by first | rfl | (simp [errW_none, errW_some] <;> rfl) | (simp [*, errW_none, errW_some] <;> rfl), rr HO212.out, rr HO215.out, rr HO221.out, rr HO224.out, rbx HB⟩

end Go.Proofs.Ythdeicbkimlnhaa.PFnExactKept
