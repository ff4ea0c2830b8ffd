import Derived.Test.YthdeicbkimlnhaaPFnExactKeptx0
import Derived.Test.YthdeicbkimlnhaaPFnExactKeptx11
namespace Go.Proofs.Ythdeicbkimlnhaa.PFnExactKept
open Go.RowKit Go.Proofs.YthdeicbkimlnhaaW.PrintWords Go.Proofs.YthdeicbkimlnhaaW.PrintLast Go.Proofs.YthdeicbkimlnhaaW.PrintMore Go.Proofs.YthdeicbkimlnhaaH
attribute [local go_sem] max2_int min2_int max_two min_two max_three min_three max_four min_four   -- for this text's walks alone
set_option linter.unusedVariables false
set_option linter.unusedSimpArgs false
set_option maxRecDepth 100000

/-! ### laws_heldIntS: function 71 -/
def laws_heldIntS.l0 : Nat→List Int→Int→Int→Option (Int)
 | 0,_,_,_=>none
 | k + 1,x0,x1,x5=>if x5 < (x0.length : Int) then (if 0 ≤ x5 then (if (rd x0 x5) = x1 then (laws_heldIntS.l0 k x0 (wrap64 (x1 + 1)) (wrap64 (x5 + 1))) else (some (-1))) else (none)) else (some x1)
def laws_heldIntS.f (k : Nat) (l0 : List Int) (a1 : Int) : Option (Int):=laws_heldIntS.l0 k l0 a1 0
theorem laws_heldIntS.mono_l : ∀ k,(∀ y0 y1 y2,LeO (laws_heldIntS.l0 k y0 y1 y2) (laws_heldIntS.l0 (k + 1) y0 y1 y2))
 | 0=>fun _ _ _ r h=>by simp [laws_heldIntS.l0] at h
 | k + 1=>by
  have ih0:=laws_heldIntS.mono_l k
  ·intro y0 y1 y2
   unfold laws_heldIntS.l0
   repeat' first
   | (with_reducible apply ih0)
   | (with_reducible exact LeO.refl _)
   | (with_reducible exact LeO.none _)
   | (with_reducible refine LeO.ite ?_ ?_)
   | (with_reducible refine LeO.bind ?_ (fun _=>?_))
   | apply ih0
   | exact LeO.none _
   | refine LeO.ite ?_ ?_
   | refine LeO.bind ?_ (fun _=>?_)
theorem laws_heldIntS.mono : ∀ a0 a1 k,LeO (laws_heldIntS.f k a0 a1) (laws_heldIntS.f (k + 1) a0 a1):=by
 intro a0 a1 k
 have ih0:=laws_heldIntS.mono_l k
 unfold laws_heldIntS.f
 repeat' first
   | (with_reducible apply ih0)
   | (with_reducible exact LeO.refl _)
   | (with_reducible exact LeO.none _)
   | (with_reducible refine LeO.ite ?_ ?_)
   | (with_reducible refine LeO.bind ?_ (fun _=>?_))
   | apply ih0
   | exact LeO.none _
   | refine LeO.ite ?_ ?_
   | refine LeO.bind ?_ (fun _=>?_)
set_option maxHeartbeats 8000000 in
theorem laws_heldIntS.calls (k : Nat) (A0 : Option Addr) (c0 : Nat) (l0 : List Int) (a1 : Int) (r : Int) (w : World) (hr0 : Kd.C (Kd.int .i64) w A0 l0.length l0) (hc0 : l0.length ≤ c0) (h : laws_heldIntS.f k l0 a1 = some r) :
  Calls Try.prog 71 #[.slice A0 l0.length c0,.int .i64 a1] w fun e w'=>e = .returned (.int .i64 r)∧Drawn0 w w':=by
 have HR0:=ak hr0
 have HC0:=ak hc0
 clear hr0 hc0
 have H : (laws_heldIntS.l0 k l0 a1 0) = some r:=h
 clear h
 have H':=ak H
 clear H
 go_enter Try.func71,Try.ntmps71
 go_wp2
 go_loopg [1,5] k (fun kq v1 v5 w'=>∃ (x1_1 : Int) (x5_1 : Int),v1 = .int .i64 x1_1∧v5 = .int .i64 x5_1∧Aside0 (laws_heldIntS.l0 kq l0 x1_1 x5_1 = some r)∧Aside0 (kq ≤ k)∧Drawn0 w w')
 case atStart=>exact ⟨(a1),(0),(by first | rfl | (simp;done) | (simp [*];done)),(by first | rfl | (simp;done) | (simp [*];done)),H',⟨Nat.le_refl _⟩,by repeat (first | exact Drawn0.refl _ | apply Drawn0.step)⟩
 case round =>
  clear H'
  try clear p2
  obtain ⟨x1_1,x5_1,rfl,rfl,HA,HK1,⟨m1,rfl⟩⟩:=hrel
  cases gk with
  | zero=>exact absurd HA.out (by simp [laws_heldIntS.l0])
  | succ k1 =>
   have H:=HA.out
   clear HA
   simp only [laws_heldIntS.l0] at H
   by_cases c3 : x5_1 < (l0.length : Int)
   rotate_left
   ·rw [if_neg c3] at H
    have c3b0 : decide (x5_1 < (l0.length : Int)) = false:=decide_eq_false c3
    clear c3
    obtain rfl:=Option.some.inj H
    go_wp2
    go_ret
    exact ⟨by first | rfl | (simp;done) | (simp [*];done),by repeat (first | exact Drawn0.refl _ | apply Drawn0.step)⟩
   rw [if_pos c3] at H
   have c3b0 : decide (x5_1 < (l0.length : Int)) = true:=decide_eq_true c3
   clear c3
   by_cases c4 : 0 ≤ x5_1
   rotate_left
   ·rw [if_neg c4] at H
    exact absurd H (by simp)
   rw [if_pos c4] at H
   have c4b0 : decide (0 ≤ x5_1) = true:=decide_eq_true c4
   clear c4
   by_cases c5 : (rd l0 x5_1) = x1_1
   ·rw [if_pos c5] at H
    have c5b0 : ((rd l0 x5_1) == x1_1) = true:=beq_iff_eq.mpr c5
    have c5b1 : ((rd l0 x5_1) != x1_1) = false:=bne_eq_false_iff_eq.mpr c5
    clear c5
    have H':=ak H
    clear H
    have p395 : 0 ≤ (x5_1 : Int):=of_decide_eq_true (by first | (with_reducible assumption) | assumption)
    have q395 : x5_1 < (l0.length : Int):=of_decide_eq_true (by first | (with_reducible assumption) | assumption)
    obtain ⟨ad395,e395,hx395_0⟩:=Kd.at_int HR0.out x5_1 p395 q395
    cases e395
    replace p395:=eq_true p395
    replace q395:=eq_true q395
    go_wp2
    go_roundg k1
    case measure=>have:=HK1.out;omega
    case rel=>exact ⟨(wrap64 (x1_1 + 1)),(wrap64 (x5_1 + 1)),(by first | rfl | (simp;done) | (simp [*];done)),(by first | rfl | (simp;done) | (simp [*];done)),H',⟨by have:=HK1.out;omega⟩,by repeat (first | exact Drawn0.refl _ | apply Drawn0.step)⟩
   rw [if_neg c5] at H
   have c5b0 : ((rd l0 x5_1) == x1_1) = false:=beq_eq_false_iff_ne.mpr c5
   have c5b1 : ((rd l0 x5_1) != x1_1) = true:=bne_iff_ne.mpr c5
   obtain rfl:=Option.some.inj H
   have p395 : 0 ≤ (x5_1 : Int):=of_decide_eq_true (by first | (with_reducible assumption) | assumption)
   have q395 : x5_1 < (l0.length : Int):=of_decide_eq_true (by first | (with_reducible assumption) | assumption)
   obtain ⟨ad395,e395,hx395_0⟩:=Kd.at_int HR0.out x5_1 p395 q395
   cases e395
   replace p395:=eq_true p395
   replace q395:=eq_true q395
   go_wp2
   go_ret
   exact ⟨by first | rfl | (simp;done) | (simp [*];done),by repeat (first | exact Drawn0.refl _ | apply Drawn0.step)⟩

/-! ### laws_heldEarlyS: function 165 -/
def laws_heldEarlyS.l0 : Nat→List (S127)→Int→Int→Option (Int)
 | 0,_,_,_=>none
 | k + 1,x0,x1,x5=>if x5 < (x0.length : Int) then (if 0 ≤ x5 then (if ((rd_T127 x0 x5).f0) = x1 then (if ((rd_T127 x0 x5).f1) = (wrap64 (x1 + 1)) then (if ((rd_T127 x0 x5).f2.f0) = (wrap64 ((wrap64 (x1 + 1)) + 1)) then (if ((rd_T127 x0 x5).f2.f1) = (wrap64 ((wrap64 ((wrap64 (x1 + 1)) + 1)) + 1)) then (if ((rd_T127 x0 x5).f2.f2) = (wrap64 ((wrap64 ((wrap64 ((wrap64 (x1 + 1)) + 1)) + 1)) + 1)) then (if ((rd_T127 x0 x5).f2.f3) = (wrap64 ((wrap64 ((wrap64 ((wrap64 ((wrap64 (x1 + 1)) + 1)) + 1)) + 1)) + 1)) then (laws_heldEarlyS.l0 k x0 (wrap64 ((wrap64 ((wrap64 ((wrap64 ((wrap64 ((wrap64 (x1 + 1)) + 1)) + 1)) + 1)) + 1)) + 1)) (wrap64 (x5 + 1))) else (some (-1))) else (some (-1))) else (some (-1))) else (some (-1))) else (some (-1))) else (some (-1))) else (none)) else (some x1)
def laws_heldEarlyS.f (k : Nat) (l0 : List (S127)) (a1 : Int) : Option (Int):=laws_heldEarlyS.l0 k l0 a1 0
theorem laws_heldEarlyS.mono_l : ∀ k,(∀ y0 y1 y2,LeO (laws_heldEarlyS.l0 k y0 y1 y2) (laws_heldEarlyS.l0 (k + 1) y0 y1 y2))
 | 0=>fun _ _ _ r h=>by simp [laws_heldEarlyS.l0] at h
 | k + 1=>by
  have ih0:=laws_heldEarlyS.mono_l k
  ·intro y0 y1 y2
   unfold laws_heldEarlyS.l0
   repeat' first
   | (with_reducible apply ih0)
   | (with_reducible exact LeO.refl _)
   | (with_reducible exact LeO.none _)
   | (with_reducible refine LeO.ite ?_ ?_)
   | (with_reducible refine LeO.bind ?_ (fun _=>?_))
   | apply ih0
   | exact LeO.none _
   | refine LeO.ite ?_ ?_
   | refine LeO.bind ?_ (fun _=>?_)
theorem laws_heldEarlyS.mono : ∀ a0 a1 k,LeO (laws_heldEarlyS.f k a0 a1) (laws_heldEarlyS.f (k + 1) a0 a1):=by
 intro a0 a1 k
 have ih0:=laws_heldEarlyS.mono_l k
 unfold laws_heldEarlyS.f
 repeat' first
   | (with_reducible apply ih0)
   | (with_reducible exact LeO.refl _)
   | (with_reducible exact LeO.none _)
   | (with_reducible refine LeO.ite ?_ ?_)
   | (with_reducible refine LeO.bind ?_ (fun _=>?_))
   | apply ih0
   | exact LeO.none _
   | refine LeO.ite ?_ ?_
   | refine LeO.bind ?_ (fun _=>?_)
set_option maxHeartbeats 8000000 in
theorem laws_heldEarlyS.calls (k : Nat) (A0 : Option Addr) (c0 : Nat) (l0 : List (S127)) (a1 : Int) (r : Int) (w : World) (hr0 : Kd.C k127 w A0 l0.length l0) (hc0 : l0.length ≤ c0) (h : laws_heldEarlyS.f k l0 a1 = some r) :
  Calls Try.prog 165 #[.slice A0 l0.length c0,.int .i64 a1] w fun e w'=>e = .returned (.int .i64 r)∧Drawn0 w w':=by
 have HR0:=ak hr0
 have HC0:=ak hc0
 clear hr0 hc0
 have H : (laws_heldEarlyS.l0 k l0 a1 0) = some r:=h
 clear h
 have H':=ak H
 clear H
 go_enter Try.func165,Try.ntmps165
 go_wp2
 go_loopg [1,5] k (fun kq v1 v5 w'=>∃ (x1_1 : Int) (x5_1 : Int),v1 = .int .i64 x1_1∧v5 = .int .i64 x5_1∧Aside0 (laws_heldEarlyS.l0 kq l0 x1_1 x5_1 = some r)∧Aside0 (kq ≤ k)∧Drawn0 w w')
 case atStart=>exact ⟨(a1),(0),(by first | rfl | (simp;done) | (simp [*];done)),(by first | rfl | (simp;done) | (simp [*];done)),H',⟨Nat.le_refl _⟩,by repeat (first | exact Drawn0.refl _ | apply Drawn0.step)⟩
 case round =>
  clear H'
  try clear c1
  try clear p2
  obtain ⟨x1_1,x5_1,rfl,rfl,HA,HK1,⟨m1,rfl⟩⟩:=hrel
  cases gk with
  | zero=>exact absurd HA.out (by simp [laws_heldEarlyS.l0])
  | succ k1 =>
   have H:=HA.out
   clear HA
   simp only [laws_heldEarlyS.l0] at H
   by_cases c3 : x5_1 < (l0.length : Int)
   rotate_left
   ·rw [if_neg c3] at H
    have c3b0 : decide (x5_1 < (l0.length : Int)) = false:=decide_eq_false c3
    clear c3
    obtain rfl:=Option.some.inj H
    go_wp2
    go_ret
    exact ⟨by first | rfl | (simp;done) | (simp [*];done),by repeat (first | exact Drawn0.refl _ | apply Drawn0.step)⟩
   rw [if_pos c3] at H
   have c3b0 : decide (x5_1 < (l0.length : Int)) = true:=decide_eq_true c3
   clear c3
   by_cases c4 : 0 ≤ x5_1
   rotate_left
   ·rw [if_neg c4] at H
    exact absurd H (by simp)
   rw [if_pos c4] at H
   have c4b0 : decide (0 ≤ x5_1) = true:=decide_eq_true c4
   clear c4
   by_cases c5 : ((rd_T127 l0 x5_1).f0) = x1_1
   rotate_left
   ·rw [if_neg c5] at H
    have c5b0 : (((rd_T127 l0 x5_1).f0) == x1_1) = false:=beq_eq_false_iff_ne.mpr c5
    have c5b1 : (((rd_T127 l0 x5_1).f0) != x1_1) = true:=bne_iff_ne.mpr c5
    obtain rfl:=Option.some.inj H
    have p396 : 0 ≤ (x5_1 : Int):=of_decide_eq_true (by first | (with_reducible assumption) | assumption)
    have q396 : x5_1 < (l0.length : Int):=of_decide_eq_true (by first | (with_reducible assumption) | assumption)
    obtain ⟨ad396,e396,hx396_0,hx396_1,hx396_2,hx396_3,hx396_4,hx396_5⟩:=at_T127 HR0.out x5_1 p396 q396
    cases e396
    replace p396:=eq_true p396
    replace q396:=eq_true q396
    go_wp2
    go_ret
    exact ⟨by first | rfl | (simp;done) | (simp [*];done),by repeat (first | exact Drawn0.refl _ | apply Drawn0.step)⟩
   rw [if_pos c5] at H
   have c5b0 : (((rd_T127 l0 x5_1).f0) == x1_1) = true:=beq_iff_eq.mpr c5
   have c5b1 : (((rd_T127 l0 x5_1).f0) != x1_1) = false:=bne_eq_false_iff_eq.mpr c5
   clear c5
   by_cases c6 : ((rd_T127 l0 x5_1).f1) = (wrap64 (x1_1 + 1))
   rotate_left
   ·rw [if_neg c6] at H
    have c6b0 : (((rd_T127 l0 x5_1).f1) == (wrap64 (x1_1 + 1))) = false:=beq_eq_false_iff_ne.mpr c6
    have c6b1 : (((rd_T127 l0 x5_1).f1) != (wrap64 (x1_1 + 1))) = true:=bne_iff_ne.mpr c6
    obtain rfl:=Option.some.inj H
    have p396 : 0 ≤ (x5_1 : Int):=of_decide_eq_true (by first | (with_reducible assumption) | assumption)
    have q396 : x5_1 < (l0.length : Int):=of_decide_eq_true (by first | (with_reducible assumption) | assumption)
    obtain ⟨ad396,e396,hx396_0,hx396_1,hx396_2,hx396_3,hx396_4,hx396_5⟩:=at_T127 HR0.out x5_1 p396 q396
    cases e396
    replace p396:=eq_true p396
    replace q396:=eq_true q396
    have p397 : 0 ≤ (x5_1 : Int):=of_decide_eq_true (by first | (with_reducible assumption) | assumption)
    have q397 : x5_1 < (l0.length : Int):=of_decide_eq_true (by first | (with_reducible assumption) | assumption)
    obtain ⟨ad397,e397,hx397_0,hx397_1,hx397_2,hx397_3,hx397_4,hx397_5⟩:=at_T127 HR0.out x5_1 p397 q397
    obtain rfl : ad396 = ad397:=(by injection e397)
    replace p397:=eq_true p397
    replace q397:=eq_true q397
    go_wp2
    go_ret
    exact ⟨by first | rfl | (simp;done) | (simp [*];done),by repeat (first | exact Drawn0.refl _ | apply Drawn0.step)⟩
   rw [if_pos c6] at H
   have c6b0 : (((rd_T127 l0 x5_1).f1) == (wrap64 (x1_1 + 1))) = true:=beq_iff_eq.mpr c6
   have c6b1 : (((rd_T127 l0 x5_1).f1) != (wrap64 (x1_1 + 1))) = false:=bne_eq_false_iff_eq.mpr c6
   clear c6
   by_cases c7 : ((rd_T127 l0 x5_1).f2.f0) = (wrap64 ((wrap64 (x1_1 + 1)) + 1))
   rotate_left
   ·rw [if_neg c7] at H
    have c7b0 : (((rd_T127 l0 x5_1).f2.f0) == (wrap64 ((wrap64 (x1_1 + 1)) + 1))) = false:=beq_eq_false_iff_ne.mpr c7
    have c7b1 : (((rd_T127 l0 x5_1).f2.f0) != (wrap64 ((wrap64 (x1_1 + 1)) + 1))) = true:=bne_iff_ne.mpr c7
    obtain rfl:=Option.some.inj H
    have p396 : 0 ≤ (x5_1 : Int):=of_decide_eq_true (by first | (with_reducible assumption) | assumption)
    have q396 : x5_1 < (l0.length : Int):=of_decide_eq_true (by first | (with_reducible assumption) | assumption)
    obtain ⟨ad396,e396,hx396_0,hx396_1,hx396_2,hx396_3,hx396_4,hx396_5⟩:=at_T127 HR0.out x5_1 p396 q396
    cases e396
    replace p396:=eq_true p396
    replace q396:=eq_true q396
    have p397 : 0 ≤ (x5_1 : Int):=of_decide_eq_true (by first | (with_reducible assumption) | assumption)
    have q397 : x5_1 < (l0.length : Int):=of_decide_eq_true (by first | (with_reducible assumption) | assumption)
    obtain ⟨ad397,e397,hx397_0,hx397_1,hx397_2,hx397_3,hx397_4,hx397_5⟩:=at_T127 HR0.out x5_1 p397 q397
    obtain rfl : ad396 = ad397:=(by injection e397)
    replace p397:=eq_true p397
    replace q397:=eq_true q397
    have p398 : 0 ≤ (x5_1 : Int):=of_decide_eq_true (by first | (with_reducible assumption) | assumption)
    have q398 : x5_1 < (l0.length : Int):=of_decide_eq_true (by first | (with_reducible assumption) | assumption)
    obtain ⟨ad398,e398,hx398_0,hx398_1,hx398_2,hx398_3,hx398_4,hx398_5⟩:=at_T127 HR0.out x5_1 p398 q398
    obtain rfl : ad396 = ad398:=(by injection e398)
    replace p398:=eq_true p398
    replace q398:=eq_true q398
    go_wp2
    go_ret
    exact ⟨by first | rfl | (simp;done) | (simp [*];done),by repeat (first | exact Drawn0.refl _ | apply Drawn0.step)⟩
   rw [if_pos c7] at H
   have c7b0 : (((rd_T127 l0 x5_1).f2.f0) == (wrap64 ((wrap64 (x1_1 + 1)) + 1))) = true:=beq_iff_eq.mpr c7
   have c7b1 : (((rd_T127 l0 x5_1).f2.f0) != (wrap64 ((wrap64 (x1_1 + 1)) + 1))) = false:=bne_eq_false_iff_eq.mpr c7
   clear c7
   by_cases c8 : ((rd_T127 l0 x5_1).f2.f1) = (wrap64 ((wrap64 ((wrap64 (x1_1 + 1)) + 1)) + 1))
   rotate_left
   ·rw [if_neg c8] at H
    have c8b0 : (((rd_T127 l0 x5_1).f2.f1) == (wrap64 ((wrap64 ((wrap64 (x1_1 + 1)) + 1)) + 1))) = false:=beq_eq_false_iff_ne.mpr c8
    have c8b1 : (((rd_T127 l0 x5_1).f2.f1) != (wrap64 ((wrap64 ((wrap64 (x1_1 + 1)) + 1)) + 1))) = true:=bne_iff_ne.mpr c8
    obtain rfl:=Option.some.inj H
    have p396 : 0 ≤ (x5_1 : Int):=of_decide_eq_true (by first | (with_reducible assumption) | assumption)
    have q396 : x5_1 < (l0.length : Int):=of_decide_eq_true (by first | (with_reducible assumption) | assumption)
    obtain ⟨ad396,e396,hx396_0,hx396_1,hx396_2,hx396_3,hx396_4,hx396_5⟩:=at_T127 HR0.out x5_1 p396 q396
    cases e396
    replace p396:=eq_true p396
    replace q396:=eq_true q396
    have p397 : 0 ≤ (x5_1 : Int):=of_decide_eq_true (by first | (with_reducible assumption) | assumption)
    have q397 : x5_1 < (l0.length : Int):=of_decide_eq_true (by first | (with_reducible assumption) | assumption)
    obtain ⟨ad397,e397,hx397_0,hx397_1,hx397_2,hx397_3,hx397_4,hx397_5⟩:=at_T127 HR0.out x5_1 p397 q397
    obtain rfl : ad396 = ad397:=(by injection e397)
    replace p397:=eq_true p397
    replace q397:=eq_true q397
    have p398 : 0 ≤ (x5_1 : Int):=of_decide_eq_true (by first | (with_reducible assumption) | assumption)
    have q398 : x5_1 < (l0.length : Int):=of_decide_eq_true (by first | (with_reducible assumption) | assumption)
    obtain ⟨ad398,e398,hx398_0,hx398_1,hx398_2,hx398_3,hx398_4,hx398_5⟩:=at_T127 HR0.out x5_1 p398 q398
    obtain rfl : ad396 = ad398:=(by injection e398)
    replace p398:=eq_true p398
    replace q398:=eq_true q398
    have p399 : 0 ≤ (x5_1 : Int):=of_decide_eq_true (by first | (with_reducible assumption) | assumption)
    have q399 : x5_1 < (l0.length : Int):=of_decide_eq_true (by first | (with_reducible assumption) | assumption)
    obtain ⟨ad399,e399,hx399_0,hx399_1,hx399_2,hx399_3,hx399_4,hx399_5⟩:=at_T127 HR0.out x5_1 p399 q399
    obtain rfl : ad396 = ad399:=(by injection e399)
    replace p399:=eq_true p399
    replace q399:=eq_true q399
    go_wp2
    go_ret
    exact ⟨by first | rfl | (simp;done) | (simp [*];done),by repeat (first | exact Drawn0.refl _ | apply Drawn0.step)⟩
   rw [if_pos c8] at H
   have c8b0 : (((rd_T127 l0 x5_1).f2.f1) == (wrap64 ((wrap64 ((wrap64 (x1_1 + 1)) + 1)) + 1))) = true:=beq_iff_eq.mpr c8
   have c8b1 : (((rd_T127 l0 x5_1).f2.f1) != (wrap64 ((wrap64 ((wrap64 (x1_1 + 1)) + 1)) + 1))) = false:=bne_eq_false_iff_eq.mpr c8
   clear c8
   by_cases c9 : ((rd_T127 l0 x5_1).f2.f2) = (wrap64 ((wrap64 ((wrap64 ((wrap64 (x1_1 + 1)) + 1)) + 1)) + 1))
   rotate_left
   ·rw [if_neg c9] at H
    have c9b0 : (((rd_T127 l0 x5_1).f2.f2) == (wrap64 ((wrap64 ((wrap64 ((wrap64 (x1_1 + 1)) + 1)) + 1)) + 1))) = false:=beq_eq_false_iff_ne.mpr c9
    have c9b1 : (((rd_T127 l0 x5_1).f2.f2) != (wrap64 ((wrap64 ((wrap64 ((wrap64 (x1_1 + 1)) + 1)) + 1)) + 1))) = true:=bne_iff_ne.mpr c9
    obtain rfl:=Option.some.inj H
    have p396 : 0 ≤ (x5_1 : Int):=of_decide_eq_true (by first | (with_reducible assumption) | assumption)
    have q396 : x5_1 < (l0.length : Int):=of_decide_eq_true (by first | (with_reducible assumption) | assumption)
    obtain ⟨ad396,e396,hx396_0,hx396_1,hx396_2,hx396_3,hx396_4,hx396_5⟩:=at_T127 HR0.out x5_1 p396 q396
    cases e396
    replace p396:=eq_true p396
    replace q396:=eq_true q396
    have p397 : 0 ≤ (x5_1 : Int):=of_decide_eq_true (by first | (with_reducible assumption) | assumption)
    have q397 : x5_1 < (l0.length : Int):=of_decide_eq_true (by first | (with_reducible assumption) | assumption)
    obtain ⟨ad397,e397,hx397_0,hx397_1,hx397_2,hx397_3,hx397_4,hx397_5⟩:=at_T127 HR0.out x5_1 p397 q397
    obtain rfl : ad396 = ad397:=(by injection e397)
    replace p397:=eq_true p397
    replace q397:=eq_true q397
    have p398 : 0 ≤ (x5_1 : Int):=of_decide_eq_true (by first | (with_reducible assumption) | assumption)
    have q398 : x5_1 < (l0.length : Int):=of_decide_eq_true (by first | (with_reducible assumption) | assumption)
    obtain ⟨ad398,e398,hx398_0,hx398_1,hx398_2,hx398_3,hx398_4,hx398_5⟩:=at_T127 HR0.out x5_1 p398 q398
    obtain rfl : ad396 = ad398:=(by injection e398)
    replace p398:=eq_true p398
    replace q398:=eq_true q398
    have p399 : 0 ≤ (x5_1 : Int):=of_decide_eq_true (by first | (with_reducible assumption) | assumption)
    have q399 : x5_1 < (l0.length : Int):=of_decide_eq_true (by first | (with_reducible assumption) | assumption)
    obtain ⟨ad399,e399,hx399_0,hx399_1,hx399_2,hx399_3,hx399_4,hx399_5⟩:=at_T127 HR0.out x5_1 p399 q399
    obtain rfl : ad396 = ad399:=(by injection e399)
    replace p399:=eq_true p399
    replace q399:=eq_true q399
    have p400 : 0 ≤ (x5_1 : Int):=of_decide_eq_true (by first | (with_reducible assumption) | assumption)
    have q400 : x5_1 < (l0.length : Int):=of_decide_eq_true (by first | (with_reducible assumption) | assumption)
    obtain ⟨ad400,e400,hx400_0,hx400_1,hx400_2,hx400_3,hx400_4,hx400_5⟩:=at_T127 HR0.out x5_1 p400 q400
    obtain rfl : ad396 = ad400:=(by injection e400)
    replace p400:=eq_true p400
    replace q400:=eq_true q400
    go_wp2
    go_ret
    exact ⟨by first | rfl | (simp;done) | (simp [*];done),by repeat (first | exact Drawn0.refl _ | apply Drawn0.step)⟩
   rw [if_pos c9] at H
   have c9b0 : (((rd_T127 l0 x5_1).f2.f2) == (wrap64 ((wrap64 ((wrap64 ((wrap64 (x1_1 + 1)) + 1)) + 1)) + 1))) = true:=beq_iff_eq.mpr c9
   have c9b1 : (((rd_T127 l0 x5_1).f2.f2) != (wrap64 ((wrap64 ((wrap64 ((wrap64 (x1_1 + 1)) + 1)) + 1)) + 1))) = false:=bne_eq_false_iff_eq.mpr c9
   clear c9
   by_cases c10 : ((rd_T127 l0 x5_1).f2.f3) = (wrap64 ((wrap64 ((wrap64 ((wrap64 ((wrap64 (x1_1 + 1)) + 1)) + 1)) + 1)) + 1))
   ·rw [if_pos c10] at H
    have c10b0 : (((rd_T127 l0 x5_1).f2.f3) == (wrap64 ((wrap64 ((wrap64 ((wrap64 ((wrap64 (x1_1 + 1)) + 1)) + 1)) + 1)) + 1))) = true:=beq_iff_eq.mpr c10
    have c10b1 : (((rd_T127 l0 x5_1).f2.f3) != (wrap64 ((wrap64 ((wrap64 ((wrap64 ((wrap64 (x1_1 + 1)) + 1)) + 1)) + 1)) + 1))) = false:=bne_eq_false_iff_eq.mpr c10
    clear c10
    have H':=ak H
    clear H
    have p396 : 0 ≤ (x5_1 : Int):=of_decide_eq_true (by first | (with_reducible assumption) | assumption)
    have q396 : x5_1 < (l0.length : Int):=of_decide_eq_true (by first | (with_reducible assumption) | assumption)
    obtain ⟨ad396,e396,hx396_0,hx396_1,hx396_2,hx396_3,hx396_4,hx396_5⟩:=at_T127 HR0.out x5_1 p396 q396
    cases e396
    replace p396:=eq_true p396
    replace q396:=eq_true q396
    have p397 : 0 ≤ (x5_1 : Int):=of_decide_eq_true (by first | (with_reducible assumption) | assumption)
    have q397 : x5_1 < (l0.length : Int):=of_decide_eq_true (by first | (with_reducible assumption) | assumption)
    obtain ⟨ad397,e397,hx397_0,hx397_1,hx397_2,hx397_3,hx397_4,hx397_5⟩:=at_T127 HR0.out x5_1 p397 q397
    obtain rfl : ad396 = ad397:=(by injection e397)
    replace p397:=eq_true p397
    replace q397:=eq_true q397
    have p398 : 0 ≤ (x5_1 : Int):=of_decide_eq_true (by first | (with_reducible assumption) | assumption)
    have q398 : x5_1 < (l0.length : Int):=of_decide_eq_true (by first | (with_reducible assumption) | assumption)
    obtain ⟨ad398,e398,hx398_0,hx398_1,hx398_2,hx398_3,hx398_4,hx398_5⟩:=at_T127 HR0.out x5_1 p398 q398
    obtain rfl : ad396 = ad398:=(by injection e398)
    replace p398:=eq_true p398
    replace q398:=eq_true q398
    have p399 : 0 ≤ (x5_1 : Int):=of_decide_eq_true (by first | (with_reducible assumption) | assumption)
    have q399 : x5_1 < (l0.length : Int):=of_decide_eq_true (by first | (with_reducible assumption) | assumption)
    obtain ⟨ad399,e399,hx399_0,hx399_1,hx399_2,hx399_3,hx399_4,hx399_5⟩:=at_T127 HR0.out x5_1 p399 q399
    obtain rfl : ad396 = ad399:=(by injection e399)
    replace p399:=eq_true p399
    replace q399:=eq_true q399
    have p400 : 0 ≤ (x5_1 : Int):=of_decide_eq_true (by first | (with_reducible assumption) | assumption)
    have q400 : x5_1 < (l0.length : Int):=of_decide_eq_true (by first | (with_reducible assumption) | assumption)
    obtain ⟨ad400,e400,hx400_0,hx400_1,hx400_2,hx400_3,hx400_4,hx400_5⟩:=at_T127 HR0.out x5_1 p400 q400
    obtain rfl : ad396 = ad400:=(by injection e400)
    replace p400:=eq_true p400
    replace q400:=eq_true q400
    have p401 : 0 ≤ (x5_1 : Int):=of_decide_eq_true (by first | (with_reducible assumption) | assumption)
    have q401 : x5_1 < (l0.length : Int):=of_decide_eq_true (by first | (with_reducible assumption) | assumption)
    obtain ⟨ad401,e401,hx401_0,hx401_1,hx401_2,hx401_3,hx401_4,hx401_5⟩:=at_T127 HR0.out x5_1 p401 q401
    obtain rfl : ad396 = ad401:=(by injection e401)
    replace p401:=eq_true p401
    replace q401:=eq_true q401
    go_wp2
    go_roundg k1
    case measure=>have:=HK1.out;omega
    case rel=>exact ⟨(wrap64 ((wrap64 ((wrap64 ((wrap64 ((wrap64 ((wrap64 (x1_1 + 1)) + 1)) + 1)) + 1)) + 1)) + 1)),(wrap64 (x5_1 + 1)),(by first | rfl | (simp;done) | (simp [*];done)),(by first | rfl | (simp;done) | (simp [*];done)),H',⟨by have:=HK1.out;omega⟩,by repeat (first | exact Drawn0.refl _ | apply Drawn0.step)⟩
   rw [if_neg c10] at H
   have c10b0 : (((rd_T127 l0 x5_1).f2.f3) == (wrap64 ((wrap64 ((wrap64 ((wrap64 ((wrap64 (x1_1 + 1)) + 1)) + 1)) + 1)) + 1))) = false:=beq_eq_false_iff_ne.mpr c10
   have c10b1 : (((rd_T127 l0 x5_1).f2.f3) != (wrap64 ((wrap64 ((wrap64 ((wrap64 ((wrap64 (x1_1 + 1)) + 1)) + 1)) + 1)) + 1))) = true:=bne_iff_ne.mpr c10
   obtain rfl:=Option.some.inj H
   have p396 : 0 ≤ (x5_1 : Int):=of_decide_eq_true (by first | (with_reducible assumption) | assumption)
   have q396 : x5_1 < (l0.length : Int):=of_decide_eq_true (by first | (with_reducible assumption) | assumption)
   obtain ⟨ad396,e396,hx396_0,hx396_1,hx396_2,hx396_3,hx396_4,hx396_5⟩:=at_T127 HR0.out x5_1 p396 q396
   cases e396
   replace p396:=eq_true p396
   replace q396:=eq_true q396
   have p397 : 0 ≤ (x5_1 : Int):=of_decide_eq_true (by first | (with_reducible assumption) | assumption)
   have q397 : x5_1 < (l0.length : Int):=of_decide_eq_true (by first | (with_reducible assumption) | assumption)
   obtain ⟨ad397,e397,hx397_0,hx397_1,hx397_2,hx397_3,hx397_4,hx397_5⟩:=at_T127 HR0.out x5_1 p397 q397
   obtain rfl : ad396 = ad397:=(by injection e397)
   replace p397:=eq_true p397
   replace q397:=eq_true q397
   have p398 : 0 ≤ (x5_1 : Int):=of_decide_eq_true (by first | (with_reducible assumption) | assumption)
   have q398 : x5_1 < (l0.length : Int):=of_decide_eq_true (by first | (with_reducible assumption) | assumption)
   obtain ⟨ad398,e398,hx398_0,hx398_1,hx398_2,hx398_3,hx398_4,hx398_5⟩:=at_T127 HR0.out x5_1 p398 q398
   obtain rfl : ad396 = ad398:=(by injection e398)
   replace p398:=eq_true p398
   replace q398:=eq_true q398
   have p399 : 0 ≤ (x5_1 : Int):=of_decide_eq_true (by first | (with_reducible assumption) | assumption)
   have q399 : x5_1 < (l0.length : Int):=of_decide_eq_true (by first | (with_reducible assumption) | assumption)
   obtain ⟨ad399,e399,hx399_0,hx399_1,hx399_2,hx399_3,hx399_4,hx399_5⟩:=at_T127 HR0.out x5_1 p399 q399
   obtain rfl : ad396 = ad399:=(by injection e399)
   replace p399:=eq_true p399
   replace q399:=eq_true q399
   have p400 : 0 ≤ (x5_1 : Int):=of_decide_eq_true (by first | (with_reducible assumption) | assumption)
   have q400 : x5_1 < (l0.length : Int):=of_decide_eq_true (by first | (with_reducible assumption) | assumption)
   obtain ⟨ad400,e400,hx400_0,hx400_1,hx400_2,hx400_3,hx400_4,hx400_5⟩:=at_T127 HR0.out x5_1 p400 q400
   obtain rfl : ad396 = ad400:=(by injection e400)
   replace p400:=eq_true p400
   replace q400:=eq_true q400
   have p401 : 0 ≤ (x5_1 : Int):=of_decide_eq_true (by first | (with_reducible assumption) | assumption)
   have q401 : x5_1 < (l0.length : Int):=of_decide_eq_true (by first | (with_reducible assumption) | assumption)
   obtain ⟨ad401,e401,hx401_0,hx401_1,hx401_2,hx401_3,hx401_4,hx401_5⟩:=at_T127 HR0.out x5_1 p401 q401
   obtain rfl : ad396 = ad401:=(by injection e401)
   replace p401:=eq_true p401
   replace q401:=eq_true q401
   go_wp2
   go_ret
   exact ⟨by first | rfl | (simp;done) | (simp [*];done),by repeat (first | exact Drawn0.refl _ | apply Drawn0.step)⟩

/-! ### laws_heldKeeper: function 85 -/
def laws_heldKeeper.f (k : Nat) (l0_0 : List (S134)) (l0_1 : List Int) (l0_2 : List (S127)) (a0_3 : Int) (l0_4 : List Int) (a1 : Int) : Option (Int):=(laws_heldEntryS.f k l0_0 a1).bind fun t403=>(if t403 < 0 then (some (-1)) else ((laws_heldIntS.f k l0_1 t403).bind fun t404=>(if t404 < 0 then (some (-1)) else ((laws_heldEarlyS.f k l0_2 t404).bind fun t405=>(if t405 < 0 then (some (-1)) else ((laws_heldIntS.f k l0_4 t405).bind fun t406=>(if t406 < 0 then (some (-1)) else (some t406))))))))
theorem laws_heldKeeper.mono : ∀ a0 a1 a2 a3 a4 a5 k,LeO (laws_heldKeeper.f k a0 a1 a2 a3 a4 a5) (laws_heldKeeper.f (k + 1) a0 a1 a2 a3 a4 a5):=by
 intro a0 a1 a2 a3 a4 a5 k
 unfold laws_heldKeeper.f
 repeat' first
   | (with_reducible apply laws_heldEarlyS.mono)
   | (with_reducible apply laws_heldEntryS.mono)
   | (with_reducible apply laws_heldIntS.mono)
   | (with_reducible exact LeO.refl _)
   | (with_reducible exact LeO.none _)
   | (with_reducible refine LeO.ite ?_ ?_)
   | (with_reducible refine LeO.bind ?_ (fun _=>?_))
   | apply laws_heldEarlyS.mono
   | apply laws_heldEntryS.mono
   | apply laws_heldIntS.mono
   | exact LeO.none _
   | refine LeO.ite ?_ ?_
   | refine LeO.bind ?_ (fun _=>?_)
set_option maxHeartbeats 8000000 in
theorem laws_heldKeeper.calls (k : Nat) (A0_0 : Option Addr) (c0_0 : Nat) (l0_0 : List (S134)) (A0_1 : Option Addr) (c0_1 : Nat) (l0_1 : List Int) (A0_2 : Option Addr) (c0_2 : Nat) (l0_2 : List (S127)) (a0_3 : Int) (A0_4 : Option Addr) (c0_4 : Nat) (l0_4 : List Int) (a1 : Int) (r : Int) (w : World) (hr0_0 : Kd.C k134 w A0_0 l0_0.length l0_0) (hc0_0 : l0_0.length ≤ c0_0) (hr0_1 : Kd.C (Kd.int .i64) w A0_1 l0_1.length l0_1) (hc0_1 : l0_1.length ≤ c0_1) (hr0_2 : Kd.C k127 w A0_2 l0_2.length l0_2) (hc0_2 : l0_2.length ≤ c0_2) (hr0_4 : Kd.C (Kd.int .i64) w A0_4 l0_4.length l0_4) (hc0_4 : l0_4.length ≤ c0_4) (h : laws_heldKeeper.f k l0_0 l0_1 l0_2 a0_3 l0_4 a1 = some r) :
  Calls Try.prog 85 #[.agg #[.slice A0_0 l0_0.length c0_0,.slice A0_1 l0_1.length c0_1,.slice A0_2 l0_2.length c0_2,.int .i64 a0_3,.slice A0_4 l0_4.length c0_4],.int .i64 a1] w fun e w'=>e = .returned (.int .i64 r)∧Below w.heap.size w w':=by
 have hu51:=Try.underlying51
 have HR0_0:=ak hr0_0
 have HC0_0:=ak hc0_0
 clear hr0_0 hc0_0
 have HR0_1:=ak hr0_1
 have HC0_1:=ak hc0_1
 clear hr0_1 hc0_1
 have HR0_2:=ak hr0_2
 have HC0_2:=ak hc0_2
 clear hr0_2 hc0_2
 have HR0_4:=ak hr0_4
 have HC0_4:=ak hc0_4
 clear hr0_4 hc0_4
 have HB:=ak (Below.refl w.heap.size w)
 have H:=h
 clear h
 unfold laws_heldKeeper.f at H
 replace H:=Option.bind_eq_some_iff.mp H
 obtain ⟨t403,A30,H⟩:=H
 try dsimp only at H
 have A3:=ak A30
 clear A30
 by_cases c4 : t403 < 0
 ·rw [if_pos c4] at H
  have c4b0 : decide (t403 < 0) = true:=decide_eq_true c4
  clear c4
  obtain rfl:=Option.some.inj H
  go_enter Try.func85,Try.ntmps85
  go_wp2_with (first | ((with_reducible refine gate_dst (N:=2) rfl ?_);refine box_event ?hg (N:=2) ?hd (cs:=#[.slice A0_0 l0_0.length c0_0,.slice A0_1 l0_1.length c0_1,.slice A0_2 l0_2.length c0_2,.int .i64 a0_3,.slice A0_4 l0_4.length c0_4]) (t:=51) ?hr ?_;(case hd=>rfl);(case hg=>rfl);(case hr=>first | (go_simp;done) | (go_simp;rfl));intro gb402 hg w5 hbox hb;have n_ : _∧_∧_∧_:=⟨kh HB hb,ak (hbox),kz HB hg,kz HB hg⟩;clear HB hb hbox hg;obtain ⟨HB,BK402,GW402,GE402⟩:=n_;have hcz6_0 : w5.cell? ⟨gb402,0,none⟩ = some (.slice A0_0 l0_0.length c0_0):=(blk_cell BK402.out 0).trans rfl;have hcz6_1 : w5.cell? ⟨gb402,1,none⟩ = some (.slice A0_1 l0_1.length c0_1):=(blk_cell BK402.out 1).trans rfl;have hcz6_2 : w5.cell? ⟨gb402,2,none⟩ = some (.slice A0_2 l0_2.length c0_2):=(blk_cell BK402.out 2).trans rfl;have hcz6_3 : w5.cell? ⟨gb402,3,none⟩ = some (.int .i64 a0_3):=(blk_cell BK402.out 3).trans rfl;have hcz6_4 : w5.cell? ⟨gb402,4,none⟩ = some (.slice A0_4 l0_4.length c0_4):=(blk_cell BK402.out 4).trans rfl;have hfz6_0:=blk_frozen BK402.out 0;have hfz6_1:=blk_frozen BK402.out 1;have hfz6_2:=blk_frozen BK402.out 2;have hfz6_3:=blk_frozen BK402.out 3;have hfz6_4:=blk_frozen BK402.out 4) | ((with_reducible refine gc (f:=50) rfl ?_);refine gl (some 8) Try.func50 #[.slice A0_0 l0_0.length c0_0,.int .i64 a1] ?_;(with_reducible refine (laws_heldEntryS.calls k _ _ l0_0 a1 t403 _ ?side1 ?side2 A3.out).mono ?_);(case side1=>exact rc (Kd.C_below HR0_0.out HB.out));(case side2=>exact HC0_0.out);rintro e w' ⟨rfl,⟨nd,rfl⟩⟩;refine ⟨_,rfl,?_⟩))
  go_ret
  exact ⟨by first | rfl | (simp [errW_none,errW_some] <;> rfl) | (simp [*,errW_none,errW_some] <;> rfl),rbx HB⟩
 rw [if_neg c4] at H
 have c4b0 : decide (t403 < 0) = false:=decide_eq_false c4
 clear c4
 replace H:=Option.bind_eq_some_iff.mp H
 obtain ⟨t404,A70,H⟩:=H
 try dsimp only at H
 have A7:=ak A70
 clear A70
 by_cases c8 : t404 < 0
 ·rw [if_pos c8] at H
  have c8b0 : decide (t404 < 0) = true:=decide_eq_true c8
  clear c8
  obtain rfl:=Option.some.inj H
  go_enter Try.func85,Try.ntmps85
  go_wp2_with (first | ((with_reducible refine gate_dst (N:=2) rfl ?_);refine box_event ?hg (N:=2) ?hd (cs:=#[.slice A0_0 l0_0.length c0_0,.slice A0_1 l0_1.length c0_1,.slice A0_2 l0_2.length c0_2,.int .i64 a0_3,.slice A0_4 l0_4.length c0_4]) (t:=51) ?hr ?_;(case hd=>rfl);(case hg=>rfl);(case hr=>first | (go_simp;done) | (go_simp;rfl));intro gb402 hg w9 hbox hb;have n_ : _∧_∧_∧_:=⟨kh HB hb,ak (hbox),kz HB hg,kz HB hg⟩;clear HB hb hbox hg;obtain ⟨HB,BK402,GW402,GE402⟩:=n_;have hcz10_0 : w9.cell? ⟨gb402,0,none⟩ = some (.slice A0_0 l0_0.length c0_0):=(blk_cell BK402.out 0).trans rfl;have hcz10_1 : w9.cell? ⟨gb402,1,none⟩ = some (.slice A0_1 l0_1.length c0_1):=(blk_cell BK402.out 1).trans rfl;have hcz10_2 : w9.cell? ⟨gb402,2,none⟩ = some (.slice A0_2 l0_2.length c0_2):=(blk_cell BK402.out 2).trans rfl;have hcz10_3 : w9.cell? ⟨gb402,3,none⟩ = some (.int .i64 a0_3):=(blk_cell BK402.out 3).trans rfl;have hcz10_4 : w9.cell? ⟨gb402,4,none⟩ = some (.slice A0_4 l0_4.length c0_4):=(blk_cell BK402.out 4).trans rfl;have hfz10_0:=blk_frozen BK402.out 0;have hfz10_1:=blk_frozen BK402.out 1;have hfz10_2:=blk_frozen BK402.out 2;have hfz10_3:=blk_frozen BK402.out 3;have hfz10_4:=blk_frozen BK402.out 4) | ((with_reducible refine gc (f:=50) rfl ?_);refine gl (some 8) Try.func50 #[.slice A0_0 l0_0.length c0_0,.int .i64 a1] ?_;(with_reducible refine (laws_heldEntryS.calls k _ _ l0_0 a1 t403 _ ?side1 ?side2 A3.out).mono ?_);(case side1=>exact rc (Kd.C_below HR0_0.out HB.out));(case side2=>exact HC0_0.out);rintro e w' ⟨rfl,⟨nd,rfl⟩⟩;refine ⟨_,rfl,?_⟩) | ((with_reducible refine gc (f:=71) rfl ?_);refine gl (some 14) Try.func71 #[.slice A0_1 l0_1.length c0_1,.int .i64 t403] ?_;(with_reducible refine (laws_heldIntS.calls k _ _ l0_1 t403 t404 _ ?side1 ?side2 A7.out).mono ?_);(case side1=>exact rc (Kd.C_below HR0_1.out (rb1 GE402.out HB.out)));(case side2=>exact HC0_1.out);rintro e w' ⟨rfl,⟨nd,rfl⟩⟩;refine ⟨_,rfl,?_⟩))
  go_ret
  exact ⟨by first | rfl | (simp [errW_none,errW_some] <;> rfl) | (simp [*,errW_none,errW_some] <;> rfl),rbx HB⟩
 rw [if_neg c8] at H
 have c8b0 : decide (t404 < 0) = false:=decide_eq_false c8
 clear c8
 replace H:=Option.bind_eq_some_iff.mp H
 obtain ⟨t405,A110,H⟩:=H
 try dsimp only at H
 have A11:=ak A110
 clear A110
 by_cases c12 : t405 < 0
 ·rw [if_pos c12] at H
  have c12b0 : decide (t405 < 0) = true:=decide_eq_true c12
  clear c12
  obtain rfl:=Option.some.inj H
  go_enter Try.func85,Try.ntmps85
  go_wp2_with (first | ((with_reducible refine gate_dst (N:=2) rfl ?_);refine box_event ?hg (N:=2) ?hd (cs:=#[.slice A0_0 l0_0.length c0_0,.slice A0_1 l0_1.length c0_1,.slice A0_2 l0_2.length c0_2,.int .i64 a0_3,.slice A0_4 l0_4.length c0_4]) (t:=51) ?hr ?_;(case hd=>rfl);(case hg=>rfl);(case hr=>first | (go_simp;done) | (go_simp;rfl));intro gb402 hg w13 hbox hb;have n_ : _∧_∧_∧_:=⟨kh HB hb,ak (hbox),kz HB hg,kz HB hg⟩;clear HB hb hbox hg;obtain ⟨HB,BK402,GW402,GE402⟩:=n_;have hcz14_0 : w13.cell? ⟨gb402,0,none⟩ = some (.slice A0_0 l0_0.length c0_0):=(blk_cell BK402.out 0).trans rfl;have hcz14_1 : w13.cell? ⟨gb402,1,none⟩ = some (.slice A0_1 l0_1.length c0_1):=(blk_cell BK402.out 1).trans rfl;have hcz14_2 : w13.cell? ⟨gb402,2,none⟩ = some (.slice A0_2 l0_2.length c0_2):=(blk_cell BK402.out 2).trans rfl;have hcz14_3 : w13.cell? ⟨gb402,3,none⟩ = some (.int .i64 a0_3):=(blk_cell BK402.out 3).trans rfl;have hcz14_4 : w13.cell? ⟨gb402,4,none⟩ = some (.slice A0_4 l0_4.length c0_4):=(blk_cell BK402.out 4).trans rfl;have hfz14_0:=blk_frozen BK402.out 0;have hfz14_1:=blk_frozen BK402.out 1;have hfz14_2:=blk_frozen BK402.out 2;have hfz14_3:=blk_frozen BK402.out 3;have hfz14_4:=blk_frozen BK402.out 4) | ((with_reducible refine gc (f:=50) rfl ?_);refine gl (some 8) Try.func50 #[.slice A0_0 l0_0.length c0_0,.int .i64 a1] ?_;(with_reducible refine (laws_heldEntryS.calls k _ _ l0_0 a1 t403 _ ?side1 ?side2 A3.out).mono ?_);(case side1=>exact rc (Kd.C_below HR0_0.out HB.out));(case side2=>exact HC0_0.out);rintro e w' ⟨rfl,⟨nd,rfl⟩⟩;refine ⟨_,rfl,?_⟩) | ((with_reducible refine gc (f:=71) rfl ?_);refine gl (some 14) Try.func71 #[.slice A0_1 l0_1.length c0_1,.int .i64 t403] ?_;(with_reducible refine (laws_heldIntS.calls k _ _ l0_1 t403 t404 _ ?side1 ?side2 A7.out).mono ?_);(case side1=>exact rc (Kd.C_below HR0_1.out (rb1 GE402.out HB.out)));(case side2=>exact HC0_1.out);rintro e w' ⟨rfl,⟨nd,rfl⟩⟩;refine ⟨_,rfl,?_⟩) | ((with_reducible refine gc (f:=165) rfl ?_);refine gl (some 20) Try.func165 #[.slice A0_2 l0_2.length c0_2,.int .i64 t404] ?_;(with_reducible refine (laws_heldEarlyS.calls k _ _ l0_2 t404 t405 _ ?side1 ?side2 A11.out).mono ?_);(case side1=>exact rc (Kd.C_below HR0_2.out (rb1 GE402.out HB.out)));(case side2=>exact HC0_2.out);rintro e w' ⟨rfl,⟨nd,rfl⟩⟩;refine ⟨_,rfl,?_⟩))
  go_ret
  exact ⟨by first | rfl | (simp [errW_none,errW_some] <;> rfl) | (simp [*,errW_none,errW_some] <;> rfl),rbx HB⟩
 rw [if_neg c12] at H
 have c12b0 : decide (t405 < 0) = false:=decide_eq_false c12
 clear c12
 replace H:=Option.bind_eq_some_iff.mp H
 obtain ⟨t406,A150,H⟩:=H
 try dsimp only at H
 have A15:=ak A150
 clear A150
 by_cases c16 : t406 < 0
 ·rw [if_pos c16] at H
  have c16b0 : decide (t406 < 0) = true:=decide_eq_true c16
  clear c16
  obtain rfl:=Option.some.inj H
  go_enter Try.func85,Try.ntmps85
  go_wp2_with (first | ((with_reducible refine gate_dst (N:=2) rfl ?_);refine box_event ?hg (N:=2) ?hd (cs:=#[.slice A0_0 l0_0.length c0_0,.slice A0_1 l0_1.length c0_1,.slice A0_2 l0_2.length c0_2,.int .i64 a0_3,.slice A0_4 l0_4.length c0_4]) (t:=51) ?hr ?_;(case hd=>rfl);(case hg=>rfl);(case hr=>first | (go_simp;done) | (go_simp;rfl));intro gb402 hg w17 hbox hb;have n_ : _∧_∧_∧_:=⟨kh HB hb,ak (hbox),kz HB hg,kz HB hg⟩;clear HB hb hbox hg;obtain ⟨HB,BK402,GW402,GE402⟩:=n_;have hcz18_0 : w17.cell? ⟨gb402,0,none⟩ = some (.slice A0_0 l0_0.length c0_0):=(blk_cell BK402.out 0).trans rfl;have hcz18_1 : w17.cell? ⟨gb402,1,none⟩ = some (.slice A0_1 l0_1.length c0_1):=(blk_cell BK402.out 1).trans rfl;have hcz18_2 : w17.cell? ⟨gb402,2,none⟩ = some (.slice A0_2 l0_2.length c0_2):=(blk_cell BK402.out 2).trans rfl;have hcz18_3 : w17.cell? ⟨gb402,3,none⟩ = some (.int .i64 a0_3):=(blk_cell BK402.out 3).trans rfl;have hcz18_4 : w17.cell? ⟨gb402,4,none⟩ = some (.slice A0_4 l0_4.length c0_4):=(blk_cell BK402.out 4).trans rfl;have hfz18_0:=blk_frozen BK402.out 0;have hfz18_1:=blk_frozen BK402.out 1;have hfz18_2:=blk_frozen BK402.out 2;have hfz18_3:=blk_frozen BK402.out 3;have hfz18_4:=blk_frozen BK402.out 4) | ((with_reducible refine gc (f:=50) rfl ?_);refine gl (some 8) Try.func50 #[.slice A0_0 l0_0.length c0_0,.int .i64 a1] ?_;(with_reducible refine (laws_heldEntryS.calls k _ _ l0_0 a1 t403 _ ?side1 ?side2 A3.out).mono ?_);(case side1=>exact rc (Kd.C_below HR0_0.out HB.out));(case side2=>exact HC0_0.out);rintro e w' ⟨rfl,⟨nd,rfl⟩⟩;refine ⟨_,rfl,?_⟩) | ((with_reducible refine gc (f:=71) rfl ?_);refine gl (some 14) Try.func71 #[.slice A0_1 l0_1.length c0_1,.int .i64 t403] ?_;(with_reducible refine (laws_heldIntS.calls k _ _ l0_1 t403 t404 _ ?side1 ?side2 A7.out).mono ?_);(case side1=>exact rc (Kd.C_below HR0_1.out (rb1 GE402.out HB.out)));(case side2=>exact HC0_1.out);rintro e w' ⟨rfl,⟨nd,rfl⟩⟩;refine ⟨_,rfl,?_⟩) | ((with_reducible refine gc (f:=165) rfl ?_);refine gl (some 20) Try.func165 #[.slice A0_2 l0_2.length c0_2,.int .i64 t404] ?_;(with_reducible refine (laws_heldEarlyS.calls k _ _ l0_2 t404 t405 _ ?side1 ?side2 A11.out).mono ?_);(case side1=>exact rc (Kd.C_below HR0_2.out (rb1 GE402.out HB.out)));(case side2=>exact HC0_2.out);rintro e w' ⟨rfl,⟨nd,rfl⟩⟩;refine ⟨_,rfl,?_⟩) | ((with_reducible refine gc (f:=71) rfl ?_);refine gl (some 26) Try.func71 #[.slice A0_4 l0_4.length c0_4,.int .i64 t405] ?_;(with_reducible refine (laws_heldIntS.calls k _ _ l0_4 t405 t406 _ ?side1 ?side2 A15.out).mono ?_);(case side1=>exact rc (Kd.C_below HR0_4.out (rb1 GE402.out HB.out)));(case side2=>exact HC0_4.out);rintro e w' ⟨rfl,⟨nd,rfl⟩⟩;refine ⟨_,rfl,?_⟩))
  go_ret
  exact ⟨by first | rfl | (simp [errW_none,errW_some] <;> rfl) | (simp [*,errW_none,errW_some] <;> rfl),rbx HB⟩
 rw [if_neg c16] at H
 have c16b0 : decide (t406 < 0) = false:=decide_eq_false c16
 clear c16
 obtain rfl:=Option.some.inj H
 go_enter Try.func85,Try.ntmps85
 go_wp2_with (first | ((with_reducible refine gate_dst (N:=2) rfl ?_);refine box_event ?hg (N:=2) ?hd (cs:=#[.slice A0_0 l0_0.length c0_0,.slice A0_1 l0_1.length c0_1,.slice A0_2 l0_2.length c0_2,.int .i64 a0_3,.slice A0_4 l0_4.length c0_4]) (t:=51) ?hr ?_;(case hd=>rfl);(case hg=>rfl);(case hr=>first | (go_simp;done) | (go_simp;rfl));intro gb402 hg w19 hbox hb;have n_ : _∧_∧_∧_:=⟨kh HB hb,ak (hbox),kz HB hg,kz HB hg⟩;clear HB hb hbox hg;obtain ⟨HB,BK402,GW402,GE402⟩:=n_;have hcz20_0 : w19.cell? ⟨gb402,0,none⟩ = some (.slice A0_0 l0_0.length c0_0):=(blk_cell BK402.out 0).trans rfl;have hcz20_1 : w19.cell? ⟨gb402,1,none⟩ = some (.slice A0_1 l0_1.length c0_1):=(blk_cell BK402.out 1).trans rfl;have hcz20_2 : w19.cell? ⟨gb402,2,none⟩ = some (.slice A0_2 l0_2.length c0_2):=(blk_cell BK402.out 2).trans rfl;have hcz20_3 : w19.cell? ⟨gb402,3,none⟩ = some (.int .i64 a0_3):=(blk_cell BK402.out 3).trans rfl;have hcz20_4 : w19.cell? ⟨gb402,4,none⟩ = some (.slice A0_4 l0_4.length c0_4):=(blk_cell BK402.out 4).trans rfl;have hfz20_0:=blk_frozen BK402.out 0;have hfz20_1:=blk_frozen BK402.out 1;have hfz20_2:=blk_frozen BK402.out 2;have hfz20_3:=blk_frozen BK402.out 3;have hfz20_4:=blk_frozen BK402.out 4) | ((with_reducible refine gc (f:=50) rfl ?_);refine gl (some 8) Try.func50 #[.slice A0_0 l0_0.length c0_0,.int .i64 a1] ?_;(with_reducible refine (laws_heldEntryS.calls k _ _ l0_0 a1 t403 _ ?side1 ?side2 A3.out).mono ?_);(case side1=>exact rc (Kd.C_below HR0_0.out HB.out));(case side2=>exact HC0_0.out);rintro e w' ⟨rfl,⟨nd,rfl⟩⟩;refine ⟨_,rfl,?_⟩) | ((with_reducible refine gc (f:=71) rfl ?_);refine gl (some 14) Try.func71 #[.slice A0_1 l0_1.length c0_1,.int .i64 t403] ?_;(with_reducible refine (laws_heldIntS.calls k _ _ l0_1 t403 t404 _ ?side1 ?side2 A7.out).mono ?_);(case side1=>exact rc (Kd.C_below HR0_1.out (rb1 GE402.out HB.out)));(case side2=>exact HC0_1.out);rintro e w' ⟨rfl,⟨nd,rfl⟩⟩;refine ⟨_,rfl,?_⟩) | ((with_reducible refine gc (f:=165) rfl ?_);refine gl (some 20) Try.func165 #[.slice A0_2 l0_2.length c0_2,.int .i64 t404] ?_;(with_reducible refine (laws_heldEarlyS.calls k _ _ l0_2 t404 t405 _ ?side1 ?side2 A11.out).mono ?_);(case side1=>exact rc (Kd.C_below HR0_2.out (rb1 GE402.out HB.out)));(case side2=>exact HC0_2.out);rintro e w' ⟨rfl,⟨nd,rfl⟩⟩;refine ⟨_,rfl,?_⟩) | ((with_reducible refine gc (f:=71) rfl ?_);refine gl (some 26) Try.func71 #[.slice A0_4 l0_4.length c0_4,.int .i64 t405] ?_;(with_reducible refine (laws_heldIntS.calls k _ _ l0_4 t405 t406 _ ?side1 ?side2 A15.out).mono ?_);(case side1=>exact rc (Kd.C_below HR0_4.out (rb1 GE402.out HB.out)));(case side2=>exact HC0_4.out);rintro e w' ⟨rfl,⟨nd,rfl⟩⟩;refine ⟨_,rfl,?_⟩))
 go_ret
 exact ⟨by first | rfl | (simp [errW_none,errW_some] <;> rfl) | (simp [*,errW_none,errW_some] <;> rfl),rbx HB⟩

end Go.Proofs.Ythdeicbkimlnhaa.PFnExactKept
