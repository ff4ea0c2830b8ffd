/- The abstract machine, sixteenth part: words for code, joins and loops. No claim lies here. -/
import Derived.Test.YtahmbcgolnplgaaDoorA15
set_option linter.unusedVariables false
set_option linter.unusedSimpArgs false
namespace Go.Proofs.YtahmbcgolnplgaaDoorA
open Go

/-! Plain functions' hypotheses. -/
theorem of_if {α : Type} {c : Prop} [Decidable c] {x : Option α} {r : α} (h : (if c then x else none) = some r) : c ∧ x = some r := by
  by_cases hc : c
  · rw [if_pos hc] at h; exact ⟨hc, h⟩
  · rw [if_neg hc] at h; cases h
theorem of_bind {α β : Type} {x : Option α} {f : α → Option β} {r : β} (h : x.bind f = some r) : ∃ a, x = some a ∧ f a = some r := by
  cases x with
  | none => cases h
  | some a => exact ⟨a, rfl, h⟩
theorem nT {a : Bool} (h : a = false) : (!a) = true := by rw [h]; rfl
theorem nF {a : Bool} (h : a = true) : (!a) = false := by rw [h]; rfl
theorem eT {α : Type} [DecidableEq α] {a b : α} (h : a = b) : (a == b) = true := by rw [h]; exact beq_self_eq_true b
theorem eF {α : Type} [DecidableEq α] {a b : α} (h : ¬ a = b) : (a == b) = false := beq_eq_false_iff_ne.2 h
theorem eM {α : Type} [DecidableEq α] {a b : α} (h : a = b) : (a != b) = false := by rw [h]; exact bne_self_eq_false b
theorem eN {α : Type} [DecidableEq α] {a b : α} (h : ¬ a = b) : (a != b) = true := bne_iff_ne.2 h
theorem eTb {a b : Bool} (h : a = b) : (a == b) = true := by rw [h]; exact beq_self_eq_true b
theorem eFb {a b : Bool} (h : ¬ a = b) : (a == b) = false := beq_eq_false_iff_ne.2 h
theorem bF {a : Bool} (h : ¬ a = true) : a = false := by cases a with | true => exact absurd rfl h | false => rfl
theorem hT {t : Bool} (h : t = false) : t ≠ true := by rw [h]; decide
theorem hF {t : Bool} (h : t = true) : t ≠ false := by rw [h]; decide
theorem getE {α : Type} {f : α → AV} {l : List α} {z : α} {i : Int} (h0 : 0 ≤ i) (h1 : i < (l.length : Int)) : (l.map f)[i.toNat]? = some (f (l.getD i.toNat z)) := by
  have h : i.toNat < l.length := by omega
  rw [List.getElem?_map, List.getElem?_eq_getElem h, List.getD_eq_getElem?_getD, List.getElem?_eq_getElem h]; rfl
theorem lenE {α : Type} {f : α → AV} {l : List α} : ((l.map f).length : Int) = (l.length : Int) := by rw [List.length_map]

theorem ltE {α : Type} {f : α → AV} {l : List α} {i : Int} (h : i < (l.length : Int)) : i < ((l.map f).length : Int) := by rw [List.length_map]; exact h
theorem ls {α : Type} {l : List α} {i : Int} {j : Nat} {v : α} (h : i < (l.length : Int)) : i < ((l.set j v).length : Int) := by rw [List.length_set]; exact h
theorem lse {α : Type} {f : α → AV} {l : List α} {n : Int} {j : Nat} {v : α} (h : ((l.map f).length : Int) = n) : (((l.set j v).map f).length : Int) = n := by rw [List.length_map, List.length_set]; rw [List.length_map] at h; exact h
theorem setE {α : Type} {f : α → AV} {l : List α} {i : Nat} {e : α} : (l.map f).set i (f e) = (l.set i e).map f := (List.map_set ..).symm
theorem appE {α : Type} {f : α → AV} {l m : List α} : l.map f ++ m.map f = (l ++ m).map f := (List.map_append ..).symm
theorem repE {α : Type} {f : α → AV} {n : Nat} {z : α} : List.replicate n (f z) = (List.replicate n z).map f := (List.map_replicate ..).symm
theorem apb {α β : Type} {f : α → AV} {g : β → AV} {x : List α} {y : List β} {N b : Nat} (h : x.length + y.length < N) (hN : Nat.ble (N * b) 140737488355328 = true) : ((x.map f).length + (y.map g).length) * b ≤ 140737488355328 := by
  rw [List.length_map, List.length_map]
  exact Nat.le_trans (Nat.mul_le_mul_right b (Nat.le_of_lt h)) (Nat.le_of_ble_eq_true hN)
theorem apb0 {β : Type} {g : β → AV} {y : List β} {N b : Nat} (h : y.length < N) (hN : Nat.ble (N * b) 140737488355328 = true) : (y.map g).length * b ≤ 140737488355328 := by
  rw [List.length_map]
  exact Nat.le_trans (Nat.mul_le_mul_right b (Nat.le_of_lt h)) (Nat.le_of_ble_eq_true hN)
theorem mkb {n N b : Nat} (h : n ≤ N) (hN : Nat.ble (b * N) 281474976710656 = true) : b * n ≤ 281474976710656 := Nat.le_trans (Nat.mul_le_mul_left b h) (Nat.le_of_ble_eq_true hN)
def rd (l : List Int) (i : Int) : Int := l.getD i.toNat 0
def rdOf {α : Type} (z : α) (l : List α) (i : Int) : α := l.getD i.toNat z

/-! What elements mean. -/
def eI (k : IntKind) (n : Int) : AV := .lit (.int k n)
def eB (b : Bool) : AV := .lit (.bool b)
def eT' (s : ByteArray) : AV := .lit (.string s)
def eL {α : Type} (sz : Nat) (f : α → AV) (l : List α) : AV := .sl .n sz (l.map f)

section
variable {P : Program} {ops : Array Oper} {Q : Exit → Act → World → Prop} {E : Env} {nt : Nat} {s s0 : S}
section
variable {tm : List (Nat × AV)} {bk : List (Nat × Blk)} {todo : List Oper} {o : Oper} {ns : List Nm} {G : Prop}
theorem kcS0 (d : Nat) (x : AV) (ups : List (Nat × Blk)) {lk gl tl : List Nat} {c : LA} (hg : Gd ops nt tm o gl) (hok : Owp P Q E nt o ⟨tm, bk⟩ c lk tl) (hc : c = ⟨some d, x, []⟩) (hu : ups = []) (h : Wk P ops Q E nt s0 todo ⟨(d, x) :: tm, bk⟩ (⟨some d, [], gl ++ lk, tl⟩ :: ns) G) : Wk P ops Q E nt s0 (o :: todo) ⟨tm, bk⟩ ns G := by
  subst hu
  exact kcall hg hok hc h
theorem kcS1 (d : Nat) {b0 : Nat} {y0 : Blk} (x : AV) (ups : List (Nat × Blk)) {lk gl tl : List Nat} {c : LA} (hg : Gd ops nt tm o gl) (hok : Owp P Q E nt o ⟨tm, bk⟩ c lk tl) (hc : c = ⟨some d, x, [(b0, y0)]⟩) (hu : ups = [(b0, y0)]) (h : Wk P ops Q E nt s0 todo ⟨(d, x) :: tm, (b0, y0) :: bk⟩ (⟨some d, [b0], gl ++ lk, tl⟩ :: ns) G) : Wk P ops Q E nt s0 (o :: todo) ⟨tm, bk⟩ ns G := by
  subst hu
  exact kcall hg hok hc h
theorem kcS2 (d : Nat) {b0 b1 : Nat} {y0 y1 : Blk} (x : AV) (ups : List (Nat × Blk)) {lk gl tl : List Nat} {c : LA} (hg : Gd ops nt tm o gl) (hok : Owp P Q E nt o ⟨tm, bk⟩ c lk tl) (hc : c = ⟨some d, x, [(b0, y0), (b1, y1)]⟩) (hu : ups = [(b0, y0), (b1, y1)]) (h : Wk P ops Q E nt s0 todo ⟨(d, x) :: tm, (b0, y0) :: (b1, y1) :: bk⟩ (⟨some d, [b0, b1], gl ++ lk, tl⟩ :: ns) G) : Wk P ops Q E nt s0 (o :: todo) ⟨tm, bk⟩ ns G := by
  subst hu
  exact kcall hg hok hc h
theorem kcS3 (d : Nat) {b0 b1 b2 : Nat} {y0 y1 y2 : Blk} (x : AV) (ups : List (Nat × Blk)) {lk gl tl : List Nat} {c : LA} (hg : Gd ops nt tm o gl) (hok : Owp P Q E nt o ⟨tm, bk⟩ c lk tl) (hc : c = ⟨some d, x, [(b0, y0), (b1, y1), (b2, y2)]⟩) (hu : ups = [(b0, y0), (b1, y1), (b2, y2)]) (h : Wk P ops Q E nt s0 todo ⟨(d, x) :: tm, (b0, y0) :: (b1, y1) :: (b2, y2) :: bk⟩ (⟨some d, [b0, b1, b2], gl ++ lk, tl⟩ :: ns) G) : Wk P ops Q E nt s0 (o :: todo) ⟨tm, bk⟩ ns G := by
  subst hu
  exact kcall hg hok hc h
theorem kcS4 (d : Nat) {b0 b1 b2 b3 : Nat} {y0 y1 y2 y3 : Blk} (x : AV) (ups : List (Nat × Blk)) {lk gl tl : List Nat} {c : LA} (hg : Gd ops nt tm o gl) (hok : Owp P Q E nt o ⟨tm, bk⟩ c lk tl) (hc : c = ⟨some d, x, [(b0, y0), (b1, y1), (b2, y2), (b3, y3)]⟩) (hu : ups = [(b0, y0), (b1, y1), (b2, y2), (b3, y3)]) (h : Wk P ops Q E nt s0 todo ⟨(d, x) :: tm, (b0, y0) :: (b1, y1) :: (b2, y2) :: (b3, y3) :: bk⟩ (⟨some d, [b0, b1, b2, b3], gl ++ lk, tl⟩ :: ns) G) : Wk P ops Q E nt s0 (o :: todo) ⟨tm, bk⟩ ns G := by
  subst hu
  exact kcall hg hok hc h
theorem kcS5 (d : Nat) {b0 b1 b2 b3 b4 : Nat} {y0 y1 y2 y3 y4 : Blk} (x : AV) (ups : List (Nat × Blk)) {lk gl tl : List Nat} {c : LA} (hg : Gd ops nt tm o gl) (hok : Owp P Q E nt o ⟨tm, bk⟩ c lk tl) (hc : c = ⟨some d, x, [(b0, y0), (b1, y1), (b2, y2), (b3, y3), (b4, y4)]⟩) (hu : ups = [(b0, y0), (b1, y1), (b2, y2), (b3, y3), (b4, y4)]) (h : Wk P ops Q E nt s0 todo ⟨(d, x) :: tm, (b0, y0) :: (b1, y1) :: (b2, y2) :: (b3, y3) :: (b4, y4) :: bk⟩ (⟨some d, [b0, b1, b2, b3, b4], gl ++ lk, tl⟩ :: ns) G) : Wk P ops Q E nt s0 (o :: todo) ⟨tm, bk⟩ ns G := by
  subst hu
  exact kcall hg hok hc h
theorem kcS6 (d : Nat) {b0 b1 b2 b3 b4 b5 : Nat} {y0 y1 y2 y3 y4 y5 : Blk} (x : AV) (ups : List (Nat × Blk)) {lk gl tl : List Nat} {c : LA} (hg : Gd ops nt tm o gl) (hok : Owp P Q E nt o ⟨tm, bk⟩ c lk tl) (hc : c = ⟨some d, x, [(b0, y0), (b1, y1), (b2, y2), (b3, y3), (b4, y4), (b5, y5)]⟩) (hu : ups = [(b0, y0), (b1, y1), (b2, y2), (b3, y3), (b4, y4), (b5, y5)]) (h : Wk P ops Q E nt s0 todo ⟨(d, x) :: tm, (b0, y0) :: (b1, y1) :: (b2, y2) :: (b3, y3) :: (b4, y4) :: (b5, y5) :: bk⟩ (⟨some d, [b0, b1, b2, b3, b4, b5], gl ++ lk, tl⟩ :: ns) G) : Wk P ops Q E nt s0 (o :: todo) ⟨tm, bk⟩ ns G := by
  subst hu
  exact kcall hg hok hc h
theorem kcS7 (d : Nat) {b0 b1 b2 b3 b4 b5 b6 : Nat} {y0 y1 y2 y3 y4 y5 y6 : Blk} (x : AV) (ups : List (Nat × Blk)) {lk gl tl : List Nat} {c : LA} (hg : Gd ops nt tm o gl) (hok : Owp P Q E nt o ⟨tm, bk⟩ c lk tl) (hc : c = ⟨some d, x, [(b0, y0), (b1, y1), (b2, y2), (b3, y3), (b4, y4), (b5, y5), (b6, y6)]⟩) (hu : ups = [(b0, y0), (b1, y1), (b2, y2), (b3, y3), (b4, y4), (b5, y5), (b6, y6)]) (h : Wk P ops Q E nt s0 todo ⟨(d, x) :: tm, (b0, y0) :: (b1, y1) :: (b2, y2) :: (b3, y3) :: (b4, y4) :: (b5, y5) :: (b6, y6) :: bk⟩ (⟨some d, [b0, b1, b2, b3, b4, b5, b6], gl ++ lk, tl⟩ :: ns) G) : Wk P ops Q E nt s0 (o :: todo) ⟨tm, bk⟩ ns G := by
  subst hu
  exact kcall hg hok hc h
theorem kcS8 (d : Nat) {b0 b1 b2 b3 b4 b5 b6 b7 : Nat} {y0 y1 y2 y3 y4 y5 y6 y7 : Blk} (x : AV) (ups : List (Nat × Blk)) {lk gl tl : List Nat} {c : LA} (hg : Gd ops nt tm o gl) (hok : Owp P Q E nt o ⟨tm, bk⟩ c lk tl) (hc : c = ⟨some d, x, [(b0, y0), (b1, y1), (b2, y2), (b3, y3), (b4, y4), (b5, y5), (b6, y6), (b7, y7)]⟩) (hu : ups = [(b0, y0), (b1, y1), (b2, y2), (b3, y3), (b4, y4), (b5, y5), (b6, y6), (b7, y7)]) (h : Wk P ops Q E nt s0 todo ⟨(d, x) :: tm, (b0, y0) :: (b1, y1) :: (b2, y2) :: (b3, y3) :: (b4, y4) :: (b5, y5) :: (b6, y6) :: (b7, y7) :: bk⟩ (⟨some d, [b0, b1, b2, b3, b4, b5, b6, b7], gl ++ lk, tl⟩ :: ns) G) : Wk P ops Q E nt s0 (o :: todo) ⟨tm, bk⟩ ns G := by
  subst hu
  exact kcall hg hok hc h
theorem kcS9 (d : Nat) {b0 b1 b2 b3 b4 b5 b6 b7 b8 : Nat} {y0 y1 y2 y3 y4 y5 y6 y7 y8 : Blk} (x : AV) (ups : List (Nat × Blk)) {lk gl tl : List Nat} {c : LA} (hg : Gd ops nt tm o gl) (hok : Owp P Q E nt o ⟨tm, bk⟩ c lk tl) (hc : c = ⟨some d, x, [(b0, y0), (b1, y1), (b2, y2), (b3, y3), (b4, y4), (b5, y5), (b6, y6), (b7, y7), (b8, y8)]⟩) (hu : ups = [(b0, y0), (b1, y1), (b2, y2), (b3, y3), (b4, y4), (b5, y5), (b6, y6), (b7, y7), (b8, y8)]) (h : Wk P ops Q E nt s0 todo ⟨(d, x) :: tm, (b0, y0) :: (b1, y1) :: (b2, y2) :: (b3, y3) :: (b4, y4) :: (b5, y5) :: (b6, y6) :: (b7, y7) :: (b8, y8) :: bk⟩ (⟨some d, [b0, b1, b2, b3, b4, b5, b6, b7, b8], gl ++ lk, tl⟩ :: ns) G) : Wk P ops Q E nt s0 (o :: todo) ⟨tm, bk⟩ ns G := by
  subst hu
  exact kcall hg hok hc h
theorem kcS10 (d : Nat) {b0 b1 b2 b3 b4 b5 b6 b7 b8 b9 : Nat} {y0 y1 y2 y3 y4 y5 y6 y7 y8 y9 : Blk} (x : AV) (ups : List (Nat × Blk)) {lk gl tl : List Nat} {c : LA} (hg : Gd ops nt tm o gl) (hok : Owp P Q E nt o ⟨tm, bk⟩ c lk tl) (hc : c = ⟨some d, x, [(b0, y0), (b1, y1), (b2, y2), (b3, y3), (b4, y4), (b5, y5), (b6, y6), (b7, y7), (b8, y8), (b9, y9)]⟩) (hu : ups = [(b0, y0), (b1, y1), (b2, y2), (b3, y3), (b4, y4), (b5, y5), (b6, y6), (b7, y7), (b8, y8), (b9, y9)]) (h : Wk P ops Q E nt s0 todo ⟨(d, x) :: tm, (b0, y0) :: (b1, y1) :: (b2, y2) :: (b3, y3) :: (b4, y4) :: (b5, y5) :: (b6, y6) :: (b7, y7) :: (b8, y8) :: (b9, y9) :: bk⟩ (⟨some d, [b0, b1, b2, b3, b4, b5, b6, b7, b8, b9], gl ++ lk, tl⟩ :: ns) G) : Wk P ops Q E nt s0 (o :: todo) ⟨tm, bk⟩ ns G := by
  subst hu
  exact kcall hg hok hc h
theorem kcS11 (d : Nat) {b0 b1 b2 b3 b4 b5 b6 b7 b8 b9 b10 : Nat} {y0 y1 y2 y3 y4 y5 y6 y7 y8 y9 y10 : Blk} (x : AV) (ups : List (Nat × Blk)) {lk gl tl : List Nat} {c : LA} (hg : Gd ops nt tm o gl) (hok : Owp P Q E nt o ⟨tm, bk⟩ c lk tl) (hc : c = ⟨some d, x, [(b0, y0), (b1, y1), (b2, y2), (b3, y3), (b4, y4), (b5, y5), (b6, y6), (b7, y7), (b8, y8), (b9, y9), (b10, y10)]⟩) (hu : ups = [(b0, y0), (b1, y1), (b2, y2), (b3, y3), (b4, y4), (b5, y5), (b6, y6), (b7, y7), (b8, y8), (b9, y9), (b10, y10)]) (h : Wk P ops Q E nt s0 todo ⟨(d, x) :: tm, (b0, y0) :: (b1, y1) :: (b2, y2) :: (b3, y3) :: (b4, y4) :: (b5, y5) :: (b6, y6) :: (b7, y7) :: (b8, y8) :: (b9, y9) :: (b10, y10) :: bk⟩ (⟨some d, [b0, b1, b2, b3, b4, b5, b6, b7, b8, b9, b10], gl ++ lk, tl⟩ :: ns) G) : Wk P ops Q E nt s0 (o :: todo) ⟨tm, bk⟩ ns G := by
  subst hu
  exact kcall hg hok hc h
theorem kcS12 (d : Nat) {b0 b1 b2 b3 b4 b5 b6 b7 b8 b9 b10 b11 : Nat} {y0 y1 y2 y3 y4 y5 y6 y7 y8 y9 y10 y11 : Blk} (x : AV) (ups : List (Nat × Blk)) {lk gl tl : List Nat} {c : LA} (hg : Gd ops nt tm o gl) (hok : Owp P Q E nt o ⟨tm, bk⟩ c lk tl) (hc : c = ⟨some d, x, [(b0, y0), (b1, y1), (b2, y2), (b3, y3), (b4, y4), (b5, y5), (b6, y6), (b7, y7), (b8, y8), (b9, y9), (b10, y10), (b11, y11)]⟩) (hu : ups = [(b0, y0), (b1, y1), (b2, y2), (b3, y3), (b4, y4), (b5, y5), (b6, y6), (b7, y7), (b8, y8), (b9, y9), (b10, y10), (b11, y11)]) (h : Wk P ops Q E nt s0 todo ⟨(d, x) :: tm, (b0, y0) :: (b1, y1) :: (b2, y2) :: (b3, y3) :: (b4, y4) :: (b5, y5) :: (b6, y6) :: (b7, y7) :: (b8, y8) :: (b9, y9) :: (b10, y10) :: (b11, y11) :: bk⟩ (⟨some d, [b0, b1, b2, b3, b4, b5, b6, b7, b8, b9, b10, b11], gl ++ lk, tl⟩ :: ns) G) : Wk P ops Q E nt s0 (o :: todo) ⟨tm, bk⟩ ns G := by
  subst hu
  exact kcall hg hok hc h
theorem kcS13 (d : Nat) {b0 b1 b2 b3 b4 b5 b6 b7 b8 b9 b10 b11 b12 : Nat} {y0 y1 y2 y3 y4 y5 y6 y7 y8 y9 y10 y11 y12 : Blk} (x : AV) (ups : List (Nat × Blk)) {lk gl tl : List Nat} {c : LA} (hg : Gd ops nt tm o gl) (hok : Owp P Q E nt o ⟨tm, bk⟩ c lk tl) (hc : c = ⟨some d, x, [(b0, y0), (b1, y1), (b2, y2), (b3, y3), (b4, y4), (b5, y5), (b6, y6), (b7, y7), (b8, y8), (b9, y9), (b10, y10), (b11, y11), (b12, y12)]⟩) (hu : ups = [(b0, y0), (b1, y1), (b2, y2), (b3, y3), (b4, y4), (b5, y5), (b6, y6), (b7, y7), (b8, y8), (b9, y9), (b10, y10), (b11, y11), (b12, y12)]) (h : Wk P ops Q E nt s0 todo ⟨(d, x) :: tm, (b0, y0) :: (b1, y1) :: (b2, y2) :: (b3, y3) :: (b4, y4) :: (b5, y5) :: (b6, y6) :: (b7, y7) :: (b8, y8) :: (b9, y9) :: (b10, y10) :: (b11, y11) :: (b12, y12) :: bk⟩ (⟨some d, [b0, b1, b2, b3, b4, b5, b6, b7, b8, b9, b10, b11, b12], gl ++ lk, tl⟩ :: ns) G) : Wk P ops Q E nt s0 (o :: todo) ⟨tm, bk⟩ ns G := by
  subst hu
  exact kcall hg hok hc h
theorem kcS14 (d : Nat) {b0 b1 b2 b3 b4 b5 b6 b7 b8 b9 b10 b11 b12 b13 : Nat} {y0 y1 y2 y3 y4 y5 y6 y7 y8 y9 y10 y11 y12 y13 : Blk} (x : AV) (ups : List (Nat × Blk)) {lk gl tl : List Nat} {c : LA} (hg : Gd ops nt tm o gl) (hok : Owp P Q E nt o ⟨tm, bk⟩ c lk tl) (hc : c = ⟨some d, x, [(b0, y0), (b1, y1), (b2, y2), (b3, y3), (b4, y4), (b5, y5), (b6, y6), (b7, y7), (b8, y8), (b9, y9), (b10, y10), (b11, y11), (b12, y12), (b13, y13)]⟩) (hu : ups = [(b0, y0), (b1, y1), (b2, y2), (b3, y3), (b4, y4), (b5, y5), (b6, y6), (b7, y7), (b8, y8), (b9, y9), (b10, y10), (b11, y11), (b12, y12), (b13, y13)]) (h : Wk P ops Q E nt s0 todo ⟨(d, x) :: tm, (b0, y0) :: (b1, y1) :: (b2, y2) :: (b3, y3) :: (b4, y4) :: (b5, y5) :: (b6, y6) :: (b7, y7) :: (b8, y8) :: (b9, y9) :: (b10, y10) :: (b11, y11) :: (b12, y12) :: (b13, y13) :: bk⟩ (⟨some d, [b0, b1, b2, b3, b4, b5, b6, b7, b8, b9, b10, b11, b12, b13], gl ++ lk, tl⟩ :: ns) G) : Wk P ops Q E nt s0 (o :: todo) ⟨tm, bk⟩ ns G := by
  subst hu
  exact kcall hg hok hc h
theorem kcN0 (x : AV) (ups : List (Nat × Blk)) {lk gl tl : List Nat} {c : LA} (hg : Gd ops nt tm o gl) (hok : Owp P Q E nt o ⟨tm, bk⟩ c lk tl) (hc : c = ⟨none, x, []⟩) (hu : ups = []) (h : Wk P ops Q E nt s0 todo ⟨tm, bk⟩ (⟨none, [], gl ++ lk, tl⟩ :: ns) G) : Wk P ops Q E nt s0 (o :: todo) ⟨tm, bk⟩ ns G := by
  subst hu
  exact kcall hg hok hc h
theorem kcN1 {b0 : Nat} {y0 : Blk} (x : AV) (ups : List (Nat × Blk)) {lk gl tl : List Nat} {c : LA} (hg : Gd ops nt tm o gl) (hok : Owp P Q E nt o ⟨tm, bk⟩ c lk tl) (hc : c = ⟨none, x, [(b0, y0)]⟩) (hu : ups = [(b0, y0)]) (h : Wk P ops Q E nt s0 todo ⟨tm, (b0, y0) :: bk⟩ (⟨none, [b0], gl ++ lk, tl⟩ :: ns) G) : Wk P ops Q E nt s0 (o :: todo) ⟨tm, bk⟩ ns G := by
  subst hu
  exact kcall hg hok hc h
theorem kcN2 {b0 b1 : Nat} {y0 y1 : Blk} (x : AV) (ups : List (Nat × Blk)) {lk gl tl : List Nat} {c : LA} (hg : Gd ops nt tm o gl) (hok : Owp P Q E nt o ⟨tm, bk⟩ c lk tl) (hc : c = ⟨none, x, [(b0, y0), (b1, y1)]⟩) (hu : ups = [(b0, y0), (b1, y1)]) (h : Wk P ops Q E nt s0 todo ⟨tm, (b0, y0) :: (b1, y1) :: bk⟩ (⟨none, [b0, b1], gl ++ lk, tl⟩ :: ns) G) : Wk P ops Q E nt s0 (o :: todo) ⟨tm, bk⟩ ns G := by
  subst hu
  exact kcall hg hok hc h
theorem kcN3 {b0 b1 b2 : Nat} {y0 y1 y2 : Blk} (x : AV) (ups : List (Nat × Blk)) {lk gl tl : List Nat} {c : LA} (hg : Gd ops nt tm o gl) (hok : Owp P Q E nt o ⟨tm, bk⟩ c lk tl) (hc : c = ⟨none, x, [(b0, y0), (b1, y1), (b2, y2)]⟩) (hu : ups = [(b0, y0), (b1, y1), (b2, y2)]) (h : Wk P ops Q E nt s0 todo ⟨tm, (b0, y0) :: (b1, y1) :: (b2, y2) :: bk⟩ (⟨none, [b0, b1, b2], gl ++ lk, tl⟩ :: ns) G) : Wk P ops Q E nt s0 (o :: todo) ⟨tm, bk⟩ ns G := by
  subst hu
  exact kcall hg hok hc h
theorem kcN4 {b0 b1 b2 b3 : Nat} {y0 y1 y2 y3 : Blk} (x : AV) (ups : List (Nat × Blk)) {lk gl tl : List Nat} {c : LA} (hg : Gd ops nt tm o gl) (hok : Owp P Q E nt o ⟨tm, bk⟩ c lk tl) (hc : c = ⟨none, x, [(b0, y0), (b1, y1), (b2, y2), (b3, y3)]⟩) (hu : ups = [(b0, y0), (b1, y1), (b2, y2), (b3, y3)]) (h : Wk P ops Q E nt s0 todo ⟨tm, (b0, y0) :: (b1, y1) :: (b2, y2) :: (b3, y3) :: bk⟩ (⟨none, [b0, b1, b2, b3], gl ++ lk, tl⟩ :: ns) G) : Wk P ops Q E nt s0 (o :: todo) ⟨tm, bk⟩ ns G := by
  subst hu
  exact kcall hg hok hc h
end
/-! Control. -/
theorem aw_ifT {c : Operand} {x y : Code} {t : Bool} (h : AW E nt P x Q s) (ht : t = true) (hc : opd s c = .lit (.bool t) := by rfl) : AW E nt P (.cond c x y) Q s :=
  aw_cond hc (fun _ => h) (fun hf => by rw [ht] at hf; cases hf)
theorem aw_ifF {c : Operand} {x y : Code} {t : Bool} (h : AW E nt P y Q s) (ht : t = false) (hc : opd s c = .lit (.bool t) := by rfl) : AW E nt P (.cond c x y) Q s :=
  aw_cond hc (fun hf => by rw [ht] at hf; cases hf) (fun _ => h)
theorem ac_next {x : Code} {Q' : Exit → Act → World → Prop} (h : AW E nt P x Q' s) : ACont E nt s (Exit.then (Code.wp P x Q') Q .normal) := h
theorem ac_then {x : Act → World → Prop} {id : Nat} (h : ACont E nt s (Q (.exit id))) : ACont E nt s (Exit.then x Q (.exit id)) := h
theorem ac_thenR {x : Act → World → Prop} (h : ACont E nt s (Q .ret)) : ACont E nt s (Exit.then x Q .ret) := h
theorem ac_blkN {id : Nat} (h : ACont E nt s (Q .normal)) : ACont E nt s (Exit.inBlock id Q .normal) := h
theorem ac_blkR {id : Nat} (h : ACont E nt s (Q .ret)) : ACont E nt s (Exit.inBlock id Q .ret) := h
theorem ac_k {x : Act → World → Prop} (h : ACont E nt s x) : ACont E nt s (Exit.then x Q .normal) := h
theorem grpM {X Y : Act → World → Prop} (h : ∀ a w, X a w → Y a w) : ∀ e a w, Exit.then X Q e a w → Exit.then Y Q e a w := by
  intro e a w q
  cases e with
  | normal => exact h a w q
  | _ => exact q
/-! Where several ways come together. -/
theorem aw_grp1 {x0 y : Code} (h : AW E nt P x0 (Exit.then (Code.wp P y Q) Q) s) : AW E nt P (.seq x0 y) Q s := fun a w hr => wp_seq (h a w hr)
theorem aw_cut1 {x0 y : Code} {J : (Act → World → Prop) → Prop} (h : ∀ K, J K → AW E nt P x0 (Exit.then K Q) s) (hJ : J (Code.wp P y Q)) : AW E nt P (.seq x0 y) Q s := aw_grp1 (h _ hJ)
theorem grp1 {x0 y : Code} (a : Act) (w : World) (h : Code.wp P x0 (Exit.then (Code.wp P y Q) Q) a w) : Code.wp P (.seq x0 y) Q a w := wp_seq (h)
theorem aw_grp2 {x0 x1 y : Code} (h : AW E nt P x0 (Exit.then (Code.wp P x1 (Exit.then (Code.wp P y Q) Q)) Q) s) : AW E nt P (.seq x0 (.seq x1 y)) Q s := fun a w hr => wp_seq (Code.wp_mono (grpM (grp1)) (h a w hr))
theorem aw_cut2 {x0 x1 y : Code} {J : (Act → World → Prop) → Prop} (h : ∀ K, J K → AW E nt P x0 (Exit.then (Code.wp P x1 (Exit.then K Q)) Q) s) (hJ : J (Code.wp P y Q)) : AW E nt P (.seq x0 (.seq x1 y)) Q s := aw_grp2 (h _ hJ)
theorem grp2 {x0 x1 y : Code} (a : Act) (w : World) (h : Code.wp P x0 (Exit.then (Code.wp P x1 (Exit.then (Code.wp P y Q) Q)) Q) a w) : Code.wp P (.seq x0 (.seq x1 y)) Q a w := wp_seq (Code.wp_mono (grpM (grp1)) h)
theorem aw_grp3 {x0 x1 x2 y : Code} (h : AW E nt P x0 (Exit.then (Code.wp P x1 (Exit.then (Code.wp P x2 (Exit.then (Code.wp P y Q) Q)) Q)) Q) s) : AW E nt P (.seq x0 (.seq x1 (.seq x2 y))) Q s := fun a w hr => wp_seq (Code.wp_mono (grpM (grp2)) (h a w hr))
theorem aw_cut3 {x0 x1 x2 y : Code} {J : (Act → World → Prop) → Prop} (h : ∀ K, J K → AW E nt P x0 (Exit.then (Code.wp P x1 (Exit.then (Code.wp P x2 (Exit.then K Q)) Q)) Q) s) (hJ : J (Code.wp P y Q)) : AW E nt P (.seq x0 (.seq x1 (.seq x2 y))) Q s := aw_grp3 (h _ hJ)
theorem grp3 {x0 x1 x2 y : Code} (a : Act) (w : World) (h : Code.wp P x0 (Exit.then (Code.wp P x1 (Exit.then (Code.wp P x2 (Exit.then (Code.wp P y Q) Q)) Q)) Q) a w) : Code.wp P (.seq x0 (.seq x1 (.seq x2 y))) Q a w := wp_seq (Code.wp_mono (grpM (grp2)) h)
theorem aw_grp4 {x0 x1 x2 x3 y : Code} (h : AW E nt P x0 (Exit.then (Code.wp P x1 (Exit.then (Code.wp P x2 (Exit.then (Code.wp P x3 (Exit.then (Code.wp P y Q) Q)) Q)) Q)) Q) s) : AW E nt P (.seq x0 (.seq x1 (.seq x2 (.seq x3 y)))) Q s := fun a w hr => wp_seq (Code.wp_mono (grpM (grp3)) (h a w hr))
theorem aw_cut4 {x0 x1 x2 x3 y : Code} {J : (Act → World → Prop) → Prop} (h : ∀ K, J K → AW E nt P x0 (Exit.then (Code.wp P x1 (Exit.then (Code.wp P x2 (Exit.then (Code.wp P x3 (Exit.then K Q)) Q)) Q)) Q) s) (hJ : J (Code.wp P y Q)) : AW E nt P (.seq x0 (.seq x1 (.seq x2 (.seq x3 y)))) Q s := aw_grp4 (h _ hJ)
theorem grp4 {x0 x1 x2 x3 y : Code} (a : Act) (w : World) (h : Code.wp P x0 (Exit.then (Code.wp P x1 (Exit.then (Code.wp P x2 (Exit.then (Code.wp P x3 (Exit.then (Code.wp P y Q) Q)) Q)) Q)) Q) a w) : Code.wp P (.seq x0 (.seq x1 (.seq x2 (.seq x3 y)))) Q a w := wp_seq (Code.wp_mono (grpM (grp3)) h)
theorem aw_grp5 {x0 x1 x2 x3 x4 y : Code} (h : AW E nt P x0 (Exit.then (Code.wp P x1 (Exit.then (Code.wp P x2 (Exit.then (Code.wp P x3 (Exit.then (Code.wp P x4 (Exit.then (Code.wp P y Q) Q)) Q)) Q)) Q)) Q) s) : AW E nt P (.seq x0 (.seq x1 (.seq x2 (.seq x3 (.seq x4 y))))) Q s := fun a w hr => wp_seq (Code.wp_mono (grpM (grp4)) (h a w hr))
theorem aw_cut5 {x0 x1 x2 x3 x4 y : Code} {J : (Act → World → Prop) → Prop} (h : ∀ K, J K → AW E nt P x0 (Exit.then (Code.wp P x1 (Exit.then (Code.wp P x2 (Exit.then (Code.wp P x3 (Exit.then (Code.wp P x4 (Exit.then K Q)) Q)) Q)) Q)) Q) s) (hJ : J (Code.wp P y Q)) : AW E nt P (.seq x0 (.seq x1 (.seq x2 (.seq x3 (.seq x4 y))))) Q s := aw_grp5 (h _ hJ)
theorem grp5 {x0 x1 x2 x3 x4 y : Code} (a : Act) (w : World) (h : Code.wp P x0 (Exit.then (Code.wp P x1 (Exit.then (Code.wp P x2 (Exit.then (Code.wp P x3 (Exit.then (Code.wp P x4 (Exit.then (Code.wp P y Q) Q)) Q)) Q)) Q)) Q) a w) : Code.wp P (.seq x0 (.seq x1 (.seq x2 (.seq x3 (.seq x4 y))))) Q a w := wp_seq (Code.wp_mono (grpM (grp4)) h)
theorem aw_grp6 {x0 x1 x2 x3 x4 x5 y : Code} (h : AW E nt P x0 (Exit.then (Code.wp P x1 (Exit.then (Code.wp P x2 (Exit.then (Code.wp P x3 (Exit.then (Code.wp P x4 (Exit.then (Code.wp P x5 (Exit.then (Code.wp P y Q) Q)) Q)) Q)) Q)) Q)) Q) s) : AW E nt P (.seq x0 (.seq x1 (.seq x2 (.seq x3 (.seq x4 (.seq x5 y)))))) Q s := fun a w hr => wp_seq (Code.wp_mono (grpM (grp5)) (h a w hr))
theorem aw_cut6 {x0 x1 x2 x3 x4 x5 y : Code} {J : (Act → World → Prop) → Prop} (h : ∀ K, J K → AW E nt P x0 (Exit.then (Code.wp P x1 (Exit.then (Code.wp P x2 (Exit.then (Code.wp P x3 (Exit.then (Code.wp P x4 (Exit.then (Code.wp P x5 (Exit.then K Q)) Q)) Q)) Q)) Q)) Q) s) (hJ : J (Code.wp P y Q)) : AW E nt P (.seq x0 (.seq x1 (.seq x2 (.seq x3 (.seq x4 (.seq x5 y)))))) Q s := aw_grp6 (h _ hJ)
theorem grp6 {x0 x1 x2 x3 x4 x5 y : Code} (a : Act) (w : World) (h : Code.wp P x0 (Exit.then (Code.wp P x1 (Exit.then (Code.wp P x2 (Exit.then (Code.wp P x3 (Exit.then (Code.wp P x4 (Exit.then (Code.wp P x5 (Exit.then (Code.wp P y Q) Q)) Q)) Q)) Q)) Q)) Q) a w) : Code.wp P (.seq x0 (.seq x1 (.seq x2 (.seq x3 (.seq x4 (.seq x5 y)))))) Q a w := wp_seq (Code.wp_mono (grpM (grp5)) h)
theorem aw_grp7 {x0 x1 x2 x3 x4 x5 x6 y : Code} (h : AW E nt P x0 (Exit.then (Code.wp P x1 (Exit.then (Code.wp P x2 (Exit.then (Code.wp P x3 (Exit.then (Code.wp P x4 (Exit.then (Code.wp P x5 (Exit.then (Code.wp P x6 (Exit.then (Code.wp P y Q) Q)) Q)) Q)) Q)) Q)) Q)) Q) s) : AW E nt P (.seq x0 (.seq x1 (.seq x2 (.seq x3 (.seq x4 (.seq x5 (.seq x6 y))))))) Q s := fun a w hr => wp_seq (Code.wp_mono (grpM (grp6)) (h a w hr))
theorem aw_cut7 {x0 x1 x2 x3 x4 x5 x6 y : Code} {J : (Act → World → Prop) → Prop} (h : ∀ K, J K → AW E nt P x0 (Exit.then (Code.wp P x1 (Exit.then (Code.wp P x2 (Exit.then (Code.wp P x3 (Exit.then (Code.wp P x4 (Exit.then (Code.wp P x5 (Exit.then (Code.wp P x6 (Exit.then K Q)) Q)) Q)) Q)) Q)) Q)) Q) s) (hJ : J (Code.wp P y Q)) : AW E nt P (.seq x0 (.seq x1 (.seq x2 (.seq x3 (.seq x4 (.seq x5 (.seq x6 y))))))) Q s := aw_grp7 (h _ hJ)
theorem grp7 {x0 x1 x2 x3 x4 x5 x6 y : Code} (a : Act) (w : World) (h : Code.wp P x0 (Exit.then (Code.wp P x1 (Exit.then (Code.wp P x2 (Exit.then (Code.wp P x3 (Exit.then (Code.wp P x4 (Exit.then (Code.wp P x5 (Exit.then (Code.wp P x6 (Exit.then (Code.wp P y Q) Q)) Q)) Q)) Q)) Q)) Q)) Q) a w) : Code.wp P (.seq x0 (.seq x1 (.seq x2 (.seq x3 (.seq x4 (.seq x5 (.seq x6 y))))))) Q a w := wp_seq (Code.wp_mono (grpM (grp6)) h)
theorem aw_grp8 {x0 x1 x2 x3 x4 x5 x6 x7 y : Code} (h : AW E nt P x0 (Exit.then (Code.wp P x1 (Exit.then (Code.wp P x2 (Exit.then (Code.wp P x3 (Exit.then (Code.wp P x4 (Exit.then (Code.wp P x5 (Exit.then (Code.wp P x6 (Exit.then (Code.wp P x7 (Exit.then (Code.wp P y Q) Q)) Q)) Q)) Q)) Q)) Q)) Q)) Q) s) : AW E nt P (.seq x0 (.seq x1 (.seq x2 (.seq x3 (.seq x4 (.seq x5 (.seq x6 (.seq x7 y)))))))) Q s := fun a w hr => wp_seq (Code.wp_mono (grpM (grp7)) (h a w hr))
theorem aw_cut8 {x0 x1 x2 x3 x4 x5 x6 x7 y : Code} {J : (Act → World → Prop) → Prop} (h : ∀ K, J K → AW E nt P x0 (Exit.then (Code.wp P x1 (Exit.then (Code.wp P x2 (Exit.then (Code.wp P x3 (Exit.then (Code.wp P x4 (Exit.then (Code.wp P x5 (Exit.then (Code.wp P x6 (Exit.then (Code.wp P x7 (Exit.then K Q)) Q)) Q)) Q)) Q)) Q)) Q)) Q) s) (hJ : J (Code.wp P y Q)) : AW E nt P (.seq x0 (.seq x1 (.seq x2 (.seq x3 (.seq x4 (.seq x5 (.seq x6 (.seq x7 y)))))))) Q s := aw_grp8 (h _ hJ)
theorem grp8 {x0 x1 x2 x3 x4 x5 x6 x7 y : Code} (a : Act) (w : World) (h : Code.wp P x0 (Exit.then (Code.wp P x1 (Exit.then (Code.wp P x2 (Exit.then (Code.wp P x3 (Exit.then (Code.wp P x4 (Exit.then (Code.wp P x5 (Exit.then (Code.wp P x6 (Exit.then (Code.wp P x7 (Exit.then (Code.wp P y Q) Q)) Q)) Q)) Q)) Q)) Q)) Q)) Q) a w) : Code.wp P (.seq x0 (.seq x1 (.seq x2 (.seq x3 (.seq x4 (.seq x5 (.seq x6 (.seq x7 y)))))))) Q a w := wp_seq (Code.wp_mono (grpM (grp7)) h)
/-! A loop over a family of states; the rounds fall. -/
theorem aw_loop0 {c : Code} (H : Nat → Prop) (S' : S) (k : Nat) (hk : H k) (h0 : ∀ K, ACont E nt (S') K → ACont E nt s K) (hz : ¬ H 0)
    (hround : ∀ k, H (k + 1) → ∀ K, (∀ (k' : Nat), k' ≤ k → H k' → ACont E nt (S') K) → AW E nt P c (Exit.then K Q) (S')) : AW E nt P (.loop c) Q s := by
  refine aw_loop (fun k a w => H k ∧ Rel E nt (S') a w) k (h0 _ (fun a w hr => ⟨hk, hr⟩)) (fun k a w ⟨hp, hr⟩ => ?_)
  cases k with
  | zero => exact absurd hp (hz)
  | succ k => exact hround k hp _ (fun k' hk' hp' a' w' hr' => ⟨k', by omega, hp', hr'⟩) a w hr
theorem aw_loop1 {ι0 : Type} {c : Code} (H : Nat → ι0 → Prop) (S' : ι0 → S) (k : Nat) (p0 : ι0) (hk : H k p0) (h0 : ∀ K, ACont E nt (S' p0) K → ACont E nt s K) (hz : ∀ (p0 : ι0), ¬ H 0 p0)
    (hround : ∀ k (p0 : ι0), H (k + 1) p0 → ∀ K, (∀ (k' : Nat) (p0 : ι0), k' ≤ k → H k' p0 → ACont E nt (S' p0) K) → AW E nt P c (Exit.then K Q) (S' p0)) : AW E nt P (.loop c) Q s := by
  refine aw_loop (fun k a w => ∃ p0, H k p0 ∧ Rel E nt (S' p0) a w) k (h0 _ (fun a w hr => ⟨p0, hk, hr⟩)) (fun k a w ⟨p0, hp, hr⟩ => ?_)
  cases k with
  | zero => exact absurd hp (hz p0)
  | succ k => exact hround k p0 hp _ (fun k' q0 hk' hp' a' w' hr' => ⟨k', by omega, q0, hp', hr'⟩) a w hr
theorem aw_loop2 {ι0 : Type} {ι1 : Type} {c : Code} (H : Nat → ι0 → ι1 → Prop) (S' : ι0 → ι1 → S) (k : Nat) (p0 : ι0) (p1 : ι1) (hk : H k p0 p1) (h0 : ∀ K, ACont E nt (S' p0 p1) K → ACont E nt s K) (hz : ∀ (p0 : ι0) (p1 : ι1), ¬ H 0 p0 p1)
    (hround : ∀ k (p0 : ι0) (p1 : ι1), H (k + 1) p0 p1 → ∀ K, (∀ (k' : Nat) (p0 : ι0) (p1 : ι1), k' ≤ k → H k' p0 p1 → ACont E nt (S' p0 p1) K) → AW E nt P c (Exit.then K Q) (S' p0 p1)) : AW E nt P (.loop c) Q s := by
  refine aw_loop (fun k a w => ∃ p0 p1, H k p0 p1 ∧ Rel E nt (S' p0 p1) a w) k (h0 _ (fun a w hr => ⟨p0, p1, hk, hr⟩)) (fun k a w ⟨p0, p1, hp, hr⟩ => ?_)
  cases k with
  | zero => exact absurd hp (hz p0 p1)
  | succ k => exact hround k p0 p1 hp _ (fun k' q0 q1 hk' hp' a' w' hr' => ⟨k', by omega, q0, q1, hp', hr'⟩) a w hr
theorem aw_loop3 {ι0 : Type} {ι1 : Type} {ι2 : Type} {c : Code} (H : Nat → ι0 → ι1 → ι2 → Prop) (S' : ι0 → ι1 → ι2 → S) (k : Nat) (p0 : ι0) (p1 : ι1) (p2 : ι2) (hk : H k p0 p1 p2) (h0 : ∀ K, ACont E nt (S' p0 p1 p2) K → ACont E nt s K) (hz : ∀ (p0 : ι0) (p1 : ι1) (p2 : ι2), ¬ H 0 p0 p1 p2)
    (hround : ∀ k (p0 : ι0) (p1 : ι1) (p2 : ι2), H (k + 1) p0 p1 p2 → ∀ K, (∀ (k' : Nat) (p0 : ι0) (p1 : ι1) (p2 : ι2), k' ≤ k → H k' p0 p1 p2 → ACont E nt (S' p0 p1 p2) K) → AW E nt P c (Exit.then K Q) (S' p0 p1 p2)) : AW E nt P (.loop c) Q s := by
  refine aw_loop (fun k a w => ∃ p0 p1 p2, H k p0 p1 p2 ∧ Rel E nt (S' p0 p1 p2) a w) k (h0 _ (fun a w hr => ⟨p0, p1, p2, hk, hr⟩)) (fun k a w ⟨p0, p1, p2, hp, hr⟩ => ?_)
  cases k with
  | zero => exact absurd hp (hz p0 p1 p2)
  | succ k => exact hround k p0 p1 p2 hp _ (fun k' q0 q1 q2 hk' hp' a' w' hr' => ⟨k', by omega, q0, q1, q2, hp', hr'⟩) a w hr
theorem aw_loop4 {ι0 : Type} {ι1 : Type} {ι2 : Type} {ι3 : Type} {c : Code} (H : Nat → ι0 → ι1 → ι2 → ι3 → Prop) (S' : ι0 → ι1 → ι2 → ι3 → S) (k : Nat) (p0 : ι0) (p1 : ι1) (p2 : ι2) (p3 : ι3) (hk : H k p0 p1 p2 p3) (h0 : ∀ K, ACont E nt (S' p0 p1 p2 p3) K → ACont E nt s K) (hz : ∀ (p0 : ι0) (p1 : ι1) (p2 : ι2) (p3 : ι3), ¬ H 0 p0 p1 p2 p3)
    (hround : ∀ k (p0 : ι0) (p1 : ι1) (p2 : ι2) (p3 : ι3), H (k + 1) p0 p1 p2 p3 → ∀ K, (∀ (k' : Nat) (p0 : ι0) (p1 : ι1) (p2 : ι2) (p3 : ι3), k' ≤ k → H k' p0 p1 p2 p3 → ACont E nt (S' p0 p1 p2 p3) K) → AW E nt P c (Exit.then K Q) (S' p0 p1 p2 p3)) : AW E nt P (.loop c) Q s := by
  refine aw_loop (fun k a w => ∃ p0 p1 p2 p3, H k p0 p1 p2 p3 ∧ Rel E nt (S' p0 p1 p2 p3) a w) k (h0 _ (fun a w hr => ⟨p0, p1, p2, p3, hk, hr⟩)) (fun k a w ⟨p0, p1, p2, p3, hp, hr⟩ => ?_)
  cases k with
  | zero => exact absurd hp (hz p0 p1 p2 p3)
  | succ k => exact hround k p0 p1 p2 p3 hp _ (fun k' q0 q1 q2 q3 hk' hp' a' w' hr' => ⟨k', by omega, q0, q1, q2, q3, hp', hr'⟩) a w hr
theorem aw_loop5 {ι0 : Type} {ι1 : Type} {ι2 : Type} {ι3 : Type} {ι4 : Type} {c : Code} (H : Nat → ι0 → ι1 → ι2 → ι3 → ι4 → Prop) (S' : ι0 → ι1 → ι2 → ι3 → ι4 → S) (k : Nat) (p0 : ι0) (p1 : ι1) (p2 : ι2) (p3 : ι3) (p4 : ι4) (hk : H k p0 p1 p2 p3 p4) (h0 : ∀ K, ACont E nt (S' p0 p1 p2 p3 p4) K → ACont E nt s K) (hz : ∀ (p0 : ι0) (p1 : ι1) (p2 : ι2) (p3 : ι3) (p4 : ι4), ¬ H 0 p0 p1 p2 p3 p4)
    (hround : ∀ k (p0 : ι0) (p1 : ι1) (p2 : ι2) (p3 : ι3) (p4 : ι4), H (k + 1) p0 p1 p2 p3 p4 → ∀ K, (∀ (k' : Nat) (p0 : ι0) (p1 : ι1) (p2 : ι2) (p3 : ι3) (p4 : ι4), k' ≤ k → H k' p0 p1 p2 p3 p4 → ACont E nt (S' p0 p1 p2 p3 p4) K) → AW E nt P c (Exit.then K Q) (S' p0 p1 p2 p3 p4)) : AW E nt P (.loop c) Q s := by
  refine aw_loop (fun k a w => ∃ p0 p1 p2 p3 p4, H k p0 p1 p2 p3 p4 ∧ Rel E nt (S' p0 p1 p2 p3 p4) a w) k (h0 _ (fun a w hr => ⟨p0, p1, p2, p3, p4, hk, hr⟩)) (fun k a w ⟨p0, p1, p2, p3, p4, hp, hr⟩ => ?_)
  cases k with
  | zero => exact absurd hp (hz p0 p1 p2 p3 p4)
  | succ k => exact hround k p0 p1 p2 p3 p4 hp _ (fun k' q0 q1 q2 q3 q4 hk' hp' a' w' hr' => ⟨k', by omega, q0, q1, q2, q3, q4, hp', hr'⟩) a w hr
theorem aw_loop6 {ι0 : Type} {ι1 : Type} {ι2 : Type} {ι3 : Type} {ι4 : Type} {ι5 : Type} {c : Code} (H : Nat → ι0 → ι1 → ι2 → ι3 → ι4 → ι5 → Prop) (S' : ι0 → ι1 → ι2 → ι3 → ι4 → ι5 → S) (k : Nat) (p0 : ι0) (p1 : ι1) (p2 : ι2) (p3 : ι3) (p4 : ι4) (p5 : ι5) (hk : H k p0 p1 p2 p3 p4 p5) (h0 : ∀ K, ACont E nt (S' p0 p1 p2 p3 p4 p5) K → ACont E nt s K) (hz : ∀ (p0 : ι0) (p1 : ι1) (p2 : ι2) (p3 : ι3) (p4 : ι4) (p5 : ι5), ¬ H 0 p0 p1 p2 p3 p4 p5)
    (hround : ∀ k (p0 : ι0) (p1 : ι1) (p2 : ι2) (p3 : ι3) (p4 : ι4) (p5 : ι5), H (k + 1) p0 p1 p2 p3 p4 p5 → ∀ K, (∀ (k' : Nat) (p0 : ι0) (p1 : ι1) (p2 : ι2) (p3 : ι3) (p4 : ι4) (p5 : ι5), k' ≤ k → H k' p0 p1 p2 p3 p4 p5 → ACont E nt (S' p0 p1 p2 p3 p4 p5) K) → AW E nt P c (Exit.then K Q) (S' p0 p1 p2 p3 p4 p5)) : AW E nt P (.loop c) Q s := by
  refine aw_loop (fun k a w => ∃ p0 p1 p2 p3 p4 p5, H k p0 p1 p2 p3 p4 p5 ∧ Rel E nt (S' p0 p1 p2 p3 p4 p5) a w) k (h0 _ (fun a w hr => ⟨p0, p1, p2, p3, p4, p5, hk, hr⟩)) (fun k a w ⟨p0, p1, p2, p3, p4, p5, hp, hr⟩ => ?_)
  cases k with
  | zero => exact absurd hp (hz p0 p1 p2 p3 p4 p5)
  | succ k => exact hround k p0 p1 p2 p3 p4 p5 hp _ (fun k' q0 q1 q2 q3 q4 q5 hk' hp' a' w' hr' => ⟨k', by omega, q0, q1, q2, q3, q4, q5, hp', hr'⟩) a w hr
theorem aw_loop7 {ι0 : Type} {ι1 : Type} {ι2 : Type} {ι3 : Type} {ι4 : Type} {ι5 : Type} {ι6 : Type} {c : Code} (H : Nat → ι0 → ι1 → ι2 → ι3 → ι4 → ι5 → ι6 → Prop) (S' : ι0 → ι1 → ι2 → ι3 → ι4 → ι5 → ι6 → S) (k : Nat) (p0 : ι0) (p1 : ι1) (p2 : ι2) (p3 : ι3) (p4 : ι4) (p5 : ι5) (p6 : ι6) (hk : H k p0 p1 p2 p3 p4 p5 p6) (h0 : ∀ K, ACont E nt (S' p0 p1 p2 p3 p4 p5 p6) K → ACont E nt s K) (hz : ∀ (p0 : ι0) (p1 : ι1) (p2 : ι2) (p3 : ι3) (p4 : ι4) (p5 : ι5) (p6 : ι6), ¬ H 0 p0 p1 p2 p3 p4 p5 p6)
    (hround : ∀ k (p0 : ι0) (p1 : ι1) (p2 : ι2) (p3 : ι3) (p4 : ι4) (p5 : ι5) (p6 : ι6), H (k + 1) p0 p1 p2 p3 p4 p5 p6 → ∀ K, (∀ (k' : Nat) (p0 : ι0) (p1 : ι1) (p2 : ι2) (p3 : ι3) (p4 : ι4) (p5 : ι5) (p6 : ι6), k' ≤ k → H k' p0 p1 p2 p3 p4 p5 p6 → ACont E nt (S' p0 p1 p2 p3 p4 p5 p6) K) → AW E nt P c (Exit.then K Q) (S' p0 p1 p2 p3 p4 p5 p6)) : AW E nt P (.loop c) Q s := by
  refine aw_loop (fun k a w => ∃ p0 p1 p2 p3 p4 p5 p6, H k p0 p1 p2 p3 p4 p5 p6 ∧ Rel E nt (S' p0 p1 p2 p3 p4 p5 p6) a w) k (h0 _ (fun a w hr => ⟨p0, p1, p2, p3, p4, p5, p6, hk, hr⟩)) (fun k a w ⟨p0, p1, p2, p3, p4, p5, p6, hp, hr⟩ => ?_)
  cases k with
  | zero => exact absurd hp (hz p0 p1 p2 p3 p4 p5 p6)
  | succ k => exact hround k p0 p1 p2 p3 p4 p5 p6 hp _ (fun k' q0 q1 q2 q3 q4 q5 q6 hk' hp' a' w' hr' => ⟨k', by omega, q0, q1, q2, q3, q4, q5, q6, hp', hr'⟩) a w hr
theorem aw_loop8 {ι0 : Type} {ι1 : Type} {ι2 : Type} {ι3 : Type} {ι4 : Type} {ι5 : Type} {ι6 : Type} {ι7 : Type} {c : Code} (H : Nat → ι0 → ι1 → ι2 → ι3 → ι4 → ι5 → ι6 → ι7 → Prop) (S' : ι0 → ι1 → ι2 → ι3 → ι4 → ι5 → ι6 → ι7 → S) (k : Nat) (p0 : ι0) (p1 : ι1) (p2 : ι2) (p3 : ι3) (p4 : ι4) (p5 : ι5) (p6 : ι6) (p7 : ι7) (hk : H k p0 p1 p2 p3 p4 p5 p6 p7) (h0 : ∀ K, ACont E nt (S' p0 p1 p2 p3 p4 p5 p6 p7) K → ACont E nt s K) (hz : ∀ (p0 : ι0) (p1 : ι1) (p2 : ι2) (p3 : ι3) (p4 : ι4) (p5 : ι5) (p6 : ι6) (p7 : ι7), ¬ H 0 p0 p1 p2 p3 p4 p5 p6 p7)
    (hround : ∀ k (p0 : ι0) (p1 : ι1) (p2 : ι2) (p3 : ι3) (p4 : ι4) (p5 : ι5) (p6 : ι6) (p7 : ι7), H (k + 1) p0 p1 p2 p3 p4 p5 p6 p7 → ∀ K, (∀ (k' : Nat) (p0 : ι0) (p1 : ι1) (p2 : ι2) (p3 : ι3) (p4 : ι4) (p5 : ι5) (p6 : ι6) (p7 : ι7), k' ≤ k → H k' p0 p1 p2 p3 p4 p5 p6 p7 → ACont E nt (S' p0 p1 p2 p3 p4 p5 p6 p7) K) → AW E nt P c (Exit.then K Q) (S' p0 p1 p2 p3 p4 p5 p6 p7)) : AW E nt P (.loop c) Q s := by
  refine aw_loop (fun k a w => ∃ p0 p1 p2 p3 p4 p5 p6 p7, H k p0 p1 p2 p3 p4 p5 p6 p7 ∧ Rel E nt (S' p0 p1 p2 p3 p4 p5 p6 p7) a w) k (h0 _ (fun a w hr => ⟨p0, p1, p2, p3, p4, p5, p6, p7, hk, hr⟩)) (fun k a w ⟨p0, p1, p2, p3, p4, p5, p6, p7, hp, hr⟩ => ?_)
  cases k with
  | zero => exact absurd hp (hz p0 p1 p2 p3 p4 p5 p6 p7)
  | succ k => exact hround k p0 p1 p2 p3 p4 p5 p6 p7 hp _ (fun k' q0 q1 q2 q3 q4 q5 q6 q7 hk' hp' a' w' hr' => ⟨k', by omega, q0, q1, q2, q3, q4, q5, q6, q7, hp', hr'⟩) a w hr
theorem aw_loop9 {ι0 : Type} {ι1 : Type} {ι2 : Type} {ι3 : Type} {ι4 : Type} {ι5 : Type} {ι6 : Type} {ι7 : Type} {ι8 : Type} {c : Code} (H : Nat → ι0 → ι1 → ι2 → ι3 → ι4 → ι5 → ι6 → ι7 → ι8 → Prop) (S' : ι0 → ι1 → ι2 → ι3 → ι4 → ι5 → ι6 → ι7 → ι8 → S) (k : Nat) (p0 : ι0) (p1 : ι1) (p2 : ι2) (p3 : ι3) (p4 : ι4) (p5 : ι5) (p6 : ι6) (p7 : ι7) (p8 : ι8) (hk : H k p0 p1 p2 p3 p4 p5 p6 p7 p8) (h0 : ∀ K, ACont E nt (S' p0 p1 p2 p3 p4 p5 p6 p7 p8) K → ACont E nt s K) (hz : ∀ (p0 : ι0) (p1 : ι1) (p2 : ι2) (p3 : ι3) (p4 : ι4) (p5 : ι5) (p6 : ι6) (p7 : ι7) (p8 : ι8), ¬ H 0 p0 p1 p2 p3 p4 p5 p6 p7 p8)
    (hround : ∀ k (p0 : ι0) (p1 : ι1) (p2 : ι2) (p3 : ι3) (p4 : ι4) (p5 : ι5) (p6 : ι6) (p7 : ι7) (p8 : ι8), H (k + 1) p0 p1 p2 p3 p4 p5 p6 p7 p8 → ∀ K, (∀ (k' : Nat) (p0 : ι0) (p1 : ι1) (p2 : ι2) (p3 : ι3) (p4 : ι4) (p5 : ι5) (p6 : ι6) (p7 : ι7) (p8 : ι8), k' ≤ k → H k' p0 p1 p2 p3 p4 p5 p6 p7 p8 → ACont E nt (S' p0 p1 p2 p3 p4 p5 p6 p7 p8) K) → AW E nt P c (Exit.then K Q) (S' p0 p1 p2 p3 p4 p5 p6 p7 p8)) : AW E nt P (.loop c) Q s := by
  refine aw_loop (fun k a w => ∃ p0 p1 p2 p3 p4 p5 p6 p7 p8, H k p0 p1 p2 p3 p4 p5 p6 p7 p8 ∧ Rel E nt (S' p0 p1 p2 p3 p4 p5 p6 p7 p8) a w) k (h0 _ (fun a w hr => ⟨p0, p1, p2, p3, p4, p5, p6, p7, p8, hk, hr⟩)) (fun k a w ⟨p0, p1, p2, p3, p4, p5, p6, p7, p8, hp, hr⟩ => ?_)
  cases k with
  | zero => exact absurd hp (hz p0 p1 p2 p3 p4 p5 p6 p7 p8)
  | succ k => exact hround k p0 p1 p2 p3 p4 p5 p6 p7 p8 hp _ (fun k' q0 q1 q2 q3 q4 q5 q6 q7 q8 hk' hp' a' w' hr' => ⟨k', by omega, q0, q1, q2, q3, q4, q5, q6, q7, q8, hp', hr'⟩) a w hr
theorem aw_loop10 {ι0 : Type} {ι1 : Type} {ι2 : Type} {ι3 : Type} {ι4 : Type} {ι5 : Type} {ι6 : Type} {ι7 : Type} {ι8 : Type} {ι9 : Type} {c : Code} (H : Nat → ι0 → ι1 → ι2 → ι3 → ι4 → ι5 → ι6 → ι7 → ι8 → ι9 → Prop) (S' : ι0 → ι1 → ι2 → ι3 → ι4 → ι5 → ι6 → ι7 → ι8 → ι9 → S) (k : Nat) (p0 : ι0) (p1 : ι1) (p2 : ι2) (p3 : ι3) (p4 : ι4) (p5 : ι5) (p6 : ι6) (p7 : ι7) (p8 : ι8) (p9 : ι9) (hk : H k p0 p1 p2 p3 p4 p5 p6 p7 p8 p9) (h0 : ∀ K, ACont E nt (S' p0 p1 p2 p3 p4 p5 p6 p7 p8 p9) K → ACont E nt s K) (hz : ∀ (p0 : ι0) (p1 : ι1) (p2 : ι2) (p3 : ι3) (p4 : ι4) (p5 : ι5) (p6 : ι6) (p7 : ι7) (p8 : ι8) (p9 : ι9), ¬ H 0 p0 p1 p2 p3 p4 p5 p6 p7 p8 p9)
    (hround : ∀ k (p0 : ι0) (p1 : ι1) (p2 : ι2) (p3 : ι3) (p4 : ι4) (p5 : ι5) (p6 : ι6) (p7 : ι7) (p8 : ι8) (p9 : ι9), H (k + 1) p0 p1 p2 p3 p4 p5 p6 p7 p8 p9 → ∀ K, (∀ (k' : Nat) (p0 : ι0) (p1 : ι1) (p2 : ι2) (p3 : ι3) (p4 : ι4) (p5 : ι5) (p6 : ι6) (p7 : ι7) (p8 : ι8) (p9 : ι9), k' ≤ k → H k' p0 p1 p2 p3 p4 p5 p6 p7 p8 p9 → ACont E nt (S' p0 p1 p2 p3 p4 p5 p6 p7 p8 p9) K) → AW E nt P c (Exit.then K Q) (S' p0 p1 p2 p3 p4 p5 p6 p7 p8 p9)) : AW E nt P (.loop c) Q s := by
  refine aw_loop (fun k a w => ∃ p0 p1 p2 p3 p4 p5 p6 p7 p8 p9, H k p0 p1 p2 p3 p4 p5 p6 p7 p8 p9 ∧ Rel E nt (S' p0 p1 p2 p3 p4 p5 p6 p7 p8 p9) a w) k (h0 _ (fun a w hr => ⟨p0, p1, p2, p3, p4, p5, p6, p7, p8, p9, hk, hr⟩)) (fun k a w ⟨p0, p1, p2, p3, p4, p5, p6, p7, p8, p9, hp, hr⟩ => ?_)
  cases k with
  | zero => exact absurd hp (hz p0 p1 p2 p3 p4 p5 p6 p7 p8 p9)
  | succ k => exact hround k p0 p1 p2 p3 p4 p5 p6 p7 p8 p9 hp _ (fun k' q0 q1 q2 q3 q4 q5 q6 q7 q8 q9 hk' hp' a' w' hr' => ⟨k', by omega, q0, q1, q2, q3, q4, q5, q6, q7, q8, q9, hp', hr'⟩) a w hr
theorem aw_loop11 {ι0 : Type} {ι1 : Type} {ι2 : Type} {ι3 : Type} {ι4 : Type} {ι5 : Type} {ι6 : Type} {ι7 : Type} {ι8 : Type} {ι9 : Type} {ι10 : Type} {c : Code} (H : Nat → ι0 → ι1 → ι2 → ι3 → ι4 → ι5 → ι6 → ι7 → ι8 → ι9 → ι10 → Prop) (S' : ι0 → ι1 → ι2 → ι3 → ι4 → ι5 → ι6 → ι7 → ι8 → ι9 → ι10 → S) (k : Nat) (p0 : ι0) (p1 : ι1) (p2 : ι2) (p3 : ι3) (p4 : ι4) (p5 : ι5) (p6 : ι6) (p7 : ι7) (p8 : ι8) (p9 : ι9) (p10 : ι10) (hk : H k p0 p1 p2 p3 p4 p5 p6 p7 p8 p9 p10) (h0 : ∀ K, ACont E nt (S' p0 p1 p2 p3 p4 p5 p6 p7 p8 p9 p10) K → ACont E nt s K) (hz : ∀ (p0 : ι0) (p1 : ι1) (p2 : ι2) (p3 : ι3) (p4 : ι4) (p5 : ι5) (p6 : ι6) (p7 : ι7) (p8 : ι8) (p9 : ι9) (p10 : ι10), ¬ H 0 p0 p1 p2 p3 p4 p5 p6 p7 p8 p9 p10)
    (hround : ∀ k (p0 : ι0) (p1 : ι1) (p2 : ι2) (p3 : ι3) (p4 : ι4) (p5 : ι5) (p6 : ι6) (p7 : ι7) (p8 : ι8) (p9 : ι9) (p10 : ι10), H (k + 1) p0 p1 p2 p3 p4 p5 p6 p7 p8 p9 p10 → ∀ K, (∀ (k' : Nat) (p0 : ι0) (p1 : ι1) (p2 : ι2) (p3 : ι3) (p4 : ι4) (p5 : ι5) (p6 : ι6) (p7 : ι7) (p8 : ι8) (p9 : ι9) (p10 : ι10), k' ≤ k → H k' p0 p1 p2 p3 p4 p5 p6 p7 p8 p9 p10 → ACont E nt (S' p0 p1 p2 p3 p4 p5 p6 p7 p8 p9 p10) K) → AW E nt P c (Exit.then K Q) (S' p0 p1 p2 p3 p4 p5 p6 p7 p8 p9 p10)) : AW E nt P (.loop c) Q s := by
  refine aw_loop (fun k a w => ∃ p0 p1 p2 p3 p4 p5 p6 p7 p8 p9 p10, H k p0 p1 p2 p3 p4 p5 p6 p7 p8 p9 p10 ∧ Rel E nt (S' p0 p1 p2 p3 p4 p5 p6 p7 p8 p9 p10) a w) k (h0 _ (fun a w hr => ⟨p0, p1, p2, p3, p4, p5, p6, p7, p8, p9, p10, hk, hr⟩)) (fun k a w ⟨p0, p1, p2, p3, p4, p5, p6, p7, p8, p9, p10, hp, hr⟩ => ?_)
  cases k with
  | zero => exact absurd hp (hz p0 p1 p2 p3 p4 p5 p6 p7 p8 p9 p10)
  | succ k => exact hround k p0 p1 p2 p3 p4 p5 p6 p7 p8 p9 p10 hp _ (fun k' q0 q1 q2 q3 q4 q5 q6 q7 q8 q9 q10 hk' hp' a' w' hr' => ⟨k', by omega, q0, q1, q2, q3, q4, q5, q6, q7, q8, q9, q10, hp', hr'⟩) a w hr
theorem aw_loop12 {ι0 : Type} {ι1 : Type} {ι2 : Type} {ι3 : Type} {ι4 : Type} {ι5 : Type} {ι6 : Type} {ι7 : Type} {ι8 : Type} {ι9 : Type} {ι10 : Type} {ι11 : Type} {c : Code} (H : Nat → ι0 → ι1 → ι2 → ι3 → ι4 → ι5 → ι6 → ι7 → ι8 → ι9 → ι10 → ι11 → Prop) (S' : ι0 → ι1 → ι2 → ι3 → ι4 → ι5 → ι6 → ι7 → ι8 → ι9 → ι10 → ι11 → S) (k : Nat) (p0 : ι0) (p1 : ι1) (p2 : ι2) (p3 : ι3) (p4 : ι4) (p5 : ι5) (p6 : ι6) (p7 : ι7) (p8 : ι8) (p9 : ι9) (p10 : ι10) (p11 : ι11) (hk : H k p0 p1 p2 p3 p4 p5 p6 p7 p8 p9 p10 p11) (h0 : ∀ K, ACont E nt (S' p0 p1 p2 p3 p4 p5 p6 p7 p8 p9 p10 p11) K → ACont E nt s K) (hz : ∀ (p0 : ι0) (p1 : ι1) (p2 : ι2) (p3 : ι3) (p4 : ι4) (p5 : ι5) (p6 : ι6) (p7 : ι7) (p8 : ι8) (p9 : ι9) (p10 : ι10) (p11 : ι11), ¬ H 0 p0 p1 p2 p3 p4 p5 p6 p7 p8 p9 p10 p11)
    (hround : ∀ k (p0 : ι0) (p1 : ι1) (p2 : ι2) (p3 : ι3) (p4 : ι4) (p5 : ι5) (p6 : ι6) (p7 : ι7) (p8 : ι8) (p9 : ι9) (p10 : ι10) (p11 : ι11), H (k + 1) p0 p1 p2 p3 p4 p5 p6 p7 p8 p9 p10 p11 → ∀ K, (∀ (k' : Nat) (p0 : ι0) (p1 : ι1) (p2 : ι2) (p3 : ι3) (p4 : ι4) (p5 : ι5) (p6 : ι6) (p7 : ι7) (p8 : ι8) (p9 : ι9) (p10 : ι10) (p11 : ι11), k' ≤ k → H k' p0 p1 p2 p3 p4 p5 p6 p7 p8 p9 p10 p11 → ACont E nt (S' p0 p1 p2 p3 p4 p5 p6 p7 p8 p9 p10 p11) K) → AW E nt P c (Exit.then K Q) (S' p0 p1 p2 p3 p4 p5 p6 p7 p8 p9 p10 p11)) : AW E nt P (.loop c) Q s := by
  refine aw_loop (fun k a w => ∃ p0 p1 p2 p3 p4 p5 p6 p7 p8 p9 p10 p11, H k p0 p1 p2 p3 p4 p5 p6 p7 p8 p9 p10 p11 ∧ Rel E nt (S' p0 p1 p2 p3 p4 p5 p6 p7 p8 p9 p10 p11) a w) k (h0 _ (fun a w hr => ⟨p0, p1, p2, p3, p4, p5, p6, p7, p8, p9, p10, p11, hk, hr⟩)) (fun k a w ⟨p0, p1, p2, p3, p4, p5, p6, p7, p8, p9, p10, p11, hp, hr⟩ => ?_)
  cases k with
  | zero => exact absurd hp (hz p0 p1 p2 p3 p4 p5 p6 p7 p8 p9 p10 p11)
  | succ k => exact hround k p0 p1 p2 p3 p4 p5 p6 p7 p8 p9 p10 p11 hp _ (fun k' q0 q1 q2 q3 q4 q5 q6 q7 q8 q9 q10 q11 hk' hp' a' w' hr' => ⟨k', by omega, q0, q1, q2, q3, q4, q5, q6, q7, q8, q9, q10, q11, hp', hr'⟩) a w hr
theorem aw_loop13 {ι0 : Type} {ι1 : Type} {ι2 : Type} {ι3 : Type} {ι4 : Type} {ι5 : Type} {ι6 : Type} {ι7 : Type} {ι8 : Type} {ι9 : Type} {ι10 : Type} {ι11 : Type} {ι12 : Type} {c : Code} (H : Nat → ι0 → ι1 → ι2 → ι3 → ι4 → ι5 → ι6 → ι7 → ι8 → ι9 → ι10 → ι11 → ι12 → Prop) (S' : ι0 → ι1 → ι2 → ι3 → ι4 → ι5 → ι6 → ι7 → ι8 → ι9 → ι10 → ι11 → ι12 → S) (k : Nat) (p0 : ι0) (p1 : ι1) (p2 : ι2) (p3 : ι3) (p4 : ι4) (p5 : ι5) (p6 : ι6) (p7 : ι7) (p8 : ι8) (p9 : ι9) (p10 : ι10) (p11 : ι11) (p12 : ι12) (hk : H k p0 p1 p2 p3 p4 p5 p6 p7 p8 p9 p10 p11 p12) (h0 : ∀ K, ACont E nt (S' p0 p1 p2 p3 p4 p5 p6 p7 p8 p9 p10 p11 p12) K → ACont E nt s K) (hz : ∀ (p0 : ι0) (p1 : ι1) (p2 : ι2) (p3 : ι3) (p4 : ι4) (p5 : ι5) (p6 : ι6) (p7 : ι7) (p8 : ι8) (p9 : ι9) (p10 : ι10) (p11 : ι11) (p12 : ι12), ¬ H 0 p0 p1 p2 p3 p4 p5 p6 p7 p8 p9 p10 p11 p12)
    (hround : ∀ k (p0 : ι0) (p1 : ι1) (p2 : ι2) (p3 : ι3) (p4 : ι4) (p5 : ι5) (p6 : ι6) (p7 : ι7) (p8 : ι8) (p9 : ι9) (p10 : ι10) (p11 : ι11) (p12 : ι12), H (k + 1) p0 p1 p2 p3 p4 p5 p6 p7 p8 p9 p10 p11 p12 → ∀ K, (∀ (k' : Nat) (p0 : ι0) (p1 : ι1) (p2 : ι2) (p3 : ι3) (p4 : ι4) (p5 : ι5) (p6 : ι6) (p7 : ι7) (p8 : ι8) (p9 : ι9) (p10 : ι10) (p11 : ι11) (p12 : ι12), k' ≤ k → H k' p0 p1 p2 p3 p4 p5 p6 p7 p8 p9 p10 p11 p12 → ACont E nt (S' p0 p1 p2 p3 p4 p5 p6 p7 p8 p9 p10 p11 p12) K) → AW E nt P c (Exit.then K Q) (S' p0 p1 p2 p3 p4 p5 p6 p7 p8 p9 p10 p11 p12)) : AW E nt P (.loop c) Q s := by
  refine aw_loop (fun k a w => ∃ p0 p1 p2 p3 p4 p5 p6 p7 p8 p9 p10 p11 p12, H k p0 p1 p2 p3 p4 p5 p6 p7 p8 p9 p10 p11 p12 ∧ Rel E nt (S' p0 p1 p2 p3 p4 p5 p6 p7 p8 p9 p10 p11 p12) a w) k (h0 _ (fun a w hr => ⟨p0, p1, p2, p3, p4, p5, p6, p7, p8, p9, p10, p11, p12, hk, hr⟩)) (fun k a w ⟨p0, p1, p2, p3, p4, p5, p6, p7, p8, p9, p10, p11, p12, hp, hr⟩ => ?_)
  cases k with
  | zero => exact absurd hp (hz p0 p1 p2 p3 p4 p5 p6 p7 p8 p9 p10 p11 p12)
  | succ k => exact hround k p0 p1 p2 p3 p4 p5 p6 p7 p8 p9 p10 p11 p12 hp _ (fun k' q0 q1 q2 q3 q4 q5 q6 q7 q8 q9 q10 q11 q12 hk' hp' a' w' hr' => ⟨k', by omega, q0, q1, q2, q3, q4, q5, q6, q7, q8, q9, q10, q11, q12, hp', hr'⟩) a w hr
theorem aw_loop14 {ι0 : Type} {ι1 : Type} {ι2 : Type} {ι3 : Type} {ι4 : Type} {ι5 : Type} {ι6 : Type} {ι7 : Type} {ι8 : Type} {ι9 : Type} {ι10 : Type} {ι11 : Type} {ι12 : Type} {ι13 : Type} {c : Code} (H : Nat → ι0 → ι1 → ι2 → ι3 → ι4 → ι5 → ι6 → ι7 → ι8 → ι9 → ι10 → ι11 → ι12 → ι13 → Prop) (S' : ι0 → ι1 → ι2 → ι3 → ι4 → ι5 → ι6 → ι7 → ι8 → ι9 → ι10 → ι11 → ι12 → ι13 → S) (k : Nat) (p0 : ι0) (p1 : ι1) (p2 : ι2) (p3 : ι3) (p4 : ι4) (p5 : ι5) (p6 : ι6) (p7 : ι7) (p8 : ι8) (p9 : ι9) (p10 : ι10) (p11 : ι11) (p12 : ι12) (p13 : ι13) (hk : H k p0 p1 p2 p3 p4 p5 p6 p7 p8 p9 p10 p11 p12 p13) (h0 : ∀ K, ACont E nt (S' p0 p1 p2 p3 p4 p5 p6 p7 p8 p9 p10 p11 p12 p13) K → ACont E nt s K) (hz : ∀ (p0 : ι0) (p1 : ι1) (p2 : ι2) (p3 : ι3) (p4 : ι4) (p5 : ι5) (p6 : ι6) (p7 : ι7) (p8 : ι8) (p9 : ι9) (p10 : ι10) (p11 : ι11) (p12 : ι12) (p13 : ι13), ¬ H 0 p0 p1 p2 p3 p4 p5 p6 p7 p8 p9 p10 p11 p12 p13)
    (hround : ∀ k (p0 : ι0) (p1 : ι1) (p2 : ι2) (p3 : ι3) (p4 : ι4) (p5 : ι5) (p6 : ι6) (p7 : ι7) (p8 : ι8) (p9 : ι9) (p10 : ι10) (p11 : ι11) (p12 : ι12) (p13 : ι13), H (k + 1) p0 p1 p2 p3 p4 p5 p6 p7 p8 p9 p10 p11 p12 p13 → ∀ K, (∀ (k' : Nat) (p0 : ι0) (p1 : ι1) (p2 : ι2) (p3 : ι3) (p4 : ι4) (p5 : ι5) (p6 : ι6) (p7 : ι7) (p8 : ι8) (p9 : ι9) (p10 : ι10) (p11 : ι11) (p12 : ι12) (p13 : ι13), k' ≤ k → H k' p0 p1 p2 p3 p4 p5 p6 p7 p8 p9 p10 p11 p12 p13 → ACont E nt (S' p0 p1 p2 p3 p4 p5 p6 p7 p8 p9 p10 p11 p12 p13) K) → AW E nt P c (Exit.then K Q) (S' p0 p1 p2 p3 p4 p5 p6 p7 p8 p9 p10 p11 p12 p13)) : AW E nt P (.loop c) Q s := by
  refine aw_loop (fun k a w => ∃ p0 p1 p2 p3 p4 p5 p6 p7 p8 p9 p10 p11 p12 p13, H k p0 p1 p2 p3 p4 p5 p6 p7 p8 p9 p10 p11 p12 p13 ∧ Rel E nt (S' p0 p1 p2 p3 p4 p5 p6 p7 p8 p9 p10 p11 p12 p13) a w) k (h0 _ (fun a w hr => ⟨p0, p1, p2, p3, p4, p5, p6, p7, p8, p9, p10, p11, p12, p13, hk, hr⟩)) (fun k a w ⟨p0, p1, p2, p3, p4, p5, p6, p7, p8, p9, p10, p11, p12, p13, hp, hr⟩ => ?_)
  cases k with
  | zero => exact absurd hp (hz p0 p1 p2 p3 p4 p5 p6 p7 p8 p9 p10 p11 p12 p13)
  | succ k => exact hround k p0 p1 p2 p3 p4 p5 p6 p7 p8 p9 p10 p11 p12 p13 hp _ (fun k' q0 q1 q2 q3 q4 q5 q6 q7 q8 q9 q10 q11 q12 q13 hk' hp' a' w' hr' => ⟨k', by omega, q0, q1, q2, q3, q4, q5, q6, q7, q8, q9, q10, q11, q12, q13, hp', hr'⟩) a w hr
theorem renI {m : Nat → Nat} {t : TypeId} {k : IntKind} {l : List Int} : renB m (.box t (l.map (eI k))) = .box t (l.map (eI k)) := by
  show Blk.box t ((l.map (eI k)).map (ren2 m)) = _
  rw [List.map_map]; rfl
theorem renb {m : Nat → Nat} {t : TypeId} {l : List Bool} : renB m (.box t (l.map eB)) = .box t (l.map eB) := by
  show Blk.box t ((l.map eB).map (ren2 m)) = _
  rw [List.map_map]; rfl
/-- An open row of elements that hold no row of their own but in the open one. -/
theorem renS {α : Type} {m : Nat → Nat} {ds : List Ds} {e sz i : Nat} {f : α → AV} {l : List α} {X : AV} (hf : ∀ x, rlf m (f x) = f x) : renB m (.drow true ds e sz ((l.map f).set i X)) = .drow true ds e sz ((l.map f).set i (rlf m X)) := by
  show Blk.drow true ds e sz (((l.map f).set i X).map (rlf m)) = _
  rw [List.map_set, List.map_map, show (rlf m ∘ f) = f from funext hf]
theorem sameB_S {α : Type} {s : S} {m : Nat → Nat} {ds : List Ds} {e sz i j : Nat} {f : α → AV} {l : List α} {X : AV} {r : List (Nat × Blk)} (hr : SameB s m r) (hf : ∀ x, rlf m (f x) = f x := by intro _; rfl) (h : gB s.bk (m i) = .drow true ds e sz ((l.map f).set j (rlf m X)) := by rfl) : SameB s m ((i, .drow true ds e sz ((l.map f).set j X)) :: r) := ⟨h.trans (renS hf).symm, hr⟩
/-- Forgetting, and other numbers; what it asks is found by looking. -/
theorem acw {s' : S} {K : Act → World → Prop} {ni : Nat} (hE : ∀ b v, E.ρ0 b = some v → b < ni) (m : List (Nat × Nat)) (far : Nat) (h : ACont E nt s' K) (hT : SameT s (lkN far m) s'.tm := by (repeat (first | exact trivial | refine ⟨rfl, ?_⟩))) (hB : SameB s (lkN far m) s'.bk := by (repeat (first | exact trivial | refine ⟨rfl, ?_⟩ | refine ⟨renI.symm, ?_⟩ | refine ⟨renb.symm, ?_⟩ | refine sameB_S ?_)))
    (hfar : gB s.bk far = .fresh := by rfl) (hdom : m.map (·.1) = s'.bk.map (·.1) := by rfl) (hnd : nodupN (m.map (·.2)) = true := by rfl) (hnf : nofresh s'.bk = true := by rfl) (hid : idN ni m = true := by rfl) (hndk : nodupN (m.map (·.1)) = true := by rfl) : ACont E nt s K :=
  ac_weak hE m far hT hB h hfar hdom hnd hnf hid hndk
/-- A result that lies in a box. -/
theorem rcA {t T b o tt : Nat} {cells l l' : List AV} {rs : List ResultVar} (n : Nat) (h : Rs P s rs l') (hp : gT s.tm t = .box b o := by rfl) (hb : gB s.bk b = .box tt cells := by rfl) (hl : (cells.drop o).take n = l := by rfl) (hn : l.length = n := by rfl) (hT : aggT P T n = true := by kernel_rfl) : Rs P s (.cell t T :: rs) (.agg l :: l') :=
  .cell (tl := [b]) (by rw [hp]; exact .boxA hb hl hn hT) h
theorem rc1 {t T b o tt : Nat} {cells l' : List AV} {x : AV} {rs : List ResultVar} (h : Rs P s rs l') (hp : gT s.tm t = .box b o := by rfl) (hb : gB s.bk b = .box tt cells := by rfl) (hx : cells[o]? = some x := by rfl) (hT : scalarT P T = true := by kernel_rfl) : Rs P s (.cell t T :: rs) (x :: l') :=
  .cell (tl := [b]) (by rw [hp]; exact .box hb hx hT) h
/-- A function's end. -/
theorem acr {fn : Func} {post : List (Nat × Blk)} {res : AV} {ni : Nat} (hE : ∀ b v, E.ρ0 b = some v → b < ni) (rs : List ResultVar) {l : List AV} {x : AV} (hr : Rs P s rs l) (hv : Rv l x) (m : List (Nat × Nat)) (far : Nat)
    (hres : fn.results = rs.toArray := by rfl) (hl : l.all notT = true := by rfl) (hx : x = ren4 (lkN far m) res := by rfl) (hB : SameB s (lkN far m) post := by (repeat (first | exact trivial | refine ⟨rfl, ?_⟩)))
    (hfar : gB s.bk far = .fresh := by rfl) (hdom : m.map (·.1) = post.map (·.1) := by rfl) (hnd : nodupN (m.map (·.2)) = true := by rfl) (hnf : nofresh post = true := by rfl) (hid : idN ni m = true := by rfl) (hndk : nodupN (m.map (·.1)) = true := by rfl) :
    ACont E nt s (bodyPost P fn (Left E post res) .ret) :=
  ac_end hE hres hr hv hl m far hx hB hfar hdom hnd hnf hid hndk
end
end Go.Proofs.YtahmbcgolnplgaaDoorA
