/- development: SHA-256's a block -/
import Derived.Test.YtahmbcgolnplgaaDoorShaB
set_option linter.unusedVariables false
set_option linter.unusedSimpArgs false
namespace Go.Proofs.YtahmbcgolnplgaaDoor.PFnExactParted
open Go Go.RowKit Go.Proofs.YtahmbcgolnplgaaDoorA Go.Proofs.YtahmbcgolnplgaaDoorL
/-! SHA-256: a block. -/
theorem gW_len : gW.length = 64 := rfl
theorem or32 (b : ByteArray) (i : Nat) : bits .or .u32 (bits .or .u32 (bits .or .u32 (IntKind.u32.wrap ((IntKind.u32.wrap (bt b (4 * (i : Int)))) * 2 ^ 24)) (IntKind.u32.wrap ((IntKind.u32.wrap (bt b (4 * (i : Int) + 1))) * 2 ^ 16))) (IntKind.u32.wrap ((IntKind.u32.wrap (bt b (4 * (i : Int) + 2))) * 2 ^ 8))) (IntKind.u32.wrap (bt b (4 * (i : Int) + 3))) = fourV b (4 * i) := by
  unfold fourV
  rw [show (4 : Int) * (i : Int) = ((4 * i : Nat) : Int) by omega, show ((4 * i : Nat) : Int) + 1 = ((4 * i + 1 : Nat) : Int) by omega, show ((4 * i : Nat) : Int) + 2 = ((4 * i + 2 : Nat) : Int) by omega, show ((4 * i : Nat) : Int) + 3 = ((4 * i + 3 : Nat) : Int) by omega]
  have h0 := bt_range b ((4 * i : Nat) : Int); have h1 := bt_range b ((4 * i + 1 : Nat) : Int); have h2 := bt_range b ((4 * i + 2 : Nat) : Int); have h3 := bt_range b ((4 * i + 3 : Nat) : Int)
  generalize bt b ((4 * i : Nat) : Int) = b0 at *; generalize bt b ((4 * i + 1 : Nat) : Int) = b1 at *; generalize bt b ((4 * i + 2 : Nat) : Int) = b2 at *; generalize bt b ((4 * i + 3 : Nat) : Int) = b3 at *
  rw [wraps_u32 b0 (by omega) (by omega), wraps_u32 b1 (by omega) (by omega), wraps_u32 b2 (by omega) (by omega), wraps_u32 b3 (by omega) (by omega)]
  rw [show (2 : Int) ^ 24 = 16777216 from rfl, show (2 : Int) ^ 16 = 65536 from rfl, show (2 : Int) ^ 8 = 256 from rfl]
  rw [wraps_u32 (b0 * 16777216) (by omega) (by omega), wraps_u32 (b1 * 65536) (by omega) (by omega), wraps_u32 (b2 * 256) (by omega) (by omega)]
  rw [bits_join .u32 32 (by decide) wraps_u32 24 (b0 * 16777216) (b1 * 65536) (by omega) (by omega) (by omega) (by omega) (by omega) (by omega)]
  rw [bits_join .u32 32 (by decide) wraps_u32 16 (b0 * 16777216 + b1 * 65536) (b2 * 256) (by omega) (by omega) (by omega) (by omega) (by omega) (by omega)]
  rw [bits_join .u32 32 (by decide) wraps_u32 8 (b0 * 16777216 + b1 * 65536 + b2 * 256) b3 (by omega) (by omega) (by omega) (by omega) (by omega) (by omega)]
theorem addV_of {h s q : List Int} (hq : q.length = 8) (hd : ∀ j : Nat, j < 8 → rd q (j : Int) = IntKind.u32.wrap (rd h (j : Int) + rd s (j : Int))) : q = addV h s :=
  ext8 hq (addV_len h s) fun j hj => by rw [hd j hj, rd_addV h s hj]
theorem done_set {h s q : List Int} {i : Nat} (hq : q.length = 8) (hi : i < 8) (hd : ∀ j : Nat, j < i → rd q (j : Int) = IntKind.u32.wrap (rd h (j : Int) + rd s (j : Int))) (hr : ∀ j : Nat, i ≤ j → rd q (j : Int) = rd h (j : Int)) {x : Int} (hx : x = IntKind.u32.wrap (rd q (i : Int) + rd s (i : Int))) :
    (∀ j : Nat, j < i + 1 → rd (q.set i x) (j : Int) = IntKind.u32.wrap (rd h (j : Int) + rd s (j : Int))) ∧ ∀ j : Nat, i + 1 ≤ j → rd (q.set i x) (j : Int) = rd h (j : Int) := by
  refine ⟨fun j hj => ?_, fun j hj => ?_⟩
  · rw [rd_set (by omega)]
    by_cases e : i = j
    · subst e; rw [if_pos rfl, hx, hr i (Nat.le_refl _)]
    · rw [if_neg e, hd j (by omega)]
  · rw [rd_set (by omega), if_neg (by omega), hr j (by omega)]
theorem spec_b3 (h s : List Int) (hs : s.length = 8) : ∀ (d i : Nat) (q : List Int), i + d = 8 → q.length = 8 → (∀ j : Nat, j < i → rd q (j : Int) = IntKind.u32.wrap (rd h (j : Int) + rd s (j : Int))) → (∀ j : Nat, i ≤ j → rd q (j : Int) = rd h (j : Int)) → Ev (fun k => spec_l03Block.l3 k s q (i : Int)) (addV h s) := by
  intro d
  induction d with
  | zero =>
    intro i q hi hq hd hr
    obtain rfl : i = 8 := by omega
    have e := addV_of hq hd
    refine Ev.step (fun _ => rfl) ?_
    simp only [spec_l03Block.l3]
    refine Ev.neg (by decide) (Ev.pos hq (Ev.pos (by decide) ?_))
    rw [e]; exact Ev.now _
  | succ d ih =>
    intro i q hi hq hd hr
    obtain ⟨a, b⟩ := done_set hq (by omega) hd hr (x := IntKind.u32.wrap (rd q (i : Int) + rd s (i : Int))) rfl
    have h2 := ih (i + 1) _ (by omega) (by rw [List.length_set]; exact hq) a b
    refine Ev.step (fun _ => rfl) ?_
    simp only [spec_l03Block.l3]
    rw [w64 (x := (i : Int) + 1) (by omega) (by omega)]
    exact Ev.pos (by omega) (Ev.pos (by omega) (Ev.pos (by omega) (Ev.pos (by omega) h2)))
theorem spec_round (q : List Int) (hq : q.length = 8) (kk w : Int) : [IntKind.u32.wrap (t1V q kk w + IntKind.u32.wrap (yV q + mV q)), rd q 0, rd q 1, rd q 2, IntKind.u32.wrap (rd q 3 + t1V q kk w), rd q 4, rd q 5, rd q 6] = roundV q kk w := by
  unfold roundV
  rw [u32_add', u32_add, Int.add_assoc]
theorem spec_b2 (h w : List Int) (hh : h.length = 8) (hw : w.length = 64) : ∀ (d i : Nat) (q : List Int), i + d = 64 → q.length = 8 → Ev (fun k => spec_l03Block.l2 k h gW w q (i : Int)) (addV h (roundsV d i q w gW)) := by
  intro d
  induction d with
  | zero =>
    intro i q hi hq
    obtain rfl : i = 64 := by omega
    refine Ev.step (fun _ => rfl) ?_
    simp only [spec_l03Block.l2]
    exact Ev.neg (by decide) (spec_b3 h q hq 8 0 h rfl hh (fun j hj => absurd hj (Nat.not_lt_zero j)) (fun j _ => rfl))
  | succ d ih =>
    intro i q hi hq
    have h2 := ih (i + 1) (roundV q (rd gW (i : Int)) (rd w (i : Int))) (by omega) rfl
    have hg := gW_len
    refine Ev.step (fun _ => rfl) ?_
    simp only [spec_l03Block.l2]
    rw [w64 (x := (i : Int) + 1) (by omega) (by omega)]
    simp only [st6, st11, st25, st2, st13, st22, Option.bind_some]
    repeat (refine Ev.pos (by omega) ?_)
    refine Ev.congr (fun k => ?_) h2
    rw [sets8 q hq, ← spec_round q hq]
    rfl
theorem spec_b1 (h : List Int) (hh : h.length = 8) : ∀ (d i : Nat) (w : List Int), i + d = 64 → 16 ≤ i → w.length = 64 → Ev (fun k => spec_l03Block.l1 k h gW w (i : Int)) (addV h (roundsV 64 0 h (schedW d i w) gW)) := by
  intro d
  induction d with
  | zero =>
    intro i w hi h16 hw
    obtain rfl : i = 64 := by omega
    refine Ev.step (fun _ => rfl) ?_
    simp only [spec_l03Block.l1]
    exact Ev.neg (by decide) (Ev.pos hh (spec_b2 h w hh hw 64 0 h rfl hh))
  | succ d ih =>
    intro i w hi h16 hw
    have h2 := ih (i + 1) (w.set i (wNext w i)) (by omega) (by omega) (by rw [List.length_set]; exact hw)
    refine Ev.step (fun _ => rfl) ?_
    simp only [spec_l03Block.l1]
    rw [w64 (x := (i : Int) - 15) (by omega) (by omega), w64 (x := (i : Int) - 2) (by omega) (by omega), w64 (x := (i : Int) - 16) (by omega) (by omega), w64 (x := (i : Int) - 7) (by omega) (by omega), w64 (x := (i : Int) + 1) (by omega) (by omega)]
    simp only [st7, st18, st17, st19, Option.bind_some]
    repeat (refine Ev.pos (by omega) ?_)
    exact h2
theorem spec_b0 (h : List Int) (hh : h.length = 8) (b : ByteArray) (hb : b.size = 64) : ∀ (d i : Nat) (w : List Int), i + d = 16 → w.length = 64 → Ev (fun k => spec_l03Block.l0 k h b gW w (i : Int)) (addV h (roundsV 64 0 h (schedW 48 16 (wordsV d i w b)) gW)) := by
  intro d
  induction d with
  | zero =>
    intro i w hi hw
    obtain rfl : i = 16 := by omega
    refine Ev.step (fun _ => rfl) ?_
    simp only [spec_l03Block.l0]
    exact Ev.neg (by decide) (spec_b1 h hh 48 16 w rfl (Nat.le_refl _) hw)
  | succ d ih =>
    intro i w hi hw
    have h2 := ih (i + 1) (w.set i (fourV b (4 * i))) (by omega) (by rw [List.length_set]; exact hw)
    refine Ev.step (fun _ => rfl) ?_
    simp only [spec_l03Block.l0]
    rw [w64 (x := 4 * (i : Int)) (by omega) (by omega), w64 (x := 4 * (i : Int) + 1) (by omega) (by omega), w64 (x := 4 * (i : Int) + 2) (by omega) (by omega), w64 (x := 4 * (i : Int) + 3) (by omega) (by omega), w64 (x := (i : Int) + 1) (by omega) (by omega), or32]
    repeat (refine Ev.pos (by omega) ?_)
    exact h2
theorem spec_block (h : List Int) (hh : h.length = 8) (b : ByteArray) (hb : b.size = 64) : Ev (fun k => spec_l03Block.f k h b gW) (blockV h b) := spec_b0 h hh b hb 16 0 (List.replicate 64 0) rfl rfl
theorem impl_b4 (h s : List Int) (hh : h.length = 8) (hs : s.length = 8) : ∀ (d i : Nat) (q : List Int), i + d = 8 → q.length = 8 → (∀ j : Nat, j < i → rd q (j : Int) = IntKind.u32.wrap (rd h (j : Int) + rd s (j : Int))) → (∀ j : Nat, i ≤ j → rd q (j : Int) = rd h (j : Int)) → Ev (fun k => impl_ShaBlock.l4 k h s q (i : Int)) (addV h s) := by
  intro d
  induction d with
  | zero =>
    intro i q hi hq hd hr
    obtain rfl : i = 8 := by omega
    have e := addV_of hq hd
    refine Ev.step (fun _ => rfl) ?_
    simp only [impl_ShaBlock.l4, List.nil_append]
    refine Ev.neg (by omega) ?_
    rw [e]; exact Ev.now _
  | succ d ih =>
    intro i q hi hq hd hr
    obtain ⟨a, b⟩ := done_set hq (by omega) hd hr (x := IntKind.u32.wrap (rd q (i : Int) + rd s (i : Int))) rfl
    have h2 := ih (i + 1) _ (by omega) (by rw [List.length_set]; exact hq) a b
    have r := u32_in (rd q (i : Int) + rd s (i : Int))
    refine Ev.step (fun _ => rfl) ?_
    simp only [impl_ShaBlock.l4, List.nil_append, u32_add]
    rw [w64 (x := (i : Int) + 1) (by omega) (by omega), w64 (x := IntKind.u32.wrap (rd q (i : Int) + rd s (i : Int))) (by omega) (by omega)]
    exact Ev.pos (by omega) (Ev.pos (by omega) (Ev.pos (by omega) (Ev.pos (by omega) (Ev.pos (by omega) h2))))
theorem impl_b3 (h w : List Int) (hh : h.length = 8) (hw : w.length = 64) : ∀ (d i : Nat) (q : List Int), i + d = 64 → q.length = 8 → Ev (fun k => impl_ShaBlock.l3 k h w q (i : Int)) (addV h (roundsV d i q w gW)) := by
  intro d
  induction d with
  | zero =>
    intro i q hi hq
    obtain rfl : i = 64 := by omega
    refine Ev.step (fun _ => rfl) ?_
    simp only [impl_ShaBlock.l3, List.nil_append]
    exact Ev.neg (by decide) (impl_b4 h q hh hq 8 0 h rfl hh (fun j hj => absurd hj (Nat.not_lt_zero j)) (fun j _ => rfl))
  | succ d ih =>
    intro i q hi hq
    have h2 := ih (i + 1) (roundV q (rd gW (i : Int)) (rd w (i : Int))) (by omega) rfl
    have hg := gW_len
    refine Ev.step (fun _ => rfl) ?_
    simp only [impl_ShaBlock.l3]
    rw [w64 (x := (i : Int) + 1) (by omega) (by omega)]
    simp only [ir6, ir11, ir25, ir2, ir13, ir22, xor_full, Option.bind_some]
    repeat (refine Ev.pos (by omega) ?_)
    exact h2
theorem impl_b2 (h v : List Int) (hh : h.length = 8) (hv : v.length = 8) : ∀ (d i : Nat) (w : List Int), i + d = 64 → 16 ≤ i → w.length = 64 → Ev (fun k => impl_ShaBlock.l2 k h v w (i : Int)) (addV h (roundsV 64 0 v (schedW d i w) gW)) := by
  intro d
  induction d with
  | zero =>
    intro i w hi h16 hw
    obtain rfl : i = 64 := by omega
    refine Ev.step (fun _ => rfl) ?_
    simp only [impl_ShaBlock.l2]
    exact Ev.neg (by decide) (impl_b3 h w hh hw 64 0 v rfl hv)
  | succ d ih =>
    intro i w hi h16 hw
    have h2 := ih (i + 1) (w.set i (wNext w i)) (by omega) (by omega) (by rw [List.length_set]; exact hw)
    refine Ev.step (fun _ => rfl) ?_
    simp only [impl_ShaBlock.l2]
    rw [w64 (x := (i : Int) - 15) (by omega) (by omega), w64 (x := (i : Int) - 2) (by omega) (by omega), w64 (x := (i : Int) - 16) (by omega) (by omega), w64 (x := (i : Int) - 7) (by omega) (by omega), w64 (x := (i : Int) + 1) (by omega) (by omega)]
    simp only [ir7, ir18, ir17, ir19, Option.bind_some]
    repeat (refine Ev.pos (by omega) ?_)
    exact h2
theorem impl_b1 (h v : List Int) (hh : h.length = 8) (hv : v.length = 8) (b : ByteArray) (hb : b.size = 64) : ∀ (d i : Nat) (w : List Int), i + d = 16 → w.length = 64 → Ev (fun k => impl_ShaBlock.l1 k h b v w (i : Int)) (addV h (roundsV 64 0 v (schedW 48 16 (wordsV d i w b)) gW)) := by
  intro d
  induction d with
  | zero =>
    intro i w hi hw
    obtain rfl : i = 16 := by omega
    refine Ev.step (fun _ => rfl) ?_
    simp only [impl_ShaBlock.l1]
    exact Ev.neg (by decide) (impl_b2 h v hh hv 48 16 w rfl (Nat.le_refl _) hw)
  | succ d ih =>
    intro i w hi hw
    have h2 := ih (i + 1) (w.set i (fourV b (4 * i))) (by omega) (by rw [List.length_set]; exact hw)
    have hf := impl_fourAt_of b (4 * i) (by omega) (by omega)
    have hr := fourV_in b (4 * i)
    rw [show ((4 * i : Nat) : Int) = 4 * (i : Int) by omega] at hf
    refine Ev.step (fun _ => rfl) ?_
    simp only [impl_ShaBlock.l1]
    rw [w64 (x := 4 * (i : Int)) (by omega) (by omega), w64 (x := (i : Int) + 1) (by omega) (by omega), hf]
    simp only [Option.bind_some]
    rw [wraps_u32 (fourV b (4 * i)) hr.1 hr.2]
    repeat (refine Ev.pos (by omega) ?_)
    exact h2
theorem impl_half {x : Int} (h : 0 ≤ x ∧ x < 4294967296) : impl_HalfOk.f x = some true := by
  unfold impl_HalfOk.f
  rw [within_of, Option.bind_some, decide_eq_true (by omega)]
theorem impl_b0 (h : List Int) (hh : h.length = 8) (hin : ∀ x ∈ h, 0 ≤ x ∧ x < 4294967296) (b : ByteArray) (hb : b.size = 64) : ∀ (d i : Nat) (q : List Int), i + d = 8 → q.length = 8 → (∀ j : Nat, j < i → rd q (j : Int) = rd h (j : Int)) → Ev (fun k => impl_ShaBlock.l0 k h b q (i : Int)) (blockV h b) := by
  intro d
  induction d with
  | zero =>
    intro i q hi hq hd
    obtain rfl : i = 8 := by omega
    obtain rfl : q = h := ext8 hq hh hd
    refine Ev.step (fun _ => rfl) ?_
    simp only [impl_ShaBlock.l0]
    exact Ev.neg (by omega) (impl_b1 q q hh hq b hb 16 0 (List.replicate 64 0) rfl rfl)
  | succ d ih =>
    intro i q hi hq hd
    have hx : rd h (i : Int) ∈ h := by
      unfold rd
      rw [Int.toNat_natCast, List.getD_eq_getElem?_getD, List.getElem?_eq_getElem (by omega)]
      exact List.getElem_mem _
    have hr := hin _ hx
    have h2 := ih (i + 1) (q.set i (rd h (i : Int))) (by omega) (by rw [List.length_set]; exact hq) (fun j hj => by
      rw [rd_set (by omega)]
      by_cases e : i = j
      · subst e; rw [if_pos rfl]
      · rw [if_neg e]; exact hd j (by omega))
    refine Ev.step (fun _ => rfl) ?_
    simp only [impl_ShaBlock.l0]
    rw [w64 (x := (i : Int) + 1) (by omega) (by omega), impl_half hr]
    simp only [Option.bind_some]
    rw [wraps_u32 (rd h (i : Int)) hr.1 hr.2]
    exact Ev.pos (by omega) (Ev.pos (by omega) (Ev.pos trivial (Ev.pos (by omega) (Ev.pos (by omega) h2))))
theorem impl_block (h : List Int) (hh : h.length = 8) (hin : ∀ x ∈ h, 0 ≤ x ∧ x < 4294967296) (b : ByteArray) (hb : b.size = 64) : Ev (fun k => impl_ShaBlock.f k h b) (blockV h b) := by
  unfold impl_ShaBlock.f
  refine Ev.pos (by simp; omega) (Ev.pos (by omega) (Ev.pos (by omega) ?_))
  exact impl_b0 h hh hin b hb 8 0 (List.replicate 8 0) rfl rfl (fun j hj => absurd hj (Nat.not_lt_zero j))
end Go.Proofs.YtahmbcgolnplgaaDoor.PFnExactParted
