/- development: SHA-256's the whole -/
import Derived.Test.YtahmbcgolnplgaaDoorShaC
set_option linter.unusedVariables false
set_option linter.unusedSimpArgs false
namespace Go.Proofs.YtahmbcgolnplgaaDoor.PFnExactParted
open Go Go.RowKit Go.Proofs.YtahmbcgolnplgaaDoorA Go.Proofs.YtahmbcgolnplgaaDoorL
/-! SHA-256: the text filled up, and the whole. -/
def padZ (n : Nat) : Nat := (64 - (n + 9) % 64) % 64
def tail8 : Nat → Int → List Int
  | 0, _ => []
  | d + 1, N => (N / 256 ^ d) % 256 :: tail8 d N
theorem tail8_len : ∀ (d : Nat) (N : Int), (tail8 d N).length = d
  | 0, _ => rfl
  | d + 1, N => by rw [tail8, List.length_cons, tail8_len d]
def padL (t : ByteArray) : List Int := ((bytesOf t ++ [128]) ++ List.replicate (padZ t.size) 0) ++ tail8 8 (8 * (t.size : Int))
def padV (t : ByteArray) : ByteArray := strOfNums (padL t)
theorem padV_size (t : ByteArray) : (padV t).size = t.size + 9 + padZ t.size := by
  unfold padV padL
  rw [strOfNums_size, List.length_append, List.length_append, List.length_append, tail8_len, List.length_replicate, bytesOf_length]
  simp only [List.length_cons, List.length_nil]
  omega
theorem padZ_mod (n : Nat) : (n + 9 + padZ n) % 64 = 0 := by unfold padZ; omega
theorem pw8 : ∀ d : Nat, d < 8 → (2 : Int) ^ (8 * d) = 256 ^ d := by decide
theorem pw8p : ∀ d : Nat, d < 8 → (0 : Int) ≤ 256 ^ d := by decide
theorem spec_pad1 (t : ByteArray) (ht : t.size ≤ 100000) : ∀ (d : Nat) (q : List Int) (p : Int), d ≤ 8 → p = (d : Int) - 1 → q.length + d ≤ 1000000 → Ev (fun k => spec_PadText.l1 k t q p) (strOfNums (q ++ tail8 d (8 * (t.size : Int)))) := by
  intro d
  induction d with
  | zero =>
    intro q p _ hp hq
    refine Ev.step (fun _ => rfl) ?_
    simp only [spec_PadText.l1, tail8, List.append_nil]
    exact Ev.neg (by omega) (Ev.now _)
  | succ d ih =>
    intro q p h8 hp hq
    obtain rfl : p = (d : Int) := by omega
    have h2 := ih (q ++ [(8 * (t.size : Int) / 256 ^ d) % 256]) ((d : Int) - 1) (by omega) rfl (by rw [List.length_append]; simp only [List.length_cons, List.length_nil]; omega)
    rw [List.append_assoc] at h2
    have e1 : IntKind.u64.wrap (8 * IntKind.u64.wrap (d : Int)) = ((8 * d : Nat) : Int) := by simp [IntKind.wrap, IntKind.bits, IntKind.signed]; omega
    refine Ev.step (fun _ => rfl) ?_
    simp only [spec_PadText.l1]
    rw [e1, w64 (x := 8 * (t.size : Int)) (by omega) (by omega), w64 (x := (d : Int) - 1) (by omega) (by omega), show (IntKind.i64).bits = 64 from rfl, Int.toNat_natCast, Nat.min_eq_left (by omega), pw8 d (by omega), Int.fdiv_eq_ediv_of_nonneg _ (pw8p d (by omega)), IntKind.wrap_u8]
    exact Ev.pos (by omega) (Ev.pos (by omega) (Ev.pos (by simp only [List.length_cons, List.length_nil]; omega) h2))
theorem spec_pad0 (t : ByteArray) (ht : t.size ≤ 100000) : ∀ (z : Nat) (q : List Int), z < 64 → (q.length + z) % 64 = 56 → q.length + z ≤ 900000 → Ev (fun k => spec_PadText.l0 k t q) (strOfNums ((q ++ List.replicate z 0) ++ tail8 8 (8 * (t.size : Int)))) := by
  intro z
  induction z with
  | zero =>
    intro q hz hm hq
    have h1 := spec_pad1 t ht 8 q 7 (Nat.le_refl _) rfl (by omega)
    refine Ev.step (fun _ => rfl) ?_
    simp only [spec_PadText.l0, List.replicate_zero, List.append_nil]
    rw [Int.tmod_eq_emod_of_nonneg (by omega)]
    exact Ev.pos (by omega) h1
  | succ z ih =>
    intro q hz hm hq
    have h2 := ih (q ++ [0]) (by omega) (by rw [List.length_append]; simp only [List.length_cons, List.length_nil]; omega) (by rw [List.length_append]; simp only [List.length_cons, List.length_nil]; omega)
    rw [List.append_assoc q, show [(0 : Int)] ++ List.replicate z 0 = List.replicate (z + 1) 0 from rfl] at h2
    refine Ev.step (fun _ => rfl) ?_
    simp only [spec_PadText.l0]
    rw [Int.tmod_eq_emod_of_nonneg (by omega)]
    exact Ev.neg (by omega) (Ev.pos (by simp only [List.length_cons, List.length_nil]; omega) h2)
theorem spec_pad (t : ByteArray) (ht : t.size ≤ 100000) : Ev (fun k => spec_PadText.f k t) (padV t) := by
  have hb := bytesOf_length t
  unfold spec_PadText.f padV padL
  refine Ev.pos (by omega) (Ev.pos (by rw [hb]; simp only [List.length_cons, List.length_nil]; omega) ?_)
  refine spec_pad0 t ht _ _ (by unfold padZ; omega) ?_ ?_
  · rw [List.length_append, hb]; simp only [List.length_cons, List.length_nil]; unfold padZ; omega
  · rw [List.length_append, hb]; simp only [List.length_cons, List.length_nil]; unfold padZ; omega
theorem bytesOf_in (t : ByteArray) : ∀ x ∈ bytesOf t, 0 ≤ x ∧ x < 256 := by
  intro x hx
  unfold bytesOf at hx
  obtain ⟨b, _, rfl⟩ := List.mem_map.1 hx
  have := UInt8.toNat_lt b
  omega
theorem self_str (t : ByteArray) : strOfNums (bytesOf t) = t := (str1 (bytesOf_in t) rfl).symm
theorem tail_four (N : Int) : strOfNums (tail8 8 N) = fourS (N / 4294967296) ++ fourS N := by
  unfold fourS
  rw [← str_append]
  congr 1
  simp only [tail8, List.cons_append, List.nil_append, List.cons.injEq, and_true]
  refine ⟨by omega, by omega, by omega, by omega, by omega, by omega, by omega, by omega⟩
theorem impl_pad (t : ByteArray) (ht : t.size ≤ 100000) : impl_PadText.f t = some (padV t) := by
  have e1 : (wrap64 (64 - ((wrap64 ((t.size : Int) + 9)).tmod 64))).tmod 64 = (padZ t.size : Int) := by
    rw [w64 (x := (t.size : Int) + 9) (by omega) (by omega), Int.tmod_eq_emod_of_nonneg (a := (t.size : Int) + 9) (by omega), w64 (x := 64 - ((t.size : Int) + 9) % 64) (by omega) (by omega), Int.tmod_eq_emod_of_nonneg (by omega)]
    unfold padZ; omega
  have e2 : (⟨#[128]⟩ : ByteArray) = strOfNums [128] := rfl
  have hz : padZ t.size < 64 := by unfold padZ; omega
  unfold impl_PadText.f
  rw [e1, e2, w64 (x := 8 * (t.size : Int)) (by omega) (by omega), Int.toNat_natCast]
  rw [show (8 * (t.size : Int)).fdiv (2 ^ 32) = 8 * (t.size : Int) / 4294967296 from Int.fdiv_eq_ediv_of_nonneg _ (by decide)]
  simp only [impl_four_of, Option.bind_some, ByteArray.size_append, strOfNums_size, fourS_size, List.length_replicate, List.length_cons, List.length_nil]
  rw [if_pos (by omega), if_pos (by omega), if_pos (by omega), if_pos (by omega), if_pos (by omega), if_pos (by omega)]
  unfold padV padL
  rw [str_append, str_append, str_append, self_str, tail_four, ByteArray.append_assoc]
def outA : Nat → Nat → ByteArray → List Int → ByteArray
  | 0, _, a, _ => a
  | d + 1, i, a, h => outA d (i + 1) (a ++ fourS (rd h (i : Int))) h
theorem outA_size : ∀ (d i : Nat) (a : ByteArray) (h : List Int), (outA d i a h).size = a.size + 4 * d
  | 0, _, _, _ => rfl
  | d + 1, i, a, h => by rw [outA, outA_size d, ByteArray.size_append, fourS_size]; omega
def hashV : Nat → Nat → ByteArray → List Int → List Int
  | 0, _, _, h => h
  | d + 1, i, p, h => hashV d (i + 64) p (blockV h (p.extract i (i + 64)))
def h0V : List Int := [1779033703, 3144134277, 1013904242, 2773480762, 1359893119, 2600822924, 528734635, 1541459225]
def digestV (t : ByteArray) : ByteArray := outA 8 0 ByteArray.empty (hashV ((padV t).size / 64) 0 (padV t) h0V)
theorem digestV_size (t : ByteArray) : (digestV t).size = 32 := by unfold digestV; rw [outA_size]; rfl
theorem impl_out (h : List Int) (hh : h.length = 8) : ∀ (d i : Nat) (a : ByteArray), i + d = 8 → a.size ≤ 4 * i → Ev (fun k => impl_Digest.l1 k h a (i : Int)) (outA d i a h) := by
  intro d
  induction d with
  | zero =>
    intro i a hi ha
    refine Ev.step (fun _ => rfl) ?_
    simp only [impl_Digest.l1]
    exact Ev.neg (by omega) (Ev.now _)
  | succ d ih =>
    intro i a hi ha
    have h2 := ih (i + 1) (a ++ fourS (rd h (i : Int))) (by omega) (by rw [ByteArray.size_append, fourS_size]; omega)
    refine Ev.step (fun _ => rfl) ?_
    simp only [impl_Digest.l1, impl_four_of, Option.bind_some]
    rw [w64 (x := (i : Int) + 1) (by omega) (by omega)]
    exact Ev.pos (by omega) (Ev.pos (by omega) (Ev.pos (by rw [fourS_size]; omega) h2))
def w4 (x : Int) : List Int := [IntKind.u8.wrap (x.fdiv (2 ^ 24)), IntKind.u8.wrap (x.fdiv (2 ^ 16)), IntKind.u8.wrap (x.fdiv (2 ^ 8)), IntKind.u8.wrap x]
theorem w4_four (x : Int) : strOfNums (w4 x) = fourS x := by
  have := impl_four_of x
  unfold impl_four.f at this
  exact Option.some.inj this
theorem spec_out8 (h0 h1 h2 h3 h4 h5 h6 h7 : Int) (k : Nat) : spec_Digest.l1 (k + 9) [h0, h1, h2, h3, h4, h5, h6, h7] (List.replicate 32 0) 0 = some (strOfNums (((((((w4 h0 ++ w4 h1) ++ w4 h2) ++ w4 h3) ++ w4 h4) ++ w4 h5) ++ w4 h6) ++ w4 h7)) := by kernel_rfl
theorem spec_out (h : List Int) (hh : h.length = 8) : Ev (fun k => spec_Digest.l1 k h (List.replicate 32 0) 0) (outA 8 0 ByteArray.empty h) := by
  match h, hh with
  | [h0, h1, h2, h3, h4, h5, h6, h7], _ =>
    refine ⟨9, fun k hk => ?_⟩
    obtain ⟨m, rfl⟩ : ∃ m, k = m + 9 := ⟨k - 9, by omega⟩
    show spec_Digest.l1 (m + 9) _ _ _ = _
    rw [spec_out8]
    congr 1
    simp only [str_append, w4_four, outA]
    rw [show ByteArray.empty ++ fourS (rd [h0, h1, h2, h3, h4, h5, h6, h7] ((0 : Nat) : Int)) = fourS h0 from ByteArray.empty_append]
    rfl
theorem blockV_ok (h : List Int) (b : ByteArray) : (blockV h b).length = 8 ∧ ∀ x ∈ blockV h b, 0 ≤ x ∧ x < 4294967296 := ⟨addV_len _ _, addV_in _ _⟩
theorem ext64 (p : ByteArray) (i : Nat) (h : i + 64 ≤ p.size) : (p.extract i (i + 64)).size = 64 := by rw [ByteArray.size_extract]; omega
theorem spec_hash (p : ByteArray) (hp : p.size ≤ 1000000) : ∀ (d i : Nat) (h : List Int), i + 64 * d = p.size → h.length = 8 → Ev (fun k => spec_Digest.l0 k gW p h (i : Int)) (outA 8 0 ByteArray.empty (hashV d i p h)) := by
  intro d
  induction d with
  | zero =>
    intro i h hi hh
    refine Ev.step (fun _ => rfl) ?_
    simp only [spec_Digest.l0]
    exact Ev.neg (by omega) (spec_out h hh)
  | succ d ih =>
    intro i h hi hh
    have hb := blockV_ok h (p.extract i (i + 64))
    have h2 := ih (i + 64) _ (by omega) hb.1
    have h1 := spec_block h hh (p.extract i (i + 64)) (ext64 p i (by omega))
    refine Ev.step (fun _ => rfl) ?_
    simp only [spec_Digest.l0]
    rw [w64 (x := (i : Int) + 64) (by omega) (by omega)]
    exact Ev.pos (by omega) (Ev.pos hh (Ev.pos (by omega) (Ev.pos (by omega) (Ev.pos (by omega) (Ev.bind h1 (Ev.pos hb.1 h2))))))
theorem impl_hash (p : ByteArray) (hp : p.size ≤ 1000000) : ∀ (d i : Nat) (h : List Int), i + 64 * d = p.size → h.length = 8 → (∀ x ∈ h, 0 ≤ x ∧ x < 4294967296) → Ev (fun k => impl_Digest.l0 k p h (i : Int)) (outA 8 0 ByteArray.empty (hashV d i p h)) := by
  intro d
  induction d with
  | zero =>
    intro i h hi hh hin
    refine Ev.step (fun _ => rfl) ?_
    simp only [impl_Digest.l0]
    exact Ev.neg (by omega) (impl_out h hh 8 0 ByteArray.empty rfl (Nat.le_refl _))
  | succ d ih =>
    intro i h hi hh hin
    have hb := blockV_ok h (p.extract i (i + 64))
    have h2 := ih (i + 64) _ (by omega) hb.1 hb.2
    have h1 := impl_block h hh hin (p.extract i (i + 64)) (ext64 p i (by omega))
    refine Ev.step (fun _ => rfl) ?_
    simp only [impl_Digest.l0]
    rw [w64 (x := (i : Int) + 64) (by omega) (by omega)]
    exact Ev.pos (by omega) (Ev.pos (by omega) (Ev.pos (by omega) (Ev.pos (by omega) (Ev.bind h1 h2))))
theorem pad_blocks (t : ByteArray) : 0 + 64 * ((padV t).size / 64) = (padV t).size := by
  have h1 := padV_size t; have h2 := padZ_mod t.size
  omega
theorem pad_small (t : ByteArray) (ht : t.size ≤ 100000) : (padV t).size ≤ 1000000 := by
  have h1 := padV_size t
  have h2 : padZ t.size < 64 := by unfold padZ; omega
  omega
theorem spec_digest (t : ByteArray) (ht : t.size ≤ 100000) : Ev (fun k => spec_Digest.f k t) (digestV t) :=
  Ev.bindc (x := h0V) rfl (Ev.pos rfl (Ev.bindc (x := gW) rfl (Ev.pos rfl (Ev.bind (spec_pad t ht) (spec_hash (padV t) (pad_small t ht) _ 0 h0V (pad_blocks t) rfl)))))
theorem impl_digest (t : ByteArray) (ht : t.size ≤ 100000) : Ev (fun k => impl_Digest.f k t) (digestV t) :=
  Ev.bindc (impl_pad t ht) (Ev.bindc (x := h0V) rfl (impl_hash (padV t) (pad_small t ht) _ 0 h0V (pad_blocks t) rfl (by decide)))
end Go.Proofs.YtahmbcgolnplgaaDoor.PFnExactParted
