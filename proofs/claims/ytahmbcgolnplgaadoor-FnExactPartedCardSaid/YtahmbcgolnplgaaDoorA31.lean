/- The abstract machine, thirty-first part: a string's bytes in a row of the call's own. No claim lies here. -/
import Derived.Test.YtahmbcgolnplgaaDoorA30
import Derived.Lib.ConvBytes
set_option linter.unusedVariables false
set_option linter.unusedSimpArgs false
namespace Go.Proofs.YtahmbcgolnplgaaDoorA
open Go
section
variable {P : Program} {E : Env} {nt : Nat} {s : S} {o : Oper} {d : Nat}
/-- A text's bytes. -/
def bytesOf (b : ByteArray) : List Int := b.data.toList.map fun x => (x.toNat : Int)
theorem bytesOf_length (b : ByteArray) : (bytesOf b).length = b.size := by unfold bytesOf; rw [List.length_map, Array.length_toList]; rfl
def strBytesT (P : Program) (src dst : TypeId) : Bool := (P.underlying src).isSome && ((match P.underlying dst with
  | some (.slice e) => Nat.beq e byteT
  | _ => false) && match P.underlying byteT with
  | some (.int .u8) => true
  | _ => false)
theorem strBytesT_of {src dst : TypeId} (h : strBytesT P src dst = true) : ∃ u, P.underlying src = some u ∧ P.underlying dst = some (.slice byteT) ∧ P.underlying byteT = some (.int .u8) := by
  unfold strBytesT at h
  rw [Bool.and_eq_true, Bool.and_eq_true] at h
  obtain ⟨h1, h2, h3⟩ := h
  obtain ⟨u, hu⟩ := Option.isSome_iff_exists.1 h1
  refine ⟨u, hu, ?_, ?_⟩
  · split at h2
    · rename_i e he; rw [he, Nat.eq_of_beq_eq_true h2]
    · cases h2
  · split at h3
    · assumption
    · cases h3
theorem cvS {src dst : TypeId} {x : Operand} {b : ByteArray} (nb : Nat) (hle : b.size ≤ 140737488352256) (hop : o.op = .convert src dst x := by rfl) (hx : opd s x = .lit (.string b) := by rfl) (hT : strBytesT P src dst = true := by kernel_rfl) (hd : o.dst = some d := by rfl) (hlt : Nat.blt d nt = true := by rfl) (hnb : gB s.bk nb = .fresh := by rfl) :
    Okv P E nt o s ⟨some d, .row nb, [(nb, .row byteT 1 ((bytesOf b).map (eI .u8)))]⟩ (lkO x) [nb] :=
  okv_row hd hlt hnb fun tm bk ρ Zn a w hag hs => by
    obtain ⟨u, hsrc, hdst, he⟩ := strBytesT_of hT
    have e1 := St.opd (s := s) hs x hag.1
    rw [hx] at e1
    have e1 := rep_lit e1
    have hr := Lib.run_convert_string_bytes (P := P) w src dst byteT b hsrc hdst he
    have hge := grownCap_ge w b.size 0 byteT
    have hcm := grownCap_le_maxLen w b.size 0 byteT (by simp only [maxLen]; omega)
    have hcs : (Lib.bytesCells w byteT b).size = grownCap w b.size 0 byteT := by
      unfold Lib.bytesCells
      rw [Array.size_append, Array.size_map, Array.size_replicate]
      show b.size + _ = _
      omega
    refine ⟨.slice (some ⟨w.heap.size, 0, none⟩) b.size (grownCap w b.size 0 byteT), Lib.bytesWorld w byteT b, ?_, ⟨rfl, rfl, rfl, by rw [Lib.bytesWorld_size]; omega, fun k hk _ => Lib.bytesWorld_at_old w byteT b k hk⟩, fun q hq => by simp [Value.ownBlock] at hq; omega, by omega, (bytesOf b).map (Value.int .u8), ⟨by simp, .inr ⟨w.heap.size, grownCap w b.size 0 byteT, Lib.bytesCells w byteT b, by rw [List.length_map, bytesOf_length], Nat.zero_le _, ⟨_, Lib.bytesWorld_at_new w byteT b, .inr ⟨Nat.le_refl _, rfl⟩⟩, by rw [List.length_map, bytesOf_length]; exact hge, hcm, by rw [hcs, Nat.mul_one], ?_⟩⟩, fun j y hy => ?_, fun j y i lv hy hi => ?_⟩
    · unfold execOp
      simp only [hop]
      rw [Sem.run_bind, e1, hr]; rfl
    · rw [List.length_map, bytesOf_length, Nat.mul_one]
      unfold Lib.bytesCells bytesOf
      rw [Array.toList_append, Array.toList_map, List.map_map]
      have hl : (b.data.toList.map fun x => Value.int .u8 x.toNat).length = b.size := by rw [List.length_map, Array.length_toList]; rfl
      rw [← hl]
      exact List.take_left
    · rw [List.getElem?_map] at hy
      obtain ⟨n, _, rfl⟩ := Option.map_eq_some_iff.1 hy
      rfl
    · rw [List.getElem?_map] at hy
      obtain ⟨n, hn, rfl⟩ := Option.map_eq_some_iff.1 hy
      have hi' : i = 0 ∧ lv = eI .u8 n := by
        cases i with
        | zero => exact ⟨rfl, by simpa [eI, AV.leaves] using hi.symm⟩
        | succ i => simp [eI, AV.leaves] at hi
      obtain ⟨rfl, rfl⟩ := hi'
      exact ⟨.int .u8 n, by rw [Nat.mul_one, Nat.add_zero, List.getElem?_map, hn]; rfl, .lit rfl⟩
end
end Go.Proofs.YtahmbcgolnplgaaDoorA
