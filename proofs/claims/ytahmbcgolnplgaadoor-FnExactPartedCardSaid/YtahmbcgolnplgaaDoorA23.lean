/- The abstract machine, twenty-third part: clear of an own row's tail. No claim lies here. -/
import Derived.Test.YtahmbcgolnplgaaDoorA22
set_option linter.unusedVariables false
set_option linter.unusedSimpArgs false
namespace Go.Proofs.YtahmbcgolnplgaaDoorA
open Go Go.RowKit
section
variable {P : Program} {E : Env} {nt : Nat} {s : S} {o : Oper} {d : Nat}
theorem okv_setRV {b e sz : Nat} {xs xs' : List AV} {lk tl : List Nat} (hd : o.dst = none) (hb : gB s.bk b = .row e sz xs)
    (h : ∀ tm bk ρ Zn a w, Agree s lk (b :: tl) tm bk → St E nt ρ Zn tm bk a w → RowOk Zn w e sz (ρ b) xs → ∃ v w', (execOp a.eval o).run P w = .ok (.value v) w' ∧ w.grownBy w' (ρ b).ownBlock ∧ ((∀ k, Zn k → w'.heap[k]? = w.heap[k]?) → RowOk Zn w' e sz (ρ b) xs')) :
    Okv P E nt o s ⟨none, .junk, [(b, .row e sz xs')]⟩ lk (b :: tl) := by
  intro tm bk hag a w ⟨ρ, Zn, hs⟩
  have hbk : bk b = .row e sz xs := (hag.2 b List.mem_cons_self).trans hb
  have hblk := hs.blk b
  rw [hbk] at hblk
  obtain ⟨v, w', h1, hg, h2⟩ := h tm bk ρ Zn a w hag hs hblk
  have ownk : ∀ k, (ρ b).ownBlock = some k → Own ρ bk b k := fun k hk => ⟨by rw [hbk]; rfl, ownBlock_ref hk⟩
  have hkeep : ∀ k, k < w.heap.size → ¬ Own ρ bk b k → w'.heap[k]? = w.heap[k]? := fun k hk ho => hg.block k hk (fun e => ho (ownk k e.symm))
  refine ⟨_, v, _, h1, .inl rfl, ρ, Zn, ?_⟩
  rw [hd]
  refine hs.upd (fun i => i = b) hg.os hg.tape hg.output hg.size (fun k hk ho => hkeep k hk (ho b rfl)) (fun _ _ => rfl) (fun i hi => by rw [upF_one]; exact if_neg hi) (fun i hi hne => ?_) (fun _ h => h) (fun _ h => .inl h) (fun i hi m => ?_) (fun i k hi ho => ?_) (fun i j k hi hj _ _ => hi.trans hj.symm) rfl rfl (fun i => .inl ⟨rfl, rfl⟩) (fun i hi => by subst hi; rw [upF_one]; refine ⟨by rw [hbk]; rfl, ?_⟩; show isD (if i = i then _ else bk i) = false; rw [if_pos rfl]; rfl)
  · subst hi
    rw [upF_one]
    show (if i = i then _ else bk i) ≠ .fresh ∧ _
    rw [if_pos rfl]
    exact ⟨by simp, rfl⟩
  · subst hi
    rw [upF_one]
    show BlkOk _ _ _ _ _ (if i = i then _ else bk i)
    rw [if_pos rfl]
    exact h2 (fun k hz => hkeep k (hs.zn k hz).1 (fun ho => (hs.out i k ho).2 hz))
  · subst hi
    have h3 : refB (ρ i) = some k := ho.2
    have : Own ρ bk i k := ⟨by rw [hbk]; rfl, h3⟩
    exact ⟨.inr ⟨i, rfl, this⟩, (hs.out i k this).2⟩
theorem zc_get {zs : Array Value} {n q i : Nat} (hq : q < n) (hi : i < zs.size) : (Builtin.zeroCells zs n)[q * zs.size + i]? = zs[i]? := by
  unfold Builtin.zeroCells
  have hlt : q * zs.size + i < n * zs.size := by
    have := Nat.mul_le_mul_right zs.size hq
    rw [Nat.succ_mul] at this
    omega
  rw [Array.getElem?_map, Array.getElem?_range, if_pos hlt]
  simp only [Option.map_some]
  rw [Nat.mul_comm q, Nat.mul_add_mod, Nat.mod_eq_of_lt hi]
  simp [hi]
theorem r_clr {T b e sz lo n : Nat} {x : Operand} {xs xs' : List AV} {zs : List Value} {v : AV} (hop : o.op = .call { callee := .builtin .clear, args := #[x], argTypes := #[T] }) (hd : o.dst = none) (hx : opd s x = .sub b sz lo n) (hb : gB s.bk b = .row e sz xs) (hT : sliceT P T e sz = true) (hz : zeroOf P e = some zs) (h1 : zs.all (·.oneCell') = true) (hzl : Nat.beq zs.length sz = true) (hv : ZL v.leaves zs) (hn : lo + n = xs.length) (hxs : xs.take lo ++ List.replicate n v = xs') :
    Okv P E nt o s ⟨none, .junk, [(b, .row e sz xs')]⟩ (lkO x) [b] :=
  okv_setRV hd hb fun tm bk ρ Zn a w hag hs hrow => by
    have e1 := St.opd (s := s) hs x hag.1
    rw [hx] at e1
    obtain ⟨_, A, N, c, h3, h4, h5⟩ := rep_C00 e1 rfl
    obtain ⟨hu, _⟩ := sliceT_of hT
    obtain ⟨z, hzr, hzc⟩ := zero_run hz w
    have hzl' := beq_t hzl
    obtain ⟨h0, inner, hown, hl, hr⟩ := hrow
    have hN : N = xs.length := by
      rcases hown.2 with ⟨e2, e3⟩ | ⟨g', cap, cur, e2, _⟩
      · rw [h3] at e2; injection e2 with _ e2 _; omega
      · rw [h3] at e2; injection e2
    by_cases hn0 : n = 0
    · subst hn0
      have hx' : xs' = xs := by rw [← hxs, List.replicate_zero, List.append_nil, List.take_of_length_le (by omega)]
      subst hx'
      refine ⟨.tuple #[], w, ?_, ⟨rfl, rfl, rfl, Nat.le_refl _, fun _ _ _ => rfl⟩, fun _ => ⟨h0, inner, hown, hl, hr⟩⟩
      have hsl : a.eval x = .slice (if c = lo then A else A.map (·.add (lo * sz))) 0 (c - lo) := by rw [h5]; simp [sliced]
      unfold execOp
      simp only [hop]
      generalize (if c = lo then A else A.map (·.add (lo * sz))) = A' at hsl
      cases A' <;> simp [resolve, invoke, builtin, hsl, Builtin.clear_, run_underlying hu]
    · rcases hown.2 with ⟨e2, e3⟩ | ⟨g, cap, cur, e2, _, hh, hnc, hcm, hcs, htk⟩
      · omega
      · rw [h3] at e2
        injection e2 with e2 e6 e7
        subst e2
        subst e7
        have hsl : a.eval x = .slice (some ⟨g, lo * sz, none⟩) n (c - lo) := by
          rw [h5]
          unfold sliced
          rw [if_neg (by omega)]
          simp only [Option.map_some, add_lit]
          congr 1
          omega
        have hzs : z.cells.size = sz := by rw [← Array.length_toList, hzc]; exact hzl'
        have hcells : (Builtin.zeroCells z.cells n).toList.length = n * sz := by rw [Array.length_toList, size_zeroCells, hzs]
        have hone : ∀ u ∈ (Builtin.zeroCells z.cells n).toList, u.oneCell' = true := fun u hu' => by
          obtain ⟨q, hq, rfl⟩ := List.getElem_of_mem hu'
          have hq' : q < n * sz := by rw [hcells] at hq; exact hq
          have h6 : (Builtin.zeroCells z.cells n)[(q / sz) * z.cells.size + q % sz]? = z.cells[q % sz]? := zc_get (Nat.div_lt_of_lt_mul (by rw [Nat.mul_comm]; exact hq')) (by rw [hzs]; exact Nat.mod_lt _ h0)
          rw [hzs, Nat.mul_comm, Nat.div_add_mod] at h6
          have h7 : (Builtin.zeroCells z.cells n).toList[q]? = z.cells[q % sz]? := by rw [Array.getElem?_toList]; exact h6
          rw [List.getElem?_eq_getElem hq, ← Array.getElem?_toList, hzc] at h7
          exact List.all_eq_true.1 h1 _ (List.mem_of_getElem? h7.symm)
        have hb1 : lo * sz + n * sz = xs.length * sz := by rw [← Nat.add_mul, hn]
        have hcapb : xs.length * sz ≤ c * sz := Nat.mul_le_mul_right _ hnc
        have hst := store_R P (Builtin.zeroCells z.cells n).toList 0 hh (o := lo * sz) (by rw [hcells]; omega) hone
        simp only [Nat.add_zero] at hst
        rw [hcells] at hst
        have hob : (ρ b).ownBlock = some g := by rw [h3]; rfl
        refine ⟨.tuple #[], w.setRow g (cur.toList.take (lo * sz) ++ (Builtin.zeroCells z.cells n).toList ++ cur.toList.drop (lo * sz + n * sz)).toArray, ?_, ⟨rfl, rfl, rfl, by simp [World.setRow], fun k hk hne => setRow_other w g k _ (fun e => hne (by rw [hob, e]))⟩, fun hz' => ?_⟩
        · unfold execOp
          simp only [hop]
          obtain ⟨m, rfl⟩ : ∃ m, n = m + 1 := ⟨n - 1, by omega⟩
          simp [resolve, invoke, builtin, hsl, Builtin.clear_, run_underlying hu, hzr, hst]
        · have hlx : xs'.length = xs.length := by rw [← hxs]; simp; omega
          have hin : inner.length = xs.length * sz := hown.1
          have zmove : ∀ {x : AV} {u : Value}, RepV Zn w x u → RepV Zn (w.setRow g (cur.toList.take (lo * sz) ++ (Builtin.zeroCells z.cells n).toList ++ cur.toList.drop (lo * sz + n * sz)).toArray) x u := fun h => h.move hz' (fun _ h => h)
          refine ⟨h0, inner.take (lo * sz) ++ (Builtin.zeroCells z.cells n).toList ++ inner.drop (lo * sz + n * sz), ⟨?_, .inr ⟨g, c, _, by rw [h3, hlx]; congr 1, Nat.zero_le _, setRow_R hh hcells (by rw [hcs]; omega), by rw [hlx]; exact hnc, hcm, ?_, ?_⟩⟩, fun q y hy => ?_, fun q y k lv hy hk => ?_⟩
          · simp only [List.length_append, List.length_take, List.length_drop]
            rw [hlx, hcells]
            omega
          · simp only [List.size_toArray, List.length_append, List.length_take, List.length_drop, Array.length_toList]
            rw [size_zeroCells, hzs]; omega
          · rw [hlx]
            show ((cur.toList.take (lo * sz) ++ (Builtin.zeroCells z.cells n).toList ++ cur.toList.drop (lo * sz + n * sz))).take (xs.length * sz) = _
            apply List.ext_getElem?
            intro q
            rw [List.getElem?_take]
            have hcl : cur.toList.length = c * sz := by simpa using hcs
            have hin' : ∀ q, q < xs.length * sz → inner[q]? = cur.toList[q]? := fun q hq => by rw [← htk, List.getElem?_take, if_pos hq]
            by_cases hq : q < xs.length * sz
            · rw [if_pos hq, midget (by omega) hcells, midget (by omega) hcells, hin' q hq]
            · rw [if_neg hq, List.getElem?_eq_none]
              simp only [List.length_append, List.length_take, List.length_drop]
              rw [hcells]; omega
          · rw [← hxs] at hy
            rcases Nat.lt_or_ge q lo with hq | hq
            · rw [List.getElem?_append_left (by simp; omega), List.getElem?_take, if_pos hq] at hy
              exact hl q y hy
            · rw [List.getElem?_append_right (by simp; omega)] at hy
              have := List.eq_of_mem_replicate (List.mem_of_getElem? hy)
              rw [this, ZL_len hv]; exact hzl'
          · rw [← hxs] at hy
            rcases Nat.lt_or_ge q lo with hq | hq
            · rw [List.getElem?_append_left (by simp; omega), List.getElem?_take, if_pos hq] at hy
              obtain ⟨u, hu', hrep⟩ := hr q y k lv hy hk
              refine ⟨u, ?_, zmove hrep⟩
              have hk' : k < sz := by have := hl q y hy; have := (List.getElem?_eq_some_iff.1 hk).1; omega
              have h6 : (q + 1) * sz ≤ lo * sz := Nat.mul_le_mul_right _ hq
              rw [Nat.succ_mul] at h6
              rw [midget (by omega) hcells, if_pos (by omega)]
              exact hu'
            · have hql : q < lo + n := by
                have := (List.getElem?_eq_some_iff.1 hy).1
                simp at this; omega
              rw [List.getElem?_append_right (by simp; omega)] at hy
              have hyv := List.eq_of_mem_replicate (List.mem_of_getElem? hy)
              subst hyv
              have hk' : k < sz := by have := (List.getElem?_eq_some_iff.1 hk).1; rw [ZL_len hv, hzl'] at this; exact this
              obtain ⟨u, hu', hrep⟩ := ZL_get (Zn := Zn) (w := w.setRow g (cur.toList.take (lo * sz) ++ (Builtin.zeroCells z.cells n).toList ++ cur.toList.drop (lo * sz + n * sz)).toArray) hv hk
              refine ⟨u, ?_, hrep (List.all_eq_true.1 h1 _ (List.mem_of_getElem? hu'))⟩
              have h6 : lo * sz ≤ q * sz := Nat.mul_le_mul_right _ hq
              have h7 : (q + 1) * sz ≤ (lo + n) * sz := Nat.mul_le_mul_right _ hql
              rw [Nat.succ_mul, Nat.add_mul] at h7
              rw [midget (by omega) hcells, if_neg (by omega), if_pos (by omega), show q * sz + k - lo * sz = (q - lo) * sz + k by rw [Nat.sub_mul]; omega]
              have h8 := zc_get (zs := z.cells) (n := n) (q := q - lo) (i := k) (by omega) (by omega)
              rw [hzs] at h8
              rw [Array.getElem?_toList, h8, ← Array.getElem?_toList, hzc]
              exact hu'
theorem clr {T b e sz lo n : Nat} {x : Operand} {xs : List AV} (zs : List Value) (v : AV) (xs' : List AV) (hn : lo + n = xs.length) (hxs : xs.take lo ++ List.replicate n v = xs') (hop : o.op = .call { callee := .builtin .clear, args := #[x], argTypes := #[T] } := by rfl) (hx : opd s x = .sub b sz lo n := by rfl) (hb : gB s.bk b = .row e sz xs := by rfl) (hT : sliceT P T e sz = true := by kernel_rfl) (hz : zeroOf P e = some zs := by kernel_rfl) (h1 : zs.all (·.oneCell') = true := by rfl) (hzl : Nat.beq zs.length sz = true := by rfl) (hv : ZL v.leaves zs := by (repeat (first | exact trivial | refine ⟨rfl, ?_⟩ | refine ⟨⟨rfl, rfl⟩, ?_⟩))) (hd : o.dst = none := by rfl) : Okv P E nt o s ⟨none, .junk, [(b, .row e sz xs')]⟩ (lkO x) [b] :=
  r_clr hop hd hx hb hT hz h1 hzl hv hn hxs
end
theorem clrN {α : Type} {f : α → AV} {l : List α} {m : Nat} (h : m ≤ l.length) : m + (l.length - m) = (l.map f).length := by rw [List.length_map]; omega
theorem clrE {α : Type} {f : α → AV} {l : List α} {z : α} {m n : Nat} : (l.map f).take m ++ List.replicate n (f z) = (l.take m ++ List.replicate n z).map f := by simp
section
variable {E : Env} {nt : Nat} {tm : List (Nat × AV)} {bk : List (Nat × Blk)} {K : Act → World → Prop}
/-- A whole row, told as its own front. -/
theorem ac_rs {b e sz : Nat} {xs : List AV} (t n : Nat) (h : ACont E nt ⟨(t, .sub b sz 0 n) :: tm, bk⟩ K) (hn : xs.length = n) (ht : gT tm t = .row b := by rfl) (hb : gB bk b = .row e sz xs := by rfl) : ACont E nt ⟨tm, bk⟩ K := by
  subst hn
  intro a w ⟨ρ, Zn, hs⟩
  have h1 := hs.tmp t
  rw [ht] at h1
  obtain ⟨hf, hu, _⟩ := rep_C00 h1 rfl
  have hrow := hs.blk b
  rw [hb] at hrow
  refine h a w ⟨ρ, Zn, hs.upd (fun _ => False) rfl rfl rfl (Nat.le_refl _) (fun _ _ _ => rfl) (fun _ _ => rfl) (fun _ _ => rfl) (fun _ h => h.elim) (fun _ h => h) (fun _ h => .inl h) (fun _ h => h.elim) (fun _ _ h => h.elim) (fun _ _ _ h => h.elim) rfl rfl (fun i => ?_) (fun _ h => h.elim)⟩
  by_cases hi : i = t
  · right
    intro m
    subst hi
    show RepT _ _ _ _ (gT ((i, .sub b sz 0 xs.length) :: tm) i) _
    rw [gT_cons, if_pos rfl]
    obtain ⟨h0, inner, ho, _⟩ := hrow
    obtain ⟨A, c, e1⟩ : ∃ A c, ρ b = .slice A xs.length c := by
      rcases ho.2 with ⟨e1, e2⟩ | ⟨g, cap, cur, e1, _⟩
      · exact ⟨none, 0, by rw [e1, e2]⟩
      · exact ⟨_, _, e1⟩
    refine rep_of_C (.inl ⟨hf, A, xs.length, c, e1, by omega, ?_⟩)
    rw [hu, e1]
    unfold sliced
    rw [Nat.zero_add, Nat.zero_mul, Nat.sub_zero, Nat.sub_zero]
    cases A with
    | none => split <;> rfl
    | some a => split <;> simp [Addr.add]
  · left; exact ⟨by show gT ((t, .sub b sz 0 xs.length) :: tm) i = _; rw [gT_cons, if_neg hi], rfl⟩
end
theorem takeL {α : Type} {f : α → AV} {l : List α} : (l.map f).take l.length = l.map f := by rw [← List.length_map (f := f), List.take_length]
theorem setE2 {α : Type} {f : α → AV} {l : List α} {i : Nat} {a b : α} : ((l.set i a).map f).set i (f b) = (l.set i b).map f := by rw [← List.map_set, List.set_set]
theorem setG {α : Type} {f : α → AV} {l : List α} {i : Int} {e : α} (h0 : 0 ≤ i) (h1 : i < ((l.set i.toNat e).length : Int)) : ((l.set i.toNat e).map f)[i.toNat]? = some (f e) := by
  rw [List.length_set] at h1
  rw [List.getElem?_map, List.getElem?_set_self (by omega)]; rfl
end Go.Proofs.YtahmbcgolnplgaaDoorA
