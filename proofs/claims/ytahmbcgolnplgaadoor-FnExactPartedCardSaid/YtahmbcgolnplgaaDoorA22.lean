/- The abstract machine, twenty-second part: function values with what they capture; results frozen of what is handed blocks. No claim lies here. -/
import Derived.Test.YtahmbcgolnplgaaDoorA21
set_option linter.unusedVariables false
set_option linter.unusedSimpArgs false
namespace Go.Proofs.YtahmbcgolnplgaaDoorA
open Go Go.RowKit
section
variable {P : Program} {E : Env} {nt : Nat} {s : S} {o : Oper} {d : Nat}
theorem mkf {f : Nat} {cs : Array Operand} (l : List AV) (hop : o.op = .makeFunc (.func f) #[] cs := by rfl) (hx : cs.toList.map (opd s) = l := by rfl) (hl : l.all one0 = true := by rfl) (hd : o.dst = some d := by rfl) (hlt : Nat.blt d nt = true := by rfl) : Okv P E nt o s ⟨some d, .fn f l, []⟩ (cs.toList.flatMap lkO) [] :=
  okv_val hd hlt fun tm bk ρ Zn a w hag hs => by
    refine ⟨.func (.func f) #[] (cs.map a.eval), by simp [execOp, hop, Instr.makeFunc], .inr (.inr (.inl (.inl (.inr ⟨f, l, cs.toList.map a.eval, rfl, by
      have : cs.map a.eval = (cs.toList.map a.eval).toArray := by apply Array.ext'; simp
      rw [this], ?_⟩))))⟩
    subst hx
    refine ⟨by simp, fun i x v hx hv => ?_⟩
    rw [List.getElem?_map] at hx hv
    obtain ⟨y, hy, rfl⟩ := Option.map_eq_some_iff.1 hx
    rw [hy] at hv
    obtain rfl := Option.some.inj hv
    have hm : y ∈ cs.toList := List.mem_of_getElem? hy
    have h1 := St.opd (s := s) hs y (fun t ht => hag.1 t (List.mem_flatMap.2 ⟨y, hm, ht⟩))
    have h2 : one0 (opd s y) = true := List.all_eq_true.1 hl _ (List.mem_map.2 ⟨y, hm, rfl⟩)
    exact .inl (rep_C00 h1 h2)
end
def enumB : Nat → List Blk → List (Nat × Blk)
  | _, [] => []
  | i, x :: r => (i, x) :: enumB (i + 1) r
theorem gBo_enum : ∀ (l : List Blk) (i j : Nat), gBo (enumB i l) j = if i ≤ j then l[j - i]? else none
  | [], i, j => by simp [enumB, gBo]
  | x :: r, i, j => by
    show (match Nat.beq j i with | true => some x | false => gBo (enumB (i + 1) r) j) = _
    cases h : Nat.beq j i with
    | true => have := beq_t h; subst this; simp
    | false =>
      have hne := beq_f h
      show gBo (enumB (i + 1) r) j = _
      rw [gBo_enum r (i + 1) j]
      by_cases hle : i ≤ j
      · rw [if_pos (by omega), if_pos hle, show j - i = (j - (i + 1)) + 1 by omega, List.getElem?_cons_succ]
      · rw [if_neg (by omega), if_neg hle]
theorem gB_enum (l : List Blk) (j : Nat) : gB (enumB 0 l) j = (l[j]?).getD .fresh := by
  unfold gB
  rw [gBo_enum, if_pos (Nat.zero_le _), Nat.sub_zero]
  cases l[j]? <;> rfl
def frzN (n : Nat) (post : List Blk) : AV → AV
  | .row b => match Nat.blt b n with
    | true => .row b
    | false => match (post[b]?).getD .fresh with
      | .row _ sz xs => .sl .n sz xs
      | _ => .junk
  | .box b o => match Nat.blt b n with
    | true => .box b o
    | false => .junk
  | .sub _ _ _ _ => .junk
  | .elp _ _ _ _ => .junk
  | x => x
def flatC (n : Nat) : AV → Bool
  | .junk | .lit _ | .sl _ _ _ => true
  | .row b => Nat.blt b n
  | .box b _ => Nat.blt b n
  | _ => false
def flatBk (n : Nat) : Blk → Bool
  | .box _ cells => cells.all (flatC n)
  | .drow op _ _ _ _ => !op
  | _ => true
theorem ACalls.frzP {P : Program} {f : FuncId} {pre : List (Nat × Blk)} {args : List AV} {L M : List Blk} {res : AV} (res' : AV) (h : ACalls P f pre args (enumB 0 (L ++ M)) res) (hn : Nat.beq pre.length L.length = true) (hf : L.all (flatBk L.length) = true) (hr : mp4 (frzN L.length (L ++ M)) res = res' := by rfl) : ACalls P f pre args (enumB 0 L) res' := by
  subst hr
  intro E ρ vs hp h0 hv
  refine (h E ρ vs hp h0 hv).mono ?_
  rintro e w' ⟨v, ρ', Zn, rfl, hs, hrep⟩
  have hn' := Nat.eq_of_beq_eq_true hn
  have hb1 : ∀ b, b < L.length → gB (enumB 0 L) b = gB (enumB 0 (L ++ M)) b := fun b hb => by rw [gB_enum, gB_enum, List.getElem?_append_left hb]
  have hb2 : ∀ b, L.length ≤ b → gB (enumB 0 L) b = .fresh := fun b hb => by rw [gB_enum, List.getElem?_eq_none hb]; rfl
  have mz : ∀ z k, fz E Zn z k → fz E (fun k => Zn k ∨ ∃ b, L.length ≤ b ∧ Own ρ' (gB (enumB 0 (L ++ M))) b k) z k := fun z k hz => by
    cases z with
    | o => exact hz.elim (fun hz => .inl hz) (fun hz => .inr (.inl hz))
    | n => exact .inl hz
    | u => exact hz
  have ownL : ∀ b k, Own ρ' (gB (enumB 0 L)) b k → b < L.length ∧ Own ρ' (gB (enumB 0 (L ++ M))) b k := fun b k ho => by
    by_cases hb : b < L.length
    · exact ⟨hb, by rw [← hb1 b hb]; exact ho.1, ho.2⟩
    · have := ho.1
      rw [hb2 b (by omega)] at this
      cases this
  obtain ⟨ω, d⟩ := hs.deep
  have ownL' : ∀ b k, OwnD ρ' ω (gB (enumB 0 L)) b k → b < L.length ∧ OwnD ρ' ω (gB (enumB 0 (L ++ M))) b k := fun b k ho => by
    by_cases hb : b < L.length
    · exact ⟨hb, by unfold OwnD at ho ⊢; rw [hb1 b hb] at ho; exact ho⟩
    · have := ho.1
      rw [hb2 b (by omega)] at this
      cases this
  have lf : Lf (fz E Zn) (fz E (fun k => Zn k ∨ ∃ b, L.length ≤ b ∧ Own ρ' (gB (enumB 0 (L ++ M))) b k)) w' ρ' ρ' (gB (enumB 0 (L ++ M))) (gB (enumB 0 L)) (frzN L.length (L ++ M)) := by
    refine ⟨fun x u hx => ?_, rfl, fun _ => rfl⟩
    cases x with
    | row b =>
      obtain ⟨h1, h2, h3⟩ := hx
      show RepC0 _ _ _ _ (match Nat.blt b L.length with | true => AV.row b | false => match ((L ++ M)[b]?).getD .fresh with | .row _ sz xs => AV.sl .n sz xs | _ => .junk) u
      cases hbl : Nat.blt b L.length with
      | true =>
        have hb : b < L.length := by simpa using hbl
        exact ⟨by rw [hb1 b hb]; exact h1, h2, h3⟩
      | false =>
        have hb : L.length ≤ b := by
          have : ¬ b < L.length := fun hlt => by
            have : Nat.blt b L.length = true := by simpa using hlt
            rw [this] at hbl; cases hbl
          omega
        have hbk := hs.blk b
        have hge := gB_enum (L ++ M) b
        cases hg : ((L ++ M)[b]?).getD .fresh with
        | row e sz xs =>
          rw [hge, hg] at hbk
          rw [h2]
          exact row_sl (z := .n) hbk (fun k hk => .inl hk) (fun k hk => .inr ⟨b, hb, by rw [hge, hg]; rfl, hk⟩)
        | _ => exact h3
    | box b o =>
      obtain ⟨h1, g, h2, h3⟩ := hx
      show RepC0 _ _ _ _ (match Nat.blt b L.length with | true => AV.box b o | false => .junk) u
      cases hbl : Nat.blt b L.length with
      | true =>
        have hb : b < L.length := by simpa using hbl
        exact ⟨by rw [hb1 b hb]; exact h1, g, h2, h3⟩
      | false => rw [h3]; rfl
    | sub b sz lo n => obtain ⟨_, A, N, c, _, _, rfl⟩ := hx; rfl
    | elp b sz i j => obtain ⟨_, g, n, c, _, rfl⟩ := hx; rfl
    | sl z sz xs => exact RepV.move hx (fun _ _ => rfl) (mz z)
    | rp z x j =>
      obtain ⟨ad, f, h1, h2, h3⟩ := hx
      exact ⟨ad, f, h1, mz _ _ h2, fun i lv hi => ⟨(h3 i lv hi).1, RepV.move (h3 i lv hi).2 (fun _ _ => rfl) (mz z)⟩⟩
    | junk => exact hx
    | lit v => exact hx
    | agg l => exact hx.elim
    | tup l => exact hx.elim
    | fn f c => exact hx.elim
  refine ⟨v, ρ', fun k => Zn k ∨ ∃ b, L.length ≤ b ∧ Own ρ' (gB (enumB 0 (L ++ M))) b k, rfl, ⟨hs.os, hs.tape, hs.output, hs.size, hs.z0, hs.keep, fun k hk => .inl (hs.zi k hk), hs.zy, fun k hk => ?_, fun b v hb => ?_, fun b => ?_, ⟨ω, fun b op ds e sz xs hbk => ?_, fun b hbk => ?_, fun b k ho => d.lt b k (ownL' b k ho).2, fun b k ho => ?_, fun b b' k ho ho' => d.sep b b' k (ownL' b k ho).2 (ownL' b' k ho').2⟩, rfl, rfl, fun _ => .inl rfl⟩, lf4 lf hrep⟩
  · rcases hk with hk | ⟨b, _, ho⟩
    · exact hs.zn k hk
    · exact ⟨St.own_lt hs ho, .inr (hs.out b k ho).1⟩
  · have hlt : b < L.length := by have := h0 b v hb; omega
    have h1 := hs.fix b v hb
    exact ⟨by rw [hb1 b hlt]; exact h1.1, h1.2⟩
  · by_cases hb : b < L.length
    · rw [hb1 b hb]
      have hbk := hs.blk b
      have hfl : flatBk L.length (gB (enumB 0 (L ++ M)) b) = true := by
        rw [← hb1 b hb, gB_enum, List.getElem?_eq_getElem hb]
        exact List.all_eq_true.1 hf _ (List.getElem_mem _)
      cases hg : gB (enumB 0 (L ++ M)) b with
      | box t cells =>
        rw [hg] at hbk hfl
        obtain ⟨g, cs, e1, e2, e3⟩ := hbk
        refine ⟨g, cs, e1, e2, ?_⟩
        have h4 : Fa _ (cells.map (mp2 (frzN L.length (L ++ M)))) cs := Fa.map_left.2 (e3.imp fun _ _ h => lf2 lf h)
        have h5 : cells.map (mp2 (frzN L.length (L ++ M))) = cells := by
          conv => rhs; rw [← List.map_id cells]
          refine List.map_congr_left fun x hx => ?_
          have hc : flatC L.length x = true := List.all_eq_true.1 hfl x hx
          cases x with
          | row b => show (match Nat.blt b L.length with | true => AV.row b | false => _) = _; rw [show Nat.blt b L.length = true from hc]; rfl
          | box b o => show (match Nat.blt b L.length with | true => AV.box b o | false => _) = _; rw [show Nat.blt b L.length = true from hc]; rfl
          | _ => first | rfl | cases hc
        rw [h5] at h4
        exact h4
      | row e sz xs =>
        rw [hg] at hbk
        exact RowOk.move hbk (fun k hk => ⟨rfl, .inl hk⟩) (fun _ _ => rfl)
      | _ => trivial
    · rw [hb2 b (by omega)]; trivial
  · by_cases hb : b < L.length
    · have hfl : flatBk L.length (gB (enumB 0 L) b) = true := by
        rw [gB_enum, List.getElem?_eq_getElem hb]
        exact List.all_eq_true.1 hf _ (List.getElem_mem _)
      rw [hbk] at hfl
      have hop : op = false := by cases op with | false => rfl | true => cases hfl
      subst hop
      exact (d.row b _ _ _ _ _ ((hb1 b hb).symm.trans hbk)).closed (fun k hk => .inl hk)
    · rw [hb2 b (by omega)] at hbk; cases hbk
  · by_cases hb : b < L.length
    · exact d.tree b (by rw [← hb1 b hb]; exact hbk)
    · rw [hb2 b (by omega)] at hbk; cases hbk
  · obtain ⟨hb, ho'⟩ := ownL' b k ho
    refine ⟨(d.out b k ho').1, fun hz => ?_⟩
    rcases hz with hz | ⟨b', hb', ho2⟩
    · exact (d.out b k ho').2 hz
    · have := d.sep b b' k ho' ho2.deep; omega
end Go.Proofs.YtahmbcgolnplgaaDoorA
