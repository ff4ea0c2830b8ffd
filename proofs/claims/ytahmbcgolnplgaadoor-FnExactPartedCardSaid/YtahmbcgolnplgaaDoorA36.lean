/- The abstract machine, thirty-sixth part: arrays as values, one listed variable. No claim lies here. -/
import Derived.Test.YtahmbcgolnplgaaDoorA32
set_option linter.unusedVariables false
set_option linter.unusedSimpArgs false
namespace Go.Proofs.YtahmbcgolnplgaaDoorA
open Go Go.RowKit
section
variable {P : Program} {ops : Array Oper} {Q : Exit → Act → World → Prop} {E : Env} {nt : Nat} {s : S} {d : Nat} {o : Oper} {α : Type} {xs ys : List α} {f : α → AV}
theorem tkAll {n : Nat} {l : List AV} (h : l.length = n) : (l.drop 0).take n = l := by rw [List.drop_zero, ← h, List.take_length]
/-- A whole array out of a box. -/
theorem ldXA {T b t n : Nat} {x : Operand} (hn : xs.length = n) (hop : o.op = .load T x := by rfl) (hx : opd s x = .box b 0 := by rfl) (hb : gB s.bk b = .box t (xs.map f) := by rfl) (hT : aggT P T n = true := by kernel_rfl) (hd : o.dst = some d := by rfl) (hlt : Nat.blt d nt = true := by rfl) : Okv P E nt o s ⟨some d, .agg (xs.map f), []⟩ (lkO x) [b] :=
  ldBA n (xs.map f) hop hx hb (tkAll (by rw [List.length_map, hn])) (by rw [List.length_map, hn]) hT hd hlt
/-- A whole array into a box. -/
theorem stXA {T b t n : Nat} {p x : Operand} (hn : xs.length = n) (hm : ys.length = n) (hop : o.op = .store T p x := by rfl) (hp : opd s p = .box b 0 := by rfl) (hx : opo s x = some (.agg (ys.map f)) := by rfl) (hb : gB s.bk b = .box t (xs.map f) := by rfl) (hT : sizeIs P T n = true := by kernel_rfl) (hd : o.dst = none := by rfl) : Okv P E nt o s ⟨none, .junk, [(b, .box t (ys.map f))]⟩ (lkO p ++ lkO x) [b] :=
  stB n (ys.map f) hop hp hx hb rfl hT (by show Nat.beq (ys.map f).length n = true; rw [List.length_map, hm]; exact Nat.beq_refl n) (by rw [Nat.ble_eq, List.length_map]; omega) hd (by
    show (xs.map f).take 0 ++ ys.map f ++ (xs.map f).drop (0 + n) = ys.map f
    rw [List.take_zero, List.nil_append, Nat.zero_add, ← hn, ← List.length_map (f := f), List.drop_length, List.append_nil])
/-- An array as a result. -/
theorem rcX {t T b tt n : Nat} {l' : List AV} {rs : List ResultVar} (hn : xs.length = n) (h : Rs P s rs l') (hp : gT s.tm t = .box b 0 := by rfl) (hb : gB s.bk b = .box tt (xs.map f) := by rfl) (hT : aggT P T n = true := by kernel_rfl) : Rs P s (.cell t T :: rs) (.agg (xs.map f) :: l') :=
  rcA n h hp hb (tkAll (by rw [List.length_map, hn])) (by rw [List.length_map, hn]) hT
/-- A place in what may only be read. -/
theorem ixG {T : Nat} {x y : Operand} {k : IntKind} {i : Int} {z : Fl} {w : AV} (n : Nat) (h0 : 0 ≤ i) (h1 : i < (n : Int)) (hop : o.op = .indexAddr T x y := by rfl) (hx : opd s x = .rp z w 0 := by rfl) (hy : opd s y = .lit (.int k i) := by rfl) (hT : arrT P T n 1 = true := by kernel_rfl) (hd : o.dst = some d := by rfl) (hlt : Nat.blt d nt = true := by rfl) : Okv P E nt o s ⟨some d, .rp z w i.toNat, []⟩ (lkO x ++ lkO y) [] :=
  r_ixA hop hd hlt hx rfl hy h0 h1 hT (by show AV.rp z w (0 + i.toNat * 1) = _; rw [Nat.zero_add, Nat.mul_one])
theorem ldG {T : Nat} {x : Operand} {i : Int} {zz : α} {z : Fl} (h0 : 0 ≤ i) (h1 : i < (xs.length : Int)) (v : AV) (hi : imm z (f (xs.getD i.toNat zz)) = v) (hop : o.op = .load T x := by rfl) (hx : opd s x = .rp z (.agg (xs.map f)) i.toNat := by rfl) (hT : scalarT P T = true := by kernel_rfl) (hd : o.dst = some d := by rfl) (hlt : Nat.blt d nt = true := by rfl) : Okv P E nt o s ⟨some d, v, []⟩ (lkO x) [] :=
  ldR v hop hx (show (xs.map f)[i.toNat]? = _ from getE h0 h1) hi hT hd hlt
theorem renA {m : Nat → Nat} {k : IntKind} {l : List Int} : AV.agg (l.map (eI k)) = ren4 m (.agg (l.map (eI k))) := by
  show _ = AV.agg ((l.map (eI k)).map (ren2 m))
  rw [List.map_map]; rfl
theorem ren3A {m : Nat → Nat} {k : IntKind} {l : List Int} : ren3 m (.agg (l.map (eI k))) = .agg (l.map (eI k)) := by
  show AV.agg ((l.map (eI k)).map (ren2 m)) = _
  rw [List.map_map]; rfl
theorem mp4A {g : AV → AV} {k : IntKind} {l : List Int} (hg : ∀ n, g (eI k n) = eI k n := by intro _; rfl) : mp4 g (.agg (l.map (eI k))) = .agg (l.map (eI k)) := by
  show AV.agg ((l.map (eI k)).map (mp2 g)) = _
  rw [List.map_map, show (mp2 g ∘ eI k) = eI k from funext hg]
theorem mpLA {g : AV → AV} {k : IntKind} {l : List Int} {d : Nat} (hg : ∀ n, g (eI k n) = eI k n := by intro _; rfl) : (⟨some d, mp4 g (.agg (l.map (eI k))), []⟩ : LA) = ⟨some d, .agg (l.map (eI k)), []⟩ := by rw [mp4A hg]
theorem zipA {s : S} {I : List Nat} {up : Fl} {k : IntKind} : ∀ {l : List Int} {y : List AV}, zipL (vw2 s I up) y (l.map (eI k)) = l.map (eI k)
  | [], y => by cases y <;> rfl
  | a :: l, [] => by show eI k a :: zipL (vw2 s I up) [] (l.map (eI k)) = _; rw [zipA]; rfl
  | a :: l, b :: y => by show eI k a :: zipL (vw2 s I up) y (l.map (eI k)) = _; rw [zipA]; rfl
theorem vw3A {s : S} {I : List Nat} {up : Fl} {k : IntKind} {l : List Int} {y : AV} : vw3 s I up y (.agg (l.map (eI k))) = .agg (l.map (eI k)) := by
  show AV.agg (zipL (vw2 s I up) (aggL y) (l.map (eI k))) = _
  rw [zipA]
theorem lc {a b : AV} {l m : List AV} (h : a = b) (t : l = m) : a :: l = b :: m := by rw [h, t]
theorem gWl {i : Int} (h : i < 64) : i < (gW.length : Int) := h
theorem cpl {T : TypeId} {x : Operand} {n : Int} (hop : o.op = .unOp .xor T x := by rfl) (hx : opd s x = .lit (.int .u32 n) := by rfl) (hd : o.dst = some d := by rfl) (hlt : Nat.blt d nt = true := by rfl) : Okv P E nt o s ⟨some d, .lit (.int .u32 (bits .xor .u32 4294967295 n)), []⟩ (lkO x) [] := by
  have := okv_lit (P := P) (E := E) (s := s) (l := [(x, .int .u32 n)]) (v := .int .u32 (bits .xor .u32 4294967295 n)) hd hlt (by simp [hx]) (fun ρ w h => by
    have h1 := h (x, .int .u32 n) (by simp)
    simp only at h1
    simp [execOp, hop, h1, Op.unary, intBits_xor, IntKind.signed, IntKind.max, IntKind.bits])
  simpa using this
theorem r_buildX {T : TypeId} {parts : Array (Nat × Operand)} {zs : List Value} {l : List AV} (n : Nat) (hop : o.op = .build T parts) (hd : o.dst = some d) (hlt : Nat.blt d nt = true) (hz : zeroOf P T = some zs) (h1 : zs.all (·.oneCell') = true) (hp : arrT P T n 1 = true) (hl : fillS s ((List.range n).map fun i => (i, 1)) (zs.map .lit) parts.toList = some l) : Okv P E nt o s ⟨some d, .agg l, []⟩ (parts.toList.flatMap fun p => lkO p.2) [] :=
  okv_val hd hlt fun tm bk ρ Zn a w hag hs => by
    obtain ⟨e, hu, hsz⟩ : ∃ e, P.underlying T = some (.array n e) ∧ (sizeOf e).run P w = .ok 1 w := by
      unfold arrT at hp
      cases hu : P.underlying T with
      | none => rw [hu] at hp; cases hp
      | some t =>
        cases t with
        | array n' e =>
          rw [hu] at hp
          have hp' : (Nat.beq n' n && sizeIs P e 1) = true := hp
          rw [Bool.and_eq_true] at hp'
          obtain rfl := Nat.eq_of_beq_eq_true hp'.1
          exact ⟨e, rfl, size_run hp'.2 w⟩
        | _ => rw [hu] at hp; cases hp
    obtain ⟨z, h2, h3⟩ := zero_run hz w
    obtain ⟨m', h4, h5⟩ := fill_ok (s := s) (Zf := fz E Zn) (w := w) (ρ := ρ) (bk := bk) (pl := (List.range n).map fun i => (i, 1)) (place := fun i => some (i * 1, 1)) (fun i q h => by
        rw [List.getElem?_map] at h
        obtain ⟨j, hj, rfl⟩ := Option.map_eq_some_iff.1 h
        obtain ⟨_, hj⟩ := List.getElem?_eq_some_iff.1 hj
        rw [List.getElem_range] at hj
        subst hj; rw [Nat.mul_one]) (ev := a.eval) (m := z.cells) (fun p hp' hn => by
      have := St.opd (s := s) hs p.2 (fun t ht => hag.1 t (List.mem_flatMap.2 ⟨p, hp', ht⟩))
      exact rep_A (rep_A_of this hn)) (by rw [h3]; exact fa_lits h1) hl
    refine ⟨.agg m', ?_, .inr (.inr (.inl (.inr ⟨l, m'.toList, rfl, by simp, h5⟩)))⟩
    unfold execOp
    simp only [hop]
    rw [Sem.run_bind]
    have hb : (Instr.build T (parts.map fun (i, x) => (i, a.eval x))).run P w = .ok (.agg m') w := by
      unfold Instr.build
      rw [Sem.run_bind]
      simp only [Sem.run_map, h2, Result.andThen_ok]
      rw [Sem.run_bind, run_underlying hu, Result.andThen_ok]
      simp only
      rw [Sem.run_bind, hsz, Result.andThen_ok]
      have : (parts.map fun (x : Nat × Operand) => (x.1, a.eval x.2)).toList = parts.toList.map fun p => (p.1, a.eval p.2) := by simp
      rw [this]
      rw [h4]
      rfl
    rw [hb]; rfl
theorem bldX {T : Nat} {parts : Array (Nat × Operand)} (n : Nat) (zs : List Value) (l : List AV) (hop : o.op = .build T parts := by rfl) (hz : zeroOf P T = some zs := by kernel_rfl) (h1 : zs.all (·.oneCell') = true := by rfl) (hp : arrT P T n 1 = true := by kernel_rfl) (hd : o.dst = some d := by rfl) (hlt : Nat.blt d nt = true := by rfl) (hl : fillS s ((List.range n).map fun i => (i, 1)) (zs.map .lit) parts.toList = some l := by rfl) : Okv P E nt o s ⟨some d, .agg l, []⟩ (parts.toList.flatMap fun p => lkO p.2) [] := r_buildX n hop hd hlt hz h1 hp hl
end
end Go.Proofs.YtahmbcgolnplgaaDoorA
