/- The abstract machine, ninth part: the operations that turn no memory. No claim lies here. -/
import Derived.Test.YtahmbcgolnplgaaDoorA8
import Derived.IntWalk
import Derived.Laws.Concat
import Derived.Laws.Small
import Derived.Laws.StructEq
import Derived.Laws.Slices
import Derived.Laws.DeepStrings4
import Derived.Laws.BytesString
import Derived.Laws.IdiomStrings
set_option linter.unusedVariables false
set_option linter.unusedSimpArgs false
namespace Go.Proofs.YtahmbcgolnplgaaDoorA
open Go

section
variable {P : Program} {E : Env} {nt : Nat} {s : S} {o : Oper} {d : Nat}
theorem okv_val {x : AV} {lk tl : List Nat} (hd : o.dst = some d) (hlt : Nat.blt d nt = true)
    (h : ∀ tm bk ρ Zn a w, Agree s lk tl tm bk → St E nt ρ Zn tm bk a w → ∃ v, (execOp a.eval o).run P w = .ok (.value v) w ∧ RepT (fz E Zn) w ρ bk x v) : Okv P E nt o s ⟨some d, x, []⟩ lk tl := by
  intro tm bk hag a w ⟨ρ, Zn, hs⟩
  obtain ⟨v, h1, h2⟩ := h tm bk ρ Zn a w hag hs
  refine ⟨_, v, w, h1, .inl rfl, ρ, Zn, ?_⟩
  rw [hd, upF_nil]
  exact hs.put hlt h2
/-- An operation over known values. -/
theorem okv_lit {v : Value} {l : List (Operand × Value)} (hd : o.dst = some d) (hlt : Nat.blt d nt = true) (hl : ∀ p ∈ l, opd s p.1 = .lit p.2)
    (h : ∀ (ρ : Operand → Value) (w : World), (∀ p ∈ l, ρ p.1 = p.2) → (execOp ρ o).run P w = .ok (.value v) w) : Okv P E nt o s ⟨some d, .lit v, []⟩ (l.flatMap (fun p => lkO p.1)) [] :=
  okv_val hd hlt fun tm bk ρ Zn a w hag hs => ⟨v, h a.eval w (fun p hp => by
    have := St.opd (s := s) hs p.1 (fun t ht => hag.1 t (List.mem_flatMap.2 ⟨p, hp, ht⟩))
    rw [hl p hp] at this
    exact rep_lit this), .inr (.inl rfl)⟩
theorem r_mv {x : Operand} (hop : o.op = .move x) (hd : o.dst = some d) (hlt : Nat.blt d nt = true) : Okv P E nt o s ⟨some d, opd s x, []⟩ (lkO x) [] :=
  okv_val hd hlt fun tm bk ρ Zn a w hag hs => ⟨a.eval x, by simp [execOp, hop], St.opd hs x hag.1⟩
theorem r_as {x : Operand} (hop : o.op = .assign x) (hd : o.dst = some d) (hlt : Nat.blt d nt = true) : Okv P E nt o s ⟨some d, opd s x, []⟩ (lkO x) [] :=
  okv_val hd hlt fun tm bk ρ Zn a w hag hs => ⟨a.eval x, by simp [execOp, hop], St.opd hs x hag.1⟩
theorem r_pickT {c x y : Operand} {t : Bool} (hop : o.op = .pick c x y) (hd : o.dst = some d) (hlt : Nat.blt d nt = true) (hc : opd s c = .lit (.bool t)) (ht : t = true) : Okv P E nt o s ⟨some d, opd s x, []⟩ (lkO c ++ lkO x) [] :=
  okv_val hd hlt fun tm bk ρ Zn a w hag hs => ⟨a.eval x, by
    have := St.opd (s := s) hs c (fun t ht => hag.1 t (List.mem_append_left _ ht))
    rw [hc] at this
    have h1 := rep_lit this
    subst ht
    simp [execOp, hop, h1, asBool], St.opd hs x (fun t ht => hag.1 t (List.mem_append_right _ ht))⟩
theorem r_pickF {c x y : Operand} {t : Bool} (hop : o.op = .pick c x y) (hd : o.dst = some d) (hlt : Nat.blt d nt = true) (hc : opd s c = .lit (.bool t)) (ht : t = false) : Okv P E nt o s ⟨some d, opd s y, []⟩ (lkO c ++ lkO y) [] :=
  okv_val hd hlt fun tm bk ρ Zn a w hag hs => ⟨a.eval y, by
    have := St.opd (s := s) hs c (fun t ht => hag.1 t (List.mem_append_left _ ht))
    rw [hc] at this
    have h1 := rep_lit this
    subst ht
    simp [execOp, hop, h1, asBool], St.opd hs y (fun t ht => hag.1 t (List.mem_append_right _ ht))⟩
/-- An operator over two known values. -/
theorem r_bin {op : BinOp} {T T' : TypeId} {x y : Operand} {u v r : Value} (hop : o.op = .binOp op T x y T') (hd : o.dst = some d) (hlt : Nat.blt d nt = true) (hx : opd s x = .lit u) (hy : opd s y = .lit v)
    (hr : ∀ w, (do eqGuard op T x y u v; binOp op T u v : Sem Value).run P w = .ok r w) : Okv P E nt o s ⟨some d, .lit r, []⟩ (lkO x ++ lkO y) [] := by
  have := okv_lit (P := P) (E := E) (s := s) (l := [(x, u), (y, v)]) (v := r) hd hlt (by simp [hx, hy]) (fun ρ w h => by
    have h1 := h (x, u) (by simp)
    have h2 := h (y, v) (by simp)
    simp only at h1 h2
    have := hr w
    unfold execOp
    simp only [hop, h1, h2]
    rw [Sem.run_bind, this]; rfl)
  simpa using this
section
variable {T T' : TypeId} {x y : Operand} {k : IntKind} {m n : Int}
variable (hd : o.dst = some d) (hlt : Nat.blt d nt = true) (hx : opd s x = .lit (.int k m)) (hy : opd s y = .lit (.int k n))
include hd hlt hx hy
theorem r_add (hop : o.op = .binOp .add T x y T') : Okv P E nt o s ⟨some d, .lit (.int k (k.wrap (m + n))), []⟩ (lkO x ++ lkO y) [] := r_bin hop hd hlt hx hy (fun w => by simp [eqGuard_add, binOp_add, Op.intArith])
theorem r_sub (hop : o.op = .binOp .sub T x y T') : Okv P E nt o s ⟨some d, .lit (.int k (k.wrap (m - n))), []⟩ (lkO x ++ lkO y) [] := r_bin hop hd hlt hx hy (fun w => by simp [eqGuard_sub, binOp_sub, Op.intArith])
theorem r_mul (hop : o.op = .binOp .mul T x y T') : Okv P E nt o s ⟨some d, .lit (.int k (k.wrap (m * n))), []⟩ (lkO x ++ lkO y) [] := r_bin hop hd hlt hx hy (fun w => by simp [eqGuard_mul, binOp_mul, Op.intArith])
theorem r_quo (hn : n ≠ 0) (hop : o.op = .binOp .quo T x y T') : Okv P E nt o s ⟨some d, .lit (.int k (k.wrap (m.tdiv n))), []⟩ (lkO x ++ lkO y) [] := r_bin hop hd hlt hx hy (fun w => by simp [eqGuard_quo, binOp_quo, Op.intDiv, hn])
theorem r_rem (hn : n ≠ 0) (hop : o.op = .binOp .rem T x y T') : Okv P E nt o s ⟨some d, .lit (.int k (m.tmod n)), []⟩ (lkO x ++ lkO y) [] := r_bin hop hd hlt hx hy (fun w => by simp [eqGuard_rem, binOp_rem, Op.intDiv, hn])
theorem r_and (hop : o.op = .binOp .and T x y T') : Okv P E nt o s ⟨some d, .lit (.int k (bits .and k m n)), []⟩ (lkO x ++ lkO y) [] := r_bin hop hd hlt hx hy (fun w => by simp [eqGuard_and, binOp_and, intBits_and])
theorem r_or (hop : o.op = .binOp .or T x y T') : Okv P E nt o s ⟨some d, .lit (.int k (bits .or k m n)), []⟩ (lkO x ++ lkO y) [] := r_bin hop hd hlt hx hy (fun w => by simp [eqGuard_or, binOp_or, intBits_or])
theorem r_xor (hop : o.op = .binOp .xor T x y T') : Okv P E nt o s ⟨some d, .lit (.int k (bits .xor k m n)), []⟩ (lkO x ++ lkO y) [] := r_bin hop hd hlt hx hy (fun w => by simp [eqGuard_xor, binOp_xor, intBits_xor])
theorem r_eql (hop : o.op = .binOp .eql T x y T') : Okv P E nt o s ⟨some d, .lit (.bool (m == n)), []⟩ (lkO x ++ lkO y) [] := r_bin hop hd hlt hx hy (fun w => by simp [eqGuard_at_int, binOp_eql])
theorem r_neq (hop : o.op = .binOp .neq T x y T') : Okv P E nt o s ⟨some d, .lit (.bool (m != n)), []⟩ (lkO x ++ lkO y) [] := r_bin hop hd hlt hx hy (fun w => by simp [eqGuard_at_int, binOp_neq])
theorem r_lss (hop : o.op = .binOp .lss T x y T') : Okv P E nt o s ⟨some d, .lit (.bool (decide (m < n))), []⟩ (lkO x ++ lkO y) [] := r_bin hop hd hlt hx hy (fun w => by simp [eqGuard_lss, binOp_lss])
theorem r_leq (hop : o.op = .binOp .leq T x y T') : Okv P E nt o s ⟨some d, .lit (.bool (decide (m ≤ n))), []⟩ (lkO x ++ lkO y) [] := r_bin hop hd hlt hx hy (fun w => by simp [eqGuard_leq, binOp_leq])
theorem r_gtr (hop : o.op = .binOp .gtr T x y T') : Okv P E nt o s ⟨some d, .lit (.bool (decide (m > n))), []⟩ (lkO x ++ lkO y) [] := r_bin hop hd hlt hx hy (fun w => by simp [eqGuard_gtr, binOp_gtr])
theorem r_geq (hop : o.op = .binOp .geq T x y T') : Okv P E nt o s ⟨some d, .lit (.bool (decide (m ≥ n))), []⟩ (lkO x ++ lkO y) [] := r_bin hop hd hlt hx hy (fun w => by simp [eqGuard_geq, binOp_geq])
end
section
variable {T T' : TypeId} {x y : Operand} {k k' : IntKind} {m n : Int}
variable (hd : o.dst = some d) (hlt : Nat.blt d nt = true) (hx : opd s x = .lit (.int k m)) (hy : opd s y = .lit (.int k' n)) (hn : 0 ≤ n)
include hd hlt hx hy hn
theorem r_shl (hop : o.op = .binOp .shl T x y T') : Okv P E nt o s ⟨some d, .lit (.int k (k.wrap (m * 2 ^ (min n.toNat k.bits)))), []⟩ (lkO x ++ lkO y) [] := r_bin hop hd hlt hx hy (fun w => by simp [eqGuard_shl, binOp_shl, Op.shift, Int.not_lt.2 hn])
theorem r_shr (hop : o.op = .binOp .shr T x y T') : Okv P E nt o s ⟨some d, .lit (.int k (m.fdiv (2 ^ (min n.toNat k.bits)))), []⟩ (lkO x ++ lkO y) [] := r_bin hop hd hlt hx hy (fun w => by simp [eqGuard_shr, binOp_shr, Op.shift, Int.not_lt.2 hn])
end
section
variable {T T' : TypeId} {x y : Operand} {u v : ByteArray}
variable (hd : o.dst = some d) (hlt : Nat.blt d nt = true) (hx : opd s x = .lit (.string u)) (hy : opd s y = .lit (.string v))
include hd hlt hx hy
theorem r_cat (hop : o.op = .binOp .add T x y T') (hs : u.size + v.size ≤ 9223372036854775807) : Okv P E nt o s ⟨some d, .lit (.string (u ++ v)), []⟩ (lkO x ++ lkO y) [] := r_bin hop hd hlt hx hy (fun w => by
  have h := run_string_add_if (P := P) w u v
  rw [if_neg (by omega)] at h
  rw [eqGuard_at_string]
  simpa [binOp] using h)
theorem r_seq (hop : o.op = .binOp .eql T x y T') : Okv P E nt o s ⟨some d, .lit (.bool (u.toList == v.toList)), []⟩ (lkO x ++ lkO y) [] := r_bin hop hd hlt hx hy (fun w => by rw [eqGuard_at_string]; simp [binOp, Op.stringOp])
theorem r_sne (hop : o.op = .binOp .neq T x y T') : Okv P E nt o s ⟨some d, .lit (.bool (!(u.toList == v.toList))), []⟩ (lkO x ++ lkO y) [] := r_bin hop hd hlt hx hy (fun w => by rw [eqGuard_at_string]; simp [binOp, Op.stringOp])
theorem r_slt (hop : o.op = .binOp .lss T x y T') : Okv P E nt o s ⟨some d, .lit (.bool (Op.bytesLess u.toList v.toList)), []⟩ (lkO x ++ lkO y) [] := r_bin hop hd hlt hx hy (fun w => by rw [eqGuard_at_string]; simp [binOp, Op.stringOp])
end
def boolT (P : Program) (T : TypeId) : Bool := match P.underlying T with
  | some .bool => true
  | _ => false
theorem boolT_of {T : TypeId} (hT : boolT P T = true) : P.underlying T = some .bool := by
  unfold boolT at hT
  revert hT
  cases h : P.underlying T with
  | none => intro h; cases h
  | some t => cases t <;> first | (intro h; cases h; done) | (intro _; rfl)
section
variable {T T' : TypeId} {x y : Operand} {u v : Bool}
variable (hd : o.dst = some d) (hlt : Nat.blt d nt = true) (hx : opd s x = .lit (.bool u)) (hy : opd s y = .lit (.bool v)) (hT : boolT P T = true)
include hd hlt hx hy hT
theorem r_beq (hop : o.op = .binOp .eql T x y T') : Okv P E nt o s ⟨some d, .lit (.bool (u == v)), []⟩ (lkO x ++ lkO y) [] :=
  r_bin hop hd hlt hx hy (fun w => by rw [eqGuard_at_bool, Sem.run_bind, Sem.run_pure, Result.andThen_ok]; exact run_eql_bool w T u v (boolT_of hT))
theorem r_bne (hop : o.op = .binOp .neq T x y T') : Okv P E nt o s ⟨some d, .lit (.bool (!(u == v))), []⟩ (lkO x ++ lkO y) [] :=
  r_bin hop hd hlt hx hy (fun w => by rw [eqGuard_at_bool, Sem.run_bind, Sem.run_pure, Result.andThen_ok]; have h := run_neq_bool (P := P) w T u v (boolT_of hT); rw [h])
end
/-- Structs of known values, compared. -/
theorem r_binA {op : BinOp} {T T' : TypeId} {x y : Operand} {us vs : List Value} {r : Value} (hop : o.op = .binOp op T x y T') (hd : o.dst = some d) (hlt : Nat.blt d nt = true) (hx : opd s x = .agg (us.map .lit)) (hy : opd s y = .agg (vs.map .lit))
    (hr : ∀ w, (do eqGuard op T x y (.agg us.toArray) (.agg vs.toArray); binOp op T (.agg us.toArray) (.agg vs.toArray) : Sem Value).run P w = .ok r w) : Okv P E nt o s ⟨some d, .lit r, []⟩ (lkO x ++ lkO y) [] :=
  okv_val hd hlt fun tm bk ρ Zn a w hag hs => by
    have key : ∀ {us : List Value} {u : Value}, RepT (fz E Zn) w ρ bk (.agg (us.map .lit)) u → u = .agg us.toArray := by
      intro us u h
      obtain ⟨cs, rfl, h2⟩ := rep_agg h
      congr 2
      apply List.ext_getElem?
      intro i
      have h3 := Fa.map_left.1 h2
      by_cases hi : i < us.length
      · obtain ⟨v, hv, hr⟩ := h3.get (List.getElem?_eq_getElem hi)
        rw [hv, List.getElem?_eq_getElem hi]
        exact congrArg some (rep_lit (rep_of_C hr))
      · rw [List.getElem?_eq_none (by rw [← h3.1]; omega), List.getElem?_eq_none (by omega)]
    have h1 := St.opd (s := s) hs x (fun t ht => hag.1 t (List.mem_append_left _ ht))
    have h2 := St.opd (s := s) hs y (fun t ht => hag.1 t (List.mem_append_right _ ht))
    rw [hx] at h1
    rw [hy] at h2
    refine ⟨r, ?_, .inr (.inl rfl)⟩
    have := hr w
    unfold execOp
    simp only [hop, key h1, key h2]
    rw [Sem.run_bind, this]; rfl
theorem r_not {T : TypeId} {x : Operand} {u : Bool} (hop : o.op = .unOp .not T x) (hd : o.dst = some d) (hlt : Nat.blt d nt = true) (hx : opd s x = .lit (.bool u)) : Okv P E nt o s ⟨some d, .lit (.bool (!u)), []⟩ (lkO x) [] := by
  have := okv_lit (P := P) (E := E) (s := s) (l := [(x, .bool u)]) (v := .bool (!u)) hd hlt (by simp [hx]) (fun ρ w h => by
    have h1 := h (x, .bool u) (by simp)
    simp only at h1
    simp [execOp, hop, h1, Op.unary])
  simpa using this
theorem r_neg {T : TypeId} {x : Operand} {k : IntKind} {n : Int} (hop : o.op = .unOp .neg T x) (hd : o.dst = some d) (hlt : Nat.blt d nt = true) (hx : opd s x = .lit (.int k n)) : Okv P E nt o s ⟨some d, .lit (.int k (k.wrap (0 - n))), []⟩ (lkO x) [] := by
  have := okv_lit (P := P) (E := E) (s := s) (l := [(x, .int k n)]) (v := .int k (k.wrap (0 - n))) hd hlt (by simp [hx]) (fun ρ w h => by
    have h1 := h (x, .int k n) (by simp)
    simp only at h1
    simp [execOp, hop, h1, Op.unary, Op.intArith])
  simpa using this
def intT (P : Program) (src dst : TypeId) (k : IntKind) : Bool := (P.underlying src).isSome && (match P.underlying dst with
  | some (.int k') => decide (k' = k)
  | _ => false)
theorem r_conv {src dst : TypeId} {x : Operand} {k k' : IntKind} {n : Int} (hop : o.op = .convert src dst x) (hd : o.dst = some d) (hlt : Nat.blt d nt = true) (hx : opd s x = .lit (.int k n)) (hT : intT P src dst k' = true) : Okv P E nt o s ⟨some d, .lit (.int k' (k'.wrap n)), []⟩ (lkO x) [] := by
  unfold intT at hT
  rw [Bool.and_eq_true] at hT
  obtain ⟨h1, h2⟩ := hT
  have hk : P.underlying dst = some (.int k') := by
    revert h2
    cases h : P.underlying dst with
    | none => intro h; cases h
    | some t => cases t <;> first | (intro h; cases h; done) | (intro h; simp at h; rw [h])
  obtain ⟨ds, hs⟩ := Option.isSome_iff_exists.1 h1
  have := okv_lit (P := P) (E := E) (s := s) (l := [(x, .int k n)]) (v := .int k' (k'.wrap n)) hd hlt (by simp [hx]) (fun ρ w h => by
    have h1 := h (x, .int k n) (by simp)
    simp only at h1
    simp [execOp, hop, h1, convert, run_underlying hs, run_underlying hk, Conv.intToInt])
  simpa using this
/-- A tuple's component; a struct's field by value. -/
theorem r_ext {x : Operand} {i : Nat} {l : List AV} {y : AV} (hop : o.op = .extract x i) (hd : o.dst = some d) (hlt : Nat.blt d nt = true) (hx : opd s x = .tup l) (hy : l[i]? = some y) : Okv P E nt o s ⟨some d, y, []⟩ (lkO x) [] :=
  okv_val hd hlt fun tm bk ρ Zn a w hag hs => by
    have := St.opd (s := s) hs x hag.1
    rw [hx] at this
    obtain ⟨cs, h1, h2⟩ := rep_tup this
    obtain ⟨v, hv, hr⟩ := h2.get hy
    refine ⟨v, ?_, rep_of_A hr⟩
    simp [execOp, hop, h1, Instr.extract, hv]
theorem r_fld {T : TypeId} {x : Operand} {f off ft : Nat} {l : List AV} {y : AV} (hop : o.op = .field T x f) (hd : o.dst = some d) (hlt : Nat.blt d nt = true) (hx : opd s x = .agg l) (hT : fieldT P T f off = true) (hS : (match P.underlying T with | some (.struct fs) => (match fs[f]? with | some fd => scalarT P fd.type | none => false) | _ => false) = true) (hy : l[off]? = some y) : Okv P E nt o s ⟨some d, y, []⟩ (lkO x) [] :=
  okv_val hd hlt fun tm bk ρ Zn a w hag hs => by
    have := St.opd (s := s) hs x hag.1
    rw [hx] at this
    obtain ⟨cs, h1, h2⟩ := rep_agg this
    obtain ⟨v, hv, hr⟩ := h2.get hy
    refine ⟨v, ?_, rep_of_C hr⟩
    unfold fieldT at hT
    cases hu : P.underlying T with
    | none => rw [hu] at hT; cases hT
    | some t =>
      cases t with
      | struct fs =>
        rw [hu] at hT hS
        cases hf : fs[f]? with
        | none => simp only [hf] at hT; cases hT
        | some fd =>
          simp only [hf, Bool.and_eq_true] at hT hS
          have ho := beq_t hT.1
          simp [execOp, hop, h1, Instr.field, run_underlying hu, hf, asAgg, part, scalar_run hS, ho, hv]
      | _ => rw [hu] at hT; cases hT
/-! Pointers. -/
theorem fieldAt_run {T f off : Nat} (hT : fieldT P T f off = true) (ad : Addr) (w : World) : (Instr.fieldAt T (.pointer (some ad)) f).run P w = .ok (.pointer (some (ad.add off))) w := by
  unfold fieldT at hT
  cases hu : P.underlying T with
  | none => rw [hu] at hT; cases hT
  | some t =>
    cases t with
    | struct fs =>
      rw [hu] at hT
      cases hf : fs[f]? with
      | none => simp only [hf] at hT; cases hT
      | some fd =>
        simp only [hf, Bool.and_eq_true] at hT
        have ho := beq_t hT.1
        cases hi : P.info? fd.type with
        | none => rw [hi] at hT; cases hT.2
        | some i =>
          rw [hi] at hT
          have hne : ¬ i.size = 0 := by have := Nat.blt_eq ▸ hT.2; omega
          simp [Instr.fieldAt, run_underlying hu, hf, Instr.sureAddr, fieldPlace, sizeOf, typeInfo, hi, hne, ho]
    | _ => rw [hu] at hT; cases hT
/-- A pointer moved on by some cells. -/
def ptrAdd (n : Nat) : AV → AV
  | .box b o => .box b (o + n)
  | .elp b sz i j => .elp b sz i (j + n)
  | .rp z x j => .rp z x (j + n)
  | _ => .junk
def isPtr : AV → Bool
  | .box .. | .elp .. | .rp .. => true
  | _ => false
theorem ptrAdd_ok {Zf : Fl → Nat → Prop} {w : World} {ρ : Nat → Value} {bk : Nat → Blk} {x : AV} {u : Value} (hx : isPtr x = true) (h : RepT Zf w ρ bk x u) (n : Nat) : ∃ ad, u = .pointer (some ad) ∧ RepT Zf w ρ bk (ptrAdd n x) (.pointer (some (ad.add n))) := by
  cases x with
  | box b o =>
    obtain ⟨h1, g, h2, rfl⟩ := rep_C00 h rfl
    refine ⟨_, rfl, rep_of_C (.inl ⟨h1, g, h2, ?_⟩)⟩
    rw [add_lit']
  | elp b sz i j =>
    obtain ⟨h1, g, m, c, h2, rfl⟩ := rep_C00 h rfl
    refine ⟨_, rfl, rep_of_C (.inl ⟨h1, g, m, c, h2, ?_⟩)⟩
    rw [add_lit', Nat.add_assoc]
  | rp z x j =>
    obtain ⟨ad, f, rfl, h2, h3⟩ := rep_C00 h rfl
    refine ⟨_, rfl, rep_of_C (.inl ⟨ad, f, ?_, h2, h3⟩)⟩
    rw [add_add]
  | _ => cases hx
theorem r_fa {T f off : Nat} {x : Operand} {p q : AV} (hop : o.op = .fieldAddr T x f) (hd : o.dst = some d) (hlt : Nat.blt d nt = true) (hx : opd s x = p) (hp : isPtr p = true) (hT : fieldT P T f off = true) (hq : ptrAdd off p = q) : Okv P E nt o s ⟨some d, q, []⟩ (lkO x) [] :=
  okv_val hd hlt fun tm bk ρ Zn a w hag hs => by
    have := St.opd (s := s) hs x hag.1
    rw [hx] at this
    obtain ⟨ad, h1, h2⟩ := ptrAdd_ok hp this off
    refine ⟨_, ?_, hq ▸ h2⟩
    simp [execOp, hop, h1, fieldAt_run hT]
theorem r_nil {x : Operand} {p : AV} (hop : o.op = .nilCheck x) (hd : o.dst = some d) (hlt : Nat.blt d nt = true) (hx : opd s x = p) (hp : isPtr p = true) : Okv P E nt o s ⟨some d, p, []⟩ (lkO x) [] :=
  okv_val hd hlt fun tm bk ρ Zn a w hag hs => by
    have := St.opd (s := s) hs x hag.1
    rw [hx] at this
    obtain ⟨ad, h1, h2⟩ := ptrAdd_ok hp this 0
    refine ⟨a.eval x, ?_, this⟩
    simp [execOp, hop, h1]
/-! Reading. -/
theorem r_ld {T : Nat} {x : Operand} {p y : AV} {tl : List Nat} (hop : o.op = .load T x) (hd : o.dst = some d) (hlt : Nat.blt d nt = true) (hx : opd s x = p) (hl : Ld P s T p y tl) : Okv P E nt o s ⟨some d, y, []⟩ (lkO x) tl :=
  okv_val hd hlt fun tm bk ρ Zn a w hag hs => by
    have := St.opd (s := s) hs x hag.1
    rw [hx] at this
    obtain ⟨ad, v, h1, h2, h3⟩ := hl.ok hs hag.2 this
    refine ⟨v, ?_, h3⟩
    simp [execOp, hop, h1, Instr.loadAt, Instr.sureAddr, h2]
/-! Indexing. -/
theorem indexAt_run {T e sz : Nat} (hT : sliceT P T e sz = true) {A : Option Addr} {n c : Nat} {k : IntKind} {i : Int} (h0 : 0 ≤ i) (h1 : i < n) {ad : Addr} (hA : A = some ad) (w : World) : (Instr.indexAt T (.slice A n c) (.int k i)).run P w = .ok (.pointer (some (ad.add (i.toNat * sz)))) w := by
  unfold sliceT at hT
  cases hu : P.underlying T with
  | none => rw [hu] at hT; cases hT
  | some t =>
    cases t with
    | slice e' =>
      rw [hu] at hT
      simp only [Bool.and_eq_true] at hT
      have he := beq_t hT.1
      subst he
      have hs := size_run hT.2 w
      subst hA
      simp [Instr.indexAt, run_underlying hu, asIntOf, h0, h1, hs]
    | _ => rw [hu] at hT; cases hT
theorem r_ixS {T e sz sz' : Nat} {x y : Operand} {z : Fl} {xs : List AV} {k : IntKind} {i : Int} {v : AV} (hop : o.op = .indexAddr T x y) (hd : o.dst = some d) (hlt : Nat.blt d nt = true) (hx : opd s x = .sl z sz xs) (hy : opd s y = .lit (.int k i)) (h0 : 0 ≤ i) (hv : xs[i.toNat]? = some v) (hT : sliceT P T e sz' = true) (hz : Nat.beq sz' sz = true) : Okv P E nt o s ⟨some d, .rp z v 0, []⟩ (lkO x ++ lkO y) [] :=
  okv_val hd hlt fun tm bk ρ Zn a w hag hs => by
    have hz := beq_t hz
    subst hz
    have h1 := St.opd (s := s) hs x (fun t ht => hag.1 t (List.mem_append_left _ ht))
    have h2 := St.opd (s := s) hs y (fun t ht => hag.1 t (List.mem_append_right _ ht))
    rw [hx] at h1
    rw [hy] at h2
    have h2 := rep_lit h2
    have h3 : RepV (fz E Zn z) w (.sl z sz' xs) (a.eval x) := rep_C00 h1 rfl
    have hi := (List.getElem?_eq_some_iff.1 hv).1
    obtain ⟨ux, hux⟩ : ∃ u, a.eval x = u := ⟨_, rfl⟩
    rw [hux] at h3
    cases h3 with
    | @sl _ _ _ A c ad f hc hm hz' hA hl hcell hrep =>
      have hA' := hA (by omega)
      refine ⟨_, ?_, rep_of_C (.inl ⟨ad.add (i.toNat * sz'), f i.toNat, rfl, by rw [add_block]; exact hA'.2, fun j lv hj => ⟨?_, hrep _ _ _ _ hv hj⟩⟩)⟩
      · unfold execOp
        simp only [hop]
        rw [Sem.run_bind, h2]
        rw [hux, indexAt_run hT h0 (by omega) hA'.1, add_add]
        rfl
      · rw [add_add]; exact hcell _ _ _ _ hv hj
end
end Go.Proofs.YtahmbcgolnplgaaDoorA
