import Derived.Test.YtahmbcgolnplgaaGreatA1
import Derived.IntWalk
import Derived.Laws.Concat
import Derived.Laws.Small
import Derived.Laws.StructEq
import Derived.Laws.Slices
import Derived.Laws.DeepStrings4
import Derived.Laws.BytesString
import Derived.Laws.IdiomStrings
import Derived.Laws.OwnMore
import Derived.Laws.MakeOwn
import Derived.Maps.AppendAt
import Derived.Laws.Wrap64
import Derived.RowKit
import Derived.Deep.Slices
import Derived.WideShapes
import Derived.ChangeArms
import Derived.Carry
import Derived.Below
set_option linter.unusedVariables false
set_option linter.unusedSimpArgs false
namespace Go.Proofs.YtahmbcgolnplgaaGreatA
open Go
section
variable {P : Program} {E : C5} {nt : Nat} {s : S} {o : Oper} {d : Nat}
theorem R4 {x : AV} {lk tl : List Nat} (hd : o.dst = some d) (hlt : Nat.blt d nt = true)
 (h : ∀ tm bk ρ Zn a w,aq1 s lk tl tm bk→St E nt ρ Zn tm bk a w→∃ v,(execOp a.eval o).run P w = .ok (.value v) w∧G9 (fz E Zn) w ρ bk x v) : s8 P E nt o s ⟨some d,x,[]⟩ lk tl:=by
 intro tm bk hag a w ⟨ρ,Zn,hs⟩
 obtain ⟨v,h1,h2⟩:=h tm bk ρ Zn a w hag hs
 refine ⟨_,v,w,h1,.inl rfl,ρ,Zn,?_⟩
 rw [hd,ba8]
 exact hs.put hlt h2
theorem al9 {v : Value} {l : List (Operand×Value)} (hd : o.dst = some d) (hlt : Nat.blt d nt = true) (hl : ∀ p ∈ l,opd s p.1 = .lit p.2)
 (h : ∀ (ρ : Operand→Value) (w : World),(∀ p ∈ l,ρ p.1 = p.2)→(execOp ρ o).run P w = .ok (.value v) w) : s8 P E nt o s ⟨some d,.lit v,[]⟩ (l.flatMap (fun p=>l8 p.1)) []:=
 R4 hd hlt fun tm bk ρ Zn a w hag hs=>⟨v,h a.eval w (fun p hp=>by
  have:=St.opd (s:=s) hs p.1 (fun t ht=>hag.1 t (List.mem_flatMap.2 ⟨p,hp,ht⟩))
  rw [hl p hp] at this
  exact N1 this),.inr (.inl rfl)⟩
theorem cb7 {x : Operand} (hop : o.op = .move x) (hd : o.dst = some d) (hlt : Nat.blt d nt = true) : s8 P E nt o s ⟨some d,opd s x,[]⟩ (l8 x) []:=
 R4 hd hlt fun tm bk ρ Zn a w hag hs=>⟨a.eval x,by simp [execOp,hop],St.opd hs x hag.1⟩
theorem cd6 {x : Operand} (hop : o.op = .assign x) (hd : o.dst = some d) (hlt : Nat.blt d nt = true) : s8 P E nt o s ⟨some d,opd s x,[]⟩ (l8 x) []:=
 R4 hd hlt fun tm bk ρ Zn a w hag hs=>⟨a.eval x,by simp [execOp,hop],St.opd hs x hag.1⟩
theorem bS3 {c x y : Operand} {t : Bool} (hop : o.op = .pick c x y) (hd : o.dst = some d) (hlt : Nat.blt d nt = true) (hc : opd s c = .lit (.bool t)) (ht : t = true) : s8 P E nt o s ⟨some d,opd s x,[]⟩ (l8 c ++ l8 x) []:=
 R4 hd hlt fun tm bk ρ Zn a w hag hs=>⟨a.eval x,by
  have:=St.opd (s:=s) hs c (fun t ht=>hag.1 t (List.mem_append_left _ ht))
  rw [hc] at this
  have h1:=N1 this
  subst ht
  simp [execOp,hop,h1,asBool],St.opd hs x (fun t ht=>hag.1 t (List.mem_append_right _ ht))⟩
theorem bO9 {c x y : Operand} {t : Bool} (hop : o.op = .pick c x y) (hd : o.dst = some d) (hlt : Nat.blt d nt = true) (hc : opd s c = .lit (.bool t)) (ht : t = false) : s8 P E nt o s ⟨some d,opd s y,[]⟩ (l8 c ++ l8 y) []:=
 R4 hd hlt fun tm bk ρ Zn a w hag hs=>⟨a.eval y,by
  have:=St.opd (s:=s) hs c (fun t ht=>hag.1 t (List.mem_append_left _ ht))
  rw [hc] at this
  have h1:=N1 this
  subst ht
  simp [execOp,hop,h1,asBool],St.opd hs y (fun t ht=>hag.1 t (List.mem_append_right _ ht))⟩
theorem W3 {op : BinOp} {T T' : TypeId} {x y : Operand} {u v r : Value} (hop : o.op = .binOp op T x y T') (hd : o.dst = some d) (hlt : Nat.blt d nt = true) (hx : opd s x = .lit u) (hy : opd s y = .lit v)
 (hr : ∀ w,(do eqGuard op T x y u v;binOp op T u v : Sem Value).run P w = .ok r w) : s8 P E nt o s ⟨some d,.lit r,[]⟩ (l8 x ++ l8 y) []:=by
 have:=al9 (P:=P) (E:=E) (s:=s) (l:=[(x,u),(y,v)]) (v:=r) hd hlt (by simp [hx,hy]) (fun ρ w h=>by
  have h1:=h (x,u) (by simp)
  have h2:=h (y,v) (by simp)
  simp only at h1 h2
  have:=hr w
  unfold execOp
  simp only [hop,h1,h2]
  rw [Sem.run_bind,this];rfl)
 simpa using this
section
variable {T T' : TypeId} {x y : Operand} {k : IntKind} {m n : Int}
variable (hd : o.dst = some d) (hlt : Nat.blt d nt = true) (hx : opd s x = .lit (.int k m)) (hy : opd s y = .lit (.int k n))
include hd hlt hx hy
theorem bO6 (hop : o.op = .binOp .add T x y T') : s8 P E nt o s ⟨some d,.lit (.int k (k.wrap (m + n))),[]⟩ (l8 x ++ l8 y) []:=W3 hop hd hlt hx hy (fun w=>by simp [eqGuard_add,binOp_add,Op.intArith])
theorem bN8 (hop : o.op = .binOp .sub T x y T') : s8 P E nt o s ⟨some d,.lit (.int k (k.wrap (m - n))),[]⟩ (l8 x ++ l8 y) []:=W3 hop hd hlt hx hy (fun w=>by simp [eqGuard_sub,binOp_sub,Op.intArith])
theorem bO2 (hop : o.op = .binOp .mul T x y T') : s8 P E nt o s ⟨some d,.lit (.int k (k.wrap (m * n))),[]⟩ (l8 x ++ l8 y) []:=W3 hop hd hlt hx hy (fun w=>by simp [eqGuard_mul,binOp_mul,Op.intArith])
theorem bN3 (hn : n≠0) (hop : o.op = .binOp .quo T x y T') : s8 P E nt o s ⟨some d,.lit (.int k (k.wrap (m.tdiv n))),[]⟩ (l8 x ++ l8 y) []:=W3 hop hd hlt hx hy (fun w=>by simp [eqGuard_quo,binOp_quo,Op.intDiv,hn])
theorem ca7 (hn : n≠0) (hop : o.op = .binOp .rem T x y T') : s8 P E nt o s ⟨some d,.lit (.int k (m.tmod n)),[]⟩ (l8 x ++ l8 y) []:=W3 hop hd hlt hx hy (fun w=>by simp [eqGuard_rem,binOp_rem,Op.intDiv,hn])
theorem bZ9 (hop : o.op = .binOp .and T x y T') : s8 P E nt o s ⟨some d,.lit (.int k (bits .and k m n)),[]⟩ (l8 x ++ l8 y) []:=W3 hop hd hlt hx hy (fun w=>by simp [eqGuard_and,binOp_and,intBits_and])
theorem cg2 (hop : o.op = .binOp .or T x y T') : s8 P E nt o s ⟨some d,.lit (.int k (bits .or k m n)),[]⟩ (l8 x ++ l8 y) []:=W3 hop hd hlt hx hy (fun w=>by simp [eqGuard_or,binOp_or,intBits_or])
theorem bY0 (hop : o.op = .binOp .xor T x y T') : s8 P E nt o s ⟨some d,.lit (.int k (bits .xor k m n)),[]⟩ (l8 x ++ l8 y) []:=W3 hop hd hlt hx hy (fun w=>by simp [eqGuard_xor,binOp_xor,intBits_xor])
theorem ca3 (hop : o.op = .binOp .eql T x y T') : s8 P E nt o s ⟨some d,.lit (.bool (m == n)),[]⟩ (l8 x ++ l8 y) []:=W3 hop hd hlt hx hy (fun w=>by simp [eqGuard_at_int,binOp_eql])
theorem bZ1 (hop : o.op = .binOp .neq T x y T') : s8 P E nt o s ⟨some d,.lit (.bool (m != n)),[]⟩ (l8 x ++ l8 y) []:=W3 hop hd hlt hx hy (fun w=>by simp [eqGuard_at_int,binOp_neq])
theorem ca9 (hop : o.op = .binOp .lss T x y T') : s8 P E nt o s ⟨some d,.lit (.bool (decide (m < n))),[]⟩ (l8 x ++ l8 y) []:=W3 hop hd hlt hx hy (fun w=>by simp [eqGuard_lss,binOp_lss])
theorem ca5 (hop : o.op = .binOp .leq T x y T') : s8 P E nt o s ⟨some d,.lit (.bool (decide (m≤n))),[]⟩ (l8 x ++ l8 y) []:=W3 hop hd hlt hx hy (fun w=>by simp [eqGuard_leq,binOp_leq])
theorem ca6 (hop : o.op = .binOp .gtr T x y T') : s8 P E nt o s ⟨some d,.lit (.bool (decide (m > n))),[]⟩ (l8 x ++ l8 y) []:=W3 hop hd hlt hx hy (fun w=>by simp [eqGuard_gtr,binOp_gtr])
theorem bY4 (hop : o.op = .binOp .geq T x y T') : s8 P E nt o s ⟨some d,.lit (.bool (decide (m ≥ n))),[]⟩ (l8 x ++ l8 y) []:=W3 hop hd hlt hx hy (fun w=>by simp [eqGuard_geq,binOp_geq])
end
section
variable {T T' : TypeId} {x y : Operand} {k k' : IntKind} {m n : Int}
variable (hd : o.dst = some d) (hlt : Nat.blt d nt = true) (hx : opd s x = .lit (.int k m)) (hy : opd s y = .lit (.int k' n)) (hn : 0≤n)
include hd hlt hx hy hn
theorem bN7 (hop : o.op = .binOp .shl T x y T') : s8 P E nt o s ⟨some d,.lit (.int k (k.wrap (m * 2 ^ (min n.toNat k.bits)))),[]⟩ (l8 x ++ l8 y) []:=W3 hop hd hlt hx hy (fun w=>by simp [eqGuard_shl,binOp_shl,Op.shift,Int.not_lt.2 hn])
theorem bY9 (hop : o.op = .binOp .shr T x y T') : s8 P E nt o s ⟨some d,.lit (.int k (m.fdiv (2 ^ (min n.toNat k.bits)))),[]⟩ (l8 x ++ l8 y) []:=W3 hop hd hlt hx hy (fun w=>by simp [eqGuard_shr,binOp_shr,Op.shift,Int.not_lt.2 hn])
end
section
variable {T T' : TypeId} {x y : Operand} {u v : ByteArray}
variable (hd : o.dst = some d) (hlt : Nat.blt d nt = true) (hx : opd s x = .lit (.string u)) (hy : opd s y = .lit (.string v))
include hd hlt hx hy
theorem bY6 (hop : o.op = .binOp .add T x y T') (hs : u.size + v.size≤9223372036854775807) : s8 P E nt o s ⟨some d,.lit (.string (u ++ v)),[]⟩ (l8 x ++ l8 y) []:=W3 hop hd hlt hx hy (fun w=>by
 have h:=run_string_add_if (P:=P) w u v
 rw [if_neg (by omega)] at h
 rw [eqGuard_at_string]
 simpa [binOp] using h)
theorem bY2 (hop : o.op = .binOp .eql T x y T') : s8 P E nt o s ⟨some d,.lit (.bool (u.toList == v.toList)),[]⟩ (l8 x ++ l8 y) []:=W3 hop hd hlt hx hy (fun w=>by rw [eqGuard_at_string];simp [binOp,Op.stringOp])
theorem cb3 (hop : o.op = .binOp .neq T x y T') : s8 P E nt o s ⟨some d,.lit (.bool (!(u.toList == v.toList))),[]⟩ (l8 x ++ l8 y) []:=W3 hop hd hlt hx hy (fun w=>by rw [eqGuard_at_string];simp [binOp,Op.stringOp])
theorem cb0 (hop : o.op = .binOp .lss T x y T') : s8 P E nt o s ⟨some d,.lit (.bool (Op.bytesLess u.toList v.toList)),[]⟩ (l8 x ++ l8 y) []:=W3 hop hd hlt hx hy (fun w=>by rw [eqGuard_at_string];simp [binOp,Op.stringOp])
end
def bg5 (P : Program) (T : TypeId) : Bool:=match P.underlying T with
 | some .bool=>true
 | _=>false
theorem bK0 {T : TypeId} (hT : bg5 P T = true) : P.underlying T = some .bool:=by
 unfold bg5 at hT
 revert hT
 cases h : P.underlying T with
 | none=>intro h;cases h
 | some t=>cases t <;> first | (intro h;cases h;done) | (intro _;rfl)
section
variable {T T' : TypeId} {x y : Operand} {u v : Bool}
variable (hd : o.dst = some d) (hlt : Nat.blt d nt = true) (hx : opd s x = .lit (.bool u)) (hy : opd s y = .lit (.bool v)) (hT : bg5 P T = true)
include hd hlt hx hy hT
theorem bZ7 (hop : o.op = .binOp .eql T x y T') : s8 P E nt o s ⟨some d,.lit (.bool (u == v)),[]⟩ (l8 x ++ l8 y) []:=
 W3 hop hd hlt hx hy (fun w=>by rw [eqGuard_at_bool,Sem.run_bind,Sem.run_pure,Result.andThen_ok];exact run_eql_bool w T u v (bK0 hT))
end
theorem bV2 {op : BinOp} {T T' : TypeId} {x y : Operand} {us vs : List Value} {r : Value} (hop : o.op = .binOp op T x y T') (hd : o.dst = some d) (hlt : Nat.blt d nt = true) (hx : opd s x = .agg (us.map .lit)) (hy : opd s y = .agg (vs.map .lit))
 (hr : ∀ w,(do eqGuard op T x y (.agg us.toArray) (.agg vs.toArray);binOp op T (.agg us.toArray) (.agg vs.toArray) : Sem Value).run P w = .ok r w) : s8 P E nt o s ⟨some d,.lit r,[]⟩ (l8 x ++ l8 y) []:=
 R4 hd hlt fun tm bk ρ Zn a w hag hs=>by
  have key : ∀ {us : List Value} {u : Value},G9 (fz E Zn) w ρ bk (.agg (us.map .lit)) u→u = .agg us.toArray:=by
   intro us u h
   obtain ⟨cs,rfl,h2⟩:=bu5 h
   congr 2
   apply List.ext_getElem?
   intro i
   have h3:=Fa.map_left.1 h2
   by_cases hi : i < us.length
   ·obtain ⟨v,hv,hr⟩:=h3.get (List.getElem?_eq_getElem hi)
    rw [hv,List.getElem?_eq_getElem hi]
    exact congrArg some (N1 (O5 hr))
   ·rw [List.getElem?_eq_none (by rw [← h3.1];omega),List.getElem?_eq_none (by omega)]
  have h1:=St.opd (s:=s) hs x (fun t ht=>hag.1 t (List.mem_append_left _ ht))
  have h2:=St.opd (s:=s) hs y (fun t ht=>hag.1 t (List.mem_append_right _ ht))
  rw [hx] at h1
  rw [hy] at h2
  refine ⟨r,?_,.inr (.inl rfl)⟩
  have:=hr w
  unfold execOp
  simp only [hop,key h1,key h2]
  rw [Sem.run_bind,this];rfl
theorem bX7 {T : TypeId} {x : Operand} {u : Bool} (hop : o.op = .unOp .not T x) (hd : o.dst = some d) (hlt : Nat.blt d nt = true) (hx : opd s x = .lit (.bool u)) : s8 P E nt o s ⟨some d,.lit (.bool (!u)),[]⟩ (l8 x) []:=by
 have:=al9 (P:=P) (E:=E) (s:=s) (l:=[(x,.bool u)]) (v:=.bool (!u)) hd hlt (by simp [hx]) (fun ρ w h=>by
  have h1:=h (x,.bool u) (by simp)
  simp only at h1
  simp [execOp,hop,h1,Op.unary])
 simpa using this
theorem bN9 {T : TypeId} {x : Operand} {k : IntKind} {n : Int} (hop : o.op = .unOp .neg T x) (hd : o.dst = some d) (hlt : Nat.blt d nt = true) (hx : opd s x = .lit (.int k n)) : s8 P E nt o s ⟨some d,.lit (.int k (k.wrap (0 - n))),[]⟩ (l8 x) []:=by
 have:=al9 (P:=P) (E:=E) (s:=s) (l:=[(x,.int k n)]) (v:=.int k (k.wrap (0 - n))) hd hlt (by simp [hx]) (fun ρ w h=>by
  have h1:=h (x,.int k n) (by simp)
  simp only at h1
  simp [execOp,hop,h1,Op.unary,Op.intArith])
 simpa using this
def bk5 (P : Program) (src dst : TypeId) (k : IntKind) : Bool:=(P.underlying src).isSome && (match P.underlying dst with
 | some (.int k')=>decide (k' = k)
 | _=>false)
theorem bE2 {src dst : TypeId} {x : Operand} {k k' : IntKind} {n : Int} (hop : o.op = .convert src dst x) (hd : o.dst = some d) (hlt : Nat.blt d nt = true) (hx : opd s x = .lit (.int k n)) (hT : bk5 P src dst k' = true) : s8 P E nt o s ⟨some d,.lit (.int k' (k'.wrap n)),[]⟩ (l8 x) []:=by
 unfold bk5 at hT
 rw [Bool.and_eq_true] at hT
 obtain ⟨h1,h2⟩:=hT
 have hk : P.underlying dst = some (.int k'):=by
  revert h2
  cases h : P.underlying dst with
  | none=>intro h;cases h
  | some t=>cases t <;> first | (intro h;cases h;done) | (intro h;simp at h;rw [h])
 obtain ⟨ds,hs⟩:=Option.isSome_iff_exists.1 h1
 have:=al9 (P:=P) (E:=E) (s:=s) (l:=[(x,.int k n)]) (v:=.int k' (k'.wrap n)) hd hlt (by simp [hx]) (fun ρ w h=>by
  have h1:=h (x,.int k n) (by simp)
  simp only at h1
  simp [execOp,hop,h1,convert,run_underlying hs,run_underlying hk,Conv.intToInt])
 simpa using this
theorem ca8 {x : Operand} {i : Nat} {l : List AV} {y : AV} (hop : o.op = .extract x i) (hd : o.dst = some d) (hlt : Nat.blt d nt = true) (hx : opd s x = .tup l) (hy : l[i]? = some y) : s8 P E nt o s ⟨some d,y,[]⟩ (l8 x) []:=
 R4 hd hlt fun tm bk ρ Zn a w hag hs=>by
  have:=St.opd (s:=s) hs x hag.1
  rw [hx] at this
  obtain ⟨cs,h1,h2⟩:=br9 this
  obtain ⟨v,hv,hr⟩:=h2.get hy
  refine ⟨v,?_,bI5 hr⟩
  simp [execOp,hop,h1,Instr.extract,hv]
theorem bq1 {T f off : Nat} (hT : an1 P T f off = true) (ad : Addr) (w : World) : (Instr.fieldAt T (.pointer (some ad)) f).run P w = .ok (.pointer (some (ad.add off))) w:=by
 unfold an1 at hT
 cases hu : P.underlying T with
 | none=>rw [hu] at hT;cases hT
 | some t=>
  cases t with
  | struct fs=>
   rw [hu] at hT
   cases hf : fs[f]? with
   | none=>simp only [hf] at hT;cases hT
   | some fd=>
    simp only [hf,Bool.and_eq_true] at hT
    have ho:=D6 hT.1
    cases hi : P.info? fd.type with
    | none=>rw [hi] at hT;cases hT.2
    | some i=>
     rw [hi] at hT
     have hne : ¬ i.size = 0:=by have:=Nat.blt_eq▸hT.2;omega
     simp [Instr.fieldAt,run_underlying hu,hf,Instr.sureAddr,fieldPlace,sizeOf,typeInfo,hi,hne,ho]
  | _=>rw [hu] at hT;cases hT
def bC6 (n : Nat) : AV→AV
 | .box b o=>.box b (o + n)
 | .elp b sz i j=>.elp b sz i (j + n)
 | .rp z x j=>.rp z x (j + n)
 | _=>.junk
def bx8 : AV→Bool
 | .box .. | .elp .. | .rp ..=>true
 | _=>false
theorem bb3 {Zf : Fl→Nat→Prop} {w : World} {ρ : Nat→Value} {bk : Nat→l9} {x : AV} {u : Value} (hx : bx8 x = true) (h : G9 Zf w ρ bk x u) (n : Nat) : ∃ ad,u = .pointer (some ad)∧G9 Zf w ρ bk (bC6 n x) (.pointer (some (ad.add n))):=by
 cases x with
 | box b o=>
  obtain ⟨h1,g,h2,rfl⟩:=L0 h rfl
  refine ⟨_,rfl,O5 (.inl ⟨h1,g,h2,?_⟩)⟩
  rw [aw3]
 | elp b sz i j=>
  obtain ⟨h1,g,m,c,h2,rfl⟩:=L0 h rfl
  refine ⟨_,rfl,O5 (.inl ⟨h1,g,m,c,h2,?_⟩)⟩
  rw [aw3,Nat.add_assoc]
 | rp z x j=>
  obtain ⟨ad,f,rfl,h2,h3⟩:=L0 h rfl
  refine ⟨_,rfl,O5 (.inl ⟨ad,f,?_,h2,h3⟩)⟩
  rw [add_add]
 | _=>cases hx
theorem bI9 {T f off : Nat} {x : Operand} {p q : AV} (hop : o.op = .fieldAddr T x f) (hd : o.dst = some d) (hlt : Nat.blt d nt = true) (hx : opd s x = p) (hp : bx8 p = true) (hT : an1 P T f off = true) (hq : bC6 off p = q) : s8 P E nt o s ⟨some d,q,[]⟩ (l8 x) []:=
 R4 hd hlt fun tm bk ρ Zn a w hag hs=>by
  have:=St.opd (s:=s) hs x hag.1
  rw [hx] at this
  obtain ⟨ad,h1,h2⟩:=bb3 hp this off
  refine ⟨_,?_,hq▸h2⟩
  simp [execOp,hop,h1,bq1 hT]
theorem bY8 {x : Operand} {p : AV} (hop : o.op = .nilCheck x) (hd : o.dst = some d) (hlt : Nat.blt d nt = true) (hx : opd s x = p) (hp : bx8 p = true) : s8 P E nt o s ⟨some d,p,[]⟩ (l8 x) []:=
 R4 hd hlt fun tm bk ρ Zn a w hag hs=>by
  have:=St.opd (s:=s) hs x hag.1
  rw [hx] at this
  obtain ⟨ad,h1,h2⟩:=bb3 hp this 0
  refine ⟨a.eval x,?_,this⟩
  simp [execOp,hop,h1]
theorem aZ4 {T : Nat} {x : Operand} {p y : AV} {tl : List Nat} (hop : o.op = .load T x) (hd : o.dst = some d) (hlt : Nat.blt d nt = true) (hx : opd s x = p) (hl : Ld P s T p y tl) : s8 P E nt o s ⟨some d,y,[]⟩ (l8 x) tl:=
 R4 hd hlt fun tm bk ρ Zn a w hag hs=>by
  have:=St.opd (s:=s) hs x hag.1
  rw [hx] at this
  obtain ⟨ad,v,h1,h2,h3⟩:=hl.ok hs hag.2 this
  refine ⟨v,?_,h3⟩
  simp [execOp,hop,h1,Instr.loadAt,Instr.sureAddr,h2]
theorem aO9 {T e sz : Nat} (hT : O2 P T e sz = true) {A : Option Addr} {n c : Nat} {k : IntKind} {i : Int} (h0 : 0≤i) (h1 : i < n) {ad : Addr} (hA : A = some ad) (w : World) : (Instr.indexAt T (.slice A n c) (.int k i)).run P w = .ok (.pointer (some (ad.add (i.toNat * sz)))) w:=by
 unfold O2 at hT
 cases hu : P.underlying T with
 | none=>rw [hu] at hT;cases hT
 | some t=>
  cases t with
  | slice e'=>
   rw [hu] at hT
   simp only [Bool.and_eq_true] at hT
   have he:=D6 hT.1
   subst he
   have hs:=ap1 hT.2 w
   subst hA
   simp [Instr.indexAt,run_underlying hu,asIntOf,h0,h1,hs]
  | _=>rw [hu] at hT;cases hT
theorem cb2 {T e sz sz' : Nat} {x y : Operand} {z : Fl} {xs : List AV} {k : IntKind} {i : Int} {v : AV} (hop : o.op = .indexAddr T x y) (hd : o.dst = some d) (hlt : Nat.blt d nt = true) (hx : opd s x = .sl z sz xs) (hy : opd s y = .lit (.int k i)) (h0 : 0≤i) (hv : xs[i.toNat]? = some v) (hT : O2 P T e sz' = true) (hz : Nat.beq sz' sz = true) : s8 P E nt o s ⟨some d,.rp z v 0,[]⟩ (l8 x ++ l8 y) []:=
 R4 hd hlt fun tm bk ρ Zn a w hag hs=>by
  have hz:=D6 hz
  subst hz
  have h1:=St.opd (s:=s) hs x (fun t ht=>hag.1 t (List.mem_append_left _ ht))
  have h2:=St.opd (s:=s) hs y (fun t ht=>hag.1 t (List.mem_append_right _ ht))
  rw [hx] at h1
  rw [hy] at h2
  have h2:=N1 h2
  have h3 : C3 (fz E Zn z) w (.sl z sz' xs) (a.eval x):=L0 h1 rfl
  have hi:=(List.getElem?_eq_some_iff.1 hv).1
  obtain ⟨ux,hux⟩ : ∃ u,a.eval x = u:=⟨_,rfl⟩
  rw [hux] at h3
  cases h3 with
  | @sl _ _ _ A c ad f hc hm hz' hA hl hcell hrep=>
   have hA':=hA (by omega)
   refine ⟨_,?_,O5 (.inl ⟨ad.add (i.toNat * sz'),f i.toNat,rfl,by rw [al5];exact hA'.2,fun j lv hj=>⟨?_,hrep _ _ _ _ hv hj⟩⟩)⟩
   ·unfold execOp
    simp only [hop]
    rw [Sem.run_bind,h2]
    rw [hux,aO9 hT h0 (by omega) hA'.1,add_add]
    rfl
   ·rw [add_add];exact hcell _ _ _ _ hv hj
end
end Go.Proofs.YtahmbcgolnplgaaGreatA
namespace Go.Proofs.YtahmbcgolnplgaaGreatA
open Go
section
variable {P : Program} {E : C5} {nt : Nat} {s : S} {o : Oper} {d : Nat}
theorem ah8 {Zn : Nat→Prop} {w : World} {e sz : Nat} {v : Value} {xs : List AV} (h : O7 Zn w e sz v xs) : ∃ A c,v = .slice A xs.length c∧xs.length≤c∧(0 < xs.length→∃ g,A = some ⟨g,0,none⟩):=by
 obtain ⟨h0,inner,ho,hl,hr⟩:=h
 rcases ho.2 with ⟨rfl,hn⟩ | ⟨g,cap,cur,rfl,_,_,hnc,_⟩
 ·exact ⟨none,0,by rw [hn],by omega,fun h=>by omega⟩
 ·exact ⟨_,cap,rfl,hnc,fun _=>⟨g,rfl⟩⟩
theorem bY3 {T e e' sz sz' b : Nat} {x y : Operand} {xs : List AV} {k : IntKind} {i : Int} (hop : o.op = .indexAddr T x y) (hd : o.dst = some d) (hlt : Nat.blt d nt = true) (hx : opd s x = .row b) (hb : gB s.bk b = .row e' sz xs) (hy : opd s y = .lit (.int k i)) (h0 : 0≤i) (h1 : i < (xs.length : Int)) (hT : O2 P T e sz' = true) (hz : Nat.beq sz' sz = true) : s8 P E nt o s ⟨some d,.elp b sz i.toNat 0,[]⟩ (l8 x ++ l8 y) [b]:=
 R4 hd hlt fun tm bk ρ Zn a w hag hs=>by
  have hz:=D6 hz
  subst hz
  have h2:=St.opd (s:=s) hs x (fun t ht=>hag.1 t (List.mem_append_left _ ht))
  have h3:=St.opd (s:=s) hs y (fun t ht=>hag.1 t (List.mem_append_right _ ht))
  rw [hx] at h2
  rw [hy] at h3
  have h3:=N1 h3
  obtain ⟨hf,h4,_⟩:=L0 h2 rfl
  have hblk:=hs.blk b
  rw [hag.2 b (List.mem_singleton.2 rfl),hb] at hblk
  obtain ⟨A,c,e1,hc,hA⟩:=ah8 hblk
  obtain ⟨g,rfl⟩:=hA (by omega)
  refine ⟨_,?_,O5 (.inl ⟨hf,g,_,c,e1,rfl⟩)⟩
  unfold execOp
  simp only [hop]
  rw [Sem.run_bind,h3,h4,e1,aO9 hT h0 (by omega) rfl,add_lit]
  rfl
inductive Ln (s : S) : AV→Int→List Nat→Prop
 | row {b e sz : Nat} {xs : List AV} {n : Int} : gB s.bk b = .row e sz xs→(xs.length : Int) = n→Ln s (.row b) n [b]
 | sub {b sz lo n : Nat} {m : Int} : (n : Int) = m→Ln s (.sub b sz lo n) m []
 | sl {z : Fl} {sz : Nat} {xs : List AV} {n : Int} : (xs.length : Int) = n→Ln s (.sl z sz xs) n []
 | nil {A : Option Addr} {n c : Nat} : Ln s (.lit (.slice A n c)) n []
theorem Ln.ok {x : AV} {n : Int} {tl : List Nat} (h : Ln s x n tl) {ρ : Nat→Value} {Zn : Nat→Prop} {tm : Nat→AV} {bk : Nat→l9} {a : Act} {w : World} (hs : St E nt ρ Zn tm bk a w) (hb : ∀ b ∈ tl,bk b = gB s.bk b) {u : Value} (hu : G9 (fz E Zn) w ρ bk x u) : ∃ A m c,u = .slice A m c∧(m : Int) = n:=by
 cases h with
 | @row b e sz xs n h1 h2=>
  obtain ⟨_,rfl,_⟩:=L0 hu rfl
  have hblk:=hs.blk b
  rw [hb b (List.mem_singleton.2 rfl),h1] at hblk
  obtain ⟨A,c,e1,_⟩:=ah8 hblk
  exact ⟨A,_,c,e1,h2⟩
 | @sub b sz lo n m h1=>
  obtain ⟨_,A,N,c,h2,h3,rfl⟩:=L0 hu rfl
  refine ⟨_,_,_,rfl,?_⟩
  rw [Nat.add_sub_cancel_left];exact h1
 | @sl z sz xs n h1=>
  have h2 : C3 (fz E Zn z) w (.sl z sz xs) u:=L0 hu rfl
  cases h2 with
  | sl ad f hc hm hz hA hl hcell hrep=>exact ⟨_,_,_,rfl,h1⟩
 | @nil A n c=>exact ⟨A,n,c,N1 hu,rfl⟩
def aF2 (P : Program) (T : TypeId) : Bool:=match P.underlying T with
 | some (.slice _)=>true
 | _=>false
theorem bN5 {T : TypeId} {x : Operand} {p : AV} {n : Int} {tl : List Nat} (hop : o.op = .call { callee:=.builtin .len,args:=#[x],argTypes:=#[T] }) (hd : o.dst = some d) (hlt : Nat.blt d nt = true) (hx : opd s x = p) (hl : Ln s p n tl) (hT : aF2 P T = true) : s8 P E nt o s ⟨some d,.lit (.int .i64 n),[]⟩ (l8 x) tl:=
 R4 hd hlt fun tm bk ρ Zn a w hag hs=>by
  have h2:=St.opd (s:=s) hs x hag.1
  rw [hx] at h2
  obtain ⟨A,m,c,h3,rfl⟩:=hl.ok hs hag.2 h2
  refine ⟨_,?_,.inr (.inl rfl)⟩
  unfold aF2 at hT
  cases hu : P.underlying T with
  | none=>rw [hu] at hT;cases hT
  | some t=>
   cases t with
   | slice e'=>simp [execOp,hop,resolve,invoke,builtin,h3,Builtin.len_,run_underlying hu,goInt]
   | _=>rw [hu] at hT;cases hT
def ag5 (P : Program) (T : TypeId) : Bool:=match P.underlying T with
 | some .string=>true
 | _=>false
theorem bb7 {T : TypeId} (hT : ag5 P T = true) : P.underlying T = some .string:=by
 unfold ag5 at hT
 revert hT
 cases h : P.underlying T with
 | none=>intro h;cases h
 | some t=>cases t <;> first | (intro h;cases h;done) | (intro _;rfl)
theorem bI2 {T : TypeId} {x : Operand} {b : ByteArray} (hop : o.op = .call { callee:=.builtin .len,args:=#[x],argTypes:=#[T] }) (hd : o.dst = some d) (hlt : Nat.blt d nt = true) (hx : opd s x = .lit (.string b)) (hT : ag5 P T = true) : s8 P E nt o s ⟨some d,.lit (.int .i64 (b.size : Int)),[]⟩ (l8 x) []:=by
 have:=al9 (P:=P) (E:=E) (s:=s) (l:=[(x,.string b)]) (v:=.int .i64 (b.size : Int)) hd hlt (by simp [hx]) (fun ρ w h=>by
  have h1:=h (x,.string b) (by simp)
  simp only at h1
  simp [execOp,hop,h1,resolve,invoke,builtin,Builtin.len_,run_underlying (bb7 hT),goInt])
 simpa using this
theorem bZ4 {Ts : Array TypeId} {x y : Operand} {k : IntKind} {m n : Int} (hop : o.op = .call { callee:=.builtin .min,args:=#[x,y],argTypes:=Ts }) (hd : o.dst = some d) (hlt : Nat.blt d nt = true) (hx : opd s x = .lit (.int k m)) (hy : opd s y = .lit (.int k n)) : s8 P E nt o s ⟨some d,.lit (.int k (if n < m then n else m)),[]⟩ (l8 x ++ l8 y) []:=by
 have:=al9 (P:=P) (E:=E) (s:=s) (l:=[(x,.int k m),(y,.int k n)]) (v:=.int k (if n < m then n else m)) hd hlt (by simp [hx,hy]) (fun ρ w h=>by
  have h1:=h (x,.int k m) (by simp)
  have h2:=h (y,.int k n) (by simp)
  simp only at h1 h2
  simp [execOp,hop,h1,h2,resolve,invoke,builtin,Builtin.min_,Builtin.min2])
 simpa using this
theorem ca1 {Ts : Array TypeId} {x y : Operand} {k : IntKind} {m n : Int} (hop : o.op = .call { callee:=.builtin .max,args:=#[x,y],argTypes:=Ts }) (hd : o.dst = some d) (hlt : Nat.blt d nt = true) (hx : opd s x = .lit (.int k m)) (hy : opd s y = .lit (.int k n)) : s8 P E nt o s ⟨some d,.lit (.int k (if n > m then n else m)),[]⟩ (l8 x ++ l8 y) []:=by
 have:=al9 (P:=P) (E:=E) (s:=s) (l:=[(x,.int k m),(y,.int k n)]) (v:=.int k (if n > m then n else m)) hd hlt (by simp [hx,hy]) (fun ρ w h=>by
  have h1:=h (x,.int k m) (by simp)
  have h2:=h (y,.int k n) (by simp)
  simp only at h1 h2
  simp [execOp,hop,h1,h2,resolve,invoke,builtin,Builtin.max_,Builtin.max2])
 simpa using this
theorem bS5 {T : TypeId} {x y : Operand} {b : ByteArray} {k : IntKind} {i n : Int} (hop : o.op = .index T x y) (hd : o.dst = some d) (hlt : Nat.blt d nt = true) (hx : opd s x = .lit (.string b)) (hy : opd s y = .lit (.int k i)) (hT : ag5 P T = true) (h0 : 0≤i) (h1 : i < (b.size : Int)) (hn : ∀ h : i.toNat < b.size,((b[i.toNat]'h).toNat : Int) = n) : s8 P E nt o s ⟨some d,.lit (.int .u8 n),[]⟩ (l8 x ++ l8 y) []:=by
 have hi : i.toNat < b.size:=by omega
 have:=al9 (P:=P) (E:=E) (s:=s) (l:=[(x,.string b),(y,.int k i)]) (v:=.int .u8 n) hd hlt (by simp [hx,hy]) (fun ρ w h=>by
  have e1:=h (x,.string b) (by simp)
  have e2:=h (y,.int k i) (by simp)
  simp only at e1 e2
  have hg : b[i.toNat]? = some (b[i.toNat]'hi):=getElem?_pos b i.toNat hi
  simp [execOp,hop,e1,e2,Instr.index,asIntOf,run_underlying (bb7 hT),h0,hg,hn hi])
 simpa using this
theorem bt8 {T : TypeId} {x : Operand} {lo hi : Option Operand} {b r : ByteArray} (vl vh : Option Value) (hop : o.op = .slice T x lo hi none) (hd : o.dst = some d) (hlt : Nat.blt d nt = true) (hx : opd s x = .lit (.string b)) (hl : ∀ y,lo = some y→∃ v,vl = some v∧opd s y = .lit v) (hl0 : lo = none→vl = none) (hh : ∀ y,hi = some y→∃ v,vh = some v∧opd s y = .lit v) (hh0 : hi = none→vh = none)
 (hr : ∀ w,(Instr.sliceAt T (.string b) vl vh none).run P w = .ok (.string r) w) : s8 P E nt o s ⟨some d,.lit (.string r),[]⟩ (l8 x ++ (lo.toList.flatMap l8 ++ hi.toList.flatMap l8)) []:=
 R4 hd hlt fun tm bk ρ Zn a w hag hs=>by
  have h1:=St.opd (s:=s) hs x (fun t ht=>hag.1 t (List.mem_append_left _ ht))
  rw [hx] at h1
  have e1 : lo.map a.eval = vl:=by
   cases lo with
   | none=>rw [hl0 rfl];rfl
   | some y=>
    obtain ⟨v,rfl,hv⟩:=hl y rfl
    have h2:=St.opd (s:=s) hs y (fun t ht=>hag.1 t (List.mem_append_right _ (List.mem_append_left _ (List.mem_flatMap.2 ⟨y,List.mem_singleton.2 rfl,ht⟩))))
    rw [hv] at h2
    rw [Option.map_some,N1 h2]
  have e2 : hi.map a.eval = vh:=by
   cases hi with
   | none=>rw [hh0 rfl];rfl
   | some y=>
    obtain ⟨v,rfl,hv⟩:=hh y rfl
    have h2:=St.opd (s:=s) hs y (fun t ht=>hag.1 t (List.mem_append_right _ (List.mem_append_right _ (List.mem_flatMap.2 ⟨y,List.mem_singleton.2 rfl,ht⟩))))
    rw [hv] at h2
    rw [Option.map_some,N1 h2]
  refine ⟨_,?_,.inr (.inl rfl)⟩
  unfold execOp
  simp only [hop]
  rw [Sem.run_bind,N1 h1,e1,e2,Option.map_none,hr]
  rfl
theorem R5 (bk : Nat→l9) (b : Nat) (x : l9) : O0 bk [(b,x)] = fun i=>if i = b then x else bk i:=by
 funext i
 show (match (match Nat.beq i b with | true=>some x | false=>none) with | some y=>y | none=>bk i) = _
 cases he : Nat.beq i b with
 | true=>simp [D6 he]
 | false=>simp [ad0 he]
theorem bv5 {nb t : Nat} {cells : List AV} {lk tl : List Nat} (hd : o.dst = some d) (hlt : Nat.blt d nt = true) (hnb : gB s.bk nb = .fresh)
 (h : ∀ tm bk ρ Zn a w,aq1 s lk (nb :: tl) tm bk→St E nt ρ Zn tm bk a w→∃ cs : List Value,(execOp a.eval o).run P w = .ok (.value (.pointer (some ⟨w.heap.size,0,none⟩))) (w.alloc (.cells cs.toArray t))∧Fa (L6 (fz E Zn) w ρ bk) cells cs) :
 s8 P E nt o s ⟨some d,.box nb 0,[(nb,.box t cells)]⟩ lk (nb :: tl):=by
 intro tm bk hag a w ⟨ρ,Zn,hs⟩
 obtain ⟨cs,h1,h2⟩:=h tm bk ρ Zn a w hag hs
 have hf : bk nb = .fresh:=(hag.2 nb List.mem_cons_self).trans hnb
 refine ⟨_,_,_,h1,.inl rfl,fun i=>if i = nb then .pointer (some ⟨w.heap.size,0,none⟩) else ρ i,Zn,?_⟩
 have h3:=hs.new hf (x:=.box t cells) (v:=.pointer (some ⟨w.heap.size,0,none⟩)) (obj:=.cells cs.toArray t) rfl (fun ρ' bk' m=>⟨w.heap.size,cs,rfl,heap_alloc_new w _,h2.imp fun _ _ h=>L6.move m h⟩) (fun k hk=>by simpa [M9] using hk.symm)
 rw [hd]
 refine h3.put hlt (O5 (.inl ⟨?_,w.heap.size,?_,rfl⟩))
 ·rw [R5];simp
 ·simp
theorem aM6 {nb e sz : Nat} {xs : List AV} {lk tl : List Nat} (hd : o.dst = some d) (hlt : Nat.blt d nt = true) (hnb : gB s.bk nb = .fresh)
 (h : ∀ tm bk ρ Zn a w,aq1 s lk (nb :: tl) tm bk→St E nt ρ Zn tm bk a w→∃ v w',(execOp a.eval o).run P w = .ok (.value v) w'∧w.grownBy w' none∧(∀ k,v.ownBlock = some k→w.heap.size≤k)∧O7 Zn w' e sz v xs) :
 s8 P E nt o s ⟨some d,.row nb,[(nb,.row e sz xs)]⟩ lk (nb :: tl):=by
 intro tm bk hag a w ⟨ρ,Zn,hs⟩
 obtain ⟨v,w',h1,hg,hv,hrow⟩:=h tm bk ρ Zn a w hag hs
 have hf : bk nb = .fresh:=(hag.2 nb List.mem_cons_self).trans hnb
 have hsame : ∀ k,k < w.heap.size→w'.heap[k]? = w.heap[k]?:=fun k hk=>hg.block k hk (by simp)
 have hform:=ah8 hrow
 have hrb : ∀ k,M9 v = some k→w.heap.size≤k:=by
  obtain ⟨A,c,rfl,_⟩:=hform
  intro k hk
  refine hv k ?_
  cases A with
  | none=>cases hk
  | some a=>exact hk
 refine ⟨_,v,w',h1,.inl rfl,fun i=>if i = nb then v else ρ i,Zn,?_⟩
 have h3 : St E nt (fun i=>if i = nb then v else ρ i) Zn tm (O0 bk [(nb,.row e sz xs)]) a w':=by
  refine hs.upd (fun i=>i = nb) hg.os hg.tape hg.output hg.size (fun k hk _=>hsame k hk) (fun i hi=>if_neg hi) (fun i hi=>by rw [R5];exact if_neg hi) (fun i hi hne=>absurd (hi▸hf) hne) (fun _ h=>h) (fun _ h=>.inl h) (fun i hi m=>?_) (fun i k hi ho=>?_) (fun i j k hi hj _ _=>hi.trans hj.symm) rfl rfl (fun i=>.inl ⟨rfl,rfl⟩) (fun i hi=>by subst hi;rw [R5];refine ⟨by rw [hf];rfl,?_⟩;show isD (if i = i then _ else bk i) = false;rw [if_pos rfl];rfl)
  ·subst hi
   rw [R5]
   show R3 _ _ _ _ (if i = i then v else ρ i) (if i = i then l9.row e sz xs else bk i)
   rw [if_pos rfl,if_pos rfl]
   exact hrow
  ·subst hi
   have h2 : M9 (if i = i then v else ρ i) = some k:=ho.2
   rw [if_pos rfl] at h2
   have:=hrb k h2
   exact ⟨.inl this,fun hz=>absurd (hs.zn _ hz).1 (by omega)⟩
 rw [hd]
 refine h3.put hlt (O5 (.inl ⟨?_,?_,?_⟩))
 ·rw [R5];simp
 ·simp
 ·obtain ⟨A,c,rfl,_⟩:=hform;rfl
def S5 (P : Program) (T : TypeId) : Option (List Value):=match P.info? T with
 | some i=>(match i.zero with
  | some z=>some z.cells.toList
  | none=>none)
 | none=>none
theorem aR3 {T : TypeId} {zs : List Value} (h : S5 P T = some zs) (w : World) : ∃ z,(zeroValue T).run P w = .ok z w∧z.cells.toList = zs:=by
 unfold S5 at h
 cases hi : P.info? T with
 | none=>rw [hi] at h;cases h
 | some i=>
  rw [hi] at h
  simp only at h
  cases hz : i.zero with
  | none=>rw [hz] at h;cases h
  | some z=>
   rw [hz] at h
   injection h with h
   exact ⟨z,by simp [zeroValue,typeInfo,hi,hz],h⟩
theorem bs4 {Zf : Fl→Nat→Prop} {w : World} {ρ : Nat→Value} {bk : Nat→l9} {zs : List Value} (h : zs.all (·.oneCell') = true) : Fa (L6 Zf w ρ bk) (zs.map .lit) zs:=
 Fa.map_left.2 ⟨rfl,fun i a b ha hb=>by
  rw [ha] at hb;injection hb with hb;subst hb
  exact .inl ⟨rfl,List.all_eq_true.1 h a (List.mem_of_getElem? ha)⟩⟩
theorem bP4 {T nb : Nat} {zs : List Value} {cells : List AV} (hop : o.op = .alloc T) (hd : o.dst = some d) (hlt : Nat.blt d nt = true) (hnb : gB s.bk nb = .fresh) (hz : S5 P T = some zs) (h1 : zs.all (·.oneCell') = true) (hc : zs.map .lit = cells) : s8 P E nt o s ⟨some d,.box nb 0,[(nb,.box T cells)]⟩ [] [nb]:=
 bv5 hd hlt hnb fun tm bk ρ Zn a w hag hs=>by
  obtain ⟨z,h2,h3⟩:=aR3 hz w
  refine ⟨zs,?_,hc▸bs4 h1⟩
  have : z.cells = zs.toArray:=by rw [← h3]
  unfold execOp
  simp only [hop]
  simp [Instr.alloc,h2,newVar,newRow,this]
theorem bX9 {T nb : Nat} {x : Operand} {y : AV} {cells : List AV} (hop : o.op = .box T x) (hd : o.dst = some d) (hlt : Nat.blt d nt = true) (hnb : gB s.bk nb = .fresh) (hx : opd s x = y) (hy : af7 y = true) (hc : y.leaves = cells) : s8 P E nt o s ⟨some d,.box nb 0,[(nb,.box T cells)]⟩ (l8 x) [nb]:=
 bv5 hd hlt hnb fun tm bk ρ Zn a w hag hs=>by
  have h1:=St.opd (s:=s) hs x hag.1
  rw [hx] at h1
  have h2:=aU8 (ap9 h1 hy)
  refine ⟨(a.eval x).cells.toList,?_,hc▸h2⟩
  unfold execOp
  simp only [hop]
  simp [Instr.box,newVar,newRow]
end
end Go.Proofs.YtahmbcgolnplgaaGreatA
namespace Go.Proofs.YtahmbcgolnplgaaGreatA
open Go
def aD3 : List AV→Nat→List AV→List AV
 | cs,_,[]=>cs
 | cs,o,x :: xs=>aD3 (cs.set o x) (o + 1) xs
def aP9 : List Value→Nat→List Value→List Value
 | cs,_,[]=>cs
 | cs,o,x :: xs=>aP9 (cs.set o x) (o + 1) xs
theorem bv4 {R : AV→Value→Prop} : ∀ {xs : List AV} {vs : List Value} {l : List AV} {m : List Value} {o : Nat},Fa R l m→Fa R xs vs→Fa R (aD3 l o xs) (aP9 m o vs)
 | [],vs,l,m,o,h,hx=>by have:=hx.unnil;subst this;exact h
 | x :: xs,vs,l,m,o,h,hx=>by
  obtain ⟨v,vs',rfl,h1,h2⟩:=hx.uncons
  show Fa R (aD3 (l.set o x) (o + 1) xs) (aP9 (m.set o v) (o + 1) vs')
  exact bv4 (h.set o h1) h2
theorem bc5 (off : Nat) : ∀ (vs : List Value) (k : Nat) (m : Array Value),(((vs.zipIdx k).foldl (fun cs p=>cs.setIfInBounds (off + p.2) p.1) m).toList) = aP9 m.toList (off + k) vs
 | [],k,m=>rfl
 | v :: vs,k,m=>by
  rw [List.zipIdx_cons,List.foldl_cons,bc5 off vs (k + 1)]
  show aP9 (m.setIfInBounds (off + k) v).toList (off + (k + 1)) vs = aP9 (m.toList.set (off + k) v) (off + k + 1) vs
  rw [Array.toList_setIfInBounds,Nat.add_assoc]
section
variable {P : Program} {E : C5} {nt : Nat} {s : S} {o : Oper} {d : Nat}
def as5 (s : S) (pl : List (Nat×Nat)) : List AV→List (Nat×Operand)→Option (List AV)
 | cells,[]=>some cells
 | cells,(i,x) :: r=>match pl[i]? with
  | some (off,n)=>(match Nat.beq (opd s x).leaves.length n,Nat.ble (off + n) cells.length,af7 (opd s x) with
   | true,true,true=>as5 s pl (aD3 cells off (opd s x).leaves) r
   | _,_,_=>none)
  | none=>none
theorem ba4 {Zf : Fl→Nat→Prop} {w : World} {ρ : Nat→Value} {bk : Nat→l9} {pl : List (Nat×Nat)} {place : Nat→Option (Nat×Nat)} (hp : ∀ i q,pl[i]? = some q→place i = some q) {ev : Operand→Value} : ∀ {parts : List (Nat×Operand)} {cells l : List AV} {m : Array Value},(∀ p ∈ parts,af7 (opd s p.2) = true→Fa (L6 Zf w ρ bk) (opd s p.2).leaves (ev p.2).cells.toList)→Fa (L6 Zf w ρ bk) cells m.toList→as5 s pl cells parts = some l →
 ∃ m',Instr.fill place m (parts.map fun p=>(p.1,ev p.2)) = some m'∧Fa (L6 Zf w ρ bk) l m'.toList
 | [],cells,l,m,_,h,hf=>by
  have hf' : some cells = some l:=hf
  injection hf' with hf'
  subst hf'
  exact ⟨m,rfl,h⟩
 | (i,x) :: r,cells,l,m,hr,h,hf=>by
  have hf' : (match pl[i]? with
   | some (off,n)=>(match Nat.beq (opd s x).leaves.length n,Nat.ble (off + n) cells.length,af7 (opd s x) with
    | true,true,true=>as5 s pl (aD3 cells off (opd s x).leaves) r
    | _,_,_=>none)
   | none=>none) = some l:=hf
  cases hpl : pl[i]? with
  | none=>rw [hpl] at hf';cases hf'
  | some q=>
   obtain ⟨off,n⟩:=q
   rw [hpl] at hf'
   simp only at hf'
   cases hb : Nat.beq (opd s x).leaves.length n with
   | false=>rw [hb] at hf';cases hf'
   | true=>
    cases hc : Nat.ble (off + n) cells.length with
    | false=>rw [hb,hc] at hf';cases hf'
    | true=>
     cases hn : af7 (opd s x) with
     | false=>rw [hb,hc,hn] at hf';cases hf'
     | true=>
      rw [hb,hc,hn] at hf'
      simp only at hf'
      have hx:=hr (i,x) List.mem_cons_self hn
      have hlen : (ev x).cells.size = n:=by
       have:=hx.1
       have h2:=D6 hb
       simp at this
       omega
      have hle : off + n≤m.size:=by
       have:=h.1
       have h2:=Nat.le_of_ble_eq_true hc
       simp at this
       omega
      have h2 : Fa (L6 Zf w ρ bk) (aD3 cells off (opd s x).leaves) ((((ev x).cells.zipIdx.foldl (fun cs p=>cs.setIfInBounds (off + p.2) p.1) m)).toList):=by
       have e : ((ev x).cells.zipIdx.foldl (fun cs p=>cs.setIfInBounds (off + p.2) p.1) m).toList = aP9 m.toList off (ev x).cells.toList:=by
        have:=bc5 off (ev x).cells.toList 0 m
        rw [Nat.add_zero] at this
        rw [← this,← Array.foldl_toList,Array.toList_zipIdx]
       rw [e]
       exact bv4 h hx
      obtain ⟨m',h3,h4⟩:=ba4 hp (fun p hp'=>hr p (List.mem_cons_of_mem _ hp')) h2 hf'
      refine ⟨m',?_,h4⟩
      rw [List.map_cons]
      unfold Instr.fill
      rw [hp i _ hpl]
      simp only
      rw [if_neg (by simp [hlen];omega)]
      exact h3
def at3 (P : Program) (T : TypeId) (pl : List (Nat×Nat)) : Bool:=match P.underlying T with
 | some (.struct fs)=>fs.toList.map (fun f=>(f.offset,(P.info? f.type).map (·.size))) == pl.map (fun p=>(p.1,some p.2))
 | _=>false
theorem bz4 {T : TypeId} {pl : List (Nat×Nat)} (h : at3 P T pl = true) (w : World) : ∃ fs,P.underlying T = some (.struct fs)∧(fs.mapM (m:=Sem) fun f=>do pure (f.offset,← sizeOf f.type)).run P w = .ok pl.toArray w:=by
 unfold at3 at h
 cases hu : P.underlying T with
 | none=>rw [hu] at h;cases h
 | some t=>
  cases t with
  | struct fs=>
   rw [hu] at h
   simp only [beq_iff_eq] at h
   refine ⟨fs,rfl,?_⟩
   have key : ∀ (l : List Field) (pl : List (Nat×Nat)),l.map (fun f=>(f.offset,(P.info? f.type).map (·.size))) = pl.map (fun p=>(p.1,some p.2))→(l.mapM (m:=Sem) fun f=>do pure (f.offset,← sizeOf f.type)).run P w = .ok pl w:=by
    intro l
    induction l with
    | nil=>intro pl h;cases pl <;> first | rfl | cases h
    | cons f l ih=>
     intro pl h
     cases pl with
     | nil=>cases h
     | cons p pl=>
      simp only [List.map_cons,List.cons.injEq,Prod.mk.injEq] at h
      obtain ⟨⟨h1,h2⟩,h3⟩:=h
      obtain ⟨i,hi,hs⟩:=Option.map_eq_some_iff.1 h2
      have e1 : (do pure (f.offset,← sizeOf f.type) : Sem (Nat×Nat)).run P w = .ok (f.offset,i.size) w:=by simp [sizeOf,typeInfo,hi]
      rw [List.mapM_cons,Sem.run_bind,e1,Result.andThen_ok,Sem.run_bind,ih pl h3,Result.andThen_ok,Sem.run_pure]
      have : (f.offset,i.size) = p:=Prod.ext h1 hs
      rw [this]
   have e : fs = fs.toList.toArray:=by simp
   rw [e,List.mapM_toArray,Sem.run_map,key _ _ h]
   rfl
  | _=>rw [hu] at h;cases h
theorem bQ1 {T : TypeId} {parts : Array (Nat×Operand)} {zs : List Value} {l : List AV} (pl : List (Nat×Nat)) (hop : o.op = .build T parts) (hd : o.dst = some d) (hlt : Nat.blt d nt = true) (hz : S5 P T = some zs) (h1 : zs.all (·.oneCell') = true) (hp : at3 P T pl = true) (hl : as5 s pl (zs.map .lit) parts.toList = some l) : s8 P E nt o s ⟨some d,.agg l,[]⟩ (parts.toList.flatMap fun p=>l8 p.2) []:=
 R4 hd hlt fun tm bk ρ Zn a w hag hs=>by
  obtain ⟨fs,hu,hpr⟩:=bz4 hp w
  obtain ⟨z,h2,h3⟩:=aR3 hz w
  obtain ⟨m',h4,h5⟩:=ba4 (s:=s) (Zf:=fz E Zn) (w:=w) (ρ:=ρ) (bk:=bk) (pl:=pl) (place:=fun i=>pl.toArray[i]?) (fun i q h=>by simpa using h) (ev:=a.eval) (m:=z.cells) (fun p hp' hn=>by
   have:=St.opd (s:=s) hs p.2 (fun t ht=>hag.1 t (List.mem_flatMap.2 ⟨p,hp',ht⟩))
   exact aU8 (ap9 this hn)) (by rw [h3];exact bs4 h1) hl
  refine ⟨.agg m',?_,.inr (.inr (.inl (.inr ⟨l,m'.toList,rfl,by simp,h5⟩)))⟩
  unfold execOp
  simp only [hop]
  rw [Sem.run_bind]
  have hb : (Instr.build T (parts.map fun (i,x)=>(i,a.eval x))).run P w = .ok (.agg m') w:=by
   unfold Instr.build
   rw [Sem.run_bind]
   simp only [Sem.run_map,h2,Result.andThen_ok]
   rw [Sem.run_bind,run_underlying hu,Result.andThen_ok]
   simp only
   rw [Sem.run_bind,hpr,Result.andThen_ok]
   have : (parts.map fun (x : Nat×Operand)=>(x.1,a.eval x.2)).toList = parts.toList.map fun p=>(p.1,a.eval p.2):=by simp
   rw [this]
   rw [h4]
   rfl
  rw [hb];rfl
end
end Go.Proofs.YtahmbcgolnplgaaGreatA
namespace Go.Proofs.YtahmbcgolnplgaaGreatA
open Go
def plain : AV→Bool
 | .lit v=>v.oneCell'
 | .sl .n _ _=>true
 | _=>false
theorem bd3 {E : C5} {Zn : Nat→Prop} {w : World} {ρ : Nat→Value} {bk : Nat→l9} {x : AV} {u : Value} (hx : plain x = true) (h : L6 (fz E Zn) w ρ bk x u) : C3 Zn w x u:=by
 rcases h with h | ⟨_,_,_,rfl,_⟩
 ·cases x with
  | lit v=>obtain ⟨rfl,h1⟩:=h;exact .lit h1
  | sl z sz xs=>cases z <;> first | exact h | cases hx
  | _=>cases hx
 ·cases hx
theorem bi8 {sz : Nat} : ∀ {xs : List AV},(∀ x ∈ xs,x.leaves.length = sz)→∀ {j : Nat} {x : AV} {i : Nat} {lv : AV},xs[j]? = some x→x.leaves[i]? = some lv→(xs.flatMap AV.leaves)[j * sz + i]? = some lv
 | [],_,j,x,i,lv,h,_=>by simp at h
 | y :: ys,hl,j,x,i,lv,hj,hi=>by
  rw [List.flatMap_cons]
  cases j with
  | zero=>
   simp only [List.getElem?_cons_zero,Option.some.injEq] at hj
   subst hj
   rw [Nat.zero_mul,Nat.zero_add,List.getElem?_append_left (List.getElem?_eq_some_iff.1 hi).1]
   exact hi
  | succ j=>
   have hy:=hl y List.mem_cons_self
   rw [List.getElem?_append_right (by rw [hy,Nat.succ_mul];omega),hy,Nat.succ_mul,show j * sz + sz + i - sz = j * sz + i by omega]
   exact bi8 (fun x hx=>hl x (List.mem_cons_of_mem _ hx)) (by simpa using hj) hi
theorem an6 {sz : Nat} : ∀ {xs : List AV},(∀ x ∈ xs,x.leaves.length = sz)→(xs.flatMap AV.leaves).length = xs.length * sz
 | [],_=>by simp
 | y :: ys,hl=>by
  rw [List.flatMap_cons,List.length_append,hl y List.mem_cons_self,an6 (fun x hx=>hl x (List.mem_cons_of_mem _ hx)),List.length_cons,Nat.succ_mul]
  omega
def aJ4 (sz : Nat) : List AV→Bool
 | []=>true
 | x :: r=>Nat.beq x.leaves.length sz && aJ4 sz r
theorem as7 {sz : Nat} : ∀ {l : List AV},aJ4 sz l = true→∀ x ∈ l,x.leaves.length = sz
 | [],_,x,h=>by cases h
 | y :: r,h,x,hx=>by
  have h' : (Nat.beq y.leaves.length sz && aJ4 sz r) = true:=h
  rw [Bool.and_eq_true] at h'
  rcases List.mem_cons.1 hx with hx | hx
  ·rw [hx];exact D6 h'.1
  ·exact as7 h'.2 x hx
section
variable {P : Program} {E : C5} {nt : Nat} {s : S} {o : Oper} {d : Nat}
theorem aH0 {T e sz : Nat} (hT : O2 P T e sz = true) : P.underlying T = some (.slice e)∧ae7 P e sz = true:=by
 unfold O2 at hT
 cases hu : P.underlying T with
 | none=>rw [hu] at hT;cases hT
 | some t=>
  cases t with
  | slice e'=>
   rw [hu] at hT
   simp only [Bool.and_eq_true] at hT
   have he:=D6 hT.1
   subst he
   exact ⟨rfl,hT.2⟩
  | _=>rw [hu] at hT;cases hT
def aS2 (zs : List Value) (sz len : Nat) : List AV:=(List.range (len * sz)).map fun i=>.lit (zs.getD (i % sz) undef)
theorem cd9 {T e sz len nb : Nat} {parts : Array (Nat×Operand)} {zs : List Value} {l xs : List AV} (hop : o.op = .buildSlice T len parts) (hd : o.dst = some d) (hlt : Nat.blt d nt = true) (hnb : gB s.bk nb = .fresh) (hT : O2 P T e sz = true) (hz : S5 P e = some zs) (h1 : zs.all (·.oneCell') = true) (hzl : Nat.beq zs.length sz = true) (hsz : Nat.blt 0 sz = true) (hcap : Nat.ble (len * sz) 16777216 = true)
 (hl : as5 s ((List.range len).map fun i=>(i * sz,sz)) (aS2 zs sz len) parts.toList = some l) (hx : xs.flatMap AV.leaves = l) (hxl : aJ4 sz xs = true) (hlen : Nat.beq xs.length len = true) (hpl : l.all plain = true) : s8 P E nt o s ⟨some d,.row nb,[(nb,.row e sz xs)]⟩ (parts.toList.flatMap fun p=>l8 p.2) [nb]:=
 aM6 hd hlt hnb fun tm bk ρ Zn a w hag hs=>by
  obtain ⟨hu,hsi⟩:=aH0 hT
  have hzl:=D6 hzl
  have hsz' : 0 < sz:=Nat.blt_eq▸hsz
  have hlen:=D6 hlen
  obtain ⟨z,h2,h3⟩:=aR3 hz w
  have hzs : z.cells.size = sz:=by rw [← hzl,← h3];simp
  have hinit : Fa (L6 (fz E Zn) w ρ bk) (aS2 zs sz len) ((Array.range (len * sz)).map (z.cells[· % z.cells.size]!)).toList:=by
   refine ⟨by simp [aS2],fun i x v hx hv=>?_⟩
   unfold aS2 at hx
   rw [List.getElem?_map] at hx
   obtain ⟨i',hi',rfl⟩:=Option.map_eq_some_iff.1 hx
   have hi:=(List.getElem?_eq_some_iff.1 hi').1
   rw [List.getElem?_range (by simpa using hi)] at hi'
   injection hi' with hi'
   subst hi'
   have hi2 : i < len * sz:=by simpa using hi
   have hv' : v = z.cells[i % z.cells.size]!:=by
    simp [hi2] at hv
    exact hv.symm
   have hmod : i % sz < sz:=Nat.mod_lt _ hsz'
   have hgz : zs.getD (i % sz) undef = z.cells[i % z.cells.size]!:=by
    rw [hzs,← h3]
    have : i % sz < z.cells.size:=by omega
    simp [this,List.getD_eq_getElem?_getD]
   rw [hv',← hgz]
   refine .inl ⟨rfl,List.all_eq_true.1 h1 _ ?_⟩
   rw [List.getD_eq_getElem?_getD,List.getElem?_eq_getElem (by omega)]
   exact List.getElem_mem _
  obtain ⟨m',h4,h5⟩:=ba4 (s:=s) (Zf:=fz E Zn) (w:=w) (ρ:=ρ) (bk:=bk) (pl:=(List.range len).map fun i=>(i * sz,sz)) (place:=fun i=>some (i * sz,sz)) (fun i q h=>by
   rw [List.getElem?_map] at h
   obtain ⟨i',hi',rfl⟩:=Option.map_eq_some_iff.1 h
   have hi:=(List.getElem?_eq_some_iff.1 hi').1
   rw [List.getElem?_range (by simpa using hi)] at hi'
   injection hi' with hi'
   rw [hi']) (ev:=a.eval) (m:=(Array.range (len * sz)).map (z.cells[· % z.cells.size]!)) (fun p hp' hn=>by
   have:=St.opd (s:=s) hs p.2 (fun t ht=>hag.1 t (List.mem_flatMap.2 ⟨p,hp',ht⟩))
   exact aU8 (ap9 this hn)) hinit hl
  have hml : m'.toList.length = xs.length * sz:=by rw [← h5.1,← hx,an6 (as7 hxl)]
  refine ⟨.slice (some ⟨w.heap.size,0,none⟩) len len,w.alloc (.cells m' e),?_,World.grownBy_alloc w _ none,fun k hk=>by simp [Value.ownBlock] at hk;omega,hsz',m'.toList,?_,fun j x hj=>as7 hxl x (List.mem_of_getElem? hj),fun j x i lv hj hi=>?_⟩
  ·unfold execOp
   simp only [hop]
   rw [Sem.run_bind]
   have hb : (Instr.buildSlice T len (parts.map fun (i,x)=>(i,a.eval x))).run P w = .ok (.slice (some ⟨w.heap.size,0,none⟩) len len) (w.alloc (.cells m' e)):=by
    have hle : ¬ (len * sz > 2 ^ 24):=by have:=Nat.le_of_ble_eq_true hcap;omega
    have hpt : (parts.map fun (x : Nat×Operand)=>(x.1,a.eval x.2)).toList = parts.toList.map fun p=>(p.1,a.eval p.2):=by simp
    by_cases h0 : len * sz = 0
    ·have hm0 : ((Array.range (len * sz)).map (z.cells[· % z.cells.size]!)) = #[]:=by rw [h0];simp
     unfold Instr.buildSlice
     rw [Sem.run_bind,run_underlying hu,Result.andThen_ok]
     simp only
     rw [Sem.run_bind,ap1 hsi,Result.andThen_ok,if_neg hle,if_pos h0]
     have h4':=h4
     rw [hm0,← hpt] at h4'
     have e0 : (Array.range (len * sz)).map (fun x=>(#[] : Array Value)[x % (#[] : Array Value).size]!) = #[]:=by rw [h0];simp
     rw [Sem.run_bind,Sem.run_pure,Result.andThen_ok,e0,h4']
     simp [newRow]
    ·unfold Instr.buildSlice
     rw [Sem.run_bind,run_underlying hu,Result.andThen_ok]
     simp only
     rw [Sem.run_bind,ap1 hsi,Result.andThen_ok,if_neg hle,if_neg h0]
     have h4':=h4
     rw [← hpt] at h4'
     simp only [Sem.run_bind,Sem.run_pure,Result.andThen_ok,h2]
     rw [h4']
     simp [newRow]
   rw [hb];rfl
  ·refine ⟨hml,.inr ⟨w.heap.size,len,m',by rw [hlen],Nat.zero_le _,⟨(0,0),heap_alloc_new w _,.inl rfl⟩,by omega,?_,?_,?_⟩⟩
   ·have:=Nat.le_of_ble_eq_true hcap
    have h9 : len≤len * sz:=Nat.le_mul_of_pos_right _ hsz'
    simp only [maxLen];omega
   ·simpa [hlen] using hml
   ·rw [← hml,List.take_length]
  ·have hg:=bi8 (as7 hxl) hj hi
   rw [hx] at hg
   obtain ⟨v,hv,hr⟩:=h5.get hg
   refine ⟨v,hv,C3.move (bd3 (List.all_eq_true.1 hpl lv (List.mem_of_getElem? hg)) hr) (fun k hk=>heap_alloc_old w _ k (hs.zn k hk).1) (fun _ h=>h)⟩
def ah1 (P : Program) (e bytes : Nat) : Bool:=match P.info? e with
 | some i=>Nat.beq i.bytes bytes
 | none=>false
def ZL : List AV→List Value→Prop
 | [],[]=>True
 | .lit u :: l,v :: r=>u = v∧ZL l r
 | .sl _ sz [] :: l,v :: r=>(v = .slice none 0 0∧Nat.blt 0 sz = true)∧ZL l r
 | _,_=>False
theorem bp1 : ∀ {l : List AV} {r : List Value},ZL l r→l.length = r.length
 | [],[],_=>rfl
 | .lit u :: l,v :: r,h=>by simp [bp1 h.2]
 | .sl z sz [] :: l,v :: r,h=>by simp [bp1 h.2]
theorem bi6 {Zn : Nat→Prop} {w : World} : ∀ {l : List AV} {r : List Value},ZL l r→∀ {i : Nat} {lv : AV},l[i]? = some lv→∃ u,r[i]? = some u∧(u.oneCell' = true→C3 Zn w lv u)
 | [],[],_,i,lv,h1=>by simp at h1
 | .lit u :: l,v :: r,h,i,lv,h1=>by
  cases i with
  | zero=>simp at h1;subst h1;exact ⟨v,rfl,fun h3=>h.1▸.lit (h.1▸h3)⟩
  | succ i=>exact bi6 h.2 (i:=i) (by simpa using h1)
 | .sl z sz [] :: l,v :: r,h,i,lv,h1=>by
  cases i with
  | zero=>simp at h1;subst h1;exact ⟨v,rfl,fun _=>by rw [h.1.1];exact ap6 (by simpa using h.1.2)⟩
  | succ i=>exact bi6 h.2 (i:=i) (by simpa using h1)
theorem cf9 {T e sz bytes nb : Nat} {x y : Operand} {k k' : IntKind} {m : Int} {zs : List Value} {v : AV} {xs : List AV} (hop : o.op = .makeSlice T x y) (hd : o.dst = some d) (hlt : Nat.blt d nt = true) (hnb : gB s.bk nb = .fresh) (hx : opd s x = .lit (.int k m)) (hy : opd s y = .lit (.int k' m)) (hT : O2 P T e sz = true) (hz : S5 P e = some zs) (h1 : zs.all (·.oneCell') = true) (hzl : Nat.beq zs.length sz = true) (hsz : Nat.blt 0 sz = true) (hby : ah1 P e bytes = true) (hb0 : Nat.blt 0 bytes = true)
 (h0 : 0≤m) (hle : bytes * m.toNat≤281474976710656) (hv : ZL v.leaves zs) (hxs : List.replicate m.toNat v = xs) : s8 P E nt o s ⟨some d,.row nb,[(nb,.row e sz xs)]⟩ (l8 x ++ l8 y) [nb]:=
 aM6 hd hlt hnb fun tm bk ρ Zn a w hag hs=>by
  obtain ⟨hu,hsi⟩:=aH0 hT
  have hzl:=D6 hzl
  have hsz' : 0 < sz:=Nat.blt_eq▸hsz
  have hb0' : 0 < bytes:=Nat.blt_eq▸hb0
  have e1:=St.opd (s:=s) hs x (fun t ht=>hag.1 t (List.mem_append_left _ ht))
  have e2:=St.opd (s:=s) hs y (fun t ht=>hag.1 t (List.mem_append_right _ ht))
  rw [hx] at e1
  rw [hy] at e2
  have e1:=N1 e1
  have e2:=N1 e2
  unfold S5 at hz
  unfold ah1 at hby
  unfold ae7 at hsi
  cases hi : P.info? e with
  | none=>rw [hi] at hz;cases hz
  | some i=>
   rw [hi] at hz hby hsi
   simp only at hz
   cases hzz : i.zero with
   | none=>rw [hzz] at hz;cases hz
   | some z=>
    rw [hzz] at hz
    injection hz with hz
    have hm : m = ((m.toNat : Nat) : Int):=(Int.toNat_of_nonneg h0).symm
    have hlem : m.toNat≤maxLen:=by
     have : m.toNat≤bytes * m.toNat:=Nat.le_mul_of_pos_left _ hb0'
     simp only [maxLen];omega
    obtain ⟨w',hr,ho,hg⟩:=run_make_full (P:=P) w 0 T e i z sz hu hi hzz (D6 hsi) k k' m.toNat (by rw [D6 hby];exact hle) hlem (Nat.zero_le _)
    rw [← hm] at hr
    have hlx : xs.length = m.toNat:=by rw [← hxs];simp
    refine ⟨.slice (some ⟨w.heap.size,0,none⟩) m.toNat m.toNat,w',?_,hg,fun q hq=>by simp [Value.ownBlock] at hq;omega,hsz',_,by rw [hlx];exact S8.of ho,fun j x hj=>?_,fun j x i' lv hj hi'=>?_⟩
    ·unfold execOp
     simp only [hop]
     rw [Sem.run_bind,e1,e2,hr];rfl
    ·rw [← hxs] at hj
     have:=List.eq_of_mem_replicate (List.mem_of_getElem? hj)
     rw [this,bp1 hv];exact hzl
    ·have hjl : j < m.toNat:=by rw [← hlx];exact (List.getElem?_eq_some_iff.1 hj).1
     rw [← hxs] at hj
     have:=List.eq_of_mem_replicate (List.mem_of_getElem? hj)
     subst this
     obtain ⟨u,hu',hur⟩:=bi6 (Zn:=Zn) (w:=w') hv hi'
     have hil : i' < sz:=by rw [← hzl];exact (List.getElem?_eq_some_iff.1 hu').1
     have hzc : z.cells.size = sz:=by rw [← hzl,← hz];simp
     refine ⟨u,?_,hur (List.all_eq_true.1 h1 u (List.mem_of_getElem? hu'))⟩
     have hlt2 : j * sz + i' < m.toNat * sz:=by
      have : (j + 1) * sz≤m.toNat * sz:=Nat.mul_le_mul_right _ hjl
      rw [Nat.succ_mul] at this
      omega
     have hmod : (j * sz + i') % sz = i':=by rw [Nat.add_comm,Nat.add_mul_mod_self_right];exact Nat.mod_eq_of_lt hil
     have hmm : i' < z.cells.size:=by omega
     rw [← hz] at hu'
     have hzi : z.cells[i']! = u:=by
      rw [getElem!_pos z.cells i' hmm]
      rw [Array.getElem?_toList,Array.getElem?_eq_getElem hmm] at hu'
      injection hu'
     simp [madeCells,hlt2,hzc,hmod,hzi]
end
end Go.Proofs.YtahmbcgolnplgaaGreatA
namespace Go.Proofs.YtahmbcgolnplgaaGreatA
open Go
theorem bu9 (P : Program) {g o : Nat} {t : TypeId} : ∀ (vs : List Value) (i : Nat) {cur : Array Value} {w : World},as4 w g cur t→o + i + vs.length≤cur.size→(∀ v ∈ vs,v.oneCell' = true) →
 (storeCells ⟨g,o,none⟩ vs i).run P w = .ok () (w.setRow g (cur.toList.take (o + i) ++ vs ++ cur.toList.drop (o + i + vs.length)).toArray):=by
 intro vs
 induction vs with
 | nil=>
  rintro i cur w ⟨fz,hg,hz⟩ hl h1
  simp only [storeCells,List.append_nil,List.length_nil,Nat.add_zero,List.take_append_drop,Array.toArray_toList]
  rw [setRow_self w g cur t fz hg];rfl
 | cons v rest ih=>
  rintro i cur w ⟨fz,hg,hz⟩ hl h1
  simp only [List.length_cons] at hl
  have hi : o + i < cur.size:=by omega
  have hfro : w.frozen? ⟨g,o + i,none⟩ = false:=by
   obtain ⟨lo,up⟩:=fz
   simp only [World.frozen?,hg,Bool.and_eq_false_iff,decide_eq_false_iff_not]
   rcases hz with hz | hz
   ·injection hz with h2 h3;right;omega
   ·left;have:=hz.1;dsimp only at this;omega
  have hst : (store ((⟨g,o,none⟩ : Addr).add i) v).run P w = .ok () (w.setRow g (cur.setIfInBounds (o + i) v)):=by
   rw [show (⟨g,o,none⟩ : Addr).add i = ⟨g,o + i,none⟩ by unfold Addr.add;split <;> simp_all,run_store P w _ v _ (h1 v List.mem_cons_self),show w.cell? ⟨g,o + i,none⟩ = some cur[o + i] by simp [World.cell?,hg,hi]]
   simp [hfro,setCell_eq_setRow w g (o + i) cur t fz v hg]
  have ih:=ih (i + 1) (cur:=cur.setIfInBounds (o + i) v) (w:=w.setRow g (cur.setIfInBounds (o + i) v)) ⟨fz,setRow_heap w g cur _ t _ hg,by simpa using hz⟩ (by simp;omega) (fun x hx=>h1 x (List.mem_cons_of_mem _ hx))
  simp only [storeCells,Sem.run_bind,hst,Result.andThen_ok,ih,setRow_setRow]
  congr 3
  have e:=list_seg_step cur.toList (o + i) v rest (by simp;omega)
  simpa [Array.toList_setIfInBounds,Nat.add_assoc] using e
theorem bk6 {w : World} {g : Nat} {cur : Array Value} {e : TypeId} (h : as4 w g cur e) {a n : Nat} {X : List Value} (hX : X.length = n) (hle : a + n≤cur.size) : as4 (w.setRow g (cur.toList.take a ++ X ++ cur.toList.drop (a + n)).toArray) g (cur.toList.take a ++ X ++ cur.toList.drop (a + n)).toArray e:=by
 obtain ⟨fz,hg,hz⟩:=h
 refine ⟨fz,setRow_heap w g cur _ e _ hg,?_⟩
 rcases hz with hz | hz
 ·exact .inl hz
 ·refine .inr ⟨?_,hz.2⟩
  have:=hz.1
  simp only [List.size_toArray,List.length_append,List.length_take,List.length_drop,Array.length_toList];omega
section
variable {P : Program} {E : C5} {nt : Nat} {s : S} {o : Oper} {d : Nat}
theorem aJ9 {v : Value} {k : Nat} (h : v.ownBlock = some k) : M9 v = some k:=by
 cases v with
 | slice a n c=>cases a with
  | none=>cases h
  | some a=>exact h
 | _=>cases h
theorem bP6 {b t : Nat} {cells cells' : List AV} {lk tl : List Nat} (hd : o.dst = none) (hb : gB s.bk b = .box t cells)
 (h : ∀ tm bk ρ Zn a w g (cs : List Value),aq1 s lk (b :: tl) tm bk→St E nt ρ Zn tm bk a w→ρ b = .pointer (some ⟨g,0,none⟩)→w.heap[g]? = some (.cells cs.toArray t (0,0))→Fa (L6 (fz E Zn) w ρ bk) cells cs→∃ cs' : List Value,(execOp a.eval o).run P w = .ok .skip (w.setRow g cs'.toArray)∧Fa (L6 (fz E Zn) w ρ bk) cells' cs') :
 s8 P E nt o s ⟨none,.junk,[(b,.box t cells')]⟩ lk (b :: tl):=by
 intro tm bk hag a w ⟨ρ,Zn,hs⟩
 have hbk : bk b = .box t cells:=(hag.2 b List.mem_cons_self).trans hb
 have hblk:=hs.blk b
 rw [hbk] at hblk
 obtain ⟨g,cs,e1,e2,e3⟩:=hblk
 obtain ⟨cs',h1,h2⟩:=h tm bk ρ Zn a w g cs hag hs e1 e2 e3
 have hown : O9 ρ bk b g:=⟨by rw [hbk];rfl,by rw [e1];rfl⟩
 refine ⟨_,undef,_,h1,.inr ⟨rfl,rfl⟩,ρ,Zn,?_⟩
 rw [hd]
 have hsz : (w.setRow g cs'.toArray).heap.size = w.heap.size:=by simp [World.setRow]
 refine hs.upd (fun i=>i = b) rfl rfl rfl (by omega) (fun k hk ho=>setRow_other w g k _ (fun e=>ho b rfl (e▸hown))) (fun _ _=>rfl) (fun i hi=>by rw [R5];exact if_neg hi) (fun i hi hne=>?_) (fun _ h=>h) (fun _ h=>.inl h) (fun i hi m=>?_) (fun i k hi ho=>?_) (fun i j k hi hj _ _=>hi.trans hj.symm) rfl rfl (fun i=>.inl ⟨rfl,rfl⟩) (fun i hi=>by subst hi;rw [R5];refine ⟨by rw [hbk];rfl,?_⟩;show isD (if i = i then _ else bk i) = false;rw [if_pos rfl];rfl)
 ·subst hi
  rw [R5]
  show (if i = i then _ else bk i)≠.fresh∧_
  rw [if_pos rfl]
  exact ⟨by simp,rfl⟩
 ·subst hi
  rw [R5]
  show R3 _ _ _ _ _ (if i = i then _ else bk i)
  rw [if_pos rfl]
  rw [R5] at m
  exact ⟨g,cs',e1,setRow_heap w g _ _ t _ e2,h2.imp fun _ _ h=>L6.move m h⟩
 ·subst hi
  have h3 : M9 (ρ i) = some k:=ho.2
  have : O9 ρ bk i k:=⟨by rw [hbk];rfl,h3⟩
  exact ⟨.inr ⟨i,rfl,this⟩,(hs.out i k this).2⟩
theorem aH1 {α : Type} {l m : List α} {a n q : Nat} (h : a + n≤l.length) (hm : m.length = n) : (l.take a ++ m ++ l.drop (a + n))[q]? = if q < a then l[q]? else if q < a + n then m[q - a]? else l[q]?:=by
 have e1 : (l.take a).length = a:=by simp;omega
 have e2 : (l.take a ++ m).length = a + n:=by simp;omega
 by_cases h1 : q < a
 ·rw [if_pos h1,List.append_assoc,List.getElem?_append_left (by omega),List.getElem?_take,if_pos h1]
 ·rw [if_neg h1]
  by_cases h2 : q < a + n
  ·rw [if_pos h2,List.append_assoc,List.getElem?_append_right (by omega),e1,List.getElem?_append_left (by omega)]
  ·rw [if_neg h2,List.getElem?_append_right (by omega),e2,List.getElem?_drop,show a + n + (q - (a + n)) = q by omega]
theorem aO6 {Zf : Fl→Nat→Prop} {w : World} {ρ : Nat→Value} {bk : Nat→l9} {l : List AV} {vs : List Value} (h : Fa (L6 Zf w ρ bk) l vs) : ∀ v ∈ vs,v.oneCell' = true:=fun v hv=>by
 obtain ⟨i,hi,rfl⟩:=List.getElem_of_mem hv
 obtain ⟨x,_,hr⟩:=h.get' (List.getElem?_eq_getElem hi)
 exact bl6 hr
theorem cd5 {T b c t n : Nat} {p x : Operand} {y : AV} {cells cells' : List AV} (hop : o.op = .store T p x) (hd : o.dst = none) (hp : opd s p = .box b c) (hb : gB s.bk b = .box t cells) (hx : opd s x = y) (hy : af7 y = true) (hT : ae7 P T n = true) (hn : Nat.beq y.leaves.length n = true) (hle : Nat.ble (c + n) cells.length = true) (hc : cells.take c ++ y.leaves ++ cells.drop (c + n) = cells') :
 s8 P E nt o s ⟨none,.junk,[(b,.box t cells')]⟩ (l8 p ++ l8 x) [b]:=
 bP6 hd hb fun tm bk ρ Zn a w g cs hag hs e1 e2 e3=>by
  have h1:=St.opd (s:=s) hs p (fun t ht=>hag.1 t (List.mem_append_left _ ht))
  have h2:=St.opd (s:=s) hs x (fun t ht=>hag.1 t (List.mem_append_right _ ht))
  rw [hp] at h1
  rw [hx] at h2
  obtain ⟨_,g',h3,h4⟩:=L0 h1 rfl
  rw [e1] at h3
  injection h3 with h3;injection h3 with h3;injection h3 with h3
  subst h3
  have h5:=aU8 (ap9 h2 hy)
  have hn':=D6 hn
  have hle':=Nat.le_of_ble_eq_true hle
  have hvl : (a.eval x).cells.toList.length = n:=by rw [← h5.1];exact hn'
  have hcl:=e3.1
  refine ⟨cs.take c ++ (a.eval x).cells.toList ++ cs.drop (c + n),?_,?_⟩
  ·have hst:=run_storeCells_at P g c t (a.eval x).cells.toList 0 cs.toArray w e2 (by simp at hvl ⊢;omega) (aO6 h5)
   unfold execOp
   simp only [hop]
   have hvs : (a.eval x).cells.size = n:=by simpa using hvl
   simp only [Nat.add_zero] at hst
   rw [hvl] at hst
   simp [Instr.storeAt,Instr.sureAddr,h4,storeVar,ap1 hT,hvs,hst]
  ·rw [← hc]
   exact ((e3.take c).append h5).append (e3.drop (c + n))
theorem bJ0 {b e sz : Nat} {xs xs' : List AV} {lk tl : List Nat} (hd : o.dst = none) (hb : gB s.bk b = .row e sz xs)
 (h : ∀ tm bk ρ Zn a w,aq1 s lk (b :: tl) tm bk→St E nt ρ Zn tm bk a w→O7 Zn w e sz (ρ b) xs→∃ w',(execOp a.eval o).run P w = .ok .skip w'∧w.grownBy w' (ρ b).ownBlock∧((∀ k,Zn k→w'.heap[k]? = w.heap[k]?)→O7 Zn w' e sz (ρ b) xs')) :
 s8 P E nt o s ⟨none,.junk,[(b,.row e sz xs')]⟩ lk (b :: tl):=by
 intro tm bk hag a w ⟨ρ,Zn,hs⟩
 have hbk : bk b = .row e sz xs:=(hag.2 b List.mem_cons_self).trans hb
 have hblk:=hs.blk b
 rw [hbk] at hblk
 obtain ⟨w',h1,hg,h2⟩:=h tm bk ρ Zn a w hag hs hblk
 have ownk : ∀ k,(ρ b).ownBlock = some k→O9 ρ bk b k:=fun k hk=>⟨by rw [hbk];rfl,aJ9 hk⟩
 have hkeep : ∀ k,k < w.heap.size→¬ O9 ρ bk b k→w'.heap[k]? = w.heap[k]?:=fun k hk ho=>hg.block k hk (fun e=>ho (ownk k e.symm))
 refine ⟨_,undef,_,h1,.inr ⟨rfl,rfl⟩,ρ,Zn,?_⟩
 rw [hd]
 refine hs.upd (fun i=>i = b) hg.os hg.tape hg.output hg.size (fun k hk ho=>hkeep k hk (ho b rfl)) (fun _ _=>rfl) (fun i hi=>by rw [R5];exact if_neg hi) (fun i hi hne=>?_) (fun _ h=>h) (fun _ h=>.inl h) (fun i hi m=>?_) (fun i k hi ho=>?_) (fun i j k hi hj _ _=>hi.trans hj.symm) rfl rfl (fun i=>.inl ⟨rfl,rfl⟩) (fun i hi=>by subst hi;rw [R5];refine ⟨by rw [hbk];rfl,?_⟩;show isD (if i = i then _ else bk i) = false;rw [if_pos rfl];rfl)
 ·subst hi
  rw [R5]
  show (if i = i then _ else bk i)≠.fresh∧_
  rw [if_pos rfl]
  exact ⟨by simp,rfl⟩
 ·subst hi
  rw [R5]
  show R3 _ _ _ _ _ (if i = i then _ else bk i)
  rw [if_pos rfl]
  exact h2 (fun k hz=>hkeep k (hs.zn k hz).1 (fun ho=>(hs.out i k ho).2 hz))
 ·subst hi
  have h3 : M9 (ρ i) = some k:=ho.2
  have : O9 ρ bk i k:=⟨by rw [hbk];rfl,h3⟩
  exact ⟨.inr ⟨i,rfl,this⟩,(hs.out i k this).2⟩
theorem ca4 {T b e sz i j n : Nat} {p x : Operand} {y v v' : AV} {xs xs' : List AV} (hop : o.op = .store T p x) (hd : o.dst = none) (hp : opd s p = .elp b sz i j) (hb : gB s.bk b = .row e sz xs) (hx : opd s x = y) (hy : af7 y = true) (hpl : y.leaves.all plain = true) (hT : ae7 P T n = true) (hn : Nat.beq y.leaves.length n = true)
 (hv : xs[i]? = some v) (hle : Nat.ble (j + n) v.leaves.length = true) (hv' : v'.leaves = v.leaves.take j ++ y.leaves ++ v.leaves.drop (j + n)) (hxs : xs.set i v' = xs') :
 s8 P E nt o s ⟨none,.junk,[(b,.row e sz xs')]⟩ (l8 p ++ l8 x) [b]:=
 bJ0 hd hb fun tm bk ρ Zn a w hag hs hrow=>by
  have h1:=St.opd (s:=s) hs p (fun t ht=>hag.1 t (List.mem_append_left _ ht))
  have h2:=St.opd (s:=s) hs x (fun t ht=>hag.1 t (List.mem_append_right _ ht))
  rw [hp] at h1
  rw [hx] at h2
  obtain ⟨_,g,n0,c0,h3,h4⟩:=L0 h1 rfl
  have h5:=aU8 (ap9 h2 hy)
  have hn':=D6 hn
  have hle':=Nat.le_of_ble_eq_true hle
  have hvl : (a.eval x).cells.toList.length = n:=by rw [← h5.1];exact hn'
  obtain ⟨h0,inner,hown,hl,hr⟩:=hrow
  have hi : i < xs.length:=(List.getElem?_eq_some_iff.1 hv).1
  have hvsz:=hl i v hv
  rcases hown.2 with ⟨e1,e2⟩ | ⟨g',cap,cur,e1,_,hh,hnc,hcm,hcs,htk⟩
  ·omega
  ·rw [h3] at e1
   injection e1 with e1 e6 e7
   injection e1 with e1;injection e1 with e1
   subst e1
   have hbound : i * sz + j + n≤xs.length * sz:=by
    have : (i + 1) * sz≤xs.length * sz:=Nat.mul_le_mul_right _ hi
    rw [Nat.succ_mul] at this
    omega
   have hcapb : xs.length * sz≤cap * sz:=Nat.mul_le_mul_right _ hnc
   have hst:=bu9 P (a.eval x).cells.toList 0 hh (o:=i * sz + j) (by simp at hvl ⊢;omega) (aO6 h5)
   simp only [Nat.add_zero] at hst
   rw [hvl] at hst
   have hob : (ρ b).ownBlock = some g:=by rw [h3];rfl
   refine ⟨w.setRow g (cur.toList.take (i * sz + j) ++ (a.eval x).cells.toList ++ cur.toList.drop (i * sz + j + n)).toArray,?_,⟨rfl,rfl,rfl,by simp [World.setRow],fun k hk hne=>setRow_other w g k _ (fun e=>hne (by rw [hob,e]))⟩,fun hz=>?_⟩
   ·unfold execOp
    simp only [hop]
    have hvs : (a.eval x).cells.size = n:=by simpa using hvl
    simp [Instr.storeAt,Instr.sureAddr,h4,storeVar,ap1 hT,hvs,hst]
   ·
    have hlx : xs'.length = xs.length:=by rw [← hxs];simp
    have hin : inner.length = xs.length * sz:=hown.1
    let cs:=(a.eval x).cells.toList
    have hcsl : cs.length = n:=hvl
    refine ⟨h0,inner.take (i * sz + j) ++ cs ++ inner.drop (i * sz + j + n),⟨?_,.inr ⟨g,cap,_,by rw [h3,hlx];congr 1,Nat.zero_le _,bk6 hh hcsl (by rw [hcs];omega),by rw [hlx];exact hnc,hcm,?_,?_⟩⟩,fun q z hz'=>?_,fun q z k lv hz' hk=>?_⟩
    ·simp only [List.length_append,List.length_take,List.length_drop]
     rw [hlx,hcsl]
     omega
    ·simp only [List.size_toArray,List.length_append,List.length_take,List.length_drop,Array.length_toList]
     show min _ _ + cs.length + _ = _
     rw [hcsl];omega
    ·
     rw [hlx]
     show ((cur.toList.take (i * sz + j) ++ cs ++ cur.toList.drop (i * sz + j + n))).take (xs.length * sz) = _
     apply List.ext_getElem?
     intro q
     rw [List.getElem?_take]
     have hcl : cur.toList.length = cap * sz:=by simpa using hcs
     have hin' : ∀ q,q < xs.length * sz→inner[q]? = cur.toList[q]?:=fun q hq=>by rw [← htk,List.getElem?_take,if_pos hq]
     by_cases hq : q < xs.length * sz
     ·rw [if_pos hq,aH1 (by omega) hcsl,aH1 (by omega) hcsl,hin' q hq]
     ·rw [if_neg hq,List.getElem?_eq_none]
      simp only [List.length_append,List.length_take,List.length_drop]
      rw [hcsl];omega
    ·rw [← hxs] at hz'
     by_cases hqi : i = q
     ·subst hqi
      rw [List.getElem?_set_self hi] at hz'
      injection hz' with hz'
      subst hz'
      rw [hv']
      simp
      omega
     ·rw [List.getElem?_set_ne hqi] at hz'
      exact hl q z hz'
    ·have e9 : (inner.take (i * sz + j)).length = i * sz + j:=by simp;omega
     have zmove : ∀ {x : AV} {u : Value},C3 Zn w x u→C3 Zn (w.setRow g (cur.toList.take (i * sz + j) ++ cs ++ cur.toList.drop (i * sz + j + n)).toArray) x u:=fun h=>h.move hz (fun _ h=>h)
     rw [← hxs] at hz'
     by_cases hqi : i = q
     ·subst hqi
      rw [List.getElem?_set_self hi] at hz'
      injection hz' with hz'
      subst hz'
      rw [hv',aH1 hle' hn'] at hk
      rw [aH1 (by omega) hcsl]
      by_cases h : k < j
      ·rw [if_pos h] at hk
       rw [if_pos (by omega)]
       obtain ⟨u,hu,hrep⟩:=hr i v k lv hv hk
       exact ⟨u,hu,zmove hrep⟩
      ·rw [if_neg h] at hk
       rw [if_neg (by omega)]
       by_cases h' : k < j + n
       ·rw [if_pos h'] at hk
        rw [if_pos (by omega)]
        obtain ⟨u,hu,hrep⟩:=h5.get hk
        refine ⟨u,?_,zmove (bd3 (List.all_eq_true.1 hpl lv (List.mem_of_getElem? hk)) hrep)⟩
        rw [show i * sz + k - (i * sz + j) = k - j by omega]
        exact hu
       ·rw [if_neg h'] at hk
        rw [if_neg (by omega)]
        obtain ⟨u,hu,hrep⟩:=hr i v k lv hv hk
        exact ⟨u,hu,zmove hrep⟩
     ·have hne:=hqi
      rw [List.getElem?_set_ne hqi] at hz'
      obtain ⟨u,hu,hrep⟩:=hr q z k lv hz' hk
      refine ⟨u,?_,zmove hrep⟩
      have hk' : k < sz:=by have:=hl q z hz';have:=(List.getElem?_eq_some_iff.1 hk).1;omega
      rw [aH1 (by omega) hcsl]
      rcases Nat.lt_or_gt_of_ne hne with hlt | hgt
      ·have h6 : (i + 1) * sz≤q * sz:=Nat.mul_le_mul_right _ hlt
       rw [Nat.succ_mul] at h6
       rw [if_neg (by omega),if_neg (by omega)]
       exact hu
      ·have h6 : (q + 1) * sz≤i * sz:=Nat.mul_le_mul_right _ hgt
       rw [Nat.succ_mul] at h6
       rw [if_pos (by omega)]
       exact hu
end
end Go.Proofs.YtahmbcgolnplgaaGreatA
namespace Go.Proofs.YtahmbcgolnplgaaGreatA
open Go
def aq4 (ys : List AV) : Prop:=∀ x ∈ ys,∀ lv ∈ x.leaves,∃ v,lv = .lit v
section
variable {P : Program} {E : C5} {nt : Nat} {s : S} {o : Oper} {d : Nat}
inductive Nw (s : S) (sz : Nat) : AV→List AV→List Nat→Prop
 | row {b e : Nat} {ys : List AV} : gB s.bk b = .row e sz ys→Nw s sz (.row b) ys [b]
 | sub {b e lo n : Nat} {xs : List AV} : gB s.bk b = .row e sz xs→Nw s sz (.sub b sz lo n) ((xs.drop lo).take n) [b]
 | slN {ys : List AV} : Nw s sz (.sl .n sz ys) ys []
 | slF {z : Fl} {ys : List AV} : aq4 ys→Nw s sz (.sl z sz ys) ys []
 | nil : Nw s sz (.lit (.slice none 0 0)) [] []
theorem Nw.ok {sz : Nat} {x : AV} {ys : List AV} {tl : List Nat} (h : Nw s sz x ys tl) {ρ : Nat→Value} {Zn : Nat→Prop} {tm : Nat→AV} {bk : Nat→l9} {a : Act} {w : World} (hs : St E nt ρ Zn tm bk a w) (hb : ∀ b ∈ tl,bk b = gB s.bk b) {u : Value} (hu : G9 (fz E Zn) w ρ bk x u) :
 (u = .slice none 0 0∧ys = [])∨∃ A c,u = .slice A ys.length c∧(0 < ys.length→∃ ad,A = some ad)∧(∀ (j : Nat) (x : AV),ys[j]? = some x→x.leaves.length = sz) ∧
  ∀ ad,A = some ad→∀ (j : Nat) (x : AV) (i : Nat) (lv : AV),ys[j]? = some x→x.leaves[i]? = some lv→∃ q,w.cell? (ad.add (j * sz + i)) = some q∧C3 Zn w lv q:=by
 have key : ∀ {Z : Nat→Prop} {z : Fl} {ys : List AV} {u : Value},C3 Z w (.sl z sz ys) u→((∀ k,Z k→Zn k)∨aq4 ys)→∃ A c,u = .slice A ys.length c∧(0 < ys.length→∃ ad,A = some ad)∧(∀ (j : Nat) (x : AV),ys[j]? = some x→x.leaves.length = sz) ∧
  ∀ ad,A = some ad→∀ (j : Nat) (x : AV) (i : Nat) (lv : AV),ys[j]? = some x→x.leaves[i]? = some lv→∃ q,w.cell? (ad.add (j * sz + i)) = some q∧C3 Zn w lv q:=by
  intro Z z ys u h hz
  cases h with
  | @sl _ _ _ A c ad f hc hm hz0 hA hl hcell hrep=>
   refine ⟨A,c,rfl,fun hp=>⟨ad,(hA hp).1⟩,hl,fun ad' hA' j x i lv hj hi=>?_⟩
   have hp : 0 < ys.length:=Nat.lt_of_le_of_lt (Nat.zero_le _) (List.getElem?_eq_some_iff.1 hj).1
   have:=(hA hp).1.symm.trans hA'
   injection this with this
   subst this
   refine ⟨f j i,hcell _ _ _ _ hj hi,?_⟩
   rcases hz with hz | hz
   ·exact (hrep _ _ _ _ hj hi).move (fun _ _=>rfl) hz
   ·obtain ⟨v,rfl⟩:=hz x (List.mem_of_getElem? hj) lv (List.mem_of_getElem? hi)
    have h1:=hrep _ _ _ _ hj hi
    generalize f j i = q at h1
    cases h1 with
    | lit h=>exact .lit h
 cases h with
 | @row b e ys h1=>
  obtain ⟨_,rfl,_⟩:=L0 hu rfl
  have hblk:=hs.blk b
  rw [hb b (List.mem_singleton.2 rfl),h1] at hblk
  obtain ⟨A,c,e1,hc,hA⟩:=ah8 hblk
  refine .inr ⟨A,c,e1,fun hp=>?_,hblk.2.choose_spec.2.1,fun ad hA' j x i lv hj hi=>?_⟩
  ·obtain ⟨g,h⟩:=hA hp;exact ⟨_,h⟩
  ·have hp : 0 < ys.length:=Nat.lt_of_le_of_lt (Nat.zero_le _) (List.getElem?_eq_some_iff.1 hj).1
   obtain ⟨g,rfl⟩:=hA hp
   injection hA' with hA'
   subst hA'
   obtain ⟨q,hq,hr⟩:=(ax8 hblk e1 hj).2 i lv hi
   exact ⟨q,by rw [add_lit];exact hq,hr⟩
 | @sub b e lo n xs h1=>
  obtain ⟨_,A,N,c,h2,h3,rfl⟩:=L0 hu rfl
  have hblk:=hs.blk b
  rw [hb b (List.mem_singleton.2 rfl),h1,h2] at hblk
  have hsl:=bo4 (z:=.n) (Z:=fun k=>Zn k∨M9 (.slice A N c) = some k) hblk h3 (fun k hk=>.inl hk) (fun k hk=>.inr hk)
  obtain ⟨A',c',e1,e2,e3,e4⟩:=(show ∃ A' c',sliced A lo (lo + n) c sz = .slice A' ((xs.drop lo).take n).length c'∧(0 < ((xs.drop lo).take n).length→∃ ad,A' = some ad)∧(∀ (j : Nat) (x : AV),((xs.drop lo).take n)[j]? = some x→x.leaves.length = sz)∧∀ ad,A' = some ad→∀ (j : Nat) (x : AV) (i : Nat) (lv : AV),((xs.drop lo).take n)[j]? = some x→x.leaves[i]? = some lv→∃ q,w.cell? (ad.add (j * sz + i)) = some q∧C3 Zn w lv q from by
   have hN : N = xs.length:=by
    obtain ⟨A1,c1,e5,_⟩:=ah8 hblk
    injection e5
   have hlen : ((xs.drop lo).take n).length = n:=by simp;omega
   have get : ∀ {j x},((xs.drop lo).take n)[j]? = some x→xs[lo + j]? = some x:=by
    intro j x hj
    rw [List.getElem?_take] at hj
    split at hj
    ·rwa [List.getElem?_drop] at hj
    ·cases hj
   obtain ⟨A1,c1,e5,e6,e7⟩:=ah8 hblk
   injection e5 with e5 e8 e9
   subst e5;subst e9
   have e10 : sliced A lo (lo + n) c sz = .slice (if c = lo then A else A.map (·.add (lo * sz))) ((xs.drop lo).take n).length (c - lo):=by
    unfold sliced
    rw [hlen,Nat.add_sub_cancel_left]
   refine ⟨_,_,e10,fun hp=>?_,fun j x hj=>hblk.2.choose_spec.2.1 _ _ (get hj),fun ad had j x i lv hj hi=>?_⟩
   ·obtain ⟨g,rfl⟩:=e7 (by omega)
    rw [if_neg (by omega)]
    exact ⟨_,rfl⟩
   ·have hp : 0 < ((xs.drop lo).take n).length:=Nat.lt_of_le_of_lt (Nat.zero_le _) (List.getElem?_eq_some_iff.1 hj).1
    obtain ⟨g,rfl⟩:=e7 (by omega)
    rw [if_neg (by omega)] at had
    injection had with had
    subst had
    obtain ⟨q,hq,hr⟩:=(ax8 hblk rfl (get hj)).2 i lv hi
    refine ⟨q,?_,hr⟩
    show w.cell? ((Addr.add ⟨g,0,none⟩ (lo * sz)).add (j * sz + i)) = some q
    rw [add_lit,aw3,← hq]
    congr 2
    rw [Nat.add_mul];omega)
  exact .inr ⟨A',c',e1,e2,e3,e4⟩
 | @slN=>exact .inr (key (Z:=Zn) (L0 hu rfl) (.inl fun _ h=>h))
 | @slF z _ hf=>exact .inr (key (Z:=fz E Zn z) (L0 hu rfl) (.inr hf))
 | nil=>exact .inl ⟨N1 hu,rfl⟩
theorem bQ8 {sz : Nat} {ys : List AV} {w : World} {Zn : Nat→Prop} {ad : Addr} (hsz : 0 < sz) (hl : ∀ (j : Nat) (x : AV),ys[j]? = some x→x.leaves.length = sz) (hc : ∀ (j : Nat) (x : AV) (i : Nat) (lv : AV),ys[j]? = some x→x.leaves[i]? = some lv→∃ q,w.cell? (ad.add (j * sz + i)) = some q∧C3 Zn w lv q) :
 ∃ news : List Value,news.length = ys.length * sz∧(∀ j u,news[j]? = some u→w.cell? (ad.add j) = some u)∧(∀ u ∈ news,u.oneCell' = true)∧∀ (j : Nat) (x : AV) (i : Nat) (lv : AV),ys[j]? = some x→x.leaves[i]? = some lv→∃ q,news[j * sz + i]? = some q∧C3 Zn w lv q:=by
 have cell : ∀ k,k < ys.length * sz→∃ q,w.cell? (ad.add k) = some q∧q.oneCell' = true:=by
  intro k hk
  have hj : k / sz < ys.length:=Nat.div_lt_of_lt_mul (by rw [Nat.mul_comm];exact hk)
  have hi : k % sz < sz:=Nat.mod_lt _ hsz
  have h1:=List.getElem?_eq_getElem hj
  have h2:=hl _ _ h1
  obtain ⟨q,hq,hr⟩:=hc _ _ _ _ h1 (List.getElem?_eq_getElem (show k % sz < (ys[k / sz]).leaves.length by omega))
  rw [Nat.mul_comm,Nat.div_add_mod] at hq
  exact ⟨q,hq,hr.one⟩
 refine ⟨(List.range (ys.length * sz)).map fun k=>(w.cell? (ad.add k)).getD undef,by simp,fun j u hu=>?_,fun u hu=>?_,fun j x i lv hj hi=>?_⟩
 ·rw [List.getElem?_map] at hu
  obtain ⟨k,hk,rfl⟩:=Option.map_eq_some_iff.1 hu
  have hj:=(List.getElem?_eq_some_iff.1 hk).1
  rw [List.getElem?_range (by simpa using hj)] at hk
  injection hk with hk
  subst hk
  obtain ⟨q,hq,_⟩:=cell j (by simpa using hj)
  rw [hq];rfl
 ·obtain ⟨k,hk,rfl⟩:=List.mem_map.1 hu
  obtain ⟨q,hq,h1⟩:=cell k (by simpa using hk)
  rw [hq];exact h1
 ·obtain ⟨q,hq,hr⟩:=hc j x i lv hj hi
  refine ⟨q,?_,hr⟩
  have hj':=(List.getElem?_eq_some_iff.1 hj).1
  have hi' : i < sz:=by have:=hl j x hj;have:=(List.getElem?_eq_some_iff.1 hi).1;omega
  have hlt : j * sz + i < ys.length * sz:=by
   have : (j + 1) * sz≤ys.length * sz:=Nat.mul_le_mul_right _ hj'
   rw [Nat.succ_mul] at this
   omega
  rw [List.getElem?_map,List.getElem?_range hlt,Option.map_some,hq]
  rfl
theorem at5 (bk : Nat→l9) (b c : Nat) (x y : l9) : O0 bk [(b,x),(c,y)] = fun i=>if i = b then x else if i = c then y else bk i:=by
 funext i
 show (match (match Nat.beq i b with | true=>some x | false=>(match Nat.beq i c with | true=>some y | false=>none)) with | some y=>y | none=>bk i) = _
 cases he : Nat.beq i b with
 | true=>simp [D6 he]
 | false=>
  cases hc : Nat.beq i c with
  | true=>
   have h1:=D6 hc
   subst h1
   simp [ad0 he]
  | false=>simp [ad0 he,ad0 hc]
theorem bh1 {b nb e sz e' sz' : Nat} {xs zs : List AV} {lk tl : List Nat} (hd : o.dst = some d) (hlt : Nat.blt d nt = true) (hnb : gB s.bk nb = .fresh) (hb : gB s.bk b = .row e sz xs)
 (h : ∀ tm bk ρ Zn a w,aq1 s lk (nb :: b :: tl) tm bk→St E nt ρ Zn tm bk a w→O7 Zn w e sz (ρ b) xs→∃ v w',(execOp a.eval o).run P w = .ok (.value v) w'∧w.grownBy w' (ρ b).ownBlock∧(∀ k,v.ownBlock = some k→w.heap.size≤k∨(ρ b).ownBlock = some k)∧((∀ k,Zn k→w'.heap[k]? = w.heap[k]?)→O7 Zn w' e' sz' v zs)) :
 s8 P E nt o s ⟨some d,.row nb,[(b,.gone),(nb,.row e' sz' zs)]⟩ lk (nb :: b :: tl):=by
 intro tm bk hag a w ⟨ρ,Zn,hs⟩
 have hf : bk nb = .fresh:=(hag.2 nb List.mem_cons_self).trans hnb
 have hbk : bk b = .row e sz xs:=(hag.2 b (List.mem_cons_of_mem _ List.mem_cons_self)).trans hb
 have hne : b≠nb:=fun e=>by rw [e,hf] at hbk;cases hbk
 have hblk:=hs.blk b
 rw [hbk] at hblk
 obtain ⟨v,w',h1,hg,hv,h2⟩:=h tm bk ρ Zn a w hag hs hblk
 have ownk : ∀ k,(ρ b).ownBlock = some k→O9 ρ bk b k:=fun k hk=>⟨by rw [hbk];rfl,aJ9 hk⟩
 have hkeep : ∀ k,k < w.heap.size→¬ O9 ρ bk b k→w'.heap[k]? = w.heap[k]?:=fun k hk ho=>hg.block k hk (fun e=>ho (ownk k e.symm))
 have hzk : ∀ k,Zn k→w'.heap[k]? = w.heap[k]?:=fun k hz=>hkeep k (hs.zn k hz).1 (fun ho=>(hs.out b k ho).2 hz)
 have hrow:=h2 hzk
 obtain ⟨A,c,hform,_⟩:=ah8 hrow
 have hrb : ∀ k,M9 v = some k→v.ownBlock = some k:=by
  rw [hform]
  intro k hk
  cases A with
  | none=>cases hk
  | some a=>exact hk
 refine ⟨_,v,w',h1,.inl rfl,fun i=>if i = nb then v else ρ i,Zn,?_⟩
 have h3 : St E nt (fun i=>if i = nb then v else ρ i) Zn tm (O0 bk [(b,.gone),(nb,.row e' sz' zs)]) a w':=by
  rw [at5]
  refine hs.upd (fun i=>i = b∨i = nb) hg.os hg.tape hg.output hg.size (fun k hk ho=>hkeep k hk (ho b (.inl rfl))) (fun i hi=>if_neg (fun e=>hi (.inr e))) (fun i hi=>?_) (fun i hi hnf=>?_) (fun _ h=>h) (fun _ h=>.inl h) (fun i hi m=>?_) (fun i k hi ho=>?_) (fun i j k hi hj ho ho'=>?_) rfl rfl (fun i=>.inl ⟨rfl,rfl⟩) (fun i hi=>by rcases hi with rfl | rfl;exact ⟨by rw [hbk];rfl,by simp [isD]⟩;exact ⟨by rw [hf];rfl,by by_cases h : i = b <;> simp [isD,h]⟩)
  ·show (if i = b then _ else if i = nb then _ else bk i) = bk i
   rw [if_neg (fun e=>hi (.inl e)),if_neg (fun e=>hi (.inr e))]
  ·rcases hi with rfl | rfl
   ·show (if i = i then _ else _)≠l9.fresh∧(if i = nb then v else ρ i) = ρ i
    rw [if_pos rfl,if_neg hne]
    exact ⟨by simp,rfl⟩
   ·exact absurd hf hnf
  ·rcases hi with rfl | rfl
   ·show R3 _ _ _ _ _ (if i = i then _ else _)
    rw [if_pos rfl];trivial
   ·show R3 _ _ _ _ (if i = i then v else ρ i) (if i = b then _ else if i = i then _ else bk i)
    rw [if_pos rfl,if_neg (Ne.symm hne),if_pos rfl]
    exact hrow
  ·rcases hi with rfl | rfl
   ·have h4 : ad3 (if i = i then l9.gone else _) = true:=ho.1
    rw [if_pos rfl] at h4;cases h4
   ·have h4 : M9 (if i = i then v else ρ i) = some k:=ho.2
    rw [if_pos rfl] at h4
    rcases hv k (hrb k h4) with h5 | h5
    ·exact ⟨.inl h5,fun hz=>absurd (hs.zn _ hz).1 (by omega)⟩
    ·exact ⟨.inr ⟨b,.inl rfl,ownk k h5⟩,(hs.out b k (ownk k h5)).2⟩
  ·have dead : ¬ O9 (fun i=>if i = nb then v else ρ i) (fun i=>if i = b then l9.gone else if i = nb then .row e' sz' zs else bk i) b k:=fun ho=>by
    have h4 : ad3 (if b = b then l9.gone else _) = true:=ho.1
    rw [if_pos rfl] at h4;cases h4
   rcases hi with rfl | rfl
   ·exact absurd ho dead
   ·rcases hj with rfl | rfl
    ·exact absurd ho' dead
    ·rfl
 rw [hd]
 refine h3.put hlt (O5 (.inl ⟨?_,?_,?_⟩))
 ·rw [at5]
  show (if nb = b then _ else if nb = nb then _ else _)≠l9.fresh
  rw [if_neg (Ne.symm hne),if_pos rfl];simp
 ·simp
 ·rw [hform];rfl
theorem bA3 {Zn : Nat→Prop} {w w' : World} {e sz : Nat} {v' : Value} {xs ys : List AV} {inner news : List Value} (h0 : 0 < sz) (hil : inner.length = xs.length * sz) (hlx : ∀ (j : Nat) (x : AV),xs[j]? = some x→x.leaves.length = sz) (hx : ∀ (j : Nat) (x : AV) (i : Nat) (lv : AV),xs[j]? = some x→x.leaves[i]? = some lv→∃ q,inner[j * sz + i]? = some q∧C3 Zn w lv q)
 (hly : ∀ (j : Nat) (x : AV),ys[j]? = some x→x.leaves.length = sz) (hy : ∀ (j : Nat) (x : AV) (i : Nat) (lv : AV),ys[j]? = some x→x.leaves[i]? = some lv→∃ q,news[j * sz + i]? = some q∧C3 Zn w lv q) (hown : S8 w' 0 e sz v' (xs.length + ys.length) (inner ++ news)) (hz : ∀ k,Zn k→w'.heap[k]? = w.heap[k]?) : O7 Zn w' e sz v' (xs ++ ys):=by
 refine ⟨h0,inner ++ news,by rw [List.length_append];exact hown,fun j x hj=>?_,fun j x i lv hj hi=>?_⟩
 ·rcases Nat.lt_or_ge j xs.length with h | h
  ·rw [List.getElem?_append_left h] at hj;exact hlx j x hj
  ·rw [List.getElem?_append_right h] at hj;exact hly _ x hj
 ·rcases Nat.lt_or_ge j xs.length with h | h
  ·rw [List.getElem?_append_left h] at hj
   obtain ⟨q,hq,hr⟩:=hx j x i lv hj hi
   refine ⟨q,?_,hr.move hz (fun _ h=>h)⟩
   rw [List.getElem?_append_left (List.getElem?_eq_some_iff.1 hq).1]
   exact hq
  ·rw [List.getElem?_append_right h] at hj
   obtain ⟨q,hq,hr⟩:=hy _ x i lv hj hi
   refine ⟨q,?_,hr.move hz (fun _ h=>h)⟩
   have e1 : j * sz + i = inner.length + ((j - xs.length) * sz + i):=by
    rw [hil,Nat.sub_mul]
    have:=Nat.mul_le_mul_right sz h
    omega
   rw [e1,List.getElem?_append_right (by omega),Nat.add_sub_cancel_left]
   exact hq
theorem bL5 {w : World} {t ty e : TypeId} {i : TypeInfo} {z : Value} {size bytes : Nat} (ht : P.underlying t = some (.slice e)) (hi : P.info? e = some i) (hz : i.zero = some z) (hsize : i.size = size) (hby : i.bytes = bytes) (hzs : z.cells.size = size) (hsz : 0 < size)
 {v : Value} {n : Nat} {xs : List Value} (hown : S8 w 0 e size v n xs) {a : Addr} {m c : Nat} {news : List Value} (hl : news.length = m * size) (hnews : ∀ j u,news[j]? = some u→w.cell? (a.add j) = some u) (h1 : ∀ u ∈ news,u.oneCell' = true)
 (h63 : n + m≤maxLen) (hbytes : (n + m) * bytes≤140737488355328) :
 ∃ v' w',(Builtin.append_ #[t,t] ty #[v,.slice (some a) m c]).run P w = .ok v' w'∧S8 w' 0 e size v' (n + m) (xs ++ news)∧w.grownBy w' v.ownBlock∧(v'.ownBlock = v.ownBlock∨v'.ownBlock = some w.heap.size):=by
 have plain : w.ownsRow 0 e size v n xs→∃ v' w',(Builtin.append_ #[t,t] ty #[v,.slice (some a) m c]).run P w = .ok v' w'∧S8 w' 0 e size v' (n + m) (xs ++ news)∧w.grownBy w' v.ownBlock∧(v'.ownBlock = v.ownBlock∨v'.ownBlock = some w.heap.size):=fun h=>by
  obtain ⟨v',w',r1,r2,r3,_,r5⟩:=run_append_own_at (P:=P) w 0 t ty e i z size bytes ht hi hz hsize hby hzs hsz v n xs h a m c news hl hnews h1 h63 hbytes (Nat.zero_le _)
  exact ⟨v',w',r1,S8.of r2,r3,r5⟩
 have hlen : (xs ++ news).length = (n + m) * size:=by rw [List.length_append,hown.1,hl,Nat.add_mul]
 rcases hown.2 with ⟨rfl,rfl⟩ | ⟨g,cap,cur,rfl,hb,hg,hnc,hcm,hcs,htake⟩
 ·exact plain ⟨hown.1,.inl ⟨rfl,rfl⟩⟩
 ·obtain ⟨fz,hh,hf⟩:=id hg
  rcases hf with rfl | hf
  ·exact plain ⟨hown.1,.inr ⟨g,cap,cur,rfl,hb,hh,hnc,hcm,hcs,htake⟩⟩
  ·subst hsize
   subst hby
   by_cases hroom : n + m≤cap
   ·have hfit : n * i.size + news.length≤cur.size:=by rw [hl,hcs,← Nat.add_mul];exact Nat.mul_le_mul_right _ hroom
    have hfc:=run_firstCells_some (P:=P) w i.size m a m c news hl hnews
    have hst:=bu9 P news 0 hg (o:=n * i.size) (by simpa using hfit) h1
    simp only [Nat.add_zero] at hst
    refine ⟨.slice (some ⟨g,0,none⟩) (n + m) cap,_,by simp [Builtin.append_,run_underlying ht,sizeOf,typeInfo,hi,Builtin.lenOf,hroom,hfc,Addr.add_lit,hst],⟨hlen,.inr ⟨g,cap,_,rfl,hb,bk6 hg rfl hfit,hroom,hcm,?_,?_⟩⟩,⟨rfl,rfl,rfl,by simp [World.setRow],fun k _ hk=>setRow_other w g k _ (fun e=>hk (by simp [Value.ownBlock,e]))⟩,.inl rfl⟩
    ·simp only [List.size_toArray,List.length_append,List.length_take,List.length_drop,Array.length_toList];omega
    ·rw [htake,← hlen];exact List.take_left
   ·have hr:=run_append_grow (P:=P) w t ty e i z ht hi hz ⟨g,0,none⟩ n cap xs hown.1 (hown.cells (g:=g) rfl) a m c news hl hnews (by omega) (by simp only [maxLen] at h63;omega) (growslice_fits (by omega) hbytes)
    have hge:=grownCap_ge w (n + m) cap e
    refine ⟨_,_,hr,⟨hlen,.inr ⟨w.heap.size,_,_,rfl,Nat.zero_le _,⟨(0,0),heap_alloc_new w.drew _,.inl rfl⟩,hge,grownCap_le_maxLen w (n + m) cap e h63,?_,?_⟩⟩,⟨rfl,rfl,rfl,by simp,fun k hk _=>heap_alloc_old w.drew _ k hk⟩,.inr rfl⟩
    ·simp only [Array.size_append,List.size_toArray,size_zeroCells,hzs,hown.1,hl,← Nat.add_mul]
     congr 1;omega
    ·simp only [Array.toList_append,List.append_assoc]
     rw [← List.append_assoc,← hlen];exact List.take_left
theorem aV7 {T ty e : TypeId} {i : TypeInfo} {v : Value} {n size base : Nat} {xs : List Value} {w : World} (ht : P.underlying T = some (.slice e)) (hi : P.info? e = some i) (hown : S8 w base e size v n xs) (c : Nat) : (Builtin.append_ #[T,T] ty #[v,.slice none 0 c]).run P w = .ok v w:=by
 rcases hown.2 with ⟨rfl,rfl⟩ | ⟨g,cap,cur,rfl,_,_,hnc,_⟩
 ·simp [Builtin.append_,run_underlying ht,sizeOf,typeInfo,hi,Builtin.lenOf,Builtin.firstCells]
 ·simp [Builtin.append_,run_underlying ht,sizeOf,typeInfo,hi,Builtin.lenOf,Builtin.firstCells,hnc,storeCells]
theorem aE0 {T ty e sz bytes : Nat} {zs : List Value} {v u : Value} {xs ys : List AV} {w : World} {Zn : Nat→Prop} (hT : O2 P T e sz = true) (hz : S5 P e = some zs) (hzl : Nat.beq zs.length sz = true) (hby : ah1 P e bytes = true) (hb0 : Nat.blt 0 bytes = true) (hrow : O7 Zn w e sz v xs)
 (hu : (u = .slice none 0 0∧ys = [])∨∃ A c,u = .slice A ys.length c∧(0 < ys.length→∃ ad,A = some ad)∧(∀ (j : Nat) (x : AV),ys[j]? = some x→x.leaves.length = sz)∧∀ ad,A = some ad→∀ (j : Nat) (x : AV) (i : Nat) (lv : AV),ys[j]? = some x→x.leaves[i]? = some lv→∃ q,w.cell? (ad.add (j * sz + i)) = some q∧C3 Zn w lv q)
 (hlen : (xs.length + ys.length) * bytes≤140737488355328) : ∃ v' w',(Builtin.append_ #[T,T] ty #[v,u]).run P w = .ok v' w'∧w.grownBy w' v.ownBlock∧(∀ k,v'.ownBlock = some k→w.heap.size≤k∨v.ownBlock = some k)∧((∀ k,Zn k→w'.heap[k]? = w.heap[k]?)→O7 Zn w' e sz v' (xs ++ ys)):=by
 obtain ⟨hu',hsi⟩:=aH0 hT
 have hzl:=D6 hzl
 obtain ⟨h0,inner,hown,hl,hr⟩:=hrow
 unfold S5 at hz
 unfold ah1 at hby
 unfold ae7 at hsi
 cases hi : P.info? e with
 | none=>rw [hi] at hz;cases hz
 | some i=>
  rw [hi] at hz hby hsi
  simp only at hz
  cases hzz : i.zero with
  | none=>rw [hzz] at hz;cases hz
  | some z=>
   rw [hzz] at hz
   injection hz with hz
   have hb0' : 0 < bytes:=Nat.blt_eq▸hb0
   have hmax : xs.length + ys.length≤maxLen:=by
    have : xs.length + ys.length≤(xs.length + ys.length) * bytes:=Nat.le_mul_of_pos_right _ hb0'
    simp only [maxLen];omega
   have none_case : ∀ c,ys = []→∃ v' w',(Builtin.append_ #[T,T] ty #[v,.slice none 0 c]).run P w = .ok v' w'∧w.grownBy w' v.ownBlock∧(∀ k,v'.ownBlock = some k→w.heap.size≤k∨v.ownBlock = some k)∧((∀ k,Zn k→w'.heap[k]? = w.heap[k]?)→O7 Zn w' e sz v' (xs ++ ys)):=by
    intro c hy
    subst hy
    refine ⟨v,w,aV7 hu' hi hown c,⟨rfl,rfl,rfl,Nat.le_refl _,fun _ _ _=>rfl⟩,fun k hk=>.inr hk,fun _=>?_⟩
    rw [List.append_nil]
    exact ⟨h0,inner,hown,hl,hr⟩
   rcases hu with ⟨rfl,hy⟩ | ⟨A,c,rfl,hA,hly,hcy⟩
   ·exact none_case 0 hy
   ·cases A with
    | none=>
     have hy : ys = []:=by
      cases ys with
      | nil=>rfl
      | cons y ys=>obtain ⟨ad,h⟩:=hA (by simp);cases h
     subst hy
     exact none_case c rfl
    | some ad=>
     obtain ⟨news,n1,n2,n3,n4⟩:=bQ8 h0 hly (hcy ad rfl)
     obtain ⟨v',w',r1,r2,r3,r5⟩:=bL5 (P:=P) (ty:=ty) (c:=c) hu' hi hzz (D6 hsi) (D6 hby) (by rw [← hzl,← hz];simp) h0 hown n1 n2 n3 hmax hlen
     refine ⟨v',w',r1,r3,fun k hk=>?_,fun hzk=>bA3 h0 hown.1 hl hr hly n4 r2 hzk⟩
     rcases r5 with r5 | r5
     ·exact .inr (r5▸hk)
     ·rw [r5] at hk;injection hk with hk;exact .inl (by omega)
theorem aA8 {x y : Operand} {Ts : Array TypeId} {ρ : Operand→Value} {w w' : World} {v : Value} (hop : o.op = .call { callee:=.builtin .append,args:=#[x,y],argTypes:=Ts }) (h : (Builtin.append_ Ts o.type #[ρ x,ρ y]).run P w = .ok v w') : (execOp ρ o).run P w = .ok (.value v) w':=by
 unfold execOp
 simp only [hop,resolve]
 rw [Sem.run_bind,Sem.run_pure,Result.andThen_ok]
 simp only [invoke,builtin]
 rw [Sem.run_bind]
 have : (#[x,y] : Array Operand).map ρ = #[ρ x,ρ y]:=by simp
 rw [this,h]
 rfl
theorem ca0 {T e sz bytes b nb : Nat} {x y : Operand} {p : AV} {zs : List Value} {xs ys zz : List AV} {tl : List Nat} (hop : o.op = .call { callee:=.builtin .append,args:=#[x,y],argTypes:=#[T,T] }) (hd : o.dst = some d) (hlt : Nat.blt d nt = true) (hnb : gB s.bk nb = .fresh) (hx : opd s x = .row b) (hb : gB s.bk b = .row e sz xs) (hy : opd s y = p) (hn : Nw s sz p ys tl) (hT : O2 P T e sz = true) (hz : S5 P e = some zs) (hzl : Nat.beq zs.length sz = true) (hby : ah1 P e bytes = true) (hb0 : Nat.blt 0 bytes = true)
 (hlen : (xs.length + ys.length) * bytes≤140737488355328) (hzz : xs ++ ys = zz) : s8 P E nt o s ⟨some d,.row nb,[(b,.gone),(nb,.row e sz zz)]⟩ (l8 x ++ l8 y) (nb :: b :: tl):=
 bh1 hd hlt hnb hb fun tm bk ρ Zn a w hag hs hrow=>by
  have h1:=St.opd (s:=s) hs x (fun t ht=>hag.1 t (List.mem_append_left _ ht))
  have h2:=St.opd (s:=s) hs y (fun t ht=>hag.1 t (List.mem_append_right _ ht))
  rw [hx] at h1
  rw [hy] at h2
  obtain ⟨_,h3,_⟩:=L0 h1 rfl
  have h4:=hn.ok hs (fun b hb=>hag.2 b (List.mem_cons_of_mem _ (List.mem_cons_of_mem _ hb))) h2
  obtain ⟨v',w',r1,r2,r3,r4⟩:=aE0 (P:=P) (ty:=o.type) hT hz hzl hby hb0 hrow h4 hlen
  exact ⟨v',w',aA8 hop (by rw [h3];exact r1),r2,r3,fun hz=>hzz▸r4 hz⟩
theorem bU2 {T e sz bytes nb : Nat} {x y : Operand} {p : AV} {zs : List Value} {ys : List AV} {tl : List Nat} (hop : o.op = .call { callee:=.builtin .append,args:=#[x,y],argTypes:=#[T,T] }) (hd : o.dst = some d) (hlt : Nat.blt d nt = true) (hnb : gB s.bk nb = .fresh) (hx : opd s x = .lit (.slice none 0 0)) (hy : opd s y = p) (hn : Nw s sz p ys tl) (hT : O2 P T e sz = true) (hz : S5 P e = some zs) (hzl : Nat.beq zs.length sz = true) (hsz : Nat.blt 0 sz = true) (hby : ah1 P e bytes = true) (hb0 : Nat.blt 0 bytes = true)
 (hlen : ys.length * bytes≤140737488355328) : s8 P E nt o s ⟨some d,.row nb,[(nb,.row e sz ys)]⟩ (l8 x ++ l8 y) (nb :: tl):=
 aM6 hd hlt hnb fun tm bk ρ Zn a w hag hs=>by
  have h1:=St.opd (s:=s) hs x (fun t ht=>hag.1 t (List.mem_append_left _ ht))
  have h2:=St.opd (s:=s) hs y (fun t ht=>hag.1 t (List.mem_append_right _ ht))
  rw [hx] at h1
  rw [hy] at h2
  have h3:=N1 h1
  have h4:=hn.ok hs (fun b hb=>hag.2 b (List.mem_cons_of_mem _ hb)) h2
  have hrow : O7 Zn w e sz (.slice none 0 0) []:=⟨Nat.blt_eq▸hsz,[],az4 w 0 e sz,fun j x h=>by simp at h,fun j x i lv h=>by simp at h⟩
  obtain ⟨v',w',r1,r2,r3,r4⟩:=aE0 (P:=P) (ty:=o.type) hT hz hzl hby hb0 hrow h4 (by simpa using hlen)
  refine ⟨v',w',aA8 hop (by rw [h3];exact r1),r2,fun k hk=>?_,?_⟩
  ·rcases r3 k hk with h | h
   ·exact h
   ·cases h
  ·have:=r4 (fun k hk=>r2.block k (hs.zn k hk).1 (by simp [Value.ownBlock]))
   simpa using this
end
end Go.Proofs.YtahmbcgolnplgaaGreatA
namespace Go.Proofs.YtahmbcgolnplgaaGreatA
open Go Go.RowKit
theorem m7 (x : Int) : IntKind.i64.wrap x = wrap64 x:=by first | rfl | (simp [IntKind.wrap,wrap64,IntKind.bits,IntKind.signed];done) | (unfold IntKind.wrap wrap64;simp [IntKind.bits,IntKind.signed];omega)
def opo (s : S) : Operand→Option AV
 | .tmp t=>gTo s.tm t
 | .const v=>some (.lit v)
 | .func f=>some (.fn f [])
 | .global _=>none
where
 gTo : List (Nat×AV)→Nat→Option AV
  | [],_=>none
  | (j,x) :: r,i=>match Nat.beq i j with
   | true=>some x
   | false=>gTo r i
theorem bo9 : ∀ {l : List (Nat×AV)} {i : Nat} {x : AV},opo.gTo l i = some x→gT l i = x
 | [],_,_,h=>by cases h
 | (j,y) :: r,i,x,h=>by
  have h' : (match Nat.beq i j with | true=>some y | false=>opo.gTo r i) = some x:=h
  show (match Nat.beq i j with | true=>y | false=>gT r i) = x
  cases hb : Nat.beq i j with
  | true=>rw [hb] at h';injection h'
  | false=>rw [hb] at h';exact bo9 h'
theorem H8 {s : S} {x : Operand} {v : AV} (h : opo s x = some v) : opd s x = v:=by
 cases x with
 | tmp t=>exact bo9 h
 | const v=>injection h
 | func f=>injection h
 | global g=>cases h
section
variable {P : Program} {ops : Array Oper} {Q : Exit→Act→World→Prop} {E : C5} {nt : Nat} {s0 : S} {tm : List (Nat×AV)} {bk : List (Nat×l9)} {todo : List Oper} {o : Oper} {ns : List Nm} {G : Prop}
inductive Gd (ops : Array Oper) (nt : Nat) (tm : List (Nat×AV)) (o : Oper) : List Nat→Prop
 | no : o.guard = none→Gd ops nt tm o []
 | on {g d : Nat} {want t : Bool} {og : Oper} : o.guard = some (g,want)→ops[g]? = some og→og.dst = some d→Nat.blt d nt = true→gT tm d = .lit (.bool t)→t = want→Gd ops nt tm o [d]
theorem Gd.snd {c : LA} {lk gl tl : List Nat} (hg : Gd ops nt tm o gl) (h : Owp P Q E nt o ⟨tm,bk⟩ c lk tl) (i : Nat) (ho : ops[i]? = some o) : Snd P ops Q E nt i ⟨tm,bk⟩ c (gl ++ lk) tl:=by
 cases hg with
 | no h0=>exact bU6 ho h0 h
 | on h0 h1 h2 h3 h4 h5=>exact bW7 ho h0 h1 h2 h3 h4 h5 h
theorem g0 (h : o.guard = none:=by rfl) : Gd ops nt tm o []:=.no h
theorem g1 {g d : Nat} {want t : Bool} {og : Oper} (h5 : t = want) (h0 : o.guard = some (g,want):=by rfl) (h1 : ops[g]? = some og:=by rfl) (h2 : og.dst = some d:=by rfl) (h3 : Nat.blt d nt = true:=by rfl) (h4 : gT tm d = .lit (.bool t):=by rfl) : Gd ops nt tm o [d]:=.on h0 h1 h2 h3 h4 h5
theorem kv {d : Nat} {x : AV} {lk gl tl : List Nat} (hg : Gd ops nt tm o gl) (hok : s8 P E nt o ⟨tm,bk⟩ ⟨some d,x,[]⟩ lk tl) (h : Wk P ops Q E nt s0 todo ⟨(d,x) :: tm,bk⟩ (⟨some d,[],gl ++ lk,tl⟩ :: ns) G) : Wk P ops Q E nt s0 (o :: todo) ⟨tm,bk⟩ ns G:=
 ap8 ⟨some d,x,[]⟩ (gl ++ lk) tl (fun i ho=>hg.snd hok.owp i ho) h
theorem kb {d b : Nat} {x : AV} {y : l9} {lk gl tl : List Nat} (hg : Gd ops nt tm o gl) (hok : s8 P E nt o ⟨tm,bk⟩ ⟨some d,x,[(b,y)]⟩ lk tl) (h : Wk P ops Q E nt s0 todo ⟨(d,x) :: tm,(b,y) :: bk⟩ (⟨some d,[b],gl ++ lk,tl⟩ :: ns) G) : Wk P ops Q E nt s0 (o :: todo) ⟨tm,bk⟩ ns G:=
 ap8 ⟨some d,x,[(b,y)]⟩ (gl ++ lk) tl (fun i ho=>hg.snd hok.owp i ho) h
theorem kc {d b c : Nat} {x : AV} {y z : l9} {lk gl tl : List Nat} (hg : Gd ops nt tm o gl) (hok : s8 P E nt o ⟨tm,bk⟩ ⟨some d,x,[(b,y),(c,z)]⟩ lk tl) (h : Wk P ops Q E nt s0 todo ⟨(d,x) :: tm,(b,y) :: (c,z) :: bk⟩ (⟨some d,[b,c],gl ++ lk,tl⟩ :: ns) G) : Wk P ops Q E nt s0 (o :: todo) ⟨tm,bk⟩ ns G:=
 ap8 ⟨some d,x,[(b,y),(c,z)]⟩ (gl ++ lk) tl (fun i ho=>hg.snd hok.owp i ho) h
theorem ks {b : Nat} {y : l9} {lk gl tl : List Nat} (hg : Gd ops nt tm o gl) (hok : s8 P E nt o ⟨tm,bk⟩ ⟨none,.junk,[(b,y)]⟩ lk tl) (h : Wk P ops Q E nt s0 todo ⟨tm,(b,y) :: bk⟩ (⟨none,[b],gl ++ lk,tl⟩ :: ns) G) : Wk P ops Q E nt s0 (o :: todo) ⟨tm,bk⟩ ns G:=
 ap8 ⟨none,.junk,[(b,y)]⟩ (gl ++ lk) tl (fun i ho=>hg.snd hok.owp i ho) h
theorem kx {d g dg : Nat} {want t : Bool} {og : Oper} (hne : t≠want) (h : Wk P ops Q E nt s0 todo ⟨(d,.junk) :: tm,bk⟩ (⟨some d,[],[dg],[]⟩ :: ns) G) (h0 : o.guard = some (g,want):=by rfl) (h1 : ops[g]? = some og:=by rfl) (h2 : og.dst = some dg:=by rfl) (h3 : Nat.blt dg nt = true:=by rfl) (h4 : gT tm dg = .lit (.bool t):=by rfl) (h5 : o.dst = some d:=by rfl) (h6 : Nat.blt d nt = true:=by rfl) : Wk P ops Q E nt s0 (o :: todo) ⟨tm,bk⟩ ns G:=
 ap8 ⟨some d,.junk,[]⟩ [dg] [] (fun i ho=>bQ5 (od:=some d) ho h0 h1 h2 h3 h4 hne h5 (fun e he=>by injection he with he;rw [← he];exact h6)) h
theorem cb1 {d : Option Nat} {x : AV} {ups : List (Nat×l9)} {lk gl tl : List Nat} {c : LA} (hg : Gd ops nt tm o gl) (hok : Owp P Q E nt o ⟨tm,bk⟩ c lk tl) (hc : c = ⟨d,x,ups⟩) (h : Wk P ops Q E nt s0 todo ⟨bz2 tm d x,ups ++ bk⟩ (⟨d,ups.map (·.1),gl ++ lk,tl⟩ :: ns) G) : Wk P ops Q E nt s0 (o :: todo) ⟨tm,bk⟩ ns G:=by
 subst hc
 exact ap8 ⟨d,x,ups⟩ (gl ++ lk) tl (fun i ho=>hg.snd hok i ho) h
end
section
variable {P : Program} {E : C5} {nt : Nat} {s : S} {o : Oper} {d : Nat}
theorem mv {x : Operand} {v : AV} (hop : o.op = .move x:=by rfl) (hx : opo s x = some v:=by rfl) (hd : o.dst = some d:=by rfl) (hlt : Nat.blt d nt = true:=by rfl) : s8 P E nt o s ⟨some d,v,[]⟩ (l8 x) []:=H8 hx▸cb7 hop hd hlt
theorem asg {x : Operand} {v : AV} (hop : o.op = .assign x:=by rfl) (hx : opo s x = some v:=by rfl) (hd : o.dst = some d:=by rfl) (hlt : Nat.blt d nt = true:=by rfl) : s8 P E nt o s ⟨some d,v,[]⟩ (l8 x) []:=H8 hx▸cd6 hop hd hlt
theorem o8 {c x y : Operand} {t : Bool} {v : AV} (ht : t = true) (hop : o.op = .pick c x y:=by rfl) (hx : opo s x = some v:=by rfl) (hc : opd s c = .lit (.bool t):=by rfl) (hd : o.dst = some d:=by rfl) (hlt : Nat.blt d nt = true:=by rfl) : s8 P E nt o s ⟨some d,v,[]⟩ (l8 c ++ l8 x) []:=H8 hx▸bS3 hop hd hlt hc ht
theorem n8 {c x y : Operand} {t : Bool} {v : AV} (ht : t = false) (hop : o.op = .pick c x y:=by rfl) (hx : opo s y = some v:=by rfl) (hc : opd s c = .lit (.bool t):=by rfl) (hd : o.dst = some d:=by rfl) (hlt : Nat.blt d nt = true:=by rfl) : s8 P E nt o s ⟨some d,v,[]⟩ (l8 c ++ l8 y) []:=H8 hx▸bO9 hop hd hlt hc ht
section
variable {T T' : TypeId} {x y : Operand} {m n : Int} {k : IntKind}
theorem aA4 (hop : o.op = .binOp .add T x y T':=by rfl) (hx : opd s x = .lit (.int .i64 m):=by rfl) (hy : opd s y = .lit (.int .i64 n):=by rfl) (hd : o.dst = some d:=by rfl) (hlt : Nat.blt d nt = true:=by rfl) : s8 P E nt o s ⟨some d,.lit (.int .i64 (wrap64 (m + n))),[]⟩ (l8 x ++ l8 y) []:=m7 _▸bO6 hd hlt hx hy hop
theorem aQ7 (hop : o.op = .binOp .sub T x y T':=by rfl) (hx : opd s x = .lit (.int .i64 m):=by rfl) (hy : opd s y = .lit (.int .i64 n):=by rfl) (hd : o.dst = some d:=by rfl) (hlt : Nat.blt d nt = true:=by rfl) : s8 P E nt o s ⟨some d,.lit (.int .i64 (wrap64 (m - n))),[]⟩ (l8 x ++ l8 y) []:=m7 _▸bN8 hd hlt hx hy hop
theorem cg0 (hop : o.op = .binOp .mul T x y T':=by rfl) (hx : opd s x = .lit (.int .i64 m):=by rfl) (hy : opd s y = .lit (.int .i64 n):=by rfl) (hd : o.dst = some d:=by rfl) (hlt : Nat.blt d nt = true:=by rfl) : s8 P E nt o s ⟨some d,.lit (.int .i64 (wrap64 (m * n))),[]⟩ (l8 x ++ l8 y) []:=m7 _▸bO2 hd hlt hx hy hop
theorem add (hop : o.op = .binOp .add T x y T':=by rfl) (hx : opd s x = .lit (.int k m):=by rfl) (hy : opd s y = .lit (.int k n):=by rfl) (hd : o.dst = some d:=by rfl) (hlt : Nat.blt d nt = true:=by rfl) : s8 P E nt o s ⟨some d,.lit (.int k (k.wrap (m + n))),[]⟩ (l8 x ++ l8 y) []:=bO6 hd hlt hx hy hop
theorem sub (hop : o.op = .binOp .sub T x y T':=by rfl) (hx : opd s x = .lit (.int k m):=by rfl) (hy : opd s y = .lit (.int k n):=by rfl) (hd : o.dst = some d:=by rfl) (hlt : Nat.blt d nt = true:=by rfl) : s8 P E nt o s ⟨some d,.lit (.int k (k.wrap (m - n))),[]⟩ (l8 x ++ l8 y) []:=bN8 hd hlt hx hy hop
theorem mul (hop : o.op = .binOp .mul T x y T':=by rfl) (hx : opd s x = .lit (.int k m):=by rfl) (hy : opd s y = .lit (.int k n):=by rfl) (hd : o.dst = some d:=by rfl) (hlt : Nat.blt d nt = true:=by rfl) : s8 P E nt o s ⟨some d,.lit (.int k (k.wrap (m * n))),[]⟩ (l8 x ++ l8 y) []:=bO2 hd hlt hx hy hop
theorem quo (hn : n≠0) (hop : o.op = .binOp .quo T x y T':=by rfl) (hx : opd s x = .lit (.int k m):=by rfl) (hy : opd s y = .lit (.int k n):=by rfl) (hd : o.dst = some d:=by rfl) (hlt : Nat.blt d nt = true:=by rfl) : s8 P E nt o s ⟨some d,.lit (.int k (k.wrap (m.tdiv n))),[]⟩ (l8 x ++ l8 y) []:=bN3 hd hlt hx hy hn hop
theorem rem (hn : n≠0) (hop : o.op = .binOp .rem T x y T':=by rfl) (hx : opd s x = .lit (.int k m):=by rfl) (hy : opd s y = .lit (.int k n):=by rfl) (hd : o.dst = some d:=by rfl) (hlt : Nat.blt d nt = true:=by rfl) : s8 P E nt o s ⟨some d,.lit (.int k (m.tmod n)),[]⟩ (l8 x ++ l8 y) []:=ca7 hd hlt hx hy hn hop
theorem bV0 (hop : o.op = .binOp .and T x y T':=by rfl) (hx : opd s x = .lit (.int k m):=by rfl) (hy : opd s y = .lit (.int k n):=by rfl) (hd : o.dst = some d:=by rfl) (hlt : Nat.blt d nt = true:=by rfl) : s8 P E nt o s ⟨some d,.lit (.int k (bits .and k m n)),[]⟩ (l8 x ++ l8 y) []:=bZ9 hd hlt hx hy hop
theorem bor (hop : o.op = .binOp .or T x y T':=by rfl) (hx : opd s x = .lit (.int k m):=by rfl) (hy : opd s y = .lit (.int k n):=by rfl) (hd : o.dst = some d:=by rfl) (hlt : Nat.blt d nt = true:=by rfl) : s8 P E nt o s ⟨some d,.lit (.int k (bits .or k m n)),[]⟩ (l8 x ++ l8 y) []:=cg2 hd hlt hx hy hop
theorem bU7 (hop : o.op = .binOp .xor T x y T':=by rfl) (hx : opd s x = .lit (.int k m):=by rfl) (hy : opd s y = .lit (.int k n):=by rfl) (hd : o.dst = some d:=by rfl) (hlt : Nat.blt d nt = true:=by rfl) : s8 P E nt o s ⟨some d,.lit (.int k (bits .xor k m n)),[]⟩ (l8 x ++ l8 y) []:=bY0 hd hlt hx hy hop
theorem eql (hop : o.op = .binOp .eql T x y T':=by rfl) (hx : opd s x = .lit (.int k m):=by rfl) (hy : opd s y = .lit (.int k n):=by rfl) (hd : o.dst = some d:=by rfl) (hlt : Nat.blt d nt = true:=by rfl) : s8 P E nt o s ⟨some d,.lit (.bool (m == n)),[]⟩ (l8 x ++ l8 y) []:=ca3 hd hlt hx hy hop
theorem neq (hop : o.op = .binOp .neq T x y T':=by rfl) (hx : opd s x = .lit (.int k m):=by rfl) (hy : opd s y = .lit (.int k n):=by rfl) (hd : o.dst = some d:=by rfl) (hlt : Nat.blt d nt = true:=by rfl) : s8 P E nt o s ⟨some d,.lit (.bool (m != n)),[]⟩ (l8 x ++ l8 y) []:=bZ1 hd hlt hx hy hop
theorem lss (hop : o.op = .binOp .lss T x y T':=by rfl) (hx : opd s x = .lit (.int k m):=by rfl) (hy : opd s y = .lit (.int k n):=by rfl) (hd : o.dst = some d:=by rfl) (hlt : Nat.blt d nt = true:=by rfl) : s8 P E nt o s ⟨some d,.lit (.bool (decide (m < n))),[]⟩ (l8 x ++ l8 y) []:=ca9 hd hlt hx hy hop
theorem leq (hop : o.op = .binOp .leq T x y T':=by rfl) (hx : opd s x = .lit (.int k m):=by rfl) (hy : opd s y = .lit (.int k n):=by rfl) (hd : o.dst = some d:=by rfl) (hlt : Nat.blt d nt = true:=by rfl) : s8 P E nt o s ⟨some d,.lit (.bool (decide (m≤n))),[]⟩ (l8 x ++ l8 y) []:=ca5 hd hlt hx hy hop
theorem gtr (hop : o.op = .binOp .gtr T x y T':=by rfl) (hx : opd s x = .lit (.int k m):=by rfl) (hy : opd s y = .lit (.int k n):=by rfl) (hd : o.dst = some d:=by rfl) (hlt : Nat.blt d nt = true:=by rfl) : s8 P E nt o s ⟨some d,.lit (.bool (decide (m > n))),[]⟩ (l8 x ++ l8 y) []:=ca6 hd hlt hx hy hop
theorem geq (hop : o.op = .binOp .geq T x y T':=by rfl) (hx : opd s x = .lit (.int k m):=by rfl) (hy : opd s y = .lit (.int k n):=by rfl) (hd : o.dst = some d:=by rfl) (hlt : Nat.blt d nt = true:=by rfl) : s8 P E nt o s ⟨some d,.lit (.bool (decide (m ≥ n))),[]⟩ (l8 x ++ l8 y) []:=bY4 hd hlt hx hy hop
theorem shl {k' : IntKind} (hn : 0≤n) (hop : o.op = .binOp .shl T x y T':=by rfl) (hx : opd s x = .lit (.int k m):=by rfl) (hy : opd s y = .lit (.int k' n):=by rfl) (hd : o.dst = some d:=by rfl) (hlt : Nat.blt d nt = true:=by rfl) : s8 P E nt o s ⟨some d,.lit (.int k (k.wrap (m * 2 ^ (min n.toNat k.bits)))),[]⟩ (l8 x ++ l8 y) []:=bN7 hd hlt hx hy hn hop
theorem shr {k' : IntKind} (hn : 0≤n) (hop : o.op = .binOp .shr T x y T':=by rfl) (hx : opd s x = .lit (.int k m):=by rfl) (hy : opd s y = .lit (.int k' n):=by rfl) (hd : o.dst = some d:=by rfl) (hlt : Nat.blt d nt = true:=by rfl) : s8 P E nt o s ⟨some d,.lit (.int k (m.fdiv (2 ^ (min n.toNat k.bits)))),[]⟩ (l8 x ++ l8 y) []:=bY9 hd hlt hx hy hn hop
end
section
variable {T T' : TypeId} {x y : Operand} {u v : ByteArray} {a b : Bool}
theorem N4 (h : u.size + v.size≤9223372036854775807) (hop : o.op = .binOp .add T x y T':=by rfl) (hx : opd s x = .lit (.string u):=by rfl) (hy : opd s y = .lit (.string v):=by rfl) (hd : o.dst = some d:=by rfl) (hlt : Nat.blt d nt = true:=by rfl) : s8 P E nt o s ⟨some d,.lit (.string (u ++ v)),[]⟩ (l8 x ++ l8 y) []:=bY6 hd hlt hx hy hop h
theorem seq (hop : o.op = .binOp .eql T x y T':=by rfl) (hx : opd s x = .lit (.string u):=by rfl) (hy : opd s y = .lit (.string v):=by rfl) (hd : o.dst = some d:=by rfl) (hlt : Nat.blt d nt = true:=by rfl) : s8 P E nt o s ⟨some d,.lit (.bool (u.toList == v.toList)),[]⟩ (l8 x ++ l8 y) []:=bY2 hd hlt hx hy hop
theorem sne (hop : o.op = .binOp .neq T x y T':=by rfl) (hx : opd s x = .lit (.string u):=by rfl) (hy : opd s y = .lit (.string v):=by rfl) (hd : o.dst = some d:=by rfl) (hlt : Nat.blt d nt = true:=by rfl) : s8 P E nt o s ⟨some d,.lit (.bool (!(u.toList == v.toList))),[]⟩ (l8 x ++ l8 y) []:=cb3 hd hlt hx hy hop
theorem slt (hop : o.op = .binOp .lss T x y T':=by rfl) (hx : opd s x = .lit (.string u):=by rfl) (hy : opd s y = .lit (.string v):=by rfl) (hd : o.dst = some d:=by rfl) (hlt : Nat.blt d nt = true:=by rfl) : s8 P E nt o s ⟨some d,.lit (.bool (Op.bytesLess u.toList v.toList)),[]⟩ (l8 x ++ l8 y) []:=cb0 hd hlt hx hy hop
theorem beq (hop : o.op = .binOp .eql T x y T':=by rfl) (hx : opd s x = .lit (.bool a):=by rfl) (hy : opd s y = .lit (.bool b):=by rfl) (hT : bg5 P T = true:=by kernel_rfl) (hd : o.dst = some d:=by rfl) (hlt : Nat.blt d nt = true:=by rfl) : s8 P E nt o s ⟨some d,.lit (.bool (a == b)),[]⟩ (l8 x ++ l8 y) []:=bZ7 hd hlt hx hy hT hop
theorem V4 (hop : o.op = .unOp .not T x:=by rfl) (hx : opd s x = .lit (.bool a):=by rfl) (hd : o.dst = some d:=by rfl) (hlt : Nat.blt d nt = true:=by rfl) : s8 P E nt o s ⟨some d,.lit (.bool (!a)),[]⟩ (l8 x) []:=bX7 hop hd hlt hx
theorem cf6 {n : Int} (hop : o.op = .unOp .neg T x:=by rfl) (hx : opd s x = .lit (.int .i64 n):=by rfl) (hd : o.dst = some d:=by rfl) (hlt : Nat.blt d nt = true:=by rfl) : s8 P E nt o s ⟨some d,.lit (.int .i64 (wrap64 (0 - n))),[]⟩ (l8 x) []:=m7 _▸bN9 hop hd hlt hx
theorem aE2 {y : Operand} {T' : TypeId} {m n : Int} (hn : n≠0) (hop : o.op = .binOp .quo T x y T':=by rfl) (hx : opd s x = .lit (.int .i64 m):=by rfl) (hy : opd s y = .lit (.int .i64 n):=by rfl) (hd : o.dst = some d:=by rfl) (hlt : Nat.blt d nt = true:=by rfl) : s8 P E nt o s ⟨some d,.lit (.int .i64 (wrap64 (m.tdiv n))),[]⟩ (l8 x ++ l8 y) []:=m7 _▸bN3 hd hlt hx hy hn hop
theorem bv9 {y : Operand} {T' : TypeId} {m n : Int} {k' : IntKind} (hn : 0≤n) (hop : o.op = .binOp .shl T x y T':=by rfl) (hx : opd s x = .lit (.int .i64 m):=by rfl) (hy : opd s y = .lit (.int k' n):=by rfl) (hd : o.dst = some d:=by rfl) (hlt : Nat.blt d nt = true:=by rfl) : s8 P E nt o s ⟨some d,.lit (.int .i64 (wrap64 (m * 2 ^ (min n.toNat (IntKind.i64).bits)))),[]⟩ (l8 x ++ l8 y) []:=m7 _▸bN7 hd hlt hx hy hn hop
theorem neg {k : IntKind} {n : Int} (hop : o.op = .unOp .neg T x:=by rfl) (hx : opd s x = .lit (.int k n):=by rfl) (hd : o.dst = some d:=by rfl) (hlt : Nat.blt d nt = true:=by rfl) : s8 P E nt o s ⟨some d,.lit (.int k (k.wrap (0 - n))),[]⟩ (l8 x) []:=bN9 hop hd hlt hx
theorem cnv {src dst : TypeId} {k : IntKind} (k' : IntKind) {n : Int} (hop : o.op = .convert src dst x:=by rfl) (hx : opd s x = .lit (.int k n):=by rfl) (hT : bk5 P src dst k' = true:=by kernel_rfl) (hd : o.dst = some d:=by rfl) (hlt : Nat.blt d nt = true:=by rfl) : s8 P E nt o s ⟨some d,.lit (.int k' (k'.wrap n)),[]⟩ (l8 x) []:=bE2 hop hd hlt hx hT
theorem bV4 {src dst : TypeId} {k : IntKind} {n : Int} (hop : o.op = .convert src dst x:=by rfl) (hx : opd s x = .lit (.int k n):=by rfl) (hT : bk5 P src dst .i64 = true:=by kernel_rfl) (hd : o.dst = some d:=by rfl) (hlt : Nat.blt d nt = true:=by rfl) : s8 P E nt o s ⟨some d,.lit (.int .i64 (wrap64 n)),[]⟩ (l8 x) []:=m7 _▸bE2 hop hd hlt hx hT
theorem ext {i : Nat} {l : List AV} {z : AV} (hop : o.op = .extract x i:=by rfl) (hx : opd s x = .tup l:=by rfl) (hy : l[i]? = some z:=by rfl) (hd : o.dst = some d:=by rfl) (hlt : Nat.blt d nt = true:=by rfl) : s8 P E nt o s ⟨some d,z,[]⟩ (l8 x) []:=ca8 hop hd hlt hx hy
theorem y8 {f b c : Nat} (off n : Nat) (hop : o.op = .fieldAddr T x f:=by rfl) (hx : opd s x = .box b c:=by rfl) (hT : an1 P T f off = true:=by kernel_rfl) (hn : c + off = n:=by rfl) (hd : o.dst = some d:=by rfl) (hlt : Nat.blt d nt = true:=by rfl) : s8 P E nt o s ⟨some d,.box b n,[]⟩ (l8 x) []:=bI9 hop hd hlt hx rfl hT (by rw [← hn];rfl)
theorem faE {f b sz i j : Nat} (off n : Nat) (hop : o.op = .fieldAddr T x f:=by rfl) (hx : opd s x = .elp b sz i j:=by rfl) (hT : an1 P T f off = true:=by kernel_rfl) (hn : j + off = n:=by rfl) (hd : o.dst = some d:=by rfl) (hlt : Nat.blt d nt = true:=by rfl) : s8 P E nt o s ⟨some d,.elp b sz i n,[]⟩ (l8 x) []:=bI9 hop hd hlt hx rfl hT (by rw [← hn];rfl)
theorem faR {f j : Nat} {z : Fl} {w : AV} (off n : Nat) (hop : o.op = .fieldAddr T x f:=by rfl) (hx : opd s x = .rp z w j:=by rfl) (hT : an1 P T f off = true:=by kernel_rfl) (hn : j + off = n:=by rfl) (hd : o.dst = some d:=by rfl) (hlt : Nat.blt d nt = true:=by rfl) : s8 P E nt o s ⟨some d,.rp z w n,[]⟩ (l8 x) []:=bI9 hop hd hlt hx rfl hT (by rw [← hn];rfl)
theorem an3 {b c : Nat} (hop : o.op = .nilCheck x:=by rfl) (hx : opd s x = .box b c:=by rfl) (hd : o.dst = some d:=by rfl) (hlt : Nat.blt d nt = true:=by rfl) : s8 P E nt o s ⟨some d,.box b c,[]⟩ (l8 x) []:=bY8 hop hd hlt hx rfl
theorem B5 {T b c t : Nat} {cells : List AV} {v : AV} (hop : o.op = .load T x:=by rfl) (hx : opd s x = .box b c:=by rfl) (hb : gB s.bk b = .box t cells:=by rfl) (hv : cells[c]? = some v:=by rfl) (hT : X5 P T = true:=by kernel_rfl) (hd : o.dst = some d:=by rfl) (hlt : Nat.blt d nt = true:=by rfl) : s8 P E nt o s ⟨some d,v,[]⟩ (l8 x) [b]:=aZ4 hop hd hlt hx (.box hb hv hT)
theorem bU1 {T b c t : Nat} {cells : List AV} (n : Nat) (l : List AV) (hop : o.op = .load T x:=by rfl) (hx : opd s x = .box b c:=by rfl) (hb : gB s.bk b = .box t cells:=by rfl) (hv : (cells.drop c).take n = l:=by rfl) (hl : l.length = n:=by rfl) (hT : am9 P T n = true:=by kernel_rfl) (hd : o.dst = some d:=by rfl) (hlt : Nat.blt d nt = true:=by rfl) : s8 P E nt o s ⟨some d,.agg l,[]⟩ (l8 x) [b]:=aZ4 hop hd hlt hx (.boxA hb hv hl hT)
theorem ldR {T j : Nat} {z : Fl} {w : AV} (v : AV) {v0 : AV} (hop : o.op = .load T x:=by rfl) (hx : opd s x = .rp z w j:=by rfl) (hv : w.leaves[j]? = some v0:=by rfl) (hi : imm z v0 = v:=by rfl) (hT : X5 P T = true:=by kernel_rfl) (hd : o.dst = some d:=by rfl) (hlt : Nat.blt d nt = true:=by rfl) : s8 P E nt o s ⟨some d,v,[]⟩ (l8 x) []:=hi▸aZ4 hop hd hlt hx (.rp hv hT)
theorem ce8 {T j : Nat} {z : Fl} {w : AV} (n : Nat) (l : List AV) {l0 : List AV} (hop : o.op = .load T x:=by rfl) (hx : opd s x = .rp z w j:=by rfl) (hv : (w.leaves.drop j).take n = l0:=by rfl) (hl : l0.length = n:=by rfl) (hi : l0.map (imm z) = l:=by rfl) (hT : am9 P T n = true:=by kernel_rfl) (hd : o.dst = some d:=by rfl) (hlt : Nat.blt d nt = true:=by rfl) : s8 P E nt o s ⟨some d,.agg l,[]⟩ (l8 x) []:=hi▸aZ4 hop hd hlt hx (.rpA hv hl hT)
theorem ldE {T b e sz i j : Nat} {xs : List AV} (w : AV) (v : AV) {v0 : AV} (hw : xs[i]? = some w) (hop : o.op = .load T x:=by rfl) (hx : opd s x = .elp b sz i j:=by rfl) (hb : gB s.bk b = .row e sz xs:=by rfl) (hv : w.leaves[j]? = some v0:=by rfl) (hi : imm .n v0 = v:=by rfl) (hT : X5 P T = true:=by kernel_rfl) (hd : o.dst = some d:=by rfl) (hlt : Nat.blt d nt = true:=by rfl) : s8 P E nt o s ⟨some d,v,[]⟩ (l8 x) [b]:=hi▸aZ4 hop hd hlt hx (.el hb hw hv hT)
theorem bV6 {T b e sz i j : Nat} {xs : List AV} (n : Nat) (w : AV) (l : List AV) {l0 : List AV} (hw : xs[i]? = some w) (hop : o.op = .load T x:=by rfl) (hx : opd s x = .elp b sz i j:=by rfl) (hb : gB s.bk b = .row e sz xs:=by rfl) (hv : (w.leaves.drop j).take n = l0:=by rfl) (hl : l0.length = n:=by rfl) (hi : l0.map (imm .n) = l:=by rfl) (hT : am9 P T n = true:=by kernel_rfl) (hd : o.dst = some d:=by rfl) (hlt : Nat.blt d nt = true:=by rfl) : s8 P E nt o s ⟨some d,.agg l,[]⟩ (l8 x) [b]:=hi▸aZ4 hop hd hlt hx (.elA hb hw hv hl hT)
theorem ixS {T sz : Nat} {z : Fl} {xs : List AV} {k : IntKind} {i : Int} (e : Nat) (w : AV) (h0 : 0≤i) (hw : xs[i.toNat]? = some w) (hop : o.op = .indexAddr T x y:=by rfl) (hx : opd s x = .sl z sz xs:=by rfl) (hy : opd s y = .lit (.int k i):=by rfl) (hT : O2 P T e sz = true:=by kernel_rfl) (hd : o.dst = some d:=by rfl) (hlt : Nat.blt d nt = true:=by rfl) : s8 P E nt o s ⟨some d,.rp z w 0,[]⟩ (l8 x ++ l8 y) []:=cb2 hop hd hlt hx hy h0 hw hT (Nat.beq_refl _)
theorem ixR {T b e' sz : Nat} {xs : List AV} {k : IntKind} {i : Int} (e : Nat) (h0 : 0≤i) (h1 : i < (xs.length : Int)) (hop : o.op = .indexAddr T x y:=by rfl) (hx : opd s x = .row b:=by rfl) (hb : gB s.bk b = .row e' sz xs:=by rfl) (hy : opd s y = .lit (.int k i):=by rfl) (hT : O2 P T e sz = true:=by kernel_rfl) (hd : o.dst = some d:=by rfl) (hlt : Nat.blt d nt = true:=by rfl) : s8 P E nt o s ⟨some d,.elp b sz i.toNat 0,[]⟩ (l8 x ++ l8 y) [b]:=bY3 hop hd hlt hx hb hy h0 h1 hT (Nat.beq_refl _)
theorem lnR {T b e sz : Nat} {xs : List AV} {n : Int} (hn : (xs.length : Int) = n) (hop : o.op = .call { callee:=.builtin .len,args:=#[x],argTypes:=#[T] }:=by rfl) (hx : opd s x = .row b:=by rfl) (hb : gB s.bk b = .row e sz xs:=by rfl) (hT : aF2 P T = true:=by kernel_rfl) (hd : o.dst = some d:=by rfl) (hlt : Nat.blt d nt = true:=by rfl) : s8 P E nt o s ⟨some d,.lit (.int .i64 n),[]⟩ (l8 x) [b]:=bN5 hop hd hlt hx (.row hb hn) hT
theorem G3 {T sz : Nat} {z : Fl} {xs : List AV} {n : Int} (hn : (xs.length : Int) = n) (hop : o.op = .call { callee:=.builtin .len,args:=#[x],argTypes:=#[T] }:=by rfl) (hx : opd s x = .sl z sz xs:=by rfl) (hT : aF2 P T = true:=by kernel_rfl) (hd : o.dst = some d:=by rfl) (hlt : Nat.blt d nt = true:=by rfl) : s8 P E nt o s ⟨some d,.lit (.int .i64 n),[]⟩ (l8 x) []:=bN5 hop hd hlt hx (.sl hn) hT
theorem lnT {T : Nat} (hop : o.op = .call { callee:=.builtin .len,args:=#[x],argTypes:=#[T] }:=by rfl) (hx : opd s x = .lit (.string u):=by rfl) (hT : ag5 P T = true:=by kernel_rfl) (hd : o.dst = some d:=by rfl) (hlt : Nat.blt d nt = true:=by rfl) : s8 P E nt o s ⟨some d,.lit (.int .i64 (u.size : Int)),[]⟩ (l8 x) []:=bI2 hop hd hlt hx hT
theorem alc {T : Nat} (nb : Nat) (zs : List Value) (cells : List AV) (hc : zs.map .lit = cells:=by rfl) (hop : o.op = .alloc T:=by rfl) (hnb : gB s.bk nb = .fresh:=by rfl) (hz : S5 P T = some zs:=by kernel_rfl) (h1 : zs.all (·.oneCell') = true:=by rfl) (hd : o.dst = some d:=by rfl) (hlt : Nat.blt d nt = true:=by rfl) : s8 P E nt o s ⟨some d,.box nb 0,[(nb,.box T cells)]⟩ [] [nb]:=bP4 hop hd hlt hnb hz h1 hc
theorem K2 {T : Nat} (nb : Nat) {l : List AV} (hop : o.op = .box T x:=by rfl) (hx : opd s x = .agg l:=by rfl) (hnb : gB s.bk nb = .fresh:=by rfl) (hd : o.dst = some d:=by rfl) (hlt : Nat.blt d nt = true:=by rfl) : s8 P E nt o s ⟨some d,.box nb 0,[(nb,.box T l)]⟩ (l8 x) [nb]:=bX9 hop hd hlt hnb hx rfl rfl
theorem bld {parts : Array (Nat×Operand)} (pl : List (Nat×Nat)) (zs : List Value) (l : List AV) (hop : o.op = .build T parts:=by rfl) (hz : S5 P T = some zs:=by kernel_rfl) (h1 : zs.all (·.oneCell') = true:=by rfl) (hp : at3 P T pl = true:=by kernel_rfl) (hd : o.dst = some d:=by rfl) (hlt : Nat.blt d nt = true:=by rfl) (hl : as5 s pl (zs.map .lit) parts.toList = some l:=by rfl) : s8 P E nt o s ⟨some d,.agg l,[]⟩ (parts.toList.flatMap fun p=>l8 p.2) []:=bQ1 pl hop hd hlt hz h1 hp hl
theorem u7 {T len : Nat} {parts : Array (Nat×Operand)} {l : List AV} (nb e sz : Nat) (zs : List Value) (xs : List AV) (hop : o.op = .buildSlice T len parts:=by rfl) (hx : xs.flatMap AV.leaves = l:=by rfl) (hnb : gB s.bk nb = .fresh:=by rfl) (hT : O2 P T e sz = true:=by kernel_rfl) (hz : S5 P e = some zs:=by kernel_rfl) (h1 : zs.all (·.oneCell') = true:=by rfl) (hzl : Nat.beq zs.length sz = true:=by rfl) (hsz : Nat.blt 0 sz = true:=by rfl) (hcap : Nat.ble (len * sz) 16777216 = true:=by rfl) (hxl : aJ4 sz xs = true:=by rfl) (hlen : Nat.beq xs.length len = true:=by rfl) (hpl : l.all plain = true:=by rfl) (hd : o.dst = some d:=by rfl) (hlt : Nat.blt d nt = true:=by rfl) (hl : as5 s ((List.range len).map fun i=>(i * sz,sz)) (aS2 zs sz len) parts.toList = some l:=by rfl) : s8 P E nt o s ⟨some d,.row nb,[(nb,.row e sz xs)]⟩ (parts.toList.flatMap fun p=>l8 p.2) [nb]:=cd9 hop hd hlt hnb hT hz h1 hzl hsz hcap hl hx hxl hlen hpl
theorem mks {T : Nat} {k k' : IntKind} {m : Int} (nb e sz bytes : Nat) (zs : List Value) (v : AV) (xs : List AV) (h0 : 0≤m) (hle : bytes * m.toNat≤281474976710656) (hxs : List.replicate m.toNat v = xs) (hop : o.op = .makeSlice T x y:=by rfl) (hx : opd s x = .lit (.int k m):=by rfl) (hy : opd s y = .lit (.int k' m):=by rfl) (hv : ZL v.leaves zs:=by (repeat (first | exact trivial | refine ⟨rfl,?_⟩ | refine ⟨⟨rfl,rfl⟩,?_⟩))) (hnb : gB s.bk nb = .fresh:=by rfl) (hT : O2 P T e sz = true:=by kernel_rfl) (hz : S5 P e = some zs:=by kernel_rfl) (h1 : zs.all (·.oneCell') = true:=by rfl) (hzl : Nat.beq zs.length sz = true:=by rfl) (hsz : Nat.blt 0 sz = true:=by rfl) (hby : ah1 P e bytes = true:=by kernel_rfl) (hb0 : Nat.blt 0 bytes = true:=by rfl) (hd : o.dst = some d:=by rfl) (hlt : Nat.blt d nt = true:=by rfl) : s8 P E nt o s ⟨some d,.row nb,[(nb,.row e sz xs)]⟩ (l8 x ++ l8 y) [nb]:=cf9 hop hd hlt hnb hx hy hT hz h1 hzl hsz hby hb0 h0 hle hv hxs
theorem stB {T b c t : Nat} {p : Operand} {v : AV} {cells : List AV} (n : Nat) (cells' : List AV) (hop : o.op = .store T p x:=by rfl) (hp : opd s p = .box b c:=by rfl) (hx : opo s x = some v:=by rfl) (hb : gB s.bk b = .box t cells:=by rfl) (hy : af7 v = true:=by rfl) (hT : ae7 P T n = true:=by kernel_rfl) (hn : Nat.beq v.leaves.length n = true:=by rfl) (hle : Nat.ble (c + n) cells.length = true:=by rfl) (hd : o.dst = none:=by rfl) (hc : cells.take c ++ v.leaves ++ cells.drop (c + n) = cells':=by rfl) : s8 P E nt o s ⟨none,.junk,[(b,.box t cells')]⟩ (l8 p ++ l8 x) [b]:=cd5 hop hd hp hb (H8 hx) hy hT hn hle hc
theorem stE {T b e sz i j : Nat} {p : Operand} {v w : AV} {xs : List AV} (n : Nat) (w' : AV) (xs' : List AV) (hw : xs[i]? = some w) (hxs : xs.set i w' = xs') (hop : o.op = .store T p x:=by rfl) (hp : opd s p = .elp b sz i j:=by rfl) (hx : opo s x = some v:=by rfl) (hb : gB s.bk b = .row e sz xs:=by rfl) (hw' : w'.leaves = w.leaves.take j ++ v.leaves ++ w.leaves.drop (j + n):=by rfl) (hy : af7 v = true:=by rfl) (hpl : v.leaves.all plain = true:=by rfl) (hT : ae7 P T n = true:=by kernel_rfl) (hn : Nat.beq v.leaves.length n = true:=by rfl) (hle : Nat.ble (j + n) w.leaves.length = true:=by rfl) (hd : o.dst = none:=by rfl) : s8 P E nt o s ⟨none,.junk,[(b,.row e sz xs')]⟩ (l8 p ++ l8 x) [b]:=ca4 hop hd hp hb (H8 hx) hy hpl hT hn hw hle hw' hxs
theorem D7 {T b : Nat} {p : AV} {xs ys : List AV} {tl : List Nat} (nb e sz bytes : Nat) (zs : List Value) (zz : List AV) (hn : Nw s sz p ys tl) (hlen : (xs.length + ys.length) * bytes≤140737488355328) (hzz : xs ++ ys = zz) (hop : o.op = .call { callee:=.builtin .append,args:=#[x,y],argTypes:=#[T,T] }:=by rfl) (hx : opd s x = .row b:=by rfl) (hb : gB s.bk b = .row e sz xs:=by rfl) (hy : opo s y = some p:=by rfl) (hnb : gB s.bk nb = .fresh:=by rfl) (hT : O2 P T e sz = true:=by kernel_rfl) (hz : S5 P e = some zs:=by kernel_rfl) (hzl : Nat.beq zs.length sz = true:=by rfl) (hby : ah1 P e bytes = true:=by kernel_rfl) (hb0 : Nat.blt 0 bytes = true:=by rfl) (hd : o.dst = some d:=by rfl) (hlt : Nat.blt d nt = true:=by rfl) : s8 P E nt o s ⟨some d,.row nb,[(b,.gone),(nb,.row e sz zz)]⟩ (l8 x ++ l8 y) (nb :: b :: tl):=ca0 hop hd hlt hnb hx hb (H8 hy) hn hT hz hzl hby hb0 hlen hzz
theorem apN {T : Nat} {p : AV} {ys : List AV} {tl : List Nat} (nb e sz bytes : Nat) (zs : List Value) (hn : Nw s sz p ys tl) (hlen : ys.length * bytes≤140737488355328) (hop : o.op = .call { callee:=.builtin .append,args:=#[x,y],argTypes:=#[T,T] }:=by rfl) (hx : opd s x = .lit (.slice none 0 0):=by rfl) (hy : opo s y = some p:=by rfl) (hnb : gB s.bk nb = .fresh:=by rfl) (hT : O2 P T e sz = true:=by kernel_rfl) (hz : S5 P e = some zs:=by kernel_rfl) (hzl : Nat.beq zs.length sz = true:=by rfl) (hsz : Nat.blt 0 sz = true:=by rfl) (hby : ah1 P e bytes = true:=by kernel_rfl) (hb0 : Nat.blt 0 bytes = true:=by rfl) (hd : o.dst = some d:=by rfl) (hlt : Nat.blt d nt = true:=by rfl) : s8 P E nt o s ⟨some d,.row nb,[(nb,.row e sz ys)]⟩ (l8 x ++ l8 y) (nb :: tl):=bU2 hop hd hlt hnb hx (H8 hy) hn hT hz hzl hsz hby hb0 hlen
end
end
end Go.Proofs.YtahmbcgolnplgaaGreatA
namespace Go.Proofs.YtahmbcgolnplgaaGreatA
open Go
theorem i8 {α : Type} {c : Prop} [Decidable c] {x : Option α} {r : α} (h : (if c then x else none) = some r) : c∧x = some r:=by
 by_cases hc : c
 ·rw [if_pos hc] at h;exact ⟨hc,h⟩
 ·rw [if_neg hc] at h;cases h
theorem f6 {α β : Type} {x : Option α} {f : α→Option β} {r : β} (h : x.bind f = some r) : ∃ a,x = some a∧f a = some r:=by
 cases x with
 | none=>cases h
 | some a=>exact ⟨a,rfl,h⟩
theorem nT {a : Bool} (h : a = false) : (!a) = true:=by rw [h];rfl
theorem nF {a : Bool} (h : a = true) : (!a) = false:=by rw [h];rfl
theorem eT {α : Type} [DecidableEq α] {a b : α} (h : a = b) : (a == b) = true:=by rw [h];exact beq_self_eq_true b
theorem eF {α : Type} [DecidableEq α] {a b : α} (h : ¬ a = b) : (a == b) = false:=beq_eq_false_iff_ne.2 h
theorem eM {α : Type} [DecidableEq α] {a b : α} (h : a = b) : (a != b) = false:=by rw [h];exact bne_self_eq_false b
theorem eN {α : Type} [DecidableEq α] {a b : α} (h : ¬ a = b) : (a != b) = true:=bne_iff_ne.2 h
theorem bF {a : Bool} (h : ¬ a = true) : a = false:=by cases a with | true=>exact absurd rfl h | false=>rfl
theorem hT {t : Bool} (h : t = false) : t≠true:=by rw [h];decide
theorem hF {t : Bool} (h : t = true) : t≠false:=by rw [h];decide
theorem ab9 {α : Type} {f : α→AV} {l : List α} {z : α} {i : Int} (h0 : 0≤i) (h1 : i < (l.length : Int)) : (l.map f)[i.toNat]? = some (f (l.getD i.toNat z)):=by
 have h : i.toNat < l.length:=by omega
 rw [List.getElem?_map,List.getElem?_eq_getElem h,List.getD_eq_getElem?_getD,List.getElem?_eq_getElem h];rfl
theorem v7 {α : Type} {f : α→AV} {l : List α} : ((l.map f).length : Int) = (l.length : Int):=by rw [List.length_map]
theorem ltE {α : Type} {f : α→AV} {l : List α} {i : Int} (h : i < (l.length : Int)) : i < ((l.map f).length : Int):=by rw [List.length_map];exact h
theorem ls {α : Type} {l : List α} {i : Int} {j : Nat} {v : α} (h : i < (l.length : Int)) : i < ((l.set j v).length : Int):=by rw [List.length_set];exact h
theorem af4 {α : Type} {f : α→AV} {l : List α} {i : Nat} {e : α} : (l.map f).set i (f e) = (l.set i e).map f:=(List.map_set ..).symm
theorem z7 {α : Type} {f : α→AV} {l m : List α} : l.map f ++ m.map f = (l ++ m).map f:=(List.map_append ..).symm
theorem bU5 {α : Type} {f : α→AV} {n : Nat} {z : α} : List.replicate n (f z) = (List.replicate n z).map f:=(List.map_replicate ..).symm
theorem D8 {α β : Type} {f : α→AV} {g : β→AV} {x : List α} {y : List β} {N b : Nat} (h : x.length + y.length < N) (hN : Nat.ble (N * b) 140737488355328 = true) : ((x.map f).length + (y.map g).length) * b≤140737488355328:=by
 rw [List.length_map,List.length_map]
 exact Nat.le_trans (Nat.mul_le_mul_right b (Nat.le_of_lt h)) (Nat.le_of_ble_eq_true hN)
theorem bS8 {β : Type} {g : β→AV} {y : List β} {N b : Nat} (h : y.length < N) (hN : Nat.ble (N * b) 140737488355328 = true) : (y.map g).length * b≤140737488355328:=by
 rw [List.length_map]
 exact Nat.le_trans (Nat.mul_le_mul_right b (Nat.le_of_lt h)) (Nat.le_of_ble_eq_true hN)
theorem mkb {n N b : Nat} (h : n≤N) (hN : Nat.ble (b * N) 281474976710656 = true) : b * n≤281474976710656:=Nat.le_trans (Nat.mul_le_mul_left b h) (Nat.le_of_ble_eq_true hN)
def rd (l : List Int) (i : Int) : Int:=l.getD i.toNat 0
def M0 {α : Type} (z : α) (l : List α) (i : Int) : α:=l.getD i.toNat z
def eI (k : IntKind) (n : Int) : AV:=.lit (.int k n)
def eB (b : Bool) : AV:=.lit (.bool b)
def eT' (s : ByteArray) : AV:=.lit (.string s)
def eL {α : Type} (sz : Nat) (f : α→AV) (l : List α) : AV:=.sl .n sz (l.map f)
section
variable {P : Program} {ops : Array Oper} {Q : Exit→Act→World→Prop} {E : C5} {nt : Nat} {s s0 : S}
section
variable {tm : List (Nat×AV)} {bk : List (Nat×l9)} {todo : List Oper} {o : Oper} {ns : List Nm} {G : Prop}
end
theorem bX0 {c : Operand} {x y : Code} {t : Bool} (h : AW E nt P x Q s) (ht : t = true) (hc : opd s c = .lit (.bool t):=by rfl) : AW E nt P (.cond c x y) Q s:=
 bs5 hc (fun _=>h) (fun hf=>by rw [ht] at hf;cases hf)
theorem bX1 {c : Operand} {x y : Code} {t : Bool} (h : AW E nt P y Q s) (ht : t = false) (hc : opd s c = .lit (.bool t):=by rfl) : AW E nt P (.cond c x y) Q s:=
 bs5 hc (fun hf=>by rw [ht] at hf;cases hf) (fun _=>h)
theorem c8 {x : Code} {Q' : Exit→Act→World→Prop} (h : AW E nt P x Q' s) : m9 E nt s (Exit.then (Code.wp P x Q') Q .normal):=h
theorem j5 {x : Act→World→Prop} {id : Nat} (h : m9 E nt s (Q (.exit id))) : m9 E nt s (Exit.then x Q (.exit id)):=h
theorem f8 {x : Act→World→Prop} (h : m9 E nt s (Q .ret)) : m9 E nt s (Exit.then x Q .ret):=h
theorem j6 {id : Nat} (h : m9 E nt s (Q .normal)) : m9 E nt s (Exit.inBlock id Q .normal):=h
theorem l7 {id : Nat} (h : m9 E nt s (Q .ret)) : m9 E nt s (Exit.inBlock id Q .ret):=h
theorem l6 {x : Act→World→Prop} (h : m9 E nt s x) : m9 E nt s (Exit.then x Q .normal):=h
theorem d8 {x0 y : Code} (h : AW E nt P x0 (Exit.then (Code.wp P y Q) Q) s) : AW E nt P (.seq x0 y) Q s:=fun a w hr=>wp_seq (h a w hr)
theorem H0 {x0 y : Code} {J : (Act→World→Prop)→Prop} (h : ∀ K,J K→AW E nt P x0 (Exit.then K Q) s) (hJ : J (Code.wp P y Q)) : AW E nt P (.seq x0 y) Q s:=d8 (h _ hJ)
theorem bI3 {ι0 : Type} {c : Code} (H : Nat→ι0→Prop) (S' : ι0→S) (k : Nat) (p0 : ι0) (hk : H k p0) (h0 : ∀ K,m9 E nt (S' p0) K→m9 E nt s K) (hz : ∀ (p0 : ι0),¬ H 0 p0)
 (hround : ∀ k (p0 : ι0),H (k + 1) p0→∀ K,(∀ (k' : Nat) (p0 : ι0),k'≤k→H k' p0→m9 E nt (S' p0) K)→AW E nt P c (Exit.then K Q) (S' p0)) : AW E nt P (.loop c) Q s:=by
 refine ah0 (fun k a w=>∃ p0,H k p0∧Rel E nt (S' p0) a w) k (h0 _ (fun a w hr=>⟨p0,hk,hr⟩)) (fun k a w ⟨p0,hp,hr⟩=>?_)
 cases k with
 | zero=>exact absurd hp (hz p0)
 | succ k=>exact hround k p0 hp _ (fun k' q0 hk' hp' a' w' hr'=>⟨k',by omega,q0,hp',hr'⟩) a w hr
theorem bI4 {ι0 : Type} {ι1 : Type} {c : Code} (H : Nat→ι0→ι1→Prop) (S' : ι0→ι1→S) (k : Nat) (p0 : ι0) (p1 : ι1) (hk : H k p0 p1) (h0 : ∀ K,m9 E nt (S' p0 p1) K→m9 E nt s K) (hz : ∀ (p0 : ι0) (p1 : ι1),¬ H 0 p0 p1)
 (hround : ∀ k (p0 : ι0) (p1 : ι1),H (k + 1) p0 p1→∀ K,(∀ (k' : Nat) (p0 : ι0) (p1 : ι1),k'≤k→H k' p0 p1→m9 E nt (S' p0 p1) K)→AW E nt P c (Exit.then K Q) (S' p0 p1)) : AW E nt P (.loop c) Q s:=by
 refine ah0 (fun k a w=>∃ p0 p1,H k p0 p1∧Rel E nt (S' p0 p1) a w) k (h0 _ (fun a w hr=>⟨p0,p1,hk,hr⟩)) (fun k a w ⟨p0,p1,hp,hr⟩=>?_)
 cases k with
 | zero=>exact absurd hp (hz p0 p1)
 | succ k=>exact hround k p0 p1 hp _ (fun k' q0 q1 hk' hp' a' w' hr'=>⟨k',by omega,q0,q1,hp',hr'⟩) a w hr
theorem bH9 {ι0 : Type} {ι1 : Type} {ι2 : Type} {c : Code} (H : Nat→ι0→ι1→ι2→Prop) (S' : ι0→ι1→ι2→S) (k : Nat) (p0 : ι0) (p1 : ι1) (p2 : ι2) (hk : H k p0 p1 p2) (h0 : ∀ K,m9 E nt (S' p0 p1 p2) K→m9 E nt s K) (hz : ∀ (p0 : ι0) (p1 : ι1) (p2 : ι2),¬ H 0 p0 p1 p2)
 (hround : ∀ k (p0 : ι0) (p1 : ι1) (p2 : ι2),H (k + 1) p0 p1 p2→∀ K,(∀ (k' : Nat) (p0 : ι0) (p1 : ι1) (p2 : ι2),k'≤k→H k' p0 p1 p2→m9 E nt (S' p0 p1 p2) K)→AW E nt P c (Exit.then K Q) (S' p0 p1 p2)) : AW E nt P (.loop c) Q s:=by
 refine ah0 (fun k a w=>∃ p0 p1 p2,H k p0 p1 p2∧Rel E nt (S' p0 p1 p2) a w) k (h0 _ (fun a w hr=>⟨p0,p1,p2,hk,hr⟩)) (fun k a w ⟨p0,p1,p2,hp,hr⟩=>?_)
 cases k with
 | zero=>exact absurd hp (hz p0 p1 p2)
 | succ k=>exact hround k p0 p1 p2 hp _ (fun k' q0 q1 q2 hk' hp' a' w' hr'=>⟨k',by omega,q0,q1,q2,hp',hr'⟩) a w hr
theorem bN0 {ι0 : Type} {ι1 : Type} {ι2 : Type} {ι3 : Type} {c : Code} (H : Nat→ι0→ι1→ι2→ι3→Prop) (S' : ι0→ι1→ι2→ι3→S) (k : Nat) (p0 : ι0) (p1 : ι1) (p2 : ι2) (p3 : ι3) (hk : H k p0 p1 p2 p3) (h0 : ∀ K,m9 E nt (S' p0 p1 p2 p3) K→m9 E nt s K) (hz : ∀ (p0 : ι0) (p1 : ι1) (p2 : ι2) (p3 : ι3),¬ H 0 p0 p1 p2 p3)
 (hround : ∀ k (p0 : ι0) (p1 : ι1) (p2 : ι2) (p3 : ι3),H (k + 1) p0 p1 p2 p3→∀ K,(∀ (k' : Nat) (p0 : ι0) (p1 : ι1) (p2 : ι2) (p3 : ι3),k'≤k→H k' p0 p1 p2 p3→m9 E nt (S' p0 p1 p2 p3) K)→AW E nt P c (Exit.then K Q) (S' p0 p1 p2 p3)) : AW E nt P (.loop c) Q s:=by
 refine ah0 (fun k a w=>∃ p0 p1 p2 p3,H k p0 p1 p2 p3∧Rel E nt (S' p0 p1 p2 p3) a w) k (h0 _ (fun a w hr=>⟨p0,p1,p2,p3,hk,hr⟩)) (fun k a w ⟨p0,p1,p2,p3,hp,hr⟩=>?_)
 cases k with
 | zero=>exact absurd hp (hz p0 p1 p2 p3)
 | succ k=>exact hround k p0 p1 p2 p3 hp _ (fun k' q0 q1 q2 q3 hk' hp' a' w' hr'=>⟨k',by omega,q0,q1,q2,q3,hp',hr'⟩) a w hr
theorem bL4 {ι0 : Type} {ι1 : Type} {ι2 : Type} {ι3 : Type} {ι4 : Type} {c : Code} (H : Nat→ι0→ι1→ι2→ι3→ι4→Prop) (S' : ι0→ι1→ι2→ι3→ι4→S) (k : Nat) (p0 : ι0) (p1 : ι1) (p2 : ι2) (p3 : ι3) (p4 : ι4) (hk : H k p0 p1 p2 p3 p4) (h0 : ∀ K,m9 E nt (S' p0 p1 p2 p3 p4) K→m9 E nt s K) (hz : ∀ (p0 : ι0) (p1 : ι1) (p2 : ι2) (p3 : ι3) (p4 : ι4),¬ H 0 p0 p1 p2 p3 p4)
 (hround : ∀ k (p0 : ι0) (p1 : ι1) (p2 : ι2) (p3 : ι3) (p4 : ι4),H (k + 1) p0 p1 p2 p3 p4→∀ K,(∀ (k' : Nat) (p0 : ι0) (p1 : ι1) (p2 : ι2) (p3 : ι3) (p4 : ι4),k'≤k→H k' p0 p1 p2 p3 p4→m9 E nt (S' p0 p1 p2 p3 p4) K)→AW E nt P c (Exit.then K Q) (S' p0 p1 p2 p3 p4)) : AW E nt P (.loop c) Q s:=by
 refine ah0 (fun k a w=>∃ p0 p1 p2 p3 p4,H k p0 p1 p2 p3 p4∧Rel E nt (S' p0 p1 p2 p3 p4) a w) k (h0 _ (fun a w hr=>⟨p0,p1,p2,p3,p4,hk,hr⟩)) (fun k a w ⟨p0,p1,p2,p3,p4,hp,hr⟩=>?_)
 cases k with
 | zero=>exact absurd hp (hz p0 p1 p2 p3 p4)
 | succ k=>exact hround k p0 p1 p2 p3 p4 hp _ (fun k' q0 q1 q2 q3 q4 hk' hp' a' w' hr'=>⟨k',by omega,q0,q1,q2,q3,q4,hp',hr'⟩) a w hr
theorem bH5 {ι0 : Type} {ι1 : Type} {ι2 : Type} {ι3 : Type} {ι4 : Type} {ι5 : Type} {c : Code} (H : Nat→ι0→ι1→ι2→ι3→ι4→ι5→Prop) (S' : ι0→ι1→ι2→ι3→ι4→ι5→S) (k : Nat) (p0 : ι0) (p1 : ι1) (p2 : ι2) (p3 : ι3) (p4 : ι4) (p5 : ι5) (hk : H k p0 p1 p2 p3 p4 p5) (h0 : ∀ K,m9 E nt (S' p0 p1 p2 p3 p4 p5) K→m9 E nt s K) (hz : ∀ (p0 : ι0) (p1 : ι1) (p2 : ι2) (p3 : ι3) (p4 : ι4) (p5 : ι5),¬ H 0 p0 p1 p2 p3 p4 p5)
 (hround : ∀ k (p0 : ι0) (p1 : ι1) (p2 : ι2) (p3 : ι3) (p4 : ι4) (p5 : ι5),H (k + 1) p0 p1 p2 p3 p4 p5→∀ K,(∀ (k' : Nat) (p0 : ι0) (p1 : ι1) (p2 : ι2) (p3 : ι3) (p4 : ι4) (p5 : ι5),k'≤k→H k' p0 p1 p2 p3 p4 p5→m9 E nt (S' p0 p1 p2 p3 p4 p5) K)→AW E nt P c (Exit.then K Q) (S' p0 p1 p2 p3 p4 p5)) : AW E nt P (.loop c) Q s:=by
 refine ah0 (fun k a w=>∃ p0 p1 p2 p3 p4 p5,H k p0 p1 p2 p3 p4 p5∧Rel E nt (S' p0 p1 p2 p3 p4 p5) a w) k (h0 _ (fun a w hr=>⟨p0,p1,p2,p3,p4,p5,hk,hr⟩)) (fun k a w ⟨p0,p1,p2,p3,p4,p5,hp,hr⟩=>?_)
 cases k with
 | zero=>exact absurd hp (hz p0 p1 p2 p3 p4 p5)
 | succ k=>exact hround k p0 p1 p2 p3 p4 p5 hp _ (fun k' q0 q1 q2 q3 q4 q5 hk' hp' a' w' hr'=>⟨k',by omega,q0,q1,q2,q3,q4,q5,hp',hr'⟩) a w hr
theorem bC4 {ι0 : Type} {ι1 : Type} {ι2 : Type} {ι3 : Type} {ι4 : Type} {ι5 : Type} {ι6 : Type} {ι7 : Type} {ι8 : Type} {ι9 : Type} {c : Code} (H : Nat→ι0→ι1→ι2→ι3→ι4→ι5→ι6→ι7→ι8→ι9→Prop) (S' : ι0→ι1→ι2→ι3→ι4→ι5→ι6→ι7→ι8→ι9→S) (k : Nat) (p0 : ι0) (p1 : ι1) (p2 : ι2) (p3 : ι3) (p4 : ι4) (p5 : ι5) (p6 : ι6) (p7 : ι7) (p8 : ι8) (p9 : ι9) (hk : H k p0 p1 p2 p3 p4 p5 p6 p7 p8 p9) (h0 : ∀ K,m9 E nt (S' p0 p1 p2 p3 p4 p5 p6 p7 p8 p9) K→m9 E nt s K) (hz : ∀ (p0 : ι0) (p1 : ι1) (p2 : ι2) (p3 : ι3) (p4 : ι4) (p5 : ι5) (p6 : ι6) (p7 : ι7) (p8 : ι8) (p9 : ι9),¬ H 0 p0 p1 p2 p3 p4 p5 p6 p7 p8 p9)
 (hround : ∀ k (p0 : ι0) (p1 : ι1) (p2 : ι2) (p3 : ι3) (p4 : ι4) (p5 : ι5) (p6 : ι6) (p7 : ι7) (p8 : ι8) (p9 : ι9),H (k + 1) p0 p1 p2 p3 p4 p5 p6 p7 p8 p9→∀ K,(∀ (k' : Nat) (p0 : ι0) (p1 : ι1) (p2 : ι2) (p3 : ι3) (p4 : ι4) (p5 : ι5) (p6 : ι6) (p7 : ι7) (p8 : ι8) (p9 : ι9),k'≤k→H k' p0 p1 p2 p3 p4 p5 p6 p7 p8 p9→m9 E nt (S' p0 p1 p2 p3 p4 p5 p6 p7 p8 p9) K)→AW E nt P c (Exit.then K Q) (S' p0 p1 p2 p3 p4 p5 p6 p7 p8 p9)) : AW E nt P (.loop c) Q s:=by
 refine ah0 (fun k a w=>∃ p0 p1 p2 p3 p4 p5 p6 p7 p8 p9,H k p0 p1 p2 p3 p4 p5 p6 p7 p8 p9∧Rel E nt (S' p0 p1 p2 p3 p4 p5 p6 p7 p8 p9) a w) k (h0 _ (fun a w hr=>⟨p0,p1,p2,p3,p4,p5,p6,p7,p8,p9,hk,hr⟩)) (fun k a w ⟨p0,p1,p2,p3,p4,p5,p6,p7,p8,p9,hp,hr⟩=>?_)
 cases k with
 | zero=>exact absurd hp (hz p0 p1 p2 p3 p4 p5 p6 p7 p8 p9)
 | succ k=>exact hround k p0 p1 p2 p3 p4 p5 p6 p7 p8 p9 hp _ (fun k' q0 q1 q2 q3 q4 q5 q6 q7 q8 q9 hk' hp' a' w' hr'=>⟨k',by omega,q0,q1,q2,q3,q4,q5,q6,q7,q8,q9,hp',hr'⟩) a w hr
theorem bE5 {ι0 : Type} {ι1 : Type} {ι2 : Type} {ι3 : Type} {ι4 : Type} {ι5 : Type} {ι6 : Type} {ι7 : Type} {ι8 : Type} {ι9 : Type} {ι10 : Type} {ι11 : Type} {c : Code} (H : Nat→ι0→ι1→ι2→ι3→ι4→ι5→ι6→ι7→ι8→ι9→ι10→ι11→Prop) (S' : ι0→ι1→ι2→ι3→ι4→ι5→ι6→ι7→ι8→ι9→ι10→ι11→S) (k : Nat) (p0 : ι0) (p1 : ι1) (p2 : ι2) (p3 : ι3) (p4 : ι4) (p5 : ι5) (p6 : ι6) (p7 : ι7) (p8 : ι8) (p9 : ι9) (p10 : ι10) (p11 : ι11) (hk : H k p0 p1 p2 p3 p4 p5 p6 p7 p8 p9 p10 p11) (h0 : ∀ K,m9 E nt (S' p0 p1 p2 p3 p4 p5 p6 p7 p8 p9 p10 p11) K→m9 E nt s K) (hz : ∀ (p0 : ι0) (p1 : ι1) (p2 : ι2) (p3 : ι3) (p4 : ι4) (p5 : ι5) (p6 : ι6) (p7 : ι7) (p8 : ι8) (p9 : ι9) (p10 : ι10) (p11 : ι11),¬ H 0 p0 p1 p2 p3 p4 p5 p6 p7 p8 p9 p10 p11)
 (hround : ∀ k (p0 : ι0) (p1 : ι1) (p2 : ι2) (p3 : ι3) (p4 : ι4) (p5 : ι5) (p6 : ι6) (p7 : ι7) (p8 : ι8) (p9 : ι9) (p10 : ι10) (p11 : ι11),H (k + 1) p0 p1 p2 p3 p4 p5 p6 p7 p8 p9 p10 p11→∀ K,(∀ (k' : Nat) (p0 : ι0) (p1 : ι1) (p2 : ι2) (p3 : ι3) (p4 : ι4) (p5 : ι5) (p6 : ι6) (p7 : ι7) (p8 : ι8) (p9 : ι9) (p10 : ι10) (p11 : ι11),k'≤k→H k' p0 p1 p2 p3 p4 p5 p6 p7 p8 p9 p10 p11→m9 E nt (S' p0 p1 p2 p3 p4 p5 p6 p7 p8 p9 p10 p11) K)→AW E nt P c (Exit.then K Q) (S' p0 p1 p2 p3 p4 p5 p6 p7 p8 p9 p10 p11)) : AW E nt P (.loop c) Q s:=by
 refine ah0 (fun k a w=>∃ p0 p1 p2 p3 p4 p5 p6 p7 p8 p9 p10 p11,H k p0 p1 p2 p3 p4 p5 p6 p7 p8 p9 p10 p11∧Rel E nt (S' p0 p1 p2 p3 p4 p5 p6 p7 p8 p9 p10 p11) a w) k (h0 _ (fun a w hr=>⟨p0,p1,p2,p3,p4,p5,p6,p7,p8,p9,p10,p11,hk,hr⟩)) (fun k a w ⟨p0,p1,p2,p3,p4,p5,p6,p7,p8,p9,p10,p11,hp,hr⟩=>?_)
 cases k with
 | zero=>exact absurd hp (hz p0 p1 p2 p3 p4 p5 p6 p7 p8 p9 p10 p11)
 | succ k=>exact hround k p0 p1 p2 p3 p4 p5 p6 p7 p8 p9 p10 p11 hp _ (fun k' q0 q1 q2 q3 q4 q5 q6 q7 q8 q9 q10 q11 hk' hp' a' w' hr'=>⟨k',by omega,q0,q1,q2,q3,q4,q5,q6,q7,q8,q9,q10,q11,hp',hr'⟩) a w hr
theorem bG0 {ι0 : Type} {ι1 : Type} {ι2 : Type} {ι3 : Type} {ι4 : Type} {ι5 : Type} {ι6 : Type} {ι7 : Type} {ι8 : Type} {ι9 : Type} {ι10 : Type} {ι11 : Type} {ι12 : Type} {c : Code} (H : Nat→ι0→ι1→ι2→ι3→ι4→ι5→ι6→ι7→ι8→ι9→ι10→ι11→ι12→Prop) (S' : ι0→ι1→ι2→ι3→ι4→ι5→ι6→ι7→ι8→ι9→ι10→ι11→ι12→S) (k : Nat) (p0 : ι0) (p1 : ι1) (p2 : ι2) (p3 : ι3) (p4 : ι4) (p5 : ι5) (p6 : ι6) (p7 : ι7) (p8 : ι8) (p9 : ι9) (p10 : ι10) (p11 : ι11) (p12 : ι12) (hk : H k p0 p1 p2 p3 p4 p5 p6 p7 p8 p9 p10 p11 p12) (h0 : ∀ K,m9 E nt (S' p0 p1 p2 p3 p4 p5 p6 p7 p8 p9 p10 p11 p12) K→m9 E nt s K) (hz : ∀ (p0 : ι0) (p1 : ι1) (p2 : ι2) (p3 : ι3) (p4 : ι4) (p5 : ι5) (p6 : ι6) (p7 : ι7) (p8 : ι8) (p9 : ι9) (p10 : ι10) (p11 : ι11) (p12 : ι12),¬ H 0 p0 p1 p2 p3 p4 p5 p6 p7 p8 p9 p10 p11 p12)
 (hround : ∀ k (p0 : ι0) (p1 : ι1) (p2 : ι2) (p3 : ι3) (p4 : ι4) (p5 : ι5) (p6 : ι6) (p7 : ι7) (p8 : ι8) (p9 : ι9) (p10 : ι10) (p11 : ι11) (p12 : ι12),H (k + 1) p0 p1 p2 p3 p4 p5 p6 p7 p8 p9 p10 p11 p12→∀ K,(∀ (k' : Nat) (p0 : ι0) (p1 : ι1) (p2 : ι2) (p3 : ι3) (p4 : ι4) (p5 : ι5) (p6 : ι6) (p7 : ι7) (p8 : ι8) (p9 : ι9) (p10 : ι10) (p11 : ι11) (p12 : ι12),k'≤k→H k' p0 p1 p2 p3 p4 p5 p6 p7 p8 p9 p10 p11 p12→m9 E nt (S' p0 p1 p2 p3 p4 p5 p6 p7 p8 p9 p10 p11 p12) K)→AW E nt P c (Exit.then K Q) (S' p0 p1 p2 p3 p4 p5 p6 p7 p8 p9 p10 p11 p12)) : AW E nt P (.loop c) Q s:=by
 refine ah0 (fun k a w=>∃ p0 p1 p2 p3 p4 p5 p6 p7 p8 p9 p10 p11 p12,H k p0 p1 p2 p3 p4 p5 p6 p7 p8 p9 p10 p11 p12∧Rel E nt (S' p0 p1 p2 p3 p4 p5 p6 p7 p8 p9 p10 p11 p12) a w) k (h0 _ (fun a w hr=>⟨p0,p1,p2,p3,p4,p5,p6,p7,p8,p9,p10,p11,p12,hk,hr⟩)) (fun k a w ⟨p0,p1,p2,p3,p4,p5,p6,p7,p8,p9,p10,p11,p12,hp,hr⟩=>?_)
 cases k with
 | zero=>exact absurd hp (hz p0 p1 p2 p3 p4 p5 p6 p7 p8 p9 p10 p11 p12)
 | succ k=>exact hround k p0 p1 p2 p3 p4 p5 p6 p7 p8 p9 p10 p11 p12 hp _ (fun k' q0 q1 q2 q3 q4 q5 q6 q7 q8 q9 q10 q11 q12 hk' hp' a' w' hr'=>⟨k',by omega,q0,q1,q2,q3,q4,q5,q6,q7,q8,q9,q10,q11,q12,hp',hr'⟩) a w hr
theorem bC1 {ι0 : Type} {ι1 : Type} {ι2 : Type} {ι3 : Type} {ι4 : Type} {ι5 : Type} {ι6 : Type} {ι7 : Type} {ι8 : Type} {ι9 : Type} {ι10 : Type} {ι11 : Type} {ι12 : Type} {ι13 : Type} {c : Code} (H : Nat→ι0→ι1→ι2→ι3→ι4→ι5→ι6→ι7→ι8→ι9→ι10→ι11→ι12→ι13→Prop) (S' : ι0→ι1→ι2→ι3→ι4→ι5→ι6→ι7→ι8→ι9→ι10→ι11→ι12→ι13→S) (k : Nat) (p0 : ι0) (p1 : ι1) (p2 : ι2) (p3 : ι3) (p4 : ι4) (p5 : ι5) (p6 : ι6) (p7 : ι7) (p8 : ι8) (p9 : ι9) (p10 : ι10) (p11 : ι11) (p12 : ι12) (p13 : ι13) (hk : H k p0 p1 p2 p3 p4 p5 p6 p7 p8 p9 p10 p11 p12 p13) (h0 : ∀ K,m9 E nt (S' p0 p1 p2 p3 p4 p5 p6 p7 p8 p9 p10 p11 p12 p13) K→m9 E nt s K) (hz : ∀ (p0 : ι0) (p1 : ι1) (p2 : ι2) (p3 : ι3) (p4 : ι4) (p5 : ι5) (p6 : ι6) (p7 : ι7) (p8 : ι8) (p9 : ι9) (p10 : ι10) (p11 : ι11) (p12 : ι12) (p13 : ι13),¬ H 0 p0 p1 p2 p3 p4 p5 p6 p7 p8 p9 p10 p11 p12 p13)
 (hround : ∀ k (p0 : ι0) (p1 : ι1) (p2 : ι2) (p3 : ι3) (p4 : ι4) (p5 : ι5) (p6 : ι6) (p7 : ι7) (p8 : ι8) (p9 : ι9) (p10 : ι10) (p11 : ι11) (p12 : ι12) (p13 : ι13),H (k + 1) p0 p1 p2 p3 p4 p5 p6 p7 p8 p9 p10 p11 p12 p13→∀ K,(∀ (k' : Nat) (p0 : ι0) (p1 : ι1) (p2 : ι2) (p3 : ι3) (p4 : ι4) (p5 : ι5) (p6 : ι6) (p7 : ι7) (p8 : ι8) (p9 : ι9) (p10 : ι10) (p11 : ι11) (p12 : ι12) (p13 : ι13),k'≤k→H k' p0 p1 p2 p3 p4 p5 p6 p7 p8 p9 p10 p11 p12 p13→m9 E nt (S' p0 p1 p2 p3 p4 p5 p6 p7 p8 p9 p10 p11 p12 p13) K)→AW E nt P c (Exit.then K Q) (S' p0 p1 p2 p3 p4 p5 p6 p7 p8 p9 p10 p11 p12 p13)) : AW E nt P (.loop c) Q s:=by
 refine ah0 (fun k a w=>∃ p0 p1 p2 p3 p4 p5 p6 p7 p8 p9 p10 p11 p12 p13,H k p0 p1 p2 p3 p4 p5 p6 p7 p8 p9 p10 p11 p12 p13∧Rel E nt (S' p0 p1 p2 p3 p4 p5 p6 p7 p8 p9 p10 p11 p12 p13) a w) k (h0 _ (fun a w hr=>⟨p0,p1,p2,p3,p4,p5,p6,p7,p8,p9,p10,p11,p12,p13,hk,hr⟩)) (fun k a w ⟨p0,p1,p2,p3,p4,p5,p6,p7,p8,p9,p10,p11,p12,p13,hp,hr⟩=>?_)
 cases k with
 | zero=>exact absurd hp (hz p0 p1 p2 p3 p4 p5 p6 p7 p8 p9 p10 p11 p12 p13)
 | succ k=>exact hround k p0 p1 p2 p3 p4 p5 p6 p7 p8 p9 p10 p11 p12 p13 hp _ (fun k' q0 q1 q2 q3 q4 q5 q6 q7 q8 q9 q10 q11 q12 q13 hk' hp' a' w' hr'=>⟨k',by omega,q0,q1,q2,q3,q4,q5,q6,q7,q8,q9,q10,q11,q12,q13,hp',hr'⟩) a w hr
theorem cc2 {m : Nat→Nat} {t : TypeId} {k : IntKind} {l : List Int} : an0 m (.box t (l.map (eI k))) = .box t (l.map (eI k)):=by
 show l9.box t ((l.map (eI k)).map (aG8 m)) = _
 rw [List.map_map];rfl
theorem ce9 {m : Nat→Nat} {t : TypeId} {l : List Bool} : an0 m (.box t (l.map eB)) = .box t (l.map eB):=by
 show l9.box t ((l.map eB).map (aG8 m)) = _
 rw [List.map_map];rfl
theorem cc1 {α : Type} {m : Nat→Nat} {ds : List Ds} {e sz i : Nat} {f : α→AV} {l : List α} {X : AV} (hf : ∀ x,rlf m (f x) = f x) : an0 m (.drow true ds e sz ((l.map f).set i X)) = .drow true ds e sz ((l.map f).set i (rlf m X)):=by
 show l9.drow true ds e sz (((l.map f).set i X).map (rlf m)) = _
 rw [List.map_set,List.map_map,show (rlf m ∘ f) = f from funext hf]
theorem bR4 {α : Type} {s : S} {m : Nat→Nat} {ds : List Ds} {e sz i j : Nat} {f : α→AV} {l : List α} {X : AV} {r : List (Nat×l9)} (hr : as8 s m r) (hf : ∀ x,rlf m (f x) = f x:=by intro _;rfl) (h : gB s.bk (m i) = .drow true ds e sz ((l.map f).set j (rlf m X)):=by rfl) : as8 s m ((i,.drow true ds e sz ((l.map f).set j X)) :: r):=⟨h.trans (cc1 hf).symm,hr⟩
theorem D5 {t T b o tt : Nat} {cells l l' : List AV} {rs : List ResultVar} (n : Nat) (h : Rs P s rs l') (hp : gT s.tm t = .box b o:=by rfl) (hb : gB s.bk b = .box tt cells:=by rfl) (hl : (cells.drop o).take n = l:=by rfl) (hn : l.length = n:=by rfl) (hT : am9 P T n = true:=by kernel_rfl) : Rs P s (.cell t T :: rs) (.agg l :: l'):=
 .cell (tl:=[b]) (by rw [hp];exact .boxA hb hl hn hT) h
theorem rc1 {t T b o tt : Nat} {cells l' : List AV} {x : AV} {rs : List ResultVar} (h : Rs P s rs l') (hp : gT s.tm t = .box b o:=by rfl) (hb : gB s.bk b = .box tt cells:=by rfl) (hx : cells[o]? = some x:=by rfl) (hT : X5 P T = true:=by kernel_rfl) : Rs P s (.cell t T :: rs) (x :: l'):=
 .cell (tl:=[b]) (by rw [hp];exact .box hb hx hT) h
end
end Go.Proofs.YtahmbcgolnplgaaGreatA
namespace Go.Proofs.YtahmbcgolnplgaaGreatA
open Go
theorem flE {α : Type} {f : α→AV} {l : List α} (h : ∀ (x : α) (lv : AV),lv ∈ (f x).leaves→∃ v,lv = .lit v) : aq4 (l.map f):=by
 intro x hx lv hlv
 obtain ⟨y,_,rfl⟩:=List.mem_map.1 hx
 exact h y lv hlv
theorem flI {k : IntKind} {l : List Int} : aq4 (l.map (eI k)):=flE fun x lv h=>⟨_,List.mem_singleton.1 h⟩
theorem bY7 {Z : Nat→Prop} {w : World} {z : Fl} {sz l h N c : Nat} {A : Option Addr} {xs : List AV} (H : C3 Z w (.sl z sz xs) (.slice A N c)) (h1 : l≤h) (h2 : h≤N) : N = xs.length∧C3 Z w (.sl z sz ((xs.take h).drop l)) (sliced A l h c sz):=by
 generalize hv : Value.slice A N c = v at H
 cases H with
 | @sl _ _ _ A' c' ad f hc hm hz' hA hl hcell hrep=>
  injection hv with e1 e2 e3
  subst e1;subst e2;subst e3
  refine ⟨rfl,?_⟩
  have hlen : ((xs.take h).drop l).length = h - l:=by simp;omega
  have get : ∀ {j x},((xs.take h).drop l)[j]? = some x→xs[l + j]? = some x:=by
   intro j x hj
   rw [List.getElem?_drop,List.getElem?_take] at hj
   split at hj
   ·exact hj
   ·cases hj
  have e1 : sliced A l h c sz = .slice (if c = l then A else A.map (·.add (l * sz))) ((xs.take h).drop l).length (c - l):=by
   unfold sliced
   rw [hlen]
  rw [e1]
  by_cases hn : h - l = 0
  ·have he : (xs.take h).drop l = []:=List.eq_nil_of_length_eq_zero (by rw [hlen];exact hn)
   exact .sl ad f (by rw [hlen];omega) (by rw [hlen];omega) hz' (fun h=>by rw [hlen] at h;omega) (fun j x hj=>hl _ _ (get hj)) (fun j x i lv hj=>by rw [he] at hj;simp at hj) (fun j x i lv hj=>by rw [he] at hj;simp at hj)
  ·have hA':=hA (by omega)
   refine .sl (ad.add (l * sz)) (fun j i=>f (l + j) i) (by rw [hlen];omega) (by rw [hlen];omega) hz' (fun _=>⟨?_,by rw [al5];exact hA'.2⟩) (fun j x hj=>hl _ _ (get hj)) (fun j x i lv hj hi=>?_) (fun j x i lv hj hi=>hrep _ _ _ _ (get hj) hi)
   ·rw [if_neg (by omega),hA'.1];rfl
   ·rw [add_add,← hcell _ _ _ _ (get hj) hi]
    congr 2
    rw [Nat.add_mul]
    omega
theorem aN3 {P : Program} {T e sz : Nat} (hT : O2 P T e sz = true) : P.underlying T = some (.slice (P.elem T))∧∀ w,(sizeOf (P.elem T)).run P w = .ok sz w:=by
 unfold O2 at hT
 cases hu : P.underlying T with
 | none=>rw [hu] at hT;cases hT
 | some d=>
  rw [hu] at hT
  cases d <;> first | (cases hT;done) | skip
  rename_i e'
  have h2 : (Nat.beq e' e && ae7 P e sz) = true:=hT
  rw [Bool.and_eq_true] at h2
  have he : P.elem T = e':=by unfold Program.elem;rw [hu]
  refine ⟨by rw [he],fun w=>?_⟩
  rw [he,D6 h2.1]
  exact ap1 h2.2 w
section
variable {P : Program} {E : C5} {nt : Nat} {s : S} {o : Oper} {d : Nat} {α : Type} {f : α→AV} {xs : List α}
theorem bN6 {T sz : Nat} {z : Fl} {x : Operand} {lo hi : Option Operand} {u : List AV} (l h : Nat) (vl vh : Option Value) (hop : o.op = .slice T x lo hi none) (hd : o.dst = some d) (hlt : Nat.blt d nt = true) (hx : opd s x = .sl z sz u)
 (hl : ∀ y,lo = some y→∃ v,vl = some v∧opd s y = .lit v) (hl0 : lo = none→vl = none) (hh : ∀ y,hi = some y→∃ v,vh = some v∧opd s y = .lit v) (hh0 : hi = none→vh = none) (h1 : l≤h) (h2 : h≤u.length)
 (hr : ∀ A c w,u.length≤c→(Instr.sliceAt T (.slice A u.length c) vl vh none).run P w = .ok (sliced A l h c sz) w) : s8 P E nt o s ⟨some d,.sl z sz ((u.take h).drop l),[]⟩ (l8 x ++ (lo.toList.flatMap l8 ++ hi.toList.flatMap l8)) []:=
 R4 hd hlt fun tm bk ρ Zn a w hag hs=>by
  have h3:=St.opd (s:=s) hs x (fun t ht=>hag.1 t (List.mem_append_left _ ht))
  rw [hx] at h3
  have e1 : lo.map a.eval = vl:=by
   cases lo with
   | none=>rw [hl0 rfl];rfl
   | some y=>
    obtain ⟨v,rfl,hv⟩:=hl y rfl
    have h2:=St.opd (s:=s) hs y (fun t ht=>hag.1 t (List.mem_append_right _ (List.mem_append_left _ (List.mem_flatMap.2 ⟨y,List.mem_singleton.2 rfl,ht⟩))))
    rw [hv] at h2
    rw [Option.map_some,N1 h2]
  have e2 : hi.map a.eval = vh:=by
   cases hi with
   | none=>rw [hh0 rfl];rfl
   | some y=>
    obtain ⟨v,rfl,hv⟩:=hh y rfl
    have h2:=St.opd (s:=s) hs y (fun t ht=>hag.1 t (List.mem_append_right _ (List.mem_append_right _ (List.mem_flatMap.2 ⟨y,List.mem_singleton.2 rfl,ht⟩))))
    rw [hv] at h2
    rw [Option.map_some,N1 h2]
  have h4 : C3 (fz E Zn z) w (.sl z sz u) (a.eval x):=L0 h3 rfl
  have h5 : ∃ A c,a.eval x = .slice A u.length c∧u.length≤c:=by
   generalize a.eval x = v at h4
   cases h4 with
   | sl ad f hc hm hz hA hl hcell hrep=>exact ⟨_,_,rfl,hc⟩
  obtain ⟨A,c,h6,h7⟩:=h5
  rw [h6] at h4
  refine ⟨_,?_,O5 (.inl (bY7 h4 h1 h2).2)⟩
  unfold execOp
  simp only [hop]
  rw [Sem.run_bind,h6,e1,e2,Option.map_none,hr _ _ _ h7]
  rfl
theorem slH {T sz : Nat} {z : Fl} {x y : Operand} {k : IntKind} {h : Int} (e : Nat) (h0 : 0≤h) (h1 : h≤(xs.length : Int)) (hop : o.op = .slice T x none (some y) none:=by rfl) (hx : opd s x = .sl z sz (xs.map f):=by rfl) (hy : opd s y = .lit (.int k h):=by rfl) (hT : O2 P T e sz = true:=by kernel_rfl) (hd : o.dst = some d:=by rfl) (hlt : Nat.blt d nt = true:=by rfl) : s8 P E nt o s ⟨some d,.sl z sz ((xs.take h.toNat).map f),[]⟩ (l8 x ++ l8 y) []:=by
 obtain ⟨e1,e2⟩:=aN3 hT
 have hl : (xs.map f).length = xs.length:=List.length_map ..
 have:=bN6 (P:=P) (E:=E) (nt:=nt) (s:=s) 0 h.toNat none (some (.int k h)) hop hd hlt hx (fun _ h=>by cases h) (fun _=>rfl) (fun y' h=>by cases h;exact ⟨_,rfl,hy⟩) (fun h=>by cases h) (Nat.zero_le _) (by omega) (fun A c w hc=>by
  rw [run_sliceAt_slice w T _ _ _ _ e1,run_slice_h w T A _ _ e1 k h h0 (by omega),e2];rfl)
 simpa [List.map_take] using this
theorem slL {T sz : Nat} {z : Fl} {x y : Operand} {k : IntKind} {l : Int} (e : Nat) (h0 : 0≤l) (h1 : l≤(xs.length : Int)) (hop : o.op = .slice T x (some y) none none:=by rfl) (hx : opd s x = .sl z sz (xs.map f):=by rfl) (hy : opd s y = .lit (.int k l):=by rfl) (hT : O2 P T e sz = true:=by kernel_rfl) (hd : o.dst = some d:=by rfl) (hlt : Nat.blt d nt = true:=by rfl) : s8 P E nt o s ⟨some d,.sl z sz ((xs.drop l.toNat).map f),[]⟩ (l8 x ++ l8 y) []:=by
 obtain ⟨e1,e2⟩:=aN3 hT
 have hl : (xs.map f).length = xs.length:=List.length_map ..
 have:=bN6 (P:=P) (E:=E) (nt:=nt) (s:=s) l.toNat (xs.map f).length (some (.int k l)) none hop hd hlt hx (fun y' h=>by cases h;exact ⟨_,rfl,hy⟩) (fun h=>by cases h) (fun _ h=>by cases h) (fun _=>rfl) (by omega) (Nat.le_refl _) (fun A c w hc=>by
  rw [run_sliceAt_slice w T _ _ _ _ e1,run_slice_l w T A _ _ e1 k l h0 (by omega),e2];rfl)
 rw [List.take_length] at this
 simpa [List.map_drop] using this
theorem min_ {x y : Operand} {Ts : Array TypeId} {k : IntKind} {m n : Int} (hop : o.op = .call { callee:=.builtin .min,args:=#[x,y],argTypes:=Ts }:=by rfl) (hx : opd s x = .lit (.int k m):=by rfl) (hy : opd s y = .lit (.int k n):=by rfl) (hd : o.dst = some d:=by rfl) (hlt : Nat.blt d nt = true:=by rfl) : s8 P E nt o s ⟨some d,.lit (.int k (min m n)),[]⟩ (l8 x ++ l8 y) []:=by
 have:=bZ4 (P:=P) (E:=E) hop hd hlt hx hy
 rwa [show (if n < m then n else m) = min m n by rw [Int.min_def];split <;> split <;> omega] at this
theorem max_ {x y : Operand} {Ts : Array TypeId} {k : IntKind} {m n : Int} (hop : o.op = .call { callee:=.builtin .max,args:=#[x,y],argTypes:=Ts }:=by rfl) (hx : opd s x = .lit (.int k m):=by rfl) (hy : opd s y = .lit (.int k n):=by rfl) (hd : o.dst = some d:=by rfl) (hlt : Nat.blt d nt = true:=by rfl) : s8 P E nt o s ⟨some d,.lit (.int k (max m n)),[]⟩ (l8 x ++ l8 y) []:=by
 have:=ca1 (P:=P) (E:=E) hop hd hlt hx hy
 rwa [show (if n > m then n else m) = max m n by rw [Int.max_def];split <;> split <;> omega] at this
end
section
variable {P : Program} {E : C5} {nt : Nat} {tm : List (Nat×AV)} {bk : List (Nat×l9)} {K : Act→World→Prop}
theorem ac3 {b : Nat} {x : l9} (i : Nat) : gB ((b,x) :: bk) i = if i = b then x else gB bk i:=by
 unfold gB
 show (match (match Nat.beq i b with | true=>some x | false=>W7 bk i) with | some b=>b | none=>l9.fresh) = _
 cases he : Nat.beq i b with
 | true=>simp [D6 he]
 | false=>rw [if_neg (ad0 he)];rfl
theorem bW0 {Zn : Nat→Prop} {w : World} {e sz : Nat} (hsz : 0 < sz) : O7 Zn w e sz (.slice none 0 0) []:=
 ⟨hsz,[],⟨by simp,.inl ⟨rfl,rfl⟩⟩,fun j x h=>by simp at h,fun j x i lv h=>by simp at h⟩
theorem C4 {cells : List AV} {tb : Nat} (b j nb e sz : Nat) (cells' : List AV) (h : m9 E nt ⟨tm,(b,.box tb cells') :: (nb,.row e sz []) :: bk⟩ K) (hb : gB bk b = .box tb cells:=by rfl) (hj : cells[j]? = some (.lit (.slice none 0 0)):=by rfl) (hc : cells.set j (.row nb) = cells':=by rfl) (hnb : gB bk nb = .fresh:=by rfl) (hsz : Nat.blt 0 sz = true:=by rfl) : m9 E nt ⟨tm,bk⟩ K:=by
 intro a w ⟨ρ,Zn,hs⟩
 refine h a w ⟨fun i=>if i = nb then .slice none 0 0 else ρ i,Zn,?_⟩
 have hsz' : 0 < sz:=by simpa using hsz
 have hne : b≠nb:=fun e=>by subst e;rw [hb] at hnb;cases hnb
 have hg : ∀ i,gB ((b,.box tb cells') :: (nb,.row e sz []) :: bk) i = if i = b then .box tb cells' else if i = nb then .row e sz [] else gB bk i:=fun i=>by rw [ac3,ac3]
 refine hs.upd (fun i=>i = b∨i = nb) rfl rfl rfl (Nat.le_refl _) (fun _ _ _=>rfl) (fun i hi=>if_neg fun e=>hi (.inr e)) (fun i hi=>by rw [hg,if_neg fun e=>hi (.inl e),if_neg fun e=>hi (.inr e)]) (fun i hi hf=>?_) (fun _ h=>h) (fun _ h=>.inl h) (fun i hi m=>?_) (fun i k hi ho=>?_) (fun i i' k hi hi' ho ho'=>?_) rfl rfl (fun i=>.inl ⟨rfl,rfl⟩) (fun i hi=>by rcases hi with rfl | rfl;exact ⟨by rw [show gB bk i = _ from hb];rfl,by rw [hg,if_pos rfl];rfl⟩;exact ⟨by rw [show gB bk i = .fresh from hnb];rfl,by rw [hg,if_neg (Ne.symm hne),if_pos rfl];rfl⟩)
 ·rcases hi with hi | hi
  ·subst hi;exact ⟨by rw [hg,if_pos rfl];simp,if_neg hne⟩
  ·subst hi;exact absurd hnb hf
 ·rcases hi with hi | hi
  ·subst hi
   rw [hg,if_pos rfl,if_neg hne]
   have h1:=hs.blk i
   rw [hb] at h1
   obtain ⟨g,cs,h2,h3,h4⟩:=h1
   obtain ⟨v,hv,hr⟩:=h4.get hj
   have hv' : v = .slice none 0 0:=by
    rcases hr with hr | ⟨_,_,_,hr,_⟩
    ·exact hr.1
    ·cases hr
   subst hv'
   refine ⟨g,cs,h2,h3,?_⟩
   have h5:=(h4.imp fun _ _ h=>L6.move m h).set j (a:=.row nb) (b:=.slice none 0 0) (.inl ⟨by rw [hg,if_neg (Ne.symm hne),if_pos rfl];simp,by simp,rfl⟩)
   rw [hc] at h5
   have e : cs.set j (.slice none 0 0) = cs:=by
    apply List.ext_getElem?
    intro k
    rw [List.getElem?_set]
    split
    ·rename_i e;subst e
     rw [hv]
     have:=(List.getElem?_eq_some_iff.1 hv).1
     simp [this]
    ·rfl
   rwa [e] at h5
  ·subst hi
   rw [hg,if_neg (Ne.symm hne),if_pos rfl,if_pos rfl]
   exact bW0 hsz'
 ·rcases hi with hi | hi
  ·subst hi
   have ho' : O9 ρ (gB bk) i k:=by
    refine ⟨by rw [hb];rfl,?_⟩
    have:=ho.2
    simpa [hne] using this
   exact ⟨.inr ⟨i,.inl rfl,ho'⟩,(hs.out i k ho').2⟩
  ·subst hi
   have:=ho.2
   simp [M9] at this
 ·have nn : ∀ {k},¬ O9 (fun i=>if i = nb then .slice none 0 0 else ρ i) (gB ((b,.box tb cells') :: (nb,.row e sz []) :: bk)) nb k:=fun {k} ho=>by
   have:=ho.2
   simp [M9] at this
  rcases hi with hi | hi <;> rcases hi' with hi' | hi'
  ·exact hi.trans hi'.symm
  ·subst hi';exact absurd ho' nn
  ·subst hi;exact absurd ho nn
  ·exact hi.trans hi'.symm
end
end Go.Proofs.YtahmbcgolnplgaaGreatA
namespace Go.Proofs.YtahmbcgolnplgaaGreatA
open Go Go.RowKit Go.WideShapes
def Ev {α : Type} (g : Nat→Option α) (r : α) : Prop:=∃ K,∀ k,K≤k→g k = some r
theorem Ev.now {α : Type} (r : α) : Ev (fun _=>some r) r:=⟨0,fun _ _=>rfl⟩
theorem Ev.rounds {α : Type} {g : Nat→Option α} {r : α} (h : Ev g r) : ∃ k,g k = some r:=h.elim fun K h=>⟨K,h K (Nat.le_refl _)⟩
theorem Ev.bind {α β : Type} {g : Nat→Option α} {f : Nat→α→Option β} {a : α} {r : β} (h : Ev g a) (k : Ev (fun n=>f n a) r) : Ev (fun n=>(g n).bind (f n)) r:=by
 obtain ⟨K,h⟩:=h
 obtain ⟨K',k⟩:=k
 exact ⟨max K K',fun n hn=>by simp only [h n (by omega),Option.bind_some];exact k n (by omega)⟩
theorem Ev.step {α : Type} {g f : Nat→Option α} {r : α} (h : ∀ k,g (k + 1) = f k) (k : Ev f r) : Ev g r:=by
 obtain ⟨K,k⟩:=k
 refine ⟨K + 1,fun n hn=>?_⟩
 obtain ⟨m,rfl⟩ : ∃ m,n = m + 1:=⟨n - 1,by omega⟩
 rw [h]
 exact k m (by omega)
theorem Ev.congr {α : Type} {g f : Nat→Option α} {r : α} (h : ∀ k,g k = f k) (k : Ev f r) : Ev g r:=k.elim fun K k=>⟨K,fun n hn=>(h n).trans (k n hn)⟩
def aJ2 (w : World) (k : Nat) : Prop:=k < w.heap.size
def OkN (k : IntKind) (n : Int) : Prop:=(Lit.int k n).wf = true
def OkL {α : Type} (ok : α→Prop) (l : List α) : Prop:=l.length≤9223372036854775807∧∀ a ∈ l,ok a
def bg3 (P : Program) (t : TypeId) {α : Type} (f : α→List AV) (ok : α→Prop) : Prop:=
 (∀ a,(f a).length = P.cellsOf t)∧∀ (H : Type) (enc : TypeId×Value→H) (w : World) (base : Nat) (sp : Nat→Bool) (held : Bool) (fuel : Nat) (cs : List Value) (x : DataW H×List MemPlace),
  DataW.trod enc P w base sp held fuel t cs = some x→∃ a,Fa (C3 (aJ2 w) w) (f a) cs∧ok a
theorem Fa.one {α β : Type} {R : α→β→Prop} {a : α} {b : β} (h : R a b) : Fa R [a] [b]:=Fa.cons h Fa.nil
theorem bE0 {P : Program} {t : TypeId} {k : IntKind} (ht : P.underlying t = some (.int k)) (hc : P.cellsOf t = 1) : bg3 P t (fun n : Int=>[.lit (.int k n)]) (OkN k):=
 ⟨fun _=>hc.symm,fun H enc w base sp held fuel cs x h=>by
  obtain ⟨n,rfl,_,hw⟩:=DataW.trod_int ht h
  exact ⟨n,Fa.one (.lit rfl),hw⟩⟩
theorem by8 {w : World} {a : Addr} {u : Value} (h : w.cell? a = some u) : a.block < w.heap.size:=by
 rcases Nat.lt_or_ge a.block w.heap.size with hl | hl
 ·exact hl
 ·exfalso
  unfold World.cell? at h
  rw [Array.getElem?_eq_none hl] at h
  simp at h
theorem bq6 {P : Program} {t e : TypeId} {α : Type} {g : α→List AV} {ok : α→Prop} (f : α→AV) (sz : Nat) (hf : ∀ a,(f a).leaves = g a) (ht : P.underlying t = some (.slice e)) (hc : P.cellsOf t = 1) (hs : P.cellsOf e = sz) (hs0 : Nat.blt 0 sz = true) (h : bg3 P e g ok) : bg3 P t (fun l : List α=>[.sl .n sz (l.map f)]) (OkL ok):=
 ⟨fun _=>hc.symm,fun H enc w base sp held fuel cs x hx=>by
  subst hs
  have hs0 : 0 < P.cellsOf e:=by simpa using hs0
  rcases Go.Deep.open_slice ht hx with ⟨rfl,_⟩ | ⟨a,len,cap,m,n,D,Pl,rfl,hb,hl,hm,hmm,_,hi⟩
  ·exact ⟨[],Fa.one (.sl (⟨0,0,none⟩ : Addr) (fun _ _=>undef) (by simp) (by simp) hs0 (fun h=>by simp at h) (fun j x h=>by simp at h) (fun j x i lv h=>by simp at h) (fun j x i lv h=>by simp at h)),by simp,by simp⟩
  ·have hcap : cap≤9223372036854775807:=by unfold maxLen at hm;omega
   have hlm : len≤m:=by rw [hmm];split <;> omega
   have key : ∀ i,i < len→∃ (p : α) (c : List Value),(Fa (C3 (aJ2 w) w) (g p) c∧ok p)∧∀ j u,c[j]? = some u→w.cell? (a.add (i * P.cellsOf e + j)) = some u:=by
    intro i hil
    obtain ⟨cs',h1,h2⟩:=hi i (by omega)
    obtain ⟨p,hK,hok⟩:=h.2 _ _ _ _ _ _ _ _ _ h2
    obtain ⟨_,hlen,hat⟩:=World.cells?_some h1
    refine ⟨p,cs',⟨hK,hok⟩,fun j u hj=>?_⟩
    have hjl : j < cs'.length:=(List.getElem?_eq_some_iff.1 hj).1
    rw [← Go.Deep.add_add,hat j (by omega),hj]
   rcases Nat.eq_zero_or_pos len with h0 | h0
   ·subst h0
    exact ⟨[],Fa.one (.sl a (fun _ _=>undef) (by simp) (by simp) hs0 (fun h=>by simp at h) (fun j x h=>by simp at h) (fun j x i lv h=>by simp at h) (fun j x i lv h=>by simp at h)),by simp,by simp⟩
   ·obtain ⟨p0,_⟩:=key 0 h0
    have hfun : ∃ F : Nat→α,∃ C : Nat→List Value,∀ i,i < len→(Fa (C3 (aJ2 w) w) (g (F i)) (C i)∧ok (F i))∧∀ j u,(C i)[j]? = some u→w.cell? (a.add (i * P.cellsOf e + j)) = some u:=by
     classical
     refine ⟨fun i=>if hil : i < len then Classical.choose (key i hil) else p0,fun i=>if hil : i < len then Classical.choose (Classical.choose_spec (key i hil)) else [],fun i hil=>?_⟩
     simp only [dif_pos hil]
     exact Classical.choose_spec (Classical.choose_spec (key i hil))
    obtain ⟨F,C,hF⟩:=hfun
    have glen : ∀ p,(g p).length = P.cellsOf e:=h.1
    have at_ : ∀ {j x},(((List.range len).map F).map f)[j]? = some x→j < len∧x = f (F j):=by
     intro j x hj
     rw [List.getElem?_map,List.getElem?_map] at hj
     obtain ⟨p,hp,rfl⟩:=Option.map_eq_some_iff.1 hj
     obtain ⟨q,hq,rfl⟩:=Option.map_eq_some_iff.1 hp
     have hjl : j < len:=by have:=(List.getElem?_eq_some_iff.1 hq).1;simpa using this
     rw [List.getElem?_range hjl] at hq
     injection hq with hq;subst hq
     exact ⟨hjl,rfl⟩
    have hlen : (((List.range len).map F).map f).length = len:=by simp
    have cell : ∀ {j x i lv},(((List.range len).map F).map f)[j]? = some x→x.leaves[i]? = some lv→∃ u,w.cell? (a.add (j * P.cellsOf e + i)) = some u∧(C j)[i]? = some u∧C3 (aJ2 w) w lv u:=by
     intro j x i lv hj hi
     obtain ⟨hjl,rfl⟩:=at_ hj
     rw [hf] at hi
     obtain ⟨⟨h1,_⟩,h2⟩:=hF j hjl
     obtain ⟨u,hu,hr⟩:=h1.get hi
     exact ⟨u,h2 _ _ hu,hu,hr⟩
    have hz : a.block < w.heap.size:=by
     obtain ⟨⟨h1,_⟩,h2⟩:=hF 0 h0
     have : 0 < (C 0).length:=by rw [← h1.1,glen];exact hs0
     have h3:=h2 0 _ (List.getElem?_eq_getElem this)
     have h4:=by8 h3
     rwa [al5] at h4
    refine ⟨(List.range len).map F,Fa.one ?_,by simp;omega,fun p hp=>?_⟩
    ·have:=C3.sl (Z:=aJ2 w) (w:=w) (z:=.n) (sz:=P.cellsOf e) (xs:=((List.range len).map F).map f) (A:=some a) (c:=cap) a (fun j i=>((C j)[i]?).getD undef) (by rw [hlen];exact hl) (by rw [hlen];omega) hs0 (fun _=>⟨rfl,hz⟩)
      (fun j x hj=>by obtain ⟨_,rfl⟩:=at_ hj;rw [hf,glen]) (fun j x i lv hj hi=>by obtain ⟨u,h1,h2,_⟩:=cell hj hi;rw [h2];exact h1) (fun j x i lv hj hi=>by obtain ⟨u,_,h2,h3⟩:=cell hj hi;rw [h2];exact h3)
     rwa [hlen] at this
    ·obtain ⟨i,hi1,rfl⟩:=List.mem_map.1 hp
     exact (hF i (by simpa using hi1)).1.2⟩
def E0 (w : World) : C5:=⟨w,aJ2 w,fun _=>False,aJ2 w,fun _=>none⟩
def oo : AV→AV
 | .sl _ sz xs=>.sl .o sz xs
 | x=>x
abbrev bW3 (w : World) (x : AV) (v : Value) : Prop:=G9 (fz (E0 w) fun _=>False) w (fun _=>undef) (gB []) x v
theorem bU9 {w : World} {x : AV} {v : Value} (h : C3 (aJ2 w) w x v) : I9 (fz (E0 w) fun _=>False) w (fun _=>undef) (gB []) (oo x) v:=by
 cases x with
 | lit v'=>cases h with | lit h=>exact ⟨rfl,h⟩
 | junk=>cases h with | junk h=>exact h
 | sl z sz xs=>exact (h.flag (z':=.o)).move (fun k _=>rfl) (fun k hk=>.inl hk)
 | _=>cases h
theorem bB3 {P : Program} {t e : TypeId} {α : Type} {g : α→List AV} {ok : α→Prop} (f : α→AV) (sz : Nat) (hf : ∀ a,(f a).leaves = g a) (ht : P.underlying t = some (.slice e)) (hc : P.cellsOf t = 1) (hs : P.cellsOf e = sz) (hs0 : Nat.blt 0 sz = true) (h : bg3 P e g ok) {H : Type} {enc : TypeId×Value→H} {w : World} {sp : Nat→Bool} {held : Bool} {r : Reach} {base b0 : Nat} {v : Value} {d : DataW H} {ps : List MemPlace}
 (hv : Value.okWide P w r b0 t v) (hd : DataW.Trod enc P w base sp held t v d ps) : ∃ l : List α,bW3 w (.sl .o sz (l.map f)) v∧OkL ok l:=by
 obtain ⟨a,len,cap,rfl⟩:=okWide_slice ht hv
 obtain ⟨fuel,hf'⟩:=hd
 obtain ⟨l,hl,hok⟩:=(bq6 f sz hf ht hc hs hs0 h).2 _ _ _ _ _ _ _ _ _ hf'
 simp only [Value.cells] at hl
 obtain ⟨u,hu,hr⟩:=hl.get (i:=0) rfl
 simp at hu
 subst hu
 exact ⟨l,O5 (.inl (bU9 hr)),hok⟩
theorem bC3 {P : Program} {f : FuncId} {args : List AV} {b : Bool} (h : j7 P f [] args [] (.lit (.bool b))) {w : World} {vs : List Value} (hv : Fa (bW3 w) args vs) : Calls P f vs.toArray w fun e w'=>e = .returned (.bool b)∧Below w.heap.size w w':=by
 have hp : Hp (E0 w) (fun _=>undef) (E0 w).Zi (gB []) (E0 w).W0:=
  ⟨rfl,rfl,rfl,Nat.le_refl _,fun k hk=>hk,fun _ _=>rfl,fun _ h=>h,fun _ h=>h,fun _ h=>h.elim,fun _ _ h=>(by cases h),fun _=>trivial,⟨fun _ _=>none,fun b op ds e sz xs h=>(by cases h),fun b h=>(by cases h),fun b k ho=>(by cases ho.1),fun b k ho=>(by cases ho.1),fun b b' k ho _=>(by cases ho.1)⟩,rfl,rfl,fun _=>.inl rfl⟩
 refine (h (E0 w) (fun _=>undef) vs hp (fun b v h=>by cases h) hv).mono ?_
 rintro e w' ⟨v,ρ',Zn,rfl,hp',hr⟩
 exact ⟨by rw [N1 hr],hp'.os,hp'.tape,hp'.output,hp'.size,hp'.keep⟩
end Go.Proofs.YtahmbcgolnplgaaGreatA
