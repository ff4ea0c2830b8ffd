/- The abstract machine, fifteenth part: one word a step. No claim lies here. -/
import Derived.Test.YtkkglhhkpihmgaaGreatA14
import Derived.Laws.Wrap64
import Derived.RowKit
set_option linter.unusedVariables false
set_option linter.unusedSimpArgs false
namespace Go.Proofs.YtkkglhhkpihmgaaGreatA
open Go Go.RowKit
theorem w64 (x : Int) : IntKind.i64.wrap x = wrap64 x:=by first | rfl | (simp [IntKind.wrap,wrap64,IntKind.bits,IntKind.signed];done) | (unfold IntKind.wrap wrap64;simp [IntKind.bits,IntKind.signed];omega)

def opo (s : S) : Operand→Option AV
  | .tmp t=>gTo s.tm t
  | .const v=>some (.lit v)
  | .func f=>some (.fn f [])
  | .global _=>none
where
  gTo : List (Nat × AV)→Nat→Option AV
    | [],_=>none
    | (j,x) :: r,i=>match Nat.beq i j with
      | true=>some x
      | false=>gTo r i
theorem gTo_some : ∀ {l : List (Nat × AV)} {i : Nat} {x : AV},opo.gTo l i = some x→gT l i = x
  | [],_,_,h=>by cases h
  | (j,y) :: r,i,x,h=>by
    have h' : (match Nat.beq i j with | true=>some y | false=>opo.gTo r i) = some x:=h
    show (match Nat.beq i j with | true=>y | false=>gT r i) = x
    cases hb : Nat.beq i j with
    | true=>rw [hb] at h';injection h'
    | false=>rw [hb] at h';exact gTo_some h'
theorem opo_some {s : S} {x : Operand} {v : AV} (h : opo s x = some v) : opd s x = v:=by
  cases x with
  | tmp t=>exact gTo_some h
  | const v=>injection h
  | func f=>injection h
  | global g=>cases h

section
variable {P : Program} {ops : Array Oper} {Q : Exit→Act→World→Prop} {E : Env} {nt : Nat} {s0 : S} {tm : List (Nat × AV)} {bk : List (Nat × Blk)} {todo : List Oper} {o : Oper} {ns : List Nm} {G : Prop}
/-- What is known of a guard. -/
inductive Gd (ops : Array Oper) (nt : Nat) (tm : List (Nat × AV)) (o : Oper) : List Nat→Prop
  | no : o.guard = none→Gd ops nt tm o []
  | on {g d : Nat} {want t : Bool} {og : Oper} : o.guard = some (g,want)→ops[g]? = some og→og.dst = some d→Nat.blt d nt = true→gT tm d = .lit (.bool t)→t = want→Gd ops nt tm o [d]
theorem Gd.snd {c : LA} {lk gl tl : List Nat} (hg : Gd ops nt tm o gl) (h : Owp P Q E nt o ⟨tm,bk⟩ c lk tl) (i : Nat) (ho : ops[i]? = some o) : Snd P ops Q E nt i ⟨tm,bk⟩ c (gl ++ lk) tl:=by
  cases hg with
  | no h0=>exact snd_of ho h0 h
  | on h0 h1 h2 h3 h4 h5=>exact snd_on ho h0 h1 h2 h3 h4 h5 h
theorem g0 (h : o.guard = none:=by rfl) : Gd ops nt tm o []:=.no h
theorem g1 {g d : Nat} {want t : Bool} {og : Oper} (h5 : t = want) (h0 : o.guard = some (g,want):=by rfl) (h1 : ops[g]? = some og:=by rfl) (h2 : og.dst = some d:=by rfl) (h3 : Nat.blt d nt = true:=by rfl) (h4 : gT tm d = .lit (.bool t):=by rfl) : Gd ops nt tm o [d]:=.on h0 h1 h2 h3 h4 h5
/-- A value comes. -/
theorem kv {d : Nat} {x : AV} {lk gl tl : List Nat} (hg : Gd ops nt tm o gl) (hok : Okv P E nt o ⟨tm,bk⟩ ⟨some d,x,[]⟩ lk tl) (h : Wk P ops Q E nt s0 todo ⟨(d,x) :: tm,bk⟩ (⟨some d,[],gl ++ lk,tl⟩ :: ns) G) : Wk P ops Q E nt s0 (o :: todo) ⟨tm,bk⟩ ns G :=
  wk_step ⟨some d,x,[]⟩ (gl ++ lk) tl (fun i ho=>hg.snd hok.owp i ho) h
/-- A value and a block. -/
theorem kb {d b : Nat} {x : AV} {y : Blk} {lk gl tl : List Nat} (hg : Gd ops nt tm o gl) (hok : Okv P E nt o ⟨tm,bk⟩ ⟨some d,x,[(b,y)]⟩ lk tl) (h : Wk P ops Q E nt s0 todo ⟨(d,x) :: tm,(b,y) :: bk⟩ (⟨some d,[b],gl ++ lk,tl⟩ :: ns) G) : Wk P ops Q E nt s0 (o :: todo) ⟨tm,bk⟩ ns G :=
  wk_step ⟨some d,x,[(b,y)]⟩ (gl ++ lk) tl (fun i ho=>hg.snd hok.owp i ho) h
/-- A value and two blocks. -/
theorem kc {d b c : Nat} {x : AV} {y z : Blk} {lk gl tl : List Nat} (hg : Gd ops nt tm o gl) (hok : Okv P E nt o ⟨tm,bk⟩ ⟨some d,x,[(b,y),(c,z)]⟩ lk tl) (h : Wk P ops Q E nt s0 todo ⟨(d,x) :: tm,(b,y) :: (c,z) :: bk⟩ (⟨some d,[b,c],gl ++ lk,tl⟩ :: ns) G) : Wk P ops Q E nt s0 (o :: todo) ⟨tm,bk⟩ ns G :=
  wk_step ⟨some d,x,[(b,y),(c,z)]⟩ (gl ++ lk) tl (fun i ho=>hg.snd hok.owp i ho) h
/-- A block turns. -/
theorem ks {b : Nat} {y : Blk} {lk gl tl : List Nat} (hg : Gd ops nt tm o gl) (hok : Okv P E nt o ⟨tm,bk⟩ ⟨none,.junk,[(b,y)]⟩ lk tl) (h : Wk P ops Q E nt s0 todo ⟨tm,(b,y) :: bk⟩ (⟨none,[b],gl ++ lk,tl⟩ :: ns) G) : Wk P ops Q E nt s0 (o :: todo) ⟨tm,bk⟩ ns G :=
  wk_step ⟨none,.junk,[(b,y)]⟩ (gl ++ lk) tl (fun i ho=>hg.snd hok.owp i ho) h
/-- What its guard does not want. -/
theorem kx {d g dg : Nat} {want t : Bool} {og : Oper} (hne : t ≠ want) (h : Wk P ops Q E nt s0 todo ⟨(d,.junk) :: tm,bk⟩ (⟨some d,[],[dg],[]⟩ :: ns) G) (h0 : o.guard = some (g,want):=by rfl) (h1 : ops[g]? = some og:=by rfl) (h2 : og.dst = some dg:=by rfl) (h3 : Nat.blt dg nt = true:=by rfl) (h4 : gT tm dg = .lit (.bool t):=by rfl) (h5 : o.dst = some d:=by rfl) (h6 : Nat.blt d nt = true:=by rfl) : Wk P ops Q E nt s0 (o :: todo) ⟨tm,bk⟩ ns G :=
  wk_step ⟨some d,.junk,[]⟩ [dg] [] (fun i ho=>snd_off (od:=some d) ho h0 h1 h2 h3 h4 hne h5 (fun e he=>by injection he with he;rw [← he];exact h6)) h
/-- A call. -/
theorem kcall {d : Option Nat} {x : AV} {ups : List (Nat × Blk)} {lk gl tl : List Nat} {c : LA} (hg : Gd ops nt tm o gl) (hok : Owp P Q E nt o ⟨tm,bk⟩ c lk tl) (hc : c = ⟨d,x,ups⟩) (h : Wk P ops Q E nt s0 todo ⟨putT tm d x,ups ++ bk⟩ (⟨d,ups.map (·.1),gl ++ lk,tl⟩ :: ns) G) : Wk P ops Q E nt s0 (o :: todo) ⟨tm,bk⟩ ns G:=by
  subst hc
  exact wk_step ⟨d,x,ups⟩ (gl ++ lk) tl (fun i ho=>hg.snd hok i ho) h
end

/-! The rules under short names; what they ask is found by looking. -/
section
variable {P : Program} {E : Env} {nt : Nat} {s : S} {o : Oper} {d : Nat}
theorem mv {x : Operand} {v : AV} (hop : o.op = .move x:=by rfl) (hx : opo s x = some v:=by rfl) (hd : o.dst = some d:=by rfl) (hlt : Nat.blt d nt = true:=by rfl) : Okv P E nt o s ⟨some d,v,[]⟩ (lkO x) []:=opo_some hx ▸ r_mv hop hd hlt
theorem asg {x : Operand} {v : AV} (hop : o.op = .assign x:=by rfl) (hx : opo s x = some v:=by rfl) (hd : o.dst = some d:=by rfl) (hlt : Nat.blt d nt = true:=by rfl) : Okv P E nt o s ⟨some d,v,[]⟩ (lkO x) []:=opo_some hx ▸ r_as hop hd hlt
theorem pkT {c x y : Operand} {t : Bool} {v : AV} (ht : t = true) (hop : o.op = .pick c x y:=by rfl) (hx : opo s x = some v:=by rfl) (hc : opd s c = .lit (.bool t):=by rfl) (hd : o.dst = some d:=by rfl) (hlt : Nat.blt d nt = true:=by rfl) : Okv P E nt o s ⟨some d,v,[]⟩ (lkO c ++ lkO x) []:=opo_some hx ▸ r_pickT hop hd hlt hc ht
theorem pkF {c x y : Operand} {t : Bool} {v : AV} (ht : t = false) (hop : o.op = .pick c x y:=by rfl) (hx : opo s y = some v:=by rfl) (hc : opd s c = .lit (.bool t):=by rfl) (hd : o.dst = some d:=by rfl) (hlt : Nat.blt d nt = true:=by rfl) : Okv P E nt o s ⟨some d,v,[]⟩ (lkO c ++ lkO y) []:=opo_some hx ▸ r_pickF hop hd hlt hc ht
section
variable {T T' : TypeId} {x y : Operand} {m n : Int} {k : IntKind}
theorem add6 (hop : o.op = .binOp .add T x y T':=by rfl) (hx : opd s x = .lit (.int .i64 m):=by rfl) (hy : opd s y = .lit (.int .i64 n):=by rfl) (hd : o.dst = some d:=by rfl) (hlt : Nat.blt d nt = true:=by rfl) : Okv P E nt o s ⟨some d,.lit (.int .i64 (wrap64 (m + n))),[]⟩ (lkO x ++ lkO y) []:=w64 _ ▸ r_add hd hlt hx hy hop
theorem sub6 (hop : o.op = .binOp .sub T x y T':=by rfl) (hx : opd s x = .lit (.int .i64 m):=by rfl) (hy : opd s y = .lit (.int .i64 n):=by rfl) (hd : o.dst = some d:=by rfl) (hlt : Nat.blt d nt = true:=by rfl) : Okv P E nt o s ⟨some d,.lit (.int .i64 (wrap64 (m - n))),[]⟩ (lkO x ++ lkO y) []:=w64 _ ▸ r_sub hd hlt hx hy hop
theorem mul6 (hop : o.op = .binOp .mul T x y T':=by rfl) (hx : opd s x = .lit (.int .i64 m):=by rfl) (hy : opd s y = .lit (.int .i64 n):=by rfl) (hd : o.dst = some d:=by rfl) (hlt : Nat.blt d nt = true:=by rfl) : Okv P E nt o s ⟨some d,.lit (.int .i64 (wrap64 (m * n))),[]⟩ (lkO x ++ lkO y) []:=w64 _ ▸ r_mul hd hlt hx hy hop
theorem add (hop : o.op = .binOp .add T x y T':=by rfl) (hx : opd s x = .lit (.int k m):=by rfl) (hy : opd s y = .lit (.int k n):=by rfl) (hd : o.dst = some d:=by rfl) (hlt : Nat.blt d nt = true:=by rfl) : Okv P E nt o s ⟨some d,.lit (.int k (k.wrap (m + n))),[]⟩ (lkO x ++ lkO y) []:=r_add hd hlt hx hy hop
theorem sub (hop : o.op = .binOp .sub T x y T':=by rfl) (hx : opd s x = .lit (.int k m):=by rfl) (hy : opd s y = .lit (.int k n):=by rfl) (hd : o.dst = some d:=by rfl) (hlt : Nat.blt d nt = true:=by rfl) : Okv P E nt o s ⟨some d,.lit (.int k (k.wrap (m - n))),[]⟩ (lkO x ++ lkO y) []:=r_sub hd hlt hx hy hop
theorem quo (hn : n ≠ 0) (hop : o.op = .binOp .quo T x y T':=by rfl) (hx : opd s x = .lit (.int k m):=by rfl) (hy : opd s y = .lit (.int k n):=by rfl) (hd : o.dst = some d:=by rfl) (hlt : Nat.blt d nt = true:=by rfl) : Okv P E nt o s ⟨some d,.lit (.int k (k.wrap (m.tdiv n))),[]⟩ (lkO x ++ lkO y) []:=r_quo hd hlt hx hy hn hop
theorem rem (hn : n ≠ 0) (hop : o.op = .binOp .rem T x y T':=by rfl) (hx : opd s x = .lit (.int k m):=by rfl) (hy : opd s y = .lit (.int k n):=by rfl) (hd : o.dst = some d:=by rfl) (hlt : Nat.blt d nt = true:=by rfl) : Okv P E nt o s ⟨some d,.lit (.int k (m.tmod n)),[]⟩ (lkO x ++ lkO y) []:=r_rem hd hlt hx hy hn hop
theorem eql (hop : o.op = .binOp .eql T x y T':=by rfl) (hx : opd s x = .lit (.int k m):=by rfl) (hy : opd s y = .lit (.int k n):=by rfl) (hd : o.dst = some d:=by rfl) (hlt : Nat.blt d nt = true:=by rfl) : Okv P E nt o s ⟨some d,.lit (.bool (m == n)),[]⟩ (lkO x ++ lkO y) []:=r_eql hd hlt hx hy hop
theorem neq (hop : o.op = .binOp .neq T x y T':=by rfl) (hx : opd s x = .lit (.int k m):=by rfl) (hy : opd s y = .lit (.int k n):=by rfl) (hd : o.dst = some d:=by rfl) (hlt : Nat.blt d nt = true:=by rfl) : Okv P E nt o s ⟨some d,.lit (.bool (m != n)),[]⟩ (lkO x ++ lkO y) []:=r_neq hd hlt hx hy hop
theorem lss (hop : o.op = .binOp .lss T x y T':=by rfl) (hx : opd s x = .lit (.int k m):=by rfl) (hy : opd s y = .lit (.int k n):=by rfl) (hd : o.dst = some d:=by rfl) (hlt : Nat.blt d nt = true:=by rfl) : Okv P E nt o s ⟨some d,.lit (.bool (decide (m < n))),[]⟩ (lkO x ++ lkO y) []:=r_lss hd hlt hx hy hop
theorem leq (hop : o.op = .binOp .leq T x y T':=by rfl) (hx : opd s x = .lit (.int k m):=by rfl) (hy : opd s y = .lit (.int k n):=by rfl) (hd : o.dst = some d:=by rfl) (hlt : Nat.blt d nt = true:=by rfl) : Okv P E nt o s ⟨some d,.lit (.bool (decide (m ≤ n))),[]⟩ (lkO x ++ lkO y) []:=r_leq hd hlt hx hy hop
theorem gtr (hop : o.op = .binOp .gtr T x y T':=by rfl) (hx : opd s x = .lit (.int k m):=by rfl) (hy : opd s y = .lit (.int k n):=by rfl) (hd : o.dst = some d:=by rfl) (hlt : Nat.blt d nt = true:=by rfl) : Okv P E nt o s ⟨some d,.lit (.bool (decide (m > n))),[]⟩ (lkO x ++ lkO y) []:=r_gtr hd hlt hx hy hop
theorem geq (hop : o.op = .binOp .geq T x y T':=by rfl) (hx : opd s x = .lit (.int k m):=by rfl) (hy : opd s y = .lit (.int k n):=by rfl) (hd : o.dst = some d:=by rfl) (hlt : Nat.blt d nt = true:=by rfl) : Okv P E nt o s ⟨some d,.lit (.bool (decide (m ≥ n))),[]⟩ (lkO x ++ lkO y) []:=r_geq hd hlt hx hy hop
end
section
variable {T T' : TypeId} {x y : Operand} {u v : ByteArray} {a b : Bool}
theorem cat (h : u.size + v.size ≤ 9223372036854775807) (hop : o.op = .binOp .add T x y T':=by rfl) (hx : opd s x = .lit (.string u):=by rfl) (hy : opd s y = .lit (.string v):=by rfl) (hd : o.dst = some d:=by rfl) (hlt : Nat.blt d nt = true:=by rfl) : Okv P E nt o s ⟨some d,.lit (.string (u ++ v)),[]⟩ (lkO x ++ lkO y) []:=r_cat hd hlt hx hy hop h
theorem seq (hop : o.op = .binOp .eql T x y T':=by rfl) (hx : opd s x = .lit (.string u):=by rfl) (hy : opd s y = .lit (.string v):=by rfl) (hd : o.dst = some d:=by rfl) (hlt : Nat.blt d nt = true:=by rfl) : Okv P E nt o s ⟨some d,.lit (.bool (u.toList == v.toList)),[]⟩ (lkO x ++ lkO y) []:=r_seq hd hlt hx hy hop
theorem sne (hop : o.op = .binOp .neq T x y T':=by rfl) (hx : opd s x = .lit (.string u):=by rfl) (hy : opd s y = .lit (.string v):=by rfl) (hd : o.dst = some d:=by rfl) (hlt : Nat.blt d nt = true:=by rfl) : Okv P E nt o s ⟨some d,.lit (.bool (!(u.toList == v.toList))),[]⟩ (lkO x ++ lkO y) []:=r_sne hd hlt hx hy hop
theorem beq (hop : o.op = .binOp .eql T x y T':=by rfl) (hx : opd s x = .lit (.bool a):=by rfl) (hy : opd s y = .lit (.bool b):=by rfl) (hT : boolT P T = true:=by kernel_rfl) (hd : o.dst = some d:=by rfl) (hlt : Nat.blt d nt = true:=by rfl) : Okv P E nt o s ⟨some d,.lit (.bool (a == b)),[]⟩ (lkO x ++ lkO y) []:=r_beq hd hlt hx hy hT hop
theorem bne (hop : o.op = .binOp .neq T x y T':=by rfl) (hx : opd s x = .lit (.bool a):=by rfl) (hy : opd s y = .lit (.bool b):=by rfl) (hT : boolT P T = true:=by kernel_rfl) (hd : o.dst = some d:=by rfl) (hlt : Nat.blt d nt = true:=by rfl) : Okv P E nt o s ⟨some d,.lit (.bool (!(a == b))),[]⟩ (lkO x ++ lkO y) []:=r_bne hd hlt hx hy hT hop
theorem not_ (hop : o.op = .unOp .not T x:=by rfl) (hx : opd s x = .lit (.bool a):=by rfl) (hd : o.dst = some d:=by rfl) (hlt : Nat.blt d nt = true:=by rfl) : Okv P E nt o s ⟨some d,.lit (.bool (!a)),[]⟩ (lkO x) []:=r_not hop hd hlt hx
theorem quo6 {y : Operand} {T' : TypeId} {m n : Int} (hn : n ≠ 0) (hop : o.op = .binOp .quo T x y T':=by rfl) (hx : opd s x = .lit (.int .i64 m):=by rfl) (hy : opd s y = .lit (.int .i64 n):=by rfl) (hd : o.dst = some d:=by rfl) (hlt : Nat.blt d nt = true:=by rfl) : Okv P E nt o s ⟨some d,.lit (.int .i64 (wrap64 (m.tdiv n))),[]⟩ (lkO x ++ lkO y) []:=w64 _ ▸ r_quo hd hlt hx hy hn hop
theorem neg {k : IntKind} {n : Int} (hop : o.op = .unOp .neg T x:=by rfl) (hx : opd s x = .lit (.int k n):=by rfl) (hd : o.dst = some d:=by rfl) (hlt : Nat.blt d nt = true:=by rfl) : Okv P E nt o s ⟨some d,.lit (.int k (k.wrap (0 - n))),[]⟩ (lkO x) []:=r_neg hop hd hlt hx
theorem cnv {src dst : TypeId} {k : IntKind} (k' : IntKind) {n : Int} (hop : o.op = .convert src dst x:=by rfl) (hx : opd s x = .lit (.int k n):=by rfl) (hT : intT P src dst k' = true:=by kernel_rfl) (hd : o.dst = some d:=by rfl) (hlt : Nat.blt d nt = true:=by rfl) : Okv P E nt o s ⟨some d,.lit (.int k' (k'.wrap n)),[]⟩ (lkO x) []:=r_conv hop hd hlt hx hT
theorem ext {i : Nat} {l : List AV} {z : AV} (hop : o.op = .extract x i:=by rfl) (hx : opd s x = .tup l:=by rfl) (hy : l[i]? = some z:=by rfl) (hd : o.dst = some d:=by rfl) (hlt : Nat.blt d nt = true:=by rfl) : Okv P E nt o s ⟨some d,z,[]⟩ (lkO x) []:=r_ext hop hd hlt hx hy
/-- A field's address; off: its place among the cells, n: the sum. -/
theorem faB {f b c : Nat} (off n : Nat) (hop : o.op = .fieldAddr T x f:=by rfl) (hx : opd s x = .box b c:=by rfl) (hT : fieldT P T f off = true:=by kernel_rfl) (hn : c + off = n:=by rfl) (hd : o.dst = some d:=by rfl) (hlt : Nat.blt d nt = true:=by rfl) : Okv P E nt o s ⟨some d,.box b n,[]⟩ (lkO x) []:=r_fa hop hd hlt hx rfl hT (by rw [← hn];rfl)
theorem faE {f b sz i j : Nat} (off n : Nat) (hop : o.op = .fieldAddr T x f:=by rfl) (hx : opd s x = .elp b sz i j:=by rfl) (hT : fieldT P T f off = true:=by kernel_rfl) (hn : j + off = n:=by rfl) (hd : o.dst = some d:=by rfl) (hlt : Nat.blt d nt = true:=by rfl) : Okv P E nt o s ⟨some d,.elp b sz i n,[]⟩ (lkO x) []:=r_fa hop hd hlt hx rfl hT (by rw [← hn];rfl)
theorem faR {f j : Nat} {z : Fl} {w : AV} (off n : Nat) (hop : o.op = .fieldAddr T x f:=by rfl) (hx : opd s x = .rp z w j:=by rfl) (hT : fieldT P T f off = true:=by kernel_rfl) (hn : j + off = n:=by rfl) (hd : o.dst = some d:=by rfl) (hlt : Nat.blt d nt = true:=by rfl) : Okv P E nt o s ⟨some d,.rp z w n,[]⟩ (lkO x) []:=r_fa hop hd hlt hx rfl hT (by rw [← hn];rfl)
theorem nilB {b c : Nat} (hop : o.op = .nilCheck x:=by rfl) (hx : opd s x = .box b c:=by rfl) (hd : o.dst = some d:=by rfl) (hlt : Nat.blt d nt = true:=by rfl) : Okv P E nt o s ⟨some d,.box b c,[]⟩ (lkO x) []:=r_nil hop hd hlt hx rfl
/-- Reading. -/
theorem ldB {T b c t : Nat} {cells : List AV} {v : AV} (hop : o.op = .load T x:=by rfl) (hx : opd s x = .box b c:=by rfl) (hb : gB s.bk b = .box t cells:=by rfl) (hv : cells[c]? = some v:=by rfl) (hT : scalarT P T = true:=by kernel_rfl) (hd : o.dst = some d:=by rfl) (hlt : Nat.blt d nt = true:=by rfl) : Okv P E nt o s ⟨some d,v,[]⟩ (lkO x) [b]:=r_ld hop hd hlt hx (.box hb hv hT)
theorem ldBA {T b c t : Nat} {cells : List AV} (n : Nat) (l : List AV) (hop : o.op = .load T x:=by rfl) (hx : opd s x = .box b c:=by rfl) (hb : gB s.bk b = .box t cells:=by rfl) (hv : (cells.drop c).take n = l:=by rfl) (hl : l.length = n:=by rfl) (hT : aggT P T n = true:=by kernel_rfl) (hd : o.dst = some d:=by rfl) (hlt : Nat.blt d nt = true:=by rfl) : Okv P E nt o s ⟨some d,.agg l,[]⟩ (lkO x) [b]:=r_ld hop hd hlt hx (.boxA hb hv hl hT)
theorem ldR {T j : Nat} {z : Fl} {w : AV} (v : AV) {v0 : AV} (hop : o.op = .load T x:=by rfl) (hx : opd s x = .rp z w j:=by rfl) (hv : w.leaves[j]? = some v0:=by rfl) (hi : imm z v0 = v:=by rfl) (hT : scalarT P T = true:=by kernel_rfl) (hd : o.dst = some d:=by rfl) (hlt : Nat.blt d nt = true:=by rfl) : Okv P E nt o s ⟨some d,v,[]⟩ (lkO x) []:=hi ▸ r_ld hop hd hlt hx (.rp hv hT)
theorem ldRA {T j : Nat} {z : Fl} {w : AV} (n : Nat) (l : List AV) {l0 : List AV} (hop : o.op = .load T x:=by rfl) (hx : opd s x = .rp z w j:=by rfl) (hv : (w.leaves.drop j).take n = l0:=by rfl) (hl : l0.length = n:=by rfl) (hi : l0.map (imm z) = l:=by rfl) (hT : aggT P T n = true:=by kernel_rfl) (hd : o.dst = some d:=by rfl) (hlt : Nat.blt d nt = true:=by rfl) : Okv P E nt o s ⟨some d,.agg l,[]⟩ (lkO x) []:=hi ▸ r_ld hop hd hlt hx (.rpA hv hl hT)
theorem ldE {T b e sz i j : Nat} {xs : List AV} (w : AV) (v : AV) {v0 : AV} (hw : xs[i]? = some w) (hop : o.op = .load T x:=by rfl) (hx : opd s x = .elp b sz i j:=by rfl) (hb : gB s.bk b = .row e sz xs:=by rfl) (hv : w.leaves[j]? = some v0:=by rfl) (hi : imm .n v0 = v:=by rfl) (hT : scalarT P T = true:=by kernel_rfl) (hd : o.dst = some d:=by rfl) (hlt : Nat.blt d nt = true:=by rfl) : Okv P E nt o s ⟨some d,v,[]⟩ (lkO x) [b]:=hi ▸ r_ld hop hd hlt hx (.el hb hw hv hT)
theorem ldEA {T b e sz i j : Nat} {xs : List AV} (n : Nat) (w : AV) (l : List AV) {l0 : List AV} (hw : xs[i]? = some w) (hop : o.op = .load T x:=by rfl) (hx : opd s x = .elp b sz i j:=by rfl) (hb : gB s.bk b = .row e sz xs:=by rfl) (hv : (w.leaves.drop j).take n = l0:=by rfl) (hl : l0.length = n:=by rfl) (hi : l0.map (imm .n) = l:=by rfl) (hT : aggT P T n = true:=by kernel_rfl) (hd : o.dst = some d:=by rfl) (hlt : Nat.blt d nt = true:=by rfl) : Okv P E nt o s ⟨some d,.agg l,[]⟩ (lkO x) [b]:=hi ▸ r_ld hop hd hlt hx (.elA hb hw hv hl hT)
/-- Indexing. -/
theorem ixS {T sz : Nat} {z : Fl} {xs : List AV} {k : IntKind} {i : Int} (e : Nat) (w : AV) (h0 : 0 ≤ i) (hw : xs[i.toNat]? = some w) (hop : o.op = .indexAddr T x y:=by rfl) (hx : opd s x = .sl z sz xs:=by rfl) (hy : opd s y = .lit (.int k i):=by rfl) (hT : sliceT P T e sz = true:=by kernel_rfl) (hd : o.dst = some d:=by rfl) (hlt : Nat.blt d nt = true:=by rfl) : Okv P E nt o s ⟨some d,.rp z w 0,[]⟩ (lkO x ++ lkO y) []:=r_ixS hop hd hlt hx hy h0 hw hT (Nat.beq_refl _)
theorem ixR {T b e' sz : Nat} {xs : List AV} {k : IntKind} {i : Int} (e : Nat) (h0 : 0 ≤ i) (h1 : i < (xs.length : Int)) (hop : o.op = .indexAddr T x y:=by rfl) (hx : opd s x = .row b:=by rfl) (hb : gB s.bk b = .row e' sz xs:=by rfl) (hy : opd s y = .lit (.int k i):=by rfl) (hT : sliceT P T e sz = true:=by kernel_rfl) (hd : o.dst = some d:=by rfl) (hlt : Nat.blt d nt = true:=by rfl) : Okv P E nt o s ⟨some d,.elp b sz i.toNat 0,[]⟩ (lkO x ++ lkO y) [b]:=r_ixR hop hd hlt hx hb hy h0 h1 hT (Nat.beq_refl _)
theorem lnR {T b e sz : Nat} {xs : List AV} {n : Int} (hn : (xs.length : Int) = n) (hop : o.op = .call { callee:=.builtin .len,args:=#[x],argTypes:=#[T] }:=by rfl) (hx : opd s x = .row b:=by rfl) (hb : gB s.bk b = .row e sz xs:=by rfl) (hT : isSliceT P T = true:=by kernel_rfl) (hd : o.dst = some d:=by rfl) (hlt : Nat.blt d nt = true:=by rfl) : Okv P E nt o s ⟨some d,.lit (.int .i64 n),[]⟩ (lkO x) [b]:=r_len hop hd hlt hx (.row hb hn) hT
theorem lnS {T sz : Nat} {z : Fl} {xs : List AV} {n : Int} (hn : (xs.length : Int) = n) (hop : o.op = .call { callee:=.builtin .len,args:=#[x],argTypes:=#[T] }:=by rfl) (hx : opd s x = .sl z sz xs:=by rfl) (hT : isSliceT P T = true:=by kernel_rfl) (hd : o.dst = some d:=by rfl) (hlt : Nat.blt d nt = true:=by rfl) : Okv P E nt o s ⟨some d,.lit (.int .i64 n),[]⟩ (lkO x) []:=r_len hop hd hlt hx (.sl hn) hT
theorem lnT {T : Nat} (hop : o.op = .call { callee:=.builtin .len,args:=#[x],argTypes:=#[T] }:=by rfl) (hx : opd s x = .lit (.string u):=by rfl) (hT : isStrT P T = true:=by kernel_rfl) (hd : o.dst = some d:=by rfl) (hlt : Nat.blt d nt = true:=by rfl) : Okv P E nt o s ⟨some d,.lit (.int .i64 (u.size : Int)),[]⟩ (lkO x) []:=r_lenStr hop hd hlt hx hT
/-- Boxes and rows. -/
theorem alc {T : Nat} (nb : Nat) (zs : List Value) (cells : List AV) (hc : zs.map .lit = cells:=by rfl) (hop : o.op = .alloc T:=by rfl) (hnb : gB s.bk nb = .fresh:=by rfl) (hz : zeroOf P T = some zs:=by kernel_rfl) (h1 : zs.all (·.oneCell') = true:=by rfl) (hd : o.dst = some d:=by rfl) (hlt : Nat.blt d nt = true:=by rfl) : Okv P E nt o s ⟨some d,.box nb 0,[(nb,.box T cells)]⟩ [] [nb]:=r_alloc hop hd hlt hnb hz h1 hc
theorem bxA {T : Nat} (nb : Nat) {l : List AV} (hop : o.op = .box T x:=by rfl) (hx : opd s x = .agg l:=by rfl) (hnb : gB s.bk nb = .fresh:=by rfl) (hd : o.dst = some d:=by rfl) (hlt : Nat.blt d nt = true:=by rfl) : Okv P E nt o s ⟨some d,.box nb 0,[(nb,.box T l)]⟩ (lkO x) [nb]:=r_box hop hd hlt hnb hx rfl rfl
theorem bld {parts : Array (Nat × Operand)} (pl : List (Nat × Nat)) (zs : List Value) (l : List AV) (hop : o.op = .build T parts:=by rfl) (hz : zeroOf P T = some zs:=by kernel_rfl) (h1 : zs.all (·.oneCell') = true:=by rfl) (hp : placesT P T pl = true:=by kernel_rfl) (hd : o.dst = some d:=by rfl) (hlt : Nat.blt d nt = true:=by rfl) (hl : fillS s pl (zs.map .lit) parts.toList = some l:=by rfl) : Okv P E nt o s ⟨some d,.agg l,[]⟩ (parts.toList.flatMap fun p=>lkO p.2) []:=r_build pl hop hd hlt hz h1 hp hl
theorem bsl {T len : Nat} {parts : Array (Nat × Operand)} {l : List AV} (nb e sz : Nat) (zs : List Value) (xs : List AV) (hop : o.op = .buildSlice T len parts:=by rfl) (hx : xs.flatMap AV.leaves = l:=by rfl) (hnb : gB s.bk nb = .fresh:=by rfl) (hT : sliceT P T e sz = true:=by kernel_rfl) (hz : zeroOf P e = some zs:=by kernel_rfl) (h1 : zs.all (·.oneCell') = true:=by rfl) (hzl : Nat.beq zs.length sz = true:=by rfl) (hsz : Nat.blt 0 sz = true:=by rfl) (hcap : Nat.ble (len * sz) 16777216 = true:=by rfl) (hxl : lensIs sz xs = true:=by rfl) (hlen : Nat.beq xs.length len = true:=by rfl) (hpl : l.all plain = true:=by rfl) (hd : o.dst = some d:=by rfl) (hlt : Nat.blt d nt = true:=by rfl) (hl : fillS s ((List.range len).map fun i=>(i * sz,sz)) (initA zs sz len) parts.toList = some l:=by rfl) : Okv P E nt o s ⟨some d,.row nb,[(nb,.row e sz xs)]⟩ (parts.toList.flatMap fun p=>lkO p.2) [nb]:=r_bs hop hd hlt hnb hT hz h1 hzl hsz hcap hl hx hxl hlen hpl
theorem mks {T : Nat} {k k' : IntKind} {m : Int} (nb e sz bytes : Nat) (zs : List Value) (v : AV) (xs : List AV) (h0 : 0 ≤ m) (hle : bytes * m.toNat ≤ 281474976710656) (hxs : List.replicate m.toNat v = xs) (hop : o.op = .makeSlice T x y:=by rfl) (hx : opd s x = .lit (.int k m):=by rfl) (hy : opd s y = .lit (.int k' m):=by rfl) (hv : ZL v.leaves zs:=by (repeat (first | exact trivial | refine ⟨rfl,?_⟩ | refine ⟨⟨rfl,rfl⟩,?_⟩))) (hnb : gB s.bk nb = .fresh:=by rfl) (hT : sliceT P T e sz = true:=by kernel_rfl) (hz : zeroOf P e = some zs:=by kernel_rfl) (h1 : zs.all (·.oneCell') = true:=by rfl) (hzl : Nat.beq zs.length sz = true:=by rfl) (hsz : Nat.blt 0 sz = true:=by rfl) (hby : bytesIs P e bytes = true:=by kernel_rfl) (hb0 : Nat.blt 0 bytes = true:=by rfl) (hd : o.dst = some d:=by rfl) (hlt : Nat.blt d nt = true:=by rfl) : Okv P E nt o s ⟨some d,.row nb,[(nb,.row e sz xs)]⟩ (lkO x ++ lkO y) [nb]:=r_ms hop hd hlt hnb hx hy hT hz h1 hzl hsz hby hb0 h0 hle hv hxs
/-- Stores. -/
theorem stB {T b c t : Nat} {p : Operand} {v : AV} {cells : List AV} (n : Nat) (cells' : List AV) (hop : o.op = .store T p x:=by rfl) (hp : opd s p = .box b c:=by rfl) (hx : opo s x = some v:=by rfl) (hb : gB s.bk b = .box t cells:=by rfl) (hy : notT v = true:=by rfl) (hT : sizeIs P T n = true:=by kernel_rfl) (hn : Nat.beq v.leaves.length n = true:=by rfl) (hle : Nat.ble (c + n) cells.length = true:=by rfl) (hd : o.dst = none:=by rfl) (hc : cells.take c ++ v.leaves ++ cells.drop (c + n) = cells':=by rfl) : Okv P E nt o s ⟨none,.junk,[(b,.box t cells')]⟩ (lkO p ++ lkO x) [b]:=r_st hop hd hp hb (opo_some hx) hy hT hn hle hc
theorem stE {T b e sz i j : Nat} {p : Operand} {v w : AV} {xs : List AV} (n : Nat) (w' : AV) (xs' : List AV) (hw : xs[i]? = some w) (hxs : xs.set i w' = xs') (hop : o.op = .store T p x:=by rfl) (hp : opd s p = .elp b sz i j:=by rfl) (hx : opo s x = some v:=by rfl) (hb : gB s.bk b = .row e sz xs:=by rfl) (hw' : w'.leaves = w.leaves.take j ++ v.leaves ++ w.leaves.drop (j + n):=by rfl) (hy : notT v = true:=by rfl) (hpl : v.leaves.all plain = true:=by rfl) (hT : sizeIs P T n = true:=by kernel_rfl) (hn : Nat.beq v.leaves.length n = true:=by rfl) (hle : Nat.ble (j + n) w.leaves.length = true:=by rfl) (hd : o.dst = none:=by rfl) : Okv P E nt o s ⟨none,.junk,[(b,.row e sz xs')]⟩ (lkO p ++ lkO x) [b]:=r_stE hop hd hp hb (opo_some hx) hy hpl hT hn hw hle hw' hxs
/-- append. -/
theorem apR {T b : Nat} {p : AV} {xs ys : List AV} {tl : List Nat} (nb e sz bytes : Nat) (zs : List Value) (zz : List AV) (hn : Nw s sz p ys tl) (hlen : (xs.length + ys.length) * bytes ≤ 140737488355328) (hzz : xs ++ ys = zz) (hop : o.op = .call { callee:=.builtin .append,args:=#[x,y],argTypes:=#[T,T] }:=by rfl) (hx : opd s x = .row b:=by rfl) (hb : gB s.bk b = .row e sz xs:=by rfl) (hy : opo s y = some p:=by rfl) (hnb : gB s.bk nb = .fresh:=by rfl) (hT : sliceT P T e sz = true:=by kernel_rfl) (hz : zeroOf P e = some zs:=by kernel_rfl) (hzl : Nat.beq zs.length sz = true:=by rfl) (hby : bytesIs P e bytes = true:=by kernel_rfl) (hb0 : Nat.blt 0 bytes = true:=by rfl) (hd : o.dst = some d:=by rfl) (hlt : Nat.blt d nt = true:=by rfl) : Okv P E nt o s ⟨some d,.row nb,[(b,.gone),(nb,.row e sz zz)]⟩ (lkO x ++ lkO y) (nb :: b :: tl):=r_app hop hd hlt hnb hx hb (opo_some hy) hn hT hz hzl hby hb0 hlen hzz
/-- A call out of its contract; ids: the caller's numbers for the contract's blocks. -/
theorem cal {Q : Exit→Act→World→Prop} {fn : Func} {f : FuncId} {pre post : List (Nat × Blk)} {args : List AV} {res : AV} {as : Array Operand} {ts : Array TypeId} {cf : Operand} {caps : List AV} {dd : Option Nat} (hc : ACalls P f pre args post res) (ids : List Nat) (far : Nat) (up : Fl)
    (hop : o.op = .call { callee:=.value cf,args:=as,argTypes:=ts }:=by rfl) (hcf : opd s cf = .fn f caps:=by rfl) (hf : P.funcs[f]? = some fn) (hname : (fn.name == "runtime.NumGoroutine") = false:=by kernel_rfl) (hbody : fn.body.isSome = true:=by rfl) (hd : o.dst = dd:=by rfl) (hlt : (match dd with | some e=>Nat.blt e nt | none=>true) = true:=by rfl)
    (hargs : zipL (vw3 s (ids.take pre.length) up) args (as.toList.map (opd s) ++ caps) = args.map (ren3 (mN ids far)):=by rfl) (hnt : (as.toList.map (opd s) ++ caps).all notTup = true:=by rfl) (hna : args.all notTup = true:=by rfl) (hpre : PreOk s (ids.take pre.length) up (mN ids far) pre:=by (repeat (first | exact trivial | refine ⟨rfl,?_⟩)))
    (hfar : gB s.bk far = .fresh:=by rfl) (hfar2 : ids.contains far = false:=by rfl) (hkp : keys 0 pre = true:=by rfl) (hkq : keys 0 post = true:=by rfl) (hlen : Nat.beq ids.length post.length = true:=by rfl) (hle : Nat.ble pre.length post.length = true:=by rfl) (hnd : nodupN ids = true:=by rfl) (hnew : allFresh s (ids.drop pre.length):=by (repeat (first | exact trivial | refine ⟨rfl,?_⟩))) (hnp : nofresh pre = true:=by rfl) (hnq : nofresh post = true:=by rfl) :
    Owp P Q E nt o s ⟨dd,mp4 (outl up (mN ids far)) res,post.map (fun p=>(mN ids far p.1,mpB (outl up (mN ids far)) p.2))⟩ (lkO cf ++ as.toList.flatMap lkO) (far :: ids ++ ((as.toList.map (opd s) ++ caps).flatMap rows3 ++ (ids.take pre.length).flatMap (fun b=>rowsB (gB s.bk b)))) :=
  owp_call ids far up hc hop hcf hf hname hbody hd (fun e he=>by subst he;exact hlt) hargs hnt hna hpre hfar hfar2 hkp hkq hlen hle hnd hnew hnp hnq
end
end
end Go.Proofs.YtkkglhhkpihmgaaGreatA
