import Derived.Test.YtahmbcgolnplgaaGreatProg
import Derived.Test.YtahmbcgolnplgaaGreatA19
import Derived.Test.YtahmbcgolnplgaaGreatQ1
import Derived.Test.YtahmbcgolnplgaaGreatShelf
set_option linter.unusedVariables false
set_option linter.unusedSimpArgs false
set_option maxRecDepth 100000
namespace Go.Proofs.YtahmbcgolnplgaaGreat.PFnNoHoles
open Go Go.RowKit Go.Proofs.YtahmbcgolnplgaaGreatA
theorem hM : Tryz.prog.follows .mixedOrders = true:=by kernel_rfl
structure r7 where
 f0 : Int
 f1 : Int
def ah4 : r7:=⟨(0 : Int),(0 : Int)⟩
def S2 (x : r7) : AV:=.agg [.lit (.int .i64 x.f0),.lit (.int .i64 x.f1)]
def ac1 (l : List r7) (i : Int) : r7:=l.getD i.toNat ah4
structure B9 where
 f0 : Int
 f1 : r7
 f2 : Int
 f3 : r7
def bM1 : B9:=⟨(0 : Int),ah4,(0 : Int),ah4⟩
def S9 (x : B9) : AV:=.agg [.lit (.int .i64 x.f0),.lit (.int .i64 x.f1.f0),.lit (.int .i64 x.f1.f1),.lit (.int .i64 x.f2),.lit (.int .i64 x.f3.f0),.lit (.int .i64 x.f3.f1)]
def A4 (l : List B9) (i : Int) : B9:=l.getD i.toNat bM1
structure D9 where
 f0 : List Int
 f1 : List B9
 f2 : Int
 f3 : Int
def bK1 : D9:=⟨([] : List Int),([] : List B9),(0 : Int),(0 : Int)⟩
def X0 (x : D9) : AV:=.agg [.sl .n 1 (x.f0.map (eI .i64)),.sl .n 6 (x.f1.map S9),.lit (.int .i64 x.f2),.lit (.int .i64 x.f3)]
def K0 (l : List D9) (i : Int) : D9:=l.getD i.toNat bK1
structure N7 where
 f0 : Int
 f1 : Int
 f2 : List r7
def z60 : N7:=⟨(0 : Int),(0 : Int),([] : List r7)⟩
structure A6 where
 f0 : Int
 f1 : Int
 f2 : Int
 f3 : N7
 f4 : ByteArray
def z62 : A6:=⟨(0 : Int),(0 : Int),(0 : Int),z60,ByteArray.empty⟩
def e62 (x : A6) : AV:=.agg [.lit (.int .i64 x.f0),.lit (.int .i64 x.f1),.lit (.int .i64 x.f2),.lit (.int .i64 x.f3.f0),.lit (.int .i64 x.f3.f1),.sl .n 2 (x.f3.f2.map S2),.lit (.string x.f4)]
def Z5 (l : List A6) (i : Int) : A6:=l.getD i.toNat z62
structure f9 where
 f0 : Int
 f1 : Int
 f2 : Int
 f3 : Int
def R6 : f9:=⟨(0 : Int),(0 : Int),(0 : Int),(0 : Int)⟩
def r8 (x : f9) : AV:=.agg [.lit (.int .i64 x.f0),.lit (.int .i64 x.f1),.lit (.int .i64 x.f2),.lit (.int .i64 x.f3)]
def m8 (l : List f9) (i : Int) : f9:=l.getD i.toNat R6
theorem bg4 {l : List f9} : aq4 (l.map r8):=flE fun x lv h=>by
 simp only [r8,AV.leaves,List.mem_cons,List.not_mem_nil,or_false] at h
 rcases h with rfl | rfl | rfl | rfl
 all_goals exact ⟨_,rfl⟩
structure u5 where
 f0 : Int
 f1 : Int
 f2 : Int
 f3 : Int
def z46 : u5:=⟨(0 : Int),(0 : Int),(0 : Int),(0 : Int)⟩
def I1 (x : u5) : AV:=.agg [.lit (.int .i64 x.f0),.lit (.int .i64 x.f1),.lit (.int .i64 x.f2),.lit (.int .i64 x.f3)]
def H2 (l : List u5) (i : Int) : u5:=l.getD i.toNat z46
theorem ce7 {l : List u5} : aq4 (l.map I1):=flE fun x lv h=>by
 simp only [I1,AV.leaves,List.mem_cons,List.not_mem_nil,or_false] at h
 rcases h with rfl | rfl | rfl | rfl
 all_goals exact ⟨_,rfl⟩
structure H7 where
 f0 : List u5
 f1 : Int
 f2 : Int
 f3 : Int
def z50 : H7:=⟨([] : List u5),(0 : Int),(0 : Int),(0 : Int)⟩
def M5 (x : H7) : AV:=.agg [.sl .n 4 (x.f0.map I1),.lit (.int .i64 x.f1),.lit (.int .i64 x.f2),.lit (.int .i64 x.f3)]
def V2 (l : List H7) (i : Int) : H7:=l.getD i.toNat z50
structure D3 where
 f0 : Int
 f1 : Int
 f2 : List u5
 f3 : Int
 f4 : Int
def z48 : D3:=⟨(0 : Int),(0 : Int),([] : List u5),(0 : Int),(0 : Int)⟩
def L2 (x : D3) : AV:=.agg [.lit (.int .i64 x.f0),.lit (.int .i64 x.f1),.sl .n 4 (x.f2.map I1),.lit (.int .i64 x.f3),.lit (.int .i64 x.f4)]
def I0 (l : List D3) (i : Int) : D3:=l.getD i.toNat z48
structure D1 where
 f0 : Int
 f1 : Int
 f2 : u5
def z96 : D1:=⟨(0 : Int),(0 : Int),z46⟩
def I2 (x : D1) : AV:=.agg [.lit (.int .i64 x.f0),.lit (.int .i64 x.f1),.lit (.int .i64 x.f2.f0),.lit (.int .i64 x.f2.f1),.lit (.int .i64 x.f2.f2),.lit (.int .i64 x.f2.f3)]
def U6 (l : List D1) (i : Int) : D1:=l.getD i.toNat z96
theorem cb4 {l : List D1} : aq4 (l.map I2):=flE fun x lv h=>by
 simp only [I2,AV.leaves,List.mem_cons,List.not_mem_nil,or_false] at h
 rcases h with rfl | rfl | rfl | rfl | rfl | rfl
 all_goals exact ⟨_,rfl⟩
structure A2 where
 f0 : Int
 f1 : Int
 f2 : u5
def aQ2 : A2:=⟨(0 : Int),(0 : Int),z46⟩
def C9 (x : A2) : AV:=.agg [.lit (.int .i64 x.f0),.lit (.int .i64 x.f1),.lit (.int .i64 x.f2.f0),.lit (.int .i64 x.f2.f1),.lit (.int .i64 x.f2.f2),.lit (.int .i64 x.f2.f3)]
def J4 (l : List A2) (i : Int) : A2:=l.getD i.toNat aQ2
theorem ca2 {l : List A2} : aq4 (l.map C9):=flE fun x lv h=>by
 simp only [C9,AV.leaves,List.mem_cons,List.not_mem_nil,or_false] at h
 rcases h with rfl | rfl | rfl | rfl | rfl | rfl
 all_goals exact ⟨_,rfl⟩
structure C7 where
 f0 : Bool
 f1 : ByteArray
 f2 : Bool
def bx1 : C7:=⟨false,ByteArray.empty,false⟩
def F9 (x : C7) : AV:=.agg [.lit (.bool x.f0),.lit (.string x.f1),.lit (.bool x.f2)]
def E2 (l : List C7) (i : Int) : C7:=l.getD i.toNat bx1
theorem bZ5 {l : List C7} : aq4 (l.map F9):=flE fun x lv h=>by
 simp only [F9,AV.leaves,List.mem_cons,List.not_mem_nil,or_false] at h
 rcases h with rfl | rfl | rfl
 all_goals exact ⟨_,rfl⟩
structure E9 where
 f0 : Int
 f1 : Int
 f2 : Int
 f3 : Bool
def z42 : E9:=⟨(0 : Int),(0 : Int),(0 : Int),false⟩
def M6 (x : E9) : AV:=.agg [.lit (.int .i64 x.f0),.lit (.int .i64 x.f1),.lit (.int .i64 x.f2),.lit (.bool x.f3)]
def Q9 (l : List E9) (i : Int) : E9:=l.getD i.toNat z42
theorem cg6 {l : List E9} : aq4 (l.map M6):=flE fun x lv h=>by
 simp only [M6,AV.leaves,List.mem_cons,List.not_mem_nil,or_false] at h
 rcases h with rfl | rfl | rfl | rfl
 all_goals exact ⟨_,rfl⟩
structure C1 where
 f0 : Int
 f1 : ByteArray
 f2 : Int
def bM9 : C1:=⟨(0 : Int),ByteArray.empty,(0 : Int)⟩
def J9 (x : C1) : AV:=.agg [.lit (.int .i64 x.f0),.lit (.string x.f1),.lit (.int .i64 x.f2)]
def am2 (l : List C1) (i : Int) : C1:=l.getD i.toNat bM9
structure j3 where
 f0 : ByteArray
 f1 : f9
 f2 : ByteArray
 f3 : ByteArray
def bh3 : j3:=⟨ByteArray.empty,R6,ByteArray.empty,ByteArray.empty⟩
def C6 (x : j3) : AV:=.agg [.lit (.string x.f0),.lit (.int .i64 x.f1.f0),.lit (.int .i64 x.f1.f1),.lit (.int .i64 x.f1.f2),.lit (.int .i64 x.f1.f3),.lit (.string x.f2),.lit (.string x.f3)]
def l5 (l : List j3) (i : Int) : j3:=l.getD i.toNat bh3
structure P9 where
 f0 : Int
 f1 : Int
 f2 : Int
 f3 : u5
def z88 : P9:=⟨(0 : Int),(0 : Int),(0 : Int),z46⟩
def e88 (x : P9) : AV:=.agg [.lit (.int .i64 x.f0),.lit (.int .i64 x.f1),.lit (.int .i64 x.f2),.lit (.int .i64 x.f3.f0),.lit (.int .i64 x.f3.f1),.lit (.int .i64 x.f3.f2),.lit (.int .i64 x.f3.f3)]
def Z4 (l : List P9) (i : Int) : P9:=l.getD i.toNat z88
theorem cg8 (d : Nat) (w : World) (a0 : Int) (a1 : Int) (a2 : Int) (a3 : Int) (b0 : Int) (b1 : Int) (b2 : Int) (b3 : Int) : (Op.equalIn (d + 2) 46 (.agg #[.int .i64 a0,.int .i64 a1,.int .i64 a2,.int .i64 a3]) (.agg #[.int .i64 b0,.int .i64 b1,.int .i64 b2,.int .i64 b3])).run Tryz.prog w = .ok (a0 == b0 && (a1 == b1 && (a2 == b2 && (a3 == b3)))) w:=by
 refine bG2 Tryz.underlying46 (by kernel_rfl) ?_
 refine ao2 (by rfl) (by first | (go_simp;done) | (go_simp;rfl)) (by first | (go_simp;done) | (go_simp;rfl)) (run_equalIn_int w _ _ _ _ _ _ Tryz.underlying3) ?_
 refine ao2 (by rfl) (by first | (go_simp;done) | (go_simp;rfl)) (by first | (go_simp;done) | (go_simp;rfl)) (run_equalIn_int w _ _ _ _ _ _ Tryz.underlying3) ?_
 refine ao2 (by rfl) (by first | (go_simp;done) | (go_simp;rfl)) (by first | (go_simp;done) | (go_simp;rfl)) (run_equalIn_int w _ _ _ _ _ _ Tryz.underlying3) ?_
 exact bh2 (by rfl) (by first | (go_simp;done) | (go_simp;rfl)) (by first | (go_simp;done) | (go_simp;rfl)) (run_equalIn_int w _ _ _ _ _ _ Tryz.underlying3)
theorem bZ8 (d : Nat) (w : World) (a0 : Int) (a1 : Int) (a2 : Int) (a3 : Int) (b0 : Int) (b1 : Int) (b2 : Int) (b3 : Int) : (Op.equalIn (d + 2) 176 (.agg #[.int .i64 a0,.int .i64 a1,.int .i64 a2,.int .i64 a3]) (.agg #[.int .i64 b0,.int .i64 b1,.int .i64 b2,.int .i64 b3])).run Tryz.prog w = .ok (a0 == b0 && (a1 == b1 && (a2 == b2 && (a3 == b3)))) w:=by
 refine bG2 Tryz.underlying176 (by kernel_rfl) ?_
 refine ao2 (by rfl) (by first | (go_simp;done) | (go_simp;rfl)) (by first | (go_simp;done) | (go_simp;rfl)) (run_equalIn_int w _ _ _ _ _ _ Tryz.underlying3) ?_
 refine ao2 (by rfl) (by first | (go_simp;done) | (go_simp;rfl)) (by first | (go_simp;done) | (go_simp;rfl)) (run_equalIn_int w _ _ _ _ _ _ Tryz.underlying3) ?_
 refine ao2 (by rfl) (by first | (go_simp;done) | (go_simp;rfl)) (by first | (go_simp;done) | (go_simp;rfl)) (run_equalIn_int w _ _ _ _ _ _ Tryz.underlying3) ?_
 exact bh2 (by rfl) (by first | (go_simp;done) | (go_simp;rfl)) (by first | (go_simp;done) | (go_simp;rfl)) (run_equalIn_int w _ _ _ _ _ _ Tryz.underlying3)
def tb : Tab:=[(37,12,[(0,1),(1,1),(2,1),(3,5),(8,1),(9,1),(10,1),(11,1)],[.slice none 0 0,.slice none 0 0,.slice none 0 0,.slice none 0 0,.slice none 0 0,.slice none 0 0,.int .i64 0,.slice none 0 0,.slice none 0 0,.int .i64 0,.slice none 0 0,.slice none 0 0]),(176,4,[(0,1),(1,1),(2,1),(3,1)],[.int .i64 0,.int .i64 0,.int .i64 0,.int .i64 0]),(50,4,[(0,1),(1,1),(2,1),(3,1)],[.slice none 0 0,.int .i64 0,.int .i64 0,.int .i64 0]),(33,5,[(0,1),(1,1),(2,1),(3,1),(4,1)],[.slice none 0 0,.slice none 0 0,.slice none 0 0,.int .i64 0,.slice none 0 0]),(48,5,[(0,1),(1,1),(2,1),(3,1),(4,1)],[.int .i64 0,.int .i64 0,.slice none 0 0,.int .i64 0,.int .i64 0]),(233,4,[(0,1),(1,1),(2,1),(3,1)],[.slice none 0 0,.slice none 0 0,.int .i64 0,.int .i64 0]),(88,7,[(0,1),(1,1),(2,1),(3,4)],[.int .i64 0,.int .i64 0,.int .i64 0,.int .i64 0,.int .i64 0,.int .i64 0,.int .i64 0]),(189,4,[(0,1),(1,1),(2,1),(3,1)],[.int .i64 0,.int .i64 0,.int .i64 0,.slice none 0 0]),(273,6,[(0,1),(1,2),(3,1),(4,2)],[.int .i64 0,.int .i64 0,.int .i64 0,.int .i64 0,.int .i64 0,.int .i64 0]),(278,7,[(0,1),(1,4),(5,1),(6,1)],[.string .empty,.int .i64 0,.int .i64 0,.int .i64 0,.int .i64 0,.string .empty,.string .empty]),(62,7,[(0,1),(1,1),(2,1),(3,3),(6,1)],[.int .i64 0,.int .i64 0,.int .i64 0,.int .i64 0,.int .i64 0,.slice none 0 0,.string .empty]),(46,4,[(0,1),(1,1),(2,1),(3,1)],[.int .i64 0,.int .i64 0,.int .i64 0,.int .i64 0]),(186,2,[(0,1),(1,1)],[.int .i64 0,.int .i64 0]),(227,3,[(0,1),(1,1),(2,1)],[.slice none 0 0,.int .i64 0,.bool false]),(60,3,[(0,1),(1,1),(2,1)],[.int .i64 0,.int .i64 0,.slice none 0 0]),(108,3,[(0,1),(1,1),(2,1)],[.bool false,.string .empty,.bool false]),(173,3,[(0,1),(1,1),(2,1)],[.slice none 0 0,.int .i64 0,.int .i64 0]),(116,6,[(0,1),(1,1),(2,4)],[.int .i64 0,.int .i64 0,.int .i64 0,.int .i64 0,.int .i64 0,.int .i64 0]),(266,3,[(0,1),(1,1),(2,1)],[.int .i64 0,.string .empty,.int .i64 0]),(42,4,[(0,1),(1,1),(2,1),(3,1)],[.int .i64 0,.int .i64 0,.int .i64 0,.bool false]),(96,6,[(0,1),(1,1),(2,4)],[.int .i64 0,.int .i64 0,.int .i64 0,.int .i64 0,.int .i64 0,.int .i64 0])]
def ti : List Nat:=[2,3,321]
theorem bI0 : az5 Tryz.prog tb:=by
 repeat (first | exact trivial | refine ⟨⟨by kernel_rfl,rfl,by kernel_rfl⟩,?_⟩)
section
variable {ops : Array Oper} {Q : Exit→Act→World→Prop} {E : C5} {nt : Nat} {s s0 : S} {G : Prop} {o : Oper} {d : Nat} {T : TypeId}
theorem rn {todo todo' : List Oper} {tm tm' : List (Nat×AV)} {bk bk' : List (Nat×l9)} {ns ns' : List Nm} {ck : Bool} (h : aj5 tb ti Tryz.prog nt todo tm bk ns true = (todo',tm',bk',ns',ck)) (k : Wk Tryz.prog ops Q E nt s0 todo' ⟨tm',bk'⟩ ns' G) (hk : ck = true:=by kernel_rfl) : Wk Tryz.prog ops Q E nt s0 todo ⟨tm,bk⟩ ns G:=cf1 bI0 h k hk
theorem al {n : Nat} {pl : List (Nat×Nat)} {zs : List Value} {cells : List AV} (nb : Nat) (hop : o.op = .alloc T:=by rfl) (hz : am6 tb T = some (n,pl,zs):=by rfl) (hc : as6 zs = some cells:=by rfl) (hnb : gB s.bk nb = .fresh:=by rfl) (hd : o.dst = some d:=by rfl) (hlt : Nat.blt d nt = true:=by rfl) : s8 Tryz.prog E nt o s ⟨some d,.box nb 0,[(nb,.box T cells)]⟩ [] [nb]:=alT bI0 nb hop hz hc hnb hd hlt
theorem bd {parts : Array (Nat×Operand)} {n : Nat} {pl : List (Nat×Nat)} {zs : List Value} {cs l : List AV} (hop : o.op = .build T parts:=by rfl) (hz : am6 tb T = some (n,pl,zs):=by rfl) (hc : as6 zs = some cs:=by rfl) (hl : aN0 s pl cs parts.toList = some l:=by rfl) (hd : o.dst = some d:=by rfl) (hlt : Nat.blt d nt = true:=by rfl) : s8 Tryz.prog E nt o s ⟨some d,.agg l,[]⟩ (parts.toList.flatMap fun p=>l8 p.2) []:=bdT bI0 hop hz hc hl hd hlt
theorem ed {id : Nat} {ns : List Nm} (h : m9 E nt s (Q .normal)) (hck : chk ops ns.reverse = true:=by kernel_rfl) : Wk Tryz.prog ops Q E nt s0 [] s ns (AW E nt Tryz.prog (.region id ops true) Q s0):=br2 hM hck h
end
instance : Fx Tryz.prog 7:=⟨_,Tryz.func7,by kernel_rfl,rfl⟩
instance : Fx Tryz.prog 8:=⟨_,Tryz.func8,by kernel_rfl,rfl⟩
instance : Fx Tryz.prog 10:=⟨_,Tryz.func10,by kernel_rfl,rfl⟩
instance : Fx Tryz.prog 11:=⟨_,Tryz.func11,by kernel_rfl,rfl⟩
instance : Fx Tryz.prog 16:=⟨_,Tryz.func16,by kernel_rfl,rfl⟩
instance : Fx Tryz.prog 17:=⟨_,Tryz.func17,by kernel_rfl,rfl⟩
instance : Fx Tryz.prog 18:=⟨_,Tryz.func18,by kernel_rfl,rfl⟩
instance : Fx Tryz.prog 19:=⟨_,Tryz.func19,by kernel_rfl,rfl⟩
instance : Fx Tryz.prog 24:=⟨_,Tryz.func24,by kernel_rfl,rfl⟩
instance : Fx Tryz.prog 36:=⟨_,Tryz.func36,by kernel_rfl,rfl⟩
instance : Fx Tryz.prog 39:=⟨_,Tryz.func39,by kernel_rfl,rfl⟩
instance : Fx Tryz.prog 40:=⟨_,Tryz.func40,by kernel_rfl,rfl⟩
instance : Fx Tryz.prog 41:=⟨_,Tryz.func41,by kernel_rfl,rfl⟩
instance : Fx Tryz.prog 42:=⟨_,Tryz.func42,by kernel_rfl,rfl⟩
instance : Fx Tryz.prog 43:=⟨_,Tryz.func43,by kernel_rfl,rfl⟩
instance : Fx Tryz.prog 44:=⟨_,Tryz.func44,by kernel_rfl,rfl⟩
instance : Fx Tryz.prog 45:=⟨_,Tryz.func45,by kernel_rfl,rfl⟩
instance : Fx Tryz.prog 46:=⟨_,Tryz.func46,by kernel_rfl,rfl⟩
instance : Fx Tryz.prog 47:=⟨_,Tryz.func47,by kernel_rfl,rfl⟩
instance : Fx Tryz.prog 48:=⟨_,Tryz.func48,by kernel_rfl,rfl⟩
instance : Fx Tryz.prog 49:=⟨_,Tryz.func49,by kernel_rfl,rfl⟩
instance : Fx Tryz.prog 50:=⟨_,Tryz.func50,by kernel_rfl,rfl⟩
instance : Fx Tryz.prog 51:=⟨_,Tryz.func51,by kernel_rfl,rfl⟩
instance : Fx Tryz.prog 59:=⟨_,Tryz.func59,by kernel_rfl,rfl⟩
instance : Fx Tryz.prog 70:=⟨_,Tryz.func70,by kernel_rfl,rfl⟩
instance : Fx Tryz.prog 71:=⟨_,Tryz.func71,by kernel_rfl,rfl⟩
instance : Fx Tryz.prog 72:=⟨_,Tryz.func72,by kernel_rfl,rfl⟩
instance : Fx Tryz.prog 73:=⟨_,Tryz.func73,by kernel_rfl,rfl⟩
instance : Fx Tryz.prog 74:=⟨_,Tryz.func74,by kernel_rfl,rfl⟩
instance : Fx Tryz.prog 75:=⟨_,Tryz.func75,by kernel_rfl,rfl⟩
instance : Fx Tryz.prog 76:=⟨_,Tryz.func76,by kernel_rfl,rfl⟩
instance : Fx Tryz.prog 77:=⟨_,Tryz.func77,by kernel_rfl,rfl⟩
instance : Fx Tryz.prog 78:=⟨_,Tryz.func78,by kernel_rfl,rfl⟩
instance : Fx Tryz.prog 79:=⟨_,Tryz.func79,by kernel_rfl,rfl⟩
instance : Fx Tryz.prog 80:=⟨_,Tryz.func80,by kernel_rfl,rfl⟩
instance : Fx Tryz.prog 81:=⟨_,Tryz.func81,by kernel_rfl,rfl⟩
instance : Fx Tryz.prog 84:=⟨_,Tryz.func84,by kernel_rfl,rfl⟩
instance : Fx Tryz.prog 110:=⟨_,Tryz.func110,by kernel_rfl,rfl⟩
instance : Fx Tryz.prog 111:=⟨_,Tryz.func111,by kernel_rfl,rfl⟩
instance : Fx Tryz.prog 112:=⟨_,Tryz.func112,by kernel_rfl,rfl⟩
instance : Fx Tryz.prog 113:=⟨_,Tryz.func113,by kernel_rfl,rfl⟩
instance : Fx Tryz.prog 124:=⟨_,Tryz.func124,by kernel_rfl,rfl⟩
instance : Fx Tryz.prog 125:=⟨_,Tryz.func125,by kernel_rfl,rfl⟩
instance : Fx Tryz.prog 126:=⟨_,Tryz.func126,by kernel_rfl,rfl⟩
instance : Fx Tryz.prog 127:=⟨_,Tryz.func127,by kernel_rfl,rfl⟩
instance : Fx Tryz.prog 128:=⟨_,Tryz.func128,by kernel_rfl,rfl⟩
instance : Fx Tryz.prog 129:=⟨_,Tryz.func129,by kernel_rfl,rfl⟩
instance : Fx Tryz.prog 130:=⟨_,Tryz.func130,by kernel_rfl,rfl⟩
instance : Fx Tryz.prog 131:=⟨_,Tryz.func131,by kernel_rfl,rfl⟩
instance : Fx Tryz.prog 132:=⟨_,Tryz.func132,by kernel_rfl,rfl⟩
instance : Fx Tryz.prog 133:=⟨_,Tryz.func133,by kernel_rfl,rfl⟩
instance : Fx Tryz.prog 134:=⟨_,Tryz.func134,by kernel_rfl,rfl⟩
instance : Fx Tryz.prog 147:=⟨_,Tryz.func147,by kernel_rfl,rfl⟩
instance : Fx Tryz.prog 148:=⟨_,Tryz.func148,by kernel_rfl,rfl⟩
instance : Fx Tryz.prog 149:=⟨_,Tryz.func149,by kernel_rfl,rfl⟩
instance : Fx Tryz.prog 150:=⟨_,Tryz.func150,by kernel_rfl,rfl⟩
instance : Fx Tryz.prog 151:=⟨_,Tryz.func151,by kernel_rfl,rfl⟩
instance : Fx Tryz.prog 152:=⟨_,Tryz.func152,by kernel_rfl,rfl⟩
instance : Fx Tryz.prog 153:=⟨_,Tryz.func153,by kernel_rfl,rfl⟩
instance : Fx Tryz.prog 154:=⟨_,Tryz.func154,by kernel_rfl,rfl⟩
instance : Fx Tryz.prog 155:=⟨_,Tryz.func155,by kernel_rfl,rfl⟩
instance : Fx Tryz.prog 156:=⟨_,Tryz.func156,by kernel_rfl,rfl⟩
instance : Fx Tryz.prog 157:=⟨_,Tryz.func157,by kernel_rfl,rfl⟩
instance : Fx Tryz.prog 158:=⟨_,Tryz.func158,by kernel_rfl,rfl⟩
instance : Fx Tryz.prog 159:=⟨_,Tryz.func159,by kernel_rfl,rfl⟩
instance : Fx Tryz.prog 160:=⟨_,Tryz.func160,by kernel_rfl,rfl⟩
instance : Fx Tryz.prog 161:=⟨_,Tryz.func161,by kernel_rfl,rfl⟩
instance : Fx Tryz.prog 162:=⟨_,Tryz.func162,by kernel_rfl,rfl⟩
instance : Fx Tryz.prog 181:=⟨_,Tryz.func181,by kernel_rfl,rfl⟩
instance : Fx Tryz.prog 182:=⟨_,Tryz.func182,by kernel_rfl,rfl⟩
instance : Fx Tryz.prog 183:=⟨_,Tryz.func183,by kernel_rfl,rfl⟩
instance : Fx Tryz.prog 196:=⟨_,Tryz.func196,by kernel_rfl,rfl⟩
instance : Fx Tryz.prog 197:=⟨_,Tryz.func197,by kernel_rfl,rfl⟩
instance : Fx Tryz.prog 198:=⟨_,Tryz.func198,by kernel_rfl,rfl⟩
instance : Fx Tryz.prog 199:=⟨_,Tryz.func199,by kernel_rfl,rfl⟩
instance : Fx Tryz.prog 200:=⟨_,Tryz.func200,by kernel_rfl,rfl⟩
instance : Fx Tryz.prog 202:=⟨_,Tryz.func202,by kernel_rfl,rfl⟩
instance : Fx Tryz.prog 203:=⟨_,Tryz.func203,by kernel_rfl,rfl⟩
instance : Fx Tryz.prog 204:=⟨_,Tryz.func204,by kernel_rfl,rfl⟩
instance : Fx Tryz.prog 205:=⟨_,Tryz.func205,by kernel_rfl,rfl⟩
instance : Fx Tryz.prog 206:=⟨_,Tryz.func206,by kernel_rfl,rfl⟩
instance : Fx Tryz.prog 207:=⟨_,Tryz.func207,by kernel_rfl,rfl⟩
instance : Fx Tryz.prog 208:=⟨_,Tryz.func208,by kernel_rfl,rfl⟩
instance : Fx Tryz.prog 209:=⟨_,Tryz.func209,by kernel_rfl,rfl⟩
instance : Fx Tryz.prog 210:=⟨_,Tryz.func210,by kernel_rfl,rfl⟩
instance : Fx Tryz.prog 211:=⟨_,Tryz.func211,by kernel_rfl,rfl⟩
instance : Fx Tryz.prog 212:=⟨_,Tryz.func212,by kernel_rfl,rfl⟩
instance : Fx Tryz.prog 213:=⟨_,Tryz.func213,by kernel_rfl,rfl⟩
instance : Fx Tryz.prog 214:=⟨_,Tryz.func214,by kernel_rfl,rfl⟩
instance : Fx Tryz.prog 215:=⟨_,Tryz.func215,by kernel_rfl,rfl⟩
instance : Fx Tryz.prog 216:=⟨_,Tryz.func216,by kernel_rfl,rfl⟩
instance : Fx Tryz.prog 217:=⟨_,Tryz.func217,by kernel_rfl,rfl⟩
instance : Fx Tryz.prog 227:=⟨_,Tryz.func227,by kernel_rfl,rfl⟩
instance : Fx Tryz.prog 228:=⟨_,Tryz.func228,by kernel_rfl,rfl⟩
instance : Fx Tryz.prog 229:=⟨_,Tryz.func229,by kernel_rfl,rfl⟩
instance : Fx Tryz.prog 230:=⟨_,Tryz.func230,by kernel_rfl,rfl⟩
instance : Fx Tryz.prog 231:=⟨_,Tryz.func231,by kernel_rfl,rfl⟩
instance : Fx Tryz.prog 232:=⟨_,Tryz.func232,by kernel_rfl,rfl⟩
instance : Fx Tryz.prog 251:=⟨_,Tryz.func251,by kernel_rfl,rfl⟩
instance : Fx Tryz.prog 252:=⟨_,Tryz.func252,by kernel_rfl,rfl⟩
instance : Fx Tryz.prog 253:=⟨_,Tryz.func253,by kernel_rfl,rfl⟩
instance : Fx Tryz.prog 254:=⟨_,Tryz.func254,by kernel_rfl,rfl⟩
instance : Fx Tryz.prog 255:=⟨_,Tryz.func255,by kernel_rfl,rfl⟩
instance : Fx Tryz.prog 256:=⟨_,Tryz.func256,by kernel_rfl,rfl⟩
instance : Fx Tryz.prog 257:=⟨_,Tryz.func257,by kernel_rfl,rfl⟩
instance : Fx Tryz.prog 258:=⟨_,Tryz.func258,by kernel_rfl,rfl⟩
instance : Fx Tryz.prog 259:=⟨_,Tryz.func259,by kernel_rfl,rfl⟩
instance : Fx Tryz.prog 260:=⟨_,Tryz.func260,by kernel_rfl,rfl⟩
instance : Fx Tryz.prog 261:=⟨_,Tryz.func261,by kernel_rfl,rfl⟩
instance : Fx Tryz.prog 262:=⟨_,Tryz.func262,by kernel_rfl,rfl⟩
instance : Fx Tryz.prog 263:=⟨_,Tryz.func263,by kernel_rfl,rfl⟩
instance : Fx Tryz.prog 264:=⟨_,Tryz.func264,by kernel_rfl,rfl⟩
instance : Fx Tryz.prog 265:=⟨_,Tryz.func265,by kernel_rfl,rfl⟩
instance : Fx Tryz.prog 266:=⟨_,Tryz.func266,by kernel_rfl,rfl⟩
instance : Fx Tryz.prog 267:=⟨_,Tryz.func267,by kernel_rfl,rfl⟩
instance : Fx Tryz.prog 268:=⟨_,Tryz.func268,by kernel_rfl,rfl⟩
instance : Fx Tryz.prog 269:=⟨_,Tryz.func269,by kernel_rfl,rfl⟩
instance : Fx Tryz.prog 270:=⟨_,Tryz.func270,by kernel_rfl,rfl⟩
instance : Fx Tryz.prog 271:=⟨_,Tryz.func271,by kernel_rfl,rfl⟩
instance : Fx Tryz.prog 272:=⟨_,Tryz.func272,by kernel_rfl,rfl⟩
instance : Fx Tryz.prog 273:=⟨_,Tryz.func273,by kernel_rfl,rfl⟩
instance : Fx Tryz.prog 274:=⟨_,Tryz.func274,by kernel_rfl,rfl⟩
instance : Fx Tryz.prog 275:=⟨_,Tryz.func275,by kernel_rfl,rfl⟩
instance : Fx Tryz.prog 276:=⟨_,Tryz.func276,by kernel_rfl,rfl⟩
instance : Fx Tryz.prog 277:=⟨_,Tryz.func277,by kernel_rfl,rfl⟩
instance : Fx Tryz.prog 278:=⟨_,Tryz.func278,by kernel_rfl,rfl⟩
instance : Fx Tryz.prog 279:=⟨_,Tryz.func279,by kernel_rfl,rfl⟩
instance : Fx Tryz.prog 280:=⟨_,Tryz.func280,by kernel_rfl,rfl⟩
instance : Fx Tryz.prog 285:=⟨_,Tryz.func285,by kernel_rfl,rfl⟩
instance : Fx Tryz.prog 286:=⟨_,Tryz.func286,by kernel_rfl,rfl⟩
instance : Fx Tryz.prog 287:=⟨_,Tryz.func287,by kernel_rfl,rfl⟩
instance : Fx Tryz.prog 288:=⟨_,Tryz.func288,by kernel_rfl,rfl⟩
instance : Fx Tryz.prog 289:=⟨_,Tryz.func289,by kernel_rfl,rfl⟩
instance : Fx Tryz.prog 290:=⟨_,Tryz.func290,by kernel_rfl,rfl⟩
instance : Fx Tryz.prog 299:=⟨_,Tryz.func299,by kernel_rfl,rfl⟩
instance : Fx Tryz.prog 312:=⟨_,Tryz.func312,by kernel_rfl,rfl⟩
instance : Fx Tryz.prog 313:=⟨_,Tryz.func313,by kernel_rfl,rfl⟩
instance : Fx Tryz.prog 314:=⟨_,Tryz.func314,by kernel_rfl,rfl⟩
instance : Fx Tryz.prog 315:=⟨_,Tryz.func315,by kernel_rfl,rfl⟩
instance : Fx Tryz.prog 316:=⟨_,Tryz.func316,by kernel_rfl,rfl⟩
instance : Fx Tryz.prog 317:=⟨_,Tryz.func317,by kernel_rfl,rfl⟩
instance : Fx Tryz.prog 318:=⟨_,Tryz.func318,by kernel_rfl,rfl⟩
instance : Fx Tryz.prog 319:=⟨_,Tryz.func319,by kernel_rfl,rfl⟩
instance : Fx Tryz.prog 320:=⟨_,Tryz.func320,by kernel_rfl,rfl⟩
instance : Fx Tryz.prog 321:=⟨_,Tryz.func321,by kernel_rfl,rfl⟩
instance : Fx Tryz.prog 322:=⟨_,Tryz.func322,by kernel_rfl,rfl⟩
instance : Fx Tryz.prog 323:=⟨_,Tryz.func323,by kernel_rfl,rfl⟩
instance : Fx Tryz.prog 324:=⟨_,Tryz.func324,by kernel_rfl,rfl⟩
instance : Fx Tryz.prog 325:=⟨_,Tryz.func325,by kernel_rfl,rfl⟩
instance : Fx Tryz.prog 326:=⟨_,Tryz.func326,by kernel_rfl,rfl⟩
instance : Fx Tryz.prog 327:=⟨_,Tryz.func327,by kernel_rfl,rfl⟩
instance : Fx Tryz.prog 328:=⟨_,Tryz.func328,by kernel_rfl,rfl⟩
instance : Fx Tryz.prog 352:=⟨_,Tryz.func352,by kernel_rfl,rfl⟩
instance : Fx Tryz.prog 353:=⟨_,Tryz.func353,by kernel_rfl,rfl⟩
instance : Fx Tryz.prog 354:=⟨_,Tryz.func354,by kernel_rfl,rfl⟩
instance : Fx Tryz.prog 364:=⟨_,Tryz.func364,by kernel_rfl,rfl⟩
instance : Fx Tryz.prog 365:=⟨_,Tryz.func365,by kernel_rfl,rfl⟩
instance : Fx Tryz.prog 366:=⟨_,Tryz.func366,by kernel_rfl,rfl⟩
instance : Zo r7:=⟨ah4⟩
instance : Zo B9:=⟨bM1⟩
instance : Zo D9:=⟨bK1⟩
instance : Zo N7:=⟨z60⟩
instance : Zo A6:=⟨z62⟩
instance : Zo f9:=⟨R6⟩
instance : Zo u5:=⟨z46⟩
instance : Zo H7:=⟨z50⟩
instance : Zo D3:=⟨z48⟩
instance : Zo D1:=⟨z96⟩
instance : Zo A2:=⟨aQ2⟩
instance : Zo C7:=⟨bx1⟩
instance : Zo E9:=⟨z42⟩
instance : Zo C1:=⟨bM9⟩
instance : Zo j3:=⟨bh3⟩
instance : Zo P9:=⟨z88⟩
abbrev Y0:=Option ((List (List (List f9)))×(List H7)×(List D3)×(List D1)×(List Int)×(List A2)×Int×(List Int)×(List C7)×Int×(List Int)×(List E9)×(List Int)×Bool)
abbrev Y1:=Option (Int×(List (List (List f9)))×(List H7)×(List D3)×(List D1)×(List Int)×(List A2)×Int×(List Int)×(List C7)×Int×(List Int)×(List E9))
abbrev Y2:=Option ((List (List (List f9)))×(List H7)×(List D3)×(List D1)×(List Int)×(List A2)×Int×(List Int)×(List C7)×Int×(List Int)×(List E9)×Int)
abbrev Y3:=Option ((List (List (List f9)))×(List H7)×(List D3)×(List D1)×(List Int)×(List A2)×Int×(List Int)×(List C7)×Int×(List Int)×(List E9))
abbrev Y4:=(Bool×(List (List (List f9)))×(List H7)×(List D3)×(List D1)×(List Int)×(List A2)×Int×(List Int)×(List C7)×Int×(List Int)×(List E9))
abbrev Y6:=Option ((List (List (List f9)))×(List H7)×(List D3)×(List Int)×Int×(List Int)×Int)
abbrev Y7:=Option (Int×Int×(List u5)×Int×Int×(List u5)×Int×Int×Int×Bool)
abbrev Y8:=Option ((List Int)×(List B9)×Int×Int×(List C1)×Int×Bool)
abbrev Y9:=Option ((List D1)×(List Int)×(List A2)×Int×(List Int)×Bool)
abbrev Y10:=Option ((List Int)×(List B9)×Int×Int×(List Int)×Int×Int)
abbrev Y11:=Option (Int×Int×Int×Int×Int×Int×(List C1)×Int×Bool)
abbrev Y12:=Option (ByteArray×Int×Int×Int×Int×ByteArray×ByteArray)
abbrev Y13:=Option ((List D1)×(List Int)×(List A2)×Int×(List Int))
abbrev Y14:=Option (Int×Int×Int×(List D9)×(List Int)×Int×Int)
abbrev Y15:=(ByteArray×Int×Int×Int×Int×ByteArray×ByteArray)
abbrev Y16:=Option (Int×Int×(List r7)×(List Int)×Int×Int)
abbrev Y17:=Option (Int×Int×Int×Int×Int×Int×Int×Bool)
abbrev Y19:=Option (Int×Int×(List C1)×Int×Bool)
abbrev Y20:=Option (Int×Int×Int×(List D9)×Bool)
abbrev Y21:=Option ((List u5)×Int×Int×Int×Bool)
abbrev Y22:=Option (ByteArray×(List Int)×Int×Int)
abbrev Y23:=Option (Int×Int×(List u5)×Int×Int)
abbrev Y24:=Option (Bool×(List C1)×Int×Bool)
abbrev Y25:=Option (Int×(List C1)×Int×Bool)
abbrev Y26:=(Int×Int×(List C1)×Int×Bool)
abbrev Y27:=Option (Int×(List Int)×Int×Int)
abbrev Y28:=Option ((List u5)×Int×Int×Int)
abbrev Y32:=(Int×(List C1)×Int×Bool)
abbrev Y33:=Option ((List Int)×Int×Int)
abbrev Y34:=(Int×(List Int)×Int×Int)
abbrev Y35:=Option ((List (List f9)))
abbrev Y36:=Option ((List C1)×Bool)
abbrev Y37:=Option ((List f9)×Bool)
abbrev Y38:=Option ((List ByteArray))
abbrev Y39:=Option (ByteArray×Bool)
abbrev Y40:=(List (List (List f9)))
abbrev Y41:=Option (Int×Int×Bool)
abbrev Y42:=List (List (List f9))
abbrev Y43:=Option ((List j3))
abbrev Y44:=Option ((List f9))
abbrev Y45:=Option ((List Bool))
abbrev Y46:=Option ((List A6))
abbrev Y47:=Option ((List Int))
abbrev Y48:=Option ((List u5))
abbrev Y49:=Option (ByteArray)
abbrev Y51:=(List (List f9))
abbrev Y52:=Option (Int×Int)
abbrev Y53:=List (List f9)
abbrev P0:=Option (Bool)
abbrev Y55:=Option (Int)
theorem si {α : Type} {a b : α} (h : some a = some b) : a = b:=Option.some.inj h
end Go.Proofs.YtahmbcgolnplgaaGreat.PFnNoHoles
