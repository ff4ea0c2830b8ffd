import Derived.Test.YtahmbcgolnplgaaGreatA9
import Derived.Laws.StructEq
import Derived.Laws.BytesArg
import Derived.Laws.Strings2
import Derived.Lib.ConvBytes
set_option linter.unusedVariables false
set_option linter.unusedSimpArgs false
namespace Go.Proofs.YtahmbcgolnplgaaGreatA
open Go
section
variable {P : Program} {ops : Array Oper} {Q : Exit→Act→World→Prop} {E : C5} {nt : Nat} {s s0 : S}
theorem bB5 {o og : Oper} {i g d : Nat} {want : Bool} {v : Value} {od : Option Nat} (ho : ops[i]? = some o) (hg : o.guard = some (g,want)) (hog : ops[g]? = some og) (hd : og.dst = some d) (hlt : Nat.blt d nt = true) (hb : gT s.tm d = .lit v) (hne : v≠.bool want) (hod : o.dst = od) (hlt' : ∀ e,od = some e→Nat.blt e nt = true) : Snd P ops Q E nt i s ⟨od,.lit undef,[]⟩ [d] []:=by
 intro tm bk hag K a w hr hK
 obtain ⟨ρ,Zn,hs⟩:=hr
 have hy : ((yielded ops a.tmps g) == some want) = false:=by
  have h4:=hs.tmp d
  rw [hag.1 d List.mem_cons_self,hb] at h4
  have h5:=N1 h4
  have hd' : d < a.tmps.size:=by rw [hs.ntmps];exact Nat.blt_eq▸hlt
  unfold yielded
  rw [hog]
  simp only [Option.bind_some,hd]
  have : a.tmps[d]? = some v:=by
   rw [Array.getElem?_eq_getElem hd']
   unfold Act.eval at h5
   simp only [Array.getD_eq_getD_getElem?,Array.getElem?_eq_getElem hd',Option.getD_some] at h5
   rw [h5]
  rw [this]
  cases v with
  | bool b=>simp only [];cases b <;> cases want <;> first | rfl | exact absurd rfl hne
  | _=>rfl
 unfold wpOp
 simp only [ho]
 rw [if_neg (by simp [Region.wanted,hg,hy])]
 refine hK _ _ ⟨ρ,Zn,?_⟩
 rw [ba8]
 cases od with
 | none=>rw [hod];exact hs
 | some e=>rw [hod];exact hs.put (hlt' e rfl) (.inr (.inl rfl))
end
section
variable {P : Program} {ops : Array Oper} {Q : Exit→Act→World→Prop} {E : C5} {nt : Nat} {s0 : S} {tm : List (Nat×AV)} {bk : List (Nat×l9)} {todo : List Oper} {o : Oper} {ns : List Nm} {G : Prop}
theorem neT {t want : Bool} (h : t≠want) : Value.bool t≠.bool want:=fun e=>h (by injection e)
theorem ku {d g dg : Nat} {want : Bool} {v : Value} {og : Oper} (hne : v≠.bool want) (h : Wk P ops Q E nt s0 todo ⟨(d,.lit undef) :: tm,bk⟩ (⟨some d,[],[dg],[]⟩ :: ns) G) (h0 : o.guard = some (g,want):=by rfl) (h1 : ops[g]? = some og:=by rfl) (h2 : og.dst = some dg:=by rfl) (h3 : Nat.blt dg nt = true:=by rfl) (h4 : gT tm dg = .lit v:=by rfl) (h5 : o.dst = some d:=by rfl) (h6 : Nat.blt d nt = true:=by rfl) : Wk P ops Q E nt s0 (o :: todo) ⟨tm,bk⟩ ns G:=
 ap8 ⟨some d,.lit undef,[]⟩ [dg] [] (fun i ho=>bB5 (od:=some d) ho h0 h1 h2 h3 h4 hne h5 (fun e he=>by injection he with he;rw [← he];exact h6)) h
theorem neU {want : Bool} : undef≠.bool want:=fun e=>by cases e
end
section
variable {P : Program} {d : Nat} {xs ys : Array Value} {f : Field} {fs : List Field} {a b : Value} {r s : Bool} {w : World}
theorem bh2 (hn : (f.name == "_") = false) (ha : (part f.type xs f.offset).run P w = .ok a w) (hb : (part f.type ys f.offset).run P w = .ok b w) (he : (Op.equalIn d f.type a b).run P w = .ok r w) : (Op.eqFields d xs ys [f]).run P w = .ok r w:=by
 have hn' : f.name≠ "_":=by simpa using hn
 simp only [Op.eqFields,if_pos hn',Sem.run_bind,ha,hb,he,Result.andThen_ok]
 cases r <;> simp
theorem ao2 (hn : (f.name == "_") = false) (ha : (part f.type xs f.offset).run P w = .ok a w) (hb : (part f.type ys f.offset).run P w = .ok b w) (he : (Op.equalIn d f.type a b).run P w = .ok r w) (hr : (Op.eqFields d xs ys fs).run P w = .ok s w) : (Op.eqFields d xs ys (f :: fs)).run P w = .ok (r && s) w:=by
 have hn' : f.name≠ "_":=by simpa using hn
 rw [Op.eqFields]
 simp only [if_pos hn',Sem.run_bind,ha,hb,he,Result.andThen_ok]
 cases r
 ·simp
 ·simpa using hr
theorem bG2 {t : TypeId} {fs : Array Field} (hu : P.underlying t = some (.struct fs)) (hp : P.stoodInHeld t = false) (h : (Op.eqFields d xs ys fs.toList).run P w = .ok r w) : (Op.equalIn (d + 1) t (.agg xs) (.agg ys)).run P w = .ok r w:=by
 have hf : P.fieldsOf t = fs:=by simp [Program.fieldsOf,hu]
 rw [run_equalIn_struct (P:=P) w d t xs ys (by rw [hf];exact hu) hp,hf]
 exact h
end
section
variable {P : Program} {E : C5} {nt : Nat} {s : S} {o : Oper} {d : Nat}
theorem eqS {T T' : TypeId} {x y : Operand} {us vs : List Value} {l m : List AV} {r : Bool} (h : ∀ w,(Op.equalIn 10000 T (.agg us.toArray) (.agg vs.toArray)).run P w = .ok r w) (hop : o.op = .binOp .eql T x y T':=by rfl) (hx : opd s x = .agg l:=by rfl) (hy : opd s y = .agg m:=by rfl) (hl : l = us.map .lit:=by rfl) (hm : m = vs.map .lit:=by rfl) (hg : P.eqGuardType P.depth T = false:=by kernel_rfl) (hd : o.dst = some d:=by rfl) (hlt : Nat.blt d nt = true:=by rfl) : s8 P E nt o s ⟨some d,.lit (.bool r),[]⟩ (l8 x ++ l8 y) []:=
 bV2 hop hd hlt (hl▸hx) (hm▸hy) (fun w=>by rw [Sem.run_bind,run_eqGuard_agg w .eql T x y _ _ hg,Result.andThen_ok,run_eql_struct,h];rfl)
section
variable {α : Type} {f : α→AV} {xs : List α}
theorem bJ4 {a : Nat} : ((xs.map f).drop a).take (xs.length - a) = (xs.drop a).map f:=by rw [← List.map_drop,← List.map_take,List.take_of_length_le (by simp)]
theorem cc4 {n : Nat} : ((xs.map f).drop 0).take n = (xs.take n).map f:=by rw [List.drop_zero,← List.map_take]
theorem nwS {sz b e lo n : Nat} {ys u : List AV} (hb : gB s.bk b = .row e sz u) (h : (u.drop lo).take n = ys) : Nw s sz (.sub b sz lo n) ys [b]:=h▸.sub hb
theorem bO4 {T b e sz : Nat} {x : Operand} {lo hi : Option Operand} {u : List AV} (l n : Nat) (vl vh : Option Value) (hop : o.op = .slice T x lo hi none) (hd : o.dst = some d) (hlt : Nat.blt d nt = true) (hx : opd s x = .row b) (hb : gB s.bk b = .row e sz u)
 (hl : ∀ y,lo = some y→∃ v,vl = some v∧opd s y = .lit v) (hl0 : lo = none→vl = none) (hh : ∀ y,hi = some y→∃ v,vh = some v∧opd s y = .lit v) (hh0 : hi = none→vh = none) (h2 : l + n≤u.length)
 (hr : ∀ A c w,u.length≤c→(Instr.sliceAt T (.slice A u.length c) vl vh none).run P w = .ok (sliced A l (l + n) c sz) w) : s8 P E nt o s ⟨some d,.sub b sz l n,[]⟩ (l8 x ++ (lo.toList.flatMap l8 ++ hi.toList.flatMap l8)) [b]:=
 R4 hd hlt fun tm bk ρ Zn a w hag hs=>by
  have h3:=St.opd (s:=s) hs x (fun t ht=>hag.1 t (List.mem_append_left _ ht))
  rw [hx] at h3
  have e1 : lo.map a.eval = vl:=by
   cases lo with
   | none=>rw [hl0 rfl];rfl
   | some y=>
    obtain ⟨v,rfl,hv⟩:=hl y rfl
    have h2:=St.opd (s:=s) hs y (fun t ht=>hag.1 t (List.mem_append_right _ (List.mem_append_left _ (List.mem_flatMap.2 ⟨y,List.mem_singleton.2 rfl,ht⟩))))
    rw [hv] at h2
    rw [Option.map_some,N1 h2]
  have e2 : hi.map a.eval = vh:=by
   cases hi with
   | none=>rw [hh0 rfl];rfl
   | some y=>
    obtain ⟨v,rfl,hv⟩:=hh y rfl
    have h2:=St.opd (s:=s) hs y (fun t ht=>hag.1 t (List.mem_append_right _ (List.mem_append_right _ (List.mem_flatMap.2 ⟨y,List.mem_singleton.2 rfl,ht⟩))))
    rw [hv] at h2
    rw [Option.map_some,N1 h2]
  obtain ⟨hf,h4,_⟩:=L0 h3 rfl
  have hblk:=hs.blk b
  rw [hag.2 b (List.mem_singleton.2 rfl),hb] at hblk
  obtain ⟨A,c,h6,h7,_⟩:=ah8 hblk
  refine ⟨_,?_,O5 (.inl ⟨hf,A,u.length,c,h6,h2,rfl⟩)⟩
  unfold execOp
  simp only [hop]
  rw [Sem.run_bind,h4,h6,e1,e2,Option.map_none,hr _ _ _ h7]
  rfl
theorem srH {T b e' sz : Nat} {x y : Operand} {k : IntKind} {h : Int} (e : Nat) (h0 : 0≤h) (h1 : h≤(xs.length : Int)) (hop : o.op = .slice T x none (some y) none:=by rfl) (hx : opd s x = .row b:=by rfl) (hb : gB s.bk b = .row e' sz (xs.map f):=by rfl) (hy : opd s y = .lit (.int k h):=by rfl) (hT : O2 P T e sz = true:=by kernel_rfl) (hd : o.dst = some d:=by rfl) (hlt : Nat.blt d nt = true:=by rfl) : s8 P E nt o s ⟨some d,.sub b sz 0 h.toNat,[]⟩ (l8 x ++ l8 y) [b]:=by
 obtain ⟨e1,e2⟩:=aN3 hT
 have hl : (xs.map f).length = xs.length:=List.length_map ..
 have:=bO4 (P:=P) (E:=E) (nt:=nt) (s:=s) 0 h.toNat none (some (.int k h)) hop hd hlt hx hb (fun _ h=>by cases h) (fun _=>rfl) (fun y' h=>by cases h;exact ⟨_,rfl,hy⟩) (fun h=>by cases h) (by omega) (fun A c w hc=>by
  rw [run_sliceAt_slice w T _ _ _ _ e1,run_slice_h w T A _ _ e1 k h h0 (by omega),e2,Nat.zero_add];rfl)
 simpa using this
theorem srL {T b e' sz : Nat} {x y : Operand} {k : IntKind} {l : Int} (e : Nat) (h0 : 0≤l) (h1 : l≤(xs.length : Int)) (hop : o.op = .slice T x (some y) none none:=by rfl) (hx : opd s x = .row b:=by rfl) (hb : gB s.bk b = .row e' sz (xs.map f):=by rfl) (hy : opd s y = .lit (.int k l):=by rfl) (hT : O2 P T e sz = true:=by kernel_rfl) (hd : o.dst = some d:=by rfl) (hlt : Nat.blt d nt = true:=by rfl) : s8 P E nt o s ⟨some d,.sub b sz l.toNat (xs.length - l.toNat),[]⟩ (l8 x ++ l8 y) [b]:=by
 obtain ⟨e1,e2⟩:=aN3 hT
 have hl : (xs.map f).length = xs.length:=List.length_map ..
 have:=bO4 (P:=P) (E:=E) (nt:=nt) (s:=s) l.toNat (xs.length - l.toNat) (some (.int k l)) none hop hd hlt hx hb (fun y' h=>by cases h;exact ⟨_,rfl,hy⟩) (fun h=>by cases h) (fun _ h=>by cases h) (fun _=>rfl) (by omega) (fun A c w hc=>by
  rw [run_sliceAt_slice w T _ _ _ _ e1,run_slice_l w T A _ _ e1 k l h0 (by omega),e2,show l.toNat + (xs.length - l.toNat) = (xs.map f).length by omega];rfl)
 simpa using this
end
end
section
variable {P : Program} {E : C5} {nt : Nat} {tm : List (Nat×AV)} {bk : List (Nat×l9)} {K : Act→World→Prop}
theorem bd8 {Zn : Nat→Prop} {w : World} {e sz n : Nat} {A : Option Addr} {N c : Nat} {xs : List AV} (h : O7 Zn w e sz (.slice A N c) xs) (hn : n≤N) : O7 Zn w e sz (sliced A 0 (0 + n) c sz) (xs.take n)∧M9 (sliced A 0 (0 + n) c sz) = M9 (.slice A N c)∧(sliced A 0 (0 + n) c sz).oneCell' = true:=by
 have e0 : sliced A 0 (0 + n) c sz = .slice A n c:=by
  unfold sliced
  rw [Nat.zero_add,Nat.zero_mul,Nat.sub_zero,Nat.sub_zero]
  cases A with
  | none=>split <;> rfl
  | some a=>split <;> simp [Addr.add]
 rw [e0]
 obtain ⟨h0,inner,ho,hl,hr⟩:=h
 have hlen : N = xs.length:=by
  rcases ho.2 with ⟨e1,e2⟩ | ⟨g,cap,cur,e1,_⟩
  ·injection e1 with _ e3 _;omega
  ·injection e1 with _ e3 _
 refine ⟨⟨h0,inner.take (n * sz),⟨?_,?_⟩,fun j x hj=>?_,fun j x i lv hj hi=>?_⟩,?_,rfl⟩
 ·rw [List.length_take,List.length_take,ho.1,Nat.min_eq_left (Nat.mul_le_mul_right _ (by omega)),Nat.min_eq_left (by omega)]
 ·rcases ho.2 with ⟨e1,e2⟩ | ⟨g,cap,cur,e1,h1,h2,h3,h4,h5,h6⟩
  ·injection e1 with e3 e4 e5
   subst e3;subst e4;subst e5
   exact .inl ⟨by rw [Nat.le_zero.1 hn],by simp;omega⟩
  ·injection e1 with e3 e4 e5
   subst e3;subst e5
   have e6 : (xs.take n).length = n:=by simp;omega
   refine .inr ⟨g,c,cur,by rw [e6],h1,h2,by rw [e6];omega,h4,h5,?_⟩
   rw [e6,← h6,List.take_take,Nat.min_eq_left (Nat.mul_le_mul_right _ (by omega))]
 ·rw [List.getElem?_take] at hj
  split at hj
  ·exact hl j x hj
  ·cases hj
 ·rw [List.getElem?_take] at hj
  split at hj
  ·rename_i hjn
   obtain ⟨u,hu,hv⟩:=hr j x i lv hj hi
   refine ⟨u,?_,hv⟩
   have hil : i < sz:=by rw [← hl j x hj];exact (List.getElem?_eq_some_iff.1 hi).1
   rw [List.getElem?_take,if_pos]
   ·exact hu
   ·calc j * sz + i < j * sz + sz:=by omega
     _ = (j + 1) * sz:=by rw [Nat.add_mul,Nat.one_mul]
     _≤n * sz:=Nat.mul_le_mul_right _ hjn
  ·cases hj
 ·cases A with
  | none=>rfl
  | some a=>rfl
theorem bA8 {ρ : Nat→Value} {Zn : Nat→Prop} {a : Act} {w : World} {b nb e sz n : Nat} {xs : List AV} {u : Value} {tm' : Nat→AV} {bk' : Nat→l9} (hs : St E nt ρ Zn (gT tm) (gB bk) a w) (hb : gB bk b = .row e sz xs) (hnb : gB bk nb = .fresh) (hu : ∃ A N c,ρ b = .slice A N c∧0 + n≤N∧u = sliced A 0 (0 + n) c sz) (V : Nat→Prop)
 (hV : ∀ i,V i→gB bk i≠.fresh∧ad3 (gB bk i) = ad3 (bk' i)∧bk' i≠.fresh∧i≠b)
 (hVD : ∀ i,V i→isD (gB bk i) = false∧isD (bk' i) = false) (hb' : ∀ i,¬ V i→i≠b→i≠nb→bk' i = gB bk i) (hbb : bk' b = .gone) (hbn : bk' nb = .row e sz (xs.take n))
 (hVB : ∀ i,V i→Mv (fz E Zn) (fz E Zn) w w ρ (fun i=>if i = nb then u else ρ i) (gB bk) bk'→R3 (fz E Zn) w (fun i=>if i = nb then u else ρ i) bk' (ρ i) (bk' i))
 (ht : ∀ i : Nat,(tm' i = gT tm i)∨(Mv (fz E Zn) (fz E Zn) w w ρ (fun i=>if i = nb then u else ρ i) (gB bk) bk'→G9 (fz E Zn) w (fun i=>if i = nb then u else ρ i) bk' (tm' i) (a.eval (.tmp i)))) : St E nt (fun i=>if i = nb then u else ρ i) Zn tm' bk' a w:=by
 obtain ⟨A,N,c,h1,h2,rfl⟩:=hu
 have hne : b≠nb:=fun e=>by subst e;rw [hb] at hnb;cases hnb
 have hrow:=hs.blk b
 rw [hb,h1] at hrow
 obtain ⟨f1,f2,f3⟩:=bd8 hrow (by omega : n≤N)
 have ownb : ∀ k,M9 (sliced A 0 (0 + n) c sz) = some k→O9 ρ (gB bk) b k:=fun k hk=>⟨by rw [hb];rfl,by rw [h1,← f2];exact hk⟩
 have ownV : ∀ i k,V i→O9 (fun i=>if i = nb then sliced A 0 (0 + n) c sz else ρ i) bk' i k→O9 ρ (gB bk) i k:=fun i k hi ho=>by
  obtain ⟨v1,v2,v3,v4⟩:=hV i hi
  have hin : i≠nb:=fun e=>by subst e;exact v1 hnb
  refine ⟨by rw [v2];exact ho.1,?_⟩
  have:=ho.2
  simpa [hin] using this
 have ownn : ∀ k,O9 (fun i=>if i = nb then sliced A 0 (0 + n) c sz else ρ i) bk' nb k→O9 ρ (gB bk) b k:=fun k ho=>ownb k (by have:=ho.2;simpa using this)
 have owng : ∀ k,¬ O9 (fun i=>if i = nb then sliced A 0 (0 + n) c sz else ρ i) bk' b k:=fun k ho=>by have:=ho.1;rw [hbb] at this;cases this
 refine hs.upd (fun i=>V i∨i = b∨i = nb) rfl rfl rfl (Nat.le_refl _) (fun _ _ _=>rfl) (fun i hi=>if_neg fun e=>hi (.inr (.inr e))) (fun i hi=>hb' i (fun h=>hi (.inl h)) (fun h=>hi (.inr (.inl h))) (fun h=>hi (.inr (.inr h)))) (fun i hi hf=>?_) (fun _ h=>h) (fun _ h=>.inl h) (fun i hi m=>?_) (fun i k hi ho=>?_) (fun i i' k hi hi' ho ho'=>?_) rfl rfl (fun i=>?_) (fun i hi=>by rcases hi with hi | rfl | rfl;exact hVD i hi;exact ⟨by rw [hb];rfl,by rw [hbb];rfl⟩;exact ⟨by rw [hnb];rfl,by rw [hbn];rfl⟩)
 ·rcases hi with hi | rfl | rfl
  ·exact ⟨(hV i hi).2.2.1,if_neg fun e=>by subst e;exact hf hnb⟩
  ·exact ⟨by rw [hbb];simp,if_neg hne⟩
  ·exact absurd hnb hf
 ·rcases hi with hi | rfl | rfl
  ·rw [if_neg fun e=>by subst e;exact (hV i hi).1 hnb];exact hVB i hi m
  ·rw [hbb];trivial
  ·rw [hbn,if_pos rfl];exact f1
 ·rcases hi with hi | rfl | rfl
  ·have:=ownV i k hi ho;exact ⟨.inr ⟨i,.inl hi,this⟩,(hs.out i k this).2⟩
  ·exact absurd ho (owng k)
  ·have:=ownn k ho;exact ⟨.inr ⟨b,.inr (.inl rfl),this⟩,(hs.out b k this).2⟩
 ·rcases hi with hi | rfl | rfl <;> rcases hi' with hi' | rfl | rfl
  ·exact hs.sep _ _ k (ownV i k hi ho) (ownV i' k hi' ho')
  ·exact absurd ho' (owng k)
  ·exact absurd (hs.sep _ _ k (ownV i k hi ho) (ownn k ho')) (hV i hi).2.2.2
  ·exact absurd ho (owng k)
  ·rfl
  ·exact absurd ho (owng k)
  ·exact absurd (hs.sep _ _ k (ownV i' k hi' ho') (ownn k ho)) (hV i' hi').2.2.2
  ·exact absurd ho' (owng k)
  ·rfl
 ·rcases ht i with h | h
  ·exact .inl ⟨h,rfl⟩
  ·exact .inr h
theorem bR2 {b e sz n tb : Nat} {xs cells : List AV} (q j nb : Nat) (ys cells' : List AV) (h : m9 E nt ⟨tm,(q,.box tb cells') :: (b,.gone) :: (nb,.row e sz ys) :: bk⟩ K) (hy : xs.take n = ys) (hq : gB bk q = .box tb cells:=by rfl) (hj : cells[j]? = some (.sub b sz 0 n):=by rfl) (hc : cells.set j (.row nb) = cells':=by rfl) (hb : gB bk b = .row e sz xs:=by rfl) (hnb : gB bk nb = .fresh:=by rfl) : m9 E nt ⟨tm,bk⟩ K:=by
 subst hy
 intro a w ⟨ρ,Zn,hs⟩
 have hblk:=hs.blk q
 rw [hq] at hblk
 obtain ⟨g,cs,h2,h3,h4⟩:=hblk
 obtain ⟨u,hv,hr⟩:=h4.get hj
 have hr0 : I9 (fz E Zn) w ρ (gB bk) (.sub b sz 0 n) u:=by
  rcases hr with hr | ⟨_,_,_,hr,_⟩
  ·exact hr
  ·cases hr
 obtain ⟨hf,hu⟩:=hr0
 have hne : b≠nb:=fun e=>by subst e;rw [hb] at hnb;cases hnb
 have hqb : q≠b:=fun e=>by subst e;rw [hb] at hq;cases hq
 have hqn : q≠nb:=fun e=>by subst e;rw [hq] at hnb;cases hnb
 have hg : ∀ i,gB ((q,.box tb cells') :: (b,.gone) :: (nb,.row e sz (xs.take n)) :: bk) i = if i = q then .box tb cells' else if i = b then .gone else if i = nb then .row e sz (xs.take n) else gB bk i:=fun i=>by rw [ac3,ac3,ac3]
 refine h a w ⟨fun i=>if i = nb then u else ρ i,Zn,bA8 hs hb hnb hu (fun i=>i = q) (fun i hi=>?_) (fun i hi=>by subst hi;rw [hg,if_pos rfl,hq];exact ⟨rfl,rfl⟩) (fun i h1 h2 h3=>by rw [hg,if_neg h1,if_neg h2,if_neg h3]) (by rw [hg,if_neg (Ne.symm hqb),if_pos rfl]) (by rw [hg,if_neg (Ne.symm hqn),if_neg (Ne.symm hne),if_pos rfl]) (fun i hi m=>?_) (fun i=>.inl rfl)⟩
 ·subst hi
  rw [hg,if_pos rfl,hq]
  exact ⟨by simp,rfl,by simp,hqb⟩
 ·subst hi
  rw [hg,if_pos rfl]
  refine ⟨g,cs,h2,h3,?_⟩
  obtain ⟨A,N,c,h5,h6,h7⟩:=hu
  have h8:=(h4.imp fun _ _ h=>L6.move m h).set j (a:=.row nb) (b:=u) (.inl ⟨by rw [hg,if_neg (Ne.symm hqn),if_neg (Ne.symm hne),if_pos rfl];simp,by simp,by rw [h7];rfl⟩)
  rw [hc] at h8
  have e : cs.set j u = cs:=by
   apply List.ext_getElem?
   intro k
   rw [List.getElem?_set]
   split
   ·rename_i e;subst e
    rw [hv]
    have:=(List.getElem?_eq_some_iff.1 hv).1
    simp [this]
   ·rfl
  rwa [e] at h8
end
def frz (post : List (Nat×l9)) : AV→AV
 | .row b=>match gB post b with
  | .row _ sz xs=>.sl .n sz xs
  | _=>.junk
 | .box _ _=>.junk
 | .sub _ _ _ _=>.junk
 | .elp _ _ _ _=>.junk
 | x=>x
section
variable {Zf Zf' : Fl→Nat→Prop} {w : World} {ρ ρ' : Nat→Value} {bk bk' : Nat→l9} {g : AV→AV}
structure Lf (Zf Zf' : Fl→Nat→Prop) (w : World) (ρ ρ' : Nat→Value) (bk bk' : Nat→l9) (g : AV→AV) : Prop where
 c0 : ∀ x v,I9 Zf w ρ bk x v→I9 Zf' w ρ' bk' (g x) v
 junk : g .junk = .junk
 lit : ∀ v,g (.lit v) = .lit v
theorem lf1 (H : Lf Zf Zf' w ρ ρ' bk bk' g) {x : AV} {v : Value} (h : ad9 Zf w ρ bk x v) : ad9 Zf' w ρ' bk' (mp1 g x) v:=by
 rcases h with h | ⟨l,cs,rfl,rfl,h3⟩
 ·have e : mp1 g x = g x:=by cases x <;> first | rfl | exact h.elim
  rw [e];exact .inl (H.c0 _ _ h)
 ·exact .inr ⟨_,cs,rfl,rfl,Fa.map_left.2 (h3.imp fun _ _ h=>H.c0 _ _ h)⟩
theorem lf2 (H : Lf Zf Zf' w ρ ρ' bk bk' g) {x : AV} {v : Value} (h : L6 Zf w ρ bk x v) : L6 Zf' w ρ' bk' (mp2 g x) v:=by
 rcases h with h | ⟨f,l,cs,rfl,rfl,h3⟩
 ·have e : mp2 g x = g x:=by cases x <;> first | rfl | exact h.elim
  rw [e];exact .inl (H.c0 _ _ h)
 ·exact .inr ⟨f,_,cs,rfl,rfl,Fa.map_left.2 (h3.imp fun _ _ h=>lf1 H h)⟩
theorem lf3 (H : Lf Zf Zf' w ρ ρ' bk bk' g) {x : AV} {v : Value} (h : ab0 Zf w ρ bk x v) : ab0 Zf' w ρ' bk' (mp3 g x) v:=by
 rcases h with h | ⟨l,cs,rfl,rfl,h3⟩
 ·have e : mp3 g x = mp2 g x:=by
   cases x <;> first | rfl | (rcases h with h | ⟨_,_,_,h,_⟩;exact h.elim;cases h)
  rw [e];exact .inl (lf2 H h)
 ·exact .inr ⟨_,cs,rfl,rfl,Fa.map_left.2 (h3.imp fun _ _ h=>lf2 H h)⟩
theorem lf4 (H : Lf Zf Zf' w ρ ρ' bk bk' g) {x : AV} {v : Value} (h : G9 Zf w ρ bk x v) : G9 Zf' w ρ' bk' (mp4 g x) v:=by
 rcases h with rfl | rfl | h | ⟨l,cs,rfl,rfl,h3⟩
 ·refine .inl ?_;show mp4 g .junk = .junk;exact H.junk
 ·refine .inr (.inl ?_);show mp4 g (.lit v) = .lit v;exact H.lit v
 ·have e : mp4 g x = mp3 g x:=by
   cases x <;> first | rfl | (rcases h with h | ⟨_,_,h,_⟩;rcases h with h | ⟨_,_,_,h,_⟩;exact h.elim;cases h;cases h)
  rw [e];exact .inr (.inr (.inl (lf3 H h)))
 ·exact .inr (.inr (.inr ⟨_,cs,rfl,rfl,Fa.map_left.2 (h3.imp fun _ _ h=>lf3 H h)⟩))
end
theorem j7.frz {P : Program} {f : FuncId} {args : List AV} {post : List (Nat×l9)} {res : AV} (res' : AV) (h : j7 P f [] args post res) (hr : mp4 (frz post) res = res':=by rfl) : j7 P f [] args [] res':=by
 subst hr
 intro E ρ vs hp h0 hv
 refine (h E ρ vs hp h0 hv).mono ?_
 rintro e w' ⟨v,ρ',Zn,rfl,hs,hrep⟩
 have hsub : ∀ k,Zn k→Zn k∨∃ b,O9 ρ' (gB post) b k:=fun k hk=>.inl hk
 refine ⟨v,ρ',fun k=>Zn k∨∃ b,O9 ρ' (gB post) b k,rfl,⟨hs.os,hs.tape,hs.output,hs.size,hs.z0,hs.keep,fun k hk=>.inl (hs.zi k hk),hs.zy,fun k hk=>?_,fun b v hb=>absurd (h0 b v hb) (Nat.not_lt_zero _),fun _=>trivial,⟨fun _ _=>none,fun b op ds e sz xs h=>(by cases h),fun b h=>(by cases h),fun b k ho=>(by cases ho.1),fun b k ho=>(by cases ho.1),fun b b' k ho _=>(by cases ho.1)⟩,rfl,rfl,fun _=>.inl rfl⟩,lf4 ⟨fun x u hx=>?_,rfl,fun _=>rfl⟩ hrep⟩
 ·rcases hk with hk | ⟨b,ho⟩
  ·exact hs.zn k hk
  ·exact ⟨St.own_lt hs ho,.inr (hs.out b k ho).1⟩
 ·have mz : ∀ z k,fz E Zn z k→fz E (fun k=>Zn k∨∃ b,O9 ρ' (gB post) b k) z k:=fun z k hz=>by
   cases z with
   | o=>exact hz.elim (fun hz=>.inl hz) (fun hz=>.inr (.inl hz))
   | n=>exact .inl hz
   | u=>exact hz
  cases x with
  | row b=>
   show I9 _ _ _ _ (match gB post b with | .row _ sz xs=>AV.sl .n sz xs | _=>.junk) u
   obtain ⟨h1,h2,h3⟩:=hx
   have hb:=hs.blk b
   cases hg : gB post b with
   | row e sz xs=>
    rw [hg] at hb
    rw [h2]
    exact aB0 (z:=.n) hb (fun k hk=>.inl hk) (fun k hk=>.inr ⟨b,by rw [hg];rfl,hk⟩)
   | _=>exact h3
  | box b o=>obtain ⟨_,g,_,rfl⟩:=hx;rfl
  | sub b sz lo n=>obtain ⟨_,A,N,c,_,_,rfl⟩:=hx;rfl
  | elp b sz i j=>obtain ⟨_,g,n,c,_,rfl⟩:=hx;rfl
  | sl z sz xs=>exact C3.move hx (fun _ _=>rfl) (mz z)
  | rp z x j=>
   obtain ⟨ad,f,h1,h2,h3⟩:=hx
   exact ⟨ad,f,h1,mz _ _ h2,fun i lv hi=>⟨(h3 i lv hi).1,C3.move (h3 i lv hi).2 (fun _ _=>rfl) (mz z)⟩⟩
  | junk=>exact hx
  | lit v=>exact hx
  | agg l=>exact hx.elim
  | tup l=>exact hx.elim
  | fn f c=>exact hx.elim
end Go.Proofs.YtahmbcgolnplgaaGreatA
namespace Go.Proofs.YtahmbcgolnplgaaGreatA
open Go Go.RowKit
def bt (s : ByteArray) (i : Int) : Int:=if h : i.toNat < s.size then ((s[i.toNat]'h).toNat : Int) else 0
section
variable {P : Program} {E : C5} {nt : Nat} {s : S} {o : Oper} {d : Nat}
theorem ixT {T : TypeId} {x y : Operand} {b : ByteArray} {k : IntKind} {i : Int} (h0 : 0≤i) (h1 : i < (b.size : Int)) (hop : o.op = .index T x y:=by rfl) (hx : opd s x = .lit (.string b):=by rfl) (hy : opd s y = .lit (.int k i):=by rfl) (hT : ag5 P T = true:=by kernel_rfl) (hd : o.dst = some d:=by rfl) (hlt : Nat.blt d nt = true:=by rfl) : s8 P E nt o s ⟨some d,.lit (.int .u8 (bt b i)),[]⟩ (l8 x ++ l8 y) []:=
 bS5 hop hd hlt hx hy hT h0 h1 (fun h=>by unfold bt;rw [dif_pos h])
theorem aB9 {T : TypeId} (h : ag5 P T = true) : P.underlying T = some .string:=by
 unfold ag5 at h
 split at h
 ·assumption
 ·cases h
theorem tsH {T : TypeId} {x y : Operand} {b : ByteArray} {k : IntKind} {h : Int} (h0 : 0≤h) (h1 : h≤(b.size : Int)) (hop : o.op = .slice T x none (some y) none:=by rfl) (hx : opd s x = .lit (.string b):=by rfl) (hy : opd s y = .lit (.int k h):=by rfl) (hT : ag5 P T = true:=by kernel_rfl) (hd : o.dst = some d:=by rfl) (hlt : Nat.blt d nt = true:=by rfl) : s8 P E nt o s ⟨some d,.lit (.string (b.extract 0 h.toNat)),[]⟩ (l8 x ++ l8 y) []:=by
 have:=bt8 (P:=P) (E:=E) (nt:=nt) (s:=s) (r:=b.extract 0 h.toNat) none (some (.int k h)) hop hd hlt hx (fun _ h=>by cases h) (fun _=>rfl) (fun y' h=>by cases h;exact ⟨_,rfl,hy⟩) (fun h=>by cases h) (fun w=>by rw [run_sliceAt_string w T _ _ _ _ (aB9 hT),run_slice_string_h w T b (aB9 hT) k h h0 h1])
 simpa using this
theorem bw9 {T : TypeId} {x y y2 : Operand} {b : ByteArray} {k k2 : IntKind} {l h : Int} (h0 : 0≤l) (h1 : l≤h) (h2 : h≤(b.size : Int)) (hop : o.op = .slice T x (some y) (some y2) none:=by rfl) (hx : opd s x = .lit (.string b):=by rfl) (hy : opd s y = .lit (.int k l):=by rfl) (hy2 : opd s y2 = .lit (.int k2 h):=by rfl) (hT : ag5 P T = true:=by kernel_rfl) (hd : o.dst = some d:=by rfl) (hlt : Nat.blt d nt = true:=by rfl) : s8 P E nt o s ⟨some d,.lit (.string (b.extract l.toNat h.toNat)),[]⟩ (l8 x ++ (l8 y ++ l8 y2)) []:=by
 have:=bt8 (P:=P) (E:=E) (nt:=nt) (s:=s) (r:=b.extract l.toNat h.toNat) (some (.int k l)) (some (.int k2 h)) hop hd hlt hx (fun y' h=>by cases h;exact ⟨_,rfl,hy⟩) (fun h=>by cases h) (fun y' h=>by cases h;exact ⟨_,rfl,hy2⟩) (fun h=>by cases h) (fun w=>by rw [run_sliceAt_string w T _ _ _ _ (aB9 hT),run_slice_string w T b k k2 l h (aB9 hT) h0 h1 h2])
 simpa using this
def bj0 (P : Program) (src dst : TypeId) : Bool:=(match P.underlying src with
 | some (.slice e)=>(match P.underlying e with
  | some (.int .u8)=>true
  | _=>false)
 | _=>false) && ag5 P dst
theorem bA6 {src dst : TypeId} (h : bj0 P src dst = true) : ∃ e,P.underlying src = some (.slice e)∧P.underlying e = some (.int .u8)∧P.underlying dst = some .string:=by
 unfold bj0 at h
 rw [Bool.and_eq_true] at h
 obtain ⟨h1,h2⟩:=h
 split at h1
 ·rename_i e he
  split at h1
  ·rename_i h3;exact ⟨e,he,h3,aB9 h2⟩
  ·cases h1
 ·cases h1
theorem cvB {src dst : TypeId} {x : Operand} {p : AV} {l : List Int} {tl : List Nat} (hn : Nw s 1 p (l.map (eI .u8)) tl) (hop : o.op = .convert src dst x:=by rfl) (hx : opo s x = some p:=by rfl) (hT : bj0 P src dst = true:=by kernel_rfl) (hd : o.dst = some d:=by rfl) (hlt : Nat.blt d nt = true:=by rfl) : s8 P E nt o s ⟨some d,.lit (.string (strOfNums l)),[]⟩ (l8 x) tl:=
 R4 hd hlt fun tm bk ρ Zn a w hag hs=>by
  have h1:=St.opd (s:=s) hs x hag.1
  rw [H8 hx] at h1
  obtain ⟨e,hsrc,he,hdst⟩:=bA6 hT
  refine ⟨_,?_,.inr (.inl rfl)⟩
  unfold execOp
  simp only [hop]
  rw [Sem.run_bind]
  have key : (convert src dst (a.eval x)).run P w = .ok (.string (strOfNums l)) w:=by
   rcases hn.ok hs hag.2 h1 with ⟨e1,e2⟩ | ⟨A,c,e1,e2,e3,e4⟩
   ·have : l = []:=by simpa using e2
    subst this
    rw [e1,run_convert_bytes_nil w src e hsrc he 0 0 dst hdst];rfl
   ·rw [e1,List.length_map]
    cases A with
    | none=>
     have : l = []:=by
      rcases Nat.eq_zero_or_pos l.length with h | h
      ·exact List.eq_nil_of_length_eq_zero h
      ·obtain ⟨ad,had⟩:=e2 (by rw [List.length_map];exact h);cases had
     subst this
     rw [run_convert_bytes_nil w src e hsrc he _ _ dst hdst];rfl
    | some ad=>
     have hl : (loadCells ad l.length).run P w = .ok (l.map (Value.int .u8)).toArray w:=by
      have:=run_loadCells_list (P:=P) w ad (l.map (Value.int .u8)) (fun j v hj=>by
       rw [List.getElem?_map] at hj
       obtain ⟨n,hn,rfl⟩:=Option.map_eq_some_iff.1 hj
       obtain ⟨q,hq,hr⟩:=e4 ad rfl j (eI .u8 n) 0 (.lit (.int .u8 n)) (by rw [List.getElem?_map,hn];rfl) rfl
       rw [Nat.mul_one,Nat.add_zero] at hq
       rw [hq]
       cases hr with
       | lit _=>rfl)
      simpa using this
     rw [run_convert_bytes_string w src dst e _ l.length c hsrc he hdst,run_bytesToString w _ l.length c l hl,foldl_push_bytes]
     simp [strOfNums,ByteArray.empty,ByteArray.emptyWithCapacity]
     rfl
  rw [key]
  rfl
theorem apS {T b n : Nat} {x y : Operand} {p : AV} {xs ys : List AV} {tl : List Nat} (nb e sz bytes : Nat) (zs : List Value) (zz : List AV) (hnx : n≤xs.length) (hn : Nw s sz p ys tl) (hlen : (n + ys.length) * bytes≤140737488355328) (hzz : xs.take n ++ ys = zz) (hop : o.op = .call { callee:=.builtin .append,args:=#[x,y],argTypes:=#[T,T] }:=by rfl) (hx : opd s x = .sub b sz 0 n:=by rfl) (hb : gB s.bk b = .row e sz xs:=by rfl) (hy : opo s y = some p:=by rfl) (hnb : gB s.bk nb = .fresh:=by rfl) (hT : O2 P T e sz = true:=by kernel_rfl) (hz : S5 P e = some zs:=by kernel_rfl) (hzl : Nat.beq zs.length sz = true:=by rfl) (hby : ah1 P e bytes = true:=by kernel_rfl) (hb0 : Nat.blt 0 bytes = true:=by rfl) (hd : o.dst = some d:=by rfl) (hlt : Nat.blt d nt = true:=by rfl) : s8 P E nt o s ⟨some d,.row nb,[(b,.gone),(nb,.row e sz zz)]⟩ (l8 x ++ l8 y) (nb :: b :: tl):=
 bh1 hd hlt hnb hb fun tm bk ρ Zn a w hag hs hrow=>by
  have h1:=St.opd (s:=s) hs x (fun t ht=>hag.1 t (List.mem_append_left _ ht))
  have h2:=St.opd (s:=s) hs y (fun t ht=>hag.1 t (List.mem_append_right _ ht))
  rw [hx] at h1
  rw [H8 hy] at h2
  obtain ⟨_,A,N,c,e1,e2,e3⟩:=L0 h1 rfl
  have h4:=hn.ok hs (fun b hb=>hag.2 b (List.mem_cons_of_mem _ (List.mem_cons_of_mem _ hb))) h2
  rw [e1] at hrow
  obtain ⟨f1,f2,f3⟩:=bd8 hrow (show n≤N by omega)
  have hob : (sliced A 0 (0 + n) c sz).ownBlock = (ρ b).ownBlock:=by
   rw [e1]
   unfold sliced
   rw [Nat.zero_mul]
   cases A with
   | none=>split <;> rfl
   | some ad=>split <;> simp [Value.ownBlock,Addr.add]
  have hlx : (xs.take n).length = n:=by rw [List.length_take];omega
  obtain ⟨v',w',r1,r2,r3,r4⟩:=aE0 (P:=P) (ty:=o.type) hT hz hzl hby hb0 f1 h4 (by rw [hlx];exact hlen)
  rw [hob] at r2 r3
  exact ⟨v',w',aA8 hop (by rw [e3];exact r1),r2,r3,fun hz=>hzz▸r4 hz⟩
theorem cc7 {α β : Type} {g : β→AV} {x : List α} {y : List β} {n N b : Nat} (h : (x.take n).length + y.length < N) (hn : n≤x.length) (hN : Nat.ble (N * b) 140737488355328 = true) : (n + (y.map g).length) * b≤140737488355328:=by
 rw [List.length_map]
 rw [List.length_take] at h
 exact Nat.le_trans (Nat.mul_le_mul_right b (by omega)) (Nat.le_of_ble_eq_true hN)
theorem cc8 {α : Type} {f : α→AV} {l m : List α} {n : Nat} : (l.map f).take n ++ m.map f = (l.take n ++ m).map f:=by rw [← List.map_take,List.map_append]
end
def fzL (b sz : Nat) (xs : List AV) : AV→AV
 | .row c=>match Nat.beq c b with
  | true=>.sl .n sz xs
  | false=>.row c
 | .sub c s lo n=>match Nat.beq c b with
  | true=>(match Nat.beq s sz with
   | true=>.sl .n sz ((xs.drop lo).take n)
   | false=>.junk)
  | false=>.sub c s lo n
 | .elp c s i j=>match Nat.beq c b with
  | true=>.junk
  | false=>.elp c s i j
 | x=>x
section
variable {E : C5} {nt : Nat} {tm : List (Nat×AV)} {bk : List (Nat×l9)} {K : Act→World→Prop}
theorem bB1 {g : AV→AV} (hj : g .junk = .junk) : ∀ (l : List (Nat×AV)) (i : Nat),gT (l.map fun p=>(p.1,g p.2)) i = g (gT l i)
 | [],i=>hj.symm
 | (j,x) :: r,i=>by
  show (match Nat.beq i j with | true=>g x | false=>gT (r.map fun p=>(p.1,g p.2)) i) = g (match Nat.beq i j with | true=>x | false=>gT r i)
  cases Nat.beq i j with
  | true=>rfl
  | false=>exact bB1 hj r i
theorem bA9 {g : l9→l9} (hj : g .fresh = .fresh) : ∀ (l : List (Nat×l9)) (i : Nat),gB (l.map fun p=>(p.1,g p.2)) i = g (gB l i)
 | [],i=>hj.symm
 | (j,x) :: r,i=>by
  rw [List.map_cons,ac3,ac3]
  split
  ·rfl
  ·exact bA9 hj r i
theorem aq7 (b : Nat) {e sz : Nat} {xs : List AV} (h : m9 E nt ⟨tm.map fun p=>(p.1,mp4 (fzL b sz xs) p.2),(b,.gone) :: bk.map fun p=>(p.1,mpB (fzL b sz xs) p.2)⟩ K) (hb : gB bk b = .row e sz xs:=by rfl) : m9 E nt ⟨tm,bk⟩ K:=by
 intro a w ⟨ρ,Zn,hs⟩
 have hg : ∀ i,gB ((b,.gone) :: bk.map fun p=>(p.1,mpB (fzL b sz xs) p.2)) i = if i = b then .gone else mpB (fzL b sz xs) (gB bk i):=fun i=>by rw [ac3,bA9 rfl]
 have hblk:=hs.blk b
 rw [hb] at hblk
 have hlive : ad3 (gB bk b) = true:=by rw [hb];rfl
 have mz : ∀ z k,fz E Zn z k→fz E (fun k=>Zn k∨O9 ρ (gB bk) b k) z k:=fun z k hz=>by
  cases z with
  | o=>exact hz.elim (fun hz=>.inl hz) (fun hz=>.inr (.inl hz))
  | n=>exact .inl hz
  | u=>exact hz
 have nf : ∀ i,gB bk i≠.fresh→gB ((b,.gone) :: bk.map fun p=>(p.1,mpB (fzL b sz xs) p.2)) i≠.fresh:=fun i hi=>by
  rw [hg]
  split
  ·simp
  ·exact bb5 hi
 obtain ⟨ω,d⟩:=hs.deep
 have own' : ∀ i k,K4 ρ ω (gB ((b,.gone) :: bk.map fun p=>(p.1,mpB (fzL b sz xs) p.2))) i k→i≠b∧K4 ρ ω (gB bk) i k:=fun i k ho=>by
  have h1:=ho.1
  have h2:=ho.2
  have hib : i≠b:=fun e=>by subst e;rw [hg,if_pos rfl] at h1;cases h1
  rw [hg,if_neg hib] at h1 h2
  exact ⟨hib,bg8 h1,h2.imp id fun h=>⟨aN2 h.1,h.2⟩⟩
 have lf : Lf (fz E Zn) (fz E (fun k=>Zn k∨O9 ρ (gB bk) b k)) w ρ ρ (gB bk) (gB ((b,.gone) :: bk.map fun p=>(p.1,mpB (fzL b sz xs) p.2))) (fzL b sz xs):=⟨fun x u hx=>by
  cases x with
  | row c=>
   show I9 _ _ _ _ (match Nat.beq c b with | true=>AV.sl .n sz xs | false=>.row c) u
   cases he : Nat.beq c b with
   | false=>exact ⟨nf c hx.1,hx.2⟩
   | true=>
    have:=D6 he
    subst this
    rw [hx.2.1]
    exact aB0 (z:=.n) hblk (fun k hk=>.inl hk) (fun k hk=>.inr ⟨hlive,hk⟩)
  | sub c s lo n=>
   obtain ⟨h1,A,N,cc,h2,h3,rfl⟩:=hx
   show I9 _ _ _ _ (match Nat.beq c b with | true=>(match Nat.beq s sz with | true=>AV.sl .n sz ((xs.drop lo).take n) | false=>.junk) | false=>.sub c s lo n) _
   cases he : Nat.beq c b with
   | false=>exact ⟨nf c h1,A,N,cc,h2,h3,rfl⟩
   | true=>
    have:=D6 he
    subst this
    cases hz : Nat.beq s sz with
    | false=>rfl
    | true=>
     have:=D6 hz
     subst this
     rw [h2] at hblk
     exact bo4 (z:=.n) hblk h3 (fun k hk=>.inl hk) (fun k hk=>.inr ⟨hlive,by rw [h2];exact hk⟩)
  | elp c s i j=>
   obtain ⟨h1,g,n,cc,h2,rfl⟩:=hx
   show I9 _ _ _ _ (match Nat.beq c b with | true=>AV.junk | false=>.elp c s i j) _
   cases he : Nat.beq c b with
   | false=>exact ⟨nf c h1,g,n,cc,h2,rfl⟩
   | true=>rfl
  | box c o=>exact ⟨nf c hx.1,hx.2⟩
  | sl z sz xs=>exact C3.move hx (fun _ _=>rfl) (mz z)
  | rp z x j=>
   obtain ⟨ad,f,h1,h2,h3⟩:=hx
   exact ⟨ad,f,h1,mz _ _ h2,fun i lv hi=>⟨(h3 i lv hi).1,C3.move (h3 i lv hi).2 (fun _ _=>rfl) (mz z)⟩⟩
  | junk=>exact hx
  | lit v=>exact hx
  | agg l=>exact hx.elim
  | tup l=>exact hx.elim
  | fn f c=>exact hx.elim,rfl,fun _=>rfl⟩
 refine h a w ⟨ρ,fun k=>Zn k∨O9 ρ (gB bk) b k,⟨hs.os,hs.tape,hs.output,hs.size,hs.z0,hs.keep,fun k hk=>.inl (hs.zi k hk),hs.zy,fun k hk=>?_,fun i v hv=>⟨nf i (hs.fix i v hv).1,(hs.fix i v hv).2⟩,fun i=>?_,⟨ω,fun i op ds' e' sz' xs' hbk=>?_,fun i hbk=>?_,fun i k ho=>d.lt i k (own' i k ho).2,fun i k ho=>?_,fun i i' k ho ho'=>d.sep i i' k (own' i k ho).2 (own' i' k ho').2⟩,hs.defers,hs.ntmps,fun i=>?_⟩⟩
 ·rcases hk with hk | hk
  ·exact hs.zn k hk
  ·exact ⟨hs.own_lt hk,.inr (hs.out b k hk).1⟩
 ·rw [hg]
  split
  ·trivial
  ·have:=hs.blk i
   cases hx : gB bk i with
   | box t l=>
    rw [hx] at this
    obtain ⟨g,cs,h1,h2,h3⟩:=this
    exact ⟨g,cs,h1,h2,Fa.map_left.2 (h3.imp fun _ _ h=>lf2 lf h)⟩
   | row e' sz' xs'=>
    rw [hx] at this
    exact O7.move this (fun k hk=>⟨rfl,.inl hk⟩) (fun _ _=>rfl)
   | drow op ds' e' sz' xs'=>cases op <;> trivial
   | _=>trivial
 ·rw [hg] at hbk
  split at hbk
  ·cases hbk
  ·obtain ⟨rfl,h2⟩:=bj2 hbk
   exact (d.row i _ _ _ _ _ h2).closed (fun k hk=>.inl hk)
 ·rw [hg] at hbk
  split at hbk
  ·cases hbk
  ·exact d.tree i (aN2 hbk)
 ·obtain ⟨hib,ho'⟩:=own' i k ho
  refine ⟨(d.out i k ho').1,fun hz=>?_⟩
  rcases hz with hz | hz
  ·exact (d.out i k ho').2 hz
  ·exact hib (d.sep i b k ho' hz.deep)
 ·show G9 _ _ _ _ (gT (tm.map fun p=>(p.1,mp4 (fzL b sz xs) p.2)) i) _
  rw [bB1 rfl]
  exact lf4 lf (hs.tmp i)
end
end Go.Proofs.YtahmbcgolnplgaaGreatA
namespace Go.Proofs.YtahmbcgolnplgaaGreatA
open Go Go.RowKit
section
variable {E : C5} {nt : Nat}
end
section
variable {P : Program} {E : C5} {nt : Nat} {s : S} {o : Oper} {d : Nat} {α : Type} {f : α→AV} {xs : List α}
end
theorem frl {α : Type} {f : α→AV} {l : List α} {h : Int} (c : h≤(l.length : Int)) : h.toNat≤(l.map f).length:=by rw [List.length_map];omega
theorem cf7 {α : Type} {l : List α} {h : Int} (c : h≤(l.length : Int)) : h.toNat≤l.length:=by omega
end Go.Proofs.YtahmbcgolnplgaaGreatA
namespace Go.Proofs.YtahmbcgolnplgaaGreatA
open Go Go.RowKit
section
variable {P : Program} {E : C5} {nt : Nat} {s : S} {o : Oper} {d : Nat}
end
def T9 : Nat→List l9→List (Nat×l9)
 | _,[]=>[]
 | i,x :: r=>(i,x) :: T9 (i + 1) r
theorem bn9 : ∀ (l : List l9) (i j : Nat),W7 (T9 i l) j = if i≤j then l[j - i]? else none
 | [],i,j=>by simp [T9,W7]
 | x :: r,i,j=>by
  show (match Nat.beq j i with | true=>some x | false=>W7 (T9 (i + 1) r) j) = _
  cases h : Nat.beq j i with
  | true=>have:=D6 h;subst this;simp
  | false=>
   have hne:=ad0 h
   show W7 (T9 (i + 1) r) j = _
   rw [bn9 r (i + 1) j]
   by_cases hle : i≤j
   ·rw [if_pos (by omega),if_pos hle,show j - i = (j - (i + 1)) + 1 by omega,List.getElem?_cons_succ]
   ·rw [if_neg (by omega),if_neg hle]
theorem at2 (l : List l9) (j : Nat) : gB (T9 0 l) j = (l[j]?).getD .fresh:=by
 unfold gB
 rw [bn9,if_pos (Nat.zero_le _),Nat.sub_zero]
 cases l[j]? <;> rfl
def by7 (n : Nat) (post : List l9) : AV→AV
 | .row b=>match Nat.blt b n with
  | true=>.row b
  | false=>match (post[b]?).getD .fresh with
   | .row _ sz xs=>.sl .n sz xs
   | _=>.junk
 | .box b o=>match Nat.blt b n with
  | true=>.box b o
  | false=>.junk
 | .sub _ _ _ _=>.junk
 | .elp _ _ _ _=>.junk
 | x=>x
def bO1 (n : Nat) : AV→Bool
 | .junk | .lit _ | .sl _ _ _=>true
 | .row b=>Nat.blt b n
 | .box b _=>Nat.blt b n
 | _=>false
def bn0 (n : Nat) : l9→Bool
 | .box _ cells=>cells.all (bO1 n)
 | .drow op _ _ _ _=>!op
 | _=>true
theorem j7.frzP {P : Program} {f : FuncId} {pre : List (Nat×l9)} {args : List AV} {L M : List l9} {res : AV} (res' : AV) (h : j7 P f pre args (T9 0 (L ++ M)) res) (hn : Nat.beq pre.length L.length = true) (hf : L.all (bn0 L.length) = true) (hr : mp4 (by7 L.length (L ++ M)) res = res':=by rfl) : j7 P f pre args (T9 0 L) res':=by
 subst hr
 intro E ρ vs hp h0 hv
 refine (h E ρ vs hp h0 hv).mono ?_
 rintro e w' ⟨v,ρ',Zn,rfl,hs,hrep⟩
 have hn':=Nat.eq_of_beq_eq_true hn
 have hb1 : ∀ b,b < L.length→gB (T9 0 L) b = gB (T9 0 (L ++ M)) b:=fun b hb=>by rw [at2,at2,List.getElem?_append_left hb]
 have hb2 : ∀ b,L.length≤b→gB (T9 0 L) b = .fresh:=fun b hb=>by rw [at2,List.getElem?_eq_none hb];rfl
 have mz : ∀ z k,fz E Zn z k→fz E (fun k=>Zn k∨∃ b,L.length≤b∧O9 ρ' (gB (T9 0 (L ++ M))) b k) z k:=fun z k hz=>by
  cases z with
  | o=>exact hz.elim (fun hz=>.inl hz) (fun hz=>.inr (.inl hz))
  | n=>exact .inl hz
  | u=>exact hz
 have ownL : ∀ b k,O9 ρ' (gB (T9 0 L)) b k→b < L.length∧O9 ρ' (gB (T9 0 (L ++ M))) b k:=fun b k ho=>by
  by_cases hb : b < L.length
  ·exact ⟨hb,by rw [← hb1 b hb];exact ho.1,ho.2⟩
  ·have:=ho.1
   rw [hb2 b (by omega)] at this
   cases this
 obtain ⟨ω,d⟩:=hs.deep
 have ownL' : ∀ b k,K4 ρ' ω (gB (T9 0 L)) b k→b < L.length∧K4 ρ' ω (gB (T9 0 (L ++ M))) b k:=fun b k ho=>by
  by_cases hb : b < L.length
  ·exact ⟨hb,by unfold K4 at ho ⊢;rw [hb1 b hb] at ho;exact ho⟩
  ·have:=ho.1
   rw [hb2 b (by omega)] at this
   cases this
 have lf : Lf (fz E Zn) (fz E (fun k=>Zn k∨∃ b,L.length≤b∧O9 ρ' (gB (T9 0 (L ++ M))) b k)) w' ρ' ρ' (gB (T9 0 (L ++ M))) (gB (T9 0 L)) (by7 L.length (L ++ M)):=by
  refine ⟨fun x u hx=>?_,rfl,fun _=>rfl⟩
  cases x with
  | row b=>
   obtain ⟨h1,h2,h3⟩:=hx
   show I9 _ _ _ _ (match Nat.blt b L.length with | true=>AV.row b | false=>match ((L ++ M)[b]?).getD .fresh with | .row _ sz xs=>AV.sl .n sz xs | _=>.junk) u
   cases hbl : Nat.blt b L.length with
   | true=>
    have hb : b < L.length:=by simpa using hbl
    exact ⟨by rw [hb1 b hb];exact h1,h2,h3⟩
   | false=>
    have hb : L.length≤b:=by
     have : ¬ b < L.length:=fun hlt=>by
      have : Nat.blt b L.length = true:=by simpa using hlt
      rw [this] at hbl;cases hbl
     omega
    have hbk:=hs.blk b
    have hge:=at2 (L ++ M) b
    cases hg : ((L ++ M)[b]?).getD .fresh with
    | row e sz xs=>
     rw [hge,hg] at hbk
     rw [h2]
     exact aB0 (z:=.n) hbk (fun k hk=>.inl hk) (fun k hk=>.inr ⟨b,hb,by rw [hge,hg];rfl,hk⟩)
    | _=>exact h3
  | box b o=>
   obtain ⟨h1,g,h2,h3⟩:=hx
   show I9 _ _ _ _ (match Nat.blt b L.length with | true=>AV.box b o | false=>.junk) u
   cases hbl : Nat.blt b L.length with
   | true=>
    have hb : b < L.length:=by simpa using hbl
    exact ⟨by rw [hb1 b hb];exact h1,g,h2,h3⟩
   | false=>rw [h3];rfl
  | sub b sz lo n=>obtain ⟨_,A,N,c,_,_,rfl⟩:=hx;rfl
  | elp b sz i j=>obtain ⟨_,g,n,c,_,rfl⟩:=hx;rfl
  | sl z sz xs=>exact C3.move hx (fun _ _=>rfl) (mz z)
  | rp z x j=>
   obtain ⟨ad,f,h1,h2,h3⟩:=hx
   exact ⟨ad,f,h1,mz _ _ h2,fun i lv hi=>⟨(h3 i lv hi).1,C3.move (h3 i lv hi).2 (fun _ _=>rfl) (mz z)⟩⟩
  | junk=>exact hx
  | lit v=>exact hx
  | agg l=>exact hx.elim
  | tup l=>exact hx.elim
  | fn f c=>exact hx.elim
 refine ⟨v,ρ',fun k=>Zn k∨∃ b,L.length≤b∧O9 ρ' (gB (T9 0 (L ++ M))) b k,rfl,⟨hs.os,hs.tape,hs.output,hs.size,hs.z0,hs.keep,fun k hk=>.inl (hs.zi k hk),hs.zy,fun k hk=>?_,fun b v hb=>?_,fun b=>?_,⟨ω,fun b op ds e sz xs hbk=>?_,fun b hbk=>?_,fun b k ho=>d.lt b k (ownL' b k ho).2,fun b k ho=>?_,fun b b' k ho ho'=>d.sep b b' k (ownL' b k ho).2 (ownL' b' k ho').2⟩,rfl,rfl,fun _=>.inl rfl⟩,lf4 lf hrep⟩
 ·rcases hk with hk | ⟨b,_,ho⟩
  ·exact hs.zn k hk
  ·exact ⟨St.own_lt hs ho,.inr (hs.out b k ho).1⟩
 ·have hlt : b < L.length:=by have:=h0 b v hb;omega
  have h1:=hs.fix b v hb
  exact ⟨by rw [hb1 b hlt];exact h1.1,h1.2⟩
 ·by_cases hb : b < L.length
  ·rw [hb1 b hb]
   have hbk:=hs.blk b
   have hfl : bn0 L.length (gB (T9 0 (L ++ M)) b) = true:=by
    rw [← hb1 b hb,at2,List.getElem?_eq_getElem hb]
    exact List.all_eq_true.1 hf _ (List.getElem_mem _)
   cases hg : gB (T9 0 (L ++ M)) b with
   | box t cells=>
    rw [hg] at hbk hfl
    obtain ⟨g,cs,e1,e2,e3⟩:=hbk
    refine ⟨g,cs,e1,e2,?_⟩
    have h4 : Fa _ (cells.map (mp2 (by7 L.length (L ++ M)))) cs:=Fa.map_left.2 (e3.imp fun _ _ h=>lf2 lf h)
    have h5 : cells.map (mp2 (by7 L.length (L ++ M))) = cells:=by
     conv=>rhs;rw [← List.map_id cells]
     refine List.map_congr_left fun x hx=>?_
     have hc : bO1 L.length x = true:=List.all_eq_true.1 hfl x hx
     cases x with
     | row b=>show (match Nat.blt b L.length with | true=>AV.row b | false=>_) = _;rw [show Nat.blt b L.length = true from hc];rfl
     | box b o=>show (match Nat.blt b L.length with | true=>AV.box b o | false=>_) = _;rw [show Nat.blt b L.length = true from hc];rfl
     | _=>first | rfl | cases hc
    rw [h5] at h4
    exact h4
   | row e sz xs=>
    rw [hg] at hbk
    exact O7.move hbk (fun k hk=>⟨rfl,.inl hk⟩) (fun _ _=>rfl)
   | _=>trivial
  ·rw [hb2 b (by omega)];trivial
 ·by_cases hb : b < L.length
  ·have hfl : bn0 L.length (gB (T9 0 L) b) = true:=by
    rw [at2,List.getElem?_eq_getElem hb]
    exact List.all_eq_true.1 hf _ (List.getElem_mem _)
   rw [hbk] at hfl
   have hop : op = false:=by cases op with | false=>rfl | true=>cases hfl
   subst hop
   exact (d.row b _ _ _ _ _ ((hb1 b hb).symm.trans hbk)).closed (fun k hk=>.inl hk)
  ·rw [hb2 b (by omega)] at hbk;cases hbk
 ·by_cases hb : b < L.length
  ·exact d.tree b (by rw [← hb1 b hb];exact hbk)
  ·rw [hb2 b (by omega)] at hbk;cases hbk
 ·obtain ⟨hb,ho'⟩:=ownL' b k ho
  refine ⟨(d.out b k ho').1,fun hz=>?_⟩
  rcases hz with hz | ⟨b',hb',ho2⟩
  ·exact (d.out b k ho').2 hz
  ·have:=d.sep b b' k ho' ho2.deep;omega
end Go.Proofs.YtahmbcgolnplgaaGreatA
namespace Go.Proofs.YtahmbcgolnplgaaGreatA
open Go Go.RowKit
section
variable {P : Program} {E : C5} {nt : Nat} {s : S} {o : Oper} {d : Nat}
end
section
variable {E : C5} {nt : Nat} {tm : List (Nat×AV)} {bk : List (Nat×l9)} {K : Act→World→Prop}
end
theorem cf2 {α : Type} {f : α→AV} {l : List α} {i : Int} {e : α} (h0 : 0≤i) (h1 : i < ((l.set i.toNat e).length : Int)) : ((l.set i.toNat e).map f)[i.toNat]? = some (f e):=by
 rw [List.length_set] at h1
 rw [List.getElem?_map,List.getElem?_set_self (by omega)];rfl
end Go.Proofs.YtahmbcgolnplgaaGreatA
namespace Go.Proofs.YtahmbcgolnplgaaGreatA
open Go Go.RowKit
section
variable {E : C5} {nt : Nat} {ρ ρ' : Nat→Value} {Zn : Nat→Prop} {tm : Nat→AV} {bk bk' : Nat→l9} {a : Act} {w : World}
theorem St.gh (h : St E nt ρ Zn tm bk a w) {ω : Nat→Tr} (d : bn6 E Zn ρ ω bk w) (ω' : Nat→Tr) (U : Nat→Prop)
 (hρ : ∀ b,¬ U b→ρ' b = ρ b) (hb : ∀ b,¬ U b→bk' b = bk b) (hω : ∀ b,¬ U b→ω' b = ω b)
 (hU : ∀ b,U b→bk b≠.fresh→bk' b≠.fresh∧ρ' b = ρ b)
 (hB : ∀ b,U b→Mv (fz E Zn) (fz E Zn) w w ρ ρ' bk bk'→R3 (fz E Zn) w ρ' bk' (ρ' b) (bk' b))
 (hR : ∀ b op ds e sz xs,U b→Mv (fz E Zn) (fz E Zn) w w ρ ρ' bk bk'→bk' b = .drow op ds e sz xs→ai6 (fz E Zn) w ρ' bk' op ds (ω' b) e sz (ρ' b) xs)
 (hT : ∀ b,U b→isD (bk' b) = true→bk3 (ρ' b) (ω' b))
 (hO : ∀ b k,U b→K4 ρ' ω' bk' b k→∃ b0,U b0∧K4 ρ ω bk b0 k)
 (hS : ∀ b b' k,U b→U b'→K4 ρ' ω' bk' b k→K4 ρ' ω' bk' b' k→b = b') : St E nt ρ' Zn tm bk' a w:=
 h.updD d ω' U rfl rfl rfl (Nat.le_refl _) (fun _ _ _=>rfl) hρ hb hω hU (fun _ h=>h) (fun _ h=>.inl h) hB hR hT
  (fun b k hu ho=>by obtain ⟨b0,hu0,ho0⟩:=hO b k hu ho;exact ⟨.inr ⟨b0,hu0,ho0⟩,(d.out b0 k ho0).2⟩)
  (fun b k hu ho _=>by obtain ⟨b0,hu0,ho0⟩:=hO b k hu ho;exact d.lt b0 k ho0) hS rfl rfl (fun i=>.inl ⟨rfl,rfl⟩)
end
def Gh (E : C5) (nt : Nat) (s : S) (ups : List (Nat×l9)) (tl : List Nat) : Prop:=∀ tm bk,(∀ b ∈ tl,bk b = gB s.bk b)→∀ a w,Z7 E nt tm bk a w→Z7 E nt tm (O0 bk ups) a w
theorem bO8 (bk : Nat→l9) (l m : List (Nat×l9)) : O0 bk (l ++ m) = O0 (O0 bk m) l:=by
 funext i
 unfold O0
 rw [aS5]
 cases W7 l i <;> rfl
section
variable {P : Program} {Q : Exit→Act→World→Prop} {E : C5} {nt : Nat} {s : S} {o : Oper}
theorem Gh.then {u1 u2 : List (Nat×l9)} {t1 t2 : List Nat} (h1 : Gh E nt s u1 t1) (h2 : Gh E nt ⟨s.tm,u1 ++ s.bk⟩ u2 t2) : Gh E nt s (u2 ++ u1) (t1 ++ t2):=by
 intro tm bk hag a w hr
 rw [bO8]
 refine h2 tm (O0 bk u1) (fun b hb=>?_) a w (h1 tm bk (fun b hb=>hag b (List.mem_append_left _ hb)) a w hr)
 show O0 bk u1 b = gB (u1 ++ s.bk) b
 rw [ax7]
 unfold O0
 rw [hag b (List.mem_append_right _ hb)]
theorem bZ6 {tm : List (Nat×AV)} {bk : List (Nat×l9)} {K : Act→World→Prop} {ups : List (Nat×l9)} {tl : List Nat} (h : Gh E nt ⟨tm,bk⟩ ups tl) (hk : m9 E nt ⟨tm,ups ++ bk⟩ K) : m9 E nt ⟨tm,bk⟩ K:=by
 intro a w hr
 refine hk a w ?_
 have h1:=h (gT tm) (gB bk) (fun _ _=>rfl) a w hr
 show Z7 E nt (gT tm) (gB (ups ++ bk)) a w
 rw [ax7]
 exact h1
end
def Tr.cut (t : Tr) (q : Nat) : Tr:=fun p=>match p with
 | []=>t []
 | x :: r=>if x = q then none else t (x :: r)
def Tr.put (t : Tr) (q : Nat) (c : Tr) : Tr:=fun p=>match p with
 | []=>t []
 | x :: r=>if x = q then c r else t (x :: r)
theorem bR3 (t : Tr) {q x : Nat} (h : x≠q) : (t.cut q).sub x = t.sub x:=by
 funext p
 show (if x = q then none else t (x :: p)) = t (x :: p)
 rw [if_neg h]
theorem aF6 {t : Tr} {q i k : Nat} {p : List Nat} (h : t.cut q (i :: p) = some k) : i≠q∧t (i :: p) = some k:=by
 have h' : (if i = q then none else t (i :: p)) = some k:=h
 by_cases e : i = q
 ·rw [if_pos e] at h';cases h'
 ·rw [if_neg e] at h';exact ⟨e,h'⟩
theorem bU8 {sz i j i' j' : Nat} (hi : i < sz) (hi' : i' < sz) (h : ¬ (j' = j∧i' = i)) : j' * sz + i'≠j * sz + i:=by
 intro e
 apply h
 rcases Nat.lt_trichotomy j' j with hl | hl | hl
 ·have:=Nat.mul_le_mul_right sz hl
  rw [Nat.succ_mul] at this;omega
 ·subst hl;exact ⟨rfl,by omega⟩
 ·have:=Nat.mul_le_mul_right sz hl
  rw [Nat.succ_mul] at this;omega
section
variable {Zf : Fl→Nat→Prop} {w : World} {ρ ρ' : Nat→Value} {bk bk' : Nat→l9}
theorem LfD.mv (m : Mv Zf Zf w w ρ ρ' bk bk') {op op' : Bool} (hop : op = true→op' = true) {t : Tr} {d : Ds} {lv : AV} {u : Value} (h : LfD Zf w ρ bk op t d lv u) : LfD Zf w ρ' bk' op' t d lv u:=by
 rcases h with h | ⟨c,h0,h1,h2,h3,h4⟩
 ·exact .inl h
 ·exact .inr ⟨c,hop h0,h1,(m.hr c h2).1,h3.trans (m.hr c h2).2.symm,h4⟩
theorem ai6.setLeaf {op op' : Bool} {ds : List Ds} {t t' : Tr} {e sz : Nat} {v : Value} {xs : List AV} {inner : List Value} (h0 : 0 < sz) (ho : S8 w 0 e sz v xs.length inner) (hl : ∀ (j : Nat) (x : AV),xs[j]? = some x→x.leaves.length = sz)
 (hr : ∀ (j : Nat) (x : AV) (i : Nat) (lv : AV),xs[j]? = some x→x.leaves[i]? = some lv→∃ u,inner[j * sz + i]? = some u∧LfD Zf w ρ bk op (t.sub (j * sz + i)) (ds.getD i .v) lv u) (m : Mv Zf Zf w w ρ ρ' bk bk') (hop : op = true→op' = true) {i j : Nat} {X X' lv0 lv1 : AV} (hx : xs[i]? = some X) (hj : X.leaves[j]? = some lv0) (hX : X'.leaves = X.leaves.set j lv1)
 (ht : ∀ x,x≠i * sz + j→t'.sub x = t.sub x) (hnew : ∀ u,inner[i * sz + j]? = some u→LfD Zf w ρ bk op (t.sub (i * sz + j)) (ds.getD j .v) lv0 u→LfD Zf w ρ' bk' op' (t'.sub (i * sz + j)) (ds.getD j .v) lv1 u) : ai6 Zf w ρ' bk' op' ds t' e sz v (xs.set i X'):=by
 have hi:=(List.getElem?_eq_some_iff.1 hx).1
 have hlX:=hl i X hx
 have hjs : j < sz:=by rw [← hlX];exact (List.getElem?_eq_some_iff.1 hj).1
 refine ⟨h0,inner,by rw [List.length_set];exact ho,fun q x hq=>?_,fun q x k lv hq hk=>?_⟩
 ·by_cases e : i = q
  ·subst e
   rw [List.getElem?_set_self hi] at hq
   injection hq with hq
   subst hq
   rw [hX,List.length_set];exact hlX
  ·rw [List.getElem?_set_ne e] at hq;exact hl q x hq
 ·by_cases e : i = q
  ·subst e
   rw [List.getElem?_set_self hi] at hq
   injection hq with hq
   subst hq
   rw [hX] at hk
   by_cases e' : j = k
   ·subst e'
    rw [List.getElem?_set_self (by rw [hlX];exact hjs)] at hk
    injection hk with hk
    subst hk
    obtain ⟨u,hu,hv⟩:=hr i X j lv0 hx hj
    exact ⟨u,hu,hnew u hu hv⟩
   ·rw [List.getElem?_set_ne e'] at hk
    obtain ⟨u,hu,hv⟩:=hr i X k lv hx hk
    refine ⟨u,hu,?_⟩
    rw [ht _ (by omega)]
    exact hv.mv m hop
  ·rw [List.getElem?_set_ne e] at hq
   obtain ⟨u,hu,hv⟩:=hr q x k lv hq hk
   refine ⟨u,hu,?_⟩
   have hk' : k < sz:=by rw [← hl q x hq];exact (List.getElem?_eq_some_iff.1 hk).1
   rw [ht _ (bU8 hjs hk' (fun h=>e h.1.symm))]
   exact hv.mv m hop
end
def aW0 (ds : List Ds) (e sz : Nat) (xs : List AV) : l9:=match ds with
 | []=>.row e sz xs
 | _ :: _=>.drow false ds e sz xs
theorem bM8 {ds : List Ds} {e sz : Nat} {xs : List AV} : aW0 ds e sz xs≠.fresh:=by cases ds <;> exact fun h=>by cases h
section
variable {E : C5} {nt : Nat} {s : S}
theorem bQ7 {op : Bool} {ds ds' : List Ds} {b c e sz e' sz' i j : Nat} {z : Fl} {xs ys zz : List AV} {X X' : AV} (hb : gB s.bk b = .drow op ds e sz xs) (hc : gB s.bk c = .fresh) (hx : xs[i]? = some X) (hj : X.leaves[j]? = some (.sl z sz' ys)) (hd : ds.getD j .v = .own e' ds') (hX : X'.leaves = X.leaves.set j (.row c)) (hz : xs.set i X' = zz) :
 Gh E nt s [(b,.drow true ds e sz zz),(c,aW0 ds' e' sz' ys)] [b,c]:=by
 subst hz
 intro tm bk hag a w ⟨ρ,Zn,hs⟩
 obtain ⟨ω,d⟩:=hs.deep
 have hbk : bk b = .drow op ds e sz xs:=(hag b List.mem_cons_self).trans hb
 have hck : bk c = .fresh:=(hag c (List.mem_cons_of_mem _ List.mem_cons_self)).trans hc
 have hne : b≠c:=fun e=>by rw [e,hck] at hbk;cases hbk
 obtain ⟨h0,inner,ho,hl,hr⟩:=d.row b _ _ _ _ _ hbk
 obtain ⟨u,hu,hv⟩:=hr i X j _ hx hj
 have hlv : Lv (fz E Zn .n) w ((ω b).sub (i * sz + j)) (.own e' ds') (.sl z sz' ys) u:=by
  rcases hv with hv | ⟨_,_,h1,_⟩
  ·rw [hd] at hv;exact hv
  ·cases h1
 obtain ⟨bk',hbk',k1,k2,k3⟩ : ∃ bk' : Nat→l9,O0 bk [(b,.drow true ds e sz (xs.set i X')),(c,aW0 ds' e' sz' ys)] = bk'∧bk' b = .drow true ds e sz (xs.set i X')∧bk' c = aW0 ds' e' sz' ys∧∀ x,x≠b→x≠c→bk' x = bk x:=⟨_,at5 ..,if_pos rfl,(if_neg (Ne.symm hne)).trans (if_pos rfl),fun x h1 h2=>(if_neg h1).trans (if_neg h2)⟩
 obtain ⟨ρ',e1,e2⟩ : ∃ ρ' : Nat→Value,ρ' c = u∧∀ x,x≠c→ρ' x = ρ x:=⟨fun x=>if x = c then u else ρ x,if_pos rfl,fun x h=>if_neg h⟩
 obtain ⟨ω',o1,o2,o3⟩ : ∃ ω' : Nat→Tr,ω' c = (ω b).sub (i * sz + j)∧ω' b = (ω b).cut (i * sz + j)∧∀ x,x≠b→x≠c→ω' x = ω x:=⟨fun x=>if x = c then (ω b).sub (i * sz + j) else if x = b then (ω b).cut (i * sz + j) else ω x,if_pos rfl,(if_neg hne).trans (if_pos rfl),fun x h1 h2=>(if_neg h2).trans (if_neg h1)⟩
 have hlive : ad3 (bk b) = true:=by rw [hbk];rfl
 have hisD : isD (bk b) = true:=by rw [hbk];rfl
 have hrb : M9 u = ω b [i * sz + j]:=by cases hlv with | own _ _ _ _ h=>exact h
 have ownc : ∀ k,K4 ρ' ω' bk' c k→∃ p,ω b ((i * sz + j) :: p) = some k:=fun k hk=>by
  have h2:=hk.2
  rw [e1,o1] at h2
  rcases h2 with h2 | ⟨_,i',p,h2⟩
  ·exact ⟨[],by rw [← hrb];exact h2⟩
  ·exact ⟨i' :: p,h2⟩
 have ownb : ∀ k,K4 ρ' ω' bk' b k→M9 (ρ b) = some k∨∃ x p,x≠i * sz + j∧ω b (x :: p) = some k:=fun k hk=>by
  have h2:=hk.2
  rw [e2 b hne,o2] at h2
  rcases h2 with h2 | ⟨_,i',p,h2⟩
  ·exact .inl h2
  ·obtain ⟨h3,h4⟩:=aF6 h2;exact .inr ⟨i',p,h3,h4⟩
 have tr:=d.tree b hisD
 rw [hbk']
 refine ⟨ρ',Zn,hs.gh d ω' (fun x=>x = b∨x = c) (fun x hx=>e2 x fun e=>hx (.inr e)) (fun x hx=>k3 x (fun e=>hx (.inl e)) (fun e=>hx (.inr e))) (fun x hx=>o3 x (fun e=>hx (.inl e)) (fun e=>hx (.inr e))) (fun x hx hnf=>?_) (fun x hx m=>?_) (fun x op' ds1 e3 sz1 xs1 hx m hbx=>?_) (fun x hx hdx=>?_) (fun x k hx hk=>?_) (fun x y k hx hy hk hk'=>?_)⟩
 ·rcases hx with rfl | rfl
  ·rw [k1];exact ⟨(fun h=>by cases h),e2 _ hne⟩
  ·exact absurd hck hnf
 ·rcases hx with rfl | rfl
  ·rw [k1];trivial
  ·rw [k2,e1]
   cases ds' with
   | cons _ _=>trivial
   | nil=>
    cases hlv with
    | own inner' g h0' ho' hr' hl' hc' hv'=>
     refine ⟨h0',inner',ho',hl',fun j' x' i' lv hj' hi'=>⟨_,hc' j' x' i' lv hj' hi',?_⟩⟩
     have h9:=hv' j' x' i' lv hj' hi'
     generalize g j' i' = gv at h9
     generalize hq : ([] : List Ds).getD i' .v = dd at h9
     have hq' : dd = .v:=by rw [← hq];simp
     subst hq'
     cases h9 with
     | v h9=>exact h9
     | junk h9=>exact .junk h9
 ·rcases hx with rfl | rfl
  ·rw [k1] at hbx
   injection hbx with a1 a2 a3 a4 a5
   subst a1;subst a2;subst a3;subst a4;subst a5
   rw [e2 _ hne,o2]
   refine ai6.setLeaf h0 ho hl hr m (fun _=>rfl) hx hj hX (fun x hx=>bR3 _ hx) (fun u' hu1 hu'=>?_)
   rw [hu] at hu1
   injection hu1 with hu1
   subst hu1
   exact .inr ⟨c,rfl,rfl,by rw [k2];exact bM8,e1.symm,hlv.one⟩
  ·rw [k2] at hbx
   rw [e1,o1]
   cases ds' with
   | nil=>cases hbx
   | cons d0 dr=>
    injection hbx with a1 a2 a3 a4 a5
    subst a1;subst a2;subst a3;subst a4;subst a5
    cases hlv with
    | own inner' g h0' ho' hr' hl' hc' hv'=>exact ⟨h0',inner',ho',hl',fun j' x' i' lv hj' hi'=>⟨_,hc' j' x' i' lv hj' hi',.inl (hv' j' x' i' lv hj' hi')⟩⟩
 ·rcases hx with rfl | rfl
  ·rw [e2 _ hne,o2]
   exact ⟨fun i' p k hk=>tr.1 i' p k (aF6 hk).2,fun i' p j' q k hk hk'=>tr.2 i' p j' q k (aF6 hk).2 (aF6 hk').2⟩
  ·rw [e1,o1]
   refine ⟨fun i' p k hk hk'=>?_,fun i' p j' q k hk hk'=>?_⟩
   ·rw [hrb] at hk'
    have:=(tr.2 _ _ _ _ k hk hk').2
    cases this
   ·have:=(tr.2 _ _ _ _ k hk hk').2
    injection this with h1 h2
    exact ⟨h1,h2⟩
 ·rcases hx with rfl | rfl
  ·refine ⟨x,.inl rfl,hlive,?_⟩
   rcases ownb k hk with h | ⟨y,p,_,h⟩
   ·exact .inl h
   ·exact .inr ⟨hisD,y,p,h⟩
  ·obtain ⟨p,hp⟩:=ownc k hk
   exact ⟨b,.inl rfl,hlive,.inr ⟨hisD,_,p,hp⟩⟩
 ·have key : ∀ k,K4 ρ' ω' bk' b k→K4 ρ' ω' bk' c k→False:=fun k h1 h2=>by
   obtain ⟨p,hp⟩:=ownc k h2
   rcases ownb k h1 with h | ⟨x,p',hx,h⟩
   ·exact tr.1 _ _ k hp h
   ·exact hx (tr.2 _ _ _ _ k h hp).1
  rcases hx with rfl | rfl <;> rcases hy with rfl | rfl
  ·rfl
  ·exact (key k hk hk').elim
  ·exact (key k hk' hk).elim
  ·rfl
end
end Go.Proofs.YtahmbcgolnplgaaGreatA
namespace Go.Proofs.YtahmbcgolnplgaaGreatA
open Go Go.RowKit
section
variable {E : C5} {nt : Nat} {s : S}
end
section
variable {P : Program} {w : World}
theorem bL0 {e sz n : Nat} {v : Value} {inner : List Value} (h : S8 w 0 e sz v n inner) : ∃ A c,v = .slice A n c∧n≤c∧(0 < n→∃ g,A = some ⟨g,0,none⟩):=by
 rcases h.2 with ⟨rfl,hn⟩ | ⟨g,cap,cur,rfl,_,_,hnc,_⟩
 ·exact ⟨none,0,by rw [hn],by omega,fun h=>by omega⟩
 ·exact ⟨_,cap,rfl,hnc,fun _=>⟨g,rfl⟩⟩
end
end Go.Proofs.YtahmbcgolnplgaaGreatA
namespace Go.Proofs.YtahmbcgolnplgaaGreatA
open Go Go.RowKit
section
variable {P : Program} {E : C5} {nt : Nat} {s : S} {o : Oper} {d : Nat}
theorem LfD.one {Zf : Fl→Nat→Prop} {w : World} {ρ : Nat→Value} {bk : Nat→l9} {op : Bool} {t : Tr} {dd : Ds} {lv : AV} {u : Value} (h : LfD Zf w ρ bk op t dd lv u) : u.oneCell' = true:=by
 rcases h with hv | ⟨_,_,_,_,_,h4⟩
 ·exact hv.one
 ·exact h4
inductive Lt : Ds→AV→AV→Prop
 | v {v : Value} : Lt .v (.lit v) (.lit v)
 | row {dd : Ds} {c : Nat} : Lt dd (.row c) (.row c)
 | nil {e : Nat} {ds : List Ds} {z : Fl} {sz : Nat} : Nat.blt 0 sz = true→Lt (.own e ds) (.lit (.slice none 0 0)) (.sl z sz [])
inductive LtA (ds : List Ds) (sz : Nat) : Nat→List AV→List AV→Prop
 | nil {q : Nat} : LtA ds sz q [] []
 | cons {q : Nat} {x y : AV} {l m : List AV} : Lt (ds.getD (q % sz) .v) x y→LtA ds sz (q + 1) l m→LtA ds sz q (x :: l) (y :: m)
theorem LtA.len {ds : List Ds} {sz : Nat} : ∀ {q : Nat} {l m : List AV},LtA ds sz q l m→l.length = m.length
 | _,_,_,.nil=>rfl
 | _,_,_,.cons _ h=>by simp [h.len]
theorem LtA.get {ds : List Ds} {sz : Nat} : ∀ {q : Nat} {l m : List AV},LtA ds sz q l m→∀ {i : Nat} {y : AV},m[i]? = some y→∃ x,l[i]? = some x∧Lt (ds.getD ((q + i) % sz) .v) x y
 | _,_,_,.nil,i,y,h=>by simp at h
 | q,_,_,.cons (x:=x) h0 h,i,y,hy=>by
  cases i with
  | zero=>simp at hy;subst hy;exact ⟨x,rfl,h0⟩
  | succ i=>
   obtain ⟨x',h1,h2⟩:=h.get (i:=i) (by simpa using hy)
   exact ⟨x',by simpa using h1,by rwa [show q + (i + 1) = q + 1 + i by omega]⟩
theorem Lt.ok {Zf : Fl→Nat→Prop} {w : World} {ρ : Nat→Value} {bk : Nat→l9} {dd : Ds} {x y : AV} {u : Value} {t : Tr} (h : Lt dd x y) (ht : ∀ p,t p = none) (hr : L6 Zf w ρ bk x u) : LfD Zf w ρ bk true t dd y u:=by
 cases h with
 | @v v=>
  rcases hr with ⟨rfl,h1⟩ | ⟨_,_,_,h,_⟩
  ·exact .inl (.v (.lit h1))
  ·cases h
 | @row dd c=>
  rcases hr with ⟨h1,h2,h3⟩ | ⟨_,_,_,h,_⟩
  ·exact .inr ⟨c,rfl,rfl,h1,h2,h3⟩
  ·cases h
 | @nil e ds z sz h0=>
  rcases hr with ⟨rfl,h1⟩ | ⟨_,_,_,h,_⟩
  ·exact .inl (.own [] (fun _ _=>undef) (Nat.blt_eq▸h0) (az4 w 0 e sz) (ht []).symm (fun j x h=>by simp at h) (fun j x i lv h=>by simp at h) (fun j x i lv h=>by simp at h))
  ·cases h
end
end Go.Proofs.YtahmbcgolnplgaaGreatA
namespace Go.Proofs.YtahmbcgolnplgaaGreatA
open Go Go.RowKit
theorem bQ9 {w : World} {e sz n k : Nat} {v : Value} {inner : List Value} (h : S8 w 0 e sz v n inner) (hk : M9 v = some k) : v.ownBlock = some k:=by
 obtain ⟨A,c,rfl,_⟩:=bL0 h
 cases A with
 | none=>cases hk
 | some a=>exact hk
theorem own_lt {w : World} {e sz n k : Nat} {v : Value} {inner : List Value} (h : S8 w 0 e sz v n inner) (hk : M9 v = some k) : k < w.heap.size:=(h.lt k (bQ9 h hk)).2
section
variable {P : Program} {E : C5} {nt : Nat} {s : S} {o : Oper} {d : Nat}
end
end Go.Proofs.YtahmbcgolnplgaaGreatA
namespace Go.Proofs.YtahmbcgolnplgaaGreatA
open Go Go.RowKit
inductive ZD : List Ds→List AV→List Value→Prop
 | nil {ds : List Ds} : ZD ds [] []
 | v {ds : List Ds} {u : Value} {l : List AV} {r : List Value} : ZD ds l r→ZD (.v :: ds) (.lit u :: l) (u :: r)
 | own {e : Nat} {ds ds' : List Ds} {z : Fl} {sz : Nat} {l : List AV} {r : List Value} : Nat.blt 0 sz = true→ZD ds l r→ZD (.own e ds' :: ds) (.sl z sz [] :: l) (.slice none 0 0 :: r)
theorem ZD.len : ∀ {ds : List Ds} {l : List AV} {r : List Value},ZD ds l r→l.length = r.length
 | _,_,_,.nil=>rfl
 | _,_,_,.v h=>by simp [h.len]
 | _,_,_,.own _ h=>by simp [h.len]
theorem ZD.get {Zf : Fl→Nat→Prop} {w : World} {ρ : Nat→Value} {bk : Nat→l9} {op : Bool} {t : Tr} (ht : ∀ p,t p = none) : ∀ {ds : List Ds} {l : List AV} {r : List Value},ZD ds l r→∀ {i : Nat} {lv : AV},l[i]? = some lv→∃ u,r[i]? = some u∧(u.oneCell' = true→LfD Zf w ρ bk op t (ds.getD i .v) lv u)
 | _,_,_,.nil,i,lv,h=>by simp at h
 | _,_,_,.v (u:=u) h,i,lv,hi=>by
  cases i with
  | zero=>simp at hi;subst hi;exact ⟨u,rfl,fun h1=>.inl (.v (.lit h1))⟩
  | succ i=>exact h.get ht (i:=i) (by simpa using hi)
 | _,_,_,.own (e:=e) (sz:=sz) h0 h,i,lv,hi=>by
  cases i with
  | zero=>simp at hi;subst hi;exact ⟨_,rfl,fun _=>.inl (.own [] (fun _ _=>undef) (Nat.blt_eq▸h0) (az4 w 0 e sz) (ht []).symm (fun j x h=>by simp at h) (fun j x i lv h=>by simp at h) (fun j x i lv h=>by simp at h))⟩
  | succ i=>exact h.get ht (i:=i) (by simpa using hi)
section
variable {P : Program} {E : C5} {nt : Nat} {s : S} {o : Oper} {d : Nat}
theorem tk {op : Bool} {ds ds' : List Ds} {e sz e' sz' i : Nat} {z : Fl} {xs ys zz : List AV} {X : AV} (b c j : Nat) (X' : AV) (hx : xs[i]? = some X) (hz : xs.set i X' = zz) (hj : X.leaves[j]? = some (.sl z sz' ys)) (hb : gB s.bk b = .drow op ds e sz xs:=by rfl) (hd : ds.getD j .v = .own e' ds':=by rfl) (hc : gB s.bk c = .fresh:=by rfl) (hX : X'.leaves = X.leaves.set j (.row c):=by rfl) :
 Gh E nt s [(b,.drow true ds e sz zz),(c,aW0 ds' e' sz' ys)] [b,c]:=bQ7 hb hc hx hj hd hX hz
theorem aK5 {tm : List (Nat×AV)} {bk : List (Nat×l9)} {K : Act→World→Prop} {b : Nat} {y : l9} {tl : List Nat} (h : Gh E nt ⟨tm,bk⟩ [(b,y)] tl) (hk : m9 E nt ⟨tm,(b,y) :: bk⟩ K) : m9 E nt ⟨tm,bk⟩ K:=bZ6 h hk
end
section
variable {α : Type} {f : α→AV} {l : List α}
end
theorem bd6 {E : C5} {nt : Nat} {tm : Nat→AV} {bk : Nat→l9} {a : Act} {w : World} {d b e sz : Nat} {xs : List AV} (h : Z7 E nt tm bk a w) (hd : tm d = .row b) (hb : bk b = .row e sz xs) : Z7 E nt (fun i=>if i = d then .sl .n sz xs else tm i) (fun i=>if i = b then .gone else bk i) a w:=by
 obtain ⟨ρ,Zn,hs⟩:=h
 have hrow:=hs.blk b
 rw [hb] at hrow
 have hlive : ad3 (bk b) = true:=by rw [hb];rfl
 refine ⟨ρ,fun k=>Zn k∨O9 ρ bk b k,?_⟩
 have own' : ∀ i k,O9 ρ (fun i=>if i = b then l9.gone else bk i) i k→i≠b∧O9 ρ bk i k:=fun i k ho=>by
  by_cases hi : i = b
  ·have:=ho.1;simp only [hi,if_true] at this;cases this
  ·exact ⟨hi,by have:=ho.1;simp only [if_neg hi] at this;exact ⟨this,ho.2⟩⟩
 refine hs.upd (fun i=>i = b) rfl rfl rfl (Nat.le_refl _) (fun _ _ _=>rfl) (fun _ _=>rfl) (fun i hi=>if_neg hi) (fun i hi hf=>⟨by simp [show i = b from hi],rfl⟩) (fun k hk=>.inl hk) (fun k hk=>?_) (fun i hi m=>?_) (fun i k hi ho=>absurd hi (own' i k ho).1) (fun i i' k hi hi' _ _=>hi.trans hi'.symm) rfl rfl (fun i=>?_) (fun i hi=>⟨by rw [show i = b from hi,hb];rfl,by simp [show i = b from hi,isD]⟩)
 ·rcases hk with hk | hk
  ·exact .inl hk
  ·exact .inr ⟨hs.own_lt hk,.inr ⟨b,rfl,hk⟩⟩
 ·simp only [show i = b from hi,if_true];trivial
 ·by_cases hi : i = d
  ·right
   intro m
   subst hi
   have h1:=hs.tmp i
   rw [hd] at h1
   obtain ⟨_,h2,_⟩:=L0 h1 rfl
   simp only [if_true]
   rw [h2]
   exact O5 (.inl (aB0 (z:=.n) hrow (fun k hk=>.inl hk) (fun k hk=>.inr ⟨hlive,hk⟩)))
  ·exact .inl ⟨if_neg hi,rfl⟩
theorem bK2 {P : Program} {E : C5} {nt : Nat} {s : S} {o : Oper} {d b e sz : Nat} {xs : List AV} {lk tl : List Nat} (h : s8 P E nt o s ⟨some d,.row b,[(b,.row e sz xs)]⟩ lk tl) : s8 P E nt o s ⟨some d,.sl .n sz xs,[(b,.gone)]⟩ lk tl:=by
 intro tm bk hag a w hr
 obtain ⟨m,v,w',h1,h2,h3⟩:=h tm bk hag a w hr
 refine ⟨m,v,w',h1,h2,?_⟩
 have h4:=bd6 (d:=d) h3 (by show (if d = d then AV.row b else tm d) = _;rw [if_pos rfl]) (show O0 bk [(b,.row e sz xs)] b = .row e sz xs by rw [R5];exact if_pos rfl)
 have e1 : (fun i=>if i = d then AV.sl .n sz xs else T7 tm (some d) (.row b) i) = T7 tm (some d) (.sl .n sz xs):=by
  funext i
  show (if i = d then _ else if i = d then _ else _) = if i = d then _ else _
  by_cases hi : i = d <;> simp [hi]
 have e2 : (fun i=>if i = b then l9.gone else O0 bk [(b,.row e sz xs)] i) = O0 bk [(b,.gone)]:=by
  funext i
  rw [R5,R5]
  by_cases hi : i = b <;> simp [hi]
 have h5 : Z7 E nt (T7 tm (some d) (.sl .n sz xs)) (O0 bk [(b,.gone)]) (a.put o.dst v) w':=by rw [← e1,← e2];exact h4
 exact h5
theorem bm3 {P : Program} {E : C5} {nt : Nat} {s : S} {o : Oper} {d c b e sz : Nat} {X : l9} {xs : List AV} {lk tl : List Nat} (h : s8 P E nt o s ⟨some d,.row b,[(c,X),(b,.row e sz xs)]⟩ lk tl) (hcb : Nat.beq c b = false:=by rfl) : s8 P E nt o s ⟨some d,.sl .n sz xs,[(c,X),(b,.gone)]⟩ lk tl:=by
 intro tm bk hag a w hr
 obtain ⟨m,v,w',h1,h2,h3⟩:=h tm bk hag a w hr
 refine ⟨m,v,w',h1,h2,?_⟩
 have hne:=ad0 hcb
 have h4:=bd6 (d:=d) h3 (by show (if d = d then AV.row b else tm d) = _;rw [if_pos rfl]) (show O0 bk [(c,X),(b,.row e sz xs)] b = .row e sz xs by rw [at5];exact (if_neg (Ne.symm hne)).trans (if_pos rfl))
 have e1 : (fun i=>if i = d then AV.sl .n sz xs else T7 tm (some d) (.row b) i) = T7 tm (some d) (.sl .n sz xs):=by
  funext i
  show (if i = d then _ else if i = d then _ else _) = if i = d then _ else _
  by_cases hi : i = d <;> simp [hi]
 have e2 : (fun i=>if i = b then l9.gone else O0 bk [(c,X),(b,.row e sz xs)] i) = O0 bk [(c,X),(b,.gone)]:=by
  funext i
  rw [at5,at5]
  by_cases hc : i = c
  ·subst hc;simp [hne]
  ·by_cases hi : i = b
   ·subst hi;simp [Ne.symm hne]
   ·simp [hi,hc]
 have h5 : Z7 E nt (T7 tm (some d) (.sl .n sz xs)) (O0 bk [(c,X),(b,.gone)]) (a.put o.dst v) w':=by rw [← e1,← e2];exact h4
 exact h5
inductive NzL : List AV→List AV→Prop
 | nil : NzL [] []
 | keep {x : AV} {l m : List AV} : NzL l m→NzL (x :: l) (x :: m)
 | nz {z : Fl} {sz : Nat} {l m : List AV} : Nat.blt 0 sz = true→NzL l m→NzL (.lit (.slice none 0 0) :: l) (.sl z sz [] :: m)
theorem NzL.ok {Zf : Fl→Nat→Prop} {w : World} {ρ : Nat→Value} {bk : Nat→l9} : ∀ {l m : List AV},NzL l m→∀ {cs : List Value},Fa (L6 Zf w ρ bk) l cs→Fa (L6 Zf w ρ bk) m cs
 | _,_,.nil,cs,h=>h
 | _,_,.keep h0,cs,h=>by
  obtain ⟨v,vs,rfl,h1,h2⟩:=h.uncons
  exact Fa.cons h1 (h0.ok h2)
 | _,_,.nz hsz h0,cs,h=>by
  obtain ⟨v,vs,rfl,h1,h2⟩:=h.uncons
  refine Fa.cons ?_ (h0.ok h2)
  rcases h1 with ⟨rfl,_⟩ | ⟨_,_,_,h1,_⟩
  ·exact .inl (ap6 (Nat.blt_eq▸hsz))
  ·cases h1
theorem bE7 {E : C5} {nt : Nat} {tm : List (Nat×AV)} {bk : List (Nat×l9)} {K : Act→World→Prop} {t : TypeId} {l : List AV} (b : Nat) (l' : List AV) (h : m9 E nt ⟨tm,(b,.box t l') :: bk⟩ K) (hb : gB bk b = .box t l:=by rfl) (hn : NzL l l':=by repeat (first | exact .nil | refine .nz rfl ?_ | refine .keep ?_)) : m9 E nt ⟨tm,bk⟩ K:=by
 intro a w ⟨ρ,Zn,hs⟩
 have hk : ∀ i,gB ((b,.box t l') :: bk) i = if i = b then .box t l' else gB bk i:=fun i=>ac3 i
 refine h a w ⟨ρ,Zn,hs.upd (fun i=>i = b) rfl rfl rfl (Nat.le_refl _) (fun _ _ _=>rfl) (fun _ _=>rfl) (fun i hi=>by rw [hk,if_neg hi]) (fun i hi _=>⟨by rw [hk,if_pos hi];exact fun h=>(by cases h),rfl⟩) (fun _ h=>h) (fun _ h=>.inl h) (fun i hi m=>?_) (fun i k hi ho=>?_) (fun i j k hi hj _ _=>hi.trans hj.symm) rfl rfl (fun i=>.inl ⟨rfl,rfl⟩) (fun i hi=>by subst hi;rw [hk,if_pos rfl,hb];exact ⟨rfl,rfl⟩)⟩
 ·subst hi
  rw [hk,if_pos rfl]
  have h1:=hs.blk i
  rw [hb] at h1
  obtain ⟨g,cs,h2,h3,h4⟩:=h1
  exact ⟨g,cs,h2,h3,hn.ok (h4.imp fun _ _ h=>L6.move m h)⟩
 ·subst hi
  have ho' : O9 ρ (gB bk) i k:=⟨by rw [hb];rfl,ho.2⟩
  exact ⟨.inr ⟨i,rfl,ho'⟩,(hs.out i k ho').2⟩
section
variable {P : Program} {ops : Array Oper} {Q : Exit→Act→World→Prop} {E : C5} {nt : Nat} {s s0 : S} {tm : List (Nat×AV)} {bk : List (Nat×l9)} {todo : List Oper} {o : Oper} {ns : List Nm} {G : Prop}
end
end Go.Proofs.YtahmbcgolnplgaaGreatA
namespace Go.Proofs.YtahmbcgolnplgaaGreatA
open Go Go.RowKit
section
variable {α : Type} {f : α→AV} {sz lo hi : Nat} {x : List α}
end
section
variable {E : C5} {nt : Nat} {s : S}
end
section
variable {P : Program} {E : C5} {nt : Nat} {s : S} {o : Oper} {d : Nat}
end
section
variable {E : C5} {nt : Nat} {tm : List (Nat×AV)} {bk : List (Nat×l9)} {K : Act→World→Prop}
end
section
variable {P : Program} {E : C5} {nt : Nat} {s : S} {o : Oper} {d : Nat}
end
end Go.Proofs.YtahmbcgolnplgaaGreatA
namespace Go.Proofs.YtahmbcgolnplgaaGreatA
open Go Go.RowKit
def bD2 : l9→Bool
 | .row _ _ _=>true
 | .drow false _ _ _ _=>true
 | _=>false
section
variable {E : C5} {nt : Nat} {tm : List (Nat×AV)} {bk : List (Nat×l9)} {K : Act→World→Prop}
theorem D4 {b tb : Nat} {X : l9} {cells : List AV} (q j nb : Nat) (cells' : List AV) (h : m9 E nt ⟨tm,(q,.box tb cells') :: (b,.gone) :: (nb,X) :: bk⟩ K) (hq : gB bk q = .box tb cells:=by rfl) (hj : cells[j]? = some (.row b):=by rfl) (hc : cells.set j (.row nb) = cells':=by rfl) (hb : gB bk b = X:=by rfl) (hX : bD2 X = true:=by rfl) (hnb : gB bk nb = .fresh:=by rfl) : m9 E nt ⟨tm,bk⟩ K:=by
 intro a w ⟨ρ,Zn,hs⟩
 obtain ⟨ω,dd⟩:=hs.deep
 have hblk:=hs.blk q
 rw [hq] at hblk
 obtain ⟨g,cs,h2,h3,h4⟩:=hblk
 obtain ⟨u,hv,hr⟩:=h4.get hj
 have hr0 : I9 (fz E Zn) w ρ (gB bk) (.row b) u:=by
  rcases hr with hr | ⟨_,_,_,hr,_⟩
  ·exact hr
  ·cases hr
 obtain ⟨hf,hu,hu1⟩:=hr0
 have hlX : ad3 X = true:=by cases X with | drow op=>rfl | row=>rfl | _=>cases hX
 have hne : b≠nb:=fun e=>by subst e;rw [hb] at hnb;rw [hnb] at hX;cases hX
 have hqb : q≠b:=fun e=>by subst e;rw [hq] at hb;rw [← hb] at hX;cases hX
 have hqn : q≠nb:=fun e=>by subst e;rw [hq] at hnb;cases hnb
 have hg : ∀ i,gB ((q,.box tb cells') :: (b,.gone) :: (nb,X) :: bk) i = if i = q then .box tb cells' else if i = b then .gone else if i = nb then X else gB bk i:=fun i=>by rw [ac3,ac3,ac3]
 obtain ⟨bk',hbk',k0,k1,k2,k3⟩ : ∃ bk' : Nat→l9,gB ((q,.box tb cells') :: (b,.gone) :: (nb,X) :: bk) = bk'∧bk' q = .box tb cells'∧bk' b = .gone∧bk' nb = X∧∀ x,x≠q→x≠b→x≠nb→bk' x = gB bk x:=⟨_,rfl,by rw [hg,if_pos rfl],by rw [hg,if_neg (Ne.symm hqb),if_pos rfl],by rw [hg,if_neg (Ne.symm hqn),if_neg (Ne.symm hne),if_pos rfl],fun x h1 h2 h3=>by rw [hg,if_neg h1,if_neg h2,if_neg h3]⟩
 obtain ⟨ρ',e1,e2⟩ : ∃ ρ' : Nat→Value,ρ' nb = ρ b∧∀ x,x≠nb→ρ' x = ρ x:=⟨fun x=>if x = nb then ρ b else ρ x,if_pos rfl,fun x h=>if_neg h⟩
 obtain ⟨ω',o2,o3⟩ : ∃ ω' : Nat→Tr,ω' nb = ω b∧∀ x,x≠nb→ω' x = ω x:=⟨fun x=>if x = nb then ω b else ω x,if_pos rfl,fun x h1=>if_neg h1⟩
 have ownn : ∀ k,K4 ρ' ω' bk' nb k→K4 ρ ω (gB bk) b k:=fun k ho=>by
  obtain ⟨h5,h6⟩:=ho
  rw [k2] at h5 h6
  rw [e1,o2] at h6
  exact ⟨by rw [hb];exact h5,by rw [hb];exact h6⟩
 have ownq : ∀ k,K4 ρ' ω' bk' q k→K4 ρ ω (gB bk) q k:=fun k ho=>by
  have h6:=ho.2
  rw [e2 q hqn,k0] at h6
  rcases h6 with h6 | ⟨h6,_⟩
  ·exact ⟨by rw [hq];rfl,.inl h6⟩
  ·cases h6
 have owng : ∀ k,¬ K4 ρ' ω' bk' b k:=fun k ho=>by have:=ho.1;rw [k1] at this;cases this
 refine h a w ⟨ρ',Zn,?_⟩
 show St E nt ρ' Zn (gT tm) (gB ((q,.box tb cells') :: (b,.gone) :: (nb,X) :: bk)) a w
 rw [hbk']
 refine hs.gh dd ω' (fun x=>x = q∨x = b∨x = nb) (fun x hx=>e2 x fun e=>hx (.inr (.inr e))) (fun x hx=>k3 x (fun e=>hx (.inl e)) (fun e=>hx (.inr (.inl e))) (fun e=>hx (.inr (.inr e)))) (fun x hx=>o3 x fun e=>hx (.inr (.inr e))) (fun x hx hnf=>?_) (fun x hx m=>?_) (fun x op1 ds1 e1' sz1 xs1 hx m hbx=>?_) (fun x hx hdx=>?_) (fun x k hx hk=>?_) (fun x y k hx hy hk hk'=>?_)
 ·rcases hx with rfl | rfl | rfl
  ·rw [k0];exact ⟨(fun h=>by cases h),e2 _ hqn⟩
  ·rw [k1];exact ⟨(fun h=>by cases h),e2 _ hne⟩
  ·exact absurd hnb hnf
 ·rcases hx with rfl | rfl | rfl
  ·rw [k0,e2 _ hqn]
   refine ⟨g,cs,h2,h3,?_⟩
   have h8:=(h4.imp fun _ _ h=>L6.move m h).set j (a:=.row nb) (b:=u) (.inl ⟨(by rw [k2];intro h;rw [h] at hX;cases hX),(by rw [e1];exact hu),hu1⟩)
   rw [hc] at h8
   have e : cs.set j u = cs:=by
    apply List.ext_getElem?
    intro k
    rw [List.getElem?_set]
    split
    ·rename_i e;subst e
     rw [hv]
     have:=(List.getElem?_eq_some_iff.1 hv).1
     simp [this]
    ·rfl
   rwa [e] at h8
  ·rw [k1];trivial
  ·rw [k2,e1]
   have h9:=hs.blk b
   rw [hb] at h9
   exact h9.move m (fun _ _ _=>rfl)
 ·rcases hx with rfl | rfl | rfl
  ·rw [k0] at hbx;cases hbx
  ·rw [k1] at hbx;cases hbx
  ·rw [k2] at hbx
   rw [e1,o2]
   exact (dd.row b _ _ _ _ _ (hb.trans hbx)).move m (fun _ _=>rfl) (fun _ _ _ _=>rfl)
 ·rcases hx with rfl | rfl | rfl
  ·rw [k0] at hdx;cases hdx
  ·rw [k1] at hdx;cases hdx
  ·rw [k2] at hdx
   rw [e1,o2]
   exact dd.tree b (by rw [hb];exact hdx)
 ·rcases hx with rfl | rfl | rfl
  ·exact ⟨x,.inl rfl,ownq k hk⟩
  ·exact absurd hk (owng k)
  ·exact ⟨b,.inr (.inl rfl),ownn k hk⟩
 ·rcases hx with rfl | rfl | rfl <;> rcases hy with rfl | rfl | rfl
  ·rfl
  ·exact absurd hk' (owng k)
  ·exact absurd (dd.sep _ _ k (ownq k hk) (ownn k hk')) hqb
  ·exact absurd hk (owng k)
  ·rfl
  ·exact absurd hk (owng k)
  ·exact absurd (dd.sep _ _ k (ownq k hk') (ownn k hk)) hqb
  ·exact absurd hk' (owng k)
  ·rfl
end
section
variable {E : C5} {nt : Nat} {s : S}
theorem at9 {X : l9} (b : Nat) (hb : gB s.bk b = X:=by rfl) (hX : bD2 X = true:=by rfl) : Gh E nt s [(b,.gone)] [b]:=by
 intro tm bk hag a w ⟨ρ,Zn,hs⟩
 obtain ⟨ω,d⟩:=hs.deep
 have hbk : bk b = X:=(hag b List.mem_cons_self).trans hb
 obtain ⟨bk',hbk',k1,k3⟩ : ∃ bk' : Nat→l9,O0 bk [(b,.gone)] = bk'∧bk' b = .gone∧∀ x,x≠b→bk' x = bk x:=⟨_,R5 ..,if_pos rfl,fun x h1=>if_neg h1⟩
 rw [hbk']
 refine ⟨ρ,Zn,hs.gh d ω (fun x=>x = b) (fun _ _=>rfl) (fun x hx=>k3 x hx) (fun _ _=>rfl) (fun x hx hnf=>?_) (fun x hx m=>?_) (fun x op1 ds1 e1 sz1 xs1 hx m hbx=>?_) (fun x hx hdx=>?_) (fun x k hx hk=>?_) (fun x y k hx hy hk hk'=>hx.trans hy.symm)⟩
 ·subst hx;rw [k1];exact ⟨(fun h=>by cases h),rfl⟩
 ·subst hx;rw [k1];trivial
 ·subst hx;rw [k1] at hbx;cases hbx
 ·subst hx;rw [k1] at hdx;cases hdx
 ·subst hx;have:=hk.1;rw [k1] at this;cases this
end
end Go.Proofs.YtahmbcgolnplgaaGreatA
namespace Go.Proofs.YtahmbcgolnplgaaGreatA
open Go
section
variable {P : Program} {E : C5} {nt : Nat} {s : S} {o : Oper} {d : Nat}
def s9 (b : ByteArray) : List Int:=b.data.toList.map fun x=>(x.toNat : Int)
theorem x7 (b : ByteArray) : (s9 b).length = b.size:=by unfold s9;rw [List.length_map,Array.length_toList];rfl
def aJ0 (P : Program) (src dst : TypeId) : Bool:=(P.underlying src).isSome && ((match P.underlying dst with
 | some (.slice e)=>Nat.beq e X3
 | _=>false) && match P.underlying X3 with
 | some (.int .u8)=>true
 | _=>false)
theorem bi0 {src dst : TypeId} (h : aJ0 P src dst = true) : ∃ u,P.underlying src = some u∧P.underlying dst = some (.slice X3)∧P.underlying X3 = some (.int .u8):=by
 unfold aJ0 at h
 rw [Bool.and_eq_true,Bool.and_eq_true] at h
 obtain ⟨h1,h2,h3⟩:=h
 obtain ⟨u,hu⟩:=Option.isSome_iff_exists.1 h1
 refine ⟨u,hu,?_,?_⟩
 ·split at h2
  ·rename_i e he;rw [he,Nat.eq_of_beq_eq_true h2]
  ·cases h2
 ·split at h3
  ·assumption
  ·cases h3
theorem cvS {src dst : TypeId} {x : Operand} {b : ByteArray} (nb : Nat) (hle : b.size≤140737488352256) (hop : o.op = .convert src dst x:=by rfl) (hx : opd s x = .lit (.string b):=by rfl) (hT : aJ0 P src dst = true:=by kernel_rfl) (hd : o.dst = some d:=by rfl) (hlt : Nat.blt d nt = true:=by rfl) (hnb : gB s.bk nb = .fresh:=by rfl) :
 s8 P E nt o s ⟨some d,.row nb,[(nb,.row X3 1 ((s9 b).map (eI .u8)))]⟩ (l8 x) [nb]:=
 aM6 hd hlt hnb fun tm bk ρ Zn a w hag hs=>by
  obtain ⟨u,hsrc,hdst,he⟩:=bi0 hT
  have e1:=St.opd (s:=s) hs x hag.1
  rw [hx] at e1
  have e1:=N1 e1
  have hr:=Lib.run_convert_string_bytes (P:=P) w src dst X3 b hsrc hdst he
  have hge:=grownCap_ge w b.size 0 X3
  have hcm:=grownCap_le_maxLen w b.size 0 X3 (by simp only [maxLen];omega)
  have hcs : (Lib.bytesCells w X3 b).size = grownCap w b.size 0 X3:=by
   unfold Lib.bytesCells
   rw [Array.size_append,Array.size_map,Array.size_replicate]
   show b.size + _ = _
   omega
  refine ⟨.slice (some ⟨w.heap.size,0,none⟩) b.size (grownCap w b.size 0 X3),Lib.bytesWorld w X3 b,?_,⟨rfl,rfl,rfl,by rw [Lib.bytesWorld_size];omega,fun k hk _=>Lib.bytesWorld_at_old w X3 b k hk⟩,fun q hq=>by simp [Value.ownBlock] at hq;omega,by omega,(s9 b).map (Value.int .u8),⟨by simp,.inr ⟨w.heap.size,grownCap w b.size 0 X3,Lib.bytesCells w X3 b,by rw [List.length_map,x7],Nat.zero_le _,⟨_,Lib.bytesWorld_at_new w X3 b,.inr ⟨Nat.le_refl _,rfl⟩⟩,by rw [List.length_map,x7];exact hge,hcm,by rw [hcs,Nat.mul_one],?_⟩⟩,fun j y hy=>?_,fun j y i lv hy hi=>?_⟩
  ·unfold execOp
   simp only [hop]
   rw [Sem.run_bind,e1,hr];rfl
  ·rw [List.length_map,x7,Nat.mul_one]
   unfold Lib.bytesCells s9
   rw [Array.toList_append,Array.toList_map,List.map_map]
   have hl : (b.data.toList.map fun x=>Value.int .u8 x.toNat).length = b.size:=by rw [List.length_map,Array.length_toList];rfl
   rw [← hl]
   exact List.take_left
  ·rw [List.getElem?_map] at hy
   obtain ⟨n,_,rfl⟩:=Option.map_eq_some_iff.1 hy
   rfl
  ·rw [List.getElem?_map] at hy
   obtain ⟨n,hn,rfl⟩:=Option.map_eq_some_iff.1 hy
   have hi' : i = 0∧lv = eI .u8 n:=by
    cases i with
    | zero=>exact ⟨rfl,by simpa [eI,AV.leaves] using hi.symm⟩
    | succ i=>simp [eI,AV.leaves] at hi
   obtain ⟨rfl,rfl⟩:=hi'
   exact ⟨.int .u8 n,by rw [Nat.mul_one,Nat.add_zero,List.getElem?_map,hn];rfl,.lit rfl⟩
end
end Go.Proofs.YtahmbcgolnplgaaGreatA
namespace Go.Proofs.YtahmbcgolnplgaaGreatA
open Go
theorem bP0 {E : C5} {nt : Nat} {tm : Nat→AV} {bk : Nat→l9} {a : Act} {w : World} {d : Nat} {l l' : List AV} (h : Z7 E nt tm bk a w) (hd : tm d = .agg l) (hn : NzL l l') : Z7 E nt (fun i=>if i = d then .agg l' else tm i) bk a w:=by
 obtain ⟨ρ,Zn,hs⟩:=h
 refine ⟨ρ,Zn,hs.upd (fun _=>False) rfl rfl rfl (Nat.le_refl _) (fun _ _ _=>rfl) (fun _ _=>rfl) (fun _ _=>rfl) (fun _ h=>h.elim) (fun _ h=>h) (fun _ h=>.inl h) (fun _ h=>h.elim) (fun _ _ h=>h.elim) (fun _ _ _ h=>h.elim) rfl rfl (fun i=>?_) (fun _ h=>h.elim)⟩
 by_cases hi : i = d
 ·right
  intro m
  subst hi
  show G9 _ _ _ _ (if i = i then AV.agg l' else tm i) _
  rw [if_pos rfl]
  have h1:=hs.tmp i
  rw [hd] at h1
  obtain ⟨cs,h2,h3⟩:=bu5 h1
  rw [h2]
  exact .inr (.inr (.inl (.inr ⟨l',cs,rfl,rfl,hn.ok h3⟩)))
 ·left;exact ⟨if_neg hi,rfl⟩
theorem ag3 {P : Program} {E : C5} {nt : Nat} {s : S} {o : Oper} {d : Nat} {l : List AV} {lk tl : List Nat} (l' : List AV) (h : s8 P E nt o s ⟨some d,.agg l,[]⟩ lk tl) (hn : NzL l l':=by repeat (first | exact .nil | refine .nz rfl ?_ | refine .keep ?_)) : s8 P E nt o s ⟨some d,.agg l',[]⟩ lk tl:=by
 intro tm bk hag a w hr
 obtain ⟨m,v,w',h1,h2,h3⟩:=h tm bk hag a w hr
 refine ⟨m,v,w',h1,h2,?_⟩
 have h4:=bP0 (d:=d) h3 (by show (if d = d then AV.agg l else tm d) = _;rw [if_pos rfl]) hn
 have e1 : (fun i=>if i = d then AV.agg l' else T7 tm (some d) (.agg l) i) = T7 tm (some d) (.agg l'):=by
  funext i
  show (if i = d then _ else if i = d then _ else _) = if i = d then _ else _
  by_cases hi : i = d <;> simp [hi]
 have h5 : Z7 E nt (T7 tm (some d) (.agg l')) (O0 bk []) (a.put o.dst v) w':=by rw [← e1];exact h4
 exact h5
end Go.Proofs.YtahmbcgolnplgaaGreatA
namespace Go.Proofs.YtahmbcgolnplgaaGreatA
open Go Go.RowKit
def az3 : Nat→List AV→Option (List AV)
 | 0,_=>some []
 | n + 1,l=>match l with
  | []=>none
  | x :: r=>match az3 n r with
   | some m=>some (x :: m)
   | none=>none
def aM1 : Nat→List AV→Option (List AV)
 | 0,l=>some l
 | n + 1,l=>match l with
  | []=>none
  | _ :: r=>aM1 n r
def aA1 : Nat→List AV→Option AV
 | n,l=>match l with
  | []=>none
  | x :: r=>match n with
   | 0=>some x
   | n + 1=>aA1 n r
def bp0 : List AV→List AV→Option (List AV)
 | [],c=>some c
 | x :: l,c=>match c with
  | []=>none
  | _ :: r=>match bp0 l r with
   | some m=>some (x :: m)
   | none=>none
def aK0 : Nat→List AV→List AV→Option (List AV)
 | 0,l,c=>bp0 l c
 | n + 1,l,c=>match c with
  | []=>none
  | y :: r=>match aK0 n l r with
   | some m=>some (y :: m)
   | none=>none
theorem av1 : ∀ {n : Nat} {l m : List AV},az3 n l = some m→l.take n = m∧m.length = n
 | 0,l,m,h=>by
  have : some [] = some m:=h
  injection this with this;subst this;exact ⟨rfl,rfl⟩
 | n + 1,[],m,h=>by cases h
 | n + 1,x :: r,m,h=>by
  have h' : (match az3 n r with | some m=>some (x :: m) | none=>none) = some m:=h
  cases e : az3 n r with
  | none=>rw [e] at h';cases h'
  | some k=>
   rw [e] at h';injection h' with h';subst h'
   obtain ⟨h1,h2⟩:=av1 e
   exact ⟨by rw [List.take_succ_cons,h1],by rw [List.length_cons,h2]⟩
theorem av8 : ∀ {n : Nat} {l m : List AV},aM1 n l = some m→l.drop n = m
 | 0,l,m,h=>by
  have : some l = some m:=h
  injection this
 | n + 1,[],m,h=>by cases h
 | n + 1,x :: r,m,h=>av8 (n:=n) (l:=r) h
theorem at8 : ∀ {n : Nat} {l : List AV} {x : AV},aA1 n l = some x→l[n]? = some x
 | n,[],x,h=>by rw [aA1] at h;cases h
 | 0,y :: r,x,h=>by rw [aA1] at h;exact h
 | n + 1,y :: r,x,h=>by
  rw [aA1] at h
  rw [List.getElem?_cons_succ];exact at8 h
theorem bv2 : ∀ {l c m : List AV},bp0 l c = some m→l ++ c.drop l.length = m∧l.length≤c.length
 | [],c,m,h=>by
  have : some c = some m:=h
  injection this with this;exact ⟨this,Nat.zero_le _⟩
 | x :: l,[],m,h=>by cases h
 | x :: l,y :: r,m,h=>by
  have h' : (match bp0 l r with | some m=>some (x :: m) | none=>none) = some m:=h
  cases e : bp0 l r with
  | none=>rw [e] at h';cases h'
  | some k=>
   rw [e] at h';injection h' with h';subst h'
   obtain ⟨h1,h2⟩:=bv2 e
   exact ⟨by rw [List.length_cons,List.drop_succ_cons,List.cons_append,h1],by simp;exact h2⟩
theorem aY5 : ∀ {n : Nat} {l c m : List AV},aK0 n l c = some m→c.take n ++ l ++ c.drop (n + l.length) = m∧n + l.length≤c.length
 | 0,l,c,m,h=>by
  obtain ⟨h1,h2⟩:=bv2 (l:=l) (c:=c) h
  exact ⟨by rw [Nat.zero_add];simpa using h1,by omega⟩
 | n + 1,l,[],m,h=>by cases h
 | n + 1,l,y :: r,m,h=>by
  have h' : (match aK0 n l r with | some m=>some (y :: m) | none=>none) = some m:=h
  cases e : aK0 n l r with
  | none=>rw [e] at h';cases h'
  | some k=>
   rw [e] at h';injection h' with h';subst h'
   obtain ⟨h1,h2⟩:=aY5 e
   refine ⟨?_,by simp;omega⟩
   rw [show n + 1 + l.length = (n + l.length) + 1 by omega,List.drop_succ_cons,List.take_succ_cons,List.cons_append,List.cons_append,h1]
def aI8 (z : Fl) (x : AV) : Option AV:=match x with
 | .sl _ sz xs=>some (.sl z sz xs)
 | .lit v=>some (.lit v)
 | y=>some y
theorem aK7 {z : Fl} {x y : AV} (h : aI8 z x = some y) : imm z x = y:=by
 unfold aI8 at h
 cases x <;> (injection h)
def aN5 (z : Fl) : List AV→Option (List AV)
 | []=>some []
 | x :: r=>match aI8 z x with
  | some y=>(match aN5 z r with
   | some m=>some (y :: m)
   | none=>none)
  | none=>none
theorem aP2 {z : Fl} : ∀ {l m : List AV},aN5 z l = some m→l.map (imm z) = m
 | [],m,h=>by
  have : some [] = some m:=h
  injection this
 | x :: r,m,h=>by
  have h' : (match aI8 z x with | some y=>(match aN5 z r with | some m=>some (y :: m) | none=>none) | none=>none) = some m:=h
  cases e : aI8 z x with
  | none=>rw [e] at h';cases h'
  | some y=>
   rw [e] at h'
   cases e2 : aN5 z r with
   | none=>simp only [e2] at h';cases h'
   | some k=>
    simp only [e2] at h';injection h' with h';subst h'
    rw [List.map_cons,aK7 e,aP2 e2]
abbrev Tab:=List (Nat×Nat×List (Nat×Nat)×List Value)
def am6 : Tab→Nat→Option (Nat×List (Nat×Nat)×List Value)
 | [],_=>none
 | (T,x) :: r,i=>match Nat.beq i T with
  | true=>some x
  | false=>am6 r i
def az5 (P : Program) : Tab→Prop
 | []=>True
 | (T,n,pl,zs) :: r=>(S5 P T = some zs∧zs.all (·.oneCell') = true∧at3 P T pl = true)∧az5 P r
theorem aC8 {P : Program} : ∀ {tb : Tab} {T n : Nat} {pl : List (Nat×Nat)} {zs : List Value},az5 P tb→am6 tb T = some (n,pl,zs)→S5 P T = some zs∧zs.all (·.oneCell') = true∧at3 P T pl = true
 | [],_,_,_,_,_,h=>by cases h
 | (T',x) :: r,T,n,pl,zs,ho,h=>by
  have h' : (match Nat.beq T T' with | true=>some x | false=>am6 r T) = some (n,pl,zs):=h
  cases hb : Nat.beq T T' with
  | true=>
   rw [hb] at h';injection h' with h';subst h'
   have:=D6 hb
   subst this
   exact ho.1
  | false=>rw [hb] at h';exact aC8 ho.2 h'
inductive R1 where
 | no
 | v (x : AV) (lk tl : List Nat) (ck : Bool)
 | st (b : Nat) (y : l9) (lk tl : List Nat) (ck : Bool)
def bw6 (m n : Int) (lk : List Nat) : BinOp→R1
 | .add=>.v (.lit (.int .i64 (wrap64 (m + n)))) lk [] true
 | .sub=>.v (.lit (.int .i64 (wrap64 (m - n)))) lk [] true
 | .mul=>.v (.lit (.int .i64 (wrap64 (m * n)))) lk [] true
 | .and=>.v (.lit (.int .i64 (bits .and .i64 m n))) lk [] true
 | .or=>.v (.lit (.int .i64 (bits .or .i64 m n))) lk [] true
 | .xor=>.v (.lit (.int .i64 (bits .xor .i64 m n))) lk [] true
 | .eql=>.v (.lit (.bool (m == n))) lk [] true
 | .neq=>.v (.lit (.bool (m != n))) lk [] true
 | .lss=>.v (.lit (.bool (decide (m < n)))) lk [] true
 | .leq=>.v (.lit (.bool (decide (m≤n)))) lk [] true
 | .gtr=>.v (.lit (.bool (decide (m > n)))) lk [] true
 | .geq=>.v (.lit (.bool (decide (m ≥ n)))) lk [] true
 | _=>.no
def bz7 : IntKind→IntKind→Option IntKind
 | .u8,.u8=>some .u8
 | .u32,.u32=>some .u32
 | .u64,.u64=>some .u64
 | .i64,.i64=>some .i64
 | _,_=>none
theorem bl7 {k k' j : IntKind} (h : bz7 k k' = some j) : k = j∧k' = j:=by
 unfold bz7 at h
 split at h <;> first | (injection h with h;subst h;exact ⟨rfl,rfl⟩) | cases h
def by1 (k : IntKind) (m n : Int) (lk : List Nat) : BinOp→R1
 | .add=>.v (.lit (.int k (k.wrap (m + n)))) lk [] true
 | .sub=>.v (.lit (.int k (k.wrap (m - n)))) lk [] true
 | .mul=>.v (.lit (.int k (k.wrap (m * n)))) lk [] true
 | .and=>.v (.lit (.int k (bits .and k m n))) lk [] true
 | .or=>.v (.lit (.int k (bits .or k m n))) lk [] true
 | .xor=>.v (.lit (.int k (bits .xor k m n))) lk [] true
 | .eql=>.v (.lit (.bool (m == n))) lk [] true
 | .neq=>.v (.lit (.bool (m != n))) lk [] true
 | .lss=>.v (.lit (.bool (decide (m < n)))) lk [] true
 | .leq=>.v (.lit (.bool (decide (m≤n)))) lk [] true
 | .gtr=>.v (.lit (.bool (decide (m > n)))) lk [] true
 | .geq=>.v (.lit (.bool (decide (m ≥ n)))) lk [] true
 | _=>.no
def bA1 (u v : ByteArray) (lk : List Nat) : BinOp→R1
 | .eql=>.v (.lit (.bool (u.toList == v.toList))) lk [] true
 | .neq=>.v (.lit (.bool (!(u.toList == v.toList)))) lk [] true
 | .lss=>.v (.lit (.bool (Op.bytesLess u.toList v.toList))) lk [] true
 | _=>.no
def bx4 (u v : Value) (lk : List Nat) (op : BinOp) : R1:=match u with
 | .int k m=>(match v with
  | .int k' n=>(match bz7 k k' with
   | some .i64=>bw6 m n lk op
   | some k=>by1 k m n lk op
   | none=>.no)
  | _=>.no)
 | .string u=>(match v with
  | .string v=>bA1 u v lk op
  | _=>.no)
 | _=>.no
def bM5 (s : S) (op : BinOp) (x y : Operand) : R1:=match opo s x with
 | some (.lit u)=>(match opo s y with
  | some (.lit v)=>bx4 u v (l8 x ++ l8 y) op
  | _=>.no)
 | _=>.no
def sMv (s : S) (x : Operand) : R1:=match opo s x with
 | some v=>.v v (l8 x) [] true
 | none=>.no
def bN2 (s : S) (op : UnOp) (x : Operand) : R1:=match opo s x with
 | some (.lit (.bool b))=>(match op with
  | .not=>.v (.lit (.bool (!b))) (l8 x) [] true
  | _=>.no)
 | _=>.no
def bH4 (s : S) (x : Operand) (i : Nat) : R1:=match opo s x with
 | some (.tup l)=>(match aA1 i l with
  | some z=>.v z (l8 x) [] true
  | none=>.no)
 | _=>.no
def bG8 (s : S) (x : Operand) : R1:=match opo s x with
 | some (.box b c)=>.v (.box b c) (l8 x) [] true
 | _=>.no
def bE6 : Nat→List (Nat×Nat)→Option Nat
 | n,l=>match l with
  | []=>none
  | (o,_) :: r=>match n with
   | 0=>some o
   | n + 1=>bE6 n r
def sFa (tb : Tab) (P : Program) (s : S) (T : Nat) (x : Operand) (f : Nat) : R1:=match am6 tb T with
 | some (_,pl,_)=>(match bE6 f pl with
  | some off=>(match opo s x with
   | some (.box b c)=>.v (.box b (c + off)) (l8 x) [] (an1 P T f off)
   | some (.elp b sz i j)=>.v (.elp b sz i (j + off)) (l8 x) [] (an1 P T f off)
   | some (.rp z w j)=>.v (.rp z w (j + off)) (l8 x) [] (an1 P T f off)
   | _=>.no)
  | none=>.no)
 | none=>.no
def bM2 (tb : Tab) (P : Program) (b c T : Nat) (cells : List AV) (lk : List Nat) : R1:=match am6 tb T with
 | none=>(match aA1 c cells with
  | some v=>.v v lk [b] (X5 P T)
  | none=>.no)
 | some (n,_,_)=>(match aM1 c cells with
  | some r=>(match az3 n r with
   | some l=>.v (.agg l) lk [b] (am9 P T n)
   | none=>.no)
  | none=>.no)
def bH2 (tb : Tab) (P : Program) (z : Fl) (w : AV) (j T : Nat) (lk : List Nat) : R1:=match am6 tb T with
 | none=>(match aA1 j w.leaves with
  | some v=>(match aI8 z v with
   | some u=>.v u lk [] (X5 P T)
   | none=>.no)
  | none=>.no)
 | some (n,_,_)=>(match aM1 j w.leaves with
  | some r=>(match az3 n r with
   | some l=>(match aN5 z l with
    | some m=>.v (.agg m) lk [] (am9 P T n)
    | none=>.no)
   | none=>.no)
  | none=>.no)
def sLd (tb : Tab) (P : Program) (s : S) (T : Nat) (x : Operand) : R1:=match opo s x with
 | some (.box b c)=>(match gB s.bk b with
  | .box _ cells=>bM2 tb P b c T cells (l8 x)
  | _=>.no)
 | some (.rp z w j)=>bH2 tb P z w j T (l8 x)
 | _=>.no
def sSt (P : Program) (s : S) (T : Nat) (p x : Operand) : R1:=match opo s p with
 | some (.box b c)=>(match gB s.bk b with
  | .box t cells=>(match opo s x with
   | some v=>(match aK0 c v.leaves cells with
    | some m=>.st b (.box t m) (l8 p ++ l8 x) [b] (af7 v && ae7 P T v.leaves.length)
    | none=>.no)
   | none=>.no)
  | _=>.no)
 | _=>.no
def aN0 (s : S) (pl : List (Nat×Nat)) : List AV→List (Nat×Operand)→Option (List AV)
 | cells,[]=>some cells
 | cells,(i,x) :: r=>match pl[i]? with
  | some (off,n)=>(match opo s x with
   | some v=>(match Nat.beq v.leaves.length n,af7 v with
    | true,true=>(match aK0 off v.leaves cells with
     | some m=>aN0 s pl m r
     | none=>none)
    | _,_=>none)
   | none=>none)
  | none=>none
def as6 : List Value→Option (List AV)
 | []=>some []
 | v :: r=>match as6 r with
  | some m=>some (.lit v :: m)
  | none=>none
def bI7 (tb : Tab) (s : S) (T : Nat) (parts : Array (Nat×Operand)) : R1:=match am6 tb T with
 | some (_,pl,zs)=>(match as6 zs with
  | some cs=>(match aN0 s pl cs parts.toList with
   | some l=>.v (.agg l) (parts.toList.flatMap fun p=>l8 p.2) [] true
   | none=>.no)
  | none=>.no)
 | none=>.no
def bJ7 (I : List Nat) (P : Program) (s : S) (src dst : Nat) (x : Operand) : R1:=match opo s x with
 | some (.lit (.int _ n))=>(match I.contains dst with
  | true=>.v (.lit (.int .i64 (wrap64 n))) (l8 x) [] (bk5 P src dst .i64)
  | false=>.no)
 | _=>.no
def bG4 (P : Program) (s : S) (c : Call) : R1:=match c with
 | ⟨.builtin .len,⟨[x]⟩,⟨[T]⟩⟩=>(match opo s x with
  | some (.lit (.string u))=>.v (.lit (.int .i64 (u.size : Int))) (l8 x) [] (ag5 P T)
  | _=>.no)
 | _=>.no
def aM0 (tb : Tab) (I : List Nat) (P : Program) (s : S) : Op→R1
 | .move x=>sMv s x
 | .assign x=>sMv s x
 | .binOp op _ x y _=>bM5 s op x y
 | .unOp op _ x=>bN2 s op x
 | .extract x i=>bH4 s x i
 | .nilCheck x=>bG8 s x
 | .fieldAddr T x f=>sFa tb P s T x f
 | .load T x=>sLd tb P s T x
 | .store T p x=>sSt P s T p x
 | .build T parts=>bI7 tb s T parts
 | .convert src dst x=>bJ7 I P s src dst x
 | .call c=>bG4 P s c
 | _=>.no
def aj5 (tb : Tab) (I : List Nat) (P : Program) (nt : Nat) : List Oper→List (Nat×AV)→List (Nat×l9)→List Nm→Bool→List Oper×List (Nat×AV)×List (Nat×l9)×List Nm×Bool
 | [],tm,bk,ns,ck=>([],tm,bk,ns,ck)
 | o :: todo,tm,bk,ns,ck=>match o.guard with
  | some _=>(o :: todo,tm,bk,ns,ck)
  | none=>(match aM0 tb I P ⟨tm,bk⟩ o.op with
   | .no=>(o :: todo,tm,bk,ns,ck)
   | .v x lk tl c=>(match o.dst with
    | some d=>aj5 tb I P nt todo ((d,x) :: tm) bk (⟨some d,[],lk,tl⟩ :: ns) (Nat.blt d nt && (c && ck))
    | none=>(o :: todo,tm,bk,ns,ck))
   | .st b y lk tl c=>(match o.dst with
    | none=>aj5 tb I P nt todo tm ((b,y) :: bk) (⟨none,[b],lk,tl⟩ :: ns) (c && ck)
    | some _=>(o :: todo,tm,bk,ns,ck)))
section
variable {P : Program} {E : C5} {nt : Nat} {s : S} {o : Oper} {d : Nat} {tb : Tab} {I : List Nat}
theorem aE9 : ∀ {l : List Value} {m : List AV},as6 l = some m→l.map .lit = m
 | [],m,h=>by
  have : some [] = some m:=h
  injection this
 | v :: r,m,h=>by
  have h' : (match as6 r with | some m=>some (AV.lit v :: m) | none=>none) = some m:=h
  cases e : as6 r with
  | none=>rw [e] at h';cases h'
  | some k=>rw [e] at h';injection h' with h';subst h';rw [List.map_cons,aE9 e]
theorem bt0 : ∀ (l c : List AV) (o : Nat),o + l.length≤c.length→aD3 c o l = c.take o ++ l ++ c.drop (o + l.length)
 | [],c,o,h=>by show c = _;simp
 | x :: l,c,o,h=>by
  have hl : o < c.length:=by rw [List.length_cons] at h;omega
  show aD3 (c.set o x) (o + 1) l = _
  rw [bt0 l (c.set o x) (o + 1) (by rw [List.length_set];rw [List.length_cons] at h;omega),List.length_cons]
  have e1 : (c.set o x).take (o + 1) = c.take o ++ [x]:=by
   rw [List.take_add_one,List.take_set_of_le (Nat.le_refl _)]
   rw [List.getElem?_set_self (by omega)];rfl
  have e2 : (c.set o x).drop (o + 1 + l.length) = c.drop (o + (l.length + 1)):=by
   rw [List.drop_set_of_lt (by omega),show o + 1 + l.length = o + (l.length + 1) by omega]
  rw [e1,e2,List.append_assoc,List.append_assoc,List.append_assoc];rfl
theorem aR0 {pl : List (Nat×Nat)} : ∀ {parts : List (Nat×Operand)} {c l : List AV},aN0 s pl c parts = some l→as5 s pl c parts = some l
 | [],c,l,h=>h
 | (i,x) :: r,c,l,h=>by
  have h' : (match pl[i]? with
   | some (off,n)=>(match opo s x with
    | some v=>(match Nat.beq v.leaves.length n,af7 v with
     | true,true=>(match aK0 off v.leaves c with
      | some m=>aN0 s pl m r
      | none=>none)
     | _,_=>none)
    | none=>none)
   | none=>none) = some l:=h
  show (match pl[i]? with
   | some (off,n)=>(match Nat.beq (opd s x).leaves.length n,Nat.ble (off + n) c.length,af7 (opd s x) with
    | true,true,true=>as5 s pl (aD3 c off (opd s x).leaves) r
    | _,_,_=>none)
   | none=>none) = some l
  cases e1 : pl[i]? with
  | none=>rw [e1] at h';cases h'
  | some q=>
   obtain ⟨off,n⟩:=q
   rw [e1] at h'
   simp only at h' ⊢
   cases e2 : opo s x with
   | none=>rw [e2] at h';cases h'
   | some v=>
    rw [e2] at h'
    simp only at h'
    rw [H8 e2]
    cases e3 : Nat.beq v.leaves.length n with
    | false=>rw [e3] at h';cases h'
    | true=>
     rw [e3] at h'
     cases e4 : af7 v with
     | false=>rw [e4] at h';cases h'
     | true=>
      rw [e4] at h'
      simp only at h'
      cases e5 : aK0 off v.leaves c with
      | none=>rw [e5] at h';cases h'
      | some m=>
       rw [e5] at h'
       obtain ⟨g1,g2⟩:=aY5 e5
       have hn:=D6 e3
       rw [show Nat.ble (off + n) c.length = true from Nat.ble_eq_true_of_le (by omega)]
       simp only
       rw [bt0 _ _ _ g2,g1]
       exact aR0 h'
theorem bQ3 (ht : az5 P tb) {x : AV} {lk tl : List Nat} {ck : Bool} {op : Op} (h : aM0 tb I P s op = .v x lk tl ck) (hop : o.op = op) (hck : ck = true) (hd : o.dst = some d) (hlt : Nat.blt d nt = true) : s8 P E nt o s ⟨some d,x,[]⟩ lk tl:=by
 cases op <;> unfold aM0 at h
 case move y=>
  simp only at h
  unfold sMv at h
  split at h
  ·rename_i v e;injection h with h1 h2 h3 h4;subst h1 h2 h3;exact mv hop e hd hlt
  ·cases h
 case assign y=>
  simp only at h
  unfold sMv at h
  split at h
  ·rename_i v e;injection h with h1 h2 h3 h4;subst h1 h2 h3;exact asg hop e hd hlt
  ·cases h
 case binOp bo T y z T'=>
  simp only at h
  unfold bM5 at h
  split at h
  ·rename_i u e1
   split at h
   ·rename_i v e2
    have e1:=H8 e1;have e2:=H8 e2
    unfold bx4 at h
    split at h
    ·split at h
     ·split at h
      ·rename_i ek
       obtain ⟨k1,k2⟩:=bl7 ek
       subst k1;subst k2
       cases bo <;> unfold bw6 at h <;> (try cases h)
       ·exact aA4 hop e1 e2 hd hlt
       ·exact aQ7 hop e1 e2 hd hlt
       ·exact cg0 hop e1 e2 hd hlt
       ·exact bV0 hop e1 e2 hd hlt
       ·exact bor hop e1 e2 hd hlt
       ·exact bU7 hop e1 e2 hd hlt
       ·exact eql hop e1 e2 hd hlt
       ·exact neq hop e1 e2 hd hlt
       ·exact lss hop e1 e2 hd hlt
       ·exact leq hop e1 e2 hd hlt
       ·exact gtr hop e1 e2 hd hlt
       ·exact geq hop e1 e2 hd hlt
      ·rename_i ek
       obtain ⟨k1,k2⟩:=bl7 ek
       subst k1;subst k2
       cases bo <;> unfold by1 at h <;> (try cases h)
       ·exact add hop e1 e2 hd hlt
       ·exact sub hop e1 e2 hd hlt
       ·exact mul hop e1 e2 hd hlt
       ·exact bV0 hop e1 e2 hd hlt
       ·exact bor hop e1 e2 hd hlt
       ·exact bU7 hop e1 e2 hd hlt
       ·exact eql hop e1 e2 hd hlt
       ·exact neq hop e1 e2 hd hlt
       ·exact lss hop e1 e2 hd hlt
       ·exact leq hop e1 e2 hd hlt
       ·exact gtr hop e1 e2 hd hlt
       ·exact geq hop e1 e2 hd hlt
      ·cases h
     ·cases h
    ·split at h
     ·cases bo <;> unfold bA1 at h <;> (try cases h)
      ·exact seq hop e1 e2 hd hlt
      ·exact sne hop e1 e2 hd hlt
      ·exact slt hop e1 e2 hd hlt
     ·cases h
    ·cases h
   ·cases h
  ·cases h
 case unOp uo T y=>
  simp only at h
  unfold bN2 at h
  split at h
  ·rename_i b e
   cases uo <;> simp only at h <;> (try cases h)
   exact V4 hop (H8 e) hd hlt
  ·cases h
 case extract y i=>
  simp only at h
  unfold bH4 at h
  split at h
  ·rename_i l e
   split at h
   ·rename_i z e2;injection h with h1 h2 h3 h4;subst h1 h2 h3;exact ext hop (H8 e) (at8 e2) hd hlt
   ·cases h
  ·cases h
 case nilCheck y=>
  simp only at h
  unfold bG8 at h
  split at h
  ·rename_i b c e;injection h with h1 h2 h3 h4;subst h1 h2 h3;exact an3 hop (H8 e) hd hlt
  ·cases h
 case fieldAddr T y f=>
  simp only at h
  unfold sFa at h
  split at h
  ·split at h
   ·rename_i off _
    split at h
    ·rename_i b c e;injection h with h1 h2 h3 h4;subst h1 h2 h3;subst h4;exact y8 off _ hop (H8 e) hck rfl hd hlt
    ·rename_i b sz i j e;injection h with h1 h2 h3 h4;subst h1 h2 h3;subst h4;exact faE off _ hop (H8 e) hck rfl hd hlt
    ·rename_i z w j e;injection h with h1 h2 h3 h4;subst h1 h2 h3;subst h4;exact faR off _ hop (H8 e) hck rfl hd hlt
    ·cases h
   ·cases h
  ·cases h
 case load T y=>
  simp only at h
  unfold sLd at h
  split at h
  ·rename_i b c e
   split at h
   ·rename_i t cells eb
    unfold bM2 at h
    split at h
    ·split at h
     ·rename_i v e2;injection h with h1 h2 h3 h4;subst h1 h2 h3;subst h4;exact B5 hop (H8 e) eb (at8 e2) hck hd hlt
     ·cases h
    ·rename_i n _ _ _
     split at h
     ·rename_i r e2
      split at h
      ·rename_i l e3;injection h with h1 h2 h3 h4;subst h1 h2 h3;subst h4
       obtain ⟨g1,g2⟩:=av1 e3
       exact bU1 n l hop (H8 e) eb (by rw [av8 e2];exact g1) g2 hck hd hlt
      ·cases h
     ·cases h
   ·cases h
  ·rename_i z w j e
   unfold bH2 at h
   split at h
   ·split at h
    ·rename_i v e2
     split at h
     ·rename_i u e3;injection h with h1 h2 h3 h4;subst h1 h2 h3;subst h4;exact ldR u hop (H8 e) (at8 e2) (aK7 e3) hck hd hlt
     ·cases h
    ·cases h
   ·rename_i n _ _ _
    split at h
    ·rename_i r e2
     split at h
     ·rename_i l e3
      split at h
      ·rename_i m e4;injection h with h1 h2 h3 h4;subst h1 h2 h3;subst h4
       obtain ⟨g1,g2⟩:=av1 e3
       exact ce8 n m hop (H8 e) (by rw [av8 e2];exact g1) g2 (aP2 e4) hck hd hlt
      ·cases h
     ·cases h
    ·cases h
  ·cases h
 case store T p y=>
  simp only at h
  unfold sSt at h
  split at h
  ·split at h
   ·split at h
    ·split at h <;> cases h
    ·cases h
   ·cases h
  ·cases h
 case build T parts=>
  simp only at h
  unfold bI7 at h
  split at h
  ·rename_i n pl zs et
   split at h
   ·rename_i cs e1
    split at h
    ·rename_i l e2;injection h with h1 h2 h3 h4;subst h1 h2 h3
     obtain ⟨g1,g2,g3⟩:=aC8 ht et
     have:=aR0 e2
     rw [← aE9 e1] at this
     exact bld pl zs l hop g1 g2 g3 hd hlt this
    ·cases h
   ·cases h
  ·cases h
 case convert src dst y=>
  simp only at h
  unfold bJ7 at h
  split at h
  ·rename_i k n e
   split at h
   ·injection h with h1 h2 h3 h4;subst h1 h2 h3;subst h4;exact bV4 hop (H8 e) hck hd hlt
   ·cases h
  ·cases h
 case call c=>
  simp only at h
  unfold bG4 at h
  split at h
  ·split at h
   ·rename_i u e;injection h with h1 h2 h3 h4;subst h1 h2 h3;subst h4;exact lnT hop (H8 e) hck hd hlt
   ·cases h
  ·cases h
 all_goals (simp only at h;cases h)
theorem bI6 {b : Nat} {y : l9} {lk tl : List Nat} {ck : Bool} {op : Op} (h : aM0 tb I P s op = .st b y lk tl ck) (hop : o.op = op) (hck : ck = true) (hd : o.dst = none) : s8 P E nt o s ⟨none,.junk,[(b,y)]⟩ lk tl:=by
 have key : ∃ T p x,op = .store T p x:=by
  cases op <;> unfold aM0 at h <;> simp only at h
  case store T p x=>exact ⟨T,p,x,rfl⟩
  case move y=>unfold sMv at h;split at h <;> cases h
  case assign y=>unfold sMv at h;split at h <;> cases h
  case binOp bo T y z T'=>
   unfold bM5 at h
   split at h
   ·split at h
    ·unfold bx4 at h
     split at h
     ·split at h
      ·split at h
       ·cases bo <;> unfold bw6 at h <;> cases h
       ·cases bo <;> unfold by1 at h <;> cases h
       ·cases h
      ·cases h
     ·split at h
      ·cases bo <;> unfold bA1 at h <;> cases h
      ·cases h
     ·cases h
    ·cases h
   ·cases h
  case unOp uo T y=>
   unfold bN2 at h
   split at h
   ·cases uo <;> simp only at h <;> cases h
   ·cases h
  case extract y i=>
   unfold bH4 at h
   split at h
   ·split at h <;> cases h
   ·cases h
  case nilCheck y=>unfold bG8 at h;split at h <;> cases h
  case fieldAddr T y f=>
   unfold sFa at h
   split at h
   ·split at h
    ·split at h <;> cases h
    ·cases h
   ·cases h
  case load T y=>
   unfold sLd at h
   split at h
   ·split at h
    ·unfold bM2 at h
     split at h
     ·split at h <;> cases h
     ·split at h
      ·split at h <;> cases h
      ·cases h
    ·cases h
   ·unfold bH2 at h
    split at h
    ·split at h
     ·split at h <;> cases h
     ·cases h
    ·split at h
     ·split at h
      ·split at h <;> cases h
      ·cases h
     ·cases h
   ·cases h
  case build T parts=>
   unfold bI7 at h
   split at h
   ·split at h
    ·split at h <;> cases h
    ·cases h
   ·cases h
  case convert src dst y=>
   unfold bJ7 at h
   split at h
   ·split at h <;> cases h
   ·cases h
  case call c=>
   unfold bG4 at h
   split at h
   ·split at h <;> cases h
   ·cases h
  all_goals cases h
 obtain ⟨T,p,x,rfl⟩:=key
 unfold aM0 at h
 simp only at h
 unfold sSt at h
 split at h
 ·rename_i b' c e1
  split at h
  ·rename_i t cells e2
   split at h
   ·rename_i v e3
    split at h
    ·rename_i m e4
     injection h with h1 h2 h3 h4 h5;subst h1 h2 h3 h4;subst h5
     simp only [Bool.and_eq_true] at hck
     obtain ⟨g1,g2⟩:=aY5 e4
     exact stB v.leaves.length m hop (H8 e1) e3 e2 hck.1 hck.2 (Nat.beq_refl _) (Nat.ble_eq_true_of_le g2) hd g1
    ·cases h
   ·cases h
  ·cases h
 ·cases h
end
section
variable {P : Program} {ops : Array Oper} {Q : Exit→Act→World→Prop} {E : C5} {nt : Nat} {s0 : S} {tb : Tab} {I : List Nat} {G : Prop}
theorem bo7 (ht : az5 P tb) : ∀ {todo : List Oper} {tm : List (Nat×AV)} {bk : List (Nat×l9)} {ns : List Nm} {ck : Bool} {todo' : List Oper} {tm' : List (Nat×AV)} {bk' : List (Nat×l9)} {ns' : List Nm} {ck' : Bool},aj5 tb I P nt todo tm bk ns ck = (todo',tm',bk',ns',ck')→ck' = true→ck = true∧(Wk P ops Q E nt s0 todo' ⟨tm',bk'⟩ ns' G→Wk P ops Q E nt s0 todo ⟨tm,bk⟩ ns G)
 | [],tm,bk,ns,ck,todo',tm',bk',ns',ck',h,hc=>by
  have h' : ([],tm,bk,ns,ck) = (todo',tm',bk',ns',ck'):=h
  simp only [Prod.mk.injEq] at h'
  obtain ⟨rfl,rfl,rfl,rfl,rfl⟩:=h'
  exact ⟨hc,id⟩
 | o :: todo,tm,bk,ns,ck,todo',tm',bk',ns',ck',h,hc=>by
  have stop : (o :: todo,tm,bk,ns,ck) = (todo',tm',bk',ns',ck')→ck = true∧(Wk P ops Q E nt s0 todo' ⟨tm',bk'⟩ ns' G→Wk P ops Q E nt s0 (o :: todo) ⟨tm,bk⟩ ns G):=by
   intro h'
   simp only [Prod.mk.injEq] at h'
   obtain ⟨rfl,rfl,rfl,rfl,rfl⟩:=h'
   exact ⟨hc,id⟩
  rw [aj5] at h
  split at h
  ·exact stop h
  ·rename_i hg
   split at h
   ·exact stop h
   ·rename_i x lk tl c hs
    split at h
    ·rename_i d hd
     obtain ⟨h1,h2⟩:=bo7 ht h hc
     simp only [Bool.and_eq_true] at h1
     exact ⟨h1.2.2,fun k=>kv (gl:=[]) (.no hg) (bQ3 ht hs rfl h1.2.1 hd h1.1) (h2 k)⟩
    ·exact stop h
   ·rename_i b y lk tl c hs
    split at h
    ·rename_i hd
     obtain ⟨h1,h2⟩:=bo7 ht h hc
     simp only [Bool.and_eq_true] at h1
     exact ⟨h1.2,fun k=>ks (gl:=[]) (.no hg) (bI6 hs rfl h1.1 hd) (h2 k)⟩
    ·exact stop h
theorem cf1 (ht : az5 P tb) {todo todo' : List Oper} {tm tm' : List (Nat×AV)} {bk bk' : List (Nat×l9)} {ns ns' : List Nm} {ck : Bool} (h : aj5 tb I P nt todo tm bk ns true = (todo',tm',bk',ns',ck)) (k : Wk P ops Q E nt s0 todo' ⟨tm',bk'⟩ ns' G) (hk : ck = true:=by kernel_rfl) : Wk P ops Q E nt s0 todo ⟨tm,bk⟩ ns G:=(bo7 ht h hk).2 k
end
end Go.Proofs.YtahmbcgolnplgaaGreatA
namespace Go.Proofs.YtahmbcgolnplgaaGreatA
open Go Go.RowKit
theorem oi {α : Type} {c : Prop} [Decidable c] {x y : Option α} {r : α} (h : (if c then x else y) = some r) : c∧x = some r∨¬ c∧y = some r:=by
 by_cases hc : c
 ·rw [if_pos hc] at h;exact .inl ⟨hc,h⟩
 ·rw [if_neg hc] at h;exact .inr ⟨hc,h⟩
def idF : List Nat→Nat→Nat→Option Nat
 | l,far,n=>match l with
  | []=>some far
  | k :: r=>match n with
   | 0=>some k
   | n + 1=>idF r far n
theorem bm7 : ∀ {l : List Nat} {far n k : Nat},idF l far n = some k→mN l far n = k
 | [],far,n,k,h=>by rw [idF] at h;cases h;unfold mN;simp
 | j :: r,far,0,k,h=>by rw [idF] at h;cases h;rfl
 | j :: r,far,n + 1,k,h=>by rw [idF] at h;have:=bm7 h;unfold mN at this ⊢;simpa using this
def aE8 (f : AV→Option AV) : List AV→Option (List AV)
 | []=>some []
 | x :: r=>match f x with
  | some y=>(match aE8 f r with
   | some m=>some (y :: m)
   | none=>none)
  | none=>none
theorem au0 {f : AV→Option AV} {g : AV→AV} (h : ∀ {x y},f x = some y→g x = y) : ∀ {l m : List AV},aE8 f l = some m→l.map g = m
 | [],m,e=>by
  have : some [] = some m:=e
  injection this
 | x :: r,m,e=>by
  have e' : (match f x with | some y=>(match aE8 f r with | some m=>some (y :: m) | none=>none) | none=>none) = some m:=e
  cases e1 : f x with
  | none=>rw [e1] at e';cases e'
  | some y=>
   rw [e1] at e'
   cases e2 : aE8 f r with
   | none=>simp only [e2] at e';cases e'
   | some k=>
    simp only [e2] at e';injection e' with e';subst e'
    rw [List.map_cons,h e1,au0 h e2]
def aZ7 (up : Fl) (ids : List Nat) (far : Nat) : AV→Option AV
 | .lit v=>some (.lit v)
 | .row b=>(match idF ids far b with
  | some k=>some (.row k)
  | none=>none)
 | .box b o=>(match idF ids far b with
  | some k=>some (.box k o)
  | none=>none)
 | .sl z sz xs=>(match z with
  | .u=>some (.sl up sz xs)
  | .n=>some (.sl .n sz xs)
  | .o=>some .junk)
 | .rp z x j=>(match z with
  | .u=>some (.rp up x j)
  | .n=>some (.rp .n x j)
  | .o=>some .junk)
 | .sub b sz lo n=>(match idF ids far b with
  | some k=>some (.sub k sz lo n)
  | none=>none)
 | .elp b sz i j=>(match idF ids far b with
  | some k=>some (.elp k sz i j)
  | none=>none)
 | x=>some x
theorem br8 {up : Fl} {ids : List Nat} {far : Nat} {x y : AV} (h : aZ7 up ids far x = some y) : ae5 up (mN ids far) x = y:=by
 have key : ∀ {b : Nat} {g : Nat→AV},(match idF ids far b with | some k=>some (g k) | none=>none) = some y→g (mN ids far b) = y:=by
  intro b g e
  cases e1 : idF ids far b with
  | none=>rw [e1] at e;cases e
  | some k=>rw [e1] at e;injection e with e;rw [bm7 e1];exact e
 cases x <;> simp only [aZ7] at h
 case row b=>exact key (g:=fun k=>.row k) h
 case box b o=>exact key (g:=fun k=>.box k o) h
 case sub b sz lo n=>exact key (g:=fun k=>.sub k sz lo n) h
 case elp b sz i j=>exact key (g:=fun k=>.elp k sz i j) h
 case sl z sz xs=>cases z <;> (injection h)
 case rp z x j=>cases z <;> (injection h)
 all_goals (injection h)
def m1F (f : AV→Option AV) (x : AV) : Option AV:=match x with
 | .agg l=>(match aE8 f l with
  | some m=>some (.agg m)
  | none=>none)
 | y=>f y
def m2F (f : AV→Option AV) (x : AV) : Option AV:=match x with
 | .fn g caps=>(match aE8 (m1F f) caps with
  | some m=>some (.fn g m)
  | none=>none)
 | y=>f y
def m3F (f : AV→Option AV) (x : AV) : Option AV:=match x with
 | .agg l=>(match aE8 (m2F f) l with
  | some m=>some (.agg m)
  | none=>none)
 | y=>m2F f y
def m4F (f : AV→Option AV) (x : AV) : Option AV:=match x with
 | .tup l=>(match aE8 (m3F f) l with
  | some m=>some (.tup m)
  | none=>none)
 | y=>m3F f y
section
variable {f : AV→Option AV} {g : AV→AV} (hf : ∀ {x y},f x = some y→g x = y)
include hf
theorem bT2 {x y : AV} (h : m1F f x = some y) : mp1 g x = y:=by
 unfold m1F at h
 split at h
 ·split at h
  ·rename_i e;injection h with h;subst h;show AV.agg _ = _;rw [au0 hf e]
  ·cases h
 ·rename_i hx
  unfold mp1
  split
  ·exact absurd rfl (hx _)
  ·exact hf h
theorem bi5 {x y : AV} (h : m2F f x = some y) : mp2 g x = y:=by
 unfold m2F at h
 split at h
 ·split at h
  ·rename_i e;injection h with h;subst h;show AV.fn _ _ = _;rw [au0 (fun h=>bT2 hf h) e]
  ·cases h
 ·rename_i hx
  unfold mp2
  split
  ·exact absurd rfl (hx _ _)
  ·exact hf h
theorem bF1 {x y : AV} (h : m3F f x = some y) : mp3 g x = y:=by
 unfold m3F at h
 split at h
 ·split at h
  ·rename_i e;injection h with h;subst h;show AV.agg _ = _;rw [au0 (fun h=>bi5 hf h) e]
  ·cases h
 ·rename_i hx
  unfold mp3
  split
  ·exact absurd rfl (hx _)
  ·exact bi5 hf h
theorem bV9 {x y : AV} (h : m4F f x = some y) : mp4 g x = y:=by
 unfold m4F at h
 split at h
 ·split at h
  ·rename_i e;injection h with h;subst h;show AV.tup _ = _;rw [au0 (fun h=>bF1 hf h) e]
  ·cases h
 ·rename_i hx
  unfold mp4
  split
  ·exact absurd rfl (hx _)
  ·exact bF1 hf h
end
def bj9 (f : AV→Option AV) (x : l9) : Option l9:=match x with
 | .box t l=>(match aE8 (m2F f) l with
  | some m=>some (.box t m)
  | none=>none)
 | .row e sz xs=>some (.row e sz xs)
 | .drow op ds e sz xs=>(match op with
  | true=>some .gone
  | false=>some (.drow false ds e sz xs))
 | y=>some y
theorem bQ4 {f : AV→Option AV} {g : AV→AV} (hf : ∀ {x y},f x = some y→g x = y) {x y : l9} (h : bj9 f x = some y) : mpB g x = y:=by
 cases x <;> simp only [bj9] at h
 case box t l=>
  split at h
  ·rename_i e;injection h with h;subst h;show l9.box _ _ = _;rw [au0 (fun h=>bi5 hf h) e]
  ·cases h
 case drow op ds e sz xs=>cases op <;> (injection h)
 all_goals (injection h)
def az0 (f : AV→Option AV) (ids : List Nat) (far : Nat) : List (Nat×l9)→Option (List (Nat×l9))
 | []=>some []
 | (i,b) :: r=>match idF ids far i with
  | some k=>(match bj9 f b with
   | some y=>(match az0 f ids far r with
    | some m=>some ((k,y) :: m)
    | none=>none)
   | none=>none)
  | none=>none
theorem bo1 {f : AV→Option AV} {g : AV→AV} (hf : ∀ {x y},f x = some y→g x = y) {ids : List Nat} {far : Nat} : ∀ {l m : List (Nat×l9)},az0 f ids far l = some m→l.map (fun p=>(mN ids far p.1,mpB g p.2)) = m
 | [],m,h=>by
  have : some [] = some m:=h
  injection this
 | (i,b) :: r,m,h=>by
  have h' : (match idF ids far i with | some k=>(match bj9 f b with | some y=>(match az0 f ids far r with | some m=>some ((k,y) :: m) | none=>none) | none=>none) | none=>none) = some m:=h
  cases e1 : idF ids far i with
  | none=>rw [e1] at h';cases h'
  | some k=>
   rw [e1] at h'
   cases e2 : bj9 f b with
   | none=>simp only [e2] at h';cases h'
   | some y=>
    simp only [e2] at h'
    cases e3 : az0 f ids far r with
    | none=>simp only [e3] at h';cases h'
    | some n=>
     simp only [e3] at h';injection h' with h';subst h'
     rw [List.map_cons,bm7 e1,bQ4 hf e2,bo1 hf e3]
def bn1 : List (Nat×l9)→List (Nat×l9)→Option (List (Nat×l9))
 | [],b=>some b
 | u :: r,b=>match bn1 r b with
  | some m=>some (u :: m)
  | none=>none
theorem bt6 : ∀ {u b m : List (Nat×l9)},bn1 u b = some m→u ++ b = m
 | [],b,m,h=>by
  have : some b = some m:=h
  injection this
 | x :: r,b,m,h=>by
  have h' : (match bn1 r b with | some m=>some (x :: m) | none=>none) = some m:=h
  cases e : bn1 r b with
  | none=>rw [e] at h';cases h'
  | some k=>rw [e] at h';injection h' with h';subst h';rw [List.cons_append,bt6 e]
def bz5 (d : Option Nat) (x : AV) (u : List (Nat×l9)) (tm : List (Nat×AV)) (bk : List (Nat×l9)) : Option (List (Nat×AV)×List (Nat×l9)):=match bn1 u bk with
 | some m=>(match d with
  | some d=>some ((d,x) :: tm,m)
  | none=>some (tm,m))
 | none=>none
theorem bR5 {d : Option Nat} {x : AV} {u : List (Nat×l9)} {tm tm' : List (Nat×AV)} {bk bk' : List (Nat×l9)} (h : bz5 d x u tm bk = some (tm',bk')) : bz2 tm d x = tm'∧u ++ bk = bk':=by
 unfold bz5 at h
 split at h
 ·rename_i e
  cases d <;> (injection h with h;injection h with h1 h2;exact ⟨h1,(bt6 e).trans h2⟩)
 ·cases h
class Fx (P : Program) (f : FuncId) : Prop where
 h : ∃ fn,P.funcs[f]? = some fn∧(fn.name == "runtime.NumGoroutine") = false∧fn.body.isSome = true
section
variable {P : Program} {ops : Array Oper} {Q : Exit→Act→World→Prop} {E : C5} {nt : Nat} {s0 : S} {tm tm' : List (Nat×AV)} {bk bk' : List (Nat×l9)} {todo : List Oper} {o : Oper} {ns : List Nm} {G : Prop}
theorem cd0 {s : S} {f : FuncId} {pre post ups : List (Nat×l9)} {args : List AV} {res x : AV} {as : Array Operand} {ts : Array TypeId} {cf : Operand} {caps : List AV} {dd : Option Nat} (hc : j7 P f pre args post res) (ids : List Nat) (up : Fl:=.n) [hf : Fx P f]
 (hop : o.op = .call { callee:=.value cf,args:=as,argTypes:=ts }:=by rfl) (hcf : opd s cf = .fn f caps:=by rfl) (hd : o.dst = dd:=by rfl) (hlt : (match dd with | some e=>Nat.blt e nt | none=>true) = true:=by rfl)
 (hargs : ar7 (vw3 s (ids.take pre.length) up) args (as.toList.map (opd s) ++ caps) = args.map (aA9 (mN ids 9999)):=by rfl) (hnt : (as.toList.map (opd s) ++ caps).all aB4 = true:=by rfl) (hna : args.all aB4 = true:=by rfl) (hpre : aS4 s (ids.take pre.length) up (mN ids 9999) pre:=by (repeat (first | exact trivial | refine ⟨rfl,?_⟩)))
 (hfar : gB s.bk 9999 = .fresh:=by rfl) (hfar2 : ids.contains 9999 = false:=by rfl) (hkp : ao9 0 pre = true:=by rfl) (hkq : ao9 0 post = true:=by rfl) (hlen : Nat.beq ids.length post.length = true:=by rfl) (hle : Nat.ble pre.length post.length = true:=by rfl) (hnd : Q0 ids = true:=by rfl) (hnew : av6 s (ids.drop pre.length):=by (repeat (first | exact trivial | refine ⟨rfl,?_⟩))) (hnp : X4 pre = true:=by rfl) (hnq : X4 post = true:=by rfl)
 (hx : m4F (aZ7 up ids 9999) res = some x:=by rfl) (hu : az0 (aZ7 up ids 9999) ids 9999 post = some ups:=by rfl) :
 Owp P Q E nt o s ⟨dd,x,ups⟩ (l8 cf ++ as.toList.flatMap l8) (9999 :: ids ++ ((as.toList.map (opd s) ++ caps).flatMap aM4 ++ (ids.take pre.length).flatMap (fun b=>bg2 (gB s.bk b)))):=by
 obtain ⟨fn,h1,h2,h3⟩:=hf.h
 have:=bH7 (P:=P) (Q:=Q) (E:=E) (nt:=nt) (o:=o) ids 9999 up hc hop hcf h1 h2 h3 hd (fun e he=>by subst he;exact hlt) hargs hnt hna hpre hfar hfar2 hkp hkq hlen hle hnd hnew hnp hnq
 rw [bV9 (fun h=>br8 h) hx,bo1 (fun h=>br8 h) hu] at this
 exact this
def Owq (P : Program) (Q : Exit→Act→World→Prop) (E : C5) (nt : Nat) (o : Oper) (tm : List (Nat×AV)) (bk : List (Nat×l9)) (tm' : List (Nat×AV)) (bk' : List (Nat×l9)) (d : Option Nat) (us lk tl : List Nat) : Prop:=∃ x ups,Owp P Q E nt o ⟨tm,bk⟩ ⟨d,x,ups⟩ lk tl∧bz5 d x ups tm bk = some (tm',bk')∧ups.map (·.1) = us
theorem cl {f : FuncId} {pre post ups : List (Nat×l9)} {args : List AV} {res x : AV} {as : Array Operand} {ts : Array TypeId} {cf : Operand} {caps : List AV} {dd : Option Nat} (hc : j7 P f pre args post res) (ids : List Nat) (up : Fl:=.n) [hf : Fx P f]
 (hop : o.op = .call { callee:=.value cf,args:=as,argTypes:=ts }:=by rfl) (hcf : opd ⟨tm,bk⟩ cf = .fn f caps:=by rfl) (hd : o.dst = dd:=by rfl) (hlt : (match dd with | some e=>Nat.blt e nt | none=>true) = true:=by rfl)
 (hargs : ar7 (vw3 ⟨tm,bk⟩ (ids.take pre.length) up) args (as.toList.map (opd ⟨tm,bk⟩) ++ caps) = args.map (aA9 (mN ids 9999)):=by rfl) (hnt : (as.toList.map (opd ⟨tm,bk⟩) ++ caps).all aB4 = true:=by rfl) (hna : args.all aB4 = true:=by rfl) (hpre : aS4 ⟨tm,bk⟩ (ids.take pre.length) up (mN ids 9999) pre:=by (repeat (first | exact trivial | refine ⟨rfl,?_⟩)))
 (hfar : gB bk 9999 = .fresh:=by rfl) (hfar2 : ids.contains 9999 = false:=by rfl) (hkp : ao9 0 pre = true:=by rfl) (hkq : ao9 0 post = true:=by rfl) (hlen : Nat.beq ids.length post.length = true:=by rfl) (hle : Nat.ble pre.length post.length = true:=by rfl) (hnd : Q0 ids = true:=by rfl) (hnew : av6 ⟨tm,bk⟩ (ids.drop pre.length):=by (repeat (first | exact trivial | refine ⟨rfl,?_⟩))) (hnp : X4 pre = true:=by rfl) (hnq : X4 post = true:=by rfl)
 (hx : m4F (aZ7 up ids 9999) res = some x:=by rfl) (hu : az0 (aZ7 up ids 9999) ids 9999 post = some ups:=by rfl) (hs : bz5 dd x ups tm bk = some (tm',bk'):=by rfl) :
 Owq P Q E nt o tm bk tm' bk' dd (ups.map (·.1)) (l8 cf ++ as.toList.flatMap l8) (9999 :: ids ++ ((as.toList.map (opd ⟨tm,bk⟩) ++ caps).flatMap aM4 ++ (ids.take pre.length).flatMap (fun b=>bg2 (gB bk b)))):=
 ⟨x,ups,cd0 (s:=⟨tm,bk⟩) hc ids up hop hcf hd hlt hargs hnt hna hpre hfar hfar2 hkp hkq hlen hle hnd hnew hnp hnq hx hu,hs,rfl⟩
theorem N5 {d : Option Nat} {us lk gl tl : List Nat} (hg : Gd ops nt tm o gl) (hok : Owq P Q E nt o tm bk tm' bk' d us lk tl) (h : Wk P ops Q E nt s0 todo ⟨tm',bk'⟩ (⟨d,us,gl ++ lk,tl⟩ :: ns) G) : Wk P ops Q E nt s0 (o :: todo) ⟨tm,bk⟩ ns G:=by
 obtain ⟨x,ups,h0,hs,h3⟩:=hok
 obtain ⟨h1,h2⟩:=bR5 hs
 subst h1 h2 h3
 exact cb1 hg h0 rfl h
theorem kC {d : Option Nat} {us lk tl : List Nat} (hok : Owq P Q E nt o tm bk tm' bk' d us lk tl) (h : Wk P ops Q E nt s0 todo ⟨tm',bk'⟩ (⟨d,us,lk,tl⟩ :: ns) G) (hg : o.guard = none:=by rfl) : Wk P ops Q E nt s0 (o :: todo) ⟨tm,bk⟩ ns G:=N5 (gl:=[]) (.no hg) hok h
theorem k0 {d : Nat} {x : AV} {lk tl : List Nat} (hok : s8 P E nt o ⟨tm,bk⟩ ⟨some d,x,[]⟩ lk tl) (h : Wk P ops Q E nt s0 todo ⟨(d,x) :: tm,bk⟩ (⟨some d,[],lk,tl⟩ :: ns) G) (hg : o.guard = none:=by rfl) : Wk P ops Q E nt s0 (o :: todo) ⟨tm,bk⟩ ns G:=kv (gl:=[]) (.no hg) hok h
theorem k1 {d b : Nat} {x : AV} {y : l9} {lk tl : List Nat} (hok : s8 P E nt o ⟨tm,bk⟩ ⟨some d,x,[(b,y)]⟩ lk tl) (h : Wk P ops Q E nt s0 todo ⟨(d,x) :: tm,(b,y) :: bk⟩ (⟨some d,[b],lk,tl⟩ :: ns) G) (hg : o.guard = none:=by rfl) : Wk P ops Q E nt s0 (o :: todo) ⟨tm,bk⟩ ns G:=kb (gl:=[]) (.no hg) hok h
theorem k2 {b : Nat} {y : l9} {lk tl : List Nat} (hok : s8 P E nt o ⟨tm,bk⟩ ⟨none,.junk,[(b,y)]⟩ lk tl) (h : Wk P ops Q E nt s0 todo ⟨tm,(b,y) :: bk⟩ (⟨none,[b],lk,tl⟩ :: ns) G) (hg : o.guard = none:=by rfl) : Wk P ops Q E nt s0 (o :: todo) ⟨tm,bk⟩ ns G:=ks (gl:=[]) (.no hg) hok h
theorem k3 {d b c : Nat} {x : AV} {y z : l9} {lk tl : List Nat} (hok : s8 P E nt o ⟨tm,bk⟩ ⟨some d,x,[(b,y),(c,z)]⟩ lk tl) (h : Wk P ops Q E nt s0 todo ⟨(d,x) :: tm,(b,y) :: (c,z) :: bk⟩ (⟨some d,[b,c],lk,tl⟩ :: ns) G) (hg : o.guard = none:=by rfl) : Wk P ops Q E nt s0 (o :: todo) ⟨tm,bk⟩ ns G:=kc (gl:=[]) (.no hg) hok h
end
class Zo (α : Type) where
 z : α
instance : Zo Int:=⟨0⟩
instance : Zo Bool:=⟨false⟩
instance : Zo ByteArray:=⟨ByteArray.empty⟩
instance {α : Type} : Zo (List α):=⟨[]⟩
def aT0 (P : Program) (T sz : Nat) : Bool:=match P.underlying T with
 | some (.slice e)=>ae7 P e sz
 | _=>false
theorem bk4 {P : Program} {T sz : Nat} (h : aT0 P T sz = true) : ∃ e,O2 P T e sz = true:=by
 unfold aT0 at h
 split at h
 ·rename_i e hu;exact ⟨e,by unfold O2;rw [hu];simp [h]⟩
 ·cases h
section
variable {P : Program} {E : C5} {nt : Nat} {s : S} {o : Oper} {d : Nat} {T : TypeId} {x y : Operand}
theorem iS {α : Type} [Zo α] {sz : Nat} {z : Fl} {l : List α} {f : α→AV} {k : IntKind} {i : Int} (h0 : 0≤i) (h1 : i < (l.length : Int)) (hop : o.op = .indexAddr T x y:=by rfl) (hx : opd s x = .sl z sz (l.map f):=by rfl) (hy : opd s y = .lit (.int k i):=by rfl) (hT : aT0 P T sz = true:=by kernel_rfl) (hd : o.dst = some d:=by rfl) (hlt : Nat.blt d nt = true:=by rfl) : s8 P E nt o s ⟨some d,.rp z (f (M0 Zo.z l i)) 0,[]⟩ (l8 x ++ l8 y) []:=by
 obtain ⟨e,he⟩:=bk4 hT
 exact ixS e _ h0 (ab9 (z:=Zo.z) h0 h1) hop hx hy he hd hlt
theorem iR {α : Type} {b e sz : Nat} {l : List α} {f : α→AV} {k : IntKind} {i : Int} (h0 : 0≤i) (h1 : i < (l.length : Int)) (hop : o.op = .indexAddr T x y:=by rfl) (hx : opd s x = .row b:=by rfl) (hb : gB s.bk b = .row e sz (l.map f):=by rfl) (hy : opd s y = .lit (.int k i):=by rfl) (hT : aT0 P T sz = true:=by kernel_rfl) (hd : o.dst = some d:=by rfl) (hlt : Nat.blt d nt = true:=by rfl) : s8 P E nt o s ⟨some d,.elp b sz i.toNat 0,[]⟩ (l8 x ++ l8 y) [b]:=by
 obtain ⟨e,he⟩:=bk4 hT
 exact ixR e h0 (ltE h1) hop hx hb hy he hd hlt
theorem qL {α : Type} [Zo α] {b e sz j : Nat} {l : List α} {f : α→AV} {v0 v : AV} {i : Int} (h0 : 0≤i) (h1 : i < (l.length : Int)) (hop : o.op = .load T x:=by rfl) (hx : opd s x = .elp b sz i.toNat j:=by rfl) (hb : gB s.bk b = .row e sz (l.map f):=by rfl) (hv : aA1 j (f (M0 Zo.z l i)).leaves = some v0:=by rfl) (hi : aI8 .n v0 = some v:=by rfl) (hT : X5 P T = true:=by kernel_rfl) (hd : o.dst = some d:=by rfl) (hlt : Nat.blt d nt = true:=by rfl) : s8 P E nt o s ⟨some d,v,[]⟩ (l8 x) [b]:=
 ldE _ v (ab9 (z:=Zo.z) h0 h1) hop hx hb (at8 hv) (aK7 hi) hT hd hlt
theorem qA {α : Type} [Zo α] {b e sz j : Nat} {l : List α} {f : α→AV} {l1 l2 l3 : List AV} {i : Int} (n : Nat) (h0 : 0≤i) (h1 : i < (l.length : Int)) (hop : o.op = .load T x:=by rfl) (hx : opd s x = .elp b sz i.toNat j:=by rfl) (hb : gB s.bk b = .row e sz (l.map f):=by rfl) (hv : aM1 j (f (M0 Zo.z l i)).leaves = some l1:=by rfl) (hv2 : az3 n l1 = some l2:=by rfl) (hi : aN5 .n l2 = some l3:=by rfl) (hT : am9 P T n = true:=by kernel_rfl) (hd : o.dst = some d:=by rfl) (hlt : Nat.blt d nt = true:=by rfl) : s8 P E nt o s ⟨some d,.agg l3,[]⟩ (l8 x) [b]:=by
 obtain ⟨g1,g2⟩:=av1 hv2
 exact bV6 n _ l3 (ab9 (z:=Zo.z) h0 h1) hop hx hb (by have e:=av8 hv;unfold M0 at e;rw [e];exact g1) g2 (aP2 hi) hT hd hlt
theorem bA {b c t : Nat} {cells l1 l2 : List AV} (n : Nat) (hop : o.op = .load T x:=by rfl) (hx : opd s x = .box b c:=by rfl) (hb : gB s.bk b = .box t cells:=by rfl) (hv : aM1 c cells = some l1:=by rfl) (hv2 : az3 n l1 = some l2:=by rfl) (hT : am9 P T n = true:=by kernel_rfl) (hd : o.dst = some d:=by rfl) (hlt : Nat.blt d nt = true:=by rfl) : s8 P E nt o s ⟨some d,.agg l2,[]⟩ (l8 x) [b]:=by
 obtain ⟨g1,g2⟩:=av1 hv2
 exact bU1 n l2 hop hx hb (by rw [av8 hv];exact g1) g2 hT hd hlt
theorem pL {j : Nat} {z : Fl} {w v0 v : AV} (hop : o.op = .load T x:=by rfl) (hx : opd s x = .rp z w j:=by rfl) (hv : aA1 j w.leaves = some v0:=by rfl) (hi : aI8 z v0 = some v:=by rfl) (hT : X5 P T = true:=by kernel_rfl) (hd : o.dst = some d:=by rfl) (hlt : Nat.blt d nt = true:=by rfl) : s8 P E nt o s ⟨some d,v,[]⟩ (l8 x) []:=ldR v hop hx (at8 hv) (aK7 hi) hT hd hlt
theorem alT {tb : Tab} (ht : az5 P tb) {n : Nat} {pl : List (Nat×Nat)} {zs : List Value} {cells : List AV} (nb : Nat) (hop : o.op = .alloc T:=by rfl) (hz : am6 tb T = some (n,pl,zs):=by rfl) (hc : as6 zs = some cells:=by rfl) (hnb : gB s.bk nb = .fresh:=by rfl) (hd : o.dst = some d:=by rfl) (hlt : Nat.blt d nt = true:=by rfl) : s8 P E nt o s ⟨some d,.box nb 0,[(nb,.box T cells)]⟩ [] [nb]:=by
 obtain ⟨g1,g2,_⟩:=aC8 ht hz
 exact alc nb zs cells (aE9 hc) hop hnb g1 g2 hd hlt
theorem bdT {tb : Tab} (ht : az5 P tb) {parts : Array (Nat×Operand)} {n : Nat} {pl : List (Nat×Nat)} {zs : List Value} {cs l : List AV} (hop : o.op = .build T parts:=by rfl) (hz : am6 tb T = some (n,pl,zs):=by rfl) (hc : as6 zs = some cs:=by rfl) (hl : aN0 s pl cs parts.toList = some l:=by rfl) (hd : o.dst = some d:=by rfl) (hlt : Nat.blt d nt = true:=by rfl) : s8 P E nt o s ⟨some d,.agg l,[]⟩ (parts.toList.flatMap fun p=>l8 p.2) []:=by
 obtain ⟨g1,g2,g3⟩:=aC8 ht hz
 have:=aR0 hl
 rw [← aE9 hc] at this
 exact bld pl zs l hop g1 g2 g3 hd hlt this
end
section
variable {P : Program} {Q : Exit→Act→World→Prop} {E : C5} {nt : Nat} {s : S}
theorem iT {c : Operand} {x y : Code} {t : Bool} (ht : t = true) (h : AW E nt P x Q s) (hc : opd s c = .lit (.bool t):=by rfl) : AW E nt P (.cond c x y) Q s:=bX0 h ht hc
theorem iF {c : Operand} {x y : Code} {t : Bool} (ht : t = false) (h : AW E nt P y Q s) (hc : opd s c = .lit (.bool t):=by rfl) : AW E nt P (.cond c x y) Q s:=bX1 h ht hc
def lkD : List (Nat×Nat)→Nat→Nat
 | [],b=>b
 | (i,j) :: r,b=>match Nat.beq b i with
  | true=>j
  | false=>lkD r b
def idm (d : List (Nat×Nat)) : List (Nat×l9)→List (Nat×Nat)
 | []=>[]
 | (i,_) :: r=>(i,lkD d i) :: idm d r
theorem aw {s' : S} {K : Act→World→Prop} {ni : Nat} (hE : ∀ b v,E.ρ0 b = some v→b < ni) (m : List (Nat×Nat)) (h : m9 E nt s' K) (hT : aV8 s (lkN 9999 (idm m s'.bk)) s'.tm:=by (repeat (first | exact trivial | refine ⟨rfl,?_⟩))) (hB : as8 s (lkN 9999 (idm m s'.bk)) s'.bk:=by (repeat (first | exact trivial | refine ⟨rfl,?_⟩ | refine ⟨cc2.symm,?_⟩ | refine ⟨ce9.symm,?_⟩ | refine bR4 ?_)))
 (hfar : gB s.bk 9999 = .fresh:=by rfl) (hdom : (idm m s'.bk).map (·.1) = s'.bk.map (·.1):=by rfl) (hnd : Q0 ((idm m s'.bk).map (·.2)) = true:=by rfl) (hnf : X4 s'.bk = true:=by rfl) (hid : idN ni (idm m s'.bk) = true:=by rfl) (hndk : Q0 ((idm m s'.bk).map (·.1)) = true:=by rfl) : m9 E nt s K:=
 bS2 hE (idm m s'.bk) 9999 hT hB h hfar hdom hnd hnf hid hndk
theorem rt {fn : Func} {post : List (Nat×l9)} {res : AV} {ni : Nat} (hE : ∀ b v,E.ρ0 b = some v→b < ni) (m : List (Nat×Nat)) {rs : List ResultVar} {l : List AV} {x : AV}
 (hres : fn.results = rs.toArray:=by rfl) (hr : Rs P s rs l:=by (repeat (first | exact Rs.nil | apply Rs.tmp | apply rc1))) (hv : Rv l x:=by (first | exact .one _ | exact .none | exact .many _ _ _)) (hl : l.all af7 = true:=by rfl) (hx : x = aH3 (lkN 9999 (idm m post)) res:=by rfl) (hB : as8 s (lkN 9999 (idm m post)) post:=by (repeat (first | exact trivial | refine ⟨rfl,?_⟩)))
 (hfar : gB s.bk 9999 = .fresh:=by rfl) (hdom : (idm m post).map (·.1) = post.map (·.1):=by rfl) (hnd : Q0 ((idm m post).map (·.2)) = true:=by rfl) (hnf : X4 post = true:=by rfl) (hid : idN ni (idm m post) = true:=by rfl) (hndk : Q0 ((idm m post).map (·.1)) = true:=by rfl) :
 m9 E nt s (bodyPost P fn (aI3 E post res) .ret):=
 bW8 hE hres hr hv hl (idm m post) 9999 hx hB hfar hdom hnd hnf hid hndk
end
theorem u3 {P : Program} {f : FuncId} {fn : Func} {c : Code} {pre post : List (Nat×l9)} {args : List AV} {res : AV} (nt : Nat) (hf : P.funcs[f]? = some fn) (h : ∀ E : C5,(∀ b v,E.ρ0 b = some v→b < pre.length)→AW E nt P c (bodyPost P fn (aI3 E post res)) ⟨aE5 0 args,pre⟩) (hb : fn.body = some c:=by rfl) (hnt : fn.ntmps = nt:=by rfl) (hle : Nat.ble args.length nt = true:=by rfl) : j7 P f pre args post res:=bT7 hf hb hnt (Nat.le_of_ble_eq_true hle) h
end Go.Proofs.YtahmbcgolnplgaaGreatA
namespace Go.Proofs.YtahmbcgolnplgaaGreatA
open Go Go.RowKit
section
variable {P : Program} {Q : Exit→Act→World→Prop} {E : C5} {nt : Nat} {s : S} {β : Type} {r : β} {c : Code}
structure Jc0 (E : C5) (nt : Nat) (r : β) (k0 : Nat) (F : Nat→Option β) (S' : S) (K : Act→World→Prop) : Prop where
 u : ∀ {k : Nat},k≤k0→F k = some r→m9 E nt (S') K
theorem jc0 {F : Nat→Option β} {S' : S} {k0 : Nat} {K : Act→World→Prop} {G : Nat→Option β} (he : ∀ (k : Nat),F (k + 1) = G k) (h : ∀ (k : Nat),k < k0→G k = some r→m9 E nt (S') K) (hz : F 0 = none:=by intros;rfl) : Jc0 E nt r k0 F S' K:=by
 refine ⟨fun {k} hk H=>?_⟩
 cases k with
 | zero=>rw [hz] at H;cases H
 | succ k=>exact h k hk (by rw [← he];exact H)
theorem lp1 {ι0 : Type} (F : Nat→ι0→Option β) (S' : ι0→S) {k0 : Nat} {p0 : ι0} (hk : F k0 p0 = some r) (h0 : ∀ K,m9 E nt (S' p0) K→m9 E nt s K) {G : Nat→ι0→Option β} (he : ∀ (k : Nat) (p0 : ι0),F (k + 1) p0 = G k p0)
 (hround : ∀ (k : Nat) (p0 : ι0),k < k0→G k p0 = some r→∀ K,(∀ {k' : Nat} {p0 : ι0},k'≤k→F k' p0 = some r→m9 E nt (S' p0) K)→AW E nt P c (Exit.then K Q) (S' p0)) (hz : ∀ (p0 : ι0),F 0 p0 = none:=by intros;rfl) : AW E nt P (.loop c) Q s:=
 bI3 (fun (k : Nat) (p0 : ι0)=>k≤k0∧F k p0 = some r) S' k0 p0 ⟨Nat.le_refl _,hk⟩ h0 (fun p0=>fun h=>by have h1:=h.2;rw [hz p0] at h1;cases h1)
  (fun k p0 h K hK=>hround k p0 h.1 (by rw [← he];exact h.2) K (fun {k' p0} hk' h'=>hK k' p0 hk' ⟨by have:=h.1;omega,h'⟩))
structure Jc1 (E : C5) (nt : Nat) (r : β) (k0 : Nat) {ι0 : Type} (F : Nat→ι0→Option β) (S' : ι0→S) (K : Act→World→Prop) : Prop where
 u : ∀ {k : Nat} {p0 : ι0},k≤k0→F k p0 = some r→m9 E nt (S' p0) K
theorem jc1 {ι0 : Type} {F : Nat→ι0→Option β} {S' : ι0→S} {k0 : Nat} {K : Act→World→Prop} {G : Nat→ι0→Option β} (he : ∀ (k : Nat) (p0 : ι0),F (k + 1) p0 = G k p0) (h : ∀ (k : Nat) (p0 : ι0),k < k0→G k p0 = some r→m9 E nt (S' p0) K) (hz : ∀ (p0 : ι0),F 0 p0 = none:=by intros;rfl) : Jc1 E nt r k0 F S' K:=by
 refine ⟨fun {k p0} hk H=>?_⟩
 cases k with
 | zero=>rw [hz p0] at H;cases H
 | succ k=>exact h k p0 hk (by rw [← he];exact H)
theorem V7 {ι0 : Type} {ι1 : Type} (F : Nat→ι0→ι1→Option β) (S' : ι0→ι1→S) {k0 : Nat} {p0 : ι0} {p1 : ι1} (hk : F k0 p0 p1 = some r) (h0 : ∀ K,m9 E nt (S' p0 p1) K→m9 E nt s K) {G : Nat→ι0→ι1→Option β} (he : ∀ (k : Nat) (p0 : ι0) (p1 : ι1),F (k + 1) p0 p1 = G k p0 p1)
 (hround : ∀ (k : Nat) (p0 : ι0) (p1 : ι1),k < k0→G k p0 p1 = some r→∀ K,(∀ {k' : Nat} {p0 : ι0} {p1 : ι1},k'≤k→F k' p0 p1 = some r→m9 E nt (S' p0 p1) K)→AW E nt P c (Exit.then K Q) (S' p0 p1)) (hz : ∀ (p0 : ι0) (p1 : ι1),F 0 p0 p1 = none:=by intros;rfl) : AW E nt P (.loop c) Q s:=
 bI4 (fun (k : Nat) (p0 : ι0) (p1 : ι1)=>k≤k0∧F k p0 p1 = some r) S' k0 p0 p1 ⟨Nat.le_refl _,hk⟩ h0 (fun p0 p1=>fun h=>by have h1:=h.2;rw [hz p0 p1] at h1;cases h1)
  (fun k p0 p1 h K hK=>hround k p0 p1 h.1 (by rw [← he];exact h.2) K (fun {k' p0 p1} hk' h'=>hK k' p0 p1 hk' ⟨by have:=h.1;omega,h'⟩))
structure Jc2 (E : C5) (nt : Nat) (r : β) (k0 : Nat) {ι0 : Type} {ι1 : Type} (F : Nat→ι0→ι1→Option β) (S' : ι0→ι1→S) (K : Act→World→Prop) : Prop where
 u : ∀ {k : Nat} {p0 : ι0} {p1 : ι1},k≤k0→F k p0 p1 = some r→m9 E nt (S' p0 p1) K
theorem jc2 {ι0 : Type} {ι1 : Type} {F : Nat→ι0→ι1→Option β} {S' : ι0→ι1→S} {k0 : Nat} {K : Act→World→Prop} {G : Nat→ι0→ι1→Option β} (he : ∀ (k : Nat) (p0 : ι0) (p1 : ι1),F (k + 1) p0 p1 = G k p0 p1) (h : ∀ (k : Nat) (p0 : ι0) (p1 : ι1),k < k0→G k p0 p1 = some r→m9 E nt (S' p0 p1) K) (hz : ∀ (p0 : ι0) (p1 : ι1),F 0 p0 p1 = none:=by intros;rfl) : Jc2 E nt r k0 F S' K:=by
 refine ⟨fun {k p0 p1} hk H=>?_⟩
 cases k with
 | zero=>rw [hz p0 p1] at H;cases H
 | succ k=>exact h k p0 p1 hk (by rw [← he];exact H)
theorem lp3 {ι0 : Type} {ι1 : Type} {ι2 : Type} (F : Nat→ι0→ι1→ι2→Option β) (S' : ι0→ι1→ι2→S) {k0 : Nat} {p0 : ι0} {p1 : ι1} {p2 : ι2} (hk : F k0 p0 p1 p2 = some r) (h0 : ∀ K,m9 E nt (S' p0 p1 p2) K→m9 E nt s K) {G : Nat→ι0→ι1→ι2→Option β} (he : ∀ (k : Nat) (p0 : ι0) (p1 : ι1) (p2 : ι2),F (k + 1) p0 p1 p2 = G k p0 p1 p2)
 (hround : ∀ (k : Nat) (p0 : ι0) (p1 : ι1) (p2 : ι2),k < k0→G k p0 p1 p2 = some r→∀ K,(∀ {k' : Nat} {p0 : ι0} {p1 : ι1} {p2 : ι2},k'≤k→F k' p0 p1 p2 = some r→m9 E nt (S' p0 p1 p2) K)→AW E nt P c (Exit.then K Q) (S' p0 p1 p2)) (hz : ∀ (p0 : ι0) (p1 : ι1) (p2 : ι2),F 0 p0 p1 p2 = none:=by intros;rfl) : AW E nt P (.loop c) Q s:=
 bH9 (fun (k : Nat) (p0 : ι0) (p1 : ι1) (p2 : ι2)=>k≤k0∧F k p0 p1 p2 = some r) S' k0 p0 p1 p2 ⟨Nat.le_refl _,hk⟩ h0 (fun p0 p1 p2=>fun h=>by have h1:=h.2;rw [hz p0 p1 p2] at h1;cases h1)
  (fun k p0 p1 p2 h K hK=>hround k p0 p1 p2 h.1 (by rw [← he];exact h.2) K (fun {k' p0 p1 p2} hk' h'=>hK k' p0 p1 p2 hk' ⟨by have:=h.1;omega,h'⟩))
structure Jc3 (E : C5) (nt : Nat) (r : β) (k0 : Nat) {ι0 : Type} {ι1 : Type} {ι2 : Type} (F : Nat→ι0→ι1→ι2→Option β) (S' : ι0→ι1→ι2→S) (K : Act→World→Prop) : Prop where
 u : ∀ {k : Nat} {p0 : ι0} {p1 : ι1} {p2 : ι2},k≤k0→F k p0 p1 p2 = some r→m9 E nt (S' p0 p1 p2) K
theorem jc3 {ι0 : Type} {ι1 : Type} {ι2 : Type} {F : Nat→ι0→ι1→ι2→Option β} {S' : ι0→ι1→ι2→S} {k0 : Nat} {K : Act→World→Prop} {G : Nat→ι0→ι1→ι2→Option β} (he : ∀ (k : Nat) (p0 : ι0) (p1 : ι1) (p2 : ι2),F (k + 1) p0 p1 p2 = G k p0 p1 p2) (h : ∀ (k : Nat) (p0 : ι0) (p1 : ι1) (p2 : ι2),k < k0→G k p0 p1 p2 = some r→m9 E nt (S' p0 p1 p2) K) (hz : ∀ (p0 : ι0) (p1 : ι1) (p2 : ι2),F 0 p0 p1 p2 = none:=by intros;rfl) : Jc3 E nt r k0 F S' K:=by
 refine ⟨fun {k p0 p1 p2} hk H=>?_⟩
 cases k with
 | zero=>rw [hz p0 p1 p2] at H;cases H
 | succ k=>exact h k p0 p1 p2 hk (by rw [← he];exact H)
theorem lp4 {ι0 : Type} {ι1 : Type} {ι2 : Type} {ι3 : Type} (F : Nat→ι0→ι1→ι2→ι3→Option β) (S' : ι0→ι1→ι2→ι3→S) {k0 : Nat} {p0 : ι0} {p1 : ι1} {p2 : ι2} {p3 : ι3} (hk : F k0 p0 p1 p2 p3 = some r) (h0 : ∀ K,m9 E nt (S' p0 p1 p2 p3) K→m9 E nt s K) {G : Nat→ι0→ι1→ι2→ι3→Option β} (he : ∀ (k : Nat) (p0 : ι0) (p1 : ι1) (p2 : ι2) (p3 : ι3),F (k + 1) p0 p1 p2 p3 = G k p0 p1 p2 p3)
 (hround : ∀ (k : Nat) (p0 : ι0) (p1 : ι1) (p2 : ι2) (p3 : ι3),k < k0→G k p0 p1 p2 p3 = some r→∀ K,(∀ {k' : Nat} {p0 : ι0} {p1 : ι1} {p2 : ι2} {p3 : ι3},k'≤k→F k' p0 p1 p2 p3 = some r→m9 E nt (S' p0 p1 p2 p3) K)→AW E nt P c (Exit.then K Q) (S' p0 p1 p2 p3)) (hz : ∀ (p0 : ι0) (p1 : ι1) (p2 : ι2) (p3 : ι3),F 0 p0 p1 p2 p3 = none:=by intros;rfl) : AW E nt P (.loop c) Q s:=
 bN0 (fun (k : Nat) (p0 : ι0) (p1 : ι1) (p2 : ι2) (p3 : ι3)=>k≤k0∧F k p0 p1 p2 p3 = some r) S' k0 p0 p1 p2 p3 ⟨Nat.le_refl _,hk⟩ h0 (fun p0 p1 p2 p3=>fun h=>by have h1:=h.2;rw [hz p0 p1 p2 p3] at h1;cases h1)
  (fun k p0 p1 p2 p3 h K hK=>hround k p0 p1 p2 p3 h.1 (by rw [← he];exact h.2) K (fun {k' p0 p1 p2 p3} hk' h'=>hK k' p0 p1 p2 p3 hk' ⟨by have:=h.1;omega,h'⟩))
structure Jc4 (E : C5) (nt : Nat) (r : β) (k0 : Nat) {ι0 : Type} {ι1 : Type} {ι2 : Type} {ι3 : Type} (F : Nat→ι0→ι1→ι2→ι3→Option β) (S' : ι0→ι1→ι2→ι3→S) (K : Act→World→Prop) : Prop where
 u : ∀ {k : Nat} {p0 : ι0} {p1 : ι1} {p2 : ι2} {p3 : ι3},k≤k0→F k p0 p1 p2 p3 = some r→m9 E nt (S' p0 p1 p2 p3) K
theorem jc4 {ι0 : Type} {ι1 : Type} {ι2 : Type} {ι3 : Type} {F : Nat→ι0→ι1→ι2→ι3→Option β} {S' : ι0→ι1→ι2→ι3→S} {k0 : Nat} {K : Act→World→Prop} {G : Nat→ι0→ι1→ι2→ι3→Option β} (he : ∀ (k : Nat) (p0 : ι0) (p1 : ι1) (p2 : ι2) (p3 : ι3),F (k + 1) p0 p1 p2 p3 = G k p0 p1 p2 p3) (h : ∀ (k : Nat) (p0 : ι0) (p1 : ι1) (p2 : ι2) (p3 : ι3),k < k0→G k p0 p1 p2 p3 = some r→m9 E nt (S' p0 p1 p2 p3) K) (hz : ∀ (p0 : ι0) (p1 : ι1) (p2 : ι2) (p3 : ι3),F 0 p0 p1 p2 p3 = none:=by intros;rfl) : Jc4 E nt r k0 F S' K:=by
 refine ⟨fun {k p0 p1 p2 p3} hk H=>?_⟩
 cases k with
 | zero=>rw [hz p0 p1 p2 p3] at H;cases H
 | succ k=>exact h k p0 p1 p2 p3 hk (by rw [← he];exact H)
theorem lp5 {ι0 : Type} {ι1 : Type} {ι2 : Type} {ι3 : Type} {ι4 : Type} (F : Nat→ι0→ι1→ι2→ι3→ι4→Option β) (S' : ι0→ι1→ι2→ι3→ι4→S) {k0 : Nat} {p0 : ι0} {p1 : ι1} {p2 : ι2} {p3 : ι3} {p4 : ι4} (hk : F k0 p0 p1 p2 p3 p4 = some r) (h0 : ∀ K,m9 E nt (S' p0 p1 p2 p3 p4) K→m9 E nt s K) {G : Nat→ι0→ι1→ι2→ι3→ι4→Option β} (he : ∀ (k : Nat) (p0 : ι0) (p1 : ι1) (p2 : ι2) (p3 : ι3) (p4 : ι4),F (k + 1) p0 p1 p2 p3 p4 = G k p0 p1 p2 p3 p4)
 (hround : ∀ (k : Nat) (p0 : ι0) (p1 : ι1) (p2 : ι2) (p3 : ι3) (p4 : ι4),k < k0→G k p0 p1 p2 p3 p4 = some r→∀ K,(∀ {k' : Nat} {p0 : ι0} {p1 : ι1} {p2 : ι2} {p3 : ι3} {p4 : ι4},k'≤k→F k' p0 p1 p2 p3 p4 = some r→m9 E nt (S' p0 p1 p2 p3 p4) K)→AW E nt P c (Exit.then K Q) (S' p0 p1 p2 p3 p4)) (hz : ∀ (p0 : ι0) (p1 : ι1) (p2 : ι2) (p3 : ι3) (p4 : ι4),F 0 p0 p1 p2 p3 p4 = none:=by intros;rfl) : AW E nt P (.loop c) Q s:=
 bL4 (fun (k : Nat) (p0 : ι0) (p1 : ι1) (p2 : ι2) (p3 : ι3) (p4 : ι4)=>k≤k0∧F k p0 p1 p2 p3 p4 = some r) S' k0 p0 p1 p2 p3 p4 ⟨Nat.le_refl _,hk⟩ h0 (fun p0 p1 p2 p3 p4=>fun h=>by have h1:=h.2;rw [hz p0 p1 p2 p3 p4] at h1;cases h1)
  (fun k p0 p1 p2 p3 p4 h K hK=>hround k p0 p1 p2 p3 p4 h.1 (by rw [← he];exact h.2) K (fun {k' p0 p1 p2 p3 p4} hk' h'=>hK k' p0 p1 p2 p3 p4 hk' ⟨by have:=h.1;omega,h'⟩))
structure Jc5 (E : C5) (nt : Nat) (r : β) (k0 : Nat) {ι0 : Type} {ι1 : Type} {ι2 : Type} {ι3 : Type} {ι4 : Type} (F : Nat→ι0→ι1→ι2→ι3→ι4→Option β) (S' : ι0→ι1→ι2→ι3→ι4→S) (K : Act→World→Prop) : Prop where
 u : ∀ {k : Nat} {p0 : ι0} {p1 : ι1} {p2 : ι2} {p3 : ι3} {p4 : ι4},k≤k0→F k p0 p1 p2 p3 p4 = some r→m9 E nt (S' p0 p1 p2 p3 p4) K
theorem jc5 {ι0 : Type} {ι1 : Type} {ι2 : Type} {ι3 : Type} {ι4 : Type} {F : Nat→ι0→ι1→ι2→ι3→ι4→Option β} {S' : ι0→ι1→ι2→ι3→ι4→S} {k0 : Nat} {K : Act→World→Prop} {G : Nat→ι0→ι1→ι2→ι3→ι4→Option β} (he : ∀ (k : Nat) (p0 : ι0) (p1 : ι1) (p2 : ι2) (p3 : ι3) (p4 : ι4),F (k + 1) p0 p1 p2 p3 p4 = G k p0 p1 p2 p3 p4) (h : ∀ (k : Nat) (p0 : ι0) (p1 : ι1) (p2 : ι2) (p3 : ι3) (p4 : ι4),k < k0→G k p0 p1 p2 p3 p4 = some r→m9 E nt (S' p0 p1 p2 p3 p4) K) (hz : ∀ (p0 : ι0) (p1 : ι1) (p2 : ι2) (p3 : ι3) (p4 : ι4),F 0 p0 p1 p2 p3 p4 = none:=by intros;rfl) : Jc5 E nt r k0 F S' K:=by
 refine ⟨fun {k p0 p1 p2 p3 p4} hk H=>?_⟩
 cases k with
 | zero=>rw [hz p0 p1 p2 p3 p4] at H;cases H
 | succ k=>exact h k p0 p1 p2 p3 p4 hk (by rw [← he];exact H)
theorem lp6 {ι0 : Type} {ι1 : Type} {ι2 : Type} {ι3 : Type} {ι4 : Type} {ι5 : Type} (F : Nat→ι0→ι1→ι2→ι3→ι4→ι5→Option β) (S' : ι0→ι1→ι2→ι3→ι4→ι5→S) {k0 : Nat} {p0 : ι0} {p1 : ι1} {p2 : ι2} {p3 : ι3} {p4 : ι4} {p5 : ι5} (hk : F k0 p0 p1 p2 p3 p4 p5 = some r) (h0 : ∀ K,m9 E nt (S' p0 p1 p2 p3 p4 p5) K→m9 E nt s K) {G : Nat→ι0→ι1→ι2→ι3→ι4→ι5→Option β} (he : ∀ (k : Nat) (p0 : ι0) (p1 : ι1) (p2 : ι2) (p3 : ι3) (p4 : ι4) (p5 : ι5),F (k + 1) p0 p1 p2 p3 p4 p5 = G k p0 p1 p2 p3 p4 p5)
 (hround : ∀ (k : Nat) (p0 : ι0) (p1 : ι1) (p2 : ι2) (p3 : ι3) (p4 : ι4) (p5 : ι5),k < k0→G k p0 p1 p2 p3 p4 p5 = some r→∀ K,(∀ {k' : Nat} {p0 : ι0} {p1 : ι1} {p2 : ι2} {p3 : ι3} {p4 : ι4} {p5 : ι5},k'≤k→F k' p0 p1 p2 p3 p4 p5 = some r→m9 E nt (S' p0 p1 p2 p3 p4 p5) K)→AW E nt P c (Exit.then K Q) (S' p0 p1 p2 p3 p4 p5)) (hz : ∀ (p0 : ι0) (p1 : ι1) (p2 : ι2) (p3 : ι3) (p4 : ι4) (p5 : ι5),F 0 p0 p1 p2 p3 p4 p5 = none:=by intros;rfl) : AW E nt P (.loop c) Q s:=
 bH5 (fun (k : Nat) (p0 : ι0) (p1 : ι1) (p2 : ι2) (p3 : ι3) (p4 : ι4) (p5 : ι5)=>k≤k0∧F k p0 p1 p2 p3 p4 p5 = some r) S' k0 p0 p1 p2 p3 p4 p5 ⟨Nat.le_refl _,hk⟩ h0 (fun p0 p1 p2 p3 p4 p5=>fun h=>by have h1:=h.2;rw [hz p0 p1 p2 p3 p4 p5] at h1;cases h1)
  (fun k p0 p1 p2 p3 p4 p5 h K hK=>hround k p0 p1 p2 p3 p4 p5 h.1 (by rw [← he];exact h.2) K (fun {k' p0 p1 p2 p3 p4 p5} hk' h'=>hK k' p0 p1 p2 p3 p4 p5 hk' ⟨by have:=h.1;omega,h'⟩))
theorem ce6 {ι0 : Type} {ι1 : Type} {ι2 : Type} {ι3 : Type} {ι4 : Type} {ι5 : Type} {ι6 : Type} {ι7 : Type} {ι8 : Type} {ι9 : Type} (F : Nat→ι0→ι1→ι2→ι3→ι4→ι5→ι6→ι7→ι8→ι9→Option β) (S' : ι0→ι1→ι2→ι3→ι4→ι5→ι6→ι7→ι8→ι9→S) {k0 : Nat} {p0 : ι0} {p1 : ι1} {p2 : ι2} {p3 : ι3} {p4 : ι4} {p5 : ι5} {p6 : ι6} {p7 : ι7} {p8 : ι8} {p9 : ι9} (hk : F k0 p0 p1 p2 p3 p4 p5 p6 p7 p8 p9 = some r) (h0 : ∀ K,m9 E nt (S' p0 p1 p2 p3 p4 p5 p6 p7 p8 p9) K→m9 E nt s K) {G : Nat→ι0→ι1→ι2→ι3→ι4→ι5→ι6→ι7→ι8→ι9→Option β} (he : ∀ (k : Nat) (p0 : ι0) (p1 : ι1) (p2 : ι2) (p3 : ι3) (p4 : ι4) (p5 : ι5) (p6 : ι6) (p7 : ι7) (p8 : ι8) (p9 : ι9),F (k + 1) p0 p1 p2 p3 p4 p5 p6 p7 p8 p9 = G k p0 p1 p2 p3 p4 p5 p6 p7 p8 p9)
 (hround : ∀ (k : Nat) (p0 : ι0) (p1 : ι1) (p2 : ι2) (p3 : ι3) (p4 : ι4) (p5 : ι5) (p6 : ι6) (p7 : ι7) (p8 : ι8) (p9 : ι9),k < k0→G k p0 p1 p2 p3 p4 p5 p6 p7 p8 p9 = some r→∀ K,(∀ {k' : Nat} {p0 : ι0} {p1 : ι1} {p2 : ι2} {p3 : ι3} {p4 : ι4} {p5 : ι5} {p6 : ι6} {p7 : ι7} {p8 : ι8} {p9 : ι9},k'≤k→F k' p0 p1 p2 p3 p4 p5 p6 p7 p8 p9 = some r→m9 E nt (S' p0 p1 p2 p3 p4 p5 p6 p7 p8 p9) K)→AW E nt P c (Exit.then K Q) (S' p0 p1 p2 p3 p4 p5 p6 p7 p8 p9)) (hz : ∀ (p0 : ι0) (p1 : ι1) (p2 : ι2) (p3 : ι3) (p4 : ι4) (p5 : ι5) (p6 : ι6) (p7 : ι7) (p8 : ι8) (p9 : ι9),F 0 p0 p1 p2 p3 p4 p5 p6 p7 p8 p9 = none:=by intros;rfl) : AW E nt P (.loop c) Q s:=
 bC4 (fun (k : Nat) (p0 : ι0) (p1 : ι1) (p2 : ι2) (p3 : ι3) (p4 : ι4) (p5 : ι5) (p6 : ι6) (p7 : ι7) (p8 : ι8) (p9 : ι9)=>k≤k0∧F k p0 p1 p2 p3 p4 p5 p6 p7 p8 p9 = some r) S' k0 p0 p1 p2 p3 p4 p5 p6 p7 p8 p9 ⟨Nat.le_refl _,hk⟩ h0 (fun p0 p1 p2 p3 p4 p5 p6 p7 p8 p9=>fun h=>by have h1:=h.2;rw [hz p0 p1 p2 p3 p4 p5 p6 p7 p8 p9] at h1;cases h1)
  (fun k p0 p1 p2 p3 p4 p5 p6 p7 p8 p9 h K hK=>hround k p0 p1 p2 p3 p4 p5 p6 p7 p8 p9 h.1 (by rw [← he];exact h.2) K (fun {k' p0 p1 p2 p3 p4 p5 p6 p7 p8 p9} hk' h'=>hK k' p0 p1 p2 p3 p4 p5 p6 p7 p8 p9 hk' ⟨by have:=h.1;omega,h'⟩))
theorem cd4 {ι0 : Type} {ι1 : Type} {ι2 : Type} {ι3 : Type} {ι4 : Type} {ι5 : Type} {ι6 : Type} {ι7 : Type} {ι8 : Type} {ι9 : Type} {ι10 : Type} {ι11 : Type} (F : Nat→ι0→ι1→ι2→ι3→ι4→ι5→ι6→ι7→ι8→ι9→ι10→ι11→Option β) (S' : ι0→ι1→ι2→ι3→ι4→ι5→ι6→ι7→ι8→ι9→ι10→ι11→S) {k0 : Nat} {p0 : ι0} {p1 : ι1} {p2 : ι2} {p3 : ι3} {p4 : ι4} {p5 : ι5} {p6 : ι6} {p7 : ι7} {p8 : ι8} {p9 : ι9} {p10 : ι10} {p11 : ι11} (hk : F k0 p0 p1 p2 p3 p4 p5 p6 p7 p8 p9 p10 p11 = some r) (h0 : ∀ K,m9 E nt (S' p0 p1 p2 p3 p4 p5 p6 p7 p8 p9 p10 p11) K→m9 E nt s K) {G : Nat→ι0→ι1→ι2→ι3→ι4→ι5→ι6→ι7→ι8→ι9→ι10→ι11→Option β} (he : ∀ (k : Nat) (p0 : ι0) (p1 : ι1) (p2 : ι2) (p3 : ι3) (p4 : ι4) (p5 : ι5) (p6 : ι6) (p7 : ι7) (p8 : ι8) (p9 : ι9) (p10 : ι10) (p11 : ι11),F (k + 1) p0 p1 p2 p3 p4 p5 p6 p7 p8 p9 p10 p11 = G k p0 p1 p2 p3 p4 p5 p6 p7 p8 p9 p10 p11)
 (hround : ∀ (k : Nat) (p0 : ι0) (p1 : ι1) (p2 : ι2) (p3 : ι3) (p4 : ι4) (p5 : ι5) (p6 : ι6) (p7 : ι7) (p8 : ι8) (p9 : ι9) (p10 : ι10) (p11 : ι11),k < k0→G k p0 p1 p2 p3 p4 p5 p6 p7 p8 p9 p10 p11 = some r→∀ K,(∀ {k' : Nat} {p0 : ι0} {p1 : ι1} {p2 : ι2} {p3 : ι3} {p4 : ι4} {p5 : ι5} {p6 : ι6} {p7 : ι7} {p8 : ι8} {p9 : ι9} {p10 : ι10} {p11 : ι11},k'≤k→F k' p0 p1 p2 p3 p4 p5 p6 p7 p8 p9 p10 p11 = some r→m9 E nt (S' p0 p1 p2 p3 p4 p5 p6 p7 p8 p9 p10 p11) K)→AW E nt P c (Exit.then K Q) (S' p0 p1 p2 p3 p4 p5 p6 p7 p8 p9 p10 p11)) (hz : ∀ (p0 : ι0) (p1 : ι1) (p2 : ι2) (p3 : ι3) (p4 : ι4) (p5 : ι5) (p6 : ι6) (p7 : ι7) (p8 : ι8) (p9 : ι9) (p10 : ι10) (p11 : ι11),F 0 p0 p1 p2 p3 p4 p5 p6 p7 p8 p9 p10 p11 = none:=by intros;rfl) : AW E nt P (.loop c) Q s:=
 bE5 (fun (k : Nat) (p0 : ι0) (p1 : ι1) (p2 : ι2) (p3 : ι3) (p4 : ι4) (p5 : ι5) (p6 : ι6) (p7 : ι7) (p8 : ι8) (p9 : ι9) (p10 : ι10) (p11 : ι11)=>k≤k0∧F k p0 p1 p2 p3 p4 p5 p6 p7 p8 p9 p10 p11 = some r) S' k0 p0 p1 p2 p3 p4 p5 p6 p7 p8 p9 p10 p11 ⟨Nat.le_refl _,hk⟩ h0 (fun p0 p1 p2 p3 p4 p5 p6 p7 p8 p9 p10 p11=>fun h=>by have h1:=h.2;rw [hz p0 p1 p2 p3 p4 p5 p6 p7 p8 p9 p10 p11] at h1;cases h1)
  (fun k p0 p1 p2 p3 p4 p5 p6 p7 p8 p9 p10 p11 h K hK=>hround k p0 p1 p2 p3 p4 p5 p6 p7 p8 p9 p10 p11 h.1 (by rw [← he];exact h.2) K (fun {k' p0 p1 p2 p3 p4 p5 p6 p7 p8 p9 p10 p11} hk' h'=>hK k' p0 p1 p2 p3 p4 p5 p6 p7 p8 p9 p10 p11 hk' ⟨by have:=h.1;omega,h'⟩))
structure bU3 (E : C5) (nt : Nat) (r : β) (k0 : Nat) {ι0 : Type} {ι1 : Type} {ι2 : Type} {ι3 : Type} {ι4 : Type} {ι5 : Type} {ι6 : Type} {ι7 : Type} {ι8 : Type} {ι9 : Type} {ι10 : Type} {ι11 : Type} (F : Nat→ι0→ι1→ι2→ι3→ι4→ι5→ι6→ι7→ι8→ι9→ι10→ι11→Option β) (S' : ι0→ι1→ι2→ι3→ι4→ι5→ι6→ι7→ι8→ι9→ι10→ι11→S) (K : Act→World→Prop) : Prop where
 u : ∀ {k : Nat} {p0 : ι0} {p1 : ι1} {p2 : ι2} {p3 : ι3} {p4 : ι4} {p5 : ι5} {p6 : ι6} {p7 : ι7} {p8 : ι8} {p9 : ι9} {p10 : ι10} {p11 : ι11},k≤k0→F k p0 p1 p2 p3 p4 p5 p6 p7 p8 p9 p10 p11 = some r→m9 E nt (S' p0 p1 p2 p3 p4 p5 p6 p7 p8 p9 p10 p11) K
theorem cb9 {ι0 : Type} {ι1 : Type} {ι2 : Type} {ι3 : Type} {ι4 : Type} {ι5 : Type} {ι6 : Type} {ι7 : Type} {ι8 : Type} {ι9 : Type} {ι10 : Type} {ι11 : Type} {F : Nat→ι0→ι1→ι2→ι3→ι4→ι5→ι6→ι7→ι8→ι9→ι10→ι11→Option β} {S' : ι0→ι1→ι2→ι3→ι4→ι5→ι6→ι7→ι8→ι9→ι10→ι11→S} {k0 : Nat} {K : Act→World→Prop} {G : Nat→ι0→ι1→ι2→ι3→ι4→ι5→ι6→ι7→ι8→ι9→ι10→ι11→Option β} (he : ∀ (k : Nat) (p0 : ι0) (p1 : ι1) (p2 : ι2) (p3 : ι3) (p4 : ι4) (p5 : ι5) (p6 : ι6) (p7 : ι7) (p8 : ι8) (p9 : ι9) (p10 : ι10) (p11 : ι11),F (k + 1) p0 p1 p2 p3 p4 p5 p6 p7 p8 p9 p10 p11 = G k p0 p1 p2 p3 p4 p5 p6 p7 p8 p9 p10 p11) (h : ∀ (k : Nat) (p0 : ι0) (p1 : ι1) (p2 : ι2) (p3 : ι3) (p4 : ι4) (p5 : ι5) (p6 : ι6) (p7 : ι7) (p8 : ι8) (p9 : ι9) (p10 : ι10) (p11 : ι11),k < k0→G k p0 p1 p2 p3 p4 p5 p6 p7 p8 p9 p10 p11 = some r→m9 E nt (S' p0 p1 p2 p3 p4 p5 p6 p7 p8 p9 p10 p11) K) (hz : ∀ (p0 : ι0) (p1 : ι1) (p2 : ι2) (p3 : ι3) (p4 : ι4) (p5 : ι5) (p6 : ι6) (p7 : ι7) (p8 : ι8) (p9 : ι9) (p10 : ι10) (p11 : ι11),F 0 p0 p1 p2 p3 p4 p5 p6 p7 p8 p9 p10 p11 = none:=by intros;rfl) : bU3 E nt r k0 F S' K:=by
 refine ⟨fun {k p0 p1 p2 p3 p4 p5 p6 p7 p8 p9 p10 p11} hk H=>?_⟩
 cases k with
 | zero=>rw [hz p0 p1 p2 p3 p4 p5 p6 p7 p8 p9 p10 p11] at H;cases H
 | succ k=>exact h k p0 p1 p2 p3 p4 p5 p6 p7 p8 p9 p10 p11 hk (by rw [← he];exact H)
theorem bM7 {ι0 : Type} {ι1 : Type} {ι2 : Type} {ι3 : Type} {ι4 : Type} {ι5 : Type} {ι6 : Type} {ι7 : Type} {ι8 : Type} {ι9 : Type} {ι10 : Type} {ι11 : Type} {ι12 : Type} (F : Nat→ι0→ι1→ι2→ι3→ι4→ι5→ι6→ι7→ι8→ι9→ι10→ι11→ι12→Option β) (S' : ι0→ι1→ι2→ι3→ι4→ι5→ι6→ι7→ι8→ι9→ι10→ι11→ι12→S) {k0 : Nat} {p0 : ι0} {p1 : ι1} {p2 : ι2} {p3 : ι3} {p4 : ι4} {p5 : ι5} {p6 : ι6} {p7 : ι7} {p8 : ι8} {p9 : ι9} {p10 : ι10} {p11 : ι11} {p12 : ι12} (hk : F k0 p0 p1 p2 p3 p4 p5 p6 p7 p8 p9 p10 p11 p12 = some r) (h0 : ∀ K,m9 E nt (S' p0 p1 p2 p3 p4 p5 p6 p7 p8 p9 p10 p11 p12) K→m9 E nt s K) {G : Nat→ι0→ι1→ι2→ι3→ι4→ι5→ι6→ι7→ι8→ι9→ι10→ι11→ι12→Option β} (he : ∀ (k : Nat) (p0 : ι0) (p1 : ι1) (p2 : ι2) (p3 : ι3) (p4 : ι4) (p5 : ι5) (p6 : ι6) (p7 : ι7) (p8 : ι8) (p9 : ι9) (p10 : ι10) (p11 : ι11) (p12 : ι12),F (k + 1) p0 p1 p2 p3 p4 p5 p6 p7 p8 p9 p10 p11 p12 = G k p0 p1 p2 p3 p4 p5 p6 p7 p8 p9 p10 p11 p12)
 (hround : ∀ (k : Nat) (p0 : ι0) (p1 : ι1) (p2 : ι2) (p3 : ι3) (p4 : ι4) (p5 : ι5) (p6 : ι6) (p7 : ι7) (p8 : ι8) (p9 : ι9) (p10 : ι10) (p11 : ι11) (p12 : ι12),k < k0→G k p0 p1 p2 p3 p4 p5 p6 p7 p8 p9 p10 p11 p12 = some r→∀ K,(∀ {k' : Nat} {p0 : ι0} {p1 : ι1} {p2 : ι2} {p3 : ι3} {p4 : ι4} {p5 : ι5} {p6 : ι6} {p7 : ι7} {p8 : ι8} {p9 : ι9} {p10 : ι10} {p11 : ι11} {p12 : ι12},k'≤k→F k' p0 p1 p2 p3 p4 p5 p6 p7 p8 p9 p10 p11 p12 = some r→m9 E nt (S' p0 p1 p2 p3 p4 p5 p6 p7 p8 p9 p10 p11 p12) K)→AW E nt P c (Exit.then K Q) (S' p0 p1 p2 p3 p4 p5 p6 p7 p8 p9 p10 p11 p12)) (hz : ∀ (p0 : ι0) (p1 : ι1) (p2 : ι2) (p3 : ι3) (p4 : ι4) (p5 : ι5) (p6 : ι6) (p7 : ι7) (p8 : ι8) (p9 : ι9) (p10 : ι10) (p11 : ι11) (p12 : ι12),F 0 p0 p1 p2 p3 p4 p5 p6 p7 p8 p9 p10 p11 p12 = none:=by intros;rfl) : AW E nt P (.loop c) Q s:=
 bG0 (fun (k : Nat) (p0 : ι0) (p1 : ι1) (p2 : ι2) (p3 : ι3) (p4 : ι4) (p5 : ι5) (p6 : ι6) (p7 : ι7) (p8 : ι8) (p9 : ι9) (p10 : ι10) (p11 : ι11) (p12 : ι12)=>k≤k0∧F k p0 p1 p2 p3 p4 p5 p6 p7 p8 p9 p10 p11 p12 = some r) S' k0 p0 p1 p2 p3 p4 p5 p6 p7 p8 p9 p10 p11 p12 ⟨Nat.le_refl _,hk⟩ h0 (fun p0 p1 p2 p3 p4 p5 p6 p7 p8 p9 p10 p11 p12=>fun h=>by have h1:=h.2;rw [hz p0 p1 p2 p3 p4 p5 p6 p7 p8 p9 p10 p11 p12] at h1;cases h1)
  (fun k p0 p1 p2 p3 p4 p5 p6 p7 p8 p9 p10 p11 p12 h K hK=>hround k p0 p1 p2 p3 p4 p5 p6 p7 p8 p9 p10 p11 p12 h.1 (by rw [← he];exact h.2) K (fun {k' p0 p1 p2 p3 p4 p5 p6 p7 p8 p9 p10 p11 p12} hk' h'=>hK k' p0 p1 p2 p3 p4 p5 p6 p7 p8 p9 p10 p11 p12 hk' ⟨by have:=h.1;omega,h'⟩))
theorem cf3 {ι0 : Type} {ι1 : Type} {ι2 : Type} {ι3 : Type} {ι4 : Type} {ι5 : Type} {ι6 : Type} {ι7 : Type} {ι8 : Type} {ι9 : Type} {ι10 : Type} {ι11 : Type} {ι12 : Type} {ι13 : Type} (F : Nat→ι0→ι1→ι2→ι3→ι4→ι5→ι6→ι7→ι8→ι9→ι10→ι11→ι12→ι13→Option β) (S' : ι0→ι1→ι2→ι3→ι4→ι5→ι6→ι7→ι8→ι9→ι10→ι11→ι12→ι13→S) {k0 : Nat} {p0 : ι0} {p1 : ι1} {p2 : ι2} {p3 : ι3} {p4 : ι4} {p5 : ι5} {p6 : ι6} {p7 : ι7} {p8 : ι8} {p9 : ι9} {p10 : ι10} {p11 : ι11} {p12 : ι12} {p13 : ι13} (hk : F k0 p0 p1 p2 p3 p4 p5 p6 p7 p8 p9 p10 p11 p12 p13 = some r) (h0 : ∀ K,m9 E nt (S' p0 p1 p2 p3 p4 p5 p6 p7 p8 p9 p10 p11 p12 p13) K→m9 E nt s K) {G : Nat→ι0→ι1→ι2→ι3→ι4→ι5→ι6→ι7→ι8→ι9→ι10→ι11→ι12→ι13→Option β} (he : ∀ (k : Nat) (p0 : ι0) (p1 : ι1) (p2 : ι2) (p3 : ι3) (p4 : ι4) (p5 : ι5) (p6 : ι6) (p7 : ι7) (p8 : ι8) (p9 : ι9) (p10 : ι10) (p11 : ι11) (p12 : ι12) (p13 : ι13),F (k + 1) p0 p1 p2 p3 p4 p5 p6 p7 p8 p9 p10 p11 p12 p13 = G k p0 p1 p2 p3 p4 p5 p6 p7 p8 p9 p10 p11 p12 p13)
 (hround : ∀ (k : Nat) (p0 : ι0) (p1 : ι1) (p2 : ι2) (p3 : ι3) (p4 : ι4) (p5 : ι5) (p6 : ι6) (p7 : ι7) (p8 : ι8) (p9 : ι9) (p10 : ι10) (p11 : ι11) (p12 : ι12) (p13 : ι13),k < k0→G k p0 p1 p2 p3 p4 p5 p6 p7 p8 p9 p10 p11 p12 p13 = some r→∀ K,(∀ {k' : Nat} {p0 : ι0} {p1 : ι1} {p2 : ι2} {p3 : ι3} {p4 : ι4} {p5 : ι5} {p6 : ι6} {p7 : ι7} {p8 : ι8} {p9 : ι9} {p10 : ι10} {p11 : ι11} {p12 : ι12} {p13 : ι13},k'≤k→F k' p0 p1 p2 p3 p4 p5 p6 p7 p8 p9 p10 p11 p12 p13 = some r→m9 E nt (S' p0 p1 p2 p3 p4 p5 p6 p7 p8 p9 p10 p11 p12 p13) K)→AW E nt P c (Exit.then K Q) (S' p0 p1 p2 p3 p4 p5 p6 p7 p8 p9 p10 p11 p12 p13)) (hz : ∀ (p0 : ι0) (p1 : ι1) (p2 : ι2) (p3 : ι3) (p4 : ι4) (p5 : ι5) (p6 : ι6) (p7 : ι7) (p8 : ι8) (p9 : ι9) (p10 : ι10) (p11 : ι11) (p12 : ι12) (p13 : ι13),F 0 p0 p1 p2 p3 p4 p5 p6 p7 p8 p9 p10 p11 p12 p13 = none:=by intros;rfl) : AW E nt P (.loop c) Q s:=
 bC1 (fun (k : Nat) (p0 : ι0) (p1 : ι1) (p2 : ι2) (p3 : ι3) (p4 : ι4) (p5 : ι5) (p6 : ι6) (p7 : ι7) (p8 : ι8) (p9 : ι9) (p10 : ι10) (p11 : ι11) (p12 : ι12) (p13 : ι13)=>k≤k0∧F k p0 p1 p2 p3 p4 p5 p6 p7 p8 p9 p10 p11 p12 p13 = some r) S' k0 p0 p1 p2 p3 p4 p5 p6 p7 p8 p9 p10 p11 p12 p13 ⟨Nat.le_refl _,hk⟩ h0 (fun p0 p1 p2 p3 p4 p5 p6 p7 p8 p9 p10 p11 p12 p13=>fun h=>by have h1:=h.2;rw [hz p0 p1 p2 p3 p4 p5 p6 p7 p8 p9 p10 p11 p12 p13] at h1;cases h1)
  (fun k p0 p1 p2 p3 p4 p5 p6 p7 p8 p9 p10 p11 p12 p13 h K hK=>hround k p0 p1 p2 p3 p4 p5 p6 p7 p8 p9 p10 p11 p12 p13 h.1 (by rw [← he];exact h.2) K (fun {k' p0 p1 p2 p3 p4 p5 p6 p7 p8 p9 p10 p11 p12 p13} hk' h'=>hK k' p0 p1 p2 p3 p4 p5 p6 p7 p8 p9 p10 p11 p12 p13 hk' ⟨by have:=h.1;omega,h'⟩))
end
end Go.Proofs.YtahmbcgolnplgaaGreatA
