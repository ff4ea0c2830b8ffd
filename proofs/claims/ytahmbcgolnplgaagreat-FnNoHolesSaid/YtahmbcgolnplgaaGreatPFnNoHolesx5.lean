import Derived.Test.YtahmbcgolnplgaaGreatPFnNoHolesx4
set_option linter.unusedVariables false
set_option linter.unusedSimpArgs false
set_option autoImplicit true
set_option relaxedAutoImplicit true
set_option maxRecDepth 100000
set_option maxHeartbeats 4000000
namespace Go.Proofs.YtahmbcgolnplgaaGreat.PFnNoHoles
open Go Go.RowKit Go.Proofs.YtahmbcgolnplgaaGreatA
def F8.j0 : Nat→Int→Int→Int→Int→Int→Int→ByteArray→Y15→Y15→Y15→Y15→ByteArray→ByteArray→Int→Y43
 | 0,_,_,_,_,_,_,_,_,_,_,_,_,_,_=>none
 | q + 1,r,s,t,u,l,o,k,a,b,h,i,m,n,p=>(H1.f 4 l m (k ++ (⟨#[97]⟩ : ByteArray))).bind fun c=>((A0.f (k ++ (⟨#[97]⟩ : ByteArray))).bind fun d=>((H1.f 3 l (k ++ (⟨#[98]⟩ : ByteArray)) n).bind fun e=>((A0.f (k ++ (⟨#[98]⟩ : ByteArray))).bind fun g=>(if ([(⟨a.1,(⟨a.2.1,a.2.2.1,a.2.2.2.1,a.2.2.2.2.1⟩ : f9),a.2.2.2.2.2.1,a.2.2.2.2.2.2⟩ : j3),(⟨b.1,(⟨b.2.1,b.2.2.1,b.2.2.2.1,b.2.2.2.2.1⟩ : f9),b.2.2.2.2.2.1,b.2.2.2.2.2.2⟩ : j3)] : List j3).length + ([(⟨c.1,(⟨c.2.1,c.2.2.1,c.2.2.2.1,c.2.2.2.2.1⟩ : f9),c.2.2.2.2.2.1,c.2.2.2.2.2.2⟩ : j3),(⟨d.1,(⟨d.2.1,d.2.2.1,d.2.2.2.1,d.2.2.2.2.1⟩ : f9),d.2.2.2.2.2.1,d.2.2.2.2.2.2⟩ : j3),(⟨e.1,(⟨e.2.1,e.2.2.1,e.2.2.2.1,e.2.2.2.2.1⟩ : f9),e.2.2.2.2.2.1,e.2.2.2.2.2.2⟩ : j3),(⟨g.1,(⟨g.2.1,g.2.2.1,g.2.2.2.1,g.2.2.2.2.1⟩ : f9),g.2.2.2.2.2.1,g.2.2.2.2.2.2⟩ : j3)] : List j3).length < 1759218604441 then if (([(⟨a.1,(⟨a.2.1,a.2.2.1,a.2.2.2.1,a.2.2.2.2.1⟩ : f9),a.2.2.2.2.2.1,a.2.2.2.2.2.2⟩ : j3),(⟨b.1,(⟨b.2.1,b.2.2.1,b.2.2.2.1,b.2.2.2.2.1⟩ : f9),b.2.2.2.2.2.1,b.2.2.2.2.2.2⟩ : j3)] : List j3) ++ ([(⟨c.1,(⟨c.2.1,c.2.2.1,c.2.2.2.1,c.2.2.2.2.1⟩ : f9),c.2.2.2.2.2.1,c.2.2.2.2.2.2⟩ : j3),(⟨d.1,(⟨d.2.1,d.2.2.1,d.2.2.2.1,d.2.2.2.2.1⟩ : f9),d.2.2.2.2.2.1,d.2.2.2.2.2.2⟩ : j3),(⟨e.1,(⟨e.2.1,e.2.2.1,e.2.2.2.1,e.2.2.2.2.1⟩ : f9),e.2.2.2.2.2.1,e.2.2.2.2.2.2⟩ : j3),(⟨g.1,(⟨g.2.1,g.2.2.1,g.2.2.2.1,g.2.2.2.2.1⟩ : f9),g.2.2.2.2.2.1,g.2.2.2.2.2.2⟩ : j3)] : List j3)).length + ([(⟨h.1,(⟨h.2.1,h.2.2.1,h.2.2.2.1,h.2.2.2.2.1⟩ : f9),h.2.2.2.2.2.1,h.2.2.2.2.2.2⟩ : j3),(⟨i.1,(⟨i.2.1,i.2.2.1,i.2.2.2.1,i.2.2.2.2.1⟩ : f9),i.2.2.2.2.2.1,i.2.2.2.2.2.2⟩ : j3)] : List j3).length < 1759218604441 then ((H1.f p o m n).bind fun j=>(if ((([(⟨a.1,(⟨a.2.1,a.2.2.1,a.2.2.2.1,a.2.2.2.2.1⟩ : f9),a.2.2.2.2.2.1,a.2.2.2.2.2.2⟩ : j3),(⟨b.1,(⟨b.2.1,b.2.2.1,b.2.2.2.1,b.2.2.2.2.1⟩ : f9),b.2.2.2.2.2.1,b.2.2.2.2.2.2⟩ : j3)] : List j3) ++ ([(⟨c.1,(⟨c.2.1,c.2.2.1,c.2.2.2.1,c.2.2.2.2.1⟩ : f9),c.2.2.2.2.2.1,c.2.2.2.2.2.2⟩ : j3),(⟨d.1,(⟨d.2.1,d.2.2.1,d.2.2.2.1,d.2.2.2.2.1⟩ : f9),d.2.2.2.2.2.1,d.2.2.2.2.2.2⟩ : j3),(⟨e.1,(⟨e.2.1,e.2.2.1,e.2.2.2.1,e.2.2.2.2.1⟩ : f9),e.2.2.2.2.2.1,e.2.2.2.2.2.2⟩ : j3),(⟨g.1,(⟨g.2.1,g.2.2.1,g.2.2.2.1,g.2.2.2.2.1⟩ : f9),g.2.2.2.2.2.1,g.2.2.2.2.2.2⟩ : j3)] : List j3)) ++ ([(⟨h.1,(⟨h.2.1,h.2.2.1,h.2.2.2.1,h.2.2.2.2.1⟩ : f9),h.2.2.2.2.2.1,h.2.2.2.2.2.2⟩ : j3),(⟨i.1,(⟨i.2.1,i.2.2.1,i.2.2.2.1,i.2.2.2.2.1⟩ : f9),i.2.2.2.2.2.1,i.2.2.2.2.2.2⟩ : j3)] : List j3)).length + ([(⟨j.1,(⟨j.2.1,j.2.2.1,j.2.2.2.1,j.2.2.2.2.1⟩ : f9),j.2.2.2.2.2.1,j.2.2.2.2.2.2⟩ : j3)] : List j3).length < 1759218604441 then some (((([(⟨a.1,(⟨a.2.1,a.2.2.1,a.2.2.2.1,a.2.2.2.2.1⟩ : f9),a.2.2.2.2.2.1,a.2.2.2.2.2.2⟩ : j3),(⟨b.1,(⟨b.2.1,b.2.2.1,b.2.2.2.1,b.2.2.2.2.1⟩ : f9),b.2.2.2.2.2.1,b.2.2.2.2.2.2⟩ : j3)] : List j3) ++ ([(⟨c.1,(⟨c.2.1,c.2.2.1,c.2.2.2.1,c.2.2.2.2.1⟩ : f9),c.2.2.2.2.2.1,c.2.2.2.2.2.2⟩ : j3),(⟨d.1,(⟨d.2.1,d.2.2.1,d.2.2.2.1,d.2.2.2.2.1⟩ : f9),d.2.2.2.2.2.1,d.2.2.2.2.2.2⟩ : j3),(⟨e.1,(⟨e.2.1,e.2.2.1,e.2.2.2.1,e.2.2.2.2.1⟩ : f9),e.2.2.2.2.2.1,e.2.2.2.2.2.2⟩ : j3),(⟨g.1,(⟨g.2.1,g.2.2.1,g.2.2.2.1,g.2.2.2.2.1⟩ : f9),g.2.2.2.2.2.1,g.2.2.2.2.2.2⟩ : j3)] : List j3)) ++ ([(⟨h.1,(⟨h.2.1,h.2.2.1,h.2.2.2.1,h.2.2.2.2.1⟩ : f9),h.2.2.2.2.2.1,h.2.2.2.2.2.2⟩ : j3),(⟨i.1,(⟨i.2.1,i.2.2.1,i.2.2.2.1,i.2.2.2.2.1⟩ : f9),i.2.2.2.2.2.1,i.2.2.2.2.2.2⟩ : j3)] : List j3)) ++ ([(⟨j.1,(⟨j.2.1,j.2.2.1,j.2.2.2.1,j.2.2.2.2.1⟩ : f9),j.2.2.2.2.2.1,j.2.2.2.2.2.2⟩ : j3)] : List j3)) else none)) else none else none))))
def F8.f (k : Nat) (o : Int) (t : Int) (u : Int) (m : Int) (p : Int) (q : Int) (n : ByteArray) (r : ByteArray) (s : ByteArray) : Y43:=(aa7.f o t u m p q).bind fun v=>if v = true then if n.size + (⟨#[97]⟩ : ByteArray).size≤9223372036854775807 then (if n.size + (⟨#[98]⟩ : ByteArray).size≤9223372036854775807 then (G1.f 1 (wrap64 (3 + (wrap64 (2 * o))))).bind fun a=>((G1.f 2 t).bind fun b=>(G1.f 1 (wrap64 (2 + (wrap64 (2 * o))))).bind fun c=>((G1.f 2 u).bind fun d=>if m = 1 then ((H1.f 3 p (n ++ (⟨#[97]⟩ : ByteArray)) s).bind fun e=>((A0.f (n ++ (⟨#[97]⟩ : ByteArray))).bind fun g=>(if ([(⟨a.1,(⟨a.2.1,a.2.2.1,a.2.2.2.1,a.2.2.2.2.1⟩ : f9),a.2.2.2.2.2.1,a.2.2.2.2.2.2⟩ : j3),(⟨b.1,(⟨b.2.1,b.2.2.1,b.2.2.2.1,b.2.2.2.2.1⟩ : f9),b.2.2.2.2.2.1,b.2.2.2.2.2.2⟩ : j3)] : List j3).length + ([(⟨e.1,(⟨e.2.1,e.2.2.1,e.2.2.2.1,e.2.2.2.2.1⟩ : f9),e.2.2.2.2.2.1,e.2.2.2.2.2.2⟩ : j3),(⟨g.1,(⟨g.2.1,g.2.2.1,g.2.2.2.1,g.2.2.2.2.1⟩ : f9),g.2.2.2.2.2.1,g.2.2.2.2.2.2⟩ : j3)] : List j3).length < 1759218604441 then if (([(⟨a.1,(⟨a.2.1,a.2.2.1,a.2.2.2.1,a.2.2.2.2.1⟩ : f9),a.2.2.2.2.2.1,a.2.2.2.2.2.2⟩ : j3),(⟨b.1,(⟨b.2.1,b.2.2.1,b.2.2.2.1,b.2.2.2.2.1⟩ : f9),b.2.2.2.2.2.1,b.2.2.2.2.2.2⟩ : j3)] : List j3) ++ ([(⟨e.1,(⟨e.2.1,e.2.2.1,e.2.2.2.1,e.2.2.2.2.1⟩ : f9),e.2.2.2.2.2.1,e.2.2.2.2.2.2⟩ : j3),(⟨g.1,(⟨g.2.1,g.2.2.1,g.2.2.2.1,g.2.2.2.2.1⟩ : f9),g.2.2.2.2.2.1,g.2.2.2.2.2.2⟩ : j3)] : List j3)).length + ([(⟨c.1,(⟨c.2.1,c.2.2.1,c.2.2.2.1,c.2.2.2.2.1⟩ : f9),c.2.2.2.2.2.1,c.2.2.2.2.2.2⟩ : j3),(⟨d.1,(⟨d.2.1,d.2.2.1,d.2.2.2.1,d.2.2.2.2.1⟩ : f9),d.2.2.2.2.2.1,d.2.2.2.2.2.2⟩ : j3)] : List j3).length < 1759218604441 then ((H1.f 3 q r s).bind fun j=>(if ((([(⟨a.1,(⟨a.2.1,a.2.2.1,a.2.2.2.1,a.2.2.2.2.1⟩ : f9),a.2.2.2.2.2.1,a.2.2.2.2.2.2⟩ : j3),(⟨b.1,(⟨b.2.1,b.2.2.1,b.2.2.2.1,b.2.2.2.2.1⟩ : f9),b.2.2.2.2.2.1,b.2.2.2.2.2.2⟩ : j3)] : List j3) ++ ([(⟨e.1,(⟨e.2.1,e.2.2.1,e.2.2.2.1,e.2.2.2.2.1⟩ : f9),e.2.2.2.2.2.1,e.2.2.2.2.2.2⟩ : j3),(⟨g.1,(⟨g.2.1,g.2.2.1,g.2.2.2.1,g.2.2.2.2.1⟩ : f9),g.2.2.2.2.2.1,g.2.2.2.2.2.2⟩ : j3)] : List j3)) ++ ([(⟨c.1,(⟨c.2.1,c.2.2.1,c.2.2.2.1,c.2.2.2.2.1⟩ : f9),c.2.2.2.2.2.1,c.2.2.2.2.2.2⟩ : j3),(⟨d.1,(⟨d.2.1,d.2.2.1,d.2.2.2.1,d.2.2.2.2.1⟩ : f9),d.2.2.2.2.2.1,d.2.2.2.2.2.2⟩ : j3)] : List j3)).length + ([(⟨j.1,(⟨j.2.1,j.2.2.1,j.2.2.2.1,j.2.2.2.2.1⟩ : f9),j.2.2.2.2.2.1,j.2.2.2.2.2.2⟩ : j3)] : List j3).length < 1759218604441 then some (((([(⟨a.1,(⟨a.2.1,a.2.2.1,a.2.2.2.1,a.2.2.2.2.1⟩ : f9),a.2.2.2.2.2.1,a.2.2.2.2.2.2⟩ : j3),(⟨b.1,(⟨b.2.1,b.2.2.1,b.2.2.2.1,b.2.2.2.2.1⟩ : f9),b.2.2.2.2.2.1,b.2.2.2.2.2.2⟩ : j3)] : List j3) ++ ([(⟨e.1,(⟨e.2.1,e.2.2.1,e.2.2.2.1,e.2.2.2.2.1⟩ : f9),e.2.2.2.2.2.1,e.2.2.2.2.2.2⟩ : j3),(⟨g.1,(⟨g.2.1,g.2.2.1,g.2.2.2.1,g.2.2.2.2.1⟩ : f9),g.2.2.2.2.2.1,g.2.2.2.2.2.2⟩ : j3)] : List j3)) ++ ([(⟨c.1,(⟨c.2.1,c.2.2.1,c.2.2.2.1,c.2.2.2.2.1⟩ : f9),c.2.2.2.2.2.1,c.2.2.2.2.2.2⟩ : j3),(⟨d.1,(⟨d.2.1,d.2.2.1,d.2.2.2.1,d.2.2.2.2.1⟩ : f9),d.2.2.2.2.2.1,d.2.2.2.2.2.2⟩ : j3)] : List j3)) ++ ([(⟨j.1,(⟨j.2.1,j.2.2.1,j.2.2.2.1,j.2.2.2.2.1⟩ : f9),j.2.2.2.2.2.1,j.2.2.2.2.2.2⟩ : j3)] : List j3)) else none)) else none else none))) else if m = 2 then ((H1.f 3 p (n ++ (⟨#[97]⟩ : ByteArray)) r).bind fun h=>((A0.f (n ++ (⟨#[97]⟩ : ByteArray))).bind fun i=>(if ([(⟨a.1,(⟨a.2.1,a.2.2.1,a.2.2.2.1,a.2.2.2.2.1⟩ : f9),a.2.2.2.2.2.1,a.2.2.2.2.2.2⟩ : j3),(⟨b.1,(⟨b.2.1,b.2.2.1,b.2.2.2.1,b.2.2.2.2.1⟩ : f9),b.2.2.2.2.2.1,b.2.2.2.2.2.2⟩ : j3)] : List j3).length + ([(⟨h.1,(⟨h.2.1,h.2.2.1,h.2.2.2.1,h.2.2.2.2.1⟩ : f9),h.2.2.2.2.2.1,h.2.2.2.2.2.2⟩ : j3),(⟨i.1,(⟨i.2.1,i.2.2.1,i.2.2.2.1,i.2.2.2.2.1⟩ : f9),i.2.2.2.2.2.1,i.2.2.2.2.2.2⟩ : j3)] : List j3).length < 1759218604441 then if (([(⟨a.1,(⟨a.2.1,a.2.2.1,a.2.2.2.1,a.2.2.2.2.1⟩ : f9),a.2.2.2.2.2.1,a.2.2.2.2.2.2⟩ : j3),(⟨b.1,(⟨b.2.1,b.2.2.1,b.2.2.2.1,b.2.2.2.2.1⟩ : f9),b.2.2.2.2.2.1,b.2.2.2.2.2.2⟩ : j3)] : List j3) ++ ([(⟨h.1,(⟨h.2.1,h.2.2.1,h.2.2.2.1,h.2.2.2.2.1⟩ : f9),h.2.2.2.2.2.1,h.2.2.2.2.2.2⟩ : j3),(⟨i.1,(⟨i.2.1,i.2.2.1,i.2.2.2.1,i.2.2.2.2.1⟩ : f9),i.2.2.2.2.2.1,i.2.2.2.2.2.2⟩ : j3)] : List j3)).length + ([(⟨c.1,(⟨c.2.1,c.2.2.1,c.2.2.2.1,c.2.2.2.2.1⟩ : f9),c.2.2.2.2.2.1,c.2.2.2.2.2.2⟩ : j3),(⟨d.1,(⟨d.2.1,d.2.2.1,d.2.2.2.1,d.2.2.2.2.1⟩ : f9),d.2.2.2.2.2.1,d.2.2.2.2.2.2⟩ : j3)] : List j3).length < 1759218604441 then ((H1.f 3 q s r).bind fun l=>(if ((([(⟨a.1,(⟨a.2.1,a.2.2.1,a.2.2.2.1,a.2.2.2.2.1⟩ : f9),a.2.2.2.2.2.1,a.2.2.2.2.2.2⟩ : j3),(⟨b.1,(⟨b.2.1,b.2.2.1,b.2.2.2.1,b.2.2.2.2.1⟩ : f9),b.2.2.2.2.2.1,b.2.2.2.2.2.2⟩ : j3)] : List j3) ++ ([(⟨h.1,(⟨h.2.1,h.2.2.1,h.2.2.2.1,h.2.2.2.2.1⟩ : f9),h.2.2.2.2.2.1,h.2.2.2.2.2.2⟩ : j3),(⟨i.1,(⟨i.2.1,i.2.2.1,i.2.2.2.1,i.2.2.2.2.1⟩ : f9),i.2.2.2.2.2.1,i.2.2.2.2.2.2⟩ : j3)] : List j3)) ++ ([(⟨c.1,(⟨c.2.1,c.2.2.1,c.2.2.2.1,c.2.2.2.2.1⟩ : f9),c.2.2.2.2.2.1,c.2.2.2.2.2.2⟩ : j3),(⟨d.1,(⟨d.2.1,d.2.2.1,d.2.2.2.1,d.2.2.2.2.1⟩ : f9),d.2.2.2.2.2.1,d.2.2.2.2.2.2⟩ : j3)] : List j3)).length + ([(⟨l.1,(⟨l.2.1,l.2.2.1,l.2.2.2.1,l.2.2.2.2.1⟩ : f9),l.2.2.2.2.2.1,l.2.2.2.2.2.2⟩ : j3)] : List j3).length < 1759218604441 then some (((([(⟨a.1,(⟨a.2.1,a.2.2.1,a.2.2.2.1,a.2.2.2.2.1⟩ : f9),a.2.2.2.2.2.1,a.2.2.2.2.2.2⟩ : j3),(⟨b.1,(⟨b.2.1,b.2.2.1,b.2.2.2.1,b.2.2.2.2.1⟩ : f9),b.2.2.2.2.2.1,b.2.2.2.2.2.2⟩ : j3)] : List j3) ++ ([(⟨h.1,(⟨h.2.1,h.2.2.1,h.2.2.2.1,h.2.2.2.2.1⟩ : f9),h.2.2.2.2.2.1,h.2.2.2.2.2.2⟩ : j3),(⟨i.1,(⟨i.2.1,i.2.2.1,i.2.2.2.1,i.2.2.2.2.1⟩ : f9),i.2.2.2.2.2.1,i.2.2.2.2.2.2⟩ : j3)] : List j3)) ++ ([(⟨c.1,(⟨c.2.1,c.2.2.1,c.2.2.2.1,c.2.2.2.2.1⟩ : f9),c.2.2.2.2.2.1,c.2.2.2.2.2.2⟩ : j3),(⟨d.1,(⟨d.2.1,d.2.2.1,d.2.2.2.1,d.2.2.2.2.1⟩ : f9),d.2.2.2.2.2.1,d.2.2.2.2.2.2⟩ : j3)] : List j3)) ++ ([(⟨l.1,(⟨l.2.1,l.2.2.1,l.2.2.2.1,l.2.2.2.2.1⟩ : f9),l.2.2.2.2.2.1,l.2.2.2.2.2.2⟩ : j3)] : List j3)) else none)) else none else none))) else if m = 4 then F8.j0 k o t u m p q n a b c d s r 4 else if m = 6 then F8.j0 k o t u m p q n a b c d r s 5 else if m = 3 then F8.j0 k o t u m p q n a b c d s r 5 else F8.j0 k o t u m p q n a b c d r s 4)) else none) else none else some ([] : List j3)
theorem F8.ok (H : F8.f k u v w x y z s N O = some r) : j7 Tryz.prog 366 [] [.agg [.lit (.int .i64 u),.lit (.int .i64 v),.lit (.int .i64 w),.lit (.int .i64 x),.lit (.int .i64 y),.lit (.int .i64 z)],.lit (.string s),.lit (.string N),.lit (.string O)] [(0,.row 278 7 (r.map C6))] (.row 0):=by
 refine u3 136 Tryz.func366 fun E hE=>?_
 rw [F8.f] at H
 refine d8<|c9<|k1 (K2 0) ?_
 refine rn rfl<|d9<|c8<|d8<|d8<|c9<|rn rfl ?_
 obtain ⟨aH,P,H⟩:=f6 H
 refine kC (cl (aa7.ok P) []) ?_
 refine rn rfl<|d9<|c8 ?_
 obtain ⟨B,H⟩|⟨B,H⟩:=oi H
 ·refine iF (nF B)<|i9<|c8<|d8<|c9<|rn rfl ?_
  obtain ⟨Q,H⟩:=i8 H
  refine k0 (N4 Q) ?_
  refine rn rfl ?_
  obtain ⟨R,H⟩:=i8 H
  refine k0 (N4 R) ?_
  refine rn rfl<|d9<|c8<|d8<|c9<|rn rfl ?_
  obtain ⟨a,T,H⟩:=f6 H
  refine kC (cl (G1.ok T) []) ?_
  refine rn rfl ?_
  obtain ⟨b,U,H⟩:=f6 H
  refine kC (cl (G1.ok U) [])<|k1 (u7 2 278 7 [.string .empty,.int .i64 0,.int .i64 0,.int .i64 0,.int .i64 0,.string .empty,.string .empty] (([(⟨a.1,(⟨a.2.1,a.2.2.1,a.2.2.2.1,a.2.2.2.2.1⟩ : f9),a.2.2.2.2.2.1,a.2.2.2.2.2.2⟩ : j3),(⟨b.1,(⟨b.2.1,b.2.2.1,b.2.2.2.1,b.2.2.2.2.1⟩ : f9),b.2.2.2.2.2.1,b.2.2.2.2.2.2⟩ : j3)] : List j3).map C6)) ?_
  refine rn rfl<|ed<|c8<|d8<|c9<|rn rfl ?_
  obtain ⟨c,V,H⟩:=f6 H
  refine kC (cl (G1.ok V) []) ?_
  refine rn rfl ?_
  obtain ⟨d,W,H⟩:=f6 H
  refine kC (cl (G1.ok W) [])<|k1 (u7 3 278 7 [.string .empty,.int .i64 0,.int .i64 0,.int .i64 0,.int .i64 0,.string .empty,.string .empty] (([(⟨c.1,(⟨c.2.1,c.2.2.1,c.2.2.2.1,c.2.2.2.2.1⟩ : f9),c.2.2.2.2.2.1,c.2.2.2.2.2.2⟩ : j3),(⟨d.1,(⟨d.2.1,d.2.2.1,d.2.2.2.1,d.2.2.2.2.1⟩ : f9),d.2.2.2.2.2.1,d.2.2.2.2.2.2⟩ : j3)] : List j3).map C6)) ?_
  refine rn rfl<|ed<|c8<|d8<|c9<|rn rfl<|d9<|c8 ?_
  refine H0 (J:=Jc3 E 136 r k (fun k=>F8.j0 k u v w x y z s a b c d) (fun K L M=>⟨[(2,.lit (.string K)),(3,.lit (.string L)),(4,.box 0 0),(9,.lit (.string (s ++ (⟨#[97]⟩ : ByteArray)))),(10,.lit (.string (s ++ (⟨#[98]⟩ : ByteArray)))),(11,.row 2),(12,.row 3),(13,.lit (.int .i64 M))],[(0,.box 273 [.lit (.int .i64 u),.lit (.int .i64 v),.lit (.int .i64 w),.lit (.int .i64 x),.lit (.int .i64 y),.lit (.int .i64 z)]),(2,.row 278 7 (([(⟨a.1,(⟨a.2.1,a.2.2.1,a.2.2.2.1,a.2.2.2.2.1⟩ : f9),a.2.2.2.2.2.1,a.2.2.2.2.2.2⟩ : j3),(⟨b.1,(⟨b.2.1,b.2.2.1,b.2.2.2.1,b.2.2.2.2.1⟩ : f9),b.2.2.2.2.2.1,b.2.2.2.2.2.2⟩ : j3)] : List j3).map C6)),(3,.row 278 7 (([(⟨c.1,(⟨c.2.1,c.2.2.1,c.2.2.2.1,c.2.2.2.2.1⟩ : f9),c.2.2.2.2.2.1,c.2.2.2.2.2.2⟩ : j3),(⟨d.1,(⟨d.2.1,d.2.2.1,d.2.2.2.1,d.2.2.2.2.1⟩ : f9),d.2.2.2.2.2.1,d.2.2.2.2.2.2⟩ : j3)] : List j3).map C6))]⟩)) ?_ ?_
  ·intro aI t
   refine d8<|c9<|rn rfl<|d9<|c8<|j4<|d8<|c9<|rn rfl<|d9<|c8 ?_
   obtain ⟨C,H⟩|⟨C,H⟩:=oi H
   ·refine iT (eT C)<|d8<|c9<|rn rfl ?_
    obtain ⟨e,X,H⟩:=f6 H
    refine kC (cl (H1.ok X) []) ?_
    refine rn rfl ?_
    obtain ⟨g,Y,H⟩:=f6 H
    refine kC (cl (A0.ok Y) [])<|k1 (u7 4 278 7 [.string .empty,.int .i64 0,.int .i64 0,.int .i64 0,.int .i64 0,.string .empty,.string .empty] (([(⟨e.1,(⟨e.2.1,e.2.2.1,e.2.2.2.1,e.2.2.2.2.1⟩ : f9),e.2.2.2.2.2.1,e.2.2.2.2.2.2⟩ : j3),(⟨g.1,(⟨g.2.1,g.2.2.1,g.2.2.2.1,g.2.2.2.2.1⟩ : f9),g.2.2.2.2.2.1,g.2.2.2.2.2.2⟩ : j3)] : List j3).map C6)) ?_
    obtain ⟨Z,H⟩:=i8 H
    refine k3 (D7 5 278 7 80 [.string .empty,.int .i64 0,.int .i64 0,.int .i64 0,.int .i64 0,.string .empty,.string .empty] ((([(⟨a.1,(⟨a.2.1,a.2.2.1,a.2.2.2.1,a.2.2.2.2.1⟩ : f9),a.2.2.2.2.2.1,a.2.2.2.2.2.2⟩ : j3),(⟨b.1,(⟨b.2.1,b.2.2.1,b.2.2.2.1,b.2.2.2.2.1⟩ : f9),b.2.2.2.2.2.1,b.2.2.2.2.2.2⟩ : j3)] : List j3) ++ ([(⟨e.1,(⟨e.2.1,e.2.2.1,e.2.2.2.1,e.2.2.2.2.1⟩ : f9),e.2.2.2.2.2.1,e.2.2.2.2.2.2⟩ : j3),(⟨g.1,(⟨g.2.1,g.2.2.1,g.2.2.2.1,g.2.2.2.2.1⟩ : f9),g.2.2.2.2.2.1,g.2.2.2.2.2.2⟩ : j3)] : List j3)).map C6) (.row rfl) (D8 Z rfl) z7) ?_
    refine rn rfl<|d9<|c8<|d8<|c9<|rn rfl ?_
    obtain ⟨a0,H⟩:=i8 H
    refine k3 (D7 6 278 7 80 [.string .empty,.int .i64 0,.int .i64 0,.int .i64 0,.int .i64 0,.string .empty,.string .empty] (((([(⟨a.1,(⟨a.2.1,a.2.2.1,a.2.2.2.1,a.2.2.2.2.1⟩ : f9),a.2.2.2.2.2.1,a.2.2.2.2.2.2⟩ : j3),(⟨b.1,(⟨b.2.1,b.2.2.1,b.2.2.2.1,b.2.2.2.2.1⟩ : f9),b.2.2.2.2.2.1,b.2.2.2.2.2.2⟩ : j3)] : List j3) ++ ([(⟨e.1,(⟨e.2.1,e.2.2.1,e.2.2.2.1,e.2.2.2.2.1⟩ : f9),e.2.2.2.2.2.1,e.2.2.2.2.2.2⟩ : j3),(⟨g.1,(⟨g.2.1,g.2.2.1,g.2.2.2.1,g.2.2.2.2.1⟩ : f9),g.2.2.2.2.2.1,g.2.2.2.2.2.2⟩ : j3)] : List j3)) ++ ([(⟨c.1,(⟨c.2.1,c.2.2.1,c.2.2.2.1,c.2.2.2.2.1⟩ : f9),c.2.2.2.2.2.1,c.2.2.2.2.2.2⟩ : j3),(⟨d.1,(⟨d.2.1,d.2.2.1,d.2.2.2.1,d.2.2.2.2.1⟩ : f9),d.2.2.2.2.2.1,d.2.2.2.2.2.2⟩ : j3)] : List j3)).map C6) (.row rfl) (D8 a0 rfl) z7) ?_
    refine rn rfl ?_
    obtain ⟨o,a1,H⟩:=f6 H
    refine kC (cl (H1.ok a1) [])<|k1 (u7 7 278 7 [.string .empty,.int .i64 0,.int .i64 0,.int .i64 0,.int .i64 0,.string .empty,.string .empty] (([(⟨o.1,(⟨o.2.1,o.2.2.1,o.2.2.2.1,o.2.2.2.2.1⟩ : f9),o.2.2.2.2.2.1,o.2.2.2.2.2.2⟩ : j3)] : List j3).map C6)) ?_
    obtain ⟨a2,H⟩:=i8 H
    refine k3 (D7 8 278 7 80 [.string .empty,.int .i64 0,.int .i64 0,.int .i64 0,.int .i64 0,.string .empty,.string .empty] ((((([(⟨a.1,(⟨a.2.1,a.2.2.1,a.2.2.2.1,a.2.2.2.2.1⟩ : f9),a.2.2.2.2.2.1,a.2.2.2.2.2.2⟩ : j3),(⟨b.1,(⟨b.2.1,b.2.2.1,b.2.2.2.1,b.2.2.2.2.1⟩ : f9),b.2.2.2.2.2.1,b.2.2.2.2.2.2⟩ : j3)] : List j3) ++ ([(⟨e.1,(⟨e.2.1,e.2.2.1,e.2.2.2.1,e.2.2.2.2.1⟩ : f9),e.2.2.2.2.2.1,e.2.2.2.2.2.2⟩ : j3),(⟨g.1,(⟨g.2.1,g.2.2.1,g.2.2.2.1,g.2.2.2.2.1⟩ : f9),g.2.2.2.2.2.1,g.2.2.2.2.2.2⟩ : j3)] : List j3)) ++ ([(⟨c.1,(⟨c.2.1,c.2.2.1,c.2.2.2.1,c.2.2.2.2.1⟩ : f9),c.2.2.2.2.2.1,c.2.2.2.2.2.2⟩ : j3),(⟨d.1,(⟨d.2.1,d.2.2.1,d.2.2.2.1,d.2.2.2.2.1⟩ : f9),d.2.2.2.2.2.1,d.2.2.2.2.2.2⟩ : j3)] : List j3)) ++ ([(⟨o.1,(⟨o.2.1,o.2.2.1,o.2.2.2.1,o.2.2.2.2.1⟩ : f9),o.2.2.2.2.2.1,o.2.2.2.2.2.2⟩ : j3)] : List j3)).map C6) (.row rfl) (D8 a2 rfl) z7) ?_
    refine rn rfl<|ed<|c8<|f7<|l7<|f8 ?_
    obtain rfl:=si H
    exact rt hE [(0,8)]
   refine iF (eF C)<|d8<|c9<|rn rfl<|d9<|c8 ?_
   obtain ⟨D,H⟩|⟨D,H⟩:=oi H
   ·refine iT (eT D)<|d8<|c9<|rn rfl ?_
    obtain ⟨h,a3,H⟩:=f6 H
    refine kC (cl (H1.ok a3) []) ?_
    refine rn rfl ?_
    obtain ⟨i,a4,H⟩:=f6 H
    refine kC (cl (A0.ok a4) [])<|k1 (u7 9 278 7 [.string .empty,.int .i64 0,.int .i64 0,.int .i64 0,.int .i64 0,.string .empty,.string .empty] (([(⟨h.1,(⟨h.2.1,h.2.2.1,h.2.2.2.1,h.2.2.2.2.1⟩ : f9),h.2.2.2.2.2.1,h.2.2.2.2.2.2⟩ : j3),(⟨i.1,(⟨i.2.1,i.2.2.1,i.2.2.2.1,i.2.2.2.2.1⟩ : f9),i.2.2.2.2.2.1,i.2.2.2.2.2.2⟩ : j3)] : List j3).map C6)) ?_
    obtain ⟨a5,H⟩:=i8 H
    refine k3 (D7 10 278 7 80 [.string .empty,.int .i64 0,.int .i64 0,.int .i64 0,.int .i64 0,.string .empty,.string .empty] ((([(⟨a.1,(⟨a.2.1,a.2.2.1,a.2.2.2.1,a.2.2.2.2.1⟩ : f9),a.2.2.2.2.2.1,a.2.2.2.2.2.2⟩ : j3),(⟨b.1,(⟨b.2.1,b.2.2.1,b.2.2.2.1,b.2.2.2.2.1⟩ : f9),b.2.2.2.2.2.1,b.2.2.2.2.2.2⟩ : j3)] : List j3) ++ ([(⟨h.1,(⟨h.2.1,h.2.2.1,h.2.2.2.1,h.2.2.2.2.1⟩ : f9),h.2.2.2.2.2.1,h.2.2.2.2.2.2⟩ : j3),(⟨i.1,(⟨i.2.1,i.2.2.1,i.2.2.2.1,i.2.2.2.2.1⟩ : f9),i.2.2.2.2.2.1,i.2.2.2.2.2.2⟩ : j3)] : List j3)).map C6) (.row rfl) (D8 a5 rfl) z7) ?_
    refine rn rfl<|d9<|c8<|d8<|c9<|rn rfl ?_
    obtain ⟨a6,H⟩:=i8 H
    refine k3 (D7 11 278 7 80 [.string .empty,.int .i64 0,.int .i64 0,.int .i64 0,.int .i64 0,.string .empty,.string .empty] (((([(⟨a.1,(⟨a.2.1,a.2.2.1,a.2.2.2.1,a.2.2.2.2.1⟩ : f9),a.2.2.2.2.2.1,a.2.2.2.2.2.2⟩ : j3),(⟨b.1,(⟨b.2.1,b.2.2.1,b.2.2.2.1,b.2.2.2.2.1⟩ : f9),b.2.2.2.2.2.1,b.2.2.2.2.2.2⟩ : j3)] : List j3) ++ ([(⟨h.1,(⟨h.2.1,h.2.2.1,h.2.2.2.1,h.2.2.2.2.1⟩ : f9),h.2.2.2.2.2.1,h.2.2.2.2.2.2⟩ : j3),(⟨i.1,(⟨i.2.1,i.2.2.1,i.2.2.2.1,i.2.2.2.2.1⟩ : f9),i.2.2.2.2.2.1,i.2.2.2.2.2.2⟩ : j3)] : List j3)) ++ ([(⟨c.1,(⟨c.2.1,c.2.2.1,c.2.2.2.1,c.2.2.2.2.1⟩ : f9),c.2.2.2.2.2.1,c.2.2.2.2.2.2⟩ : j3),(⟨d.1,(⟨d.2.1,d.2.2.1,d.2.2.2.1,d.2.2.2.2.1⟩ : f9),d.2.2.2.2.2.1,d.2.2.2.2.2.2⟩ : j3)] : List j3)).map C6) (.row rfl) (D8 a6 rfl) z7) ?_
    refine rn rfl ?_
    obtain ⟨p,a7,H⟩:=f6 H
    refine kC (cl (H1.ok a7) [])<|k1 (u7 12 278 7 [.string .empty,.int .i64 0,.int .i64 0,.int .i64 0,.int .i64 0,.string .empty,.string .empty] (([(⟨p.1,(⟨p.2.1,p.2.2.1,p.2.2.2.1,p.2.2.2.2.1⟩ : f9),p.2.2.2.2.2.1,p.2.2.2.2.2.2⟩ : j3)] : List j3).map C6)) ?_
    obtain ⟨a8,H⟩:=i8 H
    refine k3 (D7 13 278 7 80 [.string .empty,.int .i64 0,.int .i64 0,.int .i64 0,.int .i64 0,.string .empty,.string .empty] ((((([(⟨a.1,(⟨a.2.1,a.2.2.1,a.2.2.2.1,a.2.2.2.2.1⟩ : f9),a.2.2.2.2.2.1,a.2.2.2.2.2.2⟩ : j3),(⟨b.1,(⟨b.2.1,b.2.2.1,b.2.2.2.1,b.2.2.2.2.1⟩ : f9),b.2.2.2.2.2.1,b.2.2.2.2.2.2⟩ : j3)] : List j3) ++ ([(⟨h.1,(⟨h.2.1,h.2.2.1,h.2.2.2.1,h.2.2.2.2.1⟩ : f9),h.2.2.2.2.2.1,h.2.2.2.2.2.2⟩ : j3),(⟨i.1,(⟨i.2.1,i.2.2.1,i.2.2.2.1,i.2.2.2.2.1⟩ : f9),i.2.2.2.2.2.1,i.2.2.2.2.2.2⟩ : j3)] : List j3)) ++ ([(⟨c.1,(⟨c.2.1,c.2.2.1,c.2.2.2.1,c.2.2.2.2.1⟩ : f9),c.2.2.2.2.2.1,c.2.2.2.2.2.2⟩ : j3),(⟨d.1,(⟨d.2.1,d.2.2.1,d.2.2.2.1,d.2.2.2.2.1⟩ : f9),d.2.2.2.2.2.1,d.2.2.2.2.2.2⟩ : j3)] : List j3)) ++ ([(⟨p.1,(⟨p.2.1,p.2.2.1,p.2.2.2.1,p.2.2.2.2.1⟩ : f9),p.2.2.2.2.2.1,p.2.2.2.2.2.2⟩ : j3)] : List j3)).map C6) (.row rfl) (D8 a8 rfl) z7) ?_
    refine rn rfl<|ed<|c8<|f7<|l7<|f8 ?_
    obtain rfl:=si H
    exact rt hE [(0,13)]
   refine iF (eF D)<|d8<|c9<|rn rfl<|d9<|c8 ?_
   obtain ⟨F,H⟩|⟨F,H⟩:=oi H
   ·refine iT (eT F)<|c9<|rn rfl<|d9<|j6<|l6 ?_
    exact aw hE [] (t.u (Nat.le_refl _) H)
   refine iF (eF F)<|d8<|c9<|rn rfl<|d9<|c8 ?_
   obtain ⟨G,H⟩|⟨G,H⟩:=oi H
   ·refine iT (eT G)<|c9<|rn rfl<|d9<|j6<|l6 ?_
    exact aw hE [] (t.u (Nat.le_refl _) H)
   refine iF (eF G)<|d8<|c9<|rn rfl<|d9<|c8 ?_
   obtain ⟨I,H⟩|⟨I,H⟩:=oi H
   ·refine iT (eT I)<|d8<|c9<|rn rfl<|d9<|c8<|c9<|rn rfl<|d9<|j6<|l6 ?_
    exact aw hE [] (t.u (Nat.le_refl _) H)
   refine iF (eF I)<|i9<|j6<|l6 ?_
   exact aw hE [] (t.u (Nat.le_refl _) H)
  refine jc3 (fun _ _ _ _=>F8.j0.eq_2 ..) fun aJ K L M aK H=>?_
  refine d8<|c9<|rn rfl ?_
  obtain ⟨j,a9,H⟩:=f6 H
  refine kC (cl (H1.ok a9) []) ?_
  refine rn rfl ?_
  obtain ⟨l,aA,H⟩:=f6 H
  refine kC (cl (A0.ok aA) []) ?_
  refine rn rfl ?_
  obtain ⟨m,aB,H⟩:=f6 H
  refine kC (cl (H1.ok aB) []) ?_
  refine rn rfl ?_
  obtain ⟨n,aC,H⟩:=f6 H
  refine kC (cl (A0.ok aC) [])<|k1 (u7 14 278 7 [.string .empty,.int .i64 0,.int .i64 0,.int .i64 0,.int .i64 0,.string .empty,.string .empty] (([(⟨j.1,(⟨j.2.1,j.2.2.1,j.2.2.2.1,j.2.2.2.2.1⟩ : f9),j.2.2.2.2.2.1,j.2.2.2.2.2.2⟩ : j3),(⟨l.1,(⟨l.2.1,l.2.2.1,l.2.2.2.1,l.2.2.2.2.1⟩ : f9),l.2.2.2.2.2.1,l.2.2.2.2.2.2⟩ : j3),(⟨m.1,(⟨m.2.1,m.2.2.1,m.2.2.2.1,m.2.2.2.2.1⟩ : f9),m.2.2.2.2.2.1,m.2.2.2.2.2.2⟩ : j3),(⟨n.1,(⟨n.2.1,n.2.2.1,n.2.2.2.1,n.2.2.2.2.1⟩ : f9),n.2.2.2.2.2.1,n.2.2.2.2.2.2⟩ : j3)] : List j3).map C6) (hl:=by kernel_rfl)) ?_
  obtain ⟨aD,H⟩:=i8 H
  refine k3 (D7 15 278 7 80 [.string .empty,.int .i64 0,.int .i64 0,.int .i64 0,.int .i64 0,.string .empty,.string .empty] ((([(⟨a.1,(⟨a.2.1,a.2.2.1,a.2.2.2.1,a.2.2.2.2.1⟩ : f9),a.2.2.2.2.2.1,a.2.2.2.2.2.2⟩ : j3),(⟨b.1,(⟨b.2.1,b.2.2.1,b.2.2.2.1,b.2.2.2.2.1⟩ : f9),b.2.2.2.2.2.1,b.2.2.2.2.2.2⟩ : j3)] : List j3) ++ ([(⟨j.1,(⟨j.2.1,j.2.2.1,j.2.2.2.1,j.2.2.2.2.1⟩ : f9),j.2.2.2.2.2.1,j.2.2.2.2.2.2⟩ : j3),(⟨l.1,(⟨l.2.1,l.2.2.1,l.2.2.2.1,l.2.2.2.2.1⟩ : f9),l.2.2.2.2.2.1,l.2.2.2.2.2.2⟩ : j3),(⟨m.1,(⟨m.2.1,m.2.2.1,m.2.2.2.1,m.2.2.2.2.1⟩ : f9),m.2.2.2.2.2.1,m.2.2.2.2.2.2⟩ : j3),(⟨n.1,(⟨n.2.1,n.2.2.1,n.2.2.2.1,n.2.2.2.2.1⟩ : f9),n.2.2.2.2.2.1,n.2.2.2.2.2.2⟩ : j3)] : List j3)).map C6) (.row rfl) (D8 aD rfl) z7) ?_
  refine rn rfl<|ed<|c8<|d8<|c9<|rn rfl ?_
  obtain ⟨aE,H⟩:=i8 H
  refine k3 (D7 16 278 7 80 [.string .empty,.int .i64 0,.int .i64 0,.int .i64 0,.int .i64 0,.string .empty,.string .empty] (((([(⟨a.1,(⟨a.2.1,a.2.2.1,a.2.2.2.1,a.2.2.2.2.1⟩ : f9),a.2.2.2.2.2.1,a.2.2.2.2.2.2⟩ : j3),(⟨b.1,(⟨b.2.1,b.2.2.1,b.2.2.2.1,b.2.2.2.2.1⟩ : f9),b.2.2.2.2.2.1,b.2.2.2.2.2.2⟩ : j3)] : List j3) ++ ([(⟨j.1,(⟨j.2.1,j.2.2.1,j.2.2.2.1,j.2.2.2.2.1⟩ : f9),j.2.2.2.2.2.1,j.2.2.2.2.2.2⟩ : j3),(⟨l.1,(⟨l.2.1,l.2.2.1,l.2.2.2.1,l.2.2.2.2.1⟩ : f9),l.2.2.2.2.2.1,l.2.2.2.2.2.2⟩ : j3),(⟨m.1,(⟨m.2.1,m.2.2.1,m.2.2.2.1,m.2.2.2.2.1⟩ : f9),m.2.2.2.2.2.1,m.2.2.2.2.2.2⟩ : j3),(⟨n.1,(⟨n.2.1,n.2.2.1,n.2.2.2.1,n.2.2.2.2.1⟩ : f9),n.2.2.2.2.2.1,n.2.2.2.2.2.2⟩ : j3)] : List j3)) ++ ([(⟨c.1,(⟨c.2.1,c.2.2.1,c.2.2.2.1,c.2.2.2.2.1⟩ : f9),c.2.2.2.2.2.1,c.2.2.2.2.2.2⟩ : j3),(⟨d.1,(⟨d.2.1,d.2.2.1,d.2.2.2.1,d.2.2.2.2.1⟩ : f9),d.2.2.2.2.2.1,d.2.2.2.2.2.2⟩ : j3)] : List j3)).map C6) (.row rfl) (D8 aE rfl) z7) ?_
  refine rn rfl ?_
  obtain ⟨q,aF,H⟩:=f6 H
  refine kC (cl (H1.ok aF) [])<|k1 (u7 17 278 7 [.string .empty,.int .i64 0,.int .i64 0,.int .i64 0,.int .i64 0,.string .empty,.string .empty] (([(⟨q.1,(⟨q.2.1,q.2.2.1,q.2.2.2.1,q.2.2.2.2.1⟩ : f9),q.2.2.2.2.2.1,q.2.2.2.2.2.2⟩ : j3)] : List j3).map C6)) ?_
  obtain ⟨aG,H⟩:=i8 H
  refine k3 (D7 18 278 7 80 [.string .empty,.int .i64 0,.int .i64 0,.int .i64 0,.int .i64 0,.string .empty,.string .empty] ((((([(⟨a.1,(⟨a.2.1,a.2.2.1,a.2.2.2.1,a.2.2.2.2.1⟩ : f9),a.2.2.2.2.2.1,a.2.2.2.2.2.2⟩ : j3),(⟨b.1,(⟨b.2.1,b.2.2.1,b.2.2.2.1,b.2.2.2.2.1⟩ : f9),b.2.2.2.2.2.1,b.2.2.2.2.2.2⟩ : j3)] : List j3) ++ ([(⟨j.1,(⟨j.2.1,j.2.2.1,j.2.2.2.1,j.2.2.2.2.1⟩ : f9),j.2.2.2.2.2.1,j.2.2.2.2.2.2⟩ : j3),(⟨l.1,(⟨l.2.1,l.2.2.1,l.2.2.2.1,l.2.2.2.2.1⟩ : f9),l.2.2.2.2.2.1,l.2.2.2.2.2.2⟩ : j3),(⟨m.1,(⟨m.2.1,m.2.2.1,m.2.2.2.1,m.2.2.2.2.1⟩ : f9),m.2.2.2.2.2.1,m.2.2.2.2.2.2⟩ : j3),(⟨n.1,(⟨n.2.1,n.2.2.1,n.2.2.2.1,n.2.2.2.2.1⟩ : f9),n.2.2.2.2.2.1,n.2.2.2.2.2.2⟩ : j3)] : List j3)) ++ ([(⟨c.1,(⟨c.2.1,c.2.2.1,c.2.2.2.1,c.2.2.2.2.1⟩ : f9),c.2.2.2.2.2.1,c.2.2.2.2.2.2⟩ : j3),(⟨d.1,(⟨d.2.1,d.2.2.1,d.2.2.2.1,d.2.2.2.2.1⟩ : f9),d.2.2.2.2.2.1,d.2.2.2.2.2.2⟩ : j3)] : List j3)) ++ ([(⟨q.1,(⟨q.2.1,q.2.2.1,q.2.2.2.1,q.2.2.2.2.1⟩ : f9),q.2.2.2.2.2.1,q.2.2.2.2.2.2⟩ : j3)] : List j3)).map C6) (.row rfl) (D8 aG rfl) z7) ?_
  refine rn rfl<|ed<|c8<|f7 ?_
  obtain rfl:=si H
  exact rt hE [(0,18)]
 refine iT (nT (bF B))<|d8<|c9<|k1 (u7 1 278 7 [.string .empty,.int .i64 0,.int .i64 0,.int .i64 0,.int .i64 0,.string .empty,.string .empty] (([] : List j3).map C6)) ?_
 refine rn rfl<|d9<|c8<|f7<|f8 ?_
 obtain rfl:=si H
 exact rt hE [(0,1)]
def G8.l0 : Nat→(List Int)→(List B9)→Int→Int→ByteArray→ByteArray→(List j3)→Int→Y43
 | 0,_,_,_,_,_,_,_,_=>none
 | h + 1,o,d,k,l,e,m,g,c=>if c < (d.length : Int) then if 0≤c then if e.size + (⟨#[110]⟩ : ByteArray).size≤9223372036854775807 then ((K7.f h c).bind fun i=>(if (e ++ (⟨#[110]⟩ : ByteArray)).size + i.size≤9223372036854775807 then (K7.f h c).bind fun n=>(if e.size + n.size≤9223372036854775807 then ((F8.f h ((A4 d c).f0) ((A4 d c).f1.f0) ((A4 d c).f1.f1) ((A4 d c).f2) ((A4 d c).f3.f0) ((A4 d c).f3.f1) (e ++ n) ((e ++ (⟨#[110]⟩ : ByteArray)) ++ i) m).bind fun j=>(if g.length + j.length < 1759218604441 then (A0.f ((e ++ (⟨#[110]⟩ : ByteArray)) ++ i)).bind fun a=>(if (g ++ j).length + ([(⟨a.1,(⟨a.2.1,a.2.2.1,a.2.2.2.1,a.2.2.2.2.1⟩ : f9),a.2.2.2.2.2.1,a.2.2.2.2.2.2⟩ : j3)] : List j3).length < 1759218604441 then G8.l0 h o d k l e m ((g ++ j) ++ ([(⟨a.1,(⟨a.2.1,a.2.2.1,a.2.2.2.1,a.2.2.2.2.1⟩ : f9),a.2.2.2.2.2.1,a.2.2.2.2.2.2⟩ : j3)] : List j3)) (wrap64 (c + 1)) else none) else none)) else none) else none)) else none else none else (E8.f k l).bind fun p=>((G1.f 8 p).bind fun b=>(if g.length + ([(⟨b.1,(⟨b.2.1,b.2.2.1,b.2.2.2.1,b.2.2.2.2.1⟩ : f9),b.2.2.2.2.2.1,b.2.2.2.2.2.2⟩ : j3)] : List j3).length < 1759218604441 then some (g ++ ([(⟨b.1,(⟨b.2.1,b.2.2.1,b.2.2.2.1,b.2.2.2.2.1⟩ : f9),b.2.2.2.2.2.1,b.2.2.2.2.2.2⟩ : j3)] : List j3)) else none))
def G8.f (k : Nat) (a : List Int) (b : List B9) (c : Int) (d : Int) (e : ByteArray) (g : ByteArray) : Y43:=G8.l0 k a b c d e g ([] : List j3) 0
theorem G8.ok (H : G8.f k g c i j l m = some r) : j7 Tryz.prog 353 [] [.agg [.sl .o 1 (g.map (eI .i64)),.sl .o 6 (c.map S9),.lit (.int .i64 i),.lit (.int .i64 j)],.lit (.string l),.lit (.string m)] [(0,.row 278 7 (r.map C6))] (.row 0):=by
 refine u3 50 Tryz.func353 fun E hE=>?_
 rw [G8.f] at H
 refine d8<|c9<|k1 (K2 0) ?_
 refine rn rfl<|d9<|c8<|d8<|c9<|k1 (u7 1 278 7 [.string .empty,.int .i64 0,.int .i64 0,.int .i64 0,.int .i64 0,.string .empty,.string .empty] (([] : List j3).map C6)) ?_
 refine rn rfl<|d9<|c8<|d8<|d8<|c9<|rn rfl<|k0 (G3 v7) ?_
 refine rn rfl<|d9<|c8<|j4 ?_
 refine V7 (fun k=>G8.l0 k g c i j l m) (fun d n=>⟨[(1,.lit (.string l)),(2,.lit (.string m)),(3,.box 0 0),(7,.row 1),(13,.sl .o 6 (c.map S9)),(14,.lit (.int .i64 (c.length : Int))),(15,.lit (.int .i64 n))],[(0,.box 233 [.sl .o 1 (g.map (eI .i64)),.sl .o 6 (c.map S9),.lit (.int .i64 i),.lit (.int .i64 j)]),(1,.row 278 7 (d.map C6))]⟩) H (fun _ h=>aw hE [] h) (fun _ _ _=>G8.l0.eq_2 ..) fun G d n I H J p=>?_
 refine d8<|c9<|rn rfl<|d9<|c8<|d8 ?_
 obtain ⟨e,H⟩|⟨e,H⟩:=oi H
 ·refine iT (decide_eq_true e)<|i9<|c8<|d8<|j4<|d8<|c9<|rn rfl ?_
  obtain ⟨q,H⟩:=i8 H
  refine k0 (iS q e) ?_
  refine rn rfl<|k1 (al 2) ?_
  refine rn rfl<|d9<|c8<|d8<|c9<|rn rfl ?_
  obtain ⟨s,H⟩:=i8 H
  refine k0 (N4 s) ?_
  refine rn rfl ?_
  obtain ⟨K,t,H⟩:=f6 H
  refine kC (cl (K7.ok t) []) ?_
  obtain ⟨u,H⟩:=i8 H
  refine k0 (N4 u) ?_
  refine rn rfl<|d9<|c8<|d8<|c9<|rn rfl ?_
  obtain ⟨L,v,H⟩:=f6 H
  refine kC (cl (K7.ok v) []) ?_
  obtain ⟨w,H⟩:=i8 H
  refine k0 (N4 w) ?_
  refine rn rfl ?_
  obtain ⟨o,x,H⟩:=f6 H
  refine kC (cl (F8.ok x) [3]) ?_
  obtain ⟨y,H⟩:=i8 H
  refine k3 (D7 4 278 7 80 [.string .empty,.int .i64 0,.int .i64 0,.int .i64 0,.int .i64 0,.string .empty,.string .empty] ((d ++ o).map C6) (.row rfl) (D8 y rfl) z7) ?_
  refine rn rfl<|ed<|c8<|c9<|rn rfl ?_
  obtain ⟨a,z,H⟩:=f6 H
  refine kC (cl (A0.ok z) [])<|k1 (u7 5 278 7 [.string .empty,.int .i64 0,.int .i64 0,.int .i64 0,.int .i64 0,.string .empty,.string .empty] (([(⟨a.1,(⟨a.2.1,a.2.2.1,a.2.2.2.1,a.2.2.2.2.1⟩ : f9),a.2.2.2.2.2.1,a.2.2.2.2.2.2⟩ : j3)] : List j3).map C6)) ?_
  obtain ⟨B,H⟩:=i8 H
  refine k3 (D7 6 278 7 80 [.string .empty,.int .i64 0,.int .i64 0,.int .i64 0,.int .i64 0,.string .empty,.string .empty] (((d ++ o) ++ ([(⟨a.1,(⟨a.2.1,a.2.2.1,a.2.2.2.1,a.2.2.2.2.1⟩ : f9),a.2.2.2.2.2.1,a.2.2.2.2.2.2⟩ : j3)] : List j3)).map C6) (.row rfl) (D8 B rfl) z7) ?_
  refine rn rfl<|d9<|j6<|c8<|c9<|rn rfl<|d9<|l6 ?_
  exact aw hE [(1,6)] (p (Nat.le_refl _) H)
 refine iF (decide_eq_false e)<|m6<|j5<|j5<|n7 rfl<|c8<|d8<|c9<|rn rfl ?_
 obtain ⟨M,C,H⟩:=f6 H
 refine kC (cl (E8.ok C) []) ?_
 obtain ⟨b,D,H⟩:=f6 H
 refine kC (cl (G1.ok D) [])<|k1 (u7 7 278 7 [.string .empty,.int .i64 0,.int .i64 0,.int .i64 0,.int .i64 0,.string .empty,.string .empty] (([(⟨b.1,(⟨b.2.1,b.2.2.1,b.2.2.2.1,b.2.2.2.2.1⟩ : f9),b.2.2.2.2.2.1,b.2.2.2.2.2.2⟩ : j3)] : List j3).map C6)) ?_
 obtain ⟨F,H⟩:=i8 H
 refine k3 (D7 8 278 7 80 [.string .empty,.int .i64 0,.int .i64 0,.int .i64 0,.int .i64 0,.string .empty,.string .empty] ((d ++ ([(⟨b.1,(⟨b.2.1,b.2.2.1,b.2.2.2.1,b.2.2.2.2.1⟩ : f9),b.2.2.2.2.2.1,b.2.2.2.2.2.2⟩ : j3)] : List j3)).map C6) (.row rfl) (D8 F rfl) z7) ?_
 refine rn rfl<|d9<|c8<|f7 ?_
 obtain rfl:=si H
 exact rt hE [(0,8)]
mutual
def r9.j0 : Nat→Int→Int→Int→(List D9)→Int→Bool→ByteArray→(List j3)→Int→Y43
 | 0,_,_,_,_,_,_,_,_,_=>none
 | o + 1,l,h,i,b,j,k,e,g,a=>if e.size + (strOfNums ([IntKind.u8.wrap (wrap64 (97 + a))] : List Int)).size≤9223372036854775807 then if (e ++ (strOfNums ([IntKind.u8.wrap (wrap64 (97 + a))] : List Int))).size + (⟨#[122]⟩ : ByteArray).size≤9223372036854775807 then ((G8.f o ((K0 b a).f0) ((K0 b a).f1) ((K0 b a).f2) ((K0 b a).f3) (e ++ (strOfNums ([IntKind.u8.wrap (wrap64 (97 + a))] : List Int))) ((e ++ (strOfNums ([IntKind.u8.wrap (wrap64 (97 + a))] : List Int))) ++ (⟨#[122]⟩ : ByteArray))).bind fun n=>(if g.length + n.length < 1759218604441 then (A0.f ((e ++ (strOfNums ([IntKind.u8.wrap (wrap64 (97 + a))] : List Int))) ++ (⟨#[122]⟩ : ByteArray))).bind fun c=>(if (g ++ n).length + ([(⟨c.1,(⟨c.2.1,c.2.2.1,c.2.2.2.1,c.2.2.2.2.1⟩ : f9),c.2.2.2.2.2.1,c.2.2.2.2.2.2⟩ : j3)] : List j3).length < 1759218604441 then r9.l0 o l h i b j k e ((g ++ n) ++ ([(⟨c.1,(⟨c.2.1,c.2.2.1,c.2.2.2.1,c.2.2.2.2.1⟩ : f9),c.2.2.2.2.2.1,c.2.2.2.2.2.2⟩ : j3)] : List j3)) (wrap64 (a + 1)) else none) else none)) else none else none
def r9.l0 : Nat→Int→Int→Int→(List D9)→Int→Bool→ByteArray→(List j3)→Int→Y43
 | 0,_,_,_,_,_,_,_,_,_=>none
 | m + 1,l,h,i,b,j,k,e,g,a=>if a < (b.length : Int) then if 0≤a then if a ≥ 26 then r9.l0 m l h i b j k e g (wrap64 (a + 1)) else (if (((K0 b a).f0).length : Int) > 0 then (if k = true then r9.l0 m l h i b j k e g (wrap64 (a + 1)) else ((L7.f m ((K0 b a).f0) j).bind fun p=>if p = true then r9.j0 m l h i b j k e g a else r9.l0 m l h i b j k e g (wrap64 (a + 1)))) else r9.j0 m l h i b j k e g a) else none else (E8.f h i).bind fun q=>((G1.f 8 q).bind fun d=>(if g.length + ([(⟨d.1,(⟨d.2.1,d.2.2.1,d.2.2.2.1,d.2.2.2.2.1⟩ : f9),d.2.2.2.2.2.1,d.2.2.2.2.2.2⟩ : j3)] : List j3).length < 1759218604441 then some (g ++ ([(⟨d.1,(⟨d.2.1,d.2.2.1,d.2.2.2.1,d.2.2.2.2.1⟩ : f9),d.2.2.2.2.2.1,d.2.2.2.2.2.2⟩ : j3)] : List j3)) else none))
end
def r9.f (k : Nat) (a : Int) (b : Int) (c : Int) (d : List D9) (e : Int) (g : Bool) (h : ByteArray) : Y43:=r9.l0 k a b c d e g h ([] : List j3) 0
theorem r9.ok (H : r9.f k l m n d o p q = some r) : j7 Tryz.prog 323 [] [.agg [.lit (.int .i64 l),.lit (.int .i64 m),.lit (.int .i64 n),.sl .o 4 (d.map X0)],.lit (.int .i64 o),.lit (.bool p),.lit (.string q)] [(0,.row 278 7 (r.map C6))] (.row 0):=by
 refine u3 70 Tryz.func323 fun E hE=>?_
 rw [r9.f] at H
 refine d8<|c9<|k1 (K2 0) ?_
 refine rn rfl<|d9<|c8<|d8<|c9<|k1 (u7 1 278 7 [.string .empty,.int .i64 0,.int .i64 0,.int .i64 0,.int .i64 0,.string .empty,.string .empty] (([] : List j3).map C6)) ?_
 refine rn rfl<|d9<|c8<|d8<|d8<|c9<|rn rfl<|k0 (G3 v7) ?_
 refine rn rfl<|d9<|c8<|j4 ?_
 refine V7 (fun k=>r9.l0 k l m n d o p q) (fun j g=>⟨[(1,.lit (.int .i64 o)),(2,.lit (.bool p)),(3,.lit (.string q)),(4,.box 0 0),(9,.row 1),(15,.sl .o 4 (d.map X0)),(16,.lit (.int .i64 (d.length : Int))),(17,.lit (.int .i64 g))],[(0,.box 189 [.lit (.int .i64 l),.lit (.int .i64 m),.lit (.int .i64 n),.sl .o 4 (d.map X0)]),(1,.row 278 7 (j.map C6))]⟩) H (fun _ h=>aw hE [] h) (fun _ _ _=>r9.l0.eq_2 ..) fun y j g N H O s=>?_
 refine d8<|c9<|rn rfl<|d9<|c8<|d8 ?_
 obtain ⟨t,H⟩|⟨t,H⟩:=oi H
 ·refine iT (decide_eq_true t)<|i9<|c8<|d8<|j4<|d8<|c9<|rn rfl ?_
  obtain ⟨z,H⟩:=i8 H
  refine k0 (iS z t) ?_
  refine rn rfl<|k1 (al 2) ?_
  refine rn rfl<|d9<|c8 ?_
  refine H0 (J:=Jc0 E 70 r y (fun k=>r9.j0 k l m n d o p q j g) ⟨[(1,.lit (.int .i64 o)),(2,.lit (.bool p)),(3,.lit (.string q)),(4,.box 0 0),(9,.row 1),(10,.lit (.int .i64 g)),(11,.box 2 0),(15,.sl .o 4 (d.map X0)),(16,.lit (.int .i64 (d.length : Int))),(17,.lit (.int .i64 g))],[(0,.box 189 [.lit (.int .i64 l),.lit (.int .i64 m),.lit (.int .i64 n),.sl .o 4 (d.map X0)]),(1,.row 278 7 (j.map C6)),(2,.box 233 [.sl .o 1 (((K0 d g).f0).map (eI .i64)),.sl .o 6 (((K0 d g).f1).map S9),.lit (.int .i64 ((K0 d g).f2)),.lit (.int .i64 ((K0 d g).f3))])]⟩) ?_ ?_
  ·intro P v
   refine d8<|c9<|rn rfl ?_
   obtain ⟨a,H⟩|⟨a,H⟩:=oi H
   ·iterate 4 refine kx (hF (decide_eq_true a)) ?_
    refine ku (neT (hF (decide_eq_true a))) ?_
    iterate 8 refine ku neU ?_
    refine kx (hF (decide_eq_true a)) ?_
    refine k0 (o8 (decide_eq_true a))<|d9<|c8<|iT rfl<|m6<|j5<|n7 rfl<|c8<|c9 ?_
    refine rn rfl<|d9<|l6 ?_
    exact aw hE [] (s (Nat.le_refl _) H)
   refine kv (g1 (decide_eq_false a)) (y8 0 0)<|kv (g1 (decide_eq_false a)) B5<|kv (g1 (decide_eq_false a)) (G3 v7)<|kv (g1 (decide_eq_false a)) gtr<|kv (g1 (decide_eq_false a)) mv ?_
   obtain ⟨e,H⟩|⟨e,H⟩:=oi H
   ·refine kv (g1 (decide_eq_true e)) mv<|kv (g1 (decide_eq_true e)) mv ?_
    obtain ⟨i,H⟩|⟨i,H⟩:=oi H
    ·iterate 5 refine kx (hF i) ?_
     refine kv (g1 (decide_eq_true e)) (o8 i) ?_
     refine kv (g1 (decide_eq_false a)) (o8 (decide_eq_true e)) ?_
     refine k0 (n8 (decide_eq_false a))<|d9<|c8<|iT rfl<|m6<|j5<|n7 rfl<|c8<|c9 ?_
     refine rn rfl<|d9<|l6 ?_
     exact aw hE [] (s (Nat.le_refl _) H)
    refine kv (g1 (bF i)) (y8 0 0)<|kv (g1 (bF i)) B5<|kv (g1 (bF i)) mv ?_
    obtain ⟨Q,B,H⟩:=f6 H
    refine N5 (g1 (bF i)) (cl (L7.ok B) [])<|kv (g1 (bF i)) V4 ?_
    refine kv (g1 (decide_eq_true e)) (n8 (bF i)) ?_
    refine kv (g1 (decide_eq_false a)) (o8 (decide_eq_true e)) ?_
    refine k0 (n8 (decide_eq_false a))<|d9<|c8 ?_
    obtain ⟨u,H⟩|⟨u,H⟩:=oi H
    ·refine iF (nF u)<|i9<|l6 ?_
     exact aw hE [] (v.u (Nat.le_refl _) H)
    refine iT (nT (bF u))<|m6<|j5<|n7 rfl<|c8<|c9<|rn rfl<|d9<|l6 ?_
    exact aw hE [] (s (Nat.le_refl _) H)
   refine kx (hT (decide_eq_false e)) ?_
   refine ku (neT (hT (decide_eq_false e))) ?_
   iterate 5 refine ku neU ?_
   refine kx (hT (decide_eq_false e)) ?_
   refine kv (g1 (decide_eq_false a)) (n8 (decide_eq_false e)) ?_
   refine k0 (n8 (decide_eq_false a))<|d9<|c8<|iF rfl<|i9<|l6 ?_
   exact aw hE [] (v.u (Nat.le_refl _) H)
  refine jc0 (fun _=>r9.j0.eq_2 ..) fun R T H=>?_
  refine d8<|c9<|rn rfl<|k0 (cnv .u8)<|k1 (u7 3 5 1 [.int .u8 0] (([IntKind.u8.wrap (wrap64 (97 + g))] : List Int).map (eI .u8)))<|k0 (cvB (.row rfl)) ?_
  obtain ⟨C,H⟩:=i8 H
  refine k0 (N4 C) ?_
  refine rn rfl<|d9<|c8<|d8<|c9<|rn rfl ?_
  obtain ⟨w,H⟩:=i8 H
  refine k0 (N4 w) ?_
  obtain ⟨x,D,H⟩:=f6 H
  refine kC (cl (G8.ok D) [4]) ?_
  obtain ⟨F,H⟩:=i8 H
  refine k3 (D7 5 278 7 80 [.string .empty,.int .i64 0,.int .i64 0,.int .i64 0,.int .i64 0,.string .empty,.string .empty] ((j ++ x).map C6) (.row rfl) (D8 F rfl) z7) ?_
  refine rn rfl<|d9<|c8<|c9<|rn rfl<|k0 (N4 w) ?_
  obtain ⟨b,G,H⟩:=f6 H
  refine kC (cl (A0.ok G) [])<|k1 (u7 6 278 7 [.string .empty,.int .i64 0,.int .i64 0,.int .i64 0,.int .i64 0,.string .empty,.string .empty] (([(⟨b.1,(⟨b.2.1,b.2.2.1,b.2.2.2.1,b.2.2.2.2.1⟩ : f9),b.2.2.2.2.2.1,b.2.2.2.2.2.2⟩ : j3)] : List j3).map C6)) ?_
  obtain ⟨I,H⟩:=i8 H
  refine k3 (D7 7 278 7 80 [.string .empty,.int .i64 0,.int .i64 0,.int .i64 0,.int .i64 0,.string .empty,.string .empty] (((j ++ x) ++ ([(⟨b.1,(⟨b.2.1,b.2.2.1,b.2.2.2.1,b.2.2.2.2.1⟩ : f9),b.2.2.2.2.2.1,b.2.2.2.2.2.2⟩ : j3)] : List j3)).map C6) (.row rfl) (D8 I rfl) z7) ?_
  refine rn rfl<|d9<|j6<|c8<|c9<|rn rfl<|d9<|l6 ?_
  exact aw hE [(1,7)] (s (by omega) H)
 refine iF (decide_eq_false t)<|m6<|j5<|j5<|n7 rfl<|c8<|d8<|c9<|rn rfl ?_
 obtain ⟨U,K,H⟩:=f6 H
 refine kC (cl (E8.ok K) []) ?_
 obtain ⟨c,L,H⟩:=f6 H
 refine kC (cl (G1.ok L) [])<|k1 (u7 8 278 7 [.string .empty,.int .i64 0,.int .i64 0,.int .i64 0,.int .i64 0,.string .empty,.string .empty] (([(⟨c.1,(⟨c.2.1,c.2.2.1,c.2.2.2.1,c.2.2.2.2.1⟩ : f9),c.2.2.2.2.2.1,c.2.2.2.2.2.2⟩ : j3)] : List j3).map C6)) ?_
 obtain ⟨M,H⟩:=i8 H
 refine k3 (D7 9 278 7 80 [.string .empty,.int .i64 0,.int .i64 0,.int .i64 0,.int .i64 0,.string .empty,.string .empty] ((j ++ ([(⟨c.1,(⟨c.2.1,c.2.2.1,c.2.2.2.1,c.2.2.2.2.1⟩ : f9),c.2.2.2.2.2.1,c.2.2.2.2.2.2⟩ : j3)] : List j3)).map C6) (.row rfl) (D8 M rfl) z7) ?_
 refine rn rfl<|d9<|c8<|f7 ?_
 obtain rfl:=si H
 exact rt hE [(0,9)]
def N9.f : Nat→Int→Int→Int→(List D9)→(List Int)→ByteArray→Y43
 | 0,_,_,_,_,_,_=>none
 | k + 1,j,l,m,n,i,h=>if (i.length : Int) = 0 then ((r9.f k j l m n 0 true h).bind fun s=>some s) else if (i.length : Int) = 1 then (if 0 < (i.length : Int) then (if h.size + (⟨#[121]⟩ : ByteArray).size≤9223372036854775807 then (if h.size + (⟨#[120]⟩ : ByteArray).size≤9223372036854775807 then ((H1.f 3 (rd i 0) (h ++ (⟨#[121]⟩ : ByteArray)) (h ++ (⟨#[120]⟩ : ByteArray))).bind fun a=>((A0.f (h ++ (⟨#[121]⟩ : ByteArray))).bind fun b=>(r9.f k j l m n (rd i 0) false (h ++ (⟨#[121]⟩ : ByteArray))).bind fun o=>(if ([(⟨a.1,(⟨a.2.1,a.2.2.1,a.2.2.2.1,a.2.2.2.2.1⟩ : f9),a.2.2.2.2.2.1,a.2.2.2.2.2.2⟩ : j3),(⟨b.1,(⟨b.2.1,b.2.2.1,b.2.2.2.1,b.2.2.2.2.1⟩ : f9),b.2.2.2.2.2.1,b.2.2.2.2.2.2⟩ : j3)] : List j3).length + o.length < 1759218604441 then (A0.f (h ++ (⟨#[120]⟩ : ByteArray))).bind fun e=>(if (([(⟨a.1,(⟨a.2.1,a.2.2.1,a.2.2.2.1,a.2.2.2.2.1⟩ : f9),a.2.2.2.2.2.1,a.2.2.2.2.2.2⟩ : j3),(⟨b.1,(⟨b.2.1,b.2.2.1,b.2.2.2.1,b.2.2.2.2.1⟩ : f9),b.2.2.2.2.2.1,b.2.2.2.2.2.2⟩ : j3)] : List j3) ++ o).length + ([(⟨e.1,(⟨e.2.1,e.2.2.1,e.2.2.2.1,e.2.2.2.2.1⟩ : f9),e.2.2.2.2.2.1,e.2.2.2.2.2.2⟩ : j3)] : List j3).length < 1759218604441 then (r9.f k j l m n 0 true (h ++ (⟨#[120]⟩ : ByteArray))).bind fun q=>(if ((([(⟨a.1,(⟨a.2.1,a.2.2.1,a.2.2.2.1,a.2.2.2.2.1⟩ : f9),a.2.2.2.2.2.1,a.2.2.2.2.2.2⟩ : j3),(⟨b.1,(⟨b.2.1,b.2.2.1,b.2.2.2.1,b.2.2.2.2.1⟩ : f9),b.2.2.2.2.2.1,b.2.2.2.2.2.2⟩ : j3)] : List j3) ++ o) ++ ([(⟨e.1,(⟨e.2.1,e.2.2.1,e.2.2.2.1,e.2.2.2.2.1⟩ : f9),e.2.2.2.2.2.1,e.2.2.2.2.2.2⟩ : j3)] : List j3)).length + q.length < 1759218604441 then some (((([(⟨a.1,(⟨a.2.1,a.2.2.1,a.2.2.2.1,a.2.2.2.2.1⟩ : f9),a.2.2.2.2.2.1,a.2.2.2.2.2.2⟩ : j3),(⟨b.1,(⟨b.2.1,b.2.2.1,b.2.2.2.1,b.2.2.2.2.1⟩ : f9),b.2.2.2.2.2.1,b.2.2.2.2.2.2⟩ : j3)] : List j3) ++ o) ++ ([(⟨e.1,(⟨e.2.1,e.2.2.1,e.2.2.2.1,e.2.2.2.2.1⟩ : f9),e.2.2.2.2.2.1,e.2.2.2.2.2.2⟩ : j3)] : List j3)) ++ q) else none) else none) else none))) else none) else none) else none) else if 0≤(wrap64 ((i.length : Int).tdiv 2)) then (if (wrap64 ((i.length : Int).tdiv 2)) < (i.length : Int) then (if h.size + (⟨#[104]⟩ : ByteArray).size≤9223372036854775807 then (if h.size + (⟨#[108]⟩ : ByteArray).size≤9223372036854775807 then ((H1.f 5 (rd i (wrap64 ((i.length : Int).tdiv 2))) (h ++ (⟨#[104]⟩ : ByteArray)) (h ++ (⟨#[108]⟩ : ByteArray))).bind fun c=>((A0.f (h ++ (⟨#[108]⟩ : ByteArray))).bind fun d=>if (wrap64 ((i.length : Int).tdiv 2))≤(i.length : Int) then ((N9.f k j l m n (i.take (wrap64 ((i.length : Int).tdiv 2)).toNat) (h ++ (⟨#[108]⟩ : ByteArray))).bind fun p=>(if ([(⟨c.1,(⟨c.2.1,c.2.2.1,c.2.2.2.1,c.2.2.2.2.1⟩ : f9),c.2.2.2.2.2.1,c.2.2.2.2.2.2⟩ : j3),(⟨d.1,(⟨d.2.1,d.2.2.1,d.2.2.2.1,d.2.2.2.2.1⟩ : f9),d.2.2.2.2.2.1,d.2.2.2.2.2.2⟩ : j3)] : List j3).length + p.length < 1759218604441 then (A0.f (h ++ (⟨#[104]⟩ : ByteArray))).bind fun g=>(if (([(⟨c.1,(⟨c.2.1,c.2.2.1,c.2.2.2.1,c.2.2.2.2.1⟩ : f9),c.2.2.2.2.2.1,c.2.2.2.2.2.2⟩ : j3),(⟨d.1,(⟨d.2.1,d.2.2.1,d.2.2.2.1,d.2.2.2.2.1⟩ : f9),d.2.2.2.2.2.1,d.2.2.2.2.2.2⟩ : j3)] : List j3) ++ p).length + ([(⟨g.1,(⟨g.2.1,g.2.2.1,g.2.2.2.1,g.2.2.2.2.1⟩ : f9),g.2.2.2.2.2.1,g.2.2.2.2.2.2⟩ : j3)] : List j3).length < 1759218604441 then (N9.f k j l m n (i.drop (wrap64 ((i.length : Int).tdiv 2)).toNat) (h ++ (⟨#[104]⟩ : ByteArray))).bind fun r=>(if ((([(⟨c.1,(⟨c.2.1,c.2.2.1,c.2.2.2.1,c.2.2.2.2.1⟩ : f9),c.2.2.2.2.2.1,c.2.2.2.2.2.2⟩ : j3),(⟨d.1,(⟨d.2.1,d.2.2.1,d.2.2.2.1,d.2.2.2.2.1⟩ : f9),d.2.2.2.2.2.1,d.2.2.2.2.2.2⟩ : j3)] : List j3) ++ p) ++ ([(⟨g.1,(⟨g.2.1,g.2.2.1,g.2.2.2.1,g.2.2.2.2.1⟩ : f9),g.2.2.2.2.2.1,g.2.2.2.2.2.2⟩ : j3)] : List j3)).length + r.length < 1759218604441 then some (((([(⟨c.1,(⟨c.2.1,c.2.2.1,c.2.2.2.1,c.2.2.2.2.1⟩ : f9),c.2.2.2.2.2.1,c.2.2.2.2.2.2⟩ : j3),(⟨d.1,(⟨d.2.1,d.2.2.1,d.2.2.2.1,d.2.2.2.2.1⟩ : f9),d.2.2.2.2.2.1,d.2.2.2.2.2.2⟩ : j3)] : List j3) ++ p) ++ ([(⟨g.1,(⟨g.2.1,g.2.2.1,g.2.2.2.1,g.2.2.2.2.1⟩ : f9),g.2.2.2.2.2.1,g.2.2.2.2.2.2⟩ : j3)] : List j3)) ++ r) else none) else none) else none)) else none)) else none) else none) else none) else none
theorem N9.ok (H : N9.f k a0_0 a0_1 a0_2 l0_3 v1 a2 = some r) : j7 Tryz.prog 270 [] [.agg [.lit (.int .i64 a0_0),.lit (.int .i64 a0_1),.lit (.int .i64 a0_2),.sl .o 4 (l0_3.map X0)],.sl .o 1 (v1.map (eI .i64)),.lit (.string a2)] [(0,.row 278 7 (r.map C6))] (.row 0):=by
 induction k generalizing a0_0 a0_1 a0_2 l0_3 v1 a2 r with
 | zero=>rw [N9.f] at H;cases H
 | succ k ih=>
 refine u3 93 Tryz.func270 fun E hE=>?_
 rw [N9.f] at H
 refine d8<|c9<|k1 (K2 0) ?_
 refine rn rfl<|d9<|c8<|d8<|c9<|rn rfl<|k0 (G3 v7) ?_
 refine rn rfl<|d9<|c8<|d8<|d8<|c9<|rn rfl<|d9<|c8<|j4<|d8<|c9<|rn rfl<|d9<|c8 ?_
 obtain ⟨c1,H⟩|⟨c1,H⟩:=oi H
 ·refine iT (eT c1)<|d8<|c9<|rn rfl ?_
  obtain ⟨t2,A3,H⟩:=f6 H
  refine kC (cl (r9.ok A3) [1]) ?_
  refine rn rfl<|d9<|c8<|f7<|l7<|f8 ?_
  obtain rfl:=si H
  exact rt hE [(0,1)]
 refine iF (eF c1)<|d8<|c9<|rn rfl<|d9<|c8 ?_
 obtain ⟨c4,H⟩|⟨c4,H⟩:=oi H
 ·refine iT (eT c4)<|d8<|c9<|rn rfl ?_
  obtain ⟨c5,H⟩:=i8 H
  refine k0 (iS (by decide : (0 : Int)≤0) c5) ?_
  refine rn rfl ?_
  obtain ⟨c6,H⟩:=i8 H
  refine k0 (N4 c6) ?_
  refine rn rfl ?_
  obtain ⟨c7,H⟩:=i8 H
  refine k0 (N4 c7) ?_
  obtain ⟨t8,A9,H⟩:=f6 H
  refine kC (cl (H1.ok A9) []) ?_
  refine rn rfl<|k0 (N4 c6) ?_
  obtain ⟨t10,A11,H⟩:=f6 H
  refine kC (cl (A0.ok A11) [])<|k1 (u7 2 278 7 [.string .empty,.int .i64 0,.int .i64 0,.int .i64 0,.int .i64 0,.string .empty,.string .empty] (([(⟨t8.1,(⟨t8.2.1,t8.2.2.1,t8.2.2.2.1,t8.2.2.2.2.1⟩ : f9),t8.2.2.2.2.2.1,t8.2.2.2.2.2.2⟩ : j3),(⟨t10.1,(⟨t10.2.1,t10.2.2.1,t10.2.2.2.1,t10.2.2.2.2.1⟩ : f9),t10.2.2.2.2.2.1,t10.2.2.2.2.2.2⟩ : j3)] : List j3).map C6)) ?_
  refine rn rfl<|d9<|c8<|d8<|c9<|rn rfl<|k0 (iS (by decide : (0 : Int)≤0) c5) ?_
  refine rn rfl<|k0 (N4 c6) ?_
  obtain ⟨t12,A13,H⟩:=f6 H
  refine kC (cl (r9.ok A13) [3]) ?_
  obtain ⟨c14,H⟩:=i8 H
  refine k3 (D7 4 278 7 80 [.string .empty,.int .i64 0,.int .i64 0,.int .i64 0,.int .i64 0,.string .empty,.string .empty] ((([(⟨t8.1,(⟨t8.2.1,t8.2.2.1,t8.2.2.2.1,t8.2.2.2.2.1⟩ : f9),t8.2.2.2.2.2.1,t8.2.2.2.2.2.2⟩ : j3),(⟨t10.1,(⟨t10.2.1,t10.2.2.1,t10.2.2.2.1,t10.2.2.2.2.1⟩ : f9),t10.2.2.2.2.2.1,t10.2.2.2.2.2.2⟩ : j3)] : List j3) ++ t12).map C6) (.row rfl) (D8 c14 rfl) z7) ?_
  refine rn rfl<|ed<|c8<|d8<|c9<|rn rfl<|k0 (N4 c7) ?_
  obtain ⟨t15,A16,H⟩:=f6 H
  refine kC (cl (A0.ok A16) [])<|k1 (u7 5 278 7 [.string .empty,.int .i64 0,.int .i64 0,.int .i64 0,.int .i64 0,.string .empty,.string .empty] (([(⟨t15.1,(⟨t15.2.1,t15.2.2.1,t15.2.2.2.1,t15.2.2.2.2.1⟩ : f9),t15.2.2.2.2.2.1,t15.2.2.2.2.2.2⟩ : j3)] : List j3).map C6)) ?_
  obtain ⟨c17,H⟩:=i8 H
  refine k3 (D7 6 278 7 80 [.string .empty,.int .i64 0,.int .i64 0,.int .i64 0,.int .i64 0,.string .empty,.string .empty] (((([(⟨t8.1,(⟨t8.2.1,t8.2.2.1,t8.2.2.2.1,t8.2.2.2.2.1⟩ : f9),t8.2.2.2.2.2.1,t8.2.2.2.2.2.2⟩ : j3),(⟨t10.1,(⟨t10.2.1,t10.2.2.1,t10.2.2.2.1,t10.2.2.2.2.1⟩ : f9),t10.2.2.2.2.2.1,t10.2.2.2.2.2.2⟩ : j3)] : List j3) ++ t12) ++ ([(⟨t15.1,(⟨t15.2.1,t15.2.2.1,t15.2.2.2.1,t15.2.2.2.2.1⟩ : f9),t15.2.2.2.2.2.1,t15.2.2.2.2.2.2⟩ : j3)] : List j3)).map C6) (.row rfl) (D8 c17 rfl) z7) ?_
  refine rn rfl<|d9<|c8<|d8<|c9<|rn rfl<|k0 (N4 c7) ?_
  obtain ⟨t18,A19,H⟩:=f6 H
  refine kC (cl (r9.ok A19) [7]) ?_
  obtain ⟨c20,H⟩:=i8 H
  refine k3 (D7 8 278 7 80 [.string .empty,.int .i64 0,.int .i64 0,.int .i64 0,.int .i64 0,.string .empty,.string .empty] ((((([(⟨t8.1,(⟨t8.2.1,t8.2.2.1,t8.2.2.2.1,t8.2.2.2.2.1⟩ : f9),t8.2.2.2.2.2.1,t8.2.2.2.2.2.2⟩ : j3),(⟨t10.1,(⟨t10.2.1,t10.2.2.1,t10.2.2.2.1,t10.2.2.2.2.1⟩ : f9),t10.2.2.2.2.2.1,t10.2.2.2.2.2.2⟩ : j3)] : List j3) ++ t12) ++ ([(⟨t15.1,(⟨t15.2.1,t15.2.2.1,t15.2.2.2.1,t15.2.2.2.2.1⟩ : f9),t15.2.2.2.2.2.1,t15.2.2.2.2.2.2⟩ : j3)] : List j3)) ++ t18).map C6) (.row rfl) (D8 c20 rfl) z7) ?_
  refine rn rfl<|d9<|c8<|f7<|l7<|f8 ?_
  obtain rfl:=si H
  exact rt hE [(0,8)]
 refine iF (eF c4)<|i9<|j6<|c8<|d8<|c9<|rn rfl<|k0 (aE2 (by decide : (2 : Int)≠0)) ?_
 obtain ⟨c21,H⟩:=i8 H
 obtain ⟨c22,H⟩:=i8 H
 refine k0 (iS c21 c22) ?_
 refine rn rfl ?_
 obtain ⟨c23,H⟩:=i8 H
 refine k0 (N4 c23) ?_
 refine rn rfl ?_
 obtain ⟨c24,H⟩:=i8 H
 refine k0 (N4 c24) ?_
 obtain ⟨t25,A26,H⟩:=f6 H
 refine kC (cl (H1.ok A26) []) ?_
 refine rn rfl<|k0 (N4 c24) ?_
 obtain ⟨t27,A28,H⟩:=f6 H
 refine kC (cl (A0.ok A28) [])<|k1 (u7 9 278 7 [.string .empty,.int .i64 0,.int .i64 0,.int .i64 0,.int .i64 0,.string .empty,.string .empty] (([(⟨t25.1,(⟨t25.2.1,t25.2.2.1,t25.2.2.2.1,t25.2.2.2.2.1⟩ : f9),t25.2.2.2.2.2.1,t25.2.2.2.2.2.2⟩ : j3),(⟨t27.1,(⟨t27.2.1,t27.2.2.1,t27.2.2.2.1,t27.2.2.2.2.1⟩ : f9),t27.2.2.2.2.2.1,t27.2.2.2.2.2.2⟩ : j3)] : List j3).map C6)) ?_
 refine rn rfl<|d9<|c8<|d8<|c9<|rn rfl<|k0 (aE2 (by decide : (2 : Int)≠0)) ?_
 obtain ⟨c29,H⟩:=i8 H
 refine k0 (slH 3 c21 c29) ?_
 refine rn rfl<|k0 (N4 c24) ?_
 obtain ⟨t30,A31,H⟩:=f6 H
 refine kC (cl (ih (H:=A31)) [10]) ?_
 obtain ⟨c32,H⟩:=i8 H
 refine k3 (D7 11 278 7 80 [.string .empty,.int .i64 0,.int .i64 0,.int .i64 0,.int .i64 0,.string .empty,.string .empty] ((([(⟨t25.1,(⟨t25.2.1,t25.2.2.1,t25.2.2.2.1,t25.2.2.2.2.1⟩ : f9),t25.2.2.2.2.2.1,t25.2.2.2.2.2.2⟩ : j3),(⟨t27.1,(⟨t27.2.1,t27.2.2.1,t27.2.2.2.1,t27.2.2.2.2.1⟩ : f9),t27.2.2.2.2.2.1,t27.2.2.2.2.2.2⟩ : j3)] : List j3) ++ t30).map C6) (.row rfl) (D8 c32 rfl) z7) ?_
 refine rn rfl<|ed<|c8<|d8<|c9<|rn rfl<|k0 (N4 c23) ?_
 obtain ⟨t33,A34,H⟩:=f6 H
 refine kC (cl (A0.ok A34) [])<|k1 (u7 12 278 7 [.string .empty,.int .i64 0,.int .i64 0,.int .i64 0,.int .i64 0,.string .empty,.string .empty] (([(⟨t33.1,(⟨t33.2.1,t33.2.2.1,t33.2.2.2.1,t33.2.2.2.2.1⟩ : f9),t33.2.2.2.2.2.1,t33.2.2.2.2.2.2⟩ : j3)] : List j3).map C6)) ?_
 obtain ⟨c35,H⟩:=i8 H
 refine k3 (D7 13 278 7 80 [.string .empty,.int .i64 0,.int .i64 0,.int .i64 0,.int .i64 0,.string .empty,.string .empty] (((([(⟨t25.1,(⟨t25.2.1,t25.2.2.1,t25.2.2.2.1,t25.2.2.2.2.1⟩ : f9),t25.2.2.2.2.2.1,t25.2.2.2.2.2.2⟩ : j3),(⟨t27.1,(⟨t27.2.1,t27.2.2.1,t27.2.2.2.1,t27.2.2.2.2.1⟩ : f9),t27.2.2.2.2.2.1,t27.2.2.2.2.2.2⟩ : j3)] : List j3) ++ t30) ++ ([(⟨t33.1,(⟨t33.2.1,t33.2.2.1,t33.2.2.2.1,t33.2.2.2.2.1⟩ : f9),t33.2.2.2.2.2.1,t33.2.2.2.2.2.2⟩ : j3)] : List j3)).map C6) (.row rfl) (D8 c35 rfl) z7) ?_
 refine rn rfl<|d9<|c8<|d8<|c9<|rn rfl<|k0 (aE2 (by decide : (2 : Int)≠0))<|k0 (slL 3 c21 c29) ?_
 refine rn rfl<|k0 (N4 c23) ?_
 obtain ⟨t36,A37,H⟩:=f6 H
 refine kC (cl (ih (H:=A37)) [14]) ?_
 obtain ⟨c38,H⟩:=i8 H
 refine k3 (D7 15 278 7 80 [.string .empty,.int .i64 0,.int .i64 0,.int .i64 0,.int .i64 0,.string .empty,.string .empty] ((((([(⟨t25.1,(⟨t25.2.1,t25.2.2.1,t25.2.2.2.1,t25.2.2.2.2.1⟩ : f9),t25.2.2.2.2.2.1,t25.2.2.2.2.2.2⟩ : j3),(⟨t27.1,(⟨t27.2.1,t27.2.2.1,t27.2.2.2.1,t27.2.2.2.2.1⟩ : f9),t27.2.2.2.2.2.1,t27.2.2.2.2.2.2⟩ : j3)] : List j3) ++ t30) ++ ([(⟨t33.1,(⟨t33.2.1,t33.2.2.1,t33.2.2.2.1,t33.2.2.2.2.1⟩ : f9),t33.2.2.2.2.2.1,t33.2.2.2.2.2.2⟩ : j3)] : List j3)) ++ t36).map C6) (.row rfl) (D8 c38 rfl) z7) ?_
 refine rn rfl<|ed<|c8<|f7 ?_
 obtain rfl:=si H
 exact rt hE [(0,15)]
def S4.f (k : Nat) (h : Int) (i : Int) (j : Int) (l : List D9) : Y43:=(G1.f 1 1).bind fun a=>((H1.f 3 h (⟨#[112]⟩ : ByteArray) (⟨#[113]⟩ : ByteArray)).bind fun b=>((A0.f (⟨#[113]⟩ : ByteArray)).bind fun c=>((G1.f 8 0).bind fun d=>((A0.f (⟨#[112]⟩ : ByteArray)).bind fun e=>((G1.f 1 0).bind fun g=>(M7.f k h i j l).bind fun n=>((N9.f k h i j l n (⟨#[116]⟩ : ByteArray)).bind fun m=>(if ([(⟨a.1,(⟨a.2.1,a.2.2.1,a.2.2.2.1,a.2.2.2.2.1⟩ : f9),a.2.2.2.2.2.1,a.2.2.2.2.2.2⟩ : j3),(⟨b.1,(⟨b.2.1,b.2.2.1,b.2.2.2.1,b.2.2.2.2.1⟩ : f9),b.2.2.2.2.2.1,b.2.2.2.2.2.2⟩ : j3),(⟨c.1,(⟨c.2.1,c.2.2.1,c.2.2.2.1,c.2.2.2.2.1⟩ : f9),c.2.2.2.2.2.1,c.2.2.2.2.2.2⟩ : j3),(⟨d.1,(⟨d.2.1,d.2.2.1,d.2.2.2.1,d.2.2.2.2.1⟩ : f9),d.2.2.2.2.2.1,d.2.2.2.2.2.2⟩ : j3),(⟨e.1,(⟨e.2.1,e.2.2.1,e.2.2.2.1,e.2.2.2.2.1⟩ : f9),e.2.2.2.2.2.1,e.2.2.2.2.2.2⟩ : j3),(⟨g.1,(⟨g.2.1,g.2.2.1,g.2.2.2.1,g.2.2.2.2.1⟩ : f9),g.2.2.2.2.2.1,g.2.2.2.2.2.2⟩ : j3)] : List j3).length + m.length < 1759218604441 then some (([(⟨a.1,(⟨a.2.1,a.2.2.1,a.2.2.2.1,a.2.2.2.2.1⟩ : f9),a.2.2.2.2.2.1,a.2.2.2.2.2.2⟩ : j3),(⟨b.1,(⟨b.2.1,b.2.2.1,b.2.2.2.1,b.2.2.2.2.1⟩ : f9),b.2.2.2.2.2.1,b.2.2.2.2.2.2⟩ : j3),(⟨c.1,(⟨c.2.1,c.2.2.1,c.2.2.2.1,c.2.2.2.2.1⟩ : f9),c.2.2.2.2.2.1,c.2.2.2.2.2.2⟩ : j3),(⟨d.1,(⟨d.2.1,d.2.2.1,d.2.2.2.1,d.2.2.2.2.1⟩ : f9),d.2.2.2.2.2.1,d.2.2.2.2.2.2⟩ : j3),(⟨e.1,(⟨e.2.1,e.2.2.1,e.2.2.2.1,e.2.2.2.2.1⟩ : f9),e.2.2.2.2.2.1,e.2.2.2.2.2.2⟩ : j3),(⟨g.1,(⟨g.2.1,g.2.2.1,g.2.2.2.1,g.2.2.2.2.1⟩ : f9),g.2.2.2.2.2.1,g.2.2.2.2.2.2⟩ : j3)] : List j3) ++ m) else none)))))))
theorem S4.ok (H : S4.f k h i j l = some r) : j7 Tryz.prog 212 [] [.agg [.lit (.int .i64 h),.lit (.int .i64 i),.lit (.int .i64 j),.sl .o 4 (l.map X0)]] [(0,.row 278 7 (r.map C6))] (.row 0):=by
 refine u3 19 Tryz.func212 fun E hE=>?_
 rw [S4.f] at H
 refine d8<|c9<|k1 (K2 0) ?_
 refine rn rfl<|d9<|c8<|d8<|c9 ?_
 obtain ⟨a,m,H⟩:=f6 H
 refine kC (cl (G1.ok m) []) ?_
 refine rn rfl ?_
 obtain ⟨b,n,H⟩:=f6 H
 refine kC (cl (H1.ok n) []) ?_
 obtain ⟨c,o,H⟩:=f6 H
 refine kC (cl (A0.ok o) []) ?_
 obtain ⟨d,p,H⟩:=f6 H
 refine kC (cl (G1.ok p) []) ?_
 obtain ⟨e,q,H⟩:=f6 H
 refine kC (cl (A0.ok q) []) ?_
 obtain ⟨g,s,H⟩:=f6 H
 refine kC (cl (G1.ok s) [])<|k1 (u7 1 278 7 [.string .empty,.int .i64 0,.int .i64 0,.int .i64 0,.int .i64 0,.string .empty,.string .empty] (([(⟨a.1,(⟨a.2.1,a.2.2.1,a.2.2.2.1,a.2.2.2.2.1⟩ : f9),a.2.2.2.2.2.1,a.2.2.2.2.2.2⟩ : j3),(⟨b.1,(⟨b.2.1,b.2.2.1,b.2.2.2.1,b.2.2.2.2.1⟩ : f9),b.2.2.2.2.2.1,b.2.2.2.2.2.2⟩ : j3),(⟨c.1,(⟨c.2.1,c.2.2.1,c.2.2.2.1,c.2.2.2.2.1⟩ : f9),c.2.2.2.2.2.1,c.2.2.2.2.2.2⟩ : j3),(⟨d.1,(⟨d.2.1,d.2.2.1,d.2.2.2.1,d.2.2.2.2.1⟩ : f9),d.2.2.2.2.2.1,d.2.2.2.2.2.2⟩ : j3),(⟨e.1,(⟨e.2.1,e.2.2.1,e.2.2.2.1,e.2.2.2.2.1⟩ : f9),e.2.2.2.2.2.1,e.2.2.2.2.2.2⟩ : j3),(⟨g.1,(⟨g.2.1,g.2.2.1,g.2.2.2.1,g.2.2.2.2.1⟩ : f9),g.2.2.2.2.2.1,g.2.2.2.2.2.2⟩ : j3)] : List j3).map C6) (hl:=by kernel_rfl)) ?_
 refine rn rfl<|ed<|c8<|d8<|c9<|rn rfl ?_
 obtain ⟨x,t,H⟩:=f6 H
 refine kC (cl (M7.ok t) [2]) ?_
 obtain ⟨u,v,H⟩:=f6 H
 refine kC (cl (N9.ok v) [3]) ?_
 obtain ⟨w,H⟩:=i8 H
 refine k3 (D7 4 278 7 80 [.string .empty,.int .i64 0,.int .i64 0,.int .i64 0,.int .i64 0,.string .empty,.string .empty] ((([(⟨a.1,(⟨a.2.1,a.2.2.1,a.2.2.2.1,a.2.2.2.2.1⟩ : f9),a.2.2.2.2.2.1,a.2.2.2.2.2.2⟩ : j3),(⟨b.1,(⟨b.2.1,b.2.2.1,b.2.2.2.1,b.2.2.2.2.1⟩ : f9),b.2.2.2.2.2.1,b.2.2.2.2.2.2⟩ : j3),(⟨c.1,(⟨c.2.1,c.2.2.1,c.2.2.2.1,c.2.2.2.2.1⟩ : f9),c.2.2.2.2.2.1,c.2.2.2.2.2.2⟩ : j3),(⟨d.1,(⟨d.2.1,d.2.2.1,d.2.2.2.1,d.2.2.2.2.1⟩ : f9),d.2.2.2.2.2.1,d.2.2.2.2.2.2⟩ : j3),(⟨e.1,(⟨e.2.1,e.2.2.1,e.2.2.2.1,e.2.2.2.2.1⟩ : f9),e.2.2.2.2.2.1,e.2.2.2.2.2.2⟩ : j3),(⟨g.1,(⟨g.2.1,g.2.2.1,g.2.2.2.1,g.2.2.2.2.1⟩ : f9),g.2.2.2.2.2.1,g.2.2.2.2.2.2⟩ : j3)] : List j3) ++ u).map C6) (.row rfl) (D8 w rfl) z7) ?_
 refine rn rfl<|ed<|c8<|f7 ?_
 obtain rfl:=si H
 exact rt hE [(0,4)]
def H4.f (b : ByteArray) (a : Int) (c : Int) (d : Int) (e : Int) (g : ByteArray) (h : ByteArray) : P0:=some (a == 0)
theorem H4.ok (H : H4.f a b c d e g h = some r) : j7 Tryz.prog 273 [] [.agg [.lit (.string a),.lit (.int .i64 b),.lit (.int .i64 c),.lit (.int .i64 d),.lit (.int .i64 e),.lit (.string g),.lit (.string h)]] [] (.lit (.bool r)):=by
 refine u3 7 Tryz.func273 fun E hE=>?_
 rw [H4.f] at H
 refine d8<|c9<|k1 (K2 0) ?_
 refine rn rfl<|d9<|c8<|d8<|c9<|rn rfl<|d9<|c8<|f7 ?_
 obtain rfl:=si H
 exact rt hE []
def y9.l0 : Nat→(List j3)→ByteArray→Int→Y55
 | 0,_,_,_=>none
 | d + 1,b,c,a=>if a < (b.length : Int) then if 0≤a then ((H4.f ((l5 b a).f0) ((l5 b a).f1.f0) ((l5 b a).f1.f1) ((l5 b a).f1.f2) ((l5 b a).f1.f3) ((l5 b a).f2) ((l5 b a).f3)).bind fun e=>(if e = true then if (((l5 b a).f0).toList == c.toList) = true then some a else y9.l0 d b c (wrap64 (a + 1)) else y9.l0 d b c (wrap64 (a + 1)))) else none else some (-1)
def y9.f (k : Nat) (a : List j3) (b : ByteArray) (c : Int) : Y55:=y9.l0 k a b (wrap64 (c + 1))
theorem y9.ok (H : y9.f k c d l = some r) : j7 Tryz.prog 326 [] [.sl .o 7 (c.map C6),.lit (.string d),.lit (.int .i64 l)] [] (.lit (.int .i64 r)):=by
 refine u3 31 Tryz.func326 fun E hE=>?_
 rw [y9.f] at H
 refine d8<|c9<|rn rfl<|d9<|c8<|d8<|d8<|c9<|rn rfl<|d9<|c8<|j4 ?_
 refine lp1 (fun k=>y9.l0 k c d) (fun g=>⟨[(0,.sl .o 7 (c.map C6)),(1,.lit (.string d)),(7,.lit (.int .i64 g))],[]⟩) H (fun _ h=>aw hE [] h) (fun _ _=>y9.l0.eq_2 ..) fun n g o H p i=>?_
 refine d8<|d8<|c9<|rn rfl<|k0 (G3 v7) ?_
 refine rn rfl<|d9<|c8 ?_
 obtain ⟨b,H⟩|⟨b,H⟩:=oi H
 ·refine iT (decide_eq_true b)<|i9<|c8<|d8<|j4<|d8<|c9<|rn rfl ?_
  obtain ⟨j,H⟩:=i8 H
  refine k0 (iS j b) ?_
  refine rn rfl ?_
  obtain ⟨q,m,H⟩:=f6 H
  refine kC (cl (H4.ok m) []) ?_
  refine rn rfl ?_
  obtain ⟨a,H⟩|⟨a,H⟩:=oi H
  ·refine kv (g1 a) mv<|kv (g1 a) mv<|kv (g1 a) (iS j b)<|kv (g1 a) (faR 0 0)<|kv (g1 a) pL<|kv (g1 a) mv<|kv (g1 a) seq ?_
   refine k0 (o8 a)<|d9<|c8 ?_
   obtain ⟨e,H⟩|⟨e,H⟩:=oi H
   ·refine iT e<|d8<|c9<|rn rfl<|d9<|c8<|f7<|l7<|f8<|f8<|l7<|f8 ?_
    obtain rfl:=si H
    exact rt hE []
   refine iF (bF e)<|i9<|j6<|c8<|c9<|rn rfl<|d9<|l6 ?_
   exact aw hE [] (i (Nat.le_refl _) H)
  iterate 7 refine kx (hT (bF a)) ?_
  refine k0 (n8 (bF a))<|d9<|c8<|iF rfl<|i9<|j6<|c8<|c9 ?_
  refine rn rfl<|d9<|l6 ?_
  exact aw hE [] (i (Nat.le_refl _) H)
 refine iF (decide_eq_false b)<|m6<|j5<|j5<|n7 rfl<|c8<|d8<|c9<|rn rfl<|d9<|c8<|f7 ?_
 obtain rfl:=si H
 exact rt hE []
def ad2.f (k : Nat) (b : List j3) (a : Int) : P0:=if 0≤a then (if a < (b.length : Int) then (H4.f ((l5 b a).f0) ((l5 b a).f1.f0) ((l5 b a).f1.f1) ((l5 b a).f1.f2) ((l5 b a).f1.f3) ((l5 b a).f2) ((l5 b a).f3)).bind fun c=>if c = true then ((j8.f (((l5 b a).f0).size : Int) 1 12).bind fun d=>(if d = true then (if (((l5 b a).f1.f0) == 0 && (((l5 b a).f1.f1) == 0 && (((l5 b a).f1.f2) == 0 && (((l5 b a).f1.f3) == 0)))) = true then (if (((l5 b a).f2).toList == ByteArray.empty.toList) = true then (if (((l5 b a).f3).toList == ByteArray.empty.toList) = true then ((y9.f k b ((l5 b a).f0) (-1)).bind fun e=>some (e == a)) else some false) else some false) else some false) else some false)) else if (((l5 b a).f0).toList == ByteArray.empty.toList) = true then ((aa0.f ((l5 b a).f1.f0) ((l5 b a).f1.f1) ((l5 b a).f1.f2) ((l5 b a).f1.f3)).bind fun g=>(if g = true then (if ((l5 b a).f1.f2) = 0 then if ((l5 b a).f1.f3) = 0 then (y7.f ((l5 b a).f1.f0) ((l5 b a).f1.f1) ((l5 b a).f1.f2) ((l5 b a).f1.f3)).bind fun h=>if h = true then ((y9.f k b ((l5 b a).f2) a).bind fun i=>(if i ≥ 0 then ((y9.f k b ((l5 b a).f3) a).bind fun j=>some (decide (j ≥ 0))) else some false)) else if ((l5 b a).f1.f0) = 7 then (if ((l5 b a).f1.f1) = 0 then ((y9.f k b ((l5 b a).f2) a).bind fun l=>(if l ≥ 0 then some (((l5 b a).f3).toList == ByteArray.empty.toList) else some false)) else some false) else if (((l5 b a).f2).toList == ByteArray.empty.toList) = true then some (((l5 b a).f3).toList == ByteArray.empty.toList) else some false else some false else some false) else some false)) else some false else none) else none
theorem ad2.ok (H : ad2.f k n o = some r) : j7 Tryz.prog 354 [] [.sl .o 7 (n.map C6),.lit (.int .i64 o)] [] (.lit (.bool r)):=by
 refine u3 109 Tryz.func354 fun E hE=>?_
 rw [ad2.f] at H
 refine d8<|c9<|rn rfl<|d9<|c8<|d8<|c9<|rn rfl ?_
 obtain ⟨u,H⟩:=i8 H
 obtain ⟨v,H⟩:=i8 H
 refine k0 (iS u v) ?_
 refine rn rfl<|k1 (al 0) ?_
 refine rn rfl<|d9<|c8<|d8<|d8<|c9<|rn rfl ?_
 obtain ⟨I,x,H⟩:=f6 H
 refine kC (cl (H4.ok x) [])<|d9<|c8 ?_
 obtain ⟨p,H⟩|⟨p,H⟩:=oi H
 ·refine iT p<|d8<|c9<|rn rfl ?_
  obtain ⟨J,y,H⟩:=f6 H
  refine kC (cl (j8.ok y) []) ?_
  refine rn rfl ?_
  obtain ⟨d,H⟩|⟨d,H⟩:=oi H
  ·refine kv (g1 d) (y8 1 1)<|kv (g1 d) (bA 4)<|kv (g1 d) bd<|kv (g1 d) (eqS (fun w=>bZ8 _ w ((l5 n o).f1.f0) ((l5 n o).f1.f1) ((l5 n o).f1.f2) ((l5 n o).f1.f3) 0 0 0 0)) ?_
   refine k0 (o8 d) ?_
   refine rn rfl ?_
   obtain ⟨i,H⟩|⟨i,H⟩:=oi H
   ·refine kv (g1 i) (y8 5 5)<|kv (g1 i) B5<|kv (g1 i) seq ?_
    refine k0 (o8 i) ?_
    refine rn rfl ?_
    obtain ⟨j,H⟩|⟨j,H⟩:=oi H
    ·refine kv (g1 j) (y8 6 6)<|kv (g1 j) B5<|kv (g1 j) seq ?_
     refine k0 (o8 j) ?_
     refine rn rfl ?_
     obtain ⟨a,H⟩|⟨a,H⟩:=oi H
     ·refine kv (g1 a) mv<|kv (g1 a) (y8 0 0)<|kv (g1 a) B5 ?_
      obtain ⟨K,z,H⟩:=f6 H
      refine N5 (g1 a) (cl (y9.ok z) [])<|kv (g1 a) mv<|kv (g1 a) eql ?_
      refine k0 (o8 a) ?_
      refine rn rfl<|d9<|c8<|f7<|f8 ?_
      obtain rfl:=si H
      exact rt hE []
     iterate 6 refine kx (hT (bF a)) ?_
     refine k0 (n8 (bF a)) ?_
     refine rn rfl<|d9<|c8<|f7<|f8 ?_
     obtain rfl:=si H
     exact rt hE []
    iterate 3 refine kx (hT (bF j)) ?_
    refine k0 (n8 (bF j)) ?_
    refine rn rfl ?_
    iterate 6 refine kx (hT rfl) ?_
    refine k0 (n8 rfl) ?_
    refine rn rfl<|d9<|c8<|f7<|f8 ?_
    obtain rfl:=si H
    exact rt hE []
   iterate 3 refine kx (hT (bF i)) ?_
   refine k0 (n8 (bF i)) ?_
   refine rn rfl ?_
   iterate 3 refine kx (hT rfl) ?_
   refine k0 (n8 rfl) ?_
   refine rn rfl ?_
   iterate 6 refine kx (hT rfl) ?_
   refine k0 (n8 rfl) ?_
   refine rn rfl<|d9<|c8<|f7<|f8 ?_
   obtain rfl:=si H
   exact rt hE []
  iterate 4 refine kx (hT (bF d)) ?_
  refine k0 (n8 (bF d)) ?_
  refine rn rfl ?_
  iterate 3 refine kx (hT rfl) ?_
  refine k0 (n8 rfl) ?_
  refine rn rfl ?_
  iterate 3 refine kx (hT rfl) ?_
  refine k0 (n8 rfl) ?_
  refine rn rfl ?_
  iterate 6 refine kx (hT rfl) ?_
  refine k0 (n8 rfl) ?_
  refine rn rfl<|d9<|c8<|f7<|f8 ?_
  obtain rfl:=si H
  exact rt hE []
 refine iF (bF p)<|i9<|c8<|d8<|d8<|c9<|rn rfl ?_
 obtain ⟨e,H⟩|⟨e,H⟩:=oi H
 ·refine kv (g1 (nF e)) (y8 1 1)<|kv (g1 (nF e)) (bA 4) ?_
  obtain ⟨L,B,H⟩:=f6 H
  refine N5 (g1 (nF e)) (cl (aa0.ok B) [])<|kv (g1 (nF e)) V4 ?_
  refine k0 (n8 (nF e)) ?_
  refine rn rfl ?_
  obtain ⟨g,H⟩|⟨g,H⟩:=oi H
  ·refine kv (g1 (nF g)) (y8 1 1)<|kv (g1 (nF g)) (y8 2 3)<|kv (g1 (nF g)) B5<|kv (g1 (nF g)) neq ?_
   refine k0 (n8 (nF g)) ?_
   refine rn rfl ?_
   obtain ⟨h,H⟩|⟨h,H⟩:=oi H
   ·refine kv (g1 (eM h)) (y8 1 1)<|kv (g1 (eM h)) (y8 3 4)<|kv (g1 (eM h)) B5<|kv (g1 (eM h)) neq ?_
    refine k0 (n8 (eM h))<|d9<|c8 ?_
    obtain ⟨q,H⟩|⟨q,H⟩:=oi H
    ·refine iF (eM q)<|i9<|c8<|d8<|j4<|d8<|c9<|rn rfl ?_
     obtain ⟨M,C,H⟩:=f6 H
     refine kC (cl (y7.ok C) []) ?_
     refine rn rfl<|d9<|c8 ?_
     obtain ⟨s,H⟩|⟨s,H⟩:=oi H
     ·refine iT s<|d8<|c9<|rn rfl ?_
      obtain ⟨N,D,H⟩:=f6 H
      refine kC (cl (y9.ok D) []) ?_
      refine rn rfl ?_
      obtain ⟨b,H⟩|⟨b,H⟩:=oi H
      ·refine kv (g1 (decide_eq_true b)) mv<|kv (g1 (decide_eq_true b)) (y8 6 6)<|kv (g1 (decide_eq_true b)) B5<|kv (g1 (decide_eq_true b)) mv ?_
       obtain ⟨O,F,H⟩:=f6 H
       refine N5 (g1 (decide_eq_true b)) (cl (y9.ok F) [])<|kv (g1 (decide_eq_true b)) geq ?_
       refine k0 (o8 (decide_eq_true b)) ?_
       refine rn rfl<|d9<|c8<|f7<|l7<|f8 ?_
       obtain rfl:=si H
       exact rt hE []
      iterate 6 refine kx (hT (decide_eq_false b)) ?_
      refine k0 (n8 (decide_eq_false b)) ?_
      refine rn rfl<|d9<|c8<|f7<|l7<|f8 ?_
      obtain rfl:=si H
      exact rt hE []
     refine iF (bF s)<|d8<|c9<|rn rfl<|d9<|c8 ?_
     obtain ⟨t,H⟩|⟨t,H⟩:=oi H
     ·refine iT (eT t)<|d8<|c9<|rn rfl ?_
      obtain ⟨c,H⟩|⟨c,H⟩:=oi H
      ·refine kv (g1 (eT c)) mv<|kv (g1 (eT c)) (y8 5 5)<|kv (g1 (eT c)) B5<|kv (g1 (eT c)) mv ?_
       obtain ⟨P,G,H⟩:=f6 H
       refine N5 (g1 (eT c)) (cl (y9.ok G) [])<|kv (g1 (eT c)) geq ?_
       refine k0 (o8 (eT c)) ?_
       refine rn rfl ?_
       obtain ⟨l,H⟩|⟨l,H⟩:=oi H
       ·refine kv (g1 (decide_eq_true l)) (y8 6 6)<|kv (g1 (decide_eq_true l)) B5<|kv (g1 (decide_eq_true l)) seq ?_
        refine k0 (o8 (decide_eq_true l)) ?_
        refine rn rfl<|d9<|c8<|f7<|l7<|f8 ?_
        obtain rfl:=si H
        exact rt hE []
       iterate 3 refine kx (hT (decide_eq_false l)) ?_
       refine k0 (n8 (decide_eq_false l)) ?_
       refine rn rfl<|d9<|c8<|f7<|l7<|f8 ?_
       obtain rfl:=si H
       exact rt hE []
      iterate 6 refine kx (hT (eF c)) ?_
      refine k0 (n8 (eF c)) ?_
      refine rn rfl ?_
      iterate 3 refine kx (hT rfl) ?_
      refine k0 (n8 rfl) ?_
      refine rn rfl<|d9<|c8<|f7<|l7<|f8 ?_
      obtain rfl:=si H
      exact rt hE []
     refine iF (eF t)<|i9<|j6<|c8<|d8<|c9<|rn rfl ?_
     obtain ⟨m,H⟩|⟨m,H⟩:=oi H
     ·refine kv (g1 m) (y8 6 6)<|kv (g1 m) B5<|kv (g1 m) seq ?_
      refine k0 (o8 m) ?_
      refine rn rfl<|d9<|c8<|f7 ?_
      obtain rfl:=si H
      exact rt hE []
     iterate 3 refine kx (hT (bF m)) ?_
     refine k0 (n8 (bF m)) ?_
     refine rn rfl<|d9<|c8<|f7 ?_
     obtain rfl:=si H
     exact rt hE []
    refine iT (eN q)<|d8<|c9<|rn rfl<|d9<|c8<|f7<|f8 ?_
    obtain rfl:=si H
    exact rt hE []
   iterate 4 refine kx (hF (eN h)) ?_
   refine k0 (o8 (eN h))<|d9<|c8<|iT rfl<|d8<|c9 ?_
   refine rn rfl<|d9<|c8<|f7<|f8 ?_
   obtain rfl:=si H
   exact rt hE []
  iterate 4 refine kx (hF (nT (bF g))) ?_
  refine k0 (o8 (nT (bF g))) ?_
  refine rn rfl ?_
  iterate 4 refine kx (hF rfl) ?_
  refine k0 (o8 rfl)<|d9<|c8<|iT rfl<|d8<|c9 ?_
  refine rn rfl<|d9<|c8<|f7<|f8 ?_
  obtain rfl:=si H
  exact rt hE []
 iterate 4 refine kx (hF (nT (bF e))) ?_
 refine k0 (o8 (nT (bF e))) ?_
 refine rn rfl ?_
 iterate 4 refine kx (hF rfl) ?_
 refine k0 (o8 rfl) ?_
 refine rn rfl ?_
 iterate 4 refine kx (hF rfl) ?_
 refine k0 (o8 rfl)<|d9<|c8<|iT rfl<|d8<|c9 ?_
 refine rn rfl<|d9<|c8<|f7<|f8 ?_
 obtain rfl:=si H
 exact rt hE []
def J2.l0 : Nat→(List j3)→Int→P0
 | 0,_,_=>none
 | c + 1,a,b=>if b < (a.length : Int) then (ad2.f c a b).bind fun d=>if d = true then J2.l0 c a (wrap64 (b + 1)) else some false else some true
def J2.f (k : Nat) (a : List j3) : P0:=(j8.f (a.length : Int) 1 600).bind fun b=>(if b = true then (if 0≤(wrap64 ((a.length : Int) - 1)) then (if (wrap64 ((a.length : Int) - 1)) < (a.length : Int) then if ((l5 a (wrap64 ((a.length : Int) - 1))).f1.f0) = 8 then J2.l0 k a 0 else some false else none) else none) else some false)
theorem J2.ok (H : J2.f k b = some r) : j7 Tryz.prog 325 [] [.sl .o 7 (b.map C6)] [] (.lit (.bool r)):=by
 refine u3 30 Tryz.func325 fun E hE=>?_
 rw [J2.f] at H
 refine d8<|c9<|rn rfl<|d9<|c8<|d8<|c9<|rn rfl<|k0 (G3 v7) ?_
 refine rn rfl<|d9<|c8<|d8<|d8<|c9<|rn rfl ?_
 obtain ⟨o,i,H⟩:=f6 H
 refine kC (cl (j8.ok i) []) ?_
 refine rn rfl ?_
 obtain ⟨a,H⟩|⟨a,H⟩:=oi H
 ·refine kv (g1 (nF a)) mv<|kv (g1 (nF a)) mv<|kv (g1 (nF a)) aQ7 ?_
  obtain ⟨j,H⟩:=i8 H
  obtain ⟨l,H⟩:=i8 H
  refine kv (g1 (nF a)) (iS j l)<|kv (g1 (nF a)) (faR 1 1)<|kv (g1 (nF a)) (faR 0 1)<|kv (g1 (nF a)) pL<|kv (g1 (nF a)) neq ?_
  refine k0 (n8 (nF a))<|d9<|c8 ?_
  obtain ⟨c,H⟩|⟨c,H⟩:=oi H
  ·refine iF (eM c)<|i9<|c8<|d8<|d8<|c9<|rn rfl<|k0 (G3 v7) ?_
   refine rn rfl<|d9<|c8<|j4 ?_
   refine lp1 (fun k=>J2.l0 k b) (fun g=>⟨[(0,.sl .o 7 (b.map C6)),(21,.lit (.int .i64 (b.length : Int))),(22,.lit (.int .i64 g))],[]⟩) H (fun _ h=>aw hE [] h) (fun _ _=>J2.l0.eq_2 ..) fun p g q H s m=>?_
   refine d8<|c9<|rn rfl<|d9<|c8<|d8 ?_
   obtain ⟨d,H⟩|⟨d,H⟩:=oi H
   ·refine iT (decide_eq_true d)<|i9<|c8<|d8<|j4<|d8<|c9<|rn rfl<|d9<|c8<|d8<|c9<|rn rfl ?_
    obtain ⟨t,n,H⟩:=f6 H
    refine kC (cl (ad2.ok n) []) ?_
    refine rn rfl<|d9<|c8 ?_
    obtain ⟨e,H⟩|⟨e,H⟩:=oi H
    ·refine iF (nF e)<|i9<|j6<|c8<|c9<|rn rfl<|d9<|l6 ?_
     exact aw hE [] (m (Nat.le_refl _) H)
    refine iT (nT (bF e))<|d8<|c9<|rn rfl<|d9<|c8<|f7<|l7<|f8<|f8<|l7<|f8 ?_
    obtain rfl:=si H
    exact rt hE []
   refine iF (decide_eq_false d)<|m6<|j5<|j5<|n7 rfl<|c8<|d8<|c9<|rn rfl<|d9<|c8<|f7 ?_
   obtain rfl:=si H
   exact rt hE []
  refine iT (eN c)<|d8<|c9<|rn rfl<|d9<|c8<|f7<|f8 ?_
  obtain rfl:=si H
  exact rt hE []
 iterate 8 refine kx (hF (nT (bF a))) ?_
 refine k0 (o8 (nT (bF a)))<|d9<|c8<|iT rfl<|d8<|c9 ?_
 refine rn rfl<|d9<|c8<|f7<|f8 ?_
 obtain rfl:=si H
 exact rt hE []
def A5.l0 : Nat→(List Int)→Int→Int→Int→Y55
 | 0,_,_,_,_=>none
 | e + 1,b,c,d,a=>if a < c then if 0≤a then (if a < (b.length : Int) then A5.l0 e b c (wrap64 (d + (rd b a))) (wrap64 (a + 1)) else none) else none else some d
def A5.f (k : Nat) (b : List j3) (c : List Int) (a : Int) (d : ByteArray) : Y55:=(y9.f k b d a).bind fun e=>A5.l0 k c e 0 (wrap64 (a + 1))
theorem A5.ok (H : A5.f k g a i j = some r) : j7 Tryz.prog 274 [] [.sl .o 7 (g.map C6),.sl .o 1 (a.map (eI .i64)),.lit (.int .i64 i),.lit (.string j)] [] (.lit (.int .i64 r)):=by
 refine u3 30 Tryz.func274 fun E hE=>?_
 rw [A5.f] at H
 refine d8<|c9<|rn rfl<|d9<|c8<|d8<|c9<|rn rfl<|d9<|c8<|d8<|c9<|rn rfl ?_
 obtain ⟨c,l,H⟩:=f6 H
 refine kC (cl (y9.ok l) []) ?_
 refine rn rfl<|d9<|c8<|d8<|d8<|c9<|rn rfl<|d9<|c8<|j4 ?_
 refine V7 (fun k=>A5.l0 k a c) (fun d e=>⟨[(1,.sl .o 1 (a.map (eI .i64))),(9,.lit (.int .i64 d)),(10,.lit (.int .i64 c)),(11,.lit (.int .i64 e))],[]⟩) H (fun _ h=>aw hE [] h) (fun _ _ _=>A5.l0.eq_2 ..) fun p d e q H s m=>?_
 refine d8<|d8<|c9<|rn rfl<|d9<|c8 ?_
 obtain ⟨b,H⟩|⟨b,H⟩:=oi H
 ·refine iT (decide_eq_true b)<|i9<|c8<|d8<|j4<|c9<|rn rfl ?_
  obtain ⟨n,H⟩:=i8 H
  obtain ⟨o,H⟩:=i8 H
  refine k0 (iS n o) ?_
  refine rn rfl<|d9<|j6<|c8<|c9<|rn rfl<|d9<|l6 ?_
  exact aw hE [] (m (Nat.le_refl _) H)
 refine iF (decide_eq_false b)<|m6<|j5<|j5<|n7 rfl<|c8<|d8<|c9<|rn rfl<|d9<|c8<|f7 ?_
 obtain rfl:=si H
 exact rt hE []
end Go.Proofs.YtahmbcgolnplgaaGreat.PFnNoHoles
