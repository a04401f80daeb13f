import Derived.Test.YtlcdgbhigfgehabGreatDoorQA03
import Derived.Calls
import Derived.RunT
set_option linter.all false
set_option maxRecDepth 100000
set_option maxHeartbeats 16000000
namespace Go.Ren
open Go
section
variable{C:bf}{R:Nat->Prop}{bZ:FuncId->Bool}{tail:List Frame}{main':Bool}{f:Ren}
def iS.run{g g':aY}(S:iS C bZ tail main' f g g'){w w':ab}(hw:bR C R f w w')(e1:∀j q,w.tape (w.drawn+j) q=w'.tape (w'.drawn+j) q)(H:∀o w2 es,stepG C.P true g w≠.ended o w2 es):∃m az w2 A aa p u aH,stepG C.P true g w=.go az w2 A/\stepG C.b0 main' g' w'=.go aa p u/\j2 C bZ tail m az aa/\bR C R m w2 p/\(∃z,iq R f m w w' (a2 w2 w2.tape (w2.drawn - z)) p aH)/\(∀e∈u,sC R m e)/\w.drawn<=w2.drawn/\∀aP d,(∀j q,w.drawn+j<w2.drawn->aP (d+j) q=w.tape (w.drawn+j) q)->∃r,stepG C.P true g (a2 w aP d)=.go az (a2 w2 aP (d+ (w2.drawn - w.drawn))) r:=by
 obtain⟨s1,s2,D,K,CC,t1,t2,wh,L5,L6,pr,L8,F,F',bD,B⟩:=S;have⟨V,l1⟩:=bD.run hw _ (λj q _=>e1 j q) #[] #[] (bh _);cases ku:s1.runT C.P w #[]with
 |mk W es1=>
 rw[ku]at V;cases W with
 |halt h w1=>
  exfalso;cases h with
  |panic v=>exact F.sJ _ _ _ _ ku
  |_=>have⟨o,w2,aH,J⟩:=F.d1 ku V;exact H _ _ _ J
 |ok x w1=>
  obtain⟨f1,ak,w1',X,ay,cc,Y,l⟩:=V;have⟨t,y⟩:=l1 _ _ _ ku rfl ag;have⟨Z,Lt,ai2⟩:=B f1 x ak l.le cc;have ai3:∀j q,w1.tape (w1.drawn+j) q=w1'.tape (w1'.drawn+j) q:=by
   have⟨n,st,rl⟩:=l.drawn;intro j q;rw[l.tape,l.yX,st,rl,oh,oh];exact e1 _ _
  have⟨⟨z,T⟩,l2⟩:=Z.run Y ai3 #[] #[];have L:∀{m:Ren}{s:List Event}{es:bI},bs f1 m->(∀e∈s,sC R m e)->(∀e∈es,e∈(#[]++X.toArray)\/e∈(#[]++s.toArray))->∀e∈es,sC R m e:=by
   intro m s es bO Z b7 e J;rcases b7 e J with q|q
   .exact(l.aH e (by simpa using q)).mono bO
   .exact Z e (by simpa using q)
  cases p7:(s2 x).runT C.P w1 #[]with
  |mk c A=>
  rw[p7]at T;have M:∀(cJ:∀h w2,eJ h->c≠.halt h w2),w1.drawn<=c.world.drawn/\∀aP d,(∀j q,w.drawn+j<c.world.drawn->aP (d+j) q=w.tape (w.drawn+j) q)->s1.runT C.P (a2 w aP d) #[]=(.ok x (a2 w1 aP (d+ (w1.drawn - w.drawn))),es1)/\(s2 x).runT C.P (a2 w1 aP (d+ (w1.drawn - w.drawn))) #[]=(match c with| .ok a w2=>.ok a (a2 w2 aP (d+ (w2.drawn - w.drawn)))| .halt h w2=>.halt h (a2 w2 aP (d+ (w2.drawn - w.drawn))),A):=by
   intro cJ;have⟨E,N⟩:=l2 _ _ _ p7 rfl (λh hd=>cJ h _ hd);refine⟨E,λaP d G=> ?_⟩;dsimp only at t y;change w.drawn<=w1.drawn at t;have O:=y aP d λj q en=>G j q (by change w.drawn+j<w1.drawn at en;omega);have Q:=N aP (d+ (w1.drawn - w.drawn)) λj q en=>by
    have:=G (w1.drawn - w.drawn+j) q U;rw[oh,this,l.tape];congr 1;omega
   refine⟨O,Q.trans ?_⟩;have e:∀z:ab,w1.drawn<=z.drawn->d+ (w1.drawn - w.drawn)+ (z.drawn - w1.drawn)=d+ (z.drawn - w.drawn):=λz dw=>U;cases c with
   |ok a w2=>dsimp only;rw[e w2 E]
   |halt h w2=>dsimp only;rw[e w2 E]
  cases c with
  |ok b w2=>
   obtain⟨m,pt,p,s,aF,Mc,i,k⟩:=T;have⟨d1,d2,ia⟩:=Lt m b pt k.le Mc;have⟨es,O,_⟩:=F.ok ku p7 d1;have⟨bg,Q,gg⟩:=F'.ok ay aF d2;have⟨k1,gd⟩:=M ag;refine⟨m,_,w2,es,_,p,bg,_,O,Q,ia,⟨i.obj,i.ro,i.env,i.jX⟩,⟨z,l.trans k⟩,L k.le k.aH gg,dU t k1,λaP d G=> ?_⟩;have⟨gM,p2⟩:=gd aP d G;have⟨r,p3,_⟩:=F.ok gM p2 d1;exact⟨r,p3⟩
  |halt h w2=>
   cases h with
   |panic v=>
    obtain⟨m,v',p,s,aF,bP,i,k⟩:=T;have ia:=ai2 m v v' k.le bP;have⟨es,O,_⟩:=F.ql ku p7;have⟨bg,Q,gg⟩:=F'.ql ay aF;have⟨k1,gd⟩:=M (by intro h w2 hd e;cases e;exact hd.panic _ rfl);refine⟨m,_,w2,es,_,p,bg,_,O,Q,ia,⟨i.obj,i.ro,i.env,i.jX⟩,⟨z,l.trans k⟩,L k.le k.aH gg,dU t k1,λaP d G=> ?_⟩;have⟨gM,p2⟩:=gd aP d G;have⟨r,p3,_⟩:=F.ql gM p2;exact⟨r,p3⟩
   |_=>exfalso;have⟨o,w2,aH,J⟩:=F.d2 ku p7 T;exact H _ _ _ J
end
end Go.Ren
