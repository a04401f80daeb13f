import Derived.Test.YtlcdgbhigfgehabGreatDoorQC09
set_option linter.all false
set_option maxRecDepth 100000
set_option maxHeartbeats 16000000
namespace Go.Proofs.YtlcdgbhigfgehabGreatDoor
open Go Go.Ren Go.bp Go.bG Go.Conc Go.ConcN Go.RowKit Go.Conc.Lib Go.ConcR.Gen Go.ConcN.Gen
open Go.ConcR (KK wgBlock WgAt stA smA rd wr mk DC0)
open Go.ConcM (OsLater)

def qU(aU:ab)(rf th:List aI)(R:ar)(M:Bool->Nat->dS)(a3 a0 cx eK bL bq a9 aG aT ba wg bse:Nat):c7 where
 K:={cW:=116,WQ:=109,qv:=60,Wg:=wg,bm:=aT,bU:=aG,bb:=bq,n:=6,base:=bse,ro:=λb=>b=0\/b=1\/b=2\/b=bL\/b=a9\/b=ba\/b=a3}
 aU:=aU
 bL:=bL
 a9:=a9
 ba:=ba
 aO:=a3
 bd:=0
 bc:=a0
 ms:=cx
 It:=eK
 bx:=R
 av:=λj=>(M false j).av
 an:=λj=>(M false j).an
 au:=fX rf th
 room:=eo
 A:=λj b=>(M false j).A b
section
variable{W aU:World}{rf th:List aI}{R:List UInt8}{M:Bool->Nat->dS}{a3 a0 cx eK bL bq a9 aG aT ba wg bse cg:Nat}{bN:Value}
structure QI(W aU:ab)(M:Bool->Nat->dS)(a3 cx bL bq a9 aG aT ba wg cg:Nat):Prop where
 pi:3<=W.heap.size/\W.heap.size<=cg
 Od:W.heap.size<=a3/\a3<cg
 Zs:W.heap.size<=cx/\cx<cg/\cx≠a3
 new:∀b,b=bL\/b=bq\/b=a9\/b=aG\/b=aT\/b=ba\/b=wg->cg<=b/\b<aU.heap.size
 oO:[bL,bq,a9,aG,aT,ba,wg].Nodup
 A:∀c j,j<6->∀b,(M c j).A b->W.heap.size<=b/\b<cg/\b≠a3/\b≠cx
def arR(g:kL aU)(e:nc W.heap.size rf th R M a3 a0 (.slice (some ⟨cx,0,none⟩) 6 eK) bN aU)(d:QI W aU M a3 cx bL bq a9 aG aT ba wg cg)(h:QC (.slice (some ⟨a3,0,none⟩) R.length a0) bL bq a9 aG aT ba wg aU): (qU aU rf th R M a3 a0 cx eK bL bq a9 aG aT ba wg bse).Ok:=by
 have⟨y,B⟩:=d.pi;have⟨g1,C⟩:=d.Od;have⟨x1,D,kv⟩:=d.Zs;have E:=d.new bL ag;have F:=d.new bq ag;have G:=d.new a9 ag;have H:=d.new aG ag;have aa:=d.new aT ag;have J:=d.new ba ag;have L:=d.new wg ag;have oO:=d.oO;simp only[IE,dY,gE,gn,not_or,IF,D6,kl]at oO;obtain⟨⟨N,O,P,Q,S,T⟩,⟨ay,aF,az,V,X⟩,⟨Y,Z,f3,f4⟩,⟨i1,i2,i3⟩,⟨hE,zU⟩,k1⟩:=oO;obtain⟨p,r,s,a,-,l,-,-,-⟩:=e.x.row aE;injection a with a _ _;injection a with a;injection a with a;subst a;have low:∀b,b<cg->b≠0->b≠1->b≠2->b≠a3->¬(qU aU rf th R M a3 a0 cx eK bL bq a9 aG aT ba wg bse).K.ro b:=(by rintro b bD cb b7 dC dB(q|q|q|q|q|q|q)<;>omega);refine⟨rfl,(show 6<=8 by decide),λi af=>e.b5 false i af,λi j af f m b u v=>e.two false i false j af f (.inr m) b u v,λi af b n=> ?_,e.hD,e.Og,g.ety,g.oP,?_,⟨.inl rfl,.inr (.inl rfl),.inr (.inr (.inl rfl)),.inr (.inr (.inr (.inr (.inr (.inr rfl)))))⟩,⟨.inr (.inr (.inr (.inl rfl))),?_⟩,⟨.inr (.inr (.inr (.inr (.inl rfl)))),?_⟩,⟨.inr (.inr (.inr (.inr (.inr (.inl rfl))))),?_⟩,?_,?_,?_,?_,λi af=> ?_⟩
 .have a1:=d.A false i af b n;have o:=(e.aw false i af b n).2.2.2.2;refine⟨⟨o.lt,low b U U U U U,?_,?_,?_,?_,λj f=>absurd f (py _)⟩,o⟩
  .show b≠wg;omega
  .show b≠aT;omega
  .show b≠bq;omega
  .show b≠aG;omega
 .obtain⟨c,t,z,k,w,-⟩:=g.fM;exact⟨c,t,z,k,w⟩
 .show aU.cell? ⟨bL,0,none⟩=_;simp only[World.cell?,h.sb];rfl
 .show aU.cell? ⟨a9,0,none⟩=_;simp only[World.cell?,h.IB];rfl
 .show aU.cell? ⟨ba,0,none⟩=_;simp only[World.cell?,h.IC];rfl
 .dsimp only[qU];intro b q;omega
 .dsimp only[qU];omega
 .dsimp only[qU];omega
 .refine⟨(show cx<aU.heap.size by omega),low cx U U U U kv,?_,?_,?_,?_,λj f q=>(d.A false j f _ q).2.2.2 rfl⟩
  .show cx≠wg;omega
  .show cx≠aT;omega
  .show cx≠bq;omega
  .show cx≠aG;omega
 .exact l.cell (DG (M false) s af)
structure An(W:ab)(rf th:List aI)(R:ar)(X Y:Nat->dS)(a3 a0:Nat)(xv bN:ai)(a9 ba aT bq aG b3 wg:Nat)(w:ab):Prop where
 old:gU W w
 os:OsLater W.os w.os
 out:w.output=W.output
 hD:bH w (.slice (some ⟨a3,0,none⟩) R.length a0) R/\fz R≠none
 hX:eL w a3/\W.heap.size<=a3
 x:Vec w 0 26 1 xv 6 (fh X 6)
 y:Vec w 0 26 1 bN 6 (fh Y 6)
 vq:(∀b,xv.ownBlock=some b->W.heap.size<=b)/\∀b,bN.ownBlock=some b->W.heap.size<=b
 dv:∀j,j<6->dK w (X j).av (X j).an (qM rf th R j) (eo j) (X j).A
 Ao:∀j,j<6->dK w (Y j).av (Y j).an (fX rf th j) (eo j) (Y j).A
 rw:∀j,j<6->∀b,(X j).A b\/(Y j).A b->W.heap.size<=b/\eL w b
 xC:xB X Y
 QJ:w.heap[a9]? =some (.cells #[.slice (some ⟨bq,0,none⟩) 6 6] 69 (0,0))
 QK:w.heap[ba]? =some (.cells #[.pointer (some ⟨aT,0,none⟩)] 107 (0,0))
 Zt:∃bE v1,w.heap[aT]? =some (.cells #[bE,v1,.map (some aG)] 109 (0,0))
 QL:∃vs,Own w bq 60 vs/\vs.length=6/\∀i v,vs[i]? =some v->eb w v (gv rf th R i)/\∀g,v=.iface 84 (.pointer (some ⟨g,0,none⟩))->(∃n k,gv rf th R i=.file n k)->W.heap.size<=g/\g≠wg
 QM:∃f es c,w.heap[aG]? =some (.map es c)/\ga f es.toList/\ni c es.toList/\∀k,f k=Go.ConcN.sumTo 6 λj=>if k=(gv rf th R j).k then 1 else 0
 cnt:Own w b3 50 (cR λ_=>0)
 QN:W.heap.size<=a9/\W.heap.size<=ba/\W.heap.size<=aT/\W.heap.size<=bq/\W.heap.size<=aG/\W.heap.size<=b3
def arS(IN:kL W)(ap:gU W aU)(arT:aU.os=W.os)(Z:aU.output=W.output)(E:nc W.heap.size rf th R M a3 a0 (.slice (some ⟨cx,0,none⟩) 6 eK) bN aU)(B:QI W aU M a3 cx bL bq a9 aG aT ba wg cg)(h:QC (.slice (some ⟨a3,0,none⟩) R.length a0) bL bq a9 aG aT ba wg aU){b3:Nat}(B8:Own aU b3 50 (cR λ_=>0))(arU:∀b,bN.ownBlock=some b->b<cg)(V:W.heap.size<=b3/\b3<cg/\b3≠a3/\∀j,j<6->¬(M false j).A b3){cs:bW}{c:gF}{own:Nat->Prop}{T:aQ}(p5:c.eM aD aD own (G ((base 29).at ⟨T,[]⟩ [.code rN]) cs) aU)(arV:T.size=66)(t1:T[1]? =some (.slice (some ⟨cx,0,none⟩) 6 eK))(t2:T[2]? =some (.pointer (some ⟨bL,0,none⟩)))(t11:T[11]? =some (.pointer (some ⟨a9,0,none⟩)))(t12:T[12]? =some (.pointer (some ⟨ba,0,none⟩)))(t13:T[13]? =some (.pointer (some ⟨wg,0,none⟩))): ∃dQ w' own' a X,c.iB aU dQ w'/\dQ.eM (λb=>False\/b=wg) aD own' (G ((base 29).at a [.inRegion xK [],.code Ag]) cs) w'/\a.tmps.size=66/\a.defers=[]/\a.tmps[11]? =some (.pointer (some ⟨a9,0,none⟩))/\a.tmps[12]? =some (.pointer (some ⟨ba,0,none⟩))/\An W rf th R X (M true) a3 a0 (.slice (some ⟨cx,0,none⟩) 6 eK) bN a9 ba aT bq aG b3 wg w'/\aU.heap.size<=w'.heap.size/\∀j,j<6->¬(X j).A b3/\¬(X j).A wg:=by
 have arW:=ap.z3 IN;have O:=arR (bse:=c.gs.size) arW E B h;obtain⟨st,rl⟩:=B.pi;obtain⟨g1,fC⟩:=B.Od;obtain⟨x1,gz,kv⟩:=B.Zs;have awf:=B.new bL ag;have arX:=B.new bq ag;have awg:=B.new a9 ag;have arY:=B.new aG ag;have awh:=B.new aT ag;have awi:=B.new ba ag;have arZ:=B.new wg ag;have oO:=B.oO;simp only[IE,dY,gE,gn,not_or,IF,D6,kl]at oO;obtain⟨⟨d1,d2,d3,d4,d5,d6⟩,⟨ay,aF,ie,fq,l8⟩,⟨f1,f2,f3,f4⟩,⟨i1,i2,i3⟩,⟨hE,zU⟩,k1⟩:=oO;generalize C:qU aU rf th R M a3 a0 cx eK bL bq a9 aG aT ba wg c.gs.size=D at O;have awj:D.K=(qU aU rf th R M a3 a0 cx eK bL bq a9 aG aT ba wg c.gs.size).K:=(by rw[C]);have r1:=p5.qw (ro':=D.K.ro) (own':=D.aN 0) (λ_ h=>h.elim) (by
  subst C;rintro b(q|q)
  .exact q.1
  .exact(O.mS b q).1)
 obtain⟨N,zX,g,w',ar0,j9,a8,cl,cC,J,hs,j3,L⟩:=arQ (D:=D) (cs:=cs) (ShB:=λ_=>False) (r:=5) (sl:=c.sl) (gs:=c.gs) (t:=c.t) (q:=c.q) O (by subst C;rfl) r1.g0 r1.fD (by subst C;exact r1.pm) (by subst C;rfl) arV (by subst C;exact t1) (by subst C;exact t2) (by subst C;exact t11) (by subst C;exact t12) (by subst C;exact t13) (by subst C;exact h.Al) (by subst C;exact h.Bi) (by subst C;exact⟨_,h.vh,(show(madeCells #[Value.nilIface] 6).size=6 by kernel_rfl)⟩) (by
   subst C;exact⟨_,h.ow,#[],0,rfl,⟨λe P=>by simp at P,List.Pairwise.nil,λ_ _=>rfl⟩,⟨λe P=>by simp at P,D6,λe P=>by simp at P⟩⟩) (λ_ _ h=>h) (λ_ h=>h.elim)
 subst C;obtain⟨-,a,rfl,QO,ar1,vX,ar2,-⟩:=J;have kept:∀b,(qU aU rf th R M a3 a0 cx eK bL bq a9 aG aT ba wg c.gs.size).aN 6 b\/(qU aU rf th R M a3 a0 cx eK bL bq a9 aG aT ba wg c.gs.size).K.ro b->w'.heap[b]? =aU.heap[b]? :=L.kept;have H:∀b,b<cg->b≠0->b≠1->b≠2->b≠a3->(∀j,j<6->¬(M false j).A b)->(qU aU rf th R M a3 a0 cx eK bL bq a9 aG aT ba wg c.gs.size).aN 6 b:=λb dA c9 gg ks D1 xd=>by
  refine⟨(show b<aU.heap.size by omega),?_,(show b≠wg by omega),(show b≠aT by omega),(show b≠bq by omega),(show b≠aG by omega),xd⟩;rintro(q|q|q|q|q|q|q)<;>omega
 have ar3:gU W aU->gU W w':=λap=>⟨dU ap.1 L.size,λb p=>by
  refine(kept b ?_).trans (ap.2 b p);by_cases q:b=0\/b=1\/b=2
  .exact .inr (by rcases q with q|q|q;exact .inl q;exact .inr (.inl q);exact .inr (.inr (.inl q)))
  .exact .inl (H b U U U U U λj d J=>by have:=B.A false j d b J;omega)⟩
 obtain⟨aN,w1,w2,w3⟩:=L.post;have F:∀i,i<6->∀b,aN i b->W.heap.size<=b:=λi af b p=>by
  obtain⟨-,-,-,p4,j5⟩:=w1 i af b p;rcases dH b W.heap.size with bO|bO
  .exfalso;by_cases q:b=0\/b=1\/b=2
   .exact j5 (by rcases q with q|q|q;exact .inl q;exact .inr (.inl q);exact .inr (.inr (.inl q)))
   .exact p4 (H b U U U U U λj d J=>by have:=B.A false j d b J;omega)
  .exact bO
 have Y:∀i,∃an:Nat,∃A:Nat->Prop,i<6->dK w' (M false i).av an (qM rf th R i) (eo i) A/\(∀b,A b->aN i b/\eL w' b)/\∃v,w'.cell? ⟨bq,i,none⟩=some v/\eb w' v (gv rf th R i)/\∀n k g,gv rf th R i=.file n k->v=.iface 84 (.pointer (some ⟨g,0,none⟩))->aN i g:=λi=>by
  by_cases af:i<6
  .obtain⟨an,A,v,Q,S,b7,dC,dB⟩:=w3 i af;exact⟨an,_,λ_=>⟨Q.Mi,λb p=>⟨S b p.1,p.2⟩,v,b7,dC,dB⟩⟩
  .exact⟨0,λ_=>False,λq=>absurd q af⟩
 let X:Nat->dS:=λi=>⟨(M false i).av,(Y i).choose,(Y i).choose_spec.choose⟩
 have z:∀i,i<6->dK w' (X i).av (X i).an (qM rf th R i) (eo i) (X i).A/\(∀b,(X i).A b->aN i b/\eL w' b)/\∃v,w'.cell? ⟨bq,i,none⟩=some v/\eb w' v (gv rf th R i)/\∀n k g,gv rf th R i=.file n k->v=.iface 84 (.pointer (some ⟨g,0,none⟩))->aN i g:=λi af=>(Y i).choose_spec.choose_spec af;have ar4:∀i,(X i).av=(M false i).av:=λi=>rfl;clear_value X
 have aa:∀j,j<6->∀b,(M true j).A b->(qU aU rf th R M a3 a0 cx eK bL bq a9 aG aT ba wg c.gs.size).aN 6 b:=λj d b p=>by
  have a1:=B.A true j d b p;exact H b a1.2.1 U U U a1.2.2.1 λm l J=>E.two false m true j l d (.inl aE) b J p
 have v3:∀j m,j<6->m<6->∀b,(X j).A b->¬(M true m).A b:=λj m d l b Q S=>(w1 j d b ((z j d).2.1 b Q).1).2.2.2.1 (aa m l b S);have IA:∀j m,j<6->m<6->j≠m->∀b,(X j).A b->¬(X m).A b:=λj m d l s b Q S=>w2 j m d l s b ((z j d).2.1 b Q).1 ((z m l).2.1 b S).1;have Zu:∀j m,j<6->m<6->j≠m->∀b,(M true j).A b->¬(M true m).A b:=λj m d l s=>E.two true j true m d l (.inr s);have u:∀j,j<6->dK w' (M true j).av (M true j).an (fX rf th j) (eo j) (M true j).A:=λj d=>(E.b5 true j d).same λb p=>kept b (.inl (aa j d b p));have ar5:fh X 6=fh (M false) 6:=(by unfold fh;simp[ar4]);have w:∀j,j<6->∀b,(X j).A b\/(M true j).A b->W.heap.size<=b/\eL w' b:=λj d b p=>by
  rcases p with p|p
  .have:=(z j d).2.1 b p;exact⟨F j d b this.1,this.2⟩
  .exact⟨(E.aw true j d b p).1,(E.aw true j d b p).2.2.2.2.keep (kept b (.inl (aa j d b p)))⟩
 have Zv:∀av an,W.heap.size<=av->W.heap.size<=an->Clear av an:=λav an Q S=>(by constructor<;>omega);have az:=H b3 V.2.1 U U U V.2.2.1 V.2.2.2;refine⟨⟨zX,ar0,j9,a8⟩,w',_,a,X,⟨N,cl⟩,⟨cC,hs,j3⟩,QO,ar1,HY vX U,HY ar2 U,⟨ar3 ap,arT▸L.os,L.out.trans Z,isB_sameR E.hD λb p=> ?_,⟨E.hX.keep (kept a3 (.inr (.inr (.inr (.inr (.inr (.inr (.inr rfl)))))))),g1⟩,?_,gQ E.y λb p=>kept b (.inl ?_),⟨λb p=> ?_,E.old.2.2⟩,λj d=>(z j d).1,u,w,?_,(kept a9 (.inr (.inr (.inr (.inr (.inr (.inl rfl))))))).trans h.IB,(kept ba (.inr (.inr (.inr (.inr (.inr (.inr (.inl rfl)))))))).trans h.IC,?_,?_,?_,hc B8 (kept b3 (.inl az)),U⟩,L.size,λj d=>⟨λq=>(w1 j d b3 ((z j d).2.1 b3 q).1).2.2.2.1 az,λq=>(w1 j d wg ((z j d).2.1 wg q).1).1 rfl⟩⟩
 .simp[Value.ownBlock]at p;subst p;exact kept a3 (.inr (.inr (.inr (.inr (.inr (.inr (.inr rfl)))))))
 .rw[ar5];exact gQ E.x λb p=>by simp[Value.ownBlock]at p;subst p;exact kept cx (.inl O.Iu)
 .have mY:=E.old.2.2 b p;have fM:=arU b p;exact H b fM U U U (λe=>E.cx.2 (e▸p)) λj d J=>(E.aw false j d b J).2.2.1 p
 .simp[Value.ownBlock]at p;subst p;exact x1
 .refine⟨λj m d l=>⟨λe=>v3 j m d l _ (z j d).1.e4 (e▸(u m l).e4),λe=>v3 j m d l _ (z j d).1.ind (e▸(u m l).ind)⟩,λj m d l s=>⟨λe=>IA j m d l s _ (z j d).1.e4 (e▸(z m l).1.e4),λe=>IA j m d l s _ (z j d).1.ind (e▸(z m l).1.ind)⟩,λj m d l s=>⟨λe=>Zu j m d l s _ (u j d).e4 (e▸(u m l).e4),λe=>Zu j m d l s _ (u j d).ind (e▸(u m l).ind)⟩,λj d=>Zv _ _ (w j d _ (.inl (z j d).1.e4)).1 (w j d _ (.inl (z j d).1.ind)).1,λj d=>Zv _ _ (w j d _ (.inr (u j d).e4)).1 (w j d _ (.inr (u j d).ind)).1⟩
 .obtain⟨x,cD⟩:=L.aT;exact⟨_,_,cD⟩
 .obtain⟨cs,cD,hQ⟩:=L.pay;have Cu:w'.heap[bq]? =some (.cells cs 60 (0,0)):=cD;have ar6:cs.size=6:=hQ;refine⟨cs.toList,Own.of_heap (by simpa using Cu),by simpa using ar6,λi v bP=> ?_⟩;have af:i<6:=(by have:=(qV.1 bP).1;simp at this;omega);obtain⟨v',k1,gd,lU⟩:=(z i af).2.2;simp only[World.cell?,Cu]at k1;have BL:v'=v:=by
   have ay:cs[i]? =some v:=(by simpa using bP);simp at k1;rw[ay]at k1;exact(kz k1).symm
  subst BL;exact⟨gd,λg cC ⟨n,k,P⟩=>⟨F i af g (lU n k g P cC),(w1 i af g (lU n k g P cC)).1⟩⟩
 .obtain⟨f,⟨o,Q,es,dQ,rfl,S,b7⟩,dC⟩:=L.map;exact⟨f,es,dQ,Q,S,b7,dC⟩
end
end Go.Proofs.YtlcdgbhigfgehabGreatDoor
namespace Go.Proofs.YtlcdgbhigfgehabGreatDoor
open Go.RowKit Go.bp

def ar9(a9 ba aT aG bq n c:Nat)(T:aQ)(gr:T.size=66)(b:T[11]? =some (.pointer (some ⟨a9,0,none⟩)))(d:T[12]? =some (.pointer (some ⟨ba,0,none⟩)))(w:ab)(bD:w.cell? ⟨a9,0,none⟩=some (.slice (some ⟨bq,0,none⟩) n c))(cb:w.cell? ⟨ba,0,none⟩=some (.pointer (some ⟨aT,0,none⟩)))(b7:w.cell? ⟨aT,2,none⟩=some (.map (some aG))): di aj.prog [z7] (λa w'=>a.defers=[]/\a.tmps.getD 4 I=.slice (some ⟨bq,0,none⟩) n c/\a.tmps.getD 5 I=.map (some aG)/\a.tmps.getD 6 I=.nilIface/\Fr aD w w') ⟨T,[]⟩ w:=by
 obtain⟨bE,v1,v2,bA,v4,aX,v6,hV,gK,iJ,e,v11,zk,f,g,h,i,j,k,l,m,o,p,q,r,s,t,u,v,x,y,z,A,B,C,D,E,F,G,H,aa,J,K,L,M,N,O,P,Q,R,S,az,V,W,X,Y,Z,qo,qp,mC,mD,mE,mF,mG,mH,mI,rfl⟩:=Iv T gr;simp only[xS,IK,DZ,fK]at b d;subst b d;exact aob a9 ba aT aG bq n c bE v1 v2 bA v4 aX v6 hV gK iJ e f g h i j k l m o p q r s t u v x y z A B C D E F G H aa J K L M N O P Q R S az V W X Y Z qo qp mC mD mE mF mG mH mI w bD cb b7
end Go.Proofs.YtlcdgbhigfgehabGreatDoor
namespace Go.Proofs.YtlcdgbhigfgehabGreatDoor
open Go Go.Ren Go.bp Go.bG Go.Conc Go.ConcN Go.RowKit
open Go.ConcM (OsLater)

section
variable{W w w' u:World}{rf th:List aI}{R:List UInt8}{X Y:Nat->dS}{a3 a0:Nat}{xv bN:Value}{a9 ba aT bq aG b3 wg:Nat}
def An.keep(h:An W rf th R X Y a3 a0 xv bN a9 ba aT bq aG b3 wg w)(k:gU w w')(r:w'.os=w.os)(p:w'.output=w.output):An W rf th R X Y a3 a0 xv bN a9 ba aT bq aG b3 wg w':=by
 have q:∀{b o},w.heap[b]? =some o->w'.heap[b]? =some o:=λ{b o}e=>(k.2 b (bQ.1 e).1).trans e;have d:∀b,b<w.heap.size->w'.heap[b]? =w.heap[b]? :=k.2;refine⟨h.old.trans k,r▸h.os,p.trans h.out,isB_sameR h.hD λb a=> ?_,⟨h.hX.1.keep (d _ h.hX.1.lt),h.hX.2⟩,gQ h.x λb a=>d b (h.x.lt b a).2,gQ h.y λb a=>d b (h.y.lt b a).2,h.vq,λj l=>(h.dv j l).same λb a=>d b (h.rw j l b (.inl a)).2.lt,λj l=>(h.Ao j l).same λb a=>d b (h.rw j l b (.inr a)).2.lt,λj l b a=>⟨(h.rw j l b a).1,(h.rw j l b a).2.keep (d b (h.rw j l b a).2.lt)⟩,h.xC,q h.QJ,q h.QK,?_,?_,?_,hc h.cnt (d _ h.cnt.lt),h.QN⟩
 .simp[Value.ownBlock]at a;subst a;exact d _ h.hX.1.lt
 .have⟨bE,v1,e⟩:=h.Zt;exact⟨bE,v1,q e⟩
 .have⟨vs,o,u,s⟩:=h.QL;refine⟨vs,hc o (d _ o.lt),u,λi v t=>⟨?_,(s i v t).2⟩⟩;have m:=(s i v t).1;revert m;generalize gv rf th R i=E;intro m;cases E with
  |none=>exact m
  |kind k=>exact m
  |file n k=>
   obtain⟨g,e,ap⟩:=m;exact⟨g,e,hc ap (d _ ap.lt)⟩
 .have⟨f,es,c,e,m⟩:=h.QM;exact⟨f,es,c,q e,m⟩
def oV(a9 ba aT bq:Nat)(b:Nat):Prop:=b=0\/b=1\/b=2\/b=a9\/b=ba\/b=aT\/b=bq
def asa:Ag=chain [z7] .ret:=ah
def asb:[z7].all (codeOk (iu true true) false)=true:=ah
def map_or{C:bf}{f:Ren}{g:bu}{es:Array MapEntry}{c:Nat}(h:ga g es.toList):eR C f (.map es c) (.map es c):=by
 refine .map c ⟨rfl,λi e l a b=> ?_⟩;rw[a]at b;cases b;have⟨k,d,j⟩:=h.all e (by simpa using Array.mem_of_getElem? a);exact⟨by rw[d];exact .int _ _,by rw[j];exact .int _ _,rfl⟩
def Zx{C:bf}{R:Nat->Prop}{f:Ren}(q:bR C R f u w'){g:bu}{es:Array MapEntry}{c b:Nat}(h:ga g es.toList)(s:f b=some b)(t:¬R b)(v:u.heap[b]? =some (.map es c)):w'.heap[b]? =some (.map es c):=by
 have⟨o,H,p,w,e⟩:=q.obj _ _ s;rw[v]at p;cases p;rcases e with⟨y,_⟩|⟨_,e⟩
 .exact absurd y t
 .cases e with
  |@map x ak k a=>
   have:ak=es:=by
    refine uI λi=> ?_;have aa:=a.1;rcases dH i es.size with af|af
    .have d:i<ak.size:=U;have r:=a.2 i _ _ (dq af) (dq d);rw[dq af,dq d];have⟨k,j,l⟩:=h.all es[i] ag;obtain⟨m,n,z⟩:=r;rw[j]at m;rw[l]at n;congr 1;generalize J:es[i]=E at *;generalize A:ak[i]=B at *;obtain⟨K,aH,L⟩:=E;obtain⟨D,F,G⟩:=B;simp only at j l m n z;subst j l;cases m;cases n;simp_all
    .rw[oz af,oz U]
   rw[w,this]
def asc(x:kL W)(h:An W rf th R X Y a3 a0 xv bN a9 ba aT bq aG b3 wg w)(Al:wg≠aG/\wg≠a9/\wg≠ba/\wg≠aT/\wg≠bq/\3<=wg){cs:bW}(T:mK cs){c:gF}{own:Nat->Prop}{a:Act}(J:a.tmps.size=66)(K:a.defers=[])(L:a.tmps[11]? =some (.pointer (some ⟨a9,0,none⟩)))(M:a.tmps[12]? =some (.pointer (some ⟨ba,0,none⟩)))(m:c.eM (λb=>False\/b=wg) aD own (G ((base 29).at a [.inRegion xK [],.code Ag]) cs) w)(ow:aG≠a9/\aG≠ba/\aG≠aT/\aG≠bq): ∃E w' own' a',c.iB w E w'/\E.eM (λb=>False\/b=wg) (oV a9 ba aT bq) own' (G ((base 29).at a' [.code .ret]) cs) w'/\a'.defers=[]/\a'.tmps.getD 4 I=.slice (some ⟨bq,0,none⟩) 6 6/\a'.tmps.getD 5 I=.map (some aG)/\a'.tmps.getD 6 I=.nilIface/\gU w w'/\w'.os=w.os/\w'.output=w.output:=by
 have o:=h.old.z3 x;have dw:=o.size;have xL:=x.size;have⟨l1,l2,FF,Zy,asd,QP⟩:=h.QN;have⟨bE,v1,y⟩:=h.Zt;obtain⟨vs,N,-,-⟩:=h.QL;obtain⟨g,es,ij,n,A,-,-⟩:=h.QM;let S:Nat->Prop:=λb=>oV a9 ba aT bq b\/b=aG
 have i:∀b,oV a9 ba aT bq b->∃c t z,w.heap[b]? =some (.cells c t z):=by
  rintro b(rfl|rfl|rfl|rfl|rfl|rfl|rfl)
  .have⟨v,t,k⟩:=o.mj;exact⟨_,_,_,k⟩
  .obtain⟨c,t,z,k,-⟩:=Qk o.oP;exact⟨_,_,_,k⟩
  .obtain⟨c,t,z,k,-⟩:=o.fM;exact⟨_,_,_,k⟩
  .exact⟨_,_,_,h.QJ⟩
  .exact⟨_,_,_,h.QK⟩
  .exact⟨_,_,_,y⟩
  .obtain⟨bo,e,-⟩:=N;exact⟨_,_,_,e⟩
 have p:aG<w.heap.size:=(bQ.1 n).1;have hk:px (cd true) S (oV a9 ba aT bq) w:=⟨λb s=>⟨.inl rfl,.inl s,i b s⟩,λb s=>by
  rcases s with s|rfl
  .have⟨c,t,z,k⟩:=i b s;exact⟨_,k,.inl ⟨_,_,_,rfl⟩⟩
  .exact⟨_,n,.inr (map_or A)⟩,dw,dl _⟩
 have O:¬oV a9 ba aT bq aG:=(by rintro(q|q|q|q|q|q|q)<;>omega);replace m:=m.qw (ro':=oV a9 ba aT bq) (own':=λb=>S b/\¬oV a9 ba aT bq b) (by
  rintro b(q|rfl)
  .exact q.elim
  .refine⟨?_,?_⟩
   .rintro⟨q|q,P⟩
    .exact P q
    .omega
   .rintro(q|q|q|q|q|q|q)<;>omega) (by
  rintro b(⟨q|rfl,-⟩|q)
  .have⟨c,t,z,k⟩:=i b q;exact(bQ.1 k).1
  .exact p
  .have⟨c,t,z,k⟩:=i b q;exact(bQ.1 k).1)
 rw[asa]at m;have az:S a9:=.inl (.inr (.inr (.inr (.inl rfl))));have V:S ba:=.inl (.inr (.inr (.inr (.inr (.inl rfl)))));have Z:S aT:=.inl (.inr (.inr (.inr (.inr (.inr (.inl rfl))))));have B:S bq:=.inl (.inr (.inr (.inr (.inr (.inr (.inr rfl))))));obtain⟨E,w',a',own',nZ,-,C,tr⟩:=Pp (lo:=0) (ro':=true) (S:=S) (R:=oV a9 ba aT bq) (b:=base 29) (a:=⟨a.tmps.map (fu (cd true).fn (cm S)),[]⟩) (a':=a) (ops:=xK) (js:=[]) (l:=[z7]) (Q:=λw a u=>a.defers=[]/\a.tmps.getD 4 I=.slice (some ⟨bq,0,none⟩) 6 6/\a.tmps.getD 5 I=.map (some aG)/\a.tmps.getD 6 I=.nilIface/\Fr aD w u) hk (PF ⟨.inl (.inl rfl),.inl (.inr (.inl rfl)),.inl (.inr (.inr (.inl rfl)))⟩) T Zf rfl rfl rfl asb (zb _) (by rw[K];exact .nil) (λaP d=>⟨rfl,ar9 a9 ba aT aG bq 6 6 _ (by rw[PC];exact J) (qI L (.ptr (a:=⟨a9,0,none⟩) (dJ az))) (qI M (.ptr (a:=⟨ba,0,none⟩) (dJ V))) _ (by
    show(cN (cd true) S (oV a9 ba aT bq) w).cell? _=_
    rw[sM,show w.cell? ⟨a9,0,none⟩=some (.slice (some ⟨bq,0,none⟩) 6 6) by simp[World.cell?,h.QJ],mq,pv (.slice (a:=⟨bq,0,none⟩) _ _ (dJ B))])
   (by
    show(cN (cd true) S (oV a9 ba aT bq) w).cell? _=_
    rw[sM,show w.cell? ⟨ba,0,none⟩=some (.pointer (some ⟨aT,0,none⟩)) by simp[World.cell?,h.QK],mq,pv (.ptr (a:=⟨aT,0,none⟩) (dJ Z))])
   (by
    show(cN (cd true) S (oV a9 ba aT bq) w).cell? _=_
    rw[sM,show w.cell? ⟨aT,2,none⟩=some (.map (some aG)) by simp[World.cell?,y],mq,pv (.map (dJ (.inr rfl)))])⟩) m
 obtain⟨j,uU,f,u,tq,hle,D5,Iz,-,-,r,D,y9,aP,d,dA,P,gg,ks,iU⟩:=tr;have rO:∀b,S b->f b=some b:=λb o=>hle _ _ (dJ o);have hQ:(a2 (cN (cd true) S (oV a9 ba aT bq) w) aP d).heap.size=w.heap.size:=sL;have o9:w'.heap[aG]? =some (.map es ij):=Zx y9 A (rO aG (.inr rfl)) O ((iU.block aG (by rw[hQ];exact p) id).trans (by
  show(cN (cd true) S (oV a9 ba aT bq) w).heap[aG]? =_
  rw[pw,n];rfl))
 rw[dA]at D;have F:=r.getD 4 (d:=I) (d':=I) .undef;have H:=r.getD 5 (d:=I) (d':=I) .undef;have aa:=r.getD 6 (d:=I) (d':=I) .undef;rw[P]at F;rw[gg]at H;rw[ks]at aa;refine⟨E,w',own',a',nZ,C,Ak D,?_,?_,?_,⟨j.size,λb o=> ?_⟩,j.os,j.out⟩
 .revert F;generalize a'.tmps.getD 4 I=z;intro F;cases F with
  |@slice a b _ _ e=>rw[rO bq B]at e;cases e;rfl
 .revert H;generalize a'.tmps.getD 5 I=z;intro H;cases H with
  |map e=>rw[rO aG (.inr rfl)]at e;cases e;rfl
 .revert aa;generalize a'.tmps.getD 6 I=z;intro aa;cases aa;rfl
 .by_cases q:b=aG
  .subst q;rw[o9,n]
  .exact j.kept b o λ⟨k1,gd⟩=>k1.elim gd q
end
end Go.Proofs.YtlcdgbhigfgehabGreatDoor
namespace Go.Proofs.YtlcdgbhigfgehabGreatDoor
open Go Go.Ren Go.bp Go.bG Go.Conc Go.ConcN Go.RowKit
open Go.ConcM (OsLater)

section
variable{W w w' u:World}{rf th:List aI}{R:List UInt8}{X Y:Nat->dS}{a3 a0:Nat}{bv xv bN:Value}{a9 ba aT bq aG b3 wg:Nat}
def ase:Tryz.f29.results= #[.tmp 4,.tmp 5,.tmp 6]:=ah
def asf:Tryz.f20.results= #[.tmp 4,.tmp 5,.cell 6 50,.tmp 7]:=ah
def Zz:Tryz.f7.results= #[.tmp 12]:=ah
abbrev ZA(bv xv:ai)(b3 bq aG:Nat):aQ:= #[bv,xv,I,I,.slice none 0 0,.slice none 0 0,.pointer (some ⟨b3,0,none⟩),.int .i64 0,I,I,I,I,I,I,I,I,I,I,I,I,I,I,I,bv,xv,.tuple #[.slice (some ⟨bq,0,none⟩) 6 6,.map (some aG),.nilIface]]
abbrev ts(bv xv:ai)(b3 bq aG:Nat):aQ:= #[bv,xv,I,I,.slice none 0 0,.slice none 0 0,.pointer (some ⟨b3,0,none⟩),.int .i64 0,I,I,I,I,I,I,I,I,I,I,I,I,I,I,I,bv,xv,.tuple #[.slice (some ⟨bq,0,none⟩) 6 6,.map (some aG),.nilIface],I,I,I,I,I,I,I,I,I,I,I,I,I,I,I,I,I,I,I,I,I,I,I,I,I,I,I,I,I,I,I,I,I,I,I,I,I,I,I,I,I,I,I,I,I,I,I,I,I,I,I,I,I,I,I,I,I,I,I]
def asg{a f:Act}{c:gF}{own ro ShB:Nat->Prop}(k:a.defers=[])(r:a.tmps.getD 4 I=.slice (some ⟨bq,0,none⟩) 6 6)(t:a.tmps.getD 5 I=.map (some aG))(v:a.tmps.getD 6 I=.nilIface)(h:c.eM ShB ro own (G ((base 29).at a [.code .ret]) [tp bv xv b3,lT f bv xv]) w): ∃i w' own',c.iB w i w'/\i.eM ShB ro own' (G ((base 20).at ⟨ts bv xv b3 bq aG,[]⟩ [.inRegion gV [3,4,5,6,7,8,9],.code Ai]) [lT f bv xv]) w'/\gU w w'/\w'.os=w.os/\w'.output=w.output:=by
 have H:a7 Tryz.prog true n7 (fs ro) (λs g w'=>s.deaf=0/\(w'.heap=w.heap/\w'.os=w.os/\w'.output=w.output)/\g=G ((base 20).at ⟨ts bv xv b3 bq aG,[]⟩ [.inRegion gV [3,4,5,6,7,8,9],.code Ai]) [lT f bv xv]) ⟨own,0⟩ (G ((base 29).at a [.code .ret]) [tp bv xv b3,lT f bv xv]) w:=by
  have l:∀{u j:ab},(u.heap=w.heap/\u.os=w.os/\u.output=w.output)->n7 (⟨own,0⟩:aM) u j->(j.heap=w.heap/\j.os=w.os/\j.output=w.output):=λh ⟨d,e⟩=>(by subst e;exact h);refine rL (F:=λu=>u.heap=w.heap/\u.os=w.os/\u.output=w.output) iF ⟨rfl,rfl,rfl⟩ l (λw=>Qt w) λal hF=> ?_;refine XW (F:=λu=>u.heap=w.heap/\u.os=w.os/\u.output=w.output) rfl k rfl Tryz.func29 hF l λcO m=>⟨.tuple #[.slice (some ⟨bq,0,none⟩) 6 6,.map (some aG),.nilIface],#[],⟨own,0⟩,?_,λaH n=> ?_,?_⟩
  .show(results Tryz.f29 a.tmps).runT _ _ _=_
   rw[QF];simp only[nM]at r t v;simp[results,ase,r,t,v]
  .have:aH= #[]:=by
    apply CL;rcases jL aH.size with e|e
    .exact e
    .exact absurd (n aH[0] (Du e)) (xA _)
   rw[this];exact iF _
  .refine .stop λA q=>⟨rfl,l m q,?_⟩;congr 1
 obtain⟨i,w',g,own',o,-,p,⟨-,⟨x,y,z⟩,rfl⟩,-,-⟩:=HS H h (λ_ _ _ h=>h.1);exact⟨i,w',own',o,p,⟨by rw[x];exact bh _,λb _=>by rw[x]⟩,y,z⟩
def ash:Dz.all (codeOk (iu true true) false)=true:=ah
def asi:[3,4,5,6,7,8,9].all (Go.bp.opAt (iu true true) gV)=true:=ah
def ZB(vs:bJ)(es:List cZ)(b:Nat):Prop:=∃(i:Nat)(v:ai)(n:dI)(k:Int),vs[i]? =some v/\es[i]? =some (cZ.file n k)/\v=Value.iface 84 (.pointer (some ⟨b,0,none⟩))
def ZC{i:Nat}{E:cZ}(h:(iD rf th R)[i]? =some E):i<6/\E=gv rf th R i:=by
 have af:i<6:=(by have:=(qV.1 h).1;simpa[iD]using this);rw[PR af]at h;exact⟨af,(kz h).symm⟩
def asj{f:bu}(h:∀k,f k=Go.ConcN.sumTo 6 λj=>if k=(gv rf th R j).k then 1 else 0)(k:Nat):(f (k:Int):Int)=hl rf th R 6 k:=by
 have a:∀n,(Go.ConcN.sumTo n (λj=>if(k:Int)=(gv rf th R j).k then 1 else 0):Nat)=(hl rf th R n k:Int):=by
  intro n;induction n with
  |zero=>simp[Go.ConcN.sumTo,hl]
  |succ n b=>
   rw[H5,<-b];simp only[Go.ConcN.sumTo];by_cases e:(k:Int)=(gv rf th R n).k
   .rw[aV e,aV e.symm];omega
   .rw[aC e,aC (λq=>e q.symm)];omega
 rw[h];exact a 6
def QQ{v:ai}{E:cZ}{g:Nat}(h:eb w v E)(a:v=.iface 84 (.pointer (some ⟨g,0,none⟩))):(∃n k,E=.file n k)/\∃T xs,Own w g T xs/\∀x∈xs,ha x=true:=by
 cases E with
 |none=>obtain rfl:=h;cases a
 |kind k=>obtain rfl:=h;cases a
 |file n k=>
  obtain⟨g',e,o⟩:=h;rw[e]at a;cases a;exact⟨⟨n,k,rfl⟩,_,_,o,λx b=>by simp at b;rcases b with rfl|rfl<;>rfl⟩
def ZD{N:Fn->Bool}{S:Nat->Prop}{v:ai}{E:cZ}(h:eb w v E)(i:∀g,v=.iface 84 (.pointer (some ⟨g,0,none⟩))->S g){f:Ren}(c:bs (cm S) f):aB N (cm S) v v/\∀v',aB N f v v'->v'=v:=by
 cases E with
 |none=>obtain rfl:=h;exact⟨.gN,λv' q=>by cases q;rfl⟩
 |kind k=>obtain rfl:=h;exact⟨.iface _ (.int _ _),λv' q=>by cases q with|iface t q=>cases q;rfl⟩
 |file n k=>
  obtain⟨g,rfl,o⟩:=h;have d:=i g rfl;refine⟨.iface _ (.ptr (a:=⟨g,0,none⟩) (dJ d)),λv' q=> ?_⟩;cases q with
  |iface t q=>
   cases q with
   |@ptr a b e=>rw[c _ _ (dJ d)]at e;cases e;rfl
def dR(b:Nat):Prop:=b=0\/b=1\/b=2
def IP(a:kL w){b:Nat}(h:dR b):∃c t z,w.heap[b]? =some (.cells c t z):=by
 rcases h with rfl|rfl|rfl
 .have⟨v,t,k⟩:=a.mj;exact⟨_,_,_,k⟩
 .obtain⟨c,t,z,k,-⟩:=Qk a.oP;exact⟨_,_,_,k⟩
 .obtain⟨c,t,z,k,-⟩:=a.fM;exact⟨_,_,_,k⟩
def QR{c:Nat->Int}:∀x∈cR c,ha x=true:=λx a=>by
 unfold cR at a;obtain⟨j,_,rfl⟩:=og.1 a;rfl
def ZE{es:List cZ}:∀x∈pD es,ha x=true:=λx a=>by
 unfold pD at a;obtain⟨j,_,rfl⟩:=og.1 a;rfl
def ZF{es:List cZ}:∀x∈pE es,ha x=true:=λx a=>by
 unfold pE at a;obtain⟨j,_,rfl⟩:=og.1 a;rfl
structure D7(W:ab)(rf th:List aI)(R:ar)(X Y:Nat->dS)(a3 a0:Nat)(xv bN cA cn:ai)(b3:Nat)(bi:Nat->Int)(w:ab):Prop where
 old:gU W w
 os:OsLater W.os w.os
 out:w.output=W.output
 hD:bH w (.slice (some ⟨a3,0,none⟩) R.length a0) R/\fz R≠none
 hX:eL w a3/\W.heap.size<=a3
 x:Vec w 0 26 1 xv 6 (fh X 6)
 y:Vec w 0 26 1 bN 6 (fh Y 6)
 vq:(∀b,xv.ownBlock=some b->W.heap.size<=b)/\∀b,bN.ownBlock=some b->W.heap.size<=b
 dv:∀j,j<6->dK w (X j).av (X j).an (qM rf th R j) (eo j) (X j).A
 Ao:∀j,j<6->dK w (Y j).av (Y j).an (fX rf th j) (eo j) (Y j).A
 rw:∀j,j<6->∀b,(X j).A b\/(Y j).A b->W.heap.size<=b/\eL w b
 xC:xB X Y
 D8:Vec w 0 30 1 cA 6 (pD (iD rf th R))
 D9:Vec w 0 9 1 cn 6 (pE (iD rf th R))
 Ea:(∀b,cA.ownBlock=some b->W.heap.size<=b)/\∀b,cn.ownBlock=some b->W.heap.size<=b
 cnt:Own w b3 50 (cR bi)/\W.heap.size<=b3
 ZG:∀k,k<15->bi k=hl rf th R 6 k
def asl(IN:kL W)(h:An W rf th R X Y a3 a0 xv bN a9 ba aT bq aG b3 wg w)(Al:3<=wg/\wg≠b3/\wg≠bq/\wg≠aG)(B:b3≠a3/\xv.ownBlock≠some b3/\bN.ownBlock≠some b3/\(∀j,j<6->¬(X j).A b3/\¬(Y j).A b3)){nR:Act}{c:gF}{own ro:Nat->Prop}(N:c.eM (λb=>False\/b=wg) ro own (G ((base 20).at ⟨ts bv xv b3 bq aG,[]⟩ [.inRegion gV [3,4,5,6,7,8,9],.code Ai]) [lT nR bv xv]) w): ∃dQ w' own' a' cA cn bi,c.iB w dQ w'/\dQ.eM (λb=>False\/b=wg) dR own' (G ((base 20).at a' [.code .ret]) [lT nR bv xv]) w'/\a'.defers=[]/\a'.tmps.getD 4 I=cA/\a'.tmps.getD 5 I=cn/\a'.tmps.getD 6 I=.pointer (some ⟨b3,0,none⟩)/\a'.tmps.getD 7 I=.int .i64 0/\D7 W rf th R X Y a3 a0 xv bN cA cn b3 bi w'/\w.heap.size<=w'.heap.size/\∀b,cA.ownBlock=some b\/cn.ownBlock=some b->w.heap.size<=b:=by
 have m:=h.old.z3 IN;have dw:=m.size;have xL:=IN.size;obtain⟨l1,l2,FF,Zy,asd,QP⟩:=h.QN;obtain⟨vs,vh,ZH,aa⟩:=h.QL;obtain⟨g,es,ij,L,zK,DL,M⟩:=h.QM;have hlen:vs.length=(iD rf th R).length:=(by rw[ZH,DF]);have ZI:∀(i:Nat)v E,vs[i]? =some v->(iD rf th R)[i]? =some E->eb w v E:=λi v E p D=>by
  obtain⟨af,rfl⟩:=ZC D;exact(aa i v p).1
 let S:Nat->Prop:=λb=>dR b\/b=b3\/b=bq\/b=aG\/ZB vs (iD rf th R) b
 have O:∀b,ZB vs (iD rf th R) b->(W.heap.size<=b/\b≠wg)/\∃T xs,Own w b T xs/\∀x∈xs,ha x=true:=λb ⟨i,v,n,k,p,D,b7⟩=>by
  obtain⟨af,he⟩:=ZC D;exact⟨(aa i v p).2 b b7 ⟨n,k,he.symm⟩,(QQ (aa i v p).1 b7).2⟩
 have ZJ:∀(i:Nat)v,vs[i]? =some v->∀g,v=.iface 84 (.pointer (some ⟨g,0,none⟩))->S g:=λi v bP g cC=>by
  have af:i<6:=(by have:=(qV.1 bP).1;omega);obtain⟨⟨n,k,e⟩,-⟩:=QQ (aa i v bP).1 cC;exact .inr (.inr (.inr (.inr ⟨i,v,n,k,bP,by rw[PR af,e],cC⟩)))
 have QS:∀b,W.heap.size<=b->¬dR b:=λb m=>(by rintro(q|q|q)<;>omega);have F:∀b,S b->b≠aG->∃c t z,w.heap[b]? =some (.cells c t z):=by
  rintro b(q|rfl|rfl|rfl|q) B
  .exact IP m q
  .obtain⟨bo,e,-⟩:=h.cnt;exact⟨_,_,_,e⟩
  .obtain⟨bo,e,-⟩:=vh;exact⟨_,_,_,e⟩
  .exact absurd rfl B
  .obtain⟨-,T,xs,⟨bo,e,-⟩,-⟩:=O b q;exact⟨_,_,_,e⟩
 have asm:aG<w.heap.size:=(bQ.1 L).1;have hk:px (cd true) S dR w:=⟨λb bw=>⟨.inl rfl,.inl bw,IP m bw⟩,λb bw=>by
  by_cases q:b=aG
  .subst q;exact⟨_,L,.inr (map_or zK)⟩
  .obtain⟨c,t,z,k⟩:=F b bw q;exact⟨_,k,.inl ⟨_,_,_,rfl⟩⟩,dw,dl _⟩
 have gJ:∀b,S b->b<w.heap.size:=λb bw=>by
  by_cases q:b=aG
  .rw[q];exact asm
  .obtain⟨c,t,z,k⟩:=F b bw q;exact(bQ.1 k).1
 replace N:=N.qw (ro':=dR) (own':=λb=>S b/\¬dR b) (by
  rintro b(q|rfl)
  .exact q.elim
  .have st:¬dR b:=(by rintro(q|q|q)<;>omega);refine⟨?_,st⟩;rintro⟨q|q|q|q|q,-⟩
   .exact st q
   .exact Al.2.1 q
   .exact Al.2.2.1 q
   .exact Al.2.2.2 q
   .exact(O _ q).1.2 rfl) (by
  rintro b(⟨q,-⟩|q)
  .exact gJ b q
  .exact gJ b (.inl q))
 rw[aqh]at N;have QT:S b3:=.inr (.inl rfl);have ZK:S bq:=.inr (.inr (.inl rfl));have ZL:S aG:=.inr (.inr (.inr (.inl rfl)));have asn:bs (cm S) (cm S):=.refl _;have aso:∀k,g k<=8:=λk=>by
  rw[M k];simp only[Go.ConcN.sumTo];repeat' split
  all_goals omega
 have asp:∀k,g k≠0->0<=k/\k<=13:=λk hk=>by
  rw[M k]at hk;have:∃j,k=(gv rf th R j).k:=by
   apply ry;intro asq;apply hk;simp only[Go.ConcN.sumTo];simp only[aC (λe=>asq ⟨_,e⟩)]
  obtain⟨j,rfl⟩:=this;exact Yc _ _ _ _
 obtain⟨lb,uo⟩:∃lb,fu (cd true).fn (cm S) bv=lb:=⟨_,rfl⟩;obtain⟨rz,asr⟩:∃rz,fu (cd true).fn (cm S) xv=rz:=⟨_,rfl⟩;have kp:aB (cd true).fn (cm S) lb bv:=uo▸GQ _;have rx:aB (cd true).fn (cm S) rz xv:=asr▸GQ _;have Ld:aB (cd true).fn (cm S) (.tuple #[.slice (some ⟨bq,0,none⟩) 6 6,.map (some aG),.nilIface]) (.tuple #[.slice (some ⟨bq,0,none⟩) 6 6,.map (some aG),.nilIface]):=.tuple rfl λi v v' p D=>by
  rw[p]at D;cases D;match i with
  |0=>simp at p;subst p;exact .slice (a:=⟨bq,0,none⟩) _ _ (dJ ZK)
  |1=>simp at p;subst p;exact .map (dJ ZL)
  |2=>simp at p;subst p;exact .gN
  |i+3=>simp at p
 have ass:aB (cd true).fn (cm S) (.pointer (some ⟨b3,0,none⟩)) (.pointer (some ⟨b3,0,none⟩)):=.ptr (a:=⟨b3,0,none⟩) (dJ QT);obtain⟨dQ,w',a',own',nZ,-,ast,tr⟩:=Pp (lo:=0) (ro':=true) (S:=S) (R:=dR) (b:=base 20) (a:=⟨ts lb rz b3 bq aG,[]⟩) (a':=⟨ts bv xv b3 bq aG,[]⟩) (ops:=gV) (js:=[3,4,5,6,7,8,9]) (l:=Dz) (Q:=λw a u=>X2 (iD rf th R) g b3 w a u) hk (PF ⟨.inl (.inl rfl),.inl (.inr (.inl rfl)),.inl (.inr (.inr rfl))⟩) (show mK [lT nR bv xv]from⟨Zj,λc dZ=>by cases dZ⟩) aqZ rfl rfl asi ash (by
   have e:ts bv xv b3 bq aG=ZA bv xv b3 bq aG++Array.replicate 59 I:=ah;have fg:ts lb rz b3 bq aG=ZA lb rz b3 bq aG++Array.replicate 59 I:=ah;show aZ _ _ (ts lb rz b3 bq aG) (ts bv xv b3 bq aG)
   rw[e,fg];refine aZ.append ⟨rfl,λi v v' p D=> ?_⟩ (Pz 59);have af:i<26:=(bQ.1 p).1;match i,af with
   |0,_=>cases p;cases D;exact kp
   |1,_=>cases p;cases D;exact rx
   |2,_|3,_|8,_|9,_|10,_|11,_|12,_|13,_|14,_|15,_|16,_|17,_|18,_|19,_|20,_|21,_|22,_=>cases p;cases D;exact .undef
   |4,_|5,_=>cases p;cases D;exact .mr _ _
   |6,_=>cases p;cases D;exact ass
   |7,_=>cases p;cases D;exact .int _ _
   |23,_=>cases p;cases D;exact kp
   |24,_=>cases p;cases D;exact rx
   |25,_=>cases p;cases D;exact Ld) .nil
  (λaP d=>by
   have H:=anm lb rz b3 bq 6 aG vs (iD rf th R) g es ij (a2 (cN (cd true) S dR w) aP d) (uW (CM m.ety (.inl (.inr (.inr rfl)))) rfl) (hc (zg (C:=cd true) (S:=S) (QS b3 QP) (λx cD=>wV (QR x cD)) h.cnt) rfl) (hc (zg (C:=cd true) (S:=S) (QS bq Zy) (λx cD=>by
     obtain⟨i,af⟩:=GR cD;exact(ZD (aa i x af).1 (ZJ i x af) asn).1) vh) rfl) hlen (by rw[DF];decide)
    (λi v E p D=>eb.same (eb.fu (C:=cd true) (S:=S) (R:=dR) (ZI i v E p D) λg cC=>by
     obtain⟨⟨n,k,e⟩,-⟩:=QQ (ZI i v E p D) cC;subst e;exact QS g (O g ⟨i,v,n,k,p,D,cC⟩).1.1) λ_ _=>rfl)
    (by
     show(cN (cd true) S dR w).heap[aG]? =_
     rw[pw,L];rfl) zK DL asp aso
   rw[ZH]at H;exact H) N
 obtain⟨s,uU,f,u,tq,P,D5,Iz,-,-,az,wF,J,aP,d,b9⟩:=tr;have rO:∀b,S b->f b=some b:=λb m=>P _ _ (dJ m);have hQ:(a2 (cN (cd true) S dR w) aP d).heap.size=w.heap.size:=sL;have c8:∀x y,f x=some y->w.heap.size<=x->w.heap.size<=y:=λx y e cD=>by
  rcases D5 x y e with⟨-,rfl⟩|q
  .exact cD
  .exact q.2
 have hu:∀b,b<w.heap.size->b≠b3->u.heap[b]? =(cN (cd true) S dR w).heap[b]? :=λb m cJ=>b9.bo.block b (by rw[hQ];exact m) cJ;have V:∀b,b<w.heap.size->b≠b3->w'.heap[b]? =w.heap[b]? :=λb m cJ=>by
  by_cases nI:S b/\¬dR b
  .obtain⟨nI,Z⟩:=nI;rcases nI with q|q|rfl|rfl|q
   .exact absurd q Z
   .exact absurd q cJ
   .obtain⟨bo,e,-⟩:=vh;exact HZ J P ZK Z e (λv bP=>by
     obtain⟨i,af⟩:=GR bP;have af:vs[i]? =some v:=(by simpa using af);exact ZD (aa i v af).1 (ZJ i v af) P) (hu _ m cJ)
   .rw[L];exact Zx J zK (rO _ ZL) Z ((hu _ m cJ).trans (by rw[pw,L];rfl))
   .have asu:S b:=.inr (.inr (.inr (.inr q)));obtain⟨-,T,xs,⟨bo,e,-⟩,dg⟩:=O b q;exact HZ J P asu Z e (λv bP=>⟨wV (dg v (by simpa using bP)),λv' r=>iV (dg v (by simpa using bP)) r⟩) (hu _ m cJ)
  .exact s.kept b m nI
 obtain⟨cA,cn,fq,l8,qK,qL⟩:=b9.ex;rw[hQ]at qK qL;have ig:=az.getD 4 (d:=I) (d':=I) .undef;have ug:=az.getD 5 (d:=I) (d':=I) .undef;have Bz:=az.getD 6 (d:=I) (d':=I) .undef;have IQ:=az.getD 7 (d:=I) (d':=I) .undef;rw[fq]at ig;rw[l8]at ug;rw[b9.t6]at Bz;rw[b9.t7]at IQ;obtain⟨awk,k1,gd,lU⟩:=wT J qK ig;obtain⟨awl,o9,sr,p9⟩:=wT J qL ug;obtain rfl:=gd.flat ZE;obtain rfl:=sr.flat ZF;rw[DF]at k1 o9;obtain⟨awm,asv,asw⟩:=sN J (rO b3 QT) b9.cnt;obtain rfl:=asw.flat QR;rw[b9.gb]at wF;have awn:∀b,b<w.heap.size->W.heap.size<=b->True:=λ_ _ _=>trivial;have awo:∀{b o},eL w b->b≠b3->w.heap[b]? =some o->w'.heap[b]? =some o:=λ{b o}jP cJ e=>(V b jP.lt cJ).trans e;refine⟨dQ,w',own',a',_,_,λj=>(g j:Nat),nZ,ast,Ak wF,rfl,rfl,?_,?_,⟨⟨dU h.old.1 s.size,λb m=>(V b (fl m h.old.1) U).trans (h.old.2 b m)⟩,s.os▸h.os,s.out.trans h.out,isB_sameR h.hD λb m=> ?_,⟨h.hX.1.keep (V _ h.hX.1.lt (ed B.1)),h.hX.2⟩,gQ h.x λb m=>V b (h.x.lt b m).2 (λe=>B.2.1 (e▸m)),gQ h.y λb m=>V b (h.y.lt b m).2 (λe=>B.2.2.1 (e▸m)),h.vq,λj K=>(h.dv j K).same λb m=>V b (h.rw j K b (.inl m)).2.lt (λe=>(B.2.2.2 j K).1 (e▸m)),λj K=>(h.Ao j K).same λb m=>V b (h.rw j K b (.inr m)).2.lt (λe=>(B.2.2.2 j K).2 (e▸m)),λj K b m=>⟨(h.rw j K b m).1,(h.rw j K b m).2.keep (V b (h.rw j K b m).2.lt (λe=>m.elim (λq=>(B.2.2.2 j K).1 (e▸q)) λq=>(B.2.2.2 j K).2 (e▸q)))⟩,h.xC,k1,o9,⟨λb m=> ?_,λb m=> ?_⟩,⟨asv,QP⟩,λk _=>asj M k⟩,s.size,λb m=> ?_⟩
 .revert Bz;generalize a'.tmps.getD 6 I=z;intro Bz;cases Bz with
  |@ptr a b e=>rw[rO b3 QT]at e;cases e;rfl
 .revert IQ;generalize a'.tmps.getD 7 I=z;intro IQ;cases IQ;rfl
 .simp[Value.ownBlock]at m;subst m;exact V _ h.hX.1.lt (ed B.1)
 .obtain⟨mj,dA,c9⟩:=lU b m;have:=c8 _ _ c9 (qK.lt _ dA).1;have:=h.old.1;omega
 .obtain⟨mj,dA,c9⟩:=p9 b m;have:=c8 _ _ c9 (qL.lt _ dA).1;have:=h.old.1;omega
 .rcases m with m|m
  .obtain⟨mj,dA,c9⟩:=lU b m;exact c8 _ _ c9 (qK.lt _ dA).1
  .obtain⟨mj,dA,c9⟩:=p9 b m;exact c8 _ _ c9 (qL.lt _ dA).1
end
end Go.Proofs.YtlcdgbhigfgehabGreatDoor
namespace Go.Proofs.YtlcdgbhigfgehabGreatDoor
open Go Go.Ren Go.bp Go.bG Go.Conc Go.ConcN Go.RowKit
open Go.ConcM (OsLater)

section
variable{W w w' u:World}{rf th:List aI}{R:List UInt8}{X Y:Nat->dS}{a3 a0:Nat}{bv xv bN cA cn:Value}{b3 wg:Nat}{bi:Nat->Int}
noncomputable def vr(nR:Act)(bv xv v:ai):Act:=((nR.put (some 108) bv).put (some 109) xv).put (some 110) v
def asx{a j:Act}{c:gF}{own ro:Nat->Prop}(r:wg≠b3)(t:a.defers=[])(B:a.tmps.getD 4 I=cA)(C:a.tmps.getD 5 I=cn)(D:a.tmps.getD 6 I=.pointer (some ⟨b3,0,none⟩))(E:a.tmps.getD 7 I=.int .i64 0)(ap:Own w b3 50 (cR bi))(aa:wg<w.heap.size)(h:c.eM (λb=>False\/b=wg) ro own (G ((base 20).at a [.code .ret]) [lT j bv xv]) w): ∃k w' own',c.iB w k w'/\k.eM (λb=>False\/b=wg) aD own' (G ((base 7).at (vr j bv xv (.tuple #[cA,cn,.agg (cR bi).toArray,.int .i64 0])) [.inRegion fi [3,4,5,6,7,8,9,10,11,12],.code qS]) []) w'/\gU w w'/\w'.os=w.os/\w'.output=w.output:=by
 have v:=ap.lt;replace h:=h.qw (ro':=λ_=>False) (own':=λb=>b=b3) (by
  rintro b(q|rfl)
  .exact q.elim
  .exact⟨r,id⟩) (by
  rintro b(rfl|q)
  .exact v
  .exact q.elim)
 have H:a7 Tryz.prog true n7 (fs λ_=>False) (λs g w'=>s.deaf=0/\(w'.heap=w.heap/\w'.os=w.os/\w'.output=w.output)/\g=G ((base 7).at (vr j bv xv (.tuple #[cA,cn,.agg (cR bi).toArray,.int .i64 0])) [.inRegion fi [3,4,5,6,7,8,9,10,11,12],.code qS]) []) ⟨λb=>b=b3,0⟩ (G ((base 20).at a [.code .ret]) [lT j bv xv]) w:=by
  have x:∀{u l:ab},(u.heap=w.heap/\u.os=w.os/\u.output=w.output)->n7 (⟨λb=>b=b3,0⟩:aM) u l->(l.heap=w.heap/\l.os=w.os/\l.output=w.output):=λh ⟨d,e⟩=>(by subst e;exact h);refine rL (F:=λu=>u.heap=w.heap/\u.os=w.os/\u.output=w.output) iF ⟨rfl,rfl,rfl⟩ x (λw=>Qt w) λal hF=> ?_;refine XW (F:=λu=>u.heap=w.heap/\u.os=w.os/\u.output=w.output) rfl t rfl Tryz.func20 hF x λcO f=> ?_;obtain⟨es,n,p⟩:=ar8 (w:=cO) asf B C D E (hc ap (by rw[f.1])) (h6 _);refine⟨_,es,⟨λb=>b=b3,0⟩,n,λaH i=> ?_,?_⟩
  .refine⟨rfl,rfl,rfl,bh _,bh _,λ_ _ _=>rfl,λb=>⟨.inl,λh=>h.elim id λh=>U⟩,λe y=> ?_,?_⟩
   .obtain⟨o,rfl⟩:=p e (i e y);exact .inl (.inl ⟨b3,.inl rfl,rfl,.inr ⟨o,none,rfl⟩⟩)
   .refine z2 λe y m=> ?_;obtain⟨o,rfl⟩:=p e (i e y);exact λq=>by cases q
  .refine .stop λK q=>⟨rfl,x f q,?_⟩;unfold lT;rw[Frame.finish_at,Y9];simp only[Option.bind_some,aqs];rfl
 obtain⟨k,w',g,own',z,-,A,⟨-,⟨n,p,J⟩,rfl⟩,-,-⟩:=HS H h (λ_ _ _ h=>h.1);exact⟨k,w',own',z,A,⟨by rw[n];exact bh _,λb _=>by rw[n]⟩,p,J⟩
def asy:z6.all (codeOk (iu true true) false)=true:=ah
def asz:[3,4,5,6,7,8,9,10,11,12].all (Go.bp.opAt (iu true true) fi)=true:=ah
def D7.keep(h:D7 W rf th R X Y a3 a0 xv bN cA cn b3 bi w)(k:gU w w')(f:w'.os=w.os)(e:w'.output=w.output):D7 W rf th R X Y a3 a0 xv bN cA cn b3 bi w':=by
 have c:∀b,b<w.heap.size->w'.heap[b]? =w.heap[b]? :=k.2;refine⟨h.old.trans k,f▸h.os,e.trans h.out,isB_sameR h.hD λb a=> ?_,⟨h.hX.1.keep (c _ h.hX.1.lt),h.hX.2⟩,gQ h.x λb a=>c b (h.x.lt b a).2,gQ h.y λb a=>c b (h.y.lt b a).2,h.vq,λj d=>(h.dv j d).same λb a=>c b (h.rw j d b (.inl a)).2.lt,λj d=>(h.Ao j d).same λb a=>c b (h.rw j d b (.inr a)).2.lt,λj d b a=>⟨(h.rw j d b a).1,(h.rw j d b a).2.keep (c b (h.rw j d b a).2.lt)⟩,h.xC,gQ h.D8 λb a=>c b (h.D8.lt b a).2,gQ h.D9 λb a=>c b (h.D9.lt b a).2,h.Ea,⟨hc h.cnt.1 (c _ h.cnt.1.lt),h.cnt.2⟩,h.ZG⟩;simp[Value.ownBlock]at a;subst a;exact c _ h.hX.1.lt
def pH{a:Act}{d t:Nat}{v x:ai}(h:a.tmps[t]? =some x)(b:d≠t):(a.put (some d) v).tmps[t]? =some x:=by simp only[Act.put,hL,aC b];exact h
def asA{a:Act}{d:Nat}{v:ai}(h:d<a.tmps.size):(a.put (some d) v).tmps[d]? =some v:=by simp only[Act.put,hL,dd];rw[aV h]
def asB(J:kL W)(h:D7 W rf th R X Y a3 a0 xv bN cA cn b3 bi w)(cz:(gv rf th R 0).k=0)(V:W.heap.size<=wg)(n:wg≠a3/\xv.ownBlock≠some wg/\bN.ownBlock≠some wg/\cA.ownBlock≠some wg/\cn.ownBlock≠some wg/\∀j,j<6->¬(X j).A wg/\¬(Y j).A wg){p:Act}(asC:p.tmps.size=199)(d7:p.defers=[])(Z:p.tmps[16]? =some (.slice (some ⟨a3,0,none⟩) R.length a0))(t17:p.tmps[17]? =some (.int .i64 0))(t19:p.tmps[19]? =some xv)(t20:p.tmps[20]? =some bN){c:gF}{own ro:Nat->Prop}(B:c.eM (λb=>False\/b=wg) ro own (G ((base 7).at (vr p bv xv (.tuple #[cA,cn,.agg (cR bi).toArray,.int .i64 0])) [.inRegion fi [3,4,5,6,7,8,9,10,11,12],.code qS]) []) w): ∃az w' own' a',c.iB w az w'/\az.eM (λb=>False\/b=wg) dR own' (G ((base 7).at a' [.code .ret]) []) w'/\a'.defers=[]/\a'.tmps.getD 12 I=.bool true/\gU W w'/\OsLater W.os w'.os/\w'.output=W.output:=by
 have D:=h.old.z3 J;have dw:=D.size;have xL:=J.size;let S:Nat->Prop:=λb=>dR b\/b=a3\/xv.ownBlock=some b\/bN.ownBlock=some b\/cA.ownBlock=some b\/cn.ownBlock=some b\/∃j,j<6/\((X j).A b\/(Y j).A b)
 have o:∀b,W.heap.size<=b->¬dR b:=λb D=>(by rintro(q|q|q)<;>omega);have H:∀b,S b->¬dR b->W.heap.size<=b/\eL w b/\b≠wg:=by
  rintro b(q|rfl|q|q|q|q|⟨j,g,q⟩) cJ
  .exact absurd q cJ
  .exact⟨h.hX.2,h.hX.1,ed n.1⟩
  .exact⟨h.vq.1 b q,h.x.qm b q,λe=>n.2.1 (e▸q)⟩
  .exact⟨h.vq.2 b q,h.y.qm b q,λe=>n.2.2.1 (e▸q)⟩
  .exact⟨h.Ea.1 b q,h.D8.qm b q,λe=>n.2.2.2.1 (e▸q)⟩
  .exact⟨h.Ea.2 b q,h.D9.qm b q,λe=>n.2.2.2.2.1 (e▸q)⟩
  .exact⟨(h.rw j g b q).1,(h.rw j g b q).2,λe=>q.elim (λq=>(n.2.2.2.2.2 j g).1 (e▸q)) λq=>(n.2.2.2.2.2 j g).2 (e▸q)⟩
 have s:∀b,S b->∃c t z,w.heap[b]? =some (.cells c t z):=λb F=>by
  by_cases q:dR b
  .exact IP D q
  .exact(H b F q).2.1.row
 have K:∀b,S b->b<w.heap.size:=λb F=>(by obtain⟨c,t,z,k⟩:=s b F;exact(bQ.1 k).1);have hk:px (cd true) S dR w:=⟨λb F=>⟨.inl rfl,.inl F,IP D F⟩,λb F=>by obtain⟨c,t,z,k⟩:=s b F;exact⟨_,k,.inl ⟨_,_,_,rfl⟩⟩,dw,dl _⟩;replace B:=B.qw (ro':=dR) (own':=λb=>S b/\¬dR b) (by
  rintro b(q|rfl)
  .exact q.elim
  .exact⟨λ⟨dA,c9⟩=>(H _ dA c9).2.2 rfl,o _ V⟩) (by
  rintro b(⟨q,-⟩|q)
  .exact K b q
  .exact K b (.inl q))
 rw[aqf]at B;have asD:S a3:=.inr (.inl rfl);have asE:∀b,xv.ownBlock=some b->S b:=λb q=>.inr (.inr (.inl q));have asF:∀b,bN.ownBlock=some b->S b:=λb q=>.inr (.inr (.inr (.inl q)));have asG:∀b,cA.ownBlock=some b->S b:=λb q=>.inr (.inr (.inr (.inr (.inl q))));have asH:∀b,cn.ownBlock=some b->S b:=λb q=>.inr (.inr (.inr (.inr (.inr (.inl q)))));have ei:∀j,j<6->∀b,(X j).A b\/(Y j).A b->S b:=λj g b q=>.inr (.inr (.inr (.inr (.inr (.inr ⟨j,g,q⟩)))));have cx:=uV (N:=(cd true).fn) h.x asE;have Yh:=uV (N:=(cd true).fn) h.y asF;have gk:=uV (N:=(cd true).fn) h.D8 asG;have PT:=uV (N:=(cd true).fn) h.D9 asH;have asI:aB (cd true).fn (cm S) (.agg (cR bi).toArray) (.agg (cR bi).toArray):=.agg rfl λi v v' r L=>by
  rw[r]at L;cases L;exact wV (QR v (by simpa using Array.mem_of_getElem? r))
 have Lc:aB (cd true).fn (cm S) (.tuple #[cA,cn,.agg (cR bi).toArray,.int .i64 0]) (.tuple #[cA,cn,.agg (cR bi).toArray,.int .i64 0]):=.tuple rfl λi v v' r L=>by
  rw[r]at L;cases L;match i with
  |0=>simp at r;subst r;exact gk
  |1=>simp at r;subst r;exact PT
  |2=>simp at r;subst r;exact asI
  |3=>simp at r;subst r;exact .int _ _
  |i+4=>simp at r
 have hO:(p.put (some 108) bv).tmps.size=199:=te.trans asC;have hP:((p.put (some 108) bv).put (some 109) xv).tmps.size=199:=te.trans hO;have yI:(vr p bv xv (.tuple #[cA,cn,.agg (cR bi).toArray,.int .i64 0])).tmps.size=199:=te.trans hP;have asJ:(vr p bv xv (.tuple #[cA,cn,.agg (cR bi).toArray,.int .i64 0])).defers=[]:=d7;have O:(vr p bv xv (.tuple #[cA,cn,.agg (cR bi).toArray,.int .i64 0])).tmps[110]? =some (.tuple #[cA,cn,.agg (cR bi).toArray,.int .i64 0]):=asA (by rw[hP];decide);have Qy:=pH (v:=.tuple #[cA,cn,.agg (cR bi).toArray,.int .i64 0]) (d:=110) (pH (v:=xv) (d:=109) (pH (v:=bv) (d:=108) Z aE) aE) aE;have Qz:=pH (v:=.tuple #[cA,cn,.agg (cR bi).toArray,.int .i64 0]) (d:=110) (pH (v:=xv) (d:=109) (pH (v:=bv) (d:=108) t17 aE) aE) aE;have QA:=pH (v:=.tuple #[cA,cn,.agg (cR bi).toArray,.int .i64 0]) (d:=110) (pH (v:=xv) (d:=109) (pH (v:=bv) (d:=108) t19 aE) aE) aE;have D4:=pH (v:=.tuple #[cA,cn,.agg (cR bi).toArray,.int .i64 0]) (d:=110) (pH (v:=xv) (d:=109) (pH (v:=bv) (d:=108) t20 aE) aE) aE;have awp:∀b,S b->¬dR b->¬dR b:=λ_ _ q=>q;have o2:∀j,j<6->∀b,(X j).A b->S b/\¬dR b:=λj g b q=>⟨ei j g b (.inl q),o b (h.rw j g b (.inl q)).1⟩;have ZM:∀j,j<6->∀b,(Y j).A b->S b/\¬dR b:=λj g b q=>⟨ei j g b (.inr q),o b (h.rw j g b (.inr q)).1⟩;have asK:∀aP d,Cc rf th R X Y a3 a0 cA cn xv bN (a2 (cN (cd true) S dR w) aP d):=λaP d=>by
  have ZN:∀(M:Nat->dS),(∀j,j<6->S (M j).av)->∀x∈fh M 6,aB (cd true).fn (cm S) x x:=λM iQ x aa=>by
   unfold fh at aa;obtain⟨j,g,rfl⟩:=og.1 aa;exact .ptr (a:=⟨_,0,none⟩) (dJ (iQ j (uY.1 g)))
  refine⟨uW (CM D.ety (.inl (.inr (.inr rfl)))) rfl,GV (V7 D.oP) rfl,⟨isB_same (isB_lon h.hD.1) λ_ _=>rfl,h.hD.2⟩,⟨0,gQ (wU (λb q=>o b (h.Ea.1 b q)) (λx aa=>wV (ZE x aa)) h.D8) λ_ _=>rfl⟩,⟨0,gQ (wU (λb q=>o b (h.Ea.2 b q)) (λx aa=>wV (ZF x aa)) h.D9) λ_ _=>rfl⟩,⟨0,gQ (wU (λb q=>o b (h.vq.1 b q)) (ZN X λj g=>(o2 j g _ (h.dv j g).e4).1) h.x) λ_ _=>rfl⟩,⟨0,gQ (wU (λb q=>o b (h.vq.2 b q)) (ZN Y λj g=>(ZM j g _ (h.Ao j g).e4).1) h.y) λ_ _=>rfl⟩,⟨λj g=> ?_,λj g=> ?_⟩,h.xC⟩
  .exact(((h.dv j g).fu (C:=cd true) (S:=S) (R:=dR) (o2 j g)).same (w':=a2 (cN (cd true) S dR w) aP d) λ_ _=>rfl).at_
  .have e:oQ rf th R 0 j=fX rf th j:=(by unfold oQ;rw[aC (py _)]);rw[e];exact(((h.Ao j g).fu (C:=cd true) (S:=S) (R:=dR) (ZM j g)).same (w':=a2 (cN (cd true) S dR w) aP d) λ_ _=>rfl).at_
 obtain⟨az,w',a',own',nZ,-,P,tr⟩:=Pp (lo:=0) (ro':=true) (S:=S) (R:=dR) (b:=base 7) (a:=⟨(vr p bv xv (.tuple #[cA,cn,.agg (cR bi).toArray,.int .i64 0])).tmps.map (fu (cd true).fn (cm S)),[]⟩) (a':=vr p bv xv (.tuple #[cA,cn,.agg (cR bi).toArray,.int .i64 0])) (ops:=fi) (js:=[3,4,5,6,7,8,9,10,11,12]) (l:=z6) (Q:=λw a u=>PS X Y w a u) hk (PF ⟨.inl (.inl rfl),.inl (.inr (.inl rfl)),.inl (.inr (.inr rfl))⟩) (show mK []from trivial) Qv rfl rfl asz asy (zb _) (by rw[asJ];exact .nil) (λaP d=>aoa rf th R X Y a3 a0 cA cn xv bN bi _ (by rw[PC];exact yI) (qI Qy (.slice (a:=⟨a3,0,none⟩) _ _ (dJ asD))) (qI Qz (.int _ _)) (qI QA cx) (qI D4 Yh) (qI O Lc) _ (asK aP d) h.ZG cz) B;obtain⟨m,uU,f,u,tq,hle,D5,Iz,-,-,ID,T,y9,aP,d,b9⟩:=tr;have E:=ID.getD 12 (d:=I) (d':=I) .undef;rw[b9.t12]at E;rw[b9.gb]at T;refine⟨az,w',own',a',nZ,P,Ak T,?_,⟨dU h.old.1 m.size,λb D=> ?_⟩,m.os▸h.os,m.out.trans h.out⟩
 .revert E;generalize a'.tmps.getD 12 I=z;intro E;cases E;rfl
 .exact(m.kept b (fl D h.old.1) λ⟨dA,c9⟩=>by have:=(H b dA c9).1;omega).trans (h.old.2 b D)
def asL{a:Act}{c:gF}{own ro ShB:Nat->Prop}(f:a.defers=[])(i:a.tmps.getD 12 I=.bool true)(h:c.eM ShB ro own (G ((base 7).at a [.code .ret]) []) w){Post:ai->ab->Prop}(m:∀w',w'.heap=w.heap->w'.os=w.os->w'.output=w.output->Post (.bool true) w'): ∃N b o w' l,runNT Tryz.prog (N+1) (crowd c.gs w c.sl) c.t=(.ended o w',l)/\runN Tryz.prog N (crowd c.gs w c.sl)=.next b/\step Tryz.prog b=.ended o w'/\Go.Conc.Good Tryz.prog Post b o w' l:=by
 have H:a7 Tryz.prog true n7 (fs ro) (λs g w'=>s.deaf=0/\(w'.heap=w.heap/\w'.os=w.os/\w'.output=w.output)/\g=G {(base 7).at a [.code .ret]with mode:=.returning} []) ⟨own,0⟩ (G ((base 7).at a [.code .ret]) []) w:=(by refine rL (F:=λu=>u.heap=w.heap/\u.os=w.os/\u.output=w.output) iF ⟨rfl,rfl,rfl⟩ (λh ⟨d,e⟩=>by subst e;exact h) (λw=>Qt w) λal hF=>.stop λcO ⟨d,e⟩=>⟨rfl,by subst e;exact hF,rfl⟩);obtain⟨r,w',g,own',j,-,k,⟨-,⟨n,p,q⟩,rfl⟩,-,-⟩:=HS H h (λ_ _ _ h=>h.1);refine j.ends (am1 k rfl f rfl Tryz.func7 ah (v:=.bool true) (λw=> ?_) λal ⟨d,e⟩=>by subst e;exact m _ n p q);show(results Tryz.f7 a.tmps).runT _ _ _=_
 rw[QF,results_tmp Zz,events_results_tmp Zz,i]
end
end Go.Proofs.YtlcdgbhigfgehabGreatDoor
namespace Go.Proofs.YtlcdgbhigfgehabGreatDoor
open Go Go.Ren Go.bp Go.bG Go.Conc Go.ConcN Go.RowKit
open Go.ConcM (OsLater)

def asM(b:Option Addr)(cg c:Nat)(a:Int)(d:Option Addr)(e f:Nat)(fO block other:Int):Frame.enter Tryz.prog 7 #[.slice b cg c,.int .i64 a,.slice d e f,.int .i64 fO,.int .i64 block,.int .i64 other] .normal=(base 7).at ⟨vp b cg c a d e f fO block other,[]⟩ [.code D3]:=ah
def asN{a rf th:List aI}{blk:Nat}(b:dc a)(c:dc rf)(d:1<=blk)(e:blk<=64):(gv rf th (iH a rf blk) 0).k=0:=by
 have f:fc (fX rf th 0) (eo 0) (iH a rf blk)=.inr a:=by
  have ay:fX rf th 0=rf:=(by unfold fX;rw[aC aE]);have aF:eo 0=4000:=(by unfold eo;rw[aC aE]);rw[ay,aF];exact ac5 b c d e (by have:=ac6 b;omega)
 have:=(Uz 0 f).1;unfold gv;rw[this,aC U];rfl
def asO{W:ab}(i:kL W){p r:Option Addr}{cg eY H c2:Nat}{nG hP:tB}{bits fO block other:Int}(cz:oj W p cg nG/\(∀s∈nG,s.size<=maxLen)/\cg<=maxLen)(cb:oj W r H hP/\(∀s∈hP,s.size<=maxLen)/\H<=maxLen)(aa:(-9223372036854775808<=bits/\bits<=9223372036854775807)/\(-9223372036854775808<=fO/\fO<=9223372036854775807)/\(-9223372036854775808<=block/\block<=9223372036854775807)/\(-9223372036854775808<=other/\other<=9223372036854775807))(r0:∀a,p=some a->∃c t z,W.heap[a.block]? =some (.cells c t z))(r2:∀a,r=some a->∃c t z,W.heap[a.block]? =some (.cells c t z)): ∃N l o w' j9,runNT Tryz.prog (N+1) (solo (G (Frame.enter Tryz.prog 7 #[.slice p cg eY,.int .i64 bits,.slice r H c2,.int .i64 fO,.int .i64 block,.int .i64 other] .normal) []) W) #[]=(.ended o w',j9)/\runN Tryz.prog N (solo (G (Frame.enter Tryz.prog 7 #[.slice p cg eY,.int .i64 bits,.slice r H c2,.int .i64 fO,.int .i64 block,.int .i64 other] .normal) []) W)=.next l/\step Tryz.prog l=.ended o w'/\Go.Conc.Good Tryz.prog (λv cH=>v=.bool true/\gU W cH/\OsLater W.os cH.os/\cH.output=W.output) l o w' j9:=by
 have xL:=i.size;rw[asM,solo_eq_crowd];have J:∀b,ei p r b->b<W.heap.size:=by
  rintro b(rfl|rfl|⟨a,e1,rfl⟩|⟨a,e1,rfl⟩)
  .omega
  .omega
  .have⟨c,t,z,k⟩:=r0 a e1;exact(bQ.1 k).1
  .have⟨c,t,z,k⟩:=r2 a e1;exact(bQ.1 k).1
 have⟨d1,w1,a1,awq,t1,asP,pr⟩:=aq2 i cz cb aa r0 r2 (am2 (own:=λb=>ei p r b/\¬ei p r b) (ro:=ei p r) (w:=W) (g:=G ((base 7).at ⟨vp p cg eY bits r H c2 fO block other,[]⟩ [.code D3]) []) λb i=>i.elim (λq=>absurd q.1 q.2) (J b));have⟨d2,w2,K,awr,t2,asQ,u⟩:=aq9 i aa.2.2.1 pr asP;have⟨rf,th,R,M,a3,a0,xv,bN,hT,aws,⟨qn,blk,asR,pX,iI,ik⟩,L,O,D4,d⟩:=u.ex;have⟨d3,w3,awt,t3,asS,B,DD,asT⟩:=arj u.aK L O asQ;have m:gU w2 w3:=⟨by rw[B];simp,λb i=>by rw[B,oE,aC U]⟩;have awu:w3.heap.size=w2.heap.size+1:=(by rw[B];simp);have n:=u.old.trans m;have asU:=d.keep m;have P:Own w3 w2.heap.size 50 (cR λ_=>0):=Own.of_heap (by rw[B,oE,aV rfl];rfl);have⟨d4,w4,awv,aww,bL,bq,a9,aG,aT,ba,wg,cx,eK,t4,asV,Q,asW,asX,asY,S,H6,h,F,asZ,as0,as1,as2,as3,as4,as5⟩:=arn i n asU (Zk (a:=K)) asS;subst H6;have g1:=d.hX.lt;have fC:=d.x.lt cx rfl;have T:∀c j,j<6->∀b,(M c j).A b->b<w2.heap.size:=λc j f b q=>(d.aw c j f b q).2.2.2.2.lt;have ig:∀b,bN.ownBlock=some b->b<w2.heap.size:=λb q=>(d.y.lt b q).2;have Kp:=u.old.1;have az:QI W w4 M a3 cx bL bq a9 aG aT ba wg w3.heap.size:=⟨⟨xL,n.1⟩,⟨d.old.1,U⟩,⟨d.old.2.1 cx rfl,U,λe=>d.cx.1 (by rw[e];rfl)⟩,h,F,λc j f b q=>⟨(d.aw c j f b q).1,by have:=T c j f b q;omega,(d.aw c j f b q).2.2.2.1,λe=>(d.aw c j f b q).2.1 (by rw[e];rfl)⟩⟩;have as6:¬hH M a3 (.slice (some ⟨cx,0,none⟩) 6 eK) w2.heap.size:=by
  rintro(q|q|q|q|⟨j,f,q⟩)
  .omega
  .omega
  .omega
  .simp[Value.ownBlock]at q;omega
  .have:=T _ j f _ q;omega
 have V:=hc P (as5 w2.heap.size U as6);have⟨d5,cU,awx,nP,X,t5,as7,QO,as8,as9,ata,ZO,awy,Y⟩:=arS i Q (asW.trans (DD.trans u.os)) (asX.trans (asT.trans u.out)) asY az S V (λb q=>by have:=ig b q;omega) ⟨Kp,U,U,λj f q=>by have:=T _ j f _ q;omega⟩ asV asZ as0 as1 as2 as3 as4;have arX:=h bq ag;have arY:=h aG ag;have arZ:=h wg ag;simp only[IE,dY,gE,gn,not_or,IF,D6,kl]at F;obtain⟨⟨i1,i2,i3,i4,i5,i6⟩,⟨hE,zU,Hy,Ab,rF⟩,⟨k1,gd,lU,awz⟩,⟨l1,l2,FF⟩,⟨o9,sr⟩,gM⟩:=F;have⟨d6,cI,awA,m0,t6,atb,atc,v4,aX,v6,C,atd,ate⟩:=asc i ZO (wg:=wg) ⟨U,U,U,U,U,U⟩ (Zk (a:=K)) QO as8 as9 ata as7 ⟨U,U,U,U⟩;have⟨d7,ef,awB,t7,atf,D,atg,ath⟩:=asg atc v4 aX v6 atb;have ati:=(ZO.keep C atd ate).keep D atg ath;have awC:wg<ef.heap.size:=by
  have:=C.1;have:=D.1;omega
 have⟨d8,fE,awD,sa,cA,cn,bi,t8,at8,atj,uD,xb,xc,PI,ZP,awE,Z⟩:=asl i ati ⟨U,U,U,U⟩ ⟨U,λq=>by simp[Value.ownBlock]at q;omega,λq=>by have:=ig _ q;omega,λj f=>⟨(Y j f).1,λq=>by have:=T _ j f _ q;omega⟩⟩ atf;have⟨d9,g6,awF,t9,at9,atk,atl,atm⟩:=asx U atj uD xb xc PI ZP.cnt.1 U at8;have atn:=ZP.keep atk atl atm;subst ik;have⟨d10,KW,awG,FV,t10,ato,atp,atq,E,atr,ats⟩:=asB i atn (asN asR hT pX iI) U ⟨U,λq=>by simp[Value.ownBlock]at q;omega,λq=>by have:=ig _ q;omega,λq=>by have:=Z wg (.inl q);omega,λq=>by have:=Z wg (.inr q);omega,λj f=>⟨(Y j f).2,λq=>by have:=T _ j f _ q;omega⟩⟩ u.aK u.gb L u.t17 O D4 at9;refine(((((((((t1.trans t2).trans t3).trans t4).trans t5).trans t6).trans t7).trans t8).trans t9).trans t10).ends (asL atp atq ato λw' ay aF ie=>⟨rfl,⟨by rw[ay];exact E.1,λb i=>by rw[ay];exact E.2 b i⟩,aF▸atr,ie.trans ats⟩)
end Go.Proofs.YtlcdgbhigfgehabGreatDoor
