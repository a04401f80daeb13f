import Derived.Test.YtlcdgbhigfgehabGreatDoorQA06
import Derived.Test.YtlcdgbhigfgehabGreatDoorQA07
import Derived.Conc.Beside
import Derived.Conc.CrowdTrace
import Derived.Conc.CrowdBase
set_option linter.all false
set_option maxRecDepth 100000
set_option maxHeartbeats 16000000
namespace Go.Ren
open Go
structure n3(own ro:Nat->Prop)(w al:ab):Prop where
 tape:al.tape=w.tape
 env:al.os.env=w.os.env
 size:w.heap.size<=al.heap.size
 kept:∀b,b<w.heap.size->own b\/ro b->al.heap[b]? =w.heap[b]?
def CH(own ro:Nat->Prop)(e:Event):Prop:=(∃b,(own b\/(ro b/\e.write=false))/\e.sync=false/\(e.loc=.obj b\/∃o p,e.loc=.cell ⟨b,o,p⟩))\/(∃k,e=⟨.mark (.extern k),false,true⟩)\/e=⟨.mark .noRoom,false,true⟩\/e=⟨.output,true,false⟩
def EvS(own:Nat->Prop)(e:Event):Prop:=(∃a,own a.block/\e.loc=.cell a/\e.sync=true)\/e=⟨.mark .disable,false,true⟩\/e=⟨.mark .enable,false,true⟩\/∃a,own a.block/\(e=⟨.mark (.acquire a),false,true⟩\/e=⟨.mark (.releaseMerge a),false,true⟩)
structure aM where
 own:Nat->Prop
 deaf:Nat
instance:Inhabited aM:=⟨⟨λ_=>False,0⟩⟩
structure pu(s s':aM)(ro:Nat->Prop)(w w':ab)(es:bI):Prop where
 tape:w'.tape=w.tape
 os:w'.os=w.os
 out:w'.output=w.output
 size:w.heap.size<=w'.heap.size
 drawn:w.drawn<=w'.drawn
 kept:∀b,b<w.heap.size->¬s.own b->w'.heap[b]? =w.heap[b]?
 own:∀b,s'.own b↔s.own b\/(w.heap.size<=b/\b<w'.heap.size)
 aH:∀e∈es,CH s'.own ro e\/EvS s'.own e
 deaf:deafBehind s.deaf es=s'.deaf
abbrev fs(ro:Nat->Prop):aM->aM->ab->ab->bI->Prop:=λs s'=>pu s s' ro
def cV(R:Nat->Prop)(f:Ren)(b:Nat):Prop:=∃a,f a=some b/\¬R a
def ft(R:Nat->Prop)(f:Ren)(b:Nat):Prop:=∃a,f a=some b/\R a
section
variable{C:bf}{R:Nat->Prop}
def bR.rely{f:Ren}{w w' al:ab}(h:bR C R f w w')(k:n3 (cV R f) (ft R f) w' al):bR C R f w al:=by
 refine⟨λa b e=> ?_,h.ro,h.env.trans k.env.symm,h.jX.1,dU h.jX.2 k.size⟩;have⟨o,d,g,i,j⟩:=h.obj a b e;refine⟨o,d,g,?_,j⟩;rw[k.kept b (h.n0 e).2 (by by_cases c:R a;exact .inr ⟨a,e,c⟩;exact .inl ⟨a,e,c⟩)];exact i
def bR.a2{f:Ren}{w w':ab}(h:bR C R f w w')(aP:Nat->Question->Nat)(d:Nat):bR C R f (a2 w aP d) w':=⟨h.obj,h.ro,h.env,h.jX⟩
structure VP(C:bf)(R:Nat->Prop)(J:Ren->ab->ab->Prop)(f0:Ren)(x0:bY)(cs0:bW)(w0:ab)(tail:bW)(Q:bY->bW->ab->Prop)(dz:Nat)(s:aM)(g:aY)(w:ab):Prop where
 deaf:s.deaf=dz
 ex:∃f y cs w1 gh cs',bs f0 f/\(∀a b,f a=some b->f0 a=some b\/w0.heap.size<=a)/\(∀a,w0.heap.size<=a->a<w1.heap.size->∃b,f a=some b)/\w0.heap.size<=w1.heap.size/\(∀b,s.own b↔cV R f b)/\g=aJ gh (cs'++tail)/\bV C f y gh/\cy (bV C f) cs cs'/\bR C R f w1 w/\J f w1 w/\Q y cs w1/\∃n T d,runN C.P n (lone x0 (cs0++ [d0 C.P]) (a2 w0 T 0))=.next (lone y (cs++ [d0 C.P]) (a2 w1 T d))
structure gD where
 f:Ren
 x:bY
 cs:bW
 w:ab
 ak:bY
 cs':bW
 w':ab
 D:Nat
 p:Nat->Question->Nat
structure Inv(C:bf)(R:Nat->Prop)(J:Ren->ab->ab->Prop)(Rl:aM->ab->ab->Prop)(main':Bool)(f0:Ren)(x0:bY)(cs0:bW)(w0:ab)(tail:bW)(Q:bY->bW->ab->Prop)(dz:Nat)(k:Nat)(s:gD):Prop where
 le:bs f0 s.f
 old:∀a b,s.f a=some b->f0 a=some b\/w0.heap.size<=a
 sD:∀a,w0.heap.size<=a->a<s.w.heap.size->∃b,s.f a=some b
 size:w0.heap.size<=s.w.heap.size
 bo:bV C s.f s.x s.ak
 l2:cy (bV C s.f) s.cs s.cs'
 wr:bR C R s.f s.w s.w'
 VQ:J s.f s.w s.w'
 bad:¬a7 C.b0 main' Rl (fs (ft R f0)) (VP C R J f0 x0 cs0 w0 tail Q dz) ⟨cV R s.f,dz⟩ (aJ s.ak (s.cs'++tail)) s.w'
 via:∀T,(∀j q,j<s.D->T j q=s.p j q)->runN C.P k (lone x0 (cs0++ [d0 C.P]) (a2 w0 T 0))=.next (lone s.x (s.cs++ [d0 C.P]) (a2 s.w T s.D))
 nq:∀T,(∀j q,j<s.D->T j q=s.p j q)->∀j,j<k->∀y cs w1,runN C.P j (lone x0 (cs0++ [d0 C.P]) (a2 w0 T 0))=.next (lone y (cs++ [d0 C.P]) w1)->¬Q y cs w1
variable{J:Ren->World->World->Prop}{Rl:aM->World->World->Prop}{dz:Nat}{main':Bool}{f0:Ren}{x0 x0':Frame}{cs0 cs0' tail:List Frame}{w0 w0':World}{Q:Frame->List Frame->World->Prop}
def uS{P:bF}{k:Nat}{m a:Machine}(h:runN P k m=.next a):runN P (k+1) m=step P a:=by
 rw[runN_add,h];dsimp only;simp only[runN];cases step P a<;>rfl
def uT{c a:bY}{cs cs':bW}{w w':ab}(h:lone c cs w=lone a cs' w'):c=a/\cs=cs'/\w=w':=by
 unfold lone at h;injection h with d b;simp at b;exact⟨b.1,b.2,d⟩
def y8{P:bF}{x y:bY}{cs bX:bW}{w w1:ab}{es:bI}(h:stepG P true (aJ x cs) w=.go (aJ y bX) w1 es):step P (lone x cs w)=.next (lone y bX w1):=step_lone_go (by show(stepG P true (aJ x cs) w).bare=_;rw[h];rfl)
def GO{P:bF}{x:bY}{cs:bW}{w w1:ab}{o:Outcome}{es:bI}(h:stepG P true (aJ x cs) w=.ended o w1 es):step P (lone x cs w)=.ended o w1:=step_lone_ended (by show(stepG P true (aJ x cs) w).bare=_;rw[h];rfl)
structure hA(C:bf)(R:Nat->Prop)(J:Ren->ab->ab->Prop)(dz:Nat)(tail:bW)(f:Ren)(wl:ab)(n:FuncId)(a:aQ)(kd:CallKind)(cs:bW)(s:aM)(g:aY)(w:ab):Prop where
 deaf:s.deaf=dz
 own:∀b,s.own b↔cV R f b
 ex:∃m y x VR VS w2,0<m/\(∀T d,runN C.P m (lone (Frame.enter C.P n a kd) (cs++ [d0 C.P]) (a2 wl T d))=.next (lone y (VR++ [d0 C.P]) (a2 w2 T d)))/\(∀T d j,j<m->∀gh dQ w3,runN C.P j (lone (Frame.enter C.P n a kd) (cs++ [d0 C.P]) (a2 wl T d))=.next (lone gh dQ w3)->gh.fn=n)/\g=aJ x (VS++tail)/\bV C f y x/\cy (bV C f) VR VS/\bR C R f w2 w/\J f w2 w/\w2.heap.size=wl.heap.size
def GP(C:bf)(bZ:FuncId->Bool)(R:Nat->Prop)(J:Ren->ab->ab->Prop)(Rl:aM->ab->ab->Prop)(main':Bool)(dz:Nat)(ro:Nat->Prop)(tail:bW):Prop:=∀(f:Ren)(wl w':ab)(n:FuncId)(a a':aQ)(kd:CallKind)(cs cs':bW),bZ n=true->C.fn (.func n)=true->(kd=.normal\/kd=.deferred)->aZ C.fn f a a'->cy (bV C f) cs cs'->cs≠[]->bR C R f wl w'->J f wl w'->(∀b,ft R f b->ro b)->(∃m,(∀T d,∃o w2,runN C.P m (lone (Frame.enter C.P n a kd) (cs++ [d0 C.P]) (a2 wl T d))=.ended o w2)/\∀T d j,j<m->∀gh dQ w3,runN C.P j (lone (Frame.enter C.P n a kd) (cs++ [d0 C.P]) (a2 wl T d))=.next (lone gh dQ w3)->gh.fn=n)\/a7 C.b0 main' Rl (fs ro) (hA C R J dz tail f wl n a kd cs) ⟨cV R f,dz⟩ (aJ (Frame.enter C.b0 n a' kd) (cs'++tail)) w'
def Inv.next{bZ:FuncId->Bool}(cF:kD Rl)(VT:∀s w al,Rl s w al->n3 s.own (ft R f0) w al)(VU:∀f w w' al,Rl ⟨cV R f,dz⟩ w' al->J f w w'->J f w al)(ai5:∀f g w w' w1 w1' aH,iq R f g w w' w1 w1' aH->J f w w'->J g w1 w1')(VV:∀f w w' aP d,J f w w'->J f (a2 w aP d) w')(O:C.j1 bZ)(iQ:GP C bZ R J Rl main' dz (ft R f0) tail)(ai6:∀y cs w,Q y cs w->bZ y.fn=false)(T:pq tail)(G:b1 C f0)(ik:∀a,R a->a<w0.heap.size)(sK:∀y cs w aP d,Q y cs w->Q y cs (a2 w aP d))(dZ:∀T,∃y cs w1,Steps C.P (lone x0 (cs0++ [d0 C.P]) (a2 w0 T 0)) (lone y (cs++ [d0 C.P]) w1)/\Q y cs w1){k:Nat}{s:gD}(aa:Inv C R J Rl main' f0 x0 cs0 w0 tail Q dz k s): ∃gd s2,k<gd/\Inv C R J Rl main' f0 x0 cs0 w0 tail Q dz gd s2/\s.D<=s2.D/\∀j q,j<s.D->s2.p j q=s.p j q:=by
 have sy:∀{f:Ren}{b},bs f0 f->(∀a b,f a=some b->f0 a=some b\/w0.heap.size<=a)->(ft R f b↔ft R f0 b):=by
  intro f b t v;refine⟨λ⟨a,e,r⟩=>⟨a,?_,r⟩,λ⟨a,e,r⟩=>⟨a,t _ _ e,r⟩⟩;rcases v a b e with h|h
  .exact h
  .have:=ik a r;omega
 obtain⟨⟨wa,m9,CI⟩,al,kE,ai7⟩:=a7.not rfl aa.bad;have rel:∀{al},n3 (cV R s.f) (ft R f0) s.w' al->n3 (cV R s.f) (ft R s.f) s.w' al:=λr=>⟨r.tape,r.env,r.size,λb t v=>r.kept b t (v.imp id (sy aa.le aa.old).1)⟩;have CJ:∀aP d,¬Q s.x s.cs (a2 s.w aP d):=λaP d b9=>CI ⟨rfl,s.f,s.x,s.cs,s.w,s.ak,s.cs',aa.le,aa.old,aa.sD,aa.size,λb=>Iff.rfl,rfl,aa.bo,aa.l2,aa.wr.rely (rel (VT _ _ _ m9)),VU _ _ _ _ m9 aa.VQ,sK s.x s.cs (a2 s.w aP d) s.w.tape s.w.drawn b9,k,s.p,s.D,aa.via s.p λ_ _ _=>rfl⟩;let l:Nat->Question->Nat:=λj q=>if j<s.D then s.p j q else al.tape (al.drawn+ (j - s.D)) q
 have E:∀j q,j<s.D->l j q=s.p j q:=λj q F=>(by simp only[l];rw[aV F]);have bP:=aa.via l E;obtain⟨y,cs,w1,⟨n,L⟩,b9⟩:=dZ l;have ai8:k<n:=by
  rcases ys k n with h|h|h
  .exact h
  .subst h;rw[bP]at L;injection L with L;obtain⟨rfl,aF,rfl⟩:=uT L;have:s.cs=cs:=Md aF;subst this;exact absurd b9 (CJ _ _)
  .exact absurd b9 (aa.nq l E n h y cs w1 L)
 have fp:∀o w2 es,stepG C.P true (aJ s.x (s.cs++ [d0 C.P])) (a2 s.w l s.D)≠.ended o w2 es:=by
  intro o w2 es W;have t:=uS bP;rw[GO W]at t;have v:runN C.P (k+1+ (n - (k+1))) (lone x0 (cs0++ [d0 C.P]) (a2 w0 l 0))=.ended o w2:=(by rw[runN_add,t]);rw[show k+1+ (n - (k+1))=n by omega,L]at v;cases v
 have y9:bR C R s.f (a2 s.w l s.D) al:=(aa.wr.rely (rel (VT _ _ _ kE))).a2 _ _;have ai9:J s.f (a2 s.w l s.D) al:=VV _ _ _ _ _ (VU _ _ _ _ kE aa.VQ);have M:runN C.P (k+1) (lone x0 (cs0++ [d0 C.P]) (a2 w0 l 0))=step C.P (lone s.x (s.cs++ [d0 C.P]) (a2 s.w l s.D)):=uS bP;have aja:¬wR C s.x s.cs:=by
  intro b8;rcases b8 (a2 s.w l s.D)with⟨o,az,B,H⟩|⟨u,az,B,H,W⟩
  .exact fp o az B H
  .have t:=M.trans (y8 H);obtain⟨o,w4,avA,v⟩:=W az;rcases dH (k+1) n with h|h
   .have dB:runN C.P (k+2) (lone x0 (cs0++ [d0 C.P]) (a2 w0 l 0))=.ended o w4:=(uS t).trans (GO v);have jV:runN C.P (k+2+ (n - (k+2))) (lone x0 (cs0++ [d0 C.P]) (a2 w0 l 0))=.ended o w4:=(by rw[runN_add,dB]);rw[show k+2+ (n - (k+2))=n by omega,L]at jV;cases jV
   .obtain rfl:n=k+1:=U;rw[L]at t;injection t with t;obtain⟨_,aF,_⟩:=uT t;cases cs<;>cases aF
 obtain⟨X,fC,w2,qa,ajb,V,Y,aH,dA,c9,ia,o3,⟨z,A⟩,BU,hd,VW⟩:=(ai1 (main':=main') O T (G.mono aa.le) aa.bo aa.l2 aja).run y9 (λj q=>by
  show l (s.D+j) q=_
  simp only[l];rw[aC U];congr 1;congr 1;omega) fp
 have VX:J X w2 V:=by
  have:=VV _ _ _ w2.tape w2.drawn (ai5 _ _ _ _ _ _ _ A ai9);exact this
 have hQ:w0.heap.size<=w2.heap.size:=dU aa.size A.size;have S:∀a b,X a=some b->f0 a=some b\/w0.heap.size<=a:=λa b e=>by
  rcases A.old a b e with h|⟨h,_⟩
  .exact aa.old a b h
  .exact .inr (dU aa.size h)
 have ajc:∀b,cV R X b↔cV R s.f b\/(al.heap.size<=b/\b<V.heap.size):=by
  intro b;refine⟨λ⟨a,e,r⟩=> ?_,λh=> ?_⟩
  .rcases A.old a b e with h|⟨_,h⟩
   .exact .inl ⟨a,h,r⟩
   .exact .inr ⟨h,(o3.n0 e).2⟩
  .rcases h with⟨a,e,r⟩|⟨t,v⟩
   .exact⟨a,A.le _ _ e,r⟩
   .obtain⟨a,e⟩:=A.new b t v;refine⟨a,e,λr=> ?_⟩;rcases A.old a b e with h|⟨h,_⟩
    .have:=(y9.n0 h).2;omega
    .have:=ik a r;have:w0.heap.size<=a:=dU aa.size h;omega
 have VY:∀e∈Y,CH (cV R X) (ft R f0) e:= ?evo;have ajd:pu ⟨cV R s.f,dz⟩ ⟨cV R X,dz⟩ (ft R f0) al V Y:=by
  refine⟨A.yX,A.Gg,A.Gh,A.yW,?_,λb t v=>A.kept b t λa e=>ry λr=>v ⟨a,e,r⟩,ajc,λe W=>.inl (VY e W),Go.Conc.deafBehind_still (λe W=> ?_) _⟩
  .obtain⟨n,_,h⟩:=A.drawn;omega
  .rcases VY e W with⟨b,_,_,h|⟨o,p,h⟩⟩|⟨k,rfl⟩|rfl|rfl<;>simp[*]
 case evo=>
  intro e W;rcases BU e W with⟨a,b,t,v,H⟩|h
  .refine .inl ⟨b,?_,H⟩;by_cases r:R a
   .refine .inr ⟨(sy (aa.le.trans A.le) S).1 ⟨a,t,r⟩,?_⟩;cases hw:e.write with
    |false=>rfl
    |true=>exact absurd r (v hw)
   .exact .inl ⟨a,t,r⟩
  .exact .inr h
 have CK:=ai7 ⟨cV R X,dz⟩ ajb V Y c9 ajd;have M:runN C.P (k+1) (lone x0 (cs0++ [d0 C.P]) (a2 w0 l 0))=step C.P (lone s.x (s.cs++ [d0 C.P]) (a2 s.w l s.D)):=uS bP;have nK:(a2 s.w l s.D).drawn=s.D:=rfl;rw[nK]at hd;have aje:∀i,(∀j q,j<w2.drawn->i j q=l j q)->∃B,stepG C.P true (aJ s.x (s.cs++ [d0 C.P])) (a2 s.w i s.D)=.go fC (a2 w2 i w2.drawn) B:=λi c=>by
  obtain⟨B,H⟩:=VW i s.D λj q F=>by
   change i (s.D+j) q=l (s.D+j) q;exact c _ q F
  rw[nK,show s.D+ (w2.drawn - s.D)=w2.drawn by omega]at H;exact⟨B,H⟩
 cases ia with
 |@bZ ec am ajf kd Me ajg ay aF ie fq e fg bO ajh=>
  subst e;subst fg;have Z:∀i,(∀j q,j<w2.drawn->i j q=l j q)->runN C.P (k+1) (lone x0 (cs0++ [d0 C.P]) (a2 w0 i 0))=.next (lone (Frame.enter C.P ec am kd) (Me++ [d0 C.P]) (a2 w2 i w2.drawn)):=λi c=>by
   rw[uS (aa.via i λj q F=>by rw[c j q U,E j q F])];obtain⟨B,H⟩:=aje i c;exact y8 H
  have VZ:∀(m:Nat),(∀T d j,j<m->∀gh dQ az,runN C.P j (lone (Frame.enter C.P ec am kd) (Me++ [d0 C.P]) (a2 w2 T d))=.next (lone gh dQ az)->gh.fn=ec)->∀i,(∀j q,j<w2.drawn->i j q=l j q)->∀j,j<k+1+m->∀y cs w1,runN C.P j (lone x0 (cs0++ [d0 C.P]) (a2 w0 i 0))=.next (lone y (cs++ [d0 C.P]) w1)->¬Q y cs w1:=by
   intro m hm i c j F y cs w1 N;have K:∀j q,j<s.D->i j q=s.p j q:=λj q F=>(by rw[c j q U,E j q F]);rcases ys j k with h|h|h
   .exact aa.nq i K j h y cs w1 N
   .subst h;rw[aa.via i K]at N;injection N with N;obtain⟨rfl,aF,rfl⟩:=uT N;have:s.cs=cs:=Md aF;subst this;exact CJ _ _
   .intro b9;have l8:j=(k+1)+ (j - (k+1)):=U;rw[l8,runN_add,Z i c]at N;have:=hm i w2.drawn (j - (k+1)) U y _ w1 N;have jV:=ai6 _ _ _ b9;rw[this,ay]at jV;cases jV
  rcases iQ X w2 V ec am ajf kd Me ajg ay aF ie fq bO ajh o3 VX (λb=>(sy (aa.le.trans A.le) S).1)with⟨m,AV,Mf⟩|Bj
  .exfalso;obtain⟨o,az,H⟩:=AV l w2.drawn;rcases dH n (k+1+m)with h|h
   .exact VZ m Mf l (λ_ _ _=>rfl) n h _ _ _ L b9
   .have dC:runN C.P (k+1+ (m+ (n - (k+1+m)))) (lone x0 (cs0++ [d0 C.P]) (a2 w0 l 0))=.ended o az:=by
     rw[runN_add,Z l λ_ _ _=>rfl];dsimp only;rw[runN_add,H]
    rw[show k+1+ (m+ (n - (k+1+m)))=n by omega,L]at dC;cases dC
  .obtain⟨c6,av,aji,⟨V0,uU,m,y,x,c3,ajj,az,Ks,AV,Mf,rfl,iU,SI,ajk,ajl,S4⟩,ui⟩:=Bj.ai4 cF CK;have A0:c6=⟨cV R X,dz⟩:=by
    obtain⟨ajm,avB⟩:=c6;dsimp only at V0 uU;subst V0;have:ajm=cV R X:=funext λb=>propext (uU b);rw[this]
   subst A0;refine⟨k+1+m,⟨X,y,c3,az,x,ajj,aji,w2.drawn,l⟩,U,⟨aa.le.trans A.le,S,λa t v=> ?_,by show _<=az.heap.size;omega,iU,SI,ajk,ajl,ui,λi c=> ?_,λi c j F y cs w1 N=>VZ m Mf i c j F y cs w1 N⟩,by show s.D<=w2.drawn;omega,E⟩
   .change a<az.heap.size at v;rw[S4]at v;rcases dH a s.w.heap.size with h|h
    .obtain⟨b,e⟩:=aa.sD a t h;exact⟨b,A.le _ _ e⟩
    .exact A.sD a h v
   .dsimp only at c⊢;rw[runN_add,Z i c];exact AV i w2.drawn
 |@out x e W=>
  exfalso;subst e;have t:=M.trans (y8 dA);obtain⟨o,az,B,v⟩:=W w2;rcases dH (k+1) n with h|h
  .have H:=uS t;rw[GO v]at H;have dC:runN C.P (k+1+1+ (n - (k+1+1))) (lone x0 (cs0++ [d0 C.P]) (a2 w0 l 0))=.ended o az:=(by rw[runN_add,H]);rw[show k+1+1+ (n - (k+1+1))=n by omega,L]at dC;cases dC
  .obtain rfl:k+1=n:=U;rw[t]at L;injection L with L;have:=(uT L).2.1;simp at this
 |@both gz c2 Ma AN e fg iU bO=>
  subst e;subst fg;refine⟨k+1,⟨X,gz,c2,w2,Ma,AN,V,w2.drawn,l⟩,U,⟨aa.le.trans A.le,S,λa t v=> ?_,hQ,iU,bO,o3,VX,CK,λi c=> ?_,λi c j F y cs w1 N=> ?_⟩,by show s.D<=w2.drawn;omega,E⟩
  .rcases dH a s.w.heap.size with h|h
   .obtain⟨b,e⟩:=aa.sD a t h;exact⟨b,A.le _ _ e⟩
   .exact A.sD a h v
  .dsimp only at c⊢;have t:=aa.via i λj q F=>(by rw[c j q U,E j q F]);rw[uS t];obtain⟨B,H⟩:=VW i s.D λj q F=>by
    change i (s.D+j) q=l (s.D+j) q;exact c _ q F
   have dC:=y8 H;rw[nK]at dC;have dB:s.D+ (w2.drawn - s.D)=w2.drawn:=U;rw[dB]at dC;exact dC
  .dsimp only at c;have K:∀j q,j<s.D->i j q=s.p j q:=λj q F=>(by rw[c j q U,E j q F]);rcases dH j k with h|h
   .exact aa.nq i K j h y cs w1 N
   .obtain rfl:j=k:=U;rw[aa.via i K]at N;injection N with N;obtain⟨rfl,aF,rfl⟩:=uT N;have:s.cs=cs:=Md aF;subst this;exact CJ _ _
def lift{bZ:FuncId->Bool}(cF:kD Rl)(A:∀s w al,Rl s w al->n3 s.own (ft R f0) w al)(B:∀f w w' al,Rl ⟨cV R f,dz⟩ w' al->J f w w'->J f w al)(E:∀f g w w' w1 w1' aH,iq R f g w w' w1 w1' aH->J f w w'->J g w1 w1')(F:∀f w w' aP d,J f w w'->J f (a2 w aP d) w')(O:C.j1 bZ)(X:GP C bZ R J Rl main' dz (ft R f0) tail)(H:∀y cs w,Q y cs w->bZ y.fn=false)(T:pq tail)(G:b1 C f0)(Y:∀y cs w aP d,Q y cs w->Q y cs (a2 w aP d))(Z:bV C f0 x0 x0')(aa:cy (bV C f0) cs0 cs0')(N:bR C R f0 w0 w0')(i:J f0 w0 w0')(S:∀T,∃y cs w1,Steps C.P (lone x0 (cs0++ [d0 C.P]) (a2 w0 T 0)) (lone y (cs++ [d0 C.P]) w1)/\Q y cs w1): a7 C.b0 main' Rl (fs (ft R f0)) (VP C R J f0 x0 cs0 w0 tail Q dz) ⟨cV R f0,dz⟩ (aJ x0' (cs0'++tail)) w0':=by
 refine ry λl=> ?_;have ik:∀a,R a->a<w0.heap.size:=λa r=>(N.ro a r).2;have ajn:Inv C R J Rl main' f0 x0 cs0 w0 tail Q dz 0 ⟨f0,x0,cs0,w0,x0',cs0',w0',0,λ_ _=>0⟩:=⟨.refl _,λa b e=>.inl e,λa u o=>by dsimp only at o;omega,bh _,Z,aa,N,i,l,λT _=>rfl,λT _ j i=>U⟩;have az:∀(s:{s:Nat×gD // Inv C R J Rl main' f0 x0 cs0 w0 tail Q dz s.1 s.2}),∃t:{s:Nat×gD // Inv C R J Rl main' f0 x0 cs0 w0 tail Q dz s.1 s.2},s.1.1<t.1.1/\s.1.2.D<=t.1.2.D/\∀j q,j<s.1.2.D->t.1.2.p j q=s.1.2.p j q:=by
  intro s;obtain⟨v,t,cz,u,o,b7⟩:=s.2.next cF A B E F O X H T G ik Y S;exact⟨⟨(v,t),u⟩,cz,o,b7⟩
 let e3:Nat->{s:Nat×gD // Inv C R J Rl main' f0 x0 cs0 w0 tail Q dz s.1 s.2}:=λk=>Nat.rec ⟨(0,_),ajn⟩ (λ_ s=>Classical.choose (az s)) k
 have V:∀k,(e3 k).1.1< (e3 (k+1)).1.1/\(e3 k).1.2.D<=(e3 (k+1)).1.2.D/\∀j q,j< (e3 k).1.2.D->(e3 (k+1)).1.2.p j q=(e3 k).1.2.p j q:=λk=>uR (az (e3 k));have K:∀k,k<=(e3 k).1.1:=by
  intro k;induction k with
  |zero=>omega
  |succ k x=>have:=(V k).1;omega
 have c:∀k m,(e3 k).1.2.D<=(e3 (k+m)).1.2.D/\∀j q,j< (e3 k).1.2.D->(e3 (k+m)).1.2.p j q=(e3 k).1.2.p j q:=by
  intro k m;induction m with
  |zero=>exact⟨bh _,λ_ _ _=>rfl⟩
  |succ m x=>
   obtain⟨_,u,o⟩:=V (k+m);exact⟨dU x.1 u,λj q i=>(o j q (fl i x.1)).trans (x.2 j q i)⟩
 let z:Nat->Question->Nat:=λj q=>open Classical in if h:∃k,j< (e3 k).1.2.D then(e3 (Classical.choose h)).1.2.p j q else 0
 have L:∀k j q,j< (e3 k).1.2.D->z j q=(e3 k).1.2.p j q:=by
  intro k j q i;have M:∃k,j< (e3 k).1.2.D:=⟨k,i⟩;have W:=uR M;simp only[z];rw[dif_pos M];generalize Classical.choose M=v at W;rcases Nat.le_total k v with h|h
  .obtain⟨m,rfl⟩:=Nat.exists_eq_add_of_le h;exact(c k m).2 j q i
  .obtain⟨m,rfl⟩:=Nat.exists_eq_add_of_le h;exact((c v m).2 j q W).symm
 obtain⟨y,cs,w1,⟨n,cJ⟩,b9⟩:=S z;exact(e3 (n+1)).2.nq z (L (n+1)) n (by have:=K (n+1);omega) y cs w1 cJ b9
end
end Go.Ren
namespace Go.Ren
open Go
open Classical in
noncomputable def cm(S:Nat->Prop):Ren:=⟨λa=>if S a then some a else none,λa a' b h m7=>by
 by_cases e:S a<;>by_cases fg:S a'<;>simp[e,fg]at h m7;rw[h,m7],λa b h _=>by
 by_cases e:S a<;>simp[e]at h;exact h⟩
def za{S:Nat->Prop}{a b:Nat}:cm S a=some b↔S a/\a=b:=by
 classical
 show(@ite _ (S a) (Classical.propDecidable _) (some a) none)=some b↔_
 by_cases e:S a<;>simp[e]
def dJ{S:Nat->Prop}{a:Nat}(h:S a):cm S a=some a:=za.2 ⟨h,rfl⟩
section
variable(N:Fn->Bool)(f:Ren)
def V1:∀(n:Nat)(v':ai),SizeOf.sizeOf v'<=n->∃v,aB N f v v':=by
 intro n;induction n with
 |zero=>intro v' h;cases v'<;>simp at h
 |succ n g=>
  intro v' h;have row:∀(ak:aQ),SizeOf.sizeOf ak<=n->∃x:aQ,x.size=ak.size/\∀(i:Nat)v v',x[i]? =some v->ak[i]? =some v'->aB N f v v':=by
   intro ak p;have af:∀i:Fin ak.size,∃v,aB N f v ak[i]:=λi=>g _ (by
    have:=Array.sizeOf_getElem ak i.1 i.2;show SizeOf.sizeOf ak[i.1]<=n
    omega)
   refine⟨Array.ofFn λi=>Classical.choose (af i),ag,λi v v' d e=> ?_⟩;obtain⟨j,rfl⟩:=bQ.1 e;rw[Array.getElem?_ofFn]at d;rw[dif_pos j]at d;cases d;exact uR (af ⟨i,j⟩)
  cases v' with
  |bool b=>exact⟨_,.bool b⟩
  |int k m=>exact⟨_,.int k m⟩
  |float k m=>exact⟨_,.float k m⟩
  |string s=>exact⟨_,.string s⟩
  |complex a b c=>exact⟨_,.de rfl⟩
  |pointer a=>cases a with
   |none=>exact⟨_,.ff⟩
   |some a=>exact⟨_,.de rfl⟩
  |slice a l c=>cases a with
   |none=>exact⟨_,.mr l c⟩
   |some a=>exact⟨_,.de rfl⟩
  |map a=>cases a with
   |none=>exact⟨_,.wH⟩
   |some a=>exact⟨_,.de rfl⟩
  |chan a=>cases a with
   |none=>exact⟨_,.yT⟩
   |some a=>exact⟨_,.de rfl⟩
  |func fn x y=>cases fn with
   |method q=>exact⟨_,.qf⟩
   |_=>exact⟨_,.de rfl⟩
  |nilFunc=>exact⟨_,.Lv⟩
  |nilIface=>exact⟨_,.gN⟩
  |iface t v=>
   obtain⟨u,o⟩:=g v (by simp at h;omega);exact⟨_,.iface t o⟩
  |agg x=>
   obtain⟨y,d,e⟩:=row x (by simp at h;omega);exact⟨_,.agg d e⟩
  |tuple x=>
   obtain⟨y,d,e⟩:=row x (by simp at h;omega);exact⟨_,.tuple d e⟩
open Classical in
noncomputable def fu(v':ai):ai:=if aB N f v' v' then v' else Classical.choose (V1 N f _ v' (bh _))
variable{N f}
def GQ(v':ai):aB N f (fu N f v') v':=by
 unfold fu;split
 .assumption
 .exact uR (V1 N f _ v' (bh _))
def pv{v:ai}(h:aB N f v v):fu N f v=v:=aV h
def zb(x:aQ):aZ N f (x.map (fu N f)) x:=by
 refine⟨ag,λi v v' a b=> ?_⟩;rw[oF,b]at a;cases a;exact GQ _
end
section
variable(C:bf)(S R:Nat->Prop)
open Classical in
noncomputable def n4(b:Nat):Obj->Obj
 |.cells c t z=>.cells (c.map (fu C.fn (cm S))) t (if R b then(0,c.size)else z)
 |o=>o
noncomputable def cN(w:ab):ab:={w with heap:=w.heap.mapIdx (n4 C S R)}
variable{C S R}{w:World}
def pw(b:Nat):(cN C S R w).heap[b]? =(w.heap[b]?).map (n4 C S R b):=by simp[cN]
def sL:(cN C S R w).heap.size=w.heap.size:=by simp[cN]
def sM(a:Addr):(cN C S R w).cell? a=(w.cell? a).map (fu C.fn (cm S)):=by
 unfold World.cell?;rw[pw];cases w.heap[a.block]? with
 |none=>rfl
 |some o=>cases o<;>first|rfl|(simp only[mq,n4];split<;>simp)
structure px(C:bf)(S R:Nat->Prop)(w:ab):Prop where
 ro:∀b,R b->(C.ro=true\/(b<C.lo/\C.gi=false))/\S b/\∃c t z,w.heap[b]? =some (.cells c t z)
 obj:∀b,S b->∃o,w.heap[b]? =some o/\((∃c t z,o=.cells c t z)\/eR C (cm S) o o)
 jX:3<=w.heap.size/\C.lo<=w.heap.size
def px.wr(h:px C S R w):bR C R (cm S) (cN C S R w) w:=by
 refine⟨λa b e=> ?_,λa j=> ?_,rfl,by rw[sL];exact⟨h.jX,h.jX.1⟩⟩
 .have⟨j,rfl⟩:=za.1 e;have⟨o,f,g⟩:=h.obj a j;refine⟨n4 C S R a o,o,by rw[pw,f];rfl,f,?_⟩;by_cases d:R a
  .have⟨_,_,c,t,z,i⟩:=h.ro a d;rw[f]at i;cases i;refine .inl ⟨d,_,c,t,z,?_,rfl,zb c⟩;simp[n4,d]
  .refine .inr ⟨d,?_⟩;rcases g with⟨c,t,z,rfl⟩|g
   .simp only[n4,d,cY];exact .cells t z (zb c)
   .cases o with
    |cells c t z=>simp only[n4,d,cY];exact .cells t z (zb c)
    |_=>exact g
 .have⟨f,g,_,_,_,i⟩:=h.ro a j;exact⟨f,by rw[sL];exact(bQ.1 i).1⟩
end
end Go.Ren
namespace Go.bG
open Go Go.Conc Go.ConcN Go.Ren
structure bj where
 cW:TypeId
 WQ:TypeId
 qv:TypeId
 Wg:Nat
 bm:Nat
 bU:Nat
 bb:Nat
 n:Nat
 base:Nat
 ro:Nat->Prop
def bS(l:Loc)(b:Nat):Prop:=l=.obj b\/∃o p,l=.cell ⟨b,o,p⟩
def bS.eq{l:Loc}{b c:Nat}(h:bS l b)(a:bS l c):b=c:=by rcases h with rfl|⟨o,p,rfl⟩<;>rcases a with a|⟨d,e,a⟩<;>simp at a<;>omega
def bS.cell(a:Addr):bS (.cell a) a.block:=.inr ⟨a.off,a.spot,rfl⟩
def bS.memory{l:Loc}{b:Nat}(h:bS l b):l.isMemory=true:=by rcases h with rfl|⟨o,p,rfl⟩<;>rfl
def akM{l:Loc}(h:l.isMemory=true):∃b,bS l b:=by
 cases l<;>simp[Loc.isMemory]at h
 .exact⟨_,bS.cell _⟩
 .exact⟨_,.inl rfl⟩
section
variable(K:bj)
def bj.shared(l:Loc):Prop:=bS l K.Wg\/l=.cell ⟨K.bm,0,none⟩\/l=.cell ⟨K.bm,1,none⟩
def zO(j:Option Nat)(own:Nat->Prop):Mark->Prop
 |.release _=>False
 |.acquire a| .releaseMerge a=>own a.block\/a.block=K.Wg\/a.block=K.bm
 |.read a| .write a=>j=none/\a.block=K.Wg
 |_=>True
inductive EvA(j:Option Nat)(own:Nat->Prop):Event->Prop
 |own {e b}:bS e.loc b->own b->(∀c,e≠⟨.obj c,true,true⟩)->EvA j own e
 |ro {e b}:bS e.loc b->K.ro b->e.write=false->EvA j own e
 |cell {i w s}:j=some i->EvA j own ⟨.cell ⟨K.bb,i,none⟩,w,s⟩
 |map {s}:EvA j own ⟨.cell ⟨K.bm,2,none⟩,false,s⟩
 |word {a w}:K.shared (.cell a)->EvA j own ⟨.cell a,w,true⟩
 |mark {m w s}:zO K j own m->EvA j own ⟨.mark m,w,s⟩
 |out {w s}:EvA j own ⟨.output,w,s⟩
structure Hn(A:Nat->Prop)(own:Nat->Nat->Prop):Prop where
 one:∀g g' b,A g->A g'->own g b->own g' b->g=g'
 ro:∀g b,A g->own g b->¬K.ro b
 sh:∀g b,A g->own g b->b≠K.Wg/\b≠K.bm/\b≠K.bb
 rs:∀b,K.ro b->b≠K.Wg/\b≠K.bm/\b≠K.bb/\b≠K.bU
 ne:K.Wg≠K.bm/\K.Wg≠K.bb/\K.bm≠K.bb/\K.bU≠K.Wg/\K.bU≠K.bm/\K.bU≠K.bb
structure gA(A:Nat->Prop)(own:Nat->Nat->Prop)(mB:Nat->Nat)(B:Nat)(t:Trace):Prop where
 nr:∀said,¬Race said t
 low:∀op∈t,op.act.low B
 own:∀g,A g->∀i a b,touchAt t i=some a->own g b->bS a.loc b->Knows t g i
 cell:∀k,k<K.n->∀i a,touchAt t i=some a->a.loc=.cell ⟨K.bb,k,none⟩->Knows t (mB k) i
 ro:∀g,A g->∀i a b,touchAt t i=some a->K.ro b->bS a.loc b->a.write=true->Knows t g i
 mp:∀g,A g->∀i a,touchAt t i=some a->a.loc=.cell ⟨K.bm,2,none⟩->a.write=true->Knows t g i
 u3:∀g,A g->∀i a,touchAt t i=some a->K.shared a.loc->a.kind≠.atomic->(g=0\/a.kind=.plain)->Knows t g i
end
def j6{g:Nat}{fn:FuncId}{pos:String}{es:bI}{op:MemOp}(h:op∈MemOp.ofEvents g fn pos es):op.g=g/\∃e∈es,op.act=.ofEvent e:=by
 obtain⟨e,a,rfl⟩:=Go.Conc.mem_ofEvents h;exact⟨rfl,e,a,rfl⟩
def WR{e:Event}{x:Touch}(h:(MemAct.ofEvent e).touch? =some x): (x.loc=e.loc/\x.write=e.write/\x.kind=(if e.sync then .atomic else .plain)/\∀m,e.loc≠.mark m)\/(∃a,e.loc=.mark (.read a)/\x=⟨.cell a,false,.said⟩)\/∃a,e.loc=.mark (.write a)/\x=⟨.cell a,true,.said⟩:=by
 obtain⟨loc,wr,b⟩:=e;cases loc with
 |mark m=>cases m<;>simp[MemAct.ofEvent,MemAct.touch?]at h<;>subst h<;>simp
 |obj c=>cases wr<;>cases b<;>simp[MemAct.ofEvent,MemAct.touch?]at h<;>subst h<;>simp
 |_=>simp[MemAct.ofEvent,MemAct.touch?]at h<;>subst h<;>simp
section
variable{K:bj}{A:Nat->Prop}{own own':Nat->Nat->Prop}{mB:Nat->Nat}{B B':Nat}{t u:Trace}{g:Nat}{j:Option Nat}
def bt(K:bj):Option Nat->Nat
 |none=>0
 |some i=>K.base+i
def xi{own:Nat->Prop}{e:Event}{x:Touch}(h:EvA K j own e)(k:(MemAct.ofEvent e).touch? =some x)(g:x.loc.isMemory=true): (∃b,bS x.loc b/\own b)\/(∃b,bS x.loc b/\K.ro b/\x.write=false)\/(∃i,j=some i/\x.loc=.cell ⟨K.bb,i,none⟩)\/(x.loc=.cell ⟨K.bm,2,none⟩/\x.write=false)\/(K.shared x.loc/\(x.kind=.atomic\/(j=none/\x.kind=.said))):=by
 have d:=WR k;cases h with
 |own c f=>
  rcases d with⟨ay,_⟩|⟨a,ay,_⟩|⟨a,ay,_⟩
  .exact .inl ⟨_,ay▸c,f⟩
  .rw[ay]at c;rcases c with h|⟨_,_,h⟩<;>cases h
  .rw[ay]at c;rcases c with h|⟨_,_,h⟩<;>cases h
 |ro c f l=>
  rcases d with⟨ay,aF,_⟩|⟨a,ay,_⟩|⟨a,ay,_⟩
  .exact .inr (.inl ⟨_,ay▸c,f,aF.trans l⟩)
  .rw[ay]at c;rcases c with h|⟨_,_,h⟩<;>cases h
  .rw[ay]at c;rcases c with h|⟨_,_,h⟩<;>cases h
 |cell c=>
  rcases d with⟨ay,_⟩|⟨a,ay,_⟩|⟨a,ay,_⟩
  .exact .inr (.inr (.inl ⟨_,c,ay⟩))
  .cases ay
  .cases ay
 |map=>
  rcases d with⟨ay,aF,_⟩|⟨a,ay,_⟩|⟨a,ay,_⟩
  .exact .inr (.inr (.inr (.inl ⟨ay,aF⟩)))
  .cases ay
  .cases ay
 |word c=>
  rcases d with⟨ay,_,m,_⟩|⟨a,ay,_⟩|⟨a,ay,_⟩
  .exact .inr (.inr (.inr (.inr ⟨ay▸c,.inl m⟩)))
  .cases ay
  .cases ay
 |mark c=>
  rcases d with⟨_,_,_,n⟩|⟨a,ay,rfl⟩|⟨a,ay,rfl⟩
  .exact absurd rfl (n _)
  .cases ay;exact .inr (.inr (.inr (.inr ⟨.inl (c.2▸bS.cell a),.inr ⟨c.1,rfl⟩⟩)))
  .cases ay;exact .inr (.inr (.inr (.inr ⟨.inl (c.2▸bS.cell a),.inr ⟨c.1,rfl⟩⟩)))
 |out=>
  rcases d with⟨ay,_⟩|⟨a,ay,_⟩|⟨a,ay,_⟩
  .rw[ay]at g;cases g
  .cases ay
  .cases ay
def zP{l:Loc}{b:Nat}(h:K.shared l)(a:bS l b):b=K.Wg\/b=K.bm:=by
 rcases h with h|rfl|rfl
 .exact .inl (a.eq h)
 .exact .inr (a.eq (bS.cell _))
 .exact .inr (a.eq (bS.cell _))
def EvA.low{own:Nat->Prop}{e:Event}(h:EvA K j own e)(d:∀b,own b\/K.ro b\/b=K.Wg\/b=K.bm\/b=K.bb->b<B):(MemAct.ofEvent e).low B:=by
 have c:∀{l:Loc}{b:Nat}(w s:Bool),bS l b->b<B->(MemAct.ofEvent ⟨l,w,s⟩).low B:=by
  intro l b w s i d;rcases i with rfl|⟨o,p,rfl⟩
  .cases w<;>cases s<;>exact d
  .exact d
 cases h with
 |own f g=>exact c _ _ f (d _ (.inl g))
 |ro f g=>exact c _ _ f (d _ (.inr (.inl g)))
 |cell=>exact c _ _ (bS.cell _) (d _ ag)
 |map=>exact c _ _ (bS.cell _) (d _ ag)
 |word f=>
  refine c _ _ (bS.cell _) (d _ ?_);rcases zP f (bS.cell _)with h|h<;>simp[h]
 |@mark m w s f=>
  cases m with
  |acquire a|releaseMerge a=>rcases f with h|h|h<;>exact d _ (by simp[h])
  |release a=>exact f.elim
  |read a|write a=>exact d _ (by simp[f.2])
  |_=>trivial
 |out=>trivial
def EvA.norel{own:Nat->Prop}{e:Event}(h:EvA K j own e)(a:Addr):MemAct.ofEvent e≠.mark (.release a):=by
 intro d;have f:e.loc=.mark (.release a):=by
  obtain⟨loc,wr,g⟩:=e;cases loc with
  |mark m=>simp[MemAct.ofEvent]at d;simp[d]
  |obj c=>cases wr<;>cases g<;>simp[MemAct.ofEvent]at d
  |_=>simp[MemAct.ofEvent]at d
 cases h with
 |own b=>rw[f]at b;rcases b with h|⟨_,_,h⟩<;>cases h
 |ro b=>rw[f]at b;rcases b with h|⟨_,_,h⟩<;>cases h
 |mark b=>cases f;exact b.elim
 |_=>cases f
def gA.grow(h:gA K A own mB B t)(r:B<=B')(ap:∀g b,A g->own' g b->own g b\/B<=b):gA K A own' mB B' t:=by
 refine⟨h.nr,λop d=>MemAct.low_mono r (h.low op d),λg l i a b n s c=> ?_,h.cell,h.ro,h.mp,h.u3⟩;rcases ap g b l s with q|q
 .exact h.own g l i a b n q c
 .exfalso;have⟨op,d,f⟩:=touch_of n;have:=h.low op (sE d);have u:b<B:=by
   obtain⟨v,fn,pos,k⟩:=op;cases k with
   |access e=>
    simp[MemAct.touch?]at f;subst f;have j:e.loc.low B:=this;rcases c with c|⟨o,p,c⟩<;> (dsimp only at c;rw[c]at j;exact j)
   |mark m=>
    cases m<;>simp[MemAct.touch?]at f<;>subst f;all_goals
     have j:_<B:=this;rcases c with c|⟨o,p,c⟩<;>simp at c;subst c;exact j
   |_=>simp[MemAct.touch?]at f
  omega
def gA.app(D:Hn K A own)(h:gA K A own mB B t)(C:A (bt K j))(L:∀i,j=some i->i<K.n->mB i=K.base+i){fn:FuncId}{pos:String}{es:bI}(u:∀e∈es,EvA K j (own (bt K j)) e)(Y:∀b,own (bt K j) b\/K.ro b\/b=K.Wg\/b=K.bm\/b=K.bb->b<B)(M:∀i,j=some i->i<K.n): gA K A own mB B (t++MemOp.ofEvents (bt K j) fn pos es):=by
 have cs:∀{i:Nat}{a:Touch},touchAt (t++MemOp.ofEvents (bt K j) fn pos es) i=some a->(touchAt t i=some a/\∀g,Knows t g i->Knows (t++MemOp.ofEvents (bt K j) fn pos es) g i)\/(Knows (t++MemOp.ofEvents (bt K j) fn pos es) (bt K j) i/\∃e∈es,(MemAct.ofEvent e).touch? =some a):=by
  intro i a q;have⟨x,N,O⟩:=touch_of q;rcases getElem?_append_cases N with⟨_,S⟩|⟨_,T⟩
  .exact .inl ⟨by rw[touchAt_of S];exact O,λg hk=>hk.app _⟩
  .have⟨v,e,w,r⟩:=j6 T;have:=knows_own N;rw[v]at this;exact .inr ⟨this,e,w,r▸O⟩
 refine⟨λP=> ?_,λop E=> ?_,λg v i a b q y m=> ?_,λk hk i a q m=> ?_,λg v i a b q F m H=> ?_,λg v i a q m H=> ?_,λg v i a q Q R hk=> ?_⟩
 .refine noRace_append (h.nr P) (λop E=>(j6 E).1) (λi a q op E x N Z=> ?_);have⟨_,e,w,r⟩:=j6 E;rw[r]at N;obtain⟨aa,c2,W,X⟩:=Z;rcases xi (u e w) N (by rw[<-aa];exact c2)with⟨b,c,d⟩|⟨b,c,d,z⟩|⟨k,c,d⟩|⟨c,d⟩|⟨c,d⟩
  .exact h.own _ C i a b q d (aa▸c)
  .exact h.ro _ C i a b q d (aa▸c) (W.resolve_right (by simp[z]))
  .have:=h.cell k (M k c) i a q (aa.trans d);rw[L k c (M k c)]at this;subst c;exact this
  .exact h.mp _ C i a q (aa.trans c) (W.resolve_right (by simp[d]))
  .rcases d with d|⟨d,z⟩
   .have:a.kind=.plain:=by
     rcases X with x|x|⟨_,_,x⟩
     .exact x
     .rw[d]at x;cases x
     .rw[d]at x;cases x
    exact h.u3 _ C i a q (aa▸c) (by rw[this];simp) (.inr this)
   .have az:a.kind≠.atomic:=by
     rcases X with x|x|⟨_,x,_⟩
     .rw[x];simp
     .rw[z]at x;cases x
     .rw[x];simp
    subst d;exact h.u3 0 C i a q (aa▸c) az (.inl rfl)
 .rcases uQ.1 E with V|V
  .exact h.low op V
  .have⟨_,e,w,r⟩:=j6 V;rw[r];exact(u e w).low Y
 .rcases cs q with⟨s,p⟩|⟨s,e,w,p⟩
  .exact p _ (h.own g v i a b s y m)
  .rcases xi (u e w) p m.memory with⟨G,c,d⟩|⟨G,c,d,_⟩|⟨k,_,d⟩|⟨c,_⟩|⟨c,_⟩
   .obtain rfl:=m.eq c;rw[D.one g _ b v C y d];exact s
   .obtain rfl:=m.eq c;exact absurd d (D.ro g b v y)
   .rw[d]at m;exact absurd (m.eq (bS.cell _)) (D.sh g b v y).2.2
   .rw[c]at m;exact absurd (m.eq (bS.cell _)) (D.sh g b v y).2.1
   .rcases zP c m with o|o
    .exact absurd o (D.sh g b v y).1
    .exact absurd o (D.sh g b v y).2.1
 .rcases cs q with⟨s,p⟩|⟨s,e,w,p⟩
  .exact p _ (h.cell k hk i a s m)
  .have hm:a.loc.isMemory=true:=(by rw[m];rfl);have f:bS a.loc K.bb:=(by rw[m];exact bS.cell _);rcases xi (u e w) p hm with⟨G,c,d⟩|⟨G,c,d,_⟩|⟨k',c,d⟩|⟨c,_⟩|⟨c,_⟩
   .exact absurd (c.eq f) (D.sh _ _ C d).2.2
   .exact absurd (c.eq f) (D.rs _ d).2.2.1
   .rw[m]at d;simp at d;subst d;rw[L k c hk];subst c;exact s
   .rw[c]at f;exact absurd ((bS.cell _).eq f) D.ne.2.2.1
   .rcases zP c f with o|o
    .exact absurd o.symm D.ne.2.1
    .exact absurd o.symm D.ne.2.2.1
 .rcases cs q with⟨s,p⟩|⟨s,e,w,p⟩
  .exact p _ (h.ro g v i a b s F m H)
  .rcases xi (u e w) p m.memory with⟨G,c,d⟩|⟨G,c,d,z⟩|⟨k,_,d⟩|⟨c,d⟩|⟨c,_⟩
   .obtain rfl:=m.eq c;exact absurd F (D.ro _ b C d)
   .rw[H]at z;cases z
   .rw[d]at m;exact absurd (m.eq (bS.cell _)) (D.rs b F).2.2.1
   .rw[H]at d;cases d
   .rcases zP c m with o|o
    .exact absurd o (D.rs b F).1
    .exact absurd o (D.rs b F).2.1
 .rcases cs q with⟨s,p⟩|⟨s,e,w,p⟩
  .exact p _ (h.mp g v i a s m H)
  .have f:bS a.loc K.bm:=(by rw[m];exact bS.cell _);rcases xi (u e w) p f.memory with⟨G,c,d⟩|⟨G,c,d,z⟩|⟨k,_,d⟩|⟨c,d⟩|⟨c,_⟩
   .exact absurd (c.eq f) (D.sh _ _ C d).2.1
   .rw[H]at z;cases z
   .rw[d]at f;exact absurd ((bS.cell _).eq f).symm D.ne.2.2.1
   .rw[H]at d;cases d
   .rw[m]at c;rcases c with c|c|c
    .exact absurd ((bS.cell _).eq c).symm D.ne.1
    .simp at c
    .simp at c
 .rcases cs q with⟨s,p⟩|⟨s,e,w,p⟩
  .exact p _ (h.u3 g v i a s Q R hk)
  .have⟨b,f⟩:=akM (l:=a.loc) (by rcases Q with h|h|h<;>first|exact h.memory|(rw[h];rfl));have J:=zP Q f;rcases xi (u e w) p f.memory with⟨G,c,d⟩|⟨G,c,d,z⟩|⟨k,_,d⟩|⟨c,d⟩|⟨c,d⟩
   .obtain rfl:=f.eq c;rcases J with o|o
    .exact absurd o (D.sh _ _ C d).1
    .exact absurd o (D.sh _ _ C d).2.1
   .obtain rfl:=f.eq c;rcases J with o|o
    .exact absurd o (D.rs _ d).1
    .exact absurd o (D.rs _ d).2.1
   .rw[d]at f;have:=f.eq (bS.cell _);dsimp only at this;subst this;rcases J with o|o
    .exact absurd o.symm D.ne.2.1
    .exact absurd o.symm D.ne.2.2.1
   .rw[c]at Q;rcases Q with c|c|c
    .exact absurd ((bS.cell _).eq c).symm D.ne.1
    .simp at c
    .simp at c
   .rcases d with d|⟨d,z⟩
    .exact absurd d R
    .subst d;rcases hk with rfl|hk
     .exact s
     .rw[z]at hk;cases hk
end
end Go.bG
namespace Go.bG
open Go Go.Conc Go.ConcN Go.Ren
open Go.ConcR (mk)
def j7(t:Trace):Prop:=∀op∈t,∀a,op.act≠.mark (.release a)
def j7.app{t u:Trace}(h:j7 t)(b:j7 u):j7 (t++u):=λop a=>(uQ.1 a).elim (h op) (b op)
def j7.evs{K:bj}{j:Option Nat}{own:Nat->Prop}{g:Nat}{fn:FuncId}{pos:String}{es:bI}(h:∀e∈es,EvA K j own e):j7 (MemOp.ofEvents g fn pos es):=by
 intro op c a d;have⟨_,e,f,b⟩:=j6 c;exact(h e f).norel a (b.symm.trans d)
def ng(t:Trace)(a:Addr)(i:Nat):Prop:=∃r,t.act? r=some (.mark (.releaseMerge a))/\t.heard r/\Before t i r
def ng.app{t:Trace}{a:Addr}{i:Nat}(u:Trace)(h:ng t a i):ng (t++u) a i:=by
 obtain⟨r,b,d,e⟩:=h;have c:=lt_of_act? b;exact⟨r,by rw[act?_old c];exact b,(heard_old c).2 d,e.app u⟩
def ofEvents_mk(g:Nat)(fn:FuncId)(pos:String)(m:Mark):MemOp.ofEvents g fn pos #[mk m]= #[{g,fn,pos,act:=.mark m}]:=by rw[ofEvents_eq];simp[Go.ConcR.ofEvent_mk]
section
variable{t:Trace}{g i:Nat}{a:Addr}{fn:FuncId}{pos:String}
def Df(y:MemOp):(t++ #[y])[t.size]? =some y:=ag
def WS{y:MemOp}(h:Deaf t y.g=0):(t++ #[y]).heard t.size:=⟨y.g,by simp[Trace.g?],by rw[deaf_old (bh _)];exact h⟩
def ng.said(h:Knows t g i)(hd:Deaf t g=0):ng (t++MemOp.ofEvents g fn pos #[mk (.releaseMerge a)]) a i:=by
 rw[ofEvents_mk];refine⟨t.size,by rw[act?_of (Df _)],WS hd,.inr (h.hb_new (bh _) (Df _) rfl)⟩
def ng.dG(h:ng t a i)(e:j7 t)(hd:Deaf t g=0):Knows (t++MemOp.ofEvents g fn pos #[mk (.acquire a)]) g i:=by
 rw[ofEvents_mk];obtain⟨r,c,f,j⟩:=h;have b:=lt_of_act? c;refine⟨t.size,_,Df _,rfl,.inr ((j.app _).hb (.single (.inr ⟨.marked (a:=a) b (.inr (by rw[act?_old b];exact c)) (by rw[act?_of (Df _)]) (λk _ l d=> ?_),(heard_old b).2 f,WS hd⟩)))⟩;rw[act?_old l]at d;have⟨op,ap,m⟩:=rr.1 d;exact e op (sE ap) a m
def Dg{m:Mark}(c:(MemAct.mark m).touch? =none){x:Touch}(h:touchAt (t++MemOp.ofEvents g fn pos #[mk m]) i=some x):touchAt t i=some x:=by
 have⟨op,ap,b⟩:=touch_of h;rcases getElem?_append_cases ap with⟨_,nd⟩|⟨_,a⟩
 .rw[touchAt_of nd];exact b
 .rw[ofEvents_mk]at a;simp at a;subst a;rw[c]at b;cases b
end
section
variable{K:bj}{A uH:Nat->Prop}{own own':Nat->Nat->Prop}{mB OB:Nat->Nat}{B:Nat}{t:Trace}{g k:Nat}
def gA.qw(h:gA K A own mB B t)(ap:∀g b,A g->own' g b->own g b\/∀i a,touchAt t i=some a->bS a.loc b->Knows t g i):gA K A own' mB B t:=⟨h.nr,h.low,λg c i a b d f e=>(ap g b c f).elim (λq=>h.own g c i a b d q e) λq=>q i a d e,h.cell,h.ro,h.mp,h.u3⟩
def gA.fork(h:gA K A own mB B t)(l:A 0){x y:MemOp}(D:x.g=0/\x.act=.go k)(E:y.g=k/\y.act=.start)(O:Deaf t 0=0)(hk:Deaf t k=0)(P:k≠0)(m:∀g,uH g->A g\/g=k)(ap:∀g b,A g->g≠k->own' g b->own g b)(G:∀b,own' k b->own 0 b)(H:∀q,q<K.n->OB q=mB q\/(mB q=0/\OB q=k)):gA K uH own' OB B (t++ #[x,y]):=by
 have o:∀op∈#[x,y],∀b,op.act.touch? =some b->False:=by
  intro op c b f;simp only[zQ,dY,gE,gn]at c;rcases c with rfl|rfl
  .rw[D.2]at f;cases f
  .rw[E.2]at f;cases f
 have old:∀{i:Nat}{a:Touch},touchAt (t++ #[x,y]) i=some a->touchAt t i=some a:=by
  intro i a d;have⟨z,Q,r⟩:=touch_of d;rcases getElem?_append_cases Q with⟨_,aa⟩|⟨_,J⟩
  .rw[touchAt_of aa];exact r
  .exact(o z J a r).elim
 have s:∀{i:Nat},Knows t 0 i->Knows (t++ #[x,y]) k i:=λq=>fork_knows D E O hk q;refine⟨λu=> ?_,λop c=> ?_,λg p i a b d f j=> ?_,λq L i a d j=> ?_,λg p i a b d f j v=> ?_,λg p i a d j v=> ?_,λg p i a d N w M=> ?_⟩
 .have e:t++ #[x,y]=(t++ #[x])++ #[y]:=(by apply Array.ext';simp);rw[e];refine noRace_append (g:=k) (noRace_append (g:=0) (h.nr u) (λop c=>by simp at c;rw[c];exact D.1) (λi a _ op c b f _=>(o op (by simp at c⊢;exact .inl c) b f).elim)) (λop c=>by simp at c;rw[c];exact E.1) (λi a _ op c b f _=>(o op (by simp at c⊢;exact .inr c) b f).elim)
 .rcases uQ.1 c with F|F
  .exact h.low op F
  .simp only[zQ,dY,gE,gn]at F;rcases F with rfl|rfl
   .rw[D.2];trivial
   .rw[E.2];trivial
 .by_cases e:g=k
  .subst e;exact s (h.own 0 l i a b (old d) (G b f) j)
  .have C:=(m g p).resolve_right e;exact(h.own g C i a b (old d) (ap g b C e f) j).app _
 .rcases H q L with e|⟨ay,aF⟩
  .rw[e];exact(h.cell q L i a (old d) j).app _
  .rw[aF];have:=h.cell q L i a (old d) j;rw[ay]at this;exact s this
 .by_cases e:g=k
  .subst e;exact s (h.ro 0 l i a b (old d) f j v)
  .exact(h.ro g ((m g p).resolve_right e) i a b (old d) f j v).app _
 .by_cases e:g=k
  .subst e;exact s (h.mp 0 l i a (old d) j v)
  .exact(h.mp g ((m g p).resolve_right e) i a (old d) j v).app _
 .by_cases e:g=k
  .subst e;exact s (h.u3 0 l i a (old d) N w (.inl rfl))
  .exact(h.u3 g ((m g p).resolve_right e) i a (old d) N w M).app _
structure pA(K:bj)(Shun:Loc->Prop)(j:Nat)(rel:Nat->Prop)(t:Trace):Prop where
 old:∀i a,touchAt t i=some a->a.loc.isMemory=true->(∃k,k<j/\t.g? i=some (K.base+k))\/Knows t 0 i\/(Shun a.loc/\a.kind=.atomic)
 over:∀i g,t.g? i=some g->g≠0->(∀k,k<j->g≠K.base+k)->t.counts i->∃q,t.g? q=some 0/\HappensBefore t i q
 rel:∀k,k<j->rel k->∀i a,t.g? i=some (K.base+k)->touchAt t i=some a->a.loc.isMemory=true->ng t ⟨K.Wg,0,none⟩ i\/(bS a.loc K.Wg/\a.kind=.atomic/\¬t.counts i)
variable{Shun:Loc->Prop}{j:Nat}{rel Dh:Nat->Prop}{u:Trace}
def pA.app(h:pA K Shun j rel t)(w:∀op∈u,op.g=g)(F:g=0\/(∃k,k<j/\g=K.base+k/\0<K.base)\/∀op∈u,op.act.touch? =none)(aa:∀k,k<j->Dh k->(rel k/\∀i,t.size<=i->i< (t++u).size->g=K.base+k->∀a,touchAt (t++u) i=some a->bS a.loc K.Wg/\a.kind=.atomic/\¬(t++u).counts i)\/(g=K.base+k/\∀i a,(t++u).g? i=some (K.base+k)->touchAt (t++u) i=some a->a.loc.isMemory=true->ng (t++u) ⟨K.Wg,0,none⟩ i)):pA K Shun j Dh (t++u):=by
 refine⟨λi a o s=> ?_,λi q G p hk v=> ?_,λk hk A i a B o s=> ?_⟩
 .have⟨x,l,d⟩:=touch_of o;rcases getElem?_append_cases l with⟨af,m⟩|⟨_,c⟩
  .rcases h.old i a (by rw[touchAt_of m];exact d) s with⟨k,b,f⟩|b|b
   .exact .inl ⟨k,b,by rw[g?_old af];exact f⟩
   .exact .inr (.inl (b.app _))
   .exact .inr (.inr b)
  .have n:=w x c;rcases F with rfl|⟨k,b,f,_⟩|b
   .have:=knows_own l;rw[n]at this;exact .inr (.inl this)
   .exact .inl ⟨k,b,by simp[Trace.g?,l,n,f]⟩
   .rw[b x c]at d;cases d
 .have⟨x,l,C⟩:=rr.1 G;rcases getElem?_append_cases l with⟨af,m⟩|⟨_,c⟩
  .have⟨a8,b,f⟩:=h.over i q (by rw[<-g?_old (u:=u) af];exact G) p hk ((counts_old af).1 v);have D:a8<t.size:=by
    have⟨z,J,_⟩:=rr.1 b;exact lt_size_of_getElem? J
   exact⟨a8,by rw[g?_old D];exact b,hb_app u f⟩
  .have n:=w x c;have e:q=g:=C.symm.trans n;rcases F with rfl|⟨k,b,f,_⟩|b
   .exact absurd e p
   .exact absurd (e.trans f) (hk k b)
   .obtain⟨a,o,_⟩:=v;have⟨y,H,r⟩:=touch_of o;rw[l]at H;cases H;rw[b x c]at r;cases r
 .rcases aa k hk A with⟨b,f⟩|⟨_,f⟩
  .have⟨x,l,d⟩:=touch_of o;rcases getElem?_append_cases l with⟨af,m⟩|⟨af,c⟩
   .rcases h.rel k hk b i a (by rw[<-g?_old (u:=u) af];exact B) (by rw[touchAt_of m];exact d) s with E|⟨E,L,M⟩
    .exact .inl (E.app _)
    .exact .inr ⟨E,L,λv=>M ((counts_old af).1 v)⟩
   .refine .inr (f i af (lt_size_of_getElem? l) ?_ a o);have:=w x c;rw[<-this];simpa[Trace.g?,l]using B
  .exact .inl (f i a B o s)
def pA.done(h:pA K Shun j rel t)(c:∀k,k<j->rel k)(hk:∀i,ng t ⟨K.Wg,0,none⟩ i->Knows t 0 i): (∀i a,touchAt t i=some a->a.loc.isMemory=true->Knows t 0 i\/((Shun a.loc\/bS a.loc K.Wg)/\a.kind=.atomic))/\t.HandedOver:=by
 refine⟨λi a f l=> ?_,λi g n m u=> ?_⟩
 .rcases h.old i a f l with⟨k,b,o⟩|b|⟨b,o⟩
  .rcases h.rel k b (c k b) i a o f l with d|⟨d,p,_⟩
   .exact .inl (hk i d)
   .exact .inr ⟨.inr d,p⟩
  .exact .inl b
  .exact .inr ⟨.inl b,o⟩
 .by_cases v:∃k,k<j/\g=K.base+k
  .obtain⟨k,b,rfl⟩:=v;obtain⟨a,f,l,_⟩:=u;rcases h.rel k b (c k b) i a n f l with d|⟨_,_,d⟩
   .have⟨q,z,p,w,r⟩:=hk i d;have s:t.g? q=some 0:=(by simp[Trace.g?,p,w]);rcases r with rfl|r
    .rw[n]at s;exact absurd (kz s) m
    .exact⟨q,s,r⟩
   .exact absurd ⟨a,f,l,‹_›⟩ d
  .exact h.over i g n m (λk hk e=>v ⟨k,hk,e⟩) u
end
end Go.bG
