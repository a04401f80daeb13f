import Derived.Test.YtlcdgbhigfgehabGreatDoorQA10
set_option linter.all false
set_option maxRecDepth 100000
set_option maxHeartbeats 16000000
namespace Go.bG
open Go Go.Conc Go.Ren
open Go.ConcR (KK wgBlock WgAt stA smA rd wr mk DC0)
open Go.ConcM (OsLater)
open Go.aS (Th Sh a6 mv)
open Go.ConcN (sumTo upd upd_same upd_ne sumTo_congr)
section
variable{P:Program}{K:bj}{aL:bu->Obj->Prop}{Post:Nat->(Nat->Prop)->World->Prop}{kd:Nat->Int}{Anch bl:aM->Goroutine->World->Prop}{Shun:Loc->Prop}{S S':Sys}{gs:Array Goroutine}{w w':World}{t u:Trace}{sl:Option (Nat×Nat)}
def al7{n:Nat}{f:Nat->Nat}(h:∀a,f a<=1):sumTo n f<=n:=by
 induction n with
 |zero=>simp[sumTo]
 |succ n b=>have:=h n;simp only[sumTo];omega
def al8{n:Nat}{th:Nat->Th}{x:Sh}(aa:aS.Inv n th x){i:Nat}(af:i<n):WX (th i) x.x:=by
 have⟨o,w,a,g,r,d,u,⟨b,c,f,k,h,_⟩,_⟩:=aa.b3 af;refine⟨λe=> ?_,λe=> ?_⟩
 .have:aS.own (th i)=1:=(by simp[aS.own,e]);cases bO:x.x.bC<;>simp[bO]at b⊢<;>omega
 .have l:aS.add (th i)=1:=(by simp[aS.add,e]);cases bw:x.x.a4 with
  |false=>have:=(c bw).2;omega
  |true=>
   have j:=(f bw).2.2;have m:=h bw;cases bO:x.x.bC<;>simp[bO]at j⊢<;>omega
def aml:K.shared (.cell (iw K))/\K.shared (.cell (Hs K)):=⟨.inr (.inl rfl),.inr (.inr rfl)⟩
def O6(aa:Inv P K aL Post kd Anch bl Shun S gs w t){i:Nat}(af:i<S.j){fn:FuncId}{pos:String}{m:Mark}(n:zO K (some i) (S.own (K.base+i)) m)(o:(MemAct.mark m).touch? =none)(f:∀q,q≠K.base+i->S'.own q=S.own q)(c:∀b,S'.own (K.base+i) b->S.own (K.base+i) b\/∀p a,touchAt t p=some a->bS a.loc b->Knows (t++MemOp.ofEvents (K.base+i) fn pos #[mk m]) (K.base+i) p): gA K (eW K S) S'.own (n6 K S) w.heap.size (t++MemOp.ofEvents (K.base+i) fn pos #[mk m]):=by
 have r:=HH (w':=w) (S':=S) (jn:=some i) aa (λk e=>by cases e;exact af) (bh _) (λ_ _=>rfl) (λb d=>.inl d) (fn:=fn) (pos:=pos) (es:= #[mk m]) (λe l=>by simp at l;subst l;exact .mark n);refine r.qw λg b v d=> ?_;by_cases e:g=K.base+i
 .subst e;rcases c b d with h|h
  .exact .inl h
  .exact .inr λp a s u=>h p a (Dg o s) u
 .rw[f g e]at d;exact .inl d
def al9(z:kJ K Post)(tT:K.n<=8)(aa:Inv P K aL Post kd Anch bl Shun S gs w t){i:Nat}(af:i<S.j)(hd:S.D i=7)(ap:(S.th i).pc≠.out){g:aY}{v:bu}(cC:gs[K.base+i]? =some g)(hT:S.au (K.base+i)=.leaf)(bP:(S.th i).pc=.ur->v=S.f)(ama:303*cQ K.n S+aS.eh (S.th i) S.x.x<S.eV i)(O:∀al,Rl K (some i) ⟨S.own (K.base+i),Deaf t (K.base+i)⟩ w al->gq P K aL Post kd i (S.th i) (S.eV i) v 7 ⟨S.own (K.base+i),Deaf t (K.base+i)⟩ g al): mQ P K aL Post kd Anch bl Shun S gs w sl t (K.base+i):=by
 have cz:(K.base+i==0)=false:=(by have:=aa.jI;simp;omega);have N:i<K.n:=fl af aa.jn;have en:∀k,some i=some k->k<S.j:=λk e=>(by cases e;exact af);obtain⟨k,hk⟩:∃k,S.eV i=k+1:=⟨S.eV i - 1,U⟩;have a4:=O w (.refl _ _ _ _);have O7:=a4.running;unfold gq at a4;rw[aC ap,hk]at a4;obtain⟨_,amb,A,amc,amd,ame⟩:=a4;change Deaf t (K.base+i)=h0 (S.th i)at A;have law:=ame S.x aa.aT aa.fit (al8 aa.dv N);have pU:=aa.dv.ok i N;have zY:S.tag≠.fin:=HN aa af (by rw[hd];decide);by_cases O8:mv (S.th i) S.x=[]
 ·
  have Q:=law.1 O8;have⟨amf,Ks⟩:=alZ O8 pU ap;refine xw (jn:=some i) z en aa cC (g':={g with status:=.blocked}) (w':=w) (es:= #[]) (by simp only[bt];rw[cz];exact Q) (.refl w) (S':=S) {j:=rfl,f:=rfl,own:=rfl,fZ:=λ_ _=>⟨rfl,rfl,rfl⟩,au:=λa8 O9=>rfl,m:=.inr ⟨rfl,rfl,.inr ⟨rfl,O7,rfl⟩⟩,tag:=.inr rfl,mM:=λe=>(by cases e),mN:=λk' e=> ?_,mO:=.inr (.inr (.inl rfl)),mP:=.inl (bh _),wg:=aa.wg,mode:=aa.mode,dL:=aa.dL,aT:=aa.aT,dv:=aa.dv,fit:=aa.fit,out:=λk e=>(by cases e;exact aa.out i af),eX:=λk e=>(by cases e;exact aa.eX i af),did:=λ_ _=>rfl,ur:=λ_ _=>Iff.rfl,aH:=λe he=>(by simp at he),rel:=λk' e yP=>(by cases e;rw[hd]at yP;omega),fin:=λe=>absurd e zY};cases e;refine⟨?_,λ_=>Ks⟩;unfold WSit;rw[aC (by rw[hd];decide),deafBehind_nil];refine⟨v,bP,λ_ _=>ama,.inr ⟨⟨hd,amf⟩,hT,g,rfl,O7,amb,?_⟩⟩;rw[hd];exact O
 ·
  have R:(S.th i).pc=.la->∀k,k<S.j->(S.th k).pc≠.ur:=λe k yP=>by
   by_cases fg:k=i
   .subst fg;rw[e];decide
   .exact Xz aa.dv N (.inl e) k (fl yP aa.jn) fg
  have⟨r,cl,CF⟩:=law.2 O8 S.f λe=>⟨aa.map (R e),λq=>by rw[aa.h4 q];exact dU (al7 (λa=>by split<;>omega)) aa.jn⟩;have T:aS.Inv K.n (upd S.th i r.1) r.2:=aa.dv.step N cl;have amg:aS.ep r.1=true:=(by have:=T.ok i N;rw[upd_same]at this;exact this);have CK:=al0 amg;have⟨g',w',es,Q,yE,C,J,B,L⟩:=CF CK;have g4:=J.alU;have Pa:w'.heap[K.Wg]? =w.heap[K.Wg]? :=J.block _ aa.bM.ne.1;have amh:w'.heap[K.bU]? =w.heap[K.bU]? :=J.block _ aa.bM.ne.2.2.2.2.1;let v':bu:=if(S.th i).pc=.la then S.f.add (kd i)else v
  let s':aM:=kG K (S.th i) r.1 ⟨S.own (K.base+i),Deaf t (K.base+i)⟩
  have Bj:a7 P false (Rl K (some i)) (e7 K (some i)) (gq P K aL Post kd i r.1 k v' 7) s' g' w':=by
   unfold u6 at L;unfold gq;split at L
   .rename_i h;rw[aV h];exact L
   .rename_i h;rw[aC h];exact L
  have⟨r',Pb⟩:=Bj.u1;have ami:=aS.akQ pU cl;have AU:=al1 af S.D S.th r.1;let c:Sys:={S with th:=upd S.th i r.1,x:=r.2,eV:=upd S.eV i k,au:=upd S.au (K.base+i) r',own:=upd S.own (K.base+i) s'.own,f:=if(S.th i).pc=.la then S.f.add (kd i)else S.f}
  have iQ:cQ K.n c+aS.ca (S.th i)+2*S.x.m=cQ K.n S+aS.ca r.1+2*r.2.m:=by
   have ay:cQ K.n c=phi K.n (Vc S.j S.D) S.tag+sumTo S.j (λa=>S.D a+aS.ca (upd S.th i r.1 a))+2*r.2.m:=rfl;have aF:cQ K.n S=phi K.n (Vc S.j S.D) S.tag+sumTo S.j (λa=>S.D a+aS.ca (S.th a))+2*S.x.m:=rfl;omega
  have hm:cQ K.n c<cQ K.n S\/(cQ K.n c=cQ K.n S/\r.2.x=S.x.x/\aS.eh r.1 S.x.x<aS.eh (S.th i) S.x.x):=by
   rcases ami with h|⟨bD,cb,b7⟩
   .left;omega
   .right;exact⟨U,cb,b7⟩
  have xu:c.au (K.base+i)=r':=upd_same _ _ _;have u:c.th i=r.1:=upd_same _ _ _;have Pd:cQ K.n c=cQ K.n S->c.x.x=S.x.x->aS.eh r.1 S.x.x<aS.eh (S.th i) S.x.x->Hk (mL K c (K.base+i)) (mL K S (K.base+i)):=by
   intro _ cD bO;unfold mL;have dZ:K.base<=K.base+i/\K.base+i<K.base+S.j:=⟨U,U⟩;rw[aV (show K.base<=K.base+i/\K.base+i<K.base+c.j from dZ),aV dZ];rw[show K.base+i - K.base=i by omega,u,show c.D i=S.D i from rfl,hd,cD];exact Prod.Lex.left _ _ bO
  have o8:303*cQ K.n c+aS.eh r.1 r.2.x<k:=by
   have bD:=aS.OD r.1 r.2.x;rcases hm with h|⟨cb,b7,dC⟩
   .omega
   .rw[cb,b7];omega
  have F:(r.1.pc=.ur->v'=c.f)->WSit P K aL Post kd i c s'.deaf g' w'/\(g'.status=.blocked->c.x.m=0):=by
   intro Pe;refine⟨?_,λe=>by rw[yE]at e;cases e⟩;unfold WSit;rw[aC (show c.D i≠1 by show S.D i≠1;rw[hd];decide),xu,u];refine⟨v',Pe,λ_ _=>by show _<upd S.eV i k i;rw[upd_same];exact o8,.inl ?_⟩;show iv P false (Rl K (some i)) (nh K i (S.D i)) (gq P K aL Post kd i r.1 (upd S.eV i k i) v' (S.D i)) r' ⟨upd S.own (K.base+i) s'.own (K.base+i),s'.deaf⟩ g' w'
   rw[upd_same,upd_same,hd];exact Pb
  have E:∀q,some i≠some q->c.th q=S.th q/\c.D q=S.D q/\c.eV q=S.eV q:=λq d=>by
   have:q≠i:=λe=>d (by rw[e]);exact⟨upd_ne _ _ this,rfl,upd_ne _ _ this⟩
  have l:∀q,q≠bt K (some i)->c.au q=S.au q/\c.own q=S.own q:=λq d=>⟨upd_ne _ _ d,upd_ne _ _ d⟩;have az:∀q,K.base+q≠K.base+i->c.th q=S.th q/\c.D q=S.D q:=λq d=>⟨upd_ne _ _ (λe=>d (by rw[e])),rfl⟩;have V:=al3 T tT;have fp:K.bb≠K.Wg/\K.bb≠K.bm:=⟨aa.bM.ne.2.1.symm,aa.bM.ne.2.2.1.symm⟩;have hQ:w'.heap.size=w.heap.size:=J.size;rcases alY cl CK with⟨o,M,p3⟩|⟨o,M,p3⟩|⟨o,M,p3,p4,j5⟩
  ·
   have W:es= #[mk (.acquire (iw K))]:=(by unfold rC at B;rw[o]at B;exact B);subst W;have X:Deaf t (K.base+i)=0:=(by rw[A];simp[h0,o]);have y:s'.own=λb=>S.own (K.base+i) b\/b=K.bU:=by
    show(kG _ _ _ _).own=_
    unfold kG;rw[o]
   have Pe:v'=c.f:=(by show(if _ then _ else _)=(if _ then _ else _);rw[aV o,aV o]);have iU:=R o;have Y:∀b,c.own (K.base+i) b->S.own (K.base+i) b\/(w.heap.size<=b/\b<w'.heap.size)\/(b=K.bU/\∀q,q<S.j->(S.th q).pc≠.ur):=λb G=>by
    rw[show c.own (K.base+i)=s'.own from upd_same _ _ _,y]at G;exact G.imp id λe=>.inr ⟨e,iU⟩
   have Dr:zO K (some i) (S.own (K.base+i)) (.acquire (iw K)):=.inr (.inr rfl);have zZ:Deaf (t++MemOp.ofEvents (K.base+i) g.frame.fn g.frame.place #[mk (.acquire (iw K))]) (K.base+i)=s'.deaf:=by
    rw[Deaf_own,X];show deafBehind 0 #[mk (.acquire (iw K))]=h0 r.1
    simp[h0,M,deafBehind,mk]
   have Pf:gA K (eW K S) c.own (n6 K S) w'.heap.size (t++MemOp.ofEvents (K.base+i) g.frame.fn g.frame.place #[mk (.acquire (iw K))]):=by
    rw[hQ];refine O6 aa af Dr rfl (λq d=>(l q d).2) λb G=> ?_;rw[show c.own (K.base+i)=s'.own from upd_same _ _ _,y]at G;rcases G with G|rfl
    .exact .inl G
    .exact .inr λp a e1 bO=>(aa.kI iU p a e1 bO).dG aa.hG (.inr ⟨i,af,rfl⟩) X
   have Z:Stepped P K aL Post kd Anch bl Shun (some i) S c g g' w w' t (t++MemOp.ofEvents (K.base+i) g.frame.fn g.frame.place #[mk (.acquire (iw K))]):=by
    refine{j:=rfl,fZ:=E,au:=l,m:=hm.imp id λh=>⟨h.1,h.2.1⟩,f:=λq d cJ e=>absurd e (iU q d),tag:=.inr rfl,own:=Y,mM:=λe=>(by cases e),mN:=λq e=> ?_,mO:=.inr (.inr (.inl rfl)),mP:=.inl (by show r.2.m<=_;rw[p3];exact bh _),wg:=HJ aa.wg Pa,mode:=aa.mode,dL:=aa.dL,aT:=C,dv:=T,fit:=V,out:=λq e h=>(by cases e;exact absurd hd h),eX:=λq e=>(by cases e;exact aa.eX i af),map:=λPg=>(absurd (by rw[u];exact M) (Pg i af)),h4:=λq=> ?_,aG:=λq e=> ?_,gR:=λe=>(by cases e),hi:=Pf,hG:=aa.hG.app (j7.evs (j:=some i) (own:=S.own (K.base+i)) λe he=>by simp at he;subst he;exact .mark Dr),deaf:=λq d=>Deaf_other t (ed d) _ iz,kI:=λPg=>(absurd (by rw[u];exact M) (Pg i af)),to:=zW (jn:=some i) aa en iz (λ_ _ _=>rfl) λq e h=>(by cases e;rw[show c.D i=S.D i from rfl,hd]at h;omega),post:=λq e h=>(by cases e;rw[show c.D i=S.D i from rfl,hd]at h;omega),acq:=λe=>absurd (show S.tag=.fin from e) zY}
    .cases e;rw[zZ];exact F λ_=>Pe
    .show(if _ then _ else _:bu) q=_
     rw[aV o];have bw:=al2 af (λa=>if did (S.th a)/\q=kd a then 1 else 0) (λa=>if did (c.th a)/\q=kd a then 1 else 0) λa e1=>(by rw[(E a (λe=>e1 (by cases e;rfl))).1]);simp only[u]at bw;have ay:did r.1=true:=(by simp[did,M]);have aF:did (S.th i)=false:=(by simp[did,o]);rw[ay,aF]at bw;simp only[ea,false_and,cY,fF,oY]at bw;show S.f q+ (if q=kd i then 1 else 0)=_
     rw[aa.h4 q,bw]
    .cases e;rw[show c.own (K.base+i)=s'.own from upd_same _ _ _,y,u];exact⟨λ_=>M,λ_=>.inr rfl⟩
   have H:=aa.step z en (s:=⟨S.own (K.base+i),0⟩) (s':=⟨S.own (K.base+i),0⟩) rfl (g4.an fp ⟨_,_,Z.wg⟩ ⟨_,C⟩) Z;refine⟨c,_,w',_,runT_crowd_go cC (by rw[cz];exact Q),H,vb ag (hm.imp id λh=>⟨h.1,K.base+i,(bQ.1 cC).1,Pd h.1 h.2.1 h.2.2,λq d=>HI (S':=c) (S:=S) rfl h.2.1 d (l q d).1 az⟩)⟩
  ·
   have W:es= #[mk (.releaseMerge (iw K))]:=(by unfold rC at B;rw[o]at B;exact B);subst W;have X:Deaf t (K.base+i)=0:=(by rw[A];simp[h0,o]);have y:s'.own=λb=>S.own (K.base+i) b/\b≠K.bU:=by
    show(kG _ _ _ _).own=_
    unfold kG;rw[o]
   have fL:c.f=S.f:=(by show(if _ then _ else _)=_;rw[aC (by rw[o];decide)]);have avR:∀q,q<S.j->q≠i->(S.th q).pc≠.ur:=λq d e=>Xz aa.dv N (.inr o) q (fl d aa.jn) e;have Y:∀b,c.own (K.base+i) b->S.own (K.base+i) b\/(w.heap.size<=b/\b<w'.heap.size):=λb G=>by
    rw[show c.own (K.base+i)=s'.own from upd_same _ _ _,y]at G;exact .inl G.1
   have Dr:zO K (some i) (S.own (K.base+i)) (.releaseMerge (iw K)):=.inr (.inr rfl);have amj:=aa.rI i af o;have zZ:Deaf (t++MemOp.ofEvents (K.base+i) g.frame.fn g.frame.place #[mk (.releaseMerge (iw K))]) (K.base+i)=s'.deaf:=by
    rw[Deaf_own,X];show deafBehind 0 #[mk (.releaseMerge (iw K))]=h0 r.1
    simp[h0,M,deafBehind,mk]
   have Pf:gA K (eW K S) c.own (n6 K S) w'.heap.size (t++MemOp.ofEvents (K.base+i) g.frame.fn g.frame.place #[mk (.releaseMerge (iw K))]):=by
    rw[hQ];refine O6 aa af Dr rfl (λq d=>(l q d).2) λb G=> ?_;rw[show c.own (K.base+i)=s'.own from upd_same _ _ _,y]at G;exact .inl G.1
   have Z:Stepped P K aL Post kd Anch bl Shun (some i) S c g g' w w' t (t++MemOp.ofEvents (K.base+i) g.frame.fn g.frame.place #[mk (.releaseMerge (iw K))]):=by
    refine{j:=rfl,fZ:=E,au:=l,m:=hm.imp id λh=>⟨h.1,h.2.1⟩,f:=λ_ _ _ _=>fL,tag:=.inr rfl,own:=λb G=>(Y b G).imp id .inl,mM:=λe=>(by cases e),mN:=λq e=> ?_,mO:=.inr (.inr (.inl rfl)),mP:=.inl (by show r.2.m<=_;rw[p3];exact bh _),wg:=HJ aa.wg Pa,mode:=aa.mode,dL:=aa.dL,aT:=C,dv:=T,fit:=V,out:=λq e h=>(by cases e;exact absurd hd h),eX:=λq e=>(by cases e;exact aa.eX i af),map:=λ_=> ?_,h4:=λq=> ?_,aG:=λq e=> ?_,gR:=λe=>(by cases e),hi:=Pf,hG:=aa.hG.app (j7.evs (j:=some i) (own:=S.own (K.base+i)) λe he=>by simp at he;subst he;exact .mark Dr),deaf:=λq d=>Deaf_other t (ed d) _ iz,kI:=λ_ p a e1 bO=>.inl<|ng.said (aa.hi.own _ (.inr ⟨i,af,rfl⟩) p a K.bU (Dg rfl e1) amj bO) X,to:=zW (jn:=some i) aa en iz (λ_ _ _=>rfl) λq e h=>(by cases e;rw[show c.D i=S.D i from rfl,hd]at h;omega),post:=λq e h=>(by cases e;rw[show c.D i=S.D i from rfl,hd]at h;omega),acq:=λe=>absurd (show S.tag=.fin from e) zY}
    .cases e;rw[zZ];exact F λe=>by rw[M]at e;cases e
    .rw[fL,<-bP o];exact(amd o).keep amh
    .rw[fL,aa.h4 q];refine sumTo_congr λa e1=> ?_;by_cases e:a=i
     .subst e;rw[u];simp[did,o,M]
     .rw[(E a (λfg=>e (by cases fg;rfl))).1]
    .cases e;rw[show c.own (K.base+i)=s'.own from upd_same _ _ _,y,u];exact⟨λh=>absurd rfl h.2,λh=>by rw[M]at h;cases h⟩
   have H:=aa.step z en (s:=⟨S.own (K.base+i),0⟩) (s':=⟨S.own (K.base+i),0⟩) rfl (g4.an fp ⟨_,_,Z.wg⟩ ⟨_,C⟩) Z;refine⟨c,_,w',_,runT_crowd_go cC (by rw[cz];exact Q),H,vb ag (hm.imp id λh=>⟨h.1,K.base+i,(bQ.1 cC).1,Pd h.1 h.2.1 h.2.2,λq d=>HI (S':=c) (S:=S) rfl h.2.1 d (l q d).1 az⟩)⟩
  ·
   have y:s'=⟨S.own (K.base+i),h0 r.1⟩:=by
    show kG _ _ _ _=_
    unfold kG;split
    .exact absurd ‹_› o
    .exact absurd ‹_› M
    .rfl
   have tS:(∀e∈es,u4 K e)/\deafBehind (h0 (S.th i)) es=h0 r.1:=by
    unfold rC at B;split at B
    .exact absurd ‹_› o
    .exact absurd ‹_› M
    .exact B
   have fL:c.f=S.f:=(by show(if _ then _ else _)=_;rw[aC o]);have amk:c.own=S.own:=by
    show upd S.own (K.base+i) s'.own=_
    rw[y];funext q;by_cases e:q=K.base+i
    .subst e;exact upd_same _ _ _
    .exact upd_ne _ _ e
   have vK:c.x.m<=S.x.m\/(mayWake P g=true/\g'.status=.running):=j5.imp id λe=>⟨amc e,yE⟩;refine xw (jn:=some i) z en aa cC (g':=g') (w':=w') (es:=es) (by simp only[bt];rw[cz];exact Q) g4 (S':=c) {j:=rfl,f:=fL,own:=amk,fZ:=E,au:=λq d=>(l q d).1,m:=hm.imp id λh=>⟨h.1,h.2.1,.inl (Pd h.1 h.2.1 h.2.2)⟩,tag:=.inr rfl,mM:=λe=>(by cases e),mN:=λq e=> ?_,mO:=.inr (.inr (.inl rfl)),mP:=vK,wg:=HJ aa.wg Pa,mode:=aa.mode,dL:=aa.dL,aT:=C,dv:=T,fit:=V,out:=λq e h=>(by cases e;exact absurd hd h),eX:=λq e=>(by cases e;exact aa.eX i af),did:=λq e=>(by cases e;rw[u];exact p4),ur:=λq e=>(by cases e;rw[u];exact⟨λh=>absurd h p3,λh=>absurd h M⟩),aH:=λe he=> ?_,rel:=λq e h=>(by cases e;rw[show c.D i=S.D i from rfl,hd]at h;omega),fin:=λe=>absurd (show S.tag=.fin from e) zY}
   .cases e;have:=F λe=>absurd e p3;rw[A,tS.2];rw[y]at this;exact this
   .rcases tS.1 e he with rfl|rfl|⟨a,x,rfl,rfl|rfl⟩
    .exact .mark trivial
    .exact .mark trivial
    .exact .word aml.1
    .exact .word aml.2
end
end Go.bG
namespace Go.bG
open Go Go.Conc Go.Ren
open Go.ConcR (KK wgBlock WgAt stA smA rd wr mk DC0)
open Go.ConcM (OsLater)
open Go.aS (Th Sh a6 mv)
open Go.ConcN (sumTo upd upd_same upd_ne sumTo_congr)
def phi_mono(n:Nat){v v':Nat}(h:v'<=v)(tag:j8):phi n v' tag<=phi n v tag:=by cases tag<;>simp only[phi]<;>omega
section
variable{P:Program}{K:bj}{aL:bu->Obj->Prop}{Post:Nat->(Nat->Prop)->World->Prop}{kd:Nat->Int}{Anch bl:aM->Goroutine->World->Prop}{Shun:Loc->Prop}{S S':Sys}{gs:Array Goroutine}{w w':World}{t u:Trace}{sl:Option (Nat×Nat)}
def amm{i:Nat}{s:aM}(h:Rl K (some i) s w w'):@Go.ConcN.RW ⟨K.qv⟩ K.cW K.Wg K.bb K.n 0 (i+1 - 1) w w':=@Go.ConcN.RW.mk ⟨K.qv⟩ _ _ _ _ _ _ _ _ (λb a=>U) h.wg h.pay (h.cell i rfl)
def Ds{i:Nat}{Z:aY->ab->Prop}{m:Nat}{g:aY}{s:aM}{Q:aM->aY->ab->Prop}(h:Goes P false (@Go.ConcN.RW ⟨K.qv⟩ K.cW K.Wg K.bb K.n 0 (i+1 - 1)) DC0 Z m g w)(a:∀g w,Z g w->Q s g w): a7 P false (Rl K (some i)) xq Q s g w:=(a7.wS (Rl:=Rl K (some i)) (Gu:=xq) (own:=s) (λ_ _ q=>amm q) (λ_ _ _ q=>⟨rfl,q.1,q.2⟩) h).mono (λ_ _ _ h=>h) (λ_ _ _ _ _ h=>h) λs' g w ⟨e,z⟩=>by subst e;exact a g w z
def xx(d:kJ K Post)(aa:Inv P K aL Post kd Anch bl Shun S gs w t){i d':Nat}(af:i<S.j)(A:S.D i<=6)(bD:1<=d')(T:d'<S.D i){g g':aY}{es:bI}{l b:Int}(az:gs[K.base+i]? =some g)(B:stepG P false g w=.go g' w' es)(V:hj K w w')(C:w'.heap[K.bm]? =w.heap[K.bm]?)(E:WgAt K.cW K.Wg w' l b)(o:Mode S.j (upd S.D i d') S.tag l b)(F:b=0\/b=S.c6\/(mayWake P g=true/\g'.status=.running))(p:∀e∈es,e=mk .disable\/e=mk .enable\/∃a x,e=⟨.cell a,x,true⟩/\a.block=K.Wg)(G:∀e∈es,(MemAct.ofEvent e).touch? =none\/0<Deaf t (K.base+i))(s:0<Deaf t (K.base+i)->∀j,0<deafBehind (Deaf t (K.base+i)) (es.extract 0 j))(u:(d'=1/\∃q,QuitsD P q (deafBehind (Deaf t (K.base+i)) es) g')\/(d'≠1/\a7 P false (Rl K (some i)) xq (gq P K aL Post kd i (S.th i) (S.eV i) (λ_=>0) d') ⟨S.own (K.base+i),deafBehind (Deaf t (K.base+i)) es⟩ g' w')): mQ P K aL Post kd Anch bl Shun S gs w sl t (K.base+i):=by
 have W:(K.base+i==0)=false:=(by have:=aa.jI;simp;omega);have H:S.D i≠7:=U;have ap:=aa.out i af H;have X:S.tag≠.fin:=HN aa af U;obtain⟨r',y⟩:∃r',(d'=1/\∃q,r'=dr.ofNat q/\QuitsD P q (deafBehind (Deaf t (K.base+i)) es) g')\/(d'≠1/\iv P false (Rl K (some i)) xq (gq P K aL Post kd i (S.th i) (S.eV i) (λ_=>0) d') r' ⟨S.own (K.base+i),deafBehind (Deaf t (K.base+i)) es⟩ g' w'):=by
  rcases u with⟨h,q,c⟩|⟨h,c⟩
  .exact⟨_,.inl ⟨h,q,rfl,c⟩⟩
  .have⟨r,Y⟩:=c.u1;exact⟨r,.inr ⟨h,Y⟩⟩
 let S':Sys:={S with D:=upd S.D i d',a4:=l,c6:=b,au:=upd S.au (K.base+i) r'}
 have O:S'.au (K.base+i)=r':=upd_same _ _ _;have Q:S'.D i=d':=upd_same _ _ _;have Z:cQ K.n S'<cQ K.n S:=by
  have ay:cQ K.n S'=phi K.n (Vc S.j (upd S.D i d')) S.tag+sumTo S.j (λa=>upd S.D i d' a+aS.ca (S.th a))+2*S.x.m:=rfl;have aF:cQ K.n S=phi K.n (Vc S.j S.D) S.tag+sumTo S.j (λa=>S.D a+aS.ca (S.th a))+2*S.x.m:=rfl;have ie:=Xx af S.D S.th d';have fq:=HL af S.D d';have l8:cnt d'<=cnt (S.D i):=(by unfold cnt;split<;>split<;>omega);have h9:=phi_mono K.n (v:=Vc S.j S.D) (v':=Vc S.j (upd S.D i d')) U S.tag;omega
 have z:g'.status=.running\/g'.status=.finished:=by
  rcases y with⟨_,q,_,c⟩|⟨_,c⟩
  .exact c.status
  .exact .inl (c.running (hZ K (some i)) λ_ _ _=>gq.running)
 refine xw (jn:=some i) d (λk e=>by cases e;exact af) aa az (g':=g') (w':=w') (es:=es) (by simp only[bt];rw[W];exact B) V (S':=S') {j:=rfl,f:=rfl,own:=rfl,fZ:=λk hk=>⟨rfl,upd_ne _ _ (λe=>hk (by rw[e])),rfl⟩,au:=λa8 J=>upd_ne _ _ J,m:=.inl Z,tag:=.inr rfl,mM:=λe=>(by cases e),mN:=λk e=> ?_,mO:=.inr F,mP:=.inl (bh _),wg:=E,mode:=o,dL:=aa.dL,aT:=aa.aT.keep C,dv:=aa.dv,fit:=aa.fit,out:=λk e _=>(by cases e;exact ap),eX:=λk e=>(by cases e;rw[Q];omega),did:=λ_ _=>rfl,ur:=λ_ _=>Iff.rfl,aH:=λe L=> ?_,rel:=λk e hk=> ?_,fin:=λe=>absurd (show S.tag=.fin from e) X}
 .cases e;refine⟨?_,λe=>by rcases z with h|h<;>rw[h]at e<;>cases e⟩;unfold WSit;rw[Q];rcases y with⟨h,q,c,bO⟩|⟨h,M⟩
  .rw[aV h,O];exact⟨q,c,bO⟩
  .rw[aC h,O];refine⟨λ_=>0,λe=>(by rw[show S'.th i=S.th i from rfl,ap]at e;cases e),λe=>absurd e U,.inl ?_⟩;show iv _ _ _ (nh K i d') _ _ _ _ _
   unfold nh;rw[aC U];exact M
 .rcases p e L with rfl|rfl|⟨a,x,rfl,N⟩
  .exact .mark trivial
  .exact .mark trivial
  .exact .word (.inl (N▸bS.cell a))
 .cases e;refine⟨A,λj e L=> ?_⟩;have R:=sE L;rcases G e R with h|h
  .exact .inl h
  .rcases p e R with rfl|rfl|⟨a,x,rfl,N⟩
   .exact .inl rfl
   .exact .inl rfl
   .exact .inr ⟨⟨a,x,rfl,N⟩,s h j⟩
def Dt{es:bI}(h:∀e∈es,e.loc≠.mark .enable){d:Nat}(hd:0<d)(j:Nat):0<deafBehind d (es.extract 0 j):=by
 have a:∀(l:List Event)(d:Nat),0<d->(∀e∈l,e.loc≠.mark .enable)->0<deafBehind d l.toArray:=by
  intro l;induction l with
  |nil=>intro d hd _;simpa[deafBehind]using hd
  |cons e l c=>
   intro d hd b;have:=b e ag;rw[show(e::l).toArray= #[e]++l.toArray by simp];unfold deafBehind;rw[Array.foldl_append];refine c _ ?_ λx f=>b x (by simp[f]);show 0< (match e.loc with| .mark .disable=>d+1| .mark .enable=>d - 1|_=>d)
   split
   .omega
   .exact absurd ‹_› this
   .exact hd
 have:=a (es.extract 0 j).toList d hd λe g=>h e ((Array.mem_extract_iff_getElem.1 (Array.mem_toList_iff.1 g)).elim λk ⟨hk,i⟩=>i▸Du _);rw[Array.toArray_toList]at this;exact this
def XA{j:Nat}{D:Nat->Nat}{tag:j8}{c d:Int}(h:Mode j D tag c d){i:Nat}(af:i<j)(hd:5<=D i): (isOpen tag/\d=0/\c=((Vc j D+pend tag:Nat):Int)*KK/\(∀i,i<j->D i=7\/D i=6\/D i=5\/D i=1)/\∀vs,tag=.w2 vs->Vc j D<=vs/\1<=vs)\/(tag=.w3/\d=0/\c=((Vc j D:Nat):Int)*KK+1/\(∀i,i<j->D i=7\/D i=6\/D i=5\/D i=1)/\1<=Vc j D):=by
 cases h with
 |opn a b f=>exact .inl ⟨a,rfl,rfl,b,f⟩
 |reg a b=>exact .inr ⟨rfl,rfl,rfl,a,b⟩
 |last L a b f=>
  exfalso;by_cases e:i=L
  .subst e;omega
  .have:=f i af e;omega
 |sema h=>have:=h i af;omega
 |fin _ h=>have:=h i af;omega
def XB{j:Nat}{D:Nat->Nat}{tag:j8}{d f:Int}(h:Mode j D tag d f){i d':Nat}(af:i<j)(hd:5<=D i)(l:d'=6\/d'=5):Mode j (upd D i d') tag d f:=by
 have e:=HL af D d';have ay:cnt (D i)=1:=(by unfold cnt;rw[aV hd]);have aF:cnt d'=1:=(by unfold cnt;rw[aV U]);have aH:Vc j (upd D i d')=Vc j D:=U;have a:(∀k,k<j->D k=7\/D k=6\/D k=5\/D k=1)->∀k,k<j->upd D i d' k=7\/upd D i d' k=6\/upd D i d' k=5\/upd D i d' k=1:=by
  intro h k hk;by_cases g:k=i
  .subst g;rw[upd_same];omega
  .rw[upd_ne _ _ g];exact h k hk
 rcases XA h af hd with⟨m,rfl,rfl,b,c⟩|⟨rfl,rfl,rfl,b,c⟩
 .rw[<-aH];exact .opn m (a b) (by rw[aH];exact c)
 .rw[<-aH];exact .reg (a b) (by rw[aH];exact c)
end
end Go.bG
namespace Go.bG
open Go Go.Conc Go.Ren
open Go.ConcR (KK wgBlock WgAt stA smA rd wr mk DC0)
open Go.ConcM (OsLater)
open Go.aS (Th Sh a6 mv)
open Go.ConcN (sumTo upd upd_same upd_ne sumTo_congr)
def z0{b Wg:Nat}{w:ab}{d c a:Int}(h:WgAt b Wg w d c):WgAt b Wg (w.setCell (stA Wg) (.int .u64 a)) a c:=by
 unfold WgAt wgBlock at h⊢;simp[World.setCell,stA,fA,h]
def XC{b Wg:Nat}{w:ab}{c d a:Int}(h:WgAt b Wg w c d):WgAt b Wg (w.setCell (smA Wg) (.int .u32 a)) c a:=by
 unfold WgAt wgBlock at h⊢;simp[World.setCell,smA,fA,h]
def Ph{j:Nat}{D:Nat->Nat}{tag:j8}{a b:Int}(h:Mode j D tag a b){i:Nat}(af:i<j)(hd:D i=4\/D i=3\/D i=2): tag=.w3/\b=0/\a=(if D i=2 then 0 else 1)/\∀k,k<j->k≠i->D k=1:=by
 cases h with
 |opn _ h=>have:=h i af;omega
 |reg h _=>have:=h i af;omega
 |last L d f c=>
  by_cases e:i=L
  .subst e;exact⟨rfl,rfl,rfl,c⟩
  .have:=c i af e;omega
 |sema h=>have:=h i af;omega
 |fin _ h=>have:=h i af;omega
def Pj{j:Nat}{D:Nat->Nat}{i d':Nat}(af:i<j)(hd:5<=D i)(c:d'<5):Vc j (upd D i d')+1=Vc j D/\∀k,k<j->k≠i->5<=D k->1<=Vc j (upd D i d'):=by
 have e:=HL af D d';have ay:cnt (D i)=1:=(by unfold cnt;rw[aV hd]);have aF:cnt d'=0:=(by unfold cnt;rw[aC U]);refine⟨U,λk hk b d=> ?_⟩;have:=Go.ConcN.le_sumTo (f:=λa=>cnt (upd D i d' a)) hk;rw[upd_ne _ _ b]at this;have g:cnt (D k)=1:=(by unfold cnt;rw[aV d]);unfold Vc;omega
section
variable{P:Program}{K:bj}{aL:bu->Obj->Prop}{Post:Nat->(Nat->Prop)->World->Prop}{kd:Nat->Int}{Anch bl:aM->Goroutine->World->Prop}{Shun:Loc->Prop}{S S':Sys}{gs:Array Goroutine}{w w':World}{t u:Trace}{sl:Option (Nat×Nat)}
def Inv.vc(aa:Inv P K aL Post kd Anch bl Shun S gs w t){a:Addr}{v:ai}(b:a.block=K.Wg):(w.setCell a v).heap[K.bm]? =w.heap[K.bm]? :=(hj.setWg (K:={K with bm:=K.Wg}) w a v b).block _ aa.bM.ne.1.symm aa.bM.ne.1.symm
def s9{Wg:Nat}{es:bI}(h:es= #[rd (stA Wg),wr (stA Wg)]\/es= #[rd (stA Wg)]\/es= #[wr (stA Wg)]):(∀e∈es,e=mk .disable\/e=mk .enable\/∃a x,e=⟨.cell a,x,true⟩/\a.block=Wg)/\(∀e∈es,e.loc≠.mark .enable)/\∀d,deafBehind d es=d:=by
 rcases h with rfl|rfl|rfl
 .refine⟨λe b=> ?_,λe b=> ?_,λd=>by simp[deafBehind,rd,wr]⟩
  .simp at b;rcases b with rfl|rfl
   .exact .inr (.inr ⟨stA Wg,false,rfl,rfl⟩)
   .exact .inr (.inr ⟨stA Wg,true,rfl,rfl⟩)
  .simp at b;rcases b with rfl|rfl<;>simp[rd,wr]
 .refine⟨λe b=> ?_,λe b=> ?_,λd=>by simp[deafBehind,rd]⟩
  .simp at b;subst b;exact .inr (.inr ⟨stA Wg,false,rfl,rfl⟩)
  .simp at b;subst b;simp[rd]
 .refine⟨λe b=> ?_,λe b=> ?_,λd=>by simp[deafBehind,wr]⟩
  .simp at b;subst b;exact .inr (.inr ⟨stA Wg,true,rfl,rfl⟩)
  .simp at b;subst b;simp[wr]
def amn(c:kJ K Post)(V:K.n<=8)(aa:Inv P K aL Post kd Anch bl Shun S gs w t){i:Nat}(af:i<S.j)(p:S.D i<=6){g:aY}{v:bu}(H:gs[K.base+i]? =some g)(a:gq P K aL Post kd i (S.th i) (S.eV i) v (S.D i) ⟨S.own (K.base+i),Deaf t (K.base+i)⟩ g w):mQ P K aL Post kd Anch bl Shun S gs w sl t (K.base+i):=by
 have W:=aa.jn;have L:S.D i=6\/S.D i=5\/S.D i=4\/S.D i=3\/S.D i=2\/S.D i=1:=(by have:=(aa.eX i af).2;omega);have X:=Xy S.j S.D;rcases L with hd|hd|hd|hd|hd|hd
 .rw[hd]at a;obtain⟨b,s,g',l,m,r⟩:=a;change Deaf t (K.base+i)=0 at b;refine xx c aa af p (d':=5) U U H l (.refl w) rfl aa.wg (XB aa.mode af U (.inr rfl)) (.inr (.inl rfl)) (λe u=>by simp at u;exact .inl u) (λe u=>by simp at u;subst u;exact .inl rfl) (λh=>U) (.inr ⟨aE,?_⟩);rw[b];exact Ds r λg w h=>⟨rfl,h⟩
 .rw[hd]at a;obtain⟨b,s,f⟩:=a;change Deaf t (K.base+i)=1 at b;have M:=aa.mode;rcases XA aa.mode af U with⟨y,A,B,z,N⟩|⟨y,A,B,z,N⟩
  .have⟨T,O⟩:=Pj (d':=1) af (show 5<=S.D i by omega) U;have b8:pend S.tag<=1:=(by unfold pend;split<;>omega);have d:WgAt K.cW K.Wg w ((((Vc S.j S.D+pend S.tag - 1:Nat):Int)+1)*KK+ ((0:Nat):Int)) 0:=by
    have:=aa.wg;rw[A,B]at this;have e:((Vc S.j S.D+pend S.tag:Nat):Int)*KK=(((Vc S.j S.D+pend S.tag - 1:Nat):Int)+1)*KK+ ((0:Nat):Int):=(by simp only[KK];omega);rw[e]at this;exact this
   have⟨g',l,_,x⟩:=f _ 0 U U d;have⟨q,x⟩:=x U;have⟨E,F,G⟩:=s9 (Wg:=K.Wg) (.inl rfl);refine xx c aa af p (d':=1) U U H l (hj.setWg w _ _ rfl) (aa.vc rfl) (z0 d) ?_ (.inl rfl) E (λe u=>.inr U) (λh=>Dt F h) (.inl ⟨rfl,q,by rw[G,b];exact x⟩);have e:((Vc S.j S.D+pend S.tag - 1:Nat):Int)*KK+ ((0:Nat):Int)=((Vc S.j (upd S.D i 1)+pend S.tag:Nat):Int)*KK:=(by simp only[KK];omega);rw[e];refine .opn y (λk hk=> ?_) λvs e=>⟨by have:=(N vs e).1;omega,(N vs e).2⟩;by_cases C:k=i
   .subst C;rw[upd_same];omega
   .rw[upd_ne _ _ C];exact z k hk
  .have d:WgAt K.cW K.Wg w ((((Vc S.j S.D - 1:Nat):Int)+1)*KK+ ((1:Nat):Int)) 0:=by
    have:=aa.wg;rw[A,B]at this;have e:((Vc S.j S.D:Nat):Int)*KK+1=(((Vc S.j S.D - 1:Nat):Int)+1)*KK+ ((1:Nat):Int):=(by simp only[KK];omega);rw[e]at this;exact this
   have⟨g',l,Y,x⟩:=f _ 1 U U d;have⟨E,F,G⟩:=s9 (Wg:=K.Wg) (.inl rfl);by_cases J:Vc S.j S.D - 1=0
   .have⟨T,O⟩:=Pj (d':=4) af (show 5<=S.D i by omega) U;have⟨m,r⟩:=Y ⟨J,rfl⟩;refine xx c aa af p (d':=4) U U H l (hj.setWg w _ _ rfl) (aa.vc rfl) (z0 d) ?_ (.inl rfl) E (λe u=>.inr U) (λh=>Dt F h) (.inr ⟨aE,?_⟩)
    .rw[y];have e:((Vc S.j S.D - 1:Nat):Int)*KK+ ((1:Nat):Int)=(if upd S.D i 4 i=2 then 0 else 1):=(by rw[upd_same,aC aE,J];simp);rw[e];refine .last i af (by rw[upd_same];omega) λk hk o=> ?_;rw[upd_ne _ _ o];have Z:=z k hk;have:¬5<=S.D k:=λh=>(by have:=O k hk o h;omega);omega
    .rw[G,b];exact Ds r λg w h=>⟨rfl,h⟩
   .have⟨T,O⟩:=Pj (d':=1) af (show 5<=S.D i by omega) U;have⟨q,x⟩:=x U;refine xx c aa af p (d':=1) U U H l (hj.setWg w _ _ rfl) (aa.vc rfl) (z0 d) ?_ (.inl rfl) E (λe u=>.inr U) (λh=>Dt F h) (.inl ⟨rfl,q,by rw[G,b];exact x⟩);rw[y];have e:((Vc S.j S.D - 1:Nat):Int)*KK+ ((1:Nat):Int)=((Vc S.j (upd S.D i 1):Nat):Int)*KK+1:=(by simp only[KK];omega);rw[e];refine .reg (λk hk=> ?_) U;by_cases C:k=i
    .subst C;rw[upd_same];omega
    .rw[upd_ne _ _ C];exact z k hk
 .rw[hd]at a;obtain⟨b,s,f⟩:=a;change Deaf t (K.base+i)=1 at b;have⟨y,A,B,z⟩:=Ph aa.mode af (.inl hd);have d:WgAt K.cW K.Wg w 1 0:=(by have:=aa.wg;rw[A,B,aC U]at this;exact this);have⟨g',l,m,r⟩:=f d;have⟨E,F,G⟩:=s9 (Wg:=K.Wg) (.inr (.inl rfl));refine xx c aa af p (d':=3) U U H l (.refl w) rfl d ?_ (.inl rfl) E (λe u=>.inr U) (λh=>Dt F h) (.inr ⟨aE,?_⟩)
  .rw[y];have e:(1:Int)=(if upd S.D i 3 i=2 then 0 else 1):=(by rw[upd_same,aC aE]);rw[e];exact .last i af (by rw[upd_same];omega) λk hk o=>by rw[upd_ne _ _ o];exact z k hk o
  .rw[G,b];exact Ds r λg w h=>⟨rfl,h⟩
 .rw[hd]at a;obtain⟨b,s,f⟩:=a;change Deaf t (K.base+i)=1 at b;have⟨y,A,B,z⟩:=Ph aa.mode af (.inr (.inl hd));have d:WgAt K.cW K.Wg w 1 0:=(by have:=aa.wg;rw[A,B,aC U]at this;exact this);have⟨g',l,m,r⟩:=f d;have⟨E,F,G⟩:=s9 (Wg:=K.Wg) (.inr (.inr rfl));refine xx c aa af p (d':=2) U U H l (hj.setWg w _ _ rfl) (aa.vc rfl) (z0 d) ?_ (.inl rfl) E (λe u=>.inr U) (λh=>Dt F h) (.inr ⟨aE,?_⟩)
  .rw[y];have e:(0:Int)=(if upd S.D i 2 i=2 then 0 else 1):=(by rw[upd_same,aV rfl]);have az:=Mode.last (j:=S.j) (D:=upd S.D i 2) i af (by rw[upd_same];omega) λk hk o=>(by rw[upd_ne _ _ o];exact z k hk o);rw[<-e]at az;exact az
  .rw[G,b];exact Ds r λg w h=>⟨rfl,h⟩
 .rw[hd]at a;obtain⟨b,s,Q,f⟩:=a;change Deaf t (K.base+i)=1 at b;have⟨y,A,B,z⟩:=Ph aa.mode af (.inr (.inr hd));have d:WgAt K.cW K.Wg w 0 0:=(by have:=aa.wg;rw[A,B,aV hd]at this;exact this);have⟨g',l,q,x⟩:=f d;have R:g'.status=.running:=by
   cases q with
   |zero=>have:=x.2;omega
   |succ q=>
    rcases x with⟨_,h⟩|⟨h,_⟩
    .omega
    .exact h
  refine xx c aa af p (d':=1) U U H l (hj.setWg w _ _ rfl) (aa.vc rfl) (XC d) ?_ (.inr (.inr ⟨Q,R⟩)) (λe u=> ?_) (λe u=>.inr U) (λh k=> ?_) (.inl ⟨rfl,q,by rw[b];exact x⟩)
  .rw[y];refine .sema λk hk=> ?_;by_cases C:k=i
   .subst C;exact upd_same _ _ _
   .rw[upd_ne _ _ C];exact z k hk C
  .simp[semEvents]at u;rcases u with rfl|rfl|rfl|rfl
   .exact .inl rfl
   .exact .inr (.inr ⟨_,_,rfl,rfl⟩)
   .exact .inr (.inr ⟨_,_,rfl,rfl⟩)
   .exact .inr (.inl rfl)
  .rw[b];have:k=0\/k=1\/k=2\/k=3\/4<=k:=U;rcases this with rfl|rfl|rfl|rfl|hk
   .simp[semEvents,deafBehind]
   .simp[semEvents,deafBehind]
   .simp[semEvents,deafBehind]
   .simp[semEvents,deafBehind]
   .have:(semEvents (smA K.Wg)).extract 0 k=semEvents (smA K.Wg):=(by rw[Array.extract_eq_self_of_le (by simpa[semEvents]using hk)]);rw[this];simp[semEvents,deafBehind]
 .rw[hd]at a;exact a.elim
end
end Go.bG
namespace Go.bG
open Go Go.Conc Go.Ren
open Go.ConcR (KK wgBlock WgAt stA smA rd wr mk DC0)
open Go.ConcM (OsLater)
open Go.aS (Th Sh a6 mv)
open Go.ConcN (sumTo upd upd_same upd_ne sumTo_congr)
section
variable{P:Program}{K:bj}{aL:bu->Obj->Prop}{Post:Nat->(Nat->Prop)->World->Prop}{kd:Nat->Int}{Anch bl:aM->Goroutine->World->Prop}{Shun:Loc->Prop}{S S':Sys}{gs:Array Goroutine}{w w':World}{t u:Trace}{sl:Option (Nat×Nat)}
def amo(c:kJ K Post)(aa:Inv P K aL Post kd Anch bl Shun S gs w t){i:Nat}(af:i<S.j)(hd:S.D i=7)(ap:(S.th i).pc=.out){g:aY}(Y:gs[K.base+i]? =some g)(d:u5 P K Post i ⟨S.own (K.base+i),Deaf t (K.base+i)⟩ g w):mQ P K aL Post kd Anch bl Shun S gs w sl t (K.base+i):=by
 have cz:(K.base+i==0)=false:=(by have:=aa.jI;simp;omega);have T:∀k,some i=some k->k<S.j:=λk e=>(by cases e;exact af);have zY:S.tag≠.fin:=HN aa af (by rw[hd];decide);obtain⟨l,o,v,az,_,g',B,m,C⟩:=d;change Deaf t (K.base+i)=0 at l;have u:Deaf (t++MemOp.ofEvents (K.base+i) g.frame.fn g.frame.place #[mk (.releaseMerge (stA K.Wg))]) (K.base+i)=0:=(by rw[Deaf_own,l];simp[deafBehind,mk]);have⟨r',y⟩:=(Ds (Q:=gq P K aL Post kd i (S.th i) (S.eV i) (λ_=>0) 6) (s:=⟨S.own (K.base+i),0⟩) C λg w h=>⟨rfl,h⟩).u1;let S':Sys:={S with D:=upd S.D i 6,au:=upd S.au (K.base+i) r'}
 have xu:S'.au (K.base+i)=r':=upd_same _ _ _;have V:S'.D i=6:=upd_same _ _ _;have W:cQ K.n S'<cQ K.n S:=by
  have ay:cQ K.n S'=phi K.n (Vc S.j (upd S.D i 6)) S.tag+sumTo S.j (λa=>upd S.D i 6 a+aS.ca (S.th a))+2*S.x.m:=rfl;have aF:cQ K.n S=phi K.n (Vc S.j S.D) S.tag+sumTo S.j (λa=>S.D a+aS.ca (S.th a))+2*S.x.m:=rfl;have ie:=Xx af S.D S.th 6;have fq:=HL af S.D 6;have l8:cnt 6=1/\cnt (S.D i)=1:=(by rw[hd];exact⟨rfl,rfl⟩);have h9:=phi_mono K.n (v:=Vc S.j S.D) (v':=Vc S.j (upd S.D i 6)) U S.tag;omega
 have z:zO K (some i) (S.own (K.base+i)) (.releaseMerge (stA K.Wg)):=.inr (.inl rfl);have E:g'.status=.running:=y.running (hZ K (some i)) λ_ _ _=>gq.running;have F:K.bb≠K.Wg/\K.bb≠K.bm:=⟨aa.bM.ne.2.1.symm,aa.bM.ne.2.2.1.symm⟩;have Z:Stepped P K aL Post kd Anch bl Shun (some i) S S' g g' w w t (t++MemOp.ofEvents (K.base+i) g.frame.fn g.frame.place #[mk (.releaseMerge (stA K.Wg))]):=by
  refine{j:=rfl,fZ:=λk hk=>⟨rfl,upd_ne _ _ (λe=>hk (by rw[e])),rfl⟩,au:=λq G=>⟨upd_ne _ _ G,rfl⟩,m:=.inl W,f:=λ_ _ _ _=>rfl,tag:=.inr rfl,own:=λb H=>.inl H,mM:=λe=>(by cases e),mN:=λk e=> ?_,mO:=.inr (.inr (.inl rfl)),mP:=.inl (bh _),wg:=aa.wg,mode:=XB aa.mode af U (.inl rfl),dL:=aa.dL,aT:=aa.aT,dv:=aa.dv,fit:=aa.fit,out:=λk e _=>(by cases e;exact ap),eX:=λk e=>(by cases e;rw[V];omega),map:=aa.map,h4:=aa.h4,aG:=λk e=>(by cases e;exact⟨aa.aG i af,aa.rI i af⟩),gR:=λe=>(by cases e),hi:=O6 aa af z rfl (λ_ _=>rfl) λb H=>.inl H,hG:=aa.hG.app (j7.evs (j:=some i) (own:=S.own (K.base+i)) λe X=>by simp at X;subst X;exact .mark z),deaf:=λq G=>Deaf_other t (ed G) _ iz,kI:=λJ p a L bO=>(aa.kI J p a (Dg rfl L) bO).app _,to:=zW (jn:=some i) aa T iz (λk _ cJ=>upd_ne _ _ (λe=>cJ (by rw[e]))) λk e _=>.inr λq a A L hm=> ?_,post:=λk e _=>(by cases e;exact o),acq:=λe=>absurd (show S.tag=.fin from e) zY}
  .cases e;refine⟨?_,λe=>by rw[E]at e;cases e⟩;unfold WSit;rw[V,aC aE,xu,u];refine⟨λ_=>0,λe=>(by rw[show S'.th i=S.th i from rfl,ap]at e;cases e),λe=>(by cases e),.inl ?_⟩;show iv _ _ _ (nh K i 6) _ _ _ _ _
   unfold nh;rw[aC aE];exact y
  .cases e;have M:=Dg (m:=.releaseMerge (stA K.Wg)) rfl L;have⟨x,N,_⟩:=touch_of M;have O:=lt_size_of_getElem? N;have R:x.g=K.base+i:=by
    rw[g?_old O]at A;simpa[Trace.g?,N]using A
   have:=knows_own N;rw[R]at this;exact ng.said this l
 have r:=aa.step c T (s:=⟨S.own (K.base+i),0⟩) (s':=⟨S.own (K.base+i),0⟩) rfl ((hj.refl (K:=K) w).an F ⟨_,_,aa.wg⟩ ⟨_,aa.aT⟩) Z;exact⟨S',_,w,_,runT_crowd_go Y (by rw[cz];exact B),r,vb ag (.inl W)⟩
def qF(b:kJ K Post)(aa:Inv P K aL Post kd Anch bl Shun S gs w t){tag':j8}(y:phi K.n (Vc S.j S.D) tag'<phi K.n (Vc S.j S.D) S.tag)(i:tag'≠.fin){g g':aY}{es:bI}{c d:Int}(z:gs[0]? =some g)(p:stepG P true g w=.go g' w' es)(A:hj K w w')(q:w'.heap[K.bm]? =w.heap[K.bm]?)(r:WgAt K.cW K.Wg w' c d)(h:Mode S.j S.D tag' c d)(s:started K.n S.j tag')(u:∀e∈es,e=mk .disable\/e=mk .enable\/∃a x,e=⟨.cell a,x,true⟩/\a.block=K.Wg)(l:a7 P true (Rl K none) (e7 K none) (hA P K aL Post kd Anch bl tag') ⟨S.own 0,deafBehind (Deaf t 0) es⟩ g' w'):mQ P K aL Post kd Anch bl Shun S gs w sl t 0:=by
 have⟨r',o⟩:=l.u1;let S':Sys:={S with tag:=tag',a4:=c,c6:=d,au:=upd S.au 0 r'}
 have B:S'.au 0=r':=upd_same S.au 0 r';have C:cQ K.n S'<cQ K.n S:=by
  have ay:cQ K.n S'=phi K.n (Vc S.j S.D) tag'+sumTo S.j (λa=>S.D a+aS.ca (S.th a))+2*S.x.m:=rfl;have aF:cQ K.n S=phi K.n (Vc S.j S.D) S.tag+sumTo S.j (λa=>S.D a+aS.ca (S.th a))+2*S.x.m:=rfl;omega
 refine xw (jn:=none) b (λk e=>by cases e) aa z (g':=g') (w':=w') (es:=es) p A (S':=S') {j:=rfl,f:=rfl,own:=rfl,fZ:=λk hk=>⟨rfl,rfl,rfl⟩,au:=λa8 v=>upd_ne _ _ v,m:=.inl C,tag:=.inl rfl,mM:=λ_=> ?_,mN:=λk e=>(by cases e),mO:=.inl rfl,mP:=.inl (bh _),wg:=r,mode:=h,dL:=s,aT:=aa.aT.keep q,dv:=aa.dv,fit:=aa.fit,out:=λk e=>(by cases e),eX:=λk e=>(by cases e),did:=λ_ _=>rfl,ur:=λ_ _=>Iff.rfl,aH:=λe E=> ?_,rel:=λk e=>(by cases e),fin:=λe=>absurd e i}
 .refine⟨?_,λe=>by rw[o.running (hZ K none) λ_ _ _=>hA.running]at e;cases e⟩;rw[B];exact .inl o
 .rcases u e E with rfl|rfl|⟨a,x,rfl,F⟩
  .exact .mark trivial
  .exact .mark trivial
  .exact .word (.inl (F▸bS.cell a))
def amp(hPost:kJ K Post)(aa:Inv P K aL Post kd Anch bl Shun S gs w t)(gu:S.tag=.acq)(hAnch:∀s g w,Anch s g w->g.status=.running){g:aY}(cC:gs[0]? =some g)(bw:OG P K Anch ⟨S.own 0,Deaf t 0⟩ g w):mQ P K aL Post kd Anch bl Shun S gs w sl t 0:=by
 obtain⟨O7,zZ,g',eA,Bj⟩:=bw;change Deaf t 0=0 at zZ;have Jw:(∀i,i<S.j->S.D i=1)/\S.a4=0/\S.c6=0:=by
  have hm:=aa.mode;rw[gu]at hm;generalize S.a4=a at hm;generalize S.c6=b at hm;cases hm with
  |opn h=>exact h.elim
  |fin _ h=>exact⟨h,rfl,rfl⟩
 have hdf':Deaf (t++MemOp.ofEvents 0 g.frame.fn g.frame.place #[mk (.acquire (stA K.Wg))]) 0=0:=(by rw[Deaf_own,zZ];simp[deafBehind,mk]);obtain⟨r',Pb⟩:=(Bj.mono (Stop':=hA P K aL Post kd Anch bl .fin) (λ_ _ _ h=>h) (λ_ _ _ _ _ h=>h) λs g w h=>⟨h,hAnch s g w h⟩).u1;let S':Sys:={S with tag:=.fin,au:=upd S.au 0 r'}
 have xu:S'.au 0=r':=upd_same S.au 0 r';have iQ:cQ K.n S'<cQ K.n S:=by
  have ay:cQ K.n S'=1+sumTo S.j (λa=>S.D a+aS.ca (S.th a))+2*S.x.m:=rfl;have aF:cQ K.n S=phi K.n (Vc S.j S.D) S.tag+sumTo S.j (λa=>S.D a+aS.ca (S.th a))+2*S.x.m:=rfl;rw[gu]at aF;simp only[phi]at aF;omega
 have Dr:zO K none (S.own 0) (.acquire (stA K.Wg)):=.inr (.inl rfl);have BU:∀e∈#[mk (.acquire (stA K.Wg))],EvA K none (S.own 0) e:=λe he=>(by simp at he;subst he;exact .mark Dr);have yE:g'.status=.running:=Pb.running (hZ K none) λ_ _ _=>hA.running;have fp:K.bb≠K.Wg/\K.bb≠K.bm:=⟨aa.bM.ne.2.1.symm,aa.bM.ne.2.2.1.symm⟩;have Pf:gA K (eW K S) S'.own (n6 K S) w.heap.size (t++MemOp.ofEvents 0 g.frame.fn g.frame.place #[mk (.acquire (stA K.Wg))]):=HH (w':=w) (S':=S') (jn:=none) aa (λk e=>by cases e) (bh _) (λ_ _=>rfl) (λb hb=>.inl hb) BU;have nZ:pA K Shun S.j (λk=>S.D k<=6) (t++MemOp.ofEvents 0 g.frame.fn g.frame.place #[mk (.acquire (stA K.Wg))]):=zW (S':=S') (jn:=none) aa (λk e=>by cases e) iz (λ_ _ _=>rfl) λk e=>(by cases e);have htj:started K.n S.j .fin:=(by have:=aa.dL;rw[gu]at this;exact this);have Z:Stepped P K aL Post kd Anch bl Shun none S S' g g' w w t (t++MemOp.ofEvents 0 g.frame.fn g.frame.place #[mk (.acquire (stA K.Wg))]):=by
  refine{j:=rfl,fZ:=λk hk=>⟨rfl,rfl,rfl⟩,au:=λq b9=>⟨upd_ne _ _ b9,rfl⟩,m:=.inl iQ,f:=λ_ _ _ _=>rfl,tag:=.inl rfl,own:=λb hb=>.inl hb,mM:=λ_=> ?_,mN:=λk e=>(by cases e),mO:=.inl rfl,mP:=.inl (bh _),wg:=aa.wg,mode:=by rw[show S'.a4=0 from Jw.2.1,show S'.c6=0 from Jw.2.2];exact .fin trivial Jw.1,dL:=htj,aT:=aa.aT,dv:=aa.dv,fit:=aa.fit,out:=λk e=>(by cases e),eX:=λk e=>(by cases e),map:=aa.map,h4:=aa.h4,aG:=λk e=>(by cases e),gR:=λ_=>aa.gR,hi:=Pf,hG:=aa.hG.app (j7.evs BU),deaf:=λq b9=>Deaf_other t (ed b9) _ iz,kI:=λPg p a e1 bO=>(aa.kI Pg p a (Dg rfl e1) bO).app _,to:=nZ,post:=λk e=>(by cases e),acq:=λ_=> ?_}
  .refine⟨?_,λe=>by rw[yE]at e;cases e⟩;rw[xu,hdf'];refine .inl ?_;have e:(⟨S'.own 0,0⟩:aM)=⟨S.own 0,Deaf t 0⟩:=(by rw[zZ]);rw[e];exact Pb
  ·
   have hk:∀i,ng t ⟨K.Wg,0,none⟩ i->Knows (t++MemOp.ofEvents 0 g.frame.fn g.frame.place #[mk (.acquire (stA K.Wg))]) 0 i:=λi h=>h.dG aa.hG zZ;refine nZ.done (λk hk=>by have:=Jw.1 k hk;omega) λi h=> ?_;obtain⟨r,dA,c9,gg⟩:=h;have cl:r<t.size:=by
    have:=lt_of_act? dA;rw[ofEvents_mk]at this;simp at this;rcases dH r t.size with h|h
    .exact h
    .obtain rfl:r=t.size:=U;rw[ofEvents_mk,act?_of (Df _)]at dA;cases dA
   refine Knows.of_before gg (hk r ⟨r,by rw[<-act?_old (u:=MemOp.ofEvents 0 g.frame.fn g.frame.place #[mk (.acquire (stA K.Wg))]) cl];exact dA,(heard_old cl).1 c9,.inl rfl⟩)
 have hstep:=aa.step hPost (jn:=none) (λk e=>by cases e) (s:=⟨S.own 0,0⟩) (s':=⟨S.own 0,0⟩) rfl ((hj.refl (K:=K) w).an fp ⟨_,_,aa.wg⟩ ⟨_,aa.aT⟩) Z;exact⟨S',_,w,_,runT_crowd_go cC eA,hstep,vb ag (.inl iQ)⟩
end
end Go.bG
namespace Go.bG
open Go Go.Conc Go.Ren
open Go.ConcR (KK wgBlock WgAt stA smA rd wr mk DC0)
open Go.ConcM (OsLater)
open Go.aS (Th Sh a6 mv)
open Go.ConcN (sumTo upd upd_same upd_ne sumTo_congr)
def pA.fork{K:bj}{Shun:Loc->Prop}{j:Nat}{rel Dh:Nat->Prop}{t u:Trace}(h:pA K Shun j rel t)(w:∀op∈u,op.act.touch? =none)(x:∀k,k<j+1->Dh k->k<j/\rel k):pA K Shun (j+1) Dh (t++u):=by
 have old:∀{i:Nat}{a:Touch},touchAt (t++u) i=some a->i<t.size/\touchAt t i=some a:=by
  intro i a c;have⟨z,l,d⟩:=touch_of c;rcases getElem?_append_cases l with⟨af,m⟩|⟨_,n⟩
  .exact⟨af,by rw[touchAt_of m];exact d⟩
  .rw[w z n]at d;cases d
 refine⟨λi a c o=> ?_,λi q y p hk g=> ?_,λk hk r i a A c o=> ?_⟩
 .have⟨af,e⟩:=old c;rcases h.old i a e o with⟨k,b,f⟩|b|b
  .exact .inl ⟨k,U,by rw[g?_old af];exact f⟩
  .exact .inr (.inl (b.app _))
  .exact .inr (.inr b)
 .have⟨a,c,_⟩:=id g;have⟨af,_⟩:=old c;have⟨a8,b,f⟩:=h.over i q (by rw[<-g?_old (u:=u) af];exact y) p (λk B=>hk k U) ((counts_old af).1 g);have s:a8<t.size:=by
   have⟨z,l,_⟩:=rr.1 b;exact lt_size_of_getElem? l
  exact⟨a8,by rw[g?_old s];exact b,hb_app u f⟩
 .have⟨af,e⟩:=old c;have⟨b,f⟩:=x k hk r;rcases h.rel k b f i a (by rw[<-g?_old (u:=u) af];exact A) e o with v|⟨v,C,D⟩
  .exact .inl (v.app _)
  .exact .inr ⟨v,C,λg=>D ((counts_old af).1 g)⟩
def qG:Nat->j8
 |0=>.kd
 |r+1=>.s7 r
section
variable{P:Program}{K:bj}{aL:bu->Obj->Prop}{Post:Nat->(Nat->Prop)->World->Prop}{kd:Nat->Int}{Anch bl:aM->Goroutine->World->Prop}{Shun:Loc->Prop}{S S':Sys}{gs:Array Goroutine}{w w':World}{t u:Trace}{sl:Option (Nat×Nat)}
def amq{r:Nat}{s:aM}{g:aY}(h:mJ P K aL Post kd bl r s g w):a7 P true (Rl K none) (e7 K none) (hA P K aL Post kd Anch bl (qG r)) s g w:=by cases r<;>exact h
def go_step(aa:Inv P K aL Post kd Anch bl Shun S gs w t){r:Nat}(A:S.tag=.go r){g:aY}(cC:gs[0]? =some g)(bw:zS P K aL Post kd (K.n - (r+1)) (mJ P K aL Post kd bl r) ⟨S.own 0,Deaf t 0⟩ g w):mQ P K aL Post kd Anch bl Shun S gs w sl t 0:=by
 obtain⟨O7,E,g',child,O,eA,Lp,J,s,Q⟩:=bw;change Deaf t 0=0 at E;change∀b,O b->S.own 0 b at J;have Y:=aa.dL;rw[A]at Y;change S.j+ (r+1)=K.n at Y;have amr:K.n - (r+1)=S.j:=U;rw[amr]at s;have hb:=aa.jI;have Z:=aa.size;have cz:(0:Nat)<gs.size:=U;have gr:S.th S.j={pc:=.ld}:=aa.xr S.j (bh _);have⟨iL,XD⟩:=(amq (Anch:=Anch) Q).u1;let HO:=303*cQ K.n S+400
 have⟨rA,ams⟩:=(s aa.pay ⟨_,_,aa.wg⟩ ⟨_,aa.aT⟩ HO).u1;let S':Sys:={S with j:=S.j+1,D:=upd S.D S.j 7,eV:=upd S.eV S.j HO,tag:=qG r,own:=upd (upd S.own 0 λb=>S.own 0 b/\¬O b) (K.base+S.j) O,au:=upd (upd S.au 0 iL) (K.base+S.j) rA}
 have cg:(0:Nat)≠K.base+S.j:=U;have F:S'.own 0=λb=>S.own 0 b/\¬O b:=(upd_ne _ _ cg).trans (upd_same S.own 0 _);have L:S'.own (K.base+S.j)=O:=upd_same _ _ _;have B:∀q,q≠0->q≠K.base+S.j->S'.own q=S.own q:=λq p v=>(upd_ne _ _ v).trans (upd_ne S.own _ p);have t0:S'.au 0=iL:=(upd_ne _ _ cg).trans (upd_same S.au 0 _);have dL:S'.au (K.base+S.j)=rA:=upd_same _ _ _;have yK:∀q,q≠0->q≠K.base+S.j->S'.au q=S.au q:=λq p v=>(upd_ne _ _ v).trans (upd_ne S.au _ p);have Dv:∀k,k≠S.j->S'.D k=S.D k:=λk hk=>upd_ne _ _ hk;have C:S'.D S.j=7:=upd_same _ _ _;have iQ:cQ K.n S'<cQ K.n S:=by
  have ay:cQ K.n S'=phi K.n (Vc (S.j+1) (upd S.D S.j 7)) (qG r)+ (sumTo S.j (λa=>upd S.D S.j 7 a+aS.ca (S.th a))+ (upd S.D S.j 7 S.j+aS.ca (S.th S.j)))+2*S.x.m:=rfl;have aF:cQ K.n S=phi K.n (Vc S.j S.D) S.tag+sumTo S.j (λa=>S.D a+aS.ca (S.th a))+2*S.x.m:=rfl;rw[A]at aF;have c:sumTo S.j (λa=>upd S.D S.j 7 a+aS.ca (S.th a))=sumTo S.j (λa=>S.D a+aS.ca (S.th a)):=sumTo_congr λa G=>(by rw[upd_ne _ _ U]);rw[c,upd_same,gr]at ay;have fq:aS.ca {pc:=aS.Pc.ld}=8:=rfl;rw[fq]at ay;have l8:phi K.n (Vc (S.j+1) (upd S.D S.j 7)) (qG r)+30<=phi K.n (Vc S.j S.D) (.go r):=(by cases r<;>simp only[phi,qG]<;>omega);omega
 have g8:∀q,eW K S' q->eW K S q\/q=K.base+S.j:=by
  rintro q(rfl|⟨k,hk,rfl⟩)
  .exact .inl (.inl rfl)
  .have yP:k<S.j+1:=hk;rcases dH k S.j with h|h
   .exact .inl (.inr ⟨k,h,rfl⟩)
   .exact .inr U
 have avS:∀q,eW K S q->q≠K.base+S.j:=(by rintro q(rfl|⟨k,hk,rfl⟩)<;>omega);have yH:(#[]:Array MemOp).size=0:=rfl;have R:=runT_crowd_spawn (P:=P) (sl:=sl) (i:=0) cC (w':=w) (g':=g') (child:=child) (es:= #[]) (show stepG P (0==0) g w=_ from eA);let x:MemOp:={g:=0,fn:=g.frame.fn,pos:=g.frame.place,act:=.go gs.size}
 let y:MemOp:={g:=gs.size,fn:=child.frame.fn,pos:=g.frame.place,act:=.start}
 have amt:((MemOp.ofEvents 0 g.frame.fn g.frame.place #[]).push x).push y= #[x,y]:=(by rw[ofEvents_eq];simp);have K7:∀op∈#[x,y],op.act.touch? =none:=by
  intro op o;simp only[zQ,dY,gE,gn]at o;rcases o with rfl|rfl<;>rfl
 have H:∀op∈#[x,y],op.act≠.mark .disable/\op.act≠.mark .enable:=by
  intro op o;simp only[zQ,dY,gE,gn]at o;rcases o with rfl|rfl<;>exact⟨by simp[x,y],by simp[x,y]⟩
 have d:∀q,Deaf (t++ #[x,y]) q=Deaf t q:=λq=>Go.ConcN.Deaf_still t q _ H;have old:∀{i:Nat}{a:Touch},touchAt (t++ #[x,y]) i=some a->touchAt t i=some a:=by
  intro i a G;have⟨z,dw,T⟩:=touch_of G;rcases getElem?_append_cases dw with⟨_,amu⟩|⟨_,amv⟩
  .rw[touchAt_of amu];exact T
  .rw[K7 z amv]at T;cases T
 have u:gs.size=K.base+S.j:=Z;have wh:Hn K (eW K S') S'.own:=by
  refine⟨λq a8 b p v l M=> ?_,λq b p l=> ?_,λq b p l=> ?_,aa.bM.rs,aa.bM.ne⟩
  .by_cases ay:q=K.base+S.j<;>by_cases aF:a8=K.base+S.j
   .exact ay.trans aF.symm
   .subst ay;rw[L]at l;by_cases c:a8=0
    .subst c;rw[F]at M;exact absurd l M.2
    .rw[B a8 c aF]at M;exact absurd (aa.bM.one 0 a8 b (.inl rfl) ((g8 a8 v).resolve_right aF) (J b l) M) (ed c)
   .subst aF;rw[L]at M;by_cases c:q=0
    .subst c;rw[F]at l;exact absurd M l.2
    .rw[B q c ay]at l;exact absurd (aa.bM.one q 0 b ((g8 q p).resolve_right ay) (.inl rfl) l (J b M)) c
   .have k:∀q,q≠K.base+S.j->S'.own q b->S.own q b:=λq e h=>by
     by_cases c:q=0
     .subst c;rw[F]at h;exact h.1
     .rw[B q c e]at h;exact h
    exact aa.bM.one q a8 b ((g8 q p).resolve_right ay) ((g8 a8 v).resolve_right aF) (k q ay l) (k a8 aF M)
  .by_cases ay:q=K.base+S.j
   .subst ay;rw[L]at l;exact aa.bM.ro 0 b (.inl rfl) (J b l)
   .by_cases c:q=0
    .subst c;rw[F]at l;exact aa.bM.ro 0 b (.inl rfl) l.1
    .rw[B q c ay]at l;exact aa.bM.ro q b ((g8 q p).resolve_right ay) l
  .by_cases ay:q=K.base+S.j
   .subst ay;rw[L]at l;exact aa.bM.sh 0 b (.inl rfl) (J b l)
   .by_cases c:q=0
    .subst c;rw[F]at l;exact aa.bM.sh 0 b (.inl rfl) l.1
    .rw[B q c ay]at l;exact aa.bM.sh q b ((g8 q p).resolve_right ay) l
 have N:∀q,q≠0->q<gs.size->((gs.setIfInBounds 0 g').push child)[q]? =gs[q]? :=λq p v=>(by rw[oE,aC a5,vN (ed p)]);have az:((gs.setIfInBounds 0 g').push child)[0]? =some g':=(by rw[oE,aC a5,O3 cz]);have V:((gs.setIfInBounds 0 g').push child)[K.base+S.j]? =some child:=(by rw[oE,aV a5]);have W:Mode S'.j S'.D S'.tag S'.a4 S'.c6:=by
  have hm:=aa.mode;rw[A]at hm;show Mode (S.j+1) (upd S.D S.j 7) (qG r) S.a4 S.c6
  generalize S.a4=a at hm;generalize S.c6=b at hm;cases hm with
  |opn _ v _=>
   have e:Vc S.j S.D+pend (.go r)=Vc (S.j+1) (upd S.D S.j 7)+pend (qG r):=by
    have ay:Vc (S.j+1) (upd S.D S.j 7)=sumTo S.j (λa=>cnt (upd S.D S.j 7 a))+cnt (upd S.D S.j 7 S.j):=rfl;rw[upd_same,sumTo_congr (g:=λa=>cnt (S.D a)) λa G=>by rw[upd_ne _ _ U]]at ay;rw[ay];cases r<;>simp[pend,qG,Vc,cnt]
   rw[e];refine .opn (by cases r<;>trivial) (λk hk=> ?_) λvs e=>(by cases r<;>cases e);by_cases BZ:k=S.j
   .subst BZ;rw[upd_same];omega
   .rw[upd_ne _ _ BZ];exact v k U
  |fin h _=>exact h.elim
 have O5:Inv P K aL Post kd Anch bl Shun S' ((gs.setIfInBounds 0 g').push child) w (t++ #[x,y]):=by
  refine{size:=by simp[Z];show _=K.base+ (S.j+1);omega,jI:=hb,dL:= ?_,main:=⟨g',az,?_,λe=> ?_⟩,wk:=λi af=> ?_,old:=λq p v=> ?_,wg:=aa.wg,mode:=W,aT:=aa.aT,dv:=aa.dv,fit:=aa.fit,xr:=λi af=>aa.xr i (by have:S.j+1<=i:=af;omega),out:=λi af hd=> ?_,eX:=λi af=> ?_,pay:=aa.pay,map:=λh=>aa.map λi af=>h i (by show i<S.j+1;omega),h4:=λq=> ?_,bM:=wh,lt:= ?_,aG:=λi af h=> ?_,rI:=λi af h=> ?_,gR:=by rw[F];exact λh=>aa.gR h.1,hi:= ?_,hG:=aa.hG.app λop o a e=> ?_,rJ:=λq X=> ?_,kI:=λh i a G bO=>(aa.kI (λi af=>h i (by show i<S.j+1;omega)) i a (old G) bO).imp (·.app _) λq g cC=> ?pubf,to:= ?_,post:=λi af hd=> ?_,acq:=λe=> ?_}
  .show started K.n (S.j+1) (qG r)
   cases r<;>simp only[started,qG]<;>omega
  .show Sit _ _ _ _ _ _ _ (S'.au 0) ⟨S'.own 0,_⟩ _ _
   rw[t0,F,d,E];exact .inl XD
  .rw[XD.running (hZ K none) λ_ _ _=>hA.running]at e;cases e
  .have HP:i<S.j+1:=af;by_cases e:i=S.j
   .subst e;refine⟨child,V,?_,λe=>by rw[Lp]at e;cases e⟩;unfold WSit;rw[C,aC aE,dL,L,d,<-u,aa.rJ gs.size (bh _)];refine⟨λ_=>0,λe=>(by rw[show S'.th S.j=S.th S.j from rfl,gr]at e;cases e),λ_ _=> ?_,.inl ?_⟩
    .show 303*cQ K.n S'+_<upd S.eV S.j HO S.j
     rw[upd_same];have:=aS.OD (S'.th S.j) S'.x.x;show _<303*cQ K.n S+400
     omega
    .show iv P false (Rl K (some S.j)) (nh K S.j 7) (gq P K aL Post kd S.j (S.th S.j) (upd S.eV S.j HO S.j) (λ_=>0) 7) rA ⟨O,0⟩ child w
     unfold nh;rw[aV rfl,upd_same,gr];unfold gq;rw[aC ag];exact ams
   .have⟨a,G,amw,tS⟩:=aa.wk i U;refine⟨a,by rw[N _ U U];exact G,?_,tS⟩;rw[d];exact amw.other rfl (Dv i e) (upd_ne _ _ e) (yK _ U U) (B _ U U) (.inl iQ) (λ_=>rfl) (.refl _ _ _ _)
  .have⟨a,G,m,Pb,amx⟩:=aa.old q p v;exact⟨a,by rw[N q U U];exact G,m,by rw[yK q U U];exact Pb,by rw[d];exact amx⟩
  .by_cases e:i=S.j
   .subst e;exact absurd C hd
   .rw[Dv i e]at hd;exact aa.out i (by have:i<S.j+1:=af;omega) hd
  .by_cases e:i=S.j
   .subst e;rw[C];omega
   .rw[Dv i e];exact aa.eX i (by have:i<S.j+1:=af;omega)
  .show S.f q=sumTo S.j _+ (if did (S.th S.j)/\q=kd S.j then 1 else 0)
   rw[gr,aa.h4 q,show did {pc:=.ld}=false from rfl];simp only[ea,false_and,cY,oY];rfl
  .rintro b(⟨q,X,h⟩|h|h)
   .by_cases e:q=K.base+S.j
    .subst e;rw[L]at h;exact aa.lt b (.inl ⟨0,.inl rfl,J b h⟩)
    .by_cases c:q=0
     .subst c;rw[F]at h;exact aa.lt b (.inl ⟨0,.inl rfl,h.1⟩)
     .rw[B q c e]at h;exact aa.lt b (.inl ⟨q,(g8 q X).resolve_right e,h⟩)
   .exact aa.lt b (.inr (.inl h))
   .exact aa.lt b (.inr (.inr h))
  .by_cases e:i=S.j
   .subst e;rw[L]at h;exact absurd (J _ h) aa.gR
   .rw[B _ U U]at h;exact aa.aG i (by have:i<S.j+1:=af;omega) h
  .by_cases e:i=S.j
   .subst e;rw[show S'.th S.j=S.th S.j from rfl,gr]at h;cases h
   .rw[B _ U U];exact aa.rI i (by have:i<S.j+1:=af;omega) h
  .refine aa.hi.fork (k:=gs.size) (.inl rfl) (x:=x) (y:=y) ⟨rfl,rfl⟩ ⟨rfl,rfl⟩ E (aa.rJ _ (bh _)) U (λq X=>by rw[u];exact g8 q X) (λq b X fp h=> ?_) (λb h=> ?_) λq X=> ?_
   .rw[u]at fp;by_cases c:q=0
    .subst c;rw[F]at h;exact h.1
    .rw[B q c fp]at h;exact h
   .rw[u,L]at h;exact J b h
   .unfold n6;show(if q<S.j+1 then _ else _)=_\/_
    rcases ys q S.j with h|h|h
    .rw[aV h,aV U];exact .inl rfl
    .subst h;right;refine⟨aC U,?_⟩;show(if S.j<S.j+1 then _ else _)=_
     rw[aV U,u]
    .rw[aC U,aC U];exact .inl rfl
  .simp only[zQ,dY,gE,gn]at o;rcases o with rfl|rfl<;>cases e
  .rw[d];have:gs.size+1<=q:=(by simpa using X);exact aa.rJ q U
  .have v:=q;rcases g8 g cC with p|rfl
   .exact(q g p).app _
   .rw[<-u];exact Go.ConcN.fork_knows (x:=x) (y:=y) (k:=gs.size) ⟨rfl,rfl⟩ ⟨rfl,rfl⟩ E (aa.rJ _ (bh _)) (q 0 (.inl rfl))
  .refine aa.to.fork K7 λk hk hd=> ?_;by_cases e:k=S.j
   .subst e;rw[C]at hd;omega
   .rw[Dv k e]at hd;exact⟨U,hd⟩
  .have HP:i<S.j+1:=af;by_cases e:i=S.j
   .subst e;rw[C]at hd;omega
   .rw[Dv i e]at hd;rw[B _ U U];exact aa.post i U hd
  .exfalso;change qG r=.fin at e;cases r<;>cases e
 refine⟨S',_,w,_,R,?_,Prod.Lex.left _ _ iQ⟩;rw[amt];exact O5
end
end Go.bG
namespace Go.bG
open Go Go.Conc Go.Ren
open Go.ConcR (KK wgBlock WgAt stA smA rd wr mk DC0)
open Go.ConcM (OsLater)
open Go.aS (Th Sh a6 mv)
open Go.ConcN (sumTo upd upd_same upd_ne sumTo_congr)
section
variable{P:Program}{K:bj}{aL:bu->Obj->Prop}{Post:Nat->(Nat->Prop)->World->Prop}{kd:Nat->Int}{Anch bl:aM->Goroutine->World->Prop}{Shun:Loc->Prop}{S S':Sys}{gs:Array Goroutine}{w w':World}{t u:Trace}{sl:Option (Nat×Nat)}
def XE(a:∀s g w,bl s g w->eT P K (rD P K Anch bl) s g w){s:aM}{g:aY}(h:eT P K bl s g w):a7 P true (Rl K none) (e7 K none) (hA P K aL Post kd Anch bl .w1) s g w:=a7.bind (hZ K none) h a
def HQ(m:Mark)(h:m=.disable\/m=.enable){Wg:Nat}:∀e∈#[mk m],e=mk .disable\/e=mk .enable\/∃a x,e=⟨.cell a,x,true⟩/\a.block=Wg:=by
 intro e he;simp at he;subst he;rcases h with rfl|rfl
 .exact .inl rfl
 .exact .inr (.inl rfl)
def amy(hPost:kJ K Post)(tT:K.n<=8)(hAnch:∀s g w,Anch s g w->g.status=.running)(hHead:∀s g w,bl s g w->eT P K (rD P K Anch bl) s g w)(aa:Inv P K aL Post kd Anch bl Shun S gs w t){g:aY}(cC:gs[0]? =some g)(hT:S.au 0=.leaf)(bw:∀al,Rl K none ⟨S.own 0,Deaf t 0⟩ w al->hA P K aL Post kd Anch bl S.tag ⟨S.own 0,Deaf t 0⟩ g al)(fp:S.tag≠.fin):mQ P K aL Post kd Anch bl Shun S gs w sl t 0:=by
 have JV:=bw w (.refl _ _ _ _);have hmode:=aa.mode;have Al:=aa.wg;have htj:=aa.dL;have avT:=Xy S.j S.D;have avU:=aa.jn;cases gu:S.tag with
 |s7 r=>
  rw[gu]at JV hmode htj;obtain⟨O7,zZ,g',eA,Bj⟩:=JV;change Deaf t 0=0 at zZ;refine qF hPost aa (tag':=.a1 r) (by rw[gu];simp only[phi];omega) ag cC eA (.refl w) rfl Al ?_ htj (HQ _ (.inl rfl)) ?_
  .generalize S.a4=a at hmode⊢;generalize S.c6=b at hmode⊢;cases hmode with
   |opn _ cb _=>exact .opn (tag:=.a1 r) trivial cb λvs e=>by cases e
   |fin h _=>exact h.elim
  .rw[zZ];exact Bj
 |a1 r=>
  rw[gu]at JV hmode htj;obtain⟨O7,zZ,ame⟩:=JV;change Deaf t 0=1 at zZ;have hm:S.a4=((Vc S.j S.D:Nat):Int)*KK/\S.c6=0/\∀i,i<S.j->S.D i=7\/S.D i=6\/S.D i=5\/S.D i=1:=by
   generalize S.a4=a at hmode;generalize S.c6=b at hmode;cases hmode with
   |opn _ cb _=>exact⟨rfl,rfl,cb⟩
   |fin h _=>exact h.elim
  rw[hm.1,hm.2.1]at Al;obtain⟨g',eA,Bj⟩:=ame _ U Al;obtain⟨k1,gd,lU⟩:=s9 (Wg:=K.Wg) (.inl rfl);refine qF hPost aa (tag':=.s8 r) (by rw[gu];simp only[phi];omega) ag cC eA (hj.setWg w _ _ rfl) (aa.vc rfl) (z0 Al) ?_ htj k1 ?_
  .have e:((Vc S.j S.D:Nat)+1:Int)*KK=((Vc S.j S.D+pend (.s8 r):Nat):Int)*KK:=(by simp only[pend,KK];omega);rw[e];exact .opn (tag:=.s8 r) trivial hm.2.2 λvs e=>by cases e
  .rw[lU,zZ];have:(⟨S.own 0,1⟩:aM)=⟨S.own 0,Deaf t 0⟩:=(by rw[zZ]);rw[this];exact Bj
 |s8 r=>
  rw[gu]at JV hmode htj;obtain⟨O7,zZ,g',eA,Bj⟩:=JV;change Deaf t 0=1 at zZ;refine qF hPost aa (tag':=.go r) (by rw[gu];simp only[phi];omega) ag cC eA (.refl w) rfl Al ?_ htj (HQ _ (.inr rfl)) ?_
  .generalize S.a4=a at hmode⊢;generalize S.c6=b at hmode⊢;cases hmode with
   |opn _ cb _=>exact .opn (tag:=.go r) trivial cb λvs e=>by cases e
   |fin h _=>exact h.elim
  .rw[zZ];exact Bj
 |go r=>
  rw[gu]at JV;exact go_step aa gu cC JV
 |kd=>
  rw[gu]at JV hmode htj;obtain⟨O7,zZ,g',eA,Bj⟩:=JV;change Deaf t 0=0 at zZ;refine qF hPost aa (tag':=.w1) (by rw[gu];simp only[phi];omega) ag cC eA (.refl w) rfl Al ?_ htj (HQ _ (.inl rfl)) ?_
  .generalize S.a4=a at hmode⊢;generalize S.c6=b at hmode⊢;cases hmode with
   |opn _ cb _=>exact .opn (tag:=.w1) trivial cb λvs e=>by cases e
   |fin h _=>exact h.elim
  .rw[zZ];exact XE hHead Bj
 |w1=>
  rw[gu]at JV hmode htj;obtain⟨O7,zZ,ame⟩:=JV;change Deaf t 0=1 at zZ;have hm:S.a4=((Vc S.j S.D:Nat):Int)*KK/\S.c6=0/\∀i,i<S.j->S.D i=7\/S.D i=6\/S.D i=5\/S.D i=1:=by
   generalize S.a4=a at hmode;generalize S.c6=b at hmode;cases hmode with
   |opn _ cb _=>exact⟨rfl,rfl,cb⟩
   |fin h _=>exact h.elim
  rw[hm.1,hm.2.1]at Al;obtain⟨g',eA,RS,hl1⟩:=ame _ U Al;obtain⟨k1,gd,lU⟩:=s9 (Wg:=K.Wg) (.inr (.inl rfl));have eh:(⟨S.own 0,deafBehind (Deaf t 0) #[rd (stA K.Wg)]⟩:aM)=⟨S.own 0,Deaf t 0⟩:=(by rw[lU]);by_cases bP:Vc S.j S.D=0
  .refine qF hPost aa (tag':=.ke) (by rw[gu];simp only[phi];omega) ag cC eA (.refl w) rfl Al ?_ htj k1 ?_
   .rw[bP];have e:((0:Nat):Int)*KK=0:=ag;rw[e];refine .fin trivial λi af=> ?_;have bD:=hm.2.2 i af;have cb:=Go.ConcN.le_sumTo (f:=λa=>cnt (S.D a)) af;have b7:sumTo S.j (λa=>cnt (S.D a))=0:=bP;have dC:cnt (S.D i)=0:=U;unfold cnt at dC;split at dC<;>omega
   .rw[eh];exact RS bP
  .refine qF hPost aa (tag':=.w2 (Vc S.j S.D)) (by rw[gu];simp only[phi];omega) ag cC eA (.refl w) rfl Al ?_ htj k1 ?_
   .exact .opn (tag:=.w2 (Vc S.j S.D)) trivial hm.2.2 λvs e=>by cases e;omega
   .rw[eh];exact hl1 bP
 |w2 vs=>
  rw[gu]at JV hmode htj;obtain⟨O7,zZ,ame⟩:=JV;change Deaf t 0=1 at zZ;have hm:S.a4=((Vc S.j S.D:Nat):Int)*KK/\S.c6=0/\(∀i,i<S.j->S.D i=7\/S.D i=6\/S.D i=5\/S.D i=1)/\Vc S.j S.D<=vs/\1<=vs:=by
   generalize S.a4=a at hmode;generalize S.c6=b at hmode;cases hmode with
   |opn _ cb b7=>exact⟨rfl,rfl,cb,b7 vs rfl⟩
   |fin h _=>exact h.elim
  rw[hm.1,hm.2.1]at Al;obtain⟨RS,hl1⟩:=ame _ U Al;by_cases bP:Vc S.j S.D=vs
  .obtain⟨g',eA,Bj⟩:=RS bP;obtain⟨k1,gd,lU⟩:=s9 (Wg:=K.Wg) (.inl rfl);refine qF hPost aa (tag':=.w3) (by rw[gu];simp only[phi];omega) ag cC eA (hj.setWg w _ _ rfl) (aa.vc rfl) (z0 Al) (.reg hm.2.2.1 U) htj k1 ?_;have eh:(⟨S.own 0,deafBehind (Deaf t 0) #[rd (stA K.Wg),wr (stA K.Wg)]⟩:aM)=⟨S.own 0,Deaf t 0⟩:=(by rw[lU]);rw[eh];exact Bj
  .obtain⟨g',eA,Bj⟩:=hl1 bP;obtain⟨k1,gd,lU⟩:=s9 (Wg:=K.Wg) (.inr (.inl rfl));have eh:(⟨S.own 0,deafBehind (Deaf t 0) #[rd (stA K.Wg)]⟩:aM)=⟨S.own 0,Deaf t 0⟩:=(by rw[lU]);refine qF hPost aa (tag':=.w1) (by rw[gu];simp only[phi];omega) ag cC eA (.refl w) rfl Al (.opn (tag:=.w1) trivial hm.2.2.1 λvs e=>by cases e) htj k1 ?_;rw[eh];exact XE hHead Bj
 |w3=>
  have ku:=bw;rw[gu]at JV hmode htj ku;obtain⟨O7,zZ,amb,SS,hgo⟩:=JV;change Deaf t 0=1 at zZ;have hcase:(S.c6=0)\/(S.a4=0/\S.c6=1/\∀i,i<S.j->S.D i=1):=by
   generalize S.a4=a at hmode;generalize S.c6=b at hmode;cases hmode with
   |opn h=>exact h.elim
   |reg _ _=>exact .inl rfl
   |last _ _ _ _=>exact .inl rfl
   |sema h=>exact .inr ⟨rfl,rfl,h⟩
   |fin h _=>exact h.elim
  rcases hcase with cz|⟨cz,bD,cb⟩
  .have eA:=SS ⟨S.a4,by rw[cz]at Al;exact Al⟩;refine xw (jn:=none) hPost (λk e=>by cases e) aa cC (g':={g with status:=.blocked}) (w':=w) (es:= #[]) eA (.refl w) (S':=S) {j:=rfl,f:=rfl,own:=rfl,fZ:=λ_ _=>⟨rfl,rfl,rfl⟩,au:=λa8 O9=>rfl,m:=.inr ⟨rfl,rfl,.inr ⟨rfl,O7,rfl⟩⟩,tag:=.inl rfl,mM:=λ_=>⟨?_,λ_=>cz⟩,mN:=λk' e=>(by cases e),mO:=.inl rfl,mP:=.inl (bh _),wg:=aa.wg,mode:=aa.mode,dL:=aa.dL,aT:=aa.aT,dv:=aa.dv,fit:=aa.fit,out:=λk e=>(by cases e),eX:=λk e=>(by cases e),did:=λ_ _=>rfl,ur:=λ_ _=>Iff.rfl,aH:=λe he=>(by simp at he),rel:=λk' e=>(by cases e),fin:=λe=>absurd e fp};rw[deafBehind_nil];exact .inr ⟨⟨gu,trivial⟩,hT,g,rfl,O7,amb,bw⟩
  .rw[cz,bD]at Al;obtain⟨g',eA,Bj⟩:=hgo Al;refine qF hPost aa (tag':=.w4) (by rw[gu];simp only[phi];omega) ag cC eA (hj.setWg w _ _ rfl) (aa.vc rfl) (XC Al) (.fin trivial cb) htj (λe he=> ?_) ?_
   .simp[semEvents]at he;rcases he with rfl|rfl|rfl|rfl
    .exact .inl rfl
    .exact .inr (.inr ⟨_,_,rfl,rfl⟩)
    .exact .inr (.inr ⟨_,_,rfl,rfl⟩)
    .exact .inr (.inl rfl)
   .have eh:(⟨S.own 0,deafBehind (Deaf t 0) (semEvents (smA K.Wg))⟩:aM)=⟨S.own 0,Deaf t 0⟩:=(by rw[zZ];simp[semEvents,deafBehind]);rw[eh];exact Bj
 |w4=>
  rw[gu]at JV hmode htj;obtain⟨O7,zZ,ame⟩:=JV;change Deaf t 0=1 at zZ;have hm:S.a4=0/\S.c6=0/\∀i,i<S.j->S.D i=1:=by
   generalize S.a4=a at hmode;generalize S.c6=b at hmode;cases hmode with
   |opn h=>exact h.elim
   |fin _ h=>exact⟨rfl,rfl,h⟩
  rw[hm.1,hm.2.1]at Al;obtain⟨g',eA,Bj⟩:=ame Al;obtain⟨k1,gd,lU⟩:=s9 (Wg:=K.Wg) (.inr (.inl rfl));have eh:(⟨S.own 0,deafBehind (Deaf t 0) #[rd (stA K.Wg)]⟩:aM)=⟨S.own 0,Deaf t 0⟩:=(by rw[lU]);refine qF hPost aa (tag':=.ke) (by rw[gu];simp only[phi];omega) ag cC eA (.refl w) rfl Al (.fin trivial hm.2.2) htj k1 ?_;rw[eh];exact Bj
 |ke=>
  rw[gu]at JV hmode htj;obtain⟨O7,zZ,g',eA,Bj⟩:=JV;change Deaf t 0=1 at zZ;have hm:S.a4=0/\S.c6=0/\∀i,i<S.j->S.D i=1:=by
   generalize S.a4=a at hmode;generalize S.c6=b at hmode;cases hmode with
   |opn h=>exact h.elim
   |fin _ h=>exact⟨rfl,rfl,h⟩
  rw[hm.1,hm.2.1]at Al;refine qF hPost aa (tag':=.acq) (by rw[gu];simp only[phi];omega) ag cC eA (.refl w) rfl Al (.fin trivial hm.2.2) htj (HQ _ (.inr rfl)) ?_;rw[zZ];exact Bj
 |acq=>
  rw[gu]at JV;exact amp hPost aa gu hAnch cC JV
 |fin=>exact absurd gu fp
def amz(b:kJ K Post)(l:K.n<=8)(c:∀s g w,Anch s g w->g.status=.running)(d:∀s g w,bl s g w->eT P K (rD P K Anch bl) s g w)(aa:Inv P K aL Post kd Anch bl Shun S gs w t){g:aY}(m:gs[0]? =some g)(q:g.status=.running)(j:¬(S.tag=.fin/\Anch ⟨S.own 0,Deaf t 0⟩ g w)):mQ P K aL Post kd Anch bl Shun S gs w sl t 0:=by
 have⟨a,p,k,_⟩:=aa.main;rw[m]at p;cases p;rcases k with h|⟨_,_,g0,rfl,_⟩
 .cases hT:S.au 0 with
  |leaf=>
   rw[hT]at h;by_cases o:S.tag=.fin
   .have:=h w (.refl _ _ _ _);rw[o]at this;exact absurd ⟨o,this.1⟩ j
   .exact amy b l c d aa m hT h o
  |node f=>
   rw[hT]at h;have⟨s',g',w',es,r,u,v⟩:=h.2 w (.refl _ _ _ _);exact Xw (jn:=none) (r':=f w) b (λi e=>by cases e) (λi e=>by cases e) aa m r u (by show dr.Sub _ (S.au 0);rw[hT];exact .mk f w) (λ_=>v) (λi e=>by cases e) (λi e=>by cases e)
 .cases q
def amA(b:kJ K Post)(q:K.n<=8)(aa:Inv P K aL Post kd Anch bl Shun S gs w t){i:Nat}(af:i<S.j){g:aY}(o:gs[K.base+i]? =some g)(x:g.status=.running):mQ P K aL Post kd Anch bl Shun S gs w sl t (K.base+i):=by
 have A:(K.base+i==0)=false:=(by have:=aa.jI;simp;omega);obtain⟨a,y,l,_⟩:=aa.wk i af;rw[o]at y;cases y;by_cases p:S.D i=1
 .exact al4 b aa af p o x l
 have d:=l;unfold WSit at d;rw[aC p]at d;obtain⟨v,z,m,h|⟨_,_,g0,rfl,_⟩⟩:=d
 .by_cases c:S.D i=7
  .have r:nh K i (S.D i)=e7 K (some i):=(by unfold nh;rw[aV c]);rw[r,c]at h;cases hT:S.au (K.base+i)with
   |leaf=>
    rw[hT]at h;by_cases ap:(S.th i).pc=.out
    .have:=h w (.refl _ _ _ _);unfold gq at this;rw[aV ap]at this;exact amo b aa af c ap o this
    .exact al9 b q aa af c ap o hT z (m c ap) h
   |node f=>
    rw[hT]at h;obtain⟨s',g',w',es,s,B,u⟩:=h.2 w (.refl _ _ _ _);exact Xw (jn:=some i) (r':=f w) b (λk e=>by cases e;exact af) (λk e=>by cases e;exact c) aa o (by simp only[bt];rw[A];exact s) B (by simp only[bt];rw[hT];exact .mk f w) (λe=>by cases e) (λk e=>by cases e;exact⟨v,z,u⟩) (λk e ap=>by cases e;exact m c ap)
  .have r:nh K i (S.D i)=xq:=(by unfold nh;rw[aC c]);rw[r]at h;have C:S.D i<=6:=(by have:=(aa.eX i af).1;omega);cases hT:S.au (K.base+i)with
   |leaf=>
    rw[hT]at h;exact amn b q aa af C o (h w (.refl _ _ _ _))
   |node f=>
    rw[hT]at h;obtain⟨s',g',w',es,s,⟨rfl,rfl,rfl⟩,u⟩:=h.2 w (.refl _ _ _ _);exact al5 (r':=f w') b aa af p c o s (by rw[hT];exact .mk f w') u
 .cases x
def xy{g:aY}(h:g.status=.running\/g.status=.finished\/g.status=.blocked):awake g:=by
 intro t e;rcases h with h|h|h<;>rw[h]at e<;>cases e
def Inv.amB(aa:Inv P K aL Post kd Anch bl Shun S gs w t):(∀g∈gs,awake g)/\∃(i:Nat)(g:aY),gs[i]? =some g/\g.status=.running:=by
 have r:∀(q:Nat)(g:aY),gs[q]? =some g->(q=0)\/(0<q/\q<K.base)\/∃i,i<S.j/\q=K.base+i:=by
  intro q g C;have:=(bQ.1 C).1;have az:=aa.size;rcases dH q K.base with h|h
  .rcases jL q with E|E
   .exact .inl E
   .exact .inr (.inl ⟨E,h⟩)
  .exact .inr (.inr ⟨q - K.base,U,U⟩)
 obtain⟨a,F,s,O⟩:=aa.main;have u:=s.status (λ_ _ _=>hA.running);refine⟨λg C=> ?_,?_⟩
 .obtain⟨q,Q,rfl⟩:=Array.mem_iff_getElem.1 C;have k:gs[q]? =some gs[q]:=dq Q;rcases r q _ k with rfl|⟨v,B⟩|⟨i,v,rfl⟩
  .rw[k]at F;cases F;rcases u with h|⟨h,_⟩
   .exact xy (.inl h)
   .exact xy (.inr (.inr h))
  .obtain⟨b,e,n,_,R⟩:=aa.old q v B;rw[k]at e;cases e;rcases R.status with h|h
   .exact xy (.inl h)
   .exact xy (.inr (.inl h))
  .obtain⟨b,e,p,_⟩:=aa.wk i v;rw[k]at e;cases e;rcases p.status with h|h|⟨h,_⟩
   .exact xy (.inl h)
   .exact xy (.inr (.inl h))
   .exact xy (.inr (.inr h))
 .rcases u with h|⟨h,z,_⟩
  .exact⟨0,a,F,h⟩
  .refine ry λG=> ?_;have H:=O h;have d:=aa.mode;have A:=aa.dL;rw[z]at d A;change S.j=K.n at A;have l:∀i,i<S.j->(S.D i=1/\(S.th i).pc=.out)\/((S.th i).pc=.s1/\S.x.m=0):=by
    intro i af;obtain⟨b,e,p,J⟩:=aa.wk i af;rcases p.status with h|h|⟨h,_,B⟩
    .exact absurd ⟨_,b,e,h⟩ G
    .by_cases hd:S.D i=1
     .exact .inl ⟨hd,aa.out i af U⟩
     .exfalso;unfold WSit at p;rw[aC hd]at p;obtain⟨_,_,_,T⟩:=p;rcases T.status (λ_ _ _=>gq.running)with M|⟨M,_⟩<;>rw[h]at M<;>cases M
    .exact .inr ⟨B,J h⟩
   have o:=aa.dv.done (λi af=>(l i U).imp (λh=>h.2) id);have N:∀i,i<S.j->S.D i=1:=λi af=>by
    rcases l i af with h|h
    .exact h.1
    .have:=o i U;rw[h.1]at this;cases this
   generalize S.a4=x at d;generalize S.c6=y at d H;cases d with
   |opn h=>exact h
   |reg _ h=>
    have:Vc S.j S.D<=0:=by
     have:=Go.ConcN.sumTo_le (f:=λi=>cnt (S.D i)) (c:=0) (j:=S.j) λi af=>(by rw[N i af];decide);unfold Vc;omega
    omega
   |last L v B _=>have:=N L v;omega
   |sema _=>omega
   |fin h _=>exact h
def amC(b:kJ K Post)(m:K.n<=8)(f:∀s g w,Anch s g w->g.status=.running)(j:∀s g w,bl s g w->eT P K (rD P K Anch bl) s g w)(r:∀s g w d,Anch s g (World.at w d)->Anch s g w)(aa:Inv P K aL Post kd Anch bl Shun S gs w t)(o:¬(S.tag=.fin/\∃g,gs[0]? =some g/\Anch ⟨S.own 0,Deaf t 0⟩ g w)): ∃S' c w' e ops,stepT P (crowd gs w sl)=(.next (crowd c w' e),ops)/\Inv P K aL Post kd Anch bl Shun S' c w' (t++ops)/\Hm (qE K S' c) (qE K S gs):=by
 have⟨u,k⟩:=aa.amB;have⟨q,g,d,e,l,v,x⟩:=crowd_pick (P:=P) (w:=w) (sl:=sl) u k;have p:=aa.at b d;have y:mQ P K aL Post kd Anch bl Shun S gs (w.at d) e t q:=by
  have:=(bQ.1 l).1;have F:=aa.size;rcases dH q K.base with h|h
  .rcases jL q with rfl|B
   .exact amz b m f j p l v λ⟨z,A⟩=>o ⟨z,g,l,r _ _ _ _ A⟩
   .have⟨a,C,D⟩:=p.old q B h;rw[l]at C;cases C;exact al6 b p B h l v D
  .obtain⟨i,rfl⟩:∃i,q=K.base+i:=⟨q - K.base,U⟩;exact amA b m p U l v
 obtain⟨S',c,w',ops,z,A,E⟩:=y;exact⟨S',c,w',e,ops,x.trans z,A,E⟩
def amD(c:kJ K Post)(i:K.n<=8)(e:∀s g w,Anch s g w->g.status=.running)(f:∀s g w,bl s g w->eT P K (rD P K Anch bl) s g w)(j:∀s g w d,Anch s g (World.at w d)->Anch s g w): ∀(HR:Hl)(S:Sys)(gs:hh)(w:ab)(sl:Option (Nat×Nat))(t:Trace),qE K S gs=HR->Inv P K aL Post kd Anch bl Shun S gs w t->∃N S' a w' h k,runNT P N (crowd gs w sl) t=(.next (crowd a w' h),k)/\Inv P K aL Post kd Anch bl Shun S' a w' k/\S'.tag=.fin/\∃g,a[0]? =some g/\Anch ⟨S'.own 0,Deaf k 0⟩ g w':=by
 intro HR;induction HR using avV.induction with
 |_ HR o=>
  intro S gs w sl t p aa;by_cases b:S.tag=.fin/\∃g,gs[0]? =some g/\Anch ⟨S.own 0,Deaf t 0⟩ g w
  .exact⟨0,S,gs,w,sl,t,rfl,aa,b.1,b.2⟩
  .have⟨S',a,w',h,ops,q,r,u⟩:=amC (sl:=sl) c i e f j aa b;have⟨N,v,l,w2,m,x,y,z,A⟩:=o _ (p▸u) S' a w' h (t++ops) rfl r;exact⟨N+1,v,l,w2,m,x,by simp only[runNT,q];exact y,z,A⟩
end
end Go.bG
