import Derived.Test.YtlcdgbhigfgehabGreatDoorQC02
import Derived.Test.YtlcdgbhigfgehabGreatDoorQC05
set_option linter.all false
set_option maxRecDepth 100000
set_option maxHeartbeats 16000000
namespace Go.Proofs.YtlcdgbhigfgehabGreatDoor
open Go Go.Ren Go.bp Go.bG Go.Conc Go.ConcN Go.RowKit

section
variable{C:bf}{R S:Nat->Prop}{f:Ren}{w w' u:World}{N:Fn->Bool}
def Py{x:aQ}(h:∀v∈x.toList,aB N f v v):aZ N f x x:=⟨rfl,λi v v' a b=>by
 rw[a]at b;cases b;exact h v (by simpa using Array.mem_of_getElem? a)⟩
def XX{x y:aQ}(h:aZ N f x x)(k:aZ N f y y):aZ N f (x++y) (x++y):=h.append k
def Pz(n:Nat):aZ N f (Array.replicate n I) (Array.replicate n I):=Py λv a=>by simp at a;rw[a.2];exact .undef
def PC{x:aQ}:(x.map (fu N f)).size=x.size:=ag
def qI{x:aQ}{i:Nat}{v:ai}(h:x[i]? =some v)(a:aB N f v v):(x.map (fu N f))[i]? =some v:=by rw[oF,h,mq,pv a]
def HY{x:aQ}{i:Nat}{v:ai}(h:x.getD i I=v)(af:i<x.size):x[i]? =some v:=by
 rw[dq af];rw[nM,dq af]at h;simpa using h
def getD_some{x:aQ}{i:Nat}{v:ai}(h:x[i]? =some v):x.getD i I=v:=by rw[nM,h];rfl
def HZ(j:bR C R f u w')(d:bs (cm S) f){b:Nat}(k:S b)(e:¬R b){c:aQ}{t:TypeId}{z:Nat×Nat}(h:w.heap[b]? =some (.cells c t z))(g:∀v∈c.toList,aB C.fn (cm S) v v/\∀v',aB C.fn f v v'->v'=v)(l:u.heap[b]? =(cN C S R w).heap[b]?):w'.heap[b]? =w.heap[b]? :=by
 have m:(cN C S R w).heap[b]? =some (.cells c t z):=by
  rw[pw,h];simp only[mq,n4,e,cY];congr 2;refine Array.ext' ?_;rw[Array.toList_map];exact(Mk λv n=>pv (g v n).1).trans (List.map_id' _)
 have⟨ak,o,q,p⟩:=xe j (d _ _ (dJ k)) e (l.trans m);rw[o,h];congr 2;refine uI λi=> ?_;rcases dH i c.size with af|af
 .have a:i<ak.size:=U;rw[dq af,dq a];congr 1;exact(g c[i] ag).2 _ (p.get i _ _ (dq af) (dq a))
 .rw[oz af,oz U]
def n8(v:ai)(l:List (aI×ai))(b:Nat):Prop:=v.ownBlock=some b\/∃p∈l,p.2.ownBlock=some b
def PD(j:bR C R f u w'){B B':Nat}(i:∀x y,f x=some y->B<=x->B'<=y){v v':ai}{l:List (aI×ai)}(h:ck u B v l)(k:aB C.fn f v v'): ∃a,ck w' 0 v' a/\a.map (·.1)=l.map (·.1)/\∀b,n8 v' a b->B'<=b:=by
 have⟨a,m,n,o,q⟩:=V4 j h k;refine⟨a,m,n,λb c=> ?_⟩;rcases c with c|⟨r,d,c⟩
 .have⟨s,e,g⟩:=o b c;exact i _ _ g (h.vec.lt _ e).1
 .have⟨p,t,s,e,g⟩:=q r d b c;exact i _ _ g ((h.data p t).lt _ e).1
def n8.row{B:Nat}{v:ai}{l:List (aI×ai)}(h:ck w B v l){b:Nat}(a:n8 v l b):eL w b:=by
 rcases a with a|⟨p,c,a⟩
 .exact h.vec.qm b a
 .exact(h.data p c).qm b a
structure kL(W:ab):Prop where
 ety:dp W
 oP:il W
 mj:∃v t,W.heap[0]? =some (.cells #[v] t (0,0))
 fM:∃c t z,W.heap[2]? =some (.cells c t z)/\0<c.size/\∀v∈c.toList,ha v=true
def kL.size{W:ab}(h:kL W):3<=W.heap.size:=by
 obtain⟨c,t,z,k,-⟩:=h.fM;exact(bQ.1 k).1
def gU(W w:ab):Prop:=W.heap.size<=w.heap.size/\∀b,b<W.heap.size->w.heap[b]? =W.heap[b]?
def gU.trans{a b c:ab}(h:gU a b)(k:gU b c):gU a c:=⟨dU h.1 k.1,λx d=>(k.2 x (fl d h.1)).trans (h.2 x d)⟩
def gU.z3{W w:ab}(h:gU W w)(k:kL W):kL w:=by
 have f:=k.size;have⟨v,t,a⟩:=k.mj;have⟨c,b,z,d,e⟩:=k.fM;exact⟨uW k.ety (h.2 0 U),GV k.oP (h.2 1 U),⟨v,t,(h.2 0 U).trans a⟩,⟨c,b,z,(h.2 2 U).trans d,e⟩⟩
def kL.XY{W:ab}(k:kL W)(r:bR C R f u w')(d:bs (cm S) f)(s:¬R 0/\¬R 2)(m:S 0/\S 2)(B:u.heap[0]? =(cN C S R W).heap[0]?)(n:u.heap[2]? =(cN C S R W).heap[2]?):w'.heap[0]? =W.heap[0]?/\w'.heap[2]? =W.heap[2]? :=by
 have⟨v,t,w⟩:=k.mj;obtain⟨c,F,z,D,-,A⟩:=k.fM;refine⟨HZ r d m.1 s.1 w (λx h=> ?_) B,HZ r d m.2 s.2 D (λx h=>⟨wV (A x h),λv' q=>iV (A x h) q⟩) n⟩;simp at h;subst h;have o:=k.ety;unfold dp at o;simp only[World.cell?,w]at o;simp at o;subst o;refine⟨.iface _ (.agg rfl λi v v' g j=> ?_),λv' q=> ?_⟩
 .rw[g]at j;cases j;cases i with
  |zero=>simp at g;subst g;exact .ptr (a:=⟨2,_,none⟩) (dJ m.2)
  |succ i=>simp at g
 .cases q with
  |iface t q=>
   cases q with
   |@agg x ak p E=>
    have g:ak.size=1:=p.symm;have n:=E 0 _ ak[0] rfl ag;congr 1;congr 1;cases ak with
    |mk l=>
     match l,g with
     |[y],_=>
      simp at n;cases n with
      |@ptr a b e=>
       have:=d _ _ (dJ (S:=S) m.2);rw[this]at e;cases e;rfl
def PE{lo:Nat}(h:S 0/\S 2):b1 (dT lo false) (cm S):=by
 intro g a hk;have b:(dT lo false).P.globals.size=2:=(by show aj.prog.globals.size=2;kernel_rfl);rw[b]at a hk;have:g=0\/g=1\/g=2:=U;rcases this with rfl|rfl|rfl
 .exact dJ h.1
 .have:=hk U;exact absurd this (show¬(false||(1:Nat) !=1)=true by decide)
 .exact dJ h.2
def PF{lo:Nat}(h:S 0/\S 1/\S 2):b1 (dT lo true) (cm S):=by
 intro g a hk;have b:(dT lo true).P.globals.size=2:=(by show aj.prog.globals.size=2;kernel_rfl);rw[b]at a;have:g=0\/g=1\/g=2:=U;rcases this with rfl|rfl|rfl
 .exact dJ h.1
 .exact dJ h.2.1
 .exact dJ h.2.2
end
end Go.Proofs.YtlcdgbhigfgehabGreatDoor
namespace Go.Proofs.YtlcdgbhigfgehabGreatDoor
open Go Go.Ren Go.bp Go.bG Go.Conc
def vn(K:bj)(i:Nat)(av:Nat)(au:List aI)(room:Int)(E:cZ)(own:Nat->Prop)(w:ab):Prop:=∃an A v,dK w av an au room A/\(∀b,A b->own b)/\w.cell? ⟨K.bb,i,none⟩=some v/\eb w v E/\(∀n k g,E=.file n k->v=.iface 84 (.pointer (some ⟨g,0,none⟩))->own g)
structure rM(K:bj)(i:Nat)(bz bn av an bL a9 ba:Nat)(au:List aI)(room:Int)(aO bd bc:Nat)(bx:ar)(O:Nat->Prop)(w:ab):Prop where
 xE:K.n<=8
 lt:i<K.n
 b5:dK w av an au room O
 hD:bH w (.slice (some ⟨aO,bd,none⟩) bx.length bc) bx/\fz bx≠none
 bne:∃c t z,w.heap[aO]? =some (.cells c t z)/\0<c.size
 ety:dp w
 oP:il w
 Iq:∃c t z,w.heap[2]? =some (.cells c t z)/\0<c.size
 YS:O bz
 YT:O bn
 Ir:bz≠av/\bz≠an/\bn≠av/\bn≠an
 row:∀b,O b->eL w b
 ro:K.ro 0/\K.ro 1/\K.ro 2/\K.ro aO
 z9:w.cell? ⟨bz,0,none⟩=some (.pointer (some ⟨av,0,none⟩))
 Aa:w.cell? ⟨bn,0,none⟩=some (.int .i64 i)
 tf:K.ro bL/\w.cell? ⟨bL,0,none⟩=some (.slice (some ⟨aO,bd,none⟩) bx.length bc)
 pF:K.ro a9/\w.cell? ⟨a9,0,none⟩=some (.slice (some ⟨K.bb,0,none⟩) K.n K.n)
 tg:K.ro ba/\w.cell? ⟨ba,0,none⟩=some (.pointer (some ⟨K.bm,0,none⟩))
 dx:DO K O w.heap.size
section
variable{K:bj}{i bz bn av an bL a9 ba:Nat}{au:List aI}{room:Int}{aO bd bc:Nat}{bx:List UInt8}{O:Nat->Prop}{w:World}
def qQ(aO:Nat)(b:Nat):Prop:=b=0\/b=1\/b=2\/b=aO
def Qk(h:il w):∃c t z,w.heap[1]? =some (.cells c t z)/\0<c.size:=by
 obtain⟨T,u,h⟩:=h;unfold World.cell? at h;dsimp only at h;split at h
 .rename_i c t z e;exact⟨c,t,z,e,(bQ.1 h).1⟩
 .cases h
def apV(h:dp w):∃c t z,w.heap[0]? =some (.cells c t z)/\0<c.size:=by
 unfold dp at h;unfold World.cell? at h;dsimp only at h;split at h
 .rename_i c t z e;exact⟨c,t,z,e,(bQ.1 h).1⟩
 .cases h
def rM.Ql(h:rM K i bz bn av an bL a9 ba au room aO bd bc bx O w){b:Nat}(a:qQ aO b):∃c t z,w.heap[b]? =some (.cells c t z)/\0<c.size:=by
 rcases a with rfl|rfl|rfl|rfl
 .exact apV h.ety
 .exact Qk h.oP
 .exact h.Iq
 .exact h.bne
def rM.YU(h:rM K i bz bn av an bL a9 ba au room aO bd bc bx O w){b:Nat}(a:qQ aO b):K.ro b:=by
 rcases a with rfl|rfl|rfl|rfl
 .exact h.ro.1
 .exact h.ro.2.1
 .exact h.ro.2.2.1
 .exact h.ro.2.2.2
def rM.on(h:rM K i bz bn av an bL a9 ba au room aO bd bc bx O w){b:Nat}(a:O b):¬qQ aO b:=λq=>(h.dx.ro b (h.YU q)).2.1 a
structure YV(aO av bz bn:Nat)(i:Nat)(au:List aI)(room:Int)(E:cZ)(v:ai)(w:ab):Prop where
 err:eb w v E
 b5:∃an,dK w av an au room (eL w)
 YW:∀b,qQ aO b->uX w b
 ety:dp w
 z9:w.cell? ⟨bz,0,none⟩=some (.pointer (some ⟨av,0,none⟩))
 Aa:w.cell? ⟨bn,0,none⟩=some (.int .i64 i)
abbrev Ad(O:Nat->Prop)(aO:Nat)(b:Nat):Prop:=O b\/qQ aO b
noncomputable abbrev tm(O:Nat->Prop)(aO:Nat)(w:ab):ab:=cN (cd true) (Ad O aO) (qQ aO) w
def apW:(cd true).P.globals.size=2:=ah
def rM.apX(h:rM K i bz bn av an bL a9 ba au room aO bd bc bx O w): vi K i w (qQ aO) (cm (Ad O aO)) (tm O aO w) (fe au room bx 0).k bz bn av bz bn av bL a9 ba (.slice (some ⟨aO,bd,none⟩) bx.length bc) (.slice (some ⟨aO,bd,none⟩) bx.length bc) (YV aO av bz bn i (jZ au room bx 0) room (fe au room bx 0)) (YV aO av bz bn i (jZ au room bx 0) room (fe au room bx 0)):=by
 have D:∀b,O b->Ad O aO b/\¬qQ aO b:=λb f=>⟨.inl f,h.on f⟩;have r:cm (Ad O aO) aO=some aO:=dJ (.inr (.inr (.inr (.inr rfl))));have j:(tm O aO w).cell? ⟨bz,0,none⟩=some (.pointer (some ⟨av,0,none⟩)):=(by rw[sM,h.z9,mq,pv (.ptr (a:=⟨av,0,none⟩) (dJ (.inl h.b5.e4)))]);have l:(tm O aO w).cell? ⟨bn,0,none⟩=some (.int .i64 i):=(by rw[sM,h.Aa,mq,pv (.int _ _)]);refine⟨h.xE,h.lt,λg F _=> ?_,⟨dJ (.inl h.YS),h.on h.YS⟩,⟨dJ (.inl h.YT),h.on h.YT⟩,dJ (.inl h.b5.e4),j,l,h.tf,h.pF,h.tg,.slice (a:=⟨aO,bd,none⟩) _ _ r,λaP d=> ?_,λv w1 H=>⟨?_,H.z9,H.Aa⟩,λv wl Q d' H aP d=> ?_⟩
 .rw[apW]at F;refine dJ (.inr ?_);have:g=0\/g=1\/g=2:=U;rcases this with rfl|rfl|rfl
  .exact .inl rfl
  .exact .inr (.inl rfl)
  .exact .inr (.inr (.inl rfl))
 .have G:dh (a2 (tm O aO w) aP d) 0 av an au room false:=((h.b5.fu D).same (w':=a2 (tm O aO w) aP d) λ_ _=>rfl).at_;have cg:∀{b:Nat},O b->b≠0/\b≠1:=λ{b}f=>⟨λe=>h.on f (.inl e),λe=>h.on f (.inr (.inl e))⟩;have aa:Clear av an:=⟨(cg h.b5.e4).1,(cg h.b5.ind).1,(cg h.b5.e4).2,(cg h.b5.ind).2⟩;have hF:il (a2 (tm O aO w) aP d):=GV (V7 h.oP) rfl;have J:bH (a2 (tm O aO w) aP d) (.slice (some ⟨aO,bd,none⟩) bx.length bc) bx:=isB_same (isB_lon h.hD.1) λ_ _=>rfl;refine(UB av an 0 au room 0 aO bd bc bx _ G (dl _) aa hF J h.hD.2 rfl).mono ?_;rintro e w1⟨y,rfl,L,u,p,-⟩;have x:∀{b:Nat},qQ aO b->¬(b=av\/b=an):=λ{b}f q=>by
   rcases q with rfl|rfl
   .exact h.on h.b5.e4 f
   .exact h.on h.b5.ind f
  rw[UL]at u;refine⟨y,rfl,L,⟨an,dK.pM u⟩,λb f=> ?_,?_,p.cell (a:=⟨bz,0,none⟩) j (λq=> ?_),p.cell (a:=⟨bn,0,none⟩) l (λq=> ?_)⟩
  .have⟨c,t,z,M,N⟩:=h.Ql f;refine uX.keep ⟨c.map (fu (cd true).fn (cm (Ad O aO))),t,?_,by simpa using N⟩ p (x f);show(tm O aO w).heap[b]? =_
   rw[pw,M];simp[n4,f]
  .exact dp.keep (w:=a2 (tm O aO w) aP d) (S:=λb=>b=av\/b=an) (uW (CM (S:=Ad O aO) (R:=qQ aO) (C:=cd true) h.ety (.inr (.inr (.inr (.inl rfl))))) rfl) p (x (.inl rfl))
  .rcases q with q|q
   .exact h.Ir.1 q
   .exact h.Ir.2.1 q
  .rcases q with q|q
   .exact h.Ir.2.2.1 q
   .exact h.Ir.2.2.2 q
 .have:=H.err;revert this;generalize fe au room bx 0=E;intro this;cases E with
  |none=>exact .inl this
  |kind k=>exact .inr ⟨_,_,this⟩
  |file n k=>obtain⟨g,this,-⟩:=this;exact .inr ⟨_,_,this⟩
 .have A:dp (a2 wl aP d):=uW H.ety rfl;refine(E9 v _ _ A (H.err.same λ_ _=>rfl)).mono ?_;rintro e w1⟨rfl,hk⟩;refine⟨_,rfl,?_⟩;have⟨m,P⟩:=H.b5;have az:=hk.size;have B:∀b,eL (a2 wl aP d) b->w1.heap[b]? =(a2 wl aP d).heap[b]? :=λb ⟨T,xs,o⟩=>hk.block b o.lt id;refine⟨(H.err.same (w':=a2 wl aP d) λ_ _=>rfl).F8 hk (eB.none _),⟨m,?_⟩,λb f=>(H.YW b f).keep (w:=a2 wl aP d) hk id,A.keep hk id,hk.cell (w:=a2 wl aP d) H.z9 id,hk.cell (w:=a2 wl aP d) H.Aa id⟩;have s:dK (a2 wl aP d) av m (jZ au room bx 0) room (eL (a2 wl aP d)):=P.same λ_ _=>rfl;refine(s.same B).mono λb ⟨T,xs,o⟩=>⟨T,xs,hc o (B b ⟨T,xs,o⟩)⟩
def apY{Post:Nat->(Nat->Prop)->ab->Prop}(F:K.cW=link.tWg)(h:rM K i bz bn av an bL a9 ba au room aO bd bc bx O w)(j3:∀own w,vn K i av (jZ au room bx 0) room (fe au room bx 0) own w->Post i own w)(r:hg K w)(H:WgLive K w)(aa:hf K w)(d:Nat): dW Tryz.prog K i (oN Tryz.prog K h5 Post i (fe au room bx 0).k d {pc:=.ld} λ_=>0) ⟨O,0⟩ (G ((baseD 49).at ⟨#[.pointer (some ⟨K.Wg,0,none⟩),.pointer (some ⟨bz,0,none⟩),.pointer (some ⟨bL,0,none⟩),.pointer (some ⟨a9,0,none⟩),.pointer (some ⟨bn,0,none⟩),.pointer (some ⟨ba,0,none⟩),I,I,I,I,I,I,I,I,I,I,I,I],[]⟩ [.code xD]) [iE]) w:=by
 have J:∃e0,w.cell? ⟨K.bb,i,none⟩=some e0:=by
  obtain⟨cs,s,A⟩:=r;have:=h.lt;exact⟨cs[i],by simp[World.cell?,s,A,this]⟩
 obtain⟨e0,J⟩:=J;refine apU (cv0:=e0) h.apX F (λown w1 q=>j3 own w1 ?_) d ⟨⟨aa,H,r,λ_ _=>rfl,J,h.dx⟩,λb=>⟨λm=>⟨b,dJ (.inl m),h.on m⟩,λ⟨a,e,C⟩=> ?_⟩,rfl,.refl _,?_,λb ⟨a,e,C⟩=> ?_⟩
 .obtain⟨f,wl,v,x,aP,d,W,L,D,u,hQ,M,X,y,Y,N⟩:=q;have⟨P,hm⟩:=N.b5;have e:f av=some av:=L _ _ (dJ (.inl h.b5.e4));have ik:∀{b},eL wl b->¬qQ aO b:=λ{b}m C=>(uX.ajp (N.YW b C)) m;have Q:dK wl av P (jZ au room bx 0) room (eL wl):=hm.same λ_ _=>rfl;obtain⟨R,-,S⟩:=Q.wr u e;have ap:∀l,(∃b,eL wl b/\f b=some l)->own l/\l<W.heap.size:=λl ⟨b,s,A⟩=>⟨(D l).2 ⟨b,A,ik s⟩,(u.n0 A).2⟩;have T:eb wl v (fe au room bx 0):=N.err;have Z:∀l,own l->l<W.heap.size->w1.heap[l]? =W.heap[l]? :=λl s A=>M l A (.inl s);have j:∀n k g,fe au room bx 0=.file n k->x=.iface 84 (.pointer (some ⟨g,0,none⟩))->own g/\g<W.heap.size:=by
   intro n k g az B;subst B;rw[az]at T;obtain⟨g0,rfl,V⟩:=T;cases Y with
   |iface t q=>
    cases q with
    |ptr aF=>exact ap _ ⟨g0,⟨_,_,V⟩,aF⟩
  refine⟨R,_,x,S.same λl p=>Z l (ap l p).1 (ap l p).2,λl p=>(ap l p).1,y,?_,λn k g az B=>(j n k g az B).1⟩;have o:=T.wr u Y;revert o j;generalize fe au room bx 0=E;intro j o;cases E with
  |none=>exact o
  |kind k=>exact o
  |file n k=>
   obtain⟨g,B,nd⟩:=o;have:=j n k g rfl B;exact⟨g,B,hc nd (Z g this.1 this.2)⟩
 .have⟨s,rfl⟩:=za.1 e;exact s.resolve_right C
 .refine px.wr ⟨λb m=>⟨.inl rfl,.inr m,?_⟩,λb m=> ?_,by obtain⟨c,t,z,k,-⟩:=h.Iq;exact⟨(bQ.1 k).1,dl _⟩⟩
  .obtain⟨c,t,z,k,-⟩:=h.Ql m;exact⟨c,t,z,k⟩
  .rcases m with m|m
   .have⟨c,t,z,k⟩:=(h.row b m).row;exact⟨_,k,.inl ⟨c,t,z,rfl⟩⟩
   .obtain⟨c,t,z,k,-⟩:=h.Ql m;exact⟨_,k,.inl ⟨c,t,z,rfl⟩⟩
 .have⟨s,rfl⟩:=za.1 e;exact h.YU C
end
end Go.Proofs.YtlcdgbhigfgehabGreatDoor
