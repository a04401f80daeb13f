import Derived.Test.YtlcdgbhigfgehabGreatDoorQA08
import Derived.Test.YtlcdgbhigfgehabGreatDoorQB11
set_option linter.all false
set_option maxRecDepth 100000
set_option maxHeartbeats 16000000
namespace Go.Proofs.YtlcdgbhigfgehabGreatDoor
open Go Go.Ren
section
variable{C:bf}{R:Nat->Prop}{f:Ren}{w w':World}{N:Fn->Bool}
def hB(N:Fn->Bool)(f:Ren)(xs Mg:bJ):Prop:=xs.length=Mg.length/\∀(i:Nat)v v',xs[i]? =some v->Mg[i]? =some v'->aB N f v v'
def hB.nil:hB N f [] []:=⟨rfl,λi v v' h=>by simp at h⟩
def hB.cons_inv{x:ai}{xs l:bJ}(h:hB N f (x::xs) l):∃y c,l=y::c/\aB N f x y/\hB N f xs c:=by
 obtain⟨d,e⟩:=h;cases l with
 |nil=>simp at d
 |cons y c=>exact⟨y,c,rfl,e 0 _ _ rfl rfl,by simpa using d,λi v v' a b=>e (i+1) v v' (by simpa using a) (by simpa using b)⟩
def hB.zc{l:bJ}(h:hB N f [] l):l=[]:=by have:=h.1;cases l with|nil=>rfl|cons=>simp at this
def hB.V2{xs c l:bJ}(h:hB N f (xs++c) l):∃a b,l=a++b/\hB N f xs a/\hB N f c b:=by
 induction xs generalizing l with
 |nil=>exact⟨[],l,rfl,.nil,h⟩
 |cons x xs e=>
  obtain⟨y,m,rfl,g,j⟩:=hB.cons_inv h;obtain⟨a,b,rfl,d,k⟩:=e j;refine⟨y::a,b,rfl,⟨by simp[d.1],λi v v' p q=> ?_⟩,k⟩;cases i with
  |zero=>simp at p q;subst p;subst q;exact g
  |succ i=>exact d.2 i v v' (by simpa using p) (by simpa using q)
def iV{v v':ai}(a:ha v=true)(h:aB N f v v'):v'=v:=by cases h<;>first|rfl|(simp[ha]at a;done)|(exact absurd a aE)
def hB.flat{xs l:bJ}(a:∀x∈xs,ha x=true)(h:hB N f xs l):l=xs:=by
 induction xs generalizing l with
 |nil=>exact h.zc
 |cons x xs b=>
  obtain⟨y,g,rfl,c,d⟩:=hB.cons_inv h;rw[iV (a x ag) c,b (λz e=>a z (by simp[e])) d]
def sN(p:bR C R f w w'){g g':Nat}(e:f g=some g'){T:TypeId}{xs:bJ}(h:Own w g T xs):∃c,Own w' g' T c/\hB C.fn f xs c:=by
 obtain⟨q,r,k⟩:=h;have⟨o,u,m,n,j⟩:=p.obj _ _ e;rw[r]at m;cases m;rcases j with⟨_,x,ak,t,y,⟨⟩,rfl,d⟩|⟨_,j⟩
 .have s:xs=[]:=by
   cases xs with
   |nil=>rfl
   |cons a l=>simp at k
  subst s;have:ak= #[]:=(by have:=d.size;simp at this;exact CL this.symm);subst this;exact⟨[],⟨_,n,.inl (dl _)⟩,.nil⟩
 .cases j with
  |@cells x ak t z d=>
   refine⟨ak.toList,⟨q,by simpa using n,?_⟩,by simpa using d.size,λi v v' a b=>d.get i v v' (by simpa using a) (by simpa using b)⟩;have:=d.size;simp only[ub]at this;rw[El,<-this];exact k
def wT(r:bR C R f w w'){B:Nat}{T:TypeId}{aK n:Nat}{v v':ai}{xs:bJ}(h:Vec w B T aK v n xs)(p:aB C.fn f v v'): ∃d,Vec w' 0 T aK v' n d/\hB C.fn f xs d/\(∀j,v'.ownBlock=some j->∃b,v.ownBlock=some b/\f b=some j):=by
 obtain⟨q,s⟩:=h;rcases s with⟨rfl,rfl⟩|⟨g,cap,rest,rfl,z,ap,t,u,x⟩
 .cases p;have:xs=[]:=(by cases xs with|nil=>rfl|cons=>simp at q);subst this;exact⟨[],⟨ag,.inl ⟨rfl,rfl⟩⟩,.nil,λj k=>by simp[Value.ownBlock]at k⟩
 .cases p with
  |slice l c e=>
   obtain⟨A,o,y⟩:=sN r e ap;obtain⟨a,b,rfl,m,k⟩:=y.V2;refine⟨a,⟨by rw[<-m.1];exact q,.inr ⟨_,cap,b,rfl,dl _,o,?_,u,x⟩⟩,m,λj i=>⟨g,by simp[Value.ownBlock],?_⟩⟩
   .rw[cr,<-m.1,<-k.1,<-cr];exact t
   .simp[Value.ownBlock]at i;subst i;exact e
def V3(l:ar):∀x∈bT l,ha x=true:=by
 intro x a;obtain⟨i,af,rfl⟩:=Mh.1 a;have:(bT l)[i]? =some (bT l)[i]:=ag;simp[bT]at af⊢;rfl
def ajo{l:List (aI×ai)}{d:bJ}(h:hB N f (hM l) d):∃c:List (aI×ai),d=hM c/\c.map (·.1)=l.map (·.1)/\l.length=c.length/\∀(i:Nat)p e,l[i]? =some p->c[i]? =some e->e.1=p.1/\aB N f p.2 e.2:=by
 induction l generalizing d with
 |nil=>exact⟨[],h.zc,rfl,rfl,λi p e h=>by simp at h⟩
 |cons p l g=>
  change hB N f (tA p++hM l) d at h;obtain⟨a,b,rfl,j,k⟩:=h.V2;obtain⟨c,rfl,m,n,o⟩:=g k;obtain⟨y,r,rfl,s,t⟩:=hB.cons_inv j;obtain⟨z,w,rfl,u,v⟩:=hB.cons_inv t;obtain rfl:=v.zc;obtain rfl:=iV rfl s;refine⟨(p.1,z)::c,rfl,by simp[m],by simp[n],λi q a8 ay aF=> ?_⟩;cases i with
  |zero=>simp at ay aF;subst ay;subst aF;exact⟨rfl,u⟩
  |succ i=>exact o i q a8 (by simpa using ay) (by simpa using aF)
def V4(H:bR C R f w w'){B:Nat}{v v':ai}{l:List (aI×ai)}(h:ck w B v l)(J:aB C.fn f v v'): ∃m,ck w' 0 v' m/\m.map (·.1)=l.map (·.1)/\(∀g,v'.ownBlock=some g->∃b,v.ownBlock=some b/\f b=some g)/\∀a∈m,∀g,a.2.ownBlock=some g->∃p∈l,∃b,p.2.ownBlock=some b/\f b=some g:=by
 obtain⟨K,L,x,M⟩:=wT H h.vec J;obtain⟨m,rfl,N,u,O⟩:=ajo x;have data:∀(i:Nat)a,m[i]? =some a->∃p,l[i]? =some p/\a.1=p.1/\Vec w' 0 5 1 a.2 a.1.data.length (bT a.1.data)/\∀g,a.2.ownBlock=some g->∃b,p.2.ownBlock=some b/\f b=some g:=by
  intro i a c;have af:i<l.length:=(by rw[u];exact(qV.1 c).1);obtain⟨e,q⟩:=O i l[i] a (fb af) c;obtain⟨S,y,z,P⟩:=wT H (h.data l[i] (dy af)) q;have:=z.flat (V3 _);subst this;exact⟨l[i],fb af,e,by rw[e];exact y,P⟩
 refine⟨m,⟨by rw[<-u];exact L,λa c=> ?_,?_⟩,N,M,λa c g A=> ?_⟩
 .obtain⟨i,af⟩:=GR c;obtain⟨p,_,_,d,_⟩:=data i a af;exact d
 .rw[we];intro i j af aa D k hk E;obtain⟨p,ay,_,_,y⟩:=data i m[i] (fb af);obtain⟨q,aF,_,_,z⟩:=data j m[j] (fb aa);obtain⟨b,F,n⟩:=y k hk;obtain⟨Q,G,r⟩:=z k E;have:b=Q:=f.inj _ _ _ n r;subst this;have s:i<l.length:=(by rw[u];exact af);have t:j<l.length:=(by rw[u];exact aa);have x:=we.1 h.two i j s t D;rw[fb s]at ay;rw[fb t]at aF;cases ay;cases aF;exact x b F G
 .obtain⟨i,af⟩:=GR c;obtain⟨p,e,_,_,o⟩:=data i a af;obtain⟨b,F,n⟩:=o g A;exact⟨p,ze e,b,F,n⟩
structure dK(w:ab)(av an:Nat)(au:List aI)(room:Int)(A:Nat->Prop):Prop where
 b5:jT w av an 0 room false
 zf:∃live x s c m,c0 w an live x (.slice none 0 0) s c/\ck w 0 x m/\m.map (·.1)=au/\(∀b,x.ownBlock=some b->A b)/\∀p∈m,∀b,p.2.ownBlock=some b->A b
 tree:dc au
 iL:0<=room/\room<=1048576
 e4:A av
 ind:A an
def dK.at_{av an:Nat}{au:List aI}{room:Int}{A:Nat->Prop}(h:dK w av an au room A):dh w 0 av an au room false:=by
 obtain⟨a,x,s,c,m,b,d,e,-⟩:=h.zf;exact⟨h.b5,⟨a,x,_,s,c,m,b,d,e,λ_=>rfl⟩,h.tree,h.iL⟩
def dK.of{B av an:Nat}{au:List aI}{room:Int}(h:dh w B av an au room false):dK w av an au room λb=>b<w.heap.size/\(b=av\/b=an\/B<=b):=by
 have⟨a,x,y,s,c,m,f,d,g,i⟩:=h.o6;obtain rfl:=i rfl;refine⟨h.b5,⟨a,x,s,c,m,f,d.lift (dl _),g,λb e=> ?_,λp j b e=> ?_⟩,h.tree,h.iL,⟨Own.lt h.b5,.inl rfl⟩,?_⟩
 .have:=d.vec.lt b e;exact⟨this.2,.inr (.inr this.1)⟩
 .have:=(d.data p j).lt b e;exact⟨this.2,.inr (.inr this.1)⟩
 .have⟨xs,o⟩:=f.own;exact⟨o.lt,.inr (.inl rfl)⟩
def dK.mono{av an:Nat}{au:List aI}{room:Int}{A uH:Nat->Prop}(h:dK w av an au room A)(k:∀b,A b->uH b):dK w av an au room uH:=by
 have⟨a,x,s,c,m,e,f,g,i,j⟩:=h.zf;exact⟨h.b5,⟨a,x,s,c,m,e,f,g,λb d=>k b (i b d),λp l b d=>k b (j p l b d)⟩,h.tree,h.iL,k _ h.e4,k _ h.ind⟩
def dK.wr(z:bR C R f w w'){av an j:Nat}{au:List aI}{room:Int}{A:Nat->Prop}(h:dK w av an au room A)(e:f av=some j):∃d,f an=some d/\dK w' j d au room λk=>∃b,A b/\f b=some k:=by
 obtain⟨xs,o,r⟩:=sN z e h.b5;obtain⟨D,aa,rfl,l,r⟩:=r.cons_inv;obtain⟨E,l1,rfl,n,r⟩:=r.cons_inv;obtain⟨J,l2,rfl,t,r⟩:=r.cons_inv;obtain⟨K,L,rfl,u,r⟩:=r.cons_inv;obtain⟨M,N,rfl,v,r⟩:=r.cons_inv;obtain rfl:=r.zc;obtain rfl:=iV rfl l;obtain rfl:=iV rfl n;obtain rfl:=iV rfl u;obtain rfl:=iV rfl v;cases t with
 |@ptr a d B=>
  refine⟨d,B,?_⟩;obtain⟨g,x,s,c,m,y,O,P,Q,S⟩:=h.zf;have F:∃ak,aB C.fn f x ak/\c0 w' d g ak (.slice none 0 0) s c:=by
   rcases y with⟨rfl,y⟩|⟨rfl,y⟩
   .obtain⟨T,G,r⟩:=sN z B y;obtain⟨D,aa,rfl,l,r⟩:=r.cons_inv;obtain⟨E,l1,rfl,n,r⟩:=r.cons_inv;obtain⟨J,l2,rfl,t,r⟩:=r.cons_inv;obtain⟨K,L,rfl,u,r⟩:=r.cons_inv;obtain⟨M,N,rfl,v,r⟩:=r.cons_inv;obtain rfl:=r.zc;obtain rfl:=iV rfl n;obtain rfl:=iV rfl t;obtain rfl:=iV rfl u;obtain rfl:=iV rfl v;exact⟨D,l,.inl ⟨rfl,G⟩⟩
   .obtain⟨T,G,r⟩:=sN z B y;obtain⟨D,aa,rfl,l,r⟩:=r.cons_inv;obtain⟨E,l1,rfl,n,r⟩:=r.cons_inv;obtain⟨J,l2,rfl,t,r⟩:=r.cons_inv;obtain⟨K,L,rfl,u,r⟩:=r.cons_inv;obtain⟨M,N,rfl,v,r⟩:=r.cons_inv;obtain rfl:=r.zc;obtain rfl:=iV rfl l;obtain rfl:=iV rfl t;obtain rfl:=iV rfl u;obtain rfl:=iV rfl v;exact⟨E,n,.inr ⟨rfl,G⟩⟩
  obtain⟨ak,az,hd⟩:=F;obtain⟨V,W,X,Y,Z⟩:=V4 z O az;exact⟨o,⟨g,ak,s,c,V,hd,W,by rw[X,P],λk i=>by obtain⟨b,p,q⟩:=Y k i;exact⟨b,Q b p,q⟩,λhr H k i=>by obtain⟨p,b8,b,dA,c9⟩:=Z hr H k i;exact⟨b,S p b8 b dA,c9⟩⟩,h.tree,h.iL,⟨av,h.e4,e⟩,⟨an,h.ind,B⟩⟩
variable{S:Nat->Prop}
def V5{xs:bJ}(h:∀x∈xs,aB N (cm S) x x):xs.map (fu N (cm S))=xs:=by
 induction xs with
 |nil=>rfl
 |cons x xs a=>rw[mW,pv (h x ag),a λy b=>h y (by simp[b])]
def GU{g:Nat}{T:TypeId}{xs:bJ}(a:¬R g)(h:Own w g T xs):Own (cN C S R w) g T (xs.map (fu C.fn (cm S))):=by
 obtain⟨b,c,d⟩:=h;refine⟨b,?_,by simpa using d⟩;rw[pw,c];simp[n4,a]
def zg{g:Nat}{T:TypeId}{xs:bJ}(a:¬R g)(b:∀x∈xs,aB C.fn (cm S) x x)(h:Own w g T xs):Own (cN C S R w) g T xs:=by
 have:=GU (C:=C) (S:=S) a h;rwa[V5 b]at this
def wU{B:Nat}{T:TypeId}{aK n:Nat}{v:ai}{xs:bJ}(c:∀b,v.ownBlock=some b->¬R b)(d:∀x∈xs,aB C.fn (cm S) x x)(h:Vec w B T aK v n xs):Vec (cN C S R w) B T aK v n xs:=by
 obtain⟨e,a⟩:=h;refine⟨e,?_⟩;rcases a with a|⟨g,cap,rest,rfl,f,ap,i,j,k⟩
 .exact .inl a
 .refine .inr ⟨g,cap,rest.map (fu C.fn (cm S)),rfl,f,?_,by simpa using i,j,k⟩;have:=GU (C:=C) (S:=S) (c g rfl) ap;rwa[pS,V5 d]at this
def uV{v:ai}{T:TypeId}{B aK n:Nat}{xs:bJ}(h:Vec w B T aK v n xs)(c:∀b,v.ownBlock=some b->S b):aB N (cm S) v v:=by
 rcases h.2 with⟨rfl,_⟩|⟨g,cap,rest,rfl,_⟩
 .exact .mr _ _
 .exact .slice (a:=⟨g,0,none⟩) _ _ (dJ (c g rfl))
def wV{x:ai}(h:ha x=true):aB N (cm S) x x:=.flat (by unfold flat;cases x<;>first|exact h|(simp[ha]at h))
def V6{B:Nat}{v:ai}{l:List (aI×ai)}(h:ck w B v l)(e:∀b,v.ownBlock=some b->¬R b)(hd:∀p∈l,∀b,p.2.ownBlock=some b->S b/\¬R b):ck (cN C S R w) B v l:=by
 refine⟨wU e (λx a=> ?_) h.vec,λp c=>wU (λb d=>(hd p c b d).2) (λx a=>wV (V3 _ x a)) (h.data p c),h.two⟩;unfold hM at a;have⟨p,c,a⟩:=List.mem_flatMap.1 a;unfold tA at a;simp only[dY,gE,gn]at a;rcases a with rfl|rfl
 .exact .string _
 .exact uV (h.data p c) λb d=>(hd p c b d).1
def dK.fu{av an:Nat}{au:List aI}{room:Int}{A:Nat->Prop}(h:dK w av an au room A)(e:∀b,A b->S b/\¬R b):dK (cN C S R w) av an au room A:=by
 have⟨f,x,s,c,m,g,k,o,j,l⟩:=h.zf;have n:aB C.fn (cm S) x x:=uV k.vec λb i=>(e b (j b i)).1;refine⟨zg (e _ h.e4).2 (λz d=> ?_) h.b5,⟨f,x,s,c,m,?_,V6 k (λb i=>(e b (j b i)).2) (λp q b i=>e b (l p q b i)),o,j,l⟩,h.tree,h.iL,h.e4,h.ind⟩
 .simp only[dY,gE,gn]at d;rcases d with rfl|rfl|rfl|rfl|rfl
  .exact .int _ _
  .exact .int _ _
  .exact .ptr (a:=⟨an,0,none⟩) (dJ (e _ h.ind).1)
  .exact .int _ _
  .exact .bool _
 .rcases g with⟨rfl,g⟩|⟨rfl,g⟩
  .refine .inl ⟨rfl,zg (e _ h.ind).2 (λz d=> ?_) g⟩;simp only[dY,gE,gn]at d;rcases d with rfl|rfl|rfl|rfl|rfl
   .exact n
   .exact .mr _ _
   .exact .int _ _
   .exact .int _ _
   .exact .int _ _
  .refine .inr ⟨rfl,zg (e _ h.ind).2 (λz d=> ?_) g⟩;simp only[dY,gE,gn]at d;rcases d with rfl|rfl|rfl|rfl|rfl
   .exact .mr _ _
   .exact n
   .exact .int _ _
   .exact .int _ _
   .exact .int _ _
def hc{g:Nat}{T:TypeId}{xs:bJ}(h:Own w g T xs)(k:w'.heap[g]? =w.heap[g]?):Own w' g T xs:=by
 obtain⟨a,b,c⟩:=h;exact⟨a,k.trans b,c⟩
def gQ{B:Nat}{T:TypeId}{aK n:Nat}{v:ai}{xs:bJ}(h:Vec w B T aK v n xs)(k:∀b,v.ownBlock=some b->w'.heap[b]? =w.heap[b]?):Vec w' B T aK v n xs:=by
 obtain⟨a,c⟩:=h;refine⟨a,c.imp id λ⟨g,cap,rest,e,d,ap,f⟩=>⟨g,cap,rest,e,d,hc ap (k g (by rw[e];rfl)),f⟩⟩
def dK.same{av an:Nat}{au:List aI}{room:Int}{A:Nat->Prop}(h:dK w av an au room A)(k:∀b,A b->w'.heap[b]? =w.heap[b]?):dK w' av an au room A:=by
 have⟨a,x,s,c,m,d,e,l,g,i⟩:=h.zf;refine⟨hc h.b5 (k _ h.e4),⟨a,x,s,c,m,?_,⟨gQ e.vec λb f=>k b (g b f),λp j=>gQ (e.data p j) λb f=>k b (i p j b f),e.two⟩,l,g,i⟩,h.tree,h.iL,h.e4,h.ind⟩;rcases d with⟨rfl,d⟩|⟨rfl,d⟩
 .exact .inl ⟨rfl,hc d (k _ h.ind)⟩
 .exact .inr ⟨rfl,hc d (k _ h.ind)⟩
end
end Go.Proofs.YtlcdgbhigfgehabGreatDoor
namespace Go.Proofs.YtlcdgbhigfgehabGreatDoor
open Go Go.Ren
section
variable{C:bf}{R S:Nat->Prop}{f:Ren}{w w':World}{N:Fn->Bool}
def eb.wr(c:bR C R f w w'){v v':ai}{x:cZ}(h:eb w v x)(a:aB C.fn f v v'):eb w' v' x:=by
 cases x with
 |none=>obtain rfl:=h;cases a;rfl
 |kind k=>
  obtain rfl:=h;cases a with|iface t q=>cases q;rfl
 |file n k=>
  obtain⟨g,rfl,ap⟩:=h;cases a with
  |iface t q=>
   cases q with
   |ptr e=>
    have⟨xs,o,r⟩:=sN c e ap;obtain rfl:=r.flat (by intro z b;simp at b;rcases b with rfl|rfl<;>rfl);exact⟨_,rfl,o⟩
def eb.fu{v:ai}{x:cZ}(h:eb w v x)(b:∀g,v=.iface 84 (.pointer (some ⟨g,0,none⟩))->¬R g):eb (cN C S R w) v x:=by
 cases x with
 |none=>exact h
 |kind k=>exact h
 |file n k=>
  obtain⟨g,e,ap⟩:=h;refine⟨g,e,zg (b g e) (λz a=> ?_) ap⟩;simp at a;rcases a with rfl|rfl
  .exact .string _
  .exact .int _ _
def eb.same{v:ai}{x:cZ}(h:eb w v x)(k:∀g,v=.iface 84 (.pointer (some ⟨g,0,none⟩))->w'.heap[g]? =w.heap[g]?):eb w' v x:=by
 cases x with
 |none=>exact h
 |kind k=>exact h
 |file n k'=>obtain⟨g,e,ap⟩:=h;exact⟨g,e,hc ap (k g e)⟩
def isB_lon{v:ai}{l:ar}(h:bH w v l):bH (cN C S R w) v l:=by
 rcases h with h|⟨b,c,cap,a,d,rfl,f,g,j,k⟩
 .exact .inl h
 .have e:(cN C S R w).heap[b]? =some (n4 C S R b (.cells a 5 d)):=(by rw[pw,j];rfl);refine .inr ⟨b,c,cap,a.map (Ren.fu C.fn (cm S)),_,rfl,f,g,e,λi af=> ?_⟩;rw[oF,k i af];simp only[mq];rw[pv (.int _ _)]
def isB_same{v:ai}{l:ar}(h:bH w v l)(k:∀b,v.ownBlock=some b->w'.heap[b]? =w.heap[b]?):bH w' v l:=by
 rcases h with h|⟨b,a,cap,c,d,rfl,e,f,g,i⟩
 .exact .inl h
 .exact .inr ⟨b,a,cap,c,d,rfl,e,f,(k b rfl).trans g,i⟩
def isB_sameR{p:Prop}{v:ai}{l:ar}(h:bH w v l/\p)(k:∀b,v.ownBlock=some b->w'.heap[b]? =w.heap[b]?):bH w' v l/\p:=⟨isB_same h.1 k,h.2⟩
def isB_wr(B:bR C R f w w'){v v':ai}{l:ar}(h:bH w v l)(p:aB C.fn f v v'):bH w' v' l/\∀g,v'.ownBlock=some g->∃b,v.ownBlock=some b/\f b=some g:=by
 rcases h with⟨rfl,rfl⟩|⟨b,j,cap,D,G,rfl,q,r,E,s⟩
 .cases p;exact⟨.inl ⟨rfl,rfl⟩,λg F=>by simp[Value.ownBlock]at F⟩
 .cases p with
  |slice l c e=>
   have⟨o,H,y,A,k⟩:=B.obj _ _ e;rw[E]at y;cases y;rcases k with⟨_,x,ak,t,aa,⟨⟩,rfl,m⟩|⟨_,k⟩
   .refine⟨.inr ⟨_,j,cap,ak,_,rfl,q,r,A,λi af=> ?_⟩,λg a=>⟨b,by simp[Value.ownBlock],?_⟩⟩
    .have⟨u,n,d⟩:=m.some (s i af);cases d;exact n
    .simp[Value.ownBlock]at a;subst a;exact e
   .cases k with
    |@cells x ak t z m=>
     refine⟨.inr ⟨_,j,cap,ak,_,rfl,q,r,A,λi af=> ?_⟩,λg a=>⟨b,by simp[Value.ownBlock],?_⟩⟩
     .have⟨u,n,d⟩:=m.some (s i af);cases d;exact n
     .simp[Value.ownBlock]at a;subst a;exact e
def V7(h:il w):il (cN C S R w):=by
 obtain⟨T,u,h⟩:=h;have:(cN C S R w).cell? ⟨1,0,none⟩=some (Ren.fu C.fn (cm S) (.iface T u)):=(by rw[sM,h];rfl);have q:=GQ (N:=C.fn) (f:=cm S) (.iface T u);generalize Ren.fu C.fn (cm S) (.iface T u)=z at q this;cases q with
 |iface t q=>exact⟨T,_,this⟩
 |de e=>cases e
def CM(h:dp w)(d:S 2):dp (cN C S R w):=by
 unfold dp at h⊢;rw[sM,h,mq,pv];refine .iface _ (.agg rfl λi v v' c b=> ?_);rw[c]at b;cases b;cases i with
 |zero=>simp at c;subst c;exact .ptr (a:=⟨2,_,none⟩) (dJ d)
 |succ i=>simp at c
def GV(h:il w)(k:w'.heap[1]? =w.heap[1]?):il w':=by
 obtain⟨T,u,h⟩:=h;refine⟨T,u,?_⟩;rw[<-h];simp only[World.cell?];rw[k]
def uW(h:dp w)(k:w'.heap[0]? =w.heap[0]?):dp w':=by
 unfold dp at h⊢;rw[<-h];simp only[World.cell?];rw[k]
end
section
variable{C:bf}{R S:Nat->Prop}{f:Ren}{w w':World}{N:Fn->Bool}
def eL(w:ab)(b:Nat):Prop:=∃T xs,Own w b T xs
def Vec.qm{B:Nat}{T:TypeId}{aK n:Nat}{v:ai}{xs:bJ}(h:Vec w B T aK v n xs):∀b,v.ownBlock=some b->eL w b:=by
 intro b a;rcases h.2 with⟨rfl,_⟩|⟨g,cap,rest,rfl,_,ap,_⟩
 .simp[Value.ownBlock]at a
 .simp[Value.ownBlock]at a;subst a;exact⟨_,_,ap⟩
def dK.pM{B av an:Nat}{au:List aI}{room:Int}(h:dh w B av an au room false):dK w av an au room (eL w):=by
 have⟨a,x,y,s,c,m,d,b,e,f⟩:=h.o6;obtain rfl:=f rfl;refine⟨h.b5,⟨a,x,s,c,m,d,b.lift (dl _),e,b.vec.qm,λp g=>(b.data p g).qm⟩,h.tree,h.iL,⟨_,_,h.b5⟩,?_⟩;have⟨xs,o⟩:=d.own;exact⟨_,_,o⟩
def dK.Mi{av an:Nat}{au:List aI}{room:Int}{A:Nat->Prop}(h:dK w av an au room A):dK w av an au room λb=>A b/\eL w b:=by
 have⟨a,x,s,c,m,f,e,i,j,k⟩:=h.zf;refine⟨h.b5,⟨a,x,s,c,m,f,e,i,λb d=>⟨j b d,e.vec.qm b d⟩,λp g b d=>⟨k p g b d,(e.data p g).qm b d⟩⟩,h.tree,h.iL,⟨h.e4,_,_,h.b5⟩,?_⟩;have⟨xs,o⟩:=f.own;exact⟨h.ind,_,_,o⟩
def eL.row{b:Nat}(h:eL w b):∃c t z,w.heap[b]? =some (.cells c t z):=by
 obtain⟨T,xs,a,h,_⟩:=h;exact⟨_,_,_,h⟩
def uX(w:ab)(b:Nat):Prop:=∃c t,w.heap[b]? =some (.cells c t (0,c.size))/\0<c.size
def uX.ajp{b:Nat}(h:uX w b):¬eL w b:=by
 rintro⟨T,xs,i,f,d⟩;obtain⟨c,t,a,e⟩:=h;rw[f]at a;injection a with a;injection a with ay aF g;subst ay;subst g;simp at d e;subst d;simp at e
def uX.keep{b:Nat}{S:Nat->Prop}(h:uX w b)(k:Fr S w w')(d:¬S b):uX w' b:=by
 obtain⟨c,t,a,e⟩:=h;exact⟨c,t,(k.block b (bQ.1 a).1 d).trans a,e⟩
end
end Go.Proofs.YtlcdgbhigfgehabGreatDoor
