import Derived.Test.YtlcdgbhigfgehabGreatDoorQB09
set_option linter.all false
set_option maxRecDepth 100000
set_option maxHeartbeats 16000000
namespace Go.Proofs.YtlcdgbhigfgehabGreatDoor
open Go.RowKit Go.Op

structure ck(w:ab)(B:Nat)(v:ai)(l:List (aI×ai)):Prop where
 vec:Vec w B 37 2 v l.length (hM l)
 data:∀p∈l,Vec w B 5 1 p.2 p.1.data.length (bT p.1.data)
 two:l.Pairwise λp q=>∀k,p.2.ownBlock=some k->q.2.ownBlock≠some k
section
variable{w w1:World}{S:Nat->Prop}{B:Nat}{v:Value}{l:List (aI×Value)}
def ck.nil(w:ab)(B:Nat):ck w B (.slice none 0 0) []:=⟨Vec.nil _ _ _ _,λ_ h=>by simp at h,List.Pairwise.nil⟩
def ck.p6(h:ck w B v l):ez w B v l:=⟨h.vec,λp a=>(h.data p a).isB,λp a k hk=>(h.data p a).lt k hk⟩
def ck.keep(h:ck w B v l)(k:Fr S w w1)(c:∀b,v.ownBlock=some b->¬S b)(hd:∀p∈l,∀b,p.2.ownBlock=some b->¬S b):ck w1 B v l:=⟨h.vec.keep k c,λp a=>(h.data p a).keep k (hd p a),h.two⟩
def ck.br(h:ck w B v l)(k:Fr aD w w1):ck w1 B v l:=h.keep k (λ_ _ h=>h) (λ_ _ _ _ h=>h)
def ck.lift{B':Nat}(h:ck w B v l)(a:B'<=B):ck w B' v l:=⟨h.vec.mono a,λp b=>(h.data p b).mono a,h.two⟩
end
structure sg(l:List aI)(k:Nat):Prop where
 ec:∀f∈l,∃i,i<k/\i<8/\f.name=[UInt8.ofNat (97+i)]
 len:∀f∈l,f.data.length<=300
 up:l.Pairwise λf g=>bytesLess f.name g.name=true
 yc:l.length<=k
def sg.isTree{l:List aI}{k:Nat}(h:sg l k)(hk:k<=8):dc l:=by
 refine⟨λf a=>⟨?_,h.len f a⟩,h.up,dU h.yc hk⟩;obtain⟨i,-,af,b⟩:=h.ec f a;rw[b];have:i=0\/i=1\/i=2\/i=3\/i=4\/i=5\/i=6\/i=7:=U;rcases this with rfl|rfl|rfl|rfl|rfl|rfl|rfl|rfl<;>decide
def acf(i k:Nat)(h:i<k)(hk:k<8):bytesLess [UInt8.ofNat (97+i)] [UInt8.ofNat (97+k)]=true:=by
 have a:i=0\/i=1\/i=2\/i=3\/i=4\/i=5\/i=6:=U;have b:k=1\/k=2\/k=3\/k=4\/k=5\/k=6\/k=7:=U;rcases a with rfl|rfl|rfl|rfl|rfl|rfl|rfl<;>rcases b with rfl|rfl|rfl|rfl|rfl|rfl|rfl<;>first|decide|(exfalso;omega)
def sg.snoc{l:List aI}{k:Nat}(h:sg l k)(hk:k<8)(d:ar)(hd:d.length<=300):sg (l++ [⟨[UInt8.ofNat (97+k)],d⟩]) (k+1):=by
 refine⟨λf a=> ?_,λf a=> ?_,?_,by simp;exact h.yc⟩
 .rcases fB.1 a with a|a
  .have⟨i,c,e,b⟩:=h.ec f a;exact⟨i,U,e,b⟩
  .obtain rfl:=bK.1 a;exact⟨k,U,hk,rfl⟩
 .rcases fB.1 a with a|a
  .exact h.len f a
  .obtain rfl:=bK.1 a;exact hd
 .rw[rZ];refine⟨h.up,tJ _ _,λf a g j=> ?_⟩;obtain rfl:=bK.1 j;have⟨i,c,e,b⟩:=h.ec f a;rw[b];exact acf i k c hk
def sg.mono{l:List aI}{k:Nat}(h:sg l k):sg l (k+1):=⟨λf a=>by have⟨i,d,b,c⟩:=h.ec f a;exact⟨i,U,b,c⟩,h.len,h.up,by have:=h.yc;omega⟩
def acg(k:Nat)(h:k<8):bT [UInt8.ofNat (97+k)]=[.int .u8 (97+ (k:Int))]:=by
 have:(UInt8.ofNat (97+k)).toNat=97+k:=a5;unfold bT;rw[mW,tz,this];simp
def JW(a:Option Addr)(n c:Nat)(z:tB)(i:Int)(w:ab)(h:oj w a n z)(dw:∀s∈z,s.size<=maxLen)(cJ:n<=maxLen)(_b1: -9223372036854775808<=i)(_b2:i<=9223372036854775807): Calls aj.prog 9 #[.slice a n c,.int .i64 i] w λe w'=>∃v m,e=.returned v/\dc (m.map (·.1))/\ck w' w.heap.size v m/\Fr aD w w':=by
 have H:=ae h;have tN:=ae dw;obtain rfl:=h.len;unfold maxLen at cJ;clear h dw;go_enter aj.func9,Tryz.ntmps9;go_wp2_with fail;go_loopw [5,6] (λJX X wr=>∃(k:Nat)(m:List (aI×ai)),k<=z.length/\k<=8/\X=.int .i64 k/\Fr aD w wr/\sg (m.map (·.1)) k/\ck wr w.heap.size JX m) (λ_ X _=>8 - (intOf X).toNat)
 case atStart=>exact⟨0,[],dl _,dl _,rfl,Fr.refl _ _,⟨λf h=>by simp at h,λf h=>by simp at h,List.Pairwise.nil,bh _⟩,ck.nil _ _⟩
 case round=>
  obtain⟨k,m,hk,K,rfl,g,A,B⟩:=hrel;obtain⟨Sf,E5,Y,-⟩:=B.vec.shape;subst Y;have o:=ae g;have r:=ae A;have d:=ae B;have yg:m.length<=8:=(by have:=A.yc;rw[pW]at this;omega);have nF:=g.size;clear A B;by_cases C:k<z.length
  .have Z:decide ((k:Int)< (z.length:Int))=true:=(by simpa using C);by_cases x:k<8
   .have JY:decide ((k:Int)< (8:Int))=true:=a5;obtain⟨mj,Jo,rfl,eP,-⟩:=(H.o.keep g).at_ k C;have ach:=tN.o z[k] (dy _);unfold maxLen at ach;generalize z[k]=Sg at *;clear g;have Bj:IntKind.u8.wrap (97+ (k:Int))=97+ (k:Int):=v0 _ U;have y:=acg k x;have L:=ae y;clear y;go_wp2_with fail
    .refine(aao _ _ 300 _ rfl).mono ?_;rintro e w'⟨rfl,rfl⟩;have M:=aan Sg 300;generalize AA Sg 300=s at M⊢;have cc:Fr aD wr (wr.alloc (.cells #[.int .u8 (97+k)] 5)):=(Fr.refl _ _).alloc _;have N:bH (wr.alloc (.cells #[.int .u8 (97+k)] 5)) (.slice (some ⟨wr.heap.size,0,none⟩) 1 1) [UInt8.ofNat (97+k)]:=bH.Q6 (cap:=1) (l:=[UInt8.ofNat (97+k)]) (rest:=[]) (Own.alloc wr #[.int .u8 (97+k)] 5) (by rw[L.o];rfl) (bh _) eH;have nC:=xT (P:=aj.prog) _ 25 9 5 _ _ aj.underlying25 aj.underlying5 aj.underlying9 N;have nB:=ae cc;have q8:=cc.size;clear cc N eP;go_wp2_with fail;obtain⟨cap,rest,cU,r1,r2,r3,rS,Aw,JZ,aci,-⟩:=aad (P:=aj.prog) (wr.alloc (.cells #[.int .u8 (97+k)] 5)) 9 25 5 s aj.underlying9 aj.underlying25 aj.underlying5 U;rw[r1];clear r1;have D:s.data.toList.length=s.size:=ag;have O:(wr.alloc (.cells #[.int .u8 (97+k)] 5)).heap.size=wr.heap.size+1:=ag;obtain⟨an,Q⟩:∃an,(wr.alloc (.cells #[.int .u8 (97+k)] 5)).heap.size=an:=⟨_,rfl⟩;rw[Q]at rS O;subst O;have t:Vec cU w.heap.size 5 1 (.slice (some ⟨wr.heap.size+1,0,none⟩) s.size cap) s.size (bT s.data.toList):=⟨ag,.inr ⟨wr.heap.size+1,cap,rest,rfl,U,rS,by rw[cr,IZ,D];omega,r2,r3⟩⟩;have R:=ae t;have S:=ae (nB.o.step JZ (λ_ h _=>h));have RQ:=JZ.size;have T:=ae D;have AJ:=ae (show(⟨#[97+UInt8.ofNat k]⟩:dI)=⟨[UInt8.ofNat (97+k)].toArray⟩ by simp);have E:=ae (d.o.vec.keep S.o (λ_ _ h=>h));clear r2 r3 rS Aw JZ aci nC t D Q;go_wp2_with (at_builtin;refine fP rfl _ _ _ rfl w.heap.size 37 2 40 Eo (E.o.keep ((Fr.refl aD _).alloc _) (λ_ _ h=>h)) rfl (m:=1) (Reads.new _ _ _ _ (by first|omega|simp) _ _) rfl rfl (Es _ _ _ _) eH U a5 ?_;intro v6 cI F az ER acj;obtain⟨m0,pZ,Bl,-⟩:=F.shape;subst Bl;have nJ:=ae F;have G:=ae az;clear F az ER acj);have u:Fr aD cU (cU.alloc (.cells #[.string ⟨#[97+UInt8.ofNat k]⟩,.slice (some ⟨wr.heap.size+1,0,none⟩) s.size cap] 37)):=(Fr.refl _ _).alloc _;have V:Fr aD wr _:=S.o.step u (λ_ h _=>h);have W:=E.o.keep u (λ_ _ h=>h);have t:=(R.o.keep u (λ_ _ h=>h)).keep G.o (λb aa j=>(R.o.keep u (λ_ _ h=>h)).sd W aE b aa j);refine⟨⟨k+1,m++ [(⟨[UInt8.ofNat (97+k)],s.data.toList⟩,.slice (some ⟨wr.heap.size+1,0,none⟩) s.size cap)],U,U,by go_num,(o.o.step V (λ_ h _=>h)).step G.o (λb aa bO=>by have:=(E.o.lt b aa).1;omega),by rw[pS];exact r.o.snoc x _ (by rw[T.o];exact M),⟨?_,?_,?_⟩⟩,by simp[intOf];omega⟩
     .have bP:=nJ.o;rw[AJ.o]at bP;rw[cr,Ep];exact bP
     .intro p J;rcases fB.1 J with J|J
      .have dB:=(d.o.data p J).keep V (λ_ _ h=>h);exact dB.keep G.o (λb aa j=>dB.sd W aE b aa j)
      .obtain rfl:=bK.1 J;rw[T.o];exact t
     .rw[rZ];refine⟨d.o.two,tJ _ _,λp J q b9 b aa j=> ?_⟩;obtain rfl:=bK.1 b9;have bD:=((d.o.data p J).lt b aa).2;have cb:wr.heap.size+1=b:=(by simpa[Value.ownBlock]using j);omega
    .exact⟨⟨k+1,m,U,U,by go_num,o.o,r.o.mono,d.o⟩,by simp[intOf];omega⟩
   .have JY:decide ((k:Int)< (8:Int))=false:=a5;clear g;go_wp2_with fail;go_ret;exact⟨_,m,rfl,r.o.isTree K,d.o,o.o⟩
  .have Z:decide ((k:Int)< (z.length:Int))=false:=(by simpa using C);clear g;go_wp2_with fail;go_ret;exact⟨_,m,rfl,r.o.isTree K,d.o,o.o⟩
end Go.Proofs.YtlcdgbhigfgehabGreatDoor
namespace Go.Proofs.YtlcdgbhigfgehabGreatDoor
open Go.RowKit

def adh(w:ab)(l m:List aI)(e:Ending)(w':ab):Prop:=∃b:Bool,e=.returned (.bool b)/\(b=true↔l=m)/\Fr aD w w'
def adi(v v2:ai)(l m:List (aI×ai))(B V:Nat)(w:ab)(h:ez w B v l)(J:ez w V v2 m)(cJ:l.length<=8)(R:m.length<=8): Calls aj.prog 15 #[v,v2] w (adh w (l.map (·.1)) (m.map (·.1))):=by
 have H:=ae h;have W:=ae J;obtain⟨nS,si,rfl,-⟩:=h.vec.shape;obtain⟨X,Y,rfl,-⟩:=J.vec.shape;clear h J;by_cases b:l.length=m.length
 .have S:=ae b;have Z:((l.length:Int)==(m.length:Int))=true:=a5;have c9:((l.length:Int) !=(m.length:Int))=false:=a5;clear b;go_enter aj.func15,Tryz.ntmps15;go_wp2_with fail;go_loopw [5] (λK wr=>∃k:Nat,k<=l.length/\K=.int .i64 k/\Fr aD w wr/\(l.map (·.1)).take k=(m.map (·.1)).take k) (λK _=>l.length - (intOf K).toNat)
  case atStart=>exact⟨0,dl _,rfl,Fr.refl _ _,rfl⟩
  case round=>
   obtain⟨k,hk,rfl,d,g8⟩:=hrel;have o:=ae d;have z:=ae g8;clear g8;by_cases s:k<l.length
   .have f:k<m.length:=(by have:=S.o;omega);have t:=H.o.br d;have i:=W.o.br d;obtain⟨g,cap,T,eP,ay,-⟩:=t.get k s;simp only[eG,fF]at T;obtain⟨rfl,rfl⟩:=T;obtain⟨fC,az,A,f0,f1,-⟩:=i.get k f;simp only[eG,fF]at A;obtain⟨rfl,rfl⟩:=A;have c:=t.data l[k] (dy _);have a:=i.data m[k] (dy _);have C:(l.map (·.1)).take (k+1)=(l.map (·.1)).take k++ [l[k].1]:=(by rw[lV (by simpa using s),List.getElem_map]);have D:(m.map (·.1)).take (k+1)=(m.map (·.1)).take k++ [m[k].1]:=(by rw[lV (by simpa using f),List.getElem_map]);have q:l[k].1≠m[k].1->l.map (·.1)≠m.map (·.1):=λp he=>p (by
     have:=hq (·[k]?) he;simpa[s,f]using this)
    have L:=ae q;have E:=ae C;have F:=ae D;clear t i d C D q;generalize l[k]=bC at *;generalize m[k]=mk at *;obtain⟨⟨M,N⟩,ot⟩:=bC;obtain⟨⟨u,x⟩,aur⟩:=mk;obtain⟨fr,ek,G,-⟩:=c.shape;obtain⟨aus,aut,r,-⟩:=a.shape;dsimp only at c a G r eP ay f0 f1 L E F;subst G r;have oA:=Q7 (P:=aj.prog) wr 25 9 5 _ _ aj.underlying25 aj.underlying5 aj.underlying9 c;have Bm:=Q7 (P:=aj.prog) wr 25 9 5 _ _ aj.underlying25 aj.underlying5 aj.underlying9 a;clear c a;by_cases j:M=u
    .subst j;by_cases n:N=x
     .subst n;go_wp2_with fail;go_quiet (fail)
      go_wp2_with fail;exact⟨⟨k+1,U,by go_num,o.o.drewN _,by rw[E.o,F.o,z.o]⟩,by simp[intOf];omega⟩
     .have hO:(N==x)=false:=(by simpa using n);have hP:(N !=x)=true:=(by simpa using n);have y:=ae (L.o (by simpa using n));clear n;go_wp2_with fail;go_quiet (fail)
      go_wp2_with fail;go_ret;exact⟨false,rfl,⟨λe=>(by cases e),λe=>absurd e y.o⟩,o.o.drewN _⟩
    .have hO:(M==u)=false:=(by simpa using j);have hP:(M !=u)=true:=(by simpa using j);have y:=ae (L.o (λe=>j (by simpa using congrArg aI.name e)));clear j;go_wp2_with fail;go_quiet (fail)
     go_wp2_with fail;go_ret;exact⟨false,rfl,⟨λe=>(by cases e),λe=>absurd e y.o⟩,o.o.drewN _⟩
   .obtain rfl:k=l.length:=U;clear d;have aa:l.map (·.1)=m.map (·.1):=by
     have:=z.o;rwa[iG ag,iG (by simp;have:=S.o;omega)]at this
    have O:=ae aa;clear aa;go_wp2_with fail;go_ret;exact⟨true,rfl,⟨λ_=>O.o,λ_=>rfl⟩,o.o⟩
 .have p:l.map (·.1)≠m.map (·.1):=λe=>b (by simpa using congrArg List.length e);have Z:((l.length:Int)==(m.length:Int))=false:=a5;have c9:((l.length:Int) !=(m.length:Int))=true:=a5;have Q:=ae p;clear b p;go_enter aj.func15,Tryz.ntmps15;go_wp2_with fail;go_ret;exact⟨false,rfl,⟨λe=>(by cases e),λe=>absurd e Q.o⟩,Fr.refl _ _⟩
end Go.Proofs.YtlcdgbhigfgehabGreatDoor
namespace Go.Proofs.YtlcdgbhigfgehabGreatDoor
open Go.RowKit

def uw(n:dI)(k:Int)(w:ab): Calls aj.prog 70 #[.string n,.int .i64 k] w λe w'=>∃g,e=.returned (.iface 84 (.pointer (some ⟨g,0,none⟩)))/\Own w' g 88 [.string n,.int .i64 k]/\Fr aD w w':=by
 go_enter aj.func70,Tryz.ntmps70;go_wp2_with fail;go_ret;exact⟨_,rfl,Own.alloc w #[.string n,.int .i64 k] 88,(Fr.refl _ _).alloc _⟩
def af3(o:Option (ar)):cZ:=match o with|none=>.none|some n=>.file ⟨n.toArray⟩ 9
def K0:ai->Nat
 |.slice _ n _=>n
 |_=>0
def Ua(u:ai)(nS:Option Addr)(k n aK:Nat):Prop:=∃a c,u=.slice a n c/\n<=c/\c<=maxLen/\(0<n->∃g,a=some ⟨g,k*aK,none⟩/\nS=some ⟨g,0,none⟩)
def af4(v b:ai)(l:List (aI×ai))(E:List df)(B af5:Nat)(w:ab)(h:ez w B v l)(hb:Vec w af5 152 3 b E.length (m1 E))(bO:l.length<=8)(he:E.length<=8)(hd:∀p∈l,p.1.data.length<=300): Calls aj.prog 67 #[v,b] w λe w'=>∃y,e=.returned y/\eb w' y (af3 (fR (l.map (·.1)) E))/\Fr aD w w':=by
 obtain⟨nS,si,rfl,-⟩:=h.vec.shape;obtain⟨ib,g5,rfl,-⟩:=hb.shape;have H:=ae h;have mn:=ae hb;have m6:=ae hd;clear h hb hd;go_enter aj.func67,Tryz.ntmps67;go_wp2_with fail;go_loopw [0,1] (λfD bv wr=>∃(k M G:Nat),k+M=l.length/\k+G=E.length/\Ua fD nS k M 2/\Ua bv ib k G 3/\Fr aD w wr/\fR (l.map (·.1)) E=fR ((l.map (·.1)).drop k) (E.drop k)) (λfD bv _=>K0 fD+K0 bv)
 case atStart=>
  refine⟨0,l.length,E.length,lY _,lY _,⟨_,_,rfl,?_⟩,⟨_,_,rfl,?_⟩,Fr.refl _ _,rfl⟩
  .obtain⟨a,c,N,bD,cb,-⟩:=H.o.vec.shape;simp only[eG,fF]at N;obtain⟨rfl,rfl⟩:=N;refine⟨bD,cb,λb8=> ?_⟩;obtain⟨g,cap,rest,N,-⟩:=H.o.vec.row b8;simp only[eG,fF]at N;obtain⟨rfl,rfl⟩:=N;exact⟨g,ag,rfl⟩
  .obtain⟨a,c,N,bD,cb,-⟩:=mn.o.shape;simp only[eG,fF]at N;obtain⟨rfl,rfl⟩:=N;refine⟨bD,cb,λb8=> ?_⟩;obtain⟨g,cap,rest,N,-⟩:=mn.o.row b8;simp only[eG,fF]at N;obtain⟨rfl,rfl⟩:=N;exact⟨g,ag,rfl⟩
 case round=>
  obtain⟨k,M,G,O,P,⟨a,c,rfl,c1,c2,aa⟩,⟨g3,af6,rfl,d1,d2,J⟩,f,Ub⟩:=hrel;have d:=ae f;have F:=ae Ub;have K1:=ae O;have K2:=ae P;clear Ub;rcases jL M with rfl|EW
  .rcases jL G with rfl|A1
   .clear O P f aa J;have Q:fR (l.map (·.1)) E=none:=(by rw[F.o,ty (by rw[pW];have:=K1.o;omega),ty (by have:=K2.o;omega)];rfl);have A:=ae Q;clear Q;go_wp2_with fail;go_ret;exact⟨_,rfl,by rw[A.o];rfl,d.o⟩
   .obtain⟨fC,rfl,C⟩:=J A1;obtain⟨Uc,af7,af8,o,-,q,-⟩:=(mn.o.keep f (λ_ _ h=>h)).row U;simp only[eG,fF]at o;obtain⟨o,-⟩:=o;rw[o]at C;simp only[fK,qZ,kl]at C;subst C;have r:=RJ E k U;have eP:=q.cell (i:=k*3) (by rw[gx a5];exact r.1);have ay:=q.cell (i:=k*3+1) (by rw[gx a5];exact r.2.1);have aF:=q.cell (i:=k*3+2) (by rw[gx a5];exact r.2.2);have R:E.drop k=E[k]::E.drop (k+1):=qW U;clear r q J;have j:fR (l.map (·.1)) E=some E[k].name:=(by rw[F.o,ty (by rw[pW];have:=K1.o;omega),R];rfl);have A:=ae j;clear j R f aa;generalize E[k]=BZ at *;clear O P;have hO:decide ((G:Int)>0)=true:=a5;have hP:((G:Int)==0)=false:=a5;have yI:(0:Int)< (G:Int):=U;go_wp2_with fail;go_quiet (fail)
    go_wp2_with fail;go_quiet (fail)
    go_wp2_with fail;refine(uw _ _ _).mono ?_;rintro e cU⟨gf,rfl,ap,t⟩;have S:=ae ap;have T:=ae t;clear ap t;go_wp2_with fail;go_ret;exact⟨_,rfl,by rw[A.o];exact⟨gf,rfl,S.o⟩,Fr.step (by first|exact((d.o.drewN _).drewN _).drewN _|exact(d.o.drewN _).drewN _|exact d.o.drewN _) T.o (λ_ h _=>h)⟩
  .rcases jL G with rfl|A1
   .obtain⟨g1,rfl,D⟩:=aa EW;obtain⟨me,ij,s,f0,f1,-⟩:=(H.o.br f).get k U;simp only[eG,fF]at s;obtain⟨s,-⟩:=s;rw[s]at D;simp only[fK,qZ,kl]at D;subst D;have az:(l.map (·.1)).drop k=l[k].1::(l.map (·.1)).drop (k+1):=(by rw[qW (by rw[pW];omega),v7]);have m:=(H.o.br f).data l[k] (dy _);have kq:=m6.o l[k] (dy _);clear aa;have j:fR (l.map (·.1)) E=some l[k].1.name:=by
     have af9:E.drop k=[]:=ty (by have:=K2.o;omega);rw[F.o,az,af9];rfl
    have A:=ae j;clear j az f J;generalize l[k]=bC at *;clear O P m kq;have hO:decide ((M:Int)>0)=true:=a5;have yI:(0:Int)< (M:Int):=U;go_wp2_with fail;go_quiet (fail)
    go_wp2_with fail;refine(uw _ _ _).mono ?_;rintro e cU⟨gf,rfl,ap,t⟩;have S:=ae ap;have T:=ae t;clear ap t;go_wp2_with fail;go_ret;exact⟨_,rfl,by rw[A.o];exact⟨gf,rfl,S.o⟩,Fr.step (by first|exact((d.o.drewN _).drewN _).drewN _|exact(d.o.drewN _).drewN _|exact d.o.drewN _) T.o (λ_ h _=>h)⟩
   .obtain⟨g1,rfl,D⟩:=aa EW;obtain⟨me,ij,s,f0,f1,-⟩:=(H.o.br f).get k U;simp only[eG,fF]at s;obtain⟨s,-⟩:=s;rw[s]at D;simp only[fK,qZ,kl]at D;subst D;have az:(l.map (·.1)).drop k=l[k].1::(l.map (·.1)).drop (k+1):=(by rw[qW (by rw[pW];omega),v7]);have m:=(H.o.br f).data l[k] (dy _);have kq:=m6.o l[k] (dy _);clear aa;obtain⟨fC,rfl,C⟩:=J A1;obtain⟨Uc,af7,af8,o,-,q,-⟩:=(mn.o.keep f (λ_ _ h=>h)).row U;simp only[eG,fF]at o;obtain⟨o,-⟩:=o;rw[o]at C;simp only[fK,qZ,kl]at C;subst C;have r:=RJ E k U;have eP:=q.cell (i:=k*3) (by rw[gx a5];exact r.1);have ay:=q.cell (i:=k*3+1) (by rw[gx a5];exact r.2.1);have aF:=q.cell (i:=k*3+2) (by rw[gx a5];exact r.2.2);have R:E.drop k=E[k]::E.drop (k+1):=qW U;clear r q J;have Ud:fR (l.map (·.1)) E=fR (l[k].1::(l.map (·.1)).drop (k+1)) (E[k]::E.drop (k+1)):=(by rw[F.o,az,R]);have K:=ae Ud;clear Ud az R f;generalize l[k]=bC at *;generalize E[k]=BZ at *;obtain⟨⟨ec,z⟩,ot⟩:=bC;obtain⟨B0,aK,eZ⟩:=BZ;obtain⟨fr,ek,FY,-⟩:=m.shape;dsimp only at m kq FY f0 f1 eP ay aF K;subst FY;have Z:=ae m;clear O P m;have hO:decide ((M:Int)>0)=true:=a5;have hP:((G:Int)==0)=false:=a5;have K3:((M:Int)==0)=false:=a5;have yI:(0:Int)< (M:Int):=U;have yJ:(0:Int)< (G:Int):=U;by_cases Y:Op.bytesLess ec B0=true
    .have A:=ae (show fR (l.map (·.1)) E=some ec by rw[K.o];unfold fR;rw[aV Y]);go_wp2_with fail;go_quiet (fail)
     go_wp2_with fail;refine(uw _ _ _).mono ?_;rintro e cU⟨gf,rfl,ap,t⟩;have S:=ae ap;have T:=ae t;clear ap t;go_wp2_with fail;go_ret;exact⟨_,rfl,by rw[A.o];exact⟨gf,rfl,S.o⟩,Fr.step (by first|exact((d.o.drewN _).drewN _).drewN _|exact(d.o.drewN _).drewN _|exact d.o.drewN _) T.o (λ_ h _=>h)⟩
    .have au8:Op.bytesLess ec B0=false:=(by simpa using Y);by_cases fM:Op.bytesLess B0 ec=true
     .have A:=ae (show fR (l.map (·.1)) E=some B0 by rw[K.o];unfold fR;rw[aC Y,aV fM]);clear Y;go_wp2_with fail;go_quiet (fail)
      go_wp2_with fail;go_quiet (fail)
      go_wp2_with fail;refine(uw _ _ _).mono ?_;rintro e cU⟨gf,rfl,ap,t⟩;have S:=ae ap;have T:=ae t;clear ap t;go_wp2_with fail;go_ret;exact⟨_,rfl,by rw[A.o];exact⟨gf,rfl,S.o⟩,Fr.step (by first|exact((d.o.drewN _).drewN _).drewN _|exact(d.o.drewN _).drewN _|exact d.o.drewN _) T.o (λ_ h _=>h)⟩
     .have au9:Op.bytesLess B0 ec=false:=(by simpa using fM);by_cases bw:z.length=aK
      .subst bw;by_cases L:lZ z=eZ
       .have A:=ae (show fR (l.map (·.1)) E=fR ((l.map (·.1)).drop (k+1)) (E.drop (k+1)) by rw[K.o];conv=>lhs;unfold fR;rw[aC Y,aC fM,aV ⟨rfl,L⟩]);have c9:(cB z==(eZ:Int))=true:=(by rw[<-L,pR];simp);have gg:(cB z !=(eZ:Int))=false:=(by rw[<-L,pR];simp);clear Y fM L;go_wp2_with fail;go_quiet (fail)
        obtain⟨V,W⟩:∃n,n=nq:=⟨_,rfl⟩;subst W;go_wp2_with fail;go_quiet (fail)
        go_wp2_with fail;have u:=((Fr.refl aD wr).drewN V).drewN nq;have X:=ae (Z.o.br u);have x:=ae (d.o.step u (λ_ h _=>h));replace f0:=u.cell f0 id;replace f1:=u.cell f1 id;replace eP:=u.cell eP id;replace ay:=u.cell ay id;replace aF:=u.cell aF id;clear u Z d;generalize(wr.drewN V).drewN nq=uy at *;have oo:=ae (λn=>(tC (.slice fr z.length ek) z (uy.drewN n) (X.o.br ((Fr.refl _ _).drewN n))).mono (λ(e:Ending)(w':ab)(h:e=.returned (.int .u64 (cB z))/\uy.drewN n=w')=>(⟨h.1,h.2.symm⟩:e=.returned (.int .u64 (cB z))/\w'=uy.drewN n)));go_quiet ((go_at_call 69;exact Calls.quiet_of_same (oo.o _)))
        go_wp2_with fail;have s1:¬(M:Int)<1:=U;have s2:¬(G:Int)<1:=U;have K4:¬(c:Int)<M:=U;have ava:¬(af6:Int)<G:=U;go_quiet (fail)
        go_wp2_with fail;refine⟨⟨k+1,M - 1,G - 1,by have:=K1.o;omega,by have:=K2.o;omega,⟨_,_,rfl,U,U,λb8=>⟨me,?_,by first|rfl|assumption⟩⟩,⟨_,_,rfl,U,U,λb8=>⟨Uc,?_,by first|rfl|assumption⟩⟩,(x.o.drewN _).drewN _,A.o⟩,by simp[K0];omega⟩
        .rw[aC U,show(k+1)*2=k*2+2 by omega]
        .rw[aC U,show(k+1)*3=k*3+3 by omega]
       .have A:=ae (show fR (l.map (·.1)) E=some ec by rw[K.o];unfold fR;rw[aC Y,aC fM,aC (λh=>L h.2)]);have c9:(cB z==(eZ:Int))=false:=(by rw[<-pR];simp;omega);have gg:(cB z !=(eZ:Int))=true:=(by rw[<-pR];simp;omega);clear Y fM L;go_wp2_with fail;go_quiet (fail)
        obtain⟨V,W⟩:∃n,n=nq:=⟨_,rfl⟩;subst W;go_wp2_with fail;go_quiet (fail)
        go_wp2_with fail;have u:=((Fr.refl aD wr).drewN V).drewN nq;have X:=ae (Z.o.br u);have x:=ae (d.o.step u (λ_ h _=>h));replace f0:=u.cell f0 id;replace f1:=u.cell f1 id;replace eP:=u.cell eP id;replace ay:=u.cell ay id;replace aF:=u.cell aF id;clear u Z d;generalize(wr.drewN V).drewN nq=uy at *;have oo:=ae (λn=>(tC (.slice fr z.length ek) z (uy.drewN n) (X.o.br ((Fr.refl _ _).drewN n))).mono (λ(e:Ending)(w':ab)(h:e=.returned (.int .u64 (cB z))/\uy.drewN n=w')=>(⟨h.1,h.2.symm⟩:e=.returned (.int .u64 (cB z))/\w'=uy.drewN n)));go_quiet ((go_at_call 69;exact Calls.quiet_of_same (oo.o _)))
        go_wp2_with fail;refine(uw _ _ _).mono ?_;rintro e cU⟨gf,rfl,ap,t⟩;have S:=ae ap;have T:=ae t;clear ap t;go_wp2_with fail;go_ret;exact⟨_,rfl,by rw[A.o];exact⟨gf,rfl,S.o⟩,Fr.step (by first|exact((x.o.drewN _).drewN _).drewN _|exact(x.o.drewN _).drewN _|exact x.o.drewN _) T.o (λ_ h _=>h)⟩
      .have A:=ae (show fR (l.map (·.1)) E=some ec by rw[K.o];unfold fR;rw[aC Y,aC fM,aC (λh=>bw h.1)]);have dA:((z.length:Int)==(aK:Int))=false:=a5;have ks:((z.length:Int) !=(aK:Int))=true:=a5;clear Y fM bw;go_wp2_with fail;go_quiet (fail)
       go_wp2_with fail;go_quiet (fail)
       go_wp2_with fail;go_quiet (fail)
       go_wp2_with fail;refine(uw _ _ _).mono ?_;rintro e cU⟨gf,rfl,ap,t⟩;have S:=ae ap;have T:=ae t;clear ap t;go_wp2_with fail;go_ret;exact⟨_,rfl,by rw[A.o];exact⟨gf,rfl,S.o⟩,Fr.step (by first|exact((d.o.drewN _).drewN _).drewN _|exact(d.o.drewN _).drewN _|exact d.o.drewN _) T.o (λ_ h _=>h)⟩
end Go.Proofs.YtlcdgbhigfgehabGreatDoor
