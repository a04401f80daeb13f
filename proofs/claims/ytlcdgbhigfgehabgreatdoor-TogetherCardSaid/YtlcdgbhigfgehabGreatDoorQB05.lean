import Derived.Test.YtlcdgbhigfgehabGreatDoorQ01
import Derived.Test.YtlcdgbhigfgehabGreatDoorQB04
import Derived.WalkLawsBesides
import Derived.Lib.AppendStr
import Derived.StringKeys
import Derived.WideKeyEntry
import Derived.Maps.Keyed
set_option linter.all false
set_option maxRecDepth 100000
set_option maxHeartbeats 16000000
namespace Go.Proofs.YtlcdgbhigfgehabGreatDoor
open Go.RowKit

def aaj:(aj.prog.info? 5).map (λi=>(i.zero,i.size,i.bytes))=some (some (.int .u8 0),1,1):=ah
def kj:gZ aj.prog 25 5 1 1:=gZ.mk aj.underlying25 aaj rfl
end Go.Proofs.YtlcdgbhigfgehabGreatDoor
namespace Go.Proofs.YtlcdgbhigfgehabGreatDoor
open Go.RowKit

def Rc:(aj.prog.info? 37).map (λi=>(i.zero,i.size,i.bytes))=some (some (.agg #[.string ⟨#[]⟩,.slice none 0 0]),2,40):=ah
def Eo:gZ aj.prog 23 37 2 40:=gZ.mk aj.underlying23 Rc rfl
def tA(x:aI×ai):bJ:=[.string ⟨x.1.name.toArray⟩,x.2]
def hM(l:List (aI×ai)):bJ:=l.flatMap tA
def Ep(l:List (aI×ai))(e:aI×ai):hM (l++ [e])=hM l++tA e:=by simp[hM]
@[simp] def at1(l:List (aI×ai)):(hM l).length=l.length*2:=by
 induction l with
 |nil=>rfl
 |cons e l a=>simp[hM,tA]at a⊢;omega
def aak(l:List (aI×ai))(i:Nat)(h:i<l.length): (hM l)[i*2]? =some (.string ⟨l[i].1.name.toArray⟩)/\(hM l)[i*2+1]? =some l[i].2:=by
 induction l generalizing i with
 |nil=>simp at h
 |cons p l a=>
  have b:hM (p::l)=.string ⟨p.1.name.toArray⟩::p.2::hM l:=rfl;rw[b];cases i with
  |zero=>simp
  |succ i=>
   have:=a i (by simpa using h);simp only[fJ,ob,Er];refine⟨?_,?_⟩
   .rw[show i*2+2=(i*2)+1+1 from rfl];simpa using this.1
   .rw[show i*2+2+1=(i*2+1)+1+1 from by omega];simpa using this.2
structure ez(w:ab)(B:Nat)(v:ai)(l:List (aI×ai)):Prop where
 vec:Vec w B 37 2 v l.length (hM l)
 data:∀p∈l,bH w p.2 p.1.data
 from_:∀p∈l,∀b,p.2.ownBlock=some b->B<=b/\b<w.heap.size
section
variable{w w1:World}{S:Nat->Prop}{B:Nat}{v:Value}{l:List (aI×Value)}
def ez.keep(h:ez w B v l)(k:Fr S w w1)(d:∀b,v.ownBlock=some b->¬S b)(hd:∀p∈l,∀b,p.2.ownBlock=some b->¬S b):ez w1 B v l:=⟨h.vec.keep k d,λp a=>(h.data p a).keep k (hd p a),λp a b c=>⟨(h.from_ p a b c).1,by have:=(h.from_ p a b c).2;have:=k.size;omega⟩⟩
def ez.br(h:ez w B v l)(k:Fr aD w w1):ez w1 B v l:=h.keep k (λ_ _ h=>h) (λ_ _ _ _ h=>h)
def ez.get(h:ez w B v l)(i:Nat)(af:i<l.length):∃g cap,v=.slice (some ⟨g,0,none⟩) l.length cap/\w.cell? ⟨g,i*2,none⟩=some (.string ⟨l[i].1.name.toArray⟩)/\w.cell? ⟨g,i*2+1,none⟩=some l[i].2/\g<w.heap.size:=by
 obtain⟨g,cap,rest,b,-,ap,-⟩:=h.vec.row U;have a:=aak l i af;refine⟨g,cap,b,ap.cell ?_,ap.cell ?_,ap.lt⟩
 .rw[gx a5];exact a.1
 .rw[gx a5];exact a.2
end
def Es(s:dI)(a:Option Addr)(n m:Nat):∀u∈[Value.string s,.slice a n m],u.oneCell'=true:=by
 intro u b;simp at b;rcases b with rfl|rfl<;>rfl
end Go.Proofs.YtlcdgbhigfgehabGreatDoor
namespace Go.Proofs.YtlcdgbhigfgehabGreatDoor
open Go.RowKit

def Re{a b:Int}(h:a=b):Ending.returned (.int .u32 a)=.returned (.int .u32 b):=by rw[h]
def I5(v:ai)(l:ar)(w:ab)(h:bH w v l): Calls aj.prog 122 #[v] w λe w'=>e=.returned (.int .u32 (cS l))/\w=w':=by
 rcases h.cases with⟨rfl,rfl⟩|⟨b,g,cap,rfl,j,c,m⟩
 .go_enter aj.func122,Tryz.ntmps122;go_wp2;refine xU 1 ?_;rw[rT];go_wp2;go_ret;exact⟨eI,rfl⟩
 .have o:l.length<=9223372036854775807:=(by unfold maxLen at c;omega);go_enter aj.func122,Tryz.ntmps122;go_wp2;go_loop [3,4,9] (λx y i=>∃k:Nat,k<=l.length/\i=.int .i64 k/\x=.int .u16 (hI (l.take k)).1/\y=.int .u16 (hI (l.take k)).2) (λ_ _ i=>l.length - (intOf i).toNat)
  case atStart=>exact⟨0,dl _,rfl,rfl,rfl⟩
  case round=>
   obtain⟨k,hk,rfl,rfl,rfl⟩:=hrel;by_cases a:k<l.length
   .have d:=m k a;go_wp2;go_round;case rel=>
     refine⟨k+1,U,by go_num,?_,?_⟩
     .rw[Ed _ _ a,Eb];simp only[xQ];simp[IntKind.wrap,IntKind.bits,IntKind.signed]
     .rw[Ed _ _ a,Eb];simp only[xQ];simp[IntKind.wrap,IntKind.bits,IntKind.signed]
    case measure=>simp[intOf];omega
   .obtain rfl:k=l.length:=U;have f:=Ec l;have ap:=Q3 (hI l).1 (hI l).2 f.1 f.2;clear f;have n:=ae ap;clear ap;go_wp2;go_ret;exact⟨Re n.o,rfl⟩
def tC(v:ai)(l:ar)(w:ab)(h:bH w v l): Calls aj.prog 69 #[v] w λe w'=>e=.returned (.int .u64 (cB l))/\w=w':=by
 rcases h.cases with⟨rfl,rfl⟩|⟨b,f,cap,rfl,g,c,j⟩
 .go_enter aj.func69,Tryz.ntmps69;go_wp2;refine xU 1 ?_;rw[rT];go_wp2;go_ret;exact⟨eI,rfl⟩
 .have m:l.length<=9223372036854775807:=(by unfold maxLen at c;omega);go_enter aj.func69,Tryz.ntmps69;go_wp2;go_loop [3,8] (λx i=>∃k:Nat,k<=l.length/\i=.int .i64 k/\x=.int .u64 (cB (l.take k))) (λ_ i=>l.length - (intOf i).toNat)
  case atStart=>exact⟨0,dl _,rfl,by rw[Z4]⟩
  case round=>
   obtain⟨k,hk,rfl,rfl⟩:=hrel;by_cases a:k<l.length
   .have d:=j k a;go_wp2;go_round;case rel=>
     refine⟨k+1,U,by go_num,?_⟩;rw[Ed _ _ a,IU,Ap]
    case measure=>simp[intOf];omega
   .obtain rfl:k=l.length:=U;go_wp2;go_ret;exact⟨rfl,rfl⟩
def Rf(a n o i:Int)(w:ab)(b:0<=a)(c:a<=4294967295)(d:0<=o)(f:o<=255)(g:0<=i)(h:i<=255): Calls aj.prog 126 #[.int .u32 a,.int .i64 n,.int .u8 o,.int .u8 i] w λe w'=>e=.returned (.int .u32 (pI a n o i))/\w=w':=by
 go_enter aj.func126,Tryz.ntmps126;go_wp2;go_ret;refine⟨Re ?_,rfl⟩;exact Z3 a n o i
def aal(s:dI)(n:Nat)(w:ab)(h:s.size<=n): Calls aj.prog 22 #[.string s,.int .i64 n] w λe w'=>e=.returned (.string s)/\w=w':=by
 go_enter aj.func22,Tryz.ntmps22;go_wp2;go_ret;exact⟨rfl,rfl⟩
def aam(s:dI)(n:Nat)(w:ab)(h:n<s.size): Calls aj.prog 22 #[.string s,.int .i64 n] w λe w'=>e=.returned (.string (s.extract 0 n))/\w=w':=by
 go_enter aj.func22,Tryz.ntmps22;go_wp2;go_ret;exact⟨rfl,rfl⟩
def AA(s:dI)(n:Nat):dI:=if s.size<=n then s else s.extract 0 n
def aan(s:dI)(n:Nat):(AA s n).size<=n:=by
 unfold AA;split
 .assumption
 .simp;omega
def aao(s:dI)(c:Int)(n:Nat)(w:ab)(a:c=n): Calls aj.prog 22 #[.string s,.int .i64 c] w λe w'=>e=.returned (.string (AA s n))/\w=w':=by
 subst a;unfold AA;split
 .exact aal s n w I6
 .exact aam s n w U
end Go.Proofs.YtlcdgbhigfgehabGreatDoor
namespace Go.Proofs.YtlcdgbhigfgehabGreatDoor
open Go.RowKit

structure eO(w:ab)(v v':ai)(w':ab):Prop where
 bo:Fr (λk=>v.ownBlock=some k) w w'
 at_:v'.ownBlock=v.ownBlock\/∃g,v'.ownBlock=some g/\w.heap.size<=g
def eO.refl(w:ab)(v:ai):eO w v v w:=⟨Fr.refl _ _,.inl rfl⟩
def eO.step{w w1 w2:ab}{v v1 v2:ai}(h:eO w v v1 w1)(k:eO w1 v1 v2 w2):eO w v v2 w2:=by
 refine⟨h.bo.step k.bo (λb a d=> ?_),?_⟩
 .rcases h.at_ with e|⟨g,e,c⟩
  .rw[<-e];exact a
  .rw[e]at a;cases a;omega
 .have f:=h.bo.size;rcases k.at_ with e|⟨g,e,c⟩
  .rw[e];exact h.at_
  .exact .inr ⟨g,e,U⟩
def eO.alloc{w w1:ab}{v v1:ai}(o:Obj)(h:eO (w.alloc o) v v1 w1):eO w v v1 w1:=by
 have a:Fr aD w (w.alloc o):=(Fr.refl _ _).alloc o;have d:=a.size;refine⟨(a.mono (λ_ h _=>h.elim)).step h.bo (λb c f=>c),?_⟩;rcases h.at_ with e|⟨g,e,i⟩
 .exact .inl e
 .exact .inr ⟨g,e,U⟩
def aaK(v i:Nat):bT [UInt8.ofNat (v / 256 ^ i)]=[.int .u8 ((v:Int) / 2 ^ (8*i) % 256)]:=by
 have a:(2:Int) ^ (8*i)=((256 ^ i:Nat):Int):=(by rw[Int.pow_mul];norm_cast);have:(UInt8.ofNat (v / 256 ^ i)).toNat=v / 256 ^ i % 256:=ag;unfold bT;rw[mW,tz,this,a];norm_cast
def AE(bv:ai)(l:ar)(v n B:Nat)(c x:Int)(w:ab)(o:Vec w B 5 1 bv l.length (bT l))(O:n<=8)(P:l.length<=1000000)(F:c=n)(G:x=v)(A:v<18446744073709551616)(Q:B<=w.heap.size): Calls aj.prog 78 #[bv,.int .u64 x,.int .i64 c] w λe w'=>∃v',e=.returned v'/\Vec w' B 5 1 v' (l++fo n v).length (bT (l++fo n v))/\eO w bv v' w':=by
 subst F;subst G;have H:=ae o;obtain⟨aa,J,rfl,-⟩:=o.shape;clear o;go_enter aj.func78,Tryz.ntmps78;go_wp2_with fail;go_loopw [0,2] (λK p wr=>∃(j:Nat)(v':ai)(W:ar),K=v'/\p=.int .i64 ((j:Int) - 1)/\j<=n/\W++fo j v=fo n v/\W.length+j=n/\Vec wr B 5 1 v' (l.length+W.length) (bT (l++W))/\eO w (.slice aa l.length J) v' wr) (λ_ p _=>(intOf p+1).toNat)
 case atStart=>exact⟨n,_,[],rfl,rfl,bh _,rfl,ag,by rw[pN];exact H.o,eO.refl _ _⟩
 case round=>
  obtain⟨j,v',W,rfl,rfl,R,C,L,a,b⟩:=hrel;obtain⟨S,T,q,-⟩:=a.shape;subst q;have f:=ae a;have g:=ae b;have D:=ae C;have M:=b.bo.size;clear a b C;cases j with
  |zero=>
   go_wp2_with fail;go_ret;have e:W=fo n v:=(by rw[<-D.o,fo,pN]);exact⟨_,rfl,by rw[<-e,cr];exact f.o,g.o⟩
  |succ j=>
   have r:((j+1:Nat):Int) - 1=j:=U;rw[r];go_wp2_with (at_builtin;refine fP rfl _ _ _ rfl B 5 1 1 kj (f.o.keep (Fr.alloc (Fr.refl aD _) _) (λ_ _ h=>h)) rfl (m:=1) (Reads.new _ _ _ _ (by first|omega|simp) _ _) rfl rfl (by intro u E;simp at E;subst E;rfl) eH U a5 ?_;intro bA az d i k s;obtain⟨V,X,t,-⟩:=d.shape;subst t;have y:=ae d;have z:=ae (eO.alloc _ ⟨i,k⟩);clear d i k s);have N:=aaK v j;refine⟨⟨j,_,W++ [UInt8.ofNat (v / 256 ^ j)],rfl,by go_num,U,?_,?_,?_,g.o.step z.o⟩,by simp[intOf]⟩
   .rw[gY];exact D.o
   .simp;omega
   .rw[<-gY,nx (l++W),N,cr];exact y.o
end Go.Proofs.YtlcdgbhigfgehabGreatDoor
namespace Go.Proofs.YtlcdgbhigfgehabGreatDoor
open Go.RowKit Go.Lib

def Rr(s:dI):strCells s=bT s.data.toList:=by
 unfold strCells bT;simp
section
variable{P:Program}
def aaL(w:ab)(B:Nat)(t u H e:TypeId)(i:TypeInfo)(z:ai)(D:P.underlying t=some (.slice e))(o:P.underlying u=some .string)(af:P.info? e=some i)(S:i.zero=some z)(c:i.size=1)(x:i.bytes=1)(aa:z.cells.size=1)(v:ai)(n:Nat)(xs:bJ)(a:Vec w B e 1 v n xs)(s:dI)(y:n+s.size<=maxLen)(E:n+s.size<=140737488355328)(X:B<=w.heap.size): ∃v' w',(Builtin.append_ #[t,u] H #[v,.string s]).run P w=.ok v' w'/\Vec w' B e 1 v' (n+s.size) (xs++bT s.data.toList)/\Fr (λk=>v.ownBlock=some k) w w'/\(v'.ownBlock=v.ownBlock\/∃g,v'.ownBlock=some g/\w.heap.size<=g):=by
 have F:n+s.size<=9223372036854775807:=(by simp only[maxLen]at y;omega);have p:(bT s.data.toList).length=s.size:=ag;have f:(xs++bT s.data.toList).length=(n+s.size)*1:=(by rw[cr,a.1,p];omega);have J:=λ(W:ab)=>run_firstCells_string (P:=P) (w:=W) i.size s;have h:∀(old:Nat),old<n+s.size->Vec (w.drew.alloc (.cells (xs.toArray++ (bT s.data.toList).toArray++Builtin.zeroCells z.cells (grownCap w (n+s.size) old e - (n+s.size))) e)) B e 1 (.slice (some ⟨w.heap.size,0,none⟩) (n+s.size) (grownCap w (n+s.size) old e)) (n+s.size) (xs++bT s.data.toList)/\Fr (λk=>v.ownBlock=some k) w (w.drew.alloc (.cells (xs.toArray++ (bT s.data.toList).toArray++Builtin.zeroCells z.cells (grownCap w (n+s.size) old e - (n+s.size))) e)):=by
  intro old ap;have K:=grownCap_ge w (n+s.size) old e;have q:grownCap w (n+s.size) old e<=maxLen:=aaM w (n+s.size) old e y;have L:(xs++bT s.data.toList++ (Builtin.zeroCells z.cells (grownCap w (n+s.size) old e - (n+s.size))).toList).length=grownCap w (n+s.size) old e*1:=by
   rw[cr,f,El,size_zeroCells,aa,<-fJ];congr 1;omega
  refine⟨⟨f,.inr ⟨w.heap.size,grownCap w (n+s.size) old e,(Builtin.zeroCells z.cells (grownCap w (n+s.size) old e - (n+s.size))).toList,rfl,X,?_,L,K,q⟩⟩,?_⟩
  .have:=Own.alloc w.drew (xs.toArray++ (bT s.data.toList).toArray++Builtin.zeroCells z.cells (grownCap w (n+s.size) old e - (n+s.size))) e;simpa using this
  .exact Fr.alloc (Fr.drew (Fr.refl _ w)) _
 rcases a.2 with⟨rfl,rfl⟩|⟨g,cap,rest,rfl,M,T,r,Y,q⟩
 .have N:xs=[]:=vy (by simpa using a.1);subst N;by_cases G:s.size=0
  .have O:bT s.data.toList=[]:=vy (by rw[p];exact G);refine⟨.slice none 0 0,w,?_,?_,Fr.refl _ _,.inl rfl⟩
   .have A:=run_firstCells_string (P:=P) (w:=w) i.size s;rw[G]at A;simp[Builtin.append_,Ey D,Ey o,sizeOf,typeInfo,af,Builtin.lenOf,G,A]
   .rw[G,O];simpa using a
  .have C:=run_append_nil_string (P:=P) (w:=w) t u H e i z D o af S s U U (by rw[x];omega);have d:=h 0 U;simp only[lY,mV]at d⊢;have Q:s.data.map (λb=>Value.int .u8 b.toNat)=(bT s.data.toList).toArray:=(by apply Array.ext';simp[bT]);rw[Q]at C;refine⟨_,_,C,?_,?_,.inr ⟨w.heap.size,rfl,bh _⟩⟩
   .simpa using d.1
   .simpa using d.2
 .by_cases l:n+s.size<=cap
  .have m:n*1+ (bT s.data.toList).length<=(xs++rest).length:=(by rw[p,r];omega);have⟨w',az,V,Z,rS,Aw⟩:=I1 (P:=P) g (n*1) e (bT s.data.toList) 0 (xs++rest) w T (by simpa using m) (pK _);have A:=J w;rw[Rr,c]at A;refine⟨.slice (some ⟨g,0,none⟩) (n+s.size) cap,w',?_,⟨f,.inr ⟨g,cap,rest.drop (bT s.data.toList).length,rfl,M,?_,?_,l,q⟩⟩,?_,.inl rfl⟩
   .simp[Builtin.append_,Ey D,Ey o,sizeOf,typeInfo,af,c,Builtin.lenOf,l,A,Addr.add_lit];simp at az;rw[az];rfl
   .have ay:(xs++rest).take (n*1+0)=xs:=(by rw[oY,<-a.1];exact Em);have aF:(xs++rest).drop (n*1+0+ (bT s.data.toList).length)=rest.drop (bT s.data.toList).length:=by
     rw[oY,<-a.1,List.drop_append];simp[ty]
    rw[ay,aF]at V;exact V
   .rw[cr]at r m;rw[cr,cr,Ax,<-r,a.1];rw[a.1]at m;omega
   .exact Z.mono λk hk _=>by simp[Value.ownBlock,hk]
  .have R:∀j u,xs[j]? =some u->w.cell? ((⟨g,0,none⟩:Addr).add j)=some u:=λj u o=>by
    rw[Ek,lY];exact T.cell (by rw[gx ((qV.1 o).1)];exact o)
   have C:=run_append_grow_string (P:=P) (w:=w) t u H e i z D o af S ⟨g,0,none⟩ n cap xs (by rw[c];exact a.1) R s U U (growslice_fits U (by rw[x];omega));rw[Rr]at C;have d:=h cap U;exact⟨_,_,C,d.1,d.2,.inr ⟨w.heap.size,rfl,bh _⟩⟩
def aaN{ops:dn}{rest:List Oper}{o:Oper}{a:Act}{w:ab}{Q:Exit->Act->ab->Prop}(f:o.guard=none)(s x:Operand)(t u:TypeId)(ap:o.op=.call {callee:=.builtin .append,args:= #[s,x],argTypes:= #[t,u]})(B:Nat)(e:TypeId)(c:gZ P t e 1 1)(k:P.underlying u=some .string){v:ai}{n:Nat}{xs:bJ}(d:Vec w B e 1 v n xs)(l:a.eval s=v){tx:dI}(g:a.eval x=.string tx)(j:n+tx.size<=maxLen)(b:n+tx.size<=140737488355328)(m:B<=w.heap.size)(h:∀v' w',Vec w' B e 1 v' (n+tx.size) (xs++bT tx.data.toList)->eO w v v' w'->wpList P ops Q rest (a.put o.dst v') w'):wpList P ops Q (o::rest) a w:=by
 refine wpList_plain f λK p=> ?_;obtain⟨i,z,ay,aF,q,r,y,A⟩:=c;have⟨v',w',C,D,E,F⟩:=aaL (P:=P) w B t u o.type e i z ay k aF q r y A v n xs d tx j b m;unfold Oper.wp execOp;simp only[ap,resolve,invoke,builtin,vA,Ez,Result.andThen_ok,List.map_toArray,mW,tz,l,g,C];exact p _ _ (h v' w' D ⟨E,F⟩)
end
end Go.Proofs.YtlcdgbhigfgehabGreatDoor
namespace Go.Proofs.YtlcdgbhigfgehabGreatDoor
open Go.RowKit Go.Maps

def EC:Keyed aj.prog 9:=string_keyed aj.underlying9
def ED(a:ar)(h:a.length<=1000):∃b,keyOf aj.prog 9 (.string ⟨a.toArray⟩)=some b:=⟨_,Go.WideMaps.keyOf_string_mk aj.underlying9 (by unfold maxLen;show a.toArray.size<=_;simp;omega)⟩
end Go.Proofs.YtlcdgbhigfgehabGreatDoor
namespace Go.Proofs.YtlcdgbhigfgehabGreatDoor
open Go.RowKit
def aa0:(aj.prog.info? 171).map (λi=>(i.zero,i.size,i.bytes))=some (some (.agg #[.int .i64 0,.int .i64 0,.slice none 0 0]),3,40):=ah
def rX:gZ aj.prog 153 171 3 40:=gZ.mk aj.underlying153 aa0 rfl
def gH:List (Tok×ai)->bJ
 |[]=> []
 |p::l=>.int .i64 p.1.b::.int .i64 p.1.c::p.2::gH l
def EJ(l m:List (Tok×ai)):gH (l++m)=gH l++gH m:=by
 induction l with
 |nil=>rfl
 |cons p l a=>simp[gH,a]
@[simp] def at3(l:List (Tok×ai)):(gH l).length=l.length*3:=by
 induction l with
 |nil=>rfl
 |cons p l a=>simp[gH,a];omega
def aa1(l:List (Tok×ai))(i:Nat)(h:i<l.length): (gH l)[i*3]? =some (.int .i64 l[i].1.b)/\(gH l)[i*3+1]? =some (.int .i64 l[i].1.c)/\(gH l)[i*3+2]? =some l[i].2:=by
 induction l generalizing i with
 |nil=>simp at h
 |cons p l a=>
  cases i with
  |zero=>simp[gH]
  |succ i=>
   have:=a i (by simpa using h);simp only[gH,fJ,ob,Er];refine⟨?_,?_,?_⟩
   .rw[show i*3+3=(i*3)+1+1+1 from rfl];simpa using this.1
   .rw[show i*3+3+1=(i*3+1)+1+1+1 from by omega];simpa using this.2.1
   .rw[show i*3+3+2=(i*3+2)+1+1+1 from by omega];simpa using this.2.2
def rY(b c:Int)(a:Option Addr)(n m:Nat):∀u∈[Value.int .i64 b,.int .i64 c,.slice a n m],u.oneCell'=true:=by
 intro u d;simp at d;rcases d with rfl|rfl|rfl<;>rfl
structure oq(w:ab)(B:Nat)(v:ai)(l:List (Tok×ai)):Prop where
 vec:Vec w B 171 3 v l.length (gH l)
 data:∀p∈l,bH w p.2 p.1.d
 from_:∀p∈l,∀k,p.2.ownBlock=some k->B<=k
section
variable{w w1:World}{S:Nat->Prop}{B:Nat}{v:Value}{l:List (Tok×Value)}
def oq.keep(h:oq w B v l)(k:Fr S w w1)(c:∀b,v.ownBlock=some b->¬S b)(hd:∀p∈l,∀b,p.2.ownBlock=some b->¬S b):oq w1 B v l:=⟨h.vec.keep k c,λp a=>(h.data p a).keep k (hd p a),h.from_⟩
def oq.br(h:oq w B v l)(k:Fr aD w w1):oq w1 B v l:=h.keep k (λ_ _ h=>h) (λ_ _ _ _ h=>h)
def oq.apart(h:oq w B v l):∀p∈l,∀b,p.2.ownBlock=some b->v.ownBlock≠some b:=by
 intro p c b d a;rcases h.vec.2 with⟨rfl,_⟩|⟨g,cap,rest,rfl,_,ap,_⟩
 .simp[Value.ownBlock]at a
 .simp[Value.ownBlock]at a;subst a;exact(h.data p c).apart ap aE d
def oq.get(h:oq w B v l)(i:Nat)(af:i<l.length):∃g cap,v=.slice (some ⟨g,0,none⟩) l.length cap/\w.cell? ⟨g,i*3,none⟩=some (.int .i64 l[i].1.b)/\w.cell? ⟨g,i*3+1,none⟩=some (.int .i64 l[i].1.c)/\w.cell? ⟨g,i*3+2,none⟩=some l[i].2:=by
 obtain⟨g,cap,rest,rfl,_,ap,_⟩:=h.vec.row U;have a:=aa1 l i af;refine⟨g,cap,rfl,ap.cell ?_,ap.cell ?_,ap.cell ?_⟩;all_goals rw[gx a5]
 .exact a.1
 .exact a.2.1
 .exact a.2.2
end
end Go.Proofs.YtlcdgbhigfgehabGreatDoor
namespace Go.Proofs.YtlcdgbhigfgehabGreatDoor
open Go.RowKit

end Go.Proofs.YtlcdgbhigfgehabGreatDoor
namespace Go.Proofs.YtlcdgbhigfgehabGreatDoor
open Go.RowKit

structure ej(w:ab)(B:Nat)(v:ai)(l:List (Tok×ai)):Prop where
 vec:Vec w B 171 3 v l.length (gH l)
 data:∀p∈l,Vec w B 5 1 p.2 p.1.d.length (bT p.1.d)
 two:l.Pairwise λp q=>∀k,p.2.ownBlock=some k->q.2.ownBlock≠some k
section
variable{w w1:World}{S:Nat->Prop}{B:Nat}{v:Value}{l:List (Tok×Value)}
def ej.nil(w:ab)(B:Nat):ej w B (.slice none 0 0) []:=⟨Vec.nil _ _ _ _,λ_ h=>by simp at h,List.Pairwise.nil⟩
def ej.hK(h:ej w B v l):oq w B v l:=⟨h.vec,λp a=>(h.data p a).isB,λp a k hk=>((h.data p a).lt k hk).1⟩
def ej.keep(h:ej w B v l)(k:Fr S w w1)(c:∀b,v.ownBlock=some b->¬S b)(hd:∀p∈l,∀b,p.2.ownBlock=some b->¬S b):ej w1 B v l:=⟨h.vec.keep k c,λp a=>(h.data p a).keep k (hd p a),h.two⟩
def ej.br(h:ej w B v l)(k:Fr aD w w1):ej w1 B v l:=h.keep k (λ_ _ h=>h) (λ_ _ _ _ h=>h)
def ej.below(h:ej w B v l)(k:Fr S w w1)(d:∀b,S b->b<B):ej w1 B v l:=h.keep k (λb a c=>by have:=(h.vec.lt b a).1;have:=d b c;omega) (λp e b a c=>by have:=((h.data p e).lt b a).1;have:=d b c;omega)
def ej.lift{B':Nat}(h:ej w B v l)(a:B'<=B):ej w B' v l:=⟨h.vec.mono a,λp b=>(h.data p b).mono a,h.two⟩
def ej.snoc{v':ai}{t:Tok}{e:ai}(h:ej w B v l)(g:Vec w1 B 171 3 v' (l.length+1) (gH l++ [.int .i64 t.b,.int .i64 t.c,e]))(k:Fr (λk=>v.ownBlock=some k) w w1)(hd:Vec w1 B 5 1 e t.d.length (bT t.d))(i:∀p∈l,∀k,p.2.ownBlock=some k->e.ownBlock≠some k):ej w1 B v' (l++ [(t,e)]):=by
 refine⟨?_,?_,?_⟩
 .rw[cr,EJ];exact g
 .intro p a;rcases fB.1 a with a|a
  .exact(h.data p a).keep k (λb j m=>h.hK.apart p a b j m)
  .simp at a;subst a;exact hd
 .rw[rZ];exact⟨h.two,tJ _ _,λp a q f=>by simp at f;subst f;exact i p a⟩
def ej.lt(h:ej w B v l):∀p∈l,∀b,p.2.ownBlock=some b->B<=b/\b<w.heap.size:=λp a b c=>(h.data p a).lt b c
end
def EK(v:ai)(l:ar)(w:ab)(h:bH w v l)(j:l.length<=1000000): Calls aj.prog 71 #[v] w λe w'=>∃v',e=.returned v'/\Vec w' w.heap.size 5 1 v' l.length (bT l)/\Fr aD w w':=by
 have g:=λ(W:ab)(a:Option Addr)(m c:Nat)=>Lib.run_eql_slice_nil (P:=aj.prog) W 25 5 a m c 0 0 aj.underlying25;have H:=ae h;rcases h.cases with⟨rfl,rfl⟩|⟨b,o,cap,rfl,-⟩
 .clear h;go_enter aj.func71,Tryz.ntmps71;go_wp2_with fail;go_ret;exact⟨_,rfl,Vec.nil _ _ _ _,Fr.refl _ _⟩
 .clear h;have i:=Reads.pM (H.o.br ((Fr.refl aD w).alloc (.cells #[] 5)));have p:=ae i;clear i;go_enter aj.func71,Tryz.ntmps71;go_wp2_with (at_builtin;refine fP rfl _ _ _ rfl w.heap.size 5 1 1 kj (v:=.slice (some ⟨w.heap.size,0,none⟩) 0 0) (n:=0) (xs:=[]) ⟨rfl,.inr ⟨_,0,[],rfl,bh _,Own.alloc _ _ _,rfl,bh _,dl _⟩⟩ rfl (m:=l.length) p.o rfl ag (pK _) eH U ag ?_;intro v' w1 d f q r);go_ret;rw[lY]at d;exact⟨v',rfl,by simpa using d,((Fr.refl aD w).alloc _).step f (λk hk j=>by simp[Value.ownBlock]at hk;omega)⟩
def aa2(v1 v2:ai)(l1 l2:ar)(w:ab)(a:bH w v1 l1)(b:bH w v2 l2): Calls aj.prog 149 #[v1,v2] w λe w'=>e=.returned (.bool (decide (l1=l2)))/\w=w':=by
 have c:=xT (P:=aj.prog) w 25 9 5 _ _ aj.underlying25 aj.underlying5 aj.underlying9 a;have d:=xT (P:=aj.prog) w 25 9 5 _ _ aj.underlying25 aj.underlying5 aj.underlying9 b;clear a b;go_enter aj.func149,Tryz.ntmps149;go_wp2;go_ret;refine⟨?_,rfl⟩;by_cases h:l1=l2<;>simp[h]
end Go.Proofs.YtlcdgbhigfgehabGreatDoor
namespace Go.Proofs.YtlcdgbhigfgehabGreatDoor
open Go.RowKit Go.Maps

def ua(l:List (aI×ai))(n:ar):jO:=l.foldl (λo p=>if p.1.name=n then some p.2 else o) none
def adK(l:List (aI×ai))(p:aI×ai)(n:ar):ua (l++ [p]) n=if p.1.name=n then some p.2 else ua l n:=by simp[ua]
def SJ{w:ab}{l:List (aI×ai)}(h:∀p∈l,bH w p.2 p.1.data)(n:ar):bH w ((ua l n).getD (.slice none 0 0)) ((Au (l.map (·.1)) n).getD []):=by
 have b:∀(l:List (aI×ai))(o:jO)(a:Option (ar)),(∀p∈l,bH w p.2 p.1.data)->bH w (o.getD (.slice none 0 0)) (a.getD [])->bH w ((l.foldl (λo p=>if p.1.name=n then some p.2 else o) o).getD (.slice none 0 0)) (((l.map (·.1)).foldl (λo f=>if f.name=n then some f.data else o) a).getD []):=by
  intro l;induction l with
  |nil=>intro o a _ h;exact h
  |cons p l d=>
   intro o a c e;simp only[rQ,mW];refine d _ _ (λq g=>c q (by simp[g])) ?_;split
   .exact c p ag
   .exact e
 exact b l none none h (.inl ⟨rfl,rfl⟩)
def adL(w:ab):(zeroValue 25).run aj.prog w=.ok (.slice none 0 0) w:=ah
def kw(w:ab)(aG n:Nat)(l:List (aI×ai)):Prop:=∃f,fQ w aj.prog 9 aG n f/\∀ec:ar,f (.string ⟨ec.toArray⟩)=ua l ec
def kw.made(w:ab):kw (w.alloc (.map #[] 0)) w.heap.size 0 []:=⟨_,fQ.made w _ _,λ_=>rfl⟩
def kw.keep{w w1:ab}{S:Nat->Prop}{aG n:Nat}{l:List (aI×ai)}(h:kw w aG n l)(k:Fr S w w1)(a:¬S aG):kw w1 aG n l:=by
 obtain⟨f,b,c⟩:=h;exact⟨f,b.keep k a,c⟩
def kw.apart{w:ab}{aG n:Nat}{l:List (aI×ai)}(h:kw w aG n l){B aK m:Nat}{T:TypeId}{v:ai}{xs:bJ}(a:Vec w B T aK v m xs):v.ownBlock≠some aG:=by
 obtain⟨f,b,_⟩:=h;rcases a.2 with⟨rfl,-⟩|⟨g,cap,rest,rfl,-,ap,-⟩
 .simp[Value.ownBlock]
 .have:=b.apart ap;simpa[Value.ownBlock]using this
def kw.look{w:ab}{aG n:Nat}{l:List (aI×ai)}(h:kw w aG n l)(a:dI)(b:a.size<=1000): (Instr.lookup 150 (.map (some aG)) (.string a) false).run aj.prog w=.ok ((ua l a.data.toList).getD (.slice none 0 0)) w:=by
 obtain⟨f,c,d⟩:=h;have⟨e,hk⟩:=ED a.data.toList (by simpa using b);have:=c.look EC aj.underlying150 (adL w) hk;rw[d]at this;rwa[tw]at this
def kw.put{w:ab}{aG n:Nat}{l:List (aI×ai)}(h:kw w aG n l)(i:n<maxLen)(a:dI)(d:ar)(c:ai)(j:a.size<=1000): ∃w',(Instr.mapUpdate 150 (.map (some aG)) (.string a) c).run aj.prog w=.ok () w'/\kw w' aG (n+1) (l++ [(⟨a.data.toList,d⟩,c)])/\Fr (λk=>k=aG) w w':=by
 obtain⟨f,m,o⟩:=h;have⟨s,hk⟩:=ED a.data.toList (by simpa using j);rw[tw]at hk;have⟨w',p,q,r⟩:=m.put EC aj.underlying150 i hk c;refine⟨w',p,⟨_,q,λe=> ?_⟩,r⟩;rw[adK];by_cases b:a.data.toList=e
 .rw[aV b];subst b;rw[tw,AF]
 .rw[aC b,AG _ _ (λg=>b ?_)]
  .exact o e
  .simp only[Value.string.injEq]at g;rw[<-g]
end Go.Proofs.YtlcdgbhigfgehabGreatDoor
namespace Go.Proofs.YtlcdgbhigfgehabGreatDoor
open Go.RowKit

def o7(k:Int):ai:=if k=0 then .nilIface else .iface 30 (.int .i64 k)
def iM(block:Int)(lens:cw):Int:=if block<1\/64<block then 1 else if lens.any (λn=>decide (300<n))then 2 else 0
def SO(block:Int)(n:Nat):iM block [n]=sized block n:=by simp[iM,sized]
def SP(block:Int)(n m:Nat):iM block [n,m]=if sized block n=0 then sized block m else sized block n:=by
 unfold iM sized;by_cases h:block<1\/64<block
 .simp[h]
 .by_cases a:300<n<;>by_cases b:300<m<;>simp[h,a,b]
def SQ(block:Int)(a:cw)(v:ai)(w:ab)(h:block<1\/64<block): Calls aj.prog 75 #[.int .i64 block,v] w λe w'=>e=.returned (o7 (iM block a))/\w=w':=by
 rw[iM,aV h];rcases h with h|h
 .go_enter aj.func75,Tryz.ntmps75;go_wp2;go_ret;exact⟨rfl,rfl⟩
 .have b:¬block<1:=U;go_enter aj.func75,Tryz.ntmps75;go_wp2;go_ret;exact⟨rfl,rfl⟩
def Fo(block:Int)(g c:Nat)(vs:List (Option Addr×Nat×Nat))(w:ab)(o:∀i(h:i<vs.length),w.cell? ⟨g,i,none⟩=some (.slice vs[i].1 vs[i].2.1 vs[i].2.2))(z:vs.length<=1000)(p:∀x∈vs,x.2.1<=maxLen): Calls aj.prog 75 #[.int .i64 block,.slice (some ⟨g,0,none⟩) vs.length c] w λe w'=>e=.returned (o7 (iM block (vs.map (·.2.1))))/\w=w':=by
 by_cases f:block<1\/64<block
 .exact SQ block _ _ w f
 have q:¬block<1:=U;have r:¬64<block:=U;have dV:=ae o;have s:=ae p;clear o p;go_enter aj.func75,Tryz.ntmps75;go_wp2;go_loop [16] (λi=>∃k:Nat,k<=vs.length/\i=.int .i64 k/\∀x∈vs.take k,x.2.1<=300) (λi=>vs.length - (intOf i).toNat)
 case atStart=>exact⟨0,dl _,rfl,λx t=>by simp at t⟩
 case round=>
  obtain⟨k,hk,rfl,a⟩:=hrel;by_cases b:k<vs.length
  .have A:=dV.o k b;have j:=s.o vs[k] (dy b);have l:=ae a;have m:vs[k]∈vs:=dy b;have u:Hid (vs.take (k+1)=vs.take k++ [vs[k]]):=lV b;unfold maxLen at j;generalize vs[k]=x at *;clear a;by_cases v:300<x.2.1
   .go_wp2;go_ret;refine⟨?_,rfl⟩;have:iM block (vs.map (·.2.1))=2:=by
     rw[iM,aC f,aV];rw[List.any_map,List.any_eq_true];exact⟨x,m,by simpa using v⟩
    rw[this];rfl
   .go_wp2;go_round;case rel=>
     refine⟨k+1,U,by go_num,?_⟩;intro y d;rw[u.out]at d;rcases fB.1 d with d|d
     .exact l.o y d
     .simp at d;subst d;omega
    case measure=>simp[intOf];omega
  .obtain rfl:k=vs.length:=U;have l:=ae a;clear a;go_wp2;go_ret;refine⟨?_,rfl⟩;have:iM block (vs.map (·.2.1))=0:=by
    rw[iM,aC f,aC];rw[List.any_map,List.any_eq_true];rintro⟨y,d,n⟩;have:=l.o y (by rw[Fp];exact d);simp at n;omega
   rw[this];rfl
def Ka(block:Int)(w:ab): Calls aj.prog 75 #[.int .i64 block,.slice none 0 0] w λe w'=>e=.returned (o7 (iM block []))/\w=w':=by
 by_cases a:block<1\/64<block
 .exact SQ block _ _ w a
 have b:¬block<1:=U;have c:¬64<block:=U;rw[iM,aC a];go_enter aj.func75,Tryz.ntmps75;go_wp2;refine xU 1 ?_;rw[rT];go_wp2;go_ret;exact⟨rfl,rfl⟩
end Go.Proofs.YtlcdgbhigfgehabGreatDoor
namespace Go.Proofs.YtlcdgbhigfgehabGreatDoor
open Go.RowKit

def SR:o7 0=.nilIface:=rfl
def Bs(k:Int)(h:k≠0):o7 k=.iface 30 (.int .i64 k):=aC h
def ad3(w w':ab)(r:Int ⊕ ar)(v:ai)(k:Int):Prop:=match r with
 |.inl e=>v=.slice none 0 0/\k=e
 |.inr out=>k=0/\Vec w' w.heap.size 5 1 v out.length (bT out)
def Kb(w:ab)(r:Int ⊕ ar)(e:Ending)(w':ab):Prop:=∃v k,e=.returned (.tuple #[v,o7 k])/\ad3 w w' r v k/\Fr aD w w'
def ad4(bE v1:ai)(base:ar)(d:List Tok)(block:Int)(w:ab)(f:bH w bE base)(a:sized block base.length≠0): Calls aj.prog 68 #[bE,v1,.int .i64 block] w (Kb w (mT base block d)):=by
 have g:mT base block d=.inl (sized block base.length):=(by unfold mT;rw[aC a]);rw[g];obtain⟨b,c,rfl,m,n⟩:=f.shape;have j:base.length<=maxLen:=U;have hk:=Fo block w.heap.size 1 [(b,base.length,c)] (w.alloc (.cells #[.slice b base.length c] 25)) (λi h=>by simp at h;subst h;simp) ag (by simpa using j);rw[show[(b,base.length,c)].map (·.2.1)=[base.length]from rfl,SO,Bs _ a]at hk;have k:=ae hk;have l:=ae a;clear hk a f;go_enter aj.func68,Tryz.ntmps68;go_wp2_with fail;refine k.o.mono ?_;rintro e w'⟨rfl,rfl⟩;go_wp2_with fail;go_ret2;exact⟨_,_,by rw[Bs _ l.o];rfl,⟨rfl,rfl⟩,(Fr.refl _ _).alloc _⟩
def ad5(bE v1:ai)(base:ar)(l:List (Tok×ai))(blk B:Nat)(w:ab)(L:bH w bE base)(dO:oq w B v1 l)(bw:sized blk base.length=0)(hd:∀p∈l,p.1.d.length<=1000): Calls aj.prog 68 #[bE,v1,.int .i64 blk] w (Kb w (dj base blk (l.map (·.1)) [])):=by
 obtain⟨iN,eY,rfl,bD,cb⟩:=L.shape;have hm:base.length<=maxLen:=U;have hk:=Fo blk w.heap.size 1 [(iN,base.length,eY)] (w.alloc (.cells #[.slice iN base.length eY] 25)) (λi h=>by simp at h;subst h;simp) ag (by simpa using hm);rw[show[(iN,base.length,eY)].map (·.2.1)=[base.length]from rfl,SO,bw,SR]at hk;have SS:1<=blk/\blk<=64/\base.length<=300:=by
  unfold sized at bw;split at bw
  .omega
  .split at bw
   .omega
   .omega
 obtain⟨pX,iI,abf⟩:=SS;have hN:((base.length:Int)+blk - 1) / blk=(b6 base.length blk:Nat):=by
  unfold b6;rw[Int.natCast_ediv,Int.ofNat_sub U];simp
 have ad6:b6 base.length blk<=300:=(by have:=(tu base.length blk U).2.2;omega);obtain⟨a1,c1,Kc,p1,Bt,-⟩:=dO.vec.shape;subst Kc;have bO:=dO.vec.len;unfold maxLen at bO;have jU:=ae hk;have mn:=ae L;have so:=ae dO;have m6:=ae hd;clear hk L dO hd bw hm bD cb p1 Bt;generalize SU:b6 base.length blk=N at hN ad6;have A5:=ae SU;clear SU;go_enter aj.func68,Tryz.ntmps68;go_wp2_with fail;refine jU.o.mono ?_;rintro e w'⟨rfl,rfl⟩;go_wp2_with fail;rw[hN];clear hN;have Kd:Fr aD w ((w.alloc (.cells #[.slice iN base.length eY] 25)).alloc (.cells #[] 5)):=((Fr.refl _ _).alloc _).alloc _;have Fq:Vec ((w.alloc (.cells #[.slice iN base.length eY] 25)).alloc (.cells #[] 5)) w.heap.size 5 1 (.slice (some ⟨w.heap.size+1,0,none⟩) 0 0) 0 []:=⟨rfl,.inr ⟨w.heap.size+1,0,[],rfl,U,by have:=Own.alloc (w.alloc (.cells #[.slice iN base.length eY] 25)) #[] 5;simpa using this,rfl,Nat.le_refl _,Nat.zero_le _⟩⟩;have ad7:=ae Kd;have Fs:=ae Fq;clear Kd Fq;go_loopw [10,31] (λv i wr=>∃(k:Nat)(out:ar)(a:Option Addr)(c:Nat),k<=l.length/\i=.int .i64 k/\v=.slice a out.length c/\dj base blk ((l.map (·.1)).take k) []=.inr out/\Vec wr w.heap.size 5 1 (.slice a out.length c) out.length (bT out)/\Fr aD w wr) (λ_ i _=>l.length - (intOf i).toNat)
 case atStart=>exact⟨0,[],_,_,dl _,rfl,rfl,rfl,Fs.o,ad7.o⟩
 case round=>
  obtain⟨k,out,a,c,hk,rfl,rfl,E,bP,R⟩:=hrel;have auF:out.length<=300:=QW base blk _ [] out ag E;by_cases Y:k<l.length
  .have ad8:k< (l.map (·.1)).length:=(by simpa using Y);have M:=ZW base blk (l.map (·.1)) k ad8 out E;rw[v7,A5.o]at M;have ay:=so.o.br R;obtain⟨g1,vD,dA,x1,l6,hO⟩:=ay.get k Y;simp only[eG,fF]at dA;obtain⟨rfl,rfl⟩:=dA;have d1:=ay.data l[k] (dy Y);have o8:=m6.o l[k] (dy Y);obtain⟨fr,ek,yq,kq,tV⟩:=d1.shape;rw[yq]at hO d1;have Ke:=ae (mn.o.br R);have O:=ae M;have SW:=ae E;have Q:=ae bP;have F:=ae R;have Z:=ae d1;clear ay M E bP R d1 yq;generalize l[k].1=t at *;obtain⟨G,K,o⟩:=t;simp only at x1 l6 o8 kq hO;replace Z:Hid (bH wr (.slice fr o.length ek) o):=Z;have T:dX N ⟨G,K,o⟩=false->dj base blk (l.map (·.1)) []=.inl 3:=λh=>QV base blk _ (k+1) 3 (by rw[O.o,h];rfl);have az:dX N ⟨G,K,o⟩=true->300< (out++gw base blk ⟨G,K,o⟩).length->dj base blk (l.map (·.1)) []=.inl 2:=λh m7=>QV base blk _ (k+1) 2 (by rw[O.o,aV h,aV m7]);have SX:dX N ⟨G,K,o⟩=true->¬300< (out++gw base blk ⟨G,K,o⟩).length->dj base blk ((l.map (·.1)).take (k+1)) []=.inr (out++gw base blk ⟨G,K,o⟩):=λh m7=>(by rw[O.o,aV h,aC m7]);have uf:=ae T;have p8:=ae az;have S:=ae SX;clear T az SX;by_cases bD:K<0
   .have f:dX N ⟨G,K,o⟩=false:=(by simp[dX];omega);have m:=ae f;clear f;go_wp2_with fail;go_ret2;rw[uf.o m.o];exact⟨_,3,rfl,⟨rfl,rfl⟩,F.o.alloc _⟩
   by_cases cb:G<0
   .have f:dX N ⟨G,K,o⟩=false:=(by simp[dX];omega);have m:=ae f;clear f;go_wp2_with fail;go_ret2;rw[uf.o m.o];exact⟨_,3,rfl,⟨rfl,rfl⟩,F.o.alloc _⟩
   by_cases b7:K=0
   .subst b7;by_cases dC:G=0
    .subst dC;have V:dX N ⟨0,0,o⟩=true:=(by simp[dX]);have r:gw base blk ⟨0,0,o⟩=o:=(by simp[gw]);rw[r,cr]at p8 S;have P:=ae V;clear V r;by_cases q:300<out.length+o.length
     .go_wp2_with (at_builtin;go_must (refine fP rfl _ _ _ rfl w.heap.size 5 1 1 kj (Q.o.keep ((Fr.refl aD _).alloc _) (λ_ _ h=>h)) rfl (Reads.pM (Z.o.br ((Fr.refl aD _).alloc _))) rfl ag (pK _) eH U (by have:=F.o.size;simp;omega) ?_);intro v4 w4 g n s u;obtain⟨l7,c4,x,-⟩:=g.shape;subst x;have H:=ae g;have y:=ae n;clear g n s u);go_ret2;rw[p8.o P.o q];exact⟨_,2,rfl,⟨rfl,rfl⟩,(F.o.alloc _).step y.o (λb L bO=>by have:=(Q.o.lt b L).1;omega)⟩
     .go_wp2_with (at_builtin;go_must (refine fP rfl _ _ _ rfl w.heap.size 5 1 1 kj (Q.o.keep ((Fr.refl aD _).alloc _) (λ_ _ h=>h)) rfl (Reads.pM (Z.o.br ((Fr.refl aD _).alloc _))) rfl ag (pK _) eH U (by have:=F.o.size;simp;omega) ?_);intro v4 w4 g n s u;obtain⟨l7,c4,x,-⟩:=g.shape;subst x;have H:=ae g;have y:=ae n;clear g n s u);have aa:out.length+o.length=(out++o).length:=ag;refine⟨⟨k+1,out++o,l7,c4,U,by go_num,by rw[aa],S.o P.o q,?_,(F.o.alloc _).step y.o (λb L bO=>by have:=(Q.o.lt b L).1;omega)⟩,by simp[intOf];omega⟩;have:=H.o;rw[<-nx,aa]at this;exact this
    .have f:dX N ⟨G,0,o⟩=false:=(by simp[dX];omega);have m:=ae f;clear f;go_wp2_with fail;go_ret2;rw[uf.o m.o];exact⟨_,3,rfl,⟨rfl,rfl⟩,F.o.alloc _⟩
   have auG:(K==0)=false:=(by simpa using b7);by_cases dB:0<o.length
   .have f:dX N ⟨G,K,o⟩=false:=by
     have:o.isEmpty=false:=(by cases o<;>simp at dB⊢);simp[dX,this];omega
    have m:=ae f;clear f;go_wp2_with fail;go_ret2;rw[uf.o m.o];exact⟨_,3,rfl,⟨rfl,rfl⟩,F.o.alloc _⟩
   by_cases jV:(N:Int)<G
   .have f:dX N ⟨G,K,o⟩=false:=(by simp[dX];omega);have m:=ae f;clear f;go_wp2_with fail;go_ret2;rw[uf.o m.o];exact⟨_,3,rfl,⟨rfl,rfl⟩,F.o.alloc _⟩
   by_cases ky:(N:Int) - G<K
   .have f:dX N ⟨G,K,o⟩=false:=(by simp[dX];omega);have m:=ae f;clear f;go_wp2_with fail;go_ret2;rw[uf.o m.o];exact⟨_,3,rfl,⟨rfl,rfl⟩,F.o.alloc _⟩
   .obtain⟨j,rfl⟩:=pO (a:=G) U;obtain⟨D,rfl⟩:=pO (a:=K) U;have SY:j*blk<base.length:=(rP base.length blk j U).1 (by rw[A5.o];omega);rcases Ke.o.cases with⟨b9,Bu⟩|⟨mj,Jo,AM,b9,AT,Bu,-⟩
    .rw[Bu]at SY;simp at SY
    simp only[eG,fF]at b9;obtain⟨rfl,rfl⟩:=b9;have Bv:o=[]:=(by cases o with|nil=>rfl|cons _ _=>simp at dB);subst Bv;have J:((j:Int)+D)*blk=(((j+D)*blk:Nat):Int):=ag;have z:(j:Int)*blk=((j*blk:Nat):Int):=ag;have hle:j*blk<=(j+D)*blk:=vt _ U;have RH:(j+D)*blk<=600*64:=AS U iI;have o9:0<=((j:Int)+D)*blk:=(by rw[J];omega);have sr:((j:Int)+D)*blk<=38400:=(by rw[J];omega);have p9:0<=(j:Int)*blk:=(by rw[z];omega);have Kf:(j:Int)*blk<=38400:=(by rw[z];omega);have Kg:(j:Int)*blk<=((j:Int)+D)*blk:=(by rw[J,z];omega);have Kh:(j:Int)*blk<base.length:=(by rw[z];omega);have ic:=ae J;clear J z;have V:dX N ⟨j,D,[]⟩=true:=(by simp[dX];omega);have P:=ae V;clear V;by_cases aa5:(j+D)*blk<=base.length
    .have Ki:((j:Int)+D)*blk<=base.length:=(by rw[ic.o];omega);have A:=Ke.o.part (j*blk) ((j+D)*blk) (eY - j*blk) U U U (by unfold maxLen at Bu⊢;omega);have W:((base.drop (j*blk)).take (((j+D)*blk) - j*blk)).length=((j+D)*blk) - j*blk:=a5;have C:=ae A;have r:=QX base blk ⟨j,D,[]⟩ (by show(0:Int)<D;omega);simp only[pP]at r;rw[show min ((j+D)*blk) base.length=((j+D)*blk) by omega]at r;rw[r,cr]at p8 S;generalize o2:(base.drop (j*blk)).take (((j+D)*blk) - j*blk)=X at *;have rc:=ae o2;have q2:=ae W;have Jr:X.length<=300:=U;clear o2 A r W;by_cases q:300<out.length+X.length
     .go_wp2_with (at_builtin;go_must (refine fP rfl _ _ _ rfl w.heap.size 5 1 1 kj (Q.o.keep ((Fr.refl aD _).alloc _) (λ_ _ h=>h)) rfl (Reads.pM (C.o.br ((Fr.refl aD _).alloc _))) rfl ag (pK _) eH U (by have:=F.o.size;simp;omega) ?_);intro v4 w4 g n s u;obtain⟨l7,c4,x,-⟩:=g.shape;subst x;have H:=ae g;have y:=ae n;clear g n s u);go_ret2;rw[p8.o P.o q];exact⟨_,2,rfl,⟨rfl,rfl⟩,(F.o.alloc _).step y.o (λb L bO=>by have:=(Q.o.lt b L).1;omega)⟩
     .go_wp2_with (at_builtin;go_must (refine fP rfl _ _ _ rfl w.heap.size 5 1 1 kj (Q.o.keep ((Fr.refl aD _).alloc _) (λ_ _ h=>h)) rfl (Reads.pM (C.o.br ((Fr.refl aD _).alloc _))) rfl ag (pK _) eH U (by have:=F.o.size;simp;omega) ?_);intro v4 w4 g n s u;obtain⟨l7,c4,x,-⟩:=g.shape;subst x;have H:=ae g;have y:=ae n;clear g n s u);have aa:out.length+X.length=(out++X).length:=ag;refine⟨⟨k+1,out++X,l7,c4,U,by go_num,by rw[aa],S.o P.o q,?_,(F.o.alloc _).step y.o (λb L bO=>by have:=(Q.o.lt b L).1;omega)⟩,by simp[intOf];omega⟩;have:=H.o;rw[<-nx,aa]at this;exact this
    .have Ki:(base.length:Int)< ((j:Int)+D)*blk:=(by rw[ic.o];omega);have A:=Ke.o.part (j*blk) base.length (eY - j*blk) U U U (by unfold maxLen at Bu⊢;omega);have W:((base.drop (j*blk)).take (base.length - j*blk)).length=base.length - j*blk:=ag;have C:=ae A;have r:=QX base blk ⟨j,D,[]⟩ (by show(0:Int)<D;omega);simp only[pP]at r;rw[show min ((j+D)*blk) base.length=base.length by omega]at r;rw[r,cr]at p8 S;generalize o2:(base.drop (j*blk)).take (base.length - j*blk)=X at *;have rc:=ae o2;have q2:=ae W;have Jr:X.length<=300:=U;clear o2 A r W;by_cases q:300<out.length+X.length
     .go_wp2_with (at_builtin;go_must (refine fP rfl _ _ _ rfl w.heap.size 5 1 1 kj (Q.o.keep ((Fr.refl aD _).alloc _) (λ_ _ h=>h)) rfl (Reads.pM (C.o.br ((Fr.refl aD _).alloc _))) rfl ag (pK _) eH U (by have:=F.o.size;simp;omega) ?_);intro v4 w4 g n s u;obtain⟨l7,c4,x,-⟩:=g.shape;subst x;have H:=ae g;have y:=ae n;clear g n s u);go_ret2;rw[p8.o P.o q];exact⟨_,2,rfl,⟨rfl,rfl⟩,(F.o.alloc _).step y.o (λb L bO=>by have:=(Q.o.lt b L).1;omega)⟩
     .go_wp2_with (at_builtin;go_must (refine fP rfl _ _ _ rfl w.heap.size 5 1 1 kj (Q.o.keep ((Fr.refl aD _).alloc _) (λ_ _ h=>h)) rfl (Reads.pM (C.o.br ((Fr.refl aD _).alloc _))) rfl ag (pK _) eH U (by have:=F.o.size;simp;omega) ?_);intro v4 w4 g n s u;obtain⟨l7,c4,x,-⟩:=g.shape;subst x;have H:=ae g;have y:=ae n;clear g n s u);have aa:out.length+X.length=(out++X).length:=ag;refine⟨⟨k+1,out++X,l7,c4,U,by go_num,by rw[aa],S.o P.o q,?_,(F.o.alloc _).step y.o (λb L bO=>by have:=(Q.o.lt b L).1;omega)⟩,by simp[intOf];omega⟩;have:=H.o;rw[<-nx,aa]at this;exact this
  .obtain rfl:k=l.length:=U;have SW:=ae E;have Q:=ae bP;have F:=ae R;clear E bP R;go_wp2_with fail;go_ret2;have h:=SW.o;rw[iG ag]at h;rw[h];exact⟨_,0,rfl,⟨rfl,Q.o⟩,F.o⟩
end Go.Proofs.YtlcdgbhigfgehabGreatDoor
