import Derived.Test.YtlcdgbhigfgehabGreatDoorQB03
import Derived.Test.YtlcdgbhigfgehabGreatDoorQB05
import Derived.Deep.CutBlock
set_option linter.all false
set_option maxRecDepth 100000
set_option maxHeartbeats 16000000
namespace Go.Proofs.YtlcdgbhigfgehabGreatDoor
open Go.RowKit
inductive cZ where
 |none
 |kind (k:Int)
 |file (name:ByteArray) (k:Int)
def cZ.k:cZ->Int
 |.none=>0
 |.kind k=>k
 |.file _ k=>k
def cZ.name:cZ->dI
 |.file n _=>n
 |_=>ByteArray.empty
def eb(w:ab)(v:ai):cZ->Prop
 |.none=>v=.nilIface
 |.kind k=>v=.iface 30 (.int .i64 k)
 |.file n k=>∃g,v=.iface 84 (.pointer (some ⟨g,0,none⟩))/\Own w g 88 [.string n,.int .i64 k]
def dp.keep{w w':ab}{S:Nat->Prop}(h:dp w)(k:Fr S w w')(a:¬S 0):dp w':=k.cell h a
def Su(w:ab)(t:Addr):Fr aD w (yj w t):=(((Fr.refl _ _).alloc _).alloc _).alloc _
def acV(w:ab)(t:Addr):Fr aD w (E8 w t):=(((Fr.refl _ _).alloc _).alloc _).alloc _
def acW(e:Int)(t:Addr)(w:ab)(a:dp w): Calls aj.prog 33 #[.iface 30 (.int .i64 e),.iface 86 (.pointer (some t))] w λaH w'=>aH=.returned (.bool false)/\Fr aD w w':=(acU e t w a).mono λ_ _ ⟨b,c⟩=>⟨b,c▸Su w t⟩
def acX(e:Int)(t:Addr)(old:ai)(w:ab)(c:dp w)(a:w.cell? t=some old)(b:w.frozen? t=false): Calls aj.prog 33 #[.iface 30 (.int .i64 e),.iface 89 (.pointer (some t))] w λaH w'=>aH=.returned (.bool true)/\Fr (λk=>k=t.block) w w'/\w'.cell? t=some (.int .i64 e):=by
 refine(acP e t old w c a b).mono λaH w' ⟨d,f⟩=> ?_;subst f;have g:=yd w t a;have hF:Fr aD w ((E8 w t).alloc (.cells #[.int .i64 e] 30)):=(acV w t).alloc _;exact⟨d,(hF.mono (λ_ h _=>h.elim)).setCell _ _ (λ_=>rfl),World.cell?_setCell_same _ _ _ (hF.cell a id)⟩
def acY(e:Addr)(t:Addr)(old:ai)(w:ab)(c:dp w)(a:w.cell? t=some old)(b:w.frozen? t=false): Calls aj.prog 33 #[.iface 84 (.pointer (some e)),.iface 86 (.pointer (some t))] w λaH w'=>aH=.returned (.bool true)/\Fr (λk=>k=t.block) w w'/\w'.cell? t=some (.pointer (some e)):=by
 refine(acM e t old w c a b).mono λaH w' ⟨d,f⟩=> ?_;subst f;have g:=yd w t a;have hF:Fr aD w ((yj w t).alloc (.cells #[.pointer (some e)] 84)):=(Su w t).alloc _;exact⟨d,(hF.mono (λ_ h _=>h.elim)).setCell _ _ (λ_=>rfl),World.cell?_setCell_same _ _ _ (hF.cell a id)⟩
def dp.lt{w:ab}(h:dp w):0<w.heap.size:=yd w _ h
def told_none(w:ab): Calls aj.prog 23 #[.nilIface] w λe w'=>e=.returned (.tuple #[.int .i64 0,.string ByteArray.empty])/\Fr aD w w':=by
 go_enter aj.func23,Tryz.ntmps23;go_wp2_with fail;refine(Si _ _).mono ?_;rintro e w'⟨rfl,rfl⟩;go_wp2_with fail;refine(Si _ _).mono ?_;rintro e w'⟨rfl,rfl⟩;go_wp2_with fail;go_ret2;exact⟨rfl,((Fr.refl _ _).alloc _).alloc _⟩
def acZ(k:Int)(w:ab)(f:dp w): Calls aj.prog 23 #[.iface 30 (.int .i64 k)] w λe w'=>e=.returned (.tuple #[.int .i64 k,.string ByteArray.empty])/\Fr aD w w':=by
 go_enter aj.func23,Tryz.ntmps23;go_wp2_with fail;have j:=f.lt;have a:Fr aD w (w.alloc (.cells #[.pointer none] 84)):=(Fr.refl _ _).alloc _;refine(acW k _ _ (f.keep a id)).mono ?_;rintro e w1⟨rfl,d⟩;have b:Fr aD w w1:=a.step d (λ_ h _=>h);clear a d;go_wp2_with fail;have c:Fr aD w (w1.alloc (.cells #[.int .i64 0] 30)):=b.alloc _;have g:=b.size;refine(acX k _ (.int .i64 0) _ (f.keep c id) ag ag).mono ?_;rintro e w2⟨rfl,d,l⟩;go_wp2_with fail;go_ret2;exact⟨rfl,c.step d (λk hk m=>by have i:k=w1.heap.size:=hk;omega)⟩
def ac0(g:Nat)(n:dI)(k:Int)(w:ab)(d:dp w)(ap:Own w g 88 [.string n,.int .i64 k]): Calls aj.prog 23 #[.iface 84 (.pointer (some ⟨g,0,none⟩))] w λe w'=>e=.returned (.tuple #[.int .i64 k,.string n])/\Fr aD w w':=by
 go_enter aj.func23,Tryz.ntmps23;go_wp2_with fail;have j:=d.lt;have h:=ap.lt;have a:Fr aD w (w.alloc (.cells #[.pointer none] 84)):=(Fr.refl _ _).alloc _;refine(acY ⟨g,0,none⟩ _ (.pointer none) _ (d.keep a id) ag ag).mono ?_;rintro e w2⟨rfl,f,l⟩;have b:Fr aD w w2:=a.step f (λk hk h=>by have i:k=w.heap.size:=hk;omega);have c:=ap.keep b id;have m:w2.cell? ⟨g,0,none⟩=some (.string n):=c.cell rfl;have o:w2.cell? ⟨g,1,none⟩=some (.int .i64 k):=c.cell rfl;clear a f;go_wp2_with fail;go_quiet (fail)
 go_wp2_with fail;go_ret2;exact⟨rfl,b.drewN _⟩
def E9(v:ai)(x:cZ)(w:ab)(a:dp w)(h:eb w v x): Calls aj.prog 23 #[v] w λe w'=>e=.returned (.tuple #[.int .i64 x.k,.string x.name])/\Fr aD w w':=by
 cases x with
 |none=>obtain rfl:=h;exact told_none w
 |kind k=>obtain rfl:=h;exact acZ k w a
 |file n k=>obtain⟨g,rfl,ap⟩:=h;exact ac0 g n k w a ap
end Go.Proofs.YtlcdgbhigfgehabGreatDoor
namespace Go.Proofs.YtlcdgbhigfgehabGreatDoor
open Go.Op
def fR:List aI->List df->Option (ar)
 |[],[]=>none
 |f::_,[]=>some f.name
 |[],e::_=>some e.name
 |f::l,e::m=>if bytesLess f.name e.name then some f.name else if bytesLess e.name f.name then some e.name else if f.data.length=e.size/\lZ f.data=e.e9 then fR l m else some f.name
def iK(tree:List aI)(blk:Nat):List h7->List aI->cZ ⊕ List aI
 |[],acc=>.inr acc
 |t::fj,acc=>match mT (h8 tree t.dN.name) blk t.hK with
  |.inl _=>.inl (.file ⟨t.dN.name.toArray⟩ 11)
  |.inr d=>if lZ d=t.dN.e9 then iK tree blk fj (acc++ [⟨t.dN.name,d⟩])else .inl (.file ⟨t.dN.name.toArray⟩ 11)
def m5(l:List h7):Nat:=(l.map (·.dN.size)).sum
def tX(tree:List aI)(room:Int)(x:pJ):cZ ⊕ List aI:=match fR tree x.db with
 |some n=>.inl (.file ⟨n.toArray⟩ 9)
 |none=>if room<m5 x.targs then .inl (.kind 10)else iK tree x.block x.targs []
def fc(tree:List aI)(room:Int)(b:ar):cZ ⊕ List aI:=match fz b with
 |none=>.inl (.kind 5)
 |some x=>tX tree room x
def ac1(l:List aI):fR l (l.map kn)=none:=by
 induction l with
 |nil=>rfl
 |cons f l a=>
  simp only[mW,fR,kn,Ef];simpa[kn]using a
def ac2(ref:List aI)(c:dc ref)(blk:Nat)(d:1<=blk)(n:blk<=64):∀(l a:List aI),(∀f∈l,f.data.length<=300)->iK ref blk (l.map (tE ref blk)) a=.inr (a++l):=by
 intro l;induction l with
 |nil=>intro a _;simp[iK]
 |cons f l e=>
  intro a h;have i:=h f ag;have o:=Jd ref (λg b=>(c.ok g b).2) f.name;have j:sized blk (h8 ref f.name).length=0:=(by unfold sized;rw[aC U,aC U]);have k:=(Eu (h8 ref f.name) f.data blk d i).1;have m:mT (h8 ref f.name) blk (tD ref blk f)=.inr f.data:=by
   unfold mT tD;rw[aV j,pP];exact k
  simp only[mW,iK,tE,kn];rw[m];simp only[dd];have:=e (a++ [f]) (λg b=>h g (by simp[b]));rw[show(⟨f.name,f.data⟩:aI)=f from rfl];rw[gY]at this;exact this
def tY(l:List aI):Nat:=(l.map (·.data.length)).sum
def ac3(ref:List aI)(blk:Nat)(l:List aI):m5 (l.map (tE ref blk))=tY l:=by
 unfold m5 tY;rw[List.map_map];rfl
section
variable{src ref:List aI}{blk:Nat}
def ac4(b:dc src)(c:dc ref)(d:1<=blk)(e:blk<=64)(a:List aI)(room:Int):fc a room (iH src ref blk)=match fR a (ref.map kn)with
 |some n=>.inl (.file ⟨n.toArray⟩ 9)
 |none=>if room<tY src then .inl (.kind 10)else iK a blk (src.map (tE ref blk)) []:=by
 unfold fc;rw[Rq src ref blk b c d e];simp only[tX,ac3]
def ac5(a:dc src)(b:dc ref)(c:1<=blk)(d:blk<=64){room:Int}(h:(tY src:Int)<=room):fc ref room (iH src ref blk)=.inr src:=by
 rw[ac4 a b c d,ac1];simp only;rw[aC U,ac2 ref b blk c d _ _ (λf e=>(a.ok f e).2),mV]
end
def ac6{l:List aI}(h:dc l):tY l<=2400:=by
 have a:∀l:List aI,(∀f∈l,f.data.length<=300)->tY l<=300*l.length:=by
  intro l;induction l with
  |nil=>intro _;simp[tY]
  |cons f l b=>
   intro h;have i:=h f ag;have c:=b (λg d=>h g (by simp[d]));unfold tY at c⊢;simp only[mW,List.sum_cons,hJ];omega
 have:=a l (λf e=>(h.ok f e).2);have:=h.len;omega
structure Sv(x:pJ):Prop where
 blk:1<=x.block/\x.block<=64
 jK:x.db.length<=8
 Sw:x.targs.length<=8
 bx:∀e∈x.db,isName e.name=true/\e.size<=300
 fj:∀t∈x.targs,isName t.dN.name=true/\t.dN.size<=300/\∀k∈t.hK,k.d.length<=1000
 up:(x.targs.map (·.dN)).Pairwise λa b=>bytesLess a.name b.name=true
def Sx{a:ar}{first:Bool}{r r':ar}{e:df}(h:eN a first r=some (e,r')):isName e.name=true/\e.size<=300/\(first=true\/bytesLess a e.name=true):=by
 unfold eN at h;split at h
 .cases h
 .split at h
  .cases h
  .split at h
   .cases h
   .rename_i b;split at h
    .cases h
    .split at h
     .cases h
     .split at h
      .cases h
      .cases h;simp only[Bool.not_eq_false,cu,oX]at b;rw[Eh]at b;refine⟨b.1,?_,b.2⟩;dsimp only;omega
def ac7:∀(n:Nat)(a:List df)(r r':ar)(x:List df),jM n a r=some (x,r')->(∀e∈a,isName e.name=true/\e.size<=300)->x.length=a.length+n/\∀e∈x,isName e.name=true/\e.size<=300:=by
 intro n;induction n with
 |zero=>intro a r r' x h c;cases h;exact⟨rfl,c⟩
 |succ n f=>
  intro a r r' x h c;unfold jM at h;split at h
  .cases h
  .rename_i e j g;have d:=Sx g;have:=f _ _ _ _ h (λi b=>by
    rcases fB.1 b with b|b
    .exact c i b
    .obtain rfl:=bK.1 b;exact⟨d.1,d.2.1⟩)
   exact⟨by rw[this.1,cr];simp;omega,this.2⟩
def ac8{n v:Nat}{r r':ar}(h:eE n r=some (v,r')):v<256 ^ n:=by
 unfold eE at h;split at h
 .cases h
 .rename_i a;cases h;have:=At (r.take n);rwa[List.length_take,Nat.min_eq_left U]at this
def ac9{blk a:Nat}{r r':ar}{x:Tok×Nat}(h:gG blk a r=some (x,r')):x.1.d.length<=1000:=by
 unfold gG at h;split at h
 .cases h
 .split at h
  .split at h
   .cases h
   .rename_i k c hk;have b:=ac8 hk;split at h
    .cases h
    .split at h
     .cases h
     .rename_i d e hd;cases h;unfold takeN at hd;split at hd
      .cases hd
      .cases hd;simp;omega
  .split at h
   .split at h
    .cases h
    .split at h
     .cases h
     .split at h
      .cases h;simp
      .cases h
   .cases h
def ada{blk b:Nat}:∀(n:Nat)(a:List Tok)(s:Nat)(r r':ar)(x:List Tok×Nat),od blk b n a s r=some (x,r')->(∀t∈a,t.d.length<=1000)->∀t∈x.1,t.d.length<=1000:=by
 intro n;induction n with
 |zero=>intro a s r r' x h f;cases h;exact f
 |succ n g=>
  intro a s r r' x h f;unfold od at h;split at h
  .cases h
  .rename_i t k j i;refine g _ _ _ _ _ h (λe c=> ?_);rcases fB.1 c with c|c
   .exact f e c
   .obtain rfl:=bK.1 c;exact ac9 i
def adb{blk a b:Nat}{r r':ar}{x:List Tok}(h:nv blk a b r=some (x,r')):∀t∈x,t.d.length<=1000:=by
 unfold nv at h;split at h
 .cases h
 .split at h
  .cases h
  .rename_i l s e c;split at h
   .cases h;exact ada _ _ _ _ _ _ c (λ_ h=>by simp at h)
   .cases h
def Sy(l:List h7):Prop:=(∀t∈l,isName t.dN.name=true/\t.dN.size<=300/\∀k∈t.hK,k.d.length<=1000)/\(l.map (·.dN)).Pairwise λa b=>bytesLess a.name b.name=true
def ade:∀(l:List df),l≠[]->∃e∈l,lW l=e.name/\∀a∈l,a=e\/(l.Pairwise (λa b=>bytesLess a.name b.name=true)->bytesLess a.name e.name=true):=by
 intro l;induction l with
 |nil=>intro h;exact absurd rfl h
 |cons a l i=>
  intro _;cases l with
  |nil=>exact⟨a,ag,rfl,λb j=>.inl (by simpa using j)⟩
  |cons b l=>
   have⟨e,g,k,m⟩:=i ag;refine⟨e,Fa _ g,k,λc d=> ?_⟩;rcases dY.1 d with rfl|d
   .exact .inr λf=>(vw.1 f).1 e g
   .rcases m c d with h|h
    .exact .inl h
    .exact .inr λf=>h (vw.1 f).2
def adf{blk:Nat}{g:List df}:∀(n:Nat)(d:List h7)(r r':ar)(x:List h7),lX blk g n d r=some (x,r')->Sy d->x.length=d.length+n/\Sy x:=by
 intro n;induction n with
 |zero=>intro d r r' x h j;cases h;exact⟨rfl,j⟩
 |succ n q=>
  intro d r r' x h j;unfold lX at h;split at h
  .cases h
  .rename_i e B s;have m:=Sx s;split at h
   .cases h
   .rename_i l C u;have v:=adb u;have:=q _ _ _ _ h ⟨λt k=>by
     rcases fB.1 k with k|k
     .exact j.1 t k
     .obtain rfl:=bK.1 k;exact⟨m.1,m.2.1,v⟩,by
     rw[pS,mW,tz,rZ];refine⟨j.2,tJ _ _,λa p b w=> ?_⟩;have o:b=e:=bK.1 w;subst o;cases d with
     |nil=>simp at p
     |cons c d=>
      have i:bytesLess (lW ((c::d).map (·.dN))) b.name=true:=by
       rcases m.2.2 with h|h
       .simp at h
       .exact h
      have⟨f,D,y,z⟩:=ade ((c::d).map (·.dN)) ag;rw[y]at i;rcases z a p with rfl|A
      .exact i
      .exact IX _ _ _ (A j.2) i⟩
    exact⟨by rw[this.1,cr];simp;omega,this.2⟩
def adg{s r:ar}{x:pJ}(h:fa s=some (x,r)):Sv x:=by
 unfold fa at h;split at h
 .cases h
 .split at h
  .cases h
  .split at h
   .cases h
   .split at h
    .cases h
    .split at h
     .cases h
     .split at h
      .cases h
      .split at h
       .cases h
       .rename_i e _ _ _ c;split at h
        .cases h
        .split at h
         .cases h
         .split at h
          .cases h
          .rename_i d;cases h;have b:=ac7 _ _ _ _ _ c (λ_ h=>by simp at h);have a:=adf _ _ _ _ _ d ⟨λ_ h=>by simp at h,List.Pairwise.nil⟩;exact⟨(by dsimp only;omega),by have:=b.1;simp only[oW]at this;dsimp only;omega,by have:=a.1;simp only[oW]at this;dsimp only;omega,b.2,a.2.1,a.2.2⟩
def Sz{s:ar}{x:pJ}(h:fz s=some x):Sv x:=by
 obtain⟨r,a,-⟩:=ack h;exact adg a
end Go.Proofs.YtlcdgbhigfgehabGreatDoor
namespace Go.Proofs.YtlcdgbhigfgehabGreatDoor
open Go.RowKit

def nameAt(l:List aI)(k:Nat):ar:=if k=0 then[]else(l[k - 1]?.map (·.name)).getD []
def SF(l:List aI)(k:Nat)(h:k<l.length):nameAt l (k+1)=l[k].name:=by
 unfold nameAt;rw[aC U,As,fb h];rfl
def adC(l:List aI)(k:Nat)(h:k<l.length):rR k (nameAt l k) (l.drop k)=if hp k (nameAt l k) l[k]then some l[k].name else rR (k+1) (nameAt l (k+1)) (l.drop (k+1)):=by rw[qW h,SF l k h];rfl
def Fe(o:Option (ar)):cZ:=match o with|none=>.none|some n=>.file ⟨n.toArray⟩ 4
def adD(a b:ar):(Op.bytesLess a b||a==b)= !(behind a b):=by unfold behind;simp
def Bp(v:ai)(l:List (aI×ai))(B:Nat)(w:ab)(h:ez w B v l)(cJ:∀p∈l,p.1.name.length<=1000000)(hd:∀p∈l,p.1.data.length<=1000000): Calls aj.prog 43 #[v] w λe w'=>∃x,e=.returned x/\eb w' x (Fe (ki (l.map (·.1))))/\Fr aD w w':=by
 have hs:=h.vec.len;unfold maxLen at hs;have H:=ae h;have vZ:=ae cJ;have m6:=ae hd;obtain⟨nS,si,Y,-⟩:=h.vec.shape;subst Y;clear h cJ hd;go_enter aj.func43,Tryz.ntmps43;go_wp2_with fail;go_loopw [7] (λcv wr=>∃k:Nat,k<=l.length/\cv=.int .i64 k/\Fr aD w wr/\ki (l.map (·.1))=rR k (nameAt (l.map (·.1)) k) ((l.map (·.1)).drop k)) (λcv _=>l.length - (intOf cv).toNat)
 case atStart=>exact⟨0,dl _,rfl,Fr.refl _ _,rfl⟩
 case round=>
  obtain⟨k,hk,rfl,t,N⟩:=hrel;have O:=ae t;have F:=ae N;clear N;by_cases P:k<l.length
  .have u:=H.o.br t;have⟨g,cap,Y,eP,ay,m3⟩:=u.get k P;simp only[eG,fF]at Y;obtain⟨rfl,rfl⟩:=Y;have G:=adC (l.map (·.1)) k (by simpa using P);rw[v7]at G;have Q:=vZ.o l[k] (dy _);have kq:=m6.o l[k] (dy _);obtain⟨Z,ek,R,-⟩:=(u.data l[k] (dy _)).shape;rw[R]at ay;have S:0<k->∃T:dI,nameAt (l.map (·.1)) k=T.data.toList/\wr.cell? ⟨g,(k - 1)*2,none⟩=some (.string T):=λcz=>by
    obtain⟨g',auz,az,Ff,-⟩:=u.get (k - 1) U;simp only[eG,fF,fK,qZ,kl]at az;obtain⟨rfl,-⟩:=az;refine⟨_,?_,Ff⟩;obtain⟨j,rfl⟩:∃j,k=j+1:=⟨k - 1,U⟩;rw[SF _ j a5];simp
   have kr:=ae S;have aa:=ae G;obtain⟨c,J⟩:∃c:dI,c=⟨l[k].1.name.toArray⟩:=⟨_,rfl⟩;have K:l[k].1.name=c.data.toList:=(by rw[J]);rw[<-J]at eP;have d:=ae K;rw[K]at aa Q;clear u S G R J K t;generalize V:nameAt (l.map (·.1)) k=y at *;obtain⟨f,i⟩:∃f,l[k].1.data=f:=⟨_,rfl⟩;have m:=ae i;have q2:=ae V;rw[i]at kq ay;have C:c.data.toList.length=c.size:=ag;rw[C]at Q;clear i V C;have D:hp k y l[k].1=true->∀nq,∃x,Ending.returned (Value.iface 84 (.pointer (some ⟨wr.heap.size+1,0,none⟩)))=Ending.returned x/\eb (((wr.alloc (.cells #[.string c,.slice Z f.length ek] 37)).drewN nq).alloc (.cells #[.string c,.int .i64 4] 88)) x (Fe (ki (l.map (·.1))))/\Fr aD w (((wr.alloc (.cells #[.string c,.slice Z f.length ek] 37)).drewN nq).alloc (.cells #[.string c,.int .i64 4] 88)):=λhb nq=>by
    refine⟨_,rfl,?_,((O.o.alloc _).drewN _).alloc _⟩;rw[F.o,aa.o,aV hb];refine⟨wr.heap.size+1,rfl,?_⟩;rw[tw];have:=Own.alloc ((wr.alloc (.cells #[.string c,.slice Z f.length ek] 37)).drewN nq) #[.string c,.int .i64 4] 88;simpa using this
   have n:hp k y l[k].1=false->∀nq,(∃k',k'<=l.length/\Value.int .i64 ((k:Int)+1)=.int .i64 k'/\Fr aD w ((wr.alloc (.cells #[.string c,.slice Z f.length ek] 37)).drewN nq)/\ki (l.map (·.1))=rR k' (nameAt (l.map (·.1)) k') ((l.map (·.1)).drop k'))/\l.length - (intOf (Value.int .i64 ((k:Int)+1))).toNat<l.length - (intOf (Value.int .i64 (k:Int))).toNat:=λhb nq=>by
    refine⟨⟨k+1,U,by go_num,(O.o.alloc _).drewN _,?_⟩,by simp[intOf];omega⟩;rw[F.o,aa.o,aC (by rw[hb];decide)]
   have a:=ae D;have o:=ae n;clear D n;cases SG:isName c.data.toList with
   |false=>
    have b:=ae SG;have z:=ae (show hp k y l[k].1=true by unfold hp;rw[d.o,b.o];rfl);go_wp2_with fail;go_quiet ((go_at_call 74;exact Calls.quiet_of_same ((tG _ _ U).mono (λ_ _ h=>⟨h.1,h.2.symm⟩))))
    go_wp2_with fail;go_ret;exact a.o z.o _
   |true=>
    have b:=ae SG;by_cases vH:0<k
    .obtain⟨j,rfl⟩:∃j,k=j+1:=⟨k - 1,U⟩;have⟨T,W,mm⟩:=kr.o U;rw[As]at mm;have A:=ae W;clear W;have X:decide ((0:Int)< ((j+1:Nat):Int))=true:=ag;have L:=adD c.data.toList T.data.toList;rw[<-ra,<-ra]at L;cases yn:behind c.data.toList T.data.toList with
     |false=>
      rw[ra,ra,yn,<-ra,<-ra]at L;have q:=ae yn;clear yn;have z:=ae (show hp (j+1) y l[j+1].1=true by unfold hp;rw[d.o,b.o,A.o,q.o];simp);go_wp2_with fail;go_quiet ((go_at_call 74;exact Calls.quiet_of_same ((tG _ _ U).mono (λ_ _ h=>⟨h.1,h.2.symm⟩))))
      go_wp2_with fail;go_ret;exact a.o z.o _
     |true=>
      rw[ra,ra,yn,<-ra,<-ra]at L;have q:=ae yn;clear yn;by_cases M:300<f.length
      .have r:decide ((300:Int)< (f.length:Int))=true:=a5;have z:=ae (show hp (j+1) y l[j+1].1=true by unfold hp;rw[d.o,b.o,m.o,A.o,q.o];simp[M]);go_wp2_with fail;go_quiet ((go_at_call 74;exact Calls.quiet_of_same ((tG _ _ U).mono (λ_ _ h=>⟨h.1,h.2.symm⟩))))
       go_wp2_with fail;go_ret;exact a.o z.o _
      .have r:decide ((300:Int)< (f.length:Int))=false:=a5;by_cases RZ:8<=j+1
       .have E:decide ((8:Int)<=((j+1:Nat):Int))=true:=a5;have z:=ae (show hp (j+1) y l[j+1].1=true by unfold hp;rw[d.o,b.o,m.o,A.o,q.o];simp[RZ]);go_wp2_with fail;go_quiet ((go_at_call 74;exact Calls.quiet_of_same ((tG _ _ U).mono (λ_ _ h=>⟨h.1,h.2.symm⟩))))
        go_wp2_with fail;go_ret;exact a.o z.o _
       .have E:decide ((8:Int)<=((j+1:Nat):Int))=false:=a5;have dV:=ae (show hp (j+1) y l[j+1].1=false by unfold hp;rw[d.o,b.o,m.o,A.o,q.o];simp;omega);go_wp2_with fail;go_quiet ((go_at_call 74;exact Calls.quiet_of_same ((tG _ _ U).mono (λ_ _ h=>⟨h.1,h.2.symm⟩))))
        go_wp2_with fail;exact o.o dV.o _
    .have X:decide ((0:Int)< (k:Int))=false:=a5;have E:decide ((8:Int)<=(k:Int))=false:=a5;by_cases M:300<f.length
     .have r:decide ((300:Int)< (f.length:Int))=true:=a5;have z:=ae (show hp k y l[k].1=true by unfold hp;rw[d.o,b.o,m.o];simp[M]);go_wp2_with fail;go_quiet ((go_at_call 74;exact Calls.quiet_of_same ((tG _ _ U).mono (λ_ _ h=>⟨h.1,h.2.symm⟩))))
      go_wp2_with fail;go_ret;exact a.o z.o _
     .have r:decide ((300:Int)< (f.length:Int))=false:=a5;have dV:=ae (show hp k y l[k].1=false by unfold hp;rw[d.o,b.o,m.o];simp;omega);go_wp2_with fail;go_quiet ((go_at_call 74;exact Calls.quiet_of_same ((tG _ _ U).mono (λ_ _ h=>⟨h.1,h.2.symm⟩))))
      go_wp2_with fail;exact o.o dV.o _
  .obtain rfl:k=l.length:=U;have s:ki (l.map (·.1))=none:=(by rw[F.o,List.drop_of_length_le ag];rfl);have adE:=ae s;clear s;go_wp2_with fail;go_ret;exact⟨_,rfl,by rw[adE.o];rfl,t⟩
end Go.Proofs.YtlcdgbhigfgehabGreatDoor
namespace Go.Proofs.YtlcdgbhigfgehabGreatDoor
open Go.RowKit

def adF(l n d:ar):l++ [UInt8.ofNat n.length]++n++fo 2 d.length++fo 8 (lZ d)=l++km ⟨n,d⟩:=by simp[km]
def yo(n:Nat)(h:n<256):bT [UInt8.ofNat n]=[.int .u8 (n:Int)]:=by
 have:(UInt8.ofNat n).toNat=n:=a5;unfold bT;rw[mW,tz,this]
def eO.own{w w1:ab}{v v1:ai}{g T:Nat}{xs:bJ}(h:eO w v v1 w1)(ap:Own w g T xs)(a:v.ownBlock≠some g):Own w1 g T xs:=ap.keep h.bo a
def SH(bv ot:ai)(l d:ar)(ec:dI)(B:Nat)(w:ab)(bP:Vec w B 5 1 bv l.length (bT l))(bO:l.length<=900000)(cJ:ec.size<=255)(hd:bH w ot d)(rb:d.length<=300)(c8:B<=w.heap.size)(uu:∀b,ot.ownBlock=some b->bv.ownBlock≠some b): Calls aj.prog 76 #[bv,.agg #[.string ec,ot]] w λe w'=>∃v',e=.returned v'/\Vec w' B 5 1 v' (l++km ⟨ec.data.toList,d⟩).length (bT (l++km ⟨ec.data.toList,d⟩))/\eO w bv v' w':=by
 have l5:=ae bP;have m6:=ae hd;obtain⟨ib,g5,rfl,-⟩:=bP.shape;obtain⟨fr,ek,rfl,-⟩:=hd.shape;have R4:ec.data.toList.length=ec.size:=ag;have HSL:=ae R4;have adG:=ae uu;have auA:IntKind.u8.wrap (ec.size:Int)=(ec.size:Int):=v0 _ U;clear bP hd R4 uu;have TW:=yo ec.size U;have gJ:=λb=>l5.o.lt b;have adH:=ae gJ;have cc:Fr aD w (w.alloc (.cells #[.string ec,.slice fr d.length ek] 37)):=(Fr.refl _ _).alloc _;have nB:=ae cc;have HV1:=ae (l5.o.keep cc (λ_ _ h=>h));have X8:=ae (Own.alloc w #[.string ec,.slice fr d.length ek] 37);have HD1:=ae (m6.o.br cc);have v9:=cc.size;have FT:=ae (show(Value.slice ib l.length g5).ownBlock≠some w.heap.size from λhb=>by have:=(adH.o _ hb).2;omega);clear cc gJ;obtain⟨w1,vG⟩:∃W,w.alloc (.cells #[.string ec,.slice fr d.length ek] 37)=W:=⟨_,rfl⟩;obtain⟨J5,hxb⟩:∃J5,w.heap.size=J5:=⟨_,rfl⟩;have hxz:w1.heap.size=J5+1:=(by rw[<-vG,<-hxb];simp);have auB:=ae hxz;rw[vG]at HV1 X8 nB HD1 v9;rw[hxb]at X8 FT;have x0:=X8.o.cell (i:=0) rfl;have x1:=X8.o.cell (i:=1) rfl;have wb:=ae TW;clear TW hxz;go_enter aj.func76,Tryz.ntmps76;go_upto_region 2 with(at_builtin;refine fP rfl _ _ _ rfl B 5 1 1 kj (HV1.o.keep ((Fr.refl aD _).alloc _) (λ_ _ h=>h)) rfl (m:=1) (Reads.new _ _ _ _ (by first|omega|simp) _ _) rfl rfl (by intro u hu;simp at hu;subst hu;rfl) eH U a5 ?_;intro v2 w2 ahd tI JY adI;obtain⟨g3,c2,p7,-⟩:=ahd.shape;subst p7;have aba:=ae (eO.alloc _ ⟨tI,JY⟩);have HV2:=ae ahd;have xZ:=ae (aba.o.own X8.o FT.o);have ht:=xZ.o.cell (i:=0) rfl;clear ahd tI JY adI)
 have ahd:Vec w2 B 5 1 (.slice g3 (l.length+1) c2) (l++ [UInt8.ofNat ec.data.toList.length]).length (bT (l++ [UInt8.ofNat ec.data.toList.length])):=(by rw[nx,HSL.o,wb.o,cr];exact HV2.o);have q9:=aba.o.bo.size;have HV2':=ae ahd;clear x0 x1 ahd HV2;go_upto_region 3 with(at_builtin;refine aaN rfl _ _ _ _ rfl B 5 kj aj.underlying9 (v:=.slice g3 (l.length+1) c2) HV2'.o rfl (tx:=ec) rfl (by rw[cr];unfold maxLen;simp;omega) (by rw[cr];simp;omega) U ?_;intro bA w3 yz hg3;obtain⟨nO,c3,yp,-⟩:=yz.shape;subst yp;have Ky:=ae (aba.o.step hg3);have TR:=ae yz;have vI:=ae (Ky.o.own X8.o FT.o);have l6:=vI.o.cell (i:=1) rfl;clear yz hg3)
 have yz:Vec w3 B 5 1 (.slice nO (l.length+1+ec.size) c3) (l++ [UInt8.ofNat ec.data.toList.length]++ec.data.toList).length (bT (l++ [UInt8.ofNat ec.data.toList.length]++ec.data.toList)):=by
  have ie:(l++ [UInt8.ofNat ec.data.toList.length]++ec.data.toList).length=l.length+1+ec.size:=(by rw[cr,cr,J6,HSL.o]);have:=TR.o;rw[cr,J6]at this;rw[ie,nx (l++ [UInt8.ofNat ec.data.toList.length])];exact this
 have vQ:=Ky.o.bo.size;have SI:(l++ [UInt8.ofNat ec.data.toList.length]++ec.data.toList).length<=950000:=a5;have TS:=ae yz;have hg3':=Ky.o;rw[cr,J6]at hg3';have HG3':=ae hg3';clear yz TR ht hg3';go_wp2_with fail;refine(AE _ (l++ [UInt8.ofNat ec.data.toList.length]++ec.data.toList) d.length 2 B 2 _ w3 TS.o U U rfl eI U U).mono ?_;rintro e w4⟨v4,rfl,hv4,hg4⟩;obtain⟨L4,hL4⟩:∃L4,l++ [UInt8.ofNat ec.data.toList.length]++ec.data.toList++fo 2 d.length=L4:=⟨_,rfl⟩;rw[hL4]at hv4;obtain⟨l7,c4,Bq,-⟩:=hv4.shape;subst Bq;have J7:=ae hv4;have aeE:=ae (HG3'.o.step hg4);have auC:=aeE.o.bo.size;have AW:=ae (aeE.o.own X8.o FT.o);have x1:=AW.o.cell (i:=1) rfl;have Jt:=ae (HD1.o.keep aeE.o.bo (λb hb=>adG.o b hb));have auD:L4.length<=960000:=(by rw[<-hL4,cr,nA];omega);have adJ:=ae hL4;clear hv4 hg4 l6 hL4;go_wp2_with fail;refine(tC _ d _ Jt.o).mono ?_;rintro e w'⟨rfl,rfl⟩;have kq:=Ew d;go_wp2_with fail;refine(AE _ L4 (lZ d) 8 B 8 _ w4 J7.o U U rfl (pR _).symm kq U).mono ?_;rintro e cU⟨aX,rfl,hv5,BQ⟩;have Br:=ae hv5;have tZ:=ae (aeE.o.step BQ);clear hv5 BQ;go_wp2_with fail;go_ret;have T9:=tZ.o;rw[<-vG]at T9;exact⟨_,rfl,by rw[<-adF,adJ.o];exact Br.o,T9.alloc⟩
end Go.Proofs.YtlcdgbhigfgehabGreatDoor
namespace Go.Proofs.YtlcdgbhigfgehabGreatDoor
open Go.RowKit

def ad9(bE v1:ai)(base:ar)(l:List (Tok×ai))(block:Int)(B:Nat)(w:ab)(c:bH w bE base)(f:oq w B v1 l)(hd:∀p∈l,p.1.d.length<=1000): Calls aj.prog 68 #[bE,v1,.int .i64 block] w (Kb w (mT base block (l.map (·.1)))):=by
 by_cases b:sized block base.length=0
 .have e:1<=block:=by
   unfold sized at b;split at b<;>omega
  obtain⟨blk,rfl⟩:=pO (a:=block) U;have:mT base blk (l.map (·.1))=dj base blk (l.map (·.1)) []:=(by unfold mT;rw[aV b,pP]);rw[this];exact ad5 bE v1 base l blk B w c f b hd
 .exact ad4 bE v1 base _ block w c b
end Go.Proofs.YtlcdgbhigfgehabGreatDoor
