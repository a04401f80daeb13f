import Derived.Test.YtlcdgbhigfgehabGreatDoorQ00
import Derived.Below
import Derived.IntWalk
import Derived.Laws.Bits64
import Derived.Laws.BitsLemmas
import Derived.RowKit
set_option linter.all false
set_option maxRecDepth 100000
set_option maxHeartbeats 16000000
namespace Go.Proofs.YtlcdgbhigfgehabGreatDoor
open Go.RowKit in
def ZU(a:UInt8):wrap64 (a.toNat:Int)=a.toNat:=IntWalk.wrap64_in _ (by have:=a.toNat_lt;omega)
open Go.RowKit in
open Go.RowKit in
open Go.RowKit in
open Go.RowKit in
structure Tok where
 b:Int
 c:Int
 d:ar
def b6(n blk:Nat):Nat:=(n+blk - 1) / blk
def dX(jK:Nat)(t:Tok):Bool:=decide (0<=t.c) && decide (0<=t.b) && (decide (t.c=0) && decide (t.b=0)||decide (0<t.c) && t.d.isEmpty && decide (t.b+t.c<=jK))
def gw(base:ar)(blk:Nat)(t:Tok):ar:=if t.c=0 then t.d else(base.drop (t.b.toNat*blk)).take (t.c.toNat*blk)
def dj(base:ar)(blk:Nat):List Tok->ar->Int ⊕ ar
 |[],out=>.inr out
 |t::fj,out=>if dX (b6 base.length blk) t then(if 300< (out++gw base blk t).length then .inl 2 else dj base blk fj (out++gw base blk t))else .inl 3
def sized(block:Int)(n:Nat):Int:=if block<1\/64<block then 1 else if 300<n then 2 else 0
def mT(base:ar)(block:Int)(fj:List Tok):Int ⊕ ar:=if sized block base.length=0 then dj base block.toNat fj []else .inl (sized block base.length)
def tt(base:ar)(blk:Nat)(xs b:List Tok):∀a,dj base blk (xs++b) a=match dj base blk xs a with| .inl e=>.inl e| .inr o=>dj base blk b o:=by
 induction xs with
 |nil=>intro a;rfl
 |cons t d c=>
  intro a;simp only[oa,dj];split
  .split
   .rfl
   .exact c _
  .rfl
def ZV{α:Type}(l:List α)(k:Nat)(h:k<l.length):l.take (k+1)=l.take k++ [l[k]]:=lV h
def ZW(base:ar)(blk:Nat)(b:List Tok)(k:Nat)(h:k<b.length)(a:ar)(c:dj base blk (b.take k) []=.inr a): dj base blk (b.take (k+1)) []=(if dX (b6 base.length blk) b[k]then(if 300< (a++gw base blk b[k]).length then .inl 2 else .inr (a++gw base blk b[k]))else .inl 3):=by
 rw[ZV _ _ h,tt,c];simp[dj]
def QV(base:ar)(blk:Nat)(a:List Tok)(k:Nat)(e:Int)(b:dj base blk (a.take k) []=.inl e):dj base blk a []=.inl e:=by
 have:=tt base blk (a.take k) (a.drop k) [];rw[IR,b]at this;exact this
def ZX(base:ar)(blk:Nat):∀(b:List Tok)(a:ar)(e:Int),dj base blk b a=.inl e->e=2\/e=3:=by
 intro b;induction b with
 |nil=>intro a e h;simp[dj]at h
 |cons t b c=>
  intro a e h;simp only[dj]at h;split at h
  .split at h
   .left;cases h;rfl
   .exact c _ _ h
  .right;cases h;rfl
def QW(base:ar)(blk:Nat):∀(c:List Tok)(a r:ar),a.length<=300->dj base blk c a=.inr r->r.length<=300:=by
 intro c;induction c with
 |nil=>intro a r h b;simp[dj]at b;subst b;exact h
 |cons t c d=>
  intro a r h b;simp only[dj]at b;split at b
  .split at b
   .cases b
   .exact d _ _ U b
  .cases b
def tu(n blk:Nat)(a:0<blk):n<=b6 n blk*blk/\(0<n->(b6 n blk - 1)*blk<n)/\b6 n blk<=n:=by
 unfold b6;have b:=Nat.div_add_mod (n+blk - 1) blk;have d:=Nat.mod_lt (n+blk - 1) a;rw[xN]at b;refine⟨U,λc=> ?_,?_⟩
 .rw[Nat.sub_mul];omega
 .rcases jL n with rfl|c
  .rw[Nat.div_eq_of_lt U];omega
  .rw[Nat.div_le_iff_le_mul a];have:n<=n*blk:=Nat.le_mul_of_pos_right _ a;omega
def rP(n blk i:Nat)(c:0<blk):i<b6 n blk↔i*blk<n:=by
 have h:=tu n blk c;constructor
 .intro af;have a:0<n:=by
   rcases jL n with rfl|a
   .simp[b6,Nat.div_eq_of_lt (show blk - 1<blk by omega)]at af
   .exact a
  have:i*blk<=(b6 n blk - 1)*blk:=vt _ U;have:=h.2.1 a;omega
 .intro af;rcases dH i (b6 n blk)with b|b
  .exact b
  .have:b6 n blk*blk<=i*blk:=vt _ b;omega
def ZY(base:ar)(blk b j:Nat):(base.drop (b*blk)).take (j*blk)++ (base.drop ((b+j)*blk)).take blk=(base.drop (b*blk)).take ((j+1)*blk):=by rw[fJ j 1 blk,ob,List.take_add,xO,fJ b j blk]
def QX(base:ar)(blk:Nat)(t:Tok)(d:0<t.c): gw base blk t=(base.drop (t.b.toNat*blk)).take (min ((t.b.toNat+t.c.toNat)*blk) base.length - t.b.toNat*blk):=by
 unfold gw;rw[aC U];apply xP;intro i;simp only[List.getElem?_take,IS];have h:(t.b.toNat+t.c.toNat)*blk=t.b.toNat*blk+t.c.toNat*blk:=fJ _ _ _;by_cases e:t.b.toNat*blk+i<base.length
 .by_cases a:i<t.c.toNat*blk
  .rw[aV a,aV U]
  .rw[aC a,aC U]
 .rw[vu U];simp
end Go.Proofs.YtlcdgbhigfgehabGreatDoor
namespace Go.Proofs.YtlcdgbhigfgehabGreatDoor
open Go.RowKit
def xQ(p:Nat×Nat)(c:UInt8):Nat×Nat:=((p.1+c.toNat) % 65536,(p.2+ (p.1+c.toNat) % 65536) % 65536)
def hI(l:ar):Nat×Nat:=l.foldl xQ (0,0)
def cS(l:ar):Nat:=(hI l).2*65536+ (hI l).1
def nt:ar->Nat
 |[]=>0
 |c::l=>c.toNat+nt l
def oc(n:Nat):ar->Nat
 |[]=>0
 |c::l=>n*c.toNat+oc (n - 1) l
def pI(wk n o i:Int):Int:=((wk / 65536 - n*o+ (wk - o+i) % 65536) % 65536)*65536+ (wk - o+i) % 65536
def IT:Int:=14695981039346656037
def Ap(v:Int)(c:UInt8):Int:=IntKind.u64.wrap (bits .xor .u64 v (IntKind.u64.wrap (c.toNat:Int))*1099511628211)
def QY(v:Int)(l:ar):Int:=l.foldl Ap v
def cB(l:ar):Int:=QY IT l
def Eb(l:ar)(c:UInt8):hI (l++ [c])=xQ (hI l) c:=by simp[hI]
def IU(l:ar)(c:UInt8):cB (l++ [c])=Ap (cB l) c:=by simp[cB,QY]
def ZZ:cB []=IT:=rfl
def Ec(l:ar):(hI l).1<65536/\(hI l).2<65536:=by
 rcases xR l with rfl|⟨a,c,rfl⟩
 .simp[hI]
 .rw[Aq,Eb];simp only[xQ];omega
def Ar(l:ar):cS l<4294967296:=by have:=Ec l;unfold cS;omega
def Ed(l:ar)(k:Nat)(h:k<l.length):l.take (k+1)=l.take k++ [l[k]]:=by rw[lV h]
def QZ(l m:ar):nt (l++m)=nt l+nt m:=by
 induction l with
 |nil=>simp[nt]
 |cons c l a=>simp[nt,a];omega
def Q0(n:Nat)(l:ar)(c:UInt8):oc n (l++ [c])=oc n l+ (n - l.length)*c.toNat:=by
 induction l generalizing n with
 |nil=>simp[oc]
 |cons d l a=>simp[oc,a];rw[show n - 1 - l.length=n - (l.length+1)from by omega];omega
def Q1(n:Nat)(l:ar)(h:l.length<=n):oc (n+1) l=oc n l+nt l:=by
 induction l generalizing n with
 |nil=>simp[oc,nt]
 |cons c l a=>
  simp only[hJ]at h;obtain⟨m,rfl⟩:∃m,n=m+1:=⟨n - 1,U⟩;have:=a m U;simp only[oc,nt,As];rw[this,fJ (m+1) 1 c.toNat];omega
def Q2(l:ar):(hI l).1=nt l % 65536/\(hI l).2=oc l.length l % 65536:=by
 have b:∀(k:Nat)(l:ar),l.length=k->(hI l).1=nt l % 65536/\(hI l).2=oc l.length l % 65536:=by
  intro k;induction k with
  |zero=>intro l h;rw[tv.1 h];simp[hI,nt,oc]
  |succ k d=>
   intro l h;rcases xR l with rfl|⟨a,c,rfl⟩
   .simp at h
   .rw[Aq]at h⊢;have e:a.length=k:=(by simpa using h);have:=d a e;rw[Eb,QZ,cr,Q0];simp only[hJ,oW,xQ,nt,this.1,this.2];rw[Q1 _ _ U];rw[show a.length+ (0+1) - a.length=1 from by omega];constructor<;>omega
 exact b _ l rfl
def Z0(c d:UInt8)(l:ar): pI (cS (c::l)) ((l.length+1:Nat):Int) c.toNat d.toNat=cS (l++ [d]):=by
 have e:=Q2 (c::l);have a:=Q2 (l++ [d]);have g:=Ec (c::l);rw[QZ,cr,Q0]at a;simp only[hJ,oW,nt,oc,As]at e a;rw[show l.length+ (0+1) - l.length=1 from by omega]at a;have h:=Q1 l.length l (bh _);rw[show l.length+ (0+1)=l.length+1 from by omega]at a;have i:=Ec (c::l);unfold pI cS;generalize(hI (c::l)).1=j at *;generalize(hI (c::l)).2=k at *;generalize(hI (l++ [d])).1=m at *;generalize(hI (l++ [d])).2=n at *;generalize f:(l.length+1)*c.toNat=p at *;have b:((l.length+1:Nat):Int)* (c.toNat:Int)=(p:Int):=(by rw[<-f];simp);rw[b];omega
def Z1(n:Int)(a:0<=n)(b:n<2 ^ 32):IntKind.u32.wrap n=n:=by rw[IntKind.wrap_u32];omega
def Q3(a b:Nat)(c:a<65536)(d:b<65536): bits BinOp.or IntKind.u32 ((b:Int) % 4294967296*65536 % 4294967296) ((a:Int) % 4294967296)=((b*65536+a:Nat):Int):=by
 rw[show(b:Int) % 4294967296*65536 % 4294967296=(b:Int)*65536 from by omega,show(a:Int) % 4294967296=a from by omega];rw[bits_join .u32 32 aE Z1 16 ((b:Int)*65536) a U U U U U U];omega
def Z2(n:Int):IntKind.u16.wrap n=n % 65536:=by simp[IntKind.wrap,IntKind.bits,IntKind.signed]
def Z3(a n o i:Int): bits BinOp.or IntKind.u32 (IntKind.u16.wrap (IntKind.u16.wrap (a / 65536 - IntKind.u16.wrap (IntKind.u16.wrap n*o))+IntKind.u16.wrap (IntKind.u16.wrap (IntKind.u16.wrap a - o)+i)) % 4294967296*65536 % 4294967296) (IntKind.u16.wrap (IntKind.u16.wrap (IntKind.u16.wrap a - o)+i) % 4294967296)=pI a n o i:=by
 simp only[Z2];have b:((a % 65536 - o) % 65536+i) % 65536=(a - o+i) % 65536:=U;rw[b];have c:((a / 65536 - n % 65536*o % 65536) % 65536+ (a - o+i) % 65536) % 65536=(a / 65536 - n*o+ (a - o+i) % 65536) % 65536:=by
  have:n % 65536*o % 65536=n*o % 65536:=(by rw[Int.mul_emod,Int.emod_emod,<-Int.mul_emod]);omega
 rw[c];unfold pI;generalize d:(a - o+i) % 65536=A;generalize e:(a / 65536 - n*o+A) % 65536=B;have h:=Q3 A.toNat B.toNat U U;rw[show((A.toNat:Nat):Int)=A from by omega,show((B.toNat:Nat):Int)=B from by omega]at h;rw[h];omega
def Z4(l:ar):cB (l.take 0)=14695981039346656037:=rfl
end Go.Proofs.YtlcdgbhigfgehabGreatDoor
namespace Go.Proofs.YtlcdgbhigfgehabGreatDoor
structure df where
 name:ar
 size:Nat
 e9:Nat
structure h7 where
 dN:df
 hK:List Tok
structure pJ where
 block:Nat
 db:List df
 targs:List h7
def numOf(l:ar):Nat:=l.foldl (λv c=>256*v+c.toNat) 0
def Z5(l:ar)(c:UInt8):numOf (l++ [c])=256*numOf l+c.toNat:=by simp[numOf]
def At(l:ar):numOf l<256 ^ l.length:=by
 have a:∀(l:ar)(v b:Nat),v<b->l.foldl (λv c=>256*v+c.toNat) v<b*256 ^ l.length:=by
  intro l;induction l with
  |nil=>intro v b h;simpa using h
  |cons c l d=>
   intro v b h;have e:=c.toNat_lt;have:=d (256*v+c.toNat) (256*b) U;simp only[rQ,hJ,Nat.pow_succ];rw[xN (256 ^ l.length),<-Nat.mul_assoc,xN b];exact this
 have:=a l 0 1 U;simpa[numOf]using this
def takeN(n:Nat)(r:ar):Option (ar×ar):=if r.length<n then none else some (r.take n,r.drop n)
def eE(n:Nat)(r:ar):Option (Nat×ar):=if r.length<n then none else some (numOf (r.take n),r.drop n)
def nu(c:UInt8):Bool:=(decide (97<=c.toNat) && decide (c.toNat<=122))||(decide (48<=c.toNat) && decide (c.toNat<=57))||decide (c.toNat=46)||decide (c.toNat=47)
def isName(l:ar):Bool:=decide (1<=l.length) && decide (l.length<=12) && l.all nu
def behind(a b:ar):Bool:= !(Op.bytesLess a b||a==b)
def eN(last:ar)(first:Bool)(r:ar):Option (df×ar):=match eE 1 r with
 |none=>none
 |some (k,r)=>
  match takeN k r with
  |none=>none
  |some (ec,r)=>
   if(isName ec && (first||behind ec last))=false then none else
   match eE 2 r with
   |none=>none
   |some (aK,r)=>
    if 300<aK then none else
    match eE 8 r with
    |none=>none
    |some (d,r)=>some (⟨ec,aK,d⟩,r)
def lW:List df->ar
 |[]=> []
 |[e]=>e.name
 |_::e::es=>lW (e::es)
def Ee(l:List df)(e:df):lW (l++ [e])=e.name:=by
 induction l with
 |nil=>rfl
 |cons a l c=>
  cases l with
  |nil=>rfl
  |cons b l=>exact c
def jM:Nat->List df->ar->Option (List df×ar)
 |0,acc,r=>some (acc,r)
 |n+1,acc,r=>
  match eN (lW acc) acc.isEmpty r with
  |none=>none
  |some (e,r)=>jM n (acc++ [e]) r
def madeOf(size blk b c:Nat):Nat:=min ((b+c)*blk) size - b*blk
def gG(blk db:Nat)(r:ar):Option ((Tok×Nat)×ar):=match eE 1 r with
 |none=>none
 |some (kind,r)=>
  if kind=0 then
   match eE 1 r with
   |none=>none
   |some (k,r)=>
    if k=0 then none else
    match takeN k r with
    |none=>none
    |some (d,r)=>some ((⟨0,0,d⟩,k),r)
  else if kind=1 then
   match eE 2 r with
   |none=>none
   |some (b,r)=>
    match eE 1 r with
    |none=>none
    |some (c,r)=>if 0<c/\b+c<=b6 db blk then some ((⟨b,c,[]⟩,madeOf db blk b c),r)else none
  else none
def od(blk db:Nat):Nat->List Tok->Nat->ar->Option ((List Tok×Nat)×ar)
 |0,acc,s,r=>some ((acc,s),r)
 |n+1,acc,s,r=>
  match gG blk db r with
  |none=>none
  |some ((t,k),r)=>od blk db n (acc++ [t]) (s+k) r
def nv(blk db size:Nat)(r:ar):Option (List Tok×ar):=match eE 2 r with
 |none=>none
 |some (n,r)=>
  match od blk db n [] 0 r with
  |none=>none
  |some ((l,s),r)=>if s=size then some (l,r)else none
def mU(db:List df)(name:ar):Nat:=db.foldl (λs e=>if e.name=name then e.size else s) 0
def Z6(l:List df)(e:df)(name:ar):mU (l++ [e]) name=if e.name=name then e.size else mU l name:=by simp[mU]
def lastT(db:List df):List h7->ar
 |[]=>lW db
 |a::l=>lW ((a::l).map (·.dN))
def lX(blk:Nat)(db:List df):Nat->List h7->ar->Option (List h7×ar)
 |0,acc,r=>some (acc,r)
 |n+1,acc,r=>
  match eN (lastT db acc) acc.isEmpty r with
  |none=>none
  |some (e,r)=>
   match nv blk (mU db e.name) e.size r with
   |none=>none
   |some (l,r)=>lX blk db n (acc++ [⟨e,l⟩]) r
def fa(s:ar):Option (pJ×ar):=match takeN 3 s with
 |none=>none
 |some (m,r)=>
  if m≠[66,65,84]then none else
  match eE 1 r with
  |none=>none
  |some (blk,r)=>
   if blk<1\/64<blk then none else
   match eE 1 r with
   |none=>none
   |some (n,r)=>
    if 8<n then none else
    match jM n [] r with
    |none=>none
    |some (db,r)=>
     match eE 1 r with
     |none=>none
     |some (k,r)=>
      if 8<k then none else
      match lX blk db k [] r with
      |none=>none
      |some (fj,r)=>some (⟨blk,db,fj⟩,r)
def fz(s:ar):Option pJ:=match fa s with
 |none=>none
 |some (x,r)=>if r.length=8/\numOf r=cB (s.take (s.length - r.length))then some x else none
end Go.Proofs.YtlcdgbhigfgehabGreatDoor
namespace Go.Proofs.YtlcdgbhigfgehabGreatDoor
open Go.Op
def Ef(a:ar):bytesLess a a=false:=by
 induction a with
 |nil=>rfl
 |cons x a b=>simp[bytesLess,b]
def IV(a:ar):bytesLess a []=false:=by cases a<;>rfl
def Q4(x y:UInt8)(a b:ar):bytesLess (x::a) (y::b)=(decide (x<y)||(x==y && bytesLess a b)):=rfl
def Z7{x y z:UInt8}(h:x<y)(a:y<z):x<z:=by rw[IW]at *;omega
def Z8(x y:UInt8):x<y\/x=y\/y<x:=by
 rw[IW,IW];by_cases h:x.toNat=y.toNat
 .exact .inr (.inl (UInt8.toNat_inj.1 h))
 .omega
def IX:∀(a b c:ar),bytesLess a b=true->bytesLess b c=true->bytesLess a c=true:=by
 intro a;induction a with
 |nil=>
  intro b c e d;cases c with
  |nil=>rw[IV]at d;cases d
  |cons z c=>rfl
 |cons x a f=>
  intro b c e d;cases b with
  |nil=>rw[IV]at e;cases e
  |cons y b=>
   cases c with
   |nil=>rw[IV]at d;cases d
   |cons z c=>
    rw[Q4]at *;simp only[oX,Eg,cu,ho]at *;rcases e with e|⟨rfl,e⟩
    .rcases d with d|⟨rfl,d⟩
     .exact .inl (Z7 e d)
     .exact .inl e
    .rcases d with d|⟨rfl,d⟩
     .exact .inl d
     .exact .inr ⟨rfl,f _ _ e d⟩
def Z9:∀(a b:ar),bytesLess a b=false->a≠b->bytesLess b a=true:=by
 intro a;induction a with
 |nil=>
  intro b c d;cases b with
  |nil=>exact absurd rfl d
  |cons y b=>cases c
 |cons x a g=>
  intro b c d;cases b with
  |nil=>rfl
  |cons y b=>
   rw[Q4]at *;simp only[Bool.or_eq_false_iff,decide_eq_false_iff_not,Bool.and_eq_false_iff,oe]at c;simp only[oX,Eg,cu,ho];rcases Z8 x y with h|h|h
   .exact absurd h c.1
   .subst h;rcases c.2 with f|f
    .exact absurd rfl f
    .exact .inr ⟨rfl,g _ f (λe=>d (by rw[e]))⟩
   .exact .inl h
def aaa(a b:ar)(h:bytesLess a b=true):bytesLess b a=false:=by
 cases cb:bytesLess b a with
 |false=>rfl
 |true=>rw[<-Ef a];exact(IX a b a h cb).symm
def Eh(a b:ar):behind a b=bytesLess b a:=by
 unfold behind;cases h:bytesLess a b with
 |true=>rw[aaa _ _ h];rfl
 |false=>
  by_cases c:a=b
  .subst c;simp[Ef]
  .rw[Z9 _ _ h c];simp[c]
structure aI where
 name:ar
 data:ar
def hp(i:Nat)(last:ar)(f:aI):Bool:= !(isName f.name)||(decide (0<i) && !(behind f.name last))||decide (300<f.data.length)||decide (8<=i)
def rR:Nat->ar->List aI->Option (ar)
 |_,_,[]=>none
 |i,last,f::dk=>if hp i last f then some f.name else rR (i+1) f.name dk
def ki(l:List aI):Option (ar):=rR 0 [] l
def findF:List aI->ar->Option (ar)
 |[],_=>none
 |f::dk,n=>if f.name=n then some f.data else findF dk n
def h8(l:List aI)(n:ar):ar:=(findF l n).getD []
def Au(l:List aI)(n:ar):Option (ar):=l.foldl (λo f=>if f.name=n then some f.data else o) none
structure dc(l:List aI):Prop where
 ok:∀f∈l,isName f.name=true/\f.data.length<=300
 up:l.Pairwise λf g=>bytesLess f.name g.name=true
 len:l.length<=8
def aab:∀(l:List aI)(i:Nat)(a:ar),rR i a l=none↔ (∀f∈l,isName f.name=true/\f.data.length<=300)/\l.Pairwise (λf g=>bytesLess f.name g.name=true)/\(l≠[]->i+l.length<=8)/\(0<i->∀f∈l,bytesLess a f.name=true):=by
 intro l;induction l with
 |nil=>intro i a;simp[rR]
 |cons f l q=>
  intro i a;unfold rR;by_cases b:hp i a f=true
  .rw[aV b];simp only[reduceCtorEq,false_iff];rintro⟨h,e,j,m⟩;have n:=h f ag;have o:=j ag;unfold hp at b;simp only[hJ]at o;simp only[oX,vv,cu,Eg]at b;rcases b with((b|b)|b)|b
   .rw[n.1]at b;cases b
   .rw[Eh,m b.1 f ag]at b;cases b.2
   .omega
   .omega
  .rw[aC b,q];have d:hp i a f=false:=(by simpa using b);unfold hp at d;simp only[Bool.or_eq_false_iff,Bool.not_eq_false',Bool.and_eq_false_iff,decide_eq_false_iff_not]at d;obtain⟨⟨⟨r,k⟩,s⟩,t⟩:=d;rw[Eh]at k;constructor
   .rintro⟨h,e,j,m⟩;have n:=m U;refine⟨λg c=> ?_,vw.2 ⟨n,e⟩,λ_=> ?_,λaf g c=> ?_⟩
    .rcases dY.1 c with rfl|c
     .exact⟨r,U⟩
     .exact h g c
    .by_cases p:l=[]
     .subst p;simp;omega
     .have:=j p;simp;omega
    .have o:bytesLess a f.name=true:=by
      rcases k with k|k
      .omega
      .exact k
     rcases dY.1 c with rfl|c
     .exact o
     .exact IX _ _ _ o (n g c)
   .rintro⟨h,e,j,m⟩;rw[vw]at e;refine⟨λg c=>h g (by simp[c]),e.2,λ_=> ?_,λ_=>e.1⟩;have:=j ag;simp at this;omega
def vx(l:List aI):ki l=none↔dc l:=by
 unfold ki;rw[aab];constructor
 .rintro⟨a,b,c,-⟩;refine⟨a,b,?_⟩;by_cases d:l=[]
  .subst d;simp
  .have:=c d;omega
 .rintro⟨a,b,c⟩;exact⟨a,b,λ_=>U,λh=>U⟩
def aac{a b:ar}(h:bytesLess a b=true):a≠b:=by rintro rfl;rw[Ef]at h;cases h
def IY(l:List aI)(h:l.Pairwise λf g=>bytesLess f.name g.name=true)(n:ar):findF l n=Au l n:=by
 have c:∀(l:List aI)(o:Option (ar)),l.Pairwise (λf g=>bytesLess f.name g.name=true)->l.foldl (λo f=>if f.name=n then some f.data else o) o=(findF l n).or o:=by
  intro l;induction l with
  |nil=>intro o _;rfl
  |cons f l b=>
   intro o h;rw[vw]at h;simp only[rQ,findF];rw[b _ h.2];by_cases a:f.name=n
   .rw[aV a,aV a];have:findF l n=none:=by
     have d:=h.1;clear b h;induction l with
     |nil=>rfl
     |cons g l b=>
      unfold findF;have:=aac (d g ag);rw[aC (λe=>this (a.trans e.symm)),b (λg i=>d g (by simp[i]))]
    rw[this];rfl
   .rw[aC a,aC a]
 have:=c l none h;unfold Au;rw[this];cases findF l n<;>rfl
end Go.Proofs.YtlcdgbhigfgehabGreatDoor
namespace Go.Proofs.YtlcdgbhigfgehabGreatDoor
def placeOf(base:ar)(blk:Nat)(rest:ar):Option Nat:=if rest.length<blk then none else(List.range (b6 base.length blk)).find? λi=>(base.drop (i*blk)).take blk==rest.take blk
def ny(out:List Tok)(c:UInt8):List Tok:=match out.getLast? with
 |some t=>if t.c=0/\t.d.length<255 then out.dropLast++ [⟨t.b,t.c,t.d++ [c]⟩]else out++ [⟨0,0,[c]⟩]
 |none=> [⟨0,0,[c]⟩]
def addBlock(out:List Tok)(k:Nat):List Tok:=match out.getLast? with
 |some t=>if 0<t.c/\t.c<255/\t.b+t.c=k then out.dropLast++ [⟨t.b,t.c+1,t.d⟩]else out++ [⟨k,1,[]⟩]
 |none=> [⟨k,1,[]⟩]
def Rg{α:Type}{l:List α}{t:α}(h:l.getLast? =some t):l.dropLast++ [t]=l:=by
 rcases xR l with rfl|⟨a,x,rfl⟩
 .simp at h
 .simp at h;subst h;simp
def jN(base:ar)(blk:Nat)(out:List Tok)(rest:ar):List Tok:=match rest with
 |[]=>out
 |c::r=>
  match placeOf base blk (c::r)with
  |none=>jN base blk (ny out c) r
  |some k=>jN base blk (addBlock out k) (r.drop (blk - 1))
termination_by rest.length
decreasing_by all_goals simp;try omega
def nz(base data:ar)(blk:Nat):List Tok:=jN base blk [] data
def I7(base:ar)(blk:Nat)(a:List Tok):jN base blk a []=a:=by unfold jN;rfl
def Et(base:ar)(blk:Nat)(a:List Tok)(c:UInt8)(r:ar): jN base blk a (c::r)=match placeOf base blk (c::r)with|none=>jN base blk (ny a c) r|some k=>jN base blk (addBlock a k) (r.drop (blk - 1)):=by conv=>lhs;unfold jN
def aap(base:ar)(blk:Nat)(a:List Tok)(l:ar)(i:Nat)(af:i<l.length)(h:placeOf base blk (l.drop i)=none): jN base blk a (l.drop i)=jN base blk (ny a l[i]) (l.drop (i+1)):=by
 rw[qW af]at h⊢;rw[Et,h]
def aaq(base:ar)(blk:Nat)(b:0<blk)(a:List Tok)(l:ar)(i k:Nat)(af:i<l.length)(h:placeOf base blk (l.drop i)=some k): jN base blk a (l.drop i)=jN base blk (addBlock a k) (l.drop (i+blk)):=by
 rw[qW af]at h⊢;rw[Et,h];simp only[xO];rw[show i+1+ (blk - 1)=i+blk by omega]
def qX(out:List Tok):Prop:=∀t,out.getLast? =some t->¬(t.c=0/\t.d.length<255)
def qX.nil:qX []:=λt h=>by simp at h
def aar(b:List Tok)(k:Nat):qX (addBlock b k):=by
 intro t a;unfold addBlock at a;split at a
 .rename_i t0 c;split at a
  .rename_i d;simp at a;subst a;simp;omega
  .simp at a;subst a;simp
 .simp at a;subst a;simp
def chunks(l:ar):List Tok:=if h:l=[]then[]else⟨0,0,l.take 255⟩::chunks (l.drop 255)
termination_by l.length
decreasing_by
 have:0<l.length:=List.length_pos_iff.2 h;simp;omega
def vz:chunks []=[]:=by unfold chunks;simp
def AB(l:ar)(h:l≠[]):chunks l=⟨0,0,l.take 255⟩::chunks (l.drop 255):=by
 conv=>lhs;unfold chunks
 simp[h]
def I8(l:ar)(h:l≠[])(a:l.length<=255):chunks l=[⟨0,0,l⟩]:=by rw[AB l h,iG a,ty a,vz]
def Rh(l:ar)(c:UInt8):∀a,qX a->ny (a++chunks l) c=a++chunks (l++ [c]):=by
 have d:∀(n:Nat)(l:ar),l.length<=n->∀a,qX a->ny (a++chunks l) c=a++chunks (l++ [c]):=by
  intro n;induction n with
  |zero=>
   intro l g a ap;obtain rfl:l=[]:=tv.1 U;rw[vz,pN,mV,I8 [c] ag ag];unfold ny;split
   .rename_i t b;rw[aC (ap t b)]
   .rename_i h;rw[I9]at h;subst h;rfl
  |succ n f=>
   intro l g a ap;by_cases e:l=[]
   .subst e;exact f [] ag a ap
   by_cases i:l.length<255
   .rw[I8 l e U,I8 (l++ [c]) ag a5];simp[ny,i]
   .rw[AB l e,AB (l++ [c]) ag,List.take_append_of_le_length U,List.drop_append_of_le_length U];have:=f (l.drop 255) a5 (a++ [⟨0,0,l.take 255⟩]) (by intro t b;simp at b;subst b;simp;omega);simpa using this
 exact d l.length l (bh _)
def aas(base:ar)(blk:Nat)(rest:ar)(h:rest.length<blk):placeOf base blk rest=none:=by unfold placeOf;rw[aV h]
def aat(base:ar)(blk:Nat)(a:List Tok)(ap:qX a):∀(rest l:ar),rest.length<blk->jN base blk (a++chunks l) rest=a++chunks (l++rest):=by
 intro rest;induction rest with
 |nil=>intro l h;rw[I7,pN]
 |cons c r b=>
  intro l h;rw[Et,aas _ _ _ h];simp only;rw[Rh l c a ap,b (l++ [c]) (by simp at h;omega)];simp
def Ri(base:ar)(blk:Nat)(d:0<blk)(rest:ar)(k:Nat)(h:placeOf base blk rest=some k): blk<=rest.length/\(k+1)*blk<=base.length/\(base.drop (k*blk)).take blk=rest.take blk/\∀i,i<k->(base.drop (i*blk)).take blk≠rest.take blk:=by
 unfold placeOf at h;split at h
 .cases h
 .rename_i e;have b:=List.find?_some h;have a:(base.drop (k*blk)).take blk=rest.take blk:=(by simpa using b);refine⟨U,?_,a,?_⟩
  .have:=hq List.length a;simp at this;rw[fJ,ob];omega
  .intro i af c;rw[List.find?_range_eq_some]at h;have:=h.2.2 i af;simp at this;exact this c
def aau(base:ar)(blk:Nat)(c:0<blk)(rest:ar)(d:blk<=rest.length):placeOf base blk rest=none↔∀i,(i+1)*blk<=base.length->(base.drop (i*blk)).take blk≠rest.take blk:=by
 unfold placeOf;rw[aC U,List.find?_range_eq_none];constructor
 .intro h i af b;have:=h i ((rP _ _ _ c).2 (by rw[fJ]at af;omega));simp at this;exact this b
 .intro h i af;simp only[vv,oe,ne_eq];intro b;have a:=hq List.length b;simp at a;exact h i (by rw[fJ,ob];omega) b
def aav(base:ar)(blk:Nat)(a:0<blk)(rest:ar)(k:Nat)(d:blk<=rest.length)(hk:(k+1)*blk<=base.length)(h:(base.drop (k*blk)).take blk=rest.take blk)(b:∀i,i<k->(base.drop (i*blk)).take blk≠rest.take blk):placeOf base blk rest=some k:=by
 unfold placeOf;rw[aC U,List.find?_range_eq_some];refine⟨by simpa using h,by simp;exact(rP _ _ _ a).2 (by rw[fJ]at hk;omega),λj c=>by simpa using b j c⟩
def aaw(base:ar)(blk:Nat)(a:List Tok)(c:UInt8)(o:ar)(p:∀t∈a,t.c=0->t.b=0)(h:dj base blk a []=.inr o)(u:(o++ [c]).length<=300):dj base blk (ny a c) []=.inr (o++ [c]):=by
 have i:∀xs,dj base blk xs []=.inr o->dj base blk (xs++ [⟨0,0,[c]⟩]) []=.inr (o++ [c]):=by
  intro xs q;rw[tt,q];have g:dX (b6 base.length blk) ⟨0,0,[c]⟩=true:=(by simp[dX]);have m:gw base blk ⟨0,0,[c]⟩=[c]:=(by simp[gw]);simp only[dj,g,m,dd];rw[aC U]
 unfold ny;split
 .rename_i t r;split
  .rename_i g;obtain⟨g,m⟩:=g;have hd:a=a.dropLast++ [t]:=(Rg r).symm;have j:t.b=0:=p t (by rw[hd];simp) g;have f:=h;rw[hd,tt]at f;rw[tt];cases cc:dj base blk a.dropLast []with
   |inl e=>rw[cc]at f;cases f
   |inr v=>
    rw[cc]at f;simp only[dj]at f⊢;have hk:dX (b6 base.length blk) t=true:=(by simp[dX,g,j]);have k:dX (b6 base.length blk) ⟨t.b,t.c,t.d++ [c]⟩=true:=(by simp[dX,g,j]);have s:gw base blk t=t.d:=(by simp[gw,g]);have l:gw base blk ⟨t.b,t.c,t.d++ [c]⟩=t.d++ [c]:=(by simp[gw,g]);rw[aV hk,s]at f;rw[aV k,l];split at f
    .cases f
    .simp only[Sum.inr.injEq]at f;subst f;rw[<-gY,aC U]
  .exact i _ h
 .rename_i n;rw[I9]at n;subst n;exact i [] h
def aax(base:ar)(blk:Nat)(f:List Tok)(k:Nat)(o:ar)(y:∀t∈f,0<t.c->t.d=[]/\0<=t.b)(h:dj base blk f []=.inr o)(hk:k<b6 base.length blk)(D:(o++ (base.drop (k*blk)).take blk).length<=300):dj base blk (addBlock f k) []=.inr (o++ (base.drop (k*blk)).take blk):=by
 have i:∀xs,dj base blk xs []=.inr o->dj base blk (xs++ [⟨k,1,[]⟩]) []=.inr (o++ (base.drop (k*blk)).take blk):=by
  intro xs z;rw[tt,z];have j:dX (b6 base.length blk) ⟨k,1,[]⟩=true:=(by simp[dX];omega);have w:gw base blk ⟨k,1,[]⟩=(base.drop (k*blk)).take blk:=(by simp[gw]);simp only[dj,j,w,dd];rw[aC U]
 unfold addBlock;split
 .rename_i t A;split
  .rename_i j;obtain⟨j,w,B⟩:=j;have hd:f=f.dropLast++ [t]:=(Rg A).symm;have⟨l,q⟩:=y t (by rw[hd];simp) j;have g:=h;rw[hd,tt]at g;rw[tt];cases cc:dj base blk f.dropLast []with
   |inl e=>rw[cc]at g;cases g
   |inr E=>
    rw[cc]at g;simp only[dj]at g⊢;have⟨r,m⟩:=pO q;have⟨n,p⟩:=pO (a:=t.c) U;have s:dX (b6 base.length blk) t=true:=(by simp[dX,l];omega);have u:dX (b6 base.length blk) ⟨t.b,t.c+1,t.d⟩=true:=(by simp[dX,l];omega);have C:gw base blk t=(base.drop (r*blk)).take (n*blk):=by
     unfold gw;rw[aC U,m,p];rfl
    have v:gw base blk ⟨t.b,t.c+1,t.d⟩=(base.drop (r*blk)).take (n*blk)++ (base.drop (k*blk)).take blk:=by
     unfold gw;simp only;rw[aC U,m,p,show((n:Int)+1).toNat=n+1 from by omega,pP,<-ZY,show r+n=k by omega]
    rw[aV s,C]at g;rw[aV u,v];split at g
    .cases g
    .simp only[Sum.inr.injEq]at g;subst g;rw[<-gY,aC U]
  .exact i _ h
 .rename_i x;rw[I9]at x;subst x;exact i [] h
def Shaped(t:Tok):Prop:=(t.c=0/\t.b=0/\0<t.d.length/\t.d.length<=255)\/(0<t.c/\t.c<=255/\0<=t.b/\t.d=[])
def Ja{α:Type}{l:List α}{x:α}(h:x∈l.dropLast):x∈l:=List.dropLast_subset l h
def aay(b:List Tok)(c:UInt8)(h:∀t∈b,Shaped t):∀t∈ny b c,Shaped t:=by
 intro t a;unfold ny at a;split at a
 .rename_i t0 e;have f:t0∈b:=Jb e;split at a
  .rename_i g;rcases fB.1 a with a|a
   .exact h t (Ja a)
   .simp at a;subst a;have:=h t0 f;rcases this with d|d
    .exact .inl ⟨g.1,d.2.1,ag,a5⟩
    .omega
  .rcases fB.1 a with a|a
   .exact h t a
   .simp at a;subst a;exact .inl ⟨rfl,rfl,ag,ag⟩
 .simp at a;subst a;exact .inl ⟨rfl,rfl,ag,ag⟩
def Rj(b:List Tok)(k:Nat)(h:∀t∈b,Shaped t):∀t∈addBlock b k,Shaped t:=by
 intro t a;unfold addBlock at a;split at a
 .rename_i t0 d;have e:t0∈b:=Jb d;split at a
  .rename_i f;rcases fB.1 a with a|a
   .exact h t (Ja a)
   .simp at a;subst a;have:=h t0 e;rcases this with c|c
    .omega
    .exact .inr ⟨a5,a5,c.2.2.1,c.2.2.2⟩
  .rcases fB.1 a with a|a
   .exact h t a
   .simp at a;subst a;exact .inr ⟨ag,ag,ag,rfl⟩
 .simp at a;subst a;exact .inr ⟨ag,ag,ag,rfl⟩
def Shaped.z{a:List Tok}(h:∀t∈a,Shaped t):∀t∈a,t.c=0->t.b=0:=λt d e=>by rcases h t d with h|h<;>omega
def Shaped.n{a:List Tok}(h:∀t∈a,Shaped t):∀t∈a,0<t.c->t.d=[]/\0<=t.b:=λt e f=>by
 rcases h t e with h|h
 .omega
 .exact⟨h.2.2.2,h.2.2.1⟩
def aaz(base:ar)(blk:Nat)(l:0<blk):∀(n:Nat)(rest:ar)(a:List Tok)(o:ar),rest.length<=n->(∀t∈a,Shaped t)->dj base blk a []=.inr o->(o++rest).length<=300->dj base blk (jN base blk a rest) []=.inr (o++rest)/\(∀t∈jN base blk a rest,Shaped t)/\(jN base blk a rest).length<=a.length+rest.length:=by
 intro n;induction n with
 |zero=>
  intro rest a o g b h i;obtain rfl:rest=[]:=tv.1 U;rw[I7,pN];exact⟨h,b,U⟩
 |succ n p=>
  intro rest a o g b h i;cases rest with
  |nil=>rw[I7,pN];exact⟨h,b,U⟩
  |cons c r=>
   have f:(o++ [c]++r).length<=300:=(by simpa using i);rw[Et];cases b8:placeOf base blk (c::r)with
   |none=>
    simp only;have:=p r (ny a c) (o++ [c]) (by simp at g;omega) (aay a c b) (aaw base blk a c o (Shaped.z b) h (by simp at f⊢;omega)) f;refine⟨by simpa using this.1,this.2.1,Nat.le_trans this.2.2 ?_⟩;have:(ny a c).length<=a.length+1:=by
     unfold ny;split
     .split<;>simp<;>omega
     .simp
    simp;omega
   |some k=>
    obtain⟨u,q,s,-⟩:=Ri base blk l _ k b8;simp only;have j:(c::r).take blk++r.drop (blk - 1)=c::r:=by
     obtain⟨m,rfl⟩:∃m,blk=m+1:=⟨blk - 1,U⟩;simp[IR]
    have e:o++ (c::r)=o++ (base.drop (k*blk)).take blk++r.drop (blk - 1):=(by rw[s,gY,j]);have d:=i;rw[e]at d;have:=p (r.drop (blk - 1)) (addBlock a k) (o++ (base.drop (k*blk)).take blk) (by simp at g⊢;omega) (Rj a k b) (aax base blk a k o (Shaped.n b) h ((rP _ _ _ l).2 (by rw[fJ]at q;omega)) (by rw[cr]at d;omega)) d;rw[e];refine⟨this.1,this.2.1,dU this.2.2 ?_⟩;have:(addBlock a k).length<=a.length+1:=by
     unfold addBlock;split
     .split<;>simp<;>omega
     .simp
    simp;omega
def Eu(base a:ar)(blk:Nat)(b:0<blk)(c:a.length<=300): dj base blk (nz base a blk) []=.inr a/\(∀t∈nz base a blk,Shaped t)/\(nz base a blk).length<=a.length:=by
 have:=aaz base blk b a.length a [] [] (bh _) (λ_ h=>by simp at h) rfl (by simpa using c);simpa[nz]using this
end Go.Proofs.YtlcdgbhigfgehabGreatDoor
namespace Go.Proofs.YtlcdgbhigfgehabGreatDoor
open Go.Op
def fo:Nat->Nat->ar
 |0,_=> []
 |n+1,v=>UInt8.ofNat (v / 256 ^ n)::fo n v
def nA(n v:Nat):(fo n v).length=n:=by induction n with
 |zero=>rfl
 |succ n a=>simp[fo,a]
def aaA(n:Nat):∀(v a:Nat),(fo n v).foldl (λv c=>256*v+c.toNat) a=a*256 ^ n+v % 256 ^ n:=by
 induction n with
 |zero=>intro v a;simp[fo,Nat.mod_one]
 |succ n b=>
  intro v a;simp only[fo,rQ];rw[b,Nat.pow_succ];have d:(UInt8.ofNat (v / 256 ^ n)).toNat=v / 256 ^ n % 256:=ag;rw[d,Nat.mod_mul,fJ,xN 256 a,Nat.mul_assoc,xN (256 ^ n) 256,xN (256 ^ n) (v / 256 ^ n % 256)];omega
def Rk(n v:Nat)(h:v<256 ^ n):numOf (fo n v)=v:=by
 have:=aaA n v 0;unfold numOf;rw[this,Nat.mod_eq_of_lt h];omega
def Ev(n v:Nat)(r:ar)(h:v<256 ^ n):eE n (fo n v++r)=some (v,r):=by
 unfold eE;rw[aC (by simp[nA]),List.take_left' (nA n v),List.drop_left' (nA n v),Rk n v h]
def Rm(l r:ar):takeN l.length (l++r)=some (l,r):=by
 unfold takeN;rw[aC ag,Em,List.drop_left]
def Jc(c:UInt8)(r:ar):eE 1 (c::r)=some (c.toNat,r):=by
 unfold eE;rw[aC ag];simp[numOf]
def xV(v:Nat)(r:ar)(h:v<256):eE 1 (UInt8.ofNat v::r)=some (v,r):=by rw[Jc];simp;omega
def lZ(l:ar):Nat:=(cB l).toNat
def km(f:aI):ar:=UInt8.ofNat f.name.length::(f.name++fo 2 f.data.length++fo 8 (lZ f.data))
def kn(f:aI):df:=⟨f.name,f.data.length,lZ f.data⟩
def pQ(t:Tok):ar:=if t.c=0 then 0::UInt8.ofNat t.d.length::t.d else 1::(fo 2 t.b.toNat++ [UInt8.ofNat t.c.toNat])
def AD(l:List Tok):ar:=fo 2 l.length++l.flatMap pQ
def tD(ref:List aI)(blk:Nat)(f:aI):List Tok:=nz (h8 ref f.name) f.data blk
def qY(ref:List aI)(blk:Nat)(f:aI):ar:=km f++AD (tD ref blk f)
def tE(ref:List aI)(blk:Nat)(f:aI):h7:=⟨kn f,tD ref blk f⟩
def rU(ref:List aI)(blk:Nat):ar:=[66,65,84,UInt8.ofNat blk,UInt8.ofNat ref.length]
def xW(src ref:List aI)(blk:Nat):ar:=rU ref blk++ref.flatMap km++UInt8.ofNat src.length::src.flatMap (qY ref blk)
def iH(src ref:List aI)(blk:Nat):ar:=xW src ref blk++fo 8 (lZ (xW src ref blk))
def Rn(l:ar):0<=cB l/\cB l<18446744073709551616:=by
 rcases xR l with rfl|⟨a,x,rfl⟩
 .decide
 .rw[Aq,IU];unfold Ap;simp[IntKind.wrap,IntKind.bits,IntKind.signed];omega
def Ew(l:ar):lZ l<256 ^ 8:=by have:=Rn l;unfold lZ;omega
def pR(l:ar):(lZ l:Int)=cB l:=by have:=Rn l;unfold lZ;omega
def Ro(f:aI)(a:ar)(first:Bool)(r:ar)(h:isName f.name=true)(d:f.data.length<=300)(b:first=true\/bytesLess a f.name=true): eN a first (km f++r)=some (kn f,r):=by
 have c:f.name.length<256:=by
  unfold isName at h;simp at h;omega
 unfold eN km;simp only[oa,gY];rw[xV _ _ c];simp only;rw[Rm];simp only;rw[aC,Ev 2 _ _ U]
 .simp only;rw[aC U,Ev 8 _ _ (Ew _)];rfl
 .rw[Eh,h];rcases b with b|b<;>simp[b]
def aaB:∀(l:List aI)(b:List df)(r:ar),(∀f∈l,isName f.name=true/\f.data.length<=300)->l.Pairwise (λf g=>bytesLess f.name g.name=true)->(b≠[]->∀f∈l,bytesLess (lW b) f.name=true)->jM l.length b (l.flatMap km++r)=some (b++l.map kn,r):=by
 intro l;induction l with
 |nil=>intro b r _ _ _;simp[jM]
 |cons f l h=>
  intro b r c d i;rw[vw]at d;simp only[hJ,jM,Ex,gY];rw[Ro f _ _ _ (c f ag).1 (c f ag).2]
  .simp only;rw[h _ _ (λg e=>c g (by simp[e])) d.2 (λ_ g e=>by rw[Ee];exact d.1 g e)];simp
  .cases b with
   |nil=>left;rfl
   |cons a b=>right;exact i ag f ag
def xX(db blk:Nat)(t:Tok):Nat:=if t.c=0 then t.d.length else madeOf db blk t.b.toNat t.c.toNat
def aaC(base:ar)(blk:Nat)(t:Tok):xX base.length blk t=(gw base blk t).length:=by
 unfold xX gw;split
 .rfl
 .simp only[List.length_take,Ax];unfold madeOf;rw[fJ];omega
def aaD(base:ar)(blk:Nat):∀(l:List Tok)(o r:ar),dj base blk l o=.inr r->r.length=o.length+ (l.map (xX base.length blk)).sum:=by
 intro l;induction l with
 |nil=>intro o r h;simp[dj]at h;subst h;simp
 |cons t l a=>
  intro o r h;simp only[dj]at h;split at h
  .split at h
   .cases h
   .have:=a _ _ h;rw[this];simp only[cr,mW,List.sum_cons,aaC];omega
  .cases h
def Rp(base:ar)(blk:Nat):∀(l:List Tok)(o r:ar),dj base blk l o=.inr r->∀t∈l,dX (b6 base.length blk) t=true:=by
 intro l;induction l with
 |nil=>intro o r h t b;simp at b
 |cons t l c=>
  intro o r h d a;simp only[dj]at h;split at h
  .rename_i hk;split at h
   .cases h
   .rcases dY.1 a with rfl|a
    .exact hk
    .exact c _ _ h d a
  .cases h
def aaE(t:Tok)(d blk:Nat)(r:ar)(m:b6 d blk<=300)(k:Shaped t)(hk:dX (b6 d blk) t=true): gG blk d (pQ t++r)=some ((t,xX d blk t),r):=by
 obtain⟨n,l,o⟩:=t;unfold pQ gG xX;rcases k with⟨e,f,g,h⟩|⟨e,f,g,h⟩
 .simp only at e f g h;subst e f;simp only[aV,oa];rw[Jc];simp only[show(0:UInt8).toNat=0 from rfl,aV];rw[xV _ _ U];simp only;rw[aC U,Rm]
 .simp only at e f g h;subst h;obtain⟨b,rfl⟩:=pO g;obtain⟨c,rfl⟩:=pO (a:=l) U;have i:b+c<=b6 d blk:=by
   unfold dX at hk;simp at hk;omega
  have j:¬((c:Int)=0):=U;simp only[aC j,oa,gY];rw[Jc];simp only[show(1:UInt8).toNat=1 from rfl,aC (show¬(1:Nat)=0 by omega),dd,pP];rw[Ev 2 _ _ U];simp only[mV];rw[xV _ _ U];simp only;rw[aV ⟨U,i⟩]
def aaF(a blk:Nat)(c:b6 a blk<=300):∀(l b:List Tok)(s:Nat)(r:ar),(∀t∈l,Shaped t/\dX (b6 a blk) t=true)->od blk a l.length b s (l.flatMap pQ++r)=some ((b++l,s+ (l.map (xX a blk)).sum),r):=by
 intro l;induction l with
 |nil=>intro b s r _;simp[od]
 |cons t l d=>
  intro b s r h;simp only[hJ,od,Ex,gY];rw[aaE t a blk _ c (h t ag).1 (h t ag).2];simp only;rw[d _ _ _ (λt e=>h t (by simp[e]))];simp[oh]
def aaG(base a:ar)(blk:Nat)(b:0<blk)(g:base.length<=300)(e:a.length<=300)(r:ar): nv blk base.length a.length (AD (nz base a blk)++r)=some (nz base a blk,r):=by
 have⟨c,f,h⟩:=Eu base a blk b e;have i:=(tu base.length blk b).2.2;unfold nv AD;rw[gY,Ev 2 _ _ U];simp only;rw[aaF _ _ U _ _ _ _ (λt d=>⟨f t d,Rp _ _ _ _ _ c t d⟩)];have:=aaD _ _ _ _ _ c;simp only[mV];rw[aV (by simp at this;omega)]
def Jd(l:List aI)(h:∀f∈l,f.data.length<=300)(n:ar):(h8 l n).length<=300:=by
 unfold h8;induction l with
 |nil=>simp[findF]
 |cons f l a=>
  unfold findF;split
  .simpa using h f ag
  .exact a (λg b=>h g (by simp[b]))
def aaH(l:List aI)(h:l.Pairwise λf g=>bytesLess f.name g.name=true)(n:ar):mU (l.map kn) n=(h8 l n).length:=by
 unfold h8;rw[IY l h n];have b:∀(l:List aI)(o:Option (ar))(s:Nat),s=(o.getD []).length->(l.map kn).foldl (λs e=>if e.name=n then e.size else s) s=((l.foldl (λo f=>if f.name=n then some f.data else o) o).getD []).length:=by
  intro l;induction l with
  |nil=>intro o s h;exact h
  |cons f l c=>
   intro o s h;simp only[mW,rQ];refine c _ _ ?_;rw[show(kn f).name=f.name from rfl];by_cases a:f.name=n
   .rw[aV a,aV a];rfl
   .rw[aC a,aC a];exact h
 exact b l none 0 rfl
def aaI(ref:List aI)(h:dc ref)(blk:Nat)(i:0<blk):∀(l:List aI)(b:List h7)(r:ar),(∀f∈l,isName f.name=true/\f.data.length<=300)->l.Pairwise (λf g=>bytesLess f.name g.name=true)->(b≠[]->∀f∈l,bytesLess (lW (b.map (·.dN))) f.name=true)->lX blk (ref.map kn) l.length b (l.flatMap (qY ref blk)++r)=some (b++l.map (tE ref blk),r):=by
 intro l;induction l with
 |nil=>intro b r _ _ _;simp[lX]
 |cons f l j=>
  intro b r d e k;rw[vw]at e;simp only[hJ,lX,Ex,gY,qY];rw[Ro f _ _ _ (d f ag).1 (d f ag).2]
  .simp only;rw[show(kn f).name=f.name from rfl,show(kn f).size=f.data.length from rfl,aaH ref h.up,tD,aaG _ _ _ i (Jd _ (λg c=>(h.ok g c).2) _) (d f ag).2];simp only;have:=j (b++ [⟨kn f,nz (h8 ref f.name) f.data blk⟩]) r (λg c=>d g (by simp[c])) e.2 (λ_ g c=>by rw[pS,Je,Ee];exact e.1 g c);rw[this];simp[tE,tD]
  .cases b with
   |nil=>left;rfl
   |cons a b=>right;exact k ag f ag
def aaJ(src ref:List aI)(blk:Nat)(b:dc src)(a:dc ref)(c:1<=blk)(d:blk<=64)(r:ar): fa (xW src ref blk++r)=some (⟨blk,ref.map kn,src.map (tE ref blk)⟩,r):=by
 unfold fa xW rU;simp only[gY,oa,mV];rw[show takeN 3 (66::65::84::UInt8.ofNat blk::UInt8.ofNat ref.length::(ref.flatMap km++UInt8.ofNat src.length::(src.flatMap (qY ref blk)++r)))=some ([66,65,84],UInt8.ofNat blk::UInt8.ofNat ref.length::(ref.flatMap km++UInt8.ofNat src.length::(src.flatMap (qY ref blk)++r)))from by simp[takeN]];simp only;rw[aC ag,xV _ _ U];simp only;rw[aC U,xV _ _ (by have:=a.len;omega)];simp only;rw[aC (by have:=a.len;omega),aaB _ _ _ a.ok a.up (λh=>absurd rfl h)];simp only;rw[xV _ _ (by have:=b.len;omega)];simp only;rw[aC (by have:=b.len;omega)];simp only[mV];rw[aaI ref a blk c src [] r b.ok b.up (λh=>absurd rfl h)];rfl
def Rq(src ref:List aI)(blk:Nat)(b:dc src)(c:dc ref)(d:1<=blk)(a:blk<=64): fz (iH src ref blk)=some ⟨blk,ref.map kn,src.map (tE ref blk)⟩:=by
 unfold fz iH;rw[aaJ src ref blk b c d a];simp only;rw[aV];refine⟨nA _ _,?_⟩;rw[Rk _ _ (Ew _),pR,nA,cr,nA,As,Em]
end Go.Proofs.YtlcdgbhigfgehabGreatDoor
namespace Go.Proofs.YtlcdgbhigfgehabGreatDoor
open Go.Op
def ack{s:ar}{x:pJ}(h:fz s=some x):∃r,fa s=some (x,r)/\r.length=8/\(numOf r:Int)=cB (s.take (s.length - 8)):=by
 unfold fz at h;split at h
 .cases h
 .rename_i ak r b;split at h
  .rename_i a;cases h;exact⟨r,b,a.1,by rw[a.2,a.1]⟩
  .cases h
end Go.Proofs.YtlcdgbhigfgehabGreatDoor
namespace Go.Proofs.YtlcdgbhigfgehabGreatDoor
def aeT(base:ar)(blk:Nat)(rest:ar)(h:blk<=rest.length):placeOf base blk rest=placeOf base blk (rest.take blk):=by
 unfold placeOf;rw[aC U,aC a5,List.take_take,Nat.min_self]
def aeU(a:ar)(f i:Nat)(b:f<=i)(af:i<a.length):(a.drop f).take (i - f)++ [a[i]]=(a.drop f).take (i+1 - f):=by
 rw[show i+1 - f=(i - f)+1 by omega,lV a5];congr 2;rw[List.getElem_drop];congr 1;omega
def aeV(a:ar)(f i:Nat)(b:f<=i)(af:i<=a.length):(a.drop f).take (i - f)++a.drop i=(a.drop f).take (a.length - f):=by
 rw[iG (l:=a.drop f) (i:=a.length - f) ag];have:=IR (i - f) (a.drop f);rw[xO,show f+ (i - f)=i by omega]at this;exact this
def qc(base data:ar)(blk:Nat)(L:List Tok)(f i:Nat):Prop:=nz base data blk=jN base blk (L++chunks ((data.drop f).take (i - f))) (data.drop i)
def aeW(base a:ar)(blk:Nat):qc base a blk [] 0 0:=by
 unfold qc nz;simp[vz]
def FE{base a:ar}{blk:Nat}{L:List Tok}{f i:Nat}(h:qc base a blk L f i)(ap:qX L)(b:f<=i)(af:i<a.length)(c:placeOf base blk (a.drop i)=none):qc base a blk L f (i+1):=by
 unfold qc at h⊢;rw[h,aap base blk _ a i af c,Rh _ _ _ ap,aeU a f i b af]
def TE{base a:ar}{blk:Nat}{L:List Tok}{f i k:Nat}(h:qc base a blk L f i)(b:0<blk)(af:i<a.length)(c:placeOf base blk (a.drop i)=some k): qc base a blk (addBlock (L++chunks ((a.drop f).take (i - f))) k) (i+blk) (i+blk):=by
 unfold qc at h⊢;rw[h,aaq base blk b _ a i k af c,Nat.sub_self,AR,vz,pN]
def aeX{base a:ar}{blk:Nat}{L:List Tok}{f i:Nat}(h:qc base a blk L f i)(ap:qX L)(b:f<=i)(af:i<=a.length)(c:a.length<i+blk): L++chunks ((a.drop f).take (a.length - f))=nz base a blk:=by
 unfold qc at h;rw[h,aat base blk L ap _ _ a5,aeV a f i b af]
def aeY(l:ar):(∀t∈chunks l,Shaped t/\t.b=0)/\(chunks l).length<=l.length:=by
 have a:∀(n:Nat)(l:ar),l.length<=n->(∀t∈chunks l,Shaped t/\t.b=0)/\(chunks l).length<=l.length:=by
  intro n;induction n with
  |zero=>
   intro l e;obtain rfl:l=[]:=tv.1 U;rw[vz];simp
  |succ n f=>
   intro l e;by_cases c:l=[]
   .subst c;rw[vz];simp
   .have h:=List.length_pos_iff.2 c;rw[AB l c];have:=f (l.drop 255) a5;refine⟨λt d=> ?_,?_⟩
    .rcases dY.1 d with rfl|d
     .exact⟨.inl ⟨rfl,rfl,a5,a5⟩,rfl⟩
     .exact this.1 t d
    .have g:=this.2;simp at g⊢;omega
 exact a _ l (bh _)
def aeZ(n:Int)(L:List Tok)(k:Nat)(hk:(k:Int)<=n)(h:∀t∈L,t.b<=n):∀t∈addBlock L k,t.b<=n:=by
 intro t a;unfold addBlock at a;split at a
 .rename_i t0 c;have d:t0∈L:=Jb c;split at a
  .rcases fB.1 a with a|a
   .exact h t (Ja a)
   .simp at a;subst a;exact h t0 d
  .rcases fB.1 a with a|a
   .exact h t a
   .simp at a;subst a;exact hk
 .simp at a;subst a;exact hk
def ae0(L:List Tok)(k:Nat):(addBlock L k).length<=L.length+1:=by
 unfold addBlock;split
 .split
  .simp;try omega
  .simp
 .simp
structure Good(L:List Tok)(f:Nat):Prop where
 BJ:qX L
 shaped:∀t∈L,Shaped t/\t.b<=300
 len:L.length<=f
def Good.start:Good [] 0:=⟨qX.nil,λ_ h=>by simp at h,bh _⟩
def Good.mid{L:List Tok}{f i:Nat}(h:Good L f)(a:ar)(g:f<=i):(∀t∈L++chunks ((a.drop f).take (i - f)),Shaped t/\t.b<=300)/\(L++chunks ((a.drop f).take (i - f))).length<=i:=by
 have d:=aeY ((a.drop f).take (i - f));refine⟨λt c=> ?_,?_⟩
 .rcases fB.1 c with c|c
  .exact h.shaped t c
  .exact⟨(d.1 t c).1,by have:=(d.1 t c).2;omega⟩
 .have e:=d.2;have j:=h.len;simp at e⊢;omega
def Good.block{L:List Tok}{f i k blk:Nat}(h:Good L f)(a:ar)(d:f<=i)(hk:k<=300)(e:0<blk):Good (addBlock (L++chunks ((a.drop f).take (i - f))) k) (i+blk):=by
 have c:=h.mid a d;refine⟨aar _ _,λt b=>⟨Rj _ _ (λt b=>(c.1 t b).1) t b,aeZ 300 _ _ U (λt b=>(c.1 t b).2) t b⟩,?_⟩;have:=ae0 (L++chunks ((a.drop f).take (i - f))) k;omega
def ae1(a:ar)(i blk:Nat)(c:0<blk)(h:i+blk<a.length): pI (cS ((a.drop i).take blk)) blk (a[i]'U).toNat (a[i+blk]).toNat=cS ((a.drop (i+1)).take blk):=by
 obtain⟨m,rfl⟩:∃m,blk=m+1:=⟨blk - 1,U⟩;have ay:(a.drop i).take (m+1)=a[i]::(a.drop (i+1)).take m:=(by rw[qW U,List.take_succ_cons]);have aF:(a.drop (i+1)).take (m+1)=(a.drop (i+1)).take m++ [a[i+ (m+1)]]:=by
  rw[lV a5];congr 2;rw[List.getElem_drop];congr 1;omega
 have b:((a.drop (i+1)).take m).length=m:=a5;rw[ay,aF,<-Z0,b]
end Go.Proofs.YtlcdgbhigfgehabGreatDoor
