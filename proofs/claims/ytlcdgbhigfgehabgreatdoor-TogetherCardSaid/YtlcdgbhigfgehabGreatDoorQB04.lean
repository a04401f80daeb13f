import Derived.Test.YtlcdgbhigfgehabGreatDoorQB00
import Derived.Test.YtlcdgbhigfgehabGreatDoorQB01
import Derived.Test.YtlcdgbhigfgehabGreatDoorQB02
import Derived.RangeFuncNested
import Derived.RangeFuncBox
import Derived.Maps.OwnOps
import Derived.Maps.Views
import Derived.Maps.OwnSet
import Derived.WalkSpells
import Derived.Deep.RegionWith
import Derived.StillTailTactics
import Derived.Laws.Rows
set_option linter.all false
set_option maxRecDepth 100000
set_option maxHeartbeats 16000000
namespace Go.Proofs.YtlcdgbhigfgehabGreatDoor
open Go.RowKit
section
variable{W cH w:World}{row:Option Nat}{B:Nat}{S:Nat->Prop}
def EA(h:W.grownBy cH row):Fr (λk=>row=some k) W cH:=⟨h.os,h.tape,h.output,h.size,λk hk a=>h.block k hk (λe=>a e.symm)⟩
def aaO(B:Nat)(W:ab)(row:Option Nat):Prop:=∀r,row=some r->B<=r/\∃o:Obj,W.heap[r]? =some o/\o.isCells=false
def Own.cells{g:Nat}{T:TypeId}{xs:bJ}(h:Own W g T xs):∀o,W.heap[g]? =some o->o.isCells=true:=by
 intro o ap;obtain⟨a,h,_⟩:=h;rw[h]at ap;cases ap;rfl
def Vec.cells{b:Nat}{T:TypeId}{aK n:Nat}{v:ai}{xs:bJ}(h:Vec W B T aK v n xs)(a:v.ownBlock=some b):∀o,W.heap[b]? =some o->o.isCells=true:=by
 rcases h.2 with⟨rfl,_⟩|⟨g,cap,rest,rfl,_,ap,_⟩
 .simp[Value.ownBlock]at a
 .simp[Value.ownBlock]at a;subst a;exact ap.cells
def Fr.grown(h:Fr S w W)(a:W.grownBy cH row)(b:aaO B W row)(c:w.heap.size<=B):Fr S w cH:=h.step (EA a) (λk hk d=>by have:=(b k hk).1;omega)
def Rs(W:ab)(D:Nat)(o:Obj):Fr (λk=>k=D) W (W.putObj D o):=(EA (grownBy_putObj' W D o)).mono (λk hk _=>by cases hk;rfl)
def Fr.putObj(h:Fr S w W){D:Nat}(a:w.heap.size<=D)(o:Obj):Fr S w (W.putObj D o):=h.step (Rs W D o) (λk hk b=>U)
def bH.ko{v:ai}{l:ar}(h:bH w v l):∀b,v.ownBlock=some b->b<w.heap.size:=by
 intro k hk;rcases h with⟨rfl,_⟩|⟨b,a,cap,c,e,rfl,f,g,d,i⟩
 .simp[Value.ownBlock]at hk
 .simp[Value.ownBlock]at hk;subst hk;exact(bQ.1 d).1
def KeepsFrom.Jf(h:Fr S W cH)(a:∀k,S k->B<=k->∀o,W.heap[k]? =some o->o.isCells=true):KeepsFrom B W cH:=⟨h.size,λk o b hk ap=>(h.block k (bQ.1 hk).1 (λc=>by rw[a k c b o hk]at ap;cases ap)).trans hk⟩
end
end Go.Proofs.YtlcdgbhigfgehabGreatDoor
namespace Go.Proofs.YtlcdgbhigfgehabGreatDoor
open Go.RowKit Go.ChangeMaps Go.WideElems Go.Maps
def EB(v:ai):Option (DataW ai×List MemPlace):=some (.held v,[])
def fQ(w:ab)(P:bF)(k:TypeId)(b n:Nat)(f:ai->jO):Prop:=∃D:DataW ai,w.ownsMap P k EB b n D/\∀key tF,keyOf P k key=some tF->∀z,D.atKey tF (.held z)=.held ((f key).getD z)
noncomputable def putAt(f:ai->jO)(key v:ai):ai->jO:=open Classical in λx=>if x=key then some v else f x
def AF(f:ai->jO)(key v:ai):putAt f key v key=some v:=by simp[putAt]
def AG(f:ai->jO){a x:ai}(v:ai)(h:x≠a):putAt f a v x=f x:=by simp[putAt,h]
section
variable{P:Program}{k:TypeId}{w w1:World}{b n:Nat}{f:Value->Option Value}{S:Nat->Prop}
def fQ.made(w:ab)(P:bF)(k:TypeId):fQ (w.alloc (.map #[] 0)) P k w.heap.size 0 (λ_=>none):=⟨_,World.ownsMap_made w P k EB,λ_ _ _ _=>rfl⟩
def fQ.lt(h:fQ w P k b n f):b<w.heap.size:=by obtain⟨D,h,_⟩:=h;exact h.lt
def fQ.mono{a:Nat}(h:fQ w P k b n f)(c:n<=a):fQ w P k b a f:=by obtain⟨D,h,d⟩:=h;exact⟨D,h.mono c,d⟩
def fQ.keep(h:fQ w P k b n f)(c:Fr S w w1)(d:¬S b):fQ w1 P k b n f:=by
 have e:=h.lt;obtain⟨D,⟨es,a,g,i⟩,j⟩:=h;exact⟨D,⟨es,a,(c.block b e d).trans g,i⟩,j⟩
def fQ.aaP(h:fQ w P k b n f):∃o:Obj,w.heap[b]? =some o/\o.isCells=false:=by
 obtain⟨D,⟨es,a,c,d⟩,e⟩:=h;exact⟨_,c,rfl⟩
def fQ.apart{g T:Nat}{xs:bJ}(h:fQ w P k b n f)(ap:Own w g T xs):g≠b:=by
 rintro rfl;have⟨o,a,c⟩:=h.aaP;obtain⟨d,ap,_⟩:=ap;rw[a]at ap;cases ap;simp[Obj.isCells]at c
def fQ.look{t e:TypeId}(h:fQ w P k b n f)(K:Keyed P k)(i:P.underlying t=some (.map k e)){z:ai}(j:(zeroValue e).run P w=.ok z w){a:ai}{g:Lit}(c:keyOf P k a=some g): (Instr.lookup t (.map (some b)) a false).run P w=.ok ((f a).getD z) w:=by
 obtain⟨D,l,m⟩:=h;have⟨v,ps,o,d⟩:=l.lookup K i j (zd:=.held z) (zp:=[]) rfl c;rw[m a g c z]at d;simp only[EB,fK,Prod.mk.injEq,DataW.held.injEq]at d;rw[o,d.1]
def fQ.put{t e:TypeId}(h:fQ w P k b n f)(K:Keyed P k)(q:P.underlying t=some (.map k e))(r:n<maxLen){key:ai}{m:Lit}(a:keyOf P k key=some m)(val:ai): ∃w',(Instr.mapUpdate t (.map (some b)) key val).run P w=.ok () w'/\fQ w' P k b (n+1) (putAt f key val)/\Fr (λk=>k=b) w w':=by
 obtain⟨D,o,s⟩:=h;have⟨w',u,v,g⟩:=o.update K q r a (val:=val) (d:=.held val) (ps:=[]) rfl;refine⟨w',u,⟨_,v,λx p j z=> ?_⟩,?_⟩
 .by_cases c:x=key
  .subst c;rw[a]at j;cases j;rw[AF,Maps.atKey_put_same o.isMap (K.key a)];rfl
  .have l:p≠m:=λe=>(by subst e;exact c (K.inj j a));rw[AG _ _ c,Maps.atKey_put_other l];exact s x p j z
 .exact⟨g.os,g.tape,g.output,g.size,λi af y=>g.block i af (λe=>y (by cases e;rfl))⟩
end
end Go.Proofs.YtlcdgbhigfgehabGreatDoor
namespace Go.Proofs.YtlcdgbhigfgehabGreatDoor
open Go.RowKit

def vB(n:Int):IntKind.i64.wrap n=if n % 18446744073709551616>=9223372036854775808 then n % 18446744073709551616 - 18446744073709551616 else n % 18446744073709551616:=by simp[IntKind.wrap,IntKind.bits,IntKind.signed]
def aaQ(m:Int)(c:Nat)(a:c<256):Go.bits .or .i64 (IntKind.i64.wrap (IntKind.i64.wrap m*256)) (c:Int)=IntKind.i64.wrap (m*256+c):=by
 have b:IntKind.i64.wrap (IntKind.i64.wrap m*256)=IntKind.i64.wrap (m*256):=by
  rw[vB m];split<;> (rw[vB,vB];omega)
 rw[b];unfold Go.bits;show IntKind.i64.wrap (((BitVec.ofInt 64 (IntKind.i64.wrap (m*256))|||BitVec.ofInt 64 (c:Int)).toNat:Nat):Int)=_
 rw[BitVec.toNat_or,BitVec.toNat_ofInt,BitVec.toNat_ofInt];have ay:((IntKind.i64.wrap (m*256)) % ((2 ^ 64:Nat):Int)).toNat=256* ((m % 72057594037927936).toNat):=by
  rw[vB];have:((2 ^ 64:Nat):Int)=18446744073709551616:=aE;rw[this];split<;>omega
 have aF:((c:Int) % ((2 ^ 64:Nat):Int)).toNat=c:=by
  have:((2 ^ 64:Nat):Int)=18446744073709551616:=aE;rw[this];omega
 rw[ay,aF,<-Nat.two_pow_add_eq_or_of_lt (i:=8) a];rw[vB,vB];have:((2 ^ 8* (m % 72057594037927936).toNat+c:Nat):Int) % 18446744073709551616=(m*256+c) % 18446744073709551616:=U;rw[this]
structure g2(w:ab)(kp aO bd bc:Nat)(s:ar)(p:Nat)(F:ai):Prop where
 own:Own w kp 224 [.slice (some ⟨aO,bd,none⟩) s.length bc,.int .i64 p]
 bytes:bH w (.slice (some ⟨aO,bd,none⟩) s.length bc) s
 le:p<=s.length
 form:w.cell? ⟨1,0,none⟩=some F
 lay:1<kp
def g2.keep{w w1:ab}{S:Nat->Prop}{a aO bd bc:Nat}{s:ar}{p:Nat}{F:ai}(h:g2 w a aO bd bc s p F)(k:Fr S w w1)(d:¬S a)(e:¬S aO)(f:¬S 1):g2 w1 a aO bd bc s p F:=by refine⟨h.own.keep k d,h.bytes.keep k (λb c=>by simp[Value.ownBlock]at c;subst c;exact e),h.le,k.cell h.form f,h.lay⟩
def g2.apart{w:ab}{a aO bd bc:Nat}{s:ar}{p:Nat}{F:ai}(h:g2 w a aO bd bc s p F):aO≠a:=by
 intro e;exact h.bytes.apart h.own aE (by rw[e];rfl)
def g2.at_{w:ab}{a aO bd bc:Nat}{s:ar}{p:Nat}{F:ai}(h:g2 w a aO bd bc s p F)(q:Nat)(f:q<=s.length)(x:Int)(g:x=q): g2 (w.setCell ⟨a,1,none⟩ (.int .i64 x)) a aO bd bc s q F/\Fr (λk=>k=a) w (w.setCell ⟨a,1,none⟩ (.int .i64 x)):=by
 subst g;have c:Fr (λk=>k=a) w (w.setCell ⟨a,1,none⟩ (.int .i64 q)):=(Fr.refl _ _).setCell _ _ (λ_=>rfl);refine⟨⟨h.own.set 1 _,h.bytes.keep c (λb d=>by simp[Value.ownBlock]at d;subst d;exact h.apart),f,c.cell h.form (λe=> ?_),h.lay⟩,c⟩;have:=h.lay;change 1=a at e;omega
def EE(v:ai)(w:ab):Calls aj.prog 116 #[v,.bool true] w λe w'=>e=.returned (.tuple #[])/\w=w':=by
 go_enter aj.func116,Tryz.ntmps116;go_wp2;go_end0
 exact⟨rfl,rfl⟩
def EF(w:ab)(f aO bd bc:Nat)(s:ar)(p n:Nat)(F:ai)(h:g2 w f aO bd bc s p F)(K:n<=1000)(C:p+n<=s.length): Calls aj.prog 117 #[.pointer (some ⟨f,0,none⟩),.int .i64 n] w λe w'=>∃j,e=.returned (.slice (some ⟨aO,j,none⟩) n n)/\bH w' (.slice (some ⟨aO,j,none⟩) n n) ((s.drop p).take n)/\g2 w' f aO bd bc s (p+n) F/\Fr (λk=>k=f) w w':=by
 have x0:=h.own.cell (i:=0) rfl;have x1:=h.own.cell (i:=1) rfl;have D:=h.own.free 1 ag;have E:=h.le;have r:=h.bytes.len;have l:IntKind.i64.wrap ((s.length:Int) - p)=(s.length:Int) - p:=IntWalk.i64_in _ (by unfold maxLen at r;omega);have m:(n:Int)<=(s.length:Int) - p:=U;have G:IntKind.i64.wrap ((p:Int)+n)=(p:Int)+n:=IntWalk.i64_in _ (by unfold maxLen at r;omega);have o:decide ((n:Int)<=(s.length:Int) - p)=true:=(by simpa using m);have H:=Lib.hid h;clear h;go_enter aj.func117,Tryz.ntmps117;go_wp2_with fail;go_quiet ((go_at_call 116;exact Calls.quiet_of_same ((EE _ _).mono (λ_ _ h=>⟨h.1,h.2.symm⟩))))
 go_wp2_with fail;have hd:Fr aD w (w.drewN nq):=(Fr.refl _ _).drewN nq;have⟨g,z⟩:=(H.out.keep hd id id id).at_ (p+n) C ((p:Int)+n) U;have d:Fr (λk=>k=f) w ((w.drewN nq).setCell ⟨f,1,none⟩ (.int .i64 ((p:Int)+n))):=(hd.mono (λ_ h _=>h.elim)).step z (λ_ h _=>h);clear x0 x1 D z hd;generalize(w.drewN nq).setCell ⟨f,1,none⟩ (.int .i64 ((p:Int)+n))=L at *;have x0:=g.own.cell (i:=0) rfl;have x1:=g.own.cell (i:=1) rfl;have b:=g.bytes.part p (p+n) n U U U (by unfold maxLen at r⊢;omega);rw[show p+n - p=n by omega]at b;have t:=g.bytes.shape;obtain⟨a,c,A,aa,u⟩:=t;simp only[eG]at A;obtain⟨-,-,rfl⟩:=A;have J:=Lib.hid b;have v:=Lib.hid g;have B:=Lib.hid d;clear b g d l m o;unfold maxLen at u r;have w1:IntKind.i64.wrap ((p:Int)+n - n)=(p:Int):=(by rw[show(p:Int)+n - n=p by omega];exact IntWalk.i64_in _ U);have M:(0:Int)<=(p:Int):=U;have N:(p:Int)<=(p:Int)+n:=U;have O:(p:Int)+n<=(s.length:Int):=U;have P:(p:Int)+n<=(bc:Int):=U;have Q:((p:Int)+n).toNat=p+n:=U;have R:(p:Int)+n - n=p:=U;have S:p+n - p=n:=U;by_cases x:n=0
 .subst x;have q:=v.out.bytes.part 0 0 0 U U U eH;have y:=Lib.hid q;clear q;go_quiet (fail)
  go_wp2_with fail;go_ret;exact⟨bd,rfl,by simpa using y.out.br ((Fr.refl _ _).drewN nq),v.out.keep ((Fr.refl aD _).drewN _) id id id,B.out.drewN _⟩
 go_quiet (fail)
 go_wp2_with fail;go_ret;exact⟨bd+p,rfl,J.out.br ((Fr.refl _ _).drewN _),v.out.keep ((Fr.refl aD _).drewN _) id id id,B.out.drewN _⟩
def EG(w:ab)(l aO bd bc:Nat)(s:ar)(p n:Nat)(c:Int)(B:c=n)(F:ai)(h:g2 w l aO bd bc s p F)(C:n<=1000)(D:p+n<=s.length): Calls aj.prog 118 #[.pointer (some ⟨l,0,none⟩),.int .i64 c] w λe w'=>e=.returned (.int .i64 (IntKind.i64.wrap (numOf ((s.drop p).take n))))/\g2 w' l aO bd bc s (p+n) F/\Fr (λk=>k=l) w w':=by
 subst B;have H:=Lib.hid (EF w l aO bd bc s p n F h C D);have f:((s.drop p).take n).length=n:=a5;clear h;go_enter aj.func118,Tryz.ntmps118;go_wp2_with fail;refine H.out.mono ?_;rintro e w'⟨u,rfl,af,y,z⟩;have E:=Lib.hid y;have G:=Lib.hid z;obtain⟨a,g⟩:∃a,(s.drop p).take n=a:=⟨_,rfl⟩;rw[g]at af f;have m:=Lib.hid g;clear g;have r:=Lib.hid f;have d:∀k,k<n->w'.cell? ⟨aO,u+k,none⟩=some (.int .u8 (a.getD k 0).toNat):=by
  intro k hk;rcases af.cases with⟨t,-⟩|⟨b,A,cap,t,-,-,aa⟩
  .simp at t
  .simp only[eG,fK,qZ,kl]at t;obtain⟨⟨rfl,rfl⟩,-,-⟩:=t;exact aa k U
 have J:=Lib.hid d;clear y z af d f;go_wp2_with fail;go_loop [5,12] (λx i=>∃k:Nat,k<=n/\i=.int .i64 k/\x=.int .i64 (IntKind.i64.wrap (numOf (a.take k)))) (λ_ i=>n - (intOf i).toNat)
 case atStart=>exact⟨0,dl _,rfl,rfl⟩
 case round=>
  obtain⟨k,hk,rfl,rfl⟩:=hrel;by_cases j:k<n
  .have d:=J.out k j;have o:Go.bits .or .i64 (IntKind.i64.wrap (IntKind.i64.wrap (numOf (a.take k))*256)) ((a.getD k 0).toNat:Int)=IntKind.i64.wrap (numOf (a.take (k+1))):=by
    rw[aaQ _ _ (by have:=(a.getD k 0).toNat_lt;omega),show a.getD k 0=a[k]'(by rw[r.out];exact j)from by rw[pL,fb (by rw[r.out];exact j)];rfl,Ed _ _ (by rw[r.out];exact j),Z5];congr 1;simp;omega
   have v:=Lib.hid o;clear o;go_wp2;rw[ZU];have q:Go.bits .or .i64 (wrap64 (wrap64 (numOf (a.take k):Int)*256)) ((a.getD k 0).toNat:Int)=IntKind.i64.wrap (numOf (a.take (k+1))):=(by rw[<-IntWalk.i64_left,<-IntWalk.i64_left];exact v.out);exact⟨⟨k+1,U,by go_num,hq (Value.int .i64) q⟩,by simp[intOf];omega⟩
  .obtain rfl:k=n:=U;go_wp2;go_ret;exact⟨by rw[m.out,iG (by rw[r.out];omega)];rfl,E.out,G.out⟩
def tG(s:dI)(w:ab)(M:s.size<=1000000): Calls aj.prog 74 #[.string s] w λe w'=>e=.returned (.bool (isName s.data.toList))/\w=w':=by
 have d:s.data.toList.length=s.size:=ag;have g:s.toList=s.data.toList:=ByteArray.toList_eq s;by_cases N:s.size=0
 .have H:s.toList.isEmpty=true:=(by rw[g,List.isEmpty_iff];exact tv.1 U);have p:isName s.data.toList=false:=(by unfold isName;rw[d];simp;omega);have z:=Lib.hid p;clear p g d;go_enter aj.func74,Tryz.ntmps74;go_wp2_with fail;go_ret;exact⟨by rw[z.out];rfl,rfl⟩
 have H:s.toList.isEmpty=false:=by
  rw[g];cases h:s.data.toList with
  |nil=>rw[h]at d;simp at d;omega
  |cons a l=>rfl
 by_cases aa:12<s.size
 .have p:isName s.data.toList=false:=(by unfold isName;rw[d];simp;omega);have z:=Lib.hid p;clear p g d;go_enter aj.func74,Tryz.ntmps74;go_wp2_with fail;go_ret;exact⟨by rw[z.out];rfl,rfl⟩
 have G:¬(12:Int)< (s.size:Int):=U;have o:=Lib.hid d;clear g d;go_enter aj.func74,Tryz.ntmps74;go_wp2_with fail;go_loop [14] (λi=>∃k:Nat,k<=s.size/\i=.int .i64 k/\∀j,j<k->nu (s.data.toList.getD j 0)=true) (λi=>s.size - (intOf i).toNat)
 case atStart=>exact⟨0,dl _,rfl,λj h=>U⟩
 case round=>
  obtain⟨k,hk,rfl,q⟩:=hrel;have r:=Lib.hid q;clear q;by_cases A:k<s.size
  .obtain⟨c,J⟩:∃c,s[k]=c:=⟨_,rfl⟩;have u:s.data.toList.getD k 0=c:=(by rw[<-J,pL,fb (by rw[o.out];exact A)];rfl);have m:nu c=true->∀j,j<k+1->nu (s.data.toList.getD j 0)=true:=λh j D=>by
    by_cases E:j=k
    .subst E;rw[u];exact h
    .exact r.out j U
   have t:nu c=false->isName s.data.toList=false:=λh=>by
    have:s.data.toList.all nu=false:=by
     rw[List.all_eq_false];exact⟨s.data.toList.getD k 0,by rw[pL,fb (by rw[o.out];exact A)];exact dy _,by rw[u,h];simp⟩
    unfold isName;rw[this];simp
   have b:=Lib.hid m;have n:=Lib.hid t;have K:=c.toNat_lt;clear m t u;have v:c.toNat<46\/c.toNat=46\/c.toNat=47\/(48<=c.toNat/\c.toNat<=57)\/(57<c.toNat/\c.toNat<97)\/(97<=c.toNat/\c.toNat<=122)\/122<c.toNat:=U;rcases v with f|f|f|f|f|f|f
   .have d0:¬(97:Int)<=(c.toNat:Int):=U;have y:¬(48:Int)<=(c.toNat:Int):=U;have B:((c.toNat:Int)==46)=false:=(by rw[oe];omega);have F:((c.toNat:Int)==47)=false:=(by rw[oe];omega);have C:=Lib.hid (n.out (by simp[nu];omega));clear f;go_wp2_with fail;go_ret;exact⟨by rw[C.out];rfl,rfl⟩
   .have d0:¬(97:Int)<=(c.toNat:Int):=U;have y:¬(48:Int)<=(c.toNat:Int):=U;have B:((c.toNat:Int)==46)=true:=(by rw[ho];omega);have dV:=Lib.hid (b.out (by simp[nu];omega));clear f;go_wp2_with fail;exact⟨⟨k+1,U,by go_num,dV.out⟩,by simp[intOf];omega⟩
   .have d0:¬(97:Int)<=(c.toNat:Int):=U;have y:¬(48:Int)<=(c.toNat:Int):=U;have B:((c.toNat:Int)==46)=false:=(by rw[oe];omega);have F:((c.toNat:Int)==47)=true:=(by rw[ho];omega);have dV:=Lib.hid (b.out (by simp[nu];omega));clear f;go_wp2_with fail;exact⟨⟨k+1,U,by go_num,dV.out⟩,by simp[intOf];omega⟩
   .have d0:¬(97:Int)<=(c.toNat:Int):=U;have y:(48:Int)<=(c.toNat:Int):=U;have B:(c.toNat:Int)<=57:=U;have dV:=Lib.hid (b.out (by simp[nu];omega));clear f;go_wp2_with fail;exact⟨⟨k+1,U,by go_num,dV.out⟩,by simp[intOf];omega⟩
   .have d0:¬(97:Int)<=(c.toNat:Int):=U;have y:(48:Int)<=(c.toNat:Int):=U;have B:¬(c.toNat:Int)<=57:=U;have F:((c.toNat:Int)==46)=false:=(by rw[oe];omega);have L:((c.toNat:Int)==47)=false:=(by rw[oe];omega);have C:=Lib.hid (n.out (by simp[nu];omega));clear f;go_wp2_with fail;go_ret;exact⟨by rw[C.out];rfl,rfl⟩
   .have d0:(97:Int)<=(c.toNat:Int):=U;have y:(c.toNat:Int)<=122:=U;have dV:=Lib.hid (b.out (by simp[nu];omega));clear f;go_wp2_with fail;exact⟨⟨k+1,U,by go_num,dV.out⟩,by simp[intOf];omega⟩
   .have d0:(97:Int)<=(c.toNat:Int):=U;have y:¬(c.toNat:Int)<=122:=U;have B:(48:Int)<=(c.toNat:Int):=U;have F:¬(c.toNat:Int)<=57:=U;have L:((c.toNat:Int)==46)=false:=(by rw[oe];omega);have O:((c.toNat:Int)==47)=false:=(by rw[oe];omega);have C:=Lib.hid (n.out (by simp[nu];omega));clear f;go_wp2_with fail;go_ret;exact⟨by rw[C.out];rfl,rfl⟩
  .obtain rfl:k=s.size:=U;have p:isName s.data.toList=true:=by
    unfold isName;have:s.data.toList.all nu=true:=by
     rw[pT];intro x f;obtain⟨j,D,rfl⟩:=AH f;have:=r.out j (by rw[<-o.out];exact D);rwa[pL,fb D]at this
    rw[this,o.out];simp;omega
   have z:=Lib.hid p;clear p;go_wp2_with fail;go_ret;exact⟨by rw[z.out];rfl,rfl⟩
end Go.Proofs.YtlcdgbhigfgehabGreatDoor
namespace Go.Proofs.YtlcdgbhigfgehabGreatDoor
open Go.RowKit

def q0(v:ai)(w:ab)(b:Bool)(a:b=true):Calls aj.prog 116 #[v,.bool b] w λe w'=>e=.returned (.tuple #[])/\w=w':=by subst a;exact EE v w
def o0(w:ab)(a aO bd bc:Nat)(s:ar)(p n:Nat)(c:Int)(b:c=n)(F:ai)(h:g2 w a aO bd bc s p F)(i:n<=2)(d:p+n<=s.length): Calls aj.prog 118 #[.pointer (some ⟨a,0,none⟩),.int .i64 c] w λe w'=>e=.returned (.int .i64 (numOf ((s.drop p).take n)))/\g2 w' a aO bd bc s (p+n) F/\Fr (λk=>k=a) w w':=by
 refine(EG w a aO bd bc s p n c b F h U d).mono ?_;rintro e w'⟨rfl,f⟩;have:=At ((s.drop p).take n);have g:((s.drop p).take n).length=n:=a5;rw[g]at this;have j:256 ^ n<=65536:=by
  have:n=0\/n=1\/n=2:=U;rcases this with rfl|rfl|rfl<;>decide
 exact⟨by rw[IntWalk.i64_in _ U],f⟩
def ol{n p:Nat}{s:ar}(h:p+n<=s.length):eE n (s.drop p)=some (numOf ((s.drop p).take n),s.drop (p+n)):=by
 unfold eE;rw[aC a5,xO]
def om{n p:Nat}{s:ar}(h:s.length<p+n)(a:p<=s.length):eE n (s.drop p)=none:=by
 unfold eE;rw[aV a5]
def Rt{n p:Nat}{s:ar}(h:p+n<=s.length):takeN n (s.drop p)=some ((s.drop p).take n,s.drop (p+n)):=by
 unfold takeN;rw[aC a5,xO]
def Ru{n p:Nat}{s:ar}(h:s.length<p+n)(a:p<=s.length):takeN n (s.drop p)=none:=by
 unfold takeN;rw[aV a5]
def vC{p:Nat}{s:ar}(h:p+1<=s.length):numOf ((s.drop p).take 1)<256:=by
 have:=At ((s.drop p).take 1);have a:((s.drop p).take 1).length=1:=a5;rw[a]at this;omega
def EH{p:Nat}{s:ar}(h:p+2<=s.length):numOf ((s.drop p).take 2)<65536:=by
 have:=At ((s.drop p).take 2);have a:((s.drop p).take 2).length=2:=a5;rw[a]at this;omega
def Jg{p:Nat}{s:ar}(h:p+8<=s.length):numOf ((s.drop p).take 8)<18446744073709551616:=by
 have:=At ((s.drop p).take 8);have a:((s.drop p).take 8).length=8:=a5;rw[a]at this;omega
def aaR(a b:dI)(w:ab)(t:TypeId):(binOp .gtr t (.string a) (.string b)).run aj.prog w=.ok (.bool (behind a.data.toList b.data.toList)) w:=by simp[binOp,Op.stringOp,behind,ByteArray.toList_eq]
def Jh(n:Nat)(h:n<18446744073709551616):IntKind.u64.wrap (IntKind.i64.wrap (n:Int))=(n:Int):=by
 have a:∀n:Int,IntKind.u64.wrap n=n % 18446744073709551616:=λn=>(by simp[IntKind.wrap,IntKind.bits,IntKind.signed]);rw[a,vB];split<;>omega
def aaS(w:ab)(kp aO bd bc:Nat)(s:ar)(F:ai)(o:Option (df×ar))(e:Ending)(w':ab):Prop:=Fr (λk=>k=kp) w w'/\match o with
 |none=>e=.panicked [{v:=F,recovered:=false}]
 |some (x,r)=>∃hr,e=.returned (.agg #[.string ⟨x.name.toArray⟩,.int .i64 x.size,.int .u64 x.e9])/\r=s.drop hr/\g2 w' kp aO bd bc s hr F
def Rv(w:ab)(J aO bd bc:Nat)(s:ar)(p:Nat)(T:TypeId)(u:ai)(h:g2 w J aO bd bc s p (.iface T u))(a:dI)(first:Bool)(pU:eN a.data.toList first (s.drop p)≠none): Calls aj.prog 119 #[.pointer (some ⟨J,0,none⟩),.string a,.bool first] w (aaS w J aO bd bc s (.iface T u) (eN a.data.toList first (s.drop p))):=by
 have hle:=h.le;have tH:=h.own.lt;have B:=Lib.hid h;have cc:Fr aD w ((w.alloc (.cells #[.string ⟨#[]⟩,.int .i64 0,.int .u64 0] 152)).alloc (.cells #[.string ⟨#[]⟩,.int .i64 0,.int .u64 0] 152)):=((Fr.refl _ _).alloc _).alloc _;have jP:Own ((w.alloc (.cells #[.string ⟨#[]⟩,.int .i64 0,.int .u64 0] 152)).alloc (.cells #[.string ⟨#[]⟩,.int .i64 0,.int .u64 0] 152)) (w.heap.size+1) 152 [.string ⟨#[]⟩,.int .i64 0,.int .u64 0]:=by
  have:=Own.alloc (w.alloc (.cells #[.string ⟨#[]⟩,.int .i64 0,.int .u64 0] 152)) #[.string ⟨#[]⟩,.int .i64 0,.int .u64 0] 152;simpa using this
 have Rw:Own ((w.alloc (.cells #[.string ⟨#[]⟩,.int .i64 0,.int .u64 0] 152)).alloc (.cells #[.string ⟨#[]⟩,.int .i64 0,.int .u64 0] 152)) w.heap.size 152 [.string ⟨#[]⟩,.int .i64 0,.int .u64 0]:=(Own.alloc w #[.string ⟨#[]⟩,.int .i64 0,.int .u64 0] 152).keep ((Fr.refl aD _).alloc _) id;have Rx:=Lib.hid Rw;clear Rw;have nB:=Lib.hid cc;have gy:=Lib.hid jP;clear h cc jP;have f:=Lib.hid pU;clear pU;by_cases a1:s.length<p+1
 .exact absurd (show eN a.data.toList first (s.drop p)=none by unfold eN;rw[om U hle]) f.out
 replace a1:p+1<=s.length:=U;have hk:=vC a1;have ay:=ol a1;obtain⟨k,O⟩:∃k,numOf ((s.drop p).take 1)=k:=⟨_,rfl⟩;have AI:=Lib.hid O;rw[O]at hk ay;have Ji:=Lib.hid ay;clear ay O;by_cases g3:s.length<p+1+k
 .exact absurd (show eN a.data.toList first (s.drop p)=none by unfold eN;rw[Ji.out];simp only;rw[Ru U U]) f.out
 replace g3:p+1+k<=s.length:=U;have aF:=Rt g3;obtain⟨y,Q⟩:∃y,(s.drop (p+1)).take k=y:=⟨_,rfl⟩;have AJ:=Lib.hid Q;rw[Q]at aF;have xY:=Lib.hid aF;clear aF Q;go_enter aj.func119,Tryz.ntmps119;go_wp2_with fail;go_at_call 118;refine(o0 _ J aO bd bc s p 1 _ rfl _ (B.out.keep nB.out id id id) U a1).mono ?_;rintro e w1⟨rfl,rV,fL⟩;rw[AI.out];go_wp2_with fail;refine(EF _ J aO bd bc s (p+1) k _ rV U g3).mono ?_;rintro e w2⟨off,rfl,K,AK,tI⟩;rw[AJ.out]at K;have q1:=Lib.hid (fL.step tI (λ_ h _=>h));have AL:=Lib.hid AK;have z:=gy.out.keep q1.out (λh=>U);have xZ:=Lib.hid z;have eY:=z.cell (i:=0) rfl;have c1:=z.cell (i:=1) rfl;have c2:=z.cell (i:=2) rfl;have f0:=z.free 0 ag;have nC:=xT (P:=aj.prog) w2 25 9 5 _ _ aj.underlying25 aj.underlying5 aj.underlying9 K;have rW:y.length=k:=(by rw[<-AJ.out];simp;omega);obtain⟨n,L⟩:∃n:dI,n=⟨y.toArray⟩:=⟨_,rfl⟩;rw[<-L]at nC;have x:n.data.toList=y:=(by rw[L]);have at2:n.size<=255:=by
  have:n.data.toList.length=n.size:=ag;rw[x]at this;omega
 have M:=Lib.hid (λW=>tG n W U);rw[x]at M;have Ry:=Lib.hid L;have aaT:=Lib.hid x;have R:Fr (λk=>k=w.heap.size+1) w2 (w2.setCell ⟨w.heap.size+1,0,none⟩ (.string n)):=(Fr.refl _ _).setCell _ _ (λ_=>rfl);have x2:=Lib.hid (AL.out.keep R U (by have:=K.ko aO rfl;have:=B.out.bytes.ko aO rfl;omega) (by have:=B.out.lay;omega));have A:=Lib.hid (xZ.out.set 0 (.string n));have nD:=Lib.hid (show Fr (λk=>k=J\/k=w.heap.size+1) ((w.alloc (.cells #[.string ⟨#[]⟩,.int .i64 0,.int .u64 0] 152)).alloc (.cells #[.string ⟨#[]⟩,.int .i64 0,.int .u64 0] 152)) (w2.setCell ⟨w.heap.size+1,0,none⟩ (.string n))from(q1.out.mono (λ_ h _=>.inl h)).step R (λ_ h _=>.inr h));clear rV fL AK tI K z L x R;go_wp2_with fail;have AM:=A.out.cell (i:=0) rfl;have vD:=A.out.cell (i:=1) rfl;have AN:=A.out.cell (i:=2) rfl;have Rz:=A.out.free 1 ag;clear eY c1 c2 f0 nC;generalize w2.setCell ⟨w.heap.size+1,0,none⟩ (.string n)=w3 at *;cases hN:isName y with
 |false=>exact absurd (show eN a.data.toList first (s.drop p)=none by unfold eN;rw[Ji.out];simp only;rw[xY.out];simp only;rw[hN];rfl) f.out
 |true=>
  rw[hN]at M;have RA:eN a.data.toList first (s.drop p)=(if(first||behind y a.data.toList)=false then none else
    match eE 2 (s.drop (p+1+k))with
    |none=>none
    |some (aK,r)=>if 300<aK then none else match eE 8 r with|none=>none|some (d,r)=>some (⟨y,aK,d⟩,r)):=by
   unfold eN;rw[Ji.out];simp only;rw[xY.out];simp only;rw[hN,Bool.true_and];split
   .rfl
   .rfl
  have nE:=Lib.hid RA;clear RA;cases first with
  |true=>
   go_wp2_with fail;refine(M.out w3).mono ?_;rintro e w'⟨rfl,rfl⟩;have N:=Lib.hid (show eN a.data.toList true (s.drop p)=(match eE 2 (s.drop (p+1+k))with
     |none=>none
     |some (aK,r)=>if 300<aK then none else match eE 8 r with|none=>none|some (d,r)=>some (⟨y,aK,d⟩,r)) by rw[nE.out];simp)
   go_wp2_with fail;go_at_call 116;refine(EE _ _).mono ?_;rintro e w'⟨rfl,rfl⟩;by_cases C:s.length<p+1+k+2
   .exact absurd (show eN a.data.toList true (s.drop p)=none by rw[N.out,om C U]) f.out
   replace C:p+1+k+2<=s.length:=U;have dw:=EH C;have S:=ol C;obtain⟨aK,o⟩:∃aK,numOf ((s.drop (p+1+k)).take 2)=aK:=⟨_,rfl⟩;have az:=Lib.hid o;rw[o]at dw S;have V:=Lib.hid S;clear S o;go_wp2_with fail;go_at_call 118;refine(o0 _ J aO bd bc s (p+1+k) 2 _ rfl _ x2.out U C).mono ?_;rintro e X⟨rfl,D,q⟩;rw[az.out];have c:=Lib.hid (A.out.keep q U);have d0:=c.out.cell (i:=0) rfl;have d1:=c.out.cell (i:=1) rfl;have d2:=c.out.cell (i:=2) rfl;have gb:=c.out.free 1 ag;have t:Fr (λk=>k=w.heap.size+1) X (X.setCell ⟨w.heap.size+1,1,none⟩ (.int .i64 aK)):=(Fr.refl _ _).setCell _ _ (λ_=>rfl);have Y:=Lib.hid (D.keep t U (by have:=B.out.bytes.ko aO rfl;omega) (by have:=B.out.lay;omega));have g:=Lib.hid (c.out.set 1 (.int .i64 aK));have E:=Lib.hid ((nD.out.step q (λ_ h _=>.inl h)).step t (λ_ h _=>.inr h));clear D q t AM vD AN Rz;go_wp2_with fail;have g0:=g.out.cell (i:=0) rfl;have g1:=g.out.cell (i:=1) rfl;have fC:=g.out.cell (i:=2) rfl;clear d0 d1 d2 gb;generalize X.setCell ⟨w.heap.size+1,1,none⟩ (.int .i64 aK)=cU at *;by_cases Z:300<aK
   .exact absurd (show eN a.data.toList true (s.drop p)=none by rw[N.out,V.out];simp only;rw[aV Z]) f.out
   go_wp2_with fail;go_at_call 116;refine(q0 _ _ _ (vE U)).mono ?_;rintro e w'⟨rfl,rfl⟩;by_cases F:s.length<p+1+k+2+8
   .exact absurd (show eN a.data.toList true (s.drop p)=none by rw[N.out,V.out];simp only;rw[aC Z,om F U]) f.out
   replace F:p+1+k+2+8<=s.length:=U;have hd:=Jg F;have h9:=ol F;obtain⟨m,v⟩:∃m,numOf ((s.drop (p+1+k+2)).take 8)=m:=⟨_,rfl⟩;have oo:=Lib.hid v;rw[v]at hd h9;have o1:=Lib.hid (show eN a.data.toList true (s.drop p)=some (⟨y,aK,m⟩,s.drop (p+1+k+2+8)) by rw[N.out,V.out];simp only;rw[aC Z,h9]);clear h9 v;go_wp2_with fail;go_at_call 118;refine(EG _ J aO bd bc s (p+1+k+2) 8 _ rfl _ Y.out U F).mono ?_;rintro e cI⟨rfl,G,j⟩;rw[oo.out];have l:=Lib.hid (g.out.keep j U);have aaU:=l.out.cell (i:=0) rfl;have k1:=l.out.cell (i:=1) rfl;have gd:=l.out.cell (i:=2) rfl;have kf:=l.out.free 2 ag;have RB:=Jh m hd;have b:=Lib.hid (Rx.out.keep (E.out.step j (λ_ h _=>.inl h)) U);have r0:=b.out.cell (i:=0) rfl;have r1:=b.out.cell (i:=1) rfl;have r2:=b.out.cell (i:=2) rfl;have aaV:=b.out.free 0 ag;have aaW:=b.out.free 1 ag;have aaX:=b.out.free 2 ag;have H:=Lib.hid G;have l3:=Lib.hid j;clear G j g0 g1 fC;go_wp2_with fail;have aa:Fr (λk=>k=w.heap.size\/k=w.heap.size+1) cI ((((cI.setCell ⟨w.heap.size+1,2,none⟩ (.int .u64 m)).setCell ⟨w.heap.size,0,none⟩ (.string n)).setCell ⟨w.heap.size,1,none⟩ (.int .i64 aK)).setCell ⟨w.heap.size,2,none⟩ (.int .u64 m)):=((((Fr.refl _ _).setCell _ _ (λ_=>.inr rfl)).setCell _ _ (λ_=>.inl rfl)).setCell _ _ (λ_=>.inl rfl)).setCell _ _ (λ_=>.inl rfl);have x3:=(((b.out.keep ((Fr.refl (λk=>k=w.heap.size+1) cI).setCell ⟨w.heap.size+1,2,none⟩ (.int .u64 m) (λ_=>rfl)) U).set 0 (.string n)).set 1 (.int .i64 aK)).set 2 (.int .u64 m);obtain⟨Jj,Jk,-⟩:=x3;refine bodyPost_ret (results_cell_row (P:=aj.prog) rfl _ _ w.heap.size _ _ Jj _ rfl Jk aj.underlying152 rfl ah) rfl ?_;rw[o1.out];have aaY:1<w.heap.size:=(by have:=B.out.lay;omega);have aaZ:aO<w.heap.size:=B.out.bytes.ko aO rfl;refine⟨(((nB.out.mono (λ_ h _=>h.elim)).step (E.out.step l3.out (λ_ h _=>.inl h)) (λk h bO=>by rcases h with h|h;exact h;omega)).step aa (λk h bO=>by rcases h with h|h<;>omega)),p+1+k+2+8,?_,rfl,H.out.keep aa U U U⟩;rw[<-Ry.out];rfl
  |false=>
   have EI:=aaR n a w3 9;rw[aaT.out]at EI;cases c8:behind y a.data.toList with
   |false=>exact absurd (show eN a.data.toList false (s.drop p)=none by rw[nE.out,c8];rfl) f.out
   |true=>
    rw[c8]at EI;have Jl:=nE.out;rw[c8]at Jl;have N:=Lib.hid (show eN a.data.toList false (s.drop p)=(match eE 2 (s.drop (p+1+k))with
      |none=>none
      |some (aK,r)=>if 300<aK then none else match eE 8 r with|none=>none|some (d,r)=>some (⟨y,aK,d⟩,r)) by rw[Jl];simp)
    clear Jl;go_wp2_with fail;refine(M.out w3).mono ?_;rintro e w'⟨rfl,rfl⟩;go_wp2_with fail;go_at_call 116;refine(EE _ _).mono ?_;rintro e w'⟨rfl,rfl⟩;by_cases C:s.length<p+1+k+2
    .exact absurd (show eN a.data.toList false (s.drop p)=none by rw[N.out,om C U]) f.out
    replace C:p+1+k+2<=s.length:=U;have dw:=EH C;have S:=ol C;obtain⟨aK,o⟩:∃aK,numOf ((s.drop (p+1+k)).take 2)=aK:=⟨_,rfl⟩;have az:=Lib.hid o;rw[o]at dw S;have V:=Lib.hid S;clear S o;go_wp2_with fail;go_at_call 118;refine(o0 _ J aO bd bc s (p+1+k) 2 _ rfl _ x2.out U C).mono ?_;rintro e X⟨rfl,D,q⟩;rw[az.out];have c:=Lib.hid (A.out.keep q U);have d0:=c.out.cell (i:=0) rfl;have d1:=c.out.cell (i:=1) rfl;have d2:=c.out.cell (i:=2) rfl;have gb:=c.out.free 1 ag;have t:Fr (λk=>k=w.heap.size+1) X (X.setCell ⟨w.heap.size+1,1,none⟩ (.int .i64 aK)):=(Fr.refl _ _).setCell _ _ (λ_=>rfl);have Y:=Lib.hid (D.keep t U (by have:=B.out.bytes.ko aO rfl;omega) (by have:=B.out.lay;omega));have g:=Lib.hid (c.out.set 1 (.int .i64 aK));have E:=Lib.hid ((nD.out.step q (λ_ h _=>.inl h)).step t (λ_ h _=>.inr h));clear D q t AM vD AN Rz;go_wp2_with fail;have g0:=g.out.cell (i:=0) rfl;have g1:=g.out.cell (i:=1) rfl;have fC:=g.out.cell (i:=2) rfl;clear d0 d1 d2 gb;generalize X.setCell ⟨w.heap.size+1,1,none⟩ (.int .i64 aK)=cU at *;by_cases Z:300<aK
    .exact absurd (show eN a.data.toList false (s.drop p)=none by rw[N.out,V.out];simp only;rw[aV Z]) f.out
    go_wp2_with fail;go_at_call 116;refine(q0 _ _ _ (vE U)).mono ?_;rintro e w'⟨rfl,rfl⟩;by_cases F:s.length<p+1+k+2+8
    .exact absurd (show eN a.data.toList false (s.drop p)=none by rw[N.out,V.out];simp only;rw[aC Z,om F U]) f.out
    replace F:p+1+k+2+8<=s.length:=U;have hd:=Jg F;have h9:=ol F;obtain⟨m,v⟩:∃m,numOf ((s.drop (p+1+k+2)).take 8)=m:=⟨_,rfl⟩;have oo:=Lib.hid v;rw[v]at hd h9;have o1:=Lib.hid (show eN a.data.toList false (s.drop p)=some (⟨y,aK,m⟩,s.drop (p+1+k+2+8)) by rw[N.out,V.out];simp only;rw[aC Z,h9]);clear h9 v;go_wp2_with fail;go_at_call 118;refine(EG _ J aO bd bc s (p+1+k+2) 8 _ rfl _ Y.out U F).mono ?_;rintro e cI⟨rfl,G,j⟩;rw[oo.out];have l:=Lib.hid (g.out.keep j U);have aaU:=l.out.cell (i:=0) rfl;have k1:=l.out.cell (i:=1) rfl;have gd:=l.out.cell (i:=2) rfl;have kf:=l.out.free 2 ag;have RB:=Jh m hd;have b:=Lib.hid (Rx.out.keep (E.out.step j (λ_ h _=>.inl h)) U);have r0:=b.out.cell (i:=0) rfl;have r1:=b.out.cell (i:=1) rfl;have r2:=b.out.cell (i:=2) rfl;have aaV:=b.out.free 0 ag;have aaW:=b.out.free 1 ag;have aaX:=b.out.free 2 ag;have H:=Lib.hid G;have l3:=Lib.hid j;clear G j g0 g1 fC;go_wp2_with fail;have aa:Fr (λk=>k=w.heap.size\/k=w.heap.size+1) cI ((((cI.setCell ⟨w.heap.size+1,2,none⟩ (.int .u64 m)).setCell ⟨w.heap.size,0,none⟩ (.string n)).setCell ⟨w.heap.size,1,none⟩ (.int .i64 aK)).setCell ⟨w.heap.size,2,none⟩ (.int .u64 m)):=((((Fr.refl _ _).setCell _ _ (λ_=>.inr rfl)).setCell _ _ (λ_=>.inl rfl)).setCell _ _ (λ_=>.inl rfl)).setCell _ _ (λ_=>.inl rfl);have x3:=(((b.out.keep ((Fr.refl (λk=>k=w.heap.size+1) cI).setCell ⟨w.heap.size+1,2,none⟩ (.int .u64 m) (λ_=>rfl)) U).set 0 (.string n)).set 1 (.int .i64 aK)).set 2 (.int .u64 m);obtain⟨Jj,Jk,-⟩:=x3;refine bodyPost_ret (results_cell_row (P:=aj.prog) rfl _ _ w.heap.size _ _ Jj _ rfl Jk aj.underlying152 rfl ah) rfl ?_;rw[o1.out];have aaY:1<w.heap.size:=(by have:=B.out.lay;omega);have aaZ:aO<w.heap.size:=B.out.bytes.ko aO rfl;refine⟨(((nB.out.mono (λ_ h _=>h.elim)).step (E.out.step l3.out (λ_ h _=>.inl h)) (λk h bO=>by rcases h with h|h;exact h;omega)).step aa (λk h bO=>by rcases h with h|h<;>omega)),p+1+k+2+8,?_,rfl,H.out.keep aa U U U⟩;rw[<-Ry.out];rfl
end Go.Proofs.YtlcdgbhigfgehabGreatDoor
namespace Go.Proofs.YtlcdgbhigfgehabGreatDoor
open Go.RowKit

structure ym(w:ab)(kp:Nat)(s:dI)(p:Nat)(ok:Bool):Prop where
 own:Own w kp 272 [.string s,.int .i64 p,.bool ok]
 le:p<=s.size
end Go.Proofs.YtlcdgbhigfgehabGreatDoor
namespace Go.Proofs.YtlcdgbhigfgehabGreatDoor
open Go.RowKit

end Go.Proofs.YtlcdgbhigfgehabGreatDoor
