import Derived.Test.YtlcdgbhigfgehabGreatDoorQB06
import Derived.Test.YtlcdgbhigfgehabGreatDoorQB07
import Derived.RegionDies
import Derived.Recover
import Derived.Defers
set_option linter.all false
set_option maxRecDepth 100000
set_option maxHeartbeats 16000000
namespace Go.Proofs.YtlcdgbhigfgehabGreatDoor
open Go.RowKit

def abc(w:ab)(kp aO bd bc:Nat)(s:ar)(F:ai)(o:Option (List Tok×ar))(e:Ending)(w':ab):Prop:=Fr (λk=>k=kp) w w'/\match o with
 |none=>e=.panicked [{v:=F,recovered:=false}]
 |some (l,r)=>∃v lt hr,e=.returned v/\ej w' w.heap.size v lt/\lt.map (·.1)=l/\r=s.drop hr/\g2 w' kp aO bd bc s hr F
structure gA(w wr:ab)(kp aO bd bc:Nat)(s:ar)(F v:ai)(blk db cg:Nat)(r0:ar)(m:Nat)(L:List Tok)(S q:Nat):Prop where
 at_:od blk db cg [] 0 r0=od blk db m L S (s.drop q)
 mem:∃l,ej wr w.heap.size v l/\l.map (·.1)=L
 rd:g2 wr kp aO bd bc s q F
 bo:Fr (λk=>k=kp) w wr
 sum:L.length+m=cg
 all:S<=L.length*20000
def abd(a blk b c:Nat)(d:c<=255)(e:blk<=64):madeOf a blk b c<=16320:=by
 unfold madeOf;have:(b+c)*blk=b*blk+c*blk:=fJ _ _ _;have f:c*blk<=255*64:=AS d e;omega
def Ju{w wr W u:ab}{n aO bd bc:Nat}{s:ar}{F B:ai}{blk a cg:Nat}{C:ar}{m:Nat}{L:List Tok}{S q a8:Nat}{D:Option Addr}{E:Nat}{l:List (Tok×ai)}{v:ai}(h:gA w wr n aO bd bc s F v blk a cg C (m+1) L S q)(y:n<w.heap.size)(H:aO<w.heap.size)(e:ej wr w.heap.size (.slice D l.length E) l)(aa:l.map (·.1)=L)(hF:Fr (λk=>k=n) wr W)(o:g2 W n aO bd bc s a8 F)(t:Tok)(r:ai)(k:Nat)(p:gG blk a (s.drop q)=some ((t,k),s.drop a8))(hk:k<=20000)(hd:Vec W w.heap.size 5 1 r t.d.length (bT t.d))(g:∀b,r.ownBlock=some b->wr.heap.size<=b)(z:Vec u w.heap.size 171 3 B (l.length+1) (gH l++ [.int .i64 t.b,.int .i64 t.c,r]))(f:Fr (λk=>(Value.slice D l.length E).ownBlock=some k) W u): gA w u n aO bd bc s F B blk a cg C m (L++ [t]) (S+k) a8:=by
 have G:=o.lay;refine⟨?_,⟨l++ [(t,r)],?_,by rw[<-aa];simp⟩,?_,?_,?_,?_⟩
 .rw[h.at_];conv=>lhs;unfold od
  rw[p]
 .have J:=e.below hF (λb i=>by subst i;exact y);refine J.snoc z f (hd.keep f (λb i j=> ?_)) (λx K b i A=> ?_)
  .have M:=(e.vec.lt b j).2;have N:=g b i;omega
  .have M:=(e.lt x K b i).2;have N:=g b A;omega
 .refine o.keep f (λj=> ?_) (λj=> ?_) (λj=> ?_)
  .have:=(e.vec.lt _ j).1;omega
  .have:=(e.vec.lt _ j).1;omega
  .have:=(e.vec.lt _ j).1;omega
 .exact(h.bo.step hF (λ_ h _=>h)).step f (λb i O=>by have:=(e.vec.lt b i).1;omega)
 .have:=h.sum;simp;omega
 .have:=h.all;simp;omega
def abe(w:ab)(x aO bd bc:Nat)(s:ar)(p:Nat)(T:TypeId)(u:ai)(h:g2 w x aO bd bc s p (.iface T u))(blk a size:Nat)(pX:1<=blk)(iI:blk<=64)(abf:a<=300)(aub:size<=300)(pU:nv blk a size (s.drop p)≠none): Calls aj.prog 120 #[.pointer (some ⟨x,0,none⟩),.int .i64 blk,.int .i64 a,.int .i64 size] w (abc w x aO bd bc s (.iface T u) (nv blk a size (s.drop p))):=by
 have hle:=h.le;have tH:=h.own.lt;have hm:=h.bytes.len;have Z:=ae h;have vF:=ae pU;clear h pU;have vG:IntKind.i64.wrap ((a:Int)+blk)=(a:Int)+blk:=kt _ U;have o3:IntKind.i64.wrap ((a:Int)+blk - 1)=(a:Int)+blk - 1:=kt _ U;have b9:((a:Int)+blk - 1).tdiv blk=(b6 a blk:Nat):=by
  unfold b6;rw[show(a:Int)+blk - 1=((a+blk - 1:Nat):Int) by omega];rfl
 have EN:=(tu a blk U).2.2;have fp:¬((blk:Int)=0):=U;by_cases a1:s.length<p+2
 .exact absurd (show nv blk a size (s.drop p)=none by unfold nv;rw[om a1 hle]) vF.o
 replace a1:p+2<=s.length:=U;have dw:=EH a1;have ay:=ol a1;obtain⟨cg,Jv⟩:∃cg,numOf ((s.drop p).take 2)=cg:=⟨_,rfl⟩;have EO:=ae Jv;rw[Jv]at dw ay;have E:=ae (show nv blk a size (s.drop p)=(match od blk a cg [] 0 (s.drop (p+2))with
  |none=>none
  |some ((l,S),r)=>if S=size then some (l,r)else none) by unfold nv;rw[ay];rfl)
 clear ay Jv;go_enter aj.func120,Tryz.ntmps120;go_wp2_with fail;go_at_call 118;refine(o0 _ x aO bd bc s p 2 _ rfl _ Z.o U a1).mono ?_;rintro e w1⟨rfl,rV,fL⟩;rw[EO.o];have eA:gA w w1 x aO bd bc s (.iface T u) (.slice none 0 0) blk a cg (s.drop (p+2)) cg [] 0 (p+2):=⟨rfl,⟨[],ej.nil _ _,rfl⟩,rV,fL,ag,ag⟩;have r7:=ae eA;clear eA rV fL;go_wp2_with fail;go_loopw [3,9,11] (λabg fD cn wr=>∃(m q S:Nat)(L:List Tok),abg=.int .i64 ((size:Int) - S)/\cn=.int .i64 m/\gA w wr x aO bd bc s (.iface T u) fD blk a cg (s.drop (p+2)) m L S q) (λ_ _ cn _=>(intOf cn).toNat)
 case atStart=>exact⟨cg,p+2,0,[],ag,rfl,r7.o⟩
 case round=>
  obtain⟨m,q,S,L,rfl,rfl,F⟩:=hrel;have o:=ae F;have⟨l,mX,hs⟩:=F.mem;have AT:=F.rd.le;have AU:=F.sum;have Jw:=F.all;have nF:=F.bo.size;have auc:l.length+m=cg:=(by rw[<-AU,<-hs];simp);have aud:S<=65535*20000:=U;obtain⟨la,pV,AO,-⟩:=mX.vec.shape;subst AO;have y:=ae mX;have r5:=ae hs;clear F mX hs AU Jw;have die:(∀j,m=j+1->gG blk a (s.drop q)=none)->0<m->False:=by
   intro cJ n;obtain⟨j,rfl⟩:∃j,m=j+1:=⟨m - 1,U⟩;refine vF.o ?_;rw[E.o,o.o.at_];unfold od;rw[cJ j rfl]
  have t:=ae die;clear die;rcases jL m with rfl|n
  .have g4:=E.o;rw[o.o.at_]at g4;simp only[od]at g4;have o1:=ae g4;clear g4;have ku:¬((0:Int)<0):=U;go_wp2_with fail;by_cases nI:S=size
   .go_at_call 116;refine(q0 _ _ _ a5).mono ?_;rintro e w'⟨rfl,rfl⟩;go_wp2_with fail;go_ret;rw[o1.o,aV nI];exact⟨o.o.bo,.slice la l.length pV,l,q,rfl,y.o,r5.o,rfl,o.o.rd⟩
   .exact absurd (o1.o.trans (aC nI)) vF.o
  .have AV:(0:Int)< (m:Int):=U;by_cases mY:s.length<q+1
   .exact(t.o (show∀j,m=j+1->gG blk a (s.drop q)=none from λ_ _=>by unfold gG;rw[om mY AT]) n).elim
   replace mY:q+1<=s.length:=U;have hkd:=vC mY;have aF:=ol mY;obtain⟨kd,N⟩:∃kd,numOf ((s.drop q).take 1)=kd:=⟨_,rfl⟩;have RF:=ae N;rw[N]at hkd aF;have xY:=ae aF;clear aF N;obtain⟨j,rfl⟩:∃j,m=j+1:=⟨m - 1,U⟩;by_cases vH:kd=0
   .subst vH;have O:gG blk a (s.drop q)=(match eE 1 (s.drop (q+1))with
      |none=>none
      |some (k,r)=>if k=0 then none else match takeN k r with|none=>none|some (d,r)=>some ((⟨0,0,d⟩,k),r)):=by
     unfold gG;rw[xY.o];rfl
    have nE:=ae O;clear O;go_wp2_with fail;go_at_call 118;refine(o0 _ x aO bd bc s q 1 _ rfl _ (o.o.rd.keep ((Fr.refl aD _).alloc _) id id id) U mY).mono ?_;rintro e w3⟨rfl,P,G⟩;rw[RF.o];have nD:=ae (show Fr (λk=>k=x) wr w3 from(((Fr.refl aD _).alloc _).mono (λ_ h _=>h.elim)).step G (λ_ h _=>h));have vI:=ae ((Own.alloc wr #[.int .i64 0,.int .i64 0,.slice none 0 0] 171).keep G U);have x2:=ae P;clear P G;by_cases Q:s.length<q+1+1
    .exact(t.o (show∀f,j+1=f+1->gG blk a (s.drop q)=none from λ_ _=>by rw[nE.o,om Q U]) n).elim
    replace Q:q+1+1<=s.length:=U;have vJ:=vC Q;have fq:=ol Q;obtain⟨k,ov⟩:∃k,numOf ((s.drop (q+1)).take 1)=k:=⟨_,rfl⟩;have AI:=ae ov;rw[ov]at vJ fq;have tO:=ae fq;clear fq ov;go_wp2_with fail;go_at_call 118;refine(o0 _ x aO bd bc s (q+1) 1 _ rfl _ x2.o U Q).mono ?_;rintro e w4⟨rfl,R,H⟩;rw[AI.o];have x4:=ae (nD.o.step H (λ_ h _=>h));have AW:=ae (vI.o.keep H U);have abh:=ae R;clear R H;go_wp2_with fail;by_cases r8:k=0
    .exact(t.o (show∀f,j+1=f+1->gG blk a (s.drop q)=none from λ_ _=>by rw[nE.o,tO.o];simp only;rw[aV r8]) n).elim
    go_at_call 116;refine(q0 _ _ _ a5).mono ?_;rintro e w'⟨rfl,rfl⟩;go_wp2_with fail;have hP:=AW.o.cell (i:=2) rfl;have nH:=AW.o.free 2 ag;by_cases AX:s.length<q+1+1+k
    .exact(t.o (show∀f,j+1=f+1->gG blk a (s.drop q)=none from λ_ _=>by rw[nE.o,tO.o];simp only;rw[aC r8,Ru AX U]) n).elim
    replace AX:q+1+1+k<=s.length:=U;have l8:=Rt AX;obtain⟨d,hd⟩:∃d,(s.drop (q+1+1)).take k=d:=⟨_,rfl⟩;have abi:=ae hd;have kq:d.length=k:=(by rw[<-hd];simp;omega);rw[hd]at l8;have l9:=ae (show gG blk a (s.drop q)=some ((⟨0,0,d⟩,k),s.drop (q+1+1+k)) by rw[nE.o,tO.o];simp only;rw[aC r8,l8]);clear l8 hd;go_region_law (first
     |(go_simp;go_at_call 117;refine(EF _ x aO bd bc s (q+1+1) k _ (abh.o.keep (Fr.drew (Fr.refl aD _)) id id id) U U).mono ?_;rintro e cU⟨off,rfl,Jx,AY,mZ⟩;rw[abi.o]at Jx;have EP:=ae (show Reads cU (.slice (some ⟨aO,off,none⟩) k k) k (bT d)from by have EQ:=Reads.pM Jx;rwa[kq]at EQ);have Jy:=ae AY;have ma:=ae (x4.o.drew.step mZ (λ_ h _=>h));have az:=ae ((AW.o.keep (Fr.drew (Fr.refl aD _)) id).keep mZ U);have ou:=az.o.cell (i:=2) rfl;have AQ:=az.o.free 2 ag;clear Jx AY mZ)
     |(rw[aV eI];refine tK (.tmp 39) (.tmp 42) 25 rfl wr.heap.size 5 1 1 kj (Vec.nil _ _ _ _) rfl (xv:=.slice (some ⟨aO,off,none⟩) k k) (m:=k) EP.o rfl (by rw[IZ,kq];omega) (pK d) eH U ma.o.size ?_;intro v6 cI pY aa ER;obtain⟨m0,pZ,abj,-⟩:=pY.shape;subst abj;have K:=ae (az.o.keep aa (λh=>by simp[Value.ownBlock]at h));have gz:=K.o.cell (i:=2) rfl;have ES:=K.o.free 2 ag;have nJ:=ae pY;have l3:=ae (show Fr aD cU cI from aa.mono (λ_ h _=>by simp[Value.ownBlock]at h));clear pY aa ER))
    all_goals
     have vK:IntKind.i64.wrap ((size:Int) - S - k)=(size:Int) - S - k:=kt _ U;have x5:=ae (K.o.set 2 (.slice m0 k pZ));have v:=ae (show Fr (λb=>b=x) wr (cI.setCell ⟨wr.heap.size,2,none⟩ (.slice m0 k pZ))from(ma.o.step l3.o (λ_ h _=>h.elim)).setCell _ _ (λh=>absurd h (vL _)));have ET:=ae ((Jy.o.keep l3.o id id id).keep ((Fr.refl (λb=>b=wr.heap.size) cI).setCell ⟨wr.heap.size,2,none⟩ (.slice m0 k pZ) (λ_=>rfl)) U (by have:=Z.o.bytes.ko aO rfl;omega) (by have:=Z.o.lay;omega));have r9:=ae (nJ.o.keep ((Fr.refl (λb=>b=wr.heap.size) cI).setCell ⟨wr.heap.size,2,none⟩ (.slice m0 k pZ) (λ_=>rfl)) (λb V bw=>by subst bw;exact nJ.o.gI K.o aE V));have EU:=ae (y.o.vec.keep v.o (λb V bw=>by have:=(y.o.vec.lt b V).1;omega));have x0:=K.o.cell (i:=0) rfl;have x1:=K.o.cell (i:=1) rfl;clear hP nH ou AQ;go_wp2_with (first
      |(at_builtin;refine fP rfl (.tmp 86) (.tmp 88) _ rfl w.heap.size 171 3 40 rX (EU.o.keep ((Fr.refl aD _).alloc _) (λ_ _ h=>h)) rfl (m:=1) (Reads.new _ _ _ _ ag _ _) rfl rfl (rY _ _ _ _ _) eH U (by have:=v.o.size;simp at this⊢;omega) ?_;intro gK fE g z J W;obtain⟨sa,AZ,B,-⟩:=g.shape;subst B;have X:=ae g;have Y:=ae z;clear g z J W))
     have J:=r9.o.mono (show w.heap.size<=wr.heap.size by omega);have abk:=J.keep ((Fr.refl aD _).alloc (.cells #[.int .i64 0,.int .i64 0,.slice m0 k pZ] 171)) (λ_ _ h=>h);have C:=Ju o.o tH (Z.o.bytes.ko aO rfl) y.o r5.o ((v.o).alloc (.cells #[.int .i64 0,.int .i64 0,.slice m0 k pZ] 171)) (ET.o.keep ((Fr.refl aD _).alloc (.cells #[.int .i64 0,.int .i64 0,.slice m0 k pZ] 171)) id id id) ⟨0,0,d⟩ (.slice m0 k pZ) k l9.o U (by simpa[kq]using abk) (λb V=>(nJ.o.lt b (by simpa[Value.ownBlock]using V)).1) X.o Y.o;exact⟨⟨j,q+1+1+k,S+k,L++ [⟨0,0,d⟩],hq (Value.int .i64) U,rfl,C⟩,by simp[intOf]<;>omega⟩
   by_cases RG:kd=1
   .subst RG;have O:gG blk a (s.drop q)=(match eE 2 (s.drop (q+1))with
      |none=>none
      |some (b,r)=>match eE 1 r with
       |none=>none
       |some (c,r)=>if 0<c/\b+c<=b6 a blk then some ((⟨b,c,[]⟩,madeOf a blk b c),r)else none):=by
     unfold gG;rw[xY.o];rfl
    have nE:=ae O;clear O;go_wp2_with fail;go_at_call 118;refine(o0 _ x aO bd bc s q 1 _ rfl _ (o.o.rd.keep ((Fr.refl aD _).alloc _) id id id) U mY).mono ?_;rintro e w3⟨rfl,P,G⟩;rw[RF.o];have nD:=ae (show Fr (λk=>k=x) wr w3 from(((Fr.refl aD _).alloc _).mono (λ_ h _=>h.elim)).step G (λ_ h _=>h));have vI:=ae ((Own.alloc wr #[.int .i64 0,.int .i64 0,.slice none 0 0] 171).keep G U);have x2:=ae P;clear P G;by_cases Q:s.length<q+1+2
    .exact(t.o (show∀f,j+1=f+1->gG blk a (s.drop q)=none from λ_ _=>by rw[nE.o,om Q U]) n).elim
    replace Q:q+1+2<=s.length:=U;have EV:=EH Q;have fq:=ol Q;obtain⟨b,sb⟩:∃b,numOf ((s.drop (q+1)).take 2)=b:=⟨_,rfl⟩;have abl:=ae sb;rw[sb]at EV fq;have tO:=ae fq;clear fq sb;go_wp2_with fail;go_at_call 118;refine(o0 _ x aO bd bc s (q+1) 2 _ rfl _ x2.o U Q).mono ?_;rintro e w4⟨rfl,R,H⟩;rw[abl.o];have tP:=vI.o.keep H U;have p0:Fr (λb=>b=wr.heap.size) w4 (w4.setCell ⟨wr.heap.size,0,none⟩ (.int .i64 b)):=(Fr.refl _ _).setCell _ _ (λ_=>rfl);have ma:=ae (show Fr (λb=>b=x) wr (w4.setCell ⟨wr.heap.size,0,none⟩ (.int .i64 b))from(nD.o.step H (λ_ h _=>h)).setCell _ _ (λh=>absurd h (vL _)));have Jy:=ae (R.keep p0 U (by have:=Z.o.bytes.ko aO rfl;omega) (by have:=Z.o.lay;omega));have az:=ae (tP.set 0 (.int .i64 b));have nG:=tP.cell (i:=0) rfl;have nH:=tP.free 0 ag;clear R H tP p0;go_wp2_with fail;clear nG nH;generalize w4.setCell ⟨wr.heap.size,0,none⟩ (.int .i64 b)=cU at *;by_cases r8:s.length<q+1+2+1
    .exact(t.o (show∀f,j+1=f+1->gG blk a (s.drop q)=none from λ_ _=>by rw[nE.o,tO.o];simp only;rw[om r8 U]) n).elim
    replace r8:q+1+2+1<=s.length:=U;have x6:=vC r8;have h9:=ol r8;obtain⟨c,tQ⟩:∃c,numOf ((s.drop (q+1+2)).take 1)=c:=⟨_,rfl⟩;have abm:=ae tQ;rw[tQ]at x6 h9;have Jz:=ae h9;clear h9 tQ;go_at_call 118;refine(o0 _ x aO bd bc s (q+1+2) 1 _ rfl _ Jy.o U r8).mono ?_;rintro e cI⟨rfl,tR,aa⟩;rw[abm.o];have M:=az.o.keep aa U;have sc:Fr (λb=>b=wr.heap.size) cI (cI.setCell ⟨wr.heap.size,1,none⟩ (.int .i64 c)):=(Fr.refl _ _).setCell _ _ (λ_=>rfl);have v:=ae (show Fr (λb=>b=x) wr (cI.setCell ⟨wr.heap.size,1,none⟩ (.int .i64 c))from(ma.o.step aa (λ_ h _=>h)).setCell _ _ (λh=>absurd h (vL _)));have ET:=ae (tR.keep sc U (by have:=Z.o.bytes.ko aO rfl;omega) (by have:=Z.o.lay;omega));have x5:=ae (M.set 1 (.int .i64 c));have hO:=M.cell (i:=1) rfl;have nG:=M.cell (i:=0) rfl;have hP:=M.cell (i:=2) rfl;have nH:=M.free 1 ag;have EU:=ae (y.o.vec.keep v.o (λb V bw=>by have:=(y.o.vec.lt b V).1;omega));clear tR aa M sc;by_cases AX:c=0
    .exact(t.o (show∀f,j+1=f+1->gG blk a (s.drop q)=none from λ_ _=>by rw[nE.o,tO.o];simp only;rw[Jz.o];simp only;rw[aC (λh=>U)]) n).elim
    have q3:(0:Int)< (c:Int):=U;have p1:0<c:=U;have A0:IntKind.i64.wrap ((b:Int)+c)=(b:Int)+c:=kt _ U;by_cases JA:b+c<=b6 a blk
    .have l9:=ae (show gG blk a (s.drop q)=some ((⟨b,c,[]⟩,madeOf a blk b c),s.drop (q+1+2+1)) by rw[nE.o,tO.o];simp only;rw[Jz.o];simp only;rw[aV ⟨p1,JA⟩]);have abn:=abd a blk b c U iI;have EW:(b+c)*blk<=300*64:=AS U iI;have A1:b*blk<=300*64:=AS U iI;have abo:IntKind.i64.wrap (((b:Int)+c)*blk)=(((b+c)*blk:Nat):Int):=by
      rw[show((b:Int)+c)*blk=(((b+c)*blk:Nat):Int) by push_cast;rfl];exact kt _ U
     have abp:IntKind.i64.wrap ((b:Int)*blk)=((b*blk:Nat):Int):=by
      rw[show(b:Int)*blk=((b*blk:Nat):Int) by push_cast;rfl];exact kt _ U
     have vM:madeOf a blk b c=min ((b+c)*blk) a - b*blk:=rfl;have RH:b*blk<a:=(rP a blk b U).1 U;have RI:b*blk<=(b+c)*blk:=vt _ U;have aue:(b:Int)+c<=(b6 a blk:Nat):=U;have x7:=ae vM;clear vM;obtain⟨A,cc⟩:∃A,(b+c)*blk=A:=⟨_,rfl⟩;obtain⟨D,nK⟩:∃D,b*blk=D:=⟨_,rfl⟩;rw[cc]at abo EW RI x7;rw[nK]at abp A1 RH RI x7;clear cc nK;go_wp2_with fail;go_at_call 116;refine x8 (q0 _ _ _ ?_) ?_
     .first|rfl|(simp;omega)|simp_all
     rintro e w'⟨rfl,rfl⟩;by_cases auf:A<=a
     .have abq:(A:Int)<=a:=U;have abr:IntKind.i64.wrap ((A:Int) - D)=(A:Int) - D:=kt _ U;have abt:IntKind.i64.wrap ((size:Int) - S - ((A:Int) - D))=(size:Int) - S - ((A:Int) - D):=kt _ U;go_wp2_with (first
       |(at_builtin;refine fP rfl (.tmp 86) (.tmp 88) _ rfl w.heap.size 171 3 40 rX (EU.o.keep ((Fr.refl aD _).alloc _) (λ_ _ h=>h)) rfl (m:=1) (Reads.new _ _ _ _ ag _ _) rfl rfl (rY _ _ _ _ _) eH U (by have:=v.o.size;simp at this⊢;omega) ?_;intro gK fE g z J W;obtain⟨sa,AZ,B,-⟩:=g.shape;subst B;have X:=ae g;have Y:=ae z;clear g z J W))
      have C:=Ju o.o tH (Z.o.bytes.ko aO rfl) y.o r5.o ((v.o).alloc (.cells #[.int .i64 b,.int .i64 c,.slice none 0 0] 171)) (ET.o.keep ((Fr.refl aD _).alloc (.cells #[.int .i64 b,.int .i64 c,.slice none 0 0] 171)) id id id) ⟨b,c,[]⟩ (.slice none 0 0) (madeOf a blk b c) l9.o U (Vec.nil _ _ _ _) (λb V=>by simp[Value.ownBlock]at V) X.o Y.o;exact⟨⟨j,q+1+2+1,S+madeOf a blk b c,L++ [⟨b,c,[]⟩],hq (Value.int .i64) (by rw[x7.o];omega),rfl,C⟩,by simp[intOf]<;>omega⟩
     .have abq:¬((A:Int)<=a):=U;have abr:IntKind.i64.wrap ((a:Int) - D)=(a:Int) - D:=kt _ U;have abt:IntKind.i64.wrap ((size:Int) - S - ((a:Int) - D))=(size:Int) - S - ((a:Int) - D):=kt _ U;go_wp2_with (first
       |(at_builtin;refine fP rfl (.tmp 86) (.tmp 88) _ rfl w.heap.size 171 3 40 rX (EU.o.keep ((Fr.refl aD _).alloc _) (λ_ _ h=>h)) rfl (m:=1) (Reads.new _ _ _ _ ag _ _) rfl rfl (rY _ _ _ _ _) eH U (by have:=v.o.size;simp at this⊢;omega) ?_;intro gK fE g z J W;obtain⟨sa,AZ,B,-⟩:=g.shape;subst B;have X:=ae g;have Y:=ae z;clear g z J W))
      have C:=Ju o.o tH (Z.o.bytes.ko aO rfl) y.o r5.o ((v.o).alloc (.cells #[.int .i64 b,.int .i64 c,.slice none 0 0] 171)) (ET.o.keep ((Fr.refl aD _).alloc (.cells #[.int .i64 b,.int .i64 c,.slice none 0 0] 171)) id id id) ⟨b,c,[]⟩ (.slice none 0 0) (madeOf a blk b c) l9.o U (Vec.nil _ _ _ _) (λb V=>by simp[Value.ownBlock]at V) X.o Y.o;exact⟨⟨j,q+1+2+1,S+madeOf a blk b c,L++ [⟨b,c,[]⟩],hq (Value.int .i64) (by rw[x7.o];omega),rfl,C⟩,by simp[intOf]<;>omega⟩
    .exact(t.o (show∀f,j+1=f+1->gG blk a (s.drop q)=none from λ_ _=>by rw[nE.o,tO.o];simp only;rw[Jz.o];simp only;rw[aC (λh=>JA h.2)]) n).elim
   .exact(t.o (show∀f,j+1=f+1->gG blk a (s.drop q)=none from λ_ _=>by unfold gG;rw[xY.o];simp only;rw[aC vH,aC RG]) n).elim
end Go.Proofs.YtlcdgbhigfgehabGreatDoor
namespace Go.Proofs.YtlcdgbhigfgehabGreatDoor
open Go.RowKit Go.Maps

def abu:(aj.prog.info? 152).map (λi=>(i.zero,i.size,i.bytes))=some (some (.agg #[.string ⟨#[]⟩,.int .i64 0,.int .u64 0]),3,32):=ah
def abv:gZ aj.prog 143 152 3 32:=gZ.mk aj.underlying143 abu rfl
def abw:(aj.prog.info? 155).map (λi=>(i.zero,i.size,i.bytes))=some (some (.agg #[.string ⟨#[]⟩,.int .i64 0,.int .u64 0,.slice none 0 0]),4,56):=ah
def abx:gZ aj.prog 144 155 4 56:=gZ.mk aj.underlying144 abw rfl
def A2(e:df):bJ:=[.string ⟨e.name.toArray⟩,.int .i64 e.size,.int .u64 e.e9]
def m1(l:List df):bJ:=l.flatMap A2
def aby(l:List df)(e:df):m1 (l++ [e])=m1 l++A2 e:=by simp[m1]
@[simp] def aug(l:List df):(m1 l).length=l.length*3:=by
 induction l with
 |nil=>rfl
 |cons e l a=>simp[m1,A2]at a⊢;omega
def RJ(l:List df)(i:Nat)(h:i<l.length): (m1 l)[i*3]? =some (.string ⟨l[i].name.toArray⟩)/\(m1 l)[i*3+1]? =some (.int .i64 l[i].size)/\(m1 l)[i*3+2]? =some (.int .u64 l[i].e9):=by
 induction l generalizing i with
 |nil=>simp at h
 |cons p l a=>
  have b:m1 (p::l)=.string ⟨p.name.toArray⟩::.int .i64 p.size::.int .u64 p.e9::m1 l:=rfl;rw[b];cases i with
  |zero=>simp
  |succ i=>
   have:=a i (by simpa using h);simp only[fJ,ob,Er];refine⟨?_,?_,?_⟩
   .rw[show i*3+3=(i*3)+1+1+1 from rfl];simpa using this.1
   .rw[show i*3+3+1=(i*3+1)+1+1+1 from by omega];simpa using this.2.1
   .rw[show i*3+3+2=(i*3+2)+1+1+1 from by omega];simpa using this.2.2
structure MT where
 t:h7
 v:ai
 l:List (Tok×ai)
def x9(x:MT):bJ:=[.string ⟨x.t.dN.name.toArray⟩,.int .i64 x.t.dN.size,.int .u64 x.t.dN.e9,x.v]
def nL(l:List MT):bJ:=l.flatMap x9
def abz(l:List MT)(e:MT):nL (l++ [e])=nL l++x9 e:=by simp[nL]
@[simp] def auh(l:List MT):(nL l).length=l.length*4:=by
 induction l with
 |nil=>rfl
 |cons e l a=>simp[nL,x9]at a⊢;omega
def RK(l:List MT)(i:Nat)(h:i<l.length): (nL l)[i*4]? =some (.string ⟨l[i].t.dN.name.toArray⟩)/\(nL l)[i*4+1]? =some (.int .i64 l[i].t.dN.size)/\(nL l)[i*4+2]? =some (.int .u64 l[i].t.dN.e9)/\(nL l)[i*4+3]? =some l[i].v:=by
 induction l generalizing i with
 |nil=>simp at h
 |cons p l a=>
  have b:nL (p::l)=.string ⟨p.t.dN.name.toArray⟩::.int .i64 p.t.dN.size::.int .u64 p.t.dN.e9::p.v::nL l:=rfl;rw[b];cases i with
  |zero=>simp
  |succ i=>
   have:=a i (by simpa using h);simp only[fJ,ob,Er];refine⟨?_,?_,?_,?_⟩
   .rw[show i*4+4=(i*4)+1+1+1+1 from rfl];simpa using this.1
   .rw[show i*4+4+1=(i*4+1)+1+1+1+1 from by omega];simpa using this.2.1
   .rw[show i*4+4+2=(i*4+2)+1+1+1+1 from by omega];simpa using this.2.2.1
   .rw[show i*4+4+3=(i*4+3)+1+1+1+1 from by omega];simpa using this.2.2.2
structure mb(w:ab)(B:Nat)(v:ai)(l:List MT):Prop where
 vec:Vec w B 155 4 v l.length (nL l)
 hK:∀x∈l,ej w B x.v x.l/\x.l.map (·.1)=x.t.hK
 two:(l.flatMap (·.l)).Pairwise λp q=>∀k,p.2.ownBlock=some k->q.2.ownBlock≠some k
def mb.nil(w:ab)(B:Nat):mb w B (.slice none 0 0) []:=⟨Vec.nil _ _ _ _,λ_ h=>by simp at h,List.Pairwise.nil⟩
def mb.below{w w1:ab}{S:Nat->Prop}{B:Nat}{v:ai}{l:List MT}(h:mb w B v l)(k:Fr S w w1)(a:∀b,S b->b<B):mb w1 B v l:=⟨h.vec.keep k (λb d e=>by have:=(h.vec.lt b d).1;have:=a b e;omega),λx c=>⟨(h.hK x c).1.below k a,(h.hK x c).2⟩,h.two⟩
def mb.lift{w:ab}{B B':Nat}{v:ai}{l:List MT}(h:mb w B v l)(a:B'<=B):mb w B' v l:=⟨h.vec.mono a,λx b=>⟨(h.hK x b).1.lift a,(h.hK x b).2⟩,h.two⟩
def mb.snoc{w W w1:ab}{B:Nat}{v v':ai}{l:List MT}{x:MT}(h:mb w B v l)(D:Fr (λb=>b<B) w W)(m:ej W w.heap.size x.v x.l)(r:x.l.map (·.1)=x.t.hK)(E:B<=w.heap.size)(F:Vec w1 B 155 4 v' (l.length+1) (nL l++x9 x))(k:Fr (λb=>v.ownBlock=some b) W w1):mb w1 B v' (l++ [x]):=by
 have o:=h.below D (λb a=>a);have i:∀b,v.ownBlock=some b->b<w.heap.size:=λb a=>(h.vec.lt b a).2;refine⟨by rw[cr,abz];exact F,?_,?_⟩
 .intro y d;rcases fB.1 d with d|d
  .have j:=(o.hK y d).1;refine⟨j.keep k (λb a c=> ?_) (λp n b a c=> ?_),(o.hK y d).2⟩
   .rcases o.vec.2 with⟨f,-⟩|⟨g,cap,rest,f,-,ap,-⟩
    .rw[f]at c;simp[Value.ownBlock]at c
    .rw[f]at c;have e:g=b:=(by simpa[Value.ownBlock]using c);subst e;exact j.vec.gI ap aE a
   .rcases o.vec.2 with⟨f,-⟩|⟨g,cap,rest,f,-,ap,-⟩
    .rw[f]at c;simp[Value.ownBlock]at c
    .rw[f]at c;have e:g=b:=(by simpa[Value.ownBlock]using c);subst e;exact(j.data p n).gI ap aE a
  .simp at d;subst d;refine⟨(m.keep k (λb a c=> ?_) (λp n b a c=> ?_)).lift E,r⟩
   .have A:=(m.vec.lt b a).1;have C:=i b c;omega
   .have A:=(m.lt p n b a).1;have C:=i b c;omega
 .rw[EX,rZ];refine⟨h.two,by simpa using m.two,?_⟩;intro p n q f b a s;have⟨y,d,u⟩:=List.mem_flatMap.1 n;have A:=((h.hK y d).1.lt p u b a).2;have z:q∈x.l:=(by simpa using f);have C:=(m.lt q z b s).1;omega
def abA(p q:Addr)(w:ab): CallsD aj.prog 115 #[.pointer (some p),.pointer (some q)] .returning w λe a w'=>e=.returned (.tuple #[])/\a=.returning/\w'=w:=by
 refine callsD_of_wpS aj.func115 rfl λb cs c=> ?_;apply wpS_seq;apply wpS_region;simp[wpOpsS,go_sem,recoverD,c,Tryz.ntmps115,Exit.thenS];apply wpS_seq;apply wpS_region;simp[wpOpsS,go_sem,Exit.thenS];refine wpS_cond (t:=false) (by simp[Act.eval,Array.replicate]) ?_;simp only[ea,cY];refine wpS_of_wp (wp_skip ?_);cases b;simp_all[bodyPostS,results,Tryz.results115]
end Go.Proofs.YtlcdgbhigfgehabGreatDoor
namespace Go.Proofs.YtlcdgbhigfgehabGreatDoor
open Go.RowKit Go.Maps

def EY(w:ab)(s:ar)(e:Ending)(w':ab):Prop:=∃xv aH,e=.returned (.tuple #[xv,aH])/\Fr aD w w'/\match fz s with
  |none=>xv=.agg #[.int .i64 0,.slice none 0 0,.slice none 0 0]/\aH=.iface 30 (.int .i64 5)
  |some x=>∃bv cM mt,xv=.agg #[.int .i64 x.block,bv,cM]/\aH=.nilIface/\Vec w' w.heap.size 152 3 bv x.db.length (m1 x.db)/\mb w' w.heap.size cM mt/\mt.map (·.t)=x.targs
def abB(t:aQ)(g h:Nat)(w:ab)(d e f j:ai)(k:t.getD 2 I=.pointer (some ⟨g,0,none⟩))(l:t.getD 3 I=.pointer (some ⟨h,0,none⟩))(a:Own w g 146 [d,e,f])(m:Own w h 60 [j]):(results Tryz.f66 t).run aj.prog w=.ok (.tuple #[.agg #[d,e,f],j]) w:=by
 have n:=m.cell (i:=0) rfl;have x0:=a.cell (i:=0) rfl;have x1:=a.cell (i:=1) rfl;have o:=a.cell (i:=2) rfl;have b:t[2]?.getD I=.pointer (some ⟨g,0,none⟩):=(by simpa using k);have c:t[3]?.getD I=.pointer (some ⟨h,0,none⟩):=(by simpa using l);simp[results,b,c,asAddr,x0,x1,o,n,go_sem]
def abC(w W:ab)(s:ar)(x:pJ)(t:aQ)(g:t.getD 2 I=.pointer (some ⟨w.heap.size,0,none⟩))(h:t.getD 3 I=.pointer (some ⟨w.heap.size+1,0,none⟩))(bv cM:ai)(a:List MT)(i:Own W w.heap.size 146 [.int .i64 x.block,bv,cM])(j:Own W (w.heap.size+1) 60 [.nilIface])(hF:Fr aD w W)(k:fz s=some x)(b:Vec W w.heap.size 152 3 bv x.db.length (m1 x.db))(c:mb W w.heap.size cM a)(d:a.map (·.t)=x.targs): bodyPostD aj.prog Tryz.f66 (EY w s) Exit.ret {tmps:=t,defers:=[{target:=.fn (.func 115) #[.pointer (some ⟨w.heap.size,0,none⟩),.pointer (some ⟨w.heap.size+1,0,none⟩)],args:= #[]}]} W:=by
 refine ya (f:=115) (args:= #[.pointer (some ⟨w.heap.size,0,none⟩),.pointer (some ⟨w.heap.size+1,0,none⟩)]) ag (by simp[go_sem]) ?_;refine(abA ⟨w.heap.size,0,none⟩ ⟨w.heap.size+1,0,none⟩ W).mono ?_;rintro e l w'⟨rfl,rfl,rfl⟩;refine⟨_,abB t _ _ _ _ _ _ _ g h i j,_,_,rfl,hF,?_⟩;rw[k];exact⟨bv,cM,a,rfl,rfl,b,c,d⟩
def abD(t a:aQ)(d:t.getD 2 I=a.getD 2 I)(e:t.getD 3 I=a.getD 3 I):results Tryz.f66 t=results Tryz.f66 a:=by
 have b:t[2]?.getD I=a[2]?.getD I:=(by simpa using d);have c:t[3]?.getD I=a[3]?.getD I:=(by simpa using e);simp[results,b,c]
def abE(R:Ending->ab->Prop)(t a:aQ)(k:t.getD 2 I=a.getD 2 I)(l:t.getD 3 I=a.getD 3 I): ∀(bX:List Deferred)(u:FrameMode)(w:ab),Leaves aj.prog Tryz.f66 t R bX u w->Leaves aj.prog Tryz.f66 a R bX u w:=by
 intro bX;induction bX with
 |nil=>
  intro u w h;cases u with
  |returning=>obtain⟨v,b,g⟩:=h;exact⟨v,by rw[<-abD t a k l];exact b,g⟩
  |panicking c=>exact h
  |run=>exact h
 |cons d bX j=>
  intro u w h;obtain⟨m,n,cap,f,args,b,g,o⟩:=h;refine⟨m,n,cap,f,args,b,g,o.mono ?_⟩;intro e p w' i;cases e with
  |returned v=>exact j _ _ i
  |panicked c=>exact j _ _ i
  |outgrown=>exact i
def abF(w:ab)(s:ar)(c:List PanicEntry)(a:Act)(W:ab)(d:Nat)(v:ai)(hd:4<=d)(h:bodyPostD aj.prog Tryz.f66 (EY w s) (Exit.panic c) (a.put (some d) v) W): bodyPostD aj.prog Tryz.f66 (EY w s) (Exit.panic c) a W:=by
 refine abE _ _ _ ?_ ?_ _ _ _ h
 .simp only[Act.put,nM];rw[vN U]
 .simp only[Act.put,nM];rw[vN U]
structure m2(w W:ab)(aO bd bc:Nat)(s:ar)(F:ai)(blk:Int)(bv cM:ai)(q:Nat):Prop where
 x:Own W w.heap.size 146 [.int .i64 blk,bv,cM]
 e:Own W (w.heap.size+1) 60 [.nilIface]
 r:g2 W (w.heap.size+1+1) aO bd bc s q F
 bo:Fr aD w W
 aO:aO<w.heap.size
 me:1<w.heap.size
section
variable{w W cH:World}{aO bd bc:Nat}{s:List UInt8}{F bv cM:Value}{blk:Int}{q a8:Nat}
def m2.step(h:m2 w W aO bd bc s F blk bv cM q)(a:Fr (λk=>k=w.heap.size+1+1) W cH)(b:g2 cH (w.heap.size+1+1) aO bd bc s a8 F):m2 w cH aO bd bc s F blk bv cM a8:=⟨h.x.keep a U,h.e.keep a U,b,h.bo.step a (λk hk c=>U),h.aO,h.me⟩
def m2.keep{S:Nat->Prop}(h:m2 w W aO bd bc s F blk bv cM q)(c:Fr S W cH)(b:∀k,S k->w.heap.size+3<=k):m2 w cH aO bd bc s F blk bv cM q:=⟨h.x.keep c (λa=>by have:=b _ a;omega),h.e.keep c (λa=>by have:=b _ a;omega),h.r.keep c (λa=>by have:=b _ a;omega) (λa=>by have:=b _ a;have:=h.aO;omega) (λa=>by have:=b _ a;have:=h.me;omega),h.bo.step c (λk hk d=>by have:=b k hk;omega),h.aO,h.me⟩
def m2.br(h:m2 w W aO bd bc s F blk bv cM q)(a:Fr aD W cH):m2 w cH aO bd bc s F blk bv cM q:=h.keep a (λ_ h=>h.elim)
def m2.set(h:m2 w W aO bd bc s F blk bv cM q)(i:Nat)(v:ai)(a:Int)(ee b:ai)(d:([.int .i64 blk,bv,cM]:bJ).set i v=[.int .i64 a,ee,b]):m2 w (W.setCell ⟨w.heap.size,i,none⟩ v) aO bd bc s F a ee b q:=by
 have c:Fr (λk=>k=w.heap.size) W (W.setCell ⟨w.heap.size,i,none⟩ v):=(Fr.refl _ _).setCell _ _ (λ_=>rfl);refine⟨d▸h.x.set i v,h.e.keep c U,h.r.keep c U (by have:=h.aO;omega) (by have:=h.me;omega),h.bo.step c (λk hk f=>U),h.aO,h.me⟩
end
def o4{s:ar}(h:fa s=none):fz s=none:=by unfold fz;rw[h]
def abG(w:ab):(zeroValue 3).run aj.prog w=.ok (.int .i64 0) w:=ah
def mf(w:ab)(aG n:Nat)(E:List df):Prop:=∃f,fQ w aj.prog 9 aG n f/\∀ec:ar,(f (.string ⟨ec.toArray⟩)).getD (.int .i64 0)=.int .i64 (mU E ec)
def mf.made(w:ab):mf (w.alloc (.map #[] 0)) w.heap.size 0 []:=⟨_,fQ.made w _ _,λ_=>rfl⟩
def mf.keep{w w1:ab}{S:Nat->Prop}{aG n:Nat}{E:List df}(h:mf w aG n E)(k:Fr S w w1)(a:¬S aG):mf w1 aG n E:=by
 obtain⟨f,b,c⟩:=h;exact⟨f,b.keep k a,c⟩
def mf.look{w:ab}{aG n:Nat}{E:List df}(h:mf w aG n E)(a:ar)(b:a.length<=1000): (Instr.lookup 228 (.map (some aG)) (.string ⟨a.toArray⟩) false).run aj.prog w=.ok (.int .i64 (mU E a)) w:=by
 obtain⟨f,c,d⟩:=h;have⟨e,hk⟩:=ED a b;rw[c.look EC aj.underlying228 (abG w) hk,d]
def mf.put{w:ab}{aG n:Nat}{E:List df}(h:mf w aG n E)(d:n<maxLen)(e:df)(g:e.name.length<=1000): ∃w',(Instr.mapUpdate 228 (.map (some aG)) (.string ⟨e.name.toArray⟩) (.int .i64 e.size)).run aj.prog w=.ok () w'/\mf w' aG (n+1) (E++ [e])/\Fr (λk=>k=aG) w w':=by
 obtain⟨f,i,j⟩:=h;have⟨p,hk⟩:=ED e.name g;have⟨w',l,m,o⟩:=i.put EC aj.underlying228 d hk (.int .i64 e.size);refine⟨w',l,⟨_,m,λb=> ?_⟩,o⟩;rw[Z6];by_cases a:e.name=b
 .subst a;rw[aV rfl,AF];rfl
 .rw[aC a,AG _ _ (λc=>a ?_)]
  .exact j b
  .simp only[Value.string.injEq,ByteArray.mk.injEq]at c;have:=hq Array.toList c;simpa using this.symm
def yb(blk:Nat)(db:List df)(r:ar):Option (pJ×ar):=match eE 1 r with
 |none=>none
 |some (k,r)=>if 8<k then none else match lX blk db k [] r with|none=>none|some (fj,r)=>some (⟨blk,db,fj⟩,r)
def A3(blk:Nat)(r:ar):Option (pJ×ar):=match eE 1 r with
 |none=>none
 |some (n,r)=>if 8<n then none else match jM n [] r with|none=>none|some (db,r)=>yb blk db r
def EZ(r:ar):Option (pJ×ar):=match eE 1 r with
 |none=>none
 |some (blk,r)=>if blk<1\/64<blk then none else A3 blk r
def abH(s:ar)(h:3<=s.length):fa s=if s.take 3≠[66,65,84]then none else EZ (s.drop 3):=by
 unfold fa takeN;rw[aC U];rfl
def JB{a:ar}{first:Bool}{r r':ar}{e:df}(h:eN a first r=some (e,r')):e.name.length<=12/\e.size<=300:=by
 unfold eN at h;split at h
 .cases h
 .split at h
  .cases h
  .split at h
   .cases h
   .rename_i b;split at h
    .cases h
    .split at h
     .cases h
     .split at h
      .cases h
      .cases h;refine⟨?_,by simp at *;omega⟩;simp only[Bool.not_eq_false,cu]at b;have:=b.1;unfold isName at this;simp at this;exact this.1.2
def mf.sd{w:ab}{aG n B aK k:Nat}{T:TypeId}{E:List df}{v:ai}{xs:bJ}(h:mf w aG n E)(a:Vec w B T aK v k xs):v.ownBlock≠some aG:=by
 obtain⟨f,b,c⟩:=h;rcases a.2 with⟨rfl,-⟩|⟨g,cap,rest,rfl,-,ap,-⟩
 .intro h;simp[Value.ownBlock]at h
 .intro h;simp[Value.ownBlock]at h;exact b.apart ap h
def abI(e:df):∀u∈A2 e,u.oneCell'=true:=by
 intro u a;simp[A2]at a;rcases a with rfl|rfl|rfl<;>rfl
structure RL(w W:ab)(aO bd bc:Nat)(s:ar)(F:ai)(blk n aG:Nat)(i q m:Nat)(E:List df)(bv:ai):Prop where
 jR:m2 w W aO bd bc s F blk bv (.slice none 0 0) q
 aK:mf W aG m E
 vec:Vec W (w.heap.size+3) 152 3 bv E.length (m1 E)
 at_:jM n [] (s.drop 5)=jM (n - i) E (s.drop q)
 len:E.length=i
 le:i<=n
 yc:m=i
def abJ(E:List df)(b:List h7)(t:h7):lastT E (b++ [t])=t.dN.name:=by
 cases b with
 |nil=>rfl
 |cons a l=>
  show lW ((a::(l++ [t])).map (·.dN))=_
  rw[show(a::(l++ [t])).map (·.dN)=((a::l).map (·.dN))++ [t.dN] by simp];exact Ee _ _
def abK(E:List df)(a:ar)(h:∀e∈E,e.size<=300):mU E a<=300:=by
 have b:∀(E:List df)(s:Nat),s<=300->(∀e∈E,e.size<=300)->E.foldl (λs e=>if e.name=a then e.size else s) s<=300:=by
  intro E;induction E with
  |nil=>intro s h _;exact h
  |cons e E d=>
   intro s f c;refine d _ ?_ (λx g=>c x (by simp[g]));show(if e.name=a then e.size else s)<=300
   split
   .exact c e ag
   .exact f
 exact b E 0 U h
def abL:∀(n:Nat)(a:List df)(r r':ar)(x:List df),jM n a r=some (x,r')->(∀e∈a,e.size<=300)->∀e∈x,e.size<=300:=by
 intro n;induction n with
 |zero=>intro a r r' x h c;cases h;exact c
 |succ n d=>
  intro a r r' x h c;unfold jM at h;split at h
  .cases h
  .rename_i e g f;refine d _ _ _ _ h (λy b=> ?_);rcases fB.1 b with b|b
   .exact c y b
   .simp at b;subst b;exact(JB f).2
def abM(x:MT)(a:Option Addr)(n c:Nat)(h:x.v=.slice a n c):∀u∈x9 x,u.oneCell'=true:=by
 intro u b;simp[x9,h]at b;rcases b with rfl|rfl|rfl|rfl<;>rfl
def Vec.sd{w:ab}{B B' T d aK c n f:Nat}{v v':ai}{xs h:bJ}(i:Vec w B T aK v n xs)(j:Vec w B' d c v' f h)(k:T≠d):∀b,v.ownBlock=some b->v'.ownBlock≠some b:=by
 intro b l a;rcases j.2 with⟨rfl,-⟩|⟨g,cap,rest,rfl,-,ap,-⟩
 .simp[Value.ownBlock]at a
 .have e:g=b:=(by simpa[Value.ownBlock]using a);subst e;exact i.gI ap k l
structure LT(w W:ab)(aO bd bc:Nat)(s:ar)(F:ai)(blk k aG m:Nat)(E:List df)(bv:ai)(r0:ar)(j q:Nat)(mt:List MT)(cM:ai):Prop where
 jR:m2 w W aO bd bc s F blk bv cM q
 aK:mf W aG m E
 vec:Vec W (w.heap.size+3) 152 3 bv E.length (m1 E)
 JC:mb W (w.heap.size+3) cM mt
 at_:lX blk E k [] r0=lX blk E (k - j) (mt.map (·.t)) (s.drop q)
 len:mt.length=j
 le:j<=k
def nN{P:bF}{md:Region.Mode}{ops:dn}{Q:Exit->Act->ab->Prop}{S:ab->Prop}(i:Nat){e:Oper}{v:ai}{d:Nat}{b:Array Bool}{a a':Act}{w:ab}(h:wpAnyH P md ops Q S d (b.setIfInBounds i true) a' w)(af:ops[i]? =some e:=by rfl)(g:Region.noSelect ops=true:=by kernel_rfl)(j:Region.free md ops b i=true:=by kernel_rfl)(k:(Region.ready md ops b).contains i=true:=by kernel_rfl)(l:YieldsIf P ops S e v a:=by(refine Or.inl ⟨eI,?_⟩;intro w f;obtain⟨p,q,r,s,t⟩:=f;go_simp;try with_reducible rfl))(m:∀c a w,Q (.panic c) (a.put e.dst v) w->Q (.panic c) a w:=by first|exact λ_ _ _ h=>h|exact λc a w h=>abF _ _ c a w _ _ U h)(n:S w:=by assumption)(o:a.put e.dst v=a':=by((try simp only[Act.put,mg,mh,mi]);exact rfl)):wpAnyH P md ops Q S (d+1) b a w:=by subst o;exact wpAnyH_take af g j k m l n h
def abN(w:ab)(aO bd bc:Nat)(s:ar)(T:TypeId)(u:ai)(d:bH w (.slice (some ⟨aO,bd,none⟩) s.length bc) s)(dg:w.cell? ⟨1,0,none⟩=some (.iface T u))(pU:fz s≠none): Calls aj.prog 66 #[.slice (some ⟨aO,bd,none⟩) s.length bc] w (EY w s):=by
 have abO:∀(fn:Fn)(first cap:aQ)(w:ab),(Instr.makeFunc fn first cap).run aj.prog w=.ok (.func fn first cap) w:=λ_ _ _ _=>rfl;have vO:=@run_makeMap aj.prog;have hm:=d.len;have abP:=d.ko aO rfl;have m3:1<w.heap.size:=yd w _ dg;have cc:Fr aD w (((w.alloc (.cells #[.int .i64 0,.slice none 0 0,.slice none 0 0] 146)).alloc (.cells #[.nilIface] 60)).alloc (.cells #[.slice (some ⟨aO,bd,none⟩) s.length bc,.int .i64 0] 224)):=(((Fr.refl _ _).alloc _).alloc _).alloc _;have eA:m2 w (((w.alloc (.cells #[.int .i64 0,.slice none 0 0,.slice none 0 0] 146)).alloc (.cells #[.nilIface] 60)).alloc (.cells #[.slice (some ⟨aO,bd,none⟩) s.length bc,.int .i64 0] 224)) aO bd bc s (.iface T u) 0 (.slice none 0 0) (.slice none 0 0) 0:=by
  refine⟨?_,?_,⟨?_,d.br cc,dl _,cc.cell dg id,U⟩,cc,abP,m3⟩
  .exact((Own.alloc w #[.int .i64 0,.slice none 0 0,.slice none 0 0] 146).keep ((Fr.refl aD _).alloc _) id).keep ((Fr.refl aD _).alloc _) id
  .have:=(Own.alloc (w.alloc (.cells #[.int .i64 0,.slice none 0 0,.slice none 0 0] 146)) #[.nilIface] 60).keep ((Fr.refl aD _).alloc (.cells #[.slice (some ⟨aO,bd,none⟩) s.length bc,.int .i64 0] 224)) id;simpa using this
  .have:=Own.alloc ((w.alloc (.cells #[.int .i64 0,.slice none 0 0,.slice none 0 0] 146)).alloc (.cells #[.nilIface] 60)) #[.slice (some ⟨aO,bd,none⟩) s.length bc,.int .i64 0] 224;simpa using this
 have r7:=ae eA;have C:=ae pU;clear d dg cc eA pU;by_cases a1:s.length<3
 .exact absurd (o4 (show fa s=none by unfold fa takeN;rw[aV a1])) C.o
 replace a1:3<=s.length:=U;go_enter_defers aj.func66,Tryz.ntmps66;go_wp2_with fail;go_at_call 117;refine(EF _ _ aO bd bc s 0 3 _ r7.o.r U U).mono ?_;rintro e w1⟨off,rfl,pX,rV,fL⟩;rw[lY]at rV;have JD:=ae (r7.o.step fL rV);have nC:=xT (P:=aj.prog) w1 25 9 5 _ _ aj.underlying25 aj.underlying5 aj.underlying9 pX;rw[A4]at nC;clear pX rV fL;have G:=ae (abH s a1);go_wp2_with fail;clear nC;by_cases g3:¬s.take 3=[66,65,84]
 .exact absurd (o4 (show fa s=none by rw[G.o,aV g3])) C.o
 replace g3:s.take 3=[66,65,84]:=Classical.not_not.1 g3;replace G:=ae (show fa s=EZ (s.drop 3) by rw[G.o,aC (λh=>h g3)]);go_at_call 116;refine x8 (q0 _ _ _ ?_) ?_
 .rw[ho];exact g3
 rintro e w'⟨rfl,rfl⟩;by_cases nO:s.length<3+1
 .exact absurd (o4 (show fa s=none by rw[G.o];unfold EZ;rw[om nO U])) C.o
 replace nO:3+1<=s.length:=U;have vJ:=vC nO;have fq:=ol nO;obtain⟨blk,tS⟩:∃k,numOf ((s.drop 3).take 1)=k:=⟨_,rfl⟩;have abQ:=ae tS;rw[tS]at vJ fq;replace G:=ae (show fa s=(if blk<1\/64<blk then none else A3 blk (s.drop (3+1))) by rw[G.o];unfold EZ;rw[fq]);clear fq tS;go_wp2_with fail;go_at_call 118;refine(o0 _ _ aO bd bc s 3 1 _ rfl _ JD.o.r U nO).mono ?_;rintro e w2⟨rfl,AK,tI⟩;rw[abQ.o];have E0:=JD.o.step tI AK;have x0:=E0.x.cell (i:=0) rfl;have ES:=E0.x.free 0 ag;have vP:=ae (E0.set 0 (.int .i64 blk) blk (.slice none 0 0) (.slice none 0 0) rfl);clear AK tI E0 JD;by_cases mY:¬(1:Int)<=(blk:Int)
 .exact absurd (o4 (show fa s=none by rw[G.o,aV (.inl U)])) C.o
 replace mY:(1:Int)<=(blk:Int):=U;by_cases fM:64<blk
 .exact absurd (o4 (show fa s=none by rw[G.o,aV (.inr fM)])) C.o
 go_wp2_with fail;go_at_call 116;refine x8 (q0 _ _ _ ?_) ?_
 .exact vE U
 rintro e w'⟨rfl,rfl⟩;replace G:=ae (show fa s=A3 blk (s.drop 4) by rw[G.o,aC U]);clear x0 ES;generalize w2.setCell ⟨w.heap.size,0,none⟩ (.int .i64 blk)=w3 at *;have RN:=ae (vP.o.br ((Fr.refl aD _).alloc (.map #[] 0)));have RO:=ae (mf.made w3);have vQ:w.heap.size+3<=w3.heap.size:=(by have:=vP.o.r.own.lt;omega);by_cases nP:s.length<4+1
 .exact absurd (o4 (show fa s=none by rw[G.o];unfold A3;rw[om nP U])) C.o
 replace nP:4+1<=s.length:=U;have rW:=vC nP;have h9:=ol nP;obtain⟨n,JE⟩:∃k,numOf ((s.drop 4).take 1)=k:=⟨_,rfl⟩;have A5:=ae JE;rw[JE]at rW h9;replace G:=ae (show fa s=(if 8<n then none else match jM n [] (s.drop 5)with|none=>none|some (db,r)=>yb blk db r) by rw[G.o];unfold A3;rw[h9]);clear h9 JE;go_wp2_with fail;go_at_call 118;refine(o0 _ _ aO bd bc s 4 1 _ rfl _ RN.o.r U nP).mono ?_;rintro e cU⟨rfl,AY,mZ⟩;rw[A5.o];have A6:=ae (RN.o.step mZ AY);have RP:=ae (RO.o.keep mZ U);have RQ:w3.heap.size+1<=cU.heap.size:=(by have:=mZ.size;simp at this;omega);clear AY mZ;go_wp2_with fail;by_cases m0:8<n
 .exact absurd (o4 (show fa s=none by rw[G.o,aV m0])) C.o
 go_at_call 116;refine x8 (q0 _ _ _ ?_) ?_
 .exact vE U
 rintro e w'⟨rfl,rfl⟩;replace G:=ae (show fa s=(match jM n [] (s.drop 5)with|none=>none|some (db,r)=>yb blk db r) by rw[G.o,aC m0]);go_wp2_with fail;have ow:w.heap.size+3<=w3.heap.size:=vQ;obtain⟨aG,RR⟩:∃aG,w3.heap.size=aG:=⟨_,rfl⟩;rw[RR]at RP ow⊢;have RS:RL w cU aO bd bc s (.iface T u) blk n aG 0 5 0 [] (.slice none 0 0):=⟨A6.o,RP.o,Vec.nil _ _ _ _,rfl,rfl,dl _,rfl⟩;have abR:=ae RS;clear RS RO RR;have tT:n<=8:=U;go_loopw [7,44] (λfD cv wr=>∃(i q m:Nat)(E:List df)(bv:ai),fD=.string ⟨(lW E).toArray⟩/\cv=.int .i64 i/\RL w wr aO bd bc s (.iface T u) blk n aG i q m E bv) (λ_ cv _=>n - (intOf cv).toNat)
 case atStart=>exact⟨0,5,0,[],_,rfl,rfl,abR.o⟩
 case round=>
  obtain⟨i,q,m,E,bv,rfl,rfl,M⟩:=hrel;obtain⟨ib,g5,A7,-⟩:=M.vec.shape;subst A7;have N:=ae M;have g4:=M.len;have abS:=M.le;have aui:=M.yc;have abT:=M.jR.r.le;have nF:w.heap.size+3<=wr.heap.size:=(by have:=M.jR.r.own.lt;omega);have auj:aG<wr.heap.size:=(by obtain⟨f,bD,-⟩:=M.aK;exact bD.lt);by_cases gJ:i<n
  .have RE:((i:Int)==0)=E.isEmpty:=by
    cases E with
    |nil=>
     have:i=0:=(by simpa using g4.symm);subst this;rfl
    |cons a l=>
     have:i≠0:=(by simp at g4;omega);show _=false
     rw[oe];omega
   have se:=Rv wr (w.heap.size+1+1) aO bd bc s q T u M.jR.r ⟨(lW E).toArray⟩ E.isEmpty;rw[show(⟨(lW E).toArray⟩:dI).data.toList=lW E from by simp]at se;have A8:=ae se;have Q:jM (n - i) E (s.drop q)=(match eN (lW E) E.isEmpty (s.drop q)with|none=>none|some (e,r)=>jM (n - (i+1)) (E++ [e]) r):=(by rw[show n - i=(n - (i+1))+1 by omega];rfl);have R:=ae Q;have o1:=ae g4;have A9:E.length<=8:=U;clear se Q M g4;cases hN:eN (lW E) E.isEmpty (s.drop q)with
   |none=>exact absurd (o4 (show fa s=none by rw[G.o,N.o.at_,R.o,hN])) C.o
   |some JF=>
    obtain⟨x,r⟩:=JF;rw[hN]at A8;have abU:=ae (show jM n [] (s.drop 5)=jM (n - (i+1)) (E++ [x]) r by rw[N.o.at_,R.o,hN]);have nQ:=JB hN;clear hN;go_wp2_with fail;go_at_call 119;refine(A8.o nofun).mono ?_;rintro e cI⟨Y,a8,rfl,rfl,tR⟩;have RU:=N.o.jR.step Y tR;have vR:=Y.size;have E1:Own (cI.alloc (.cells #[.string ⟨x.name.toArray⟩,.int .i64 x.size,.int .u64 x.e9] 152)) cI.heap.size 152 [.string ⟨x.name.toArray⟩,.int .i64 x.size,.int .u64 x.e9]:=Own.alloc _ _ _;have E2:Fr aD cI (cI.alloc (.cells #[.string ⟨x.name.toArray⟩,.int .i64 x.size,.int .u64 x.e9] 152)):=(Fr.refl _ _).alloc _;have JG:=(N.o.vec.keep Y (λb d bw=>by have:=(N.o.vec.lt b d).1;omega)).keep E2 (λ_ _ h=>h);have JH:=(N.o.aK.keep Y U).keep E2 id;have⟨fE,auk,ye,q4⟩:=JH.put eH x U;have Z:=(RU.br E2).keep q4 (λk hk=>U);have Ba:=JG.keep q4 (λb d bw=>by subst bw;exact JH.sd JG d);have O:=E1.keep q4 U;have eY:=E1.cell (i:=0) rfl;have c1:=E1.cell (i:=1) rfl;have d0:=O.cell (i:=0) rfl;have d1:=O.cell (i:=1) rfl;have d2:=O.cell (i:=2) rfl;have x1:=Z.x.cell (i:=1) rfl;have o:=ae Z;have m4:=ae Ba;have Bb:=ae ye;have JI:w.heap.size+3<=fE.heap.size:=(by have:=Z.r.own.lt;omega);clear RU E1 E2 JG JH q4 Z Ba ye O Y tR;go_wp2_with (at_builtin;refine fP rfl (.tmp 60) (.tmp 62) _ rfl (w.heap.size+3) 152 3 32 abv (m4.o.keep ((Fr.refl aD _).alloc _) (λ_ _ h=>h)) rfl (m:=1) (Reads.new _ _ _ _ ag _ _) rfl rfl (abI x) eH U a5 ?_;intro iJ g6 JJ p vS JK;obtain⟨fN,gL,vT,-⟩:=JJ.shape;subst vT;have F:=ae ((o.o.br ((Fr.refl aD _).alloc _)).keep p (λk hk=>(m4.o.lt k hk).1));have q5:=ae ((Bb.o.keep ((Fr.refl aD _).alloc _) id).keep p (Bb.o.sd m4.o));have hO:=F.o.x.cell (i:=1) rfl;have nH:=F.o.x.free 1 ag;have yf:=ae JJ;clear JJ p vS JK);have sf:Fr (λk=>k=w.heap.size) g6 (g6.setCell ⟨w.heap.size,1,none⟩ (.slice fN (E.length+1) gL)):=(Fr.refl _ _).setCell _ _ (λ_=>rfl);have abV:=yf.o.keep sf (λb d bw=>by have:=(yf.o.lt b d).1;omega);refine⟨⟨i+1,a8,m+1,E++ [x],.slice fN (E.length+1) gL,by rw[Ee],by go_num,⟨F.o.set 1 _ _ _ _ rfl,q5.o.keep sf U,by rw[cr,aby];exact abV,abU.o,by simp[o1.o],U,U⟩⟩,by simp[intOf];omega⟩
  .have RV:n - i=0:=U;have p5:=N.o.at_;rw[RV]at p5;replace G:=ae (show fa s=yb blk E (s.drop q) by rw[G.o,p5];rfl);have hQ:=ae (abL n [] (s.drop 5) (s.drop q) E (by rw[p5];rfl) (λ_ h=>by simp at h));have aul:E.length<=8:=U;have aum:=ae M;have abW:¬((i:Int)< (n:Int)):=U;clear M p5 g4 abS RV;by_cases nR:s.length<q+1
   .exact absurd (o4 (show fa s=none by rw[G.o];unfold yb;rw[om nR abT])) C.o
   replace nR:q+1<=s.length:=U;have abX:=vC nR;have JL:=ol nR;obtain⟨k,ov⟩:∃k,numOf ((s.drop q).take 1)=k:=⟨_,rfl⟩;have AI:=ae ov;rw[ov]at abX JL;replace G:=ae (show fa s=(if 8<k then none else match lX blk E k [] (s.drop (q+1))with|none=>none|some (fj,r)=>some (⟨blk,E,fj⟩,r)) by rw[G.o];unfold yb;rw[JL]);clear JL ov;go_wp2_with fail;go_at_call 118;refine(o0 _ _ aO bd bc s q 1 _ rfl _ N.o.jR.r U nR).mono ?_;rintro e cI⟨rfl,tR,Y⟩;rw[AI.o];have RX:=N.o.vec.keep Y (λb d bw=>by have:=(N.o.vec.lt b d).1;omega);have RY:LT w cI aO bd bc s (.iface T u) blk k aG m E (.slice ib E.length g5) (s.drop (q+1)) 0 (q+1) [] (.slice none 0 0):=⟨N.o.jR.step Y tR,N.o.aK.keep Y U,RX,mb.nil _ _,rfl,rfl,dl _⟩;have abY:=ae RY;clear tR Y RX RY;go_wp2_with fail;by_cases sa:8<k
   .exact absurd (o4 (show fa s=none by rw[G.o,aV sa])) C.o
   go_at_call 116;refine x8 (q0 _ _ _ ?_) ?_
   .exact vE U
   rintro e w'⟨rfl,rfl⟩;replace G:=ae (show fa s=(match lX blk E k [] (s.drop (q+1))with|none=>none|some (fj,r)=>some (⟨blk,E,fj⟩,r)) by rw[G.o,aC sa]);have RZ:k<=8:=U;go_wp2_with fail;go_loopw [7,73] (λfD cv wr=>∃(j H:Nat)(z:List MT)(cM:ai),fD=.string ⟨(lastT E (z.map (·.t))).toArray⟩/\cv=.int .i64 j/\LT w wr aO bd bc s (.iface T u) blk k aG m E (.slice ib E.length g5) (s.drop (q+1)) j H z cM) (λ_ cv _=>k - (intOf cv).toNat)
   case atStart=>exact⟨0,q+1,[],_,rfl,rfl,abY.o⟩
   case round=>
    obtain⟨j,H,z,cM,rfl,rfl,aa⟩:=hrel;have aun:=aa.le;have hlen:=aa.len;have abZ:=aa.jR.r.le;have ab0:w.heap.size+3<=wr.heap.size:=(by have:=aa.jR.r.own.lt;omega);obtain⟨aT,jS,vU,-⟩:=aa.JC.vec.shape;subst vU;have A:=ae aa;by_cases auo:j<k
    .have aup:((j:Int)==0)=z.isEmpty:=by
      cases z with
      |nil=>
       have:j=0:=(by simpa using hlen.symm);subst this;rfl
      |cons a l=>
       have:j≠0:=(by simp at hlen;omega);show _=false
       rw[oe];omega
     have se:=Rv wr (w.heap.size+1+1) aO bd bc s H T u aa.jR.r ⟨(lastT E (z.map (·.t))).toArray⟩ z.isEmpty;rw[show(⟨(lastT E (z.map (·.t))).toArray⟩:dI).data.toList=lastT E (z.map (·.t))from by simp]at se;have A8:=ae se;have Q:lX blk E (k - j) (z.map (·.t)) (s.drop H)=(match eN (lastT E (z.map (·.t))) z.isEmpty (s.drop H)with
      |none=>none
      |some (e,r)=>match nv blk (mU E e.name) e.size r with|none=>none|some (l,r)=>lX blk E (k - (j+1)) (z.map (·.t)++ [⟨e,l⟩]) r):=by
      rw[show k - j=(k - (j+1))+1 by omega,show z.isEmpty=(z.map (·.t)).isEmpty by simp];rfl
     have R:=ae Q;have ab1:=ae hlen;have yg:z.length<=8:=U;clear se Q aa hlen;cases hN:eN (lastT E (z.map (·.t))) z.isEmpty (s.drop H)with
     |none=>exact absurd (o4 (show fa s=none by rw[G.o,A.o.at_,R.o,hN])) C.o
     |some JF=>
      obtain⟨x,r⟩:=JF;rw[hN]at A8;have R0:=ae (show lX blk E k [] (s.drop (q+1))=(match nv blk (mU E x.name) x.size r with|none=>none|some (l,r)=>lX blk E (k - (j+1)) (z.map (·.t)++ [⟨x,l⟩]) r) by rw[A.o.at_,R.o,hN]);have nQ:=JB hN;clear hN;go_wp2_with fail;go_at_call 119;refine(A8.o nofun).mono ?_;rintro e ef⟨g7,gg,rfl,rfl,x3⟩;have Z:=(A.o.jR.step g7 x3).br ((Fr.refl aD ef).alloc (.cells #[.string ⟨x.name.toArray⟩,.int .i64 x.size,.int .u64 x.e9] 152));have ye:=(A.o.aK.keep g7 U).keep ((Fr.refl aD ef).alloc (.cells #[.string ⟨x.name.toArray⟩,.int .i64 x.size,.int .u64 x.e9] 152)) id;have Ba:=(A.o.vec.keep g7 (λb d bw=>by have:=(A.o.vec.lt b d).1;omega)).keep ((Fr.refl aD ef).alloc (.cells #[.string ⟨x.name.toArray⟩,.int .i64 x.size,.int .u64 x.e9] 152)) (λ_ _ h=>h);have O:=Own.alloc ef #[.string ⟨x.name.toArray⟩,.int .i64 x.size,.int .u64 x.e9] 152;have R1:=(A.o.JC.below g7 (λb d=>by subst d;omega)).below ((Fr.refl aD ef).alloc (.cells #[.string ⟨x.name.toArray⟩,.int .i64 x.size,.int .u64 x.e9] 152)) (λb d=>d.elim);have R2:=g7.size;have JI:(ef.alloc (.cells #[.string ⟨x.name.toArray⟩,.int .i64 x.size,.int .u64 x.e9] 152)).heap.size=ef.heap.size+1:=ag;obtain⟨o5,ab2⟩:∃o5,ef.heap.size=o5:=⟨_,rfl⟩;have g0:=O.cell (i:=0) rfl;clear x3 g7;go_wp2_with fail;rw[ab2]at O JI;clear g0;generalize ef.alloc (.cells #[.string ⟨x.name.toArray⟩,.int .i64 x.size,.int .u64 x.e9] 152)=fE at *;have g0:=O.cell (i:=0) rfl;have g1:=O.cell (i:=1) rfl;have fC:=O.cell (i:=2) rfl;have x0:=Z.x.cell (i:=0) rfl;have gz:=Z.x.cell (i:=2) rfl;have ES:=Z.x.free 2 ag;have o:=ae Z;have Bb:=ae ye;have m4:=ae Ba;have R3:=ae O;have Bc:=ae R1;have vV:=(ye.keep (Fr.drew (Fr.refl aD fE)) id).look x.name U;have R4:=abK E x.name hQ.o;have q6:=λ(W:ab)(h:g2 W (w.heap.size+1+1) aO bd bc s gg (.iface T u))=>abe W (w.heap.size+1+1) aO bd bc s gg T u h blk (mU E x.name) x.size U U R4 nQ.2;have l9:=ae q6;clear Z ye Ba O R1 q6;cases JM:nv blk (mU E x.name) x.size (s.drop gg)with
      |none=>exact absurd (o4 (show fa s=none by rw[G.o,R0.o,JM])) C.o
      |some ab3=>
       obtain⟨lt,r⟩:=ab3;have R5:∀(W:ab)(mY fM:ai),Own W o5 152 [.string ⟨x.name.toArray⟩,.int .i64 x.size,.int .u64 x.e9]->Own W w.heap.size 146 [.int .i64 blk,mY,fM]->mf W aG m E->(λw'=>w'.cell? ⟨o5,0,none⟩=some (.string ⟨x.name.toArray⟩)/\w'.cell? ⟨o5,1,none⟩=some (.int .i64 x.size)/\w'.cell? ⟨o5,2,none⟩=some (.int .u64 x.e9)/\w'.cell? ⟨w.heap.size,0,none⟩=some (.int .i64 blk)/\(Instr.lookup 228 (.map (some aG)) (.string ⟨x.name.toArray⟩) false).run aj.prog w'=.ok (.int .i64 (mU E x.name)) w') W:=λW mY fM bD cb b7=>⟨bD.cell (i:=0) rfl,bD.cell (i:=1) rfl,bD.cell (i:=2) rfl,cb.cell (i:=0) rfl,b7.look x.name U⟩;have az:=ae (λ(W:ab){mY fM:ai}bD cb b7=>R5 W mY fM bD cb b7);clear R5;rw[JM]at l9;refine wp_region_noPanic ?_;have ab4:(λw'=>w'.cell? ⟨o5,0,none⟩=some (.string ⟨x.name.toArray⟩)/\w'.cell? ⟨o5,1,none⟩=some (.int .i64 x.size)/\w'.cell? ⟨o5,2,none⟩=some (.int .u64 x.e9)/\w'.cell? ⟨w.heap.size,0,none⟩=some (.int .i64 blk)/\(Instr.lookup 228 (.map (some aG)) (.string ⟨x.name.toArray⟩) false).run aj.prog w'=.ok (.int .i64 (mU E x.name)) w') fE.drew:=⟨by simpa using g0,by simpa using g1,by simpa using fC,by simpa using x0,vV⟩;refine wp_region_held_drew (S:=(λw'=>w'.cell? ⟨o5,0,none⟩=some (.string ⟨x.name.toArray⟩)/\w'.cell? ⟨o5,1,none⟩=some (.int .i64 x.size)/\w'.cell? ⟨o5,2,none⟩=some (.int .u64 x.e9)/\w'.cell? ⟨w.heap.size,0,none⟩=some (.int .i64 blk)/\(Instr.lookup 228 (.map (some aG)) (.string ⟨x.name.toArray⟩) false).run aj.prog w'=.ok (.int .i64 (mU E x.name)) w')) ah ab4 (λV=> ?_);refine nN 0 ?_;refine nN 2 ?_;refine nN 3 ?_;refine nN 4 ?_;refine nN 5 ?_;refine nN 6 ?_;refine nN 7 ?_;refine nN 8 ?_;refine nN 9 ?_;refine nN 10 ?_;refine nN 11 ?_;refine wpAnyH_ready (rs:=[1,12]) ah ag ?_;refine AllReadyH.cons rfl (λK J=> ?_) ?_;focus
        go_simp;refine J.out _ _ V (λab5=> ?_);clear J K V;try simp only[Act.put,mg,mh,mi]
        have V:=ab5;refine wpAnyH_ready (rs:=[12]) ah ag ?_;refine AllReadyH.cons rfl (λK J=> ?_) AllReadyH.nil;go_simp;go_at_call 120;refine(l9.o _ (o.o.r.keep (Fr.drew (Fr.refl aD _)) id id id) nofun).mono ?_;rintro e g6⟨p,ab6,L,ks,rfl,X,Bd,rfl,Be⟩;obtain⟨fN,gL,vT,-⟩:=X.vec.shape;subst vT;have F:=ae ((o.o.br (Fr.drew (Fr.refl aD _))).step p Be);have q7:=ae ((R3.o.keep (Fr.drew (Fr.refl aD _)) id).keep p U);have q5:=ae ((Bb.o.keep (Fr.drew (Fr.refl aD _)) id).keep p U);have JN:=ae p;have R6:=ae X;have R7:=ae Bd;have yh:=ae ((Bc.o.below (Fr.drew (Fr.refl aD _)) (λb d=>d.elim)).below p (λb d=>by subst d;omega));have Bf:=p.size;have ou:=F.o.x.cell (i:=2) rfl;have Js:w.heap.size<g6.heap.size:=F.o.x.lt;clear p X Bd Be;refine J.out _ _ (az.o _ q7.o F.o.x q5.o) (λy=> ?_);clear J K V;try simp only[Act.put,mg,mh,mi]
        refine nN 13 ?_;refine wpAnyH_ready (rs:=[14]) ah ag ?_;refine AllReadyH.cons rfl (λK J=> ?_) AllReadyH.nil;go_simp;refine J.out _ _ (az.o _ (q7.o.keep ((Fr.refl aD _).alloc _) id) (F.o.x.keep ((Fr.refl aD _).alloc _) id) (q5.o.keep ((Fr.refl aD _).alloc _) id)) (λg=> ?_);clear J K y;try simp only[Act.put,mg,mh,mi]
       rotate_left;focus
        refine AllReadyH.cons rfl (λK J=> ?_) AllReadyH.nil;go_simp;go_at_call 120;refine(l9.o _ (o.o.r.keep (Fr.drew (Fr.refl aD _)) id id id) nofun).mono ?_;rintro e g6⟨p,ab6,L,ks,rfl,X,Bd,rfl,Be⟩;obtain⟨fN,gL,vT,-⟩:=X.vec.shape;subst vT;have F:=ae ((o.o.br (Fr.drew (Fr.refl aD _))).step p Be);have q7:=ae ((R3.o.keep (Fr.drew (Fr.refl aD _)) id).keep p U);have q5:=ae ((Bb.o.keep (Fr.drew (Fr.refl aD _)) id).keep p U);have JN:=ae p;have R6:=ae X;have R7:=ae Bd;have yh:=ae ((Bc.o.below (Fr.drew (Fr.refl aD _)) (λb d=>d.elim)).below p (λb d=>by subst d;omega));have Bf:=p.size;have ou:=F.o.x.cell (i:=2) rfl;have Js:w.heap.size<g6.heap.size:=F.o.x.lt;clear p X Bd Be;refine J.out _ _ (az.o _ q7.o F.o.x q5.o) (λy=> ?_);clear J K V;try simp only[Act.put,mg,mh,mi]
        refine nN 13 ?_;refine wpAnyH_ready (rs:=[1,14]) ah ag ?_;refine AllReadyH.cons rfl (λK J=> ?_) (AllReadyH.cons rfl (λK J=> ?_) AllReadyH.nil);focus
         go_simp;refine J.out _ _ y (λB=> ?_);clear J K y;have y:=B;clear B;try simp only[Act.put,mg,mh,mi]
         refine wpAnyH_ready (rs:=[14]) ah ag ?_;refine AllReadyH.cons rfl (λK J=> ?_) AllReadyH.nil;go_simp;refine J.out _ _ (az.o _ (q7.o.keep ((Fr.refl aD _).alloc _) id) (F.o.x.keep ((Fr.refl aD _).alloc _) id) (q5.o.keep ((Fr.refl aD _).alloc _) id)) (λg=> ?_);clear J K y;try simp only[Act.put,mg,mh,mi]
        rotate_left;focus
         go_simp;refine J.out _ _ (az.o _ (q7.o.keep ((Fr.refl aD _).alloc _) id) (F.o.x.keep ((Fr.refl aD _).alloc _) id) (q5.o.keep ((Fr.refl aD _).alloc _) id)) (λg=> ?_);clear J K y;try simp only[Act.put,mg,mh,mi]
         refine wpAnyH_ready (rs:=[1]) ah ag ?_;refine AllReadyH.cons rfl (λK J=> ?_) AllReadyH.nil;go_simp;refine J.out _ _ g (λB=> ?_);clear J K g;have g:=B;clear B;try simp only[Act.put,mg,mh,mi]
       all_goals
        refine wpAnyH_ready (rs:=[15]) ah ag ?_;refine AllReadyH.cons rfl (λK J=> ?_) AllReadyH.nil;rw[aV eI];refine tK (.tmp 84) (.tmp 97) 144 rfl (w.heap.size+3) 155 4 56 abx (v:=.slice aT z.length jS) (n:=z.length) (xs:=nL z) (yh.o.vec.keep ((Fr.refl aD _).alloc _) (λ_ _ h=>h)) rfl (m:=1) (Reads.new _ _ _ _ ag _ _) rfl rfl (abM ⟨⟨x,lt⟩,.slice fN L.length gL,L⟩ fN _ gL rfl) eH U (by simp at Bf⊢;omega) ?_;intro v11 JO vW tU E3;obtain⟨vX,Bg,ab7,-⟩:=vW.shape;subst ab7;have E4:=ae ((F.o.br ((Fr.refl aD _).alloc (.cells #[.string ⟨x.name.toArray⟩,.int .i64 x.size,.int .u64 x.e9,.slice fN L.length gL] 155))).keep tU (λk hk=>(yh.o.vec.lt k hk).1));have R8:=ae ((q7.o.keep ((Fr.refl aD _).alloc (.cells #[.string ⟨x.name.toArray⟩,.int .i64 x.size,.int .u64 x.e9,.slice fN L.length gL] 155)) id).keep tU (yh.o.vec.gI q7.o aE));have JP:=ae ((q5.o.keep ((Fr.refl aD _).alloc (.cells #[.string ⟨x.name.toArray⟩,.int .i64 x.size,.int .u64 x.e9,.slice fN L.length gL] 155)) id).keep tU (q5.o.sd yh.o.vec));have JQ:=ae vW;have R9:=ae tU;have hP:=E4.o.x.cell (i:=2) rfl;have nH:=E4.o.x.free 2 ag;clear vW tU E3;refine J.out _ _ (az.o _ R8.o E4.o.x JP.o) (λab8=> ?_);clear J K g;try simp only[Act.put,mg,mh,mi]
        refine nN 16 ?_;refine wpAnyH_ready (rs:=[17]) ah ag ?_;refine AllReadyH.cons rfl (λK J=> ?_) AllReadyH.nil;go_simp;have Bh:Fr (λk=>k=w.heap.size) JO (JO.setCell ⟨w.heap.size,2,none⟩ (.slice vX (z.length+1) Bg)):=(Fr.refl _ _).setCell _ _ (λ_=>rfl);have Sa:=ae (E4.o.set 2 (.slice vX (z.length+1) Bg) blk (.slice ib E.length g5) (.slice vX (z.length+1) Bg) rfl);refine J.out _ _ (az.o _ (R8.o.keep Bh U) Sa.o.x (JP.o.keep Bh U)) (λauq=> ?_);clear J K ab8;try simp only[Act.put,mg,mh,mi]
        refine wpAnyH_done ah ?_ _;refine NoPanic.normal ?_;go_wp2_with fail;have ab9:Fr (λb=>b<w.heap.size+3) fE (g6.alloc (.cells #[.string ⟨x.name.toArray⟩,.int .i64 x.size,.int .u64 x.e9,.slice fN L.length gL] 155)):=(((Fr.drew (Fr.refl aD fE)).mono (λ_ h _=>h.elim)).step JN.o (λb d bO=>U)).alloc _;have aca:=R6.o.br ((Fr.refl aD g6).alloc (.cells #[.string ⟨x.name.toArray⟩,.int .i64 x.size,.int .u64 x.e9,.slice fN L.length gL] 155));have acb:=mb.snoc (x:=⟨⟨x,lt⟩,.slice fN L.length gL,L⟩) Bc.o ab9 aca R7.o U JQ.o R9.o;have Sb:=((m4.o.keep (Fr.drew (Fr.refl aD fE)) (λ_ _ h=>h)).keep JN.o (λb d bw=>by have:=(m4.o.lt b d).1;omega)).keep ((Fr.refl aD g6).alloc (.cells #[.string ⟨x.name.toArray⟩,.int .i64 x.size,.int .u64 x.e9,.slice fN L.length gL] 155)) (λ_ _ h=>h);have Bi:=yh.o.vec.keep ((Fr.refl aD g6).alloc (.cells #[.string ⟨x.name.toArray⟩,.int .i64 x.size,.int .u64 x.e9,.slice fN L.length gL] 155)) (λ_ _ h=>h);have Sc:=Sb.keep R9.o (λb d=>Sb.sd Bi aE b d);have Sd:=R0.o;rw[JM]at Sd;refine⟨⟨j+1,ks,z++ [⟨⟨x,lt⟩,.slice fN L.length gL,L⟩],.slice vX (z.length+1) Bg,?_,by go_num,⟨Sa.o,JP.o.keep Bh U,Sc.keep Bh (λb d bw=>by have:=(Sc.lt b d).1;omega),acb.below Bh (λb d=>U),?_,by simp[ab1.o],U⟩⟩,by simp[intOf];omega⟩
        .rw[pS,Je,abJ]
        .rw[pS,Je];exact Sd
    .have Se:k - j=0:=U;have JR:=A.o.at_;rw[Se]at JR;have acd:¬((j:Int)< (k:Int)):=U;replace G:=ae (show fa s=some (⟨blk,E,z.map (·.t)⟩,s.drop H) by rw[G.o,JR];rfl);have ox:=ae (show fz s=if s.length=H+8/\(numOf ((s.drop H).take 8):Int)=cB (s.take H)then some ⟨blk,E,z.map (·.t)⟩else none by
      unfold fz;rw[G.o];simp only[Ax];rw[show s.length - (s.length - H)=H by omega];by_cases jQ:s.length=H+8
      .rw[show(s.drop H).take 8=s.drop H from iG (by rw[Ax];omega)];by_cases yi:(numOf (s.drop H):Int)=cB (s.take H)
       .rw[aV ⟨U,yi⟩,aV ⟨jQ,yi⟩]
       .rw[aC (λh=>yi h.2),aC (λh=>yi h.2)]
      .rw[aC (λh=>jQ U),aC (λh=>jQ h.1)])
     have tV:H<=bc:=by
      have⟨a,c,b9,bD,cb⟩:=A.o.jR.r.bytes.shape;simp only[eG]at b9;omega
     have r6:bc<=maxLen:=by
      have⟨a,c,b9,bD,cb⟩:=A.o.jR.r.bytes.shape;simp only[eG]at b9;omega
     have JS:=A.o.jR.r.bytes.part 0 H bc U abZ U r6;rw[Nat.sub_zero,oY,A4]at JS;have kr:=ae JS;have gM:=A.o.jR.r.own.cell (i:=1) rfl;have i1:(H:Int)<=(bc:Int):=U;have i2:(H:Int)<=(s.length:Int):=U;clear aa JR Se hlen JS;go_wp2_with fail;go_at_call 69;refine(tC _ (s.take H) _ kr.o).mono ?_;rintro e w'⟨rfl,rfl⟩;by_cases fN:s.length<H+8
     .exact absurd (show fz s=none by rw[ox.o,aC (λh=>U)]) C.o
     replace fN:H+8<=s.length:=U;have tW:=Jg fN;obtain⟨eZ,vY⟩:∃eZ,numOf ((s.drop H).take 8)=eZ:=⟨_,rfl⟩;have oo:=ae vY;rw[vY]at tW ox;have RB:=Jh eZ tW;obtain⟨D,nK⟩:∃D,cB (s.take H)=D:=⟨_,rfl⟩;rw[nK]at ox⊢;clear vY nK;go_wp2_with fail;go_at_call 118;refine(EG _ _ aO bd bc s H 8 _ rfl _ A.o.jR.r U fN).mono ?_;rintro e fE⟨rfl,JU,oy⟩;rw[oo.o];have o:=ae (A.o.jR.step oy JU);have m4:=ae (A.o.vec.keep oy (λb d bw=>by have:=(A.o.vec.lt b d).1;omega));have Bc:=ae (A.o.JC.below oy (λb d=>by subst d;omega));have p2:=o.o.r.own.cell (i:=1) rfl;have x0:=o.o.x.cell (i:=0) rfl;have x1:=o.o.x.cell (i:=1) rfl;have gz:=o.o.x.cell (i:=2) rfl;have f0:=o.o.x.free 0 ag;have f1:=o.o.x.free 1 ag;have f2:=o.o.x.free 2 ag;have ht:=o.o.e.cell (i:=0) rfl;have AQ:=o.o.e.free 0 ag;clear JU oy gM;by_cases c1:(eZ:Int)=D
     .have vD:((eZ:Int)==D)=true:=(by rw[ho];exact c1);by_cases c2:s.length=H+8
      .have vZ:=ae (show fz s=some ⟨blk,E,z.map (·.t)⟩ by rw[ox.o,aV ⟨c2,c1⟩]);have ace:=ae c2;have AN:((H:Int)+8==(s.length:Int))=true:=(by rw[ho];omega);clear c1 c2;go_wp2_with fail;go_at_call 116;refine x8 (q0 _ _ _ ?_) ?_
       .first|rfl|(rw[ho];have:=ace.o;omega)
       rintro e w'⟨rfl,rfl⟩;go_wp2_with fail;have JV:Fr (λk=>k=w.heap.size) fE (((fE.setCell ⟨w.heap.size,0,none⟩ (.int .i64 blk)).setCell ⟨w.heap.size,1,none⟩ (.slice ib E.length g5)).setCell ⟨w.heap.size,2,none⟩ (.slice aT z.length jS)):=(((Fr.refl (λk=>k=w.heap.size) fE).setCell ⟨w.heap.size,0,none⟩ (.int .i64 blk) (λ_=>rfl)).setCell ⟨w.heap.size,1,none⟩ (.slice ib E.length g5) (λ_=>rfl)).setCell ⟨w.heap.size,2,none⟩ (.slice aT z.length jS) (λ_=>rfl);have ku:Fr (λk=>k=w.heap.size\/k=w.heap.size+1) fE ((((fE.setCell ⟨w.heap.size,0,none⟩ (.int .i64 blk)).setCell ⟨w.heap.size,1,none⟩ (.slice ib E.length g5)).setCell ⟨w.heap.size,2,none⟩ (.slice aT z.length jS)).setCell ⟨w.heap.size+1,0,none⟩ .nilIface):=Fr.setCell (S:=λk=>k=w.heap.size\/k=w.heap.size+1) (JV.mono (λ_ h _=>.inl h)) ⟨w.heap.size+1,0,none⟩ .nilIface (λ_=>.inr rfl);refine abC w _ s ⟨blk,E,z.map (·.t)⟩ _ rfl rfl (.slice ib E.length g5) (.slice aT z.length jS) z ?_ ?_ ?_ vZ.o ?_ ?_ rfl
       .exact(((o.o.x.set 0 (.int .i64 blk)).set 1 (.slice ib E.length g5)).set 2 (.slice aT z.length jS)).keep ((Fr.refl (λk=>k=w.heap.size+1) _).setCell _ _ (λ_=>rfl)) U
       .exact(o.o.e.keep JV U).set 0 .nilIface
       .exact o.o.bo.step ku (λk hk bO=>U)
       .exact(m4.o.keep ku (λb d bw=>by have:=(m4.o.lt b d).1;omega)).mono U
       .exact(Bc.o.below ku (λb d=>U)).lift U
      .exact absurd (show fz s=none by rw[ox.o,aC (λh=>c2 h.1)]) C.o
     .exact absurd (show fz s=none by rw[ox.o,aC (λh=>c1 h.2)]) C.o
end Go.Proofs.YtlcdgbhigfgehabGreatDoor
namespace Go.Proofs.YtlcdgbhigfgehabGreatDoor
open Go.RowKit

end Go.Proofs.YtlcdgbhigfgehabGreatDoor
