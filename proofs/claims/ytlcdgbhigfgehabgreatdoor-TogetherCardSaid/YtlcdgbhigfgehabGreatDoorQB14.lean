import Derived.Test.YtlcdgbhigfgehabGreatDoorQB12
import Derived.Test.YtlcdgbhigfgehabGreatDoorQB13
import Derived.Lib.SlBytesConst
import Derived.Carry
set_option linter.all false
set_option maxRecDepth 100000
set_option maxHeartbeats 16000000
namespace Go.Proofs.YtlcdgbhigfgehabGreatDoor
open Go.RowKit Go.Maps

def ih(block:Int)(src ref:List aI):cZ:=if block<1\/64<block then .kind 1 else match ki src with|some n=>Fe (some n)|none=>Fe (ki ref)
def KA(f:aI)(h:f.name.length<=12):(km f).length<=23:=by simp[km,nA];omega
def afi(t:Tok)(h:t.d.length<=255):(pQ t).length<=257:=by unfold pQ;split<;>simp[nA];omega
def TL(l:List Tok)(h:∀t∈l,t.d.length<=255):(l.flatMap pQ).length<=l.length*257:=by
 induction l with
 |nil=>simp
 |cons a l b=>
  rw[Ex,cr,hJ];have:=b (λx c=>h x (by simp[c]));have:=afi a (h a ag);omega
def pd(ref:List aI)(blk k:Nat):ar:=rU ref blk++ (ref.take k).flatMap km
def TM(ref:List aI)(blk k:Nat)(h:k<ref.length):pd ref blk (k+1)=pd ref blk k++km ref[k]:=by
 unfold pd;rw[lV h,EX,KB,gY]
def afj(ref:List aI)(blk:Nat)(a:∀f∈ref,f.name.length<=12)(k:Nat)(hk:k<=ref.length):(pd ref blk k).length<=5+23*k:=by
 induction k with
 |zero=>simp[pd,rU]
 |succ k b=>
  rw[TM _ _ _ U,cr];have:=KA ref[k] (a _ (dy _));have:=b U;omega
def pe(H:ar)(src ref:List aI)(blk k:Nat):ar:=H++ (src.take k).flatMap (qY ref blk)
def TN(H:ar)(src ref:List aI)(blk k:Nat)(h:k<src.length):pe H src ref blk (k+1)=pe H src ref blk k++qY ref blk src[k]:=by
 unfold pe;rw[lV h,EX,KB,gY]
def afk(ref:List aI)(blk:Nat)(a:0<blk)(f:aI)(h:f.name.length<=12)(hd:f.data.length<=300):(qY ref blk f).length<=77200:=by
 unfold qY AD tD;have d:=KA f h;have b:=Eu (h8 ref f.name) f.data blk a hd;have e:=TL (nz (h8 ref f.name) f.data blk) (λt c=>by
  rcases b.2.1 t c with h|h
  .omega
  .rw[h.2.2.2];simp)
 simp only[cr,nA];omega
def afl(H:ar)(src ref:List aI)(blk:Nat)(b:0<blk)(a:∀f∈src,f.name.length<=12/\f.data.length<=300)(k:Nat)(hk:k<=src.length):(pe H src ref blk k).length<=H.length+77200*k:=by
 induction k with
 |zero=>simp[pe]
 |succ k c=>
  rw[TN _ _ _ _ _ U,cr];have:=afk ref blk b src[k] (a _ (dy _)).1 (a _ (dy _)).2;have:=c U;omega
def oC(H:ar)(l:List Tok)(j:Nat):ar:=H++ (l.take j).flatMap pQ
def afm(H:ar)(l:List Tok)(k:Nat)(h:k<l.length):oC H l (k+1)=oC H l k++pQ l[k]:=by
 unfold oC;rw[lV h,EX,KB,gY]
def afn(H:ar)(l:List Tok)(h:∀t∈l,t.d.length<=255)(k:Nat):(oC H l k).length<=H.length+l.length*257:=by
 unfold oC;rw[cr];have:=TL (l.take k) (λt a=>h t (List.mem_of_mem_take a));have b:(l.take k).length*257<=l.length*257:=vt _ a5;omega
def eO.afo{w w1:ab}{v v1:ai}(h:eO w.drew v v1 w1):eO w v v1 w1:=by
 have a:Fr aD w w.drew:=(Fr.refl _ _).drew;have d:=a.size;refine⟨(a.mono (λ_ h _=>h.elim)).step h.bo (λb c f=>c),?_⟩;rcases h.at_ with e|⟨g,e,i⟩
 .exact .inl e
 .exact .inr ⟨g,e,U⟩
def eO.TO{w w1 w2:ab}{v v1:ai}(k:Fr aD w w1)(h:eO w1 v v1 w2):eO w v v1 w2:=by
 have c:=k.size;refine⟨(k.mono (λ_ h _=>h.elim)).step h.bo (λb a d=>a),?_⟩;rcases h.at_ with e|⟨g,e,f⟩
 .exact .inl e
 .exact .inr ⟨g,e,U⟩
def Own.mark(w:ab)(a:aQ)(T:TypeId):Own (w.alloc (.cells a T (a.size,a.size+1))) w.heap.size T a.toList:=⟨(a.size,a.size+1),by simpa using heap_alloc_new w (.cells a T (a.size,a.size+1)),.inl ag⟩
def KC(W:ab)(a c:Option Addr)(cg b d e:Nat):Sem.run aj.prog (Instr.index 160 (.agg #[.slice a cg b,.slice c d e]) (.int .i64 0)) W=.ok (.slice a cg b) W:=ah
def KD(W:ab)(d a:Option Addr)(cg e b c:Nat):Sem.run aj.prog (Instr.index 160 (.agg #[.slice d cg e,.slice a b c]) (.int .i64 1)) W=.ok (.slice a b c) W:=ah
def afp(bE v1:ai)(src ref:List (aI×ai))(B:Nat)(block:Int)(w:ab)(a:ez w B bE src)(b:ez w B v1 ref)(c:block<1\/64<block): Calls aj.prog 47 #[bE,v1,.int .i64 block] w λe w'=>e=.returned (.tuple #[.slice none 0 0,.iface 30 (.int .i64 1)])/\Fr aD w w':=by
 obtain⟨d,f,rfl,-⟩:=a.vec.shape;obtain⟨g,h,rfl,-⟩:=b.vec.shape;have hk:=Ka block w;rw[show iM block []=1 from by unfold iM;rw[aV c]]at hk;have i:=ae hk;clear hk a b c;have j:=λW=>KC W d g src.length f ref.length h;have k:=λW=>KD W d g src.length f ref.length h;go_enter aj.func47,Tryz.ntmps47;go_wp2_with fail;refine i.o.mono ?_;rintro e w'⟨rfl,rfl⟩;rw[Bs 1 aE];go_wp2_with fail;go_ret2;exact⟨rfl,Fr.refl _ _⟩
def afq(bE v1:ai)(src ref:List (aI×ai))(B:Nat)(block:Int)(w:ab)(q:ez w B bE src)(r:ez w B v1 ref)(E:¬(block<1\/64<block))(c:∀p∈src,p.1.name.length<=1000000)(d:∀p∈src,p.1.data.length<=1000000)(f:∀p∈ref,p.1.name.length<=1000000)(i:∀p∈ref,p.1.data.length<=1000000)(n:ar)(b:ki (src.map (·.1))=some n\/ki (src.map (·.1))=none/\ki (ref.map (·.1))=some n): Calls aj.prog 47 #[bE,v1,.int .i64 block] w λe w'=>∃x,e=.returned (.tuple #[.slice none 0 0,x])/\eb w' x (.file ⟨n.toArray⟩ 4)/\Fr aD w w':=by
 have F:=ae q;have G:=ae r;obtain⟨s,t,rfl,-⟩:=q.vec.shape;obtain⟨u,v,rfl,-⟩:=r.vec.shape;have hk:=Ka block w;rw[show iM block []=0 from by unfold iM;rw[aC E];rfl]at hk;have H:=ae hk;have aa:=ae b;have j:=ae (λW(h:ez W B (.slice s src.length t) src)=>Bp _ src B W h c d);have y:=ae (λW(h:ez W B (.slice u ref.length v) ref)=>Bp _ ref B W h f i);clear hk q r E b c d f i;have J:=λW=>KC W s u src.length t ref.length v;have K:=λW=>KD W s u src.length t ref.length v;go_enter aj.func47,Tryz.ntmps47;go_wp2_with fail;refine H.o.mono ?_;rintro e w'⟨rfl,rfl⟩;rw[show o7 0=.nilIface from rfl];go_wp2_with fail;rcases aa.o with b|⟨b,k⟩
 .refine xU 1 ?_;rw[rT];have l:=ae (j.o w F.o);rw[b]at l;go_wp2_with fail;refine l.o.mono ?_;rintro e w1⟨x,rfl,m,a⟩;obtain⟨g,rfl,ap⟩:=m;have z:=ae ap;clear ap b;go_wp2_with fail;go_ret2;exact⟨_,rfl,⟨g,rfl,z.o⟩,a⟩
 .refine xU 2 ?_;rw[rT];have l:=ae (j.o w F.o);rw[b]at l;have A:=ae k;clear b k;go_wp2_with fail;refine l.o.mono ?_;rintro e w1⟨x,rfl,m,a⟩;obtain rfl:x=.nilIface:=m;have C:=ae a;have o:=ae (y.o w1 (G.o.br a));rw[A.o]at o;clear a;go_wp2_with fail;rw[rT];go_wp2_with fail;refine o.o.mono ?_;rintro e w2⟨x,rfl,m,D⟩;obtain⟨g,rfl,ap⟩:=m;have z:=ae ap;clear ap;go_wp2_with fail;go_ret2;exact⟨_,rfl,⟨g,rfl,z.o⟩,C.o.step D (λ_ h _=>h)⟩
def afr(bE v1:ai)(src ref:List (aI×ai))(B:Nat)(blk:Nat)(w:ab)(cz:ez w B bE src)(bD:ez w B v1 ref)(pX:1<=blk)(iI:blk<=64)(bw:dc (src.map (·.1)))(cl:dc (ref.map (·.1))): Calls aj.prog 47 #[bE,v1,.int .i64 blk] w λe w'=>∃x,e=.returned (.tuple #[x,.nilIface])/\Vec w' w.heap.size 5 1 x (iH (src.map (·.1)) (ref.map (·.1)) blk).length (bT (iH (src.map (·.1)) (ref.map (·.1)) blk))/\Fr aD w w':=by
 have wu:=ae cz;have H1:=ae bD;obtain⟨iN,eY,rfl,-⟩:=cz.vec.shape;obtain⟨a1,c1,rfl,-⟩:=bD.vec.shape;have hk:=Ka blk w;rw[show iM blk []=0 from by unfold iM;rw[aC U];rfl]at hk;have jU:=ae hk;have oD:=ae bw;have ox:=ae cl;have R4:src.length<=8:=(by have:=bw.len;simpa using this);have yy:ref.length<=8:=(by have:=cl.len;simpa using this);have hname:∀p∈src,p.1.name.length<=12/\p.1.data.length<=300:=λp b8=>by
  have h:=bw.ok p.1 (v5 b8);have b7:=h.1;unfold isName at b7;simp at b7;exact⟨U,h.2⟩
 have hname1:∀p∈ref,p.1.name.length<=12/\p.1.data.length<=300:=λp b8=>by
  have h:=cl.ok p.1 (v5 b8);have b7:=h.1;unfold isName at b7;simp at b7;exact⟨U,h.2⟩
 have EO:=ae hname;have TP:=ae hname1;have q3:=Bp _ src B w cz (λp b8=>by have:=(hname p b8).1;omega) (λp b8=>by have:=(hname p b8).2;omega);rw[(vx _).2 bw]at q3;have afs:=ae q3;have p1:∀W,Fr aD w W->Calls aj.prog 43 #[.slice a1 ref.length c1] W λe w'=>∃x,e=.returned x/\eb w' x .none/\Fr aD W w':=λW hW=>by
  have:=Bp _ ref B W (bD.br hW) (λp b8=>by have:=(hname1 p b8).1;omega) (λp b8=>by have:=(hname1 p b8).2;omega);rw[(vx _).2 cl]at this;exact this
 have FH:=ae p1;clear hk cz bD bw cl hname hname1 q3 p1;have uj:=λW=>KC W iN a1 src.length eY ref.length c1;have FI:=λW=>KD W iN a1 src.length eY ref.length c1;go_enter aj.func47,Tryz.ntmps47;go_wp2_with fail;refine jU.o.mono ?_;rintro e w'⟨rfl,rfl⟩;rw[show o7 0=.nilIface from rfl];go_wp2_with fail;refine xU 3 ?_;rw[rT];go_wp2_with fail;refine afs.o.mono ?_;rintro e w1⟨x,rfl,cD,fL⟩;obtain rfl:x=.nilIface:=cD;have TQ:=ae fL;clear fL;go_wp2_with fail;rw[rT];go_wp2_with fail;refine(FH.o w1 TQ.o).mono ?_;rintro e w2⟨x,rfl,cD,tI⟩;obtain rfl:x=.nilIface:=cD;have q1:=ae (TQ.o.step tI (λ_ h _=>h));clear tI;go_wp2_with fail;rw[rT];go_upto_region 11 with fail
 have q9:=q1.o.size;have nC:=Lib.run_convert_bytes_const (P:=aj.prog) w2 25 5 #[.int .u8 66,.int .u8 65,.int .u8 84] 3 3 aj.underlying25 aj.underlying5;have vO:=@run_makeMap aj.prog;have su:Vec (w2.alloc (.cells #[.int .u8 66,.int .u8 65,.int .u8 84] 5 (3,4))) w.heap.size 5 1 (.slice (some ⟨w2.heap.size,0,none⟩) 3 3) 3 [.int .u8 66,.int .u8 65,.int .u8 84]:=⟨rfl,.inr ⟨_,3,[],rfl,q9,Own.mark w2 #[.int .u8 66,.int .u8 65,.int .u8 84] _,rfl,bh _,eH⟩⟩;have KE:=ae su;have KF:=ae (q1.o.alloc (.cells #[.int .u8 66,.int .u8 65,.int .u8 84] 5 (3,4)));have Jq:IntKind.u8.wrap (blk:Int)=(blk:Int):=v0 _ U;have aft:IntKind.u8.wrap (ref.length:Int)=(ref.length:Int):=v0 _ U;clear su;go_upto_region 12 with(at_builtin;refine fP rfl (.tmp 40) (.tmp 46) _ rfl w.heap.size 5 1 1 kj (KE.o.keep ((Fr.refl aD _).alloc _) (λ_ _ h=>h)) rfl (m:=2) (Reads.new _ _ _ _ ag _ _) rfl rfl (by intro u hu;simp at hu;rcases hu with rfl|rfl<;>rfl) eH U a5 ?_;intro bA w3 yz yt rb afu;obtain⟨nO,c3,yp,-⟩:=yz.shape;subst yp;have TR:=ae yz;have nD:=ae (((KF.o.alloc _)).step yt (λb hb bO=>by have:=(KE.o.lt b hb).1;omega));clear yz yt rb afu)
 obtain⟨sw⟩:Nonempty (([Value.int .u8 66,.int .u8 65,.int .u8 84]++ [Value.int .u8 blk,.int .u8 ref.length])=bT (rU (ref.map (·.1)) blk)):=⟨by
  have ay:=yo blk U;have aF:=yo ref.length U;unfold rU;rw[show[66,65,84,UInt8.ofNat blk,UInt8.ofNat (ref.map (·.1)).length]=[66,65,84]++ [UInt8.ofNat blk]++ [UInt8.ofNat (ref.map (·.1)).length]from rfl,nx,nx,ay,pW,aF];rfl⟩
 have yz:Vec w3 w.heap.size 5 1 (.slice nO 5 c3) (rU (ref.map (·.1)) blk).length (bT (rU (ref.map (·.1)) blk)):=(by rw[<-sw];exact TR.o);have TS:=ae yz;have vQ:=nD.o.size;clear yz TR sw Jq aft;go_wp2_with fail;have KG:Fr aD w3 (w3.alloc (.map #[] 0)):=(Fr.refl _ _).alloc _;have yA:=ae (kw.made w3);have J7:=ae (TS.o.keep KG (λ_ _ h=>h));have x4:=ae (nD.o.step KG (λ_ h _=>h));have BM:w3.heap.size< (w3.alloc (.map #[] 0)).heap.size:=ag;obtain⟨aG,ow⟩:∃aG,w3.heap.size=aG:=⟨_,rfl⟩;rw[ow]at yA BM⊢;have afv:w.heap.size<=aG:=U;clear KG KE KF TS nD q1 nC;generalize w3.alloc (.map #[] 0)=w4 at *;have auZ:(rU (ref.map (·.1)) blk).length=5:=rfl;go_loopw [12,51] (λbv cv wr=>∃k:Nat,k<=ref.length/\cv=.int .i64 k/\Fr aD w wr/\aG<wr.heap.size/\Vec wr w.heap.size 5 1 bv (pd (ref.map (·.1)) blk k).length (bT (pd (ref.map (·.1)) blk k))/\kw wr aG k (ref.take k)) (λ_ cv _=>ref.length - (intOf cv).toNat)
 case atStart=>exact⟨0,dl _,rfl,x4.o,BM,by unfold pd;rw[AR,List.flatMap_nil,pN];exact J7.o,yA.o⟩
 case round=>
  obtain⟨k,hk,rfl,iU,KH,A7,uk⟩:=hrel;obtain⟨ib,g5,BN,-⟩:=A7.shape;subst BN;have yB:=ae iU;have Uh:=ae A7;have pf:=ae uk;have nF:=iU.size;have hs:=afj (ref.map (·.1)) blk (λf dg=>by obtain⟨p,b8,rfl⟩:=og.1 dg;exact(TP.o p b8).1) k (by simpa using hk);clear A7 uk;by_cases gJ:k<ref.length
  .have La:=H1.o.br iU;obtain⟨g,cap,b9,eP,ay,m3⟩:=La.get k gJ;simp only[eG,fF]at b9;obtain⟨rfl,rfl⟩:=b9;have JE:=TP.o ref[k] (dy _);have hfrm:=H1.o.from_ ref[k] (dy _);obtain⟨fr,ek,yq,-⟩:=(La.data ref[k] (dy _)).shape;have hisb:=La.data ref[k] (dy _);have F1:=TM (ref.map (·.1)) blk k (by simpa using gJ);have q6:ref.take (k+1)=ref.take k++ [ref[k]]:=lV gJ;rw[v7]at F1;obtain⟨L,hLe⟩:∃L,pd (ref.map (·.1)) blk k=L:=⟨_,rfl⟩;rw[hLe]at F1 hs Uh⊢;clear La iU hLe;obtain⟨f,dg⟩:∃f,ref[k]=f:=⟨_,rfl⟩;rw[dg]at JE hfrm yq hisb F1 q6 eP ay;obtain⟨⟨fn,d⟩,ot⟩:=f;simp only at JE hfrm yq hisb F1 q6 eP ay;obtain⟨ec,nQ⟩:∃ec:dI,ec=⟨fn.toArray⟩:=⟨_,rfl⟩;have wv:fn=ec.data.toList:=(by rw[nQ]);rw[<-nQ]at eP;subst wv;have sx:ec.data.toList.length=ec.size:=ag;rw[sx]at JE;rw[yq]at ay hisb hfrm;have KI:=yq;subst yq;have yC:=ae F1;have l9:=ae q6;have yk:=ae hisb;have FJ:=ae hfrm;have A5:=ae JE;have rb:=JE.2;have TT:=JE.1;clear nQ dg sx F1 q6 hisb hfrm JE KI;have cc:Fr aD wr (wr.alloc (.cells #[.string ec,.slice fr d.length ek] 37)):=(Fr.refl _ _).alloc _;have nB:=ae cc;have gy:=ae (Own.alloc wr #[.string ec,.slice fr d.length ek] 37);have q8:=cc.size;clear cc;have BO:=Uh.o.keep nB.o (λ_ _ h=>h);have ul:=ae BO;have BP:=ae (pf.o.keep nB.o id);have wx:(Value.slice ib L.length g5).ownBlock≠some wr.heap.size:=λhb=>(by have:=(Uh.o.lt _ hb).2;omega);have BH:=ae wx;clear BO wx;go_wp2_with fail;refine(SH _ (.slice fr d.length ek) L d ec w.heap.size _ ul.o U U (yk.o.br nB.o) rb U (λb hb iI=>by have bD:=(FJ.o b hb).2;have cb:=(Uh.o.lt b iI).1;omega)).mono ?_;rintro e cU⟨aX,rfl,hv5,BQ⟩;rw[<-yC.o]at hv5;obtain⟨nX,um⟩:∃nX,pd (ref.map (·.1)) blk (k+1)=nX:=⟨_,rfl⟩;rw[um]at hv5;obtain⟨nP,TU,p0,-⟩:=hv5.shape;subst p0;have FK:=ae (BQ.own gy.o BH.o);have x0:=FK.o.cell (i:=0) rfl;have x1:=FK.o.cell (i:=1) rfl;have KJ:=BP.o.keep BQ.bo (λhb=>BP.o.apart ul.o hb);have Br:=ae hv5;obtain⟨cI,r1,r2,r3⟩:=KJ.put eH ec d (.slice fr d.length ek) U;have TV:Fr aD w cI:=((yB.o.step nB.o (λ_ h _=>h)).step BQ.bo (λb hb bO=>by have:=(Uh.o.lt b hb).1;omega)).step r3 (λb hb bO=>U);have l3:=ae TV;have nJ:=ae (hv5.keep r3 (λb hb bw=>by subst bw;exact KJ.apart hv5 hb));have KL:=ae r2;have vR:aG<cI.heap.size:=(by have:=r3.size;have:=BQ.bo.size;omega);have KM:=ae um;clear hv5 BQ KJ r2 r3 TV um;go_wp2_with fail;refine⟨⟨k+1,U,by go_num,l3.o,vR,by rw[KM.o];exact nJ.o,by rw[l9.o];exact KL.o⟩,by simp[intOf];omega⟩
  .obtain rfl:k=ref.length:=U;clear iU;rw[Fp]at pf;obtain⟨L,hLe⟩:∃L,pd (ref.map (·.1)) blk ref.length=L:=⟨_,rfl⟩;rw[hLe]at hs Uh⊢;have afw:=ae hLe;have TW:=yo src.length U;have wb:=ae TW;have afx:IntKind.u8.wrap (src.length:Int)=(src.length:Int):=v0 _ U;clear hLe TW;go_upto_region 20 with(at_builtin;refine fP rfl _ _ _ rfl w.heap.size 5 1 1 kj (Uh.o.keep ((Fr.refl aD _).alloc _) (λ_ _ h=>h)) rfl (m:=1) (Reads.new _ _ _ _ (by first|omega|simp) _ _) rfl rfl (by intro u hu;simp at hu;subst hu;rfl) eH U a5 ?_;intro aX cU hv5 mZ KN afy;obtain⟨nP,TU,p0,-⟩:=hv5.shape;subst p0;have tZ:=ae (eO.alloc _ ⟨mZ,KN⟩);have Br:=ae hv5;clear hv5 mZ KN afy)
   have hv5:Vec cU w.heap.size 5 1 (.slice nP (L.length+1) TU) (L++ [UInt8.ofNat src.length]).length (bT (L++ [UInt8.ofNat src.length])):=(by rw[nx,wb.o,cr];exact Br.o);have au0:=tZ.o.bo.size;have ma:=ae (yB.o.step tZ.o.bo (λb hb bO=>by have:=(Uh.o.lt b hb).1;omega));have afz:=ae (pf.o.keep tZ.o.bo (λhb=>pf.o.apart Uh.o hb));have afA:aG<cU.heap.size:=U;obtain⟨nX,um⟩:∃nX,L++ [UInt8.ofNat src.length]=nX:=⟨_,rfl⟩;have TX:nX.length=L.length+1:=(by rw[<-um];simp);rw[um]at hv5;have TY:=ae hv5;have KM:=ae um;have au1:nX.length<=200:=U;rw[<-TX]at TY⊢;clear TX;clear hv5 Br tZ um Uh pf yB KH afx;go_wp2_with fail;go_loopw [12,72] (λbv cv wr=>∃k:Nat,k<=src.length/\cv=.int .i64 k/\Fr aD w wr/\aG<wr.heap.size/\Vec wr w.heap.size 5 1 bv (pe nX (src.map (·.1)) (ref.map (·.1)) blk k).length (bT (pe nX (src.map (·.1)) (ref.map (·.1)) blk k))/\kw wr aG ref.length ref) (λ_ cv _=>src.length - (intOf cv).toNat)
   case atStart=>exact⟨0,dl _,rfl,ma.o,afA,by unfold pe;rw[AR,List.flatMap_nil,pN];exact TY.o,afz.o⟩
   case round=>
    obtain⟨k,hk,rfl,iU,KH,A7,uk⟩:=hrel;obtain⟨ib,g5,BN,-⟩:=A7.shape;subst BN;have yB:=ae iU;have Uh:=ae A7;have pf:=ae uk;have nF:=iU.size;have hs:=afl nX (src.map (·.1)) (ref.map (·.1)) blk U (λf dg=>by obtain⟨p,b8,rfl⟩:=og.1 dg;exact EO.o p b8) k (by simpa using hk);clear A7 uk;by_cases gJ:k<src.length
    .have La:=wu.o.br iU;obtain⟨g,cap,b9,eP,ay,m3⟩:=La.get k gJ;simp only[eG,fF]at b9;obtain⟨rfl,rfl⟩:=b9;have JE:=EO.o src[k] (dy _);have hfrm:=wu.o.from_ src[k] (dy _);obtain⟨fr,ek,yq,-⟩:=(La.data src[k] (dy _)).shape;have hisb:=La.data src[k] (dy _);have F1:=TN nX (src.map (·.1)) (ref.map (·.1)) blk k (by simpa using gJ);rw[v7]at F1;obtain⟨L,hLe⟩:∃L,pe nX (src.map (·.1)) (ref.map (·.1)) blk k=L:=⟨_,rfl⟩;rw[hLe]at F1 hs Uh⊢;clear La iU hLe;obtain⟨f,dg⟩:∃f,src[k]=f:=⟨_,rfl⟩;rw[dg]at JE hfrm yq hisb F1 eP ay;obtain⟨⟨fn,d⟩,ot⟩:=f;simp only at JE hfrm yq hisb F1 eP ay;obtain⟨ec,nQ⟩:∃ec:dI,ec=⟨fn.toArray⟩:=⟨_,rfl⟩;have wv:fn=ec.data.toList:=(by rw[nQ]);rw[<-nQ]at eP;subst wv;have sx:ec.data.toList.length=ec.size:=ag;rw[sx]at JE;rw[yq]at ay hisb hfrm;have KI:=yq;subst yq;have yC:=ae F1;have yk:=ae hisb;have FJ:=ae hfrm;have rb:=JE.2;have TT:=JE.1;have au2:L.length<=800000:=U;clear nQ dg sx F1 hisb hfrm JE KI;have cc:Fr aD wr (wr.alloc (.cells #[.string ec,.slice fr d.length ek] 37)):=(Fr.refl _ _).alloc _;have nB:=ae cc;have gy:=ae (Own.alloc wr #[.string ec,.slice fr d.length ek] 37);have q8:=cc.size;clear cc;have BO:=Uh.o.keep nB.o (λ_ _ h=>h);have ul:=ae BO;have BP:=ae (pf.o.keep nB.o id);have wx:(Value.slice ib L.length g5).ownBlock≠some wr.heap.size:=λhb=>(by have:=(Uh.o.lt _ hb).2;omega);have BH:=ae wx;clear BO wx;go_wp2_with fail;refine(SH _ (.slice fr d.length ek) L d ec w.heap.size _ ul.o U U (yk.o.br nB.o) rb U (λb hb iI=>by have bD:=(FJ.o b hb).2;have cb:=(Uh.o.lt b iI).1;omega)).mono ?_;rintro e cI⟨v6,rfl,pY,hg6⟩;have afB:(L++km ⟨ec.data.toList,d⟩).length<=801000:=by
      have:=KA ⟨ec.data.toList,d⟩ (by simpa using TT);rw[cr];omega
     obtain⟨yD,KO⟩:∃yD,L++km ⟨ec.data.toList,d⟩=yD:=⟨_,rfl⟩;rw[KO]at pY afB;obtain⟨m0,pZ,Bl,-⟩:=pY.shape;subst Bl;have TZ:=ae (hg6.own gy.o BH.o);have x0:=TZ.o.cell (i:=0) rfl;have x1:=TZ.o.cell (i:=1) rfl;have FL:=ae (BP.o.keep hg6.bo (λhb=>BP.o.apart ul.o hb));have nJ:=ae pY;have l3:=ae ((yB.o.step nB.o (λ_ h _=>h)).step hg6.bo (λb hb bO=>by have:=(Uh.o.lt b hb).1;omega));have vR:=hg6.bo.size;have afC:=ae KO;have vV:=FL.o.look ec U;have uo:=SJ (w:=cI) (l:=ref) (λp b8=>(H1.o.br l3.o).data p b8) ec.data.toList;have BR:(Au (ref.map (·.1)) ec.data.toList).getD []=h8 (ref.map (·.1)) ec.data.toList:=(by unfold h8;rw[IY _ ox.o.up]);rw[BR]at uo;have EV:(h8 (ref.map (·.1)) ec.data.toList).length<=300:=Jd _ (λf dg=>(ox.o.ok f dg).2) _;obtain⟨base,sw⟩:∃base,h8 (ref.map (·.1)) ec.data.toList=base:=⟨_,rfl⟩;rw[sw]at uo EV;obtain⟨V,BS⟩:∃V,(ua ref ec.data.toList).getD (.slice none 0 0)=V:=⟨_,rfl⟩;rw[BS]at uo vV;obtain⟨la,pV,KP,-⟩:=uo.shape;subst KP;have KQ:=ae uo;have FM:=ae sw;have afD:=ae ((yk.o.br nB.o).keep hg6.bo (λb hb iI=>by have bD:=(FJ.o b hb).2;have cb:=(Uh.o.lt b iI).1;omega));clear pY hg6 KO BR sw BS uo;go_wp2_with fail;refine(afh _ _ base d blk _ KQ.o afD.o).mono ?_;rintro e ef⟨x,l,rfl,g7,mX,-,T0⟩;have BT:sized blk base.length=0:=(by unfold sized;rw[aC U,aC U]);have v9:sized blk d.length=0:=(by unfold sized;rw[aC U,aC U]);have p7:qd blk base.length d.length=0:=(by unfold qd;rw[aV BT];exact v9);have hm:=T0 p7;rw[p7,show TK (.int .i64 0)=.nilIface from rfl];rw[pP]at hm;have r6:=Eu base d blk U rb;rw[<-hm]at r6;have AP:l.length<=300:=(by have:=r6.2.2;rw[pW]at this;omega);have T1:=λt dO=>Rp base blk (l.map (·.1)) [] d r6.1 t dO;have EN:=(tu base.length blk U).2.2;have A0:∀t∈l.map (·.1),(t.c=0/\t.b=0/\t.d.length<=255)\/(0<t.c/\t.c<=255/\0<=t.b/\t.b<=300/\t.d=[]):=λt dO=>by
      have bD:=T1 t dO;rcases r6.2.1 t dO with h|h
      .exact .inl ⟨h.1,h.2.1,h.2.2.2⟩
      .refine .inr ⟨h.1,h.2.1,h.2.2.1,?_,h.2.2.2⟩;unfold dX at bD;simp at bD;omega
     have T2:=ae A0;obtain⟨FN,FO,KR,-⟩:=mX.vec.shape;subst KR;have ic:=ae hm;have FG:=ae mX;have na:=ae (l3.o.step g7 (λ_ h _=>h));have r9:=ae (nJ.o.keep g7 (λ_ _ h=>h));have T3:=ae (FL.o.keep g7 id);have R2:=g7.size;clear T0 BT v9 p7 hm r6 mX g7 x0 x1 vV T1 EN A0;go_wp2_with fail;refine(AE _ yD l.length 2 w.heap.size 2 _ ef r9.o U U rfl rfl U U).mono ?_;rintro e fE⟨gK,rfl,uq,T4⟩;have T5:(yD++fo 2 l.length).length<=801010:=(by rw[cr,nA];omega);obtain⟨ri,KS⟩:∃ri,yD++fo 2 l.length=ri:=⟨_,rfl⟩;rw[KS]at uq T5;obtain⟨sa,AZ,wy,-⟩:=uq.shape;subst wy;have m4:=ae uq;have afE:=ae T4;have afF:=ae KS;clear uq T4 KS;go_wp2_with fail;go_loopw [12,100] (λbv cv wr=>∃j:Nat,j<=l.length/\cv=.int .i64 j/\eO ef (.slice m0 yD.length pZ) bv wr/\Vec wr w.heap.size 5 1 bv (oC ri (l.map (·.1)) j).length (bT (oC ri (l.map (·.1)) j))) (λ_ cv _=>l.length - (intOf cv).toNat)
     case atStart=>exact⟨0,dl _,rfl,afE.o,by unfold oC;rw[AR,List.flatMap_nil,pN];exact m4.o⟩
     case round=>
      obtain⟨j,en,rfl,yE,A7⟩:=hrel;obtain⟨yF,bc2,BN,-⟩:=A7.shape;subst BN;have wz:=ae yE;have yG:=ae A7;have ab0:=yE.bo.size;have FP:=afn ri (l.map (·.1)) (λt dO=>by rcases T2.o t dO with h|h;exact h.2.2;rw[h.2.2.2.2];simp) j;rw[pW]at FP;clear yE A7;by_cases KT:j<l.length
      .have mX:=FG.o.below wz.o.bo (λb hb=>(nJ.o.lt b hb).2);obtain⟨gt,ct,T6,t0,t1,t2⟩:=mX.hK.get j KT;simp only[eG,fF]at T6;obtain⟨rfl,rfl⟩:=T6;have yH:l[j]∈l:=dy KT;have wm:=T2.o l[j].1 (v5 yH);obtain⟨wA,wB,BU,-⟩:=(mX.data l[j] yH).shape;have FQ:=(mX.data l[j] yH).isB;have A9:=FG.o.lt l[j] yH;clear yH;have hstep:=afm ri (l.map (·.1)) j (by simpa using KT);rw[v7]at hstep;obtain⟨L,hLe⟩:∃L,oC ri (l.map (·.1)) j=L:=⟨_,rfl⟩;rw[hLe]at hstep FP yG wz⊢;have au3:L.length<=890000:=U;clear mX hLe FP;obtain⟨f,dg⟩:∃f,l[j]=f:=⟨_,rfl⟩;rw[dg]at t0 t1 t2 wm BU FQ A9 hstep;obtain⟨⟨tL,jS,nW⟩,aH⟩:=f;simp only at t0 t1 t2 wm BU FQ A9 hstep;subst BU;have afG:=ae FQ;have uu:∀b,(Value.slice wA nW.length wB).ownBlock=some b->(Value.slice yF L.length bc2).ownBlock≠some b:=λb hb iI=>by
        have bD:=A9 b hb;rcases wz.o.at_ with e|⟨g',e,afH⟩
        .rw[e]at iI;have:=(nJ.o.lt b iI).2;omega
        .rw[e]at iI;cases iI;omega
       have afI:=ae uu;have r7:=ae hstep;clear dg FQ A9 hstep uu;have fp:∀b,(Value.slice yF L.length bc2).ownBlock=some b->b<wr.heap.size:=λb hb=>(yG.o.lt b hb).2;have FR:=ae fp;clear fp;rcases wm with⟨rfl,rfl,Bv⟩|⟨p1,Bt,afJ,au4,rfl⟩
       .have au5:IntKind.u8.wrap (nW.length:Int)=(nW.length:Int):=v0 _ U;have wb:=ae (yo nW.length U);have cc:Fr aD wr (wr.alloc (.cells #[.int .i64 0,.int .i64 0,.slice wA nW.length wB] 171)):=(Fr.refl _ _).alloc _;have nB:=ae cc;have gy:=ae (Own.alloc wr #[.int .i64 0,.int .i64 0,.slice wA nW.length wB] 171);have q8:=cc.size;clear cc;obtain⟨dm,BV⟩:∃W,wr.alloc (.cells #[.int .i64 0,.int .i64 0,.slice wA nW.length wB] 171)=W:=⟨_,rfl⟩;rw[BV]at nB gy q8;have FT:=ae (show(Value.slice yF L.length bc2).ownBlock≠some wr.heap.size from λhb=>by have:=FR.o _ hb;omega);have gz:=gy.o.cell (i:=2) rfl;have x1:=gy.o.cell (i:=1) rfl;have BW:=ae (yG.o.keep nB.o (λ_ _ h=>h));go_upto_region 33 with(at_builtin;refine fP rfl _ _ _ rfl w.heap.size 5 1 1 kj (BW.o.keep ((Fr.refl aD _).alloc _) (λ_ _ h=>h)) rfl (m:=2) (Reads.new _ _ _ _ (by first|omega|simp) _ _) rfl rfl (by intro u hu;simp at hu;rcases hu with rfl|rfl<;>rfl) eH U a5 ?_;intro iJ g6 JJ pg vS JK;obtain⟨fN,gL,KU,-⟩:=JJ.shape;subst KU;have uv:=ae (eO.alloc _ ⟨pg,vS⟩);have yf:=ae JJ;have q7:=ae (uv.o.own gy.o FT.o);have ou:=q7.o.cell (i:=2) rfl;clear JJ pg vS JK)
        have JJ:Vec g6 w.heap.size 5 1 (.slice fN (L.length+2) gL) (L++ [0,UInt8.ofNat nW.length]).length (bT (L++ [0,UInt8.ofNat nW.length])):=(by rw[nx,show[0,UInt8.ofNat nW.length]=[0]++ [UInt8.ofNat nW.length]from rfl,nx,wb.o,cr];exact yf.o);have KV:=ae JJ;have T7:=(afG.o.br nB.o).keep uv.o.bo (λb hb=>afI.o b hb);have afK:=ae T7;have Bf:=uv.o.bo.size;clear JJ T7;go_wp2_with (at_builtin;refine fP rfl _ _ _ rfl w.heap.size 5 1 1 kj KV.o rfl (m:=nW.length) (Reads.pM afK.o) rfl ag (pK _) (by rw[cr];unfold maxLen;simp;omega) (by rw[cr];simp;omega) U ?_;intro v10 KW Lh BX FU afL;obtain⟨FV,KX,sf,-⟩:=Lh.shape;subst sf;have BY:=ae (uv.o.step ⟨BX,FU⟩);have wC:=ae Lh;clear Lh BX FU afL);have hg10:=BY.o;rw[show(L++ [0,UInt8.ofNat nW.length]).length=L.length+2 by simp]at hg10;refine⟨⟨j+1,U,by go_num,wz.o.step (eO.TO nB.o hg10),?_⟩,by simp[intOf];omega⟩;have e:oC ri (l.map (·.1)) (j+1)=L++ [0,UInt8.ofNat nW.length]++nW:=(by rw[r7.o];simp[pQ]);have bP:=wC.o;rw[<-nx]at bP;have aF:(L++ [0,UInt8.ofNat nW.length]++nW).length=L.length+2+nW.length:=a5;have ie:(L++ [0,UInt8.ofNat nW.length]).length=L.length+2:=ag;rw[ie]at bP;rw[e,aF];exact bP
       .obtain⟨jK,rfl⟩:=pO afJ;obtain⟨jY,rfl⟩:=pO (a:=jS) U;have q3:((jY:Int)==0)=false:=a5;have Bj:IntKind.u8.wrap (jY:Int)=(jY:Int):=v0 _ U;have au6:IntKind.u64.wrap (jK:Int)=(jK:Int):=(by rw[show∀n:Int,IntKind.u64.wrap n=n % 18446744073709551616 from λn=>by simp[IntKind.wrap,IntKind.bits,IntKind.signed]];omega);have wb:=ae (yo jY U);have cc:Fr aD wr (wr.alloc (.cells #[.int .i64 jK,.int .i64 jY,.slice wA 0 wB] 171)):=(Fr.refl _ _).alloc _;have nB:=ae cc;have gy:=ae (Own.alloc wr #[.int .i64 jK,.int .i64 jY,.slice wA 0 wB] 171);have q8:=cc.size;clear cc;go_upto_region 34 with fail
        generalize wr.alloc (.cells #[.int .i64 jK,.int .i64 jY,.slice wA 0 wB] 171)=dm at *;have FT:=ae (show(Value.slice yF L.length bc2).ownBlock≠some wr.heap.size from λhb=>by have:=FR.o _ hb;omega);have x0:=gy.o.cell (i:=0) rfl;have BW:=ae (yG.o.keep nB.o (λ_ _ h=>h));have afM:=(gy.o.keep ((Fr.refl aD dm).alloc (.cells #[.int .u8 1] 5)).drew id).cell (i:=0) rfl;go_cut [12,100]from 101 to 131 (λafN afO T8=>afO=.int .i64 j/\∃a c,afN=.slice a (L.length+3) c/\eO dm (.slice yF L.length bc2) (.slice a (L.length+3) c) T8/\Vec T8 w.heap.size 5 1 (.slice a (L.length+3) c) (L++ [1]++fo 2 jK).length (bT (L++ [1]++fo 2 jK)))
        case first=>
         go_region_law
          (first
           |(rw[aV eI];refine tK (.tmp 118) (.tmp 119) 25 rfl w.heap.size 5 1 1 kj (v:=.slice yF L.length bc2) (n:=L.length) (xs:=bT L) (BW.o.keep ((Fr.refl aD _).alloc _).drew (λ_ _ h=>h)) rfl (m:=1) (Reads.drew (Reads.new _ _ _ _ ag _ _)) rfl rfl (pK [1]) eH U a5 ?_;intro iJ g6 JJ pg vS;obtain⟨fN,gL,vT,-⟩:=JJ.shape;subst vT;have uv:=ae (eO.alloc _ (eO.afo ⟨pg,vS⟩));have yf:=ae JJ;have y:=uv.o.own gy.o FT.o;have ht:=y.cell (i:=0) rfl;have KV:=ae (show Vec g6 w.heap.size 5 1 (.slice fN (L.length+1) gL) (L++ [1]).length (bT (L++ [1]))from by rw[cr,nx];exact yf.o);have Bf:=uv.o.bo.size;clear JJ pg vS y)
           |(go_simp;go_at_call 78;refine(AE _ (L++ [1]) jK 2 w.heap.size 2 _ g6 KV.o U a5 rfl rfl U U).mono ?_;rintro e KW⟨v10,rfl,Lh,hg10⟩;have hl10:(L++ [1]++fo 2 jK).length=L.length+3:=(by simp[nA]);obtain⟨FV,KX,sf,-⟩:=Lh.shape;rw[hl10]at sf;subst sf;have wC:=ae Lh;have BY:=ae (uv.o.step hg10);clear Lh hg10 hl10))
         all_goals
          go_wp2_with fail;go_meet
          case rel=>exact⟨rfl,_,_,rfl,BY.o,wC.o⟩
        case rest=>
        obtain⟨rfl,FV,KX,rfl,hg10,Lh⟩:=hcut;have BY:=ae hg10;have afP:=ae (hg10.own gy.o FT.o);have x1:=afP.o.cell (i:=1) rfl;have hl10:(L++ [1]++fo 2 jK).length=L.length+3:=(by simp[nA]);obtain⟨FW,hLe⟩:∃FW,L++ [1]++fo 2 jK=FW:=⟨_,rfl⟩;rw[hLe]at Lh hl10;rw[hl10]at Lh;have afQ:=ae hLe;have afR:=ae hl10;have wC:=ae Lh;have au7:=hg10.bo.size;clear hg10 Lh hLe hl10 x0 afM;go_wp2_with (at_builtin;refine fP rfl _ _ _ rfl w.heap.size 5 1 1 kj (wC.o.keep ((Fr.refl aD _).alloc _) (λ_ _ h=>h)) rfl (m:=1) (Reads.new _ _ _ _ (by first|omega|simp) _ _) rfl rfl (by intro u hu;simp at hu;subst hu;rfl) eH U a5 ?_;intro v11 JO vW tU E3 afS;obtain⟨vX,Bg,afT,-⟩:=vW.shape;subst afT;have afU:=ae (BY.o.step (eO.alloc _ ⟨tU,E3⟩));have JQ:=ae vW;clear vW tU E3 afS);refine⟨⟨j+1,U,by go_num,wz.o.step (eO.TO nB.o afU.o),?_⟩,by simp[intOf];omega⟩;have FX:¬((jY:Int)=0):=U;have e:oC ri (l.map (·.1)) (j+1)=FW++ [UInt8.ofNat jY]:=by
         rw[r7.o,<-afQ.o];unfold pQ;rw[aC FX];simp
        have bP:=JQ.o;rw[<-wb.o,<-nx]at bP;have aF:(FW++ [UInt8.ofNat jY]).length=L.length+3+1:=(by rw[cr,afR.o];rfl);rw[e,aF];exact bP
      .obtain rfl:j=l.length:=U;obtain⟨KY,hLe⟩:∃KY,oC ri (l.map (·.1)) l.length=KY:=⟨_,rfl⟩;rw[hLe]at FP yG⊢;have afV:=ae hLe;clear hLe;go_wp2_with fail;have afW:pe nX (src.map (·.1)) (ref.map (·.1)) blk (k+1)=KY:=by
        rw[yC.o,<-afV.o,<-afF.o,<-afC.o];unfold qY AD tD oC;rw[FM.o,<-ic.o,iG ag];simp
       exact⟨⟨k+1,U,by go_num,na.o.step wz.o.bo (λb hb bO=>by have:=(nJ.o.lt b hb).1;omega),U,by rw[afW];exact yG.o,T3.o.keep wz.o.bo (λhb=>T3.o.apart r9.o hb)⟩,by simp[intOf];omega⟩
    .obtain rfl:k=src.length:=U;obtain⟨L,hLe⟩:∃L,pe nX (src.map (·.1)) (ref.map (·.1)) blk src.length=L:=⟨_,rfl⟩;rw[hLe]at hs Uh⊢;have afX:=ae hLe;have AP:L.length<=900000:=U;have kq:=Ew L;have afY:=ae (pR L);clear hLe iU;go_wp2_with fail;refine(tC _ L _ Uh.o.isB).mono ?_;rintro e w'⟨rfl,rfl⟩;go_wp2_with fail;refine(AE _ L (lZ L) 8 w.heap.size 8 _ wr Uh.o U U rfl afY.o.symm kq U).mono ?_;rintro e cI⟨v6,rfl,pY,hg6⟩;have T9:iH (src.map (·.1)) (ref.map (·.1)) blk=L++fo 8 (lZ L):=by
      have:xW (src.map (·.1)) (ref.map (·.1)) blk=L:=by
       rw[<-afX.o,<-KM.o,<-afw.o];unfold xW pe pd;rw[iG (l:=ref.map (·.1)) ag,iG (l:=src.map (·.1)) ag];simp
      unfold iH;rw[this]
     have nJ:=ae pY;have l3:=ae (yB.o.step hg6.bo (λb hb bO=>by have:=(Uh.o.lt b hb).1;omega));have BE:=ae T9;clear pY hg6 T9;go_wp2_with fail;go_ret2;exact⟨v6,rfl,by rw[BE.o];exact nJ.o,l3.o⟩
end Go.Proofs.YtlcdgbhigfgehabGreatDoor
namespace Go.Proofs.YtlcdgbhigfgehabGreatDoor
open Go.RowKit

structure wD(w:ab)(src ref:List aI)(block:Int)(x:ai)(w':ab):Prop where
 hS:ih block src ref=.none->Vec w' w.heap.size 5 1 x (iH src ref block.toNat).length (bT (iH src ref block.toNat))
 bad:ih block src ref≠.none->x=.slice none 0 0
def wD.keep{w w1 w2:ab}{src ref:List aI}{block:Int}{x:ai}(h:wD w src ref block x w1)(k:Fr aD w1 w2):wD w src ref block x w2:=⟨λe=>(h.hS e).keep k (λ_ _ h=>h),h.bad⟩
def Small(l:List (aI×ai)):Prop:=∀p∈l,p.1.name.length<=1000000/\p.1.data.length<=1000000
def afZ(bE v1:ai)(src ref:List (aI×ai))(B:Nat)(block:Int)(w:ab)(k:ez w B bE src)(l:ez w B v1 ref)(d:Small src)(f:Small ref): Calls aj.prog 47 #[bE,v1,.int .i64 block] w λe w'=>∃x y,e=.returned (.tuple #[x,y])/\eb w' y (ih block (src.map (·.1)) (ref.map (·.1)))/\Fr aD w w'/\wD w (src.map (·.1)) (ref.map (·.1)) block x w':=by
 by_cases g:block<1\/64<block
 .have b:ih block (src.map (·.1)) (ref.map (·.1))=.kind 1:=(by unfold ih;rw[aV g]);refine(afp bE v1 src ref B block w k l g).mono ?_;rintro e w'⟨rfl,i⟩;refine⟨_,_,rfl,by rw[b];rfl,i,⟨λh=>(by rw[b]at h;cases h),λ_=>rfl⟩⟩
 .obtain⟨blk,rfl⟩:=pO (a:=block) U;have j:∀n,(ki (src.map (·.1))=some n\/ki (src.map (·.1))=none/\ki (ref.map (·.1))=some n)->Calls aj.prog 47 #[bE,v1,.int .i64 blk] w λe w'=>∃x y,e=.returned (.tuple #[x,y])/\eb w' y (ih blk (src.map (·.1)) (ref.map (·.1)))/\Fr aD w w'/\wD w (src.map (·.1)) (ref.map (·.1)) blk x w':=λn m=>by
   have b:ih blk (src.map (·.1)) (ref.map (·.1))=.file ⟨n.toArray⟩ 4:=by
    unfold ih;rw[aC g];rcases m with h|⟨h,o⟩
    .rw[h];rfl
    .rw[h,o];rfl
   refine(afq bE v1 src ref B blk w k l g (λp c=>(d p c).1) (λp c=>(d p c).2) (λp c=>(f p c).1) (λp c=>(f p c).2) n m).mono ?_;rintro e w'⟨x,rfl,q,i⟩;exact⟨_,_,rfl,by rw[b];exact q,i,⟨λh=>(by rw[b]at h;cases h),λ_=>rfl⟩⟩
  cases rj:ki (src.map (·.1))with
  |some n=>exact j n (.inl rj)
  |none=>
   cases hT:ki (ref.map (·.1))with
   |some n=>exact j n (.inr ⟨rj,hT⟩)
   |none=>
    have b:ih blk (src.map (·.1)) (ref.map (·.1))=.none:=by
     unfold ih;rw[aC g,rj,hT];rfl
    refine(afr bE v1 src ref B blk w k l U U ((vx _).1 rj) ((vx _).1 hT)).mono ?_;rintro e w'⟨x,rfl,r,i⟩;exact⟨x,_,rfl,by rw[b];rfl,i,⟨λ_=>by rw[pP];exact r,λh=>absurd b h⟩⟩
def af0(bE v1:ai)(src ref:List (aI×ai))(B:Nat)(block:Int)(w:ab)(d:ez w B bE src)(a:ez w B v1 ref)(b:Small src)(c:Small ref): Calls aj.prog 28 #[bE,v1,.int .i64 block] w λe w'=>∃x y,e=.returned (.tuple #[x,y])/\eb w' y (ih block (src.map (·.1)) (ref.map (·.1)))/\Fr aD w w'/\wD w (src.map (·.1)) (ref.map (·.1)) block x w':=by
 have H:=ae (afZ bE v1 src ref B block w d a b c);obtain⟨E,f⟩:∃E,ih block (src.map (·.1)) (ref.map (·.1))=E:=⟨_,rfl⟩;rw[f]at H⊢;clear d a b c f;go_enter aj.func28,Tryz.ntmps28;go_wp2_with fail;refine H.o.mono ?_;rintro e w'⟨x,y,rfl,a,g,h⟩;have i:=ae a;have j:=ae g;have k:=ae h;clear a g h;go_wp2_with fail;go_ret2;exact⟨x,y,rfl,i.o,j.o,k.o⟩
def af1(bE v1:ai)(src ref:List (aI×ai))(B:Nat)(block:Int)(w:ab)(l:dp w)(f:ez w B bE src)(a:ez w B v1 ref)(b:Small src)(c:Small ref): Calls aj.prog 19 #[bE,v1,.int .i64 block] w λe w'=>∃x,e=.returned (.tuple #[x,.int .i64 (ih block (src.map (·.1)) (ref.map (·.1))).k,.string (ih block (src.map (·.1)) (ref.map (·.1))).name])/\Fr aD w w'/\wD w (src.map (·.1)) (ref.map (·.1)) block x w':=by
 have H:=ae (af0 bE v1 src ref B block w f a b c);obtain⟨E,g⟩:∃E,ih block (src.map (·.1)) (ref.map (·.1))=E:=⟨_,rfl⟩;rw[g]at H⊢;clear f a b c g;go_enter aj.func19,Tryz.ntmps19;go_wp2_with fail;refine H.o.mono ?_;rintro e w1⟨x,y,rfl,a,d,i⟩;have m:=ae (E9 y E w1 (l.keep d id) a);have n:=ae d;have o:=ae i;clear a d i;go_wp2_with fail;refine m.o.mono ?_;rintro e w2⟨rfl,j⟩;go_wp2_with fail;go_ret3
 exact⟨x,rfl,n.o.step j (λ_ h _=>h),o.o.keep j⟩
end Go.Proofs.YtlcdgbhigfgehabGreatDoor
namespace Go.Proofs.YtlcdgbhigfgehabGreatDoor
open Go.RowKit

def agX(w:ab)(B av an:Nat)(au l:List aI)(room:Int)(e:Ending)(w':ab):Prop:=∃b:Bool,e=.returned (.bool b)/\(b=true↔au=l)/\dh w' B av an au room false/\Fr (λb=>b=av) w w'
def agY(av an B:Nat)(au:List aI)(room:Int)(v:ai)(l:List (aI×ai))(n:Nat)(w:ab)(h:dh w B av an au room false)(f:ez w n v l)(r:l.length<=8): Calls aj.prog 13 #[.pointer (some ⟨av,0,none⟩),v] w (agX w B av an au (l.map (·.1)) room):=by
 have s:=ae (SE av an B au room w h);have t:=ae (sm h.b5);have u:=ae f;have o:=h.tree;have x:=ae o;obtain⟨D,E,rfl,-⟩:=f.vec.shape;clear h f o;go_enter aj.func13,Tryz.ntmps13;go_wp2_with fail;refine s.o.mono ?_;rintro e w1⟨v1,m,rfl,g,hk,a,i⟩;obtain⟨y,z,rfl,-⟩:=hk.vec.shape;have j:=(nT g x.o).2.2;have p:=ae (adi _ _ m l w.heap.size n w1 hk.p6 (u.o.held i t.o) j r);rw[g]at p;have A:=ae i;have k:=ae a;clear g hk a i;go_wp2_with fail;refine p.o.mono ?_;rintro e w2⟨b,rfl,q,c⟩;have C:=ae q;have d:=ae c;clear q c;go_wp2_with fail;go_ret;exact⟨b,rfl,C.o,k.o.br d.o,A.o.step d.o (λ_ h _=>h.elim)⟩
def agZ(src ref:List aI)(blk:Nat):0< (iH src ref blk).length:=by
 unfold iH;rw[cr,nA];omega
def ag0{blk:Nat}{src ref:List aI}(c:1<=blk)(d:blk<=64)(a:dc src)(b:dc ref):ih blk src ref=.none:=by
 unfold ih;rw[aC U,(vx _).2 a,(vx _).2 b];rfl
def UJ{m:List (aI×ai)}(b:dc (m.map (·.1))):Small m:=λp a=>by
 have h:=nT rfl b;exact⟨by have:=h.2.1 p a;omega,by have:=h.1 p a;omega⟩
end Go.Proofs.YtlcdgbhigfgehabGreatDoor
namespace Go.Proofs.YtlcdgbhigfgehabGreatDoor
open Go.RowKit

end Go.Proofs.YtlcdgbhigfgehabGreatDoor
namespace Go.Proofs.YtlcdgbhigfgehabGreatDoor
open Go.RowKit

def UL{au:List aI}{room:Int}{b:ar}:rm au room b 0=false:=by
 unfold rm;split
 .rfl
 .simp
def yR{w:ab}{B av an:Nat}{au:List aI}{room:Int}{a:Bool}(h:dh w B av an au room a):eB w (λb=>b=av\/b=an):=λb c=>by
 rcases c with rfl|rfl
 .exact .inl ⟨_,h.b5⟩
 .exact .inr h.o6.own
end Go.Proofs.YtlcdgbhigfgehabGreatDoor
