import Derived.Test.YtlcdgbhigfgehabGreatDoorQB11
set_option linter.all false
set_option maxRecDepth 100000
set_option maxHeartbeats 16000000
namespace Go.Proofs.YtlcdgbhigfgehabGreatDoor
open Go.RowKit

def aga(w w':ab)(x y:ai):cZ ⊕ List aI->Prop
 |.inl K5=>x=.slice none 0 0/\eb w' y K5
 |.inr l=>y=.nilIface/\∃m,ck w' w.heap.size x m/\m.map (·.1)=l
def rk(w:ab)(r:cZ ⊕ List aI)(e:Ending)(w':ab):Prop:=∃x y,e=.returned (.tuple #[x,y])/\Fr aD w w'/\aga w w' x y r
def rk.bad{w w':ab}{r:cZ ⊕ List aI}{y:ai}{a:cZ}(b:r=.inl a)(h:eb w' y a)(c:Fr aD w w'):rk w r (.returned (.tuple #[.slice none 0 0,y])) w':=by subst b;exact⟨_,_,rfl,c,rfl,h⟩
def rk.hS{w w':ab}{r:cZ ⊕ List aI}{x:ai}{l:List aI}{m:List (aI×ai)}(a:r=.inr l)(h:ck w' w.heap.size x m)(b:m.map (·.1)=l)(c:Fr aD w w'):rk w r (.returned (.tuple #[x,.nilIface])) w':=by subst a;exact⟨_,_,rfl,c,rfl,m,h,b⟩
def agb{base:ar}{block:Int}{a:List Tok}{e:Int}(h:mT base block a=.inl e):e≠0:=by
 unfold mT at h;split at h
 .rcases ZX base block.toNat a [] e h with rfl|rfl<;>omega
 .rename_i b;simp only[Sum.inl.injEq]at h;omega
def Ue{base:ar}{block:Int}{a:List Tok}{d:ar}(h:mT base block a=.inr d):d.length<=300:=by
 unfold mT at h;split at h
 .exact QW _ _ _ _ _ ag h
 .cases h
def agc(au:List aI)(blk:Nat)(l:List h7)(k:Nat)(h:k<l.length)(a:List aI):iK au blk (l.drop k) a=match mT (h8 au l[k].dN.name) blk l[k].hK with
  |.inl _=>.inl (.file ⟨l[k].dN.name.toArray⟩ 11)
  |.inr d=>if lZ d=l[k].dN.e9 then iK au blk (l.drop (k+1)) (a++ [⟨l[k].dN.name,d⟩])else .inl (.file ⟨l[k].dN.name.toArray⟩ 11):=by
 rw[qW h];rfl
def Uf(l:List h7)(k:Nat)(h:k<l.length):m5 (l.take (k+1))=m5 (l.take k)+l[k].dN.size:=by
 unfold m5;rw[lV h,pS,mW,tz,List.sum_append,List.sum_cons,List.sum_nil,oY]
def agd(l:List h7)(h:∀t∈l,t.dN.size<=300)(k:Nat):m5 (l.take k)<=300*k:=by
 induction k with
 |zero=>simp[m5]
 |succ k a=>
  by_cases hk:k<l.length
  .rw[Uf l k hk];have:=h l[k] (dy _);omega
  .rw[iG U];rw[iG U]at a;omega
def age(av an B:Nat)(au:List aI)(s room:Int)(down:Bool)(live:Int)(x y:ai)(a4 c:Int)(m:List (aI×ai))(aO bd bc:Nat)(bx:ar)(T:TypeId)(u:ai)(w:ab)(B1:jT w av an s room down)(hd:c0 w an live x y a4 c)(hk:ck w B x m)(hm:m.map (·.1)=au)(dO:dc au)(Z:0<=room/\room<=1048576)(hb:bH w (.slice (some ⟨aO,bd,none⟩) bx.length bc) bx)(dg:w.cell? ⟨1,0,none⟩=some (.iface T u))(G:fz bx≠none): Calls aj.prog 36 #[.pointer (some ⟨av,0,none⟩),.slice (some ⟨aO,bd,none⟩) bx.length bc] w (rk w (fc au room bx)):=by
 have K6:=ae (abN w aO bd bc bx T u hb dg G);have uz:=ae B1;have m6:=ae hd;have jU:=ae hk;have ic:=ae hm;have so:=ae dO;have Bv:=nT hm dO;have FZ:=ae Bv;clear B1 hd hk hm dO hb dg;cases sy:fz bx with
 |none=>exact absurd sy G
 |some a=>
  clear G;have G:=Sz sy;have rh:fc au room bx=tX au room a:=(by unfold fc;rw[sy]);have q2:=ae rh;have vF:=ae G;have Ug:=ae sy;have EN:=G.jK;have K7:=G.Sw;clear G sy rh Bv;go_enter aj.func36,Tryz.ntmps36;go_wp2_with fail;refine K6.o.mono ?_;rintro e w1⟨xv,aH,rfl,fL,P⟩;rw[Ug.o]at P;obtain⟨bv,cM,z,rfl,rfl,A7,vU,P⟩:=P;obtain⟨ib,g5,rfl,-⟩:=A7.shape;obtain⟨aT,jS,rfl,-⟩:=vU.vec.shape;have H:=(Fr.refl aD w1).alloc (.cells #[.int .i64 a.block,.slice ib a.db.length g5,.slice aT z.length jS] 146);have rc:=ae (Own.alloc w1 #[.int .i64 a.block,.slice ib a.db.length g5,.slice aT z.length jS] 146);have Uh:=ae (A7.keep H (λ_ _ h=>h));have Ui:=ae (vU.below H (λ_ h=>h.elim));have Uj:=ae P;have r4:=ae (fL.step H (λ_ h _=>h));have v9:=fL.size;have q8:=H.size;have yg:z.length=a.targs.length:=(by rw[<-P,pW]);have avb:z.length<=8:=U;have F0:=ae yg;obtain⟨K8,agf⟩:∃K8,w1.heap.size=K8:=⟨_,rfl⟩;rw[agf]at rc;have avc:w.heap.size<=K8:=U;clear A7 vU P fL yg H;have sr:=(Own.keep uz.o r4.o id).cell (i:=2) rfl;have p9:=(Own.keep uz.o r4.o id).cell (i:=3) rfl;have x0:=rc.o.cell (i:=0) rfl;have x1:=rc.o.cell (i:=1) rfl;have gz:=rc.o.cell (i:=2) rfl;go_wp2_with fail;generalize w1.alloc (.cells #[.int .i64 a.block,.slice ib a.db.length g5,.slice aT z.length jS] 146)=agh at *;refine(SD an live x y a4 c agh (m6.o.keep r4.o id)).mono ?_;rintro e w2⟨rfl,f2⟩;obtain⟨FN,FO,KR,-⟩:=jU.o.vec.shape;subst KR;have q1:=ae (r4.o.step f2 (λ_ h _=>h));have Uk:=ae (rc.o.keep f2 id);have ul:=ae (Uh.o.keep f2 (λ_ _ h=>h));have Ul:=ae (Ui.o.below f2 (λ_ h=>h.elim));replace x0:=f2.cell x0 id;replace x1:=f2.cell x1 id;replace gz:=f2.cell gz id;clear f2 r4 rc Uh Ui sr p9;go_wp2_with fail;refine(af4 _ _ m a.db B w.heap.size w2 (jU.o.br q1.o).p6 (ul.o.mono U) FZ.o.2.2 EN FZ.o.1).mono ?_;rintro e w3⟨agi,rfl,B2,f3⟩;have K9:fR (m.map (·.1)) a.db=fR au a.db:=(by rw[ic.o]);rw[K9]at B2;have Q:=ae (q1.o.step f3 (λ_ h _=>h));have vP:=ae (Uk.o.keep f3 id);have Um:=ae (Ul.o.below f3 (λ_ h=>h.elim));clear x0 x1 gz;have x0:=vP.o.cell (i:=0) rfl;have gz:=vP.o.cell (i:=2) rfl;have p9:=(Own.keep uz.o Q.o id).cell (i:=3) rfl;cases tV:fR au a.db with
  |some n=>
   rw[tV]at B2;obtain⟨gf,rfl,Un⟩:=B2;have agj:=ae Un;have kr:=ae (show fc au room bx=.inl (.file ⟨n.toArray⟩ 9) by rw[q2.o];unfold tX;rw[tV]);clear Un tV K9;go_wp2_with fail;go_ret2;exact rk.bad kr.o ⟨gf,rfl,agj.o⟩ Q.o
  |none=>
   rw[tV]at B2;obtain rfl:agi=.nilIface:=B2;have kr:=ae (show fc au room bx=if room<m5 a.targs then .inl (.kind 10)else iK au a.block a.targs [] by rw[q2.o];unfold tX;rw[tV]);clear tV K9 f3 q1 Uk ul Ul q2 Ug;have vO:=@run_makeMap aj.prog;have Uo:=ae ((Fr.refl aD w3).alloc (.map #[] 0));have yA:=ae (kw.made w3);have BM:w3.heap.size< (w3.alloc (.map #[] 0)).heap.size:=ag;have vQ:=Q.o.size;obtain⟨aG,ow⟩:∃aG,w3.heap.size=aG:=⟨_,rfl⟩;rw[ow]at yA BM;have afv:w.heap.size<=aG:=U;clear x0 gz p9;go_wp2_with fail;generalize w3.alloc (.map #[] 0)=w4 at *;have T5:=FZ.o.2.2;go_loopw [44] (λcv wr=>∃k:Nat,k<=m.length/\cv=.int .i64 k/\Fr aD w3 wr/\aG<wr.heap.size/\kw wr aG k (m.take k)) (λcv _=>m.length - (intOf cv).toNat)
   case atStart=>exact⟨0,dl _,rfl,Uo.o,BM,yA.o⟩
   case round=>
    obtain⟨k,hk,rfl,j,KH,uk⟩:=hrel;have o:=ae j;have pf:=ae uk;have nF:=j.size;clear uk;by_cases D:k<m.length
    .have La:=(jU.o.br (Q.o.step j (λ_ h _=>h))).p6;have⟨g,cap,b9,eP,ay,m3⟩:=La.get k D;simp only[eG,fF]at b9;obtain⟨rfl,rfl⟩:=b9;obtain⟨fr,ek,yq,-⟩:=(La.data m[k] (dy _)).shape;have E:m.take (k+1)=m.take k++ [m[k]]:=lV D;have rW:=FZ.o.2.1 m[k] (dy _);clear La j;obtain⟨f,dg⟩:∃f,m[k]=f:=⟨_,rfl⟩;rw[dg]at yq E eP ay rW;obtain⟨⟨fn,d⟩,ot⟩:=f;simp only at yq E eP ay rW;obtain⟨r,aa⟩:∃r:dI,r=⟨fn.toArray⟩:=⟨_,rfl⟩;have wv:fn=r.data.toList:=(by rw[aa]);rw[<-aa]at eP;subst wv;have sx:r.size<=1000:=by
      have:r.data.toList.length=r.size:=ag;omega
     subst yq;have l9:=ae E;clear aa dg E rW;have H:Fr aD wr (wr.alloc (.cells #[.string r,.slice fr d.length ek] 37)):=(Fr.refl _ _).alloc _;have nB:=ae H;have q8:=H.size;have Up:=pf.o.keep H id;have⟨cI,r1,r2,r3⟩:=Up.put eH r d (.slice fr d.length ek) sx;have J:=ae ((o.o.step H (λ_ h _=>h)).step r3 (λb hb bO=>U));have KL:=ae r2;have vR:aG<cI.heap.size:=(by have:=r3.size;omega);clear H Up r2 r3;go_wp2_with fail;exact⟨⟨k+1,U,by go_num,J.o,vR,by rw[l9.o];exact KL.o⟩,by simp[intOf];omega⟩
    .obtain rfl:k=m.length:=U;clear j;rw[Fp]at pf;have ma:=ae (Q.o.step o.o (λ_ h _=>h));have p9:=(Own.keep uz.o ma.o id).cell (i:=3) rfl;have A6:=ae (vP.o.keep o.o id);have Lb:=ae (Um.o.below o.o (λ_ h=>h.elim));have gz:=A6.o.cell (i:=2) rfl;clear vP Um Q o Uo yA;obtain⟨cU,agk⟩:∃cU,cU=wr:=⟨_,rfl⟩;subst agk;have RQ:=ma.o.size;go_wp2_with fail;go_loopw [13,61] (λkB cv wr=>∃k:Nat,k<=z.length/\cv=.int .i64 k/\kB=.int .i64 (room - (m5 (a.targs.take k):Nat))/\Fr aD cU wr) (λ_ cv _=>z.length - (intOf cv).toNat)
     case atStart=>exact⟨0,dl _,rfl,by simp[m5],Fr.refl _ _⟩
     case round=>
      obtain⟨k,hk,rfl,rfl,j⟩:=hrel;have o:=ae j;have nF:=j.size;have tH:=agd a.targs (λt dO=>(vF.o.fj t dO).2.1) k;by_cases D:k<z.length
      .have uA:k<a.targs.length:=(by rw[<-F0.o];exact D);have F1:=Uf a.targs k uA;have E:a.targs[k]=z[k].t:=by
        have:=hq (·[k]?) Uj.o;simp only[uB,fb D,fb uA,mq,fK]at this;exact this.symm
       have K:=(vF.o.fj a.targs[k] (dy _)).2.1;rw[E]at F1 K;have L:=Lb.o.below j (λ_ h=>h.elim);obtain⟨Lc,agl,Ld,B3,-,A,-⟩:=L.vec.row U;simp only[eG,fF]at B3;obtain⟨rfl,rfl⟩:=B3;have C:=RK z k D;have t0:=A.cell (i:=k*4) (by rw[gx a5];exact C.1);have t1:=A.cell (i:=k*4+1) (by rw[gx a5];exact C.2.1);have t2:=A.cell (i:=k*4+2) (by rw[gx a5];exact C.2.2.1);have t3:=A.cell (i:=k*4+3) (by rw[gx a5];exact C.2.2.2);obtain⟨nS,si,S,-⟩:=(L.hK z[k] (dy _)).1.vec.shape;rw[S]at t3;clear C A L j E;obtain⟨R,ik⟩:∃R,m5 (a.targs.take k)=R:=⟨_,rfl⟩;rw[ik]at F1 tH⊢;have yC:=ae F1;clear ik F1 S;generalize z[k].t=yK at *;generalize z[k].l.length=yL at *;obtain⟨⟨F2,fj,F⟩,Uq⟩:=yK;dsimp only at K t0 t1 t2 yC;have hw:wrap64 (room - (R:Int) - (fj:Int))=room - (R:Int) - (fj:Int):=yl _ U;go_wp2_with fail;exact⟨⟨k+1,U,by go_num,by rw[yC.o];congr 1;omega,o.o.alloc _⟩,by simp[intOf];omega⟩
      .obtain rfl:k=z.length:=U;clear j;have J:=ae (ma.o.step o.o (λ_ h _=>h));have B4:=ae (A6.o.keep o.o id);have agm:=ae (Lb.o.below o.o (λ_ h=>h.elim));have FL:=ae (pf.o.keep o.o id);have x0:=B4.o.cell (i:=0) rfl;have gz:=B4.o.cell (i:=2) rfl;have Ur:a.targs.take z.length=a.targs:=iG (by rw[F0.o];exact bh _);rw[Ur]at tH⊢;clear A6 Lb pf Ur;obtain⟨cI,agn⟩:∃cI,cI=wr:=⟨_,rfl⟩;subst agn;by_cases M:room< (m5 a.targs:Nat)
       .have Le:=ae (show fc au room bx=.inl (.kind 10) by rw[kr.o,aV M]);have o8:decide (room - ((m5 a.targs:Nat):Int)<0)=true:=a5;go_wp2_with fail;go_ret2;exact rk.bad Le.o rfl J.o
       .have Le:=ae (show fc au room bx=iK au a.block a.targs [] by rw[kr.o,aC M]);have o8:decide (room - ((m5 a.targs:Nat):Int)<0)=false:=a5;have vR:=J.o.size;clear M tH;go_wp2_with fail;clear o8;go_loopw [16,77] (λJX cv wr=>∃(k:Nat)(Y:List (aI×ai)),k<=z.length/\cv=.int .i64 k/\Y.length=k/\Fr aD cI wr/\ck wr cI.heap.size JX Y/\fc au room bx=iK au a.block (a.targs.drop k) (Y.map (·.1))) (λ_ cv _=>z.length - (intOf cv).toNat)
        case atStart=>exact⟨0,[],dl _,rfl,rfl,Fr.refl _ _,ck.nil _ _,Le.o⟩
        case round=>
         obtain⟨k,Y,hk,rfl,vM,j,Lf,nY⟩:=hrel;obtain⟨Sf,E5,rfl,-⟩:=Lf.vec.shape;have o:=ae j;have N:=ae Lf;have wE:=ae nY;have x7:=ae vM;have nF:=j.size;have avd:Y.length<=8:=U;clear Lf nY vM;by_cases D:k<z.length
         .have uA:k<a.targs.length:=(by rw[<-F0.o];exact D);have rj:=agc au a.block a.targs k uA (Y.map (·.1));have E:a.targs[k]=z[k].t:=by
           have:=hq (·[k]?) Uj.o;simp only[uB,fb D,fb uA,mq,fK]at this;exact this.symm
          have K:=vF.o.fj a.targs[k] (dy _);rw[E]at rj K;have L:=agm.o.below j (λ_ h=>h.elim);obtain⟨Lc,agl,Ld,B3,-,A,-⟩:=L.vec.row U;simp only[eG,fF]at B3;obtain⟨rfl,rfl⟩:=B3;have C:=RK z k D;have t0:=A.cell (i:=k*4) (by rw[gx a5];exact C.1);have t1:=A.cell (i:=k*4+1) (by rw[gx a5];exact C.2.1);have t2:=A.cell (i:=k*4+2) (by rw[gx a5];exact C.2.2.1);have t3:=A.cell (i:=k*4+3) (by rw[gx a5];exact C.2.2.2);have nZ:=L.hK z[k] (dy _);obtain⟨nS,si,S,-⟩:=nZ.1.vec.shape;rw[S]at t3;have Lg:=nZ.1.hK;rw[S]at Lg;have O:=nZ.2;clear C A L j E nZ S;generalize z[k].t=yK at *;generalize z[k].l=yL at *;obtain⟨⟨F2,fj,F⟩,Uq⟩:=yK;dsimp only at K t0 t1 t2 rj O;have rW:F2.length<=12:=by
           have b7:=K.1;unfold isName at b7;simp at b7;omega
          obtain⟨r,aa⟩:∃r:dI,r=⟨F2.toArray⟩:=⟨_,rfl⟩;have wv:F2=r.data.toList:=(by rw[aa]);rw[<-aa]at t0 rj;subst wv;have sx:r.size<=1000:=by
           have:r.data.toList.length=r.size:=ag;omega
          have Us:∀p∈yL,p.1.d.length<=1000:=λp b8=>K.2.2 p.1 (by rw[<-O];exact v5 b8);have AJ:=ae aa;have F3:=ae rj;have ago:=ae O;have agp:=ae Us;have H:Fr aD wr (wr.alloc (.cells #[.string r,.int .i64 fj,.int .u64 F,.slice nS yL.length si] 155)):=(Fr.refl _ _).alloc _;have nB:=ae H;have gy:=ae (Own.alloc wr #[.string r,.int .i64 fj,.int .u64 F,.slice nS yL.length si] 155);have F4:=ae (Lg.br H);have q8:=H.size;have B5:Fr aD cI (wr.alloc (.cells #[.string r,.int .i64 fj,.int .u64 F,.slice nS yL.length si] 155)):=o.o.step H (λ_ h _=>h);have vV:=(FL.o.keep B5 id).look r sx;have az:=SJ (l:=m) (λp b8=>((jU.o.br (J.o.step B5 (λ_ h _=>h))).p6).data p b8) r.data.toList;have BR:(Au (m.map (·.1)) r.data.toList).getD []=h8 au r.data.toList:=by
           unfold h8;rw[ic.o,IY _ so.o.up]
          rw[BR]at az;obtain⟨base,sw⟩:∃base,h8 au r.data.toList=base:=⟨_,rfl⟩;rw[sw]at az F3;obtain⟨V,BS⟩:∃V,(ua m r.data.toList).getD (.slice none 0 0)=V:=⟨_,rfl⟩;rw[BS]at az vV;obtain⟨la,pV,KP,-⟩:=az.shape;subst KP;have KQ:=ae az;have x0':=(B4.o.keep B5 id).cell (i:=0) rfl;clear Lg O H B5 BR sw BS az rj aa Us K rW;go_wp2_with fail;refine(ad9 _ _ base yL a.block w.heap.size _ KQ.o F4.o agp.o).mono ?_;rintro e ef⟨ot,kk,rfl,uu,g7⟩;rw[ago.o]at uu;have na:=ae (nB.o.step g7 (λ_ h _=>h));have x5:=ae (gy.o.keep g7 id);have R2:=g7.size;have ht:=x5.o.cell (i:=0) rfl;have ou:=x5.o.cell (i:=2) rfl;clear g7 vV x0' t0 t1 t2 t3;cases Z:mT base a.block Uq with
          |inl K5=>
           have fp:=agb Z;rw[Z]at uu;obtain⟨rfl,rfl⟩:=uu;have yM:o7 kk=.iface 30 (.int .i64 kk):=aC fp;rw[yM];have B6:=ae (show fc au room bx=.inl (.file r 11) by rw[wE.o,F3.o,Z]);clear Z fp yM;go_wp2_with fail;go_quiet (fail)
           go_wp2_with fail;refine(uw _ _ _).mono ?_;rintro e fE⟨gf,rfl,B7,oy⟩;have W:=ae B7;have qe:=ae oy;clear B7 oy;go_wp2_with fail;go_ret2;exact rk.bad B6.o ⟨gf,rfl,W.o⟩ (((J.o.step o.o (λ_ h _=>h)).step na.o (λ_ h _=>h)).step (((Fr.refl aD ef).drewN _).step qe.o (λ_ h _=>h)) (λ_ h _=>h))
          |inr d=>
           have rb:=Ue Z;rw[Z]at uu;obtain⟨rfl,F5⟩:=uu;rw[show o7 0=.nilIface from rfl];obtain⟨fr,ek,FY,-⟩:=F5.shape;subst FY;have Ut:=ae F5;have oo:=ae (λn=>(tC (.slice fr d.length ek) d (ef.drewN n) (F5.isB.br ((Fr.refl _ _).drewN n))).mono (λ(e:Ending)(w':ab)(h:e=.returned (.int .u64 (cB d))/\ef.drewN n=w')=>(⟨h.1,h.2.symm⟩:e=.returned (.int .u64 (cB d))/\w'=ef.drewN n)));clear F5;by_cases X:lZ d=F
           .have c9:(cB d==(F:Int))=true:=(by rw[<-X,pR];simp);have gg:(cB d !=(F:Int))=false:=(by rw[<-X,pR];simp);have B6:=ae (show fc au room bx=iK au a.block (a.targs.drop (k+1)) (Y.map (·.1)++ [⟨r.data.toList,d⟩]) by rw[wE.o,F3.o,Z];simp only;rw[aV X]);clear Z X;go_wp2_with fail;go_quiet ((go_at_call 69;exact Calls.quiet_of_same (oo.o _)))
            go_upto_region 29 with fail
            have q4:Fr aD ef (ef.drewN nq):=(Fr.refl _ _).drewN nq;have W:=ae (x5.o.keep q4 id);have agq:=ae (Ut.o.keep q4 (λ_ _ h=>h));have qe:=ae (na.o.step q4 (λ_ h _=>h));have JI:=q4.size;clear q4 oo na x5 Ut ht ou;generalize ef.drewN nq=fE at *;have ht:=W.o.cell (i:=0) rfl;go_region_law
             (first
              |(go_simp;go_at_call 71;refine(EK _ d _ (agq.o.isB.br (Fr.drew (Fr.refl _ _))) U).mono ?_;rintro e g6⟨e0,rfl,nC,pg⟩;obtain⟨fN,gL,KU,-⟩:=nC.shape;subst KU;have Uu:=qe.o.drew.step pg (λ_ h _=>h);have ht:=(W.o.keep ((Fr.refl aD fE).drew.step pg (λ_ h _=>h)) id).cell (i:=0) rfl;have Uv:=ae nC;have F6:=ae Uu;clear nC pg Uu)
              |(rw[aV eI];refine tK (.tmp 108) (.tmp 115) 23 eI cI.heap.size 37 2 40 Eo (v:=.slice Sf Y.length E5) (n:=Y.length) (xs:=hM Y) ((N.o.vec.keep F6.o (λ_ _ h=>h)).keep ((Fr.refl aD _).alloc _) (λ_ _ h=>h)) eI (m:=1) (Reads.new _ _ _ _ (by first|rfl|simp) _ _) eI eI (Es _ _ _ _) eH U (by have:=F6.o.size;first|omega|(simp;omega)) ?_;intro v10 KW Lh BX FU;obtain⟨FV,KX,sf,-⟩:=Lh.shape;subst sf;have wC:=ae Lh;have Li:=ae BX;clear Lh BX FU))
            all_goals
             go_wp2_with fail;have Uw:Fr aD g6 (g6.alloc (.cells #[.string r,.slice fN d.length gL] 37)):=(Fr.refl _ _).alloc _;have Lj:=F6.o.step Uw (λ_ h _=>h);have Ux:=N.o.vec.keep Lj (λ_ _ h=>h);have Bf:=F6.o.size;refine⟨⟨k+1,Y++ [(⟨r.data.toList,d⟩,.slice fN d.length gL)],U,by go_num,by rw[cr,x7.o];rfl,(o.o.step Lj (λ_ h _=>h)).step Li.o (λb hb bO=>by have:=(N.o.vec.lt b hb).1;omega),⟨?_,?_,?_⟩,by rw[B6.o,pS];rfl⟩,by simp[intOf];omega⟩
             .have bP:=wC.o;rw[cr,Ep];rw[show tA ((⟨r.data.toList,d⟩:aI),Value.slice fN d.length gL)=[.string r,.slice fN d.length gL]from by unfold tA;rw[tw]];exact bP
             .intro p b8;rcases fB.1 b8 with b8|b8
              .have dB:=(N.o.data p b8).keep Lj (λ_ _ h=>h);exact dB.keep Li.o (λb hb iI=>dB.sd Ux aE b hb iI)
              .obtain rfl:=bK.1 b8;have dB:=(Uv.o.keep Uw (λ_ _ h=>h)).mono (B':=cI.heap.size) (by show _<=fE.heap.size;omega);exact dB.keep Li.o (λb hb iI=>dB.sd Ux aE b hb iI)
             .rw[rZ];refine⟨N.o.two,tJ _ _,λp b8 q b9 b hb iI=> ?_⟩;obtain rfl:=bK.1 b9;have bD:=((N.o.data p b8).lt b hb).2;have cb:fE.heap.size<=b:=(Uv.o.lt b iI).1;omega
           .have c9:(cB d==(F:Int))=false:=(by rw[<-pR];simp;omega);have gg:(cB d !=(F:Int))=true:=(by rw[<-pR];simp;omega);have B6:=ae (show fc au room bx=.inl (.file r 11) by rw[wE.o,F3.o,Z];simp only;rw[aC X]);clear Z X;go_wp2_with fail;go_quiet ((go_at_call 69;exact Calls.quiet_of_same (oo.o _)))
            go_wp2_with fail;refine(uw _ _ _).mono ?_;rintro e fE⟨gf,rfl,B7,oy⟩;have W:=ae B7;have qe:=ae oy;clear B7 oy;go_wp2_with fail;go_ret2;exact rk.bad B6.o ⟨gf,rfl,W.o⟩ (((J.o.step o.o (λ_ h _=>h)).step na.o (λ_ h _=>h)).step (((Fr.refl aD ef).drewN _).step qe.o (λ_ h _=>h)) (λ_ h _=>h))
         .obtain rfl:k=z.length:=U;clear j;go_wp2_with fail;go_ret2;have wF:a.targs.drop z.length=[]:=ty (by rw[F0.o];exact bh _);exact rk.hS (l:=Y.map (·.1)) (by rw[wE.o,wF];rfl) (N.o.lift vR) rfl (J.o.step o.o (λ_ h _=>h))
end Go.Proofs.YtlcdgbhigfgehabGreatDoor
namespace Go.Proofs.YtlcdgbhigfgehabGreatDoor
open Go.RowKit Go.MuLone

def jT.mark{w:ab}{av an:Nat}{s room:Int}{a:Bool}(h:jT w av an s room a)(b:Bool):jT (w.setCell ⟨av,4,none⟩ (.bool b)) av an s room b/\Fr (λb=>b=av) w (w.setCell ⟨av,4,none⟩ (.bool b)):=⟨Own.set h 4 (.bool b),(Fr.refl (λb=>b=av) w).setCell ⟨av,4,none⟩ (.bool b) (λ_=>rfl)⟩
end Go.Proofs.YtlcdgbhigfgehabGreatDoor
namespace Go.Proofs.YtlcdgbhigfgehabGreatDoor
open Go.RowKit Go.MuLone

def agB(au:List aI)(blk:Nat):∀(b:List h7)(a l:List aI),iK au blk b a=.inr l->l.map (·.name)=a.map (·.name)++b.map (·.dN.name)/\((∀f∈a,f.data.length<=300)->∀f∈l,f.data.length<=300):=by
 intro b;induction b with
 |nil=>intro a l h;simp only[iK,Sum.inr.injEq]at h;subst h;simp
 |cons t b e=>
  intro a l h;unfold iK at h;split at h
  .cases h
  .rename_i d hd;split at h
   .have:=e _ _ h;refine⟨by rw[this.1];simp,λg=>this.2 (λf c=> ?_)⟩;rcases fB.1 c with c|c
    .exact g f c
    .obtain rfl:=bK.1 c;exact Ue hd
   .cases h
def agC{au:List aI}{room:Int}{b:ar}{l:List aI}(h:fc au room b=.inr l):dc l:=by
 unfold fc at h;split at h
 .cases h
 .rename_i x i;have c:=Sz i;unfold tX at h;split at h
  .cases h
  .split at h
   .cases h
   .have e:=agB _ _ _ _ _ h;have d:l.map (·.name)=(x.targs.map (·.dN)).map (·.name):=(by rw[e.1];simp);have j:l.length<=8:=by
     have k:=hq List.length d;have:=c.Sw;simp at k;omega
    refine⟨λf g=>⟨?_,e.2 (λ_ h=>by simp at h) f g⟩,?_,j⟩
    .have:f.name∈l.map (·.name):=v5 g;rw[d,List.map_map]at this;have⟨t,m,n⟩:=og.1 this;rw[<-n];exact(c.fj t m).1
    .have o:=c.up;have:(l.map (·.name)).Pairwise λa b=>Op.bytesLess a b=true:=(by rw[d,BA];exact o);rwa[BA]at this
def agD{au:List aI}{blk:Nat}:∀(b:List h7)(a:List aI)(e:cZ),iK au blk b a=.inl e->e≠.none:=by
 intro b;induction b with
 |nil=>intro a e h;cases h
 |cons t b c=>
  intro a e h;unfold iK at h;split at h
  .cases h;simp
  .split at h
   .exact c _ _ h
   .cases h;simp
def agE{au:List aI}{room:Int}{b:ar}{e:cZ}(h:fc au room b=.inl e):e≠.none:=by
 unfold fc tX at h;split at h
 .cases h;simp
 .split at h
  .cases h;simp
  .split at h
   .cases h;simp
   .exact agD _ _ _ h
def eb.iface{w:ab}{v:ai}{e:cZ}(h:eb w v e)(a:e≠.none):∃T u,v=.iface T u:=by
 cases e with
 |none=>exact absurd rfl a
 |kind k=>exact⟨_,_,h⟩
 |file n k=>obtain⟨g,h,-⟩:=h;exact⟨_,_,h⟩
def eb.F8{w w1:ab}{v:ai}{e:cZ}{S:Nat->Prop}(h:eb w v e)(k:Fr S w w1)(a:eB w S):eb w1 v e:=by
 cases e with
 |none=>exact h
 |kind k=>exact h
 |file n k'=>
  obtain⟨g,h,ap⟩:=h;refine⟨g,h,ap.keep k (λb=> ?_)⟩;rcases a g b with⟨c,o⟩|⟨c,o⟩
  .exact hv ap o aE rfl
  .exact hv ap o aE rfl
def fe(au:List aI)(room:Int)(b:ar)(da:Int):cZ:=match fc au room b with
 |.inl e=>e
 |.inr l=>if 1<=da/\da<=l.length+3 then .kind 12 else .none
def jZ(au:List aI)(room:Int)(b:ar)(da:Int):List aI:=match fc au room b with
 |.inl _=>au
 |.inr l=>if 1<=da/\da<=l.length+2 then au else l
def rm(au:List aI)(room:Int)(b:ar)(da:Int):Bool:=match fc au room b with
 |.inl _=>false
 |.inr l=>decide (1<=da/\da<=l.length+3)
def agF{au:List aI}{room:Int}{b:ar}{e:cZ}(a:Int)(h:fc au room b=.inl e):fe au room b a=e/\jZ au room b a=au/\rm au room b a=false:=by unfold fe jZ rm;rw[h];exact⟨rfl,rfl,rfl⟩
def Uz{au:List aI}{room:Int}{b:ar}{l:List aI}(a:Int)(h:fc au room b=.inr l):fe au room b a=(if 1<=a/\a<=l.length+3 then .kind 12 else .none)/\jZ au room b a=(if 1<=a/\a<=l.length+2 then au else l)/\rm au room b a=decide (1<=a/\a<=l.length+3):=by unfold fe jZ rm;rw[h];exact⟨rfl,rfl,rfl⟩
structure Clear(av an:Nat):Prop where
 mt:av≠0
 Ln:an≠0
 Lo:av≠1
 gb:an≠1
def ck.off{w w1:ab}{B g T:Nat}{v:ai}{l:List (aI×ai)}{xs:bJ}(h:ck w B v l)(ap:Own w g T xs)(c:T≠37)(d:T≠5)(k:Fr (λb=>b=g) w w1):ck w1 B v l:=h.keep k (λ_ a e=>h.vec.gI ap (ed c) (e▸a)) (λp f _ a e=>(h.data p f).gI ap (ed d) (e▸a))
def agG(j m av an:Nat)(q:ai)(l:List (aI×ai))(B:Nat)(d:Int)(x:ai)(u z c:Int)(s room:Int)(g:Bool)(w:ab)(r:Own w j 23 [q])(A:Own w m 26 [.pointer (some ⟨av,0,none⟩)])(C:jT w av an s room g)(hd:c0 w an d x (.slice none 0 0) u z)(hk:ck w B q l)(L:B<=w.heap.size)(D:l.length<=8): Calls aj.prog 37 #[.pointer (some ⟨an,0,none⟩),.int .i64 c,.func (.func 38) #[] #[.pointer (some ⟨j,0,none⟩),.pointer (some ⟨m,0,none⟩)]] w λe w'=>∃b:Bool,e=.returned (.bool b)/\Lm w an B d x l c b w':=by
 have⟨xs,f⟩:=hd.own;have E:=f.lt;have F:¬j=an:=hv r f aE;have G:¬m=an:=hv A f aE;have pi:¬av=an:=hv C f aE;refine agA an d x _ u z c 38 #[] #[.pointer (some ⟨j,0,none⟩),.pointer (some ⟨m,0,none⟩)] (Lm w an B d x l c) w hd (λw=>run_callFunc_enter aj.func38 ah rfl _ w) ?_ ?_
 .intro w1 t n M;refine(ags j m av an q l B d x c s room g w1 (r.keep n F) (A.keep n G) (Own.keep C n pi) t (hk.held n (yN hd)) U D).mono ?_;rintro e w2⟨b,H,aa,o⟩;exact⟨b,H,⟨n.step o (λ_ h _=>h),aa.2⟩,o⟩
 .rintro b w2 N v⟨t,J⟩ ap k;refine⟨t.step k (λb O r=>U),?_⟩;rcases J with⟨a,p,K,y,s,h⟩|⟨a,p,y,s,h,i⟩|⟨a,p,y,s,h,i⟩
  .exact .inl ⟨a,p,K,y,s,h.keep k U⟩
  .exact .inr (.inl ⟨a,p,y,s,h.keep k U,i.off ap aE aE k⟩)
  .exact .inr (.inr ⟨a,p,y,s,h.keep k U,i.off ap aE aE k⟩)
def sz(au:List aI)(room:Int)(b:ar)(da:Int)(B n:Nat):Nat:=match fc au room b with
 |.inl _=>B
 |.inr l=>if 1<=da/\da<=l.length+2 then B else n
def agH{au:List aI}{room:Int}{b:ar}{e:cZ}(a:Int)(B n:Nat)(h:fc au room b=.inl e):sz au room b a B n=B:=by unfold sz;rw[h]
def agI{au:List aI}{room:Int}{b:ar}{l:List aI}(a:Int)(B n:Nat)(h:fc au room b=.inr l):sz au room b a B n=if 1<=a/\a<=l.length+2 then B else n:=by unfold sz;rw[h]
def agJ{au:List aI}{room:Int}{b:ar}{a:Int}{B n:Nat}(h:B<=n):B<=sz au room b a B n:=by
 unfold sz;split
 .exact bh _
 .split
  .exact bh _
  .exact h
def c0.inj{w:ab}{an:Nat}{g f:Int}{x y ak m:ai}{s c s' n:Int}(h:c0 w an g x y s c)(k:c0 w an f ak m s' n):x=ak:=by
 have l:∀{a b c d:ai}{i j s t s' o:Int},ml w an a b i s t->ml w an c d j s' o->a=c/\b=d/\i=j:=λp q=>by
  have:=Own.eq p q;simp at this;exact⟨this.1,this.2.1,this.2.2.1⟩
 rcases h with⟨-,h⟩|⟨-,h⟩<;>rcases k with⟨-,k⟩|⟨-,k⟩<;>have e:=l h k
 .exact e.1
 .exact absurd e.2.2 aE
 .exact absurd e.2.2 aE
 .exact e.2.1
def F9(au:List aI)(room:Int)(b:ar)(da:Int):Prop:=match fc au room b with
 |.inl _=>True
 |.inr l=>1<=da/\da<=l.length+2
def agK{au:List aI}{room:Int}{b:ar}{l:List aI}{a:Int}(h:fc au room b=.inr l)(hk:F9 au room b a):1<=a/\a<=l.length+2:=by unfold F9 at hk;rw[h]at hk;exact hk
def Cb(w:ab)(an:Nat)(K:Prop)(w':ab):Prop:=K->∀live x y s c,c0 w an live x y s c->∃agL gh s' dQ,c0 w' an agL x gh s' dQ
def Cb.after{w w1 w':ab}{an:Nat}{K:Prop}{S:Nat->Prop}(h:Cb w an K w1)(k:Fr S w1 w')(b:¬S an):Cb w an K w':=λd a x y s c hd=>by
 have⟨e,f,s',g,i⟩:=h d a x y s c hd;exact⟨e,f,s',g,i.keep k b⟩
def UA(av an B:Nat)(au:List aI)(room:Int)(b:ar)(da:Int)(w:ab)(e:Ending)(w':ab):Prop:=∃y,e=.returned y/\eb w' y (fe au room b da)/\dh w' (sz au room b da B w.heap.size) av an (jZ au room b da) room (rm au room b da)/\Fr (λb=>b=av\/b=an) w w'/\Cb w an (F9 au room b da) w'
def UB(av an B:Nat)(au:List aI)(room a:Int)(aO bd bc:Nat)(bx:ar)(w:ab)(h:dh w B av an au room false)(c8:B<=w.heap.size)(x6:Clear av an)(dg:il w)(A:bH w (.slice (some ⟨aO,bd,none⟩) bx.length bc) bx)(V:fz bx≠none)(Lp:a=0): Calls aj.prog 24 #[.pointer (some ⟨av,0,none⟩),.slice (some ⟨aO,bd,none⟩) bx.length bc,.int .i64 a] w (UA av an B au room bx a w):=by
 have FD:=ae (show¬1<=a/\∀n:Nat,a≠(n:Int)+3 from⟨U,λn=>U⟩);have abO:∀(fn:Fn)(first cap:aQ)(w:ab),(Instr.makeFunc fn first cap).run aj.prog w=.ok (.func fn first cap) w:=λ_ _ _ _=>rfl;have cc:Fr aD w (w.alloc (.cells #[.pointer (some ⟨av,0,none⟩)] 26)):=(Fr.refl _ _).alloc _;have jP:=Own.alloc w #[.pointer (some ⟨av,0,none⟩)] 26;have hm:jT (w.alloc (.cells #[.pointer (some ⟨av,0,none⟩)] 26)) av an 0 room false:=Own.keep h.b5 cc id;have gJ:=Own.lt h.b5;have q8:=cc.size;have agM:(w.alloc (.cells #[.pointer (some ⟨av,0,none⟩)] 26)).heap.size=w.heap.size+1:=ag;obtain⟨W,agN⟩:∃W,w.heap.size=W:=⟨_,rfl⟩;rw[agN]at jP gJ agM;obtain⟨bD,k1⟩:=hm.lock 1;have x0:=Own.cell hm (i:=0) rfl;have f0:=Own.free hm 0 ag;have J:=jP.keep k1 U;have az:=J.cell (i:=0) rfl;have uD:=Own.cell bD (i:=4) rfl;have H:=ae h;have p:=h.ne;obtain⟨T,u,hu⟩:=dg;have j:=ae ((cc.mono (S':=λb=>b=av) (λ_ h _=>h.elim)).step k1 (λ_ h _=>h));have K:=ae J;have H1:=ae bD;obtain⟨d,x,y,s,c,m,hd,hk,L,dP⟩:=h.part;obtain rfl:=dP rfl;have Fb:=ae L;have avm:=ae (λl0 x0 az Lq eY(cz:c0 w an l0 x0 az Lq eY)=>c0.inj hd cz);have C:=ae (hd.keep j.o (λe=>p e.symm));have X:=ae (hk.held j.o (sm h.b5));have q2:=ae (age av an B au 1 room false d x _ s c m aO bd bc bx T u _ bD C.o X.o L h.tree h.iL (A.keep j.o ((sm h.b5).isB A)) (j.o.cell hu (λe=>x6.Lo e.symm)) V);clear h cc jP hm bD k1 J hd hk L dP A hu V Lp;go_enter_defers aj.func24,Tryz.ntmps24;go_wp2_with fail;generalize w.alloc (.cells #[.pointer (some ⟨av,0,none⟩)] 26)=dm at *;refine(lock_free Bo ⟨av,0,none⟩ _ x0 f0).mono ?_;rintro e w'⟨rfl,rfl⟩;have v9:=j.o.size;generalize dm.setCell ⟨av,0,none⟩ (.int .i32 1)=w1 at *;go_wp2_with fail;refine q2.o.mono ?_;rintro e w2⟨agO,agP,rfl,k,D⟩;cases nY:fc au room bx with
 |inl K5=>
  have M:=ae (agF a nY);have N:=ae (agH a B w.heap.size nY);have F:=agE nY;rw[nY]at D;obtain⟨rfl,O⟩:=D;obtain⟨avn,avo,rfl⟩:=O.iface F;have agQ:=ae O;have Y:=ae k;have avp:=(K.o.keep k id).cell (i:=0) rfl;clear O nY k F;go_wp2_with fail;have g:=(Fr.refl aD w2).alloc (.cells #[.slice none 0 0] 23);have b7:jT (w2.alloc (.cells #[.slice none 0 0] 23)) av an 1 room false:=Own.keep H1.o (Y.o.step g (λ_ h _=>h)) id;refine ya (f:=35) (args:= #[.pointer (some ⟨av,0,none⟩)]) ag (by simp[go_sem]) ?_;refine(unlock_deferred Bo ⟨av,0,none⟩ .returning _ (Own.cell b7 (i:=0) rfl) (Own.free b7 0 ag)).mono ?_;rintro e uE agR⟨rfl,rfl,rfl⟩;have dC:=jT.lock b7 0;have hk:=(j.o.step (Y.o.step g (λ_ h _=>h)) (λ_ h _=>h.elim)).step dC.2 (λ_ h _=>h);refine⟨_,results_tmp rfl _ _ _,_,rfl,?_,?_,hk.mono (λ_ h _=>.inl h),λ_ d x y s c hd=>⟨d,y,s,c,hd.keep hk (λe=>p e.symm)⟩⟩
  .rw[M.o.1];exact(agQ.o.F8 g (eB.none _)).F8 dC.2 (sm b7)
  .rw[M.o.2.1,M.o.2.2,N.o];exact⟨dC.1,H.o.o6.held hk (sm H.o.b5) (λe=>p e.symm),H.o.tree,H.o.iL⟩
 |inr l=>
  have M:=ae (Uz a nY);have N:=ae (agI a B w.heap.size nY);have Z:=ae nY;have UC:=ae (agC nY);rw[nY]at D;obtain⟨rfl,G,P,rfl⟩:=D;obtain⟨Lr,pc,rfl,-⟩:=P.vec.shape;have g:=(Fr.refl aD w2).alloc (.cells #[.slice Lr G.length pc] 23);have q:=ae (k.step g (λ_ h _=>h));have Q:=ae (Own.alloc w2 #[.slice Lr G.length pc] 23);have UD:=ae ((P.br g).lift (B':=w.heap.size) U);have jQ:G.length<=8:=(by have:=UC.o.len;simpa using this);have q9:=k.size;have vQ:=g.size;clear nY k g P uD az;go_upto_region 8 with fail
  obtain⟨me,m3⟩:∃me,w2.heap.size=me:=⟨_,rfl⟩;rw[m3]at Q⊢;clear m3;generalize w2.alloc (.cells #[.slice Lr G.length pc] 23)=v at *;have o:=K.o.keep q.o id;have r:jT v av an 1 room false:=Own.keep H1.o q.o id;have agS:¬W=av:=hv o r aE;obtain⟨avq,UE⟩:=(C.o.keep q.o id).own;have agT:¬W=an:=hv o UE aE;have az:=o.cell (i:=0) rfl;have avr:=Own.cell r (i:=2) rfl;have vI:=ae o;have agU:=ae r;have agV:=ae (C.o.keep q.o id);have K6:=ae (agG me W av an _ G w.heap.size d x s c a 1 room false v.drew (Q.o.keep (Fr.drew (Fr.refl aD v)) id) (o.keep (Fr.drew (Fr.refl aD v)) id) (Own.keep r (Fr.drew (Fr.refl aD v)) id) (agV.o.keep (Fr.drew (Fr.refl aD v)) id) (UD.o.br (Fr.drew (Fr.refl aD v))) (by show _<=v.heap.size;omega) jQ);clear o r UE K H1 C Q UD;refine wp_region_noPanic ?_;go_region_law
   (go_simp;go_at_call 37;refine K6.o.mono ?_;rintro e cU⟨b,rfl,cl⟩;have E:=((Fr.refl aD v).drew.mono (S':=λb=>b=an) (λ_ h _=>h.elim)).step cl.1 (λ_ h _=>h);have z:=Own.keep agU.o E p;have K3:=Own.cell z (i:=4) rfl;have avs:=Own.free z 4 ag;have tN:=ae (show jT cU av an 1 room false from z);have UF:=ae cl;have ma:=ae E;have Ls:=vI.o.keep E agT;have az:=Ls.cell (i:=0) rfl;have FK:=ae Ls;clear z cl E Ls)
  all_goals
   refine NoPanic.normal ?_;cases b
   .have R:=tN.o.mark false;have yO:=Own.cell R.1 (i:=4) rfl;have az:=(FK.o.keep R.2 agS).cell (i:=0) rfl;have ky:=R.1.lock 0;have t:Fr (λb=>b=av\/b=an) v ((cU.setCell ⟨av,4,none⟩ (.bool false)).setCell ⟨av,0,none⟩ (.int .i32 0)):=((ma.o.mono (S':=λb=>b=av\/b=an) (λ_ h _=>.inr h)).step R.2 (λ_ h _=>.inl h)).step ky.2 (λ_ h _=>.inl h);have avt:=ae t;have Ga:=ae R;have Cc:=ae ky;have UG:Fr (λb=>b=av) cU ((cU.setCell ⟨av,4,none⟩ (.bool false)).setCell ⟨av,0,none⟩ (.int .i32 0)):=R.2.step ky.2 (λ_ h _=>h);have UH:=ae UG;have aa:Fr (λb=>b=av\/b=an) w ((cU.setCell ⟨av,4,none⟩ (.bool false)).setCell ⟨av,0,none⟩ (.int .i32 0)):=((j.o.step q.o (λ_ h _=>h.elim)).mono (S':=λb=>b=av\/b=an) (λ_ h _=>.inl h)).step t (λ_ h _=>h);have BE:=ae aa;clear ky t R UG aa;go_wp2_with fail;refine ya (f:=35) (args:= #[.pointer (some ⟨av,0,none⟩)]) ag (by simp[go_sem]) ?_;refine(unlock_deferred Bo ⟨av,0,none⟩ .returning _ (Own.cell Ga.o.1 (i:=0) rfl) (Own.free Ga.o.1 0 ag)).mono ?_;rintro e uE agR⟨rfl,rfl,rfl⟩;rcases UF.o.2 with⟨A,-⟩|⟨A,-⟩|⟨-,dZ,gh,s',agW,yP⟩
    .cases A
    .cases A
    have UI:¬(1<=a/\a<=((G.map (·.1)).length:Int)+3):=(by rw[pW];exact dZ);have S:¬(1<=a/\a<=((G.map (·.1)).length:Int)+2):=U;refine⟨_,results_tmp rfl _ _ _,_,rfl,?_,?_,BE.o,λLt=>absurd (agK Z.o Lt) S⟩
    .rw[M.o.1,aC UI];rfl
    .rw[M.o.2.1,M.o.2.2,N.o,aC S,aC S,yQ UI];exact⟨Cc.o.1,⟨1 - d,gh,.slice none 0 0,s',a,G,agW.keep UH.o (λe=>p e.symm),yP.held UH.o (sm tN.o),rfl,λ_=>rfl⟩,UC.o,H.o.iL⟩
   .exfalso;rcases UF.o.2 with⟨-,c1,-⟩|⟨-,dZ,-⟩|⟨A,-⟩
    .exact absurd c1 (Int.not_le.2 FD.o.1)
    .exact FD.o.2 _ dZ
    .cases A
def dh.lift{w:ab}{B B' av an:Nat}{au:List aI}{room:Int}{a:Bool}(h:dh w B av an au room a)(b:B'<=B):dh w B' av an au room a:=⟨h.b5,h.o6.lift b,h.tree,h.iL⟩
end Go.Proofs.YtlcdgbhigfgehabGreatDoor
namespace Go.Proofs.YtlcdgbhigfgehabGreatDoor
open Go.RowKit

def ag1(av an B:Nat)(au:List aI)(room:Int)(b:ar)(da:Int)(w:ab)(e:Ending)(w':ab):Prop:=e=.returned (.tuple #[.int .i64 (fe au room b da).k,.string (fe au room b da).name])/\dh w' B av an (jZ au room b da) room (rm au room b da)/\Fr (λb=>b=av\/b=an) w w'
def UK(av an B:Nat)(au:List aI)(room:Int)(b:ar)(da:Int)(w:ab)(e:Ending)(w':ab):Prop:=e=.returned (.tuple #[.int .i64 (fe au room b da).k,.string (fe au room b da).name])/\dh w' (sz au room b da B w.heap.size) av an (jZ au room b da) room (rm au room b da)/\Fr (λb=>b=av\/b=an) w w'/\Cb w an (F9 au room b da) w'
def ag2(av an B:Nat)(au:List aI)(room a:Int)(aO bd bc:Nat)(bx:ar)(w:ab)(h:dh w B av an au room false)(r:B<=w.heap.size)(b:Clear av an)(s:dp w)(c:il w)(j:bH w (.slice (some ⟨aO,bd,none⟩) bx.length bc) bx)(d:fz bx≠none)(f:a=0): Calls aj.prog 12 #[.pointer (some ⟨av,0,none⟩),.slice (some ⟨aO,bd,none⟩) bx.length bc,.int .i64 a] w (UK av an B au room bx a w):=by
 have H:=ae (UB av an B au room a aO bd bc bx w h r b c j d f);unfold UA at H;unfold UK;obtain⟨E,k⟩:∃E,fe au room bx a=E:=⟨_,rfl⟩;obtain⟨D,l⟩:∃D,rm au room bx a=D:=⟨_,rfl⟩;obtain⟨T,m⟩:∃T,jZ au room bx a=T:=⟨_,rfl⟩;obtain⟨n,g⟩:∃n,sz au room bx a B w.heap.size=n:=⟨_,rfl⟩;rw[k,l,m,g]at H⊢;clear h j k l m g c d f;go_enter aj.func12,Tryz.ntmps12;go_wp2_with fail;refine H.o.mono ?_;rintro e w1⟨y,rfl,o,p,i,q⟩;have t:=ae (E9 y E w1 (s.keep i (λe=>by rcases e with e|e;exact b.mt e.symm;exact b.Ln e.symm)) o);have u:=ae p;have v:=ae i;have x:=ae q;clear o p i q;go_wp2_with fail;refine t.o.mono ?_;rintro e w2⟨rfl,c⟩;go_wp2_with fail;go_ret2;exact⟨rfl,u.o.br c,v.o.step c (λ_ h _=>h.elim),x.o.after c id⟩
def ag3(av an B:Nat)(au:List aI)(room a:Int)(aO bd bc:Nat)(bx:ar)(w:ab)(h:dh w B av an au room false)(e:B<=w.heap.size)(b:Clear av an)(f:dp w)(g:il w)(i:bH w (.slice (some ⟨aO,bd,none⟩) bx.length bc) bx)(c:fz bx≠none)(d:a=0): Calls aj.prog 12 #[.pointer (some ⟨av,0,none⟩),.slice (some ⟨aO,bd,none⟩) bx.length bc,.int .i64 a] w (ag1 av an B au room bx a w):=(ag2 av an B au room a aO bd bc bx w h e b f g i c d).mono λ_ _ ⟨j,k,l,_⟩=>⟨j,k.lift (agJ e),l⟩
end Go.Proofs.YtlcdgbhigfgehabGreatDoor
