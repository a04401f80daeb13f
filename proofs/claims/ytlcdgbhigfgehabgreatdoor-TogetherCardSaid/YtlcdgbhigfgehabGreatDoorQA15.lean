import Derived.Test.YtlcdgbhigfgehabGreatDoorQA14
import Derived.Conc.DeferLaws
set_option linter.all false
set_option maxRecDepth 100000
set_option maxHeartbeats 16000000
namespace Go.bp
open Go Go.Conc Go.ConcN Go.RowKit Go.Conc.Lib Go.ConcR.Gen Go.Proofs Go.bG Go.Ren
open Go.ConcR (KK wgBlock WgAt stA smA rd wr mk DC0)
open Go.ConcM (OsLater goes_pad goes_le)
open Go.aS (Th Sh a6 mv Pc hd eS)
def P5:Code->Option Code
 |.seq (.block _ _) r=>some r
 |.seq _ y=>P5 y
 |_=>none
noncomputable def DS:Code:=(sY h1).getD .skip
noncomputable def Ig:Code:=(P5 h1).getD .skip
section
variable{K:bj}{aL:bu->Obj->Prop}{Post:Nat->(Nat->Prop)->World->Prop}{i:Nat}{kd:Int}{aN:Nat->Prop}{W:World}
variable{er:Frame}{et:Act}{du:Array Oper}{eu:Nat}{ev:List Nat}{ew:List Item}{ey:List Frame}
def Ih(gr:eB K aL Post i kd aN W (G (er.at (et.put ((du[eu]?).bind (·.dst)) (.tuple #[])) (.inRegion du ev::ew)) ey))(v:bu)(T:Th)(k:Nat)(b8:T.pc=.le){hE zU Hy Ab rF sZ kH h2 h3 iX iY iZ ja jb jc jd je jf jg jh ji jj jk jl jm jo jq jr ju jv jw jx jy jz jA jB jC jD jE jF jG jH kQ kR kS kT kU kV kW kX kY kZ k0 k2 k3 k4 k5 k6 k7 k8 k9 lc lf lg lh li lj lk ll lm ln lp lq lr ls lu lv lx ly lz lA lB lC lD lE lF lG lH lI lJ lK lL lM lN lO lP lQ lR lS a c d e g h j l n o p q r s t u x z A B C D E F H aa J L M N O P Q R S az V X Y:ai}{w:ab}(hF:aR K i aN W w):cq K aL Post i kd T v ⟨aN,1⟩ k 30 (G ((base 112).at ⟨#[.pointer (some ⟨K.bm,0,none⟩),hE,zU,Hy,Ab,rF,sZ,kH,h2,h3,iX,iY,iZ,ja,jb,jc,jd,je,jf,jg,jh,ji,jj,jk,jl,jm,jo,jq,jr,ju,jv,jw,jx,jy,jz,jA,jB,jC,jD,jE,jF,jG,jH,kQ,kR,kS,kT,kU,kV,kW,kX,kY,kZ,k0,k2,k3,k4,k5,k6,k7,k8,k9,lc,lf,lg,lh,li,lj,lk,ll,lm,ln,lp,lq,lr,ls,lu,lv,lx,ly,lz,lA,lB,lC,lD,lE,lF,lG,lH,lI,lJ,lK,lL,lM,lN,lO,lP,lQ,lR,lS,a,c,d,e,g,h,j,l,n,o,p,q,r,s,t,u,x,z,A,B,C,D,E,F,H,aa,J,L,M,N,O,P,Q,R,S,az,V,X,Y],[]⟩ [.code Ig]) (er.at et (.inRegion du (eu::ev)::ew)::ey)) w:=by
 obtain⟨pc,old,aw,sv,ws,ij,it⟩:=T;simp only at b8;subst b8;simp only[Ig,P5,h1,Tryz.f112,e2];repeat w_go aR.rely
 refine Goes.stop (λ_ Z=> ?_);replace hF:=aR.rely hF Z;clear Z;rcases k with _|k
 .rfl
 refine⟨rfl,rfl,rfl,ag,ag,λy dP _ _=>⟨by simp[mv],λ_ _ _=>⟨(⟨.la,old,aw,sv,ws,ij,it⟩,y),by simp[mv],λ_=>⟨_,_,_,stepG_mark0 .enable ag rfl rfl (by k_ne) rfl cP.f_enable (x_enable_n link) (x_enable_b link) (x_enable_x link) (x_enable_f link),rfl,dP,.refl _ _,bk_en 0,cq.dt (m:=30) ?_ ag⟩⟩⟩⟩;walk_nrm
 repeat w_go aR.rely
 m_convG Tryz.prog cP.underlying_tUP Dk Dl hF.mu.choose_spec aR.rely hF
 refine Goes.stop (λ_ Z=> ?_);replace hF:=aR.rely hF Z;clear Z;rcases k with _|k
 .rfl
 refine⟨rfl,rfl,rfl,ag,ag,λy dP _ _=>⟨by simp[mv],λ_ f dg=>⟨(⟨.ur,old,aw,sv,ws,ij,it⟩,y),by simp[mv],λ_=>⟨_,_,_,stepG_markAt .acquire ag rfl rfl (by k_ne) rfl cP.f_acquire (x_acquire_n link) (x_acquire_b link) (x_acquire_x link) (x_acquire_f link) (by simp[Act.eval];rfl),rfl,dP,.refl _ _,rfl,?_⟩⟩⟩⟩;have⟨P6,aph⟩:=gr k f ⟨.ur,old,aw,sv,ws,ij,it⟩ rfl (dg rfl).2;refine dV.dt (m:=P6+20) ?_ ag;replace hF:=And.intro hF (dg rfl).1;walk_nrm
 show Goes Tryz.prog false (Rl K (some i) ⟨λb=>aN b\/b=K.bU,0⟩) DC0 _ _ _ _
 repeat w_go e8
 u_leave0 Tryz.func112 e8 hF
 exact goes_pad (aph _ hF.1 hF.2) _
end
end Go.bp
namespace Go.bp
open Go Go.Conc Go.ConcN Go.RowKit Go.Conc.Lib Go.ConcR.Gen Go.Proofs Go.bG Go.Ren
open Go.ConcR (KK wgBlock WgAt stA smA rd wr mk DC0)
open Go.ConcM (OsLater goes_pad goes_le)
open Go.aS (Th Sh a6 mv Pc hd eS)
def lead:Code->Option Nat
 |.region m _ _=>some m
 |.seq x _=>lead x
 |_=>none
def gW(n:Nat):Code->Option Code
 |.seq x y=>if lead x=some n then some (.seq x y)else match gW n x with|some r=>some r|none=>gW n y
 |.cond _ x y=>match gW n x with|some r=>some r|none=>gW n y
 |.block _ c=>gW n c
 |.loop c=>gW n c
 |_=>none
noncomputable def YH:Code:=(gW 29 h1).getD .skip
noncomputable def YI:Code:=(gW 27 h1).getD .skip
noncomputable abbrev back:eQ:=[.inBlock 1,.inLoop DS,.inBlock 0,.code Ig]
structure vj(T:Th)(P7:Int):Prop where
 q:T.old.q<31
 it:T.it<=4
 ws:T.ws=decide (P7≠0)
 bad:(hd T).pc≠.bad
def vk(K:bj)(aL:bu->Obj->Prop)(Post:Nat->(Nat->Prop)->ab->Prop)(i:Nat)(kd:Int)(aN:Nat->Prop)(W:ab)(er:bY)(et:Act)(du:dn)(eu:Nat)(ev:cw)(ew:eQ)(ey:bW)(v:bu)(k:Nat)(T:Th)(P7:Int):Prop:=∀{{hE kH h2 h3 iX iY iZ ja jb jc jd je jf jg jh ji jj jk jl jm jo jq jr ju jv jw jx jy jz jA jB jC jD jE jF jG jH kQ kR kS kT kU kV kW kX kY kZ k0 k2 k3 k4 k5 k6 k7 k8 k9 lc lf lg lh li lj lk ll lm ln lp lq lr ls lu lv lx ly lz lA lB lC lD lE lF lG lH lI lJ lK lL lM lN lO lP lQ lR lS api apj apk apl apm apn apo apq apr aps apt apu apv apw apx apy apz apA apB apC apD P8 P9 DT xG ti tj tk tl qO qP oT oU nk nl nm nn np ns:ai}}{{w:ab}},aR K i aN W w->cq K aL Post i kd (hd T) v ⟨aN,1⟩ k 300 (G ((base 112).at ⟨#[.pointer (some ⟨K.bm,0,none⟩),hE,.int .i64 P7,.bool T.sv,.bool T.aw,.int .i64 T.it,.int .i32 T.old.enc,kH,h2,h3,iX,iY,iZ,ja,jb,jc,jd,je,jf,jg,jh,ji,jj,jk,jl,jm,jo,jq,jr,ju,jv,jw,jx,jy,jz,jA,jB,jC,jD,jE,jF,jG,jH,kQ,kR,kS,kT,kU,kV,kW,kX,kY,kZ,k0,k2,k3,k4,k5,k6,k7,k8,k9,lc,lf,lg,lh,li,lj,lk,ll,lm,ln,lp,lq,lr,ls,lu,lv,lx,ly,lz,lA,lB,lC,lD,lE,lF,lG,lH,lI,lJ,lK,lL,lM,lN,lO,lP,lQ,lR,lS,api,apj,apk,apl,apm,apn,apo,apq,apr,aps,apt,apu,apv,apw,apx,apy,apz,apA,apB,apC,apD,P8,P9,DT,xG,ti,tj,tk,tl,qO,qP,oT,oU,nk,nl,nm,nn,np,ns],[]⟩ [.code DS,.inLoop DS,.inBlock 0,.code Ig]) (er.at et (.inRegion du (eu::ev)::ew)::ey)) w
def HK(T:Th)(h:(hd T).pc≠.bad):(hd T).pc=.sq\/(hd T).pc=.c2:=by
 unfold hd eS at *;split
 .exact .inl rfl
 .rename_i a;rw[aC a]at h;split
  .rename_i b;rw[aV b]at h;exact absurd rfl h
  .exact .inr rfl
def DU{T:Th}(h:(hd T).pc≠.bad):h0 (hd T)=1:=by unfold h0;rcases HK T h with h|h<;>rw[h]
def Ii{T:Th}(h:(hd T).pc≠.bad):(hd T).pc≠.out:=by rcases HK T h with h|h<;>rw[h]<;>simp
def Ij{K:bj}{T az:Th}(a:(hd az).pc≠.bad)(b:T.pc≠.la)(c:T.pc≠.ur)(d:h0 T=1):rC K T (hd az) #[]:=by
 unfold rC;split
 .exact absurd ‹_› b
 .exact absurd ‹_› c
 .refine⟨ag,?_⟩;rw[DU a,d];rfl
def _root_.Go.bG.pB.later(K:bj)(w:ab):pB K w (w.later):=⟨rfl,rfl,rfl,⟨w.tick,rfl⟩,λ_ _=>rfl⟩
def _root_.Go.bG.pB.asked(K:bj)(w:ab):pB K w w.asked:=⟨rfl,rfl,rfl,.refl _,λ_ _=>rfl⟩
section
variable{K:bj}{aL:bu->Obj->Prop}{Post:Nat->(Nat->Prop)->World->Prop}{i:Nat}{kd:Int}{aN:Nat->Prop}{W:World}
variable{er:Frame}{et:Act}{du:Array Oper}{eu:Nat}{ev:List Nat}{ew:List Item}{ey:List Frame}
def Qa{x:a6}(g:x.bC=false)(i:x.q≠0)(h:x.a4=true)(j:x.q<31)(f:Bool):IntKind.i32.wrap (x.enc+ (if f then -11 else -7))=a6.enc {x with bC:=true,a4:=x.a4 && !f,q:=x.q - 1}:=by
 obtain⟨a,b,c,d⟩:=x;simp only at g i h j;subst g h;cases f
 .have e:a6.enc ⟨false,b,true,d⟩+ -7=a6.enc ⟨true,b,true,d - 1⟩:=(by cases b<;>simp[a6.enc]<;>omega);have:=xp ⟨true,b,true,d - 1⟩;simp only at this;show IntKind.i32.wrap (a6.enc ⟨false,b,true,d⟩+ -7)=a6.enc ⟨true,b,true,d - 1⟩
  rw[e,IntKind.wrap_i32];omega
 .have e:a6.enc ⟨false,b,true,d⟩+ -11=a6.enc ⟨true,b,false,d - 1⟩:=(by cases b<;>simp[a6.enc]<;>omega);have:=xp ⟨true,b,false,d - 1⟩;simp only at this;show IntKind.i32.wrap (a6.enc ⟨false,b,true,d⟩+ -11)=a6.enc ⟨true,b,false,d - 1⟩
  rw[e,IntKind.wrap_i32];omega
def Qb(gr:eB K aL Post i kd aN W (G (er.at (et.put ((du[eu]?).bind (·.dst)) (.tuple #[])) (.inRegion du ev::ew)) ey))(v:bu)(k:Nat)(iA:∀k',k'<k->∀T c,vj T c->vk K aL Post i kd aN W er et du eu ev ew ey v k' T c)(old:a6)(o n b A:Bool)(p:Nat)(c:Int)(Qc:b=decide (c≠0)){hE Ab rF sZ kH h2 h3 iX iY iZ ja jb jc jd je jf jg jh ji jj jk jl jm jo jq jr ju jv jw jx jy jz jA jB jC jD jE jF jG jH kQ kR kS kT kU kV kW kX kY kZ k0 k2 k3 k4 k5 k6 k7 k8 k9 lc lf lg lh li lj lk ll lm ln lp lq lr ls lu lv lx ly lz lA lB lC lD lE lF lG lH lI lJ lK lL lM lN lO lP lQ lR lS B C D E F H aa J L M N O P Q R S az V X Y Z P8 P9 DT xG ti tj tk tl qO qP oT oU nk nl nm nn np ns:ai}{w:ab}(hF:aR K i aN W w):cq K aL Post i kd ⟨.r2,old,o,n,b,A,p⟩ v ⟨aN,1⟩ k 20 (G ((base 112).at ⟨#[.pointer (some ⟨K.bm,0,none⟩),hE,.int .i64 c,.bool n,Ab,rF,sZ,kH,h2,h3,iX,iY,iZ,ja,jb,jc,jd,je,jf,jg,jh,ji,jj,jk,jl,jm,jo,jq,jr,ju,jv,jw,jx,jy,jz,jA,jB,jC,jD,jE,jF,jG,jH,kQ,kR,kS,kT,kU,kV,kW,kX,kY,kZ,k0,k2,k3,k4,k5,k6,k7,k8,k9,lc,lf,lg,lh,li,lj,lk,ll,lm,ln,lp,lq,lr,ls,lu,lv,lx,ly,lz,lA,lB,lC,lD,lE,lF,lG,lH,lI,lJ,lK,lL,lM,lN,lO,lP,lQ,lR,lS,B,C,D,E,F,H,aa,J,L,M,N,O,P,Q,R,S,az,V,X,Y,Z,P8,P9,DT,xG,ti,tj,tk,tl,qO,qP,oT,oU,nk,nl,nm,nn,np,ns],[]⟩ (.code YH::back)) (er.at et (.inRegion du (eu::ev)::ew)::ey)) w:=by
 simp (decide:=true) only[YH,gW,lead,h1,Tryz.f112,e2,cY,dd,fK,back];repeat w_go aR.rely
 refine Goes.stop (λ_ e=> ?_);replace hF:=aR.rely hF e;clear e;rcases k with _|k
 .rfl
 refine⟨rfl,rfl,rfl,ag,ag,λy dP u _=>⟨λh=> ?_,λ_ _ _=> ?_⟩⟩
 .exfalso;revert h;simp only[mv];(repeat' split)<;>simp
 have dC:=aS.Hq (x:=y.x) (by have:=u.1;omega);have b7:=aS.ak1 (x:=y.x) (by have:=u.1;omega);have r:=Hz (x:=y.x);by_cases d:y.x.a4=true
 .by_cases s:(y.x.bC||y.x.wk||y.x.q==0)=true
  .exact⟨(⟨.bad,old,o,n,b,A,p⟩,y),by simp only[mv];rw[aV d,aV s];exact bK.2 rfl,λh=>absurd rfl h⟩
  have YJ:=s;simp only[oX,not_or,Bool.not_eq_true,oe]at YJ;obtain⟨⟨bO,hw⟩,Ik⟩:=YJ;have cc:(bits .and .i32 y.x.enc 4 !=0)=true:=(by rw[dC,d];rfl);have c8:(bits .and .i32 y.x.enc 3 !=0)=false:=(by rw[b7,bO,hw];rfl);have hC:(y.x.enc / 8==0)=false:=(by rw[r];simpa using Ik);have nK:(y.x.enc / 8==1)=(y.x.q==1):=(by rw[r];exact sG.2 a5);clear dC b7 r;refine⟨(⟨.a1,y.x,o,n,b,!n||y.x.q==1,p⟩,y),by simp only[mv];rw[aV d,aC s];exact bK.2 rfl,λ_=>⟨_,_,_,u7 rfl rfl (by k_ne) rfl rfl dP.iy Dm,rfl,dP,.refl _ _,xo 1,cq.dt (m:=100) ?_ ag⟩⟩;cases n with
  |false=>
   simp only[Gy,Bool.true_or];walk_nrm
   repeat w_go aR.rely
   refine Goes.stop (λ_ e=> ?_);replace hF:=aR.rely hF e;clear e;rcases k with _|k
   .rfl
   refine⟨rfl,rfl,rfl,ag,ag,λz f g j=>⟨by simp[mv],λ_ _ _=> ?_⟩⟩;have⟨g1,fC,po⟩:=j.2 rfl;have t:=Qa g1 fC po g.1 true;simp only[dd,cY,ea]at t;have a:=f.rE {z.x with bC:=true,a4:=z.x.a4 && !true,q:=z.x.q - 1};rw[<-t]at a;have l:=f.iy;refine⟨(⟨.le,y.x,o,false,b,true,p⟩,{z with x:={z.x with bC:=true,a4:=z.x.a4 && !true,q:=z.x.q - 1}}),by simp[mv],λ_=>⟨_,_,_,stepG_add_atomic rfl rfl (by k_ne) rfl Tryz.func113 xk xl xm .i32 xn rfl rfl l (f.thaw 0),rfl,a,.set _ _ 0 _,bk_rw 1 _ (.inl rfl),cq.dt (m:=60) ?_ ag⟩⟩;replace hF:=hF.iW (.set _ _ 0 _) a;walk_nrm
   repeat w_but "code.cond" aR.rely
   exact goes_le U (Ih gr _ ⟨.le,y.x,o,false,b,true,p⟩ k rfl hF)
  |true=>
   cases AT:(y.x.q==1)with
   |true=>
    rw[AT]at nK;simp only[y2,Bool.false_or];walk_nrm
    repeat w_go aR.rely
    refine Goes.stop (λ_ e=> ?_);replace hF:=aR.rely hF e;clear e;rcases k with _|k
    .rfl
    refine⟨rfl,rfl,rfl,ag,ag,λz f g j=>⟨by simp[mv],λ_ _ _=> ?_⟩⟩;have⟨g1,fC,po⟩:=j.2 rfl;have t:=Qa g1 fC po g.1 true;simp only[dd,cY,ea]at t;have a:=f.rE {z.x with bC:=true,a4:=z.x.a4 && !true,q:=z.x.q - 1};rw[<-t]at a;have l:=f.iy;refine⟨(⟨.le,y.x,o,true,b,true,p⟩,{z with x:={z.x with bC:=true,a4:=z.x.a4 && !true,q:=z.x.q - 1}}),by simp[mv],λ_=>⟨_,_,_,stepG_add_atomic rfl rfl (by k_ne) rfl Tryz.func113 xk xl xm .i32 xn rfl rfl l (f.thaw 0),rfl,a,.set _ _ 0 _,bk_rw 1 _ (.inl rfl),cq.dt (m:=60) ?_ ag⟩⟩;replace hF:=hF.iW (.set _ _ 0 _) a;walk_nrm
    repeat w_but "code.cond" aR.rely
    exact goes_le U (Ih gr _ ⟨.le,y.x,o,true,b,true,p⟩ k rfl hF)
   |false=>
    rw[AT]at nK;simp only[y2,Bool.false_or];walk_nrm
    repeat w_go aR.rely
    refine Goes.stop (λ_ e=> ?_);replace hF:=aR.rely hF e;clear e;rcases k with _|k
    .rfl
    refine⟨rfl,rfl,rfl,ag,ag,λz f g j=>⟨by simp[mv],λ_ _ _=> ?_⟩⟩;have⟨g1,fC,po⟩:=j.2 rfl;have t:=Qa g1 fC po g.1 false;simp only[dd,cY,ea]at t;have a:=f.rE {z.x with bC:=true,a4:=z.x.a4 && !false,q:=z.x.q - 1};rw[<-t]at a;have l:=f.iy;refine⟨(⟨.le,y.x,o,true,b,false,p⟩,{z with x:={z.x with bC:=true,a4:=z.x.a4 && !false,q:=z.x.q - 1}}),by simp[mv],λ_=>⟨_,_,_,stepG_add_atomic rfl rfl (by k_ne) rfl Tryz.func113 xk xl xm .i32 xn rfl rfl l (f.thaw 0),rfl,a,.set _ _ 0 _,bk_rw 1 _ (.inl rfl),cq.dt (m:=60) ?_ ag⟩⟩;replace hF:=hF.iW (.set _ _ 0 _) a;walk_nrm
    repeat w_but "code.cond" aR.rely
    exact goes_le U (Ih gr _ ⟨.le,y.x,o,true,b,false,p⟩ k rfl hF)
 .have apE:y.x.a4=false:=(by simpa using d);have cc:(bits .and .i32 y.x.enc 4 !=0)=false:=(by rw[dC,apE];rfl);clear dC b7 r;by_cases s:(hd ⟨.r2,y.x,true,n,b,A,0⟩).pc=.bad
  .exact⟨(hd ⟨.r2,y.x,true,n,b,A,0⟩,y),by simp only[mv];rw[aC d];exact bK.2 rfl,λh=>absurd s h⟩
  refine⟨(hd ⟨.r2,y.x,true,n,b,A,0⟩,y),by simp only[mv];rw[aC d];exact bK.2 rfl,λ_=>⟨_,_,_,u7 rfl rfl (by k_ne) rfl rfl dP.iy Dm,rfl,dP,.refl _ _,Ij s ag ag rfl,?_⟩⟩;refine cq.dt (m:=400) ?_ (Ii s);simp only[kG,DU s];walk_nrm
  repeat w_nl aR.rely
  u_c stepG_inLoop aR.rely hF
  exact goes_le U (iA k U ⟨.r2,y.x,true,n,b,A,0⟩ c ⟨u.1,ag,Qc,s⟩ hF)
end
end Go.bp
namespace Go.bp
open Go Go.Conc Go.ConcN Go.RowKit Go.Conc.Lib Go.ConcR.Gen Go.Proofs Go.bG Go.Ren
open Go.ConcR (KK wgBlock WgAt stA smA rd wr mk DC0)
open Go.ConcM (OsLater goes_pad goes_le)
open Go.aS (Th Sh a6 mv Pc hd eS)
section
variable{K:bj}{aL:bu->Obj->Prop}{Post:Nat->(Nat->Prop)->World->Prop}{i:Nat}{kd:Int}{aN:Nat->Prop}{W:World}
variable{er:Frame}{et:Act}{du:Array Oper}{eu:Nat}{ev:List Nat}{ew:List Item}{ey:List Frame}
def YK(gr:eB K aL Post i kd aN W (G (er.at (et.put ((du[eu]?).bind (·.dst)) (.tuple #[])) (.inRegion du ev::ew)) ey))(v:bu)(k:Nat)(iA:∀k',k'<k->∀T a,vj T a->vk K aL Post i kd aN W er et du eu ev ew ey v k' T a)(old:a6)(d sv b e:Bool)(f:Nat)(a:Int)(g:b=decide (a≠0)){hE Ab rF sZ kH h2 h3 iX iY iZ ja jb jc jd je jf jg jh ji jj jk jl jm jo jq jr ju jv jw jx jy jz jA jB jC jD jE jF jG jH kQ kR kS kT kU kV kW kX kY kZ k0 k2 k3 k4 k5 k6 k7 k8 k9 lc lf lg lh li lj lk ll lm ln lp lq lr ls lu lv lx ly lz lA lB lC lD lE lF lG lH lI lJ lK lL lM lN lO lP lQ lR lS l n o p q r s t u A B C D E F H aa J L M N O P Q R S az V X Y Z oT oU nk nl nm nn np ns:ai}{w:ab}(hF:aR K i aN W w):cq K aL Post i kd ⟨.s1,old,d,sv,b,e,f⟩ v ⟨aN,1⟩ k 20 (G ((base 112).at ⟨#[.pointer (some ⟨K.bm,0,none⟩),hE,.int .i64 a,.bool sv,Ab,rF,sZ,kH,h2,h3,iX,iY,iZ,ja,jb,jc,jd,je,jf,jg,jh,ji,jj,jk,jl,jm,jo,jq,jr,ju,jv,jw,jx,jy,jz,jA,jB,jC,jD,jE,jF,jG,jH,kQ,kR,kS,kT,kU,kV,kW,kX,kY,kZ,k0,k2,k3,k4,k5,k6,k7,k8,k9,lc,lf,lg,lh,li,lj,lk,ll,lm,ln,lp,lq,lr,ls,lu,lv,lx,ly,lz,lA,lB,lC,lD,lE,lF,lG,lH,lI,lJ,lK,lL,lM,lN,lO,lP,lQ,lR,lS,l,n,o,p,q,r,s,t,u,A,B,C,D,E,F,H,aa,J,L,M,N,O,P,Q,R,S,az,V,X,Y,Z,oT,oU,nk,nl,nm,nn,np,ns],[]⟩ (.code YI::back)) (er.at et (.inRegion du (eu::ev)::ew)::ey)) w:=by
 simp (decide:=true) only[YI,gW,lead,h1,Tryz.f112,e2,cY,dd,fK,back];repeat w_go aR.rely
 refine Goes.stop (λ_ kE=> ?_);replace hF:=aR.rely hF kE;clear kE;rcases k with _|k
 .rfl
 refine⟨rfl,rfl,rfl,ag,ag,λy j Il _=>⟨λh=> ?_,λfp _ _=> ?_⟩⟩
 .have cz:y.m=0:=by
   by_cases dZ:y.m=0
   .exact dZ
   .simp[mv,dZ]at h
  exact stepG_semacquire_wait rfl rfl rfl Tryz.func145 OQ OR OS OT (by simp[Act.eval];rfl) (by have:=j.Dn;rw[cz]at this;exact this)
 have bD:y.m≠0:=λdZ=>fp (by simp[mv,dZ]);have YL:((y.m:Nat):Int)≠0:=U;have dw:=j.Dp (y.m - 1);rw[show((y.m - 1:Nat):Int)=(y.m:Int) - 1 by omega]at dw;cases sv with
 |true=>
  refine⟨(⟨.r2,old,d,true,b,e,f⟩,{y with m:=y.m - 1}),by simp[mv,bD],λ_=>⟨_,_,_,stepG_semacquire rfl rfl (by k_ne) rfl Tryz.func145 OQ OR OS OT (by simp[Act.eval]) j.Dn YL (j.thaw 1),rfl,dw,.set _ _ 1 _,bk_sem 1 _ (.inr rfl),cq.dt (m:=60) ?_ ag⟩⟩;replace hF:=hF.iW (.set _ _ 1 _) dw;walk_nrm
  iterate 12 w_go aR.rely
  exact goes_le U (Qb gr v k (λk' h=>iA k' U) old d true b e f a g hF)
 |false=>
  refine⟨(⟨.t2,old,d,false,b,e,f⟩,{y with m:=y.m - 1}),by simp[mv,bD],λ_=>⟨_,_,_,stepG_semacquire rfl rfl (by k_ne) rfl Tryz.func145 OQ OR OS OT (by simp[Act.eval]) j.Dn YL (j.thaw 1),rfl,dw,.set _ _ 1 _,bk_sem 1 _ (.inr rfl),cq.dt (m:=60) ?_ ag⟩⟩;replace hF:=hF.iW (.set _ _ 1 _) dw;walk_nrm
  repeat w_go aR.rely
  refine Goes.stop (λcO vl=> ?_);replace hF:=aR.rely hF vl;clear vl;rcases k with _|k
  .rfl
  refine⟨rfl,rfl,rfl,ag,ag,λz c _ _=>⟨by simp[mv],λ_ _ _=> ?_⟩⟩;rcases c8:decide (1000000<IntKind.i64.wrap (((cO.os.mono+cO.tick:Nat):Int) - a))with _|_
  .refine⟨(⟨.r2,old,d,false,b,e,f⟩,z),by simp[mv],λ_=>⟨_,_,_,stepG_nanotime rfl rfl (by k_ne) rfl Tryz.func144 OM ON OO OP OU,rfl,c,.later _ _,xo 1,cq.dt (m:=60) ?_ ag⟩⟩;replace hF:=hF.iW (.later _ _) (x:=z) c;generalize((cO.os.mono+cO.tick:Nat):Int)=Qd at c8⊢;walk_nrm
   iterate 6 w_go aR.rely
   try simp only[c8]
   exact goes_le U (Qb gr v k (λk' h=>iA k' U) old d false b e f a g hF)
  .refine⟨(⟨.r2,old,d,true,b,e,f⟩,z),by simp[mv],λ_=>⟨_,_,_,stepG_nanotime rfl rfl (by k_ne) rfl Tryz.func144 OM ON OO OP OU,rfl,c,.later _ _,xo 1,cq.dt (m:=60) ?_ ag⟩⟩;replace hF:=hF.iW (.later _ _) (x:=z) c;generalize((cO.os.mono+cO.tick:Nat):Int)=Qd at c8⊢;walk_nrm
   iterate 6 w_go aR.rely
   try simp only[c8]
   exact goes_le U (Qb gr v k (λk' h=>iA k' U) old d true b e f a g hF)
end
end Go.bp
namespace Go.bp
open Go Go.Conc Go.ConcN Go.RowKit Go.Conc.Lib Go.ConcR.Gen Go.Proofs Go.bG Go.Ren
open Go.ConcR (KK wgBlock WgAt stA smA rd wr mk DC0)
open Go.ConcM (OsLater goes_pad goes_le)
open Go.aS (Th Sh a6 mv Pc hd eS)
noncomputable def YM:Code:=(gW 22 h1).getD .skip
section
variable{K:bj}{aL:bu->Obj->Prop}{Post:Nat->(Nat->Prop)->World->Prop}{i:Nat}{kd:Int}{aN:Nat->Prop}{W:World}
variable{er:Frame}{et:Act}{du:Array Oper}{eu:Nat}{ev:List Nat}{ew:List Item}{ey:List Frame}
def vm(gr:eB K aL Post i kd aN W (G (er.at (et.put ((du[eu]?).bind (·.dst)) (.tuple #[])) (.inRegion du ev::ew)) ey))(v:bu)(k:Nat)(iA:∀k',k'<k->∀T a,vj T a->vk K aL Post i kd aN W er et du eu ev ew ey v k' T a)(old:a6)(c d j f:Bool)(b:Nat)(a:Int)(g:j=decide (a≠0))(b9:old.q<31)(H7:b<=4){hE h2 h3 iX iY iZ ja jb jc jd je jf jg jh ji jj jk jl jm jo jq jr ju jv jw jx jy jz jA jB jC jD jE jF jG jH kQ kR kS kT kU kV kW kX kY kZ k0 k2 k3 k4 k5 k6 k7 k8 k9 lc lf lg lh li lj lk ll lm ln lp lq lr ls lu lv lx ly lz lA lB lC lD lE lF lG lH lI lJ lK lL lM lN lO lP lQ lR lS t u A B C D E F H aa J L M N O P Q R S az V X Y Z xG ti tj tk tl qO qP oT oU nk nl nm nn np ns:ai}{w:ab}(hF:aR K i aN W w):cq K aL Post i kd ⟨.c2,old,c,d,j,f,b⟩ v ⟨aN,1⟩ k 30 (G ((base 112).at ⟨#[.pointer (some ⟨K.bm,0,none⟩),hE,.int .i64 a,.bool d,.bool c,.int .i64 b,.int .i32 old.enc,.int .i32 (Th.new ⟨.c2,old,c,d,j,f,b⟩).enc,h2,h3,iX,iY,iZ,ja,jb,jc,jd,je,jf,jg,jh,ji,jj,jk,jl,jm,jo,jq,jr,ju,jv,jw,jx,jy,jz,jA,jB,jC,jD,jE,jF,jG,jH,kQ,kR,kS,kT,kU,kV,kW,kX,kY,kZ,k0,k2,k3,k4,k5,k6,k7,k8,k9,lc,lf,lg,lh,li,lj,lk,ll,lm,ln,lp,lq,lr,ls,lu,lv,lx,ly,lz,lA,lB,lC,lD,lE,lF,lG,lH,lI,lJ,lK,lL,lM,lN,lO,lP,lQ,lR,lS,t,u,A,B,C,D,E,F,H,aa,J,L,M,N,O,P,Q,R,S,az,V,X,Y,Z,xG,ti,tj,tk,tl,qO,qP,oT,oU,nk,nl,nm,nn,np,ns],[]⟩ (.code YM::back)) (er.at et (.inRegion du (eu::ev)::ew)::ey)) w:=by
 simp (decide:=true) only[YM,gW,lead,h1,Tryz.f112,e2,cY,dd,fK,back];have dB:=aS.OE (x:=old) U;generalize p:Th.new ⟨.c2,old,c,d,j,f,b⟩=nw;repeat w_go aR.rely
 refine Goes.stop (λ_ kE=> ?_);replace hF:=aR.rely hF kE;clear kE;rcases k with _|k
 .rfl
 refine⟨rfl,rfl,rfl,ag,ag,λx o apF _=>⟨λh=> ?_,λ_ _ _=> ?_⟩⟩
 .exfalso;revert h;simp only[mv];(repeat' split)<;>simp
 by_cases s:x.x=old
 .have l:=o.iy;rw[s]at l;have n:=o.rE nw;by_cases r:(!old.bC && !old.a4)=true
  .refine⟨(⟨.le,old,c,d,j,f,b⟩,{x with x:=nw}),by simp only[mv];rw[aV s,aV r,p];exact bK.2 rfl,λ_=>⟨_,_,_,stepG_cas_hit rfl rfl (by k_ne) rfl Tryz.func111 qx qy qz .i32 qA rfl rfl rfl l (o.thaw 0),rfl,n,.set _ _ 0 _,bk_rw 1 _ (.inl rfl),cq.dt (m:=80) ?_ ag⟩⟩;replace hF:=hF.iW (.set _ _ 0 _) n;have cc:(bits .and .i32 old.enc 5==0)=true:=by
    simp only[cu,vv]at r;rw[dB,r.1,r.2];rfl
   clear dB;walk_nrm
   repeat w_but "code.exit" aR.rely
   w_go aR.rely
   exact goes_le U (Ih gr _ ⟨.le,old,c,d,j,f,b⟩ k rfl hF)
  .have cc:(bits .and .i32 old.enc 5==0)=false:=by
    rw[dB];cases bO:old.bC<;>cases bw:old.a4<;>simp[bO,bw]at r<;>rfl
   clear dB;cases j with
   |true=>
    have Kd:(a !=0)=true:=(by simpa using g.symm);have vG:(a==0)=false:=(by simpa using g.symm);refine⟨(⟨.s1,old,c,d,true,f,b⟩,{x with x:=nw}),by simp only[mv];rw[aV s,aC r,p];exact bK.2 rfl,λ_=>⟨_,_,_,stepG_cas_hit rfl rfl (by k_ne) rfl Tryz.func111 qx qy qz .i32 qA rfl rfl rfl l (o.thaw 0),rfl,n,.set _ _ 0 _,bk_rw 1 _ (.inl rfl),cq.dt (m:=80) ?_ ag⟩⟩;replace hF:=hF.iW (.set _ _ 0 _) n;walk_nrm
    iterate 25 w_go aR.rely
    exact goes_le U (YK gr v k (λk' h=>iA k' U) old c d true f b a g hF)
   |false=>
    have o3:a=0:=(by simpa using g.symm);subst o3;clear g;refine⟨(⟨.t1,old,c,d,false,f,b⟩,{x with x:=nw}),by simp only[mv];rw[aV s,aC r,p];exact bK.2 rfl,λ_=>⟨_,_,_,stepG_cas_hit rfl rfl (by k_ne) rfl Tryz.func111 qx qy qz .i32 qA rfl rfl rfl l (o.thaw 0),rfl,n,.set _ _ 0 _,bk_rw 1 _ (.inl rfl),cq.dt (m:=80) ?_ ag⟩⟩;replace hF:=hF.iW (.set _ _ 0 _) n;walk_nrm
    repeat w_go aR.rely
    refine Goes.stop (λcO vl=> ?_);replace hF:=aR.rely hF vl;clear vl;rcases k with _|k
    .rfl
    refine⟨rfl,rfl,rfl,ag,ag,λz q9 _ _=>⟨by simp[mv],λ_ _ _=>⟨(⟨.s1,old,c,d,decide (((cO.os.mono+cO.tick:Nat):Int)≠0),f,b⟩,z),?_,λ_=>⟨_,_,_,stepG_nanotime rfl rfl (by k_ne) rfl Tryz.func144 OM ON OO OP OU,rfl,q9,.later _ _,xo 1,cq.dt (m:=60) ?_ ag⟩⟩⟩⟩
    .simp only[mv];cases decide (((cO.os.mono+cO.tick:Nat):Int)≠0)<;>simp
    replace hF:=hF.iW (.later _ _) (x:=z) q9;generalize((cO.os.mono+cO.tick:Nat):Int)=Qd;walk_nrm
    iterate 2 w_go aR.rely
    exact goes_le U (YK gr v k (λk' h=>iA k' U) old c d _ f b Qd rfl hF)
 ·
  refine⟨(⟨.r3,old,c,d,j,f,b⟩,x),by simp only[mv];rw[aC s];exact bK.2 rfl,λ_=>⟨_,_,_,stepG_cas_miss rfl rfl (by k_ne) rfl Tryz.func111 qx qy qz .i32 qA rfl rfl rfl o.iy (o.thaw 0) (λe=>s (a6.Hp e)),rfl,o,.refl _ _,Hw 1 _ false (.inl rfl),cq.dt (m:=40) ?_ ag⟩⟩;walk_nrm
  repeat w_go aR.rely
  refine Goes.stop (λ_ kE=> ?_);replace hF:=aR.rely hF kE;clear kE;rcases k with _|k
  .rfl
  refine⟨rfl,rfl,rfl,ag,ag,λy n Il _=>⟨by simp[mv],λ_ _ _=> ?_⟩⟩;by_cases hb:(hd ⟨.r3,y.x,c,d,j,f,b⟩).pc=.bad
  .exact⟨(hd ⟨.r3,y.x,c,d,j,f,b⟩,y),by simp[mv],λh=>absurd hb h⟩
  refine⟨(hd ⟨.r3,y.x,c,d,j,f,b⟩,y),by simp[mv],λ_=>⟨_,_,_,u7 rfl rfl (by k_ne) rfl rfl n.iy Dm,rfl,n,.refl _ _,Ij hb ag ag rfl,?_⟩⟩;refine cq.dt (m:=400) ?_ (Ii hb);simp only[kG,DU hb];walk_nrm
  repeat w_nl aR.rely
  u_c stepG_inLoop aR.rely hF
  exact goes_le U (iA k U ⟨.r3,y.x,c,d,j,f,b⟩ a ⟨Il.1,H7,g,hb⟩ hF)
end
end Go.bp
namespace Go.bp
open Go Go.Conc Go.ConcN Go.RowKit Go.Conc.Lib Go.ConcR.Gen Go.Proofs Go.bG Go.Ren
open Go.ConcR (KK wgBlock WgAt stA smA rd wr mk DC0)
open Go.ConcM (OsLater goes_pad goes_le)
open Go.aS (Th Sh a6 mv Pc hd eS)
noncomputable def YN:Code:=(gW 16 h1).getD .skip
noncomputable def DV:Code:=(gW 11 h1).getD .skip
section
variable{K:bj}{aL:bu->Obj->Prop}{Post:Nat->(Nat->Prop)->World->Prop}{i:Nat}{kd:Int}{aN:Nat->Prop}{W:World}
variable{er:Frame}{et:Act}{du:Array Oper}{eu:Nat}{ev:List Nat}{ew:List Item}{ey:List Frame}
def Im(p:eB K aL Post i kd aN W (G (er.at (et.put ((du[eu]?).bind (·.dst)) (.tuple #[])) (.inRegion du ev::ew)) ey))(v:bu)(k:Nat)(r:∀k',k'<k->∀T d,vj T d->vk K aL Post i kd aN W er et du eu ev ew ey v k' T d)(old:a6)(t u g j:Bool)(f:Nat)(d:Int)(l:g=decide (d≠0))(s:old.q<31)(m:f<=4)(n:t=true->old.wk=true)(y:a6)(b:y.q<32)(e:y.wk=old.wk)(a:Th.new ⟨.c2,old,t,u,g,j,f⟩={y with a4:=y.a4||(u && old.bC),wk:=y.wk && !t}){{hE h2 h3 iX iY iZ ja jb jc jd je jf jg jh ji jj jk jl jm jo jq jr ju jv jw jx jy jz jA jB jC jD jE jF jG jH kQ kR kS kT kU kV kW kX kY kZ k0 k2 k3 k4 k5 k6 k7 k8 k9 lc lf lg lh li lj lk ll lm ln lp lq lr ls lu lv lx ly lz lA lB lC lD lE lF lG lH lI lJ lK lL lM lN lO lP lQ lR lS z A B C D E F H aa J L M N O P Q R S az V X Y Z DT xG ti tj tk tl qO qP oT oU nk nl nm nn np ns:ai}}{{w:ab}}(hF:aR K i aN W w):cq K aL Post i kd ⟨.c2,old,t,u,g,j,f⟩ v ⟨aN,1⟩ k 80 (G ((base 112).at ⟨#[.pointer (some ⟨K.bm,0,none⟩),hE,.int .i64 d,.bool u,.bool t,.int .i64 f,.int .i32 old.enc,.int .i32 y.enc,h2,h3,iX,iY,iZ,ja,jb,jc,jd,je,jf,jg,jh,ji,jj,jk,jl,jm,jo,jq,jr,ju,jv,jw,jx,jy,jz,jA,jB,jC,jD,jE,jF,jG,jH,kQ,kR,kS,kT,kU,kV,kW,kX,kY,kZ,k0,k2,k3,k4,k5,k6,k7,k8,k9,lc,lf,lg,lh,li,lj,lk,ll,lm,ln,lp,lq,lr,ls,lu,lv,lx,ly,lz,lA,lB,lC,lD,lE,lF,lG,lH,lI,lJ,lK,lL,lM,lN,lO,lP,lQ,lR,lS,z,A,B,C,D,E,F,H,aa,J,L,M,N,O,P,Q,R,S,az,V,X,Y,Z,DT,xG,ti,tj,tk,tl,qO,qP,oT,oU,nk,nl,nm,nn,np,ns],[]⟩ (.code YN::back)) (er.at et (.inRegion du (eu::ev)::ew)::ey)) w:=by
 simp (decide:=true) only[YN,gW,lead,h1,Tryz.f112,e2,cY,dd,fK,back];have o:=aS.WT (x:=old) U;cases u<;>cases t<;>cases eC:old.bC
 ·
  have h:y=Th.new ⟨.c2,old,false,false,g,j,f⟩:=(by rw[a];simp[eC]);have h:=hq a6.enc h;clear o a b e;clear eC;iterate 19 w_go aR.rely
  try simp only[h]
  exact goes_le U (vm p v k r old false false g j f d l s m hF)
 ·
  have h:y=Th.new ⟨.c2,old,false,false,g,j,f⟩:=(by rw[a];simp[eC]);have h:=hq a6.enc h;clear o a b e;clear eC;iterate 19 w_go aR.rely
  try simp only[h]
  exact goes_le U (vm p v k r old false false g j f d l s m hF)
 ·
  have c:y.wk=true:=e.trans (n rfl);have c8:(bits .and .i32 y.enc 2==0)=false:=(by rw[aS.Di (x:=y) b];simp only[c];rfl);have h:bits .andNot .i32 y.enc 2=(Th.new ⟨.c2,old,true,false,g,j,f⟩).enc:=(by rw[aS.Hr (x:=y) b,a];simp[eC]);clear o a b e;clear n c;clear eC;iterate 32 w_go aR.rely
  exact goes_le U (vm p v k r old true false g j f d l s m hF)
 ·
  have c:y.wk=true:=e.trans (n rfl);have c8:(bits .and .i32 y.enc 2==0)=false:=(by rw[aS.Di (x:=y) b];simp only[c];rfl);have h:bits .andNot .i32 y.enc 2=(Th.new ⟨.c2,old,true,false,g,j,f⟩).enc:=(by rw[aS.Hr (x:=y) b,a];simp[eC]);clear o a b e;clear n c;clear eC;iterate 32 w_go aR.rely
  exact goes_le U (vm p v k r old true false g j f d l s m hF)
 ·
  have cc:(bits .and .i32 old.enc 1 !=0)=false:=(by rw[o,eC];rfl);have h:y=Th.new ⟨.c2,old,false,true,g,j,f⟩:=(by rw[a];simp[eC]);have h:=hq a6.enc h;clear o a b e;clear eC;iterate 19 w_go aR.rely
  try simp only[h]
  exact goes_le U (vm p v k r old false true g j f d l s m hF)
 ·
  have cc:(bits .and .i32 old.enc 1 !=0)=true:=(by rw[o,eC];rfl);have jP:bits .or .i32 y.enc 4=a6.enc {y with a4:=true}:=aS.WW b;have h:({y with a4:=true}:a6)=Th.new ⟨.c2,old,false,true,g,j,f⟩:=(by rw[a];simp[eC]);have h:=hq a6.enc h;clear o a b e;clear eC;iterate 23 w_go aR.rely
  try simp only[h]
  exact goes_le U (vm p v k r old false true g j f d l s m hF)
 ·
  have cc:(bits .and .i32 old.enc 1 !=0)=false:=(by rw[o,eC];rfl);have c:y.wk=true:=e.trans (n rfl);have c8:(bits .and .i32 y.enc 2==0)=false:=(by rw[aS.Di (x:=y) b];simp only[c];rfl);have h:bits .andNot .i32 y.enc 2=(Th.new ⟨.c2,old,true,true,g,j,f⟩).enc:=(by rw[aS.Hr (x:=y) b,a];simp[eC]);clear o a b e;clear n c;clear eC;iterate 32 w_go aR.rely
  exact goes_le U (vm p v k r old true true g j f d l s m hF)
 ·
  have cc:(bits .and .i32 old.enc 1 !=0)=true:=(by rw[o,eC];rfl);have jP:bits .or .i32 y.enc 4=a6.enc {y with a4:=true}:=aS.WW b;have c:y.wk=true:=e.trans (n rfl);have c8:(bits .and .i32 ({y with a4:=true}:a6).enc 2==0)=false:=(by rw[aS.Di (x:=({y with a4:=true}:a6)) b];simp only[c];rfl);have h:bits .andNot .i32 ({y with a4:=true}:a6).enc 2=(Th.new ⟨.c2,old,true,true,g,j,f⟩).enc:=(by rw[aS.Hr (x:=({y with a4:=true}:a6)) b,a];simp[eC]);clear o a b e;clear n c;clear eC;iterate 36 w_go aR.rely
  exact goes_le U (vm p v k r old true true g j f d l s m hF)
end
end Go.bp
namespace Go.bp
open Go Go.Conc Go.ConcN Go.RowKit Go.Conc.Lib Go.ConcR.Gen Go.Proofs Go.bG Go.Ren
open Go.ConcR (KK wgBlock WgAt stA smA rd wr mk DC0)
open Go.ConcM (OsLater goes_pad goes_le)
open Go.aS (Th Sh a6 mv Pc hd eS)
section
variable{K:bj}{aL:bu->Obj->Prop}{Post:Nat->(Nat->Prop)->World->Prop}{i:Nat}{kd:Int}{aN:Nat->Prop}{W:World}
variable{er:Frame}{et:Act}{du:Array Oper}{eu:Nat}{ev:List Nat}{ew:List Item}{ey:List Frame}
def Qe{x:a6}(f:x.q<31):(x.enc+8+2147483648) % 4294967296 - 2147483648=a6.enc {x with q:=x.q+1}:=by
 obtain⟨a,b,c,d⟩:=x;simp only at f;have e:a6.enc ⟨a,b,c,d⟩+8=a6.enc ⟨a,b,c,d+1⟩:=(by simp[a6.enc];omega);rw[e];show _=a6.enc ⟨a,b,c,d+1⟩
 have:=xp ⟨a,b,c,d+1⟩;simp only at this;omega
def Qf(gr:eB K aL Post i kd aN W (G (er.at (et.put ((du[eu]?).bind (·.dst)) (.tuple #[])) (.inRegion du ev::ew)) ey))(v:bu)(k:Nat)(iA:∀k',k'<k->∀T a,vj T a->vk K aL Post i kd aN W er et du eu ev ew ey v k' T a)(old:a6)(g m n o:Bool)(h:Nat)(a:Int)(c:n=decide (a≠0))(j:old.q<31)(d:h<=4)(b:g=true->old.wk=true){hE kH h2 h3 iX iY iZ ja jb jc jd je jf jg jh ji jj jk jl jm jo jq jr ju jv jw jx jy jz jA jB jC jD jE jF jG jH kQ kR kS kT kU kV kW kX kY kZ k0 k2 k3 k4 k5 k6 k7 k8 k9 lc lf lg lh li lj lk ll lm ln lp lq lr ls lu lv lx ly lz lA lB lC lD lE lF lG lH lI lJ lK lL lM lN lO lP lQ lR lS p r s t u y z A B C D E F H aa J L M N O P Q R S az V X Y Z qO qP oT oU nk nl nm nn np ns:ai}{w:ab}(hF:aR K i aN W w):cq K aL Post i kd ⟨.c2,old,g,m,n,o,h⟩ v ⟨aN,1⟩ k 120 (G ((base 112).at ⟨#[.pointer (some ⟨K.bm,0,none⟩),hE,.int .i64 a,.bool m,.bool g,.int .i64 h,.int .i32 old.enc,kH,h2,h3,iX,iY,iZ,ja,jb,jc,jd,je,jf,jg,jh,ji,jj,jk,jl,jm,jo,jq,jr,ju,jv,jw,jx,jy,jz,jA,jB,jC,jD,jE,jF,jG,jH,kQ,kR,kS,kT,kU,kV,kW,kX,kY,kZ,k0,k2,k3,k4,k5,k6,k7,k8,k9,lc,lf,lg,lh,li,lj,lk,ll,lm,ln,lp,lq,lr,ls,lu,lv,lx,ly,lz,lA,lB,lC,lD,lE,lF,lG,lH,lI,lJ,lK,lL,lM,lN,lO,lP,lQ,lR,lS,p,r,s,t,u,y,z,A,B,C,D,E,F,H,aa,J,L,M,N,O,P,Q,R,S,az,V,X,Y,Z,qO,qP,oT,oU,nk,nl,nm,nn,np,ns],[]⟩ (.code DV::back)) (er.at et (.inRegion du (eu::ev)::ew)::ey)) w:=by
 simp (decide:=true) only[DV,gW,lead,h1,Tryz.f112,e2,cY,dd,fK,back];have e:=aS.Hq (x:=old) U;have f:=aS.OE (x:=old) U;cases eA:old.a4<;>cases eC:old.bC
 ·
  have cc:(bits .and .i32 old.enc 4==0)=true:=(by rw[e,eA];rfl);have c8:(bits .and .i32 old.enc 5 !=0)=false:=(by rw[f,eA,eC];rfl);have jP:bits .or .i32 old.enc 1=a6.enc {old with bC:=true}:=aS.WU U;have l:=Im gr v k iA old g m n o h a c j d b (({old with bC:=true}:a6)) (by simp only;omega) rfl (by simp[Th.new,eA,eC]);clear e f eA eC b;iterate 27 w_go aR.rely
  exact goes_le U (l hF)
 ·
  have cc:(bits .and .i32 old.enc 4==0)=true:=(by rw[e,eA];rfl);have c8:(bits .and .i32 old.enc 5 !=0)=true:=(by rw[f,eA,eC];rfl);have jP:bits .or .i32 old.enc 1=a6.enc {old with bC:=true}:=aS.WU U;have j3:(({old with bC:=true}:a6).enc+8+2147483648) % 4294967296 - 2147483648=a6.enc {({old with bC:=true}:a6)with q:=old.q+1}:=Qe (x:=({old with bC:=true}:a6)) j;have l:=Im gr v k iA old g m n o h a c j d b ({({old with bC:=true}:a6)with q:=old.q+1}) (by simp only;omega) rfl (by simp[Th.new,eA,eC]);clear e f eA eC b;iterate 31 w_go aR.rely
  exact goes_le U (l hF)
 ·
  have cc:(bits .and .i32 old.enc 4==0)=false:=(by rw[e,eA];rfl);have c8:(bits .and .i32 old.enc 5 !=0)=true:=(by rw[f,eA,eC];rfl);have j3:(old.enc+8+2147483648) % 4294967296 - 2147483648=a6.enc {old with q:=old.q+1}:=Qe (x:=old) j;have l:=Im gr v k iA old g m n o h a c j d b ({old with q:=old.q+1}) (by simp only;omega) rfl (by simp[Th.new,eA,eC]);clear e f eA eC b;iterate 27 w_go aR.rely
  exact goes_le U (l hF)
 ·
  have cc:(bits .and .i32 old.enc 4==0)=false:=(by rw[e,eA];rfl);have c8:(bits .and .i32 old.enc 5 !=0)=true:=(by rw[f,eA,eC];rfl);have j3:(old.enc+8+2147483648) % 4294967296 - 2147483648=a6.enc {old with q:=old.q+1}:=Qe (x:=old) j;have l:=Im gr v k iA old g m n o h a c j d b ({old with q:=old.q+1}) (by simp only;omega) rfl (by simp[Th.new,eA,eC]);clear e f eA eC b;iterate 27 w_go aR.rely
  exact goes_le U (l hF)
end
end Go.bp
namespace Go.bp
open Go Go.Conc Go.ConcN Go.RowKit Go.Conc.Lib Go.ConcR.Gen Go.Proofs Go.bG Go.Ren
open Go.ConcR (KK wgBlock WgAt stA smA rd wr mk DC0)
open Go.ConcM (OsLater goes_pad goes_le)
open Go.aS (Th Sh a6 mv Pc hd eS)
noncomputable def YO:Code:=(gW 6 h1).getD .skip
noncomputable def YP:Code:=(gW 8 h1).getD .skip
section
variable{K:bj}{aL:bu->Obj->Prop}{Post:Nat->(Nat->Prop)->World->Prop}{i:Nat}{kd:Int}{aN:Nat->Prop}{W:World}
variable{er:Frame}{et:Act}{du:Array Oper}{eu:Nat}{ev:List Nat}{ew:List Item}{ey:List Frame}
def DW(v:bu)(k:Nat)(iA:∀k',k'<k->∀T a,vj T a->vk K aL Post i kd aN W er et du eu ev ew ey v k' T a)(old:a6)(c d e f:Bool)(b:Nat)(a:Int)(Qc:e=decide (a≠0))(b9:old.q<31)(H7:b<4){hE kH h2 h3 iX iY iZ ja jb jc jd je jf jg jh ji jj jk jl jm jo jq jr ju jv jw jx jy jz jA jB jC jD jE jF jG jH kQ kR kS kT kU kV kW kX kY kZ k0 k2 k3 k4 k5 k6 k7 k8 k9 lc lf lg lh li lj lk ll lm ln lp lq lr ls lu lv lx ly lz lA lB lC lD lE lF lG lH lI lJ lK lL lM lN lO lP lQ lR lS g j l n o p r s t u z A B C D E F H aa J L M N O P Q R S az V X Y Z nk nl nm nn np ns:ai}{w:ab}(hF:aR K i aN W w):cq K aL Post i kd ⟨.r1,old,c,d,e,f,b⟩ v ⟨aN,1⟩ k 40 (G ((base 112).at ⟨#[.pointer (some ⟨K.bm,0,none⟩),hE,.int .i64 a,.bool d,.bool c,.int .i64 b,.int .i32 old.enc,kH,h2,h3,iX,iY,iZ,ja,jb,jc,jd,je,jf,jg,jh,ji,jj,jk,jl,jm,jo,jq,jr,ju,jv,jw,jx,jy,jz,jA,jB,jC,jD,jE,jF,jG,jH,kQ,kR,kS,kT,kU,kV,kW,kX,kY,kZ,k0,k2,k3,k4,k5,k6,k7,k8,k9,lc,lf,lg,lh,li,lj,lk,ll,lm,ln,lp,lq,lr,ls,lu,lv,lx,ly,lz,lA,lB,lC,lD,lE,lF,lG,lH,lI,lJ,lK,lL,lM,lN,lO,lP,lQ,lR,lS,g,j,l,n,o,p,r,s,t,u,z,A,B,C,D,E,F,H,aa,J,L,M,N,O,P,Q,R,S,az,V,X,Y,Z,nk,nl,nm,nn,np,ns],[]⟩ (.code YP::.code DV::back)) (er.at et (.inRegion du (eu::ev)::ew)::ey)) w:=by
 simp (decide:=true) only[YP,DV,gW,lead,h1,Tryz.f112,e2,cY,dd,fK,back];have Qg:IntKind.i64.wrap ((b:Int)+1)=((b+1:Nat):Int):=(by rw[IntKind.wrap_i64];omega);repeat w_go aR.rely
 u_in aR.rely hF
 rw[stepG_entry_pure (.tuple #[]) rfl rfl (by k_ne) rfl Tryz.func142 ala alb alc ald];simp only[goes_go];refine⟨by u_nil,?_⟩;walk_nrm
 repeat w_go aR.rely
 refine Goes.stop (λ_ kE=> ?_);replace hF:=aR.rely hF kE;clear kE;rcases k with _|k
 .rfl
 refine⟨rfl,rfl,rfl,ag,ag,λy dP Il _=>⟨by simp[mv],λ_ _ _=> ?_⟩⟩;by_cases hb:(hd ⟨.r1,y.x,c,d,e,f,b+1⟩).pc=.bad
 .exact⟨(hd ⟨.r1,y.x,c,d,e,f,b+1⟩,y),by simp[mv],λh=>absurd hb h⟩
 refine⟨(hd ⟨.r1,y.x,c,d,e,f,b+1⟩,y),by simp[mv],λ_=>⟨_,_,_,u7 rfl rfl (by k_ne) rfl rfl dP.iy Dm,rfl,dP,.refl _ _,Ij hb ag ag rfl,?_⟩⟩;refine cq.dt (m:=400) ?_ (Ii hb);simp only[kG,DU hb];walk_nrm
 repeat w_nl aR.rely
 try simp only[Qg]
 u_c stepG_inLoop aR.rely hF
 exact goes_le U (iA k U ⟨.r1,y.x,c,d,e,f,b+1⟩ a ⟨Il.1,by simp only;omega,Qc,hb⟩ hF)
def apG(v:bu)(k:Nat)(s:∀k',k'<k->∀T a,vj T a->vk K aL Post i kd aN W er et du eu ev ew ey v k' T a)(old:a6)(p f g j:Bool)(b:Nat)(a:Int)(c:g=decide (a≠0))(t:old.q<31)(d:b<4){hE kH h2 h3 iX iY iZ ja jb jc jd je jf jg jh ji jj jk jl jm jo jq jr ju jv jw jx jy jz jA jB jC jD jE jF jG jH kQ kR kS kT kU kV kW kX kY kZ k0 k2 k3 k4 k5 k6 k7 k8 k9 lc lf lg lh li lj lk ll lm ln lp lq lr ls lu lv lx ly lz lA lB lC lD lE lF lG lH lI lJ lK lL lM lN lO lP lQ lR lS u y z A B C D E F H aa J L M N O P Q R S az V X Y Z ti tj tk tl qO qP oT oU nk nl nm nn np ns:ai}{w:ab}(hF:aR K i aN W w):cq K aL Post i kd (if(!p && !old.wk && old.q !=0)=true then(⟨.c1,old,p,f,g,j,b⟩:Th)else⟨.r1,old,p,f,g,j,b⟩) v ⟨aN,1⟩ k 80 (G ((base 112).at ⟨#[.pointer (some ⟨K.bm,0,none⟩),hE,.int .i64 a,.bool f,.bool p,.int .i64 b,.int .i32 old.enc,kH,h2,h3,iX,iY,iZ,ja,jb,jc,jd,je,jf,jg,jh,ji,jj,jk,jl,jm,jo,jq,jr,ju,jv,jw,jx,jy,jz,jA,jB,jC,jD,jE,jF,jG,jH,kQ,kR,kS,kT,kU,kV,kW,kX,kY,kZ,k0,k2,k3,k4,k5,k6,k7,k8,k9,lc,lf,lg,lh,li,lj,lk,ll,lm,ln,lp,lq,lr,ls,lu,lv,lx,ly,lz,lA,lB,lC,lD,lE,lF,lG,lH,lI,lJ,lK,lL,lM,lN,lO,lP,lQ,lR,lS,u,y,z,A,B,C,D,E,F,H,aa,J,L,M,N,O,P,Q,R,S,az,V,X,Y,Z,ti,tj,tk,tl,qO,qP,oT,oU,nk,nl,nm,nn,np,ns],[]⟩ (.code YO::.code DV::back)) (er.at et (.inRegion du (eu::ev)::ew)::ey)) w:=by
 simp (decide:=true) only[YO,gW,lead,h1,Tryz.f112,e2,cY,dd,fK,back];have cb:=aS.Di (x:=old) U;have l:=Hz (x:=old);by_cases n:(!p && !old.wk && old.q !=0)=true
 .rw[aV n];simp only[cu,vv,bne_iff_ne]at n;obtain⟨⟨rfl,o⟩,cz⟩:=n;have cc:(bits .and .i32 old.enc 2==0)=true:=(by rw[cb,o];rfl);have c8:(old.enc / 8 !=0)=true:=(by rw[l];simpa using cz);have jP:bits .or .i32 old.enc 2=a6.enc {old with wk:=true}:=aS.WV U;clear cb l;repeat w_go aR.rely
  refine Goes.stop (λ_ kE=> ?_);replace hF:=aR.rely hF kE;clear kE;rcases k with _|k
  .rfl
  refine⟨rfl,rfl,rfl,ag,ag,λx r apF _=>⟨λh=> ?_,λ_ _ _=> ?_⟩⟩
  .exfalso;revert h;simp only[mv];(repeat' split)<;>simp
  by_cases hm:x.x=old
  .have tQ:=r.iy;rw[hm]at tQ;have dP:=r.rE {old with wk:=true};refine⟨(⟨.r1,old,true,f,g,j,b⟩,{x with x:={old with wk:=true}}),by simp only[mv];rw[aV hm];exact bK.2 rfl,λ_=>⟨_,_,_,stepG_cas_hit rfl rfl (by k_ne) rfl Tryz.func111 qx qy qz .i32 qA rfl rfl rfl tQ (r.thaw 0),rfl,dP,.set _ _ 0 _,bk_rw 1 _ (.inl rfl),cq.dt (m:=80) ?_ ag⟩⟩;replace hF:=hF.iW (.set _ _ 0 _) dP;walk_nrm
   iterate 6 w_go aR.rely
   exact goes_le U (DW v k (λk' h=>s k' U) old true f g j b a c t d hF)
  .refine⟨(⟨.r1,old,false,f,g,j,b⟩,x),by simp only[mv];rw[aC hm];exact bK.2 rfl,λ_=>⟨_,_,_,stepG_cas_miss rfl rfl (by k_ne) rfl Tryz.func111 qx qy qz .i32 qA rfl rfl rfl r.iy (r.thaw 0) (λe=>hm (a6.Hp e)),rfl,r,.refl _ _,Hw 1 _ false (.inl rfl),cq.dt (m:=80) ?_ ag⟩⟩;walk_nrm
   iterate 4 w_go aR.rely
   exact goes_le U (DW v k (λk' h=>s k' U) old false f g j b a c t d hF)
 .rw[aC n];have cc:(bits .and .i32 old.enc 2==0)= !old.wk:=(by rw[cb];cases old.wk<;>rfl);have c8:(old.enc / 8 !=0)=(old.q !=0):=(by rw[l];exact sG.2 ag);clear cb l;cases p
  .cases o:old.wk
   .have Ik:(old.q !=0)=false:=(by simpa[o]using n);rw[o]at cc;rw[Ik]at c8;clear n o Ik;iterate 27 w_go aR.rely
    exact goes_le U (DW v k s old false f g j b a c t d hF)
   .rw[o]at cc;clear n o c8;iterate 27 w_go aR.rely
    exact goes_le U (DW v k s old false f g j b a c t d hF)
  .clear n cc c8;iterate 27 w_go aR.rely
   exact goes_le U (DW v k s old true f g j b a c t d hF)
end
end Go.bp
namespace Go.bp
open Go Go.Conc Go.ConcN Go.RowKit Go.Conc.Lib Go.ConcR.Gen Go.Proofs Go.bG Go.Ren
open Go.ConcR (KK wgBlock WgAt stA smA rd wr mk DC0)
open Go.ConcM (OsLater goes_pad goes_le)
open Go.aS (Th Sh a6 mv Pc hd eS)
noncomputable def YQ:Code:=(gW 5 h1).getD .skip
def apH:DS=.block 1 YQ:=ah
section
variable{K:bj}{aL:bu->Obj->Prop}{Post:Nat->(Nat->Prop)->World->Prop}{i:Nat}{kd:Int}{aN:Nat->Prop}{W:World}
variable{er:Frame}{et:Act}{du:Array Oper}{eu:Nat}{ev:List Nat}{ew:List Item}{ey:List Frame}
def Qh{T:Th}(h:(eS T).pc≠.bad):eS T={T with pc:=.c2}/\(T.aw=true->T.old.wk=true):=by
 unfold eS at *;split
 .rename_i a;rw[aV a]at h;exact absurd rfl h
 .rename_i a;exact⟨rfl,λe=>by rw[e]at a;simpa using a⟩
def apI(A:eB K aL Post i kd aN W (G (er.at (et.put ((du[eu]?).bind (·.dst)) (.tuple #[])) (.inRegion du ev::ew)) ey))(v:bu):∀(k:Nat)(T:Th)(d:Int),vj T d->vk K aL Post i kd aN W er et du eu ev ew ey v k T d:=by
 intro k;induction k using Nat.strongRecOn with
 |_ k y=>
 intro T d F;obtain⟨B,old,b,e,f,g,a⟩:=T;obtain⟨s,p,l,j⟩:=F;simp only at s p l;intro _;intros;rename_i w hF;conv in (Item.code DS)=>rw[apH]
 simp (decide:=true) only[YQ,gW,lead,h1,Tryz.f112,e2,cY,dd,fK];have z:=aS.OE (x:=old) U;by_cases r:(old.bC && !old.a4)=true
 .have t:hd ⟨B,old,b,e,f,g,a⟩=⟨.sq,old,b,e,f,g,a⟩:=(by unfold hd;rw[aV r]);rw[t];have H:(bits .and .i32 old.enc 5==1)=true:=by
   simp only[cu,vv]at r;rw[z,r.1,r.2];rfl
  clear z j t r;repeat w_go aR.rely
  refine Goes.stop (λaa C=> ?_);replace hF:=aR.rely hF C;clear C;rcases k with _|k
  .rfl
  refine⟨rfl,rfl,rfl,ag,ag,λx u D _=>⟨by simp[mv],λ_ _ _=> ?_⟩⟩;have o:(eS ⟨.sq,old,b,e,f,g,a⟩,x)∈mv ⟨.sq,old,b,e,f,g,a⟩ x:=(by simp only[mv];exact L3);by_cases E:a<4
  .rcases Ci:aa.spins with _|_
   .refine⟨_,o,λj=> ?_⟩;have⟨aF,c⟩:=Qh j;simp only at aF c;rw[aF];refine⟨_,_,_,stepG_canSpin_ask rfl rfl (by k_ne) rfl Tryz.func141 OI OJ OK OL (k:=.i64) (n:=a) (by simp[Act.eval]) U,rfl,u,.asked _ _,xo 1,cq.dt (m:=150) ?_ ag⟩;replace hF:=hF.iW (.asked _ _) (x:=x) u;rw[Ci];clear o j aF;walk_nrm
    iterate 4 w_go aR.rely
    exact goes_le U (Qf A v k (λk' h=>y k' U) old b e f g a d l s p c hF)
   .refine⟨(if(!b && !old.wk && old.q !=0)=true then⟨.c1,old,b,e,f,g,a⟩else⟨.r1,old,b,e,f,g,a⟩,x),by simp only[mv];rw[aV E];exact Fa _ (bK.2 rfl),λj=> ?_⟩;refine⟨_,_,_,stepG_canSpin_ask rfl rfl (by k_ne) rfl Tryz.func141 OI OJ OK OL (k:=.i64) (n:=a) (by simp[Act.eval]) U,rfl,u,.asked _ _,by split<;>exact xo 1,cq.dt (m:=100) ?_ (by split<;>simp)⟩;replace hF:=hF.iW (.asked _ _) (x:=x) u;rw[Ci];rw[show kG K ⟨.sq,old,b,e,f,g,a⟩ (if(!b && !old.wk && old.q !=0)=true then⟨.c1,old,b,e,f,g,a⟩else⟨.r1,old,b,e,f,g,a⟩) ⟨aN,1⟩=⟨aN,1⟩ by split<;>rfl];clear o j;walk_nrm
    iterate 3 w_go aR.rely
    exact goes_le U (apG v k (λk' h=>y k' U) old b e f g a d l s E hF)
  .refine⟨_,o,λj=> ?_⟩;have⟨aF,c⟩:=Qh j;simp only at aF c;rw[aF];refine⟨_,_,_,stepG_canSpin_no rfl rfl (by k_ne) rfl Tryz.func141 OI OJ OK OL (k:=.i64) (n:=a) (by simp[Act.eval]) U,rfl,u,.refl _ _,xo 1,cq.dt (m:=150) ?_ ag⟩;clear o j aF;walk_nrm
   iterate 4 w_go aR.rely
   exact goes_le U (Qf A v k (λk' h=>y k' U) old b e f g a d l s p c hF)
 .have t:hd ⟨B,old,b,e,f,g,a⟩=eS ⟨B,old,b,e,f,g,a⟩:=(by unfold hd;rw[aC r]);rw[t]at j⊢;have⟨aF,c⟩:=Qh j;simp only at aF c;rw[aF];have H:(bits .and .i32 old.enc 5==1)=false:=by
   rw[z];cases bO:old.bC<;>cases bw:old.a4<;>simp[bO,bw]at r<;>rfl
  clear z j t r aF;iterate 14 w_go aR.rely
  exact goes_le U (Qf A v k y old b e f g a d l s p c hF)
def apJ:W9 K aL Post i kd aN W:=by
 intro er et du eu ev ew ey g v T k w d hF;obtain⟨pc,old,j,l,n,b,o⟩:=T;simp only at d;subst d;simp (decide:=true) only[h1,Tryz.f112,e2];repeat w_go aR.rely
 refine Goes.stop (λ_ e=> ?_);replace hF:=aR.rely hF e;clear e;rcases k with _|k
 .rfl
 refine⟨rfl,rfl,rfl,ag,ag,λy f c _=>⟨by simp[mv],λ_ _ _=> ?_⟩⟩;by_cases a:(hd ⟨.r0,y.x,false,false,false,b,0⟩).pc=.bad
 .exact⟨(hd ⟨.r0,y.x,false,false,false,b,0⟩,y),by simp[mv],λh=>absurd a h⟩
 refine⟨(hd ⟨.r0,y.x,false,false,false,b,0⟩,y),by simp[mv],λ_=>⟨_,_,_,u7 rfl rfl (by k_ne) rfl rfl f.iy Dm,rfl,f,.refl _ _,Ij a ag ag rfl,?_⟩⟩;refine cq.dt (m:=400) ?_ (Ii a);simp only[kG,DU a];walk_nrm
 repeat w_but "code.loop" aR.rely
 u_c stepG_loop aR.rely hF
 exact goes_le U (apI g _ k ⟨.r0,y.x,false,false,false,b,0⟩ 0 ⟨c.1,ag,ag,a⟩ hF)
def apK{b₀:bY}{a₀:Act}{ops₀:dn}{i₀:Nat}{rest₀:cw}{k₀:eQ}{cs:bW}(a:eB K aL Post i kd aN W (G (b₀.at (a₀.put ((ops₀[i₀]?).bind (·.dst)) (.tuple #[])) (.inRegion ops₀ rest₀::k₀)) cs))(v:bu): ∀k w,aR K i aN W w->cq K aL Post i kd {pc:=.ld} v ⟨aN,0⟩ k 40 (G ((base 34).at ⟨#[.pointer (some ⟨K.bm,0,none⟩),I,I,I,I,I],[]⟩ [.code OW]) (b₀.at a₀ (.inRegion ops₀ (i₀::rest₀)::k₀)::cs)) w:=alf apJ a v
end
end Go.bp
namespace Go.bp
open Go Go.Conc Go.ConcN Go.RowKit Go.Conc.Lib Go.ConcR.Gen Go.Proofs Go.bG Go.Ren
open Go.ConcR (KK wgBlock WgAt stA smA rd wr mk DC0)
open Go.ConcM (OsLater goes_pad goes_le)
open Go.aS (Th Sh a6 mv Pc hd)
section
variable{K:bj}{aL:bu->Obj->Prop}{Post:Nat->(Nat->Prop)->World->Prop}{i:Nat}{kd:Int}{aN:Nat->Prop}{W:World}
variable{b₀:Frame}{Io:Array Value}{bX:List Deferred}{todo:List Item}{cs:List Frame}
def apL(a:¬aN K.bU)(v:bu)(d:∃m,∀w,aR K i aN W w->qB K Post i ⟨aN,0⟩ m (G {b₀.at ⟨Io,bX⟩ todo with mode:=.returning} cs) w): ∀(T:Th)k w,T.pc=.ur->aR K i aN W w/\ix K aL w v->cq K aL Post i kd T v ⟨λb=>aN b\/b=K.bU,0⟩ k 60 (G {b₀.at ⟨Io,dcall 35 #[.pointer (some ⟨K.bm,0,none⟩)]::bX⟩ todo with mode:=.returning} cs) w:=by
 intro T k w e hF;u_in e8 hF
 rw[stepG_unwind_enter rfl Tryz.func35 ak6 rfl];simp only[goes_go];refine⟨by u_nil,?_⟩;walk_nrmf Tryz.f35
 repeat w_go e8
 u_call Tryz.func65 ak8 Tryz.f65 e8 hF
 refine goes_le U (alo a v ?_ T k _ e hF);obtain⟨f,c⟩:=d;refine⟨f+10,λw hF=> ?_⟩;repeat w_go aR.rely
 u_in aR.rely hF
 rw[stepG_leave_deferred rfl rfl Tryz.func35 (results_none rfl _ _ _) (events_results_none rfl _ _) rfl];simp only[goes_go];refine⟨by u_nil,?_⟩;exact goes_le U (c _ hF)
end
end Go.bp
namespace Go.bp
open Go Go.Conc Go.ConcN Go.RowKit Go.Conc.Lib Go.ConcR.Gen Go.Proofs Go.bG Go.Ren
open Go.ConcR (KK wgBlock WgAt stA smA rd wr mk DC0)
open Go.ConcM (OsLater goes_pad goes_le)
open Go.aS (Th Sh a6 mv Pc hd)
noncomputable def Ip:Code:=Tryz.f51.body.getD .skip
noncomputable def pr:Code:=(gW 1 Ip).getD .skip
section
variable{K:bj}{Post:Nat->(Nat->Prop)->World->Prop}{i:Nat}{kd:Int}{aN:Nat->Prop}{W:World}
variable{b₀:Frame}{a₀:Act}{ops₀:Array Oper}{i₀:Nat}{rest₀:List Nat}{k₀:List Item}{cs:List Frame}
def _root_.Go.bG.e6.cellP{w:ab}{x:Sh}(h:e6 K w x):w.cell? ⟨K.bm,2,none⟩=some (.map (some K.bU)):=by unfold e6 at h;simp[World.cell?,h,xj]
def apM(cJ:K.n<=8)(g:¬aN K.bU)(t:¬K.ro K.bU)(u:K.bU≠K.bm)(y:K.bU≠K.Wg)(c:K.bU≠K.bb)(v:bu)(V:∃m,∀w,aR K i aN W w->qB K Post i ⟨aN,0⟩ m (G (b₀.at (a₀.put ((ops₀[i₀]?).bind (·.dst)) (.tuple #[])) (.inRegion ops₀ rest₀::k₀)) cs) w): ∀(X Y Z rF sZ kH h2 h3 z A B C D E H aa J L M N O P Q:ai)k w,aR K i aN W w->cq K h5 Post i kd {pc:=.ld} v ⟨aN,0⟩ k 60 (G ((base 51).at ⟨#[.pointer (some ⟨K.bm,0,none⟩),X,Y,Z,.int .i64 kd,rF,sZ,kH,h2,h3,z,A,B,C,D,E,H,aa,J,L,M,N,O,P,Q],[]⟩ [.code pr]) (b₀.at a₀ (.inRegion ops₀ (i₀::rest₀)::k₀)::cs)) w:=by
 intros;rename_i k w hF
 simp (decide:=true) only[pr,gW,lead,Ip,Tryz.f51,e2,cY,dd,fK];repeat w_go aR.rely
 u_call Tryz.func34 ak5 Tryz.f34 aR.rely hF
 refine goes_le U (apK ?_ v k _ hF);intro k' f T b8 j;obtain⟨P6,R⟩:=V;refine⟨40,λw p l=> ?_⟩;have hF:=And.intro p l;clear p l;repeat w_go e8
 u_defer e8 hF
 repeat w_go e8
 refine Goes.stop (λ_ a=> ?_);replace hF:=e8 hF a;clear a;refine ta (F:=λw=>aR K i aN W w/\ix K h5 w f) rfl rfl (by k_ne) rfl rfl Tryz.isAgg70 hF e8 (λw h=>by have⟨x,cD⟩:=h.1.aT;exact cD.cellP) .map (λw hF=> ?_);refine dV.cK (m:=30) ?_;walk_nrm
 repeat w_go e8
 refine Goes.stop (λ_ a=> ?_);replace hF:=e8 hF a;clear a;refine amW (F:=λw=>aR K i aN W w/\ix K h5 w f) (f:=f) (k:=kd) rfl rfl (by k_ne) rfl rfl rfl Tryz.underlying70 Tryz.underlying30 Tryz.zeroValue3 hF e8 (λw h=>h.2) (.inr rfl) (λw hF=> ?_);have Qg:IntKind.i64.wrap ((f kd:Int)+1)=(f kd:Int)+1:=(by have:=j kd;rw[IntKind.wrap_i64];omega);have S:((f kd:Int)+1+9223372036854775808) % 18446744073709551616 - 9223372036854775808=(f kd:Int)+1:=(by have:=j kd;omega);refine dV.cK (m:=30) ?_;walk_nrm
 repeat w_go e8
 refine Goes.stop (λ_ a=> ?_);replace hF:=e8 hF a;clear a;refine amX (F:=λw=>aR K i aN W w/\ix K h5 w f) (f:=f) (k:=kd) rfl rfl (by k_ne) rfl rfl rfl (by simp[Act.eval,Qg,S]) Tryz.underlying70 Tryz.underlying30 hF e8 (λw h=>h.2) (.inr rfl) c (λw bg s hF hk=> ?_);have d:∀b o,b≠K.bU->(w.heap.setIfInBounds K.bU o)[b]? =w.heap[b]? :=λb o e=>(by rw[hL,aC (λq=>e q.symm)]);have az:aR K i aN W {w with heap:=w.heap.setIfInBounds K.bU (.map bg s)}/\ix K h5 {w with heap:=w.heap.setIfInBounds K.bU (.map bg s)} (f.add kd):=by
  obtain⟨h,o,ap,_⟩:=hF;refine⟨⟨h.aT.of_block (d _ _ (ed u)),h.wg.of_block (d _ _ (ed y)),h.pay.of_block (d _ _ (ed c)),λb p l=>(d b _ ?_).trans (h.kept b p l),?_,by simpa using h.size,h.dx⟩,_,?_,⟨bg,s,rfl,hk⟩⟩
  .rintro rfl;exact l.elim g t
  .rw[<-h.cell];simp only[World.cell?];rw[d _ _ (ed c)]
  .show(w.heap.setIfInBounds K.bU _)[K.bU]? =_
   rw[hL,aV rfl,aV (bQ.1 ap).1]
 clear hF d;revert az;generalize({w with heap:=w.heap.setIfInBounds K.bU (.map bg s)}:ab)=w;intro hF;refine dV.cK (m:=30) ?_;walk_nrm
 repeat w_go e8
 refine Goes.stop (λ_ r=> ?_);refine cq.cK (apL g _ ⟨P6+10,λw hF=> ?_⟩ T k' _ b8 (e8 hF r));u_leave0 Tryz.func51 aR.rely hF
 exact goes_le U (R _ hF)
end
end Go.bp
