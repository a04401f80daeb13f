import Derived.Test.YtlcdgbhigfgehabGreatDoorQA16
import Derived.Conc.WgGenN3
set_option linter.all false
set_option maxRecDepth 100000
set_option maxHeartbeats 16000000
namespace Go.bp
open Go Go.Conc Go.ConcN Go.RowKit Go.Conc.Lib Go.ConcR.Gen Go.Proofs Go.bG Go.Ren Go.ConcN.Gen
open Go.ConcR (KK wgBlock WgAt stA smA rd wr mk DC0)
open Go.ConcM (OsLater goes_pad goes_le)
noncomputable def DY:Code:=Tryz.f52.body.getD .skip
def Y0:(Tryz.f88.name== "runtime.NumGoroutine")=false:=ah
def ap3:(Tryz.f94.name== "runtime.NumGoroutine")=false:=ah
def Ae:Code->Code
 |.seq _ (.block _ (.loop b))=>b
 |_=>.skip
noncomputable def Qo:Code:=Ae DY
section
variable{K:bj}{Anch:aM->Goroutine->World->Prop}{aN:Nat->Prop}{F:World->Prop}
variable{b₀:Frame}{a₀:Act}{ops₀:Array Oper}{i₀:Nat}{rest₀:List Nat}{k₀:List Item}{cs:List Frame}
def Is(K:bj)(aN:Nat->Prop)(F:ab->Prop)(c:bY)(cs:bW)(s:aM)(g:aY)(w:ab):Prop:=s=⟨aN,1⟩/\∃T:aQ,g=G ((base 52).at ⟨T,[]⟩ [.code Qo,.inLoop Qo,.inBlock 0]) (c::cs)/\T.size=84/\T[0]? =some (.pointer (some ⟨K.Wg,0,none⟩))/\F w
def ap4(H:vo K aN F):∀w,F w->eT Tryz.prog K (zR Tryz.prog K (Is K aN F (b₀.at a₀ (.inRegion ops₀ (i₀::rest₀)::k₀)) cs)) ⟨aN,0⟩ (G ((base 52).at ⟨#[.pointer (some ⟨K.Wg,0,none⟩),I,I,I,I,I,I,I,I,I,I,I,I,I,I,I,I,I,I,I,I,I,I,I,I,I,I,I,I,I,I,I,I,I,I,I,I,I,I,I,I,I,I,I,I,I,I,I,I,I,I,I,I,I,I,I,I,I,I,I,I,I,I,I,I,I,I,I,I,I,I,I,I,I,I,I,I,I,I,I,I,I,I,I],[]⟩ [.code DY]) (b₀.at a₀ (.inRegion ops₀ (i₀::rest₀)::k₀)::cs)) w:=by
 intro w hF;refine fI.cK (m:=10) ?_;simp only[DY,Tryz.f52,e2];repeat w_go H.rely
 refine Goes.stop (λal r=> ?_);replace hF:=H.rely hF r;clear r;refine a7.stop λal r=> ?_;replace hF:=H.rely hF r;clear r;refine⟨rfl,rfl,_,stepG_mark0 .disable ag rfl rfl (by k_ne) rfl cP.f_disable (x_disable_n link) (x_disable_b link) (x_disable_x link) (x_disable_f link),fI.cK (m:=10) ?_⟩;walk_nrm
 w_go H.rely
 w_go H.rely
 w_go H.rely
 exact Goes.stop (λcO r=>a7.stop λb a=>⟨rfl,_,rfl,ag,ag,H.rely (H.rely hF r) a⟩)
def ap5(l:K.cW=link.tWg)(H:vo K aN F)(j:∀w,F w->eT Tryz.prog K Anch ⟨aN,0⟩ (G (b₀.at (a₀.put ((ops₀[i₀]?).bind (·.dst)) (.tuple #[])) (.inRegion ops₀ rest₀::k₀)) cs) w): ∀s g w,Is K aN F (b₀.at a₀ (.inRegion ops₀ (i₀::rest₀)::k₀)) cs s g w->eT Tryz.prog K (rD Tryz.prog K Anch (Is K aN F (b₀.at a₀ (.inRegion ops₀ (i₀::rest₀)::k₀)) cs)) s g w:=by
 rintro s g w⟨rfl,T,rfl,d,t0,hF⟩;obtain⟨bE,v1,v2,bA,v4,aX,v6,hV,gK,iJ,o,p,q,t,u,x,y,z,A,B,C,D,E,aa,J,L,M,N,O,P,Q,R,az,V,W,X,Y,Z,zl,zm,zn,zo,zq,zr,wY,wZ,w5,w6,w7,w8,w9,xa,sQ,sR,sS,sT,sU,qo,qp,mC,mD,mE,mF,mG,mH,mI,zs,zt,zu,zv,zw,zx,zy,zz,zA,zB,zC,zD,zE,zF,zG,zH,zI,zJ,rfl⟩:=array84 T d;simp only[xS,DZ,fK]at t0;subst t0;refine fI.cK (m:=30) ?_;simp only[Qo,Ae,DY,Tryz.f52,e2];repeat w_go H.rely
 u_call Tryz.func88 Y0 Tryz.f88 H.rely hF
 repeat w_go H.rely
 refine Goes.stop (λal r=> ?_);replace hF:=H.rely hF r;clear r;refine a7.stop λal r=> ?_;replace hF:=H.rely hF r;clear r;refine⟨rfl,rfl,λv bP a=> ?_⟩;rcases jL v with rfl|awb
 ·
  replace a:WgAt K.cW K.Wg al 0 0:=(by simpa using a);refine⟨_,stepG_load_atomic (v:=0) rfl rfl (by k_ne) rfl cP.f_loadU64 (x_loadU64_n link) (x_loadU64_b link) (x_loadU64_x link) .u64 (x_loadU64_f link) rfl a.cellSt,λ_=>fI.cK (m:=60) ?_,λh=>absurd rfl h⟩;clear a;walk_nrm
  repeat w_go H.rely
  u_leave1 Tryz.func88 H.rely hF
  repeat w_go H.rely
  refine Goes.stop (λal r=> ?_);replace hF:=H.rely hF r;clear r;refine a7.stop λal r=> ?_;replace hF:=H.rely hF r;clear r;refine⟨rfl,rfl,_,stepG_mark0 .enable ag rfl rfl (by k_ne) rfl cP.f_enable (x_enable_n link) (x_enable_b link) (x_enable_x link) (x_enable_f link),fI.cK (m:=20) ?_⟩;walk_nrm
  repeat w_go H.rely
  m_convG Tryz.prog cP.underlying_tUP cP.underlying_tWgP Ps (H.HT hF).choose_spec H.rely hF
  refine Goes.stop (λal r=> ?_);replace hF:=H.rely hF r;clear r;refine a7.stop λal r=> ?_;replace hF:=H.rely hF r;clear r;refine⟨rfl,rfl,_,stepG_markAt .acquire ag rfl rfl (by k_ne) rfl cP.f_acquire (x_acquire_n link) (x_acquire_b link) (x_acquire_x link) (x_acquire_f link) (by simp[Act.eval,stA]),fI.cK (m:=30) ?_⟩;walk_nrm
  repeat w_go H.rely
  u_leave0 Tryz.func52 H.rely hF
  exact Goes.stop λk r=>j _ (H.rely hF r)
 ·
  obtain⟨S,c⟩:∃S:Int,(v:Int)*KK=S:=⟨_,rfl⟩;have a1:S / 4294967296=(v:Int):=(by rw[<-c];simp only[KK];omega);have mY:bits .and .u64 S 2147483648=0:=(by rw[<-c];have:=st_flag v 0 U U;simpa[KK]using this);have fM:bits .and .u64 S 2147483647=0:=(by rw[<-c];have:=st_waiters v 0 U U;simpa[KK]using this);have c1:IntKind.i32.wrap (v:Int)=(v:Int):=(by rw[IntKind.wrap_i32];omega);have w1:IntKind.u64.wrap (S+1)=S+1:=(by rw[IntKind.wrap_u64,<-c];simp only[KK];omega);have gg:decide ((v:Int)<0)=false:=yQ U;have ks:decide (0< (v:Int))=true:=vE U;have D1:((v:Int)==0)=false:=a5;have xd:decide ((v:Int)=0)=false:=yQ U;rw[c]at a;refine⟨_,stepG_load_atomic (v:=S) rfl rfl (by k_ne) rfl cP.f_loadU64 (x_loadU64_n link) (x_loadU64_b link) (x_loadU64_x link) .u64 (x_loadU64_f link) rfl a.cellSt,λcz=>absurd cz U,λ_=>fI.cK (m:=70) ?_⟩;clear a;walk_nrm
  repeat w_go H.rely
  u_leave1 Tryz.func88 H.rely hF
  repeat (first|w_go H.rely|u_cnd false H.rely hF)
  u_call Tryz.func94 ap3 Tryz.f94 H.rely hF
  repeat w_go H.rely
  refine Goes.stop (λal r=> ?_);replace hF:=H.rely hF r;clear r;refine a7.stop λal r=> ?_;replace hF:=H.rely hF r;clear r;refine⟨rfl,rfl,λv' Ch a=>⟨λe=> ?_,λe=> ?_⟩⟩
  .subst e;rw[c]at a⊢;have b:=H.set (S+1) hF;refine⟨_,(stepG_cas_hit (v:=S) (n:=S+1) rfl rfl (by k_ne) rfl cP.f_casU64 (x_casU64_n link) (x_casU64_b link) (x_casU64_x link) .u64 (x_casU64_f link) rfl rfl rfl a.cellSt (a.thaw 0)).trans eI,fI.cK (m:=70) ?_⟩;replace hF:=b;clear a b;generalize(al.setCell (stA K.Wg) (.int .u64 (S+1)):ab)=w at hF⊢;walk_nrm
   repeat w_go H.rely
   u_leave1 Tryz.func94 H.rely hF
   repeat w_go H.rely
   m_convG Tryz.prog cP.underlying_tUP cP.underlying_tPU32 YX (H.YZ hF).choose_spec H.rely hF
   refine Goes.stop (λal r=>a7.fW rfl λcO f=> ?_);replace hF:=H.rely (H.rely hF r) f;clear r f;refine⟨⟨aN,1⟩,_,_,_,stepG_markAt .write ag rfl rfl (by k_ne) rfl cP.f_raceWrite (x_raceWrite_n link) (x_raceWrite_b link) (x_raceWrite_x link) (x_raceWrite_f link) (ad:=⟨K.Wg,1,none⟩) (by simp[Act.eval]),ap1 _ rfl,fI.cK (m:=70) ?_⟩;walk_nrm
   repeat w_go H.rely
   refine Goes.stop (λal r=> ?_);replace hF:=H.rely hF r;clear r;refine a7.stop λal r=> ?_;replace hF:=H.rely hF r;clear r;refine⟨rfl,rfl,rfl,λ⟨a4,a⟩=>stepG_semacquire_wait rfl rfl rfl cP.f_semacquire (x_semacquire_n link) (x_semacquire_b link) (x_semacquire_x link) (x_semacquire_f link) (by simp[Act.eval,smA]) a.cellSm,λi=> ?_⟩;have b:=H.YY hF;refine⟨_,(stepG_semacquire (n:=1) rfl rfl (by k_ne) rfl cP.f_semacquire (x_semacquire_n link) (x_semacquire_b link) (x_semacquire_x link) (x_semacquire_f link) (by simp[Act.eval,smA]) i.cellSm (by k_ne) (i.thaw 1)).trans eI,fI.cK (m:=30) ?_⟩;replace hF:=b;clear i b;generalize(al.setCell (smA K.Wg) (.int .u32 0):ab)=w at hF⊢;walk_nrm
   repeat w_go H.rely
   u_call Tryz.func88 Y0 Tryz.f88 H.rely hF
   repeat w_go H.rely
   refine Goes.stop (λal r=> ?_);replace hF:=H.rely hF r;clear r;refine a7.stop λal r=> ?_;replace hF:=H.rely hF r;clear r;refine⟨rfl,rfl,λa=>⟨_,stepG_load_atomic (v:=0) rfl rfl (by k_ne) rfl cP.f_loadU64 (x_loadU64_n link) (x_loadU64_b link) (x_loadU64_x link) .u64 (x_loadU64_f link) rfl a.cellSt,fI.cK (m:=40) ?_⟩⟩;clear a;walk_nrm
   repeat w_go H.rely
   u_leave1 Tryz.func88 H.rely hF
   repeat w_go H.rely
   refine Goes.stop (λal r=> ?_);replace hF:=H.rely hF r;clear r;refine a7.stop λal r=> ?_;replace hF:=H.rely hF r;clear r;refine⟨rfl,rfl,_,stepG_mark0 .enable ag rfl rfl (by k_ne) rfl cP.f_enable (x_enable_n link) (x_enable_b link) (x_enable_x link) (x_enable_f link),fI.cK (m:=20) ?_⟩;walk_nrm
   repeat w_go H.rely
   m_convG Tryz.prog cP.underlying_tUP cP.underlying_tWgP Ps (H.HT hF).choose_spec H.rely hF
   refine Goes.stop (λal r=> ?_);replace hF:=H.rely hF r;clear r;refine a7.stop λal r=> ?_;replace hF:=H.rely hF r;clear r;refine⟨rfl,rfl,_,stepG_markAt .acquire ag rfl rfl (by k_ne) rfl cP.f_acquire (x_acquire_n link) (x_acquire_b link) (x_acquire_x link) (x_acquire_f link) (by simp[Act.eval,stA]),fI.cK (m:=30) ?_⟩;walk_nrm
   repeat w_go H.rely
   u_leave0 Tryz.func52 H.rely hF
   exact Goes.stop λk r=>j _ (H.rely hF r)
  .refine⟨_,stepG_cas_miss (v:=(v':Int)*KK) (old:=S) (n:=S+1) rfl rfl (by k_ne) rfl cP.f_casU64 (x_casU64_n link) (x_casU64_b link) (x_casU64_x link) .u64 (x_casU64_f link) rfl rfl rfl a.cellSt (a.thaw 0) (by rw[<-c];simp only[KK];omega),fI.cK (m:=20) ?_⟩;clear a;walk_nrm
   repeat w_go H.rely
   u_leave1 Tryz.func94 H.rely hF
   repeat w_nl H.rely
   u_c stepG_inLoop H.rely hF
   exact Goes.stop (λk r=>a7.stop λDX f=>⟨rfl,_,rfl,ag,ag,H.rely (H.rely hF r) f⟩)
end
end Go.bp
