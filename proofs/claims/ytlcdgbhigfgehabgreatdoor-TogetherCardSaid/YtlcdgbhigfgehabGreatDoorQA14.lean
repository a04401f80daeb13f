import Derived.Test.YtlcdgbhigfgehabGreatDoorQA13
set_option linter.all false
set_option maxRecDepth 100000
set_option maxHeartbeats 16000000
namespace Go.bp
open Go Go.Conc Go.ConcN Go.RowKit Go.Conc.Lib Go.ConcR.Gen Go.Proofs Go.bG Go.Ren
open Go.ConcR (KK wgBlock WgAt stA smA rd wr mk DC0)
open Go.ConcM (OsLater goes_pad goes_le)
open Go.aS (Th Sh a6 mv Pc fw)
noncomputable def Xb:Code:=Tryz.f65.body.getD .skip
section
variable{K:bj}{aL:bu->Obj->Prop}{Post:Nat->(Nat->Prop)->World->Prop}{i:Nat}{kd:Int}{aN:Nat->Prop}{W:World}
variable{b₀:Frame}{a₀:Act}{ops₀:Array Oper}{i₀:Nat}{rest₀:List Nat}{k₀:List Item}{cs:List Frame}
abbrev qB(K:bj)(Post:Nat->(Nat->Prop)->ab->Prop)(i:Nat)(s:aM)(m:Nat)(g:aY)(w:ab):Prop:=Goes Tryz.prog false (Rl K (some i) s) DC0 (λg w=>dW Tryz.prog K i (u5 Tryz.prog K Post i) s g w) m g w
def qB.cK{s:aM}{m:Nat}{g:aY}{w:ab}(h:qB K Post i s m g w):dW Tryz.prog K i (u5 Tryz.prog K Post i) s g w:=a7.bind (hZ K (some i)) (a7.wS (own:=s) (Gu:=e7 K (some i)) (λ_ _ r=>r) (λ_ _ _ h=>zT h) h) λ_ _ _ ⟨e,h⟩=>e▸h
def qB.dt{T:Th}{a:Th->bu->aM->aY->ab->Prop}{v:bu}{s:aM}{m:Nat}{g:aY}{w:ab}(h:qB K Post i s m g w)(b:T.pc=.out):u6 Tryz.prog K Post i a T v s g w:=by
 unfold u6;rw[aV b];exact h.cK
def alj{T c:Th}(h:T.pc=.ur)(f:¬aN K.bU)(d:Nat):kG K T c ⟨λb=>aN b\/b=K.bU,d⟩=⟨aN,h0 c⟩:=by
 unfold kG;rw[h];congr 1;funext b;refine propext ⟨λ⟨a,g⟩=>a.resolve_right g,λa=>⟨.inl a,λe=>f (e▸a)⟩⟩
def alk{x:a6}(h:x.bC=true)(f:x.q<31):IntKind.i32.wrap (x.enc+ -1)=a6.enc {x with bC:=false}:=by
 obtain⟨a,b,c,d⟩:=x;subst h;simp only at f;have e:a6.enc ⟨true,b,c,d⟩+ -1=a6.enc ⟨false,b,c,d⟩:=(by cases b<;>cases c<;>simp[a6.enc]<;>omega);rw[e];show _=a6.enc ⟨false,b,c,d⟩
 have:=xp ⟨false,b,c,d⟩;rw[IntKind.wrap_i32];simp only at this;omega
def alm{x:a6}(h:x.bC=false)(f:x.q<31):(x.enc+1+2147483648) % 4294967296 - 2147483648=a6.enc {x with bC:=true}:=by
 obtain⟨a,b,c,d⟩:=x;subst h;simp only at f;have e:a6.enc ⟨false,b,c,d⟩+1=a6.enc ⟨true,b,c,d⟩:=(by cases b<;>cases c<;>simp[a6.enc]<;>omega);rw[e];show _=a6.enc ⟨true,b,c,d⟩
 have:=xp ⟨true,b,c,d⟩;simp only at this;omega
def aln{K:bj}{old:a6}{a b c d:Bool}{e:Nat}(az:Th)(y:Sh):rC K ⟨.u0,old,a,b,c,d,e⟩ (fw az,y).1 #[(⟨.cell ⟨K.bm,0,none⟩,false,true⟩:Event),⟨.cell ⟨K.bm,0,none⟩,true,true⟩]:=by
 have:=bk_rw (K:=K) 1 ⟨K.bm,0,none⟩ (.inl rfl);unfold rC;refine⟨this.1,?_⟩;rw[HB];exact this.2
def alo(C:¬aN K.bU)(v:bu)(N:∃m,∀w,aR K i aN W w->qB K Post i ⟨aN,0⟩ m (G (b₀.at (a₀.put ((ops₀[i₀]?).bind (·.dst)) (.tuple #[])) (.inRegion ops₀ rest₀::k₀)) cs) w): ∀(T:Th)k w,T.pc=.ur->aR K i aN W w/\ix K aL w v->cq K aL Post i kd T v ⟨λb=>aN b\/b=K.bU,0⟩ k 40 (G ((base 65).at ⟨#[.pointer (some ⟨K.bm,0,none⟩),I,I,I,I,I,I,I,I,I,I,I,I,I,I,I,I,I,I,I,I],[]⟩ [.code Xb]) (b₀.at a₀ (.inRegion ops₀ (i₀::rest₀)::k₀)::cs)) w:=by
 intro T k w t hF;obtain⟨pc,old,g,j,l,n,o⟩:=T;simp only at t;subst t;obtain⟨D,r⟩:=N;simp only[Xb,Tryz.f65,e2];repeat w_go e8
 u_in e8 hF
 have⟨x0,u⟩:=hF.1.OV;rw[u7 rfl rfl (by k_ne) rfl rfl u W6];simp only[goes_go];refine⟨by u_nil,?_⟩;clear u;walk_nrm
 repeat w_go e8
 m_convG Tryz.prog cP.underlying_tUP Dk Dl hF.1.mu.choose_spec e8 hF
 refine Goes.stop (λ_ c=> ?_);replace hF:=e8 hF c;clear c;rcases k with _|k
 .rfl
 refine⟨rfl,rfl,rfl,ag,λ_=>hF.2,λx p _ _=>⟨by simp[mv],λ_ _ _=>⟨(⟨.ud,old,g,j,l,n,o⟩,x),by simp[mv],λ_=>⟨_,_,_,stepG_markAt .releaseMerge ag rfl rfl (by k_ne) rfl cP.f_relMerge (x_relMerge_n link) (x_relMerge_b link) (x_relMerge_x link) (x_relMerge_f link) (by simp[Act.eval];rfl),rfl,p,.refl _ _,rfl,cq.dt (m:=30) ?_ ag⟩⟩⟩⟩;rw[alj rfl C];replace hF:=hF.1;walk_nrm
 show Goes Tryz.prog false (Rl K (some i) ⟨aN,0⟩) DC0 _ _ _ _
 repeat w_go aR.rely
 refine Goes.stop (λ_ c=> ?_);replace hF:=aR.rely hF c;clear c;rcases k with _|k
 .rfl
 refine⟨rfl,rfl,rfl,ag,ag,λx p _ _=>⟨by simp[mv],λ_ _ _=>⟨(⟨.u0,old,g,j,l,n,o⟩,x),by simp[mv],λ_=>⟨_,_,_,stepG_mark0 .disable ag rfl rfl (by k_ne) rfl cP.f_disable (x_disable_n link) (x_disable_b link) (x_disable_x link) (x_disable_f link),rfl,p,.refl _ _,bk_dis 0,cq.dt (m:=30) ?_ ag⟩⟩⟩⟩;walk_nrm
 repeat w_go aR.rely
 refine Goes.stop (λ_ c=> ?_);replace hF:=aR.rely hF c;clear c;rcases k with _|k
 .rfl
 refine⟨rfl,rfl,rfl,ag,ag,λx p d E=>⟨by simp[mv],λ_ _ _=> ?_⟩⟩;have f:=p.iy;have a:=alk (E.1 rfl) d.1;have e:=p.rE {x.x with bC:=false};rw[<-a]at e;replace hF:=hF.iW (.set _ _ 0 _) e;by_cases s:({x.x with bC:=false}:a6)={}
 .refine⟨(⟨.ue,old,g,j,l,n,o⟩,{x with x:={x.x with bC:=false}}),by simp[mv,s],λ_=>⟨_,_,_,stepG_add_atomic rfl rfl (by k_ne) rfl Tryz.func113 xk xl xm .i32 xn rfl rfl f (p.thaw 0),rfl,e,.set _ _ 0 _,bk_rw 1 _ (.inl rfl),cq.dt (m:=40) ?_ ag⟩⟩;have J:IntKind.i32.wrap (x.x.enc+ -1)=0:=(by rw[a,s];rfl);rw[J]at hF⊢;clear e f a J;walk_nrm
  repeat w_go aR.rely
  refine Goes.stop (λ_ c=> ?_);replace hF:=aR.rely hF c;clear c;rcases k with _|k
  .rfl
  refine⟨rfl,rfl,rfl,ag,ag,λy e _ _=>⟨by simp[mv],λ_ _ _=>⟨(⟨.out,old,g,j,l,n,o⟩,y),by simp[mv],λ_=>⟨_,_,_,stepG_mark0 .enable ag rfl rfl (by k_ne) rfl cP.f_enable (x_enable_n link) (x_enable_b link) (x_enable_x link) (x_enable_f link),rfl,e,.refl _ _,bk_en 0,qB.dt (m:=D+20) ?_ rfl⟩⟩⟩⟩;walk_nrm
  show Goes Tryz.prog false (Rl K (some i) ⟨aN,0⟩) DC0 _ _ _ _
  repeat w_go aR.rely
  u_leave0 Tryz.func65 aR.rely hF
  exact goes_pad (r _ hF) _
 .have z:(a6.enc {x.x with bC:=false} !=0)=true:=(by simpa using W8 s);have L:(bits .and .i32 ((a6.enc {x.x with bC:=false}+1+2147483648) % 4294967296 - 2147483648) 1==0)=false:=by
   rw[alm rfl (by have:=d.1;simp only;omega),aS.WT (x:={x.x with bC:=true}) (by have:=d.1;simp only;omega)];rfl
  cases eA:x.x.a4 with
  |true=>
   have F:(bits .and .i32 (a6.enc {x.x with bC:=false}) 4==0)=false:=by
    rw[aS.Hq (x:={x.x with bC:=false}) (by have:=d.1;simp only;omega)];simp only[eA];rfl
   refine⟨(⟨.us,old,g,j,l,n,o⟩,{x with x:={x.x with bC:=false}}),by simp only[mv];rw[aC s,aV eA];exact bK.2 rfl,λ_=>⟨_,_,_,stepG_add_atomic rfl rfl (by k_ne) rfl Tryz.func113 xk xl xm .i32 xn rfl rfl f (p.thaw 0),rfl,e,.set _ _ 0 _,bk_rw 1 _ (.inl rfl),cq.dt (m:=80) ?_ ag⟩⟩;rw[a]at hF⊢;generalize(a6.enc {x.x with bC:=false})=bN at hF z L F⊢;clear e f a s p;walk_nrm
   repeat w_go aR.rely
   u_call Tryz.func114 W2 Tryz.f114 aR.rely hF
   repeat w_go aR.rely
   refine Goes.stop (λ_ c=> ?_);replace hF:=aR.rely hF c;clear c;rcases k with _|k
   .rfl
   refine⟨rfl,rfl,rfl,λ_=>mayWake_entry rfl rfl Tryz.func147 Hv,ag,λy e H _=>⟨by simp[mv],λ_ _ _=> ?_⟩⟩;have A:IntKind.u32.wrap ((y.m:Int)+1)=((y.m+1:Nat):Int):=(by have:=H.2;rcases(by omega:y.m=0\/y.m=1)with h|h<;>rw[h]<;>rfl);refine⟨(⟨.ue,old,g,j,l,n,o⟩,{y with m:=y.m+1}),by simp[mv],λ_=>⟨_,_,_,stepG_semrelease rfl rfl (by k_ne) rfl Tryz.func147 W3 Hv W4 W5 (by simp[Act.eval]) e.Dn (e.thaw 1),rfl,by rw[A];exact e.Dp (y.m+1),.set _ _ 1 _,bk_sem 1 _ (.inr rfl),cq.dt (m:=40) ?_ ag⟩⟩;replace hF:=hF.iW (.set _ _ 1 _) (e.Dp (y.m+1));rw[A];walk_nrm
   repeat w_go aR.rely
   u_leave0 Tryz.func114 aR.rely hF
   repeat w_go aR.rely
   refine Goes.stop (λ_ c=> ?_);replace hF:=aR.rely hF c;clear c;rcases k with _|k
   .rfl
   refine⟨rfl,rfl,rfl,ag,ag,λy e _ _=>⟨by simp[mv],λ_ _ _=>⟨(⟨.out,old,g,j,l,n,o⟩,y),by simp[mv],λ_=>⟨_,_,_,stepG_mark0 .enable ag rfl rfl (by k_ne) rfl cP.f_enable (x_enable_n link) (x_enable_b link) (x_enable_x link) (x_enable_f link),rfl,e,.refl _ _,bk_en 0,qB.dt (m:=D+20) ?_ rfl⟩⟩⟩⟩;walk_nrm
   show Goes Tryz.prog false (Rl K (some i) ⟨aN,0⟩) DC0 _ _ _ _
   repeat w_go aR.rely
   u_leave0 Tryz.func65 aR.rely hF
   exact goes_pad (r _ hF) _
  |false=>
   have F:(bits .and .i32 (a6.enc {x.x with bC:=false}) 4==0)=true:=by
    rw[aS.Hq (x:={x.x with bC:=false}) (by have:=d.1;simp only;omega)];simp only[eA];rfl
   refine⟨(fw ⟨.u0,{x.x with bC:=false},g,j,l,n,o⟩,{x with x:={x.x with bC:=false}}),by simp only[mv];rw[aC s,aC (by simp[eA])];exact bK.2 rfl,λ_=>⟨_,_,_,stepG_add_atomic rfl rfl (by k_ne) rfl Tryz.func113 xk xl xm .i32 xn rfl rfl f (p.thaw 0),rfl,e,.set _ _ 0 _,aln _ _,?_⟩⟩;refine cq.dt (m:=180) ?_ (Xa _);simp only[kG,HB];have M:(a6.q {x.x with bC:=false})<31:=d.1;rw[a]at hF⊢;generalize aa:({x.x with bC:=false}:a6)=O at hF z L F M⊢;clear e f a s p aa;walk_nrm
   repeat w_go aR.rely
   u_call Tryz.func114 W2 Tryz.f114 aR.rely hF
   repeat w_bar aR.rely
   u_c stepG_loop aR.rely hF
   refine goes_le U (ali _ ?_ k ⟨.u0,O,g,j,l,n,o⟩ M hF);intro T k t w hF;obtain⟨pc,B,g,j,l,n,o⟩:=T;simp only at t;subst t;repeat w_go aR.rely
   refine Goes.stop (λ_ c=> ?_);replace hF:=aR.rely hF c;clear c;rcases k with _|k
   .rfl
   refine⟨rfl,rfl,rfl,ag,ag,λy e _ _=>⟨by simp[mv],λ_ _ _=>⟨(⟨.out,B,g,j,l,n,o⟩,y),by simp[mv],λ_=>⟨_,_,_,stepG_mark0 .enable ag rfl rfl (by k_ne) rfl cP.f_enable (x_enable_n link) (x_enable_b link) (x_enable_x link) (x_enable_f link),rfl,e,.refl _ _,bk_en 0,qB.dt (m:=D+20) ?_ rfl⟩⟩⟩⟩;walk_nrm
   show Goes Tryz.prog false (Rl K (some i) ⟨aN,0⟩) DC0 _ _ _ _
   repeat w_go aR.rely
   u_leave0 Tryz.func65 aR.rely hF
   exact goes_pad (r _ hF) _
end
end Go.bp
