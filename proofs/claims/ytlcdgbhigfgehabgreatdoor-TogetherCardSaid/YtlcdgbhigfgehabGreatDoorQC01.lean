import Derived.Test.YtlcdgbhigfgehabGreatDoorQA05
import Derived.Test.YtlcdgbhigfgehabGreatDoorQA14
import Derived.Test.YtlcdgbhigfgehabGreatDoorQC00
set_option linter.all false
set_option maxRecDepth 100000
set_option maxHeartbeats 16000000
namespace Go.bp
open Go Go.Conc Go.ConcN Go.RowKit Go.Conc.Lib Go.ConcR.Gen Go.Proofs Go.Ren
open Go.ConcR (KK rd wr mk DC0)
open Go.ConcM (OsLater goes_pad goes_le)
structure eU(own:Nat->Prop)(b o:Nat)(v:Int)(Z:ab->Prop)(w:ab):Prop where
 own:own b
 cell:w.cell? ⟨b,o,none⟩=some (.int .i32 v)
 thaw:w.frozen? ⟨b,o,none⟩=false
 z:Z w
def eU.mu{own:Nat->Prop}{b o:Nat}{v:Int}{Z:ab->Prop}{w:ab}(h:eU own b o v Z w):∃v:ai,w.cell? ⟨b,o,none⟩=some v:=⟨_,h.cell⟩
def eU.OV{own:Nat->Prop}{b o:Nat}{v:Int}{Z:ab->Prop}{w:ab}(h:eU own b o v Z w):∃v:Int,w.cell? ⟨b,o,none⟩=some (.int .i32 v):=⟨_,h.cell⟩
def alp{w:ab}{a:Addr}{v:ai}(h:w.cell? a=some v):a.block<w.heap.size:=by
 unfold World.cell? at h;split at h
 .rename_i o ap;exact(bQ.1 ap).1
 .cases h
def eU.rely{Rl:aM->ab->ab->Prop}{ro own:Nat->Prop}(a:∀s w al,Rl s w al->n3 s.own ro w al){Z:ab->Prop}(c:∀d w al,Rl ⟨own,d⟩ w al->Z w->Z al){b o:Nat}{v:Int}{d:Nat}{w al:ab}(h:eU own b o v Z w)(r:Rl ⟨own,d⟩ w al):eU own b o v Z al:=by
 have k:=(a _ _ _ r).kept b (alp h.cell) (.inl h.own);exact⟨h.own,by rw[<-h.cell];simp only[World.cell?];rw[k],by rw[<-h.thaw];simp only[World.frozen?];rw[k],c _ _ _ r h.z⟩
def rG{w:ab}{b o:Nat}{v u:ai}(a:w.cell? ⟨b,o,none⟩=some v)(c:w.frozen? ⟨b,o,none⟩=false):(w.setCell ⟨b,o,none⟩ u).cell? ⟨b,o,none⟩=some u/\(w.setCell ⟨b,o,none⟩ u).frozen? ⟨b,o,none⟩=false:=by
 unfold World.cell? at a;split at a
 .rename_i d;simp only[Option.isSome_none,ea,cY]at a;have e:=(bQ.1 a).1;rename_i x t z;have:(w.setCell ⟨b,o,none⟩ u).heap[b]? =some (.cells (x.setIfInBounds o u) t z):=by
   show(w.heap.modify _ _)[b]? =_
   rw[fA,d];simp
  refine⟨by simp[World.cell?,this,e],?_⟩;simp only[World.frozen?,this];simp only[World.frozen?,d]at c;exact c
 .cases a
def zV{ro:Nat->Prop}{s:aM}{a b:ab}{es:bI}(h:DC0 a b es):fs ro s s a b es:=by
 obtain⟨rfl,rfl⟩:=h;exact⟨rfl,rfl,rfl,bh _,bh _,λ_ _ _=>rfl,λb=>⟨.inl,λh=>h.elim id λh=>U⟩,λe c=>by simp at c,by simp[deafBehind]⟩
def Xc{ro own:Nat->Prop}(d:Nat)(w:ab):fs ro ⟨own,d⟩ ⟨own,d+1⟩ w w #[mk .disable]:=⟨rfl,rfl,rfl,bh _,bh _,λ_ _ _=>rfl,λb=>⟨.inl,λh=>h.elim id λh=>U⟩,λe a=>by simp at a;subst a;exact .inr (.inr (.inl rfl)),rfl⟩
def Xd{ro own:Nat->Prop}(d:Nat)(w:ab):fs ro ⟨own,d+1⟩ ⟨own,d⟩ w w #[mk .enable]:=⟨rfl,rfl,rfl,bh _,bh _,λ_ _ _=>rfl,λb=>⟨.inl,λh=>h.elim id λh=>U⟩,λe a=>by simp at a;subst a;exact .inr (.inr (.inr (.inl rfl))),rfl⟩
def alq{ro own:Nat->Prop}(d:Nat)(w:ab){a:Addr}(h:own a.block):fs ro ⟨own,d⟩ ⟨own,d⟩ w w #[mk (.acquire a)]:=⟨rfl,rfl,rfl,bh _,bh _,λ_ _ _=>rfl,λb=>⟨.inl,λh=>h.elim id λh=>U⟩,λe c=>by simp at c;subst c;exact .inr (.inr (.inr (.inr ⟨a,h,.inl rfl⟩))),rfl⟩
def alr{ro own:Nat->Prop}(d:Nat)(w:ab){a:Addr}(h:own a.block):fs ro ⟨own,d⟩ ⟨own,d⟩ w w #[mk (.releaseMerge a)]:=⟨rfl,rfl,rfl,bh _,bh _,λ_ _ _=>rfl,λb=>⟨.inl,λh=>h.elim id λh=>U⟩,λe c=>by simp at c;subst c;exact .inr (.inr (.inr (.inr ⟨a,h,.inr rfl⟩))),rfl⟩
def Xe{ro own:Nat->Prop}(d:Nat)(w:ab){a:Addr}(h:own a.block)(v:ai):fs ro ⟨own,d⟩ ⟨own,d⟩ w (w.setCell a v) #[(⟨.cell a,false,true⟩:Event),⟨.cell a,true,true⟩]:=by
 refine⟨rfl,rfl,rfl,by simp[World.setCell],bh _,λb _ f=> ?_,λb=>⟨.inl,λh=>h.elim id λh=>by simp[World.setCell]at h;omega⟩,λe c=>.inr (.inl ?_),rfl⟩
 .show(w.heap.modify _ _)[b]? =_
  rw[fA,aC (λ(e:a.block=b)=>f (e▸h))]
 .simp at c;rcases c with rfl|rfl<;>exact⟨a,h,rfl,rfl⟩
section
variable{Rl:aM->World->World->Prop}{ro own:Nat->Prop}{main':Bool}{Stop:aM->Goroutine->World->Prop}{d:Nat}
abbrev pC(Rl:aM->ab->ab->Prop)(ro:Nat->Prop)(main':Bool)(Stop:aM->aY->ab->Prop)(s:aM)(m:Nat)(g:aY)(w:ab):Prop:=Goes Tryz.prog main' (Rl s) DC0 (λg w=>a7 Tryz.prog main' Rl (fs ro) Stop s g w) m g w
def pC.cK(cF:kD Rl){s:aM}{m:Nat}{g:aY}{w:ab}(h:pC Rl ro main' Stop s m g w):a7 Tryz.prog main' Rl (fs ro) Stop s g w:=a7.bind cF (a7.wS (own:=s) (Gu:=fs ro) (λ_ _ r=>r) (λ_ _ _ h=>zV h) h) λ_ _ _ ⟨e,h⟩=>e▸h
variable{b₀:Frame}{a₀:Act}{ops₀:Array Oper}{i₀:Nat}{rest₀:List Nat}{k₀:List Item}{cs:List Frame}{b o:Nat}{s0 s3:World->Prop}
def ilock(cF:kD Rl)(f:∀{d w al},eU own b o 0 s0 w->Rl ⟨own,d⟩ w al->eU own b o 0 s0 al)(a:∀{d w al},eU own b o 1 s3 w->Rl ⟨own,d⟩ w al->eU own b o 1 s3 al)(h:∀w,eU own b o 0 s0 w->s3 (w.setCell ⟨b,o,none⟩ (.int .i32 1)))(i:∀w,eU own b o 1 s3 w->a7 Tryz.prog main' Rl (fs ro) Stop ⟨own,d⟩ (G (b₀.at (a₀.put ((ops₀[i₀]?).bind (·.dst)) (.tuple #[])) (.inRegion ops₀ rest₀::k₀)) cs) w): ∀w,eU own b o 0 s0 w->a7 Tryz.prog main' Rl (fs ro) Stop ⟨own,d⟩ (G ((base 64).at ⟨#[.pointer (some ⟨b,o,none⟩),I,I,I,I,I,I,I,I,I,I,I,I],[]⟩ [.code (Tryz.f64.body.getD .skip)]) (b₀.at a₀ (.inRegion ops₀ (i₀::rest₀)::k₀)::cs)) w:=by
 intro w hF;refine pC.cK (m:=30) cF ?_;simp only[Tryz.f64,e2];repeat w_go f
 refine Goes.stop (λcO c=>a7.fW rfl λal e=> ?_);replace hF:=f hF (cF.trans _ _ _ _ c e);clear c e;refine⟨⟨own,d+1⟩,_,_,_,stepG_mark0 .disable ag rfl rfl (by k_ne) rfl cP.f_disable (x_disable_n link) (x_disable_b link) (x_disable_x link) (x_disable_f link),Xc d _,pC.cK (m:=30) cF ?_⟩;walk_nrm
 repeat w_go f
 refine Goes.stop (λcO c=>a7.fW rfl λal e=> ?_);replace hF:=f hF (cF.trans _ _ _ _ c e);clear c e;have g:=hF.cell;refine⟨⟨own,d+1⟩,_,_,_,stepG_cas_hit rfl rfl (by k_ne) rfl Tryz.func111 qx qy qz .i32 qA rfl rfl rfl g hF.thaw,Xe (d+1) _ hF.own _,pC.cK (m:=30) cF ?_⟩;replace hF:eU own b o 1 s3 _:=⟨hF.own,(rG g hF.thaw).1,(rG g hF.thaw).2,h _ hF⟩;clear g;walk_nrm
 repeat w_go a
 refine Goes.stop (λcO c=>a7.fW rfl λal e=> ?_);replace hF:=a hF (cF.trans _ _ _ _ c e);clear c e;refine⟨⟨own,d⟩,_,_,_,stepG_mark0 .enable ag rfl rfl (by k_ne) rfl cP.f_enable (x_enable_n link) (x_enable_b link) (x_enable_x link) (x_enable_f link),Xd d _,pC.cK (m:=30) cF ?_⟩;walk_nrm
 repeat w_go a
 m_convG Tryz.prog cP.underlying_tUP Dk Dl hF.mu.choose_spec a hF
 refine Goes.stop (λcO c=>a7.fW rfl λal e=> ?_);replace hF:=a hF (cF.trans _ _ _ _ c e);clear c e;refine⟨⟨own,d⟩,_,_,_,stepG_markAt .acquire ag rfl rfl (by k_ne) rfl cP.f_acquire (x_acquire_n link) (x_acquire_b link) (x_acquire_x link) (x_acquire_f link) (by simp[Act.eval];rfl),alq d _ hF.own,pC.cK (m:=30) cF ?_⟩;walk_nrm
 repeat w_go a
 u_leave0 Tryz.func64 a hF
 exact Goes.stop λcO c=>i _ (a hF c)
def iunlock(cF:kD Rl)(a:∀{d w al},eU own b o 1 s3 w->Rl ⟨own,d⟩ w al->eU own b o 1 s3 al)(e:∀{d w al},eU own b o 0 s0 w->Rl ⟨own,d⟩ w al->eU own b o 0 s0 al)(j:∀w,eU own b o 1 s3 w->s0 (w.setCell ⟨b,o,none⟩ (.int .i32 0)))(k:∀w,eU own b o 0 s0 w->a7 Tryz.prog main' Rl (fs ro) Stop ⟨own,d⟩ (G (b₀.at (a₀.put ((ops₀[i₀]?).bind (·.dst)) (.tuple #[])) (.inRegion ops₀ rest₀::k₀)) cs) w): ∀w,eU own b o 1 s3 w->a7 Tryz.prog main' Rl (fs ro) Stop ⟨own,d⟩ (G ((base 65).at ⟨#[.pointer (some ⟨b,o,none⟩),I,I,I,I,I,I,I,I,I,I,I,I,I,I,I,I,I,I,I,I],[]⟩ [.code (Tryz.f65.body.getD .skip)]) (b₀.at a₀ (.inRegion ops₀ (i₀::rest₀)::k₀)::cs)) w:=by
 intro w hF;refine pC.cK (m:=40) cF ?_;simp only[Tryz.f65,e2];repeat w_go a
 u_in a hF
 have⟨x0,g⟩:=hF.OV;rw[u7 rfl rfl (by k_ne) rfl rfl g W6];simp only[goes_go];refine⟨by u_nil,?_⟩;clear g;walk_nrm
 repeat w_go a
 m_convG Tryz.prog cP.underlying_tUP Dk Dl hF.mu.choose_spec a hF
 refine Goes.stop (λcO c=>a7.fW rfl λal f=> ?_);replace hF:=a hF (cF.trans _ _ _ _ c f);clear c f;refine⟨⟨own,d⟩,_,_,_,stepG_markAt .releaseMerge ag rfl rfl (by k_ne) rfl cP.f_relMerge (x_relMerge_n link) (x_relMerge_b link) (x_relMerge_x link) (x_relMerge_f link) (by simp[Act.eval];rfl),alr d _ hF.own,pC.cK (m:=30) cF ?_⟩;walk_nrm
 repeat w_go a
 refine Goes.stop (λcO c=>a7.fW rfl λal f=> ?_);replace hF:=a hF (cF.trans _ _ _ _ c f);clear c f;refine⟨⟨own,d+1⟩,_,_,_,stepG_mark0 .disable ag rfl rfl (by k_ne) rfl cP.f_disable (x_disable_n link) (x_disable_b link) (x_disable_x link) (x_disable_f link),Xc d _,pC.cK (m:=30) cF ?_⟩;walk_nrm
 repeat w_go a
 refine Goes.stop (λcO c=>a7.fW rfl λal f=> ?_);replace hF:=a hF (cF.trans _ _ _ _ c f);clear c f;have h:=hF.cell;have i:IntKind.i32.wrap (1+ -1)=0:=aE;refine⟨⟨own,d+1⟩,_,_,_,stepG_add_atomic rfl rfl (by k_ne) rfl Tryz.func113 xk xl xm .i32 xn rfl rfl h hF.thaw,Xe (d+1) _ hF.own _,pC.cK (m:=40) cF ?_⟩;rw[i];replace hF:eU own b o 0 s0 _:=⟨hF.own,(rG h hF.thaw).1,(rG h hF.thaw).2,j _ hF⟩;clear h i;walk_nrm
 repeat w_go e
 refine Goes.stop (λcO c=>a7.fW rfl λal f=> ?_);replace hF:=e hF (cF.trans _ _ _ _ c f);clear c f;refine⟨⟨own,d⟩,_,_,_,stepG_mark0 .enable ag rfl rfl (by k_ne) rfl cP.f_enable (x_enable_n link) (x_enable_b link) (x_enable_x link) (x_enable_f link),Xd d _,pC.cK (m:=30) cF ?_⟩;walk_nrm
 repeat w_go e
 u_leave0 Tryz.func65 e hF
 exact Goes.stop λcO c=>k _ (e hF c)
end
end Go.bp
namespace Go.bp
open Go Go.Conc Go.ConcN Go.Conc.Lib Go.Proofs Go.Ren
variable{wa:(List Item->Prop)×Nat}

theorem Xf(a:aQ):∃v1 v2 bA v4 aX e,a++Array.replicate (6 - a.size) I=⟨a.getD 0 I::v1::v2::bA::v4::aX::e⟩:=by
 obtain⟨l⟩:=a;rcases l with _|⟨x0,_|⟨x1,_|⟨b,_|⟨kv,_|⟨c,_|⟨d,l⟩⟩⟩⟩⟩⟩
 .exact⟨_,_,_,_,_,_,rfl⟩
 .exact⟨_,_,_,_,_,_,rfl⟩
 .exact⟨_,_,_,_,_,_,rfl⟩
 .exact⟨_,_,_,_,_,_,rfl⟩
 .exact⟨_,_,_,_,_,_,rfl⟩
 .exact⟨_,_,_,_,_,_,rfl⟩
 .refine⟨x1,b,kv,c,d,l,?_⟩;have:6 - (Array.mk (x0::x1::b::kv::c::d::l)).size=0:=ag;rw[this];simp
def rH(n:FuncId)(kd:CallKind)(bE v1 v2 bA v4 aX:ai)(e:bJ)(nW:eQ):bY:={fn:=n,tmps:=⟨bE::v1::v2::bA::v4::aX::e⟩,todo:=nW,defers:=[],mode:=.run,kind:=kd}
def PB(n:FuncId)(kd:CallKind):bY:={fn:=n,tmps:= #[],todo:=[],defers:=[],mode:=.run,kind:=kd}
def opsOf:Code->dn
 |.region _ ops _=>ops
 |_=> #[]
noncomputable def qC:dn:=opsOf (Tryz.f34.body.getD .skip)
noncomputable def qD:dn:=opsOf (Tryz.f35.body.getD .skip)
theorem bR.rG{C:bf}{R:Nat->Prop}{f:Ren}{w w':ab}(n:bR C R f w w'){b k o:Nat}(e:f b=some k){v:ai}(g:w.cell? ⟨b,o,none⟩=some v)(h:w.frozen? ⟨b,o,none⟩=false){u d:ai}(s:aB C.fn f u d): bR C R f (w.setCell ⟨b,o,none⟩ u) (w'.setCell ⟨k,o,none⟩ d)/\¬R b/\w'.frozen? ⟨k,o,none⟩=false:=by
 have⟨p,B,a,j,l⟩:=n.obj _ _ e;rcases l with⟨_,x,ak,t,D,rfl,rfl,q⟩|⟨r,l⟩
 .exfalso;simp only[World.cell?,a,Option.isSome_none,ea,cY]at g;have m:=(bQ.1 g).1;simp[World.frozen?,a]at h;omega
 .cases l with
  |@cells x ak t z q=>
   have m:=(bQ.1 a).1;have c:=(bQ.1 j).1;have y:w.setCell ⟨b,o,none⟩ u={w with heap:=w.heap.setIfInBounds b (.cells (x.setIfInBounds o u) t z)}:=by
    unfold World.setCell;congr 1;apply uI;intro i;rw[fA,hL];by_cases af:b=i
    .subst af;rw[a];simp[m]
    .simp[af]
   have A:w'.setCell ⟨k,o,none⟩ d={w' with heap:=w'.heap.setIfInBounds k (.cells (ak.setIfInBounds o d) t z)}:=by
    unfold World.setCell;congr 1;apply uI;intro i;rw[fA,hL];by_cases af:k=i
    .subst af;rw[j];simp[c]
    .simp[af]
   rw[y,A];refine⟨(n.put e r (eR.cells t z (q.set o s)) _ _ ag ag (by simp[m]) (by simp[c]) (λi af=>by simp[hL,ed af]) (λi af=>by simp[hL,ed af]) [] ag).1,r,?_⟩;simp only[World.frozen?,a]at h;simp only[World.frozen?,j];exact h
  |_=>simp[World.cell?,a]at g
theorem Xg{C:bf}{f:Ren}{a a':aQ}(h:aZ C.fn f a a'):aB C.fn f (a.getD 0 I) (a'.getD 0 I)\/(a.getD 0 I=I):=by
 cases he:a[0]? with
 |none=>exact .inr (by simp[nM,he])
 |some v=>
  have⟨v',b,c⟩:=h.some he;exact .inl (by simpa[nM,he,b]using c)
theorem Xh{C:bf}{f:Ren}{a a':aQ}(d:aZ C.fn f a a'):∀p,a.getD 0 I=.pointer (some p)->∃b,f p.block=some b:=λp c=>by
 rcases Xg d with h|h
 .rw[c]at h;revert h;generalize a'.getD 0 I=z;intro h;cases h with|ptr e=>exact⟨_,e⟩
 .rw[c]at h;cases h
theorem Xi{C:bf}{f:Ren}{a a':aQ}(c:aZ C.fn f a a'){p:Addr}(b:a.getD 0 I=.pointer (some p)):∃k,f p.block=some k/\a'.getD 0 I=.pointer (some {p with block:=k}):=by
 rcases Xg c with h|h
 .rw[b]at h;revert h;generalize a'.getD 0 I=z;intro h;cases h with|ptr e=>exact⟨_,e,rfl⟩
 .rw[b]at h;cases h
theorem Xj{w:ab}{b o:Nat}{c:Option Nat}{v:ai}(a:w.cell? ⟨b,o,c⟩=some v):c=none:=by
 unfold World.cell? at a;split at a
 .split at a
  .cases a
  .rename_i d;simpa using d
 .cases a
theorem HC{P:bF}{main:Bool}{x:bY}{cs:bW}{F:Func}(a:x.mode=.returning)(hd:x.defers=[])(hF:P.funcs[x.fn]? =some F)(b:F.results= #[])(hk:x.kind=.normal\/x.kind=.deferred)(c:cs≠[])(w:ab): stepG P main (aJ x cs) w=.go (gP x cs (.tuple #[])) w #[]:=by
 have d:(results F x.tmps).runT P w #[]=(.ok (.tuple #[]) w,#[]):=(by rw[Sem.runT_eq,results_none b,events_results_none b]);have e:stepG P main (aJ x cs) w=unwind P main x cs none w:=(by unfold stepG aJ;simp only[a]);rw[e];unfold unwind;rw[hd];simp only[a,hF,d];rw[uP hk c];rfl
theorem n5{P:bF}{main:Bool}{Rl:aM->ab->ab->Prop}{ro:Nat->Prop}{Stop:aM->aY->ab->Prop}{s:aM}{x x1:bY}{cs a:bW}{w:ab}(h:∀w,stepG P main (aJ x cs) w=.go (aJ x1 a) w #[])(hk:∀al,Rl s w al->a7 P main Rl (fs ro) Stop s (aJ x1 a) al):a7 P main Rl (fs ro) Stop s (aJ x cs) w:=.one (F:=id) (E:=λ_=> #[]) (own':=s) rfl (λ_ _=>h _) (λ_ _=>zV ⟨rfl,rfl⟩) hk
theorem Xk{ro':Bool}{R:Nat->Prop}{J:Ren->ab->ab->Prop}{dz:Nat}{tail:bW}{f:Ren}{wl u w:ab}{n:FuncId}{a:aQ}{kd:CallKind}{cs cs':bW}{x0 y ak:bY}(g:Frame.enter aj.prog n a kd=x0)(h:qt aj.prog n 17 x0 (cs++ [d0 aj.prog]) wl y (cs++ [d0 aj.prog]) u)(x:y.fn=n)(k:∀w,stepG aj.prog true (aJ y (cs++ [d0 aj.prog])) w=.go (gP y (cs++ [d0 aj.prog]) (.tuple #[])) w #[])(hk:y.kind=kd)(p:ak.kind=kd)(hkd:kd=.normal\/kd=.deferred)(z:cy (bV (cT wa ro') f) cs cs')(q:cs≠[])(A:bR (cT wa ro') R f u w)(B:J f u w)(C:u.heap.size=wl.heap.size): hA (cT wa ro') R J dz tail f wl n a kd cs ⟨cV R f,dz⟩ (gP ak (cs'++tail) (.tuple #[])) w:=by
 refine⟨rfl,λ_=>Iff.rfl,?_⟩;have⟨s,D⟩:=h.run;cases z with
 |nil=>exact absurd rfl q
 |@cons c E rest b t e=>
  have r:∃l m,gP y (c::rest++ [d0 aj.prog]) (.tuple #[])=aJ l (rest++ [d0 aj.prog])/\gP ak (E::b++tail) (.tuple #[])=aJ m (b++tail)/\bV (cT wa ro') f l m:=by
   unfold gP;simp only[oa];rw[hk,p];rcases hkd with rfl|rfl
   .exact⟨_,_,rfl,rfl,t.finish (.tuple rfl λi v v' h=>by simp at h)⟩
   .exact⟨_,_,rfl,rfl,VI t⟩
  obtain⟨l,m,F,G,H⟩:=r;refine⟨18,l,m,rest,b,u,U,λT d=> ?_,λT d j aa K L M o=> ?_,G,H,e,A,B,C⟩
  .show runN aj.prog 18 (lone (Frame.enter aj.prog n a kd) (c::rest++ [d0 aj.prog]) (a2 wl T d))=_
   rw[g];refine(uS (s T d)).trans (y8 (es:= #[]) ?_);rw[k,F];rfl
  .change runN aj.prog j (lone (Frame.enter aj.prog n a kd) (c::rest++ [d0 aj.prog]) (a2 wl T d))=_ at o;rw[g]at o;rcases dH j 17 with h|h
   .exact D T d j h _ _ _ o
   .have:j=17:=U;subst this;have:=(s T d).symm.trans o;injection this with this;rw[<-(uT this).1];exact x
section
variable{main':Bool}
section
variable(kd:CallKind)(v1 v2 bA v4 aX:Value)(b o:Nat)(e:List Value)(cs:List Frame)(w:World)(hkd:kd=.normal\/kd=.deferred)
abbrev s4(v2 bA v4 aX:ai)(nW:eQ):bY:=rH 34 kd (.pointer (some ⟨b,o,none⟩)) v1 v2 bA v4 aX e nW
abbrev Xl:Act:=⟨⟨.pointer (some ⟨b,o,none⟩)::v1::.pointer (some ⟨b,o,none⟩)::.pointer (some ⟨b,o,none⟩)::.pointer (some ⟨b,o,none⟩)::aX::e⟩,[]⟩
theorem als:stepG Tryz.prog main' (aJ (s4 kd v1 b o e v2 bA v4 aX [.code (Tryz.f34.body.getD .skip)]) cs) w=.go (aJ (s4 kd v1 b o e v2 bA v4 aX [.inRegion qC [0,1,2,3]]) cs) w #[]:=ah
include hkd
theorem alt:stepG Tryz.prog main' (aJ (s4 kd v1 b o e v2 bA v4 aX [.inRegion qC [0,1,2,3]]) cs) w=.go (aJ (s4 kd v1 b o e (.pointer (some ⟨b,o,none⟩)) bA v4 aX [.inRegion qC [1,2,3]]) cs) w #[]:=by rcases hkd with rfl|rfl<;>kernel_rfl
theorem alu:stepG Tryz.prog main' (aJ (s4 kd v1 b o e (.pointer (some ⟨b,o,none⟩)) bA v4 aX [.inRegion qC [1,2,3]]) cs) w=.go (aJ (s4 kd v1 b o e (.pointer (some ⟨b,o,none⟩)) (.pointer (some ⟨b,o,none⟩)) v4 aX [.inRegion qC [2,3]]) cs) w #[]:=by rcases hkd with rfl|rfl<;>kernel_rfl
theorem alv:stepG Tryz.prog main' (aJ (s4 kd v1 b o e (.pointer (some ⟨b,o,none⟩)) (.pointer (some ⟨b,o,none⟩)) v4 aX [.inRegion qC [2,3]]) cs) w=.go (aJ (rH 34 kd (.pointer (some ⟨b,o,none⟩)) v1 (.pointer (some ⟨b,o,none⟩)) (.pointer (some ⟨b,o,none⟩)) (.pointer (some ⟨b,o,none⟩)) aX e [.inRegion qC [3]]) cs) w #[]:=by rcases hkd with rfl|rfl<;>kernel_rfl
theorem alw:stepG Tryz.prog main' (aJ (rH 34 kd (.pointer (some ⟨b,o,none⟩)) v1 (.pointer (some ⟨b,o,none⟩)) (.pointer (some ⟨b,o,none⟩)) (.pointer (some ⟨b,o,none⟩)) aX e [.inRegion qC [3]]) cs) w=.go (G ((base 64).at ⟨#[.pointer (some ⟨b,o,none⟩),I,I,I,I,I,I,I,I,I,I,I,I],[]⟩ [.code (Tryz.f64.body.getD .skip)]) ((PB 34 kd).at (Xl v1 aX b o e) [.inRegion qC [3]]::cs)) w #[]:=by rcases hkd with rfl|rfl<;>kernel_rfl
omit hkd in
theorem alx:stepG Tryz.prog main' (G ((PB 34 kd).at (Act.put (Xl v1 aX b o e) ((qC[3]?).bind (·.dst)) (.tuple #[])) [.inRegion qC []]) cs) w=.go (aJ (rH 34 kd (.pointer (some ⟨b,o,none⟩)) v1 (.pointer (some ⟨b,o,none⟩)) (.pointer (some ⟨b,o,none⟩)) (.pointer (some ⟨b,o,none⟩)) (.tuple #[]) e []) cs) w #[]:=ah
omit hkd in
theorem aly(v2 bA v4 aX:ai):stepG Tryz.prog main' (aJ (s4 kd v1 b o e v2 bA v4 aX []) cs) w=.go (aJ {s4 kd v1 b o e v2 bA v4 aX []with mode:=.returning} cs) w #[]:=ah
end
theorem alz{kd:CallKind}(hkd:kd=.normal\/kd=.deferred){ro':Bool}{R:Nat->Prop}{Rl:aM->ab->ab->Prop}{ro:Nat->Prop}{dz:Nat}{tail:bW}(cF:kD Rl)(c:∀s w al,Rl s w al->n3 s.own ro w al){f:Ren}{wl w':ab}{a a':aQ}{cs cs':bW}(P:aZ (cT wa ro').fn f a a')(Q:cy (bV (cT wa ro') f) cs cs')(t:cs≠[])(D:bR (cT wa ro') R f wl w')(X:∀b,ft R f b->ro b): (∃m,(∀T d,∃o w2,runN aj.prog m (lone (Frame.enter aj.prog 34 a kd) (cs++ [d0 aj.prog]) (a2 wl T d))=.ended o w2)/\∀T d j,j<m->∀S Y az,runN aj.prog j (lone (Frame.enter aj.prog 34 a kd) (cs++ [d0 aj.prog]) (a2 wl T d))=.next (lone S Y az)->S.fn=34)\/a7 Tryz.prog main' Rl (fs ro) (hA (cT wa ro') R (λ_ _ _=>True) dz tail f wl 34 a kd cs) ⟨cV R f,dz⟩ (aJ (Frame.enter Tryz.prog 34 a' kd) (cs'++tail)) w':=by
 have⟨v1,v2,bA,v4,aX,v6,e,Z⟩:=WL a;have⟨g,aa,G,v,l,i,J⟩:=Xf a';have x:Frame.enter aj.prog 34 a kd=oM 34 kd (a.getD 0 I) v1 v2 bA v4 aX v6 e [.code (aj.swap 0 1)]:=(by rw[show Frame.enter aj.prog 34 a kd={fn:=34,tmps:=a++Array.replicate (7 - a.size) I,todo:=[.code (aj.swap 0 1)],defers:=[],mode:=.run,kind:=kd} by kernel_rfl,Z];rfl);have K:Frame.enter Tryz.prog 34 a' kd=rH 34 kd (a'.getD 0 I) g aa G v l i [.code (Tryz.f34.body.getD .skip)]:=(by rw[show Frame.enter Tryz.prog 34 a' kd={fn:=34,tmps:=a'++Array.replicate (6 - a'.size) I,todo:=[.code (Tryz.f34.body.getD .skip)],defers:=[],mode:=.run,kind:=kd} by kernel_rfl,J];rfl);rcases stub 34 kd 0 1 (a.getD 0 I) v1 v2 bA v4 aX v6 e (cs++ [d0 aj.prog]) hkd ag (C:=cT wa ro') rfl D (Xh P)with hd|⟨p,b8,H,V,y⟩
 .rw[<-x]at hd;exact .inl hd.run
 .right;have⟨k,hk,A⟩:=Xi P b8;obtain⟨W,o,sp⟩:=p;obtain rfl:sp=none:=Xj H;simp only at hk A;have⟨o3,L,M⟩:=bR.rG D hk H V (aB.int .i32 1);have⟨v',N,O⟩:=D.cell hk H;cases O;have rel:∀{d w al}{u:ab},Rl ⟨cV R f,d⟩ w al->bR (cT wa ro') R f u w->bR (cT wa ro') R f u al:=λr h=>h.rely ⟨(c _ _ _ r).tape,(c _ _ _ r).env,(c _ _ _ r).size,λb bD cb=>(c _ _ _ r).kept b bD (cb.imp id (X b))⟩;have hF:eU (cV R f) k o 0 (λw=>bR (cT wa ro') R f wl w) w':=⟨⟨_,hk,L⟩,N,M,D⟩;rw[K,A];have n:∀{d w al},eU (cV R f) k o 0 (λw=>bR (cT wa ro') R f wl w) w->Rl ⟨cV R f,d⟩ w al->eU (cV R f) k o 0 (λw=>bR (cT wa ro') R f wl w) al:=λh r=>h.rely c (λd w al q h=>rel q h) r;have B:∀{d w al},eU (cV R f) k o 1 (λw=>bR (cT wa ro') R f (wl.setCell ⟨W,o,none⟩ (.int .i32 1)) w) w->Rl ⟨cV R f,d⟩ w al->eU (cV R f) k o 1 (λw=>bR (cT wa ro') R f (wl.setCell ⟨W,o,none⟩ (.int .i32 1)) w) al:=λh r=>h.rely c (λd w al q h=>rel q h) r;refine n5 (λw=>als kd g aa G v l k o i (cs'++tail) w) λw1 q=> ?_;replace hF:=n hF q;refine n5 (λw=>alt kd g aa G v l k o i (cs'++tail) w hkd) λw2 q=> ?_;replace hF:=n hF q;refine n5 (λw=>alu kd g G v l k o i (cs'++tail) w hkd) λaz q=> ?_;replace hF:=n hF q;refine n5 (λw=>alv kd g v l k o i (cs'++tail) w hkd) λw4 q=> ?_;replace hF:=n hF q;refine n5 (λw=>alw kd g l k o i (cs'++tail) w hkd) λcU q=> ?_;replace hF:=n hF q;refine ilock cF n B (λw h=>(bR.rG h.z hk H V (aB.int .i32 1)).1) (λw hF=> ?_) _ hF;refine n5 (λw=>alx kd g l k o i (cs'++tail) w) λcI q=> ?_;replace hF:=B hF q;refine n5 (λw=>aly kd g k o i (cs'++tail) w _ _ _ _) λef q=> ?_;replace hF:=B hF q;refine .one (F:=id) (E:=λ_=> #[]) (own':=⟨cV R f,dz⟩) rfl (λw _=>HC rfl rfl Tryz.func34 rfl hkd (by simpa using λh=>absurd (by cases Q<;>simp_all) t) w) (λ_ _=>zV ⟨rfl,rfl⟩) λfE q=> ?_;replace hF:=B hF q;refine .stop λg6 q=> ?_;replace hF:=B hF q;exact Xk x y rfl (λw=>HC rfl rfl (F:=aj.Ay) ah ah hkd ag w) rfl rfl hkd Q t hF.z trivial (by simp[World.setCell])
section
variable(kd:CallKind)(v1 v2 bA v4 aX:Value)(b o:Nat)(e:List Value)(cs:List Frame)(w:World)(hkd:kd=.normal\/kd=.deferred)
abbrev s5(v2 bA v4 aX:ai)(nW:eQ):bY:=rH 35 kd (.pointer (some ⟨b,o,none⟩)) v1 v2 bA v4 aX e nW
abbrev Xm:Act:=⟨⟨.pointer (some ⟨b,o,none⟩)::v1::.pointer (some ⟨b,o,none⟩)::.pointer (some ⟨b,o,none⟩)::.pointer (some ⟨b,o,none⟩)::aX::e⟩,[]⟩
theorem alA:stepG Tryz.prog main' (aJ (s5 kd v1 b o e v2 bA v4 aX [.code (Tryz.f35.body.getD .skip)]) cs) w=.go (aJ (s5 kd v1 b o e v2 bA v4 aX [.inRegion qD [0,1,2,3]]) cs) w #[]:=ah
include hkd
theorem alB:stepG Tryz.prog main' (aJ (s5 kd v1 b o e v2 bA v4 aX [.inRegion qD [0,1,2,3]]) cs) w=.go (aJ (s5 kd v1 b o e (.pointer (some ⟨b,o,none⟩)) bA v4 aX [.inRegion qD [1,2,3]]) cs) w #[]:=by rcases hkd with rfl|rfl<;>kernel_rfl
theorem alC:stepG Tryz.prog main' (aJ (s5 kd v1 b o e (.pointer (some ⟨b,o,none⟩)) bA v4 aX [.inRegion qD [1,2,3]]) cs) w=.go (aJ (s5 kd v1 b o e (.pointer (some ⟨b,o,none⟩)) (.pointer (some ⟨b,o,none⟩)) v4 aX [.inRegion qD [2,3]]) cs) w #[]:=by rcases hkd with rfl|rfl<;>kernel_rfl
theorem alD:stepG Tryz.prog main' (aJ (s5 kd v1 b o e (.pointer (some ⟨b,o,none⟩)) (.pointer (some ⟨b,o,none⟩)) v4 aX [.inRegion qD [2,3]]) cs) w=.go (aJ (rH 35 kd (.pointer (some ⟨b,o,none⟩)) v1 (.pointer (some ⟨b,o,none⟩)) (.pointer (some ⟨b,o,none⟩)) (.pointer (some ⟨b,o,none⟩)) aX e [.inRegion qD [3]]) cs) w #[]:=by rcases hkd with rfl|rfl<;>kernel_rfl
theorem alE:stepG Tryz.prog main' (aJ (rH 35 kd (.pointer (some ⟨b,o,none⟩)) v1 (.pointer (some ⟨b,o,none⟩)) (.pointer (some ⟨b,o,none⟩)) (.pointer (some ⟨b,o,none⟩)) aX e [.inRegion qD [3]]) cs) w=.go (G ((base 65).at ⟨#[.pointer (some ⟨b,o,none⟩),I,I,I,I,I,I,I,I,I,I,I,I,I,I,I,I,I,I,I,I],[]⟩ [.code (Tryz.f65.body.getD .skip)]) ((PB 35 kd).at (Xm v1 aX b o e) [.inRegion qD [3]]::cs)) w #[]:=by rcases hkd with rfl|rfl<;>kernel_rfl
omit hkd in
theorem alF:stepG Tryz.prog main' (G ((PB 35 kd).at (Act.put (Xm v1 aX b o e) ((qD[3]?).bind (·.dst)) (.tuple #[])) [.inRegion qD []]) cs) w=.go (aJ (rH 35 kd (.pointer (some ⟨b,o,none⟩)) v1 (.pointer (some ⟨b,o,none⟩)) (.pointer (some ⟨b,o,none⟩)) (.pointer (some ⟨b,o,none⟩)) (.tuple #[]) e []) cs) w #[]:=ah
omit hkd in
theorem alG(v2 bA v4 aX:ai):stepG Tryz.prog main' (aJ (s5 kd v1 b o e v2 bA v4 aX []) cs) w=.go (aJ {s5 kd v1 b o e v2 bA v4 aX []with mode:=.returning} cs) w #[]:=ah
end
theorem alH{kd:CallKind}(hkd:kd=.normal\/kd=.deferred){ro':Bool}{R:Nat->Prop}{Rl:aM->ab->ab->Prop}{ro:Nat->Prop}{dz:Nat}{tail:bW}(cF:kD Rl)(c:∀s w al,Rl s w al->n3 s.own ro w al){f:Ren}{wl w':ab}{a a':aQ}{cs cs':bW}(P:aZ (cT wa ro').fn f a a')(Q:cy (bV (cT wa ro') f) cs cs')(t:cs≠[])(D:bR (cT wa ro') R f wl w')(X:∀b,ft R f b->ro b): (∃m,(∀T d,∃o w2,runN aj.prog m (lone (Frame.enter aj.prog 35 a kd) (cs++ [d0 aj.prog]) (a2 wl T d))=.ended o w2)/\∀T d j,j<m->∀S Y az,runN aj.prog j (lone (Frame.enter aj.prog 35 a kd) (cs++ [d0 aj.prog]) (a2 wl T d))=.next (lone S Y az)->S.fn=35)\/a7 Tryz.prog main' Rl (fs ro) (hA (cT wa ro') R (λ_ _ _=>True) dz tail f wl 35 a kd cs) ⟨cV R f,dz⟩ (aJ (Frame.enter Tryz.prog 35 a' kd) (cs'++tail)) w':=by
 have⟨v1,v2,bA,v4,aX,v6,e,Z⟩:=WL a;have⟨g,aa,G,v,l,i,J⟩:=Xf a';have x:Frame.enter aj.prog 35 a kd=oM 35 kd (a.getD 0 I) v1 v2 bA v4 aX v6 e [.code (aj.swap 1 0)]:=(by rw[show Frame.enter aj.prog 35 a kd={fn:=35,tmps:=a++Array.replicate (7 - a.size) I,todo:=[.code (aj.swap 1 0)],defers:=[],mode:=.run,kind:=kd} by kernel_rfl,Z];rfl);have K:Frame.enter Tryz.prog 35 a' kd=rH 35 kd (a'.getD 0 I) g aa G v l i [.code (Tryz.f35.body.getD .skip)]:=(by rw[show Frame.enter Tryz.prog 35 a' kd={fn:=35,tmps:=a'++Array.replicate (6 - a'.size) I,todo:=[.code (Tryz.f35.body.getD .skip)],defers:=[],mode:=.run,kind:=kd} by kernel_rfl,J];rfl);rcases stub 35 kd 1 0 (a.getD 0 I) v1 v2 bA v4 aX v6 e (cs++ [d0 aj.prog]) hkd ag (C:=cT wa ro') rfl D (Xh P)with hd|⟨p,b8,H,V,y⟩
 .rw[<-x]at hd;exact .inl hd.run
 .right;have⟨k,hk,A⟩:=Xi P b8;obtain⟨W,o,sp⟩:=p;obtain rfl:sp=none:=Xj H;simp only at hk A;have⟨o3,L,M⟩:=bR.rG D hk H V (aB.int .i32 0);have⟨v',N,O⟩:=D.cell hk H;cases O;have rel:∀{d w al}{u:ab},Rl ⟨cV R f,d⟩ w al->bR (cT wa ro') R f u w->bR (cT wa ro') R f u al:=λr h=>h.rely ⟨(c _ _ _ r).tape,(c _ _ _ r).env,(c _ _ _ r).size,λb bD cb=>(c _ _ _ r).kept b bD (cb.imp id (X b))⟩;have hF:eU (cV R f) k o 1 (λw=>bR (cT wa ro') R f wl w) w':=⟨⟨_,hk,L⟩,N,M,D⟩;rw[K,A];have n:∀{d w al},eU (cV R f) k o 1 (λw=>bR (cT wa ro') R f wl w) w->Rl ⟨cV R f,d⟩ w al->eU (cV R f) k o 1 (λw=>bR (cT wa ro') R f wl w) al:=λh r=>h.rely c (λd w al q h=>rel q h) r;have B:∀{d w al},eU (cV R f) k o 0 (λw=>bR (cT wa ro') R f (wl.setCell ⟨W,o,none⟩ (.int .i32 0)) w) w->Rl ⟨cV R f,d⟩ w al->eU (cV R f) k o 0 (λw=>bR (cT wa ro') R f (wl.setCell ⟨W,o,none⟩ (.int .i32 0)) w) al:=λh r=>h.rely c (λd w al q h=>rel q h) r;refine n5 (λw=>alA kd g aa G v l k o i (cs'++tail) w) λw1 q=> ?_;replace hF:=n hF q;refine n5 (λw=>alB kd g aa G v l k o i (cs'++tail) w hkd) λw2 q=> ?_;replace hF:=n hF q;refine n5 (λw=>alC kd g G v l k o i (cs'++tail) w hkd) λaz q=> ?_;replace hF:=n hF q;refine n5 (λw=>alD kd g v l k o i (cs'++tail) w hkd) λw4 q=> ?_;replace hF:=n hF q;refine n5 (λw=>alE kd g l k o i (cs'++tail) w hkd) λcU q=> ?_;replace hF:=n hF q;refine iunlock cF n B (λw h=>(bR.rG h.z hk H V (aB.int .i32 0)).1) (λw hF=> ?_) _ hF;refine n5 (λw=>alF kd g l k o i (cs'++tail) w) λcI q=> ?_;replace hF:=B hF q;refine n5 (λw=>alG kd g k o i (cs'++tail) w _ _ _ _) λef q=> ?_;replace hF:=B hF q;refine .one (F:=id) (E:=λ_=> #[]) (own':=⟨cV R f,dz⟩) rfl (λw _=>HC rfl rfl Tryz.func35 rfl hkd (by simpa using λh=>absurd (by cases Q<;>simp_all) t) w) (λ_ _=>zV ⟨rfl,rfl⟩) λfE q=> ?_;replace hF:=B hF q;refine .stop λg6 q=> ?_;replace hF:=B hF q;exact Xk x y rfl (λw=>HC rfl rfl (F:=aj.Az) ah ah hkd ag w) rfl rfl hkd Q t hF.z trivial (by simp[World.setCell])
theorem Xn{ro':Bool}{R:Nat->Prop}{Rl:aM->ab->ab->Prop}{ro:Nat->Prop}{dz:Nat}{tail:bW}(cF:kD Rl)(b:∀s w al,Rl s w al->n3 s.own ro w al):GP (cT wa ro') sV R (λ_ _ _=>True) Rl main' dz ro tail:=by
 intro f wl w' n a a' kd cs cs' d _ hk e g c h _ i;simp only[sV,oX,ho]at d;rcases d with rfl|rfl
 .exact alz hk cF b e g c h i
 .exact alH hk cF b e g c h i
end
end Go.bp
namespace Go.bp
open Go Go.Conc Go.ConcN Go.Proofs Go.Ren
section
variable{S:Type}{P:Program}{main:Bool}{Rl:S->World->World->Prop}{Gu Gu':S->S->World->World->Array Event->Prop}{Stop Stop':S->Goroutine->World->Prop}
def Xo(cF:kD Rl)(c:S->ab->Prop)(d:∀s w al,c s w->Rl s w al->c s al)(f:∀s s' a b es,c s a->Gu s s' a b es->c s' b/\Gu' s s' a b es)(i:∀s g w,c s w->Stop s g w->Stop' s g w){s:S}{g:aY}{w:ab}(h:a7 P main Rl Gu Stop s g w):c s w->a7 P main Rl Gu' Stop' s g w:=by
 induction h with
 |stop k=>exact λaf=>.stop λal q=>i _ _ _ (d _ _ _ af q) (k al q)
 |step N j e _ l=>exact λaf=>.step N j (λal q=>⟨(e al q).1,(f _ _ _ _ _ (d _ _ _ af q) (e al q).2).2⟩) λal q=>l al q (f _ _ _ _ _ (d _ _ _ af q) (e al q).2).1
end
def HD(c:bY):Prop:=∀l k,c.todo≠.inRangeFunc l::k
def OY(c:bY):Prop:=c.mode=.run/\HD c
def mK:bW->Prop
 |[]=>True
 |c::cs=>OY c/\∀dQ∈cs,HD dQ
def mK.all{l:bW}(h:mK l):∀c∈l,HD c:=by
 cases l with
 |nil=>intro c a;cases a
 |cons c cs=>
  intro d hd;rcases dY.1 hd with rfl|hd
  .exact h.1.2
  .exact h.2 d hd
def Xp{l:bW}(h:mK l):pq l:=by
 refine⟨λx i=> ?_,λn=> ?_⟩
 .unfold tryRecover;cases l with
  |nil=>rcases i with e|e<;>rw[e]
  |cons c cs=>
   rcases i with e|e<;>rw[e];simp only[h.1.1]
 .replace h:=h.all;induction l with
  |nil=>rfl
  |cons c cs j=>
   have d:=h c ag;unfold tryRecoverLoop;split
   .rename_i a b f k o g m;exact absurd g (d f k)
   .rename_i a b f k g m;exact absurd g (d f k)
   .rw[j λc d=>h c (by simp[d])];rfl
def alI{P:bF}{main:Bool}{x:bY}{cs:bW}{F:Func}{v:ai}(a:x.mode=.returning)(hd:x.defers=[])(hF:P.funcs[x.fn]? =some F)(b:∀w,(results F x.tmps).runT P w #[]=(.ok v w,#[]))(hk:x.kind=.normal\/x.kind=.deferred)(c:cs≠[])(w:ab): stepG P main (aJ x cs) w=.go (gP x cs v) w #[]:=by
 have d:stepG P main (aJ x cs) w=unwind P main x cs none w:=(by unfold stepG aJ;simp only[a]);rw[d];unfold unwind;rw[hd];simp only[a,hF,b];rw[uP hk c];rfl
def s6(F:Func)(t:aQ):ai:=match F.results.toList with
 |[.tmp a]=>t.getD a I
 |[.tmp a,.tmp b]=>.tuple #[t.getD a I,t.getD b I]
 |_=>I
def HE(F:Func):Prop:=(∃a,F.results= #[.tmp a])\/∃a b,F.results= #[.tmp a,.tmp b]
def Xq{F:Func}(h:HE F)(t:aQ)(P:bF)(w:ab):(results F t).runT P w #[]=(.ok (s6 F t) w,#[]):=by
 rcases h with⟨a,h⟩|⟨a,b,h⟩
 .rw[Sem.runT_eq,events_results_tmp h];simp[results,h,s6]
 .rw[Sem.runT_eq,events_results_tmp2 h,results_tmp2 h];simp[s6,h]
def alJ{N:Fn->Bool}{f:Ren}{F:Func}(h:HE F){t j:aQ}(g:aZ N f t j):aB N f (s6 F t) (s6 F j):=by
 rcases h with⟨a,h⟩|⟨a,b,h⟩
 .simp only[s6,h];exact g.getD a .undef
 .simp only[s6,h];refine .tuple rfl λi v v' c e=> ?_;rcases i with _|_|i
  .simp at c e;subst c;subst e;simpa using g.getD a (d:=undef) (d':=undef) .undef
  .simp at c e;subst c;subst e;simpa using g.getD b (d:=undef) (d':=undef) .undef
  .simp at c
structure Xr(C:bf)(R:Nat->Prop)(f0:Ren)(w0:ab)(cL:Ending->ab->Prop)(dz:Nat)(back:ai->aY)(s:aM)(g:aY)(w:ab):Prop where
 deaf:s.deaf=dz
 ex:∃f w1 v v' aP d,bs f0 f/\(∀a b,f a=some b->f0 a=some b\/w0.heap.size<=a)/\(∀a,w0.heap.size<=a->a<w1.heap.size->∃b,f a=some b)/\w0.heap.size<=w1.heap.size/\(∀b,s.own b↔cV R f b)/\g=back v'/\aB C.fn f v v'/\bR C R f w1 w/\cL (.returned v) (a2 w1 aP d)
section
variable{C:bf}{bZ:FuncId->Bool}{R:Nat->Prop}{Rl:aM->World->World->Prop}{dz:Nat}{main':Bool}{f0:Ren}{w0 w0':World}
def alK(cF:kD Rl)(m:∀s w al,Rl s w al->n3 s.own (ft R f0) w al)(O:C.j1 bZ){c:bY}{cs:bW}(X:GP C bZ R (λ_ _ _=>True) Rl main' dz (ft R f0) (c::cs))(T:mK (c::cs))(G:b1 C f0){n:FuncId}(Y:C.fn (.func n)=true)(o:bZ n=false){F:Func}(hF:C.P.funcs[n]? =some F)(B:C.b0.funcs[n]? =some F)(i:HE F){args Dq:aQ}(Z:aZ C.fn f0 args Dq)(az:bR C R f0 w0 w0'){cL:Ending->ab->Prop}(dZ:∀aP d,Calls C.P n args (a2 w0 aP d) cL)(p:∀e w,cL e w->∃v,e=.returned v): a7 C.b0 main' Rl (fs (ft R f0)) (Xr C R f0 w0 cL dz λv'=>aJ (c.finish v') cs) ⟨cV R f0,dz⟩ (aJ (Frame.enter C.b0 n Dq .normal) (c::cs)) w0':=by
 have H:=lift (J:=λ_ _ _=>True) (Q:=λy bX w=>bX=[]/\y.fn=n/\∃aP d v,y.leaving C.P (a2 w aP d) (.returned v)/\cL (.returned v) (a2 w aP d)) (cs0:=[]) (cs0':=[]) cF m (λ_ _ _ _ _ h=>h) (λ_ _ _ _ _ _ _ _ h=>h) (λ_ _ _ _ _ h=>h) O X (λy cs w ⟨_,h,_⟩=>h▸o) (Xp T) G (λy cs w aP d ⟨j,k,OZ,d',v,t⟩=>⟨j,k,OZ,d',v,t⟩) (bV.enter O Y o Z (.inl rfl)) .nil az trivial (λT=> ?_)
 .refine a7.bind cF H λs g w bw=> ?_;obtain⟨hd,f,y,bX,w1,l,avJ,j,k,t,D,V,rfl,u,ky,jQ,-,⟨rfl,W,aP,d,v,⟨hm,aa,hk,F',x,cl⟩,K⟩,-⟩:=bw;cases ky;rw[W,hF]at x;cases x;have bP:v=s6 F y.tmps:=by
   have:=Xq i y.tmps C.P (a2 w1 aP d);rw[Sem.runT_eq]at this;have h:=hq Prod.fst this;rw[cl]at h;injection h
  subst bP;have L:l.mode=.returning:=(by have:=u.mode;rw[hm]at this;revert this;generalize l.mode=z;intro q;cases q;rfl);have M:l.defers=[]:=(by have:=u.defers;rw[aa]at this;revert this;generalize l.defers=z;intro q;cases q;rfl);have A:l.kind=.normal:=u.kind.trans hk;have N:∀w,stepG C.b0 main' (aJ l ([]++c::cs)) w=.go (aJ (c.finish (s6 F l.tmps)) cs) w #[]:=λw=>by
   rw[mV,alI L M (by rw[u.fn,W];exact B) (λw=>Xq i _ _ _) (.inl A) ag];unfold gP;simp only[A]
  refine .one (F:=id) (E:=λ_=> #[]) (own':=s) rfl (λal _=>N al) (λ_ _=>zV ⟨rfl,rfl⟩) λal q=>.stop λcO c9=>⟨hd,f,w1,_,_,aP,d,j,k,t,D,V,rfl,alJ i u.tmps,?_,K⟩;have a8:=m _ _ _ (cF.trans _ _ _ _ q c9);have S:s.own=cV R f:=funext λb=>propext (V b);rw[S]at a8;have ik:∀b,ft R f b->ft R f0 b:=λb ⟨a,e,r⟩=>by
   rcases k a b e with h|h
   .exact⟨a,h,r⟩
   .have:=(az.ro a r).2;omega
  exact jQ.rely ⟨a8.tape,a8.env,a8.size,λb j k=>a8.kept b j (k.imp id (ik b))⟩
 .obtain⟨e,w',bo,j,k,t,D⟩:=dZ T 0 ([]++ [d0 C.P]);obtain⟨v,rfl⟩:=p e w' j;exact⟨bo,[],w',k,rfl,t,w'.tape,w'.drawn,v,D,j⟩
end
end Go.bp
namespace Go.bp
open Go Go.Conc Go.ConcN Go.Proofs Go.Ren
def O0{C:bf}{r:Bool}{f:Ren}{rest:Code}{kk:eQ}(a:r=false)(b:C.wl (.code rest::kk)):∀{l:List Code},(∀c∈l,codeOk C r c=true)->fH C r f (uF l) (.code (chain l rest)::kk)
 |[],_=>.wall a rfl b
 |c::l,h=>.cut (h c ag) (O0 a b λc d=>h c (by simp[d]))
def alL{wa d:eQ->Prop}{lo:Nat}{ro:Bool}{f:Ren}{o c:Obj}(h:eR (cT (wa,lo) ro) f o c):eR (cT (d,lo) ro) f o c:=by
 cases h with
 |cells t z h=>exact .cells t z h
 |map k h=>exact .map k h
 |iter s p=>exact .iter s p
 |pk s n l e=>exact .pk s n l e
 |rn s n l=>exact .rn s n l
 |loop a b g i j m=>exact .loop a b g i j m
 |sB=>exact .sB
 |number l e=>exact .number l e
 |fin=>exact .fin
 |_=>rename_i a b;exact .def a b
def Xs{wa c:eQ->Prop}{lo:Nat}{ro:Bool}{R:Nat->Prop}{f:Ren}{w w':ab}(h:bR (cT (wa,lo) ro) R f w w'):bR (cT (c,lo) ro) R f w w':=⟨λa b e=>by have⟨o,d,g,i,j⟩:=h.obj a b e;exact⟨o,d,g,i,j.imp id λh=>⟨h.1,alL h.2⟩⟩,h.ro,h.env,h.jX⟩
def opAt(C:bf)(ops:dn)(i:Nat):Bool:=match ops[i]? with
 |some o=>gm C o.op
 |none=>true
def alM{wa:(eQ->Prop)×Nat}{ro:Bool}{ops:dn}{js:cw}(h:js.all (opAt (iu ro (wa.2==0)) ops)=true):Cy (cT wa ro) false ops js:=λi af o ap=>by
 have:=pT.1 h i af;unfold opAt at this;rw[ap]at this;simp only[Bool.false_and,Gy,Bool.and_true];exact this
structure Xt(C:bf)(R:Nat->Prop)(f0:Ren)(w0:ab)(Q:Act->ab->Prop)(dz:Nat)(back:Act->aY)(s:aM)(g:aY)(w:ab):Prop where
 deaf:s.deaf=dz
 ex:∃f w1 a a' aP d,bs f0 f/\(∀a b,f a=some b->f0 a=some b\/w0.heap.size<=a)/\(∀a,w0.heap.size<=a->a<w1.heap.size->∃b,f a=some b)/\w0.heap.size<=w1.heap.size/\(∀b,s.own b↔cV R f b)/\g=back a'/\aZ C.fn f a.tmps a'.tmps/\cy (fG C.fn f) a.defers a'.defers/\bR C R f w1 w/\Q a (a2 w1 aP d)
section
variable{lo:Nat}{ro':Bool}{R:Nat->Prop}{Rl:aM->World->World->Prop}{dz:Nat}{main':Bool}{f0:Ren}{w0 w0':World}
def Xu(cF:kD Rl)(j:∀s w al,Rl s w al->n3 s.own (ft R f0) w al){rest:Code}{kk:eQ}{cs:bW}(T:mK cs)(az:b1 (dT lo ro') f0){b:bY}{a a':Act}{t0 k:eQ}(D:pj (dT lo ro') b.fn)(E:sV b.fn=false)(hkd:b.kind=.normal)(x:fH (cT (λl=>l=.code rest::kk,lo) ro') false f0 t0 k)(V:aZ (dT lo ro').fn f0 a.tmps a'.tmps)(hd:cy (fG (dT lo ro').fn f0) a.defers a'.defers)(P:bR (dT lo ro') R f0 w0 w0'){Q:Act->ab->Prop}(F:∀aP d,∃A w1,Q A w1/\Steps aj.prog (lone (b.at a t0) [d0 aj.prog] (a2 w0 aP d)) (lone (b.at A (uF [])) [d0 aj.prog] w1)): a7 Tryz.prog main' Rl (fs (ft R f0)) (Xt (dT lo ro') R f0 w0 Q dz λa'=>G (b.at a' (.code rest::kk)) cs) ⟨cV R f0,dz⟩ (G (b.at a' k) cs) w0':=by
 have aa:bR (cT (λl=>l=.code rest::kk,lo) ro') R f0 w0 w0':=Xs P;have H:=lift (C:=cT (λl=>l=.code rest::kk,lo) ro') (J:=λ_ _ _=>True) (Q:=λy bX w=>bX=[]/\∃a aP d,y=b.at a (uF [])/\Q a (a2 w aP d)) (cs0:=[]) (cs0':=[]) (x0:=b.at a t0) (x0':=b.at a' k) (tail:=cs) (dz:=dz) (main':=main') (f0:=f0) (w0:=w0) (w0':=w0') cF j (λ_ _ _ _ _ h=>h) (λ_ _ _ _ _ _ _ _ h=>h) (λ_ _ _ _ _ h=>h) (WK ro') (Xn cF j) (λy cs w ⟨_,a,_,_,h,_⟩=>by rw[h];exact E) (Xp T) az (λy cs w aP d ⟨n,a,W,d',K⟩=>⟨n,a,W,d',K⟩) ?_ .nil aa trivial (λT=> ?_)
 .refine a7.bind cF H λs g w L=> ?_;obtain⟨M,f,y,bX,w1,i,X,n,B,K,Y,S,rfl,m,Z,jQ,-,⟨rfl,g3,aP,d,rfl,sK⟩,-⟩:=L;cases Z;refine .stop λcO c9=>⟨M,f,w1,g3,⟨i.tmps,i.defers⟩,aP,d,n,B,K,Y,S,?_,m.tmps,m.defers,?_,sK⟩
  .have c:=m.todo
   change fH _ false _ _ _ at c;have x:i.todo=.code rest::kk:=by
    generalize i.todo=z at c;change fH _ _ _ [.code (.refuse "")] z at c;cases c with
    |cons r q=>cases r with|code N=>simp[codeOk]at N
    |wall _ _ h=>exact h
   have o:=m.mode;have p:i.mode=.run:=by
    change sI _ _ .run _ at o;revert o;generalize i.mode=z;intro q;cases q;rfl
   have t:i.kind=b.kind:=m.kind;have u:i.roundOf=none:=by
    have q:=m.round;change CB _ none _ at q;revert q;generalize i.roundOf=z;intro q;cases q;rfl
   have v:i.fn=b.fn:=m.fn;show aJ i ([]++cs)=_
   rw[mV];unfold G Frame.at aJ;obtain⟨avK,avL,avM,avN,avO,avP,avQ⟩:=i;simp only at x p t u v;subst x;subst p;subst t;subst u;subst v;rfl
  .have a8:=j _ _ _ c9;have O:s.own=cV R f:=funext λb=>propext (S b);rw[O]at a8;have ik:∀b,ft R f b->ft R f0 b:=λb ⟨a,e,r⟩=>by
    rcases B a b e with h|h
    .exact⟨a,h,r⟩
    .have:=(P.ro a r).2;omega
   have:=jQ.rely ⟨a8.tape,a8.env,a8.size,λb n B=>a8.kept b n (B.imp id (ik b))⟩;exact Xs this
 .exact⟨rfl,D,V,x,hd,.run,rfl,.inl hkd,.none⟩
 .have⟨A,w1,b9,L⟩:=F T 0;exact⟨_,[],w1,L,rfl,A,w1.tape,w1.drawn,rfl,b9⟩
end
end Go.bp
namespace Go.bp
open Go Go.Conc Go.Ren Go.bG
structure Left(own:Nat->Prop)(w w':ab):Prop where
 size:w.heap.size<=w'.heap.size
 kept:∀b,b<w.heap.size->¬own b->w'.heap[b]? =w.heap[b]?
 os:w'.os=w.os
 out:w'.output=w.output
def Left.refl(own:Nat->Prop)(w:ab):Left own w w:=⟨bh _,λ_ _ _=>rfl,rfl,rfl⟩
section
variable{P:Program}{ShB ro:Nat->Prop}{Stop:aM->Goroutine->World->Prop}
def XG{s:aM}{a:aY}{w:ab}(h:a7 P true n7 (λs s'=>pu s s' ro) Stop s a w)(gs:hh)(sl:Option (Nat×Nat))(t:Trace)(q:Nat->Nat)(n:gs[0]? =some a)(o:Leavers P t gs q)(p:gS ShB ro s w.heap.size t): ∃(N:Nat)(f:hh)(a':aY)(w':ab)(j:Option (Nat×Nat))(l:Trace)(a8:Nat->Nat)(s':aM),runNT P N (crowd gs w sl) t=(.next (crowd f w' j),l)/\f.size=gs.size/\f[0]? =some a'/\Stop s' a' w'/\Left s.own w w'/\(∀b,s'.own b->s.own b\/w.heap.size<=b)/\Leavers P l f a8/\gS ShB ro s' w'.heap.size l:=by
 let r:aM->ab->Prop:=λs' w'=>Left s.own w w'/\∀b,b<w.heap.size->s'.own b->s.own b
 have H:=Xo (S:=aM) (Gu':=λs s'=>pu s s' ro) (Stop':=λs' g w'=>Stop s' g w'/\Left s.own w w'/\∀b,s'.own b->s.own b\/w.heap.size<=b) Pk r (λs' w1 w2 ⟨c,i⟩ ⟨d,e⟩=>by subst e;exact⟨⟨c.size,c.kept,c.os,c.out⟩,i⟩) (λD E w1 w2 es ⟨c,i⟩ g=>⟨⟨⟨dU c.size g.size,λb k m=>(g.kept b (fl k c.size) (λq=>m (i b k q))).trans (c.kept b k m),g.os.trans c.os,g.out.trans c.out⟩,λb k u=>i b k (((g.own b).1 u).resolve_right (λq=>by have:=c.size;omega))⟩,g⟩) (λs' g w' ⟨c,i⟩ v=>⟨v,c,λb k=>(dH b w.heap.size).imp (λq=>i b q k) id⟩) h ⟨.refl _ _,λ_ _ h=>h⟩;have⟨N,f,a',w',j,l,a8,s',c,i,x,⟨y,z,A⟩,B,C⟩:=amH H gs sl t q n o p;exact⟨N,f,a',w',j,l,a8,s',c,i,x,y,z,A,B,C⟩
def _root_.Go.bG.gS.qw{own own' ro':Nat->Prop}{d B:Nat}{t:Trace}(h:gS ShB ro ⟨own,d⟩ B t)(c:∀b,ShB b->¬own' b/\¬ro' b)(e:∀b,own' b\/ro' b->b<B):gS ShB ro' ⟨own',d⟩ B t:=⟨h.clean,h.known,h.over,h.norel,h.seen,h.deaf,λb a=>⟨(h.sh b a).1,c b a⟩,e⟩
end
end Go.bp
namespace Go.bp
open Go Go.Conc Go.ConcN Go.Proofs Go.Ren Go.bG
structure gF where
 gs:hh
 sl:Option (Nat×Nat)
 t:Trace
 q:Nat->Nat
structure gF.eM(c:gF)(ShB ro own:Nat->Prop)(g:aY)(w:ab):Prop where
 g0:c.gs[0]? =some g
 fD:Leavers Tryz.prog c.t c.gs c.q
 pm:gS ShB ro ⟨own,0⟩ w.heap.size c.t
def gF.iB(c:gF)(w:ab)(dQ:gF)(w':ab):Prop:=∃N,runNT Tryz.prog N (crowd c.gs w c.sl) c.t=(.next (crowd dQ.gs w' dQ.sl),dQ.t)
def Pm{P:bF}:∀(M:Nat){m a:Machine}{t b:Trace},runNT P M m t=(.next a,b)->∀K,runNT P (M+K) m t=runNT P K a b:=by
 intro M;induction M with
 |zero=>intro m a t b h K;simp only[runNT]at h;cases h;rw[lY]
 |succ M c=>
  intro m a t b h K;rw[show M+1+K=(M+K)+1 by omega];simp only[runNT]at h⊢;cases bw:stepT P m with
  |mk r ops=>
   rw[bw]at h;cases r with
   |next sr=>exact c h K
   |ended o w=>simp at h
def gF.iB.trans{a b c:gF}{x y z:ab}(h:a.iB x b y)(k:b.iB y c z):a.iB x c z:=by
 obtain⟨N,h⟩:=h;obtain⟨M,k⟩:=k;exact⟨N+M,(Pm N h M).trans k⟩
def gF.eM.qw{c:gF}{ShB ro own ro' own':Nat->Prop}{g:aY}{w:ab}(h:c.eM ShB ro own g w)(a:∀b,ShB b->¬own' b/\¬ro' b)(d:∀b,own' b\/ro' b->b<w.heap.size):c.eM ShB ro' own' g w:=⟨h.g0,h.fD,h.pm.qw a d⟩
structure Pn(C:bf)(S R:Nat->Prop)(w:World)(Q:Act->World->Prop)(own':Nat->Prop)(a':Act)(w':World):Prop where
 left:Left (λb=>S b/\¬R b) w w'
 own:∀b,own' b->(S b/\¬R b)\/w.heap.size<=b
 ex:∃f u a,bs (cm S) f/\(∀x y,f x=some y->(S x/\x=y)\/(w.heap.size<=x/\w.heap.size<=y))/\(∀x,w.heap.size<=x->x<u.heap.size->∃y,f x=some y)/\w.heap.size<=u.heap.size/\(∀b,own' b↔cV R f b)/\
  aZ C.fn f a.tmps a'.tmps/\cy (fG C.fn f) a.defers a'.defers/\bR C R f u w'/\Q a u
section
variable{lo:Nat}{ro':Bool}{S R ShB:Nat->Prop}{w:World}{c:gF}{b:Frame}{a a':Act}{cs:List Frame}{kk:List Item}{rest:Code}
def amI(hk:∀b,R b->S b):cV R (cm S)=λb=>S b/\¬R b:=funext λb=>propext ⟨λ⟨x,e,r⟩=>by have⟨a,rfl⟩:=za.1 e;exact⟨a,r⟩,λ⟨a,c⟩=>⟨b,dJ a,c⟩⟩
def amJ(hk:∀b,R b->S b):ft R (cm S)=R:=funext λb=>propext ⟨λ⟨x,e,r⟩=>by have⟨a,rfl⟩:=za.1 e;exact r,λh=>⟨b,dJ (hk b h),h⟩⟩
def XH(hk:px (dT lo ro') S R w){Q:Act->ab->Prop}{x:aY}(H:a7 Tryz.prog true n7 (fs (ft R (cm S))) (Xt (dT lo ro') R (cm S) (cN (dT lo ro') S R w) Q 0 λa'=>G (b.at a' (.code rest::kk)) cs) ⟨cV R (cm S),0⟩ x w)(h:c.eM ShB R (λb=>S b/\¬R b) x w): ∃g w' a' own',c.iB w g w'/\g.gs.size=c.gs.size/\g.eM ShB R own' (G (b.at a' (.code rest::kk)) cs) w'/\Pn (dT lo ro') S R w Q own' a' w':=by
 have a:∀b,R b->S b:=λb r=>(hk.ro b r).2.1;rw[amI a,amJ a]at H;obtain⟨N,i,g',w',j,z,a8,s',A,B,C,k,D,m,E,F⟩:=XG H c.gs c.sl c.t c.q h.g0 h.fD h.pm;obtain⟨hd,f,u,aa,a',aP,d,n,o,p,s,v,rfl,J,K,L,M⟩:=k;obtain⟨own',O⟩:=s';obtain rfl:O=0:=hd;rw[sL]at o p s;refine⟨⟨i,j,z,a8⟩,w',a',own',⟨N,A⟩,B,⟨C,E,F⟩,D,m,f,a2 u aP d,aa,n,λx y e=> ?_,p,s,v,J,K,L.a2 aP d,M⟩;rcases o x y e with q|q
 .obtain⟨P,rfl⟩:=za.1 q;exact .inl ⟨P,rfl⟩
 .refine .inr ⟨q,?_⟩;have l:¬R x:=λr=>by
   obtain⟨_,_,_,_,_,k⟩:=hk.ro x r;have:=(bQ.1 k).1;omega
  rcases m y ((v y).2 ⟨x,e,l⟩)with a8|a8
  .have:=f.inj _ _ _ (n _ _ (dJ a8.1)) e;subst this;obtain⟨_,aF,_⟩:=hk.obj y a8.1;have:=(bQ.1 aF).1;omega
  .exact a8
def Po(hk:px (dT lo ro') S R w)(m:b1 (dT lo ro') (cm S)){l:List Code}(T:mK cs)(e:pj (dT lo ro') b.fn)(f:sV b.fn=false)(hkd:b.kind=.normal)(n:l.all (codeOk (iu ro' (lo==0)) false)=true)(o:aZ (dT lo ro').fn (cm S) a.tmps a'.tmps)(hd:cy (fG (dT lo ro').fn (cm S)) a.defers a'.defers){Q:ab->Act->ab->Prop}(g:∀aP d,di aj.prog l (Q (a2 (cN (dT lo ro') S R w) aP d)) a (a2 (cN (dT lo ro') S R w) aP d))(h:c.eM ShB R (λb=>S b/\¬R b) (G (b.at a' (.code (chain l rest)::kk)) cs) w): ∃i w' a' own',c.iB w i w'/\i.gs.size=c.gs.size/\i.eM ShB R own' (G (b.at a' (.code rest::kk)) cs) w'/\Pn (dT lo ro') S R w (λa u=>∃aP d,Q (a2 (cN (dT lo ro') S R w) aP d) a u) own' a' w':=XH hk (Xu Pk (λ_ _ _ h=>XF h) T m e f hkd (O0 rfl rfl λc h=>(G8 (iu ro' (lo==0)) _ _ false c).trans (pT.1 n c h)) o hd hk.wr λaP d=>by
  have⟨p,w2,j,k⟩:=(g aP d).steps b [d0 aj.prog];exact⟨p,w2,⟨aP,d,j⟩,k⟩) h
def Pp(hk:px (dT lo ro') S R w)(n:b1 (dT lo ro') (cm S)){ops:dn}{js:cw}{l:List Code}(T:mK cs)(f:pj (dT lo ro') b.fn)(g:sV b.fn=false)(hkd:b.kind=.normal)(ap:js.all (opAt (iu ro' (lo==0)) ops)=true)(o:l.all (codeOk (iu ro' (lo==0)) false)=true)(p:aZ (dT lo ro').fn (cm S) a.tmps a'.tmps)(hd:cy (fG (dT lo ro').fn (cm S)) a.defers a'.defers){Q:ab->Act->ab->Prop}(i:∀aP d,wpOps aj.prog ops (λe a u=>e=.normal/\di aj.prog l (Q (a2 (cN (dT lo ro') S R w) aP d)) a u) js a (a2 (cN (dT lo ro') S R w) aP d))(h:c.eM ShB R (λb=>S b/\¬R b) (G (b.at a' (.inRegion ops js::.code (chain l rest)::kk)) cs) w): ∃j w' a' own',c.iB w j w'/\j.gs.size=c.gs.size/\j.eM ShB R own' (G (b.at a' (.code rest::kk)) cs) w'/\Pn (dT lo ro') S R w (λa u=>∃aP d,Q (a2 (cN (dT lo ro') S R w) aP d) a u) own' a' w':=XH hk (Xu (t0:=.inRegion ops js::uF l) Pk (λ_ _ _ h=>XF h) T n f g hkd (.cons (.region js (alM ap)) (O0 rfl rfl λc h=>(G8 (iu ro' (lo==0)) _ _ false c).trans (pT.1 o c h))) p hd hk.wr λaP d=>by
  obtain⟨e,t,w1,⟨rfl,q⟩,r⟩:=wp_ops js a _ (i aP d) b (uF l) [d0 aj.prog];obtain⟨s,w2,k,m⟩:=q.steps b [d0 aj.prog];exact⟨s,w2,⟨aP,d,k⟩,Steps.trans r m⟩) h
def HS{own:Nat->Prop}{Stop:aM->aY->ab->Prop}{x:aY}(H:a7 Tryz.prog true n7 (fs R) Stop ⟨own,0⟩ x w)(h:c.eM ShB R own x w)(i:∀s g w,Stop s g w->s.deaf=0): ∃a w' g own',c.iB w a w'/\a.gs.size=c.gs.size/\a.eM ShB R own' g w'/\Stop ⟨own',0⟩ g w'/\Left own w w'/\∀b,own' b->own b\/w.heap.size<=b:=by
 have⟨N,d,g',w',e,j,a8,s',k,l,m,f,n,o,p,r⟩:=XG H c.gs c.sl c.t c.q h.g0 h.fD h.pm;obtain⟨own',u⟩:=s';obtain rfl:u=0:=i _ _ _ f;exact⟨⟨d,e,j,a8⟩,w',g',own',⟨N,k⟩,l,⟨m,p,r⟩,f,n,o⟩
end
end Go.bp
