import Derived.Test.YtlcdgbhigfgehabGreatDoorQA14
set_option linter.all false
set_option maxRecDepth 100000
set_option maxHeartbeats 16000000
namespace Go.bp
open Go Go.Conc Go.ConcN Go.RowKit Go.Conc.Lib Go.ConcR.Gen Go.Proofs Go.bG Go.Ren
open Go.ConcR (KK wgBlock WgAt stA smA rd wr mk DC0 Payload)
open Go.ConcM (OsLater goes_pad goes_le)
section
variable{K:bj}{Post:Nat->(Nat->Prop)->World->Prop}{i:Nat}{s:aM}{val:Value}
abbrev rK(K:bj):Payload:=⟨K.qv⟩
abbrev vd(K:bj)(i:Nat)(val:ai)(m:Nat)(g:aY)(w:ab):Prop:=Goes Tryz.prog false (@RW (rK K) K.cW K.Wg K.bb K.n 0 (i+1 - 1)) (@DWs (rK K) K.Wg (λ_ _=>False) (λ_ _=>False) K.bb K.n (i+1)) (@AtR0 (rK K) Tryz.prog K.cW K.Wg K.bb K.n 0 (i+1) val) m g w
def Pq(g:aY)(w:ab):Prop:=∃g',stepG Tryz.prog false g w=.go g' w #[mk .disable]
def XI(K:bj)(i:Nat)(s:aM)(g:aY)(w:ab):Prop:=∃g',stepG Tryz.prog false g w=.go g' w #[mk (.releaseMerge (stA K.Wg))]/\∃n,Goes Tryz.prog false (Rl K (some i) s) DC0 Pq n g' w
def XJ(w:ab):@RW (rK K) K.cW K.Wg K.bb K.n 0 (i+1 - 1) w w:=by
 letI:=rK K
 exact⟨λb h=>absurd h (py _),id,id,rfl⟩
def Pr{m:Nat}{g g':aY}{w w':ab}{es:bI}(h:vd K i val m g w)(c:stepG Tryz.prog false g w=.go g' w' es)(f:es≠#[mk (.releaseMerge (stA K.Wg))]):∃j,vd K i val j g' w'/\∀e∈es,e.loc≠.mark .disable:=by
 have d:¬@AtR0 (rK K) Tryz.prog K.cW K.Wg K.bb K.n 0 (i+1) val g w:=λ⟨_,_,k,a,_⟩=>(by rw[c]at a;injection a with _ _ a;exact f a);have b:=XJ (K:=K) (i:=i) w;cases m with
 |zero=>exact absurd (h w b) d
 |succ m=>
  rcases h with h|⟨_,h⟩
  .exact absurd (h w b) d
  .have:=h w b;rw[c,goes_go]at this;exact⟨m,this.2,λe h=>(this.1.2 e h).2.1⟩
def XK{m:Nat}{g:aY}{w al:ab}(h:vd K i val m g w)(r:Rl K (some i) s w al):vd K i val m g al:=by
 have T:∀{x y:ab},@RW (rK K) K.cW K.Wg K.bb K.n 0 (i+1 - 1) al x->@RW (rK K) K.cW K.Wg K.bb K.n 0 (i+1 - 1) w x:=λq=>by
  letI:=rK K
  exact⟨λb h=>absurd h (py _),q.live∘r.wg,q.pay∘r.pay,q.cell.trans (r.cell i rfl)⟩
 cases m with
 |zero=>exact λcO q=>h cO (T (y:=w) q)
 |succ m=>exact h.imp (λh cO q=>h cO (T (y:=w) q)) λ⟨a,h⟩=>⟨a,λcO q=>h cO (T (y:=w) q)⟩
def amK:∀(n:Nat)(g:aY)(w:ab),Goes Tryz.prog false (Rl K (some i) s) DC0 Pq n g w->∀m,¬vd K i val m g w:=by
 have stop:∀(g:aY)(w:ab),Pq g w->∀m,¬vd K i val m g w:=λg w ⟨g',h⟩ m a=>by
  have⟨_,_,c⟩:=Pr a h (by intro q;injection q with q;injection q with q;injection q with q;injection q with q;cases q);exact c _ (by simp;rfl) rfl
 intro n;induction n with
 |zero=>exact λg w h=>stop g w (h w (.refl _ _ _ _))
 |succ n d=>
  intro g w h m a;rcases h with h|⟨_,h⟩
  .exact stop g w (h w (.refl _ _ _ _)) m a
  .have b:=h w (.refl _ _ _ _);cases bw:stepG Tryz.prog false g w with
   |go g' w' es=>
    rw[bw,goes_go]at b;obtain⟨⟨c,e⟩,f⟩:=b;have⟨j,k,_⟩:=Pr a bw (by rw[e];intro q;cases q);exact d _ _ f j k
   |_=>rw[bw]at b;exact b.elim
def amL{F:ab->Prop}(hd:s.deaf=0)(j:∀{w al},F w->Rl K (some i) s w al->F al)(k:∀w,F w->Post i s.own w):∀(n:Nat)(g:aY)(w:ab),Goes Tryz.prog false (Rl K (some i) s) DC0 (XI K i s) n g w->∀m,vd K i val m g w->F w->dW Tryz.prog K i (u5 Tryz.prog K Post i) s g w:=by
 have stop:∀(g:aY)(w:ab),(∀al,Rl K (some i) s w al->XI K i s g al)->∀m,vd K i val m g w->F w->dW Tryz.prog K i (u5 Tryz.prog K Post i) s g w:=λg w l m e hF=>by
  refine .stop λal r=>⟨hd,k _ (j hF r),val,?_⟩;have b:=XK e r;have⟨g',a,o,c⟩:=l al r;have f:=XJ (K:=K) (i:=i) al;cases m with
  |zero=>exact b al f
  |succ m=>
   rcases b with h|⟨_,h⟩
   .exact h al f
   .have:=h al f;rw[a,goes_go]at this;exact absurd this.2 (amK o g' al c m)
 intro n;induction n with
 |zero=>exact λg w h=>stop g w h
 |succ n p=>
  intro g w h m e hF;rcases h with h|⟨d,h⟩
  .exact stop g w h m e hF
  .refine a7.fW d λal r=> ?_;have a:=h al r;cases bw:stepG Tryz.prog false g al with
   |go g' w' es=>
    rw[bw,goes_go]at a;obtain⟨c,t⟩:=a;have⟨u,v,_⟩:=Pr (XK e r) bw (by rw[c.2];intro q;cases q);have x:w'=al:=c.1;exact⟨s,g',w',es,rfl,zT c,p _ _ t u v (x▸j hF r)⟩
   |_=>rw[bw]at a;exact a.elim
end
def Ps:(Tryz.prog.info? 116).map (λi=>decide (i.size=0))=some false:=ah
def aR.HT{K:bj}{i:Nat}{aN:Nat->Prop}{W w:ab}(h:aR K i aN W w):∃v:ai,w.cell? ⟨K.Wg,0,none⟩=some v:=by
 have⟨a,b,q⟩:=h.wg;exact⟨_,q.cellSt⟩
noncomputable def XL:Code:=Tryz.f50.body.getD .skip
def amM:(Tryz.f48.name== "runtime.NumGoroutine")=false:=ah
section
variable{K:bj}{Post:Nat->(Nat->Prop)->World->Prop}{i:Nat}{aN:Nat->Prop}{W:World}{c:Frame}{cs:List Frame}
def amN{val:ai}{f:Nat}(b:c.mode=.returning)(g:QuitsD Tryz.prog f 0 (G c cs)){F:ab->Prop}(h:∀{w al},F w->Rl K (some i) ⟨aN,0⟩ w al->F al)(j:∀w,F w->Post i aN w)(a:K.cW=link.tWg): ∀w,aR K i aN W w->W.cell? ⟨K.bb,i,none⟩=some val->F w->dW Tryz.prog K i (u5 Tryz.prog K Post i) ⟨aN,0⟩ (G ((baseD 50).at ⟨#[.pointer (some ⟨K.Wg,0,none⟩),I,I,I],[]⟩ [.code XL]) (c::cs)) w:=by
 intro w hF k d;refine amL (val:=val) rfl h j 60 _ _ ?_ 23 ?_ d
 .simp only[XL,Tryz.f50,e2];repeat w_go aR.rely
  u_call Tryz.func48 amM Tryz.f48 aR.rely hF
  repeat w_go aR.rely
  m_convG Tryz.prog cP.underlying_tUP cP.underlying_tWgP Ps hF.HT.choose_spec aR.rely hF
  refine Goes.stop (λ_ e=> ?_);replace hF:=aR.rely hF e;clear e;refine⟨_,stepG_markAt .releaseMerge ag rfl rfl (by k_ne) rfl cP.f_relMerge (x_relMerge_n link) (x_relMerge_b link) (x_relMerge_x link) (x_relMerge_f link) (by simp[Act.eval,stA]),10,?_⟩;walk_nrm
  repeat w_go aR.rely
  refine Goes.stop (λ_ e=> ?_);exact⟨_,stepG_mark0 .disable ag rfl rfl (by k_ne) rfl cP.f_disable (x_disable_n link) (x_disable_b link) (x_disable_x link) (x_disable_f link)⟩
 .have:=@Go.ConcN.Gen.doneN (rK K) link Tryz.prog cP (λ_ _=>False) (λ_ _=>False) K.Wg K.bb K.n 0 (i+1) val c cs f b g w ⟨a▸hF.wg,hF.cell.trans k⟩;rw[<-a]at this;exact this
end
end Go.bp
namespace Go.bp
open Go Go.Conc Go.ConcN Go.RowKit Go.Conc.Lib Go.ConcR.Gen Go.Proofs Go.bG Go.Ren Go.ConcN.Gen
open Go.ConcR (KK wgBlock WgAt stA smA rd wr mk DC0)
open Go.ConcM (OsLater goes_pad goes_le)
noncomputable def Qm:Code:=Tryz.f48.body.getD .skip
def apZ:(Tryz.f86.name== "runtime.NumGoroutine")=false:=ah
def YX:(Tryz.prog.info? 92).map (λi=>decide (i.size=0))=some false:=ah
section
variable{K:bj}{Stop:aM->Goroutine->World->Prop}
def Qn{s:aM}{a b:ab}{es:bI}(h:DC0 a b es):e7 K none s s a b es:=by
 obtain⟨rfl,rfl⟩:=h;exact⟨rfl,.refl _,rfl,bh _,λ_ _ _ _=>rfl,id,λ_ _=>rfl,λb=>⟨.inl,λh=>h.elim id λh=>U⟩,λe c=>by simp at c,by simp[deafBehind]⟩
def ap0{s:aM}{w:ab}(a:Addr)(h:a.block=K.Wg):e7 K none s s w w #[mk (.read a)]:=⟨rfl,.refl _,rfl,bh _,λ_ _ _ _=>rfl,id,λ_ _=>rfl,λb=>⟨.inl,λh=>h.elim id λh=>U⟩,λe c=>by simp at c;subst c;exact .mark ⟨rfl,h⟩,rfl⟩
def ap1{s:aM}{w:ab}(a:Addr)(h:a.block=K.Wg):e7 K none s s w w #[mk (.write a)]:=⟨rfl,.refl _,rfl,bh _,λ_ _ _ _=>rfl,id,λ_ _=>rfl,λb=>⟨.inl,λh=>h.elim id λh=>U⟩,λe c=>by simp at c;subst c;exact .mark ⟨rfl,h⟩,rfl⟩
abbrev fI(K:bj)(Stop:aM->aY->ab->Prop)(s:aM)(m:Nat)(g:aY)(w:ab):Prop:=Goes Tryz.prog true (Rl K none s) DC0 (λg w=>eT Tryz.prog K Stop s g w) m g w
def fI.cK{s:aM}{m:Nat}{g:aY}{w:ab}(h:fI K Stop s m g w):eT Tryz.prog K Stop s g w:=a7.bind (hZ K none) (a7.wS (own:=s) (Gu:=e7 K none) (λ_ _ r=>r) (λ_ _ _ h=>Qn h) h) λ_ _ _ ⟨e,h⟩=>e▸h
end
structure vo(K:bj)(aN:Nat->Prop)(F:ab->Prop):Prop where
 rely:∀{d:Nat}{w al:ab},F w->Rl K none ⟨aN,d⟩ w al->F al
 live:∀{w:ab},F w->Go.bG.WgLive K w
 set:∀{w:ab}(v:Int),F w->F (w.setCell (stA K.Wg) (.int .u64 v))
 YY:∀{w:ab},F w->F (w.setCell (smA K.Wg) (.int .u32 0))
def vo.HT{K:bj}{aN:Nat->Prop}{F:ab->Prop}(H:vo K aN F){w:ab}(h:F w):∃v:ai,w.cell? ⟨K.Wg,0,none⟩=some v:=by
 have⟨a,b,q⟩:=H.live h;exact⟨_,q.cellSt⟩
def vo.YZ{K:bj}{aN:Nat->Prop}{F:ab->Prop}(H:vo K aN F){w:ab}(h:F w):∃v:ai,w.cell? ⟨K.Wg,1,none⟩=some v:=by
 have⟨a,b,q⟩:=H.live h;exact⟨_,q.cellSm⟩
section
variable{K:bj}{aL:bu->Obj->Prop}{Post:Nat->(Nat->Prop)->World->Prop}{kd:Nat->Int}{j:Nat}{Next:aM->Goroutine->World->Prop}{aN:Nat->Prop}{F:World->Prop}
variable{b₀:Frame}{a₀:Act}{ops₀:Array Oper}{i₀:Nat}{rest₀:List Nat}{k₀:List Item}{cs:List Frame}
def ap2(i:K.cW=link.tWg)(H:vo K aN F)(e:∀w,F w->eT Tryz.prog K (zS Tryz.prog K aL Post kd j Next) ⟨aN,0⟩ (G (b₀.at (a₀.put ((ops₀[i₀]?).bind (·.dst)) (.tuple #[])) (.inRegion ops₀ rest₀::k₀)) cs) w): ∀w,F w->eT Tryz.prog K (Hu Tryz.prog K aL Post kd j Next) ⟨aN,0⟩ (G ((base 48).at ⟨#[.pointer (some ⟨K.Wg,0,none⟩),.int .i64 1,I,I,I,I,I,I,I,I,I,I,I,I,I,I,I,I,I,I,I,I,I,I,I,I,I,I,I,I,I,I,I,I,I,I,I,I,I,I,I,I,I,I,I,I,I,I,I,I,I,I,I,I,I,I,I,I,I,I,I,I,I,I,I,I,I,I,I,I,I,I,I,I,I,I,I,I,I,I,I,I,I,I,I,I,I,I,I,I,I,I,I,I,I,I,I,I,I,I,I,I,I,I,I,I,I,I,I,I,I,I,I,I,I,I,I],[]⟩ [.code Qm]) (b₀.at a₀ (.inRegion ops₀ (i₀::rest₀)::k₀)::cs)) w:=by
 intro w hF;refine fI.cK (m:=20) ?_;simp only[Qm,Tryz.f48,e2];repeat w_go H.rely
 refine Goes.stop (λal r=> ?_);replace hF:=H.rely hF r;clear r;refine a7.stop λal r=> ?_;replace hF:=H.rely hF r;clear r;refine⟨rfl,rfl,_,stepG_mark0 .disable ag rfl rfl (by k_ne) rfl cP.f_disable (x_disable_n link) (x_disable_b link) (x_disable_x link) (x_disable_f link),fI.cK (m:=60) ?_⟩;walk_nrm
 repeat w_go H.rely
 u_defer H.rely hF
 repeat w_go H.rely
 u_in H.rely hF
 rw[stepG_entry_pure (.bool false) rfl rfl (by k_ne) rfl cP.f_inBubble (x_inBubble_n link) (x_inBubble_b link) (x_inBubble_x link) (x_inBubble_f link)];simp only[goes_go];refine⟨by u_nil,?_⟩;walk_nrm
 repeat w_go H.rely
 u_call Tryz.func86 apZ Tryz.f86 H.rely hF
 repeat w_go H.rely
 refine Goes.stop (λal r=> ?_);replace hF:=H.rely hF r;clear r;refine a7.stop λcO r=> ?_;replace hF:=H.rely hF r;clear r;refine⟨rfl,rfl,λv p b=> ?_⟩;rcases jL v with rfl|k
 ·
  replace b:WgAt K.cW K.Wg cO 0 0:=(by simpa using b);have f:IntKind.u64.wrap (0+4294967296)=(((0:Nat):Int)+1)*KK:=aE;have a:=H.set (((0:Nat)+1)*KK) hF;refine⟨_,(stepG_add_atomic rfl rfl (by k_ne) rfl cP.f_addU64 (x_addU64_n link) (x_addU64_b link) (x_addU64_x link) .u64 (x_addU64_f link) rfl rfl b.cellSt (b.thaw 0)).trans (by rw[f];rfl),fI.cK (m:=110) ?_⟩;replace hF:=a;clear b a f;generalize(cO.setCell (stA K.Wg) (.int .u64 (((0:Nat)+1)*KK)):ab)=w at hF⊢;simp only[KK];walk_nrm
  repeat w_go H.rely
  u_leave1 Tryz.func86 H.rely hF
  repeat w_go H.rely
  m_convG Tryz.prog cP.underlying_tUP cP.underlying_tPU32 YX (H.YZ hF).choose_spec H.rely hF
  refine Goes.stop (λal r=>a7.fW rfl λcO g=> ?_);replace hF:=H.rely (H.rely hF r) g;clear r g;refine⟨⟨aN,1⟩,_,_,_,stepG_markAt .read ag rfl rfl (by k_ne) rfl cP.f_raceRead (x_raceRead_n link) (x_raceRead_b link) (x_raceRead_x link) (x_raceRead_f link) (ad:=⟨K.Wg,1,none⟩) (by simp[Act.eval]),ap0 _ rfl,fI.cK (m:=70) ?_⟩;walk_nrm
  repeat w_go H.rely
  refine Goes.stop (λal r=> ?_);replace hF:=H.rely hF r;clear r;refine a7.stop λal r=> ?_;replace hF:=H.rely hF r;clear r;refine⟨rfl,rfl,_,stepG_unwind_entry (v:=.tuple #[]) (evs:= #[mk .enable]) rfl cP.f_enable (x_enable_n link) (x_enable_b link) (x_enable_x link) (x_enable_f link) (by simp[Extern.Race.none_]) (by simp[mk]) (by simp[mk]),fI.cK (m:=5) ?_⟩;u_leave0 Tryz.func48 H.rely hF
  exact Goes.stop λl r=>e _ (H.rely hF r)
 ·
  obtain⟨V,d⟩:∃V:Int,V=(v:Int)+1:=⟨_,rfl⟩;obtain⟨S,c⟩:∃S:Int,S=V*KK:=⟨_,rfl⟩;have h:IntKind.u64.wrap ((v:Int)*KK+4294967296)=S:=(by rw[IntKind.wrap_u64,c,d];simp only[KK];omega);rw[<-d,<-c];have q:S / 4294967296=V:=(by rw[c];simp only[KK];omega);have s:bits .and .u64 S 2147483648=0:=(by rw[c,d];have:=st_flag (v+1) 0 U U;simpa[KK]using this);have t:bits .and .u64 S 2147483647=0:=(by rw[c,d];have:=st_waiters (v+1) 0 U U;simpa[KK]using this);have u:IntKind.i32.wrap V=V:=(by rw[IntKind.wrap_i32];omega);have n:1<V:=U;have o:V<2147483648:=U;have x:(V==1)=false:=a5;have y:decide (V=1)=false:=yQ U;have z:decide (V<0)=false:=yQ U;have A:decide (0<V)=true:=vE U;have B:(V==0)=false:=a5;have C:decide (V=0)=false:=yQ U;have a:=H.set S hF;refine⟨_,(stepG_add_atomic rfl rfl (by k_ne) rfl cP.f_addU64 (x_addU64_n link) (x_addU64_b link) (x_addU64_x link) .u64 (x_addU64_f link) rfl rfl b.cellSt (b.thaw 0)).trans (by rw[h];rfl),fI.cK (m:=110) ?_⟩;replace hF:=a;clear b a c d h;generalize(cO.setCell (stA K.Wg) (.int .u64 S):ab)=w at hF⊢;walk_nrm
  repeat w_go H.rely
  u_leave1 Tryz.func86 H.rely hF
  repeat (first|w_go H.rely|u_cnd false H.rely hF|u_cnd true H.rely hF)
  refine Goes.stop (λal r=> ?_);replace hF:=H.rely hF r;clear r;refine a7.stop λal r=> ?_;replace hF:=H.rely hF r;clear r;refine⟨rfl,rfl,_,stepG_unwind_entry (v:=.tuple #[]) (evs:= #[mk .enable]) rfl cP.f_enable (x_enable_n link) (x_enable_b link) (x_enable_x link) (x_enable_f link) (by simp[Extern.Race.none_]) (by simp[mk]) (by simp[mk]),fI.cK (m:=5) ?_⟩;u_leave0 Tryz.func48 H.rely hF
  exact Goes.stop λl r=>e _ (H.rely hF r)
end
end Go.bp
