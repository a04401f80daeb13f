import Derived.Test.YtlcdgbhigfgehabGreatDoorQA12
import Derived.Test.YtlcdgbhigfgehabGreatDoorProg
import Derived.Conc.WgGenLoneE
import Derived.KernelRfl
set_option linter.all false
set_option maxRecDepth 100000
set_option maxHeartbeats 16000000
namespace Go.bp
open Go Go.Conc Go.ConcN Go.ConcM Go.RowKit Go.Conc.Lib Go.ConcR.Gen Go.Proofs
open Go.ConcR (KK wgBlock WgAt stA smA rd wr mk)
abbrev link:Go.Conc.Lib.WgLink:={add:=48,done:=50,wait:=52,relMerge:=79,disable:=80,enable:=81,inBubble:=82,associate:=83,fatal:=84,uOr:=85,uAdd:=86,raceRead:=87,uLoad:=88,uStore:=89,disassociate:=90,semrelease:=91,acquire:=92,isAssociated:=93,uCas:=94,raceWrite:=95,semacquire:=96,orU64:=127,addU64:=128,loadU64:=129,storeU64:=130,casU64:=131,tWgP:=172,tUP:=129,tAssoc:=174,tWg:=116,tAU:=114,tU64:=112,tUint:=178,tU32:=92,tPU32:=179,tPAU:=239,tPU64:=241,tNoCopy:=91,tANoCopy:=110,tAlign64:=111}
def cP:Go.Conc.Lib.WgLib Tryz.prog link:=⟨Tryz.func48,Tryz.func50,Tryz.func52,Tryz.func79,Tryz.func80,Tryz.func81,Tryz.func82,Tryz.func83,Tryz.func84,Tryz.func85,Tryz.func86,Tryz.func87,Tryz.func88,Tryz.func89,Tryz.func90,Tryz.func91,Tryz.func92,Tryz.func93,Tryz.func94,Tryz.func95,Tryz.func96,Tryz.func127,Tryz.func128,Tryz.func129,Tryz.func130,Tryz.func131,Tryz.underlying172,Tryz.runUnderlying172,Tryz.sizeOf172,Tryz.isAgg172,Tryz.zeroValue172,Tryz.underlying129,Tryz.runUnderlying129,Tryz.sizeOf129,Tryz.isAgg129,Tryz.zeroValue129,Tryz.underlying174,Tryz.runUnderlying174,Tryz.sizeOf174,Tryz.isAgg174,Tryz.zeroValue174,Tryz.underlying116,Tryz.runUnderlying116,Tryz.sizeOf116,Tryz.isAgg116,Tryz.zeroValue116,Tryz.underlying114,Tryz.runUnderlying114,Tryz.sizeOf114,Tryz.isAgg114,Tryz.zeroValue114,Tryz.underlying112,Tryz.runUnderlying112,Tryz.sizeOf112,Tryz.isAgg112,Tryz.zeroValue112,Tryz.underlying178,Tryz.runUnderlying178,Tryz.sizeOf178,Tryz.isAgg178,Tryz.zeroValue178,Tryz.underlying92,Tryz.runUnderlying92,Tryz.sizeOf92,Tryz.isAgg92,Tryz.zeroValue92,Tryz.underlying179,Tryz.runUnderlying179,Tryz.sizeOf179,Tryz.isAgg179,Tryz.zeroValue179,Tryz.underlying239,Tryz.runUnderlying239,Tryz.sizeOf239,Tryz.isAgg239,Tryz.zeroValue239,Tryz.underlying241,Tryz.runUnderlying241,Tryz.sizeOf241,Tryz.isAgg241,Tryz.zeroValue241,Tryz.underlying0,Tryz.runUnderlying0,Tryz.sizeOf0,Tryz.isAgg0,Tryz.zeroValue0,Tryz.underlying3,Tryz.runUnderlying3,Tryz.sizeOf3,Tryz.isAgg3,Tryz.zeroValue3,Tryz.underlying4,Tryz.runUnderlying4,Tryz.sizeOf4,Tryz.isAgg4,Tryz.zeroValue4,Tryz.underlying9,Tryz.runUnderlying9,Tryz.sizeOf9,Tryz.isAgg9,Tryz.zeroValue9,Tryz.underlying20,Tryz.runUnderlying20,Tryz.sizeOf20,Tryz.isAgg20,Tryz.zeroValue20,Tryz.underlying21,Tryz.runUnderlying21,Tryz.sizeOf21,Tryz.isAgg21,Tryz.zeroValue21,ah,ah⟩
def ak5:(Tryz.f34.name== "runtime.NumGoroutine")=false:=ah
def ak6:(Tryz.f35.name== "runtime.NumGoroutine")=false:=ah
def ak7:(Tryz.f64.name== "runtime.NumGoroutine")=false:=ah
def ak8:(Tryz.f65.name== "runtime.NumGoroutine")=false:=ah
def ak9:(Tryz.f112.name== "runtime.NumGoroutine")=false:=ah
def W2:(Tryz.f114.name== "runtime.NumGoroutine")=false:=ah
def qx:(Tryz.f111.name== "runtime.NumGoroutine")=false:=ah
def qy:Tryz.f111.body.isNone=true:=ah
def qz:Extern.findNext Tryz.f111=none:=ah
def qA:Extern.find Tryz.f111=some (Extern.Atomic.casT (.int .i32)):=ah
def xk:(Tryz.f113.name== "runtime.NumGoroutine")=false:=ah
def xl:Tryz.f113.body.isNone=true:=ah
def xm:Extern.findNext Tryz.f113=none:=ah
def xn:Extern.find Tryz.f113=some (Extern.Atomic.update (Op.intArith .add) .i32 true):=ah
def OI:(Tryz.f141.name== "runtime.NumGoroutine")=false:=ah
def OJ:Tryz.f141.body.isNone=true:=ah
def OK:Extern.findNext Tryz.f141=none:=ah
def OL:Extern.find Tryz.f141=some (Extern.Sync.canSpin):=ah
def OM:(Tryz.f144.name== "runtime.NumGoroutine")=false:=ah
def ON:Tryz.f144.body.isNone=true:=ah
def OO:Extern.findNext Tryz.f144=none:=ah
def OP:Extern.find Tryz.f144=some (Extern.OsHooks.nano):=ah
def OQ:(Tryz.f145.name== "runtime.NumGoroutine")=false:=ah
def OR:Tryz.f145.body.isNone=true:=ah
def OS:Extern.findNext Tryz.f145=none:=ah
def OT:Extern.find Tryz.f145=some (Extern.Sync.semacquire):=ah
def W3:(Tryz.f147.name== "runtime.NumGoroutine")=false:=ah
def Hv:Tryz.f147.body.isNone=true:=ah
def W4:Extern.findNext Tryz.f147=none:=ah
def W5:Extern.find Tryz.f147=some (Extern.Sync.semrelease):=ah
def ala:(Tryz.f142.name== "runtime.NumGoroutine")=false:=ah
def alb:Tryz.f142.body.isNone=true:=ah
def alc:Extern.findNext Tryz.f142=none:=ah
def ald:Extern.find Tryz.f142=some (λ_=>pure (.tuple #[])):=ah
def OU:Tryz.f144.norace=true:=ah
def Dk:Tryz.prog.underlying 217=some (.pointer 94):=ah
def Dl:(Tryz.prog.info? 94).map (λi=>decide (i.size=0))=some false:=ah
def W6:(Tryz.prog.funcs[(base 65).fn]?).any (·.norace)=true:=ah
def Dm:(Tryz.prog.funcs[(base 112).fn]?).any (·.norace)=true:=ah
def ale:(Tryz.prog.funcs[(base 114).fn]?).any (·.norace)=true:=ah
section
variable{main:Bool}{b:Frame}{a:Act}{kk:List Item}{cs:List Frame}{w:World}{ops:Array Oper}{i:Nat}{rest:List Nat}{o:Oper}
def u7{x:Operand}(ap:ops[i]? =some o)(f:Region.wanted o (yielded ops a.tmps)=true)(hk:b.kind≠.early)(c:o.op=.load 21 x){ad:Addr}{v:Int}(d:a.eval x=.pointer (some ad))(e:w.cell? ad=some (.int .i32 v))(g:(Tryz.prog.funcs[b.fn]?).any (·.norace)=true): stepG Tryz.prog main (G (b.at a (.inRegion ops (i::rest)::kk)) cs) w=.go (G (b.at (a.put o.dst (.int .i32 v)) (.inRegion ops rest::kk)) cs) w #[]:=by
 have h:(execOp a.eval o).run Tryz.prog w=.ok (.value (.int .i32 v)) w:=by
  unfold execOp;simp only[c,d];simp[go_sem,e]
 have j:(execOp a.eval o).events Tryz.prog w #[]= #[⟨.cell ad,false,false⟩]:=by
  unfold execOp;simp only[c,d];simp[go_sem,e]
 rw[stepG_value ap f hk h];unfold listed;rw[j,seen_def,g];simp[seenStep]
end
end Go.bp
namespace Go.bp
open Go Go.Conc Go.ConcN Go.RowKit Go.Conc.Lib Go.ConcR.Gen Go.Proofs Go.bG Go.Ren
open Go.ConcR (KK wgBlock WgAt stA smA rd wr mk DC0)
open Go.ConcM (OsLater goes_pad goes_le)
open Go.aS (Th Sh a6 mv Pc)
section
variable{K:bj}{w al w':World}{x:Sh}{j:Option Nat}{s:aM}
def _root_.Go.bG.e6.iy(h:e6 K w x):w.cell? ⟨K.bm,0,none⟩=some (.int .i32 x.x.enc):=by unfold e6 at h;simp[World.cell?,h,xj]
def _root_.Go.bG.e6.Dn(h:e6 K w x):w.cell? ⟨K.bm,1,none⟩=some (.int .u32 x.m):=by unfold e6 at h;simp[World.cell?,h,xj]
def _root_.Go.bG.e6.thaw(h:e6 K w x)(i:Nat):w.frozen? ⟨K.bm,i,none⟩=false:=by unfold e6 at h;simp[World.frozen?,h,xj]
def _root_.Go.bG.e6.rE(h:e6 K w x)(y:a6):e6 K (w.setCell ⟨K.bm,0,none⟩ (.int .i32 y.enc)) {x with x:=y}:=by
 unfold e6 at h⊢;show(w.heap.modify _ _)[K.bm]? =_
 rw[fA,h];simp[xj]
def _root_.Go.bG.e6.Dp(h:e6 K w x)(m:Nat):e6 K (w.setCell ⟨K.bm,1,none⟩ (.int .u32 m)) {x with m:=m}:=by
 unfold e6 at h⊢;show(w.heap.modify _ _)[K.bm]? =_
 rw[fA,h];simp[xj]
def _root_.Go.bG.pB.refl(K:bj)(w:ab):pB K w w:=⟨rfl,rfl,rfl,.refl _,λ_ _=>rfl⟩
def _root_.Go.bG.pB.set(K:bj)(w:ab)(i:Nat)(v:ai):pB K w (w.setCell ⟨K.bm,i,none⟩ v):=⟨rfl,rfl,by simp[World.setCell],.refl _,λk hk=>by show(w.heap.modify _ _)[k]? =_;rw[fA,aC (λe=>hk e.symm)]⟩
structure Geo(K:bj)(aN:Nat->Prop):Prop where
 own:¬aN K.bm
 ro:¬K.ro K.bm
 bq:K.bb≠K.bm
 wg:K.Wg≠K.bm
structure aR(K:bj)(i:Nat)(aN:Nat->Prop)(W w:ab):Prop where
 aT:hf K w
 wg:WgLive K w
 pay:hg K w
 kept:∀b,b<W.heap.size->aN b\/K.ro b->w.heap[b]? =W.heap[b]?
 cell:w.cell? ⟨K.bb,i,none⟩=W.cell? ⟨K.bb,i,none⟩
 size:W.heap.size<=w.heap.size
 dx:Geo K aN
section
variable{i d:Nat}{aN:Nat->Prop}{W:World}
def aR.rely(h:aR K i aN W w)(r:Rl K (some i) ⟨aN,d⟩ w al):aR K i aN W al:=⟨r.aT h.aT,r.wg h.wg,r.pay h.pay,λb a c=>(r.kept b (fl a h.size) c).trans (h.kept b a c),(r.cell i rfl).trans h.cell,dU h.size r.size,h.dx⟩
def aR.mu(h:aR K i aN W w):∃v:ai,w.cell? ⟨K.bm,0,none⟩=some v:=by
 have⟨x,a⟩:=h.aT;exact⟨_,a.iy⟩
def aR.OV(h:aR K i aN W w):∃v:Int,w.cell? ⟨K.bm,0,none⟩=some (.int .i32 v):=by
 have⟨x,a⟩:=h.aT;exact⟨_,a.iy⟩
def aR.iW(h:aR K i aN W w)(e:pB K w w')(c:e6 K w' x):aR K i aN W w':=by
 refine⟨⟨x,c⟩,?_,?_,λb d a=>(e.block b ?_).trans (h.kept b d a),?_,by rw[e.size];exact h.size,h.dx⟩
 .have⟨f,g,q⟩:=h.wg;exact⟨f,g,(e.block _ h.dx.wg).trans q⟩
 .have⟨cs,q,a8⟩:=h.pay;exact⟨cs,(e.block _ h.dx.bq).trans q,a8⟩
 .rintro rfl;exact a.elim h.dx.own h.dx.ro
 .rw[<-h.cell];simp only[World.cell?];rw[e.block _ h.dx.bq]
end
end
section
variable(K:bj)(aL:bu->Obj->Prop)(Post:Nat->(Nat->Prop)->World->Prop)(i:Nat)(kd:Int)
abbrev cq(T:Th)(v:bu)(s:aM)(k m:Nat)(g:aY)(w:ab):Prop:=Goes Tryz.prog false (Rl K (some i) s) DC0 (oN Tryz.prog K aL Post i kd k T v s) m g w
variable{K aL Post i kd}
def zT{s:aM}{a b:ab}{es:bI}(h:DC0 a b es):e7 K (some i) s s a b es:=by
 obtain⟨rfl,rfl⟩:=h;exact⟨rfl,.refl _,rfl,bh _,λ_ _ _ _=>rfl,id,λ_ _=>rfl,λb=>⟨.inl,λh=>h.elim id λh=>U⟩,λe c=>by simp at c,by simp[deafBehind]⟩
def cq.cK{T:Th}{v:bu}{s:aM}{k m:Nat}{g:aY}{w:ab}(h:cq K aL Post i kd T v s k m g w):dW Tryz.prog K i (oN Tryz.prog K aL Post i kd k T v) s g w:=(a7.wS (own:=s) (Gu:=e7 K (some i)) (λ_ _ r=>r) (λ_ _ _ h=>zT h) h).mono (λ_ _ _ r=>r) (λ_ _ _ _ _ h=>h) λ_ _ _ ⟨e,h⟩=>e▸h
def cq.dt{T:Th}{v:bu}{s:aM}{k m:Nat}{g:aY}{w:ab}(h:cq K aL Post i kd T v s k m g w)(a:T.pc≠.out):u6 Tryz.prog K Post i (oN Tryz.prog K aL Post i kd k) T v s g w:=by
 unfold u6;rw[aC a];exact h.cK
abbrev dV(K:bj)(aL:bu->Obj->Prop)(Post:Nat->(Nat->Prop)->ab->Prop)(i:Nat)(kd:Int)(T:Th)(v:bu)(s:aM)(k m:Nat)(g:aY)(w:ab):Prop:=Goes Tryz.prog false (Rl K (some i) s) DC0 (λg w=>dW Tryz.prog K i (oN Tryz.prog K aL Post i kd k T v) s g w) m g w
def dV.cK{T:Th}{v:bu}{s:aM}{k m:Nat}{g:aY}{w:ab}(h:dV K aL Post i kd T v s k m g w):dW Tryz.prog K i (oN Tryz.prog K aL Post i kd k T v) s g w:=a7.bind (hZ K (some i)) (a7.wS (own:=s) (Gu:=e7 K (some i)) (λ_ _ r=>r) (λ_ _ _ h=>zT h) h) λ_ _ _ ⟨e,h⟩=>e▸h
def dV.dt{T:Th}{v:bu}{s:aM}{k m:Nat}{g:aY}{w:ab}(h:dV K aL Post i kd T v s k m g w)(a:T.pc≠.out):u6 Tryz.prog K Post i (oN Tryz.prog K aL Post i kd k) T v s g w:=by
 unfold u6;rw[aC a];exact h.cK
def xo{K:bj}(d:Nat):(∀e∈(#[]:bI),u4 K e)/\deafBehind d #[]=d:=⟨ag,by simp[deafBehind]⟩
def bk_dis{K:bj}(d:Nat):(∀e∈#[mk .disable],u4 K e)/\deafBehind d #[mk .disable]=d+1:=⟨by intro e a;simp at a;exact .inl a,rfl⟩
def bk_en{K:bj}(d:Nat):(∀e∈#[mk .enable],u4 K e)/\deafBehind (d+1) #[mk .enable]=d:=⟨by intro e a;simp at a;exact .inr (.inl a),rfl⟩
def Hw{K:bj}(d:Nat)(a:Addr)(x:Bool)(h:a=iw K\/a=Hs K):(∀e∈#[(⟨.cell a,x,true⟩:Event)],u4 K e)/\deafBehind d #[(⟨.cell a,x,true⟩:Event)]=d:=⟨by intro e b;simp at b;exact .inr (.inr ⟨a,x,b,h⟩),rfl⟩
def bk_rw{K:bj}(d:Nat)(a:Addr)(h:a=iw K\/a=Hs K):(∀e∈#[(⟨.cell a,false,true⟩:Event),⟨.cell a,true,true⟩],u4 K e)/\deafBehind d #[(⟨.cell a,false,true⟩:Event),⟨.cell a,true,true⟩]=d:=⟨by intro e b;simp at b;rcases b with rfl|rfl<;>exact .inr (.inr ⟨a,_,rfl,h⟩),rfl⟩
def W7:a6.enc {}=0:=rfl
def W8{x:a6}(h:x≠{}):¬x.enc=0:=λe=>h (a6.Hp (e.trans W7.symm))
end
noncomputable def OW:Code:=Tryz.f34.body.getD .skip
noncomputable def h1:Code:=Tryz.f112.body.getD .skip
section
variable{K:bj}{aL:bu->Obj->Prop}{Post:Nat->(Nat->Prop)->World->Prop}{i:Nat}{kd:Int}{aN:Nat->Prop}
variable{b₀:Frame}{a₀:Act}{ops₀:Array Oper}{i₀:Nat}{rest₀:List Nat}{k₀:List Item}{cs:List Frame}
def eB(K:bj)(aL:bu->Obj->Prop)(Post:Nat->(Nat->Prop)->ab->Prop)(i:Nat)(kd:Int)(aN:Nat->Prop)(W:ab)(g:aY):Prop:=∀(k':Nat)(f:bu)(T:Th),T.pc=.ur->(∀q,f q<=K.n)->∃m,∀w,aR K i aN W w->ix K aL w f->dV K aL Post i kd T (f.add kd) ⟨λb=>aN b\/b=K.bU,0⟩ k' m g w
def W9(K:bj)(aL:bu->Obj->Prop)(Post:Nat->(Nat->Prop)->ab->Prop)(i:Nat)(kd:Int)(aN:Nat->Prop)(W:ab):Prop:=∀(er:bY)(et:Act)(du:dn)(eu:Nat)(ev:cw)(ew:eQ)(ey:bW),eB K aL Post i kd aN W (G (er.at (et.put ((du[eu]?).bind (·.dst)) (.tuple #[])) (.inRegion du ev::ew)) ey)->∀(v:bu)(T:Th)(k:Nat)(w:ab),T.pc=.r0->aR K i aN W w->cq K aL Post i kd T v ⟨aN,1⟩ k 60 (G ((base 112).at ⟨#[.pointer (some ⟨K.bm,0,none⟩),I,I,I,I,I,I,I,I,I,I,I,I,I,I,I,I,I,I,I,I,I,I,I,I,I,I,I,I,I,I,I,I,I,I,I,I,I,I,I,I,I,I,I,I,I,I,I,I,I,I,I,I,I,I,I,I,I,I,I,I,I,I,I,I,I,I,I,I,I,I,I,I,I,I,I,I,I,I,I,I,I,I,I,I,I,I,I,I,I,I,I,I,I,I,I,I,I,I,I,I,I,I,I,I,I,I,I,I,I,I,I,I,I,I,I,I,I,I,I,I,I,I,I,I,I,I,I,I,I,I,I,I,I,I,I,I,I,I],[]⟩ [.code h1]) (er.at et (.inRegion du (eu::ev)::ew)::ey)) w
end
end Go.bp
namespace Go.bp
open Go Go.Conc Go.ConcN Go.RowKit Go.Conc.Lib Go.ConcR.Gen Go.Proofs Go.bG Go.Ren
open Go.ConcR (KK wgBlock WgAt stA smA rd wr mk DC0)
open Go.ConcM (OsLater goes_pad goes_le)
open Go.aS (Th Sh a6 mv Pc)
section
variable{K:bj}{aL:bu->Obj->Prop}{Post:Nat->(Nat->Prop)->World->Prop}{i:Nat}{kd:Int}{aN:Nat->Prop}{W:World}
variable{b₀:Frame}{a₀:Act}{ops₀:Array Oper}{i₀:Nat}{rest₀:List Nat}{k₀:List Item}{cs:List Frame}
def e8{f:bu}{d:Nat}{w al:ab}(h:aR K i aN W w/\ix K aL w f)(r:Rl K (some i) ⟨λb=>aN b\/b=K.bU,d⟩ w al):aR K i aN W al/\ix K aL al f:=by
 obtain⟨c,o,a,e⟩:=h;exact⟨c.rely (d:=d) (r.weaken λb h=>.inl h),o,(r.kept K.bU (bQ.1 a).1 (.inl (.inr rfl))).trans a,e⟩
def alf(t:W9 K aL Post i kd aN W)(o:eB K aL Post i kd aN W (G (b₀.at (a₀.put ((ops₀[i₀]?).bind (·.dst)) (.tuple #[])) (.inRegion ops₀ rest₀::k₀)) cs))(v:bu): ∀k w,aR K i aN W w->cq K aL Post i kd {pc:=.ld} v ⟨aN,0⟩ k 40 (G ((base 34).at ⟨#[.pointer (some ⟨K.bm,0,none⟩),I,I,I,I,I],[]⟩ [.code OW]) (b₀.at a₀ (.inRegion ops₀ (i₀::rest₀)::k₀)::cs)) w:=by
 intro k w hF;simp only[OW,Tryz.f34,e2];repeat w_go aR.rely
 u_call Tryz.func64 ak7 Tryz.f64 aR.rely hF
 repeat w_go aR.rely
 refine Goes.stop (λ_ a=> ?_);replace hF:=aR.rely hF a;clear a;rcases k with _|k
 .rfl
 refine⟨rfl,rfl,rfl,ag,ag,λx c _ _=>⟨by simp[mv],λ_ _ _=>⟨({pc:=.l0},x),by simp[mv],λ_=>⟨_,_,_,stepG_mark0 .disable ag rfl rfl (by k_ne) rfl cP.f_disable (x_disable_n link) (x_disable_b link) (x_disable_x link) (x_disable_f link),rfl,c,.refl _ _,bk_dis 0,cq.dt (m:=30) ?_ ag⟩⟩⟩⟩;walk_nrm
 repeat w_go aR.rely
 refine Goes.stop (λ_ a=> ?_);replace hF:=aR.rely hF a;clear a;rcases k with _|k
 .rfl
 refine⟨rfl,rfl,rfl,ag,ag,λx c _ _=>⟨λh=> ?_,λ_ _ _=> ?_⟩⟩
 .exfalso;revert h;simp only[mv];(repeat' split)<;>simp
 by_cases e:x.x={}
 .have p:=c.iy;rw[e,W7]at p;refine⟨({pc:=.le},{x with x:={bC:=true}}),by simp[mv,e],λ_=>⟨_,_,_,stepG_cas_hit rfl rfl (by k_ne) rfl Tryz.func111 qx qy qz .i32 qA rfl rfl rfl p (c.thaw 0),rfl,c.rE {bC:=true},.set _ _ 0 _,bk_rw 1 _ (.inl rfl),cq.dt (m:=30) ?_ ag⟩⟩;replace hF:=hF.iW (.set _ _ 0 _) (c.rE {bC:=true});walk_nrm
  repeat w_go aR.rely
  refine Goes.stop (λ_ a=> ?_);replace hF:=aR.rely hF a;clear a;rcases k with _|k
  .rfl
  refine⟨rfl,rfl,rfl,ag,ag,λy g _ _=>⟨by simp[mv],λ_ _ _=>⟨({pc:=.la},y),by simp[mv],λ_=>⟨_,_,_,stepG_mark0 .enable ag rfl rfl (by k_ne) rfl cP.f_enable (x_enable_n link) (x_enable_b link) (x_enable_x link) (x_enable_f link),rfl,g,.refl _ _,bk_en 0,cq.dt (m:=30) ?_ ag⟩⟩⟩⟩;walk_nrm
  repeat w_go aR.rely
  m_convG Tryz.prog cP.underlying_tUP Dk Dl hF.mu.choose_spec aR.rely hF
  refine Goes.stop (λ_ a=> ?_);replace hF:=aR.rely hF a;clear a;rcases k with _|k
  .rfl
  refine⟨rfl,rfl,rfl,ag,ag,λy g _ _=>⟨by simp[mv],λ_ f q=>⟨({pc:=.ur},y),by simp[mv],λ_=>⟨_,_,_,stepG_markAt .acquire ag rfl rfl (by k_ne) rfl cP.f_acquire (x_acquire_n link) (x_acquire_b link) (x_acquire_x link) (x_acquire_f link) (by simp[Act.eval];rfl),rfl,g,.refl _ _,rfl,?_⟩⟩⟩⟩;have⟨j,d⟩:=o k f {pc:=.ur} rfl (q rfl).2;refine dV.dt (m:=j+20) ?_ ag;replace hF:=And.intro hF (q rfl).1;walk_nrm
  show Goes Tryz.prog false (Rl K (some i) ⟨λb=>aN b\/b=K.bU,0⟩) DC0 _ _ _ _
  repeat w_go e8
  u_leave0 Tryz.func64 e8 hF
  repeat w_go e8
  u_leave0 Tryz.func34 e8 hF
  repeat w_go e8
  exact goes_pad (d _ hF.1 hF.2) _
 ·
  refine⟨({pc:=.r0},x),by simp[mv,e],λ_=>⟨_,_,_,stepG_cas_miss rfl rfl (by k_ne) rfl Tryz.func111 qx qy qz .i32 qA rfl rfl rfl c.iy (c.thaw 0) (W8 e),rfl,c,.refl _ _,Hw 1 _ false (.inl rfl),cq.dt (m:=80) ?_ ag⟩⟩;walk_nrm
  repeat w_go aR.rely
  u_call Tryz.func112 ak9 Tryz.f112 aR.rely hF
  refine goes_le U (t _ _ _ _ _ _ _ ?_ _ _ k _ rfl hF);intro k' f T l n;have⟨j,d⟩:=o k' f T l n;refine⟨j+20,λw r s=> ?_⟩;have hF:=And.intro r s;clear r s;walk_nrm
  show Goes Tryz.prog false (Rl K (some i) ⟨λb=>aN b\/b=K.bU,0⟩) DC0 _ _ _ _
  repeat w_go e8
  u_leave0 Tryz.func64 e8 hF
  repeat w_go e8
  u_leave0 Tryz.func34 e8 hF
  exact goes_pad (d _ hF.1 hF.2) _
end
end Go.bp
namespace Go.bp
open Go Go.Conc Go.ConcN Go.RowKit Go.Conc.Lib Go.ConcR.Gen Go.Proofs Go.bG Go.Ren
open Go.ConcR (KK wgBlock WgAt stA smA rd wr mk DC0)
open Go.ConcM (OsLater goes_pad goes_le)
open Go.aS (Th Sh a6 mv Pc fw)
def sY:Code->Option Code
 |.loop c=>some c
 |.seq x y=>match sY x with|some c=>some c|none=>sY y
 |.block _ c=>sY c
 |.cond _ x y=>match sY x with|some c=>some c|none=>sY y
 |_=>none
noncomputable def OX:Code:=Tryz.f114.body.getD .skip
noncomputable def Hx:Code:=(sY OX).getD .skip
section
variable{K:bj}{aL:bu->Obj->Prop}{Post:Nat->(Nat->Prop)->World->Prop}{i:Nat}{kd:Int}{aN:Nat->Prop}{W:World}
variable{b₀:Frame}{a₀:Act}{ops₀:Array Oper}{i₀:Nat}{rest₀:List Nat}{k₀:List Item}{cs:List Frame}
def alg(K:bj)(aL:bu->Obj->Prop)(Post:Nat->(Nat->Prop)->ab->Prop)(i:Nat)(kd:Int)(aN:Nat->Prop)(W:ab)(b₀:bY)(a₀:Act)(ops₀:dn)(i₀:Nat)(rest₀:cw)(k₀:eQ)(cs:bW)(v:bu)(k:Nat)(T:Th)(it:eQ):Prop:=∀{{hE zU Hy rF sZ kH h2 h3 iX iY iZ ja jb jc jd je jf jg jh ji jj jk jl jm jo jq jr ju jv jw jx jy jz jA jB jC jD jE jF jG jH:ai}}{{w:ab}},aR K i aN W w->cq K aL Post i kd (fw T) v ⟨aN,1⟩ k 100 (G ((base 114).at ⟨#[.pointer (some ⟨K.bm,0,none⟩),hE,zU,Hy,.int .i32 T.old.enc,rF,sZ,kH,h2,h3,iX,iY,iZ,ja,jb,jc,jd,je,jf,jg,jh,ji,jj,jk,jl,jm,jo,jq,jr,ju,jv,jw,jx,jy,jz,jA,jB,jC,jD,jE,jF,jG,jH],[]⟩ it) (b₀.at a₀ (.inRegion ops₀ (i₀::rest₀)::k₀)::cs)) w
def Hz{x:a6}:x.enc / 8=(x.q:Int):=by
 obtain⟨a,b,c,d⟩:=x;cases a<;>cases b<;>cases c<;>simp[a6.enc]<;>omega
def xp(x:a6):0<=x.enc/\x.enc<=8*x.q+7:=by
 obtain⟨a,b,c,d⟩:=x;cases a<;>cases b<;>cases c<;>simp[a6.enc]<;>omega
def HA(T:Th):(fw T).pc=.ue\/(fw T).pc=.uc:=by unfold fw;split<;>simp
def HB(T:Th):h0 (fw T)=1:=by unfold h0;rcases HA T with h|h<;>rw[h]
def alh{K:bj}{T:Th}(h:T.pc=.ux)(az:Th)(y:Sh):rC K T (fw az,y).1 #[]:=by
 unfold rC;rw[h];refine⟨ag,?_⟩;rw[HB];unfold h0;rw[h];rfl
def Xa(T:Th):(fw T).pc≠.out:=by rcases HA T with h|h<;>rw[h]<;>simp
def bk_sem{K:bj}(d:Nat)(a:Addr)(h:a=iw K\/a=Hs K):(∀e∈semEvents a,u4 K e)/\deafBehind d (semEvents a)=d:=by
 refine⟨?_,by simp[deafBehind,semEvents]⟩;intro e he;simp[semEvents]at he;rcases he with rfl|rfl|rfl|rfl
 .exact .inl rfl
 .exact .inr (.inr ⟨a,_,rfl,h⟩)
 .exact .inr (.inr ⟨a,_,rfl,h⟩)
 .exact .inr (.inl rfl)
def ali(v:bu)(D:∀(T:Th)k',T.pc=.ue->∀w,aR K i aN W w->cq K aL Post i kd T v ⟨aN,1⟩ k' 40 (G (b₀.at (a₀.put ((ops₀[i₀]?).bind (·.dst)) (.tuple #[])) (.inRegion ops₀ rest₀::k₀)) cs) w): ∀(k:Nat)(T:Th),T.old.q<31->alg K aL Post i kd aN W b₀ a₀ ops₀ i₀ rest₀ k₀ cs v k T [.code Hx,.inLoop Hx,.inBlock 0]:=by
 intro k;induction k using Nat.strongRecOn with
 |_ k L=>
 intro T A;obtain⟨pc,old,b,c,d,f,g⟩:=T;have s:=aS.ak2 (x:=old) (by simp only at A;omega);intro _;intros;rename_i w hF;by_cases a:old.q=0\/old.bC=true\/old.wk=true\/old.a4=true
 .have B:fw ⟨pc,old,b,c,d,f,g⟩=⟨.ue,old,b,c,d,f,g⟩:=(by simp only[fw];rw[aV a]);have j:=D ⟨.ue,old,b,c,d,f,g⟩ k rfl;rw[B];simp only[Hx,OX,sY,Tryz.f114,e2];rcases C:(old.enc / 8==0)with _|_
  .have M:(bits .and .i32 old.enc 7 !=0)=true:=by
    have n:old.q≠0:=λe=>(by rw[Hz,e]at C;simp at C);rw[s];rcases a with a|a|a|a
    .exact absurd a n
    all_goals rw[a];cases old.bC<;>cases old.wk<;>cases old.a4<;>simp[aS.hY]
   clear s;repeat w_go aR.rely
   u_leave0 Tryz.func114 aR.rely hF
   exact goes_le U (j _ hF)
  .clear s;repeat w_go aR.rely
   u_leave0 Tryz.func114 aR.rely hF
   exact goes_le U (j _ hF)
 .have n:old.q≠0:=λe=>a (.inl e);have E:old.bC=false:=(by cases e:old.bC;rfl;exact absurd (.inr (.inl e)) a);have N:old.wk=false:=(by cases e:old.wk;rfl;exact absurd (.inr (.inr (.inl e))) a);have F:old.a4=false:=(by cases e:old.a4;rfl;exact absurd (.inr (.inr (.inr e))) a);have B:fw ⟨pc,old,b,c,d,f,g⟩=⟨.uc,old,b,c,d,f,g⟩:=(by simp only[fw];rw[aC a]);have C:(old.enc / 8==0)=false:=(by rw[Hz];simpa using n);have M:(bits .and .i32 old.enc 7 !=0)=false:=(by rw[s,E,N,F];rfl);clear s;have P:bits .or .i32 ((old.enc - 8+2147483648) % 4294967296 - 2147483648) 2=a6.enc {old with q:=old.q - 1,wk:=true}:=by
   have e:(old.enc - 8+2147483648) % 4294967296 - 2147483648=a6.enc {old with q:=old.q - 1}:=by
    have Q:=xp old;simp only at A;have H:old.enc - 8=a6.enc {old with q:=old.q - 1}:=(by simp only[a6.enc];omega);rw[<-H];have aa:=xp {old with q:=old.q - 1};rw[<-H]at aa;simp only at aa;omega
   rw[e];exact aS.WV (x:={old with q:=old.q - 1}) (by simp only at A⊢;omega)
  rw[B];simp only[Hx,OX,sY,Tryz.f114,e2];repeat w_go aR.rely
  refine Goes.stop (λ_ l=> ?_);replace hF:=aR.rely hF l;clear l;rcases k with _|k
  .rfl
  refine⟨rfl,rfl,rfl,ag,ag,λx o J _=>⟨λh=> ?_,λ_ _ _=> ?_⟩⟩
  .exfalso;revert h;simp only[mv];(repeat' split)<;>simp
  by_cases z:x.x=old
  .have t:=o.iy;rw[z]at t;refine⟨(⟨.us,old,b,c,d,f,g⟩,{x with x:={wk:=true,q:=old.q - 1}}),by simp[mv,z,E,F],λ_=>⟨_,_,_,stepG_cas_hit rfl rfl (by k_ne) rfl Tryz.func111 qx qy qz .i32 qA rfl rfl rfl t (o.thaw 0),rfl,o.rE {wk:=true,q:=old.q - 1},.set _ _ 0 _,bk_rw 1 _ (.inl rfl),cq.dt (m:=40) ?_ ag⟩⟩;replace hF:=hF.iW (.set _ _ 0 _) (o.rE {wk:=true,q:=old.q - 1});walk_nrm
   repeat w_go aR.rely
   refine Goes.stop (λ_ l=> ?_);replace hF:=aR.rely hF l;clear l;rcases k with _|k
   .rfl
   refine⟨rfl,rfl,rfl,λ_=>mayWake_entry rfl rfl Tryz.func147 Hv,ag,λy p r _=>⟨by simp[mv],λ_ _ _=> ?_⟩⟩;have u:IntKind.u32.wrap ((y.m:Int)+1)=((y.m+1:Nat):Int):=(by have:=r.2;rcases(by omega:y.m=0\/y.m=1)with h|h<;>rw[h]<;>rfl);refine⟨(⟨.ue,old,b,c,d,f,g⟩,{y with m:=y.m+1}),by simp[mv],λ_=>⟨_,_,_,stepG_semrelease rfl rfl (by k_ne) rfl Tryz.func147 W3 Hv W4 W5 (by simp[Act.eval]) p.Dn (p.thaw 1),rfl,by rw[u];exact p.Dp (y.m+1),.set _ _ 1 _,bk_sem 1 _ (.inr rfl),?_⟩⟩;replace hF:=hF.iW (.set _ _ 1 _) (p.Dp (y.m+1));have j:=D ⟨.ue,old,b,c,d,f,g⟩ k rfl;refine cq.dt (m:=80) ?_ ag;rw[u];walk_nrm
   repeat w_go aR.rely
   u_leave0 Tryz.func114 aR.rely hF
   exact goes_le U (j _ hF)
  ·
   refine⟨(⟨.ux,old,b,c,d,f,g⟩,x),by simp[mv,z],λ_=>⟨_,_,_,stepG_cas_miss rfl rfl (by k_ne) rfl Tryz.func111 qx qy qz .i32 qA rfl rfl rfl o.iy (o.thaw 0) (λe=>z (a6.Hp e)),rfl,o,.refl _ _,Hw 1 _ false (.inl rfl),cq.dt (m:=40) ?_ ag⟩⟩;walk_nrm
   repeat w_go aR.rely
   refine Goes.stop (λ_ l=> ?_);replace hF:=aR.rely hF l;clear l;rcases k with _|k
   .rfl
   refine⟨rfl,rfl,rfl,ag,ag,λy p r _=>⟨by simp[mv],λ_ _ _=>⟨(fw ⟨.ux,y.x,b,c,d,f,g⟩,y),by simp[mv],λ_=>⟨_,_,_,u7 rfl rfl (by k_ne) rfl rfl p.iy ale,rfl,p,.refl _ _,alh rfl _ _,?_⟩⟩⟩⟩;have O:=L k U ⟨.ux,y.x,b,c,d,f,g⟩ r.1;refine cq.dt (m:=140) ?_ (Xa _);simp only[kG,HB];walk_nrm
   repeat w_nl aR.rely
   u_c stepG_inLoop aR.rely hF
   exact goes_le U (O hF)
end
end Go.bp
namespace Go.bp
open Go Go.Conc Go.ConcN Go.RowKit Go.Conc.Lib Go.ConcR.Gen Go.Proofs Go.bG Go.Ren
section
variable{K:bj}{j:Nat}{s:aM}{Stop:aM->Goroutine->World->Prop}
variable{b:Frame}{a:Act}{kk:List Item}{cs:List Frame}{w:World}{ops:Array Oper}{i:Nat}{rest:List Nat}{o:Oper}
def z2{d:Nat}{es:bI}(h:∀e∈es,∀m,e.loc≠.mark m):deafBehind d es=d:=by
 unfold deafBehind;rw[<-y0];have:∀(l:List Event)(d:Nat),(∀e∈l,∀m,e.loc≠.mark m)->l.foldl (λd e=>match e.loc with| .mark .disable=>d+1| .mark .enable=>d - 1|_=>d) d=d:=by
  intro l;induction l with
  |nil=>intros;rfl
  |cons e l b=>
   intro d h;simp only[rQ];have a:=h e ag;split
   .exact absurd ‹_› (a _)
   .exact absurd ‹_› (a _)
   .exact b d λx c=>h x (by simp[c])
 exact this _ _ λe f=>h e (by simpa using f)
def XQ{aH:bI}(h:∀e∈aH,EvA K (some j) s.own e)(hd:∀e∈aH,∀m,e.loc≠.mark m):e7 K (some j) s s w w aH:=⟨rfl,.refl _,rfl,bh _,λ_ _ _ _=>rfl,id,λ_ _=>rfl,λb=>⟨.inl,λh=>h.elim id λh=>U⟩,h,z2 hd⟩
def ta{F:ab->Prop}{t:TypeId}{x:Operand}{ad:Addr}{v:ai}(ap:ops[i]? =some o)(k:Region.wanted o (yielded ops a.tmps)=true)(hk:b.kind≠.early)(c:o.op=.load t x)(l:a.eval x=.pointer (some ad))(d:∀w,(isAgg t).run Tryz.prog w=.ok false w)(hF:F w)(n:∀{w al},F w->Rl K (some j) s w al->F al)(p:∀w,F w->w.cell? ad=some v)(f:EvA K (some j) s.own ⟨.cell ad,false,false⟩)(q:∀w,F w->dW Tryz.prog K j Stop s (G (b.at (a.put o.dst v) (.inRegion ops rest::kk)) cs) w):dW Tryz.prog K j Stop s (G (b.at a (.inRegion ops (i::rest)::kk)) cs) w:=by
 refine a7.fW rfl λal r=> ?_;have hF:=n hF r;have⟨aH,u,h⟩:=amT (P:=Tryz.prog) (main:=false) (rest:=rest) (kk:=kk) (cs:=cs) ap k hk c l (p al hF) (d al);exact⟨s,_,_,aH,u,XQ (λe g=>h e g▸f) (λe g m=>by rw[h e g];simp),q _ hF⟩
def amW{F:ab->Prop}{iC gT kK:TypeId}{x y:Operand}{r:Nat}{f:bu}{k:Int}(ap:ops[i]? =some o)(p:Region.wanted o (yielded ops a.tmps)=true)(hk:b.kind≠.early)(d:o.op=.lookup iC x y false)(t:a.eval x=.map (some r))(u:a.eval y=.int .i64 k)(v:Tryz.prog.underlying iC=some (.map gT kK))(z:Tryz.prog.underlying gT=some (.int .i64))(A:∀w,(zeroValue kK).run Tryz.prog w=.ok (.int .i64 0) w)(hF:F w)(B:∀{w al},F w->Rl K (some j) s w al->F al)(C:∀w,F w->∃o,w.heap[r]? =some o/\h5 f o)(g:s.own r)(D:∀w,F w->dW Tryz.prog K j Stop s (G (b.at (a.put o.dst (.int .i64 (f k))) (.inRegion ops rest::kk)) cs) w):dW Tryz.prog K j Stop s (G (b.at a (.inRegion ops (i::rest)::kk)) cs) w:=by
 refine a7.fW rfl λal q=> ?_;have hF:=B hF q;obtain⟨_,E,es,c,rfl,h,-⟩:=C al hF;have⟨aH,H,n⟩:=amU (P:=Tryz.prog) (main:=false) (rest:=rest) (kk:=kk) (cs:=cs) ap p hk d t u v z (A al) E h;exact⟨s,_,_,aH,H,XQ (λe l=>n e l▸.own (.inl rfl) g ag) (λe l m=>by rw[n e l];simp),D _ hF⟩
def amX{F:ab->Prop}{iC gT kK:TypeId}{x y z:Operand}{r:Nat}{f:bu}{k:Int}(ap:ops[i]? =some o)(C:Region.wanted o (yielded ops a.tmps)=true)(hk:b.kind≠.early)(n:o.op=.mapUpdate iC x y z)(D:a.eval x=.map (some r))(E:a.eval y=.int .i64 k)(t:a.eval z=.int .i64 ((f k:Int)+1))(H:Tryz.prog.underlying iC=some (.map gT kK))(aa:Tryz.prog.underlying gT=some (.int .i64))(hF:F w)(J:∀{w al},F w->Rl K (some j) s w al->F al)(L:∀w,F w->∃o,w.heap[r]? =some o/\h5 f o)(d:s.own r)(g:r≠K.bb)(M:∀w bg l,F w->ga (f.add k) (Array.toList bg)/\ni l (Array.toList bg)->dW Tryz.prog K j Stop s (G (b.at (a.put o.dst I) (.inRegion ops rest::kk)) cs) {w with heap:=w.heap.setIfInBounds r (.map bg l)}):dW Tryz.prog K j Stop s (G (b.at a (.inRegion ops (i::rest)::kk)) cs) w:=by
 refine a7.fW rfl λal q=> ?_;have hF:=J hF q;obtain⟨_,B,es,c,rfl,h,N⟩:=L al hF;obtain⟨aH,bg,l,u,v,O⟩:=amV (P:=Tryz.prog) (main:=false) (rest:=rest) (kk:=kk) (cs:=cs) ap C hk n D E t H aa B h N;refine⟨s,_,_,aH,u,⟨rfl,.refl _,rfl,ag,λb B u v=> ?_,λ⟨cs,p,Q⟩=>⟨cs,?_,Q⟩,λq _=> ?_,λb=>⟨.inl,λh=>h.elim id λh=>by simp at h;omega⟩,λe A=> ?_,z2 λe A m=> ?_⟩,M _ bg l hF O⟩
 .show(al.heap.setIfInBounds r _)[b]? =_
  rw[hL,aC (λ(e:r=b)=>u (e▸d))]
 .show(al.heap.setIfInBounds r _)[K.bb]? =_
  rw[hL,aC g];exact p
 .show(World.cell? _ _)=_
  simp only[World.cell?];rw[hL,aC g]
 .obtain⟨q,rfl⟩:=v e A;exact .own (.inl rfl) d ag
 .obtain⟨q,rfl⟩:=v e A;simp
end
end Go.bp
