import Derived.Test.YtlcdgbhigfgehabGreatDoorQA08
import Derived.Test.YtlcdgbhigfgehabGreatDoorQA09
import Derived.Conc.CrowdSpec
import Derived.Conc.MuSpec
import Derived.Conc.WgGenN2
import Derived.Conc.CrowdCom2
set_option linter.all false
set_option maxRecDepth 100000
set_option maxHeartbeats 16000000
namespace Go.bG
open Go Go.Conc Go.Ren
open Go.ConcR (KK wgBlock WgAt stA smA rd wr mk DC0)
open Go.ConcM (OsLater)
open Go.aS (Th Sh a6 mv)
section
variable(K:bj)
def xj(x:Sh):Obj:=.cells #[.int .i32 x.x.enc,.int .u32 x.m,.map (some K.bU)] K.WQ
def iw:Addr:=⟨K.bm,0,none⟩
def Hs:Addr:=⟨K.bm,1,none⟩
def e6(w:ab)(x:Sh):Prop:=w.heap[K.bm]? =some (xj K x)
def hf(w:ab):Prop:=∃x,e6 K w x
def WgLive(w:ab):Prop:=∃a4 c6,WgAt K.cW K.Wg w a4 c6
def hg(w:ab):Prop:=∃cs:aQ,w.heap[K.bb]? =some (.cells cs K.qv)/\cs.size=K.n
structure Rl(j:Option Nat)(s:aM)(w al:ab):Prop where
 tape:al.tape=w.tape
 os:OsLater w.os al.os
 output:al.output=w.output
 size:w.heap.size<=al.heap.size
 kept:∀b,b<w.heap.size->s.own b\/K.ro b->al.heap[b]? =w.heap[b]?
 wg:WgLive K w->WgLive K al
 aT:hf K w->hf K al
 pay:hg K w->hg K al
 cell:∀i,j=some i->al.cell? ⟨K.bb,i,none⟩=w.cell? ⟨K.bb,i,none⟩
structure Dj(j:Option Nat)(s s':aM)(w w':ab):Prop where
 tape:w'.tape=w.tape
 os:OsLater w.os w'.os
 output:w'.output=w.output
 size:w.heap.size<=w'.heap.size
 kept:∀b,b<w.heap.size->¬s.own b->b≠K.Wg->b≠K.bm->b≠K.bb->w'.heap[b]? =w.heap[b]?
 wg:WgLive K w->WgLive K w'
 aT:hf K w->hf K w'
 pay:hg K w->hg K w'
 cell:∀i,j≠some i->w'.cell? ⟨K.bb,i,none⟩=w.cell? ⟨K.bb,i,none⟩
structure e7(j:Option Nat)(s s':aM)(w w':ab)(es:bI):Prop where
 tape:w'.tape=w.tape
 os:OsLater w.os w'.os
 output:w'.output=w.output
 size:w.heap.size<=w'.heap.size
 kept:∀b,b<w.heap.size->¬s.own b->b≠K.bb->w'.heap[b]? =w.heap[b]?
 pay:hg K w->hg K w'
 cell:∀i,j≠some i->w'.cell? ⟨K.bb,i,none⟩=w.cell? ⟨K.bb,i,none⟩
 own:∀b,s'.own b↔s.own b\/(w.heap.size<=b/\b<w'.heap.size)
 aH:∀e∈es,EvA K j s'.own e
 deaf:deafBehind s.deaf es=s'.deaf
end
section
variable{K:bj}{j:Option Nat}{s s':aM}{w al cO w':World}
def Rl.refl(K:bj)(j:Option Nat)(s:aM)(w:ab):Rl K j s w w:=⟨rfl,.refl _,rfl,bh _,λ_ _ _=>rfl,id,id,id,λ_ _=>rfl⟩
def Rl.trans(h:Rl K j s w al)(k:Rl K j s al cO):Rl K j s w cO:=⟨k.tape.trans h.tape,h.os.trans k.os,k.output.trans h.output,dU h.size k.size,λb a c=>(k.kept b (fl a h.size) c).trans (h.kept b a c),k.wg∘h.wg,k.aT∘h.aT,k.pay∘h.pay,λi e=>(k.cell i e).trans (h.cell i e)⟩
def hZ(K:bj)(j:Option Nat):kD (Rl K j):=⟨λ_ _=>.refl _ _ _ _,λ_ _ _ _ h k=>h.trans k⟩
def Rl.at(K:bj)(j:Option Nat)(s:aM)(w:ab)(d:Nat):Rl K j s w (w.at d):=⟨rfl,.refl _,rfl,bh _,λ_ _ _=>rfl,id,id,id,λ_ _=>rfl⟩
def Rl.weaken{s':aM}(h:Rl K j s w al)(k:∀b,s'.own b->s.own b):Rl K j s' w al:=⟨h.tape,h.os,h.output,h.size,λb a c=>h.kept b a (c.imp (k b) id),h.wg,h.aT,h.pay,h.cell⟩
def Dj.rely{c:Option Nat}{d:aM}(h:Dj K j s s' w w')(f:c≠j\/c=none)(ap:∀b,d.own b\/K.ro b->¬s.own b/\b≠K.Wg/\b≠K.bm/\b≠K.bb):Rl K c d w w':=⟨h.tape,h.os,h.output,h.size,λb g a=>h.kept b g (ap b a).1 (ap b a).2.1 (ap b a).2.2.1 (ap b a).2.2.2,h.wg,h.aT,h.pay,λi e=>h.cell i (by subst e;exact λq=>by rcases f with h|h;exact h q.symm;cases h)⟩
def WgLive.of_block(h:WgLive K w)(e:w'.heap[K.Wg]? =w.heap[K.Wg]?):WgLive K w':=by
 obtain⟨a,b,h⟩:=h;exact⟨a,b,e.trans h⟩
def hf.of_block(h:hf K w)(e:w'.heap[K.bm]? =w.heap[K.bm]?):hf K w':=by
 obtain⟨x,h⟩:=h;exact⟨x,e.trans h⟩
def hg.of_block(h:hg K w)(e:w'.heap[K.bb]? =w.heap[K.bb]?):hg K w':=by
 obtain⟨cs,h,a⟩:=h;exact⟨cs,e.trans h,a⟩
def WgLive.lt(h:WgLive K w):K.Wg<w.heap.size:=by
 obtain⟨a,b,h⟩:=h;exact(bQ.1 h).1
def hf.lt(h:hf K w):K.bm<w.heap.size:=by
 obtain⟨x,h⟩:=h;exact(bQ.1 h).1
def hg.lt(h:hg K w):K.bb<w.heap.size:=by
 obtain⟨cs,h,_⟩:=h;exact(bQ.1 h).1
def e7.an{es:bI}(h:e7 K j s s' w w' es)(a:WgLive K w->¬s.own K.Wg)(c:hf K w->¬s.own K.bm)(d:K.Wg≠K.bb)(e:K.bm≠K.bb):Dj K j s s' w w':=⟨h.tape,h.os,h.output,h.size,λb f g _ _ i=>h.kept b f g i,λl=>l.of_block (h.kept _ l.lt (a l) d),λl=>l.of_block (h.kept _ l.lt (c l) e),h.pay,h.cell⟩
def e7.ak3{es:bI}(h:pu s s' K.ro w w' es)(p:¬s.own K.bb)(m:K.bb<w.heap.size):e7 K j s s' w w' es:=by
 have e:=h.kept K.bb m p;refine⟨h.tape,by rw[h.os];exact .refl _,h.out,h.size,λb d f _=>h.kept b d f,λl=>l.of_block e,λi _=>by simp[World.cell?,e],h.own,λx q=> ?_,h.deaf⟩;rcases h.aH x q with(⟨b,d,f,o⟩|⟨k,rfl⟩|rfl|rfl)|(⟨a,d,f,o⟩|rfl|rfl|⟨a,d,rfl|rfl⟩)
 .have g:bS x.loc b:=o;rcases d with d|⟨d,r⟩
  .exact .own g d λc n=>by subst n;cases f
  .exact .ro g d r
 .exact .mark trivial
 .exact .mark trivial
 .exact .out
 .exact .own (f▸bS.cell a) d λc n=>by subst n;cases f
 .exact .mark trivial
 .exact .mark trivial
 .exact .mark (.inl d)
 .exact .mark (.inl d)
def Rl.rely(h:Rl K j s w al):n3 s.own K.ro w al:=⟨h.tape,by have⟨d,e⟩:=h.os;rw[e],h.size,h.kept⟩
end
def h0(T:Th):Nat:=match T.pc with
 |.ld| .la| .ur| .ud| .out| .bad=>0
 |_=>1
def fits(x:Sh):Prop:=x.x.q<31/\x.m<=1
def WX(T:Th)(x:a6):Prop:=(T.pc=.u0->x.bC=true)/\(T.pc=.a1->x.bC=false/\x.q≠0/\x.a4=true)
structure pB(K:bj)(w w':ab):Prop where
 tape:w'.tape=w.tape
 output:w'.output=w.output
 size:w'.heap.size=w.heap.size
 os:OsLater w.os w'.os
 block:∀k,k≠K.bm->w'.heap[k]? =w.heap[k]?
def u4(K:bj)(e:Event):Prop:=e=mk .disable\/e=mk .enable\/∃a x,e=⟨.cell a,x,true⟩/\(a=iw K\/a=Hs K)
def rC(K:bj)(T sP:Th)(es:bI):Prop:=match T.pc with
 |.la=>es= #[mk (.acquire (iw K))]
 |.ur=>es= #[mk (.releaseMerge (iw K))]
 |_=>(∀e∈es,u4 K e)/\deafBehind (h0 T) es=h0 sP
section
variable(P:Program)(K:bj)
abbrev bu:=Int->Nat
variable(aL:bu->Obj->Prop)
def ix(w:ab)(f:bu):Prop:=∃o,w.heap[K.bU]? =some o/\aL f o
def bu.add(f:bu)(k:Int):bu:=λx=>f x+if x=k then 1 else 0
section
variable(Post:Nat->(Nat->Prop)->World->Prop)(i:Nat)(kd:Int)
abbrev dW(Stop:aM->aY->ab->Prop):aM->aY->ab->Prop:=a7 P false (Rl K (some i)) (e7 K (some i)) Stop
def u5(s:aM)(g:aY)(w:ab):Prop:=s.deaf=0/\Post i s.own w/\∃v,@Go.ConcN.AtR0 ⟨K.qv⟩ P K.cW K.Wg K.bb K.n 0 (i+1) v g w
def kG(T sP:Th)(s:aM):aM:=⟨match T.pc with| .la=>λb=>s.own b\/b=K.bU| .ur=>λb=>s.own b/\b≠K.bU|_=>s.own,h0 sP⟩
def u6(OF:Th->bu->aM->aY->ab->Prop)(sP:Th)(f:bu)(s':aM)(g':aY)(w':ab):Prop:=if sP.pc=.out then dW P K i (u5 P K Post i) s' g' w' else dW P K i (OF sP f) s' g' w'
def ak4(OF:Th->bu->aM->aY->ab->Prop)(T:Th)(v:bu)(s:aM)(g:aY)(w:ab):Prop:=g.status=.running/\g.offers=none/\s.deaf=h0 T/\(T.pc=.us->mayWake P g=true)/\(T.pc=.ur->ix K aL w v)/\∀x,e6 K w x->fits x->WX T x.x->(mv T x=[]->stepG P false g w=.go {g with status:=.blocked} w #[])/\(mv T x≠[]->∀f,(T.pc=.la->ix K aL w f/\∀q,f q<=K.n)->∃r∈mv T x,r.1.pc≠.bad->∃g' w' es,stepG P false g w=.go g' w' es/\g'.status=.running/\e6 K w' r.2/\pB K w w'/\rC K T r.1 es/\u6 P K Post i OF r.1 (if T.pc=.la then f.add kd else v) (kG K T r.1 s) g' w')
def oN:Nat->Th->bu->aM->aY->ab->Prop
 |0,_,_,_,g,_=>g.status=.running
 |k+1,T,v,s,g,w=>ak4 P K aL Post i kd (oN k) T v s g w
end
abbrev eT(Stop:aM->aY->ab->Prop):aM->aY->ab->Prop:=a7 P true (Rl K none) (e7 K none) Stop
variable(Post:Nat->(Nat->Prop)->World->Prop)(kd:Nat->Int)(Anch bl:aM->Goroutine->World->Prop)
def OG(s:aM)(g:aY)(w:ab):Prop:=g.status=.running/\s.deaf=0/\∃g',stepG P true g w=.go g' w #[mk (.acquire (stA K.Wg))]/\eT P K Anch s g' w
def OH(s:aM)(g:aY)(w:ab):Prop:=g.status=.running/\s.deaf=1/\∃g',stepG P true g w=.go g' w #[mk .enable]/\eT P K (OG P K Anch) ⟨s.own,0⟩ g' w
def WY(s:aM)(g:aY)(w:ab):Prop:=g.status=.running/\s.deaf=1/\(WgAt K.cW K.Wg w 0 0->∃g',stepG P true g w=.go g' w #[rd (stA K.Wg)]/\eT P K (OH P K Anch) s g' w)
def WZ(s:aM)(g:aY)(w:ab):Prop:=g.status=.running/\s.deaf=1/\g.offers=none/\((∃a4,WgAt K.cW K.Wg w a4 0)->stepG P true g w=.go {g with status:=.blocked} w #[])/\(WgAt K.cW K.Wg w 0 1->∃g',stepG P true g w=.go g' (w.setCell (smA K.Wg) (.int .u32 0)) (semEvents (smA K.Wg))/\eT P K (WY P K Anch) s g' (w.setCell (smA K.Wg) (.int .u32 0)))
def Ht(vs:Nat)(s:aM)(g:aY)(w:ab):Prop:=g.status=.running/\s.deaf=1/\∀v:Nat,v<2147483648->WgAt K.cW K.Wg w (v*KK) 0->(v=vs->∃g',stepG P true g w=.go g' (w.setCell (stA K.Wg) (.int .u64 (v*KK+1))) #[rd (stA K.Wg),wr (stA K.Wg)]/\eT P K (WZ P K Anch) s g' (w.setCell (stA K.Wg) (.int .u64 (v*KK+1))))/\(v≠vs->∃g',stepG P true g w=.go g' w #[rd (stA K.Wg)]/\eT P K bl s g' w)
def rD(s:aM)(g:aY)(w:ab):Prop:=g.status=.running/\s.deaf=1/\∀v:Nat,v<2147483648->WgAt K.cW K.Wg w (v*KK) 0->∃g',stepG P true g w=.go g' w #[rd (stA K.Wg)]/\(v=0->eT P K (OH P K Anch) s g' w)/\(v≠0->eT P K (Ht P K Anch bl v) s g' w)
def zR(s:aM)(g:aY)(w:ab):Prop:=g.status=.running/\s.deaf=0/\∃g',stepG P true g w=.go g' w #[mk .disable]/\eT P K bl ⟨s.own,1⟩ g' w
section
variable(j:Nat)(Next:aM->Goroutine->World->Prop)
def zS(s:aM)(g:aY)(w:ab):Prop:=g.status=.running/\s.deaf=0/\∃g' child,∃O:Nat->Prop,stepG P true g w=.spawn g' child w #[]/\child.status=.running/\(∀b,O b->s.own b)/\(hg K w->WgLive K w->hf K w->∀d,dW P K j (oN P K aL Post j (kd j) d {pc:=.ld} (λ_=>0)) ⟨O,0⟩ child w)/\Next ⟨λb=>s.own b/\¬O b,0⟩ g' w
def W0(s:aM)(g:aY)(w:ab):Prop:=g.status=.running/\s.deaf=1/\∃g',stepG P true g w=.go g' w #[mk .enable]/\eT P K (zS P K aL Post kd j Next) ⟨s.own,0⟩ g' w
def W1(s:aM)(g:aY)(w:ab):Prop:=g.status=.running/\s.deaf=1/\∀v:Nat,v<2147483647->WgAt K.cW K.Wg w (v*KK) 0->∃g',stepG P true g w=.go g' (w.setCell (stA K.Wg) (.int .u64 ((v+1)*KK))) #[rd (stA K.Wg),wr (stA K.Wg)]/\eT P K (W0 P K aL Post kd j Next) s g' (w.setCell (stA K.Wg) (.int .u64 ((v+1)*KK)))
def Hu(s:aM)(g:aY)(w:ab):Prop:=g.status=.running/\s.deaf=0/\∃g',stepG P true g w=.go g' w #[mk .disable]/\eT P K (W1 P K aL Post kd j Next) ⟨s.own,1⟩ g' w
end
def mJ:Nat->aM->aY->ab->Prop
 |0,s,g,w=>eT P K (zR P K bl) s g w
 |r+1,s,g,w=>eT P K (Hu P K aL Post kd (K.n - (r+1)) (mJ r)) s g w
end
end Go.bG
namespace Go.bG
open Go Go.Conc Go.Ren
open Go.ConcR (KK wgBlock WgAt stA smA rd wr mk DC0)
open Go.ConcM (OsLater)
open Go.aS (Th Sh a6 mv)
open Go.ConcN (sumTo upd upd_same upd_ne)
inductive j8 where
 |s7 (r:Nat)|a1 (r:Nat)|s8 (r:Nat)|go (r:Nat)|kd|w1|w2 (vs:Nat)|w3|w4|ke|acq|fin
def started(n j:Nat):j8->Prop
 |.s7 r| .a1 r| .s8 r| .go r=>j+ (r+1)=n
 |_=>j=n
def phi(n v:Nat):j8->Nat
 |.s7 r=>8*n+16+40*r+34
 |.a1 r=>8*n+16+40*r+33
 |.s8 r=>8*n+16+40*r+32
 |.go r=>8*n+16+40*r+31
 |.kd=>8*n+7
 |.w1=>8*v+5
 |.w2 vs=>8*vs+4
 |.w3=>5
 |.w4=>4
 |.ke=>3
 |.acq=>2
 |.fin=>1
def pend:j8->Nat
 |.s8 _| .go _=>1
 |_=>0
def isOpen:j8->Prop
 |.s7 _| .a1 _| .s8 _| .go _| .kd| .w1| .w2 _=>True
 |_=>False
def isFin:j8->Prop
 |.w4| .ke| .acq| .fin=>True
 |_=>False
def cnt(d:Nat):Nat:=if 5<=d then 1 else 0
def Vc(j:Nat)(D:Nat->Nat):Nat:=sumTo j λi=>cnt (D i)
inductive Mode(j:Nat)(D:Nat->Nat):j8->Int->Int->Prop
 |opn {tag:j8}:isOpen tag->(∀i,i<j->D i=7\/D i=6\/D i=5\/D i=1)->(∀vs,tag=.w2 vs->Vc j D<=vs/\1<=vs)->Mode j D tag (((Vc j D+pend tag:Nat):Int)*KK) 0
 |reg:(∀i,i<j->D i=7\/D i=6\/D i=5\/D i=1)->1<=Vc j D->Mode j D .w3 (((Vc j D:Nat):Int)*KK+1) 0
 |last (L:Nat):L<j->(D L=4\/D L=3\/D L=2)->(∀i,i<j->i≠L->D i=1)->Mode j D .w3 (if D L=2 then 0 else 1) 0
 |sema:(∀i,i<j->D i=1)->Mode j D .w3 0 1
 |fin {tag:j8}:isFin tag->(∀i,i<j->D i=1)->Mode j D tag 0 0
section
variable(P:Program)(main:Bool)(j:Option Nat)(K:bj)(Gu:aM->aM->World->World->Array Event->Prop)(Stop:aM->Goroutine->World->Prop)
def Sit(wait:Prop)(r:dr)(s:aM)(g:aY)(w:ab):Prop:=iv P main (Rl K j) Gu Stop r s g w\/(wait/\r=.leaf/\∃g0,g={g0 with status:=.blocked}/\g0.status=.running/\g0.offers=none/\iv P main (Rl K j) Gu Stop .leaf s g0 w)
end
def xq(s s':aM)(w w':ab)(es:bI):Prop:=s'=s/\w'=w/\es= #[]
def nh(K:bj)(i:Nat)(d:Nat):aM->aM->ab->ab->bI->Prop:=if d=7 then e7 K (some i)else xq
section
variable{P:Program}{main:Bool}{j:Option Nat}{K:bj}{Gu:aM->aM->World->World->Array Event->Prop}{Stop:aM->Goroutine->World->Prop}{wait:Prop}{r:dr}{s:aM}{g:Goroutine}{w w':World}
def Sit.rely(h:Sit P main j K Gu Stop wait r s g w)(k:Rl K j s w w'):Sit P main j K Gu Stop wait r s g w':=h.imp (·.rely (hZ K j) k) λ⟨a,b,g0,c,d,e,f⟩=>⟨a,b,g0,c,d,e,f.rely (hZ K j) k⟩
def Sit.status(b:∀s g w,Stop s g w->g.status=.running)(h:Sit P main j K Gu Stop wait r s g w):g.status=.running\/(g.status=.blocked/\wait):=by
 rcases h with h|⟨a,_,g0,rfl,_⟩
 .exact .inl (h.running (hZ K j) b)
 .exact .inr ⟨rfl,a⟩
def Sit.woken(k:∀s g w,Stop s g w->g.status=.running)(h:Sit P main j K Gu Stop wait r s g w)(a a':aY)(u:ab): Sit P main j K Gu Stop wait r s (woken P a a' u g) w/\((woken P a a' u g).status=.blocked->g.status=.blocked/\¬(mayWake P a=true/\a'.status=.running)):=by
 unfold Go.Conc.woken;rcases h with h|⟨l,d,g0,rfl,b,f,i⟩
 .have c:=h.running (hZ K j) k;split
  .rw[again_running _ (.inl c)];exact⟨.inl h,λe=>by rw[c]at e;cases e⟩
  .exact⟨.inl h,λe=>by rw[c]at e;cases e⟩
 .split
  .rw[Go.ConcR.again_blocked b f];subst d;exact⟨.inl i,λe=>by rw[b]at e;cases e⟩
  .rename_i m;refine⟨.inr ⟨l,d,g0,rfl,b,f,i⟩,λ_=>⟨rfl,λ⟨n,o⟩=>m ?_⟩⟩;simp[n,o]
end
structure Sys where
 j:Nat
 th:Nat->Th
 D:Nat->Nat
 eV:Nat->Nat
 x:Sh
 tag:j8
 a4:Int
 c6:Int
 own:Nat->Nat->Prop
 f:bu
 au:Nat->dr
def cQ(n:Nat)(S:Sys):Nat:=phi n (Vc S.j S.D) S.tag+sumTo S.j (λi=>S.D i+aS.ca (S.th i))+2*S.x.m
def did(T:Th):Bool:=match T.pc with
 |.ur| .ud| .u0| .uc| .ux| .us| .ue| .out=>true
 |_=>false
def alN(T:Th)(d:Nat)(x:a6):Nat:=if d=7 then aS.eh T x else 0
def mL(K:bj)(S:Sys)(q:Nat):Hj:=(if K.base<=q/\q<K.base+S.j then alN (S.th (q - K.base)) (S.D (q - K.base)) S.x.x else 0,S.au q)
def u9:Nat->hh->Nat
 |0,_=>0
 |n+1,gs=>u9 n gs+ (match gs[n]? with|some g=>(match g.status with| .running=>1|_=>0)|none=>0)
section
variable(P:Program)(K:bj)(aL:bu->Obj->Prop)(Post:Nat->(Nat->Prop)->World->Prop)(kd:Nat->Int)(Anch bl:aM->Goroutine->World->Prop)
def hA:j8->aM->aY->ab->Prop
 |.s7 r=>Hu P K aL Post kd (K.n - (r+1)) (mJ P K aL Post kd bl r)
 |.a1 r=>W1 P K aL Post kd (K.n - (r+1)) (mJ P K aL Post kd bl r)
 |.s8 r=>W0 P K aL Post kd (K.n - (r+1)) (mJ P K aL Post kd bl r)
 |.go r=>zS P K aL Post kd (K.n - (r+1)) (mJ P K aL Post kd bl r)
 |.kd=>zR P K bl
 |.w1=>rD P K Anch bl
 |.w2 vs=>Ht P K Anch bl vs
 |.w3=>WZ P K Anch
 |.w4=>WY P K Anch
 |.ke=>OH P K Anch
 |.acq=>OG P K Anch
 |.fin=>λs g w=>Anch s g w/\g.status=.running
def gq(i:Nat)(T:Th)(eV:Nat)(v:bu):Nat->aM->aY->ab->Prop
 |7=>if T.pc=.out then u5 P K Post i else oN P K aL Post i (kd i) eV T v
 |6=>λs g w=>s.deaf=0/\@Go.ConcN.AtK1 ⟨K.qv⟩ P K.cW K.Wg K.bb K.n 0 (i+1) g w
 |5=>λs g w=>s.deaf=1/\@Go.ConcN.AtD1 ⟨K.qv⟩ P K.cW K.Wg K.bb K.n 0 (i+1) g w
 |4=>λs g w=>s.deaf=1/\@Go.ConcN.AtD2 ⟨K.qv⟩ P K.cW K.Wg K.bb K.n 0 (i+1) g w
 |3=>λs g w=>s.deaf=1/\@Go.ConcN.AtD3 ⟨K.qv⟩ P K.cW K.Wg K.bb K.n 0 (i+1) g w
 |2=>λs g w=>s.deaf=1/\@Go.ConcN.AtD4 P K.cW K.Wg g w
 |_=>λ_ _ _=>False
def O1(tag:j8)(r:dr)(s:aM)(g:aY)(w:ab):Prop:=Sit P true none K (e7 K none) (hA P K aL Post kd Anch bl tag) (∃_:tag=.w3,True) r s g w
def O2(r:dr)(d:Nat)(g:aY):Prop:=∃q,r=dr.ofNat q/\QuitsD P q d g
def WSit(i:Nat)(S:Sys)(d:Nat)(g:aY)(w:ab):Prop:=if S.D i=1 then O2 P (S.au (K.base+i)) d g else
  ∃v,((S.th i).pc=.ur->v=S.f)/\(S.D i=7->(S.th i).pc≠.out->303*cQ K.n S+aS.eh (S.th i) S.x.x<S.eV i)/\Sit P false (some i) K (nh K i (S.D i)) (gq P K aL Post kd i (S.th i) (S.eV i) v (S.D i)) (S.D i=7/\(S.th i).pc=.s1) (S.au (K.base+i)) ⟨S.own (K.base+i),d⟩ g w
def eW(K:bj)(S:Sys)(g:Nat):Prop:=g=0\/∃i,i<S.j/\g=K.base+i
def va(K:bj)(A:Nat->Prop)(t:Trace)(i:Nat):Prop:=ng t (iw K) i\/∀g,A g->Knows t g i
def va.app{K:bj}{A:Nat->Prop}{t:Trace}{i:Nat}(u:Trace)(h:va K A t i):va K A (t++u) i:=h.imp (·.app u) λq g a=>(q g a).app u
def va.dG{K:bj}{A:Nat->Prop}{t:Trace}{i g:Nat}{fn:FuncId}{pos:String}(h:va K A t i)(a:j7 t)(b:A g)(hd:Deaf t g=0):Knows (t++MemOp.ofEvents g fn pos #[mk (.acquire (iw K))]) g i:=h.elim (λq=>q.dG a hd) λq=>(q g b).app _
def n6(K:bj)(S:Sys)(k:Nat):Nat:=if k<S.j then K.base+k else 0
variable(Shun:Loc->Prop)
structure Inv(S:Sys)(gs:hh)(w:ab)(t:Trace):Prop where
 size:gs.size=K.base+S.j
 jI:0<K.base
 dL:started K.n S.j S.tag
 main:∃g,gs[0]? =some g/\O1 P K aL Post kd Anch bl S.tag (S.au 0) ⟨S.own 0,Deaf t 0⟩ g w/\(g.status=.blocked->S.c6=0)
 wk:∀i,i<S.j->∃g,gs[K.base+i]? =some g/\WSit P K aL Post kd i S (Deaf t (K.base+i)) g w/\(g.status=.blocked->S.x.m=0)
 old:∀q,0<q->q<K.base->∃g,gs[q]? =some g/\O2 P (S.au q) (Deaf t q) g
 wg:WgAt K.cW K.Wg w S.a4 S.c6
 mode:Mode S.j S.D S.tag S.a4 S.c6
 aT:e6 K w S.x
 dv:aS.Inv K.n S.th S.x
 fit:fits S.x
 xr:∀i,S.j<=i->S.th i={pc:=.ld}
 out:∀i,i<S.j->S.D i≠7->(S.th i).pc=.out
 eX:∀i,i<S.j->S.D i<=7/\1<=S.D i
 pay:hg K w
 map:(∀i,i<S.j->(S.th i).pc≠.ur)->ix K aL w S.f
 h4:∀k,S.f k=sumTo S.j λi=>if did (S.th i)/\k=kd i then 1 else 0
 bM:Hn K (eW K S) S.own
 lt:∀b,(∃g,eW K S g/\S.own g b)\/K.ro b\/b=K.bU->b<w.heap.size
 aG:∀i,i<S.j->S.own (K.base+i) K.bU->(S.th i).pc=.ur
 rI:∀i,i<S.j->(S.th i).pc=.ur->S.own (K.base+i) K.bU
 gR:¬S.own 0 K.bU
 hi:gA K (eW K S) S.own (n6 K S) w.heap.size t
 hG:j7 t
 rJ:∀q,gs.size<=q->Deaf t q=0
 kI:(∀i,i<S.j->(S.th i).pc≠.ur)->∀i a,touchAt t i=some a->bS a.loc K.bU->va K (eW K S) t i
 to:pA K Shun S.j (λk=>S.D k<=6) t
 post:∀i,i<S.j->S.D i<=6->Post i (S.own (K.base+i)) w
 acq:S.tag=.fin->(∀i a,touchAt t i=some a->a.loc.isMemory=true->Knows t 0 i\/((Shun a.loc\/bS a.loc K.Wg)/\a.kind=.atomic))/\t.HandedOver
def qE(S:Sys)(gs:hh):Hl:=(cQ K.n S,u2 gs.size (mL K S),u9 gs.size gs)
end
end Go.bG
namespace Go.bG
open Go Go.Conc Go.Ren
open Go.ConcR (KK wgBlock WgAt stA smA rd wr mk DC0)
open Go.ConcM (OsLater)
open Go.aS (Th Sh a6 mv)
open Go.ConcN (sumTo upd upd_same upd_ne)
section
variable{P:Program}{K:bj}{aL:bu->Obj->Prop}{Post:Nat->(Nat->Prop)->World->Prop}{kd:Nat->Int}{Anch bl:aM->Goroutine->World->Prop}{Shun:Loc->Prop}
def hA.running{tag:j8}{s:aM}{g:aY}{w:ab}(h:hA P K aL Post kd Anch bl tag s g w):g.status=.running:=by cases tag<;>first|exact h.1|exact h.2
def gq.running{i:Nat}{T:Th}{a:Nat}{v:bu}{D:Nat}{s:aM}{g:aY}{w:ab}(h:gq P K aL Post kd i T a v D s g w):g.status=.running:=by
 unfold gq at h;split at h
 .split at h
  .exact h.2.2.choose_spec.1
  .cases a with
   |zero=>exact h
   |succ d=>exact h.1
 .exact h.2.1
 .exact h.2.1
 .exact h.2.1
 .exact h.2.1
 .exact h.2.1
 .exact h.elim
def eW.congr{S S':Sys}(h:S'.j=S.j):eW K S'=eW K S:=by unfold eW;rw[h]
def alO{S S':Sys}(h:S'.j=S.j):n6 K S'=n6 K S:=by unfold n6;rw[h]
def WSit.woken{i:Nat}{S:Sys}{d:Nat}{g a a':aY}{w u:ab}(h:WSit P K aL Post kd i S d g w): WSit P K aL Post kd i S d (woken P a a' u g) w/\((woken P a a' u g).status=.blocked->g.status=.blocked/\¬(mayWake P a=true/\a'.status=.running)):=by
 unfold WSit at h⊢;split
 .rename_i c;rw[aV c]at h;obtain⟨q,f,b⟩:=h;rw[woken_quitsD b];exact⟨⟨q,f,b⟩,λe=>by rcases b.status with h|h<;>rw[h]at e<;>cases e⟩
 .rename_i c;rw[aC c]at h;obtain⟨v,b,j,k⟩:=h;have:=k.woken (λ_ _ _=>gq.running) a a' u;exact⟨⟨v,b,j,this.1⟩,this.2⟩
def WSit.status{i:Nat}{S:Sys}{d:Nat}{g:aY}{w:ab}(h:WSit P K aL Post kd i S d g w):g.status=.running\/g.status=.finished\/(g.status=.blocked/\S.D i=7/\(S.th i).pc=.s1):=by
 unfold WSit at h;split at h
 .obtain⟨q,_,a⟩:=h;rcases a.status with h|h
  .exact .inl h
  .exact .inr (.inl h)
 .obtain⟨v,_,_,b⟩:=h;rcases b.status (λ_ _ _=>gq.running)with h|h
  .exact .inl h
  .exact .inr (.inr h)
def WSit.other{i:Nat}{S S':Sys}{d:Nat}{g:aY}{w w':ab}(h:WSit P K aL Post kd i S d g w)(b:S'.th i=S.th i)(c:S'.D i=S.D i)(j:S'.eV i=S.eV i)(k:S'.au (K.base+i)=S.au (K.base+i))(l:S'.own (K.base+i)=S.own (K.base+i))(a:cQ K.n S'<cQ K.n S\/(cQ K.n S'=cQ K.n S/\S'.x.x=S.x.x))(m:(S.th i).pc=.ur->S'.f=S.f)(o:Rl K (some i) ⟨S.own (K.base+i),d⟩ w w'):WSit P K aL Post kd i S' d g w':=by
 unfold WSit at h⊢;rw[b,c,j,k,l];split
 .rename_i hd;rw[aV hd]at h;exact h
 .rename_i hd;rw[aC hd]at h;obtain⟨v,p,q,r⟩:=h;refine⟨v,λe=>(p e).trans (m e).symm,λe s=> ?_,r.rely o⟩;have:=q e s;rcases a with a|⟨a,t⟩
  .have:=aS.OD (S.th i) S'.x.x;omega
  .rw[a,t];exact this
def xt{gs:hh}{q a8:Nat}{f:aY->aY}{g':aY}(h:a8≠q):((gs.map f).setIfInBounds q g')[a8]? =(gs[a8]?).map f:=by rw[vN (ed h),oF]
def HF{gs:hh}{q:Nat}{f:aY->aY}{g':aY}(h:q<gs.size):((gs.map f).setIfInBounds q g')[q]? =some g':=by rw[O3 (by simpa using h)]
def HG{S:Sys}{jn:Option Nat}(a:∀i,jn=some i->i<S.j):eW K S (bt K jn):=by
 cases jn with
 |none=>exact .inl rfl
 |some i=>exact .inr ⟨i,a i rfl,rfl⟩
structure Stepped(P:bF)(K:bj)(aL:bu->Obj->Prop)(Post:Nat->(Nat->Prop)->ab->Prop)(kd:Nat->Int)(Anch bl:aM->aY->ab->Prop)(Shun:Loc->Prop)(jn:Option Nat)(S S':Sys)(g g':aY)(w w':ab)(t j9:Trace):Prop where
 j:S'.j=S.j
 fZ:∀k,jn≠some k->S'.th k=S.th k/\S'.D k=S.D k/\S'.eV k=S.eV k
 au:∀q,q≠bt K jn->S'.au q=S.au q/\S'.own q=S.own q
 m:cQ K.n S'<cQ K.n S\/(cQ K.n S'=cQ K.n S/\S'.x.x=S.x.x)
 f:∀k,k<S.j->jn≠some k->(S.th k).pc=.ur->S'.f=S.f
 tag:jn=none\/S'.tag=S.tag
 own:∀b,S'.own (bt K jn) b->S.own (bt K jn) b\/(w.heap.size<=b/\b<w'.heap.size)\/(b=K.bU/\∀k,k<S.j->(S.th k).pc≠.ur)
 mM:jn=none->O1 P K aL Post kd Anch bl S'.tag (S'.au 0) ⟨S'.own 0,Deaf j9 0⟩ g' w'/\(g'.status=.blocked->S'.c6=0)
 mN:∀i,jn=some i->WSit P K aL Post kd i S' (Deaf j9 (K.base+i)) g' w'/\(g'.status=.blocked->S'.x.m=0)
 mO:jn=none\/S'.c6=0\/S'.c6=S.c6\/(mayWake P g=true/\g'.status=.running)
 mP:S'.x.m<=S.x.m\/(mayWake P g=true/\g'.status=.running)
 wg:WgAt K.cW K.Wg w' S'.a4 S'.c6
 mode:Mode S'.j S'.D S'.tag S'.a4 S'.c6
 dL:started K.n S'.j S'.tag
 aT:e6 K w' S'.x
 dv:aS.Inv K.n S'.th S'.x
 fit:fits S'.x
 out:∀i,jn=some i->S'.D i≠7->(S'.th i).pc=.out
 eX:∀i,jn=some i->S'.D i<=7/\1<=S'.D i
 map:(∀i,i<S.j->(S'.th i).pc≠.ur)->ix K aL w' S'.f
 h4:∀k,S'.f k=sumTo S.j λi=>if did (S'.th i)/\k=kd i then 1 else 0
 aG:∀i,jn=some i->(S'.own (K.base+i) K.bU↔(S'.th i).pc=.ur)
 gR:jn=none->¬S'.own 0 K.bU
 hi:gA K (eW K S) S'.own (n6 K S) w'.heap.size j9
 hG:j7 j9
 deaf:∀q,q≠bt K jn->Deaf j9 q=Deaf t q
 kI:(∀i,i<S.j->(S'.th i).pc≠.ur)->∀i a,touchAt j9 i=some a->bS a.loc K.bU->va K (eW K S) j9 i
 to:pA K Shun S.j (λk=>S'.D k<=6) j9
 post:∀i,jn=some i->S'.D i<=6->Post i (S'.own (K.base+i)) w'
 acq:S'.tag=.fin->(∀i a,touchAt j9 i=some a->a.loc.isMemory=true->Knows j9 0 i\/((Shun a.loc\/bS a.loc K.Wg)/\a.kind=.atomic))/\j9.HandedOver
def Inv.step{S S':Sys}{gs:hh}{w w':ab}{t O:Trace}(z:∀i own d w w',Rl K (some i) ⟨own,d⟩ w w'->Post i own w->Post i own w'){jn:Option Nat}(L:∀i,jn=some i->i<S.j)(aa:Inv P K aL Post kd Anch bl Shun S gs w t){g g':aY}{s s':aM}(Q:s.own=S.own (bt K jn))(G:Dj K jn s s' w w')(Z:Stepped P K aL Post kd Anch bl Shun jn S S' g g' w w' t O):Inv P K aL Post kd Anch bl Shun S' ((gs.map (woken P g g' w')).setIfInBounds (bt K jn) g') w' O:=by
 have J:=HG (K:=K) L;have R:bt K jn<gs.size:=by
  rw[aa.size];cases jn with
  |none=>have:=aa.jI;simp[bt];omega
  |some i=>have:=L i rfl;simp[bt];omega
 have r:∀k,k<S.j->jn≠some k->K.base+k≠bt K jn:=by
  intro k _ h e;cases jn with
  |none=>have:=aa.jI;simp[bt]at e;omega
  |some i=>simp[bt]at e;subst e;exact h rfl
 have T:∀k d,k<S.j->jn≠some k->Rl K (some k) ⟨S.own (K.base+k),d⟩ w w':=by
  intro k d hk l;refine G.rely (.inl (λe=>l e.symm)) λb o=> ?_;rw[Q];have B:eW K S (K.base+k):=.inr ⟨k,hk,rfl⟩;rcases o with o|o
  .exact⟨λh=>r k hk l (aa.bM.one _ _ b B J o h),aa.bM.sh _ b B o⟩
  .exact⟨λh=>aa.bM.ro _ b J h o,(aa.bM.rs b o).1,(aa.bM.rs b o).2.1,(aa.bM.rs b o).2.2.1⟩
 have aK:=G.size;refine⟨by simpa[Z.j]using aa.size,aa.jI,Z.dL,?_,λi af=> ?_,λq n y=> ?_,Z.wg,Z.mode,Z.aT,Z.dv,Z.fit,λi af=> ?_,λi af hd=> ?_,λi af=> ?_,G.pay aa.pay,by rw[Z.j];exact Z.map,by rw[Z.j];exact Z.h4,⟨?_,?_,?_,aa.bM.rs,aa.bM.ne⟩,?_,λi af h=> ?_,λi af h=> ?_,?_,by rw[eW.congr Z.j,alO Z.j];exact Z.hi,Z.hG,λq M=> ?_,by rw[Z.j,eW.congr Z.j];exact Z.kI,by rw[Z.j];exact Z.to,λi af hd=> ?_,Z.acq⟩
 .cases jn with
  |none=>exact⟨g',HF R,Z.mM rfl⟩
  |some i=>
   have⟨a,C,v,o⟩:=aa.main;have A:(0:Nat)≠bt K (some i):=(by have:=aa.jI;simp[bt];omega);have D:=Z.tag.resolve_left ag;have x:=v.woken (λ_ _ _=>hA.running) g g' w';refine⟨woken P g g' w' a,by rw[xt A,C];rfl,?_,λe=> ?_⟩
   .rw[D,(Z.au 0 A).1,(Z.au 0 A).2,Z.deaf 0 A];refine x.1.rely ?_;refine G.rely (.inr rfl) λb o=> ?_;rw[Q];have E:eW K S 0:=.inl rfl;rcases o with o|o
    .exact⟨λh=>A (aa.bM.one _ _ b E J o h),aa.bM.sh _ b E o⟩
    .exact⟨λh=>aa.bM.ro _ b J h o,(aa.bM.rs b o).1,(aa.bM.rs b o).2.1,(aa.bM.rs b o).2.2.1⟩
   .have⟨ay,aF⟩:=x.2 e;rcases Z.mO with h|h|h|h
    .cases h
    .exact h
    .rw[h];exact o ay
    .exact absurd h aF
 .rw[Z.j]at af;by_cases l:jn=some i
  .subst l;exact⟨g',HF R,Z.mN i rfl⟩
  .have⟨a,C,v,o⟩:=aa.wk i af;have x:=v.woken (a:=g) (a':=g') (u:=w');have hk:=r i af l;have⟨N,F,V⟩:=Z.fZ i l;refine⟨woken P g g' w' a,by rw[xt hk,C];rfl,?_,λe=> ?_⟩
   .rw[Z.deaf _ hk];exact x.1.other N F V (Z.au _ hk).1 (Z.au _ hk).2 Z.m (Z.f i af l) (T i _ af l)
   .have⟨ay,aF⟩:=x.2 e;rcases Z.mP with h|h
    .have:=o ay;omega
    .exact absurd h aF
 .have⟨a,C,W,H,az⟩:=aa.old q n y;have hk:q≠bt K jn:=(by cases jn<;>simp[bt]<;>omega);exact⟨a,by rw[xt hk,C];simp[woken_quitsD az],W,by rw[(Z.au q hk).1];exact H,by rw[Z.deaf q hk];exact az⟩
 .rw[Z.j]at af;rw[(Z.fZ i (λe=>by have:=L i e;omega)).1];exact aa.xr i af
 .rw[Z.j]at af;by_cases l:jn=some i
  .exact Z.out i l hd
  .have⟨N,F,_⟩:=Z.fZ i l;rw[N];rw[F]at hd;exact aa.out i af hd
 .rw[Z.j]at af;by_cases l:jn=some i
  .exact Z.eX i l
  .rw[(Z.fZ i l).2.1];exact aa.eX i af
 .rw[eW.congr Z.j];intro q a8 b c p n y;by_cases ay:q=bt K jn<;>by_cases aF:a8=bt K jn
  .exact ay.trans aF.symm
  .subst ay;rw[(Z.au a8 aF).2]at y;exfalso;rcases Z.own b n with h|⟨h,_⟩|⟨rfl,h⟩
   .exact aF (aa.bM.one _ _ b c p h y).symm
   .have:=aa.lt b (.inl ⟨a8,p,y⟩);omega
   .rcases p with rfl|⟨k,hk,rfl⟩
    .exact aa.gR y
    .exact h k hk (aa.aG k hk y)
  .subst aF;rw[(Z.au q ay).2]at n;exfalso;rcases Z.own b y with h|⟨h,_⟩|⟨rfl,h⟩
   .exact ay (aa.bM.one _ _ b c p n h)
   .have:=aa.lt b (.inl ⟨q,c,n⟩);omega
   .rcases c with rfl|⟨k,hk,rfl⟩
    .exact aa.gR n
    .exact h k hk (aa.aG k hk n)
  .rw[(Z.au q ay).2]at n;rw[(Z.au a8 aF).2]at y;exact aa.bM.one _ _ b c p n y
 .rw[eW.congr Z.j];intro q b c n;by_cases ay:q=bt K jn
  .subst ay;rcases Z.own b n with h|⟨h,_⟩|⟨rfl,h⟩
   .exact aa.bM.ro _ b c h
   .intro H;have:=aa.lt b (.inr (.inl H));omega
   .intro H;exact(aa.bM.rs _ H).2.2.2 rfl
  .rw[(Z.au q ay).2]at n;exact aa.bM.ro _ b c n
 .rw[eW.congr Z.j];intro q b c n;by_cases ay:q=bt K jn
  .subst ay;rcases Z.own b n with h|⟨h,_⟩|⟨rfl,h⟩
   .exact aa.bM.sh _ b c h
   .have l1:=WgLive.lt ⟨_,_,aa.wg⟩;have l2:=hf.lt ⟨_,aa.aT⟩;have X:=aa.pay.lt;exact⟨U,U,U⟩
   .exact⟨aa.bM.ne.2.2.2.1,aa.bM.ne.2.2.2.2.1,aa.bM.ne.2.2.2.2.2⟩
  .rw[(Z.au q ay).2]at n;exact aa.bM.sh _ b c n
 .rw[eW.congr Z.j];rintro b(⟨q,c,n⟩|n|n)
  .by_cases ay:q=bt K jn
   .subst ay;rcases Z.own b n with h|⟨_,h⟩|⟨rfl,h⟩
    .have:=aa.lt b (.inl ⟨_,c,h⟩);omega
    .exact h
    .have:=aa.lt _ (.inr (.inr rfl));omega
   .rw[(Z.au q ay).2]at n;have:=aa.lt b (.inl ⟨_,c,n⟩);omega
  .have:=aa.lt b (.inr (.inl n));omega
  .have:=aa.lt b (.inr (.inr n));omega
 .rw[Z.j]at af;by_cases l:jn=some i
  .exact(Z.aG i l).1 h
  .have hk:=r i af l;rw[(Z.au _ hk).2]at h;rw[(Z.fZ i l).1];exact aa.aG i af h
 .rw[Z.j]at af;by_cases l:jn=some i
  .exact(Z.aG i l).2 h
  .have hk:=r i af l;rw[(Z.au _ hk).2];rw[(Z.fZ i l).1]at h;exact aa.rI i af h
 .cases jn with
  |none=>exact Z.gR rfl
  |some i=>
   have A:(0:Nat)≠bt K (some i):=(by have:=aa.jI;simp[bt];omega);rw[(Z.au 0 A).2];exact aa.gR
 .have p:gs.size<=q:=(by simpa using M);rw[Z.deaf q U];exact aa.rJ q p
 .rw[Z.j]at af;by_cases l:jn=some i
  .exact Z.post i l hd
  .have⟨_,F,_⟩:=Z.fZ i l;rw[F]at hd;have hk:=r i af l;rw[(Z.au _ hk).2];exact z i _ 0 w w' (T i 0 af l) (aa.post i af hd)
end
end Go.bG
namespace Go.bG
open Go Go.Conc Go.Ren
open Go.ConcR (KK wgBlock WgAt stA smA rd wr mk DC0)
open Go.ConcM (OsLater)
open Go.aS (Th Sh a6 mv)
open Go.ConcN (sumTo upd upd_same upd_ne sumTo_congr)
section
variable{P:Program}{K:bj}{aL:bu->Obj->Prop}{Post:Nat->(Nat->Prop)->World->Prop}{kd:Nat->Int}{Anch bl:aM->Goroutine->World->Prop}{Shun:Loc->Prop}{S S':Sys}{gs:Array Goroutine}{w w':World}{t u:Trace}{jn:Option Nat}
def Inv.at(a:∀i own d w w',Rl K (some i) ⟨own,d⟩ w w'->Post i own w->Post i own w')(aa:Inv P K aL Post kd Anch bl Shun S gs w t)(d:Nat):Inv P K aL Post kd Anch bl Shun S gs (w.at d) t:=by
 refine{aa with main:= ?_,wk:=λi af=> ?_,post:=λi af hd=>a i _ 0 _ _ (Rl.at K _ _ w d) (aa.post i af hd)}
 .have⟨g,b,c,e⟩:=aa.main;exact⟨g,b,c.rely (Rl.at K _ _ w d),e⟩
 .have⟨g,b,c,e⟩:=aa.wk i af;exact⟨g,b,c.other rfl rfl rfl rfl rfl (.inr ⟨rfl,rfl⟩) (λ_=>rfl) (Rl.at K _ _ w d),e⟩
def Inv.alP(aa:Inv P K aL Post kd Anch bl Shun S gs w t){k:Nat}(h:jn≠some k):K.base+k≠bt K jn:=by
 intro e;cases jn with
 |none=>have:=aa.jI;simp[bt]at e;omega
 |some i=>simp[bt]at e;subst e;exact h rfl
def alQ(aa:Inv P K aL Post kd Anch bl Shun S gs w t)(l:eW K S (bt K jn))(e:∀q,q≠bt K jn->S'.own q=S.own q)(d:∀b,S'.own (bt K jn) b->S.own (bt K jn) b\/(w.heap.size<=b/\b<w'.heap.size)\/(b=K.bU/\∀k,k<S.j->(S.th k).pc≠.ur)):Hn K (eW K S) S'.own:=by
 refine⟨?_,?_,?_,aa.bM.rs,aa.bM.ne⟩
 .intro q a8 b a f c g;by_cases ay:q=bt K jn<;>by_cases aF:a8=bt K jn
  .exact ay.trans aF.symm
  .subst ay;rw[e a8 aF]at g;exfalso;rcases d b c with h|⟨h,_⟩|⟨rfl,h⟩
   .exact aF (aa.bM.one _ _ b a f h g).symm
   .have:=aa.lt b (.inl ⟨a8,f,g⟩);omega
   .rcases f with rfl|⟨k,hk,rfl⟩
    .exact aa.gR g
    .exact h k hk (aa.aG k hk g)
  .subst aF;rw[e q ay]at c;exfalso;rcases d b g with h|⟨h,_⟩|⟨rfl,h⟩
   .exact ay (aa.bM.one _ _ b a f c h)
   .have:=aa.lt b (.inl ⟨q,a,c⟩);omega
   .rcases a with rfl|⟨k,hk,rfl⟩
    .exact aa.gR c
    .exact h k hk (aa.aG k hk c)
  .rw[e q ay]at c;rw[e a8 aF]at g;exact aa.bM.one _ _ b a f c g
 .intro q b a c;by_cases ay:q=bt K jn
  .subst ay;rcases d b c with h|⟨h,_⟩|⟨rfl,h⟩
   .exact aa.bM.ro _ b a h
   .intro i;have:=aa.lt b (.inr (.inl i));omega
   .intro i;exact(aa.bM.rs _ i).2.2.2 rfl
  .rw[e q ay]at c;exact aa.bM.ro _ b a c
 .intro q b a c;by_cases ay:q=bt K jn
  .subst ay;rcases d b c with h|⟨h,_⟩|⟨rfl,h⟩
   .exact aa.bM.sh _ b a h
   .have l1:=WgLive.lt ⟨_,_,aa.wg⟩;have l2:=hf.lt ⟨_,aa.aT⟩;have m:=aa.pay.lt;exact⟨U,U,U⟩
   .exact⟨aa.bM.ne.2.2.2.1,aa.bM.ne.2.2.2.2.1,aa.bM.ne.2.2.2.2.2⟩
  .rw[e q ay]at c;exact aa.bM.sh _ b a c
def HH(aa:Inv P K aL Post kd Anch bl Shun S gs w t)(g:∀i,jn=some i->i<S.j)(l:w.heap.size<=w'.heap.size)(f:∀q,q≠bt K jn->S'.own q=S.own q)(c:∀b,S'.own (bt K jn) b->S.own (bt K jn) b\/(w.heap.size<=b/\b<w'.heap.size)){fn:FuncId}{pos:String}{es:bI}(m:∀e∈es,EvA K jn (S'.own (bt K jn)) e): gA K (eW K S) S'.own (n6 K S) w'.heap.size (t++MemOp.ofEvents (bt K jn) fn pos es):=by
 have o:=HG (K:=K) g;have d:∀b,S'.own (bt K jn) b->S.own (bt K jn) b\/(w.heap.size<=b/\b<w'.heap.size)\/(b=K.bU/\∀k,k<S.j->(S.th k).pc≠.ur):=λb a=>(c b a).imp id .inl;have D:=alQ (w':=w') aa o f d;have l1:=WgLive.lt ⟨_,_,aa.wg⟩;have l2:=hf.lt ⟨_,aa.aT⟩;have r:=aa.pay.lt;have p:S.j<=K.n:=(by have:=aa.dL;unfold started at this;split at this<;>omega);refine gA.app D (aa.hi.grow l λq b s a=> ?_) o (λi e _=> ?_) m (λb a=> ?_) (λi e=>fl (g i e) p)
 .by_cases e:q=bt K jn
  .subst e;exact(c b a).imp id λh=>h.1
  .rw[f q e]at a;exact .inl a
 .unfold n6;rw[aV (g i e)]
 .rcases a with a|a|a|a|a
  .rcases c b a with h|h
   .have:=aa.lt b (.inl ⟨_,o,h⟩);omega
   .exact h.2
  .have:=aa.lt b (.inr (.inl a));omega
  .omega
  .omega
  .omega
def Xv(aa:Inv P K aL Post kd Anch bl Shun S gs w t)(m:∀k,k<S.j->(S.th k).pc≠.ur){q:Nat}{own:Nat->Prop}(h:¬own K.bU){fn:FuncId}{pos:String}{es:bI}(n:∀e∈es,EvA K jn own e): ∀i a,touchAt (t++MemOp.ofEvents q fn pos es) i=some a->bS a.loc K.bU->va K (eW K S) (t++MemOp.ofEvents q fn pos es) i:=by
 intro i a s c;have⟨x,u,d⟩:=touch_of s;rcases getElem?_append_cases u with⟨_,o⟩|⟨_,p⟩
 .exact(aa.kI m i a (by rw[touchAt_of o];exact d) c).app _
 .exfalso;have⟨_,e,v,l⟩:=j6 p;rw[l]at d;rcases xi (n e v) d c.memory with⟨b,f,g⟩|⟨b,f,g,_⟩|⟨k,_,g⟩|⟨f,_⟩|⟨f,_⟩
  .rw[c.eq f]at h;exact h g
  .rw[<-c.eq f]at g;exact(aa.bM.rs _ g).2.2.2 rfl
  .rw[g]at c;exact aa.bM.ne.2.2.2.2.2 (c.eq (bS.cell _))
  .rw[f]at c;exact aa.bM.ne.2.2.2.2.1 (c.eq (bS.cell _))
  .rcases zP f c with r|r
   .exact aa.bM.ne.2.2.2.1 r
   .exact aa.bM.ne.2.2.2.2.1 r
def zW(aa:Inv P K aL Post kd Anch bl Shun S gs w t)(d:∀i,jn=some i->i<S.j)(f:∀op∈u,op.g=bt K jn)(h:∀k,k<S.j->jn≠some k->S'.D k=S.D k)(l:∀i,jn=some i->S'.D i<=6->(S.D i<=6/\∀q,t.size<=q->q< (t++u).size->∀a,touchAt (t++u) q=some a->bS a.loc K.Wg/\a.kind=.atomic/\¬(t++u).counts q)\/(∀q a,(t++u).g? q=some (K.base+i)->touchAt (t++u) q=some a->a.loc.isMemory=true->ng (t++u) ⟨K.Wg,0,none⟩ q)):pA K Shun S.j (λk=>S'.D k<=6) (t++u):=by
 refine aa.to.app f ?_ λk hk hd=> ?_
 .cases jn with
  |none=>exact .inl rfl
  |some i=>exact .inr (.inl ⟨i,d i rfl,rfl,aa.jI⟩)
 .by_cases b:jn=some k
  .subst b;rcases l k rfl hd with⟨c,m⟩|c
   .exact .inl ⟨c,λi n o _ a p=>m i n o a p⟩
   .exact .inr ⟨rfl,c⟩
  .refine .inl ⟨by rw[h k hk b]at hd;exact hd,λi _ _ e=>absurd e.symm (aa.alP b)⟩
def O4(h:(∀i a,touchAt t i=some a->a.loc.isMemory=true->Knows t 0 i\/((Shun a.loc\/bS a.loc K.Wg)/\a.kind=.atomic))/\t.HandedOver)(f:∀op∈u,op.g=0\/op.act.touch? =none): (∀i a,touchAt (t++u) i=some a->a.loc.isMemory=true->Knows (t++u) 0 i\/((Shun a.loc\/bS a.loc K.Wg)/\a.kind=.atomic))/\(t++u).HandedOver:=by
 refine⟨λi a k l=> ?_,handedOver_app h.2 f⟩;have⟨x,j,b⟩:=touch_of k;rcases getElem?_append_cases j with⟨_,c⟩|⟨_,d⟩
 .exact(h.1 i a (by rw[touchAt_of c];exact b) l).imp (·.app u) id
 .rcases f x d with e|e
  .have:=knows_own j;rw[e]at this;exact .inl this
  .rw[e]at b;cases b
def iz{q:Nat}{fn:FuncId}{pos:String}{es:bI}:∀op∈MemOp.ofEvents q fn pos es,op.g=q:=λ_ h=>(j6 h).1
def HI(c:S'.j=S.j)(d:S'.x.x=S.x.x){q a8:Nat}(h:a8≠q)(b:S'.au a8=S.au a8)(a:∀k,K.base+k≠q->S'.th k=S.th k/\S'.D k=S.D k):mL K S' a8=mL K S a8:=by
 unfold mL;rw[c,b,d];split
 .rename_i e;have:=a (a8 - K.base) U;rw[this.1,this.2]
 .rfl
def vb{a:hh}(b:a.size=gs.size)(h:cQ K.n S'<cQ K.n S\/(cQ K.n S'=cQ K.n S/\∃q,q<gs.size/\Hk (mL K S' q) (mL K S q)/\∀k,k≠q->mL K S' k=mL K S k)):Hm (qE K S' a) (qE K S gs):=by
 unfold qE;rcases h with h|⟨h,q,c,d,e⟩
 .exact Prod.Lex.left _ _ h
 .rw[h,b];exact Prod.Lex.right _ (Prod.Lex.left _ _ (akL c d e))
def alR{a:hh}{q:Nat}{g g':aY}(f:gs[q]? =some g)(i:g.status=.running)(b:a[q]? =some g')(c:g'.status=.blocked)(ap:∀k,k≠q->a[k]? =gs[k]?):∀n,(n<=q->u9 n a=u9 n gs)/\(q<n->u9 n a<u9 n gs):=by
 intro n;induction n with
 |zero=>exact⟨λ_=>rfl,λh=>U⟩
 |succ n d=>
  refine⟨λh=> ?_,λh=> ?_⟩
  .simp only[u9];rw[d.1 U,ap n U]
  .simp only[u9];by_cases e:n=q
   .subst e;rw[d.1 (bh _)];simp only[f,b,i,c];omega
   .rw[ap n e];have:=d.2 U;omega
def alS{a:hh}{q:Nat}{g g':aY}(e:a.size=gs.size)(d:gs[q]? =some g)(f:g.status=.running)(b:a[q]? =some g')(c:g'.status=.blocked)(ap:∀k,k≠q->a[k]? =gs[k]?):Hm (qE K S a) (qE K S gs):=by
 unfold qE;rw[e];exact Prod.Lex.right _ (Prod.Lex.right _ ((alR d f b c ap gs.size).2 (bQ.1 d).1))
end
end Go.bG
namespace Go.bG
open Go Go.Conc Go.Ren
open Go.ConcR (KK wgBlock WgAt stA smA rd wr mk DC0)
open Go.ConcM (OsLater)
open Go.aS (Th Sh a6 mv)
open Go.ConcN (sumTo upd upd_same upd_ne sumTo_congr)
section
variable{P:Program}{K:bj}{aL:bu->Obj->Prop}{Post:Nat->(Nat->Prop)->World->Prop}{kd:Nat->Int}{Anch bl:aM->Goroutine->World->Prop}{Shun:Loc->Prop}{S S':Sys}{gs:Array Goroutine}{w w':World}{t u:Trace}{jn:Option Nat}
def mQ(P:bF)(K:bj)(aL:bu->Obj->Prop)(Post:Nat->(Nat->Prop)->ab->Prop)(kd:Nat->Int)(Anch bl:aM->aY->ab->Prop)(Shun:Loc->Prop)(S:Sys)(gs:hh)(w:ab)(sl:Option (Nat×Nat))(t:Trace)(q:Nat):Prop:=∃S' zX w' ops,runT P (crowd gs w sl) q=(.next (crowd zX w' sl),ops)/\Inv P K aL Post kd Anch bl Shun S' zX w' (t++ops)/\Hm (qE K S' zX) (qE K S gs)
abbrev kJ(K:bj)(Post:Nat->(Nat->Prop)->ab->Prop):Prop:=∀i own d w w',Rl K (some i) ⟨own,d⟩ w w'->Post i own w->Post i own w'
def HJ{a b:Int}(h:WgAt K.cW K.Wg w a b)(e:w'.heap[K.Wg]? =w.heap[K.Wg]?):WgAt K.cW K.Wg w' a b:=e.trans h
def e6.keep{x:Sh}(h:e6 K w x)(e:w'.heap[K.bm]? =w.heap[K.bm]?):e6 K w' x:=e.trans h
def ix.keep{f:bu}(h:ix K aL w f)(e:w'.heap[K.bU]? =w.heap[K.bU]?):ix K aL w' f:=by
 obtain⟨o,a,b⟩:=h;exact⟨o,e.trans a,b⟩
def Xw(z:kJ K Post)(o:∀i,jn=some i->i<S.j)(F:∀i,jn=some i->S.D i=7)(aa:Inv P K aL Post kd Anch bl Shun S gs w t){sl:Option (Nat×Nat)}{g g':aY}{es:bI}{s':aM}{r':dr}(T:gs[bt K jn]? =some g)(O:stepG P (bt K jn==0) g w=.go g' w' es)(c:e7 K jn ⟨S.own (bt K jn),Deaf t (bt K jn)⟩ s' w w' es)(G:dr.Sub r' (S.au (bt K jn)))(az:jn=none->iv P true (Rl K none) (e7 K none) (hA P K aL Post kd Anch bl S.tag) r' s' g' w')(V:∀i,jn=some i->∃v,((S.th i).pc=.ur->v=S.f)/\iv P false (Rl K (some i)) (e7 K (some i)) (gq P K aL Post kd i (S.th i) (S.eV i) v 7) r' s' g' w')(H:∀i,jn=some i->(S.th i).pc≠.out->303*cQ K.n S+aS.eh (S.th i) S.x.x<S.eV i):mQ P K aL Post kd Anch bl Shun S gs w sl t (bt K jn):=by
 have W:=HG (K:=K) o;have l1:=WgLive.lt ⟨_,_,aa.wg⟩;have l2:=hf.lt ⟨_,aa.aT⟩;have u:=λb(h:S.own (bt K jn) b)=>aa.bM.sh _ b W h;have X:w'.heap[K.Wg]? =w.heap[K.Wg]? :=c.kept _ l1 (λh=>(u _ h).1 rfl) aa.bM.ne.2.1;have Y:w'.heap[K.bm]? =w.heap[K.bm]? :=c.kept _ l2 (λh=>(u _ h).2.1 rfl) aa.bM.ne.2.2.1;have alT:K.bU<w.heap.size:=aa.lt _ (.inr (.inr rfl));have l:(∀i,i<S.j->(S.th i).pc≠.ur)->¬S.own (bt K jn) K.bU:=by
  intro d h;cases jn with
  |none=>exact aa.gR h
  |some i=>exact d i (o i rfl) (aa.aG i (o i rfl) h)
 have p:s'.own K.bU↔S.own (bt K jn) K.bU:=(by rw[c.own];exact⟨λh=>h.resolve_right U,.inl⟩);have Q:Deaf (t++MemOp.ofEvents (bt K jn) g.frame.fn g.frame.place es) (bt K jn)=s'.deaf:=(by rw[Deaf_own];exact c.deaf);have J:(⟨s'.own,Deaf (t++MemOp.ofEvents (bt K jn) g.frame.fn g.frame.place es) (bt K jn)⟩:aM)=s':=(by rw[Q]);let S':Sys:={S with own:=upd S.own (bt K jn) s'.own,au:=upd S.au (bt K jn) r'}
 have L:S'.own (bt K jn)=s'.own:=upd_same _ _ _;have xu:S'.au (bt K jn)=r':=upd_same _ _ _;have A:∀q,q≠bt K jn->S'.au q=S.au q/\S'.own q=S.own q:=λq E=>⟨upd_ne _ _ E,upd_ne _ _ E⟩;have y:∀b,S'.own (bt K jn) b->S.own (bt K jn) b\/(w.heap.size<=b/\b<w'.heap.size):=λb M=>(by rw[L,c.own]at M;exact M);have B:∀e∈es,EvA K jn (S'.own (bt K jn)) e:=(by rw[L];exact c.aH);have Z:Stepped P K aL Post kd Anch bl Shun jn S S' g g' w w' t (t++MemOp.ofEvents (bt K jn) g.frame.fn g.frame.place es):=by
  refine{j:=rfl,fZ:=λk _=>⟨rfl,rfl,rfl⟩,au:=A,m:=.inr ⟨rfl,rfl⟩,f:=λ_ _ _ _=>rfl,tag:=.inr rfl,own:=λb M=>(y b M).imp id .inl,mM:=λe=> ?_,mN:=λi e=> ?_,mO:=(.inr (.inr (.inl rfl))),mP:=.inl (bh _),wg:=HJ aa.wg X,mode:=aa.mode,dL:=aa.dL,aT:=aa.aT.keep Y,dv:=aa.dv,fit:=aa.fit,out:=λi e=>aa.out i (o i e),eX:=λi e=>aa.eX i (o i e),map:=λd=> ?_,h4:=aa.h4,aG:=λi e=> ?_,gR:=λe=> ?_,hi:=HH aa o c.size (λq E=>(A q E).2) y B,hG:=aa.hG.app (j7.evs B),deaf:=λq E=>Deaf_other t (ed E) _ iz,kI:=λd=>Xv aa d (by rw[L,p];exact l d) B,to:=zW aa o iz (λ_ _ _=>rfl) λi e hd=> ?_,post:=λi e hd=> ?_,acq:=λe=> ?_}
  .subst e;have r:=az rfl;refine⟨?_,λe=>by rw[r.running (hZ K none) λ_ _ _=>hA.running]at e;cases e⟩;show Sit _ _ _ _ _ _ _ (upd S.au 0 r' 0) ⟨upd S.own 0 s'.own 0,_⟩ _ _
   rw[upd_same,upd_same];have:(⟨s'.own,Deaf (t++MemOp.ofEvents 0 g.frame.fn g.frame.place es) 0⟩:aM)=s':=J;simp only[bt];rw[this];exact .inl r
  .subst e;have⟨v,bP,r⟩:=V i rfl;refine⟨?_,λe=>by rw[r.running (hZ K (some i)) λ_ _ _=>gq.running]at e;cases e⟩;unfold WSit;rw[aC (by show S.D i≠1;rw[F i rfl];decide)];refine⟨v,bP,λ_ e=>H i rfl e,?_⟩;show Sit _ _ _ _ (nh K i (S.D i)) (gq P K aL Post kd i (S.th i) (S.eV i) v (S.D i)) _ (upd S.au (K.base+i) r' (K.base+i)) ⟨upd S.own (K.base+i) s'.own (K.base+i),_⟩ _ _
   rw[upd_same,upd_same,F i rfl];have:(⟨s'.own,Deaf (t++MemOp.ofEvents (K.base+i) g.frame.fn g.frame.place es) (K.base+i)⟩:aM)=s':=J;simp only[bt];rw[this];exact .inl r
  .exact(aa.map d).keep (c.kept _ alT (l d) aa.bM.ne.2.2.2.2.2)
  .subst e;rw[show S'.own (K.base+i) K.bU↔s'.own K.bU by rw[show S'.own (K.base+i)=s'.own from L],p];exact⟨aa.aG i (o i rfl),aa.rI i (o i rfl)⟩
  .subst e;have:S'.own 0=s'.own:=L;rw[this,p];exact aa.gR
  .have:S.D i<=6:=hd;rw[F i e]at this;omega
  .have:S.D i<=6:=hd;rw[F i e]at this;omega
  .refine O4 (aa.acq e) λop R=> ?_;cases jn with
   |none=>exact .inl (iz op R)
   |some i=>
    exfalso;have N:=aa.mode;have ky:=F i rfl;have af:=o i rfl;change S.tag=_ at e;rw[e]at N;generalize S.a4=a at N;generalize S.c6=b at N;cases N with
    |opn h=>exact h
    |fin _ h=>have:=h i af;omega
 have C:=aa.step z o (s:=⟨S.own (bt K jn),Deaf t (bt K jn)⟩) rfl (c.an (λ_ h=>(u _ h).1 rfl) (λ_ h=>(u _ h).2.1 rfl) aa.bM.ne.2.1 aa.bM.ne.2.2.1) Z;refine⟨S',_,w',_,runT_crowd_go T O,C,vb ag (.inr ⟨rfl,bt K jn,(bQ.1 T).1,?_,λk hk=>HI (S':=S') (S:=S) rfl rfl hk (A k hk).1 λk _=>⟨rfl,rfl⟩⟩)⟩;show Prod.Lex _ _ _ _
 unfold mL;rw[xu];exact Prod.Lex.right _ G
end
end Go.bG
namespace Go.bG
open Go Go.Conc Go.Ren
open Go.ConcR (KK wgBlock WgAt stA smA rd wr mk DC0)
open Go.ConcM (OsLater)
open Go.aS (Th Sh a6 mv)
open Go.ConcN (sumTo upd upd_same upd_ne sumTo_congr)
structure hj(K:bj)(w w':ab):Prop where
 tape:w'.tape=w.tape
 output:w'.output=w.output
 size:w'.heap.size=w.heap.size
 os:OsLater w.os w'.os
 block:∀k,k≠K.Wg->k≠K.bm->w'.heap[k]? =w.heap[k]?
section
variable{P:Program}{K:bj}{aL:bu->Obj->Prop}{Post:Nat->(Nat->Prop)->World->Prop}{kd:Nat->Int}{Anch bl:aM->Goroutine->World->Prop}{Shun:Loc->Prop}{S S':Sys}{gs:Array Goroutine}{w w':World}{t u:Trace}{jn:Option Nat}
def hj.refl(w:ab):hj K w w:=⟨rfl,rfl,rfl,.refl _,λ_ _ _=>rfl⟩
def hj.setWg(w:ab)(a:Addr)(v:ai)(h:a.block=K.Wg):hj K w (w.setCell a v):=⟨rfl,rfl,by simp[World.setCell],.refl _,λk hk _=>by simp[World.setCell,fA];intro e;omega⟩
def pB.alU(h:pB K w w'):hj K w w':=⟨h.tape,h.output,h.size,h.os,λk _ hk=>h.block k hk⟩
def hj.Tp{j:Option Nat}{s:aM}(h:hj K w w')(a:K.bb≠K.Wg/\K.bb≠K.bm)(ap:∀b,s.own b\/K.ro b->b≠K.Wg/\b≠K.bm)(d:WgLive K w')(f:hf K w'):Rl K j s w w':=by
 have e:=h.block K.bb a.1 a.2;exact⟨h.tape,h.os,h.output,Nat.le_of_eq h.size.symm,λb _ c=>h.block b (ap b c).1 (ap b c).2,λ_=>d,λ_=>f,λl=>l.of_block e,λi _=>by simp[World.cell?,e]⟩
def hj.an{s s':aM}(h:hj K w w')(a:K.bb≠K.Wg/\K.bb≠K.bm)(c:WgLive K w')(d:hf K w'):Dj K jn s s' w w':=by
 have e:=h.block K.bb a.1 a.2;exact⟨h.tape,h.os,h.output,Nat.le_of_eq h.size.symm,λb _ _ f g _=>h.block b f g,λ_=>c,λ_=>d,λl=>l.of_block e,λi _=>by simp[World.cell?,e]⟩
structure alV(P:bF)(K:bj)(aL:bu->Obj->Prop)(Post:Nat->(Nat->Prop)->ab->Prop)(kd:Nat->Int)(Anch bl:aM->aY->ab->Prop)(jn:Option Nat)(S S':Sys)(gs:hh)(g g':aY)(w w':ab)(t:Trace)(es:bI):Prop where
 j:S'.j=S.j
 f:S'.f=S.f
 own:S'.own=S.own
 fZ:∀k,jn≠some k->S'.th k=S.th k/\S'.D k=S.D k/\S'.eV k=S.eV k
 au:∀q,q≠bt K jn->S'.au q=S.au q
 m:cQ K.n S'<cQ K.n S\/(cQ K.n S'=cQ K.n S/\S'.x.x=S.x.x/\(Hk (mL K S' (bt K jn)) (mL K S (bt K jn))\/(S'=S/\g.status=.running/\g'.status=.blocked)))
 tag:jn=none\/S'.tag=S.tag
 mM:jn=none->O1 P K aL Post kd Anch bl S'.tag (S'.au 0) ⟨S.own 0,deafBehind (Deaf t 0) es⟩ g' w'/\(g'.status=.blocked->S'.c6=0)
 mN:∀i,jn=some i->WSit P K aL Post kd i S' (deafBehind (Deaf t (K.base+i)) es) g' w'/\(g'.status=.blocked->S'.x.m=0)
 mO:jn=none\/S'.c6=0\/S'.c6=S.c6\/(mayWake P g=true/\g'.status=.running)
 mP:S'.x.m<=S.x.m\/(mayWake P g=true/\g'.status=.running)
 wg:WgAt K.cW K.Wg w' S'.a4 S'.c6
 mode:Mode S'.j S'.D S'.tag S'.a4 S'.c6
 dL:started K.n S'.j S'.tag
 aT:e6 K w' S'.x
 dv:aS.Inv K.n S'.th S'.x
 fit:fits S'.x
 out:∀i,jn=some i->S'.D i≠7->(S'.th i).pc=.out
 eX:∀i,jn=some i->S'.D i<=7/\1<=S'.D i
 did:∀i,jn=some i->did (S'.th i)=did (S.th i)
 ur:∀i,jn=some i->((S'.th i).pc=.ur↔(S.th i).pc=.ur)
 aH:∀e∈es,EvA K jn (S.own (bt K jn)) e
 rel:∀i,jn=some i->S'.D i<=6->S.D i<=6/\∀j e,es[j]? =some e->(MemAct.ofEvent e).touch? =none\/((∃a w,e=⟨.cell a,w,true⟩/\a.block=K.Wg)/\0<deafBehind (Deaf t (K.base+i)) (es.extract 0 j))
 fin:S'.tag=.fin->S.tag=.fin/\(jn=none\/∀e∈es,(MemAct.ofEvent e).touch? =none)
def alW{q:Nat}{fn:FuncId}{pos:String}{es:bI}(h:∀j e,es[j]? =some e->(MemAct.ofEvent e).touch? =none\/((∃a w,e=⟨.cell a,w,true⟩/\a.block=K.Wg)/\0<deafBehind (Deaf t q) (es.extract 0 j))): ∀i,t.size<=i->i< (t++MemOp.ofEvents q fn pos es).size->∀a,touchAt (t++MemOp.ofEvents q fn pos es) i=some a->bS a.loc K.Wg/\a.kind=.atomic/\¬(t++MemOp.ofEvents q fn pos es).counts i:=by
 intro i af _ a k;obtain⟨op,ap,b⟩:=touch_of k;have l:(MemOp.ofEvents q fn pos es)[i - t.size]? =some op:=by
  rw[yU]at ap;simpa[Nat.not_lt.2 af]using ap
 rw[ofEvents_eq,oF]at l;obtain⟨e,c,rfl⟩:=rr.1 l;rcases h _ e c with o|⟨⟨ad,wr,rfl,p⟩,hd⟩
 .rw[o]at b;cases b
 .simp[MemAct.ofEvent,MemAct.touch?]at b;subst b;refine⟨p▸bS.cell ad,rfl,λr=> ?_⟩;obtain⟨x,b,_,hk⟩:=r;change touchAt _ i=some x at b;rw[k]at b;cases b;rcases hk with hk|⟨g',m,d⟩
  .exact hk rfl
  .have f:g'=q:=(by simp[Trace.g?,ap]at m;exact m.symm);subst f;have g:i - t.size<=es.size:=by
    rcases dH (i - t.size) es.size with n|n
    .omega
    .rw[oz n]at c;cases c
   have:=Go.Conc.deaf_inside t g' fn pos es (i - t.size) g;rw[show t.size+ (i - t.size)=i by omega,d]at this;omega
def xw(d:kJ K Post)(n:∀i,jn=some i->i<S.j)(aa:Inv P K aL Post kd Anch bl Shun S gs w t){sl:Option (Nat×Nat)}{g g':aY}{es:bI}(C:gs[bt K jn]? =some g)(D:stepG P (bt K jn==0) g w=.go g' w' es)(E:hj K w w')(B:alV P K aL Post kd Anch bl jn S S' gs g g' w w' t es):mQ P K aL Post kd Anch bl Shun S gs w sl t (bt K jn):=by
 have O:=HG (K:=K) n;have F:w.heap.size<=w'.heap.size:=Nat.le_of_eq E.size.symm;have v:∀k,k<S.j->((S'.th k).pc=.ur↔(S.th k).pc=.ur):=λk _=>by
  by_cases e:jn=some k
  .exact B.ur k e
  .rw[(B.fZ k e).1]
 have p:(∀i,i<S.j->(S.th i).pc≠.ur)->¬S.own (bt K jn) K.bU:=by
  intro a h;cases jn with
  |none=>exact aa.gR h
  |some i=>exact a i (n i rfl) (aa.aG i (n i rfl) h)
 have l:(∀i,i<S.j->(S'.th i).pc≠.ur)->∀i,i<S.j->(S.th i).pc≠.ur:=λh i af e=>h i af ((v i af).2 e);have y:K.bb≠K.Wg/\K.bb≠K.bm:=⟨aa.bM.ne.2.1.symm,aa.bM.ne.2.2.1.symm⟩;have Z:Stepped P K aL Post kd Anch bl Shun jn S S' g g' w w' t (t++MemOp.ofEvents (bt K jn) g.frame.fn g.frame.place es):=by
  refine{j:=B.j,fZ:=B.fZ,au:=λq G=>⟨B.au q G,by rw[B.own]⟩,m:=B.m.imp id λh=>⟨h.1,h.2.1⟩,f:=λ_ _ _ _=>B.f,tag:=B.tag,own:=λb c=>.inl (by rw[B.own]at c;exact c),mM:=λe=> ?_,mN:=λi e=> ?_,mO:=B.mO,mP:=B.mP,wg:=B.wg,mode:=B.mode,dL:=B.dL,aT:=B.aT,dv:=B.dv,fit:=B.fit,out:=B.out,eX:=B.eX,map:=λa=> ?_,h4:=λk=> ?_,aG:=λi e=> ?_,gR:=λe=> ?_,hi:= ?_,hG:=aa.hG.app (j7.evs B.aH),deaf:=λq G=>Deaf_other t (ed G) _ iz,kI:=λa=>Xv aa (l a) (p (l a)) B.aH,to:=zW aa n iz (λk _ J=>(B.fZ k J).2.1) λi e hd=> ?_,post:=λi e hd=> ?_,acq:=λe=> ?_}
  .subst e;have:=B.mM rfl;rw[B.own];simp only[bt];rw[Deaf_own];exact this
  .subst e;have:=B.mN i rfl;simp only[bt];rw[Deaf_own];exact this
  .rw[B.f];refine(aa.map (l a)).keep (E.block _ ?_ ?_)
   .exact aa.bM.ne.2.2.2.1
   .exact aa.bM.ne.2.2.2.2.1
  .rw[B.f,aa.h4 k];refine sumTo_congr λi af=> ?_;by_cases e:jn=some i
   .rw[B.did i e]
   .rw[(B.fZ i e).1]
  .rw[B.own];have af:=n i e;exact⟨λh=>(v i af).2 (aa.aG i af h),λh=>aa.rI i af ((v i af).1 h)⟩
  .rw[B.own];exact aa.gR
  .refine HH aa n F (λq _=>by rw[B.own]) (λb c=>.inl (by rw[B.own]at c;exact c)) ?_;rw[B.own];exact B.aH
  .have⟨r,u⟩:=B.rel i e hd;subst e;exact .inl ⟨r,alW u⟩
  .have⟨r,_⟩:=B.rel i e hd;rw[B.own];refine d i _ 0 w w' ?_ (aa.post i (n i e) r);refine E.Tp y (λb c=> ?_) ⟨_,_,B.wg⟩ ⟨_,B.aT⟩;rcases c with c|c
   .have:=aa.bM.sh _ b (.inr ⟨i,n i e,rfl⟩) c;exact⟨this.1,this.2.1⟩
   .exact⟨(aa.bM.rs b c).1,(aa.bM.rs b c).2.1⟩
  .have⟨r,u⟩:=B.fin e;refine O4 (aa.acq r) λop z=> ?_;rcases u with rfl|u
   .exact .inl (iz op z)
   .have⟨_,e,L,A⟩:=j6 z;exact .inr (by rw[A];exact u e L)
 have x:=aa.step d n (s:=⟨S.own (bt K jn),0⟩) (s':=⟨S.own (bt K jn),0⟩) rfl (E.an y ⟨_,_,B.wg⟩ ⟨_,B.aT⟩) Z;refine⟨S',_,w',_,runT_crowd_go C D,x,?_⟩;rcases B.m with h|⟨h,M,r|⟨rfl,r,u⟩⟩
 .exact vb ag (.inl h)
 .refine vb ag (.inr ⟨h,bt K jn,(bQ.1 C).1,r,λk hk=>HI (S':=S') (S:=S) B.j M hk (B.au k hk) λk' H=> ?_⟩);by_cases e:jn=some k'
  .subst e;exact absurd rfl H
  .exact⟨(B.fZ k' e).1,(B.fZ k' e).2.1⟩
 .have N:woken P g g' w'=id:=(by funext o;simp[woken,u]);refine alS (q:=bt K jn) ag C r (HF (bQ.1 C).1) u λk hk=> ?_;rw[xt hk,N];simp
end
end Go.bG
namespace Go.bG
open Go Go.Conc Go.Ren
open Go.aS (Th Sh a6 mv)
open Go.ConcN (sumTo upd upd_same upd_ne sumTo_congr)
def HK(T:Th):(aS.hd T).pc=.sq\/(aS.hd T).pc=.c2\/(aS.hd T).pc=.bad:=by
 unfold aS.hd aS.eS;split
 .exact .inl rfl
 .split<;>simp
def alX(T:Th):(aS.eS T).pc=.c2\/(aS.eS T).pc=.bad:=by
 unfold aS.eS;split<;>simp
def HA(T:Th):(aS.fw T).pc=.ue\/(aS.fw T).pc=.uc:=by
 unfold aS.fw;split<;>simp
def alY{T:Th}{x:Sh}{r:Th×Sh}(h:r∈mv T x)(a:r.1.pc≠.bad):(T.pc=.la/\r.1.pc=.ur/\r.2=x)\/(T.pc=.ur/\r.1.pc=.ud/\r.2=x)\/(T.pc≠.la/\T.pc≠.ur/\r.1.pc≠.ur/\did r.1=did T/\(r.2.m<=x.m\/T.pc=.us)):=by
 obtain⟨pc,old,f,d,g,i,j⟩:=T;have b:∀T:Th,(aS.hd T).pc≠.bad->(aS.hd T).pc≠.ur/\did (aS.hd T)=false:=by
  intro T a;rcases HK T with h|h|h
  .simp[did,h]
  .simp[did,h]
  .exact absurd h a
 have e:∀T:Th,(aS.eS T).pc≠.bad->(aS.eS T).pc≠.ur/\did (aS.eS T)=false:=by
  intro T a;rcases alX T with h|h
  .simp[did,h]
  .exact absurd h a
 have c:∀T:Th,(aS.fw T).pc≠.ur/\did (aS.fw T)=true:=by
  intro T;rcases HA T with h|h<;>simp[did,h]
 cases pc with
 |la=>simp[mv]at h;subst h;simp
 |ur=>simp[mv]at h;subst h;simp
 |out=>simp[mv]at h
 |bad=>simp[mv]at h
 |sq=>
  simp only[mv,dY]at h;rcases h with rfl|h
  .have:=e _ a;exact .inr (.inr ⟨ag,ag,this.1,this.2,.inl (bh _)⟩)
  .split at h
   .simp only[bK]at h;subst h;split<;>simp[did]
   .cases h
 |r0=>simp only[mv,bK]at h;subst h;have:=b _ a;exact .inr (.inr ⟨ag,ag,this.1,this.2,.inl (bh _)⟩)
 |r1=>simp only[mv,bK]at h;subst h;have:=b _ a;exact .inr (.inr ⟨ag,ag,this.1,this.2,.inl (bh _)⟩)
 |r3=>simp only[mv,bK]at h;subst h;have:=b _ a;exact .inr (.inr ⟨ag,ag,this.1,this.2,.inl (bh _)⟩)
 |ux=>simp only[mv,bK]at h;subst h;exact .inr (.inr ⟨ag,ag,(c _).1,(c _).2,.inl (bh _)⟩)
 |r2=>
  simp only[mv]at h;split at h
  .split at h
   .simp only[bK]at h;subst h;simp at a
   .simp only[bK]at h;subst h;simp[did]
  .simp only[bK]at h;subst h;have:=b _ a;exact .inr (.inr ⟨ag,ag,this.1,this.2,.inl (bh _)⟩)
 |u0=>
  simp only[mv,bK]at h;subst h;refine .inr (.inr ⟨ag,ag,?_,?_,.inl (bh _)⟩)
  .dsimp only;split
   .simp
   .split
    .simp
    .exact(c _).1
  .dsimp only;split
   .simp[did]
   .split
    .simp[did]
    .exact(c _).2
 |l0=>simp only[mv]at h;split at h<;>simp only[bK]at h<;>subst h<;>simp[did]
 |c1=>simp only[mv]at h;split at h<;>simp only[bK]at h<;>subst h<;>simp[did]
 |uc=>simp only[mv]at h;split at h<;>simp only[bK]at h<;>subst h<;>simp[did]
 |c2=>
  simp only[mv]at h;split at h
  .split at h<;>simp only[bK]at h<;>subst h<;>simp[did];split<;>simp
  .simp only[bK]at h;subst h;simp[did]
 |s1=>
  simp only[mv]at h;split at h
  .cases h
  .simp only[bK]at h;subst h;cases d<;>simp[did]
 |t1=>simp[mv]at h;rcases h with rfl|rfl<;>simp[did]
 |t2=>simp[mv]at h;rcases h with rfl|rfl<;>simp[did]
 |_=>simp[mv]at h;subst h;simp[did]
def alZ{T:Th}{x:Sh}(h:mv T x=[])(hk:aS.ep T=true)(ap:T.pc≠.out):T.pc=.s1/\x.m=0:=by
 obtain⟨pc,old,a,b,c,d,e⟩:=T;cases pc with
 |s1=>
  simp only[mv]at h;split at h
  .exact⟨rfl,‹_›⟩
  .cases h
 |bad=>simp[aS.ep]at hk
 |out=>simp at ap
 |_=>exfalso;revert h;simp only[mv];(repeat' split)<;>simp
def al0{T:Th}(h:aS.ep T=true):T.pc≠.bad:=by
 intro e;simp[aS.ep,e]at h
def al1{j i:Nat}(af:i<j)(D:Nat->Nat)(th:Nat->Th)(T:Th):sumTo j (λa=>D a+aS.ca (upd th i T a))+aS.ca (th i)=sumTo j (λa=>D a+aS.ca (th a))+aS.ca T:=by
 induction j with
 |zero=>omega
 |succ j b=>
  simp only[sumTo];by_cases e:i=j
  .subst e;rw[upd_same,sumTo_congr (g:=λa=>D a+aS.ca (th a)) λa c=>by rw[upd_ne th T U]];omega
  .have:=b U;rw[upd_ne th T (show j≠i by omega)];omega
def Xx{j i:Nat}(af:i<j)(D:Nat->Nat)(th:Nat->Th)(d:Nat):sumTo j (λa=>upd D i d a+aS.ca (th a))+D i=sumTo j (λa=>D a+aS.ca (th a))+d:=by
 induction j with
 |zero=>omega
 |succ j b=>
  simp only[sumTo];by_cases e:i=j
  .subst e;rw[upd_same,sumTo_congr (g:=λa=>D a+aS.ca (th a)) λa c=>by rw[upd_ne D d U]];omega
  .have:=b U;rw[upd_ne D d (show j≠i by omega)];omega
def HL{j i:Nat}(af:i<j)(D:Nat->Nat)(d:Nat):Vc j (upd D i d)+cnt (D i)=Vc j D+cnt d:=Go.ConcN.sumTo_upd D d cnt af
def Xy(j:Nat)(D:Nat->Nat):Vc j D<=j:=by
 have:=Go.ConcN.sumTo_le (f:=λi=>cnt (D i)) (c:=1) (j:=j) λi _=>(by unfold cnt;split<;>omega);unfold Vc;omega
def al2{j i:Nat}(af:i<j)(p b:Nat->Nat)(h:∀k,k≠i->b k=p k):sumTo j b+p i=sumTo j p+b i:=by
 induction j with
 |zero=>omega
 |succ j c=>
  simp only[sumTo];by_cases e:i=j
  .subst e;rw[sumTo_congr (f:=b) (g:=p) λa d=>h a U];omega
  .have:=c U;rw[h j U];omega
def Xz{n:Nat}{th:Nat->Th}{x:Sh}(aa:aS.Inv n th x){i:Nat}(af:i<n)(h:(th i).pc=.la\/(th i).pc=.ur):∀k,k<n->k≠i->(th k).pc≠.ur:=by
 intro k hk a e;have c:=aa.own;have d:x.x.bC.toNat<=1:=(by cases x.x.bC<;>simp);have:∀(n:Nat)(f:Nat->Nat),i<n->k<n->k≠i->f i+f k<=aS.ds n f:=by
  intro n f c d b;induction n with
  |zero=>omega
  |succ n g=>
   simp only[aS.ds];by_cases ay:i=n
   .subst ay;have:=aS.Ho (f:=f) (n:=i) (i:=k) U;omega
   .by_cases aF:k=n
    .subst aF;have:=aS.Ho (f:=f) (n:=k) (i:=i) U;omega
    .have:=g U U;omega
 have b:=this n (λj=>aS.own (th j)) af hk a;have l:aS.own (th i)=1:=(by rcases h with h|h<;>simp[aS.own,h]);have m:aS.own (th k)=1:=(by simp[aS.own,e]);simp only[l,m]at b;omega
def al3{n:Nat}{th:Nat->Th}{x:Sh}(aa:aS.Inv n th x)(k:n<=8):fits x:=by
 have b:∀f:Th->Nat,(∀T,f T<=1)->aS.ds n (λj=>f (th j))<=n:=by
  intro f a;have:∀m,aS.ds m (λj=>f (th j))<=m:=by
   intro m;induction m with
   |zero=>exact bh _
   |succ m l=>simp only[aS.ds];have:=a (th m);omega
  exact this n
 have o:=b aS.eD λT=>(by unfold aS.eD;split<;>omega);have p:=b aS.dG λT=>(by unfold aS.dG;split<;>omega);have r:=b aS.add λT=>(by unfold aS.add;split<;>omega);obtain⟨_,_,c,d,e,g,_⟩:=aa;obtain⟨⟨s,h,i,q⟩,m⟩:=x;unfold fits;cases i<;>cases h<;>simp at c d e g⊢<;>omega
end Go.bG
namespace Go.bG
open Go Go.Conc Go.Ren
open Go.ConcR (KK wgBlock WgAt stA smA rd wr mk DC0)
open Go.ConcM (OsLater)
open Go.aS (Th Sh a6 mv)
open Go.ConcN (sumTo upd upd_same upd_ne sumTo_congr)
section
variable{P:Program}{K:bj}{aL:bu->Obj->Prop}{Post:Nat->(Nat->Prop)->World->Prop}{kd:Nat->Int}{Anch bl:aM->Goroutine->World->Prop}{Shun:Loc->Prop}{S S':Sys}{gs:Array Goroutine}{w w':World}{t u:Trace}{sl:Option (Nat×Nat)}
def Inv.jn(aa:Inv P K aL Post kd Anch bl Shun S gs w t):S.j<=K.n:=by have:=aa.dL;unfold started at this;split at this<;>omega
def HM{j:Option Nat}{own:Nat->Prop}{e:Event}(h:e.mute=true):EvA K j own e/\(MemAct.ofEvent e).touch? =none:=by
 refine⟨?_,touch_mute h⟩;obtain⟨a,wr,b⟩:=e;cases a<;>simp[Event.mute]at h;rename_i m;cases m<;>simp at h<;>exact .mark trivial
def HN(aa:Inv P K aL Post kd Anch bl Shun S gs w t){i:Nat}(af:i<S.j)(hd:S.D i≠1):S.tag≠.fin:=by
 intro e;have c:=aa.mode;rw[e]at c;generalize S.a4=a at c;generalize S.c6=b at c;cases c with
 |opn h=>exact h
 |fin _ h=>exact hd (h i af)
def al4(b:kJ K Post)(aa:Inv P K aL Post kd Anch bl Shun S gs w t){i:Nat}(af:i<S.j)(hd:S.D i=1){g:aY}(r:gs[K.base+i]? =some g)(l:g.status=.running)(h:WSit P K aL Post kd i S (Deaf t (K.base+i)) g w): mQ P K aL Post kd Anch bl Shun S gs w sl t (K.base+i):=by
 unfold WSit at h;rw[aV hd]at h;obtain⟨q,s,p⟩:=h;cases q with
 |zero=>rw[p.1]at l;cases l
 |succ q=>
  rcases p with⟨u,_⟩|⟨_,g',es,n,o,a⟩
  .rw[u]at l;cases l
  have v:(K.base+i==0)=false:=(by have:=aa.jI;simp;omega);let S':Sys:={S with au:=upd S.au (K.base+i) (dr.ofNat q)}
  have c:dr.Sub (S'.au (K.base+i)) (S.au (K.base+i)):=by
   show dr.Sub (upd S.au (K.base+i) (dr.ofNat q) (K.base+i)) _
   rw[upd_same,s];exact dr.ofNat_lt q
  refine xw (jn:=some i) b (λk e=>by cases e;exact af) aa r (g':=g') (w':=w) (es:=es) (by simp only[bt];rw[v];exact o w) (.refl w) (S':=S') {j:=rfl,f:=rfl,own:=rfl,fZ:=λ_ _=>⟨rfl,rfl,rfl⟩,au:=λa8 a=>upd_ne _ _ a,m:=.inr ⟨rfl,rfl,.inl (Prod.Lex.right _ c)⟩,tag:=.inr rfl,mM:=λe=>(by cases e),mN:=λk e=> ?_,mO:=.inr (.inr (.inl rfl)),mP:=.inl (bh _),wg:=aa.wg,mode:=aa.mode,dL:=aa.dL,aT:=aa.aT,dv:=aa.dv,fit:=aa.fit,out:=λk e=>(by cases e;exact aa.out i af),eX:=λk e=>(by cases e;exact aa.eX i af),did:=λ_ _=>rfl,ur:=λ_ _=>Iff.rfl,aH:=λe d=>(HM (n e d)).1,rel:=λk e hk=> ?_,fin:=λe=>⟨e,.inr λe d=>(HM (K:=K) (j:=none) (own:=λ_=>False) (n e d)).2⟩}
  .cases e;refine⟨?_,λe=> ?_⟩
   .unfold WSit;rw[aV (show S'.D i=1 from hd)];exact⟨q,by show upd S.au (K.base+i) (dr.ofNat q) (K.base+i)=_;rw[upd_same],a⟩
   .rcases a.status with h|h<;>rw[h]at e<;>cases e
  .cases e;exact⟨by rw[hd];decide,λj e d=>.inl (HM (K:=K) (j:=none) (own:=λ_=>False) (n e (sE d))).2⟩
def al5(a:kJ K Post)(aa:Inv P K aL Post kd Anch bl Shun S gs w t){i:Nat}(af:i<S.j)(hd:S.D i≠1)(b:S.D i≠7){g g':aY}{v:bu}{r':dr}(p:gs[K.base+i]? =some g)(d:stepG P false g w=.go g' w #[])(c:dr.Sub r' (S.au (K.base+i)))(h:iv P false (Rl K (some i)) xq (gq P K aL Post kd i (S.th i) (S.eV i) v (S.D i)) r' ⟨S.own (K.base+i),Deaf t (K.base+i)⟩ g' w): mQ P K aL Post kd Anch bl Shun S gs w sl t (K.base+i):=by
 have q:(K.base+i==0)=false:=(by have:=aa.jI;simp;omega);have ap:=aa.out i af b;let S':Sys:={S with au:=upd S.au (K.base+i) r'}
 have o:S'.au (K.base+i)=r':=upd_same _ _ _;have r:S.D i<=6:=(by have:=(aa.eX i af).1;omega);refine xw (jn:=some i) a (λk e=>by cases e;exact af) aa p (g':=g') (w':=w) (es:= #[]) (by simp only[bt];rw[q];exact d) (.refl w) (S':=S') {j:=rfl,f:=rfl,own:=rfl,fZ:=λ_ _=>⟨rfl,rfl,rfl⟩,au:=λa8 l=>upd_ne _ _ l,m:=.inr ⟨rfl,rfl,.inl (Prod.Lex.right _ (by simp only[bt];rw[o];exact c))⟩,tag:=.inr rfl,mM:=λe=>(by cases e),mN:=λk e=> ?_,mO:=.inr (.inr (.inl rfl)),mP:=.inl (bh _),wg:=aa.wg,mode:=aa.mode,dL:=aa.dL,aT:=aa.aT,dv:=aa.dv,fit:=aa.fit,out:=λk e=>(by cases e;exact aa.out i af),eX:=λk e=>(by cases e;exact aa.eX i af),did:=λ_ _=>rfl,ur:=λ_ _=>Iff.rfl,aH:=λe n=>(by simp at n),rel:=λk e hk=> ?_,fin:=λe=>absurd (show S.tag=.fin from e) (HN aa af hd)}
 .cases e;refine⟨?_,λe=> ?_⟩
  .unfold WSit;rw[aC (show S'.D i≠1 from hd),o,deafBehind_nil];refine⟨v,λe=>(by rw[show S'.th i=S.th i from rfl,ap]at e;cases e),λe=>absurd e b,.inl ?_⟩;show iv _ _ _ (nh K i (S.D i)) _ _ _ _ _
   unfold nh;rw[aC b];exact h
  .rw[h.running (hZ K (some i)) λ_ _ _=>gq.running]at e;cases e
 .cases e;exact⟨r,λj e n=>by simp at n⟩
def al6(F:kJ K Post)(aa:Inv P K aL Post kd Anch bl Shun S gs w t){q:Nat}(az:0<q)(V:q<K.base){g:aY}(W:gs[q]? =some g)(E:g.status=.running)(h:O2 P (S.au q) (Deaf t q) g): mQ P K aL Post kd Anch bl Shun S gs w sl t q:=by
 obtain⟨n,X,j⟩:=h;cases n with
 |zero=>rw[j.1]at E;cases E
 |succ n=>
  rcases j with⟨Y,_⟩|⟨_,g',es,G,H,J⟩
  .rw[Y]at E;cases E
  have Z:(q==0)=false:=a5;have y:q<gs.size:=(bQ.1 W).1;let S':Sys:={S with au:=upd S.au q (dr.ofNat n)}
  have v:(0:Nat)≠q:=U;have p:∀k,K.base+k≠q:=λk=>U;have L:∀e∈es,EvA K none (S.own 0) e:=λe A=>(HM (G e A)).1;have r:∀op∈MemOp.ofEvents q g.frame.fn g.frame.place es,op.act.touch? =none:=λop d=>by
   have⟨_,e,A,l⟩:=j6 d;rw[l];exact touch_mute (G e A)
  have old:∀{i:Nat}{a:Touch},touchAt (t++MemOp.ofEvents q g.frame.fn g.frame.place es) i=some a->touchAt t i=some a:=by
   intro i a c;have⟨z,dw,x⟩:=touch_of c;rcases getElem?_append_cases dw with⟨_,M⟩|⟨_,N⟩
   .rw[touchAt_of M];exact x
   .rw[r z N]at x;cases x
  have O5:Inv P K aL Post kd Anch bl Shun S' ((gs.map (woken P g g' w)).setIfInBounds q g') w (t++MemOp.ofEvents q g.frame.fn g.frame.place es):=by
   refine{size:=by simpa using aa.size,jI:=aa.jI,dL:=aa.dL,main:= ?_,wk:=λi af=> ?_,old:=λa8 O dC=> ?_,wg:=aa.wg,mode:=aa.mode,aT:=aa.aT,dv:=aa.dv,fit:=aa.fit,xr:=aa.xr,out:=aa.out,eX:=aa.eX,pay:=aa.pay,map:=aa.map,h4:=aa.h4,bM:=aa.bM,lt:=aa.lt,aG:=aa.aG,rI:=aa.rI,gR:=aa.gR,hi:=⟨λB=> ?_,λop d=> ?_,λg1 f i a b c=> ?_,λk hk i a c=> ?_,λg1 f i a b c=> ?_,λg1 f i a c=> ?_,λg1 f i a c=> ?_⟩,hG:=aa.hG.app (j7.evs L),rJ:=λa8 O=> ?_,kI:=λQ i a c j=>(aa.kI Q i a (old c) j).app _,to:= ?_,post:=aa.post,acq:=λe=>O4 (aa.acq e) λop d=>.inr (r op d)}
   .have⟨a,c,C,o⟩:=aa.main;have s:=C.woken (λ_ _ _=>hA.running) g g' w;refine⟨_,by rw[xt v,c];rfl,?_,λe=>o (s.2 e).1⟩;show Sit _ _ _ _ _ _ _ (upd S.au q (dr.ofNat n) 0) _ _ _
    rw[upd_ne _ _ v,Deaf_other t (ed v) _ iz];exact s.1
   .have⟨a,c,C,o⟩:=aa.wk i af;have s:=C.woken (a:=g) (a':=g') (u:=w);refine⟨_,by rw[xt (p i),c];rfl,?_,λe=>o (s.2 e).1⟩;rw[Deaf_other t (ed (p i)) _ iz];exact s.1.other rfl rfl rfl (upd_ne _ _ (p i)) rfl (.inr ⟨rfl,rfl⟩) (λ_=>rfl) (.refl _ _ _ _)
   .by_cases e:a8=q
    .subst e;exact⟨g',HF y,n,upd_same _ _ _,by rw[Deaf_own];exact J⟩
    .have⟨a,c,m,R,D⟩:=aa.old a8 O dC;exact⟨a,by rw[xt e,c];simp[woken_quitsD D],m,(upd_ne _ _ e).trans R,by rw[Deaf_other t (ed e) _ iz];exact D⟩
   .exact noRace_append (aa.hi.nr B) iz λi a _ op d b o _=>by rw[r op d]at o;cases o
   .rcases uQ.1 d with T|T
    .exact aa.hi.low op T
    .have⟨_,e,A,l⟩:=j6 T;rw[l];exact low_mute (G e A) _
   .exact λo j=>(aa.hi.own g1 f i a b (old c) o j).app _
   .exact λj=>(aa.hi.cell k hk i a (old c) j).app _
   .exact λo j s=>(aa.hi.ro g1 f i a b (old c) o j s).app _
   .exact λj s=>(aa.hi.mp g1 f i a (old c) j s).app _
   .exact λC az V=>(aa.hi.u3 g1 f i a (old c) C az V).app _
   .have:gs.size<=a8:=(by simpa using O);rw[Deaf_other t (g:=a8) (g':=q) U _ iz];exact aa.rJ a8 this
   .refine aa.to.app (g:=q) iz (.inr (.inr r)) λk hk hd=>.inl ⟨hd,λi _ _ e=>absurd e.symm (p k)⟩
  refine⟨S',_,w,_,runT_crowd_go W (by rw[Z];exact H w),O5,vb ag (.inr ⟨rfl,q,y,?_,λk hk=> ?_⟩)⟩
  .show Prod.Lex _ _ _ _
   unfold mL;rw[show S'.au q=dr.ofNat n from upd_same _ _ _,X];exact Prod.Lex.right _ (dr.ofNat_lt n)
  .unfold mL;rw[show S'.au k=S.au k from upd_ne _ _ hk]
end
end Go.bG
