import Derived.Test.YtlcdgbhigfgehabGreatDoorQ00
import GoSem.Step
set_option linter.all false
set_option maxRecDepth 100000
set_option maxHeartbeats 16000000
namespace Go.Ren
open Go
structure Ren where
 to:Nat->Option Nat
 inj:∀a a' b,to a=some b->to a'=some b->a=a'
 low:∀a b,to a=some b->a<=2\/b<=2->a=b
instance:CoeFun Ren (λ_=>Nat->Option Nat):=⟨Ren.to⟩
def bs(f g:Ren):Prop:=∀a b,f a=some b->g a=some b
def bs.refl(f:Ren):bs f f:=λ_ _ h=>h
def bs.trans{f g h:Ren}(a:bs f g)(b:bs g h):bs f h:=λx y e=>b x y (a x y e)
structure bf where
 P:bF
 b0:bF
 fn:Fn->Bool
 ro:Bool
 code:Code->Bool
 wl:eQ->Prop:=λ_=>True
 Lu:Nat->Bool:=λ_=>true
 lo:Nat:=0
 gi:Bool:=true
inductive wG(N:Fn->Bool)(f:Ren):Fn->Fn->Prop
 |same {n}:N n=true->(∀l,n≠.yield l)->wG N f n n
 |yield {l fS}:f l=some fS->wG N f (.yield l) (.yield fS)
def wG.mono{N:Fn->Bool}{f g:Ren}(h:bs f g){n c:Fn}(r:wG N f n c):wG N g n c:=by
 cases r with
 |same a b=>exact .same a b
 |yield e=>exact .yield (h _ _ e)
def Gd:ai->Bool
 |.func (.method _) _ _=>false
 |.pointer (some _)| .slice (some _) _ _| .map (some _)| .chan (some _)| .func ..| .complex ..=>true
 |_=>false
def Ce:ai:=.func (.method "") #[.iface 0 (.tuple #[])] #[]
inductive aB(N:Fn->Bool)(f:Ren):Value->Value->Prop
 |de {v}:Gd v=true->aB N f (.tuple #[]) v
 |qf {ec x y}:aB N f Ce (.func (.method ec) x y)
 |bool (b):aB N f (.bool b) (.bool b)
 |int (k n):aB N f (.int k n) (.int k n)
 |float (k n):aB N f (.float k n) (.float k n)
 |string (s):aB N f (.string s) (.string s)
 |ff:aB N f (.pointer none) (.pointer none)
 |ptr {a b}:f a.block=some b->aB N f (.pointer (some a)) (.pointer (some {a with block:=b}))
 |mr (l c):aB N f (.slice none l c) (.slice none l c)
 |slice {a b} (l c):f a.block=some b->aB N f (.slice (some a) l c) (.slice (some {a with block:=b}) l c)
 |wH:aB N f (.map none) (.map none)
 |map {a b}:f a=some b->aB N f (.map (some a)) (.map (some b))
 |yT:aB N f (.chan none) (.chan none)
 |chan {a b}:f a=some b->aB N f (.chan (some a)) (.chan (some b))
 |func {fn UN} {x y ak gh:Array Value}:wG N f fn UN->(∀s,fn≠.method s)->x.size=ak.size->(∀(i:Nat)(v v':Value),x[i]? =some v->ak[i]? =some v'->aB N f v v')->y.size=gh.size->(∀(i:Nat)(v v':Value),y[i]? =some v->gh[i]? =some v'->aB N f v v')->aB N f (.func fn x y) (.func UN ak gh)
 |Lv:aB N f .nilFunc .nilFunc
 |iface (t) {v v'}:aB N f v v'->aB N f (.iface t v) (.iface t v')
 |gN:aB N f .nilIface .nilIface
 |agg {x ak:Array Value}:x.size=ak.size->(∀(i:Nat)(v v':Value),x[i]? =some v->ak[i]? =some v'->aB N f v v')->aB N f (.agg x) (.agg ak)
 |tuple {x ak:Array Value}:x.size=ak.size->(∀(i:Nat)(v v':Value),x[i]? =some v->ak[i]? =some v'->aB N f v v')->aB N f (.tuple x) (.tuple ak)
structure aZ(N:Fn->Bool)(f:Ren)(x ak:aQ):Prop where
 size:x.size=ak.size
 get:∀(i:Nat)(v v':ai),x[i]? =some v->ak[i]? =some v'->aB N f v v'
section
variable{N:Fn->Bool}{f g:Ren}
def aB.mono(h:bs f g){v v':ai}(r:aB N f v v'):aB N g v v':=by
 induction r with
 |de e=>exact .de e
 |qf=>exact .qf
 |ptr e=>exact .ptr (h _ _ e)
 |slice l c e=>exact .slice l c (h _ _ e)
 |map e=>exact .map (h _ _ e)
 |chan e=>exact .chan (h _ _ e)
 |func n m s _ s' _ a b=>exact .func (n.mono h) m s a s' b
 |iface t _ a=>exact .iface t a
 |agg s _ a=>exact .agg s a
 |tuple s _ a=>exact .tuple s a
 |_=>constructor
def aZ.mono(h:bs f g){x ak:aQ}(r:aZ N f x ak):aZ N g x ak:=⟨r.size,λi v v' a b=>(r.get i v v' a b).mono h⟩
def aZ.nil:aZ N f #[] #[]:=⟨rfl,λi v v' h=>by simp at h⟩
def aZ.some{x ak:aQ}(r:aZ N f x ak){i:Nat}{v:ai}(h:x[i]? =.some v):∃v',ak[i]? =.some v'/\aB N f v v':=by
 obtain⟨af,rfl⟩:=bQ.1 h;have a:i<ak.size:=r.size▸af;exact⟨ak[i],dq a,r.get i _ _ h (dq a)⟩
def aZ.none{x ak:aQ}(r:aZ N f x ak){i:Nat}(h:x[i]? =.none):ak[i]? =.none:=by simp only[Ge]at h⊢;have:=r.size;omega
def aZ.getD{x ak:aQ}(r:aZ N f x ak)(i:Nat){d d':ai}(hd:aB N f d d'):aB N f (x.getD i d) (ak.getD i d'):=by
 rw[nM,nM];cases h:x[i]? with
 |none=>rw[r.none h];exact hd
 |some v=>have⟨v',a,b⟩:=r.some h;rw[a];exact b
def aZ.push{x ak:aQ}(r:aZ N f x ak){v v':ai}(h:aB N f v v'):aZ N f (x.push v) (ak.push v'):=by
 refine⟨by simp[r.size],λi a a' b c=> ?_⟩;rw[oE]at b c;rw[r.size]at b;split at b
 .rename_i e;rw[aV e]at c;cases b;cases c;exact h
 .rename_i e;rw[aC e]at c;exact r.get i _ _ b c
def aZ.append{x ak y d:aQ}(r:aZ N f x ak)(q:aZ N f y d):aZ N f (x++y) (ak++d):=by
 refine⟨by simp[r.size,q.size],λi a a' b c=> ?_⟩;rw[yU]at b c;rw[r.size]at b;split at b
 .rename_i e;rw[aV e]at c;exact r.get i _ _ b c
 .rename_i e;rw[aC e]at c;exact q.get _ _ _ b c
def aZ.extract{x ak:aQ}(r:aZ N f x ak)(a b:Nat):aZ N f (x.extract a b) (ak.extract a b):=by
 refine⟨by simp[r.size],λi v v' c d=> ?_⟩;rw[Array.getElem?_extract]at c d;rw[r.size]at c;split at c
 .rename_i e;rw[aV e]at d;exact r.get _ _ _ c d
 .cases c
def aZ.set{x ak:aQ}(r:aZ N f x ak)(i:Nat){v v':ai}(h:aB N f v v'):aZ N f (x.setIfInBounds i v) (ak.setIfInBounds i v'):=by
 refine⟨by simp[r.size],λj a a' b c=> ?_⟩;rw[hL]at b c;rw[r.size]at b;split at b
 .rename_i e;rw[aV e]at c;split at b
  .rename_i d;rw[aV d]at c;cases b;cases c;exact h
  .cases b
 .rename_i e;rw[aC e]at c;exact r.get _ _ _ b c
def aZ.map{uG:Type}{dE mx:uG->ai}(h:∀i,aB N f (dE i) (mx i))(l:Array uG):aZ N f (l.map dE) (l.map mx):=by
 refine⟨ag,λi v v' a b=> ?_⟩;simp only[oF]at a b;cases e:l[i]? with
 |none=>simp[e]at a
 |some k=>simp[e]at a b;subst a;subst b;exact h k
def aZ.replicate(n:Nat){v v':ai}(h:aB N f v v'):aZ N f (Array.replicate n v) (Array.replicate n v'):=by
 refine⟨ag,λi a a' b c=> ?_⟩;simp only[Array.getElem?_replicate]at b c;split at b
 .rename_i e;rw[aV e]at c;cases b;cases c;exact h
 .cases b
def aZ.one{v v':ai}(h:aB N f v v'):aZ N f #[v] #[v']:=aZ.push .nil h
def aZ.two{v v' w w':ai}(h:aB N f v v')(k:aB N f w w'):aZ N f #[v,w] #[v',w']:=(aZ.one h).push k
def aB.qg{x ak:aQ}(r:aZ N f x ak):aB N f (.agg x) (.agg ak):=.agg r.size r.get
def aB.oG{x ak:aQ}(r:aZ N f x ak):aB N f (.tuple x) (.tuple ak):=.tuple r.size r.get
def ag8{v:ai}(h:Gd v=true):v.cells= #[v]:=by cases v<;>first|rfl|cases h
def aB.cells{v v':ai}(r:aB N f v v'):aZ N f v.cells v'.cells:=by
 cases r with
 |agg s h=>exact⟨s,h⟩
 |de e=>rw[ag8 e];exact aZ.one (.de e)
 |qf=>exact aZ.one .qf
 |_=>exact aZ.one (by constructor<;>assumption)
def aB.undef:aB N f (.tuple #[]) (.tuple #[]):=.oG .nil
end
structure oH(N:Fn->Bool)(f:Ren)(e fg:MapEntry):Prop where
 key:aB N f e.key fg.key
 val:aB N f e.val fg.val
 born:e.born=fg.born
structure fT(N:Fn->Bool)(f:Ren)(x ak:Array MapEntry):Prop where
 size:x.size=ak.size
 get:∀(i:Nat)(v v':MapEntry),x[i]? =some v->ak[i]? =some v'->oH N f v v'
inductive cF(N:Fn->Bool)(f:Ren):Target->Target->Prop
 |fn {n Cf x ak}:wG N f n Cf->aZ N f x ak->cF N f (.fn n x) (.fn Cf ak)
 |nil:cF N f .nil .nil
 |collected {r r'}:f r=some r'->cF N f (.collected r) (.collected r')
inductive fG(N:Fn->Bool)(f:Ren):Deferred->Deferred->Prop
 |mk {d d'}:cF N f d.target d'.target->aZ N f d.args d'.args->fG N f d d'
 |sA {as d'}:as[0]? =some (.iface 0 (.tuple #[]))->fG N f ⟨.fn (.method "") #[],as⟩ d'
def pj(C:bf)(n:FuncId):Prop:=C.b0.funcs[n]? =C.P.funcs[n]?/\(∃F,C.P.funcs[n]? =some F)/\C.P.inits.idxOf? n=none
inductive eR(C:bf)(f:Ren):Obj->Obj->Prop
 |cells {x ak} (t z):aZ C.fn f x ak->eR C f (.cells x t z) (.cells ak t z)
 |map {x ak} (k):fT C.fn f x ak->eR C f (.map x k) (.map ak k)
 |iter (s p):eR C f (.stringIter s p) (.stringIter s p)
 |pk {m yV} (s n l):f m=some yV->eR C f (.mapIter (some m) s n l) (.mapIter (some yV) s n l)
 |rn (s n l):eR C f (.mapIter none s n l) (.mapIter none s n l)
 |loop {l:Loop} {ak d'}:aZ C.fn f l.tmps ak->f l.defers=some d'->pj C l.fn->C.code l.assign=true->C.code l.body=true->(∀c,l.pending=some c->C.code c=true)->eR C f (.loop l) (.loop {l with tmps:=ak,defers:=d'})
 |sB:eR C f (.deferred none) (.deferred none)
 |def {l fS:List Deferred}:l.length=fS.length->(∀(i:Nat)(d d':Deferred),l[i]? =some d->fS[i]? =some d'->fG C.fn f d d')->eR C f (.deferred (some l)) (.deferred (some fS))
 |number {a:Addr} {b} (l):f a.block=some b->eR C f (.number a l) (.number {a with block:=b} l)
 |fin:eR C f (.finalizers #[] none) (.finalizers #[] none)
def Still(C:bf)(f:Ren)(o im:Obj):Prop:=∃x ak t wI,o=.cells x t (0,x.size)/\im=.cells ak t wI/\aZ C.fn f x ak
def oH.mono{N:Fn->Bool}{f g:Ren}(h:bs f g){e a:MapEntry}(r:oH N f e a):oH N g e a:=⟨r.key.mono h,r.val.mono h,r.born⟩
def fT.mono{N:Fn->Bool}{f g:Ren}(h:bs f g){e c:Array MapEntry}(r:fT N f e c):fT N g e c:=⟨r.size,λi v v' a b=>(r.get i v v' a b).mono h⟩
def cF.mono{N:Fn->Bool}{f g:Ren}(h:bs f g){d d':Target}(r:cF N f d d'):cF N g d d':=by
 cases r with
 |fn n a=>exact .fn (n.mono h) (a.mono h)
 |nil=>exact .nil
 |collected e=>exact .collected (h _ _ e)
def fG.mono{N:Fn->Bool}{f g:Ren}(h:bs f g){d d':Deferred}(r:fG N f d d'):fG N g d d':=by
 cases r with
 |mk a b=>exact .mk (a.mono h) (b.mono h)
 |sA e=>exact .sA e
def eR.mono{C:bf}{f g:Ren}(h:bs f g){o b:Obj}(r:eR C f o b):eR C g o b:=by
 cases r with
 |cells t z a=>exact .cells t z (a.mono h)
 |map k a=>exact .map k (a.mono h)
 |iter s p=>exact .iter s p
 |pk s n l e=>exact .pk s n l (h _ _ e)
 |rn s n l=>exact .rn s n l
 |loop a d c j m q=>exact .loop (a.mono h) (h _ _ d) c j m q
 |number l e=>exact .number l (h _ _ e)
 |sB=>exact .sB
 |fin=>exact .fin
 |_=>rename_i l a;exact .def l λi d d' u v=>(a i d d' u v).mono h
def Still.mono{C:bf}{f g:Ren}(h:bs f g){o a:Obj}(r:Still C f o a):Still C g o a:=by
 obtain⟨x,ak,t,b,c,d,e⟩:=r;exact⟨x,ak,t,b,c,d,e.mono h⟩
def eJ(h:Halt):Prop:=(∃s,h=.stuck s)\/∃u,h=.unsupported u/\∀g,u≠.initOrder g
def eJ.panic{h:Halt}(d:eJ h)(v:ai):h≠.panic v:=by rcases d with⟨s,rfl⟩|⟨u,rfl,_⟩<;>simp
inductive aA(C:bf){α β:Type}(A:Ren->α->β->Prop):Ren->Sem α->Sem β->Prop
 |pure {f a b}:A f a b->aA C A f (.pure a) (.pure b)
 |load {f} {a:Addr} {b k k'}:f a.block=some b->(∀v v',aB C.fn f v v'->aA C A f (k v) (k' v'))->aA C A f (.load .plain a k) (.load .plain {a with block:=b} k')
 |store {f} {a:Addr} {b v v' k k'}:f a.block=some b->aB C.fn f v v'->aA C A f k k'->aA C A f (.store .plain a v k) (.store .plain {a with block:=b} v' k')
 |new {f o im k k'}:eR C f o im->(∀g r r',bs f g->C.lo<=r->g r=some r'->aA C A g (k r) (k' r'))->aA C A f (.new o k) (.new im k')
 |shape {f r r' k k'}:f r=some r'->(∀x,aA C A f (k x) (k' x))->aA C A f (.shape r k) (.shape r' k')
 |freeze {f} {a:Addr} {b k k'} (n):(C.ro=false/\(C.gi=true\/C.lo<=a.block))->f a.block=some b->aA C A f k k'->aA C A f (.freeze a n k) (.freeze {a with block:=b} n k')
 |frozen {f} {a:Addr} {b k k'}:(C.ro=false/\C.gi=true)->f a.block=some b->(∀x,aA C A f (k x) (k' x))->aA C A f (.frozen a k) (.frozen {a with block:=b} k')
 |getObj {f r r' k k'}:f r=some r'->(∀o im,eR C f o im->aA C A f (k o) (k' im))->aA C A f (.getObj r k) (.getObj r' k')
 |setObj {f r r' o im k k'}:f r=some r'->eR C f o im->aA C A f k k'->aA C A f (.setObj r o k) (.setObj r' im k')
 |choose {f k k'} (q):(∀n,aA C A f (k n) (k' n))->aA C A f (.choose q k) (.choose q k')
 |program {f k k'}:aA C A f (k C.P) (k' C.b0)->aA C A f (.program k) (.program k')
 |ext {f k k'} (g):aA C A f k k'->aA C A f (.mark (.extern g) k) (.mark (.extern g) k')
 |env {f k k'}:(∀r,aA C A f (k r) (k' r))->aA C A f (.sys .env k) (.sys .env k')
 |room {f k k'}:aA C A f k k'->aA C A f (.mark .noRoom k) (.mark .noRoom k')
 |panic {f v v'}:aB C.fn f v v'->aA C A f (.halt (.panic v)) (.halt (.panic v'))
 |dies {f s s'}:(∀w es,∃h w',(s.runT C.P w es).1=.halt h w'/\eJ h)->aA C A f s s'
def hx{α β:Type}(P:bF)(s:Sem α)(k:α->Sem β):∀(w:ab)(es:bI),(s.bind k).runT P w es=match s.runT P w es with
   |(.ok a w',bg)=>(k a).runT P w' bg
   |(.halt h w',bg)=>(.halt h w',bg):=by
 induction s with
 |pure a=>intro w es;simp[Sem.bind,Sem.runT]
 |load m a k b=>intro w es;simp only[Sem.bind,Sem.runT];split;exact b _ _ _;split;exact b _ _ _;rfl
 |store m a v k b=>
  intro w es;cases v<;>simp only[Sem.bind,Sem.runT]<;> (split;split;rfl;exact b _ _;split;exact b _ _;rfl)
 |new o k b=>intro w es;exact b _ _ _
 |shape r k b=>intro w es;exact b _ _ _
 |freeze a n k b=>intro w es;exact b _ _
 |frozen a k b=>intro w es;exact b _ _ _
 |getObj r k b=>intro w es;simp only[Sem.bind,Sem.runT];split;rfl;exact b _ _ _;rfl
 |setObj r o k b=>intro w es;simp only[Sem.bind,Sem.runT];split;rfl;exact b _ _;rfl
 |choose q k b=>intro w es;simp only[Sem.bind,Sem.runT];split;exact b _ _ _;exact b _ _ _
 |sys c k b=>intro w es;exact b _ _ _
 |program k b=>intro w es;exact b _ _ _
 |mark m k b=>intro w es;exact b _ _
 |halt h=>intro w es;rfl
def Gf{α β:Type}{P:bF}{s:Sem α}(h:∀w es,∃a w',(s.runT P w es).1=.halt a w'/\eJ a)(k:α->Sem β): ∀w es,∃a w',((s.bind k).runT P w es).1=.halt a w'/\eJ a:=by
 intro w es;have⟨a,w',e,b⟩:=h w es;rw[hx];generalize s.runT P w es=r at e;obtain⟨r,bg⟩:=r;dsimp only at e;subst e;exact⟨a,w',rfl,b⟩
section
variable{C:bf}{α β my Cg:Type}{A:Ren->α->my->Prop}{B:Ren->β->Cg->Prop}
def aA.bind{f:Ren}{s:Sem α}{s':Sem my}{k:α->Sem β}{k':my->Sem Cg}(h:aA C A f s s')(hk:∀g a a',bs f g->A g a a'->aA C B g (k a) (k' a')): aA C B f (s.bind k) (s'.bind k'):=by
 induction h with
 |pure h=>exact hk _ _ _ (bs.refl _) h
 |load e _ b=>exact .load e λv v' r=>b v v' r hk
 |store e r _ b=>exact .store e r (b hk)
 |new o _ b=>exact .new o λg r r' l q e=>b g r r' l q e λg' a a' d r=>hk g' a a' (l.trans d) r
 |shape e _ b=>exact .shape e λx=>b x hk
 |freeze n c e _ b=>exact .freeze n c e (b hk)
 |frozen c e _ b=>exact .frozen c e λx=>b x hk
 |getObj e _ b=>exact .getObj e λo i r=>b o i r hk
 |setObj e r _ b=>exact .setObj e r (b hk)
 |choose q _ b=>exact .choose q λn=>b n hk
 |program _ b=>exact .program (b hk)
 |ext g _ b=>exact .ext g (b hk)
 |env _ b=>exact .env λr=>b r hk
 |room _ b=>exact .room (b hk)
 |panic r=>exact .panic r
 |dies h=>exact .dies (Gf h _)
def aA.mono{uH:Ren->α->my->Prop}{f:Ren}{s:Sem α}{s':Sem my}(h:aA C A f s s')(hk:∀g a a',bs f g->A g a a'->uH g a a'):aA C uH f s s':=by
 induction h with
 |pure h=>exact .pure (hk _ _ _ (bs.refl _) h)
 |load e _ b=>exact .load e λv v' r=>b v v' r hk
 |store e r _ b=>exact .store e r (b hk)
 |new o _ b=>exact .new o λg r r' l q e=>b g r r' l q e λg' a a' d r=>hk g' a a' (l.trans d) r
 |shape e _ b=>exact .shape e λx=>b x hk
 |freeze n c e _ b=>exact .freeze n c e (b hk)
 |frozen c e _ b=>exact .frozen c e λx=>b x hk
 |getObj e _ b=>exact .getObj e λo i r=>b o i r hk
 |setObj e r _ b=>exact .setObj e r (b hk)
 |choose q _ b=>exact .choose q λn=>b n hk
 |program _ b=>exact .program (b hk)
 |ext g _ b=>exact .ext g (b hk)
 |env _ b=>exact .env λr=>b r hk
 |room _ b=>exact .room (b hk)
 |panic r=>exact .panic r
 |dies h=>exact .dies h
end
structure bR(C:bf)(R:Nat->Prop)(f:Ren)(w w':ab):Prop where
 obj:∀a b,f a=some b->∃o im,w.heap[a]? =some o/\w'.heap[b]? =some im/\((R a/\Still C f o im)\/(¬R a/\eR C f o im))
 ro:∀a,R a->(C.ro=true\/(a<C.lo/\C.gi=false))/\a<w.heap.size
 env:w.os.env=w'.os.env
 jX:(3<=w.heap.size/\C.lo<=w.heap.size)/\3<=w'.heap.size
def bR.n0{C:bf}{R:Nat->Prop}{f:Ren}{w w':ab}(h:bR C R f w w'){a b:Nat}(e:f a=some b):a<w.heap.size/\b<w'.heap.size:=by
 have⟨o,g,c,d,_⟩:=h.obj a b e;exact⟨(bQ.1 c).1,(bQ.1 d).1⟩
def sC(R:Nat->Prop)(g:Ren)(e:Event):Prop:=(∃a b,g a=some b/\(e.write=true->¬R a)/\e.sync=false/\(e.loc=.obj b\/∃o p,e.loc=.cell ⟨b,o,p⟩))\/(∃k,e=⟨.mark (.extern k),false,true⟩)\/e=⟨.mark .noRoom,false,true⟩\/e=⟨.output,true,false⟩
def sC.mono{R:Nat->Prop}{f g:Ren}(h:bs f g){e:Event}(r:sC R f e):sC R g e:=by
 rcases r with⟨a,b,c,d⟩|i
 .exact .inl ⟨a,b,h _ _ c,d⟩
 .exact .inr i
structure iq(R:Nat->Prop)(f g:Ren)(w w' w1 w1':ab)(aH:List Event):Prop where
 le:bs f g
 old:∀a b,g a=some b->f a=some b\/(w.heap.size<=a/\w'.heap.size<=b)
 size:w.heap.size<=w1.heap.size
 yW:w'.heap.size<=w1'.heap.size
 tape:w1.tape=w.tape
 yX:w1'.tape=w'.tape
 os:w1.os=w.os
 Gg:w1'.os=w'.os
 out:w1.output=w.output
 Gh:w1'.output=w'.output
 drawn:∃n,w1.drawn=w.drawn+n/\w1'.drawn=w'.drawn+n
 kept:∀b,b<w'.heap.size->(∀a,f a=some b->R a)->w1'.heap[b]? =w'.heap[b]?
 new:∀b,w'.heap.size<=b->b<w1'.heap.size->∃a,g a=some b
 sD:∀a,w.heap.size<=a->a<w1.heap.size->∃b,g a=some b
 aH:∀e∈aH,sC R g e
 same:w.heap.size=w'.heap.size->w1.heap.size=w1'.heap.size/\((∀a b,f a=some b->a=b)->∀a b,g a=some b->a=b)
 Lw:∀a,a<w.heap.size->(∀b,f a≠some b)->w1.heap[a]? =w.heap[a]?
def iq.refl(R:Nat->Prop)(f:Ren)(w w':ab):iq R f f w w' w w' []:=⟨.refl _,λ_ _ h=>.inl h,bh _,bh _,rfl,rfl,rfl,rfl,rfl,rfl,⟨0,rfl,rfl⟩,λ_ _ _=>rfl,λb a c=>U,λb a c=>U,ag,λh=>⟨h,λh=>h⟩,λ_ _ _=>rfl⟩
def iq.trans{R:Nat->Prop}{f g h:Ren}{w w' w1 w1' w2 j:ab}{aH l:List Event}(a:iq R f g w w' w1 w1' aH)(b:iq R g h w1 w1' w2 j l):iq R f h w w' w2 j (aH++l):=by
 refine⟨a.le.trans b.le,λx y e=> ?_,dU a.size b.size,dU a.yW b.yW,b.tape.trans a.tape,b.yX.trans a.yX,b.os.trans a.os,b.Gg.trans a.Gg,b.out.trans a.out,b.Gh.trans a.Gh,?_,λx d i=> ?_,λx d i=> ?_,λx d i=> ?_,λe o=> ?_,λq=>⟨(b.same (a.same q).1).1,λk=>(b.same (a.same q).1).2 ((a.same q).2 k)⟩,λx d i=> ?_⟩
 .rcases b.old x y e with c|⟨d,i⟩
  .exact a.old x y c
  .exact .inr ⟨dU a.size d,dU a.yW i⟩
 .have⟨n,d,i⟩:=a.drawn;have⟨m,p,r⟩:=b.drawn;exact⟨n+m,U,U⟩
 .rw[b.kept x (fl d a.yW) λy e=> ?_,a.kept x d i];rcases a.old y x e with c|⟨_,c⟩
  .exact i y c
  .omega
 .rcases dH x w1'.heap.size with c|c
  .have⟨y,e⟩:=a.new x d c;exact⟨y,b.le _ _ e⟩
  .exact b.new x c i
 .rcases dH x w1.heap.size with c|c
  .have⟨y,e⟩:=a.sD x d c;exact⟨y,b.le _ _ e⟩
  .exact b.sD x c i
 .rcases fB.1 o with c|c
  .exact(a.aH e c).mono b.le
  .exact b.aH e c
 .rw[b.Lw x (fl d a.size) λy e=> ?_,a.Lw x d i];rcases a.old x y e with c|⟨c,_⟩
  .exact i y c
  .omega
end Go.Ren
namespace Go.Ren
open Go
def fU(C:bf)(R:Nat->Prop){α β:Type}(A:Ren->α->β->Prop)(f:Ren)(w w':ab)(bg:bI):Result α->Result β×bI->Prop
 |.ok a w1,r'=>∃g a' w1' aH,r'=(.ok a' w1',bg++aH.toArray)/\A g a a'/\bR C R g w1 w1'/\iq R f g w w' w1 w1' aH
 |.halt (.panic v) w1,r'=>∃g v' w1' aH,r'=(.halt (.panic v') w1',bg++aH.toArray)/\aB C.fn g v v'/\bR C R g w1 w1'/\iq R f g w w' w1 w1' aH
 |.halt h _,_=>eJ h
section
variable{C:bf}{R:Nat->Prop}{α β:Type}{A:Ren->α->β->Prop}{f g:Ren}{w w' w1 w1':World}{aH:List Event}{bg:Array Event}
def fU.step{r:Result α}{r':Result β×bI}(b:iq R f g w w' w1 w1' aH)(h:fU C R A g w1 w1' (bg++aH.toArray) r r'):fU C R A f w w' bg r r':=by
 match r,h with
 |.ok a w2,⟨g',a',Lx,Ly,e,e1,hw,cD⟩=>exact⟨g',a',Lx,aH++Ly,by rw[e];simp,e1,hw,b.trans cD⟩
 |.halt (.panic v) w2,⟨g',a',Lx,Ly,e,e1,hw,cD⟩=>exact⟨g',a',Lx,aH++Ly,by rw[e];simp,e1,hw,b.trans cD⟩
 |.halt .blocked _,h| .halt .waiting _,h| .halt (.exit _) _,h| .halt (.fatal _) _,h| .halt (.throw _) _,h| .halt .goexit _,h| .halt (.unsupported _) _,h| .halt (.stuck _) _,h=>exact h
def fU.step1{e:Event}{r:Result α}{r':Result β×bI}(a:iq R f g w w' w1 w1' [e])(h:fU C R A g w1 w1' (bg.push e) r r'):fU C R A f w w' bg r r':=fU.step a (by simpa using h)
def fU.step0{r:Result α}{r':Result β×bI}(a:iq R f g w w' w1 w1' [])(h:fU C R A g w1 w1' bg r r'):fU C R A f w w' bg r r':=fU.step a (by simpa using h)
def bR.cell(h:bR C R f w w'){a:Addr}{b:Nat}(e:f a.block=some b){v:ai}(c:w.cell? a=some v):∃v',w'.cell? {a with block:=b}=some v'/\aB C.fn f v v':=by
 have⟨o,l,j,k,d⟩:=h.obj _ _ e;unfold World.cell? at c⊢;rw[j]at c;simp only[k];rcases d with⟨_,x,ak,t,m,rfl,rfl,g⟩|⟨_,d⟩
 .dsimp only at c⊢;split at c
  .cases c
  .rename_i i;rw[aC i];exact g.some c
 .cases d with
  |cells t z g=>
   dsimp only at c⊢;split at c
   .cases c
   .rename_i i;rw[aC i];exact g.some c
  |_=>cases c
def bR.mark(_:bR C R f w w')(e:Event)(a:sC R f e):iq R f f w w' w w' [e]:={iq.refl R f w w' with aH:=by simpa using a}
def bR.put(h:bR C R f w w'){a b:Nat}(e:f a=some b)(u:¬R a){o n:Obj}(ap:eR C f o n)(d c:Array Obj)(ay:d.size=w.heap.size)(A:c.size=w'.heap.size)(aF:d[a]? =some o)(r:c[b]? =some n)(v:∀i,i≠a->d[i]? =w.heap[i]?)(l:∀i,i≠b->c[i]? =w'.heap[i]?)(aH:List Event)(s:∀x∈aH,sC R f x): bR C R f {w with heap:=d} {w' with heap:=c}/\iq R f f w w' {w with heap:=d} {w' with heap:=c} aH:=by
 refine⟨⟨λx y g=> ?_,λx k=>⟨(h.ro x k).1,by have:=(h.ro x k).2;show x<d.size;omega⟩,h.env,by have:=h.jX;show(3<=d.size/\C.lo<=d.size)/\3<=c.size;omega⟩,⟨.refl _,λ_ _ h=>.inl h,by show _<=d.size;omega,by show _<=c.size;omega,rfl,rfl,rfl,rfl,rfl,rfl,⟨0,rfl,rfl⟩,λy z B=> ?_,λy m j=> ?_,λy m j=> ?_,s,λq=>⟨by show d.size=c.size;omega,λk=>k⟩,λy m j=>v y λk=>j b (by rw[k];exact e)⟩⟩
 .by_cases t:x=a
  .subst t;rw[e]at g;cases g;exact⟨o,n,aF,r,.inr ⟨u,ap⟩⟩
  .have z:y≠b:=λk=>t (f.inj _ _ _ g (by rw[k];exact e));have⟨p,D,m,j,E⟩:=h.obj x y g;exact⟨p,D,(v x t).trans m,(l y z).trans j,E⟩
 .refine l y λk=> ?_;subst k;exact u (B a e)
 .have:c.size<=y:=U;exact absurd j (by show¬y<c.size;omega)
 .have:d.size<=y:=U;exact absurd j (by show¬y<d.size;omega)
end
def Lz(w:ab):w.sys .env=(.strings w.os.env,w):=by
 unfold World.sys Kernel.perform;simp[Kernel.lengthOf,Kernel.named,Kernel.ofKernel,Kernel.stamps,Kernel.each,Kernel.env,Pure.pure,Bind.bind,Ask.bind,World.ask]
def _root_.Go.Result.world{α:Type}:Result α->ab
 |.ok _ w=>w
 |.halt _ w=>w
def ag9{α:Type}(m:Ask α):∀(w:ab),w.drawn<=(w.ask m).2.drawn:=by
 induction m with
 |done a=>intro w;exact bh _
 |ask c b k d=>
  intro w;unfold World.ask;dsimp only;split
  .exact d _ w
  .have:=d ((Question.extern c b).cut (w.tape w.drawn (.extern c b))) {w with drawn:=w.drawn+1};dsimp only at this;omega
def aha(c:Sys)(w:ab):w.drawn<=(w.sys c).2.drawn:=by
 have:=ag9 (Kernel.perform c w.os) w;unfold World.sys;split
 .exact bh _
 .rename_i h;rw[h]at this;exact this
def ahb{P:bF}{w x:ab}{a:Addr}{v:ai}{b:Bool}{l:List Addr}(h:w.farStore P a v b=.ok (x,l)):x.drawn=w.drawn:=by
 unfold World.farStore at h;split at h
 .split at h
  .rename_i c;cases h;unfold World.viewStore at c;simp only[bind,Except.bind,pure,Except.pure]at c;repeat' split at c
   all_goals first|(cases c;rfl)|(cases c;done)
  .cases h
 .cases h
def ahc{α:Type}(P:bF)(s:Sem α):∀(w:ab)(es:bI),w.drawn<=(s.runT P w es).1.world.drawn:=by
 induction s with
 |pure a=>intro w es;exact bh _
 |load m a k b=>intro w es;simp only[Sem.runT];split;exact b _ _ _;split;exact b _ _ _;exact bh _
 |store m a v k b=>
  intro w es;cases v<;>simp only[Sem.runT]<;>first|exact bh _|(split;split;exact bh _;exact b (w.setCell a _) _;split;(rename_i h;exact dU (Nat.le_of_eq (ahb h).symm) (b _ _));exact bh _)
 |new o k b=>intro w es;exact b _ {w with heap:=w.heap.push o} _
 |shape r k b=>intro w es;exact b _ _ _
 |freeze a n k b=>intro w es;have:=b (w.freeze a n) es;unfold World.freeze at this;simp only[Sem.runT];unfold World.freeze;split<;> (rename_i d;simpa[d]using this)
 |frozen a k b=>intro w es;exact b _ _ _
 |getObj r k b=>intro w es;simp only[Sem.runT];split;exact bh _;exact b _ _ _;exact bh _
 |setObj r o k b=>intro w es;simp only[Sem.runT];split;exact bh _;exact b {w with heap:=w.heap.setIfInBounds r o} _;exact bh _
 |choose q k b=>intro w es;simp only[Sem.runT];split;exact b _ _ _;(have:=b (q.cut (w.tape w.drawn q)) {w with drawn:=w.drawn+1} es;dsimp only at this;omega)
 |sys c k b=>intro w es;simp only[Sem.runT];exact dU (aha c w) (b _ _ _)
 |program k b=>intro w es;exact b _ _ _
 |mark m k b=>intro w es;exact b _ _
 |halt h=>intro w es;exact bh _
def a2(w:ab)(aP:Nat->Question->Nat)(d:Nat):ab:={w with tape:=aP,drawn:=d}
def hy(P:bF){α:Type}(s:Sem α)(w:ab)(es:bI):Prop:=∀r w1 es1,s.runT P w es=(r,es1)->r.world=w1->(∀h,eJ h->r≠.halt h w1)->w.drawn<=w1.drawn/\∀aP d,(∀j q,w.drawn+j<w1.drawn->aP (d+j) q=w.tape (w.drawn+j) q)->s.runT P (a2 w aP d) es=(match r with| .ok a w1=>.ok a (a2 w1 aP (d+ (w1.drawn - w.drawn)))| .halt h w1=>.halt h (a2 w1 aP (d+ (w1.drawn - w.drawn))),es1)
def hy.dead{P:bF}{α:Type}{s:Sem α}{w w1:ab}{es es1:bI}{h:Halt}(e:s.runT P w es=(.halt h w1,es1))(d:eJ h):hy P s w es:=by
 intro r w2 a aF b c;rw[e]at aF;cases aF;cases b;exact absurd rfl (c h d)
def hy.stay{P:bF}{α:Type}{s:Sem α}{w:ab}{es es1:bI}(r:ab->Result α)(f:ab->(∃a,r=Result.ok a)\/∃h,r=Result.halt h)(e:∀aP d,s.runT P (a2 w aP d) es=(r (a2 w aP d),es1)):hy P s w es:=by
 intro q w2 g aF b _;have c:=e w.tape w.drawn;rw[show a2 w w.tape w.drawn=w from rfl]at c;rw[c]at aF;cases aF;rcases f w with⟨a,rfl⟩|⟨h,rfl⟩
 .cases b;exact⟨bh _,λaP d _=>by rw[e];simp⟩
 .cases b;exact⟨bh _,λaP d _=>by rw[e];simp⟩
def hy.step{P:bF}{α:Type}{s k:Sem α}{w w1:ab}{es es1:bI}(e:∀aP d,s.runT P (a2 w aP d) es=k.runT P (a2 w1 aP d) es1)(hd:w1.drawn=w.drawn)(c:w1.tape=w.tape)(h:hy P k w1 es1):hy P s w es:=by
 intro r w2 a aF g i;have b:=e w.tape w.drawn;rw[show a2 w w.tape w.drawn=w from rfl]at b;have j:a2 w1 w.tape w.drawn=w1:=(by rw[<-hd,<-c];rfl);rw[j]at b;rw[b]at aF;have⟨m,f⟩:=h r w2 a aF g i;rw[hd,c]at f;exact⟨U,λaP d l=>by rw[e];exact f aP d l⟩
def aA.run{C:bf}{R:Nat->Prop}{α β:Type}{A:Ren->α->β->Prop}{f:Ren}{s:Sem α}{s':Sem β}(h:aA C A f s s'): ∀{w w':ab},bR C R f w w'->∀(e:Nat),(∀j q,w'.drawn+j<e->w.tape (w.drawn+j) q=w'.tape (w'.drawn+j) q)->∀es bg,(s'.runT C.b0 w' bg).1.world.drawn<=e->fU C R A f w w' bg (s.runT C.P w es).1 (s'.runT C.b0 w' bg)/\hy C.P s w es:=by
 induction h with
 |@pure f a b h=>exact λm _ B es bg _=>⟨⟨f,b,_,[],by simp[Sem.runT],h,m,.refl _ _ _ _⟩,.stay (.ok a) (λ_=>.inl ⟨_,rfl⟩) λ_ _=>rfl⟩
 |@load f a b k k' e _ E=>
  intro w w' m D B es bg;unfold Sem.runT;cases aa:w.cell? a with
  |some v=>
   have⟨v',Ch,r⟩:=m.cell e aa;simp only[Ch];exact λy=>⟨fU.step1 (m.mark ⟨.cell {a with block:=b},false,false⟩ (.inl ⟨_,_,e,ag,rfl,.inr ⟨_,_,rfl⟩⟩)) (E v v' r m D B _ _ y).1,.step (λaP d=>by rw[Sem.runT];simp only[show(a2 w aP d).cell? a=w.cell? a from rfl,aa];rfl) rfl rfl (E v v' r m D B _ _ y).2⟩
  |none=>
   dsimp only;have⟨o,M,N,T,G⟩:=m.obj _ _ e;have:∃O,w.farLoad C.P a (Mode.plain==.atomic)=.error O/\eJ O:=by
    unfold World.farLoad;rw[N];rcases G with⟨_,x,ak,t,wI,rfl,rfl,J⟩|⟨_,G⟩
    .exact⟨_,rfl,by simp[World.noCell,N,eJ]⟩
    .cases G<;>exact⟨_,rfl,by simp[World.noCell,N,eJ]⟩
   obtain⟨O,he,K⟩:=this;rw[he];dsimp only;intro _;refine⟨?_,.dead (h:=O) (w1:=w) (es1:=es) (by rw[Sem.runT];simp only[aa];rw[he]) K⟩;cases O with
   |panic v=>exact absurd rfl (K.panic v)
   |_=>exact K
 |@store f a b v v' k k' e r _ E=>
  intro w w' m D B es bg;by_cases az:(∃x,v=.agg x)\/∃x,v=.tuple x
  .rcases az with⟨x,rfl⟩|⟨x,rfl⟩<;>exact λ_=>⟨.inl ⟨_,rfl⟩,.dead (by rw[Sem.runT]) (.inl ⟨_,rfl⟩)⟩
  have N:∀w:ab,(Sem.store Mode.plain a v k).runT C.P w es=match w.cell? a with
   |some _=>if w.frozen? a then(.halt (.unsupported (.unsafePointer "a write to bytes that a string shares")) w,es)else k.runT C.P (w.setCell a v) (es.push ⟨.cell a,true,false⟩)
   |none=>match w.farStore C.P a v false with
    |.ok (w,wJ)=>k.runT C.P w (es++wJ.toArray.map (⟨.cell ·,true,false⟩))
    |.error h=>(.halt h w,es):=by
   intro w;cases v<;>first|exact absurd (.inl ⟨_,rfl⟩) az|exact absurd (.inr ⟨_,rfl⟩) az|rfl
  have T:∀v2,aB C.fn f v v2->(Sem.store Mode.plain {a with block:=b} v2 k').runT C.b0 w' bg=match w'.cell? {a with block:=b}with
   |some _=>if w'.frozen? {a with block:=b}then(.halt (.unsupported (.unsafePointer "a write to bytes that a string shares")) w',bg)else k'.runT C.b0 (w'.setCell {a with block:=b} v2) (bg.push ⟨.cell {a with block:=b},true,false⟩)
   |none=>match w'.farStore C.b0 {a with block:=b} v2 false with
    |.ok (w,wJ)=>k'.runT C.b0 w (bg++wJ.toArray.map (⟨.cell ·,true,false⟩))
    |.error h=>(.halt h w',bg):=by
   intro v2 ahd;cases ahd<;>first|exact absurd (.inl ⟨_,rfl⟩) az|exact absurd (.inr ⟨_,rfl⟩) az|rfl
  rw[N w,T v' r];have⟨o,M,ay,H,G⟩:=m.obj _ _ e;have hb:=(bQ.1 ay).1;have V:=(bQ.1 H).1;cases aa:w.cell? a with
  |none=>
   dsimp only;have:∃O,w.farStore C.P a v false=.error O/\eJ O:=by
    unfold World.farStore;rw[ay];rcases G with⟨_,x,ak,t,wI,rfl,rfl,J⟩|⟨_,G⟩
    .exact⟨_,rfl,by simp[World.noCell,ay,eJ]⟩
    .cases G<;>exact⟨_,rfl,by simp[World.noCell,ay,eJ]⟩
   obtain⟨O,he,K⟩:=this;rw[he];dsimp only;intro _;refine⟨?_,.dead (h:=O) (w1:=w) (es1:=es) (by rw[N w];simp only[aa];rw[he]) K⟩;cases O with
   |panic v=>exact absurd rfl (K.panic v)
   |_=>exact K
  |some u=>
   have⟨uE,ahe,avx⟩:=m.cell e aa;simp only[ahe];rcases G with⟨Q,x,ak,t,wI,rfl,rfl,J⟩|⟨Q,G⟩
   .have Y:w.frozen? a=true:=by
     unfold World.cell? at aa;unfold World.frozen?;rw[ay]at aa⊢;dsimp only at aa⊢;split at aa
     .cases aa
     .have:=(bQ.1 aa).1;simp[this]
    rw[aV Y];exact λ_=>⟨.inr ⟨_,rfl,ag⟩,.dead (by rw[N w];simp only[aa];rw[aV Y]) (.inr ⟨_,rfl,ag⟩)⟩
   .cases G with
    |cells t z J=>
     rename_i x ak;have Y:w'.frozen? {a with block:=b}=w.frozen? a:=(by simp[World.frozen?,ay,H]);rw[Y];cases dw:w.frozen? a with
     |true=>exact λ_=>⟨.inr ⟨_,rfl,ag⟩,.dead (by rw[N w];simp only[aa];rw[aV dw]) (.inr ⟨_,rfl,ag⟩)⟩
     |false=>
      simp only[ea,cY];have Ci:a.spot=none:=by
       unfold World.cell? at aa;rw[ay]at aa;dsimp only at aa;split at aa
       .cases aa
       .rename_i bw;simpa using bw
      have k1:w.setCell a v={w with heap:=w.heap.setIfInBounds a.block (.cells (x.setIfInBounds a.off v) t z)}:=by
       unfold World.setCell;congr 1;apply uI;intro i;rw[fA,hL];by_cases af:a.block=i
       .subst af;rw[ay];simp[Ci,hb]
       .simp[af]
      have gd:w'.setCell {a with block:=b} v'={w' with heap:=w'.heap.setIfInBounds b (.cells (ak.setIfInBounds a.off v') t z)}:=by
       unfold World.setCell;congr 1;apply uI;intro i;rw[fA,hL];by_cases af:b=i
       .subst af;rw[H];simp[Ci,V]
       .simp[af]
      rw[k1,gd];have⟨w1,w2⟩:=m.put e Q (eR.cells t z (J.set a.off r)) (w.heap.setIfInBounds a.block (.cells (x.setIfInBounds a.off v) t z)) (w'.heap.setIfInBounds b (.cells (ak.setIfInBounds a.off v') t z)) ag ag (by simp[hb]) (by simp[V]) (λi af=>by simp[hL,ed af]) (λi af=>by simp[hL,ed af]) [⟨.cell {a with block:=b},true,false⟩] (by intro x J;simp at J;subst J;exact .inl ⟨_,_,e,λ_=>Q,rfl,.inr ⟨_,_,rfl⟩⟩);intro y;have W:=E w1 D B (es.push ⟨.cell a,true,false⟩) _ y;refine⟨fU.step1 w2 W.1,hy.step (k:=k) (w1:={w with heap:=w.heap.setIfInBounds a.block (.cells (x.setIfInBounds a.off v) t z)}) (es1:=es.push ⟨.cell a,true,false⟩) (λaP d=> ?_) rfl rfl W.2⟩;rw[N (a2 w aP d),show(a2 w aP d).cell? a=w.cell? a from rfl,aa,show(a2 w aP d).frozen? a=w.frozen? a from rfl,dw,show(a2 w aP d).setCell a v=a2 (w.setCell a v) aP d from rfl,k1];rfl
    |_=>simp[World.cell?,ay]at aa
 |@new f o M k k' ap _ E=>
  intro w w' m D B es bg;unfold Sem.runT;have K:∀b,f w.heap.size≠some b:=λb k=>(by have:=(m.n0 k).1;omega);have UO:∀a,f a≠some w'.heap.size:=λa k=>(by have:=(m.n0 k).2;omega);let g:Ren:=⟨λi=>if i=w.heap.size then some w'.heap.size else f i,λa a' b k k'=>by
   split at k<;>split at k'
   .rename_i p q;rw[p,q]
   .rename_i p q;cases k;exact absurd k' (UO _)
   .rename_i p q;cases k';exact absurd k (UO _)
   .exact f.inj _ _ _ k k',λa b k q=>by
   split at k
   .cases k;have:=m.jX;omega
   .exact f.low a b k q⟩
  have X:bs f g:=λi b k=>by
   have fp:i≠w.heap.size:=λq=>K b (by rw[<-q];exact k);show(if i=w.heap.size then _ else f i)=_
   rw[aC fp];exact k
  have cC:∀{i b},g i=some b->(i=w.heap.size/\b=w'.heap.size)\/(i≠w.heap.size/\f i=some b):=by
   intro i b k;simp only[g]at k;split at k
   .rename_i q;cases k;exact .inl ⟨q,rfl⟩
   .rename_i q;exact .inr ⟨q,k⟩
  have ahf:¬R w.heap.size:=λk=>(by have:=(m.ro _ k).2;omega);intro y;have hW:bR C R g {w with heap:=w.heap.push o} {w' with heap:=w'.heap.push M}:= ?hW;case hW=>
   refine⟨λa b k=> ?_,λa k=>⟨(m.ro a k).1,by have:=(m.ro a k).2;show a< (w.heap.push o).size;simp;omega⟩,m.env,by have:=m.jX;show(3<=(w.heap.push o).size/\C.lo<=(w.heap.push o).size)/\3<=(w'.heap.push M).size;simp;omega⟩;rcases cC k with⟨rfl,rfl⟩|⟨N,T⟩
   .exact⟨o,M,ag,ag,.inr ⟨ahf,ap.mono X⟩⟩
   .have⟨p,hr,ay,aF,ie⟩:=m.obj a b T;refine⟨p,hr,?_,?_,ie.imp (λq=>⟨q.1,q.2.mono X⟩) (λq=>⟨q.1,q.2.mono X⟩)⟩
    .show(w.heap.push o)[a]? =_;rw[oE,aC N];exact ay
    .show(w'.heap.push M)[b]? =_;rw[oE,aC (by have:=(m.n0 T).2;omega)];exact aF
  have W:=E g w.heap.size w'.heap.size X m.jX.1.2 (by simp[g]) (w:={w with heap:=w.heap.push o}) (w':={w' with heap:=w'.heap.push M}) hW D B es bg y;refine⟨?_,.step (w1:={w with heap:=w.heap.push o}) (λaP d=>rfl) rfl rfl W.2⟩;refine fU.step0 (g:=g) (w1:={w with heap:=w.heap.push o}) (w1':={w' with heap:=w'.heap.push M}) ⟨X,λi b k=>(cC k).elim (λq=>.inr ⟨U,U⟩) (λq=>.inl q.2),ag,ag,rfl,rfl,rfl,rfl,rfl,rfl,⟨0,rfl,rfl⟩,λb hb _=>by show(w'.heap.push M)[b]? =_;rw[oE,aC U],λb N T=>⟨w.heap.size,by simp only[g,dd];congr 1;simp at T;omega⟩,λb N T=>⟨w'.heap.size,by simp only[g];rw[aV (by simp at T;omega)]⟩,ag,λq=>⟨by simp;exact q,λk a b e=>(cC e).elim (λh=>U) λh=>k a b h.2⟩,λa N _=>by show(w.heap.push o)[a]? =_;rw[oE,aC U]⟩ W.1
 |@shape f r r' k k' e _ E=>
  intro w w' m D B es bg;have⟨o,M,ay,H,G⟩:=m.obj _ _ e;have:w'.shape? r'=w.shape? r:=by
   unfold World.shape?;rw[ay,H];rcases G with⟨_,x,ak,t,wI,rfl,rfl,J⟩|⟨_,G⟩
   .simp[J.size]
   .cases G with
    |cells t z J=>simp[J.size]
    |_=>rfl
  unfold Sem.runT;rw[this];exact λy=>⟨(E _ m D B _ _ y).1,.step (λaP d=>rfl) rfl rfl (E _ m D B _ _ y).2⟩
 |@freeze f a b k k' n aa e _ E=>
  intro w w' m D B es bg;have⟨o,M,ay,H,G⟩:=m.obj _ _ e;unfold Sem.runT;unfold World.freeze;by_cases K:n=0
  .rw[aV K,aV K];exact λy=>⟨(E m D B _ _ y).1,.step (λaP d=>by rw[Sem.runT];unfold World.freeze;rw[aV K]) rfl rfl (E m D B _ _ y).2⟩
  rw[aC K,aC K];rcases G with⟨Q,_⟩|⟨Q,G⟩
  .have:=(m.ro _ Q).1;obtain⟨c1,Z⟩:=aa;rw[c1]at this;rcases this with this|⟨k1,gd⟩;cases this;rcases Z with Z|Z;(rw[gd]at Z;cases Z);exact absurd k1 U
  have hb:=(bQ.1 ay).1;have V:=(bQ.1 H).1;have UP:∀(F:Obj->Obj),eR C f (F o) (F M)->(k'.runT C.b0 {w' with heap:=w'.heap.modify b F} bg).1.world.drawn<=D->fU C R A f w w' bg ((k.runT C.P {w with heap:=w.heap.modify a.block F} es).1) (k'.runT C.b0 {w' with heap:=w'.heap.modify b F} bg)/\hy C.P k {w with heap:=w.heap.modify a.block F} es:=by
   intro F hF y;have⟨w1,w2⟩:=m.put e Q hF (w.heap.modify a.block F) (w'.heap.modify b F) ag ag (by rw[fA];simp[ay]) (by rw[fA];simp[H]) (λi af=>by rw[fA];simp[ed af]) (λi af=>by rw[fA];simp[ed af]) [] ag;exact⟨fU.step0 w2 (E w1 D B _ _ y).1,(E w1 D B _ _ y).2⟩
  refine λy=>⟨(UP _ ?_ y).1,hy.step (k:=k) (es1:=es) (w1:={w with heap:=w.heap.modify a.block fun| .cells c elem (lo,af)=>.cells c elem (if lo==af then(a.off,a.off+n)else(min lo a.off,max af (a.off+n)))|o=>o}) (λaP d=>by rw[Sem.runT];unfold World.freeze;rw[aC K];rfl) rfl rfl (UP _ ?_ y).2⟩;all_goals
   cases G with
   |cells t z J=>obtain⟨lo,af⟩:=z;exact .cells t _ J
   |map k J=>exact .map k J
   |iter s p=>exact .iter s p
   |pk s n l q=>exact .pk s n l q
   |rn s n l=>exact .rn s n l
   |loop a d eY c1 Z c3=>exact .loop a d eY c1 Z c3
   |number l e=>exact .number l e
   |sB=>exact .sB
   |fin=>exact .fin
   |_=>rename_i l a;exact .def l a
 |@frozen f a b k k' aa e _ E=>
  intro w w' m D B es bg;have⟨o,M,ay,H,G⟩:=m.obj _ _ e;have:w'.frozen? {a with block:=b}=w.frozen? a:=by
   unfold World.frozen?;simp only[ay,H];rcases G with⟨Q,_⟩|⟨_,G⟩
   .have:=(m.ro _ Q).1;rw[aa.1,aa.2]at this;simp at this
   .cases G<;>rfl
  unfold Sem.runT;rw[this];exact λy=>⟨(E _ m D B _ _ y).1,.step (λaP d=>rfl) rfl rfl (E _ m D B _ _ y).2⟩
 |@getObj f r r' k k' e _ E=>
  intro w w' m D B es bg;have⟨o,M,ay,H,G⟩:=m.obj _ _ e;unfold Sem.runT;rw[ay,H];rcases G with⟨_,x,ak,t,wI,rfl,rfl,J⟩|⟨Q,G⟩
  .exact λ_=>⟨.inl ⟨_,rfl⟩,.dead (w1:=w) (es1:=es) (by rw[Sem.runT];rw[ay]) (.inl ⟨_,rfl⟩)⟩
  .have L:∀oI S,eR C f oI S->oI.isChan=false->S.isChan=false->((k' S).runT C.b0 w' (bg.push ⟨.obj r',false,false⟩)).1.world.drawn<=D->w.heap[r]? =some oI->(∀c e z,oI≠.cells c e z)->fU C R A f w w' bg ((k oI).runT C.P w (es.push ⟨.obj r,false,false⟩)).1 ((k' S).runT C.b0 w' (bg.push ⟨.obj r',false,false⟩))/\hy C.P (.getObj r k) w es:=λoI S q LA _ y ap Q8=>by
    have W:=E oI S q m D B (es.push ⟨.obj r,false,false⟩) _ y;refine⟨fU.step1 (m.mark ⟨.obj r',false,false⟩ (.inl ⟨_,_,e,ag,rfl,.inl rfl⟩)) W.1,.step (λaP d=> ?_) rfl rfl W.2⟩;rw[Sem.runT,show(a2 w aP d).heap[r]? =w.heap[r]? from rfl,ap];cases oI<;>first|exact absurd rfl (Q8 _ _ _)|(dsimp only;rw[LA])
   cases G with
   |cells t z J=>exact λ_=>⟨.inl ⟨_,rfl⟩,.dead (w1:=w) (es1:=es) (by rw[Sem.runT];rw[ay]) (.inl ⟨_,rfl⟩)⟩
   |map n J=>exact λy=>L _ _ (.map n J) rfl rfl y ay (λ_ _ _=>ag)
   |iter s p=>exact λy=>L _ _ (.iter s p) rfl rfl y ay (λ_ _ _=>ag)
   |pk s n l q=>exact λy=>L _ _ (.pk s n l q) rfl rfl y ay (λ_ _ _=>ag)
   |rn s n l=>exact λy=>L _ _ (.rn s n l) rfl rfl y ay (λ_ _ _=>ag)
   |loop a d eY c1 Z c3=>exact λy=>L _ _ (.loop a d eY c1 Z c3) rfl rfl y ay (λ_ _ _=>ag)
   |number l e=>exact λy=>L _ _ (.number l e) rfl rfl y ay (λ_ _ _=>ag)
   |sB=>exact λy=>L _ _ .sB rfl rfl y ay (λ_ _ _=>ag)
   |fin=>exact λy=>L _ _ .fin rfl rfl y ay (λ_ _ _=>ag)
   |_=>rename_i l a;exact λy=>L _ _ (.def l a) rfl rfl y ay (λ_ _ _=>ag)
 |@setObj f r r' o M k k' e ap _ E=>
  intro w w' m D B es bg;have⟨p,hr,ay,H,G⟩:=m.obj _ _ e;have hb:=(bQ.1 ay).1;have V:=(bQ.1 H).1;have LA:o.isChan=false/\M.isChan=false:=(by cases ap<;>exact⟨rfl,rfl⟩);unfold Sem.runT;rw[ay,H];rcases G with⟨_,x,ak,t,wI,rfl,rfl,J⟩|⟨Q,G⟩
  .exact λ_=>⟨.inl ⟨_,rfl⟩,.dead (w1:=w) (es1:=es) (by rw[Sem.runT];rw[ay]) (.inl ⟨_,rfl⟩)⟩
  .have⟨w1,w2⟩:=m.put e Q ap (w.heap.setIfInBounds r o) (w'.heap.setIfInBounds r' M) ag ag (by simp[hb]) (by simp[V]) (λi af=>by simp[hL,ed af]) (λi af=>by simp[hL,ed af]) [⟨.obj r',true,M.isChan⟩] (by intro x J;simp at J;subst J;exact .inl ⟨_,_,e,λ_=>Q,LA.2,.inl rfl⟩);cases G with
   |cells t z J=>exact λ_=>⟨.inl ⟨_,rfl⟩,.dead (w1:=w) (es1:=es) (by rw[Sem.runT];rw[ay]) (.inl ⟨_,rfl⟩)⟩
   |_=>exact λy=>⟨fU.step1 w2 (E w1 D B _ _ y).1,hy.step (k:=k) (es1:=es.push ⟨.obj r,true,o.isChan⟩) (w1:={w with heap:=w.heap.setIfInBounds r o}) (λaP d=>by rw[Sem.runT,show(a2 w aP d).heap[r]? =w.heap[r]? from rfl,ay];rfl) rfl rfl (E w1 D B (es.push ⟨.obj r,true,o.isChan⟩) _ y).2⟩
 |@choose f k k' q _ E=>
  intro w w' m D B es bg;unfold Sem.runT;split
  .rename_i b9;exact λy=>⟨(E 0 m D B es bg y).1,.step (λaP d=>by rw[Sem.runT,aV b9]) rfl rfl (E 0 m D B es bg y).2⟩
  .rename_i b9;intro y;have hm:=ahc C.b0 (k' (q.cut (w'.tape w'.drawn q))) {w' with drawn:=w'.drawn+1} bg;have cz:=B 0 q (by dsimp only at hm;omega);simp only[oY]at cz;have W:=E (q.cut (w'.tape w'.drawn q)) (w:={w with drawn:=w.drawn+1}) (w':={w' with drawn:=w'.drawn+1}) ⟨m.obj,m.ro,m.env,m.jX⟩ D (λj q en=> ?_) es bg y
   .refine⟨?_,?_⟩
    .rw[cz];exact fU.step0 (g:=f) (w1:={w with drawn:=w.drawn+1}) (w1':={w' with drawn:=w'.drawn+1}) {iq.refl R f w w' with drawn:=⟨1,rfl,rfl⟩} W.1
    .intro r w2 qa aF ie K;rw[Sem.runT,aC b9,cz]at aF;have⟨N,T⟩:=W.2 r w2 qa aF ie K;dsimp only at N T;refine⟨U,λaP d e1=> ?_⟩;have Ff:=e1 0 q U;simp only[oY]at Ff;have G:=T aP (d+1) λj q en=>by
      have:=e1 (1+j) q U;rw[show d+1+j=d+ (1+j) by omega,this,show w.drawn+1+j=w.drawn+ (1+j) by omega]
     rw[Sem.runT,aC b9];show Sem.runT C.P (k (q.cut (aP d q))) (a2 w aP (d+1)) es=_
     rw[Ff,cz,show a2 w aP (d+1)=a2 {w with drawn:=w.drawn+1} aP (d+1)from rfl,G];subst ie;have fq:d+1+ (r.world.drawn - (w.drawn+1))=d+ (r.world.drawn - w.drawn):=U;cases r<;> (dsimp only[Result.world]at fq⊢;rw[fq])
   have:=B (1+j) q (by dsimp only at en;omega);show w.tape (w.drawn+1+j) q=w'.tape (w'.drawn+1+j) q
   rw[oh,oh];exact this
 |@program f k k' _ E=>exact λm D B es bg=>by unfold Sem.runT;exact λy=>⟨(E m D B es bg y).1,.step (λaP d=>rfl) rfl rfl (E m D B es bg y).2⟩
 |@ext f k k' g _ E=>
  intro w w' m D B es bg;unfold Sem.runT;exact λy=>⟨fU.step1 (m.mark ⟨.mark (.extern g),false,true⟩ (.inr (.inl ⟨_,rfl⟩))) (E m D B _ _ y).1,.step (λaP d=>rfl) rfl rfl (E m D B _ _ y).2⟩
 |@env f k k' _ E=>
  intro w w' m D B es bg;unfold Sem.runT;rw[Lz,Lz,<-m.env];exact λy=>⟨fU.step1 (m.mark ⟨.output,true,false⟩ (.inr (.inr (.inr rfl)))) (E _ m D B _ _ y).1,.step (λaP d=>by rw[Sem.runT,Lz];rfl) rfl rfl (E _ m D B _ _ y).2⟩
 |@room f k k' _ E=>
  intro w w' m D B es bg;unfold Sem.runT;exact λy=>⟨fU.step1 (m.mark ⟨.mark .noRoom,false,true⟩ (.inr (.inr (.inl rfl)))) (E m D B _ _ y).1,.step (λaP d=>rfl) rfl rfl (E m D B _ _ y).2⟩
 |@panic f v v' r=>exact λm _ _ es bg _=>⟨⟨f,v',_,[],by simp[Sem.runT],r,m,.refl _ _ _ _⟩,.stay (.halt (.panic v)) (λ_=>.inr ⟨_,rfl⟩) λ_ _=>rfl⟩
 |@dies f s s' hd=>
  intro w w' m D B es bg;have⟨O,w2,e,K⟩:=hd w es;intro _;refine⟨?_,.dead (h:=O) (w1:=w2) (es1:=(s.runT C.P w es).2) (by rw[<-e]) K⟩;rw[e];cases O with
  |panic v=>exact absurd rfl (K.panic v)
  |_=>exact K
end Go.Ren
namespace Go.Ren
open Go
theorem I3(T:Tables)(c:Array (String×TypeId)):∀n,Made.infoAt {T with cutTypes:=c} n=Made.infoAt T n:=by
 intro n;induction n with
 |zero=>rfl
 |succ n a=>funext t;simp only[Made.infoAt,a]
theorem I4(T:Tables)(c:Array (String×TypeId))(t:TypeId):Tables.info? {T with cutTypes:=c} t=T.info? t:=by
 unfold Tables.info?;rw[I3]
structure bf.Ok(C:bf):Prop where
 tables:C.b0.toTables={C.P.toTables with cutTypes:=C.b0.cutTypes}
 cut:∀n x,C.P.cutTypes.find? (λy=>y.1==n)=some x->C.b0.cutTypes.find? (λy=>y.1==n)=some x
 mo:C.P.cutTypes.find? (λy=>y.1== "*internal/reflectlite.ValueError")=none
 stood:∀t,C.b0.stoodInHeld t=C.P.stoodInHeld t
 held:∀d t,C.b0.holdsPacked d t=C.P.holdsPacked d t
 packed:∀t,C.b0.packed t=C.P.packed t
 named:∀d t,C.b0.namesPacked d t=C.P.namesPacked d t
 UQ:∀d t,C.b0.methodsOfAPack d t=C.P.methodsOfAPack d t
 guard:∀d t,C.b0.eqGuardType d t=C.P.eqGuardType d t
 byte:∀d t o,byteOfCell C.b0 d t o=byteOfCell C.P d t o
 sA:∀i,C.P.info? 0=some i->i.methods.find? (·.name== "")=none
 at_:∀d t n o b,cellAtBytes C.b0 d t n o b=cellAtBytes C.P d t n o b
 gs:C.P.globals.size<=2
def b1(C:bf)(f:Ren):Prop:=∀g,g<C.P.globals.size+1->(g<C.P.globals.size->C.Lu g=true)->f g=some g
theorem b1.mono{C:bf}{f g:Ren}(h:bs f g)(k:b1 C f):b1 C g:=λi af hk=>h _ _ (k i af hk)
def ha:ai->Bool
 |.bool _| .int _ _| .float _ _| .string _| .pointer none| .slice none _ _| .map none| .chan none| .nilFunc| .nilIface=>true
 |_=>false
def flat:ai->Bool
 |.agg xs=>xs.all ha
 |v=>ha v
abbrev bB{α:Type}:Ren->α->α->Prop:=λ_ a b=>a=b
abbrev bk(C:bf):Ren->ai->ai->Prop:=λg=>aB C.fn g
abbrev wK(C:bf):Ren->aQ->aQ->Prop:=λg=>aZ C.fn g
abbrev cp:Ren->Addr->Addr->Prop:=λg a a'=>∃b,g a.block=some b/\a'={a with block:=b}
section
variable{N:Fn->Bool}{f g:Ren}
theorem aB.ha{v:ai}(h:ha v=true):aB N f v v:=by
 cases v with
 |pointer a=>cases a<;>first|exact .ff|cases h
 |slice a l c=>cases a<;>first|exact .mr _ _|cases h
 |map a=>cases a<;>first|exact .wH|cases h
 |chan a=>cases a<;>first|exact .yT|cases h
 |func _ _ _=>cases h
 |iface _ _=>cases h
 |complex _ _ _=>cases h
 |agg _=>cases h
 |tuple _=>cases h
 |_=>constructor
theorem aZ.flat{x:aQ}(h:x.all Ren.ha=true):aZ N f x x:=⟨rfl,λi v v' a b=>by rw[a]at b;cases b;exact .ha (uJ.1 h v (sE a))⟩
theorem aB.flat{v:ai}(h:flat v=true):aB N f v v:=by
 cases v with
 |agg x=>exact .qg (.flat h)
 |_=>exact .ha h
theorem cp.mono(h:bs f g){a a':Addr}(k:cp f a a'):cp g a a':=by obtain⟨b,e,r⟩:=k;exact⟨b,h _ _ e,r⟩
theorem cp.add{a a':Addr}(k:cp f a a')(n:Nat):cp f (a.add n) (a'.add n):=by
 obtain⟨b,e,rfl⟩:=k;unfold Addr.add;split
 .exact⟨b,e,rfl⟩
 .exact⟨b,e,rfl⟩
theorem cp.val{a a':Addr}(k:cp f a a'):aB N f (.pointer (some a)) (.pointer (some a')):=by obtain⟨b,e,rfl⟩:=k;exact .ptr e
theorem aB.qh{a a':Addr}(k:cp f a a')(l c:Nat):aB N f (.slice (some a) l c) (.slice (some a') l c):=by obtain⟨b,e,rfl⟩:=k;exact .slice l c e
end
theorem ahg{α:Type}(s:Sem α):s.bind .pure=s:=by induction s<;>simp only[Sem.bind]<;>first|rfl|(congr 1;done)|(congr 1;funext x;rename_i a;exact a x)
theorem ahh{α β sF:Type}(s:Sem α)(k:α->Sem β)(h:β->Sem sF):(s.bind k).bind h=s.bind λa=>(k a).bind h:=by induction s<;>simp only[Sem.bind]<;>first|rfl|(congr 1;done)|(congr 1;funext x;rename_i b;exact b x)
instance:LawfulMonad Sem:=LawfulMonad.mk' Sem (λs=>ahg s) (λa k=>rfl) (λs k h=>ahh s k h)
section
variable{C:bf}{α β my Cg:Type}{A:Ren->α->my->Prop}{B:Ren->β->Cg->Prop}{f:Ren}
theorem aA.ao{s:Sem α}{s':Sem my}{k:α->Sem β}{k':my->Sem Cg}(h:aA C A f s s')(hk:∀g a a',bs f g->A g a a'->aA C B g (k a) (k' a')): aA C B f (s>>=k) (s'>>=k'):=aA.bind h hk
theorem aA.ax{a:α}{b:my}(h:A f a b):aA C A f (Pure.pure a) (Pure.pure b):=.pure h
theorem aA.halt{h:Halt}{s':Sem my}(a:eJ h):aA C A f (.halt h) s':=.dies λw es=>⟨h,w,rfl,a⟩
theorem aA.stuck{w:String}{s':Sem my}:aA C A f (stuck w) s':=.halt (.inl ⟨_,rfl⟩)
theorem aA.b4{u:Unsupported}{s':Sem my}(h:∀g,u≠.initOrder g:=by simp):aA C A f (unsupported u) s':=.halt (.inr ⟨_,rfl,h⟩)
theorem aA.rp{v v':ai}(h:aB C.fn f v v'):aA C A f (goPanic v) (goPanic v'):=.panic h
theorem aA.prog{k:bF->Sem α}{k':bF->Sem my}(h:aA C A f (k C.P) (k' C.b0)):aA C A f (Go.program>>=k) (Go.program>>=k'):=.program h
end
section
variable{C:bf}(O:C.Ok){f:Ren}
include O
theorem bf.Ok.oi(t:TypeId):C.b0.info? t=C.P.info? t:=by rw[O.tables];exact I4 _ _ t
theorem bf.Ok.eF(t:TypeId):C.b0.underlying t=C.P.underlying t:=by
 unfold Program.underlying;simp only[bf.Ok.oi O]
theorem bf.Ok.rt:C.b0.rt=C.P.rt:=by rw[O.tables]
theorem bf.Ok.wL:C.b0.globals=C.P.globals:=by rw[O.tables]
theorem mz(t:TypeId):aA C bB f (typeInfo t) (typeInfo t):=by
 refine .prog ?_;rw[O.oi];cases C.P.info? t with
 |some i=>exact .ax rfl
 |none=>exact .stuck
theorem gj(t:TypeId):aA C bB f (underlying t) (underlying t):=by
 refine .prog ?_;rw[O.eF];cases C.P.underlying t with
 |some i=>exact .ax rfl
 |none=>exact .stuck
theorem ir(t:TypeId):aA C (λ_ a b=>a=b/\C.P.underlying t=some a) f (underlying t) (underlying t):=by
 refine .prog ?_;rw[O.eF];cases e:C.P.underlying t with
 |some i=>exact .ax ⟨rfl,rfl⟩
 |none=>exact .stuck
theorem hU(t:TypeId):aA C bB f (sizeOf t) (sizeOf t):=.ao (mz O t) λg a a' _ h=>by subst h;exact .ax rfl
theorem UR(t:TypeId):aA C bB f (isAgg t) (isAgg t):=.ao (gj O t) λg a a' _ h=>by subst h;cases a<;>exact .ax rfl
theorem ahi(n:String):aA C bB f (cutType n) (cutType n):=by
 refine .prog ?_;cases e:C.P.cutTypes.find? (λy=>y.1==n)with
 |none=>exact .stuck
 |some x=>rw[O.cut n x e];exact .ax rfl
theorem US(t:TypeId):aA C bB f (elemOf t) (elemOf t):=.ao (gj O t) λg a a' _ h=>by
 subst h;cases a<;>first|exact .ax rfl|exact .stuck
def pn(P:bF)(t:TypeId):Bool:=match P.info? t with
 |some i=>(match i.zero with|some z=>flat z|none=>true)
 |none=>true
theorem uK{t:TypeId}(h:pn C.P t=true):aA C (λ_ v v'=>v=v'/\flat v=true) f (zeroValue t) (zeroValue t):=by
 refine .ao (A:=λ_ a b=>a=b/\C.P.info? t=some a) ?_ λg a a' _ k=> ?_
 .refine .prog ?_;rw[O.oi];cases e:C.P.info? t with
  |some i=>exact .ax ⟨rfl,rfl⟩
  |none=>exact .stuck
 .obtain⟨rfl,e⟩:=k;unfold pn at h;rw[e]at h;dsimp only at h;cases dw:a.zero with
  |none=>exact .b4
  |some z=>rw[dw]at h;exact .ax ⟨rfl,h⟩
theorem UT{a a':Addr}(h:cp f a a'):aA C (bk C) f (load a) (load a'):=by
 obtain⟨b,e,rfl⟩:=h;exact .load e λv v' r=>.pure r
theorem ahj{a a':Addr}(h:cp f a a'){v v':ai}(r:aB C.fn f v v'):aA C bB f (store a v) (store a' v'):=by
 obtain⟨b,e,rfl⟩:=h;exact .store e r (.pure rfl)
theorem yY{o a:Obj}(h:eR C f o a):aA C (λg r r'=>g r=some r') f (newObj o) (newObj a):=.new h λg r r' _ _ e=>.pure e
omit O in
theorem ahk{o a:Obj}(h:eR C f o a):aA C (λg r r'=>C.lo<=r/\g r=some r') f (newObj o) (newObj a):=.new h λg r r' _ q e=>.pure ⟨q,e⟩
theorem mA{r r':Nat}(h:f r=some r'):aA C (λg o a=>eR C g o a) f (getObj r) (getObj r'):=.getObj h λo a k=>.pure k
theorem qi{r r':Nat}(h:f r=some r'){o a:Obj}(k:eR C f o a):aA C bB f (setObj r o) (setObj r' a):=.setObj h k (.pure rfl)
theorem rq(q:Question):aA C bB f (choose q) (choose q):=.choose q λn=>.pure rfl
theorem ahl{a a':Addr}(n:Nat):∀(f:Ren)(i:Nat)(c b:aQ),cp f a a'->aZ C.fn f c b->aA C (wK C) f (loadCellsFrom a i n c) (loadCellsFrom a' i n b):=by
 induction n with
 |zero=>exact λf i c b _ r=>.ax r
 |succ n d=>exact λf i c b h r=>.ao (UT O (h.add i)) λg v v' l k=>d g _ _ _ (h.mono l) ((r.mono l).push k)
theorem LB{a a':Addr}(h:cp f a a')(n:Nat):aA C (wK C) f (loadCells a n) (loadCells a' n):=ahl O n f 0 _ _ h .nil
theorem Gi{a a':Addr}:∀(l b:bJ)(f:Ren)(i:Nat),cp f a a'->aZ C.fn f l.toArray b.toArray->aA C bB f (storeCells a l i) (storeCells a' b i)
 |[],[],f,i,_,_=>.ax rfl
 |[],_::_,_,_,_,r=>by have:=r.size;simp at this
 |_::_,[],_,_,_,r=>by have:=r.size;simp at this
 |v::l,v'::b,f,i,h,r=>.ao (ahj O (h.add i) (r.get 0 v v' ag ag)) λg _ _ c _=>Gi l b g (i+1) (h.mono c) ⟨by have:=r.size;simpa using this,λj a a' d e=>(r.get (j+1) a a' (by simpa using d) (by simpa using e)).mono c⟩
theorem wM(t:TypeId){a a':Addr}(h:cp f a a'):aA C (bk C) f (loadVar t a) (loadVar t a'):=by
 refine .ao (UR O t) λg b j l e=> ?_;subst e;cases b with
 |true=>exact .ao (hU O t) λg' n k c e=>by subst e;exact .ao (LB O (h.mono (l.trans c)) n) λd x ak i r=>.ax (.qg r)
 |false=>exact UT O (h.mono l)
theorem n1(t:TypeId){a a':Addr}(h:cp f a a'){v v':ai}(r:aB C.fn f v v'):aA C bB f (storeVar t a v) (storeVar t a' v'):=by
 refine .ao (hU O t) λg n i l e=> ?_;subst e;have c:=(r.mono l).cells;have d:=c.size;by_cases b:v.cells.size≠n
 .rw[aV b,aV (by rw[<-d];exact b)];exact .stuck
 .rw[aC b,aC (by rw[<-d];exact b)];exact Gi O _ _ g 0 (h.mono l) (by simpa using c)
theorem yZ(t:TypeId){x ak:aQ}(h:aZ C.fn f x ak):aA C cp f (newRow t x) (newRow t ak):=.ao (yY O (.cells t (0,0) h)) λg r r' _ e=>.ax ⟨r',e,rfl⟩
omit O in
theorem ahm(t:TypeId){x ak:aQ}(h:aZ C.fn f x ak):aA C (λg a a'=>C.lo<=a.block/\cp g a a') f (newRow t x) (newRow t ak):=.ao (ahk (.cells t (0,0) h)) λg r r' _ e=>.ax ⟨e.1,r',e.2,rfl⟩
theorem Cj(t:TypeId){v v':ai}(h:aB C.fn f v v'):aA C cp f (newVar t v) (newVar t v'):=yZ O t h.cells
theorem oJ(t:TypeId){x ak:aQ}(h:aZ C.fn f x ak)(a:Nat):aA C (bk C) f (part t x a) (part t ak a):=by
 refine .ao (UR O t) λg b i l e=> ?_;subst e;cases b with
 |true=>exact .ao (hU O t) λg' n j d e=>by subst e;exact .ax (.qg ((h.mono (l.trans d)).extract _ _))
 |false=>
  cases bP:x[a]? with
  |none=>simp only[bP];exact .stuck
  |some v=>have⟨v',c,r⟩:=h.some bP;simp only[bP,c];exact .ax (r.mono l)
end
end Go.Ren
namespace Go.Ren
open Go
section
variable{C:bf}(O:C.Ok){f:Ren}{α my:Type}{A:Ren->α->my->Prop}
include O
theorem LC(G:b1 C f)(t:TypeId):aB C.fn f (typeHandle C.P t) (typeHandle C.b0 t):=by
 unfold typeHandle;rw[O.wL];exact cp.val ⟨_,G C.P.globals.size U (λh=>absurd h (vL _)),rfl⟩
theorem gl(G:b1 C f)(e:RuntimeError):aA C A f (runtimePanic e) (runtimePanic e):=by
 unfold runtimePanic;refine .prog ?_;have b:=O.rt;have d:∀(v:ai),flat v=true->∀g,aB C.fn g v v:=λv h g=>.flat h;cases e with
 |bounds x y s c=>dsimp only;rw[b];exact .rp (.iface _ (d _ (by simp[flat,ha]) _))
 |error m=>dsimp only;rw[b];exact .rp (.iface _ (d _ rfl _))
 |plain m=>dsimp only;rw[b];exact .rp (.iface _ (d _ rfl _))
 |nilDeref=>dsimp only;rw[b];exact .rp (.iface _ (d _ rfl _))
 |typeAssertion i c a m=>
  dsimp only;rw[b];have j:∀t:Option TypeId,aB C.fn f (match t with|some t=>typeHandle C.P t|none=>.pointer none) (match t with|some t=>typeHandle C.b0 t|none=>.pointer none):=λt=>by
   cases t with
   |none=>exact .ff
   |some t=>exact LC O G t
  refine .ao (US O _) λg t k l e=> ?_;subst e;refine .ao (Cj O t (.qg ((((aZ.one ((j i).mono l)).push ((j c).mono l)).push ((j (some a)).mono l)).push (.string _)))) λg' a a' n r=> ?_;exact .rp (.iface _ r.val)
 |panicNil=>
  dsimp only;rw[b];refine .ao (US O _) λg t k l e=> ?_;subst e;exact .ao (Cj O t (.qg .nil)) λg' a a' n r=>.rp (.iface _ r.val)
 |unhashable t=>dsimp only;rw[b];exact .rp (.iface _ (.qg (.one (LC O G t))))
theorem Ck(G:b1 C f)(k:IntKind)(x y:Int)(c:BoundsCode):aA C A f (boundsPanic k x y c) (boundsPanic k x y c):=by
 unfold boundsPanic;dsimp only;split
 .refine .ao (A:=bB) (aA.ao (rq O _) λg n d _ e=> ?_) λg b a l e=> ?_
  .subst e;exact .ax rfl
  .subst e;exact gl O (G.mono l) _
 .exact aA.ao (A:=bB) (.ax rfl) λg b a l e=>by subst e;exact gl O (G.mono l) _
theorem Gj{v v':ai}(h:aB C.fn f v v'):aA C bB f (asIntOf v) (asIntOf v'):=by cases h<;>first|exact .ax rfl|exact .b4|exact .stuck
theorem Cl{v v':ai}(h:aB C.fn f v v'):aA C bB f (asInt v) (asInt v'):=.ao (Gj O h) λg a a' _ e=>by subst e;exact .ax rfl
theorem UU{v v':ai}(h:aB C.fn f v v'):aA C bB f (asBool v) (asBool v'):=by cases h<;>first|exact .ax rfl|exact .stuck
theorem ahn{v v':ai}(h:aB C.fn f v v'):aA C (wK C) f (asAgg v) (asAgg v'):=by cases h<;>first|exact .ax ⟨I6,I6⟩|exact .stuck
theorem Gk(G:b1 C f){v v':ai}(h:aB C.fn f v v'):aA C cp f (asAddr v) (asAddr v'):=by
 cases h with
 |ff=>show aA C cp f (runtimePanic .nilDeref) (runtimePanic .nilDeref);exact gl O G _
 |ptr e=>exact .ax ⟨_,e,rfl⟩
 |_=>exact .stuck
theorem Cm{v v':ai}(h:aB C.fn f v v'):aA C cp f (Instr.sureAddr v) (Instr.sureAddr v'):=by
 cases h with
 |ptr e=>exact .ax ⟨_,e,rfl⟩
 |_=>exact .stuck
theorem aho(t:TypeId){v v':ai}(h:aB C.fn f v v'):aA C (bk C) f (Instr.loadAt t v) (Instr.loadAt t v'):=.ao (Cm O h) λg a a' _ r=>wM O t r
theorem ahp(t:TypeId){v v' x ak:ai}(h:aB C.fn f v v')(k:aB C.fn f x ak):aA C bB f (Instr.storeAt t v x) (Instr.storeAt t v' ak):=.ao (Cm O h) λg a a' l r=>n1 O t r (k.mono l)
def Gl(P:bF)(t:TypeId):Bool:=match P.info? t with
 |some i=>i.size !=0
 |none=>false
theorem ahq{a a':Addr}(h:cp f a a')(c:Field)(d:Gl C.P c.type=true):aA C cp f (fieldPlace a c) (fieldPlace a' c):=by
 unfold fieldPlace;refine .ao (A:=λ_ a b=>a=b/\a≠0) ?_ λg n k l e=> ?_
 .refine .ao (A:=λ_ a b=>a=b/\C.P.info? c.type=some a) ?_ λg i m _ e=> ?_
  .refine .prog ?_;rw[O.oi];cases e:C.P.info? c.type with
   |some i=>exact .ax ⟨rfl,rfl⟩
   |none=>exact .stuck
  .obtain⟨rfl,e⟩:=e;unfold Gl at d;rw[e]at d;exact .ax ⟨rfl,by simpa using d⟩
 .obtain⟨rfl,j⟩:=e;rw[aC j,aC j];exact .ax ((h.mono l).add _)
def LD(P:bF)(s:TypeId)(n:Nat):Bool:=match P.underlying s with
 |some (.struct dk)=>(match dk[n]? with|some fd=>Gl P fd.type|none=>true)
 |_=>true
theorem ahr(s:TypeId){v v':ai}(h:aB C.fn f v v')(n:Nat)(c:LD C.P s n=true):aA C (bk C) f (Instr.fieldAt s v n) (Instr.fieldAt s v' n):=by
 unfold Instr.fieldAt;refine .ao (ir O s) λg d d' l e=> ?_;obtain⟨rfl,e⟩:=e;cases d with
 |struct dk=>
  dsimp only;cases dg:dk[n]? with
  |none=>exact .stuck
  |some j=>
   dsimp only;have i:Gl C.P j.type=true:=(by unfold LD at c;rw[e]at c;dsimp only at c;rw[dg]at c;exact c);exact .ao (Cm O (h.mono l)) λg' a a' o r=>.ao (ahq O r j i) λk b p m r'=>.ax r'.val
 |_=>exact .stuck
theorem ahs(G:b1 C f)(t:TypeId){v v' x ak:ai}(h:aB C.fn f v v')(k:aB C.fn f x ak):aA C (bk C) f (Instr.indexAt t v x) (Instr.indexAt t v' ak):=by
 unfold Instr.indexAt;refine .ao (Gj O k) λg i B l e=> ?_;subst e;obtain⟨k,i⟩:=i;dsimp only;refine .ao (gj O t) λg1 d d' l1 e=> ?_;subst e;have w:=h.mono (l.trans l1);have p:∀(q:Ren)(_:bs g1 q)(b s:Option Addr)(j:Nat)(o:TypeId),aB C.fn q (.pointer b) (.pointer s)->aA C (bk C) q (do
    let m:=j<=1 && (match<-underlying t with| .array ..=>true|_=>false)
    match b with
    |some a=>
     if 0<=i/\i<j then pure (.pointer (some (a.add (i.toNat* (<-sizeOf o)))))
     else if m then unsupported (.noEntry "op/indexAddr.an index out of range at an array of length 0 or 1 (ledger 616)")
     else boundsPanic k i j .index
    |none=>boundsPanic k i 0 .index)
    (do
    let m:=j<=1 && (match<-underlying t with| .array ..=>true|_=>false)
    match s with
    |some a=>
     if 0<=i/\i<j then pure (.pointer (some (a.add (i.toNat* (<-sizeOf o)))))
     else if m then unsupported (.noEntry "op/indexAddr.an index out of range at an array of length 0 or 1 (ledger 616)")
     else boundsPanic k i j .index
    |none=>boundsPanic k i 0 .index):=by
  intro q l2 b s j o r;refine .ao (gj O t) λD d d' y e=> ?_;subst e;dsimp only;have dR:=G.mono (((l.trans l1).trans l2).trans y);cases r with
  |ff=>exact Ck O dR _ _ _ _
  |ptr e=>
   dsimp only;split
   .exact .ao (hU O o) λE n F z A=>by subst A;exact .ax (cp.val (cp.add ⟨_,z _ _ (y _ _ e),rfl⟩ _))
   .generalize(decide (j<=1) && _)=m;cases m with
    |true=>exact .b4
    |false=>exact Ck O dR _ _ _ _
 cases d with
 |array j o=>
  dsimp only;exact .ao (Cm O w) λq a a' l2 r=>p q l2 (some a) (some a') j o r.val
 |slice o=>
  cases w with
  |mr u c=>exact p g1 (bs.refl _) none none u o .ff
  |slice u c e=>exact p g1 (bs.refl _) (some _) (some _) u o (.ptr e)
  |_=>exact .stuck
 |_=>dsimp only;exact .stuck
end
end Go.Ren
namespace Go.Ren
open Go
section
variable{C:bf}(O:C.Ok){f:Ren}
include O
theorem aht{t:TypeId}(h:pn C.P t=true):aA C (bk C) f (Instr.alloc t true (.tuple #[])) (Instr.alloc t true (.tuple #[])):=by
 unfold Instr.alloc;refine .ao (uK O h) λg v v' l e=> ?_;obtain⟨rfl,b⟩:=e;exact .ao (Cj O t (.flat b)) λg a a' l r=>.ax r.val
theorem ahu(t:TypeId){v v':ai}(h:aB C.fn f v v'):aA C (bk C) f (Instr.box t v) (Instr.box t v'):=.ao (Cj O t h) λg a a' l r=>.ax r.val
omit O in
theorem UW(b:Nat->Option (Nat×Nat)):∀(l e:List (Nat×ai))(x ak:aQ),l.length=e.length->(∀(i:Nat)p g,l[i]? =some p->e[i]? =some g->p.1=g.1/\aB C.fn f p.2 g.2)->aZ C.fn f x ak->(Instr.fill b x l=none/\Instr.fill b ak e=none)\/∃y d,Instr.fill b x l=some y/\Instr.fill b ak e=some d/\aZ C.fn f y d
 |[],[],x,ak,_,_,r=>.inr ⟨x,ak,rfl,rfl,r⟩
 |[],_::_,_,_,h,_,_=>by simp at h
 |_::_,[],_,_,h,_,_=>by simp at h
 |(i,v)::l,(ahv,v')::e,x,ak,h,b8,r=>by
  obtain⟨rfl,t⟩:=b8 0 _ _ rfl rfl;dsimp only at t;unfold Instr.fill;cases b i with
  |none=>exact .inl ⟨rfl,rfl⟩
  |some p=>
   obtain⟨k,size⟩:=p;dsimp only;have w:=t.cells;rw[<-w.size,<-r.size];split
   .exact .inl ⟨rfl,rfl⟩
   .refine UW b l e _ _ (by simpa using h) (λj p g m o=>b8 (j+1) p g (by simpa using m) (by simpa using o)) ?_;have s:∀(n:Nat)(a a':bJ)(y d:aQ),aZ C.fn f a.toArray a'.toArray->aZ C.fn f y d->aZ C.fn f ((a.zipIdx n).foldl (λcs(p:ai×Nat)=>cs.setIfInBounds (k+p.2) p.1) y) ((a'.zipIdx n).foldl (λcs(p:ai×Nat)=>cs.setIfInBounds (k+p.2) p.1) d):=by
     intro n a;induction a generalizing n with
     |nil=>intro a' y d q r;cases a' with
      |nil=>exact r
      |cons _ _=>have:=q.size;simp at this
     |cons c a z=>intro a' y d q r;cases a' with
      |nil=>have:=q.size;simp at this
      |cons A a'=>
       simp only[List.zipIdx_cons,rQ];exact z (n+1) a' _ _ ⟨by have:=q.size;simpa using this,λj u B m o=>q.get (j+1) u B (by simpa using m) (by simpa using o)⟩ (r.set _ (q.get 0 c A ag ag))
    have:=s 0 v.cells.toList v'.cells.toList x ak (by simpa using w) r;rw[<-y0,<-y0,Array.toList_zipIdx,Array.toList_zipIdx];exact this
structure wN(C:bf)(f:Ren)(x ak:Array (Nat×ai)):Prop where
 size:x.size=ak.size
 get:∀(i:Nat)p hr,x[i]? =some p->ak[i]? =some hr->p.1=hr.1/\aB C.fn f p.2 hr.2
omit O in
theorem wN.mono{x ak:Array (Nat×ai)}{g:Ren}(h:bs f g)(r:wN C f x ak):wN C g x ak:=⟨r.size,λi p c a b=>(r.get i p c a b).imp id (·.mono h)⟩
omit O in
theorem Gm{g:Ren}{x ak:Array (Nat×ai)}(r:wN C g x ak)(c:Nat->Option (Nat×Nat)){y d:aQ}(q:aZ C.fn g y d): (Instr.fill c y x.toList=none/\Instr.fill c d ak.toList=none)\/∃z e,Instr.fill c y x.toList=some z/\Instr.fill c d ak.toList=some e/\aZ C.fn g z e:=UW c _ _ _ _ (by simpa using r.size) (λi p f a b=>r.get i p f (by simpa using a) (by simpa using b)) q
theorem ahw{t:TypeId}(o:pn C.P t=true){x ak:Array (Nat×ai)}(r:wN C f x ak):aA C (bk C) f (Instr.build t x) (Instr.build t ak):=by
 unfold Instr.build;refine .ao (uK O o) λg v v' l e=> ?_;obtain⟨rfl,j⟩:=e;refine .ao (gj O t) λg1 d d' l1 e=> ?_;subst e;cases d with
 |struct dk=>
  dsimp only;refine .ao (A:=bB) ?_ λp ps q l2 e=> ?_
  .have:∀(dk:List Field)(b:Array (Nat×Nat))(g:Ren),aA C bB g (dk.foldlM (λbx a=>do pure (bx.push (<-(do pure (a.offset,<-sizeOf a.type):Sem (Nat×Nat))))) b) (dk.foldlM (λbx a=>do pure (bx.push (<-(do pure (a.offset,<-sizeOf a.type):Sem (Nat×Nat))))) b):=by
    intro dk;induction dk with
    |nil=>intro b g;exact .ax rfl
    |cons a dk s=>
     intro b g;refine .ao (A:=bB) (.ao (A:=bB) (.ao (hU O _) λg n k l e=>by subst e;exact .ax rfl) λg n k l e=>by subst e;exact .ax rfl) λg' n k l e=> ?_;subst e;exact s _ _
   rw[LF,<-LG];exact this _ _ _
  .subst e;rcases Gm (r.mono (l.trans (l1.trans l2))) (ps[·]?) (aZ.mono (l1.trans l2) (aB.flat (f:=g) j).cells)with⟨c,h⟩|⟨z,u,c,h,m⟩
   .rw[c,h];exact .stuck
   .rw[c,h];exact .ax (.qg m)
 |array n w=>
  dsimp only;refine .ao (hU O w) λp n k l2 e=> ?_;subst e;rcases Gm (r.mono (l.trans (l1.trans l2))) (λi=>some (i*n,n)) (aZ.mono (l1.trans l2) (aB.flat (f:=g) j).cells)with⟨c,h⟩|⟨z,u,c,h,m⟩
  .rw[c,h];exact .stuck
  .rw[c,h];exact .ax (.qg m)
 |_=>exact .stuck
def uL(P:bF)(t:TypeId):Bool:=match P.underlying t with
 |some (.slice e)=>pn P e
 |_=>true
omit O in
theorem aZ.Cn{N:Fn->Bool}{g:Ren}{z:aQ}(h:aZ N g z z)(n:Nat):aZ N g ((Array.range n).map λi=>z[i % z.size]!) ((Array.range n).map λi=>z[i % z.size]!):=by
 refine aZ.map (λi=> ?_) _;rw[getElem!_def];cases e:z[i % z.size]? with
 |none=>exact .bool _
 |some v=>exact h.get _ _ _ e e
abbrev Gn(C:bf):Ren->aQ->aQ->Prop:=λg x ak=>x=ak/\aZ C.fn g x ak
theorem ahx{t:TypeId}(h:uL C.P t=true)(n:Nat){x ak:Array (Nat×ai)}(r:wN C f x ak):aA C (bk C) f (Instr.buildSlice t n x) (Instr.buildSlice t n ak):=by
 unfold Instr.buildSlice;refine .ao (ir O t) λg d d' l e=> ?_;obtain⟨rfl,e⟩:=e;unfold uL at h;rw[e]at h;cases d with
 |slice j=>
  dsimp only at h⊢;refine .ao (hU O j) λg1 m E l1 e=> ?_;subst e;have p:=r.mono (l.trans l1);split
  .exact .b4
  .split
   .refine .ao (A:=Gn C) (.ax ⟨rfl,.nil⟩) ?_;intro u z w l2 e;obtain⟨rfl,q⟩:=e;rcases Gm (p.mono l2) (λi=>some (i*m,m)) (aZ.Cn q (n*m))with⟨b,c⟩|⟨y,B,b,c,k⟩
    .rw[b,c];exact .stuck
    .rw[b,c];exact .ao (yZ O j k) λs a a' o r=>.ax (aB.qh r _ _)
   .refine .ao (uK O h) λs v v' o e=> ?_;obtain⟨rfl,D⟩:=e;refine .ao (A:=Gn C) (.ax ⟨rfl,(aB.flat D).cells⟩) ?_;intro u z w l2 e;obtain⟨rfl,q⟩:=e;rcases Gm (p.mono (o.trans l2)) (λi=>some (i*m,m)) (aZ.Cn q (n*m))with⟨b,c⟩|⟨y,B,b,c,k⟩
    .rw[b,c];exact .stuck
    .rw[b,c];exact .ao (yZ O j k) λs a a' o r=>.ax (aB.qh r _ _)
 |_=>exact .stuck
theorem ahy(t:TypeId){v v':ai}(h:aB C.fn f v v')(n:Nat):aA C (bk C) f (Instr.field t v n) (Instr.field t v' n):=by
 unfold Instr.field;refine .ao (gj O t) λg d d' l e=> ?_;subst e;cases d with
 |struct dk=>
  dsimp only;cases dk[n]? with
  |none=>exact .stuck
  |some a=>exact .ao (ahn O (h.mono l)) λg1 x ak l1 r=>oJ O _ r _
 |_=>exact .stuck
theorem ahz(G:b1 C f)(t:TypeId){v v' x ak:ai}(h:aB C.fn f v v')(k:aB C.fn f x ak):aA C (bk C) f (Instr.index t v x) (Instr.index t v' ak):=by
 unfold Instr.index;refine .ao (Gj O k) λg i j l e=> ?_;subst e;obtain⟨k,i⟩:=i;dsimp only;refine .ao (gj O t) λg1 d d' l1 e=> ?_;subst e;have a:=h.mono (l.trans l1);have b:=G.mono (l.trans l1);cases d with
 |array n c=>
  cases a with
  |agg s q=>
   dsimp only;split
   .exact .ao (hU O c) λo m p l2 e=>by subst e;exact oJ O _ (aZ.mono l2 ⟨s,q⟩) _
   .exact Ck O b _ _ _ _
  |_=>exact .stuck
 |string=>
  cases a with
  |string s=>
   dsimp only;split
   .exact .ax (.int _ _)
   .exact Ck O b _ _ _ _
  |_=>exact .stuck
 |_=>exact .stuck
theorem Gp(G:b1 C f){v v':ai}(h:aB C.fn f v v')(y:Nat)(c:BoundsCode):aA C bB f (Instr.sliceBound v y c) (Instr.sliceBound v' y c):=by
 unfold Instr.sliceBound;refine .ao (Gj O h) λg i a l e=> ?_;subst e;obtain⟨k,i⟩:=i;dsimp only;split
 .exact .ax rfl
 .exact Ck O (G.mono l) _ _ _ _
def oK(C:bf)(f:Ren):jO->jO->Prop
 |none,none=>True
 |some v,some v'=>aB C.fn f v v'
 |_,_=>False
omit O in
theorem oK.mono{g:Ren}(h:bs f g){v v':jO}(r:oK C f v v'):oK C g v v':=by cases v<;>cases v'<;>first|exact trivial|exact aB.mono h r|exact r
theorem Co(G:b1 C f)(b:Bool)(n c:Nat){lo i af p k d:jO}(s:oK C f lo i)(q:oK C f af p)(o:oK C f k d): aA C bB f (Instr.sliceBounds b n c lo af k) (Instr.sliceBounds b n c i p d):=by
 unfold Instr.sliceBounds;dsimp only;have t:∀(g:Ren)(_:bs f g)(m:Nat),aA C bB g (do
   let h<-match af,k with
    |some v,some _=>Instr.sliceBound v m .slice3B
    |some v,none=>Instr.sliceBound v m (if b then .sliceAcap else .sliceAlen)
    |none,none=>pure n
    |none,some _=>stuck "Slice: max without high"
   let l<-match lo with
    |some v=>Instr.sliceBound v h (if k.isSome then .slice3C else .sliceB)
    |none=>pure 0
   pure (l,h,m)) (do
   let h<-match p,d with
    |some v,some _=>Instr.sliceBound v m .slice3B
    |some v,none=>Instr.sliceBound v m (if b then .sliceAcap else .sliceAlen)
    |none,none=>pure n
    |none,some _=>stuck "Slice: max without high"
   let l<-match i with
    |some v=>Instr.sliceBound v h (if d.isSome then .slice3C else .sliceB)
    |none=>pure 0
   pure (l,h,m)):=by
  intro g l m;have s:=s.mono l;have q:=q.mono l;have o:=o.mono l;have u:k.isSome=d.isSome:=(by cases k<;>cases d<;>first|rfl|exact o.elim);have j:∀(g1:Ren)(_:bs g g1)(h:Nat),aA C bB g1 (do
    let l<-match lo with
     |some v=>Instr.sliceBound v h (if k.isSome then .slice3C else .sliceB)
     |none=>pure 0
    pure (l,h,m)) (do
    let l<-match i with
     |some v=>Instr.sliceBound v h (if d.isSome then .slice3C else .sliceB)
     |none=>pure 0
    pure (l,h,m)):=by
   intro g1 l1 h;rw[<-u];cases lo<;>cases i
   .exact .ax rfl
   .exact s.elim
   .exact s.elim
   .exact .ao (Gp O (G.mono (l.trans l1)) (aB.mono l1 s) _ _) λr a a' l2 e=>by subst e;exact .ax rfl
  cases af<;>cases p
  .cases k<;>cases d
   .exact j g (bs.refl _) n
   .exact o.elim
   .exact o.elim
   .exact .stuck
  .exact q.elim
  .exact q.elim
  .cases k<;>cases d
   .exact .ao (Gp O (G.mono l) q _ _) λr a a' l2 e=>by subst e;exact j r l2 a
   .exact o.elim
   .exact o.elim
   .exact .ao (Gp O (G.mono l) q _ _) λr a a' l2 e=>by subst e;exact j r l2 a
 cases k<;>cases d
 .exact t f (bs.refl _) c
 .exact o.elim
 .exact o.elim
 .exact .ao (Gp O G o _ _) λr a a' l2 e=>by subst e;exact t r l2 a
omit O in
theorem UX(b a:Option Addr)(h:aB C.fn f (.pointer b) (.pointer a))(n c k:Nat)(q:Prop)[Decidable q]: aB C.fn f (.slice (if q then b else b.map (·.add k)) n c) (.slice (if q then a else a.map (·.add k)) n c):=by
 cases h with
 |ff=>split<;>exact .mr _ _
 |ptr e=>
  split
  .exact .slice _ _ e
  .exact aB.qh (cp.add ⟨_,e,rfl⟩ _) _ _
theorem ahA(G:b1 C f)(t:TypeId){v v':ai}(h:aB C.fn f v v'){lo j af k u i:jO}(aa:oK C f lo j)(J:oK C f af k)(K:oK C f u i): aA C (bk C) f (Instr.slice t v lo af u) (Instr.slice t v' j k i):=by
 unfold Instr.slice;refine .ao (gj O t) λg d d' l e=> ?_;subst e;have D:=h.mono l;have w:=aa.mono l;have z:=J.mono l;have A:=K.mono l;have o:=G.mono l;have E:u.isSome=i.isSome:=(by cases u<;>cases i<;>first|rfl|exact A.elim);cases d with
 |string=>
  cases D with
  |string s=>
   dsimp only;rw[<-E];split
   .exact .stuck
   .exact .ao (Co O o _ _ _ w z trivial) λg1 p F l1 e=>by subst e;exact .ax (.string _)
  |_=>exact .stuck
 |slice B=>
  cases D with
  |mr n c=>
   exact .ao (Co O o _ _ _ w z A) λg1 p F l1 e=>by
    subst e;obtain⟨a,b,m⟩:=p;exact .ao (hU O B) λH s s' l2 e=>by subst e;exact .ax (UX none none .ff _ _ _ _)
  |@slice a b n c e=>
   exact .ao (Co O o _ _ _ w z A) λg1 p F l1 q=>by
    subst q;obtain⟨x,y,m⟩:=p;exact .ao (hU O B) λH s s' l2 q=>by subst q;exact .ax (UX (some _) (some _) (.ptr (l2 _ _ (l1 _ _ e))) _ _ _ _)
  |_=>exact .stuck
 |pointer L=>
  refine .ao (Gk O o D) λg1 a a' l1 r=> ?_;refine .ao (gj O L) λH d d' l2 e=> ?_;subst e;cases d with
  |array n B=>
   exact .ao (Co O (o.mono (l1.trans l2)) _ _ _ (w.mono (l1.trans l2)) (z.mono (l1.trans l2)) (A.mono (l1.trans l2))) λP p F M e=>by
    subst e;obtain⟨x,y,m⟩:=p;refine .ao (hU O B) λQ s s' N q=> ?_;subst q;have r':=r.mono (l2.trans (M.trans N));refine .ax ?_;split
    .exact aB.qh r' _ _
    .exact aB.qh (r'.add _) _ _
  |_=>exact .stuck
 |_=>exact .stuck
theorem ahB(G:b1 C f)(t:TypeId){v v':ai}(h:aB C.fn f v v'){lo b af c j i:jO}(k:oK C f lo b)(o:oK C f af c)(q:oK C f j i): aA C (bk C) f (Instr.sliceAt t v lo af j) (Instr.sliceAt t v' b c i):=by
 unfold Instr.sliceAt;refine .ao (gj O t) λg d d' l e=> ?_;subst e;cases d with
 |array n u=>
  refine .ao (Cm O (h.mono l)) λg1 a a' l1 r=> ?_;refine .ao (Co O (G.mono (l.trans l1)) _ _ _ (k.mono (l.trans l1)) (o.mono (l.trans l1)) (q.mono (l.trans l1))) λz p A l2 e=> ?_;subst e;obtain⟨x,y,m⟩:=p;refine .ao (hU O u) λB s s' w e=> ?_;subst e;have r':=r.mono (l2.trans w);refine .ax ?_;split
  .exact aB.qh r' _ _
  .exact aB.qh (r'.add _) _ _
 |_=>exact ahA O (G.mono l) t (h.mono l) (k.mono l) (o.mono l) (q.mono l)
theorem UY(n:Nat):aA C bB f (askRoom n) (askRoom n):=by
 unfold askRoom;split
 .exact .room (.pure rfl)
 .exact .ax rfl
theorem ahC(G:b1 C f){t:TypeId}(w:uL C.P t=true){v v' x ak:ai}(h:aB C.fn f v v')(k:aB C.fn f x ak):aA C (bk C) f (Instr.makeSlice t v x) (Instr.makeSlice t v' ak):=by
 unfold Instr.makeSlice;refine .ao (ir O t) λg d d' l e=> ?_;obtain⟨rfl,e⟩:=e;unfold uL at w;rw[e]at w;cases d with
 |slice j=>
  dsimp only at w⊢;refine .ao (Cl O (h.mono l)) λg1 n M l1 e=> ?_;subst e;refine .ao (Cl O (k.mono (l.trans l1))) λN c Q l2 e=> ?_;subst e;refine .ao (mz O j) λy i R B e=> ?_;subst e;have dR:=G.mono (l.trans (l1.trans (l2.trans B)));have m:∀o,bs y o->aA C (bk C) o (do
    askRoom ((IntKind.i64.wrap c).toNat*i.bytes)
    let u:=(IntKind.i64.wrap c).toNat* (<-sizeOf j)
    let b<-if u=0 then pure #[]else do pure (<-zeroValue j).cells
    let a<-newRow j ((Array.range u).map (b[· % b.size]!))
    pure (.slice (some a) (IntKind.i64.wrap n).toNat (IntKind.i64.wrap c).toNat)) (do
    askRoom ((IntKind.i64.wrap c).toNat*i.bytes)
    let u:=(IntKind.i64.wrap c).toNat* (<-sizeOf j)
    let b<-if u=0 then pure #[]else do pure (<-zeroValue j).cells
    let a<-newRow j ((Array.range u).map (b[· % b.size]!))
    pure (.slice (some a) (IntKind.i64.wrap n).toNat (IntKind.i64.wrap c).toNat)):=λo _=>
   .ao (UY O _) λD _ _ E _=>.ao (hU O j) λS s s' T e=>by
    subst e;dsimp only;split
    .refine .ao (A:=Gn C) (.ax ⟨rfl,.nil⟩) λF z H aa e=> ?_;obtain⟨rfl,q⟩:=e;exact .ao (yZ O j (aZ.Cn q _)) λJ a a' K r=>.ax (aB.qh r _ _)
    .refine .ao (uK O w) λy v v' B e=> ?_;obtain⟨rfl,L⟩:=e;refine .ao (A:=Gn C) (.ax ⟨rfl,(aB.flat L).cells⟩) λF z H aa e=> ?_;obtain⟨rfl,q⟩:=e;exact .ao (yZ O j (aZ.Cn q _)) λJ a a' K r=>.ax (aB.qh r _ _)
  split
  .split
   .exact .ao (gl O dR (A:=λ_(_:PUnit)(_:PUnit)=>True) _) λo _ _ p _=>m o p
   .split
    .exact .ao (gl O dR (A:=λ_(_:PUnit)(_:PUnit)=>True) _) λo _ _ p _=>m o p
    .refine .ao (rq O _) λo q a8 p e=> ?_;subst e;exact .ao (gl O (dR.mono p) (A:=λ_(_:PUnit)(_:PUnit)=>True) _) λD _ _ E _=>m D (p.trans E)
  .exact m y (bs.refl _)
 |_=>exact .stuck
end
end Go.Ren
