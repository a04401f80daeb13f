import Derived.Test.YtlcdgbhigfgehabGreatDoorQA02
import GoSem.Extern.ReflectliteValue
set_option linter.all false
set_option maxRecDepth 100000
set_option maxHeartbeats 16000000
namespace Go.Ren
open Go
section
variable{C:bf}{bZ:FuncId->Bool}{tail:List Frame}{main':Bool}{f:Ren}
def VM(O:C.j1 bZ)(T:pq tail){x ak:bY}{cs cs':bW}(h:bV C f x ak)(k:cy (bV C f) cs cs'){n j:Next}(r:gC C f n j): uO n/\uO j/\j2 C bZ tail f (pp C.P x (cs++ [d0 C.P]) n) (pp C.b0 ak (cs'++tail) j):=by
 cases r with
 |value r=>exact⟨trivial,trivial,.mk (h.finish r) k⟩
 |skip=>exact⟨trivial,trivial,.mk (h.finish .undef) k⟩
 |@enter n a a' d g=>
  refine⟨trivial,trivial,?_⟩;cases hm:bZ n with
  |false=>exact .mk (bV.enter O d hm g (.inl rfl)) (.cons h k)
  |true=>exact .bZ (cs:=x::cs) (cs':=ak::cs') hm d (.inl rfl) g rfl rfl (.cons h k) ag
 |@round l q n t s a b e d g p a0=>
  rw[O.code]at p a0;have w:∀kd:CallKind,(kd=.normal\/kd=.deferred)->bV C f (Frame.round l n t a b kd) (Frame.round q n s a b kd):=λkd hkd=>⟨rfl,d,g,fH.cons (gO.code p) (fH.cons gO.begin (fH.cons (gO.code a0) fH.nil)),.nil,.run,rfl,hkd,.some e⟩;exact⟨trivial,trivial,.mk (w _ (.inl rfl)) (.cons h k)⟩
 |defer r=>exact⟨trivial,trivial,.mk ((h.GG (.cons r h.defers)).finish .undef) k⟩
 |recover=>
  refine⟨trivial,trivial,?_⟩;have c:∀{a b},ym C tail f a b->j2 C bZ tail f (match a with|some (v,cs)=>aJ (x.finish v) cs|none=>aJ (x.finish .nilIface) (cs++ [d0 C.P])) (match b with|some (v,cs)=>aJ (ak.finish v) cs|none=>aJ (ak.finish .nilIface) (cs'++tail)):=by
   intro a b r;rcases r with⟨rfl,rfl⟩|⟨v,v',u,D,rfl,rfl,y,z⟩
   .exact .mk (h.finish .gN) k
   .exact .mk (h.finish y) z
  have m:=h.round;have A:C.b0.follows .rangeFuncRecover=C.P.follows .rangeFuncRecover:=(by rw[O.tables];rfl);unfold pp;dsimp only;rw[A];generalize E:x.roundOf=o at m⊢;generalize B:ak.roundOf=F at m⊢;cases m with
  |none=>exact c (GI T h k)
  |some e=>
   dsimp only;by_cases i:C.P.follows .rangeFuncRecover=true
   .rw[aV i,aV i];exact c (GI T h k)
   .rw[aC i,aC i];exact c (aiF T k e)
def VN(O:C.j1 bZ)(T:pq tail){x ak:bY}{cs cs':bW}(h:bV C f x ak)(k:cy (bV C f) cs cs'){s s':Sem Next}(r:∀g,bs f g->gB C (gC C) g s s')(m:∀w,stepG C.P true (aJ x (cs++ [d0 C.P])) w=stepG.apply C.P true x (cs++ [d0 C.P]) none s w)(e:∀w,stepG C.b0 main' (aJ ak (cs'++tail)) w=stepG.apply C.b0 true ak (cs'++tail) none s' w)(n:∀d r s l,x.todo≠.call d true r s::l)(i:∀d r s l,ak.todo≠.call d true r s::l):iS C bZ tail main' f (aJ x (cs++ [d0 C.P])) (aJ ak (cs'++tail)):=.VJ _ _ _ _ _ _ _ _ _ _ (λ_ _ _=>True) (λ_ _=>gC C) (.apply m h.plain n) (.apply e (by rw[h.kind];exact h.plain) i) (.ax trivial) λg a a' l _=>⟨r g l,λj b o c r=>VM O T (h.mono (l.trans c)) (k.bo (l.trans c)) r,λj v v' c r=>.mk ((h.mono (l.trans c)).panic r) (k.bo (l.trans c))⟩
def aiM(O:C.j1 bZ)(G:b1 C f){fn:FuncId}(w:pj C fn){t n:aQ}(x:aZ C.fn f t n)(ps:Array Tmp){a b:Code}(y:codeOk C true a=true)(z:codeOk C true b=true){o s:Option Nat}(ap:CB f o s): aA C (λg p j=>g p.1=some j.1/\cy (fG C.fn g) p.2 j.2) f (Instr.enterLoop fn t ps a b o) (Instr.enterLoop fn n ps a b s):=by
 have u:=O.toOk2;have v:=u.toOk;unfold Instr.enterLoop;have k:∀g,bs f g->∀(d d':Nat)(m q:List Deferred),g d=some d'->cy (fG C.fn g) m q->aA C (λg p j=>g p.1=some j.1/\cy (fG C.fn g) p.2 j.2) g (do pure (<-newObj (.loop {state:=.ready,pending:=none,fn,tmps:=t,params:=ps,assign:=a,body:=b,defers:=d}),m)) (do pure (<-newObj (.loop {state:=.ready,pending:=none,fn,tmps:=n,params:=ps,assign:=a,body:=b,defers:=d'}),q)):=by
  intro g l d d' m q e A;refine .ao (yY v (eR.loop (l:={state:=.ready,pending:=none,fn,tmps:=t,params:=ps,assign:=a,body:=b,defers:=d}) (x.mono l) e w (by rw[O.code];exact y) (by rw[O.code];exact z) (λc h=>by cases h))) λg1 r r' l1 B=> ?_;exact .ax ⟨B,A.mono λ_ _=>fG.mono l1⟩
 cases ap with
 |none=>
  refine .ao (yY v (.def rfl λi d d' h=>by simp at h)) λg r r' l e=> ?_;exact k g l r r' _ _ e (.cons (.mk (.collected e) .nil) .nil)
 |some e=>
  refine .ao (Cv u e) λg lo D l r=> ?_;cases r with
  |loop F E H aa J K=>exact k g l _ _ [] [] E .nil
def aiN(O:C.j1 bZ)(G:b1 C f){l d:Nat}(e:f l=some d):aA C bB f (Instr.beginRound l) (Instr.beginRound d):=by
 have b:=O.toOk2;unfold Instr.beginRound;refine .ao (Cv b e) λg a a' c r=> ?_;cases r with
 |loop h i j k m n=>
  refine .ao (qi b.toOk (c _ _ e) (.loop h i j k m n)) λg1 _ _ l1 _=> ?_;dsimp only;split
  .exact .ax rfl
  .exact gl b.toOk (G.mono (c.trans l1)) _
  .exact gl b.toOk (G.mono (c.trans l1)) _
  .exact gl b.toOk (G.mono (c.trans l1)) _
def aiO(O:C.j1 bZ)(G:b1 C f){l d:Nat}(e:f l=some d):aA C (λ_ a b=>a=b/\∀c,a=some c->codeOk C true c=true) f (Instr.endLoop l) (Instr.endLoop d):=by
 have i:=O.toOk2;unfold Instr.endLoop;refine .ao (Cv i e) λg a a' k r=> ?_;cases r with
 |loop n o p q s m=>
  dsimp only;have j:∀g1,bs g g1->aA C (λ_ a b=>a=b/\∀c,a=some c->codeOk C true c=true) g1 (do Go.setObj l (.loop {a with state:=.exhausted});pure a.pending) (do Go.setObj d (.loop {a with state:=.exhausted,tmps:=_,defers:=_});pure a.pending):=λg1 l1=>.ao (qi i.toOk ((k.trans l1) _ _ e) (.loop (n.mono l1) (l1 _ _ o) p q s m)) λu _ _ l2 _=>.ax ⟨rfl,λc t=>by rw[<-O.code];exact m c t⟩;split
  .exact .ao (A:=λ_(_:PUnit)(_:PUnit)=>False) (gl i.toOk (G.mono k) _) λ_ _ _ _ h=>h.elim
  .exact j g (bs.refl _)
def aiP(O:C.j1 bZ){r r':Nat}(e:f r=some r'):aA C (λg a b=>cy (fG C.fn g) a b) f (Instr.takeDeferred r) (Instr.takeDeferred r'):=by
 have c:=O.toOk2;unfold Instr.takeDeferred;refine .ao (mA c.toOk e) λg o j l q=> ?_;cases q with
 |_=>first|exact .stuck|(rename_i bO hd;refine .ao (qi c.toOk (l _ _ e) .sB) λg1 _ _ l1 _=> ?_;exact .ax (cy.VD bO λi a b d h=>(hd i a b d h).mono l1))
end
end Go.Ren
namespace Go.Ren
open Go
section
variable{C:bf}{bZ:FuncId->Bool}{tail:List Frame}{main':Bool}{f:Ren}
def rv(P:bF)(x:bY)(cs:bW):Next->aY
 |.enter n a=>aJ (Frame.enter P n a .deferred) (x::cs)
 |.round l n t a b=>aJ (Frame.round l n t a b .deferred) (x::cs)
 |.recover=>match x.mode,tryRecover x cs with
  |.returning,some (_,cs)=>aJ x cs
  |_,_=>aJ x cs
 |_=>aJ x cs
def Form.defer{P:bF}{main:Bool}{g:aY}{x:bY}{cs:bW}{d:Deferred}(h:∀w,stepG P main g w=callDeferred P x cs none d w)(m:¬(d.target=.nil/\∃c,x.mode=.panicking c)): Form P main g (Pure.pure ():Sem Unit) (λ_=>invoke d.target d.args) uO (λ_ n=>rv P x cs n) (λ_ v=>aJ (x.raise [{v,recovered:=false}]) cs) where
 sJ:=λw v w1 es h=>by cases h
 ok:=λ{w _ w1 es1 a w2 f}i j hd=>by
  cases i;refine⟨seen P x.fn f,?_,λe o=>.inr (n2 o)⟩;rw[h];unfold callDeferred;rw[aC (by
   intro k;simp only[cu]at k;refine m ⟨?_,?_⟩
   .cases dO:d.target<;>simp_all
   .cases hm:x.mode<;>simp_all)]
  simp only[j];cases a with
  |value v=>simp[GStep.after,rv,aJ]
  |skip=>simp[GStep.after,rv,aJ]
  |enter n a=>simp[GStep.after,rv,aJ]
  |round l n t a b=>simp[GStep.after,rv,aJ]
  |defer d=>simp[GStep.after,rv,aJ]
  |recover=>
   unfold rv;dsimp only;cases x.mode<;>cases tryRecover x cs<;>simp[GStep.after,aJ]
  |_=>exact hd.elim
 ql:=λ{w _ w1 es1 v w2 f}i j=>by
  cases i;refine⟨seen P x.fn f,?_,λe o=>.inr (n2 o)⟩;rw[h];unfold callDeferred;rw[aC (by
   intro k;simp only[cu]at k;refine m ⟨?_,?_⟩
   .cases dO:d.target<;>simp_all
   .cases hm:x.mode<;>simp_all)]
  simp only[j];simp[GStep.after,aJ]
 d1:=λi=>by cases i
 d2:=λ{w _ w1 es1 p w2 f}i j hd=>by
  cases i;rw[h];unfold callDeferred;rw[aC (by
   intro k;simp only[cu]at k;refine m ⟨?_,?_⟩
   .cases dO:d.target<;>simp_all
   .cases hm:x.mode<;>simp_all)]
  simp only[j];rcases hd with⟨q,rfl⟩|⟨u,rfl,r⟩<;>exact⟨_,_,_,rfl⟩
def aiQ(O:C.j1 bZ)(T:pq tail){x ak:bY}{cs cs':bW}(h:bV C f x ak)(k:cy (bV C f) cs cs'){n i:Next}(r:gC C f n i): uO n/\uO i/\j2 C bZ tail f (rv C.P x (cs++ [d0 C.P]) n) (rv C.b0 ak (cs'++tail) i):=by
 cases r with
 |@enter n a a' d g=>
  refine⟨trivial,trivial,?_⟩;cases c:bZ n with
  |false=>exact .mk (bV.enter O d c g (.inr rfl)) (.cons h k)
  |true=>exact .bZ (cs:=x::cs) (cs':=ak::cs') c d (.inr rfl) g rfl rfl (.cons h k) ag
 |@round l q n t s a b e d g p a0=>
  rw[O.code]at p a0;have w:bV C f (Frame.round l n t a b .deferred) (Frame.round q n s a b .deferred):=⟨rfl,d,g,fH.cons (gO.code p) (fH.cons gO.begin (fH.cons (gO.code a0) fH.nil)),.nil,.run,rfl,.inr rfl,.some e⟩;exact⟨trivial,trivial,.mk w (.cons h k)⟩
 |recover=>
  refine⟨trivial,trivial,?_⟩;have r:=GI T h k;have c:=h.mode;unfold rv;dsimp only;generalize A:x.mode=m at c⊢;generalize y:ak.mode=B at c⊢;rcases r with⟨j,o⟩|⟨v,v',u,D,j,o,E,z⟩
  .rw[j,o];cases c<;>exact .mk h k
  .rw[j,o];cases c with
   |returning=>exact .mk h z
   |_=>exact .mk h k
 |_=>exact⟨trivial,trivial,.mk h k⟩
def aiR(O:C.j1 bZ)(G:b1 C f){F:Func}{t d:aQ}(m:aZ C.fn f t d):aA C (bk C) f (results F t) (results F d):=by
 have n:=O.toOk2.toOk;unfold results;refine .ao (A:=wK C) ?_ λg x ak l r=> ?_
 .rw[LF,LF,<-LG,<-LG];have i:∀(l:List ResultVar)(g:Ren)(c b:aQ),bs f g->aZ C.fn g c b->aA C (wK C) g (l.foldlM (λbx a=>do pure (bx.push (<-(match a with| .tmp k=>pure (t.getD k I)| .cell a k=>do loadVar k (<-asAddr (t.getD a I)):Sem ai)))) c) (l.foldlM (λbx a=>do pure (bx.push (<-(match a with| .tmp k=>pure (d.getD k I)| .cell a k=>do loadVar k (<-asAddr (d.getD a I)):Sem ai)))) b):=by
   intro l;induction l with
   |nil=>intro g c b _ r;exact .ax r
   |cons a l o=>
    intro g c b e r;refine .ao (A:=wK C) (.ao (A:=bk C) ?_ λg1 v v' l1 q=>.ax ((r.mono l1).push q)) λg1 u s l1 w=>o g1 u s (e.trans l1) w;cases a with
    |tmp k=>exact .ax ((m.mono e).getD k .undef)
    |cell a k=>exact .ao (Gk n (G.mono e) ((m.mono e).getD a .undef)) λz p B l2 y=>wM n k y
  exact i _ f _ _ (bs.refl _) .nil
 .refine .ax ?_;have D:=r.size;by_cases j:x.size=1
  .have h:ak.size=1:=U;rw[dif_pos j,dif_pos h];exact r.get 0 _ _ (by simp[j]) (by simp[h])
  .have h:¬ak.size=1:=U;rw[dif_neg j,dif_neg h];exact .oG r
def fH.aiS{b:Bool}{l a:eQ}(h:fH C b f l a):(∀d r s k,l≠.call d true r s::k)/\∀d r s k,a≠.call d true r s::k:=by
 cases h with
 |nil=>exact⟨ag,ag⟩
 |cons r q=>cases r<;>exact⟨ag,ag⟩
 |cut _ _=>exact⟨ag,ag⟩
 |wall g c i=>
  refine⟨ag,λd r s k e=> ?_⟩;subst e;cases c
end
end Go.Ren
namespace Go.Ren
open Go
def Form.two{P:bF}{main:Bool}{g:aY}{Y:Type}{s:Sem Y}{K:Y->aY}{l:ai->aY}(f:∀w a w1 es,s.runT P w #[]=(.ok a w1,es)->∃aH:bI,stepG P main g w=.go (K a) w1 aH/\∀e∈aH,e∈es)(i:∀w v w1 es,s.runT P w #[]=(.halt (.panic v) w1,es)->∃aH:bI,stepG P main g w=.go (l v) w1 aH/\∀e∈aH,e∈es)(j:∀w h w1 es,s.runT P w #[]=(.halt h w1,es)->eJ h->∃o w2 aH,stepG P main g w=.ended o w2 aH): Form P main g (Pure.pure ():Sem Unit) (λ_=>s) (λ_=>True) (λ_ a=>K a) (λ_ v=>l v) where
 sJ:=λw v w1 es h=>by cases h
 ok:=λc d _=>by cases c;have⟨aH,a,b⟩:=f _ _ _ _ d;exact⟨aH,a,λe k=>.inr (b e k)⟩
 ql:=λc d=>by cases c;have⟨aH,a,b⟩:=i _ _ _ _ d;exact⟨aH,a,λe k=>.inr (b e k)⟩
 d1:=λc=>by cases c
 d2:=λc d hd=>by cases c;exact j _ _ _ _ d hd
def Form.range{P:bF}{main:Bool}{y:bY}{FB:bW}{tt:eQ}{o:Operand}{ps:Array Tmp}{a b:Code}(bw:∀w,stepG P main (aJ y FB) w=stepG.exec P main true y FB none w)(hk:y.kind=.normal\/y.kind=.deferred)(nZ:y.todo=.code (.rangeFunc o ps a b)::tt): Form P main (aJ y FB) (cut (Instr.enterLoop y.fn y.tmps ps a b y.roundOf)) (λp=>do let d<-Deferred.ofValue (y.eval o) #[.func (.yield p.1) #[] #[]];invoke d.target d.args) uO (λp n=>pp P {y with todo:=.inRangeFunc p.1::tt,defers:=p.2++y.defers} FB n) (λp v=>aJ (Frame.raise {y with todo:=.inRangeFunc p.1::tt,defers:=p.2++y.defers} [{v,recovered:=false}]) FB):=by
 have BU:∀(d:List Deferred)(t:eQ),Frame.eval {y with todo:=t,defers:=d} o=y.eval o:=λd t=>(by cases o<;>rfl);have key:∀w p w1 es1,(Instr.enterLoop y.fn y.tmps ps a b y.roundOf).runT P w #[]=(.ok p w1,es1)->stepG P main (aJ y FB) w=GStep.after (seen P y.fn es1) (stepG.apply P true {y with todo:=.inRangeFunc p.1::tt,defers:=p.2++y.defers} FB none (do let d<-Deferred.ofValue (y.eval o) #[.func (.yield p.1) #[] #[]];invoke d.target d.args) w1):=by
  intro w p w1 es1 bD;rw[bw];unfold stepG.exec;rw[nZ];obtain⟨l,m⟩:=p;simp only[bD];have hres:resolve (Frame.eval {y with todo:=.inRangeFunc l::tt,defers:=m++y.defers}) {callee:=.value o,args:= #[.const (.func (.yield l) #[] #[])],argTypes:= #[]} 0=Deferred.ofValue (y.eval o) #[.func (.yield l) #[] #[]]:=by
   unfold resolve;dsimp only;rw[BU];congr 1;simp[Frame.eval]
  rw[<-hres]
 have hcut:∀{w p w1 es1},(cut (Instr.enterLoop y.fn y.tmps ps a b y.roundOf)).runT P w #[]=(.ok p w1,es1)->(Instr.enterLoop y.fn y.tmps ps a b y.roundOf).runT P w #[]=(.ok p w1,es1):=by
  intro w p w1 es1 h;rw[wP]at h;generalize(Instr.enterLoop y.fn y.tmps ps a b y.roundOf).runT P w #[]=r at h⊢;obtain⟨r,e⟩:=r;cases r with
  |ok a w=>exact h
  |halt CF w=>cases CF<;>cases h
 have aua:∀{w p w1 es1},(Instr.enterLoop y.fn y.tmps ps a b y.roundOf).runT P w #[]=(.ok p w1,es1)->∀e∈seen P y.fn es1,e∈es1:=λ_ e he=>n2 he;refine⟨λw v w1 es h=> ?_,λ{w p w1 es1 n w2 qa}bD cb hd=> ?_,λ{w p w1 es1 v w2 qa}bD cb=> ?_,λ{w CF w1 es1}bD hd=> ?_,λ{w p w1 es1 CF w2 qa}bD cb hd=> ?_⟩
 .rw[wP]at h;generalize(Instr.enterLoop y.fn y.tmps ps a b y.roundOf).runT P w #[]=r at h;obtain⟨r,e⟩:=r;cases r with
  |ok a w=>cases h
  |halt CF w=>cases CF<;>cases h
 .have YL:=hcut bD;refine⟨seen P y.fn es1++seen P y.fn qa,?_,λe he=> ?_⟩
  .rw[key _ _ _ _ YL,VE (x:={y with todo:=.inRangeFunc p.1::tt,defers:=p.2++y.defers}) hk ag cb hd];rfl
  .rcases uQ.1 he with m7|m7
   .exact .inl (n2 m7)
   .exact .inr (n2 m7)
 .have YL:=hcut bD;refine⟨seen P y.fn es1++seen P y.fn qa,?_,λe he=> ?_⟩
  .rw[key _ _ _ _ YL,VF (x:={y with todo:=.inRangeFunc p.1::tt,defers:=p.2++y.defers}) hk cb];rfl
  .rcases uQ.1 he with m7|m7
   .exact .inl (n2 m7)
   .exact .inr (n2 m7)
 .rw[wP]at bD;cases cl:(Instr.enterLoop y.fn y.tmps ps a b y.roundOf).runT P w #[]with
  |mk r e=>
   rw[cl]at bD;cases r with
   |ok a w=>cases bD
   |halt q w=>rw[bw];unfold stepG.exec;rw[nZ];simp only[cl];exact⟨_,_,_,rfl⟩
 .have YL:=hcut bD;obtain⟨im,w3,aH,ie⟩:=GF (x:={y with todo:=.inRangeFunc p.1::tt,defers:=p.2++y.defers}) (cs:=FB) cb hd;rw[key _ _ _ _ YL,ie];exact⟨_,_,_,rfl⟩
def aiT{C:bf}{r:Bool}{ops:dn}(h:Cx C true ops=true):Cx C r ops=true:=by
 unfold Cx at *;rw[uJ]at *;intro o ap;have:=h o ap;simp only[cu,Bool.true_and]at this⊢;refine⟨this.1,?_⟩;cases r with
 |true=>simpa using this.2
 |false=>rfl
def aiU{C:bf}{r:Bool}{c:Code}(h:codeOk C true c=true):codeOk C r c=true:=by
 induction c with
 |seq a b e f=>simp only[codeOk,cu]at *;exact⟨e h.1,f h.2⟩
 |cond x a b e f=>simp only[codeOk,cu]at *;exact⟨⟨h.1.1,e h.1.2⟩,f h.2⟩
 |block i b g=>exact g h
 |loop b g=>exact g h
 |scope b g=>exact g h
 |region i ops d=>exact aiT h
 |rangeFunc x ps a b e f=>exact h
 |_=>first|rfl|exact h
def aiV{C:bf}{f:Ren}{t a:aQ}(h:aZ C.fn f t a)(ops:dn):yielded ops a=yielded ops t:=by
 funext j;unfold yielded;cases(ops[j]?).bind (·.dst)with
 |none=>rfl
 |some d=>
  simp only[Option.bind_some];cases e:t[d]? with
  |none=>rw[h.none e]
  |some v=>
   have⟨v',b,r⟩:=h.some e;rw[b];cases r with
   |de e=>cases v'<;>first|(cases e;done)|rfl
   |_=>rfl
section
variable{C:bf}{bZ:FuncId->Bool}{tail:List Frame}{main':Bool}{f:Ren}
def aiW(O:C.j1 bZ)(T:pq tail)(G:b1 C f){x ak:bY}{cs cs':bW}(h:bV C f x ak)(k:cy (bV C f) cs cs')(j3:¬wR C x cs)(vM:x.mode=.run)(Z:ak.mode=.run): iS C bZ tail main' f (aJ x (cs++ [d0 C.P])) (aJ ak (cs'++tail)):=by
 have GM:=O.toOk2;have L9:=GM.toOk;have E:∀(P:bF)(m:Bool)(R:bW)w,stepG P m (aJ x R) w=stepG.exec P m true x R none w:=λP m R w=>(by unfold stepG aJ;simp only[vM]);have D:∀(P:bF)(m:Bool)(R:bW)w,stepG P m (aJ ak R) w=stepG.exec P m true ak R none w:=λP m R w=>(by unfold stepG aJ;simp only[Z]);have dO:=h.todo
 have S:∀g,bs f g->∀o,dF C o=true->aB C.fn g (x.eval o) (ak.eval o):=λg l o ap=>aiL (h.mono l) (G.mono l) o ap;have⟨jY,az⟩:=dO.aiS;generalize B:x.todo=t at dO jY;generalize z:ak.todo=J at dO az;cases dO with
 |@cut a y gh l e1 q=>exact .move (g1:=aJ {x with todo:=[.code a,.code y]} (cs++ [d0 C.P])) (g1':=aJ {ak with todo:=.code a::.code gh::l} (cs'++tail)) (λw=>by rw[E];unfold stepG.exec;rw[B];rfl) (λw=>by rw[D];unfold stepG.exec;rw[z];rfl) (.mk (h.hz (.cons (.code e1) q)) k)
 |wall _ _ _=>exact .dead λw=>by rw[E];unfold stepG.exec;rw[B];exact⟨_,_,_,rfl⟩
 |nil=>exact GL O T h k j3 none (λc F=>by cases F) (λw=>by rw[E];unfold stepG.exec iT;rw[B];rfl) (λw=>by rw[D];unfold stepG.exec iT;rw[z];rfl)
 |@cons i ahv t J r q=>
  cases r with
  |inBlock L=>exact .move (g1:=aJ {x with todo:=t} (cs++ [d0 C.P])) (g1':=aJ {ak with todo:=J} (cs'++tail)) (λw=>by rw[E];unfold stepG.exec;rw[B];rfl) (λw=>by rw[D];unfold stepG.exec;rw[z];rfl) (.mk (h.hz q) k)
  |inScope F=>exact .move (g1:=aJ {x with todo:=t} (cs++ [d0 C.P])) (g1':=aJ {ak with todo:=J} (cs'++tail)) (λw=>by rw[E];unfold stepG.exec;rw[B];rfl) (λw=>by rw[D];unfold stepG.exec;rw[z];rfl) (.mk (h.hz q) k)
  |@inLoop c F=>exact .move (g1:=aJ {x with todo:=.code c::.inLoop c::t} (cs++ [d0 C.P])) (g1':=aJ {ak with todo:=.code c::.inLoop c::J} (cs'++tail)) (λw=>by rw[E];unfold stepG.exec;rw[B];rfl) (λw=>by rw[D];unfold stepG.exec;rw[z];rfl) (.mk (h.hz (.cons (.code F) (.cons (.inLoop F) q))) k)
  |y4 e=>exact .over (λw=>by rw[E];unfold stepG.exec;rw[B];exact⟨_,_,_,rfl⟩) (λw=>by rw[D];unfold stepG.exec;rw[z];exact⟨_,_,_,rfl⟩)
  |begin=>
   have Q:=h.round;refine VN O T h k (s:=do x.roundOf.elim (stuck "beginRound: no round") Instr.beginRound;pure .skip) (s':=do ak.roundOf.elim (stuck "beginRound: no round") Instr.beginRound;pure .skip) ?_ (λw=>by rw[E];unfold stepG.exec;rw[B]) (λw=>by rw[D];unfold stepG.exec;rw[z]) (by rw[B];exact jY) (by rw[z];exact az);intro g l;generalize x.roundOf=o at Q⊢;generalize ak.roundOf=im at Q⊢;cases Q with
   |none=>exact .of (.ao (A:=λ_(_:PUnit)(_:PUnit)=>False) .stuck λ_ _ _ _ h=>h.elim)
   |some e=>exact .of<| .ao (aiN O (G.mono l) (l _ _ e)) λg1 _ _ l1 _=>.ax .skip
  |@GD l aa e=>
   refine .mk (Pure.pure ():Sem Unit) (λ_=>Instr.endLoop l) (λ_=>True) (λ_ j=>aJ {x with todo:=(j.map Item.code).toList++t} (cs++ [d0 C.P])) (λ_ v=>aJ (x.raise [{v,recovered:=false}]) (cs++ [d0 C.P])) (Pure.pure ():Sem Unit) (λ_=>Instr.endLoop aa) (λ_=>True) (λ_ j=>aJ {ak with todo:=(j.map Item.code).toList++J} (cs'++tail)) (λ_ v=>aJ (ak.raise [{v,recovered:=false}]) (cs'++tail)) (λ_ _ _=>True) (λ_ _ _ a b=>a=b/\∀c,a=some c->codeOk C true c=true) ?_ ?_ (.ax trivial) ?_
   .refine .two (λw a w1 es H=>⟨seen C.P x.fn es,?_,λe N=>n2 N⟩) (λw v w1 es H=>⟨seen C.P x.fn es,?_,λe N=>n2 N⟩) (λw CF w1 es H hd=> ?_)
    .rw[E];unfold stepG.exec;rw[B];simp only[H];simp[GStep.after,aJ]
    .rw[E];unfold stepG.exec;rw[B];simp only[H];simp[GStep.after,aJ]
    .rw[E];unfold stepG.exec;rw[B];simp only[H];rcases hd with⟨_,rfl⟩|⟨_,rfl,_⟩<;>exact⟨_,_,_,rfl⟩
   .refine .two (λw a w1 es H=>⟨seen C.b0 ak.fn es,?_,λe N=>n2 N⟩) (λw v w1 es H=>⟨seen C.b0 ak.fn es,?_,λe N=>n2 N⟩) (λw CF w1 es H hd=> ?_)
    .rw[D];unfold stepG.exec;rw[z];simp only[H];simp[GStep.after,aJ]
    .rw[D];unfold stepG.exec;rw[z];simp only[H];simp[GStep.after,aJ]
    .rw[D];unfold stepG.exec;rw[z];simp only[H];rcases hd with⟨_,rfl⟩|⟨_,rfl,_⟩<;>exact⟨_,_,_,rfl⟩
   .intro g a a' l _;refine⟨aiO O (G.mono l) (l _ _ e),λj b pt aa r=>⟨trivial,trivial,?_⟩,λj v v' aa r=>.mk ((h.mono (l.trans aa)).panic r) (k.bo (l.trans aa))⟩;obtain⟨rfl,F⟩:=r;refine .mk ((h.mono (l.trans aa)).hz ?_) (k.bo (l.trans aa));have a8:=q.mono λ_ _=>gO.mono (l.trans aa);cases b with
    |none=>exact a8
    |some c=>exact .cons (.code (aiU (F c rfl))) a8
  |@region ops l ap=>
   cases l with
   |nil=>exact .move (g1:=aJ {x with todo:=t} (cs++ [d0 C.P])) (g1':=aJ {ak with todo:=J} (cs'++tail)) (λw=>by rw[E];unfold stepG.exec;rw[B];rfl) (λw=>by rw[D];unfold stepG.exec;rw[z];rfl) (.mk (h.hz q) k)
   |cons i rest=>
    have dP:=aiV h.tmps ops;by_cases X:((ops[i]?).map (Region.wanted · (yielded ops x.tmps))).getD false=true
    .cases GN:ops[i]? with
     |none=>rw[GN]at X;cases X
     |some o=>
      have V:gm C o.op=true/\(x.roundOf.isSome=true->∀c,o.op≠.defer c):=by
       have:=ap i (L3 ..) o GN;simp only[cu]at this;refine⟨this.1,λM c K=> ?_⟩;have Y:=this.2;rw[M,K]at Y;cases Y
      have Q:=h.round;have aiX:x.oper? =some o:=(by unfold Frame.oper?;rw[B];exact GN);have aiY:ak.oper? =some o:=(by unfold Frame.oper?;rw[z];exact GN);refine VN O T h k (s:=execOp x.eval o) (s':=execOp ak.eval o) (λg l=>aiA GM (G.mono l) (S g l) (λv=>⟨rfl,rfl⟩) o V.1) (λw=> ?_) (λw=> ?_) (by rw[B];exact jY) (by rw[z];exact az)
      .rw[E];unfold stepG.exec;rw[B];dsimp only;rw[aV X];unfold stepG.oper;rw[aiX];dsimp only;have:=V.2;generalize x.roundOf=ro at Q this⊢;cases ro with
       |none=>rfl
       |some lo=>split<;>first|rfl|(rename_i hd;exact absurd hd (this rfl _))
      .rw[D];unfold stepG.exec;rw[z];dsimp only;rw[dP,aV X];unfold stepG.oper;rw[aiY];dsimp only;have:=V.2;generalize x.roundOf=ro at Q this;generalize ak.roundOf=ro' at Q⊢;cases Q with
       |none=>rfl
       |some e=>split<;>first|rfl|(rename_i hd;exact absurd hd (this rfl _))
    .exact .move (g1:=aJ (x.finish I) (cs++ [d0 C.P])) (g1':=aJ (ak.finish I) (cs'++tail)) (λw=>by rw[E];unfold stepG.exec;rw[B];dsimp only;rw[aC X];rfl) (λw=>by rw[D];unfold stepG.exec;rw[z];dsimp only;rw[dP,aC X];rfl) (.mk (h.finish .undef) k)
  |@code c F=>
   cases c with
   |skip=>exact .move (g1:=aJ {x with todo:=t} (cs++ [d0 C.P])) (g1':=aJ {ak with todo:=J} (cs'++tail)) (λw=>by rw[E];unfold stepG.exec;rw[B];rfl) (λw=>by rw[D];unfold stepG.exec;rw[z];rfl) (.mk (h.hz q) k)
   |label l=>exact .move (g1:=aJ {x with todo:=t} (cs++ [d0 C.P])) (g1':=aJ {ak with todo:=J} (cs'++tail)) (λw=>by rw[E];unfold stepG.exec;rw[B];rfl) (λw=>by rw[D];unfold stepG.exec;rw[z];rfl) (.mk (h.hz q) k)
   |ret=>exact GL O T h k j3 (some .ret) (λc F=>by cases F;rfl) (λw=>by rw[E];unfold stepG.exec iT;rw[B];rfl) (λw=>by rw[D];unfold stepG.exec iT;rw[z];rfl)
   |refuse y=>exact .over (λw=>by rw[E];unfold stepG.exec;rw[B];exact⟨_,_,_,rfl⟩) (λw=>by rw[D];unfold stepG.exec;rw[z];exact⟨_,_,_,rfl⟩)
   |seq a b=>
    simp only[codeOk,cu]at F;exact .move (g1:=aJ {x with todo:=.code a::.code b::t} (cs++ [d0 C.P])) (g1':=aJ {ak with todo:=.code a::.code b::J} (cs'++tail)) (λw=>by rw[E];unfold stepG.exec;rw[B];rfl) (λw=>by rw[D];unfold stepG.exec;rw[z];rfl) (.mk (h.hz (.cons (.code F.1) (.cons (.code F.2) q))) k)
   |block L b=>exact .move (g1:=aJ {x with todo:=.code b::.inBlock L::t} (cs++ [d0 C.P])) (g1':=aJ {ak with todo:=.code b::.inBlock L::J} (cs'++tail)) (λw=>by rw[E];unfold stepG.exec;rw[B];rfl) (λw=>by rw[D];unfold stepG.exec;rw[z];rfl) (.mk (h.hz (.cons (.code F) (.cons (.inBlock L) q))) k)
   |loop b=>exact .move (g1:=aJ {x with todo:=.code b::.inLoop b::t} (cs++ [d0 C.P])) (g1':=aJ {ak with todo:=.code b::.inLoop b::J} (cs'++tail)) (λw=>by rw[E];unfold stepG.exec;rw[B];rfl) (λw=>by rw[D];unfold stepG.exec;rw[z];rfl) (.mk (h.hz (.cons (.code F) (.cons (.inLoop F) q))) k)
   |scope b=>exact .move (g1:=aJ {x with todo:=.code b::.inScope b::t} (cs++ [d0 C.P])) (g1':=aJ {ak with todo:=.code b::.inScope b::J} (cs'++tail)) (λw=>by rw[E];unfold stepG.exec;rw[B];rfl) (λw=>by rw[D];unfold stepG.exec;rw[z];rfl) (.mk (h.hz (.cons (.code F) (.cons (.inScope F) q))) k)
   |cond o a b=>
    simp only[codeOk,cu]at F;have N:=S f (bs.refl _) o F.1.1;generalize bP:x.eval o=v at N;generalize Ch:ak.eval o=v' at N;cases N with
    |bool u=>exact .move (g1:=aJ {x with todo:=.code (if u then a else b)::t} (cs++ [d0 C.P])) (g1':=aJ {ak with todo:=.code (if u then a else b)::J} (cs'++tail)) (λw=>by rw[E];unfold stepG.exec;rw[B];dsimp only;rw[bP];rfl) (λw=>by rw[D];unfold stepG.exec;rw[z];dsimp only;rw[Ch];rfl) (.mk (h.hz (.cons (.code (by cases u;exact F.2;exact F.1.2)) q)) k)
    |de e=>exact .dead (λw=>by rw[E];unfold stepG.exec;rw[B];dsimp only;rw[bP];exact⟨_,_,_,rfl⟩)
    |_=>exact .over (λw=>by rw[E];unfold stepG.exec;rw[B];dsimp only;rw[bP];exact⟨_,_,_,rfl⟩) (λw=>by rw[D];unfold stepG.exec;rw[z];dsimp only;rw[Ch];exact⟨_,_,_,rfl⟩)
   |exit L=>
    rcases aiI q L with⟨M,K⟩|⟨M,K⟩|⟨u,uE,M,K,Y⟩
    .exact GL O T h k j3 (some (.exit L)) (λc F=>by cases F;rfl) (λw=>by rw[E];unfold stepG.exec iT;rw[B];dsimp only;rw[M];rfl) (λw=>by rw[D];unfold stepG.exec iT;rw[z];dsimp only;rw[K];rfl)
    .refine .dead λw=> ?_;rw[E];unfold stepG.exec;rw[B];dsimp only;rw[M];have W:x.roundOf=none:=(by cases H:x.roundOf with|none=>rfl|some l=>rw[H]at K;cases K);simp only[W];exact⟨_,_,_,rfl⟩
    .exact .move (g1:=aJ {x with todo:=u} (cs++ [d0 C.P])) (g1':=aJ {ak with todo:=uE} (cs'++tail)) (λw=>by rw[E];unfold stepG.exec;rw[B];dsimp only;rw[M];rfl) (λw=>by rw[D];unfold stepG.exec;rw[z];dsimp only;rw[K];rfl) (.mk (h.hz Y) k)
   |goto L=>
    rcases aiK q L with⟨M,K⟩|⟨M,K⟩|⟨u,uE,M,K,Y⟩
    .exact GL O T h k j3 (some (.goto L)) (λc F=>by cases F;rfl) (λw=>by rw[E];unfold stepG.exec iT;rw[B];dsimp only;rw[M];rfl) (λw=>by rw[D];unfold stepG.exec iT;rw[z];dsimp only;rw[K];rfl)
    .refine .dead λw=> ?_;rw[E];unfold stepG.exec;rw[B];dsimp only;rw[M];have W:x.roundOf=none:=(by cases H:x.roundOf with|none=>rfl|some l=>rw[H]at K;cases K);simp only[W];exact⟨_,_,_,rfl⟩
    .exact .move (g1:=aJ {x with todo:=u} (cs++ [d0 C.P])) (g1':=aJ {ak with todo:=uE} (cs'++tail)) (λw=>by rw[E];unfold stepG.exec;rw[B];dsimp only;rw[M];rfl) (λw=>by rw[D];unfold stepG.exec;rw[z];dsimp only;rw[K];rfl) (.mk (h.hz Y) k)
   |region L ops draw=>
    cases draw with
    |false=>exact .move (g1:=aJ {x with todo:=.inRegion ops (List.range ops.size)::t} (cs++ [d0 C.P])) (g1':=aJ {ak with todo:=.inRegion ops (List.range ops.size)::J} (cs'++tail)) (λw=>by rw[E];unfold stepG.exec;rw[B];rfl) (λw=>by rw[D];unfold stepG.exec;rw[z];rfl) (.mk (h.hz (.cons (.region _ (VB F _)) q)) k)
    |true=>
     have aiZ:C.b0.follows .mixedOrders=C.P.follows .mixedOrders:=(by rw[L9.tables];rfl);refine .mk (Pure.pure ():Sem Unit) (λ_=>choose (.order x.fn L)) (λ_=>True) (λ_ n=>aJ {x with todo:=.inRegion ops (Region.schedule (C.P.follows .mixedOrders) ops n)::t} (cs++ [d0 C.P])) (λ_ v=>aJ (x.raise [{v,recovered:=false}]) (cs++ [d0 C.P])) (Pure.pure ():Sem Unit) (λ_=>choose (.order x.fn L)) (λ_=>True) (λ_ n=>aJ {ak with todo:=.inRegion ops (Region.schedule (C.P.follows .mixedOrders) ops n)::J} (cs'++tail)) (λ_ v=>aJ (ak.raise [{v,recovered:=false}]) (cs'++tail)) (λ_ _ _=>True) (λ_ _=>bB) (.two (λw a w1 es H=>⟨#[],?_,ag⟩) (λw v w1 es H=> ?_) (λw CF w1 es H hd=> ?_)) (.two (λw a w1 es H=>⟨#[],?_,ag⟩) (λw v w1 es H=> ?_) (λw CF w1 es H hd=> ?_)) (.ax trivial) ?_
     .simp[choose,Sem.runT,Question.forced]at H;obtain⟨⟨rfl,rfl⟩,rfl⟩:=H;rw[E];unfold stepG.exec;rw[B];simp[choose,Sem.run,Question.forced,aJ]
     .simp[choose,Sem.runT,Question.forced]at H
     .simp[choose,Sem.runT,Question.forced]at H
     .simp[choose,Sem.runT,Question.forced]at H;obtain⟨⟨rfl,rfl⟩,rfl⟩:=H;rw[D];unfold stepG.exec;rw[z];simp[choose,Sem.run,Question.forced,aJ,aiZ,h.fn]
     .simp[choose,Sem.runT,Question.forced]at H
     .simp[choose,Sem.runT,Question.forced]at H
     .intro g a a' l _;refine⟨rq L9 _,λj b pt aa r=>⟨trivial,trivial,?_⟩,λj v v' aa r=>.mk ((h.mono (l.trans aa)).panic r) (k.bo (l.trans aa))⟩;subst r;exact .mk ((h.mono (l.trans aa)).hz (.cons (.region _ (VB F _)) (q.mono λ_ _=>gO.mono (l.trans aa)))) (k.bo (l.trans aa))
   |rangeFunc o ps a b=>
    simp only[codeOk,cu]at F;let gz:Nat×List Deferred->bY:=λp=>{x with todo:=.inRangeFunc p.1::t,defers:=p.2++x.defers}
    let Ma:Nat×List Deferred->bY:=λp=>{ak with todo:=.inRangeFunc p.1::J,defers:=p.2++ak.defers}
    refine .mk _ _ _ _ _ _ _ _ _ _ (λg p hr=>g p.1=some hr.1/\cy (fG C.fn g) p.2 hr.2) (λ_ _=>gC C) (.range (y:=x) (E C.P true (cs++ [d0 C.P])) h.plain B) (.range (y:=ak) (D C.b0 main' (cs'++tail)) (by rw[h.kind];exact h.plain) z) ?_ ?_
    .rw[h.fn];exact(aiM O G h.ok h.tmps ps F.1.2 F.2 h.round).cut
    .intro g p hr l r;have bo:∀j,bs g j->bV C j (gz p) (Ma hr):=λj aa=>((h.mono (l.trans aa)).hz (.cons (.y4 (aa _ _ r.1)) (q.mono λ_ _=>gO.mono (l.trans aa)))).GG ((r.2.mono λ_ _=>fG.mono aa).append (h.mono (l.trans aa)).defers);refine⟨?_,λj b pt aa CG=>VM O T (bo j aa) (k.bo (l.trans aa)) CG,λj v v' aa kB=>.mk ((bo j aa).panic kB) (k.bo (l.trans aa))⟩;refine .ao (Vz (S g l o F.1.1) (aZ.one (.func (.yield r.1) ag rfl (λi v v' h=>by simp at h) rfl (λi v v' h=>by simp at h)))) λg1 d d' l1 rd=> ?_;cases rd with
     |mk r1 r2=>exact L1 GM (G.mono (l.trans l1)) r1 r2
     |sA e=>exact .dies (L2 GM.toOk e)
def ai0(O:C.j1 bZ)(T:pq tail)(G:b1 C f){x ak:bY}{cs cs':bW}(h:bV C f x ak)(k:cy (bV C f) cs cs')(j3:¬wR C x cs)(L:x.mode≠.run): iS C bZ tail main' f (aJ x (cs++ [d0 C.P])) (aJ ak (cs'++tail)):=by
 have Y:=O.toOk2;have L9:=Y.toOk;have B:=h.mode;have D:∀(P:bF)(m:Bool)(z:bW)w,stepG P m (aJ x z) w=unwind P m x z none w:=λP m z w=>by
  unfold stepG aJ;cases n:x.mode<;>first|exact absurd n L|simp only[n]
 have s:∀(P:bF)(m:Bool)(z:bW)w,stepG P m (aJ ak z) w=unwind P m ak z none w:=λP m z w=>by
  unfold stepG aJ;cases n:ak.mode with
  |run=>
   refine absurd ?_ L;revert B;rw[n];generalize x.mode=m;intro q;cases q;rfl
  |_=>simp only[n]
 have hd:=h.defers;generalize o:x.defers=d at hd;generalize i:ak.defers=d' at hd;cases hd with
 |@cons d d' bX E r q=>
  obtain⟨H,args⟩:=d;obtain⟨M,aa⟩:=d';have J:∀(P:bF)(m:Bool)(y:bY)(z:bW)(H:Target)(as:aQ)(l:List Deferred),(∀w,stepG P m (aJ y z) w=unwind P m y z none w)->y.defers=⟨H,as⟩::l->(∀b,H≠.collected b)->∀w,stepG P m (aJ y z) w=callDeferred P {y with defers:=l} z none ⟨H,as⟩ w:=by
   intro P m y z H as l Z cb b7 w;rw[Z];unfold unwind;rw[cb];cases H<;>first|rfl|exact absurd rfl (b7 _)
  rcases(show(∃a,a[0]? =some (.iface 0 (.tuple #[]))/\H=.fn (.method "") #[]/\args=a)\/(cF C.fn f H M/\aZ C.fn f args aa) by
   cases r with
   |mk a b=>exact .inr ⟨a,b⟩
   |sA e=>exact .inl ⟨_,e,rfl,rfl⟩)with⟨a,e,rfl,rfl⟩|⟨rt,m9⟩
  .refine .dead λw=> ?_;have⟨N,w',aF,hd⟩:=L2 Y.toOk e w #[];have F:=Form.defer (x:={x with defers:=bX}) (d:=⟨.fn (.method "") #[],args⟩) (J _ _ _ _ _ _ _ (D C.P true (cs++ [d0 C.P])) o ag) ag;cases cl:(invoke (.fn (.method "") #[]) args).runT C.P w #[]with
   |mk r1 es=>
    rw[cl]at aF;dsimp only at aF;subst aF;exact F.d2 (w:=w) (x:=()) rfl cl hd
  have go:(∀b,H≠.collected b)->(∀b,M≠.collected b)->¬(H=.nil/\∃c,x.mode=.panicking c)->¬(M=.nil/\∃c,ak.mode=.panicking c)->iS C bZ tail main' f (aJ x (cs++ [d0 C.P])) (aJ ak (cs'++tail)):=by
   intro st rl pi Mb;refine .mk _ _ _ _ _ _ _ _ _ _ (λ_ _ _=>True) (λ_ _=>gC C) (.defer (x:={x with defers:=bX}) (d:=⟨H,args⟩) (J _ _ _ _ _ _ _ (D _ _ _) o st) pi) (.defer (x:={ak with defers:=E}) (d:=⟨M,aa⟩) (J _ _ _ _ _ _ _ (s _ _ _) i rl) Mb) (.ax trivial) ?_;intro g a a' l _;have bo:∀j,bs f j->bV C j {x with defers:=bX} {ak with defers:=E}:=λj p=>(h.mono p).GG (q.mono λ_ _=>fG.mono p);exact⟨L1 Y (G.mono l) (rt.mono l) (m9.mono l),λj b X p CG=>aiQ O T (bo j (l.trans p)) (k.bo (l.trans p)) CG,λj v v' p kB=>.mk ((bo j (l.trans p)).panic kB) (k.bo (l.trans p))⟩
  cases rt with
  |fn cJ K=>exact go ag ag ag ag
  |nil=>
   by_cases S:∃c,x.mode=.panicking c
   .have R:∃c,ak.mode=.panicking c:=by
     obtain⟨c,K⟩:=S;rw[K]at B;revert B;generalize ak.mode=yV;intro B;cases B;exact⟨_,rfl⟩
    refine .over (λw=> ?_) (λw=> ?_)
    .obtain⟨c,K⟩:=S;rw[J _ _ _ _ _ _ _ (D _ _ _) o ag];unfold callDeferred;simp only[K];exact⟨_,_,_,rfl⟩
    .obtain⟨c,K⟩:=R;rw[J _ _ _ _ _ _ _ (s _ _ _) i ag];unfold callDeferred;simp only[K];exact⟨_,_,_,rfl⟩
   .have R:¬∃c,ak.mode=.panicking c:=by
     rintro⟨c,K⟩;rw[K]at B;revert S B;generalize x.mode=yV;intro S B;cases B;exact S ⟨_,rfl⟩
    exact go ag ag (λn=>S n.2) (λn=>R n.2)
  |@collected b X e=>
   refine .mk (cut (Instr.takeDeferred b)) (λ_=>(Pure.pure ():Sem Unit)) (λ_=>True) (λl _=>aJ {x with defers:=l++bX} (cs++ [d0 C.P])) (λl _=>aJ {x with defers:=l++bX} (cs++ [d0 C.P])) (cut (Instr.takeDeferred X)) (λ_=>(Pure.pure ():Sem Unit)) (λ_=>True) (λl _=>aJ {ak with defers:=l++E} (cs'++tail)) (λl _=>aJ {ak with defers:=l++E} (cs'++tail)) (λg a b=>cy (fG C.fn g) a b) (λ_ _ _ _ _=>True) (.one (fn:=x.fn) (λw a w1 es n=>⟨#[],?_,rfl⟩) (λw N w1 es n=> ?_)) (.one (fn:=ak.fn) (λw a w1 es n=>⟨#[],?_,rfl⟩) (λw N w1 es n=> ?_)) (aiP O e).cut ?_
   .rw[D];unfold unwind;rw[o];simp only[n];rfl
   .rw[D];unfold unwind;rw[o];simp only[n];exact⟨_,_,_,rfl⟩
   .rw[s];unfold unwind;rw[i];simp only[n];rfl
   .rw[s];unfold unwind;rw[i];simp only[n];exact⟨_,_,_,rfl⟩
   .intro g a a' l m9;have bo:∀j,bs g j->bV C j {x with defers:=a++bX} {ak with defers:=a'++E}:=λj p=>(h.mono (l.trans p)).GG ((m9.mono λ_ _=>fG.mono p).append (q.mono λ_ _=>fG.mono (l.trans p)));exact⟨.ax trivial,λj b X p _=>⟨trivial,trivial,.mk (bo j p) (k.bo (l.trans p))⟩,λj v v' p _=>.mk (bo j p) (k.bo (l.trans p))⟩
 |nil=>
  have⟨az,⟨F,hF⟩,avz⟩:=h.ok;generalize A:x.mode=m at B L;generalize t:ak.mode=yV at B;cases B with
  |run=>exact absurd rfl L
  |@panicking c dQ K=>
   have Q:∀(P:bF)(y:bY)G,P.funcs[y.fn]? =some G->y.catches P=false:=λP y G ia=>(by unfold Frame.catches;rw[ia]);have c1:=Q C.P x F hF;have c2:=Q C.b0 ak F (by rw[h.fn,az];exact hF);cases k with
   |nil=>
    obtain⟨u,V,hu⟩:∃u V,tail=u::V:=by
     cases tail with
     |nil=>
      refine absurd (λw=>.inr ⟨(d0 C.P).raise c,w,#[],?_,wQ _ (.inr ⟨_,rfl⟩)⟩) j3;rw[D];unfold unwind;rw[o];simp only[A,c1];first|done|rfl
     |cons u V=>exact⟨u,V,rfl⟩
    refine .move (g1:=aJ ((d0 C.P).raise c) []) (g1':=aJ (u.raise dQ) V) (λw=> ?_) (λw=> ?_) (.out rfl (wQ _ (.inr ⟨_,rfl⟩)))
    .rw[D];unfold unwind;rw[o];simp only[A,c1];first|done|rfl
    .rw[s,hu];unfold unwind;rw[i];simp only[t,c2];rfl
   |@cons y gh cs cs' y7 q=>
    refine .move (g1:=aJ (y.raise c) (cs++ [d0 C.P])) (g1':=aJ (gh.raise dQ) (cs'++tail)) (λw=> ?_) (λw=> ?_) (.mk (y7.raise K) q)
    .rw[D];unfold unwind;rw[o];simp only[A,c1];first|done|rfl
    .rw[s];unfold unwind;rw[i];simp only[t,c2];rfl
  |returning=>
   have W:C.b0.funcs[ak.fn]? =some F:=(by rw[h.fn,az];exact hF);have fp:cs'++tail≠[]:=VL k j3 (by
    rintro rfl w;rw[D];unfold unwind;rw[o];simp only[A,hF];generalize(results F x.tmps).runT C.P w #[]=r;obtain⟨r,es⟩:=r;cases r with
    |ok v w1=>
     have⟨u,Z,cb⟩:=VK h (v:=v);refine .inr ⟨u,?_⟩;dsimp only;rw[uP h.plain (GK _ _),Z];exact⟨_,_,rfl,cb⟩
    |halt N w1=>cases N<;>exact .inl ⟨_,_,_,rfl⟩)
   refine .mk (cut (results F x.tmps)) (λ_=>(Pure.pure ():Sem Unit)) (λ_=>True) (λv _=>gP x (cs++ [d0 C.P]) v) (λv _=>gP x (cs++ [d0 C.P]) v) (cut (results F ak.tmps)) (λ_=>(Pure.pure ():Sem Unit)) (λ_=>True) (λv _=>gP ak (cs'++tail) v) (λv _=>gP ak (cs'++tail) v) (bk C) (λ_ _ _ _ _=>True) (.one (fn:=x.fn) (λw a w1 es n=>⟨#[],?_,rfl⟩) (λw N w1 es n=> ?_)) (.one (fn:=ak.fn) (λw a w1 es n=>⟨#[],?_,rfl⟩) (λw N w1 es n=> ?_)) (aiR O G h.tmps).cut ?_
   .rw[D];unfold unwind;rw[o];simp only[A,hF,n];rw[uP h.plain (GK _ _)];rfl
   .rw[D];unfold unwind;rw[o];simp only[A,hF,n];cases N<;>exact⟨_,_,_,rfl⟩
   .rw[s];unfold unwind;rw[i];simp only[t,W,n];rw[uP (by rw[h.kind];exact h.plain) fp];rfl
   .rw[s];unfold unwind;rw[i];simp only[t,W,n];cases N<;>exact⟨_,_,_,rfl⟩
   .intro g a a' l r;exact⟨.ax trivial,λj b X l1 _=>⟨trivial,trivial,GH (h.mono (l.trans l1)) (k.bo (l.trans l1)) (r.mono l1)⟩,λj v v' l1 _=>GH (h.mono (l.trans l1)) (k.bo (l.trans l1)) (r.mono l1)⟩
def ai1(O:C.j1 bZ)(T:pq tail)(G:b1 C f){x ak:bY}{cs cs':bW}(h:bV C f x ak)(k:cy (bV C f) cs cs')(b:¬wR C x cs):iS C bZ tail main' f (aJ x (cs++ [d0 C.P])) (aJ ak (cs'++tail)):=by
 by_cases a:x.mode=.run
 .refine aiW O T G h k b a ?_;have:=h.mode;rw[a]at this;revert this;generalize ak.mode=c;intro q;cases q;rfl
 .exact ai0 O T G h k b a
end
end Go.Ren
namespace Go.Ren
open Go Go.Extern
section
variable{C:bf}(O:C.Ok){f:Ren}
include O
theorem Wo(G:b1 C f)(t:TypeId):aA C (bk C) f (Rtype.handle t) (Rtype.handle t):=.prog (.ax (LC O G t))
theorem ajX(G:b1 C f){v v':ai}(h:aB C.fn f v v'):(∃t,handleType C.P v=some t/\handleType C.b0 v'=some t)\/handleType C.P v=none:=by
 cases h with
 |@ptr a b e=>
  unfold handleType;rw[O.wL];by_cases q:a.block=C.P.globals.size
  .have:=G C.P.globals.size U (λh=>absurd h (vL _));rw[q,this]at e;cases e;simp[q]
  .simp[q]
 |_=>exact .inr rfl
theorem Oh(G:b1 C f){v v':ai}(h:aB C.fn f v v'):aA C bB f (Rtype.ofHandle v) (Rtype.ofHandle v'):=by
 refine .prog ?_;rcases ajX O G h with⟨t,a,b⟩|a
 .rw[a,b];exact .ax rfl
 .rw[a];exact .stuck
theorem G1(w:String)(t:TypeId):aA C bB f (Rtype.noPack w t) (Rtype.noPack w t):=by
 refine .prog ?_;rw[O.packed];split
 .exact .b4
 .exact .ax rfl
theorem Db(w:String)(t:TypeId):aA C bB f (Rtype.noPackMethods w t) (Rtype.noPackMethods w t):=by
 refine .prog (.prog ?_);rw[O.UQ,y1 O];split
 .exact .b4
 .exact .ax rfl
theorem ajY(w:String)(t:TypeId):aA C bB f (Rtype.noPackNamed w t) (Rtype.noPackNamed w t):=by
 refine .prog (.prog ?_);rw[O.named,y1 O];split
 .exact .b4
 .exact .ax rfl
theorem ajZ(t:TypeId):aA C bB f (typeStr t) (typeStr t):=.ao (mz O t) λg i a l e=>by
 subst e;dsimp only;split
 .exact .b4
 .exact .ax rfl
theorem Oi(t:TypeId):aA C bB f (Rtype.spelt t) (Rtype.spelt t):=.ao (ajY O _ t) λg _ _ l _=>ajZ O t
theorem G2{α:Type}{A:Ren->α->α->Prop}(m:String):aA C A f (panicString m:Sem α) (panicString m):=by
 refine .prog ?_;rw[O.rt];exact .rp (.iface _ (.string _))
theorem zL(t:TypeId):aA C bB f (Rtype.under t) (Rtype.under t):=.ao (mz O t) λg i a l e=>by
 subst e;cases i.desc with
 |named q u=>exact .ao (mz O u) λg j b l e=>by subst e;exact .ax rfl
 |_=>exact .ax rfl
theorem G3(t:TypeId):aA C bB f (Rtype.kind t) (Rtype.kind t):=.ao (zL O t) λg i a l e=>by
 subst e;obtain⟨u,i⟩:=i;dsimp only;cases i.desc with
 |int k=>cases k<;>exact .ax rfl
 |float k=>cases k<;>exact .ax rfl
 |complex k=>cases k<;>exact .ax rfl
 |_=>first|exact .ax rfl|exact .stuck
theorem Wp(t:TypeId):aA C bB f (Rtype.elem? t) (Rtype.elem? t):=.ao (zL O t) λg i a l e=>by
 subst e;cases i.2.desc<;>exact .ax rfl
theorem Wq(t:TypeId):aA C bB f (Rtype.hasName t) (Rtype.hasName t):=.ao (mz O t) λg i a l e=>by
 subst e;cases i.desc<;>exact .ax rfl
theorem Oj(T V:TypeId):aA C bB f (Rtype.implements T V) (Rtype.implements T V):=by
 unfold Rtype.implements;refine .ao (Db O _ V) λg _ _ l _=>.ao (Db O _ T) λg _ _ l _=>.ao (zL O T) λg a a' l e=> ?_;subst e;refine .ao (zL O V) λg b d l e=> ?_;subst e;cases a.2.desc with
 |interface c=>
  cases b.2.desc with
  |interface dG=>exact .ax rfl
  |_=>exact .ao (mz O V) λg i h l e=>by subst e;exact .ax rfl
 |_=>exact .ax rfl
theorem Wr(T V:TypeId):aA C bB f (Rtype.directlyAssignable T V) (Rtype.directlyAssignable T V):=by
 unfold Rtype.directlyAssignable;have h:∀g,aA C bB g (do
   let(t,c)<-Rtype.under T
   let(v,d)<-Rtype.under V
   match c.desc,d.desc with
   |.chan _ e,.chan .both fg=>pure (t==v||e==fg)
   |_,_=>pure (t==v)) (do
   let(t,c)<-Rtype.under T
   let(v,d)<-Rtype.under V
   match c.desc,d.desc with
   |.chan _ e,.chan .both fg=>pure (t==v||e==fg)
   |_,_=>pure (t==v)):=λg=>.ao (zL O T) λg a a' l e=>by
  subst e;refine .ao (zL O V) λg b i l e=> ?_;subst e;obtain⟨t,c⟩:=a;obtain⟨v,d⟩:=b;dsimp only;split<;>exact .ax rfl
 split
 .exact .ax rfl
 .refine .ao (Wq O T) λg a a' l e=> ?_;subst e;refine .ao (Wq O V) λg b i l e=> ?_;subst e;cases a<;>cases b<;>first|exact h g|exact .ax rfl
theorem Ol(G:b1 C f)(t:TypeId):aA C (bk C) f (ReflectliteType.toType t) (ReflectliteType.toType t):=by
 unfold ReflectliteType.toType;refine .ao (ahi O _) λg u a l e=> ?_;subst e;exact .ao (Wo O (G.mono l) t) λg v v' l r=>.ax (.iface _ (.qg (.one r)))
theorem zM{β:Type}{A:Ren->β->β->Prop}{F:aQ->Sem β}(hF:∀x,(∀v,x≠#[v])->∃m,F x=stuck m)(a:∀v v',aB C.fn f v v'->aA C A f (F #[v]) (F #[v'])){x ak:aQ}(h:aZ C.fn f x ak):aA C A f (F x) (F ak):=by
 by_cases b:∃v,x= #[v]
 .obtain⟨v,rfl⟩:=b;have c:ak.size=1:=h.size.symm;have:ak= #[ak[0]]:=by
   apply zh
   .simpa using c
   .intro i a d;have:i=0:=(by simp at d;omega);subst this;rfl
  rw[this];exact a _ _ (h.get 0 _ _ rfl (dq U))
 .have⟨m,e⟩:=hF x λv g=>b ⟨v,g⟩;rw[e];exact .stuck
theorem aj0(G:b1 C f){x ak:aQ}(h:aZ C.fn f x ak):aA C (bk C) f (ReflectliteType.typeOf x) (ReflectliteType.typeOf ak):=by
 refine zM O (λx a=>⟨ "reflectlite.TypeOf: an interface value expected",?_⟩) (λv v' r=> ?_) h
 .rcases x with⟨_|⟨v,_|⟨w,l⟩⟩⟩
  .rfl
  .exact absurd rfl (a v)
  .rfl
 .cases r with
  |gN=>exact .ax .gN
  |iface t r=>exact Ol O G t
  |_=>exact .stuck
theorem xf{α β:Type}{A:Ren->α->β->Prop}(m:String)(k:Nat){s':Sem β}:aA C A f (ReflectliteValue.valueError m k:Sem α) s':=by
 refine .dies λw es=> ?_;unfold ReflectliteValue.valueError cutType Go.program;simp only[Bind.bind,Sem.bind,Sem.runT];rw[O.mo];exact⟨_,_,rfl,.inl ⟨_,rfl⟩⟩
theorem Ws(G:b1 C f)(t:TypeId){a a':Addr}(h:cp f a a')(n:Nat):aA C (bk C) f (ReflectliteValue.mk t a n) (ReflectliteValue.mk t a' n):=by
 unfold ReflectliteValue.mk;refine .ao (Wo O G t) λg v v' l r=>.ao (G3 O t) λg1 k k' l1 e=> ?_;subst e;exact .ax (.qg (((aZ.one (r.mono l1)).push (h.mono (l.trans l1)).val).push (.int _ _)))
theorem Wt:aB C.fn f ReflectliteValue.zeroV ReflectliteValue.zeroV:=.qg (((aZ.one .ff).push .ff).push (.int _ _))
theorem Wu(G:b1 C f){v v':ai}(h:aB C.fn f v v'):aA C (bk C) f (ReflectliteValue.unpack v) (ReflectliteValue.unpack v'):=by
 cases h with
 |gN=>exact .ax (Wt O)
 |iface t r=>exact .ao (Cj O t r) λg a a' l q=>Ws O (G.mono l) t q 0
 |_=>exact .stuck
def Wv(g:Ren)(p hr:Option (TypeId×Addr×Nat)):Prop:=(p=none/\hr=none)\/∃t a a' n,p=some (t,a,n)/\hr=some (t,a',n)/\cp g a a'
theorem aj1{N:Fn->Bool}{x ak:aQ}(h:aZ N f x ak):(∀a b c,x≠#[a,b,c])\/∃a b c a' k l,x= #[a,b,c]/\ak= #[a',k,l]/\aB N f a a'/\aB N f b k/\aB N f c l:=by
 by_cases d:x.size=3
 .right;have g:ak.size=3:=h.size.symm.trans d;have e:x= #[x[0],x[1],x[2]]:=by
   apply zh
   .simpa using d
   .intro i m j;have:i=0\/i=1\/i=2:=(by simp at j;omega);rcases this with rfl|rfl|rfl<;>rfl
  have n:ak= #[ak[0],ak[1],ak[2]]:=by
   apply zh
   .simpa using g
   .intro i m j;have:i=0\/i=1\/i=2:=(by simp at j;omega);rcases this with rfl|rfl|rfl<;>rfl
  exact⟨_,_,_,_,_,_,e,n,h.get 0 _ _ (dq _) (dq _),h.get 1 _ _ (dq _) (dq _),h.get 2 _ _ (dq _) (dq _)⟩
 .exact .inl λa b c e=>d (by rw[e];rfl)
theorem Ww(G:b1 C f){v v':ai}(h:aB C.fn f v v'):aA C (λg p o=>Wv g p o) f (ReflectliteValue.partsAny v) (ReflectliteValue.partsAny v'):=by
 cases h with
 |@agg x ak aK q=>
  rcases aj1 O (⟨aK,q⟩:aZ C.fn f x ak)with r|⟨a,b,c,a',z,A,rfl,rfl,s,u,w⟩
  .rcases x with⟨_|⟨a,_|⟨b,_|⟨c,_|⟨d,l⟩⟩⟩⟩⟩
   .exact .stuck
   .exact .stuck
   .exact .stuck
   .exact absurd rfl (r a b c)
   .exact .stuck
  .cases w with
   |int k n=>
    cases k with
    |u64=>
     by_cases i:n=0
     .subst i;exact .ax (.inl ⟨rfl,rfl⟩)
     .have j:∀(x y:ai),ReflectliteValue.partsAny (.agg #[x,y,.int .u64 n])=(match y with| .pointer (some p)=>(do pure (some (<-Rtype.ofHandle x,p,n.toNat)))|_=>stuck "reflectlite: a Value expected"):=by
       intro x y;obtain⟨m,rfl⟩|⟨m,rfl⟩:(∃m:Nat,n=(m+1:Nat))\/∃m:Nat,n=Int.negSucc m:=by
        cases n with
        |ofNat k=>cases k with
         |zero=>exact absurd rfl i
         |succ k=>exact .inl ⟨k,rfl⟩
        |negSucc k=>exact .inr ⟨k,rfl⟩
       .cases y with
        |pointer p=>cases p<;>rfl
        |_=>rfl
       .cases y with
        |pointer p=>cases p<;>rfl
        |_=>rfl
      rw[j,j];cases u with
      |ptr e=>exact .ao (Oh O G s) λg t B l q=>by subst q;exact .ax (.inr ⟨_,_,_,_,rfl,rfl,_,l _ _ e,rfl⟩)
      |_=>exact .stuck
    |_=>exact .stuck
   |_=>exact .stuck
 |_=>exact .stuck
theorem Om(G:b1 C f){v v':ai}(h:aB C.fn f v v'):aA C (λg p b=>Wv g p b) f (ReflectliteValue.parts v) (ReflectliteValue.parts v'):=by
 unfold ReflectliteValue.parts;refine .ao (Ww O G h) λg p b l r=> ?_;rcases r with⟨rfl,rfl⟩|⟨t,a,a',n,rfl,rfl,r⟩
 .exact .ax (.inl ⟨rfl,rfl⟩)
 .exact .ao (G1 O _ t) λg1 _ _ l1 _=>.ax (.inr ⟨t,a,a',n,rfl,rfl,r.mono l1⟩)
theorem G4(G:b1 C f){z:Sem ai}(c:∀g,bs f g->aA C (bk C) g z z){F:TypeId->Addr->Nat->Nat->Sem ai}(hF:∀g,bs f g->∀t a a' n k,cp g a a'->aA C (bk C) g (F t a n k) (F t a' n k)){x ak:aQ}(h:aZ C.fn f x ak): aA C (bk C) f (ReflectliteValue.method z F x) (ReflectliteValue.method z F ak)/\aA C (bk C) f (ReflectliteValue.methodAny z F x) (ReflectliteValue.methodAny z F ak):=by
 constructor
 .refine zM O (λx b=>⟨ "reflectlite: a method of Value takes its receiver",?_⟩) (λv v' r=> ?_) h
  .rcases x with⟨_|⟨v,_|⟨w,l⟩⟩⟩
   .rfl
   .exact absurd rfl (b v)
   .rfl
  .refine .ao (Om O G r) λg p d l r=> ?_;rcases r with⟨rfl,rfl⟩|⟨t,a,a',n,rfl,rfl,r⟩
   .exact c g l
   .exact hF g l _ _ _ _ _ r
 .refine zM O (λx b=>⟨ "reflectlite: a method of Value takes its receiver",?_⟩) (λv v' r=> ?_) h
  .rcases x with⟨_|⟨v,_|⟨w,l⟩⟩⟩
   .rfl
   .exact absurd rfl (b v)
   .rfl
  .refine .ao (Ww O G r) λg p d l r=> ?_;rcases r with⟨rfl,rfl⟩|⟨t,a,a',n,rfl,rfl,r⟩
   .exact c g l
   .exact hF g l _ _ _ _ _ r
end
end Go.Ren
namespace Go.Ren
open Go Go.Extern
section
variable{C:bf}(O:C.Ok){f:Ren}
include O
theorem aj2(t:TypeId){a a':Addr}(n k:Nat)(h:cp f a a'):aA C (bk C) f (ReflectliteValue.isNil t a n k) (ReflectliteValue.isNil t a' n k):=by
 unfold ReflectliteValue.isNil;dsimp only;have b:∀g,bs f g->aA C (bk C) g (do
   match<-loadVar t a with
   |.chan none| .nilFunc| .nilIface| .map none| .pointer none| .slice none _ _=>pure (.bool true)
   |_=>pure (.bool false)) (do
   match<-loadVar t a' with
   |.chan none| .nilFunc| .nilIface| .map none| .pointer none| .slice none _ _=>pure (.bool true)
   |_=>pure (.bool false)):=λg l=>.ao (wM O t (h.mono l)) λg1 v v' l1 r=>by
  cases r with
  |de e=>
   cases v' with
   |pointer a=>cases a<;>first|(cases e;done)|exact .ax (.bool _)
   |slice a _ _=>cases a<;>first|(cases e;done)|exact .ax (.bool _)
   |map a=>cases a<;>first|(cases e;done)|exact .ax (.bool _)
   |chan a=>cases a<;>first|(cases e;done)|exact .ax (.bool _)
   |_=>first|(cases e;done)|exact .ax (.bool _)
  |_=>exact .ax (.bool _)
 split
 .exact .ao (A:=bB) (xf O _ _) λg _ _ l _=>b g l
 .exact b f (bs.refl _)
theorem aj3(G:b1 C f)(t:TypeId){a a':Addr}(n k:Nat)(h:cp f a a'):aA C (bk C) f (ReflectliteValue.elem t a n k) (ReflectliteValue.elem t a' n k):=by
 unfold ReflectliteValue.elem;dsimp only;by_cases hk:k=20\/k=22
 .have b:(k !=20 && k !=22)=false:=(by rcases hk with rfl|rfl<;>rfl);rw[b];simp only[ea,cY];refine .ao (wM O t h) λg v v' l r=>.ao (Wp O t) λg1 e d l1 q=> ?_;subst q;have r:=r.mono l1;have c:=G.mono (l.trans l1);rcases hk with rfl|rfl
  .exact Wu O c r
  .cases r with
   |ff=>exact .ax (Wt O)
   |ptr q=>cases e with
    |none=>exact xf O _ _
    |some e=>exact Ws O c e ⟨_,q,rfl⟩ _
   |_=>exact xf O _ _
 .have b:(k !=20 && k !=22)=true:=by
   simp only[not_or]at hk;simp[hk.1,hk.2]
  rw[b];simp only[dd];exact .ao (A:=λ_(_:PUnit)(_:PUnit)=>False) (xf O _ _) λ_ _ _ _ h=>h.elim
theorem Wx{N:Fn->Bool}{x ak:aQ}(h:aZ N f x ak):(∀a b,x≠#[a,b])\/∃a b a' j,x= #[a,b]/\ak= #[a',j]/\aB N f a a'/\aB N f b j:=by
 by_cases c:x.size=2
 .right;have d:ak.size=2:=h.size.symm.trans c;have e:x= #[x[0],x[1]]:=by
   apply zh
   .simpa using c
   .intro i k g;have:i=0\/i=1:=(by simp at g;omega);rcases this with rfl|rfl<;>rfl
  have l:ak= #[ak[0],ak[1]]:=by
   apply zh
   .simpa using d
   .intro i k g;have:i=0\/i=1:=(by simp at g;omega);rcases this with rfl|rfl<;>rfl
  exact⟨_,_,_,_,e,l,h.get 0 _ _ (dq _) (dq _),h.get 1 _ _ (dq _) (dq _)⟩
 .exact .inl λa b e=>c (by rw[e];rfl)
theorem aj4(G:b1 C f){x ak:aQ}(h:aZ C.fn f x ak):aA C (bk C) f (ReflectliteValue.set x) (ReflectliteValue.set ak):=by
 rcases Wx O h with H|⟨v,u,v',Q,rfl,rfl,aa,J⟩
 .rcases x with⟨_|⟨a,_|⟨b,_|⟨c,l⟩⟩⟩⟩
  .exact .stuck
  .exact .stuck
  .exact absurd rfl (H a b)
  .exact .stuck
 .unfold ReflectliteValue.set;refine .ao (Om O G aa) λg p R l r=>.ao (Om O (G.mono l) (J.mono l)) λg1 q a8 l1 K=> ?_;rcases r with⟨rfl,rfl⟩|⟨t,a,a',n,rfl,rfl,d⟩
  .exact .b4
  .rcases K with⟨rfl,rfl⟩|⟨j,b,z,S,rfl,rfl,B⟩
   .exact .b4
   .dsimp only;have o:∀y,bs g1 y->aA C (bk C) y (do
      let val<-loadVar j b
      if<-Rtype.directlyAssignable t j then storeVar t a val
      else if<-Rtype.implements t j then
       if(<-Rtype.kind j)==20 then
        match val with
        |.nilIface=>unsupported (.noEntry "extern/reflectlite: a nil value of one interface type handed on as a value of another")
        |_=>storeVar t a val
       else storeVar t a (.iface j val)
      else panicString ("reflectlite.Set: value of type " ++ (<-Rtype.spelt j)++ " is not assignable to type " ++ (<-Rtype.spelt t))
      pure (.tuple #[])) (do
      let val<-loadVar j z
      if<-Rtype.directlyAssignable t j then storeVar t a' val
      else if<-Rtype.implements t j then
       if(<-Rtype.kind j)==20 then
        match val with
        |.nilIface=>unsupported (.noEntry "extern/reflectlite: a nil value of one interface type handed on as a value of another")
        |_=>storeVar t a' val
       else storeVar t a' (.iface j val)
      else panicString ("reflectlite.Set: value of type " ++ (<-Rtype.spelt j)++ " is not assignable to type " ++ (<-Rtype.spelt t))
      pure (.tuple #[])):=λy l2=>by
     have d:=d.mono (l1.trans l2);have B:=B.mono l2;refine .ao (wM O j B) λT w w' L i=>.ao (Wr O t j) λaz b z E e=> ?_;subst e;have d:=d.mono (L.trans E);have i:=i.mono E;cases b with
     |true=>exact .ao (n1 O t d i) λ_ _ _ _ _=>.ax .undef
     |false=>
      simp only[ea,cY];refine .ao (Oj O t j) λV b z F e=> ?_;subst e;have d:=d.mono F;have i:=i.mono F;cases b with
      |false=>
       simp only[ea,cY];refine .ao (Oi O j) λM s s' D e=>.ao (Oi O t) λW q a8 X N=> ?_;subst e;subst N;exact .ao (A:=bB) (G2 O _) λ_ _ _ _ _=>.ax .undef
      |true=>
       simp only[dd];refine .ao (G3 O j) λM k k' D e=> ?_;subst e;have d:=d.mono D;have i:=i.mono D;split
       .cases i with
        |gN=>exact .ao (A:=bB) .b4 λ_ _ _ _ _=>.ax .undef
        |de e=>cases w'<;>first|(cases e;done)|exact .ao (n1 O t d (.de e)) λ_ _ _ _ _=>.ax .undef
        |qf=>exact .ao (n1 O t d .qf) λ_ _ _ _ _=>.ax .undef
        |ptr e=>exact .ao (n1 O t d (.ptr e)) λ_ _ _ _ _=>.ax .undef
        |slice l c e=>exact .ao (n1 O t d (.slice l c e)) λ_ _ _ _ _=>.ax .undef
        |map e=>exact .ao (n1 O t d (.map e)) λ_ _ _ _ _=>.ax .undef
        |chan e=>exact .ao (n1 O t d (.chan e)) λ_ _ _ _ _=>.ax .undef
        |func n m s q s' a8=>exact .ao (n1 O t d (.func n m s q s' a8)) λ_ _ _ _ _=>.ax .undef
        |iface P r=>exact .ao (n1 O t d (.iface P r)) λ_ _ _ _ _=>.ax .undef
        |agg s q=>exact .ao (n1 O t d (.agg s q)) λ_ _ _ _ _=>.ax .undef
        |tuple s q=>exact .ao (n1 O t d (.tuple s q)) λ_ _ _ _ _=>.ax .undef
        |_=>exact .ao (n1 O t d (by constructor)) λ_ _ _ _ _=>.ax .undef
       .exact .ao (n1 O t d (.iface j i)) λ_ _ _ _ _=>.ax .undef
    split
    .exact .ao (A:=bB) .b4 λy _ _ l2 _=>o y l2
    .exact o g1 (bs.refl _)
theorem On(G:b1 C f){v v':ai}(h:aB C.fn f v v'):aA C bB f (ReflectliteType.ofRtype v) (ReflectliteType.ofRtype v'):=by
 cases h with
 |@agg x ak s q=>
  refine zM O (F:=λx=>ReflectliteType.ofRtype (.agg x)) (A:=bB) (λx a=>⟨ "reflectlite: an rtype expected",?_⟩) (λv v' r=> ?_) (⟨s,q⟩:aZ C.fn f x ak)
  .rcases x with⟨_|⟨v,_|⟨w,l⟩⟩⟩
   .rfl
   .exact absurd rfl (a v)
   .rfl
  .refine .ao (Oh O G r) λg t b l e=> ?_;subst e;exact .ao (G1 O _ t) λ_ _ _ _ _=>.ax rfl
 |_=>exact .stuck
theorem aj5(G:b1 C f){F:TypeId->Sem ai}(hF:∀g,bs f g->∀t,aA C (bk C) g (F t) (F t)){x ak:aQ}(h:aZ C.fn f x ak):aA C (bk C) f (ReflectliteType.method F x) (ReflectliteType.method F ak):=by
 refine zM O (λx a=>⟨ "reflectlite: a method of rtype takes its receiver",?_⟩) (λv v' r=> ?_) h
 .rcases x with⟨_|⟨v,_|⟨w,l⟩⟩⟩
  .rfl
  .exact absurd rfl (a v)
  .rfl
 .exact .ao (On O G r) λg t b l e=>by subst e;exact hF g l t
theorem aj6(G:b1 C f)(t:TypeId):aA C (bk C) f (ReflectliteType.elem t) (ReflectliteType.elem t):=by
 unfold ReflectliteType.elem;refine .ao (Wp O t) λg e a l q=> ?_;subst q;cases e with
 |some e=>exact Ol O (G.mono l) e
 |none=>exact .ao (Oi O t) λg1 s s' l1 q=>by subst q;exact G2 O _
theorem Wy(G:b1 C f)(w:String){F:TypeId->TypeId->Sem Bool}(hF:∀g,bs f g->∀a b,aA C bB g (F a b) (F a b)){x ak:aQ}(h:aZ C.fn f x ak):aA C (bk C) f (ReflectliteType.relation w F x) (ReflectliteType.relation w F ak):=by
 rcases Wx O h with d|⟨v,u,v',k,rfl,rfl,i,j⟩
 .rcases x with⟨_|⟨a,_|⟨b,_|⟨c,l⟩⟩⟩⟩
  .exact .stuck
  .exact .stuck
  .exact absurd rfl (d a b)
  .exact .stuck
 .cases j with
  |gN=>exact G2 O _
  |iface t r=>
   refine .ao (On O G r) λg a a' l e=>.ao (On O (G.mono l) (i.mono l)) λg1 b m l1 ay=> ?_;subst e;subst ay;exact .ao (hF g1 (l.trans l1) _ _) λn c o l2 e=>by subst e;exact .ax (.bool _)
  |_=>exact .stuck
theorem aj7(u t:TypeId):aA C bB f (ReflectliteType.implements_ u t) (ReflectliteType.implements_ u t):=by
 unfold ReflectliteType.implements_;refine .ao (G3 O u) λg k k' l e=> ?_;subst e;dsimp only;have a:∀g,aA C bB g (do
   Rtype.noPackMethods "Implements" t
   Rtype.noPack "Implements" u
   Rtype.implements u t) (do
   Rtype.noPackMethods "Implements" t
   Rtype.noPack "Implements" u
   Rtype.implements u t):=λg=>.ao (Db O _ t) λ_ _ _ _ _=>.ao (G1 O _ u) λ_ _ _ _ _=>Oj O u t
 split
 .exact .ao (A:=bB) (G2 O _) λg _ _ _ _=>a g
 .exact a g
theorem aj8(u t:TypeId):aA C bB f (ReflectliteType.assignableTo u t) (ReflectliteType.assignableTo u t):=by
 unfold ReflectliteType.assignableTo;dsimp only;have c:∀g,aA C bB g (do pure ((<-Rtype.directlyAssignable u t)||(<-Rtype.implements u t))) (do pure ((<-Rtype.directlyAssignable u t)||(<-Rtype.implements u t))):=λg=>.ao (Wr O u t) λg a a' l e=>.ao (Oj O u t) λg b h l d=>(by subst e;subst d;exact .ax rfl);split
 .exact .ao (Db O _ t) λ_ _ _ _ _=>.ao (Db O _ u) λg _ _ _ _=>c g
 .exact c f
theorem aj9(G:b1 C f){F:TypeId->Sem ai}(hF:∀g,bs f g->∀t,aA C (bk C) g (F t) (F t)){x ak:aQ}(h:aZ C.fn f x ak):aA C (bk C) f (ReflectliteType.abiMethod F x) (ReflectliteType.abiMethod F ak):=by
 refine zM O (λx a=>⟨ "abi.Type: a method takes its receiver",?_⟩) (λv v' r=> ?_) h
 .rcases x with⟨_|⟨v,_|⟨w,l⟩⟩⟩
  .rfl
  .exact absurd rfl (a v)
  .rfl
 .refine .ao (Oh O G r) λg t b l e=> ?_;subst e;exact .ao (G1 O _ t) λg1 _ _ l1 _=>hF g1 (l.trans l1) t
theorem aka(G:b1 C f){x ak:aQ}(h:aZ C.fn f x ak): aA C (bk C) f (ReflectliteValue.unpack (x.getD 0 (.tuple #[]))) (ReflectliteValue.unpack (ak.getD 0 (.tuple #[])))/\aA C (bk C) f (ReflectliteValue.methodAny (ReflectliteValue.valueError "reflectlite.Value.Type" 0) (λt _ _ _=>ReflectliteType.toType t) x) (ReflectliteValue.methodAny (ReflectliteValue.valueError "reflectlite.Value.Type" 0) (λt _ _ _=>ReflectliteType.toType t) ak)/\aA C (bk C) f (ReflectliteValue.method (ReflectliteValue.valueError "reflectlite.Value.IsNil" 0) ReflectliteValue.isNil x) (ReflectliteValue.method (ReflectliteValue.valueError "reflectlite.Value.IsNil" 0) ReflectliteValue.isNil ak)/\aA C (bk C) f (ReflectliteValue.method (ReflectliteValue.valueError "reflectlite.Value.Elem" 0) ReflectliteValue.elem x) (ReflectliteValue.method (ReflectliteValue.valueError "reflectlite.Value.Elem" 0) ReflectliteValue.elem ak)/\aA C (bk C) f (ReflectliteType.method ReflectliteType.elem x) (ReflectliteType.method ReflectliteType.elem ak)/\aA C (bk C) f (ReflectliteType.relation "Implements" ReflectliteType.implements_ x) (ReflectliteType.relation "Implements" ReflectliteType.implements_ ak)/\aA C (bk C) f (ReflectliteType.relation "AssignableTo" ReflectliteType.assignableTo x) (ReflectliteType.relation "AssignableTo" ReflectliteType.assignableTo ak)/\aA C (bk C) f (ReflectliteType.abiMethod (λt=>do pure (.int .u8 (Int.ofNat (<-Rtype.kind t)))) x) (ReflectliteType.abiMethod (λt=>do pure (.int .u8 (Int.ofNat (<-Rtype.kind t)))) ak):=⟨Wu O G (h.getD 0 .undef),(G4 O G (λ_ _=>xf O _ _) (λg l t _ _ _ _ _=>Ol O (G.mono l) t) h).2,(G4 O G (λ_ _=>xf O _ _) (λg l t _ _ n k r=>aj2 O t n k r) h).1,(G4 O G (λ_ _=>xf O _ _) (λg l t _ _ n k r=>aj3 O (G.mono l) t n k r) h).1,aj5 O G (λg l t=>aj6 O (G.mono l) t) h,Wy O G _ (λ_ _ a b=>aj7 O a b) h,Wy O G _ (λ_ _ a b=>aj8 O a b) h,aj9 O G (λg l t=>.ao (G3 O t) λ_ k k' _ e=>by subst e;exact .ax (.int _ _)) h⟩
omit O in
theorem akb {n:FuncId} {F:Func} (a:C.P.funcs[n]? =some F) (b:C.b0.funcs[n]? =some F) (c:(F.name== "runtime.NumGoroutine")=false) (d:F.body.isNone=true) (i:Extern.findNext F=none) {e:aQ->Sem ai} (j:Extern.find F=some e) {x ak:aQ} (h:∀g,bs f g->aA C (bk C) g (e x) (e ak)): aA C (gC C) f (callFunc n x) (callFunc n ak):=by
 unfold callFunc;refine .prog ?_;rw[a,b];dsimp only;rw[c];simp only[ea,cY,d,dd];refine .ao (A:=bB) (.ext n (.pure rfl)) λg _ _ l _=> ?_;rw[i,j];exact aA.ao (A:=bk C) (f:=g) (h g l) λg1 v v' l1 r=>.ax (.value r)
omit O in
theorem Oo {n:FuncId} {F F':Func} (c:C.P.funcs[n]? =some F) (d:C.b0.funcs[n]? =some F') (e:(F.name== "runtime.NumGoroutine")=false) (a:(F'.name== "runtime.NumGoroutine")=false) (g:F.body.isNone=false) (b:F'.body.isNone=false) (i:C.fn (.func n)=true) {x ak:aQ} (h:aZ C.fn f x ak): aA C (gC C) f (callFunc n x) (callFunc n ak):=by
 unfold callFunc;refine .prog ?_;rw[c,d];dsimp only;rw[e,a];simp only[ea,cY,g,b];exact .ax (.enter i h)
end
end Go.Ren
namespace Go.Ren
open Go
section
variable{p q:Program}(af:∀t,q.info? t=p.info? t)
include af
theorem zN(t:TypeId):q.underlying t=p.underlying t:=by unfold Program.underlying;simp only[af]
theorem akc(t:TypeId):q.underlyingId t=p.underlyingId t:=by unfold Program.underlyingId;rw[af]
theorem akd:∀n a b,q.alikeButTags n a b=p.alikeButTags n a b:=by
 intro n;induction n with
 |zero=>intros;rfl
 |succ n c=>intro a b;unfold Program.alikeButTags;simp only[af,c]
theorem Oq(t:TypeId):q.cellsOf t=p.cellsOf t:=by unfold Program.cellsOf;rw[af]
theorem Ot(t:TypeId):q.bytesOf t=p.bytesOf t:=by unfold Program.bytesOf;rw[af]
theorem ake:∀d t,q.eqGuardType d t=p.eqGuardType d t:=by
 intro d;induction d with
 |zero=>intros;rfl
 |succ d a=>intro t;unfold Program.eqGuardType;simp only[zN af,a]
theorem Wz:∀d t o,byteOfCell q d t o=byteOfCell p d t o:=by
 intro d;induction d with
 |zero=>intros;rfl
 |succ d a=>intro t o;unfold byteOfCell;simp only[zN af,Oq af,Ot af,a]
theorem akf:∀d t o,cellOfByte q d t o=cellOfByte p d t o:=by
 intro d;induction d with
 |zero=>intros;rfl
 |succ d a=>intro t o;unfold cellOfByte;simp only[zN af,Oq af,Ot af,a]
theorem akg(d:Nat)(t:TypeId)(n o:Nat)(b:Int):cellAtBytes q d t n o b=cellAtBytes p d t n o b:=by
 unfold cellAtBytes;simp only[Oq af,Ot af,Wz af,akf af]
theorem WA(ap:∀c∈p.cutTypes.toList,Program.modelsOwn c.1=true)(t:TypeId):p.packed t=false:=by
 unfold Program.packed Program.packedAs;rw[List.filter_eq_nil_iff.2 λc a=>by simp[Program.ownRow,ap c a]];rfl
omit af in
theorem G5(ap:∀c∈p.cutTypes.toList,Program.modelsOwn c.1=true)(a:Array (String×TypeId)):p.mayEmbedAPacks a=false:=by
 unfold Program.mayEmbedAPacks;rw[Array.any_eq_false'];intro c b;simp[Program.ownRow,ap c (by simpa using b)]
section
variable(ap:∀c∈p.cutTypes.toList,Program.modelsOwn c.1=true)(nd:∀c∈q.cutTypes.toList,Program.modelsOwn c.1=true)
include ap nd
theorem G6(t:TypeId):q.packed t=p.packed t:=by rw[WA (λt=>(af t).symm) nd,WA af ap]
theorem akh:∀d t,q.holdsPacked d t=p.holdsPacked d t:=by
 intro d;induction d with
 |zero=>intros;rfl
 |succ d a=>intro t;unfold Program.holdsPacked;simp only[zN af,G6 af ap nd,a]
theorem aki:∀d t,q.namesPacked d t=p.namesPacked d t:=by
 intro d;have a:∀{r:bF},(∀c∈r.cutTypes.toList,Program.modelsOwn c.1=true)->∀F:String×TypeId->Bool,r.cutTypes.any (λc=> !r.ownRow c && F c)=false:=by
  intro r b F;rw[Array.any_eq_false'];intro c e;simp[Program.ownRow,b c (by simpa using e)]
 induction d with
 |zero=>intros;rfl
 |succ d f=>intro t;unfold Program.namesPacked;simp only[af,G6 af ap nd,G5 ap,G5 nd,a ap,a nd,f]
theorem akj:∀d t,q.methodsOfAPack d t=p.methodsOfAPack d t:=by
 intro d;induction d with
 |zero=>intros;rfl
 |succ d a=>
  intro t;unfold Program.methodsOfAPack;rw[zN af,G6 af ap nd];cases p.underlying t with
  |none=>rfl
  |some d=>cases d<;>simp only[G5 ap,G5 nd,a]
end
theorem akk{x:String×TypeId}{l:List (String×TypeId)}(r:q.cutTypes.toList=x::l)(s:p.cutTypes.toList=l)(hd:q.depth=p.depth){i:TypeInfo}{e:TypeId}(b:p.info? x.2=some i)(a:i.desc=.pointer e)(t:TypeId):q.stoodInHeld t=p.stoodInHeld t:=by
 have c:q.stoodInAs t=p.stoodInAs t:=by
  unfold Program.stoodInAs;rw[zN af,r,s,hd];cases hu:p.underlying t with
  |none=>rfl
  |some d=>
   cases d with
   |struct dk=>
    dsimp only;simp only[akd af,akc af,GA];have f:p.alikeButTags p.depth (p.underlyingId x.2) (p.underlyingId t)=false:=by
     have ay:p.underlyingId x.2=x.2:=by
      unfold Program.underlyingId;rw[b];cases i;dsimp only at a;subst a;rfl
     have c:∃j,p.info? (p.underlyingId t)=some j/\j.desc=.struct dk:=by
      unfold Program.underlying at hu;unfold Program.underlyingId;cases dO:p.info? t with
      |none=>rw[dO]at hu;cases hu
      |some k=>
       rw[dO]at hu;cases hk:k.desc with
       |named y u=>
        obtain⟨kd⟩:=k;dsimp only at hk;subst hk;dsimp only at hu⊢;cases bP:p.info? u with
        |none=>rw[bP]at hu;cases hu
        |some v=>rw[bP]at hu;simp at hu;exact⟨v,rfl,hu⟩
       |_=>
        obtain⟨kd⟩:=k;dsimp only at hk;subst hk;dsimp only at hu⊢;first
        |(cases hu;exact⟨_,dO,rfl⟩)
        |(cases hu;done)
     obtain⟨j,g,m⟩:=c;rw[ay];have o:∃n,p.depth=n+1:=⟨2* (p.types.size+Made.depth)+1,rfl⟩;obtain⟨n,w⟩:=o;rw[w];unfold Program.alikeButTags;rw[b,g];simp only[mq,a,m];have:x.2≠p.underlyingId t:=by
      intro h;rw[<-h,b]at g;cases g;rw[a]at m;cases m
     simp[this]
    rw[f];rfl
   |_=>rfl
 unfold Program.stoodInHeld;rw[c,af]
end
end Go.Ren
