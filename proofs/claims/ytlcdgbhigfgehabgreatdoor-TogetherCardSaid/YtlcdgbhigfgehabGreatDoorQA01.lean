import Derived.Test.YtlcdgbhigfgehabGreatDoorQA00
set_option linter.all false
set_option maxRecDepth 100000
set_option maxHeartbeats 16000000
namespace Go.Ren
open Go
def kC(P:bF):Nat->TypeId->Bool
 |0,_=>false
 |d+1,t=>match P.underlying t with
  |some .bool|some (.int _)|some (.float _)|some (.complex _)|some .string=>true
  |some (.struct dk)=>dk.all λf=>f.name== "_" ||kC P d f.type
  |some (.array _ e)=>kC P d e
  |_=>false
def Gq:ai->Bool
 |.pointer none| .slice none _ _| .map none| .nilFunc| .nilIface=>true
 |_=>false
section
variable{C:bf}(O:C.Ok){f:Ren}
include O
omit O in
theorem UZ{uG e3:Type}(l:List uG):∀(f:Ren)(s:e3)(k k':uG->e3->Sem (ForInStep e3)),(∀i∈l,∀g s,bs f g->aA C bB g (k i s) (k' i s))->aA C bB f (forIn l s k) (forIn l s k'):=by
 induction l with
 |nil=>intro f s k k' _;exact .ax rfl
 |cons i l d=>
  intro f s k k' h;rw[Cp,Cp];refine .ao (h i ag f s (bs.refl _)) λg a a' m e=> ?_;subst e;cases a with
  |done b=>exact .ax rfl
  |yield b=>exact d g b k k' λj n g' s' c=>h j (by simp[n]) g' s' (m.trans c)
omit O in
theorem LH{uG e3:Type}(l:Array uG)(f:Ren)(s:e3)(k k':uG->e3->Sem (ForInStep e3))(h:∀i∈l,∀g s,bs f g->aA C bB g (k i s) (k' i s)):aA C bB f (forIn l s k) (forIn l s k'):=by
 rw[<-Gr,<-Gr];exact UZ _ f s k k' λi af=>h i (by simpa using af)
omit O in
theorem LI{e3:Type}(n:Nat)(f:Ren)(s:e3)(k k':Nat->e3->Sem (ForInStep e3))(h:∀i g s,bs f g->aA C bB g (k i s) (k' i s)):aA C bB f (forIn [:n] s k) (forIn [:n] s k'):=by
 rw[LJ,LJ];exact UZ _ f s k k' λi _=>h i
omit O in
theorem U0{a a' b d:Addr}(h:cp f a a')(k:cp f b d):(a==b)=(a'==d):=by
 obtain⟨x,e,rfl⟩:=h;obtain⟨y,c,rfl⟩:=k;apply sG.2;simp only[ho];constructor
 .intro h;subst h;rw[e]at c;cases c;rfl
 .intro h;injection h with g i j;subst g;have:=f.inj _ _ _ e c;cases a;cases b;simp_all
theorem U1{r r':Nat}(h:f r=some r'):aA C (λ_ a b=>a=none/\b=none) f (viewAt r) (viewAt r'):=by
 unfold viewAt;refine .ao (A:=bB) (.shape h λx=>.pure rfl) λg a a' l e=> ?_;subst e;split
 .exact .ax ⟨rfl,rfl⟩
 .refine .ao (mA O (l _ _ h)) λg' o c d r=> ?_;cases r<;>exact .ax ⟨rfl,rfl⟩
theorem LK{a a':Addr}(h:cp f a a'):aA C bB f (noView a) (noView a'):=by
 obtain⟨b,e,rfl⟩:=h;unfold noView;refine .ao (U1 O e) λg x ak l e=> ?_;obtain⟨rfl,rfl⟩:=e;exact .ax rfl
theorem U2{r r':Nat}(h:f r=some r'):aA C (λg p b=>(p=none/\b=none)\/∃a a' l,p=some (a,l)/\b=some (a',l)/\cp g a a') f (numberAt r) (numberAt r'):=by
 unfold numberAt;refine .ao (A:=bB) (.shape h λx=>.pure rfl) λg a a' l c=> ?_;subst c;split
 .exact .ax (.inl ⟨rfl,rfl⟩)
 .refine .ao (mA O (l _ _ h)) λg' o d i r=> ?_;cases r with
  |number lo e=>exact .ax (.inr ⟨_,_,_,rfl,rfl,_,e,rfl⟩)
  |_=>exact .ax (.inl ⟨rfl,rfl⟩)
theorem uM{a a':Addr}(h:cp f a a'):aA C (λg p c=>cp g p.1 c.1/\p.2=c.2) f (behindNumber a) (behindNumber a'):=by
 unfold behindNumber;obtain⟨b,e,rfl⟩:=h;refine .ao (U2 O e) λg x ak l d=> ?_;rcases d with⟨rfl,rfl⟩|⟨u,i,lo,rfl,rfl,r⟩
 .exact .ax ⟨⟨b,l _ _ e,rfl⟩,rfl⟩
 .exact .ax ⟨r,rfl⟩
omit O in
theorem y1(O:C.Ok):C.b0.depth=C.P.depth:=by unfold Program.depth;rw[O.tables]
omit O in
theorem U3(O:C.Ok)(t:TypeId):C.b0.cellsOf t=C.P.cellsOf t:=by unfold Program.cellsOf;rw[O.oi]
omit O in
theorem ahD(O:C.Ok)(t:TypeId):C.b0.bytesOf t=C.P.bytesOf t:=by unfold Program.bytesOf;rw[O.oi]
theorem Cq{a a':Addr}(h:cp f a a'):aA C bB f (byteOf a) (byteOf a'):=by
 unfold byteOf;have c:a'.spot=a.spot:=(by obtain⟨b,e,rfl⟩:=h;rfl);have ap:a'.off=a.off:=(by obtain⟨b,e,rfl⟩:=h;rfl);rw[c];cases a.spot with
 |some s=>exact .ax rfl
 |none=>
  dsimp only;refine .prog ?_;refine .ao (LK O h) λg _ _ l _=> ?_;obtain⟨b,e,rfl⟩:=h;refine .ao (A:=bB) (.shape (l _ _ e) λx=>.pure rfl) λg' x ak i d=> ?_;subst d;cases x with
  |none=>exact .stuck
  |some p=>
   obtain⟨t,n⟩:=p;dsimp only;rw[U3 O,ahD O,y1 O,O.byte];split
   .exact .ax rfl
   .split
    .exact .ax rfl
    .exact .stuck
theorem ahE(G:b1 C f)(t:TypeId){a a' b d:Addr}(h:cp f a a')(k:cp f b d):aA C bB f (do
   let(a,b):=((<-behindNumber a).1,(<-behindNumber b).1)
   if a.block==b.block && a.block< (<-program).globals.size then return (<-byteOf a)==(<-byteOf b)
   let .named "sync.copyChecker" _:=(<-typeInfo t).desc|unsupported .addressObserved
   if a==b then pure true else unsupported .addressObserved)
  (do
   let(a,b):=((<-behindNumber a').1,(<-behindNumber d).1)
   if a.block==b.block && a.block< (<-program).globals.size then return (<-byteOf a)==(<-byteOf b)
   let .named "sync.copyChecker" _:=(<-typeInfo t).desc|unsupported .addressObserved
   if a==b then pure true else unsupported .addressObserved):=by
 refine .ao (uM O h) λg p r l e=> ?_;refine .ao (uM O (k.mono l)) λg1 q a8 l1 ay=> ?_;obtain⟨a,x⟩:=p;obtain⟨a',ak⟩:=r;obtain⟨b,y⟩:=q;obtain⟨d,B⟩:=a8;dsimp only at e ay⊢;have j:=e.1.mono l1;have o:=ay.1;refine .prog ?_;have s:(a'.block==d.block && decide (a'.block<C.b0.globals.size))=(a.block==b.block && decide (a.block<C.P.globals.size)):=by
  rw[O.wL];obtain⟨u,c,rfl⟩:=j;obtain⟨v,aH,rfl⟩:=o;dsimp only;have D:=G.mono (l.trans l1);have w:(u==v)=(a.block==b.block):=by
   apply sG.2;simp only[ho];constructor
   .intro h;subst h;exact g1.inj _ _ _ c aH
   .intro h;rw[h,aH]at c;cases c;rfl
  have z:decide (u<C.P.globals.size)=decide (a.block<C.P.globals.size):=by
   apply decide_eq_decide.2;constructor
   .intro h;have:=g1.low _ _ c (.inr (by have:=O.gs;omega));omega
   .intro h;have:=g1.low _ _ c (.inl (by have:=O.gs;omega));omega
  rw[w,z]
 rw[s];split
 .refine .ao (Cq O j) λA n E l2 e=> ?_;subst e;exact .ao (Cq O (o.mono l2)) λF m H aa e=>by subst e;exact .ax rfl
 .refine .ao (mz O t) λA i J l2 e=> ?_;subst e;split
  .rw[U0 j o];split
   .exact .ax rfl
   .exact .b4
  .exact .b4
theorem ahF(d:Nat):∀(n:Nat)(f:Ren)(_:b1 C f)(t:TypeId)(x ak y q:ai),kC C.P n t=true->aB C.fn f x ak->aB C.fn f y q->aA C bB f (Op.equalIn d t x y) (Op.equalIn d t ak q):=by
 induction d with
 |zero=>intros;exact .b4
 |succ d K=>
  intro n f G t x ak y q o h c;cases n with
  |zero=>cases o
  |succ n=>
  unfold Op.equalIn;refine .ao (ir O t) λg M N l e=> ?_;obtain⟨rfl,e⟩:=e;unfold kC at o;rw[e]at o;have h:=h.mono l;have c:=c.mono l;have w:=G.mono l;cases M with
  |bool=>cases h<;>cases c<;>first|exact .ax rfl|exact .stuck
  |int k=>
   cases h with
   |int k a=>
    cases c with
    |int k' b=>dsimp only;split;exact .ax rfl;exact .stuck
    |ptr X=>
     by_cases z:a=0
     .subst z;exact .ax rfl
     .split<;>first|(exfalso;simp_all;done)|exact .b4
    |ff=>exact .b4
    |_=>exact .stuck
   |ptr ay=>
    cases c with
    |int k' b=>
     by_cases z:b=0
     .subst z;exact .ax rfl
     .split<;>first|(exfalso;simp_all;done)|exact .b4
    |ptr aF=>exact ahE O w t ⟨_,ay,rfl⟩ ⟨_,aF,rfl⟩
    |_=>exact .b4
   |ff=>cases c<;>exact .b4
   |_=>cases c<;>first|exact .b4|exact .stuck
  |float k=>cases h<;>cases c<;>first|exact .stuck|(dsimp only;split;exact .ax rfl;exact .stuck)
  |complex k=>cases h<;>cases c<;>first|exact .stuck|(dsimp only;split;exact .ax rfl;exact .stuck)
  |string=>cases h<;>cases c<;>first|exact .ax rfl|exact .stuck
  |struct dk=>
   cases h with
   |agg A B=>
    cases c with
    |agg D E=>
     dsimp only at o⊢;refine .prog ?_;rw[O.stood];split
     .exact .b4
     .refine .ao (LH dk _ _ _ _ λL F g' s j=> ?_) λg' s s' j e=>by
       subst e;obtain⟨s,_⟩:=s;cases s<;>exact .ax rfl
      split
      .rename_i H;have Q:kC C.P n L.type=true:=by
        have:=uJ.1 o L F;simpa[H]using this
       refine .ao (oJ O _ (aZ.mono j ⟨A,B⟩) _) λR v v' l2 r=> ?_;refine .ao (oJ O _ (aZ.mono (j.trans l2) ⟨D,E⟩) _) λaa u S p r'=> ?_;refine .ao (K n aa (w.mono (j.trans (l2.trans p))) _ _ _ _ _ Q (r.mono p) r') λT b az V e=> ?_;subst e;split<;>exact .ax rfl
      .exact .ax rfl
    |_=>exact .stuck
   |_=>cases c<;>exact .stuck
  |array J W=>
   cases h with
   |agg A B=>
    cases c with
    |agg D E=>
     dsimp only at o⊢;refine .ao (hU O W) λg1 m Y l1 e=> ?_;subst e;refine .ao (LI J _ _ _ _ λi g' s j=> ?_) λg' s s' j e=>by
       subst e;obtain⟨s,_⟩:=s;cases s<;>exact .ax rfl
     refine .ao (oJ O _ (aZ.mono (l1.trans j) ⟨A,B⟩) _) λR v v' l2 r=> ?_;refine .ao (oJ O _ (aZ.mono (l1.trans (j.trans l2)) ⟨D,E⟩) _) λaa u S p r'=> ?_;refine .ao (K n aa (w.mono (l1.trans (j.trans (l2.trans p)))) _ _ _ _ _ o (r.mono p) r') λT b az V e=> ?_;subst e;split<;>exact .ax rfl
    |_=>exact .stuck
   |_=>cases c<;>exact .stuck
  |_=>cases o
theorem ahG(d:Nat)(t:TypeId){x ak y:ai}(h:Gq y=true)(a:aB C.fn f x ak):aA C bB f (Op.equalIn d t x y) (Op.equalIn d t ak y):=by
 cases d with
 |zero=>exact .b4
 |succ d=>
  unfold Op.equalIn;refine .ao (gj O t) λg c i l e=> ?_;subst e;have a:=a.mono l;cases y with
  |pointer b=>
   cases b with
   |some b=>cases h
   |none=>cases c<;>cases a<;>first|exact .ax rfl|exact .b4|exact .stuck
  |slice b _ _=>
   cases b with
   |some b=>cases h
   |none=>cases c<;>cases a<;>first|exact .ax rfl|exact .b4|exact .stuck
  |map b=>
   cases b with
   |some b=>cases h
   |none=>cases c<;>cases a<;>first|exact .ax rfl|exact .b4|exact .stuck
  |nilFunc=>cases c<;>cases a<;>first|exact .ax rfl|exact .b4|exact .stuck
  |nilIface=>cases c<;>cases a<;>first|exact .ax rfl|exact .b4|exact .stuck
  |_=>cases h
end
end Go.Ren
namespace Go.Ren
open Go
def Cr{α:Type}(P:bF)(s:Sem α):Prop:=∀w es,(s.runT P w es).1.world.drawn=w.drawn
inductive gB(C:bf){α β:Type}(A:Ren->α->β->Prop):Ren->Sem α->Sem β->Prop
 |of {f s s'}:aA C A f s s'->gB C A f s s'
 |ao {f} {sF U4:Type} {B:Ren->sF->U4->Prop} {s:Sem sF} {s':Sem U4} {k k'}:aA C B f s s'->(∀g a a',bs f g->B g a a'->gB C A g (k a) (k' a'))->gB C A f (s>>=k) (s'>>=k')
 |keep {f q k k'}:Cr C.b0 k'->(∀n,aA C A f (k n) k')->gB C A f (.choose q k) k'
def Result.LL{α:Type}(x:Nat):Result α->Result α
 |.ok a w=>.ok a (a2 w w.tape (w.drawn - x))
 |.halt h w=>.halt h (a2 w w.tape (w.drawn - x))
def U5{α:Type}(r:Result α):Result.LL 0 r=r:=by cases r<;>rfl
def gB.map{C:bf}{α β sF U6:Type}{A:Ren->α->β->Prop}{B:Ren->sF->U6->Prop}{f:Ren}{s:Sem α}{s':Sem β}(h:gB C A f s s'){F:α->sF}{F':β->U6}(hF:∀g a a',A g a a'->B g (F a) (F' a')):gB C B f (s>>=λa=>pure (F a)) (s'>>=λa=>pure (F' a)):=by
 induction h with
 |of h=>exact .of (.ao h λg a a' _ r=>.ax (hF g a a' r))
 |@ao f sF d B' s s' k k' h _ b=>
  rw[bind_assoc,bind_assoc];exact .ao h b
 |@keep f q k k' c h=>
  refine .keep (λw es=> ?_) λn=>.ao (h n) λg a a' _ r=>.ax (hF g a a' r);show((k'.bind _).runT C.b0 w es).1.world.drawn=w.drawn
  rw[hx];have:=c w es;generalize k'.runT C.b0 w es=r at this;obtain⟨r,bg⟩:=r;cases r<;>exact this
def hy.ao{P:bF}{α β:Type}{s:Sem α}{k:α->Sem β}{w w1:ab}{a:α}{es es1:bI}(e:s.runT P w es=(.ok a w1,es1))(h:hy P s w es)(m:w1.tape=w.tape)(n:hy P (k a) w1 es1):hy P (s>>=k) w es:=by
 intro r w2 b aF c o;change (s.bind k).runT P w es=_ at aF;rw[hx,e]at aF;dsimp only at aF;have⟨f,p⟩:=h _ _ _ e rfl ag;have⟨t,u⟩:=n r w2 b aF c o;change w.drawn<=w1.drawn at f;refine⟨dU f t,λaP d g=> ?_⟩;change (s.bind k).runT P (a2 w aP d) es=_;have v:=p aP d λj q i=>g j q (by change w.drawn+j<w1.drawn at i;omega);rw[hx,v];dsimp only;have x:=u aP (d+ (w1.drawn - w.drawn)) λj q i=>by
  have:=g (w1.drawn - w.drawn+j) q U;rw[oh,this,m];congr 1;omega
 rw[x];have l:d+ (w1.drawn - w.drawn)+ (w2.drawn - w1.drawn)=d+ (w2.drawn - w.drawn):=U;subst c;cases r<;> (dsimp only[Result.world]at l⊢;rw[l])
def gB.run{C:bf}{R:Nat->Prop}{α β:Type}{A:Ren->α->β->Prop}{f:Ren}{s:Sem α}{s':Sem β}(h:gB C A f s s'): ∀{w w':ab},bR C R f w w'->(∀j q,w.tape (w.drawn+j) q=w'.tape (w'.drawn+j) q)->∀es bg,(∃x,fU C R A f w w' bg (Result.LL x (s.runT C.P w es).1) (s'.runT C.b0 w' bg))/\hy C.P s w es:=by
 induction h with
 |of h=>
  intro w w' i t es bg;have⟨c,l⟩:=h.run i _ (λj q _=>t j q) es bg (bh _);exact⟨⟨0,by rw[U5];exact c⟩,l⟩
 |@ao f sF Y B s s' k k' h _ N=>
  intro w w' i t es bg;have⟨c,l⟩:=h.run i _ (λj q _=>t j q) es bg (bh _);change (∃x,fU C R A f w w' bg (Result.LL x ((s.bind k).runT C.P w es).1) ((s'.bind k').runT C.b0 w' bg))/\hy C.P (s.bind k) w es;rw[hx,hx];cases bw:s.runT C.P w es with
  |mk r es1=>
  rw[bw]at c;cases r with
  |ok a w1=>
   obtain⟨g,a',w1',aH,ay,o,p,m⟩:=c;rw[ay];dsimp only;have⟨⟨x,O⟩,Q⟩:=N g a a' m.le o (w:=w1) (w':=w1') p (by
    have⟨n,G,H⟩:=m.drawn;intro j q;rw[m.tape,m.yX,G,H,oh,oh];exact t _ _) es1 (bg++aH.toArray)
   exact⟨⟨x,fU.step m O⟩,hy.ao bw l m.tape Q⟩
  |halt z w1=>
   dsimp only;have dead:eJ z->hy C.P (s.bind k) w es:=λhd=>hy.dead (h:=z) (w1:=w1) (es1:=es1) (by rw[hx,bw]) hd;cases z with
   |panic v=>
    obtain⟨g,v',w1',aH,ay,o,p,m⟩:=c;rw[ay];refine⟨⟨0,g,v',w1',aH,rfl,o,p,m⟩,?_⟩;intro r w2 u aF D J;rw[hx,bw]at aF;cases aF;have⟨S,T⟩:=l _ _ _ bw rfl (by intro z hd e;cases e;exact hd.panic _ rfl);cases D;exact⟨S,λaP d E=>by rw[hx,T aP d E]⟩
   |_=>exact⟨⟨0,c⟩,dead c⟩
 |@keep f q k k' J h=>
  intro w w' i t es bg;by_cases F:q.forced=true
  .have e:(Sem.choose q k).runT C.P w es=(k 0).runT C.P w es:=(by rw[Sem.runT,aV F]);have⟨c,l⟩:=(h 0).run i _ (λj q _=>t j q) es bg (bh _);exact⟨⟨0,by rw[U5,e];exact c⟩,.step (λaP d=>by rw[Sem.runT,aV F]) rfl rfl l⟩
  .have e:(Sem.choose q k).runT C.P w es=(k (q.cut (w.tape w.drawn q))).runT C.P {w with drawn:=w.drawn+1} es:=(by rw[Sem.runT,aC F]);have az:=(h (q.cut (w.tape w.drawn q))).run (R:=R) (w:={w with drawn:=w.drawn+1}) (w':=w') ⟨i.obj,i.ro,i.env,i.jX⟩ w'.drawn (λj q V=>U) es bg (by rw[J w' bg];exact bh _);obtain⟨c,l⟩:=az;refine⟨⟨1,?_⟩,?_⟩
   .rw[e];revert c;generalize((k (q.cut (w.tape w.drawn q))).runT C.P {w with drawn:=w.drawn+1} es).1=r;generalize k'.runT C.b0 w' bg=r';intro c;have K:∀{g w2 b aH},iq R f g {w with drawn:=w.drawn+1} w' w2 b aH->iq R f g w w' (a2 w2 w2.tape (w2.drawn - 1)) b aH:=λ{g w2 b aH}x=>by
     have⟨n,G,H⟩:=x.drawn;dsimp only at G;exact⟨x.le,x.old,x.size,x.yW,x.tape,x.yX,x.os,x.Gg,x.out,x.Gh,⟨n,by show w2.drawn - 1=w.drawn+n;omega,H⟩,x.kept,x.new,x.sD,x.aH,x.same,x.Lw⟩
    have wr:∀{g w2 b},bR C R g w2 b->bR C R g (a2 w2 w2.tape (w2.drawn - 1)) b:=λx=>⟨x.obj,x.ro,x.env,x.jX⟩;match r,c with
    |.ok a w2,⟨g,a',b,aH,e,o,o3,cD⟩=>exact⟨g,a',b,aH,e,o,wr o3,K cD⟩
    |.halt (.panic v) w2,⟨g,a',b,aH,e,o,o3,cD⟩=>exact⟨g,a',b,aH,e,o,wr o3,K cD⟩
    |.halt .blocked _,h| .halt .waiting _,h| .halt (.exit _) _,h| .halt (.fatal _) _,h| .halt (.throw _) _,h| .halt .goexit _,h| .halt (.unsupported _) _,h| .halt (.stuck _) _,h=>exact h
   .intro r w2 u aF D aa;rw[e]at aF;have⟨W,L⟩:=l r w2 u aF D aa;dsimp only at W L;refine⟨U,λaP d E=> ?_⟩;have y:=E 0 q U;simp only[oY]at y;have X:=L aP (d+1) λj q V=>by
     have:=E (1+j) q U;rw[show d+1+j=d+ (1+j) by omega,this,show w.drawn+1+j=w.drawn+ (1+j) by omega]
    rw[Sem.runT,aC F];show(k (q.cut (aP d q))).runT C.P (a2 w aP (d+1)) es=_
    rw[y,show a2 w aP (d+1)=a2 {w with drawn:=w.drawn+1} aP (d+1)from rfl,X];subst D;have M:d+1+ (r.world.drawn - (w.drawn+1))=d+ (r.world.drawn - w.drawn):=U;cases r<;> (dsimp only[Result.world]at M⊢;rw[M])
end Go.Ren
namespace Go.Ren
open Go
section
variable{C:bf}(O:C.Ok){f:Ren}
include O
def LM(C:bf)(g:Ren):Option (Nat×ai)->Option (Nat×ai)->Prop
 |none,none=>True
 |some (i,v),some (j,v')=>i=j/\aB C.fn g v v'
 |_,_=>False
def j0(C:bf)(g:Ren)(l fS:List MapEntry):Prop:=l.length=fS.length/\∀(i:Nat)e fg,l[i]? =some e->fS[i]? =some fg->oH C.fn g e fg
omit O in
theorem j0.cons{g:Ren}{e b:MapEntry}{l c:List MapEntry}(h:j0 C g (e::l) (b::c)):oH C.fn g e b/\j0 C g l c:=⟨h.2 0 e b rfl rfl,by have:=h.1;simpa using this,λi a a' d f=>h.2 (i+1) a a' (by simpa using d) (by simpa using f)⟩
omit O in
theorem j0.mono{g g':Ren}(k:bs g g'){l c:List MapEntry}(h:j0 C g l c):j0 C g' l c:=⟨h.1,λi e d a b=>(h.2 i e d a b).mono k⟩
omit O in
theorem fT.list{x ak:Array MapEntry}(h:fT C.fn f x ak):j0 C f x.toList ak.toList:=⟨by simpa using h.size,λi e c a b=>h.get i e c (by simpa using a) (by simpa using b)⟩
omit O in
theorem ahH(d:TypeDesc){x y:ai}(h:Gd x=true):Instr.sameNow d x y=none:=by cases x<;>first|(cases d<;>rfl)|cases h
omit O in
theorem ahI(d:TypeDesc){x y:ai}(h:Gd y=true):Instr.sameNow d x y=none:=by cases y<;>first|(cases d<;>cases x<;>rfl)|cases h
omit O in
theorem ahJ(d:TypeDesc){x ak y a:ai}(b:aB C.fn f x ak)(c:aB C.fn f y a):Instr.sameNow d x y=Instr.sameNow d ak a:=by
 have l:∀z,Instr.sameNow d (.tuple #[]) z=none:=λz=>(by cases d<;>rfl);have r:∀z,Instr.sameNow d z (.tuple #[])=none:=λz=>(by cases d<;>cases z<;>rfl);cases b with
 |de e=>rw[l,ahH d e]
 |_=>
  cases c with
  |de e=>rw[r,ahI d e]
  |_=>first|rfl|(cases d<;>rfl)
omit O in
theorem U7(d:TypeDesc){k k':ai}(hk:aB C.fn f k k'):∀(l a:List MapEntry)(i:Nat),j0 C f l a->(Instr.findNow d k l i=none/\Instr.findNow d k' a i=none)\/∃r r',Instr.findNow d k l i=some r/\Instr.findNow d k' a i=some r'/\LM C f r r'
 |[],[],i,_=>.inr ⟨none,none,rfl,rfl,trivial⟩
 |[],_::_,_,h=>by have:=h.1;simp at this
 |_::_,[],_,h=>by have:=h.1;simp at this
 |e::l,fg::a,i,h=>by
  have⟨c,g⟩:=h.cons;unfold Instr.findNow;rw[<-ahJ d hk c.key];cases Instr.sameNow d k e.key with
  |none=>exact .inl ⟨rfl,rfl⟩
  |some b=>
   cases b with
   |true=>exact .inr ⟨_,_,rfl,rfl,rfl,c.val⟩
   |false=>exact U7 d hk l a (i+1) g
theorem U8(G:b1 C f){n:Nat}{t:TypeId}{x ak y a:ai}(b:kC C.P n t=true)(c:aB C.fn f x ak)(d:aB C.fn f y a):aA C bB f (Op.equal t x y) (Op.equal t ak a):=ahF O _ n f G t _ _ _ _ b c d
theorem U9{n:Nat}{t:TypeId}(c:kC C.P n t=true):∀(l a:List MapEntry)(f:Ren)(_:b1 C f)(k k':ai)(i:Nat),aB C.fn f k k'->j0 C f l a->aA C (LM C) f (Instr.findAsking t k l i) (Instr.findAsking t k' a i)
 |[],[],f,_,k,k',i,_,_=>.ax trivial
 |[],_::_,_,_,_,_,_,_,h=>by have:=h.1;simp at this
 |_::_,[],_,_,_,_,_,_,h=>by have:=h.1;simp at this
 |e::l,fg::a,f,G,k,k',i,hk,h=>by
  have⟨d,j⟩:=h.cons;unfold Instr.findAsking;refine .ao (U8 O G c hk d.key) λg b m l e=> ?_;subst e;split
  .exact .ax ⟨rfl,d.val.mono l⟩
  .exact U9 c _ _ g (G.mono l) k k' (i+1) (hk.mono l) (j.mono l)
theorem LN(G:b1 C f){n:Nat}{t:TypeId}(j:kC C.P n t=true){k k':ai}(hk:aB C.fn f k k'){l b:List MapEntry}(h:j0 C f l b):aA C (LM C) f (Instr.findKey t k l) (Instr.findKey t k' b):=by
 unfold Instr.findKey;refine .ao (gj O t) λg d d' a e=> ?_;subst e;rcases U7 d (hk.mono a) l b 0 (h.mono a)with⟨c,i⟩|⟨r,r',c,i,m⟩
 .rw[c,i];exact U9 O j l b g (G.mono a) k k' 0 (hk.mono a) (h.mono a)
 .rw[c,i];exact .ax m
theorem LO(b:Bool)(d:Nat):∀(n:Nat)(f:Ren)(t:TypeId)(k k':ai),kC C.P n t=true->aB C.fn f k k'->aA C bB f (Instr.checkKey b d t k) (Instr.checkKey b d t k'):=by
 induction d with
 |zero=>intros;exact .b4
 |succ d x=>
  intro n f t k k' a hk;cases n with
  |zero=>cases a
  |succ n=>
  unfold Instr.checkKey;refine .ao (ir O t) λg z A l e=> ?_;obtain⟨rfl,e⟩:=e;unfold kC at a;rw[e]at a;have hk:=hk.mono l;cases z with
  |struct dk=>
   cases hk with
   |agg h j=>
    dsimp only at a⊢;refine .ao (LH dk _ _ _ _ λy o g' s c=> ?_) λg' s s' c e=>.ax rfl;split
    .rename_i p;have B:kC C.P n y.type=true:=by
      have:=uJ.1 a y o;simpa[p]using this
     refine .ao (oJ O _ (aZ.mono c ⟨h,j⟩) _) λq v v' l2 r=> ?_;refine .ao (x n q _ _ _ B r) λD u E F r'=>.ax rfl
    .exact .ax rfl
   |_=>exact .stuck
  |array w G=>
   cases hk with
   |agg h j=>
    dsimp only at a⊢;refine .ao (LI w _ _ _ _ λi g' s c=> ?_) λg' s s' c e=>.ax rfl;refine .ao (hU O G) λg1 m H l1 e=> ?_;subst e;refine .ao (oJ O _ (aZ.mono (c.trans l1) ⟨h,j⟩) _) λq v v' l2 r=> ?_;refine .ao (x n q _ _ _ a r) λD u E F r'=>.ax rfl
   |_=>exact .stuck
  |interface aa=>cases a
  |_=>cases hk<;>exact .ax rfl
omit O in
theorem tw{a b:dI}(h:(a==b)=true):a=b:=by
 obtain⟨x⟩:=a;obtain⟨y⟩:=b;have c:(x==y)=true:=h;rw[eq_of_beq c]
omit O in
theorem ahK(n:Nat):∀{x y:ai},Instr.sameBits n x y=true->x=y:=by
 induction n with
 |zero=>
  intro x y h;cases x<;>cases y<;>simp[Instr.sameBits]at h<;>first|rfl|(rw[tw h])|(subst h;rfl)|(obtain⟨d,c⟩:=h;subst d;subst c;rfl)|(obtain⟨⟨d,c⟩,e⟩:=h;subst d;subst c;subst e;rfl)
 |succ n i=>
  intro x y h;cases x with
  |iface t v=>cases y with
   |iface u w=>
    simp[Instr.sameBits]at h;rw[h.1,i h.2]
   |_=>simp[Instr.sameBits]at h
  |agg a=>cases y with
   |agg b=>
    unfold Instr.sameBits at h;simp only[cu,ho]at h;obtain⟨d,c⟩:=h;have f:∀(l m:bJ),l.length=m.length->((l.zip m).all λ(x,y)=>Instr.sameBits n x y)=true->l=m:=by
     intro l;induction l with
     |nil=>intro m h _;cases m with
      |nil=>rfl
      |cons _ _=>simp at h
     |cons a l g=>
      intro m d c;cases m with
      |nil=>simp at d
      |cons b m=>
       simp only[LP,Gs,cu]at c;rw[i c.1,g m (by simpa using d) c.2]
    have:=f a.toList b.toList (by simpa using d) c;rw[Array.toList_inj.1 this]
   |_=>simp[Instr.sameBits]at h
  |_=>cases y<;>simp[Instr.sameBits]at h<;>first|rfl|(rw[tw h])|(subst h;rfl)|(obtain⟨d,c⟩:=h;subst d;subst c;rfl)|(obtain⟨⟨d,c⟩,e⟩:=h;subst d;subst c;subst e;rfl)
omit O in
theorem ahL(n:Nat):∀{x ak y gh:ai},aB C.fn f x ak->aB C.fn f y gh->Instr.sameBits n x y=true->Instr.sameBits n ak gh=true:=by
 have ptr:∀{a a' b pt:Option Addr},aB C.fn f (.pointer a) (.pointer a')->aB C.fn f (.pointer b) (.pointer pt)->(a==b)=(a'==pt):=by
  intro a a' b pt h k;cases h with
  |ff=>cases k<;>rfl
  |ptr e=>
   cases k with
   |ff=>rfl
   |ptr fg=>
    have:=U0 (⟨_,e,rfl⟩:cp f _ _) (⟨_,fg,rfl⟩:cp f _ _);simpa using this
 have chn:∀{a a' b pt:Option Nat},aB C.fn f (.chan a) (.chan a')->aB C.fn f (.chan b) (.chan pt)->(a==b)=(a'==pt):=by
  intro a a' b pt h k;cases h with
  |yT=>cases k<;>rfl
  |@chan a a' e=>
   cases k with
   |yT=>rfl
   |@chan b pt fg=>
    apply sG.2;simp only[ho,fK];constructor
    .intro h;subst h;rw[e]at fg;exact kz fg
    .intro h;subst h;exact f.inj _ _ _ e fg
 have base0:∀(n:Nat){x ak y gh:ai},aB C.fn f x ak->aB C.fn f y gh->(∀t v,x≠.iface t v)->(∀a,x≠.agg a)->Instr.sameBits n x y=Instr.sameBits n ak gh\/Instr.sameBits n x y=false:=by
  intro n x ak y gh cD dP bD cb;cases cD<;>first|exact absurd rfl (bD _ _)|exact absurd rfl (cb _)|skip;all_goals cases dP<;>first
   |(cases n<;>exact .inr rfl)
   |(cases n<;>exact .inl rfl)
   |(cases n<;>exact .inl (ptr (by constructor<;>assumption) (by constructor<;>assumption)))
   |(cases n<;>exact .inl (chn (by constructor<;>assumption) (by constructor<;>assumption)))
 have base:∀(n:Nat){x ak y gh:ai},aB C.fn f x ak->aB C.fn f y gh->(∀t v,x≠.iface t v)->(∀a,x≠.agg a)->Instr.sameBits n x y=true->Instr.sameBits n ak gh=true:=by
  intro n x ak y gh cD dP bD cb h;rcases base0 n cD dP bD cb with e|e
  .rw[<-e];exact h
  .rw[h]at e;cases e
 induction n with
 |zero=>
  intro x ak y gh cD dP h;by_cases q:(∃t v,x=.iface t v)\/∃a,x=.agg a
  .rcases q with⟨t,v,rfl⟩|⟨a,rfl⟩<;> (cases y<;>simp[Instr.sameBits]at h)
  .simp only[not_or,not_exists]at q;exact base 0 cD dP q.1 q.2 h
 |succ n iA=>
  intro x ak y gh cD dP h;cases cD with
  |iface t r=>
   cases dP with
   |iface j9 r'=>
    unfold Instr.sameBits at h⊢;simp only[cu]at h⊢;exact⟨h.1,iA r r' h.2⟩
   |_=>simp[Instr.sameBits,Ce]at h
  |agg s q=>
   cases dP with
   |agg s' a8=>
    unfold Instr.sameBits at h⊢;simp only[cu,ho]at h⊢;refine⟨U,?_⟩;have key:∀(l fS m yV:bJ),l.length=fS.length->m.length=yV.length->(∀(i:Nat)v v',l[i]? =some v->fS[i]? =some v'->aB C.fn f v v')->(∀(i:Nat)v v',m[i]? =some v->yV[i]? =some v'->aB C.fn f v v')->((l.zip m).all λ(x,y)=>Instr.sameBits n x y)=true->((fS.zip yV).all λ(x,y)=>Instr.sameBits n x y)=true:=by
     intro l;induction l with
     |nil=>intro fS m yV bD _ _ _ _;cases fS with
      |nil=>rfl
      |cons _ _=>simp at bD
     |cons a l ihl=>
      intro fS m yV bD cb b7 dC dB;cases fS with
      |nil=>simp at bD
      |cons a' fS=>
       cases m with
       |nil=>cases yV with
        |nil=>rfl
        |cons _ _=>simp at cb
       |cons b m=>cases yV with
        |nil=>simp at cb
        |cons pt yV=>
         simp only[LP,Gs,cu]at dB⊢;exact⟨iA (b7 0 a a' rfl rfl) (dC 0 b pt rfl rfl) dB.1,ihl fS m yV (by simpa using bD) (by simpa using cb) (λi v v' p q=>b7 (i+1) v v' (by simpa using p) (by simpa using q)) (λi v v' p q=>dC (i+1) v v' (by simpa using p) (by simpa using q)) dB.2⟩
    exact key _ _ _ _ (by simpa using s) (by simpa using s') (λi v v' p r=>q i v v' (by simpa using p) (by simpa using r)) (λi v v' p r=>a8 i v v' (by simpa using p) (by simpa using r)) h.2
   |_=>simp[Instr.sameBits,Ce]at h
  |de e=>simp[Instr.sameBits]at h
  |qf=>exact base (n+1) .qf dP (by simp[Ce]) (by simp[Ce]) h
  |_=>exact base (n+1) (by constructor<;>assumption) dP ag ag h
theorem Va{α β:Type}{A:Ren->α->β->Prop}{x ak y a:ai}(h:aB C.fn f x ak)(d:aB C.fn f y a){K:ai->Sem α}{b:ai->Sem β}(c:∀u g,aB C.fn f u g->aA C A f (K u) (b g))(i:∀g,Cr C.b0 (b g)): gB C A f (Instr.keyThatStays x y>>=K) (Instr.keyThatStays ak a>>=b):=by
 unfold Instr.keyThatStays;cases hs:Instr.sameBits 10000 x y with
 |true=>
  rw[ahL 10000 h d hs];exact .of (c y a d)
 |false=>
  cases hC:Instr.sameBits 10000 ak a with
  |true=>
   have e:=ahK 10000 hC;subst e;refine gB.keep (q:=.extern "map.whichKeyStays" 2) (k:=λn=>K (if n=0 then y else x)) (k':=b ak) (i _) λn=> ?_;split
   .exact c _ _ d
   .exact c _ _ h
  |false=>
   refine .of (aA.choose (.extern "map.whichKeyStays" 2) (k:=λn=>K (if n=0 then y else x)) (k':=λn=>b (if n=0 then a else ak)) λn=> ?_);split
   .exact c _ _ d
   .exact c _ _ h
def uN(P:bF)(t:TypeId):Bool:=match P.underlying t with
 |some (.map k e)=>kC P 10 k && pn P e
 |_=>true
omit O in
theorem LQ{t k e:TypeId}(h:uN C.P t=true)(u:C.P.underlying t=some (.map k e)):kC C.P 10 k=true/\pn C.P e=true:=by
 unfold uN at h;rw[u]at h;simpa using h
omit O in
theorem Vb{P:bF}{r:Nat}{o:Obj}:Cr P (setObj r o):=by
 intro w es;unfold setObj;simp only[Sem.runT];repeat' split
 all_goals rfl
omit O in
theorem ahM{P:bF}{α β:Type}{s:Sem α}(h:Cr P s)(v:β):Cr P (s>>=λ_=>pure v):=by
 intro w es;show((s.bind _).runT P w es).1.world.drawn=w.drawn
 rw[hx];have:=h w es;generalize s.runT P w es=r at this;obtain⟨r,bg⟩:=r;cases r<;>exact this
theorem ahN(G:b1 C f){t:TypeId}(D:uN C.P t=true){x ak y u:ai}(z:aB C.fn f x ak)(w:aB C.fn f y u)(m:Bool):aA C (bk C) f (Instr.lookup t x y m) (Instr.lookup t ak u m):=by
 unfold Instr.lookup;refine .ao (ir O t) λg d d' l e=> ?_;obtain⟨rfl,e⟩:=e;have z:=z.mono l;have w:=w.mono l;have E:=G.mono l;cases d with
 |map a c=>
  have⟨hk,A⟩:=LQ D e;dsimp only;have n:∀(g1:Ren)(_:bs g g1)(es bg:Array MapEntry),fT C.fn g1 es bg->aA C (bk C) g1 (do
    Instr.checkKey es.isEmpty 10000 a y
    let(v,LR)<-match<-Instr.findKey a y es.toList with
     |some (_,v)=>pure (v,true)
     |none=>pure (<-zeroValue c,false)
    pure (if m then .tuple #[v,.bool LR]else v)) (do
    Instr.checkKey bg.isEmpty 10000 a u
    let(v,LR)<-match<-Instr.findKey a u bg.toList with
     |some (_,v)=>pure (v,true)
     |none=>pure (<-zeroValue c,false)
    pure (if m then .tuple #[v,.bool LR]else v)):=by
   intro g1 l1 es bg r;have F:bg.isEmpty=es.isEmpty:=(by simp[Array.isEmpty,r.size]);rw[F];refine .ao (LO O _ _ 10 g1 _ _ _ hk (w.mono l1)) λL _ _ l2 _=> ?_;refine .ao (LN O (E.mono (l1.trans l2)) hk (w.mono (l1.trans l2)) (j0.mono l2 r.list)) λH q a8 M B=> ?_;have j:∀(s:Ren)(v v':ai)(b:Bool),aB C.fn s v v'->aA C (bk C) s (pure (if m then .tuple #[v,.bool b]else v)) (pure (if m then .tuple #[v',.bool b]else v')):=by
    intro s v v' b h;cases m with
    |true=>exact .ax (.oG (.two h (.bool _)))
    |false=>exact .ax h
   cases q with
   |none=>
    cases a8 with
    |none=>exact .ao (uK O A) λs v v' N e=>by obtain⟨rfl,aa⟩:=e;exact j s v v false (.flat aa)
    |some _=>exact B.elim
   |some p=>
    cases a8 with
    |none=>exact B.elim
    |some J=>exact j H p.2 J.2 true B.2
  cases z with
  |wH=>exact n g (bs.refl _) #[] #[] ⟨rfl,λi v v' h=>by simp at h⟩
  |map K=>
   refine .ao (mA O K) λg1 o Q l1 r=> ?_;cases r with
   |map k r=>exact n g1 l1 _ _ r
   |_=>exact .stuck
  |_=>exact .stuck
 |_=>exact .stuck
omit O in
theorem fT.modify{x ak:Array MapEntry}(r:fT C.fn f x ak)(i:Nat)(F F':MapEntry->MapEntry)(h:∀e g,oH C.fn f e g->oH C.fn f (F e) (F' g)):fT C.fn f (x.modify i F) (ak.modify i F'):=by
 refine⟨by simp[r.size],λj a a' c b=> ?_⟩;rw[fA]at c b;split at c
 .rename_i e;rw[aV e]at b;obtain⟨u,k,rfl⟩:=rr.1 c;obtain⟨l,d,rfl⟩:=rr.1 b;exact h _ _ (r.get j _ _ k d)
 .rename_i e;rw[aC e]at b;exact r.get j _ _ c b
omit O in
theorem fT.push{x ak:Array MapEntry}(r:fT C.fn f x ak){e d:MapEntry}(h:oH C.fn f e d):fT C.fn f (x.push e) (ak.push d):=by
 refine⟨by simp[r.size],λi a a' b c=> ?_⟩;rw[oE]at b c;rw[r.size]at b;split at b
 .rename_i q;rw[aV q]at c;cases b;cases c;exact h
 .rename_i q;rw[aC q]at c;exact r.get i _ _ b c
omit O in
theorem fT.key{x ak:Array MapEntry}(r:fT C.fn f x ak)(i:Nat){k k':ai}(h:aB C.fn f k k'):aB C.fn f (((x[i]?).map (·.key)).getD k) (((ak[i]?).map (·.key)).getD k'):=by
 cases e:x[i]? with
 |none=>
  have:ak[i]? =none:=(by simp only[Ge]at e⊢;have:=r.size;omega);rw[this];exact h
 |some v=>
  have af:i<ak.size:=(by have:=(bQ.1 e).1;have:=r.size;omega);rw[dq af];exact(r.get i _ _ e (dq af)).key
omit O in
theorem fT.born{x ak:Array MapEntry}(r:fT C.fn f x ak)(i:Nat):((x[i]?).map (λe=>(e.born:Int))).getD 0=((ak[i]?).map (λe=>(e.born:Int))).getD 0:=by
 cases e:x[i]? with
 |none=>
  have:ak[i]? =none:=(by simp only[Ge]at e⊢;have:=r.size;omega);rw[this]
 |some v=>
  have af:i<ak.size:=(by have:=(bQ.1 e).1;have:=r.size;omega);rw[dq af];exact hq Int.ofNat (r.get i _ _ e (dq af)).born
theorem Vd(G:b1 C f){t:TypeId}(aa:uN C.P t=true){x ak y A z B:ai}(m:aB C.fn f x ak)(c:aB C.fn f y A)(n:aB C.fn f z B):gB C bB f (Instr.mapUpdate t x y z) (Instr.mapUpdate t ak A B):=by
 unfold Instr.mapUpdate;refine gB.ao (ir O t) λg d d' l e=> ?_;obtain⟨rfl,e⟩:=e;have m:=m.mono l;have c:=c.mono l;have n:=n.mono l;have D:=G.mono l;cases d with
 |map key E=>
  have⟨hk,J⟩:=LQ aa e;dsimp only;cases m with
  |wH=>exact .of (gl O D _)
  |map F=>
   refine gB.ao (mA O F) λg1 o N l1 r=> ?_;cases r with
   |map k r=>
    dsimp only;refine gB.ao (LO O _ _ 10 g1 _ _ _ hk (c.mono l1)) λQ _ _ l2 _=> ?_;refine gB.ao (LN O (D.mono (l1.trans l2)) hk (c.mono (l1.trans l2)) (j0.mono l2 r.list)) λR q a8 j s=> ?_;have w:=r.mono (l2.trans j);have b:=c.mono (l1.trans (l2.trans j));have h:=n.mono (l1.trans (l2.trans j));have H:=(l1.trans (l2.trans j)) _ _ F;cases q with
    |none=>
     cases a8 with
     |none=>exact .of (qi O H (.map _ (w.push ⟨b,h,rfl⟩)))
     |some _=>exact s.elim
    |some p=>
     cases a8 with
     |none=>exact s.elim
     |some K=>
      obtain⟨i,v⟩:=p;obtain⟨S,v'⟩:=K;obtain⟨rfl,_⟩:=s;exact Va O (w.key i b) b (λu T L=>qi O H (.map _ (w.modify i _ _ λa a' M=>⟨L,h,M.born⟩))) λ_=>Vb
   |_=>exact .of .stuck
  |_=>exact .of .stuck
 |_=>exact .of .stuck
theorem ahO(G:b1 C f){t:TypeId}(J:uN C.P t=true){x ak y z:ai}(j:aB C.fn f x ak)(c:aB C.fn f y z):gB C (bk C) f (Instr.mapEntry t x y) (Instr.mapEntry t ak z):=by
 unfold Instr.mapEntry;refine gB.ao (ir O t) λg d d' l e=> ?_;obtain⟨rfl,e⟩:=e;have j:=j.mono l;have c:=c.mono l;have A:=G.mono l;cases d with
 |map key B=>
  have⟨hk,m⟩:=LQ J e;dsimp only;cases j with
  |wH=>exact .of (gl O A _)
  |map D=>
   refine gB.ao (mA O D) λg1 o R l1 r=> ?_;cases r with
   |map k r=>
    dsimp only;refine gB.ao (LO O _ _ 10 g1 _ _ _ hk (c.mono l1)) λS _ _ l2 _=> ?_;refine gB.ao (LN O (A.mono (l1.trans l2)) hk (c.mono (l1.trans l2)) (j0.mono l2 r.list)) λT q a8 n s=> ?_;have h:=r.mono (l2.trans n);have b:=c.mono (l1.trans (l2.trans n));have E:=(l1.trans (l2.trans n)) _ _ D;cases q with
    |none=>
     cases a8 with
     |none=>
      refine gB.of (.ao (uK O m) λaz u K w e=> ?_);obtain⟨rfl,F⟩:=e;refine .ao (qi O (w _ _ E) (.map _ ((h.mono w).push ⟨b.mono w,.flat F,rfl⟩))) λL _ _ H _=> ?_;exact .ax (.oG (.two (.flat F) (.int _ _)))
     |some _=>exact s.elim
    |some p=>
     cases a8 with
     |none=>exact s.elim
     |some M=>
      obtain⟨i,v⟩:=p;obtain⟨V,v'⟩:=M;obtain⟨rfl,N⟩:=s;refine Va O (h.key i b) b (λu K Q=>.ao (qi O E (.map _ (h.modify i _ _ λa a' aa=>⟨Q,aa.val,aa.born⟩))) λL _ _ H _=> ?_) λ_=>ahM Vb _;have:=h.born i;rw[this];exact .ax (.oG (.two (N.mono H) (.int _ _)))
   |_=>exact .of .stuck
  |_=>exact .of .stuck
 |_=>exact .of .stuck
omit O in
theorem fT.findIdx{x ak:Array MapEntry}(r:fT C.fn f x ak)(p:Nat->Bool):x.findIdx? (λe=>p e.born)=ak.findIdx? (λe=>p e.born):=by
 have:∀(l b:List MapEntry),j0 C f l b->l.findIdx? (λe=>p e.born)=b.findIdx? (λe=>p e.born):=by
  intro l;induction l with
  |nil=>intro b h;cases b with
   |nil=>rfl
   |cons _ _=>have:=h.1;simp at this
  |cons a l c=>intro b h;cases b with
   |nil=>have:=h.1;simp at this
   |cons a' b=>
    have⟨d,g⟩:=h.cons;simp only[List.findIdx?_cons,d.born,c b g]
 have:=this _ _ r.list;rw[<-List.findIdx?_toArray,<-List.findIdx?_toArray]at this;simpa using this
theorem ahP(t:TypeId){x ak y c z d:ai}(i:aB C.fn f x ak)(j:aB C.fn f y c)(l:aB C.fn f z d):aA C bB f (Instr.entryStore t x y z) (Instr.entryStore t ak c d):=by
 unfold Instr.entryStore;cases i with
 |map g=>
  refine .ao (mA O g) λg1 o m l1 r=> ?_;cases r with
  |map k r=>
   refine .ao (Cl O (j.mono l1)) λp n q l2 e=> ?_;subst e;rw[<-(r.findIdx λb=>(b:Int)==n)];split
   .exact qi O ((l1.trans l2) _ _ g) (.map _ ((r.mono l2).modify _ _ _ λa a' h=>⟨h.key,l.mono (l1.trans l2),h.born⟩))
   .exact .b4
  |_=>exact .stuck
 |_=>exact .stuck
end
end Go.Ren
namespace Go.Ren
open Go
section
variable{C:bf}(O:C.Ok){f:Ren}
include O
theorem Ve(op:BinOp)(k:IntKind)(x y:Int):aA C (bk C) f (Op.intArith op k x y) (Op.intArith op k x y):=by cases op<;>first|exact .ax (.int _ _)|exact .stuck
theorem Vf(op:BinOp)(k:IntKind)(x y:Int):aA C (bk C) f (Op.intBits op k x y) (Op.intBits op k x y):=by cases op<;>first|exact .ax (.int _ _)|exact .stuck
theorem ahQ(op:BinOp)(x y:Int):aA C (bk C) f (Op.intCmp op x y) (Op.intCmp op x y):=by cases op<;>first|exact .ax (.bool _)|exact .stuck
theorem ahR(G:b1 C f)(op:BinOp)(k:IntKind)(x y:Int):aA C (bk C) f (Op.intDiv op k x y) (Op.intDiv op k x y):=by
 unfold Op.intDiv;split
 .exact gl O G _
 .cases op<;>first|exact .ax (.int _ _)|exact .stuck
theorem Vg(G:b1 C f)(op:BinOp)(k:IntKind)(x:Int)(a:IntKind)(y:Int):aA C (bk C) f (Op.shift op k x a y) (Op.shift op k x a y):=by
 unfold Op.shift;split
 .exact gl O G _
 .cases op<;>first|exact .ax (.int _ _)|exact .stuck
theorem Vh(op:BinOp)(x y:dI):aA C (bk C) f (Op.stringOp op x y) (Op.stringOp op x y):=by
 unfold Op.stringOp;try dsimp only
 cases op<;>first|exact .ax (.bool _)|exact .stuck|skip;try dsimp only
 split
 .exact .b4
 .exact .ax (.string _)
def isPtr(P:bF)(t:TypeId):Bool:=match P.underlying t with
 |some (.pointer _)=>true
 |_=>false
def wO(C:bf)(t:TypeId):Bool:=kC C.P 10 t||((!C.ro && C.gi) && isPtr C.P t)
def Cs(C:bf)(op:BinOp)(t:TypeId)(y:Operand):Bool:=match op with
 |.eql| .neq=>wO C t||(match y with| .const v=>Gq v|_=>false)
 |_=>true
theorem ahS(d:Nat):∀(n:Nat)(f:Ren)(t:TypeId)(x ak y j:ai),kC C.P n t=true->aB C.fn f x ak->aB C.fn f y j->aA C bB f (Op.eqGuardIn d t x y) (Op.eqGuardIn d t ak j):=by
 induction d with
 |zero=>intros;exact .b4
 |succ d F=>
  intro n f t x ak y j c k a;cases n with
  |zero=>cases c
  |succ n=>
  unfold Op.eqGuardIn;refine .ao (ir O t) λg H aa l e=> ?_;obtain⟨rfl,e⟩:=e;unfold kC at c;rw[e]at c;have k:=k.mono l;have a:=a.mono l;cases H with
  |struct dk=>
   cases k with
   |agg o p=>
    cases a with
    |agg q w=>
     dsimp only at c⊢;refine .ao (LH dk _ _ _ _ λG z g' s h=> ?_) λg' s s' h e=>by
      subst e;obtain⟨s,_⟩:=s;cases s<;>exact .ax rfl
     split
     .rename_i A;have J:kC C.P n G.type=true:=by
       have:=uJ.1 c G z;simpa[A]using this
      refine .ao (oJ O _ (aZ.mono h ⟨o,p⟩) _) λK v v' l2 r=> ?_;refine .ao (oJ O _ (aZ.mono (h.trans l2) ⟨q,w⟩) _) λB u L D r'=> ?_;refine .ao (F n B _ _ _ _ _ J (r.mono D) r') λM b N Q e=> ?_;subst e;split<;>exact .ax rfl
     .exact .ax rfl
    |de e=>cases j<;>first|(cases e;done)|exact .ax rfl
    |_=>exact .ax rfl
   |de e=>cases ak<;>first|(cases e;done)|(cases a<;>exact .ax rfl)
   |_=>cases a<;>exact .ax rfl
  |array E R=>
   cases k with
   |agg o p=>
    cases a with
    |agg q w=>
     dsimp only at c⊢;refine .ao (hU O R) λg1 m S l1 e=> ?_;subst e;refine .ao (LI E _ _ _ _ λi g' s h=> ?_) λg' s s' h e=>by
      subst e;obtain⟨s,_⟩:=s;cases s<;>exact .ax rfl
     refine .ao (oJ O _ (aZ.mono (l1.trans h) ⟨o,p⟩) _) λK v v' l2 r=> ?_;refine .ao (oJ O _ (aZ.mono (l1.trans (h.trans l2)) ⟨q,w⟩) _) λB u L D r'=> ?_;refine .ao (F n B _ _ _ _ _ c (r.mono D) r') λM b N Q e=> ?_;subst e;split<;>exact .ax rfl
    |de e=>cases j<;>first|(cases e;done)|exact .ax rfl
    |_=>exact .ax rfl
   |de e=>cases ak<;>first|(cases e;done)|(cases a<;>exact .ax rfl)
   |_=>cases a<;>exact .ax rfl
  |interface _=>cases c
  |_=>cases k<;>cases a<;>exact .ax rfl
theorem Gt{t:TypeId}{x ak y b:ai}(h:wO C t=true)(c:aB C.fn f x ak)(d:aB C.fn f y b):aA C bB f (Op.eqGuardIn Op.maxDepth t x y) (Op.eqGuardIn Op.maxDepth t ak b):=by
 unfold wO at h;rw[oX]at h;rcases h with h|h
 .exact ahS O _ 10 f t _ _ _ _ h c d
 .rw[cu]at h;have a:=h.2;unfold isPtr at a;unfold Op.maxDepth Op.eqGuardIn;refine .ao (ir O t) λg i j l e=> ?_;obtain⟨rfl,e⟩:=e;rw[e]at a;cases i<;>first|(cases a;done)|exact .ax rfl
omit O in
theorem addr_eq{a b:Addr}{p q:Nat}(d:f a.block=some p)(c:f b.block=some q):(({a with block:=p}:Addr)=={b with block:=q})=(a==b):=by
 have:(({a with block:=p}:Addr)={b with block:=q})↔a=b:=by
  obtain⟨e,g,as⟩:=a;obtain⟨bL,a9,bx⟩:=b;simp only[qZ]at *;constructor
  .rintro⟨rfl,r⟩;exact⟨f.inj _ _ _ d c,r⟩
  .rintro⟨rfl,r⟩;rw[d]at c;cases c;exact⟨rfl,r⟩
 rw[sG,ho,ho,this]
omit O in
theorem Vi(b:C.ro=false/\C.gi=true){a:Addr}{p:Nat}(h:f a.block=some p):aA C bB f (stringish a) (stringish {a with block:=p}):=by
 unfold stringish;refine .ao (A:=bB) (.frozen b h λx=>.pure rfl) λg x ak l e=> ?_;subst e;split
 .exact .ax rfl
 .refine .ao (A:=bB) (.shape (l _ _ h) λx=>.pure rfl) λc y d l2 e=> ?_;subst e;cases y with
  |none=>exact .ax rfl
  |some y=>obtain⟨_,n⟩:=y;exact .frozen (a:={block:=a.block,off:=n}) b (l2 _ _ (l _ _ h)) λx=>.pure rfl
omit O in
theorem ahT(c:C.ro=false/\C.gi=true){a b:Addr}{p q:Nat}(d:f a.block=some p)(h:f b.block=some q):aA C bB f (mayBeOne a b) (mayBeOne {a with block:=p} {b with block:=q}):=by
 unfold mayBeOne;refine .ao (Vi c d) λg x ak l e=> ?_;subst e;refine .ao (Vi c (l _ _ h)) λj y k l2 e=> ?_;subst e;refine .ao (A:=bB) (.shape (l2 _ _ (l _ _ d)) λx=>.pure rfl) λm z n i e=> ?_;subst e;refine .ao (A:=bB) (.shape (i _ _ (l2 _ _ (l _ _ h))) λx=>.pure rfl) λo u r s e=> ?_;subst e;exact .ax rfl
theorem ahU(c:C.ro=false/\C.gi=true){a b:Addr}{p q:Nat}(d:f a.block=some p)(h:f b.block=some q):aA C bB f (sameAddr a b) (sameAddr {a with block:=p} {b with block:=q}):=by
 unfold sameAddr;have j:(p==q)=(a.block==b.block):=by
  rw[sG,ho,ho];constructor
  .rintro rfl;exact f.inj _ _ _ d h
  .intro e;rw[e,h]at d;cases d;rfl
 dsimp only;rw[j];split
 .rw[addr_eq d h];exact .ax rfl
 .refine .ao (A:=bB) (.frozen c d λx=>.pure rfl) λg x ak l e=> ?_;subst e;refine .ao (A:=bB) (.frozen c (l _ _ h) λx=>.pure rfl) λg1 z k l1 e=> ?_;subst e;split
  .exact .b4
  .refine .ao (LK O ⟨_,l1 _ _ (l _ _ d),rfl⟩) λm _ _ l2 _=> ?_;refine .ao (LK O ⟨_,l2 _ _ (l1 _ _ (l _ _ h)),rfl⟩) λo _ _ i _=> ?_;refine .ao (ahT c (i _ _ (l2 _ _ (l1 _ _ (l _ _ d)))) (i _ _ (l2 _ _ (l1 _ _ (l _ _ h))))) λr y s t e=> ?_;subst e;split
   .exact .choose _ λn=>.pure rfl
   .exact .ax rfl
theorem ahV(G:b1 C f){t:TypeId}{x ak y b:ai}(h:wO C t=true)(c:aB C.fn f x ak)(a:aB C.fn f y b):aA C bB f (Op.equal t x y) (Op.equal t ak b):=by
 unfold wO at h;rw[oX]at h;rcases h with h|h
 .exact U8 O G h c a
 .rw[cu]at h;have d:=h.2;have i:C.ro=false/\C.gi=true:=(by simpa using h.1);unfold isPtr at d;unfold Op.equal Op.maxDepth Op.equalIn;refine .ao (ir O t) λg j k l e=> ?_;obtain⟨rfl,e⟩:=e;rw[e]at d;cases j with
  |pointer o=>
   have c:=c.mono l;have a:=a.mono l;cases c with
   |ff=>
    cases a with
    |de e=>cases b<;>first|(cases e;done)|exact .stuck
    |_=>first|exact .ax rfl|exact .stuck
   |ptr ay=>
    cases a with
    |ptr aF=>
     dsimp only;refine .ao (hU O o) λp m q l2 e=> ?_;subst e;split
     .exact ahU O i (l2 _ _ ay) (l2 _ _ aF)
     .rw[addr_eq ay aF];split
      .exact .ax rfl
      .exact .choose _ λn=>.pure rfl
    |de e=>cases b<;>first|(cases e;done)|exact .stuck
    |_=>first|exact .ax rfl|exact .stuck
   |de e=>cases ak<;>first|(cases e;done)|(cases a<;>exact .stuck)
   |_=>cases a<;>exact .stuck
  |_=>cases d
theorem ahW{op:BinOp}{t:TypeId}(x y:Operand)(h:Cs C op t y=true){a a' b d:ai}(r:aB C.fn f a a')(i:aB C.fn f b d)(s:∀v,y=.const v->b=v):aA C bB f (eqGuard op t x y a b) (eqGuard op t x y a' d):=by
 have c:(op=.eql\/op=.neq)->wO C t=true\/∃v,y=.const v/\Gq v=true:=by
  intro ap;unfold Cs at h;rcases ap with rfl|rfl;all_goals
   simp only[oX]at h;refine h.imp id λq=> ?_;split at q
   .exact⟨_,rfl,q⟩
   .cases q
 cases op;case eql=>
  replace c:=c (.inl rfl);unfold eqGuard;simp only[y2,ea,cY];cases r with
  |gN=>
   cases i with
   |gN=>
    rcases c with j|⟨v,rfl,_⟩
    .try dsimp only
     repeat' split
     all_goals first
      |exact .ax rfl
      |(refine .ao (Gt O j .gN .gN) λg b d l e=> ?_
        subst e;split
        .exact .b4
        .exact .ax rfl)
    .try dsimp only
     rw[Bool.or_true];exact .ax rfl
   |de e=>cases d<;>first|(cases e;done)|exact .ax rfl
   |_=>exact .ax rfl
  |agg k m=>
   cases i with
   |agg n o=>
    try dsimp only
    refine .prog ?_;refine .prog ?_;rw[O.guard,y1 O];split
    .exact .ax rfl
    .rcases c with j|⟨v,rfl,p⟩
     .refine .ao (Gt O j (.agg k m) (.agg n o)) λg b d l e=> ?_;subst e;split
      .exact .b4
      .exact .ax rfl
     .have:=s v rfl;subst this;cases p
   |de e=>cases d<;>first|(cases e;done)|exact .ax rfl
   |_=>exact .ax rfl
  |de e=>cases a'<;>first|(cases e;done)|(cases i<;>exact .ax rfl)
  |_=>cases i<;>exact .ax rfl
 case neq=>
  replace c:=c (.inr rfl);unfold eqGuard;simp only[y2,ea,cY];cases r with
  |gN=>
   cases i with
   |gN=>
    rcases c with j|⟨v,rfl,_⟩
    .try dsimp only
     repeat' split
     all_goals first
      |exact .ax rfl
      |(refine .ao (Gt O j .gN .gN) λg b d l e=> ?_
        subst e;split
        .exact .b4
        .exact .ax rfl)
    .try dsimp only
     rw[Bool.or_true];exact .ax rfl
   |de e=>cases d<;>first|(cases e;done)|exact .ax rfl
   |_=>exact .ax rfl
  |agg k m=>
   cases i with
   |agg n o=>
    try dsimp only
    refine .prog ?_;refine .prog ?_;rw[O.guard,y1 O];split
    .exact .ax rfl
    .rcases c with j|⟨v,rfl,p⟩
     .refine .ao (Gt O j (.agg k m) (.agg n o)) λg b d l e=> ?_;subst e;split
      .exact .b4
      .exact .ax rfl
     .have:=s v rfl;subst this;cases p
   |de e=>cases d<;>first|(cases e;done)|exact .ax rfl
   |_=>exact .ax rfl
  |de e=>cases a'<;>first|(cases e;done)|(cases i<;>exact .ax rfl)
  |_=>cases i<;>exact .ax rfl
 all_goals exact .ax rfl
theorem ahX(G:b1 C f){t:TypeId}(y:Operand)(h:wO C t=true\/∃v,y=.const v/\Gq v=true){a a' b c:ai}(d:aB C.fn f a a')(e:aB C.fn f b c)(g:∀v,y=.const v->b=v/\c=v):aA C bB f (Op.equal t a b) (Op.equal t a' c):=by
 rcases h with h|⟨v,rfl,i⟩
 .exact ahV O G h d e
 .obtain⟨rfl,rfl⟩:=g v rfl;exact ahG O _ t i d
end
end Go.Ren
namespace Go.Ren
open Go
section
variable{C:bf}(O:C.Ok){f:Ren}
include O
def _root_.Go.Ren.Vj(C:bf)(g:Ren)(u uE:ai):Prop:=∃a a',u=.pointer (some a)/\uE=.pointer (some a')/\cp g a a'
theorem Vk(t:TypeId){v v' x ak:ai}(bP:aB C.fn f v v')(cD:aB C.fn f x ak):aA C (Vj C) f (Builtin.unsafeAdd_ #[] t #[v,x]) (Builtin.unsafeAdd_ #[] t #[v',ak]):=by
 unfold Builtin.unsafeAdd_;cases bP with
 |ff=>
  refine .ao (Cl O cD) λg n Cf l e=> ?_;subst e;dsimp only;split
  .exact .b4
  .split
   .exact .b4
   .exact .b4
 |@ptr a b e=>
  refine .ao (Cl O cD) λg n Cf l fg=> ?_;subst fg;dsimp only;have ay:=l _ _ e;have fin:∀g1,bs g g1->aA C (Vj C) g1 (do
    let some (e,cells)<-shape a.block|unsupported (.unsafePointer "Add")
    let p<-program
    match cellAtBytes p p.depth e (cells / p.cellsOf e) a.off n with
    |some off=>pure (.pointer (some {a with off}))
    |none=>unsupported (.unsafePointer "Add")) (do
    let some (e,cells)<-shape b|unsupported (.unsafePointer "Add")
    let p<-program
    match cellAtBytes p p.depth e (cells / p.cellsOf e) a.off n with
    |some off=>pure (.pointer (some {block:=b,off,spot:=a.spot}))
    |none=>unsupported (.unsafePointer "Add")):=by
   intro g1 l1;refine .ao (A:=bB) (.shape (l1 _ _ ay) λx=>.pure rfl) λfC x ak l2 fg=> ?_;subst fg;cases x with
   |none=>exact .b4
   |some p=>
    obtain⟨t,m⟩:=p;dsimp only;refine .prog ?_;rw[U3 O,y1 O,O.at_];split
    .exact .ax ⟨_,_,rfl,rfl,_,(l1.trans l2) _ _ ay,rfl⟩
    .exact .b4
  split
  .refine .ao (U1 O ay) λg1 x ak l1 fg=> ?_;obtain⟨rfl,rfl⟩:=fg;exact .ax ⟨_,_,rfl,rfl,_,l1 _ _ ay,rfl⟩
  .split
   .exact .b4
   .exact fin g (bs.refl _)
 |_=>exact .stuck
theorem iR(t:TypeId){v v' x ak:ai}(b:aB C.fn f v v')(c:aB C.fn f x ak):aA C (bk C) f (Builtin.unsafeAdd_ #[] t #[v,x]) (Builtin.unsafeAdd_ #[] t #[v',ak]):=(Vk O t b c).mono λg u i _ ⟨a,a',d,e,h⟩=>by subst d;subst e;exact h.val
theorem ahY{a a':Addr}(h:cp f a a')(b:Bool):aA C (bk C) f (asNumber a b) (asNumber a' b):=by
 obtain⟨u,e,rfl⟩:=h;exact .ao (yY O (.number b e)) λg r r' _ c=>.ax (cp.val ⟨_,c,rfl⟩)
theorem Ct(t:TypeId){v v' x ak:ai}(j:aB C.fn f v v')(h:aB C.fn f x ak):aA C (bk C) f (movedNumber t v x) (movedNumber t v' ak):=by
 unfold movedNumber;refine .ao (gj O t) λg d d' l e=> ?_;subst e;have j:=j.mono l;have h:=h.mono l;have k:aA C (bk C) g (do
   let .pointer (some n):=v|Builtin.unsafeAdd_ #[] t #[v,x]
   let(a,lost)<-behindNumber n
   match<-Builtin.unsafeAdd_ #[] t #[.pointer (some a),x]with
   |.pointer (some b)=>asNumber b lost
   |v=>pure v) (do
   let .pointer (some n):=v'|Builtin.unsafeAdd_ #[] t #[v',ak]
   let(a,lost)<-behindNumber n
   match<-Builtin.unsafeAdd_ #[] t #[.pointer (some a),ak]with
   |.pointer (some b)=>asNumber b lost
   |v=>pure v):=by
  cases j with
  |ptr e=>
   refine .ao (uM O ⟨_,e,rfl⟩) λg1 p o l1 r=> ?_;obtain⟨a,lo⟩:=p;obtain⟨a',w⟩:=o;obtain⟨r,rfl⟩:=r;refine .ao (Vk O t r.val (h.mono l1)) λD u E l2 y=> ?_;obtain⟨F,z,rfl,rfl,A⟩:=y;exact ahY O A _
  |de e=>exact .stuck
  |ff=>exact iR O t .ff h
  |func n m s q s' a8=>exact iR O t (.func n m s q s' a8) h
  |agg s q=>exact iR O t (.agg s q) h
  |tuple s q=>exact iR O t (.tuple s q) h
  |iface B r=>exact iR O t (.iface B r) h
  |slice l c i=>exact iR O t (.slice l c i) h
  |map i=>exact iR O t (.map i) h
  |chan i=>exact iR O t (.chan i) h
  |_=>exact iR O t (by constructor) h
 cases d<;>first|exact k|exact .b4
theorem Vl(t:TypeId){v v' x ak:ai}(d:aB C.fn f v v')(a:aB C.fn f x ak):aA C (bk C) f (movedPointer t v x) (movedPointer t v' ak):=by
 unfold movedPointer;cases d with
 |ptr e=>
  refine .ao (U2 O e) λg p i l r=> ?_;rcases r with⟨rfl,rfl⟩|⟨u,j,lo,rfl,rfl,r⟩
  .exact iR O t (.ptr (l _ _ e)) (a.mono l)
  .exact .b4
 |de e=>exact .stuck
 |ff=>exact iR O t .ff a
 |func n m s q s' a8=>exact iR O t (.func n m s q s' a8) a
 |agg s q=>exact iR O t (.agg s q) a
 |tuple s q=>exact iR O t (.tuple s q) a
 |iface h r=>exact iR O t (.iface h r) a
 |slice l c b=>exact iR O t (.slice l c b) a
 |map b=>exact iR O t (.map b) a
 |chan b=>exact iR O t (.chan b) a
 |_=>exact iR O t (by constructor) a
theorem Vm(G:b1 C f){a a' b d:Addr}(h:cp f a a')(k:cp f b d):aA C bB f (Op.twoPlaces a b) (Op.twoPlaces a' d):=by
 unfold Op.twoPlaces;refine .prog ?_;have i:(a'.block !=d.block||decide (a'.block>=C.b0.globals.size))=(a.block !=b.block||decide (a.block>=C.P.globals.size)):=by
  rw[O.wL];obtain⟨u,c,rfl⟩:=h;obtain⟨v,aH,rfl⟩:=k;dsimp only;have j:(u !=v)=(a.block !=b.block):=by
   have:(u==v)=(a.block==b.block):=by
    apply sG.2;simp only[ho];constructor
    .intro h;subst h;exact f.inj _ _ _ c aH
    .intro h;rw[h,aH]at c;cases c;rfl
   simp only[bne,this]
  have o:decide (u>=C.P.globals.size)=decide (a.block>=C.P.globals.size):=by
   apply decide_eq_decide.2;constructor
   .intro h;rcases dH a.block C.P.globals.size with q|q
    .have:=f.low _ _ c (.inl (by have:=O.gs;omega));omega
    .exact q
   .intro h;rcases dH u C.P.globals.size with q|q
    .have:=f.low _ _ c (.inr (by have:=O.gs;omega));omega
    .exact q
  rw[j,o]
 rw[i];split
 .exact .b4
 .refine .ao (Cq O h) λg n p l e=> ?_;subst e;exact .ao (Cq O (k.mono l)) λg1 m r l1 e=>by subst e;exact .ax rfl
theorem ahZ(G:b1 C f)(k:IntKind){a a' b c:Addr}(h:cp f a a')(d:cp f b c):aA C (bk C) f (Op.addrSub k a b) (Op.addrSub k a' c):=.ao (Vm O G h d) λg p i l e=>by subst e;exact .ax (.int _ _)
theorem Gv(G:b1 C f)(op:BinOp){a a' b c:Addr}(h:cp f a a')(d:cp f b c):aA C (bk C) f (Op.addrCmp op a b) (Op.addrCmp op a' c):=.ao (Vm O G h d) λg p i l e=>by subst e;cases op<;>first|exact .ax (.bool _)|exact .b4
theorem LS(k:IntKind){a a':Addr}(h:cp f a a')(n:Int):aA C (bk C) f (Op.addrMod k a n) (Op.addrMod k a' n):=by
 unfold Op.addrMod;obtain⟨b,e,rfl⟩:=h;refine .ao (A:=bB) (.shape e λx=>.pure rfl) λg x ak l c=> ?_;subst c;cases x with
 |none=>exact .b4
 |some p=>
  dsimp only;refine .ao (mz O _) λg1 i d l1 c=> ?_;subst c;split
  .exact .b4
  .exact .ao (Cq O ⟨_,(l.trans l1) _ _ e,rfl⟩) λj m o l2 c=>by subst c;exact .ax (.int _ _)
end
end Go.Ren
namespace Go.Ren
open Go
section
variable{C:bf}(O:C.Ok){f:Ren}
include O
theorem ah0(op:BinOp)(k:FloatKind)(x y:Nat):aA C (bk C) f (Op.floatArith op k x y) (Op.floatArith op k x y):=by
 unfold Op.floatArith;have a:∀(g:Ren)(r:Option Nat),aA C (bk C) g (match r with|some r=>pure (.float k r)|none=>do pure (.float k (<-choose (.nanBits k x y)))) (match r with|some r=>pure (.float k r)|none=>do pure (.float k (<-choose (.nanBits k x y)))):=by
  intro g r;cases r with
  |some r=>exact .ax (.float _ _)
  |none=>exact .ao (rq O _) λg n b _ e=>by subst e;exact .ax (.float _ _)
 cases op<;>first|exact .stuck|exact a f _
theorem ah1(op:BinOp)(k:FloatKind)(x y:Nat):aA C (bk C) f (Op.floatCmp op k x y) (Op.floatCmp op k x y):=by
 unfold Op.floatCmp;cases op<;>first|exact .stuck|exact .ax (.bool _)
def _root_.Go.Ren.oL{α:Type}(P:bF)(s:Sem α):Prop:=∀w es,∃h w',(s.runT P w es).1=.halt h w'/\eJ h
omit O in
theorem qj{α:Type}{P:bF}{m:String}:oL P (stuck m:Sem α):=λw _=>⟨_,w,rfl,.inl ⟨_,rfl⟩⟩
omit O in
theorem sH{α:Type}{P:bF}{u:Unsupported}(h:∀g,u≠.initOrder g:=by simp):oL P (unsupported u:Sem α):=λw _=>⟨_,w,rfl,.inr ⟨_,rfl,h⟩⟩
omit O in
theorem LU{α:Type}{P:bF}{t:TypeId}{k:TypeDesc->Sem α}(h:∀d,oL P (k d)):oL P (underlying t>>=k):=by
 intro w es;show∃a w',(((underlying t).bind k).runT P w es).1=.halt a w'/\eJ a
 rw[hx];unfold underlying Go.program;simp only[Bind.bind,Sem.bind,Sem.runT];cases P.underlying t with
 |none=>exact⟨_,_,rfl,.inl ⟨_,rfl⟩⟩
 |some d=>exact h d w es
omit O in
theorem Gw{α β:Type}{P:bF}{s:Sem α}(h:oL P s)(k:α->Sem β):oL P (s>>=k):=λw es=>Gf h k w es
omit O in
theorem Vn{P:bF}{t:TypeId}{y:ai}:oL P (Op.equal t (.tuple #[]) y):=by
 unfold Op.equal Op.equalIn;refine LU λd=> ?_;cases d<;>cases y<;>first|exact qj|exact sH|(rename_i q;cases q<;>first|exact qj|exact sH)
omit O in
theorem Vo{P:bF}{t:TypeId}{x:ai}:oL P (Op.equal t x (.tuple #[])):=by
 unfold Op.equal Op.equalIn;refine LU λd=> ?_;cases x with
 |pointer a=>cases a<;>cases d<;>first|exact qj|exact sH
 |slice a l c=>cases a<;>cases d<;>first|exact qj|exact sH
 |map a=>cases a<;>cases d<;>first|exact qj|exact sH
 |_=>cases d<;>first|exact qj|exact sH
omit O in
theorem ah2{P:bF}{op:BinOp}{t:TypeId}{b:ai}:oL P (binOp op t (.tuple #[]) b):=by
 cases op with
 |eql=>exact Gw Vn _
 |neq=>exact Gw Vn _
 |_=>cases b<;>first|exact qj|exact sH
omit O in
theorem ah3{P:bF}{op:BinOp}{t:TypeId}{a:ai}:oL P (binOp op t a (.tuple #[])):=by
 cases op with
 |eql=>cases a<;>exact Gw Vo _
 |neq=>cases a<;>exact Gw Vo _
 |_=>cases a<;>first|exact qj|exact sH|(rename_i q;cases q<;>first|exact qj|exact sH)
theorem ah4(G:b1 C f){op:BinOp}{t:TypeId}(y:Operand)(h:Cs C op t y=true){a a' b i:ai}(B:aB C.fn f a a')(o:aB C.fn f b i)(aa:∀v,y=.const v->b=v/\i=v):aA C (bk C) f (binOp op t a b) (binOp op t a' i):=by
 by_cases w:b=.tuple #[]
 .subst w;exact .dies ah3
 by_cases F:a=.tuple #[]
 .subst F;exact .dies ah2
 have z:op=.eql\/op=.neq->aA C bB f (Op.equal t a b) (Op.equal t a' i):=by
  intro ap;refine ahX O G y ?_ B o aa;unfold Cs at h;rcases ap with rfl|rfl;all_goals
   simp only[oX]at h;refine h.imp id λq=> ?_;split at q
   .exact⟨_,rfl,q⟩
   .cases q
 have ay:op=.eql->aA C (bk C) f (do pure (.bool (<-Op.equal t a b))) (do pure (.bool (<-Op.equal t a' i))):=λap=>.ao (z (.inl ap)) λg x ak l e=>(by subst e;exact .ax (.bool _));have aF:op=.neq->aA C (bk C) f (do pure (.bool (!(<-Op.equal t a b)))) (do pure (.bool (!(<-Op.equal t a' i)))):=λap=>.ao (z (.inr ap)) λg x ak l e=>(by subst e;exact .ax (.bool _));have H:∀(u D:ai),aB C.fn f u D->aA C (bk C) f (movedNumber t a u) (movedNumber t a' D):=λu D r=>Ct O t B r;cases B with
 |int k n=>
  cases o with
  |int k' m=>
   cases op with
   |shl=>unfold binOp;dsimp only;exact Vg O G _ _ _ _ _
   |shr=>unfold binOp;dsimp only;exact Vg O G _ _ _ _ _
   |_=>
    unfold binOp;dsimp only;split
    .exact .stuck
    .first|exact Ve O _ _ _ _|exact ahR O G _ _ _ _|exact Vf O _ _ _ _|exact ahQ O _ _ _
  |ptr e=>
   cases op with
   |eql=>exact ay rfl
   |neq=>exact aF rfl
   |add=>exact Ct O t (.ptr e) (.int _ _)
   |and=>exact .ao (uM O ⟨_,e,rfl⟩) λg p E l r=>LS O _ r.1 _
   |_=>exact .b4
  |ff=>
   cases op with
   |eql=>exact ay rfl
   |neq=>exact aF rfl
   |add=>exact Ct O t .ff (.int _ _)
   |_=>exact .b4
  |de e=>exact absurd rfl w
  |_=>cases op<;>first|exact ay rfl|exact aF rfl|exact .stuck
 |string s=>
  cases o with
  |string s'=>cases op<;> (unfold binOp;dsimp only;exact Vh O _ _ _)
  |ptr e=>cases op<;>first|exact ay rfl|exact aF rfl|exact .b4
  |ff=>cases op<;>first|exact ay rfl|exact aF rfl|exact .b4
  |de e=>exact absurd rfl w
  |_=>cases op<;>first|exact ay rfl|exact aF rfl|exact .stuck
 |float k n=>
  cases o with
  |float k' m=>
   unfold binOp;cases op<;> (dsimp only;split;exact .stuck;first|exact ah0 O _ _ _ _|exact ah1 O _ _ _ _)
  |ptr e=>cases op<;>first|exact ay rfl|exact aF rfl|exact .b4
  |ff=>cases op<;>first|exact ay rfl|exact aF rfl|exact .b4
  |de e=>exact absurd rfl w
  |_=>cases op<;>first|exact ay rfl|exact aF rfl|exact .stuck
 |ptr e=>
  cases o with
  |int k m=>
   cases op with
   |eql=>exact ay rfl
   |neq=>exact aF rfl
   |add=>
    refine .ao (gj O t) λg d d' l A=> ?_;subst A;cases d<;> (first|exact Vl O t (.ptr (l _ _ e)) (.int _ _)|exact Ct O t (.ptr (l _ _ e)) (.int _ _))
   |sub=>exact H _ _ (.int _ _)
   |rem=>exact .ao (uM O ⟨_,e,rfl⟩) λg p E l r=>LS O _ r.1 _
   |and=>exact .ao (uM O ⟨_,e,rfl⟩) λg p E l r=>LS O _ r.1 _
   |_=>exact .b4
  |ptr A=>
   have c:∀{s:Addr->Addr->Sem ai},(∀g(_:bs f g)a a' b i,cp g a a'->cp g b i->aA C (bk C) g (s a b) (s a' i))->aA C (bk C) f (do s (<-behindNumber _).1 (<-behindNumber _).1) (do s (<-behindNumber _).1 (<-behindNumber _).1):=λJ=>.ao (uM O ⟨_,e,rfl⟩) λg p E l r=>.ao (uM O ⟨_,l _ _ A,rfl⟩) λg1 q a8 l1 K=>J g1 (l.trans l1) _ _ _ _ (r.1.mono l1) K.1;cases op with
   |eql=>exact ay rfl
   |neq=>exact aF rfl
   |sub=>exact c (s:=Op.addrSub .u64) λg l _ _ _ _ h j=>ahZ O (G.mono l) _ h j
   |lss=>exact c (s:=Op.addrCmp .lss) λg l _ _ _ _ h j=>Gv O (G.mono l) _ h j
   |leq=>exact c (s:=Op.addrCmp .leq) λg l _ _ _ _ h j=>Gv O (G.mono l) _ h j
   |gtr=>exact c (s:=Op.addrCmp .gtr) λg l _ _ _ _ h j=>Gv O (G.mono l) _ h j
   |geq=>exact c (s:=Op.addrCmp .geq) λg l _ _ _ _ h j=>Gv O (G.mono l) _ h j
   |_=>exact .b4
  |de e=>exact absurd rfl w
  |_=>cases op<;>first|exact ay rfl|exact aF rfl|exact .b4
 |ff=>
  cases o with
  |int k m=>
   cases op with
   |eql=>exact ay rfl
   |neq=>exact aF rfl
   |add=>
    refine .ao (gj O t) λg d d' l A=> ?_;subst A;have L:aA C (bk C) g (movedPointer t (.pointer none) (.int k m)) (movedPointer t (.pointer none) (.int k m)):=Vl O t .ff (.int _ _);have M:aA C (bk C) g (movedNumber t (.pointer none) (.int k m)) (movedNumber t (.pointer none) (.int k m)):=Ct O t .ff (.int _ _);cases d<;> (first|exact L|exact M)
   |sub=>exact H _ _ (.int _ _)
   |_=>exact .b4
  |de e=>exact absurd rfl w
  |_=>cases op<;>first|exact ay rfl|exact aF rfl|exact .b4
 |de e=>exact absurd rfl F
 |_=>
  cases o with
  |ptr e=>cases op<;>first|exact ay rfl|exact aF rfl|exact .b4
  |ff=>cases op<;>first|exact ay rfl|exact aF rfl|exact .b4
  |de e=>exact absurd rfl w
  |_=>cases op<;>first|exact ay rfl|exact aF rfl|exact .stuck
theorem ah5(op:UnOp){v v':ai}(h:aB C.fn f v v'):aA C (bk C) f (Op.unary op v) (Op.unary op v'):=by cases h<;>cases op<;>first|exact .stuck|exact .b4|exact Ve O _ _ _ _|exact Vf O _ _ _ _|exact .ax (by constructor)
theorem ah6{v v':ai}(h:aB C.fn f v v'):aA C (bk C) f (Conv.bytesToString v) (Conv.bytesToString v'):=by
 unfold Conv.bytesToString;cases h with
 |mr l c=>exact .ax (.string _)
 |slice l c e=>
  refine .ao (LB O ⟨_,e,rfl⟩ l) λg x ak w r=> ?_;refine .ao (A:=bB) ?_ λg1 s s' l1 e=>(by subst e;exact .ax (.string _));have d:∀(y b:bJ)(g:Ren)(s:dI),aZ C.fn g y.toArray b.toArray->aA C bB g (forIn y s λc s=>match c with| .int .u8 n=>do pure PUnit.unit;pure (ForInStep.yield (s.push (UInt8.ofNat n.toNat)))|_=>do stuck "bytesToString: byte expected") (forIn b s λc s=>match c with| .int .u8 n=>do pure PUnit.unit;pure (ForInStep.yield (s.push (UInt8.ofNat n.toNat)))|_=>do stuck "bytesToString: byte expected"):=by
   intro y;induction y with
   |nil=>intro b g s r;cases b with
    |nil=>exact .ax rfl
    |cons _ _=>have:=r.size;simp at this
   |cons a y j=>intro b g s r;cases b with
    |nil=>have:=r.size;simp at this
    |cons a' b=>
     rw[Cp,Cp];have m:=r.get 0 a a' ag ag;have o:aZ C.fn g y.toArray b.toArray:=⟨by have:=r.size;simpa using this,λi u p q t=>r.get (i+1) u p (by simpa using q) (by simpa using t)⟩;cases m with
     |int k n=>cases k<;>first|exact .stuck|exact j b g _ o
     |_=>exact .stuck
  rw[<-Gr,<-Gr];exact d _ _ g _ (by simpa using r)
 |_=>exact .stuck
theorem Vp{a a':Addr}(c:C.ro=false/\(C.gi=true\/C.lo<=a.block))(h:cp f a a'):aA C bB f (markStringish a) (markStringish a'):=by
 unfold markStringish;obtain⟨b,e,rfl⟩:=h;refine .ao (A:=bB) (.shape e λx=>.pure rfl) λg x ak l d=> ?_;subst d;cases x with
 |none=>exact .ax rfl
 |some p=>exact .freeze (a:=⟨a.block,p.2,none⟩) 1 c (l _ _ e) (.pure rfl)
theorem Vq(c:C.ro=false)(t:TypeId)(s:dI):aA C (bk C) f (Conv.stringToBytes t s) (Conv.stringToBytes t s):=by
 unfold Conv.stringToBytes;refine .ao (rq O _) λg n h l e=> ?_;subst e;have d:aZ C.fn g (s.data.map λb=>Value.int .u8 b.toNat) (s.data.map λb=>Value.int .u8 b.toNat):=aZ.map (λb=>.int _ _) _;refine .ao (ahm t (aZ.append d (aZ.replicate _ (.int _ _)))) λg1 a a' l1 r=> ?_;exact .ao (Vp O ⟨c,.inr r.1⟩ r.2) λi _ _ l2 _=>.ax (aB.qh (r.2.mono l2) _ _)
end
end Go.Ren
namespace Go.Ren
open Go
def Calm(P:bF){α:Type}(s:Sem α):Prop:=∀w es h w',(s.runT P w es).1=.halt h w'->eJ h
theorem Calm.pure{P:bF}{α:Type}(a:α):Calm P (Pure.pure a:Sem α):=λw es v w' h=>by cases h
theorem Calm.bind{P:bF}{α β:Type}{s:Sem α}{k:α->Sem β}(h:Calm P s)(hk:∀a,Calm P (k a)):Calm P (s>>=k):=by
 intro w es v w' e;change ((s.bind k).runT P w es).1=_ at e;rw[hx]at e;have:=h w es;generalize s.runT P w es=r at this e;obtain⟨r,bg⟩:=r;cases r with
 |ok a w1=>exact hk a w1 bg v w' e
 |halt b w1=>exact this b w1 rfl|>λd=>by dsimp only at e;cases e;exact d
theorem Calm.dies{P:bF}{α β:Type}{s:Sem α}{k:α->Sem β}(h:Calm P s)(hk:∀a w es,∃b w',((k a).runT P w es).1=.halt b w'/\eJ b): ∀w es,∃b w',((s>>=k).runT P w es).1=.halt b w'/\eJ b:=by
 intro w es;change∃b w',((s.bind k).runT P w es).1=.halt b w'/\eJ b;rw[hx];have:=h w es;generalize s.runT P w es=r at this;obtain⟨r,bg⟩:=r;cases r with
 |ok a w1=>exact hk a w1 bg
 |halt b w1=>exact⟨b,w1,rfl,this b w1 rfl⟩
theorem ah7{P:bF}(r:Nat):Calm P (shape r):=λw es v w' h=>by cases h
theorem ah8{P:bF}(a:Addr):Calm P (frozen a):=λw es v w' h=>by cases h
theorem LV{P:bF}(a:Addr)(n:Nat):Calm P (Builtin.holdsCells a n):=by
 unfold Builtin.holdsCells;exact .bind (ah7 _) λx=>by cases x<;>exact .pure _
theorem Vr{P:bF}(s l n:Nat)(b:Option Addr)(x:ai):Calm P (Builtin.mayShare s l n b x):=by
 unfold Builtin.mayShare;cases b with
 |none=>
  refine .bind (.pure _) λa=> ?_;dsimp only;split
  .exact .pure _
  .split
   .exact .bind (LV _ _) λx=>.pure _
   .exact .pure _
 |some a=>
  refine .bind (LV _ _) λx=>.bind (ah8 _) λy=>.bind (.pure _) λz=> ?_;dsimp only;split
  .exact .pure _
  .split
   .exact .bind (LV _ _) λx=>.pure _
   .exact .pure _
section
variable{C:bf}(O:C.Ok){f:Ren}
include O
theorem Gx{v v':ai}(h:aB C.fn f v v'):aA C bB f (Builtin.lenOf v) (Builtin.lenOf v'):=by cases h<;>first|exact .ax rfl|exact .stuck
theorem y3(s n:Nat){v v':ai}(h:aB C.fn f v v'):aA C (wK C) f (Builtin.firstCells s n v) (Builtin.firstCells s n v'):=by
 cases h with
 |slice l c e=>exact LB O ⟨_,e,rfl⟩ _
 |mr l c=>exact .ax .nil
 |string b=>exact .ax (aZ.map (λb=>.int _ _) _)
 |_=>exact .stuck
def LW(P:bF)(fj:Array TypeId):Bool:=(match fj[0]? with|some t=>uL P t|none=>true) && (match fj[1]? with|some t=> !((P.underlying t:Option TypeDesc) matches some (.int _))|none=>true)
theorem Vs{d:TypeId}(h:pn C.P d=true){i:Ren}{c sl k n:Nat}{s s' y l:ai}(rs:aB C.fn i s s')(o:aB C.fn i y l):aA C (bk C) i (do
  let b<-choose (.appendCap (sl+n) k d)
  askRoom (b* (<-typeInfo d).bytes)
  let old<-Builtin.firstCells c sl s
  let f<-Builtin.firstCells c n y
  let rest:=Builtin.zeroCells (<-zeroValue d).cells (b - (sl+n))
  pure (.slice (some (<-newRow d (old++f++rest))) (sl+n) b)) (do
  let b<-choose (.appendCap (sl+n) k d)
  askRoom (b* (<-typeInfo d).bytes)
  let old<-Builtin.firstCells c sl s'
  let f<-Builtin.firstCells c n l
  let rest:=Builtin.zeroCells (<-zeroValue d).cells (b - (sl+n))
  pure (.slice (some (<-newRow d (old++f++rest))) (sl+n) b)):=by
 refine .ao (rq O _) λJ K p q e=> ?_;subst e;refine .ao (mz O d) λL M t u e=> ?_;subst e;refine .ao (UY O _) λN _ _ w _=> ?_;have m:=q.trans (u.trans w);refine .ao (y3 O c sl (rs.mono m)) λQ x1 x z A=> ?_;refine .ao (y3 O c n (o.mono (m.trans z))) λB R D j E=> ?_;refine .ao (uK O h) λF v v' g e=> ?_;obtain⟨rfl,G⟩:=e;exact .ao (yZ O d (((A.mono (j.trans g)).append (E.mono g)).append (aZ.Cn (aB.flat G).cells _))) λH a a' aa r=>.ax (aB.qh r _ _)
theorem ah9(G:b1 C f){B:Array TypeId}(M:LW C.P B=true)(t:TypeId){x ak:aQ}(h:aZ C.fn f x ak):aA C (bk C) f (Builtin.append_ B t x) (Builtin.append_ B t ak):=by
 unfold Builtin.append_;unfold LW at M;simp only[cu]at M;obtain⟨i,c⟩:=M;cases cz:B[0]? with
 |none=>exact .stuck
 |some t0=>
 cases uj:x[0]? with
 |none=>exact .stuck
 |some s=>
 have⟨s',N,rs⟩:=h.some uj;cases FI:x[1]? with
 |none=>exact .stuck
 |some y=>
 have⟨gh,Q,o⟩:=h.some FI;rw[N,Q];rw[cz]at i;dsimp only at i⊢;refine .ao (ir O t0) λg d d' l e=> ?_;obtain⟨rfl,e⟩:=e;unfold uL at i;rw[e]at i;cases d with
 |slice D=>
  dsimp only at i⊢;have rs:=rs.mono l;have o:=o.mono l;have E:=G.mono l;cases rs with
  |mr sl F=>
   refine .ao (hU O D) λR j p S ay=> ?_;subst ay;have rs:aB C.fn g (.slice none sl F) (.slice none sl F):=.mr _ _;rcases bD:B[1]? with _|T;focus
    have H:=bs.refl R;refine .ao (A:=λ_ a b=>a=b/\a=false) (.ax ⟨rfl,rfl⟩) λaz z V aa e=> ?_
   rotate_left;focus
    refine .ao (ir O T) λZ d d' H e=> ?_;obtain⟨rfl,e⟩:=e;rw[bD]at c;dsimp only at c;rw[e]at c;refine .ao (A:=λ_ a b=>a=b/\a=false) (.ax ⟨rfl,by cases d<;>first|rfl|cases c⟩) λaz z V aa e=> ?_
   all_goals
    obtain⟨rfl,rfl⟩:=e;have L:=S.trans (H.trans aa);have E:=E.mono L;have rs:=rs.mono L;have o:=o.mono L;simp only[ea,cY,Gy,dd,false_or];refine .ao (Gx O o) λfC n Cf l2 e=> ?_;subst e;have k:=o.mono l2;split
    .refine .ao (y3 O j n k) λK x ak m r=> ?_;exact .ax (.mr _ _)
    .refine .ao (mz O D) λK W u m e=> ?_;subst e;split
     .exact .ao (A:=λ_(_:PUnit)(_:PUnit)=>False) (gl O (E.mono (l2.trans m)) _) λ_ _ _ _ h=>h.elim
     .refine .ao (mz O D) λX W u v e=> ?_;subst e;split
      .exact .ao (A:=λ_(_:PUnit)(_:PUnit)=>False) (.dies (Calm.dies (Vr _ _ _ _ _) λq w es=>by split<;>exact⟨_,_,rfl,.inr ⟨_,rfl,ag⟩⟩)) λ_ _ _ _ h=>h.elim
      .exact Vs O i (rs.mono (l2.trans (m.trans v))) (k.mono (m.trans v))
  |@slice Y mj sl F J=>
   refine .ao (hU O D) λR j p S ay=> ?_;subst ay;have rs:aB C.fn g (.slice (some Y) sl F) (.slice (some {Y with block:=mj}) sl F):=.slice _ _ J;rcases bD:B[1]? with _|T;focus
    have H:=bs.refl R;refine .ao (A:=λ_ a b=>a=b/\a=false) (.ax ⟨rfl,rfl⟩) λaz z V aa e=> ?_
   rotate_left;focus
    refine .ao (ir O T) λZ d d' H e=> ?_;obtain⟨rfl,e⟩:=e;rw[bD]at c;dsimp only at c;rw[e]at c;refine .ao (A:=λ_ a b=>a=b/\a=false) (.ax ⟨rfl,by cases d<;>first|rfl|cases c⟩) λaz z V aa e=> ?_
   all_goals
    obtain⟨rfl,rfl⟩:=e;have L:=S.trans (H.trans aa);have E:=E.mono L;have rs:=rs.mono L;have o:=o.mono L;have J:=L _ _ J;simp only[ea,cY,Gy,dd,false_or];refine .ao (Gx O o) λfC n Cf l2 e=> ?_;subst e;have k:=o.mono l2;split
    .refine .ao (y3 O j n k) λK x ak m r=> ?_;exact .ao (Gi O _ _ K 0 (cp.add ⟨_,(l2.trans m) _ _ J,rfl⟩ _) (by simpa using r)) λX _ _ v _=>.ax (.slice _ _ ((l2.trans (m.trans v)) _ _ J))
    .refine .ao (mz O D) λK W u m e=> ?_;subst e;split
     .exact .ao (A:=λ_(_:PUnit)(_:PUnit)=>False) (gl O (E.mono (l2.trans m)) _) λ_ _ _ _ h=>h.elim
     .refine .ao (mz O D) λX W u v e=> ?_;subst e;split
      .exact .ao (A:=λ_(_:PUnit)(_:PUnit)=>False) (.dies (Calm.dies (Vr _ _ _ _ _) λq w es=>by split<;>exact⟨_,_,rfl,.inr ⟨_,rfl,ag⟩⟩)) λ_ _ _ _ h=>h.elim
      .exact Vs O i (rs.mono (l2.trans (m.trans v))) (k.mono (m.trans v))
  |_=>exact .stuck
 |_=>exact .stuck
end
end Go.Ren
