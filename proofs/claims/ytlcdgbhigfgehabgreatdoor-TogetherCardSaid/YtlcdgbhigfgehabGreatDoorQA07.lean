import Derived.Test.YtlcdgbhigfgehabGreatDoorQ00
import Derived.Conc.Company
set_option linter.all false
set_option maxRecDepth 100000
set_option maxHeartbeats 16000000
namespace Go.Ren
open Go
inductive a7{S:Type}(P:Program)(main:Bool)(Rl:S->World->World->Prop)(Gu:S->S->World->World->Array Event->Prop)(Stop:S->Goroutine->World->Prop):S->Goroutine->World->Prop
 |stop {own g w}:(∀al,Rl own w al->Stop own g al)->a7 P main Rl Gu Stop own g w
 |step {own g w} (N:World->S×Goroutine×World×Array Event):g.status=.running->(∀al,Rl own w al->stepG P main g al=.go (N al).2.1 (N al).2.2.1 (N al).2.2.2/\Gu own (N al).1 al (N al).2.2.1 (N al).2.2.2)->(∀al,Rl own w al->a7 P main Rl Gu Stop (N al).1 (N al).2.1 (N al).2.2.1)->a7 P main Rl Gu Stop own g w
structure kD{S:Type}(Rl:S->ab->ab->Prop):Prop where
 refl:∀own w,Rl own w w
 trans:∀own a b c,Rl own a b->Rl own b c->Rl own a c
section
variable{S:Type}[Inhabited S]{P:Program}{main:Bool}{Rl VO:S->World->World->Prop}{Gu Gu':S->S->World->World->Array Event->Prop}{Stop Stop':S->Goroutine->World->Prop}{own:S}{g:Goroutine}{w:World}
def a7.fW(e:g.status=.running)(h:∀al,Rl own w al->∃own' g' w' es,stepG P main g al=.go g' w' es/\Gu own own' al w' es/\a7 P main Rl Gu Stop own' g' w'):a7 P main Rl Gu Stop own g w:=by
 have d:∀al,∃N:S×aY×ab×bI,Rl own w al->stepG P main g al=.go N.2.1 N.2.2.1 N.2.2.2/\Gu own N.1 al N.2.2.1 N.2.2.2/\a7 P main Rl Gu Stop N.1 N.2.1 N.2.2.1:=by
  intro al;by_cases c:Rl own w al
  .have⟨o,g',w',es,f⟩:=h al c;exact⟨(o,g',w',es),λ_=>f⟩
  .exact⟨default,λq=>absurd q c⟩
 refine .step (λal=>Classical.choose (d al)) e (λal c=> ?_) (λal c=> ?_)
 .have⟨a,b,_⟩:=uR (d al) c;exact⟨a,b⟩
 .exact(uR (d al) c).2.2
def a7.one{own':S}{g':aY}{F:ab->ab}{E:ab->bI}(a:g.status=.running)(b:∀al,Rl own w al->stepG P main g al=.go g' (F al) (E al))(c:∀al,Rl own w al->Gu own own' al (F al) (E al))(h:∀al,Rl own w al->a7 P main Rl Gu Stop own' g' (F al)):a7 P main Rl Gu Stop own g w:=.step (λal=>(own',g',F al,E al)) a (λal q=>⟨b al q,c al q⟩) h
def a7.not(c:g.status=.running)(h:¬a7 P main Rl Gu Stop own g w): (∃al,Rl own w al/\¬Stop own g al)/\∃al,Rl own w al/\∀own' g' w' es,stepG P main g al=.go g' w' es->Gu own own' al w' es->¬a7 P main Rl Gu Stop own' g' w':=by refine⟨ry λa=>h (.stop λal b=>ry λk=>a ⟨al,b,k⟩),ry λa=>h (.fW c λal b=>ry λk=>a ⟨al,b,λo g' w' es d e f=>k ⟨o,g',w',es,d,e,f⟩⟩)⟩
def a7.bind(T:kD Rl)(h:a7 P main Rl Gu Stop own g w)(hk:∀own g w,Stop own g w->a7 P main Rl Gu Stop' own g w):a7 P main Rl Gu Stop' own g w:=by
 induction h with
 |stop k=>exact hk _ _ _ (k _ (T.refl _ _))
 |step N a b _ c=>exact .step N a b c
def a7.ai4(T:kD Rl)(h:a7 P main Rl Gu Stop own g w)(a:¬a7 P main Rl Gu Stop' own g w):∃own g w,Stop own g w/\¬a7 P main Rl Gu Stop' own g w:=ry λhk=>a (h.bind T λo g w b=>ry λc=>hk ⟨o,g,w,b,c⟩)
def a7.mono(h:a7 P main Rl Gu Stop own g w)(c:∀own a b,VO own a b->Rl own a b)(e:∀own own' a b es,Gu own own' a b es->Gu' own own' a b es)(f:∀own g w,Stop own g w->Stop' own g w):a7 P main VO Gu' Stop' own g w:=by
 induction h with
 |stop k=>exact .stop λal q=>f _ _ _ (k al (c _ _ _ q))
 |step N i d _ j=>exact .step N i (λal q=>⟨(d al (c _ _ _ q)).1,e _ _ _ _ _ (d al (c _ _ _ q)).2⟩) λal q=>j al (c _ _ _ q)
def a7.wS{R:ab->ab->Prop}{D:ab->ab->bI->Prop}{Z:aY->ab->Prop}{own:S}(c:∀a b,Rl own a b->R a b)(d:∀a b es,D a b es->Gu own own a b es): ∀{n:Nat}{g:aY}{w:ab},Go.Conc.Goes P main R D Z n g w->a7 P main Rl Gu (λo g w=>o=own/\Z g w) own g w:=by
 intro n;induction n with
 |zero=>exact λh=>.stop λal q=>⟨rfl,h al (c _ _ q)⟩
 |succ n e=>
  intro g w h;rcases h with h|⟨f,h⟩
  .exact .stop λal q=>⟨rfl,h al (c _ _ q)⟩
  .refine .fW f λal q=> ?_;have:=h al (c _ _ q);cases bw:stepG P main g al with
   |go g' w' es=>rw[bw,Go.Conc.goes_go]at this;exact⟨own,g',w',es,rfl,d _ _ _ this.1,e this.2⟩
   |_=>rw[bw]at this;exact this.elim
end
end Go.Ren
namespace Go.Ren
open Go
inductive dr:Type
 |leaf
 |node (f:World->dr)
inductive dr.Sub:dr->dr->Prop
 |mk (f:World->dr) (w:World):dr.Sub (f w) (.node f)
def dr.wf:WellFounded dr.Sub:=⟨λt=>by
 induction t with
 |leaf=>exact⟨_,λy h=>by cases h⟩
 |node f a=>exact⟨_,λy h=>by cases h with|mk f w=>exact a w⟩⟩
section
variable{S:Type}(P:Program)(main:Bool)(Rl:S->World->World->Prop)(Gu:S->S->World->World->Array Event->Prop)(Stop:S->Goroutine->World->Prop)
def iv:dr->S->aY->ab->Prop
 |.leaf,own,g,w=>∀al,Rl own w al->Stop own g al
 |.node f,own,g,w=>g.status=.running/\∀al,Rl own w al->∃own' g' w' es,stepG P main g al=.go g' w' es/\Gu own own' al w' es/\iv (f al) own' g' w'
end
section
variable{S:Type}{P:Program}{main:Bool}{Rl:S->World->World->Prop}{Gu:S->S->World->World->Array Event->Prop}{Stop:S->Goroutine->World->Prop}
def a7.u1{own:S}{g:aY}{w:ab}(h:a7 P main Rl Gu Stop own g w):∃r,iv P main Rl Gu Stop r own g w:=by
 induction h with
 |stop h=>exact⟨.leaf,h⟩
 |@step own g w N b c _ e=>
  have d:∀al,∃r,Rl own w al->iv P main Rl Gu Stop r (N al).1 (N al).2.1 (N al).2.2.1:=λal=>by
   by_cases a:Rl own w al
   .have⟨r,b⟩:=e al a;exact⟨r,λ_=>b⟩
   .exact⟨.leaf,λq=>absurd q a⟩
  refine⟨.node λal=>Classical.choose (d al),b,λal a=>⟨_,_,_,_,(c al a).1,(c al a).2,uR (d al) a⟩⟩
def iv.rely(T:kD Rl){r:dr}{own:S}{g:aY}{w w':ab}(h:iv P main Rl Gu Stop r own g w)(k:Rl own w w'):iv P main Rl Gu Stop r own g w':=by
 cases r with
 |leaf=>exact λal q=>h al (T.trans _ _ _ _ k q)
 |node f=>exact⟨h.1,λal q=>h.2 al (T.trans _ _ _ _ k q)⟩
def iv.running(T:kD Rl)(a:∀own g w,Stop own g w->g.status=.running){r:dr}{own:S}{g:aY}{w:ab}(h:iv P main Rl Gu Stop r own g w):g.status=.running:=by
 cases r with
 |leaf=>exact a _ _ _ (h w (T.refl _ _))
 |node f=>exact h.1
end
inductive sX{α:Type}(r:α->α->Prop):List α->List α->Prop
 |head {a b:α} (l:List α):r a b->sX r (a::l) (b::l)
 |tail {l fS:List α} (a:α):sX r l fS->sX r (a::l) (a::fS)
def sX.wf{α:Type}{r:α->α->Prop}(h:WellFounded r):WellFounded (sX r):=⟨λl=>by
 induction l with
 |nil=>exact⟨_,λy q=>by cases q⟩
 |cons a l f=>
  have b:∀a,Acc r a->∀l,Acc (sX r) l->Acc (sX r) (a::l):=by
   intro a g;induction g with
   |intro a _ c=>
    intro l d;induction d with
    |intro l d e=>
     refine⟨_,λy q=> ?_⟩;cases q with
     |head _ q=>exact c _ q l ⟨_,d⟩
     |tail _ q=>exact e _ q
  exact b a (h.apply a) l f⟩
def u2{α:Type}:Nat->(Nat->α)->List α
 |0,_=> []
 |n+1,f=>f n::u2 n f
def akK{α:Type}{n:Nat}{f g:Nat->α}(h:∀i,i<n->f i=g i):u2 n f=u2 n g:=by
 induction n with
 |zero=>rfl
 |succ n a=>simp only[u2];rw[a λi af=>h i U,h n U]
def akL{α:Type}{r:α->α->Prop}{n i:Nat}{f g:Nat->α}(af:i<n)(h:r (g i) (f i))(a:∀k,k≠i->g k=f k):sX r (u2 n g) (u2 n f):=by
 induction n with
 |zero=>omega
 |succ n b=>
  simp only[u2];by_cases e:i=n
  .subst e;rw[akK (f:=g) (g:=f) λk hk=>a k U];exact .head _ h
  .rw[a n U];exact .tail _ (b U)
abbrev Hj:=Nat×dr
def Hk:Hj->Hj->Prop:=Prod.Lex (· < ·) dr.Sub
def rkWf:WellFounded Hk:=(Prod.lex ⟨_,Nat.lt_wfRel.wf⟩ ⟨_,dr.wf⟩).wf
abbrev Hl:=Nat×List Hj×Nat
def Hm:Hl->Hl->Prop:=Prod.Lex (· < ·) (Prod.Lex (sX Hk) (· < ·))
def avV:WellFounded Hm:=(Prod.lex ⟨_,Nat.lt_wfRel.wf⟩ (Prod.lex ⟨_,sX.wf rkWf⟩ ⟨_,Nat.lt_wfRel.wf⟩)).wf
def dr.ofNat:Nat->dr
 |0=>.leaf
 |n+1=>.node λ_=>dr.ofNat n
def dr.ofNat_lt(n:Nat):dr.Sub (dr.ofNat n) (dr.ofNat (n+1)):=.mk (λ_=>dr.ofNat n) default
end Go.Ren
