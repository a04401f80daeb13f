import Derived.Test.YtlcdgbhigfgehabGreatDoorQA11
import Derived.Conc.MuStops
import Derived.Conc.Own
import Derived.Conc.Listed
set_option linter.all false
set_option maxRecDepth 100000
set_option maxHeartbeats 16000000
namespace Go.bG
open Go Go.Conc Go.Ren
open Go.ConcN (sumTo upd sumTo_upd upd_ne upd_same)
structure gS(ShB ro:Nat->Prop)(s:aM)(B:Nat)(t:Trace):Prop where
 clean:∀said,¬Race said t
 known:∀i a,touchAt t i=some a->a.loc.isMemory=true->Knows t 0 i\/((∃b,ShB b/\bS a.loc b)/\a.kind=.atomic)
 over:t.HandedOver
 norel:j7 t
 seen:∀op∈t,op.act.low B
 deaf:Deaf t 0=s.deaf
 sh:∀b,ShB b->b<B/\¬s.own b/\¬ro b
 lt:∀b,s.own b\/ro b->b<B
section
variable{own ro:Nat->Prop}{e:Event}{x:Touch}{B:Nat}
def amE(h:CH own ro e\/EvS own e)(d:(MemAct.ofEvent e).touch? =some x)(l:x.loc.isMemory=true):∃b,bS x.loc b/\(own b\/ro b):=by
 have i:=WR d;rcases h with(⟨b,f,g,j⟩|⟨k,rfl⟩|rfl|rfl)|(⟨a,f,g,j⟩|rfl|rfl|⟨a,f,rfl|rfl⟩)
 .have c:bS e.loc b:=j;rcases i with⟨ay,_⟩|⟨a,ay,_⟩|⟨a,ay,_⟩
  .exact⟨b,ay▸c,f.imp id (·.1)⟩
  .rw[ay]at c;rcases c with h|⟨_,_,h⟩<;>cases h
  .rw[ay]at c;rcases c with h|⟨_,_,h⟩<;>cases h
 .cases d
 .cases d
 .cases d;cases l
 .rcases i with⟨ay,_⟩|⟨a',ay,_⟩|⟨a',ay,_⟩
  .exact⟨_,by rw[ay,g];exact bS.cell a,.inl f⟩
  .rw[g]at ay;cases ay
  .rw[g]at ay;cases ay
 all_goals cases d
def amF(h:CH own ro e\/EvS own e)(c:∀b,own b\/ro b->b<B):(MemAct.ofEvent e).low B:=by
 have f:∀{l:Loc}{b:Nat}(w s:Bool),bS l b->b<B->(MemAct.ofEvent ⟨l,w,s⟩).low B:=by
  intro l b w s j c;rcases j with rfl|⟨o,p,rfl⟩
  .cases w<;>cases s<;>exact c
  .exact c
 rcases h with(⟨b,d,g,i⟩|⟨k,rfl⟩|rfl|rfl)|(⟨a,d,g,i⟩|rfl|rfl|⟨a,d,rfl|rfl⟩)
 .exact f (l:=e.loc) _ _ i (c b (d.imp id (·.1)))
 .trivial
 .trivial
 .trivial
 .exact f (l:=e.loc) _ _ (g▸bS.cell a) (c _ (.inl d))
 .trivial
 .trivial
 .exact c _ (.inl d)
 .exact c _ (.inl d)
def amG(h:CH own ro e\/EvS own e)(a:Addr):MemAct.ofEvent e≠.mark (.release a):=by
 intro f;have d:e.loc=.mark (.release a):=by
  obtain⟨loc,wr,l⟩:=e;cases loc with
  |mark m=>simp[MemAct.ofEvent]at f;simp[f]
  |obj c=>cases wr<;>cases l<;>simp[MemAct.ofEvent]at f
  |_=>simp[MemAct.ofEvent]at f
 rcases h with(⟨b,i,j,g⟩|⟨k,rfl⟩|rfl|rfl)|(⟨a,i,j,g⟩|rfl|rfl|⟨a,i,rfl|rfl⟩)
 .rw[d]at g;rcases g with h|⟨_,_,h⟩<;>cases h
 .cases d
 .cases d
 .cases d
 .rw[j]at d;cases d
 all_goals cases d
end
section
variable{ShB ro:Nat->Prop}{s s':aM}{w w':World}{t:Trace}{es:Array Event}
def gS.step(h:gS ShB ro s w.heap.size t)(g:pu s s' ro w w' es)(fn:FuncId)(pos:String):gS ShB ro s' w'.heap.size (t++MemOp.ofEvents 0 fn pos es):=by
 have p:∀op∈MemOp.ofEvents 0 fn pos es,op.g=0:=λop c=>(j6 c).1;have k:∀b,s'.own b\/ro b->b<w'.heap.size:=by
  intro b f;rcases f with f|f
  .rcases(g.own b).1 f with j|j
   .exact fl (h.lt b (.inl j)) g.size
   .exact j.2
  .exact fl (h.lt b (.inr f)) g.size
 have l:∀b,ShB b->b<w'.heap.size/\¬s'.own b/\¬ro b:=by
  intro b f;have⟨j,r,u⟩:=h.sh b f;refine⟨fl j g.size,λq=> ?_,u⟩;rcases(g.own b).1 q with q|q
  .exact r q
  .omega
 refine⟨λm=>noRace_append (h.clean m) p λi a v op c b f o=> ?_,λi a v n=> ?_,handedOver_app h.over λop c=>.inl (p op c),h.norel.app λop c a y=> ?_,λop c=> ?_,?_,l,k⟩
 .rcases h.known i a v o.2.1 with hk|⟨⟨D,j,r⟩,_⟩
  .exact hk
  .exfalso;have⟨_,e,y,d⟩:=j6 c;have⟨F,u,G⟩:=amE (g.aH e y) (by rw[<-d];exact f) (o.1▸o.2.1);have:D=F:=r.eq (o.1▸u);subst this;have⟨_,H,aa⟩:=l D j;exact G.elim H aa
 .have⟨x,E,z⟩:=touch_of v;rcases getElem?_append_cases E with⟨_,A⟩|⟨_,B⟩
  .exact(h.known i a (by rw[touchAt_of A];exact z) n).imp (·.app _) id
  .have:=knows_own E;rw[p x B]at this;exact .inl this
 .have⟨_,e,n,d⟩:=j6 c;exact amG (g.aH e n) a (d.symm.trans y)
 .rcases uQ.1 c with C|C
  .exact MemAct.low_mono g.size (h.seen op C)
  .have⟨_,e,n,d⟩:=j6 C;rw[d];exact amF (g.aH e n) k
 .rw[Deaf_own,h.deaf];exact g.deaf
def gS.mute(h:gS ShB ro s w.heap.size t){g:Nat}(A:g≠0){fn:FuncId}{pos:String}(l:∀e∈es,e.mute=true):gS ShB ro s w.heap.size (t++MemOp.ofEvents g fn pos es):=by
 have y:∀op∈MemOp.ofEvents g fn pos es,op.g=g:=λop d=>(j6 d).1;have o:∀op∈MemOp.ofEvents g fn pos es,op.act.touch? =none:=λop d=>by
  have⟨_,e,j,f⟩:=j6 d;rw[f];exact touch_mute (l e j)
 refine⟨λn=>noRace_append (h.clean n) y λi a _ op d b z _=>(by rw[o op d]at z;cases z),λi a B l=> ?_,handedOver_app h.over λop d=>.inr (o op d),h.norel.app λop d a j=> ?_,λop d=> ?_,(Deaf_other t A _ y).trans h.deaf,h.sh,h.lt⟩
 .have⟨x,C,k⟩:=touch_of B;rcases getElem?_append_cases C with⟨_,p⟩|⟨_,q⟩
  .exact(h.known i a (by rw[touchAt_of p];exact k) l).imp (·.app _) id
  .rw[o x q]at k;cases k
 .have⟨_,e,r,f⟩:=j6 d;have D:=l e r;rw[f]at j;obtain⟨u,wr,E⟩:=e;cases u with
  |mark m=>simp[MemAct.ofEvent]at j;subst j;simp[Event.mute]at D
  |obj c=>cases wr<;>cases E<;>simp[MemAct.ofEvent]at j
  |_=>simp[MemAct.ofEvent]at j
 .rcases uQ.1 d with v|v
  .exact h.seen op v
  .have⟨_,e,j,f⟩:=j6 v;rw[f];exact low_mute (l e j) _
end
abbrev n7:aM->ab->ab->Prop:=λ_ w al=>AtRel w al
def Pk:kD n7:=⟨λ_=>atRel_refl,λ_=>atRel_trans⟩
def XF{s:aM}{ro:Nat->Prop}{w al:ab}(h:n7 s w al):n3 s.own ro w al:=by
 obtain⟨d,rfl⟩:=h;exact⟨rfl,rfl,bh _,λ_ _ _=>rfl⟩
section
variable{P:Program}{ShB ro:Nat->Prop}{Stop:aM->Goroutine->World->Prop}
def amH{s:aM}{a:aY}{w:ab}(h:a7 P true n7 (λs s'=>pu s s' ro) Stop s a w): ∀(gs:hh)(sl:Option (Nat×Nat))(t:Trace)(q:Nat->Nat),gs[0]? =some a->Leavers P t gs q->gS ShB ro s w.heap.size t->∃(N:Nat)(b:hh)(a':aY)(w':ab)(c:Option (Nat×Nat))(m:Trace)(a8:Nat->Nat)(s':aM),runNT P N (crowd gs w sl) t=(.next (crowd b w' c),m)/\b.size=gs.size/\b[0]? =some a'/\Stop s' a' w'/\Leavers P m b a8/\gS ShB ro s' w'.heap.size m:=by
 induction h with
 |@stop own g w h=>exact λgs sl t q v r L=>⟨0,gs,_,_,sl,t,q,_,rfl,rfl,v,h _ (atRel_refl _),r,L⟩
 |@step own g w N n bD cb iA=>
  have V:∀(M:Nat)(gs:hh)(w1:ab)(sl:Option (Nat×Nat))(t:Trace)(q:Nat->Nat),sumTo gs.size q<=M->AtRel w w1->gs[0]? =some g->Leavers P t gs q->gS ShB ro own w1.heap.size t->∃(N:Nat)(b:hh)(a':aY)(w':ab)(c:Option (Nat×Nat))(m:Trace)(a8:Nat->Nat)(s':aM),runNT P N (crowd gs w1 sl) t=(.next (crowd b w' c),m)/\b.size=gs.size/\b[0]? =some a'/\Stop s' a' w'/\Leavers P m b a8/\gS ShB ro s' w'.heap.size m:=by
   intro M;induction M with
   |zero|succ M W=>
    intro gs w1 sl t q iQ Q v r L;have X:∀g∈gs,awake g:=by
     intro g' O;obtain⟨i,af,rfl⟩:=Array.mem_iff_getElem.1 O;rcases jL i with rfl|o
     .have:gs[0]=g:=(by simpa[dq af]using v);rw[this];exact awake_of (.inl n)
     .exact awake_of ((r.old i _ o (dq af)).status.elim .inl λx=>.inr (.inr x))
    obtain⟨i,g',d,c,af,O,R⟩:=crowd_pick (P:=P) (w:=w1) (sl:=sl) X ⟨0,g,v,n⟩;rcases jL i with rfl|o
    .obtain rfl:g'=g:=(by rw[v]at af;exact(kz af).symm);have u:AtRel w (w1.at d):=atRel_trans _ _ _ Q ⟨d,rfl⟩;obtain⟨bw,Y⟩:=bD _ u;have f:=runT_crowd_go (P:=P) (sl:=c) (i:=0) af (show stepG P (0==0) g' (w1.at d)=_ from bw);have z:∀a' w',((gs.map (woken P g' a' w')).setIfInBounds 0 a').size=gs.size:=(by intros;simp);have A:0<gs.size:=(bQ.1 v).1;obtain⟨Z,b,D,E,p,m,a8,s',cl,F,G,nI,H,aa⟩:=iA _ u ((gs.map (woken P g' (N (w1.at d)).2.1 (N (w1.at d)).2.2.1)).setIfInBounds 0 (N (w1.at d)).2.1) c (t++MemOp.ofEvents 0 g'.frame.fn g'.frame.place (N (w1.at d)).2.2.2) q (by simp[A]) ⟨λj x B J=>by
       have K:0≠j:=U;rw[vN K,oF]at J;obtain⟨y,dP,rfl⟩:=rr.1 J;have u:=r.old j y B dP;rw[woken_quitsD u,Deaf_other t U _ (λop l=>by obtain⟨e,_,rfl⟩:=Go.Conc.mem_ofEvents l;rfl)];exact u,λj B=>by
       rw[Deaf_other t (g':=0) (by simp at B;omega) _ (λop l=>by obtain⟨e,_,rfl⟩:=Go.Conc.mem_ofEvents l;rfl)];exact r.above j (by simpa using B)⟩
      (gS.step (w:=w1.at d) L Y _ _)
     exact⟨Z+1,b,D,E,p,m,a8,s',by simp only[runNT,R,f];exact cl,F.trans (z _ _),G,nI,H,aa⟩
    .have u:=r.old i g' o af;have BI:(i==0)=false:=a5;have A:i<gs.size:=(bQ.1 af).1;cases Pl:q i with
     |zero=>rw[Pl]at u;rw[u.1]at O;cases O
     |succ k=>
      rw[Pl]at u;rcases u with⟨dg,_⟩|⟨_,az,es,hm,S,O9⟩
      .rw[dg]at O;cases O
      have AU:sumTo gs.size (upd q i k)+ (k+1)=sumTo gs.size q+k:=by
       have:=sumTo_upd q k id A;simpa[Pl]using this
      first
      |(exfalso;omega)
      |have f:=runT_crowd_go (P:=P) (sl:=c) (i:=i) af (by rw[BI];exact S (w1.at d))
       have z:((gs.map (woken P g' az (w1.at d))).setIfInBounds i az).size=gs.size:=ag;obtain⟨Z,b,D,E,p,m,a8,s',cl,F,G,nI,H,aa⟩:=W ((gs.map (woken P g' az (w1.at d))).setIfInBounds i az) (w1.at d) c (t++MemOp.ofEvents i g'.frame.fn g'.frame.place es) (upd q i k) (by rw[z];omega) (atRel_trans _ _ _ Q ⟨d,rfl⟩) (by
         have K:i≠0:=U;rw[vN K,oF,v];simp[woken_run n])
        ⟨λj x B J=>by
         by_cases C:i=j
         .subst C;rw[O3 (by simpa using A)]at J;obtain rfl:=kz J;rw[upd_same,Deaf_own];exact O9
         .rw[vN C,oF]at J;obtain⟨y,dP,rfl⟩:=rr.1 J;have T:=r.old j y B dP;rw[woken_quitsD T,upd_ne q k (ed C),Deaf_other t C _ (λop l=>by obtain⟨e,_,rfl⟩:=Go.Conc.mem_ofEvents l;rfl)];exact T,λj B=>by
         rw[Deaf_other t (g':=i) (by simp at B;omega) _ (λop l=>by obtain⟨e,_,rfl⟩:=Go.Conc.mem_ofEvents l;rfl)];exact r.above j (by simpa using B)⟩
        (gS.mute (w:=w1.at d) L U hm)
       exact⟨Z+1,b,D,E,p,m,a8,s',by simp only[runNT,R,f];exact cl,F.trans z,G,nI,H,aa⟩
  exact λgs sl t q v r L=>V _ gs w sl t q (bh _) (atRel_refl w) v r L
end
end Go.bG
namespace Go.bp
open Go Go.Conc Go.bG
def Pt(l:List MapEntry):Prop:=∀e∈l,∃k,e.key=.int .i64 k
def Dw(d:IntKind)(k:Int):∀(l:List MapEntry)(i:Nat),Pt l->(Instr.findNow (.int d) (.int .i64 k) l i=some none/\∀e∈l,e.key≠.int .i64 k)\/∃j e,Instr.findNow (.int d) (.int .i64 k) l i=some (some (i+j,e.val))/\l[j]? =some e/\e.key=.int .i64 k
 |[],i,_=>.inl ⟨rfl,ag⟩
 |e::l,i,h=>by
  have⟨k',hk⟩:=h e ag;have g:Pt l:=λx a=>h x (by simp[a]);unfold Instr.findNow;rw[hk];simp only[Instr.sameNow,dd];by_cases b:k=k'
  .subst b;simp only[Gz];exact .inr ⟨0,e,rfl,rfl,hk⟩
  .rw[show(k==k')=false by simpa using b];simp only;rcases Dw d k l (i+1) g with⟨c,f⟩|⟨j,x,c,f,m⟩
   .exact .inl ⟨c,by simp only[dY];rintro x(rfl|a);rw[hk];intro q;cases q;exact b rfl;exact f x a⟩
   .exact .inr ⟨j+1,x,by rw[c,show i+1+j=i+ (j+1) by omega],f,m⟩
structure ga(f:bu)(l:List MapEntry):Prop where
 all:∀e∈l,∃k,e.key=.int .i64 k/\e.val=.int .i64 (f k)
 two:l.Pairwise λa b=>a.key≠b.key
 none:∀k,(∀e∈l,e.key≠.int .i64 k)->f k=0
structure ni(c:Nat)(l:List MapEntry):Prop where
 lt:∀e∈l,e.born<c
 oO:(l.map (·.born)).Nodup
 pos:∀e∈l,∃n:Nat,0<n/\e.val=.int .i64 n
def ni.push{c:Nat}{l:List MapEntry}(h:ni c l)(k:ai)(n:Nat):ni (c+1) (l++ [{key:=k,val:=.int .i64 ((n:Int)+1),born:=c}]):=by
 refine⟨λe d=> ?_,?_,λe d=> ?_⟩
 .rcases fB.1 d with d|d
  .exact Nat.lt_succ_of_lt (h.lt e d)
  .obtain rfl:=bK.1 d;exact z1 _
 .rw[pS,List.nodup_append];refine⟨h.oO,ag,λa g b f=> ?_⟩;obtain⟨e,d,rfl⟩:=og.1 g;simp at f;subst f;exact Nat.ne_of_lt (h.lt e d)
 .rcases fB.1 d with d|d
  .exact h.pos e d
  .obtain rfl:=bK.1 d;exact⟨n+1,U,ag⟩
def ni.set{c:Nat}{l:List MapEntry}(h:ni c l)(k:ai)(j n:Nat):ni c (l.modify j λe=>{e with key:=k,val:=.int .i64 ((n:Int)+1)}):=by
 have key:∀e∈l.modify j λe=>{e with key:=k,val:=.int .i64 ((n:Int)+1)},∃a∈l,e.born=a.born/\(e=a\/e.val=.int .i64 ((n:Int)+1)):=by
  intro e b;have⟨i,af⟩:=List.mem_iff_getElem?.1 b;rw[HU]at af;have⟨a,d,f⟩:=rr.1 af;refine⟨a,ze d,?_⟩;subst f;split
  .exact⟨rfl,.inr rfl⟩
  .exact⟨rfl,.inl rfl⟩
 have m:(l.modify j λe=>{e with key:=k,val:=.int .i64 ((n:Int)+1)}).map (·.born)=l.map (·.born):=by
  apply xP;intro i;rw[uB,uB,HU];cases l[i]? with
  |none=>rfl
  |some e=>simp only[mq,Option.map_map];split<;>rfl
 refine⟨λe b=> ?_,by rw[m];exact h.oO,λe b=> ?_⟩
 .have⟨a,d,f,_⟩:=key e b;rw[f];exact h.lt a d
 .have⟨a,d,f,g⟩:=key e b;rcases g with rfl|g
  .exact h.pos _ d
  .exact⟨n+1,U,by rw[g];simp⟩
def h5(f:bu)(o:Obj):Prop:=∃es c,o=.map es c/\ga f es.toList/\ni c es.toList
def ga.keys{f:bu}{l:List MapEntry}(h:ga f l):Pt l:=λe a=>by have⟨k,b,_⟩:=h.all e a;exact⟨k,b⟩
def ga.push{f:bu}{l:List MapEntry}(h:ga f l)(k:Int)(c:Nat)(j:∀e∈l,e.key≠.int .i64 k):ga (f.add k) (l++ [{key:=.int .i64 k,val:=.int .i64 ((f k:Int)+1),born:=c}]):=by
 refine⟨λe d=> ?_,?_,λk' g=> ?_⟩
 .rcases fB.1 d with d|d
  .have⟨m,i,n⟩:=h.all e d;have:m≠k:=λq=>j e d (q▸i);exact⟨m,i,by rw[n];simp[bu.add,this]⟩
  .obtain rfl:=bK.1 d;exact⟨k,rfl,by simp[bu.add]⟩
 .rw[rZ];refine⟨h.two,tJ _ _,λa o b p=> ?_⟩;obtain rfl:=bK.1 p;exact j a o
 .have i:k'≠k:=λq=>g _ (fB.2 (.inr (bK.2 rfl))) (by rw[q]);have:=h.none k' λe d=>g e (fB.2 (.inl d));simp[bu.add,this,i]
def amO(l:List MapEntry)(j:Nat)(k:Int)(v:ai){e:MapEntry}(a:l[j]? =some e)(hk:e.key=.int .i64 k):(l.modify j λe=>{e with key:=.int .i64 k,val:=v}).map (·.key)=l.map (·.key):=by
 apply xP;intro n;rw[uB,uB,HU];by_cases h:j=n
 .subst h;simp[a,hk]
 .simp[h]
def ga.set{f:bu}{l:List MapEntry}(h:ga f l)(k:Int){j:Nat}{e:MapEntry}(i:l[j]? =some e)(hk:e.key=.int .i64 k):ga (f.add k) (l.modify j λe=>{e with key:=.int .i64 k,val:=.int .i64 ((f k:Int)+1)}):=by
 have r:=amO l j k (.int .i64 ((f k:Int)+1)) i hk;refine⟨λx c=> ?_,?_,λk' o=> ?_⟩
 .obtain⟨n,b⟩:=List.mem_iff_getElem?.1 c;rw[HU]at b;by_cases a:j=n
  .subst a;simp[i]at b;subst b;exact⟨k,rfl,by simp[bu.add]⟩
  .simp[a]at b;obtain⟨s,d,m⟩:=h.all x (ze b);have p:s≠k:=by
    rintro rfl;obtain⟨t,u⟩:=qV.1 b;obtain⟨w,y⟩:=qV.1 i;have:=we.1 h.two;rcases Nat.lt_or_gt_of_ne a with q|q
    .exact this j n w t q (by rw[u,y,d,hk])
    .exact this n j t w q (by rw[u,y,d,hk])
   exact⟨s,d,by rw[m];simp[bu.add,p]⟩
 .have m:(l.map (·.key)).Pairwise (·≠·):=BA.2 h.two;rw[<-r]at m;exact BA.1 m
 .have g:∀v,v∈l.map (·.key)->v≠.int .i64 k':=by
   rw[<-r];intro v z;obtain⟨x,c,rfl⟩:=og.1 z;exact o x c
  have d:k'≠k:=by
   rintro rfl;exact g _ (og.2 ⟨e,ze i,rfl⟩) hk
  have:=h.none k' λx c=>g _ (og.2 ⟨x,c,rfl⟩);simp[bu.add,this,d]
section
variable{P:Program}{w:World}{iC gT kK:TypeId}{r c:Nat}{es:Array MapEntry}{f:bu}
def ga.val{l:List MapEntry}(h:ga f l){k:Int}{e:MapEntry}(b:e∈l)(hk:e.key=.int .i64 k):e.val=.int .i64 (f k):=by
 have⟨d,a,c⟩:=h.all e b;rw[hk]at a;cases a;exact c
def ve(a:P.underlying gT=some (.int .i64))(b:Bool)(k:Int):(Instr.checkKey b 10000 gT (.int .i64 k)).run P w=.ok () w:=by
 rw[show(10000:Nat)=9999+1 from rfl];generalize 9999=n;unfold Instr.checkKey;simp[underlying,a,Result.andThen]
def mR{t:TypeId}{d:TypeDesc}(h:P.underlying t=some d):(underlying t).run P w=.ok d w:=by simp[underlying,h,Result.andThen]
def amP(g:P.underlying iC=some (.map gT kK))(a:P.underlying gT=some (.int .i64))(l:(zeroValue kK).run P w=.ok (.int .i64 0) w)(m:w.heap[r]? =some (.map es c))(h:ga f es.toList)(k:Int): (Instr.lookup iC (.map (some r)) (.int .i64 k) false).run P w=.ok (.int .i64 (f k)) w:=by
 have i:(getObj r).run P w=.ok (.map es c) w:=(by simp[getObj,Sem.run,m]);unfold Instr.lookup Instr.findKey;rcases Dw .i64 k es.toList 0 h.keys with⟨b,d⟩|⟨j,e,b,d,n⟩
 .have o:=h.none k d;simp only[Sem.run_bind,mR g,mR a,i,ve a,Result.andThen_ok,b,Sem.run_pure,l,o,ea,cY];rfl
 .have p:=h.val (ze d) n;simp only[Sem.run_bind,mR g,mR a,i,ve a,Result.andThen_ok,b,Sem.run_pure,p,ea,cY]
def XM(k:Int):Instr.sameBits 10000 (.int .i64 k) (.int .i64 k)=true:=by
 rw[show(10000:Nat)=9999+1 from rfl];generalize 9999=n;unfold Instr.sameBits;simp
def XN(o a:Obj)(b:w.heap[r]? =some o)(c:∀x t z,o≠.cells x t z):(setObj r a).run P w=.ok () {w with heap:=w.heap.setIfInBounds r a}:=by
 unfold setObj;simp only[Sem.run,b]
def amQ(l:P.underlying iC=some (.map gT kK))(a:P.underlying gT=some (.int .i64))(d:w.heap[r]? =some (.map es c))(h:ga f es.toList)(m:ni c es.toList)(k:Int): ∃bg n,(Instr.mapUpdate iC (.map (some r)) (.int .i64 k) (.int .i64 ((f k:Int)+1))).run P w=.ok () {w with heap:=w.heap.setIfInBounds r (.map bg n)}/\ga (f.add k) bg.toList/\ni n bg.toList:=by
 have o:(getObj r).run P w=.ok (.map es c) w:=(by simp[getObj,Sem.run,d]);unfold Instr.mapUpdate Instr.findKey;rcases Dw .i64 k es.toList 0 h.keys with⟨g,b⟩|⟨j,e,g,b,p⟩
 .refine⟨es.push {key:=.int .i64 k,val:=.int .i64 ((f k:Int)+1),born:=c},c+1,?_,by simpa using h.push k c b,by simpa using m.push (.int .i64 k) (f k)⟩;simp only[Sem.run_bind,mR l,mR a,o,ve a,Result.andThen_ok,g,Sem.run_pure];exact XN _ _ d ag
 .have q:es[j]? =some e:=(by simpa using b);refine⟨es.modify j λe=>{e with key:=.int .i64 k,val:=.int .i64 ((f k:Int)+1)},c,?_,by simpa using h.set k b p,by simpa using m.set (.int .i64 k) j (f k)⟩;have i:((es[0+j]?.map (·.key)).getD (.int .i64 k))=.int .i64 k:=(by rw[lY,q];simp[p]);simp only[Sem.run_bind,mR l,mR a,o,ve a,Result.andThen_ok,g,Sem.run_pure,i];unfold Instr.keyThatStays;simp only[XM,dd,Sem.run_pure,Result.andThen_ok,lY];exact XN _ _ d ag
def XO{o:Obj}(a:w.heap[r]? =some o)(b:∀x t z,o≠.cells x t z)(aH:bI):(getObj r).events P w aH=aH.push ⟨.obj r,false,o.isChan⟩:=by
 unfold getObj Sem.events;simp only[Sem.runT,a]
def XP{o a:Obj}(b:w.heap[r]? =some o)(c:∀x t z,o≠.cells x t z)(aH:bI):(setObj r a).events P w aH=aH.push ⟨.obj r,true,a.isChan⟩:=by
 unfold setObj Sem.events;simp only[Sem.runT,b]
def vf{t:TypeId}{d:TypeDesc}(h:P.underlying t=some d)(aH:bI):(underlying t).events P w aH=aH:=by simp[underlying,h,Result.evThen]
def HV(a:P.underlying gT=some (.int .i64))(b:Bool)(k:Int)(aH:bI):(Instr.checkKey b 10000 gT (.int .i64 k)).events P w aH=aH:=by
 rw[show(10000:Nat)=9999+1 from rfl];generalize 9999=n;unfold Instr.checkKey;simp[underlying,a,Result.evThen]
def amR(d:P.underlying iC=some (.map gT kK))(a:P.underlying gT=some (.int .i64))(n:(zeroValue kK).run P w=.ok (.int .i64 0) w)(g:∀aH,(zeroValue kK).events P w aH=aH)(l:w.heap[r]? =some (.map es c))(h:ga f es.toList)(k:Int)(aH:bI): (Instr.lookup iC (.map (some r)) (.int .i64 k) false).events P w aH=aH.push ⟨.obj r,false,false⟩:=by
 have m:(getObj r).run P w=.ok (.map es c) w:=(by simp[getObj,Sem.run,l]);have b:=λaH=>XO (P:=P) l ag aH;unfold Instr.lookup Instr.findKey;rcases Dw .i64 k es.toList 0 h.keys with⟨i,o⟩|⟨j,e,i,o,p⟩
 .simp only[Sem.events_bind,Sem.run_bind,mR d,mR a,vf d,vf a,m,b,ve a,HV a,Result.andThen_ok,Result.evThen,i,Sem.run_pure,Sem.events_pure,n,g,ea,cY];rfl
 .simp only[Sem.events_bind,Sem.run_bind,mR d,mR a,vf d,vf a,m,b,ve a,HV a,Result.andThen_ok,Result.evThen,i,Sem.run_pure,Sem.events_pure,ea,cY];rfl
def amS(d:P.underlying iC=some (.map gT kK))(a:P.underlying gT=some (.int .i64))(g:w.heap[r]? =some (.map es c))(h:ga f es.toList)(k:Int)(v:ai)(aH:bI): (Instr.mapUpdate iC (.map (some r)) (.int .i64 k) v).events P w aH=(aH.push ⟨.obj r,false,false⟩).push ⟨.obj r,true,false⟩:=by
 have m:(getObj r).run P w=.ok (.map es c) w:=(by simp[getObj,Sem.run,g]);have b:=λaH=>XO (P:=P) g ag aH;unfold Instr.mapUpdate Instr.findKey;rcases Dw .i64 k es.toList 0 h.keys with⟨i,n⟩|⟨j,e,i,n,o⟩
 .simp only[Sem.events_bind,Sem.run_bind,mR d,mR a,vf d,vf a,m,b,ve a,HV a,Result.andThen_ok,Result.evThen,i,Sem.run_pure,Sem.events_pure];rw[XP g ag];rfl
 .have p:es[j]? =some e:=(by simpa using n);have l:((es[0+j]?.map (·.key)).getD (.int .i64 k))=.int .i64 k:=(by rw[lY,p];simp[o]);simp only[Sem.events_bind,Sem.run_bind,mR d,mR a,vf d,vf a,m,b,ve a,HV a,Result.andThen_ok,Result.evThen,i,Sem.run_pure,Sem.events_pure,l];unfold Instr.keyThatStays;simp only[XM,dd,Sem.run_pure,Sem.events_pure,Result.andThen_ok,Result.evThen];rw[XP g ag];rfl
end
end Go.bp
namespace Go.bp
open Go Go.Conc Go.bG
section
variable{P:Program}{main:Bool}{b:Frame}{a:Act}{kk:List Item}{cs:List Frame}{w:World}{ops:Array Oper}{i:Nat}{rest:List Nat}{o:Oper}
def amT{t:TypeId}{x:Operand}(ap:ops[i]? =some o)(j:Region.wanted o (yielded ops a.tmps)=true)(hk:b.kind≠.early)(c:o.op=.load t x){ad:Addr}{v:ai}(g:a.eval x=.pointer (some ad))(h:w.cell? ad=some v)(d:(isAgg t).run P w=.ok false w): ∃es,stepG P main (G (b.at a (.inRegion ops (i::rest)::kk)) cs) w=.go (G (b.at (a.put o.dst v) (.inRegion ops rest::kk)) cs) w es/\∀e∈es,e=⟨.cell ad,false,false⟩:=by
 have k:(execOp a.eval o).run P w=.ok (.value v) w:=by
  unfold execOp;simp only[c,g];simp[go_sem,h,d]
 refine⟨_,stepG_value ap j hk k,λe l=> ?_⟩;have f:=mem_listed l;unfold execOp at f;simp only[c,g]at f;simp[go_sem,h,d]at f;exact f
def amU{iC gT kK:TypeId}{x y:Operand}{r c:Nat}{es:Array MapEntry}{f:bu}{k:Int}(ap:ops[i]? =some o)(s:Region.wanted o (yielded ops a.tmps)=true)(hk:b.kind≠.early)(d:o.op=.lookup iC x y false)(j:a.eval x=.map (some r))(l:a.eval y=.int .i64 k)(m:P.underlying iC=some (.map gT kK))(n:P.underlying gT=some (.int .i64))(p:(zeroValue kK).run P w=.ok (.int .i64 0) w)(q:w.heap[r]? =some (.map es c))(h:ga f es.toList): ∃aH,stepG P main (G (b.at a (.inRegion ops (i::rest)::kk)) cs) w=.go (G (b.at (a.put o.dst (.int .i64 (f k))) (.inRegion ops rest::kk)) cs) w aH/\∀e∈aH,e=⟨.obj r,false,false⟩:=by
 have t:(execOp a.eval o).run P w=.ok (.value (.int .i64 (f k))) w:=by
  unfold execOp;simp only[d,j,l];simp[amP m n p q h k]
 refine⟨_,stepG_value ap s hk t,λe u=> ?_⟩;have g:=mem_listed u;unfold execOp at g;simp only[d,j,l]at g;simp[amR m n p (λaH=>ag) q h k]at g;exact g
def amV{iC gT kK:TypeId}{x y z:Operand}{r c:Nat}{es:Array MapEntry}{f:bu}{k:Int}(ap:ops[i]? =some o)(u:Region.wanted o (yielded ops a.tmps)=true)(hk:b.kind≠.early)(d:o.op=.mapUpdate iC x y z)(m:a.eval x=.map (some r))(n:a.eval y=.int .i64 k)(g:a.eval z=.int .i64 ((f k:Int)+1))(p:P.underlying iC=some (.map gT kK))(s:P.underlying gT=some (.int .i64))(t:w.heap[r]? =some (.map es c))(h:ga f es.toList)(v:ni c es.toList): ∃aH bg j,stepG P main (G (b.at a (.inRegion ops (i::rest)::kk)) cs) w=.go (G (b.at (a.put o.dst I) (.inRegion ops rest::kk)) cs) {w with heap:=w.heap.setIfInBounds r (.map bg j)} aH/\(∀e∈aH,∃q,e=⟨.obj r,q,false⟩)/\ga (f.add k) bg.toList/\ni j bg.toList:=by
 have⟨bg,j,A,B⟩:=amQ p s t h v k;have C:(execOp a.eval o).run P w=.ok .skip {w with heap:=w.heap.setIfInBounds r (.map bg j)}:=by
  unfold execOp;simp only[d,m,n,g];simp[A]
 refine⟨_,bg,j,stepG_none ap u hk C,λe D=> ?_,B⟩;have l:=mem_listed D;unfold execOp at l;simp only[d,m,n,g]at l;simp[amS p s t h k]at l;rcases l with rfl|rfl<;>exact⟨_,rfl⟩
end
end Go.bp
namespace Go.bG
open Go Go.Conc Go.Ren
open Go.ConcR (KK wgBlock WgAt stA smA rd wr mk DC0)
open Go.aS (Th Sh a6 mv)
open Go.ConcN (sumTo upd sumTo_upd upd_ne upd_same)
def OC{n:Nat}{f:Nat->Nat}(h:∀i,f i=0):aS.ds n f=0:=by
 induction n with
 |zero=>rfl
 |succ n a=>simp[aS.ds,h,a]
def arK(n:Nat):aS.Inv n (λ_=>{pc:=.ld}) ⟨{},0⟩:=by
 have z:aS.ds n (λ_=>0)=0:=OC λ_=>rfl;have a:aS.ds n (λ_=>0)+aS.ds n (λ_=>0)+aS.ds n (λ_=>0)+0=0:=(by rw[z]);have b:aS.ds n (λ_=>0)=0+aS.ds n (λ_=>0)+0:=(by rw[z]);exact⟨λ_ _=>rfl,z,λ_=>⟨a,z⟩,λh=>(by cases h),λ_=>b,λh=>(by cases h),λ_ _ _ h=>absurd h aE⟩
section
variable{P:Program}{K:bj}{aL:bu->Obj->Prop}{Post:Nat->(Nat->Prop)->World->Prop}{kd:Nat->Int}{Anch bl:aM->Goroutine->World->Prop}{ShB:Nat->Prop}
def Zr(ShB:Nat->Prop)(l:Loc):Prop:=∃b,ShB b/\bS l b
def arL{own:Nat->Prop}{gs:hh}{a:aY}{w:ab}{t:Trace}{q:Nat->Nat}(Q:gs[0]? =some a)(R:Leavers P t gs q)(y:gS ShB K.ro ⟨own,0⟩ w.heap.size t)(A:K.base=gs.size){r:Nat}(T:K.n=r+1)(az:mJ P K aL Post kd bl K.n ⟨own,0⟩ a w)(X:WgAt K.cW K.Wg w 0 0)(Y:e6 K w ⟨{},0⟩)(Z:hg K w)(C:ix K aL w (λ_=>0))(E:∀b,own b->b≠K.Wg/\b≠K.bm/\b≠K.bb/\b≠K.bU/\¬K.ro b)(cl:∀b,K.ro b->b≠K.Wg/\b≠K.bm/\b≠K.bb/\b≠K.bU)(J:K.Wg≠K.bm/\K.Wg≠K.bb/\K.bm≠K.bb/\K.bU≠K.Wg/\K.bU≠K.bm/\K.bU≠K.bb)(u:∀b,b=K.Wg\/b=K.bm\/b=K.bb\/b=K.bU->¬ShB b)(V:∀s g w,bl s g w->g.status=.running): ∃S:Sys,Inv P K aL Post kd Anch bl (Zr ShB) S gs w t:=by
 rw[T]at az;have⟨L,F⟩:=a7.u1 az;have gJ:0<gs.size:=(bQ.1 Q).1;have M:a.status=.running:=F.running (hZ K none) (λ_ _ _ h=>h.1);have z:∀{i:Nat}{x:Touch}{b:Nat},touchAt t i=some x->bS x.loc b->¬ShB b->Knows t 0 i:=by
  intro i x b c m N;rcases y.known i x c m.memory with h|⟨⟨pt,B,aa⟩,_⟩
  .exact h
  .exact absurd (m.eq aa▸B) N
 have G:∀{b},own b\/K.ro b->¬ShB b:=λ{b}h k=>h.elim (y.sh b k).2.1 (y.sh b k).2.2;let S:Sys:={j:=0,th:=λ_=>{pc:=.ld},D:=λ_=>0,eV:=λ_=>0,x:=⟨{},0⟩,tag:=.s7 r,a4:=0,c6:=0,own:=λg b=>g=0/\own b,f:=λ_=>0,au:=λp=>if p=0 then L else dr.ofNat (q p)}
 have H:S.own 0=own:=funext λb=>propext ⟨λh=>h.2,λh=>⟨rfl,h⟩⟩;have d:∀g,eW K S g->g=0:=by
  rintro g(rfl|⟨i,af,_⟩)
  .rfl
  .exact absurd af (py _)
 have l:∀{i:Nat}{p:Prop},i<S.j->p:=λh=>absurd h (py _);have O:started K.n S.j S.tag:=(lY _).trans T.symm;refine⟨S,{size:=A.symm,jI:=by omega,dL:=O,main:=⟨a,Q,.inl ?_,λ_=>rfl⟩,wk:=λi af=>l af,old:=λp B aa=> ?_,wg:=X,mode:= ?_,aT:=Y,dv:=arK _,fit:=⟨by show(0:Nat)<31;omega,dl _⟩,xr:=λ_ _=>rfl,out:=λi af=>l af,eX:=λi af=>l af,pay:=Z,map:=λ_=>C,h4:=λ_=>rfl,bM:=⟨λg g' b B aa _ _=>(d g B).trans (d g' aa).symm,λg b _ h=>(E b h.2).2.2.2.2,λg b _ h=>⟨(E b h.2).1,(E b h.2).2.1,(E b h.2).2.2.1⟩,cl,J⟩,lt:= ?_,aG:=λi af=>l af,rI:=λi af=>l af,gR:=λh=>(E _ h.2).2.2.2.1 rfl,hi:= ?_,hG:=y.norel,rJ:=λp b8=>R.above p b8,kI:=λ_ i x c m=>.inr λg v=>(by rw[d g v];exact z c m (u _ ag)),to:=⟨λi x c hm=> ?_,λi g v B _ dZ=>y.over i g v B dZ,λk hk=>l hk⟩,post:=λi af=>l af,acq:=λe=>(by cases e)}⟩
 .show iv P true (Rl K none) (e7 K none) (hA P K aL Post kd Anch bl (.s7 r)) L ⟨S.own 0,Deaf t 0⟩ a w
  rw[H,y.deaf];exact F
 .have W:p<gs.size:=U;refine⟨gs[p],by simp[W],q p,?_,R.old p _ B (by simp[W])⟩;show(if p=0 then L else _)=_
  rw[aC U]
 .have:=Mode.opn (j:=0) (D:=λ_=>0) (tag:=.s7 r) trivial (λi af=>absurd af (py _)) (λvs e=>by cases e);simpa[Vc,sumTo,pend]using this
 .rintro b(⟨g,v,h⟩|h|rfl)
  .exact y.lt b (.inl h.2)
  .exact y.lt b (.inr h)
  .obtain⟨o,ap,_⟩:=C;exact(bQ.1 ap).1
 .refine⟨y.clean,y.seen,λg v i x b c ap m=> ?_,λk hk i x c m=> ?_,λg v i x b c N m _=> ?_,λg v i x c m _=> ?_,λg v i x c m _ _=> ?_⟩
  .rw[d g v];exact z c m (G (.inl ap.2))
  .have e:n6 K S k=0:=(by unfold n6;rw[aC (py _)]);rw[e];exact z (b:=K.bb) c (m▸bS.cell _) (u _ ag)
  .rw[d g v];exact z c m (G (.inr N))
  .rw[d g v];exact z (b:=K.bm) c (m▸bS.cell _) (u _ ag)
  .rw[d g v];rcases m with h|h|h
   .exact z c h (u _ ag)
   .exact z (b:=K.bm) c (h▸bS.cell _) (u _ ag)
   .exact z (b:=K.bm) c (h▸bS.cell _) (u _ ag)
 .rcases y.known i x c hm with h|⟨h,m7⟩
  .exact .inr (.inl h)
  .exact .inr (.inr ⟨h,m7⟩)
def arM{S:Sys}{gs:hh}{w:ab}{t:Trace}(aa:Inv P K aL Post kd Anch bl (Zr ShB) S gs w t)(u:S.tag=.fin)(own ro:Nat->Prop)(v:∀b,ShB b\/b=K.Wg->b<w.heap.size/\¬own b/\¬ro b)(x:∀b,own b\/ro b->b<w.heap.size): (∃q,Leavers P t gs q)/\gS (λb=>ShB b\/b=K.Wg) ro ⟨own,Deaf t 0⟩ w.heap.size t/\gs.size=K.base+K.n/\(∀i,i<K.n->Post i (S.own (K.base+i)) w)/\(∃g,gs[0]? =some g)/\ix K aL w S.f/\(∀k,S.f k=sumTo K.n λi=>if k=kd i then 1 else 0):=by
 have o:S.j=K.n:=(by have:=aa.dL;rw[u]at this;exact this);have r:∀i,i<S.j->S.D i=1:=by
  have:=aa.mode;rw[u]at this;generalize S.a4=a at this;generalize S.c6=b at this;cases this with
  |opn h=>exact h.elim
  |fin _ h=>exact h
 have l:∀p,∃k,∀g,0<p->gs[p]? =some g->QuitsD P k (Deaf t p) g:=by
  intro p;rcases jL p with rfl|z
  .exact⟨0,λg h=>absurd h (vL _)⟩
  rcases dH p K.base with h|h
  .have⟨g,c,k,_,y⟩:=aa.old p z h;exact⟨k,λg' _ d=>by rw[c]at d;cases d;exact y⟩
  .rcases dH p gs.size with m|m
   .have E:=aa.size;have⟨g,c,s,_⟩:=aa.wk (p - K.base) U;rw[show K.base+ (p - K.base)=p by omega]at c s;unfold WSit at s;rw[aV (r _ U)]at s;obtain⟨k,_,y⟩:=s;exact⟨k,λg' _ d=>by rw[c]at d;cases d;exact y⟩
   .exact⟨0,λg _ c=>by rw[oz m]at c;cases c⟩
 have⟨A,B⟩:=aa.acq u;refine⟨⟨λp=>Classical.choose (l p),λi g af c=>uR (l i) g af c,λj o=>aa.rJ j o⟩,⟨aa.hi.nr,λi a h C=> ?_,B,aa.hG,aa.hi.low,rfl,v,x⟩,by rw[<-o];exact aa.size,λi af=>aa.post i U (by rw[r i U];omega),?_,?_,λk=> ?_⟩
 .rcases A i a h C with h|⟨⟨b,v,x⟩|h,m⟩
  .exact .inl h
  .exact .inr ⟨⟨b,.inl v,x⟩,m⟩
  .exact .inr ⟨⟨_,.inr rfl,h⟩,m⟩
 .have⟨g,c,_⟩:=aa.main;exact⟨g,c⟩
 .refine aa.map λi af e=> ?_;have:=aa.out i af (by rw[r i af];omega);rw[this]at e;cases e
 .rw[aa.h4 k,o];refine Go.ConcN.sumTo_congr λi af=> ?_;have e:=aa.out i U (by rw[r i U];omega);have aF:did (S.th i)=true:=(by unfold did;rw[e]);simp[aF]
end
end Go.bG
