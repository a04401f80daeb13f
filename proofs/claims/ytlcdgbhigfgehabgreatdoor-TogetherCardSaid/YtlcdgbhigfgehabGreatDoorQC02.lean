import Derived.Test.YtlcdgbhigfgehabGreatDoorQA15
import Derived.Test.YtlcdgbhigfgehabGreatDoorQA16
import Derived.Test.YtlcdgbhigfgehabGreatDoorQC01
import Derived.Conc.CompanyDraw
import Derived.Orders
set_option linter.all false
set_option maxRecDepth 100000
set_option maxHeartbeats 16000000
namespace Go.bp
open Go Go.Conc Go.ConcN Go.RowKit Go.Conc.Lib Go.ConcR.Gen Go.Proofs Go.bG Go.Ren
def qH(ops:dn)(l:Array Bool):Nat:=((List.range ops.size).filter λi=> !l.getD i true).length
def XR{md:Region.Mode}{ops:dn}{l:Array Bool}(h:qH ops l=0):Region.ready md ops l=[]:=by
 refine List.eq_nil_iff_forall_not_mem.2 λi af=> ?_;have⟨a,o,b,_⟩:=mem_ready.1 af;have:i∈(List.range ops.size).filter λi=> !l.getD i true:=List.mem_filter.2 ⟨uY.2 (bQ.1 b).1,by rw[a];rfl⟩;rw[vy h]at this;cases this
def filter_lt{α:Type}{p q:α->Bool}{l:List α}{x:α}(a:x∈l)(c:p x=true)(d:q x=false)(h:∀y,q y=true->p y=true):(l.filter q).length< (l.filter p).length:=by
 have e:∀l:List α,(l.filter q).length<=(l.filter p).length:=λl=>by
  induction l with
  |nil=>simp
  |cons y l b=>
   simp only[GA];cases Pu:q y with
   |false=>simp only[ea,cY];split<;>first|(simp only[hJ];omega)|omega
   |true=>simp only[h y Pu,dd];simpa using b
 induction l with
 |nil=>cases a
 |cons y l b=>
  simp only[GA];rcases dY.1 a with rfl|a
  .simp only[c,d,dd,ea,cY];have:=e l;simp;omega
  .have:=b a;cases Pu:q y with
   |false=>simp only[ea,cY];split<;>first|(simp only[hJ];omega)|omega
   |true=>simp only[h y Pu,dd];simpa using this
def amY{md:Region.Mode}{ops:dn}{l:Array Bool}{i:Nat}(h:i∈Region.ready md ops l):qH ops (l.setIfInBounds i true)<qH ops l:=by
 have⟨a,o,c,_⟩:=mem_ready.1 h;have af:=(bQ.1 c).1;refine filter_lt (x:=i) (uY.2 af) (by rw[a];rfl) ?_ λy b=> ?_
 .have:i<l.size:=by
   rcases dH i l.size with h|h
   .exact h
   .simp[Array.getD,Nat.not_lt.2 h]at a
  simp[Array.getD,this]
 .by_cases e:i=y
  .subst e;exfalso;have:i<l.size:=by
    rcases dH i l.size with h|h
    .exact h
    .simp[Array.getD,Nat.not_lt.2 h]at a
   simp[Array.getD,this]at b
  .rw[getD_set_ne true e]at b;exact b
def go_nil{md:Region.Mode}{ops:dn}{a t:Nat}{l:Array Bool}(h:qH ops l=0):Region.linearise.go md ops a t l []=[]:=by
 cases a with
 |zero=>rfl
 |succ n=>
  simp only[Region.linearise.go];have:=XR (md:=md) h;unfold Region.ready at this;rw[this];rfl
section
variable{S:Type}{P:Program}{main:Bool}{Rl:S->World->World->Prop}{Gu:S->S->World->World->Array Event->Prop}{Stop:S->Goroutine->World->Prop}{md:Region.Mode}{ops:Array Oper}{b:Frame}{k:List Item}{cs:List Frame}
def XS(aa:Array Bool->S->Act->ab->Prop)(e:∀l s a w i rest,i∈Region.ready md ops l->(qH ops (l.setIfInBounds i true)=0->rest=[])->aa l s a w->(∀s' a' w',aa (l.setIfInBounds i true) s' a' w'->a7 P main Rl Gu Stop s' (G (b.at a' (.inRegion ops rest::k)) cs) w')->a7 P main Rl Gu Stop s (G (b.at a (.inRegion ops (i::rest)::k)) cs) w)(d:∀l s a w,Region.ready md ops l=[]->aa l s a w->a7 P main Rl Gu Stop s (G (b.at a (.inRegion ops []::k)) cs) w): ∀(c t:Nat)(l:Array Bool)(s:S)(a:Act)(w:ab),qH ops l<=c->aa l s a w->a7 P main Rl Gu Stop s (G (b.at a (.inRegion ops (Region.linearise.go md ops c t l [])::k)) cs) w:=by
 intro c;induction c with
 |zero=>
  intro t l s a w n g;exact d l s a w (XR U) g
 |succ c o=>
  intro t l s a w n g;simp only[Region.linearise.go];change a7 P main Rl Gu Stop s (G (b.at a (.inRegion ops (match (Region.ready md ops l)[t % (Region.ready md ops l).length]? with
   |some i=>Region.linearise.go md ops c (t / (Region.ready md ops l).length) (l.setIfInBounds i true) [i]
   |none=> [].reverse)::k)) cs) w
  cases af:(Region.ready md ops l)[t % (Region.ready md ops l).length]? with
  |none=>
   have f:Region.ready md ops l=[]:=by
    cases cl:Region.ready md ops l with
    |nil=>rfl
    |cons x xs=>
     rw[cl]at af;have j:t % (x::xs).length< (x::xs).length:=Nat.mod_lt _ ag;simp at af;simp at j;omega
   exact d l s a w f g
  |some i=>
   simp only[];rw[linearise_go_acc,List.reverse_singleton,List.singleton_append];have m:=ze af;exact e l s a w i _ m go_nil g λs' a' w' h=>o _ _ _ _ _ (by have:=amY m;omega) h
end
section
variable{K:bj}{j:Nat}{s:aM}{Stop:aM->Goroutine->World->Prop}
variable{b:Frame}{a:Act}{kk:List Item}{cs:List Frame}{w:World}{ops:Array Oper}{i:Nat}{rest:List Nat}{o:Oper}
def Pv{w w':ab}{d:Nat}(h:w'={w with drawn:=w.drawn+d}):e7 K (some j) s s w w' #[]:=by
 subst h;exact⟨rfl,.refl _,rfl,bh _,λ_ _ _ _=>rfl,id,λ_ _=>rfl,λb=>⟨.inl,λh=>h.elim id λh=>by simp at h;omega⟩,λe a=>by simp at a,by simp[deafBehind]⟩
def XT{c:Nat}(e:∀al t,Rl K (some j) s w al->dW Tryz.prog K j Stop s (G (b.at a (.inRegion ops (Region.schedule (Tryz.prog.follows .mixedOrders) ops t)::kk)) cs) {al with drawn:=al.drawn+1}): dW Tryz.prog K j Stop s (G (b.at a (.code (.region c ops true)::kk)) cs) w:=a7.fW rfl λal r=>⟨s,_,_,_,stepG_region_draw,Pv (d:=1) rfl,e al _ r⟩
def XU{v:ai}(ap:ops[i]? =some o)(c:Region.wanted o (yielded ops a.tmps)=true)(hk:b.kind≠.early)(e:∀w,(execOp a.eval o).run Tryz.prog w=.ok (.value v) w)(f:∀w,(execOp a.eval o).events Tryz.prog w #[]= #[])(g:∀al,Rl K (some j) s w al->dW Tryz.prog K j Stop s (G (b.at (a.put o.dst v) (.inRegion ops rest::kk)) cs) al):dW Tryz.prog K j Stop s (G (b.at a (.inRegion ops (i::rest)::kk)) cs) w:=by
 refine a7.fW rfl λal r=>⟨s,_,_,_,stepG_value ap c hk (e al),?_,g al r⟩;have:listed Tryz.prog b.fn a o al= #[]:=(by unfold listed;rw[f al];simp[seen_def]);rw[this];exact Pv (d:=0) rfl
def amZ{F:ab->Prop}{t:TypeId}{x y:Operand}{v u:ai}(ap:ops[i]? =some o)(A:Region.wanted o (yielded ops a.tmps)=true)(hk:b.kind≠.early)(B:o.op=.store t x y)(M:a.eval x=.pointer (some ⟨K.bb,j,none⟩))(N:a.eval y=v)(C:∀w,F w->w.cell? ⟨K.bb,j,none⟩=some u->w.frozen? ⟨K.bb,j,none⟩=false->(execOp a.eval o).runT Tryz.prog w #[]=(.ok .skip (w.setCell ⟨K.bb,j,none⟩ v),#[⟨.cell ⟨K.bb,j,none⟩,true,false⟩]))(hF:F w)(D:∀{w al},F w->Rl K (some j) s w al->F al)(E:∀w,F w->w.cell? ⟨K.bb,j,none⟩=some u/\w.frozen? ⟨K.bb,j,none⟩=false)(H:∀w,F w->dW Tryz.prog K j Stop s (G (b.at (a.put o.dst I) (.inRegion ops rest::kk)) cs) (w.setCell ⟨K.bb,j,none⟩ v)):dW Tryz.prog K j Stop s (G (b.at a (.inRegion ops (i::rest)::kk)) cs) w:=by
 refine a7.fW rfl λal q=> ?_;have hF:=D hF q;obtain⟨l,aa⟩:=E al hF;have n:=C al hF l aa;rw[Sem.runT_eq]at n;injection n with n J;refine⟨s,_,_,_,stepG_none ap A hk n,?_,H _ hF⟩;have r:∀k,k≠K.bb->(al.setCell ⟨K.bb,j,none⟩ v).heap[k]? =al.heap[k]? :=λk e=>by
  show(al.heap.modify _ _)[k]? =_
  rw[fA,aC (λq=>e q.symm)]
 have aK:(al.setCell ⟨K.bb,j,none⟩ v).heap.size=al.heap.size:=(by simp[World.setCell]);have f:∀e∈listed Tryz.prog b.fn a o al,e=⟨.cell ⟨K.bb,j,none⟩,true,false⟩:=λe g=>by
  have:=mem_listed g;rw[J]at this;simpa using this
 refine⟨rfl,.refl _,rfl,by rw[aK];exact bh _,λb _ _ d=>r b d,λ⟨cs,p,L⟩=>⟨cs.setIfInBounds j v,?_,by simpa using L⟩,λk hk=> ?_,λb=>⟨.inl,λh=>h.elim id λh=>by rw[aK]at h;omega⟩,λe g=> ?_,z2 λe g m=> ?_⟩
 .show(al.heap.modify _ _)[K.bb]? =_
  rw[fA,p];simp
 .unfold World.cell? at l⊢;split at l
  .rename_i c t z d;have e:(al.setCell ⟨K.bb,j,none⟩ v).heap[K.bb]? =some (.cells (c.setIfInBounds j v) t z):=by
    show(al.heap.modify _ _)[K.bb]? =_
    rw[fA,d];simp
   have d:al.heap[K.bb]? =some (.cells c t z):=d;have:j≠k:=λe=>hk (by rw[e]);simp[e,d,this]
  .cases l
 .rw[f e g];exact .cell rfl
 .rw[f e g];simp
def Pw {f:FuncId} {fn:Func} {c:Code} {args:Array Operand} {h:Array TypeId} (ap:ops[i]? =some o) (m:Region.wanted o (yielded ops a.tmps)=true) (hk:b.kind≠.early) (g:o.op=.call {callee:=.value (.func f),args,argTypes:=h}) (k:Tryz.prog.funcs[f]? =some fn) (e:(fn.name== "runtime.NumGoroutine")=false) (l:fn.body=some c) (n:∀al,Rl K (some j) s w al->dW Tryz.prog K j Stop s (G (Frame.enter Tryz.prog f (args.map a.eval) .normal) (b.at a (.inRegion ops (i::rest)::kk)::cs)) al):dW Tryz.prog K j Stop s (G (b.at a (.inRegion ops (i::rest)::kk)) cs) w:=by
 have p:∀w,(execOp a.eval o).run Tryz.prog w=.ok (.enter f (args.map a.eval)) w:=λw=>run_call_body g k e (by rw[l];rfl);have q:∀w,(execOp a.eval o).events Tryz.prog w #[]= #[]:=λw=>by
  have t:¬fn.name= "runtime.NumGoroutine" :=(by simpa using e);unfold execOp;simp[g,resolve,Deferred.ofValue,invoke,callFunc,k,t,l,Act.eval]
 refine a7.fW rfl λal r=>⟨s,_,_,_,stepG_enter ap m hk (p al),?_,n al r⟩;have:listed Tryz.prog b.fn a o al= #[]:=(by unfold listed;rw[q al];simp[seen_def]);rw[this];exact Pv (d:=0) rfl
end
end Go.bp
namespace Go.bp

open Go Go.Conc Go.ConcN Go.RowKit Go.Conc.Lib Go.ConcR.Gen Go.Proofs Go.bG Go.Ren
section
variable{Rl:aM->World->World->Prop}{Gu:aM->aM->World->World->Array Event->Prop}{Stop:aM->Goroutine->World->Prop}{main:Bool}{s:aM}{b:Frame}{a:Act}{kk:List Item}{cs:List Frame}{w:World}{ops:Array Oper}{i:Nat}{rest:List Nat}{o:Oper}{F:World->Prop}
def rL{x x1:bY}{a:bW}(b:∀w,Gu s s w w #[])(hF:F w)(c:∀{w al},F w->Rl s w al->F al)(h:∀w,stepG Tryz.prog main (G x cs) w=.go (G x1 a) w #[])(d:∀w,F w->a7 Tryz.prog main Rl Gu Stop s (G x1 a) w):a7 Tryz.prog main Rl Gu Stop s (G x cs) w:=a7.fW rfl λal r=>⟨s,_,_,_,h al,b al,d al (c hF r)⟩
def xz{v:ai}(c:∀w,Gu s s w w #[])(hF:F w)(d:∀{w al},F w->Rl s w al->F al)(ap:ops[i]? =some o)(e:Region.wanted o (yielded ops a.tmps)=true)(hk:b.kind≠.early)(f:∀w,(execOp a.eval o).run Tryz.prog w=.ok (.value v) w)(g:∀w,(execOp a.eval o).events Tryz.prog w #[]= #[])(h:∀w,F w->a7 Tryz.prog main Rl Gu Stop s (G (b.at (a.put o.dst v) (.inRegion ops rest::kk)) cs) w):a7 Tryz.prog main Rl Gu Stop s (G (b.at a (.inRegion ops (i::rest)::kk)) cs) w:=by
 refine a7.fW rfl λal r=>⟨s,_,_,_,stepG_value ap e hk (f al),?_,h al (d hF r)⟩;have:listed Tryz.prog b.fn a o al= #[]:=(by unfold listed;rw[g al];simp[seen_def]);rw[this];exact c _
def HW(hF:F w)(f:∀{w al},F w->Rl s w al->F al)(ap:ops[i]? =some o)(g:Region.wanted o (yielded ops a.tmps)=true)(hk:b.kind≠.early)(h:∀w,F w->∃v w2 es c,(execOp a.eval o).runT Tryz.prog w #[]=(.ok (.value v) w2,es)/\(∀aH:bI,(∀e∈aH,e∈es)->Gu s c w w2 aH)/\a7 Tryz.prog main Rl Gu Stop c (G (b.at (a.put o.dst v) (.inRegion ops rest::kk)) cs) w2): a7 Tryz.prog main Rl Gu Stop s (G (b.at a (.inRegion ops (i::rest)::kk)) cs) w:=by
 refine a7.fW rfl λal r=> ?_;have⟨v,w2,es,c,d,j,k⟩:=h al (f hF r);rw[Sem.runT_eq]at d;injection d with d l;exact⟨c,_,_,_,stepG_value ap g hk d,j _ λe m=>by have:=mem_listed m;rw[l]at this;exact this,k⟩
def XV(hF:F w)(f:∀{w al},F w->Rl s w al->F al)(ap:ops[i]? =some o)(g:Region.wanted o (yielded ops a.tmps)=true)(hk:b.kind≠.early)(h:∀w,F w->∃w2 es c,(execOp a.eval o).runT Tryz.prog w #[]=(.ok .skip w2,es)/\(∀aH:bI,(∀e∈aH,e∈es)->Gu s c w w2 aH)/\a7 Tryz.prog main Rl Gu Stop c (G (b.at (a.put o.dst I) (.inRegion ops rest::kk)) cs) w2): a7 Tryz.prog main Rl Gu Stop s (G (b.at a (.inRegion ops (i::rest)::kk)) cs) w:=by
 refine a7.fW rfl λal r=> ?_;have⟨w2,es,c,d,j,k⟩:=h al (f hF r);rw[Sem.runT_eq]at d;injection d with d l;exact⟨c,_,_,_,stepG_none ap g hk d,j _ λe m=>by have:=mem_listed m;rw[l]at this;exact this,k⟩
def HX {f:FuncId} {fn:Func} {c:Code} {args:Array Operand} {g:Array TypeId} (m:∀w,Gu s s w w #[]) (hF:F w) (n:∀{w al},F w->Rl s w al->F al) (ap:ops[i]? =some o) (p:Region.wanted o (yielded ops a.tmps)=true) (hk:b.kind≠.early) (e:o.op=.call {callee:=.value (.func f),args,argTypes:=g}) (k:Tryz.prog.funcs[f]? =some fn) (d:(fn.name== "runtime.NumGoroutine")=false) (l:fn.body=some c) {vs:aQ} (h:args.map a.eval=vs) (q:∀w,F w->a7 Tryz.prog main Rl Gu Stop s (G (Frame.enter Tryz.prog f vs .normal) (b.at a (.inRegion ops (i::rest)::kk)::cs)) w):a7 Tryz.prog main Rl Gu Stop s (G (b.at a (.inRegion ops (i::rest)::kk)) cs) w:=by
 subst h;have j:∀w,(execOp a.eval o).run Tryz.prog w=.ok (.enter f (args.map a.eval)) w:=λw=>run_call_body e k d (by rw[l];rfl);have t:∀w,(execOp a.eval o).events Tryz.prog w #[]= #[]:=λw=>by
  have u:¬fn.name= "runtime.NumGoroutine" :=(by simpa using d);unfold execOp;simp[e,resolve,Deferred.ofValue,invoke,callFunc,k,u,l,Act.eval]
 refine a7.fW rfl λal r=>⟨s,_,_,_,stepG_enter ap p hk (j al),?_,q al (n hF r)⟩;have:listed Tryz.prog b.fn a o al= #[]:=(by unfold listed;rw[t al];simp[seen_def]);rw[this];exact m _
def vg{dE:Operand->ai}{o:Oper}{x:Operand}(h:o.op=.move x)(w:ab):(execOp dE o).run Tryz.prog w=.ok (.value (dE x)) w/\(execOp dE o).events Tryz.prog w #[]= #[]:=by
 unfold execOp;simp only[h];exact⟨rfl,rfl⟩
def Px{dE:Operand->ai}{o:Oper}{t:TypeId}{z:ai}(h:o.op=.alloc t)(b:∀w,(zeroValue t).run Tryz.prog w=.ok z w)(a:∀w aH,(zeroValue t).events Tryz.prog w aH=aH)(w:ab): (execOp dE o).runT Tryz.prog w #[]=(.ok (.value (.pointer (some ⟨w.heap.size,0,none⟩))) (w.alloc (.cells z.cells t)),#[]):=by
 rw[Sem.runT_eq];unfold execOp;simp only[h];congr 1
 .simp only[Instr.alloc,newVar,newRow,newObj,Sem.run_bind,b,Result.andThen,Sem.run_pure];rfl
 .simp only[Instr.alloc,newVar,newRow,newObj,Sem.events_bind,Sem.run_bind,b,a,Result.andThen,Result.evThen,Sem.run_pure,Sem.events_pure];rfl
end
end Go.bp
namespace Go.bp
open Go Go.Conc Go.ConcN Go.Proofs Go.Ren Go.bG
open Go.ConcR (DC0)
section
variable{Rl:aM->World->World->Prop}{Gu:aM->aM->World->World->Array Event->Prop}{Stop:aM->Goroutine->World->Prop}{main:Bool}{s:aM}{x c:Frame}{cs:List Frame}{w:World}{F:World->Prop}
def XW{fn:Func}(b:x.mode=.returning)(hd:x.defers=[])(hk:x.kind=.normal)(d:Tryz.prog.funcs[x.fn]? =some fn)(hF:F w)(f:∀{w al},F w->Rl s w al->F al)(h:∀w,F w->∃v es a,(results fn x.tmps).runT Tryz.prog w #[]=(.ok v w,es)/\(∀aH:bI,(∀e∈aH,e∈es)->Gu s a w w aH)/\a7 Tryz.prog main Rl Gu Stop a (G (c.finish v) cs) w):a7 Tryz.prog main Rl Gu Stop s (G x (c::cs)) w:=by
 refine a7.fW rfl λal r=> ?_;have⟨v,es,a,g,i,j⟩:=h al (f hF r);refine⟨a,_,_,seen Tryz.prog x.fn es,?_,i _ λe k=>mem_seen k,j⟩;have l:stepG Tryz.prog main (G x (c::cs)) al=unwind Tryz.prog main x (c::cs) none al:=(by unfold stepG G;simp only[b]);rw[l];unfold unwind;rw[hd];simp only[b,d,g,doReturn,hk,GStep.after,Array.append_empty];rfl
end
section
variable{ShB ro own:Nat->Prop}{w:World}{c:gF}
def _root_.Go.bG.gS.am0{s:aM}{B:Nat}{t:Trace}(h:gS ShB ro s B t)(hd:s.deaf=0):Past (λl=>∃b,ShB b/\bS l b) B t:=⟨h.clean,h.known,h.over,h.deaf.trans hd,h.seen⟩
def am1{x:bY}{fn:Func}{v:ai}{Post:ai->ab->Prop}(h:c.eM ShB ro own (G x []) w)(f:x.mode=.returning)(hd:x.defers=[])(hk:x.kind=.normal)(i:Tryz.prog.funcs[x.fn]? =some fn)(af:Tryz.prog.inits.idxOf? x.fn=none)(j:∀w,(results fn x.tmps).runT Tryz.prog w #[]=(.ok v w,#[]))(k:∀al,AtRel w al->Post v al): ∃N a o w' g,runNT Tryz.prog (N+1) (crowd c.gs w c.sl) c.t=(.ended o w',g)/\runN Tryz.prog N (crowd c.gs w c.sl)=.next a/\step Tryz.prog a=.ended o w'/\Good Tryz.prog Post a o w' g:=by
 refine beside_ends (D:=DC0) (Shun:=λl=>∃b,ShB b/\bS l b) (B:=w.heap.size) (n:=0) (λ_ _ _ h e d=>by rw[h.2]at d;simp at d) h.g0 h.fD (h.pm.am0 rfl) ?_;intro al q;refine⟨rfl,v,#[],?_,λe d=>absurd d (xA _),k _ q⟩;have m:stepG Tryz.prog true (G x []) al=unwind Tryz.prog true x [] none al:=(by unfold stepG G;simp only[f]);rw[m];unfold unwind;rw[hd];simp only[f,i,j,doReturn,hk,GStep.after,af,y2,ea,cY];rfl
def gF.iB.ends{a b:gF}{x y:ab}(h:a.iB x b y){Q:Machine->Outcome->ab->Trace->Prop}(k:∃N c o w' d,runNT Tryz.prog (N+1) (crowd b.gs y b.sl) b.t=(.ended o w',d)/\runN Tryz.prog N (crowd b.gs y b.sl)=.next c/\step Tryz.prog c=.ended o w'/\Q c o w' d): ∃N c o w' d,runNT Tryz.prog (N+1) (crowd a.gs x a.sl) a.t=(.ended o w',d)/\runN Tryz.prog N (crowd a.gs x a.sl)=.next c/\step Tryz.prog c=.ended o w'/\Q c o w' d:=by
 obtain⟨M,h⟩:=h;obtain⟨N,c,o,w',d,f,g,i,j⟩:=k;refine⟨M+N,c,o,w',d,?_,?_,i,j⟩
 .rw[oh,Pm M h (N+1)];exact f
 .have e:=Pm M h N;have ay:=runNT_fst Tryz.prog (M+N) (crowd a.gs x a.sl) a.t;have aF:=runNT_fst Tryz.prog N (crowd b.gs y b.sl) b.t;rw[<-ay,e,aF,g]
def am2{g:aY}(h:∀b,own b\/ro b->b<w.heap.size):gF.eM ⟨#[g],none,#[],λ_=>0⟩ aD ro own g w:=⟨rfl,leavers_one _ _,past_nil.clean,λi a d _=>by simp[touchAt,Trace.act?]at d,past_nil.over,λop c=>by simp at c,ag,rfl,λb e=>e.elim,h⟩
end
end Go.bp
namespace Go.bp
open Go Go.Conc Go.ConcN Go.RowKit Go.Conc.Lib Go.ConcR.Gen Go.Proofs Go.bG Go.Ren
structure DO(K:bj)(own:Nat->Prop)(N:Nat):Prop where
 lt:K.Wg<N/\K.bm<N/\K.bb<N/\K.bU<N
 oR:¬own K.Wg/\¬own K.bm/\¬own K.bb/\¬own K.bU
 ro:∀b,K.ro b->b<N/\¬own b/\b≠K.Wg/\b≠K.bm/\b≠K.bb/\b≠K.bU
 ne:K.Wg≠K.bm/\K.bb≠K.Wg/\K.bb≠K.bm/\K.bU≠K.Wg/\K.bU≠K.bm/\K.bU≠K.bb
structure SV(K:bj)(i:Nat)(aU:ab)(e0:jO)(s:aM)(w:ab):Prop where
 aT:hf K w
 wg:WgLive K w
 pay:hg K w
 ro:∀b,K.ro b->w.heap[b]? =aU.heap[b]?
 cell:w.cell? ⟨K.bb,i,none⟩=e0
 dx:DO K s.own w.heap.size
section
variable{K:bj}{i:Nat}{aU:World}{e0:Option Value}{s s':aM}{w al:World}
def DO.le{own:Nat->Prop}{N a:Nat}(h:DO K own N)(k:N<=a):DO K own a:=⟨⟨fl h.lt.1 k,fl h.lt.2.1 k,fl h.lt.2.2.1 k,fl h.lt.2.2.2 k⟩,h.oR,λb c=>⟨fl (h.ro b c).1 k,(h.ro b c).2⟩,h.ne⟩
def SV.rely(h:SV K i aU e0 s w)(r:Rl K (some i) s w al):SV K i aU e0 s al:=⟨r.aT h.aT,r.wg h.wg,r.pay h.pay,λb a=>(r.kept b (h.dx.ro b a).1 (.inr a)).trans (h.ro b a),(r.cell i rfl).trans h.cell,h.dx.le r.size⟩
def SV.aoc{es:bI}(h:SV K i aU e0 s w)(g:pu s s' K.ro w al es):SV K i aU e0 s' al:=by
 have c:∀b,b<w.heap.size->¬s.own b->al.heap[b]? =w.heap[b]? :=g.kept;have d:∀b,b<w.heap.size->¬s.own b->¬s'.own b:=λb j e f=>((g.own b).1 f).elim e λh=>U;refine⟨h.aT.of_block (c _ h.dx.lt.2.1 h.dx.oR.2.1),h.wg.of_block (c _ h.dx.lt.1 h.dx.oR.1),h.pay.of_block (c _ h.dx.lt.2.2.1 h.dx.oR.2.2.1),λb a=>(c b (h.dx.ro b a).1 (h.dx.ro b a).2.1).trans (h.ro b a),?_,?_⟩
 .rw[<-h.cell];simp only[World.cell?];rw[c _ h.dx.lt.2.2.1 h.dx.oR.2.2.1]
 .have G:=h.dx.le g.size;exact⟨G.lt,⟨d _ h.dx.lt.1 h.dx.oR.1,d _ h.dx.lt.2.1 h.dx.oR.2.1,d _ h.dx.lt.2.2.1 h.dx.oR.2.2.1,d _ h.dx.lt.2.2.2 h.dx.oR.2.2.2⟩,λb a=>⟨(G.ro b a).1,d b (h.dx.ro b a).1 (h.dx.ro b a).2.1,(G.ro b a).2.2⟩,G.ne⟩
def SV.aod(h:SV K i aU e0 s w):aR K i s.own w w:=⟨h.aT,h.wg,h.pay,λ_ _ _=>rfl,rfl,bh _,⟨h.dx.oR.2.1,λq=>(h.dx.ro _ q).2.2.2.1 rfl,h.dx.ne.2.2.1,h.dx.ne.1⟩⟩
def Yr{ro ro':Nat->Prop}{es:bI}(h:pu s s' ro w al es)(k:∀b,ro b->ro' b):pu s s' ro' w al es:=⟨h.tape,h.os,h.out,h.size,h.drawn,h.kept,h.own,λe a=>(h.aH e a).imp (λq=>q.imp (λ⟨b,c,d⟩=>⟨b,c.imp id λ⟨x,y⟩=>⟨k b x,y⟩,d⟩) id) id,h.deaf⟩
end
structure ST(K:bj)(i:Nat)(aU:ab)(R:Nat->Prop)(f0 f:Ren)(wl:ab)(e0:jO)(s:aM)(w:ab):Prop extends SV K i aU e0 s w where
 own:∀b,s.own b↔cV R f b
 deaf:s.deaf=0
 le:bs f0 f
 wr:bR (cd true) R f wl w
 mS:∀b,ft R f b->K.ro b
section
variable{K:bj}{i:Nat}{aU:World}{R:Nat->Prop}{f0 f:Ren}{wl:World}{e0:Option Value}{s:aM}{w al:World}{Stop:aM->Goroutine->World->Prop}
def ST.rely(h:ST K i aU R f0 f wl e0 s w)(r:Rl K (some i) s w al):ST K i aU R f0 f wl e0 s al:=by
 refine⟨h.toSV.rely r,h.own,h.deaf,h.le,?_,h.mS⟩;have q:=r.rely;exact h.wr.rely ⟨q.tape,q.env,q.size,λb a c=>q.kept b a (c.imp (h.own b).2 (h.mS b))⟩
def ST.hold(h:ST K i aU R f0 f wl e0 s w):s=⟨cV R f,0⟩:=by
 obtain⟨o,d⟩:=s;have:=h.deaf;simp only at this;subst this;congr 1;exact funext λb=>propext (h.own b)
def Ys(h:ST K i aU R f0 f wl e0 s w)(D:b1 (cd true) f0){c:bY}{cs:bW}(T:mK (c::cs)){n:FuncId}(E:(cd true).fn (.func n)=true)(x:sV n=false){F:Func}(hF:aj.prog.funcs[n]? =some F)(y:Tryz.prog.funcs[n]? =some F)(l:HE F){args Dq:aQ}(G:aZ (cd true).fn f args Dq){cL:Ending->ab->Prop}(aa:∀aP d,Calls aj.prog n args (a2 wl aP d) cL)(m:∀e w,cL e w->∃v,e=.returned v)(hk:∀o p v v' aP d j w2,bs f o->ST K i aU R f0 o p e0 j w2->aB (cd true).fn o v v'->cL (.returned v) (a2 p aP d)->dW Tryz.prog K i Stop j (aJ (c.finish v') cs) w2): dW Tryz.prog K i Stop s (aJ (Frame.enter Tryz.prog n Dq .normal) (c::cs)) w:=by
 have cF:=hZ K (some i);have t:∀s w al,Rl K (some i) s w al->n3 s.own (ft R f) w al:=λs w al r=>⟨r.rely.tape,r.rely.env,r.rely.size,λb u z=>r.rely.kept b u (z.imp id (h.mS b))⟩;have H:=alK (main':=false) (dz:=0) cF t (WK true) (Xn cF t) T (D.mono h.le) E x hF y l G h.wr aa m;have e:=h.hold;have B:=h.mS;subst e;refine a7.bind cF (Xo cF (Stop':=λj C w2=>Xr (cd true) R f wl cL 0 (λv'=>aJ (c.finish v') cs) j C w2/\SV K i aU e0 j w2) (SV K i aU e0) (λs w al h r=>h.rely r) (λs s' a b es h g=>⟨h.aoc (Yr g B),?_⟩) (λs g w h k=>⟨k,h⟩) H h.toSV) λj C w2 J=> ?_;case refine_1=>exact e7.ak3 (Yr g B) h.dx.oR.2.2.1 h.dx.lt.2.2.1
 case refine_2=>
  obtain⟨⟨hd,o,w1,v,v',aP,d,u,z,P,Q,L,rfl,M,N,O⟩,A⟩:=J;refine hk o w1 v v' aP d j w2 u ⟨A,L,hd,h.le.trans u,N,λb ⟨a,e,r⟩=> ?_⟩ M O;rcases z a b e with q|q
  .exact h.mS b ⟨a,q,r⟩
  .have:=(h.wr.ro a r).2;omega
end
end Go.bp
namespace Go.bp
open Go Go.Conc Go.Proofs Go.bG Go.Ren
noncomputable def xD:Code:=Tryz.f49.body.getD .skip
def H8(n:Nat):Code->Option (dn)
 |.region j ops _=>if n=j then some ops else none
 |.seq a b=>(H8 n a).or (H8 n b)
 |_=>none
noncomputable def cG:dn:=(H8 1 xD).getD #[]
noncomputable def cX:dn:=(H8 2 xD).getD #[]
def z8{md:Region.Mode}{ops:dn}{l:Array Bool}{i:Nat}{o:Oper}(h:i∈Region.ready md ops l)(ap:ops[i]? =some o){b:cw}(c:b.all (λm=>o.after.any λe=>e.on==m && Region.binds md e)=true):∀m∈b,l.getD m false=true:=by
 intro m d;have⟨_,k,nd,f⟩:=mem_ready.1 h;rw[ap]at nd;cases nd;have:=pT.1 c m d;have⟨j,g,a⟩:=Array.any_eq_true.1 this;simp only[cu,ho]at a;have:=f _ (Du g) a.2;rwa[a.1]at this
def oS{md:Region.Mode}{ops:dn}{l:Array Bool}{i:Nat}{o:Oper}(h:l.getD i true=false)(ap:ops[i]? =some o){a:cw}(b:o.after.all (λe=>a.contains e.on)=true)(c:∀m∈a,l.getD m false=true):i∈Region.ready md ops l:=mem_ready.2 ⟨h,o,ap,λe d _=>c _ (by
  obtain⟨j,f,rfl⟩:=Array.getElem_of_mem d;simpa using Array.all_eq_true.1 b j f)⟩
def Yt{l:Array Bool}{i:Nat}(h:i<l.size)(k:l.getD i false=false):l.getD i true=false:=by simp[Array.getD,h]at k⊢;exact k
def td{a:Act}{d t:Nat}{v:ai}(hd:d<a.tmps.size):(a.put (some d) v).tmps.getD t I=if t=d then v else a.tmps.getD t I:=by
 simp only[Act.put,nM,hL];by_cases h:d=t
 .subst h;simp[hd]
 .rw[aC h,aC (λe=>h e.symm)]
def te{a:Act}{d:Option Tmp}{v:ai}:(a.put d v).tmps.size=a.tmps.size:=by cases d<;>simp[Act.put]
def H9{a:Act}{d:Option Tmp}{v:ai}:(a.put d v).defers=a.defers:=by cases d<;>rfl
def Yu(a:Act)(t:Nat):a.eval (.tmp t)=a.tmps.getD t I:=rfl
def sched{ops:dn}(h:Region.departs ops=false)(a:Bool)(t:Nat):Region.schedule a ops t=Region.linearise.go .any ops ops.size t (Array.replicate ops.size false) []:=by
 unfold Region.schedule;rw[h];simp[Region.linearise]
def aoe:Region.departs cG=false:=ah
def aof:Region.departs cX=false:=ah
def Yv:cG.size=7:=ah
def PX:cX.size=6:=ah
def Yw:cG[0]? =some (cG.getD 0 default):=ah
def aog:(cG.getD 0 default).dst=some 6:=ah
def aoh:(cG.getD 0 default).op=.load 69 (.tmp 3):=ah
def aoi:(cG.getD 0 default).guard=none:=ah
def aoj:(cG.getD 0 default).after.all (λe=>([]:cw).contains e.on)=true:=ah
def Yx:cG[1]? =some (cG.getD 1 default):=ah
def aok:(cG.getD 1 default).dst=some 7:=ah
def aol:(cG.getD 1 default).op=.load 3 (.tmp 4):=ah
def aom:(cG.getD 1 default).guard=none:=ah
def aon:(cG.getD 1 default).after.all (λe=>([]:cw).contains e.on)=true:=ah
def Yy:cG[2]? =some (cG.getD 2 default):=ah
def aoo:(cG.getD 2 default).dst=some 8:=ah
def aop:(cG.getD 2 default).op=.load 26 (.tmp 1):=ah
def aoq:(cG.getD 2 default).guard=none:=ah
def aor:(cG.getD 2 default).after.all (λe=>([]:cw).contains e.on)=true:=ah
def Yz:cG[3]? =some (cG.getD 3 default):=ah
def aos:(cG.getD 3 default).dst=some 9:=ah
def aot:(cG.getD 3 default).op=.load 25 (.tmp 2):=ah
def aou:(cG.getD 3 default).guard=none:=ah
def aov:(cG.getD 3 default).after.all (λe=>([]:cw).contains e.on)=true:=ah
def Ia:cG[4]? =some (cG.getD 4 default):=ah
def aow:(cG.getD 4 default).dst=some 10:=ah
def aox:(cG.getD 4 default).op=.call {callee:=.value (.func 24),args:= #[.tmp 8,.tmp 9,.const (.int .i64 0)],argTypes:= #[26,25,3]}:=ah
def aoy:(cG.getD 4 default).guard=none:=ah
def aoz:([2,3]:cw).all (λm=>(cG.getD 4 default).after.any λe=>e.on==m && Region.binds .any e)=true:=ah
def aoA:(cG.getD 4 default).after.all (λe=>([2,3]:cw).contains e.on)=true:=ah
def PY:cG[5]? =some (cG.getD 5 default):=ah
def aoB:(cG.getD 5 default).dst=some 11:=ah
def YA:(cG.getD 5 default).op=.indexAddr 69 (.tmp 6) (.tmp 7):=ah
def aoC:(cG.getD 5 default).guard=none:=ah
def aoD:([0,1,2,3,4]:cw).all (λm=>(cG.getD 5 default).after.any λe=>e.on==m && Region.binds .any e)=true:=ah
def aoE:(cG.getD 5 default).after.all (λe=>([0,1,2,3,4]:cw).contains e.on)=true:=ah
def PZ:cG[6]? =some (cG.getD 6 default):=ah
def aoF:(cG.getD 6 default).dst=none:=ah
def YB:(cG.getD 6 default).op=.store 60 (.tmp 11) (.tmp 10):=ah
def aoG:(cG.getD 6 default).guard=none:=ah
def aoH:([0,1,2,3,4,5]:cw).all (λm=>(cG.getD 6 default).after.any λe=>e.on==m && Region.binds .any e)=true:=ah
def aoI:(cG.getD 6 default).after.all (λe=>([0,1,2,3,4,5]:cw).contains e.on)=true:=ah
def YC:cX[0]? =some (cX.getD 0 default):=ah
def aoJ:(cX.getD 0 default).dst=some 12:=ah
def aoK:(cX.getD 0 default).op=.load 107 (.tmp 5):=ah
def aoL:(cX.getD 0 default).guard=none:=ah
def aoM:(cX.getD 0 default).after.all (λe=>([]:cw).contains e.on)=true:=ah
def YD:cX[1]? =some (cX.getD 1 default):=ah
def aoN:(cX.getD 1 default).dst=some 13:=ah
def aoO:(cX.getD 1 default).op=.load 69 (.tmp 3):=ah
def aoP:(cX.getD 1 default).guard=none:=ah
def aoQ:(cX.getD 1 default).after.all (λe=>([]:cw).contains e.on)=true:=ah
def YE:cX[2]? =some (cX.getD 2 default):=ah
def aoR:(cX.getD 2 default).dst=some 14:=ah
def aoS:(cX.getD 2 default).op=.load 3 (.tmp 4):=ah
def aoT:(cX.getD 2 default).guard=none:=ah
def aoU:(cX.getD 2 default).after.all (λe=>([]:cw).contains e.on)=true:=ah
def P0:cX[3]? =some (cX.getD 3 default):=ah
def aoV:(cX.getD 3 default).dst=some 15:=ah
def YF:(cX.getD 3 default).op=.indexAddr 69 (.tmp 13) (.tmp 14):=ah
def aoW:(cX.getD 3 default).guard=none:=ah
def aoX:([1,2]:cw).all (λm=>(cX.getD 3 default).after.any λe=>e.on==m && Region.binds .any e)=true:=ah
def aoY:(cX.getD 3 default).after.all (λe=>([1,2]:cw).contains e.on)=true:=ah
def P1:cX[4]? =some (cX.getD 4 default):=ah
def aoZ:(cX.getD 4 default).dst=some 16:=ah
def ao0:(cX.getD 4 default).op=.load 60 (.tmp 15):=ah
def ao1:(cX.getD 4 default).guard=none:=ah
def ao2:([3]:cw).all (λm=>(cX.getD 4 default).after.any λe=>e.on==m && Region.binds .any e)=true:=ah
def ao3:(cX.getD 4 default).after.all (λe=>([3]:cw).contains e.on)=true:=ah
def P2:cX[5]? =some (cX.getD 5 default):=ah
def ao4:(cX.getD 5 default).op=.call {callee:=.value (.func 51),args:= #[.tmp 12,.tmp 16],argTypes:= #[107,60]}:=ah
def ao5:(cX.getD 5 default).guard=none:=ah
def ao6:([0,4]:cw).all (λm=>(cX.getD 5 default).after.any λe=>e.on==m && Region.binds .any e)=true:=ah
def ao7:(cX.getD 5 default).after.all (λe=>([0,4]:cw).contains e.on)=true:=ah
def hn{o:Oper}(h:o.guard=none)(y:Nat->Option Bool):Region.wanted o y=true:=by unfold Region.wanted;rw[h]
def ao8{l:Array Bool}(m:l.size=7)(h:Region.ready .any cG l=[]):∀k,k<7->l.getD k false=true:=by
 have i:∀k,k∉Region.ready .any cG l:=λk=>(by rw[h];simp);have f:∀{k},k<7->(l.getD k true=false->k∈Region.ready .any cG l)->l.getD k false=true:=λ{k}hk q=>by
  cases e:l.getD k false with
  |true=>rfl
  |false=>exact absurd (q (Yt U e)) (i k)
 have c:=f (k:=0) U λq=>oS q Yw aoj ag;have d:=f (k:=1) U λq=>oS q Yx aon ag;have a:=f (k:=2) U λq=>oS q Yy aor ag;have b:=f (k:=3) U λq=>oS q Yz aov ag;have g:=f (k:=4) U λq=>oS q Ia aoA (by simp only[dY,gE,gn,DQ,forall_eq];exact⟨a,b⟩);have j:=f (k:=5) U λq=>oS q PY aoE (by simp only[dY,gE,gn,DQ,forall_eq];exact⟨c,d,a,b,g⟩);have n:=f (k:=6) U λq=>oS q PZ aoI (by simp only[dY,gE,gn,DQ,forall_eq];exact⟨c,d,a,b,g,j⟩);intro k hk;rcases k with _|_|_|_|_|_|_|k<;>first|assumption|omega
def ao9{l:Array Bool}(j:l.size=6)(h:Region.ready .any cX l=[]):∀k,k<6->l.getD k false=true:=by
 have a:∀k,k∉Region.ready .any cX l:=λk=>(by rw[h];simp);have f:∀{k},k<6->(l.getD k true=false->k∈Region.ready .any cX l)->l.getD k false=true:=λ{k}hk q=>by
  cases e:l.getD k false with
  |true=>rfl
  |false=>exact absurd (q (Yt U e)) (a k)
 have b:=f (k:=0) U λq=>oS q YC aoM ag;have c:=f (k:=1) U λq=>oS q YD aoQ ag;have d:=f (k:=2) U λq=>oS q YE aoU ag;have g:=f (k:=3) U λq=>oS q P0 aoY (by simp only[dY,gE,gn,DQ,forall_eq];exact⟨c,d⟩);have i:=f (k:=4) U λq=>oS q P1 ao3 (by simpa using g);have m:=f (k:=5) U λq=>oS q P2 ao7 (by simp only[dY,gE,gn,DQ,forall_eq];exact⟨b,i⟩);intro k hk;rcases k with _|_|_|_|_|_|k<;>first|assumption|omega
end Go.bp
namespace Go.bp
open Go Go.Conc Go.Proofs Go.bG Go.Ren
def Ib{dE:Operand->ai}{o:Oper}{x y:Operand}(ap:o.op=.indexAddr 69 x y){g n c i:Nat}(a:dE x=.slice (some ⟨g,0,none⟩) n c)(b:dE y=.int .i64 i)(af:i<n)(w:ab):(execOp dE o).run Tryz.prog w=.ok (.value (.pointer (some ⟨g,i,none⟩))) w/\(execOp dE o).events Tryz.prog w #[]= #[]:=by
 unfold execOp;simp only[ap,a,b];have d:(i:Int)< (n:Int):=U;have e:(0:Int)<=(i:Int):=U;constructor<;>simp[go_sem,af,d,e,Tryz.underlying69,Tryz.sizeOf60]
def apa{dE:Operand->ai}{o:Oper}{x y:Operand}(ap:o.op=.store 60 x y){p:Addr}{v u:ai}(b:dE x=.pointer (some p))(c:dE y=v)(w:ab)(h:w.cell? p=some u)(a:w.frozen? p=false)(d:v=.nilIface\/∃T q,v=.iface T q):(execOp dE o).runT Tryz.prog w #[]=(.ok .skip (w.setCell p v),#[⟨.cell p,true,false⟩]):=by
 unfold execOp;simp only[ap,b,c];show((Instr.storeAt 60 (.pointer (some p)) v).bind _).runT Tryz.prog w #[]=_
 rw[hx];have:(Instr.storeAt 60 (.pointer (some p)) v).runT Tryz.prog w #[]=(.ok () (w.setCell p v),#[⟨.cell p,true,false⟩]):=by
  unfold Instr.storeAt Instr.sureAddr storeVar Go.sizeOf typeInfo Go.program;simp only[Bind.bind,Sem.bind,Sem.runT,Pure.pure];have af:(Tryz.prog.info? 60).map (·.size)=some 1:=ah;cases en:Tryz.prog.info? 60 with
  |none=>rw[en]at af;cases af
  |some i=>
   rw[en]at af;have af:i.size=1:=(by simpa using af);simp only[Sem.bind,Sem.runT,af];rcases d with rfl|⟨T,q,rfl⟩
   .rw[aC (by simp[Value.cells])];show(storeCells p [Value.nilIface]).runT Tryz.prog w #[]=_
    simp only[storeCells,store,Bind.bind,Sem.bind,Sem.runT,Pure.pure,Addr.add,dd,h];rw[a];rfl
   .rw[aC (by simp[Value.cells])];show(storeCells p [Value.iface T q]).runT Tryz.prog w #[]=_
    simp only[storeCells,store,Bind.bind,Sem.bind,Sem.runT,Pure.pure,Addr.add,dd,h];rw[a];rfl
 rw[this];rfl
structure vi(K:bj)(i:Nat)(aU:ab)(R:Nat->Prop)(f0:Ren)(dM:ab)(kd:Int)(kN kh kO bz bn av bL a9 ba:Nat)(bv ee:ai)(cL:ai->ab->Prop)(kP:ai->ab->Prop):Prop where
 xE:K.n<=8
 lt:i<K.n
 wL:b1 (cd true) f0
 Ic:f0 kN=some bz/\¬R kN
 xF:f0 kh=some bn/\¬R kh
 P3:f0 kO=some av
 z9:dM.cell? ⟨kN,0,none⟩=some (.pointer (some ⟨kO,0,none⟩))
 Aa:dM.cell? ⟨kh,0,none⟩=some (.int .i64 i)
 tf:K.ro bL/\aU.cell? ⟨bL,0,none⟩=some ee
 pF:K.ro a9/\aU.cell? ⟨a9,0,none⟩=some (.slice (some ⟨K.bb,0,none⟩) K.n K.n)
 tg:K.ro ba/\aU.cell? ⟨ba,0,none⟩=some (.pointer (some ⟨K.bm,0,none⟩))
 apb:aB (cd true).fn f0 bv ee
 apc:∀aP d,Calls aj.prog 24 #[.pointer (some ⟨kO,0,none⟩),bv,.int .i64 0] (a2 dM aP d) λe w=>∃v,e=.returned v/\cL v w
 Ie:∀v w,cL v w->(v=.nilIface\/∃T q,v=.iface T q)/\w.cell? ⟨kN,0,none⟩=some (.pointer (some ⟨kO,0,none⟩))/\w.cell? ⟨kh,0,none⟩=some (.int .i64 i)
 told:∀v wl OZ d',cL v (a2 wl OZ d')->∀aP d,Calls aj.prog 23 #[v] (a2 wl aP d) λe w=>∃ec,e=.returned (.tuple #[.int .i64 kd,ec])/\kP v w
section
variable{K:bj}{i:Nat}{aU:World}{R:Nat->Prop}{f0:Ren}{dM:World}{kd:Int}{kN kh kO bz bn av bL a9 ba:Nat}{bv ee:Value}{cL kP:Value->World->Prop}{cv0:Value}
inductive ei(K:bj)(i:Nat)(aU:World)(R:Nat->Prop)(f0:Ren)(dM:World)(cv0:Value)(cL:Value->World->Prop)(z5:Value):Bool->Bool->aM->World->Prop
 |before {s w}:ST K i aU R f0 f0 dM (some cv0) s w->ei K i aU R f0 dM cv0 cL z5 false false s w
 |behind {s w q f wl v aP d}:ST K i aU R f0 f wl (some (if q then z5 else cv0)) s w->aB (cd true).fn f v z5->cL v (a2 wl aP d)->ei K i aU R f0 dM cv0 cL z5 true q s w
def ei.rely{a:ai}{p q:Bool}{s:aM}{w al:ab}(h:ei K i aU R f0 dM cv0 cL a p q s w)(r:Rl K (some i) s w al):ei K i aU R f0 dM cv0 cL a p q s al:=by
 cases h with
 |before h=>exact .before (h.rely r)
 |behind h b c=>exact .behind (h.rely r) b c
def ei.sv{a:ai}{p q:Bool}{s:aM}{w:ab}(h:ei K i aU R f0 dM cv0 cL a p q s w):∃e0,SV K i aU e0 s w:=by
 cases h with
 |before h=>exact⟨_,h.toSV⟩
 |behind h b c=>exact⟨_,h.toSV⟩
def ei.apd{a:ai}{p q:Bool}{s:aM}{w:ab}(h:ei K i aU R f0 dM cv0 cL a p q s w){b:Nat}(c:K.ro b):w.cell? ⟨b,0,none⟩=aU.cell? ⟨b,0,none⟩:=by
 have⟨e0,h⟩:=h.sv;simp only[World.cell?];rw[h.ro b c]
def ei.own{c:ai}{p q:Bool}{s:aM}{w:ab}(h:ei K i aU R f0 dM cv0 cL c p q s w){a b:Nat}(e:f0 a=some b)(d:¬R a):s.own b:=by
 cases h with
 |before h=>exact(h.own b).2 ⟨a,e,d⟩
 |behind h f g=>exact(h.own b).2 ⟨a,h.le _ _ e,d⟩
def ei.ape{b:ai}{p q:Bool}{s:aM}{w:ab}(h:ei K i aU R f0 dM cv0 cL b p q s w)(H:vi K i aU R f0 dM kd kN kh kO bz bn av bL a9 ba bv ee cL kP):w.cell? ⟨bz,0,none⟩=some (.pointer (some ⟨av,0,none⟩)):=by
 cases h with
 |before h=>
  have⟨v,c,d⟩:=h.wr.cell (a:=⟨kN,0,none⟩) H.Ic.1 H.z9;cases d with|ptr e=>rw[H.P3]at e;cases e;exact c
 |behind h g f=>
  have⟨v,c,d⟩:=h.wr.cell (a:=⟨kN,0,none⟩) (h.le _ _ H.Ic.1) (H.Ie _ _ f).2.1;cases d with|ptr e=>rw[h.le _ _ H.P3]at e;cases e;exact c
def ei.P4{b:ai}{p q:Bool}{s:aM}{w:ab}(h:ei K i aU R f0 dM cv0 cL b p q s w)(H:vi K i aU R f0 dM kd kN kh kO bz bn av bL a9 ba bv ee cL kP):w.cell? ⟨bn,0,none⟩=some (.int .i64 i):=by
 cases h with
 |before h=>
  have⟨v,c,d⟩:=h.wr.cell (a:=⟨kh,0,none⟩) H.xF.1 H.Aa;cases d;exact c
 |behind h f e=>
  have⟨v,c,d⟩:=h.wr.cell (a:=⟨kh,0,none⟩) (h.le _ _ H.xF.1) (H.Ie _ _ e).2.2;cases d;exact c
end
end Go.bp
namespace Go.bp
open Go Go.Conc Go.ConcN Go.Proofs Go.bG Go.Ren
section
variable{K:bj}{i:Nat}{aU:World}{R:Nat->Prop}{f0:Ren}{dM:World}{kd:Int}{kN kh kO bz bn av bL a9 ba:Nat}{bv ee:Value}{cL kP:Value->World->Prop}{cv0:Value}{Stop:aM->Goroutine->World->Prop}
structure n9(K:bj)(i:Nat)(aU:ab)(R:Nat->Prop)(f0:Ren)(dM:ab)(bz bn av bL a9 ba:Nat)(ee cv0:ai)(cL:ai->ab->Prop)(bX:List Deferred)(l:Array Bool)(s:aM)(a:Act)(w:ab):Prop where
 aK:a.tmps.size=18
 gb:a.defers=bX
 qN:l.size=7
 t1:a.tmps.getD 1 I=.pointer (some ⟨bz,0,none⟩)
 t2:a.tmps.getD 2 I=.pointer (some ⟨bL,0,none⟩)
 t3:a.tmps.getD 3 I=.pointer (some ⟨a9,0,none⟩)
 t4:a.tmps.getD 4 I=.pointer (some ⟨bn,0,none⟩)
 t5:a.tmps.getD 5 I=.pointer (some ⟨ba,0,none⟩)
 mm:l.getD 0 false=true->a.tmps.getD 6 I=.slice (some ⟨K.bb,0,none⟩) K.n K.n
 gM:l.getD 1 false=true->a.tmps.getD 7 I=.int .i64 i
 p2:l.getD 2 false=true->a.tmps.getD 8 I=.pointer (some ⟨av,0,none⟩)
 p3:l.getD 3 false=true->a.tmps.getD 9 I=ee
 j5:l.getD 5 false=true->a.tmps.getD 11 I=.pointer (some ⟨K.bb,i,none⟩)
 a4:ei K i aU R f0 dM cv0 cL (a.tmps.getD 10 I) (l.getD 4 false) (l.getD 6 false) s w
def DR{l:Array Bool}{k m:Nat}(hk:k<l.size):(l.setIfInBounds k true).getD m false=if m=k then true else l.getD m false:=by
 simp only[nM,hL];by_cases h:k=m
 .subst h;simp[hk]
 .rw[aC h,aC (λe=>h e.symm)]
def n9.rely{bX:List Deferred}{l:Array Bool}{s:aM}{a:Act}{w al:ab}(h:n9 K i aU R f0 dM bz bn av bL a9 ba ee cv0 cL bX l s a w)(r:Rl K (some i) s w al):n9 K i aU R f0 dM bz bn av bL a9 ba ee cv0 cL bX l s a al:={h with a4:=h.a4.rely r}
def n9.next{bX:List Deferred}{l:Array Bool}{s:aM}{a:Act}{w:ab}(h:n9 K i aU R f0 dM bz bn av bL a9 ba ee cv0 cL bX l s a w){k d:Nat}{v:ai}(hk:k<7)(u:k≠4)(x:k≠6)(hd:d<18)(p:6<=d)(r:d≠10)(b:d=6↔k=0)(f:d=7↔k=1)(g:d=8↔k=2)(j:d=9↔k=3)(o:d=11↔k=5)(bE:k=0->v=.slice (some ⟨K.bb,0,none⟩) K.n K.n)(v1:k=1->v=.int .i64 i)(v2:k=2->v=.pointer (some ⟨av,0,none⟩))(bA:k=3->v=ee)(aX:k=5->v=.pointer (some ⟨K.bb,i,none⟩)): n9 K i aU R f0 dM bz bn av bL a9 ba ee cv0 cL bX (l.setIfInBounds k true) s (a.put (some d) v) w:=by
 have qN:=h.qN;have T:∀t,(a.put (some d) v).tmps.getD t I=if t=d then v else a.tmps.getD t I:=λt=>td (by rw[h.aK];exact hd);have L:∀m,(l.setIfInBounds k true).getD m false=if m=k then true else l.getD m false:=λm=>DR U;refine⟨by rw[te];exact h.aK,by rw[H9];exact h.gb,by simpa using qN,?_,?_,?_,?_,?_,?_,?_,?_,?_,?_,?_⟩
 .rw[T,aC U];exact h.t1
 .rw[T,aC U];exact h.t2
 .rw[T,aC U];exact h.t3
 .rw[T,aC U];exact h.t4
 .rw[T,aC U];exact h.t5
 .rw[T,L];by_cases e:k=0
  .rw[aV (c:=6=d) (b.2 e).symm];exact λ_=>bE e
  .rw[aC (c:=0=k) (λq=>e q.symm),aC (c:=6=d) (λq=>e (b.1 q.symm))];exact h.mm
 .rw[T,L];by_cases e:k=1
  .rw[aV (c:=7=d) (f.2 e).symm];exact λ_=>v1 e
  .rw[aC (c:=1=k) (λq=>e q.symm),aC (c:=7=d) (λq=>e (f.1 q.symm))];exact h.gM
 .rw[T,L];by_cases e:k=2
  .rw[aV (c:=8=d) (g.2 e).symm];exact λ_=>v2 e
  .rw[aC (c:=2=k) (λq=>e q.symm),aC (c:=8=d) (λq=>e (g.1 q.symm))];exact h.p2
 .rw[T,L];by_cases e:k=3
  .rw[aV (c:=9=d) (j.2 e).symm];exact λ_=>bA e
  .rw[aC (c:=3=k) (λq=>e q.symm),aC (c:=9=d) (λq=>e (j.1 q.symm))];exact h.p3
 .rw[T,L];by_cases e:k=5
  .rw[aV (c:=11=d) (o.2 e).symm];exact λ_=>aX e
  .rw[aC (c:=5=k) (λq=>e q.symm),aC (c:=11=d) (λq=>e (o.1 q.symm))];exact h.j5
 .rw[T,L,L,aC U,aC U,aC U];exact h.a4
def ST.store{f:Ren}{wl w:ab}{e0 x:ai}{s:aM}(h:ST K i aU R f0 f wl (some e0) s w)(j:w.frozen? ⟨K.bb,i,none⟩=false):ST K i aU R f0 f wl (some x) s (w.setCell ⟨K.bb,i,none⟩ x):=by
 have a:∀k,k≠K.bb->(w.setCell ⟨K.bb,i,none⟩ x).heap[k]? =w.heap[k]? :=λk e=>by
  show(w.heap.modify _ _)[k]? =_
  rw[fA,aC (λq=>e q.symm)]
 have aK:(w.setCell ⟨K.bb,i,none⟩ x).heap.size=w.heap.size:=(by simp[World.setCell]);have g:=h.dx;have d:∀b,s.own b\/K.ro b->b≠K.bb:=λb c e=>(by subst e;exact c.elim g.oR.2.2.1 λq=>(g.ro _ q).2.2.2.2.1 rfl);have⟨cs,p,l⟩:=h.pay;refine⟨⟨h.aT.of_block (a _ (λe=>g.ne.2.2.1 e.symm)),h.wg.of_block (a _ (λe=>g.ne.2.1 e.symm)),⟨cs.setIfInBounds i x,?_,by simpa using l⟩,λb c=>(a b (d b (.inr c))).trans (h.ro b c),(rG h.cell j).1,by rw[aK];exact g⟩,h.own,h.deaf,h.le,?_,h.mS⟩
 .show(w.heap.modify _ _)[K.bb]? =_
  rw[fA,p];simp
 .exact h.wr.rely ⟨rfl,rfl,by rw[aK];exact bh _,λb _ c=>a b (d b (c.imp (h.own b).2 (h.mS b)))⟩
noncomputable def iE:bY:={(default:bY)with fn:=Tryz.prog.funcs.size,defers:=[],mode:=.panicking [goexitEntry]}
def YG:HD iE:=by intro l k q;cases q
def apf{a:Act}{k:eQ}(hk:∀l k',k≠.inRangeFunc l::k'):mK (((baseD 49).at a k)::[iE]):=⟨⟨rfl,hk⟩,λc b=>by simp only[dY,gE,gn]at b;subst b;exact YG⟩
def apg(H:vi K i aU R f0 dM kd kN kh kO bz bn av bL a9 ba bv ee cL kP)(M:∀w,hg K w->w.frozen? ⟨K.bb,i,none⟩=false){bX:List Deferred}{kk:eQ}{l:Array Bool}{s:aM}{a:Act}{w:ab}{k:Nat}{rest:cw}(hk:k∈Region.ready .any cG l)(h:n9 K i aU R f0 dM bz bn av bL a9 ba ee cv0 cL bX l s a w)(n:∀s' a' w',n9 K i aU R f0 dM bz bn av bL a9 ba ee cv0 cL bX (l.setIfInBounds k true) s' a' w'->dW Tryz.prog K i Stop s' (G ((baseD 49).at a' (.inRegion cG rest::kk)) [iE]) w'): dW Tryz.prog K i Stop s (G ((baseD 49).at a (.inRegion cG (k::rest)::kk)) [iE]) w:=by
 have D:k<7:=(by have⟨_,o,ap,_⟩:=mem_ready.1 hk;have:=(bQ.1 ap).1;rwa[Yv]at this);have N:=(mem_ready.1 hk).1;have p:=h.qN;have z:l.getD k false=false:=(by simp only[Array.getD,p,D,dif_pos]at N⊢;exact N);have ro:∀{b:Nat}{w:ab},n9 K i aU R f0 dM bz bn av bL a9 ba ee cv0 cL bX l s a w->K.ro b->w.cell? ⟨b,0,none⟩=aU.cell? ⟨b,0,none⟩:=λh O=>h.a4.apd O;rcases k with _|_|_|_|_|_|_|k
 .refine ta (F:=n9 K i aU R f0 dM bz bn av bL a9 ba ee cv0 cL bX l s a) Yw (hn aoi _) (by simp[baseD]) aoh h.t3 Tryz.isAgg69 h (λh r=>h.rely r) (λw h=>(ro h H.pF.1).trans H.pF.2) (.ro (bS.cell _) H.pF.1 rfl) λw h=> ?_;rw[aog];exact n _ _ _ (h.next U U U U U U U U U U U (λ_=>rfl) U U U U)
 .refine ta (F:=n9 K i aU R f0 dM bz bn av bL a9 ba ee cv0 cL bX l s a) Yx (hn aom _) (by simp[baseD]) aol h.t4 Tryz.isAgg3 h (λh r=>h.rely r) (λw h=>h.a4.P4 H) (.own (bS.cell _) (h.a4.own H.xF.1 H.xF.2) ag) λw h=> ?_;rw[aok];exact n _ _ _ (h.next U U U U U U U U U U U U (λ_=>rfl) U U U)
 .refine ta (F:=n9 K i aU R f0 dM bz bn av bL a9 ba ee cv0 cL bX l s a) Yy (hn aoq _) (by simp[baseD]) aop h.t1 Tryz.isAgg26 h (λh r=>h.rely r) (λw h=>h.a4.ape H) (.own (bS.cell _) (h.a4.own H.Ic.1 H.Ic.2) ag) λw h=> ?_;rw[aoo];exact n _ _ _ (h.next U U U U U U U U U U U U U (λ_=>rfl) U U)
 .refine ta (F:=n9 K i aU R f0 dM bz bn av bL a9 ba ee cv0 cL bX l s a) Yz (hn aou _) (by simp[baseD]) aot h.t2 Tryz.isAgg25 h (λh r=>h.rely r) (λw h=>(ro h H.tf.1).trans H.tf.2) (.ro (bS.cell _) H.tf.1 rfl) λw h=> ?_;rw[aos];exact n _ _ _ (h.next U U U U U U U U U U U U U U (λ_=>rfl) U)
 ·
  have pre:=z8 hk Ia aoz;have p2:=h.p2 (pre 2 ag);have p3:=h.p3 (pre 3 ag);refine Pw Ia (hn aoy _) (by simp[baseD]) aox Tryz.func24 ah (show Tryz.f24.body=some (Tryz.f24.body.getD .skip) by kernel_rfl) λal r=> ?_;replace h:=h.rely r;have f:=h.a4;rw[z]at f;generalize P:l.getD 6 false=V at f;cases f with
  |before f=>
   have y:(#[Operand.tmp 8,.tmp 9,.const (.int .i64 0)].map a.eval)= #[.pointer (some ⟨av,0,none⟩),ee,.int .i64 0]:=(by simp[Yu,p2,p3,Act.eval]);rw[y];refine Ys (s:=s) f H.wL (apf ag) (F:=Tryz.f24) ah ah ah Tryz.func24 (.inl ⟨6,ah⟩) (args:= #[.pointer (some ⟨kO,0,none⟩),bv,.int .i64 0]) ?_ H.apc (λe w ⟨v,h,_⟩=>⟨v,h⟩) λW Q v v' aP d X w2 S A az ⟨v2,g,E⟩=> ?_
   .refine((aZ.one (.ptr (a:=⟨kO,0,none⟩) H.P3)).push H.apb).push (.int _ _)
   .cases g;rw[Frame.finish_at,Ia];show dW _ _ _ _ _ (G ((baseD 49).at (a.put (cG.getD 4 default).dst v') _) [iE]) _
    rw[aow];have T:∀t,(a.put (some 10) v').tmps.getD t I=if t=10 then v' else a.tmps.getD t I:=λt=>td (by rw[h.aK];omega);have L:∀m,(l.setIfInBounds 4 true).getD m false=if m=4 then true else l.getD m false:=λm=>DR U;refine n _ _ _ ⟨by rw[te];exact h.aK,by rw[H9];exact h.gb,by simpa using p,?_,?_,?_,?_,?_,?_,?_,?_,?_,?_,?_⟩
    .rw[T];exact h.t1
    .rw[T];exact h.t2
    .rw[T];exact h.t3
    .rw[T];exact h.t4
    .rw[T];exact h.t5
    .rw[T,L];exact h.mm
    .rw[T,L];exact h.gM
    .rw[T,L];exact h.p2
    .rw[T,L];exact h.p3
    .rw[T,L];exact h.j5
    .rw[T,L,L,P];exact .behind A az E
 .have pre:=z8 hk PY aoD;have mm:=h.mm (pre 0 ag);have gM:=h.gM (pre 1 ag);refine XU PY (hn aoC _) (by simp[baseD]) (λw=>(Ib YA mm gM H.lt w).1) (λw=>(Ib YA mm gM H.lt w).2) λal r=> ?_;rw[aoB];exact n _ _ _ ((h.rely r).next U U U U U U U U U U U U U U U (λ_=>rfl))
 ·
  have c:=h;have pre:=z8 hk PZ aoH;have j5:=h.j5 (pre 5 ag);have p4:=pre 4 ag;have aa:=z;have f:=h.a4;rw[p4,aa]at f;generalize J:a.tmps.getD 10 I=x at f;have B:x=.nilIface\/∃T q,x=.iface T q:=by
   cases f with
   |behind j g C=>
    rcases(H.Ie _ _ C).1 with rfl|⟨T,q,rfl⟩
    .cases g;exact .inl rfl
    .cases g;exact .inr ⟨_,_,rfl⟩
  refine amZ (F:=λw=>ei K i aU R f0 dM cv0 cL x true false s w) (u:=cv0) PZ (hn aoG _) (by simp[baseD]) YB j5 J (λw _ j g=>apa YB j5 J w j g B) f (λh r=>h.rely r) (λw h=> ?_) λw h=> ?_
  .cases h with
   |behind j g C=>exact⟨by simpa using j.cell,M w j.pay⟩
  .rw[aoF];show dW _ _ _ _ _ (G ((baseD 49).at a _) [iE]) _
   have L:∀m,(l.setIfInBounds 6 true).getD m false=if m=6 then true else l.getD m false:=λm=>DR U;refine n _ _ _ ⟨c.aK,c.gb,by simpa using p,c.t1,c.t2,c.t3,c.t4,c.t5,?_,?_,?_,?_,?_,?_⟩
   .rw[L];exact c.mm
   .rw[L];exact c.gM
   .rw[L];exact c.p2
   .rw[L];exact c.p3
   .rw[L];exact c.j5
   .rw[L,L,J];simp only[dd,show¬(4=6) by omega,cY,p4];cases h with
    |behind j g C=>exact .behind (by simpa using j.store (x:=x) (M _ j.pay)) g C
 .omega
end
end Go.bp
namespace Go.bp
open Go Go.Conc Go.ConcN Go.RowKit Go.Conc.Lib Go.ConcR.Gen Go.Proofs Go.bG Go.Ren
open Go.ConcR (KK wgBlock WgAt stA smA rd wr mk DC0)
open Go.ConcM (OsLater goes_pad goes_le)
open Go.aS (Th Sh a6 mv Pc hd)
section
variable{K:bj}{Post:Nat->(Nat->Prop)->World->Prop}{i:Nat}{kd:Int}{aN:Nat->Prop}{W:World}
def apN(b:K.cW=link.tWg){x:ai}(c:W.cell? ⟨K.bb,i,none⟩=some x)(d:∀w,aR K i aN W w->Post i aN w){a:Act}(hd:a.defers=[dcall 50 #[.pointer (some ⟨K.Wg,0,none⟩)]]): ∀w,aR K i aN W w->qB K Post i ⟨aN,0⟩ 5 (G ((baseD 49).at a (.inRegion cX []::[])) [iE]) w:=by
 intro w hF;u_c stepG_region_end aR.rely hF
 u_c stepG_end aR.rely hF
 u_in aR.rely hF
 obtain⟨Io,f⟩:=a;simp only at hd;subst hd;rw[stepG_unwind_enter rfl Tryz.func50 ah rfl];simp only[goes_go];refine⟨by u_nil,?_⟩;refine Goes.stop λal r=> ?_;have e:QuitsD Tryz.prog 2 0 (G {(baseD 49).at ⟨Io,[]⟩ []with mode:=.returning} [iE]):=by
  refine QuitsD.ctl (g':=G iE []) rfl (λw=> ?_) ?_
  .simp[G,stepG,unwind,doReturn,results,Frame.at,baseD,iE,Tryz.func49,Tryz.f49,seen,GStep.after,goexitEntry]
  .refine QuitsD.ctl (g':={G iE []with status:=.finished}) rfl (λw=> ?_) ⟨rfl,rfl⟩;simp[G,stepG,unwind,iE,goexitEntry,Frame.catches];rfl
 exact amN (W:=W) (F:=aR K i aN W) rfl e (λh r=>h.rely r) d b _ (aR.rely hF r) c (aR.rely hF r)
abbrev Ac(K:bj)(i:Nat)(Stop:aM->aY->ab->Prop)(s:aM)(m:Nat)(g:aY)(w:ab):Prop:=Goes Tryz.prog false (Rl K (some i) s) DC0 (λg w=>dW Tryz.prog K i Stop s g w) m g w
def Ac.cK{Stop:aM->aY->ab->Prop}{s:aM}{m:Nat}{g:aY}{w:ab}(h:Ac K i Stop s m g w):dW Tryz.prog K i Stop s g w:=a7.bind (hZ K (some i)) (a7.wS (own:=s) (Gu:=e7 K (some i)) (λ_ _ r=>r) (λ_ _ _ h=>zT h) h) λ_ _ _ ⟨e,h⟩=>e▸h
def apO{N:Fn->Bool}{f:Ren}{k:Int}{u v':ai}(h:aB N f (.tuple #[.int .i64 k,u]) v'):∃e,v'=.tuple #[.int .i64 k,e]/\aB N f u e:=by
 generalize d:(Value.tuple #[.int .i64 k,u])=x at h;cases h with
 |@tuple y i j g=>
  injection d with d;subst d;obtain⟨l⟩:=i;rcases l with _|⟨a,_|⟨b,_|⟨c,l⟩⟩⟩<;>simp at j;have m:=g 0 _ _ (by simp;rfl) (by simp;rfl);have n:=g 1 _ _ (by simp;rfl) (by simp;rfl);cases m;exact⟨b,rfl,n⟩
 |de h=>cases d
 |_=>cases d
end
section
variable{K:bj}{Post:Nat->(Nat->Prop)->World->Prop}{i:Nat}{aU:World}{R:Nat->Prop}{f0:Ren}{dM:World}{kd:Int}{kN kh kO bz bn av bL a9 ba:Nat}{bv ee:Value}{cL kP:Value->World->Prop}{cv0:Value}
def Qi(K:bj)(i:Nat)(R:Nat->Prop)(f0:Ren)(kP:ai->ab->Prop)(own:Nat->Prop)(w:ab):Prop:=∃f wl v x aP d W,bs f0 f/\(∀b,own b↔cV R f b)/\bR (cd true) R f wl W/\W.heap.size<=w.heap.size/\(∀b,b<W.heap.size->own b\/K.ro b->w.heap[b]? =W.heap[b]?)/\(∀b,ft R f b->K.ro b)/\w.cell? ⟨K.bb,i,none⟩=some x/\aB (cd true).fn f v x/\kP v (a2 wl aP d)
def apP(H:vi K i aU R f0 dM kd kN kh kO bz bn av bL a9 ba bv ee cL kP)(p:K.cW=link.tWg)(J:∀own w,Qi K i R f0 kP own w->Post i own w){a:Act}(hd:a.defers=[dcall 50 #[.pointer (some ⟨K.Wg,0,none⟩)]])(k:Nat){f:Ren}{wl:ab}{v x:ai}{aP:Nat->Question->Nat}{d:Nat}{s:aM}{w:ab}(hF:ST K i aU R f0 f wl (some x) s w)(t:aB (cd true).fn f v x)(C:cL v (a2 wl aP d)): dW Tryz.prog K i (oN Tryz.prog K h5 Post i kd k {pc:=.ld} λ_=>0) s (G (Frame.enter Tryz.prog 51 #[.pointer (some ⟨K.bm,0,none⟩),x] .normal) ((baseD 49).at a (.inRegion cX [5]::[])::[iE])) w:=by
 have c:Frame.enter Tryz.prog 51 #[.pointer (some ⟨K.bm,0,none⟩),x] .normal=(base 51).at ⟨#[.pointer (some ⟨K.bm,0,none⟩),x,I,I,I,I,I,I,I,I,I,I,I,I,I,I,I,I,I,I,I,I,I,I,I],[]⟩ [.code Ip]:=ah;rw[c];refine Ac.cK (m:=20) ?_;simp only[Ip,Tryz.f51,e2];repeat w_go ST.rely
 refine Goes.stop (λal r=>Pw rfl rfl (by k_ne) rfl Tryz.func23 ah (show Tryz.f23.body=some (Tryz.f23.body.getD .skip) by kernel_rfl) λcO L=> ?_);replace hF:=(hF.rely r).rely L;rw[show Array.map (Act.eval ⟨#[.pointer (some ⟨K.bm,0,none⟩),x,I,I,I,I,I,x,I,I,I,I,I,I,I,I,I,I,I,I,I,I,I,I,I],[]⟩) #[Operand.tmp 7]= #[x] by kernel_rfl];refine Ys hF H.wL ⟨⟨rfl,by intro l k q;cases q⟩,λY D=> ?_⟩ (F:=Tryz.f23) ah ah ah Tryz.func23 (.inr ⟨2,3,ah⟩) (args:= #[v]) (aZ.one t) (H.told v wl aP d C) (λe w ⟨M,h,_⟩=>⟨_,h⟩) λN y u Z O P Q w2 j n S ⟨M,o,z⟩=> ?_
 .simp only[dY,gE,gn]at D;rcases D with rfl|rfl
  .intro l k q;cases q
  .exact YG
 clear hF;injection o with o;subst o;obtain⟨T,rfl,-⟩:=apO S;rw[Frame.finish_at];have hF:=n;have A:=t.mono j;clear n C t j c;refine Ac.cK (m:=20) ?_;walk_nrm
 iterate 6 w_go ST.rely
 refine Goes.stop λE aa=> ?_;replace hF:=hF.rely aa;clear aa;obtain⟨aN,az⟩:=Q;obtain rfl:az=0:=hF.deaf;have g:=hF.dx;refine cq.cK (apM (W:=E) (kd:=kd) (b₀:=baseD 49) (a₀:=a) (ops₀:=cX) (i₀:=5) (rest₀:=[]) (k₀:=[]) (cs:=[iE]) H.xE g.oR.2.2.2 (λq=>(g.ro _ q).2.2.2.2.2 rfl) g.ne.2.2.2.2.1 g.ne.2.2.2.1 g.ne.2.2.2.2.2 (λ_=>0) ⟨5,λDX V=>apN p (x:=x) hF.cell (λawa B=>J _ _ ⟨N,y,v,x,O,P,E,hF.le,hF.own,hF.wr,B.size,λb X o=>B.kept b X o,hF.mS,B.cell.trans hF.cell,A,z⟩) (by rw[H9];exact hd) _ V⟩ _ _ _ _ _ _ _ _ _ _ _ _ _ _ _ _ _ _ _ _ _ _ _ k _ hF.toSV.aod)
end
end Go.bp
namespace Go.bp
open Go Go.Conc Go.ConcN Go.RowKit Go.Conc.Lib Go.ConcR.Gen Go.Proofs Go.bG Go.Ren
open Go.ConcR (DC0)
section
variable{K:bj}{Post:Nat->(Nat->Prop)->World->Prop}{i:Nat}{aU:World}{R:Nat->Prop}{f0:Ren}{dM:World}{kd:Int}{kN kh kO bz bn av bL a9 ba:Nat}{bv ee:Value}{cL kP:Value->World->Prop}{cv0:Value}
def apQ{w:ab}(h:hg K w)(i:Nat):w.frozen? ⟨K.bb,i,none⟩=false:=by
 obtain⟨cs,h,_⟩:=h;simp[World.frozen?,h]
def ST.P4(H:vi K i aU R f0 dM kd kN kh kO bz bn av bL a9 ba bv ee cL kP){f:Ren}{wl w:ab}{e0:jO}{s:aM}{v:ai}{aP:Nat->Question->Nat}{d:Nat}(h:ST K i aU R f0 f wl e0 s w)(b:cL v (a2 wl aP d)):w.cell? ⟨bn,0,none⟩=some (.int .i64 i):=by
 have⟨v,c,e⟩:=h.wr.cell (a:=⟨kh,0,none⟩) (h.le _ _ H.xF.1) (H.Ie _ _ b).2.2;cases e;exact c
structure jJ(K:bj)(i:Nat)(aU:ab)(R:Nat->Prop)(f0 f:Ren)(wl:ab)(bn a9 ba:Nat)(x:ai)(bX:List Deferred)(l:Array Bool)(s:aM)(a:Act)(w:ab):Prop where
 aK:a.tmps.size=18
 gb:a.defers=bX
 qN:l.size=6
 t3:a.tmps.getD 3 I=.pointer (some ⟨a9,0,none⟩)
 t4:a.tmps.getD 4 I=.pointer (some ⟨bn,0,none⟩)
 t5:a.tmps.getD 5 I=.pointer (some ⟨ba,0,none⟩)
 mm:l.getD 0 false=true->a.tmps.getD 12 I=.pointer (some ⟨K.bm,0,none⟩)
 gM:l.getD 1 false=true->a.tmps.getD 13 I=.slice (some ⟨K.bb,0,none⟩) K.n K.n
 p2:l.getD 2 false=true->a.tmps.getD 14 I=.int .i64 i
 p3:l.getD 3 false=true->a.tmps.getD 15 I=.pointer (some ⟨K.bb,i,none⟩)
 p4:l.getD 4 false=true->a.tmps.getD 16 I=x
 Hb:l.getD 5 false=false
 ij:(l.getD 4 false=true->l.getD 3 false=true)/\(l.getD 3 false=true->l.getD 1 false=true/\l.getD 2 false=true)
 a4:ST K i aU R f0 f wl (some x) s w
def apR{ops:dn}{l:Array Bool}(h:∀i,i<ops.size->l.getD i false=true):qH ops l=0:=by
 unfold qH;rw[tv,List.filter_eq_nil_iff];intro i af;have a:=h i (uY.1 af);have:i<l.size:=by
  rcases dH i l.size with h|h
  .exact h
  .simp[Array.getD,Nat.not_lt.2 h]at a
 simp[Array.getD,this]at a⊢;exact a
def jJ.rely{f:Ren}{wl:ab}{x:ai}{bX:List Deferred}{l:Array Bool}{s:aM}{a:Act}{w al:ab}(h:jJ K i aU R f0 f wl bn a9 ba x bX l s a w)(r:Rl K (some i) s w al):jJ K i aU R f0 f wl bn a9 ba x bX l s a al:={h with a4:=h.a4.rely r}
def jJ.next{f:Ren}{wl:ab}{x:ai}{bX:List Deferred}{l:Array Bool}{s:aM}{a:Act}{w:ab}(h:jJ K i aU R f0 f wl bn a9 ba x bX l s a w){k d:Nat}{v:ai}(hk:k<5)(hd:d=12+k)(bE:k=0->v=.pointer (some ⟨K.bm,0,none⟩))(v1:k=1->v=.slice (some ⟨K.bb,0,none⟩) K.n K.n)(v2:k=2->v=.int .i64 i)(bA:k=3->v=.pointer (some ⟨K.bb,i,none⟩))(v4:k=4->v=x)(b:k=3->l.getD 1 false=true/\l.getD 2 false=true)(g:k=4->l.getD 3 false=true): jJ K i aU R f0 f wl bn a9 ba x bX (l.setIfInBounds k true) s (a.put (some d) v) w:=by
 have qN:=h.qN;have T:∀t,(a.put (some d) v).tmps.getD t I=if t=d then v else a.tmps.getD t I:=λt=>td (by rw[h.aK];omega);have L:∀m,(l.setIfInBounds k true).getD m false=if m=k then true else l.getD m false:=λm=>DR U;refine⟨by rw[te];exact h.aK,by rw[H9];exact h.gb,by simpa using qN,?_,?_,?_,?_,?_,?_,?_,?_,by rw[L,if_neg U];exact h.Hb,⟨?_,?_⟩,h.a4⟩
 .rw[T,aC U];exact h.t3
 .rw[T,aC U];exact h.t4
 .rw[T,aC U];exact h.t5
 .rw[T,L];by_cases e:k=0
  .rw[aV (c:=12=d) U];exact λ_=>bE e
  .rw[aC (c:=0=k) U,aC (c:=12=d) U];exact h.mm
 .rw[T,L];by_cases e:k=1
  .rw[aV (c:=13=d) U];exact λ_=>v1 e
  .rw[aC (c:=1=k) U,aC (c:=13=d) U];exact h.gM
 .rw[T,L];by_cases e:k=2
  .rw[aV (c:=14=d) U];exact λ_=>v2 e
  .rw[aC (c:=2=k) U,aC (c:=14=d) U];exact h.p2
 .rw[T,L];by_cases e:k=3
  .rw[aV (c:=15=d) U];exact λ_=>bA e
  .rw[aC (c:=3=k) U,aC (c:=15=d) U];exact h.p3
 .rw[T,L];by_cases e:k=4
  .rw[aV (c:=16=d) U];exact λ_=>v4 e
  .rw[aC (c:=4=k) U,aC (c:=16=d) U];exact h.p4
 .rw[L,L];by_cases e:k=4
  .intro _;rw[aC U];exact g e
  .rw[aC (c:=4=k) U];intro q;split
   .rfl
   .exact h.ij.1 q
 .rw[L,L,L];by_cases e:k=3
  .intro _;rw[aC U,aC U];exact b e
  .rw[aC (c:=3=k) U];intro q;have:=h.ij.2 q;constructor<;>split<;>first|rfl|exact this.1|exact this.2
abbrev Qj(K:bj)(Post:Nat->(Nat->Prop)->ab->Prop)(i:Nat)(kd:Int)(n:Nat):aM->aY->ab->Prop:=oN Tryz.prog K h5 Post i kd n {pc:=.ld} λ_=>0
def apS(H:vi K i aU R f0 dM kd kN kh kO bz bn av bL a9 ba bv ee cL kP)(p:K.cW=link.tWg)(y:∀own w,Qi K i R f0 kP own w->Post i own w){f:Ren}{wl:ab}{v x:ai}{aP:Nat->Question->Nat}{d:Nat}(z:aB (cd true).fn f v x)(q:cL v (a2 wl aP d))(n:Nat){l:Array Bool}{s:aM}{a:Act}{w:ab}{k:Nat}{rest:cw}(hk:k∈Region.ready .any cX l)(c:qH cX (l.setIfInBounds k true)=0->rest=[])(h:jJ K i aU R f0 f wl bn a9 ba x [dcall 50 #[.pointer (some ⟨K.Wg,0,none⟩)]] l s a w)(g:∀s' a' w',jJ K i aU R f0 f wl bn a9 ba x [dcall 50 #[.pointer (some ⟨K.Wg,0,none⟩)]] (l.setIfInBounds k true) s' a' w'->dW Tryz.prog K i (Qj K Post i kd n) s' (G ((baseD 49).at a' (.inRegion cX rest::[])) [iE]) w'): dW Tryz.prog K i (Qj K Post i kd n) s (G ((baseD 49).at a (.inRegion cX (k::rest)::[])) [iE]) w:=by
 have A:k<6:=(by have⟨_,o,ap,_⟩:=mem_ready.1 hk;have:=(bQ.1 ap).1;rwa[PX]at this);have B:=h.qN;let F:=jJ K i aU R f0 f wl bn a9 ba x [dcall 50 #[.pointer (some ⟨K.Wg,0,none⟩)]] l s a
 have ro:∀{b:Nat}{w:ab},F w->K.ro b->w.cell? ⟨b,0,none⟩=aU.cell? ⟨b,0,none⟩:=λh C=>(by simp only[World.cell?];rw[h.a4.ro _ C]);rcases k with _|_|_|_|_|_|k
 .refine ta (F:=F) YC (hn aoL _) (by simp[baseD]) aoK h.t5 Tryz.isAgg107 h (λh r=>jJ.rely h r) (λw h=>(ro h H.tg.1).trans H.tg.2) (.ro (bS.cell _) H.tg.1 rfl) λw h=> ?_;rw[aoJ];exact g _ _ _ (jJ.next h U rfl (λ_=>rfl) U U U U U U)
 .refine ta (F:=F) YD (hn aoP _) (by simp[baseD]) aoO h.t3 Tryz.isAgg69 h (λh r=>jJ.rely h r) (λw h=>(ro h H.pF.1).trans H.pF.2) (.ro (bS.cell _) H.pF.1 rfl) λw h=> ?_;rw[aoN];exact g _ _ _ (jJ.next h U rfl U (λ_=>rfl) U U U U U)
 .refine ta (F:=F) YE (hn aoT _) (by simp[baseD]) aoS h.t4 Tryz.isAgg3 h (λh r=>jJ.rely h r) (λw h=>h.a4.P4 H q) (.own (bS.cell _) ((h.a4.own _).2 ⟨_,h.a4.le _ _ H.xF.1,H.xF.2⟩) ag) λw h=> ?_;rw[aoR];exact g _ _ _ (jJ.next h U rfl U U (λ_=>rfl) U U U U)
 .have pre:=z8 hk P0 aoX;have gM:=h.gM (pre 1 ag);have p2:=h.p2 (pre 2 ag);refine XU P0 (hn aoW _) (by simp[baseD]) (λw=>(Ib YF gM p2 H.lt w).1) (λw=>(Ib YF gM p2 H.lt w).2) λal r=> ?_;rw[aoV];exact g _ _ _ (jJ.next (h.rely r) U rfl U U U (λ_=>rfl) U (λ_=>⟨pre 1 ag,pre 2 ag⟩) U)
 .have pre:=z8 hk P1 ao2;have p3:=h.p3 (pre 3 ag);refine ta (F:=F) P1 (hn ao1 _) (by simp[baseD]) ao0 p3 Tryz.isAgg60 h (λh r=>jJ.rely h r) (λw h=>h.a4.cell) (.cell rfl) λw h=> ?_;rw[aoZ];exact g _ _ _ (jJ.next h U rfl U U U U (λ_=>rfl) U (λ_=>pre 3 ag))
 ·
  have pre:=z8 hk P2 ao6;have mm:=h.mm (pre 0 ag);have p4:=h.p4 (pre 4 ag);obtain rfl:rest=[]:=c (apR λm D=>by
   rw[PX]at D;rw[DR U];split
   .rfl
   .have t:=pre 4 ag;have u:=h.ij.1 t;have j:=h.ij.2 u;rcases m with _|_|_|_|_|_|m
    .exact pre 0 ag
    .exact j.1
    .exact j.2
    .exact u
    .exact t
    .omega
    .omega)
  refine Pw P2 (hn ao5 _) (by simp[baseD]) ao4 Tryz.func51 ah (show Tryz.f51.body=some (Tryz.f51.body.getD .skip) by kernel_rfl) λal r=> ?_;have e:(#[Operand.tmp 12,.tmp 16].map a.eval)= #[.pointer (some ⟨K.bm,0,none⟩),x]:=(by simp[Yu,mm,p4]);rw[e];exact apP H p y h.gb n (h.a4.rely r) z q
 .omega
def pG{n k:Nat}:¬(Array.replicate n false).getD k false=true:=by simp[Array.getD]
def YR(ops:dn)(l:Array Bool):qH ops l<=ops.size:=by
 unfold qH;exact dU (Fu _ _) ag
def apT:xD=.seq (.region 0 #[{dst:=none,op:=.defer {callee:=.value (.func 50),args:= #[.tmp 0],argTypes:= #[116]},type:=0,pos:= "mirror.go:195",after:= #[],guard:=none}] false) (.seq (.region 1 cG true) (.region 2 cX true)):=ah
def ST.drawn{f:Ren}{wl w:ab}{e0:jO}{s:aM}(h:ST K i aU R f0 f wl e0 s w)(d:Nat):ST K i aU R f0 f wl e0 s {w with drawn:=d}:=h.rely ⟨rfl,.refl _,rfl,bh _,λ_ _ _=>rfl,id,id,id,λ_ _=>rfl⟩
def apU(H:vi K i aU R f0 dM kd kN kh kO bz bn av bL a9 ba bv ee cL kP)(o:K.cW=link.tWg)(A:∀own w,Qi K i R f0 kP own w->Post i own w)(n:Nat){s:aM}{w:ab}(hF:ST K i aU R f0 f0 dM (some cv0) s w): dW Tryz.prog K i (Qj K Post i kd n) s (G ((baseD 49).at ⟨#[.pointer (some ⟨K.Wg,0,none⟩),.pointer (some ⟨bz,0,none⟩),.pointer (some ⟨bL,0,none⟩),.pointer (some ⟨a9,0,none⟩),.pointer (some ⟨bn,0,none⟩),.pointer (some ⟨ba,0,none⟩),I,I,I,I,I,I,I,I,I,I,I,I],[]⟩ [.code xD]) [iE]) w:=by
 rw[apT];refine Ac.cK (m:=20) ?_;w_go ST.rely
 w_go ST.rely
 u_defer ST.rely hF
 w_go ST.rely
 w_go ST.rely
 refine Goes.stop λal f=>XT λcO t g=> ?_;replace hF:=(hF.rely f).rely g;rw[sched aoe];refine XS (md:=.any) (λl s a w=>n9 K i aU R f0 dM bz bn av bL a9 ba ee cv0 cL [dcall 50 #[.pointer (some ⟨K.Wg,0,none⟩)]] l s a w) (λl s a w k rest hk _ b p=>apg H (λw h=>apQ h i) hk b p) (λl s a w j b=> ?_) _ _ _ _ _ _ (YR _ _) ⟨rfl,rfl,by simp[Yv],rfl,rfl,rfl,rfl,rfl,λh=>absurd h pG,λh=>absurd h pG,λh=>absurd h pG,λh=>absurd h pG,λh=>absurd h pG,?_⟩;rotate_left
 .have z:∀k,(Array.replicate cG.size false).getD k false=false:=λk=>(by simp[Array.getD]);rw[z,z];exact .before (hF.drawn _)
 .clear hF f g;have c:=ao8 b.qN j;have d:=b.a4;rw[c 4 U,c 6 U]at d;have q:=b.aK;have r:=b.gb;have u:=b.t3;have v:=b.t4;have y:=b.t5;clear b c j;generalize a.tmps.getD 10 I=x at d;cases d with
  |behind hF B C=>
   rw[aV rfl]at hF;refine Ac.cK (m:=5) ?_;w_go ST.rely
   refine Goes.stop λal f=>XT λcO t g=> ?_;replace hF:=(hF.rely f).rely g;rw[sched aof];refine XS (md:=.any) (λl s a w=>jJ K i aU R f0 _ _ bn a9 ba x [dcall 50 #[.pointer (some ⟨K.Wg,0,none⟩)]] l s a w) (λl s a w k rest hk e b p=>apS H o A B C n hk e b p) (λl s a w j b=> ?_) _ _ _ _ _ _ (YR _ _) ⟨q,r,by simp[PX],u,v,y,λh=>absurd h pG,λh=>absurd h pG,λh=>absurd h pG,λh=>absurd h pG,λh=>absurd h pG,by simp[Array.getD],⟨λh=>absurd h pG,λh=>absurd h pG⟩,hF.drawn _⟩;have:=ao9 b.qN j 5 U;rw[b.Hb]at this;cases this
end
end Go.bp
