/- together_card proves Rows.TogetherCardSaid, the tied card of the law Together: six mirrors that goroutines feed side by side come out as the reference says, on every tape. It bears no condition of its own; the other texts lead up to it. -/
import Derived.Test.YtlcdgbhigfgehabGreatDoorQB15
import Derived.Test.YtlcdgbhigfgehabGreatDoorQB16
import Derived.Test.YtlcdgbhigfgehabGreatDoorQC10
set_option linter.all false
set_option maxRecDepth 100000
set_option maxHeartbeats 16000000
namespace Go.Proofs.YtlcdgbhigfgehabGreatDoor
open Go Go.Conc Go.ConcM Go.ChangeShapes Go.WideShapes Go.ChangeAt Go.RowKit
set_option linter.unusedVariables false
def atF{H:Type}{enc:TypeId×ai->H}{a:Assume}{C:Checked}{os:Os}{f:FuncId}{fn:Func}{s:ChangeSpec}{F:Stop.Interp}{h:List PathCond}{b k d:Bool}{l:List (String×DataW Unit)}(own:ownKnob C.prog.godebug=none)(started:os.Started)(B:C.prog.funcs[f]? =some fn)(m:∃(w:ab)(tape:Tape)(i:Input),w.os=os/\(w.forCall tape i).Shaped C.prog/\i.vars=[]/\Input.okWide C.prog (w.forCall tape i) .any w.heap.size f i/\(OpenSpec.ofChange s).preRow enc C.prog fn h b l (w.forCall tape i).memory i.args/\a.holds C.prog (lone (Frame.enter C.prog f i.args .normal) [] (w.forCall tape i)))(q:∀(W:ab)(base:Nat)(args:aQ)(bX gs:List (DataW H))(c:List MemPlace),W.ShapedOpen C.prog->(∀(j:Nat)t v,fn.params[j]? =some t->args[j]? =some v->Value.okWide C.prog W .any base t v)->DataW.Whole enc C.prog fn.params.toList s.vars b W args.toList bX gs c->laidMetH C.prog l W->∃N g o w' A,runNT C.prog (N+1) (solo (G (Frame.enter C.prog f args .normal) []) W) #[]=(.ended o w',A)/\runN C.prog N (solo (G (Frame.enter C.prog f args .normal) []) W)=.next g/\step C.prog g=.ended o w'/\Go.Conc.Good C.prog (λv cH=>s.post enc C.prog fn b k d false W args v {cH with os:=W.os,tape:=W.tape}/\OsLater W.os cH.os) g o w' A): ReturnsInLeavingWide a C os f .any ((OpenSpec.ofChange s).preRow enc C.prog fn h b l) ((OpenSpec.ofChange s).postWith enc C.prog fn F (outsideKept [.timePasses]) b k d):=by
 refine returnsInLeavingWide_of_good own started m λw tape i M D O E r _=> ?_;have u:=E;obtain⟨_,_,_,aa,x,_,_,_,_,y⟩:=u;have e:aa=fn:=kz (x.symm.trans B);subst e;obtain⟨⟨P,Q⟩,dw⟩:=r;have⟨bX,gs,c,R,dZ,hk⟩:=OpenSpec.pre_parts P;have J:=DataW.Whole.of_heap (w':=w.forCall tape i) eI R;have⟨N,g,o,w',A,S,T,az,v,ap,⟨p,z⟩,V⟩:=q (w.forCall tape i) w.heap.size i.args bX gs c D y J (Q.of_heap eI);refine⟨N,g,o,w',A,S,T,az,v,ap,?_,V⟩;obtain⟨K,L,n,X,Y,Z,g1,fC,po,ig,ug,_⟩:=p;refine postWith_blind ⟨K,L,n,X,Y,Z,g1,fC.of_heap eI,po.of_heap eI,ig.of_heap eI,leftAs_later z,ug.2⟩
def ZR{P:bF}{W:ab}{r:Reach}{base:Nat}{t e:TypeId}{a:Option Addr}{n c:Nat}(d:P.underlying t=some (.slice e))(h:Value.okWide P W r base t (.slice a n c)):∀x,a=some x->∃c t z,W.heap[x.block]? =some (.cells c t z):=by
 rintro x rfl;simp only[Value.okWide,d,Cell.okWide,Cell.ok]at h;obtain⟨_,_,_,_,row,cells,b,_⟩:=h;unfold World.shape? at b;split at b
 .rename_i c t z e;exact⟨c,t,z,e⟩
 .cases b
def ZS:Option Obj->Bool
 |some o=>match o.row? with|some (z,_)=>z.size==1|none=>false
 |none=>false
def ZT:Option Obj->Bool
 |some (.cells c _ _)=>c.size !=0 && c.toList.all Ren.ha
 |_=>false
def atG:ZS (begin Tryz.prog (λ_ _=>0) default).world.heap[0]? =true:=ah
def atH:ZT (begin Tryz.prog (λ_ _=>0) default).world.heap[2]? =true:=ah
def atI{W:ab}(h:W.ShapedOpen Tryz.prog)(f:dp W)(g:il W):kL W:=by
 obtain⟨i,j⟩:=h;have a:Tryz.prog.globals.size=2:=ah;refine⟨f,g,?_,?_⟩
 .have b:=atG;cases ap:(begin Tryz.prog (λ_ _=>0) default).world.heap[0]? with
  |none=>rw[ap]at b;cases b
  |some o=>
   rw[ap]at b;unfold ZS at b;dsimp only at b;cases cl:o.row? with
   |none=>rw[cl]at b;cases b
   |some k=>
    obtain⟨z,t⟩:=k;rw[cl]at b;obtain⟨cs,ay,aF,-⟩:=i 0 z t (by rw[a];decide) (by rw[ap];exact cl);have m:z.size=1:=(by simpa using b);obtain⟨l⟩:=cs;match l,aF.trans m with
    |[v],_=>exact⟨v,t,ay⟩
 .have b:=atH;cases ap:(begin Tryz.prog (λ_ _=>0) default).world.heap[2]? with
  |none=>rw[ap]at b;cases b
  |some o=>
   have d:2< (begin Tryz.prog (λ_ _=>0) default).world.heap.size:=(bQ.1 ap).1;have⟨n,q,ay,aF,e⟩:=j 2 (by rw[a];exact bh _) d;rw[a,aC aE]at e;rw[ap]at aF b;cases aF;subst e;cases n with
   |cells c t z=>
    simp only[ZT,cu,bne_iff_ne]at b;exact⟨c,t,z,ay,by have:=b.1;omega,λv p=>pT.1 b.2 v p⟩
   |_=>cases b
def atJ(H:Type)(enc:TypeId×ai->H)(W:ab)(base:Nat)(args:aQ)(bX gs:List (DataW H))(d:List MemPlace)(r:W.ShapedOpen Tryz.prog)(a:∀(j:Nat)t v,Tryz.f7.params[j]? =some t->args[j]? =some v->Value.okWide Tryz.prog W .any base t v)(F:DataW.Whole enc Tryz.prog Tryz.f7.params.toList Rows.togetherSpec.vars false W args.toList bX gs d)(aa:laidMetH Tryz.prog Rows.togetherRow.laid W): ∃N b o w' n,runNT Tryz.prog (N+1) (solo (G (Frame.enter Tryz.prog 7 args .normal) []) W) #[]=(.ended o w',n)/\runN Tryz.prog N (solo (G (Frame.enter Tryz.prog 7 args .normal) []) W)=.next b/\step Tryz.prog b=.ended o w'/\Go.Conc.Good Tryz.prog (λv cH=>Rows.togetherSpec.post enc Tryz.prog Tryz.f7 false true false false W args v {cH with os:=W.os,tape:=W.tape}/\OsLater W.os cH.os) b o w' n:=by
 have s:=F;obtain⟨p,q,f,X,rfl,Y,Z⟩:=F;have J:DataW.TrodAll enc Tryz.prog W 0 (λ_=>true) true Tryz.f7.params.toList args.toList bX p:=f;rw[Tryz.params7]at J a;obtain⟨bE,awK,d0,awL,mm,awM,u,rfl,rfl,K,r0⟩:=trodAll_cons J;obtain⟨v1,awN,d1,awO,gM,dA,rfl,rfl,rfl,bD,r1⟩:=trodAll_cons r0;obtain⟨v2,awP,d2,awQ,p2,c9,rfl,rfl,rfl,L,r2⟩:=trodAll_cons r1;obtain⟨bA,awR,d3,awS,p3,gg,rfl,rfl,rfl,b7,r3⟩:=trodAll_cons r2;obtain⟨v4,awT,d4,awU,p4,ks,rfl,rfl,rfl,dC,rS⟩:=trodAll_cons r3;obtain⟨aX,awV,d5,awW,j5,D1,rfl,rfl,rfl,dB,Aw⟩:=trodAll_cons rS;obtain⟨rfl,rfl,rfl⟩:=trodAll_nil Aw;obtain rfl:args= #[bE,v1,v2,bA,v4,aX]:=(by cases args;simp_all);obtain⟨rfl,rfl⟩:=trodVars_none X;have M:=K;have w:∀x∈mm,x.block<W.heap.size:=(by obtain⟨m,y⟩:=M;exact DataW.trod_lt m _ _ _ y);have g:=a 0 22 bE rfl rfl;obtain⟨iN,O,P,rfl⟩:=okWide_slice Tryz.underlying22 g;obtain⟨awX,z⟩:=K;obtain⟨nG,w0,Lq,l0,-⟩:=Rd Tryz.underlying22 Tryz.underlying9 ah z;have A:=ZR Tryz.underlying22 g;obtain⟨a1,rfl,rfl,rfl,w1⟩:=open_int Tryz.underlying3 (a 1 3 v1 rfl rfl) bD;have Q:=L;have B:∀x∈p2,x.block<W.heap.size:=(by obtain⟨m,y⟩:=Q;exact DataW.trod_lt m _ _ _ y);have i:=a 2 22 v2 rfl rfl;obtain⟨g3,R,S,rfl⟩:=okWide_slice Tryz.underlying22 i;obtain⟨awY,C⟩:=L;obtain⟨hP,w2,s2,l2,-⟩:=Rd Tryz.underlying22 Tryz.underlying9 ah C;have D:=ZR Tryz.underlying22 i;obtain⟨nO,rfl,rfl,rfl,T⟩:=open_int Tryz.underlying3 (a 3 3 bA rfl rfl) b7;obtain⟨l7,rfl,rfl,rfl,az⟩:=open_int Tryz.underlying3 (a 4 3 v4 rfl rfl) dC;obtain⟨nP,rfl,rfl,rfl,V⟩:=open_int Tryz.underlying3 (a 5 3 aX rfl rfl) dB;clear f;have cC:=atC aa;have he:=atD aa;obtain⟨N,b,o,w',n,g1,fC,po,v,ap,⟨bP,e,k,l⟩,E⟩:=asO (atI r cC he) ⟨w0,Lq,l0⟩ ⟨w2,s2,l2⟩ ⟨bounds_i64 w1,bounds_i64 T,bounds_i64 az,bounds_i64 V⟩ A D;refine⟨N,b,o,w',n,g1,fC,po,v,ap,⟨?_,k⟩,E⟩;subst bP;have c:Below W.heap.size W {w' with os:=W.os,tape:=W.tape}:=⟨rfl,rfl,l,e.1,e.2⟩;exact⟨_,_,_,[],_,[],s,trodAll_mk1 (shut_bool Tryz.underlying4 _),(trodAll_cons_mk (Below.trod ZQ ah (of_decide_eq_true ah) M c w) (trodAll_cons_mk (shut_int Tryz.underlying3 w1) (trodAll_cons_mk (Below.trod ZQ ah (of_decide_eq_true ah) Q c B) (trodAll_cons_mk (shut_int Tryz.underlying3 T) (trodAll_cons_mk (shut_int Tryz.underlying3 az) (trodAll_cons_mk (shut_int Tryz.underlying3 V) trodAll_mk0)))))),rfl,c.frame _,λh=>by cases h⟩
def atK(b:Os){H:Type}(enc:TypeId×ai->H):∃a,DataW.whole enc Tryz.prog ((QU b).forCall (λ_ _=>0) ⟨#[],#[.slice none 0 0,.int .i64 0,.slice none 0 0,.int .i64 0,.int .i64 0,.int .i64 0],[]⟩).memory Tryz.f7.params.toList Rows.togetherSpec.vars false (#[.slice none 0 0,.int .i64 0,.slice none 0 0,.int .i64 0,.int .i64 0,.int .i64 0]:aQ).toList 8=some ([.nil,.lit (.int .i64 0),.nil,.lit (.int .i64 0),.lit (.int .i64 0),.lit (.int .i64 0)],[],a):=⟨[],ah⟩
def atL(b:Os)(started:b.Started)(H:Type)(enc:TypeId×ai->H)(F:Stop.Interp): ReturnsInLeavingWide {calm:=true} Tryz.checked b 7 .any ((OpenSpec.ofChange Rows.togetherSpec).preRow enc Tryz.prog Tryz.f7 Rows.togetherRow.domain false Rows.togetherRow.laid) ((OpenSpec.ofChange Rows.togetherSpec).postWith enc Tryz.prog Tryz.f7 F (outsideKept [.timePasses]) false true false):=by
 have⟨d,f⟩:=atK b enc;refine atF (C:=Tryz.checked) (s:=Rows.togetherSpec) atv started Tryz.func7 (att (enc:=enc) (C:=Tryz.checked) (s:=OpenSpec.ofChange Rows.togetherSpec) (QU b) #[.slice none 0 0,.int .i64 0,.slice none 0 0,.int .i64 0,.int .i64 0,.int .i64 0] rfl ah ah ah (OpenSpec.preRow_of_cond 8 f ah (λk hk=>by cases hk) ah (atE b _))) ?_;intro W base args bX gs a e c g h;exact atJ H enc W base args bX gs a e c g h
def atM:Rows.TogetherSaid:=OpenClaim.holds_of_wide_leaving_time 7 Tryz.f7 rfl rfl rfl rfl rfl rfl rfl ⟨rfl,rfl,rfl,rfl,rfl⟩ rfl rfl rfl rfl rfl ah Tryz.func7 ah (of_decide_eq_true ah) (by unfold Func.isWrapper;first|(rw[aV hR];kernel_rfl)|(rw[aC hR];exact⟨rfl,rfl⟩)) (λa started H enc _ F=>by rw[OpenClaim.pre_eq_preRow];exact atL a started H enc F)
def atN (f:FuncId) (fn:Func) (d:Tryz.pinned.checked.prog.funcNamed "mirror/mirrorkeep.Together" =some f) (a:Tryz.pinned.checked.prog.funcs[f]? =some fn): true=Tryz.pinned.checked.prog.looks []/\∀(j:Nat)t,fn.params[j]? =some t->Tryz.pinned.checked.prog.wantsStandIn t=false:=by
 obtain rfl:f=7:=kz ((show Tryz.prog.funcNamed "mirror/mirrorkeep.Together" =some 7 by kernel_rfl).symm.trans d)|>.symm;obtain rfl:fn=Tryz.f7:=(kz (Tryz.func7.symm.trans a)).symm;refine⟨ah,λj t b=> ?_⟩;rw[Tryz.params7]at b;have c:=sE b;simp only[zQ,dY,gE,gn]at c;rcases c with rfl|rfl|rfl|rfl|rfl|rfl
 .exact(show Tryz.prog.wantsStandIn 22=false by kernel_rfl)
 .exact(show Tryz.prog.wantsStandIn 3=false by kernel_rfl)
 .exact(show Tryz.prog.wantsStandIn 22=false by kernel_rfl)
 .exact(show Tryz.prog.wantsStandIn 3=false by kernel_rfl)
 .exact(show Tryz.prog.wantsStandIn 3=false by kernel_rfl)
 .exact(show Tryz.prog.wantsStandIn 3=false by kernel_rfl)
theorem together_card:Rows.TogetherCardSaid:=atu .later true _ _ _ _ atM ah together_row_tie rfl ⟨rfl,rfl⟩ ah rfl atN ah
end Go.Proofs.YtlcdgbhigfgehabGreatDoor
