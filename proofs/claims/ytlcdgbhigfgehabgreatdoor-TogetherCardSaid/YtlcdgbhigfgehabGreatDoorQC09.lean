import Derived.Test.YtlcdgbhigfgehabGreatDoorQC06
import Derived.Test.YtlcdgbhigfgehabGreatDoorQC08
set_option linter.all false
set_option maxRecDepth 100000
set_option maxHeartbeats 16000000
namespace Go.Proofs.YtlcdgbhigfgehabGreatDoor
open Go Go.Ren Go.bp Go.bG Go.Conc Go.ConcN Go.RowKit Go.Conc.Lib Go.ConcR.Gen Go.ConcN.Gen

noncomputable def D3:Code:=Tryz.f7.body.getD .skip
noncomputable def Ix:Code:=Tryz.f20.body.getD .skip
noncomputable def gX:dn:=yS (dD Ix)
noncomputable def Ai:Code:=aW (aW Ix)
noncomputable def qS:Code:=aW (aW (aW (aW (aW (aW (aW (aW (aW D3))))))))
def aqe:D3=chain GW (chain wX (.seq (.region 22 fi false) qS)):=ah
def aqf:qS=chain z6 .ret:=ah
def aqg:Ix=.seq (.region 0 gX false) (.seq (.region 1 gV false) Ai):=ah
def aqh:Ai=chain Dz .ret:=ah
def aqi:List.range fi.size=[0,1,2,3,4,5,6,7,8,9,10,11,12]:=ah
def aqj:List.range gV.size=[0,1,2,3,4,5,6,7,8,9]:=ah
def aqk:List.range gX.size=[0,1,2,3]:=ah
def aql:fi[0]? =some (fi.getD 0 default):=ah
def aqm:(fi.getD 0 default).dst=some 108:=ah
def Y7:(fi.getD 0 default).op=.move (.tmp 16):=ah
def aqn:(fi.getD 0 default).guard=none:=ah
def aqo:fi[1]? =some (fi.getD 1 default):=ah
def aqp:(fi.getD 1 default).dst=some 109:=ah
def Y8:(fi.getD 1 default).op=.move (.tmp 19):=ah
def aqr:(fi.getD 1 default).guard=none:=ah
def Y9:fi[2]? =some (fi.getD 2 default):=ah
def aqs:(fi.getD 2 default).dst=some 110:=ah
def aqt:(fi.getD 2 default).op=.call {callee:=.value (.func 20),args:= #[.tmp 108,.tmp 109],argTypes:= #[25,48]}:=ah
def aqu:(fi.getD 2 default).guard=none:=ah
def aqv:gV[0]? =some (gV.getD 0 default):=ah
def aqw:(gV.getD 0 default).dst=some 23:=ah
def Za:(gV.getD 0 default).op=.move (.tmp 0):=ah
def aqx:(gV.getD 0 default).guard=none:=ah
def aqy:gV[1]? =some (gV.getD 1 default):=ah
def aqz:(gV.getD 1 default).dst=some 24:=ah
def Zb:(gV.getD 1 default).op=.move (.tmp 1):=ah
def aqA:(gV.getD 1 default).guard=none:=ah
def aqB:gV[2]? =some (gV.getD 2 default):=ah
def aqC:(gV.getD 2 default).op=.call {callee:=.value (.func 29),args:= #[.tmp 23,.tmp 24],argTypes:= #[25,48]}:=ah
def aqD:(gV.getD 2 default).guard=none:=ah
def aqE:gX[0]? =some (gX.getD 0 default):=ah
def aqF:(gX.getD 0 default).dst=some 4:=ah
def Zc:(gX.getD 0 default).op=.assign (.const (.slice none 0 0)):=ah
def aqG:(gX.getD 0 default).guard=none:=ah
def aqH:gX[1]? =some (gX.getD 1 default):=ah
def aqI:(gX.getD 1 default).dst=some 5:=ah
def Zd:(gX.getD 1 default).op=.assign (.const (.slice none 0 0)):=ah
def aqJ:(gX.getD 1 default).guard=none:=ah
def aqK:gX[2]? =some (gX.getD 2 default):=ah
def aqL:(gX.getD 2 default).dst=some 6:=ah
def aqM:(gX.getD 2 default).op=.alloc 50:=ah
def aqN:(gX.getD 2 default).guard=none:=ah
def aqO:gX[3]? =some (gX.getD 3 default):=ah
def aqP:(gX.getD 3 default).dst=some 7:=ah
def Ze:(gX.getD 3 default).op=.assign (.const (.int .i64 0)):=ah
def aqQ:(gX.getD 3 default).guard=none:=ah
section
variable{Stop:aM->Goroutine->World->Prop}{ro:Nat->Prop}{s:aM}{F:World->Prop}{cs:List Frame}{b:Frame}{a:Act}{k:List Item}{w:World}
def Qr{main:Bool}{x y:Code}(w:ab):stepG Tryz.prog main (G (b.at a (.code (.seq x y)::k)) cs) w=.go (G (b.at a (.code x::.code y::k)) cs) w #[]:=rfl
def Qs{main:Bool}{c:Nat}{ops:dn}(w:ab):stepG Tryz.prog main (G (b.at a (.code (.region c ops false)::k)) cs) w=.go (G (b.at a (.inRegion ops (List.range ops.size)::k)) cs) w #[]:=rfl
def aqR{main:Bool}{ops:dn}(w:ab):stepG Tryz.prog main (G (b.at a (.inRegion ops []::k)) cs) w=.go (G (b.at a k) cs) w #[]:=rfl
def Qt{main:Bool}(w:ab):stepG Tryz.prog main (G (b.at a (.code .ret::k)) cs) w=.go (G {b.at a (.code .ret::k)with mode:=.returning} cs) w #[]:=rfl
def iF{s:aM}(w:ab):pu s s ro w w #[]:=zV ⟨rfl,rfl⟩
def Aj{dE:Operand->ai}{o:Oper}{x:Operand}(h:o.op=.assign x)(w:ab):(execOp dE o).run Tryz.prog w=.ok (.value (dE x)) w/\(execOp dE o).events Tryz.prog w #[]= #[]:=by
 unfold execOp;simp only[h];exact⟨rfl,rfl⟩
end
def aqS(x y:ai):Frame.enter Tryz.prog 20 #[x,y] .normal=(base 20).at ⟨#[x,y,I,I,I,I,I,I,I,I,I,I,I,I,I,I,I,I,I,I,I,I,I,I,I,I,I,I,I,I,I,I,I,I,I,I,I,I,I,I,I,I,I,I,I,I,I,I,I,I,I,I,I,I,I,I,I,I,I,I,I,I,I,I,I,I,I,I,I,I,I,I,I,I,I,I,I,I,I,I,I,I,I,I,I],[]⟩ [.code Ix]:=ah
abbrev qT(bv xv:ai):aQ:= #[bv,xv,I,I,I,I,I,I,I,I,I,I,I,I,I,I,I,I,I,I,I,I,I,I,I,I,I,I,I,I,I,I,I,I,I,I,I,I,I,I,I,I,I,I,I,I,I,I,I,I,I,I,I,I,I,I,I,I,I,I,I,I,I,I,I,I]
def aqT(x y:ai):Frame.enter Tryz.prog 29 #[x,y] .normal=(base 29).at ⟨qT x y,[]⟩ [.code qR]:=ah
noncomputable def aqU(bv xv:ai)(a0:Nat):Act:=⟨#[bv,xv,I,I,.slice none 0 0,.slice none 0 0,.pointer (some ⟨a0,0,none⟩),.int .i64 0,I,I,I,I,I,I,I,I,I,I,I,I,I,I,I,bv,xv,I,I,I,I,I,I,I,I,I,I,I,I,I,I,I,I,I,I,I,I,I,I,I,I,I,I,I,I,I,I,I,I,I,I,I,I,I,I,I,I,I,I,I,I,I,I,I,I,I,I,I,I,I,I,I,I,I,I,I,I],[]⟩
noncomputable def tp(bv xv:ai)(a0:Nat):bY:=(base 20).at (aqU bv xv a0) [.inRegion gV [2,3,4,5,6,7,8,9],.code Ai]
noncomputable def lT(a:Act)(bv xv:ai):bY:=(base 7).at ((a.put (some 108) bv).put (some 109) xv) [.inRegion fi [2,3,4,5,6,7,8,9,10,11,12],.code qS]
def aqV(w:ab):(zeroValue 50).run Tryz.prog w=.ok (.agg (kg λ_=>0)) w:=Tryz.zeroValue50 w
def aqW(w:ab)(aH:bI):(zeroValue 50).events Tryz.prog w aH=aH:=ag
def aqX{ro own:Nat->Prop}(w:ab)(o:Obj)(aH:bI)(h:∀e∈aH,e∈(#[]:bI)):pu ⟨own,0⟩ ⟨λb=>own b\/b=w.heap.size,0⟩ ro w (w.alloc o) aH:=by
 have a:∀b,b<w.heap.size->(w.alloc o).heap[b]? =w.heap[b]? :=λb c=>Cd w o c;have d:aH= #[]:=by
  apply CL;rcases jL aH.size with e|e
  .exact e
  .exact absurd (h aH[0] (Du e)) (xA _)
 have f:(w.alloc o).heap.size=w.heap.size+1:=Gc ..;subst d;refine⟨rfl,rfl,rfl,by rw[f];exact Nat.le_succ _,bh _,λb c _=>a b c,λb=> ?_,λe g=>absurd g (xA _),rfl⟩;rw[f];constructor
 .rintro(h|rfl)
  .exact .inl h
  .exact .inr ⟨bh _,z1 _⟩
 .rintro(h|h)
  .exact .inl h
  .exact .inr U
section
variable{Stop:aM->Goroutine->World->Prop}{ro own:Nat->Prop}
def aqY{F:ab->Prop}(f:∀{w al},F w->AtRel w al->F al){a:Act}(aK:a.tmps.size=199){bv xv:ai}(m:a.tmps.getD 16 I=bv)(n:a.tmps.getD 19 I=xv)(s:∀w0 w,F w0->w.heap=(w0.alloc (.cells (kg λ_=>0) 50)).heap->w.os=w0.os->w.output=w0.output->a7 Tryz.prog true n7 (fs ro) Stop ⟨λb=>own b\/b=w0.heap.size,0⟩ (G ((base 29).at ⟨qT bv xv,[]⟩ [.code qR]) [tp bv xv w0.heap.size,lT a bv xv]) w){w:ab}(hF:F w): a7 Tryz.prog true n7 (fs ro) Stop ⟨own,0⟩ (G ((base 7).at a [.code (.seq (.region 22 fi false) qS)]) []) w:=by
 refine rL (F:=F) iF hF f (λw=>Qr w) λw hF=> ?_;refine rL (F:=F) iF hF f (λw=>Qs w) λw hF=> ?_;rw[aqi];refine xz (F:=F) iF hF f aql (hn aqn _) (by simp[base]) (λw=>(vg Y7 w).1) (λw=>(vg Y7 w).2) λw hF=> ?_;rw[aqm,show a.eval (.tmp 16)=bv from m];refine xz (F:=F) iF hF f aqo (hn aqr _) (by simp[base]) (λw=>(vg Y8 w).1) (λw=>(vg Y8 w).2) λw hF=> ?_;rw[aqp,show(a.put (some 108) bv).eval (.tmp 19)=xv from(td U).trans n];refine HX (F:=F) iF hF f Y9 (hn aqu _) (by simp[base]) aqt Tryz.func20 ah (show Tryz.f20.body=some (Tryz.f20.body.getD .skip) by kernel_rfl) (vs:= #[bv,xv]) (by
  have i:((a.put (some 108) bv).put (some 109) xv).eval (.tmp 108)=bv:=by
   show((a.put (some 108) bv).put (some 109) xv).tmps.getD 108 I=bv
   rw[td (by rw[te];omega),aC U,td U,aV rfl]
  have j:((a.put (some 108) bv).put (some 109) xv).eval (.tmp 109)=xv:=by
   show((a.put (some 108) bv).put (some 109) xv).tmps.getD 109 I=xv
   rw[td (by rw[te];omega),aV rfl]
  simp[i,j]) λw hF=> ?_
 rw[aqS,aqg];refine rL (F:=F) iF hF f (λw=>Qr w) λw hF=> ?_;refine rL (F:=F) iF hF f (λw=>Qs w) λw hF=> ?_;rw[aqk];refine xz (F:=F) iF hF f aqE (hn aqG _) (by simp[base]) (λw=>(Aj Zc w).1) (λw=>(Aj Zc w).2) λw hF=> ?_;refine xz (F:=F) iF hF f aqH (hn aqJ _) (by simp[base]) (λw=>(Aj Zd w).1) (λw=>(Aj Zd w).2) λw hF=> ?_;rw[aqF,aqI];refine HW (F:=F) hF f aqK (hn aqN _) (by simp[base]) λw hF=>⟨_,_,_,_,Px aqM aqV aqW w,λaH o=>aqX w _ aH o,?_⟩;rw[aqL];have k:∃w0,F w0/\w0.heap.size=w.heap.size/\(w.alloc (.cells (kg λ_=>0) 50)).heap=(w0.alloc (.cells (kg λ_=>0) 50)).heap/\(w.alloc (.cells (kg λ_=>0) 50)).os=w0.os/\(w.alloc (.cells (kg λ_=>0) 50)).output=w0.output:=⟨w,hF,rfl,rfl,rfl,rfl⟩;let l:ab->Prop:=λw'=>∃w0,F w0/\w0.heap.size=w.heap.size/\w'.heap=(w0.alloc (.cells (kg λ_=>0) 50)).heap/\w'.os=w0.os/\w'.output=w0.output
 have c:∀{u t:ab},l u->AtRel u t->l t:=λ⟨w0,i,j,p,q,r⟩ ⟨d,e⟩=>(by subst e;exact⟨w0,i,j,p,q,r⟩);replace hF:l (w.alloc (.cells (kg λ_=>0) 50)):=k;have g:∀u,l u->a7 Tryz.prog true n7 (fs ro) Stop ⟨λb=>own b\/b=w.heap.size,0⟩ (G ((base 29).at ⟨qT bv xv,[]⟩ [.code qR]) [tp bv xv w.heap.size,lT a bv xv]) u:=λu ⟨w0,i,j,p,q,r⟩=>by
  have:=s w0 u i p q r;rwa[j]at this
 clear k s;revert hF c g;generalize l=h;generalize w.heap.size=a0;intro c hF g;refine xz (F:=h) iF hF c aqO (hn aqQ _) (by simp[base]) (λw=>(Aj Ze w).1) (λw=>(Aj Ze w).2) λw hF=> ?_;rw[aqP];refine rL (F:=h) iF hF c (λw=>aqR w) λw hF=> ?_;refine rL (F:=h) iF hF c (λw=>Qr w) λw hF=> ?_;refine rL (F:=h) iF hF c (λw=>Qs w) λw hF=> ?_;rw[aqj];refine xz (F:=h) iF hF c aqv (hn aqx _) (by simp[base]) (λw=>(vg Za w).1) (λw=>(vg Za w).2) λw hF=> ?_;refine xz (F:=h) iF hF c aqy (hn aqA _) (by simp[base]) (λw=>(vg Zb w).1) (λw=>(vg Zb w).2) λw hF=> ?_;rw[aqw,aqz];refine HX (F:=h) iF hF c aqB (hn aqD _) (by simp[base]) aqC Tryz.func29 ah (show Tryz.f29.body=some (Tryz.f29.body.getD .skip) by kernel_rfl) (vs:= #[bv,xv]) ah λw hF=> ?_;rw[aqT];exact g w hF
end
end Go.Proofs.YtlcdgbhigfgehabGreatDoor
namespace Go.Proofs.YtlcdgbhigfgehabGreatDoor
open Go Go.Ren Go.bp Go.bG Go.Conc Go.ConcN Go.RowKit

def Qu{lo:Nat}{ro':Bool}{n:Nat}{F:Func}(a:n≠34)(b:n≠35)(h:Tryz.prog.funcs[n]? =some F)(af:Tryz.prog.inits.idxOf? n=none):pj (dT lo ro') n:=⟨(qq a b).symm,⟨F,(qq a b).trans h⟩,af⟩
def Qv{lo:Nat}{ro':Bool}:pj (dT lo ro') 7:=Qu aE aE Tryz.func7 ah
def aqZ{lo:Nat}{ro':Bool}:pj (dT lo ro') 20:=Qu aE aE Tryz.func20 ah
def Zf{lo:Nat}{ro':Bool}:pj (dT lo ro') 29:=Qu aE aE Tryz.func29 ah
def ei(iN g3:Option Addr)(b:Nat):Prop:=b=0\/b=2\/(∃a,iN=some a/\b=a.block)\/∃a,g3=some a/\b=a.block
def aq0:GW.all (codeOk (iu false false) false)=true:=ah
def aq1:wX.all (codeOk (iu false true) false)=true:=ah
def Zg{C:bf}{S R:Nat->Prop}{w u:ab}{a:Option Addr}{n:Nat}{z:tB}(h:oj w a n z)(d:u.heap=(cN C S R w).heap):oj u a n z:=by
 refine⟨h.len,λi af=> ?_⟩;have⟨b,c,e,f,g⟩:=h.at_ i af;refine⟨b,c,e,?_,by rw[d,sL];exact g⟩;have:u.cell? ⟨b,c+i,none⟩=(cN C S R w).cell? ⟨b,c+i,none⟩:=(by simp only[World.cell?,d]);rw[this,sM,f,mq,pv (.string _)]
def Iy{N:Fn->Bool}{S:Nat->Prop}{a:Option Addr}{n c:Nat}(h:∀x,a=some x->S x.block):aB N (cm S) (.slice a n c) (.slice a n c):=by
 cases a with
 |none=>exact .mr _ _
 |some x=>exact .slice (a:=x) _ _ (dJ (h x rfl))
abbrev vp(iN:Option Addr)(cg eY:Nat)(bits:Int)(g3:Option Addr)(rl c2:Nat)(fO block other:Int):aQ:= #[.slice iN cg eY,.int .i64 bits,.slice g3 rl c2,.int .i64 fO,.int .i64 block,.int .i64 other,I,I,I,I,I,I,I,I,I,I,I,I,I,I,I,I,I,I,I,I,I,I,I,I,I,I,I,I,I,I,I,I,I,I,I,I,I,I,I,I,I,I,I,I,I,I,I,I,I,I,I,I,I,I,I,I,I,I,I,I,I,I,I,I,I,I,I,I,I,I,I,I,I,I,I,I,I,I,I,I,I,I,I,I,I,I,I,I,I,I,I,I,I,I,I,I,I,I,I,I,I,I,I,I,I,I,I,I,I,I,I,I,I,I,I,I,I,I,I,I,I,I,I,I,I,I,I,I,I,I,I,I,I,I,I,I,I,I,I,I,I,I,I,I,I,I,I,I,I,I,I,I,I,I,I,I,I,I,I,I,I,I,I,I,I,I,I,I,I,I,I,I,I,I,I,I,I,I,I,I,I,I,I,I,I,I,I,I,I,I,I,I,I]
structure Zh(block:Int)(W w:ab)(a:Act):Prop where
 old:gU W w
 os:w.os=W.os
 out:w.output=W.output
 aK:a.tmps.size=199
 gb:a.defers=[]
 t4:a.tmps[4]? =some (.int .i64 block)
 ex:∃(sv kB cM:ai)(src ref wW:List (aI×ai)),a.tmps[13]? =some sv/\a.tmps[14]? =some kB/\a.tmps[15]? =some cM/\dc (src.map (·.1))/\dc (ref.map (·.1))/\dc (wW.map (·.1))/\ck w 0 sv src/\ck w 0 kB ref/\ck w 0 cM wW/\∀b,(n8 sv src b\/n8 kB ref b\/n8 cM wW b)->W.heap.size<=b
def Ak{C:bf}{f:Ren}{d:List Deferred}(h:cy (fG C.fn f) [] d):d=[]:=by cases h;rfl
def aq2{W:ab}(n:kL W){g j:Option Addr}{cg r o A:Nat}{M N:tB}{bits fO block other:Int}(cz:oj W g cg M/\(∀s∈M,s.size<=maxLen)/\cg<=maxLen)(cb:oj W j o N/\(∀s∈N,s.size<=maxLen)/\o<=maxLen)(O:(-9223372036854775808<=bits/\bits<=9223372036854775807)/\(-9223372036854775808<=fO/\fO<=9223372036854775807)/\(-9223372036854775808<=block/\block<=9223372036854775807)/\(-9223372036854775808<=other/\other<=9223372036854775807))(r0:∀a,g=some a->∃c t z,W.heap[a.block]? =some (.cells c t z))(r2:∀a,j=some a->∃c t z,W.heap[a.block]? =some (.cells c t z)){c:gF}(h:c.eM aD (ei g j) (λb=>ei g j b/\¬ei g j b) (G ((base 7).at ⟨vp g cg r bits j o A fO block other,[]⟩ [.code D3]) []) W): ∃K w a own',c.iB W K w/\K.eM aD (ei g j) own' (G ((base 7).at a [.code (chain wX (.seq (.region 22 fi false) qS))]) []) w/\Zh block W w a:=by
 have dw:=n.size;have C:(W.heap.size==0)=false:=(by rw[oe];omega);have m:∀b,ei g j b->∃c t z,W.heap[b]? =some (.cells c t z):=by
  rintro b(rfl|rfl|⟨a,P,rfl⟩|⟨a,P,rfl⟩)
  .have⟨v,t,k⟩:=n.mj;exact⟨_,_,_,k⟩
  .obtain⟨c,t,z,k,-⟩:=n.fM;exact⟨_,_,_,k⟩
  .exact r0 a P
  .exact r2 a P
 have T:∀b,ei g j b->b<W.heap.size:=λb p=>(by have⟨c,t,z,k⟩:=m b p;exact(bQ.1 k).1);have hk:px (dT W.heap.size false) (ei g j) (ei g j) W:=⟨λb p=>⟨.inr ⟨T b p,C⟩,p,m b p⟩,λb p=>by have⟨c,t,z,k⟩:=m b p;exact⟨_,k,.inl ⟨_,_,_,rfl⟩⟩,dw,bh _⟩;rw[aqe]at h;obtain⟨K,w,a,own',az,-,V,X⟩:=Po (lo:=W.heap.size) (ro':=false) (S:=ei g j) (R:=ei g j) (b:=base 7) (a:=⟨vp g cg r bits j o A fO block other,[]⟩) (a':=⟨vp g cg r bits j o A fO block other,[]⟩) (Q:=λw a u=>V9 block w a u) hk (PE ⟨.inl rfl,.inr (.inl rfl)⟩) (show mK []from trivial) Qv rfl rfl (by rw[C];exact aq0) (by
   have e:(vp g cg r bits j o A fO block other:aQ)= #[.slice g cg r,.int .i64 bits,.slice j o A,.int .i64 fO,.int .i64 block,.int .i64 other]++Array.replicate 193 I:=ah;show aZ _ _ (vp g cg r bits j o A fO block other) (vp g cg r bits j o A fO block other)
   rw[e];refine XX (Py λv bP=> ?_) (Pz 193);simp only[dY,gE,gn]at bP;rcases bP with rfl|rfl|rfl|rfl|rfl|rfl
   .exact Iy λx D=>.inr (.inr (.inl ⟨x,D,rfl⟩))
   .exact .int _ _
   .exact Iy λx D=>.inr (.inr (.inr ⟨x,D,rfl⟩))
   .exact .int _ _
   .exact .int _ _
   .exact .int _ _) .nil
  (λaP d=>ajr g cg r M bits j o A N fO block other _ (uW (CM n.ety (.inr (.inl rfl))) rfl) ⟨Zg cz.1 rfl,cz.2⟩ ⟨Zg cb.1 rfl,cb.2⟩ O) h
 obtain⟨l,uU,f,u,tq,hle,E,-,Iz,-,F,H,B,aP,d,aa⟩:=X;have Y:∀x y,f x=some y->W.heap.size<=x->W.heap.size<=y:=λx y e D=>by
  rcases E x y e with⟨-,rfl⟩|q
  .exact D
  .exact q.2
 have⟨sv,kB,cM,src,ref,wW,Z,Qw,Qx,dA,c9,gg,k1,gd,lU⟩:=aa.ex;have hQ:(a2 (cN (dT W.heap.size false) (ei g j) (ei g j) W) aP d).heap.size=W.heap.size:=sL;rw[hQ]at k1 gd lU;have p:a.tmps.size=199:=F.size.symm.trans aa.aK;have L:∀i v,i<199->tq.tmps.getD i I=v->∃v',a.tmps[i]? =some v'/\aB (dT W.heap.size false).fn f v v':=λi v af e=>by
  have J:i<a.tmps.size:=U;have:=HY e (by rw[aa.aK];exact af);exact⟨_,dq J,F.get i _ _ this (dq J)⟩
 have⟨v4,fq,rS⟩:=L 4 _ aE aa.t4;have⟨DI,f13,aq3⟩:=L 13 _ aE Z;have⟨DJ,f14,aq4⟩:=L 14 _ aE Qw;have⟨DK,f15,aq5⟩:=L 15 _ aE Qx;cases rS;have⟨s',o9,sr,p9⟩:=PD B Y k1 aq3;have⟨r',Kf,Kg,Kh⟩:=PD B Y gd aq4;have⟨j9,Ki,aq6,aq7⟩:=PD B Y lU aq5;rw[aa.gb]at H;refine⟨K,w,a,own',az,V,⟨l.size,λb n=>l.kept b n (λq=>q.2 q.1)⟩,l.os,l.out,p,Ak H,fq,DI,DJ,DK,s',r',j9,f13,f14,f15,by rw[sr];exact dA,by rw[Kg];exact c9,by rw[aq6];exact gg,o9,Kf,Ki,λb n=> ?_⟩;rcases n with n|n|n
 .exact p9 b n
 .exact Kh b n
 .exact aq7 b n
structure aq8(W w:ab)(a:Act):Prop where
 old:gU W w
 os:w.os=W.os
 out:w.output=W.output
 aK:a.tmps.size=199
 gb:a.defers=[]
 t17:a.tmps[17]? =some (.int .i64 0)
 ex:∃(rf th:List aI)(R:ar)(M:Bool->Nat->dS)(a3 a0:Nat)(xv bN:ai),dc rf/\dc th/\(∃qn blk,dc qn/\1<=blk/\blk<=64/\R=iH qn rf blk)/\a.tmps[16]? =some (.slice (some ⟨a3,0,none⟩) R.length a0)/\a.tmps[19]? =some xv/\a.tmps[20]? =some bN/\nc W.heap.size rf th R M a3 a0 xv bN w
def aq9{W w:ab}(g:kL W){block:Int}(Z: -9223372036854775808<=block/\block<=9223372036854775807){a:Act}(H:Zh block W w a){c:gF}{own ro:Nat->Prop}(h:c.eM aD ro own (G ((base 7).at a [.code (chain wX (.seq (.region 22 fi false) qS))]) []) w): ∃P w' a' own',c.iB w P w'/\P.eM aD aD own' (G ((base 7).at a' [.code (.seq (.region 22 fi false) qS)]) []) w'/\aq8 W w' a':=by
 have m:=H.old.z3 g;have dw:=m.size;have xL:=g.size;obtain⟨sv,kB,cM,src,ref,o,ara,Qw,Qx,dA,c9,gg,T,az,V,kb⟩:=H.ex;let S:Nat->Prop:=λb=>b=0\/b=2\/n8 sv src b\/n8 kB ref b\/n8 cM o b
 have n:∀b,S b->∃c t z,w.heap[b]? =some (.cells c t z):=by
  rintro b(rfl|rfl|g|g|g)
  .obtain⟨v,t,k⟩:=m.mj;exact⟨_,_,_,k⟩
  .obtain⟨c,t,z,k,-⟩:=m.fM;exact⟨_,_,_,k⟩
  .exact(g.row T).row
  .exact(g.row az).row
  .exact(g.row V).row
 have gJ:∀b,S b->b<w.heap.size:=λb s=>(by obtain⟨c,t,z,k⟩:=n b s;exact(bQ.1 k).1);have hk:px (cd false) S aD w:=⟨λb s=>s.elim,λb s=>by obtain⟨c,t,z,k⟩:=n b s;exact⟨_,k,.inl ⟨_,_,_,rfl⟩⟩,dw,dl _⟩;replace h:=h.qw (ro':=λ_=>False) (own':=λb=>S b/\¬False) (λ_ h=>h.elim) (λb g=>g.elim (λh=>gJ b h.1) False.elim);have tF:∀(v:ai)(l:List (aI×ai)),(∀b,n8 v l b->S b)->ck w 0 v l->ck (cN (cd false) S aD w) 0 v l:=λv l r k=>V6 k (λ_ _ h=>h) (λp b8 b g=>⟨r b (.inr ⟨p,b8,g⟩),id⟩);have sl:∀(v:ai)(l:List (aI×ai)),(∀b,n8 v l b->S b)->ck w 0 v l->aB (cd false).fn (cm S) v v:=λv l r k=>uV k.vec λb g=>r b (.inl g);have s1:∀b,n8 sv src b->S b:=λb h=>.inr (.inr (.inl h));have s2:∀b,n8 kB ref b->S b:=λb h=>.inr (.inr (.inr (.inl h)));have K4:∀b,n8 cM o b->S b:=λb h=>.inr (.inr (.inr (.inr h)));obtain⟨GX,GY,arb,-⟩:=T.vec.shape;obtain⟨m9,rA,arc,-⟩:=az.vec.shape;obtain⟨aT,jS,vU,-⟩:=V.vec.shape;obtain⟨P,w',a',own',nZ,-,p5,tr⟩:=Po (lo:=0) (ro':=false) (S:=S) (R:=λ_=>False) (b:=base 7) (a:=⟨a.tmps.map (fu (cd false).fn (cm S)),[]⟩) (a':=a) (Q:=λw a u=>Ml w a u) hk (PE ⟨.inl rfl,.inr (.inl rfl)⟩) (show mK []from trivial) Qv rfl rfl aq1 (zb _) (by rw[H.gb];exact .nil) (λaP d=>by
   have A:∀{v l},ck (cN (cd false) S aD w) 0 v l->ck (a2 (cN (cd false) S aD w) aP d) 0 v l:=λk=>⟨gQ k.vec λ_ _=>rfl,λp b8=>gQ (k.data p b8) λ_ _=>rfl,k.two⟩;have g1:=sl sv src s1 T;have fC:=sl kB ref s2 az;have po:=sl cM o K4 V;subst arb arc vU;exact ajS block GX m9 aT GY rA jS src ref o _ (by rw[PC];exact H.aK) (qI H.t4 (.int _ _)) (qI ara g1) (qI Qw fC) (qI Qx po) _ (uW (CM m.ety (.inr (.inl rfl))) rfl) Z dA c9 gg (A (tF _ _ s1 T)) (A (tF _ _ s2 az)) (A (tF _ _ K4 V))) h
 obtain⟨j,uU,f,u,tq,hle,D,-,Iz,-,E,F,aa,aP,d,X⟩:=tr;obtain⟨qn,rf,th,blk,a3,a0,M,xv,bN,gM,p2,p3,p4,j5,Hc,De,Hd,He,Hf,Hg,Hh,J,N,Hi,Oz,OA⟩:=X.ex;have B:(a2 (cN (cd false) S aD w) aP d).heap.size=w.heap.size:=sL;rw[B]at De Hi;have c8:∀x y,f x=some y->w.heap.size<=x->w.heap.size<=y:=λx y e cD=>by
  rcases D x y e with⟨-,rfl⟩|q
  .exact cD
  .exact q.2
 have s:a'.tmps.size=199:=E.size.symm.trans X.aK;have Y:∀i v,i<199->tq.tmps.getD i I=v->∃v',a'.tmps[i]? =some v'/\aB (cd false).fn f v v':=λi v af e=>by
  have K:i<a'.tmps.size:=U;have:=HY e (by rw[X.aK];exact af);exact⟨_,dq K,E.get i _ _ this (dq K)⟩
 obtain⟨GZ,Qy,ard⟩:=Y 16 _ aE He;obtain⟨G0,Qz,are⟩:=Y 17 _ aE Hf;obtain⟨CQ,QA,arf⟩:=Y 19 _ aE Hg;obtain⟨v20,D4,gX⟩:=Y 20 _ aE Hh;cases are;obtain⟨arh,rfl,L⟩:=ajT aa c8 Hi OA ⟨Hc,by rw[Rq qn rf blk gM p2 p4 j5];nofun⟩ De Oz Hd ard arf gX;have O:=m.XY aa hle ⟨id,id⟩ ⟨.inl rfl,.inr (.inl rfl)⟩ (J.block 0 (by rw[B];omega) id) (J.block 2 (by rw[B];omega) id);rw[X.gb]at F;have C:=H.old.1;refine⟨P,w',a',own',nZ,p5,⟨dU C j.size,λb g=> ?_⟩,j.os.trans H.os,j.out.trans H.out,s,Ak F,Qz,rf,th,_,_,arh,a0,CQ,v20,p2,p3,⟨qn,blk,gM,p4,j5,rfl⟩,Qy,QA,D4,L.mono C⟩;by_cases r:S b
 .rcases r with rfl|rfl|r
  .exact O.1.trans (H.old.2 _ g)
  .exact O.2.trans (H.old.2 _ g)
  .have:=kb b r;omega
 .exact(j.kept b (fl g C) λq=>r q.1).trans (H.old.2 b g)
end Go.Proofs.YtlcdgbhigfgehabGreatDoor
namespace Go.Proofs.YtlcdgbhigfgehabGreatDoor
open Go Go.Ren Go.bp Go.bG Go.Conc Go.ConcN Go.RowKit

def eL.lt{w:ab}{b:Nat}(h:eL w b):b<w.heap.size:=by obtain⟨T,xs,o⟩:=h;exact o.lt
def eL.keep{w w':ab}{b:Nat}(h:eL w b)(k:w'.heap[b]? =w.heap[b]?):eL w' b:=by obtain⟨T,xs,o⟩:=h;exact⟨T,xs,hc o k⟩
section
variable{B:Nat}{rf th:List aI}{R:List UInt8}{M:Bool->Nat->dS}{a3 a0:Nat}{xv bN:Value}{w w' u:World}
def nc.keep(h:nc B rf th R M a3 a0 xv bN w)(k:gU w w'):nc B rf th R M a3 a0 xv bN w':=by
 have f:∀(b:Nat)(c:aQ)(t:TypeId)(z:Nat×Nat),w.heap[b]? =some (Obj.cells c t z)->w'.heap[b]? =w.heap[b]? :=λb c t z e=>k.2 b (bQ.1 e).1;have⟨l,m,n,g,p⟩:=h.Og;refine⟨isB_sameR h.hD λb a=> ?_,?_,⟨l,m,n,(f _ _ _ _ g).trans g,p⟩,gQ h.x λb a=>k.2 b (h.x.lt b a).2,gQ h.y λb a=>k.2 b (h.y.lt b a).2,h.nb,h.cx,λc j d=>(h.b5 c j d).same λb a=>k.2 b (h.aw c j d b a).2.2.2.2.lt,λc j d=> ?_,λc j d b a=> ?_,h.two,h.old⟩
 .simp[Value.ownBlock]at a;subst a;exact f _ _ _ _ g
 .have⟨T,xs,o⟩:=h.hX;exact⟨T,xs,hc o (k.2 _ o.lt)⟩
 .have⟨x,T,e⟩:=h.zj c j d;exact⟨x,T,(f _ _ _ _ e).trans e⟩
 .have⟨q,r,s,u,i⟩:=h.aw c j d b a;exact⟨q,r,s,u,i.keep (k.2 b i.lt)⟩
def hH(M:Bool->Nat->dS)(a3:Nat)(xv:ai)(b:Nat):Prop:=b=0\/b=2\/b=a3\/xv.ownBlock=some b\/∃j,j<6/\(M false j).A b
def nc.piece(h:nc B rf th R M a3 a0 xv bN w)(b7:3<=B){C:bf}{f:Ren}(p:bR C aD f u w')(D:bs (cm (hH M a3 xv)) f)(r:Go.bp.Left (λb=>hH M a3 xv b/\¬False) w w')(t:∀b,b<w.heap.size->u.heap[b]? =(cN C (hH M a3 xv) aD w).heap[b]?):nc B rf th R M a3 a0 xv bN w':=by
 have L:∀b,b<w.heap.size->¬hH M a3 xv b->w'.heap[b]? =w.heap[b]? :=λb d cJ=>r.kept b d λq=>cJ q.1;have k:∀b,hH M a3 xv b->f b=some b:=λb d=>D _ _ (dJ d);have N:hH M a3 xv a3:=.inr (.inr (.inl rfl));have p8:∀b,xv.ownBlock=some b->hH M a3 xv b:=λb d=>.inr (.inr (.inr (.inl d)));have s:∀j,j<6->∀b,(M false j).A b->hH M a3 xv b:=λj g b d=>.inr (.inr (.inr (.inr ⟨j,g,d⟩)));obtain⟨gc,O,P,ge,PT⟩:=h.Og;have E:a3<w.heap.size:=(bQ.1 ge).1;have ari:∀b,bN.ownBlock=some b->¬hH M a3 xv b:=by
  rintro b d(rfl|rfl|rfl|q|⟨j,g,q⟩)
  .have:=h.old.2.2 _ d;omega
  .have:=h.old.2.2 _ d;omega
  .exact h.cx.2 d
  .exact h.nb b q d
  .exact(h.aw _ j g b q).2.2.1 d
 have Q:∀j,j<6->∀b,(M true j).A b->¬hH M a3 xv b:=by
  rintro j g b d(rfl|rfl|rfl|q|⟨gp,az,q⟩)
  .have:=(h.aw _ j g _ d).1;omega
  .have:=(h.aw _ j g _ d).1;omega
  .exact(h.aw _ j g _ d).2.2.2.1 rfl
  .exact(h.aw _ j g _ d).2.1 q
  .exact h.two false gp true j az g (.inl aE) b q d
 have hD:bH w' (.slice (some ⟨a3,0,none⟩) R.length a0) R:=by
  have V:bH u (.slice (some ⟨a3,0,none⟩) R.length a0) R:=isB_same (isB_lon (C:=C) (S:=hH M a3 xv) (R:=λ_=>False) h.hD.1) λb d=>(by simp[Value.ownBlock]at d;subst d;exact t _ E);exact(isB_wr p V (.slice (a:=⟨a3,0,none⟩) _ _ (k _ N))).1
 have F:u.heap[a3]? =(cN C (hH M a3 xv) aD w).heap[a3]? :=t _ E;have W:∃l,w'.heap[a3]? =some (.cells l O P)/\l.size=gc.size:=by
  have ay:u.heap[a3]? =some (.cells (gc.map (fu C.fn (cm (hH M a3 xv)))) O P):=(by rw[F,pw,ge];simp[n4]);obtain⟨ak,G,H,-⟩:=xe p (k _ N) id ay;exact⟨ak,G,by rw[H];simp⟩
 obtain⟨l,X,zX⟩:=W;have b5:∀c j,j<6->dK w' (M c j).av (M c j).an (fX rf th j) (eo j) (M c j).A:=λc j g=>by
  cases c with
  |true=>exact(h.b5 true j g).same λb d=>L b (h.aw _ j g b d).2.2.2.2.lt (Q j g b d)
  |false=>
   have Y:=h.b5 false j g;have Z:dK u (M false j).av (M false j).an (fX rf th j) (eo j) (M false j).A:=(Y.fu (C:=C) (S:=hH M a3 xv) (R:=λ_=>False) λb d=>⟨s j g b d,id⟩).same λb d=>t b (h.aw _ j g b d).2.2.2.2.lt;obtain⟨ajJ,e,Jp⟩:=Z.wr p (k _ (s j g _ Y.e4));rw[k _ (s j g _ Y.ind)]at e;cases e;exact Jp.mono λb ⟨mj,dA,c9⟩=>by
    rw[k _ (s j g _ dA)]at c9;cases c9;exact dA
 have aa:∀{xs:bJ}{v:ai}{n T aK:Nat},Vec w 0 T aK v n xs->(∀b,v.ownBlock=some b->hH M a3 xv b)->(∀x∈xs,aB C.fn (cm (hH M a3 xv)) x x/\∀ak,aB C.fn f x ak->ak=x)->Vec w' 0 T aK v n xs:=λ{xs v n T aK}bP z J=>by
  have V:Vec u 0 T aK v n xs:=gQ (wU (C:=C) (R:=λ_=>False) (λ_ _ q=>q) (λx IA=>(J x IA).1) bP) λb d=>t b (bP.lt b d).2;obtain⟨m,G,H,-⟩:=wT p V ((uV bP z).mono D);have:m=xs:=by
   refine xP λi=> ?_;rcases dH i xs.length with af|af
   .have K:i<m.length:=(by rw[<-H.1];exact af);rw[fb af,fb K];congr 1;exact(J _ (dy af)).2 _ (H.2 i _ _ (fb af) (fb K))
   .rw[vu af,vu (by rw[<-H.1];exact af)]
  subst this;exact G
 refine⟨⟨hD,h.hD.2⟩,?_,⟨l,O,P,X,U⟩,aa h.x p8 λx J=> ?_,gQ h.y λb d=>L b (h.y.lt b d).2 (ari b d),h.nb,h.cx,b5,λc j g=> ?_,λc j g b d=> ?_,h.two,h.old⟩
 .obtain⟨T,xs,o⟩:=h.hX;obtain⟨m,im,-⟩:=sN p (k _ N) (hc (GU (C:=C) (S:=hH M a3 xv) (R:=λ_=>False) id o) F);exact⟨_,_,im⟩
 .unfold fh at J;obtain⟨j,g,rfl⟩:=og.1 J;have g:=uY.1 g;have z:=s j g _ (h.b5 false j g).e4;refine⟨.ptr (a:=⟨_,0,none⟩) (dJ z),λak q=> ?_⟩;cases q with
  |@ptr a b e=>rw[k _ z]at e;cases e;rfl
 .obtain⟨x,T,e⟩:=h.zj c j g;have bO:=(bQ.1 e).1;cases c with
  |true=>exact⟨x,T,(L _ bO (Q j g _ (h.b5 true j g).e4)).trans e⟩
  |false=>
   have z:=s j g _ (h.b5 false j g).e4;have ay:u.heap[(M false j).av]? =some (.cells (x.map (fu C.fn (cm (hH M a3 xv)))) T (0,0)):=(by rw[t _ bO,pw,e];simp[n4]);obtain⟨ak,G,-⟩:=xe p (k _ z) id ay;exact⟨ak,T,G⟩
 .obtain⟨a1,g3,nO,l7,nP⟩:=h.aw c j g b d;refine⟨a1,g3,nO,l7,?_⟩;cases c with
  |true=>exact nP.keep (L b nP.lt (Q j g b d))
  |false=>
   obtain⟨T,xs,o⟩:=nP;obtain⟨m,im,-⟩:=sN p (k _ (s j g b d)) (hc (GU (C:=C) (S:=hH M a3 xv) (R:=λ_=>False) id o) (t b o.lt));exact⟨_,_,im⟩
end
def Zi{C:bf}{R:Nat->Prop}{f:Ren}{w w':ab}(b:bR C R f w w'){g g':Nat}(e:f g=some g')(c:¬R g){x:aQ}{T:TypeId}{z:Nat×Nat}(h:w.heap[g]? =some (.cells x T z))(d:∀v∈x.toList,ha v=true):w'.heap[g']? =some (.cells x T z):=by
 have⟨ak,j,l,k⟩:=xe b e c h;have:ak=x:=by
  refine uI λi=> ?_;rcases dH i x.size with af|af
  .have a:i<ak.size:=U;rw[dq af,dq a];congr 1;exact iV (d _ ag) (k.get i _ _ (dq af) (dq a))
  .rw[oz af,oz U]
 rw[j,this]
def QB{C:bf}{R:Nat->Prop}{f:Ren}{w w':ab}(a:bR C R f w w'){g g':Nat}(e:f g=some g')(b:¬R g){v:ai}{T:TypeId}{z:Nat×Nat}(h:w.heap[g]? =some (.cells #[v] T z)):∃v',w'.heap[g']? =some (.cells #[v'] T z)/\aB C.fn f v v':=by
 have⟨ak,c,d,i⟩:=xe a e b h;obtain⟨l⟩:=ak;match l,d with
 |[y],_=>exact⟨y,c,i.get 0 _ _ rfl rfl⟩
def arj{w:ab}{a:Act}(aK:a.tmps.size=199){bv xv:ai}(f:a.tmps[16]? =some bv)(i:a.tmps[19]? =some xv){c:gF}{own ro:Nat->Prop}(h:c.eM aD ro own (G ((base 7).at a [.code (.seq (.region 22 fi false) qS)]) []) w): ∃b w' own',c.iB w b w'/\b.eM aD ro own' (G ((base 29).at ⟨qT bv xv,[]⟩ [.code qR]) [tp bv xv w.heap.size,lT a bv xv]) w'/\w'.heap=w.heap.push (.cells (kg λ_=>0) 50)/\w'.os=w.os/\w'.output=w.output:=by
 have H:=aqY (ro:=ro) (own:=own) (Stop:=λs g w'=>s.deaf=0/\(w'.heap=w.heap.push (.cells (kg λ_=>0) 50)/\w'.os=w.os/\w'.output=w.output)/\g=G ((base 29).at ⟨qT bv xv,[]⟩ [.code qR]) [tp bv xv w.heap.size,lT a bv xv]) (F:=λw0=>w0.heap=w.heap/\w0.os=w.os/\w0.output=w.output) (λh ⟨d,e⟩=>by subst e;exact h) aK (getD_some f) (getD_some i) (λw0 w1 hF ay aF l=>.stop λcO ⟨d,e⟩=>by
   subst e;refine⟨rfl,⟨?_,aF.trans hF.2.1,l.trans hF.2.2⟩,by rw[hF.1]⟩;show w1.heap=_
   rw[ay];show w0.heap.push _=_
   rw[hF.1]) (w:=w) ⟨rfl,rfl,rfl⟩
 obtain⟨b,w',g,own',j,-,k,⟨-,⟨m,n,o⟩,rfl⟩,-,-⟩:=HS H h (λ_ _ _ h=>h.1);exact⟨b,w',own',j,k,m,n,o⟩
def ark:Gb.all (codeOk (iu false true) false)=true:=ah
def arl:qR=chain Gb rN:=ah
structure QC(bv:ai)(bL bq a9 aG aT ba wg:Nat)(w:ab):Prop where
 sb:w.heap[bL]? =some (.cells #[bv] 25)
 vh:w.heap[bq]? =some (.cells (madeCells #[.nilIface] 6) 60)
 IB:w.heap[a9]? =some (.cells #[.slice (some ⟨bq,0,none⟩) 6 6] 69)
 ow:w.heap[aG]? =some (.map #[] 0)
 Bi:w.heap[aT]? =some (.cells #[.int .i32 0,.int .u32 0,.map (some aG)] 109)
 IC:w.heap[ba]? =some (.cells #[.pointer (some ⟨aT,0,none⟩)] 107)
 Al:w.heap[wg]? =some (.cells #[.int .u64 0,.int .u32 0] 116)
def arm{bv xv:ai}{a0:Nat}:OY (tp bv xv a0):=⟨rfl,λl k h=>by simp[tp,Frame.at]at h⟩
def Zj{a:Act}{bv xv:ai}:OY (lT a bv xv):=⟨rfl,λl k h=>by simp[lT,Frame.at]at h⟩
def Zk{a:Act}{bv xv ee b:ai}{a0:Nat}:mK [tp bv xv a0,lT a ee b]:=⟨arm,λc d=>by simp at d;subst d;exact Zj.2⟩
def arn{W w:ab}(s:kL W)(ap:gU W w){rf th:List aI}{R:ar}{M:Bool->Nat->dS}{a3 a0:Nat}{xv bN:ai}(C:nc W.heap.size rf th R M a3 a0 xv bN w){cs:bW}(T:mK cs){c:gF}{own ro:Nat->Prop}(h:c.eM aD ro own (G ((base 29).at ⟨qT (.slice (some ⟨a3,0,none⟩) R.length a0) xv,[]⟩ [.code qR]) cs) w): ∃dQ w' P own' bL bq a9 aG aT ba wg cx eK,c.iB w dQ w'/\dQ.eM aD aD own' (G ((base 29).at ⟨P,[]⟩ [.code rN]) cs) w'/\gU W w'/\w'.os=w.os/\w'.output=w.output/\nc W.heap.size rf th R M a3 a0 xv bN w'/\QC (.slice (some ⟨a3,0,none⟩) R.length a0) bL bq a9 aG aT ba wg w'/\xv=.slice (some ⟨cx,0,none⟩) 6 eK/\(∀b,b=bL\/b=bq\/b=a9\/b=aG\/b=aT\/b=ba\/b=wg->w.heap.size<=b/\b<w'.heap.size)/\[bL,bq,a9,aG,aT,ba,wg].Nodup/\P.size=66/\P[1]? =some xv/\P[2]? =some (.pointer (some ⟨bL,0,none⟩))/\P[11]? =some (.pointer (some ⟨a9,0,none⟩))/\P[12]? =some (.pointer (some ⟨ba,0,none⟩))/\P[13]? =some (.pointer (some ⟨wg,0,none⟩))/\(∀b,b<w.heap.size->¬hH M a3 xv b->w'.heap[b]? =w.heap[b]?):=by
 have az:=ap.z3 s;have dw:=az.size;have xL:=s.size;obtain⟨cx,eK,rx,rfl,-,aro,awc,arp,-⟩:=C.x.row aE;let S:=hH M a3 (.slice (some ⟨cx,0,none⟩) 6 eK)
 have Zl:S a3:=.inr (.inr (.inl rfl));have p8:S cx:=.inr (.inr (.inr (.inl rfl)));have uf:∀j,j<6->∀b,(M false j).A b->S b:=λj D b s=>.inr (.inr (.inr (.inr ⟨j,D,s⟩)));have arq:∀j,j<6->∀b,(M false j).A b->eL w b:=λj D b s=>(C.aw _ j D b s).2.2.2.2;have F:∀b,S b->∃c t z,w.heap[b]? =some (.cells c t z):=by
  rintro b(rfl|rfl|rfl|q|⟨j,D,q⟩)
  .have⟨v,t,k⟩:=az.mj;exact⟨_,_,_,k⟩
  .obtain⟨c,t,z,k,-⟩:=az.fM;exact⟨_,_,_,k⟩
  .exact C.hX.row
  .exact(C.x.qm b q).row
  .exact(arq j D b q).row
 have gJ:∀b,S b->b<w.heap.size:=λb V=>(by have⟨c,t,z,k⟩:=F b V;exact(bQ.1 k).1);have hk:px (cd false) S aD w:=⟨λb V=>V.elim,λb V=>by have⟨c,t,z,k⟩:=F b V;exact⟨_,k,.inl ⟨_,_,_,rfl⟩⟩,dw,dl _⟩;replace h:=h.qw (ro':=λ_=>False) (own':=λb=>S b/\¬False) (λ_ h=>h.elim) (λb s=>s.elim (λh=>gJ b h.1) False.elim);rw[arl]at h;have ars:∀j,j<6->aB (cd false).fn (cm S) (.pointer (some ⟨(M false j).av,0,none⟩)) (.pointer (some ⟨(M false j).av,0,none⟩)):=λj D=>.ptr (a:=⟨_,0,none⟩) (dJ (uf j D _ (C.b5 false j D).e4));obtain⟨dQ,w',a',own',nZ,-,p5,tr⟩:=Po (lo:=0) (ro':=false) (S:=S) (R:=λ_=>False) (b:=base 29) (a:=⟨qT (.slice (some ⟨a3,0,none⟩) R.length a0) (.slice (some ⟨cx,0,none⟩) 6 eK),[]⟩) (a':=⟨qT (.slice (some ⟨a3,0,none⟩) R.length a0) (.slice (some ⟨cx,0,none⟩) 6 eK),[]⟩) (Q:=λw a u=>a.tmps.size=66/\a.defers=[]/\a.tmps[1]? =some (.slice (some ⟨cx,0,none⟩) 6 eK)/\a.tmps[2]? =some (.pointer (some ⟨w.heap.size,0,none⟩))/\a.tmps[11]? =some (.pointer (some ⟨w.heap.size+2,0,none⟩))/\a.tmps[12]? =some (.pointer (some ⟨w.heap.size+5,0,none⟩))/\a.tmps[13]? =some (.pointer (some ⟨w.heap.size+6,0,none⟩))/\UM (.slice (some ⟨a3,0,none⟩) R.length a0) 6 w u) hk (PE ⟨.inl rfl,.inr (.inl rfl)⟩) T Zf rfl rfl ark (by
   have e:(qT (.slice (some ⟨a3,0,none⟩) R.length a0) (.slice (some ⟨cx,0,none⟩) 6 eK):aQ)= #[.slice (some ⟨a3,0,none⟩) R.length a0,.slice (some ⟨cx,0,none⟩) 6 eK]++Array.replicate 64 I:=ah;show aZ _ _ (qT (.slice (some ⟨a3,0,none⟩) R.length a0) (.slice (some ⟨cx,0,none⟩) 6 eK)) (qT (.slice (some ⟨a3,0,none⟩) R.length a0) (.slice (some ⟨cx,0,none⟩) 6 eK))
   rw[e];refine XX (Py λv X=> ?_) (Pz 64);simp only[dY,gE,gn]at X;rcases X with rfl|rfl
   .exact Iy λx cD=>by cases cD;exact Zl
   .exact Iy λx cD=>by cases cD;exact p8) .nil
  (λaP d=>ag7 (some ⟨a3,0,none⟩) R.length a0 cx 6 eK (λj=>(M false j).av) _ aE arp (λi af=>by
   show(cN (cd false) S aD w).cell? ⟨cx,i,none⟩=_
   rw[sM,aro.cell (DG (M false) rx af),mq,pv (ars i af)])
   (λi j af D m e=>C.two false i false j af D (.inr m) _ (C.b5 false i af).e4 (by rw[e];exact(C.b5 false j D).e4))
   (λi af=>by
    have⟨x,T,e⟩:=C.zj false i af;refine⟨x.map (fu (cd false).fn (cm S)),T,?_⟩;show(cN (cd false) S aD w).heap[_]? =_
    rw[pw,e];simp[n4])) h
 obtain⟨p,uU,f,u,tq,Y,D5,B,-,-,ID,wF,n,aP,d,dA,c9,gg,ks,D1,xd,Zm,b9⟩:=tr;have Z:(a2 (cN (cd false) S aD w) aP d).heap.size=w.heap.size:=sL;rw[Z]at ks D1 xd Zm;obtain⟨iU,art,x0,x1,gz,kv,uD,xb,xc⟩:=b9;rw[Z]at art x0 x1 gz kv uD xb xc;have hu:∀b,b<w.heap.size->u.heap[b]? =(cN (cd false) S aD w).heap[b]? :=λb s=>iU.block b (by rw[Z];exact s) id;have rO:∀b,S b->f b=some b:=λb s=>Y _ _ (dJ s);have⟨ht,f0⟩:=B w.heap.size (bh _) U;have⟨l6,aa⟩:=B (w.heap.size+1) U U;have⟨ou,J⟩:=B (w.heap.size+2) U U;have⟨Dy,K⟩:=B (w.heap.size+3) U U;have⟨yO,L⟩:=B (w.heap.size+4) U U;have⟨H0,N⟩:=B (w.heap.size+5) U U;have⟨PH,O⟩:=B (w.heap.size+6) U U;have c8:∀x y,f x=some y->w.heap.size<=x->w.heap.size<=y:=λx y e cD=>by
  rcases D5 x y e with⟨-,rfl⟩|q
  .exact cD
  .exact q.2
 have V:a'.tmps.size=66:=ID.size.symm.trans dA;have gt:∀i v,i<66->tq.tmps[i]? =some v->∃v',a'.tmps[i]? =some v'/\aB (cd false).fn f v v':=λi v af e=>by
  have HP:i<a'.tmps.size:=U;exact⟨_,dq HP,ID.get i _ _ e (dq HP)⟩
 have qk:∀{i g y},i<66->tq.tmps[i]? =some (.pointer (some ⟨g,0,none⟩))->f g=some y->a'.tmps[i]? =some (.pointer (some ⟨y,0,none⟩)):=λ{i g y}af e aru=>by
  have⟨v',fg,r⟩:=gt i _ af e;cases r with
  |@ptr a b aF=>rw[aru]at aF;cases aF;exact fg
 have⟨v1,ay,r1⟩:=gt 1 _ aE gg;have Kc:v1=.slice (some ⟨cx,0,none⟩) 6 eK:=by
  cases r1 with
  |@slice a b _ _ aF=>rw[rO cx p8]at aF;cases aF;rfl
 subst Kc;have sb:w'.heap[ht]? =some (.cells #[.slice (some ⟨a3,0,none⟩) R.length a0] 25 (0,0)):=by
  have⟨v',k,r⟩:=QB n f0 id x0;cases r with
  |@slice a b _ _ aF=>rw[rO a3 Zl]at aF;cases aF;exact k
 have IB:w'.heap[ou]? =some (.cells #[.slice (some ⟨l6,0,none⟩) 6 6] 69 (0,0)):=by
  have⟨v',k,r⟩:=QB n J id gz;cases r with
  |@slice a b _ _ aF=>rw[aa]at aF;cases aF;exact k
 have IC:w'.heap[H0]? =some (.cells #[.pointer (some ⟨yO,0,none⟩)] 107 (0,0)):=by
  have⟨v',k,r⟩:=QB n N id xb;cases r with
  |@ptr a b aF=>rw[L]at aF;cases aF;exact k
 have ow:w'.heap[Dy]? =some (.map #[] 0):=by
  have⟨o,im,k1,gd,lU⟩:=n.obj _ _ K;rw[kv]at k1;cases k1;rcases lU with⟨cl,_⟩|⟨_,lU⟩
  .exact cl.elim
  .cases lU with
   |@map x ak k a=>
    have:ak= #[]:=CL a.1.symm;rw[gd,this]
 have Bi:w'.heap[yO]? =some (.cells #[.int .i32 0,.int .u32 0,.map (some Dy)] 109 (0,0)):=by
  have⟨ak,k1,gd,lU⟩:=xe n L id uD;obtain⟨l⟩:=ak;match l,gd with
  |[nG,hO,hP],_=>
   have g0:=lU.get 0 _ _ rfl rfl;have g1:=lU.get 1 _ _ rfl rfl;have fC:=lU.get 2 _ _ rfl rfl;obtain rfl:=iV rfl g0;obtain rfl:=iV rfl g1;cases fC with
   |map aF=>rw[K]at aF;cases aF;exact k1
 have m:∀{i j QD QE},f (w.heap.size+i)=some QD->f (w.heap.size+j)=some QE->i≠j->QD≠QE:=λ{i j QD QE}bD cb awd e=>by
  subst e;have:=f.inj _ _ _ bD cb;omega
 have E:f (w.heap.size+0)=some ht:=f0;have eA:=az.XY n Y ⟨id,id⟩ ⟨.inl rfl,.inr (.inl rfl)⟩ (hu 0 U) (hu 2 U);have H:∀b,b<w.heap.size->¬S b->w'.heap[b]? =w.heap[b]? :=λb s cJ=>p.kept b s λq=>cJ q.1;rw[c9]at wF;have zZ:=Ak wF;obtain⟨P,awe⟩:=a';simp only at zZ;subst zZ;refine⟨dQ,w',P,own',ht,l6,ou,Dy,yO,H0,PH,cx,eK,nZ,p5,⟨dU ap.1 p.size,λb s=> ?_⟩,p.os,p.out,C.piece xL n Y p hu,⟨sb,Zi n aa id x1 λv X=> ?_,IB,ow,Bi,IC,Zi n O id xc λv X=> ?_⟩,rfl,λb s=> ?_,?_,V,ay,qk aE ks f0,qk aE D1 J,qk aE xd N,qk aE Zm O,H⟩
 .by_cases nI:S b
  .rcases nI with rfl|rfl|rfl|q|⟨j,D,q⟩
   .exact eA.1.trans (ap.2 _ s)
   .exact eA.2.trans (ap.2 _ s)
   .have:=C.old.1;omega
   .have:=C.old.2.1 b q;omega
   .have:=(C.aw _ j D b q).1;omega
  .exact(H b (fl s ap.1) nI).trans (ap.2 b s)
 .exact pT.1 (show(madeCells #[Value.nilIface] 6).toList.all ha=true by kernel_rfl) v X
 .simp at X;rcases X with rfl|rfl<;>rfl
 .rcases s with rfl|rfl|rfl|rfl|rfl|rfl|rfl
  .exact⟨c8 _ _ f0 U,(n.n0 f0).2⟩
  .exact⟨c8 _ _ aa U,(n.n0 aa).2⟩
  .exact⟨c8 _ _ J U,(n.n0 J).2⟩
  .exact⟨c8 _ _ K U,(n.n0 K).2⟩
  .exact⟨c8 _ _ L U,(n.n0 L).2⟩
  .exact⟨c8 _ _ N U,(n.n0 N).2⟩
  .exact⟨c8 _ _ O U,(n.n0 O).2⟩
 .simp only[IE,dY,gE,gn,not_or,IF,D6,kl];exact⟨⟨m E aa aE,m E J aE,m E K aE,m E L aE,m E N aE,m E O aE⟩,⟨m aa J aE,m aa K aE,m aa L aE,m aa N aE,m aa O aE⟩,⟨m J K aE,m J L aE,m J N aE,m J O aE⟩,⟨m K L aE,m K N aE,m K O aE⟩,⟨m L N aE,m L O aE⟩,m N O aE⟩
end Go.Proofs.YtlcdgbhigfgehabGreatDoor
