import Derived.Test.YtlcdgbhigfgehabGreatDoorQA17
import Derived.Test.YtlcdgbhigfgehabGreatDoorQC07
set_option linter.all false
set_option maxRecDepth 100000
set_option maxHeartbeats 16000000
namespace Go.Proofs.YtlcdgbhigfgehabGreatDoor
open Go Go.Ren Go.bp Go.bG Go.Conc Go.ConcN Go.RowKit Go.Conc.Lib Go.ConcR.Gen Go.ConcN.Gen
open Go.ConcR (KK wgBlock WgAt stA smA rd wr mk DC0)

structure c7 where
 K:bj
 aU:ab
 bL:Nat
 a9:Nat
 ba:Nat
 aO:Nat
 bd:Nat
 bc:Nat
 ms:Nat
 It:Nat
 bx:ar
 av:Nat->Nat
 an:Nat->Nat
 au:Nat->List aI
 room:Nat->Int
 A:Nat->Nat->Prop
namespace c7
variable(D:c7)
def aN(i:Nat)(b:Nat):Prop:=b<D.aU.heap.size/\¬D.K.ro b/\b≠D.K.Wg/\b≠D.K.bm/\b≠D.K.bb/\b≠D.K.bU/\∀j,j<i->¬D.A j b
structure Ok:Prop where
 cW:D.K.cW=link.tWg
 xE:D.K.n<=8
 b5:∀i,i<D.K.n->dK D.aU (D.av i) (D.an i) (D.au i) (D.room i) (D.A i)
 Y1:∀i j,i<D.K.n->j<D.K.n->i≠j->∀b,D.A i b->¬D.A j b
 xH:∀i,i<D.K.n->∀b,D.A i b->D.aN 0 b/\eL D.aU b
 hD:bH D.aU (.slice (some ⟨D.aO,D.bd,none⟩) D.bx.length D.bc) D.bx/\fz D.bx≠none
 bne:∃c t z,D.aU.heap[D.aO]? =some (.cells c t z)/\0<c.size
 ety:dp D.aU
 oP:il D.aU
 Iq:∃c t z,D.aU.heap[2]? =some (.cells c t z)/\0<c.size
 ro:D.K.ro 0/\D.K.ro 1/\D.K.ro 2/\D.K.ro D.aO
 tf:D.K.ro D.bL/\D.aU.cell? ⟨D.bL,0,none⟩=some (.slice (some ⟨D.aO,D.bd,none⟩) D.bx.length D.bc)
 pF:D.K.ro D.a9/\D.aU.cell? ⟨D.a9,0,none⟩=some (.slice (some ⟨D.K.bb,0,none⟩) D.K.n D.K.n)
 tg:D.K.ro D.ba/\D.aU.cell? ⟨D.ba,0,none⟩=some (.pointer (some ⟨D.K.bm,0,none⟩))
 mS:∀b,D.K.ro b->b<D.aU.heap.size/\b≠D.K.Wg/\b≠D.K.bm/\b≠D.K.bb/\b≠D.K.bU
 lt:D.K.Wg<D.aU.heap.size/\D.K.bm<D.aU.heap.size/\D.K.bb<D.aU.heap.size/\D.K.bU<D.aU.heap.size
 ne:D.K.Wg≠D.K.bm/\D.K.bb≠D.K.Wg/\D.K.bb≠D.K.bm/\D.K.bU≠D.K.Wg/\D.K.bU≠D.K.bm/\D.K.bU≠D.K.bb
 Iu:D.aN D.K.n D.ms
 ap6:∀i,i<D.K.n->D.aU.cell? ⟨D.ms,i,none⟩=some (.pointer (some ⟨D.av i,0,none⟩))
structure SM(own:Nat->Prop)(xs:List (Nat×Obj))(w:ab):Prop where
 aT:hf D.K w
 wg:WgLive D.K w
 pay:hg D.K w
 size:D.aU.heap.size<=w.heap.size
 kept:∀b,b<D.aU.heap.size->own b\/D.K.ro b->w.heap[b]? =D.aU.heap[b]?
 new:∀p∈xs,own p.1/\D.aU.heap.size<=p.1/\w.heap[p.1]? =some p.2
 os:Go.ConcM.OsLater D.aU.os w.os
 out:w.output=D.aU.output
end c7
section
variable{D:c7}{own:Nat->Prop}{xs:List (Nat×Obj)}{w al:World}
def Af{w:ab}{b:Nat}{o:Obj}(h:w.heap[b]? =some o):b<w.heap.size:=(bQ.1 h).1
def c7.SM.rely{d:Nat}(h:D.SM own xs w)(r:Rl D.K none ⟨own,d⟩ w al):D.SM own xs al:=⟨r.aT h.aT,r.wg h.wg,r.pay h.pay,dU h.size r.size,λb c e=>(r.kept b (fl c h.size) e).trans (h.kept b c e),λp a=>⟨(h.new p a).1,(h.new p a).2.1,(r.kept _ (Af (h.new p a).2.2) (.inl (h.new p a).1)).trans (h.new p a).2.2⟩,h.os.trans r.os,r.output.trans h.out⟩
def c7.SM.Y2(O:D.Ok)(h:D.SM own xs w)(ap:¬own D.K.Wg)(k:Nat)(v:ai)(f:WgLive D.K (w.setCell ⟨D.K.Wg,k,none⟩ v)):D.SM own xs (w.setCell ⟨D.K.Wg,k,none⟩ v):=by
 have a:∀b,b≠D.K.Wg->(w.setCell ⟨D.K.Wg,k,none⟩ v).heap[b]? =w.heap[b]? :=λb e=>by
  show(w.heap.modify _ _)[b]? =_
  rw[fA,aC (λq=>e q.symm)]
 refine⟨h.aT.of_block (a _ (ed O.ne.1)),f,h.pay.of_block (a _ O.ne.2.1),(by show _<=(w.heap.modify _ _).size;rw[Dx];exact h.size),λb g d=>(a b ?_).trans (h.kept b g d),λp c=>⟨(h.new p c).1,(h.new p c).2.1,(a _ ?_).trans (h.new p c).2.2⟩,h.os,h.out⟩
 .rintro rfl;exact d.elim ap λq=>(O.mS _ q).2.1 rfl
 .intro e;exact ap (e▸(h.new p c).1)
def c7.SM.Qp(O:D.Ok)(ap:¬own D.K.Wg):vo D.K own (D.SM own xs) where
 rely:=λh r=>h.rely r
 live:=λh=>h.wg
 set:=λ{w}v h=>h.Y2 O ap 0 _ (by
  have⟨a,b,q⟩:=h.wg;exact⟨v,b,q.setSt v⟩)
 YY:=λ{w}h=>h.Y2 O ap 1 _ (by
  have⟨a,b,q⟩:=h.wg;exact⟨a,0,q.setSm 0⟩)
def Y3{K:bj}{j:Option Nat}(w:ab)(g:K.bb<w.heap.size)(o:Obj)(aH:bI)(h:∀e∈aH,e∈(#[]:bI)):e7 K j ⟨own,0⟩ ⟨λb=>own b\/b=w.heap.size,0⟩ w (w.alloc o) aH:=by
 have a:∀b,b<w.heap.size->(w.alloc o).heap[b]? =w.heap[b]? :=λb c=>Cd w o c;have d:aH= #[]:=by
  apply CL;rcases jL aH.size with e|e
  .exact e
  .exact absurd (h aH[0] (Du e)) (xA _)
 have f:(w.alloc o).heap.size=w.heap.size+1:=Gc ..;subst d;refine⟨rfl,.refl _,rfl,by rw[f];exact Nat.le_succ _,λb c _ _=>a b c,λ⟨cs,p,k⟩=>⟨cs,(a _ (Af p)).trans p,k⟩,λi _=> ?_,λb=> ?_,λe l=>absurd l (xA _),rfl⟩
 .simp only[World.cell?];rw[a _ g]
 .rw[f];constructor
  .rintro(h|rfl)
   .exact .inl h
   .exact .inr ⟨bh _,z1 _⟩
  .rintro(h|h)
   .exact .inl h
   .exact .inr U
def Y4{K:bj}{j:Option Nat}(w:ab)(a:Addr)(v:ai)(aH:bI)(g:own a.block)(k:a.block≠K.bb)(h:∀e∈aH,e∈(#[⟨.cell a,true,false⟩]:bI)):e7 K j ⟨own,0⟩ ⟨own,0⟩ w (w.setCell a v) aH:=by
 have d:∀b,b≠a.block->(w.setCell a v).heap[b]? =w.heap[b]? :=λb e=>by
  show(w.heap.modify _ _)[b]? =_
  rw[fA,aC (λq=>e q.symm)]
 have l:(w.setCell a v).heap.size=w.heap.size:=Dx ..;have n:∀e∈aH,e=⟨.cell a,true,false⟩:=λe f=>Array.mem_singleton.1 (h e f);refine⟨rfl,.refl _,rfl,by rw[l];exact bh _,λb _ o _=>d b (λe=>o (e▸g)),λ⟨cs,p,r⟩=>⟨cs,(d _ (ed k)).trans p,r⟩,λi _=> ?_,λb=>⟨.inl,λh=>h.elim id λh=>by rw[l]at h;omega⟩,λe f=> ?_,z2 λe f m=>by rw[n e f];exact λq=>by cases q⟩
 .simp only[World.cell?];rw[d _ (ed k)]
 .rw[n e f];exact .own (bS.cell a) g λc s=>by cases s
def ap7{K:bj}{j:Option Nat}{s:aM}(w:ab)(a:Addr)(aH:bI)(g:s.own a.block)(h:∀e∈aH,e∈(#[⟨.cell a,false,false⟩]:bI)):e7 K j s s w w aH:=by
 have f:∀e∈aH,e=⟨.cell a,false,false⟩:=λe d=>Array.mem_singleton.1 (h e d);refine⟨rfl,.refl _,rfl,bh _,λ_ _ _ _=>rfl,id,λ_ _=>rfl,λb=>⟨.inl,λh=>h.elim id λh=>U⟩,λe d=> ?_,z2 λe d m=>by rw[f e d];exact λq=>by cases q⟩;rw[f e d];exact .own (bS.cell a) g λc i=>by cases i
end
end Go.Proofs.YtlcdgbhigfgehabGreatDoor
namespace Go.Proofs.YtlcdgbhigfgehabGreatDoor
open Go Go.Ren Go.bp Go.bG Go.Conc Go.ConcN Go.RowKit Go.Conc.Lib Go.ConcR.Gen Go.ConcN.Gen
open Go.ConcR (KK wgBlock WgAt stA smA rd wr mk DC0)
open Go.ConcM (OsLater goes_pad goes_le)

def Iv(T:aQ)(h:T.size=66):∃bE v1 v2 bA v4 aX v6 hV gK iJ a b c d e f g i j k m n o p q r s t u v w x y z A B C D E F G H aa J K L M N O P Q R S az V W X Y Z mC mD mE mF mG mH mI,T= #[bE,v1,v2,bA,v4,aX,v6,hV,gK,iJ,a,b,c,d,e,f,g,i,j,k,m,n,o,p,q,r,s,t,u,v,w,x,y,z,A,B,C,D,E,F,G,H,aa,J,K,L,M,N,O,P,Q,R,S,az,V,W,X,Y,Z,mC,mD,mE,mF,mG,mH,mI]:=by
 obtain⟨l⟩:=T;simp only[ub]at h;rcases l with _|⟨bE,l⟩
 .simp at h
 rcases l with _|⟨v1,l⟩
 .simp at h
 rcases l with _|⟨v2,l⟩
 .simp at h
 rcases l with _|⟨bA,l⟩
 .simp at h
 rcases l with _|⟨v4,l⟩
 .simp at h
 rcases l with _|⟨aX,l⟩
 .simp at h
 rcases l with _|⟨v6,l⟩
 .simp at h
 rcases l with _|⟨hV,l⟩
 .simp at h
 rcases l with _|⟨gK,l⟩
 .simp at h
 rcases l with _|⟨iJ,l⟩
 .simp at h
 rcases l with _|⟨a,l⟩
 .simp at h
 rcases l with _|⟨b,l⟩
 .simp at h
 rcases l with _|⟨c,l⟩
 .simp at h
 rcases l with _|⟨d,l⟩
 .simp at h
 rcases l with _|⟨e,l⟩
 .simp at h
 rcases l with _|⟨f,l⟩
 .simp at h
 rcases l with _|⟨g,l⟩
 .simp at h
 rcases l with _|⟨i,l⟩
 .simp at h
 rcases l with _|⟨j,l⟩
 .simp at h
 rcases l with _|⟨k,l⟩
 .simp at h
 rcases l with _|⟨m,l⟩
 .simp at h
 rcases l with _|⟨n,l⟩
 .simp at h
 rcases l with _|⟨o,l⟩
 .simp at h
 rcases l with _|⟨p,l⟩
 .simp at h
 rcases l with _|⟨q,l⟩
 .simp at h
 rcases l with _|⟨r,l⟩
 .simp at h
 rcases l with _|⟨s,l⟩
 .simp at h
 rcases l with _|⟨t,l⟩
 .simp at h
 rcases l with _|⟨u,l⟩
 .simp at h
 rcases l with _|⟨v,l⟩
 .simp at h
 rcases l with _|⟨w,l⟩
 .simp at h
 rcases l with _|⟨x,l⟩
 .simp at h
 rcases l with _|⟨y,l⟩
 .simp at h
 rcases l with _|⟨z,l⟩
 .simp at h
 rcases l with _|⟨A,l⟩
 .simp at h
 rcases l with _|⟨B,l⟩
 .simp at h
 rcases l with _|⟨C,l⟩
 .simp at h
 rcases l with _|⟨D,l⟩
 .simp at h
 rcases l with _|⟨E,l⟩
 .simp at h
 rcases l with _|⟨F,l⟩
 .simp at h
 rcases l with _|⟨G,l⟩
 .simp at h
 rcases l with _|⟨H,l⟩
 .simp at h
 rcases l with _|⟨aa,l⟩
 .simp at h
 rcases l with _|⟨J,l⟩
 .simp at h
 rcases l with _|⟨K,l⟩
 .simp at h
 rcases l with _|⟨L,l⟩
 .simp at h
 rcases l with _|⟨M,l⟩
 .simp at h
 rcases l with _|⟨N,l⟩
 .simp at h
 rcases l with _|⟨O,l⟩
 .simp at h
 rcases l with _|⟨P,l⟩
 .simp at h
 rcases l with _|⟨Q,l⟩
 .simp at h
 rcases l with _|⟨R,l⟩
 .simp at h
 rcases l with _|⟨S,l⟩
 .simp at h
 rcases l with _|⟨az,l⟩
 .simp at h
 rcases l with _|⟨V,l⟩
 .simp at h
 rcases l with _|⟨W,l⟩
 .simp at h
 rcases l with _|⟨X,l⟩
 .simp at h
 rcases l with _|⟨Y,l⟩
 .simp at h
 rcases l with _|⟨Z,l⟩
 .simp at h
 rcases l with _|⟨mC,l⟩
 .simp at h
 rcases l with _|⟨mD,l⟩
 .simp at h
 rcases l with _|⟨mE,l⟩
 .simp at h
 rcases l with _|⟨mF,l⟩
 .simp at h
 rcases l with _|⟨mG,l⟩
 .simp at h
 rcases l with _|⟨mH,l⟩
 .simp at h
 rcases l with _|⟨mI,l⟩
 .simp at h
 cases l with
 |nil=>exact⟨_,_,_,_,_,_,_,_,_,_,_,_,_,_,_,_,_,_,_,_,_,_,_,_,_,_,_,_,_,_,_,_,_,_,_,_,_,_,_,_,_,_,_,_,_,_,_,_,_,_,_,_,_,_,_,_,_,_,_,_,_,_,_,_,_,_,rfl⟩
 |cons _ _=>simp at h
noncomputable def qR:Code:=Tryz.f29.body.getD .skip
noncomputable def rN:Code:=aW (aW (aW (aW (aW (aW qR)))))
noncomputable def xI:Code:=Ae (dD rN)
noncomputable def xJ:Code:=aW rN
noncomputable def Ag:Code:=aW xJ
noncomputable def xK:dn:=yS (dD xJ)
section
variable{K:bj}{aL:bu->Obj->Prop}{Post:Nat->(Nat->Prop)->World->Prop}{kd:Nat->Int}{Anch H Ah:aM->Goroutine->World->Prop}
def D2{Stop Stop':aM->aY->ab->Prop}(h:∀s g w,Stop s g w->Stop' s g w){s:aM}{g:aY}{w:ab}(k:eT Tryz.prog K Stop s g w):eT Tryz.prog K Stop' s g w:=k.mono (λ_ _ _ h=>h) (λ_ _ _ _ _ h=>h) h
def ap8(h:∀s g w,H s g w->Ah s g w){s:aM}{g:aY}{w:ab}(k:zR Tryz.prog K H s g w):zR Tryz.prog K Ah s g w:=by
 obtain⟨a,b,g',c,d⟩:=k;exact⟨a,b,g',c,D2 h d⟩
def ap9(h:∀s g w,H s g w->Ah s g w){vs:Nat}{s:aM}{g:aY}{w:ab}(k:Ht Tryz.prog K Anch H vs s g w):Ht Tryz.prog K Anch Ah vs s g w:=by
 obtain⟨a,b,c⟩:=k;refine⟨a,b,λv d f=>⟨(c v d f).1,λe=> ?_⟩⟩;have⟨g',i,j⟩:=(c v d f).2 e;exact⟨g',i,D2 h j⟩
def aqa(h:∀s g w,H s g w->Ah s g w){s:aM}{g:aY}{w:ab}(k:rD Tryz.prog K Anch H s g w):rD Tryz.prog K Anch Ah s g w:=by
 obtain⟨a,b,c⟩:=k;refine⟨a,b,λv d f=> ?_⟩;have⟨g',i,j,l⟩:=c v d f;exact⟨g',i,j,λe=>D2 (λ_ _ _=>ap9 h) (l e)⟩
def Y5{r:Nat}{s:aM}{g:aY}{w:ab}(h:eT Tryz.prog K (mJ Tryz.prog K aL Post kd H r) s g w):mJ Tryz.prog K aL Post kd H r s g w:=by
 cases r with
 |zero=>exact a7.bind (hZ K none) h λ_ _ _ h=>h
 |succ r=>exact a7.bind (hZ K none) h λ_ _ _ h=>h
end
def Iw(D:c7)(cs:bW)(s:aM)(g:aY)(w:ab):Prop:=s=⟨D.aN D.K.n,0⟩/\∃a:Act,g=G ((base 29).at a [.inRegion xK [],.code Ag]) cs/\a.tmps.size=66/\a.defers=[]/\a.tmps.getD 11 I=.pointer (some ⟨D.a9,0,none⟩)/\a.tmps.getD 12 I=.pointer (some ⟨D.ba,0,none⟩)/\D.SM (D.aN D.K.n) [] w
def tn(D:c7)(cs:bW)(s:aM)(g:aY)(w:ab):Prop:=∃a₀:Act,a₀.tmps.size=66/\a₀.defers=[]/\a₀.tmps.getD 11 I=.pointer (some ⟨D.a9,0,none⟩)/\a₀.tmps.getD 12 I=.pointer (some ⟨D.ba,0,none⟩)/\Is D.K (D.aN D.K.n) (D.SM (D.aN D.K.n) []) ((base 29).at a₀ [.inRegion xK [0],.code Ag]) cs s g w
section
variable{D:c7}{cs:List Frame}
def Qq{i:Nat}:¬D.aN i D.K.Wg:=λh=>h.2.2.1 rfl
def aqb{a:Act}(h:a.tmps.size=66)(d:Option Tmp)(v:ai):(a.put d v).tmps.size=66:=by
 cases d with
 |none=>exact h
 |some d=>rw[te];exact h
def aqc(a:Act)(d:Option Tmp)(v:ai):(a.put d v).defers=a.defers:=by cases d<;>rfl
def Y6:(xK[0]?).bind (·.dst)=some 60:=ah
def aqd(O:D.Ok):∀s g w,tn D cs s g w->eT Tryz.prog D.K (rD Tryz.prog D.K (Iw D cs) (tn D cs)) s g w:=by
 rintro s g w⟨a₀,a,b,c,d,e⟩;refine D2 (λs g w=>aqa λs g w h=>⟨a₀,a,b,c,d,h⟩) (ap5 (Anch:=Iw D cs) (b₀:=base 29) (a₀:=a₀) (ops₀:=xK) (i₀:=0) (rest₀:=[]) (k₀:=[.code Ag]) (cs:=cs) O.cW (c7.SM.Qp O Qq) (λw hF=>a7.stop λal r=>⟨rfl,_,rfl,aqb a _ _,(aqc _ _ _).trans b,?_,?_,hF.rely r⟩) s g w e)
 .rw[Y6,td (by rw[a];omega),aC U];exact c
 .rw[Y6,td (by rw[a];omega),aC U];exact d
end
end Go.Proofs.YtlcdgbhigfgehabGreatDoor
namespace Go.Proofs.YtlcdgbhigfgehabGreatDoor
open Go Go.Ren Go.bp Go.bG Go.Conc Go.ConcN Go.RowKit Go.Conc.Lib Go.ConcR.Gen Go.ConcN.Gen
open Go.ConcR (KK wgBlock WgAt stA smA rd wr mk DC0)

def d49(D:c7)(bz bn:Nat):Deferred:={target:=.fn (.func 49) #[.pointer (some ⟨D.K.Wg,0,none⟩),.pointer (some ⟨bz,0,none⟩),.pointer (some ⟨D.bL,0,none⟩),.pointer (some ⟨D.a9,0,none⟩),.pointer (some ⟨bn,0,none⟩),.pointer (some ⟨D.ba,0,none⟩)],args:= #[]}
def arv(D:c7)(bz bn:Nat)(w:ab):stepG Tryz.prog false (born Tryz.prog (d49 D bz bn)) w=.go (G ((baseD 49).at ⟨#[.pointer (some ⟨D.K.Wg,0,none⟩),.pointer (some ⟨bz,0,none⟩),.pointer (some ⟨D.bL,0,none⟩),.pointer (some ⟨D.a9,0,none⟩),.pointer (some ⟨bn,0,none⟩),.pointer (some ⟨D.ba,0,none⟩),I,I,I,I,I,I,I,I,I,I,I,I],[]⟩ [.code xD]) [iE]) w #[]:=by simp[born,d49,stepG,unwind,callDeferred,invoke,callFunc,Tryz.func49,Tryz.f49,seen,GStep.after,G,Frame.enter,Frame.at,baseD,iE,xD]
def xM(D:c7)(i bz bn:Nat)(b:Nat):Prop:=D.A i b\/b=bz\/b=bn
structure Am(D:c7)(i bz bn:Nat)(w:ab):Prop where
 size:D.aU.heap.size<=w.heap.size
 kept:∀b,D.A i b\/D.K.ro b->w.heap[b]? =D.aU.heap[b]?
 ui:w.heap[bz]? =some (.cells #[.pointer (some ⟨D.av i,0,none⟩)] 26)
 IG:w.heap[bn]? =some (.cells #[.int .i64 i] 3)
 new:D.aU.heap.size<=bz/\D.aU.heap.size<=bn
section
variable{D:c7}{i bz bn:Nat}{w al:World}
def Am.rely(O:D.Ok)(af:i<D.K.n)(h:Am D i bz bn w){d:Nat}(r:Rl D.K (some i) ⟨xM D i bz bn,d⟩ w al):Am D i bz bn al:=by
 refine⟨dU h.size r.size,λb a=> ?_,(r.kept _ (Af h.ui) (.inl (.inr (.inl rfl)))).trans h.ui,(r.kept _ (Af h.IG) (.inl (.inr (.inr rfl)))).trans h.IG,h.new⟩;have c:b<D.aU.heap.size:=by
  rcases a with a|a
  .exact(O.xH i af b a).1.1
  .exact(O.mS b a).1
 exact(r.kept b (fl c h.size) (a.imp .inl id)).trans (h.kept b a)
def IH{w:ab}{b:Nat}{v:ai}{T:TypeId}(h:w.heap[b]? =some (.cells #[v] T)):w.cell? ⟨b,0,none⟩=some v:=by simp[World.cell?,h]
def II{w al:ab}{b k:Nat}{v:ai}(h:w.heap[b]? =al.heap[b]?)(c:al.cell? ⟨b,k,none⟩=some v):w.cell? ⟨b,k,none⟩=some v:=by rw[<-c];simp only[World.cell?];rw[h]
def Am.start(O:D.Ok)(af:i<D.K.n)(h:Am D i bz bn w):rM D.K i bz bn (D.av i) (D.an i) D.bL D.a9 D.ba (D.au i) (D.room i) D.aO D.bd D.bc D.bx (xM D i bz bn) w:=by
 have d:∀b,D.K.ro b->w.heap[b]? =D.aU.heap[b]? :=λb a=>h.kept b (.inr a);have l:∀b,D.A i b->w.heap[b]? =D.aU.heap[b]? :=λb a=>h.kept b (.inl a);have k:=O.b5 i af;have f:=O.lt;have lt:∀b,xM D i bz bn b->b<D.aU.heap.size->D.A i b:=λb a p=>by
  rcases a with a|rfl|rfl
  .exact a
  .have:=h.new.1;omega
  .have:=h.new.2;omega
 refine⟨O.xE,af,(k.same l).mono λb a=>.inl a,isB_sameR O.hD λb a=> ?_,?_,uW O.ety (d _ O.ro.1),GV O.oP (d _ O.ro.2.1),?_,.inr (.inl rfl),.inr (.inr rfl),?_,λb a=> ?_,O.ro,IH h.ui,IH h.IG,⟨O.tf.1,II (d _ O.tf.1) O.tf.2⟩,⟨O.pF.1,II (d _ O.pF.1) O.pF.2⟩,⟨O.tg.1,II (d _ O.tg.1) O.tg.2⟩,?_⟩
 .simp[Value.ownBlock]at a;subst a;exact d _ O.ro.2.2.2
 .have⟨c,t,z,g,j⟩:=O.bne;exact⟨c,t,z,(d _ O.ro.2.2.2).trans g,j⟩
 .have⟨c,t,z,g,j⟩:=O.Iq;exact⟨c,t,z,(d _ O.ro.2.2.1).trans g,j⟩
 .have g:=(O.xH i af _ k.e4).1.1;have j:=(O.xH i af _ k.ind).1.1;have:=h.new;refine⟨?_,?_,?_,?_⟩<;>omega
 .rcases a with a|rfl|rfl
  .have⟨T,xs,o⟩:=(O.xH i af b a).2;exact⟨T,xs,hc o (l b a)⟩
  .exact⟨26,[_],(0,0),h.ui,.inr rfl⟩
  .exact⟨3,[_],(0,0),h.IG,.inr rfl⟩
 .have r:=h.size;have e:∀b,D.A i b->_:=λb a=>(O.xH i af b a).1;refine⟨⟨U,U,U,U⟩,⟨λq=>(e _ (lt _ q f.1)).2.2.1 rfl,λq=>(e _ (lt _ q f.2.1)).2.2.2.1 rfl,λq=>(e _ (lt _ q f.2.2.1)).2.2.2.2.1 rfl,λq=>(e _ (lt _ q f.2.2.2)).2.2.2.2.2.1 rfl⟩,λb a=> ?_,O.ne⟩;have m:=O.mS b a;exact⟨U,λq=>(e _ (lt b q m.1)).2.1 a,m.2⟩
def arw{Post:Nat->(Nat->Prop)->ab->Prop}(O:D.Ok)(af:i<D.K.n)(h:Am D i bz bn w)(e:∀own w,vn D.K i (D.av i) (jZ (D.au i) (D.room i) D.bx 0) (D.room i) (fe (D.au i) (D.room i) D.bx 0) own w->Post i own w)(a:hg D.K w)(b:WgLive D.K w)(c:hf D.K w)(d:Nat): dW Tryz.prog D.K i (oN Tryz.prog D.K h5 Post i (fe (D.au i) (D.room i) D.bx 0).k d {pc:=.ld} λ_=>0) ⟨xM D i bz bn,0⟩ (born Tryz.prog (d49 D bz bn)) w:=by refine a7.fW rfl λal r=>⟨_,_,_,_,arv D bz bn al,zT ⟨rfl,rfl⟩,apY O.cW ((h.rely O af r).start O af) e (r.pay a) (r.wg b) (r.aT c) d⟩
end
end Go.Proofs.YtlcdgbhigfgehabGreatDoor
namespace Go.Proofs.YtlcdgbhigfgehabGreatDoor
open Go Go.Ren Go.bp Go.bG Go.Conc Go.ConcN Go.RowKit Go.Conc.Lib Go.ConcR.Gen Go.ConcN.Gen
open Go.ConcR (KK wgBlock WgAt stA smA rd wr mk DC0)
open Go.ConcM (OsLater goes_pad goes_le)

def arx{dE:Operand->ai}{o:Oper}{x:Operand}(ap:o.op=.load 26 x){ad:Addr}{v:ai}(b:dE x=.pointer (some ad))(w:ab)(a:w.cell? ad=some v):(execOp dE o).runT Tryz.prog w #[]=(.ok (.value v) w,#[⟨.cell ad,false,false⟩]):=by
 rw[QF];unfold execOp;simp only[ap,b];congr 1
 .simp[go_sem,a,Tryz.isAgg26]
 .simp[go_sem,a,Tryz.isAgg26]
def Zn{t:TypeId}(b:(Tryz.prog.info? t).map (·.size)=some 1){dE:Operand->ai}{o:Oper}{x y:Operand}(ap:o.op=.store t x y){p:Addr}{v u:ai}(d:dE x=.pointer (some p))(e:dE y=v)(w:ab)(h:w.cell? p=some u)(c:w.frozen? p=false)(f:(∃k n,v=.int k n)\/∃a,v=.pointer a):(execOp dE o).runT Tryz.prog w #[]=(.ok .skip (w.setCell p v),#[⟨.cell p,true,false⟩]):=by
 unfold execOp;simp only[ap,d,e];show((Instr.storeAt t (.pointer (some p)) v).bind _).runT Tryz.prog w #[]=_
 rw[hx];have:(Instr.storeAt t (.pointer (some p)) v).runT Tryz.prog w #[]=(.ok () (w.setCell p v),#[⟨.cell p,true,false⟩]):=by
  unfold Instr.storeAt Instr.sureAddr storeVar Go.sizeOf typeInfo Go.program;simp only[Bind.bind,Sem.bind,Sem.runT,Pure.pure];cases en:Tryz.prog.info? t with
  |none=>rw[en]at b;cases b
  |some i=>
   rw[en]at b;have af:i.size=1:=(by simpa using b);simp only[Sem.bind,Sem.runT,af];rcases f with⟨k,n,rfl⟩|⟨a,rfl⟩
   .rw[aC (by simp[Value.cells])];show(storeCells p [Value.int k n]).runT Tryz.prog w #[]=_
    simp only[storeCells,store,Bind.bind,Sem.bind,Sem.runT,Pure.pure,Addr.add,dd,h];rw[c];rfl
   .rw[aC (by simp[Value.cells])];show(storeCells p [Value.pointer a]).runT Tryz.prog w #[]=_
    simp only[storeCells,store,Bind.bind,Sem.bind,Sem.runT,Pure.pure,Addr.add,dd,h];rw[c];rfl
 rw[this];rfl
def ary:(Tryz.prog.info? 3).map (·.size)=some 1:=ah
def arz:(Tryz.prog.info? 26).map (·.size)=some 1:=ah
def arA(w:ab)(o:Obj):(w.alloc o).heap[w.heap.size]? =some o:=V8 w o
def arB{w:ab}{b:Nat}{u v:ai}{T:TypeId}(h:w.heap[b]? =some (.cells #[u] T)):(w.setCell ⟨b,0,none⟩ v).heap[b]? =some (.cells #[v] T):=by
 show(w.heap.modify _ _)[b]? =_
 rw[fA,h];simp
section
variable{D:c7}{cs:List Frame}{own:Nat->Prop}{xs:List (Nat×Obj)}{w:World}
def c7.SM.alloc(O:D.Ok)(h:D.SM own xs w)(o:Obj):D.SM (λb=>own b\/b=w.heap.size) ((w.heap.size,o)::xs) (w.alloc o):=by
 have a:∀b,b<w.heap.size->(w.alloc o).heap[b]? =w.heap[b]? :=λb g=>Cd w o g;have j:(w.alloc o).heap.size=w.heap.size+1:=Gc ..;have i:=h.size;refine⟨h.aT.of_block (a _ h.aT.lt),h.wg.of_block (a _ h.wg.lt),h.pay.of_block (a _ h.pay.lt),U,λb c d=>(a b U).trans (h.kept b c (d.imp (λq=>q.resolve_right U) id)),λp e=> ?_,h.os,h.out⟩;rcases dY.1 e with rfl|e
 .exact⟨.inr rfl,i,arA w o⟩
 .have⟨c,d,f⟩:=h.new p e;exact⟨.inl c,d,(a _ (Af f)).trans f⟩
def c7.SM.Zo(O:D.Ok){b:Nat}{u v:ai}{T:TypeId}{l1 l2:List (Nat×Obj)}(h:D.SM own (l1++ (b,.cells #[u] T)::l2) w)(l:∀p∈l1++l2,p.1≠b):D.SM own (l1++ (b,.cells #[v] T)::l2) (w.setCell ⟨b,0,none⟩ v):=by
 have d:=h.new (b,.cells #[u] T) ag;have m:=O.lt;have a:∀k,k≠b->(w.setCell ⟨b,0,none⟩ v).heap[k]? =w.heap[k]? :=λk e=>by
  show(w.heap.modify _ _)[k]? =_
  rw[fA,aC (λq=>e q.symm)]
 have f:=d.2.1;simp only at f;refine⟨h.aT.of_block (a _ U),h.wg.of_block (a _ U),h.pay.of_block (a _ U),?_,λk n o=>(a k U).trans (h.kept k n o),λp c=> ?_,h.os,h.out⟩
 .show _<=(w.heap.modify _ _).size
  rw[Dx];exact h.size
 .simp only[fB,dY]at c;rcases c with c|rfl|c
  .have⟨g,i,j⟩:=h.new p (by simp[c]);exact⟨g,i,(a _ (l p (by simp[c]))).trans j⟩
  .exact⟨d.1,d.2.1,arB d.2.2⟩
  .have⟨g,i,j⟩:=h.new p (by simp[c]);exact⟨g,i,(a _ (l p (by simp[c]))).trans j⟩
end
structure Zp(D:c7)(i:Nat)(T:aQ):Prop where
 aK:T.size=66
 t2:T[2]? =some (.pointer (some ⟨D.bL,0,none⟩))
 t11:T[11]? =some (.pointer (some ⟨D.a9,0,none⟩))
 t12:T[12]? =some (.pointer (some ⟨D.ba,0,none⟩))
 t13:T[13]? =some (.pointer (some ⟨D.K.Wg,0,none⟩))
 t50:T[50]? =some (.slice (some ⟨D.ms,0,none⟩) D.K.n D.It)
 t51:T[51]? =some (.int .i64 D.K.n)
 t52:T[52]? =some (.int .i64 i)
section
variable{D:c7}{cs:List Frame}{Post:Nat->(Nat->Prop)->World->Prop}{kd:Nat->Int}
def IJ{i j b:Nat}(h:D.aN j b)(a:i<=j):D.aN i b:=⟨h.1,h.2.1,h.2.2.1,h.2.2.2.1,h.2.2.2.2.1,h.2.2.2.2.2.1,λk hk=>h.2.2.2.2.2.2 k (fl hk a)⟩
def arC{b:bY}{a:Act}{o:Oper}{w:ab}(c:(execOp a.eval o).events Tryz.prog w #[]= #[]):listed Tryz.prog b.fn a o w= #[]:=by unfold listed;rw[c];simp[seen_def]
def Zq{w:ab}{b:Nat}{v:ai}{T:TypeId}(h:w.heap[b]? =some (.cells #[v] T)):w.frozen? ⟨b,0,none⟩=false:=by simp[World.frozen?,h]
def arD(w:ab)(aH:bI):(zeroValue 3).events Tryz.prog w aH=aH:=ag
def arE(w:ab)(aH:bI):(zeroValue 26).events Tryz.prog w aH=aH:=ag
def arF(D:c7):Frame.enter Tryz.prog 52 #[.pointer (some ⟨D.K.Wg,0,none⟩)] .normal=(base 52).at ⟨#[.pointer (some ⟨D.K.Wg,0,none⟩),I,I,I,I,I,I,I,I,I,I,I,I,I,I,I,I,I,I,I,I,I,I,I,I,I,I,I,I,I,I,I,I,I,I,I,I,I,I,I,I,I,I,I,I,I,I,I,I,I,I,I,I,I,I,I,I,I,I,I,I,I,I,I,I,I,I,I,I,I,I,I,I,I,I,I,I,I,I,I,I,I,I,I],[]⟩ [.code DY]:=ah
def arG(D:c7):Frame.enter Tryz.prog 48 #[.pointer (some ⟨D.K.Wg,0,none⟩),.int .i64 1] .normal=(base 48).at ⟨#[.pointer (some ⟨D.K.Wg,0,none⟩),.int .i64 1,I,I,I,I,I,I,I,I,I,I,I,I,I,I,I,I,I,I,I,I,I,I,I,I,I,I,I,I,I,I,I,I,I,I,I,I,I,I,I,I,I,I,I,I,I,I,I,I,I,I,I,I,I,I,I,I,I,I,I,I,I,I,I,I,I,I,I,I,I,I,I,I,I,I,I,I,I,I,I,I,I,I,I,I,I,I,I,I,I,I,I,I,I,I,I,I,I,I,I,I,I,I,I,I,I,I,I,I,I,I,I,I,I,I,I],[]⟩ [.code Qm]:=ah
def spawns(O:D.Ok)(j3:∀i,i<D.K.n->∀own w,vn D.K i (D.av i) (jZ (D.au i) (D.room i) D.bx 0) (D.room i) (fe (D.au i) (D.room i) D.bx 0) own w->Post i own w)(hkd:∀i,i<D.K.n->kd i=(fe (D.au i) (D.room i) D.bx 0).k): ∀r i,i+r=D.K.n->∀T w,Zp D i T->D.SM (D.aN i) [] w->mJ Tryz.prog D.K h5 Post kd (tn D cs) r ⟨D.aN i,0⟩ (G ((base 29).at ⟨T,[]⟩ [.code xI,.inLoop xI,.inBlock 4,.code xJ]) cs) w:=by
 intro r;induction r with
 |zero=>
  intro i af T w X hF;obtain rfl:i=D.K.n:=U;obtain⟨t,N,u,x,y,z,A,B⟩:=X;obtain⟨bE,v1,v2,bA,v4,aX,v6,hV,gK,iJ,Y,Z,zk,DI,DJ,DK,GZ,G0,CP,CQ,v20,CR,CS,CU,CV,CW,CX,CY,CZ,C0,v30,C1,C2,C3,C4,C5,C6,C7,zl,zm,zn,zo,zq,zr,wY,wZ,w5,w6,w7,w8,w9,xa,sQ,sR,sS,sT,sU,qo,qp,mC,mD,mE,mF,mG,mH,mI,rfl⟩:=Iv T t;simp only[xS,IK,DZ,fK]at N u x y z A B;subst N u x y z A B;show eT Tryz.prog D.K (zR Tryz.prog D.K (tn D cs)) _ _ _
  have rW:¬((D.K.n:Int)< (D.K.n:Int)):=U;refine fI.cK (m:=30) ?_;simp only[xI,Ae,dD,rN,aW,qR,Tryz.f29,e2,xJ];repeat w_go c7.SM.rely
  refine Goes.stop λal C=> ?_;replace hF:=hF.rely C;clear C;refine HX (F:=D.SM (D.aN D.K.n) []) (λw=>Qn ⟨rfl,rfl⟩) hF (λh r=>h.rely r) rfl rfl (by k_ne) rfl Tryz.func52 ah (show Tryz.f52.body=some (Tryz.f52.body.getD .skip) by kernel_rfl) (vs:= #[.pointer (some ⟨D.K.Wg,0,none⟩)]) ah λw hF=> ?_;rw[arF];refine D2 (λs g w h=>ap8 (λs g w h=>⟨_,rfl,rfl,rfl,rfl,h⟩) h) (ap4 (b₀:=base 29) (i₀:=0) (rest₀:=[]) (c7.SM.Qp O Qq) w hF)
 |succ r iA=>
  intro i af T w X hF;obtain⟨t,N,u,x,y,z,A,B⟩:=X;obtain⟨bE,v1,v2,bA,v4,aX,v6,hV,gK,iJ,Y,Z,zk,DI,DJ,DK,GZ,G0,CP,CQ,v20,CR,CS,CU,CV,CW,CX,CY,CZ,C0,v30,C1,C2,C3,C4,C5,C6,C7,zl,zm,zn,zo,zq,zr,wY,wZ,w5,w6,w7,w8,w9,xa,sQ,sR,sS,sT,sU,qo,qp,mC,mD,mE,mF,mG,mH,mI,rfl⟩:=Iv T t;simp only[xS,IK,DZ,fK]at N u x y z A B;subst N u x y z A B;have arH:D.K.n - (r+1)=i:=U;have a:i<D.K.n:=U;have gJ:(i:Int)< (D.K.n:Int):=U;show eT Tryz.prog D.K (Hu Tryz.prog D.K h5 Post kd (D.K.n - (r+1)) (mJ Tryz.prog D.K h5 Post kd (tn D cs) r)) _ _ _
  rw[arH];refine fI.cK (m:=30) ?_;simp only[xI,Ae,dD,rN,aW,qR,Tryz.f29,e2,xJ];repeat w_go c7.SM.rely
  refine Goes.stop λal C=> ?_;replace hF:=hF.rely C;clear C;refine HW (F:=D.SM (D.aN i) []) hF (λh r=>h.rely r) rfl rfl (by k_ne) λw hF=>⟨.pointer (some ⟨D.av i,0,none⟩),w,_,⟨D.aN i,0⟩,arx (ad:=⟨D.ms,i,none⟩) rfl rfl w (II (hF.kept _ O.Iu.1 (.inl (IJ O.Iu (Nat.le_of_lt a)))) (O.ap6 i a)),λaH l=>ap7 w _ aH (IJ O.Iu (Nat.le_of_lt a)) l,?_⟩;refine HW (F:=D.SM (D.aN i) []) hF (λh r=>h.rely r) rfl rfl (by k_ne) λw hF=>⟨_,_,_,_,Px rfl Tryz.zeroValue3 arD w,λaH l=>Y3 w hF.pay.lt _ aH l,?_⟩;have J:=hF.alloc O (.cells #[.int .i64 0] 3);have L:=hF.size;clear hF;revert J L;generalize w.heap.size=bn;intro hF L;refine HW (F:=D.SM (λb=>D.aN i b\/b=bn) [(bn,.cells #[.int .i64 0] 3)]) hF (λh r=>h.rely r) rfl rfl (by k_ne) λw hF=>⟨_,_,_,_,Px rfl Tryz.zeroValue26 arE w,λaH l=>Y3 w hF.pay.lt _ aH l,?_⟩;have J:=hF.alloc O (.cells #[.pointer none] 26);have M:=hF.size;have E:=Af (hF.new (bn,.cells #[.int .i64 0] 3) (bK.2 rfl)).2.2;clear hF;revert J M E;generalize w.heap.size=bz;intro hF M E;have P:=O.lt;have Q:bz≠bn:=(by have E:bn<bz:=E;omega);have R:bz≠D.K.bb/\bn≠D.K.bb:=U;have S:bz≠D.K.Wg/\bn≠D.K.Wg:=U;clear P E;refine XV (F:=D.SM (λb=>(D.aN i b\/b=bn)\/b=bz) [(bz,.cells #[.pointer none] 26),(bn,.cells #[.int .i64 0] 3)]) hF (λh r=>h.rely r) rfl rfl (by k_ne) λw hF=>⟨_,_,_,Zn ary rfl (p:=⟨bn,0,none⟩) (v:=.int .i64 i) rfl rfl w (IH (hF.new (bn,.cells #[.int .i64 0] 3) ag).2.2) (Zq (hF.new (bn,.cells #[.int .i64 0] 3) ag).2.2) (.inl ⟨_,_,rfl⟩),λaH l=>Y4 w _ _ aH (.inl (.inr rfl)) R.2 l,?_⟩;replace hF:=hF.Zo (v:=.int .i64 i) O (l1:=[(bz,.cells #[.pointer none] 26)]) (l2:=[]) (b:=bn) (by intro p aa;simp at aa;subst aa;exact Q);revert hF;generalize(w.setCell ⟨bn,0,none⟩ (.int .i64 i))=w;intro hF;refine XV (F:=D.SM (λb=>(D.aN i b\/b=bn)\/b=bz) [(bz,.cells #[.pointer none] 26),(bn,.cells #[.int .i64 i] 3)]) hF (λh r=>h.rely r) rfl rfl (by k_ne) λw hF=>⟨_,_,_,Zn arz rfl (p:=⟨bz,0,none⟩) (v:=.pointer (some ⟨D.av i,0,none⟩)) rfl rfl w (IH (hF.new (bz,.cells #[.pointer none] 26) ag).2.2) (Zq (hF.new (bz,.cells #[.pointer none] 26) ag).2.2) (.inr ⟨_,rfl⟩),λaH l=>Y4 w _ _ aH (.inr rfl) R.1 l,?_⟩;replace hF:=hF.Zo (v:=.pointer (some ⟨D.av i,0,none⟩)) O (l1:=[]) (l2:=[(bn,.cells #[.int .i64 i] 3)]) (b:=bz) (by intro p aa;simp at aa;subst aa;exact Q.symm);revert hF;generalize(w.setCell ⟨bz,0,none⟩ (.pointer (some ⟨D.av i,0,none⟩)))=w;intro hF;replace hF:D.SM (λb=>(D.aN i b\/b=bn)\/b=bz) [(bz,.cells #[.pointer (some ⟨D.av i,0,none⟩)] 26),(bn,.cells #[.int .i64 i] 3)] w:=hF;refine fI.cK (m:=30) ?_;walk_nrm
  repeat w_go c7.SM.rely
  refine Goes.stop λal C=> ?_;replace hF:=hF.rely C;clear C;have arI:¬(λb=>(D.aN i b\/b=bn)\/b=bz) D.K.Wg:=λq=>q.elim (λq=>q.elim Qq (λe=>S.2 e.symm)) λe=>S.1 e.symm;refine HX (F:=D.SM (λb=>(D.aN i b\/b=bn)\/b=bz) [(bz,.cells #[.pointer (some ⟨D.av i,0,none⟩)] 26),(bn,.cells #[.int .i64 i] 3)]) (λw=>Qn ⟨rfl,rfl⟩) hF (λh r=>h.rely r) rfl rfl (by k_ne) rfl Tryz.func48 ah (show Tryz.f48.body=some (Tryz.f48.body.getD .skip) by kernel_rfl) (vs:= #[.pointer (some ⟨D.K.Wg,0,none⟩),.int .i64 1]) ah λw hF=> ?_;rw[arG];refine ap2 (b₀:=base 29) (i₀:=0) (rest₀:=[]) O.cW (c7.SM.Qp O arI) (λw hF=> ?_) w hF;refine fI.cK (m:=30) ?_;walk_nrm
  repeat w_go c7.SM.rely
  refine Goes.stop λal C=>a7.stop λcO vl=> ?_;replace hF:=(hF.rely C).rely vl;clear C vl;have az:(λb=>((D.aN i b\/b=bn)\/b=bz)/\¬xM D i bz bn b)=D.aN (i+1):=by
   funext b;refine propext ⟨λ⟨o,V⟩=> ?_,λh=>⟨.inl (.inl (IJ h (Nat.le_succ i))),λq=> ?_⟩⟩
   .rcases o with(o|o)|o
    .refine⟨o.1,o.2.1,o.2.2.1,o.2.2.2.1,o.2.2.2.2.1,o.2.2.2.2.2.1,λj W=> ?_⟩;rcases dH j i with W|W
     .exact o.2.2.2.2.2.2 j W
     .obtain rfl:j=i:=U;exact λq=>V (.inl q)
    .exact absurd (.inr (.inr o)) V
    .exact absurd (.inr (.inl o)) V
   .rcases q with q|q|q
    .exact h.2.2.2.2.2.2 i (z1 i) q
    .have:=h.1;omega
    .have:=h.1;omega
  show zS Tryz.prog D.K h5 Post kd i (mJ Tryz.prog D.K h5 Post kd (tn D cs) r) ⟨λb=>(D.aN i b\/b=bn)\/b=bz,0⟩ _ cO
  unfold zS;refine And.intro rfl (And.intro rfl ?spawned);refine Exists.intro ?gNext ?spawned2;rotate_left;refine Exists.intro (born Tryz.prog (d49 D bz bn)) ?spawned3;refine Exists.intro (xM D i bz bn) ?spawned4;refine And.intro ?eq (And.intro rfl (And.intro ?sub (And.intro (λaa hw dO d=> ?chd) ?nxt)));case eq=>rw[stepG_spawn (d:=d49 D bz bn) (w':=cO) (f:=.func 49) (c:= #[.pointer (some ⟨D.K.Wg,0,none⟩),.pointer (some ⟨bz,0,none⟩),.pointer (some ⟨D.bL,0,none⟩),.pointer (some ⟨D.a9,0,none⟩),.pointer (some ⟨bn,0,none⟩),.pointer (some ⟨D.ba,0,none⟩)]) rfl rfl (by k_ne) (by simp[go_sem,d49,Deferred.ofValue]) rfl,arC (by simp[go_sem,Deferred.ofValue])]
  case sub=>
   rintro b(H|rfl|rfl)
   .have:=(O.xH i a b H).1;exact .inl (.inl ⟨this.1,this.2.1,this.2.2.1,this.2.2.2.1,this.2.2.2.2.1,this.2.2.2.2.2.1,λj W b9=>O.Y1 i j a U U b H b9⟩)
   .exact .inr rfl
   .exact .inl (.inr rfl)
  case chd=>
   rw[hkd i a];refine arw O a ⟨hF.size,λb H=> ?_,(hF.new (bz,.cells #[.pointer (some ⟨D.av i,0,none⟩)] 26) ag).2.2,(hF.new (bn,.cells #[.int .i64 i] 3) ag).2.2,M,L⟩ (j3 i a) aa hw dO d;rcases H with H|H
   .have:=(O.xH i a b H).1;exact hF.kept b this.1 (.inl (.inl (.inl ⟨this.1,this.2.1,this.2.2.1,this.2.2.2.1,this.2.2.2.2.1,this.2.2.2.2.2.1,λj W b9=>O.Y1 i j a U U b H b9⟩)))
   .exact hF.kept b (O.mS b H).1 (.inr H)
  case nxt=>
   show mJ Tryz.prog D.K h5 Post kd (tn D cs) r ⟨λb=>((D.aN i b\/b=bn)\/b=bz)/\¬xM D i bz bn b,0⟩ _ cO
   rw[az];replace hF:D.SM (D.aN (i+1)) [] cO:=⟨hF.aT,hF.wg,hF.pay,hF.size,λb o V=>hF.kept b o (V.imp (λq=>.inl (.inl (IJ q (Nat.le_succ i)))) id),λp aa=>(by cases aa),hF.os,hF.out⟩;have y9:IntKind.i64.wrap ((i:Int)+1)=((i+1:Nat):Int):=(by rw[IntKind.wrap_i64];have:=O.xE;omega);refine Y5 (fI.cK (m:=30) ?_);walk_nrm
   u_c stepG_region_end c7.SM.rely hF
   u_c stepG_inBlock c7.SM.rely hF
   u_reg c7.SM.rely hF
   u_op c7.SM.rely hF
   u_op c7.SM.rely hF
   u_c stepG_region_end c7.SM.rely hF
   u_c stepG_inLoop c7.SM.rely hF
   refine Goes.stop λarJ QG=>a7.stop λDX QH=> ?_;replace hF:=(hF.rely QG).rely QH;refine iA (i+1) U _ DX ?_ hF;exact⟨ag,ag,ag,ag,ag,ag,ag,ag⟩
end
end Go.Proofs.YtlcdgbhigfgehabGreatDoor
namespace Go.Proofs.YtlcdgbhigfgehabGreatDoor
open Go Go.Ren Go.bp Go.bG Go.Conc Go.ConcN Go.RowKit Go.Conc.Lib Go.ConcR.Gen Go.ConcN.Gen
open Go.ConcR (KK wgBlock WgAt stA smA rd wr mk DC0)
open Go.ConcM (OsLater goes_pad goes_le)

def vn.rely{K:bj}{i av:Nat}{au:List aI}{room:Int}{E:cZ}{own:Nat->Prop}{w al:ab}{d:Nat}(r:Rl K (some i) ⟨own,d⟩ w al)(h:vn K i av au room E own w):vn K i av au room E own al:=by
 obtain⟨an,A,v,p,f,q,c,j⟩:=h;have e:=p.Mi;have l:∀b,own b->eL w b->al.heap[b]? =w.heap[b]? :=λb a ⟨T,xs,o⟩=>r.kept b o.lt (.inl a);refine⟨an,_,v,e.same λb a=>l b (f b a.1) a.2,λb a=>f b a.1,(r.cell i rfl).trans q,?_,j⟩;cases E with
 |none=>exact c
 |kind k=>exact c
 |file n k=>
  obtain⟨g,m,ap⟩:=c;exact⟨g,m,hc ap (l g (j n k g rfl m) ⟨_,_,ap⟩)⟩
section
variable{D:c7}{cs:List Frame}
def IL(D:c7)(i:Nat)(own:Nat->Prop)(w:ab):Prop:=i<D.K.n->vn D.K i (D.av i) (jZ (D.au i) (D.room i) D.bx 0) (D.room i) (fe (D.au i) (D.room i) D.bx 0) own w
def IM(D:c7)(i:Nat):Int:=(fe (D.au i) (D.room i) D.bx 0).k
def arN:kJ D.K (IL D):=λ_ _ _ _ _ r h af=>(h af).rely r
def arO(O:D.Ok){T:aQ}{w:ab}(a:T.size=66)(e:T[1]? =some (.slice (some ⟨D.ms,0,none⟩) D.K.n D.It))(f:T[2]? =some (.pointer (some ⟨D.bL,0,none⟩)))(b:T[11]? =some (.pointer (some ⟨D.a9,0,none⟩)))(c:T[12]? =some (.pointer (some ⟨D.ba,0,none⟩)))(d:T[13]? =some (.pointer (some ⟨D.K.Wg,0,none⟩)))(hF:D.SM (D.aN 0) [] w): mJ Tryz.prog D.K h5 (IL D) (IM D) (tn D cs) D.K.n ⟨D.aN 0,0⟩ (G ((base 29).at ⟨T,[]⟩ [.code rN]) cs) w:=by
 have H:=spawns (cs:=cs) (Post:=IL D) (kd:=IM D) O (λi _ own w h _=>h) (λi _=>rfl) D.K.n 0 (lY _);revert H;generalize cJ:D.K.n=n;intro H;obtain⟨bE,v1,v2,bA,v4,aX,v6,hV,gK,iJ,j,k,l,o,p,q,r,s,t,u,v,x,y,z,A,B,C,E,F,aa,J,L,M,N,P,Q,R,S,az,V,W,X,Y,Z,wY,wZ,w5,w6,w7,w8,w9,xa,sQ,sR,sS,sT,sU,qo,qp,mC,mD,mE,mF,mG,mH,mI,rfl⟩:=Iv T a;simp only[xS,IK,DZ,fK]at e f b c d;subst e f b c d;refine Y5 (fI.cK (m:=30) ?_);have g:∀T w,Zp D 0 T->D.SM (D.aN 0) [] w->mJ Tryz.prog D.K h5 (IL D) (IM D) (tn D cs) n ⟨D.aN 0,0⟩ (G ((base 29).at ⟨T,[]⟩ [.code xI,.inLoop xI,.inBlock 4,.code xJ]) cs) w:=H;clear H;simp only[xI,Ae,dD,rN,aW,qR,Tryz.f29,e2,xJ]at g⊢;u_c stepG_seq c7.SM.rely hF
 u_c stepG_seq c7.SM.rely hF
 u_reg c7.SM.rely hF
 u_op c7.SM.rely hF
 u_op c7.SM.rely hF
 u_op c7.SM.rely hF
 u_c stepG_region_end c7.SM.rely hF
 u_c stepG_block c7.SM.rely hF
 u_c stepG_loop c7.SM.rely hF
 refine Goes.stop λarJ QG=>a7.stop λDX QH=> ?_;replace hF:=(hF.rely QG).rely QH;refine g _ DX ?_ hF;constructor<;>first|(simp;done)|(simp;omega)
structure arP(D:c7)(w:ab):Prop where
 aT:hf D.K w
 pay:hg D.K w
 kept:∀b,D.aN D.K.n b\/D.K.ro b->w.heap[b]? =D.aU.heap[b]?
 size:D.aU.heap.size<=w.heap.size
 post:∃aN:Nat->Nat->Prop,(∀i,i<D.K.n->∀b,aN i b->b≠D.K.Wg/\b≠D.K.bm/\b≠D.K.bb/\¬D.aN D.K.n b/\¬D.K.ro b)/\(∀i j,i<D.K.n->j<D.K.n->i≠j->∀b,aN i b->¬aN j b)/\∀i,i<D.K.n->vn D.K i (D.av i) (jZ (D.au i) (D.room i) D.bx 0) (D.room i) (fe (D.au i) (D.room i) D.bx 0) (aN i) w
 os:Go.ConcM.OsLater D.aU.os w.os
 out:w.output=D.aU.output
 map:∃f,ix D.K h5 w f/\∀k,f k=Go.ConcN.sumTo D.K.n λi=>if k=IM D i then 1 else 0
def arQ(O:D.Ok){ShB:Nat->Prop}{r:Nat}(cJ:D.K.n=r+1){gs:hh}{T:aQ}{sl:Option (Nat×Nat)}{t:Trace}{q:Nat->Nat}(H:gs[0]? =some (G ((base 29).at ⟨T,[]⟩ [.code rN]) cs))(hs:Leavers Tryz.prog t gs q)(j3:gS ShB D.K.ro ⟨D.aN 0,0⟩ D.aU.heap.size t)(m:D.K.base=gs.size)(A:T.size=66)(t1:T[1]? =some (.slice (some ⟨D.ms,0,none⟩) D.K.n D.It))(t2:T[2]? =some (.pointer (some ⟨D.bL,0,none⟩)))(J:T[11]? =some (.pointer (some ⟨D.a9,0,none⟩)))(L:T[12]? =some (.pointer (some ⟨D.ba,0,none⟩)))(M:T[13]? =some (.pointer (some ⟨D.K.Wg,0,none⟩)))(X:WgAt D.K.cW D.K.Wg D.aU 0 0)(Y:e6 D.K D.aU ⟨{},0⟩)(Z:hg D.K D.aU)(P:ix D.K h5 D.aU (λ_=>0))(Q:∀b,b=D.K.Wg\/b=D.K.bm\/b=D.K.bb\/b=D.K.bU->¬ShB b)(o:∀b,ShB b->b<D.aU.heap.size): ∃(N:Nat)(f:hh)(g:aY)(w':ab)(u:Option (Nat×Nat))(z:Trace)(a8:Nat->Nat),runNT Tryz.prog N (crowd gs D.aU sl) t=(.next (crowd f w' u),z)/\f[0]? =some g/\Iw D cs ⟨D.aN D.K.n,0⟩ g w'/\Leavers Tryz.prog z f a8/\gS (λb=>ShB b\/b=D.K.Wg) aD ⟨λb=>b<w'.heap.size/\¬ShB b/\b≠D.K.Wg,0⟩ w'.heap.size z/\arP D w':=by
 have hF:D.SM (D.aN 0) [] D.aU:=⟨⟨_,Y⟩,⟨_,_,X⟩,Z,bh _,λ_ _ _=>rfl,λp b8=>(by cases b8),.refl _,rfl⟩;have iQ:=arO (cs:=cs) O A t1 t2 J L M hF;have⟨S,aa⟩:=arL (Anch:=Iw D cs) H hs j3 m cJ iQ X Y Z P (λb c=>⟨c.2.2.1,c.2.2.2.1,c.2.2.2.2.1,c.2.2.2.2.2.1,c.2.1⟩) (λb c=>(O.mS b c).2) ⟨O.ne.1,ed O.ne.2.1,ed O.ne.2.2.1,O.ne.2.2.2⟩ Q (λs g w h=>by obtain⟨a₀,-,-,-,-,h⟩:=h;exact h.2.choose_spec.1▸rfl);have⟨N,S',f,w',u,z,cl,v,k,g,cC,R⟩:=amD (sl:=sl) arN O.xE (λs g w h=>by obtain⟨-,a,rfl,-⟩:=h;rfl) (aqd O) (λs g w d h=>by
  obtain⟨x,a,az,b7,dC,dB,jV,l⟩:=h;exact⟨x,a,az,b7,dC,dB,jV,⟨l.aT,l.wg,l.pay,l.size,l.kept,l.new,l.os,l.out⟩⟩) _ S gs D.aU t rfl aa
 have V:=R.1;have hd:Deaf z 0=0:=hq aM.deaf V;have e:D.SM (D.aN D.K.n) [] w':=(by obtain⟨-,a,-,-,-,-,-,h⟩:=R;exact h);have gJ:=O.lt;have dw:=e.size;have B:∀b,ShB b\/b=D.K.Wg->b<w'.heap.size/\¬(b<w'.heap.size/\¬ShB b/\b≠D.K.Wg)/\¬False:=λb c=>⟨by
  rcases c with c|rfl
  .have:=o b c;omega
  .omega,λq=>c.elim q.2.1 q.2.2,id⟩
 obtain⟨⟨a8,W⟩,C,hQ,y,-,E,F⟩:=arM v k (λb=>b<w'.heap.size/\¬ShB b/\b≠D.K.Wg) aD B (λb c=>c.elim (λh=>h.1) False.elim);rw[hd]at C;have en:S'.j=D.K.n:=(by have:=v.dL;rw[k]at this;exact this);refine⟨N,f,g,w',u,z,a8,cl,cC,V▸R,W,C,e.aT,e.pay,λb c=>e.kept b ?_ c,dw,⟨λi=>S'.own (D.K.base+i),λi af b c=> ?_,λi j af en fp b x az=> ?_,λi af=>y i af af⟩,e.os,e.out,⟨_,E,F⟩⟩
 .rcases c with c|c
  .exact c.1
  .exact(O.mS b c).1
 .have g8:eW D.K S' (D.K.base+i):=.inr ⟨i,U,rfl⟩;have x:=v.bM.sh _ b g8 c;refine⟨x.1,x.2.1,x.2.2,λq=> ?_,v.bM.ro _ b g8 c⟩;have H:S'.own 0 b:=(by rw[show S'.own 0=D.aN D.K.n from hq aM.own V];exact q);have:=v.bM.one _ _ b (.inl rfl) g8 H c;have:=v.jI;omega
 .have:=v.bM.one _ _ b (.inr ⟨i,U,rfl⟩) (.inr ⟨j,U,rfl⟩) x az;omega
end
end Go.Proofs.YtlcdgbhigfgehabGreatDoor
