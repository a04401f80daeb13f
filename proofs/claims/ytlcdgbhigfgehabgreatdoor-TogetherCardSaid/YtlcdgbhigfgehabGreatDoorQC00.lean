import Derived.Test.YtlcdgbhigfgehabGreatDoorQA08
import Derived.Test.YtlcdgbhigfgehabGreatDoorQB00
set_option linter.all false
set_option maxRecDepth 100000
set_option maxHeartbeats 16000000
namespace Go.bp
open Go Go.Ren Go.Proofs

def G7(ro gi:Bool):cw:=(if ro then[12,24,36,66,116,117,118,119,120]else if gi then[9,19,28,47]else[9])++ [13,14,15,16,17,22,23,25,26,33,37,38,39,40,41,42,43,44,45,46,63,67,68,69,70,71,72,73,74,75,76,77,78,115,121,122,123,124,125,126,148,149,157,179]
def entries:cw:=[60,61,62,108,109,110,173,174,181,184,186,187]
def sV(n:FuncId):Bool:=n==34||n==35
def WB:List String:=["Kind","Elem","Implements","AssignableTo","As","Unwrap"]
def xg(ro gi:Bool):Fn->Bool
 |.func n=>(G7 ro gi).contains n||entries.contains n||sV n
 |.method s=>WB.contains s
 |_=>false
noncomputable def iu(ro:Bool)(gi:Bool:=true):bf:={P:=aj.prog,b0:=Tryz.prog,fn:=xg ro gi,ro:=ro,code:=λ_=>false,wl:=λ_=>True,Lu:=λg=>ro||g !=1,lo:=0,gi:=gi}
noncomputable def cT(wl:(eQ->Prop)×Nat)(ro:Bool):bf:={iu ro (wl.2==0)with code:=codeOk (iu ro (wl.2==0)) true,wl:=wl.1,lo:=wl.2}
noncomputable abbrev dT(lo:Nat)(ro:Bool):bf:=cT (λ_=>True,lo) ro
noncomputable abbrev cd(ro:Bool):bf:=dT 0 ro
def G8(C:bf)(k:Code->Bool)(l:eQ->Prop){lo:Nat}(r:Bool)(c:Code):codeOk {C with code:=k,wl:=l,lo:=lo} r c=codeOk C r c:=by
 induction c generalizing r with
 |region i ops d=>rfl
 |seq a b e f=>unfold codeOk;rw[e,f]
 |cond x a b e f=>unfold codeOk;rw[e,f];rfl
 |block i b g=>unfold codeOk;exact g r
 |loop b g=>unfold codeOk;exact g r
 |scope b g=>unfold codeOk;exact g r
 |rangeFunc x ps a b e f=>unfold codeOk;rw[e,f];rfl
 |_=>rfl
def sW(t:TypeId):Tryz.prog.info? t=aj.prog.info? t:=(aj.oi t).symm
def G9:∀c∈Tryz.prog.cutTypes.toList,Program.modelsOwn c.1=true:=by
 have:Tryz.prog.cutTypes.toList.all (λc=>Program.modelsOwn c.1)=true:=ah;exact λc a=>pT.1 this c a
def Ha:∀c∈aj.prog.cutTypes.toList,Program.modelsOwn c.1=true:=by
 have:aj.prog.cutTypes.toList.all (λc=>Program.modelsOwn c.1)=true:=ah;exact λc a=>pT.1 this c a
def akl{l:List (String×TypeId)}{p:String×TypeId->Bool}(n:String)(x:String×TypeId)(h:(l.filter p).find? (λy=>y.1==n)=some x)(d:∀a b:String×TypeId,a.1=b.1->p a=p b):l.find? (λy=>y.1==n)=some x:=by
 induction l with
 |nil=>cases h
 |cons a l f=>
  cases cJ:(a.1==n)with
  |true=>
   by_cases c:p a=true
   .rw[List.filter_cons_of_pos c]at h;simp only[GB,cJ]at h⊢;exact h
   .exfalso;have g:=List.find?_some h;have i:=List.mem_of_find?_eq_some h;have j:=(List.mem_filter.1 i).2;have e:x.1=a.1:=by
     have k:x.1=n:=(by simpa using g);have m:a.1=n:=(by simpa using cJ);rw[k,m]
    exact c ((d a x e.symm).trans j)
  |false=>
   simp only[GB,cJ];apply f;by_cases c:p a=true
   .rw[List.filter_cons_of_pos c]at h;simp only[GB,cJ]at h;exact h
   .rw[List.filter_cons_of_neg c]at h;exact h
def mo:TypeInfo->Option Nat:=λi=>match i.desc with| .pointer e=>some e|_=>none
variable{wa:(List Item->Prop)×Nat}
def WC(ro:Bool):(cT wa ro).Ok where
 tables:=rfl
 cut:=λn x h=>by
  have c:(Tryz.prog.cutTypes.filter λx=>x.1 != "*internal/reflectlite.ValueError").find? (λy=>y.1==n)=some x:=h;show Tryz.prog.cutTypes.find? (λy=>y.1==n)=some x
  rw[<-Array.find?_toList]at c⊢;rw[LY]at c;exact akl n x c λa b e=>by rw[e]
 mo:=by
  show(Tryz.prog.cutTypes.filter λx=>x.1 != "*internal/reflectlite.ValueError").find? (λy=>y.1== "*internal/reflectlite.ValueError")=none
  kernel_rfl
 stood:=λt=>by
  have d:∃i e,aj.prog.info? 206=some i/\i.desc=.pointer e:=by
   have:(aj.prog.info? 206).bind mo=some 298:=ah;cases af:aj.prog.info? 206 with
   |none=>rw[af]at this;cases this
   |some i=>
    rw[af]at this;simp only[Option.bind_some,mo]at this;cases hd:i.desc with
    |pointer e=>exact⟨i,e,rfl,hd⟩
    |_=>rw[hd]at this;cases this
  obtain⟨i,e,f,g⟩:=d;exact akk (p:=aj.prog) (q:=Tryz.prog) (x:=("*internal/reflectlite.ValueError",206)) (l:=aj.prog.cutTypes.toList) sW ah rfl rfl f g t
 held:=akh sW Ha G9
 packed:=G6 sW Ha G9
 named:=aki sW Ha G9
 UQ:=akj sW Ha G9
 guard:=ake sW
 byte:=Wz sW
 sA:=λi h=>by
  have:(aj.prog.info? 0).all (λi=>(i.methods.find? (·.name== "")).isNone)=true:=ah;rw[show(cT wa ro).P=aj.prog from rfl]at h;rw[h]at this;simpa using this
 at_:=akg sW
 gs:=by
  show aj.prog.globals.size<=2
  rw[show aj.prog.globals.size=2 by kernel_rfl];exact bh _
end Go.bp
namespace Go.bp
open Go Go.Ren Go.Proofs

def akm{oi:TypeId->Option TypeInfo}{dk:Array Field}{i:TypeInfo}(h:Made.reckonStruct oi dk=some i):i.methods= #[]:=by
 unfold Made.reckonStruct at h;simp only[bind,rB]at h;obtain⟨r,_,h⟩:=h;split at h<;> (cases h;rfl)
def akn{oi:TypeId->Option TypeInfo}{d:TypeDesc}{i:TypeInfo}(h:Made.reckon oi d=some i):i.methods= #[]:=by
 unfold Made.reckon at h;cases d with
 |pointer e=>
  simp only[bind,rB]at h;obtain⟨j,_,h⟩:=h;split at h
  .cases h
  .split at h
   .cases h
   .simp only[rB]at h;obtain⟨s,_,h⟩:=h;cases h;rfl
  .simp only[rB]at h;obtain⟨s,_,h⟩:=h;cases h;rfl
 |slice e=>
  simp only[bind,rB]at h;obtain⟨j,_,s,_,h⟩:=h;cases h;rfl
 |map k e=>
  simp only[bind,rB]at h;obtain⟨j,_,s,_,b,_,c,_,h⟩:=h;cases h;rfl
 |chan a e=>
  simp only[bind,rB]at h;obtain⟨j,_,s,_,h⟩:=h;cases h;rfl
 |func ps rs v=>
  simp only[bind,rB]at h;obtain⟨j,_,h⟩:=h;cases h;rfl
 |array n e=>
  simp only[bind,rB]at h;obtain⟨j,_,s,_,h⟩:=h;cases h;rfl
 |struct dk=>exact akm h
 |_=>cases h
noncomputable def Ou(ro gi:Bool)(name:String)(i:TypeInfo):Bool:=match i.methods.find? (·.name==name)with
 |some m=>(m.path.toList.all λs=> !s.deref) && (match m.func with|some (n,_)=>xg ro gi (.func n)|none=>true)
 |none=>true
def ako(ro a:Bool):(Tryz.prog.types.toList.all λi=>WB.all λb=>Ou ro a b i)=true:=by cases ro<;>cases a<;>kernel_rfl
def akp{ro a:Bool}{name:String}{i:TypeInfo}{m:Method}(h:Ou ro a name i=true)(c:i.methods.find? (·.name==name)=some m):(m.path.toList.all λs=> !s.deref)=true/\∀n b,m.func=some (n,b)->xg ro a (.func n)=true:=by
 unfold Ou at h;rw[c]at h;simp only[cu]at h;refine⟨h.1,λn b e=> ?_⟩;have:=h.2;rw[e]at this;exact this
def WE{n:Nat}(h:n∈entries):n≠34/\n≠35:=by
 simp only[entries,dY,gE,gn]at h;omega
def qq{n:Nat}(h:n≠34)(a:n≠35):aj.prog.funcs[n]? =Tryz.prog.funcs[n]? :=aj.cf n h a
open Go.Extern in
def akq:Extern.findNext Tryz.f60=none/\Extern.find Tryz.f60=some (λargs=>ReflectliteValue.unpack (args.getD 0 (.tuple #[]))):=⟨ah,ah⟩
open Go.Extern in
def akr:Extern.findNext Tryz.f61=none/\Extern.find Tryz.f61=some (ReflectliteValue.methodAny (ReflectliteValue.valueError "reflectlite.Value.Type" 0) λt _ _ _=>ReflectliteType.toType t):=⟨ah,ah⟩
open Go.Extern in
def aks:Extern.findNext Tryz.f62=none/\Extern.find Tryz.f62=some (ReflectliteValue.method (ReflectliteValue.valueError "reflectlite.Value.IsNil" 0) ReflectliteValue.isNil):=⟨ah,ah⟩
open Go.Extern in
def akt:Extern.findNext Tryz.f108=none/\Extern.find Tryz.f108=some ReflectliteType.typeOf:=⟨ah,ah⟩
open Go.Extern in
def aku:Extern.findNext Tryz.f109=none/\Extern.find Tryz.f109=some (ReflectliteValue.method (ReflectliteValue.valueError "reflectlite.Value.Elem" 0) ReflectliteValue.elem):=⟨ah,ah⟩
open Go.Extern in
def akv:Extern.findNext Tryz.f110=none/\Extern.find Tryz.f110=some ReflectliteValue.set:=⟨ah,ah⟩
def WJ:Extern.findNext Tryz.f173=none/\Extern.find Tryz.f173=none/\(Tryz.f173.name.endsWith ".init" && !Tryz.f173.name.startsWith "(" && !Tryz.f173.name.startsWith "gosem.")=false:=⟨ah,ah,ah⟩
open Go.Extern in
def akw:Extern.findNext Tryz.f174=none/\Extern.find Tryz.f174=some (ReflectliteType.abiMethod λt=>do pure (.int .u8 (Int.ofNat (<-Rtype.kind t)))):=⟨ah,ah⟩
open Go.Extern in
def akx:Extern.findNext Tryz.f181=none/\Extern.find Tryz.f181=some (ReflectliteValue.method (pure (.int .u8 0)) λ_ _ _ k=>pure (.int .u8 (Int.ofNat k))):=⟨ah,ah⟩
open Go.Extern in
def aky:Extern.findNext Tryz.f184=none/\Extern.find Tryz.f184=some (ReflectliteType.relation "AssignableTo" ReflectliteType.assignableTo):=⟨ah,ah⟩
open Go.Extern in
def akz:Extern.findNext Tryz.f186=none/\Extern.find Tryz.f186=some (ReflectliteType.method ReflectliteType.elem):=⟨ah,ah⟩
open Go.Extern in
def akA:Extern.findNext Tryz.f187=none/\Extern.find Tryz.f187=some (ReflectliteType.relation "Implements" ReflectliteType.implements_):=⟨ah,ah⟩
noncomputable def Ov(ro gi:Bool)(n:Nat):Bool:=match Tryz.prog.funcs[n]? with
 |some F=>F.name != "runtime.NumGoroutine" && (match F.body with|some b=>codeOk (iu ro gi) false b|none=>false) && (Tryz.prog.inits.idxOf? n).isNone
 |none=>false
def WG(ro a:Bool):((G7 ro a).all (Ov ro a))=true:=by cases ro<;>cases a<;>kernel_rfl
end Go.bp
namespace Go.bp
open Go Go.Ren Go.Proofs Go.Extern
variable{wa:(List Item->Prop)×Nat}

def Dc{α:Type}[BEq α][LawfulBEq α]{l:List α}{p:α->Bool}(h:l.all p=true){x:α}(a:l.contains x=true):p x=true:=pT.1 h x (by simpa using a)
def WH{ro a:Bool}{n:Nat}(h:Ov ro a n=true):∃F b,Tryz.prog.funcs[n]? =some F/\F.body=some b/\codeOk (iu ro a) false b=true/\(F.name== "runtime.NumGoroutine")=false/\Tryz.prog.inits.idxOf? n=none:=by
 unfold Ov at h;cases hF:Tryz.prog.funcs[n]? with
 |none=>rw[hF]at h;cases h
 |some F=>
  rw[hF]at h;simp only[cu]at h;cases hb:F.body with
  |none=>rw[hb]at h;cases h.1.2
  |some b=>
   rw[hb]at h;refine⟨F,b,rfl,hb,h.1.2,by simpa using h.1.1,by simpa using h.2⟩
def WI{ro a:Bool}{n:Nat}(h:(G7 ro a).contains n=true):n≠34/\n≠35:=by
 have:=Dc (l:=G7 ro a) (p:=λn=>n !=34 && n !=35) (by cases ro<;>cases a<;>rfl) h;simpa using this
def qs {ro:Bool} {n:Nat} {F:Func} (a:Tryz.prog.funcs[n]? =some F) (b:n≠34/\n≠35) (d:(F.name== "runtime.NumGoroutine")=false) (i:F.body.isNone=true) {e:aQ->Sem ai} (c:Extern.findNext F=none/\Extern.find F=some e) {f:Ren} {x ak:aQ} (h:∀g,bs f g->aA (cT wa ro) (bk (cT wa ro)) g (e x) (e ak)): aA (cT wa ro) (gC (cT wa ro)) f (callFunc n x) (callFunc n ak):=akb ((qq b.1 b.2).trans a) a d i c.1 c.2 h
def akB{ro:Bool}{n:Nat}(h:xg ro (wa.2==0) (.func n)=true){f:Ren}(G:b1 (cT wa ro) f){x ak:aQ}(c:aZ (cT wa ro).fn f x ak):aA (cT wa ro) (gC (cT wa ro)) f (callFunc n x) (callFunc n ak):=by
 have e:=WC (wa:=wa) ro;have d:(cT wa ro).fn (.func n)=true:=h;simp only[xg,oX]at h;rcases h with(h|h)|h
 .have⟨F,b,j,m,_,o,_⟩:=WH (Dc (WG ro (wa.2==0)) h);have⟨p,q⟩:=WI h;exact Oo ((qq p q).trans j) j o o (by rw[m];rfl) (by rw[m];rfl) d c
 .have i:n∈entries:=(by simpa using h);have a:=WE i;have R:=λg(l:bs f g)=>aka e (G.mono l) (c.mono l);simp only[entries,dY,gE,gn]at i;rcases i with rfl|rfl|rfl|rfl|rfl|rfl|rfl|rfl|rfl|rfl|rfl|rfl
  .exact qs Tryz.func60 a ah ah akq λg l=>(R g l).1
  .exact qs Tryz.func61 a ah ah akr λg l=>(R g l).2.1
  .exact qs Tryz.func62 a ah ah aks λg l=>(R g l).2.2.1
  .exact qs Tryz.func108 a ah ah akt λg l=>aj0 e (G.mono l) (c.mono l)
  .exact qs Tryz.func109 a ah ah aku λg l=>(R g l).2.2.2.1
  .exact qs Tryz.func110 a ah ah akv λg l=>aj4 e (G.mono l) (c.mono l)
  .refine .dies λw es=> ?_;unfold callFunc Go.program;simp only[Bind.bind,Sem.bind,Sem.runT];rw[show(cT wa ro).P.funcs[173]? =some Tryz.f173 from(qq aE aE).trans Tryz.func173];dsimp only;rw[show(Tryz.f173.name== "runtime.NumGoroutine")=false by kernel_rfl,show Tryz.f173.body.isNone=true by kernel_rfl];simp only[ea,cY,dd,mark,Sem.bind,Sem.runT,WJ.1,WJ.2.1,WJ.2.2];exact⟨_,_,rfl,.inr ⟨_,rfl,ag⟩⟩
  .exact qs Tryz.func174 a ah ah akw λg l=>(R g l).2.2.2.2.2.2.2
  .exact qs Tryz.func181 a ah ah akx λg l=>(G4 e (G.mono l) (z:=pure (.int .u8 0)) (F:=λ_ _ _ k=>pure (.int .u8 (Int.ofNat k))) (λ_ _=>.ax (.int _ _)) (λ_ _ _ _ _ _ _ _=>.ax (.int _ _)) (c.mono l)).1
  .exact qs Tryz.func184 a ah ah aky λg l=>(R g l).2.2.2.2.2.2.1
  .exact qs Tryz.func186 a ah ah akz λg l=>(R g l).2.2.2.2.1
  .exact qs Tryz.func187 a ah ah akA λg l=>(R g l).2.2.2.2.2.1
 .have:n=34\/n=35:=(by simpa[sV]using h);rcases this with rfl|rfl
  .exact Oo aj.func34 Tryz.func34 ah ah ah ah d c
  .exact Oo aj.func35 Tryz.func35 ah ah ah ah d c
def akC(ro:Bool):(cT wa ro).Ok2 where
 toOk:=WC ro
 Vt:=λname c t i m af e=>by
  have a:Tryz.prog.info? t=some i:=(sW t).trans af;unfold Tables.info? at a;split at a
  .have b:i∈Tryz.prog.types.toList:=(by simpa using Array.mem_of_getElem? a);have j:=pT.1 (ako ro (wa.2==0)) i b;have k:=Dc j (show WB.contains name=true from c);exact akp k e
  .rename_i g;exfalso;have:∀n,Made.infoAt Tryz.prog.toTables n t=some i->False:=by
    intro n h;cases n with
    |zero=>cases h
    |succ n=>
     unfold Made.infoAt at h;rw[aC g]at h;have⟨d,_,l⟩:=rB.1 h;rw[akn l]at e;cases e
   exact this _ a
 call:=λn c f G x ak o=>akB c G o
 via:=λ_ _ _ _=>rfl
 Vu:=λ_ _=>rfl
def WK(ro:Bool):(cT wa ro).j1 sV where
 toOk2:=akC ro
 code:=λc=>(G8 (iu ro (wa.2==0)) _ _ true c).symm
 same:=λn j k=>by
  have f:xg ro (wa.2==0) (.func n)=true:=j;simp only[xg,oX,k,ea,gn]at f;rcases f with h|h
  .have⟨F,b,i,l,m,_,o⟩:=WH (Dc (WG ro (wa.2==0)) h);have⟨d,e⟩:=WI h;refine⟨⟨(qq d e).symm,⟨F,(qq d e).trans i⟩,o⟩,λF' g ay aF=> ?_⟩;have:F'=F:=kz (ay.symm.trans ((qq d e).trans i));subst this;have:g=b:=kz (aF.symm.trans l);subst this;exact(G8 (iu ro (wa.2==0)) _ _ false g).trans m
  .have p:n∈entries:=(by simpa using h);have⟨d,e⟩:=WE p;have q:(entries.all λn=>(match Tryz.prog.funcs[n]? with|some F=>F.body.isNone|none=>false) && (Tryz.prog.inits.idxOf? n).isNone)=true:=ah;have a:=Dc q h;simp only[cu]at a;cases hF:Tryz.prog.funcs[n]? with
   |none=>rw[hF]at a;cases a.1
   |some F=>
    rw[hF]at a;refine⟨⟨(qq d e).symm,⟨F,(qq d e).trans hF⟩,Option.isNone_iff_eq_none.1 a.2⟩,λF' g ay aF=> ?_⟩;have:F'=F:=kz (ay.symm.trans ((qq d e).trans hF));subst this;dsimp only at a;rw[aF]at a;cases a.1
end Go.bp
namespace Go.bp
open Go Go.Ren Go.Proofs

def qt(P:bF)(n:FuncId):Nat->bY->bW->ab->bY->bW->ab->Prop
 |0,x,cs,w,y,bX,u=>x=y/\cs=bX/\w=u
 |k+1,x,cs,w,y,bX,u=>x.fn=n/\∃x1 c1 w1,(∀T d,∃es,stepG P true (aJ x cs) (a2 w T d)=.go (aJ x1 c1) (a2 w1 T d) es)/\qt P n k x1 c1 w1 y bX u
def j4(P:bF)(n:FuncId)(x:bY)(cs:bW)(w:ab):Prop:=∃k y bX u,qt P n k x cs w y bX u/\y.fn=n/\∀T d,∃o w2 es,stepG P true (aJ y bX) (a2 u T d)=.ended o w2 es
def isEnd:GStep->Bool
 |.ended ..=>true
 |_=>false
theorem Ow{g:GStep}(h:isEnd g=true):∃o w es,g=.ended o w es:=by cases g<;>first|exact⟨_,_,_,rfl⟩|cases h
section
variable{P:Program}{n:FuncId}{x x1 y:Frame}{cs bX:List Frame}{w u:World}{k:Nat}
theorem qt.q(a:x.fn=n)(h:∀w,stepG P true (aJ x cs) w=.go (aJ x1 cs) w #[])(hk:qt P n k x1 cs w y bX u):qt P n (k+1) x cs w y bX u:=⟨a,x1,cs,w,λ_ _=>⟨_,h _⟩,hk⟩
theorem j4.q(a:x.fn=n)(h:∀w,stepG P true (aJ x cs) w=.go (aJ x1 cs) w #[])(hk:j4 P n x1 cs w):j4 P n x cs w:=by
 obtain⟨k,y,bX,u,b,c,d⟩:=hk;exact⟨k+1,y,bX,u,.q a h b,c,d⟩
theorem j4.of(a:x.fn=n)(h:∀w,isEnd (stepG P true (aJ x cs) w)=true):j4 P n x cs w:=⟨0,x,cs,w,⟨rfl,rfl,rfl⟩,a,λ_ _=>Ow (h _)⟩
theorem qt.run:∀{k:Nat}{x:bY}{cs:bW}{w:ab},qt P n k x cs w y bX u->(∀T d,runN P k (lone x cs (a2 w T d))=.next (lone y bX (a2 u T d)))/\∀T d j,j<k->∀b c e,runN P j (lone x cs (a2 w T d))=.next (lone b c e)->b.fn=n:=by
 intro k;induction k with
 |zero=>rintro x cs w⟨rfl,rfl,rfl⟩;exact⟨λ_ _=>rfl,λ_ _ j g=>U⟩
 |succ k i=>
  rintro x cs w⟨l,x1,m,w1,o,p⟩;have⟨q,r⟩:=i p;have f:∀T d,step P (lone x cs (a2 w T d))=.next (lone x1 m (a2 w1 T d)):=λT d=>(by have⟨es,h⟩:=o T d;exact y8 h);refine⟨λT d=>by simp only[runN,f];exact q T d,λT d j g b c e a=> ?_⟩;cases j with
  |zero=>
   simp only[runN]at a;injection a with a;rw[<-(uT a).1];exact l
  |succ j=>
   simp only[runN,f]at a;exact r T d j U b c e a
theorem j4.run(h:j4 P n x cs w):∃m,(∀T d,∃o w2,runN P m (lone x cs (a2 w T d))=.ended o w2)/\∀T d j,j<m->∀b c e,runN P j (lone x cs (a2 w T d))=.next (lone b c e)->b.fn=n:=by
 obtain⟨k,y,bX,u,g,i,l⟩:=h;have⟨f,p⟩:=g.run;refine⟨k+1,λT d=> ?_,λT d j r b c e a=> ?_⟩
 .have⟨o,w2,es,q⟩:=l T d;exact⟨o,w2,by rw[runN_add,f T d];dsimp only;simp only[runN];rw[GO q]⟩
 .rcases dH j k with h|h
  .exact p T d j h b c e a
  .have:j=k:=U;subst this;rw[f T d]at a;injection a with a;rw[<-(uT a).1];exact i
end
theorem WL(a:aQ):∃v1 v2 bA v4 aX v6 e,a++Array.replicate (7 - a.size) I=⟨a.getD 0 I::v1::v2::bA::v4::aX::v6::e⟩:=by
 obtain⟨l⟩:=a;rcases l with _|⟨x0,_|⟨x1,_|⟨b,_|⟨kv,_|⟨c,_|⟨d,_|⟨f,l⟩⟩⟩⟩⟩⟩⟩
 .exact⟨_,_,_,_,_,_,_,rfl⟩
 .exact⟨_,_,_,_,_,_,_,rfl⟩
 .exact⟨_,_,_,_,_,_,_,rfl⟩
 .exact⟨_,_,_,_,_,_,_,rfl⟩
 .exact⟨_,_,_,_,_,_,_,rfl⟩
 .exact⟨_,_,_,_,_,_,_,rfl⟩
 .exact⟨_,_,_,_,_,_,_,rfl⟩
 .refine⟨x1,b,kv,c,d,f,l,?_⟩;have:7 - (Array.mk (x0::x1::b::kv::c::d::f::l)).size=0:=ag;rw[this];simp
noncomputable def qu:dn:= #[aj.op (some 2) (.binOp .eql 142 (.tmp 0) (.const (.pointer none)) 4)]
noncomputable def fY(a:Int):dn:= #[aj.op (some 3) (.fieldAddr 96 (.tmp 0) 1),aj.op (some 4) (.fieldAddr 94 (.tmp 3) 0),aj.op (some 5) (.load 21 (.tmp 4)),aj.op (some 6) (.binOp .eql 21 (.tmp 5) (.const (.int .i32 a)) 4)]
noncomputable def pz(b:Int):dn:= #[aj.op none (.store 21 (.tmp 4) (.const (.int .i32 b)))]
noncomputable def fv(b:Int):Code:=.cond (.tmp 6) (.region 2 (pz b) false) (.refuse "")
noncomputable def nf(a b:Int):Code:=.cond (.tmp 2) (.refuse "") (.seq (.region 1 (fY a) false) (fv b))
def oM(n:FuncId)(kd:CallKind)(bE v1 v2 bA v4 aX v6:ai)(e:bJ)(nW:eQ):bY:={fn:=n,tmps:=⟨bE::v1::v2::bA::v4::aX::v6::e⟩,todo:=nW,defers:=[],mode:=.run,kind:=kd}
theorem akD{C:bf}{R:Nat->Prop}{f:Ren}{w w':ab}(h:bR C R f w w'){a:Addr}{b:Nat}(e:f a.block=some b)(i:w.cell? a=none):∃g,w.farLoad C.P a false=.error g/\eJ g:=by
 have⟨o,j,c,k,d⟩:=h.obj _ _ e;unfold World.farLoad;rw[c];rcases d with⟨_,x,ak,t,l,rfl,rfl,m⟩|⟨_,d⟩
 .exact⟨_,rfl,by simp[World.noCell,c,eJ]⟩
 .cases d<;>exact⟨_,rfl,by simp[World.noCell,c,eJ]⟩
structure gD(cs:bW)(x y:bY):Prop where
 h:∀w,stepG aj.prog true (aJ x cs) w=.go (aJ y cs) w #[]
section
variable(n:FuncId)(kd:CallKind)(a b:Int)(bE v1 v2 bA v4 aX v6:Value)(e:List Value)(cs:List Frame)(p:Addr)
abbrev kF(v2 bA v4 aX v6:ai)(nW:eQ):bY:=oM n kd (.pointer (some p)) v1 v2 bA v4 aX v6 e nW
abbrev eg(aX v6:ai)(nW:eQ):bY:=kF n kd v1 e p (.bool false) (.pointer (some p)) (.pointer (some p)) aX v6 nW
abbrev Dd(aX v6:ai):Act:=⟨⟨.pointer (some p)::v1::.bool false::.pointer (some p)::.pointer (some p)::aX::v6::e⟩,[]⟩
abbrev xh(v2:ai)(nW:eQ):bY:=oM n kd (.pointer none) v1 v2 bA v4 aX v6 e nW
theorem ay:gD cs (oM n kd bE v1 v2 bA v4 aX v6 e [.code (aj.swap a b)]) (oM n kd bE v1 v2 bA v4 aX v6 e [.code (.region 0 qu false),.code (nf a b)]):=⟨λ_=>ah⟩
theorem aF:gD cs (oM n kd bE v1 v2 bA v4 aX v6 e [.code (.region 0 qu false),.code (nf a b)]) (oM n kd bE v1 v2 bA v4 aX v6 e [.inRegion qu [0],.code (nf a b)]):=⟨λ_=>ah⟩
variable(hkd:kd=.normal\/kd=.deferred)
include hkd
theorem pi:gD cs (xh n kd v1 bA v4 aX v6 e v2 [.inRegion qu [0],.code (nf a b)]) (xh n kd v1 bA v4 aX v6 e (.bool true) [.inRegion qu [],.code (nf a b)]):=⟨λ_=>by rcases hkd with rfl|rfl<;>kernel_rfl⟩
omit hkd in
theorem Mb:gD cs (xh n kd v1 bA v4 aX v6 e (.bool true) [.inRegion qu [],.code (nf a b)]) (xh n kd v1 bA v4 aX v6 e (.bool true) [.code (nf a b)]):=⟨λ_=>ah⟩
omit hkd in
theorem Hb:gD cs (xh n kd v1 bA v4 aX v6 e (.bool true) [.code (nf a b)]) (xh n kd v1 bA v4 aX v6 e (.bool true) [.code (.refuse "")]):=⟨λ_=>ah⟩
omit hkd in
theorem akE(w:ab):isEnd (stepG aj.prog true (aJ (xh n kd v1 bA v4 aX v6 e (.bool true) [.code (.refuse "")]) cs) w)=true:=ah
theorem kv(h:∀q,bE≠.pointer q)(w:ab):isEnd (stepG aj.prog true (aJ (oM n kd bE v1 v2 bA v4 aX v6 e [.inRegion qu [0],.code (nf a b)]) cs) w)=true:=by
 rcases hkd with rfl|rfl<;> (cases bE with
 |pointer q=>exact absurd rfl (h q)
 |slice q l c=>cases q<;>kernel_rfl
 |map q=>cases q<;>kernel_rfl
 |chan q=>cases q<;>kernel_rfl
 |_=>kernel_rfl)
theorem p3:gD cs (kF n kd v1 e p v2 bA v4 aX v6 [.inRegion qu [0],.code (nf a b)]) (kF n kd v1 e p (.bool false) bA v4 aX v6 [.inRegion qu [],.code (nf a b)]):=⟨λ_=>by rcases hkd with rfl|rfl<;>kernel_rfl⟩
omit hkd in
theorem p4:gD cs (kF n kd v1 e p (.bool false) bA v4 aX v6 [.inRegion qu [],.code (nf a b)]) (kF n kd v1 e p (.bool false) bA v4 aX v6 [.code (nf a b)]):=⟨λ_=>ah⟩
omit hkd in
theorem j5:gD cs (kF n kd v1 e p (.bool false) bA v4 aX v6 [.code (nf a b)]) (kF n kd v1 e p (.bool false) bA v4 aX v6 [.code (.seq (.region 1 (fY a) false) (fv b))]):=⟨λ_=>ah⟩
omit hkd in
theorem Hc:gD cs (kF n kd v1 e p (.bool false) bA v4 aX v6 [.code (.seq (.region 1 (fY a) false) (fv b))]) (kF n kd v1 e p (.bool false) bA v4 aX v6 [.code (.region 1 (fY a) false),.code (fv b)]):=⟨λ_=>ah⟩
omit hkd in
theorem De:gD cs (kF n kd v1 e p (.bool false) bA v4 aX v6 [.code (.region 1 (fY a) false),.code (fv b)]) (kF n kd v1 e p (.bool false) bA v4 aX v6 [.inRegion (fY a) [0,1,2,3],.code (fv b)]):=⟨λ_=>ah⟩
theorem Hd:gD cs (kF n kd v1 e p (.bool false) bA v4 aX v6 [.inRegion (fY a) [0,1,2,3],.code (fv b)]) (kF n kd v1 e p (.bool false) (.pointer (some p)) v4 aX v6 [.inRegion (fY a) [1,2,3],.code (fv b)]):=⟨λ_=>by rcases hkd with rfl|rfl<;>kernel_rfl⟩
theorem He:gD cs (kF n kd v1 e p (.bool false) (.pointer (some p)) v4 aX v6 [.inRegion (fY a) [1,2,3],.code (fv b)]) (eg n kd v1 e p aX v6 [.inRegion (fY a) [2,3],.code (fv b)]):=⟨λ_=>by rcases hkd with rfl|rfl<;>kernel_rfl⟩
theorem Hf(w:ab){v:ai}(h:w.cell? p=some v):∃es,stepG aj.prog true (aJ (eg n kd v1 e p aX v6 [.inRegion (fY a) [2,3],.code (fv b)]) cs) w=.go (aJ (eg n kd v1 e p v v6 [.inRegion (fY a) [3],.code (fv b)]) cs) w es:=by
 refine⟨_,Go.Conc.stepG_value (b:={fn:=n,tmps:= #[],todo:=[],defers:=[],mode:=.run,kind:=kd}) (a:=Dd v1 e p aX v6) (o:=aj.op (some 5) (.load 21 (.tmp 4))) (ops:=fY a) (i:=2) (rest:=[3]) (k:=[.code (fv b)]) rfl rfl (by rcases hkd with rfl|rfl<;>simp) ?_⟩;show(execOp _ _).run aj.prog w=.ok (.value v) w
 unfold execOp;simp[aj.op,Act.eval,go_sem,h]
theorem akF(w:ab)(h:w.cell? p=none){c:Halt}(d:w.farLoad aj.prog p false=.error c)(hd:eJ c):isEnd (stepG aj.prog true (aJ (eg n kd v1 e p aX v6 [.inRegion (fY a) [2,3],.code (fv b)]) cs) w)=true:=by
 have f:((execOp (Act.eval (Dd v1 e p aX v6)) (aj.op (some 5) (.load 21 (.tmp 4)))).runT aj.prog w #[])=(.halt c w,#[]):=by
  unfold execOp;simp only[aj.op,Act.eval];show((Instr.loadAt 21 (.pointer (some p))).bind _).runT aj.prog w #[]=_
  rw[hx];have:(Instr.loadAt 21 (.pointer (some p))).runT aj.prog w #[]=(.halt c w,#[]):=by
   unfold Instr.loadAt Instr.sureAddr loadVar isAgg underlying Go.program load;simp only[Bind.bind,Sem.bind,Sem.runT,Pure.pure];rw[show aj.prog.underlying 21=some (.int .i32) by kernel_rfl];simp only[Sem.bind,Sem.runT,ea,cY];rw[h];simp only[Gz];rw[show(Mode.plain==Mode.atomic)=false from rfl,d]
  rw[this]
 have⟨o,j,aH,g⟩:=GF (x:=eg n kd v1 e p aX v6 [.inRegion (fY a) [2,3],.code (fv b)]) (cs:=cs) f hd;have i:stepG aj.prog true (aJ (eg n kd v1 e p aX v6 [.inRegion (fY a) [2,3],.code (fv b)]) cs) w=stepG.apply aj.prog true (eg n kd v1 e p aX v6 [.inRegion (fY a) [2,3],.code (fv b)]) cs none (execOp (Act.eval (Dd v1 e p aX v6)) (aj.op (some 5) (.load 21 (.tmp 4)))) w:=(by rcases hkd with rfl|rfl<;>kernel_rfl);rw[i,g];rfl
theorem Hg(y:Int):gD cs (eg n kd v1 e p (.int .i32 y) v6 [.inRegion (fY a) [3],.code (fv b)]) (eg n kd v1 e p (.int .i32 y) (.bool (y==a)) [.inRegion (fY a) [],.code (fv b)]):=⟨λ_=>by rcases hkd with rfl|rfl<;>kernel_rfl⟩
omit hkd in
theorem Hh(q:Bool)(aX:ai):gD cs (eg n kd v1 e p aX (.bool q) [.inRegion (fY a) [],.code (fv b)]) (eg n kd v1 e p aX (.bool q) [.code (fv b)]):=⟨λ_=>ah⟩
omit hkd in
theorem f13(aX:ai):gD cs (eg n kd v1 e p aX (.bool false) [.code (fv b)]) (eg n kd v1 e p aX (.bool false) [.code (.refuse "")]):=⟨λ_=>ah⟩
omit hkd in
theorem f14(aX:ai)(w:ab):isEnd (stepG aj.prog true (aJ (eg n kd v1 e p aX (.bool false) [.code (.refuse "")]) cs) w)=true:=ah
omit hkd in
theorem WM(aX:ai)(w:ab):j4 aj.prog n (eg n kd v1 e p aX (.bool false) [.inRegion (fY a) [],.code (fv b)]) cs w:=.q rfl (Hh n kd a b v1 e cs p _ aX).h (.q rfl (f13 n kd b v1 e cs p aX).h (.of rfl (f14 n kd v1 e cs p aX)))
theorem akG(c:a=0\/a=1)(w:ab)(q:Addr):j4 aj.prog n (eg n kd v1 e p (.pointer (some q)) v6 [.inRegion (fY a) [3],.code (fv b)]) cs w:=by
 rcases c with rfl|rfl
 .exact .q (x1:=eg n kd v1 e p (.pointer (some q)) (.bool false) [.inRegion (fY 0) [],.code (fv b)]) rfl (λw=>by rcases hkd with rfl|rfl<;>kernel_rfl) (WM n kd 0 b v1 e cs p _ w)
 .exact .of rfl λw=>by rcases hkd with rfl|rfl<;>kernel_rfl
theorem Ox(d:a=0\/a=1)(w:ab)(v:ai)(h:∀y,v≠.int .i32 y):j4 aj.prog n (eg n kd v1 e p v v6 [.inRegion (fY a) [3],.code (fv b)]) cs w:=by
 rcases hkd with rfl|rfl<;>rcases d with rfl|rfl<;> (cases v with
 |int k y=>cases k<;>first|exact absurd rfl (h y)|exact .of rfl λw=>ah
 |pointer q=>cases q with
  |none=>exact .of rfl λw=>ah
  |some q=>exact akG n _ _ b v1 v6 e cs p ag ag w q
 |slice q l c=>cases q<;>exact .of rfl λw=>ah
 |map q=>cases q<;>exact .of rfl λw=>ah
 |chan q=>cases q<;>exact .of rfl λw=>ah
 |_=>exact .of rfl λw=>ah)
theorem Oy(w:ab)(y:Int)(h:y≠a):j4 aj.prog n (eg n kd v1 e p (.int .i32 y) v6 [.inRegion (fY a) [3],.code (fv b)]) cs w:=by
 have q:=Hg n kd a b v1 v6 e cs p hkd y;rw[show(y==a)=false by simpa using h]at q;exact .q rfl q.h (WM n kd a b v1 e cs p _ w)
omit hkd in
theorem akH(aX:ai):gD cs (eg n kd v1 e p aX (.bool true) [.code (fv b)]) (eg n kd v1 e p aX (.bool true) [.code (.region 2 (pz b) false)]):=⟨λ_=>ah⟩
omit hkd in
theorem Hi(aX:ai):gD cs (eg n kd v1 e p aX (.bool true) [.code (.region 2 (pz b) false)]) (eg n kd v1 e p aX (.bool true) [.inRegion (pz b) [0]]):=⟨λ_=>ah⟩
omit hkd in
theorem WN(aX v6:ai)(w:ab){v:ai}(h:w.cell? p=some v):(execOp (Act.eval (Dd v1 e p aX v6)) (aj.op none (.store 21 (.tmp 4) (.const (.int .i32 b))))).runT aj.prog w #[]=if w.frozen? p then(.halt (.unsupported (.unsafePointer "a write to bytes that a string shares")) w,#[])else(.ok .skip (w.setCell p (.int .i32 b)),#[⟨.cell p,true,false⟩]):=by
 unfold execOp;simp only[aj.op,Act.eval];show((Instr.storeAt 21 (.pointer (some p)) (.int .i32 b)).bind _).runT aj.prog w #[]=_
 rw[hx];have:(Instr.storeAt 21 (.pointer (some p)) (.int .i32 b)).runT aj.prog w #[]=if w.frozen? p then(.halt (.unsupported (.unsafePointer "a write to bytes that a string shares")) w,#[])else(.ok () (w.setCell p (.int .i32 b)),#[⟨.cell p,true,false⟩]):=by
  unfold Instr.storeAt Instr.sureAddr storeVar Go.sizeOf typeInfo Go.program;simp only[Bind.bind,Sem.bind,Sem.runT,Pure.pure];have af:(aj.prog.info? 21).map (·.size)=some 1:=ah;cases en:aj.prog.info? 21 with
  |none=>rw[en]at af;cases af
  |some i=>
   rw[en]at af;have af:i.size=1:=(by simpa using af);simp only[Sem.bind,Sem.runT,af];rw[aC (by simp[Value.cells])];show(storeCells p [Value.int .i32 b]).runT aj.prog w #[]=_
   simp only[storeCells,store,Bind.bind,Sem.bind,Sem.runT,Pure.pure,Addr.add,dd,h];split<;>rfl
 rw[this];by_cases a:w.frozen? p=true
 .rw[aV a,aV a]
 .rw[aC a,aC a];rfl
theorem WO(aX:ai)(w:ab):stepG aj.prog true (aJ (eg n kd v1 e p aX (.bool true) [.inRegion (pz b) [0]]) cs) w=stepG.apply aj.prog true (eg n kd v1 e p aX (.bool true) [.inRegion (pz b) [0]]) cs none (execOp (Act.eval (Dd v1 e p aX (.bool true))) (aj.op none (.store 21 (.tmp 4) (.const (.int .i32 b))))) w:=by rcases hkd with rfl|rfl<;>kernel_rfl
theorem Oz(aX:ai)(w:ab){v:ai}(h:w.cell? p=some v)(c:w.frozen? p=false):∃es,stepG aj.prog true (aJ (eg n kd v1 e p aX (.bool true) [.inRegion (pz b) [0]]) cs) w=.go (aJ (eg n kd v1 e p aX (.bool true) [.inRegion (pz b) []]) cs) (w.setCell p (.int .i32 b)) es:=by
 have a:=WN b v1 e p aX (.bool true) w h;rw[c]at a;exact⟨_,by rw[WO n kd b v1 e cs p hkd];unfold stepG.apply;simp only[dd,a];rfl⟩
theorem akI(aX:ai)(w:ab){v:ai}(h:w.cell? p=some v)(c:w.frozen? p=true):isEnd (stepG aj.prog true (aJ (eg n kd v1 e p aX (.bool true) [.inRegion (pz b) [0]]) cs) w)=true:=by
 have a:=WN b v1 e p aX (.bool true) w h;rw[c]at a;have⟨o,f,aH,d⟩:=GF (x:=eg n kd v1 e p aX (.bool true) [.inRegion (pz b) [0]]) (cs:=cs) a (.inr ⟨_,rfl,ag⟩);rw[WO n kd b v1 e cs p hkd,d];rfl
omit hkd in
theorem OA(aX:ai):gD cs (eg n kd v1 e p aX (.bool true) [.inRegion (pz b) []]) (eg n kd v1 e p aX (.bool true) []):=⟨λ_=>ah⟩
omit hkd in
theorem akJ(aX:ai):gD cs (eg n kd v1 e p aX (.bool true) []) {eg n kd v1 e p aX (.bool true) []with mode:=.returning}:=⟨λ_=>ah⟩
theorem stub(t:a=0\/a=1){C:bf}(x:C.P=aj.prog){R:Nat->Prop}{f:Ren}{w w':ab}(A:bR C R f w w')(B:∀p,bE=.pointer (some p)->∃b,f p.block=some b): j4 aj.prog n (oM n kd bE v1 v2 bA v4 aX v6 e [.code (aj.swap a b)]) cs w\/∃p,bE=.pointer (some p)/\w.cell? p=some (.int .i32 a)/\w.frozen? p=false/\qt aj.prog n 17 (oM n kd bE v1 v2 bA v4 aX v6 e [.code (aj.swap a b)]) cs w {eg n kd v1 e p (.int .i32 a) (.bool true) []with mode:=.returning} cs (w.setCell p (.int .i32 b)):=by
 have j:∀{z},j4 aj.prog n (oM n kd bE v1 v2 bA v4 aX v6 e [.inRegion qu [0],.code (nf a b)]) cs z->j4 aj.prog n (oM n kd bE v1 v2 bA v4 aX v6 e [.code (aj.swap a b)]) cs z:=λh=>.q rfl (ay ..).h (.q rfl (aF ..).h h);by_cases o:∃q,bE=.pointer q
 .obtain⟨q,rfl⟩:=o;cases q with
  |none=>exact .inl (j (.q rfl (pi (hkd:=hkd) ..).h (.q rfl (Mb ..).h (.q rfl (Hb ..).h (.of rfl (akE n kd v1 bA v4 aX v6 e cs))))))
  |some p=>
   have g:∀{z},j4 aj.prog n (eg n kd v1 e p aX v6 [.inRegion (fY a) [2,3],.code (fv b)]) cs z->j4 aj.prog n (kF n kd v1 e p v2 bA v4 aX v6 [.code (aj.swap a b)]) cs z:=λh=>j (.q rfl (p3 (hkd:=hkd) ..).h (.q rfl (p4 ..).h (.q rfl (j5 ..).h (.q rfl (Hc ..).h (.q rfl (De ..).h (.q rfl (Hd (hkd:=hkd) ..).h (.q rfl (He (hkd:=hkd) ..).h h)))))));cases dZ:w.cell? p with
   |none=>
    have⟨H,D⟩:=B p rfl;have⟨aa,r,hd⟩:=akD A D dZ;rw[x]at r;exact .inl (g ⟨0,_,_,w,⟨rfl,rfl,rfl⟩,rfl,λT d=>Ow (akF n kd a b v1 aX v6 e cs p hkd (a2 w T d) dZ r hd)⟩)
   |some v=>
    have i:j4 aj.prog n (eg n kd v1 e p v v6 [.inRegion (fY a) [3],.code (fv b)]) cs w->j4 aj.prog n (kF n kd v1 e p v2 bA v4 aX v6 [.code (aj.swap a b)]) cs w:=λ⟨k,y,bX,u,E,F,G⟩=>g ⟨k+1,y,bX,u,⟨rfl,_,_,w,λT d=>Hf n kd a b v1 aX v6 e cs p hkd (a2 w T d) dZ,E⟩,F,G⟩;by_cases s:∃y,v=.int .i32 y
    .obtain⟨y,rfl⟩:=s;by_cases m:y=a
     .subst m;have l:=Hg n kd y b v1 v6 e cs p hkd y;rw[Gz]at l;have c:∀{k z bX u},qt aj.prog n k (eg n kd v1 e p (.int .i32 y) (.bool true) [.inRegion (pz b) [0]]) cs w z bX u->qt aj.prog n (14+k) (kF n kd v1 e p v2 bA v4 aX v6 [.code (aj.swap y b)]) cs w z bX u:=λ{k z bX u}h=>by
       rw[show 14+k=k+1+1+1+1+1+1+1+1+1+1+1+1+1+1 by omega];exact .q rfl (ay ..).h (.q rfl (aF ..).h (.q rfl (p3 (hkd:=hkd) ..).h (.q rfl (p4 ..).h (.q rfl (j5 ..).h (.q rfl (Hc ..).h (.q rfl (De ..).h (.q rfl (Hd (hkd:=hkd) ..).h (.q rfl (He (hkd:=hkd) ..).h ⟨rfl,_,_,w,λT d=>Hf n kd y b v1 aX v6 e cs p hkd (a2 w T d) dZ,.q rfl l.h (.q rfl (Hh ..).h (.q rfl (akH ..).h (.q rfl (Hi ..).h h)))⟩))))))))
      cases dw:w.frozen? p with
      |true=>exact .inl ⟨14+0,_,_,w,c ⟨rfl,rfl,rfl⟩,rfl,λT d=>Ow (akI n kd b v1 e cs p hkd _ (a2 w T d) dZ dw)⟩
      |false=>exact .inr ⟨p,rfl,dZ,dw,c (k:=3) ⟨rfl,_,_,w.setCell p (.int .i32 b),λT d=>Oz n kd b v1 e cs p hkd _ (a2 w T d) dZ dw,.q (k:=1) rfl (OA ..).h (.q (k:=0) rfl (akJ ..).h ⟨rfl,rfl,rfl⟩)⟩⟩
     .exact .inl (i (Oy n kd a b v1 v6 e cs p hkd w y m))
    .exact .inl (i (Ox n kd a b v1 v6 e cs p hkd t w v λy m=>s ⟨y,m⟩))
 .exact .inl (j (.of rfl (kv n kd a b bE v1 v2 bA v4 aX v6 e cs hkd λq h=>o ⟨q,h⟩)))
end
end Go.bp
