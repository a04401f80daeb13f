import Derived.Test.YtlcdgbhigfgehabGreatDoorQA03
import Derived.Test.YtlcdgbhigfgehabGreatDoorQA05
import Derived.Test.YtlcdgbhigfgehabGreatDoorQB14
import Derived.LaidEqlPtr
import Derived.Laws.StructEq
set_option linter.all false
set_option maxRecDepth 100000
set_option maxHeartbeats 16000000
namespace Go.Proofs.YtlcdgbhigfgehabGreatDoor
open Go.RowKit Go.bp

noncomputable def Gb:List Code:=let b:=Tryz.f29.body.getD .skip;[dD b,dD (aW b),dD (aW (aW b)),dD (aW (aW (aW b))),dD (aW (aW (aW (aW b)))),dD (aW (aW (aW (aW (aW b)))))]
def ag4:(aj.prog.info? 60).map (λi=>(i.zero,i.size,i.bytes))=some (some .nilIface,1,16):=ah
def ag5(n:Nat)(d:n<=1000000)(w:ab): (Instr.makeSlice 69 (.int .i64 n) (.int .i64 n)).run aj.prog w=.ok (.slice (some ⟨w.heap.size,0,none⟩) n n) (w.alloc (.cells (madeCells #[.nilIface] n) 60)):=by
 have⟨i,af,a,b,c⟩:=info_parts ag4;have h:=run_make (P:=aj.prog) w 69 60 i _ ((aj.eF 69).trans Tryz.underlying69) af a .i64 .i64 n n U (Int.le_refl _) (by rw[c];omega) U;rw[b]at h;simpa[Value.cells]using h
def ag6(w:ab):(Instr.makeMap 70 none).run aj.prog w=.ok (.map (some w.heap.size)) (w.alloc (.map #[] 0)):=by
 simp only[Instr.makeMap,newObj,vA];rfl
def g8(w:ab)(o:Obj)(k:Nat):(w.alloc o).heap[k]? =if k=w.heap.size then some o else w.heap[k]? :=by
 show(w.heap.push o)[k]? =_
 rw[oE]
def has(w:ab)(o:Obj):(w.alloc o).heap.size=w.heap.size+1:=Gc ..
structure UM(bv:ai)(n:Nat)(w0:ab)(w:ab):Prop where
 bo:Fr aD w0 w
 size:w.heap.size=w0.heap.size+7
 bL:w.heap[w0.heap.size]? =some (.cells #[bv] 25)
 bq:w.heap[w0.heap.size+1]? =some (.cells (madeCells #[.nilIface] n) 60)
 a9:w.heap[w0.heap.size+2]? =some (.cells #[.slice (some ⟨w0.heap.size+1,0,none⟩) n n] 69)
 aG:w.heap[w0.heap.size+3]? =some (.map #[] 0)
 aT:w.heap[w0.heap.size+4]? =some (.cells #[.int .i32 0,.int .u32 0,.map (some (w0.heap.size+3))] 109)
 ba:w.heap[w0.heap.size+5]? =some (.cells #[.pointer (some ⟨w0.heap.size+4,0,none⟩)] 107)
 wg:w.heap[w0.heap.size+6]? =some (.cells #[.int .u64 0,.int .u32 0] 116)
def ag7(k:Option Addr)(l m:Nat)(y n c:Nat)(av:Nat->Nat)(w:ab)(cJ:n<=8)(M:n<=c)(H:∀i,i<n->w.cell? ⟨y,i,none⟩=some (.pointer (some ⟨av i,0,none⟩)))(hd:∀i j,i<n->j<n->i≠j->av i≠av j)(aa:∀i,i<n->∃x T,w.heap[av i]? =some (.cells x T (0,0))): di aj.prog Gb (λa w'=>a.tmps.size=66/\a.defers=[]/\a.tmps[1]? =some (.slice (some ⟨y,0,none⟩) n c)/\a.tmps[2]? =some (.pointer (some ⟨w.heap.size,0,none⟩))/\a.tmps[11]? =some (.pointer (some ⟨w.heap.size+2,0,none⟩))/\a.tmps[12]? =some (.pointer (some ⟨w.heap.size+5,0,none⟩))/\a.tmps[13]? =some (.pointer (some ⟨w.heap.size+6,0,none⟩))/\UM (.slice k l m) n w w') ⟨#[.slice k l m,.slice (some ⟨y,0,none⟩) n c,I,I,I,I,I,I,I,I,I,I,I,I,I,I,I,I,I,I,I,I,I,I,I,I,I,I,I,I,I,I,I,I,I,I,I,I,I,I,I,I,I,I,I,I,I,I,I,I,I,I,I,I,I,I,I,I,I,I,I,I,I,I,I,I],[]⟩ w:=by
 generalize J:(λ(a:Act)(w':ab)=>_)=Q;have N:=ae J;have K:=ae H;have O:=ae hd;have P:=ae aa;clear J H hd aa;simp only[Gb,Tryz.f29,e2,dD,aW];rw[di];go_wp2_with fail;rw[di];have R:decide ((8:Int)< (n:Int))=false:=a5;go_wp2_with fail;rw[di];have g8:∀a v,w.cell? a=some v->(w.alloc (.cells #[Value.slice k l m] 25)).cell? a=some v:=λa v h=>by
  have S:=yd w a h;rw[<-h];simp only[World.cell?];rw[Cd w _ S]
 have d:=ae g8;have f:=ae (show∀i,i<n->∃x T,(w.alloc (.cells #[Value.slice k l m] 25)).heap[av i]? =some (.cells x T (0,0))from λi af=>by
  have⟨x,T,h⟩:=P.o i af;exact⟨x,T,(Cd w _ (bQ.1 h).1).trans h⟩)
 obtain⟨az,p,q⟩:∃j,aj.prog.info? 99=some j/\j.size≠0:=by
  have:(aj.prog.info? 99).map (λi=>decide (i.size=0))=some false:=ah;cases af:aj.prog.info? 99 with
  |none=>rw[af]at this;cases this
  |some i=>rw[af]at this;exact⟨i,rfl,by simpa using this⟩
 have z:w.alloc (.cells #[Value.slice k l m] 25)=w.alloc (.cells #[Value.slice k l m] 25):=rfl;revert d f;generalize r:w.alloc (.cells #[Value.slice k l m] 25)=w1;intro d f;clear g8 z;have A:=ae r;clear r;go_wp2_with fail;go_loopw [22] (λB wr=>∃i:Nat,i<=n/\B=.int .i64 i/\wr=w1) (λB _=>n - (intOf B).toNat)
 case atStart=>exact⟨0,dl _,rfl,rfl⟩
 case round=>
  obtain⟨i,af,rfl,rfl⟩:=hrel;by_cases g:i<n
  .have C:decide ((i:Int)< (n:Int))=true:=(by simpa using g);have dZ:=d.o _ _ (K.o i g);have V:i<=c:=U;have W:(0:Int)<=(i:Int):=U;have X:(i:Int)<=(c:Int):=U;go_wp2_with fail;go_loopw [31] (λD Y=>∃j:Nat,j<=i/\D=.int .i64 j/\Y=wr) (λD _=>i - (intOf D).toNat)
   case atStart=>exact⟨0,dl _,rfl,rfl⟩
   case round=>
    obtain⟨j,en,rfl,rfl⟩:=hrel;by_cases s:j<i
    .have E:decide ((j:Int)< (i:Int))=true:=(by simpa using s);have Z:=d.o _ _ (K.o j U);have F:=O.o j i U U U;go_wp2_with fail;have⟨jR,avu,t⟩:=f.o i g;have⟨avv,avw,u⟩:=f.o j U;rw[run_eql_ptr_other _ ((aj.eF 26).trans Tryz.underlying26) p q (a:=⟨av j,0,none⟩) (b:=⟨av i,0,none⟩) (λe=>F (by injection e)) u t];clear t u;go_wp2_with fail;exact⟨⟨j+1,U,by go_num,trivial⟩,by simp[intOf];omega⟩
    .have E:decide ((j:Int)< (i:Int))=false:=(by simpa using s);go_wp2_with fail;exact⟨⟨i+1,U,by go_num,trivial⟩,by simp[intOf];omega⟩
  .have C:decide ((i:Int)< (n:Int))=false:=(by simpa using g);go_wp2_with fail;rw[di];go_wp2_with fail;rw[ag5 n U];obtain⟨L,o⟩:∃L,madeCells #[Value.nilIface] n=L:=⟨_,rfl⟩;rw[o];have G:=ae o;clear o;go_wp2_with fail;rw[di];go_wp2_with fail;rw[ag6];go_wp2_with fail;rw[di];go_wp2_with fail;rw[di,<-N.o];have hw:=A.o;subst hw;simp only[has];refine⟨ag,trivial,ag,ag,ag,ag,ag,⟨?_,?_,?_,?_,?_,?_,?_,?_,?_⟩⟩
   .exact Fr.alloc (Fr.alloc (Fr.alloc (Fr.alloc (Fr.alloc (Fr.alloc (Fr.alloc (Fr.refl aD w) _) _) _) _) _) _) _
   .simp only[has]
   .simp only[has,g8];repeat rw[aC U]
    simp
   .simp only[has,g8];rw[G.o];simp
   all_goals simp only[has,g8]
   all_goals simp
end Go.Proofs.YtlcdgbhigfgehabGreatDoor
namespace Go.Proofs.YtlcdgbhigfgehabGreatDoor
open Go.RowKit Go.bp

def cR(c:Nat->Int):bJ:=(List.range 15).map λj=>.int .i64 (c j)
def h6(c:Nat->Int):(cR c).length=15:=by simp[cR]
def cj(c:Nat->Int){k:Nat}(h:k<15):(cR c)[k]? =some (.int .i64 (c k)):=by simp[cR,h]
def PG(c:Nat->Int)(k:Nat)(v:Int):(cR c).set k (.int .i64 v)=cR (λj=>if j=k then v else c j):=by
 apply xP;intro j;rw[List.getElem?_set,h6];by_cases h:j<15
 .rw[cj _ h,cj _ h];by_cases e:k=j
  .subst e;simp[h]
  .rw[aC e,aC (λq=>e q.symm)]
 .have a:(cR c)[j]? =none:=vu (by rw[h6];omega);have b:(cR λj=>if j=k then v else c j)[j]? =none:=vu (by rw[h6];omega);rw[a,b];by_cases e:k=j
  .subst e;simp[h]
  .rw[aC e]
structure qJ(S:Nat->Prop)(w w':ab):Prop where
 size:w.heap.size<=w'.heap.size
 block:∀k,k<w.heap.size->¬S k->w'.heap[k]? =w.heap[k]?
def _root_.Go.Proofs.YtlcdgbhigfgehabGreatDoor.Fr.b{S:Nat->Prop}{w w':ab}(h:Fr S w w'):qJ S w w':=⟨h.size,h.block⟩
def qJ.trans{S S':Nat->Prop}{w w1 w2:ab}(h:qJ S w w1)(k:qJ S' w1 w2)(d:∀b,S' b->b<w.heap.size->S b):qJ S w w2:=⟨dU h.size k.size,λb a c=>(k.block b (fl a h.size) (λq=>c (d b q a))).trans (h.block b a c)⟩
def am3(w:ab)(o:Obj)(a:Addr)(v:ai)(h:a.block<w.heap.size):(w.alloc o).setCell a v=(w.setCell a v).alloc o:=by
 unfold World.setCell World.alloc;congr 1;apply uI;intro k;simp only[fA,oE,Dx];by_cases e:k=w.heap.size
 .subst e;rw[aV rfl,aV rfl,aC U]
 .rw[aC e,aC e]
def z4{a b:Nat->Int}(h:∀j,j<15->a j=b j):cR a=cR b:=Mk λj c=>by rw[h j (uY.1 c)]
def am4{w w':ab}{g:Nat}{T:TypeId}{xs:bJ}(h:Own w g T xs)(k:w'.heap=w.heap):Own w' g T xs:=by
 obtain⟨a,b,c⟩:=h;exact⟨a,by rw[k];exact b,c⟩
def upto(m:Nat)(c z:Nat->Int)(j:Nat):Int:=if j<m then c j else z j
def am5(m:Nat)(c z:Nat->Int)(j:Nat):(if j=m then c m else upto m c z j)=upto (m+1) c z j:=by
 unfold upto;by_cases e:j=m
 .subst e;simp
 .rw[aC e];by_cases q:j<m
  .rw[aV q,aV U]
  .rw[aC q,aC U]
def nj{w:ab}{g m:Nat}{c z:Nat->Int}(h:Own w g 50 (cR (upto m c z))):Own (w.setCell ⟨g,m,none⟩ (.int .i64 (c m))) g 50 (cR (upto (m+1) c z)):=by
 have:=h.set m (.int .i64 (c m));rw[PG]at this;rwa[z4 (b:=upto (m+1) c z) (λj _=>am5 m c z j)]at this
noncomputable def XZ:Code:=dD (aW (aW (aW (aW (aW (aW (aW (aW (Tryz.f20.body.getD .skip)))))))))
def am6(gc a0:Nat)(c z:Nat->Int)(cA cn:ai)(bE v1 v2 bA v4 aX hV gK iJ h i l n o p q r s t u v x y A B C D E F G H aa J K L M N O P R T az V W X Y Z sQ sR sS sT sU qo qp mC mD mE mF mG mH mI zs zt zu zv zw zx zy zz zA zB zC zD zE zF zG zH zI zJ C8:ai)(w:ab)(ap:Own w gc 50 (cR c))(d:Own w a0 50 (cR z)): XZ.wp aj.prog (λe a w'=>e=.normal/\a.tmps.size=85/\a.defers=[]/\a.tmps.getD 4 I=cA/\a.tmps.getD 5 I=cn/\a.tmps.getD 6 I=.pointer (some ⟨a0,0,none⟩)/\a.tmps.getD 7 I=.int .i64 0/\Own w' a0 50 (cR c)/\qJ (λb=>b=a0) w w') ⟨#[bE,v1,v2,bA,v4,aX,.pointer (some ⟨a0,0,none⟩),hV,gK,iJ,h,cA,cn,i,l,n,o,.pointer (some ⟨gc,0,none⟩),p,q,.int .i64 0,r,s,t,u,v,x,y,A,B,C,D,E,F,G,H,aa,J,K,L,M,N,O,P,R,T,az,V,W,X,Y,Z,sQ,sR,sS,sT,sU,qo,qp,mC,mD,mE,mF,mG,mH,mI,zs,zt,zu,zv,zw,zx,zy,zz,zA,zB,zC,zD,zE,zF,zG,zH,zI,zJ,C8],[]⟩ w:=by
 have x0:=ap.cell (cj c (k:=0) U);have ht:=d.cell (cj z (k:=0) U);have f0:=d.free 0 (by rw[h6];omega);have x1:=ap.cell (cj c (k:=1) U);have l6:=d.cell (cj z (k:=1) U);have f1:=d.free 1 (by rw[h6];omega);have gz:=ap.cell (cj c (k:=2) U);have ou:=d.cell (cj z (k:=2) U);have f2:=d.free 2 (by rw[h6];omega);have kv:=ap.cell (cj c (k:=3) U);have Dy:=d.cell (cj z (k:=3) U);have f3:=d.free 3 (by rw[h6];omega);have uD:=ap.cell (cj c (k:=4) U);have yO:=d.cell (cj z (k:=4) U);have f4:=d.free 4 (by rw[h6];omega);have xb:=ap.cell (cj c (k:=5) U);have H0:=d.cell (cj z (k:=5) U);have f5:=d.free 5 (by rw[h6];omega);have xc:=ap.cell (cj c (k:=6) U);have PH:=d.cell (cj z (k:=6) U);have f6:=d.free 6 (by rw[h6];omega);have PI:=ap.cell (cj c (k:=7) U);have am7:=d.cell (cj z (k:=7) U);have f7:=d.free 7 (by rw[h6];omega);have am8:=ap.cell (cj c (k:=8) U);have am9:=d.cell (cj z (k:=8) U);have f8:=d.free 8 (by rw[h6];omega);have ana:=ap.cell (cj c (k:=9) U);have anb:=d.cell (cj z (k:=9) U);have f9:=d.free 9 (by rw[h6];omega);have z5:=ap.cell (cj c (k:=10) U);have anc:=d.cell (cj z (k:=10) U);have f10:=d.free 10 (by rw[h6];omega);have Ox:=ap.cell (cj c (k:=11) U);have Oy:=d.cell (cj z (k:=11) U);have f11:=d.free 11 (by rw[h6];omega);have ane:=ap.cell (cj c (k:=12) U);have anf:=d.cell (cj z (k:=12) U);have f12:=d.free 12 (by rw[h6];omega);have ang:=ap.cell (cj c (k:=13) U);have anh:=d.cell (cj z (k:=13) U);have f13:=d.free 13 (by rw[h6];omega);have ani:=ap.cell (cj c (k:=14) U);have anj:=d.cell (cj z (k:=14) U);have f14:=d.free 14 (by rw[h6];omega);have gy:=ae ap;have mn:=ae d;clear ap d;generalize sK:(λ(e:Exit)(a:Act)(w':ab)=>_)=Q;have PK:=ae sK;clear sK;simp only[XZ,Tryz.f20,e2,dD,aW];go_region
 rw[<-PK.o];have cz:Own w a0 50 (cR (upto 0 c z)):=(by rw[z4 (b:=z) (λj _=>by simp[upto])];exact mn.o);have f:=(nj (m:=14) (nj (m:=13) (nj (m:=12) (nj (m:=11) (nj (m:=10) (nj (m:=9) (nj (m:=8) (nj (m:=7) (nj (m:=6) (nj (m:=5) (nj (m:=4) (nj (m:=3) (nj (m:=2) (nj (m:=1) (nj (m:=0) cz)))))))))))))));rw[z4 (b:=c) (λj en=>by unfold upto;rw[aV en])]at f;have g:=(Fr.setCell (S:=λb=>b=a0) (Fr.setCell (S:=λb=>b=a0) (Fr.setCell (S:=λb=>b=a0) (Fr.setCell (S:=λb=>b=a0) (Fr.setCell (S:=λb=>b=a0) (Fr.setCell (S:=λb=>b=a0) (Fr.setCell (S:=λb=>b=a0) (Fr.setCell (S:=λb=>b=a0) (Fr.setCell (S:=λb=>b=a0) (Fr.setCell (S:=λb=>b=a0) (Fr.setCell (S:=λb=>b=a0) (Fr.setCell (S:=λb=>b=a0) (Fr.setCell (S:=λb=>b=a0) (Fr.setCell (S:=λb=>b=a0) (Fr.setCell (S:=λb=>b=a0) (Fr.refl (λb=>b=a0) w) ⟨a0,0,none⟩ (.int .i64 (c 0)) (λ_=>rfl)) ⟨a0,1,none⟩ (.int .i64 (c 1)) (λ_=>rfl)) ⟨a0,2,none⟩ (.int .i64 (c 2)) (λ_=>rfl)) ⟨a0,3,none⟩ (.int .i64 (c 3)) (λ_=>rfl)) ⟨a0,4,none⟩ (.int .i64 (c 4)) (λ_=>rfl)) ⟨a0,5,none⟩ (.int .i64 (c 5)) (λ_=>rfl)) ⟨a0,6,none⟩ (.int .i64 (c 6)) (λ_=>rfl)) ⟨a0,7,none⟩ (.int .i64 (c 7)) (λ_=>rfl)) ⟨a0,8,none⟩ (.int .i64 (c 8)) (λ_=>rfl)) ⟨a0,9,none⟩ (.int .i64 (c 9)) (λ_=>rfl)) ⟨a0,10,none⟩ (.int .i64 (c 10)) (λ_=>rfl)) ⟨a0,11,none⟩ (.int .i64 (c 11)) (λ_=>rfl)) ⟨a0,12,none⟩ (.int .i64 (c 12)) (λ_=>rfl)) ⟨a0,13,none⟩ (.int .i64 (c 13)) (λ_=>rfl)) ⟨a0,14,none⟩ (.int .i64 (c 14)) (λ_=>rfl));revert f g;generalize(World.setCell _ (⟨a0,14,none⟩:Addr) _)=avW;intro f g;exact⟨rfl,ag,rfl,ag,ag,ag,ag,am4 f rfl,⟨g.size,g.block⟩⟩
end Go.Proofs.YtlcdgbhigfgehabGreatDoor
namespace Go.Proofs.YtlcdgbhigfgehabGreatDoor
open Go.RowKit Go.bp

def kg(c:Nat->Int):aQ:= #[.int .i64 (c 0),.int .i64 (c 1),.int .i64 (c 2),.int .i64 (c 3),.int .i64 (c 4),.int .i64 (c 5),.int .i64 (c 6),.int .i64 (c 7),.int .i64 (c 8),.int .i64 (c 9),.int .i64 (c 10),.int .i64 (c 11),.int .i64 (c 12),.int .i64 (c 13),.int .i64 (c 14)]
def anD:aj.prog.underlying 50=some (.array 15 3):=(aj.eF 50).trans (by first|exact Tryz.underlying50|kernel_rfl)
def anE(c:Nat->Int)(i:Nat)(af:i<15)(w:ab):(part 3 (kg c) i).run aj.prog w=.ok (.int .i64 (c i)) w:=by
 have:i=0\/i=1\/i=2\/i=3\/i=4\/i=5\/i=6\/i=7\/i=8\/i=9\/i=10\/i=11\/i=12\/i=13\/i=14:=U;unfold part;simp only[vA,aj.aai,Tryz.isAgg3,Result.andThen_ok,ea,cY];rcases this with rfl|rfl|rfl|rfl|rfl|rfl|rfl|rfl|rfl|rfl|rfl|rfl|rfl|rfl|rfl<;>rfl
def anF(d:Nat)(n:Int)(w:ab):(Op.equalIn (d+1) 3 (.int .i64 n) (.int .i64 n)).run aj.prog w=.ok true w:=by
 have:=run_equalIn_int (P:=aj.prog) w d 3 .i64 .i64 n n ((aj.eF 3).trans Tryz.underlying3);simpa using this
def anG(d:Nat)(c:Nat->Int)(w:ab):∀(l:cw),(∀i∈l,i<15)->((forIn l ((none,()):Option Bool×Unit) λi(_:Option Bool×Unit)=>do
   let a<-part 3 (kg c) (i*1)
   let b<-part 3 (kg c) (i*1)
   let r<-Op.equalIn (d+1) 3 a b
   if(!r)=true then pure (ForInStep.done (some false,()))else pure (ForInStep.yield (none,()))):Sem (Option Bool×Unit)).run aj.prog w=.ok (none,()) w:=by
 intro l;induction l with
 |nil=>intro _;rfl
 |cons i l e=>
  intro h;have af:=h i ag;simp only[Cp,vA,Nat.mul_one,anE c i af,anF,Result.andThen_ok,y2,ea,cY,Ez];have:=e (λj f=>h j (by simp[f]));simpa only[Nat.mul_one]using this
def anH(c:Nat->Int)(w:ab):(Op.equalIn 10000 50 (.agg (kg c)) (.agg (kg c))).run aj.prog w=.ok true w:=by
 rw[show(10000:Nat)=9998+1+1 from rfl];generalize 9998=d;rw[Op.equalIn];simp only[vA,underlying,anI,anD,Result.andThen_ok];simp only[Ez,Result.andThen_ok,vA,aj.aah,Tryz.sizeOf3];rw[LJ,anG d c w _ (λi af=>by simp[Std.Legacy.Range.size]at af;omega)];rfl
def anJ(x y:Operand)(c:Nat->Int)(w:ab):(eqGuard .eql 50 x y (.agg (kg c)) (.agg (kg c))).run aj.prog w=.ok () w:=run_eqGuard_agg w .eql 50 x y _ _ ah
end Go.Proofs.YtlcdgbhigfgehabGreatDoor
namespace Go.Proofs.YtlcdgbhigfgehabGreatDoor
open Go.RowKit Go.bp

noncomputable def z7:Code:=dD (aW (aW (aW (aW (aW (aW (aW (aW (Tryz.f29.body.getD .skip)))))))))
def aob(a9 ba aT aG bq n c:Nat)(bE v1 v2 bA v4 aX v6 hV gK iJ b d e f g h i j k l m o p q r s t u v x y z A B C D E F G H aa J K L M N O P R S T az V W X Y Z mC mD mE mF mG mH mI:ai)(w:ab)(bD:w.cell? ⟨a9,0,none⟩=some (.slice (some ⟨bq,0,none⟩) n c))(cb:w.cell? ⟨ba,0,none⟩=some (.pointer (some ⟨aT,0,none⟩)))(b7:w.cell? ⟨aT,2,none⟩=some (.map (some aG))): di aj.prog [z7] (λa w'=>a.defers=[]/\a.tmps.getD 4 I=.slice (some ⟨bq,0,none⟩) n c/\a.tmps.getD 5 I=.map (some aG)/\a.tmps.getD 6 I=.nilIface/\Fr aD w w') ⟨#[bE,v1,v2,bA,v4,aX,v6,hV,gK,iJ,b,.pointer (some ⟨a9,0,none⟩),.pointer (some ⟨ba,0,none⟩),d,e,f,g,h,i,j,k,l,m,o,p,q,r,s,t,u,v,x,y,z,A,B,C,D,E,F,G,H,aa,J,K,L,M,N,O,P,R,S,T,az,V,W,X,Y,Z,mC,mD,mE,mF,mG,mH,mI],[]⟩ w:=by
 generalize sK:(λ(a:Act)(w':ab)=>_)=Q;have PK:=ae sK;clear sK;simp only[z7,Tryz.f29,e2,dD,aW];rw[di];go_quiet (fail)
 refine⟨rfl,?_⟩;rw[di,<-PK.o];exact⟨rfl,ag,ag,ag,(Fr.refl _ _).drewN _⟩
end Go.Proofs.YtlcdgbhigfgehabGreatDoor
namespace Go.Proofs.YtlcdgbhigfgehabGreatDoor
open Go Go.RowKit Go.Ren

def Zw{P:bF}{w:ab}{g:Nat}{T:TypeId}{xs:bJ}(h:Own w g T xs):∀(n i:Nat)(a:aQ)(es:bI),i+n<=xs.length->∃bg,(loadCellsFrom ⟨g,0,none⟩ i n a).runT P w es=(.ok (a++ ((xs.drop i).take n).toArray) w,bg)/\∀e∈bg,e∈es\/∃o,e=⟨.cell ⟨g,o,none⟩,false,false⟩
 |0,i,a,es,_=>⟨es,by show(Sem.pure a).runT P w es=_;simp only[Sem.runT];simp,λe b=>.inl b⟩
 |n+1,i,a,es,af=>by
  have c:i<xs.length:=U;have d:w.cell? ⟨g,i,none⟩=some xs[i]:=h.cell (fb _);obtain⟨bg,f,j⟩:=Zw h n (i+1) (a.push xs[i]) (es.push ⟨.cell ⟨g,i,none⟩,false,false⟩) U;refine⟨bg,?_,λe b=> ?_⟩
  .have k:(⟨g,0,none⟩:Addr).add i=⟨g,i,none⟩:=(by unfold Addr.add;split<;>simp_all);simp only[loadCellsFrom,k];show(Sem.bind (Sem.load .plain ⟨g,i,none⟩ .pure) _).runT P w es=_
   simp only[Sem.bind,Sem.runT,d];rw[show((Mode.plain==Mode.atomic):Bool)=false from rfl,f,qW c,List.take_succ_cons];simp
  .rcases j e b with q|q
   .rcases Array.mem_push.1 q with q|rfl
    .exact .inl q
    .exact .inr ⟨i,rfl⟩
   .exact .inr q
def ar7{w:ab}{g:Nat}{xs:bJ}(h:Own w g 50 xs)(j:xs.length=15)(es:bI):∃bg,(loadVar 50 ⟨g,0,none⟩).runT Tryz.prog w es=(.ok (.agg xs.toArray) w,bg)/\∀e∈bg,e∈es\/∃o,e=⟨.cell ⟨g,o,none⟩,false,false⟩:=by
 have⟨bg,a,b⟩:=Zw (P:=Tryz.prog) h 15 0 #[] es U;refine⟨bg,?_,b⟩;have c:(isAgg 50).runT Tryz.prog w es=(.ok true w,es):=by
  unfold isAgg underlying Go.program;simp only[Bind.bind,Sem.bind,Sem.runT];rw[show Tryz.prog.underlying 50=some (.array 15 3)from Tryz.underlying50];rfl
 have d:(Go.sizeOf 50).runT Tryz.prog w es=(.ok 15 w,es):=by
  have af:∃i,Tryz.prog.info? 50=some i/\i.size=15:=by
   have:(Tryz.prog.info? 50).map (λi=>i.size)=some 15:=ah;cases b9:Tryz.prog.info? 50 with
   |none=>rw[b9]at this;cases this
   |some i=>rw[b9]at this;exact⟨i,rfl,by simpa using this⟩
  obtain⟨i,af,f⟩:=af;unfold Go.sizeOf typeInfo Go.program;simp only[Bind.bind,Sem.bind,Sem.runT];rw[af];simp only[Functor.map,Sem.bind,Pure.pure,Sem.runT,f]
 have e:xs=(List.drop 0 xs).take 15:=(by rw[A4,iG U]);unfold loadVar;show(Sem.bind (isAgg 50) _).runT _ _ _=_
 rw[hx,c];simp only[dd];show(Sem.bind (Go.sizeOf 50) _).runT _ _ _=_
 rw[hx,d];show(Sem.bind (loadCells ⟨g,0,none⟩ 15) _).runT _ _ _=_
 unfold loadCells;rw[hx,a];simp only[Pure.pure,Sem.runT];rw[<-e];simp
def ar8{F:Func}(h:F.results= #[.tmp 4,.tmp 5,.cell 6 50,.tmp 7]){T:aQ}{cA cn b:ai}{a0:Nat}{xs:bJ}{w:ab}(c:T.getD 4 I=cA)(d:T.getD 5 I=cn)(f:T.getD 6 I=.pointer (some ⟨a0,0,none⟩))(g:T.getD 7 I=b)(ap:Own w a0 50 xs)(i:xs.length=15): ∃es,(results F T).runT Tryz.prog w #[]=(.ok (.tuple #[cA,cn,.agg xs.toArray,b]) w,es)/\∀e∈es,∃o,e=⟨.cell ⟨a0,o,none⟩,false,false⟩:=by
 have⟨bg,j,k⟩:=ar7 ap i #[];refine⟨bg,?_,λe l=>(k e l).resolve_left (xA _)⟩;have ay:results F T=Sem.bind (loadVar 50 ⟨a0,0,none⟩) λa=>pure (.tuple #[cA,cn,a,b]):=by
  simp only[results,h];simp only[nM]at c d f g;simp[c,d,f,g,asAddr];rfl
 rw[ay,hx,j];rfl
end Go.Proofs.YtlcdgbhigfgehabGreatDoor
