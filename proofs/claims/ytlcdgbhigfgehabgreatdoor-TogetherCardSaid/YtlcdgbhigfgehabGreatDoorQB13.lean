import Derived.Test.YtlcdgbhigfgehabGreatDoorQB06
import Derived.Test.YtlcdgbhigfgehabGreatDoorQB07
import Derived.RangeFuncBound
import Derived.RangeFuncCalls
import Derived.RangeFuncLeaves
import Derived.Shelf.Abstract
import Derived.Shelf.RegionOpen
import Derived.OwnWalkIn
import Derived.TacticsInMore
import Derived.LoopNIn
import Derived.LoopIn
import Derived.OrdersIn
import Derived.TacticsIn
import Derived.OrdersHeld
import Derived.Deep.RegionHeld
import Derived.DeepKeys4
set_option linter.all false
set_option maxRecDepth 100000
set_option maxHeartbeats 16000000
namespace Go.Proofs.YtlcdgbhigfgehabGreatDoor
open Go.RowKit Go.Shelf
attribute [local go_sem] Oper.semAt_some

def nU(n blk i:Nat):Nat:=min blk (n - i*blk)
def sn(v:ai)(n blk i:Nat):ai:=match v with
 |.slice (some ⟨b,off,_⟩) _ _=>.slice (some ⟨b,off+i*blk,none⟩) (nU n blk i) (nU n blk i)
 |_=>.slice none 0 0
def adM{w:ab}{v:ai}{l:ar}(h:bH w v l)(blk i:Nat)(c:0<blk)(af:i<b6 l.length blk):bH w (sn v l.length blk i) ((l.drop (i*blk)).take blk):=by
 have a:=(rP l.length blk i c).1 af;have d:=h;rcases h with⟨rfl,rfl⟩|⟨b,f,cap,g,j,rfl,k,m,n,o⟩
 .simp at a
 .have:=d.part (i*blk) (i*blk+nU l.length blk i) (nU l.length blk i) U (by unfold nU;omega) U (by unfold nU;omega);rw[Ej]at this;have e:(l.drop (i*blk)).take (nU l.length blk i)=(l.drop (i*blk)).take blk:=(by rw[List.take_eq_take_iff];simp[nU]);rw[e]at this;exact this
def kx(D:Nat)(W cH:ab):Prop:=∀k,k=D\/k=D+1->cH.heap[k]? =W.heap[k]?
def SK{D:Nat}{A B C:ab}(h:kx D A B)(k:kx D B C):kx D A C:=λi af=>(k i af).trans (h i af)
def adN{D:Nat}{w:ab}(b:D+1<w.heap.size)(W:ab)(l:Nat)(o a:Obj)(c:w.heap.size<=l)(_:W.heap[l]? =some o)(_:o.isCells=false)(_:o.isWalk=false):kx D W (W.putObj l a):=λk hk=>World.putObj_heap_other U
def kx.Jf{D:Nat}{S:Nat->Prop}{W cH:ab}(h:Fr S W cH)(a:D+1<W.heap.size)(b:¬S D)(c:¬S (D+1)):kx D W cH:=by
 rintro k(rfl|rfl)
 .exact h.block _ U b
 .exact h.block _ a c
def kx.cell0{D:Nat}{W cH:ab}{v:ai}(h:kx D W cH)(a:W.cell? ⟨D,0,none⟩=some v):cH.cell? ⟨D,0,none⟩=some v:=by rw[SL (h D (.inl rfl))];exact a
def kx.cell1{D:Nat}{W cH:ab}{v:ai}(h:kx D W cH)(a:W.cell? ⟨D+1,0,none⟩=some v):cH.cell? ⟨D+1,0,none⟩=some v:=by rw[SL (h (D+1) (.inr rfl))];exact a
def nV(jK k:Nat):List (Fin jK):=(List.finRange jK).take k
def adO(a k:Nat)(h:k<a):nV a (k+1)=nV a k++ [⟨k,h⟩]:=by
 unfold nV;rw[lV (by simpa using h)];simp
def adP(a k:Nat)(h:k<=a):(nV a k).length=k:=by simp[nV];omega
def adQ(a:Nat):nV a a=List.finRange a:=by unfold nV;rw[iG ag]
def adR(n:Nat)(T:1<=n)(z D b c cap blk a:Nat)(A:0<blk)(y:blk<=64)(az:a<=100000)(aa:a<=cap)(J u:List (Fin (b6 a blk))->ab->Prop)(K:∀pre x W,J pre W->pre.length<b6 a blk->YieldAt Fence.wide (n - 1) aj.prog z #[.int .i64 (x.1:Int),sn (.slice (some ⟨b,c,none⟩) a cap) a blk x.1] W λe cH=>(e=.returned (.bool true)/\J (pre++ [x]) cH/\kx D W cH)\/(e=.returned (.bool false)/\u (pre++ [x]) cH))(W:ab)(L:W.cell? ⟨D,0,none⟩=some (.slice (some ⟨b,c,none⟩) a cap))(m:W.cell? ⟨D+1,0,none⟩=some (.int .i64 blk))(M:J [] W): CallsIn Fence.wide n aj.prog 157 #[.func (.yield z) #[] #[],.pointer (some ⟨D+1,0,none⟩),.pointer (some ⟨D,0,none⟩)] W λe cH=>(∃v,e=.returned v)/\((∃B,B=List.finRange (b6 a blk)/\J B cH)\/(∃pre,(∃k,k<=b6 a blk/\pre=nV _ k)/\u pre cH)):=by
 refine callsIn_of_wp aj.func157 rfl trivial ?_ rfl;simp only[Tryz.ntmps157,ub,hJ,oW,Nat.reduceAdd,Nat.reduceSub,Fg,Fh,Fi,Fj,mV,oa];gi_wp2
 gi_loopw [4] (λi wr=>∃k:Nat,k<=b6 a blk/\i=.int .i64 k/\J (nV _ k) wr/\kx D W wr) (λi _=>b6 a blk - (intOf i).toNat)
 case atStart=>exact⟨0,dl _,rfl,M,λ_ _=>rfl⟩
 case round=>
  obtain⟨k,hk,rfl,o,p⟩:=hrel;have V:=p.cell0 L;have X:=p.cell1 m;have q:=tu a blk A;have N:k<=100000:=U;have Y:(0:Int)<=(k:Int)* (blk:Int):=(by exact_mod_cast dl (k*blk));have Z:(k:Int)* (blk:Int)<=10000000:=by
   have:k*blk<=100000*64:=AS U y;rw[<-Int.natCast_mul];omega
  by_cases d:k<b6 a blk
  .have O:=(rP a blk k A).1 d;have P:(k:Int)* (blk:Int)< (a:Int):=(by exact_mod_cast O);have⟨fn,C,w,E,F,G⟩:=K _ ⟨k,d⟩ wr o (by rw[adP _ _ hk];exact d);have AX:(0:Int)<=((k:Int)+1)* (blk:Int):=(by rw[Int.add_mul];omega);have JA:((k:Int)+1)* (blk:Int)<=20000000:=(by rw[Int.add_mul];omega);have auE:(k:Int)* (blk:Int)< ((k:Int)+1)* (blk:Int):=(by rw[Int.add_mul];omega);clear q;have t:∀e l,((e=Ending.returned (.bool true)/\J (nV _ k++ [⟨k,d⟩]) l/\kx D wr l)\/(e=.returned (.bool false)/\u (nV _ k++ [⟨k,d⟩]) l))->(e=Ending.returned (.bool true)/\J (nV _ (k+1)) l/\kx D W l)\/(e=.returned (.bool false)/\u (nV _ (k+1)) l):=by
    rw[adO _ _ d];rintro e l(⟨m,Q,R⟩|h)
    .exact .inl ⟨m,Q,SK p R⟩
    .exact .inr h
   have H:=ae (G.mono t);clear G t;by_cases f:((k:Int)+1)* (blk:Int)<=(a:Int)
   .have g:sn (.slice (some ⟨b,c,none⟩) a cap) a blk k=.slice (some ⟨b,c+k*blk,none⟩) ((k+1)*blk - k*blk) ((k+1)*blk - k*blk):=by
     have m:(k+1)*blk<=a:=(by rw[<-Int.ofNat_le,Int.natCast_mul];exact f);rw[fJ,ob]at m;simp only[sn,nU,fJ,ob,Ej];rw[Nat.min_eq_left U]
    rw[g]at F;clear g;gi_wp2
    refine H.o.mono ?_;rintro e l(⟨rfl,r,s⟩|⟨rfl,j⟩)
    .gi_wp2
     go_roundw
     case rel=>exact⟨k+1,U,ag,r,s⟩
     case measure=>simp[intOf];omega
    .gi_wp2
     refine J8 (J9 rfl _ _ _) rfl ?_;exact⟨⟨_,rfl⟩,.inr ⟨_,⟨k+1,U,rfl⟩,j⟩⟩
   .have g:sn (.slice (some ⟨b,c,none⟩) a cap) a blk k=.slice (some ⟨b,c+k*blk,none⟩) (a - k*blk) (a - k*blk):=by
     have m:¬(k+1)*blk<=a:=(by rw[<-Int.ofNat_le,Int.natCast_mul];exact f);rw[fJ,ob]at m;simp only[sn,nU];rw[Nat.min_eq_right U]
    rw[g]at F;clear g;gi_wp2
    refine H.o.mono ?_;rintro e l(⟨rfl,r,s⟩|⟨rfl,j⟩)
    .gi_wp2
     go_roundw
     case rel=>exact⟨k+1,U,ag,r,s⟩
     case measure=>simp[intOf];omega
    .gi_wp2
     refine J8 (J9 rfl _ _ _) rfl ?_;exact⟨⟨_,rfl⟩,.inr ⟨_,⟨k+1,U,rfl⟩,j⟩⟩
  .obtain rfl:k=b6 a blk:=U;have P:(a:Int)<=(b6 a blk:Int)* (blk:Int):=(by exact_mod_cast q.1);have S:=ae o;clear o q;gi_wp2
   go_end0
   exact⟨⟨_,rfl⟩,.inl ⟨_,rfl,by rw[<-adQ];exact S.o⟩⟩
def adS(n:Nat)(b D blk:Nat)(J:List (Fin (b6 0 blk))->ab->Prop)(W:ab)(d:W.cell? ⟨D,0,none⟩=some (.slice none 0 0))(f:W.cell? ⟨D+1,0,none⟩=some (.int .i64 blk))(c:J [] W): CallsIn Fence.wide n aj.prog 157 #[.func (.yield b) #[] #[],.pointer (some ⟨D+1,0,none⟩),.pointer (some ⟨D,0,none⟩)] W λe cH=>(∃v,e=.returned v)/\J [] cH:=by
 refine callsIn_of_wp aj.func157 rfl trivial ?_ rfl;simp only[Tryz.ntmps157,ub,hJ,oW,Nat.reduceAdd,Nat.reduceSub,Fg,Fh,Fi,Fj,mV,oa];gi_wp2
 gi_loopw [4] (λi wr=>i=.int .i64 0/\J [] wr/\wr=W) (λ_ _=>0)
 case atStart=>exact⟨rfl,c,rfl⟩
 case round=>
  obtain⟨rfl,a,rfl⟩:=hrel;gi_wp2
  go_end0
  exact⟨⟨_,rfl⟩,a⟩
def adT(n:Nat)(a:Option Addr)(b cap:Nat)(blk:Int)(w:ab): CallsIn Fence.wide n aj.prog 148 #[.slice a b cap,.int .i64 blk] w λe w'=>
   e=.returned (.func (.func 157) #[] #[.pointer (some ⟨w.heap.size+1,0,none⟩),.pointer (some ⟨w.heap.size,0,none⟩)])/\
   w'=(w.alloc (.cells #[.slice a b cap] 25)).alloc (.cells #[.int .i64 blk] 3):=by
 refine callsIn_of_wp aj.func148 rfl trivial ?_ rfl;simp only[Tryz.ntmps148,ub,hJ,oW,Nat.reduceAdd,Nat.reduceSub,Fg,Fh,Fi,Fj,mV,oa];gi_wp2
 go_ret;exact⟨rfl,rfl⟩
def adU(n:Nat)(o:1<=n)(D blk:Nat)(v:ai)(l:ar)(i:0<blk)(f:blk<=64)(q:l.length<=100000)(w:ab)(r:w.cell? ⟨D,0,none⟩=some v)(s:w.cell? ⟨D+1,0,none⟩=some (.int .i64 blk))(t:D+1<w.heap.size)(u:bH w v l): SeqStopsK Fence.wide n aj.prog 157 #[.pointer (some ⟨D+1,0,none⟩),.pointer (some ⟨D,0,none⟩)] (λx:Fin (b6 l.length blk)=> #[Value.int .i64 (x.1:Int),sn v l.length blk x.1]) (kx D) (λy=>y=List.finRange (b6 l.length blk)) (λpre=>∃k,k<=b6 l.length blk/\pre=nV _ k) (b6 l.length blk) w:=λj J z W m _ _ A d=>by
 have a:=(m.cell (p:=⟨D,0,none⟩) (show D<w.heap.size by omega)).trans r;have c:=(m.cell (p:=⟨D+1,0,none⟩) t).trans s;rcases u.cases with⟨rfl,rfl⟩|⟨b,g,cap,rfl,h,B,E⟩
 .refine(adS n j D blk J W a c d).mono λe cH ⟨C,d⟩=>⟨C,.inl ⟨[],?_,d⟩⟩;have:b6 ([]:ar).length blk=0:=by
   have:=(rP 0 blk 0 i).1;simp at this⊢;omega
  exact(tv.1 (by rw[List.length_finRange];exact this)).symm
 .exact adR n o j D b g cap blk l.length i f q h J z A W a c d
end Go.Proofs.YtlcdgbhigfgehabGreatDoor
namespace Go.Proofs.YtlcdgbhigfgehabGreatDoor
open Go.RowKit
section
variable{F:Fence}{n:Nat}{P:Program}{ops:Array Oper}{Q:Exit->Act->World->Prop}{md:Region.Mode}
def adV(l:Nat)(o:Oper)(a:Act)(K:Act->ab->Prop)(r:Result Next)(h:o.uponIn F n P a K Q r):o.uponIn (F.inRound l) n P a K Q r:=by
 cases r with
 |ok x w'=>cases x<;>exact h
 |halt x w'=>cases x<;>exact h
def adW(l:Nat)(b:F.round=none)(d:∀(i:Nat)(o:Oper),ops[i]? =some o->∀c,o.op≠.defer c){i:Nat}{K:Act->ab->Prop}{a:Act}{w:ab}(h:wpOpIn F n P ops Q i K a w):wpOpIn (F.inRound l) n P ops Q i K a w:=by
 unfold wpOpIn at *;split
 .rename_i af;simpa[af]using h
 .rename_i o ap;simp only[ap]at h;split
  .rename_i e;simp only[e,dd]at h;refine⟨h.1,adV l o a K _ ?_⟩;have f:=h.2;rw[b,Oper.semAt_none]at f;rw[show(F.inRound l).round=some l from rfl,Oper.semAt_some l a.eval o (d i o ap)];exact f
  .rename_i e;simp only[e]at h;exact h
def adX(l:Nat)(e:F.round=none)(f:∀(i:Nat)(o:Oper),ops[i]? =some o->∀c,o.op≠.defer c): ∀(d:Nat)(b:Array Bool)(a:Act)(w:ab),wpAnyIn F n P md ops Q d b a w->wpAnyIn (F.inRound l) n P md ops Q d b a w:=by
 intro d;induction d with
 |zero=>intro b a w h;exact h
 |succ d g=>
  intro b a w h;exact⟨h.1,λi af=>adW l e f (wpOpIn_mono (λa w=>g _ a w) (h.2 i af))⟩
def Fl(ops:dn):Bool:=ops.all λo=>match o.op with| .defer _=>false|_=>true
def adY(h:Fl ops=true):∀(i:Nat)(o:Oper),ops[i]? =some o->∀c,o.op≠.defer c:=by
 intro i o af c b;unfold Fl at h;rw[Array.all_eq_true]at h;obtain⟨a,rfl⟩:=bQ.1 af;have:=h i a;rw[b]at this;cases this
def adZ(l:Nat){d:Nat}{a:Act}{w:ab}(b:F.round=none)(e:P.follows .mixedOrders=true)(c:Fl ops=true)(h:wpAnyIn F n P .any ops Q ops.size (Array.replicate ops.size false) a w.drew):(Code.region d ops true).wpIn (F.inRound l) n P Q a w:=wpIn_region_any e (adX l b (adY c) _ _ _ _ h)
def ad0(k:¬LetsOut Q)(o:Oper)(a:Act)(K:Act->ab->Prop)(r:Result Next)(h:o.upon P a K Q r):o.uponIn Fence.wide n P a K Q r:=by
 cases r with
 |ok x w'=>
  cases x with
  |enter f args=>
   refine⟨λh=>by simp[Fence.wide]at h,callsIn_wide.2 (Calls.mono h λe i j=> ?_)⟩;cases e<;>exact j
  |row row args=>
   refine⟨λh=>by simp[Fence.wide]at h,λc cs _=> ?_⟩;have⟨v,w2,r,s⟩:=h c cs;exact⟨v,w2,r,stepsIn_wide.2 s⟩
  |round l f d b g=>exact(h:False).elim
  |_=>exact h
 |halt x w'=>cases x<;>exact h
def ad1(c:¬LetsOut Q){i:Nat}{K:Act->ab->Prop}{a:Act}{w:ab}(h:wpOp P ops Q i K a w):wpOpIn Fence.wide n P ops Q i K a w:=by
 unfold wpOp at h;unfold wpOpIn;split
 .rename_i af;simpa[af]using h
 .rename_i o ap;simp only[ap]at h;split
  .rename_i b;simp only[b,dd]at h;rcases h with h|h
   .exact⟨λ_ _=>trivial,ad0 c o a K _ h⟩
   .exact absurd h.2 c
  .rename_i b;simp only[b]at h;exact⟨λ_ _=>trivial,h⟩
def ad2(d:¬LetsOut Q):∀(c:Nat)(b:Array Bool)(a:Act)(w:ab),wpAny P md ops Q c b a w->wpAnyIn Fence.wide n P md ops Q c b a w:=by
 intro c;induction c with
 |zero=>intro b a w h;exact h
 |succ c e=>
  intro b a w h;exact⟨h.1,λi af=>wpOpIn_mono (λa w=>e _ a w) (ad1 d (h.2 i af))⟩
def SN(S:ab->Prop)(l:Nat){c:Nat}{a:Act}{w:ab}(d:¬LetsOut Q)(e:P.follows .mixedOrders=true)(b:Fl ops=true)(f:S w.drew)(h:wpAnyH P .any ops Q S ops.size (Array.replicate ops.size false) a w.drew):(Code.region c ops true).wpIn (Fence.wide.inRound l) n P Q a w:=adZ l rfl e b (ad2 d _ _ _ _ (wpAny_of_held _ _ _ _ h))
end
end Go.Proofs.YtlcdgbhigfgehabGreatDoor
namespace Go.Proofs.YtlcdgbhigfgehabGreatDoor
open Go.RowKit Go.Shelf
attribute [local go_sem] Oper.semAt_some

def aea(aeb:Array TypeId)(Bw:TypeId)(args:aQ):Sem ai:=Builtin.append_ aeb Bw args
def Reads.drew{w:ab}{x:ai}{m:Nat}{news:bJ}(h:Reads w x m news):Reads w.drew x m news:=h
def Kj(a:Array TypeId)(b:TypeId)(args:aQ):Builtin.append_ a b args=aea a b args:=rfl
attribute [local go_sem ↓] Kj
def c5(l:ar)(blk i:Nat):ar:=(l.drop (i*blk)).take blk
end Go.Proofs.YtlcdgbhigfgehabGreatDoor
namespace Go.Proofs.YtlcdgbhigfgehabGreatDoor
open Go.RowKit Go.Shelf Go.ChangeMaps Go.Maps Go.WideMaps Go.WideElems
attribute [local go_sem] Oper.semAt_some

def laidOut:laidOutB aj.prog=true:=ah
def yr:KeyLaw aj.prog 264:=deep_law_laid laidOut (m:=3) U hR ah ah
def SZ:Keyed aj.prog 92:=int_keyed aj.underlying92
def pa(wk:Nat)(eZ:Int):ai:=.agg #[.int .u32 wk,.int .u64 eZ]
def S0(b:Nat)(a:Int)(k:b<4294967296)(l:0<=a)(n:a<18446744073709551616):∃h,keyOf aj.prog 264 (pa b a)=some h:=by
 have i:(Lit.int .u32 b).wf=true:=(by simp[Lit.wf,IntKind.min,IntKind.max,IntKind.signed,IntKind.bits];omega);have hd:(Lit.int .u64 a).wf=true:=(by simp[Lit.wf,IntKind.min,IntKind.max,IntKind.signed,IntKind.bits];omega);refine⟨.string (keyBytes [.int .u32 b,.int .u64 a]),?_⟩;have c:aj.prog.keyType 264=true:=ah;have g:aj.prog.cellsOf 264=2:=ah;have d:aj.prog.cellsOf 92=1:=ah;have e:aj.prog.cellsOf 112=1:=ah;have f:∃m,aj.prog.types.size=m+1:=⟨aj.prog.types.size - 1,ah⟩;obtain⟨m,j⟩:=f;unfold keyOf;simp only[aj.underlying264];rw[aV (by simp[c,Value.formed,aj.underlying264,g,pa]),j];unfold Program.keyLits;simp only[aj.underlying264,Value.cells,pa];rw[aV (by simp[g])];simp[Program.keyLits,aj.underlying92,aj.underlying112,d,e,i,hd]
def S1(a:Nat)(b:a<4294967296):keyOf aj.prog 92 (.int .u32 a)=some (.int .u32 a):=keyOf_int_mk aj.underlying92 (by simp[Lit.wf,IntKind.min,IntKind.max,IntKind.signed,IntKind.bits];omega)
def aec{c a:Nat}{d b:Int}(h:pa c d=pa a b):c=a/\d=b:=by
 simp[pa]at h;exact⟨U,h.2⟩
def aed:(aj.prog.info? 3).map (λi=>(i.zero,i.size,i.bytes))=some (some (.int .i64 0),1,8):=ah
def aee:gZ aj.prog 55 3 1 8:=gZ.mk aj.underlying55 aed rfl
def Ft(w:ab):(zeroValue 55).run aj.prog w=.ok (.slice none 0 0) w:=ah
def aef(w:ab):(zeroValue 3).run aj.prog w=.ok (.int .i64 0) w:=ah
def ss(l:cw):bJ:=l.map λi:Nat=>Value.int .i64 (i:Int)
@[simp] def auH(l:cw):(ss l).length=l.length:=by simp[ss]
def oB(f:ai->jO)(wk:Nat)(eZ:Int):ai:=(f (pa wk eZ)).getD (.slice none 0 0)
def iO(w:ab)(B aG n:Nat)(L:Nat->Int->cw):Prop:=∃f,fQ w aj.prog 264 aG n f/\aG<B/\(∀wk eZ,Vec w B 3 1 (oB f wk eZ) (L wk eZ).length (ss (L wk eZ)))/\∀wk eZ S2 S3,(wk≠S2\/eZ≠S3)->∀k,(oB f wk eZ).ownBlock=some k->(oB f S2 S3).ownBlock≠some k
def iO.made(w:ab)(B:Nat)(a:w.heap.size<B):iO (w.alloc (.map #[] 0)) B w.heap.size 0 (λ_ _=> []):=⟨_,fQ.made w _ _,a,λ_ _=>(Vec.nil _ _ _ _:Vec _ _ _ _ (.slice none 0 0) 0 []),λ_ _ _ _ _ k hk=>by simp[oB,Value.ownBlock]at hk⟩
def iO.keep{w w1:ab}{B aG n:Nat}{L:Nat->Int->cw}{S:Nat->Prop}(h:iO w B aG n L)(k:Fr S w w1)(g:∀b,S b->b≠aG/\(b<B\/∃o:Obj,w.heap[b]? =some o/\o.isCells=false)):iO w1 B aG n L:=by
 obtain⟨f,j,l,c,m⟩:=h;refine⟨f,j.keep k (λa=>(g aG a).1 rfl),l,λd e=>(c d e).keep k (λb a p=> ?_),m⟩;rcases(g b p).2 with q|⟨o,ap,i⟩
 .have:=((c d e).lt b a).1;omega
 .rw[(c d e).cells a o ap]at i;cases i
def iO.lt{w:ab}{B aG n:Nat}{L:Nat->Int->cw}(h:iO w B aG n L):aG<w.heap.size:=h.choose_spec.1.lt
def Bx(L:Nat->Int->cw)(wk:Nat)(eZ:Int)(i:Nat):Nat->Int->cw:=λa b=>if a=wk/\b=eZ then L a b++ [i]else L a b
def iO.entry{w:ab}{B aG n:Nat}{L:Nat->Int->cw}(h:iO w B aG n L)(cJ:n<maxLen)(d:Nat)(l:Int)(bD:d<4294967296)(cb:0<=l)(b7:l<18446744073709551616)(c8:B<=w.heap.size): ∃v az w1,(Instr.mapEntry 257 (.map (some aG)) (pa d l)).run aj.prog w=.ok (.tuple #[v,goInt az]) w1/\Fr (λk=>k=aG) w w1/\w1.heap.size=w.heap.size/\Vec w1 B 3 1 v (L d l).length (ss (L d l))/\v.ownBlock≠some aG/\∀r v' i,Fr (λk=>v.ownBlock=some k) w1 r->Vec r B 3 1 v' ((L d l).length+1) (ss (L d l)++ [.int .i64 i])->(v'.ownBlock=v.ownBlock\/∃g,v'.ownBlock=some g/\w1.heap.size<=g)->∃V,(Instr.entryStore 257 (.map (some aG)) (goInt az) v').run aj.prog r=.ok () V/\Fr (λk=>k=aG) r V/\V.heap.size=r.heap.size/\iO V B aG (n+1) (Bx L d l i):=by
 obtain⟨f,dC,dB,G,ky⟩:=h;obtain⟨tF,hk⟩:=S0 d l bD cb b7;have N:=dC;obtain⟨D,⟨es,clock,A,F,M,nK⟩,p5⟩:=dC;obtain⟨bE,az,es1,q,r1,r2,r3⟩:=WideElems.entry_then_store yr aj.underlying257 Ft A F hk;have O:aG<w.heap.size:=(bQ.1 A).1;have s:Fr (λk=>k=aG) w (setBlock w aG (.map es1 q)):=⟨rfl,rfl,rfl,by simp[setBlock],λi _ af=>heap_setBlock_other A _ af⟩;have Fq:bE=oB f d l:=by
  have bO:=N.look (By yr) aj.underlying257 (Ft w) hk;rcases Maps.fit_look false (By yr) aj.underlying257 (Ft w) A F hk with⟨g1,W,X⟩|⟨eP,y,g1,W,X,ig,ug,Bz⟩
  .rw[bO]at g1;simp only[ea,cY,Result.ok.injEq,kl]at g1;rcases r2 with⟨ay,H,C,-⟩|⟨-,C⟩
   .exact absurd C (W ay H)
   .rw[C];exact g1.symm
  .rw[bO]at X;simp only[ea,cY,Result.ok.injEq,kl]at X;rcases r2 with⟨ay,H,C,aeg⟩|⟨C,-⟩
   .have he:eP=ay:=by
     have b8:=Maps.fit_apart (By yr) F;rw[BA,we]at b8;obtain⟨i,af,rfl⟩:=AH g1;obtain⟨j,en,rfl⟩:=AH H;have P:∀x∈es.toList,x.key=pa d l->(rg aj.prog 264 EB x).1=tF:=by
      intro x cD aeh;obtain⟨y,dP⟩:=F.reads x cD;have o9:=rd_key dP;rw[rg_of dP];rw[aeh,hk]at o9;exact(kz o9).symm
     have ay:=P _ g1 W;have aF:=P _ H C;rcases ys i j with h|h|h
     .exact absurd (ay.trans aF.symm) (b8 i j af en h)
     .subst h;rfl
     .exact absurd (aF.trans ay.symm) (b8 j i en af h)
    rw[aeg,<-he];exact X.symm
   .exact absurd W (C eP g1)
 subst Fq;refine⟨_,az,_,r1,s,by simp[setBlock],(G d l).keep s (λb t M=>by have:=((G d l).lt b t).1;omega),λt=>by have:=((G d l).lt _ t).1;omega,?_⟩;intro r v' i J Q R;have K:r.heap[aG]? =some (.map es1 q):=by
  rw[J.block aG (by simp[setBlock];exact O) (λt=>by have:=((G d l).lt _ t).1;omega)];exact heap_setBlock_same A _
 obtain⟨bg,m,s1,s2⟩:=r3 r v' K;obtain⟨w',t1,t2,t3⟩:=N.put (By yr) aj.underlying257 cJ hk v';rw[s2]at t1;cases t1;have u:Fr (λk=>k=aG) r (setBlock r aG (.map bg m)):=⟨rfl,rfl,rfl,by simp[setBlock],λi _ af=>heap_setBlock_other K _ af⟩;have S4:w.heap.size<=r.heap.size:=(by have:=J.size;simp[setBlock]at this;exact this);have z:∀a b,oB (putAt f (pa d l) v') a b=if a=d/\b=l then v' else oB f a b:=by
  intro a b;by_cases c:a=d/\b=l
  .obtain⟨rfl,rfl⟩:=c;simp[oB,AF]
  .rw[aC c];unfold oB;rw[AG _ _ (λe=>c (aec e))]
 have S:∀a b,¬(a=d/\b=l)->Vec (setBlock r aG (.map bg m)) B 3 1 (oB f a b) (L a b).length (ss (L a b)):=by
  intro a b c;have E:∀k,(oB f a b).ownBlock=some k->(oB f d l).ownBlock≠some k:=ky a b d l (by
   by_cases T:a=d
   .exact .inr (λA=>c ⟨T,A⟩)
   .exact .inl T)
  exact(((G a b).keep s (λk hk M=>by have:=((G a b).lt k hk).1;omega)).keep J (λk hk M=>E k hk M)).keep u (λk hk M=>by have:=((G a b).lt k hk).1;omega)
 refine⟨_,s1,u,by simp[setBlock],putAt f (pa d l) v',?_,dB,?_,?_⟩
 .obtain⟨wh,⟨qa,Y,oA,Bm⟩,aei⟩:=t2;rw[heap_setBlock_same A]at oA;cases oA;exact⟨wh,⟨bg,m,heap_setBlock_same K _,Bm⟩,aei⟩
 .intro a b;rw[z];by_cases c:a=d/\b=l
  .obtain⟨rfl,rfl⟩:=c;simp only[Bx,and_self,dd,cr,hJ,oW];have:=Q.keep u (λk hk M=>by have:=(Q.lt k hk).1;omega);simpa[ss]using this
  .rw[aC c];simp only[Bx,aC c];exact S a b c
 .intro a b a' Z E k;rw[z,z];have aa:∀a b k,¬(a=d/\b=l)->(oB f a b).ownBlock=some k->v'.ownBlock≠some k:=by
   intro a b k c hk p;rcases R with H|⟨g,H,C⟩
   .refine ky a b d l ?_ k hk (H▸p);by_cases T:a=d
    .exact .inr (λA=>c ⟨T,A⟩)
    .exact .inl T
   .rw[H]at p;cases p;have:=((G a b).lt k hk).2;simp[setBlock]at C;omega
  by_cases c:a=d/\b=l
  .rw[aV c];have o:¬(a'=d/\Z=l):=by
    rintro⟨rfl,rfl⟩;rcases E with h|h
    .exact h c.1
    .exact h c.2
   rw[aC o];intro hk p;exact aa a' Z k o p hk
  .rw[aC c];by_cases o:a'=d/\Z=l
   .rw[aV o];intro hk p;exact aa a b k c hk p
   .rw[aC o];exact ky a b a' Z E k
end Go.Proofs.YtlcdgbhigfgehabGreatDoor
namespace Go.Proofs.YtlcdgbhigfgehabGreatDoor
open Go.RowKit Go.Shelf Go.ChangeMaps Go.Maps Go.WideMaps
attribute [local go_sem] Oper.semAt_some
attribute [local go_sem ↓] Kj

def kA(w:ab)(mw n:Nat)(c:Nat->Nat):Prop:=∃f,fQ w aj.prog 92 mw n f/\∀wk:Nat,(f (.int .u32 wk)).getD (.int .i64 0)=.int .i64 (c wk)
def kA.made(w:ab):kA (w.alloc (.map #[] 0)) w.heap.size 0 (λ_=>0):=⟨_,fQ.made w _ _,λ_=>rfl⟩
def kA.keep{w w1:ab}{a n:Nat}{c:Nat->Nat}{S:Nat->Prop}(h:kA w a n c)(k:Fr S w w1)(b:¬S a):kA w1 a n c:=by
 obtain⟨f,d,e⟩:=h;exact⟨f,d.keep k b,e⟩
def kA.mono{w:ab}{a n b:Nat}{c:Nat->Nat}(h:kA w a n c)(d:n<=b):kA w a b c:=by
 obtain⟨f,e,g⟩:=h;exact⟨f,e.mono d,g⟩
def iO.mono{w:ab}{B aG n a:Nat}{L:Nat->Int->cw}(h:iO w B aG n L)(b:n<=a):iO w B aG a L:=by
 obtain⟨f,c,d⟩:=h;exact⟨f,c.mono b,d⟩
def kA.lt{w:ab}{a n:Nat}{c:Nat->Nat}(h:kA w a n c):a<w.heap.size:=h.choose_spec.1.lt
def kA.look{w:ab}{b n:Nat}{c:Nat->Nat}(h:kA w b n c)(a:Nat)(d:a<4294967296): (Instr.lookup 258 (.map (some b)) (.int .u32 a) false).run aj.prog w=.ok (.int .i64 (c a)) w:=by
 obtain⟨f,e,g⟩:=h;rw[e.look SZ aj.underlying258 (aef w) (S1 a d),g]
def kA.put{w:ab}{d n:Nat}{c:Nat->Nat}(h:kA w d n c)(i:n<maxLen)(b:Nat)(j:b<4294967296)(m:Nat)(x:Int)(l:x=m): ∃w',(Instr.mapUpdate 258 (.map (some d)) (.int .u32 b) (.int .i64 x)).run aj.prog w=.ok () w'/\kA w' d (n+1) (λa=>if a=b then m else c a)/\Fr (λk=>k=d) w w':=by
 subst l;obtain⟨f,o,p⟩:=h;have⟨w',q,r,s⟩:=o.put SZ aj.underlying258 i (S1 b j) (.int .i64 m);refine⟨w',q,⟨_,r,λa=> ?_⟩,s⟩;by_cases g:a=b
 .subst g;rw[AF];simp
 .rw[AG _ _ (λe=>g (by simp at e;omega)),p];simp[g]
def isWhole(b:ar)(blk i:Nat):Bool:=decide ((i+1)*blk<=b.length)
def g9(b:ar)(blk:Nat)(Kk:cw)(wk:Nat)(eZ:Int):cw:=Kk.filter λi=>isWhole b blk i && (decide (cS (c5 b blk i)=wk) && decide (cB (c5 b blk i)=eZ))
def jW(b:ar)(blk:Nat)(Kk:cw)(wk:Nat):Nat:=(Kk.filter λi=>isWhole b blk i && decide (cS (c5 b blk i)=wk)).length
def aej(b:ar)(blk:Nat)(a:cw)(i:Nat)(h:isWhole b blk i=false):g9 b blk (a++ [i])=g9 b blk a:=by funext wk eZ;simp[g9,h]
def aek(b:ar)(blk:Nat)(a:cw)(i:Nat)(h:isWhole b blk i=false):jW b blk (a++ [i])=jW b blk a:=by funext wk;simp[jW,h]
def ael(b:ar)(blk:Nat)(c:cw)(i:Nat)(h:isWhole b blk i=true):g9 b blk (c++ [i])=Bx (g9 b blk c) (cS (c5 b blk i)) (cB (c5 b blk i)) i:=by
 funext wk eZ;unfold Bx;by_cases a:wk=cS (c5 b blk i)/\eZ=cB (c5 b blk i)
 .rw[aV a];obtain⟨rfl,rfl⟩:=a;simp[g9,h]
 .rw[aC a];have:(decide (cS (c5 b blk i)=wk) && decide (cB (c5 b blk i)=eZ))=false:=by
   by_cases d:cS (c5 b blk i)=wk
   .by_cases e:cB (c5 b blk i)=eZ
    .exact absurd ⟨d.symm,e.symm⟩ a
    .simp[e]
   .simp[d]
  simp[g9,this]
def aem(b:ar)(blk:Nat)(c:cw)(i:Nat)(h:isWhole b blk i=true): jW b blk (c++ [i])=λa=>if a=cS (c5 b blk i)then jW b blk c (cS (c5 b blk i))+1 else jW b blk c a:=by
 funext wk;by_cases d:wk=cS (c5 b blk i)
 .subst d;simp[jW,h]
 .rw[aC d];have:decide (cS (c5 b blk i)=wk)=false:=(by simpa using λe=>d e.symm);simp[jW,this]
def S5(b:ar)(blk:Nat)(a:cw)(c:Nat)(d:Int):(g9 b blk a c d).length<=a.length:=Fu _ _
def S6(b:ar)(blk:Nat)(a:cw)(c:Nat):jW b blk a c<=a.length:=Fu _ _
def S7(l:ar)(blk i:Nat):(c5 l blk i).length=nU l.length blk i:=by simp[c5,nU]
def isWhole_len(b:ar)(blk i:Nat)(a:0<blk):isWhole b blk i=decide ((c5 b blk i).length=blk):=by
 unfold isWhole;rw[S7];unfold nU;rw[fJ,ob];congr 1;apply propext;omega
def S8(l:ar):0<=cB l/\cB l<18446744073709551616:=by
 rcases xR l with rfl|⟨a,c,rfl⟩
 .rw[ZZ];unfold IT;omega
 .rw[Aq,IU];unfold Ap;generalize bits _ _ _ _*_=x;simp[IntKind.wrap,IntKind.bits,IntKind.signed];omega
def iP{n:Nat}(pre:List (Fin n)):cw:=pre.map λi=>i.1
def Fv{n:Nat}(pre:List (Fin n))(x:Fin n):iP (pre++ [x])=iP pre++ [x.1]:=by simp[iP]
@[simp] def aen{n:Nat}(pre:List (Fin n)):(iP pre).length=pre.length:=by simp[iP]
def aeo(n:Nat):iP (List.finRange n)=List.range n:=by
 unfold iP;apply List.ext_getElem
 .simp
 .intro i a b;simp
def S9(l:ar)(blk aK:Nat)(aU:ab)(pre:List (Fin (b6 l.length blk)))(W:ab):Prop:=(iO W (aK+7) (aK+1) pre.length (g9 l blk (iP pre))/\kA W (aK+2) pre.length (jW l blk (iP pre)))/\Fr (λk=>k=aK+1\/k=aK+2) aU W
structure wi(w:ab)(B p:Nat)(v:ai)(b:ar)(blk:Nat):Prop where
 maps:∃aG mw n,Own w p 260 [v,.int .i64 blk,.map (some aG),.map (some mw)]/\iO w B aG n (g9 b blk (List.range (b6 b.length blk)))/\kA w mw n (jW b blk (List.range (b6 b.length blk)))
def m8{P:bF}{md:Region.Mode}{ops:dn}{Q:Exit->Act->ab->Prop}{S:ab->Prop}(i:Nat){e:Oper}{v:ai}{d:Nat}{b:Array Bool}{a a':Act}{w:ab}(h:wpAnyH P md ops Q S d (b.setIfInBounds i true) a' w)(af:ops[i]? =some e:=by rfl)(g:Region.noSelect ops=true:=by decide+kernel)(j:Region.free md ops b i=true:=by decide+kernel)(k:(Region.ready md ops b).contains i=true:=by decide+kernel)(l:YieldsIf P ops S e v a:=by(refine Or.inl ⟨eI,?_⟩;intro w f;obtain⟨p,q,r,s⟩:=f;go_simp;try with_reducible rfl))(m:∀c a w,Q (.panic c) (a.put e.dst v) w->Q (.panic c) a w:=by exact λ_ _ _ h=>h)(n:S w:=by assumption)(o:a.put e.dst v=a':=by((try simp only[Act.put,mg,mh,mi]);exact rfl)):wpAnyH P md ops Q S (d+1) b a w:=by subst o;exact wpAnyH_take af g j k m l n h
def aep(v:ai)(l:ar)(blk:Nat)(w:ab)(bP:bH w v l)(pX:1<=blk)(iI:blk<=64)(bO:l.length<=300): Calls aj.prog 121 #[v,.int .i64 blk] w λe w'=>∃B p,e=.returned (.pointer (some ⟨p,0,none⟩))/\w.heap.size<=p/\wi w' B p v l blk/\Fr aD w w':=by
 obtain⟨H,aa,rfl,bD,cb⟩:=bP.shape;have l5:=ae bP;have vO:=@run_makeMap aj.prog;clear bP;refine(callsIn_wide (n:=6)).1 ?_;refine callsIn_of_wp_marks aj.func121 rfl trivial ?_ rfl;simp only[Tryz.ntmps121,ub,hJ,oW,Nat.reduceAdd,Nat.reduceSub,Fg,Fh,Fi,Fj,mV,oa];gi_wp2_with (refine⟨trivial,?_⟩;gi_at_call 148;refine(adT _ _ _ _ _ _).mono ?_;rintro e w'⟨rfl,rfl⟩)
 obtain⟨aK,z⟩:∃aK,w.heap.size=aK:=⟨_,rfl⟩;rw[z];have R:Own (((w.alloc (.cells #[.int .i64 blk] 3)).alloc (.map #[] 0)).alloc (.map #[] 0)|>.alloc (.cells #[.slice H l.length aa,.int .i64 blk,.map (some (aK+1)),.map (some (aK+1+1))] 260)) (aK+1+1+1) 260 [.slice H l.length aa,.int .i64 blk,.map (some (aK+1)),.map (some (aK+1+1))]:=by
  have:=Own.alloc (((w.alloc (.cells #[.int .i64 blk] 3)).alloc (.map #[] 0)).alloc (.map #[] 0)) #[.slice H l.length aa,.int .i64 blk,.map (some (aK+1)),.map (some (aK+1+1))] 260;simpa[z]using this
 have Kl:Own (w.alloc (.cells #[.int .i64 blk] 3)) aK 3 [.int .i64 blk]:=by
  have:=Own.alloc w #[.int .i64 blk] 3;simpa[z]using this
 have ia:=iO.made (w.alloc (.cells #[.int .i64 blk] 3)) (aK+7) (by simp[z]);have iQ:=kA.made ((w.alloc (.cells #[.int .i64 blk] 3)).alloc (.map #[] 0));obtain⟨w1,vG⟩:∃w1,w.alloc (.cells #[.int .i64 blk] 3)=w1:=⟨_,rfl⟩;rw[vG]at R Kl ia iQ⊢;have fL:Fr aD w w1:=(by rw[<-vG];exact(Fr.refl _ _).alloc _);have ku:w1.heap.size=aK+1:=(by rw[<-vG];simp[z]);rw[ku]at ia;rw[World.size_alloc,ku]at iQ;obtain⟨w3,S⟩:∃w3,(w1.alloc (.map #[] 0)).alloc (.map #[] 0)=w3:=⟨_,rfl⟩;have Ta:iO w3 (aK+7) (aK+1) 0 (λ_ _=> []):=(by rw[<-S];exact ia.keep ((Fr.refl aD _).alloc _) (λ_ h=>h.elim));rw[S]at R iQ⊢;have yt:Fr aD w1 w3:=(by rw[<-S];exact((Fr.refl _ _).alloc _).alloc _);have yp:w3.heap.size=aK+3:=(by rw[<-S];simp[ku]);obtain⟨w4,Fw⟩:∃w4,w3.alloc (.cells #[.slice H l.length aa,.int .i64 blk,.map (some (aK+1)),.map (some (aK+1+1))] 260)=w4:=⟨_,rfl⟩;rw[Fw]at R⊢;have Km:Fr aD w3 w4:=(by rw[<-Fw];exact(Fr.refl _ _).alloc _);have Bq:w4.heap.size=aK+4:=(by rw[<-Fw];simp[yp]);have tP:=Own.alloc w4 #[.pointer (some ⟨aK+1+1+1,0,none⟩)] 231;have Kn:=Own.alloc (w4.alloc (.cells #[.pointer (some ⟨aK+1+1+1,0,none⟩)] 231)) #[.slice H l.length aa] 25;have Fx:=Own.alloc ((w4.alloc (.cells #[.pointer (some ⟨aK+1+1+1,0,none⟩)] 231)).alloc (.cells #[.slice H l.length aa] 25)) #[.int .i64 blk] 3;simp only[World.size_alloc,Bq]at tP Kn Fx;obtain⟨aU,N⟩:∃aU,((w4.alloc (.cells #[.pointer (some ⟨aK+1+1+1,0,none⟩)] 231)).alloc (.cells #[.slice H l.length aa] 25)).alloc (.cells #[.int .i64 blk] 3)=aU:=⟨_,rfl⟩;rw[N]at Fx⊢;have JV:aU.heap.size=aK+7:=(by rw[<-N];simp[Bq]);have J:Fr aD w4 aU:=(by rw[<-N];exact(((Fr.refl _ _).alloc _).alloc _).alloc _);have yu:=R.keep J id;have BB:Own aU (aK+4) 231 [.pointer (some ⟨aK+1+1+1,0,none⟩)]:=(by rw[<-N];exact tP.keep (((Fr.refl aD _).alloc _).alloc _) id);have AM:aU.cell? ⟨aK+5,0,none⟩=some (.slice H l.length aa):=(by rw[<-N];exact(Kn.keep ((Fr.refl aD _).alloc _) id).cell (i:=0) rfl);have vD:aU.cell? ⟨aK+5+1,0,none⟩=some (.int .i64 blk):=Fx.cell (i:=0) rfl;have aeq:=((Kl.keep yt id).keep Km id).keep J id;have L:Fr aD w3 aU:=Km.step J (λ_ h _=>h);have aer:=Ta.keep L (λ_ h=>h.elim);have Tb:=iQ.keep L id;have Tc:Fr aD w aU:=(fL.step yt (λ_ h _=>h)).step L (λ_ h _=>h);have wj:=l5.o.br Tc;have Fs:=ae wj;clear N Fw S vG Kl R tP Kn Fx ia Ta iQ fL yt Km J L ku yp Bq vO;simp only[oh,Nat.reduceAdd]at vD yu BB Tb⊢;refine wpIn_rangeFunc_ownG rfl U (gf:=157) (lb:= #[.pointer (some ⟨aK+6,0,none⟩),.pointer (some ⟨aK+5,0,none⟩)]) rfl trivial (enters_of aj.func157 ah rfl) (adU _ U (aK+5) blk _ l U U U aU AM vD U wj) SK (adN U) (Below.refl _ _) (λ_=>rfl) (S9 l blk aK aU) (λ_ _ _=>False) (λs A B row bw Q cl=>⟨⟨bw.1.1.keep (EA Q) (λb hb=>⟨λe=>by have:=(cl b hb).1;omega,.inr (cl b hb).2⟩),bw.1.2.keep (EA Q) (λe=>by have:=(cl _ e).1;omega)⟩,bw.2.grown Q cl (bh _)⟩) (λ_ _ _ _ _ bw _ _=>bw) ⟨⟨aer,Tb⟩,Fr.refl _ _⟩ (λx=>{tmps:= #[.slice H l.length aa,.int .i64 blk,I,.pointer (some ⟨aK,0,none⟩),.pointer none,.pointer (some ⟨aK+4,0,none⟩),.int .i64 (x.1:Int),sn (.slice H l.length aa) l.length blk x.1,I,.slice H l.length aa,.int .i64 blk,.map (some (aK+1)),.map (some (aK+2)),.agg #[.slice H l.length aa,.int .i64 blk,.map (some (aK+1)),.map (some (aK+2))],.pointer (some ⟨aK+3,0,none⟩),.slice H l.length aa,.int .i64 blk,.func (.func 157) #[] #[.pointer (some ⟨aK+6,0,none⟩),.pointer (some ⟨aK+5,0,none⟩)],.int .i64 (x.1:Int),sn (.slice H l.length aa) l.length blk x.1,I,I,I,I,I,I,I,I,I,I,I,I,I,I,I,I,I,I,I,I,I,I,I,I,I,I,I,I,I],defers:=[]}) ?assign ?body ?done ?stop;case assign=>
  intro BC x W K m;gi_wp2
  exact m
 case body=>
  rintro BC pre x W⟨⟨Q,hm⟩,hF⟩ gJ;have r:=(adM (wj.keep hF (λb hb e=>by have:=l5.o.ko b hb;omega)) blk x.1 U x.2);change bH W _ (c5 l blk x.1)at r;obtain⟨a1,st,wm,-⟩:=r.shape;rw[wm]at r⊢;have C:=isWhole_len l blk x.1 U;have Td:=(BB.keep hF U).cell (i:=0) rfl;have aes:=(aeq.keep hF U).cell (i:=0) rfl;have aet:=(yu.keep hF U).cell (i:=0) rfl;have aeu:pre.length<300:=(by have:=(tu l.length blk U).2.2;omega);by_cases f:(c5 l blk x.1).length=blk
  .rw[show decide ((c5 l blk x.1).length=blk)=true by simpa using f]at C;have af:=ael l blk (iP pre) x.1 C;have az:=aem l blk (iP pre) x.1 C;have vK:cS (c5 l blk x.1)<4294967296:=Ar _;have vY:=S8 (c5 l blk x.1);rw[f]at r⊢;have Fy:=ae af;have yv:=ae az;have aev:=ae r;have hw:=ae (I5 _ _ W r);have Te:=ae (tC _ _ W r);have Tf:=S5 l blk (iP pre) (cS (c5 l blk x.1)) (cB (c5 l blk x.1));have Tg:=S6 l blk (iP pre) (cS (c5 l blk x.1));rw[aen]at Tf Tg;generalize auI:cS (c5 l blk x.1)=E at *;generalize auJ:cB (c5 l blk x.1)=V at *;have dV:=ae Q;have ic:=ae hm;have X:=ae hF;clear af az C r Q hm hF wm f;dsimp only;gi_wp2_with (first
    |(refine⟨trivial,?_⟩;gi_at_call 122;refine(CallsIn.inRound BC (callsIn_wide.2 hw.o)).mono ?_;rintro e w'⟨rfl,rfl⟩)
    |(refine⟨trivial,?_⟩;gi_at_call 69;refine(CallsIn.inRound BC (callsIn_wide.2 Te.o)).mono ?_;rintro e w'⟨rfl,rfl⟩))
   have t:Fr aD W (W.alloc (.cells #[.int .u32 E,.int .u64 V] 264)):=(Fr.refl _ _).alloc _;have O:=Own.alloc W #[.int .u32 E,.int .u64 V] 264;have Ti:(W.alloc (.cells #[.int .u32 E,.int .u64 V] 264)).heap.size=W.heap.size+1:=ag;obtain⟨F,aew⟩:∃F,W.alloc (.cells #[.int .u32 E,.int .u64 V] 264)=F:=⟨_,rfl⟩;rw[aew]at t O Ti⊢;have y:Fr aD F (F.alloc (.cells #[.int .i64 (x.1:Int)] 3)).drew:=((Fr.refl _ _).alloc _).drew;have Ko:=(Reads.new F #[.int .i64 (x.1:Int)] 3 F.heap.size rfl 1 1).drew;obtain⟨pb,Kp⟩:∃pb,(F.alloc (.cells #[.int .i64 (x.1:Int)] 3)).drew=pb:=⟨_,rfl⟩;rw[Kp]at y Ko;have auK:aU.heap.size<=W.heap.size:=X.o.size;have auL:W.heap.size<=F.heap.size:=t.size;have auM:F.heap.size<=pb.heap.size:=y.size;have Tj:=(dV.o.keep t (λ_ h=>h.elim)).keep y (λ_ h=>h.elim);obtain⟨mo,a4,Fz,a2,uh,aex,Y,aey,back⟩:=Tj.entry eH E V vK vY.1 vY.2 U;obtain⟨i0,nG,ay,aF,ie,fq,l8,h9⟩:=aee;have Tk:Reads Fz (.slice (some ⟨F.heap.size,0,none⟩) 1 1) 1 [.int .i64 (x.1:Int)]:=by
    rcases Ko with⟨h,-⟩|⟨b,off,c,h,m7⟩
    .simp at h
    .refine .inr ⟨b,off,c,h,λj u hu=>uh.cell (m7 j u hu) (λe=> ?_)⟩;have jQ:=yd pb _ (m7 j u hu);have:=dV.o.lt;simp at h e;omega
   obtain⟨nS,Tl,m9,su,BD,fr,-⟩:=I2 (P:=aj.prog) Fz (aK+7) 55 55 3 i0 nG 1 8 ay aF ie fq l8 h9 _ _ _ Y _ 1 _ Tk rfl (by intro u hu;simp at hu;subst hu;rfl) eH U U;obtain⟨re,rs,dk,aez,Tm⟩:=back Tl nS x.1 BD su fr;have f:Fr (λk=>k=aK+1\/mo.ownBlock=some k) W re:=((((t.step y (λ_ h _=>h)).mono (λ_ h _=>h.elim)).step uh (λk hk _=>.inl hk)).step BD (λk hk _=>.inr hk)).step dk (λk hk _=>.inl hk);have q:∀k,mo.ownBlock=some k->aK+7<=k:=λk hk=>(Y.lt k hk).1;have Tn:Fr (λk=>k=aK+1\/mo.ownBlock=some k) pb re:=((uh.mono (λk hk _=>.inl hk)).step BD (λk hk _=>.inr hk)).step dk (λk hk _=>.inl hk);have To:=ic.o.keep f (λh=>h.elim (λh=>U) λh=>by have:=q _ h;omega);have Z:kA re.drew (aK+2) pre.length (jW l blk (iP pre)):=To.keep (Fr.drew (Fr.refl aD _)) id;have Tp:=Z.look E vK;obtain⟨wo,auN,Tq,Tr⟩:=Z.put eH E vK (jW l blk (iP pre) E+1) (IntKind.i64.wrap ((jW l blk (iP pre) E:Int)+1)) (by rw[kt _ U];simp);have G:Fr (λk=>k=aK+2) re wo:=((Fr.refl aD re).drew.mono (λ_ h _=>h.elim)).step Tr (λk hk _=>hk);have Ts:=Tm.keep G (λb hb=>⟨U,.inl U⟩);have M:Fr (λk=>(k=aK+1\/k=aK+2)\/mo.ownBlock=some k) W wo:=(f.mono (λk hk _=>hk.elim (λh=>.inl (.inl h)) .inr)).step G (λk hk _=>.inl (.inr hk));have Tt:Fr (λk=>k=aK+1) W Fz:=((t.step y (λ_ h _=>h)).mono (λ_ h _=>h.elim)).step uh (λk hk _=>hk);have Tu:∀a,ownPostG aU.heap.size (kx (aK+5)) (S9 l blk aK aU) (λ_ _ _=>False) (pre++ [x]) W .normal a wo:=by
    intro a;refine⟨KeepsFrom.Jf M ?_,kx.Jf M U ?_ ?_,⟨⟨?_,?_⟩,?_⟩⟩
    .rintro k(hk|hk) c8 o ap
     .omega
     .have vJ:=(bQ.1 ap).1;exact Y.cells hk o ((Tt.block k vJ (by have:=q k hk;omega)).trans ap)
    .rintro(h|h)
     .omega
     .have:=q _ h;omega
    .rintro(h|h)
     .omega
     .have:=q _ h;omega
    .rw[Fv,Fy.o,cr];exact Ts
    .rw[Fv,yv.o,cr];exact Tq
    .refine X.o.step M ?_;rintro k(hk|hk) bO
     .exact hk
     .have:=q k hk;omega
   have BE:=ae Tu;have BF:∀cH,Fr (λk=>k=aK+1\/mo.ownBlock=some k) pb cH->(cH.cell? ⟨aK+4,0,none⟩=some (.pointer (some ⟨aK+3,0,none⟩))/\cH.cell? ⟨aK+3,2,none⟩=some (.map (some (aK+1)))/\cH.cell? ⟨W.heap.size,0,none⟩=some (.int .u32 E)/\cH.cell? ⟨W.heap.size,1,none⟩=some (.int .u64 V))/\cH.cell? ⟨aK+3,3,none⟩=some (.map (some (aK+2))):=by
    intro cH Tv;have Kq:Fr (λk=>k=aK+1\/mo.ownBlock=some k) W cH:=((t.step y (λ_ h _=>h)).mono (λ_ h _=>h.elim)).step Tv (λk hk _=>hk);have no:∀k,k<aK+7->k≠aK+1->¬(k=aK+1\/mo.ownBlock=some k):=by
     rintro k bD cb(b7|b7)
     .exact cb b7
     .have:=q k b7;omega
    have aeA:¬(W.heap.size=aK+1\/mo.ownBlock=some W.heap.size):=by
     rintro(b7|b7)
     .omega
     .have ov:=O.keep (y.mono (S':=λ_=>False) (λ_ h _=>h)) id;have yi:=ov.keep uh U;have dZ:=Y.2;rcases dZ with⟨rfl,_⟩|⟨g,cap,rest,rfl,_,ap,_⟩
      .simp[Value.ownBlock]at b7
      .simp[Value.ownBlock]at b7;subst b7;obtain⟨_,oA,_⟩:=ap;obtain⟨_,Bm,_⟩:=yi;rw[oA]at Bm;simp at Bm
    have jP:=O.keep ((y.mono (λ_ h _=>h.elim)).step Tv (λk hk _=>hk):Fr (λk=>k=aK+1\/mo.ownBlock=some k) F cH) aeA;refine⟨⟨?_,?_,jP.cell rfl,jP.cell rfl⟩,?_⟩
    .exact((BB.keep X.o U).keep Kq (no _ U U)).cell (i:=0) rfl
    .exact((yu.keep X.o U).keep Kq (no _ U U)).cell (i:=2) rfl
    .exact((yu.keep X.o U).keep Kq (no _ U U)).cell (i:=3) rfl
   have g0:=(BF pb (Fr.refl _ _)).1;have ge:=(BF Fz (uh.mono (λk hk _=>.inl hk))).1;have yw:=(BF Tl ((uh.mono (λk hk _=>.inl hk)).step BD (λk hk _=>.inr hk))).1;have ig:=BF re Tn;have ug:(wo.cell? ⟨aK+4,0,none⟩=some (.pointer (some ⟨aK+3,0,none⟩))/\wo.cell? ⟨aK+3,3,none⟩=some (.map (some (aK+2)))/\wo.cell? ⟨W.heap.size,0,none⟩=some (.int .u32 E)/\wo.cell? ⟨W.heap.size,1,none⟩=some (.int .u64 V)):=⟨G.cell ig.1.1 ag,G.cell ig.2 ag,G.cell ig.1.2.2.1 a5,G.cell ig.1.2.2.2 a5⟩;have Tw:(re.drew.cell? ⟨aK+4,0,none⟩=some (.pointer (some ⟨aK+3,0,none⟩))/\re.drew.cell? ⟨aK+3,3,none⟩=some (.map (some (aK+2)))/\re.drew.cell? ⟨W.heap.size,0,none⟩=some (.int .u32 E)/\re.drew.cell? ⟨W.heap.size,1,none⟩=some (.int .u64 V)):=⟨ig.1.1,ig.2,ig.1.2.2.1,ig.1.2.2.2⟩;have vH:(F.drew.cell? ⟨aK+4,0,none⟩=some (.pointer (some ⟨aK+3,0,none⟩))/\F.drew.cell? ⟨aK+3,2,none⟩=some (.map (some (aK+1)))/\F.drew.cell? ⟨W.heap.size,0,none⟩=some (.int .u32 E)/\F.drew.cell? ⟨W.heap.size,1,none⟩=some (.int .u64 V)):=⟨((BB.keep X.o U).keep t id).cell (i:=0) rfl,((yu.keep X.o U).keep t id).cell (i:=2) rfl,O.cell rfl,O.cell rfl⟩;have aeB:=ae g0;have aeC:=ae ge;have aeD:=ae yw;have aeE:=ae ig;have tZ:=ae ug;have Tx:=ae Tw;have aeF:=ae vH;rw[Kj,Ti]at m9;unfold pa at a2;unfold goInt at a2 rs;have Ty:aj.prog.follows .mixedOrders=true:=ah;have FA:jW l blk (iP pre) E<=300:=U;clear Tu BF g0 ge yw ig ug Tw vH M Tt f Tn Ts Tm To Z Tq Tr G back Y su BD fr dk aez uh aex Tk Ko Tj aey q y O t Fy yv aev hw Te vK vY Tf Tg ay aF ie fq l8 h9 Td aes aet aeu wj;have d:=aeF.o;refine SN (λw'=>w'.cell? ⟨aK+4,0,none⟩=some (.pointer (some ⟨aK+3,0,none⟩))/\w'.cell? ⟨aK+3,2,none⟩=some (.map (some (aK+1)))/\w'.cell? ⟨W.heap.size,0,none⟩=some (.int .u32 E)/\w'.cell? ⟨W.heap.size,1,none⟩=some (.int .u64 V)) BC ?letsout Ty ah d ?_;case letsout=>(rintro⟨a,w,h⟩;exact h)
   simp only[ub,hJ,oW,Nat.reduceAdd];refine m8 0 ?_;refine m8 1 ?_;refine m8 2 ?_;refine m8 3 ?_;refine m8 4 ?_;refine m8 5 ?_;refine wpAnyH_ready (rs:=[6]) hR ag ?_;refine AllReadyH.cons rfl (λK m=> ?_) AllReadyH.nil;go_simp;refine m.out _ _ aeB.o (λd=> ?_);clear m K;try simp only[Act.put,mg,mh,mi]
   refine wpAnyH_ready (rs:=[7]) hR ag ?_;refine AllReadyH.cons rfl (λK m=> ?_) AllReadyH.nil;go_simp;refine m.out _ _ aeC.o (λd=> ?_);clear m K;try simp only[Act.put,mg,mh,mi]
   refine m8 8 ?_;refine m8 10 ?_;refine wpAnyH_ready (rs:=[9]) hR ag ?_;refine AllReadyH.cons rfl (λK m=> ?_) AllReadyH.nil;go_simp;refine m.out _ _ aeD.o (λd=> ?_);clear m K;try simp only[Act.put,mg,mh,mi]
   refine wpAnyH_ready (rs:=[11]) hR ag ?_;refine AllReadyH.cons rfl (λK m=> ?_) AllReadyH.nil;go_simp;refine m.out _ _ aeE.o.1 (λd=> ?_);clear m K;refine wpAnyH_done hR ?_ _;gi_wp2
   clear d;have d:=Tx.o;refine SN (λw'=>w'.cell? ⟨aK+4,0,none⟩=some (.pointer (some ⟨aK+3,0,none⟩))/\w'.cell? ⟨aK+3,3,none⟩=some (.map (some (aK+2)))/\w'.cell? ⟨W.heap.size,0,none⟩=some (.int .u32 E)/\w'.cell? ⟨W.heap.size,1,none⟩=some (.int .u64 V)) BC ?letsout2 Ty ah d ?_;case letsout2=>(rintro⟨a,w,h⟩;exact h)
   simp only[ub,hJ,oW,Nat.reduceAdd];refine m8 0 ?_;refine m8 1 ?_;refine m8 2 ?_;refine m8 3 ?_;refine m8 4 ?_;refine m8 5 ?_;refine wpAnyH_ready (rs:=[6]) hR ag ?_;refine AllReadyH.cons rfl (λK m=> ?_) AllReadyH.nil;go_simp;refine m.out _ _ Tx.o (λd=> ?_);clear m K;try simp only[Act.put,mg,mh,mi]
   refine m8 7 ?_;refine wpAnyH_ready (rs:=[8]) hR ag ?_;refine AllReadyH.cons rfl (λK m=> ?_) AllReadyH.nil;go_simp;refine m.out _ _ tZ.o (λd=> ?_);clear m K;refine wpAnyH_done hR ?_ _;exact BE.o {tmps:= #[],defers:=[]}
  .rw[show decide ((c5 l blk x.1).length=blk)=false by simpa using f]at C;have fp:decide (((c5 l blk x.1).length:Int)=(blk:Int))=false:=(by simpa using λe=>f U);have dV:=ae Q;have ic:=ae hm;have X:=ae hF;have af:=aej l blk (iP pre) x.1 C;have az:=aek l blk (iP pre) x.1 C;have Fy:=ae af;have yv:=ae az;clear af az C r Q hm hF wm;dsimp only;gi_wp2
   refine⟨KeepsFrom.refl _ _,λ_ _=>rfl,⟨⟨?_,?_⟩,X.o⟩⟩
   .rw[Fv,Fy.o,cr];exact dV.o.mono U
   .rw[Fv,yv.o,cr];exact ic.o.mono U
 case done=>
  rintro D FB W nK rfl⟨⟨Q,hm⟩,hF⟩ m;rw[aeo]at Q hm;have Td:=(BB.keep hF U).cell (i:=0) rfl;have FC:=yu.keep hF U;have dV:=ae Q;have ic:=ae hm;have X:=ae hF;have Tz:=ae FC;clear Q hm hF FC;gi_wp2
  refine⟨ag,.inl ⟨_,_,rfl,run_takeDeferred m,?_⟩⟩;have b8:Fr (λk=>k=D) W (W.putObj D (.deferred none)):=Rs W D _;have aeG:∀g T xs,Own W g T xs->g≠D:=by
   rintro g T xs⟨bo,h,_⟩ rfl;rw[m]at h;cases h
  refine⟨.pointer (some ⟨aK+3,0,none⟩),by simp[results,Tryz.results121,go_sem],aK+7,aK+3,rfl,U,⟨aK+1,aK+2,_,Tz.o.keep b8 (aeG _ _ _ Tz.o),dV.o.keep b8 (λb hb=>⟨U,.inr ⟨.deferred (some []),by rw[show b=D from hb];exact m,rfl⟩⟩),ic.o.keep b8 U⟩,?_⟩;exact(Tc.step X.o (λk hk bO=>U)).putObj U _
 case stop=>
  rintro D c pre W _ _ h _;exact h.elim
end Go.Proofs.YtlcdgbhigfgehabGreatDoor
namespace Go.Proofs.YtlcdgbhigfgehabGreatDoor
open Go.RowKit Go.ChangeMaps Go.Maps Go.WideMaps

def BG(b:ar)(blk n a:Nat)(c:Int)(i:Nat):i∈g9 b blk (List.range n) a c↔i<n/\isWhole b blk i=true/\cS (c5 b blk i)=a/\cB (c5 b blk i)=c:=by simp[g9]
def aeH(b:ar)(blk n a:Nat)(c:Int):(g9 b blk (List.range n) a c).Pairwise (· < ·):=List.Pairwise.filter _ List.pairwise_lt_range
def isWhole_of{b:ar}{blk i:Nat}(h:(i+1)*blk<=b.length):isWhole b blk i=true:=by simpa[isWhole]using h
def TA{b:ar}{blk i:Nat}(a:0<blk)(h:(i+1)*blk<=b.length):i<b6 b.length blk:=(rP _ _ _ a).2 (by rw[fJ]at h;omega)
def TB(b wl:ar)(blk:Nat)(c:0<blk)(f:wl.length=blk)(h:∀i∈g9 b blk (List.range (b6 b.length blk)) (cS wl) (cB wl),c5 b blk i≠wl):placeOf b blk wl=none:=by
 have d:wl.take blk=wl:=iG U;rw[aau b blk c wl U,d];intro i af e;have a:c5 b blk i=wl:=e;exact h i ((BG ..).2 ⟨TA c af,isWhole_of af,by rw[a],by rw[a]⟩) a
def aeI(b wl:ar)(blk:Nat)(k:0<blk)(s:wl.length=blk)(j:Nat)(l:j< (g9 b blk (List.range (b6 b.length blk)) (cS wl) (cB wl)).length)(o:c5 b blk ((g9 b blk (List.range (b6 b.length blk)) (cS wl) (cB wl))[j])=wl)(h:∀q(f:q< (g9 b blk (List.range (b6 b.length blk)) (cS wl) (cB wl)).length),q<j->c5 b blk ((g9 b blk (List.range (b6 b.length blk)) (cS wl) (cB wl))[q])≠wl): placeOf b blk wl=some ((g9 b blk (List.range (b6 b.length blk)) (cS wl) (cB wl))[j]):=by
 have p:=(BG ..).1 (dy l);have r:((g9 b blk (List.range (b6 b.length blk)) (cS wl) (cB wl))[j]+1)*blk<=b.length:=(by simpa[isWhole]using p.2.1);have m:wl.take blk=wl:=iG U;refine aav b blk k wl _ U r (by rw[m];exact o) ?_;rw[m];intro i af a;have a:c5 b blk i=wl:=a;have c:(i+1)*blk<=b.length:=by
  have:=hq List.length a;rw[S7]at this;unfold nU at this;rw[fJ,ob];omega
 have d:i∈g9 b blk (List.range (b6 b.length blk)) (cS wl) (cB wl):=(BG ..).2 ⟨TA k c,isWhole_of c,by rw[a],by rw[a]⟩;have⟨q,f,g⟩:=AH d;have n:=aeH b blk (b6 b.length blk) (cS wl) (cB wl);rw[we]at n;rcases ys q j with e|e|e
 .exact h q f e (by rw[g];exact a)
 .subst e;omega
 .have:=n j q l f e;omega
def aeJ(b wl:ar)(blk:Nat)(c:0<blk)(d:wl.length=blk)(h:jW b blk (List.range (b6 b.length blk)) (cS wl)=0):placeOf b blk wl=none:=by
 refine TB b wl blk c d λi af e=> ?_;have a:=(BG ..).1 af;have f:(List.range (b6 b.length blk)).filter (λi=>isWhole b blk i && decide (cS (c5 b blk i)=cS wl))=[]:=vy h;have:i∈(List.range (b6 b.length blk)).filter (λi=>isWhole b blk i && decide (cS (c5 b blk i)=cS wl)):=(by simp[a.1,a.2.1,a.2.2.1]);rw[f]at this;simp at this
def qb(b:ar)(blk:Nat)(wl:ar):Int:=match placeOf b blk wl with|some k=>k|none=> -1
def iO.aeK{w:ab}{B aG n:Nat}{L:Nat->Int->cw}(h:iO w B aG n L)(b:Nat)(a:Int)(c:b<4294967296)(d:0<=a)(e:a<18446744073709551616): ∃v,(∀nq,(Instr.lookup 257 (.map (some aG)) (.agg #[.int .u32 b,.int .u64 a]) false).run aj.prog (w.drewN nq)=.ok v (w.drewN nq))/\Vec w B 3 1 v (L b a).length (ss (L b a)):=by
 obtain⟨f,g,-,i,-⟩:=h;have⟨j,hk⟩:=S0 b a c d e;exact⟨_,λnq=>(g.keep ((Fr.refl aD _).drewN nq) id).look (By yr) aj.underlying257 (Ft _) hk,i b a⟩
def aeL(w:ab)(B p:Nat)(v Kr:ai)(b wl:ar)(blk:Nat)(cD:wi w B p v b blk)(bP:bH w v b)(N:bH w Kr wl)(P:1<=blk)(iI:blk<=64)(EV:b.length<=300)(k:wl.length=blk): Calls aj.prog 123 #[.pointer (some ⟨p,0,none⟩),.int .u32 (cS wl),Kr] w λe w'=>e=.returned (.int .i64 (qb b blk wl))/\∃nq,w'=w.drewN nq:=by
 obtain⟨aG,mw,n,t,ia,iQ⟩:=cD.maps;have eY:=t.cell (i:=0) rfl;have c1:=t.cell (i:=1) rfl;have c2:=t.cell (i:=2) rfl;have c3:=t.cell (i:=3) rfl;have u:=Ar wl;have x:=S8 wl;have auO:=iQ.look (cS wl) u;have y:b6 b.length blk<=300:=(by have:=(tu b.length blk U).2.2;omega);have FA:jW b blk (List.range (b6 b.length blk)) (cS wl)<=300:=dU (S6 _ _ _ _) (by simpa using y);have Q:=ae (aeJ b wl blk U k);obtain⟨mo,R,o⟩:=ia.aeK (cS wl) (cB wl) u x.1 x.2;have auP:(g9 b blk (List.range (b6 b.length blk)) (cS wl) (cB wl)).length<=300:=dU (S5 _ _ _ _ _) (by simpa using y);have S:=ae (TB b wl blk U k);have z:=ae (λj en T h=>aeI b wl blk U k j en T h);have A:=ae (λi af=>(BG b blk (b6 b.length blk) (cS wl) (cB wl) i).1 af);generalize jW b blk (List.range (b6 b.length blk)) (cS wl)=az at *;generalize g9 b blk (List.range (b6 b.length blk)) (cS wl) (cB wl)=L at *;have C:=ae (λnq=>(tC Kr wl (w.drewN nq) (N.br ((Fr.refl _ _).drewN nq))).mono (λ(e:Ending)(w':ab)(h:e=.returned (.int .u64 (cB wl))/\w.drewN nq=w')=>(⟨h.1,h.2.symm⟩:e=.returned (.int .u64 (cB wl))/\w'=w.drewN nq)));obtain⟨aw,cK,V,-⟩:=N.shape;subst V;obtain⟨auQ,ce,D,auR,E,auS⟩:=o.shape;subst D;have l5:=ae bP;have aeM:=ae N;have W:=ae o;have TC:=ae k;clear cD bP N o t ia iQ k;unfold maxLen at E;generalize X:cS wl=wk at *;generalize Y:cB wl=eZ at *;clear X Y;by_cases O:az=0
 .have Z:((az:Int)==0)=true:=(by simpa using O);have g:qb b blk wl= -1:=(by unfold qb;rw[Q.o O]);rw[g];subst O;clear R g;go_enter aj.func123,Tryz.ntmps123;go_wp2_with fail;go_ret;exact⟨rfl,0,rfl⟩
 .have Z:((az:Int)==0)=false:=(by simpa using O);go_enter aj.func123,Tryz.ntmps123;go_wp2_with fail;go_quiet ((go_at_call 69;exact Calls.quiet_of_same (C.o _)))
  go_wp2_with fail;go_loopw [26] (λi wr=>∃q:Nat,q<=L.length/\i=.int .i64 q/\(∀r(h:r<L.length),r<q->c5 b blk L[r]≠wl)/\∃nq,wr=w.drewN nq) (λi _=>L.length - (intOf i).toNat)
  case atStart=>exact⟨0,dl _,rfl,λr h g=>U,nq,rfl⟩
  case round=>
   obtain⟨q,b9,rfl,F,auT,rfl⟩:=hrel;have s:=ae F;clear F;by_cases l:q<L.length
   .obtain⟨ge,auU,rest,G,-,ap,-⟩:=W.o.row U;simp only[eG,fF]at G;obtain⟨rfl,rfl⟩:=G;have ce:=ap.cell (i:=q) (v:=.int .i64 (L[q]:Nat)) (by rw[gx (by simpa using l)];simp[ss,l]);have hm:=A.o _ (dy l);have aeN:=ae (z.o q l);have H:(L[q]+1)*blk<=b.length:=(by simpa[isWhole]using hm.2.1);have o1:Hid (∀(h:q<L.length),L[q]=L[q]):=λ_=>rfl;have BH:Hid (c5 b blk L[q]≠wl->∀r(h:r<L.length),r<q+1->c5 b blk L[r]≠wl):=λfp r h g=>by
     by_cases aeO:r=q
     .subst aeO;exact fp
     .exact s.o r h U
    have aa:Hid (c5 b blk L[q]=wl->qb b blk wl=(L[q]:Int)):=λT=>by
     unfold qb;rw[z.o q l T (λr h g=>s.o r h g)]
    clear ap hm aeN o1;generalize BI:L[q]=i at *;clear BI;rcases l5.o.cases with⟨rfl,rfl⟩|⟨bL,a9,g5,rfl,auV,ui,-⟩
    .rw[fJ]at H;simp at H;omega
    have d:((i*blk:Nat):Int)=(i:Int)*blk:=ag;have a:(((i+1)*blk:Nat):Int)=((i:Int)+1)*blk:=ag;have hle:i*blk<=(i+1)*blk:=vt _ U;have J:i*blk+blk=(i+1)*blk:=(by rw[fJ,ob]);have o9:0<=(i:Int)*blk:=(by rw[<-d];omega);have sr:(i:Int)*blk<=300:=(by rw[<-d];omega);have p9:0<=((i:Int)+1)*blk:=(by rw[<-a];omega);have Kf:((i:Int)+1)*blk<=b.length:=(by rw[<-a];omega);have Kg:(i:Int)*blk<=((i:Int)+1)*blk:=(by rw[<-d,<-a];omega);have Kh:((i:Int)+1)*blk<=(g5:Int):=(by rw[<-a];omega);have auW:i<=300:=by
     have:i*1<=i*blk:=Nat.mul_le_mul_left _ P;omega
    have w1:IntKind.i64.wrap ((i:Int)*blk)=(i:Int)*blk:=kt _ U;have w2:IntKind.i64.wrap ((i:Int)+1)=(i:Int)+1:=kt _ U;have w3:IntKind.i64.wrap (((i:Int)+1)*blk)=((i:Int)+1)*blk:=kt _ U;have t1:((i:Int)*blk).toNat=i*blk:=(by rw[<-d,pP]);have t2:(((i:Int)+1)*blk).toNat=(i+1)*blk:=(by rw[<-a,pP]);have t3:¬(g5=i*blk):=U;have f:=l5.o.part (i*blk) ((i+1)*blk) (g5 - i*blk) U U U (by unfold maxLen at ui⊢;omega);have K:(b.drop (i*blk)).take ((i+1)*blk - i*blk)=c5 b blk i:=(by unfold c5;rw[show(i+1)*blk - i*blk=blk by omega]);rw[K]at f;have m:=ae (λnq=>(aa2 _ _ _ _ (w.drewN nq) (f.br ((Fr.refl _ _).drewN nq)) (aeM.o.br ((Fr.refl _ _).drewN nq))).mono (λ(e:Ending)(w':ab)(h:e=.returned (.bool (decide (c5 b blk i=wl)))/\w.drewN nq=w')=>(⟨h.1,h.2.symm⟩:e=.returned (.bool (decide (c5 b blk i=wl)))/\w'=w.drewN nq)));clear f K d a J;by_cases c:c5 b blk i=wl
    .have hd:decide (c5 b blk i=wl)=true:=(by simpa using c);rw[hd]at m;have ox:=ae (aa.out c);clear hd c;go_wp2_with fail;go_quiet ((go_at_call 149;exact(m.o _).mono (λ_ _ h=>⟨h.1,_,h.2⟩)))
     go_wp2_with fail;go_ret;exact⟨by rw[ox.o];rfl,_,World.drewN_drewN ..⟩
    .have hd:decide (c5 b blk i=wl)=false:=(by simpa using c);rw[hd]at m;have M:=ae (BH.out c);clear hd c;go_wp2_with fail;go_quiet ((go_at_call 149;exact(m.o _).mono (λ_ _ h=>⟨h.1,_,h.2⟩)))
     go_wp2_with fail;exact⟨⟨q+1,U,by go_num,M.o,_,rfl⟩,by simp[intOf];omega⟩
   .obtain rfl:q=L.length:=U;have g:qb b blk wl= -1:=by
     unfold qb;rw[S.o (λi af=>by
      obtain⟨r,g,rfl⟩:=AH af;exact s.o r g g)]
    have ox:=ae g;clear g;go_wp2_with fail;go_ret;exact⟨by rw[ox.o];rfl,_,rfl⟩
end Go.Proofs.YtlcdgbhigfgehabGreatDoor
namespace Go.Proofs.YtlcdgbhigfgehabGreatDoor
open Go.RowKit

def wi.br{w w1:ab}{B p:Nat}{v:ai}{b:ar}{blk:Nat}(h:wi w B p v b blk)(k:Fr aD w w1):wi w1 B p v b blk:=by
 have⟨aG,a,n,c,d,e⟩:=h.maps;exact⟨aG,a,n,c.keep k id,d.keep k (λ_ h=>h.elim),e.keep k id⟩
def wi.lt{w:ab}{B p:Nat}{v:ai}{b:ar}{blk:Nat}(h:wi w B p v b blk):p<w.heap.size:=by
 have⟨aG,c,n,a,d,e⟩:=h.maps;exact a.lt
structure TF(yx wr:ab)(tL:Nat)(v1:ai)(base data:ar)(blk:Nat)(L:List Tok)(f i:Nat):Prop where
 wq:l4 wr (tL+1) tL v1 f L
 hS:Good L f
 at_:qc base data blk L f i
 bo:Fr aD yx wr
 ae2:f<=i
 jX:tL<wr.heap.size
def GS.or{w:ab}{B a k:Nat}(h:GS w B a k):k=a\/B<=k:=by
 rcases h with h|h
 .exact .inl h
 .exact .inr h.1
def ae3(base data:ar)(blk:Nat)(w:ab)(e:Ending)(w':ab):Prop:=∃fD l,e=.returned (.tuple #[fD,.nilIface])/\ej w' w.heap.size fD l/\l.map (·.1)=nz base data blk/\Fr aD w w'
def ae4(bE v1:ai)(base a:ar)(blk:Nat)(w:ab)(cz:bH w bE base)(bD:bH w v1 a)(K:sized blk base.length=0)(M:sized blk a.length=0): Calls aj.prog 77 #[bE,v1,.int .i64 blk] w (ae3 base a blk w):=by
 obtain⟨iN,eY,rfl,q3,Ks⟩:=cz.shape;obtain⟨a1,V,rfl,p1,AV⟩:=bD.shape;have hk:=Fo blk w.heap.size 2 [(iN,base.length,eY),(a1,a.length,V)] (w.alloc (.cells #[.slice iN base.length eY,.slice a1 a.length V] 25)) (λi h=>by
   have:i=0\/i=1:=(by simp at h;omega);rcases this with rfl|rfl<;>simp) ag (by intro x cD;simp at cD;rcases cD with rfl|rfl<;>simp<;>omega)
 rw[show[(iN,base.length,eY),(a1,a.length,V)].map (·.2.1)=[base.length,a.length]from rfl,SP,K,aV rfl,M,SR]at hk;have SS:1<=blk/\blk<=64/\base.length<=300:=by
  unfold sized at K;split at K
  .omega
  .split at K<;>omega
 have kq:a.length<=300:=by
  unfold sized at M;split at M
  .omega
  .split at M<;>omega
 have jU:=ae hk;have wu:=ae cz;have H1:=ae bD;clear hk cz bD K M;go_enter aj.func77,Tryz.ntmps77;go_wp2_with fail;refine jU.o.mono ?_;rintro e w'⟨rfl,rfl⟩;go_wp2_with fail;have Kt:Fr aD w (w.alloc (.cells #[.slice iN base.length eY,.slice a1 a.length V] 25)):=(Fr.refl _ _).alloc _;refine(aep _ base blk _ (wu.o.br Kt) U U U).mono ?_;rintro e yx⟨ae5,p,rfl,b8,Ku,n⟩;have S:=ae (Kt.step n (λ_ h _=>h));have v9:=S.o.size;have ae6:=ae Ku;have auX:=Ku.lt;clear Kt n Ku;go_wp2_with fail;obtain⟨s,T⟩:∃s,yx.heap.size=s:=⟨_,rfl⟩;have eA:TF yx (yx.alloc (.cells #[.slice a1 a.length V,.slice none 0 0,.int .i64 0] 235)) s (.slice a1 a.length V) base a blk [] 0 0:=by
  subst T;exact⟨⟨_,_,Own.alloc _ _ _,ej.nil _ _,rfl⟩,Good.start,aeW _ _ _,(Fr.refl _ _).alloc _,bh _,ag⟩
 have r7:=ae eA;clear eA;rw[T];have A:=ae T;clear T;go_loopw [11,12,13] (λbo az cv wr=>∃(i f:Nat)(L:List Tok)(b:Bool)(k:Nat),i<=a.length/\bo=.bool b/\az=.int .u32 k/\cv=.int .i64 i/\k<4294967296/\(b=false->i+blk<=a.length->k=cS ((a.drop i).take blk))/\TF yx wr s (.slice a1 a.length V) base a blk L f i) (λ_ _ cv _=>a.length+1 - (intOf cv).toNat)
 case atStart=>exact⟨0,0,[],true,0,dl _,rfl,rfl,rfl,U,λh=>by simp at h,r7.o⟩
 case round=>
  obtain⟨i,f,L,b,k,af,rfl,rfl,rfl,W,N,B⟩:=hrel;have c:=ae B;have H:=B.jX;have n:=B.ae2;have O:=ae N;have TG:=(H1.o.br S.o).br B.bo;have C:=ae TG;have ae7:=ae (ae6.o.br B.bo);have wj:=(wu.o.br S.o).br B.bo;have Fs:=ae wj;clear B N TG wj;by_cases P:i+blk<=a.length
  .have TH:((a.drop i).take blk).length=blk:=a5;rcases C.o.cases with⟨-,rfl⟩|⟨aO,bd,bc,X,-,r6,-⟩
   .simp at P;omega
   simp only[eG,fF]at X;obtain⟨rfl,rfl⟩:=X;have D:=C.o.part i (i+blk) (i+blk - i) U U U eH;rw[Ej]at D;have kr:=ae D;have TC:=ae TH;have fp:¬(blk=0):=U;have i0:(0:Int)<=(i:Int):=U;have i1:(i:Int)+blk<=(a.length:Int):=U;have i2:(i:Int)+blk<=(V:Int):=U;have i3:(i:Int)<=(i:Int)+blk:=U;have i4:((i:Int)+blk).toNat=i+blk:=U;have i5:(i:Int)+blk<=600:=U;have TI:=aeT base blk (a.drop i) a5;have TJ:=ae TI;have EQ:i+blk<a.length->pI (cS ((a.drop i).take blk)) blk (a.getD i 0).toNat (a.getD (i+blk) 0).toNat=cS ((a.drop (i+1)).take blk):=λh=>by
    rw[<-ae1 a i blk U h,pL,pL,fb U,fb U];rfl
   have EP:=ae EQ;clear D TH TI EQ;have Y:=Ar ((a.drop i).take blk);generalize hW:(a.drop i).take blk=wl at *;have aa:=ae (aeL wr ae5 p _ _ base wl blk ae7.o Fs.o kr.o U U U TC.o);generalize J:cS wl=az at *;cases rh:placeOf base blk wl with
   |some kk=>
    have cl:qb base blk wl=kk:=(by unfold qb;rw[rh]);rw[cl]at aa;have ov:=(Ri base blk U _ kk rh).2.1;have Z:kk<=300:=by
     have:(kk+1)*1<=(kk+1)*blk:=Nat.mul_le_mul_left _ U;omega
    have E:=ae (TJ.o.trans rh);clear rh cl ov;cases b with
    |true=>
     have Kv:=ae (I5 _ _ wr kr.o);have Kw:=ae J;clear hW J;go_wp2_with fail;refine Kv.o.mono ?_;rintro e w'⟨rfl,rfl⟩;rw[Kw.o];have j:=Y;go_wp2_with fail;refine aa.o.mono ?_;rintro e w'⟨rfl,nq,rfl⟩;go_wp2_with fail;have d:Fr aD wr (wr.drewN nq):=(Fr.refl _ _).drewN nq;have m3:=c.o.hS.len;have o:=c.o.hS.mid a n;refine(Jn (wr.drewN nq) (s+1) s _ a f i L (c.o.wq.br d) (by have:=d.size;omega) n af U U (C.o.br d) (λb hb=>by have:=H1.o.ko b hb;have:=A.o;omega) _ rfl).mono ?_;rintro e pb⟨rfl,u,r⟩;go_wp2_with fail;have q9:=r.size;refine(TD pb (s+1) s _ i _ u (by have:=d.size;omega) U kk U (λt dO=>⟨(o.1 t dO).1,by have:=(o.1 t dO).2;omega⟩)).mono ?_;rintro e BK⟨rfl,v,F⟩;have Av:=v.EL;have vQ:=F.size;have ae8:BK.frozen? ⟨s,2,none⟩=false:=by
      obtain⟨ae9,FF,Kx,-⟩:=v.mem;exact Kx.free 2 ag
     have Ky:=ae v;have Q:=ae r;have nD:=ae F;have y:=ae d;clear u v r F o d;go_wp2_with fail;obtain⟨dA,c9⟩:=Ky.o.from_ (i+blk) ((i:Int)+blk) ag;have z:Fr (λk=>k=s\/s+1<=k) wr (BK.setCell ⟨s,2,none⟩ (.int .i64 ((i:Int)+blk))):=(((y.o.mono (λ_ h _=>h.elim)).step Q.o (λk hk _=>hk.or)).step nD.o (λk hk _=>hk.or)).step c9 (λk hk _=>.inl hk);refine⟨⟨i+blk,i+blk,_,true,az,P,rfl,rfl,ag,j,λh=>by simp at h,⟨dA,c.o.hS.block a n Z U,TE c.o.at_ U U E.o,c.o.bo.step z (λk hk bO=>by have:=A.o;omega),bh _,by have:=z.size;omega⟩⟩,by simp[intOf];omega⟩
    |false=>
     obtain rfl:k=az:=O.o rfl P;clear hW J;have j:=W;go_wp2_with fail;refine aa.o.mono ?_;rintro e w'⟨rfl,nq,rfl⟩;go_wp2_with fail;have d:Fr aD wr (wr.drewN nq):=(Fr.refl _ _).drewN nq;have m3:=c.o.hS.len;have o:=c.o.hS.mid a n;refine(Jn (wr.drewN nq) (s+1) s _ a f i L (c.o.wq.br d) (by have:=d.size;omega) n af U U (C.o.br d) (λb hb=>by have:=H1.o.ko b hb;have:=A.o;omega) _ rfl).mono ?_;rintro e pb⟨rfl,u,r⟩;go_wp2_with fail;have q9:=r.size;refine(TD pb (s+1) s _ i _ u (by have:=d.size;omega) U kk U (λt dO=>⟨(o.1 t dO).1,by have:=(o.1 t dO).2;omega⟩)).mono ?_;rintro e BK⟨rfl,v,F⟩;have Av:=v.EL;have vQ:=F.size;have ae8:BK.frozen? ⟨s,2,none⟩=false:=by
      obtain⟨ae9,FF,Kx,-⟩:=v.mem;exact Kx.free 2 ag
     have Ky:=ae v;have Q:=ae r;have nD:=ae F;have y:=ae d;clear u v r F o d;go_wp2_with fail;obtain⟨dA,c9⟩:=Ky.o.from_ (i+blk) ((i:Int)+blk) ag;have z:Fr (λk=>k=s\/s+1<=k) wr (BK.setCell ⟨s,2,none⟩ (.int .i64 ((i:Int)+blk))):=(((y.o.mono (λ_ h _=>h.elim)).step Q.o (λk hk _=>hk.or)).step nD.o (λk hk _=>hk.or)).step c9 (λk hk _=>.inl hk);refine⟨⟨i+blk,i+blk,_,true,k,P,rfl,rfl,ag,j,λh=>by simp at h,⟨dA,c.o.hS.block a n Z U,TE c.o.at_ U U E.o,c.o.bo.step z (λk hk bO=>by have:=A.o;omega),bh _,by have:=z.size;omega⟩⟩,by simp[intOf];omega⟩
   |none=>
    have cl:qb base blk wl= -1:=(by unfold qb;rw[rh]);rw[cl]at aa;have E:=ae (TJ.o.trans rh);clear rh cl;cases b with
    |true=>
     have Kv:=ae (I5 _ _ wr kr.o);have Kw:=ae J;clear hW J;go_wp2_with fail;refine Kv.o.mono ?_;rintro e w'⟨rfl,rfl⟩;rw[Kw.o];have j:=Y;go_wp2_with fail;refine aa.o.mono ?_;rintro e w'⟨rfl,nq,rfl⟩;have d:Fr aD wr (wr.drewN nq):=(Fr.refl _ _).drewN nq;have y:=ae d;clear d;by_cases G:i+blk<a.length
     .have Kz:(i:Int)+blk< (a.length:Int):=U;obtain⟨BL,g⟩:True/\∀q,q<a.length->wr.cell? ⟨aO,bd+q,none⟩=some (.int .u8 (a.getD q 0).toNat):=by
       rcases C.o.cases with⟨h,-⟩|⟨afa,afb,afc,h,-,-,m7⟩
       .simp at h
       .simp only[eG,fK,qZ,kl,fF]at h;obtain⟨⟨rfl,rfl⟩,rfl⟩:=h;exact⟨trivial,m7⟩
      have ht:=g i U;have l6:=g (i+blk) U;have afd:=(a.getD i 0).toNat_lt;have afe:=(a.getD (i+blk) 0).toNat_lt;have AL:=ae (EP.o G);generalize(a.getD i 0).toNat=u0 at *;generalize(a.getD (i+blk) 0).toNat=oA at *;have yy:=ae (λm=>(Rf (az:Int) blk u0 oA (wr.drewN m) U U U U U U).mono (λ(e:Ending)(w':ab)(h:e=.returned (.int .u32 (pI az blk u0 oA))/\wr.drewN m=w')=>(⟨h.1,h.2.symm⟩:e=.returned (.int .u32 (pI az blk u0 oA))/\w'=wr.drewN m)));have w1:IntKind.i64.wrap ((i:Int)+blk)=(i:Int)+blk:=kt _ U;have l0:(i:Int)< (a.length:Int):=U;have l1:(0:Int)<=(i:Int)+blk:=U;clear g BL;go_wp2_with fail;go_quiet ((go_at_call 126;exact(yy.o _).mono (λ_ _ h=>⟨h.1,_,h.2⟩)))
      go_wp2_with fail;have R:∀m,Fr aD wr (wr.drewN m):=λm=>(Fr.refl _ _).drewN m;refine⟨⟨i+1,f,L,false,cS ((a.drop (i+1)).take blk),U,rfl,by rw[AL.o],ag,Ar _,λ_ _=>rfl,⟨c.o.wq.br (R _),c.o.hS,FE c.o.at_ c.o.hS.BJ n U E.o,c.o.bo.step (R _) (λ_ h _=>h),U,by simpa using H⟩⟩,by simp[intOf];omega⟩
     .have Kz:¬((i:Int)+blk< (a.length:Int)):=U;go_wp2_with fail;refine⟨⟨i+1,f,L,false,az,U,rfl,rfl,ag,j,λ_ h=>U,⟨c.o.wq.br y.o,c.o.hS,FE c.o.at_ c.o.hS.BJ n U E.o,c.o.bo.step y.o (λ_ h _=>h),U,by simpa using H⟩⟩,by simp[intOf];omega⟩
    |false=>
     obtain rfl:k=az:=O.o rfl P;clear hW J;have j:=W;go_wp2_with fail;refine aa.o.mono ?_;rintro e w'⟨rfl,nq,rfl⟩;have d:Fr aD wr (wr.drewN nq):=(Fr.refl _ _).drewN nq;have y:=ae d;clear d;by_cases G:i+blk<a.length
     .have Kz:(i:Int)+blk< (a.length:Int):=U;obtain⟨BL,g⟩:True/\∀q,q<a.length->wr.cell? ⟨aO,bd+q,none⟩=some (.int .u8 (a.getD q 0).toNat):=by
       rcases C.o.cases with⟨h,-⟩|⟨afa,afb,afc,h,-,-,m7⟩
       .simp at h
       .simp only[eG,fK,qZ,kl,fF]at h;obtain⟨⟨rfl,rfl⟩,rfl⟩:=h;exact⟨trivial,m7⟩
      have ht:=g i U;have l6:=g (i+blk) U;have afd:=(a.getD i 0).toNat_lt;have afe:=(a.getD (i+blk) 0).toNat_lt;have AL:=ae (EP.o G);generalize(a.getD i 0).toNat=u0 at *;generalize(a.getD (i+blk) 0).toNat=oA at *;have yy:=ae (λm=>(Rf (k:Int) blk u0 oA (wr.drewN m) U U U U U U).mono (λ(e:Ending)(w':ab)(h:e=.returned (.int .u32 (pI k blk u0 oA))/\wr.drewN m=w')=>(⟨h.1,h.2.symm⟩:e=.returned (.int .u32 (pI k blk u0 oA))/\w'=wr.drewN m)));have w1:IntKind.i64.wrap ((i:Int)+blk)=(i:Int)+blk:=kt _ U;have l0:(i:Int)< (a.length:Int):=U;have l1:(0:Int)<=(i:Int)+blk:=U;clear g BL;go_wp2_with fail;go_quiet ((go_at_call 126;exact(yy.o _).mono (λ_ _ h=>⟨h.1,_,h.2⟩)))
      go_wp2_with fail;have R:∀m,Fr aD wr (wr.drewN m):=λm=>(Fr.refl _ _).drewN m;refine⟨⟨i+1,f,L,false,cS ((a.drop (i+1)).take blk),U,rfl,by rw[AL.o],ag,Ar _,λ_ _=>rfl,⟨c.o.wq.br (R _),c.o.hS,FE c.o.at_ c.o.hS.BJ n U E.o,c.o.bo.step (R _) (λ_ h _=>h),U,by simpa using H⟩⟩,by simp[intOf];omega⟩
     .have Kz:¬((i:Int)+blk< (a.length:Int)):=U;go_wp2_with fail;refine⟨⟨i+1,f,L,false,k,U,rfl,rfl,ag,j,λ_ h=>U,⟨c.o.wq.br y.o,c.o.hS,FE c.o.at_ c.o.hS.BJ n U E.o,c.o.bo.step y.o (λ_ h _=>h),U,by simpa using H⟩⟩,by simp[intOf];omega⟩
  .have auY:¬((i:Int)+blk<=(a.length:Int)):=U;have i5:(i:Int)+blk<=600:=U;have i0:(0:Int)<=(i:Int):=U;have m3:=c.o.hS.len;go_wp2_with fail;refine(Jn wr (s+1) s _ a f a.length L c.o.wq U U (bh _) U U C.o (λb hb=>by have:=H1.o.ko b hb;have:=A.o;omega) _ rfl).mono ?_;rintro e pb⟨rfl,u,r⟩;rw[aeX c.o.at_ c.o.hS.BJ n af U]at u;have q9:=r.size;obtain⟨fD,l,ap,mX,bO⟩:=u.mem;have l6:=ap.cell (i:=1) rfl;have FG:=ae mX;have r5:=ae bO;have Q:=ae r;clear ap mX bO u r;go_wp2_with fail;go_ret2;exact⟨fD,l,rfl,FG.o.lift (by have:=A.o;omega),r5.o,S.o.step (c.o.bo.step Q.o (λk hk bO=>by have:=A.o;rcases hk with h|h<;>omega)) (λ_ h _=>h)⟩
end Go.Proofs.YtlcdgbhigfgehabGreatDoor
namespace Go.Proofs.YtlcdgbhigfgehabGreatDoor
open Go.RowKit

def qd(block:Int)(n m:Nat):Int:=if sized block n=0 then sized block m else sized block n
def aff(bE v1:ai)(base a:ar)(block:Int)(w:ab)(j:bH w bE base)(k:bH w v1 a)(b:qd block base.length a.length≠0): Calls aj.prog 77 #[bE,v1,.int .i64 block] w λe w'=>e=.returned (.tuple #[.slice none 0 0,o7 (qd block base.length a.length)])/\Fr aD w w':=by
 obtain⟨c,d,rfl,m,n⟩:=j.shape;obtain⟨f,g,rfl,o,p⟩:=k.shape;have hk:=Fo block w.heap.size 2 [(c,base.length,d),(f,a.length,g)] (w.alloc (.cells #[.slice c base.length d,.slice f a.length g] 25)) (λi h=>by
   have:i=0\/i=1:=(by simp at h;omega);rcases this with rfl|rfl<;>simp) ag (by intro x l;simp at l;rcases l with rfl|rfl<;>simp<;>omega)
 rw[show[(c,base.length,d),(f,a.length,g)].map (·.2.1)=[base.length,a.length]from rfl,SP,show(if sized block base.length=0 then sized block a.length else sized block base.length)=qd block base.length a.length from rfl,Bs _ b]at hk;have q:=ae hk;have r:=ae b;clear hk b j k;go_enter aj.func77,Tryz.ntmps77;go_wp2_with fail;refine q.o.mono ?_;rintro e w'⟨rfl,rfl⟩;go_wp2_with fail;go_ret2;exact⟨by rw[Bs _ r.o];rfl,(Fr.refl _ _).alloc _⟩
def afg(w:ab)(base data:ar)(block:Int)(r:ai->ai)(e:Ending)(w':ab):Prop:=∃x l,e=.returned (.tuple #[x,r (.int .i64 (qd block base.length data.length))])/\Fr aD w w'/\ej w' w.heap.size x l/\(qd block base.length data.length≠0->x=.slice none 0 0/\l=[])/\(qd block base.length data.length=0->l.map (·.1)=nz base data block.toNat)
def TK(v:ai):ai:=match v with| .int _ k=>o7 k|_=>v
def afh(bE v1:ai)(base b:ar)(block:Int)(w:ab)(g:bH w bE base)(i:bH w v1 b): Calls aj.prog 77 #[bE,v1,.int .i64 block] w (afg w base b block TK):=by
 by_cases c:qd block base.length b.length=0
 .have d:sized block base.length=0:=by
   unfold qd at c;split at c
   .assumption
   .exact c
  have f:sized block b.length=0:=by
   unfold qd at c;rw[aV d]at c;exact c
  have j:1<=block:=by
   unfold sized at d;split at d<;>omega
  obtain⟨blk,rfl⟩:=pO (a:=block) U;refine(ae4 bE v1 base b blk w g i d f).mono ?_;rintro e w'⟨k,l,rfl,m,n,o⟩;exact⟨k,l,by rw[c];rfl,o,m,λh=>absurd c h,λ_=>n⟩
 .refine(aff bE v1 base b block w g i c).mono ?_;rintro e w'⟨rfl,h⟩;exact⟨_,[],rfl,h,ej.nil _ _,λ_=>⟨rfl,rfl⟩,λh=>absurd h c⟩
end Go.Proofs.YtlcdgbhigfgehabGreatDoor
