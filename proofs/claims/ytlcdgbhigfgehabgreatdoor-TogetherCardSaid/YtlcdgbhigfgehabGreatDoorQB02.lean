import Derived.Test.YtlcdgbhigfgehabGreatDoorQ00
import Derived.WalkKit
import Derived.Laws.CopyOwn
import Derived.Lib.Hide
import Derived.Deep.QuietTactic
import Derived.BigQuiet
import Derived.Laws.BytesArg
import Derived.Laws.IdiomStrings
import Derived.SliceStrings
import Derived.ChangeShapes
set_option linter.all false
set_option maxRecDepth 100000
set_option maxHeartbeats 16000000
namespace Go.Proofs.YtlcdgbhigfgehabGreatDoor
open Go.RowKit
def Own(w:ab)(g:Nat)(T:TypeId)(xs:bJ):Prop:=∃bo:Nat×Nat,w.heap[g]? =some (.cells xs.toArray T bo)/\(xs.length<=bo.1\/bo.2=0)
structure Fr(S:Nat->Prop)(w w':ab):Prop where
 os:w'.os=w.os
 tape:w'.tape=w.tape
 output:w'.output=w.output
 size:w.heap.size<=w'.heap.size
 block:∀k,k<w.heap.size->¬S k->w'.heap[k]? =w.heap[k]?
section
variable{w w' w1 w2:World}{S S':Nat->Prop}{g:Nat}{T:TypeId}{xs:List Value}
def Own.lt(h:Own w g T xs):g<w.heap.size:=by
 obtain⟨a,h,_⟩:=h;exact(bQ.1 h).1
def Own.cell?(h:Own w g T xs)(i:Nat):w.cell? ⟨g,i,none⟩=xs[i]? :=by
 obtain⟨a,h,_⟩:=h;simp[World.cell?,h]
def Own.cell(h:Own w g T xs){i:Nat}{v:ai}(af:xs[i]? =some v):w.cell? ⟨g,i,none⟩=some v:=(h.cell? i).trans af
def Own.free(h:Own w g T xs)(i:Nat)(af:i<xs.length):w.frozen? ⟨g,i,none⟩=false:=by
 obtain⟨b,h,a⟩:=h;simp only[World.frozen?,h];rcases a with a|a
 .simp;intro;omega
 .simp[a]
def Own.of_heap(h:w.heap[g]? =some (.cells xs.toArray T (0,0))):Own w g T xs:=⟨_,h,.inr rfl⟩
def Own.alloc(w:ab)(a:aQ)(T:TypeId):Own (w.alloc (.cells a T)) w.heap.size T a.toList:=⟨(0,0),by simpa using heap_alloc_new w (.cells a T),.inr rfl⟩
def Own.set(h:Own w g T xs)(i:Nat)(v:ai):Own (w.setCell ⟨g,i,none⟩ v) g T (xs.set i v):=by
 obtain⟨a,h,b⟩:=h;refine⟨a,?_,by simpa using b⟩;simp only[World.setCell,fA,aV,h];simp
def Own.eq{b:bJ}{c:TypeId}(h:Own w g T xs)(a:Own w g c b):xs=b:=by
 obtain⟨e,h,_⟩:=h;obtain⟨d,a,_⟩:=a;rw[h]at a;simp at a;exact a.1
def Fr.refl(S:Nat->Prop)(w:ab):Fr S w w:=⟨rfl,rfl,rfl,bh _,λ_ _ _=>rfl⟩
def Fr.step(h:Fr S w w1)(k:Fr S' w1 w2)(b:∀k,S' k->k<w.heap.size->S k):Fr S w w2:=⟨k.os.trans h.os,k.tape.trans h.tape,k.output.trans h.output,dU h.size k.size,λi af a=>(k.block i (fl af h.size) (λc=>a (b i c af))).trans (h.block i af a)⟩
def Fr.mono(h:Fr S w w1)(a:∀k,S k->k<w.heap.size->S' k):Fr S' w w1:=⟨h.os,h.tape,h.output,h.size,λi af b=>h.block i af (λc=>b (a i c af))⟩
def Fr.drew(h:Fr S w w1):Fr S w w1.drew:=⟨h.os,h.tape,h.output,h.size,h.block⟩
def Fr.drewN(h:Fr S w w1)(n:Nat):Fr S w (w1.drewN n):=⟨h.os,h.tape,h.output,h.size,h.block⟩
def Fr.alloc(h:Fr S w w1)(o:Obj):Fr S w (w1.alloc o):=h.step (S':=λ_=>False) ⟨rfl,rfl,rfl,ag,λk hk _=>Below.heap_alloc w1 o k hk⟩ (λ_ h=>h.elim)
def Fr.setCell(h:Fr S w w1)(a:Addr)(v:ai)(b:a.block<w.heap.size->S a.block):Fr S w (w1.setCell a v):=h.step (S':=λk=>k=a.block) ⟨rfl,rfl,rfl,ag,λk _ hk=>Below.heap_setCell w1 a v k hk⟩ (λ_ h c=>by subst h;exact b c)
def Own.keep(h:Own w g T xs)(k:Fr S w w1)(b:¬S g):Own w1 g T xs:=by
 obtain⟨c,a,d⟩:=h;exact⟨c,(k.block g (bQ.1 a).1 b).trans a,d⟩
def Fr.cell(h:Fr S w w1){a:Addr}{v:ai}(b:w.cell? a=some v)(c:¬S a.block):w1.cell? a=some v:=by rw[World.cell?_of_block (h.block a.block (World.block_lt_of_cell? w a b) c)];exact b
end
def bT(l:ar):bJ:=l.map λc=>.int .u8 c.toNat
@[simp] def IZ(l:ar):(bT l).length=l.length:=by simp[bT]
def nx(l m:ar):bT (l++m)=bT l++bT m:=by simp[bT]
def Q5(l:ar)(i:Nat)(h:i<l.length):(bT l)[i]? =some (.int .u8 (l[i]).toNat):=by simp[bT,h]
def pK(l:ar):∀v∈bT l,v.oneCell'=true:=by
 intro v a;simp only[bT,og]at a;obtain⟨b,_,rfl⟩:=a;rfl
def bH(w:ab)(v:ai)(l:ar):Prop:=(v=.slice none 0 0/\l=[])\/∃b off cap cur,∃bo:Nat×Nat,v=.slice (some ⟨b,off,none⟩) l.length cap/\l.length<=cap/\cap<=maxLen/\w.heap[b]? =some (.cells cur 5 bo)/\∀i,i<l.length->cur[off+i]? =some (.int .u8 (l.getD i 0).toNat)
section
variable{w w1:World}{S:Nat->Prop}{v:Value}{l:List UInt8}
def bH.keep(h:bH w v l)(k:Fr S w w1)(e:∀b,v.ownBlock=some b->¬S b):bH w1 v l:=by
 rcases h with h|⟨b,a,cap,c,f,rfl,g,i,d,j⟩
 .exact .inl h
 .exact .inr ⟨b,a,cap,c,f,rfl,g,i,(k.block b (bQ.1 d).1 (e b rfl)).trans d,j⟩
def bH.br(h:bH w v l)(k:Fr aD w w1):bH w1 v l:=h.keep k (λ_ _ h=>h)
def bH.apart{g T:Nat}{xs:bJ}(h:bH w v l)(ap:Own w g T xs)(c:T≠5):v.ownBlock≠some g:=by
 rcases h with⟨rfl,_⟩|⟨b,d,cap,e,j,rfl,k,m,f,n⟩
 .simp[Value.ownBlock]
 .intro a;simp[Value.ownBlock]at a;subst a;obtain⟨i,ap,_⟩:=ap;rw[f]at ap;simp at ap;exact c ap.2.1.symm
def bH.cases(h:bH w v l):(v=.slice none 0 0/\l=[])\/∃b a cap,v=.slice (some ⟨b,a,none⟩) l.length cap/\l.length<=cap/\cap<=maxLen/\∀i,i<l.length->w.cell? ⟨b,a+i,none⟩=some (.int .u8 (l.getD i 0).toNat):=by
 rcases h with h|⟨b,a,cap,c,j,rfl,d,e,f,g⟩
 .exact .inl h
 .exact .inr ⟨b,a,cap,rfl,d,e,λi af=>by simp only[World.cell?,f];simpa using g i af⟩
def bH.shape(h:bH w v l):∃a cap,v=.slice a l.length cap/\l.length<=cap/\cap<=maxLen:=by
 rcases h with⟨rfl,rfl⟩|⟨b,c,cap,d,g,rfl,e,f,_⟩
 .exact⟨_,_,rfl,bh _,dl _⟩
 .exact⟨_,_,rfl,e,f⟩
def bH.len(h:bH w v l):l.length<=maxLen:=by have⟨_,_,_,a,b⟩:=h.shape;omega
def bH.part{b a cap:Nat}(h:bH w (.slice (some ⟨b,a,none⟩) l.length cap) l)(i j c:Nat)(n:i<=j)(t:j<=l.length)(o:j - i<=c)(p:c<=maxLen): bH w (.slice (some ⟨b,a+i,none⟩) (j - i) c) ((l.drop i).take (j - i)):=by
 rcases h with⟨h,_⟩|⟨u,f,g,d,q,m,v,x,r,s⟩
 .simp at h
 .simp at m;obtain⟨⟨rfl,rfl⟩,rfl⟩:=m;have e:((l.drop i).take (j - i)).length=j - i:=a5;refine .inr ⟨b,a+i,c,d,q,by rw[e],by rw[e];exact o,p,r,λk hk=> ?_⟩;rw[e]at hk;rw[oh,s (i+k) U];simp only[pL,List.getElem?_take,IS];rw[aV hk]
def bH.I0{g:Nat}{xs rest:bJ}{pre:ar}{cap:Nat}(h:Own w g 5 xs)(a:xs=bT pre++bT l++rest)(b:l.length<=cap)(c:cap<=maxLen): bH w (.slice (some ⟨g,pre.length,none⟩) l.length cap) l:=by
 obtain⟨d,h,_⟩:=h;refine .inr ⟨g,pre.length,cap,_,d,rfl,b,c,h,λi af=> ?_⟩;rw[xS,a,gY,Ei ag,gx a5];simp only[IZ,Ej];rw[Q5 l i af,pL,fb af];rfl
def bH.Q6{g:Nat}{xs rest:bJ}{cap:Nat}(h:Own w g 5 xs)(a:xs=bT l++rest)(b:l.length<=cap)(c:cap<=maxLen): bH w (.slice (some ⟨g,0,none⟩) l.length cap) l:=by
 have:=bH.I0 (pre:=[]) (l:=l) (rest:=rest) h (by simpa[bT]using a) b c;simpa using this
end
section laws
variable{P:Program}
def I1(g o:Nat)(t:TypeId):∀(vs:bJ)(i:Nat)(xs:bJ)(w:ab),Own w g t xs->o+i+vs.length<=xs.length->(∀v∈vs,v.oneCell'=true)->∃w',(storeCells ⟨g,o,none⟩ vs i).run P w=.ok () w'/\Own w' g t (xs.take (o+i)++vs++xs.drop (o+i+vs.length))/\Fr (λk=>k=g) w w'/\w'.heap.size=w.heap.size/\w'.drawn=w.drawn
 |[],i,xs,w,cC,_,_=>⟨w,rfl,by simpa using cC,Fr.refl _ _,rfl,rfl⟩
 |v::rest,i,xs,w,cC,bO,bD=>by
  simp only[hJ]at bO;have af:o+i<xs.length:=U;have a:(⟨g,o,none⟩:Addr).add i=⟨g,o+i,none⟩:=(by unfold Addr.add;split<;>simp_all);have b:(store ((⟨g,o,none⟩:Addr).add i) v).run P w=.ok () (w.setCell ⟨g,o+i,none⟩ v):=by
   rw[a,run_store P w _ v _ (bD v ag),cC.cell? (o+i),fb af];simp[cC.free _ af]
  have⟨w',d,c,f,h,j⟩:=I1 g o t rest (i+1) _ _ (cC.set (o+i) v) a5 (λx l=>bD x (by simp[l]));refine⟨w',?_,?_,?_,?_,?_⟩
  .simp only[storeCells,Sem.run_bind,b,Result.andThen_ok,d]
  .have e:=list_seg_step xs (o+i) v rest U;rw[show o+ (i+1)=o+i+1 from rfl,e]at c;simpa[oh]using c
  .exact(Fr.setCell (Fr.refl (λk=>k=g) w) ⟨g,o+i,none⟩ v (λ_=>rfl)).step f (λk hk _=>hk)
  .rw[h];simp
  .rw[j];simp
def tw(s:dI):(⟨s.data.toList.toArray⟩:dI)=s:=by cases s;simp
def xT(w:ab)(src a e:TypeId)(v:ai)(l:ar)(f:P.underlying src=some (.slice e))(g:P.underlying e=some (.int .u8))(hd:P.underlying a=some .string)(h:bH w v l):(convert src a v).run P w=.ok (.string ⟨l.toArray⟩) w:=by
 rcases h.cases with⟨rfl,rfl⟩|⟨b,d,cap,rfl,m,n,k⟩
 .exact run_convert_bytes_nil w src e f g 0 0 a hd
 .refine run_convert_bytes_back w src a e _ cap l f g hd (λj i=> ?_);have c:(⟨b,d,none⟩:Addr).add j=⟨b,d+j,none⟩:=(by unfold Addr.add;split<;>simp_all);rw[c,k j i,pL,fb i];rfl
def aad(w:ab)(src a e:TypeId)(s:dI)(b:P.underlying src=some .string)(hd:P.underlying a=some (.slice e))(c:P.underlying e=some (.int .u8))(g:s.size<=140737488355328): ∃cap rest w',(convert src a (.string s)).run P w=.ok (.slice (some ⟨w.heap.size,0,none⟩) s.size cap) w'/\s.size<=cap/\cap<=maxLen/\Own w' w.heap.size e (bT s.data.toList++rest)/\s.size+rest.length=cap/\Fr aD w w'/\w'.heap.size=w.heap.size+1/\(∀v∈rest,v=Value.int .u8 0):=by
 refine⟨grownCap w s.size 0 e,List.replicate (grownCap w s.size 0 e - s.size) (Value.int .u8 0),_,run_bytes_of_string w src a e s b hd c,grownCap_ge ..,grownCap_le_maxLen _ _ _ _ (by simp only[maxLen];omega),?_,?_,?_,?_,?_⟩
 .have d:bytesRow s (grownCap w s.size 0 e)=(bT s.data.toList++List.replicate (grownCap w s.size 0 e - s.size) (Value.int .u8 0)).toArray:=(by simp[bytesRow,bT]);rw[d];exact⟨((bT s.data.toList++List.replicate (grownCap w s.size 0 e - s.size) (Value.int .u8 0)).toArray.size,_),heap_alloc_new w.drew _,.inl ag⟩
 .have:=grownCap_ge w s.size 0 e;simp;omega
 .exact Fr.alloc (Fr.drew (Fr.refl _ w)) _
 .simp
 .intro v f;exact(List.mem_replicate.1 f).2
def Q7(w:ab)(src a e:TypeId)(v:ai)(l:ar)(b:P.underlying src=some (.slice e))(c:P.underlying e=some (.int .u8))(hd:P.underlying a=some .string)(h:bH w v l):∀nq,(convert src a v).run P (w.drewN nq)=.ok (.string ⟨l.toArray⟩) (w.drewN nq):=λnq=>xT _ src a e v l b c hd (h.br (Fr.drewN (Fr.refl _ w) nq))
end laws
end Go.Proofs.YtlcdgbhigfgehabGreatDoor
namespace Go.Proofs.YtlcdgbhigfgehabGreatDoor
open Go.RowKit
def Vec(w:ab)(B:Nat)(T:TypeId)(aK:Nat)(v:ai)(n:Nat)(xs:bJ):Prop:=xs.length=n*aK/\((v=.slice none 0 0/\n=0)\/∃g cap rest,v=.slice (some ⟨g,0,none⟩) n cap/\B<=g/\Own w g T (xs++rest)/\(xs++rest).length=cap*aK/\n<=cap/\cap<=maxLen)
section
variable{w w':World}{S:Nat->Prop}{B:Nat}{T:TypeId}{aK:Nat}{v:Value}{n:Nat}{xs:List Value}
def Vec.nil(w:ab)(B:Nat)(T:TypeId)(aK:Nat):Vec w B T aK (.slice none 0 0) 0 []:=⟨ag,.inl ⟨rfl,rfl⟩⟩
def Vec.keep(h:Vec w B T aK v n xs)(k:Fr S w w')(a:∀b,v.ownBlock=some b->¬S b):Vec w' B T aK v n xs:=by
 refine⟨h.1,?_⟩;rcases h.2 with h|⟨g,cap,rest,rfl,c,d,e⟩
 .exact .inl h
 .exact .inr ⟨g,cap,rest,rfl,c,d.keep k (a g rfl),e⟩
def Vec.mono{B':Nat}(h:Vec w B T aK v n xs)(b:B'<=B):Vec w B' T aK v n xs:=by
 refine⟨h.1,?_⟩;rcases h.2 with h|⟨g,cap,rest,rfl,c,a⟩
 .exact .inl h
 .exact .inr ⟨g,cap,rest,rfl,U,a⟩
def Vec.lt(h:Vec w B T aK v n xs):∀b,v.ownBlock=some b->B<=b/\b<w.heap.size:=by
 intro b a;rcases h.2 with⟨rfl,_⟩|⟨g,cap,rest,rfl,c,d,_⟩
 .simp[Value.ownBlock]at a
 .simp[Value.ownBlock]at a;subst a;exact⟨c,d.lt⟩
def Vec.shape(h:Vec w B T aK v n xs):∃a cap,v=.slice a n cap/\n<=cap/\cap<=maxLen/\(a=none->n=0/\cap=0):=by
 rcases h.2 with⟨rfl,rfl⟩|⟨g,cap,rest,rfl,_,_,_,b,c⟩
 .exact⟨none,0,rfl,bh _,dl _,λ_=>⟨rfl,rfl⟩⟩
 .exact⟨_,cap,rfl,b,c,λh=>by cases h⟩
def Vec.len(h:Vec w B T aK v n xs):n<=maxLen:=by have⟨a,cap,_,b,c,_⟩:=h.shape;omega
def Vec.row(h:Vec w B T aK v n xs)(a:0<n):∃g cap rest,v=.slice (some ⟨g,0,none⟩) n cap/\B<=g/\Own w g T (xs++rest)/\(xs++rest).length=cap*aK/\n<=cap/\cap<=maxLen:=by
 rcases h.2 with⟨rfl,rfl⟩|h
 .omega
 .exact h
def Vec.isB{l:ar}(h:Vec w B 5 1 v l.length (bT l)):bH w v l:=by
 rcases h.2 with⟨rfl,a⟩|⟨g,cap,rest,rfl,_,b,_,c,d⟩
 .exact .inl ⟨rfl,tv.1 a⟩
 .exact bH.Q6 b rfl c d
end
def Reads(w:ab)(x:ai)(m:Nat)(news:bJ):Prop:=(x=.slice none 0 0/\m=0/\news=[])\/∃b off c,x=.slice (some ⟨b,off,none⟩) m c/\∀j u,news[j]? =some u->w.cell? ⟨b,off+j,none⟩=some u
def Reads.pM{w:ab}{x:ai}{l:ar}(h:bH w x l):Reads w x l.length (bT l):=by
 rcases h.cases with⟨rfl,rfl⟩|⟨b,a,cap,rfl,_,_,e⟩
 .exact .inl ⟨rfl,rfl,rfl⟩
 .refine .inr ⟨b,a,cap,rfl,λj u c=> ?_⟩;have d:j<l.length:=(by have:=(qV.1 c).1;simpa using this);rw[Q5 l j d]at c;rw[e j d,<-c,pL,fb d];rfl
def Reads.I0{w:ab}{g:Nat}{T:TypeId}{xs:bJ}(h:Own w g T xs)(m c:Nat):Reads w (.slice (some ⟨g,0,none⟩) m c) m xs:=.inr ⟨g,0,c,rfl,λj u a=>by rw[lY];exact h.cell a⟩
def Reads.new(w:ab)(a:aQ)(T:TypeId)(g:Nat)(b:g=w.heap.size)(m c:Nat):Reads (w.alloc (.cells a T)) (.slice (some ⟨g,0,none⟩) m c) m a.toList:=by
 subst b;exact Reads.I0 (Own.alloc w a T) m c
section
variable{P:Program}
def Ek(b a j:Nat):(⟨b,a,none⟩:Addr).add j=⟨b,a+j,none⟩:=by unfold Addr.add;split<;>simp_all
def I2(w:ab)(B:Nat)(t O e:TypeId)(i:TypeInfo)(z:ai)(size bytes:Nat)(D:P.underlying t=some (.slice e))(af:P.info? e=some i)(Z:i.zero=some z)(E:i.size=size)(Q:i.bytes=bytes)(R:z.cells.size=size)(v:ai)(n:Nat)(xs:bJ)(d:Vec w B e size v n xs)(x:ai)(m:Nat)(news:bJ)(cD:Reads w x m news)(aa:news.length=m*size)(bD:∀u∈news,u.oneCell'=true)(J:n+m<=maxLen)(l:(n+m)*bytes<=140737488355328)(c8:B<=w.heap.size): ∃v' w',(Builtin.append_ #[t,t] O #[v,x]).run P w=.ok v' w'/\Vec w' B e size v' (n+m) (xs++news)/\Fr (λk=>v.ownBlock=some k) w w'/\(v'.ownBlock=v.ownBlock\/∃g,v'.ownBlock=some g/\w.heap.size<=g)/\(v'=.slice none 0 0↔v=.slice none 0 0/\m=0):=by
 subst E;subst Q;have L:n+m<=9223372036854775807:=(by simp only[maxLen]at J;omega);have r:(xs++news).length=(n+m)*i.size:=(by rw[cr,d.1,aa,fJ]);have s:∀(old:Nat),old<n+m->Vec (w.drew.alloc (.cells (xs.toArray++news.toArray++Builtin.zeroCells z.cells (grownCap w (n+m) old e - (n+m))) e)) B e i.size (.slice (some ⟨w.heap.size,0,none⟩) (n+m) (grownCap w (n+m) old e)) (n+m) (xs++news)/\Fr (λk=>v.ownBlock=some k) w (w.drew.alloc (.cells (xs.toArray++news.toArray++Builtin.zeroCells z.cells (grownCap w (n+m) old e - (n+m))) e)):=by
  intro old ap;have S:=grownCap_ge w (n+m) old e;have F:grownCap w (n+m) old e<=maxLen:=grownCap_le_maxLen w (n+m) old e J;have T:(xs++news++ (Builtin.zeroCells z.cells (grownCap w (n+m) old e - (n+m))).toList).length=grownCap w (n+m) old e*i.size:=by
   rw[cr,r,El,size_zeroCells,R,<-fJ];congr 1;omega
  refine⟨⟨r,.inr ⟨w.heap.size,grownCap w (n+m) old e,(Builtin.zeroCells z.cells (grownCap w (n+m) old e - (n+m))).toList,rfl,c8,?_,T,S,F⟩⟩,?_⟩
  .have:=Own.alloc w.drew (xs.toArray++news.toArray++Builtin.zeroCells z.cells (grownCap w (n+m) old e - (n+m))) e;simpa using this
  .exact Fr.alloc (Fr.drew (Fr.refl _ w)) _
 by_cases G:m=0
 .subst G;have az:news=[]:=vy (by simpa using aa);subst az;refine⟨v,w,?_,by simpa using d,Fr.refl _ _,.inl rfl,ag⟩;obtain⟨a,cap,rfl,A,-,Av⟩:=d.shape;have K:∀(p:Addr),(storeCells p [] 0).run P w=.ok () w:=λp=>rfl;rcases cD with⟨rfl,-,-⟩|⟨b,o,c,rfl,-⟩
  .cases a with
   |none=>simp[Builtin.append_,run_underlying D,sizeOf,typeInfo,af,Builtin.lenOf,A,Builtin.firstCells]
   |some a=>simp[Builtin.append_,run_underlying D,sizeOf,typeInfo,af,Builtin.lenOf,A,Builtin.firstCells,K]
  .have M:=run_firstCells_some (P:=P) w i.size 0 ⟨b,o,none⟩ 0 c [] ag ag;cases a with
   |none=>simp[Builtin.append_,run_underlying D,sizeOf,typeInfo,af,Builtin.lenOf,A,M]
   |some a=>simp[Builtin.append_,run_underlying D,sizeOf,typeInfo,af,Builtin.lenOf,A,M,K]
 rcases cD with⟨_,cz,_⟩|⟨b,o,c,rfl,C⟩
 .exact absurd cz G
 have f:∀j u,news[j]? =some u->w.cell? ((⟨b,o,none⟩:Addr).add j)=some u:=λj u N=>(by rw[Ek];exact C j u N);rcases d.2 with⟨rfl,rfl⟩|⟨g,cap,rest,rfl,V,cC,H,Q8,F⟩
 .have W:xs=[]:=vy (by simpa using d.1);subst W;have X:=run_append_nil (P:=P) w t O e i z D af Z ⟨b,o,none⟩ m c news aa f U U (by have hb:=l;simp only[lY]at hb;omega);have q:=s 0 U;simp only[lY,mV]at q⊢;refine⟨_,_,X,?_,?_,.inr ⟨w.heap.size,rfl,bh _⟩,by simp[G]⟩
  .simpa using q.1
  .simpa using q.2
 .by_cases h:n+m<=cap
  .have y:n*i.size+news.length<=(xs++rest).length:=(by rw[aa,H,<-fJ];exact vt _ h);have⟨w',r1,r2,r3,rS,Aw⟩:=I1 (P:=P) g (n*i.size) e news 0 (xs++rest) w cC (by simpa using y) bD;have M:=run_firstCells_some (P:=P) w i.size m ⟨b,o,none⟩ m c news aa f;refine⟨.slice (some ⟨g,0,none⟩) (n+m) cap,w',?_,⟨r,.inr ⟨g,cap,rest.drop news.length,rfl,V,?_,?_,h,F⟩⟩,?_,.inl rfl,ag⟩
   .simp[Builtin.append_,run_underlying D,sizeOf,typeInfo,af,Builtin.lenOf,h,M,Addr.add_lit,r1]
   .have ay:(xs++rest).take (n*i.size+0)=xs:=(by rw[oY,<-d.1];exact Em);have aF:(xs++rest).drop (n*i.size+0+news.length)=rest.drop news.length:=by
     rw[oY,<-d.1,List.drop_append];simp[ty]
    rw[ay,aF]at r2;exact r2
   .rw[cr]at H y;rw[cr,cr,Ax,<-H,d.1];rw[d.1]at y;omega
   .exact r3.mono λk hk _=>by simp[Value.ownBlock,hk]
  .have Y:∀j u,xs[j]? =some u->w.cell? ((⟨g,0,none⟩:Addr).add j)=some u:=λj u N=>by
    rw[Ek,lY];exact cC.cell (by rw[gx ((qV.1 N).1)];exact N)
   have X:=run_append_grow (P:=P) w t O e i z D af Z ⟨g,0,none⟩ n cap xs d.1 Y ⟨b,o,none⟩ m c news aa f U U (growslice_fits U l);have q:=s cap U;exact⟨_,_,X,q.1,q.2,.inr ⟨w.heap.size,rfl,bh _⟩,ag⟩
def gZ(P:bF)(t e:TypeId)(size bytes:Nat):Prop:=∃i z,P.underlying t=some (.slice e)/\P.info? e=some i/\i.zero=some z/\i.size=size/\i.bytes=bytes/\z.cells.size=size
def gZ.mk{t e:TypeId}{z:ai}{size bytes:Nat}(a:P.underlying t=some (.slice e))(h:(P.info? e).map (λi=>(i.zero,i.size,i.bytes))=some (some z,size,bytes))(b:z.cells.size=size):gZ P t e size bytes:=by
 have⟨i,c,d,f,g⟩:=info_parts h;exact⟨i,z,a,c,d,f,g,b⟩
def fP{ops:dn}{rest:List Oper}{o:Oper}{a:Act}{w:ab}{Q:Exit->Act->ab->Prop}(j:o.guard=none)(s x:Operand)(t:TypeId)(ap:o.op=.call {callee:=.builtin .append,args:= #[s,x],argTypes:= #[t,t]})(B:Nat)(e:TypeId)(size b:Nat)(d:gZ P t e size b){v:ai}{n:Nat}{xs:bJ}(f:Vec w B e size v n xs)(q:a.eval s=v){xv:ai}{m:Nat}{news:bJ}(r:Reads w xv m news)(l:a.eval x=xv)(y:news.length=m*size)(A:∀u∈news,u.oneCell'=true)(p:n+m<=maxLen)(c:(n+m)*b<=140737488355328)(C:B<=w.heap.size)(h:∀v' w',Vec w' B e size v' (n+m) (xs++news)->Fr (λk=>v.ownBlock=some k) w w'->(v'.ownBlock=v.ownBlock\/∃g,v'.ownBlock=some g/\w.heap.size<=g)->(v'=.slice none 0 0↔v=.slice none 0 0/\m=0)->wpList P ops Q rest (a.put o.dst v') w'):wpList P ops Q (o::rest) a w:=by
 refine wpList_plain j λK D=> ?_;obtain⟨i,z,ay,aF,E,F,G,H⟩:=d;have⟨v',w',aa,J,L,M,N⟩:=I2 (P:=P) w B t o.type e i z size b ay aF E F G H v n xs f xv m news r y A p c C;unfold Oper.wp execOp;simp only[ap,resolve,invoke,builtin,Sem.run_bind,Sem.run_pure,Result.andThen_ok,List.map_toArray,mW,tz,q,l,aa];exact D _ _ (h v' w' J L M N)
end
end Go.Proofs.YtlcdgbhigfgehabGreatDoor
namespace Go.Proofs.YtlcdgbhigfgehabGreatDoor
open Go.RowKit Go.ChangeShapes
structure oj(w:ab)(a:Option Addr)(n:Nat)(z:tB):Prop where
 len:z.length=n
 at_:∀i(h:i<z.length),∃b off,a=some ⟨b,off,none⟩/\w.cell? ⟨b,off+i,none⟩=some (.string z[i])/\b<w.heap.size
def oj.keep{w w1:ab}{a:Option Addr}{n:Nat}{z:tB}(h:oj w a n z)(k:Fr aD w w1):oj w1 a n z:=⟨h.len,λi af=>by
  have⟨b,c,e,d,f⟩:=h.at_ i af;exact⟨b,c,e,k.cell d id,fl f k.size⟩⟩
def Rd{H:Type}{enc:TypeId×ai->H}{P:bF}{W:ab}{t e:TypeId}{a:Option Addr}{c cap:Nat}{x:DataW H×List MemPlace}(C:P.underlying t=some (.slice e))(D:P.underlying e=some .string)(E:P.cellsOf e=1){l:Nat}{F:Nat->Bool}{m:Bool}(h:DataW.trod enc P W 0 F m l t [.slice a c cap]=some x):∃z,oj W a c z/\(∀s∈z,s.size<=maxLen)/\c<=maxLen/\(x.1=.nil/\z=[]\/∃r,x.1=.slice (strs z) r):=by
 rcases open_strings C D E h with⟨d,u⟩|⟨a',A,B,k,d,-,L,M,G,u,f,v⟩
 .simp only[List.cons.injEq,eG,kl]at d;obtain⟨rfl,rfl,rfl⟩:=d;exact⟨[],⟨rfl,λi h=>by simp at h⟩,λs h=>by simp at h,eH,.inl ⟨by rw[u],rfl⟩⟩
 .simp only[List.cons.injEq,eG,kl]at d;obtain⟨rfl,rfl,rfl⟩:=d;have aa:c<=k.length:=(by rw[G];split<;>omega);refine⟨k.take c,⟨a5,λi af=> ?_⟩,λs J=>v s (List.mem_of_mem_take J),U,.inr ⟨_,by rw[u]⟩⟩;have K:i<c:=(by simpa using(Nat.lt_of_lt_of_le af (List.length_take_le _ _)));have n:i<k.length:=U;have o:=f i n;have w:k.getD i ByteArray.empty=(k.take c)[i]:=(by rw[pL,fb n];simp);rw[w]at o;have y:=f 0 U;obtain⟨b,p,q⟩:=a';have j:q=none:=by
   have:=World.cell?_spot y;simpa[Addr.add]using this
  subst j;have g:W.cell? ⟨b,p+i,none⟩=some (.string (k.take c)[i]):=(by rw[<-Ek];exact o);exact⟨b,p,rfl,g,World.block_lt_of_cell? W _ g⟩
end Go.Proofs.YtlcdgbhigfgehabGreatDoor
namespace Go.Proofs.YtlcdgbhigfgehabGreatDoor
open Go.RowKit
def il(w:ab):Prop:=∃T u,w.cell? ⟨1,0,none⟩=some (.iface T u)
def il.keep{w w1:ab}(h:il w)(k:Fr aD w w1):il w1:=by
 obtain⟨T,u,h⟩:=h;exact⟨T,u,k.cell h id⟩
end Go.Proofs.YtlcdgbhigfgehabGreatDoor
