import Derived.Test.YtlcdgbhigfgehabGreatDoorQ00
set_option linter.all false
set_option maxRecDepth 100000
set_option maxHeartbeats 16000000
namespace Go.aS
inductive Pc where
 |ld|l0|r0|sq|c1|r1|c2|t1|s1|t2|r2|a1|r3|le|la|ur|ud|u0|uc|ux|us|ue|out|bad
 deriving DecidableEq,Repr
structure a6 where
 bC:Bool:=false
 wk:Bool:=false
 a4:Bool:=false
 q:Nat:=0
 deriving DecidableEq,Repr
structure Th where
 pc:Pc
 old:a6:={}
 aw:Bool:=false
 sv:Bool:=false
 ws:Bool:=false
 ij:Bool:=false
 it:Nat:=0
 deriving DecidableEq,Repr
structure Sh where
 x:a6:={}
 m:Nat:=0
 deriving DecidableEq,Repr
def Th.new(T:Th):a6:={bC:=T.old.bC|| !T.old.a4,wk:=T.old.wk && !T.aw,a4:=T.old.a4||(T.sv && T.old.bC),q:=T.old.q+ (if T.old.bC||T.old.a4 then 1 else 0)}
def eS(T:Th):Th:=if T.aw && !T.old.wk then{T with pc:=.bad}else{T with pc:=.c2}
def hd(T:Th):Th:=if T.old.bC && !T.old.a4 then{T with pc:=.sq}else eS T
def fw(T:Th):Th:=if T.old.q=0\/T.old.bC\/T.old.wk\/T.old.a4 then{T with pc:=.ue}else{T with pc:=.uc}
def mv(T:Th)(s:Sh):List (Th×Sh):=match T.pc with
 |.ld=> [({T with pc:=.l0},s)]
 |.l0=>if s.x={}then[({T with pc:=.le},{s with x:={bC:=true}})]else[({T with pc:=.r0},s)]
 |.r0=> [(hd {T with old:=s.x,aw:=false,sv:=false,ws:=false,it:=0},s)]
 |.sq=>(eS T,s)::(if T.it<4 then[(if !T.aw && !T.old.wk && T.old.q !=0 then{T with pc:=.c1}else{T with pc:=.r1},s)]else[])
 |.c1=>if s.x=T.old then[({T with pc:=.r1,aw:=true},{s with x:={T.old with wk:=true}})]else[({T with pc:=.r1},s)]
 |.r1=> [(hd {T with old:=s.x,it:=T.it+1},s)]
 |.c2=>if s.x=T.old then(if !T.old.bC && !T.old.a4 then[({T with pc:=.le},{s with x:=T.new})]else[({T with pc:=if T.ws then .s1 else .t1},{s with x:=T.new})])else[({T with pc:=.r3},s)]
 |.t1=> [({T with pc:=.s1},s),({T with pc:=.s1,ws:=true},s)]
 |.s1=>if s.m=0 then[]else[({T with pc:=if T.sv then .r2 else .t2},{s with m:=s.m - 1})]
 |.t2=> [({T with pc:=.r2},s),({T with pc:=.r2,sv:=true},s)]
 |.r2=>if s.x.a4 then(if s.x.bC||s.x.wk||s.x.q==0 then[({T with pc:=.bad},s)]else[({T with pc:=.a1,old:=s.x,ij:= !T.sv||s.x.q==1},s)])else[(hd {T with old:=s.x,aw:=true,it:=0},s)]
 |.a1=> [({T with pc:=.le},{s with x:={s.x with bC:=true,a4:=s.x.a4 && !T.ij,q:=s.x.q - 1}})]
 |.r3=> [(hd {T with old:=s.x},s)]
 |.le=> [({T with pc:=.la},s)]
 |.la=> [({T with pc:=.ur},s)]
 |.ur=> [({T with pc:=.ud},s)]
 |.ud=> [({T with pc:=.u0},s)]
 |.u0=>let y:={s.x with bC:=false};[(if y={}then{T with pc:=.ue}else if y.a4 then{T with pc:=.us}else fw {T with old:=y},{s with x:=y})]
 |.uc=>if s.x=T.old then[({T with pc:=.us},{s with x:={T.old with q:=T.old.q - 1,wk:=true}})]else[({T with pc:=.ux},s)]
 |.ux=> [(fw {T with old:=s.x},s)]
 |.us=> [({T with pc:=.ue},{s with m:=s.m+1})]
 |.ue=> [({T with pc:=.out},s)]
 |.out=> []
 |.bad=> []
def ds:Nat->(Nat->Nat)->Nat
 |0,_=>0
 |n+1,f=>ds n f+f n
def upd{α:Type}(f:Nat->α)(i:Nat)(v:α):Nat->α:=λj=>if j=i then v else f j
def akN{n:Nat}{f g:Nat->Nat}(h:∀i,i<n->f i=g i):ds n f=ds n g:=by
 induction n with
 |zero=>rfl
 |succ n a=>simp only[ds];rw[a λi af=>h i U,h n U]
def akO{α:Type}(W:α->Nat)(th:Nat->α){n i:Nat}(af:i<n)(v:α):ds n (λj=>W (upd th i v j))+W (th i)=ds n (λj=>W (th j))+W v:=by
 induction n with
 |zero=>omega
 |succ n a=>
  simp only[ds];by_cases h:i=n
  .subst h;rw[akN (f:=λj=>W (upd th i v j)) (g:=λj=>W (th j)) λj b=>by simp only[upd];rw[aC U]];simp only[upd,dd];omega
  .have:=a U;have e:W (upd th i v n)=W (th n):=(by simp only[upd];rw[aC U]);omega
def Ho{n:Nat}{f:Nat->Nat}{i:Nat}(af:i<n):f i<=ds n f:=by
 induction n with
 |zero=>omega
 |succ n a=>
  simp only[ds];by_cases h:i=n
  .subst h;omega
  .have:=a U;omega
def own(T:Th):Nat:=match T.pc with| .le| .la| .ur| .ud| .u0=>1|_=>0
def eD(T:Th):Nat:=match T.pc with| .t1| .s1=>1|_=>0
def e5(T:Th):Nat:=match T.pc with| .sq| .r1| .c2| .r3=>T.aw.toNat|_=>0
def dG(T:Th):Nat:=match T.pc with| .t2| .r2=>1|_=>0
def rel(T:Th):Nat:=match T.pc with| .us=>1|_=>0
def add(T:Th):Nat:=match T.pc with| .a1=>1|_=>0
def fx(T:Th):Nat:=match T.pc with| .uc| .ux=>1|_=>0
def ep(T:Th):Bool:=match T.pc with
 |.sq=>(!T.aw||T.old.wk) && (!T.sv||T.aw) && T.old.bC && !T.old.a4
 |.c2=>(!T.aw||T.old.wk) && (!T.sv||T.aw) && (!T.old.a4|| !T.old.wk)
 |.c1=> !T.aw && !T.sv && !T.old.wk && T.old.q !=0 && T.old.bC && !T.old.a4 && decide (T.it<4)
 |.r1=>(!T.sv||T.aw) && decide (T.it<4)
 |.r3=> !T.sv||T.aw
 |.uc=> !T.old.bC && !T.old.wk && !T.old.a4 && T.old.q !=0
 |.bad=>false
 |_=>true
structure Inv(n:Nat)(th:Nat->Th)(s:Sh):Prop where
 ok:∀i,i<n->ep (th i)=true
 own:ds n (λj=>own (th j))=s.x.bC.toNat
 dN:s.x.a4=false->ds n (λj=>e5 (th j))+ds n (λj=>dG (th j))+ds n (λj=>rel (th j))+s.m=s.x.wk.toNat/\ds n (λj=>add (th j))=0
 avH:s.x.a4=true->s.x.wk=false/\ds n (λj=>e5 (th j))=0/\ds n (λj=>dG (th j))+ds n (λj=>rel (th j))+s.m+ds n (λj=>add (th j))+s.x.bC.toNat=1
 uy:s.x.a4=false->ds n (λj=>eD (th j))=s.x.q+ds n (λj=>rel (th j))+s.m
 ws:s.x.a4=true->ds n (λj=>eD (th j))+ds n (λj=>dG (th j))+ds n (λj=>add (th j))=s.x.q
 avI:s.x.bC=false->s.x.a4=false->s.x.wk=false->0<s.x.q->0<ds n (λj=>fx (th j))
def fy(o w a g r d u:Nat)(T:Th)(s:Sh):Prop:=o+own T=s.x.bC.toNat/\(s.x.a4=false->(a+e5 T)+ (g+dG T)+ (r+rel T)+s.m=s.x.wk.toNat/\d+add T=0)/\(s.x.a4=true->s.x.wk=false/\a+e5 T=0/\(g+dG T)+ (r+rel T)+s.m+ (d+add T)+s.x.bC.toNat=1)/\(s.x.a4=false->w+eD T=s.x.q+ (r+rel T)+s.m)/\(s.x.a4=true->(w+eD T)+ (g+dG T)+ (d+add T)=s.x.q)/\(s.x.bC=false->s.x.a4=false->s.x.wk=false->0<s.x.q->0<u+fx T)
def Inv.b3{n:Nat}{th:Nat->Th}{s:Sh}(aa:Inv n th s){i:Nat}(af:i<n):∃o w a g r d u,fy o w a g r d u (th i) s/\∀b s',ep b=true->fy o w a g r d u b s'->Inv n (upd th i b) s':=by
 have e:∀W:Th->Nat,∃k,ds n (λj=>W (th j))=k+W (th i)/\∀b,ds n (λj=>W (upd th i b j))=k+W b:=by
  intro W;have h:=Ho (f:=λj=>W (th j)) af;exact⟨ds n (λj=>W (th j)) - W (th i),U,λb=>by have:=akO W th af b;omega⟩
 have⟨o,D,E⟩:=e aS.own;have⟨w,w1,w2⟩:=e aS.eD;have⟨a,t,v⟩:=e aS.e5;have⟨g,g1,c⟩:=e aS.dG;have⟨r,l,m⟩:=e aS.rel;have⟨d,p,q⟩:=e aS.add;have⟨u,F,G⟩:=e aS.fx;obtain⟨H,x,y,z,A,B,C⟩:=aa;rw[D]at x;rw[t,g1,l,p]at y;rw[t,g1,l,p]at z;rw[w1,l]at A;rw[w1,g1,p]at B;rw[F]at C;refine⟨o,w,a,g,r,d,u,⟨x,y,z,A,B,C⟩,λb s' hk ⟨J,K,L,M,N,O⟩=>⟨λj P=> ?_,?_,?_,?_,?_,?_,?_⟩⟩
 .simp only[upd];split
  .exact hk
  .exact H j P
 .rw[E];exact J
 .rw[v,c,m,q];exact K
 .rw[v,c,m,q];exact L
 .rw[w2,m];exact M
 .rw[w2,c,q];exact N
 .rw[G];exact O
def akP{o w a g r d u:Nat}{T:Th}{s:Sh}(hk:ep T=true)(h:fy o w a g r d u T s){R:Th×Sh}(b:R∈mv T s):ep R.1=true/\fy o w a g r d u R.1 R.2:=by
 obtain⟨A,⟨B,t,C,D⟩,n,k,E,F,H⟩:=T;obtain⟨⟨e,c,i,q⟩,m⟩:=s;cases A with
 |ld=>simp[mv]at b;subst b;exact⟨rfl,h⟩
 |l0=>
  simp only[mv]at b;split at b
  .rename_i f;simp at f;obtain⟨rfl,rfl,rfl,rfl⟩:=f;simp at b;subst b;exact⟨rfl,by(simp[fy,own,eD,e5,dG,rel,add,fx]at h⊢<;>omega)⟩
  .simp at b;subst b;exact⟨rfl,h⟩
 |r0=>
  simp only[mv,bK]at b;subst b;cases e<;>cases i<;>cases c<;>simp[hd,eS,ep]<;> (simp[fy,own,eD,e5,dG,rel,add,fx]at h⊢<;>omega)
 |sq=>
  simp[ep]at hk;obtain⟨⟨⟨x,l⟩,rfl⟩,rfl⟩:=hk;simp only[mv,dY]at b;rcases b with rfl|b
  .cases n<;>cases t<;>cases k<;>simp[eS,ep]at x l⊢<;> (simp[fy,own,eD,e5,dG,rel,add,fx]at h⊢<;>omega)
  .split at b
   .rename_i p;simp only[bK]at b;subst b;by_cases y:(!n && !t && D !=0)=true
    .rw[aV y];simp at y;obtain⟨⟨rfl,rfl⟩,G⟩:=y;have:k=false:=(by simpa using l);subst this;exact⟨by simp[ep,G,p],by simpa[fy,own,eD,e5,dG,rel,add,fx]using h⟩
    .rw[aC y];exact⟨by simpa[ep,p]using l,by simpa[fy,own,eD,e5,dG,rel,add,fx]using h⟩
   .cases b
 |t1=>simp[mv]at b;rcases b with rfl|rfl<;>exact⟨rfl,h⟩
 |t2=>simp[mv]at b;rcases b with rfl|rfl<;>exact⟨rfl,h⟩
 |le=>simp[mv]at b;subst b;exact⟨rfl,h⟩
 |la=>simp[mv]at b;subst b;exact⟨rfl,h⟩
 |ur=>simp[mv]at b;subst b;exact⟨rfl,h⟩
 |ud=>simp[mv]at b;subst b;exact⟨rfl,h⟩
 |ue=>simp[mv]at b;subst b;exact⟨rfl,h⟩
 |out=>simp[mv]at b
 |bad=>simp[mv]at b
 |s1=>
  simp only[mv]at b;split at b
  .cases b
  .simp only[bK]at b;subst b;cases k<;>cases e<;>cases i<;>cases c<;>simp[ep]<;> (simp[fy,own,eD,e5,dG,rel,add,fx]at h⊢<;>omega)
 |us=>
  simp only[mv,bK]at b;subst b;cases e<;>cases i<;>cases c<;>simp[ep]<;> (simp[fy,own,eD,e5,dG,rel,add,fx]at h⊢<;>omega)
 |c1=>
  simp[ep]at hk;obtain⟨⟨⟨⟨⟨⟨rfl,rfl⟩,rfl⟩,z⟩,rfl⟩,rfl⟩,p⟩:=hk;simp only[mv]at b;split at b
  .rename_i f;simp at f;obtain⟨rfl,rfl,rfl,rfl⟩:=f;simp only[bK]at b;subst b;exact⟨by simp[ep,p],by(simp[fy,own,eD,e5,dG,rel,add,fx]at h⊢<;>omega)⟩
  .simp only[bK]at b;subst b;exact⟨by simp[ep,p],by simpa[fy,own,eD,e5,dG,rel,add,fx]using h⟩
 |r1=>
  simp[ep]at hk;obtain⟨hk,p⟩:=hk;simp only[mv,bK]at b;subst b;cases e<;>cases i<;>cases c<;>cases n<;>cases k<;>simp at hk<;> (try simp[hd,eS,ep])<;> (simp[fy,own,eD,e5,dG,rel,add,fx]at h⊢<;>omega)
 |r3=>
  simp[ep]at hk;simp only[mv,bK]at b;subst b;cases e<;>cases i<;>cases c<;>cases n<;>cases k<;>simp at hk<;> (try simp[hd,eS,ep])<;> (simp[fy,own,eD,e5,dG,rel,add,fx]at h⊢<;>omega)
 |r2=>
  simp only[mv]at b;cases i with
  |false=>
   simp only[ea,cY,bK]at b;subst b;cases e<;>cases c<;> (try simp[hd,eS,ep])<;> (simp[fy,own,eD,e5,dG,rel,add,fx]at h⊢<;>omega)
  |true=>
   simp only[dd]at b;split at b
   .rename_i j;exfalso;cases e<;>cases c<;>simp at j<;> (simp[fy,own,eD,e5,dG,rel,add,fx]at h⊢<;>omega)
   .simp only[bK]at b;subst b;cases e<;>cases c<;>refine⟨rfl,?_⟩<;> (simp[fy,own,eD,e5,dG,rel,add,fx]at h⊢<;>omega)
 |c2=>
  simp[ep]at hk;obtain⟨⟨x,l⟩,z⟩:=hk;simp only[mv]at b;split at b
  .rename_i f;simp at f;obtain⟨rfl,rfl,rfl,rfl⟩:=f;split at b
   .rename_i j;simp at j;obtain⟨rfl,rfl⟩:=j;simp only[bK]at b;subst b;refine⟨rfl,?_⟩;cases n<;>cases c<;>cases k<;>simp[Th.new]at x l⊢<;> (simp[fy,own,eD,e5,dG,rel,add,fx]at h⊢<;>omega)
   .rename_i j;simp only[bK]at b;subst b;cases E<;>cases n<;>cases c<;>cases k<;>cases e<;>cases i<;>simp[Th.new]at j x l z⊢<;>refine⟨rfl,?_⟩<;> (simp[fy,own,eD,e5,dG,rel,add,fx]at h⊢<;>omega)
  .simp only[bK]at b;subst b;exact⟨by simpa[ep]using l,by simpa[fy,own,eD,e5,dG,rel,add,fx]using h⟩
 |a1=>
  simp only[mv,bK]at b;subst b;cases e<;>cases c<;>cases i<;>cases F<;>refine⟨rfl,?_⟩<;> (simp[fy,own,eD,e5,dG,rel,add,fx]at h⊢<;>omega)
 |u0=>
  simp only[mv,bK]at b;subst b;cases e with
  |false=>exfalso;simp[fy,own]at h
  |true=>
   cases c<;>cases i<;>rcases jL q with rfl|j
   .simp[ep];(simp[fy,own,eD,e5,dG,rel,add,fx]at h⊢<;>omega)
   .have v:q≠0:=U;simp[fw,v,ep];(simp[fy,own,eD,e5,dG,rel,add,fx]at h⊢<;>omega)
   all_goals (try have v:q≠0:=by omega)
   all_goals simp[fw,ep]
   all_goals (simp[fy,own,eD,e5,dG,rel,add,fx]at h⊢<;>omega)
 |uc=>
  simp[ep]at hk;obtain⟨⟨⟨rfl,rfl⟩,rfl⟩,z⟩:=hk;simp only[mv]at b;split at b
  .rename_i f;simp at f;obtain⟨rfl,rfl,rfl,rfl⟩:=f;simp only[bK]at b;subst b;exact⟨rfl,by(simp[fy,own,eD,e5,dG,rel,add,fx]at h⊢<;>omega)⟩
  .simp only[bK]at b;subst b;exact⟨rfl,by simpa[fy,own,eD,e5,dG,rel,add,fx]using h⟩
 |ux=>
  simp only[mv,bK]at b;subst b;cases e<;>cases c<;>cases i<;>rcases jL q with rfl|j
  all_goals (try have v:q≠0:=by omega)
  all_goals first|(simp[fw,v,ep];done)|(simp[fw,v,ep];(simp[fy,own,eD,e5,dG,rel,add,fx]at h⊢<;>omega))|(simp[fw,ep];(simp[fy,own,eD,e5,dG,rel,add,fx]at h⊢<;>omega))
def Inv.step{n:Nat}{th:Nat->Th}{s:Sh}(aa:Inv n th s){i:Nat}(af:i<n){R:Th×Sh}(b:R∈mv (th i) s):Inv n (upd th i R.1) R.2:=by
 have⟨o,w,a,g,r,d,u,c,e⟩:=aa.b3 af;have⟨f,h⟩:=akP (aa.ok i af) c b;exact e _ _ f h
def OC{n:Nat}{f:Nat->Nat}(h:∀i,i<n->f i=0):ds n f=0:=by
 induction n with
 |zero=>rfl
 |succ n a=>simp only[ds];rw[a λi af=>h i U,h n U]
def Inv.done{n:Nat}{th:Nat->Th}{s:Sh}(aa:Inv n th s)(h:∀i,i<n->(th i).pc=.out\/((th i).pc=.s1/\s.m=0)):∀i,i<n->(th i).pc=.out:=by
 intro i af;rcases h i af with a|⟨a,b⟩
 .exact a
 exfalso;have z:∀f:Th->Nat,(∀T:Th,T.pc=.out\/T.pc=.s1->f T=0)->ds n (λj=>f (th j))=0:=λf c=>OC λj d=>c _ ((h j d).imp id And.left);have v:=z aS.own λT q=>(by rcases q with q|q<;>simp[aS.own,q]);have w:=z aS.e5 λT q=>(by rcases q with q|q<;>simp[aS.e5,q]);have x:=z aS.dG λT q=>(by rcases q with q|q<;>simp[aS.dG,q]);have y:=z aS.rel λT q=>(by rcases q with q|q<;>simp[aS.rel,q]);have zd:=z aS.add λT q=>(by rcases q with q|q<;>simp[aS.add,q]);have A:=z aS.fx λT q=>(by rcases q with q|q<;>simp[aS.fx,q]);have B:0<ds n (λj=>eD (th j)):=fl (by simp[aS.eD,a]) (Ho (f:=λj=>aS.eD (th j)) af);obtain⟨_,e,g,k,l,o,p⟩:=aa;obtain⟨⟨r,t,u,q⟩,m⟩:=s;cases r<;>cases t<;>cases u<;>simp at e g k l o p b<;>omega
def ca(T:Th):Nat:=match T.pc with
 |.ld| .l0| .r0=>8
 |.sq| .c1| .r1| .c2| .r3=>6+ (!T.aw).toNat
 |.t1| .s1=>5
 |.t2| .r2| .a1=>6
 |.le| .la| .ur| .ud| .u0=>4
 |.uc| .ux=>3
 |.us=>2
 |_=>0
def eh(T:Th)(x:a6):Nat:=match T.pc with
 |.ld=>100| .l0=>99| .r0=>98
 |.sq=>(4 - T.it)*20+ (if T.old=x then 0 else 8)+6
 |.c1=>(4 - T.it)*20+5
 |.r1=>(4 - T.it)*20+4
 |.c2=>(4 - T.it)*20+ (if T.old=x then 0 else 8)+3
 |.r3=>(4 - T.it)*20+10
 |.t1=>302| .s1=>301| .t2=>201| .r2=>200| .a1=>199
 |.le=>60| .la=>59| .ur=>58| .ud=>57| .u0=>56
 |.uc=>(if T.old=x then 0 else 8)+3
 |.ux=>10
 |.us=>50| .ue=>49
 |_=>0
def OD(T:Th)(x:a6):eh T x<=302:=by
 unfold eh;split<;> (try split)<;>omega
def akQ{T:Th}{s:Sh}(hk:ep T=true){R:Th×Sh}(a:R∈mv T s): ca R.1+2*R.2.m<ca T+2*s.m\/(ca R.1+2*R.2.m=ca T+2*s.m/\R.2.x=s.x/\eh R.1 s.x<eh T s.x):=by
 obtain⟨pc,old,aw,sv,ws,ij,it⟩:=T;obtain⟨x,m⟩:=s;have d:∀T:Th,ca (hd T)<=6+ (!T.aw).toNat:=by
  intro T;unfold hd eS;split
  .simp[ca]
  .split<;>simp[ca]
 cases pc with
 |ld=>simp[mv]at a;subst a;simp[ca,eh]
 |l0=>
  simp only[mv]at a;split at a<;>simp only[bK]at a<;>subst a<;>simp[ca,eh]
 |r0=>
  simp only[mv,bK]at a;subst a;have:=d {pc:=.r0,old:=x,aw:=false,sv:=false,ws:=false,ij:=ij,it:=0};left;simp[ca]at this⊢;omega
 |sq=>
  simp only[mv,dY]at a;rcases a with rfl|a
  .unfold eS;split<;>simp[ca,eh]<;>cases aw<;>simp<;>omega
  .split at a
   .simp only[bK]at a;subst a;split
    .rename_i c;simp at c;simp[ca,eh,c];omega
    .simp[ca,eh];omega
   .cases a
 |c1=>
  simp[ep]at hk;simp only[mv]at a;split at a<;>simp only[bK]at a<;>subst a<;>simp[ca,eh,hk]
 |r1=>
  simp[ep]at hk;simp only[mv,bK]at a;subst a;unfold hd eS;split
  .right;simp[ca,eh];omega
  .split
   .left;simp[ca];omega
   .right;simp[ca,eh];omega
 |r3=>
  simp only[mv,bK]at a;subst a;unfold hd eS;split
  .right;simp[ca,eh]
  .split
   .left;simp[ca];omega
   .right;simp[ca,eh]
 |c2=>
  simp only[mv]at a;split at a
  .split at a<;>simp only[bK]at a<;>subst a
   .left;simp[ca];omega
   .left;cases ws<;>simp[ca]<;>omega
  .rename_i b;simp only[bK]at a;subst a;right;have:¬old=x:=λe=>b e.symm;simp[ca,eh,this]
 |t1=>simp[mv]at a;rcases a with rfl|rfl<;>simp[ca,eh]
 |t2=>simp[mv]at a;rcases a with rfl|rfl<;>simp[ca,eh]
 |s1=>
  simp only[mv]at a;split at a
  .cases a
  .simp only[bK]at a;subst a;left;cases sv<;>simp[ca]<;>omega
 |r2=>
  simp only[mv]at a;split at a
  .split at a<;>simp only[bK]at a<;>subst a<;>simp[ca,eh]
  .simp only[bK]at a;subst a;unfold hd eS;split
   .right;simp[ca,eh]
   .split
    .left;simp[ca]
    .right;simp[ca,eh]
 |a1=>simp only[mv,bK]at a;subst a;left;simp[ca]
 |le=>simp[mv]at a;subst a;simp[ca,eh]
 |la=>simp[mv]at a;subst a;simp[ca,eh]
 |ur=>simp[mv]at a;subst a;simp[ca,eh]
 |ud=>simp[mv]at a;subst a;simp[ca,eh]
 |u0=>
  simp only[mv,bK]at a;subst a;left;unfold fw;dsimp only;split
  .simp[ca]
  .split
   .simp[ca]
   .split<;>simp[ca]
 |uc=>
  simp only[mv]at a;split at a
  .simp only[bK]at a;subst a;left;simp[ca]
  .rename_i b;simp only[bK]at a;subst a;have:¬old=x:=λe=>b e.symm;right;simp[ca,eh,this]
 |ux=>
  simp only[mv,bK]at a;subst a;unfold fw;split
  .left;simp[ca]
  .right;simp[ca,eh]
 |us=>simp only[mv,bK]at a;subst a;right;simp[ca,eh];omega
 |ue=>simp[mv]at a;subst a;simp[ca,eh]
 |out=>simp[mv]at a
 |bad=>simp[mv]at a
end Go.aS
