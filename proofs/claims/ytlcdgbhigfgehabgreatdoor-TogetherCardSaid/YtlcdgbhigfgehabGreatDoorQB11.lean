import Derived.Test.YtlcdgbhigfgehabGreatDoorQB08
import Derived.Test.YtlcdgbhigfgehabGreatDoorQB10
import Derived.Deep.AppendLies
set_option linter.all false
set_option maxRecDepth 100000
set_option maxHeartbeats 16000000
namespace Go.Proofs.YtlcdgbhigfgehabGreatDoor
open Go.RowKit

def adj(n:Nat)(c:Int)(e:c=n)(f:n<=1000000)(w:ab): (Instr.makeSlice 23 (.int .i64 c) (.int .i64 c)).run aj.prog w=.ok (.slice (some ⟨w.heap.size,0,none⟩) n n) (w.alloc (.cells (madeCells #[.string ⟨#[]⟩,.slice none 0 0] (n*2)) 37)):=by
 subst e;have⟨i,af,a,b,d⟩:=info_parts Rc;have h:=run_make (P:=aj.prog) w 23 37 i _ aj.underlying23 af a .i64 .i64 n n U (Int.le_refl _) (by rw[d];omega) U;rw[b]at h;simpa[Value.cells]using h
def adk(n:Nat):(madeCells #[.string ⟨#[]⟩,.slice none 0 0] (n*2)).toList.length=n*2:=by simp[madeCells]
def adl(A:bJ)(x y:ai)(r:bJ)(u v:ai)(i:Nat)(af:A.length=i):((A++x::y::r).set i u).set (i+1) v=A++u::v::r:=by
 subst af;simp[List.set_append_right]
def SA(v:ai)(l:List (aI×ai))(B:Nat)(w:ab)(h:ez w B v l)(hd:∀p∈l,p.1.data.length<=1000000)(bO:l.length<=1000000): Calls aj.prog 45 #[v] w λe w'=>∃v' m,e=.returned v'/\m.map (·.1)=l.map (·.1)/\ck w' w.heap.size v' m/\Fr aD w w':=by
 have H:=ae h;have m6:=ae hd;obtain⟨nS,si,rfl,-⟩:=h.vec.shape;have abn:=adj l.length l.length rfl bO;have A:Fr aD w (w.alloc (.cells (madeCells #[.string ⟨#[]⟩,.slice none 0 0] (l.length*2)) 37)):=(Fr.refl _ _).alloc _;have M:=ae (Own.alloc w (madeCells #[.string ⟨#[]⟩,.slice none 0 0] (l.length*2)) 37);have nB:=ae A;have q8:=A.size;obtain⟨c,adm⟩:∃c,w.heap.size=c:=⟨_,rfl⟩;rw[adm]at M;have N:c< (w.alloc (.cells (madeCells #[.string ⟨#[]⟩,.slice none 0 0] (l.length*2)) 37)).heap.size:=a5;clear h hd A;go_enter aj.func45,Tryz.ntmps45;go_wp2_with fail;generalize w.alloc (.cells (madeCells #[.string ⟨#[]⟩,.slice none 0 0] (l.length*2)) 37)=w1 at *;go_loopw [11] (λcv wr=>∃(k:Nat)(m:List (aI×ai))(rest:bJ),k<=l.length/\cv=.int .i64 k/\Fr aD w wr/\m.map (·.1)=(l.map (·.1)).take k/\m.length=k/\c<wr.heap.size/\Own wr c 37 (hM m++rest)/\rest.length=(l.length - k)*2/\(∀p∈m,Vec wr (c+1) 5 1 p.2 p.1.data.length (bT p.1.data))/\(m.Pairwise λp q=>∀k,p.2.ownBlock=some k->q.2.ownBlock≠some k)) (λcv _=>l.length - (intOf cv).toNat)
 case atStart=>exact⟨0,[],_,dl _,rfl,nB.o,rfl,rfl,N,M.o,by rw[adk];rfl,λ_ h=>by simp at h,List.Pairwise.nil⟩
 case round=>
  obtain⟨k,m,rest,hk,rfl,n,hm,O,auu,P,Q,R,S⟩:=hrel;have T:=ae n;have ic:=ae hm;have a:=ae O;have az:=ae P;have C:=ae Q;have s:=ae R;have V:=ae S;have nF:=n.size;clear hm O P Q R S;by_cases W:k<l.length
  .have t:=H.o.br n;have⟨g,cap,b9,eP,ay,m3⟩:=t.get k W;simp only[eG,fF]at b9;obtain⟨rfl,rfl⟩:=b9;have D:=m6.o l[k] (dy _);obtain⟨fr,ek,E,-⟩:=(t.data l[k] (dy _)).shape;have j:=t.data l[k] (dy _);have u:(l.map (·.1)).take (k+1)=(l.map (·.1)).take k++ [l[k].1]:=(by rw[lV (by simpa using W),List.getElem_map]);clear t n;obtain⟨f,dg⟩:∃f,l[k]=f:=⟨_,rfl⟩;rw[dg]at D E j u eP ay;obtain⟨⟨fn,d⟩,ot⟩:=f;simp only at D E j u eP ay;subst E;have l9:=ae u;obtain⟨x,y,r,v3⟩:∃x y r,rest=x::y::r:=by
    have:=C.o;match rest,this with
    |[],h=>simp at h;omega
    |[_],h=>simp at h;omega
    |x::y::r,_=>exact⟨x,y,r,rfl⟩
   subst v3;have A:Fr aD wr (wr.alloc (.cells #[.string ⟨fn.toArray⟩,.slice fr d.length ek] 37)):=(Fr.refl _ _).alloc _;have adn:=ae A;have gy:=ae (Own.alloc wr #[.string ⟨fn.toArray⟩,.slice fr d.length ek] 37);have yk:=ae (j.br A);have ado:=A.size;clear A dg j u;go_upto_region 5 with fail
   generalize wr.alloc (.cells #[.string ⟨fn.toArray⟩,.slice fr d.length ek] 37)=dm at *;have x0:=gy.o.cell (i:=0) rfl;have x1:=gy.o.cell (i:=1) rfl;have i1:(k:Int)< (l.length:Int):=U;go_region_law
    (go_simp;go_at_call 71;refine(EK _ d _ (yk.o.br (Fr.drew (Fr.refl _ _))) D).mono ?_;rintro e cU⟨aX,rfl,F,G⟩;obtain⟨X,Y,p0,-⟩:=F.shape;subst p0;have aa:=adn.o.step ((Fr.refl aD dm).drew.step G (λ_ h _=>h)) (λ_ h _=>h);have ht:=(gy.o.keep ((Fr.refl aD dm).drew.step G (λ_ h _=>h)) id).cell (i:=0) rfl;have z:=az.o.keep aa id;have nG:=z.cell (i:=k*2) (v:=x) (by rw[Ei (by simp[a.o])];simp[a.o]);have hO:=z.cell (i:=k*2+1) (v:=y) (by rw[Ei (by simp[a.o])];simp[a.o]);have auv:=z.free (k*2) (by simp[a.o]);have auw:=z.free (k*2+1) (by simp[a.o]);have tN:=ae z;have J:=ae F;have J4:=ae aa;clear F G z aa)
   all_goals
    go_wp2_with fail;have Z:=(tN.o.set (k*2) (.string ⟨fn.toArray⟩)).set (k*2+1) (.slice X d.length Y);rw[adl _ _ _ _ _ _ _ (by simp[a.o])]at Z;have SB:Fr (λb=>b=c) cU ((cU.setCell ⟨c,k*2,none⟩ (.string ⟨fn.toArray⟩)).setCell ⟨c,k*2+1,none⟩ (.slice X d.length Y)):=((Fr.refl (λb=>b=c) cU).setCell ⟨c,k*2,none⟩ (.string ⟨fn.toArray⟩) (λ_=>rfl)).setCell ⟨c,k*2+1,none⟩ (.slice X d.length Y) (λ_=>rfl);have K:Fr (λb=>b=c) wr ((cU.setCell ⟨c,k*2,none⟩ (.string ⟨fn.toArray⟩)).setCell ⟨c,k*2+1,none⟩ (.slice X d.length Y)):=(J4.o.mono (λ_ h _=>h.elim)).step SB (λ_ h _=>h);have auy:dm.drew.heap.size=dm.heap.size:=rfl;have q9:=K.size;refine⟨⟨k+1,m++ [(⟨fn,d⟩,.slice X d.length Y)],r,U,by go_num,T.o.step K (λb L bO=>U),?_,by simp[a.o],U,?_,?_,?_,?_⟩,by simp[intOf];omega⟩
    .rw[pS,ic.o,l9.o];rfl
    .rw[Ep,gY];exact Z
    .have:=C.o;simp only[hJ]at this;omega
    .intro p o;rcases fB.1 o with o|o
     .exact(s.o p o).keep K (λb L h=>by have:=((s.o p o).lt b L).1;omega)
     .obtain rfl:=bK.1 o;exact(J.o.mono U).keep SB (λb L h=>by have:=(J.o.lt b L).1;omega)
    .rw[rZ];refine⟨V.o,tJ _ _,?_⟩;intro p o q b9;obtain rfl:=bK.1 b9;intro b L iI;have bD:=((s.o p o).lt b L).2;have cb:=(J.o.lt b iI).1;omega
  .obtain rfl:k=l.length:=U;have adp:rest=[]:=vy (by have:=C.o;omega);subst adp;have vO:m.map (·.1)=l.map (·.1):=(by rw[ic.o,iG ag]);have Fb:=ae vO;clear n vO;go_wp2_with fail;go_ret;refine⟨_,rfl,m,Fb.o,⟨⟨by simp[a.o],.inr ⟨c,l.length,[],by rw[a.o];rfl,U,az.o,by simp[a.o],by rw[a.o];exact bh _,eH⟩⟩,λp o=>(s.o p o).mono U,V.o⟩,T.o⟩
end Go.Proofs.YtlcdgbhigfgehabGreatDoor
namespace Go.Proofs.YtlcdgbhigfgehabGreatDoor
open Go.RowKit

def ady(v:ai)(l:List (aI×ai))(B:Nat)(w:ab)(h:ez w B v l)(hd:∀p∈l,p.1.data.length<=1000000)(x:l.length<=1000000): Calls aj.prog 44 #[v] w λe w'=>∃v' m,e=.returned (.pointer (some ⟨w.heap.size,0,none⟩))/\m.map (·.1)=l.map (·.1)/\ck w' (w.heap.size+1) v' m/\ml w' w.heap.size v' (.slice none 0 0) 0 0 0/\Fr aD w w':=by
 have H:=ae h;have E:=ae hd;obtain⟨N,O,rfl,-⟩:=h.vec.shape;have j:Fr aD w (w.alloc (.cells #[.slice none 0 0,.slice none 0 0,.int .i64 0,.int .i64 0,.int .i64 0] 162)):=(Fr.refl _ _).alloc _;have k:=ae (Own.alloc w #[.slice none 0 0,.slice none 0 0,.int .i64 0,.int .i64 0,.int .i64 0] 162);have y:=ae j;have F:=j.size;obtain⟨an,n⟩:∃an,w.heap.size=an:=⟨_,rfl⟩;have G:an< (w.alloc (.cells #[.slice none 0 0,.slice none 0 0,.int .i64 0,.int .i64 0,.int .i64 0] 162)).heap.size:=a5;have aa:(w.alloc (.cells #[.slice none 0 0,.slice none 0 0,.int .i64 0,.int .i64 0,.int .i64 0] 162)).heap.size=an+1:=a5;rw[n]at k;clear h hd j;go_enter aj.func44,Tryz.ntmps44;go_wp2_with fail;generalize w.alloc (.cells #[.slice none 0 0,.slice none 0 0,.int .i64 0,.int .i64 0,.int .i64 0] 162)=dm at *;have x0:=k.o.cell (i:=0) rfl;have J:=ae (SA _ l B dm.drew (H.o.br y.o.drew) E.o x);go_region_law
  (go_simp;go_at_call 45;refine J.o.mono ?_;rintro e K⟨aX,o,rfl,d,a,c⟩;obtain⟨A,C,q,-⟩:=a.vec.shape;subst q;have f:=y.o.drew.step c (λ_ h _=>h);have z:=k.o.keep ((Fr.refl aD dm).drew.step c (λ_ h _=>h)) id;have P:=z.cell (i:=0) rfl;have Q:=z.free 0 ag;have L:=ae z;have r:=ae a;have s:=ae d;have t:=ae f;clear a c z f d)
 all_goals
  go_wp2_with fail;go_ret;have D:=(Fr.refl (λb=>b=an) K).setCell ⟨an,0,none⟩ (.slice A o.length C) (λ_=>rfl);have u:=r.o.lift (B':=an+1) (by show an+1<=dm.heap.size;omega);refine⟨rfl,_,o,s.o,u.keep D (λb g e=>by have:=(u.vec.lt b g).1;omega) (λp M b g e=>by have:=((u.data p M).lt b g).1;omega),Own.set L.o 0 (.slice A o.length C),t.o.step D (λb g x=>U)⟩
end Go.Proofs.YtlcdgbhigfgehabGreatDoor
namespace Go.Proofs.YtlcdgbhigfgehabGreatDoor
open Go.RowKit

def sk(w:ab)(B an:Nat)(au:List aI)(up:Bool):Prop:=∃live x y step da m,c0 w an live x y step da/\ck w B x m/\m.map (·.1)=au/\(up=true->y=.slice none 0 0)
def jT(w:ab)(av an:Nat)(s:Int)(room:Int)(down:Bool):Prop:=Own w av 99 [.int .i32 s,.int .u32 0,.pointer (some ⟨an,0,none⟩),.int .i64 room,.bool down]
structure dh(w:ab)(B av an:Nat)(au:List aI)(room:Int)(down:Bool):Prop where
 b5:jT w av an 0 room down
 o6:sk w B an au (!down)
 tree:dc au
 iL:0<=room/\room<=1048576
def eB(w:ab)(S:Nat->Prop):Prop:=∀b,S b->(∃xs,Own w b 99 xs)\/∃xs,Own w b 162 xs
def eB.none(w:ab):eB w aD:=λ_ h=>h.elim
def eB.old{w w1:ab}{S:Nat->Prop}(h:eB w S)(k:Fr aD w w1):eB w1 S:=λb a=>(h b a).elim (λ⟨xs,o⟩=>.inl ⟨xs,o.keep k id⟩) (λ⟨xs,o⟩=>.inr ⟨xs,o.keep k id⟩)
section
variable{w w1:World}{S:Nat->Prop}{B:Nat}{v:Value}{l:List (aI×Value)}
def eB.vec(c:eB w S){T:TypeId}{aK n:Nat}{xs:bJ}(h:Vec w B T aK v n xs)(d:T≠99)(e:T≠162):∀b,v.ownBlock=some b->¬S b:=λb a f=>by
 rcases c b f with⟨g,o⟩|⟨g,o⟩
 .exact h.gI o d a
 .exact h.gI o e a
def eB.isB{l:ar}(c:eB w S)(h:bH w v l):∀b,v.ownBlock=some b->¬S b:=λb a d=>by
 rcases c b d with⟨e,o⟩|⟨e,o⟩
 .exact h.apart o aE a
 .exact h.apart o aE a
def ck.held(h:ck w B v l)(k:Fr S w w1)(a:eB w S):ck w1 B v l:=h.keep k (a.vec h.vec aE aE) (λp b=>a.vec (h.data p b) aE aE)
def ez.held(h:ez w B v l)(k:Fr S w w1)(a:eB w S):ez w1 B v l:=h.keep k (a.vec h.vec aE aE) (λp b=>a.isB (h.data p b))
def sk.held{an:Nat}{au:List aI}{b:Bool}(h:sk w B an au b)(k:Fr S w w1)(d:eB w S)(e:¬S an):sk w1 B an au b:=by
 obtain⟨a,x,y,s,c,m,f,g,i,j⟩:=h;exact⟨a,x,y,s,c,m,f.keep k e,g.held k d,i,j⟩
def sk.lift{B' an:Nat}{au:List aI}{b:Bool}(h:sk w B an au b)(d:B'<=B):sk w B' an au b:=by
 obtain⟨a,x,y,s,c,m,e,f,g,i⟩:=h;exact⟨a,x,y,s,c,m,e,f.lift d,g,i⟩
def sk.own{an:Nat}{au:List aI}{b:Bool}(h:sk w B an au b):∃xs,Own w an 162 xs:=by
 obtain⟨a,x,y,s,c,m,d,-⟩:=h;exact d.own
def dh.held{av an:Nat}{au:List aI}{room:Int}{a:Bool}(h:dh w B av an au room a)(k:Fr S w w1)(b:eB w S)(c:¬S av)(d:¬S an):dh w1 B av an au room a:=⟨Own.keep h.b5 k c,h.o6.held k b d,h.tree,h.iL⟩
def dh.br{av an:Nat}{au:List aI}{room:Int}{a:Bool}(h:dh w B av an au room a)(k:Fr aD w w1):dh w1 B av an au room a:=h.held k (eB.none w) id id
def dh.ne{av an:Nat}{au:List aI}{room:Int}{a:Bool}(h:dh w B av an au room a):av≠an:=by
 rintro rfl;have⟨xs,o⟩:=h.o6.own;have⟨_,c,_⟩:=h.b5;obtain⟨_,b,_⟩:=o;rw[c]at b;simp at b
end
end Go.Proofs.YtlcdgbhigfgehabGreatDoor
namespace Go.Proofs.YtlcdgbhigfgehabGreatDoor
open Go.RowKit Go.MuLone

def jT.lock{w:ab}{av an:Nat}{s room:Int}{a:Bool}(h:jT w av an s room a)(t:Int):jT (w.setCell ⟨av,0,none⟩ (.int .i32 t)) av an t room a/\Fr (λb=>b=av) w (w.setCell ⟨av,0,none⟩ (.int .i32 t)):=⟨Own.set h 0 (.int .i32 t),(Fr.refl (λb=>b=av) w).setCell ⟨av,0,none⟩ (.int .i32 t) (λ_=>rfl)⟩
def sm{w:ab}{av an:Nat}{s room:Int}{a:Bool}(h:jT w av an s room a):eB w (λb=>b=av):=λb c=>by
 subst c;exact .inl ⟨_,h⟩
def dh.part{w:ab}{B av an:Nat}{au:List aI}{room:Int}{b:Bool}(h:dh w B av an au room b):∃a x y f d m,c0 w an a x y f d/\ck w B x m/\m.map (·.1)=au/\(b=false->y=.slice none 0 0):=by
 have⟨a,x,y,s,c,m,g,i,j,k⟩:=h.o6;exact⟨a,x,y,s,c,m,g,i,j,λe=>k (by rw[e];rfl)⟩
def nT{m:List (aI×ai)}{au:List aI}(h:m.map (·.1)=au)(a:dc au):(∀p∈m,p.1.data.length<=300)/\(∀p∈m,p.1.name.length<=12)/\m.length<=8:=by
 subst h;refine⟨λp b=>(a.ok p.1 (v5 b)).2,λp b=> ?_,by have:=a.len;simpa using this⟩;have c:=(a.ok p.1 (v5 b)).1;unfold isName at c;simp at c;omega
def adB(av an B:Nat)(au:List aI)(room:Int)(w:ab)(h:dh w B av an au room false): Calls aj.prog 26 #[.pointer (some ⟨av,0,none⟩)] w λe w'=>∃v m,e=.returned (.tuple #[v,.nilIface])/\m.map (·.1)=au/\ck w' w.heap.size v m/\dh w' B av an au room false/\Fr (λb=>b=av) w w':=by
 have E:=Own.lt h.b5;have x0:=Own.cell h.b5 (i:=0) rfl;have f0:=Own.free h.b5 0 ag;have⟨n,a⟩:=h.b5.lock 1;have⟨d,x,y,s,c,m,hd,hk,C,F⟩:=h.part;have q:=h.ne;have r:=nT C h.tree;have G:=ae (hd.keep a (λe=>q e.symm));have aa:=ae (hk.held a (sm h.b5));have J:=ae C;have K:=ae n;have L:=ae a;have H:=ae h;have R:=Own.cell n (i:=2) rfl;have S:=Own.cell n (i:=4) rfl;have M:=a.size;clear h n a hd hk F;go_enter_defers aj.func26,Tryz.ntmps26;go_wp2_with (go_at_call 34;refine(lock_free Bo ⟨av,0,none⟩ _ x0 f0).mono ?_;rintro e w'⟨rfl,rfl⟩);refine(SD an d x y s c _ G.o).mono ?_;rintro e w2⟨rfl,t⟩;have g:=ae t;have N:=t.size;clear t;go_wp2_with fail;refine(SA _ m B w2 (aa.o.br g.o).p6 (λp O=>by have:=r.1 p O;omega) U).mono ?_;rintro e T⟨v',P,rfl,j,k,D⟩;have u:=ae j;have z:=ae k;have l:=ae (g.o.step D (λ_ h _=>h));clear j k D;go_wp2_with fail;have o:=Own.keep K.o l.o id;refine ya (f:=35) (args:= #[.pointer (some ⟨av,0,none⟩)]) ag (by simp[go_sem]) ?_;refine(unlock_deferred Bo ⟨av,0,none⟩ .returning _ (Own.cell o (i:=0) rfl) (Own.free o 0 ag)).mono ?_;rintro e az Q⟨rfl,rfl,rfl⟩;have A:=jT.lock o 0;have hk:=(L.o.step l.o (λ_ h _=>h.elim)).step A.2 (λ_ h _=>h);refine⟨_,results_tmp2 rfl _ _ _,_,P,rfl,u.o.trans J.o,(z.o.held A.2 (sm o)).lift U,⟨A.1,H.o.o6.held hk (sm H.o.b5) (λe=>H.o.ne e.symm),H.o.tree,H.o.iL⟩,hk⟩
def SE(av an B:Nat)(au:List aI)(room:Int)(w:ab)(h:dh w B av an au room false): Calls aj.prog 17 #[.pointer (some ⟨av,0,none⟩)] w λe w'=>∃v m,e=.returned (.tuple #[v,.int .i64 0])/\m.map (·.1)=au/\ck w' w.heap.size v m/\dh w' B av an au room false/\Fr (λb=>b=av) w w':=by
 have H:=ae (adB av an B au room w h);clear h;go_enter aj.func17,Tryz.ntmps17;go_wp2_with fail;refine H.o.mono ?_;rintro e w1⟨v,m,rfl,c,d,f,g⟩;have i:=ae c;have j:=ae d;have k:=ae f;have l:=ae g;clear c d f g;go_wp2_with fail;refine(told_none w1).mono ?_;rintro e w2⟨rfl,a⟩;go_wp2_with fail;go_ret2;exact⟨v,m,rfl,i.o,j.o.br a,k.o.br a,l.o.step a (λ_ h _=>h.elim)⟩
end Go.Proofs.YtlcdgbhigfgehabGreatDoor
namespace Go.Proofs.YtlcdgbhigfgehabGreatDoor
open Go.RowKit

def v8(w:ab)(o:Obj):Fr aD w (w.alloc o):=(Fr.refl _ _).alloc _
end Go.Proofs.YtlcdgbhigfgehabGreatDoor
namespace Go.Proofs.YtlcdgbhigfgehabGreatDoor
open Go.RowKit

def hv{w:ab}{g h:Nat}{T d:TypeId}{xs e:bJ}(a:Own w g T xs)(b:Own w h d e)(f:T≠d):g≠h:=by
 rintro rfl;obtain⟨_,i,_⟩:=a;obtain⟨_,c,_⟩:=b;rw[i]at c;simp only[fK,Obj.cells.injEq]at c;exact f c.2.1
def Lm(w:ab)(an B:Nat)(live:Int)(x:ai)(l:List (aI×ai))(da:Int)(b:Bool)(w':ab):Prop:=Fr (λb=>b=an) w w'/\((b=true/\1<=da/\da<=l.length+2/\∃y s,c0 w' an live x y s da)\/(b=true/\da=l.length+3/\∃y s,c0 w' an (1 - live) y x s da/\ck w' B y l)\/(b=false/\¬(1<=da/\da<=l.length+3)/\∃y s,c0 w' an (1 - live) y (.slice none 0 0) s da/\ck w' B y l))
def yN{w:ab}{an:Nat}{a:Int}{x y:ai}{s c:Int}(h:c0 w an a x y s c):eB w (λb=>b=an):=λb d=>by
 subst d;exact .inr h.own
def ags(me yw av an:Nat)(fD:ai)(l:List (aI×ai))(B:Nat)(c:Int)(x:ai)(a:Int)(s room:Int)(M:Bool)(w:ab)(N:Own w me 23 [fD])(e1:Own w yw 26 [.pointer (some ⟨av,0,none⟩)])(hm:jT w av an s room M)(hd:c0 w an c x (.slice none 0 0) 0 a)(hk:ck w B fD l)(c8:B<=w.heap.size)(cJ:l.length<=8): Calls aj.prog 38 #[.pointer (some ⟨me,0,none⟩),.pointer (some ⟨yw,0,none⟩)] w λe w'=>∃b:Bool,e=(if b then .panicked [sj]else .returned (.tuple #[]))/\Lm w an B c x l a b w'/\Fr (λb=>b=an) w w':=by
 have⟨xs,n⟩:=hd.own;have st:¬me=an:=hv N n aE;have rl:¬yw=an:=hv e1 n aE;have pi:¬av=an:=hv hm n aE;obtain⟨la,pV,rfl,-⟩:=hk.vec.shape;have uC:=ae N;have nB:=ae e1;have ic:=ae hm;have m6:=ae hd;have jU:=ae hk;have x0:=N.cell (i:=0) rfl;clear N e1 hm hd hk n;go_enter aj.func38,Tryz.ntmps38;go_wp2_with fail;go_loopw [6] (λcv wr=>∃(k:Nat)(y:ai),k<=l.length/\cv=.int .i64 k/\Fr (λb=>b=an) w wr/\c0 wr an c x y k a/\Vec wr w.heap.size 37 2 y k (hM (l.take k))/\(a<1\/k<a)) (λcv _=>l.length - (intOf cv).toNat)
 case atStart=>exact⟨0,_,dl _,rfl,Fr.refl _ _,m6.o,Vec.nil _ _ _ _,U⟩
 case round=>
  obtain⟨k,y,hk,rfl,m,O,P,B8⟩:=hrel;have p:=jU.o.held m (yN m6.o);have q:=ae m;have o:=ae O;have v:=ae P;have agt:=ae p;have nF:=m.size;have E:=ae (nB.o.keep m rl);have F:=ae (Own.keep ic.o m pi);clear O P x0;by_cases G:k<l.length
  .have⟨g,cap,b9,eP,ay,m3⟩:=p.p6.get k G;simp only[eG,fF]at b9;obtain⟨rfl,rfl⟩:=b9;have Q:=p.data l[k] (dy _);obtain⟨fr,ek,H,-⟩:=Q.shape;have z:hM (l.take (k+1))=hM (l.take k)++tA l[k]:=(by rw[lV G,Ep]);clear p m Q;obtain⟨f,dg⟩:∃f,l[k]=f:=⟨_,rfl⟩;rw[dg]at eP ay H z;obtain⟨⟨fn,d⟩,ot⟩:=f;simp only at H eP ay z;subst H;have l9:=ae z;have cc:Fr aD wr (wr.alloc (.cells #[.string ⟨fn.toArray⟩,.slice fr d.length ek] 37)):=(Fr.refl _ _).alloc _;have aa:=ae cc;have gy:=ae (Own.alloc wr #[.string ⟨fn.toArray⟩,.slice fr d.length ek] 37);have ado:=cc.size;clear cc dg z;go_upto_region 3 with fail
   generalize wr.alloc (.cells #[.string ⟨fn.toArray⟩,.slice fr d.length ek] 37)=dm at *;have x0:=gy.o.cell (i:=0) rfl;have x1:=gy.o.cell (i:=1) rfl;have R:=(E.o.keep aa.o id).cell (i:=0) rfl;have S:=(Own.keep F.o aa.o id).cell (i:=2) rfl;have r:Fr aD wr dm.drew:=aa.o.drew;by_cases dZ:(k:Int)+1=a
   .go_region_dies
    all_goals
     go_at_call 39;refine(adv an c x y k a _ _ (o.o.keep r id) U dZ _ _ rfl).mono ?_;rintro e T⟨rfl,u,t⟩;have j:=q.o.step ((r.mono (S':=λb=>b=an) (λ_ h _=>h.elim)).step t (λ_ h _=>h)) (λb A _=>A);exact⟨rfl,true,rfl,⟨j,.inl ⟨rfl,U,U,_,_,u⟩⟩,j⟩
   .go_region_law
     (go_simp;go_at_call 39;refine(agr an c x y k a w.heap.size k _ _ _ _ _ dm.drew (o.o.keep r id) U dZ (v.o.keep r (λ_ _ h=>h)) (by show _<=dm.heap.size;omega) U).mono ?_;rintro e T⟨gh,rfl,u,t,b7⟩;have H1:=ae u;have agu:=ae t;have agv:=ae b7;clear u t b7)
    all_goals
     go_wp2_with fail;have dB:=(r.mono (S':=λb=>b=an\/y.ownBlock=some b) (λ_ h _=>h.elim)).step agv.o (λ_ h _=>h);have j:=q.o.step dB (λb A N=>by
      rcases A with A|A
      .exact A
      .have:=(v.o.lt b A).1;omega)
     exact⟨⟨k+1,gh,U,by go_num,j,by rw[show((k+1:Nat):Int)=(k:Int)+1 by omega];exact H1.o,by rw[l9.o];exact agu.o,U⟩,by simp[intOf];omega⟩
  .obtain rfl:k=l.length:=U;clear m p G;have R:=E.o.cell (i:=0) rfl;have S:=F.o.cell (i:=2) rfl;go_wp2_with fail;by_cases az:(l.length:Int)+1=a
   .refine(ads an c x y l.length a _ o.o U az).mono ?_;rintro e T⟨rfl,u,t⟩;have j:=q.o.step t (λ_ h _=>h);exact⟨rfl,true,rfl,⟨j,.inl ⟨rfl,U,U,_,_,u⟩⟩,j⟩
   refine(adr an c x y l.length a _ o.o U az).mono ?_;rintro e T⟨rfl,dB,L⟩;have J:=ae dB;have V:=ae L;have W:=ae (E.o.keep L rl);have X:=ae (Own.keep F.o L pi);have K:Vec T w.heap.size 37 2 y l.length (hM (l.take l.length)):=by
    have⟨xs,n⟩:=o.o.own;exact v.o.keep L (λb A e=>v.o.gI n aE (e▸A))
   rw[Fp]at K;have Y:ck T B y l:=by
    have h:=(agt.o.held L (yN o.o));exact⟨K.mono c8,h.data,h.two⟩
   have Z:=ae Y;clear dB L R S K Y;have R:=W.o.cell (i:=0) rfl;have S:=X.o.cell (i:=2) rfl;go_wp2_with fail;by_cases Bt:(l.length:Int)+1+1=a
   .refine(adt an c x y _ a _ J.o U Bt).mono ?_;rintro e cI⟨rfl,u,t⟩;have j:=(q.o.step V.o (λ_ h _=>h)).step t (λ_ h _=>h);exact⟨rfl,true,rfl,⟨j,.inl ⟨rfl,U,U,_,_,u⟩⟩,j⟩
   refine(adw an c x y _ a _ J.o U Bt).mono ?_;rintro e cI⟨rfl,jV,f6⟩;have C:=ae jV;have l3:=ae ((q.o.step V.o (λ_ h _=>h)).step f6 (λ_ h _=>h));have agw:=ae (W.o.keep f6 rl);have B9:=ae (Own.keep X.o f6 pi);have D:=ae (Z.o.held f6 (yN J.o));clear jV f6 R S;have R:=agw.o.cell (i:=0) rfl;have S:=B9.o.cell (i:=2) rfl;go_wp2_with fail;by_cases Av:(l.length:Int)+1+1+1=a
   .refine(adu an (1 - c) y x _ a _ C.o U Av).mono ?_;rintro e ef⟨rfl,u,t⟩;have j:=l3.o.step t (λ_ h _=>h);exact⟨rfl,true,rfl,⟨j,.inr (.inl ⟨rfl,U,_,_,u,D.o.held t (yN C.o)⟩)⟩,j⟩
   refine(adx an (1 - c) y x _ a _ C.o U Av).mono ?_;rintro e ef⟨rfl,ky,f7⟩;have Ca:=ae ky;have na:=ae (l3.o.step f7 (λ_ h _=>h));have agx:=ae (D.o.held f7 (yN C.o));clear ky f7;go_wp2_with fail;go_end0
   exact⟨false,rfl,⟨na.o,.inr (.inr ⟨rfl,U,_,_,Ca.o,agx.o⟩)⟩,na.o⟩
end Go.Proofs.YtlcdgbhigfgehabGreatDoor
namespace Go.Proofs.YtlcdgbhigfgehabGreatDoor
open Go.RowKit

structure CN(w:ab)(l:List aI)(room:Int)(p:ai)(w':ab):Prop where
 bo:Fr aD w w'
 b5:∃av an,p=.pointer (some ⟨av,0,none⟩)/\w.heap.size<=av/\w.heap.size<=an/\dh w' w.heap.size av an l room false/\∃x,w'.heap[av]? =some (.cells x 99 (0,0))
def CN.keep{w w1 w2:ab}{l:List aI}{room:Int}{p:ai}(h:CN w l room p w1)(k:Fr aD w1 w2):CN w l room p w2:=⟨h.bo.step k (λ_ h _=>h),by have⟨av,an,b,c,d,e,x,a⟩:=h.b5;exact⟨av,an,b,c,d,e.br k,x,(k.block av (bQ.1 a).1 id).trans a⟩⟩
def ajq(v:ai)(l:List (aI×ai))(B:Nat)(room:Int)(w:ab)(h:ez w B v l)(j:∀p∈l,p.1.name.length<=1000000)(hd:∀p∈l,p.1.data.length<=1000000)(q:l.length<=1000000)(a:dc (l.map (·.1)))(r:0<=room)(s:room<=1048576): Calls aj.prog 25 #[v,.int .i64 room] w λe w'=>∃p,e=.returned (.tuple #[p,.nilIface])/\CN w (l.map (·.1)) room p w':=by
 obtain⟨K,L,rfl,-⟩:=h.vec.shape;have k:=ae (Bp _ l B w h j hd);have H:=ae h;have t:=ae hd;have n:=(vx _).2 a;rw[n]at k;have u:=ae a;have y:decide (room<0)=false:=a5;have z:decide (room>1048576)=false:=a5;clear n a h j hd;go_enter aj.func25,Tryz.ntmps25;go_wp2_with fail;refine k.o.mono ?_;rintro e w1⟨x,rfl,A,d⟩;obtain rfl:x=.nilIface:=A;have C:=ae d;have D:=d.size;have E:=ae (ady _ l B w1 (H.o.br d) t.o q);clear d;go_wp2_with fail;refine E.o.mono ?_;rintro e w2⟨v',m,rfl,o,hk,b,c⟩;have F:=ae o;have G:=ae hk;have f:=ae b;have g:=ae (C.o.step c (λ_ h _=>h));have aa:=c.size;have J:=Own.lt b;clear o hk b c;go_wp2_with fail;go_ret2;have i:=v8 w2 (.cells #[.int .i32 0,.int .u32 0,.pointer (some ⟨w1.heap.size,0,none⟩),.int .i64 room,.bool false] 99);refine⟨_,rfl,g.o.step i (λ_ h _=>h),_,_,rfl,U,U,⟨?_,?_,u.o,U⟩,_,V8 w2 _⟩
 .exact Own.alloc w2 #[.int .i32 0,.int .u32 0,.pointer (some ⟨w1.heap.size,0,none⟩),.int .i64 room,.bool false] 99
 .exact⟨0,v',.slice none 0 0,0,0,m,.inl ⟨rfl,Own.keep f.o i id⟩,(G.o.br i).lift U,F.o,λ_=>rfl⟩
def Mj(v:ai)(l:List (aI×ai))(B:Nat)(room:Int)(w:ab)(h:ez w B v l)(d:∀p∈l,p.1.name.length<=1000000)(hd:∀p∈l,p.1.data.length<=1000000)(f:l.length<=1000000)(a:dc (l.map (·.1)))(b:0<=room)(c:room<=1048576): Calls aj.prog 14 #[v,.int .i64 room] w λe w'=>∃p,e=.returned (.tuple #[p,.int .i64 0,.string ByteArray.empty])/\CN w (l.map (·.1)) room p w':=by
 have H:=ae (ajq v l B room w h d hd f a b c);clear h d hd f a;go_enter aj.func14,Tryz.ntmps14;go_wp2_with fail;refine H.o.mono ?_;rintro e w1⟨x,rfl,g⟩;have i:=ae (told_none w1);have j:=ae g;clear g;go_wp2_with fail;refine i.o.mono ?_;rintro e w2⟨rfl,k⟩;go_wp2_with fail;go_ret3
 exact⟨x,rfl,j.o.keep k⟩
end Go.Proofs.YtlcdgbhigfgehabGreatDoor
