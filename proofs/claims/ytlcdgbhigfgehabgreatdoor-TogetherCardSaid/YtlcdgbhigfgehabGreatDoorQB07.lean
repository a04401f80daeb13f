import Derived.Test.YtlcdgbhigfgehabGreatDoorQB05
import Derived.Deep.RegionHeld3
set_option linter.all false
set_option maxRecDepth 100000
set_option maxHeartbeats 16000000
namespace Go.Proofs.YtlcdgbhigfgehabGreatDoor
open Go.RowKit

def Vec.gI{w:ab}{B aK n g:Nat}{T b:TypeId}{v:ai}{xs d:bJ}(h:Vec w B T aK v n xs)(ap:Own w g b d)(e:T≠b):v.ownBlock≠some g:=by
 rcases h.2 with⟨rfl,_⟩|⟨g',cap,rest,rfl,_,a,_⟩
 .simp[Value.ownBlock]
 .intro c;simp[Value.ownBlock]at c;subst c;obtain⟨i,a,_⟩:=a;obtain⟨f,ap,_⟩:=ap;rw[a]at ap;simp at ap;exact e ap.2.1
def tK{P:bF}{o:Oper}{a:Act}{w:ab}{K:Act->ab->Prop}{Q:Exit->Act->ab->Prop}(s x:Operand)(t:TypeId)(ap:o.op=.call {callee:=.builtin .append,args:= #[s,x],argTypes:= #[t,t]})(B:Nat)(e:TypeId)(size b:Nat)(d:gZ P t e size b){v:ai}{n:Nat}{xs:bJ}(f:Vec w B e size v n xs)(p:a.eval s=v){xv:ai}{m:Nat}{news:bJ}(q:Reads w xv m news)(j:a.eval x=xv)(r:news.length=m*size)(y:∀u∈news,u.oneCell'=true)(l:n+m<=maxLen)(c:(n+m)*b<=140737488355328)(A:B<=w.heap.size)(h:∀v' w',Vec w' B e size v' (n+m) (xs++news)->Fr (λk=>v.ownBlock=some k) w w'->(v'.ownBlock=v.ownBlock\/∃g,v'.ownBlock=some g/\w.heap.size<=g)->K (a.put o.dst v') w'):Oper.wp P o a w K Q:=by
 obtain⟨i,z,ay,aF,C,D,E,F⟩:=d;have⟨v',w',G,H,aa,J,L⟩:=I2 (P:=P) w B t o.type e i z size b ay aF C D E F v n xs f xv m news q r y l c A;unfold Oper.wp execOp;simp only[ap,resolve,invoke,builtin,vA,Ez,Result.andThen_ok,List.map_toArray,mW,tz,p,j,G];exact h v' w' H aa J
structure l4(w:ab)(B tL:Nat)(ot:ai)(from_:Nat)(L:List Tok):Prop where
 mem:∃fD l,Own w tL 235 [ot,fD,.int .i64 from_]/\ej w B fD l/\l.map (·.1)=L
def l4.br{w w1:ab}{B a:Nat}{b:ai}{f:Nat}{L:List Tok}(h:l4 w B a b f L)(k:Fr aD w w1):l4 w1 B a b f L:=by
 have⟨c,l,d,e,g⟩:=h.mem;exact⟨⟨c,l,d.keep k id,e.br k,g⟩⟩
def GS(w:ab)(B tL:Nat)(k:Nat):Prop:=k=tL\/(B<=k/\k<w.heap.size)
def Jm{wr a:ab}{B e f:Nat}{w n v4 cM:ai}{l:List (Tok×ai)}{t:Tok}(ap:Own wr e 235 [w,n,.int .i64 f])(g:ej wr B n l)(hk:Fr (λk=>n.ownBlock=some k) wr a)(o:Vec a B 171 3 v4 (l.length+1) (gH l++ [.int .i64 t.b,.int .i64 t.c,cM]))(hd:Vec a B 5 1 cM t.d.length (bT t.d))(m:∀k,cM.ownBlock=some k->wr.heap.size<=k): l4 (a.setCell ⟨e,1,none⟩ v4) B e w f (l.map (·.1)++ [t])/\Fr (λk=>k=e\/n.ownBlock=some k) wr (a.setCell ⟨e,1,none⟩ v4):=by
 have i:=ap.keep hk (g.vec.gI ap aE);have x:Fr (λk=>k=e) a (a.setCell ⟨e,1,none⟩ v4):=(Fr.refl _ _).setCell _ _ (λ_=>rfl);have q:=g.snoc o hk hd (λp r k s u=>by have:=(g.lt p r k s).2;have:=m k u;omega);refine⟨⟨v4,l++ [(t,cM)],i.set 1 v4,q.keep x (λb v j=> ?_) (λp r b v j=> ?_),ag⟩,(hk.mono (λk h _=>.inr h)).step x (λk h _=>.inl h)⟩
 .subst j;exact q.vec.gI i aE v
 .subst j;exact(q.data p r).gI i aE v
def l4.from_{w:ab}{B a f:Nat}{i:ai}{L:List Tok}(h:l4 w B a i f L)(m:Nat)(x:Int)(n:x=m):l4 (w.setCell ⟨a,2,none⟩ (.int .i64 x)) B a i m L/\Fr (λk=>k=a) w (w.setCell ⟨a,2,none⟩ (.int .i64 x)):=by
 subst n;have⟨o,l,d,e,q⟩:=h.mem;have j:Fr (λk=>k=a) w (w.setCell ⟨a,2,none⟩ (.int .i64 m)):=(Fr.refl _ _).setCell _ _ (λ_=>rfl);refine⟨⟨o,l,d.set 2 _,e.keep j (λb g c=> ?_) (λp r b g c=> ?_),q⟩,j⟩
 .subst c;exact e.vec.gI d aE g
 .subst c;exact(e.data p r).gI d aE g
def l4.EL{w:ab}{B a f:Nat}{b:ai}{L:List Tok}(h:l4 w B a b f L):w.cell? ⟨a,2,none⟩=some (.int .i64 f):=by
 have⟨d,l,c,e,g⟩:=h.mem;exact c.cell (i:=2) rfl
def RD(a:ar)(f i:Nat)(h:f<i)(af:i<=a.length): chunks ((a.drop f).take (i - f))=⟨0,0,(a.drop f).take (min i (f+255) - f)⟩::chunks ((a.drop (min i (f+255))).take (i - min i (f+255))):=by
 have b:(a.drop f).take (i - f)≠[]:=by
  intro c;have:=hq List.length c;simp at this;omega
 rw[AB _ b,List.take_take,List.drop_take,xO];have ay:min 255 (i - f)=min i (f+255) - f:=U;rw[ay];by_cases d:i<=f+255
 .have aF:min i (f+255)=i:=U;rw[aF,show i - f - 255=0 by omega,Nat.sub_self];simp
 .have aF:min i (f+255)=f+255:=U;rw[aF,Nat.sub_sub]
def Jn(w:ab)(B j:Nat)(Y:ai)(d:ar)(f i:Nat)(L:List Tok)(cC:l4 w B j Y f L)(c8:B<=w.heap.size)(RE:f<=i)(af:i<=d.length)(hd:d.length<=300)(hs:L.length<=1000)(bP:bH w Y d)(aa3:∀b,Y.ownBlock=some b->b<B)(c:Int)(dZ:c=i): Calls aj.prog 124 #[.pointer (some ⟨j,0,none⟩),.int .i64 c] w λe w'=>e=.returned (.tuple #[])/\l4 w' B j Y i (L++chunks ((d.drop f).take (i - f)))/\Fr (GS w B j) w w':=by
 subst dZ;have l5:=ae bP;have dV:=ae cC;have aa4:j<w.heap.size:=(by obtain⟨fD,l,bD,-,-⟩:=cC.mem;exact bD.lt);clear cC bP;go_enter aj.func124,Tryz.ntmps124;go_wp2_with fail;go_loopw [4] (λ_ wr=>∃(a:Nat)(O:List Tok),f<=a/\a<=i/\l4 wr B j Y a O/\O.length<=L.length+a/\O++chunks ((d.drop a).take (i - a))=L++chunks ((d.drop f).take (i - f))/\Fr (GS w B j) w wr) (λ_ wr=>i - (intOf ((wr.cell? ⟨j,2,none⟩).getD I)).toNat)
 case atStart=>exact⟨f,L,bh _,RE,dV.o,U,rfl,Fr.refl _ _⟩
 case round=>
  obtain⟨a,O,bD,cb,ia,Z,P,hF⟩:=hrel;have⟨fD,l,ap,J,M⟩:=ia.mem;obtain⟨la,pV,AO,-⟩:=J.vec.shape;subst AO;have x0:=ap.cell (i:=0) rfl;have x1:=ap.cell (i:=1) rfl;have gz:=ap.cell (i:=2) rfl;have at4:=ap.free 1 ag;have at5:=ap.free 2 ag;have r4:=ae hF;have V:=ae ap;have o:=ae J;have r5:=ae M;have p:=hq List.length M;rw[pW]at p;have Q:=ae P;have nF:=hF.size;by_cases gJ:a<i
  .have R:=l5.o.keep hF (λb W bw=>by
    rcases bw with rfl|⟨jQ,-⟩
    .obtain⟨at6,l0,Jo,-⟩:=dV.o.mem;exact l5.o.apart Jo aE W
    .have:=aa3 b W;omega)
   rcases R.cases with⟨-,rfl⟩|⟨aO,bd,bc,rfl,kq,r6,-⟩
   .simp at af;omega
   have F:=R.part a (min i (a+255)) (min i (a+255) - a) U U U eH;have kr:=ae F;clear hF ap J M P R ia F;by_cases aa5:i<=a+255
   .have Jp:(i:Int)<=(a:Int)+255:=U;rw[show min i (a+255)=i by omega]at kr;have g:((d.drop a).take (i - a)).length=i - a:=a5;have AP:l.length<=L.length+a:=(by rw[p];exact Z);clear p;have r:=RD d a i gJ af;rw[show min i (a+255)=i by omega]at r;have S:=ae r;clear r;generalize o2:(d.drop a).take (i - a)=X at *;have Jq:j<wr.heap.size:=U;clear o2;have q2:=ae g;have Jr:X.length<=300:=U;clear g;go_wp2_with fail;have fp:¬(i=a):=U;have i1:(0:Int)<=(a:Int):=U;have i2:(a:Int)<=(i:Int):=U;have i3:(i:Int)<=(d.length:Int):=U;have i4:(i:Int)<=(bc:Int):=U;go_region_law
     (first
      |(go_simp;go_at_call 71;refine(EK _ X _ (kr.o.br (Fr.drew (Fr.refl _ _))) U).mono ?_;rintro e w1⟨v1,rfl,s,u⟩;obtain⟨a1,c1,x,-⟩:=s.shape;subst x;have y:=(V.o.keep (Fr.drew (Fr.refl aD _)) id).keep u id;have ht:=y.cell (i:=0) rfl;have l6:=y.cell (i:=1) rfl;have ou:=y.cell (i:=2) rfl;have AQ:=y.free 1 ag;have Js:j<w1.heap.size:=y.lt;have tM:=ae y;have G:=ae s;have A:=ae u;clear y s u)
      |(rw[aV eI];refine tK (.tmp 22) (.tmp 36) 153 rfl B 171 3 40 rX (v:=.slice la l.length pV) (n:=l.length) (xs:=gH l) (((o.o.vec.keep (Fr.drew (Fr.refl aD _)) (λ_ _ h=>h)).keep A.o (λ_ _ h=>h)).keep ((Fr.refl aD _).alloc _) (λ_ _ h=>h)) rfl (m:=1) (Reads.new _ _ _ _ ag _ _) rfl rfl (rY _ _ _ _ _) eH U (by have:=A.o.size;simp at this⊢;omega) ?_;intro v4 K C D H;obtain⟨l7,c4,x,-⟩:=C.shape;subst x;have z:=(tM.o.keep ((Fr.refl aD _).alloc _) id).keep D (o.o.vec.gI V.o aE);have nG:=z.cell (i:=0) rfl;have hO:=z.cell (i:=1) rfl;have hP:=z.cell (i:=2) rfl;have nH:=z.free 1 ag;have aa6:=z.free 2 ag;have aa7:j<K.heap.size:=z.lt;have aa8:=λv=>(EM K ⟨j,1,none⟩ ⟨j,0,none⟩ v ag).trans nG;have aa9:=λv=>(EM K ⟨j,1,none⟩ ⟨j,2,none⟩ v ag).trans hP;have tN:=ae z;have T:=ae C;have aa:=ae D;have Jt:=ae H;clear z C D H))
    all_goals
     go_wp2_with fail;have cc:Fr (λk=>(Value.slice la l.length pV).ownBlock=some k) wr K:=(((Fr.drew (Fr.refl aD wr)).step A.o (λ_ h _=>h)).alloc _|>.mono (λ_ h _=>h.elim)).step aa.o (λk hk _=>hk);have q:∀k,(Value.slice a1 X.length c1).ownBlock=some k->wr.heap.size<=k:=λk hk=>(by have:=(G.o.lt k hk).1;simpa using this);have hd:=(G.o.keep ((Fr.refl aD _).alloc (.cells #[.int .i64 0,.int .i64 0,.slice a1 X.length c1] 171)) (λ_ _ h=>h)).keep aa.o (λb W bw=>by
      have:=q b W;have:=(o.o.vec.lt b bw).2;omega)
     have⟨dA,c9⟩:=Jm (t:=⟨0,0,X⟩) V.o o.o cc T.o (hd.mono a5) q;have⟨az,ks⟩:=dA.from_ i i U;rw[r5.o]at az;have E:=az.EL;refine⟨⟨i,O++ [⟨0,0,X⟩],U,U,az,a5,?_,r4.o.step (c9.step ks (λk hk _=>.inl hk)) ?_⟩,?_⟩
     .rw[<-Q.o,S.o,gY];rfl
     .rintro k(hk|hk) M
      .exact .inl hk
      .exact .inr ⟨(o.o.vec.lt k hk).1,M⟩
     .rw[E,gz];simp[intOf];omega
   .have Jp:(a:Int)+255< (i:Int):=U;rw[show min i (a+255)=a+255 by omega,show a+255 - a=255 by omega]at kr;have g:((d.drop a).take 255).length=255:=a5;have AP:l.length<=L.length+a:=(by rw[p];exact Z);clear p;have r:=RD d a i gJ af;rw[show min i (a+255)=a+255 by omega,show a+255 - a=255 by omega]at r;have S:=ae r;clear r;generalize o2:(d.drop a).take 255=X at *;have Jq:j<wr.heap.size:=U;clear o2;have q2:=ae g;have Jr:X.length<=300:=U;clear g;go_wp2_with fail;have fp:¬(a+255=a):=U;have at7:((a:Int)+255).toNat=a+255:=U;have aua:a+255 - a=255:=U;have i1:(0:Int)<=(a:Int):=U;have i2:(a:Int)<=(a:Int)+255:=U;have i3:(a:Int)+255<=(d.length:Int):=U;have i4:(a:Int)+255<=(bc:Int):=U;go_region_law
     (first
      |(go_simp;go_at_call 71;refine(EK _ X _ (kr.o.br (Fr.drew (Fr.refl _ _))) U).mono ?_;rintro e w1⟨v1,rfl,s,u⟩;obtain⟨a1,c1,x,-⟩:=s.shape;subst x;have y:=(V.o.keep (Fr.drew (Fr.refl aD _)) id).keep u id;have ht:=y.cell (i:=0) rfl;have l6:=y.cell (i:=1) rfl;have ou:=y.cell (i:=2) rfl;have AQ:=y.free 1 ag;have Js:j<w1.heap.size:=y.lt;have tM:=ae y;have G:=ae s;have A:=ae u;clear y s u)
      |(rw[aV eI];refine tK (.tmp 22) (.tmp 36) 153 rfl B 171 3 40 rX (v:=.slice la l.length pV) (n:=l.length) (xs:=gH l) (((o.o.vec.keep (Fr.drew (Fr.refl aD _)) (λ_ _ h=>h)).keep A.o (λ_ _ h=>h)).keep ((Fr.refl aD _).alloc _) (λ_ _ h=>h)) rfl (m:=1) (Reads.new _ _ _ _ ag _ _) rfl rfl (rY _ _ _ _ _) eH U (by have:=A.o.size;simp at this⊢;omega) ?_;intro v4 K C D H;obtain⟨l7,c4,x,-⟩:=C.shape;subst x;have z:=(tM.o.keep ((Fr.refl aD _).alloc _) id).keep D (o.o.vec.gI V.o aE);have nG:=z.cell (i:=0) rfl;have hO:=z.cell (i:=1) rfl;have hP:=z.cell (i:=2) rfl;have nH:=z.free 1 ag;have aa6:=z.free 2 ag;have aa7:j<K.heap.size:=z.lt;have aa8:=λv=>(EM K ⟨j,1,none⟩ ⟨j,0,none⟩ v ag).trans nG;have aa9:=λv=>(EM K ⟨j,1,none⟩ ⟨j,2,none⟩ v ag).trans hP;have tN:=ae z;have T:=ae C;have aa:=ae D;have Jt:=ae H;clear z C D H))
    all_goals
     go_wp2_with fail;have cc:Fr (λk=>(Value.slice la l.length pV).ownBlock=some k) wr K:=(((Fr.drew (Fr.refl aD wr)).step A.o (λ_ h _=>h)).alloc _|>.mono (λ_ h _=>h.elim)).step aa.o (λk hk _=>hk);have q:∀k,(Value.slice a1 X.length c1).ownBlock=some k->wr.heap.size<=k:=λk hk=>(by have:=(G.o.lt k hk).1;simpa using this);have hd:=(G.o.keep ((Fr.refl aD _).alloc (.cells #[.int .i64 0,.int .i64 0,.slice a1 X.length c1] 171)) (λ_ _ h=>h)).keep aa.o (λb W bw=>by
      have:=q b W;have:=(o.o.vec.lt b bw).2;omega)
     have⟨dA,c9⟩:=Jm (t:=⟨0,0,X⟩) V.o o.o cc T.o (hd.mono a5) q;have⟨az,ks⟩:=dA.from_ (a+255) ((a:Int)+255) U;rw[r5.o]at az;have E:=az.EL;refine⟨⟨a+255,O++ [⟨0,0,X⟩],U,U,az,a5,?_,r4.o.step (c9.step ks (λk hk _=>.inl hk)) ?_⟩,?_⟩
     .rw[<-Q.o,S.o,gY];rfl
     .rintro k(hk|hk) M
      .exact .inl hk
      .exact .inr ⟨(o.o.vec.lt k hk).1,M⟩
     .rw[E,gz];simp[intOf];omega
  .obtain rfl:a=i:=U;have aba:=ae ia;have N:O=L++chunks ((d.drop f).take (a - f)):=(by rw[<-Q.o,Nat.sub_self,AR,vz,pN]);have abb:=ae N;clear hF ap J M P ia N;go_wp2_with fail;go_end0
   exact⟨rfl,abb.o▸aba.o,r4.o⟩
end Go.Proofs.YtlcdgbhigfgehabGreatDoor
namespace Go.Proofs.YtlcdgbhigfgehabGreatDoor
open Go.RowKit

def aeP(a:List (Tok×ai))(t:Tok)(cM:ai)(rest:bJ)(m:Nat)(c:a.length=m)(x:Int): (gH (a++ [(t,cM)])++rest).set (m*3+1) (.int .i64 x)=gH (a++ [(⟨t.b,x,t.d⟩,cM)])++rest:=by
 subst c;rw[EJ,EJ,gY,gY,List.set_append,aC ag];simp[gH]
def aeQ(L:List Tok)(t:Tok)(k:Nat):addBlock (L++ [t]) k=if 0<t.c/\t.c<255/\t.b+t.c=k then L++ [⟨t.b,t.c+1,t.d⟩]else L++ [t]++ [⟨k,1,[]⟩]:=by
 unfold addBlock;simp
def ej.count{w:ab}{B:Nat}{g m cap:Nat}{e:List (Tok×ai)}{t:Tok}{cM:ai}(h:ej w B (.slice (some ⟨g,0,none⟩) (m+1) cap) (e++ [(t,cM)]))(j:e.length=m)(x:Int): ej (w.setCell ⟨g,m*3+1,none⟩ (.int .i64 x)) B (.slice (some ⟨g,0,none⟩) (m+1) cap) (e++ [(⟨t.b,x,t.d⟩,cM)]):=by
 have q:Fr (λk=>k=g) w (w.setCell ⟨g,m*3+1,none⟩ (.int .i64 x)):=(Fr.refl _ _).setCell _ _ (λ_=>rfl);have hd:∀p∈e++ [(t,cM)],Vec (w.setCell ⟨g,m*3+1,none⟩ (.int .i64 x)) B 5 1 p.2 p.1.d.length (bT p.1.d):=λp c=>(h.data p c).keep q (λb f i=>by subst i;exact h.hK.apart p c b f rfl);refine⟨?_,?_,?_⟩
 .have⟨g',l,rest,n,r,s,u,v,y⟩:=h.vec.row ag;simp only[eG,fK,qZ,kl,fF]at n;obtain⟨rfl,o,rfl⟩:=n;refine⟨ag,.inr ⟨g,cap,rest,by simp[j],r,?_,?_,by simpa using v,y⟩⟩
  .have:=s.set (m*3+1) (.int .i64 x);rwa[aeP e t cM rest m j]at this
  .simpa using u
 .intro p c;rcases fB.1 c with c|c
  .exact hd p (fB.2 (.inl c))
  .simp at c;subst c;exact hd (t,cM) ag
 .have:=h.two;rw[rZ]at this⊢;exact⟨this.1,tJ _ _,λa z b f=>by simp at f;subst f;exact this.2.2 a z (t,cM) ag⟩
def TD(w:ab)(B N:Nat)(ot:ai)(f:Nat)(L:List Tok)(cC:l4 w B N ot f L)(c8:B<=w.heap.size)(hs:L.length<=2000)(k:Nat)(hk:k<=100000)(hb:∀t∈L,Shaped t/\t.b<=100000): Calls aj.prog 125 #[.pointer (some ⟨N,0,none⟩),.int .i64 k] w λe w'=>e=.returned (.tuple #[])/\l4 w' B N ot f (addBlock L k)/\Fr (GS w B N) w w':=by
 have⟨fD,l,ap,o,Z⟩:=cC.mem;have aa4:=ap.lt;obtain⟨la,pV,AO,-⟩:=o.vec.shape;subst AO;have AP:l.length<=2000:=(by rw[<-Z]at hs;simpa using hs);have E:∀(w1:ab)(v4:ai),Vec w1 B 171 3 v4 (l.length+1) (gH l++ [.int .i64 k,.int .i64 1,.slice none 0 0])->Fr (λk=>(Value.slice la l.length pV).ownBlock=some k) w w1->l4 (w1.setCell ⟨N,1,none⟩ v4) B N ot f (L++ [⟨k,1,[]⟩])/\Fr (GS w B N) w (w1.setCell ⟨N,1,none⟩ v4):=by
  intro w1 v4 bD cb;have⟨M,O⟩:=Jm (t:=⟨k,1,[]⟩) ap o cb bD (Vec.nil _ _ _ _) (λk hk=>by simp[Value.ownBlock]at hk);rw[Z]at M;refine⟨M,O.mono ?_⟩;rintro k(hk|hk) eC
  .exact .inl hk
  .exact .inr ⟨(o.vec.lt k hk).1,eC⟩
 have p:=ae E;have F:=ae ap;have P:=ae o;have x1:=ap.cell (i:=1) rfl;have ES:=ap.free 1 ag;rcases xR l with rfl|⟨l0,⟨t,cM⟩,rfl⟩
 .have aeR:L=[]:=(by rw[<-Z];rfl);subst aeR;clear E ap o cC Z;simp only[oW]at x1;go_enter aj.func125,Tryz.ntmps125;go_wp2_with (at_builtin;refine fP rfl (.tmp 56) (.tmp 59) _ rfl B 171 3 40 rX (P.o.vec.keep ((Fr.refl aD _).alloc _) (λ_ _ h=>h)) rfl (m:=1) (Reads.new _ _ _ _ ag _ _) rfl rfl (rY _ _ _ _ _) (by unfold maxLen;simp) ag a5 ?_;intro v4 T d j s u;obtain⟨az,V,n,-⟩:=d.shape;subst n;have z:=(F.o.keep ((Fr.refl aD _).alloc _) id).keep j (P.o.vec.gI F.o aE);have hO:=z.cell (i:=1) rfl;have nH:=z.free 1 ag;have x:=ae d;have y:=ae j;clear z d j s u);go_end0
  have⟨M,O⟩:=p.o T (.slice az 1 V) x.o (((Fr.refl aD _).alloc _).mono (λ_ h _=>h.elim)|>.step y.o (λk hk _=>hk));exact⟨rfl,M,O⟩
 .rw[Aq]at *;obtain⟨m,hm⟩:∃m,l0.length=m:=⟨_,rfl⟩;have R:(l0++ [(t,cM)]).length=m+1:=(by simp[hm]);have Q:L=l0.map (·.1)++ [t]:=(by rw[<-Z];simp);have⟨g,cap,rest,b9,bD,cb,b7,dC,dB⟩:=o.vec.row ag;simp only[eG,fF]at b9;obtain⟨rfl,rfl⟩:=b9;have A:∀i v,(gH [(t,cM)])[i]? =some v->w.cell? ⟨g,m*3+i,none⟩=some v:=by
   intro i v af;refine cb.cell ?_;rw[EJ,gY,Ei a5,gx (by have:=(qV.1 af).1;simp[hm]at this⊢;omega)];simpa[hm]using af
  have ht:=A 0 _ rfl;rw[oY]at ht;have l6:=A 1 _ rfl;have AQ:=cb.free (m*3+1) (by simp[hm];omega);have W:=o.vec;rw[R]at x1 AP dC F P p W;have q:=ae W;clear W;have n:=hb t (by rw[Q];simp);have X:=aeQ (l0.map (·.1)) t k;rw[<-Q]at X;have G:=ae X;have ic:=ae hm;have Y:=ae Q;have sb:0<=t.b/\t.b<=100000/\0<=t.c/\t.c<=255:=(by rcases n.1 with h|h<;>omega);clear A cb b7 X n hb R Q hm E ap o cC Z hs;obtain⟨H,a,nW⟩:=t;simp only at ht l6 sb G;have AU:IntKind.i64.wrap (H+a)=H+a:=kt _ U;by_cases C:0<a
  .by_cases aa:a<255
   .by_cases D:H+a=k
    .have ov:(H+a==(k:Int))=true:=(by simpa using D);have J:decide (0<a)=true:=(by simpa using C);have S:decide (a<255)=true:=(by simpa using aa);have FD:=ae D;clear D;go_enter aj.func125,Tryz.ntmps125;go_wp2_with fail;go_quiet (fail)
     go_wp2_with fail;refine J8 (J9 rfl _ _ _) rfl ?_;have aeS:=(P.o.br ((Fr.refl aD w).drewN nq)).count ic.o (a+1);have EI:N≠g:=λe=>(by subst e;exact q.o.gI F.o aE rfl);have bw:Fr (λk=>k=g) w ((w.drewN nq).setCell ⟨g,m*3+1,none⟩ (.int .i64 (a+1))):=((Fr.refl _ _).drewN nq).setCell _ _ (λ_=>rfl);refine⟨rfl,⟨_,_,F.o.keep bw EI,aeS,?_⟩,bw.mono ?_⟩
     .rw[G.o,aV ⟨C,aa,FD.o⟩];simp
     .rintro b rfl hb;exact .inr ⟨(q.o.lt b rfl).1,hb⟩
    .have ov:(H+a==(k:Int))=false:=(by simpa using D);have J:decide (0<a)=true:=(by simpa using C);have S:decide (a<255)=true:=(by simpa using aa);have r:addBlock L k=L++ [⟨k,1,[]⟩]:=(by rw[G.o,aC (λh=>D h.2.2),Y.o]);have K:=ae r;clear r D;go_enter aj.func125,Tryz.ntmps125;go_wp2_with fail;go_quiet (fail)
     go_wp2_with (at_builtin;refine fP rfl (.tmp 56) (.tmp 59) _ rfl B 171 3 40 rX (q.o.keep (((Fr.refl aD w).drewN _).alloc _) (λ_ _ h=>h)) rfl (m:=1) (Reads.new _ _ _ _ ag _ _) rfl rfl (rY _ _ _ _ _) eH U a5 ?_;intro v4 T d j s u;obtain⟨az,V,n,-⟩:=d.shape;subst n;have z:=(F.o.keep (((Fr.refl aD w).drewN _).alloc _) id).keep j (q.o.gI F.o aE);have hO:=z.cell (i:=1) rfl;have nH:=z.free 1 ag;have x:=ae d;have y:=ae j;clear z d j s u);go_end0
     have⟨M,O⟩:=p.o T (.slice az (m+1+1) V) x.o ((((Fr.refl aD w).drewN _).alloc _).mono (λ_ h _=>h.elim)|>.step y.o (λk hk _=>hk));exact⟨rfl,K.o▸M,O⟩
   .have J:decide (0<a)=true:=(by simpa using C);have S:decide (a<255)=false:=(by simpa using aa);have r:addBlock L k=L++ [⟨k,1,[]⟩]:=(by rw[G.o,aC (λh=>aa h.2.1),Y.o]);have K:=ae r;clear r;go_enter aj.func125,Tryz.ntmps125;go_wp2_with fail;go_quiet (fail)
    go_wp2_with (at_builtin;refine fP rfl (.tmp 56) (.tmp 59) _ rfl B 171 3 40 rX (q.o.keep (((Fr.refl aD w).drewN _).alloc _) (λ_ _ h=>h)) rfl (m:=1) (Reads.new _ _ _ _ ag _ _) rfl rfl (rY _ _ _ _ _) eH U a5 ?_;intro v4 T d j s u;obtain⟨az,V,n,-⟩:=d.shape;subst n;have z:=(F.o.keep (((Fr.refl aD w).drewN _).alloc _) id).keep j (q.o.gI F.o aE);have hO:=z.cell (i:=1) rfl;have nH:=z.free 1 ag;have x:=ae d;have y:=ae j;clear z d j s u);go_end0
    have⟨M,O⟩:=p.o T (.slice az (m+1+1) V) x.o ((((Fr.refl aD w).drewN _).alloc _).mono (λ_ h _=>h.elim)|>.step y.o (λk hk _=>hk));exact⟨rfl,K.o▸M,O⟩
  .have J:decide (0<a)=false:=(by simpa using C);have r:addBlock L k=L++ [⟨k,1,[]⟩]:=(by rw[G.o,aC (λh=>C h.1),Y.o]);have K:=ae r;clear r;go_enter aj.func125,Tryz.ntmps125;go_wp2_with fail;go_quiet (fail)
   go_wp2_with (at_builtin;refine fP rfl (.tmp 56) (.tmp 59) _ rfl B 171 3 40 rX (q.o.keep (((Fr.refl aD w).drewN _).alloc _) (λ_ _ h=>h)) rfl (m:=1) (Reads.new _ _ _ _ ag _ _) rfl rfl (rY _ _ _ _ _) eH U a5 ?_;intro v4 T d j s u;obtain⟨az,V,n,-⟩:=d.shape;subst n;have z:=(F.o.keep (((Fr.refl aD w).drewN _).alloc _) id).keep j (q.o.gI F.o aE);have hO:=z.cell (i:=1) rfl;have nH:=z.free 1 ag;have x:=ae d;have y:=ae j;clear z d j s u);go_end0
   have⟨M,O⟩:=p.o T (.slice az (m+1+1) V) x.o ((((Fr.refl aD w).drewN _).alloc _).mono (λ_ h _=>h.elim)|>.step y.o (λk hk _=>hk));exact⟨rfl,K.o▸M,O⟩
end Go.Proofs.YtlcdgbhigfgehabGreatDoor
