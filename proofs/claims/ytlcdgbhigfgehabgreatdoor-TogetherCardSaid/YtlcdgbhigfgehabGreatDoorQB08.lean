import Derived.Test.YtlcdgbhigfgehabGreatDoorQB07
import Derived.BigRegion
import Derived.Deep.RegionLaw
import Derived.Recover
import Derived.Defers
set_option linter.all false
set_option maxRecDepth 100000
set_option maxHeartbeats 16000000
namespace Go.Proofs.YtlcdgbhigfgehabGreatDoor
open Go.RowKit

def ml(w:ab)(g:Nat)(x0 x1:ai)(live step da:Int):Prop:=Own w g 162 [x0,x1,.int .i64 live,.int .i64 step,.int .i64 da]
abbrev sj:PanicEntry:={v:=.iface 163 (.agg #[]),recovered:=false}
def ml.tick{w:ab}{an:Nat}{x0 x1:ai}{c d a:Int}(h:ml w an x0 x1 c d a)(v:Int): ml (w.setCell ⟨an,3,none⟩ (.int .i64 v)) an x0 x1 c v a/\Fr (λb=>b=an) w (w.setCell ⟨an,3,none⟩ (.int .i64 v)):=⟨Own.set h 3 (.int .i64 v),(Fr.refl (λb=>b=an) w).setCell ⟨an,3,none⟩ (.int .i64 v) (λ_=>rfl)⟩
def Bn(an:Nat)(x0 x1:ai)(d a c:Int)(w:ab)(h:ml w an x0 x1 d a c)(g:0<=a/\a<=1000)(f:a+1≠c): Calls aj.prog 73 #[.pointer (some ⟨an,0,none⟩)] w λe w'=>e=.returned (.tuple #[])/\ml w' an x0 x1 d (a+1) c/\Fr (λb=>b=an) w w':=by
 have kv:=Own.cell h (i:=3) rfl;have j:=Own.free h 3 ag;have k:wrap64 (a+1)=a+1:=yl _ U;have hd:(a+1==c)=false:=(by simpa using f);have H:=ae (h.tick (a+1));clear h f;go_enter aj.func73,Tryz.ntmps73;go_wp2_with fail;generalize w.setCell ⟨an,3,none⟩ (.int .i64 (a+1))=w1 at H⊢;have l:=Own.cell H.o.1 (i:=3) rfl;have m:=Own.cell H.o.1 (i:=4) rfl;go_quiet (fail)
 go_wp2_with fail;go_end0
 exact⟨rfl,Own.keep (S:=λ_=>False) H.o.1 ((Fr.refl _ _).drewN _) id,H.o.2.drewN _⟩
def SC(an:Nat)(x0 x1:ai)(d a c:Int)(w:ab)(h:ml w an x0 x1 d a c)(g:0<=a/\a<=1000)(f:a+1=c): Calls aj.prog 73 #[.pointer (some ⟨an,0,none⟩)] w λe w'=>e=.panicked [sj]/\ml w' an x0 x1 d (a+1) c/\Fr (λb=>b=an) w w':=by
 have kv:=Own.cell h (i:=3) rfl;have j:=Own.free h 3 ag;have k:wrap64 (a+1)=a+1:=yl _ U;have hd:(a+1==c)=true:=(by simpa using f);have H:=ae (h.tick (a+1));clear h f;go_enter aj.func73,Tryz.ntmps73;go_wp2_with fail;generalize w.setCell ⟨an,3,none⟩ (.int .i64 (a+1))=w1 at H⊢;have l:=Own.cell H.o.1 (i:=3) rfl;have m:=Own.cell H.o.1 (i:=4) rfl;go_quiet (fail)
 go_wp2_with fail;exact⟨rfl,rfl,Own.keep (S:=λ_=>False) H.o.1 ((Fr.refl _ _).drewN _) id,H.o.2.drewN _⟩
def c0(w:ab)(an:Nat)(live:Int)(x y:ai)(step da:Int):Prop:=(live=0/\ml w an x y 0 step da)\/(live=1/\ml w an y x 1 step da)
def c0.own{w:ab}{an:Nat}{a:Int}{x y:ai}{s c:Int}(h:c0 w an a x y s c):∃xs,Own w an 162 xs:=by rcases h with⟨-,h⟩|⟨-,h⟩<;>exact⟨_,h⟩
def c0.keep{w w1:ab}{S:Nat->Prop}{an:Nat}{a:Int}{x y:ai}{s c:Int}(h:c0 w an a x y s c)(k:Fr S w w1)(d:¬S an):c0 w1 an a x y s c:=by
 rcases h with⟨b,h⟩|⟨b,h⟩
 .exact .inl ⟨b,Own.keep h k d⟩
 .exact .inr ⟨b,Own.keep h k d⟩
def adq(an:Nat)(d:Int)(x y:ai)(a c:Int)(w:ab)(h:c0 w an d x y a c)(j:0<=a/\a<=1000)(k:a+1≠c): Calls aj.prog 73 #[.pointer (some ⟨an,0,none⟩)] w λe w'=>e=.returned (.tuple #[])/\c0 w' an d x y (a+1) c/\Fr (λb=>b=an) w w':=by
 rcases h with⟨rfl,h⟩|⟨rfl,h⟩
 .exact(Bn an _ _ _ _ _ w h j k).mono λe w' ⟨f,g,i⟩=>⟨f,.inl ⟨rfl,g⟩,i⟩
 .exact(Bn an _ _ _ _ _ w h j k).mono λe w' ⟨f,g,i⟩=>⟨f,.inr ⟨rfl,g⟩,i⟩
def Fc(an:Nat)(d:Int)(x y:ai)(a c:Int)(w:ab)(h:c0 w an d x y a c)(j:0<=a/\a<=1000)(k:a+1=c): Calls aj.prog 73 #[.pointer (some ⟨an,0,none⟩)] w λe w'=>e=.panicked [sj]/\c0 w' an d x y (a+1) c/\Fr (λb=>b=an) w w':=by
 rcases h with⟨rfl,h⟩|⟨rfl,h⟩
 .exact(SC an _ _ _ _ _ w h j k).mono λe w' ⟨f,g,i⟩=>⟨f,.inl ⟨rfl,g⟩,i⟩
 .exact(SC an _ _ _ _ _ w h j k).mono λe w' ⟨f,g,i⟩=>⟨f,.inr ⟨rfl,g⟩,i⟩
def adr(an:Nat)(d:Int)(x y:ai)(a c:Int)(w:ab)(h:c0 w an d x y a c)(g:0<=a/\a<=1000)(f:a+1≠c): Calls aj.prog 40 #[.pointer (some ⟨an,0,none⟩)] w λe w'=>e=.returned (.tuple #[])/\c0 w' an d x y (a+1) c/\Fr (λb=>b=an) w w':=by
 have H:=ae (adq an d x y a c w h g f);clear h f;go_enter aj.func40,Tryz.ntmps40;go_wp2_with fail;refine H.o.mono ?_;rintro e w1⟨rfl,i,j⟩;go_wp2_with fail;go_end0
 exact⟨rfl,i,j⟩
def ads(an:Nat)(d:Int)(x y:ai)(a c:Int)(w:ab)(h:c0 w an d x y a c)(g:0<=a/\a<=1000)(f:a+1=c): Calls aj.prog 40 #[.pointer (some ⟨an,0,none⟩)] w λe w'=>e=.panicked [sj]/\c0 w' an d x y (a+1) c/\Fr (λb=>b=an) w w':=by
 have H:=ae (Fc an d x y a c w h g f);clear h f;go_enter aj.func40,Tryz.ntmps40;go_wp2_with fail;refine H.o.mono ?_;rintro e w1⟨rfl,i,j⟩;go_wp2_with fail;exact⟨rfl,rfl,i,j⟩
def adt(an:Nat)(d:Int)(x y:ai)(a c:Int)(w:ab)(h:c0 w an d x y a c)(g:0<=a/\a<=1000)(f:a+1=c): Calls aj.prog 41 #[.pointer (some ⟨an,0,none⟩)] w λe w'=>e=.panicked [sj]/\c0 w' an d x y (a+1) c/\Fr (λb=>b=an) w w':=by
 have H:=ae (Fc an d x y a c w h g f);clear h f;go_enter aj.func41,Tryz.ntmps41;go_wp2_with fail;refine H.o.mono ?_;rintro e w1⟨rfl,i,j⟩;go_wp2_with fail;exact⟨rfl,rfl,i,j⟩
def adu(an:Nat)(d:Int)(x y:ai)(a c:Int)(w:ab)(h:c0 w an d x y a c)(g:0<=a/\a<=1000)(f:a+1=c): Calls aj.prog 42 #[.pointer (some ⟨an,0,none⟩)] w λe w'=>e=.panicked [sj]/\c0 w' an d x y (a+1) c/\Fr (λb=>b=an) w w':=by
 have H:=ae (Fc an d x y a c w h g f);clear h f;go_enter aj.func42,Tryz.ntmps42;go_wp2_with fail;refine H.o.mono ?_;rintro e w1⟨rfl,i,j⟩;go_wp2_with fail;exact⟨rfl,rfl,i,j⟩
def adv(an:Nat)(c:Int)(x y:ai)(step a:Int)(f:ai)(w:ab)(h:c0 w an c x y step a)(j:0<=step/\step<=1000)(g:step+1=a)(s:dI)(d:ai)(k:f=.agg #[.string s,d]): Calls aj.prog 39 #[.pointer (some ⟨an,0,none⟩),f] w λe w'=>e=.panicked [sj]/\c0 w' an c x y (step+1) a/\Fr (λb=>b=an) w w':=by
 subst k;have i:Fr aD w (w.alloc (.cells #[.string s,d] 37)):=(Fr.refl _ _).alloc _;have l:an<w.heap.size:=(by have⟨xs,o⟩:=h.own;exact o.lt);have H:=ae (Fc an c x y step a (w.alloc (.cells #[.string s,d] 37)) (h.keep i id) j g);clear h g;go_enter aj.func39,Tryz.ntmps39;go_wp2_with fail;refine H.o.mono ?_;rintro e w1⟨rfl,m,n⟩;go_wp2_with fail;exact⟨rfl,rfl,m,(i.mono (λ_ h _=>h.elim)).step n (λ_ h _=>h)⟩
def adw(an:Nat)(c:Int)(x y:ai)(step a:Int)(w:ab)(h:c0 w an c x y step a)(k:0<=step/\step<=1000)(f:step+1≠a): Calls aj.prog 41 #[.pointer (some ⟨an,0,none⟩)] w λe w'=>e=.returned (.tuple #[])/\c0 w' an (1 - c) y x (step+1) a/\Fr (λb=>b=an) w w':=by
 rcases h with⟨rfl,h⟩|⟨rfl,h⟩;all_goals
  have H:=ae (Bn an _ _ _ _ _ w h k f);clear h f;go_enter aj.func41,Tryz.ntmps41;go_wp2_with fail;refine H.o.mono ?_;rintro e w1⟨rfl,d,g⟩;have l:=Own.cell d (i:=2) rfl;have m:=Own.free d 2 ag;have j:=ae d;clear d;go_wp2_with fail;go_end0
 .exact⟨rfl,.inr ⟨rfl,Own.set j.o 2 (.int .i64 1)⟩,g.step ((Fr.refl (λb=>b=an) w1).setCell ⟨an,2,none⟩ (.int .i64 1) (λ_=>rfl)) (λ_ h _=>h)⟩
 .exact⟨rfl,.inl ⟨rfl,Own.set j.o 2 (.int .i64 0)⟩,g.step ((Fr.refl (λb=>b=an) w1).setCell ⟨an,2,none⟩ (.int .i64 0) (λ_=>rfl)) (λ_ h _=>h)⟩
def adx(an:Nat)(c:Int)(x y:ai)(step a:Int)(w:ab)(h:c0 w an c x y step a)(k:0<=step/\step<=1000)(f:step+1≠a): Calls aj.prog 42 #[.pointer (some ⟨an,0,none⟩)] w λe w'=>e=.returned (.tuple #[])/\c0 w' an c x (.slice none 0 0) (step+1) a/\Fr (λb=>b=an) w w':=by
 rcases h with⟨rfl,h⟩|⟨rfl,h⟩;all_goals
  have H:=ae (Bn an _ _ _ _ _ w h k f);clear h f;go_enter aj.func42,Tryz.ntmps42;go_wp2_with fail;refine H.o.mono ?_;rintro e w1⟨rfl,d,g⟩;have x0:=Own.cell d (i:=0) rfl;have x1:=Own.cell d (i:=1) rfl;have l:=Own.cell d (i:=2) rfl;have f0:=Own.free d 0 ag;have m:=Own.free d 1 ag;have j:=ae d;clear d;go_wp2_with fail;go_region
  all_goals
   go_wp2_with fail;go_end0
 .exact⟨rfl,.inl ⟨rfl,Own.keep (S:=λ_=>False) (Own.set j.o 1 (.slice none 0 0)) (Fr.drew (Fr.refl _ _)) id⟩,(g.step ((Fr.refl (λb=>b=an) w1).setCell ⟨an,1,none⟩ (.slice none 0 0) (λ_=>rfl)) (λ_ h _=>h)).drew⟩
 .exact⟨rfl,.inr ⟨rfl,Own.keep (S:=λ_=>False) (Own.set j.o 0 (.slice none 0 0)) (Fr.drew (Fr.refl _ _)) id⟩,(g.step ((Fr.refl (λb=>b=an) w1).setCell ⟨an,0,none⟩ (.slice none 0 0) (λ_=>rfl)) (λ_ h _=>h)).drew⟩
def SD(an:Nat)(b:Int)(x y:ai)(c a:Int)(w:ab)(h:c0 w an b x y c a): Calls aj.prog 46 #[.pointer (some ⟨an,0,none⟩)] w λe w'=>e=.returned x/\Fr aD w w':=by
 rcases h with⟨rfl,h⟩|⟨rfl,h⟩;all_goals
  have x0:=Own.cell h (i:=0) rfl;have x1:=Own.cell h (i:=1) rfl;have d:=Own.cell h (i:=2) rfl;clear h;go_enter aj.func46,Tryz.ntmps46;go_wp2_with fail;go_quiet (fail)
  go_wp2_with fail;go_ret;exact⟨rfl,(Fr.refl _ _).drewN _⟩
end Go.Proofs.YtlcdgbhigfgehabGreatDoor
namespace Go.Proofs.YtlcdgbhigfgehabGreatDoor
open Go.RowKit

def F7{w dm w1 c:ab}{an B n:Nat}{y v6 x0 x1:ai}{d step a:Int}{xs:bJ}(k:Nat)(i:Fr aD w dm)(j:Fr (λb=>b=an) dm w1)(l:Fr (λb=>y.ownBlock=some b) w1 c)(m:ml c an x0 x1 d step a)(f:Vec c B 37 2 v6 n xs): Vec (c.setCell ⟨an,k,none⟩ v6) B 37 2 v6 n xs/\Fr (λb=>b=an\/y.ownBlock=some b) w (c.setCell ⟨an,k,none⟩ v6):=by
 have g:=(Fr.refl (λb=>b=an) c).setCell ⟨an,k,none⟩ v6 (λ_=>rfl);refine⟨f.keep g (λb o e=>f.gI m aE (e▸o)),?_⟩;have p:Fr (λb=>b=an\/y.ownBlock=some b) w dm:=i.mono (λ_ h _=>h.elim);exact((p.step j (λ_ h _=>.inl h)).step l (λ_ h _=>.inr h)).step g (λ_ h _=>.inl h)
def agr(an:Nat)(t:Int)(x y:ai)(step d:Int)(B n:Nat)(xs:bJ)(s:dI)(f:Option Addr)(g j:Nat)(w:ab)(h:c0 w an t x y step d)(bw:0<=step/\step<=1000)(X:step+1≠d)(J:Vec w B 37 2 y n xs)(c8:B<=w.heap.size)(cJ:n<=100): Calls aj.prog 39 #[.pointer (some ⟨an,0,none⟩),.agg #[.string s,.slice f g j]] w λe w'=>∃Y,e=.returned (.tuple #[])/\c0 w' an t x Y (step+1) d/\Vec w' B 37 2 Y (n+1) (xs++ [.string s,.slice f g j])/\Fr (λb=>b=an\/y.ownBlock=some b) w w':=by
 have N:Fr aD w (w.alloc (.cells #[.string s,.slice f g j] 37)):=(Fr.refl _ _).alloc _;have R:=Own.alloc w #[.string s,.slice f g j] 37;have S:an<w.heap.size:=(by have⟨xs,o⟩:=h.own;exact o.lt);have v:y.ownBlock≠some an:=(by have⟨xs,o⟩:=h.own;exact J.gI o aE);have A:y.ownBlock≠some w.heap.size:=λe=>(by have:=(J.lt _ e).2;omega);obtain⟨Lk,Ll,rfl,-⟩:=J.shape;obtain⟨O,C⟩:∃O,w.heap.size=O:=⟨_,rfl⟩;rw[C]at R S A c8;have P:=ae N;have tM:=ae (J.keep N (λ_ _ h=>h));rcases h with⟨rfl,h⟩|⟨rfl,h⟩;all_goals
  have H:=ae (Bn an _ _ _ _ _ (w.alloc (.cells #[.string s,.slice f g j] 37)) (Own.keep h N id) bw X);have Z:=ae R;clear h X N R J;go_enter aj.func39,Tryz.ntmps39;go_wp2_with fail;refine H.o.mono ?_;rintro e w1⟨rfl,D,K⟩;have x0:=Own.cell D (i:=0) rfl;have x1:=Own.cell D (i:=1) rfl;have gz:=Own.cell D (i:=2) rfl;have g0:=Own.free D 0 ag;have g1:=Own.free D 1 ag;have r:=Z.o.keep K U;have ht:=r.cell (i:=0) rfl;have l6:=r.cell (i:=1) rfl;have u:=ae D;have Q:=ae K;have L:=ae r;have M:=ae (tM.o.keep K (λb hb e=>by subst e;exact v hb));have T:=K.size;have az:(w.alloc (.cells #[.string s,.slice f g j] 37)).heap.size=O+1:=(by simp[C]);clear D K r Z H;have vG:O+1<=w1.heap.size:=U;have ave:IntKind.i64.wrap 1=1:=aE;have avf:IntKind.i64.wrap 0=0:=aE;have k:=(Fr.refl aD w1).alloc (.cells #[.string s,.slice f g j] 37);have avg:=Own.cell (Own.keep u.o k id) (i:=0) rfl;have avh:=Own.cell (Own.keep u.o k id) (i:=1) rfl;have avi:=Own.cell (Own.keep u.o k id) (i:=2) rfl;have avj:=Own.cell (Own.keep u.o k.drew id) (i:=0) rfl;have avk:=Own.cell (Own.keep u.o k.drew id) (i:=1) rfl;have avl:=Own.cell (Own.keep u.o k.drew id) (i:=2) rfl;clear C az T k;go_wp2_with fail
 .go_region_law
   ((rw[aV eI];refine tK (.tmp 21) (.tmp 23) 23 eI B 37 2 40 Eo ((M.o.keep ((Fr.refl aD w1).alloc _) (λ_ _ h=>h)).keep (Fr.drew (Fr.refl aD _)) (λ_ _ h=>h)) eI (xv:=.slice (some ⟨w1.heap.size,0,none⟩) 1 1) (m:=1) (news:=[.string s,.slice f g j]) (show Reads (w1.alloc (.cells #[.string s,.slice f g j] 37)).drew _ _ _ from Reads.new w1 #[.string s,.slice f g j] 37 _ rfl _ _) eI eI (Es _ _ _ _) eH U a5 ?_;intro v6 cI l a E;obtain⟨V,W,F,-⟩:=l.shape;subst F;have c:=((Fr.refl aD w1).alloc (.cells #[.string s,.slice f g j] 37)).drew;have z:=Own.keep (Own.keep u.o c id) a v;have G:=(L.o.keep c id).keep a A;have hO:=z.cell (i:=1) rfl;have hP:=z.cell (i:=2) rfl;have yI:=G.cell (i:=0) rfl;have K3:=G.cell (i:=1) rfl;have nH:=z.free 1 ag;have aa:=ae z;have p:=ae l;have q:=ae ((c.mono (λ_ h _=>h.elim)).step a (λ_ h _=>h));clear l a E c z G))
  all_goals
   go_wp2_with fail;go_end0
   exact⟨_,rfl,.inl ⟨rfl,Own.set aa.o 1 (.slice V (n+1) W)⟩,(F7 1 P.o Q.o q.o aa.o p.o).1,(F7 1 P.o Q.o q.o aa.o p.o).2⟩
 .go_region_law
   ((rw[aV eI];refine tK (.tmp 21) (.tmp 23) 23 eI B 37 2 40 Eo ((M.o.keep ((Fr.refl aD w1).alloc _) (λ_ _ h=>h)).keep (Fr.drew (Fr.refl aD _)) (λ_ _ h=>h)) eI (xv:=.slice (some ⟨w1.heap.size,0,none⟩) 1 1) (m:=1) (news:=[.string s,.slice f g j]) (show Reads (w1.alloc (.cells #[.string s,.slice f g j] 37)).drew _ _ _ from Reads.new w1 #[.string s,.slice f g j] 37 _ rfl _ _) eI eI (Es _ _ _ _) eH U a5 ?_;intro v6 cI l a E;obtain⟨V,W,F,-⟩:=l.shape;subst F;have c:=((Fr.refl aD w1).alloc (.cells #[.string s,.slice f g j] 37)).drew;have z:=Own.keep (Own.keep u.o c id) a v;have G:=(L.o.keep c id).keep a A;have hO:=z.cell (i:=0) rfl;have hP:=z.cell (i:=2) rfl;have yI:=G.cell (i:=0) rfl;have K3:=G.cell (i:=1) rfl;have nH:=z.free 0 ag;have aa:=ae z;have p:=ae l;have q:=ae ((c.mono (λ_ h _=>h.elim)).step a (λ_ h _=>h));clear l a E c z G))
  all_goals
   go_wp2_with fail;go_end0
   exact⟨_,rfl,.inr ⟨rfl,Own.set aa.o 0 (.slice V (n+1) W)⟩,(F7 0 P.o Q.o q.o aa.o p.o).1,(F7 0 P.o Q.o q.o aa.o p.o).2⟩
end Go.Proofs.YtlcdgbhigfgehabGreatDoor
namespace Go.Proofs.YtlcdgbhigfgehabGreatDoor
open Go.RowKit

def agy(p:Addr)(w:ab): CallsD aj.prog 72 #[.pointer (some p)] .returning w λe a w'=>e=.returned (.tuple #[])/\a=.returning/\w'=w:=by
 refine callsD_of_wpS aj.func72 rfl λb cs c=> ?_;apply wpS_seq;apply wpS_region;simp[wpOpsS,go_sem,recoverD,c,Tryz.ntmps72,Exit.thenS];refine wpS_of_wp ?_;go_wp2_with fail;cases b;simp_all[bodyPostS,results,Tryz.results72]
def agz(g:Nat)(j:ai)(w:ab)(a:Own w g 4 [j]): CallsD aj.prog 72 #[.pointer (some ⟨g,0,none⟩)] (.panicking [sj]) w λe k w'=>e=.returned (.tuple #[])/\k=.panicking [{v:=.iface 163 (.agg #[]),recovered:=true}]/\Own w' g 4 [.bool true]/\Fr (λb=>b=g) w w':=by
 have d:Fr aD w (w.alloc (.cells #[] 163)):=(Fr.refl _ _).alloc _;have x0:=(a.keep d id).cell (i:=0) rfl;have f0:=(a.keep d id).free 0 ag;have p:=a.cell (i:=0) rfl;have l:=a.free 0 ag;have m:=ae a;have n:∀w:ab,(Instr.typeAssert (.iface 163 (.agg #[])) 20 163 true).run aj.prog w=.ok (.tuple #[.agg #[],.bool true]) w:=λw=>ah;clear a;refine callsD_of_wpS aj.func72 rfl λq cs o=> ?_;apply wpS_seq;apply wpS_region;simp[wpOpsS,go_sem,recoverD,o,Tryz.ntmps72,Exit.thenS];refine wpS_of_wp ?_;go_wp2_with fail;have c:Own ((w.alloc (.cells #[] 163)).setCell ⟨g,0,none⟩ (.bool true)) g 4 [.bool true]:=Own.set (m.o.keep d id) 0 (.bool true);have f:Fr (λb=>b=g) w ((w.alloc (.cells #[] 163)).setCell ⟨g,0,none⟩ (.bool true)):=(d.mono (λ_ h _=>h.elim)).setCell ⟨g,0,none⟩ (.bool true) (λ_=>rfl);simp[bodyPostS,results,Tryz.results72];exact⟨c,f⟩
def ml.start{w:ab}{an:Nat}{x0 x1:ai}{a e d:Int}(h:ml w an x0 x1 a e d)(c:Int): ml ((w.setCell ⟨an,3,none⟩ (.int .i64 0)).setCell ⟨an,4,none⟩ (.int .i64 c)) an x0 x1 a 0 c/\Fr (λb=>b=an) w ((w.setCell ⟨an,3,none⟩ (.int .i64 0)).setCell ⟨an,4,none⟩ (.int .i64 c)):=⟨Own.set (Own.set h 3 (.int .i64 0)) 4 (.int .i64 c),((Fr.refl (λb=>b=an) w).setCell ⟨an,3,none⟩ (.int .i64 0) (λ_=>rfl)).setCell ⟨an,4,none⟩ (.int .i64 c) (λ_=>rfl)⟩
def c0.start{w:ab}{an:Nat}{x y:ai}{a e d:Int}(h:c0 w an a x y e d)(c:Int): c0 ((w.setCell ⟨an,3,none⟩ (.int .i64 0)).setCell ⟨an,4,none⟩ (.int .i64 c)) an a x y 0 c/\Fr (λb=>b=an) w ((w.setCell ⟨an,3,none⟩ (.int .i64 0)).setCell ⟨an,4,none⟩ (.int .i64 c)):=by
 rcases h with⟨rfl,h⟩|⟨rfl,h⟩
 .exact⟨.inl ⟨rfl,(h.start c).1⟩,(h.start c).2⟩
 .exact⟨.inr ⟨rfl,(h.start c).1⟩,(h.start c).2⟩
def Uy(t:aQ)(g:Nat)(w:ab)(b:Bool)(c:t.getD 6 I=.pointer (some ⟨g,0,none⟩))(d:Own w g 4 [.bool b]): (results Tryz.f37 t).run aj.prog w=.ok (.bool b) w:=by
 have x0:=d.cell (i:=0) rfl;have a:t[6]?.getD I=.pointer (some ⟨g,0,none⟩):=(by simpa using c);simp[results,a,asAddr,x0,go_sem]
def agA(an:Nat)(n:Int)(x y:ai)(F G a:Int)(f:FuncId)(first cap:aQ)(R:Bool->ab->Prop)(w:ab)(h:c0 w an n x y F G)(af:∀w,(callFunc f (first++cap)).run aj.prog w=.ok (.enter f (first++cap)) w)(c:∀w1,c0 w1 an n x y 0 a->Fr (λb=>b=an) w w1->w.heap.size<w1.heap.size->Calls aj.prog f (first++cap) w1 λe w'=>∃b:Bool,e=(if b then .panicked [sj]else .returned (.tuple #[]))/\R b w'/\Fr (λb=>b=an) w1 w')(q:∀b w2 u v,R b w2->Own w2 w.heap.size 4 [v]->Fr (λk=>k=w.heap.size) w2 u->R b u): Calls aj.prog 37 #[.pointer (some ⟨an,0,none⟩),.int .i64 a,.func (.func f) first cap] w λe w'=>∃b:Bool,e=.returned (.bool b)/\R b w':=by
 have L:∀(fn:Fn)(first cap:aQ)(w:ab),(Instr.makeFunc fn first cap).run aj.prog w=.ok (.func fn first cap) w:=λ_ _ _ _=>rfl;have A:an<w.heap.size:=(by have⟨xs,o⟩:=h.own;exact o.lt);have j:w.cell? ⟨an,3,none⟩=some (.int .i64 F)/\w.cell? ⟨an,4,none⟩=some (.int .i64 G)/\w.frozen? ⟨an,3,none⟩=false/\w.frozen? ⟨an,4,none⟩=false:=(by rcases h with⟨-,h⟩|⟨-,h⟩<;>exact⟨Own.cell h rfl,Own.cell h rfl,Own.free h 3 ag,Own.free h 4 ag⟩);obtain⟨M,N,O,P⟩:=j;have hd:=h.start a;have z:=(Fr.refl aD ((w.setCell ⟨an,3,none⟩ (.int .i64 0)).setCell ⟨an,4,none⟩ (.int .i64 a))).alloc (.cells #[.bool false] 4);have r:=Own.alloc ((w.setCell ⟨an,3,none⟩ (.int .i64 0)).setCell ⟨an,4,none⟩ (.int .i64 a)) #[.bool false] 4;have p:((w.setCell ⟨an,3,none⟩ (.int .i64 0)).setCell ⟨an,4,none⟩ (.int .i64 a)).heap.size=w.heap.size:=ag;have d:(((w.setCell ⟨an,3,none⟩ (.int .i64 0)).setCell ⟨an,4,none⟩ (.int .i64 a)).alloc (.cells #[.bool false] 4)).heap.size=w.heap.size+1:=ag;rw[p]at r;obtain⟨w1,s⟩:∃w1,((w.setCell ⟨an,3,none⟩ (.int .i64 0)).setCell ⟨an,4,none⟩ (.int .i64 a)).alloc (.cells #[.bool false] 4)=w1:=⟨_,rfl⟩;rw[s]at r d z;obtain⟨g,B⟩:∃g,w.heap.size=g:=⟨_,rfl⟩;rw[B]at r A q c d;have C:¬g=an:=U;have H:=ae (c w1 (hd.1.keep z id) (hd.2.step z (λ_ h _=>h.elim)) U);have t:=ae r;have aa:=ae q;clear hd c q r h z p d;go_enter_defers aj.func37,Tryz.ntmps37;go_wp2_with fail;clear s;refine H.o.mono ?_;rintro e w2⟨b,rfl,J,D⟩;have K:=ae J;have l:=t.o.keep D C;have x0:=l.cell (i:=0) rfl;have f0:=l.free 0 ag;have m:=ae l;clear J l H t;cases b
 .go_wp2_with fail;refine ya (f:=72) (args:= #[.pointer (some ⟨g,0,none⟩)]) ag (by simp[go_sem]) ?_;refine(agy ⟨g,0,none⟩ _).mono ?_;rintro e Q u⟨rfl,rfl,rfl⟩;exact⟨_,Uy _ g _ false rfl (m.o.set 0 (.bool false)),false,rfl,aa.o false w2 _ _ K.o m.o ((Fr.refl (λk=>k=g) w2).setCell ⟨g,0,none⟩ (.bool false) (λ_=>rfl))⟩
 .go_wp2_with fail;refine ya (f:=72) (args:= #[.pointer (some ⟨g,0,none⟩)]) ag (by simp[go_sem]) ?_;refine(agz g _ _ m.o).mono ?_;rintro e Q u⟨rfl,rfl,S,E⟩;exact⟨_,Uy _ g _ true rfl S,true,rfl,aa.o true w2 _ _ K.o m.o E⟩
end Go.Proofs.YtlcdgbhigfgehabGreatDoor
