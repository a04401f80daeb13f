import Derived.Test.YtlcdgbhigfgehabGreatDoorQA01
set_option linter.all false
set_option maxRecDepth 100000
set_option maxHeartbeats 16000000
namespace Go.Ren
open Go
section
variable{C:bf}(O:C.Ok){f:Ren}
include O
theorem aia(a:Array TypeId)(t:TypeId){x ak:aQ}(h:aZ C.fn f x ak):aA C (bk C) f (Builtin.len_ a t x) (Builtin.len_ a t ak):=by
 unfold Builtin.len_;cases cz:a[0]? with
 |none=>exact .stuck
 |some t0=>
 cases uj:x[0]? with
 |none=>exact .stuck
 |some s=>
 have⟨s',b,rs⟩:=h.some uj;rw[b];dsimp only;refine .ao (gj O t0) λg d d' l e=> ?_;subst e;have rs:=rs.mono l;cases d with
 |string=>cases rs<;>first|exact .ax (.int _ _)|exact .stuck
 |array n c=>exact .ax (.int _ _)
 |pointer i=>
  refine .ao (gj O i) λg1 d d' l1 e=> ?_;subst e;cases d<;>first|exact .ax (.int _ _)|exact .stuck
 |slice c=>cases rs<;>first|exact .ax (.int _ _)|exact .stuck
 |map k c=>
  cases rs with
  |wH=>exact .ax (.int _ _)
  |map e=>
   refine .ao (mA O e) λg1 o j l1 r=> ?_;cases r with
   |map k r=>dsimp only;rw[r.size];exact .ax (.int _ _)
   |_=>exact .stuck
  |_=>exact .stuck
 |chan k c=>
  cases rs with
  |yT=>exact .ax (.int _ _)
  |chan e=>
   refine .ao (mA O e) λg1 o j l1 r=> ?_;cases r<;>exact .stuck
  |_=>exact .stuck
 |_=>cases rs<;>exact .stuck
theorem aib(a:Array TypeId)(t:TypeId){x ak:aQ}(h:aZ C.fn f x ak):aA C (bk C) f (Builtin.cap_ a t x) (Builtin.cap_ a t ak):=by
 unfold Builtin.cap_;cases cz:a[0]? with
 |none=>exact .stuck
 |some t0=>
 cases uj:x[0]? with
 |none=>exact .stuck
 |some s=>
 have⟨s',b,rs⟩:=h.some uj;rw[b];dsimp only;refine .ao (gj O t0) λg d d' l e=> ?_;subst e;have rs:=rs.mono l;cases d with
 |array n c=>exact .ax (.int _ _)
 |pointer i=>
  refine .ao (gj O i) λg1 d d' l1 e=> ?_;subst e;cases d<;>first|exact .ax (.int _ _)|exact .stuck
 |slice c=>cases rs<;>first|exact .ax (.int _ _)|exact .stuck
 |chan k c=>
  cases rs with
  |yT=>exact .ax (.int _ _)
  |chan e=>
   refine .ao (mA O e) λg1 o j l1 r=> ?_;cases r<;>exact .stuck
  |_=>exact .stuck
 |_=>cases rs<;>exact .stuck
theorem aic(b:Array TypeId)(t:TypeId){x ak:aQ}(h:aZ C.fn f x ak):aA C (bk C) f (Builtin.copy_ b t x) (Builtin.copy_ b t ak):=by
 unfold Builtin.copy_;cases cz:b[0]? with
 |none=>exact .stuck
 |some t0=>
 cases uj:x[0]? with
 |none=>exact .stuck
 |some s=>
 have⟨s',c,rs⟩:=h.some uj;cases FI:x[1]? with
 |none=>exact .stuck
 |some y=>
 have⟨w,i,a⟩:=h.some FI;rw[c,i];dsimp only;refine .ao (gj O t0) λg d d' l e=> ?_;subst e;have rs:=rs.mono l;have a:=a.mono l;cases d with
 |slice j=>
  cases rs with
  |mr o p=>
   refine .ao (Gx O a) λg1 n q l1 e=> ?_;subst e;refine .ao (hU O j) λu s s' l2 e=> ?_;subst e;refine .ao (y3 O _ _ (a.mono (l1.trans l2))) λk x ak m r=> ?_;exact .ax (.int _ _)
  |slice o p v=>
   refine .ao (Gx O a) λg1 n q l1 e=> ?_;subst e;refine .ao (hU O j) λu s s' l2 e=> ?_;subst e;refine .ao (y3 O _ _ (a.mono (l1.trans l2))) λk x ak m r=> ?_;exact .ao (Gi O _ _ k 0 ⟨_,(l1.trans (l2.trans m)) _ _ v,rfl⟩ (by simpa using r)) λz _ _ A _=>.ax (.int _ _)
  |_=>exact .stuck
 |_=>exact .stuck
theorem aid{v v' x ak:ai}(h:aB C.fn f v v')(k:aB C.fn f x ak):aA C (bk C) f (Builtin.min2 v x) (Builtin.min2 v' ak):=by
 cases h with
 |int a n=>cases k<;>first|exact .ax (.int _ _)|exact .b4|exact .stuck
 |float a n=>
  cases k with
  |float b m=>
   unfold Builtin.min2;dsimp only;split
   .exact .ao (rq O _) λg q a8 _ e=>by subst e;exact .ax (.float _ _)
   .exact .ax (.float _ _)
   .exact .ax (.float _ _)
   .exact .ax (.float _ _)
  |_=>first|exact .b4|exact .stuck
 |string a=>
  cases k with
  |string b=>
   refine .ao (Vh O _ _ _) λg u c l r=> ?_;exact .ao (UU O r) λg1 q a8 l1 e=>by subst e;exact .ax (.string _)
  |_=>first|exact .b4|exact .stuck
 |ptr e=>cases k<;>exact .b4
 |_=>cases k<;>first|exact .b4|exact .stuck
theorem aie(n:Array TypeId)(t:TypeId){x ak:aQ}(h:aZ C.fn f x ak):aA C (bk C) f (Builtin.min_ n t x) (Builtin.min_ n t ak):=by
 unfold Builtin.min_;have e:∀(l c:bJ)(g:Ren)(a a':ai),aZ C.fn g l.toArray c.toArray->aB C.fn g a a'->aA C (bk C) g (l.foldlM Builtin.min2 a) (c.foldlM Builtin.min2 a'):=by
  intro l;induction l with
  |nil=>intro c g a a' h r;cases c with
   |nil=>exact .ax r
   |cons _ _=>have:=h.size;simp at this
  |cons b l o=>intro c g a a' h r;cases c with
   |nil=>have:=h.size;simp at this
   |cons q c=>
    refine .ao (aid O r (h.get 0 b q ag ag)) λg1 u s l1 v=> ?_;exact o c g1 u s ⟨by have:=h.size;simpa using this,λi p j k m=>(h.get (i+1) p j (by simpa using k) (by simpa using m)).mono l1⟩ v
 have d:aZ C.fn f x.toList.toArray ak.toList.toArray:=(by simpa using h);cases cD:x.toList with
 |nil=>exact .stuck
 |cons a l=>
  rw[cD]at d;cases Cu:ak.toList with
  |nil=>rw[Cu]at d;have:=d.size;simp at this
  |cons a' c=>
   rw[Cu]at d;exact e l c f a a' ⟨by have:=d.size;simpa using this,λi p j k m=>d.get (i+1) p j (by simpa using k) (by simpa using m)⟩ (d.get 0 a a' ag ag)
def LX(ro gi:Bool)(P:bF)(s d:TypeId):Bool:=match P.underlying s,P.underlying d with
 |some (.int _),some (.int _)=>true
 |some (.slice e),some .string=>(match P.underlying e with|some (.int .u8)=>true|_=>false)
 |some .string,some (.slice e)=> !ro && (match P.underlying e with|some (.int .u8)=>true|_=>false)
 |some (.slice _),some (.slice e)=>(!ro && gi) && s==d && (match P.underlying e with|some (.int .u8)=>true|_=>false)
 |_,_=>false
theorem aif(k:FloatKind)(b:Nat)(i:IntKind):aA C (bk C) f (Conv.floatToInt k b i) (Conv.floatToInt k b i):=by
 unfold Conv.floatToInt;try dsimp only
 repeat' split
 all_goals first|exact .ax (.int _ _)|exact .ao (rq O _) λg q a8 _ e=>by subst e;exact .ax (.int _ _)
theorem aih{s d:TypeId}(h:LX C.ro C.gi C.P s d=true){v v':ai}(i:aB C.fn f v v'):aA C (bk C) f (convert s d v) (convert s d v'):=by
 unfold convert;refine .ao (ir O s) λg a a' l e=> ?_;obtain⟨rfl,e⟩:=e;refine .ao (ir O d) λg1 b x l1 ay=> ?_;obtain⟨rfl,ay⟩:=ay;unfold LX at h;rw[e,ay]at h;have i:=i.mono (l.trans l1);cases a with
 |int k=>
  cases b with
  |int k'=>
   cases i with
   |int _ _=>exact .ax (.int _ _)
   |float _ _=>exact aif O _ _ _
   |_=>first|exact .b4|exact .stuck
  |_=>cases h
 |slice j=>
  cases b with
  |string=>
   have p:aA C (bk C) g1 (do match<-underlying j with| .int .u8=>Conv.bytesToString v| .int .i32=>Conv.runesToString v|_=>stuck "Convert: a slice of what to string?") (do match<-underlying j with| .int .u8=>Conv.bytesToString v'| .int .i32=>Conv.runesToString v'|_=>stuck "Convert: a slice of what to string?"):=by
    refine .ao (ir O j) λr q a8 l2 aF=> ?_;obtain⟨rfl,aF⟩:=aF;dsimp only at h;rw[aF]at h;cases q with
    |int k=>cases k<;>first|exact ah6 O (i.mono l2)|cases h
    |_=>cases h
   cases i with
   |de e=>
    refine .dies (s:=(underlying j>>=λq=>match q with| .int .u8=>Conv.bytesToString (.tuple #[])| .int .i32=>Conv.runesToString (.tuple #[])|_=>stuck "Convert: a slice of what to string?")) (LU λq=> ?_);cases q with
    |int k=>cases k<;>exact qj
    |_=>exact qj
   |_=>first|exact p|exact .ax (.string _)
  |slice m=>
   simp only[cu,vv,ho]at h;obtain⟨⟨o,rfl⟩,h⟩:=h;cases i with
   |string u=>
    refine .ao (ir O m) λr q a8 l2 aF=> ?_;obtain⟨rfl,aF⟩:=aF;rw[aF]at h;cases q with
    |int k=>
     cases k with
     |u8=>exact Vq O o.1 _ _
     |_=>cases h
    |_=>cases h
   |slice n c t=>
    refine .ao (ir O m) λr q a8 l2 aF=> ?_;obtain⟨rfl,aF⟩:=aF;rw[aF]at h;cases q with
    |int k=>
     cases k with
     |u8=>
      rw[Gz];exact .ao (Vp O ⟨o.1,.inl o.2⟩ ⟨_,l2 _ _ t,rfl⟩) λy _ _ w _=>.ax (.slice _ _ ((l2.trans w) _ _ t))
     |_=>cases h
    |_=>cases h
   |_=>first|exact .b4|exact .stuck
  |_=>cases h
 |string=>
  cases b with
  |slice j=>
   simp only[cu,vv]at h;obtain⟨o,h⟩:=h;cases i with
   |string u=>
    refine .ao (ir O j) λr q a8 l2 aF=> ?_;obtain⟨rfl,aF⟩:=aF;rw[aF]at h;cases q with
    |int k=>
     cases k with
     |u8=>exact Vq O o _ _
     |_=>cases h
    |_=>cases h
   |_=>first|exact .b4|exact .stuck
  |_=>cases h
 |_=>cases h
theorem aii(t:TypeId){v v':ai}(h:aB C.fn f v v'):aA C (bk C) f (Instr.range t v) (Instr.range t v'):=by
 unfold Instr.range;refine .ao (gj O t) λg d d' l e=> ?_;subst e;have h:=h.mono l;have b:∀(g1:Ren)(o c:Obj),eR C g1 o c->aA C (bk C) g1 (do pure (.pointer (some ⟨<-newObj o,0,none⟩))) (do pure (.pointer (some ⟨<-newObj c,0,none⟩))):=λg1 o c r=>.ao (yY O r) λi a a' l2 e=>.ax (cp.val ⟨_,e,rfl⟩);cases d with
 |string=>
  cases h with
  |string s=>exact b g _ _ (.iter _ _)
  |_=>exact .stuck
 |map k j=>
  cases h with
  |wH=>exact b g _ _ (.rn _ _ _)
  |map e=>
   refine .ao (mA O e) λg1 o c l1 r=> ?_;cases r with
   |map k r=>exact b g1 _ _ (.pk _ _ _ (l1 _ _ e))
   |_=>exact .stuck
  |_=>exact .stuck
 |_=>cases h<;>exact .stuck
theorem aij{v v':ai}(h:aB C.fn f v v')(n:Nat):aA C (bk C) f (Instr.extract v n) (Instr.extract v' n):=by
 unfold Instr.extract;cases h with
 |@tuple x ak s q=>
  have r:aZ C.fn f x ak:=⟨s,q⟩;dsimp only;cases e:x[n]? with
  |none=>exact .stuck
  |some u=>have⟨c,a,b⟩:=r.some e;rw[a];exact .ax b
 |_=>exact .stuck
theorem aik(t:TypeId){v v':ai}(h:aB C.fn f v v'):aA C (bk C) f (Instr.makeInterface t v) (Instr.makeInterface t v'):=by
 unfold Instr.makeInterface;refine .ao (gj O t) λg d d' l e=> ?_;subst e;cases d<;>first|exact .stuck|exact .ax (.iface t (h.mono l))
theorem ail(t:TypeId):aA C (bk C) f (Instr.makeMap t none) (Instr.makeMap t none):=by
 unfold Instr.makeMap;exact .ao (yY O (.map 0 ⟨rfl,λi v v' h=>by simp at h⟩)) λg r r' l e=>.ax (.map e)
theorem aim(G:b1 C f){v v':ai}(h:aB C.fn f v v')(q t:TypeId)(o:pn C.P t=true)(k:Bool):aA C (bk C) f (Instr.typeAssert v q t k) (Instr.typeAssert v' q t k):=by
 unfold Instr.typeAssert;dsimp only;have j:∀(g:Ren)(u n:ai),aB C.fn g u n->aA C (bk C) g (pure (if k=true then .tuple #[u,.bool true]else u)) (pure (if k=true then .tuple #[n,.bool true]else n)):=λg u n r=>by
  cases k with
  |true=>exact .ax (.oG (.two r (.bool _)))
  |false=>exact .ax r
 have c:∀(g:Ren)(_:bs f g)(a b:Option TypeId)(m:String),aA C (bk C) g (if k=true then do pure (.tuple #[<-zeroValue t,.bool false])else runtimePanic (.typeAssertion a b t m)) (if k=true then do pure (.tuple #[<-zeroValue t,.bool false])else runtimePanic (.typeAssertion a b t m)):=λg l a b m=>by
  cases k with
  |true=>exact .ao (uK O o) λg1 z w l1 e=>by obtain⟨rfl,o⟩:=e;exact .ax (.oG (.two (.flat o) (.bool _)))
  |false=>show aA C (bk C) g (runtimePanic (.typeAssertion a b t m)) (runtimePanic (.typeAssertion a b t m));exact gl O (G.mono l) _
 refine .ao (gj O t) λg d d' l e=> ?_;subst e;have h:=h.mono l;cases d with
 |interface s=>
  cases h with
  |gN=>exact c g l _ _ _
  |@iface p u n r=>
   refine .ao (mz O p) λg1 i x l1 e=> ?_;subst e;try dsimp only
   split
   .exact j g1 _ _ ((aB.iface p r).mono l1)
   .exact c g1 (l.trans l1) _ _ _
  |_=>exact .stuck
 |_=>
  cases h with
  |gN=>exact c g l _ _ _
  |@iface p u n r=>
   try dsimp only
   split
   .exact j g _ _ r
   .exact c g l _ _ _
  |_=>exact .stuck
end
end Go.Ren
namespace Go.Ren
open Go
section
variable{C:bf}(O:C.Ok){f:Ren}
include O
omit O in
theorem fT.all{x ak:Array MapEntry}(r:fT C.fn f x ak)(p:Nat->Bool):(x.all λe=>p e.born)=(ak.all λe=>p e.born):=by
 have:∀(l b:List MapEntry),j0 C f l b->(l.all λe=>p e.born)=(b.all λe=>p e.born):=by
  intro l;induction l with
  |nil=>intro b h;cases b with
   |nil=>rfl
   |cons _ _=>have:=h.1;simp at this
  |cons a l c=>intro b h;cases b with
   |nil=>have:=h.1;simp at this
   |cons a' b=>
    have⟨d,g⟩:=h.cons;simp only[Gs,d.born,c b g]
 have:=this _ _ r.list;simpa using this
omit O in
theorem fT.filter{x ak:Array MapEntry}(r:fT C.fn f x ak)(p:Nat->Bool):fT C.fn f (x.filter λe=>p e.born) (ak.filter λe=>p e.born):=by
 have:∀(l c:List MapEntry),j0 C f l c->j0 C f (l.filter λe=>p e.born) (c.filter λe=>p e.born):=by
  intro l;induction l with
  |nil=>intro c h;cases c with
   |nil=>exact h
   |cons _ _=>have:=h.1;simp at this
  |cons a l g=>intro c h;cases c with
   |nil=>have:=h.1;simp at this
   |cons a' c=>
    have⟨j,k⟩:=h.cons;simp only[GA,<-j.born];split
    .have:=g c k;refine⟨by simpa using this.1,λi e d a b=> ?_⟩;cases i with
     |zero=>simp at a b;subst a;subst b;exact j
     |succ i=>exact this.2 i e d (by simpa using a) (by simpa using b)
    .exact g c k
 have h:=this _ _ r.list;rw[<-LY,<-LY]at h;exact⟨by have:=h.1;simpa only[El]using this,λi e d a b=>h.2 i e d (by rw[Array.getElem?_toList];exact a) (by rw[Array.getElem?_toList];exact b)⟩
omit O in
theorem fT.find{x ak:Array MapEntry}(r:fT C.fn f x ak)(p:Nat->Bool):(x.find? (λe=>p e.born)=none/\ak.find? (λe=>p e.born)=none)\/∃e c,x.find? (λe=>p e.born)=some e/\ak.find? (λe=>p e.born)=some c/\oH C.fn f e c:=by
 have:∀(l b:List MapEntry),j0 C f l b->(l.find? (λe=>p e.born)=none/\b.find? (λe=>p e.born)=none)\/∃e c,l.find? (λe=>p e.born)=some e/\b.find? (λe=>p e.born)=some c/\oH C.fn f e c:=by
  intro l;induction l with
  |nil=>intro b h;cases b with
   |nil=>exact .inl ⟨rfl,rfl⟩
   |cons _ _=>have:=h.1;simp at this
  |cons a l g=>intro b h;cases b with
   |nil=>have:=h.1;simp at this
   |cons a' b=>
    have⟨d,i⟩:=h.cons;simp only[GB,<-d.born];split
    .exact .inr ⟨_,_,rfl,rfl,d⟩
    .exact g b i
 have:=this _ _ r.list;simpa using this
theorem ain(t:TypeId){v v':ai}(h:aB C.fn f v v')(b:Bool):aA C (bk C) f (Instr.next v b t) (Instr.next v' b t):=by
 unfold Instr.next;cases h with
 |@ptr a u e=>
  obtain⟨r,M,sp⟩:=a;dsimp only;cases M with
  |succ n=>exact .stuck
  |zero=>
   refine .ao (mA O e) λg o W l ro=> ?_;have R:=l _ _ e;cases ro with
   |iter s p=>
    cases b with
    |true=>
     dsimp only;split
     .refine .ao (qi O R (.iter _ _)) λg1 _ _ l1 _=> ?_;exact .ax (.oG ((aZ.two (.bool _) (.int _ _)).push (.int _ _)))
     .exact .ax (.oG (.one (.bool _)))
    |false=>exact .stuck
   |rn s n la=>
    cases b with
    |true=>exact .stuck
    |false=>exact .ax (.oG (.one (.bool _)))
   |@pk m yV c x G S=>
    cases b with
    |true=>exact .stuck
    |false=>
     dsimp only;refine .ao (mA O S) λg1 o W l1 X=> ?_;cases X with
     |@map es bg N a2=>
      dsimp only;have Y:bg.isEmpty=es.isEmpty:=(by simp[Array.isEmpty,a2.size]);rw[Y,<-a2.all λb=>decide (b>=G)];split
      .exact .b4
      .have L:=a2.filter λb=> !x.contains b;have ro:=L.filter λb=>decide (b<c);have E:=L.filter λb=>decide (b>=c);generalize(es.filter λe=> !x.contains e.born)=T at L ro E⊢;generalize(bg.filter λe=> !x.contains e.born)=H at L ro E⊢;generalize(T.filter λe=>decide (e.born<c))=d at ro⊢;generalize(H.filter λe=>decide (e.born<c))=j at ro⊢;generalize(T.filter λe=>decide (e.born>=c))=F at E⊢;generalize(H.filter λe=>decide (e.born>=c))=w at E⊢;have ap:j.isEmpty=d.isEmpty:=(by simp[Array.isEmpty,ro.size]);rw[ap];have P:((if d.isEmpty=true then #[none]else #[])++ (j++w).map some:Array (Option MapEntry)).size=((if d.isEmpty=true then #[none]else #[])++ (d++F).map some:Array (Option MapEntry)).size:=(by simp[ro.size,E.size]);rw[P];refine .ao (rq O _) λfC n Cf l2 D=> ?_;subst D;have aa:(((if d.isEmpty=true then #[none]else #[])++ (d++F).map some:Array (Option MapEntry))[n]? =none/\((if d.isEmpty=true then #[none]else #[])++ (j++w).map some:Array (Option MapEntry))[n]? =none)\/(((if d.isEmpty=true then #[none]else #[])++ (d++F).map some:Array (Option MapEntry))[n]? =some none/\((if d.isEmpty=true then #[none]else #[])++ (j++w).map some:Array (Option MapEntry))[n]? =some none)\/∃e D,((if d.isEmpty=true then #[none]else #[])++ (d++F).map some:Array (Option MapEntry))[n]? =some (some e)/\((if d.isEmpty=true then #[none]else #[])++ (j++w).map some:Array (Option MapEntry))[n]? =some (some D)/\oH C.fn g1 e D:=by
        have J:fT C.fn g1 (d++F) (j++w):=by
         refine⟨by simp[ro.size,E.size],λi e D A B=> ?_⟩;rw[yU]at A B;rw[ro.size]at A;split at A
         .rename_i q;rw[aV q]at B;exact ro.get i _ _ A B
         .rename_i q;rw[aC q]at B;exact E.get _ _ _ A B
        generalize d++F=y at J⊢;generalize j++w=K at J⊢;have tail:∀z:Array (Option MapEntry),(∀(k:Nat)(u:Option MapEntry),z[k]? =some u->u=none)->((z++y.map some)[n]? =none/\(z++K.map some)[n]? =none)\/((z++y.map some)[n]? =some none/\(z++K.map some)[n]? =some none)\/∃e D,(z++y.map some)[n]? =some (some e)/\(z++K.map some)[n]? =some (some D)/\oH C.fn g1 e D:=by
         intro z Z;rw[yU,yU];split
         .rename_i az;have:=Z n _ (dq az);rw[dq az,this];exact .inr (.inl ⟨rfl,rfl⟩)
         .rw[oF,oF];cases dP:y[n - z.size]? with
          |none=>
           have:K[n - z.size]? =none:=(by simp only[Ge]at dP⊢;have:=J.size;omega);rw[this];exact .inl ⟨rfl,rfl⟩
          |some e=>
           have af:n - z.size<K.size:=(by have:=(bQ.1 dP).1;have:=J.size;omega);rw[dq af];exact .inr (.inr ⟨_,_,rfl,rfl,J.get _ _ _ dP (dq af)⟩)
        refine tail _ λk u hk=> ?_;split at hk
        .cases k with
         |zero=>simp at hk;exact hk.symm
         |succ k=>simp at hk
        .simp at hk
       rcases aa with⟨A,B⟩|⟨A,B⟩|⟨ay,avy,A,B,Q⟩
       .rw[A,B];exact .stuck
       .rw[A,B];exact .ax (.oG (.one (.bool _)))
       .rw[A,B];dsimp only;rw[<-Q.born];refine .ao (qi O ((l1.trans l2) _ _ R) (.pk _ _ _ ((l1.trans l2) _ _ S))) λpo _ _ V _=> ?_;exact .ax (.oG ((aZ.two (.bool _) (Q.key.mono (l2.trans V))).push (Q.val.mono (l2.trans V))))
     |_=>exact .stuck
   |_=>cases b<;>exact .stuck
 |_=>exact .stuck
theorem aio{v v':ai}(h:aB C.fn f v v'):aA C (bk C) f (Instr.entry v) (Instr.entry v'):=by
 unfold Instr.entry;cases h with
 |@ptr a u e=>
  obtain⟨r,i,A⟩:=a;dsimp only;cases i with
  |succ n=>exact .stuck
  |zero=>
   refine .ao (mA O e) λg o w l ro=> ?_;cases ro with
   |@pk m B j d s y=>
    dsimp only;cases d.back? with
    |none=>exact .stuck
    |some c=>
     dsimp only;refine .ao (mA O y) λg1 o w l1 z=> ?_;cases z with
     |@map es bg k a2=>
      dsimp only;split
      .exact .b4
      .rcases a2.find (λb=>b==c)with⟨p,q⟩|⟨x,ak,p,q,t⟩
       .rw[p,q];exact .b4
       .rw[p,q];exact .ax (.oG (.two t.key t.val))
     |_=>exact .stuck
   |_=>exact .stuck
 |_=>exact .stuck
end
end Go.Ren
namespace Go.Ren
open Go
inductive gC(C:bf)(f:Ren):Next->Next->Prop
 |value {v v'}:aB C.fn f v v'->gC C f (.value v) (.value v')
 |skip:gC C f .skip .skip
 |enter {n x ak}:C.fn (.func n)=true->aZ C.fn f x ak->gC C f (.enter n x) (.enter n ak)
 |round {l fS n x ak a b}:f l=some fS->pj C n->aZ C.fn f x ak->C.code a=true->C.code b=true->gC C f (.round l n x a b) (.round fS n ak a b)
 |defer {d d'}:fG C.fn f d d'->gC C f (.defer d) (.defer d')
 |recover:gC C f .recover .recover
structure bf.Ok2(C:bf):Prop extends C.Ok where
 Vt:∀name,C.fn (.method name)=true->∀t i m,C.P.info? t=some i->i.methods.find? (·.name==name)=some m->(m.path.toList.all λs=> !s.deref)=true/\∀n b,m.func=some (n,b)->C.fn (.func n)=true
 call:∀n,C.fn (.func n)=true->∀f:Ren,b1 C f->∀x ak,aZ C.fn f x ak->aA C (gC C) f (callFunc n x) (callFunc n ak)
 via:∀t p n b,C.fn (.via t p n b)=false
 Vu:∀t name,C.fn (.methodOf t name)=false
section
variable{C:bf}(O:C.Ok2){f:Ren}
include O
theorem aip(G:b1 C f)(t:TypeId){v v':ai}(h:aB C.fn f v v')(a b:dI):aA C (bk C) f (Builtin.ssaWrapNilChk_ #[t] t #[v,.string a,.string b]) (Builtin.ssaWrapNilChk_ #[t] t #[v',.string a,.string b]):=by
 have L9:=O.toOk;cases h with
 |ptr e=>exact .ax (.ptr e)
 |ff=>
  show aA C (bk C) f (Builtin.ssaWrapNilChk_ #[t] t #[.pointer none,.string a,.string b]) (Builtin.ssaWrapNilChk_ #[t] t #[.pointer none,.string a,.string b])
  unfold Builtin.ssaWrapNilChk_;dsimp only;refine .ao (rq L9 _) λg n Cf l e=> ?_;subst e;have G1:=G.mono l;have rest:∀g1,bs g g1->aA C (bk C) g1 (do
    let some qk:=(#[t]:Array TypeId)[0]? |stuck "ssa:wrapnilchk: no argument types"
    let .pointer t<-underlying qk|stuck "ssa:wrapnilchk: pointer type expected"
    let .named name _:=(<-typeInfo t).desc|stuck "ssa:wrapnilchk: defined type expected"
    let some m:=String.fromUTF8? b|stuck "ssa:wrapnilchk: the method's name is not UTF-8"
    let base:=(name.splitOn "[").headD ""
    let targs:=if base==name then "" else "[...]"
    match ((base.splitOn "/").getLastD "").splitOn "." with
    |[_,LZ]=>runtimePanic (.plain (toString "value method " ++toString base++toString targs++toString "." ++toString m++toString " called using nil *" ++toString LZ++toString targs++toString " pointer"))
    |_=>unsupported (.noEntry "builtin/ssaWrapNilChk.dot in the package path")) (do
    let some qk:=(#[t]:Array TypeId)[0]? |stuck "ssa:wrapnilchk: no argument types"
    let .pointer t<-underlying qk|stuck "ssa:wrapnilchk: pointer type expected"
    let .named name _:=(<-typeInfo t).desc|stuck "ssa:wrapnilchk: defined type expected"
    let some m:=String.fromUTF8? b|stuck "ssa:wrapnilchk: the method's name is not UTF-8"
    let base:=(name.splitOn "[").headD ""
    let targs:=if base==name then "" else "[...]"
    match ((base.splitOn "/").getLastD "").splitOn "." with
    |[_,LZ]=>runtimePanic (.plain (toString "value method " ++toString base++toString targs++toString "." ++toString m++toString " called using nil *" ++toString LZ++toString targs++toString " pointer"))
    |_=>unsupported (.noEntry "builtin/ssaWrapNilChk.dot in the package path")):=by
   intro g1 l1;refine .ao (gj L9 t) λfC d d' l2 e=> ?_;subst e;cases d with
   |pointer el=>
    refine .ao (mz L9 el) λpo i ahv FF e=> ?_;subst e;dsimp only;split
    .split
     .split
      .exact gl L9 (G1.mono (l1.trans (l2.trans FF))) _
      .exact .b4
     .exact .stuck
    .exact .stuck
   |_=>exact .stuck
  split
  .exact .ao (A:=λ_(_:PUnit)(_:PUnit)=>False) (gl L9 G1 _) λ_ _ _ _ h=>h.elim
  .exact rest g (bs.refl _)
 |_=>exact .stuck
theorem aiq(G:b1 C f)(t:TypeId){v v':ai}(h:aB C.fn f v v')(b:Bool)(name:Option String):aA C (bk C) f (receiverAt t (.val v) b name) (receiverAt t (.val v') b name):=by
 have c:=O.toOk;unfold receiverAt;refine .ao (gj c t) λg d d' l e=> ?_;subst e;have h:=h.mono l;have i:=G.mono l;cases d with
 |pointer m=>
  cases b with
  |true=>exact .ax h
  |false=>
   refine .ao (A:=bk C) (.ax h) λg1 u w l1 r=> ?_;cases name with
   |none=>
    refine .ao (A:=bk C) (.ax r) λn p o l2 j=> ?_;refine .ao (Gk c (i.mono (l1.trans l2)) j) λq a a' s k=> ?_;exact wM c m k
   |some name=>
    refine .ao (aip O (i.mono l1) t r _ _) λn p o l2 j=> ?_;refine .ao (Gk c (i.mono (l1.trans l2)) j) λq a a' s k=> ?_;exact wM c m k
 |_=>cases b<;>first|exact .stuck|exact .ax h
theorem air:∀(l:List FieldStep)(_:(l.all λs=> !s.deref)=true)(f:Ren)(t:TypeId)(v v':ai),aB C.fn f v v'->aA C (λg p j=>p.1=j.1/\∃u b,p.2=.val u/\j.2=.val b/\aB C.fn g u b) f (follow l t (.val v)) (follow l t (.val v')):=by
 have k:=O.toOk;intro l;induction l with
 |nil=>exact λ_ f t v v' h=>.ax ⟨rfl,_,_,rfl,rfl,h⟩
 |cons s l m=>
  intro c f t v v' h;simp only[Gs,cu]at c;unfold follow;refine .ao (gj k s.struct) λg d d' n e=> ?_;subst e;cases d with
  |struct a=>
   dsimp only;cases dg:a[s.index]? with
   |none=>exact .stuck
   |some i=>
    dsimp only;have hd:s.deref=false:=(by simpa using c.1);rw[hd];simp only[ea,cY];have h:=h.mono n;cases h with
    |agg aK q=>exact .ao (oJ k i.type ⟨aK,q⟩ i.offset) λg1 u b l1 r=>m c.2 g1 i.type u b r
    |_=>exact .stuck
  |_=>exact .stuck
theorem ais(name:String)(x:C.fn (.method name)=true)(c:Nat):∀(f:Ren)(_:b1 C f)(t:TypeId)(v v':ai),aB C.fn f v v'->aA C (λg p d=>p.1=d.1/\C.fn (.func p.1)=true/\aB C.fn g p.2 d.2) f (method c t v name) (method c t v' name):=by
 have k:=O.toOk;induction c with
 |zero=>intros;exact .b4
 |succ c y=>
  intro f G t v v' h;unfold method;refine .ao (A:=λ_ a b=>a=b/\C.P.info? t=some a) ?_ λg i L l e=> ?_
  .refine .prog ?_;rw[k.oi];cases e:C.P.info? t with
   |some i=>exact .ax ⟨rfl,rfl⟩
   |none=>exact .stuck
  .obtain⟨rfl,e⟩:=e;cases hm:i.methods.find? (·.name==name)with
   |none=>exact .stuck
   |some m=>
    dsimp only;have⟨z,B⟩:=O.Vt name x t i m e hm;have h:=h.mono l;have D:=G.mono l;refine .ao (air O m.path.toList z g t v v' h) λg1 p d l1 ay=> ?_;obtain⟨E,M⟩:=p;obtain⟨F,H⟩:=d;obtain⟨aF,N,aa,o,s,h⟩:=ay;dsimp only at aF o s;subst aF;subst o;subst s;dsimp only;have j:=D.mono l1;cases ait:m.func with
    |none=>
     dsimp only;refine .ao (A:=bk C) (.ax h) λw u J l2 r=> ?_;cases r with
     |iface K r=>exact y w (j.mono l2) K _ _ r
     |gN=>exact gl k (j.mono l2) _
     |_=>exact .stuck
    |some q=>
     obtain⟨n,b⟩:=q;dsimp only;exact .ao (aiq O j E h b _) λw u J l2 r=>.ax ⟨rfl,B n b ait,r⟩
theorem aiu(G:b1 C f)(name:String)(c:C.fn (.method name)=true){v v':ai}(h:aB C.fn f v v'){x ak:aQ}(d:aZ C.fn f x ak):aA C (gC C) f (callMethod v name x) (callMethod v' name ak):=by
 have b:=O.toOk;unfold callMethod;cases h with
 |@iface t u m r=>
  refine .prog ?_;have:C.b0.types.size+Made.depth=C.P.types.size+Made.depth:=(by rw[b.tables]);rw[this];refine .ao (ais O name c _ f G t _ _ r) λg p i l e=> ?_;obtain⟨n,a⟩:=p;obtain⟨o,a'⟩:=i;obtain⟨rfl,j,k⟩:=e;exact O.call n j g (G.mono l) _ _ ((aZ.one k).append (d.mono l))
 |gN=>exact gl b G _
 |_=>exact .stuck
theorem Cv{l i:Nat}(h:f l=some i):aA C (λg a a'=>eR C g (.loop a) (.loop a')) f (Instr.getLoop l) (Instr.getLoop i):=by
 have j:=O.toOk;unfold Instr.getLoop;refine .ao (mA j h) λg o k l r=> ?_;cases r with
 |loop a b q c d e=>exact .ax (.loop a b q c d e)
 |_=>exact .stuck
omit O in
theorem aiv{g:Ren}(ps:List Tmp):∀(l c:bJ)(x ak:aQ),aZ C.fn g l.toArray c.toArray->aZ C.fn g x ak->aZ C.fn g ((ps.zip l).foldl (λb p=>b.setIfInBounds p.1 p.2) x) ((ps.zip c).foldl (λb p=>b.setIfInBounds p.1 p.2) ak):=by
 induction ps with
 |nil=>intro l c x ak _ r;exact r
 |cons p ps d=>
  intro l c x ak q r;cases l with
  |nil=>cases c with
   |nil=>exact r
   |cons _ _=>have:=q.size;simp at this
  |cons a l=>cases c with
   |nil=>have:=q.size;simp at this
   |cons a' c=>
    simp only[LP,rQ];exact d l c _ _ ⟨by have:=q.size;simpa using this,λi u e f h=>q.get (i+1) u e (by simpa using f) (by simpa using h)⟩ (r.set _ (q.get 0 a a' ag ag))
theorem aiw{l b:Nat}(h:f l=some b){x ak:aQ}(c:aZ C.fn f x ak):aA C (gC C) f (Instr.yield l x) (Instr.yield b ak):=by
 unfold Instr.yield;refine .ao (Cv O h) λg a a' d r=> ?_;cases r with
 |loop e n i j k o=>
  dsimp only;have m:=c.size;rw[<-m];split
  .exact .stuck
  .refine .ax (.round (d _ _ h) i ?_ j k);have:=aiv (C:=C) (g:=g) a.params.toList x.toList ak.toList a.tmps _ (by simpa using c.mono d) e;rw[<-y0,<-y0,Array.toList_zip,Array.toList_zip];exact this
end
end Go.Ren
namespace Go.Ren
open Go
def dF(C:bf):Operand->Bool
 |.tmp _=>true
 |.const v=>flat v
 |.global g=>decide (g<C.P.globals.size) && C.Lu g
 |.func n=>C.fn (.func n)
def GC(C:bf)(x:Array Operand):Bool:=x.all (dF C)
def Vv(P:bF)(b:Builtin)(fj:Array TypeId):Bool:=match b with
 |.append=>LW P fj
 |.len| .cap| .copy| .min| .recover=>true
 |_=>false
def Cw(C:bf)(c:Call):Bool:=GC C c.args && (match c.callee with
 |.value x=>dF C x
 |.invoke x name=>dF C x && C.fn (.method name)
 |.builtin b=>Vv C.P b c.argTypes)
def oI(C:bf):Option Operand->Bool
 |some x=>dF C x
 |none=>true
def gm(C:bf):Op->Bool
 |.move x| .assign x| .load _ x| .nilCheck x| .unOp _ _ x| .makeInterface _ x| .field _ x _| .range _ x| .next x _| .entry x| .extract x _| .panic x| .box _ x=>dF C x
 |.pick c a b=>dF C c && dF C a && dF C b
 |.alloc t=>pn C.P t
 |.build t ps=>pn C.P t && ps.all (dF C ·.2)
 |.buildSlice t _ ps=>uL C.P t && ps.all (dF C ·.2)
 |.store _ a x=>dF C a && dF C x
 |.binOp op t x y _=>Cs C op t y && dF C x && dF C y
 |.convert s d x=>LX C.ro C.gi C.P s d && dF C x
 |.makeFunc fn a b=>C.fn fn && (match fn with| .func _=>true|_=>false) && GC C a && GC C b
 |.makeMap _ none=>true
 |.makeSlice t l c=>uL C.P t && dF C l && dF C c
 |.slice _ x l h m=>dF C x && oI C l && oI C h && oI C m
 |.fieldAddr s x n=>LD C.P s n && dF C x
 |.indexAddr _ x i| .index _ x i=>dF C x && dF C i
 |.lookup t x i _=>uN C.P t && dF C x && dF C i
 |.mapUpdate t m k x| .insert t m k x=>uN C.P t && dF C m && dF C k && dF C x
 |.mapEntry t m k=>uN C.P t && dF C m && dF C k
 |.entryStore _ m s x=>dF C m && dF C s && dF C x
 |.typeAssert x _ t _=>pn C.P t && dF C x
 |.call c=>Cw C c
 |.defer c=>Cw C c && (match c.callee with| .builtin _=>false|_=>true)
 |_=>false
section
variable{C:bf}(O:C.Ok2){f:Ren}(G:b1 C f){dE mx:Operand->Value}(b2:∀x,dF C x=true->aB C.fn f (dE x) (mx x))(hk:∀v,dE (.const v)=v/\mx (.const v)=v)
include b2
omit b2 in
theorem all_map{x:Array Operand}(h:GC C x=true)(b2:∀x,dF C x=true->aB C.fn f (dE x) (mx x)):aZ C.fn f (x.map dE) (x.map mx):=by
 refine⟨ag,λi v v' a b=> ?_⟩;rw[oF]at a b;cases e:x[i]? with
 |none=>rw[e]at a;cases a
 |some u=>
  rw[e]at a b;cases a;cases b;exact b2 u (uJ.1 h u (sE e))
omit b2 in
theorem Vw{ps:Array (Nat×Operand)}(h:ps.all (dF C ·.2)=true)(b2:∀x,dF C x=true->aB C.fn f (dE x) (mx x)):wN C f (ps.map λ(i,x)=>(i,dE x)) (ps.map λ(i,x)=>(i,mx x)):=by
 refine⟨ag,λi v v' a b=> ?_⟩;rw[oF]at a b;cases e:ps[i]? with
 |none=>rw[e]at a;cases a
 |some u=>
  rw[e]at a b;cases a;cases b;exact⟨rfl,b2 u.2 (uJ.1 h u (sE e))⟩
omit b2 in
theorem L0{x:Option Operand}(h:oI C x=true)(b2:∀x,dF C x=true->aB C.fn f (dE x) (mx x)):oK C f (x.map dE) (x.map mx):=by
 cases x with
 |none=>exact trivial
 |some x=>exact b2 x h
omit b2 in
theorem fV{f:Ren}{s s':Sem ai}(h:aA C (bk C) f s s'):aA C (gC C) f (do pure (.value (<-s))) (do pure (.value (<-s'))):=.ao h λg v v' _ r=>.ax (.value r)
omit b2 in
theorem Vx{f:Ren}{s s':Sem Unit}(h:aA C bB f s s'):aA C (gC C) f (do s;pure .skip) (do s';pure .skip):=.ao h λg v v' _ r=>.ax .skip
omit b2 in
include O in
theorem aix{f:Ren}(G:b1 C f){b:Builtin}{a:Array TypeId}(h:Vv C.P b a=true)(t:TypeId)(cs:Array Bool){x ak:aQ}(c:aZ C.fn f x ak):aA C (gC C) f (builtin b a t cs x) (builtin b a t cs ak):=by
 have d:=O.toOk;unfold builtin;cases b with
 |append=>exact fV (ah9 d G h t c)
 |len=>exact fV (aia d a t c)
 |cap=>exact fV (aib d a t c)
 |copy=>exact fV (aic d a t c)
 |min=>exact fV (aie d a t c)
 |recover=>exact .ax .recover
 |_=>cases h
omit b2 in
include O in
theorem L1{f:Ren}(G:b1 C f){t d:Target}(h:cF C.fn f t d){x ak:aQ}(c:aZ C.fn f x ak):aA C (gC C) f (invoke t x) (invoke d ak):=by
 have g:=O.toOk;unfold invoke;cases h with
 |nil=>exact gl g G _
 |collected e=>exact .stuck
 |@fn n q eK i a j=>
  cases a with
  |yield e=>exact aiw O e c
  |same a k=>
   cases n with
   |func n=>exact O.call n a f G _ _ (c.append j)
   |method name=>
    dsimp only;cases cz:x[0]? with
    |none=>rw[c.none cz];exact .stuck
    |some u=>
     have⟨r,m,o⟩:=c.some cz;rw[m,c.size];exact aiu O G name a o (c.extract _ _)
   |methodOf t name=>rw[O.Vu]at a;cases a
   |via t p n b=>rw[O.via]at a;cases a
   |yield l=>exact absurd rfl (k l)
omit b2 in
theorem Vy {α:Type} (L9:C.Ok) {n:String} (cJ:n= "") {k:Method->Sem α} {m:String}:oL C.P (do
  let some m:=(<-typeInfo 0).methods.find? (·.name==n)|stuck m
  k m):=by
 subst cJ;intro w es;show∃CF w',(((typeInfo 0).bind _).runT C.P w es).1=.halt CF w'/\eJ CF
 rw[hx];unfold typeInfo Go.program;simp only[Bind.bind,Sem.bind,Sem.runT];cases e:C.P.info? 0 with
 |none=>exact⟨_,_,rfl,.inl ⟨_,rfl⟩⟩
 |some i=>
  have:=L9.sA i e;simp only[Sem.runT,Pure.pure];rw[this];exact⟨_,_,rfl,.inl ⟨_,rfl⟩⟩
omit b2 in
theorem L2(c:C.Ok){as:aQ}(h:as[0]? =some (.iface 0 (.tuple #[]))):oL C.P (invoke (.fn (.method "") #[]) as):=by
 unfold invoke;dsimp only;rw[h];unfold callMethod;intro w es;show∃b w',((Go.program.bind λp=>(method (p.types.size+Made.depth) 0 (.tuple #[]) "").bind _).runT C.P w es).1=.halt b w'/\eJ b
 unfold Go.program;simp only[Sem.bind,Sem.runT];generalize C.P.types.size+Made.depth=a;refine Gf (λw es=> ?_) _ w es;cases a with
 |zero=>exact⟨_,w,rfl,.inr ⟨_,rfl,ag⟩⟩
 |succ a=>exact Vy c rfl w es
omit b2 in
theorem aiy(c:C.Ok):oL C.P (do
  if(<-nilAhead ((<-program).types.size+Made.depth) 0 (.tuple #[]) "") !=some false then
   unsupported (.noEntry "op/nilCheck.the method's receiver behind this interface value is a nil pointer, or cannot be seen to be none, and the arguments act or may panic (ledger 612)")
  pure (Next.value (.func (.method "") #[.iface 0 (.tuple #[])] #[])):Sem Next):=by
 intro w es;show∃b w',((Go.program.bind λp=>(nilAhead (p.types.size+Made.depth) 0 (.tuple #[]) "").bind _).runT C.P w es).1=.halt b w'/\eJ b
 unfold Go.program;simp only[Sem.bind,Sem.runT];generalize C.P.types.size+Made.depth=a;cases a with
 |zero=>exact⟨_,_,rfl,.inr ⟨_,rfl,ag⟩⟩
 |succ a=>exact Gf (λw es=>Vy c rfl w es) _ w es
omit b2 in
theorem Vz{f:Ren}{v v':ai}(h:aB C.fn f v v'){x ak:aQ}(a:aZ C.fn f x ak):aA C (fG C.fn) f (Deferred.ofValue v x) (Deferred.ofValue v' ak):=by
 cases h with
 |func n m s q s' a8=>exact .ax (.mk (.fn n ⟨s',a8⟩) (aZ.append ⟨s,q⟩ a))
 |Lv=>exact .ax (.mk .nil a)
 |qf=>
  have e:(#[Value.iface 0 (.tuple #[])]++x)[0]? =some (.iface 0 (.tuple #[])):=(by rw[yU];simp);exact .ax (.sA e)
 |_=>exact .stuck
theorem VA{c:Call}(h:Cw C c=true)(g:∀b,c.callee≠.builtin b)(t:TypeId):aA C (fG C.fn) f (resolve dE c t) (resolve mx c t):=by
 unfold resolve;unfold Cw at h;simp only[cu]at h;obtain⟨i,a⟩:=h;have d:=all_map i b2;cases e:c.callee with
 |builtin b=>exact absurd e (g b)
 |value x=>
  rw[e]at a;exact Vz (b2 x a) d
 |invoke x name=>
  rw[e]at a;simp only[cu]at a;exact .ax (.mk (.fn (.same a.2 ag) .nil) ((aZ.one (b2 x a.1)).append d))
include O G hk
theorem aiz(o:Oper)(h:gm C o.op=true)(D:∀t m k x,o.op≠.mapUpdate t m k x/\o.op≠.insert t m k x/\o.op≠.mapEntry t m k):aA C (gC C) f (execOp dE o) (execOp mx o):=by
 have j:=O.toOk;unfold execOp;dsimp only;cases e:o.op with
 |move x=>rw[e]at h;exact .ax (.value (b2 x h))
 |assign x=>rw[e]at h;exact .ax (.value (b2 x h))
 |pick c a b=>
  rw[e]at h;simp only[gm,cu]at h;refine .ao (UU j (b2 c h.1.1)) λg q a8 l e=> ?_;subst e;refine .ax (.value ?_);split
  .exact(b2 a h.1.2).mono l
  .exact(b2 b h.2).mono l
 |alloc t=>rw[e]at h;exact fV (aht j h)
 |box t x=>rw[e]at h;exact fV (ahu j t (b2 x h))
 |build t ps=>
  rw[e]at h;simp only[gm,cu]at h;exact fV (ahw j h.1 (Vw h.2 b2))
 |buildSlice t n ps=>
  rw[e]at h;simp only[gm,cu]at h;exact fV (ahx j h.1 n (Vw h.2 b2))
 |load t a=>rw[e]at h;exact fV (aho j t (b2 a h))
 |store t a x=>
  rw[e]at h;simp only[gm,cu]at h;exact Vx (ahp j t (b2 a h.1) (b2 x h.2))
 |nilCheck x=>
  rw[e]at h;have r:=b2 x h;dsimp only;generalize dE x=v at r⊢;generalize mx x=v' at r⊢;cases r with
  |de e=>
   cases v' with
   |pointer a=>cases a<;>first|(cases e;done)|exact .ax (.value (.de e))
   |func fn a b=>cases fn<;>first|(cases e;done)|exact .ax (.value (.de e))
   |_=>first|(cases e;done)|exact .ax (.value (.de e))
  |qf=>exact .dies (aiy j)
  |ff=>exact gl j G _
  |gN=>exact gl j G _
  |Lv=>exact gl j G _
  |@func n L W X M N Q m s q s' a8=>
   cases Q with
   |yield e=>exact .ax (.value (.func (.yield e) m s q s' a8))
   |same R S=>
    cases n with
    |method name=>exact absurd rfl (m name)
    |_=>exact .ax (.value (.func (.same R S) m s q s' a8))
  |agg s q=>exact .ax (.value (.agg s q))
  |tuple s q=>exact .ax (.value (.tuple s q))
  |iface t r=>exact .ax (.value (.iface t r))
  |slice l c u=>exact .ax (.value (.slice l c u))
  |map u=>exact .ax (.value (.map u))
  |chan u=>exact .ax (.value (.chan u))
  |ptr u=>exact .ax (.value (.ptr u))
  |_=>exact .ax (.value (by constructor))
 |binOp op t x y Y=>
  rw[e]at h;simp only[gm,cu]at h;obtain⟨⟨w,z⟩,B⟩:=h;refine .ao (A:=bk C) (.ao (ahW j x y w (b2 x z) (b2 y B) (λv E=>by subst E;exact(hk v).1)) λg _ _ l _=> ?_) λg v v' _ r=>.ax (.value r);exact ah4 j (G.mono l) y w ((b2 x z).mono l) ((b2 y B).mono l) (λv E=>by subst E;exact hk v)
 |unOp op t x=>rw[e]at h;exact fV (ah5 j op (b2 x h))
 |convert s d x=>
  rw[e]at h;simp only[gm,cu]at h;exact fV (aih j h.1 (b2 x h.2))
 |makeInterface t x=>rw[e]at h;exact fV (aik j t (b2 x h))
 |makeFunc fn a b=>
  rw[e]at h;simp only[gm,cu]at h;obtain⟨⟨⟨w,z⟩,B⟩,F⟩:=h;have K:=all_map B b2;have p:=all_map F b2;refine .ax (.value ?_);cases fn with
  |func n=>exact .func (.same w ag) ag K.size K.get p.size p.get
  |_=>cases z
 |makeMap t r=>
  rw[e]at h;cases r with
  |none=>exact fV (ail j t)
  |some _=>cases h
 |makeSlice t l c=>
  rw[e]at h;simp only[gm,cu]at h;exact fV (ahC j G h.1.1 (b2 l h.1.2) (b2 c h.2))
 |slice t x lo af Z=>
  rw[e]at h;simp only[gm,cu]at h;obtain⟨⟨⟨w,z⟩,B⟩,F⟩:=h;exact fV (ahB j G t (b2 x w) (L0 z b2) (L0 B b2) (L0 F b2))
 |fieldAddr s x n=>
  rw[e]at h;simp only[gm,cu]at h;exact fV (ahr j s (b2 x h.2) n h.1)
 |field t x n=>rw[e]at h;exact fV (ahy j t (b2 x h) n)
 |indexAddr t x i=>
  rw[e]at h;simp only[gm,cu]at h;exact fV (ahs j G t (b2 x h.1) (b2 i h.2))
 |index t x i=>
  rw[e]at h;simp only[gm,cu]at h;exact fV (ahz j G t (b2 x h.1) (b2 i h.2))
 |lookup t x i H=>
  rw[e]at h;simp only[gm,cu]at h;exact fV (ahN j G h.1.1 (b2 x h.1.2) (b2 i h.2) H)
 |mapUpdate t m k x=>exact absurd e (D t m k x).1
 |insert t m k x=>exact absurd e (D t m k x).2.1
 |mapEntry t m k=>exact absurd e (D t m k k).2.2
 |entryStore t m s x=>
  rw[e]at h;simp only[gm,cu]at h;exact Vx (ahP j t (b2 m h.1.1) (b2 s h.1.2) (b2 x h.2))
 |range t x=>rw[e]at h;exact fV (aii j t (b2 x h))
 |next aa b=>rw[e]at h;exact fV (ain j o.type (b2 aa h) b)
 |entry aa=>rw[e]at h;exact fV (aio j (b2 aa h))
 |typeAssert x T t H=>
  rw[e]at h;simp only[gm,cu]at h;exact fV (aim j G (b2 x h.2) T t h.1 H)
 |extract x n=>rw[e]at h;exact fV (aij j (b2 x h) n)
 |call c=>
  rw[e]at h;by_cases p:∃b,c.callee=.builtin b
  .obtain⟨b,p⟩:=p;simp only[gm,Cw,p,cu]at h;dsimp only;unfold resolve;rw[p];exact aix O G h.2 _ _ (all_map h.1 b2)
  .refine .ao (VA b2 h (λb J=>p ⟨b,J⟩) o.type) λg d d' l r=> ?_;cases r with
   |mk az V=>exact L1 O (G.mono l) az V
   |sA e=>exact .dies (L2 j e)
 |defer c=>
  rw[e]at h;simp only[gm,cu]at h;exact .ao (VA b2 h.1 (λb J=>by rw[J]at h;cases h.2) o.type) λg d d' l r=>.ax (.defer r)
 |panic x=>
  rw[e]at h;refine fV ?_;have r:=b2 x h;generalize dE x=v at r⊢;generalize mx x=v' at r⊢;unfold Instr.panic;cases r with
  |iface t r=>exact .rp (.iface t r)
  |gN=>
   refine .ao (A:=bB) ?_ λg n L l e=> ?_
   .unfold Instr.panicnil;refine .ao (A:=bB) (.env λr=>.pure rfl) λg r r' l e=> ?_;subst e;cases r with
    |strings env=>
     refine .prog ?_;have:C.b0.godebug=C.P.godebug:=(by rw[j.tables]);rw[this];exact .ax rfl
    |_=>exact .stuck
   .subst e;split
    .exact .rp .gN
    .exact gl j (G.mono l) _
  |_=>exact .stuck
 |_=>rw[e]at h;cases h
theorem aiA(o:Oper)(h:gm C o.op=true):gB C (gC C) f (execOp dE o) (execOp mx o):=by
 have a:=O.toOk;by_cases b:∀t m k x,o.op≠.mapUpdate t m k x/\o.op≠.insert t m k x/\o.op≠.mapEntry t m k
 .exact .of (aiz O G b2 hk o h b)
 .unfold execOp;dsimp only;cases e:o.op with
  |mapUpdate t m k x=>
   rw[e]at h;simp only[gm,cu]at h;exact(Vd a G h.1.1.1 (b2 m h.1.1.2) (b2 k h.1.2) (b2 x h.2)).map (F:=λ_=>Next.skip) (F':=λ_=>Next.skip) λ_ _ _ _=>.skip
  |insert t m k x=>
   rw[e]at h;simp only[gm,cu]at h;exact(Vd a G h.1.1.1 (b2 m h.1.1.2) (b2 k h.1.2) (b2 x h.2)).map (F:=λ_=>Next.skip) (F':=λ_=>Next.skip) λ_ _ _ _=>.skip
  |mapEntry t m k=>
   rw[e]at h;simp only[gm,cu]at h;exact(ahO a G h.1.1 (b2 m h.1.2) (b2 k h.2)).map λ_ _ _ r=>.value r
  |_=>exact absurd (λt m k x=>by rw[e];exact⟨ag,ag,ag⟩) b
end
end Go.Ren
namespace Go.Ren
open Go
def isDefer:Op->Bool
 |.defer _=>true
 |_=>false
def Cx(C:bf)(r:Bool)(ops:dn):Bool:=ops.all λo=>gm C o.op && !(r && isDefer o.op)
def Cy(C:bf)(r:Bool)(ops:dn)(l:cw):Prop:=∀i∈l,∀o,ops[i]? =some o->(gm C o.op && !(r && isDefer o.op))=true
def VB{C:bf}{r:Bool}{ops:dn}(h:Cx C r ops=true)(l:cw):Cy C r ops l:=λ_ _ o ap=>uJ.1 h o (sE ap)
def VC{C:bf}{r:Bool}{ops:dn}{i:Nat}{l:cw}(h:Cy C r ops (i::l)):Cy C r ops l:=λj a=>h j (Fa _ a)
def codeOk(C:bf)(r:Bool):Code->Bool
 |.skip| .exit _| .label _| .goto _| .ret=>true
 |.refuse s=>s != ""
 |.region _ ops _=>Cx C r ops
 |.seq a b=>codeOk C r a && codeOk C r b
 |.cond c a b=>dF C c && codeOk C r a && codeOk C r b
 |.block _ b| .loop b| .scope b=>codeOk C r b
 |.rangeFunc x _ a b=>dF C x && codeOk C true a && codeOk C true b
inductive cy{α β:Type}(R:α->β->Prop):List α->List β->Prop
 |nil:cy R [] []
 |cons {a b l m}:R a b->cy R l m->cy R (a::l) (b::m)
def cy.mono{α β:Type}{R S:α->β->Prop}(h:∀a b,R a b->S a b){l:List α}{m:List β}(k:cy R l m):cy S l m:=by
 induction k with
 |nil=>exact .nil
 |cons r _ c=>exact .cons (h _ _ r) c
def cy.append{α β:Type}{R:α->β->Prop}{l l2:List α}{m a:List β}(h:cy R l m)(k:cy R l2 a):cy R (l++l2) (m++a):=by
 induction h with
 |nil=>exact k
 |cons r _ b=>exact .cons r b
def cy.VD{α β:Type}{R:α->β->Prop}:∀{l:List α}{m:List β},l.length=m.length->(∀(i:Nat)a b,l[i]? =some a->m[i]? =some b->R a b)->cy R l m
 |[],[],_,_=>.nil
 |[],_::_,h,_=>by simp at h
 |_::_,[],h,_=>by simp at h
 |a::l,b::m,h,k=>.cons (k 0 a b rfl rfl) (cy.VD (by simpa using h) λi a b c d=>k (i+1) a b (by simpa using c) (by simpa using d))
inductive gO(C:bf)(r:Bool)(f:Ren):Item->Item->Prop
 |code {c}:codeOk C r c=true->gO C r f (.code c) (.code c)
 |inBlock (i):gO C r f (.inBlock i) (.inBlock i)
 |inLoop {c}:codeOk C r c=true->gO C r f (.inLoop c) (.inLoop c)
 |inScope {c}:codeOk C r c=true->gO C r f (.inScope c) (.inScope c)
 |region {ops} (l):Cy C r ops l->gO C r f (.inRegion ops l) (.inRegion ops l)
 |y4 {l fS}:f l=some fS->gO C r f (.inRangeFunc l) (.inRangeFunc fS)
 |GD {l fS}:f l=some fS->gO C r f (.endRangeFunc l) (.endRangeFunc fS)
 |begin:gO C r f .beginRound .beginRound
def gO.mono{C:bf}{r:Bool}{f g:Ren}(h:bs f g){i a:Item}(q:gO C r f i a):gO C r g i a:=by
 cases q with
 |y4 e=>exact .y4 (h _ _ e)
 |GD e=>exact .GD (h _ _ e)
 |code e=>exact .code e
 |inBlock i=>exact .inBlock i
 |inLoop e=>exact .inLoop e
 |inScope e=>exact .inScope e
 |region l e=>exact .region l e
 |begin=>exact .begin
def calm:eQ->Bool
 |[]| .code _::_| .inLoop _::_| .inBlock _::_| .inScope _::_=>true
 |_=>false
inductive fH(C:bf)(r:Bool)(f:Ren):List Item->List Item->Prop
 |nil:fH C r f [] []
 |cons {a b l m}:gO C r f a b->fH C r f l m->fH C r f (a::l) (b::m)
 |wall {l}:r=false->calm l=true->C.wl l->fH C r f [.code (.refuse "")] l
 |cut {a x y l}:codeOk C r a=true->fH C r f [.code x] (.code y::l)->fH C r f [.code (.seq a x)] (.code (.seq a y)::l)
def fH.mono{C:bf}{r:Bool}{f g:Ren}(h:∀a b,gO C r f a b->gO C r g a b){l m:eQ}(k:fH C r f l m):fH C r g l m:=by
 induction k with
 |nil=>exact .nil
 |cons q _ d=>exact .cons (h _ _ q) d
 |wall a b c=>exact .wall a b c
 |cut a _ d=>exact .cut a d
structure ru(C:bf)(f:Ren)(e fg:PanicEntry):Prop where
 v:aB C.fn f e.v fg.v
 Cz:fg.recovered=e.recovered
 go:fg.goexit=e.goexit
inductive sI(C:bf)(f:Ren):FrameMode->FrameMode->Prop
 |run:sI C f .run .run
 |returning:sI C f .returning .returning
 |panicking {l fS}:cy (ru C f) l fS->sI C f (.panicking l) (.panicking fS)
def ru.mono{C:bf}{f g:Ren}(h:bs f g){i a:PanicEntry}(r:ru C f i a):ru C g i a:=⟨r.v.mono h,r.Cz,r.go⟩
def sI.mono{C:bf}{f g:Ren}(h:bs f g){i a:FrameMode}(r:sI C f i a):sI C g i a:=by
 cases r with
 |run=>exact .run
 |returning=>exact .returning
 |panicking l=>exact .panicking (l.mono λ_ _=>ru.mono h)
inductive CB(f:Ren):Option Nat->Option Nat->Prop
 |none:CB f none none
 |some {l fS}:f l=some fS->CB f (some l) (some fS)
structure bV(C:bf)(f:Ren)(x ak:bY):Prop where
 fn:ak.fn=x.fn
 ok:pj C x.fn
 tmps:aZ C.fn f x.tmps ak.tmps
 todo:fH C x.roundOf.isSome f x.todo ak.todo
 defers:cy (fG C.fn f) x.defers ak.defers
 mode:sI C f x.mode ak.mode
 kind:ak.kind=x.kind
 plain:x.kind=.normal\/x.kind=.deferred
 round:CB f x.roundOf ak.roundOf
def bV.mono{C:bf}{f g:Ren}(h:bs f g){x ak:bY}(r:bV C f x ak):bV C g x ak:=⟨r.fn,r.ok,r.tmps.mono h,r.todo.mono λ_ _=>gO.mono h,r.defers.mono λ_ _=>fG.mono h,r.mode.mono h,r.kind,r.plain,by
  have:=r.round;revert this;generalize x.roundOf=a;generalize ak.roundOf=b;intro q;cases q with
  |none=>exact .none
  |some e=>exact .some (h _ _ e)⟩
structure bf.j1(C:bf)(bZ:FuncId->Bool):Prop extends C.Ok2 where
 code:∀c,C.code c=codeOk C true c
 same:∀n,C.fn (.func n)=true->bZ n=false->pj C n/\∀F b,C.P.funcs[n]? =some F->F.body=some b->codeOk C false b=true
def d0(P:bF):bY:={fn:=P.funcs.size,tmps:= #[],todo:=[.code (.refuse "")],defers:=[{target:=.builtin .make #[] 0 #[],args:= #[]}],mode:=.run,kind:=.normal}
def aJ(x:bY)(cs:bW):aY:={frame:=x,callers:=cs,status:=.running,dying:=none}
inductive j2(C:bf)(bZ:FuncId->Bool)(tail:List Frame)(f:Ren)(g g':Goroutine):Prop
 |both {x cs ak cs'}:g=aJ x (cs++ [d0 C.P])->g'=aJ ak (cs'++tail)->bV C f x ak->cy (bV C f) cs cs'->j2 C bZ tail f g g'
 |bZ {n a a' k cs cs'}:bZ n=true->C.fn (.func n)=true->(k=.normal\/k=.deferred)->aZ C.fn f a a'->g=aJ (Frame.enter C.P n a k) (cs++ [d0 C.P])->g'=aJ (Frame.enter C.b0 n a' k) (cs'++tail)->cy (bV C f) cs cs'->cs≠[]->j2 C bZ tail f g g'
 |out {x}:g=aJ x []->(∀w,∃o w' es,stepG C.P true g w=.ended o w' es)->j2 C bZ tail f g g'
structure Form(P:bF)(main:Bool)(g:aY){X Y:Type}(s1:Sem X)(s2:X->Sem Y)(D:Y->Prop)(K:X->Y->aY)(CC:X->ai->aY):Prop where
 sJ:∀w v w1 es,s1.runT P w #[]≠(.halt (.panic v) w1,es)
 ok:∀{w x w1 es1 a w2 qa},s1.runT P w #[]=(.ok x w1,es1)->(s2 x).runT P w1 #[]=(.ok a w2,qa)->D a->∃aH:bI,stepG P main g w=.go (K x a) w2 aH/\∀e∈aH,e∈es1\/e∈qa
 ql:∀{w x w1 es1 v w2 qa},s1.runT P w #[]=(.ok x w1,es1)->(s2 x).runT P w1 #[]=(.halt (.panic v) w2,qa)->∃aH:bI,stepG P main g w=.go (CC x v) w2 aH/\∀e∈aH,e∈es1\/e∈qa
 d1:∀{w h w1 es1},s1.runT P w #[]=(.halt h w1,es1)->eJ h->∃o w2 aH,stepG P main g w=.ended o w2 aH
 d2:∀{w x w1 es1 h w2 qa},s1.runT P w #[]=(.ok x w1,es1)->(s2 x).runT P w1 #[]=(.halt h w2,qa)->eJ h->∃o w2 aH,stepG P main g w=.ended o w2 aH
def n2{P:bF}{fn:FuncId}{es:bI}{e:Event}(h:e∈seen P fn es):e∈es:=by
 have g:∀(l:List Event)(q:Bool)(b:bI),e∈(l.foldl (λ(x:Bool×bI)e=>match e.loc with
   |.mark (.extern f)=>(Option.any (λ(F:Func)=>F.norace) P.funcs[f]?,x.2)
   |_=>(x.1,if x.1 && !e.sync then x.2 else x.2.push e)) (q,b)).2->e∈b\/e∈l:=by
  intro l;induction l with
  |nil=>intro q b h;exact .inl h
  |cons a l i=>
   intro q b h;rw[rQ]at h;have d:(match a.loc with
     |.mark (.extern f)=>(Option.any (λ(F:Func)=>F.norace) P.funcs[f]?,b)
     |_=>(q,if q && !a.sync then b else b.push a)).2=b\/(match a.loc with
     |.mark (.extern f)=>(Option.any (λ(F:Func)=>F.norace) P.funcs[f]?,b)
     |_=>(q,if q && !a.sync then b else b.push a)).2=b.push a:=by
    split
    .exact .inl rfl
    .dsimp only;split
     .exact .inl rfl
     .exact .inr rfl
   generalize j:(match a.loc with
     |.mark (.extern f)=>(Option.any (λ(F:Func)=>F.norace) P.funcs[f]?,b)
     |_=>(q,if q && !a.sync then b else b.push a):Bool×bI)=x at d
   have c:=i x.1 x.2 (by rw[<-j];exact h);rcases c with c|c
   .rcases d with d|d
    .rw[d]at c;exact .inl c
    .rw[d]at c;rcases Array.mem_push.1 c with c|c
     .exact .inl c
     .exact .inr (by rw[c];exact L3)
   .exact .inr (Fa _ c)
 unfold seen at h;dsimp only at h;rw[<-y0]at h;rcases g es.toList _ _ h with h|h
 .simp at h
 .simpa using h
section
variable{P:Program}{main:Bool}
def Form.move{g g1:aY}(h:∀w,stepG P main g w=.go g1 w #[]):Form P main g (Pure.pure ():Sem Unit) (λ_=>(Pure.pure ():Sem Unit)) (λ_=>True) (λ_ _=>g1) (λ_ _=>g1) where
 sJ:=λw v w1 es h=>by cases h
 ok:=λa b _=>by cases a;cases b;exact⟨_,h _,ag⟩
 ql:=λa b=>by cases a;cases b
 d1:=λa=>by cases a
 d2:=λa b=>by cases a;cases b
def Form.over{g:aY}(h:∀w,∃o w2 aH,stepG P main g w=.ended o w2 aH)(K:aY):Form P main g (Pure.pure ():Sem Unit) (λ_=>(stuck "" :Sem Unit)) aD (λ_ _=>K) (λ_ _=>K) where
 sJ:=λw v w1 es h=>by cases h
 ok:=λa b _=>by cases a;cases b
 ql:=λa b=>by cases a;cases b
 d1:=λa=>by cases a
 d2:=λ_ _ _=>h _
def uO:Next->Prop
 |.value _| .skip| .enter ..| .round ..| .defer _| .recover=>True
 |_=>False
def pp(P:bF)(x:bY)(cs:bW):Next->aY
 |.value v=>aJ (x.finish v) cs
 |.skip=>aJ (x.finish I) cs
 |.enter n a=>aJ (Frame.enter P n a .normal) (x::cs)
 |.round l n t a b=>aJ (Frame.round l n t a b .normal) (x::cs)
 |.defer d=>aJ ({x with defers:=d::x.defers}.finish I) cs
 |.recover=>match (match x.roundOf with|some l=>if P.follows .rangeFuncRecover then tryRecover x cs else tryRecoverLoop l cs|none=>tryRecover x cs)with
  |some (v,cs)=>aJ (x.finish v) cs
  |none=>aJ (x.finish .nilIface) cs
 |_=>aJ x cs
def VE{x:bY}{cs:bW}{s:Sem Next}(hk:x.kind=.normal\/x.kind=.deferred)(g:∀d r s l,x.todo≠.call d true r s::l){w w2:ab}{a:Next}{c:bI}(h:s.runT P w #[]=(.ok a w2,c))(hd:uO a): stepG.apply P true x cs none s w=.go (pp P x cs a) w2 (seen P x.fn c):=by
 have i:(x.kind==.early)=false:=(by rcases hk with e|e<;>rw[e]<;>rfl);unfold stepG.apply;simp only[dd,h,i,ea,cY];cases a with
 |value v=>simp[GStep.after,pp,aJ]
 |skip=>simp[GStep.after,pp,aJ]
 |enter n a=>
  simp only[GStep.after,pp,aJ];first
   |(split
     .rename_i q;exact absurd q (g _ _ _ _)
     .simp)
   |simp
 |round l n t a b=>simp[GStep.after,pp,aJ]
 |defer d=>simp[GStep.after,pp,aJ]
 |recover=>
  unfold pp;dsimp only;cases x.roundOf with
  |none=>dsimp only;cases tryRecover x cs<;>simp[GStep.after,aJ]
  |some l=>
   dsimp only;by_cases f:P.follows .rangeFuncRecover=true
   .simp only[f,dd];cases tryRecover x cs<;>simp[GStep.after,aJ]
   .simp only[f,cY,ea];cases tryRecoverLoop l cs<;>simp[GStep.after,aJ]
 |_=>exact hd.elim
def VF{x:bY}{cs:bW}{s:Sem Next}(hk:x.kind=.normal\/x.kind=.deferred){w w2:ab}{v:ai}{a:bI}(b:s.runT P w #[]=(.halt (.panic v) w2,a)): stepG.apply P true x cs none s w=.go (aJ (x.raise [{v,recovered:=false}]) cs) w2 (seen P x.fn a):=by
 have c:(x.kind==.early)=false:=(by rcases hk with e|e<;>rw[e]<;>rfl);unfold stepG.apply;simp only[dd,b,c,ea,cY];simp[GStep.after,aJ]
def GF{x:bY}{cs:bW}{s:Sem Next}{w w2:ab}{b:Halt}{a:bI}(c:s.runT P w #[]=(.halt b w2,a))(hd:eJ b): ∃o w2 aH,stepG.apply P true x cs none s w=.ended o w2 aH:=by
 unfold stepG.apply;simp only[dd,c];rcases hd with⟨q,rfl⟩|⟨u,rfl,d⟩
 .exact⟨_,_,_,rfl⟩
 .cases u<;>first|exact absurd rfl (d _)|exact⟨_,_,_,rfl⟩
def Form.apply{g:aY}{x:bY}{cs:bW}{s:Sem Next}(h:∀w,stepG P main g w=stepG.apply P true x cs none s w)(hk:x.kind=.normal\/x.kind=.deferred)(f:∀d r s l,x.todo≠.call d true r s::l): Form P main g (Pure.pure ():Sem Unit) (λ_=>s) uO (λ_ n=>pp P x cs n) (λ_ v=>aJ (x.raise [{v,recovered:=false}]) cs) where
 sJ:=λw v w1 es h=>by cases h
 ok:=λa b hd=>by cases a;exact⟨_,by rw[h];exact VE hk f b hd,λe c=>.inr (n2 c)⟩
 ql:=λa b=>by cases a;exact⟨_,by rw[h];exact VF hk b,λe c=>.inr (n2 c)⟩
 d1:=λa=>by cases a
 d2:=λa b hd=>by cases a;rw[h];exact GF b hd
end
end Go.Ren
namespace Go.Ren
open Go
def cut{α:Type}:Sem α->Sem α
 |.pure a=>.pure a
 |.load m a k=>.load m a λv=>cut (k v)
 |.store m a v k=>.store m a v (cut k)
 |.new o k=>.new o λr=>cut (k r)
 |.shape r k=>.shape r λs=>cut (k s)
 |.freeze a n k=>.freeze a n (cut k)
 |.frozen a k=>.frozen a λb=>cut (k b)
 |.getObj r k=>.getObj r λo=>cut (k o)
 |.setObj r o k=>.setObj r o (cut k)
 |.choose q k=>.choose q λn=>cut (k n)
 |.sys c k=>.sys c λr=>cut (k r)
 |.program k=>.program λp=>cut (k p)
 |.mark m k=>.mark m (cut k)
 |.halt (.panic _)=>.halt (.stuck "")
 |.halt h=>.halt h
def L4{α:Type}:Result α×bI->Result α×bI
 |(.halt (.panic _) w,es)=>(.halt (.stuck "") w,es)
 |r=>r
def VG(w:ab)(a:Addr)(m:String)(v:ai):w.noCell a m≠.panic v:=by
 unfold World.noCell;split<;>simp
def aiB{P:bF}{w:ab}{a:Addr}{b:Bool}{h:Halt}(e:w.farLoad P a b=.error h)(v:ai):h≠.panic v:=by
 unfold World.farLoad at e;split at e
 .split at e
  .cases e
  .cases e;simp
 .cases e;exact VG _ _ _ _
def aiC{P:bF}{w:ab}{a:Addr}{u:ai}{b:Bool}{h:Halt}(e:w.farStore P a u b=.error h)(v:ai):h≠.panic v:=by
 unfold World.farStore at e;split at e
 .split at e
  .cases e
  .cases e;simp
 .cases e;exact VG _ _ _ _
def VH{α:Type}{h:Halt}{w:ab}{es:bI}(a:∀v,h≠.panic v):L4 ((.halt h w,es):Result α×bI)=(.halt h w,es):=by cases h<;>first|rfl|exact absurd rfl (a _)
def wP{α:Type}(P:bF)(s:Sem α):∀(w:ab)(es:bI),(cut s).runT P w es=L4 (s.runT P w es):=by
 induction s with
 |pure a=>intro w es;rfl
 |load m a k b=>
  intro w es;simp only[cut,Sem.runT];split
  .exact b _ _ _
  .split
   .exact b _ _ _
   .rename_i h e;exact(VH (aiB e)).symm
 |store m a v k b=>
  intro w es;have d:(match w.cell? a with
    |some _=>if w.frozen? a then(.halt (.unsupported (.unsafePointer "a write to bytes that a string shares")) w,es)else(cut k).runT P (w.setCell a v) (es.push ⟨.cell a,true,m==.atomic⟩)
    |none=>match w.farStore P a v (m==.atomic)with
     |.ok (w,wJ)=>(cut k).runT P w (es++wJ.toArray.map (⟨.cell ·,true,m==.atomic⟩))
     |.error h=>(.halt h w,es))=L4 (match w.cell? a with
    |some _=>if w.frozen? a then(.halt (.unsupported (.unsafePointer "a write to bytes that a string shares")) w,es)else k.runT P (w.setCell a v) (es.push ⟨.cell a,true,m==.atomic⟩)
    |none=>match w.farStore P a v (m==.atomic)with
     |.ok (w,wJ)=>k.runT P w (es++wJ.toArray.map (⟨.cell ·,true,m==.atomic⟩))
     |.error h=>(.halt h w,es)):=by
   split
   .split
    .rfl
    .exact b _ _
   .split
    .exact b _ _
    .rename_i h e;exact(VH (aiC e)).symm
  cases v<;>first|rfl|exact d
 |new o k b=>intro w es;exact b _ _ _
 |shape r k b=>intro w es;exact b _ _ _
 |freeze a n k b=>intro w es;exact b _ _
 |frozen a k b=>intro w es;exact b _ _ _
 |getObj r k b=>intro w es;simp only[cut,Sem.runT];split;rfl;exact b _ _ _;rfl
 |setObj r o k b=>intro w es;simp only[cut,Sem.runT];split;rfl;exact b _ _;rfl
 |choose q k b=>intro w es;simp only[cut,Sem.runT];split;exact b _ _ _;exact b _ _ _
 |sys c k b=>intro w es;exact b _ _ _
 |program k b=>intro w es;exact b _ _ _
 |mark m k b=>intro w es;exact b _ _
 |halt h=>intro w es;cases h<;>rfl
def aA.cut{C:bf}{α β:Type}{A:Ren->α->β->Prop}{f:Ren}{s:Sem α}{s':Sem β}(h:aA C A f s s'):aA C A f (Ren.cut s) (Ren.cut s'):=by
 induction h with
 |pure h=>exact .pure h
 |load e _ a=>exact .load e a
 |store e r _ a=>exact .store e r a
 |new o _ a=>exact .new o a
 |shape e _ a=>exact .shape e a
 |freeze n c e _ a=>exact .freeze n c e a
 |frozen c e _ a=>exact .frozen c e a
 |getObj e _ a=>exact .getObj e a
 |setObj e r _ a=>exact .setObj e r a
 |choose q _ a=>exact .choose q a
 |program _ a=>exact .program a
 |ext g _ a=>exact .ext g a
 |env _ a=>exact .env a
 |room _ a=>exact .room a
 |panic r=>exact .dies λw es=>⟨_,_,rfl,.inl ⟨_,rfl⟩⟩
 |dies h=>
  refine .dies λw es=> ?_;have⟨b,w',e,d⟩:=h w es;rw[wP];generalize Sem.runT C.P _ w es=r at e;obtain⟨r,bg⟩:=r;dsimp only at e;subst e;cases b with
  |panic v=>exact absurd rfl (d.panic v)
  |_=>exact⟨_,_,rfl,d⟩
end Go.Ren
namespace Go.Ren
open Go
section
variable{C:bf}{f:Ren}{x ak:Frame}
def bV.hz(h:bV C f x ak){k k':eQ}(hk:fH C x.roundOf.isSome f k k'):bV C f {x with todo:=k} {ak with todo:=k'}:=⟨h.fn,h.ok,h.tmps,hk,h.defers,h.mode,h.kind,h.plain,h.round⟩
def bV.y5(h:bV C f x ak){m a:FrameMode}(b:sI C f m a):bV C f {x with mode:=m} {ak with mode:=a}:=⟨h.fn,h.ok,h.tmps,h.todo,h.defers,b,h.kind,h.plain,h.round⟩
def bV.GG(h:bV C f x ak){d d':List Deferred}(hd:cy (fG C.fn f) d d'):bV C f {x with defers:=d} {ak with defers:=d'}:=⟨h.fn,h.ok,h.tmps,h.todo,hd,h.mode,h.kind,h.plain,h.round⟩
def bV.aiD(h:bV C f x ak){t a:aQ}(b:aZ C.fn f t a):bV C f {x with tmps:=t} {ak with tmps:=a}:=⟨h.fn,h.ok,b,h.todo,h.defers,h.mode,h.kind,h.plain,h.round⟩
def bV.finish(h:bV C f x ak){v v':ai}(b:aB C.fn f v v'):bV C f (x.finish v) (ak.finish v'):=by
 have a:=h.todo
 unfold Frame.finish;generalize k:x.todo=t at a⊢;generalize c:ak.todo=g at a⊢;cases a with
 |nil=>exact h
 |cons r q=>
  cases r with
  |@region ops l ap=>
   cases l with
   |nil=>exact h
   |cons i rest=>
    dsimp only;cases(ops[i]?).bind (·.dst)with
    |none=>exact h.hz (.cons (.region rest (VC ap)) q)
    |some d=>exact(h.aiD (h.tmps.set d b)).hz (.cons (.region rest (VC ap)) q)
  |y4 e=>exact h.hz (.cons (.GD e) q)
  |begin=>exact h.hz q
  |_=>exact h
 |cut _ _=>exact h
 |wall m j n=>
  cases g with
  |nil=>exact h
  |cons i _=>cases i<;>first|exact h|cases j
def bV.raise(h:bV C f x ak){l b:List PanicEntry}(c:cy (ru C f) l b):bV C f (x.raise l) (ak.raise b):=by
 have a:=h.mode;unfold Frame.raise;generalize e:x.mode=t at a⊢;generalize d:ak.mode=g at a⊢;cases a with
 |panicking q=>exact h.y5 (.panicking (c.append q))
 |_=>exact h.y5 (.panicking c)
def ru.new{v v':ai}(a:aB C.fn f v v'):ru C f {v,recovered:=false} {v:=v',recovered:=false}:=⟨a,rfl,rfl⟩
def bV.panic(h:bV C f x ak){v v':ai}(a:aB C.fn f v v'):bV C f (x.raise [{v,recovered:=false}]) (ak.raise [{v:=v',recovered:=false}]):=h.raise (.cons (.new a) .nil)
def bV.enter{bZ:FuncId->Bool}(O:C.j1 bZ){n:FuncId}(g:C.fn (.func n)=true)(h:bZ n=false){a a':aQ}(d:aZ C.fn f a a'){k:CallKind}(hk:k=.normal\/k=.deferred): bV C f (Frame.enter C.P n a k) (Frame.enter C.b0 n a' k):=by
 have⟨c,i⟩:=O.same n g h;obtain⟨e,⟨F,hF⟩,af⟩:=c;refine⟨rfl,⟨e,⟨F,hF⟩,af⟩,?_,?_,.nil,.run,rfl,hk,.none⟩
 .unfold Frame.enter;dsimp only;rw[e,d.size];exact d.append (aZ.replicate _ .undef)
 .unfold Frame.enter;dsimp only;rw[e,hF];refine .cons (.code ?_) .nil;cases hb:F.body with
  |none=>simp[hb,codeOk]
  |some b=>simp[hb];exact i F b hF hb
def wQ(P:bF){x:bY}(h:x=d0 P\/∃l,x=(d0 P).raise l):∀w,∃o w' es,stepG P true (aJ x []) w=.ended o w' es:=by
 intro w;rcases h with rfl|⟨l,rfl⟩
 .refine⟨_,_,_,rfl⟩
 .exact⟨_,_,_,rfl⟩
end
section
variable{C:bf}{bZ:FuncId->Bool}{tail:List Frame}{f:Ren}{x ak:Frame}{cs cs':List Frame}
def j2.mk(h:bV C f x ak)(k:cy (bV C f) cs cs'):j2 C bZ tail f (aJ x (cs++ [d0 C.P])) (aJ ak (cs'++tail)):=.both rfl rfl h k
def cy.bo{g:Ren}(h:bs f g)(k:cy (bV C f) cs cs'):cy (bV C g) cs cs':=k.mono λ_ _=>bV.mono h
def CE(c:bY):bY:=match c.mode with
 |.panicking ({recovered:=true,..}::fO)=>match fO.dropWhile (!·.goexit)with
  |[]=>{c with mode:=.returning}
  |rest=>{c with mode:=.panicking rest}
 |_=>c
def aiE{l c:List PanicEntry}(h:cy (ru C f) l c):cy (ru C f) (l.dropWhile (!·.goexit)) (c.dropWhile (!·.goexit)):=by
 induction h with
 |nil=>exact .nil
 |@cons a b l m r q d=>
  simp only[List.dropWhile_cons,r.go];split
  .exact d
  .exact .cons r q
def VI(h:bV C f x ak):bV C f (CE x) (CE ak):=by
 have c:=h.mode;unfold CE;generalize n:x.mode=t at c⊢;generalize e:ak.mode=o at c⊢;cases c with
 |@panicking l p q=>
  cases q with
  |nil=>exact h
  |@cons a b l m r q=>
   obtain⟨s,g,mB⟩:=a;obtain⟨bv,d,v⟩:=b;have i:d=g:=r.Cz;subst i;cases d with
   |false=>exact h
   |true=>
    dsimp only;have hd:=aiE q;generalize l.dropWhile (!·.goexit)=u at hd⊢;generalize m.dropWhile (!·.goexit)=w at hd⊢;cases hd with
    |nil=>exact h.y5 .returning
    |cons j k=>exact h.y5 (.panicking (.cons j k))
 |_=>exact h
def gP(x:bY)(cs:bW)(v:ai):aY:=match cs with
 |c::rest=>(match x.kind with| .normal| .wrapped=>aJ (c.finish v) rest|_=>aJ (CE c) rest)
 |[]=>aJ x []
def GH(h:bV C f x ak)(k:cy (bV C f) cs cs'){v v':ai}(a:aB C.fn f v v'):j2 C bZ tail f (gP x (cs++ [d0 C.P]) v) (gP ak (cs'++tail) v'):=by
 unfold gP;cases k with
 |nil=>
  simp only[mV];rcases h.plain with e|e
  .rw[e];exact .out (x:=d0 C.P) rfl (wQ _ (.inl rfl))
  .rw[e];exact .out (x:=d0 C.P) rfl (wQ _ (.inl rfl))
 |cons r q=>
  simp only[oa];rw[h.kind];rcases h.plain with e|e
  .rw[e];exact .mk (r.finish a) q
  .rw[e];exact .mk (VI r) q
structure pq(tail:bW):Prop where
 Cz:∀x:bY,(x.kind=.normal\/x.kind=.deferred)->tryRecover x tail=none
 loop:∀l,tryRecoverLoop l tail=none
def ym(C:bf)(tail:bW)(f:Ren)(r r':Option (ai×bW)):Prop:=(r=none/\r'=none)\/∃v v' cs cs',r=some (v,cs++ [d0 C.P])/\r'=some (v',cs'++tail)/\aB C.fn f v v'/\cy (bV C f) cs cs'
def GI(T:pq tail)(h:bV C f x ak)(k:cy (bV C f) cs cs'):ym C tail f (tryRecover x (cs++ [d0 C.P])) (tryRecover ak (cs'++tail)):=by
 cases k with
 |nil=>
  refine .inl ⟨?_,T.Cz ak (by rw[h.kind];exact h.plain)⟩;rcases h.plain with e|e<;>simp[tryRecover,e,d0]
 |@cons c n cs cs' r q=>
  simp only[oa];rcases h.plain with e|e
  .refine .inl ⟨?_,?_⟩
   .unfold tryRecover;rw[e]
   .unfold tryRecover;rw[h.kind,e]
  .have g:=r.mode;unfold tryRecover;rw[h.kind,e];dsimp only;generalize z:c.mode=t at g⊢;generalize o:n.mode=A at g⊢;cases g with
   |run=>exact .inl ⟨rfl,rfl⟩
   |returning=>exact .inl ⟨rfl,rfl⟩
   |@panicking l B p=>
    cases p with
    |nil=>exact .inl ⟨rfl,rfl⟩
    |@cons a b l m d s=>
     obtain⟨D,u,mB⟩:=a;obtain⟨bv,i,j⟩:=b;have w:i=u:=d.Cz;have y:j=mB:=d.go;subst w;subst y;cases i<;>cases j<;>first
      |exact .inl ⟨rfl,rfl⟩
      |exact .inr ⟨_,_,_::cs,_::cs',rfl,rfl,d.v,.cons (r.y5 (.panicking (.cons ⟨d.v,rfl,rfl⟩ s))) q⟩
def aiF(T:pq tail):∀{cs cs':bW}(_:cy (bV C f) cs cs'){l j:Nat}(_:f l=some j),ym C tail f (tryRecoverLoop l (cs++ [d0 C.P])) (tryRecoverLoop j (cs'++tail)):=by
 intro cs cs' k;induction k with
 |nil=>
  intro l j e;refine .inl ⟨?_,T.loop _⟩;simp[tryRecoverLoop,d0]
 |@cons c m cs cs' r q g=>
  intro l j e;simp only[oa,tryRecoverLoop];have d:∀{a b},ym C tail f a b->ym C tail f (a.map λ(v,rest)=>(v,c::rest)) (b.map λ(v,rest)=>(v,m::rest)):=by
   intro a b h;rcases h with⟨rfl,rfl⟩|⟨v,v',u,x,rfl,rfl,y,z⟩
   .exact .inl ⟨rfl,rfl⟩
   .exact .inr ⟨v,v',c::u,m::x,rfl,rfl,y,.cons r z⟩
  have n:=r.todo
  have p:=r.round;generalize H:c.todo=t at n⊢;generalize A:m.todo=B at n⊢;generalize aa:c.roundOf=o at p⊢;generalize D:m.roundOf=J at p⊢;cases n with
  |nil=>exact d (g e)
  |cons E K=>
   cases E with
   |@y4 a a' s=>
    have w:(a'==j)=(a==l):=by
     apply sG.2;simp only[ho];constructor
     .intro h;subst h;exact f.inj _ _ _ s e
     .intro h;rw[h,e]at s;cases s;rfl
    cases p with
    |none=>
     dsimp only;rw[w];split
     .exact d (GI T r q)
     .exact d (g e)
    |some F=>
     dsimp only;rw[w];split
     .exact d (g F)
     .exact d (g e)
   |_=>exact d (g e)
  |cut _ _=>exact d (g e)
  |wall L G M=>
   cases B with
   |nil=>exact d (g e)
   |cons i _=>cases i<;>first|exact d (g e)|cases G
end
end Go.Ren
namespace Go.Ren
open Go
inductive iS(C:bf)(bZ:FuncId->Bool)(tail:List Frame)(main':Bool)(f:Ren)(g g':Goroutine):Prop
 |VJ {X Y y6 GJ:Type} (s1:Sem X) (s2:X->Sem Y) (D:Y->Prop) (K:X->Y->Goroutine) (CC:X->Value->Goroutine) (t1:Sem y6) (t2:y6->Sem GJ) (wh:GJ->Prop) (L5:y6->GJ->Goroutine) (L6:y6->Value->Goroutine) (pr:Ren->X->y6->Prop) (L8:X->y6->Ren->Y->GJ->Prop): Form C.P true g s1 s2 D K CC->Form C.b0 main' g' t1 t2 wh L5 L6->aA C pr f s1 t1->(∀h a a',bs f h->pr h a a'->gB C (L8 a a') h (s2 a) (t2 a')/\(∀j b pt,bs h j->L8 a a' j b pt->D b/\wh pt/\j2 C bZ tail j (K a b) (L5 a' pt))/\∀j v v',bs h j->aB C.fn j v v'->j2 C bZ tail j (CC a v) (L6 a' v'))->iS C bZ tail main' f g g'
section
variable{C:bf}{bZ:FuncId->Bool}{tail:List Frame}{main':Bool}{f:Ren}
def iS.mk{g g':aY}{X Y d e:Type}(i:Sem X)(m:X->Sem Y)(D:Y->Prop)(K:X->Y->aY)(n:X->ai->aY)(o:Sem d)(p:d->Sem e)(q:e->Prop)(s:d->e->aY)(c:d->ai->aY)(pr:Ren->X->d->Prop)(t:X->d->Ren->Y->e->Prop)(F:Form C.P true g i m D K n)(F':Form C.b0 main' g' o p q s c)(h:aA C pr f i o)(k:∀h a a',bs f h->pr h a a'->aA C (t a a') h (m a) (p a')/\(∀j b u,bs h j->t a a' j b u->D b/\q u/\j2 C bZ tail j (K a b) (s a' u))/\∀j v v',bs h j->aB C.fn j v v'->j2 C bZ tail j (n a v) (c a' v')):iS C bZ tail main' f g g':=.VJ i m D K n o p q s c pr t F F' h λg a a' l r=>⟨.of (k g a a' l r).1,(k g a a' l r).2⟩
def j2.mono{h:Ren}(l:bs f h){g g':aY}(r:j2 C bZ tail f g g'):j2 C bZ tail h g g':=by
 cases r with
 |both e d a b=>exact .both e d (a.mono l) (b.bo l)
 |bZ m n k a e d b c=>exact .bZ m n k (a.mono l) e d (b.bo l) c
 |out e q=>exact .out e q
def iS.move{g g' g1 g1':aY}(h:∀w,stepG C.P true g w=.go g1 w #[])(d:∀w,stepG C.b0 main' g' w=.go g1' w #[])(r:j2 C bZ tail f g1 g1'):iS C bZ tail main' f g g':=.mk _ _ _ _ _ _ _ _ _ _ (λ_ _ _=>True) (λ_ _ _ _ _=>True) (.move h) (.move d) (.ax trivial) λj a a' l _=>⟨.ax trivial,λk b e c _=>⟨trivial,trivial,r.mono (l.trans c)⟩,λk v v' c _=>r.mono (l.trans c)⟩
def iS.over{g g':aY}(h:∀w,∃o w2 aH,stepG C.P true g w=.ended o w2 aH)(b:∀w,∃o w2 aH,stepG C.b0 main' g' w=.ended o w2 aH):iS C bZ tail main' f g g':=.mk _ _ _ _ _ _ _ _ _ _ (λ_ _ _=>True) (λ_ _ _ _ _=>False) (.over h (aJ (d0 C.P) [])) (.over b g') (.ax trivial) λj a a' l _=>⟨.stuck,λ_ _ _ _ q=>q.elim,λk v v' c _=>.out rfl (wQ _ (.inl rfl))⟩
def Form.aiG{P:bF}{main:Bool}{g:aY}(h:∀w,∃o w2 aH,stepG P main g w=.ended o w2 aH)(K:aY):Form P main g (stuck "" :Sem Unit) (λ_=>(Pure.pure ():Sem Unit)) aD (λ_ _=>K) (λ_ _=>K) where
 sJ:=λw v w1 es h=>by cases h
 ok:=λa b _=>by cases a
 ql:=λa b=>by cases a
 d1:=λ_ _=>h _
 d2:=λa=>by cases a
def Form.any{P:bF}{main:Bool}{g:aY}(K:aY):Form P main g (Sem.halt .blocked:Sem Unit) (λ_=>(Pure.pure ():Sem Unit)) aD (λ_ _=>K) (λ_ _=>K) where
 sJ:=λw v w1 es h=>by cases h
 ok:=λa b _=>by cases a
 ql:=λa b=>by cases a
 d1:=λa hd=>by cases a;rcases hd with⟨_,h⟩|⟨_,h,_⟩<;>cases h
 d2:=λa=>by cases a
def iS.dead{g g':aY}(h:∀w,∃o w2 aH,stepG C.P true g w=.ended o w2 aH):iS C bZ tail main' f g g':=.mk _ _ _ _ _ _ _ _ _ _ (λ_ _ _=>False) (λ_ _ _ _ _=>False) (.aiG h g) (.any g') .stuck λj a a' l q=>q.elim
def uP{P:bF}{main:Bool}{x:bY}{cs:bW}(hk:x.kind=.normal\/x.kind=.deferred)(b:cs≠[])(v:ai)(w:ab):doReturn P main x cs none v w=.go (gP x cs v) w #[]:=by
 cases cs with
 |nil=>exact absurd rfl b
 |cons c rest=>
  rcases hk with e|e
  .simp[doReturn,gP,e,aJ]
  .simp only[doReturn,gP,e,aJ,CE];split<;>rename_i a
   .split<;>rename_i d<;>simp[a,d]
   .split
    .rename_i f;exact absurd f (a _ _ _)
    .rfl
def GK(P:bF)(cs:bW):cs++ [d0 P]≠[]:=ag
def wR(C:bf)(x:bY)(cs:bW):Prop:=∀w,(∃o w2 aH,stepG C.P true (aJ x (cs++ [d0 C.P])) w=.ended o w2 aH)\/∃u w2 aH,stepG C.P true (aJ x (cs++ [d0 C.P])) w=.go (aJ u []) w2 aH/\∀w,∃o w' es,stepG C.P true (aJ u []) w=.ended o w' es
def VK{C:bf}{f:Ren}{x ak:bY}(h:bV C f x ak){v:ai}:∃u,gP x ([]++ [d0 C.P]) v=aJ u []/\∀w,∃o w' es,stepG C.P true (aJ u []) w=.ended o w' es:=by
 unfold gP;rcases h.plain with e|e
 .rw[e];exact⟨_,rfl,wQ _ (.inl rfl)⟩
 .rw[e];exact⟨_,rfl,wQ _ (.inl rfl)⟩
def VL{C:bf}{f:Ren}{x:bY}{cs cs':bW}(k:cy (bV C f) cs cs')(a:¬wR C x cs)(q:cs=[]->wR C x cs):cs'++tail≠[]:=by
 cases k with
 |nil=>exact absurd (q rfl) a
 |cons r q=>simp
def Form.one{P:bF}{main:Bool}{g:aY}{fn:FuncId}{X:Type}{s:Sem X}{K:X->aY}(f:∀w a w1 es,s.runT P w #[]=(.ok a w1,es)->∃aH:bI,stepG P main g w=.go (K a) w1 (seen P fn es++aH)/\aH= #[])(c:∀w h w1 es,s.runT P w #[]=(.halt h w1,es)->∃o w2 aH,stepG P main g w=.ended o w2 aH):Form P main g (cut s) (λ_=>(Pure.pure ():Sem Unit)) (λ_=>True) (λa _=>K a) (λa _=>K a) where
 sJ:=λw v w1 es h=>by
  rw[wP]at h;generalize s.runT P w #[]=r at h;obtain⟨r,e⟩:=r;cases r with
  |ok a w=>cases h
  |halt c w=>cases c<;>cases h
 ok:=λ{w x w1 es1 a w2 i}b d _=>by
  cases d;rw[wP]at b;cases cl:s.runT P w #[]with
  |mk r e=>
   rw[cl]at b;cases r with
   |ok a w'=>
    cases b;have⟨aH,j,k⟩:=f _ _ _ _ cl;exact⟨_,j,λe l=>by subst k;exact .inl (n2 (by simpa using l))⟩
   |halt c w'=>cases c<;>cases b
 ql:=λb d=>by cases d
 d1:=λ{w h w1 es1}b hd=>by
  rw[wP]at b;cases cl:s.runT P w #[]with
  |mk r e=>
   rw[cl]at b;cases r with
   |ok a w'=>cases b
   |halt q w'=>exact c _ _ _ _ cl
 d2:=λb d=>by cases d
def iT(P:bF)(main:Bool)(x:bY)(cs:bW)(jump:Option Code)(w:ab):GStep:=match x.roundOf with
 |none=>if jump matches none|some .ret then .go (aJ {x with mode:=.returning} cs) w #[]else .ended (.stuck "exit, goto: no such block or label" (x.pos P)) w
 |some l=>
  let(r,es):=(Instr.endRound l jump).runT P w #[]
  GStep.after (seen P x.fn es)<|match r with
  |.ok v w=>doReturn P main x cs none v w
  |.halt _ w=>.ended (.stuck "range over a function: no such loop" (x.pos P)) w
def aiH(O:C.j1 bZ){l d:Nat}(e:f l=some d){b:Option Code}(i:∀c,b=some c->codeOk C true c=true):aA C (bk C) f (Instr.endRound l b) (Instr.endRound d b):=by
 have h:=O.toOk2;unfold Instr.endRound;refine .ao (Cv h e) λg a a' j r=> ?_;cases r with
 |loop k m n o p s=>
  refine .ao (qi h.toOk (j _ _ e) (.loop k m n o p λc q=>by rw[O.code];exact i c q)) λg1 _ _ l1 _=> ?_;exact .ax (.bool _)
def GL(O:C.j1 bZ)(T:pq tail){x ak:bY}{cs cs':bW}(h:bV C f x ak)(k:cy (bV C f) cs cs')(E:¬wR C x cs)(d:Option Code)(F:∀c,d=some c->codeOk C true c=true)(s:∀w,stepG C.P true (aJ x (cs++ [d0 C.P])) w=iT C.P true x (cs++ [d0 C.P]) d w)(i:∀w,stepG C.b0 main' (aJ ak (cs'++tail)) w=iT C.b0 main' ak (cs'++tail) d w): iS C bZ tail main' f (aJ x (cs++ [d0 C.P])) (aJ ak (cs'++tail)):=by
 have z:=h.round;generalize t:x.roundOf=o at z;generalize m:ak.roundOf=aa at z;cases z with
 |none=>
  have mv:(d=none\/d=some .ret)->iS C bZ tail main' f (aJ x (cs++ [d0 C.P])) (aJ ak (cs'++tail)):=by
   intro B;refine .move (g1:=aJ {x with mode:=.returning} (cs++ [d0 C.P])) (g1':=aJ {ak with mode:=.returning} (cs'++tail)) (λw=> ?_) (λw=> ?_) (.mk (h.y5 .returning) k)
   .rw[s];unfold iT;rw[t];rcases B with rfl|rfl<;>rfl
   .rw[i];unfold iT;rw[m];rcases B with rfl|rfl<;>rfl
  have G:d≠none->d≠some .ret->iS C bZ tail main' f (aJ x (cs++ [d0 C.P])) (aJ ak (cs'++tail)):=by
   intro n p;refine .over (λw=> ?_) (λw=> ?_)
   .rw[s];unfold iT;rw[t];cases d with
    |none=>exact absurd rfl n
    |some c=>cases c<;>first|exact absurd rfl p|exact⟨_,_,_,rfl⟩
   .rw[i];unfold iT;rw[m];cases d with
    |none=>exact absurd rfl n
    |some c=>cases c<;>first|exact absurd rfl p|exact⟨_,_,_,rfl⟩
  by_cases n:d=none
  .exact mv (.inl n)
  .by_cases p:d=some .ret
   .exact mv (.inr p)
   .exact G n p
 |@some l H e=>
  have A:cs'++tail≠[]:=VL k E (by
   rintro rfl w;rw[s];unfold iT;rw[t];dsimp only;generalize(Instr.endRound l d).runT C.P w #[]=r;obtain⟨r,es⟩:=r;cases r with
   |ok v w1=>
    have⟨u,n,p⟩:=VK h (v:=v);refine .inr ⟨u,?_⟩;dsimp only;rw[uP h.plain (GK _ _),n];exact⟨_,_,rfl,p⟩
   |halt D w1=>exact .inl ⟨_,_,_,rfl⟩)
  refine .mk (cut (Instr.endRound l d)) (λ_=>(Pure.pure ():Sem Unit)) (λ_=>True) (λv _=>gP x (cs++ [d0 C.P]) v) (λv _=>gP x (cs++ [d0 C.P]) v) (cut (Instr.endRound H d)) (λ_=>(Pure.pure ():Sem Unit)) (λ_=>True) (λv _=>gP ak (cs'++tail) v) (λv _=>gP ak (cs'++tail) v) (bk C) (λ_ _ _ _ _=>True) (.one (fn:=x.fn) (λw a w1 es q=>⟨#[],?_,rfl⟩) (λw D w1 es q=> ?_)) (.one (fn:=ak.fn) (λw a w1 es q=>⟨#[],?_,rfl⟩) (λw D w1 es q=> ?_)) (aiH O e F).cut ?_
  .rw[s];unfold iT;rw[t];simp only[q];rw[uP h.plain (GK _ _)];rfl
  .rw[s];unfold iT;rw[t];simp only[q];exact⟨_,_,_,rfl⟩
  .rw[i];unfold iT;rw[m];simp only[q];rw[uP (by rw[h.kind];exact h.plain) A];rfl
  .rw[i];unfold iT;rw[m];simp only[q];exact⟨_,_,_,rfl⟩
  .intro g a a' y r;exact⟨.ax trivial,λj b J l1 _=>⟨trivial,trivial,GH (h.mono (y.trans l1)) (k.bo (y.trans l1)) (r.mono l1)⟩,λj v v' l1 _=>GH (h.mono (y.trans l1)) (k.bo (y.trans l1)) (r.mono l1)⟩
def aiI{r:Bool}{l b:eQ}(h:fH C r f l b)(i:Nat):(exitTo i l=none/\exitTo i b=none)\/(exitTo i l=none/\r=false)\/∃u c,exitTo i l=some u/\exitTo i b=some c/\fH C r f u c:=by
 induction h with
 |nil=>exact .inl ⟨rfl,rfl⟩
 |cons r q a=>
  cases r with
  |inBlock j=>
   simp only[exitTo];split
   .exact .inr (.inr ⟨_,_,rfl,rfl,q⟩)
   .exact a
  |_=>exact a
 |cut _ _ a=>exact a
 |wall d e g=>exact .inr (.inl ⟨rfl,d⟩)
def aiJ{g:Bool}{c r:Code}{l:Nat}(h:codeOk C g c=true)(e:findLabel c l=some r):codeOk C g r=true:=by
 induction c generalizing r with
 |seq a b d f=>
  simp only[codeOk,cu]at h;simp only[findLabel]at e;cases e1:findLabel a l with
  |none=>rw[e1]at e;exact f h.2 e
  |some q=>rw[e1]at e;cases e;simp only[codeOk,cu];exact⟨d h.1 e1,h.2⟩
 |label m=>simp only[findLabel]at e;split at e<;>cases e;rfl
 |_=>simp[findLabel]at e
def aiK{b:Bool}{l c:eQ}(h:fH C b f l c)(i:Nat):(gotoIn i l=none/\gotoIn i c=none)\/(gotoIn i l=none/\b=false)\/∃u d,gotoIn i l=some u/\gotoIn i c=some d/\fH C b f u d:=by
 induction h with
 |nil=>exact .inl ⟨rfl,rfl⟩
 |cons r q a=>
  cases r with
  |inScope g=>
   simp only[gotoIn];cases e:findLabel _ i with
   |none=>exact a
   |some u=>exact .inr (.inr ⟨_,_,rfl,rfl,.cons (.code (aiJ g e)) (.cons (.inScope g) q)⟩)
  |_=>exact a
 |cut _ _ a=>exact a
 |wall j k m=>exact .inr (.inl ⟨rfl,j⟩)
def aiL{x ak:bY}(h:bV C f x ak)(G:b1 C f)(o:Operand)(ap:dF C o=true):aB C.fn f (x.eval o) (ak.eval o):=by
 cases o with
 |tmp t=>exact h.tmps.getD t .undef
 |const v=>exact .flat ap
 |global g=>
  simp only[dF,cu,Eg]at ap;exact cp.val ⟨g,G g U (λ_=>ap.2),rfl⟩
 |func n=>exact .func (.same ap ag) ag rfl (λi v v' h=>by simp at h) rfl (λi v v' h=>by simp at h)
end
end Go.Ren
