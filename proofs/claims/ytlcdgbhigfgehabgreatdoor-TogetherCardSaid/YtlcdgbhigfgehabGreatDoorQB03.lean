import Derived.Test.YtlcdgbhigfgehabGreatDoorQB00
import Derived.Test.YtlcdgbhigfgehabGreatDoorQB02
import Derived.Stop.Asserts
import Derived.LaidEql
import Derived.RowKitTokens
import Derived.Conc.MuLone
import Derived.IntWalk
set_option linter.all false
set_option maxRecDepth 100000
set_option maxHeartbeats 16000000
namespace Go.Proofs.YtlcdgbhigfgehabGreatDoor
open Go.RowKit Go.Extern.Stop Go.Stop Go.Extern
def dp(w:ab):Prop:=w.cell? ⟨0,0,none⟩=some (.iface 205 (.agg #[.pointer (some ⟨2,60,none⟩)]))
def Si(t:ai)(w:ab): Calls aj.prog 33 #[.nilIface,t] w λe w'=>e=.returned (.bool false)/\w=w':=by
 go_enter aj.func33,Tryz.ntmps33;go_wp2;go_ret;exact⟨rfl,rfl⟩
def E6(z:Sem ai)(f:TypeId->Addr->Nat->Nat->Sem ai)(v:ai): ReflectliteValue.method z f #[v]=(do match<-ReflectliteValue.parts v with|none=>z|some (t,a,E7)=>f t a E7 (E7 % 32)):=rfl
def Sj(v x:ai):ReflectliteValue.set #[v,x]=(do
  let(some (dst,a,E7),some (src,b,_)):=(<-ReflectliteValue.parts v,<-ReflectliteValue.parts x)
   |unsupported (.noEntry "extern/(internal/reflectlite.Value).Set.zeroValue")
  if E7 / ReflectliteValue.flagAddr % 2==0 then unsupported (.noEntry "extern/(internal/reflectlite.Value).Set.unaddressable")
  let val<-loadVar src b
  if<-Rtype.directlyAssignable dst src then storeVar dst a val
  else if<-Rtype.implements dst src then
   if(<-Rtype.kind src)==20 then
    match val with
    |.nilIface=>unsupported (.noEntry "extern/reflectlite: a nil value of one interface type handed on as a value of another")
    |_=>storeVar dst a val
   else storeVar dst a (.iface src val)
  else panicString ("reflectlite.Set: value of type " ++ (<-Rtype.spelt src)++ " is not assignable to type " ++ (<-Rtype.spelt dst))
  pure (.tuple #[])):=rfl
def J0(x:ai)(w:ab):(Go.method 411 205 (.agg #[x]) "Kind").run aj.prog w=.ok (174,x) w:=ah
def J1(x:ai)(w:ab):(Go.method 411 205 (.agg #[x]) "Elem").run aj.prog w=.ok (186,.agg #[x]) w:=ah
def J2(x:ai)(w:ab):(Go.method 411 205 (.agg #[x]) "Implements").run aj.prog w=.ok (187,.agg #[x]) w:=ah
def J3(x:ai)(w:ab):(Go.method 411 205 (.agg #[x]) "AssignableTo").run aj.prog w=.ok (184,.agg #[x]) w:=ah
def Sk(t:Addr)(w:ab):(ReflectliteValue.unpack (.iface 86 (.pointer (some t)))).run aj.prog w =.ok (.agg #[.pointer (some ⟨2,86,none⟩),.pointer (some ⟨w.heap.size,0,none⟩),.int .u64 150]) (w.alloc (.cells #[.pointer (some t)] 86)):=ah
def Sl(a:Addr)(w:ab):(ReflectliteValue.methodAny (ReflectliteValue.valueError "reflectlite.Value.Type" 0) (λt _ _ _=>ReflectliteType.toType t) #[.agg #[.pointer (some ⟨2,86,none⟩),.pointer (some a),.int .u64 150]]).run aj.prog w =.ok (.iface 205 (.agg #[.pointer (some ⟨2,86,none⟩)])) w:=ah
def Sm(w:ab):((ReflectliteType.abiMethod λt=>(λa:Nat=>Value.int IntKind.u8 (a:Int))<$>Rtype.kind t) #[.pointer (some ⟨2,86,none⟩)]).run aj.prog w=.ok (.int .u8 22) w:=ah
def Sn(w:ab):((ReflectliteType.abiMethod λt=>(λa:Nat=>Value.int IntKind.u8 (a:Int))<$>Rtype.kind t) #[.pointer (some ⟨2,84,none⟩)]).run aj.prog w=.ok (.int .u8 22) w:=ah
def So(a:Addr)(w:ab):(ReflectliteValue.parts (.agg #[.pointer (some ⟨2,86,none⟩),.pointer (some a),.int .u64 150])).run aj.prog w=.ok (some (86,a,150)) w:=ah
def Sp(a p:Addr)(W:ab)(b:W.cell? a=some (.pointer (some p))): (ReflectliteValue.method (ReflectliteValue.valueError "reflectlite.Value.IsNil" 0) ReflectliteValue.isNil #[.agg #[.pointer (some ⟨2,86,none⟩),.pointer (some a),.int .u64 150]]).run aj.prog W=.ok (.bool false) W:=by
 rw[E6];simp only[Sem.run_bind,So,Result.andThen];simp[ReflectliteValue.isNil,loadVar,isAgg,underlying,aj.underlying86,b,Result.andThen]
def Sq(w:ab):(ReflectliteType.method ReflectliteType.elem #[.agg #[.pointer (some ⟨2,86,none⟩)]]).run aj.prog w=.ok (.iface 205 (.agg #[.pointer (some ⟨2,84,none⟩)])) w:=ah
def Sr(w:ab):(ReflectliteType.relation "Implements" ReflectliteType.implements_ #[.agg #[.pointer (some ⟨2,84,none⟩)],.iface 205 (.agg #[.pointer (some ⟨2,60,none⟩)])]).run aj.prog w=.ok (.bool true) w:=ah
def acm(v:ai)(w:ab):(ReflectliteType.typeOf #[.iface 84 v]).run aj.prog w=.ok (.iface 205 (.agg #[.pointer (some ⟨2,84,none⟩)])) w:=ah
def acn(w:ab):(ReflectliteType.relation "AssignableTo" ReflectliteType.assignableTo #[.agg #[.pointer (some ⟨2,84,none⟩)],.iface 205 (.agg #[.pointer (some ⟨2,84,none⟩)])]).run aj.prog w=.ok (.bool true) w:=ah
def aco(w:ab):(Rtype.elem? 86).run aj.prog w=.ok (some 84) w:=ah
def acp(p:Addr)(w:ab):(ReflectliteValue.mk 84 p ReflectliteValue.flagAddr).run aj.prog w=.ok (.agg #[.pointer (some ⟨2,84,none⟩),.pointer (some p),.int .u64 406]) w:=ah
def acr(a p:Addr)(W:ab)(b:W.cell? a=some (.pointer (some p))): (ReflectliteValue.method (ReflectliteValue.valueError "reflectlite.Value.Elem" 0) ReflectliteValue.elem #[.agg #[.pointer (some ⟨2,86,none⟩),.pointer (some a),.int .u64 150]]).run aj.prog W =.ok (.agg #[.pointer (some ⟨2,84,none⟩),.pointer (some p),.int .u64 406]) W:=by
 rw[E6];simp only[Sem.run_bind,So,Result.andThen];simp[ReflectliteValue.elem,loadVar,isAgg,underlying,aj.underlying86,b,Result.andThen,aco,acp]
def acs(a:Addr)(w:ab):(ReflectliteValue.parts (.agg #[.pointer (some ⟨2,84,none⟩),.pointer (some a),.int .u64 406])).run aj.prog w=.ok (some (84,a,406)) w:=ah
def acu(a:Addr)(w:ab):(ReflectliteValue.parts (.agg #[.pointer (some ⟨2,84,none⟩),.pointer (some a),.int .u64 150])).run aj.prog w=.ok (some (84,a,150)) w:=ah
def acv(w:ab):(Rtype.directlyAssignable 84 84).run aj.prog w=.ok true w:=ah
def acw(t:Addr)(w:ab):(ReflectliteValue.unpack (.iface 89 (.pointer (some t)))).run aj.prog w =.ok (.agg #[.pointer (some ⟨2,89,none⟩),.pointer (some ⟨w.heap.size,0,none⟩),.int .u64 150]) (w.alloc (.cells #[.pointer (some t)] 89)):=ah
def acx(a:Addr)(w:ab):(ReflectliteValue.methodAny (ReflectliteValue.valueError "reflectlite.Value.Type" 0) (λt _ _ _=>ReflectliteType.toType t) #[.agg #[.pointer (some ⟨2,89,none⟩),.pointer (some a),.int .u64 150]]).run aj.prog w =.ok (.iface 205 (.agg #[.pointer (some ⟨2,89,none⟩)])) w:=ah
def acy(w:ab):((ReflectliteType.abiMethod λt=>(λa:Nat=>Value.int IntKind.u8 (a:Int))<$>Rtype.kind t) #[.pointer (some ⟨2,89,none⟩)]).run aj.prog w=.ok (.int .u8 22) w:=ah
def acz(w:ab):((ReflectliteType.abiMethod λt=>(λa:Nat=>Value.int IntKind.u8 (a:Int))<$>Rtype.kind t) #[.pointer (some ⟨2,30,none⟩)]).run aj.prog w=.ok (.int .u8 2) w:=ah
def Ss(a:Addr)(w:ab):(ReflectliteValue.parts (.agg #[.pointer (some ⟨2,89,none⟩),.pointer (some a),.int .u64 150])).run aj.prog w=.ok (some (89,a,150)) w:=ah
def acA(a p:Addr)(W:ab)(b:W.cell? a=some (.pointer (some p))): (ReflectliteValue.method (ReflectliteValue.valueError "reflectlite.Value.IsNil" 0) ReflectliteValue.isNil #[.agg #[.pointer (some ⟨2,89,none⟩),.pointer (some a),.int .u64 150]]).run aj.prog W=.ok (.bool false) W:=by
 rw[E6];simp only[Sem.run_bind,Ss,Result.andThen];simp[ReflectliteValue.isNil,loadVar,isAgg,underlying,aj.underlying89,b,Result.andThen]
def acB(w:ab):(ReflectliteType.method ReflectliteType.elem #[.agg #[.pointer (some ⟨2,89,none⟩)]]).run aj.prog w=.ok (.iface 205 (.agg #[.pointer (some ⟨2,30,none⟩)])) w:=ah
def acC(w:ab):(ReflectliteType.relation "Implements" ReflectliteType.implements_ #[.agg #[.pointer (some ⟨2,30,none⟩)],.iface 205 (.agg #[.pointer (some ⟨2,60,none⟩)])]).run aj.prog w=.ok (.bool true) w:=ah
def St(v:ai)(w:ab):(ReflectliteType.typeOf #[.iface 30 v]).run aj.prog w=.ok (.iface 205 (.agg #[.pointer (some ⟨2,30,none⟩)])) w:=ah
def acD(w:ab):(ReflectliteType.relation "AssignableTo" ReflectliteType.assignableTo #[.agg #[.pointer (some ⟨2,30,none⟩)],.iface 205 (.agg #[.pointer (some ⟨2,30,none⟩)])]).run aj.prog w=.ok (.bool true) w:=ah
def acE(w:ab):(Rtype.elem? 89).run aj.prog w=.ok (some 30) w:=ah
def acF(p:Addr)(w:ab):(ReflectliteValue.mk 30 p ReflectliteValue.flagAddr).run aj.prog w=.ok (.agg #[.pointer (some ⟨2,30,none⟩),.pointer (some p),.int .u64 386]) w:=ah
def acG(a p:Addr)(W:ab)(b:W.cell? a=some (.pointer (some p))): (ReflectliteValue.method (ReflectliteValue.valueError "reflectlite.Value.Elem" 0) ReflectliteValue.elem #[.agg #[.pointer (some ⟨2,89,none⟩),.pointer (some a),.int .u64 150]]).run aj.prog W =.ok (.agg #[.pointer (some ⟨2,30,none⟩),.pointer (some p),.int .u64 386]) W:=by
 rw[E6];simp only[Sem.run_bind,Ss,Result.andThen];simp[ReflectliteValue.elem,loadVar,isAgg,underlying,aj.underlying89,b,Result.andThen,acE,acF]
def acH(a:Addr)(w:ab):(ReflectliteValue.parts (.agg #[.pointer (some ⟨2,30,none⟩),.pointer (some a),.int .u64 386])).run aj.prog w=.ok (some (30,a,386)) w:=ah
def acI(a:Addr)(w:ab):(ReflectliteValue.parts (.agg #[.pointer (some ⟨2,30,none⟩),.pointer (some a),.int .u64 130])).run aj.prog w=.ok (some (30,a,130)) w:=ah
def acJ(w:ab):(Rtype.directlyAssignable 30 30).run aj.prog w=.ok true w:=ah
end Go.Proofs.YtlcdgbhigfgehabGreatDoor
namespace Go.Proofs.YtlcdgbhigfgehabGreatDoor
open Go.RowKit Go.Extern.Stop Go.Stop Go.Extern
def acK(e:Addr)(w:ab):(ReflectliteValue.unpack (.iface 84 (.pointer (some e)))).run aj.prog w =.ok (.agg #[.pointer (some ⟨2,84,none⟩),.pointer (some ⟨w.heap.size,0,none⟩),.int .u64 150]) (w.alloc (.cells #[.pointer (some e)] 84)):=ah
def acL(aT b:Addr)(e:Addr)(old:ai)(W:ab)(a:W.cell? b=some (.pointer (some e)))(c:W.cell? aT=some old)(d:W.frozen? aT=false): (ReflectliteValue.set #[.agg #[.pointer (some ⟨2,84,none⟩),.pointer (some aT),.int .u64 406],.agg #[.pointer (some ⟨2,84,none⟩),.pointer (some b),.int .u64 150]]).run aj.prog W =.ok (.tuple #[]) (W.setCell aT (.pointer (some e))):=by
 rw[Sj];simp only[Sem.run_bind,acs,acu,Result.andThen];simp[ReflectliteValue.flagAddr,loadVar,isAgg,underlying,aj.underlying84,a,Result.andThen,acv,storeVar,Value.cells,storeCells,Addr.add];rw[run_store aj.prog W aT _ _ eI];simp[c,d]
def yj(w:ab)(t:Addr):ab:=((w.alloc (.cells #[.pointer (some t)] 86)).alloc (.cells #[.pointer (some ⟨2,86,none⟩),.pointer (some ⟨w.heap.size,0,none⟩),.int .u64 150] 132)).alloc (.cells #[.pointer (some ⟨2,86,none⟩),.pointer (some ⟨w.heap.size,0,none⟩),.int .u64 150] 132)
def acM(e:Addr)(t:Addr)(old:ai)(w:ab)(c:dp w)(a:w.cell? t=some old)(d:w.frozen? t=false): Calls aj.prog 33 #[.iface 84 (.pointer (some e)),.iface 86 (.pointer (some t))] w λaH w'=>aH=.returned (.bool true)/\w'=((yj w t).alloc (.cells #[.pointer (some e)] 84)).setCell t (.pointer (some e)):=by
 unfold dp at c;unfold yj;have x:=@run_callFunc_extern aj.prog 60 _ (λargs=>ReflectliteValue.unpack (args.getD 0 (.tuple #[]))) aj.func60 ah ah ah ah;have y:=@run_callFunc_extern aj.prog 61 _ (ReflectliteValue.methodAny (ReflectliteValue.valueError "reflectlite.Value.Type" 0) (λt _ _ _=>ReflectliteType.toType t)) aj.func61 ah ah ah ah;have z:=@run_callFunc_extern aj.prog 62 _ (ReflectliteValue.method (ReflectliteValue.valueError "reflectlite.Value.IsNil" 0) ReflectliteValue.isNil) aj.func62 ah ah ah ah;have g:=@run_callFunc_extern aj.prog 174 _ (ReflectliteType.abiMethod λt=>do pure (.int .u8 (<-Rtype.kind t))) aj.func174 ah ah ah ah;have i:=@run_callFunc_extern aj.prog 186 _ (ReflectliteType.method ReflectliteType.elem) aj.func186 ah ah ah ah;have j:=@run_callFunc_extern aj.prog 187 _ (ReflectliteType.relation "Implements" ReflectliteType.implements_) aj.func187 ah ah ah ah;have k:=@run_callFunc_extern aj.prog 108 _ ReflectliteType.typeOf aj.func108 ah ah ah ah;have l:=@run_callFunc_extern aj.prog 184 _ (ReflectliteType.relation "AssignableTo" ReflectliteType.assignableTo) aj.func184 ah ah ah ah;have m:=@run_callFunc_extern aj.prog 109 _ (ReflectliteValue.method (ReflectliteValue.valueError "reflectlite.Value.Elem" 0) ReflectliteValue.elem) aj.func109 ah ah ah ah;have n:=@run_callFunc_extern aj.prog 110 _ ReflectliteValue.set aj.func110 ah ah ah ah;have A:=acm;have B:=J3;have o:=acn;have p:=acK;have C:=Sk;have D:=Sl;have E:=J0;have F:=J1;have G:=J2;have q:=Sm;have r:=Sn;have s:=Sq;have u:=Sr;have H:=Sp ⟨w.heap.size,0,none⟩ t ((w.alloc (.cells #[.pointer (some t)] 86)).alloc (.cells #[.pointer (some ⟨2,86,none⟩),.pointer (some ⟨w.heap.size,0,none⟩),.int .u64 150] 132)) ag;have f:0<w.heap.size:=by
  rcases dH 0 w.heap.size with h|h
  .exact h
  .simp[World.cell?,oz h]at c
 have v:((w.alloc (.cells #[.pointer (some t)] 86)).alloc (.cells #[.pointer (some ⟨2,86,none⟩),.pointer (some ⟨w.heap.size,0,none⟩),.int .u64 150] 132)).cell? ⟨0,0,none⟩=some (.iface 205 (.agg #[.pointer (some ⟨2,60,none⟩)])):=(by rw[World.cell?_alloc_lt _ _ ⟨0,0,none⟩ (by first|(simp;done)|(simp;omega)),World.cell?_alloc_lt _ _ ⟨0,0,none⟩ f];exact c);have b:t.block<w.heap.size:=by
  rcases dH t.block w.heap.size with h|h
  .exact h
  .simp[World.cell?,oz h]at a
 have aa:=acr ⟨w.heap.size,0,none⟩ t (((w.alloc (.cells #[.pointer (some t)] 86)).alloc (.cells #[.pointer (some ⟨2,86,none⟩),.pointer (some ⟨w.heap.size,0,none⟩),.int .u64 150] 132)).alloc (.cells #[.pointer (some ⟨2,86,none⟩),.pointer (some ⟨w.heap.size,0,none⟩),.int .u64 150] 132)) (by rw[World.cell?_alloc_lt _ _ ⟨w.heap.size,0,none⟩ a5,World.cell?_alloc_lt _ _ ⟨w.heap.size,0,none⟩ ag,World.cell?_alloc_new];try rfl);have J:=acL t ⟨w.heap.size+1+1+1,0,none⟩ e old ((((w.alloc (.cells #[.pointer (some t)] 86)).alloc (.cells #[.pointer (some ⟨2,86,none⟩),.pointer (some ⟨w.heap.size,0,none⟩),.int .u64 150] 132)).alloc (.cells #[.pointer (some ⟨2,86,none⟩),.pointer (some ⟨w.heap.size,0,none⟩),.int .u64 150] 132)).alloc (.cells #[.pointer (some e)] 84)) (by rw[World.cell?_alloc_at _ _ _ _ ag];try rfl) (by rw[World.cell?_alloc_lt _ _ t a5,World.cell?_alloc_lt _ _ t a5,World.cell?_alloc_lt _ _ t a5,World.cell?_alloc_lt _ _ t b];exact a) (by rw[World.frozen?_alloc_old _ _ t a5,World.frozen?_alloc_old _ _ t a5,World.frozen?_alloc_old _ _ t a5,World.frozen?_alloc_old _ _ t (Nat.ne_of_lt b)];exact d);go_enter aj.func33,Tryz.ntmps33;go_wp2;refine wp_loop_rounds 1 ?_;rw[rounds_succ];go_wp2;go_ret;exact⟨rfl,rfl⟩
def acN(e:Int)(w:ab):(ReflectliteValue.unpack (.iface 30 (.int .i64 e))).run aj.prog w =.ok (.agg #[.pointer (some ⟨2,30,none⟩),.pointer (some ⟨w.heap.size,0,none⟩),.int .u64 130]) (w.alloc (.cells #[.int .i64 e] 30)):=ah
def acO(aT b:Addr)(e:Int)(old:ai)(W:ab)(a:W.cell? b=some (.int .i64 e))(c:W.cell? aT=some old)(d:W.frozen? aT=false): (ReflectliteValue.set #[.agg #[.pointer (some ⟨2,30,none⟩),.pointer (some aT),.int .u64 386],.agg #[.pointer (some ⟨2,30,none⟩),.pointer (some b),.int .u64 130]]).run aj.prog W =.ok (.tuple #[]) (W.setCell aT (.int .i64 e)):=by
 rw[Sj];simp only[Sem.run_bind,acH,acI,Result.andThen];simp[ReflectliteValue.flagAddr,loadVar,isAgg,underlying,aj.underlying30,a,Result.andThen,acJ,storeVar,Value.cells,storeCells,Addr.add];rw[run_store aj.prog W aT _ _ eI];simp[c,d]
def E8(w:ab)(t:Addr):ab:=((w.alloc (.cells #[.pointer (some t)] 89)).alloc (.cells #[.pointer (some ⟨2,89,none⟩),.pointer (some ⟨w.heap.size,0,none⟩),.int .u64 150] 132)).alloc (.cells #[.pointer (some ⟨2,89,none⟩),.pointer (some ⟨w.heap.size,0,none⟩),.int .u64 150] 132)
def acP(e:Int)(t:Addr)(old:ai)(w:ab)(c:dp w)(a:w.cell? t=some old)(d:w.frozen? t=false): Calls aj.prog 33 #[.iface 30 (.int .i64 e),.iface 89 (.pointer (some t))] w λaH w'=>aH=.returned (.bool true)/\w'=((E8 w t).alloc (.cells #[.int .i64 e] 30)).setCell t (.int .i64 e):=by
 unfold dp at c;unfold E8;have x:=@run_callFunc_extern aj.prog 60 _ (λargs=>ReflectliteValue.unpack (args.getD 0 (.tuple #[]))) aj.func60 ah ah ah ah;have y:=@run_callFunc_extern aj.prog 61 _ (ReflectliteValue.methodAny (ReflectliteValue.valueError "reflectlite.Value.Type" 0) (λt _ _ _=>ReflectliteType.toType t)) aj.func61 ah ah ah ah;have z:=@run_callFunc_extern aj.prog 62 _ (ReflectliteValue.method (ReflectliteValue.valueError "reflectlite.Value.IsNil" 0) ReflectliteValue.isNil) aj.func62 ah ah ah ah;have g:=@run_callFunc_extern aj.prog 174 _ (ReflectliteType.abiMethod λt=>do pure (.int .u8 (<-Rtype.kind t))) aj.func174 ah ah ah ah;have i:=@run_callFunc_extern aj.prog 186 _ (ReflectliteType.method ReflectliteType.elem) aj.func186 ah ah ah ah;have j:=@run_callFunc_extern aj.prog 187 _ (ReflectliteType.relation "Implements" ReflectliteType.implements_) aj.func187 ah ah ah ah;have k:=@run_callFunc_extern aj.prog 108 _ ReflectliteType.typeOf aj.func108 ah ah ah ah;have l:=@run_callFunc_extern aj.prog 184 _ (ReflectliteType.relation "AssignableTo" ReflectliteType.assignableTo) aj.func184 ah ah ah ah;have m:=@run_callFunc_extern aj.prog 109 _ (ReflectliteValue.method (ReflectliteValue.valueError "reflectlite.Value.Elem" 0) ReflectliteValue.elem) aj.func109 ah ah ah ah;have n:=@run_callFunc_extern aj.prog 110 _ ReflectliteValue.set aj.func110 ah ah ah ah;have A:=St;have B:=J3;have o:=acD;have p:=acN;have C:=acw;have D:=acx;have E:=J0;have F:=J1;have G:=J2;have q:=acy;have r:=acz;have s:=acB;have u:=acC;have H:=acA ⟨w.heap.size,0,none⟩ t ((w.alloc (.cells #[.pointer (some t)] 89)).alloc (.cells #[.pointer (some ⟨2,89,none⟩),.pointer (some ⟨w.heap.size,0,none⟩),.int .u64 150] 132)) ag;have f:0<w.heap.size:=by
  rcases dH 0 w.heap.size with h|h
  .exact h
  .simp[World.cell?,oz h]at c
 have v:((w.alloc (.cells #[.pointer (some t)] 89)).alloc (.cells #[.pointer (some ⟨2,89,none⟩),.pointer (some ⟨w.heap.size,0,none⟩),.int .u64 150] 132)).cell? ⟨0,0,none⟩=some (.iface 205 (.agg #[.pointer (some ⟨2,60,none⟩)])):=(by rw[World.cell?_alloc_lt _ _ ⟨0,0,none⟩ (by first|(simp;done)|(simp;omega)),World.cell?_alloc_lt _ _ ⟨0,0,none⟩ f];exact c);have b:t.block<w.heap.size:=by
  rcases dH t.block w.heap.size with h|h
  .exact h
  .simp[World.cell?,oz h]at a
 have aa:=acG ⟨w.heap.size,0,none⟩ t (((w.alloc (.cells #[.pointer (some t)] 89)).alloc (.cells #[.pointer (some ⟨2,89,none⟩),.pointer (some ⟨w.heap.size,0,none⟩),.int .u64 150] 132)).alloc (.cells #[.pointer (some ⟨2,89,none⟩),.pointer (some ⟨w.heap.size,0,none⟩),.int .u64 150] 132)) (by rw[World.cell?_alloc_lt _ _ ⟨w.heap.size,0,none⟩ a5,World.cell?_alloc_lt _ _ ⟨w.heap.size,0,none⟩ ag,World.cell?_alloc_new];try rfl);have J:=acO t ⟨w.heap.size+1+1+1,0,none⟩ e old ((((w.alloc (.cells #[.pointer (some t)] 89)).alloc (.cells #[.pointer (some ⟨2,89,none⟩),.pointer (some ⟨w.heap.size,0,none⟩),.int .u64 150] 132)).alloc (.cells #[.pointer (some ⟨2,89,none⟩),.pointer (some ⟨w.heap.size,0,none⟩),.int .u64 150] 132)).alloc (.cells #[.int .i64 e] 30)) (by rw[World.cell?_alloc_at _ _ _ _ ag];try rfl) (by rw[World.cell?_alloc_lt _ _ t a5,World.cell?_alloc_lt _ _ t a5,World.cell?_alloc_lt _ _ t a5,World.cell?_alloc_lt _ _ t b];exact a) (by rw[World.frozen?_alloc_old _ _ t a5,World.frozen?_alloc_old _ _ t a5,World.frozen?_alloc_old _ _ t a5,World.frozen?_alloc_old _ _ t (Nat.ne_of_lt b)];exact d);go_enter aj.func33,Tryz.ntmps33;go_wp2;refine wp_loop_rounds 1 ?_;rw[rounds_succ];go_wp2;go_ret;exact⟨rfl,rfl⟩
end Go.Proofs.YtlcdgbhigfgehabGreatDoor
namespace Go.Proofs.YtlcdgbhigfgehabGreatDoor
open Go.RowKit Go.Extern.Stop Go.Stop Go.Extern
def acQ(w:ab):(ReflectliteType.relation "AssignableTo" ReflectliteType.assignableTo #[.agg #[.pointer (some ⟨2,30,none⟩)],.iface 205 (.agg #[.pointer (some ⟨2,84,none⟩)])]).run aj.prog w=.ok (.bool false) w:=ah
def acR(v:ai)(w:ab):(Instr.typeAssert (.iface 30 v) 60 210 true).run aj.prog w=.ok (.tuple #[.nilIface,.bool false]) w:=run_typeAssert_lacksB aj.underlying210 ah ah v 60 w
def acS(v:ai)(w:ab):(Instr.typeAssert (.iface 30 v) 60 213 true).run aj.prog w=.ok (.tuple #[.nilIface,.bool false]) w:=run_typeAssert_lacksB aj.underlying213 ah ah v 60 w
def acT(v:ai)(w:ab):(Instr.typeAssert (.iface 30 v) 60 215 true).run aj.prog w=.ok (.tuple #[.nilIface,.bool false]) w:=run_typeAssert_lacksB aj.underlying215 ah ah v 60 w
def acU(e:Int)(t:Addr)(w:ab)(a:dp w): Calls aj.prog 33 #[.iface 30 (.int .i64 e),.iface 86 (.pointer (some t))] w λaH w'=>aH=.returned (.bool false)/\w'=yj w t:=by
 unfold dp at a;unfold yj;have p:=@run_callFunc_extern aj.prog 60 _ (λargs=>ReflectliteValue.unpack (args.getD 0 (.tuple #[]))) aj.func60 ah ah ah ah;have q:=@run_callFunc_extern aj.prog 61 _ (ReflectliteValue.methodAny (ReflectliteValue.valueError "reflectlite.Value.Type" 0) (λt _ _ _=>ReflectliteType.toType t)) aj.func61 ah ah ah ah;have r:=@run_callFunc_extern aj.prog 62 _ (ReflectliteValue.method (ReflectliteValue.valueError "reflectlite.Value.IsNil" 0) ReflectliteValue.isNil) aj.func62 ah ah ah ah;have c:=@run_callFunc_extern aj.prog 174 _ (ReflectliteType.abiMethod λt=>do pure (.int .u8 (<-Rtype.kind t))) aj.func174 ah ah ah ah;have d:=@run_callFunc_extern aj.prog 186 _ (ReflectliteType.method ReflectliteType.elem) aj.func186 ah ah ah ah;have f:=@run_callFunc_extern aj.prog 187 _ (ReflectliteType.relation "Implements" ReflectliteType.implements_) aj.func187 ah ah ah ah;have g:=@run_callFunc_extern aj.prog 108 _ ReflectliteType.typeOf aj.func108 ah ah ah ah;have i:=@run_callFunc_extern aj.prog 184 _ (ReflectliteType.relation "AssignableTo" ReflectliteType.assignableTo) aj.func184 ah ah ah ah;have s:=St;have u:=J3;have j:=acQ;have v:=Sk;have x:=Sl;have y:=J0;have z:=J1;have A:=J2;have k:=Sm;have l:=Sn;have m:=Sq;have n:=Sr;have B:=acR;have C:=acS;have D:=acT;have E:=Sp ⟨w.heap.size,0,none⟩ t ((w.alloc (.cells #[.pointer (some t)] 86)).alloc (.cells #[.pointer (some ⟨2,86,none⟩),.pointer (some ⟨w.heap.size,0,none⟩),.int .u64 150] 132)) ag;have b:0<w.heap.size:=by
  rcases dH 0 w.heap.size with h|h
  .exact h
  .simp[World.cell?,oz h]at a
 have o:((w.alloc (.cells #[.pointer (some t)] 86)).alloc (.cells #[.pointer (some ⟨2,86,none⟩),.pointer (some ⟨w.heap.size,0,none⟩),.int .u64 150] 132)).cell? ⟨0,0,none⟩=some (.iface 205 (.agg #[.pointer (some ⟨2,60,none⟩)])):=(by rw[World.cell?_alloc_lt _ _ ⟨0,0,none⟩ (by first|(simp;done)|(simp;omega)),World.cell?_alloc_lt _ _ ⟨0,0,none⟩ b];exact a);go_enter aj.func33,Tryz.ntmps33;go_wp2;refine wp_loop_rounds 1 ?_;rw[rounds_succ];go_wp2;go_ret;exact⟨rfl,rfl⟩
end Go.Proofs.YtlcdgbhigfgehabGreatDoor
namespace Go.Proofs.YtlcdgbhigfgehabGreatDoor
open Go
abbrev Bo:Unit:=()
def adz:aj.Ay.ntmps=7:=rfl
def adA:aj.Az.ntmps=7:=rfl
def lock_free(_:Unit)(a:Addr)(w:ab)(b:w.cell? a=some (.int .i32 0))(c:w.frozen? a=false): Calls aj.prog 34 #[.pointer (some a)] w λe w'=>e=.returned (.tuple #[])/\w'=w.setCell a (.int .i32 1):=by
 go_enter aj.func34,adz;simp only[aj.Ay,aj.swap,aj.op];go_wp2;go_end0
 exact⟨rfl,rfl⟩
def unlock_deferred(_:Unit)(a:Addr)(u:FrameMode)(w:ab)(c:w.cell? a=some (.int .i32 1))(d:w.frozen? a=false): CallsD aj.prog 35 #[.pointer (some a)] u w λe b w'=>b=u/\(e=.returned (.tuple #[])/\w'=w.setCell a (.int .i32 0)):=by
 go_enter_d aj.func35,adA
 simp only[aj.Az,aj.swap,aj.op];go_wp2;go_end0
 exact⟨rfl,rfl⟩
end Go.Proofs.YtlcdgbhigfgehabGreatDoor
namespace Go.Proofs.YtlcdgbhigfgehabGreatDoor
open Go.RowKit

def ph(c n:Int):Int:=(if c<0 then -(c+1)else c) % n
def KZ(c n:Int)(a:0<n):0<=ph c n/\ph c n<n:=by
 unfold ph;exact⟨Int.emod_nonneg _ U,Int.emod_lt_of_pos _ a⟩
def af2(c n:Int)(w:ab)(d:0<n)(k: -9223372036854775808<=c)(l:c<=9223372036854775807)(g:n<=9223372036854775807): Calls aj.prog 16 #[.int .i64 c,.int .i64 n] w λe w'=>e=.returned (.int .i64 (ph c n))/\w=w':=by
 by_cases b:c<0
 .have a:ph c n=(-(c+1)).tmod n:=(by unfold ph;rw[aV b];exact(Int.tmod_eq_emod_of_nonneg U).symm);have h:wrap64 (c+1)=c+1:=IntWalk.wrap64_in _ U;have i:wrap64 (-(c+1))= -(c+1):=IntWalk.wrap64_in _ U;have j:=KZ c n d;have f:=Lib.hid a;clear a;go_enter aj.func16,Tryz.ntmps16;go_wp2_with fail;go_ret;exact⟨by rw[f.out,Int.neg_tmod];rfl,rfl⟩
 .have a:ph c n=c.tmod n:=(by unfold ph;rw[aC b];exact(Int.tmod_eq_emod_of_nonneg U).symm);have j:=KZ c n d;have f:=Lib.hid a;clear a;go_enter aj.func16,Tryz.ntmps16;go_wp2_with fail;go_ret;exact⟨by unfold ph;rw[aC (Int.not_lt.2 b)];rfl,rfl⟩
end Go.Proofs.YtlcdgbhigfgehabGreatDoor
