import Derived.Test.YtlcdgbhigfgehabGreatDoorQ00
import Derived.Laws.Sem
import Derived.Test.YtlcdgbhigfgehabGreatDoorRows
import Derived.KernelRfl
set_option linter.all false
set_option maxRecDepth 100000
set_option maxHeartbeats 16000000
namespace Go.Proofs.aj
open Go
def I3(T:Tables)(c:Array (String×TypeId)):∀n,Made.infoAt {T with cutTypes:=c} n=Made.infoAt T n:=by
 intro n;induction n with
 |zero=>rfl
 |succ n a=>funext t;simp only[Made.infoAt,a]
def I4(T:Tables)(c:Array (String×TypeId))(t:TypeId):Tables.info? {T with cutTypes:=c} t=T.info? t:=by
 unfold Tables.info?;rw[I3]
section
variable(P:Program)(dk:Array Func)(oZ:Array (String×TypeId))(n:Nat)(w:World)
def En:Tables.info? (Program.toTables {P with funcs:=dk,cutTypes:=oZ}) n=P.info? n:=I4 P.toTables oZ n
def Q9:Program.underlying {P with funcs:=dk,cutTypes:=oZ} n=P.underlying n:=by
 unfold Program.underlying;rw[En P dk oZ n];have:∀u,Tables.info? (Program.toTables {P with funcs:=dk,cutTypes:=oZ}) u=P.info? u:=λu=>En P dk oZ u;simp only[this]
def Ra:(underlying n).run {P with funcs:=dk,cutTypes:=oZ} w=(underlying n).run P w:=by
 unfold Go.underlying;rw[Sem.run_bind,Sem.run_bind,run_program,run_program];simp only[Result.andThen_ok];rw[Q9];generalize P.underlying n=r;cases r<;>simp only[Sem.run_pure,run_stuck]
def aae:(isAgg n).run {P with funcs:=dk,cutTypes:=oZ} w=(isAgg n).run P w:=by
 unfold Go.isAgg;rw[Sem.run_bind,Sem.run_bind,Ra];congr 1;funext d w;cases d<;>rfl
def Rb:(typeInfo n).run {P with funcs:=dk,cutTypes:=oZ} w=(typeInfo n).run P w:=by
 unfold typeInfo;rw[Sem.run_bind,Sem.run_bind,run_program,run_program];simp only[Result.andThen_ok];rw[En P dk oZ n];generalize P.info? n=r;cases r<;>rfl
def aaf:(Go.sizeOf n).run {P with funcs:=dk,cutTypes:=oZ} w=(Go.sizeOf n).run P w:=by
 unfold Go.sizeOf;rw[Sem.run_bind,Sem.run_bind,Rb];rfl
def aag:(zeroValue n).run {P with funcs:=dk,cutTypes:=oZ} w=(zeroValue n).run P w:=by
 unfold Go.zeroValue;rw[Sem.run_bind,Sem.run_bind,Rb];congr 1;funext i w;generalize i.zero=r;cases r<;>rfl
end
end Go.Proofs.aj
namespace Go.Proofs.aj
open Go

def op(d:Option Tmp)(o:Op):Oper:={dst:=d,op:=o,type:=0,pos:= "",after:= #[],guard:=none}
def swap(a b:Int):Code:=.seq (.region 0 #[op (some 2) (.binOp .eql 142 (.tmp 0) (.const (.pointer none)) 4)] false) (.cond (.tmp 2) (.refuse "") (.seq (.region 1 #[op (some 3) (.fieldAddr 96 (.tmp 0) 1),op (some 4) (.fieldAddr 94 (.tmp 3) 0),op (some 5) (.load 21 (.tmp 4)),op (some 6) (.binOp .eql 21 (.tmp 5) (.const (.int .i32 a)) 4)] false) (.cond (.tmp 6) (.region 2 #[op none (.store 21 (.tmp 4) (.const (.int .i32 b)))] false) (.refuse ""))))
noncomputable def Ay:Func:={Tryz.f34 with ntmps:=7,body:=some (swap 0 1)}
noncomputable def Az:Func:={Tryz.f35 with ntmps:=7,body:=some (swap 1 0)}
noncomputable def prog:bF:={Tryz.prog with funcs:=(Tryz.funcs.setIfInBounds 34 Ay).setIfInBounds 35 Az,cutTypes:=Tryz.prog.cutTypes.filter λx=>x.1 != "*internal/reflectlite.ValueError"}
@[simp] def atO:prog.toTables.goVersion=Tryz.prog.toTables.goVersion:=rfl
@[simp] def atP:prog.toTables.platform=Tryz.prog.toTables.platform:=rfl
@[simp] def atQ:prog.toTables.initOrder=Tryz.prog.toTables.initOrder:=rfl
@[simp] def atS:prog.toTables.godebug=Tryz.prog.toTables.godebug:=rfl
@[simp] def atT:prog.toTables.types=Tryz.prog.toTables.types:=rfl
@[simp] def atU:prog.toTables.rt=Tryz.prog.toTables.rt:=rfl
@[simp] def atV:prog.toTables.globals=Tryz.prog.toTables.globals:=rfl
@[simp] def atW:prog.toTables.inits=Tryz.prog.toTables.inits:=rfl
@[simp] def atX:prog.toTables.main=Tryz.prog.toTables.main:=rfl
@[simp] def atY:prog.toTables.follow=Tryz.prog.toTables.follow:=rfl
@[simp] def oi(n:Nat):prog.info? n=Tryz.prog.info? n:=En Tryz.prog _ _ n
section
variable(n:Nat)(w:World)
@[simp] def eF:prog.underlying n=Tryz.prog.underlying n:=Q9 Tryz.prog _ _ n
@[simp] def atZ:(underlying n).run prog w=(underlying n).run Tryz.prog w:=Ra Tryz.prog _ _ n w
@[simp] def aah:(Go.sizeOf n).run prog w=(Go.sizeOf n).run Tryz.prog w:=aaf Tryz.prog _ _ n w
@[simp] def aai:(isAgg n).run prog w=(isAgg n).run Tryz.prog w:=aae Tryz.prog _ _ n w
@[simp] def at0:(zeroValue n).run prog w=(zeroValue n).run Tryz.prog w:=aag Tryz.prog _ _ n w
end
def cf(n:Nat)(h:n≠34)(a:n≠35):prog.funcs[n]? =Tryz.prog.funcs[n]? :=by
 unfold prog;simp only[hL];rw[aC (ed a),aC (ed h)];rfl
def cE {n:Nat} {F:Func} (h:prog.funcs[n]? =some F) (b:(F.name== "runtime.NumGoroutine")=false) (c:F.body.isNone=false) (a:aQ) (w:ab):(callFunc n a).run prog w=.ok (.enter n a) w:=by
 unfold callFunc Go.program;simp only[Bind.bind,Sem.bind,Sem.run,h,b,c];rfl
@[simp] def func9:prog.funcs[9]? =some Tryz.f9:=(cf 9 aE aE).trans Tryz.func9
@[simp] def func12:prog.funcs[12]? =some Tryz.f12:=(cf 12 aE aE).trans Tryz.func12
@[simp] def func13:prog.funcs[13]? =some Tryz.f13:=(cf 13 aE aE).trans Tryz.func13
@[simp] def func14:prog.funcs[14]? =some Tryz.f14:=(cf 14 aE aE).trans Tryz.func14
@[simp] def func15:prog.funcs[15]? =some Tryz.f15:=(cf 15 aE aE).trans Tryz.func15
@[simp] def func16:prog.funcs[16]? =some Tryz.f16:=(cf 16 aE aE).trans Tryz.func16
@[simp] def func17:prog.funcs[17]? =some Tryz.f17:=(cf 17 aE aE).trans Tryz.func17
@[simp] def func19:prog.funcs[19]? =some Tryz.f19:=(cf 19 aE aE).trans Tryz.func19
@[simp] def func22:prog.funcs[22]? =some Tryz.f22:=(cf 22 aE aE).trans Tryz.func22
@[simp] def func23:prog.funcs[23]? =some Tryz.f23:=(cf 23 aE aE).trans Tryz.func23
@[simp] def func24:prog.funcs[24]? =some Tryz.f24:=(cf 24 aE aE).trans Tryz.func24
@[simp] def func25:prog.funcs[25]? =some Tryz.f25:=(cf 25 aE aE).trans Tryz.func25
@[simp] def func26:prog.funcs[26]? =some Tryz.f26:=(cf 26 aE aE).trans Tryz.func26
@[simp] def func28:prog.funcs[28]? =some Tryz.f28:=(cf 28 aE aE).trans Tryz.func28
@[simp] def func33:prog.funcs[33]? =some Tryz.f33:=(cf 33 aE aE).trans Tryz.func33
@[simp] def func34:prog.funcs[34]? =some Ay:=ah
@[simp] def func35:prog.funcs[35]? =some Az:=ah
@[simp] def func36:prog.funcs[36]? =some Tryz.f36:=(cf 36 aE aE).trans Tryz.func36
@[simp] def func37:prog.funcs[37]? =some Tryz.f37:=(cf 37 aE aE).trans Tryz.func37
@[simp] def func38:prog.funcs[38]? =some Tryz.f38:=(cf 38 aE aE).trans Tryz.func38
@[simp] def func39:prog.funcs[39]? =some Tryz.f39:=(cf 39 aE aE).trans Tryz.func39
@[simp] def func40:prog.funcs[40]? =some Tryz.f40:=(cf 40 aE aE).trans Tryz.func40
@[simp] def func41:prog.funcs[41]? =some Tryz.f41:=(cf 41 aE aE).trans Tryz.func41
@[simp] def func42:prog.funcs[42]? =some Tryz.f42:=(cf 42 aE aE).trans Tryz.func42
@[simp] def func43:prog.funcs[43]? =some Tryz.f43:=(cf 43 aE aE).trans Tryz.func43
@[simp] def func44:prog.funcs[44]? =some Tryz.f44:=(cf 44 aE aE).trans Tryz.func44
@[simp] def func45:prog.funcs[45]? =some Tryz.f45:=(cf 45 aE aE).trans Tryz.func45
@[simp] def func46:prog.funcs[46]? =some Tryz.f46:=(cf 46 aE aE).trans Tryz.func46
@[simp] def func47:prog.funcs[47]? =some Tryz.f47:=(cf 47 aE aE).trans Tryz.func47
@[simp] def func60:prog.funcs[60]? =some Tryz.f60:=(cf 60 aE aE).trans Tryz.func60
@[simp] def func61:prog.funcs[61]? =some Tryz.f61:=(cf 61 aE aE).trans Tryz.func61
@[simp] def func62:prog.funcs[62]? =some Tryz.f62:=(cf 62 aE aE).trans Tryz.func62
@[simp] def func63:prog.funcs[63]? =some Tryz.f63:=(cf 63 aE aE).trans Tryz.func63
@[simp] def func66:prog.funcs[66]? =some Tryz.f66:=(cf 66 aE aE).trans Tryz.func66
@[simp] def func67:prog.funcs[67]? =some Tryz.f67:=(cf 67 aE aE).trans Tryz.func67
@[simp] def func68:prog.funcs[68]? =some Tryz.f68:=(cf 68 aE aE).trans Tryz.func68
@[simp] def func69:prog.funcs[69]? =some Tryz.f69:=(cf 69 aE aE).trans Tryz.func69
@[simp] def func70:prog.funcs[70]? =some Tryz.f70:=(cf 70 aE aE).trans Tryz.func70
@[simp] def func71:prog.funcs[71]? =some Tryz.f71:=(cf 71 aE aE).trans Tryz.func71
@[simp] def func72:prog.funcs[72]? =some Tryz.f72:=(cf 72 aE aE).trans Tryz.func72
@[simp] def func73:prog.funcs[73]? =some Tryz.f73:=(cf 73 aE aE).trans Tryz.func73
@[simp] def func74:prog.funcs[74]? =some Tryz.f74:=(cf 74 aE aE).trans Tryz.func74
@[simp] def func75:prog.funcs[75]? =some Tryz.f75:=(cf 75 aE aE).trans Tryz.func75
@[simp] def func76:prog.funcs[76]? =some Tryz.f76:=(cf 76 aE aE).trans Tryz.func76
@[simp] def func77:prog.funcs[77]? =some Tryz.f77:=(cf 77 aE aE).trans Tryz.func77
@[simp] def func78:prog.funcs[78]? =some Tryz.f78:=(cf 78 aE aE).trans Tryz.func78
@[simp] def func108:prog.funcs[108]? =some Tryz.f108:=(cf 108 aE aE).trans Tryz.func108
@[simp] def func109:prog.funcs[109]? =some Tryz.f109:=(cf 109 aE aE).trans Tryz.func109
@[simp] def func110:prog.funcs[110]? =some Tryz.f110:=(cf 110 aE aE).trans Tryz.func110
@[simp] def func115:prog.funcs[115]? =some Tryz.f115:=(cf 115 aE aE).trans Tryz.func115
@[simp] def func116:prog.funcs[116]? =some Tryz.f116:=(cf 116 aE aE).trans Tryz.func116
@[simp] def func117:prog.funcs[117]? =some Tryz.f117:=(cf 117 aE aE).trans Tryz.func117
@[simp] def func118:prog.funcs[118]? =some Tryz.f118:=(cf 118 aE aE).trans Tryz.func118
@[simp] def func119:prog.funcs[119]? =some Tryz.f119:=(cf 119 aE aE).trans Tryz.func119
@[simp] def func120:prog.funcs[120]? =some Tryz.f120:=(cf 120 aE aE).trans Tryz.func120
@[simp] def func121:prog.funcs[121]? =some Tryz.f121:=(cf 121 aE aE).trans Tryz.func121
@[simp] def func122:prog.funcs[122]? =some Tryz.f122:=(cf 122 aE aE).trans Tryz.func122
@[simp] def func123:prog.funcs[123]? =some Tryz.f123:=(cf 123 aE aE).trans Tryz.func123
@[simp] def func124:prog.funcs[124]? =some Tryz.f124:=(cf 124 aE aE).trans Tryz.func124
@[simp] def func125:prog.funcs[125]? =some Tryz.f125:=(cf 125 aE aE).trans Tryz.func125
@[simp] def func126:prog.funcs[126]? =some Tryz.f126:=(cf 126 aE aE).trans Tryz.func126
@[simp] def func148:prog.funcs[148]? =some Tryz.f148:=(cf 148 aE aE).trans Tryz.func148
@[simp] def func149:prog.funcs[149]? =some Tryz.f149:=(cf 149 aE aE).trans Tryz.func149
@[simp] def func157:prog.funcs[157]? =some Tryz.f157:=(cf 157 aE aE).trans Tryz.func157
@[simp] def func174:prog.funcs[174]? =some Tryz.f174:=(cf 174 aE aE).trans Tryz.func174
@[simp] def func184:prog.funcs[184]? =some Tryz.f184:=(cf 184 aE aE).trans Tryz.func184
@[simp] def func186:prog.funcs[186]? =some Tryz.f186:=(cf 186 aE aE).trans Tryz.func186
@[simp] def func187:prog.funcs[187]? =some Tryz.f187:=(cf 187 aE aE).trans Tryz.func187
@[simp] def call9(a:aQ)(w:ab):(callFunc 9 a).run prog w=.ok (.enter 9 a) w:=cE func9 ah ah a w
@[simp] def call12(a:aQ)(w:ab):(callFunc 12 a).run prog w=.ok (.enter 12 a) w:=cE func12 ah ah a w
@[simp] def call13(a:aQ)(w:ab):(callFunc 13 a).run prog w=.ok (.enter 13 a) w:=cE func13 ah ah a w
@[simp] def call14(a:aQ)(w:ab):(callFunc 14 a).run prog w=.ok (.enter 14 a) w:=cE func14 ah ah a w
@[simp] def call15(a:aQ)(w:ab):(callFunc 15 a).run prog w=.ok (.enter 15 a) w:=cE func15 ah ah a w
@[simp] def call16(a:aQ)(w:ab):(callFunc 16 a).run prog w=.ok (.enter 16 a) w:=cE func16 ah ah a w
@[simp] def call17(a:aQ)(w:ab):(callFunc 17 a).run prog w=.ok (.enter 17 a) w:=cE func17 ah ah a w
@[simp] def call19(a:aQ)(w:ab):(callFunc 19 a).run prog w=.ok (.enter 19 a) w:=cE func19 ah ah a w
@[simp] def call22(a:aQ)(w:ab):(callFunc 22 a).run prog w=.ok (.enter 22 a) w:=cE func22 ah ah a w
@[simp] def call23(a:aQ)(w:ab):(callFunc 23 a).run prog w=.ok (.enter 23 a) w:=cE func23 ah ah a w
@[simp] def call24(a:aQ)(w:ab):(callFunc 24 a).run prog w=.ok (.enter 24 a) w:=cE func24 ah ah a w
@[simp] def call25(a:aQ)(w:ab):(callFunc 25 a).run prog w=.ok (.enter 25 a) w:=cE func25 ah ah a w
@[simp] def call26(a:aQ)(w:ab):(callFunc 26 a).run prog w=.ok (.enter 26 a) w:=cE func26 ah ah a w
@[simp] def call28(a:aQ)(w:ab):(callFunc 28 a).run prog w=.ok (.enter 28 a) w:=cE func28 ah ah a w
@[simp] def call33(a:aQ)(w:ab):(callFunc 33 a).run prog w=.ok (.enter 33 a) w:=cE func33 ah ah a w
@[simp] def call34(a:aQ)(w:ab):(callFunc 34 a).run prog w=.ok (.enter 34 a) w:=cE func34 ah ah a w
@[simp] def call35(a:aQ)(w:ab):(callFunc 35 a).run prog w=.ok (.enter 35 a) w:=cE func35 ah ah a w
@[simp] def call36(a:aQ)(w:ab):(callFunc 36 a).run prog w=.ok (.enter 36 a) w:=cE func36 ah ah a w
@[simp] def call37(a:aQ)(w:ab):(callFunc 37 a).run prog w=.ok (.enter 37 a) w:=cE func37 ah ah a w
@[simp] def call39(a:aQ)(w:ab):(callFunc 39 a).run prog w=.ok (.enter 39 a) w:=cE func39 ah ah a w
@[simp] def call40(a:aQ)(w:ab):(callFunc 40 a).run prog w=.ok (.enter 40 a) w:=cE func40 ah ah a w
@[simp] def call41(a:aQ)(w:ab):(callFunc 41 a).run prog w=.ok (.enter 41 a) w:=cE func41 ah ah a w
@[simp] def call42(a:aQ)(w:ab):(callFunc 42 a).run prog w=.ok (.enter 42 a) w:=cE func42 ah ah a w
@[simp] def call43(a:aQ)(w:ab):(callFunc 43 a).run prog w=.ok (.enter 43 a) w:=cE func43 ah ah a w
@[simp] def call44(a:aQ)(w:ab):(callFunc 44 a).run prog w=.ok (.enter 44 a) w:=cE func44 ah ah a w
@[simp] def call45(a:aQ)(w:ab):(callFunc 45 a).run prog w=.ok (.enter 45 a) w:=cE func45 ah ah a w
@[simp] def call46(a:aQ)(w:ab):(callFunc 46 a).run prog w=.ok (.enter 46 a) w:=cE func46 ah ah a w
@[simp] def call47(a:aQ)(w:ab):(callFunc 47 a).run prog w=.ok (.enter 47 a) w:=cE func47 ah ah a w
@[simp] def call63(a:aQ)(w:ab):(callFunc 63 a).run prog w=.ok (.enter 63 a) w:=cE func63 ah ah a w
@[simp] def call66(a:aQ)(w:ab):(callFunc 66 a).run prog w=.ok (.enter 66 a) w:=cE func66 ah ah a w
@[simp] def call67(a:aQ)(w:ab):(callFunc 67 a).run prog w=.ok (.enter 67 a) w:=cE func67 ah ah a w
@[simp] def call68(a:aQ)(w:ab):(callFunc 68 a).run prog w=.ok (.enter 68 a) w:=cE func68 ah ah a w
@[simp] def call69(a:aQ)(w:ab):(callFunc 69 a).run prog w=.ok (.enter 69 a) w:=cE func69 ah ah a w
@[simp] def call70(a:aQ)(w:ab):(callFunc 70 a).run prog w=.ok (.enter 70 a) w:=cE func70 ah ah a w
@[simp] def call71(a:aQ)(w:ab):(callFunc 71 a).run prog w=.ok (.enter 71 a) w:=cE func71 ah ah a w
@[simp] def call72(a:aQ)(w:ab):(callFunc 72 a).run prog w=.ok (.enter 72 a) w:=cE func72 ah ah a w
@[simp] def call73(a:aQ)(w:ab):(callFunc 73 a).run prog w=.ok (.enter 73 a) w:=cE func73 ah ah a w
@[simp] def call74(a:aQ)(w:ab):(callFunc 74 a).run prog w=.ok (.enter 74 a) w:=cE func74 ah ah a w
@[simp] def call75(a:aQ)(w:ab):(callFunc 75 a).run prog w=.ok (.enter 75 a) w:=cE func75 ah ah a w
@[simp] def call76(a:aQ)(w:ab):(callFunc 76 a).run prog w=.ok (.enter 76 a) w:=cE func76 ah ah a w
@[simp] def call77(a:aQ)(w:ab):(callFunc 77 a).run prog w=.ok (.enter 77 a) w:=cE func77 ah ah a w
@[simp] def call78(a:aQ)(w:ab):(callFunc 78 a).run prog w=.ok (.enter 78 a) w:=cE func78 ah ah a w
@[simp] def call115(a:aQ)(w:ab):(callFunc 115 a).run prog w=.ok (.enter 115 a) w:=cE func115 ah ah a w
@[simp] def call116(a:aQ)(w:ab):(callFunc 116 a).run prog w=.ok (.enter 116 a) w:=cE func116 ah ah a w
@[simp] def call117(a:aQ)(w:ab):(callFunc 117 a).run prog w=.ok (.enter 117 a) w:=cE func117 ah ah a w
@[simp] def call118(a:aQ)(w:ab):(callFunc 118 a).run prog w=.ok (.enter 118 a) w:=cE func118 ah ah a w
@[simp] def call119(a:aQ)(w:ab):(callFunc 119 a).run prog w=.ok (.enter 119 a) w:=cE func119 ah ah a w
@[simp] def call120(a:aQ)(w:ab):(callFunc 120 a).run prog w=.ok (.enter 120 a) w:=cE func120 ah ah a w
@[simp] def call121(a:aQ)(w:ab):(callFunc 121 a).run prog w=.ok (.enter 121 a) w:=cE func121 ah ah a w
@[simp] def call122(a:aQ)(w:ab):(callFunc 122 a).run prog w=.ok (.enter 122 a) w:=cE func122 ah ah a w
@[simp] def call123(a:aQ)(w:ab):(callFunc 123 a).run prog w=.ok (.enter 123 a) w:=cE func123 ah ah a w
@[simp] def call124(a:aQ)(w:ab):(callFunc 124 a).run prog w=.ok (.enter 124 a) w:=cE func124 ah ah a w
@[simp] def call125(a:aQ)(w:ab):(callFunc 125 a).run prog w=.ok (.enter 125 a) w:=cE func125 ah ah a w
@[simp] def call126(a:aQ)(w:ab):(callFunc 126 a).run prog w=.ok (.enter 126 a) w:=cE func126 ah ah a w
@[simp] def call148(a:aQ)(w:ab):(callFunc 148 a).run prog w=.ok (.enter 148 a) w:=cE func148 ah ah a w
@[simp] def call149(a:aQ)(w:ab):(callFunc 149 a).run prog w=.ok (.enter 149 a) w:=cE func149 ah ah a w
def ntmps63:type_of% Tryz.ntmps63:=Tryz.ntmps63
def underlying5:prog.underlying 5=some (TypeDesc.int IntKind.u8):=(eF 5).trans Tryz.underlying5
def underlying9:prog.underlying 9=some TypeDesc.string:=(eF 9).trans Tryz.underlying9
def underlying23:prog.underlying 23=some (TypeDesc.slice 37):=(eF 23).trans Tryz.underlying23
def underlying25:prog.underlying 25=some (TypeDesc.slice 5):=(eF 25).trans Tryz.underlying25
def underlying30:prog.underlying 30=some (TypeDesc.int IntKind.i64):=(eF 30).trans Tryz.underlying30
def underlying55:prog.underlying 55=some (TypeDesc.slice 3):=(eF 55).trans Tryz.underlying55
def underlying84:prog.underlying 84=some (TypeDesc.pointer 88):=(eF 84).trans Tryz.underlying84
def underlying86:prog.underlying 86=some (TypeDesc.pointer 84):=(eF 86).trans Tryz.underlying86
def underlying89:prog.underlying 89=some (TypeDesc.pointer 30):=(eF 89).trans Tryz.underlying89
def underlying92:prog.underlying 92=some (TypeDesc.int IntKind.u32):=(eF 92).trans Tryz.underlying92
def underlying112:prog.underlying 112=some (TypeDesc.int IntKind.u64):=(eF 112).trans Tryz.underlying112
def underlying143:prog.underlying 143=some (TypeDesc.slice 152):=(eF 143).trans Tryz.underlying143
def underlying144:prog.underlying 144=some (TypeDesc.slice 155):=(eF 144).trans Tryz.underlying144
def underlying150:prog.underlying 150=some (TypeDesc.map 9 25):=(eF 150).trans Tryz.underlying150
def underlying152:prog.underlying 152=some (TypeDesc.struct #[{name:= "Name",type:=9,offset:=0,embedded:=false,tag:= "",pkgPath:= "",byteOffset:=0},{name:= "Size",type:=3,offset:=1,embedded:=false,tag:= "",pkgPath:= "",byteOffset:=16},{name:= "Digest",type:=112,offset:=2,embedded:=false,tag:= "",pkgPath:= "",byteOffset:=24}]):=(eF 152).trans Tryz.underlying152
def underlying153:prog.underlying 153=some (TypeDesc.slice 171):=(eF 153).trans Tryz.underlying153
def underlying210:prog.underlying 210=some (TypeDesc.interface #[("As",212)]):=(eF 210).trans Tryz.underlying210
def underlying213:prog.underlying 213=some (TypeDesc.interface #[("Unwrap",214)]):=(eF 213).trans Tryz.underlying213
def underlying215:prog.underlying 215=some (TypeDesc.interface #[("Unwrap",216)]):=(eF 215).trans Tryz.underlying215
def underlying228:prog.underlying 228=some (TypeDesc.map 9 3):=(eF 228).trans Tryz.underlying228
def underlying257:prog.underlying 257=some (TypeDesc.map 264 55):=(eF 257).trans Tryz.underlying257
def underlying258:prog.underlying 258=some (TypeDesc.map 92 3):=(eF 258).trans Tryz.underlying258
def underlying264:prog.underlying 264=some (TypeDesc.struct #[{name:= "weak",type:=92,offset:=0,embedded:=false,tag:= "",pkgPath:= "mirror/delta",byteOffset:=0},{name:= "strong",type:=112,offset:=1,embedded:=false,tag:= "",pkgPath:= "mirror/delta",byteOffset:=8}]):=(eF 264).trans Tryz.underlying264
end Go.Proofs.aj
