import Derived.Test.YtlcdgbhigfgehabGreatDoorQA04
import Derived.Conc.MuWords
set_option linter.all false
set_option maxRecDepth 100000
set_option maxHeartbeats 16000000
namespace Go.aS
open Go
def a6.enc(x:a6):Int:=(x.bC.toNat+2*x.wk.toNat+4*x.a4.toNat+8*x.q:Nat)
def hY(b:Bool)(k:Int):Int:=if b then k else 0
def akR:∀(q:Fin 32)(l w s:Bool),bits .and .i32 (a6.enc ⟨l,w,s,q⟩) 5=hY l 1+hY s 4:=hR
def akS:∀(q:Fin 32)(l w s:Bool),bits .and .i32 (a6.enc ⟨l,w,s,q⟩) 1=hY l 1:=hR
def akT:∀(q:Fin 32)(l w s:Bool),bits .and .i32 (a6.enc ⟨l,w,s,q⟩) 2=hY w 2:=hR
def akU:∀(q:Fin 32)(l w s:Bool),bits .and .i32 (a6.enc ⟨l,w,s,q⟩) 3=hY l 1+hY w 2:=hR
def akV:∀(q:Fin 32)(l w s:Bool),bits .and .i32 (a6.enc ⟨l,w,s,q⟩) 4=hY s 4:=hR
def akW:∀(q:Fin 32)(l w s:Bool),bits .and .i32 (a6.enc ⟨l,w,s,q⟩) 7=hY l 1+hY w 2+hY s 4:=hR
def akX:∀(q:Fin 32)(l w s:Bool),bits .or .i32 (a6.enc ⟨l,w,s,q⟩) 1=a6.enc ⟨true,w,s,q⟩:=hR
def akY:∀(q:Fin 32)(l w s:Bool),bits .or .i32 (a6.enc ⟨l,w,s,q⟩) 2=a6.enc ⟨l,true,s,q⟩:=hR
def akZ:∀(q:Fin 32)(l w s:Bool),bits .or .i32 (a6.enc ⟨l,w,s,q⟩) 4=a6.enc ⟨l,w,true,q⟩:=hR
def ak0:∀(q:Fin 32)(l w s:Bool),bits .andNot .i32 (a6.enc ⟨l,w,s,q⟩) 2=a6.enc ⟨l,false,s,q⟩:=hR
def a6.Hp{x y:a6}(h:x.enc=y.enc):x=y:=by
 obtain⟨a,b,c,d⟩:=x;obtain⟨a',e,f,d'⟩:=y;simp only[a6.enc]at h;cases a<;>cases b<;>cases c<;>cases a'<;>cases e<;>cases f<;>simp at h⊢<;>omega
section
variable{x:a6}
def OE(h:x.q<32):bits .and .i32 x.enc 5=hY x.bC 1+hY x.a4 4:=akR ⟨x.q,h⟩ x.bC x.wk x.a4
def WT(h:x.q<32):bits .and .i32 x.enc 1=hY x.bC 1:=akS ⟨x.q,h⟩ x.bC x.wk x.a4
def Di(h:x.q<32):bits .and .i32 x.enc 2=hY x.wk 2:=akT ⟨x.q,h⟩ x.bC x.wk x.a4
def ak1(h:x.q<32):bits .and .i32 x.enc 3=hY x.bC 1+hY x.wk 2:=akU ⟨x.q,h⟩ x.bC x.wk x.a4
def Hq(h:x.q<32):bits .and .i32 x.enc 4=hY x.a4 4:=akV ⟨x.q,h⟩ x.bC x.wk x.a4
def ak2(h:x.q<32):bits .and .i32 x.enc 7=hY x.bC 1+hY x.wk 2+hY x.a4 4:=akW ⟨x.q,h⟩ x.bC x.wk x.a4
def WU(h:x.q<32):bits .or .i32 x.enc 1=a6.enc {x with bC:=true}:=akX ⟨x.q,h⟩ x.bC x.wk x.a4
def WV(h:x.q<32):bits .or .i32 x.enc 2=a6.enc {x with wk:=true}:=akY ⟨x.q,h⟩ x.bC x.wk x.a4
def WW(h:x.q<32):bits .or .i32 x.enc 4=a6.enc {x with a4:=true}:=akZ ⟨x.q,h⟩ x.bC x.wk x.a4
def Hr(h:x.q<32):bits .andNot .i32 x.enc 2=a6.enc {x with wk:=false}:=ak0 ⟨x.q,h⟩ x.bC x.wk x.a4
end
end Go.aS
