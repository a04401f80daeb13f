import Derived.Test.YtlcdgbhigfgehabGreatDoorQ00
import Derived.Conc.HoldsTime
import Derived.LoneHanded
import Derived.Handed
import Derived.Deep.DeepHandedRow
import Derived.Deep.DeepWitnessRowRef
import Derived.SevenTiedAt
set_option linter.all false
set_option maxRecDepth 100000
set_option maxHeartbeats 16000000
namespace Go.Proofs.YtlcdgbhigfgehabGreatDoor
open Go Go.Conc Go.ConcM
section
variable{H:Type}{enc:TypeId×Value->H}
def att{C:Checked}{os:Os}{f:FuncId}{fn:Func}{s:OpenSpec}{b:List PathCond}{c:Bool}{d:List (String×DataW Unit)}(w0:ab)(args:aQ)(h:w0.os=os)(j:(w0.forCall (λ_ _=>0) ⟨#[],args,[]⟩).variablesRefB C.prog=true)(k:((w0.forCall (λ_ _=>0) ⟨#[],args,[]⟩).heap.toList.drop C.prog.globals.size).take ((begin C.prog (λ_ _=>0) default).world.heap.size - C.prog.globals.size)=(begin C.prog (λ_ _=>0) default).world.heap.toList.drop C.prog.globals.size)(e:Input.okWideB C.prog (w0.forCall (λ_ _=>0) ⟨#[],args,[]⟩) f ⟨#[],args,[]⟩=true)(g:s.preRow enc C.prog fn b c d (w0.forCall (λ_ _=>0) ⟨#[],args,[]⟩).memory args): ∃(w:ab)(a:Tape)(i:Input),w.os=os/\(w.forCall a i).Shaped C.prog/\i.vars=[]/\Input.okWide C.prog (w.forCall a i) .any w.heap.size f i/\s.preRow enc C.prog fn b c d (w.forCall a i).memory i.args/\({calm:=true}:Assume).holds C.prog (lone (Frame.enter C.prog f i.args .normal) [] (w.forCall a i)):=⟨w0,λ_ _=>0,⟨#[],args,[]⟩,h,World.shaped_of_RefB j k,(Input.okWide_of_okWideB (base:=0) e).1,(Input.okWide_of_okWideB e).2,g,by
  simp only[Assume.holds];exact⟨ag,λ_ _ _ _=>rfl,ag,ag,ag⟩⟩
end
def atu(i:Looks)(g:Bool){p:Pinned}{s:OpenSpec}{c:OpenClaim}(kinds:List LaidKind)(a:Bool)(b:Bool×String)(d:Bool)(m:c.holds p s)(n:c.wfByText s=true)(e:c.laidByTextAt i p kinds a)(k:c.start=.entering)(l:c.noBlocks=false/\c.again=false)(o:p.checked.prog.mainIs=some (b.1,b.2.toList))(q:(!b.1 && b.2.isEmpty && !d)=false)(u:∀f fn,p.checked.prog.funcNamed c.func=some f->p.checked.prog.funcs[f]? =some fn->d=p.checked.prog.looks []/\∀(j:Nat)t,fn.params[j]? =some t->p.checked.prog.wantsStandIn t=false)(v:g=c.goesBy p.checked.prog): Claim7.holds p (.plain s) {stood:={row:=c,standIns:=[],harness:=b,looks:=d},kinds:=[],alts:=[],goes:=g,laidByText:=true,laidKinds:=kinds,laidTests:=a,laidLooks:=i}:=by
 have w:∀r:OpenClaim,Claim7.isSixth {stood:={row:=r,standIns:=[],harness:=b,looks:=d},kinds:=[]}=false:=λr=>(by simpa[Claim7.isSixth]using q);exact⟨Claim7.tied_new_at i kinds a (Claim7.new_of_sixth m b d k l o (w c) u) n,λD x=>(by cases x),e,(λh=>by cases h),v⟩
end Go.Proofs.YtlcdgbhigfgehabGreatDoor
