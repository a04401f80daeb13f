import Derived.Test.YtlcdgbhigfgehabGreatDoorQB03
import Derived.Test.YtlcdgbhigfgehabGreatDoorCards
import Derived.Test.YtlcdgbhigfgehabGreatDoorTie
import Derived.ProofKit
import Derived.OpenShut
import Derived.ShutString
import Derived.ChangeOld
import Derived.LaidHandle
import Derived.Deep.DeepHandedRow
import Derived.SevenTiedAt
import Derived.Deep.DeepWitnessRowRef
import Derived.LaidLaws
set_option linter.all false
set_option maxRecDepth 100000
set_option maxHeartbeats 16000000
namespace Go.Proofs.YtlcdgbhigfgehabGreatDoor
open Go.ChangeShapes Go.WideShapes Go.ChangeAt Go.RowKit
def atv:ownKnob Tryz.prog.godebug=none:=ah
def ZQ:laidOutB Tryz.prog=true:=ah
def atw:Tryz.prog.globalNamed "errors.errorType" =some 0:=ah
def awH:(Tryz.prog.cutTypes.find? (·.1== "internal/reflectlite.rtype")).map (·.2)=some 205:=ah
def atx:((List.range 311).filter λt=>Tryz.prog.rowNamed t [101,114,114,111,114])=[60]:=ah
def aty:Tryz.prog.types.size=311:=ah
def atz:typeHandle Tryz.prog 60=.pointer (some ⟨2,60,none⟩):=ah
def atA {W:ab} {l:List (String×DataW Unit)} (c:("errors.errorType",Rows.laid_errors_errorType)∈l) (d:handlesMet Tryz.prog l W):dp W:=by
 have⟨name,u,e,ay,aF,f,g,a⟩:=d _ c;have h:name=[101,114,114,111,114]:=(kz ay).symm;subst h;obtain rfl:=kz (awH.symm.trans aF);have b:e∈(List.range 311).filter λt=>Tryz.prog.rowNamed t [101,114,114,111,114]:=List.mem_filter.2 ⟨uY.2 (by rw[<-aty];exact f),g⟩;rw[atx]at b;obtain rfl:=bK.1 b;rw[atz]at a;simpa[dp]using World.var?_cell atw a 0
noncomputable def atB(os:Os):ab:=
 let w0:=World.holding Tryz.prog os ⟨#[],#[],[]⟩
 {w0 with heap:=w0.heap.modify 0 fun
   |.cells _ t frozen=>.cells #[.iface 205 (.agg #[.pointer (some ⟨2,60,none⟩)])] t frozen
   |o=>o}
end Go.Proofs.YtlcdgbhigfgehabGreatDoor
namespace Go.Proofs.YtlcdgbhigfgehabGreatDoor
open Go.ChangeShapes Go.WideShapes Go.ChangeAt Go.RowKit
def awI:Tryz.prog.globalNamed "mirror/batch.errForm" =some 1:=ah
def awJ:(Tryz.prog.globals[1]?).map (·.type)=some 60:=ah
def atC {W:ab} (h:laidMetH Tryz.prog [("errors.errorType",Rows.laid_errors_errorType),("mirror/batch.errForm",Rows.laid_mirror_batch_errForm)] W):dp W:=by
 have a:laidMet Tryz.prog [("mirror/batch.errForm",Rows.laid_mirror_batch_errForm)] W/\handlesMet Tryz.prog [("errors.errorType",Rows.laid_errors_errorType)] W:=h;exact atA (bK.2 rfl) a.2
def atD {W:ab} (h:laidMetH Tryz.prog [("errors.errorType",Rows.laid_errors_errorType),("mirror/batch.errForm",Rows.laid_mirror_batch_errForm)] W):il W:=by
 have f:laidMet Tryz.prog [("mirror/batch.errForm",Rows.laid_mirror_batch_errForm)] W/\handlesMet Tryz.prog [("errors.errorType",Rows.laid_errors_errorType)] W:=h;have⟨ps,⟨g1,i,g,j,k,l,a,b,c,d,_,_⟩,_,_⟩:=f.1;obtain rfl:=kz (awI.symm.trans a);obtain rfl:=kz (awJ.symm.trans b);have⟨_,u,v,e,_,_⟩:=iface_of_trod Tryz.underlying60 d;refine⟨u,v,?_⟩;have:=World.var?_cell a c 0;rw[Array.eq_one_of_toList e]at this;simpa using this
noncomputable def QU(os:Os):ab:=
 let w0:=atB os
 {w0 with heap:=(w0.heap.modify 1 fun
   |.cells _ t frozen=>.cells #[.iface 279 (.pointer (some ⟨w0.heap.size,0,none⟩))] t frozen
   |o=>o).push (.cells #[.string ⟨#[110,111,32,98,97,116,99,104]⟩] 300)}
def atE(a:Os)(args:aQ):laidMetH Tryz.prog [("errors.errorType",Rows.laid_errors_errorType),("mirror/batch.errForm",Rows.laid_mirror_batch_errForm)] ((QU a).forCall (λ_ _=>0) ⟨#[],args,[]⟩).memory:=laidMetH_of_parts (laidMet_of_run' 8 ah ah) ah
end Go.Proofs.YtlcdgbhigfgehabGreatDoor
