/- A world in which the listed tables lie as they are pinned. -/
import Derived.Test.YtfiibpgoplcgkaaGreatDoorRows
import Derived.LaidLaws
import Derived.LaidHandle
import Derived.Deep.DeepLaidRun
import Derived.KernelRfl
set_option linter.unusedVariables false
set_option linter.unusedSimpArgs false
set_option maxRecDepth 100000
set_option maxHeartbeats 200000
namespace Go.Proofs.YtfiibpgoplcgkaaGreatDoor
def accRanges :List (Int×Int):=[(128,191),(160,191),(128,159),(144,191),(128,143),(0,0),(0,0),(0,0),(0,0),(0,0),(0,0),(0,0),(0,0),(0,0),(0,0),(0,0)]
noncomputable def laidWorld (os:Os):World:=
 let w0:=World.holding Tryz.prog os ⟨#[],#[],[]⟩
 { w0 with heap:=(w0.heap.modify 6 fun
   | .cells _ t frozen=> .cells (Go.Pinned.utf8FirstZ.map fun n:Nat=>Value.int .u8 (n:Int)).toArray t frozen
   |o=>o).modify 7 fun
   | .cells _ t frozen=> .cells (accRanges.flatMap fun p=>[Value.int .u8 p.1,Value.int .u8 p.2]).toArray t frozen
   |o=>o}
abbrev laidL :List (String×DataW Unit):=[("unicode/utf8.acceptRanges",Rows.laid_unicode_utf8_acceptRanges),("unicode/utf8.first",Rows.laid_unicode_utf8_first)]
theorem h1(os:Os)(args:Array Value):(DataW.laidRun Tryz.prog ((laidWorld os).forCall (fun _ _=>0) ⟨#[],args,[]⟩).memory 8 (laidL.map (·.1))).map (·.1)=some laidL:=by kernel_rfl
theorem h2(os:Os)(args:Array Value):(DataW.laidRun Tryz.prog ((laidWorld os).forCall (fun _ _=>0) ⟨#[],args,[]⟩).memory 8 (laidL.map (·.1))).map (fun x=>nodupB (x.2.map MemPlace.codeOf))=some true:=by kernel_rfl
theorem h3(os:Os)(args:Array Value):(DataW.laidRun Tryz.prog ((laidWorld os).forCall (fun _ _=>0) ⟨#[],args,[]⟩).memory 8 (laidL.map (·.1))).map (fun x=>laidRowsB Tryz.prog ((laidWorld os).forCall (fun _ _=>0) ⟨#[],args,[]⟩).memory x.2)=some true:=by kernel_rfl
theorem h4(os:Os)(args:Array Value):(laidL.filter fun x=>x.2.handleName?.isSome).all (handleAtB Tryz.prog ((laidWorld os).forCall (fun _ _=>0) ⟨#[],args,[]⟩).memory)=true:=by kernel_rfl
theorem laidWorld_met(os:Os)(args:Array Value):laidMetH Tryz.prog [("unicode/utf8.acceptRanges",Rows.laid_unicode_utf8_acceptRanges),("unicode/utf8.first",Rows.laid_unicode_utf8_first)] ((laidWorld os).forCall (fun _ _=>0) ⟨#[],args,[]⟩).memory:=
 laidMetH_of_parts (laidMet_of_run3 8 (h1 os args) (h2 os args) (h3 os args)) (h4 os args)
end Go.Proofs.YtfiibpgoplcgkaaGreatDoor
