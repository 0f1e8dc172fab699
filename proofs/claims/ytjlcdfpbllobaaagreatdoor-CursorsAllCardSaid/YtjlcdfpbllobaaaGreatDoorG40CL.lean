/- A world in which five listed tables lie as they are laid. -/
import Derived.Test.YtjlcdfpbllobaaaGreatDoorRows
import Derived.Test.YtjlcdfpbllobaaaGreatDoorG8CL
import Derived.LaidLaws
import Derived.LaidHandle
import Derived.LaidSub
import Derived.Lib.LaidTab
import Derived.Deep.DeepLaidRun
import Derived.KernelRfl
set_option linter.unusedVariables false
set_option linter.unusedSimpArgs false
set_option maxRecDepth 100000
set_option maxHeartbeats 200000
namespace Go.Proofs.YtjlcdfpbllobaaaGreatDoor
def accRanges5 :List (Int×Int):=[(128,191),(160,191),(128,159),(144,191),(128,143),(0,0),(0,0),(0,0),(0,0),(0,0),(0,0),(0,0),(0,0),(0,0),(0,0),(0,0)]
def z8i :DataW Unit->List Int
 | .agg l=>l.filterMap fun| .lit (.int _ z)=>some z|_=>none
 |_=>[]
noncomputable def laidWorld5 (os:Os):World:=
 let w0:=World.holding Tryz.prog os ⟨#[],#[],[]⟩
 { w0 with heap:=((((w0.heap.modify 5 fun
   | .cells _ t frozen=> .cells (Go.Pinned.utf8FirstZ.map fun n:Nat=>Value.int .u8 (n:Int)).toArray t frozen
   |o=>o).modify 6 fun
   | .cells _ t frozen=> .cells (accRanges5.flatMap fun p=>[Value.int .u8 p.1,Value.int .u8 p.2]).toArray t frozen
   |o=>o).modify 3 fun
   | .cells _ t frozen=> .cells ((z8i Rows.laid_math_bits_deBruijn32tab).map fun z=>Value.int .u8 z).toArray t frozen
   |o=>o).modify 4 fun
   | .cells _ t frozen=> .cells ((z8i Rows.laid_math_bits_deBruijn64tab).map fun z=>Value.int .u8 z).toArray t frozen
   |o=>o).modify 2 fun
   | .cells _ t frozen=> .cells ((z8i Rows.laid_internal_strconv_uint64pow10).map fun z=>Value.int .u64 z).toArray t frozen
   |o=>o}
abbrev laidL5 :List (String×DataW Unit):=[("math/bits.deBruijn32tab",Rows.laid_math_bits_deBruijn32tab),("math/bits.deBruijn64tab",Rows.laid_math_bits_deBruijn64tab),("internal/strconv.uint64pow10",Rows.laid_internal_strconv_uint64pow10),("unicode/utf8.acceptRanges",Rows.laid_unicode_utf8_acceptRanges),("unicode/utf8.first",Rows.laid_unicode_utf8_first)]
theorem h51(os:Os)(args:Array Value):(DataW.laidRun Tryz.prog ((laidWorld5 os).forCall (fun _ _=>0) ⟨#[],args,[]⟩).memory 8 (laidL5.map (·.1))).map (·.1)=some laidL5:=by kernel_rfl
theorem h52(os:Os)(args:Array Value):(DataW.laidRun Tryz.prog ((laidWorld5 os).forCall (fun _ _=>0) ⟨#[],args,[]⟩).memory 8 (laidL5.map (·.1))).map (fun x=>nodupB (x.2.map MemPlace.codeOf))=some true:=by kernel_rfl
theorem h53(os:Os)(args:Array Value):(DataW.laidRun Tryz.prog ((laidWorld5 os).forCall (fun _ _=>0) ⟨#[],args,[]⟩).memory 8 (laidL5.map (·.1))).map (fun x=>laidRowsB Tryz.prog ((laidWorld5 os).forCall (fun _ _=>0) ⟨#[],args,[]⟩).memory x.2)=some true:=by kernel_rfl
theorem h54(os:Os)(args:Array Value):(laidL5.filter fun x=>x.2.handleName?.isSome).all (handleAtB Tryz.prog ((laidWorld5 os).forCall (fun _ _=>0) ⟨#[],args,[]⟩).memory)=true:=by kernel_rfl
theorem laidWorld5_met(os:Os)(args:Array Value):laidMetH Tryz.prog [("math/bits.deBruijn32tab",Rows.laid_math_bits_deBruijn32tab),("math/bits.deBruijn64tab",Rows.laid_math_bits_deBruijn64tab),("internal/strconv.uint64pow10",Rows.laid_internal_strconv_uint64pow10),("unicode/utf8.acceptRanges",Rows.laid_unicode_utf8_acceptRanges),("unicode/utf8.first",Rows.laid_unicode_utf8_first)] ((laidWorld5 os).forCall (fun _ _=>0) ⟨#[],args,[]⟩).memory:=
 laidMetH_of_parts (laidMet_of_run3 8 (h51 os args) (h52 os args) (h53 os args)) (h54 os args)
theorem tabW_of{W:World}(h:laidMetH Tryz.prog laidL5 W):TabW W:=by
 have h1:=((laidMetH_iff.1 h).1).filter (fun x=>x.1== "internal/strconv.uint64pow10");have e:(List.filter (fun x:String×DataW Unit=>x.1== "internal/strconv.uint64pow10") (List.filter (fun x:String×DataW Unit=>x.2.handleName?.isNone) laidL5))=[("internal/strconv.uint64pow10",Lib.tabData .u64 Lib.pow10Tab)]:=by kernel_rfl
 rw[e] at h1;exact Lib.tabIs_of_head (g:=2) (t:=349) (e:=46) (n:=20) (by kernel_rfl) (by kernel_rfl) Tryz.underlying349 Tryz.underlying46 (by kernel_rfl) (by kernel_rfl) h1
end Go.Proofs.YtjlcdfpbllobaaaGreatDoor
