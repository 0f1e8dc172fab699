/- A world in which five listed tables lie as they are laid. -/
import Derived.Test.YtfiibpgoplcgkaaGreatDoorRows
import Derived.LaidLaws
import Derived.LaidHandle
import Derived.LaidSub
import Derived.Lib.LaidTab
import Derived.Deep.DeepLaidRun
import Derived.KernelRfl
import Derived.Test.YtfiibpgoplcgkaaGreatDoorG17SA
import Derived.Stop.LaidErr
set_option linter.unusedVariables false
set_option linter.unusedSimpArgs false
set_option maxRecDepth 100000
set_option maxHeartbeats 200000
namespace Go.Proofs.YtfiibpgoplcgkaaGreatDoor
variable {W:World}
section
def accRanges5 :List (Int×Int):=[(128,191),(160,191),(128,159),(144,191),(128,143),(0,0),(0,0),(0,0),(0,0),(0,0),(0,0),(0,0),(0,0),(0,0),(0,0),(0,0)]
def z6o :DataW Unit->List Int
 | .agg l=>l.filterMap fun| .lit (.int _ z)=>some z|_=>none
 |_=>[]
end
section
open Go.RowKit Go.ChangeShapes
noncomputable def y3k:Nat:=(World.holding Tryz.prog default ⟨#[],#[],[]⟩).heap.size
noncomputable def laidWorld7 (os:Os):World:=
 let w0:=World.holding Tryz.prog os ⟨#[.cells #[.string ⟨#[118,97,108,117,101,32,111,117,116,32,111,102,32,114,97,110,103,101]⟩] 416,.cells #[.string ⟨#[105,110,118,97,108,105,100,32,115,121,110,116,97,120]⟩] 416],#[],[]⟩
 { w0 with heap:=((((((w0.heap.modify 6 fun
   | .cells _ t frozen=> .cells (Go.Pinned.utf8FirstZ.map fun n:Nat=>Value.int .u8 (n:Int)).toArray t frozen
   |o=>o).modify 7 fun
   | .cells _ t frozen=> .cells (accRanges5.flatMap fun p=>[Value.int .u8 p.1,Value.int .u8 p.2]).toArray t frozen
   |o=>o).modify 4 fun
   | .cells _ t frozen=> .cells ((z6o Rows.laid_math_bits_deBruijn32tab).map fun z=>Value.int .u8 z).toArray t frozen
   |o=>o).modify 5 fun
   | .cells _ t frozen=> .cells ((z6o Rows.laid_math_bits_deBruijn64tab).map fun z=>Value.int .u8 z).toArray t frozen
   |o=>o).modify 3 fun
   | .cells _ t frozen=> .cells ((z6o Rows.laid_internal_strconv_uint64pow10).map fun z=>Value.int .u64 z).toArray t frozen
   |o=>o).modify 2 fun
   | .cells _ t frozen=> .cells #[.iface 414 (.pointer (some ⟨y3k,0,none⟩))] t frozen
   |o=>o).modify 1 fun
   | .cells _ t frozen=> .cells #[.iface 414 (.pointer (some ⟨y3k+1,0,none⟩))] t frozen
   |o=>o}
abbrev laidL7 :List (String×DataW Unit):=[("math/bits.deBruijn32tab",Rows.laid_math_bits_deBruijn32tab),("math/bits.deBruijn64tab",Rows.laid_math_bits_deBruijn64tab),("internal/strconv.uint64pow10",Rows.laid_internal_strconv_uint64pow10),("unicode/utf8.acceptRanges",Rows.laid_unicode_utf8_acceptRanges),("strconv.ErrRange",Rows.laid_strconv_ErrRange),("strconv.ErrSyntax",Rows.laid_strconv_ErrSyntax),("unicode/utf8.first",Rows.laid_unicode_utf8_first)]
theorem h71(os:Os)(args:Array Value):(DataW.laidRun Tryz.prog ((laidWorld7 os).forCall (fun _ _=>0) ⟨#[],args,[]⟩).memory 8 (laidL7.map (·.1))).map (·.1)=some laidL7:=by kernel_rfl
theorem h72(os:Os)(args:Array Value):(DataW.laidRun Tryz.prog ((laidWorld7 os).forCall (fun _ _=>0) ⟨#[],args,[]⟩).memory 8 (laidL7.map (·.1))).map (fun x=>nodupB (x.2.map MemPlace.codeOf))=some true:=by kernel_rfl
theorem h73(os:Os)(args:Array Value):(DataW.laidRun Tryz.prog ((laidWorld7 os).forCall (fun _ _=>0) ⟨#[],args,[]⟩).memory 8 (laidL7.map (·.1))).map (fun x=>laidRowsB Tryz.prog ((laidWorld7 os).forCall (fun _ _=>0) ⟨#[],args,[]⟩).memory x.2)=some true:=by kernel_rfl
theorem h74(os:Os)(args:Array Value):(laidL7.filter fun x=>x.2.handleName?.isSome).all (handleAtB Tryz.prog ((laidWorld7 os).forCall (fun _ _=>0) ⟨#[],args,[]⟩).memory)=true:=by kernel_rfl
theorem laidWorld7_met(os:Os)(args:Array Value):laidMetH Tryz.prog laidL7 ((laidWorld7 os).forCall (fun _ _=>0) ⟨#[],args,[]⟩).memory:=
 laidMetH_of_parts (laidMet_of_run3 8 (h71 os args) (h72 os args) (h73 os args)) (h74 os args)
theorem q8r{P:Program}{n nm:String}{d:DataW Unit}{g:Nat}{ti:TypeId}{y:Array (String×TypeId)}(h:laidMet P [(n,.iface nm d)] W)
  (r:P.globalNamed n=some g)(x:(P.globals[g]?).map (·.type)=some ti)(s:P.underlying ti=some (.interface y)): ∃u v,W.cell? ⟨g,0,none⟩=some (.iface u v):=by
 obtain⟨ps,⟨E,I,b,C,F,G,i,m,o,j,_,B⟩,_,l⟩:=h;obtain rfl:=Option.some.inj (r.symm.trans i);obtain rfl:=Option.some.inj (x.symm.trans m);obtain⟨D,u,v,e,_,_⟩:=iface_of_trod s j;refine⟨u,v,?_⟩;have:=World.var?_cell i o 0;rw[this];have q:b=#[.iface u v]:=by cases b;simpa using e
 rw[q];rfl
theorem sbW_of(h:laidMetH Tryz.prog laidL7 W):SbW W:=by
 have h0:=(laidMetH_iff.1 h).1;have h1:=h0.filter (fun x=>x.1== "internal/strconv.uint64pow10");have e:(List.filter (fun x:String×DataW Unit=>x.1== "internal/strconv.uint64pow10") (List.filter (fun x:String×DataW Unit=>x.2.handleName?.isNone) laidL7))=[("internal/strconv.uint64pow10",Lib.tabData .u64 Lib.pow10Tab)]:=by kernel_rfl
 rw[e] at h1;have h2:=h0.filter (fun x=>x.1== "strconv.ErrSyntax");have e2:(List.filter (fun x:String×DataW Unit=>x.1== "strconv.ErrSyntax") (List.filter (fun x:String×DataW Unit=>x.2.handleName?.isNone) laidL7))=[("strconv.ErrSyntax",Rows.laid_strconv_ErrSyntax)]:=by kernel_rfl
 rw[e2] at h2;have h3:=h0.filter (fun x=>x.1== "strconv.ErrRange");have e3:(List.filter (fun x:String×DataW Unit=>x.1== "strconv.ErrRange") (List.filter (fun x:String×DataW Unit=>x.2.handleName?.isNone) laidL7))=[("strconv.ErrRange",Rows.laid_strconv_ErrRange)]:=by kernel_rfl
 rw[e3] at h3
 exact⟨Lib.tabIs_of_head (g:=3) (t:=399) (e:=23) (n:=20) (by kernel_rfl) (by kernel_rfl) Tryz.underlying399 Tryz.underlying23 (by kernel_rfl) (by kernel_rfl) h1,
  q8r h2 (g:=1) (ti:=206) (by kernel_rfl) (by kernel_rfl) Tryz.underlying206,
  q8r h3 (g:=2) (ti:=206) (by kernel_rfl) (by kernel_rfl) Tryz.underlying206⟩
end
end Go.Proofs.YtfiibpgoplcgkaaGreatDoor
