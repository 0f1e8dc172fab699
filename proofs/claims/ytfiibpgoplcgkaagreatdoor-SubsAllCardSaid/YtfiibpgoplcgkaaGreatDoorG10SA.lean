/- The shelf's contracts of slices.Sort and slices.Clone at this seat, in plain words. -/
import Derived.Ground.NamesProg
import Derived.Ground.Names2Prog
import Derived.Shelf.Sort.Plain
import Derived.Shelf.Slices.Clone
import Derived.Test.YtfiibpgoplcgkaaGreatDoorProg
import Derived.Test.YtfiibpgoplcgkaaGreatDoorG9SA
import Derived.Shelf.Slices.In.SortNone
import Derived.Sort.OwnSorted
import Derived.Lib.OwnBridge
import Derived.StillTailTactics
import Derived.Lib.BufferWrite
set_option linter.unusedVariables false
set_option linter.unusedSimpArgs false
set_option maxRecDepth 100000
set_option maxHeartbeats 1600000
namespace Go.Proofs
open Go.Shelf
def Tryz.lays190_ren :Go.Shelf.Ren:=⟨fun|190=>134|125=>191|258=>190|128=>254|129=>255|302=>245|303=>246|304=>247|305=>248|306=>249|307=>250|308=>251|309=>252|310=>253|333=>294|329=>295|330=>296|334=>297|335=>298|336=>299|344=>330|n=>n,fun|31=>148|9=>9|3=>3|46=>272|0=>0|51=>269|53=>23|4=>4|183=>329|182=>328|131=>169|5=>5|218=>371|222=>375|228=>407|229=>359|n=>n,fun|n=>n⟩
theorem Tryz.lays190 :Go.Proofs.Lays.n190 Tryz.prog Tryz.lays190_ren:={
 mixed:=by kernel_rfl
 f125:=Tryz.func191.trans (congrArg some (by kernel_rfl))
 f128:=Tryz.func254.trans (congrArg some (by kernel_rfl))
 f129:=Tryz.func255.trans (congrArg some (by kernel_rfl))
 f190:=Tryz.func134.trans (congrArg some (by kernel_rfl))
 f258:=Tryz.func190.trans (congrArg some (by kernel_rfl))
 f302:=Tryz.func245.trans (congrArg some (by kernel_rfl))
 f303:=Tryz.func246.trans (congrArg some (by kernel_rfl))
 f304:=Tryz.func247.trans (congrArg some (by kernel_rfl))
 f305:=Tryz.func248.trans (congrArg some (by kernel_rfl))
 f306:=Tryz.func249.trans (congrArg some (by kernel_rfl))
 f307:=Tryz.func250.trans (congrArg some (by kernel_rfl))
 f308:=Tryz.func251.trans (congrArg some (by kernel_rfl))
 f309:=Tryz.func252.trans (congrArg some (by kernel_rfl))
 f310:=Tryz.func253.trans (congrArg some (by kernel_rfl))
 f329:=Tryz.func295.trans (congrArg some (by kernel_rfl))
 f330:=Tryz.func296.trans (congrArg some (by kernel_rfl))
 f333:=Tryz.func294.trans (congrArg some (by kernel_rfl))
 f334:=Tryz.func297.trans (congrArg some (by kernel_rfl))
 f335:=Tryz.func298.trans (congrArg some (by kernel_rfl))
 f336:=Tryz.func299.trans (congrArg some (by kernel_rfl))
 f344:=Tryz.func330.trans (congrArg some (by kernel_rfl))
 t0:=Tryz.underlying0
 a0:=Tryz.isAgg0
 z0:=Tryz.sizeOf0
 v0:=Tryz.zeroValue0
 t3:=Tryz.underlying3
 a3:=Tryz.isAgg3
 z3:=Tryz.sizeOf3
 v3:=Tryz.zeroValue3
 t4:=Tryz.underlying4
 a4:=Tryz.isAgg4
 z4:=Tryz.sizeOf4
 v4:=Tryz.zeroValue4
 t5:=Tryz.underlying5
 a5:=Tryz.isAgg5
 z5:=Tryz.sizeOf5
 v5:=Tryz.zeroValue5
 t9:=Tryz.underlying9
 a9:=Tryz.isAgg9
 z9:=Tryz.sizeOf9
 v9:=Tryz.zeroValue9
 t31:=Tryz.underlying148
 a31:=Tryz.isAgg148
 z31:=Tryz.sizeOf148
 v31:=Tryz.zeroValue148
 t46:=Tryz.underlying272
 a46:=Tryz.isAgg272
 z46:=Tryz.sizeOf272
 v46:=Tryz.zeroValue272
 t51:=Tryz.underlying269
 a51:=Tryz.isAgg269
 z51:=Tryz.sizeOf269
 v51:=Tryz.zeroValue269
 t53:=Tryz.underlying23
 a53:=Tryz.isAgg23
 z53:=Tryz.sizeOf23
 v53:=Tryz.zeroValue23
 t131:=Tryz.underlying169
 a131:=Tryz.isAgg169
 z131:=Tryz.sizeOf169
 v131:=Tryz.zeroValue169
 t182:=Tryz.underlying328
 a182:=Tryz.isAgg328
 z182:=Tryz.sizeOf328
 v182:=Tryz.zeroValue328
 t183:=Tryz.underlying329
 a183:=Tryz.isAgg329
 z183:=Tryz.sizeOf329
 v183:=Tryz.zeroValue329
 t218:=Tryz.underlying371
 a218:=Tryz.isAgg371
 z218:=Tryz.sizeOf371
 v218:=Tryz.zeroValue371
 t222:=Tryz.underlying375
 a222:=Tryz.isAgg375
 z222:=Tryz.sizeOf375
 v222:=Tryz.zeroValue375
 t228:=Tryz.underlying407
 a228:=Tryz.isAgg407
 z228:=Tryz.sizeOf407
 v228:=Tryz.zeroValue407
 t229:=Tryz.underlying359
 a229:=Tryz.isAgg359
 z229:=Tryz.sizeOf359
 v229:=Tryz.zeroValue359}
end Go.Proofs
namespace Go.Proofs.YtfiibpgoplcgkaaGreatDoor
variable {L L1:List FE}{ss N:List (List UInt8)}{w w' w1 wr w3 w2:World}{m cap g i k n:Nat}{e:FE}{a:Act}{t:TypeId}{kv:Value}{us us':Int}{σ σ':DM}{xs:List Int}{F:Nat->Prop}{ops:Array Oper}{rest:List Oper}{Q:Exit->Act->World->Prop}{P:Program}
section
open Go.RowKit Go.Maps Go.Sort
theorem z1L(h:q2Q FE.nm L):(L.map FE.nm).mergeSort (fun x y=>decide (x<=y))=L.map FE.nm:=by
 refine List.mergeSort_of_pairwise (List.pairwise_map.2 (h.imp fun {x y} b=>?_));rw[q5K,Φ] at b;rw[Φ];exact List.le_of_lt b
theorem z5U(h:q2Q FE.nm L)(b:ss.Perm (strKeys (q5d L))):ss.mergeSort (fun x y=>decide (x<=y))=L.map FE.nm:=by
 rw[q7Z] at b;exact(mergeSort_of_perm b).trans (z1L h)
theorem FS.nm_le(h:FS w m L)(he:e∈L):e.f.nm.length<=9223372036854775807:=by
 have:=strKeys_le h.map Tryz.underlying9 e.f.nm (by rw[q7Z];exact List.mem_map.2 ⟨e,he,rfl⟩);unfold maxLen at this;exact this
def RetN(w:World)(N:List (List UInt8))(e:Ending)(w':World):Prop:=
 ∃v,e= .returned v/\w'.ownsRow w.heap.size 9 1 v N.length (N.map encStr)/\Ext w w'
theorem RetN.o{e:Ending}(h:RetN w N e w'): ∃ao cap,e= .returned (.slice ao N.length cap)/\Own w' w.heap.size 9 1 (.slice ao N.length cap) N.length (N.map encStr)/\Ext w w':=by
 obtain⟨v,rfl,b,d⟩:=h;obtain⟨ao,cap,rfl⟩:=q0G b;exact⟨ao,cap,rfl,Own.of_row b,d⟩
theorem RetN.mk{W:World}{a:Option Addr}(h:W.ownsRow w.heap.size 9 1 (.slice a ss.length cap) ss.length ((ss.mergeSort (fun x y=>decide (x<=y))).map encStr))
  (j:ss.mergeSort (fun x y=>decide (x<=y))=N)(b:ss.length=N.length)(d:Ext w W):RetN w N (.returned (.slice a ss.length cap)) W:=by
 rw[j,b] at h;rw[b];exact⟨_,rfl,h,d⟩
theorem z6n :(Tryz.prog.info? 9).map (fun i=>(i.zero,i.size,i.bytes))=some (some (.string ⟨#[]⟩),1,16):=by kernel_rfl
theorem z2V(w:World)(g m:Nat)(L:List FE)(c0:w.cell? ⟨g,0,none⟩=some (.bool true))(c3:w.cell? ⟨g,3,none⟩=some (.map (some m)))(E:FS w m L)(o0:L.length<=1000000):
  Calls Tryz.prog 81 #[.pointer (some ⟨g,0,none⟩)] w (RetN w (L.map FE.nm)):=by
 obtain⟨i0,hi,l0,m0,n0⟩:=info_parts z6n;have r:=E.map;have HO:=η E.ord;have J:Maps.size (q5d L)=L.length:=q7a L;have H:=η (q6V w g true c0);obtain⟨D,hD⟩: ∃D,q5d L=D:=⟨_,rfl⟩
 have HD:=η hD;rw[hD] at r J;have HS:=η J;clear E J hD c0;have d0:=r.lt;go_enter Tryz.func81,Tryz.ntmps81;go_wp2_with fail;refine H.o.mono ?_;rintro e w' ⟨rfl,rfl⟩
 go_wp2_with (at_range;refine wpList_range_own _ rfl _ 132 rfl 9 150 z9H Tryz.underlying132 _ m L.length D rfl r ?_;intro w0 W e0 X)
 have p0:=η X;clear X
 go_frame
 go_loopw [3] (fun v wr=> ∃(left:Lit->Bool) (cnt:Nat) (ss:List (List UInt8)),wr.ranges Tryz.prog 9 q6I m w.heap.size L.length D left cnt/\ss.length+cnt<=L.length/\
   wr.ownsRow w.heap.size 9 1 v ss.length (ss.map encStr)/\Collected D left ss/\Below w.heap.size w wr)
  (fun _ wr=>wr.rangeLeft m w.heap.size)
 case atStart=>
  exact⟨_,_,[],W,by simp[HS.o],World.ownsRow_nil _ _ _ _,Collected.start D,(Below.refl _ _).grown e0 (ι _) (fun j G=>by cases G)⟩
 case round=>
  obtain⟨left,cnt,ss,u,s0,s,hC,d⟩:=hrel
  go_wp2_with (at_next;refine wpList_next_ranges _ rfl _ rfl 9 z9H q6I encStr (fun x:Value=>x) (fun u0 kl hk=>by obtain⟨x,hx,_⟩:=Maps.keyOf_str Tryz.underlying9 hk;exact⟨x,hx⟩) (fun v y hv=>⟨v,rfl⟩) m w.heap.size L.length _ _ _ rfl u ?_ ?_)
  ·intro r0 U
   have Z:=hC.perm u.owns z9H Tryz.underlying9 U;rw[<-HD.o] at Z;have a0:=η (z5U HO.o Z);have M:=η (show ss.length=L.length by have:=Z.length_eq;rw[q7Z] at this;simpa using this);clear Z U;rcases s.2 with⟨rfl,V⟩|⟨gb,cap,q0,rfl,l,Y,h1,h2,h3,h4⟩
   ·have HL:=η (show L=[] from List.eq_nil_of_length_eq_zero (by have:=M.o;omega))
    clear V;have hs:=Any.slices_Sort_string_none Tryz.lays190 none 0 wr;have HX:=η hs;clear hs;go_wp2_with fail;refine HX.o.mono ?_;rintro e w' ⟨rfl,rfl⟩;go_wp2_with fail;go_ret;refine⟨_,rfl,?_,d⟩;rw[HL.o];exact World.ownsRow_nil _ _ _ _
   ·have hH:Holds encStr wr gb 0 ss.toArray:=holds_of_block Y (by simpa using h4)
    have f0:gb<wr.heap.size:=(Array.getElem?_eq_some_iff.1 Y).1;have HX:=η (Any.slices_Sort_string Tryz.lays190 gb 0 cap ss wr hH f0 (by omega));have HR:=η (fun (nn:Nat) (os:Array Obj)=>ownsRow_sorted (n:=nn) (os:=os) (ts:=ss.mergeSort fun x y=>decide (x<=y)) (List.length_mergeSort ss) l Y h1 h2 h3);clear hH Y h4 h3;go_wp2_with fail;refine HX.o.mono ?_;rintro e w' ⟨rfl,nn,os,rfl⟩;go_wp2_with fail;go_ret;exact RetN.mk (HR.o nn os) a0.o (by rw[M.o,List.length_map]) (d.grown (grownBy_sorted _) d.size (fun j G=>by cases G;exact l))
  ·intro x c kl yd yp w2 O S g0 hv b0 B h0 q k0 t0
   obtain⟨x',ex,rfl,_⟩:=Maps.keyOf_str Tryz.underlying9 S;obtain rfl:x=x':=encStr_inj ex;have b:=s.kept q (Or.inr (row_ne_iter s u).symm);clear k0
   go_wp2_with (at_builtin;refine wpList_append_own _ rfl _ _ 148 rfl w.heap.size 9 i0 (.string ⟨#[]⟩) 1 16 Tryz.underlying148 hi l0 m0 n0 rfl (by decide) _ _ _ rfl (b.alloc _) ⟨w2.heap.size,0,none⟩ 1 1 [encStr x] rfl rfl (cell_one_new _ _ _) (by simp[Value.oneCell',encStr]) (by unfold maxLen at*;omega) (by omega) (by have:=d.size;have:=q.size;simp;omega) ?_;intro v' w3 I R j0)
   have C:=(B.alloc _).kept R (row_ne_low b d0) (row_ne_iter b B)
   go_roundw
   case rel=>
    refine⟨_,O,ss++[x],C,by simp;omega,by simpa using I,hC.step g0 b0,?_⟩;exact((d.grown q d.size (fun j G=>by cases G;exact ι _)).alloc (by have:=d.size;have:=q.size;omega) _).grown R (by have:=d.size;have:=q.size;simp;omega) (fun j G=>(b.lt j G).1)
   case measure=>rw[C.left_eq,u.left_eq];exact h0
end
section
open Go.RowKit
theorem z8Z(w:World)(g b:Nat)(ao:Option Addr)(len cap:Nat)(us sy n:Int)(v:w.cell? ⟨g,2,none⟩=some (.int .i64 us))(E:w.frozen? ⟨g,2,none⟩=false)
  (x:w.cell? ⟨b,0,none⟩=some (.slice ao len cap))(y:w.cell? ⟨b,1,none⟩=some (.int .i64 sy))(C:w.frozen? ⟨b,0,none⟩=false)(D:w.frozen? ⟨b,1,none⟩=false)(j:g≠b)
  (B:len<=cap)(hc:cap<=9223372036854775807)(d:ao=none->cap=0)(l:0<=n)(o:n<=9223372036854775807)(q:0<=sy)(r:sy<=len)(s:(len:Int)<=us)(u:us<=1048576):
  Calls Tryz.prog 82 #[.pointer (some ⟨g,0,none⟩),.pointer (some ⟨b,0,none⟩),.int .i64 n] w fun e w'=>e= .returned (.tuple #[])/\
   w'=(((w.setCell ⟨g,2,none⟩ (.int .i64 (us-(len-min n len)))).drew.setCell ⟨b,0,none⟩ (.slice ao (min n len).toNat (min n len).toNat)).setCell ⟨b,1,none⟩ (.int .i64 (min sy (min n len)))):=by
 go_enter Tryz.func82,Tryz.ntmps82;go_wp2_with fail
 go_region
 go_wp2_with fail
 go_end0
 exact⟨rfl,rfl⟩
theorem y3S(ao:Option Addr)(n c d b:Nat):(Value.slice ao n c).ownBlock=(Value.slice ao d b).ownBlock:=by cases ao<;>rfl
theorem Blk.set2{b:Nat}{l o:Value}(h:Blk w b t #[l,o])(d j:Value):Blk ((w.setCell ⟨b,0,none⟩ d).setCell ⟨b,1,none⟩ j) b t #[d,j]:=(h.set 0 d).set 1 j
theorem Blk.o{cs:Array Value}(h:Blk w g t cs)(b:g≠i)(k:Nat)(u:Value):Blk (w.setCell ⟨i,k,none⟩ u) g t cs:=h.same (Below.heap_setCell _ _ _ _ b)
theorem DkI.ne(h:DkI w g m kv L us σ):¬InF m L g:=h.fs.o h.head (by decide) (by decide)
theorem DkI.neB(h:DkI w g m kv L us σ)(he:e∈L):g≠e.b:=fun d=>h.ne (.inr ⟨e,he,.inl d⟩)
theorem DkI.keepF(h:DkI w g m kv L us σ)(j:kv.ownBlock=some i):i≠g/\¬InF m L i:=by
 obtain⟨b,hc⟩:=h.keep.etype j;have d:Blk w i 3 b:=hc;exact⟨Blk.ne d h.head (by decide),h.fs.o d (by decide) (by decide)⟩
theorem DkI.headSet(h:DkI w g m kv L us σ)(d: ∀i,i<w.heap.size->i≠g->w'.heap[i]? =w.heap[i]?)
  (l:Blk w' g 134 (q6y σ' us' m kv))(j:σ'.L=σ.L)(hK:σ'.keep=σ.keep):DkI w' g m kv L us' σ':=
 ⟨l,h.fs.same fun i b=>d i (h.fs.lt b) fun e=>h.ne (e▸b),h.files.trans j.symm,by rw[hK];exact h.keep.same fun i b=>d i (h.keep.lt i b).2 (h.keepF b).1⟩
theorem q7l(w:World):w.drew.heap=w.heap:=rfl
theorem q0K(w:World)(u:Value)(h:i≠g):(w.setCell ⟨g,k,none⟩ u).heap[i]? =w.heap[i]? :=Below.heap_setCell _ _ _ _ h
theorem DkI.fileSet(h:DkI w g m kv L us σ){nm:List UInt8}(u:q0F FE.nm nm L=some e)(e':FE)(G:e'.f.nm=nm)(E:e'.b=e.b)
  (C: ∀i,i<w.heap.size->i≠g->i≠e.b->e.v.ownBlock≠some i->w'.heap[i]? =w.heap[i]?)(B:Blk w' g 134 (q6y σ' us' m kv))
  (l:Blk w' e.b 153 #[e'.v,.int .i64 (e'.f.sy:Int)])(o:Own w' 0 5 1 e'.v e'.f.da.length (e'.f.da.map q1R))(q: ∀i,e'.v.ownBlock=some i->e.v.ownBlock=some i\/w.heap.size<=i)
  (f:FM->FM)(y:e'.f=f e.f)(D:σ'.L=q1P FM.nm nm f σ.L)(hK:σ'.keep=σ.keep):DkI w' g m kv (q1P FE.nm nm (fun _=>e') L) us' σ':=by
 have he:=(q0J u).1;refine⟨B,h.fs.upd u e' G E (fun i d r s=>C i (h.fs.lt d) (fun j=>h.ne (j▸d)) r s) l o (fun i d=>?_),?_,?_⟩
 ·rcases q i d with r|r
  ·exact .inl r
  ·exact .inr fun s=>by have:=h.fs.lt s;omega
 ·rw[D,<-h.files]
  exact z8B (fun x=>rfl) h.fs.ord u y
 ·rw[hK]
  refine h.keep.same fun i d=>C i (h.keep.lt i d).2 (h.keepF d).1 (fun j=>?_) (fun j=>?_)
  ·exact(h.keepF d).2 (.inr ⟨e,he,.inl j⟩)
  ·exact(h.keepF d).2 (.inr ⟨e,he,.inr j⟩)
def MutD(g m:Nat)(L:List FE)(i:Nat):Prop:=i=g\/InF m L i
theorem MutD.inD(h:MutD g m L i):InD g m kv L i:=h.elim .inl fun h=> .inr (.inl h)
theorem DkI.mut_lt(h:DkI w g m kv L us σ)(b:MutD g m L i):i<w.heap.size:=h.inD_lt b.inD
theorem OffS.inD(h:OffS (MutD g m L) w w'):OffS (InD g m kv L) w w':=h.mono fun i _ b=>b.inD
theorem DkI.headKv{b:Value}(h:DkI w g m kv L us σ)(o: ∀i,i<w.heap.size->i≠g->w'.heap[i]? =w.heap[i]?)
  (l:Blk w' g 134 (q6y σ' us' m b))(j:σ'.L=σ.L)(hK:Own w' 0 3 1 b σ'.keep.length (σ'.keep.map (Value.int .i64))):DkI w' g m b L us' σ':=
 ⟨l,h.fs.same fun i d=>o i (h.fs.lt d) fun e=>h.ne (e▸d),h.files.trans j.symm,hK⟩
theorem q7G(he:e∈L)(q:w.heap.size<=w'.heap.size)(o:w'.os=w.os)(r:w'.tape=w.tape)(s:w'.output=w.output)
  (u: ∀i,i<w.heap.size->i≠g->i≠e.b->e.v.ownBlock≠some i->w'.heap[i]? =w.heap[i]?):OffS (MutD g m L) w w':=
 ⟨o,r,s,q,fun i l j=>u i l (fun d=>j (.inl d)) (fun d=>j (.inr (.inr ⟨e,he,.inl d⟩))) (fun d=>j (.inr (.inr ⟨e,he,.inr d⟩)))⟩
theorem y3G(h:DkI w g m kv L us σ)(U:us=(q0P σ.L:Int))(X:us<=1048576)(B:q2Q FM.nm σ.L){nm:List UInt8}(I:q0F FE.nm nm L=some e)(b0:e.f.sy<=e.f.da.length)
  (n:Int)(M:0<=n)(O:n<=9223372036854775807):
  Calls Tryz.prog 82 #[.pointer (some ⟨g,0,none⟩),.pointer (some ⟨e.b,0,none⟩),.int .i64 n] w fun en w'=>en= .returned (.tuple #[])/\
   ∃ e':FE,e'.f=q5i n.toNat e.f/\e'.b=e.b/\(∀i,e'.v.ownBlock=some i->e.v.ownBlock=some i)/\
    DkI w' g m kv (q1P FE.nm nm (fun _=>e') L) (q0P (q1P FM.nm nm (q5i n.toNat) σ.L):Int) {σ with L:=q1P FM.nm nm (q5i n.toNat) σ.L}/\OffS (MutD g m L) w w':=by
 obtain⟨he,G⟩:=q0J I;obtain⟨ao,cap,D,h1,h2,h3,h4⟩:=(h.fs.row e he).rd;have r:q0F FM.nm nm σ.L=some e.f:=by
  rw[<-h.files,q1t (k:=FE.nm) (k':=FM.nm) (h:=FE.f) (fun x=>rfl),I];rfl
 have Y:=q7I (fun f:FM=>f.da.length) (f:=q5i n.toNat) B r;have y:=q7H (fun f:FM=>f.da.length) (q0J r).1;have a0:e.f.da.length<=q0P σ.L:=y;have V:=h.f0 he;rw[D] at V;have d:=h.neB he;refine(z8Z w g e.b ao e.f.da.length cap us e.f.sy n h.c2 (h.z 2) V (h.f1 he) (h.fz he 0) (h.fz he 1) d h1 h2 h3 M O (by omega) (by omega) (by omega) (by omega)).mono ?_;rintro en w' ⟨rfl,rfl⟩;have J:(min n (e.f.da.length:Int)).toNat=min n.toNat e.f.da.length:=by omega
 have S:min (e.f.sy:Int) (min n (e.f.da.length:Int))=((min e.f.sy (min n.toNat e.f.da.length):Nat):Int):=by omega
 have j:(e.f.da.take n.toNat).length=min n.toNat e.f.da.length:=Θ;have Z: ∀i,i<w.heap.size->i≠g->i≠e.b->e.v.ownBlock≠some i->((((w.setCell ⟨g,2,none⟩ (.int .i64 (us-(e.f.da.length-min n e.f.da.length)))).drew.setCell ⟨e.b,0,none⟩ (.slice ao (min n e.f.da.length).toNat (min n e.f.da.length).toNat)).setCell ⟨e.b,1,none⟩ (.int .i64 (min e.f.sy (min n e.f.da.length)))).heap[i]?)=w.heap[i]? :=by
  intro i _ hg W _;rw[q0K _ _ W,q0K _ _ W,q7l,q0K _ _ hg]
 have C:us-((e.f.da.length:Int)-min n e.f.da.length)=(q0P (q1P FM.nm nm (q5i n.toNat) σ.L):Int):=by
  unfold q0P at U⊢;have:(q5i n.toNat e.f).da.length=min n.toNat e.f.da.length:=j;omega
 refine⟨rfl,⟨q5i n.toNat e.f,e.b,.slice ao (min n e.f.da.length).toNat (min n e.f.da.length).toNat⟩,rfl,rfl,fun i s=>?_,?_,q7G he (by simp[World.setCell,World.drew]) rfl rfl rfl Z⟩
 ·rw[D,y3S ao _ _ (min n e.f.da.length).toNat (min n e.f.da.length).toNat];exact s
 ·refine h.fileSet I _ G rfl Z ?_ ?_ ?_ (fun i s=> .inl (by rw[D,y3S ao _ _ (min n e.f.da.length).toNat (min n e.f.da.length).toNat];exact s)) (q5i n.toNat) rfl rfl rfl
  ·have E:=(h.head.set 2 (.int .i64 (us-(e.f.da.length-min n e.f.da.length)))).drew
   have q:=(E.o d 0 (.slice ao (min n e.f.da.length).toNat (min n e.f.da.length).toNat)).o d 1 (.int .i64 (min e.f.sy (min n e.f.da.length)));rw[C] at q⊢;exact q
  ·have E:=((h.fs.blk e he).o (Ne.symm d) 2 (.int .i64 (us-(e.f.da.length-min n e.f.da.length)))).drew
   have q:=E.set2 (.slice ao (min n e.f.da.length).toNat (min n e.f.da.length).toNat) (.int .i64 (min e.f.sy (min n e.f.da.length)));rw[S] at q⊢;exact q
  ·have hr:=(h.fs.row e he).cut (m:=min n.toNat e.f.da.length) (c:=min n.toNat e.f.da.length) (ι _) D (by omega) (by omega)
   have R:Own w 0 5 1 (.slice ao (min n e.f.da.length).toNat (min n e.f.da.length).toNat) (q5i n.toNat e.f).da.length ((q5i n.toNat e.f).da.map q1R):=by
    have l:(q5i n.toNat e.f).da.length=min n.toNat e.f.da.length:=j;rw[l,J];have e2:(q5i n.toNat e.f).da.map q1R=(e.f.da.map q1R).take (min n.toNat e.f.da.length*1):=by
     rw[<-List.map_take,Nat.mul_one];show(e.f.da.take n.toNat).map q1R=_
     congr 1
     rw[List.take_eq_take_iff];omega
    rw[e2];exact hr
   refine R.same fun i s=>?_
   have u:e.v.ownBlock=some i:=by rw[D,y3S ao _ _ (min n e.f.da.length).toNat (min n e.f.da.length).toNat];exact s
   have n1:i≠g:=fun l=>h.ne (.inr ⟨e,he,.inr (l▸u)⟩)
   have n2:i≠e.b:=fun l=>(h.fs.blk e he).own (h.fs.row e he) (by decide) (l▸u)
   show(((w.setCell _ _).drew.setCell _ _).setCell _ _).heap[i]? =_;rw[q0K _ _ n2,q0K _ _ n2,q7l,q0K _ _ n1]
def CrR(w1:World)(g m:Nat)(kv:Value)(L:List FE)(σ:DM)(xs:List Int)(k:Nat)(wr:World):Prop:=
 ∃Lk,DkI wr g m kv Lk (q0P (q4a σ.L xs k):Int) {σ with L:=q4a σ.L xs k}/\(∀j,InF m Lk j->InF m L j)/\OffS (MutD g m L) w1 wr
theorem CrR.start(h:DkI w1 g m kv L (q0P σ.L:Int) σ)(xs:List Int):CrR w1 g m kv L σ xs 0 w1:=by
 unfold CrR;rw[z6H];exact⟨L,h,fun j b=>b,OffS.refl _ _⟩
theorem y3I{nm:List UInt8}{f:FM}(h:q0F FM.nm nm (L.map FE.f)=some f): ∃e,q0F FE.nm nm L=some e/\e.f=f:=by
 rw[q1t (k:=FE.nm) (k':=FM.nm) (h:=FE.f) (fun x=>rfl)] at h
 cases hf:q0F FE.nm nm L with
 |none=>rw[hf] at h;cases h
 |some e=>rw[hf] at h;exact⟨e,rfl,Option.some.inj h⟩
theorem z4k(f:FM)(x:Int)(n:Int)(d:n=(f.sy:Int)+min (max x 0) ((f.da.length:Int)-f.sy))(j:f.sy<=f.da.length):({q5i n.toNat f with sy:=(q5i n.toNat f).da.length}:FM)=q2S f x:=by
 have b:n.toNat=f.sy+min (max x 0).toNat (f.da.length-f.sy):=by omega
 unfold q5i q2S;rw[b]
 congr 1
 simp;omega
theorem CrR.step{wd wc:World}{s:List FE}(X:okD σ)(hk:k<σ.L.length)(hi:DkI wr g m kv s (q0P (q4a σ.L xs k):Int) {σ with L:=q4a σ.L xs k})(r: ∀j,InF m s j->InF m L j)(I:OffS (MutD g m L) w1 wr)
  (c0:OffS (MutD g m L) wr wd){e':FE}(S:q0F FE.nm σ.L[k].nm s=some e)(O:e.f=σ.L[k]){n:Int}(hn:n=(e.f.sy:Int)+min (max (xs.getD k 0) 0) ((e.f.da.length:Int)-e.f.sy))(h1:e'.f=q5i n.toNat e.f)(h2:e'.b=e.b)(h3: ∀i,e'.v.ownBlock=some i->e.v.ownBlock=some i)
  (q:DkI wc g m kv (q1P FE.nm σ.L[k].nm (fun _=>e') s) (q0P (q1P FM.nm σ.L[k].nm (q5i n.toNat) (q4a σ.L xs k)):Int) {σ with L:=q1P FM.nm σ.L[k].nm (q5i n.toNat) (q4a σ.L xs k)})(hc:OffS (MutD g m s) wd wc):
  CrR w1 g m kv L σ xs (k+1) (wc.setCell ⟨e'.b,1,none⟩ (.int .i64 (e'.f.da.length:Int))):=by
 obtain⟨U,Z⟩:=z0l xs hk X.ord;have a0:=X.sy _ (List.getElem_mem hk);have G:q2Q FM.nm (q4a σ.L xs k):=z3u X.ord (z2E _ _ _);obtain⟨he,R⟩:=q0J S;have E:FE.nm e'=σ.L[k].nm:=by show e'.f.nm=_;rw[h1];exact R
 have x:q0F FE.nm σ.L[k].nm (q1P FE.nm σ.L[k].nm (fun _=>e') s)=some e':=q3F q.fs.ord ((q4t (f:=fun _=>e') hi.fs.ord S).2 (.inl rfl)) E;have l:=(q0J x).1;have V:=q.neB l;have C:e'.v.ownBlock≠some e'.b:=(q.fs.blk e' l).own (q.fs.row e' l) (by decide);have M:({q5i n.toNat σ.L[k] with sy:=(q5i n.toNat σ.L[k]).da.length}:FM)=q2S σ.L[k] (xs.getD k 0):=z4k _ _ _ (by rw[<-O];exact hn) a0;have J:q1P FM.nm σ.L[k].nm (fun f=>{f with sy:=f.da.length}) (q1P FM.nm σ.L[k].nm (q5i n.toNat) (q4a σ.L xs k))=q4a σ.L xs (k+1):=by
  rw[z5b (h:=q5i n.toNat) (fun y=>rfl)];exact Z _ M
 have b0:q0P (q1P FM.nm σ.L[k].nm (q5i n.toNat) (q4a σ.L xs k))=q0P (q4a σ.L xs (k+1)):=by
  have o2:q2Q FM.nm (q1P FM.nm σ.L[k].nm (q5i n.toNat) (q4a σ.L xs k)):=z0U G fun y hy=>hy
  have f2:q0F FM.nm σ.L[k].nm (q1P FM.nm σ.L[k].nm (q5i n.toNat) (q4a σ.L xs k))=some (q5i n.toNat σ.L[k]):=q3F o2 ((q4t (f:=q5i n.toNat) G U).2 (.inl rfl)) rfl;have:=q7I (fun f:FM=>f.da.length) (f:=fun f:FM=>{f with sy:=f.da.length}) o2 f2;rw[<-J];exact(Nat.add_right_cancel (show q5I (fun f:FM=>f.da.length) _+(q5i n.toNat σ.L[k]).da.length=q5I (fun f:FM=>f.da.length) _+(q5i n.toNat σ.L[k]).da.length from this)).symm
 have d: ∀i,i<wc.heap.size->i≠g->i≠e'.b->e'.v.ownBlock≠some i->(wc.setCell ⟨e'.b,1,none⟩ (.int .i64 (e'.f.da.length:Int))).heap[i]? =wc.heap[i]? :=fun i _ _ hb _=>q0K _ _ hb
 have u: ∀j,InF m (q1P FE.nm σ.L[k].nm (fun _=>e') s) j->InF m L j:=fun j W=>by
  rcases InF.upd hi.fs.ord S h2 W with h|h
  ·exact r j h
  ·exact r j (.inr ⟨e,he,.inr (h3 j h)⟩)
 have D:=q.fileSet (σ':={σ with L:=q4a σ.L xs (k+1)}) (us':=(q0P (q4a σ.L xs (k+1)):Int)) x ⟨{e'.f with sy:=e'.f.da.length},e'.b,e'.v⟩ E rfl d (by rw[<-b0];exact q.head.o V _ _) ((q.fs.blk e' l).set 1 _) ((q.fs.row e' l).same fun i B=>q0K _ _ fun e1=>C (e1▸B)) (fun i B=> .inl B) (fun f=>{f with sy:=f.da.length}) rfl J.symm rfl;refine⟨_,D,fun j W=>?_,(I.trans c0).trans ((hc.mono fun i _ hm=>?_).trans ?_)⟩
 ·rcases InF.upd (e':=(⟨{e'.f with sy:=e'.f.da.length},e'.b,e'.v⟩:FE)) q.fs.ord x rfl W with h|h
  ·exact u j h
  ·exact r j (.inr ⟨e,he,.inr (h3 j h)⟩)
 ·rcases hm with rfl|hm
  ·exact .inl rfl
  ·exact .inr (r i hm)
 ·have Y:OffS (MutD g m (q1P FE.nm σ.L[k].nm (fun _=>e') s)) wc (wc.setCell ⟨e'.b,1,none⟩ (.int .i64 (e'.f.da.length:Int))):=q7G l (by simp[World.setCell]) rfl rfl rfl d
  exact Y.mono fun i _ hm=>hm.elim (fun h=>Or.inl h) (fun h=>Or.inr (u i h))
theorem CrR.done(h:CrR w1 g m kv L σ xs σ.L.length wr):
  ∃ o,DkI ((((wr.setCell ⟨g,6,none⟩ (.bool true)).setCell ⟨g,7,none⟩ (.bool false)).setCell ⟨g,8,none⟩ (.int .i64 0)).setCell ⟨g,9,none⟩ (.slice none 0 0)) g m (.slice none 0 0) o (q0P (q0s σ.L xs):Int) (q5L σ xs)/\(∀i,InF m o i->InF m L i)/\
   OffS (MutD g m L) w1 ((((wr.setCell ⟨g,6,none⟩ (.bool true)).setCell ⟨g,7,none⟩ (.bool false)).setCell ⟨g,8,none⟩ (.int .i64 0)).setCell ⟨g,9,none⟩ (.slice none 0 0)):=by
 obtain⟨r,j,l,b⟩:=h;rw[z8Y] at j;have q: ∀i,i<wr.heap.size->i≠g->((((wr.setCell ⟨g,6,none⟩ (.bool true)).setCell ⟨g,7,none⟩ (.bool false)).setCell ⟨g,8,none⟩ (.int .i64 0)).setCell ⟨g,9,none⟩ (.slice none 0 0)).heap[i]? =wr.heap[i]? :=by
  intro i _ d;rw[q0K _ _ d,q0K _ _ d,q0K _ _ d,q0K _ _ d]
 refine⟨r,j.headKv q ((((j.head.set 6 _).set 7 _).set 8 _).set 9 _) rfl (Own.nil _ _ _ _),l,b.trans ⟨rfl,rfl,rfl,by simp[World.setCell],fun i s u=>q i s fun e=>u (.inl e)⟩⟩
theorem z4l(w:World)(g:Nat)(b:w.cell? ⟨g,0,none⟩=some (.bool true))(d:w.cell? ⟨g,6,none⟩=some (.bool true))(v:Value):Calls Tryz.prog 31 #[.pointer (some ⟨g,0,none⟩),v] w fun e w'=>e= .returned (.int .i64 61)/\w=w':=by
 have H:=η (q3w w g b d);clear b d;go_enter Tryz.func31,Tryz.ntmps31;go_wp2_with fail;refine H.o.mono ?_;rintro e w' ⟨rfl,rfl⟩;go_wp2_with fail;go_ret;exact⟨rfl,rfl⟩
theorem crash_c(h:DkI w g m kv L (q0P σ.L:Int) σ)(ho:okD σ)(x0:σ.down=false)(ka:Option Addr)(kn kc:Nat)(xs:List Int)
  (M: ∀W,OffS (MutD g m L) w W->Ints W ka kn kc xs):
  Calls Tryz.prog 31 #[.pointer (some ⟨g,0,none⟩),.slice ka kn kc] w fun e w'=>e= .returned (.int .i64 0)/\
   ∃L',DkI w' g m (.slice none 0 0) L' (q0P (q0s σ.L xs):Int) (q5L σ xs)/\(∀i,InF m L' i->InF m L i)/\OffS (MutD g m L) w w':=by
 have c6:=h.c6;rw[x0] at c6;have HR:=η (q4M w g h.c0 c6);have G0:L.length=σ.L.length:=by rw[<-h.files,List.length_map]
 have n0:=ho.many;have HN:=η (z2V w g m L h.c0 h.c3 h.fs (by omega));have HI:=η h;have HO:=η ho;have HK:=η M;have q0:L.map FE.nm=σ.L.map FM.nm:=by rw[<-h.files,List.map_map];rfl
 obtain⟨n,hn⟩: ∃n,σ.L.length=n:=⟨_,rfl⟩
 have Q0:n<=400:=by omega
 have g0:=η q0;have e0:=η hn;clear h ho M x0 c6 G0 n0 q0;go_enter Tryz.func31,Tryz.ntmps31;go_wp2_with fail;refine HR.o.mono ?_;rintro e w' ⟨rfl,rfl⟩;go_wp2_with fail;refine HN.o.mono ?_;intro e w1 a0;obtain⟨na,nc,rfl,q,J⟩:=a0.o;have Z:(L.map FE.nm).length=n:=by rw[g0.o,List.length_map,e0.o]
 rw[Z] at q⊢;have X:=η q;have HE:=η J;have C0:=η (HI.o.ext J);have J0:n<=nc/\nc<=9223372036854775807:=by
  obtain⟨ao,cap,e1,D,E,_⟩:=q.rd
  cases e1;exact⟨D,E⟩
 have V:=HK.o w (OffS.refl _ _);have N0:=V.fits;have U0:=V.bound;have D0:=η V.len;clear a0 q J hn Z V;go_wp2_with fail
 go_loopw [18] (fun i wr=> ∃k:Nat,k<=n/\i= .int .i64 k/\CrR w1 g m kv L σ xs k wr) (fun i _=>n-(intOf i).toNat)
 case atStart=>exact⟨0,υ _,rfl,CrR.start C0.o xs⟩
 case round=>
  obtain⟨k,hk,rfl,S⟩:=hrel;by_cases P0:k<n
  ·obtain⟨Lk,r,U,s⟩:=S
   have B:k<σ.L.length:=by rw[e0.o];exact P0
   have u0: ∀j,MutD g m L j->j<w.heap.size:=fun j hj=>HI.o.mut_lt hj
   have q:=s.own X.o fun i hb hm=>by have:=(X.o.lt i hb).1;have:=u0 i hm;omega
   obtain⟨gb,cap,hv,G,_,_⟩:=q.cell (j:=k) (by simp only[List.length_map];rw[<-List.length_map (f:=FE.nm),g0.o,List.length_map];exact B)
   cases hv;have w0:((L.map FE.nm).map encStr)[k]? =some (.string ⟨σ.L[k].nm.toArray⟩):=by
    rw[g0.o,List.getElem?_map,List.getElem?_map,γ B];rfl
   rw[<-γ,w0] at G;have l0:=(z0l xs B HO.o.ord).1;have Y:q0F FM.nm σ.L[k].nm (Lk.map FE.f)=some σ.L[k]:=by rw[r.files];exact l0
   obtain⟨e,y,I⟩:=y3I Y;have he:=(q0J y).1;have o0:e.f.sy<=e.f.da.length:=by rw[I];exact HO.o.sy _ (List.getElem_mem B)
   have v0:σ.L[k].nm.length<=9223372036854775807:=by rw[<-I];exact r.fs.nm_le he
   have b0:=z6v r.fs v0 y;obtain⟨ao,fc,B0,I0,S0,T0,_⟩:=(r.fs.row e he).rd;have f0:=r.f0 he;rw[B0] at f0;have f1:=r.f1 he;have c3:=r.c3;have m0:=HK.o wr ((OffS.of_ext HE.o).trans s);have R0:e.f.da.length<=q0P (q4a σ.L xs k):=by rw[I];exact q7H (fun f:FM=>f.da.length) (q0J l0).1
   have y0:=z5c σ.L xs k;have z0:=HO.o.used;have A0:=HO.o.cap1;have j0:e.f.da.length<=1048576:=by omega
   have k0:(q0P (q4a σ.L xs k):Int)<=1048576:=by omega
   obtain⟨nm,O⟩: ∃nm,σ.L[k].nm=nm:=⟨_,rfl⟩
   have t0:DkI wr.drew g m kv Lk (q0P (q4a σ.L xs k):Int) {σ with L:=q4a σ.L xs k}:=r.ext (Ext.drew (Ext.refl _));have u:=η (fun nn h0 D=>y3G t0 rfl k0 (z3u HO.o.ord (z2E _ _ _)) y o0 nn h0 D);have d:=η (fun wc e' (nn:Int)=>CrR.step (wc:=wc) (e':=e') (n:=nn) HO.o B r U s (OffS.of_ext (Ext.drew (Ext.refl _))) y I);rw[O] at b0 G u d;obtain⟨dl,s0⟩: ∃dl,e.f.da.length=dl:=⟨_,rfl⟩
   obtain⟨sy,d0⟩: ∃sy,e.f.sy=sy:=⟨_,rfl⟩
   obtain⟨bb,r0⟩: ∃bb,e.b=bb:=⟨_,rfl⟩
   rw[s0] at o0 f0 I0 d j0;rw[d0] at o0 f1 d;rw[r0] at f0 f1 b0 u d;have HM:Hd (∀e':FE,e'∈q1P FE.nm nm (fun _=>e') Lk):=η (fun e'=>by rw[<-O];exact(q4t (f:=fun _=>e') r.fs.ord y).2 (.inl rfl));obtain⟨x,hx⟩: ∃x,xs.getD k 0=x:=⟨_,rfl⟩
   rw[hx] at d;have HX:=η hx;clear r U s B u0 q w0 l0 Y y I he v0 B0 R0 y0 z0 A0 O t0 s0 d0 r0 hx;by_cases O0:k<kn
   ·obtain⟨bk,ok,rfl,H0⟩:=m0.at O0
    rw[HX.o] at H0;clear m0;go_wp2_with fail
    go_still_tail 19,(by kernel_rfl)
    go_wp2_with fail;refine(u.o _ (by omega) (by omega)).mono ?_;rintro en wc ⟨rfl,e',D,E,h3,v,hc⟩;have l:=HM.o e';have HS:=η (d.o wc e' _ (by omega) D E h3 v hc);obtain⟨E0,F0,R,K0,L0,M0,_⟩:=(v.fs.row e' l).rd;have C:=v.f0 l;have p0:=v.fz l 1;have i0:=v.f1 l;rw[R] at C;rw[E] at C p0 i0 HS;generalize e'.f.da.length=dl' at*;clear v hc D h3 R l E;go_wp2_with fail
    go_roundw
    case rel=>exact⟨k+1,by omega,by go_num,HS.o⟩
    case measure=>simp[intOf];omega
   ·obtain rfl:x=0:=by
     rw[<-HX.o,δ,List.getElem?_eq_none (by rw[D0.o];omega)];rfl
    clear m0;go_wp2_with fail
    go_still_tail 19,(by kernel_rfl)
    go_wp2_with fail;refine(u.o _ (by omega) (by omega)).mono ?_;rintro en wc ⟨rfl,e',D,E,h3,v,hc⟩;have l:=HM.o e';have HS:=η (d.o wc e' _ (by omega) D E h3 v hc);obtain⟨E0,F0,R,K0,L0,M0,_⟩:=(v.fs.row e' l).rd;have C:=v.f0 l;have p0:=v.fz l 1;have i0:=v.f1 l;rw[R] at C;rw[E] at C p0 i0 HS;generalize e'.f.da.length=dl' at*;clear v hc D h3 R l E;go_wp2_with fail
    go_roundw
    case rel=>exact⟨k+1,by omega,by go_num,HS.o⟩
    case measure=>simp[intOf];omega
  ·obtain rfl:k=n:=by omega
   have HC:=η (by rw[<-e0.o] at S;exact CrR.done S);obtain⟨Lk,r,U,s⟩:=S;have c6:=r.c6;have c7:=r.c7;have c8:=r.c8;have c9:=r.c9;have z6:=r.z 6;have z7:=r.z 7;have z8:=r.z 8;have z9:=r.z 9;clear r U s;go_wp2_with fail;go_ret;obtain⟨L',D,E,h3⟩:=HC.o;exact⟨rfl,L',D,E,(OffS.of_ext HE.o).trans h3⟩
def Fin(w:World)(g m:Nat)(kv:Value)(L:List FE)(σ':DM)(w':World):Prop:=
 okD σ'/\ ∃m' kv' L',DkI w' g m' kv' L' (q0P σ'.L:Int) σ'/\(∀i,InD g m' kv' L' i->InD g m kv L i\/w.heap.size<=i)/\OffS (InD g m kv L) w w'
theorem Dk.openD(h:Dk w g F σ):okD σ/\ ∃m kv L,DkI w g m kv L (q0P σ.L:Int) σ/\ ∀σ' w',Fin w g m kv L σ' w'->DkS w g F σ' w':=by
 obtain⟨s,m,kv,L,r,o,q⟩:=h;refine⟨s,m,kv,L,r,fun σ' w' ⟨l,x,u,v,d,j,b⟩=>DkS.mk' o q l d b j⟩
theorem Fin.same(d:okD σ)(h:DkI w g m kv L (q0P σ.L:Int) σ):Fin w g m kv L σ w:=
 ⟨d,m,kv,L,h,fun i b=> .inl b,OffS.refl _ _⟩
theorem Fin.ext(d:okD σ)(h:DkI w g m kv L (q0P σ.L:Int) σ)(k:Ext w w'):Fin w g m kv L σ w':=
 ⟨d,m,kv,L,h.ext k,fun i b=> .inl b,OffS.of_ext k⟩
theorem Fin.after{x:Nat}{o:Value}(l: ∀i,InD g x o L1 i->InD g m kv L i\/w.heap.size<=i)(b:OffS (InD g m kv L) w w1)(h:Fin w1 g x o L1 σ' w'):Fin w g m kv L σ' w':=by
 obtain⟨D,G,r,y,C,B,d⟩:=h;have q:=b.size;refine⟨D,G,r,y,C,fun i E=>?_,⟨d.os.trans b.os,d.tape.trans b.tape,d.output.trans b.output,Ω q d.size,fun i u v=>?_⟩⟩
 ·rcases B i E with j|j
  ·exact l i j
  ·exact .inr (Ω q j)
 ·refine(d.block i (Ψ u q) fun j=>?_).trans (b.block i u v)
  rcases l i j with s|s
  ·exact v s
  ·omega
theorem Fin.head(v:okD σ')(h:DkI w g m kv L us σ)(x:w.heap.size<=w'.heap.size)(d:w'.os=w.os)(j:w'.tape=w.tape)(l:w'.output=w.output)(b: ∀i,i<w.heap.size->i≠g->w'.heap[i]? =w.heap[i]?)
  (q:Blk w' g 134 (q6y σ' (q0P σ'.L:Int) m kv))(o:σ'.L=σ.L)(hK:σ'.keep=σ.keep):Fin w g m kv L σ' w':=
 ⟨v,m,kv,L,h.headSet b q o hK,fun i r=> .inl r,⟨d,j,l,x,fun i s u=>b i s fun e=>u (.inl e)⟩⟩
theorem Fin.file(M:okD σ')(h:DkI w g m kv L us σ){nm:List UInt8}(s:q0F FE.nm nm L=some e)(e':FE)(J:e'.f.nm=nm)(y:e'.b=e.b)
  (O:w.heap.size<=w'.heap.size)(C:w'.os=w.os)(D:w'.tape=w.tape)(E:w'.output=w.output)(B: ∀i,i<w.heap.size->i≠g->i≠e.b->e.v.ownBlock≠some i->w'.heap[i]? =w.heap[i]?)
  (x:Blk w' g 134 (q6y σ' (q0P σ'.L:Int) m kv))(l:Blk w' e.b 153 #[e'.v,.int .i64 (e'.f.sy:Int)])(o:Own w' 0 5 1 e'.v e'.f.da.length (e'.f.da.map q1R))
  (d: ∀i,e'.v.ownBlock=some i->e.v.ownBlock=some i\/w.heap.size<=i)(f:FM->FM)(u:e'.f=f e.f)(G:σ'.L=q1P FM.nm nm f σ.L)(hK:σ'.keep=σ.keep):Fin w g m kv L σ' w':=by
 have he:=(q0J s).1;refine⟨M,m,kv,_,h.fileSet s e' J y B x l o d f u G hK,fun i I=>?_,(q7G he O C D E B).inD⟩;rcases I with j|j|j
 ·exact .inl (.inl j)
 ·rcases InF.upd h.fs.ord s y j with q|q
  ·exact .inl (.inr (.inl q))
  ·rcases d i q with r|r
   ·exact .inl (.inr (.inl (.inr ⟨e,he,.inr r⟩)))
   ·exact .inr r
 ·exact .inl (.inr (.inr j))
theorem z6q(h:DkI w g m kv L us σ): ∃b d,kv= .slice b σ.keep.length d/\ ∀W,OffS (MutD g m L) w W->Ints W b σ.keep.length d σ.keep:=by
 obtain⟨b,d,o⟩:=h.keep.slice;refine⟨b,d,o,fun W v=>?_⟩;have x:Own W 0 3 1 kv σ.keep.length (σ.keep.map (Value.int .i64)):=v.own h.keep fun i l hm=>hm.elim (h.keepF l).1 (h.keepF l).2
 obtain⟨ao,cap,j,q,r,s,u⟩:=x.rd;rw[o] at j
 cases j;exact⟨rfl,q,r,s,u⟩
theorem z1a(h:DkI w g m kv L (q0P σ.L:Int) σ)(q:okD σ)(j:σ.down=false):
  Calls Tryz.prog 194 #[.pointer (some ⟨g,0,none⟩)] w fun e w'=>e= .returned (.int .i64 61)/\Fin w g m kv L (q4m σ) w':=by
 obtain⟨u,v,rfl,s⟩:=z6q h;have x:=η (crash_c h q j u _ v _ s);have y:=η q.sink;have D:=h.c9;clear h q s j;go_enter Tryz.func194,Tryz.ntmps194;go_wp2_with fail;refine x.o.mono ?_;rintro e w' ⟨rfl,B,r,d,b⟩;have l:Fin w g m (.slice u σ.keep.length v) L (q4m σ) w':=by
  refine⟨y.o,m,_,B,r,fun i C=>?_,b.inD⟩;rcases C with h|h|h
  ·exact .inl (.inl h)
  ·exact .inl (.inr (.inl (d i h)))
  ·cases h
 have l:=η l;clear r d b;go_wp2_with fail;go_ret;exact⟨rfl,l.o⟩
theorem z1g(h:DkI w g m kv L us σ)(b:okD σ)(o:q1p σ=false):
  Calls Tryz.prog 193 #[.pointer (some ⟨g,0,none⟩)] w fun e w'=>e= .returned (.bool false)/\DkI w' g m kv L us (q1c σ)/\OffS (MutD g m L) w w'/\w'.heap.size=w.heap.size/\ ∀i,i≠g->w'.heap[i]? =w.heap[i]? :=by
 refine(z8r w g σ.fail σ.left h.c7 h.c8 (h.z 8) b.left b.left1 (fun j l=>by simp[q1p,j,l] at o)).mono ?_;rintro e w' ⟨rfl,rfl⟩;have d: ∀i,i≠g->(w.setCell ⟨g,8,none⟩ (.int .i64 (max (σ.left-1) 0))).heap[i]? =w.heap[i]? :=fun i q=>q0K _ _ q
 exact⟨rfl,h.headSet (fun i _=>d i) (h.head.set 8 _) rfl rfl,OffS.set w (F:=MutD g m L) (.inl rfl) _ _,by simp[World.setCell],d⟩
theorem z1b(h:DkI w g m kv L us σ)(b:q1p σ=true):
  Calls Tryz.prog 193 #[.pointer (some ⟨g,0,none⟩)] w fun e w'=>e= .returned (.bool true)/\w=w':=by
 simp[q1p] at b;have d:=h.c7;have j:=h.c8;rw[b.1] at d;rw[b.2] at j;exact z6X w g d j
theorem y3Z(h:Dk w g F σ):Calls Tryz.prog 76 #[.pointer (some ⟨g,0,none⟩)] w fun e w'=>e= .returned (.bool (!σ.down))/\w=w':=by
 obtain⟨l,m,kv,L,d,_⟩:=h;have b:=d.c6
 cases hd:σ.down with
 | false=>
  rw[hd] at b;have j:=η (q4M w g d.c0 b);clear d l b hd;go_enter Tryz.func76,Tryz.ntmps76;go_wp2_with fail;refine j.o.mono ?_;rintro e w' ⟨rfl,rfl⟩;go_wp2_with fail;go_ret;exact⟨rfl,rfl⟩
 | true=>
  rw[hd] at b;have j:=η (q3w w g d.c0 b);clear d l b hd;go_enter Tryz.func76,Tryz.ntmps76;go_wp2_with fail;refine j.o.mono ?_;rintro e w' ⟨rfl,rfl⟩;go_wp2_with fail;go_ret;exact⟨rfl,rfl⟩
theorem y2D(h:Dk w g F σ):Calls Tryz.prog 265 #[.pointer (some ⟨g,0,none⟩)] w fun e w'=>e= .returned (.int .i64 (z2M σ))/\Ext w w':=by
 obtain⟨j,m,kv,L,d,_⟩:=h;have r:=η (q6V w g true d.c0);have v:=d.c1;have s:=d.c2;have x:=j.cap0;have y:=j.cap1;have u:=j.used;obtain⟨us,b⟩: ∃us:Int,(q0P σ.L:Int)=us:=⟨_,rfl⟩
 have l:0<=us:=by omega
 have q:Hd (z2M σ=σ.cap-us):=η (by rw[<-b];rfl);rw[b] at s u;generalize σ.cap=cp at*;clear d j b;go_enter Tryz.func265,Tryz.ntmps265;go_wp2_with fail;refine r.o.mono ?_;rintro e w' ⟨rfl,rfl⟩;go_wp2_with fail
 go_quiet (fail)
 go_wp2_with fail;go_ret;rw[q.o];exact⟨rfl,(Ext.refl w).drewN _⟩
theorem z0M(h:Dk w g F σ):Calls Tryz.prog 138 #[.pointer (some ⟨g,0,none⟩)] w fun e w'=>e= .returned (.int .i64 σ.starts)/\w=w':=by
 obtain⟨j,m,kv,L,b,_⟩:=h;have d:=η (q6V w g true b.c0);have l:=b.c5;clear b j;go_enter Tryz.func138,Tryz.ntmps138;go_wp2_with fail;refine d.o.mono ?_;rintro e w' ⟨rfl,rfl⟩;go_wp2_with fail;go_ret;exact⟨rfl,rfl⟩
theorem q8k(h:DkI w g m kv L us σ)(nm:List UInt8)(j:nm.length<=9223372036854775807):
  (σ.down=true/\ ∃R:Hd (Calls Tryz.prog 192 #[.pointer (some ⟨g,0,none⟩),.string ⟨nm.toArray⟩] w fun e w'=>e= .returned (.tuple #[.pointer none,.int .i64 61])/\w=w'),True)\/
  (σ.down=false/\q0F FM.nm nm σ.L=none/\q0F FE.nm nm L=none/\ ∃R:Hd (Calls Tryz.prog 192 #[.pointer (some ⟨g,0,none⟩),.string ⟨nm.toArray⟩] w fun e w'=>e= .returned (.tuple #[.pointer none,.int .i64 4])/\w=w'),True)\/
  (σ.down=false/\ ∃e:FE,q0F FE.nm nm L=some e/\q0F FM.nm nm σ.L=some e.f/\e∈L/\ ∃R:Hd (Calls Tryz.prog 192 #[.pointer (some ⟨g,0,none⟩),.string ⟨nm.toArray⟩] w fun en w'=>en= .returned (.tuple #[.pointer (some ⟨e.b,0,none⟩),.int .i64 0])/\w=w'),True):=by
 have d:=h.c6
 cases hd:σ.down with
 | true=>
  rw[hd] at d;exact .inl ⟨rfl,η (z0w w g h.c0 d _),trivial⟩
 | false=>
  rw[hd] at d
  cases hf:q0F FE.nm nm L with
  | none=>
   refine .inr (.inl ⟨rfl,?_,rfl,η (find_none w g m nm h.c0 d h.c3 (z2R h.fs j hf)),trivial⟩);rw[<-h.files,q1t (k:=FE.nm) (k':=FM.nm) (h:=FE.f) (fun x=>rfl),hf];rfl
  | some e=>
   refine .inr (.inr ⟨rfl,e,rfl,?_,(q0J hf).1,η (find_some w g m e.b nm h.c0 d h.c3 (q9r h.fs j hf)),trivial⟩);rw[<-h.files,q1t (k:=FE.nm) (k':=FM.nm) (h:=FE.f) (fun x=>rfl),hf];rfl
theorem q6p(h:Dk w g F σ)(nm:List UInt8)(x:nm.length<=9223372036854775807):
  Calls Tryz.prog 135 #[.pointer (some ⟨g,0,none⟩),.string ⟨nm.toArray⟩] w fun e w'=>e= .returned (.tuple #[.int .i64 (q1m σ nm).1,.int .i64 (q1m σ nm).2])/\w=w':=by
 obtain⟨s,m,kv,L,j,_⟩:=h;rcases q8k j nm x with⟨d,R,_⟩|⟨d,q,_,R,_⟩|⟨d,e,r,q,he,R,_⟩
 ·have l:Hd (q1m σ nm=(0,61)):=η (by unfold q1m;rw[ξ d])
  clear j s d;go_enter Tryz.func135,Tryz.ntmps135;go_wp2_with fail;refine R.o.mono ?_;rintro e w' ⟨rfl,rfl⟩;go_wp2_with fail;go_ret2;rw[l.o];exact⟨rfl,rfl⟩
 ·have l:Hd (q1m σ nm=(0,4)):=η (by unfold q1m;rw[κ (by rw[d];decide),q])
  clear j s d q;go_enter Tryz.func135,Tryz.ntmps135;go_wp2_with fail;refine R.o.mono ?_;rintro e w' ⟨rfl,rfl⟩;go_wp2_with fail;go_ret2;rw[l.o];exact⟨rfl,rfl⟩
 ·have l:Hd (q1m σ nm=((e.f.da.length:Int),0)):=η (by unfold q1m;rw[κ (by rw[d];decide),q])
  obtain⟨ao,cap,u,_⟩:=(j.fs.row e he).rd;have v:=j.f0 he;rw[u] at v;clear j s d q r he u;generalize e.f.da.length=dl at*;generalize e.b=bb at*;go_enter Tryz.func135,Tryz.ntmps135;go_wp2_with fail;refine R.o.mono ?_;rintro e w' ⟨rfl,rfl⟩;go_wp2_with fail;go_ret2;rw[l.o];exact⟨rfl,rfl⟩
theorem q2z{o:Oper}(b:FS w m L)(j:o.guard=none)(x:Operand)
  (d:o.op=Op.call {callee:=Callee.builtin Builtin.len,args:=#[x],argTypes:=#[132]})(hm:a.eval x= .map (some m))
  (hK:wpList Tryz.prog ops Q rest (a.put o.dst (.int .i64 (L.length:Nat))) w):wpList Tryz.prog ops Q (o::rest) a w:=
 wpList_len_own w j x 132 d 9 150 Tryz.underlying132 q6I m L.length (q5d L) hm b.map (by rw[q7a];exact hK)
theorem Fin.create(h:DkI w g m kv L (q0P σ.L:Int) σ){nm:List UInt8}(O:okD {σ with L:=q1e FM.nm ⟨nm,[],0⟩ σ.L})(E:q0F FE.nm nm L=none)
  (u:w3.ownsMap Tryz.prog 9 q6I m n ((q5d L).put (.string nm) (.lit (.int .i64 w.heap.size))))(b:(w.alloc (.cells #[.slice none 0 0,.int .i64 0] 153)).mapTurned w3 m):
  Fin w g m kv L {σ with L:=q1e FM.nm ⟨nm,[],0⟩ σ.L} w3:=by
 obtain⟨x,l⟩: ∃x:FE,x=⟨⟨nm,[],0⟩,w.heap.size,.slice none 0 0⟩:=⟨_,rfl⟩
 have v:=Blk.new w 153 #[.slice none 0 0,.int .i64 0];have j:=q0B w (.cells #[.slice none 0 0,.int .i64 0] 153);have C:m≠w.heap.size:=Nat.ne_of_lt h.fs.map.lt;have G: ∀i,i≠m->i<w.heap.size+1->w3.heap[i]? =(w.alloc (.cells #[.slice none 0 0,.int .i64 0] 153)).heap[i]? :=fun i d s=>b.grown.block i (by rw[ρ];exact s) (fun e=>d (by cases e;rfl))
 have o: ∀i,i<w.heap.size->i≠m->w3.heap[i]? =w.heap[i]? :=fun i s d=>(G i d (by omega)).trans (j.block i s)
 have B:FS w3 m (q1e FE.nm x L):=by
  refine(h.fs.ext j).put x (by rw[l];exact E) (by rw[l];exact u) (fun i d D=>G i D (by have:=h.fs.lt d;omega)) ?_ ?_ (fun y R=>?_)
  ·rw[l];exact v.same (G _ (Ne.symm C) (Nat.lt_succ_self _))
  ·rw[l];exact Own.nil _ _ _ _
  ·rw[l]
   exact⟨Nat.ne_of_gt (h.fs.blk y R).lt,fun i d=>by cases d⟩
 refine⟨O,m,kv,_,⟨?_,B,?_,?_⟩,fun i d=>?_,?_⟩
 ·have J:=h.head.same (o g h.head.lt fun e=>h.ne (.inl e))
  have I:(q0P (q1e FM.nm ⟨nm,[],0⟩ σ.L):Int)=q0P σ.L:=by rw[q8N];simp
  show Blk w3 g _ (q6y {σ with L:=q1e FM.nm ⟨nm,[],0⟩ σ.L} (q0P (q1e FM.nm ⟨nm,[],0⟩ σ.L):Int) m kv);rw[I];exact J
 ·show(q1e FE.nm x L).map FE.f=q1e FM.nm ⟨nm,[],0⟩ σ.L
  rw[q5u (k:=FE.nm) (k':=FM.nm) (h:=FE.f) (fun x=>rfl),h.files,l]
 ·exact h.keep.same fun i d=>o i (h.keep.lt i d).2 fun e=>(h.keepF d).2 (.inl e)
 ·rcases d with r|r|r
  ·exact .inl (.inl r)
  ·rcases InF.ins r with q|q|q
   ·right;rw[q,l];exact ι _
   ·rw[l] at q;cases q
   ·exact .inl (.inr (.inl q))
  ·exact .inl (.inr (.inr r))
 ·refine⟨b.grown.os,b.grown.tape,b.grown.output,?_,fun i s M=>o i s fun e=>M (.inr (.inl (.inl e)))⟩
  have:=b.grown.size;rw[ρ] at this;omega
theorem z3T(h:Dk w g F σ)(nm:List UInt8)(hl:nm.length<=9223372036854775807):
  Calls Tryz.prog 211 #[.pointer (some ⟨g,0,none⟩),.string ⟨nm.toArray⟩] w fun e w'=>e= .returned (.int .i64 (q2C σ nm).1)/\DkS w g F (q2C σ nm).2 w':=by
 obtain⟨s,m,kv,L,j,X⟩:=h.openD;have I:=η X;have S:=η j;have V:=η s;have u:=j.c6;have c3:=j.c3;have C:=η (show L.length=σ.L.length by rw[<-j.files,List.length_map]);have hm:=s.many;have y:=η (fun W=>y0D W nm hl);clear h X
 cases hd:σ.down with
 | true=>
  rw[hd] at u;have D:=η (q3w w g j.c0 u);have q:Hd (q2C σ nm=(61,σ)):=η (by unfold q2C;rw[ξ hd]);clear j s hd u hm c3;go_enter Tryz.func211,Tryz.ntmps211;go_wp2_with fail;refine D.o.mono ?_;rintro e w' ⟨rfl,rfl⟩;go_wp2_with fail;go_ret;rw[q.o];exact⟨rfl,I.o _ _ (Fin.same V.o S.o)⟩
 | false =>
  rw[hd] at u;have D:=η (q4M w g j.c0 u);have r:q2C σ nm=if !q2G nm then(2,σ) else if (q0F FM.nm nm σ.L).isSome then(62,σ) else if 400<=σ.L.length then(60,σ) else if q1p σ then(61,q4m σ) else(0,{q1c σ with L:=q1e FM.nm ⟨nm,[],0⟩ σ.L}):=by
   unfold q2C;rw[κ (by rw[hd];decide)]
  cases hf:q0F FE.nm nm L with
  | some e0=>
   have G:=q9r j.fs hl hf;have d:(q0F FM.nm nm σ.L).isSome=true:=by rw[<-j.files,q1t (k:=FE.nm) (k':=FM.nm) (h:=FE.f) (fun x=>rfl),hf];rfl
   cases hn:q2G nm with
   | false=>
    have q:Hd (q2C σ nm=(2,σ)):=η (by rw[r,hn];rfl);rw[hn] at y;clear j s hd u hm hf r hn d;generalize e0.b=bb at*;go_enter Tryz.func211,Tryz.ntmps211;go_wp2_with fail;refine D.o.mono ?_;rintro e w' ⟨rfl,rfl⟩;go_wp2_with fail;refine(y.o _).mono ?_;rintro e w' ⟨rfl,rfl⟩;go_wp2_with fail;go_ret;rw[q.o];exact⟨rfl,I.o _ _ (Fin.same V.o S.o)⟩
   | true=>
    have q:Hd (q2C σ nm=(62,σ)):=η (by rw[r,hn,d];rfl);rw[hn] at y;clear j s hd u hm hf r hn d;generalize e0.b=bb at*;go_enter Tryz.func211,Tryz.ntmps211;go_wp2_with fail;refine D.o.mono ?_;rintro e w' ⟨rfl,rfl⟩;go_wp2_with fail;refine(y.o _).mono ?_;rintro e w' ⟨rfl,rfl⟩;go_wp2_with fail;go_ret;rw[q.o];exact⟨rfl,I.o _ _ (Fin.same V.o S.o)⟩
  | none =>
   have G:=z2R j.fs hl hf;have d:q0F FM.nm nm σ.L=none:=by rw[<-j.files,q1t (k:=FE.nm) (k':=FM.nm) (h:=FE.f) (fun x=>rfl),hf];rfl
   cases hn:q2G nm with
   | false=>
    have q:Hd (q2C σ nm=(2,σ)):=η (by rw[r,hn];rfl);rw[hn] at y;clear j s hd u hm hf r hn d;go_enter Tryz.func211,Tryz.ntmps211;go_wp2_with fail;refine D.o.mono ?_;rintro e w' ⟨rfl,rfl⟩;go_wp2_with fail;refine(y.o _).mono ?_;rintro e w' ⟨rfl,rfl⟩;go_wp2_with fail;go_ret;rw[q.o];exact⟨rfl,I.o _ _ (Fin.same V.o S.o)⟩
   | true =>
    rw[hn] at y;have J:=η j.fs;have d0:=η hf;by_cases O:400<=σ.L.length
    ·have q:Hd (q2C σ nm=(60,σ)):=η (by rw[r,hn,d];simp[O])
     have Y:((400:Int)<=(L.length:Int)):=by rw[C.o];omega
     have k0:decide ((400:Int)<=(L.length:Int))=true:=by simpa using Y
     clear j s hd u hm hf r hn d O;go_enter Tryz.func211,Tryz.ntmps211;go_wp2_with fail;refine D.o.mono ?_;rintro e w' ⟨rfl,rfl⟩;go_wp2_with fail;refine(y.o _).mono ?_;rintro e w' ⟨rfl,rfl⟩
     go_wp2_with (at_len;refine q2z J.o rfl _ rfl rfl ?_)
     go_ret;rw[q.o];exact⟨rfl,I.o _ _ (Fin.same V.o S.o)⟩
    ·have Y:((L.length:Int)<400):=by rw[C.o];omega
     have i0:L.length<400:=by omega
     cases hfl:q1p σ with
     | true=>
      have q:Hd (q2C σ nm=(61,q4m σ)):=η (by rw[r,hn,d];simp[O,hfl]);have HS:=η (z1b j hfl);have HK:=η (z1a j s hd);clear j s hd u hm hf r hn d O hfl;go_enter Tryz.func211,Tryz.ntmps211;go_wp2_with fail;refine D.o.mono ?_;rintro e w' ⟨rfl,rfl⟩;go_wp2_with fail;refine(y.o _).mono ?_;rintro e w' ⟨rfl,rfl⟩
      go_wp2_with (at_len;refine q2z J.o rfl _ rfl rfl ?_)
      refine HS.o.mono ?_;rintro e w' ⟨rfl,rfl⟩;go_wp2_with fail;refine HK.o.mono ?_;rintro e w' ⟨rfl,E⟩;have HX:=η E;clear E;go_wp2_with fail;go_ret;rw[q.o];exact⟨rfl,I.o _ _ HX.o⟩
     | false=>
      have q:Hd (q2C σ nm=(0,{q1c σ with L:=q1e FM.nm ⟨nm,[],0⟩ σ.L})):=η (by rw[r,hn,d];simp[O,hfl]);have HS:=η (z1g j s hfl);have f0:Hd (okD {q1c σ with L:=q1e FM.nm ⟨nm,[],0⟩ (q1c σ).L}):=η (s.tick.create d (by show σ.L.length<400;omega));have U:=η (z5A nm hl);clear j s hd u hm hf r hn d O hfl;go_enter Tryz.func211,Tryz.ntmps211;go_wp2_with fail;refine D.o.mono ?_;rintro e w' ⟨rfl,rfl⟩;go_wp2_with fail;refine(y.o _).mono ?_;rintro e w' ⟨rfl,rfl⟩
      go_wp2_with (at_len;refine q2z J.o rfl _ rfl rfl ?_)
      refine HS.o.mono ?_;rintro e w1 ⟨rfl,B,Z,h0,M⟩;have a0:=η B;have g0:Hd (OffS (InD g m kv L) w w1):=η Z.inD;have j0:=B.c3;have b0:=η (B.fs.map.alloc (.cells #[.slice none 0 0,.int .i64 0] 153));clear B Z h0 M c3 G
      go_wp2_with (at_mapUpdate;refine wpList_mapUpdate_in _ rfl _ _ _ 132 rfl 9 150 z9H Tryz.underlying132 q6I m L.length (q5d L) rfl b0.o (by unfold maxLen;omega) _ _ (.string nm) rfl rfl U.o (.lit (.int .i64 w1.heap.size)) [] (z2i _) ?_;intro w3 v l)
      have R:=η (Fin.after (fun i j=> .inl j) g0.o (Fin.create a0.o f0.o d0.o v l));clear v l;go_wp2_with fail;go_ret;rw[q.o];exact⟨rfl,I.o _ _ R.o⟩
theorem start_c(h:Dk w g F σ):
  Calls Tryz.prog 32 #[.pointer (some ⟨g,0,none⟩)] w fun e w'=>e= .returned (.int .i64 (q6q σ).1)/\DkS w g F (q6q σ).2 w':=by
 obtain⟨s,m,kv,L,b,j⟩:=h.openD;have u:=η j;have l:=η b;have x:=η s;have y:=b.c6;have v:=η (q6V w g true b.c0);clear h j
 cases hd:σ.down with
 | false=>
  rw[hd] at y;have q:Hd (q6q σ=(2,σ)):=η (by unfold q6q;rw[κ (by rw[hd];decide)]);clear b s hd;go_enter Tryz.func32,Tryz.ntmps32;go_wp2_with fail;refine v.o.mono ?_;rintro e w' ⟨rfl,rfl⟩;go_wp2_with fail;go_ret;rw[q.o];exact⟨rfl,u.o _ _ (Fin.same x.o l.o)⟩
 | true=>
  rw[hd] at y;have q:Hd (q6q σ=(0,{σ with down:=false,starts:=wrap64 (σ.starts+1)})):=η (by unfold q6q;rw[ξ hd]);have C:=b.c5;have E:=b.z 6;have D:=b.z 5;obtain⟨st,d⟩: ∃st,σ.starts=st:=⟨_,rfl⟩
  have r:=η d;rw[d] at C;clear b s hd d;go_enter Tryz.func32,Tryz.ntmps32;go_wp2_with fail;refine v.o.mono ?_;rintro e w' ⟨rfl,rfl⟩;go_wp2_with fail;go_ret;rw[q.o];refine⟨rfl,u.o _ _ (Fin.head (x.o.start _) l.o (by simp[World.setCell]) rfl rfl rfl (fun i _ B=>by rw[q0K _ _ B,q0K _ _ B]) ?_ rfl rfl)⟩;rw[r.o];exact(l.o.head.set 6 _).set 5 _
theorem z7m(h:Dk w g F σ)(nm:List UInt8)(hl:nm.length<=9223372036854775807):
  Calls Tryz.prog 228 #[.pointer (some ⟨g,0,none⟩),.string ⟨nm.toArray⟩] w fun e w'=>e= .returned (.int .i64 (q5J σ nm).1)/\DkS w g F (q5J σ nm).2 w':=by
 obtain⟨x,m,kv,L,d,M⟩:=h.openD;have U:=η M;have HI:=η d;have HO:=η x;clear h M;rcases q8k d nm hl with⟨l,R,_⟩|⟨l,s,_,R,_⟩|⟨l,e,D,s,he,R,_⟩
 ·have B:Hd (q5J σ nm=(61,σ)):=η (by unfold q5J;rw[ξ l])
  clear d x l;go_enter Tryz.func228,Tryz.ntmps228;go_wp2_with fail;refine R.o.mono ?_;rintro e w' ⟨rfl,rfl⟩;go_wp2_with fail;go_ret;rw[B.o];exact⟨rfl,U.o _ _ (Fin.same HO.o HI.o)⟩
 ·have B:Hd (q5J σ nm=(4,σ)):=η (by unfold q5J;rw[κ (by rw[l];decide),s];rfl)
  clear d x l s;go_enter Tryz.func228,Tryz.ntmps228;go_wp2_with fail;refine R.o.mono ?_;rintro e w' ⟨rfl,rfl⟩;go_wp2_with fail;go_ret;rw[B.o];exact⟨rfl,U.o _ _ (Fin.same HO.o HI.o)⟩
 ·cases hfl:q1p σ with
  | true=>
   have B:Hd (q5J σ nm=(61,q4m σ)):=η (by unfold q5J;rw[κ (by rw[l];decide),s,hfl];rfl);have W:=η (z1b d hfl);have HK:=η (z1a d x l);clear d x l s D he hfl;generalize e.b=X at*;go_enter Tryz.func228,Tryz.ntmps228;go_wp2_with fail;refine R.o.mono ?_;rintro e w' ⟨rfl,rfl⟩;go_wp2_with fail;refine W.o.mono ?_;rintro e w' ⟨rfl,rfl⟩;go_wp2_with fail;refine HK.o.mono ?_;rintro e w' ⟨rfl,u⟩;have HX:=η u;clear u;go_wp2_with fail;go_ret;rw[B.o];exact⟨rfl,U.o _ _ HX.o⟩
  | false=>
   have B:Hd (q5J σ nm=(0,{q1c σ with L:=q1P FM.nm nm (fun f=>{f with sy:=f.da.length}) σ.L})):=η (by unfold q5J;rw[κ (by rw[l];decide),s,hfl];rfl);have W:=η (z1g d x hfl);have J:=η (x.tick.sync (σ:=q1c σ) s);have I:=η D;have r:=η he;obtain⟨ao,cap,hv,_⟩:=(d.fs.row e he).rd;have HV:=η hv;obtain⟨dl,O⟩: ∃dl,e.f.da.length=dl:=⟨_,rfl⟩
   obtain⟨X,C⟩: ∃X,e.b=X:=⟨_,rfl⟩
   have G:=η O;have y:=η C;rw[C] at R;clear d x l s D he hfl hv O C;go_enter Tryz.func228,Tryz.ntmps228;go_wp2_with fail;refine R.o.mono ?_;rintro e w' ⟨rfl,rfl⟩;go_wp2_with fail;refine W.o.mono ?_;rintro en w1 ⟨rfl,q,S,a0,E⟩;have j:=η q;have V:Hd (OffS (InD g m kv L) w w1):=η S.inD;have f0:=q.f0 r.o;have f1:=q.f1 r.o;have y1:=q.fz r.o 1;rw[HV.o,G.o,y.o] at f0;rw[y.o] at f1 y1;generalize e.f.sy=sy at*;clear q S a0 E;go_wp2_with fail;go_ret;rw[B.o];have Y:=j.o.neB r.o;have Z:=(j.o.fs.blk e r.o).own (j.o.fs.row e r.o) (by decide);rw[<-G.o,<-y.o];refine⟨rfl,U.o _ _ (Fin.after (fun i d=> .inl d) V.o (Fin.file J.o.1 j.o I.o (⟨{e.f with sy:=e.f.da.length},e.b,e.v⟩:FE) (q0J I.o).2 rfl (by simp[World.setCell]) rfl rfl rfl (fun i _ _ hb _=>q0K _ _ hb) ?_ ((j.o.fs.blk e r.o).set 1 _) ((j.o.fs.row e r.o).same fun i d=>q0K _ _ fun e1=>Z (e1▸d)) (fun i d=> .inl d) (fun f=>{f with sy:=f.da.length}) rfl rfl rfl))⟩;have b0:(q0P (q1P FM.nm nm (fun f=>{f with sy:=f.da.length}) (q1c σ).L):Int)=q0P σ.L:=by rw[J.o.2];rfl
   have hh:=j.o.head.o Y 1 (.int .i64 (e.f.da.length:Int));rw[<-b0] at hh;exact hh
theorem z6Q(h:DkI w g m kv L (q0P σ.L:Int) σ)(S:okD σ){nm:List UInt8}(C:nm.length<=9223372036854775807)(R:q0F FE.nm nm L=some e):
  Calls Tryz.prog 195 #[.pointer (some ⟨g,0,none⟩),.string ⟨nm.toArray⟩] w fun en w'=>en= .returned (.tuple #[])/\DkI w' g m kv (q1M FE.nm nm L) (q0P (q1M FM.nm nm σ.L):Int) {σ with L:=q1M FM.nm nm σ.L}/\OffS (MutD g m L) w w':=by
 obtain⟨he,W⟩:=q0J R;obtain⟨ao,cap,hv,h1,h2,h3,_⟩:=(h.fs.row e he).rd;have I:q0F FM.nm nm σ.L=some e.f:=by
  rw[<-h.files,q1t (k:=FE.nm) (k':=FM.nm) (h:=FE.f) (fun x=>rfl),R];rfl
 have j:=q8M S.ord I;have O:=S.used;have G:=S.cap1;have a0:=q9r h.fs C R;have Z:=h.f0 he;rw[hv] at Z;have c2:=h.c2;have c3:=h.c3;have z2:=h.z 2;have d0:=h.neB he;have J:g≠m:=q4h h.fs.map h.head;have u:=η h;have E:=η j;obtain⟨us,X⟩: ∃us,q0P σ.L=us:=⟨_,rfl⟩
 obtain⟨v,y⟩: ∃v,e.f.da.length=v:=⟨_,rfl⟩
 rw[y] at Z j h1;rw[X] at c2 j O;have HU:=η X;have HD:=η y;have e0:(v:Int)<=(us:Int):=by omega
 have b0:(us:Int)<=1048576:=by omega
 have D:=η (z5A nm C);clear h S I j O G R he W hv X y;generalize e.b=bb at*;go_enter Tryz.func195,Tryz.ntmps195;go_wp2_with fail
 go_region
 have d:=η (((u.o.head.set 2 (.int .i64 ((us:Int)-(v:Int)))).drew));have M:((w.setCell ⟨g,2,none⟩ (.int .i64 ((us:Int)-(v:Int)))).drew).ownsMap Tryz.prog 9 q6I m L.length (q5d L):=q2X u.o.fs.map (q0K _ _ (Ne.symm J));have U:=η M;clear M;have c0:((w.setCell ⟨g,2,none⟩ (.int .i64 ((us:Int)-(v:Int)))).drew).cell? ⟨g,3,none⟩=some (.map (some m)):=d.o.cell 3
 go_wp2_with (at_delete;refine wpList_delete_own _ rfl _ _ 132 9 rfl 150 z9H Tryz.underlying132 q6I m L.length (q5d L) rfl U.o _ (.string nm) rfl D.o ?_;intro w3 s l)
 have V:=η s;have q:=η l;clear s l;go_wp2_with fail
 go_end0
 have Y: ∀i,i≠g->i≠m->i<w.heap.size->w3.heap[i]? =w.heap[i]? :=fun i hg hm C=>(q.o.grown.block i (by simpa [World.setCell,World.drew] using C) (fun r=>hm (by cases r;rfl))).trans (by rw[q7l,q0K _ _ hg])
 refine⟨rfl,⟨?_,?_,?_,?_⟩,?_⟩
 ·have hh:=d.o.same (w':=w3) (q.o.grown.block g d.o.lt (fun r=>J (by cases r;rfl)))
  have r:((us:Int)-(v:Int))=(q0P (q1M FM.nm nm σ.L):Int):=by
   have:=E.o;rw[HU.o,HD.o] at this;omega
  rw[r] at hh;exact hh
 ·refine u.o.fs.del nm V.o fun i B hm=>Y i (fun r=>u.o.ne (r▸B)) hm (u.o.fs.lt B)
 ·show(q1M FE.nm nm L).map FE.f=q1M FM.nm nm σ.L
  rw[q5k (k:=FE.nm) (k':=FM.nm) (h:=FE.f) (fun x=>rfl),u.o.files]
 ·exact u.o.keep.same fun i B=>Y i (u.o.keepF B).1 (fun r=>(u.o.keepF B).2 (.inl r)) (u.o.keep.lt i B).2
 ·refine⟨q.o.grown.os,q.o.grown.tape,q.o.grown.output,by simpa [World.setCell,World.drew] using q.o.grown.size,fun i C hn=>Y i (fun r=>hn (.inl r)) (fun r=>hn (.inr (.inl r))) C⟩
theorem z6P(o:w.cell? ⟨g,3,none⟩=some (.map (some m)))(b:FS w m L){nm:List UInt8}(l:nm.length<=9223372036854775807)(d:q0F FE.nm nm L=none):
  Calls Tryz.prog 195 #[.pointer (some ⟨g,0,none⟩),.string ⟨nm.toArray⟩] w fun en w'=>en= .returned (.tuple #[])/\w=w':=by
 have j:=z2R b l d;clear b d;go_enter Tryz.func195,Tryz.ntmps195;go_wp2_with fail
 go_end0
 exact⟨rfl,rfl⟩
theorem z9x(h:DkI w g m kv L (q0P σ.L:Int) σ)(j:okD σ)(nm:List UInt8)(d:nm.length<=9223372036854775807):
  Calls Tryz.prog 195 #[.pointer (some ⟨g,0,none⟩),.string ⟨nm.toArray⟩] w fun en w'=>en= .returned (.tuple #[])/\DkI w' g m kv (q1M FE.nm nm L) (q0P (q1M FM.nm nm σ.L):Int) {σ with L:=q1M FM.nm nm σ.L}/\OffS (MutD g m L) w w':=by
 cases hf:q0F FE.nm nm L with
 |some e=>exact z6Q h j d hf
 | none=>
  refine(z6P h.c3 h.fs d hf).mono ?_;rintro en w' ⟨rfl,rfl⟩;have b:q0F FM.nm nm σ.L=none:=by rw[<-h.files,q1t (k:=FE.nm) (k':=FM.nm) (h:=FE.f) (fun x=>rfl),hf];rfl
  refine⟨rfl,?_,OffS.refl _ _⟩;rw[q5l hf,q5l b];exact h
theorem q9b(h:Dk w g F σ)(nm:List UInt8)(Y:nm.length<=9223372036854775807):
  Calls Tryz.prog 136 #[.pointer (some ⟨g,0,none⟩),.string ⟨nm.toArray⟩] w fun e w'=>e= .returned (.int .i64 (q1L σ nm).1)/\DkS w g F (q1L σ nm).2 w':=by
 obtain⟨l,m,kv,L,j,y⟩:=h.openD;have I:=η y;have W:=η j;have X:=η l;clear h y;rcases q8k j nm Y with⟨d,R,_⟩|⟨d,u,_,R,_⟩|⟨d,e,C,u,he,R,_⟩
 ·have s:Hd (q1L σ nm=(61,σ)):=η (by unfold q1L;rw[ξ d])
  clear j l d;go_enter Tryz.func136,Tryz.ntmps136;go_wp2_with fail;refine R.o.mono ?_;rintro e w' ⟨rfl,rfl⟩;go_wp2_with fail;go_ret;rw[s.o];exact⟨rfl,I.o _ _ (Fin.same X.o W.o)⟩
 ·have s:Hd (q1L σ nm=(4,σ)):=η (by unfold q1L;rw[κ (by rw[d];decide),u];rfl)
  clear j l d u;go_enter Tryz.func136,Tryz.ntmps136;go_wp2_with fail;refine R.o.mono ?_;rintro e w' ⟨rfl,rfl⟩;go_wp2_with fail;go_ret;rw[s.o];exact⟨rfl,I.o _ _ (Fin.same X.o W.o)⟩
 ·cases hfl:q1p σ with
  | true=>
   have s:Hd (q1L σ nm=(61,q4m σ)):=η (by unfold q1L;rw[κ (by rw[d];decide),u,hfl];rfl);have U:=η (z1b j hfl);have Z:=η (z1a j l d);clear j l d u C he hfl;generalize e.b=bb at*;go_enter Tryz.func136,Tryz.ntmps136;go_wp2_with fail;refine R.o.mono ?_;rintro e w' ⟨rfl,rfl⟩;go_wp2_with fail;refine U.o.mono ?_;rintro e w' ⟨rfl,rfl⟩;go_wp2_with fail;refine Z.o.mono ?_;rintro e w' ⟨rfl,q⟩;have x:=η q;clear q;go_wp2_with fail;go_ret;rw[s.o];exact⟨rfl,I.o _ _ x.o⟩
  | false=>
   have s:Hd (q1L σ nm=(0,{q1c σ with L:=q1M FM.nm nm σ.L})):=η (by unfold q1L;rw[κ (by rw[d];decide),u,hfl];rfl);have U:=η (z1g j l hfl);have M:Hd (okD {q1c σ with L:=q1M FM.nm nm (q1c σ).L}):=η (l.tick.delete nm);have S:=η l.tick;clear j l d u C he hfl;generalize e.b=bb at*;go_enter Tryz.func136,Tryz.ntmps136;go_wp2_with fail;refine R.o.mono ?_;rintro e w' ⟨rfl,rfl⟩;go_wp2_with fail;refine U.o.mono ?_;rintro en w1 ⟨rfl,D,G,V,v⟩;have J:=η D;have O:Hd (OffS (InD g m kv L) w w1):=η G.inD;clear D G V v;go_wp2_with fail;refine(z9x J.o S.o nm Y).mono ?_;rintro en w2 ⟨rfl,E,r⟩;have x:Fin w1 g m kv L {q1c σ with L:=q1M FM.nm nm (q1c σ).L} w2:=by
    refine⟨M.o,m,kv,_,E,fun i hx=>?_,r.inD⟩;rcases hx with B|B|B
    ·exact .inl (.inl B)
    ·exact .inl (.inr (.inl B.del))
    ·exact .inl (.inr (.inr B))
   have x:=η (Fin.after (fun i j=> .inl j) O.o x);clear E r;go_wp2_with fail;go_ret;rw[s.o];exact⟨rfl,I.o _ _ x.o⟩
theorem Fin.rename{M:World}{σ1:DM}(h:DkI w2 g m kv L1 us σ1){a b:List UInt8}(Z:q0F FE.nm a L1=some e)(U: ∀y∈L1,FE.nm y≠b){n3 n4:Nat}
  (u:w3.ownsMap Tryz.prog 9 q6I m n3 ((q5d L1).del (.string a)))(j:w2.mapTurned w3 m)(B:M.ownsMap Tryz.prog 9 q6I m n4 ((q5d (q1M FE.nm a L1)).put (.string b) (.lit (.int .i64 e.b))))(q:w3.mapTurned M m)
  (ho:okD σ')(Y:σ'.L=q1e FM.nm {e.f with nm:=b} (q1M FM.nm a σ1.L))(V:us=(q0P σ'.L:Int))(hh:q6y σ' us m kv=q6y σ1 us m kv)(hK:σ'.keep=σ1.keep):Fin w2 g m kv L1 σ' M:=by
 obtain⟨he,S⟩:=q0J Z;obtain⟨x,r⟩: ∃x:FE,x=⟨{e.f with nm:=b},e.b,e.v⟩:=⟨_,rfl⟩
 have C: ∀i,i<w2.heap.size->i≠m->w3.heap[i]? =w2.heap[i]? :=fun i E hm=>j.grown.block i E fun d=>hm (by cases d;rfl)
 have l: ∀i,i<w2.heap.size->i≠m->M.heap[i]? =w2.heap[i]? :=fun i E hm=>(q.grown.block i (Ψ E j.grown.size) fun d=>hm (by cases d;rfl)).trans (C i E hm)
 have R:e.b≠m:=q4h h.fs.map (h.fs.blk e he);have O:=(h.fs.blk e he).lt;have G:=h.fs.del a u fun i o hm=>C i (h.fs.lt o) hm
 have I:FS M m (q1e FE.nm x (q1M FE.nm a L1)):=by
  refine G.put x (q0S fun y W=>by rw[r];exact U y (mem_delN.1 W).1) (by rw[r];exact B) (fun i o hm=>(l i (h.fs.lt o.del) hm).trans (C i (h.fs.lt o.del) hm).symm) ?_ ?_ (fun y W=>?_)
  ·rw[r];exact(h.fs.blk e he).same (l _ O R)
  ·rw[r];exact(h.fs.row e he).same fun i o=>l i ((h.fs.row e he).lt i o).2 fun d=>q9s h.fs.map (h.fs.row e he) (d▸o)
  ·rw[r]
   have J:=mem_delN.1 W;have X:=h.fs.sepOf he J.1 fun d=>J.2 (d.symm.trans S)
   exact⟨X.1,X.2⟩
 refine⟨ho,m,kv,_,⟨?_,I,?_,?_⟩,fun i o=>?_,?_⟩
 ·have s:=h.head.same (l g h.head.lt fun d=>h.ne (.inl d))
  rw[<-V,hh];exact s
 ·rw[q5u (k:=FE.nm) (k':=FM.nm) (h:=FE.f) (fun x=>rfl),q5k (k:=FE.nm) (k':=FM.nm) (h:=FE.f) (fun x=>rfl),h.files,Y,r]
 ·rw[hK]
  exact h.keep.same fun i o=>l i (h.keep.lt i o).2 fun d=>(h.keepF o).2 (.inl d)
 ·rcases o with s|s|s
  ·exact .inl (.inl s)
  ·rcases InF.ins s with D|D|D
   ·exact .inl (.inr (.inl (.inr ⟨e,he,.inl (by rw[D,r])⟩)))
   ·exact .inl (.inr (.inl (.inr ⟨e,he,.inr (by rw[r] at D;exact D)⟩)))
   ·exact .inl (.inr (.inl D.del))
  ·exact .inl (.inr (.inr s))
 ·exact⟨q.grown.os.trans j.grown.os,q.grown.tape.trans j.grown.tape,q.grown.output.trans j.grown.output,Ω j.grown.size q.grown.size,fun i E hn=>l i E fun d=>hn (.inr (.inl (.inl d)))⟩
theorem z9b(h:Dk w g F σ)(a b:List UInt8)(h0:a.length<=9223372036854775807)(Z:b.length<=9223372036854775807):
  Calls Tryz.prog 290 #[.pointer (some ⟨g,0,none⟩),.string ⟨a.toArray⟩,.string ⟨b.toArray⟩] w fun e w'=>e= .returned (.int .i64 (q2E σ a b).1)/\DkS w g F (q2E σ a b).2 w':=by
 obtain⟨C,m,kv,L,d,f0⟩:=h.openD;have HF:=η f0;have HI:=η d;have HO:=η C;clear h f0;rcases q8k d a h0 with⟨B,R,_⟩|⟨B,J,_,R,_⟩|⟨B,e,x,J,he,R,_⟩
 ·have D:Hd (q2E σ a b=(61,σ)):=η (by unfold q2E;rw[ξ B])
  clear d C B;go_enter Tryz.func290,Tryz.ntmps290;go_wp2_with fail;refine R.o.mono ?_;rintro e w' ⟨rfl,rfl⟩;go_wp2_with fail;go_ret;rw[D.o];exact⟨rfl,HF.o _ _ (Fin.same HO.o HI.o)⟩
 ·have D:Hd (q2E σ a b=(4,σ)):=η (by unfold q2E;rw[κ (by rw[B];decide),J])
  clear d C B J;go_enter Tryz.func290,Tryz.ntmps290;go_wp2_with fail;refine R.o.mono ?_;rintro e w' ⟨rfl,rfl⟩;go_wp2_with fail;go_ret;rw[D.o];exact⟨rfl,HF.o _ _ (Fin.same HO.o HI.o)⟩
 ·have l :Hd (q2E σ a b=if !q2G b then(2,σ) else if q1p σ then(61,q4m σ) else if a=b then(0,q1c σ) else(0,{q1c σ with L:=z5O a b e.f σ.L})):=η (by unfold q2E;rw[κ (by rw[B];decide),J])
  have HN:=η (fun W=>y0D W b Z)
  cases hn:q2G b with
  | false=>
   have D:Hd (q2E σ a b=(2,σ)):=η (by rw[l.o,hn];rfl);rw[hn] at HN;clear d C B J x he hn l;generalize e.b=bb at*;go_enter Tryz.func290,Tryz.ntmps290;go_wp2_with fail;refine R.o.mono ?_;rintro e w' ⟨rfl,rfl⟩;go_wp2_with fail;refine(HN.o _).mono ?_;rintro e w' ⟨rfl,rfl⟩;go_wp2_with fail;go_ret;rw[D.o];exact⟨rfl,HF.o _ _ (Fin.same HO.o HI.o)⟩
  | true =>
   rw[hn] at HN
   cases hfl:q1p σ with
   | true=>
    have D:Hd (q2E σ a b=(61,q4m σ)):=η (by rw[l.o,hn,hfl];rfl);have HS:=η (z1b d hfl);have HK:=η (z1a d C B);clear d C B J x he hfl hn l;generalize e.b=bb at*;go_enter Tryz.func290,Tryz.ntmps290;go_wp2_with fail;refine R.o.mono ?_;rintro e w' ⟨rfl,rfl⟩;go_wp2_with fail;refine(HN.o _).mono ?_;rintro e w' ⟨rfl,rfl⟩;go_wp2_with fail;refine HS.o.mono ?_;rintro e w' ⟨rfl,rfl⟩;go_wp2_with fail;refine HK.o.mono ?_;rintro e w' ⟨rfl,M⟩;have HX:=η M;clear M;go_wp2_with fail;go_ret;rw[D.o];exact⟨rfl,HF.o _ _ HX.o⟩
   | false=>
    have HS:=η (z1g d C hfl);have e0:=η C.tick;by_cases v:a=b
    ·have D:Hd (q2E σ a b=(0,q1c σ)):=η (by rw[l.o,hn,hfl,ξ v];rfl)
     clear d C B J x he hfl hn l;subst v;generalize e.b=bb at*;go_enter Tryz.func290,Tryz.ntmps290;go_wp2_with fail;refine R.o.mono ?_;rintro e w' ⟨rfl,rfl⟩;go_wp2_with fail;refine(HN.o _).mono ?_;rintro e w' ⟨rfl,rfl⟩;go_wp2_with fail;refine HS.o.mono ?_;rintro en w1 ⟨rfl,E,G,a0,r⟩;have S:=η E;have U:Hd (OffS (InD g m kv L) w w1):=η G.inD;clear E G a0 r;go_wp2_with fail;go_ret;rw[D.o];exact⟨rfl,HF.o _ _ (Fin.after (fun i d=> .inl d) U.o (Fin.same e0.o S.o))⟩
    ·have D:Hd (q2E σ a b=(0,{q1c σ with L:=z5O a b e.f (q1c σ).L})):=η (by rw[l.o,hn,hfl,κ v];rfl)
     have c0:=η (C.tick.rename (σ:=q1c σ) J v);have g0:q0F FE.nm a (q1M FE.nm b L)=some e:=q3F (q3D d.fs.ord) (mem_delN.2 ⟨he,fun e1=>v ((q0J x).2.symm.trans e1)⟩) (q0J x).2;have k0:=η g0;have l0:=η (z5A a h0);have m0:=η (z5A b Z);have i0:(q1M FE.nm b L).length<=400:=by
      have V:(q1M FE.nm b L).length<=L.length:=List.length_filter_le _ _;have h2:L.length=σ.L.length:=by rw[<-d.files,List.length_map]
      have:=C.many;omega
     have n0:=η i0;obtain⟨bb,X⟩: ∃bb,e.b=bb:=⟨_,rfl⟩
     have j0:=η X;rw[X] at R;have u0:(a==b)=false:=by simpa using v
     clear d C B J x he hfl hn l g0 i0 X;go_enter Tryz.func290,Tryz.ntmps290;go_wp2_with fail;refine R.o.mono ?_;rintro e w' ⟨rfl,rfl⟩;go_wp2_with fail;refine(HN.o _).mono ?_;rintro e w' ⟨rfl,rfl⟩;go_wp2_with fail;refine HS.o.mono ?_;rintro en w1 ⟨rfl,E,G,a0,r⟩;have S:=η E;have U:Hd (OffS (InD g m kv L) w w1):=η G.inD;clear E G a0 r;go_wp2_with fail;refine(z9x S.o e0.o b Z).mono ?_;rintro en w2 ⟨rfl,Y,O⟩;have u:=η Y;have d0:Hd (OffS (InD g m kv L) w1 w2):=η O.inD;have c3:=Y.c3;clear Y O;have s0:g≠m:=q4h u.o.fs.map u.o.head
     go_wp2_with (first|(at_delete;refine wpList_delete_own _ rfl _ _ 132 9 rfl 150 z9H Tryz.underlying132 q6I m _ (q5d (q1M FE.nm b L)) rfl u.o.fs.map _ (.string a) rfl l0.o ?_;intro w3 q j;have v0:w3.cell? ⟨g,3,none⟩=some (.map (some m)):=(u.o.head.same (j.grown.block g u.o.head.lt (fun e1=>s0 (by cases e1;rfl)))).cell 3;have o0:=η q;have q0:=η j;have b0:=η (z6y q (z3V a (q1M FE.nm b L)));clear q j)|(at_mapUpdate;refine wpList_mapUpdate_in _ rfl _ _ _ 132 rfl 9 150 z9H Tryz.underlying132 q6I m _ (q5d (q1M FE.nm a (q1M FE.nm b L))) rfl b0.o (by have V:=n0.o;have h2:(q1M FE.nm a (q1M FE.nm b L)).length<=(q1M FE.nm b L).length:=List.length_filter_le _ _;unfold maxLen;omega) _ _ (.string b) rfl rfl m0.o (.lit (.int .i64 bb)) [] (z2i _) ?_;intro w4 I s;have p0:=η I;have r0:=η s;clear I s))
     go_ret;rw[D.o];have t0:((q0P (q1M FM.nm b (q1c σ).L):Nat):Int)=(q0P (z5O a b e.f (q1c σ).L):Int):=by rw[c0.o.2]
     have hX:=Fin.rename (σ':={q1c σ with L:=z5O a b e.f (q1c σ).L}) u.o k0.o (fun y hy=>(mem_delN.1 hy).2) o0.o q0.o (by rw[j0.o];exact p0.o) r0.o c0.o.1 rfl t0 rfl rfl;refine⟨rfl,HF.o _ _ (Fin.after (fun i d=> .inl d) U.o (Fin.after (fun i d=>?_) d0.o hX))⟩;rcases d with V|V|V
     ·exact .inl (.inl V)
     ·exact .inl (.inr (.inl V.del))
     ·exact .inl (.inr (.inr V))
theorem y2J :(Tryz.prog.info? 5).map (fun i=>(i.zero,i.size,i.bytes))=some (some (.int .u8 0),1,1):=by kernel_rfl
theorem q8b(w:World)(B:Nat)(t u ty e:TypeId)(ht:P.underlying t=some (.slice e))(hu:P.underlying u=some .string)(E:(P.info? e).map (fun i=>(i.zero,i.size,i.bytes))=some (some (.int .u8 0),1,1))
  (v:Value)(n:Nat)(xs:List Value)(x:Own w B e 1 v n xs)(hB:B<=w.heap.size)(s:List UInt8)(hb:n+s.length<=140737488355328):
  ∃C w',(Builtin.append_ #[t,u] ty #[v,.string ⟨s.toArray⟩]).run P w= .ok C w'/\Own w' B e 1 C (n+s.length) (xs++s.map q1R)/\w.grownBy w' v.ownBlock/\ ∀i,C.ownBlock=some i->v.ownBlock=some i\/w.heap.size<=i:=by
 obtain⟨i,hi,hz,o,M⟩:=info_parts E;have q:xs.length=n:=by simpa using x.1
 have d:(⟨s.toArray⟩:ByteArray).size=s.length:=by simp[ByteArray.size]
 have l:Lib.strCells ⟨s.toArray⟩=s.map q1R:=rfl;have D: ∀B',w.ownsRow B' e 1 v n xs->B'<=w.heap.size->(∀i,v.ownBlock=some i->True)-> ∃C w',(Builtin.append_ #[t,u] ty #[v,.string ⟨s.toArray⟩]).run P w= .ok C w'/\w'.ownsRow B' e 1 C (n+s.length) (xs++s.map q1R)/\w.grownBy w' v.ownBlock:=by
  intro B' S Y _;obtain⟨C,w',W,J,X,_⟩:=Lib.run_append_own_string (P:=P) w B' t u ty e i ht hu hi hz o M v n xs S ⟨s.toArray⟩ (by rw[d];unfold maxLen;omega) (by rw[d];exact hb) Y;rw[d,l] at J;exact⟨C,w',W,J,X⟩
 rcases x.2 with⟨rfl,rfl⟩|⟨g,cap,I,rfl,Z,hg,g0,a0,b0,U⟩
 ·obtain rfl:xs=[]:=List.eq_nil_of_length_eq_zero q
  obtain⟨C,w',W,J,X⟩:=D w.heap.size (World.ownsRow_nil _ _ _ _) (ι _) (fun _ _=>trivial);exact⟨C,w',W,(Own.of_row J).base hB,X,fun i r=> .inr ((Own.of_row J).lt i r).1⟩
 ·simp only[Nat.mul_one] at b0 U
  by_cases y:n+s.length<=cap
  ·have R:=Lib.run_append_room_string (P:=P) w t u ty e i ht hu hi o g n cap I hg ⟨s.toArray⟩ (by rw[d];exact y) (by rw[d];omega)
   rw[d,l] at R;refine⟨_,_,R,⟨by simp[q],.inr ⟨g,cap,_,rfl,Z,setRow_heap w g I _ e _ hg,y,a0,?_,?_⟩⟩,⟨rfl,rfl,rfl,by simp,fun k _ V=>setRow_other w g k _ (fun e=>V (by simp[Value.ownBlock,e]))⟩,fun i r=> .inl r⟩
   ·simp only[List.size_toArray,θ,Θ,List.length_drop,Array.length_toList,List.length_map]
    omega
   ·rw[U,Nat.mul_one,show n+s.length=(xs++s.map q1R).length from by simp[q]]
    exact List.take_left
  ·have G: ∀j u',xs[j]? =some u'->w.cell? ((⟨g,0,none⟩:Addr).add j)=some u':=by
    intro j u' hj;obtain⟨ao,f0,e1,_,_,_,d0⟩:=x.rd
    cases e1;obtain⟨b,off,e2,hc⟩:=d0 j u' hj
    cases e2;rw[Addr.add_lit];exact hc
   have R:=Lib.run_append_grow_string (P:=P) w t u ty e i (.int .u8 0) ht hu hi hz ⟨g,0,none⟩ n cap xs (by rw[o];simpa using q) G ⟨s.toArray⟩ (by rw[d];omega) (by rw[d];omega) (by rw[M];exact growslice_fits (by rw[d];omega) (by rw[d];omega));rw[d,l] at R;have c0:=grownCap_ge w (n+s.length) cap e;have O:grownCap w (n+s.length) cap e<=maxLen:=grownCap_le_maxLen w (n+s.length) cap e (by unfold maxLen;omega);refine⟨_,_,R,⟨by simp[q],.inr ⟨w.heap.size,_,_,rfl,hB,heap_alloc_new w.drew _,c0,by unfold maxLen at O;omega,?_,?_⟩⟩,⟨rfl,rfl,rfl,by simp,fun k V _=>by first|exact heap_alloc_old w.drew _ k V|exact heap_alloc_old w.drew _ V⟩,fun i r=> .inr (by cases r;exact ι _)⟩
   ·have e0:(Value.int IntKind.u8 0).cells.size=1:=rfl
    simp only[Array.size_append,List.size_toArray,size_zeroCells,e0,q,List.length_map];omega
   ·simp only[Array.toList_append,List.append_assoc,Nat.mul_one]
    rw[<-List.append_assoc,show n+s.length=(xs++s.map q1R).length from by simp[q]];exact List.take_left
theorem q6e{o:Oper}(l:o.guard=none)(q x:Operand)(t u:TypeId)
  (G:o.op= .call {callee:= .builtin .append,args:=#[q,x],argTypes:=#[t,u]})(B:Nat)(e:TypeId)(M:P.underlying t=some (.slice e))(O:P.underlying u=some .string)(b:(P.info? e).map (fun i=>(i.zero,i.size,i.bytes))=some (some (.int .u8 0),1,1))
  (v:Value)(n:Nat)(xs:List Value)(J:a.eval q=v)(d:Own w B e 1 v n xs)(D:B<=w.heap.size)(s:List UInt8)(R:a.eval x= .string ⟨s.toArray⟩)(E:n+s.length<=140737488355328)
  (h: ∀j w',Own w' B e 1 j (n+s.length) (xs++s.map q1R)->w.grownBy w' v.ownBlock->(∀i,j.ownBlock=some i->v.ownBlock=some i\/w.heap.size<=i)->wpList P ops Q rest (a.put o.dst j) w'):wpList P ops Q (o::rest) a w:=by
 refine wpList_plain l fun K hK=>?_
 obtain⟨j,w',I,r,y,C⟩:=q8b (P:=P) w B t u o.type e M O b v n xs d D s E;unfold Oper.wp execOp;simp only[G,resolve,invoke,builtin,Sem.run_bind,Sem.run_pure,Result.andThen_ok,List.map_toArray,List.map_cons,List.map_nil,J,R,I];exact hK _ _ (h j w' r y C)
theorem y0Q(h:DkI w g m kv L (q0P σ.L:Int) σ)(ho:okD σ){nm s:List UInt8}(V:q0F FE.nm nm L=some e)(U:Ext w w1){l:Value}
  (J:Own w2 0 5 1 l (e.f.da.length+s.length) (e.f.da.map q1R++s.map q1R))(E:w1.grownBy w2 e.v.ownBlock)(R: ∀i,l.ownBlock=some i->e.v.ownBlock=some i\/w1.heap.size<=i)(B:(q0P σ.L:Int)+s.length<=σ.cap):
  DkI ((w2.setCell ⟨e.b,0,none⟩ l).setCell ⟨g,2,none⟩ (.int .i64 ((q0P σ.L:Int)+s.length))) g m kv (q1P FE.nm nm (fun _=>(⟨{e.f with da:=e.f.da++s},e.b,l⟩:FE)) L) (q0P (q8c σ nm s).L:Int) (q8c σ nm s)/\
   OffS (MutD g m L) w ((w2.setCell ⟨e.b,0,none⟩ l).setCell ⟨g,2,none⟩ (.int .i64 ((q0P σ.L:Int)+s.length)))/\
   ∀i,InD g m kv (q1P FE.nm nm (fun _=>(⟨{e.f with da:=e.f.da++s},e.b,l⟩:FE)) L) i->InD g m kv L i\/w.heap.size<=i:=by
 obtain⟨he,a0⟩:=q0J V;have b0:q0F FM.nm nm σ.L=some e.f:=by rw[<-h.files,q1t (k:=FE.nm) (k':=FM.nm) (h:=FE.f) (fun x=>rfl),V];rfl
 have D:=ho.app b0 B;have G:=h.neB he;have S:=U.size;have C: ∀i,i<w.heap.size->e.v.ownBlock≠some i->w2.heap[i]? =w.heap[i]? :=fun i W d0=>(E.block i (Ψ W S) (fun u=>d0 u.symm)).trans (U.block i W)
 have hw: ∀i,i<w.heap.size->i≠g->i≠e.b->e.v.ownBlock≠some i->((w2.setCell ⟨e.b,0,none⟩ l).setCell ⟨g,2,none⟩ (.int .i64 ((q0P σ.L:Int)+s.length))).heap[i]? =w.heap[i]? :=fun i W d h2 h3=>by
  rw[q0K _ _ d,q0K _ _ h2];exact C i W h3
 have O:e.v.ownBlock≠some g:=fun d=>h.ne (.inr ⟨e,he,.inr d⟩)
 have M:=(h.fs.blk e he).own (h.fs.row e he) (by decide);have Z:=(h.fs.blk e he).lt;have j: ∀i,l.ownBlock=some i->e.v.ownBlock=some i\/w.heap.size<=i:=fun i q=>(R i q).imp id fun d=>Ω S d
 have y:=(h.fs.blk e he).same (C _ Z M);have I:=h.head.same (C _ h.head.lt O);have r: ∀i,l.ownBlock=some i->i≠g/\i≠e.b:=fun i q=>by
  rcases j i q with d|d
  ·exact⟨fun u=>O (u▸d),fun u=>M (u▸d)⟩
  ·have:=h.head.lt
   exact⟨by omega,by omega⟩
 have c0:w.heap.size<=((w2.setCell ⟨e.b,0,none⟩ l).setCell ⟨g,2,none⟩ (.int .i64 ((q0P σ.L:Int)+s.length))).heap.size:=by
  have:=E.size;simp[World.setCell];omega
 refine⟨h.fileSet (σ':=q8c σ nm s) (us':=(q0P (q8c σ nm s).L:Int)) V (⟨{e.f with da:=e.f.da++s},e.b,l⟩:FE) a0 rfl hw ?_ ?_ ?_ j (fun f=>{f with da:=f.da++s}) rfl rfl rfl,q7G he c0 (E.os.trans U.os) (E.tape.trans U.tape) (E.output.trans U.output) hw,fun i q=>?_⟩
 ·have hh:=(I.o G 0 l).set 2 (.int .i64 ((q0P σ.L:Int)+s.length))
  have u:((q0P σ.L:Int)+s.length)=(q0P (q8c σ nm s).L:Int):=by rw[D.2];omega
  rw[u] at hh⊢;exact hh
 ·exact(y.set 0 l).o (Ne.symm G) 2 _
 ·have d:Own w2 0 5 1 l (e.f.da++s).length ((e.f.da++s).map q1R):=by rw[θ,List.map_append];exact J
  exact d.same fun i q=>by rw[q0K _ _ (r i q).1,q0K _ _ (r i q).2]
 ·rcases q with d|d|d
  ·exact .inl (.inl d)
  ·rcases InF.upd (e':=(⟨{e.f with da:=e.f.da++s},e.b,l⟩:FE)) h.fs.ord V rfl d with X|X
   ·exact .inl (.inr (.inl X))
   ·rcases j i X with Y|Y
    ·exact .inl (.inr (.inl (.inr ⟨e,he,.inr Y⟩)))
    ·exact .inr Y
  ·exact .inl (.inr (.inr d))
theorem q9P(h:Dk w g F σ)(nm s:List UInt8)(hl:nm.length<=9223372036854775807)(F0:s.length<=9223372036854775807):
  Calls Tryz.prog 208 #[.pointer (some ⟨g,0,none⟩),.string ⟨nm.toArray⟩,.string ⟨s.toArray⟩] w fun e w'=>e= .returned (.int .i64 (q1a σ nm s).1)/\DkS w g F (q1a σ nm s).2 w':=by
 obtain⟨Y,m,kv,L,d,o0⟩:=h.openD;have HF:=η o0;have Z:=η d;have HO:=η Y;clear h o0;rcases q8k d nm hl with⟨D,R,_⟩|⟨D,V,_,R,_⟩|⟨D,e,d0,V,he,R,_⟩
 ·have G:Hd (q1a σ nm s=(61,σ)):=η (by unfold q1a;rw[ξ D])
  clear d Y D;go_enter Tryz.func208,Tryz.ntmps208;go_wp2_with fail;refine R.o.mono ?_;rintro e w' ⟨rfl,rfl⟩;go_wp2_with fail;go_ret;rw[G.o];exact⟨rfl,HF.o _ _ (Fin.same HO.o Z.o)⟩
 ·have G:Hd (q1a σ nm s=(4,σ)):=η (by unfold q1a;rw[κ (by rw[D];decide),V];rfl)
  clear d Y D V;go_enter Tryz.func208,Tryz.ntmps208;go_wp2_with fail;refine R.o.mono ?_;rintro e w' ⟨rfl,rfl⟩;go_wp2_with fail;go_ret;rw[G.o];exact⟨rfl,HF.o _ _ (Fin.same HO.o Z.o)⟩
 ·have c1:=d.c1;have c2:=d.c2
  have b0:=Y.cap0;have c0:=Y.cap1;have r0:=Y.used;obtain⟨us,q⟩: ∃us:Nat,q0P σ.L=us:=⟨_,rfl⟩
  obtain⟨cp,r⟩: ∃cp,σ.cap=cp:=⟨_,rfl⟩
  have J:q1a σ nm s=if cp-(us:Int)<(s.length:Int) then(60,σ) else if q1p σ then(61,q4m (q8c σ nm s)) else(0,q1c (q8c σ nm s)):=by
   unfold q1a;rw[κ (by rw[D];decide),V,κ (by simp),q,r]
  rw[q,r] at r0;rw[r] at c1 b0 c0;rw[q] at c2;by_cases y:cp-(us:Int)<(s.length:Int)
  ·have G:Hd (q1a σ nm s=(60,σ)):=η (by rw[J,ξ y])
   clear d Y D V d0 he J q r;generalize e.b=C at*;go_enter Tryz.func208,Tryz.ntmps208;go_wp2_with fail;refine R.o.mono ?_;rintro e w' ⟨rfl,rfl⟩;go_wp2_with fail
   go_quiet (fail)
   go_wp2_with fail;go_ret;rw[G.o];exact⟨rfl,HF.o _ _ (Fin.ext HO.o Z.o ((Ext.refl w).drewN _))⟩
  ·have M:q1a σ nm s=if q1p σ then(61,q4m (q8c σ nm s)) else(0,q1c (q8c σ nm s)):=by rw[J,κ y]
   obtain⟨ao,fc,hv,G0,H0,I0,_⟩:=(d.fs.row e he).rd;have e0:=d.neB he;have u0:=η d0;have HE:=η he;have v0:=η V;have HV:=η hv;have I:=η q;have i0:=η r;have E0:e.f.da.length<=us:=by rw[<-q];exact q8O (q0J V).1
   obtain⟨C,O⟩: ∃C,e.b=C:=⟨_,rfl⟩
   have j:=η O;have w0:=η e0;have HD:=η D;rw[O] at R;have A0:(s.length:Int)<=cp-us:=by omega
   have n0: ∀k,(w.drewN k).cell? ⟨C,0,none⟩=some (.slice ao e.f.da.length fc):=fun k=>by
    have:=(d.ext ((Ext.refl w).drewN k)).f0 he;rw[hv,O] at this;exact this
   have t0:=η n0;have m0:=η (fun k=>(d.ext ((Ext.refl w).drewN k)).fs.row e he);have s0:=η (fun k=>d.ext ((Ext.refl w).drewN k));clear d Y D V d0 he J q r hv e0 O n0;go_enter Tryz.func208,Tryz.ntmps208;go_wp2_with fail;refine R.o.mono ?_;rintro en w' ⟨rfl,rfl⟩;go_wp2_with fail
   go_quiet (fail)
   have x:=s0.o nq;have f0:=t0.o nq;have y0:(w.drewN nq).frozen? ⟨C,0,none⟩=false:=by have:=x.fz HE.o 0;rw[j.o] at this;exact this
   have l0:=η (m0.o nq);rw[HV.o] at l0;have e0:g≠C:=by rw[<-j.o];exact w0.o
   have E:=η x;have k0:Hd (e.v.ownBlock≠some g):=η fun h1=>Z.o.ne (.inr ⟨e,HE.o,.inr h1⟩)
   have j0:Hd (e.v.ownBlock≠some C):=η (by rw[<-j.o];exact(Z.o.fs.blk e HE.o).own (Z.o.fs.row e HE.o) (by decide));rw[HV.o] at k0 j0;clear x
   go_wp2_with (at_builtin;refine q6e rfl _ _ 75 9 rfl 0 5 Tryz.underlying75 Tryz.underlying9 y2J _ _ _ rfl l0.o (υ _) s rfl (by omega) ?_;intro v' w2 l S B;obtain⟨av,cv,rfl⟩:=l.slice;have a0:=η (((E.o.fs.blk e HE.o).same (S.block _ (E.o.fs.blk e HE.o).lt (fun e1=>j0.o (by rw[<-j.o];exact e1.symm)))));have g0:=η (E.o.head.same (S.block _ E.o.head.lt (fun e1=>k0.o e1.symm)));have z0:w2.cell? ⟨C,0,none⟩=some (.slice ao e.f.da.length fc):=(by have:=a0.o.cell 0;rw[j.o,HV.o] at this;exact this);have C0:w2.frozen? ⟨C,0,none⟩=false:=(by have:=a0.o.free 0;rw[j.o] at this;exact this);have x0:w2.cell? ⟨g,2,none⟩=some (.int .i64 (us:Int)):=(by have:=g0.o.cell 2;rw[I.o] at this;exact this);have D0:w2.frozen? ⟨g,2,none⟩=false:=g0.o.free 2;have U:=η (y0Q Z.o HO.o u0.o ((Ext.refl w).drewN nq) l (by rw[HV.o];exact S) (fun i d=>by rw[HV.o];exact B i d) (by rw[I.o,i0.o];omega));clear l S B)
   rw[j.o,I.o] at U;have u:=η (HO.o.app v0.o (s:=s) (by rw[I.o,i0.o];omega));clear a0 g0 z0 C0 x0 D0 f0 y0;generalize ((w2.setCell ⟨C,0,none⟩ (.slice av (e.f.da.length+s.length) cv)).setCell ⟨g,2,none⟩ (.int .i64 ((us:Int)+s.length)))=W at*
   cases hfl:q1p σ with
   | true=>
    have G:Hd (q1a σ nm s=(61,q4m (q8c σ nm s))):=η (by rw[M,hfl];rfl);have HS:=η (z1b U.o.1 (show q1p (q8c σ nm s)=true from hfl));have HK:=η (z1a U.o.1 u.o.1 (show(q8c σ nm s).down=false from HD.o));clear hfl M;refine HS.o.mono ?_;rintro en w3 ⟨rfl,rfl⟩;go_wp2_with fail;refine HK.o.mono ?_;rintro en w4 ⟨rfl,X⟩;have HX:=η (Fin.after U.o.2.2 U.o.2.1.inD X);clear X;go_wp2_with fail;go_ret;rw[G.o];exact⟨rfl,HF.o _ _ HX.o⟩
   | false=>
    have G:Hd (q1a σ nm s=(0,q1c (q8c σ nm s))):=η (by rw[M,hfl];rfl);have HS:=η (z1g U.o.1 u.o.1 (show q1p (q8c σ nm s)=false from hfl));clear hfl M;refine HS.o.mono ?_;rintro en w3 ⟨rfl,p0,q0,B0,h0⟩;have HX:Fin W g m kv _ (q1c (q8c σ nm s)) w3:=⟨u.o.1.tick,m,kv,_,p0,fun i d=> .inl d,q0.inD⟩
    have HX:=η (Fin.after U.o.2.2 U.o.2.1.inD HX);clear p0 q0 B0 h0;go_wp2_with fail;go_ret;rw[G.o];exact⟨rfl,HF.o _ _ HX.o⟩
theorem y2q(h:DkI w g m kv L us σ):DkI (w.setCell ⟨g,4,none⟩ (.int .i64 (wrap64 (σ.reads+1)))) g m kv L us (q2Z σ)/\OffS (MutD g m L) w (w.setCell ⟨g,4,none⟩ (.int .i64 (wrap64 (σ.reads+1)))):=
 ⟨h.headSet (fun i _ b=>q0K _ _ b) (h.head.set 4 _) rfl rfl,OffS.set w (F:=MutD g m L) (.inl rfl) _ _⟩
theorem y1H{B:Nat}{e:TypeId}{v:Value}{cs:List Value}(h:Own w B e 1 v n cs): ∃ao cap,v= .slice ao n cap/\n<=cap/\cap<=9223372036854775807/\((ao=none/\n=0/\cap=0)\/ ∃r,ao=some ⟨r,0,none⟩/\Rd w (some ⟨r,0,none⟩) cs):=by
 obtain⟨ao,cap,b,l,o,s,q⟩:=h.rd;refine⟨ao,cap,b,l,o,?_⟩;rcases h.2 with⟨rfl,j⟩|⟨g,c,d,rfl,_⟩
 ·cases b;exact .inl ⟨rfl,j,rfl⟩
 ·cases b;exact .inr ⟨g,rfl,q⟩
theorem z2q(W:World){ao:Option Addr}{l:List UInt8}(b:l.length=n)(h:Rd W ao (l.map q1R))(j:ao=none->n=0):
  (convert 75 9 (.slice ao n cap)).run Tryz.prog W= .ok (.string ⟨l.toArray⟩) W:=by
 cases ao with
 | none=>
  have d:=j rfl;subst d;obtain rfl:l=[]:=List.eq_nil_of_length_eq_zero b;exact run_convert_bytes_nil W 75 5 Tryz.underlying75 Tryz.underlying5 0 cap 9 Tryz.underlying9
 |some a=>exact q4l W _ _ 5 Tryz.underlying75 Tryz.underlying5 Tryz.underlying9 b h
theorem z3y(h:Dk w g F σ)(nm:List UInt8)(a n:Int)(hl:nm.length<=9223372036854775807)(j0: -9223372036854775808<=a)(k0:a<=9223372036854775807)(o0: -9223372036854775808<=n)(p0:n<=9223372036854775807):
  Calls Tryz.prog 160 #[.pointer (some ⟨g,0,none⟩),.string ⟨nm.toArray⟩,.int .i64 a,.int .i64 n] w fun e w'=>e= .returned (.tuple #[.string ⟨(q1r σ nm a n).1.toArray⟩,.int .i64 (q1r σ nm a n).2.1])/\DkS w g F (q1r σ nm a n).2.2 w':=by
 obtain⟨ho,m,kv,L,u,a0⟩:=h.openD;have Z:=η a0;have HI:=η u;have HO:=η ho;have U:=u.c6;have c4:=u.c4;have z4:=u.z 4;obtain⟨M,g0⟩:=y2q u;have HT:=η M;have h0:Hd (OffS (InD g m kv L) w (w.setCell ⟨g,4,none⟩ (.int .i64 (wrap64 (σ.reads+1))))):=η g0.inD;clear h a0 g0;have j:Hd (Fin w g m kv L (q2Z σ) (w.setCell ⟨g,4,none⟩ (.int .i64 (wrap64 (σ.reads+1))))):=η ⟨HO.o.tell,m,kv,L,M,fun i u=> .inl u,h0.o⟩;rcases q8k M nm hl with⟨J,R,_⟩|⟨J,hf,_,R,_⟩|⟨J,e,m0,hf,he,R,_⟩
 ·have d:σ.down=true:=J
  have B:Hd (q1r σ nm a n=([],61,σ)):=η (by unfold q1r;rw[ξ d]);rw[d] at U;have G:=η (q3w w g u.c0 U);have i0:=η (z0w w g u.c0 U ⟨nm.toArray⟩);clear u ho M J d R j;go_enter Tryz.func160,Tryz.ntmps160;go_wp2_with fail;refine G.o.mono ?_;rintro e w' ⟨rfl,rfl⟩;go_wp2_with fail;refine i0.o.mono ?_;rintro e w' ⟨rfl,rfl⟩;go_wp2_with fail;go_ret2;rw[B.o];exact⟨rfl,Z.o _ _ (Fin.same HO.o HI.o)⟩
 ·have d:σ.down=false:=J
  have x:q0F FM.nm nm σ.L=none:=hf;have B:Hd (q1r σ nm a n=([],4,q2Z σ)):=η (by unfold q1r;rw[κ (by rw[d];decide),x]);rw[d] at U;have G:=η (q4M w g u.c0 U);generalize σ.reads=rd at*;clear u ho M J d hf x;go_enter Tryz.func160,Tryz.ntmps160;go_wp2_with fail;refine G.o.mono ?_;rintro e w' ⟨rfl,rfl⟩;go_wp2_with fail;refine R.o.mono ?_;rintro e w' ⟨rfl,rfl⟩;go_wp2_with fail;go_ret2;rw[B.o];exact⟨rfl,Z.o _ _ j.o⟩
 ·have d:σ.down=false:=J
  have x:q0F FM.nm nm σ.L=some e.f:=hf;have v:Hd (q1r σ nm a n=if 0<=a/\0<=n/\a<=(e.f.da.length:Int)/\n<=(e.f.da.length:Int)-a then((e.f.da.drop a.toNat).take n.toNat,0,q2Z σ) else([],2,q2Z σ)):=η (by unfold q1r;rw[κ (by rw[d];decide),x]);rw[d] at U;have G:=η (q4M w g u.c0 U);obtain⟨ao,fc,hv,r0,t0,E⟩:=y1H (M.fs.row e he);have f0:=M.f0 he;rw[hv] at f0;have q0:=ho.used;have b0:=ho.cap1;have l0:e.f.da.length<=q0P σ.L:=q8O (q0J x).1;have e0:e.f.da.length<=1048576:=by omega
  obtain⟨da,X⟩: ∃da,e.f.da=da:=⟨_,rfl⟩
  obtain⟨I,q⟩: ∃I,da.length=I:=⟨_,rfl⟩
  rw[X] at v E;rw[X,q] at f0 r0 e0;rw[q] at E;rw[q] at v;have O:=η q;have C:=η E;have S:=η (fun (ao:Option Addr) n cap l V h2 h3=>z2q (w.setCell ⟨g,4,none⟩ (.int .i64 (wrap64 (σ.reads+1)))) (ao:=ao) (n:=n) (cap:=cap) (l:=l) V h2 h3);generalize σ.reads=rd at*;generalize e.b=bb at*;clear u ho M J d hf x m0 he hv q0 b0 l0 X q E HI HO HT;by_cases D:0<=a/\0<=n/\a<=(I:Int)/\n<=(I:Int)-a
  ·have B:=η (v.o.trans (ξ D))
   obtain⟨k,rfl⟩: ∃k:Nat,a=(k:Int):=⟨a.toNat,by omega⟩
   obtain⟨y,rfl⟩: ∃y:Nat,n=(y:Int):=⟨n.toNat,by omega⟩
   obtain⟨V,h2,h3,h4⟩:=D;have s:((da.drop k).take y).length=y:=by have:=O.o;rw[Θ,List.length_drop];omega
   clear v;rcases C.o with⟨rfl,h5,h6⟩|⟨r,rfl,hr⟩
   ·subst h6
    obtain rfl:I=0:=h5;obtain rfl:k=0:=by omega
    obtain rfl:y=0:=by omega
    have hcv:=S.o none 0 0 [] rfl (Rd.nil _ _) (fun _=>rfl);have d0:da=[]:=List.eq_nil_of_length_eq_zero O.o;clear V h2 h3 h4 s C O j0 k0 o0 p0;subst d0;go_enter Tryz.func160,Tryz.ntmps160;go_wp2_with fail;refine G.o.mono ?_;rintro e w' ⟨rfl,rfl⟩;go_wp2_with fail;refine R.o.mono ?_;rintro e w' ⟨rfl,rfl⟩;go_wp2_with fail;go_ret2;rw[B.o];exact⟨rfl,Z.o _ _ j.o⟩
   ·have s0:k+y<=fc:=by omega
    by_cases n0:fc=k
    ·obtain rfl:y=0:=by omega
     have hcv:=S.o (some ⟨r,0,none⟩) 0 0 [] rfl (Rd.nil _ _) (fun _=>rfl);have hH:=η s;subst n0;clear s C hr;go_enter Tryz.func160,Tryz.ntmps160;go_wp2_with fail;refine G.o.mono ?_;rintro e w' ⟨rfl,rfl⟩;go_wp2_with fail;refine R.o.mono ?_;rintro e w' ⟨rfl,rfl⟩;go_wp2_with fail;go_ret2;rw[B.o];exact⟨rfl,Z.o _ _ j.o⟩
    ·have Y:=(hr.drop k).take y
     rw[Nat.zero_add,<-List.map_drop,<-List.map_take] at Y;have hcv:=S.o (some ⟨r,k,none⟩) y (fc-k) ((da.drop k).take y) s Y (fun h=>by cases h);clear s C hr Y;go_enter Tryz.func160,Tryz.ntmps160;go_wp2_with fail;refine G.o.mono ?_;rintro e w' ⟨rfl,rfl⟩;go_wp2_with fail;refine R.o.mono ?_;rintro e w' ⟨rfl,rfl⟩;go_wp2_with fail;go_ret2;rw[B.o];exact⟨rfl,Z.o _ _ j.o⟩
  ·have B:=η (v.o.trans (κ D))
   have W:a<0\/(0<=a/\n<0)\/(0<=a/\0<=n/\(I:Int)<a)\/(0<=a/\0<=n/\a<=(I:Int)/\(I:Int)-a<n):=by omega
   clear D v;rcases W with V|⟨V,h2⟩|⟨V,h2,h3⟩|⟨V,h2,h3,h4⟩
   all_goals
    go_enter Tryz.func160,Tryz.ntmps160;go_wp2_with fail;refine G.o.mono ?_;rintro e w' ⟨rfl,rfl⟩;go_wp2_with fail;refine R.o.mono ?_;rintro e w' ⟨rfl,rfl⟩;go_wp2_with fail;go_ret2;rw[B.o];exact⟨rfl,Z.o _ _ j.o⟩
end
end Go.Proofs.YtfiibpgoplcgkaaGreatDoor
