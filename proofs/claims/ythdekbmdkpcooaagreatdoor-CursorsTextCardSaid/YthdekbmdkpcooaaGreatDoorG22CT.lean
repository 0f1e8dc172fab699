/- The shelf's contracts of slices.Sort and slices.Clone at this seat, in plain words. -/
import Derived.Ground.NamesProg
import Derived.Ground.Names2Prog
import Derived.Shelf.Sort.Plain
import Derived.Shelf.Slices.Clone
import Derived.Test.YthdekbmdkpcooaaGreatDoorProg
import Derived.Test.YthdekbmdkpcooaaGreatDoorG19CT
import Derived.Shelf.Slices.In.SortNone
import Derived.Sort.OwnSorted
import Derived.Lib.OwnBridge
set_option linter.unusedVariables false
set_option linter.unusedSimpArgs false
set_option maxRecDepth 100000
set_option maxHeartbeats 1600000
namespace Go.Proofs
open Go.Shelf
def Tryz.lays190_ren :Go.Shelf.Ren:=⟨fun|190=>219|125=>251|258=>250|128=>285|129=>231|302=>276|303=>277|304=>278|305=>279|306=>280|307=>281|308=>282|309=>283|310=>284|333=>296|329=>297|330=>298|334=>299|335=>300|336=>301|344=>310|n=>n,fun|31=>255|9=>9|3=>3|46=>198|0=>0|51=>271|53=>23|4=>4|183=>358|182=>357|131=>186|5=>5|218=>380|222=>384|228=>391|229=>303|n=>n,fun|n=>n⟩
theorem Tryz.lays190 :Go.Proofs.Lays.n190 Tryz.prog Tryz.lays190_ren:={
 mixed:=by kernel_rfl
 f125:=Tryz.func251.trans (congrArg some (by kernel_rfl))
 f128:=Tryz.func285.trans (congrArg some (by kernel_rfl))
 f129:=Tryz.func231.trans (congrArg some (by kernel_rfl))
 f190:=Tryz.func219.trans (congrArg some (by kernel_rfl))
 f258:=Tryz.func250.trans (congrArg some (by kernel_rfl))
 f302:=Tryz.func276.trans (congrArg some (by kernel_rfl))
 f303:=Tryz.func277.trans (congrArg some (by kernel_rfl))
 f304:=Tryz.func278.trans (congrArg some (by kernel_rfl))
 f305:=Tryz.func279.trans (congrArg some (by kernel_rfl))
 f306:=Tryz.func280.trans (congrArg some (by kernel_rfl))
 f307:=Tryz.func281.trans (congrArg some (by kernel_rfl))
 f308:=Tryz.func282.trans (congrArg some (by kernel_rfl))
 f309:=Tryz.func283.trans (congrArg some (by kernel_rfl))
 f310:=Tryz.func284.trans (congrArg some (by kernel_rfl))
 f329:=Tryz.func297.trans (congrArg some (by kernel_rfl))
 f330:=Tryz.func298.trans (congrArg some (by kernel_rfl))
 f333:=Tryz.func296.trans (congrArg some (by kernel_rfl))
 f334:=Tryz.func299.trans (congrArg some (by kernel_rfl))
 f335:=Tryz.func300.trans (congrArg some (by kernel_rfl))
 f336:=Tryz.func301.trans (congrArg some (by kernel_rfl))
 f344:=Tryz.func310.trans (congrArg some (by kernel_rfl))
 t0:=Tryz.underlying0
 a0:=Tryz.isAgg0
 z0:=Tryz.sizeOf0
 v0:=Tryz.zeroValue0
 t3:=Tryz.underlying3
 a3:=Tryz.isAgg3
 z3:=Tryz.sizeOf3
 v3:=Tryz.zeroValue3
 t4:=Tryz.underlying4
 a4:=Tryz.isAgg4
 z4:=Tryz.sizeOf4
 v4:=Tryz.zeroValue4
 t5:=Tryz.underlying5
 a5:=Tryz.isAgg5
 z5:=Tryz.sizeOf5
 v5:=Tryz.zeroValue5
 t9:=Tryz.underlying9
 a9:=Tryz.isAgg9
 z9:=Tryz.sizeOf9
 v9:=Tryz.zeroValue9
 t31:=Tryz.underlying255
 a31:=Tryz.isAgg255
 z31:=Tryz.sizeOf255
 v31:=Tryz.zeroValue255
 t46:=Tryz.underlying198
 a46:=Tryz.isAgg198
 z46:=Tryz.sizeOf198
 v46:=Tryz.zeroValue198
 t51:=Tryz.underlying271
 a51:=Tryz.isAgg271
 z51:=Tryz.sizeOf271
 v51:=Tryz.zeroValue271
 t53:=Tryz.underlying23
 a53:=Tryz.isAgg23
 z53:=Tryz.sizeOf23
 v53:=Tryz.zeroValue23
 t131:=Tryz.underlying186
 a131:=Tryz.isAgg186
 z131:=Tryz.sizeOf186
 v131:=Tryz.zeroValue186
 t182:=Tryz.underlying357
 a182:=Tryz.isAgg357
 z182:=Tryz.sizeOf357
 v182:=Tryz.zeroValue357
 t183:=Tryz.underlying358
 a183:=Tryz.isAgg358
 z183:=Tryz.sizeOf358
 v183:=Tryz.zeroValue358
 t218:=Tryz.underlying380
 a218:=Tryz.isAgg380
 z218:=Tryz.sizeOf380
 v218:=Tryz.zeroValue380
 t222:=Tryz.underlying384
 a222:=Tryz.isAgg384
 z222:=Tryz.sizeOf384
 v222:=Tryz.zeroValue384
 t228:=Tryz.underlying391
 a228:=Tryz.isAgg391
 z228:=Tryz.sizeOf391
 v228:=Tryz.zeroValue391
 t229:=Tryz.underlying303
 a229:=Tryz.isAgg303
 z229:=Tryz.sizeOf303
 v229:=Tryz.zeroValue303}
end Go.Proofs
namespace Go.Proofs.YthdekbmdkpcooaaGreatDoor
section
open Go.RowKit Go.Maps Go.Sort
theorem q9Y {L:List FE} (h:q3E FE.nm L):(L.map FE.nm).mergeSort (fun x y=>decide (x≤y))=L.map FE.nm:=by
 refine List.mergeSort_of_pairwise (List.pairwise_map.2 (h.imp fun {x y} hxy=>?_));rw[q4o,decide_eq_true_eq] at hxy;rw[decide_eq_true_eq];exact List.le_of_lt hxy
theorem z3L {L:List FE} (h:q3E FE.nm L) {ss:List (List UInt8)} (hp:ss.Perm (strKeys (q5w L))):ss.mergeSort (fun x y=>decide (x≤y))=L.map FE.nm:=by
 rw[q6s] at hp;exact (mergeSort_of_perm hp).trans (q9Y h)
theorem FS.nm_le {w:World} {m:Nat} {L:List FE} (h:FS w m L) {e:FE} (he:e∈L):e.f.nm.length≤9223372036854775807:=by
 have:=strKeys_le h.map Tryz.underlying9 e.f.nm (by rw[q6s];exact List.mem_map.2 ⟨e,he,rfl⟩);unfold maxLen at this;exact this
def RetN (w:World) (N:List (List UInt8)) (e:Ending) (w':World):Prop:=
 ∃v,e= .returned v∧w'.ownsRow w.heap.size 9 1 v N.length (N.map encStr)∧Ext w w'
theorem RetN.out {w w':World} {N:List (List UInt8)} {e:Ending} (h:RetN w N e w'): ∃ao cap,e= .returned (.slice ao N.length cap)∧Own w' w.heap.size 9 1 (.slice ao N.length cap) N.length (N.map encStr)∧Ext w w':=by
 obtain ⟨v,rfl,h1,h2⟩:=h;obtain ⟨ao,cap,rfl⟩:=q0J h1;exact ⟨ao,cap,rfl,Own.of_row h1,h2⟩
theorem RetN.mk {w W:World} {N ss:List (List UInt8)} {a:Option Addr} {cap:Nat} (h:W.ownsRow w.heap.size 9 1 (.slice a ss.length cap) ss.length ((ss.mergeSort (fun x y=>decide (x≤y))).map encStr))
  (hs:ss.mergeSort (fun x y=>decide (x≤y))=N) (hl:ss.length=N.length) (hb:Ext w W):RetN w N (.returned (.slice a ss.length cap)) W:=by
 rw[hs,hl] at h;rw[hl];exact ⟨_,rfl,h,hb⟩
theorem z5e :(Tryz.prog.info? 9).map (fun i=>(i.zero,i.size,i.bytes))=some (some (.string ⟨#[]⟩),1,16):=by kernel_rfl
theorem z1d (w:World) (g m:Nat) (L:List FE) (c0:w.cell? ⟨g,0,none⟩=some (.bool true)) (c3:w.cell? ⟨g,3,none⟩=some (.map (some m))) (hfs:FS w m L) (hlen:L.length≤1000000):
  Calls Tryz.prog 171 #[.pointer (some ⟨g,0,none⟩)] w (RetN w (L.map FE.nm)):=by
 obtain ⟨i0,hi,hz0,hz1,hz2⟩:=info_parts z5e;have hown:=hfs.map;have HO:=Lib.hid hfs.ord;have hsz:Maps.size (q5w L)=L.length:=q6z L;have H:=Lib.hid (q7O w g true c0);obtain ⟨D,hD⟩: ∃D,q5w L=D:=⟨_,rfl⟩
 have HD:=Lib.hid hD;rw[hD] at hown hsz;have HS:=Lib.hid hsz;clear hfs hsz hD c0;have hbl:=hown.lt;go_enter Tryz.func171,Tryz.ntmps171;go_wp2_with fail;refine H.out.mono ?_;rintro e w' ⟨rfl,rfl⟩
 go_wp2_with (at_range;refine wpList_range_own _ rfl _ 128 rfl 9 217 z9X Tryz.underlying128 _ m L.length D rfl hown ?_;intro w0 hrg0 hg0 hs0)
 have HS0:=Lib.hid hs0;clear hs0
 go_frame
 go_loopw [3] (fun v wr=> ∃(left:Lit→Bool) (cnt:Nat) (ss:List (List UInt8)),wr.ranges Tryz.prog 9 q6I m w.heap.size L.length D left cnt∧ss.length+cnt≤L.length∧
   wr.ownsRow w.heap.size 9 1 v ss.length (ss.map encStr)∧Collected D left ss∧Below w.heap.size w wr)
  (fun _ wr=>wr.rangeLeft m w.heap.size)
 case atStart=>
  exact ⟨_,_,[],hrg0,by simp[HS.out],World.ownsRow_nil _ _ _ _,Collected.start D,(Below.refl _ _).grown hg0 (Nat.le_refl _) (fun j hj=>by cases hj)⟩
 case round=>
  obtain ⟨left,cnt,ss,hrg,hcs,hrow,hC,hnx⟩:=hrel
  go_wp2_with (at_next;refine wpList_next_ranges _ rfl _ rfl 9 z9X q6I encStr (fun x:Value=>x) (fun key kl hk=>by obtain ⟨x,hx,_⟩:=Maps.keyOf_str Tryz.underlying9 hk;exact ⟨x,hx⟩) (fun v y hv=>⟨v,rfl⟩) m w.heap.size L.length _ _ _ rfl hrg ?_ ?_)
  ·intro hc0 hl0
   have hp:=hC.perm hrg.owns z9X Tryz.underlying9 hl0;rw[←HD.out] at hp;have HSn:=Lib.hid (z3L HO.out hp);have HLn:=Lib.hid (show ss.length=L.length by have:=hp.length_eq;rw[q6s] at this;simpa using this);clear hp hl0;rcases hrow.2 with ⟨rfl,hnil⟩|⟨gb,cap,cur,rfl,hbase,hb,h1,h2,h3,h4⟩
   ·have HL:=Lib.hid (show L=[] from List.eq_nil_of_length_eq_zero (by have:=HLn.out;omega))
    clear hnil;have hs:=Any.slices_Sort_string_none Tryz.lays190 none 0 wr;have HX:=Lib.hid hs;clear hs;go_wp2_with fail;refine HX.out.mono ?_;rintro e w' ⟨rfl,rfl⟩;go_wp2_with fail;go_ret;refine ⟨_,rfl,?_,hnx⟩;rw[HL.out];exact World.ownsRow_nil _ _ _ _
   ·have hH:Holds encStr wr gb 0 ss.toArray:=holds_of_block hb (by simpa using h4)
    have hgl:gb<wr.heap.size:=(Array.getElem?_eq_some_iff.1 hb).1;have HX:=Lib.hid (Any.slices_Sort_string Tryz.lays190 gb 0 cap ss wr hH hgl (by omega));have HR:=Lib.hid (fun (nn:Nat) (os:Array Obj)=>ownsRow_sorted (n:=nn) (os:=os) (ts:=ss.mergeSort fun x y=>decide (x≤y)) (List.length_mergeSort ss) hbase hb h1 h2 h3);clear hH hb h4 h3;go_wp2_with fail;refine HX.out.mono ?_;rintro e w' ⟨rfl,nn,os,rfl⟩;go_wp2_with fail;go_ret;exact RetN.mk (HR.out nn os) HSn.out (by rw[HLn.out,List.length_map]) (hnx.grown (grownBy_sorted _) hnx.size (fun j hj=>by cases hj;exact hbase))
  ·intro x c kl yd yp w2 cnt2 hkey hlk hv hat hrg2 hlt hg2 hs2 hen
   obtain ⟨x',ex,rfl,_⟩:=Maps.keyOf_str Tryz.underlying9 hkey;obtain rfl:x=x':=encStr_inj ex;have hrow2:=hrow.kept hg2 (Or.inr (row_ne_iter hrow hrg).symm);clear hs2
   go_wp2_with (at_builtin;refine wpList_append_own _ rfl _ _ 255 rfl w.heap.size 9 i0 (.string ⟨#[]⟩) 1 16 Tryz.underlying255 hi hz0 hz1 hz2 rfl (by decide) _ _ _ rfl (hrow2.alloc _) ⟨w2.heap.size,0,none⟩ 1 1 [encStr x] rfl rfl (cell_one_new _ _ _) (by simp[Value.oneCell',encStr]) (by unfold maxLen at*;omega) (by omega) (by have:=hnx.size;have:=hg2.size;simp;omega) ?_;intro v' w3 hown' hg3 hnil3)
   have hrg3:=(hrg2.alloc _).kept hg3 (row_ne_low hrow2 hbl) (row_ne_iter hrow2 hrg2)
   go_roundw
   case rel=>
    refine ⟨_,cnt2,ss++[x],hrg3,by simp;omega,by simpa using hown',hC.step hlk hat,?_⟩;exact ((hnx.grown hg2 hnx.size (fun j hj=>by cases hj;exact Nat.le_refl _)).alloc (by have:=hnx.size;have:=hg2.size;omega) _).grown hg3 (by have:=hnx.size;have:=hg2.size;simp;omega) (fun j hj=>(hrow2.lt j hj).1)
   case measure=>rw[hrg3.left_eq,hrg.left_eq];exact hlt
end
section
open Go.RowKit
theorem z6u (w:World) (g b:Nat) (ao:Option Addr) (len cap:Nat) (us sy n:Int) (c2:w.cell? ⟨g,2,none⟩=some (.int .i64 us)) (z2:w.frozen? ⟨g,2,none⟩=false)
  (f0:w.cell? ⟨b,0,none⟩=some (.slice ao len cap)) (f1:w.cell? ⟨b,1,none⟩=some (.int .i64 sy)) (y0:w.frozen? ⟨b,0,none⟩=false) (y1:w.frozen? ⟨b,1,none⟩=false) (hgb:g≠b)
  (hl:len≤cap) (hc:cap≤9223372036854775807) (hnil:ao=none→cap=0) (hn0:0≤n) (hn1:n≤9223372036854775807) (hs0:0≤sy) (hs1:sy≤len) (hu0:(len:Int)≤us) (hu1:us≤1048576):
  Calls Tryz.prog 249 #[.pointer (some ⟨g,0,none⟩),.pointer (some ⟨b,0,none⟩),.int .i64 n] w fun e w'=>e= .returned (.tuple #[])∧
   w'=(((w.setCell ⟨g,2,none⟩ (.int .i64 (us-(len-min n len)))).drew.setCell ⟨b,0,none⟩ (.slice ao (min n len).toNat (min n len).toNat)).setCell ⟨b,1,none⟩ (.int .i64 (min sy (min n len)))):=by
 go_enter Tryz.func249,Tryz.ntmps249;go_wp2_with fail
 go_region
 go_wp2_with fail
 go_end0
 exact ⟨rfl,rfl⟩
theorem y1V (ao:Option Addr) (n c n' c':Nat):(Value.slice ao n c).ownBlock=(Value.slice ao n' c').ownBlock:=by cases ao<;>rfl
theorem Blk.set2 {w:World} {b:Nat} {t:TypeId} {u0 u1:Value} (h:Blk w b t #[u0,u1]) (v0 v1:Value):Blk ((w.setCell ⟨b,0,none⟩ v0).setCell ⟨b,1,none⟩ v1) b t #[v0,v1]:=(h.set 0 v0).set 1 v1
theorem Blk.out {w:World} {g i:Nat} {t:TypeId} {cs:Array Value} (h:Blk w g t cs) (hne:g≠i) (k:Nat) (u:Value):Blk (w.setCell ⟨i,k,none⟩ u) g t cs:=h.same (Below.heap_setCell _ _ _ _ hne)
theorem DkI.ne {w:World} {g m:Nat} {kv:Value} {L:List FE} {us:Int} {σ:DM} (h:DkI w g m kv L us σ):¬InF m L g:=h.fs.out h.head (by decide) (by decide)
theorem DkI.neB {w:World} {g m:Nat} {kv:Value} {L:List FE} {us:Int} {σ:DM} (h:DkI w g m kv L us σ) {e:FE} (he:e∈L):g≠e.b:=fun e1=>h.ne (.inr ⟨e,he,.inl e1⟩)
theorem DkI.keepF {w:World} {g m:Nat} {kv:Value} {L:List FE} {us:Int} {σ:DM} (h:DkI w g m kv L us σ) {i:Nat} (hi:kv.ownBlock=some i):i≠g∧¬InF m L i:=by
 obtain ⟨cur,hc⟩:=h.keep.etype hi;have hb:Blk w i 3 cur:=hc;exact ⟨Blk.ne hb h.head (by decide),h.fs.out hb (by decide) (by decide)⟩
theorem DkI.headSet {w w':World} {g m:Nat} {kv:Value} {L:List FE} {us us':Int} {σ σ':DM} (h:DkI w g m kv L us σ) (hk: ∀i,i<w.heap.size→i≠g→w'.heap[i]? =w.heap[i]?)
  (hb:Blk w' g 130 (q8v σ' us' m kv)) (hL:σ'.L=σ.L) (hK:σ'.keep=σ.keep):DkI w' g m kv L us' σ':=
 ⟨hb,h.fs.same fun i hi=>hk i (h.fs.lt hi) fun e=>h.ne (e▸hi),h.files.trans hL.symm,by rw[hK];exact h.keep.same fun i hi=>hk i (h.keep.lt i hi).2 (h.keepF hi).1⟩
theorem q7I (w:World):w.drew.heap=w.heap:=rfl
theorem q0L (w:World) {g k i:Nat} (u:Value) (h:i≠g):(w.setCell ⟨g,k,none⟩ u).heap[i]? =w.heap[i]? :=Below.heap_setCell _ _ _ _ h
theorem DkI.fileSet {w w':World} {g m:Nat} {kv:Value} {L:List FE} {us us':Int} {σ σ':DM} (h:DkI w g m kv L us σ) {nm:List UInt8} {e:FE} (hf:q0H FE.nm nm L=some e) (e':FE) (hn:e'.f.nm=nm) (hb:e'.b=e.b)
  (hw: ∀i,i<w.heap.size→i≠g→i≠e.b→e.v.ownBlock≠some i→w'.heap[i]? =w.heap[i]?) (hhd:Blk w' g 130 (q8v σ' us' m kv))
  (hblk:Blk w' e.b 221 #[e'.v,.int .i64 (e'.f.sy:Int)]) (hrow:Own w' 0 5 1 e'.v e'.f.da.length (e'.f.da.map q1L)) (hsep: ∀i,e'.v.ownBlock=some i→e.v.ownBlock=some i∨w.heap.size≤i)
  (f:FM→FM) (hfe:e'.f=f e.f) (hL:σ'.L=q1N FM.nm nm f σ.L) (hK:σ'.keep=σ.keep):DkI w' g m kv (q1N FE.nm nm (fun _=>e') L) us' σ':=by
 have he:=(q0O hf).1;refine ⟨hhd,h.fs.upd hf e' hn hb (fun i hi h1 h2=>hw i (h.fs.lt hi) (fun e1=>h.ne (e1▸hi)) h1 h2) hblk hrow (fun i hi=>?_),?_,?_⟩
 ·rcases hsep i hi with h1|h1
  ·exact .inl h1
  ·exact .inr fun h2=>by have:=h.fs.lt h2;omega
 ·rw[hL,←h.files]
  exact z4Q (fun x=>rfl) h.fs.ord hf hfe
 ·rw[hK]
  refine h.keep.same fun i hi=>hw i (h.keep.lt i hi).2 (h.keepF hi).1 (fun e1=>?_) (fun e1=>?_)
  ·exact (h.keepF hi).2 (.inr ⟨e,he,.inl e1⟩)
  ·exact (h.keepF hi).2 (.inr ⟨e,he,.inr e1⟩)
def MutD (g m:Nat) (L:List FE) (i:Nat):Prop:=i=g∨InF m L i
theorem MutD.inD {g m:Nat} {kv:Value} {L:List FE} {i:Nat} (h:MutD g m L i):InD g m kv L i:=h.elim .inl fun h=> .inr (.inl h)
theorem DkI.mut_lt {w:World} {g m:Nat} {kv:Value} {L:List FE} {us:Int} {σ:DM} (h:DkI w g m kv L us σ) {i:Nat} (hi:MutD g m L i):i<w.heap.size:=h.inD_lt hi.inD
theorem OffS.inD {w w':World} {g m:Nat} {kv:Value} {L:List FE} (h:OffS (MutD g m L) w w'):OffS (InD g m kv L) w w':=h.mono fun i _ hi=>hi.inD
theorem DkI.headKv {w w':World} {g m:Nat} {kv kv':Value} {L:List FE} {us us':Int} {σ σ':DM} (h:DkI w g m kv L us σ) (hk: ∀i,i<w.heap.size→i≠g→w'.heap[i]? =w.heap[i]?)
  (hb:Blk w' g 130 (q8v σ' us' m kv')) (hL:σ'.L=σ.L) (hK:Own w' 0 3 1 kv' σ'.keep.length (σ'.keep.map (Value.int .i64))):DkI w' g m kv' L us' σ':=
 ⟨hb,h.fs.same fun i hi=>hk i (h.fs.lt hi) fun e=>h.ne (e▸hi),h.files.trans hL.symm,hK⟩
theorem q6J {w w':World} {g m:Nat} {L:List FE} {e:FE} (he:e∈L) (hs:w.heap.size≤w'.heap.size) (ho:w'.os=w.os) (ht:w'.tape=w.tape) (hu:w'.output=w.output)
  (hw: ∀i,i<w.heap.size→i≠g→i≠e.b→e.v.ownBlock≠some i→w'.heap[i]? =w.heap[i]?):OffS (MutD g m L) w w':=
 ⟨ho,ht,hu,hs,fun i hi hn=>hw i hi (fun e1=>hn (.inl e1)) (fun e1=>hn (.inr (.inr ⟨e,he,.inl e1⟩))) (fun e1=>hn (.inr (.inr ⟨e,he,.inr e1⟩)))⟩
theorem y1h {w:World} {g m:Nat} {kv:Value} {L:List FE} {σ:DM} {us:Int} (h:DkI w g m kv L us σ) (hus:us=(q0P σ.L:Int)) (hcap:us≤1048576) (hord:q3E FM.nm σ.L) {nm:List UInt8} {e:FE} (hf:q0H FE.nm nm L=some e) (hsy:e.f.sy≤e.f.da.length)
  (n:Int) (hn0:0≤n) (hn1:n≤9223372036854775807):
  Calls Tryz.prog 249 #[.pointer (some ⟨g,0,none⟩),.pointer (some ⟨e.b,0,none⟩),.int .i64 n] w fun en w'=>en= .returned (.tuple #[])∧
   ∃ e':FE,e'.f=q5b n.toNat e.f∧e'.b=e.b∧(∀i,e'.v.ownBlock=some i→e.v.ownBlock=some i)∧
    DkI w' g m kv (q1N FE.nm nm (fun _=>e') L) (q0P (q1N FM.nm nm (q5b n.toNat) σ.L):Int) {σ with L:=q1N FM.nm nm (q5b n.toNat) σ.L}∧OffS (MutD g m L) w w':=by
 obtain ⟨he,hen⟩:=q0O hf;obtain ⟨ao,cap,hv,h1,h2,h3,h4⟩:=(h.fs.row e he).rd;have hfm:q0H FM.nm nm σ.L=some e.f:=by
  rw[←h.files,q1m (k:=FE.nm) (k':=FM.nm) (h:=FE.f) (fun x=>rfl),hf];rfl
 have hsum:=q6V (fun f:FM=>f.da.length) (f:=q5b n.toNat) hord hfm;have hmem:=q6T (fun f:FM=>f.da.length) (q0O hfm).1;have hle:e.f.da.length≤q0P σ.L:=hmem;have f0:=h.f0 he;rw[hv] at f0;have hgb:=h.neB he;refine (z6u w g e.b ao e.f.da.length cap us e.f.sy n h.c2 (h.z 2) f0 (h.f1 he) (h.fz he 0) (h.fz he 1) hgb h1 h2 h3 hn0 hn1 (by omega) (by omega) (by omega) (by omega)).mono ?_;rintro en w' ⟨rfl,rfl⟩;have hmn:(min n (e.f.da.length:Int)).toNat=min n.toNat e.f.da.length:=by omega
 have hss:min (e.f.sy:Int) (min n (e.f.da.length:Int))=((min e.f.sy (min n.toNat e.f.da.length):Nat):Int):=by omega
 have hlen:(e.f.da.take n.toNat).length=min n.toNat e.f.da.length:=List.length_take;have hw: ∀i,i<w.heap.size→i≠g→i≠e.b→e.v.ownBlock≠some i→((((w.setCell ⟨g,2,none⟩ (.int .i64 (us-(e.f.da.length-min n e.f.da.length)))).drew.setCell ⟨e.b,0,none⟩ (.slice ao (min n e.f.da.length).toNat (min n e.f.da.length).toNat)).setCell ⟨e.b,1,none⟩ (.int .i64 (min e.f.sy (min n e.f.da.length)))).heap[i]?)=w.heap[i]? :=by
  intro i _ hg hb _;rw[q0L _ _ hb,q0L _ _ hb,q7I,q0L _ _ hg]
 have hus':us-((e.f.da.length:Int)-min n e.f.da.length)=(q0P (q1N FM.nm nm (q5b n.toNat) σ.L):Int):=by
  unfold q0P at hus⊢;have:(q5b n.toNat e.f).da.length=min n.toNat e.f.da.length:=hlen;omega
 refine ⟨rfl,⟨q5b n.toNat e.f,e.b,.slice ao (min n e.f.da.length).toNat (min n e.f.da.length).toNat⟩,rfl,rfl,fun i hi=>?_,?_,q6J he (by simp[World.setCell,World.drew]) rfl rfl rfl hw⟩
 ·rw[hv,y1V ao _ _ (min n e.f.da.length).toNat (min n e.f.da.length).toNat];exact hi
 ·refine h.fileSet hf _ hen rfl hw ?_ ?_ ?_ (fun i hi=> .inl (by rw[hv,y1V ao _ _ (min n e.f.da.length).toNat (min n e.f.da.length).toNat];exact hi)) (q5b n.toNat) rfl rfl rfl
  ·have h5:=(h.head.set 2 (.int .i64 (us-(e.f.da.length-min n e.f.da.length)))).drew
   have h6:=(h5.out hgb 0 (.slice ao (min n e.f.da.length).toNat (min n e.f.da.length).toNat)).out hgb 1 (.int .i64 (min e.f.sy (min n e.f.da.length)));rw[hus'] at h6⊢;exact h6
  ·have h5:=((h.fs.blk e he).out (Ne.symm hgb) 2 (.int .i64 (us-(e.f.da.length-min n e.f.da.length)))).drew
   have h6:=h5.set2 (.slice ao (min n e.f.da.length).toNat (min n e.f.da.length).toNat) (.int .i64 (min e.f.sy (min n e.f.da.length)));rw[hss] at h6⊢;exact h6
  ·have hr:=(h.fs.row e he).cut (m:=min n.toNat e.f.da.length) (c:=min n.toNat e.f.da.length) (Nat.le_refl _) hv (by omega) (by omega)
   have hr2:Own w 0 5 1 (.slice ao (min n e.f.da.length).toNat (min n e.f.da.length).toNat) (q5b n.toNat e.f).da.length ((q5b n.toNat e.f).da.map q1L):=by
    have e1:(q5b n.toNat e.f).da.length=min n.toNat e.f.da.length:=hlen;rw[e1,hmn];have e2:(q5b n.toNat e.f).da.map q1L=(e.f.da.map q1L).take (min n.toNat e.f.da.length*1):=by
     rw[←List.map_take,Nat.mul_one];show (e.f.da.take n.toNat).map q1L=_
     congr 1
     rw[List.take_eq_take_iff];omega
    rw[e2];exact hr
   refine hr2.same fun i hi=>?_
   have hi':e.v.ownBlock=some i:=by rw[hv,y1V ao _ _ (min n e.f.da.length).toNat (min n e.f.da.length).toNat];exact hi
   have n1:i≠g:=fun e1=>h.ne (.inr ⟨e,he,.inr (e1▸hi')⟩)
   have n2:i≠e.b:=fun e1=>(h.fs.blk e he).own (h.fs.row e he) (by decide) (e1▸hi')
   show (((w.setCell _ _).drew.setCell _ _).setCell _ _).heap[i]? =_;rw[q0L _ _ n2,q0L _ _ n2,q7I,q0L _ _ n1]
end
end Go.Proofs.YthdekbmdkpcooaaGreatDoor
