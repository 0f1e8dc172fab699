/- The shelf's contracts of slices.Sort and slices.Clone at this seat, in plain words. -/
import Derived.Ground.NamesProg
import Derived.Ground.Names2Prog
import Derived.Shelf.Sort.Plain
import Derived.Shelf.Slices.Clone
import Derived.Test.YtjjfiejoeelndaaGreatDoorProg
import Derived.Test.YtjjfiejoeelndaaGreatDoorG17Bp
import Derived.Shelf.Slices.In.SortNone
import Derived.Sort.OwnSorted
import Derived.Lib.OwnBridge
import Derived.StillTailTactics
import Derived.Lib.BufferWrite
set_option linter.unusedVariables false
set_option linter.unusedSimpArgs false
set_option maxRecDepth 100000
set_option maxHeartbeats 1600000
namespace Go.Proofs
open Go.Shelf
def Tryz.lays190_ren :Go.Shelf.Ren:=⟨fun|190=>126|125=>184|258=>183|128=>225|129=>226|302=>216|303=>217|304=>218|305=>219|306=>220|307=>221|308=>222|309=>223|310=>224|333=>251|329=>252|330=>253|334=>254|335=>255|336=>256|344=>268|n=>n,fun|31=>70|9=>9|3=>3|46=>209|0=>0|51=>276|53=>23|4=>4|183=>300|182=>299|131=>190|5=>5|218=>330|222=>334|228=>351|229=>270|n=>n,fun|n=>n⟩
theorem Tryz.lays190 :Go.Proofs.Lays.n190 Tryz.prog Tryz.lays190_ren:={
 mixed:=by kernel_rfl
 f125:=Tryz.func184.trans (congrArg some (by kernel_rfl))
 f128:=Tryz.func225.trans (congrArg some (by kernel_rfl))
 f129:=Tryz.func226.trans (congrArg some (by kernel_rfl))
 f190:=Tryz.func126.trans (congrArg some (by kernel_rfl))
 f258:=Tryz.func183.trans (congrArg some (by kernel_rfl))
 f302:=Tryz.func216.trans (congrArg some (by kernel_rfl))
 f303:=Tryz.func217.trans (congrArg some (by kernel_rfl))
 f304:=Tryz.func218.trans (congrArg some (by kernel_rfl))
 f305:=Tryz.func219.trans (congrArg some (by kernel_rfl))
 f306:=Tryz.func220.trans (congrArg some (by kernel_rfl))
 f307:=Tryz.func221.trans (congrArg some (by kernel_rfl))
 f308:=Tryz.func222.trans (congrArg some (by kernel_rfl))
 f309:=Tryz.func223.trans (congrArg some (by kernel_rfl))
 f310:=Tryz.func224.trans (congrArg some (by kernel_rfl))
 f329:=Tryz.func252.trans (congrArg some (by kernel_rfl))
 f330:=Tryz.func253.trans (congrArg some (by kernel_rfl))
 f333:=Tryz.func251.trans (congrArg some (by kernel_rfl))
 f334:=Tryz.func254.trans (congrArg some (by kernel_rfl))
 f335:=Tryz.func255.trans (congrArg some (by kernel_rfl))
 f336:=Tryz.func256.trans (congrArg some (by kernel_rfl))
 f344:=Tryz.func268.trans (congrArg some (by kernel_rfl))
 t0:=Tryz.underlying0
 a0:=Tryz.isAgg0
 z0:=Tryz.sizeOf0
 v0:=Tryz.zeroValue0
 t3:=Tryz.underlying3
 a3:=Tryz.isAgg3
 z3:=Tryz.sizeOf3
 v3:=Tryz.zeroValue3
 t4:=Tryz.underlying4
 a4:=Tryz.isAgg4
 z4:=Tryz.sizeOf4
 v4:=Tryz.zeroValue4
 t5:=Tryz.underlying5
 a5:=Tryz.isAgg5
 z5:=Tryz.sizeOf5
 v5:=Tryz.zeroValue5
 t9:=Tryz.underlying9
 a9:=Tryz.isAgg9
 z9:=Tryz.sizeOf9
 v9:=Tryz.zeroValue9
 t31:=Tryz.underlying70
 a31:=Tryz.isAgg70
 z31:=Tryz.sizeOf70
 v31:=Tryz.zeroValue70
 t46:=Tryz.underlying209
 a46:=Tryz.isAgg209
 z46:=Tryz.sizeOf209
 v46:=Tryz.zeroValue209
 t51:=Tryz.underlying276
 a51:=Tryz.isAgg276
 z51:=Tryz.sizeOf276
 v51:=Tryz.zeroValue276
 t53:=Tryz.underlying23
 a53:=Tryz.isAgg23
 z53:=Tryz.sizeOf23
 v53:=Tryz.zeroValue23
 t131:=Tryz.underlying190
 a131:=Tryz.isAgg190
 z131:=Tryz.sizeOf190
 v131:=Tryz.zeroValue190
 t182:=Tryz.underlying299
 a182:=Tryz.isAgg299
 z182:=Tryz.sizeOf299
 v182:=Tryz.zeroValue299
 t183:=Tryz.underlying300
 a183:=Tryz.isAgg300
 z183:=Tryz.sizeOf300
 v183:=Tryz.zeroValue300
 t218:=Tryz.underlying330
 a218:=Tryz.isAgg330
 z218:=Tryz.sizeOf330
 v218:=Tryz.zeroValue330
 t222:=Tryz.underlying334
 a222:=Tryz.isAgg334
 z222:=Tryz.sizeOf334
 v222:=Tryz.zeroValue334
 t228:=Tryz.underlying351
 a228:=Tryz.isAgg351
 z228:=Tryz.sizeOf351
 v228:=Tryz.zeroValue351
 t229:=Tryz.underlying270
 a229:=Tryz.isAgg270
 z229:=Tryz.sizeOf270
 v229:=Tryz.zeroValue270}
end Go.Proofs
namespace Go.Proofs.YtjjfiejoeelndaaGreatDoor
theorem η24 {p:Prop} (h:p):Go.RowKit.Hid p:=Lib.hid h
section
open Go.RowKit Go.Maps Go.Sort
theorem z2G {L:List FE} (h:q3N FE.nm L):(L.map FE.nm).mergeSort (fun x y=>decide (x≤y))=L.map FE.nm:=by
 refine List.mergeSort_of_pairwise (List.pairwise_map.2 (h.imp fun {x y} hxy=>?_));rw[q5Z,decide_eq_true_eq] at hxy;rw[decide_eq_true_eq];exact List.le_of_lt hxy
theorem z5Z {L:List FE} (h:q3N FE.nm L) {ss:List (List UInt8)} (hp:ss.Perm (strKeys (q5y L))):ss.mergeSort (fun x y=>decide (x≤y))=L.map FE.nm:=by
 rw[q7z] at hp;exact (mergeSort_of_perm hp).trans (z2G h)
theorem FS.nm_le {w:World} {m:Nat} {L:List FE} (h:FS w m L) {e:FE} (he:e∈L):e.f.nm.length≤9223372036854775807:=by
 have:=strKeys_le h.map Tryz.underlying9 e.f.nm (by rw[q7z];exact List.mem_map.2 ⟨e,he,rfl⟩);unfold maxLen at this;exact this
def RetN (w:World) (N:List (List UInt8)) (e:Ending) (w':World):Prop:=
 ∃v,e= .returned v∧w'.ownsRow w.heap.size 9 1 v N.length (N.map encStr)∧Ext w w'
theorem RetN.out {w w':World} {N:List (List UInt8)} {e:Ending} (h:RetN w N e w'): ∃ao cap,e= .returned (.slice ao N.length cap)∧Own w' w.heap.size 9 1 (.slice ao N.length cap) N.length (N.map encStr)∧Ext w w':=by
 obtain ⟨v,rfl,h1,h2⟩:=h;obtain ⟨ao,cap,rfl⟩:=q0G h1;exact ⟨ao,cap,rfl,Own.of_row h1,h2⟩
theorem RetN.mk {w W:World} {N ss:List (List UInt8)} {a:Option Addr} {cap:Nat} (h:W.ownsRow w.heap.size 9 1 (.slice a ss.length cap) ss.length ((ss.mergeSort (fun x y=>decide (x≤y))).map encStr))
  (hs:ss.mergeSort (fun x y=>decide (x≤y))=N) (hl:ss.length=N.length) (hb:Ext w W):RetN w N (.returned (.slice a ss.length cap)) W:=by
 rw[hs,hl] at h;rw[hl];exact ⟨_,rfl,h,hb⟩
theorem z6n :(Tryz.prog.info? 9).map (fun i=>(i.zero,i.size,i.bytes))=some (some (.string ⟨#[]⟩),1,16):=by kernel_rfl
theorem z3a (w:World) (g m:Nat) (L:List FE) (c0:w.cell? ⟨g,0,none⟩=some (.bool true)) (c3:w.cell? ⟨g,3,none⟩=some (.map (some m))) (hfs:FS w m L) (hlen:L.length≤1000000):
  Calls Tryz.prog 65 #[.pointer (some ⟨g,0,none⟩)] w (RetN w (L.map FE.nm)):=by
 obtain ⟨i0,hi,hz0,hz1,hz2⟩:=info_parts z6n;have hown:=hfs.map;have HO:=η24 hfs.ord;have hsz:Maps.size (q5y L)=L.length:=q8Z L;have H:=η24 (q9T w g true c0);obtain ⟨D,hD⟩: ∃D,q5y L=D:=⟨_,rfl⟩
 have HD:=η24 hD;rw[hD] at hown hsz;have HS:=η24 hsz;clear hfs hsz hD c0;have hbl:=hown.lt;go_enter Tryz.func65,Tryz.ntmps65;go_wp2_with fail;refine H.out.mono ?_;rintro e w' ⟨rfl,rfl⟩
 go_wp2_with (at_range;refine wpList_range_own _ rfl _ 122 rfl 9 126 y0c Tryz.underlying122 _ m L.length D rfl hown ?_;intro w0 hrg0 hg0 hs0)
 have HS0:=η24 hs0;clear hs0
 go_frame
 go_loopw [3] (fun v wr=> ∃(left:Lit→Bool) (cnt:Nat) (ss:List (List UInt8)),wr.ranges Tryz.prog 9 q5Y m w.heap.size L.length D left cnt∧ss.length+cnt≤L.length∧
   wr.ownsRow w.heap.size 9 1 v ss.length (ss.map encStr)∧Collected D left ss∧Below w.heap.size w wr)
  (fun _ wr=>wr.rangeLeft m w.heap.size)
 case atStart=>
  exact ⟨_,_,[],hrg0,by simp[HS.out],World.ownsRow_nil _ _ _ _,Collected.start D,(Below.refl _ _).grown hg0 (Nat.le_refl _) (fun j hj=>by cases hj)⟩
 case round=>
  obtain ⟨left,cnt,ss,hrg,hcs,hrow,hC,hnx⟩:=hrel
  go_wp2_with (at_next;refine wpList_next_ranges _ rfl _ rfl 9 y0c q5Y encStr (fun x:Value=>x) (fun key kl hk=>by obtain ⟨x,hx,_⟩:=Maps.keyOf_str Tryz.underlying9 hk;exact ⟨x,hx⟩) (fun v y hv=>⟨v,rfl⟩) m w.heap.size L.length _ _ _ rfl hrg ?_ ?_)
  ·intro hc0 hl0
   have hp:=hC.perm hrg.owns y0c Tryz.underlying9 hl0;rw[←HD.out] at hp;have HSn:=η24 (z5Z HO.out hp);have HLn:=η24 (show ss.length=L.length by have:=hp.length_eq;rw[q7z] at this;simpa using this);clear hp hl0;rcases hrow.2 with ⟨rfl,hnil⟩|⟨gb,cap,cur,rfl,hbase,hb,h1,h2,h3,h4⟩
   ·have HL:=η24 (show L=[] from List.eq_nil_of_length_eq_zero (by have:=HLn.out;omega))
    clear hnil;have hs:=Any.slices_Sort_string_none Tryz.lays190 none 0 wr;have HX:=η24 hs;clear hs;go_wp2_with fail;refine HX.out.mono ?_;rintro e w' ⟨rfl,rfl⟩;go_wp2_with fail;go_ret;refine ⟨_,rfl,?_,hnx⟩;rw[HL.out];exact World.ownsRow_nil _ _ _ _
   ·have hH:Holds encStr wr gb 0 ss.toArray:=holds_of_block hb (by simpa using h4)
    have hgl:gb<wr.heap.size:=(Array.getElem?_eq_some_iff.1 hb).1;have HX:=η24 (Any.slices_Sort_string Tryz.lays190 gb 0 cap ss wr hH hgl (by omega));have HR:=η24 (fun (nn:Nat) (os:Array Obj)=>ownsRow_sorted (n:=nn) (os:=os) (ts:=ss.mergeSort fun x y=>decide (x≤y)) (List.length_mergeSort ss) hbase hb h1 h2 h3);clear hH hb h4 h3;go_wp2_with fail;refine HX.out.mono ?_;rintro e w' ⟨rfl,nn,os,rfl⟩;go_wp2_with fail;go_ret;exact RetN.mk (HR.out nn os) HSn.out (by rw[HLn.out,List.length_map]) (hnx.grown (grownBy_sorted _) hnx.size (fun j hj=>by cases hj;exact hbase))
  ·intro x c kl yd yp w2 cnt2 hkey hlk hv hat hrg2 hlt hg2 hs2 hen
   obtain ⟨x',ex,rfl,_⟩:=Maps.keyOf_str Tryz.underlying9 hkey;obtain rfl:x=x':=encStr_inj ex;have hrow2:=hrow.kept hg2 (Or.inr (row_ne_iter hrow hrg).symm);clear hs2
   go_wp2_with (at_builtin;refine wpList_append_own _ rfl _ _ 70 rfl w.heap.size 9 i0 (.string ⟨#[]⟩) 1 16 Tryz.underlying70 hi hz0 hz1 hz2 rfl (by decide) _ _ _ rfl (hrow2.alloc _) ⟨w2.heap.size,0,none⟩ 1 1 [encStr x] rfl rfl (cell_one_new _ _ _) (by simp[Value.oneCell',encStr]) (by unfold maxLen at*;omega) (by omega) (by have:=hnx.size;have:=hg2.size;simp;omega) ?_;intro v' w3 hown' hg3 hnil3)
   have hrg3:=(hrg2.alloc _).kept hg3 (row_ne_low hrow2 hbl) (row_ne_iter hrow2 hrg2)
   go_roundw
   case rel=>
    refine ⟨_,cnt2,ss++[x],hrg3,by simp;omega,by simpa using hown',hC.step hlk hat,?_⟩;exact ((hnx.grown hg2 hnx.size (fun j hj=>by cases hj;exact Nat.le_refl _)).alloc (by have:=hnx.size;have:=hg2.size;omega) _).grown hg3 (by have:=hnx.size;have:=hg2.size;simp;omega) (fun j hj=>(hrow2.lt j hj).1)
   case measure=>rw[hrg3.left_eq,hrg.left_eq];exact hlt
end
section
open Go.RowKit
theorem z9g (w:World) (g b:Nat) (ao:Option Addr) (len cap:Nat) (us sy n:Int) (c2:w.cell? ⟨g,2,none⟩=some (.int .i64 us)) (z2:w.frozen? ⟨g,2,none⟩=false)
  (f0:w.cell? ⟨b,0,none⟩=some (.slice ao len cap)) (f1:w.cell? ⟨b,1,none⟩=some (.int .i64 sy)) (y0:w.frozen? ⟨b,0,none⟩=false) (y1:w.frozen? ⟨b,1,none⟩=false) (hgb:g≠b)
  (hl:len≤cap) (hc:cap≤9223372036854775807) (hnil:ao=none→cap=0) (hn0:0≤n) (hn1:n≤9223372036854775807) (hs0:0≤sy) (hs1:sy≤len) (hu0:(len:Int)≤us) (hu1:us≤1048576):
  Calls Tryz.prog 66 #[.pointer (some ⟨g,0,none⟩),.pointer (some ⟨b,0,none⟩),.int .i64 n] w fun e w'=>e= .returned (.tuple #[])∧
   w'=(((w.setCell ⟨g,2,none⟩ (.int .i64 (us-(len-min n len)))).drew.setCell ⟨b,0,none⟩ (.slice ao (min n len).toNat (min n len).toNat)).setCell ⟨b,1,none⟩ (.int .i64 (min sy (min n len)))):=by
 go_enter Tryz.func66,Tryz.ntmps66;go_wp2_with fail
 go_region
 go_wp2_with fail
 go_end0
 exact ⟨rfl,rfl⟩
theorem y4P (ao:Option Addr) (n c n' c':Nat):(Value.slice ao n c).ownBlock=(Value.slice ao n' c').ownBlock:=by cases ao<;>rfl
theorem Blk.set2 {w:World} {b:Nat} {t:TypeId} {u0 u1:Value} (h:Blk w b t #[u0,u1]) (v0 v1:Value):Blk ((w.setCell ⟨b,0,none⟩ v0).setCell ⟨b,1,none⟩ v1) b t #[v0,v1]:=(h.set 0 v0).set 1 v1
theorem Blk.out {w:World} {g i:Nat} {t:TypeId} {cs:Array Value} (h:Blk w g t cs) (hne:g≠i) (k:Nat) (u:Value):Blk (w.setCell ⟨i,k,none⟩ u) g t cs:=h.same (Below.heap_setCell _ _ _ _ hne)
theorem DkI.ne {w:World} {g m:Nat} {kv:Value} {L:List FE} {us:Int} {σ:DM} (h:DkI w g m kv L us σ):¬InF m L g:=h.fs.out h.head (by decide) (by decide)
theorem DkI.neB {w:World} {g m:Nat} {kv:Value} {L:List FE} {us:Int} {σ:DM} (h:DkI w g m kv L us σ) {e:FE} (he:e∈L):g≠e.b:=fun e1=>h.ne (.inr ⟨e,he,.inl e1⟩)
theorem DkI.keepF {w:World} {g m:Nat} {kv:Value} {L:List FE} {us:Int} {σ:DM} (h:DkI w g m kv L us σ) {i:Nat} (hi:kv.ownBlock=some i):i≠g∧¬InF m L i:=by
 obtain ⟨cur,hc⟩:=h.keep.etype hi;have hb:Blk w i 3 cur:=hc;exact ⟨Blk.ne hb h.head (by decide),h.fs.out hb (by decide) (by decide)⟩
theorem DkI.headSet {w w':World} {g m:Nat} {kv:Value} {L:List FE} {us us':Int} {σ σ':DM} (h:DkI w g m kv L us σ) (hk: ∀i,i<w.heap.size→i≠g→w'.heap[i]? =w.heap[i]?)
  (hb:Blk w' g 124 (q8I σ' us' m kv)) (hL:σ'.L=σ.L) (hK:σ'.keep=σ.keep):DkI w' g m kv L us' σ':=
 ⟨hb,h.fs.same fun i hi=>hk i (h.fs.lt hi) fun e=>h.ne (e▸hi),h.files.trans hL.symm,by rw[hK];exact h.keep.same fun i hi=>hk i (h.keep.lt i hi).2 (h.keepF hi).1⟩
theorem q9B (w:World):w.drew.heap=w.heap:=rfl
theorem q0N (w:World) {g k i:Nat} (u:Value) (h:i≠g):(w.setCell ⟨g,k,none⟩ u).heap[i]? =w.heap[i]? :=Below.heap_setCell _ _ _ _ h
theorem DkI.fileSet {w w':World} {g m:Nat} {kv:Value} {L:List FE} {us us':Int} {σ σ':DM} (h:DkI w g m kv L us σ) {nm:List UInt8} {e:FE} (hf:q0H FE.nm nm L=some e) (e':FE) (hn:e'.f.nm=nm) (hb:e'.b=e.b)
  (hw: ∀i,i<w.heap.size→i≠g→i≠e.b→e.v.ownBlock≠some i→w'.heap[i]? =w.heap[i]?) (hhd:Blk w' g 124 (q8I σ' us' m kv))
  (hblk:Blk w' e.b 130 #[e'.v,.int .i64 (e'.f.sy:Int)]) (hrow:Own w' 0 5 1 e'.v e'.f.da.length (e'.f.da.map q1Y)) (hsep: ∀i,e'.v.ownBlock=some i→e.v.ownBlock=some i∨w.heap.size≤i)
  (f:FM→FM) (hfe:e'.f=f e.f) (hL:σ'.L=q1S FM.nm nm f σ.L) (hK:σ'.keep=σ.keep):DkI w' g m kv (q1S FE.nm nm (fun _=>e') L) us' σ':=by
 have he:=(q0L hf).1;refine ⟨hhd,h.fs.upd hf e' hn hb (fun i hi h1 h2=>hw i (h.fs.lt hi) (fun e1=>h.ne (e1▸hi)) h1 h2) hblk hrow (fun i hi=>?_),?_,?_⟩
 ·rcases hsep i hi with h1|h1
  ·exact .inl h1
  ·exact .inr fun h2=>by have:=h.fs.lt h2;omega
 ·rw[hL,←h.files]
  exact z6r (fun x=>rfl) h.fs.ord hf hfe
 ·rw[hK]
  refine h.keep.same fun i hi=>hw i (h.keep.lt i hi).2 (h.keepF hi).1 (fun e1=>?_) (fun e1=>?_)
  ·exact (h.keepF hi).2 (.inr ⟨e,he,.inl e1⟩)
  ·exact (h.keepF hi).2 (.inr ⟨e,he,.inr e1⟩)
def MutD (g m:Nat) (L:List FE) (i:Nat):Prop:=i=g∨InF m L i
theorem MutD.inD {g m:Nat} {kv:Value} {L:List FE} {i:Nat} (h:MutD g m L i):InD g m kv L i:=h.elim .inl fun h=> .inr (.inl h)
theorem DkI.mut_lt {w:World} {g m:Nat} {kv:Value} {L:List FE} {us:Int} {σ:DM} (h:DkI w g m kv L us σ) {i:Nat} (hi:MutD g m L i):i<w.heap.size:=h.inD_lt hi.inD
theorem OffS.inD {w w':World} {g m:Nat} {kv:Value} {L:List FE} (h:OffS (MutD g m L) w w'):OffS (InD g m kv L) w w':=h.mono fun i _ hi=>hi.inD
theorem DkI.headKv {w w':World} {g m:Nat} {kv kv':Value} {L:List FE} {us us':Int} {σ σ':DM} (h:DkI w g m kv L us σ) (hk: ∀i,i<w.heap.size→i≠g→w'.heap[i]? =w.heap[i]?)
  (hb:Blk w' g 124 (q8I σ' us' m kv')) (hL:σ'.L=σ.L) (hK:Own w' 0 3 1 kv' σ'.keep.length (σ'.keep.map (Value.int .i64))):DkI w' g m kv' L us' σ':=
 ⟨hb,h.fs.same fun i hi=>hk i (h.fs.lt hi) fun e=>h.ne (e▸hi),h.files.trans hL.symm,hK⟩
theorem q7u {w w':World} {g m:Nat} {L:List FE} {e:FE} (he:e∈L) (hs:w.heap.size≤w'.heap.size) (ho:w'.os=w.os) (ht:w'.tape=w.tape) (hu:w'.output=w.output)
  (hw: ∀i,i<w.heap.size→i≠g→i≠e.b→e.v.ownBlock≠some i→w'.heap[i]? =w.heap[i]?):OffS (MutD g m L) w w':=
 ⟨ho,ht,hu,hs,fun i hi hn=>hw i hi (fun e1=>hn (.inl e1)) (fun e1=>hn (.inr (.inr ⟨e,he,.inl e1⟩))) (fun e1=>hn (.inr (.inr ⟨e,he,.inr e1⟩)))⟩
theorem y4M {w:World} {g m:Nat} {kv:Value} {L:List FE} {σ:DM} {us:Int} (h:DkI w g m kv L us σ) (hus:us=(q0Q σ.L:Int)) (hcap:us≤1048576) (hord:q3N FM.nm σ.L) {nm:List UInt8} {e:FE} (hf:q0H FE.nm nm L=some e) (hsy:e.f.sy≤e.f.da.length)
  (n:Int) (hn0:0≤n) (hn1:n≤9223372036854775807):
  Calls Tryz.prog 66 #[.pointer (some ⟨g,0,none⟩),.pointer (some ⟨e.b,0,none⟩),.int .i64 n] w fun en w'=>en= .returned (.tuple #[])∧
   ∃ e':FE,e'.f=q6e n.toNat e.f∧e'.b=e.b∧(∀i,e'.v.ownBlock=some i→e.v.ownBlock=some i)∧
    DkI w' g m kv (q1S FE.nm nm (fun _=>e') L) (q0Q (q1S FM.nm nm (q6e n.toNat) σ.L):Int) {σ with L:=q1S FM.nm nm (q6e n.toNat) σ.L}∧OffS (MutD g m L) w w':=by
 obtain ⟨he,hen⟩:=q0L hf;obtain ⟨ao,cap,hv,h1,h2,h3,h4⟩:=(h.fs.row e he).rd;have hfm:q0H FM.nm nm σ.L=some e.f:=by
  rw[←h.files,q2G (k:=FE.nm) (k':=FM.nm) (h:=FE.f) (fun x=>rfl),hf];rfl
 have hsum:=q7o (fun f:FM=>f.da.length) (f:=q6e n.toNat) hord hfm;have hmem:=q7h (fun f:FM=>f.da.length) (q0L hfm).1;have hle:e.f.da.length≤q0Q σ.L:=hmem;have f0:=h.f0 he;rw[hv] at f0;have hgb:=h.neB he;refine (z9g w g e.b ao e.f.da.length cap us e.f.sy n h.c2 (h.z 2) f0 (h.f1 he) (h.fz he 0) (h.fz he 1) hgb h1 h2 h3 hn0 hn1 (by omega) (by omega) (by omega) (by omega)).mono ?_;rintro en w' ⟨rfl,rfl⟩;have hmn:(min n (e.f.da.length:Int)).toNat=min n.toNat e.f.da.length:=by omega
 have hss:min (e.f.sy:Int) (min n (e.f.da.length:Int))=((min e.f.sy (min n.toNat e.f.da.length):Nat):Int):=by omega
 have hlen:(e.f.da.take n.toNat).length=min n.toNat e.f.da.length:=List.length_take;have hw: ∀i,i<w.heap.size→i≠g→i≠e.b→e.v.ownBlock≠some i→((((w.setCell ⟨g,2,none⟩ (.int .i64 (us-(e.f.da.length-min n e.f.da.length)))).drew.setCell ⟨e.b,0,none⟩ (.slice ao (min n e.f.da.length).toNat (min n e.f.da.length).toNat)).setCell ⟨e.b,1,none⟩ (.int .i64 (min e.f.sy (min n e.f.da.length)))).heap[i]?)=w.heap[i]? :=by
  intro i _ hg hb _;rw[q0N _ _ hb,q0N _ _ hb,q9B,q0N _ _ hg]
 have hus':us-((e.f.da.length:Int)-min n e.f.da.length)=(q0Q (q1S FM.nm nm (q6e n.toNat) σ.L):Int):=by
  unfold q0Q at hus⊢;have:(q6e n.toNat e.f).da.length=min n.toNat e.f.da.length:=hlen;omega
 refine ⟨rfl,⟨q6e n.toNat e.f,e.b,.slice ao (min n e.f.da.length).toNat (min n e.f.da.length).toNat⟩,rfl,rfl,fun i hi=>?_,?_,q7u he (by simp[World.setCell,World.drew]) rfl rfl rfl hw⟩
 ·rw[hv,y4P ao _ _ (min n e.f.da.length).toNat (min n e.f.da.length).toNat];exact hi
 ·refine h.fileSet hf _ hen rfl hw ?_ ?_ ?_ (fun i hi=> .inl (by rw[hv,y4P ao _ _ (min n e.f.da.length).toNat (min n e.f.da.length).toNat];exact hi)) (q6e n.toNat) rfl rfl rfl
  ·have h5:=(h.head.set 2 (.int .i64 (us-(e.f.da.length-min n e.f.da.length)))).drew
   have h6:=(h5.out hgb 0 (.slice ao (min n e.f.da.length).toNat (min n e.f.da.length).toNat)).out hgb 1 (.int .i64 (min e.f.sy (min n e.f.da.length)));rw[hus'] at h6⊢;exact h6
  ·have h5:=((h.fs.blk e he).out (Ne.symm hgb) 2 (.int .i64 (us-(e.f.da.length-min n e.f.da.length)))).drew
   have h6:=h5.set2 (.slice ao (min n e.f.da.length).toNat (min n e.f.da.length).toNat) (.int .i64 (min e.f.sy (min n e.f.da.length)));rw[hss] at h6⊢;exact h6
  ·have hr:=(h.fs.row e he).cut (m:=min n.toNat e.f.da.length) (c:=min n.toNat e.f.da.length) (Nat.le_refl _) hv (by omega) (by omega)
   have hr2:Own w 0 5 1 (.slice ao (min n e.f.da.length).toNat (min n e.f.da.length).toNat) (q6e n.toNat e.f).da.length ((q6e n.toNat e.f).da.map q1Y):=by
    have e1:(q6e n.toNat e.f).da.length=min n.toNat e.f.da.length:=hlen;rw[e1,hmn];have e2:(q6e n.toNat e.f).da.map q1Y=(e.f.da.map q1Y).take (min n.toNat e.f.da.length*1):=by
     rw[←List.map_take,Nat.mul_one];show (e.f.da.take n.toNat).map q1Y=_
     congr 1
     rw[List.take_eq_take_iff];omega
    rw[e2];exact hr
   refine hr2.same fun i hi=>?_
   have hi':e.v.ownBlock=some i:=by rw[hv,y4P ao _ _ (min n e.f.da.length).toNat (min n e.f.da.length).toNat];exact hi
   have n1:i≠g:=fun e1=>h.ne (.inr ⟨e,he,.inr (e1▸hi')⟩)
   have n2:i≠e.b:=fun e1=>(h.fs.blk e he).own (h.fs.row e he) (by decide) (e1▸hi')
   show (((w.setCell _ _).drew.setCell _ _).setCell _ _).heap[i]? =_;rw[q0N _ _ n2,q0N _ _ n2,q9B,q0N _ _ n1]
end
section
open Go.RowKit
def CrR (w1:World) (g m:Nat) (kv:Value) (L:List FE) (σ:DM) (xs:List Int) (k:Nat) (wr:World):Prop:=
 ∃Lk,DkI wr g m kv Lk (q0Q (q5F σ.L xs k):Int) {σ with L:=q5F σ.L xs k}∧(∀j,InF m Lk j→InF m L j)∧OffS (MutD g m L) w1 wr
theorem CrR.start {w1:World} {g m:Nat} {kv:Value} {L:List FE} {σ:DM} (h:DkI w1 g m kv L (q0Q σ.L:Int) σ) (xs:List Int):CrR w1 g m kv L σ xs 0 w1:=by
 unfold CrR;rw[z6v];exact ⟨L,h,fun j hj=>hj,OffS.refl _ _⟩
theorem y4J {L:List FE} {nm:List UInt8} {f:FM} (h:q0H FM.nm nm (L.map FE.f)=some f): ∃e,q0H FE.nm nm L=some e∧e.f=f:=by
 rw[q2G (k:=FE.nm) (k':=FM.nm) (h:=FE.f) (fun x=>rfl)] at h
 cases hf:q0H FE.nm nm L with
 |none=>rw[hf] at h;cases h
 |some e=>rw[hf] at h;exact ⟨e,rfl,Option.some.inj h⟩
theorem z5h (f:FM) (x:Int) (n:Int) (hn:n=(f.sy:Int)+min (max x 0) ((f.da.length:Int)-f.sy)) (hs:f.sy≤f.da.length):({q6e n.toNat f with sy:=(q6e n.toNat f).da.length}:FM)=q4e f x:=by
 have e1:n.toNat=f.sy+min (max x 0).toNat (f.da.length-f.sy):=by omega
 unfold q6e q4e;rw[e1]
 congr 1
 simp;omega
theorem CrR.step {w1 wr wd wc:World} {g m:Nat} {kv:Value} {L Lk:List FE} {σ:DM} {xs:List Int} {k:Nat} (ho:okD σ) (hk:k<σ.L.length) (hi:DkI wr g m kv Lk (q0Q (q5F σ.L xs k):Int) {σ with L:=q5F σ.L xs k}) (hin: ∀j,InF m Lk j→InF m L j) (hoff:OffS (MutD g m L) w1 wr)
  (hwd:OffS (MutD g m L) wr wd) {e e':FE} (hf:q0H FE.nm σ.L[k].nm Lk=some e) (hef:e.f=σ.L[k]) {n:Int} (hn:n=(e.f.sy:Int)+min (max (xs.getD k 0) 0) ((e.f.da.length:Int)-e.f.sy)) (h1:e'.f=q6e n.toNat e.f) (h2:e'.b=e.b) (h3: ∀i,e'.v.ownBlock=some i→e.v.ownBlock=some i)
  (hd:DkI wc g m kv (q1S FE.nm σ.L[k].nm (fun _=>e') Lk) (q0Q (q1S FM.nm σ.L[k].nm (q6e n.toNat) (q5F σ.L xs k)):Int) {σ with L:=q1S FM.nm σ.L[k].nm (q6e n.toNat) (q5F σ.L xs k)}) (hc:OffS (MutD g m Lk) wd wc):
  CrR w1 g m kv L σ xs (k+1) (wc.setCell ⟨e'.b,1,none⟩ (.int .i64 (e'.f.da.length:Int))):=by
 obtain ⟨hfm,hst⟩:=z1u xs hk ho.ord;have hsy:=ho.sy _ (List.getElem_mem hk);have hoL:q3N FM.nm (q5F σ.L xs k):=z4q ho.ord (z3p _ _ _);obtain ⟨he,hen⟩:=q0L hf;have hn':FE.nm e'=σ.L[k].nm:=by show e'.f.nm=_;rw[h1];exact hen
 have hf':q0H FE.nm σ.L[k].nm (q1S FE.nm σ.L[k].nm (fun _=>e') Lk)=some e':=q4V hd.fs.ord ((q5Q (f:=fun _=>e') hi.fs.ord hf).2 (.inl rfl)) hn';have he':=(q0L hf').1;have hgb:=hd.neB he';have hrowb:e'.v.ownBlock≠some e'.b:=(hd.fs.blk e' he').own (hd.fs.row e' he') (by decide);have hcr:({q6e n.toNat σ.L[k] with sy:=(q6e n.toNat σ.L[k]).da.length}:FM)=q4e σ.L[k] (xs.getD k 0):=z5h _ _ _ (by rw[←hef];exact hn) hsy;have hup:q1S FM.nm σ.L[k].nm (fun f=>{f with sy:=f.da.length}) (q1S FM.nm σ.L[k].nm (q6e n.toNat) (q5F σ.L xs k))=q5F σ.L xs (k+1):=by
  rw[z6a (h:=q6e n.toNat) (fun y=>rfl)];exact hst _ hcr
 have hus:q0Q (q1S FM.nm σ.L[k].nm (q6e n.toNat) (q5F σ.L xs k))=q0Q (q5F σ.L xs (k+1)):=by
  have o2:q3N FM.nm (q1S FM.nm σ.L[k].nm (q6e n.toNat) (q5F σ.L xs k)):=z0k hoL fun y hy=>hy
  have f2:q0H FM.nm σ.L[k].nm (q1S FM.nm σ.L[k].nm (q6e n.toNat) (q5F σ.L xs k))=some (q6e n.toNat σ.L[k]):=q4V o2 ((q5Q (f:=q6e n.toNat) hoL hfm).2 (.inl rfl)) rfl;have:=q7o (fun f:FM=>f.da.length) (f:=fun f:FM=>{f with sy:=f.da.length}) o2 f2;rw[←hup];exact (Nat.add_right_cancel (show q5d (fun f:FM=>f.da.length) _+(q6e n.toNat σ.L[k]).da.length=q5d (fun f:FM=>f.da.length) _+(q6e n.toNat σ.L[k]).da.length from this)).symm
 have hkeepw: ∀i,i<wc.heap.size→i≠g→i≠e'.b→e'.v.ownBlock≠some i→(wc.setCell ⟨e'.b,1,none⟩ (.int .i64 (e'.f.da.length:Int))).heap[i]? =wc.heap[i]? :=fun i _ _ hb _=>q0N _ _ hb
 have hin': ∀j,InF m (q1S FE.nm σ.L[k].nm (fun _=>e') Lk) j→InF m L j:=fun j hj=>by
  rcases InF.upd hi.fs.ord hf h2 hj with h|h
  ·exact hin j h
  ·exact hin j (.inr ⟨e,he,.inr (h3 j h)⟩)
 have hstep:=hd.fileSet (σ':={σ with L:=q5F σ.L xs (k+1)}) (us':=(q0Q (q5F σ.L xs (k+1)):Int)) hf' ⟨{e'.f with sy:=e'.f.da.length},e'.b,e'.v⟩ hn' rfl hkeepw (by rw[←hus];exact hd.head.out hgb _ _) ((hd.fs.blk e' he').set 1 _) ((hd.fs.row e' he').same fun i hi2=>q0N _ _ fun e1=>hrowb (e1▸hi2)) (fun i hi2=> .inl hi2) (fun f=>{f with sy:=f.da.length}) rfl hup.symm rfl;refine ⟨_,hstep,fun j hj=>?_,(hoff.trans hwd).trans ((hc.mono fun i _ hm=>?_).trans ?_)⟩
 ·rcases InF.upd (e':=(⟨{e'.f with sy:=e'.f.da.length},e'.b,e'.v⟩:FE)) hd.fs.ord hf' rfl hj with h|h
  ·exact hin' j h
  ·exact hin j (.inr ⟨e,he,.inr (h3 j h)⟩)
 ·rcases hm with rfl|hm
  ·exact .inl rfl
  ·exact .inr (hin i hm)
 ·have hof:OffS (MutD g m (q1S FE.nm σ.L[k].nm (fun _=>e') Lk)) wc (wc.setCell ⟨e'.b,1,none⟩ (.int .i64 (e'.f.da.length:Int))):=q7u he' (by simp[World.setCell]) rfl rfl rfl hkeepw
  exact hof.mono fun i _ hm=>hm.elim (fun h=>Or.inl h) (fun h=>Or.inr (hin' i h))
theorem CrR.done {w1 wr:World} {g m:Nat} {kv:Value} {L:List FE} {σ:DM} {xs:List Int} (h:CrR w1 g m kv L σ xs σ.L.length wr):
  ∃ L',DkI ((((wr.setCell ⟨g,6,none⟩ (.bool true)).setCell ⟨g,7,none⟩ (.bool false)).setCell ⟨g,8,none⟩ (.int .i64 0)).setCell ⟨g,9,none⟩ (.slice none 0 0)) g m (.slice none 0 0) L' (q0Q (q1o σ.L xs):Int) (z4F σ xs)∧(∀i,InF m L' i→InF m L i)∧
   OffS (MutD g m L) w1 ((((wr.setCell ⟨g,6,none⟩ (.bool true)).setCell ⟨g,7,none⟩ (.bool false)).setCell ⟨g,8,none⟩ (.int .i64 0)).setCell ⟨g,9,none⟩ (.slice none 0 0)):=by
 obtain ⟨Lk,hi,hin,hoff⟩:=h;rw[z9W] at hi;have hw: ∀i,i<wr.heap.size→i≠g→((((wr.setCell ⟨g,6,none⟩ (.bool true)).setCell ⟨g,7,none⟩ (.bool false)).setCell ⟨g,8,none⟩ (.int .i64 0)).setCell ⟨g,9,none⟩ (.slice none 0 0)).heap[i]? =wr.heap[i]? :=by
  intro i _ hg;rw[q0N _ _ hg,q0N _ _ hg,q0N _ _ hg,q0N _ _ hg]
 refine ⟨Lk,hi.headKv hw ((((hi.head.set 6 _).set 7 _).set 8 _).set 9 _) rfl (Own.nil _ _ _ _),hin,hoff.trans ⟨rfl,rfl,rfl,by simp[World.setCell],fun i hl hn=>hw i hl fun e=>hn (.inl e)⟩⟩
theorem y1l {w:World} {g m:Nat} {kv:Value} {L:List FE} {σ:DM} (h:DkI w g m kv L (q0Q σ.L:Int) σ) (ho:okD σ) (hup:σ.down=false) (ka:Option Addr) (kn kc:Nat) (xs:List Int)
  (hkeep: ∀W,OffS (MutD g m L) w W→Ints W ka kn kc xs):
  Calls Tryz.prog 32 #[.pointer (some ⟨g,0,none⟩),.slice ka kn kc] w fun e w'=>e= .returned (.int .i64 0)∧
   ∃L',DkI w' g m (.slice none 0 0) L' (q0Q (q1o σ.L xs):Int) (z4F σ xs)∧(∀i,InF m L' i→InF m L i)∧OffS (MutD g m L) w w':=by
 have c6:=h.c6;rw[hup] at c6;have HR:=η24 (q4X w g h.c0 c6);have hLl:L.length=σ.L.length:=by rw[←h.files,List.length_map]
 have hmany:=ho.many;have HN:=η24 (z3a w g m L h.c0 h.c3 h.fs (by omega));have HI:=η24 h;have HO:=η24 ho;have HK:=η24 hkeep;have hNn:L.map FE.nm=σ.L.map FM.nm:=by rw[←h.files,List.map_map];rfl
 obtain ⟨n,hn⟩: ∃n,σ.L.length=n:=⟨_,rfl⟩
 have hn400:n≤400:=by omega
 have HNn:=η24 hNn;have HLn:=η24 hn;clear h ho hkeep hup c6 hLl hmany hNn;go_enter Tryz.func32,Tryz.ntmps32;go_wp2_with fail;refine HR.out.mono ?_;rintro e w' ⟨rfl,rfl⟩;go_wp2_with fail;refine HN.out.mono ?_;intro e w1 hret;obtain ⟨na,nc,rfl,hown,hext⟩:=hret.out;have hlen:(L.map FE.nm).length=n:=by rw[HNn.out,List.length_map,HLn.out]
 rw[hlen] at hown⊢;have HOwn:=η24 hown;have HE:=η24 hext;have HI1:=η24 (HI.out.ext hext);have hfits:n≤nc∧nc≤9223372036854775807:=by
  obtain ⟨ao,cap,e1,h1,h2,_⟩:=hown.rd
  cases e1;exact ⟨h1,h2⟩
 have hkn:=HK.out w (OffS.refl _ _);have hkfit:=hkn.fits;have hkb:=hkn.bound;have HKl:=η24 hkn.len;clear hret hown hext hn hlen hkn;go_wp2_with fail
 go_loopw [18] (fun i wr=> ∃k:Nat,k≤n∧i= .int .i64 k∧CrR w1 g m kv L σ xs k wr) (fun i _=>n-(intOf i).toNat)
 case atStart=>exact ⟨0,Nat.zero_le _,rfl,CrR.start HI1.out xs⟩
 case round=>
  obtain ⟨k,hk,rfl,hcr⟩:=hrel;by_cases hlt:k<n
  ·obtain ⟨Lk,hi,hin,hoff⟩:=hcr
   have hkL:k<σ.L.length:=by rw[HLn.out];exact hlt
   have hmw: ∀j,MutD g m L j→j<w.heap.size:=fun j hj=>HI.out.mut_lt hj
   have hown:=hoff.own HOwn.out fun i hb hm=>by have:=(HOwn.out.lt i hb).1;have:=hmw i hm;omega
   obtain ⟨gb,cap,hv,hcell,_,_⟩:=hown.cell (j:=k) (by simp only[List.length_map];rw[←List.length_map (f:=FE.nm),HNn.out,List.length_map];exact hkL)
   cases hv;have hnm:((L.map FE.nm).map encStr)[k]? =some (.string ⟨σ.L[k].nm.toArray⟩):=by
    rw[HNn.out,List.getElem?_map,List.getElem?_map,List.getElem?_eq_getElem hkL];rfl
   rw[←List.getElem?_eq_getElem,hnm] at hcell;have hfm:=(z1u xs hkL HO.out.ord).1;have hfm':q0H FM.nm σ.L[k].nm (Lk.map FE.f)=some σ.L[k]:=by rw[hi.files];exact hfm
   obtain ⟨e,hfe,hef⟩:=y4J hfm';have he:=(q0L hfe).1;have hsy:e.f.sy≤e.f.da.length:=by rw[hef];exact HO.out.sy _ (List.getElem_mem hkL)
   have hnl:σ.L[k].nm.length≤9223372036854775807:=by rw[←hef];exact hi.fs.nm_le he
   have hrun:=z8i hi.fs hnl hfe;obtain ⟨ao,fc,hv2,hf1,hf2,hf3,_⟩:=(hi.fs.row e he).rd;have f0:=hi.f0 he;rw[hv2] at f0;have f1:=hi.f1 he;have c3:=hi.c3;have hkr:=HK.out wr ((OffS.of_ext HE.out).trans hoff);have hus:e.f.da.length≤q0Q (q5F σ.L xs k):=by rw[hef];exact q7h (fun f:FM=>f.da.length) (q0L hfm).1
   have hus2:=z5f σ.L xs k;have hus3:=HO.out.used;have hus4:=HO.out.cap1;have hcapl:e.f.da.length≤1048576:=by omega
   have hcapu:(q0Q (q5F σ.L xs k):Int)≤1048576:=by omega
   obtain ⟨nm,hnmE⟩: ∃nm,σ.L[k].nm=nm:=⟨_,rfl⟩
   have hdr:DkI wr.drew g m kv Lk (q0Q (q5F σ.L xs k):Int) {σ with L:=q5F σ.L xs k}:=hi.ext (Ext.drew (Ext.refl _));have HCut:=η24 (fun nn h0 h1=>y4M hdr rfl hcapu (z4q HO.out.ord (z3p _ _ _)) hfe hsy nn h0 h1);have HStep:=η24 (fun wc e' (nn:Int)=>CrR.step (wc:=wc) (e':=e') (n:=nn) HO.out hkL hi hin hoff (OffS.of_ext (Ext.drew (Ext.refl _))) hfe hef);rw[hnmE] at hrun hcell HCut HStep;obtain ⟨dl,hdl⟩: ∃dl,e.f.da.length=dl:=⟨_,rfl⟩
   obtain ⟨sy,hsy2⟩: ∃sy,e.f.sy=sy:=⟨_,rfl⟩
   obtain ⟨bb,hbb⟩: ∃bb,e.b=bb:=⟨_,rfl⟩
   rw[hdl] at hsy f0 hf1 HStep hcapl;rw[hsy2] at hsy f1 HStep;rw[hbb] at f0 f1 hrun HCut HStep;have HM:Hid (∀e':FE,e'∈q1S FE.nm nm (fun _=>e') Lk):=η24 (fun e'=>by rw[←hnmE];exact (q5Q (f:=fun _=>e') hi.fs.ord hfe).2 (.inl rfl));obtain ⟨x,hx⟩: ∃x,xs.getD k 0=x:=⟨_,rfl⟩
   rw[hx] at HStep;have HX:=η24 hx;clear hi hin hoff hkL hmw hown hnm hfm hfm' hfe hef he hnl hv2 hus hus2 hus3 hus4 hnmE hdr hdl hsy2 hbb hx;by_cases hkk:k<kn
   ·obtain ⟨bk,ok,rfl,hck⟩:=hkr.at hkk
    rw[HX.out] at hck;clear hkr;go_wp2_with fail
    go_still_tail 19,(by kernel_rfl)
    go_wp2_with fail;refine (HCut.out _ (by omega) (by omega)).mono ?_;rintro en wc ⟨rfl,e',h1,h2,h3,hd,hc⟩;have he':=HM.out e';have HS:=η24 (HStep.out wc e' _ (by omega) h1 h2 h3 hd hc);obtain ⟨ao',fc',hv',hg1,hg2,hg3,_⟩:=(hd.fs.row e' he').rd;have f0':=hd.f0 he';have y1':=hd.fz he' 1;have f1':=hd.f1 he';rw[hv'] at f0';rw[h2] at f0' y1' f1' HS;generalize e'.f.da.length=dl' at*;clear hd hc h1 h3 hv' he' h2;go_wp2_with fail
    go_roundw
    case rel=>exact ⟨k+1,by omega,by go_num,HS.out⟩
    case measure=>simp[intOf];omega
   ·obtain rfl:x=0:=by
     rw[←HX.out,List.getD_eq_getElem?_getD,List.getElem?_eq_none (by rw[HKl.out];omega)];rfl
    clear hkr;go_wp2_with fail
    go_still_tail 19,(by kernel_rfl)
    go_wp2_with fail;refine (HCut.out _ (by omega) (by omega)).mono ?_;rintro en wc ⟨rfl,e',h1,h2,h3,hd,hc⟩;have he':=HM.out e';have HS:=η24 (HStep.out wc e' _ (by omega) h1 h2 h3 hd hc);obtain ⟨ao',fc',hv',hg1,hg2,hg3,_⟩:=(hd.fs.row e' he').rd;have f0':=hd.f0 he';have y1':=hd.fz he' 1;have f1':=hd.f1 he';rw[hv'] at f0';rw[h2] at f0' y1' f1' HS;generalize e'.f.da.length=dl' at*;clear hd hc h1 h3 hv' he' h2;go_wp2_with fail
    go_roundw
    case rel=>exact ⟨k+1,by omega,by go_num,HS.out⟩
    case measure=>simp[intOf];omega
  ·obtain rfl:k=n:=by omega
   have HC:=η24 (by rw[←HLn.out] at hcr;exact CrR.done hcr);obtain ⟨Lk,hi,hin,hoff⟩:=hcr;have c6:=hi.c6;have c7:=hi.c7;have c8:=hi.c8;have c9:=hi.c9;have z6:=hi.z 6;have z7:=hi.z 7;have z8:=hi.z 8;have z9:=hi.z 9;clear hi hin hoff;go_wp2_with fail;go_ret;obtain ⟨L',h1,h2,h3⟩:=HC.out;exact ⟨rfl,L',h1,h2,(OffS.of_ext HE.out).trans h3⟩
end
section
open Go.RowKit
def Fin (w:World) (g m:Nat) (kv:Value) (L:List FE) (σ':DM) (w':World):Prop:=
 okD σ'∧ ∃m' kv' L',DkI w' g m' kv' L' (q0Q σ'.L:Int) σ'∧(∀i,InD g m' kv' L' i→InD g m kv L i∨w.heap.size≤i)∧OffS (InD g m kv L) w w'
theorem Dk.openD {w:World} {g:Nat} {F:Nat→Prop} {σ:DM} (h:Dk w g F σ):okD σ∧ ∃m kv L,DkI w g m kv L (q0Q σ.L:Int) σ∧ ∀σ' w',Fin w g m kv L σ' w'→DkS w g F σ' w':=by
 obtain ⟨ho,m,kv,L,hi,h1,h2⟩:=h;refine ⟨ho,m,kv,L,hi,fun σ' w' ⟨ho',m',kv',L',hi',hin,hoff⟩=>DkS.mk' h1 h2 ho' hi' hoff hin⟩
theorem Fin.same {w:World} {g m:Nat} {kv:Value} {L:List FE} {σ:DM} (ho:okD σ) (h:DkI w g m kv L (q0Q σ.L:Int) σ):Fin w g m kv L σ w:=
 ⟨ho,m,kv,L,h,fun i hi=> .inl hi,OffS.refl _ _⟩
theorem Fin.ext {w w':World} {g m:Nat} {kv:Value} {L:List FE} {σ:DM} (ho:okD σ) (h:DkI w g m kv L (q0Q σ.L:Int) σ) (k:Ext w w'):Fin w g m kv L σ w':=
 ⟨ho,m,kv,L,h.ext k,fun i hi=> .inl hi,OffS.of_ext k⟩
theorem Fin.after {w w1 w':World} {g m m1:Nat} {kv kv1:Value} {L L1:List FE} {σ':DM} (hin: ∀i,InD g m1 kv1 L1 i→InD g m kv L i∨w.heap.size≤i) (hoff:OffS (InD g m kv L) w w1) (h:Fin w1 g m1 kv1 L1 σ' w'):Fin w g m kv L σ' w':=by
 obtain ⟨ho,m',kv',L',hi,h1,h2⟩:=h;have hs:=hoff.size;refine ⟨ho,m',kv',L',hi,fun i hx=>?_,⟨h2.os.trans hoff.os,h2.tape.trans hoff.tape,h2.output.trans hoff.output,Nat.le_trans hs h2.size,fun i hl hn=>?_⟩⟩
 ·rcases h1 i hx with h3|h3
  ·exact hin i h3
  ·exact .inr (Nat.le_trans hs h3)
 ·refine (h2.block i (Nat.lt_of_lt_of_le hl hs) fun h3=>?_).trans (hoff.block i hl hn)
  rcases hin i h3 with h4|h4
  ·exact hn h4
  ·omega
theorem Fin.file {w w':World} {g m:Nat} {kv:Value} {L:List FE} {us:Int} {σ σ':DM} (ho:okD σ') (h:DkI w g m kv L us σ) {nm:List UInt8} {e:FE} (hf:q0H FE.nm nm L=some e) (e':FE) (hn:e'.f.nm=nm) (hb:e'.b=e.b)
  (hs:w.heap.size≤w'.heap.size) (h1:w'.os=w.os) (h2:w'.tape=w.tape) (h3:w'.output=w.output) (hw: ∀i,i<w.heap.size→i≠g→i≠e.b→e.v.ownBlock≠some i→w'.heap[i]? =w.heap[i]?)
  (hhd:Blk w' g 124 (q8I σ' (q0Q σ'.L:Int) m kv)) (hblk:Blk w' e.b 130 #[e'.v,.int .i64 (e'.f.sy:Int)]) (hrow:Own w' 0 5 1 e'.v e'.f.da.length (e'.f.da.map q1Y))
  (hsep: ∀i,e'.v.ownBlock=some i→e.v.ownBlock=some i∨w.heap.size≤i) (f:FM→FM) (hfe:e'.f=f e.f) (hL:σ'.L=q1S FM.nm nm f σ.L) (hK:σ'.keep=σ.keep):Fin w g m kv L σ' w':=by
 have he:=(q0L hf).1;refine ⟨ho,m,kv,_,h.fileSet hf e' hn hb hw hhd hblk hrow hsep f hfe hL hK,fun i hi=>?_,(q7u he hs h1 h2 h3 hw).inD⟩;rcases hi with h4|h4|h4
 ·exact .inl (.inl h4)
 ·rcases InF.upd h.fs.ord hf hb h4 with h5|h5
  ·exact .inl (.inr (.inl h5))
  ·rcases hsep i h5 with h6|h6
   ·exact .inl (.inr (.inl (.inr ⟨e,he,.inr h6⟩)))
   ·exact .inr h6
 ·exact .inl (.inr (.inr h4))
theorem z8N {w:World} {g m:Nat} {kv:Value} {L:List FE} {us:Int} {σ:DM} (h:DkI w g m kv L us σ): ∃ka kc,kv= .slice ka σ.keep.length kc∧ ∀W,OffS (MutD g m L) w W→Ints W ka σ.keep.length kc σ.keep:=by
 obtain ⟨ka,kc,hv⟩:=h.keep.slice;refine ⟨ka,kc,hv,fun W hW=>?_⟩;have hk:Own W 0 3 1 kv σ.keep.length (σ.keep.map (Value.int .i64)):=hW.own h.keep fun i hi hm=>hm.elim (h.keepF hi).1 (h.keepF hi).2
 obtain ⟨ao,cap,e1,e2,e3,e4,e5⟩:=hk.rd;rw[hv] at e1
 cases e1;exact ⟨rfl,e2,e3,e4,e5⟩
theorem z1Z {w:World} {g m:Nat} {kv:Value} {L:List FE} {σ:DM} (h:DkI w g m kv L (q0Q σ.L:Int) σ) (ho:okD σ) (hup:σ.down=false):
  Calls Tryz.prog 172 #[.pointer (some ⟨g,0,none⟩)] w fun e w'=>e= .returned (.int .i64 61)∧Fin w g m kv L (q4t σ) w':=by
 obtain ⟨ka,kc,rfl,hk⟩:=z8N h;have HC:=η24 (y1l h ho hup ka _ kc _ hk);have HO:=η24 ho.sink;have c9:=h.c9;clear h ho hk hup;go_enter Tryz.func172,Tryz.ntmps172;go_wp2_with fail;refine HC.out.mono ?_;rintro e w' ⟨rfl,L',hi,hin,hoff⟩;have HF:Fin w g m (.slice ka σ.keep.length kc) L (q4t σ) w':=by
  refine ⟨HO.out,m,_,L',hi,fun i hx=>?_,hoff.inD⟩;rcases hx with h|h|h
  ·exact .inl (.inl h)
  ·exact .inl (.inr (.inl (hin i h)))
  ·cases h
 have HF:=η24 HF;clear hi hin hoff;go_wp2_with fail;go_ret;exact ⟨rfl,HF.out⟩
theorem z1w {w:World} {g m:Nat} {kv:Value} {L:List FE} {σ:DM} {us:Int} (h:DkI w g m kv L us σ) (ho:okD σ) (hf:q2C σ=false):
  Calls Tryz.prog 171 #[.pointer (some ⟨g,0,none⟩)] w fun e w'=>e= .returned (.bool false)∧DkI w' g m kv L us (q1d σ)∧OffS (MutD g m L) w w'∧w'.heap.size=w.heap.size∧ ∀i,i≠g→w'.heap[i]? =w.heap[i]? :=by
 refine (z9E w g σ.fail σ.left h.c7 h.c8 (h.z 8) ho.left ho.left1 (fun e1 e2=>by simp[q2C,e1,e2] at hf)).mono ?_;rintro e w' ⟨rfl,rfl⟩;have hw: ∀i,i≠g→(w.setCell ⟨g,8,none⟩ (.int .i64 (max (σ.left-1) 0))).heap[i]? =w.heap[i]? :=fun i hg=>q0N _ _ hg
 exact ⟨rfl,h.headSet (fun i _=>hw i) (h.head.set 8 _) rfl rfl,OffS.set w (F:=MutD g m L) (.inl rfl) _ _,by simp[World.setCell],hw⟩
theorem z2C {w:World} {g m:Nat} {kv:Value} {L:List FE} {σ:DM} {us:Int} (h:DkI w g m kv L us σ) (hf:q2C σ=true):
  Calls Tryz.prog 171 #[.pointer (some ⟨g,0,none⟩)] w fun e w'=>e= .returned (.bool true)∧w=w':=by
 simp[q2C] at hf;have c7:=h.c7;have c8:=h.c8;rw[hf.1] at c7;rw[hf.2] at c8;exact z8F w g c7 c8
theorem y4V {w:World} {g:Nat} {F:Nat→Prop} {σ:DM} (h:Dk w g F σ):Calls Tryz.prog 114 #[.pointer (some ⟨g,0,none⟩)] w fun e w'=>e= .returned (.bool (!σ.down))∧w=w':=by
 obtain ⟨ho,m,kv,L,hi,_⟩:=h;have c6:=hi.c6
 cases hd:σ.down with
 | false=>
  rw[hd] at c6;have HR:=η24 (q4X w g hi.c0 c6);clear hi ho c6 hd;go_enter Tryz.func114,Tryz.ntmps114;go_wp2_with fail;refine HR.out.mono ?_;rintro e w' ⟨rfl,rfl⟩;go_wp2_with fail;go_ret;exact ⟨rfl,rfl⟩
 | true=>
  rw[hd] at c6;have HR:=η24 (q5S w g hi.c0 c6);clear hi ho c6 hd;go_enter Tryz.func114,Tryz.ntmps114;go_wp2_with fail;refine HR.out.mono ?_;rintro e w' ⟨rfl,rfl⟩;go_wp2_with fail;go_ret;exact ⟨rfl,rfl⟩
theorem z7Z {w:World} {g:Nat} {F:Nat→Prop} {σ:DM} (h:Dk w g F σ):Calls Tryz.prog 193 #[.pointer (some ⟨g,0,none⟩)] w fun e w'=>e= .returned (.int .i64 (q4Q σ))∧Ext w w':=by
 obtain ⟨ho,m,kv,L,hi,_⟩:=h;have HN:=η24 (q9T w g true hi.c0);have c1:=hi.c1;have c2:=hi.c2;have h0:=ho.cap0;have h1:=ho.cap1;have h2:=ho.used;obtain ⟨us,hus⟩: ∃us:Int,(q0Q σ.L:Int)=us:=⟨_,rfl⟩
 have hus0:0≤us:=by omega
 have HF:Hid (q4Q σ=σ.cap-us):=η24 (by rw[←hus];rfl);rw[hus] at c2 h2;generalize σ.cap=cp at*;clear hi ho hus;go_enter Tryz.func193,Tryz.ntmps193;go_wp2_with fail;refine HN.out.mono ?_;rintro e w' ⟨rfl,rfl⟩;go_wp2_with fail
 go_quiet (fail)
 go_wp2_with fail;go_ret;rw[HF.out];exact ⟨rfl,(Ext.refl w).drewN _⟩
theorem z4W {w:World} {g:Nat} {F:Nat→Prop} {σ:DM} (h:Dk w g F σ):Calls Tryz.prog 118 #[.pointer (some ⟨g,0,none⟩)] w fun e w'=>e= .returned (.int .i64 σ.starts)∧w=w':=by
 obtain ⟨ho,m,kv,L,hi,_⟩:=h;have HN:=η24 (q9T w g true hi.c0);have c5:=hi.c5;clear hi ho;go_enter Tryz.func118,Tryz.ntmps118;go_wp2_with fail;refine HN.out.mono ?_;rintro e w' ⟨rfl,rfl⟩;go_wp2_with fail;go_ret;exact ⟨rfl,rfl⟩
theorem z0S {w:World} {g m:Nat} {kv:Value} {L:List FE} {us:Int} {σ:DM} (h:DkI w g m kv L us σ) (nm:List UInt8) (hl:nm.length≤9223372036854775807):
  (σ.down=true∧ ∃R:Hid (Calls Tryz.prog 150 #[.pointer (some ⟨g,0,none⟩),.string ⟨nm.toArray⟩] w fun e w'=>e= .returned (.tuple #[.pointer none,.int .i64 61])∧w=w'),True)∨
  (σ.down=false∧q0H FM.nm nm σ.L=none∧q0H FE.nm nm L=none∧ ∃R:Hid (Calls Tryz.prog 150 #[.pointer (some ⟨g,0,none⟩),.string ⟨nm.toArray⟩] w fun e w'=>e= .returned (.tuple #[.pointer none,.int .i64 4])∧w=w'),True)∨
  (σ.down=false∧ ∃e:FE,q0H FE.nm nm L=some e∧q0H FM.nm nm σ.L=some e.f∧e∈L∧ ∃R:Hid (Calls Tryz.prog 150 #[.pointer (some ⟨g,0,none⟩),.string ⟨nm.toArray⟩] w fun en w'=>en= .returned (.tuple #[.pointer (some ⟨e.b,0,none⟩),.int .i64 0])∧w=w'),True):=by
 have c6:=h.c6
 cases hd:σ.down with
 | true=>
  rw[hd] at c6;exact .inl ⟨rfl,η24 (z1f w g h.c0 c6 _),trivial⟩
 | false=>
  rw[hd] at c6
  cases hf:q0H FE.nm nm L with
  | none=>
   refine .inr (.inl ⟨rfl,?_,rfl,η24 (find_none w g m nm h.c0 c6 h.c3 (z3J h.fs hl hf)),trivial⟩);rw[←h.files,q2G (k:=FE.nm) (k':=FM.nm) (h:=FE.f) (fun x=>rfl),hf];rfl
  | some e=>
   refine .inr (.inr ⟨rfl,e,rfl,?_,(q0L hf).1,η24 (find_some w g m e.b nm h.c0 c6 h.c3 (z1K h.fs hl hf)),trivial⟩);rw[←h.files,q2G (k:=FE.nm) (k':=FM.nm) (h:=FE.f) (fun x=>rfl),hf];rfl
theorem q7N {w:World} {g:Nat} {F:Nat→Prop} {σ:DM} (h:Dk w g F σ) (nm:List UInt8) (hl:nm.length≤9223372036854775807):
  Calls Tryz.prog 115 #[.pointer (some ⟨g,0,none⟩),.string ⟨nm.toArray⟩] w fun e w'=>e= .returned (.tuple #[.int .i64 (q1c σ nm).1,.int .i64 (q1c σ nm).2])∧w=w':=by
 obtain ⟨ho,m,kv,L,hi,_⟩:=h;rcases z0S hi nm hl with ⟨hd,R,_⟩|⟨hd,hf,_,R,_⟩|⟨hd,e,hfe,hf,he,R,_⟩
 ·have HS:Hid (q1c σ nm=(0,61)):=η24 (by unfold q1c;rw[if_pos hd])
  clear hi ho hd;go_enter Tryz.func115,Tryz.ntmps115;go_wp2_with fail;refine R.out.mono ?_;rintro e w' ⟨rfl,rfl⟩;go_wp2_with fail;go_ret2;rw[HS.out];exact ⟨rfl,rfl⟩
 ·have HS:Hid (q1c σ nm=(0,4)):=η24 (by unfold q1c;rw[if_neg (by rw[hd];decide),hf])
  clear hi ho hd hf;go_enter Tryz.func115,Tryz.ntmps115;go_wp2_with fail;refine R.out.mono ?_;rintro e w' ⟨rfl,rfl⟩;go_wp2_with fail;go_ret2;rw[HS.out];exact ⟨rfl,rfl⟩
 ·have HS:Hid (q1c σ nm=((e.f.da.length:Int),0)):=η24 (by unfold q1c;rw[if_neg (by rw[hd];decide),hf])
  obtain ⟨ao,cap,hv,_⟩:=(hi.fs.row e he).rd;have f0:=hi.f0 he;rw[hv] at f0;clear hi ho hd hf hfe he hv;generalize e.f.da.length=dl at*;generalize e.b=bb at*;go_enter Tryz.func115,Tryz.ntmps115;go_wp2_with fail;refine R.out.mono ?_;rintro e w' ⟨rfl,rfl⟩;go_wp2_with fail;go_ret2;rw[HS.out];exact ⟨rfl,rfl⟩
end
section
open Go.RowKit
theorem q3G {w:World} {m:Nat} {L:List FE} {ops:Array Oper} {rest:List Oper} {o:Oper} {a:Act} {Q:Exit→Act→World→Prop} (hfs:FS w m L) (hg:o.guard=none) (x:Operand)
  (hop:o.op=Op.call {callee:=Callee.builtin Builtin.len,args:=#[x],argTypes:=#[122]}) (hm:a.eval x= .map (some m))
  (hK:wpList Tryz.prog ops Q rest (a.put o.dst (.int .i64 (L.length:Nat))) w):wpList Tryz.prog ops Q (o::rest) a w:=
 wpList_len_own w hg x 122 hop 9 126 Tryz.underlying122 q5Y m L.length (q5y L) hm hfs.map (by rw[q8Z];exact hK)
theorem Fin.create {w w3:World} {g m:Nat} {kv:Value} {L:List FE} {σ:DM} (h:DkI w g m kv L (q0Q σ.L:Int) σ) {nm:List UInt8} (ho:okD {σ with L:=q2A FM.nm ⟨nm,[],0⟩ σ.L}) (hno:q0H FE.nm nm L=none) {n:Nat}
  (hmap:w3.ownsMap Tryz.prog 9 q5Y m n ((q5y L).put (.string nm) (.lit (.int .i64 w.heap.size)))) (hturn:(w.alloc (.cells #[.slice none 0 0,.int .i64 0] 130)).mapTurned w3 m):
  Fin w g m kv L {σ with L:=q2A FM.nm ⟨nm,[],0⟩ σ.L} w3:=by
 obtain ⟨x,hx⟩: ∃x:FE,x=⟨⟨nm,[],0⟩,w.heap.size,.slice none 0 0⟩:=⟨_,rfl⟩
 have hb0:=Blk.new w 130 #[.slice none 0 0,.int .i64 0];have hext:=q0D w (.cells #[.slice none 0 0,.int .i64 0] 130);have hmb:m≠w.heap.size:=Nat.ne_of_lt h.fs.map.lt;have hw: ∀i,i≠m→i<w.heap.size+1→w3.heap[i]? =(w.alloc (.cells #[.slice none 0 0,.int .i64 0] 130)).heap[i]? :=fun i hi hl=>hturn.grown.block i (by rw[World.size_alloc];exact hl) (fun e=>hi (by cases e;rfl))
 have hw2: ∀i,i<w.heap.size→i≠m→w3.heap[i]? =w.heap[i]? :=fun i hl hi=>(hw i hi (by omega)).trans (hext.block i hl)
 have hfs:FS w3 m (q2A FE.nm x L):=by
  refine (h.fs.ext hext).put x (by rw[hx];exact hno) (by rw[hx];exact hmap) (fun i hi hne=>hw i hne (by have:=h.fs.lt hi;omega)) ?_ ?_ (fun y hy=>?_)
  ·rw[hx];exact hb0.same (hw _ (Ne.symm hmb) (Nat.lt_succ_self _))
  ·rw[hx];exact Own.nil _ _ _ _
  ·rw[hx]
   exact ⟨Nat.ne_of_gt (h.fs.blk y hy).lt,fun i hi=>by cases hi⟩
 refine ⟨ho,m,kv,_,⟨?_,hfs,?_,?_⟩,fun i hi=>?_,?_⟩
 ·have hh:=h.head.same (hw2 g h.head.lt fun e=>h.ne (.inl e))
  have e1:(q0Q (q2A FM.nm ⟨nm,[],0⟩ σ.L):Int)=q0Q σ.L:=by rw[q9L];simp
  show Blk w3 g _ (q8I {σ with L:=q2A FM.nm ⟨nm,[],0⟩ σ.L} (q0Q (q2A FM.nm ⟨nm,[],0⟩ σ.L):Int) m kv);rw[e1];exact hh
 ·show (q2A FE.nm x L).map FE.f=q2A FM.nm ⟨nm,[],0⟩ σ.L
  rw[q6A (k:=FE.nm) (k':=FM.nm) (h:=FE.f) (fun x=>rfl),h.files,hx]
 ·exact h.keep.same fun i hi=>hw2 i (h.keep.lt i hi).2 fun e=>(h.keepF hi).2 (.inl e)
 ·rcases hi with h1|h1|h1
  ·exact .inl (.inl h1)
  ·rcases InF.ins h1 with h2|h2|h2
   ·right;rw[h2,hx];exact Nat.le_refl _
   ·rw[hx] at h2;cases h2
   ·exact .inl (.inr (.inl h2))
  ·exact .inl (.inr (.inr h1))
 ·refine ⟨hturn.grown.os,hturn.grown.tape,hturn.grown.output,?_,fun i hl hn=>hw2 i hl fun e=>hn (.inr (.inl (.inl e)))⟩
  have:=hturn.grown.size;rw[World.size_alloc] at this;omega
theorem z0v {w:World} {g:Nat} {F:Nat→Prop} {σ:DM} (h:Dk w g F σ) (nm:List UInt8) (hl:nm.length≤9223372036854775807):
  Calls Tryz.prog 144 #[.pointer (some ⟨g,0,none⟩),.string ⟨nm.toArray⟩] w fun e w'=>e= .returned (.int .i64 (q0o σ nm).1)∧DkS w g F (q0o σ nm).2 w':=by
 obtain ⟨ho,m,kv,L,hi,fin⟩:=h.openD;have HF:=η24 fin;have HI:=η24 hi;have HO:=η24 ho;have c6:=hi.c6;have c3:=hi.c3;have HLen:=η24 (show L.length=σ.L.length by rw[←hi.files,List.length_map]);have hm:=ho.many;have HN:=η24 (fun W=>y1B W nm hl);clear h fin
 cases hd:σ.down with
 | true=>
  rw[hd] at c6;have HR:=η24 (q5S w g hi.c0 c6);have HM:Hid (q0o σ nm=(61,σ)):=η24 (by unfold q0o;rw[if_pos hd]);clear hi ho hd c6 hm c3;go_enter Tryz.func144,Tryz.ntmps144;go_wp2_with fail;refine HR.out.mono ?_;rintro e w' ⟨rfl,rfl⟩;go_wp2_with fail;go_ret;rw[HM.out];exact ⟨rfl,HF.out _ _ (Fin.same HO.out HI.out)⟩
 | false =>
  rw[hd] at c6;have HR:=η24 (q4X w g hi.c0 c6);have hM:q0o σ nm=if !q2a nm then (2,σ) else if (q0H FM.nm nm σ.L).isSome then (62,σ) else if 400≤σ.L.length then (60,σ) else if q2C σ then (61,q4t σ) else (0,{q1d σ with L:=q2A FM.nm ⟨nm,[],0⟩ σ.L}):=by
   unfold q0o;rw[if_neg (by rw[hd];decide)]
  cases hf:q0H FE.nm nm L with
  | some e0=>
   have hrun:=z1K hi.fs hl hf;have hfm:(q0H FM.nm nm σ.L).isSome=true:=by rw[←hi.files,q2G (k:=FE.nm) (k':=FM.nm) (h:=FE.f) (fun x=>rfl),hf];rfl
   cases hn:q2a nm with
   | false=>
    have HM:Hid (q0o σ nm=(2,σ)):=η24 (by rw[hM,hn];rfl);rw[hn] at HN;clear hi ho hd c6 hm hf hM hn hfm;generalize e0.b=bb at*;go_enter Tryz.func144,Tryz.ntmps144;go_wp2_with fail;refine HR.out.mono ?_;rintro e w' ⟨rfl,rfl⟩;go_wp2_with fail;refine (HN.out _).mono ?_;rintro e w' ⟨rfl,rfl⟩;go_wp2_with fail;go_ret;rw[HM.out];exact ⟨rfl,HF.out _ _ (Fin.same HO.out HI.out)⟩
   | true=>
    have HM:Hid (q0o σ nm=(62,σ)):=η24 (by rw[hM,hn,hfm];rfl);rw[hn] at HN;clear hi ho hd c6 hm hf hM hn hfm;generalize e0.b=bb at*;go_enter Tryz.func144,Tryz.ntmps144;go_wp2_with fail;refine HR.out.mono ?_;rintro e w' ⟨rfl,rfl⟩;go_wp2_with fail;refine (HN.out _).mono ?_;rintro e w' ⟨rfl,rfl⟩;go_wp2_with fail;go_ret;rw[HM.out];exact ⟨rfl,HF.out _ _ (Fin.same HO.out HI.out)⟩
  | none =>
   have hrun:=z3J hi.fs hl hf;have hfm:q0H FM.nm nm σ.L=none:=by rw[←hi.files,q2G (k:=FE.nm) (k':=FM.nm) (h:=FE.f) (fun x=>rfl),hf];rfl
   cases hn:q2a nm with
   | false=>
    have HM:Hid (q0o σ nm=(2,σ)):=η24 (by rw[hM,hn];rfl);rw[hn] at HN;clear hi ho hd c6 hm hf hM hn hfm;go_enter Tryz.func144,Tryz.ntmps144;go_wp2_with fail;refine HR.out.mono ?_;rintro e w' ⟨rfl,rfl⟩;go_wp2_with fail;refine (HN.out _).mono ?_;rintro e w' ⟨rfl,rfl⟩;go_wp2_with fail;go_ret;rw[HM.out];exact ⟨rfl,HF.out _ _ (Fin.same HO.out HI.out)⟩
   | true =>
    rw[hn] at HN;have HFs:=η24 hi.fs;have HNo:=η24 hf;by_cases h4:400≤σ.L.length
    ·have HM:Hid (q0o σ nm=(60,σ)):=η24 (by rw[hM,hn,hfm];simp[h4])
     have hL4:((400:Int)≤(L.length:Int)):=by rw[HLen.out];omega
     have hd4:decide ((400:Int)≤(L.length:Int))=true:=by simpa using hL4
     clear hi ho hd c6 hm hf hM hn hfm h4;go_enter Tryz.func144,Tryz.ntmps144;go_wp2_with fail;refine HR.out.mono ?_;rintro e w' ⟨rfl,rfl⟩;go_wp2_with fail;refine (HN.out _).mono ?_;rintro e w' ⟨rfl,rfl⟩
     go_wp2_with (at_len;refine q3G HFs.out rfl _ rfl rfl ?_)
     go_ret;rw[HM.out];exact ⟨rfl,HF.out _ _ (Fin.same HO.out HI.out)⟩
    ·have hL4:((L.length:Int)<400):=by rw[HLen.out];omega
     have hL4':L.length<400:=by omega
     cases hfl:q2C σ with
     | true=>
      have HM:Hid (q0o σ nm=(61,q4t σ)):=η24 (by rw[hM,hn,hfm];simp[h4,hfl]);have HS:=η24 (z2C hi hfl);have HK:=η24 (z1Z hi ho hd);clear hi ho hd c6 hm hf hM hn hfm h4 hfl;go_enter Tryz.func144,Tryz.ntmps144;go_wp2_with fail;refine HR.out.mono ?_;rintro e w' ⟨rfl,rfl⟩;go_wp2_with fail;refine (HN.out _).mono ?_;rintro e w' ⟨rfl,rfl⟩
      go_wp2_with (at_len;refine q3G HFs.out rfl _ rfl rfl ?_)
      refine HS.out.mono ?_;rintro e w' ⟨rfl,rfl⟩;go_wp2_with fail;refine HK.out.mono ?_;rintro e w' ⟨rfl,hfin⟩;have HX:=η24 hfin;clear hfin;go_wp2_with fail;go_ret;rw[HM.out];exact ⟨rfl,HF.out _ _ HX.out⟩
     | false=>
      have HM:Hid (q0o σ nm=(0,{q1d σ with L:=q2A FM.nm ⟨nm,[],0⟩ σ.L})):=η24 (by rw[hM,hn,hfm];simp[h4,hfl]);have HS:=η24 (z1w hi ho hfl);have HO':Hid (okD {q1d σ with L:=q2A FM.nm ⟨nm,[],0⟩ (q1d σ).L}):=η24 (ho.tick.create hfm (by show σ.L.length<400;omega));have HKey:=η24 (z5j nm hl);clear hi ho hd c6 hm hf hM hn hfm h4 hfl;go_enter Tryz.func144,Tryz.ntmps144;go_wp2_with fail;refine HR.out.mono ?_;rintro e w' ⟨rfl,rfl⟩;go_wp2_with fail;refine (HN.out _).mono ?_;rintro e w' ⟨rfl,rfl⟩
      go_wp2_with (at_len;refine q3G HFs.out rfl _ rfl rfl ?_)
      refine HS.out.mono ?_;rintro e w1 ⟨rfl,hi1,hof,hsz,hsame⟩;have HI1:=η24 hi1;have HOf:Hid (OffS (InD g m kv L) w w1):=η24 hof.inD;have c3':=hi1.c3;have HMp:=η24 (hi1.fs.map.alloc (.cells #[.slice none 0 0,.int .i64 0] 130));clear hi1 hof hsz hsame c3 hrun
      go_wp2_with (at_mapUpdate;refine wpList_mapUpdate_in _ rfl _ _ _ 122 rfl 9 126 y0c Tryz.underlying122 q5Y m L.length (q5y L) rfl HMp.out (by unfold maxLen;omega) _ _ (.string nm) rfl rfl HKey.out (.lit (.int .i64 w1.heap.size)) [] (z1P _) ?_;intro w3 hown3 hturn3)
      have HFin:=η24 (Fin.after (fun i hi=> .inl hi) HOf.out (Fin.create HI1.out HO'.out HNo.out hown3 hturn3));clear hown3 hturn3;go_wp2_with fail;go_ret;rw[HM.out];exact ⟨rfl,HF.out _ _ HFin.out⟩
end
section
open Go.RowKit
theorem z4r {w:World} {g:Nat} {F:Nat→Prop} {σ:DM} (h:Dk w g F σ) (nm:List UInt8) (hl:nm.length≤9223372036854775807):
  Calls Tryz.prog 182 #[.pointer (some ⟨g,0,none⟩),.string ⟨nm.toArray⟩] w fun e w'=>e= .returned (.int .i64 (q4Y σ nm).1)∧DkS w g F (q4Y σ nm).2 w':=by
 obtain ⟨ho,m,kv,L,hi,fin⟩:=h.openD;have HF:=η24 fin;have HI:=η24 hi;have HO:=η24 ho;clear h fin;rcases z0S hi nm hl with ⟨hd,R,_⟩|⟨hd,hf,_,R,_⟩|⟨hd,e,hfe,hf,he,R,_⟩
 ·have HM:Hid (q4Y σ nm=(61,σ)):=η24 (by unfold q4Y;rw[if_pos hd])
  clear hi ho hd;go_enter Tryz.func182,Tryz.ntmps182;go_wp2_with fail;refine R.out.mono ?_;rintro e w' ⟨rfl,rfl⟩;go_wp2_with fail;go_ret;rw[HM.out];exact ⟨rfl,HF.out _ _ (Fin.same HO.out HI.out)⟩
 ·have HM:Hid (q4Y σ nm=(4,σ)):=η24 (by unfold q4Y;rw[if_neg (by rw[hd];decide),hf];rfl)
  clear hi ho hd hf;go_enter Tryz.func182,Tryz.ntmps182;go_wp2_with fail;refine R.out.mono ?_;rintro e w' ⟨rfl,rfl⟩;go_wp2_with fail;go_ret;rw[HM.out];exact ⟨rfl,HF.out _ _ (Fin.same HO.out HI.out)⟩
 ·cases hfl:q2C σ with
  | true=>
   have HM:Hid (q4Y σ nm=(61,q4t σ)):=η24 (by unfold q4Y;rw[if_neg (by rw[hd];decide),hf,hfl];rfl);have HS:=η24 (z2C hi hfl);have HK:=η24 (z1Z hi ho hd);clear hi ho hd hf hfe he hfl;generalize e.b=bb at*;go_enter Tryz.func182,Tryz.ntmps182;go_wp2_with fail;refine R.out.mono ?_;rintro e w' ⟨rfl,rfl⟩;go_wp2_with fail;refine HS.out.mono ?_;rintro e w' ⟨rfl,rfl⟩;go_wp2_with fail;refine HK.out.mono ?_;rintro e w' ⟨rfl,hfin⟩;have HX:=η24 hfin;clear hfin;go_wp2_with fail;go_ret;rw[HM.out];exact ⟨rfl,HF.out _ _ HX.out⟩
  | false=>
   have HM:Hid (q4Y σ nm=(0,{q1d σ with L:=q1S FM.nm nm (fun f=>{f with sy:=f.da.length}) σ.L})):=η24 (by unfold q4Y;rw[if_neg (by rw[hd];decide),hf,hfl];rfl);have HS:=η24 (z1w hi ho hfl);have HO':=η24 (ho.tick.sync (σ:=q1d σ) hf);have HFe:=η24 hfe;have HE:=η24 he;obtain ⟨ao,cap,hv,_⟩:=(hi.fs.row e he).rd;have HV:=η24 hv;obtain ⟨dl,hdl⟩: ∃dl,e.f.da.length=dl:=⟨_,rfl⟩
   obtain ⟨bb,hbb⟩: ∃bb,e.b=bb:=⟨_,rfl⟩
   have HDl:=η24 hdl;have HBb:=η24 hbb;rw[hbb] at R;clear hi ho hd hf hfe he hfl hv hdl hbb;go_enter Tryz.func182,Tryz.ntmps182;go_wp2_with fail;refine R.out.mono ?_;rintro e w' ⟨rfl,rfl⟩;go_wp2_with fail;refine HS.out.mono ?_;rintro en w1 ⟨rfl,hi1,hof,hsz,hsame⟩;have HI1:=η24 hi1;have HOf:Hid (OffS (InD g m kv L) w w1):=η24 hof.inD;have f0:=hi1.f0 HE.out;have f1:=hi1.f1 HE.out;have y1:=hi1.fz HE.out 1;rw[HV.out,HDl.out,HBb.out] at f0;rw[HBb.out] at f1 y1;generalize e.f.sy=sy at*;clear hi1 hof hsz hsame;go_wp2_with fail;go_ret;rw[HM.out];have hgb:=HI1.out.neB HE.out;have hrb:=(HI1.out.fs.blk e HE.out).own (HI1.out.fs.row e HE.out) (by decide);rw[←HDl.out,←HBb.out];refine ⟨rfl,HF.out _ _ (Fin.after (fun i hi=> .inl hi) HOf.out (Fin.file HO'.out.1 HI1.out HFe.out (⟨{e.f with sy:=e.f.da.length},e.b,e.v⟩:FE) (q0L HFe.out).2 rfl (by simp[World.setCell]) rfl rfl rfl (fun i _ _ hb _=>q0N _ _ hb) ?_ ((HI1.out.fs.blk e HE.out).set 1 _) ((HI1.out.fs.row e HE.out).same fun i hi=>q0N _ _ fun e1=>hrb (e1▸hi)) (fun i hi=> .inl hi) (fun f=>{f with sy:=f.da.length}) rfl rfl rfl))⟩
   have hus:(q0Q (q1S FM.nm nm (fun f=>{f with sy:=f.da.length}) (q1d σ).L):Int)=q0Q σ.L:=by rw[HO'.out.2];rfl
   have hh:=HI1.out.head.out hgb 1 (.int .i64 (e.f.da.length:Int));rw[←hus] at hh;exact hh
theorem z7K {w:World} {g m:Nat} {kv:Value} {L:List FE} {σ:DM} (h:DkI w g m kv L (q0Q σ.L:Int) σ) (ho:okD σ) {nm:List UInt8} (hl:nm.length≤9223372036854775807) {e:FE} (hf:q0H FE.nm nm L=some e):
  Calls Tryz.prog 173 #[.pointer (some ⟨g,0,none⟩),.string ⟨nm.toArray⟩] w fun en w'=>en= .returned (.tuple #[])∧DkI w' g m kv (delN FE.nm nm L) (q0Q (delN FM.nm nm σ.L):Int) {σ with L:=delN FM.nm nm σ.L}∧OffS (MutD g m L) w w':=by
 obtain ⟨he,hen⟩:=q0L hf;obtain ⟨ao,cap,hv,h1,h2,h3,_⟩:=(h.fs.row e he).rd;have hfm:q0H FM.nm nm σ.L=some e.f:=by
  rw[←h.files,q2G (k:=FE.nm) (k':=FM.nm) (h:=FE.f) (fun x=>rfl),hf];rfl
 have hsum:=q8K ho.ord hfm;have hus:=ho.used;have hcap:=ho.cap1;have hrun:=z1K h.fs hl hf;have f0:=h.f0 he;rw[hv] at f0;have c2:=h.c2;have c3:=h.c3;have z2:=h.z 2;have hgb:=h.neB he;have hgm:g≠m:=q4q h.fs.map h.head;have HI:=η24 h;have HSum:=η24 hsum;obtain ⟨us,hu⟩: ∃us,q0Q σ.L=us:=⟨_,rfl⟩
 obtain ⟨dl,hdl⟩: ∃dl,e.f.da.length=dl:=⟨_,rfl⟩
 rw[hdl] at f0 hsum h1;rw[hu] at c2 hsum hus;have HU:=η24 hu;have HD:=η24 hdl;have hle:(dl:Int)≤(us:Int):=by omega
 have hus1:(us:Int)≤1048576:=by omega
 have HKey:=η24 (z5j nm hl);clear h ho hfm hsum hus hcap hf he hen hv hu hdl;generalize e.b=bb at*;go_enter Tryz.func173,Tryz.ntmps173;go_wp2_with fail
 go_region
 have hblk0:=η24 (((HI.out.head.set 2 (.int .i64 ((us:Int)-(dl:Int)))).drew));have hmp:((w.setCell ⟨g,2,none⟩ (.int .i64 ((us:Int)-(dl:Int)))).drew).ownsMap Tryz.prog 9 q5Y m L.length (q5y L):=q1w HI.out.fs.map (q0N _ _ (Ne.symm hgm));have HMp:=η24 hmp;clear hmp;have c3':((w.setCell ⟨g,2,none⟩ (.int .i64 ((us:Int)-(dl:Int)))).drew).cell? ⟨g,3,none⟩=some (.map (some m)):=hblk0.out.cell 3
 go_wp2_with (at_delete;refine wpList_delete_own _ rfl _ _ 122 9 rfl 126 y0c Tryz.underlying122 q5Y m L.length (q5y L) rfl HMp.out _ (.string nm) rfl HKey.out ?_;intro w3 hown3 hturn3)
 have HOw:=η24 hown3;have HTu:=η24 hturn3;clear hown3 hturn3;go_wp2_with fail
 go_end0
 have hw: ∀i,i≠g→i≠m→i<w.heap.size→w3.heap[i]? =w.heap[i]? :=fun i hg hm hl=>(HTu.out.grown.block i (by simpa [World.setCell,World.drew] using hl) (fun e1=>hm (by cases e1;rfl))).trans (by rw[q9B,q0N _ _ hg])
 refine ⟨rfl,⟨?_,?_,?_,?_⟩,?_⟩
 ·have hh:=hblk0.out.same (w':=w3) (HTu.out.grown.block g hblk0.out.lt (fun e1=>hgm (by cases e1;rfl)))
  have e1:((us:Int)-(dl:Int))=(q0Q (delN FM.nm nm σ.L):Int):=by
   have:=HSum.out;rw[HU.out,HD.out] at this;omega
  rw[e1] at hh;exact hh
 ·refine HI.out.fs.del nm HOw.out fun i hi hm=>hw i (fun e1=>HI.out.ne (e1▸hi)) hm (HI.out.fs.lt hi)
 ·show (delN FE.nm nm L).map FE.f=delN FM.nm nm σ.L
  rw[q6N (k:=FE.nm) (k':=FM.nm) (h:=FE.f) (fun x=>rfl),HI.out.files]
 ·exact HI.out.keep.same fun i hi=>hw i (HI.out.keepF hi).1 (fun e1=>(HI.out.keepF hi).2 (.inl e1)) (HI.out.keep.lt i hi).2
 ·refine ⟨HTu.out.grown.os,HTu.out.grown.tape,HTu.out.grown.output,by simpa [World.setCell,World.drew] using HTu.out.grown.size,fun i hl hn=>hw i (fun e1=>hn (.inl e1)) (fun e1=>hn (.inr (.inl e1))) hl⟩
theorem z7t {w:World} {g m:Nat} {L:List FE} (c3:w.cell? ⟨g,3,none⟩=some (.map (some m))) (hfs:FS w m L) {nm:List UInt8} (hl:nm.length≤9223372036854775807) (hf:q0H FE.nm nm L=none):
  Calls Tryz.prog 173 #[.pointer (some ⟨g,0,none⟩),.string ⟨nm.toArray⟩] w fun en w'=>en= .returned (.tuple #[])∧w=w':=by
 have hrun:=z3J hfs hl hf;clear hfs hf;go_enter Tryz.func173,Tryz.ntmps173;go_wp2_with fail
 go_end0
 exact ⟨rfl,rfl⟩
theorem y1G {w:World} {g m:Nat} {kv:Value} {L:List FE} {σ:DM} (h:DkI w g m kv L (q0Q σ.L:Int) σ) (ho:okD σ) (nm:List UInt8) (hl:nm.length≤9223372036854775807):
  Calls Tryz.prog 173 #[.pointer (some ⟨g,0,none⟩),.string ⟨nm.toArray⟩] w fun en w'=>en= .returned (.tuple #[])∧DkI w' g m kv (delN FE.nm nm L) (q0Q (delN FM.nm nm σ.L):Int) {σ with L:=delN FM.nm nm σ.L}∧OffS (MutD g m L) w w':=by
 cases hf:q0H FE.nm nm L with
 |some e=>exact z7K h ho hl hf
 | none=>
  refine (z7t h.c3 h.fs hl hf).mono ?_;rintro en w' ⟨rfl,rfl⟩;have hfm:q0H FM.nm nm σ.L=none:=by rw[←h.files,q2G (k:=FE.nm) (k':=FM.nm) (h:=FE.f) (fun x=>rfl),hf];rfl
  refine ⟨rfl,?_,OffS.refl _ _⟩;rw[q6l hf,q6l hfm];exact h
theorem q6i {w:World} {g:Nat} {F:Nat→Prop} {σ:DM} (h:Dk w g F σ) (nm:List UInt8) (hl:nm.length≤9223372036854775807):
  Calls Tryz.prog 116 #[.pointer (some ⟨g,0,none⟩),.string ⟨nm.toArray⟩] w fun e w'=>e= .returned (.int .i64 (q0V σ nm).1)∧DkS w g F (q0V σ nm).2 w':=by
 obtain ⟨ho,m,kv,L,hi,fin⟩:=h.openD;have HF:=η24 fin;have HI:=η24 hi;have HO:=η24 ho;clear h fin;rcases z0S hi nm hl with ⟨hd,R,_⟩|⟨hd,hf,_,R,_⟩|⟨hd,e,hfe,hf,he,R,_⟩
 ·have HM:Hid (q0V σ nm=(61,σ)):=η24 (by unfold q0V;rw[if_pos hd])
  clear hi ho hd;go_enter Tryz.func116,Tryz.ntmps116;go_wp2_with fail;refine R.out.mono ?_;rintro e w' ⟨rfl,rfl⟩;go_wp2_with fail;go_ret;rw[HM.out];exact ⟨rfl,HF.out _ _ (Fin.same HO.out HI.out)⟩
 ·have HM:Hid (q0V σ nm=(4,σ)):=η24 (by unfold q0V;rw[if_neg (by rw[hd];decide),hf];rfl)
  clear hi ho hd hf;go_enter Tryz.func116,Tryz.ntmps116;go_wp2_with fail;refine R.out.mono ?_;rintro e w' ⟨rfl,rfl⟩;go_wp2_with fail;go_ret;rw[HM.out];exact ⟨rfl,HF.out _ _ (Fin.same HO.out HI.out)⟩
 ·cases hfl:q2C σ with
  | true=>
   have HM:Hid (q0V σ nm=(61,q4t σ)):=η24 (by unfold q0V;rw[if_neg (by rw[hd];decide),hf,hfl];rfl);have HS:=η24 (z2C hi hfl);have HK:=η24 (z1Z hi ho hd);clear hi ho hd hf hfe he hfl;generalize e.b=bb at*;go_enter Tryz.func116,Tryz.ntmps116;go_wp2_with fail;refine R.out.mono ?_;rintro e w' ⟨rfl,rfl⟩;go_wp2_with fail;refine HS.out.mono ?_;rintro e w' ⟨rfl,rfl⟩;go_wp2_with fail;refine HK.out.mono ?_;rintro e w' ⟨rfl,hfin⟩;have HX:=η24 hfin;clear hfin;go_wp2_with fail;go_ret;rw[HM.out];exact ⟨rfl,HF.out _ _ HX.out⟩
  | false=>
   have HM:Hid (q0V σ nm=(0,{q1d σ with L:=delN FM.nm nm σ.L})):=η24 (by unfold q0V;rw[if_neg (by rw[hd];decide),hf,hfl];rfl);have HS:=η24 (z1w hi ho hfl);have HO':Hid (okD {q1d σ with L:=delN FM.nm nm (q1d σ).L}):=η24 (ho.tick.delete nm);have HOt:=η24 ho.tick;clear hi ho hd hf hfe he hfl;generalize e.b=bb at*;go_enter Tryz.func116,Tryz.ntmps116;go_wp2_with fail;refine R.out.mono ?_;rintro e w' ⟨rfl,rfl⟩;go_wp2_with fail;refine HS.out.mono ?_;rintro en w1 ⟨rfl,hi1,hof,hsz,hsame⟩;have HI1:=η24 hi1;have HOf:Hid (OffS (InD g m kv L) w w1):=η24 hof.inD;clear hi1 hof hsz hsame;go_wp2_with fail;refine (y1G HI1.out HOt.out nm hl).mono ?_;rintro en w2 ⟨rfl,hi2,hof2⟩;have HX:Fin w1 g m kv L {q1d σ with L:=delN FM.nm nm (q1d σ).L} w2:=by
    refine ⟨HO'.out,m,kv,_,hi2,fun i hx=>?_,hof2.inD⟩;rcases hx with h1|h1|h1
    ·exact .inl (.inl h1)
    ·exact .inl (.inr (.inl h1.del))
    ·exact .inl (.inr (.inr h1))
   have HX:=η24 (Fin.after (fun i hi=> .inl hi) HOf.out HX);clear hi2 hof2;go_wp2_with fail;go_ret;rw[HM.out];exact ⟨rfl,HF.out _ _ HX.out⟩
end
section
open Go.RowKit
theorem Fin.rename {w2 w3 w4:World} {g m:Nat} {kv:Value} {L1:List FE} {us:Int} {σ1 σ':DM} (h:DkI w2 g m kv L1 us σ1) {a b:List UInt8} {e:FE} (hf:q0H FE.nm a L1=some e) (hnb: ∀y∈L1,FE.nm y≠b) {n3 n4:Nat}
  (hmap3:w3.ownsMap Tryz.prog 9 q5Y m n3 ((q5y L1).del (.string a))) (ht3:w2.mapTurned w3 m) (hmap4:w4.ownsMap Tryz.prog 9 q5Y m n4 ((q5y (delN FE.nm a L1)).put (.string b) (.lit (.int .i64 e.b)))) (ht4:w3.mapTurned w4 m)
  (ho:okD σ') (hL:σ'.L=q2A FM.nm {e.f with nm:=b} (delN FM.nm a σ1.L)) (hus:us=(q0Q σ'.L:Int)) (hh:q8I σ' us m kv=q8I σ1 us m kv) (hK:σ'.keep=σ1.keep):Fin w2 g m kv L1 σ' w4:=by
 obtain ⟨he,hen⟩:=q0L hf;obtain ⟨x,hx⟩: ∃x:FE,x=⟨{e.f with nm:=b},e.b,e.v⟩:=⟨_,rfl⟩
 have hw3: ∀i,i<w2.heap.size→i≠m→w3.heap[i]? =w2.heap[i]? :=fun i hl hm=>ht3.grown.block i hl fun e1=>hm (by cases e1;rfl)
 have hw4: ∀i,i<w2.heap.size→i≠m→w4.heap[i]? =w2.heap[i]? :=fun i hl hm=>(ht4.grown.block i (Nat.lt_of_lt_of_le hl ht3.grown.size) fun e1=>hm (by cases e1;rfl)).trans (hw3 i hl hm)
 have hbm:e.b≠m:=q4q h.fs.map (h.fs.blk e he);have hbl:=(h.fs.blk e he).lt;have hfs3:=h.fs.del a hmap3 fun i hi hm=>hw3 i (h.fs.lt hi) hm
 have hfs4:FS w4 m (q2A FE.nm x (delN FE.nm a L1)):=by
  refine hfs3.put x (q0c fun y hy=>by rw[hx];exact hnb y (mem_delN.1 hy).1) (by rw[hx];exact hmap4) (fun i hi hm=>(hw4 i (h.fs.lt hi.del) hm).trans (hw3 i (h.fs.lt hi.del) hm).symm) ?_ ?_ (fun y hy=>?_)
  ·rw[hx];exact (h.fs.blk e he).same (hw4 _ hbl hbm)
  ·rw[hx];exact (h.fs.row e he).same fun i hi=>hw4 i ((h.fs.row e he).lt i hi).2 fun e1=>z1H h.fs.map (h.fs.row e he) (e1▸hi)
  ·rw[hx]
   have hy':=mem_delN.1 hy;have hs:=h.fs.sepOf he hy'.1 fun e1=>hy'.2 (e1.symm.trans hen)
   exact ⟨hs.1,hs.2⟩
 refine ⟨ho,m,kv,_,⟨?_,hfs4,?_,?_⟩,fun i hi=>?_,?_⟩
 ·have h1:=h.head.same (hw4 g h.head.lt fun e1=>h.ne (.inl e1))
  rw[←hus,hh];exact h1
 ·rw[q6A (k:=FE.nm) (k':=FM.nm) (h:=FE.f) (fun x=>rfl),q6N (k:=FE.nm) (k':=FM.nm) (h:=FE.f) (fun x=>rfl),h.files,hL,hx]
 ·rw[hK]
  exact h.keep.same fun i hi=>hw4 i (h.keep.lt i hi).2 fun e1=>(h.keepF hi).2 (.inl e1)
 ·rcases hi with h1|h1|h1
  ·exact .inl (.inl h1)
  ·rcases InF.ins h1 with h2|h2|h2
   ·exact .inl (.inr (.inl (.inr ⟨e,he,.inl (by rw[h2,hx])⟩)))
   ·exact .inl (.inr (.inl (.inr ⟨e,he,.inr (by rw[hx] at h2;exact h2)⟩)))
   ·exact .inl (.inr (.inl h2.del))
  ·exact .inl (.inr (.inr h1))
 ·exact ⟨ht4.grown.os.trans ht3.grown.os,ht4.grown.tape.trans ht3.grown.tape,ht4.grown.output.trans ht3.grown.output,Nat.le_trans ht3.grown.size ht4.grown.size,fun i hl hn=>hw4 i hl fun e1=>hn (.inr (.inl (.inl e1)))⟩
theorem z9q {w:World} {g:Nat} {F:Nat→Prop} {σ:DM} (h:Dk w g F σ) (a b:List UInt8) (hla:a.length≤9223372036854775807) (hlb:b.length≤9223372036854775807):
  Calls Tryz.prog 206 #[.pointer (some ⟨g,0,none⟩),.string ⟨a.toArray⟩,.string ⟨b.toArray⟩] w fun e w'=>e= .returned (.int .i64 (q1g σ a b).1)∧DkS w g F (q1g σ a b).2 w':=by
 obtain ⟨ho,m,kv,L,hi,fin⟩:=h.openD;have HF:=η24 fin;have HI:=η24 hi;have HO:=η24 ho;clear h fin;rcases z0S hi a hla with ⟨hd,R,_⟩|⟨hd,hf,_,R,_⟩|⟨hd,e,hfe,hf,he,R,_⟩
 ·have HM:Hid (q1g σ a b=(61,σ)):=η24 (by unfold q1g;rw[if_pos hd])
  clear hi ho hd;go_enter Tryz.func206,Tryz.ntmps206;go_wp2_with fail;refine R.out.mono ?_;rintro e w' ⟨rfl,rfl⟩;go_wp2_with fail;go_ret;rw[HM.out];exact ⟨rfl,HF.out _ _ (Fin.same HO.out HI.out)⟩
 ·have HM:Hid (q1g σ a b=(4,σ)):=η24 (by unfold q1g;rw[if_neg (by rw[hd];decide),hf])
  clear hi ho hd hf;go_enter Tryz.func206,Tryz.ntmps206;go_wp2_with fail;refine R.out.mono ?_;rintro e w' ⟨rfl,rfl⟩;go_wp2_with fail;go_ret;rw[HM.out];exact ⟨rfl,HF.out _ _ (Fin.same HO.out HI.out)⟩
 ·have HM0 :Hid (q1g σ a b=if !q2a b then (2,σ) else if q2C σ then (61,q4t σ) else if a=b then (0,q1d σ) else (0,{q1d σ with L:=z6Y a b e.f σ.L})):=η24 (by unfold q1g;rw[if_neg (by rw[hd];decide),hf])
  have HN:=η24 (fun W=>y1B W b hlb)
  cases hn:q2a b with
  | false=>
   have HM:Hid (q1g σ a b=(2,σ)):=η24 (by rw[HM0.out,hn];rfl);rw[hn] at HN;clear hi ho hd hf hfe he hn HM0;generalize e.b=bb at*;go_enter Tryz.func206,Tryz.ntmps206;go_wp2_with fail;refine R.out.mono ?_;rintro e w' ⟨rfl,rfl⟩;go_wp2_with fail;refine (HN.out _).mono ?_;rintro e w' ⟨rfl,rfl⟩;go_wp2_with fail;go_ret;rw[HM.out];exact ⟨rfl,HF.out _ _ (Fin.same HO.out HI.out)⟩
  | true =>
   rw[hn] at HN
   cases hfl:q2C σ with
   | true=>
    have HM:Hid (q1g σ a b=(61,q4t σ)):=η24 (by rw[HM0.out,hn,hfl];rfl);have HS:=η24 (z2C hi hfl);have HK:=η24 (z1Z hi ho hd);clear hi ho hd hf hfe he hfl hn HM0;generalize e.b=bb at*;go_enter Tryz.func206,Tryz.ntmps206;go_wp2_with fail;refine R.out.mono ?_;rintro e w' ⟨rfl,rfl⟩;go_wp2_with fail;refine (HN.out _).mono ?_;rintro e w' ⟨rfl,rfl⟩;go_wp2_with fail;refine HS.out.mono ?_;rintro e w' ⟨rfl,rfl⟩;go_wp2_with fail;refine HK.out.mono ?_;rintro e w' ⟨rfl,hfin⟩;have HX:=η24 hfin;clear hfin;go_wp2_with fail;go_ret;rw[HM.out];exact ⟨rfl,HF.out _ _ HX.out⟩
   | false=>
    have HS:=η24 (z1w hi ho hfl);have HOt:=η24 ho.tick;by_cases hab:a=b
    ·have HM:Hid (q1g σ a b=(0,q1d σ)):=η24 (by rw[HM0.out,hn,hfl,if_pos hab];rfl)
     clear hi ho hd hf hfe he hfl hn HM0;subst hab;generalize e.b=bb at*;go_enter Tryz.func206,Tryz.ntmps206;go_wp2_with fail;refine R.out.mono ?_;rintro e w' ⟨rfl,rfl⟩;go_wp2_with fail;refine (HN.out _).mono ?_;rintro e w' ⟨rfl,rfl⟩;go_wp2_with fail;refine HS.out.mono ?_;rintro en w1 ⟨rfl,hi1,hof,hsz,hsame⟩;have HI1:=η24 hi1;have HOf:Hid (OffS (InD g m kv L) w w1):=η24 hof.inD;clear hi1 hof hsz hsame;go_wp2_with fail;go_ret;rw[HM.out];exact ⟨rfl,HF.out _ _ (Fin.after (fun i hi=> .inl hi) HOf.out (Fin.same HOt.out HI1.out))⟩
    ·have HM:Hid (q1g σ a b=(0,{q1d σ with L:=z6Y a b e.f (q1d σ).L})):=η24 (by rw[HM0.out,hn,hfl,if_neg hab];rfl)
     have HO':=η24 (ho.tick.rename (σ:=q1d σ) hf hab);have hf1:q0H FE.nm a (delN FE.nm b L)=some e:=q4V (q2X hi.fs.ord) (mem_delN.2 ⟨he,fun e1=>hab ((q0L hfe).2.symm.trans e1)⟩) (q0L hfe).2;have HF1:=η24 hf1;have HKa:=η24 (z5j a hla);have HKb:=η24 (z5j b hlb);have hll:(delN FE.nm b L).length≤400:=by
      have h1:(delN FE.nm b L).length≤L.length:=List.length_filter_le _ _;have h2:L.length=σ.L.length:=by rw[←hi.files,List.length_map]
      have:=ho.many;omega
     have HLl:=η24 hll;obtain ⟨bb,hbb⟩: ∃bb,e.b=bb:=⟨_,rfl⟩
     have HBb:=η24 hbb;rw[hbb] at R;have hab':(a==b)=false:=by simpa using hab
     clear hi ho hd hf hfe he hfl hn HM0 hf1 hll hbb;go_enter Tryz.func206,Tryz.ntmps206;go_wp2_with fail;refine R.out.mono ?_;rintro e w' ⟨rfl,rfl⟩;go_wp2_with fail;refine (HN.out _).mono ?_;rintro e w' ⟨rfl,rfl⟩;go_wp2_with fail;refine HS.out.mono ?_;rintro en w1 ⟨rfl,hi1,hof,hsz,hsame⟩;have HI1:=η24 hi1;have HOf:Hid (OffS (InD g m kv L) w w1):=η24 hof.inD;clear hi1 hof hsz hsame;go_wp2_with fail;refine (y1G HI1.out HOt.out b hlb).mono ?_;rintro en w2 ⟨rfl,hi2,hof2⟩;have HI2:=η24 hi2;have HOf2:Hid (OffS (InD g m kv L) w1 w2):=η24 hof2.inD;have c3:=hi2.c3;clear hi2 hof2;have hgm:g≠m:=q4q HI2.out.fs.map HI2.out.head
     go_wp2_with (first|(at_delete;refine wpList_delete_own _ rfl _ _ 122 9 rfl 126 y0c Tryz.underlying122 q5Y m _ (q5y (delN FE.nm b L)) rfl HI2.out.fs.map _ (.string a) rfl HKa.out ?_;intro w3 hown3 hturn3;have c3':w3.cell? ⟨g,3,none⟩=some (.map (some m)):=(HI2.out.head.same (hturn3.grown.block g HI2.out.head.lt (fun e1=>hgm (by cases e1;rfl)))).cell 3;have HM3:=η24 hown3;have HT3:=η24 hturn3;have HM3':=η24 (z7R hown3 (z5T a (delN FE.nm b L)));clear hown3 hturn3)|(at_mapUpdate;refine wpList_mapUpdate_in _ rfl _ _ _ 122 rfl 9 126 y0c Tryz.underlying122 q5Y m _ (q5y (delN FE.nm a (delN FE.nm b L))) rfl HM3'.out (by have h1:=HLl.out;have h2:(delN FE.nm a (delN FE.nm b L)).length≤(delN FE.nm b L).length:=List.length_filter_le _ _;unfold maxLen;omega) _ _ (.string b) rfl rfl HKb.out (.lit (.int .i64 bb)) [] (z1P _) ?_;intro w4 hown4 hturn4;have HM4:=η24 hown4;have HT4:=η24 hturn4;clear hown4 hturn4))
     go_ret;rw[HM.out];have hus:((q0Q (delN FM.nm b (q1d σ).L):Nat):Int)=(q0Q (z6Y a b e.f (q1d σ).L):Int):=by rw[HO'.out.2]
     have hX:=Fin.rename (σ':={q1d σ with L:=z6Y a b e.f (q1d σ).L}) HI2.out HF1.out (fun y hy=>(mem_delN.1 hy).2) HM3.out HT3.out (by rw[HBb.out];exact HM4.out) HT4.out HO'.out.1 rfl hus rfl rfl;refine ⟨rfl,HF.out _ _ (Fin.after (fun i hi=> .inl hi) HOf.out (Fin.after (fun i hi=>?_) HOf2.out hX))⟩;rcases hi with h1|h1|h1
     ·exact .inl (.inl h1)
     ·exact .inl (.inr (.inl h1.del))
     ·exact .inl (.inr (.inr h1))
end
section
open Go.RowKit
theorem y2k :(Tryz.prog.info? 5).map (fun i=>(i.zero,i.size,i.bytes))=some (some (.int .u8 0),1,1):=by kernel_rfl
end
section
open Go.RowKit
theorem q9b {P:Program} (w:World) (B:Nat) (t u ty e:TypeId) (ht:P.underlying t=some (.slice e)) (hu:P.underlying u=some .string) (hinfo:(P.info? e).map (fun i=>(i.zero,i.size,i.bytes))=some (some (.int .u8 0),1,1))
  (v:Value) (n:Nat) (xs:List Value) (hown:Own w B e 1 v n xs) (hB:B≤w.heap.size) (s:List UInt8) (hb:n+s.length≤140737488355328):
  ∃v' w',(Builtin.append_ #[t,u] ty #[v,.string ⟨s.toArray⟩]).run P w= .ok v' w'∧Own w' B e 1 v' (n+s.length) (xs++s.map q1Y)∧w.grownBy w' v.ownBlock∧ ∀i,v'.ownBlock=some i→v.ownBlock=some i∨w.heap.size≤i:=by
 obtain ⟨i,hi,hz,hsize,hby⟩:=info_parts hinfo;have hxl:xs.length=n:=by simpa using hown.1
 have hsz:(⟨s.toArray⟩:ByteArray).size=s.length:=by simp[ByteArray.size]
 have hcells:Lib.strCells ⟨s.toArray⟩=s.map q1Y:=rfl;have viaRow: ∀B',w.ownsRow B' e 1 v n xs→B'≤w.heap.size→(∀i,v.ownBlock=some i→True)→ ∃v' w',(Builtin.append_ #[t,u] ty #[v,.string ⟨s.toArray⟩]).run P w= .ok v' w'∧w'.ownsRow B' e 1 v' (n+s.length) (xs++s.map q1Y)∧w.grownBy w' v.ownBlock:=by
  intro B' hrow hB' _;obtain ⟨v',w',h1,h2,h3,_⟩:=Lib.run_append_own_string (P:=P) w B' t u ty e i ht hu hi hz hsize hby v n xs hrow ⟨s.toArray⟩ (by rw[hsz];unfold maxLen;omega) (by rw[hsz];exact hb) hB';rw[hsz,hcells] at h2;exact ⟨v',w',h1,h2,h3⟩
 rcases hown.2 with ⟨rfl,rfl⟩|⟨g,cap,cur,rfl,hbg,hg,hnc,hcm,hcs,htk⟩
 ·obtain rfl:xs=[]:=List.eq_nil_of_length_eq_zero hxl
  obtain ⟨v',w',h1,h2,h3⟩:=viaRow w.heap.size (World.ownsRow_nil _ _ _ _) (Nat.le_refl _) (fun _ _=>trivial);exact ⟨v',w',h1,(Own.of_row h2).base hB,h3,fun i hi2=> .inr ((Own.of_row h2).lt i hi2).1⟩
 ·simp only[Nat.mul_one] at hcs htk
  by_cases hroom:n+s.length≤cap
  ·have hr:=Lib.run_append_room_string (P:=P) w t u ty e i ht hu hi hsize g n cap cur hg ⟨s.toArray⟩ (by rw[hsz];exact hroom) (by rw[hsz];omega)
   rw[hsz,hcells] at hr;refine ⟨_,_,hr,⟨by simp[hxl],.inr ⟨g,cap,_,rfl,hbg,setRow_heap w g cur _ e _ hg,hroom,hcm,?_,?_⟩⟩,⟨rfl,rfl,rfl,by simp,fun k _ hk=>setRow_other w g k _ (fun e=>hk (by simp[Value.ownBlock,e]))⟩,fun i hi2=> .inl hi2⟩
   ·simp only[List.size_toArray,List.length_append,List.length_take,List.length_drop,Array.length_toList,List.length_map]
    omega
   ·rw[htk,Nat.mul_one,show n+s.length=(xs++s.map q1Y).length from by simp[hxl]]
    exact List.take_left
  ·have holds: ∀j u',xs[j]? =some u'→w.cell? ((⟨g,0,none⟩:Addr).add j)=some u':=by
    intro j u' hj;obtain ⟨ao,cap',e1,_,_,_,hrd⟩:=hown.rd
    cases e1;obtain ⟨b,off,e2,hc⟩:=hrd j u' hj
    cases e2;rw[Addr.add_lit];exact hc
   have hr:=Lib.run_append_grow_string (P:=P) w t u ty e i (.int .u8 0) ht hu hi hz ⟨g,0,none⟩ n cap xs (by rw[hsize];simpa using hxl) holds ⟨s.toArray⟩ (by rw[hsz];omega) (by rw[hsz];omega) (by rw[hby];exact growslice_fits (by rw[hsz];omega) (by rw[hsz];omega));rw[hsz,hcells] at hr;have hge:=grownCap_ge w (n+s.length) cap e;have hcm2:grownCap w (n+s.length) cap e≤maxLen:=grownCap_le_maxLen w (n+s.length) cap e (by unfold maxLen;omega);refine ⟨_,_,hr,⟨by simp[hxl],.inr ⟨w.heap.size,_,_,rfl,hB,heap_alloc_new w.drew _,hge,by unfold maxLen at hcm2;omega,?_,?_⟩⟩,⟨rfl,rfl,rfl,by simp,fun k hk _=>by first|exact heap_alloc_old w.drew _ k hk|exact heap_alloc_old w.drew _ hk⟩,fun i hi2=> .inr (by cases hi2;exact Nat.le_refl _)⟩
   ·have hz1:(Value.int IntKind.u8 0).cells.size=1:=rfl
    simp only[Array.size_append,List.size_toArray,size_zeroCells,hz1,hxl,List.length_map];omega
   ·simp only[Array.toList_append,List.append_assoc,Nat.mul_one]
    rw[←List.append_assoc,show n+s.length=(xs++s.map q1Y).length from by simp[hxl]];exact List.take_left
theorem q7E {P:Program} {w:World} {ops:Array Oper} {rest:List Oper} {o:Oper} {a:Act} {Q:Exit→Act→World→Prop} (hgd:o.guard=none) (sl x:Operand) (t u:TypeId)
  (ho:o.op= .call {callee:= .builtin .append,args:=#[sl,x],argTypes:=#[t,u]}) (B:Nat) (e:TypeId) (ht:P.underlying t=some (.slice e)) (hu:P.underlying u=some .string) (hinfo:(P.info? e).map (fun i=>(i.zero,i.size,i.bytes))=some (some (.int .u8 0),1,1))
  (v:Value) (n:Nat) (xs:List Value) (hs:a.eval sl=v) (hown:Own w B e 1 v n xs) (hB:B≤w.heap.size) (s:List UInt8) (hx:a.eval x= .string ⟨s.toArray⟩) (hb:n+s.length≤140737488355328)
  (h: ∀v' w',Own w' B e 1 v' (n+s.length) (xs++s.map q1Y)→w.grownBy w' v.ownBlock→(∀i,v'.ownBlock=some i→v.ownBlock=some i∨w.heap.size≤i)→wpList P ops Q rest (a.put o.dst v') w'):wpList P ops Q (o::rest) a w:=by
 refine wpList_plain hgd fun K hK=>?_
 obtain ⟨v',w',hr,h2,h3,h4⟩:=q9b (P:=P) w B t u o.type e ht hu hinfo v n xs hown hB s hb;unfold Oper.wp execOp;simp only[ho,resolve,invoke,builtin,Sem.run_bind,Sem.run_pure,Result.andThen_ok,List.map_toArray,List.map_cons,List.map_nil,hs,hx,hr];exact hK _ _ (h v' w' h2 h3 h4)
theorem y1h {w w1 w2:World} {g m:Nat} {kv:Value} {L:List FE} {σ:DM} (h:DkI w g m kv L (q0Q σ.L:Int) σ) (ho:okD σ) {nm s:List UInt8} {e:FE} (hf:q0H FE.nm nm L=some e) (hx:Ext w w1) {v':Value}
  (hown:Own w2 0 5 1 v' (e.f.da.length+s.length) (e.f.da.map q1Y++s.map q1Y)) (hg:w1.grownBy w2 e.v.ownBlock) (hsep: ∀i,v'.ownBlock=some i→e.v.ownBlock=some i∨w1.heap.size≤i) (hfull:(q0Q σ.L:Int)+s.length≤σ.cap):
  DkI ((w2.setCell ⟨e.b,0,none⟩ v').setCell ⟨g,2,none⟩ (.int .i64 ((q0Q σ.L:Int)+s.length))) g m kv (q1S FE.nm nm (fun _=>(⟨{e.f with da:=e.f.da++s},e.b,v'⟩:FE)) L) (q0Q (q9y σ nm s).L:Int) (q9y σ nm s)∧
   OffS (MutD g m L) w ((w2.setCell ⟨e.b,0,none⟩ v').setCell ⟨g,2,none⟩ (.int .i64 ((q0Q σ.L:Int)+s.length)))∧
   ∀i,InD g m kv (q1S FE.nm nm (fun _=>(⟨{e.f with da:=e.f.da++s},e.b,v'⟩:FE)) L) i→InD g m kv L i∨w.heap.size≤i:=by
 obtain ⟨he,hen⟩:=q0L hf;have hfm:q0H FM.nm nm σ.L=some e.f:=by rw[←h.files,q2G (k:=FE.nm) (k':=FM.nm) (h:=FE.f) (fun x=>rfl),hf];rfl
 have happ:=ho.app hfm hfull;have hgb:=h.neB he;have hsz:=hx.size;have hw2: ∀i,i<w.heap.size→e.v.ownBlock≠some i→w2.heap[i]? =w.heap[i]? :=fun i hl hne=>(hg.block i (Nat.lt_of_lt_of_le hl hsz) (fun e1=>hne e1.symm)).trans (hx.block i hl)
 have hw: ∀i,i<w.heap.size→i≠g→i≠e.b→e.v.ownBlock≠some i→((w2.setCell ⟨e.b,0,none⟩ v').setCell ⟨g,2,none⟩ (.int .i64 ((q0Q σ.L:Int)+s.length))).heap[i]? =w.heap[i]? :=fun i hl h1 h2 h3=>by
  rw[q0N _ _ h1,q0N _ _ h2];exact hw2 i hl h3
 have hrg:e.v.ownBlock≠some g:=fun h1=>h.ne (.inr ⟨e,he,.inr h1⟩)
 have hrb:=(h.fs.blk e he).own (h.fs.row e he) (by decide);have hbl:=(h.fs.blk e he).lt;have hsep': ∀i,v'.ownBlock=some i→e.v.ownBlock=some i∨w.heap.size≤i:=fun i hi=>(hsep i hi).imp id fun h1=>Nat.le_trans hsz h1
 have hblk2:=(h.fs.blk e he).same (hw2 _ hbl hrb);have hhd2:=h.head.same (hw2 _ h.head.lt hrg);have hne': ∀i,v'.ownBlock=some i→i≠g∧i≠e.b:=fun i hi=>by
  rcases hsep' i hi with h1|h1
  ·exact ⟨fun e1=>hrg (e1▸h1),fun e1=>hrb (e1▸h1)⟩
  ·have:=h.head.lt
   exact ⟨by omega,by omega⟩
 have hgr:w.heap.size≤((w2.setCell ⟨e.b,0,none⟩ v').setCell ⟨g,2,none⟩ (.int .i64 ((q0Q σ.L:Int)+s.length))).heap.size:=by
  have:=hg.size;simp[World.setCell];omega
 refine ⟨h.fileSet (σ':=q9y σ nm s) (us':=(q0Q (q9y σ nm s).L:Int)) hf (⟨{e.f with da:=e.f.da++s},e.b,v'⟩:FE) hen rfl hw ?_ ?_ ?_ hsep' (fun f=>{f with da:=f.da++s}) rfl rfl rfl,q7u he hgr (hg.os.trans hx.os) (hg.tape.trans hx.tape) (hg.output.trans hx.output) hw,fun i hi=>?_⟩
 ·have hh:=(hhd2.out hgb 0 v').set 2 (.int .i64 ((q0Q σ.L:Int)+s.length))
  have e1:((q0Q σ.L:Int)+s.length)=(q0Q (q9y σ nm s).L:Int):=by rw[happ.2];omega
  rw[e1] at hh⊢;exact hh
 ·exact (hblk2.set 0 v').out (Ne.symm hgb) 2 _
 ·have h1:Own w2 0 5 1 v' (e.f.da++s).length ((e.f.da++s).map q1Y):=by rw[List.length_append,List.map_append];exact hown
  exact h1.same fun i hi=>by rw[q0N _ _ (hne' i hi).1,q0N _ _ (hne' i hi).2]
 ·rcases hi with h1|h1|h1
  ·exact .inl (.inl h1)
  ·rcases InF.upd (e':=(⟨{e.f with da:=e.f.da++s},e.b,v'⟩:FE)) h.fs.ord hf rfl h1 with h4|h4
   ·exact .inl (.inr (.inl h4))
   ·rcases hsep' i h4 with h5|h5
    ·exact .inl (.inr (.inl (.inr ⟨e,he,.inr h5⟩)))
    ·exact .inr h5
  ·exact .inl (.inr (.inr h1))
theorem q7r {w:World} {g:Nat} {F:Nat→Prop} {σ:DM} (h:Dk w g F σ) (nm s:List UInt8) (hl:nm.length≤9223372036854775807) (hsl:s.length≤9223372036854775807):
  Calls Tryz.prog 141 #[.pointer (some ⟨g,0,none⟩),.string ⟨nm.toArray⟩,.string ⟨s.toArray⟩] w fun e w'=>e= .returned (.int .i64 (q1G σ nm s).1)∧DkS w g F (q1G σ nm s).2 w':=by
 obtain ⟨ho,m,kv,L,hi,fin⟩:=h.openD;have HF:=η24 fin;have HI:=η24 hi;have HO:=η24 ho;clear h fin;rcases z0S hi nm hl with ⟨hd,R,_⟩|⟨hd,hf,_,R,_⟩|⟨hd,e,hfe,hf,he,R,_⟩
 ·have HM:Hid (q1G σ nm s=(61,σ)):=η24 (by unfold q1G;rw[if_pos hd])
  clear hi ho hd;go_enter Tryz.func141,Tryz.ntmps141;go_wp2_with fail;refine R.out.mono ?_;rintro e w' ⟨rfl,rfl⟩;go_wp2_with fail;go_ret;rw[HM.out];exact ⟨rfl,HF.out _ _ (Fin.same HO.out HI.out)⟩
 ·have HM:Hid (q1G σ nm s=(4,σ)):=η24 (by unfold q1G;rw[if_neg (by rw[hd];decide),hf];rfl)
  clear hi ho hd hf;go_enter Tryz.func141,Tryz.ntmps141;go_wp2_with fail;refine R.out.mono ?_;rintro e w' ⟨rfl,rfl⟩;go_wp2_with fail;go_ret;rw[HM.out];exact ⟨rfl,HF.out _ _ (Fin.same HO.out HI.out)⟩
 ·have c1:=hi.c1;have c2:=hi.c2
  have hcap0:=ho.cap0;have hcap1:=ho.cap1;have hus1:=ho.used;obtain ⟨us,hus⟩: ∃us:Nat,q0Q σ.L=us:=⟨_,rfl⟩
  obtain ⟨cp,hcp⟩: ∃cp,σ.cap=cp:=⟨_,rfl⟩
  have hM0:q1G σ nm s=if cp-(us:Int)<(s.length:Int) then (60,σ) else if q2C σ then (61,q4t (q9y σ nm s)) else (0,q1d (q9y σ nm s)):=by
   unfold q1G;rw[if_neg (by rw[hd];decide),hf,if_neg (by simp),hus,hcp]
  rw[hus,hcp] at hus1;rw[hcp] at c1 hcap0 hcap1;rw[hus] at c2;by_cases hroom:cp-(us:Int)<(s.length:Int)
  ·have HM:Hid (q1G σ nm s=(60,σ)):=η24 (by rw[hM0,if_pos hroom])
   clear hi ho hd hf hfe he hM0 hus hcp;generalize e.b=bb at*;go_enter Tryz.func141,Tryz.ntmps141;go_wp2_with fail;refine R.out.mono ?_;rintro e w' ⟨rfl,rfl⟩;go_wp2_with fail
   go_quiet (fail)
   go_wp2_with fail;go_ret;rw[HM.out];exact ⟨rfl,HF.out _ _ (Fin.ext HO.out HI.out ((Ext.refl w).drewN _))⟩
  ·have hM1:q1G σ nm s=if q2C σ then (61,q4t (q9y σ nm s)) else (0,q1d (q9y σ nm s)):=by rw[hM0,if_neg hroom]
   obtain ⟨ao,fc,hv,hv1,hv2,hv3,_⟩:=(hi.fs.row e he).rd;have hgb:=hi.neB he;have HFe:=η24 hfe;have HE:=η24 he;have HFm:=η24 hf;have HV:=η24 hv;have HUs:=η24 hus;have HCp:=η24 hcp;have hdl:e.f.da.length≤us:=by rw[←hus];exact q8u (q0L hf).1
   obtain ⟨bb,hbb⟩: ∃bb,e.b=bb:=⟨_,rfl⟩
   have HBb:=η24 hbb;have HGb:=η24 hgb;have HD:=η24 hd;rw[hbb] at R;have hslen:(s.length:Int)≤cp-us:=by omega
   have f0w: ∀k,(w.drewN k).cell? ⟨bb,0,none⟩=some (.slice ao e.f.da.length fc):=fun k=>by
    have:=(hi.ext ((Ext.refl w).drewN k)).f0 he;rw[hv,hbb] at this;exact this
   have HF0:=η24 f0w;have HRow:=η24 (fun k=>(hi.ext ((Ext.refl w).drewN k)).fs.row e he);have HDk:=η24 (fun k=>hi.ext ((Ext.refl w).drewN k));clear hi ho hd hf hfe he hM0 hus hcp hv hgb hbb f0w;go_enter Tryz.func141,Tryz.ntmps141;go_wp2_with fail;refine R.out.mono ?_;rintro en w' ⟨rfl,rfl⟩;go_wp2_with fail
   go_quiet (fail)
   have hDkn:=HDk.out nq;have f0:=HF0.out nq;have y0:(w.drewN nq).frozen? ⟨bb,0,none⟩=false:=by have:=hDkn.fz HE.out 0;rw[HBb.out] at this;exact this
   have HRn:=η24 (HRow.out nq);rw[HV.out] at HRn;have hgb:g≠bb:=by rw[←HBb.out];exact HGb.out
   have HDn:=η24 hDkn;have HRg:Hid (e.v.ownBlock≠some g):=η24 fun h1=>HI.out.ne (.inr ⟨e,HE.out,.inr h1⟩)
   have HRb:Hid (e.v.ownBlock≠some bb):=η24 (by rw[←HBb.out];exact (HI.out.fs.blk e HE.out).own (HI.out.fs.row e HE.out) (by decide));rw[HV.out] at HRg HRb;clear hDkn
   go_wp2_with (at_builtin;refine q7E rfl _ _ 128 9 rfl 0 5 Tryz.underlying128 Tryz.underlying9 y2k _ _ _ rfl HRn.out (Nat.zero_le _) s rfl (by omega) ?_;intro v' w2 hown' hg2 hsep2;obtain ⟨av,cv,rfl⟩:=hown'.slice;have hb2:=η24 (((HDn.out.fs.blk e HE.out).same (hg2.block _ (HDn.out.fs.blk e HE.out).lt (fun e1=>HRb.out (by rw[←HBb.out];exact e1.symm)))));have hh2:=η24 (HDn.out.head.same (hg2.block _ HDn.out.head.lt (fun e1=>HRg.out e1.symm)));have f02:w2.cell? ⟨bb,0,none⟩=some (.slice ao e.f.da.length fc):=(by have:=hb2.out.cell 0;rw[HBb.out,HV.out] at this;exact this);have y02:w2.frozen? ⟨bb,0,none⟩=false:=(by have:=hb2.out.free 0;rw[HBb.out] at this;exact this);have c22:w2.cell? ⟨g,2,none⟩=some (.int .i64 (us:Int)):=(by have:=hh2.out.cell 2;rw[HUs.out] at this;exact this);have z22:w2.frozen? ⟨g,2,none⟩=false:=hh2.out.free 2;have HA:=η24 (y1h HI.out HO.out HFe.out ((Ext.refl w).drewN nq) hown' (by rw[HV.out];exact hg2) (fun i hi=>by rw[HV.out];exact hsep2 i hi) (by rw[HUs.out,HCp.out];omega));clear hown' hg2 hsep2)
   rw[HBb.out,HUs.out] at HA;have HApp:=η24 (HO.out.app HFm.out (s:=s) (by rw[HUs.out,HCp.out];omega));clear hb2 hh2 f02 y02 c22 z22 f0 y0;generalize ((w2.setCell ⟨bb,0,none⟩ (.slice av (e.f.da.length+s.length) cv)).setCell ⟨g,2,none⟩ (.int .i64 ((us:Int)+s.length)))=W at*
   cases hfl:q2C σ with
   | true=>
    have HM:Hid (q1G σ nm s=(61,q4t (q9y σ nm s))):=η24 (by rw[hM1,hfl];rfl);have HS:=η24 (z2C HA.out.1 (show q2C (q9y σ nm s)=true from hfl));have HK:=η24 (z1Z HA.out.1 HApp.out.1 (show (q9y σ nm s).down=false from HD.out));clear hfl hM1;refine HS.out.mono ?_;rintro en w3 ⟨rfl,rfl⟩;go_wp2_with fail;refine HK.out.mono ?_;rintro en w4 ⟨rfl,hfin⟩;have HX:=η24 (Fin.after HA.out.2.2 HA.out.2.1.inD hfin);clear hfin;go_wp2_with fail;go_ret;rw[HM.out];exact ⟨rfl,HF.out _ _ HX.out⟩
   | false=>
    have HM:Hid (q1G σ nm s=(0,q1d (q9y σ nm s))):=η24 (by rw[hM1,hfl];rfl);have HS:=η24 (z1w HA.out.1 HApp.out.1 (show q2C (q9y σ nm s)=false from hfl));clear hfl hM1;refine HS.out.mono ?_;rintro en w3 ⟨rfl,hi3,hof,hsz,hsame⟩;have HX:Fin W g m kv _ (q1d (q9y σ nm s)) w3:=⟨HApp.out.1.tick,m,kv,_,hi3,fun i hi=> .inl hi,hof.inD⟩
    have HX:=η24 (Fin.after HA.out.2.2 HA.out.2.1.inD HX);clear hi3 hof hsz hsame;go_wp2_with fail;go_ret;rw[HM.out];exact ⟨rfl,HF.out _ _ HX.out⟩
theorem y2o {w:World} {g m:Nat} {kv:Value} {L:List FE} {σ:DM} {us:Int} (h:DkI w g m kv L us σ):DkI (w.setCell ⟨g,4,none⟩ (.int .i64 (wrap64 (σ.reads+1)))) g m kv L us (q2c σ)∧OffS (MutD g m L) w (w.setCell ⟨g,4,none⟩ (.int .i64 (wrap64 (σ.reads+1)))):=
 ⟨h.headSet (fun i _ hg=>q0N _ _ hg) (h.head.set 4 _) rfl rfl,OffS.set w (F:=MutD g m L) (.inl rfl) _ _⟩
theorem y2Z {w:World} {B:Nat} {e:TypeId} {v:Value} {n:Nat} {cs:List Value} (h:Own w B e 1 v n cs): ∃ao cap,v= .slice ao n cap∧n≤cap∧cap≤9223372036854775807∧((ao=none∧n=0∧cap=0)∨ ∃r,ao=some ⟨r,0,none⟩∧Rd w (some ⟨r,0,none⟩) cs):=by
 obtain ⟨ao,cap,e1,h1,h2,h3,h4⟩:=h.rd;refine ⟨ao,cap,e1,h1,h2,?_⟩;rcases h.2 with ⟨rfl,h0⟩|⟨g,c,cur,rfl,_⟩
 ·cases e1;exact .inl ⟨rfl,h0,rfl⟩
 ·cases e1;exact .inr ⟨g,rfl,h4⟩
theorem z3S (W:World) {ao:Option Addr} {n cap:Nat} {l:List UInt8} (hl:l.length=n) (h:Rd W ao (l.map q1Y)) (hn:ao=none→n=0):
  (convert 128 9 (.slice ao n cap)).run Tryz.prog W= .ok (.string ⟨l.toArray⟩) W:=by
 cases ao with
 | none=>
  have h0:=hn rfl;subst h0;obtain rfl:l=[]:=List.eq_nil_of_length_eq_zero hl;exact run_convert_bytes_nil W 128 5 Tryz.underlying128 Tryz.underlying5 0 cap 9 Tryz.underlying9
 |some a=>exact q5G W _ _ 5 Tryz.underlying128 Tryz.underlying5 Tryz.underlying9 hl h
theorem z4T {w:World} {g:Nat} {F:Nat→Prop} {σ:DM} (h:Dk w g F σ) (nm:List UInt8) (a n:Int) (hl:nm.length≤9223372036854775807) (ha0: -9223372036854775808≤a) (ha1:a≤9223372036854775807) (hn0: -9223372036854775808≤n) (hn1:n≤9223372036854775807):
  Calls Tryz.prog 95 #[.pointer (some ⟨g,0,none⟩),.string ⟨nm.toArray⟩,.int .i64 a,.int .i64 n] w fun e w'=>e= .returned (.tuple #[.string ⟨(q1p σ nm a n).1.toArray⟩,.int .i64 (q1p σ nm a n).2.1])∧DkS w g F (q1p σ nm a n).2.2 w':=by
 obtain ⟨ho,m,kv,L,hi,fin⟩:=h.openD;have HF:=η24 fin;have HI:=η24 hi;have HO:=η24 ho;have c6:=hi.c6;have c4:=hi.c4;have z4:=hi.z 4;obtain ⟨ht,hof⟩:=y2o hi;have HT:=η24 ht;have HOf:Hid (OffS (InD g m kv L) w (w.setCell ⟨g,4,none⟩ (.int .i64 (wrap64 (σ.reads+1))))):=η24 hof.inD;clear h fin hof;have HFin:Hid (Fin w g m kv L (q2c σ) (w.setCell ⟨g,4,none⟩ (.int .i64 (wrap64 (σ.reads+1))))):=η24 ⟨HO.out.tell,m,kv,L,ht,fun i hi=> .inl hi,HOf.out⟩;rcases z0S ht nm hl with ⟨hd,R,_⟩|⟨hd,hf,_,R,_⟩|⟨hd,e,hfe,hf,he,R,_⟩
 ·have hd':σ.down=true:=hd
  have HM:Hid (q1p σ nm a n=([],61,σ)):=η24 (by unfold q1p;rw[if_pos hd']);rw[hd'] at c6;have HR:=η24 (q5S w g hi.c0 c6);have HR2:=η24 (z1f w g hi.c0 c6 ⟨nm.toArray⟩);clear hi ho ht hd hd' R HFin;go_enter Tryz.func95,Tryz.ntmps95;go_wp2_with fail;refine HR.out.mono ?_;rintro e w' ⟨rfl,rfl⟩;go_wp2_with fail;refine HR2.out.mono ?_;rintro e w' ⟨rfl,rfl⟩;go_wp2_with fail;go_ret2;rw[HM.out];exact ⟨rfl,HF.out _ _ (Fin.same HO.out HI.out)⟩
 ·have hd':σ.down=false:=hd
  have hf':q0H FM.nm nm σ.L=none:=hf;have HM:Hid (q1p σ nm a n=([],4,q2c σ)):=η24 (by unfold q1p;rw[if_neg (by rw[hd'];decide),hf']);rw[hd'] at c6;have HR:=η24 (q4X w g hi.c0 c6);generalize σ.reads=rd at*;clear hi ho ht hd hd' hf hf';go_enter Tryz.func95,Tryz.ntmps95;go_wp2_with fail;refine HR.out.mono ?_;rintro e w' ⟨rfl,rfl⟩;go_wp2_with fail;refine R.out.mono ?_;rintro e w' ⟨rfl,rfl⟩;go_wp2_with fail;go_ret2;rw[HM.out];exact ⟨rfl,HF.out _ _ HFin.out⟩
 ·have hd':σ.down=false:=hd
  have hf':q0H FM.nm nm σ.L=some e.f:=hf;have HM0:Hid (q1p σ nm a n=if 0≤a∧0≤n∧a≤(e.f.da.length:Int)∧n≤(e.f.da.length:Int)-a then ((e.f.da.drop a.toNat).take n.toNat,0,q2c σ) else ([],2,q2c σ)):=η24 (by unfold q1p;rw[if_neg (by rw[hd'];decide),hf']);rw[hd'] at c6;have HR:=η24 (q4X w g hi.c0 c6);obtain ⟨ao,fc,hv,hv1,hv2,hrd⟩:=y2Z (ht.fs.row e he);have f0:=ht.f0 he;rw[hv] at f0;have hus:=ho.used;have hcap:=ho.cap1;have hdl:e.f.da.length≤q0Q σ.L:=q8u (q0L hf').1;have hdl1:e.f.da.length≤1048576:=by omega
  obtain ⟨da,hda⟩: ∃da,e.f.da=da:=⟨_,rfl⟩
  obtain ⟨dl,hdl2⟩: ∃dl,da.length=dl:=⟨_,rfl⟩
  rw[hda] at HM0 hrd;rw[hda,hdl2] at f0 hv1 hdl1;rw[hdl2] at hrd;rw[hdl2] at HM0;have HDl:=η24 hdl2;have HRd:=η24 hrd;have HSt:=η24 (fun (ao:Option Addr) n cap l h1 h2 h3=>z3S (w.setCell ⟨g,4,none⟩ (.int .i64 (wrap64 (σ.reads+1)))) (ao:=ao) (n:=n) (cap:=cap) (l:=l) h1 h2 h3);generalize σ.reads=rd at*;generalize e.b=bb at*;clear hi ho ht hd hd' hf hf' hfe he hv hus hcap hdl hda hdl2 hrd HI HO HT;by_cases hok:0≤a∧0≤n∧a≤(dl:Int)∧n≤(dl:Int)-a
  ·have HM:=η24 (HM0.out.trans (if_pos hok))
   obtain ⟨k,rfl⟩: ∃k:Nat,a=(k:Int):=⟨a.toNat,by omega⟩
   obtain ⟨nn,rfl⟩: ∃nn:Nat,n=(nn:Int):=⟨n.toNat,by omega⟩
   obtain ⟨h1,h2,h3,h4⟩:=hok;have hlen:((da.drop k).take nn).length=nn:=by have:=HDl.out;rw[List.length_take,List.length_drop];omega
   clear HM0;rcases HRd.out with ⟨rfl,h5,h6⟩|⟨r,rfl,hr⟩
   ·subst h6
    obtain rfl:dl=0:=h5;obtain rfl:k=0:=by omega
    obtain rfl:nn=0:=by omega
    have hcv:=HSt.out none 0 0 [] rfl (Rd.nil _ _) (fun _=>rfl);have hda0:da=[]:=List.eq_nil_of_length_eq_zero HDl.out;clear h1 h2 h3 h4 hlen HRd HDl ha0 ha1 hn0 hn1;subst hda0;go_enter Tryz.func95,Tryz.ntmps95;go_wp2_with fail;refine HR.out.mono ?_;rintro e w' ⟨rfl,rfl⟩;go_wp2_with fail;refine R.out.mono ?_;rintro e w' ⟨rfl,rfl⟩;go_wp2_with fail;go_ret2;rw[HM.out];exact ⟨rfl,HF.out _ _ HFin.out⟩
   ·have hlt:k+nn≤fc:=by omega
    by_cases hkc:fc=k
    ·obtain rfl:nn=0:=by omega
     have hcv:=HSt.out (some ⟨r,0,none⟩) 0 0 [] rfl (Rd.nil _ _) (fun _=>rfl);have hH:=η24 hlen;subst hkc;clear hlen HRd hr;go_enter Tryz.func95,Tryz.ntmps95;go_wp2_with fail;refine HR.out.mono ?_;rintro e w' ⟨rfl,rfl⟩;go_wp2_with fail;refine R.out.mono ?_;rintro e w' ⟨rfl,rfl⟩;go_wp2_with fail;go_ret2;rw[HM.out];exact ⟨rfl,HF.out _ _ HFin.out⟩
    ·have hr2:=(hr.drop k).take nn
     rw[Nat.zero_add,←List.map_drop,←List.map_take] at hr2;have hcv:=HSt.out (some ⟨r,k,none⟩) nn (fc-k) ((da.drop k).take nn) hlen hr2 (fun h=>by cases h);clear hlen HRd hr hr2;go_enter Tryz.func95,Tryz.ntmps95;go_wp2_with fail;refine HR.out.mono ?_;rintro e w' ⟨rfl,rfl⟩;go_wp2_with fail;refine R.out.mono ?_;rintro e w' ⟨rfl,rfl⟩;go_wp2_with fail;go_ret2;rw[HM.out];exact ⟨rfl,HF.out _ _ HFin.out⟩
  ·have HM:=η24 (HM0.out.trans (if_neg hok))
   have hcase:a<0∨(0≤a∧n<0)∨(0≤a∧0≤n∧(dl:Int)<a)∨(0≤a∧0≤n∧a≤(dl:Int)∧(dl:Int)-a<n):=by omega
   clear hok HM0;rcases hcase with h1|⟨h1,h2⟩|⟨h1,h2,h3⟩|⟨h1,h2,h3,h4⟩
   all_goals
    go_enter Tryz.func95,Tryz.ntmps95;go_wp2_with fail;refine HR.out.mono ?_;rintro e w' ⟨rfl,rfl⟩;go_wp2_with fail;refine R.out.mono ?_;rintro e w' ⟨rfl,rfl⟩;go_wp2_with fail;go_ret2;rw[HM.out];exact ⟨rfl,HF.out _ _ HFin.out⟩
end
end Go.Proofs.YtjjfiejoeelndaaGreatDoor
