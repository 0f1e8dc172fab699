/- Walks. -/
import Derived.Test.YthdekbmdkpcooaaGreatDoorG35CT
import Derived.Test.YthdekbmdkpcooaaGreatDoorG20CT
set_option linter.unusedVariables false
set_option linter.unusedSimpArgs false
set_option maxRecDepth 100000
set_option maxHeartbeats 6400000
namespace Go.Proofs.YthdekbmdkpcooaaGreatDoor
theorem η36 {p:Prop} (h:p):Go.RowKit.Hid p:=Lib.hid h
open Go.RowKit
theorem q4S {w w':World} {B:Nat} {tO tI:TypeId} {v:Value} {vs:List Value} {L:List (List Int)} (h:OGr w B tO tI v vs L) (k: ∀i,(v.ownBlock=some i∨ ∃q,(vs.getD q (.slice none 0 0)).ownBlock=some i)→w'.heap[i]? =w.heap[i]?):OGr w' B tO tI v vs L:=
 ⟨h.own.same fun i hi=>k i (.inl hi),fun q=>(h.row q).same fun i hi=>k i (.inr ⟨q,hi⟩),h.sep⟩
theorem z8Z {w:World} {B:Nat} {tO tI t:TypeId} {v:Value} {vs:List Value} {L:List (List Int)} {g:Nat} {cs:Array Value} (h:OGr w B tO tI v vs L) (hb:Blk w g t cs) (h1:tO≠t) (h2:tI≠t): ∀i,(v.ownBlock=some i∨ ∃q,(vs.getD q (.slice none 0 0)).ownBlock=some i)→i≠g:=by
 rintro i (hi|⟨q,hi⟩)
 ·obtain ⟨cur,hc⟩:=h.own.etype hi
  exact Blk.ne (cs:=cur) hc hb h1
 ·obtain ⟨cur,hc⟩:=(h.row q).etype hi
  exact Blk.ne (cs:=cur) hc hb h2
theorem z0h {w:World} {B:Nat} {tO tI:TypeId} {v:Value} {vs:List Value} {L:List (List Int)} (h:OGr w B tO tI v vs L): ∀i,(v.ownBlock=some i∨ ∃q,(vs.getD q (.slice none 0 0)).ownBlock=some i)→B≤i∧i<w.heap.size:=by
 rintro i (hi|⟨q,hi⟩)
 ·exact h.own.lt i hi
 ·exact (h.row q).lt i hi
theorem q8g {w:World} {B B':Nat} {tO tI:TypeId} {v:Value} {vs:List Value} {L:List (List Int)} (h:OGr w B tO tI v vs L) (k:B'≤B):OGr w B' tO tI v vs L:=
 ⟨h.own.base k,fun i=>(h.row i).base k,h.sep⟩
theorem z2Z (nx ck sd:Int) (ao:Option Addr) (n cap:Nat) (L:List (List Int)) (w:World) (hx:Grid w ao n cap L) (hs: ∀i,(L.getD i []).length≤1000000000) (hn:n≤1000000000):
  Calls Tryz.prog 148 #[.agg #[.int .i64 nx,.int .i64 ck,.int .u64 sd,.slice ao n cap]] w fun e w'=>
   ∃v vs,e= .returned (.agg #[.int .i64 nx,.int .i64 ck,.int .u64 sd,v])∧OGr w' w.heap.size 36 3 v vs L∧Ext w w':=by
 have b1:=hx.fits;have b2:=hx.bound;have HLn:=η36 hx.len;have hxa:=(q0B w (.cells #[.int .i64 nx,.int .i64 ck,.int .u64 sd,.slice ao n cap] 148)).alloc (.cells #[.int .i64 0,.int .i64 0,.int .u64 0,.slice none 0 0] 148);have hb1:=(Blk.new w 148 #[.int .i64 nx,.int .i64 ck,.int .u64 sd,.slice ao n cap]).ext (q0B _ (.cells #[.int .i64 0,.int .i64 0,.int .u64 0,.slice none 0 0] 148));have hb2:=Blk.new (w.alloc (.cells #[.int .i64 nx,.int .i64 ck,.int .u64 sd,.slice ao n cap] 148)) 148 #[.int .i64 0,.int .i64 0,.int .u64 0,.slice none 0 0];rw[World.size_alloc] at hb2;have HX0:=η36 hxa;have HB1:=η36 hb1;have HB2:=η36 hb2;have Hx:=η36 hx;have hsB:((w.alloc (.cells #[.int .i64 nx,.int .i64 ck,.int .u64 sd,.slice ao n cap] 148)).alloc (.cells #[.int .i64 0,.int .i64 0,.int .u64 0,.slice none 0 0] 148)).heap.size=w.heap.size+2:=by simp[World.size_alloc]
 clear hx hxa hb1 hb2;go_enter Tryz.func148,Tryz.ntmps148;go_wp2_with fail;obtain ⟨wB,hwB⟩: ∃wB,(w.alloc (.cells #[.int .i64 nx,.int .i64 ck,.int .u64 sd,.slice ao n cap] 148)).alloc (.cells #[.int .i64 0,.int .i64 0,.int .u64 0,.slice none 0 0] 148)=wB:=⟨_,rfl⟩
 rw[hwB] at hsB HX0 HB1 HB2;simp only[hwB];have HSB:=η36 hsB;clear hsB hwB
 go_loopw [3,9] (fun v i W=> ∃k:Nat,k≤n∧i= .int .i64 k∧(∃vs,OGr W wB.heap.size 36 3 v vs (L.take k))∧Ext wB W) (fun _ i _=>n-(intOf i).toNat)
 case atStart=>exact ⟨0,Nat.zero_le _,rfl,⟨[],by rw[List.take_zero];exact OGr.nil _ _ _ _⟩,Ext.refl _⟩
 case round=>
  obtain ⟨k,hk,rfl,⟨vs,hown⟩,hb⟩:=hrel;have Hb:=η36 (HX0.out.trans hb);have HBa:=η36 (HB1.out.ext hb);have HBb:=η36 (HB2.out.ext hb);have hsz:=hb.size;have hsz0:=HSB.out;have HbB:=η36 hb;clear hb;have Hown:=η36 hown;clear hown;by_cases hlt:k<n
  ·obtain ⟨b,off,ai,ni,ci,rfl,c1,r1⟩:=(Hx.out.ext Hb.out).at hlt
   have hd:decide ((k:Int)<(n:Int))=true:=decide_eq_true (by omega);have q1:IntKind.i64.wrap ((k:Int)+1)=(k:Int)+1:=by rw[IntKind.wrap_i64];omega
   have hkl:k<L.length:=by rw[HLn.out];exact hlt
   have hni:ni≤1000000000:=by have:=r1.len;have:=hs k;omega
   have htk:=q0T L [] k hkl;generalize L.getD k []=R at*;have R1:=η36 r1;clear r1;have HTK:=η36 htk;clear htk;have hlk:(L.take k).length=k:=by simp;omega
   have HLK:=η36 hlk;clear hlk;obtain ⟨ao3,c3,rfl⟩: ∃ao3 c3,u3= .slice ao3 k c3:=by
    obtain ⟨a,c,e⟩:=Hown.out.own.slice;rw[HLK.out] at e;exact ⟨a,c,e⟩
   go_wp2_with (first|(at_builtin;refine q0g rfl (.const (.slice none 0 0)) (.tmp 14) 36 rfl wr.heap.size 3 _ 1 8 Tryz.underlying36 Tryz.infoInt rfl (by decide) _ _ _ rfl (Own.nil _ _ _ _) _ _ _ (R.map (Value.int .i64)) rfl (by rw[List.length_map,R1.out.len];omega) R1.out.nil R1.out.rd (ints_oneCell _ _) (by omega) (by omega) (Nat.le_refl _) ?_;intro v' w1 hown' hg _;rw[Nat.zero_add,List.nil_append] at hown';obtain ⟨a1,k1,rfl⟩:=hown'.slice;have HV1:=η36 hown';have HBB1:Hid (Ext wr w1):=η36 ((Ext.refl wr).grown hg (Nat.le_refl _) (fun q hq=>by cases hq));have HOut:Hid (OGr (w1.alloc (.cells #[.slice a1 ni k1] 36)) wB.heap.size 36 3 (.slice ao3 k c3) vs (L.take k)):=η36 ((Hown.out.ext HBB1.out).ext ((Ext.refl _).alloc _));have hsz1:=HBB1.out.size;clear hown' hg)|(at_builtin;refine q0g rfl (.tmp 13) (.tmp 16) 146 rfl wB.heap.size 36 _ 1 24 Tryz.underlying146 Tryz.infoInts rfl (by decide) (.slice ao3 k c3) k _ rfl (by have h:=HOut.out.own;rw[HLK.out] at h;exact h) _ _ _ [.slice a1 ni k1] rfl rfl (fun h=>by cases h) (Rd.lit _ _ _) (by intro u hu;rw[List.mem_singleton.1 hu];rfl) (by omega) (by omega) (by simp;omega) ?_;intro v2 w2 hown2 hg2 _;obtain ⟨a2,k2,rfl⟩:=hown2.slice;have HO2:=η36 hown2;have HG2:=η36 hg2;clear hown2 hg2))
   have hb2:=q1U (HbB.out.trans (HBB1.out.alloc _)) HOut.out.own HG2.out (by simp;omega);have HB2:=η36 hb2;clear hb2;have hgr:=HOut.out.push (l:=R) (by decide) ((by have h:=HV1.out;rw[←R1.out.len] at h;exact h.ext ((Ext.refl w1).alloc (.cells #[.slice a1 ni k1] 36))):Own _ wr.heap.size 3 1 (.slice a1 R.length k1) R.length (R.map (Value.int .i64))) hsz (fun j g hj=>(z0h Hown.out g (.inr ⟨j,hj⟩)).2) (by have h:=HO2.out;rw[HLK.out,R1.out.len];exact h) HG2.out;rw[←HTK.out] at hgr;have HGR:=η36 hgr;clear hgr;go_wp2_with fail
   go_roundw
   case rel=>exact ⟨k+1,by omega,by go_num,⟨_,HGR.out⟩,HB2.out⟩
   case measure=>simp[intOf];omega
  ·obtain rfl:k=n:=by omega
   have hd:decide ((k:Int)<(k:Int))=false:=decide_eq_false (by omega);have hL:L.take k=L:=List.take_of_length_le (by rw[HLn.out];exact Nat.le_refl _);rw[hL] at Hown;obtain ⟨ao3,c3,rfl⟩:=Hown.out.own.slice;have z0:wr.cell? ⟨w.heap.size,0,none⟩=some (.int .i64 nx):=HBa.out.cell 0;have z1:wr.cell? ⟨w.heap.size,1,none⟩=some (.int .i64 ck):=HBa.out.cell 1;have z2:wr.cell? ⟨w.heap.size,2,none⟩=some (.int .u64 sd):=HBa.out.cell 2;have z3:wr.cell? ⟨w.heap.size,3,none⟩=some (.slice ao k cap):=HBa.out.cell 3;have y0:wr.cell? ⟨w.heap.size+1,0,none⟩=some (.int .i64 0):=HBb.out.cell 0;have y1:wr.cell? ⟨w.heap.size+1,1,none⟩=some (.int .i64 0):=HBb.out.cell 1;have y2:wr.cell? ⟨w.heap.size+1,2,none⟩=some (.int .u64 0):=HBb.out.cell 2;have y3:wr.cell? ⟨w.heap.size+1,3,none⟩=some (.slice none 0 0):=HBb.out.cell 3;have f3:wr.frozen? ⟨w.heap.size,3,none⟩=false:=HBa.out.free 3;have g0:wr.frozen? ⟨w.heap.size+1,0,none⟩=false:=HBb.out.free 0
   have g1:wr.frozen? ⟨w.heap.size+1,1,none⟩=false:=HBb.out.free 1;have g2:wr.frozen? ⟨w.heap.size+1,2,none⟩=false:=HBb.out.free 2;have g3:wr.frozen? ⟨w.heap.size+1,3,none⟩=false:=HBb.out.free 3;have HF:Hid (∀W,OffS (fun i=>i=w.heap.size∨i=w.heap.size+1) wr W→OGr W w.heap.size 36 3 (.slice ao3 L.length c3) vs L∧Ext w W):=η36 fun W hW=>
    ⟨q4S (q8g Hown.out (show w.heap.size≤wB.heap.size by omega)) fun i hi=>hW.block i (z0h Hown.out i hi).2 fun h=>h.elim (z8Z Hown.out HBa.out (by decide) (by decide) i hi) (z8Z Hown.out HBb.out (by decide) (by decide) i hi),hW.ext Hb.out (fun i hi=>by rcases hi with rfl|rfl<;>omega)⟩
   have hll:=HLn.out;rw[hll] at HF;rw[hll];clear HBa HBb Hown;go_wp2_with fail
   ((try simp only[Exit.inBlock,Exit.then]);refine bodyPost_ret (v:= .agg #[.int .i64 nx,.int .i64 ck,.int .u64 sd,.slice ao3 k c3]) (by rw[q0z rfl];go_simp) rfl ?_)
   have hf:=HF.out _ (((((OffS.set (F:=fun i=>i=w.heap.size∨i=w.heap.size+1) wr (.inl rfl) 3 (.slice ao3 k c3)).trans (OffS.set _ (.inr rfl) 0 (.int .i64 nx))).trans (OffS.set _ (.inr rfl) 1 (.int .i64 ck))).trans (OffS.set _ (.inr rfl) 2 (.int .u64 sd))).trans (OffS.set _ (.inr rfl) 3 (.slice ao3 k c3)));exact ⟨_,vs,rfl,hf.1,hf.2⟩
end Go.Proofs.YthdekbmdkpcooaaGreatDoor
