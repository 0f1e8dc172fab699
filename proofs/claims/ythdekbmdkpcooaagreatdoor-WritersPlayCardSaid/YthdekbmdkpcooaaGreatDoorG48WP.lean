/- Walks. -/
import Derived.Test.YthdekbmdkpcooaaGreatDoorG45WP
import Derived.Test.YthdekbmdkpcooaaGreatDoorG47WP
set_option linter.unusedVariables false
set_option linter.unusedSimpArgs false
set_option maxRecDepth 100000
set_option maxHeartbeats 12800000
namespace Go.Proofs.YthdekbmdkpcooaaGreatDoor
theorem η48 {p:Prop} (h:p):Go.RowKit.Hid p:=Lib.hid h
section
open Go.RowKit
def RwR (w:World) (gw mb base:Nat) (vL vM:Value) (bs:List Bt) (m:Nat) (str:List UInt8) (a:Int) (L:List Ev) (e:Ending) (w':World):Prop:=
 ∃vL' vM' ms',e= .returned (.tuple #[.int .i64 (wrN bs str a L).1,.bool (wrN bs str a L).2.1,.int .i64 (wrN bs str a L).2.2])∧MoI w' mb base vL' vM' (tos (wrB bs str a L)) ms'∧ms'.length≤m+1∧RwI w' gw mb str (wrA bs str a L)∧w.heap.size≤w'.heap.size∧(∀i,i<w.heap.size→¬MoB mb vL vM i→i≠gw→w'.heap[i]? =w.heap[i]?)∧(∀i,MoB mb vL' vM' i→MoB mb vL vM i∨w.heap.size≤i)∧Ios w w'
theorem Ios.of_low {w w':World} {mb:Nat} (h: ∀w0:World,Below w0.heap.size w0 w→w0.heap.size≤mb→Below w0.heap.size w0 w'):Ios w w':=by
 have:=h {w with heap:=#[]} ⟨rfl,rfl,rfl,Nat.zero_le _,fun k hk=>absurd hk (Nat.not_lt_zero k)⟩ (Nat.zero_le _);exact ⟨this.os,this.tape,this.output⟩
theorem z5e {bs:List Bt} {str:List UInt8} {a:Int} {L:List Ev} (h:q8A bs str a L=80) (ha: -1≤a):q2x bs str a L=(decide (0<L.length)&&decide (a+1+(L.length:Int)≤((q0T bs str).length:Int))&&q0v (((q0T bs str).drop (a+1).toNat).take L.length) L):=by
 by_cases hL:L=[]
 ·subst hL;simp[q2x]
 have hl:0<L.length:=List.length_pos_iff.2 hL;have hp : q4z str (a+1) (L.length:Int)=0:=by
  unfold q4z;refine if_neg ?_;rintro (h1|h1|h1)
  ·have h2:q0N str 0 L=2∨q0N str 0 L=3:=by
    unfold q0N;by_cases h3:str=[]
    ·exact .inl (if_pos (.inl h3))
    ·have h4:0<str.length:=List.length_pos_iff.2 h3
     have h5:32<str.length:=by
      unfold q1s at h1;simp only[Bool.and_eq_false_iff,decide_eq_false_iff_not] at h1;omega
     exact .inr (by rw[if_neg (by rintro (h|h);exact h3 h;exact hL h),if_pos (.inl h5)])
   unfold q8A at h;rw[if_pos (by omega)] at h;omega
  ·omega
  ·omega
 unfold q2x z6j;rw[if_pos hp];unfold q7s z0h;rw[List.map_take,List.map_drop,q9U,Int.toNat_natCast];have h1:L.isEmpty=false:=by cases L with|nil=>exact absurd rfl hL|cons=>rfl
 rw[h1,Bool.eq_iff_iff];simp only[Bool.not_false,Bool.true_and,Bool.and_eq_true,decide_eq_true_eq,sameEvs_iff]
 constructor
 ·intro e
  have:=congrArg List.length e;rw[List.length_take,List.length_drop] at this;exact ⟨⟨hl,by omega⟩,e⟩
 ·exact fun h=>h.2
theorem y1f {bs:List Bt} (h:okBs bs) (str:List UInt8): ∀e∈q0T bs str,e.we<18446744073709551616:=by
 intro e he;unfold q0T at he;rw[List.mem_flatten] at he;obtain ⟨l,hl,hel⟩:=he;rw[List.mem_map] at hl;obtain ⟨b,hb,rfl⟩:=hl;rw[List.mem_filter] at hb;obtain ⟨x,y,hxy⟩:=List.append_of_mem hb.1;exact (h x b y hxy).1.2 e hel
theorem z6I {M L:List Ev} {j:Nat} {p q:Ev} (h:q0v (M.take j) (L.take j)=true) (hp:M[j]? =some p) (hq:L[j]? =some q):q0v (M.take (j+1)) (L.take (j+1))=q3O p q:=by
 rw[sameEvs_iff] at h;rw[List.take_add_one,List.take_add_one,hp,hq,h,Bool.eq_iff_iff,sameEvs_iff];simp only[Option.toList_some,List.append_cancel_left_eq,List.cons.injEq,and_true];have:=sameEvs_iff (l:=[p]) (m:=[q]);simp only[q0v,Bool.and_true,List.cons.injEq,and_true] at this;exact this.symm
theorem z0L {α:Type} {L:List α} {j:Nat} {d:α} (h:j<L.length):L.getD j d∈L:=by
 rw[List.getD_eq_getElem?_getD,List.getElem?_eq_getElem h];exact List.getElem_mem h
theorem z7X {w : World} {gw mb base:Nat} {vL vM:Value} {bs:List Bt} {ms:List Value} (h:MoI w mb base vL vM (tos bs) ms) (hok:okBs bs) (hbm:base≤mb) {str:List UInt8} {a:Int} (hw:RwI w gw mb str a) (hgw:¬MoB mb vL vM gw) (hs:str.length≤4611686018427387903) (ha: -1≤a) (ha2:a≤1000000000) {ao:Option Addr} {k cap:Nat} {L:List Ev} (hx:Evs w ao k cap L) (hd: ∀x,ao=some x→0<k→¬MoB mb vL vM x.block)
  (hL:q1C L) (hwe: ∀e∈L,e.we<18446744073709551616) (hl:(tos bs).length≤100000) (hms:ms.length+1≤100000) (hk:k≤1000000):
  Calls Tryz.prog 15 #[.pointer (some ⟨gw,0,none⟩),.slice ao k cap] w (RwR w gw mb base vL vM bs ms.length str a L):=by
 have hlen:=hx.len;have hq:=hx.fits;have hq2:=hx.bound;have HA:=η48 (q8Y (h.ext (Ext.refl _).drew) hok hbm str hs a (hx.ext (Ext.refl _).drew) hd hL hwe hl (by omega) rfl);have k0:=hw.cell 0;have k1:=hw.cell 1;have k2:=hw.cell 2;have q1:IntKind.i64.wrap (a+1)=a+1:=by rw[IntKind.wrap_i64];omega
 have q2:IntKind.i64.wrap (a+(k:Int))=a+(k:Int):=by rw[IntKind.wrap_i64];omega
 have d0:=q0A (Ext.refl _).drew k0;have d1:=q0A (Ext.refl _).drew k1;have d2:=q0A (Ext.refl _).drew k2;have HW:=η48 hw;have HG:=η48 hgw;have HX:=η48 hx;have HM:=η48 h;have HLn:=η48 hlen;obtain ⟨z,hz⟩: ∃z,q8A bs str a L=z:=⟨_,rfl⟩
 rw[hz] at HA;have HZ:=η48 hz;have HTh:Hid (z=80→q2x bs str a L=(decide (0<k)&&decide (a+1+(k:Int)≤((q0T bs str).length:Int))&&q0v (((q0T bs str).drop (a+1).toNat).take k) L)):=η48 fun e=>by rw[z5e (hz.trans e) ha,hlen]
 have HRe:Hid (((tos bs).filter fun t=>decide (t.s=str)).map To.e=q0T bs str):=η48 (by rw[q3l hok];unfold z0h;rw[q9U]);have HRw:=η48 (y1f hok str);have HD:=η48 hd;have HWe:Hid (∀e∈L,e.we<18446744073709551616):=η48 hwe;clear h hw hgw hx hd hL hwe hok hz hlen;go_enter Tryz.func15,Tryz.ntmps15;go_wp2_with fail
 go_region_held3 (fun W=>W.cell? ⟨gw,0,none⟩=some (.pointer (some ⟨mb,0,none⟩))∧W.cell? ⟨gw,1,none⟩=some (.string ⟨str.toArray⟩)∧W.cell? ⟨gw,2,none⟩=some (.int .i64 a))
  (first|exact HC3.out|exact ⟨d0,d1,d2⟩)
  (first|(go_at_call 13;refine HA.out.mono ?_;rintro e w3 ⟨vL',vM',ms',bs',x,y,rfl,h1,h2,h3,h4,h5,h6,h7i⟩;have HI3:Hid (Ios w w3):=η48 h7i;have HM3:=η48 h1;have HN3:=η48 h2;have HS3:=η48 h3;have HO3:=η48 h4;have HB3:=η48 h5;have HR3:=η48 h6;have h7:=h4 gw HW.out.lt HG.out;have HC3:Hid (w3.cell? ⟨gw,0,none⟩=some (.pointer (some ⟨mb,0,none⟩))∧w3.cell? ⟨gw,1,none⟩=some (.string ⟨str.toArray⟩)∧w3.cell? ⟨gw,2,none⟩=some (.int .i64 a)):=η48 ⟨(World.cell?_of_block (a:=⟨gw,0,none⟩) h7).trans k0,(World.cell?_of_block (a:=⟨gw,1,none⟩) h7).trans k1,(World.cell?_of_block (a:=⟨gw,2,none⟩) h7).trans k2⟩;clear h1 h2 h3 h4 h5 h6 h7 h7i))
 obtain ⟨e0,e1,e2⟩:=HC3.out;have HW3:Hid (RwI w3 gw mb str a):=η48 (Blk.same HW.out (HO3.out gw HW.out.lt HG.out));clear d0 d1 d2 k0 k1 k2 HA HC3;rcases HR3.out with ⟨hz,rfl,hy,hb⟩|⟨hz,rfl,rfl,rfl⟩
 ·have hy' := hy.symm;have hb':=hb.symm
  clear hy hb HR3;subst hy' hb';by_cases h80:z=80
  ·have hd1 : (z ==(80:Int))=true:=by rw[h80];rfl
   have HSt:=η48 (q6n (HM3.out.ext (Ext.refl _).drew) str hl);have g0:=q0A (Ext.refl _).drew e0;have g1:=q0A (Ext.refl _).drew e1;have HT0:=η48 (HTh.out h80);have H80:=η48 h80;clear h80 hz HTh;go_wp2_with fail
   go_region_held3 (fun W=>W.cell? ⟨gw,0,none⟩=some (.pointer (some ⟨mb,0,none⟩))∧W.cell? ⟨gw,1,none⟩=some (.string ⟨str.toArray⟩))
    (first|exact HC4.out|exact ⟨g0,g1⟩)
    (first|(go_at_call 41;refine HSt.out.mono ?_;rintro e w4 ⟨v,rfl,hrow,hx4⟩;obtain ⟨va,vc,rfl⟩:=q0G hrow;have HX4:=η48 hx4;have HR4:=η48 hrow;have HC4:Hid (w4.cell? ⟨gw,0,none⟩=some (.pointer (some ⟨mb,0,none⟩))∧w4.cell? ⟨gw,1,none⟩=some (.string ⟨str.toArray⟩)):=η48 ⟨q0A hx4 g0,q0A hx4 g1⟩;clear hrow hx4))
   clear g0 g1 HC4;have hth:=HT0.out;have HRe2:=η48 HRe.out;have htos:=(q5t HR4.out).1;generalize ((tos bs).filter fun t=>decide (t.s=str))=R at*;obtain ⟨n,hn⟩: ∃n,R.length=n:=⟨_,rfl⟩
   rw[←HRe2.out,List.length_map,hn] at hth;rw[hn] at htos⊢;have hq3:=htos.fits;have hq4:=htos.bound;have q3:IntKind.i64.wrap (a+1+(k:Int))=a+1+(k:Int):=by rw[IntKind.wrap_i64];omega
   have HTo:=η48 htos;have HTb:=η48 hth;have Hn:=η48 hn;clear htos hth hn HRe HT0;by_cases hk0:0<k
   ·have hd3 : decide ((0:Int)<(k:Int))=true:=decide_eq_true (by omega)
    by_cases hfit:a+1+(k:Int)≤(n:Int)
    ·have hd4 : decide (a+1+(k:Int)≤(n:Int))=true:=decide_eq_true hfit
     go_wp2_with fail
     go_loopw [8,12] (fun ob oi W=> ∃(bv:Bool) (j:Nat),ob= .bool bv∧oi= .int .i64 (j:Int)∧j≤k∧Ext w4 W∧Hid (q0v ((((R.map To.e).drop (a+1).toNat).take k).take j) (L.take j)=bv)) (fun _ i _=>k-(intOf i).toNat)
     case atStart=>exact ⟨true,0,rfl,rfl,Nat.zero_le _,Ext.refl _,η48 (by simp[q0v])⟩
     case round =>
      obtain ⟨bv,j,rfl,rfl,hj,hx5,HS⟩:=hrel;have HX5:=η48 hx5;have HXs:Hid (Ext w3 wr):=η48 ((Ext.refl w3).drew.trans (HX4.out.trans hx5));by_cases hlt:j<k
      ·have hd5:decide ((j:Int)<(k:Int))=true:=decide_eq_true (by omega)
       cases bv with
       | false=>
        have hth:q2x bs str a L=false:=by
         have h1:=HTb.out;have h2:=HS.out;rw[h1,decide_eq_true hk0,decide_eq_true hfit,Bool.true_and,Bool.true_and,Bool.eq_false_iff];intro h3;rw[sameEvs_iff] at h3;rw[h3] at h2;have h4:=(sameEvs_iff (l:=L.take j) (m:=L.take j)).2 rfl;rw[h2] at h4;cases h4
        clear hx5;have HN:Hid (wrN bs str a L=(0,false,z)):=η48 (by unfold wrN;rw[HZ.out,if_neg (by rw[H80.out];decide),if_neg (by rintro ⟨_,h⟩;rw[hth] at h;cases h)]);have HB:Hid (wrB bs str a L=bs):=η48 (by unfold wrB;rw[HZ.out,if_neg (by rw[H80.out];decide)]);have HA2:Hid (wrA bs str a L=a):=η48 (by unfold wrA;rw[HN.out];exact if_neg (by rw[H80.out];decide));go_wp2_with fail;go_ret3;exact ⟨_,_,_,by rw[HN.out,H80.out];rfl,by rw[HB.out];exact HM3.out.ext HXs.out,HN3.out,by rw[HA2.out];exact Blk.ext HW3.out HXs.out,Nat.le_trans HS3.out HXs.out.size,fun i h1 h2 h3=>(HXs.out.block i (Nat.lt_of_lt_of_le h1 HS3.out)).trans (HO3.out i h1 h2),HB3.out,HI3.out.trans (Ios.of_ext HXs.out)⟩
       | true=>
        obtain ⟨f,hf⟩: ∃f:Nat,a+1=(f:Int):=⟨(a+1).toNat,by omega⟩
        have hf2:(a+1).toNat=f:=by omega
        obtain ⟨N,hN⟩: ∃N,f+j=N:=⟨_,rfl⟩
        have hjn:N<n:=by omega
        have q8:IntKind.i64.wrap ((j:Int)+1)=(j:Int)+1:=by rw[IntKind.wrap_i64];omega
        have q9:IntKind.i64.wrap (a+1+(j:Int))=(N:Int):=by rw[IntKind.wrap_i64];omega
        have q10:(N:Int)<(n:Int):=by omega
        have hji:(j:Int)<(k:Int):=by omega
        have hLt: ∀x,ao=some x→x.block<w.heap.size:=fun x e=>by
         obtain ⟨b,off,e2,c0,_⟩:=HX.out.at (i:=0) (by omega);rw[e] at e2;cases e2;exact World.block_lt_of_cell? _ _ c0
        have hevL:=(HX.out.keep fun x e=>HO3.out x.block (hLt x e) (HD.out x e (by omega))).ext HXs.out;obtain ⟨rb,rof,rfl,r0,r1,r2,r3,r4⟩:=(HTo.out.ext (hx5.trans (Ext.refl _).drew)).at hjn;obtain ⟨lb,lof,rfl,l0,l1,l2⟩:=(hevL.ext (Ext.refl _).drew).at hlt;have hjL:j<L.length:=by rw[HLn.out];exact hlt
        have HNx:Hid (q0v ((((R.map To.e).drop (a+1).toNat).take k).take (j+1)) (L.take (j+1))=q3O (R.getD N to0).e (L.getD j ev0)):=η48 (z6I HS.out (by rw[hf2,List.getElem?_take,if_pos hlt,List.getElem?_drop,hN,List.getElem?_map,List.getD_eq_getElem?_getD,List.getElem?_eq_getElem (by rw[Hn.out];exact hjn)];rfl) (by rw[List.getD_eq_getElem?_getD,List.getElem?_eq_getElem hjL];rfl));have hw1:(R.getD N to0).e.we<18446744073709551616:=HRw.out _ (by rw[←HRe2.out];exact List.mem_map_of_mem (z0L (by rw[Hn.out];exact hjn)));have hw2:=HWe.out _ (z0L (d:=ev0) hjL);have HC:=η48 (z1R (R.getD N to0).e (L.getD j ev0) hw1 hw2);generalize (R.getD N to0)=tt at*;generalize (L.getD j ev0)=ee at*;obtain ⟨ts,tv,⟨ty,da,we⟩⟩:=tt;obtain ⟨ty',da',we'⟩:=ee;simp only at r0 r1 r2 r3 r4 l0 l1 l2 HC HNx;clear hx5 hevL hw1 hw2 r0 r1 hLt hf hf2 hN;have hsf:=q1T;go_wp2_with fail
        go_region_law (go_simp;first|(go_at_call 46;refine (HC.out _).mono ?_;rintro e wa ⟨rfl,hxa⟩;have HXa:=η48 ((HX5.out.trans (Ext.refl _).drew).trans hxa);clear hxa))
        all_goals
         go_wp2_with fail
         go_roundw
         case rel=>exact ⟨_,j+1,rfl,by go_num,by omega,HXa.out,η48 HNx.out⟩
         case measure=>simp[intOf];omega
      ·have hd5:decide ((j:Int)<(k:Int))=false:=decide_eq_false (by omega)
       obtain rfl:j=k:=by omega
       have g2:=q0A (HX4.out.trans HX5.out) e2;have hth:q2x bs str a L=bv:=by
        have h1:=HTb.out;have h2:=HS.out;rw[List.take_of_length_le (l:=L) (by rw[HLn.out];exact Nat.le_refl _),List.take_take,Nat.min_self] at h2;rw[h1,h2,decide_eq_true hk0,decide_eq_true hfit];rfl
       cases bv with
       | false=>
        clear hx5;have HN:Hid (wrN bs str a L=(0,false,z)):=η48 (by unfold wrN;rw[HZ.out,if_neg (by rw[H80.out];decide),if_neg (by rintro ⟨_,h⟩;rw[hth] at h;cases h)]);have HB:Hid (wrB bs str a L=bs):=η48 (by unfold wrB;rw[HZ.out,if_neg (by rw[H80.out];decide)]);have HA2:Hid (wrA bs str a L=a):=η48 (by unfold wrA;rw[HN.out];exact if_neg (by rw[H80.out];decide));go_wp2_with fail;go_ret3;exact ⟨_,_,_,by rw[HN.out,H80.out];rfl,by rw[HB.out];exact HM3.out.ext HXs.out,HN3.out,by rw[HA2.out];exact Blk.ext HW3.out HXs.out,Nat.le_trans HS3.out HXs.out.size,fun i h1 h2 h3=>(HXs.out.block i (Nat.lt_of_lt_of_le h1 HS3.out)).trans (HO3.out i h1 h2),HB3.out,HI3.out.trans (Ios.of_ext HXs.out)⟩
       | true =>
        have HN:Hid (wrN bs str a L=(a+1,true,0)):=η48 (by unfold wrN;rw[if_neg (by rw[HZ.out,H80.out];decide),if_pos ⟨by rw[HZ.out,H80.out],hth⟩]);have HB:Hid (wrB bs str a L=bs):=η48 (by unfold wrB;rw[HZ.out,if_neg (by rw[H80.out];decide)]);have HA2:Hid (wrA bs str a L=a+(j:Int)):=η48 (by unfold wrA;rw[HN.out,HLn.out];rfl);have HW5:=η48 (Blk.ext HW3.out HXs.out);have f2:=HW5.out.free 2;have g0:=q0A HXs.out e0;have HG3:Hid (¬MoB mb vL' vM' gw):=η48 fun h=>by
         rcases HB3.out gw h with h|h
         ·exact HG.out h
         ·have:=HW.out.lt;rw[show w.drew.heap.size=w.heap.size from rfl] at h;omega
        have HM5:=η48 (HM3.out.ext HXs.out);have HMF:=η48 (q9w (HM5.out.same (W':=wr.setCell ⟨gw,2,none⟩ (.int .i64 (a+(j:Int)))) fun i hi=>heap_setCell_other wr ⟨gw,2,none⟩ i _ (fun e=>HG3.out (by have e2:i=gw:=e;rw[←e2];exact hi))) (by have:=HN3.out;omega));have HWs:=η48 (HW5.out.set 2 (.int .i64 (a+(j:Int))));clear hx5;go_wp2_with fail;refine HMF.out.mono ?_;rintro e w5 ⟨rfl,h1,h2,h3,h4⟩;have HZ5:=η48 h1;have HO5:=η48 h2;have HS5:=η48 h4;have HI5:=η48 (Ios.of_low h3);clear h1 h2 h3 h4 HMF;go_wp2_with fail;go_ret3;have hb5:=HM5.out;have hgs:wr.heap.size=(wr.setCell ⟨gw,2,none⟩ (.int .i64 (a+(j:Int)))).heap.size:=by rw[World.size_setCell]
        refine ⟨vL',vM',ms',by rw[HN.out];rfl,?_,HN3.out,?_,?_,?_,HB3.out,(HI3.out.trans (Ios.of_ext HXs.out)).trans HI5.out⟩
        ·rw [HB.out]
         refine ⟨HS5.out,q0a hb5.rowL fun i hi=>?_,q0a hb5.rowM fun i hi=>?_⟩
         ·rw[HO5.out i (fun e=>hb5.apart.1 (e▸hi))]
          exact heap_setCell_other wr ⟨gw,2,none⟩ i _ (fun e=>HG3.out (by have e2:i=gw:=e;rw[←e2];exact .inr (.inl hi)))
         ·rw[HO5.out i (fun e=>hb5.apart.2.1 (e▸hi))]
          exact heap_setCell_other wr ⟨gw,2,none⟩ i _ (fun e=>HG3.out (by have e2:i=gw:=e;rw[←e2];exact .inr (.inr hi)))
        ·rw[HA2.out]
         exact Blk.same HWs.out (HO5.out gw (fun e=>HG3.out (.inl e)))
        ·rw[HZ5.out,←hgs];exact Nat.le_trans HS3.out HXs.out.size
        ·intro i h1 h2 h3
         rw[HO5.out i (fun e=>h2 (.inl e)),heap_setCell_other wr ⟨gw,2,none⟩ i _ (fun e=>h3 e)];exact (HXs.out.block i (Nat.lt_of_lt_of_le h1 HS3.out)).trans (HO3.out i h1 h2)
    ·have hd4:decide (a+1+(k:Int)≤(n:Int))=false:=decide_eq_false hfit
     have hth:q2x bs str a L=false:=by rw[HTb.out,decide_eq_false hfit];simp
     go_wp2_with fail
     go_loopw [8,12] (fun ob oi W=>ob= .bool false∧oi= .int .i64 (0:Int)∧Ext w4 W) (fun _ i _=>0)
     case atStart=>exact ⟨rfl,rfl,Ext.refl _⟩
     case round=>
      obtain ⟨rfl,rfl,hx5⟩:=hrel;have HXs:Hid (Ext w3 wr):=η48 ((Ext.refl w3).drew.trans (HX4.out.trans hx5));clear hx5;have HN:Hid (wrN bs str a L=(0,false,z)):=η48 (by unfold wrN;rw[HZ.out,if_neg (by rw[H80.out];decide),if_neg (by rintro ⟨_,h⟩;rw[hth] at h;cases h)]);have HB:Hid (wrB bs str a L=bs):=η48 (by unfold wrB;rw[HZ.out,if_neg (by rw[H80.out];decide)]);have HA2:Hid (wrA bs str a L=a):=η48 (by unfold wrA;rw[HN.out];exact if_neg (by rw[H80.out];decide));go_wp2_with fail;go_ret3;exact ⟨_,_,_,by rw[HN.out,H80.out];rfl,by rw[HB.out];exact HM3.out.ext HXs.out,HN3.out,by rw[HA2.out];exact Blk.ext HW3.out HXs.out,Nat.le_trans HS3.out HXs.out.size,fun i h1 h2 h3=>(HXs.out.block i (Nat.lt_of_lt_of_le h1 HS3.out)).trans (HO3.out i h1 h2),HB3.out,HI3.out.trans (Ios.of_ext HXs.out)⟩
   ·have hd3:decide ((0:Int)<(k:Int))=false:=decide_eq_false (by omega)
    have hth:q2x bs str a L=false:=by rw[HTb.out,decide_eq_false hk0];simp
    go_wp2_with fail
    go_loopw [8,12] (fun ob oi W=>ob= .bool false∧oi= .int .i64 (0:Int)∧Ext w4 W) (fun _ i _=>0)
    case atStart=>exact ⟨rfl,rfl,Ext.refl _⟩
    case round=>
     obtain ⟨rfl,rfl,hx5⟩:=hrel;have HXs:Hid (Ext w3 wr):=η48 ((Ext.refl w3).drew.trans (HX4.out.trans hx5));clear hx5;have HN:Hid (wrN bs str a L=(0,false,z)):=η48 (by unfold wrN;rw[HZ.out,if_neg (by rw[H80.out];decide),if_neg (by rintro ⟨_,h⟩;rw[hth] at h;cases h)]);have HB:Hid (wrB bs str a L=bs):=η48 (by unfold wrB;rw[HZ.out,if_neg (by rw[H80.out];decide)]);have HA2:Hid (wrA bs str a L=a):=η48 (by unfold wrA;rw[HN.out];exact if_neg (by rw[H80.out];decide));go_wp2_with fail;go_ret3;exact ⟨_,_,_,by rw[HN.out,H80.out];rfl,by rw[HB.out];exact HM3.out.ext HXs.out,HN3.out,by rw[HA2.out];exact Blk.ext HW3.out HXs.out,Nat.le_trans HS3.out HXs.out.size,fun i h1 h2 h3=>(HXs.out.block i (Nat.lt_of_lt_of_le h1 HS3.out)).trans (HO3.out i h1 h2),HB3.out,HI3.out.trans (Ios.of_ext HXs.out)⟩
  ·have hd1:(z==(80:Int))=false:=by simpa using h80
   have hd2:(z !=(0:Int))=true:=by simpa using hz
   have HN:Hid (wrN bs str a L=(0,false,z)):=η48 (by unfold wrN;rw[HZ.out,if_neg hz,if_neg (by rintro ⟨h,_⟩;exact h80 h)]);have HB:Hid (wrB bs str a L=bs):=η48 (by unfold wrB;rw[HZ.out,if_neg hz]);have HA2:Hid (wrA bs str a L=a):=η48 (by unfold wrA;rw[HN.out];exact if_neg hz);clear h80 hz;go_wp2_with fail;go_ret3;exact ⟨_,_,_,by rw[HN.out];rfl,by rw[HB.out];exact HM3.out,HN3.out,by rw[HA2.out];exact HW3.out,HS3.out,fun i h1 h2 h3=>HO3.out i h1 h2,HB3.out,HI3.out⟩
 ·subst hz
  have HN:Hid (wrN bs str a L=(a+1,false,0)):=η48 (by unfold wrN;rw[if_pos HZ.out]);have HB:Hid (wrB bs str a L=bs++[⟨str,(q0T bs str).length,L⟩]):=η48 (by unfold wrB;rw[if_pos HZ.out]);have HA2:Hid (wrA bs str a L=a+(k:Int)):=η48 (by unfold wrA;rw[HN.out,HLn.out];rfl);have f2:=HW3.out.free 2;have HG3:Hid (¬MoB mb vL' vM' gw):=η48 fun h=>by
   rcases HB3.out gw h with h|h
   ·exact HG.out h
   ·have:=HW.out.lt;rw[show w.drew.heap.size=w.heap.size from rfl] at h;omega
  have HMF:=η48 (q9w (HM3.out.same (W':=w3.setCell ⟨gw,2,none⟩ (.int .i64 (a+(k:Int)))) fun i hi=>heap_setCell_other w3 ⟨gw,2,none⟩ i _ (fun e=>HG3.out (by have e2:i=gw:=e;rw[←e2];exact hi))) (by have:=HN3.out;omega));have HWs:=η48 (HW3.out.set 2 (.int .i64 (a+(k:Int))));clear HR3;go_wp2_with fail;refine HMF.out.mono ?_;rintro e w5 ⟨rfl,h1,h2,h3,h4⟩;have HZ5:=η48 h1;have HO5:=η48 h2;have HS5:=η48 h4;have HI5:=η48 (Ios.of_low h3);clear h1 h2 h3 h4 HMF;go_wp2_with fail;go_ret3;have hb5:=HM3.out;have hgs:w3.heap.size=(w3.setCell ⟨gw,2,none⟩ (.int .i64 (a+(k:Int)))).heap.size:=by rw[World.size_setCell]
  refine ⟨vL',vM',ms',by rw[HN.out];rfl,?_,HN3.out,?_,?_,?_,HB3.out,HI3.out.trans HI5.out⟩
  ·rw [HB.out]
   refine ⟨HS5.out,q0a hb5.rowL fun i hi=>?_,q0a hb5.rowM fun i hi=>?_⟩
   ·rw[HO5.out i (fun e=>hb5.apart.1 (e▸hi))]
    exact heap_setCell_other w3 ⟨gw,2,none⟩ i _ (fun e=>HG3.out (by have e2:i=gw:=e;rw[←e2];exact .inr (.inl hi)))
   ·rw[HO5.out i (fun e=>hb5.apart.2.1 (e▸hi))]
    exact heap_setCell_other w3 ⟨gw,2,none⟩ i _ (fun e=>HG3.out (by have e2:i=gw:=e;rw[←e2];exact .inr (.inr hi)))
  ·rw[HA2.out]
   exact Blk.same HWs.out (HO5.out gw (fun e=>HG3.out (.inl e)))
  ·rw[HZ5.out,←hgs];exact HS3.out
  ·intro i h1 h2 h3
   rw[HO5.out i (fun e=>h2 (.inl e)),heap_setCell_other w3 ⟨gw,2,none⟩ i _ (fun e=>h3 e)];exact HO3.out i h1 h2
end
section
open Go.RowKit
def apN (bs:List Bt) (str:List UInt8) (L:List Ev):Int×Int:=if q8A bs str (-2) L=0 then (((q0T bs str).length:Int),0) else (0,q8A bs str (-2) L)
def apB (bs:List Bt) (str:List UInt8) (L:List Ev):List Bt:=if q8A bs str (-2) L=0 then bs++[⟨str,(q0T bs str).length,L⟩] else bs
theorem q5P (bs:List Bt) (b:Bt) (str:List UInt8):(q0T bs str).length≤(q0T (bs++[b]) str).length:=by
 rw[q3N,List.length_append];omega
theorem z8l (bs:List Bt) (str:List UInt8) (a:Int) (L:List Ev) (st:List UInt8):(q0T bs st).length≤(q0T (wrB bs str a L) st).length:=by
 unfold wrB;split
 ·exact q5P _ _ _
 ·exact Nat.le_refl _
theorem z8k (bs:List Bt) (str:List UInt8) (L:List Ev) (st:List UInt8):(q0T bs st).length≤(q0T (apB bs str L) st).length:=by
 unfold apB;split
 ·exact q5P _ _ _
 ·exact Nat.le_refl _
theorem z8t (bs:List Bt) (str:List UInt8) (a:Int) (L:List Ev):(wrB bs str a L).length≤bs.length+1:=by
 unfold wrB;split<;>simp
theorem y0K (bs:List Bt) (str:List UInt8) (L:List Ev):(apB bs str L).length≤bs.length+1:=by
 unfold apB;split<;>simp
theorem z8c {bs:List Bt} {str:List UInt8} {a:Int} {L:List Ev} (h0: -1≤a) (h1:a<((q0T bs str).length:Int)): -1≤wrA bs str a L∧wrA bs str a L<((q0T (wrB bs str a L) str).length:Int):=by
 by_cases hz:q8A bs str a L=0
 ·have e1:wrA bs str a L=a+(L.length:Int):=by unfold wrA wrN;rw[if_pos hz];exact if_pos rfl
  have e2:wrB bs str a L=bs++[⟨str,(q0T bs str).length,L⟩]:=by unfold wrB;rw[if_pos hz]
  have e3:q0T [⟨str,(q0T bs str).length,L⟩] str=L:=by unfold q0T;simp
  rw[e1,e2,q3N,List.length_append,e3];omega
 ·have e2:wrB bs str a L=bs:=by unfold wrB;rw[if_neg hz]
  rw[e2];by_cases ht:q8A bs str a L=80∧q2x bs str a L=true
  ·have e1:wrA bs str a L=a+(L.length:Int):=by unfold wrA wrN;rw[if_neg hz,if_pos ht];exact if_pos rfl
   have h3:=z5e ht.1 h0;rw[ht.2] at h3;have h4:=h3.symm;simp only[Bool.and_eq_true,decide_eq_true_eq] at h4;rw[e1];omega
  ·have e1:wrA bs str a L=a:=by unfold wrA wrN;rw[if_neg hz,if_neg ht];exact if_neg hz
   rw[e1];exact ⟨h0,h1⟩
theorem z8o {bs:List Bt} {str:List UInt8} {a:Int} (h:q5f bs str a=0): -1≤a∧a<((q0T bs str).length:Int):=by
 unfold q5f at h
 split at h
 ·rename_i h1;exact absurd h h1
 ·rename_i h1
  split at h
  ·cases h
  ·split at h
   ·cases h
   ·unfold q3c at*
    split at h1
    ·rename_i h2 h3 h4
     rw[if_pos h4] at h3;simp only at h3;omega
    ·simp at h1
theorem z8i {bs:List Bt} (h:okBs bs) {str:List UInt8} {a:Int} {L:List Ev} (hl:bs.length≤1000) (hwe: ∀e∈L,e.we<18446744073709551616):okBs (wrB bs str a L):=by
 unfold wrB;by_cases hz:q8A bs str a L=0
 ·rw [if_pos hz]
  have hc:q0N str 0 L=0:=by
   unfold q8A at hz;by_cases hc:q0N str 0 L=0
   ·exact hc
   ·rw[if_pos hc] at hz;exact absurd hz hc
  have h1:=q3q bs str;have h2:=q9c h;exact okBs_snoc.2 ⟨h,⟨q4R (n:=(q0T bs str).length) hc (by omega),hwe⟩,rfl⟩
 ·rw[if_neg hz];exact h
theorem y0b {bs:List Bt} (h:okBs bs) {str:List UInt8} {L:List Ev} (hl:bs.length≤1000) (hwe: ∀e∈L,e.we<18446744073709551616):okBs (apB bs str L):=z8i (a:= -2) h hl hwe
def upd (P:Bool→Option (Nat×Int)) (k:Bool) (v:Option (Nat×Int)):Bool→Option (Nat×Int):=fun j=>if j=k then v else P j
theorem q3M (P:Bool→Option (Nat×Int)) (k:Bool) (v:Option (Nat×Int)):upd P k v k=v:=if_pos rfl
theorem q4Q (P:Bool→Option (Nat×Int)) (k:Bool) (v:Option (Nat×Int)):upd P k v (!k)=P (!k):=if_neg (by cases k<;>decide)
theorem q1J {P:Bool→Option (Nat×Int)} {k:Bool} {v:Option (Nat×Int)} {j:Bool} {r:Option (Nat×Int)} (h:upd P k v j=r):(j=k∧v=r)∨(j=!k∧P (!k)=r):=by
 by_cases e:j=k
 ·subst e;rw[q3M] at h;exact .inl ⟨rfl,h⟩
 ·have e2:j=!k:=by cases j<;>cases k<;>simp_all
  subst e2;rw[q4Q] at h;exact .inr ⟨rfl,h⟩
def InW (P:Bool→Option (Nat×Int)) (i:Nat):Prop:= ∃k s,P k=some (i,s)
def ptW :Option (Nat×Int)→Value
 |none=> .pointer none
 |some (x,_)=> .pointer (some ⟨x,0,none⟩)
theorem InW.of_upd {P:Bool→Option (Nat×Int)} {k:Bool} {x:Nat} {s s':Int} (h:P k=some (x,s)) {i:Nat}:InW (upd P k (some (x,s'))) i↔InW P i:=by
 constructor
 ·rintro ⟨j,t,hj⟩
  rcases q1J hj with ⟨rfl,e⟩|⟨rfl,e⟩
  ·cases e;exact ⟨_,_,h⟩
  ·exact ⟨_,_,e⟩
 ·rintro ⟨j,t,hj⟩
  by_cases e:j=k
  ·subst e;rw[h] at hj;cases hj;exact ⟨_,_,q3M _ _ _⟩
  ·have e2:j=!k:=by cases j<;>cases k<;>simp_all
   subst e2;exact ⟨!k,t,by rw[q4Q];exact hj⟩
theorem InW.upd_le {P:Bool→Option (Nat×Int)} {k:Bool} {v:Option (Nat×Int)} {i:Nat} (h:InW (upd P k v) i):InW P i∨ ∃s,v=some (i,s):=by
 obtain ⟨j,t,hj⟩:=h;rcases q1J hj with ⟨rfl,e⟩|⟨rfl,e⟩
 ·exact .inr ⟨t,e⟩
 ·exact .inl ⟨_,_,e⟩
structure TW (wb W:World) (g gs rate:Nat) (sd c:Int) (u n:Nat) (bs:List Bt) (mb:Nat) (vL vM:Value) (k:Nat) (bs2:List Bt) (str:List UInt8) (P D:Bool→Option (Nat×Int)) (X:Nat→Prop):Prop where
 sk:SK wb W g gs rate sd c 0 u n bs (fun i=>MoB mb vL vM i∨InW P i∨InW D i∨X i)
 mo: ∃ms,MoI W mb wb.heap.size vL vM (tos bs2) ms∧ms.length≤k
 ok2:okBs bs2
 few2:bs2.length≤k
 lowM: ∀i,MoB mb vL vM i→wb.heap.size≤i∧¬X i
 pI: ∀j x s,P j=some (x,s)→WrI W x gs str s∧ -1≤s∧s<((q0T bs str).length:Int)
 dI: ∀j x s,D j=some (x,s)→RwI W x mb str s∧ -1≤s∧s<((q0T bs2 str).length:Int)
 pA: ∀j x s,P j=some (x,s)→¬MoB mb vL vM x∧¬X x∧¬InW D x∧(∀s',P (!j)≠some (x,s'))∧wb.heap.size≤x
 dA: ∀j x s,D j=some (x,s)→¬MoB mb vL vM x∧¬X x∧(∀s',D (!j)≠some (x,s'))∧wb.heap.size≤x
section
variable {wb w W W':World} {g gs mb rate u n k:Nat} {sd c:Int} {bs bs2:List Bt} {vL vM:Value} {str:List UInt8} {P D:Bool→Option (Nat×Int)} {X X':Nat→Prop}
theorem TW.lt (h:TW wb W g gs rate sd c u n bs mb vL vM k bs2 str P D X) {i:Nat} (hi:MoB mb vL vM i∨InW P i∨InW D i∨X i):i<W.heap.size:=h.sk.klt i hi
theorem TW.grow (h:TW wb W g gs rate sd c u n bs mb vL vM k bs2 str P D X) (e:Ext W W'):TW wb W' g gs rate sd c u n bs mb vL vM k bs2 str P D X:=by
 obtain ⟨ms,hm,hl⟩:=h.mo;exact ⟨h.sk.grow e,⟨ms,hm.ext e,hl⟩,h.ok2,h.few2,h.lowM,fun j x s hj=>⟨Blk.ext (h.pI j x s hj).1 e,(h.pI j x s hj).2⟩,fun j x s hj=>⟨Blk.ext (h.dI j x s hj).1 e,(h.dI j x s hj).2⟩,h.pA,h.dA⟩
theorem TW.more (h:TW wb W g gs rate sd c u n bs mb vL vM k bs2 str P D X) (e:Ext W W') (hX: ∀i,X' i→X i∨(W.heap.size≤i∧i<W'.heap.size)):TW wb W' g gs rate sd c u n bs mb vL vM k bs2 str P D X':=by
 have hg:=h.grow e;have hn: ∀i,(MoB mb vL vM i∨InW P i∨InW D i)→¬X i→¬X' i:=fun i hi hx hx'=>by
  have:i<W.heap.size:=h.lt (by rcases hi with h|h|h;exact .inl h;exact .inr (.inl h);exact .inr (.inr (.inl h)));rcases hX i hx' with h|h
  ·exact hx h
  ·omega
 refine ⟨h.sk.more e fun i hi=>?_,hg.mo,hg.ok2,hg.few2,fun i hi=>⟨(h.lowM i hi).1,hn i (.inl hi) (h.lowM i hi).2⟩,hg.pI,hg.dI,fun j x s hj=>?_,fun j x s hj=>?_⟩
 ·rcases hi with hi|hi|hi|hi
  ·exact .inl (.inl hi)
  ·exact .inl (.inr (.inl hi))
  ·exact .inl (.inr (.inr (.inl hi)))
  ·exact (hX i hi).imp (fun h=> .inr (.inr (.inr h))) id
 ·obtain ⟨a1,a2,a3⟩:=h.pA j x s hj
  exact ⟨a1,hn x (.inr (.inl ⟨j,s,hj⟩)) a2,a3⟩
 ·obtain ⟨a1,a2,a3⟩:=h.dA j x s hj
  exact ⟨a1,hn x (.inr (.inr ⟨j,s,hj⟩)) a2,a3⟩
theorem TW.poke (h:TW wb W g gs rate sd c u n bs mb vL vM k bs2 str P D X) {x:Nat} (hx:X x) (hb:wb.heap.size≤x) (j:Nat) (v:Value):TW wb (W.setCell ⟨x,j,none⟩ v) g gs rate sd c u n bs mb vL vM k bs2 str P D X:=by
 obtain ⟨ms,hm,hl⟩:=h.mo;have ho: ∀i,i≠x→(W.setCell ⟨x,j,none⟩ v).heap[i]? =W.heap[i]? :=fun i hi=>heap_setCell_other W ⟨x,j,none⟩ i v fun e=>hi (by exact e)
 refine ⟨h.sk.sideM (by rw[World.size_setCell];exact Nat.le_refl _) (Below.setCell h.sk.base hb v) (fun i hi hn=>ho i fun e=>hn (by rw[e];exact .inr (.inr (.inr hx)))) fun i hi=> .inl hi,
  ⟨ms,hm.same fun i hi=>ho i fun e=>(h.lowM i hi).2 (e▸hx),hl⟩,h.ok2,h.few2,h.lowM,fun a y s hj=>⟨Blk.same (h.pI a y s hj).1 (ho y fun e=>(h.pA a y s hj).2.1 (e▸hx)),(h.pI a y s hj).2⟩,fun a y s hj=>⟨Blk.same (h.dI a y s hj).1 (ho y fun e=>(h.dA a y s hj).2.1 (e▸hx)),(h.dI a y s hj).2⟩,h.pA,h.dA⟩
theorem TW.stored (h:TW wb w g gs rate sd c u n bs mb vL vM k bs2 str P D X) {u' n':Nat} {bs':List Bt} (hk:SK wb W g gs rate sd c 0 u' n' bs' (fun i=>MoB mb vL vM i∨InW P i∨InW D i∨X i)) (hs:Stay (fun i=>MoB mb vL vM i∨InW P i∨InW D i∨X i) w W) (he:(q0T bs str).length≤(q0T bs' str).length):
  TW wb W g gs rate sd c u' n' bs' mb vL vM k bs2 str P D X∧Stay X w W:=by
 obtain ⟨ms,hm,hl⟩:=h.mo;refine ⟨⟨hk,⟨ms,hm.same fun i hi=>hs i (.inl hi),hl⟩,h.ok2,h.few2,h.lowM,fun j x s hj=>?_,fun j x s hj=>?_,h.pA,h.dA⟩,fun i hi=>hs i (.inr (.inr (.inr hi)))⟩
 ·obtain ⟨a1,a2,a3⟩:=h.pI j x s hj
  exact ⟨Blk.same a1 (hs x (.inr (.inl ⟨j,s,hj⟩))),a2,by omega⟩
 ·obtain ⟨a1,a2⟩:=h.dI j x s hj
  exact ⟨Blk.same a1 (hs x (.inr (.inr (.inl ⟨j,s,hj⟩)))),a2⟩
theorem TW.app1 (h:TW wb w g gs rate sd c u n bs mb vL vM k bs2 str P D X) (hn:n≤86) (hroom:(u:Int)+8024≤c) (hs:str.length≤4611686018427387903) {ao:Option Addr} {m cap:Nat} {L:List Ev} (hx: ∀W,Ext wb W→Evs W ao m cap L) (hL:q1C L) (hwe: ∀e∈L,e.we<18446744073709551616):
  Calls Tryz.prog 12 #[.pointer (some ⟨gs,0,none⟩),.string ⟨str.toArray⟩,.int .i64 (-2),.slice ao m cap] w fun e w'=>e= .returned (.tuple #[.int .i64 (apN bs str L).1,.int .i64 (apN bs str L).2])∧TW wb w' g gs rate sd c (u+2024) (n+1) (apB bs str L) mb vL vM k bs2 str P D X∧Stay X w w':=by
 refine (h.sk.append hn str hs (-2) (fun W kk _=>hx W kk) hL hwe rfl).mono ?_;rintro e w' ⟨x,y,bs',rfl,k1,k2,h3⟩;have hh:x=(apN bs str L).1∧y=(apN bs str L).2∧bs'=apB bs str L:=by
  unfold apN apB;rcases h3 with ⟨h3,rfl,rfl,rfl⟩|⟨_,_,_,_,h3⟩|⟨h3,rfl,rfl,rfl⟩
  ·rw[if_neg h3,if_neg h3];exact ⟨rfl,rfl,rfl⟩
  ·omega
  ·rw[if_pos h3,if_pos h3];exact ⟨rfl,rfl,rfl⟩
 obtain ⟨rfl,rfl,rfl⟩:=hh;exact ⟨rfl,h.stored k1 k2 (z8k _ _ _ _)⟩
theorem TW.modelled (h:TW wb w g gs rate sd c u n bs mb vL vM k bs2 str P D X) {F:Nat→Prop} {vL' vM':Value} {ms':List Value} {bs':List Bt} (hm:MoI W mb wb.heap.size vL' vM' (tos bs') ms') (hl:ms'.length≤k+1) (hok:okBs bs') (hfew:bs'.length≤k+1)
  (hsz:w.heap.size≤W.heap.size) (hios:Ios w W) (ho: ∀i,i<w.heap.size→¬MoB mb vL vM i→¬F i→W.heap[i]? =w.heap[i]?) (hB: ∀i,MoB mb vL' vM' i→MoB mb vL vM i∨w.heap.size≤i) (he:(q0T bs2 str).length≤(q0T bs' str).length)
  {D':Bool→Option (Nat×Int)} (hF: ∀i,F i→InW D i) (hD: ∀i,InW D' i→InW D i) (hdI: ∀j x s,D' j=some (x,s)→RwI W x mb str s∧ -1≤s∧s<((q0T bs' str).length:Int)) (hdA: ∀j x s,D' j=some (x,s)→ ∃s',D j=some (x,s')):
  TW wb W g gs rate sd c u n bs mb vL' vM' (k+1) bs' str P D' X∧Stay X w W:=by
 have hFl: ∀i,F i→wb.heap.size≤i:=fun i hi=>by obtain ⟨j,s,hj⟩:=hF i hi;exact (h.dA j i s hj).2.2.2
 have hst: ∀i,i<w.heap.size→¬MoB mb vL vM i→¬InW D i→W.heap[i]? =w.heap[i]? :=fun i h1 h2 h3=>ho i h1 h2 fun hf=>h3 (hF i hf)
 have hx:Ext wb W:=Below.trans h.sk.base ⟨hios.1,hios.2.1,hios.2.2,hsz,fun i hi=>ho i (Nat.lt_of_lt_of_le hi h.sk.base.size) (fun e=>by have:=(h.lowM i e).1;omega) fun e=>by have:=hFl i e;omega⟩;have hnew: ∀i,(InW P i∨InW D i∨X i)→¬MoB mb vL vM i→¬MoB mb vL' vM' i:=fun i hi hn hb=>by
  have:i<w.heap.size:=h.lt (.inr hi);rcases hB i hb with h1|h1
  ·exact hn h1
  ·omega
 refine ⟨⟨h.sk.sideM hsz hx (fun i hi hn=>hst i hi (fun e=>hn (.inl e)) fun e=>hn (.inr (.inr (.inl e)))) fun i hi=>?_,⟨ms',hm,hl⟩,hok,hfew,fun i hi=>?_,fun j x s hj=>?_,hdI,fun j x s hj=>?_,fun j x s hj=>?_⟩,fun i hi=>?_⟩
 ·rcases hi with hi|hi|hi|hi
  ·rcases hB i hi with h1|h1
   ·exact .inl (.inl h1)
   ·exact .inr ⟨h1,hm.lt hi⟩
  ·exact .inl (.inr (.inl hi))
  ·exact .inl (.inr (.inr (.inl (hD i hi))))
  ·exact .inl (.inr (.inr (.inr hi)))
 ·rcases hB i hi with h1|h1
  ·exact h.lowM i h1
  ·exact ⟨Nat.le_trans h.sk.base.size h1,fun hX=>by have:=h.lt (.inr (.inr (.inr hX)));omega⟩
 ·obtain ⟨a1,a2⟩:=h.pI j x s hj
  obtain ⟨b1,b2,b3,b4⟩:=h.pA j x s hj;exact ⟨Blk.same a1 (hst x (h.lt (.inr (.inl ⟨j,s,hj⟩))) b1 b3),a2⟩
 ·obtain ⟨b1,b2,b3,b4⟩:=h.pA j x s hj
  exact ⟨hnew x (.inl ⟨j,s,hj⟩) b1,b2,fun e=>b3 (hD x e),b4⟩
 ·obtain ⟨s',hs'⟩:=hdA j x s hj
  obtain ⟨b1,b2,b3,b4⟩:=h.dA j x s' hs';exact ⟨hnew x (.inr (.inl ⟨j,s',hs'⟩)) b1,b2,fun s2 e=>(by obtain ⟨s3,h3⟩:=hdA _ _ _ e;exact b3 s3 h3),b4⟩
 ·exact hst i (h.lt (.inr (.inr (.inr hi)))) (fun e=>(h.lowM i e).2 hi) fun ⟨j,s,hj⟩=>(h.dA j i s hj).2.1 hi
theorem TW.bd2 (h:TW wb w g gs rate sd c u n bs mb vL vM k bs2 str P D X) (hk:k≤1000):(tos bs2).length≤8000:=by
 have h1:=q9c h.ok2;have h2:=h.few2;omega
theorem z8n {ao:Option Addr} {m cap:Nat} {L:List Ev} (hx: ∀W,Ext wb W→Evs W ao m cap L): ∀a,ao=some a→0<m→a.block<wb.heap.size:=fun a e hm=>by
 obtain ⟨b,off,e2,c0,_⟩:=(hx wb (Ext.refl _)).at (i:=0) hm;rw[e] at e2;cases e2;exact World.block_lt_of_cell? _ _ c0
theorem TW.app2 (h:TW wb w g gs rate sd c u n bs mb vL vM k bs2 str P D X) (hk:k≤1000) (hs:str.length≤4611686018427387903) {ao:Option Addr} {m cap:Nat} {L:List Ev} (hx: ∀W,Ext wb W→Evs W ao m cap L) (hL:q1C L) (hwe: ∀e∈L,e.we<18446744073709551616):
  Calls Tryz.prog 13 #[.pointer (some ⟨mb,0,none⟩),.string ⟨str.toArray⟩,.int .i64 (-2),.slice ao m cap] w fun e w'=>e= .returned (.tuple #[.int .i64 (apN bs2 str L).1,.int .i64 (apN bs2 str L).2])∧Stay X w w'∧
   ∃vL' vM',TW wb w' g gs rate sd c u n bs mb vL' vM' (k+1) (apB bs2 str L) str P D X:=by
 obtain ⟨ms,hm,hl⟩:=h.mo;have h8:=h.bd2 hk;have hfew:=h.few2;refine (q8Y hm h.ok2 (h.lowM mb (.inl rfl)).1 str hs (-2) (hx w h.sk.base) (fun a e h0 hb=>by have:=z8n hx a e h0;have:=(h.lowM _ hb).1;omega) hL hwe (by omega) (by omega) rfl).mono ?_;rintro e w' ⟨vL',vM',ms',bs',x,y,rfl,h1,h2,h3,h4,h5,h6,h7⟩;have hh:x=(apN bs2 str L).1∧y=(apN bs2 str L).2∧bs'=apB bs2 str L:=by
  unfold apN apB;rcases h6 with ⟨h3,rfl,rfl,rfl⟩|⟨h3,rfl,rfl,rfl⟩
  ·rw[if_neg h3,if_neg h3];exact ⟨rfl,rfl,rfl⟩
  ·rw[if_pos h3,if_pos h3];exact ⟨rfl,rfl,rfl⟩
 obtain ⟨rfl,rfl,rfl⟩:=hh;have he:=z8k bs2 str L str;have:=h.modelled (F:=fun _=>False) (D':=D) h1 (by omega) (y0b h.ok2 (by omega) hwe) (Nat.le_trans (y0K _ _ _) (by omega)) h3 h7 (fun i a b _=>h4 i a b) h5 he (fun i hi=>hi.elim) (fun i hi=>hi) (fun j x s hj=>?_) (fun j x s hj=>⟨s,hj⟩)
 ·exact ⟨rfl,this.2,_,_,this.1⟩
 ·obtain ⟨a1,a2,a3⟩:=h.dI j x s hj
  exact ⟨Blk.same a1 (h4 x (h.lt (.inr (.inr (.inl ⟨j,s,hj⟩)))) (h.dA j x s hj).1),a2,by omega⟩
theorem TW.write1 (h:TW wb w g gs rate sd c u n bs mb vL vM k bs2 str P D X) (hn:n≤86) (hroom:(u:Int)+8024≤c) (hs:str.length≤4611686018427387903) {j:Bool} {x:Nat} {s:Int} (hj:P j=some (x,s)) {ao:Option Addr} {m cap:Nat} {L:List Ev} (hx: ∀W,Ext wb W→Evs W ao m cap L) (hm:m≤1000000) (hL:q1C L) (hwe: ∀e∈L,e.we<18446744073709551616):
  Calls Tryz.prog 14 #[.pointer (some ⟨x,0,none⟩),.slice ao m cap] w fun e w'=>e= .returned (.tuple #[.int .i64 (wrN bs str s L).1,.bool (wrN bs str s L).2.1,.int .i64 (wrN bs str s L).2.2])∧
   TW wb w' g gs rate sd c (u+2024) (n+1) (wrB bs str s L) mb vL vM k bs2 str (upd P j (some (x,wrA bs str s L))) D X∧Stay X w w':=by
 obtain ⟨ms,hmo,hl⟩:=h.mo;obtain ⟨a1,a2,a3⟩:=h.pI j x s hj;obtain ⟨b1,b2,b3,b4,b5⟩:=h.pA j x s hj;have hb:=h.sk.few;have hb2:=q3q bs str;have hK: ∀i,((MoB mb vL vM i∨(InW P i∧i≠x)∨InW D i∨X i)∨i=x)→(MoB mb vL vM i∨InW P i∨InW D i∨X i):=fun i hi=>by
  rcases hi with (hi|hi|hi|hi)|hi
  ·exact .inl hi
  ·exact .inr (.inl hi.1)
  ·exact .inr (.inr (.inl hi))
  ·exact .inr (.inr (.inr hi))
  ·exact .inr (.inl ⟨j,s,by rw[hi];exact hj⟩)
 have hK2: ∀i,(MoB mb vL vM i∨InW P i∨InW D i∨X i)→((MoB mb vL vM i∨(InW P i∧i≠x)∨InW D i∨X i)∨i=x):=fun i hi=>by
  by_cases e:i=x
  ·exact .inr e
  ·exact .inl (by rcases hi with hi|hi|hi|hi;exact .inl hi;exact .inr (.inl ⟨hi,e⟩);exact .inr (.inr (.inl hi));exact .inr (.inr (.inr hi)))
 refine (q8t (h.sk.beside hK) hn hroom (fun hi=>by rcases hi with hi|hi|hi|hi;exact b1 hi;exact hi.2 rfl;exact b3 hi;exact b2 hi) b5 a1 hs a2 (by omega) (fun W kk _=>hx W kk) hm hL hwe).mono ?_;rintro e w' ⟨rfl,k1,k2,k3⟩;have he:=z8l bs str s L str;refine ⟨rfl,⟨k1.beside fun i hi=>hK2 i (by rcases hi with hi|hi|hi;exact .inl hi;exact .inr (.inl ((InW.of_upd hj).1 hi));exact .inr (.inr hi)),⟨ms,hmo.same fun i hi=>k2 i (.inl hi),hl⟩,h.ok2,h.few2,h.lowM,fun i y t hi=>?_,fun i y t hi=>?_,fun i y t hi=>?_,h.dA⟩,fun i hi=>k2 i (.inr (.inr (.inr hi)))⟩
 ·rcases q1J hi with ⟨rfl,e⟩|⟨rfl,e⟩
  ·cases e;exact ⟨k3,z8c a2 a3⟩
  ·obtain ⟨c1,c2,c3⟩:=h.pI _ _ _ e
   exact ⟨Blk.same c1 (k2 y (.inr (.inl ⟨⟨_,_,e⟩,fun e2=>b4 t (by rw[e,e2])⟩))),c2,by omega⟩
 ·obtain ⟨c1,c2⟩:=h.dI i y t hi
  exact ⟨Blk.same c1 (k2 y (.inr (.inr (.inl ⟨i,t,hi⟩)))),c2⟩
 ·rcases q1J hi with ⟨rfl,e⟩|⟨rfl,e⟩
  ·cases e;exact ⟨b1,b2,b3,fun s' e=>b4 s' (by rw[q4Q] at e;exact e),b5⟩
  ·obtain ⟨c1,c2,c3,c4,c5⟩:=h.pA _ _ _ e
   refine ⟨c1,c2,c3,fun s' e2=>?_,c5⟩;rw[Bool.not_not,q3M] at e2
   cases e2;exact c4 s (by rw[Bool.not_not];exact hj)
theorem TW.write2 (h:TW wb w g gs rate sd c u n bs mb vL vM k bs2 str P D X) (hk:k≤1000) (hs:str.length≤4611686018427387903) {j:Bool} {x:Nat} {s:Int} (hj:D j=some (x,s)) {ao:Option Addr} {m cap:Nat} {L:List Ev} (hx: ∀W,Ext wb W→Evs W ao m cap L) (hm:m≤1000000) (hL:q1C L) (hwe: ∀e∈L,e.we<18446744073709551616):
  Calls Tryz.prog 15 #[.pointer (some ⟨x,0,none⟩),.slice ao m cap] w fun e w'=>e= .returned (.tuple #[.int .i64 (wrN bs2 str s L).1,.bool (wrN bs2 str s L).2.1,.int .i64 (wrN bs2 str s L).2.2])∧Stay X w w'∧
   ∃vL' vM',TW wb w' g gs rate sd c u n bs mb vL' vM' (k+1) (wrB bs2 str s L) str P (upd D j (some (x,wrA bs2 str s L))) X:=by
 obtain ⟨ms,hmo,hl⟩:=h.mo;obtain ⟨a1,a2,a3⟩:=h.dI j x s hj;obtain ⟨b1,b2,b3,b4⟩:=h.dA j x s hj;have h8:=h.bd2 hk;have hb2:=q3q bs2 str;have hfew:=h.few2;refine (z7X hmo h.ok2 (h.lowM mb (.inl rfl)).1 a1 b1 hs a2 (by omega) (hx w h.sk.base) (fun a e h0 hb=>by have:=z8n hx a e h0;have:=(h.lowM _ hb).1;omega) hL hwe (by omega) (by omega) hm).mono ?_;rintro e w' ⟨vL',vM',ms',rfl,h1,h2,h3,h4,h5,h6,h7⟩;have he:=z8l bs2 str s L str;have:=h.modelled (F:=fun i=>i=x) (D':=upd D j (some (x,wrA bs2 str s L))) h1 (by omega) (z8i h.ok2 (by omega) hwe) (Nat.le_trans (z8t _ _ _ _) (by omega)) h4 h7 (fun i a b d=>h5 i a b d) h6 he (fun i hi=>⟨j,s,by rw[hi];exact hj⟩) (fun i hi=>(InW.of_upd hj).1 hi) (fun i y t hi=>?_) (fun i y t hi=>?_)
 ·exact ⟨rfl,this.2,_,_,this.1⟩
 ·rcases q1J hi with ⟨rfl,e⟩|⟨rfl,e⟩
  ·cases e;exact ⟨h3,z8c a2 a3⟩
  ·obtain ⟨c1,c2,c3⟩:=h.dI _ _ _ e
   exact ⟨Blk.same c1 (h5 y (h.lt (.inr (.inr (.inl ⟨_,_,e⟩)))) (h.dA _ _ _ e).1 fun e2=>b3 t (by rw[e,e2])),c2,by omega⟩
 ·rcases q1J hi with ⟨rfl,e⟩|⟨rfl,e⟩
  ·cases e;exact ⟨s,hj⟩
  ·exact ⟨t,e⟩
theorem TW.none1 (h:TW wb W g gs rate sd c u n bs mb vL vM k bs2 str P D X) (j:Bool):TW wb W g gs rate sd c u n bs mb vL vM k bs2 str (upd P j none) D X:=by
 refine ⟨h.sk.beside fun i hi=>?_,h.mo,h.ok2,h.few2,h.lowM,fun i y t hi=>?_,h.dI,fun i y t hi=>?_,h.dA⟩
 ·rcases hi with hi|hi|hi
  ·exact .inl hi
  ·rcases InW.upd_le hi with hi|⟨s,hi⟩
   ·exact .inr (.inl hi)
   ·cases hi
  ·exact .inr (.inr hi)
 ·rcases q1J hi with ⟨rfl,e⟩|⟨rfl,e⟩
  ·cases e
  ·exact h.pI _ _ _ e
 ·rcases q1J hi with ⟨rfl,e⟩|⟨rfl,e⟩
  ·cases e
  ·obtain ⟨c1,c2,c3,c4,c5⟩:=h.pA _ _ _ e
   exact ⟨c1,c2,c3,fun s' e2=>(by rw[Bool.not_not,q3M] at e2;cases e2),c5⟩
theorem TW.none2 (h:TW wb W g gs rate sd c u n bs mb vL vM k bs2 str P D X) (j:Bool):TW wb W g gs rate sd c u n bs mb vL vM k bs2 str P (upd D j none) X:=by
 have hD: ∀i,InW (upd D j none) i→InW D i:=fun i hi=>by
  rcases InW.upd_le hi with hi|⟨s,hi⟩
  ·exact hi
  ·cases hi
 refine ⟨h.sk.beside fun i hi=>?_,h.mo,h.ok2,h.few2,h.lowM,h.pI,fun i y t hi=>?_,fun i y t hi=>?_,fun i y t hi=>?_⟩
 ·rcases hi with hi|hi|hi|hi
  ·exact .inl hi
  ·exact .inr (.inl hi)
  ·exact .inr (.inr (.inl (hD i hi)))
  ·exact .inr (.inr (.inr hi))
 ·rcases q1J hi with ⟨rfl,e⟩|⟨rfl,e⟩
  ·cases e
  ·exact h.dI _ _ _ e
 ·obtain ⟨c1,c2,c3,c4,c5⟩:=h.pA _ _ _ hi
  exact ⟨c1,c2,fun e=>c3 (hD _ e),c4,c5⟩
 ·rcases q1J hi with ⟨rfl,e⟩|⟨rfl,e⟩
  ·cases e
  ·obtain ⟨c1,c2,c3,c4⟩:=h.dA _ _ _ e
   exact ⟨c1,c2,fun s' e2=>(by rw[Bool.not_not,q3M] at e2;cases e2),c4⟩
theorem TW.open1 (h:TW wb w g gs rate sd c u n bs mb vL vM k bs2 str P D X) (hn:n≤1000) (hs:str.length≤4611686018427387903) (a:Int) (j:Bool):
  Calls Tryz.prog 10 #[.pointer (some ⟨gs,0,none⟩),.string ⟨str.toArray⟩,.int .i64 a] w fun e w'=>Stay X w w'∧
   ((q5f bs str a≠0∧e= .returned (.tuple #[.pointer none,.int .i64 (q5f bs str a)])∧TW wb w' g gs rate sd c u n bs mb vL vM k bs2 str (upd P j none) D X)∨
   (q5f bs str a=0∧ ∃x,e= .returned (.tuple #[.pointer (some ⟨x,0,none⟩),.int .i64 0])∧TW wb w' g gs rate sd c u n bs mb vL vM k bs2 str (upd P j (some (x,a))) D X)):=by
 refine (q6t h.sk hn str hs a).mono ?_;rintro e w' ⟨hx,hst,⟨hz,rfl,hk⟩|⟨hz,x,rfl,hw,hg,hb,hk⟩⟩
 ·have:=h.stored hk hst (Nat.le_refl _)
  exact ⟨this.2,.inl ⟨hz,rfl,this.1.none1 j⟩⟩
 ·have hh:=(h.stored (hk.beside fun i hi=> .inl hi) hst (Nat.le_refl _))
  have h1:=hh.1.none1 j;refine ⟨hh.2,.inr ⟨hz,x,rfl,⟨hk.beside fun i hi=>?_,hh.1.mo,hh.1.ok2,hh.1.few2,hh.1.lowM,fun i y t hi=>?_,hh.1.dI,fun i y t hi=>?_,hh.1.dA⟩⟩⟩
  ·rcases hi with hi|hi|hi
   ·exact .inl (.inl hi)
   ·rcases InW.upd_le hi with hi|⟨s,hi⟩
    ·exact .inl (.inr (.inl hi))
    ·cases hi;exact .inr rfl
   ·exact .inl (.inr (.inr hi))
  ·rcases q1J hi with ⟨rfl,e⟩|⟨rfl,e⟩
   ·cases e;exact ⟨hw,z8o hz⟩
   ·exact hh.1.pI _ _ _ e
  ·rcases q1J hi with ⟨rfl,e⟩|⟨rfl,e⟩
   ·cases e;exact ⟨fun e=>hg (.inl e),fun e=>hg (.inr (.inr (.inr e))),fun e=>hg (.inr (.inr (.inl e))),fun s' e=>hg (.inr (.inl ⟨_,s',by rw[q4Q] at e;exact e⟩)),hb⟩
   ·obtain ⟨c1,c2,c3,c4,c5⟩:=hh.1.pA _ _ _ e
    exact ⟨c1,c2,c3,fun s' e2=>(by rw[Bool.not_not,q3M] at e2;cases e2;exact hg (.inr (.inl ⟨_,_,e⟩))),c5⟩
theorem TW.open2 (h:TW wb w g gs rate sd c u n bs mb vL vM k bs2 str P D X) (hk:k≤1000) (hs:str.length≤4611686018427387903) (a:Int) (j:Bool):
  Calls Tryz.prog 11 #[.pointer (some ⟨mb,0,none⟩),.string ⟨str.toArray⟩,.int .i64 a] w fun e w'=>Stay X w w'∧
   ((q5f bs2 str a≠0∧e= .returned (.tuple #[.pointer none,.int .i64 (q5f bs2 str a)])∧TW wb w' g gs rate sd c u n bs mb vL vM k bs2 str P (upd D j none) X)∨
   (q5f bs2 str a=0∧ ∃x,e= .returned (.tuple #[.pointer (some ⟨x,0,none⟩),.int .i64 0])∧TW wb w' g gs rate sd c u n bs mb vL vM k bs2 str P (upd D j (some (x,a))) X)):=by
 obtain ⟨ms,hmo,hl⟩:=h.mo;have h8:=h.bd2 hk;refine (z7m hmo h.ok2 str hs (by omega) a).mono ?_;rintro e w' ⟨hx,⟨hz,rfl⟩|⟨hz,x,rfl,hw,hb⟩⟩
 ·exact ⟨fun i hi=>hx.block i (h.lt (.inr (.inr (.inr hi)))),.inl ⟨hz,rfl,(h.grow hx).none2 j⟩⟩
 ·have hh:=h.grow hx
  have hnew:¬(MoB mb vL vM x∨InW P x∨InW D x∨X x):=fun e=>by have:=h.lt e;omega
  have hwl:x<w'.heap.size:=hw.lt;refine ⟨fun i hi=>hx.block i (h.lt (.inr (.inr (.inr hi)))),.inr ⟨hz,x,rfl,⟨h.sk.more hx fun i hi=>?_,hh.mo,hh.ok2,hh.few2,hh.lowM,hh.pI,fun i y t hi=>?_,fun i y t hi=>?_,fun i y t hi=>?_⟩⟩⟩
  ·rcases hi with hi|hi|hi|hi
   ·exact .inl (.inl hi)
   ·exact .inl (.inr (.inl hi))
   ·rcases InW.upd_le hi with hi|⟨s,hi⟩
    ·exact .inl (.inr (.inr (.inl hi)))
    ·cases hi;exact .inr ⟨hb,hwl⟩
   ·exact .inl (.inr (.inr (.inr hi)))
  ·rcases q1J hi with ⟨rfl,e⟩|⟨rfl,e⟩
   ·cases e;exact ⟨hw,z8o hz⟩
   ·exact hh.dI _ _ _ e
  ·obtain ⟨c1,c2,c3,c4,c5⟩:=hh.pA _ _ _ hi
   refine ⟨c1,c2,fun e=>?_,c4,c5⟩;rcases InW.upd_le e with e|⟨s,e⟩
   ·exact c3 e
   ·cases e;exact hnew (.inr (.inl ⟨_,_,hi⟩))
  ·rcases q1J hi with ⟨rfl,e⟩|⟨rfl,e⟩
   ·cases e;exact ⟨fun e=>hnew (.inl e),fun e=>hnew (.inr (.inr (.inr e))),fun s' e=>hnew (.inr (.inr (.inl ⟨_,s',by rw[q4Q] at e;exact e⟩))),Nat.le_trans h.sk.base.size hb⟩
   ·obtain ⟨c1,c2,c3,c4⟩:=hh.dA _ _ _ e
    exact ⟨c1,c2,fun s' e2=>(by rw[Bool.not_not,q3M] at e2;cases e2;exact hnew (.inr (.inr (.inl ⟨_,_,e⟩)))),c4⟩
end
end
section
open Go.RowKit
theorem q9h (x:Int):bits .and .i64 x 1=0∨bits .and .i64 x 1=1:=by
 have h:(BitVec.ofInt 64 x&&&BitVec.ofInt 64 1).toNat≤1:=by
  rw[BitVec.toNat_and];exact Nat.and_le_right
 have e:bits .and .i64 x 1=IntKind.i64.wrap (((BitVec.ofInt 64 x&&&BitVec.ofInt 64 1).toNat:Nat):Int):=rfl;rw[e,IntKind.wrap_i64];omega
theorem q3V {W0 W:World} {q j:Nat} {v:Option Value} (h:W0.heap.size=q) (k:W.cell? ⟨q,j,none⟩=v):W.cell? ⟨W0.heap.size,j,none⟩=v:=h▸k
def Ars (W:World) (ba bb:Nat) (P D:Bool→Option (Nat×Int)):Prop:=
 Blk W ba 40 #[ptW (P false),ptW (P true)]∧Blk W bb 42 #[ptW (D false),ptW (D true)]
theorem Ars.same {W W':World} {ba bb:Nat} {P D:Bool→Option (Nat×Int)} (h:Ars W ba bb P D) {X:Nat→Prop} (hs:Stay X W W') (h1:X ba) (h2:X bb):Ars W' ba bb P D:=⟨h.1.same (hs _ h1),h.2.same (hs _ h2)⟩
def Twin (P D:Bool→Option (Nat×Int)):Prop:= ∀k,(P k).map Prod.snd=(D k).map Prod.snd
theorem Twin.renew {P D:Bool→Option (Nat×Int)} (h:Twin P D) {k:Bool} {v w:Option (Nat×Int)} (e:v.map Prod.snd=w.map Prod.snd):Twin (upd P k v) (upd D k w):=fun j=>by
 by_cases hj:j=k
 ·subst hj;rw[q3M,q3M];exact e
 ·have:j=!k:=by cases j<;>cases k<;>simp_all
  subst this;rw[q4Q,q4Q];exact h _
theorem Twin.some {P D:Bool→Option (Nat×Int)} (h:Twin P D) {k:Bool} {y:Nat} {t:Int} (e:D k=some (y,t)): ∃x,P k=some (x,t):=by
 have h1:=h k;rw[e] at h1
 cases hp:P k with
 |none=>rw[hp] at h1;cases h1
 |some v=>obtain ⟨x,s⟩:=v;rw[hp] at h1;cases h1;exact ⟨x,rfl⟩
theorem Ars.renew {W:World} {ba bb:Nat} {P D:Bool→Option (Nat×Int)} (h:Ars W ba bb P D) (hne:ba≠bb) (k:Bool) (v w:Option (Nat×Int)):Ars ((W.setCell ⟨ba,if k then 1 else 0,none⟩ (ptW v)).setCell ⟨bb,if k then 1 else 0,none⟩ (ptW w)) ba bb (upd P k v) (upd D k w):=by
 have e1: ∀(P:Bool→Option (Nat×Int)) v,(#[ptW (P false),ptW (P true)]:Array Value).setIfInBounds (if k then 1 else 0) (ptW v)=#[ptW (upd P k v false),ptW (upd P k v true)]:=fun P v=>by cases k<;>simp[upd]
 constructor
 ·have:=h.1.set (if k then 1 else 0) (ptW v)
  rw[e1] at this;exact this.same (heap_setCell_other _ ⟨bb,_,none⟩ ba _ fun e=>hne (by exact e))
 ·have:=(h.2.same (w':=W.setCell ⟨ba,if k then 1 else 0,none⟩ (ptW v)) (heap_setCell_other _ ⟨ba,_,none⟩ bb _ fun e=>hne (by exact e.symm))).set (if k then 1 else 0) (ptW w)
  rw[e1] at this;exact this
theorem Ars.put {W:World} {ba bb:Nat} {P D P' D':Bool→Option (Nat×Int)} (h:Ars W ba bb P D) (e1: ∀k,ptW (P' k)=ptW (P k)) (e2: ∀k,ptW (D' k)=ptW (D k)):Ars W ba bb P' D':=by
 unfold Ars;rw[e1,e1,e2,e2];exact h
theorem q9d {P:Bool→Option (Nat×Int)} {k:Bool} {x:Nat} {s t:Int} (h:P k=some (x,s)) (j:Bool):ptW (upd P k (some (x,t)) j)=ptW (P j):=by
 by_cases hj:j=k
 ·subst hj;rw[q3M,h];rfl
 ·have:j=!k:=by cases j<;>cases k<;>simp_all
  subst this;rw[q4Q]
theorem TW.start {w1 w2:World} {g gs rate:Nat} {sd:Int} (h:SK w1 w2 g gs rate sd 1048576 0 0 0 [] noI) (str:List UInt8):
  TW w1 (((w2.alloc (.cells #[.slice none 0 0,.slice none 0 0,.int .i64 0] 38)).alloc (.cells #[.pointer none,.pointer none] 40)).alloc (.cells #[.pointer none,.pointer none] 42)) g gs rate sd 1048576 0 0 [] w2.heap.size (.slice none 0 0) (.slice none 0 0) 0 [] str (fun _=>none) (fun _=>none) (fun i=>i=w2.heap.size+1∨i=w2.heap.size+1+1)∧
   Ars (((w2.alloc (.cells #[.slice none 0 0,.slice none 0 0,.int .i64 0] 38)).alloc (.cells #[.pointer none,.pointer none] 40)).alloc (.cells #[.pointer none,.pointer none] 42)) (w2.heap.size+1) (w2.heap.size+1+1) (fun _=>none) (fun _=>none):=by
 have hx:=q6G w2 (.cells #[.slice none 0 0,.slice none 0 0,.int .i64 0] 38) (.cells #[.pointer none,.pointer none] 40) (.cells #[.pointer none,.pointer none] 42);have hx2:=q5T (w2.alloc (.cells #[.slice none 0 0,.slice none 0 0,.int .i64 0] 38)) (.cells #[.pointer none,.pointer none] 40) (.cells #[.pointer none,.pointer none] 42);have hx3:=q0B ((w2.alloc (.cells #[.slice none 0 0,.slice none 0 0,.int .i64 0] 38)).alloc (.cells #[.pointer none,.pointer none] 40)) (.cells #[.pointer none,.pointer none] 42);have hB: ∀i,MoB w2.heap.size (.slice none 0 0) (.slice none 0 0) i→i=w2.heap.size:=fun i hi=>by
  rcases hi with hi|hi|hi
  ·exact hi
  ·cases hi
  ·cases hi
 have hN: ∀i,¬InW (fun _=>none) i:=fun i ⟨_,_,h⟩=>by cases h
 have b1:=(Blk.new w2 38 #[.slice none 0 0,.slice none 0 0,.int .i64 0]).ext hx2;have b2:=(Blk.new (w2.alloc (.cells #[.slice none 0 0,.slice none 0 0,.int .i64 0] 38)) 40 #[.pointer none,.pointer none]).ext hx3;have b3:=Blk.new ((w2.alloc (.cells #[.slice none 0 0,.slice none 0 0,.int .i64 0] 38)).alloc (.cells #[.pointer none,.pointer none] 40)) 42 #[.pointer none,.pointer none];simp only[World.size_alloc] at b2 b3;refine ⟨⟨h.more hx fun i hi=>?_,⟨[],⟨⟨0,b1⟩,⟨rfl,.inl ⟨rfl,rfl⟩⟩,⟨rfl,.inl ⟨rfl,rfl⟩⟩⟩,Nat.le_refl _⟩,okBs.nil,Nat.le_refl _,fun i hi=>⟨by rw[hB i hi];exact h.base.size,by rw[hB i hi];omega⟩,fun j x s hj=>(by cases hj),fun j x s hj=>(by cases hj),fun j x s hj=>(by cases hj),fun j x s hj=>(by cases hj)⟩,b2,b3⟩;refine .inr ?_;simp only[World.size_alloc];rcases hi with hi|hi|hi|hi
 ·rw[hB i hi];omega
 ·exact absurd hi (hN i)
 ·exact absurd hi (hN i)
 ·omega
theorem writersplay_c {ao:Option Addr} {n cap:Nat} {A:List Acm} {str:List UInt8} (sd:Int) (rate:Nat) (room:Int) (w:World) (hx:Acs w ao n cap A) (hls:str.length≤9223372036854775807) (hs0:0≤sd) (hs1:sd<18446744073709551616):
  Calls Tryz.prog 3 #[.slice ao n cap,.string ⟨str.toArray⟩,.agg #[.int .u64 sd,.float .f64 rate,.int .u16 room]] w fun e w'=>e= .returned (.bool true)∧Ext w w':=by
 have hx1:=q0B w (.cells #[.int .u64 sd,.float .f64 rate,.int .u16 room] 27);have hb1:=Blk.new w 27 #[.int .u64 sd,.float .f64 rate,.int .u16 room];have HG:=η48 (z9d 40 _ (hx.ext hx1));have HX:=η48 hx1;have HB1:=η48 hb1;have HA:=η48 (hx.ext hx1);have hlen:=hx.len;have bb1:=hx.fits;have bb2:=hx.bound;obtain ⟨z,hz⟩: ∃z,q6K A 40=z:=⟨_,rfl⟩
 rw[hz] at HG;clear hx hx1 hb1;go_enter Tryz.func3,Tryz.ntmps3;go_wp2_with fail;refine HG.out.mono ?_;rintro e w1 ⟨rfl,hx⟩;have HX1:=η48 (HX.out.trans hx);have HB2:=η48 (HB1.out.ext hx);have HA1:=η48 (HA.out.ext hx);clear hx HG HB1 HA HX
 cases z with
 | true=>
  go_wp2_with fail;refine (q7X w1).mono ?_;rintro e w2 ⟨rfl,hx⟩;have HX2:=η48 (HX1.out.trans hx);clear hx;go_wp2_with fail;go_ret;exact ⟨rfl,HX2.out⟩
 | false =>
  by_cases hl:100<str.length
  ·have hd1:decide ((100:Int)<(str.length:Int))=true:=decide_eq_true (by omega)
   go_wp2_with fail;refine (q7X w1).mono ?_;rintro e w2 ⟨rfl,hx⟩;have HX2:=η48 (HX1.out.trans hx);clear hx;go_wp2_with fail;go_ret;exact ⟨rfl,HX2.out⟩
  have hd1:decide ((100:Int)<(str.length:Int))=false:=decide_eq_false (by omega);have hng:=z5T hz;have HNg:=η48 hng.2;have hn40:n≤40:=by have:=hng.1;omega
  have hc1:=HB2.out;have k0:=hc1.cell 0;have k1:=hc1.cell 1;have k2:=hc1.cell 2;have HO:=η48 (q8j sd rate room w1 hs0 hs1);clear hng hz hc1;go_wp2_with fail;refine HO.out.mono ?_;rintro e w2 ⟨g,gs,rfl,hk⟩;have HS0:=η48 (TW.start hk str);have HQ:Hid (w1.heap.size≤w2.heap.size):=η48 hk.base.size;clear hk HO k0 k1 k2;go_wp2_with fail;obtain ⟨mb,hmb⟩: ∃mb,w2.heap.size=mb:=⟨_,rfl⟩
  go_loopw [13] (fun oi W=> ∃(j u m:Nat) (bs:List Bt) (vL vM:Value) (P D:Bool→Option (Nat×Int)),oi= .int .i64 (j:Int)∧j≤n∧u≤2024*j∧m≤j∧TW w1 W g gs rate sd 1048576 u m bs w2.heap.size vL vM m bs str P D (fun i=>i=w2.heap.size+1∨i=w2.heap.size+1+1)∧Twin P D∧Ars W (w2.heap.size+1) (w2.heap.size+1+1) P D) (fun i _=>n-(intOf i).toNat)
  case atStart=>exact ⟨0,0,0,[],_,_,_,_,rfl,Nat.zero_le _,Nat.le_refl _,Nat.le_refl _,HS0.out.1,fun k=>rfl,HS0.out.2⟩
  case round =>
   obtain ⟨j,u,m,bs,vL,vM,P,D,rfl,hj,hu,hm,htw,htn,har⟩:=hrel;obtain ⟨ba,hba⟩: ∃ba,w2.heap.size+1=ba:=⟨_,rfl⟩
   obtain ⟨bb,hbb⟩: ∃bb,ba+1=bb:=⟨_,rfl⟩
   rw[hba,hbb] at htw har⊢;have hab:ba≠bb:=by omega
   have hmq:w1.heap.size≤ba:=by have:=HQ.out;omega
   have HAB:=η48 hab;have HBB:=η48 hbb;have HMQ:=η48 hmq;have HTw:=η48 htw;have HTn:=η48 htn;have HAr:=η48 har;clear htw htn har hba hbb hab hmq hmb HS0;by_cases hlt:j<n
   ·have hd : decide ((j:Int)<(n:Int))=true:=decide_eq_true (by omega)
    have hji:(j:Int)<(n:Int):=by omega
    have q8:IntKind.i64.wrap ((j:Int)+1)=(j:Int)+1:=by rw[IntKind.wrap_i64];omega
    obtain ⟨b0,off,rfl,c0,c1,c2,c3,c4,hev,hok⟩:=(HA1.out.ext HTw.out.sk.base).at hlt;have hng:=HNg.out (A.getD j ac0) (z0Z (by omega));have hev2: ∀W,Ext w1 W→Evs W (A.getD j ac0).ao (A.getD j ac0).n (A.getD j ac0).cap (A.getD j ac0).L:=fun W kk=>by
     obtain ⟨_,_,_,_,_,_,_,_,h9,_⟩:=(HA1.out.ext kk).at hlt;exact h9
    generalize A.getD j ac0=x at*;obtain ⟨kd,st,xa,xb,eao,en,ecap,L⟩:=x;simp only at c0 c1 c2 c3 c4 hev hng hev2;have HEv:=η48 hev2;have HWe:Hid (∀e∈L,e.we<18446744073709551616):=η48 fun e he=>(hok.e e he).2.2
    have HSh:Hid (q1C L):=η48 (q5J hng.2.2);have hen:en≤20:=by have:=hng.2.1;omega
    clear hev2 hev hok hng;obtain ⟨q,hq⟩: ∃q,wr.heap.size=q:=⟨_,rfl⟩
    have hxb:=q0B wr (.cells #[.int .u8 kd,.string ⟨st.toArray⟩,.int .i64 xa,.int .i64 xb,.slice eao en ecap] 45);have hbk:=Blk.new wr 45 #[.int .u8 kd,.string ⟨st.toArray⟩,.int .i64 xa,.int .i64 xb,.slice eao en ecap];rw[hq] at hbk;have HBk:=η48 hbk;obtain ⟨X,hX⟩: ∃X:Nat→Prop,(fun i=>(i=ba∨i=bb)∨i=q)=X:=⟨_,rfl⟩
    have hXa:X ba:=by rw[←hX];exact .inl (.inl rfl)
    have hXb:X bb:=by rw[←hX];exact .inl (.inr rfl)
    have hXq:X q:=by rw[←hX];exact .inr rfl
    have HXa:=η48 hXa;have HXb:=η48 hXb;have HXq:=η48 hXq;have HT0:=η48 (HTw.out.more (X':=X) hxb fun i hi=>by rw[←hX] at hi;exact hi.imp id fun e=>by rw[World.size_alloc];omega);have HR0:=η48 (HAr.out.same (X:=fun i=>i=ba∨i=bb) (fun i hi=>hxb.block i (HTw.out.lt (.inr (.inr (.inr hi))))) (.inl rfl) (.inr rfl))
    have HDn:Hid (∀(W:World) (u' m':Nat) (bs':List Bt) (vL' vM':Value) (P' D':Bool→Option (Nat×Int)),u'≤u+2024→m'≤m+1→TW w1 W g gs rate sd 1048576 u' m' bs' w2.heap.size vL' vM' m' bs' str P' D' X→Twin P' D'→Ars W ba bb P' D'→
      ∃(j1 u m:Nat) (bs:List Bt) (vL vM:Value) (P D:Bool→Option (Nat×Int)),Value.int .i64 ((j:Int)+1)= .int .i64 (j1:Int)∧j1≤n∧u≤2024*j1∧m≤j1∧TW w1 W g gs rate sd 1048576 u m bs w2.heap.size vL vM m bs str P D (fun i=>i=ba∨i=bb)∧Twin P D∧Ars W ba bb P D):=
     η48 fun W u' m' bs' vL' vM' P' D' h1 h2 h3 h4 h5=>⟨j+1,u',m',bs',vL',vM',P',D',by go_num,by omega,by omega,by omega,h3.more (Ext.refl _) fun i hi=> .inl (by rw[←hX];exact .inl hi),h4,h5⟩
    have HRoom:Hid ((u:Int)+8024≤1048576):=η48 (by omega);have HM86:Hid (m≤86):=η48 (by omega);have HQ:=η48 hq;obtain ⟨zz,hzz⟩: ∃zz,kd.tmod 12=zz:=⟨_,rfl⟩
    obtain ⟨r1,r2⟩:=HR0.out;have HW0:=η48 hxb;clear hxb hbk hq hX hXa hXb hXq HTw HAr;by_cases h9:zz=9
    ·have d9:(zz==(9:Int))=true:=by rw[h9];rfl
     have d4:decide ((4:Int)<zz)=true:=decide_eq_true (by omega);clear h9;rcases q9h xb with hand|hand
     ·have HO1:=η48 (HT0.out.open1 (by omega) (by omega) xa false)
      obtain ⟨zo,hzo⟩: ∃zo,q5f bs str xa=zo:=⟨_,rfl⟩
      rw[hzo] at HO1;have HZo:=η48 hzo;clear hzo;clear r1 r2;go_wp2_with fail;refine HO1.out.mono ?_;rintro e w3 ⟨hs3,h3⟩;have HB3:=η48 (HBk.out.same (hs3 q HXq.out));have HR3:=η48 (HR0.out.same hs3 HXa.out HXb.out);clear HO1 hs3;rcases h3 with ⟨hz,rfl,h3⟩|⟨hz,x1,rfl,h3⟩
      ·have HO2:=η48 (h3.open2 (by omega) (by omega) xa false)
       rw[HZo.out] at HO2;have c2:=q3V HQ.out (HB3.out.cell 2);have HZ:=η48 hz;clear h3 hz;go_wp2_with fail;refine HO2.out.mono ?_;rintro e w4 ⟨hs4,h4⟩;have HB4:=η48 (HB3.out.same (hs4 q HXq.out));have HR4:=η48 (HR3.out.same hs4 HXa.out HXb.out);clear HO2 hs4;rcases h4 with ⟨hz,rfl,h4⟩|⟨hz,x2,rfl,h4⟩
       ·have HT4:=η48 h4;have HA5:=η48 (HR4.out.renew HAB.out false none none)
        have HT5:=η48 ((h4.poke HXa.out HMQ.out 0 (ptW none)).poke HXb.out (by have:=HBB.out;have:=HMQ.out;omega) 0 (ptW none));have f1:=HR4.out.1.free 0;have e1:=HR4.out.1.cell 0;have hb2:=HR4.out.2.out (fun e=>HAB.out e.symm) 0 (.pointer none);have f2:=hb2.free 0;have e2:=hb2.cell 0;clear hb2;have HTw5:=η48 (HTn.out.renew (k:=false) (v:=none) (w:=none) rfl);clear h4 hz;go_wp2_with fail
        go_roundw
        case rel=>exact HDn.out _ _ _ _ _ _ _ _ (by omega) (by omega) HT5.out HTw5.out HA5.out
        case measure=>simp[intOf];omega
       ·exact absurd hz HZ.out
      ·have HO2:=η48 (h3.open2 (by omega) (by omega) xa false)
       rw[HZo.out] at HO2;have c2:=q3V HQ.out (HB3.out.cell 2);have HZ:=η48 hz;clear h3 hz;go_wp2_with fail;refine HO2.out.mono ?_;rintro e w4 ⟨hs4,h4⟩;have HB4:=η48 (HB3.out.same (hs4 q HXq.out));have HR4:=η48 (HR3.out.same hs4 HXa.out HXb.out);clear HO2 hs4;rcases h4 with ⟨hz,rfl,h4⟩|⟨hz,x2,rfl,h4⟩
       ·exact absurd HZ.out hz
       ·have HT4:=η48 h4;have HA5:=η48 (HR4.out.renew HAB.out false (some (x1,xa)) (some (x2,xa)))
        have HT5:=η48 ((h4.poke HXa.out HMQ.out 0 (ptW (some (x1,xa)))).poke HXb.out (by have:=HBB.out;have:=HMQ.out;omega) 0 (ptW (some (x2,xa))));have f1:=HR4.out.1.free 0;have e1:=HR4.out.1.cell 0;have hb2:=HR4.out.2.out (fun e=>HAB.out e.symm) 0 (.pointer (some ⟨x1,0,none⟩));have f2:=hb2.free 0;have e2:=hb2.cell 0;clear hb2;have HTw5:=η48 (HTn.out.renew (k:=false) (v:=(some (x1,xa))) (w:=(some (x2,xa))) rfl);clear h4 hz;go_wp2_with fail
        go_roundw
        case rel=>exact HDn.out _ _ _ _ _ _ _ _ (by omega) (by omega) HT5.out HTw5.out HA5.out
        case measure=>simp[intOf];omega
     ·have HO1:=η48 (HT0.out.open1 (by omega) (by omega) xa true)
      obtain ⟨zo,hzo⟩: ∃zo,q5f bs str xa=zo:=⟨_,rfl⟩
      rw[hzo] at HO1;have HZo:=η48 hzo;clear hzo;clear r1 r2;go_wp2_with fail;refine HO1.out.mono ?_;rintro e w3 ⟨hs3,h3⟩;have HB3:=η48 (HBk.out.same (hs3 q HXq.out));have HR3:=η48 (HR0.out.same hs3 HXa.out HXb.out);clear HO1 hs3;rcases h3 with ⟨hz,rfl,h3⟩|⟨hz,x1,rfl,h3⟩
      ·have HO2:=η48 (h3.open2 (by omega) (by omega) xa true)
       rw[HZo.out] at HO2;have c2:=q3V HQ.out (HB3.out.cell 2);have HZ:=η48 hz;clear h3 hz;go_wp2_with fail;refine HO2.out.mono ?_;rintro e w4 ⟨hs4,h4⟩;have HB4:=η48 (HB3.out.same (hs4 q HXq.out));have HR4:=η48 (HR3.out.same hs4 HXa.out HXb.out);clear HO2 hs4;rcases h4 with ⟨hz,rfl,h4⟩|⟨hz,x2,rfl,h4⟩
       ·have HT4:=η48 h4;have HA5:=η48 (HR4.out.renew HAB.out true none none)
        have HT5:=η48 ((h4.poke HXa.out HMQ.out 1 (ptW none)).poke HXb.out (by have:=HBB.out;have:=HMQ.out;omega) 1 (ptW none));have f1:=HR4.out.1.free 1;have e1:=HR4.out.1.cell 1;have hb2:=HR4.out.2.out (fun e=>HAB.out e.symm) 1 (.pointer none);have f2:=hb2.free 1;have e2:=hb2.cell 1;clear hb2;have HTw5:=η48 (HTn.out.renew (k:=true) (v:=none) (w:=none) rfl);clear h4 hz;go_wp2_with fail
        go_roundw
        case rel=>exact HDn.out _ _ _ _ _ _ _ _ (by omega) (by omega) HT5.out HTw5.out HA5.out
        case measure=>simp[intOf];omega
       ·exact absurd hz HZ.out
      ·have HO2:=η48 (h3.open2 (by omega) (by omega) xa true)
       rw[HZo.out] at HO2;have c2:=q3V HQ.out (HB3.out.cell 2);have HZ:=η48 hz;clear h3 hz;go_wp2_with fail;refine HO2.out.mono ?_;rintro e w4 ⟨hs4,h4⟩;have HB4:=η48 (HB3.out.same (hs4 q HXq.out));have HR4:=η48 (HR3.out.same hs4 HXa.out HXb.out);clear HO2 hs4;rcases h4 with ⟨hz,rfl,h4⟩|⟨hz,x2,rfl,h4⟩
       ·exact absurd HZ.out hz
       ·have HT4:=η48 h4;have HA5:=η48 (HR4.out.renew HAB.out true (some (x1,xa)) (some (x2,xa)))
        have HT5:=η48 ((h4.poke HXa.out HMQ.out 1 (ptW (some (x1,xa)))).poke HXb.out (by have:=HBB.out;have:=HMQ.out;omega) 1 (ptW (some (x2,xa))));have f1:=HR4.out.1.free 1;have e1:=HR4.out.1.cell 1;have hb2:=HR4.out.2.out (fun e=>HAB.out e.symm) 1 (.pointer (some ⟨x1,0,none⟩));have f2:=hb2.free 1;have e2:=hb2.cell 1;clear hb2;have HTw5:=η48 (HTn.out.renew (k:=true) (v:=(some (x1,xa))) (w:=(some (x2,xa))) rfl);clear h4 hz;go_wp2_with fail
        go_roundw
        case rel=>exact HDn.out _ _ _ _ _ _ _ _ (by omega) (by omega) HT5.out HTw5.out HA5.out
        case measure=>simp[intOf];omega
    have d9:(zz==(9:Int))=false:=by simpa using h9
    by_cases h4:4<zz
    ·have d4 :decide ((4:Int)<zz)=true:=decide_eq_true h4
     cases hD:D true with
     | none =>
      have a2:=r2.cell 1;rw[show #[ptW (D false),ptW (D true)][1]? =some (.pointer none) by simp[hD,ptW]] at a2;clear h9 h4;rcases q9h xb with hand|hand
      ·have HO1:=η48 (HT0.out.open1 (by omega) (by omega) xa false)
       obtain ⟨zo,hzo⟩: ∃zo,q5f bs str xa=zo:=⟨_,rfl⟩
       rw[hzo] at HO1;have HZo:=η48 hzo;clear hzo;clear r1 r2;go_wp2_with fail;refine HO1.out.mono ?_;rintro e w3 ⟨hs3,h3⟩;have HB3:=η48 (HBk.out.same (hs3 q HXq.out));have HR3:=η48 (HR0.out.same hs3 HXa.out HXb.out);clear HO1 hs3;rcases h3 with ⟨hz,rfl,h3⟩|⟨hz,x1,rfl,h3⟩
       ·have HO2:=η48 (h3.open2 (by omega) (by omega) xa false)
        rw[HZo.out] at HO2;have c2:=q3V HQ.out (HB3.out.cell 2);have HZ:=η48 hz;clear h3 hz;go_wp2_with fail;refine HO2.out.mono ?_;rintro e w4 ⟨hs4,h4⟩;have HB4:=η48 (HB3.out.same (hs4 q HXq.out));have HR4:=η48 (HR3.out.same hs4 HXa.out HXb.out);clear HO2 hs4;rcases h4 with ⟨hz,rfl,h4⟩|⟨hz,x2,rfl,h4⟩
        ·have HT4:=η48 h4;have HA5:=η48 (HR4.out.renew HAB.out false none none)
         have HT5:=η48 ((h4.poke HXa.out HMQ.out 0 (ptW none)).poke HXb.out (by have:=HBB.out;have:=HMQ.out;omega) 0 (ptW none));have f1:=HR4.out.1.free 0;have e1:=HR4.out.1.cell 0;have hb2:=HR4.out.2.out (fun e=>HAB.out e.symm) 0 (.pointer none);have f2:=hb2.free 0;have e2:=hb2.cell 0;clear hb2;have HTw5:=η48 (HTn.out.renew (k:=false) (v:=none) (w:=none) rfl);clear h4 hz;go_wp2_with fail
         go_roundw
         case rel=>exact HDn.out _ _ _ _ _ _ _ _ (by omega) (by omega) HT5.out HTw5.out HA5.out
         case measure=>simp[intOf];omega
        ·exact absurd hz HZ.out
       ·have HO2:=η48 (h3.open2 (by omega) (by omega) xa false)
        rw[HZo.out] at HO2;have c2:=q3V HQ.out (HB3.out.cell 2);have HZ:=η48 hz;clear h3 hz;go_wp2_with fail;refine HO2.out.mono ?_;rintro e w4 ⟨hs4,h4⟩;have HB4:=η48 (HB3.out.same (hs4 q HXq.out));have HR4:=η48 (HR3.out.same hs4 HXa.out HXb.out);clear HO2 hs4;rcases h4 with ⟨hz,rfl,h4⟩|⟨hz,x2,rfl,h4⟩
        ·exact absurd HZ.out hz
        ·have HT4:=η48 h4;have HA5:=η48 (HR4.out.renew HAB.out false (some (x1,xa)) (some (x2,xa)))
         have HT5:=η48 ((h4.poke HXa.out HMQ.out 0 (ptW (some (x1,xa)))).poke HXb.out (by have:=HBB.out;have:=HMQ.out;omega) 0 (ptW (some (x2,xa))));have f1:=HR4.out.1.free 0;have e1:=HR4.out.1.cell 0;have hb2:=HR4.out.2.out (fun e=>HAB.out e.symm) 0 (.pointer (some ⟨x1,0,none⟩));have f2:=hb2.free 0;have e2:=hb2.cell 0;clear hb2;have HTw5:=η48 (HTn.out.renew (k:=false) (v:=(some (x1,xa))) (w:=(some (x2,xa))) rfl);clear h4 hz;go_wp2_with fail
         go_roundw
         case rel=>exact HDn.out _ _ _ _ _ _ _ _ (by omega) (by omega) HT5.out HTw5.out HA5.out
         case measure=>simp[intOf];omega
      ·have HO1:=η48 (HT0.out.open1 (by omega) (by omega) xa true)
       obtain ⟨zo,hzo⟩: ∃zo,q5f bs str xa=zo:=⟨_,rfl⟩
       rw[hzo] at HO1;have HZo:=η48 hzo;clear hzo;clear r1 r2;go_wp2_with fail;refine HO1.out.mono ?_;rintro e w3 ⟨hs3,h3⟩;have HB3:=η48 (HBk.out.same (hs3 q HXq.out));have HR3:=η48 (HR0.out.same hs3 HXa.out HXb.out);clear HO1 hs3;rcases h3 with ⟨hz,rfl,h3⟩|⟨hz,x1,rfl,h3⟩
       ·have HO2:=η48 (h3.open2 (by omega) (by omega) xa true)
        rw[HZo.out] at HO2;have c2:=q3V HQ.out (HB3.out.cell 2);have HZ:=η48 hz;clear h3 hz;go_wp2_with fail;refine HO2.out.mono ?_;rintro e w4 ⟨hs4,h4⟩;have HB4:=η48 (HB3.out.same (hs4 q HXq.out));have HR4:=η48 (HR3.out.same hs4 HXa.out HXb.out);clear HO2 hs4;rcases h4 with ⟨hz,rfl,h4⟩|⟨hz,x2,rfl,h4⟩
        ·have HT4:=η48 h4;have HA5:=η48 (HR4.out.renew HAB.out true none none)
         have HT5:=η48 ((h4.poke HXa.out HMQ.out 1 (ptW none)).poke HXb.out (by have:=HBB.out;have:=HMQ.out;omega) 1 (ptW none));have f1:=HR4.out.1.free 1;have e1:=HR4.out.1.cell 1;have hb2:=HR4.out.2.out (fun e=>HAB.out e.symm) 1 (.pointer none);have f2:=hb2.free 1;have e2:=hb2.cell 1;clear hb2;have HTw5:=η48 (HTn.out.renew (k:=true) (v:=none) (w:=none) rfl);clear h4 hz;go_wp2_with fail
         go_roundw
         case rel=>exact HDn.out _ _ _ _ _ _ _ _ (by omega) (by omega) HT5.out HTw5.out HA5.out
         case measure=>simp[intOf];omega
        ·exact absurd hz HZ.out
       ·have HO2:=η48 (h3.open2 (by omega) (by omega) xa true)
        rw[HZo.out] at HO2;have c2:=q3V HQ.out (HB3.out.cell 2);have HZ:=η48 hz;clear h3 hz;go_wp2_with fail;refine HO2.out.mono ?_;rintro e w4 ⟨hs4,h4⟩;have HB4:=η48 (HB3.out.same (hs4 q HXq.out));have HR4:=η48 (HR3.out.same hs4 HXa.out HXb.out);clear HO2 hs4;rcases h4 with ⟨hz,rfl,h4⟩|⟨hz,x2,rfl,h4⟩
        ·exact absurd HZ.out hz
        ·have HT4:=η48 h4;have HA5:=η48 (HR4.out.renew HAB.out true (some (x1,xa)) (some (x2,xa)))
         have HT5:=η48 ((h4.poke HXa.out HMQ.out 1 (ptW (some (x1,xa)))).poke HXb.out (by have:=HBB.out;have:=HMQ.out;omega) 1 (ptW (some (x2,xa))));have f1:=HR4.out.1.free 1;have e1:=HR4.out.1.cell 1;have hb2:=HR4.out.2.out (fun e=>HAB.out e.symm) 1 (.pointer (some ⟨x1,0,none⟩));have f2:=hb2.free 1;have e2:=hb2.cell 1;clear hb2;have HTw5:=η48 (HTn.out.renew (k:=true) (v:=(some (x1,xa))) (w:=(some (x2,xa))) rfl);clear h4 hz;go_wp2_with fail
         go_roundw
         case rel=>exact HDn.out _ _ _ _ _ _ _ _ (by omega) (by omega) HT5.out HTw5.out HA5.out
         case measure=>simp[intOf];omega
     | some v=>
      obtain ⟨y,t⟩:=v;have e2:=r2.cell 1;rw[show #[ptW (D false),ptW (D true)][1]? =some (.pointer (some ⟨y,0,none⟩)) by simp[hD,ptW]] at e2;by_cases h8:8<zz
      ·have d8:decide ((8:Int)<zz)=true:=decide_eq_true h8
       clear h9 h4 h8;have HO1:=η48 (HT0.out.app1 HM86.out HRoom.out (by omega) HEv.out HSh.out HWe.out);obtain ⟨y1,y2,hy⟩: ∃y1 y2,apN bs str L=(y1,y2):=⟨_,_,rfl⟩
       rw[hy] at HO1;simp only at HO1;go_wp2_with fail;refine HO1.out.mono ?_;rintro e w3 ⟨rfl,h3,hs3⟩;have HB3:=η48 (HBk.out.same (hs3 q HXq.out));have HR3:=η48 (HR0.out.same hs3 HXa.out HXb.out);have HO2:=η48 (h3.app2 (by omega) (by omega) HEv.out HSh.out HWe.out);rw[hy] at HO2;simp only at HO2;have c4:=q3V HQ.out (HB3.out.cell 4);clear HO1 hs3 h3 hy;go_wp2_with fail;refine HO2.out.mono ?_;rintro e w4 ⟨rfl,hs4,vL',vM',h4⟩;have HR4:=η48 (HR3.out.same hs4 HXa.out HXb.out);have HT4:=η48 h4;clear HO2 hs4 h4;go_wp2_with fail
       go_roundw
       case rel=>exact HDn.out _ _ _ _ _ _ _ _ (by omega) (by omega) HT4.out HTn.out HR4.out
       case measure=>simp[intOf];omega
      ·have d8:decide ((8:Int)<zz)=false:=decide_eq_false h8
       clear h9 h4 h8;obtain ⟨x1,hP⟩:=HTn.out.some hD;have a1:=r1.cell 1;have a2:=r2.cell 1;have HO1:=η48 ((HT0.out.grow (Ext.refl _).drew).write1 HM86.out HRoom.out (by omega) hP HEv.out (by omega) HSh.out HWe.out);obtain ⟨y1,y2,y3,hy⟩: ∃y1 y2 y3,wrN bs str t L=(y1,y2,y3):=⟨_,_,_,rfl⟩
       rw[hy] at HO1;simp only at HO1;rw[show #[ptW (P false),ptW (P true)][1]? =some (.pointer (some ⟨x1,0,none⟩)) by simp[hP,ptW]] at a1;rw[show #[ptW (D false),ptW (D true)][1]? =some (.pointer (some ⟨y,0,none⟩)) by simp[hD,ptW]] at a2;have d1:=q0A (Ext.refl _).drew a1;have c4:=q3V HQ.out (HBk.out.cell 4);have d4:=q0A (Ext.refl _).drew c4;clear r1 r2;go_wp2_with fail
       go_region_held3 (fun W=>W.cell? ⟨ba,1,none⟩=some (.pointer (some ⟨x1,0,none⟩))∧W.cell? ⟨wr.heap.size,4,none⟩=some (.slice eao en ecap))
        (first|exact HC3.out|exact ⟨d1,d4⟩)
        (first|(go_at_call 14;refine (HO1.out).mono ?_;rintro e w3 ⟨rfl,h3,hs3⟩;have HB3:=η48 (HBk.out.same (hs3 q HXq.out));have HR3:=η48 (HR0.out.same hs3 HXa.out HXb.out);have HT3:=η48 h3;have HC3:Hid (w3.cell? ⟨ba,1,none⟩=some (.pointer (some ⟨x1,0,none⟩))∧w3.cell? ⟨wr.heap.size,4,none⟩=some (.slice eao en ecap)):=η48 ⟨(World.cell?_of_block (a:=⟨ba,1,none⟩) (hs3 ba HXa.out)).trans a1,q3V HQ.out ((HB3.out).cell 4)⟩;clear h3 hs3))
       have HO2:=η48 ((HT3.out.grow (Ext.refl _).drew).write2 (by omega) (by omega) hD HEv.out (by omega) HSh.out HWe.out);rw[hy] at HO2;simp only at HO2;have b2:=HR3.out.2.cell 1;rw[show #[ptW (D false),ptW (D true)][1]? =some (.pointer (some ⟨y,0,none⟩)) by simp[hD,ptW]] at b2;have c5:=q3V HQ.out (HB3.out.cell 4);have d2:=q0A (Ext.refl _).drew b2;have d5:=q0A (Ext.refl _).drew c5;have HC0:=η48 hD;have HP0:=η48 hP;clear HC3 d1 d4 a1 c4 HO1;go_wp2_with fail
       go_region_held3 (fun W=>W.cell? ⟨bb,1,none⟩=some (.pointer (some ⟨y,0,none⟩))∧W.cell? ⟨wr.heap.size,4,none⟩=some (.slice eao en ecap))
        (first|exact HC4.out|exact ⟨d2,d5⟩)
        (first|(go_at_call 15;refine (HO2.out).mono ?_;rintro e w4 ⟨rfl,hs4,vL',vM',h4⟩;have HB4:=η48 (HB3.out.same (hs4 q HXq.out));have HR4:=η48 (HR3.out.same hs4 HXa.out HXb.out);have HT4:=η48 h4;have HC4:Hid (w4.cell? ⟨bb,1,none⟩=some (.pointer (some ⟨y,0,none⟩))∧w4.cell? ⟨wr.heap.size,4,none⟩=some (.slice eao en ecap)):=η48 ⟨(World.cell?_of_block (a:=⟨bb,1,none⟩) (hs4 bb HXb.out)).trans b2,q3V HQ.out ((HB4.out).cell 4)⟩;clear h4 hs4))
       have g1:=HR4.out.1.cell 1;rw[show #[ptW (P false),ptW (P true)][1]? =some (.pointer (some ⟨x1,0,none⟩)) by simp[hP,ptW]] at g1;obtain ⟨g2,_⟩:=HC4.out;have hpi:=HT4.out.pI true _ _ (q3M _ _ _);have hdi:=HT4.out.dI true _ _ (q3M _ _ _);have g3:=hdi.1.cell 2;have HAt:=η48 (fun (x:ExtOf w4)=>(z7L (WrI.same hpi.1 (x.h.block _ hpi.1.lt))).mono fun e w' ⟨(h1:e=_),h2⟩=>(⟨h1,h2▸Ext.refl _⟩:_∧Ext x.w' w'));have HAr4:=η48 (HR4.out.put (fun j=>q9d (t:=wrA bs str t L) hP j) (fun j=>q9d (t:=wrA bs str t L) hD j));have HTw4:Hid (Twin (upd P true (some (x1,wrA bs str t L))) (upd D true (some (y,wrA bs str t L)))):=η48 (HTn.out.renew rfl);obtain ⟨aw,haw⟩: ∃aw,wrA bs str t L=aw:=⟨_,rfl⟩
       rw[haw] at g3 HAt;have u1:=q0D g1;have u2:=q0D g2;have u3:=q0D g3;clear HC4 d2 d5 b2 c5 HO2 hpi hdi hP hD g1 g2 g3 haw hy;go_wp2_with fail;refine q0E (by kernel_rfl) (by kernel_rfl) ?_
       repeat (go_big_quiet_step (fail))
       go_big_quiet_step (exact Calls.quiet_ext (HAt.out _))
       repeat (go_big_quiet_step (fail))
       refine wpQuiet_nil ?_;intro w5 hw5;have HT5:=η48 (HT4.out.grow hw5);have HR5:Hid (Ars w5 ba bb _ _):=η48 (HAr4.out.same (X:=X) (fun i hi=>hw5.block i (HT4.out.lt (.inr (.inr (.inr hi))))) HXa.out HXb.out);clear hw5 u1 u2 u3;go_wp2_with fail
       go_roundw
       case rel=>exact HDn.out _ _ _ _ _ _ _ _ (by omega) (by omega) HT5.out HTw4.out HR5.out
       case measure=>simp[intOf];omega
    ·have d4 :decide ((4:Int)<zz)=false:=decide_eq_false h4
     have d8:decide ((8:Int)<zz)=false:=decide_eq_false (by omega)
     cases hD:D false with
     | none =>
      have a2:=r2.cell 0;rw[show #[ptW (D false),ptW (D true)][0]? =some (.pointer none) by simp[hD,ptW]] at a2;clear h9 h4;rcases q9h xb with hand|hand
      ·have HO1:=η48 (HT0.out.open1 (by omega) (by omega) xa false)
       obtain ⟨zo,hzo⟩: ∃zo,q5f bs str xa=zo:=⟨_,rfl⟩
       rw[hzo] at HO1;have HZo:=η48 hzo;clear hzo;clear r1 r2;go_wp2_with fail;refine HO1.out.mono ?_;rintro e w3 ⟨hs3,h3⟩;have HB3:=η48 (HBk.out.same (hs3 q HXq.out));have HR3:=η48 (HR0.out.same hs3 HXa.out HXb.out);clear HO1 hs3;rcases h3 with ⟨hz,rfl,h3⟩|⟨hz,x1,rfl,h3⟩
       ·have HO2:=η48 (h3.open2 (by omega) (by omega) xa false)
        rw[HZo.out] at HO2;have c2:=q3V HQ.out (HB3.out.cell 2);have HZ:=η48 hz;clear h3 hz;go_wp2_with fail;refine HO2.out.mono ?_;rintro e w4 ⟨hs4,h4⟩;have HB4:=η48 (HB3.out.same (hs4 q HXq.out));have HR4:=η48 (HR3.out.same hs4 HXa.out HXb.out);clear HO2 hs4;rcases h4 with ⟨hz,rfl,h4⟩|⟨hz,x2,rfl,h4⟩
        ·have HT4:=η48 h4;have HA5:=η48 (HR4.out.renew HAB.out false none none)
         have HT5:=η48 ((h4.poke HXa.out HMQ.out 0 (ptW none)).poke HXb.out (by have:=HBB.out;have:=HMQ.out;omega) 0 (ptW none));have f1:=HR4.out.1.free 0;have e1:=HR4.out.1.cell 0;have hb2:=HR4.out.2.out (fun e=>HAB.out e.symm) 0 (.pointer none);have f2:=hb2.free 0;have e2:=hb2.cell 0;clear hb2;have HTw5:=η48 (HTn.out.renew (k:=false) (v:=none) (w:=none) rfl);clear h4 hz;go_wp2_with fail
         go_roundw
         case rel=>exact HDn.out _ _ _ _ _ _ _ _ (by omega) (by omega) HT5.out HTw5.out HA5.out
         case measure=>simp[intOf];omega
        ·exact absurd hz HZ.out
       ·have HO2:=η48 (h3.open2 (by omega) (by omega) xa false)
        rw[HZo.out] at HO2;have c2:=q3V HQ.out (HB3.out.cell 2);have HZ:=η48 hz;clear h3 hz;go_wp2_with fail;refine HO2.out.mono ?_;rintro e w4 ⟨hs4,h4⟩;have HB4:=η48 (HB3.out.same (hs4 q HXq.out));have HR4:=η48 (HR3.out.same hs4 HXa.out HXb.out);clear HO2 hs4;rcases h4 with ⟨hz,rfl,h4⟩|⟨hz,x2,rfl,h4⟩
        ·exact absurd HZ.out hz
        ·have HT4:=η48 h4;have HA5:=η48 (HR4.out.renew HAB.out false (some (x1,xa)) (some (x2,xa)))
         have HT5:=η48 ((h4.poke HXa.out HMQ.out 0 (ptW (some (x1,xa)))).poke HXb.out (by have:=HBB.out;have:=HMQ.out;omega) 0 (ptW (some (x2,xa))));have f1:=HR4.out.1.free 0;have e1:=HR4.out.1.cell 0;have hb2:=HR4.out.2.out (fun e=>HAB.out e.symm) 0 (.pointer (some ⟨x1,0,none⟩));have f2:=hb2.free 0;have e2:=hb2.cell 0;clear hb2;have HTw5:=η48 (HTn.out.renew (k:=false) (v:=(some (x1,xa))) (w:=(some (x2,xa))) rfl);clear h4 hz;go_wp2_with fail
         go_roundw
         case rel=>exact HDn.out _ _ _ _ _ _ _ _ (by omega) (by omega) HT5.out HTw5.out HA5.out
         case measure=>simp[intOf];omega
      ·have HO1:=η48 (HT0.out.open1 (by omega) (by omega) xa true)
       obtain ⟨zo,hzo⟩: ∃zo,q5f bs str xa=zo:=⟨_,rfl⟩
       rw[hzo] at HO1;have HZo:=η48 hzo;clear hzo;clear r1 r2;go_wp2_with fail;refine HO1.out.mono ?_;rintro e w3 ⟨hs3,h3⟩;have HB3:=η48 (HBk.out.same (hs3 q HXq.out));have HR3:=η48 (HR0.out.same hs3 HXa.out HXb.out);clear HO1 hs3;rcases h3 with ⟨hz,rfl,h3⟩|⟨hz,x1,rfl,h3⟩
       ·have HO2:=η48 (h3.open2 (by omega) (by omega) xa true)
        rw[HZo.out] at HO2;have c2:=q3V HQ.out (HB3.out.cell 2);have HZ:=η48 hz;clear h3 hz;go_wp2_with fail;refine HO2.out.mono ?_;rintro e w4 ⟨hs4,h4⟩;have HB4:=η48 (HB3.out.same (hs4 q HXq.out));have HR4:=η48 (HR3.out.same hs4 HXa.out HXb.out);clear HO2 hs4;rcases h4 with ⟨hz,rfl,h4⟩|⟨hz,x2,rfl,h4⟩
        ·have HT4:=η48 h4;have HA5:=η48 (HR4.out.renew HAB.out true none none)
         have HT5:=η48 ((h4.poke HXa.out HMQ.out 1 (ptW none)).poke HXb.out (by have:=HBB.out;have:=HMQ.out;omega) 1 (ptW none));have f1:=HR4.out.1.free 1;have e1:=HR4.out.1.cell 1;have hb2:=HR4.out.2.out (fun e=>HAB.out e.symm) 1 (.pointer none);have f2:=hb2.free 1;have e2:=hb2.cell 1;clear hb2;have HTw5:=η48 (HTn.out.renew (k:=true) (v:=none) (w:=none) rfl);clear h4 hz;go_wp2_with fail
         go_roundw
         case rel=>exact HDn.out _ _ _ _ _ _ _ _ (by omega) (by omega) HT5.out HTw5.out HA5.out
         case measure=>simp[intOf];omega
        ·exact absurd hz HZ.out
       ·have HO2:=η48 (h3.open2 (by omega) (by omega) xa true)
        rw[HZo.out] at HO2;have c2:=q3V HQ.out (HB3.out.cell 2);have HZ:=η48 hz;clear h3 hz;go_wp2_with fail;refine HO2.out.mono ?_;rintro e w4 ⟨hs4,h4⟩;have HB4:=η48 (HB3.out.same (hs4 q HXq.out));have HR4:=η48 (HR3.out.same hs4 HXa.out HXb.out);clear HO2 hs4;rcases h4 with ⟨hz,rfl,h4⟩|⟨hz,x2,rfl,h4⟩
        ·exact absurd HZ.out hz
        ·have HT4:=η48 h4;have HA5:=η48 (HR4.out.renew HAB.out true (some (x1,xa)) (some (x2,xa)))
         have HT5:=η48 ((h4.poke HXa.out HMQ.out 1 (ptW (some (x1,xa)))).poke HXb.out (by have:=HBB.out;have:=HMQ.out;omega) 1 (ptW (some (x2,xa))));have f1:=HR4.out.1.free 1;have e1:=HR4.out.1.cell 1;have hb2:=HR4.out.2.out (fun e=>HAB.out e.symm) 1 (.pointer (some ⟨x1,0,none⟩));have f2:=hb2.free 1;have e2:=hb2.cell 1;clear hb2;have HTw5:=η48 (HTn.out.renew (k:=true) (v:=(some (x1,xa))) (w:=(some (x2,xa))) rfl);clear h4 hz;go_wp2_with fail
         go_roundw
         case rel=>exact HDn.out _ _ _ _ _ _ _ _ (by omega) (by omega) HT5.out HTw5.out HA5.out
         case measure=>simp[intOf];omega
     | some v=>
      obtain ⟨y,t⟩:=v;have e2:=r2.cell 0;rw[show #[ptW (D false),ptW (D true)][0]? =some (.pointer (some ⟨y,0,none⟩)) by simp[hD,ptW]] at e2;clear h9 h4;obtain ⟨x1,hP⟩:=HTn.out.some hD;have a1:=r1.cell 0;have a2:=r2.cell 0;have HO1:=η48 ((HT0.out.grow (Ext.refl _).drew).write1 HM86.out HRoom.out (by omega) hP HEv.out (by omega) HSh.out HWe.out);obtain ⟨y1,y2,y3,hy⟩: ∃y1 y2 y3,wrN bs str t L=(y1,y2,y3):=⟨_,_,_,rfl⟩
      rw[hy] at HO1;simp only at HO1;rw[show #[ptW (P false),ptW (P true)][0]? =some (.pointer (some ⟨x1,0,none⟩)) by simp[hP,ptW]] at a1;rw[show #[ptW (D false),ptW (D true)][0]? =some (.pointer (some ⟨y,0,none⟩)) by simp[hD,ptW]] at a2;have d1:=q0A (Ext.refl _).drew a1;have c4:=q3V HQ.out (HBk.out.cell 4);have d4:=q0A (Ext.refl _).drew c4;clear r1 r2;go_wp2_with fail
      go_region_held3 (fun W=>W.cell? ⟨ba,0,none⟩=some (.pointer (some ⟨x1,0,none⟩))∧W.cell? ⟨wr.heap.size,4,none⟩=some (.slice eao en ecap))
       (first|exact HC3.out|exact ⟨d1,d4⟩)
       (first|(go_at_call 14;refine (HO1.out).mono ?_;rintro e w3 ⟨rfl,h3,hs3⟩;have HB3:=η48 (HBk.out.same (hs3 q HXq.out));have HR3:=η48 (HR0.out.same hs3 HXa.out HXb.out);have HT3:=η48 h3;have HC3:Hid (w3.cell? ⟨ba,0,none⟩=some (.pointer (some ⟨x1,0,none⟩))∧w3.cell? ⟨wr.heap.size,4,none⟩=some (.slice eao en ecap)):=η48 ⟨(World.cell?_of_block (a:=⟨ba,0,none⟩) (hs3 ba HXa.out)).trans a1,q3V HQ.out ((HB3.out).cell 4)⟩;clear h3 hs3))
      have HO2:=η48 ((HT3.out.grow (Ext.refl _).drew).write2 (by omega) (by omega) hD HEv.out (by omega) HSh.out HWe.out);rw[hy] at HO2;simp only at HO2;have b2:=HR3.out.2.cell 0;rw[show #[ptW (D false),ptW (D true)][0]? =some (.pointer (some ⟨y,0,none⟩)) by simp[hD,ptW]] at b2;have c5:=q3V HQ.out (HB3.out.cell 4);have d2:=q0A (Ext.refl _).drew b2;have d5:=q0A (Ext.refl _).drew c5;have HC0:=η48 hD;have HP0:=η48 hP;clear HC3 d1 d4 a1 c4 HO1;go_wp2_with fail
      go_region_held3 (fun W=>W.cell? ⟨bb,0,none⟩=some (.pointer (some ⟨y,0,none⟩))∧W.cell? ⟨wr.heap.size,4,none⟩=some (.slice eao en ecap))
       (first|exact HC4.out|exact ⟨d2,d5⟩)
       (first|(go_at_call 15;refine (HO2.out).mono ?_;rintro e w4 ⟨rfl,hs4,vL',vM',h4⟩;have HB4:=η48 (HB3.out.same (hs4 q HXq.out));have HR4:=η48 (HR3.out.same hs4 HXa.out HXb.out);have HT4:=η48 h4;have HC4:Hid (w4.cell? ⟨bb,0,none⟩=some (.pointer (some ⟨y,0,none⟩))∧w4.cell? ⟨wr.heap.size,4,none⟩=some (.slice eao en ecap)):=η48 ⟨(World.cell?_of_block (a:=⟨bb,0,none⟩) (hs4 bb HXb.out)).trans b2,q3V HQ.out ((HB4.out).cell 4)⟩;clear h4 hs4))
      have g1:=HR4.out.1.cell 0;rw[show #[ptW (P false),ptW (P true)][0]? =some (.pointer (some ⟨x1,0,none⟩)) by simp[hP,ptW]] at g1;obtain ⟨g2,_⟩:=HC4.out;have hpi:=HT4.out.pI false _ _ (q3M _ _ _);have hdi:=HT4.out.dI false _ _ (q3M _ _ _);have g3:=hdi.1.cell 2;have HAt:=η48 (fun (x:ExtOf w4)=>(z7L (WrI.same hpi.1 (x.h.block _ hpi.1.lt))).mono fun e w' ⟨(h1:e=_),h2⟩=>(⟨h1,h2▸Ext.refl _⟩:_∧Ext x.w' w'));have HAr4:=η48 (HR4.out.put (fun j=>q9d (t:=wrA bs str t L) hP j) (fun j=>q9d (t:=wrA bs str t L) hD j));have HTw4:Hid (Twin (upd P false (some (x1,wrA bs str t L))) (upd D false (some (y,wrA bs str t L)))):=η48 (HTn.out.renew rfl);obtain ⟨aw,haw⟩: ∃aw,wrA bs str t L=aw:=⟨_,rfl⟩
      rw[haw] at g3 HAt;have u1:=q0D g1;have u2:=q0D g2;have u3:=q0D g3;clear HC4 d2 d5 b2 c5 HO2 hpi hdi hP hD g1 g2 g3 haw hy;go_wp2_with fail;refine q0E (by kernel_rfl) (by kernel_rfl) ?_
      repeat (go_big_quiet_step (fail))
      go_big_quiet_step (exact Calls.quiet_ext (HAt.out _))
      repeat (go_big_quiet_step (fail))
      refine wpQuiet_nil ?_;intro w5 hw5;have HT5:=η48 (HT4.out.grow hw5);have HR5:Hid (Ars w5 ba bb _ _):=η48 (HAr4.out.same (X:=X) (fun i hi=>hw5.block i (HT4.out.lt (.inr (.inr (.inr hi))))) HXa.out HXb.out);clear hw5 u1 u2 u3;go_wp2_with fail
      go_roundw
      case rel=>exact HDn.out _ _ _ _ _ _ _ _ (by omega) (by omega) HT5.out HTw4.out HR5.out
      case measure=>simp[intOf];omega
   ·obtain rfl:j=n:=by omega
    have hd:decide ((j:Int)<(j:Int))=false:=decide_eq_false (by omega);have HAl:=η48 (HTw.out.sk.all (by omega));obtain ⟨ms,hmo,_⟩:=HTw.out.mo;obtain ⟨la,lc,rfl⟩:=q0G hmo.rowL;have HMo:=η48 hmo;clear hmo HNg HA1 hlt;go_wp2_with fail;refine HAl.out.mono ?_;rintro e w3 ⟨vA,rfl,h1,h2,h3,h4⟩;obtain ⟨aa,ac,rfl⟩:=q0G h3;have hmo3:=HMo.out.same fun i hi=>h2 i (.inl hi)
    obtain ⟨su,hmb⟩:=hmo3.blk;have k0:=hmb.cell 0;have HTd:=η48 (z9t w3 (q5t h3).1 (q5t hmo3.rowL).1);have HX3:=η48 (HX1.out.trans h1.base);clear h1 h2 h3 h4 hmo3 hmb HAl;go_wp2_with fail;refine HTd.out.mono ?_;rintro e w4 ⟨rfl,hx⟩;have HX4:=η48 (HX3.out.trans hx);clear hx HTd k0;go_wp2_with fail;refine (q7X w4).mono ?_;rintro e w5 ⟨rfl,hx⟩;have HX5:=η48 (HX4.out.trans hx);clear hx;go_wp2_with fail;go_ret;exact ⟨rfl,HX5.out⟩
end
end Go.Proofs.YthdekbmdkpcooaaGreatDoor
