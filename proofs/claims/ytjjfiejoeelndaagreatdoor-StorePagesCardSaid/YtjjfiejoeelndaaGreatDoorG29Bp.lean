/- Walks. -/
import Derived.Test.YtjjfiejoeelndaaGreatDoorChecked
import Derived.Test.YtjjfiejoeelndaaGreatDoorG1Bp
import Derived.WalkSpells
set_option linter.unusedVariables false
set_option linter.unusedSimpArgs false
set_option maxRecDepth 100000
set_option maxHeartbeats 1600000
namespace Go.Proofs.YtjjfiejoeelndaaGreatDoor
theorem η29 {p:Prop} (h:p):Go.RowKit.Hid p:=Lib.hid h
section
open Go.RowKit
theorem Tryz.infoInt :(Tryz.prog.info? 3).map (fun i=>(i.zero,i.size,i.bytes))=some (some (.int .i64 0),1,8):=by kernel_rfl
theorem Tryz.infoInts :(Tryz.prog.info? 55).map (fun i=>(i.zero,i.size,i.bytes))=some (some (.slice none 0 0),1,24):=by kernel_rfl
theorem y3q (n:Nat) (w:World) (hn:n≤17592186044416):
  Calls Tryz.prog 185 #[.slice none 0 0,.int .i64 n] w (y3w 3 w []):=by
 by_cases h0:n=0
 ·subst h0
  go_enter Tryz.func185,Tryz.ntmps185;go_wp2_with fail;go_ret;exact ⟨_,rfl,Own.nil _ _ _ _,Ext.refl _⟩
 ·have h1:0<n:=by omega
  obtain ⟨i,hi,hz,hsize,hby⟩:=info_parts Tryz.infoInt;have hr:=Lib.run_append_nil_zeros (P:=Tryz.prog) w 55 3 55 3 i (.int .i64 0) .i64 .i64 Tryz.underlying55 Tryz.underlying3 hi hz n h1 (by omega) (by omega) (by rw[hby];omega);have HR:=η29 hr;clear hr;have Hge:=η29 (grownCap_ge w n 0 3);have Hle:=η29 (grownCap_le_maxLen w n 0 3 (by unfold maxLen;omega));have HS:=η29 hsize;clear hi hz hsize hby;go_enter Tryz.func185,Tryz.ntmps185
  go_wp2_with (at_builtin;refine Lib.wpList_append_run _ rfl _ _ _ _ rfl _ _ rfl rfl _ _ HR.out ?_)
  go_ret;refine ⟨_,rfl,Own.of_row ⟨rfl,.inr ⟨w.heap.size,grownCap w n 0 3,_,rfl,Nat.le_refl _,heap_alloc_new w.drew _,Nat.zero_le _,Hle.out,?_,rfl⟩⟩,(Ext.refl w).drew.alloc _⟩;have:=Hge.out;simp[size_zeroCells];omega
theorem y0O (ao:Option Addr) (n cap:Nat) (L:List (List Int)) (w:World) (hx:Grid w ao n cap L) (hsum:L.flatten.length≤17592186044416):
  Calls Tryz.prog 129 #[.slice ao n cap] w (y3w 3 w L.flatten):=by
 have Hx:=η29 hx;have b1:=hx.fits;have b2:=hx.bound;clear hx;go_enter Tryz.func129,Tryz.ntmps129;go_wp2_with fail
 go_loopw [3,11] (fun s i w'=> ∃k:Nat,k≤n∧i= .int .i64 k∧s= .int .i64 (L.take k).flatten.length∧Ext w w') (fun _ i _=>n-(intOf i).toNat)
 case atStart=>exact ⟨0,Nat.zero_le _,rfl,rfl,Ext.refl _⟩
 case round=>
  obtain ⟨k,hk,rfl,rfl,hb⟩:=hrel;have Hb:=η29 hb;clear hb;by_cases hlt:k<n
  ·obtain ⟨b,off,ai,ni,ci,rfl,c1,r1⟩:=(Hx.out.ext Hb.out).at hlt
   have R1:=η29 r1;clear r1;have hkl:k<L.length:=by rw[Hx.out.len];exact hlt
   have hs:=q2i L k hkl;have hle:=q1r L (k+1);have hlen:(L.take k).flatten.length+ni=(L.take (k+1)).flatten.length:=by rw[hs,List.length_append,R1.out.len]
   have HL:=η29 hlen;have g1:(L.take k).flatten.length+ni≤17592186044416:=by omega
   clear hs hle hlen;generalize (L.take k).flatten.length=F at*;go_wp2_with fail
   go_roundw
   case rel=>exact ⟨k+1,by omega,by go_num,by rw[←HL.out];go_num,Hb.out⟩
   case measure=>simp[intOf];omega
  ·have hk2:L.take k=L:=List.take_of_length_le (by have:=Hx.out.len;omega)
   have HK:=η29 hk2;have hF:(L.take k).flatten.length=L.flatten.length:=by rw[hk2]
   rw[hF];clear hk2 hF;generalize hF:L.flatten.length=F at*;have HF:=η29 hF;clear hF
   go_wp2_with (go_at_call 185;(with_reducible refine (y3q F _ (by omega)).mono ?_);rintro e w1 ⟨v1,rfl,hown,hb1⟩)
   have HB:=η29 (Hb.out.trans hb1);have hown0:Own w1 w.heap.size 3 1 v1 0 []:=hown.base Hb.out.size;have HO:=η29 hown0;clear hown hown0 hb1 Hb
   go_loopw [6,27] (fun v i w'=> ∃k:Nat,k≤n∧i= .int .i64 k∧Own w' w.heap.size 3 1 v (L.take k).flatten.length ((L.take k).flatten.map (Value.int .i64))∧Ext w w') (fun _ i _=>n-(intOf i).toNat)
   case atStart=>exact ⟨0,Nat.zero_le _,rfl,HO.out,HB.out⟩
   case round=>
    clear HO HB;obtain ⟨k,hk,rfl,hown,hb⟩:=hrel;have Hb:=η29 hb;clear hb;have Hown:=η29 hown;clear hown;by_cases hlt:k<n
    ·obtain ⟨b,off,ai,ni,ci,rfl,c1,r1⟩:=(Hx.out.ext Hb.out).at hlt
     have R1:=η29 r1;clear r1;have hkl:k<L.length:=by rw[Hx.out.len];exact hlt
     have hs:=q2i L k hkl;have hle:=q1r L (k+1);have hlen:(L.take k).flatten.length+ni=(L.take (k+1)).flatten.length:=by rw[hs,List.length_append,R1.out.len]
     have HS:=η29 hs;clear hs;have HL:=η29 hlen;clear hlen;have HFF:=HF.out;have hle2:(L.take (k+1)).flatten.length≤F:=by omega
     clear HFF hle
     go_wp2_with (at_builtin;refine q0R rfl _ _ 55 rfl w.heap.size 3 _ 1 8 Tryz.underlying55 Tryz.infoInt rfl (by decide) _ _ _ rfl Hown.out _ _ _ ((L.getD k []).map (Value.int .i64)) rfl (by rw[List.length_map,R1.out.len];omega) R1.out.nil R1.out.rd (ints_oneCell _ _) (by have:=HL.out;omega) (by have:=HL.out;omega) Hb.out.size ?_;intro v' w2 hown' hg _)
     have hb1:=q0p Hb.out Hown.out hg Hb.out.size;have HB1:=η29 hb1;clear hb1;rw[←List.map_append,←HS.out,HL.out] at hown';have HO:=η29 hown';clear hown' hg;go_wp2_with fail
     go_roundw
     case rel=>exact ⟨k+1,by omega,by go_num,HO.out,HB1.out⟩
     case measure=>simp[intOf];omega
    ·have hk2:L.take k=L:=List.take_of_length_le (by have:=Hx.out.len;omega)
     have HK:=η29 hk2;clear hk2;go_wp2_with fail;go_ret;exact ⟨_,rfl,by have:=Hown.out;rw[HK.out] at this;exact this,Hb.out⟩
theorem z2R (ao:Option Addr) (n cap:Nat) (L:List (List Int)) (w:World) (hx:Grid w ao n cap L) (hsum:L.flatten.length≤17592186044416):
  Calls Tryz.prog 72 #[.slice ao n cap] w (y3w 3 w L.flatten):=by
 have Hx:=η29 hx;clear hx;go_enter Tryz.func72,Tryz.ntmps72
 go_wp2_with (go_at_call 129;(with_reducible refine (y0O _ _ _ L _ Hx.out hsum).mono ?_);rintro e w1 ⟨v1,rfl,hown,hb1⟩)
 go_ret;exact ⟨_,rfl,by assumption,by assumption⟩
end
section
open Go.RowKit
theorem Rd.none {w:World} {cs:List Value} (h:Rd w none cs):cs=[]:=by
 cases cs with
 |nil=>rfl
 |cons y ys=>obtain ⟨b,off,e,_⟩:=h 0 y rfl;cases e
theorem z7D (ao:Option Addr) (n cap:Nat) (xs:List Int) (w:World) (hx:Ints w ao n cap xs) (hs:n≤17592186044416):
  Calls Tryz.prog 165 #[.slice ao n cap] w (y3w 3 w xs):=by
 have Hx:=η29 hx;have b1:=hx.fits;have b2:=hx.bound;have hl:=hx.len;have hnil:=hx.nil;have hq:=fun (w:World) (a:Option Addr) (n c n' c':Nat)=>Lib.run_eql_slice_nil (P:=Tryz.prog) w 55 3 a n c n' c' Tryz.underlying55
 cases ao with
 | none=>
  have h0:xs=[]:=by simpa using hx.rd.none
  have hc:=hnil rfl;subst h0 hc;obtain rfl:n=0:=by omega
  clear hx hl hnil;go_enter Tryz.func165,Tryz.ntmps165;go_wp2_with fail;go_ret;exact ⟨_,rfl,Own.nil _ _ _ _,Ext.refl _⟩
 | some a=>
  have HL:=η29 hl;clear hx hl hnil;go_enter Tryz.func165,Tryz.ntmps165
  go_wp2_with (at_builtin;refine q0R rfl _ _ 55 rfl w.heap.size 3 _ 1 8 Tryz.underlying55 Tryz.infoInt rfl (by decide) _ _ _ rfl (Own.lit w #[] 3 1 0 (Nat.le_refl _) rfl (by omega)) _ _ _ (xs.map (Value.int .i64)) rfl (by rw[List.length_map,HL.out];omega) (fun h=>by cases h) (Hx.out.rd.ext ((Ext.refl w).alloc _)) (ints_oneCell _ _) (by omega) (by omega) (by simp) ?_;intro v' w1 hown' hg _)
  have hb:=q0p ((Ext.refl w).alloc (.cells #[] 3)) (Own.lit w #[] 3 1 0 (Nat.le_refl _) rfl (by omega)) hg (by simp);have HB:=η29 hb;have HO:=η29 hown';clear hb hown' hg;go_wp2_with fail;go_ret;exact ⟨_,rfl,by have:=HO.out;rw[HL.out];simpa using this,HB.out⟩
theorem y0r (ao:Option Addr) (n cap:Nat) (w:World) (h:n≤cap) (_hb:cap≤9223372036854775807):
  Calls Tryz.prog 199 #[.slice ao n cap] w fun e w'=>e= .returned (.slice ao n n)∧w=w':=by
 go_enter Tryz.func199,Tryz.ntmps199;go_wp2_with fail;go_ret;exact ⟨rfl,rfl⟩
theorem z7x (ao:Option Addr) (n cap:Nat) (L:List (List Int)) (w:World) (hx:Grid w ao n cap L) (hs: ∀i,(L.getD i []).length≤17592186044416) (hn:n≤1000000000):
  Calls Tryz.prog 160 #[.slice ao n cap] w (y4U 55 3 w (q0O L)):=by
 have Hx:=η29 hx;have b1:=hx.fits;have b2:=hx.bound;clear hx;go_enter Tryz.func160,Tryz.ntmps160;go_wp2_with fail
 go_loopw [3,8] (fun v i w'=> ∃k:Nat,k≤n∧i= .int .i64 k∧(∃vs,OGr w' w.heap.size 55 3 v vs (L.take k))∧Ext w w') (fun _ i _=>n-(intOf i).toNat)
 case atStart=>exact ⟨0,Nat.zero_le _,rfl,⟨[],OGr.nil _ _ _ _⟩,Ext.refl _⟩
 case round =>
  obtain ⟨k,hk,rfl,⟨vs,hown⟩,hb⟩:=hrel;have Hb:=η29 hb;clear hb;have Hown:=η29 hown;clear hown;by_cases hlt:k<n
  ·obtain ⟨b,off,ai,ni,ci,rfl,c1,r1⟩:=(Hx.out.ext Hb.out).at hlt
   have hkl:k<L.length:=by rw[Hx.out.len];exact hlt
   have hni:ni≤17592186044416:=by have:=r1.len;have:=hs k;omega
   have htk:=q0U L [] k hkl;generalize L.getD k []=R at*;have R1:=η29 r1;clear r1;have HTK:=η29 htk;clear htk;go_wp2_with fail;refine (z7D _ _ _ R _ R1.out hni).mono ?_;rintro e w1 ⟨vi,rfl,hvi,hb1⟩;obtain ⟨ai',ci',rfl⟩:=hvi.slice;have HV:=η29 hvi;have HB1:=η29 hb1;have hsz:=hb1.size;have hsz0:=Hb.out.size;clear hvi hb1;have hlk:(L.take k).length=k:=by simp;omega
   have HLK:=η29 hlk;clear hlk;have hout:OGr (w1.alloc (.cells #[.slice ai' R.length ci'] 55)) w.heap.size 55 3 u3 vs (L.take k):=(Hown.out.ext HB1.out).ext ((Ext.refl _).alloc _);have HOut:=η29 hout;clear hout
   go_wp2_with (at_builtin;refine q0R rfl _ _ 79 rfl w.heap.size 55 _ 1 24 Tryz.underlying79 Tryz.infoInts rfl (by decide) _ _ _ rfl HOut.out.own _ _ _ [.slice ai' R.length ci'] rfl rfl (fun h=>by cases h) (Rd.lit _ _ _) (by intro u hu;rw[List.mem_singleton.1 hu];rfl) (by rw[HLK.out];omega) (by rw[HLK.out];omega) (by simp;omega) ?_;intro v' w2 hown' hg _)
   have hb2:=q0p (Hb.out.trans (HB1.out.alloc _)) HOut.out.own hg (by simp;omega);have HB2:=η29 hb2;clear hb2;have hgr:=HOut.out.push (by decide) (HV.out.ext ((Ext.refl _).alloc _)) hsz0 Hown.out.lt hown' hg;rw[←HTK.out] at hgr;have HGR:=η29 hgr;clear hgr hown' hg;go_wp2_with fail
   go_roundw
   case rel=>exact ⟨k+1,by omega,by go_num,⟨_,HGR.out⟩,HB2.out⟩
   case measure=>simp[intOf];omega
  ·have hkn :k=n:=by omega
   have hL:L.take k=L.take n:=by rw[hkn]
   rw[hL] at Hown;clear hL hkn;have hll:=Hx.out.len;have h1:=Hown.out;obtain ⟨ao1,cap1,rfl,_⟩:=h1.grid;have hnn:(L.take n).length=n:=by simp;omega
   rw[hnn] at h1;rw[hnn];have HLL:=η29 hll;clear hll;have H1:=η29 h1;clear h1 hnn Hown;go_wp2_with fail
   go_loopw [3] (fun v w'=> ∃m:Nat,m≤n∧(∃ao c vs,v= .slice ao m c∧OGr w' w.heap.size 55 3 v vs (L.take m))∧q1H L m=q1H L n∧Ext w w') (fun v _=>y3b v)
   case atStart=>exact ⟨n,Nat.le_refl _,⟨_,_,_,rfl,H1.out⟩,rfl,Hb.out⟩
   case round=>
    clear Hb H1 hlt hk;obtain ⟨m,hm,⟨ao2,c2,vs2,rfl,hown⟩,htn,hb⟩:=hrel;have HTN:=η29 htn;clear htn;have Hb:=η29 hb;clear hb;have Hown:=η29 hown;clear hown;have hmm:(L.take m).length=m:=by have:=HLL.out;simp;omega
    have fin: ∀w',Ext w w'→OGr w' w.heap.size 55 3 (.slice ao2 m c2) vs2 (L.take m)→q1H L m=m→y4U 55 3 w (q0O L) (.returned (.slice ao2 m m)) w':=by
     intro w' he hg ht;have hT:q0O L=(L.take m).take m:=by
      rw[q0O,HLL.out,←HTN.out,ht,List.take_take,Nat.min_self]
     refine ⟨_,vs2.take m,rfl,?_,he⟩;rw[hT];obtain ⟨_,_,e,hgr⟩:=hg.grid;rw[hmm] at e
     cases e;exact hg.cut hmm (Nat.le_refl _) (Nat.le_refl _) (by have:=hgr.fits;omega)
    have FIN:=η29 fin;clear fin;have hgr:=Hown.out.grid;obtain ⟨_,_,e,hgr⟩:=hgr;rw[hmm] at e hgr
    cases e;have HGR:=η29 hgr;have f1:=hgr.fits;have f2:=hgr.bound;clear hgr;have HMM:=η29 hmm;clear hmm
    cases m with
    | zero=>
     go_wp2_with (go_at_call 199;(with_reducible refine (y0r _ _ _ _ (by omega) (by omega)).mono ?_);rintro e w1 ⟨rfl,rfl⟩)
     go_ret;exact FIN.out _ Hb.out Hown.out rfl
    | succ m=>
     obtain ⟨b,off,ai,ni,ci,rfl,c1,r1⟩:=HGR.out.at (Nat.lt_succ_self m);have hrow:(L.take (m+1)).getD m []=L.getD m []:=q3y _ _ _ _ (by omega);rw[hrow] at r1;have hR:=r1.len;have g1:=r1.fits;have g2:=r1.bound;have HR:=η29 hR;clear r1 hrow hR;by_cases h0:ni=0
     ·have he:L.getD m []=[]:=List.eq_nil_of_length_eq_zero (by have:=HR.out;omega)
      have HE:=η29 he;clear he;subst h0;go_wp2_with fail
      go_roundw
      case rel=>
       refine ⟨m,by omega,⟨_,_,vs2.take m,rfl,?_⟩,by rw[←q5m L m HE.out];exact HTN.out,Hb.out⟩;have hc:=Hown.out.cut HMM.out (m:=m) (c:=c2) (by omega) (by omega) (Nat.le_refl _);rw[List.take_take,Nat.min_eq_left (by omega)] at hc;exact hc
      case measure=>simp[y3b]
     ·have hne:L.getD m []≠[]:=by intro h;have:=HR.out;rw[h] at this;simp at this;omega
      have hz:((ni:Int)==0)=false:=by simpa using h0
      have HNE:=η29 hne;clear hne h0
      go_wp2_with (go_at_call 199;(with_reducible refine (y0r _ _ _ _ (by omega) (by omega)).mono ?_);rintro e w1 ⟨rfl,rfl⟩)
      go_ret;exact FIN.out _ Hb.out Hown.out (q4O L m HNE.out)
end
section
open Go.RowKit
theorem z0l {α:Type} (p:α→Bool) (d:α) (L:List α) (k:Nat) (h:k<L.length) (h0:(L.take k).any p=false) (h1:p (L.getD k d)=false):(L.take (k+1)).any p=false:=by
 rw[q0U L d k h,List.any_append,h0];simp only[List.any_cons,List.any_nil,h1,Bool.or_self]
theorem z3L {α:Type} (p:α→Bool) (d:α) (L:List α) (k:Nat) (h:k<L.length) (h1:p (L.getD k d)=true):L.any p=true:=by
 rw[List.any_eq_true];refine ⟨L[k],List.getElem_mem h,?_⟩;rw[List.getD_eq_getElem?_getD,List.getElem?_eq_getElem h] at h1;exact h1
theorem z3e {α:Type} (p:α→Bool) (L:List α) (n k:Nat) (hn:L.length=n) (hk:n≤k) (h0:(L.take k).any p=false):L.any p=false:=by
 rwa [List.take_of_length_le (by omega)] at h0
theorem q6q (xs:List Int) (x:Int) (k:Nat) (h:k<xs.length) (h0:x∉xs.take k) (h1:xs.getD k 0≠x):x∉xs.take (k+1):=by
 rw[q0U xs 0 k h,List.mem_append];rintro (h2|h2)
 ·exact h0 h2
 ·exact h1 (List.mem_singleton.1 h2).symm
theorem z3M (xs:List Int) (x:Int) (k:Nat) (h:k<xs.length) (h1:xs.getD k 0=x):x∈xs:=by
 rw[←h1,List.getD_eq_getElem?_getD,List.getElem?_eq_getElem h];exact List.getElem_mem h
theorem q8t (xs:List Int) (x:Int) (n k:Nat) (hn:xs.length=n) (hk:n≤k) (h0:x∉xs.take k):x∉xs:=by
 rwa [List.take_of_length_le (by omega)] at h0
def y1N (xs:List Int) (x:Int):Int:=if x∈xs then (xs.idxOf x:Int) else-1
theorem z9s (xs:List Int) (x:Int) (k:Nat) (h:k<xs.length) (h0:x∉xs.take k) (h1:xs.getD k 0=x):y1N xs x=k:=by
 have hm:=z3M xs x k h h1;rw[y1N,if_pos hm];have e:xs=xs.take k++xs.drop k:=(List.take_append_drop k xs).symm;have e2:xs.drop k=x::xs.drop (k+1):=by
  rw[List.drop_eq_getElem_cons h];rw[List.getD_eq_getElem?_getD,List.getElem?_eq_getElem h] at h1;simp at h1;rw[h1]
 have:xs.idxOf x=k:=by
  rw[e,e2,List.idxOf_append,if_neg h0,List.idxOf_cons_self];simp;omega
 omega
theorem z7u (xs:List Int) (x:Int) (h:x∉xs):y1N xs x= -1:=by rw[y1N,if_neg h]
theorem z8y (xs:List Int) (x:Int):decide (0≤y1N xs x)=decide (x∈xs):=by
 unfold y1N;by_cases h:x∈xs
 ·simp[h]
 ·simp[h]
theorem y2X (ao:Option Addr) (n cap:Nat) (xs:List Int) (x:Int) (w:World) (hx:Ints w ao n cap xs):
  Calls Tryz.prog 198 #[.slice ao n cap,.int .i64 x] w fun e w'=>e= .returned (.int .i64 (y1N xs x))∧Ext w w':=by
 have Hx:=η29 hx;have b1:=hx.fits;have b2:=hx.bound;clear hx;go_enter Tryz.func198,Tryz.ntmps198;go_wp2_with fail
 go_loopw [8] (fun i w'=> ∃k:Nat,k≤n∧i= .int .i64 k∧x∉xs.take k∧Ext w w') (fun i _=>n-(intOf i).toNat)
 case atStart=>exact ⟨0,Nat.zero_le _,rfl,by simp,Ext.refl _⟩
 case round=>
  obtain ⟨k,hk,rfl,heq,hb⟩:=hrel;have Heq:=η29 heq;clear heq;have Hb:=η29 hb;clear hb;by_cases hlt:k<n
  ·obtain ⟨b,off,rfl,c1⟩:=(Hx.out.ext Hb.out).at hlt
   generalize hX:xs.getD k 0=X at*;have HX:=η29 hX;clear hX;by_cases hg:X=x
   ·have hg':(x==X)=true:=by simpa using hg.symm
    have Hg:=η29 hg;clear hg;go_wp2_with fail;go_ret;exact ⟨rn (z9s xs x k (by rw[Hx.out.len];exact hlt) Heq.out (HX.out.trans Hg.out)),Hb.out⟩
   ·have hg':(x==X)=false:=by simpa using (Ne.symm hg)
    have Hg:=η29 hg;clear hg;go_wp2_with fail
    go_roundw
    case rel=>exact ⟨k+1,by omega,by go_num,q6q xs x k (by rw[Hx.out.len];exact hlt) Heq.out (by rw[HX.out];exact Hg.out),Hb.out⟩
    case measure=>simp[intOf];omega
  ·go_wp2_with fail
   go_ret;exact ⟨rn (z7u xs x (q8t xs x n k Hx.out.len (by omega) Heq.out)),Hb.out⟩
theorem q7B (ao:Option Addr) (n cap:Nat) (xs:List Int) (x:Int) (w:World) (hx:Ints w ao n cap xs):
  Calls Tryz.prog 159 #[.slice ao n cap,.int .i64 x] w fun e w'=>e= .returned (.bool (decide (x∈xs)))∧Ext w w':=by
 have Hx:=η29 hx;clear hx;go_enter Tryz.func159,Tryz.ntmps159
 go_wp2_with (go_at_call 198;(with_reducible refine (y2X _ _ _ xs x _ Hx.out).mono ?_);rintro e w' ⟨rfl,hb⟩)
 go_ret;exact ⟨rb (by rw[←z8y]),by assumption⟩
end
section
open Go.RowKit
end
section
open Go.RowKit
end
section
open Go.RowKit
end
end Go.Proofs.YtjjfiejoeelndaaGreatDoor
