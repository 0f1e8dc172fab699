/- Walks. -/
import Derived.Test.YthdekbmdkpcooaaGreatDoorChecked
import Derived.Test.YthdekbmdkpcooaaGreatDoorG1CT
set_option linter.unusedVariables false
set_option linter.unusedSimpArgs false
set_option maxRecDepth 100000
set_option maxHeartbeats 800000
namespace Go.Proofs.YthdekbmdkpcooaaGreatDoor
theorem η28 {p:Prop} (h:p):Go.RowKit.Hid p:=Lib.hid h
section
open Go.RowKit
theorem Tryz.infoInt :(Tryz.prog.info? 3).map (fun i=>(i.zero,i.size,i.bytes))=some (some (.int .i64 0),1,8):=by kernel_rfl
theorem Tryz.infoInts :(Tryz.prog.info? 36).map (fun i=>(i.zero,i.size,i.bytes))=some (some (.slice none 0 0),1,24):=by kernel_rfl
theorem y1D (n:Nat) (w:World) (hn:n≤17592186044416):
  Calls Tryz.prog 212 #[.slice none 0 0,.int .i64 n] w (y1i 3 w []):=by
 by_cases h0:n=0
 ·subst h0
  go_enter Tryz.func212,Tryz.ntmps212;go_wp2_with fail;go_ret;exact ⟨_,rfl,Own.nil _ _ _ _,Ext.refl _⟩
 ·have h1:0<n:=by omega
  obtain ⟨i,hi,hz,hsize,hby⟩:=info_parts Tryz.infoInt;have hr:=Lib.run_append_nil_zeros (P:=Tryz.prog) w 36 3 36 3 i (.int .i64 0) .i64 .i64 Tryz.underlying36 Tryz.underlying3 hi hz n h1 (by omega) (by omega) (by rw[hby];omega);have HR:=η28 hr;clear hr;have Hge:=η28 (grownCap_ge w n 0 3);have Hle:=η28 (grownCap_le_maxLen w n 0 3 (by unfold maxLen;omega));have HS:=η28 hsize;clear hi hz hsize hby;go_enter Tryz.func212,Tryz.ntmps212
  go_wp2_with (at_builtin;refine Lib.wpList_append_run _ rfl _ _ _ _ rfl _ _ rfl rfl _ _ HR.out ?_)
  go_ret;refine ⟨_,rfl,Own.of_row ⟨rfl,.inr ⟨w.heap.size,grownCap w n 0 3,_,rfl,Nat.le_refl _,heap_alloc_new w.drew _,Nat.zero_le _,Hle.out,?_,rfl⟩⟩,(Ext.refl w).drew.alloc _⟩;have:=Hge.out;simp[size_zeroCells];omega
theorem z7q (ao:Option Addr) (n cap:Nat) (L:List (List Int)) (w:World) (hx:Grid w ao n cap L) (hsum:L.flatten.length≤17592186044416):
  Calls Tryz.prog 160 #[.slice ao n cap] w (y1i 3 w L.flatten):=by
 have Hx:=η28 hx;have b1:=hx.fits;have b2:=hx.bound;clear hx;go_enter Tryz.func160,Tryz.ntmps160;go_wp2_with fail
 go_loopw [3,11] (fun s i w'=> ∃k:Nat,k≤n∧i= .int .i64 k∧s= .int .i64 (L.take k).flatten.length∧Ext w w') (fun _ i _=>n-(intOf i).toNat)
 case atStart=>exact ⟨0,Nat.zero_le _,rfl,rfl,Ext.refl _⟩
 case round=>
  obtain ⟨k,hk,rfl,rfl,hb⟩:=hrel;have Hb:=η28 hb;clear hb;by_cases hlt:k<n
  ·obtain ⟨b,off,ai,ni,ci,rfl,c1,r1⟩:=(Hx.out.ext Hb.out).at hlt
   have R1:=η28 r1;clear r1;have hkl:k<L.length:=by rw[Hx.out.len];exact hlt
   have hs:=q2L L k hkl;have hle:=q2A L (k+1);have hlen:(L.take k).flatten.length+ni=(L.take (k+1)).flatten.length:=by rw[hs,List.length_append,R1.out.len]
   have HL:=η28 hlen;have g1:(L.take k).flatten.length+ni≤17592186044416:=by omega
   clear hs hle hlen;generalize (L.take k).flatten.length=F at*;go_wp2_with fail
   go_roundw
   case rel=>exact ⟨k+1,by omega,by go_num,by rw[←HL.out];go_num,Hb.out⟩
   case measure=>simp[intOf];omega
  ·have hk2:L.take k=L:=List.take_of_length_le (by have:=Hx.out.len;omega)
   have HK:=η28 hk2;have hF:(L.take k).flatten.length=L.flatten.length:=by rw[hk2]
   rw[hF];clear hk2 hF;generalize hF:L.flatten.length=F at*;have HF:=η28 hF;clear hF
   go_wp2_with (go_at_call 212;(with_reducible refine (y1D F _ (by omega)).mono ?_);rintro e w1 ⟨v1,rfl,hown,hb1⟩)
   have HB:=η28 (Hb.out.trans hb1);have hown0:Own w1 w.heap.size 3 1 v1 0 []:=hown.base Hb.out.size;have HO:=η28 hown0;clear hown hown0 hb1 Hb
   go_loopw [6,27] (fun v i w'=> ∃k:Nat,k≤n∧i= .int .i64 k∧Own w' w.heap.size 3 1 v (L.take k).flatten.length ((L.take k).flatten.map (Value.int .i64))∧Ext w w') (fun _ i _=>n-(intOf i).toNat)
   case atStart=>exact ⟨0,Nat.zero_le _,rfl,HO.out,HB.out⟩
   case round=>
    clear HO HB;obtain ⟨k,hk,rfl,hown,hb⟩:=hrel;have Hb:=η28 hb;clear hb;have Hown:=η28 hown;clear hown;by_cases hlt:k<n
    ·obtain ⟨b,off,ai,ni,ci,rfl,c1,r1⟩:=(Hx.out.ext Hb.out).at hlt
     have R1:=η28 r1;clear r1;have hkl:k<L.length:=by rw[Hx.out.len];exact hlt
     have hs:=q2L L k hkl;have hle:=q2A L (k+1);have hlen:(L.take k).flatten.length+ni=(L.take (k+1)).flatten.length:=by rw[hs,List.length_append,R1.out.len]
     have HS:=η28 hs;clear hs;have HL:=η28 hlen;clear hlen;have HFF:=HF.out;have hle2:(L.take (k+1)).flatten.length≤F:=by omega
     clear HFF hle
     go_wp2_with (at_builtin;refine q0g rfl _ _ 36 rfl w.heap.size 3 _ 1 8 Tryz.underlying36 Tryz.infoInt rfl (by decide) _ _ _ rfl Hown.out _ _ _ ((L.getD k []).map (Value.int .i64)) rfl (by rw[List.length_map,R1.out.len];omega) R1.out.nil R1.out.rd (ints_oneCell _ _) (by have:=HL.out;omega) (by have:=HL.out;omega) Hb.out.size ?_;intro v' w2 hown' hg _)
     have hb1:=q1U Hb.out Hown.out hg Hb.out.size;have HB1:=η28 hb1;clear hb1;rw[←List.map_append,←HS.out,HL.out] at hown';have HO:=η28 hown';clear hown' hg;go_wp2_with fail
     go_roundw
     case rel=>exact ⟨k+1,by omega,by go_num,HO.out,HB1.out⟩
     case measure=>simp[intOf];omega
    ·have hk2:L.take k=L:=List.take_of_length_le (by have:=Hx.out.len;omega)
     have HK:=η28 hk2;clear hk2;go_wp2_with fail;go_ret;exact ⟨_,rfl,by have:=Hown.out;rw[HK.out] at this;exact this,Hb.out⟩
theorem z3k (ao:Option Addr) (n cap:Nat) (L:List (List Int)) (w:World) (hx:Grid w ao n cap L) (hsum:L.flatten.length≤17592186044416):
  Calls Tryz.prog 103 #[.slice ao n cap] w (y1i 3 w L.flatten):=by
 have Hx:=η28 hx;clear hx;go_enter Tryz.func103,Tryz.ntmps103
 go_wp2_with (go_at_call 160;(with_reducible refine (z7q _ _ _ L _ Hx.out hsum).mono ?_);rintro e w1 ⟨v1,rfl,hown,hb1⟩)
 go_ret;exact ⟨_,rfl,by assumption,by assumption⟩
end
section
open Go.RowKit
theorem q8m {α:Type} (p:α→Bool) (d:α) (L:List α) (k:Nat) (h:k<L.length) (h0:(L.take k).any p=false) (h1:p (L.getD k d)=false):(L.take (k+1)).any p=false:=by
 rw[q0T L d k h,List.any_append,h0];simp only[List.any_cons,List.any_nil,h1,Bool.or_self]
theorem z1s {α:Type} (p:α→Bool) (d:α) (L:List α) (k:Nat) (h:k<L.length) (h1:p (L.getD k d)=true):L.any p=true:=by
 rw[List.any_eq_true];refine ⟨L[k],List.getElem_mem h,?_⟩;rw[List.getD_eq_getElem?_getD,List.getElem?_eq_getElem h] at h1;exact h1
theorem z1V {α:Type} (p:α→Bool) (L:List α) (n k:Nat) (hn:L.length=n) (hk:n≤k) (h0:(L.take k).any p=false):L.any p=false:=by
 rwa [List.take_of_length_le (by omega)] at h0
theorem q5h (xs:List Int) (x:Int) (k:Nat) (h:k<xs.length) (h0:x∉xs.take k) (h1:xs.getD k 0≠x):x∉xs.take (k+1):=by
 rw[q0T xs 0 k h,List.mem_append];rintro (h2|h2)
 ·exact h0 h2
 ·exact h1 (List.mem_singleton.1 h2).symm
theorem z1k (xs:List Int) (x:Int) (k:Nat) (h:k<xs.length) (h1:xs.getD k 0=x):x∈xs:=by
 rw[←h1,List.getD_eq_getElem?_getD,List.getElem?_eq_getElem h];exact List.getElem_mem h
theorem q6e (xs:List Int) (x:Int) (n k:Nat) (hn:xs.length=n) (hk:n≤k) (h0:x∉xs.take k):x∉xs:=by
 rwa [List.take_of_length_le (by omega)] at h0
def z8h (xs:List Int) (x:Int):Int:=if x∈xs then (xs.idxOf x:Int) else-1
theorem z7y (xs:List Int) (x:Int) (k:Nat) (h:k<xs.length) (h0:x∉xs.take k) (h1:xs.getD k 0=x):z8h xs x=k:=by
 have hm:=z1k xs x k h h1;rw[z8h,if_pos hm];have e:xs=xs.take k++xs.drop k:=(List.take_append_drop k xs).symm;have e2:xs.drop k=x::xs.drop (k+1):=by
  rw[List.drop_eq_getElem_cons h];rw[List.getD_eq_getElem?_getD,List.getElem?_eq_getElem h] at h1;simp at h1;rw[h1]
 have:xs.idxOf x=k:=by
  rw[e,e2,List.idxOf_append,if_neg h0,List.idxOf_cons_self];simp;omega
 omega
theorem z5h (xs:List Int) (x:Int) (h:x∉xs):z8h xs x= -1:=by rw[z8h,if_neg h]
theorem z7C (xs:List Int) (x:Int):decide (0≤z8h xs x)=decide (x∈xs):=by
 unfold z8h;by_cases h:x∈xs
 ·simp[h]
 ·simp[h]
theorem z8f (ao:Option Addr) (n cap:Nat) (xs:List Int) (x:Int) (w:World) (hx:Ints w ao n cap xs):
  Calls Tryz.prog 237 #[.slice ao n cap,.int .i64 x] w fun e w'=>e= .returned (.int .i64 (z8h xs x))∧Ext w w':=by
 have Hx:=η28 hx;have b1:=hx.fits;have b2:=hx.bound;clear hx;go_enter Tryz.func237,Tryz.ntmps237;go_wp2_with fail
 go_loopw [8] (fun i w'=> ∃k:Nat,k≤n∧i= .int .i64 k∧x∉xs.take k∧Ext w w') (fun i _=>n-(intOf i).toNat)
 case atStart=>exact ⟨0,Nat.zero_le _,rfl,by simp,Ext.refl _⟩
 case round=>
  obtain ⟨k,hk,rfl,heq,hb⟩:=hrel;have Heq:=η28 heq;clear heq;have Hb:=η28 hb;clear hb;by_cases hlt:k<n
  ·obtain ⟨b,off,rfl,c1⟩:=(Hx.out.ext Hb.out).at hlt
   generalize hX:xs.getD k 0=X at*;have HX:=η28 hX;clear hX;by_cases hg:X=x
   ·have hg':(x==X)=true:=by simpa using hg.symm
    have Hg:=η28 hg;clear hg;go_wp2_with fail;go_ret;exact ⟨rn (z7y xs x k (by rw[Hx.out.len];exact hlt) Heq.out (HX.out.trans Hg.out)),Hb.out⟩
   ·have hg':(x==X)=false:=by simpa using (Ne.symm hg)
    have Hg:=η28 hg;clear hg;go_wp2_with fail
    go_roundw
    case rel=>exact ⟨k+1,by omega,by go_num,q5h xs x k (by rw[Hx.out.len];exact hlt) Heq.out (by rw[HX.out];exact Hg.out),Hb.out⟩
    case measure=>simp[intOf];omega
  ·go_wp2_with fail
   go_ret;exact ⟨rn (z5h xs x (q6e xs x n k Hx.out.len (by omega) Heq.out)),Hb.out⟩
theorem z3K (ao:Option Addr) (n cap:Nat) (xs:List Int) (x:Int) (w:World) (hx:Ints w ao n cap xs):
  Calls Tryz.prog 201 #[.slice ao n cap,.int .i64 x] w fun e w'=>e= .returned (.bool (decide (x∈xs)))∧Ext w w':=by
 have Hx:=η28 hx;clear hx;go_enter Tryz.func201,Tryz.ntmps201
 go_wp2_with (go_at_call 237;(with_reducible refine (z8f _ _ _ xs x _ Hx.out).mono ?_);rintro e w' ⟨rfl,hb⟩)
 go_ret;exact ⟨rb (by rw[←z7C]),by assumption⟩
end
section
open Go.RowKit
end
section
open Go.RowKit
end
end Go.Proofs.YthdekbmdkpcooaaGreatDoor
