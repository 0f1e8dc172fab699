/- Walks. -/
import Derived.Test.YthdekbmdkpcooaaGreatDoorChecked
import Derived.Test.YthdekbmdkpcooaaGreatDoorG2CT
import Derived.WalkLawsBesides
set_option linter.unusedVariables false
set_option linter.unusedSimpArgs false
set_option maxRecDepth 100000
set_option maxHeartbeats 3200000
namespace Go.Proofs.YthdekbmdkpcooaaGreatDoor
theorem η5 {p:Prop} (h:p):Go.RowKit.Hid p:=Lib.hid h
section
open Go.RowKit
theorem Tryz.infoU8 :(Tryz.prog.info? 5).map (fun i=>(i.zero,i.size,i.bytes))=some (some (.int .u8 0),1,1):=by kernel_rfl
theorem q6v (X:Int) (n:Nat) (w:World) (h1:1≤n) (h8:n≤8) (hx0:0≤X) (hX:X<18446744073709551616):
  Calls Tryz.prog 70 #[.int .u64 X,.int .i64 n] w fun e w'=>e= .returned (.string ⟨(be n X.toNat).toArray⟩)∧Ext w w':=by
 obtain ⟨i,hi,hz,hsize,hby⟩:=info_parts Tryz.infoU8;have hXx:X=(X.toNat:Int):=by omega
 have HXx:=η5 hXx;clear hXx;generalize X.toNat=x at*;go_enter Tryz.func70,Tryz.ntmps70
 go_wp2_with (at_make;refine wpList_make_full _ rfl _ _ 154 rfl w.heap.size 5 i (.int .u8 0) 1 Tryz.underlying154 hi hz hsize .i64 .i64 _ _ n rfl rfl rfl rfl (by rw[hby];omega) (by unfold maxLen;omega) (Nat.le_refl _) ?_;intro w2 hown hg)
 clear hi hz hsize hby;have ho:=Own.of_row hown;rw[Nat.mul_one,show (madeCells (Value.int .u8 0).cells n).toList=List.replicate n (.int .u8 0) from toList_madeCells_one _ _] at ho;have hb0:Ext w w2:=(Ext.refl w).grown hg (Nat.le_refl _) (fun k hk=>by cases hk);have HO:=η5 ho;have HB0:=η5 hb0;clear hown hg ho hb0
 go_loopw [16] (fun i w'=> ∃k:Nat,k≤n∧i= .int .i64 k∧Own w' w.heap.size 5 1 (.slice (some ⟨w.heap.size,0,none⟩) n n) n (List.replicate (n-k) (.int .u8 0)++(be k x).map q1L)∧Ext w w') (fun i _=>n-(intOf i).toNat)
 case atStart=>exact ⟨0,Nat.zero_le _,rfl,by simpa [be] using HO.out,HB0.out⟩
 case round=>
  clear HO HB0;obtain ⟨k,hk,rfl,ho,hb⟩:=hrel;have Hb:=η5 hb;have HO:=η5 ho;by_cases hlt:k<n
  ·obtain ⟨g,c,u,e,d1,d2,d3⟩:=ho.cellE (j:=n-1-k) (by omega)
   cases e;have hst:=ho.stored (g:=w.heap.size) (cap:=n) rfl (j:=n-1-k) (.int .u8 ((UInt8.ofNat (x/256^k)).toNat:Int));have hset:(List.replicate (n-k) (Value.int .u8 0)++(be k x).map q1L).set (n-1-k) (.int .u8 ((UInt8.ofNat (x/256^k)).toNat:Int))=List.replicate (n-(k+1)) (.int .u8 0)++(be (k+1) x).map q1L:=by
    rw[show n-k=(n-(k+1))+1 from by omega,show n-1-k=n-(k+1) from by omega,z8o]
    rfl
   rw[hset,←z7u,←HXx.out] at hst;have hbs:=hb.setCell (p:=⟨w.heap.size,n-1-k,none⟩) (Nat.le_refl _) (.int .u8 (X/2^(8*k) % 256));have HS:=η5 hst;have HBS:=η5 hbs;clear ho hb hst hset hbs;go_wp2_with fail
   go_roundw
   case rel=>exact ⟨k+1,by omega,by go_num,HS.out,HBS.out⟩
   case measure=>simp[intOf];omega
  ·have hkn:k=n:=by omega
   rw[hkn,Nat.sub_self,List.replicate_zero,List.nil_append] at ho;have hcv:=q4K (P:=Tryz.prog) wr 154 9 5 (a:=⟨w.heap.size,0,none⟩) (n:=n) (cap:=n) Tryz.underlying154 Tryz.underlying5 Tryz.underlying9 (q0I n x) (by obtain ⟨_,_,e,_,_,_,r⟩:=ho.rd;cases e;exact r);clear hkn ho hb;go_wp2_with fail;go_ret;exact ⟨rfl,Hb.out⟩
theorem z3r (X N:Int) (k:Nat) (w:World) (hN:N=(k:Int)) (h1:1≤N) (h8:N≤8) (hx0:0≤X) (hX:X<18446744073709551616):
  Calls Tryz.prog 70 #[.int .u64 X,.int .i64 N] w fun e w'=>e= .returned (.string ⟨(be k X.toNat).toArray⟩)∧Ext w w':=by
 subst hN;exact q6v X k w (by omega) (by omega) hx0 hX
theorem y0G (x:Nat) (N:Int) (k:Nat) (w:World) (hN:N=(k:Int)) (h1:1≤N) (h8:N≤8) (hX:(x:Int)<18446744073709551616):
  Calls Tryz.prog 70 #[.int .u64 (x:Int),.int .i64 N] w fun e w'=>e= .returned (.string ⟨(be k x).toArray⟩)∧Ext w w':=by
 have h:=z3r (x:Int) N k w hN h1 h8 (by omega) hX
 rwa [Int.toNat_natCast] at h
theorem q8S (l:List UInt8) (w:World) (hl:l.length≤9223372036854775807):
  Calls Tryz.prog 141 #[.string ⟨l.toArray⟩] w fun e w'=>e= .returned (.int .u64 (q1F (l.take 8)))∧Ext w w':=by
 obtain ⟨m,hm⟩: ∃m:Nat,m=min l.length 8:=⟨_,rfl⟩
 have hmin:(if (8:Int)<(l.length:Int) then (8:Int) else (l.length:Int))=(m:Int):=by split<;>omega
 have hm1:m≤l.length:=by omega
 have hm8:m≤8:=by omega
 have htk:l.take 8=l.take m:=by
  rw[hm];rcases Nat.le_total l.length 8 with h|h
  ·rw[Nat.min_eq_left h,List.take_of_length_le h,List.take_length]
  ·rw[Nat.min_eq_right h]
 have HTK:=η5 htk;clear hm htk;go_enter Tryz.func141,Tryz.ntmps141;go_wp2_with fail;clear hmin
 go_loopw [3,8] (fun v i w'=> ∃(k:Nat) (Z:Int),k≤m∧i= .int .i64 k∧v= .int .u64 Z∧Z=(q1F (l.take k):Int)∧Ext w w') (fun _ i _=>m-(intOf i).toNat)
 case atStart=>exact ⟨0,0,Nat.zero_le _,rfl,rfl,rfl,Ext.refl _⟩
 case round=>
  obtain ⟨k,Z,hk,rfl,rfl,hz,hb⟩:=hrel;have Hb:=η5 hb;have HZ:=η5 hz;clear hb;by_cases hlt:k<m
  ·have hz0:0≤Z:=by omega
   have hz1:Z<72057594037927936:=by
    have h1:=q1p (l.take k);have h2:(l.take k).length=k:=by simp;omega
    rw[h2] at h1;have h3:(256:Nat)^k≤256^7:=Nat.pow_le_pow_right (by decide) (by omega);omega
   clear hz;have hkl:k<l.length:=by omega
   go_wp2_with fail
   go_roundw
   case rel=>exact ⟨k+1,_,by omega,by go_num,rfl,by
    have e:=z1h Z l[k] hz0 hz1;rw[show ((⟨l.toArray⟩:ByteArray)[k])=l[k] from rfl,e,HZ.out,List.take_succ_eq_append_getElem hkl,z5O]
    omega,Hb.out⟩
   case measure=>simp[intOf];omega
  ·have hkm:k=m:=by omega
   have HK:=η5 hkm;clear hkm hz;go_wp2_with fail;go_ret;exact ⟨rn (by rw[HTK.out,HZ.out,HK.out]),Hb.out⟩
end
section
open Go.RowKit
theorem y1I (s:BitVec 32) (c:UInt8) (S C:Int) (w:World) (hS:S=(s.toNat:Int)) (hC:C=(c.toNat:Int)):
  Calls Tryz.prog 267 #[.int .u32 S,.int .u8 C] w fun e w'=>e= .returned (.int .u32 ((q3n s c).toNat:Int))∧Ext w w':=by
 have hx:=q4v s (BitVec.ofNat 32 c.toNat);rw[y0A,←hS,←hC] at hx;have HX:=η5 hx;have b1:0≤S:=by omega
 have b2:S<4294967296:=by have:=s.isLt;omega
 have b3:0≤C:=by omega
 have b4:C<256:=by have:=c.toNat_lt;omega
 clear hS hC hx;go_enter Tryz.func267,Tryz.ntmps267;go_wp2_with fail
 go_loopw [0,9] (fun v i w'=> ∃(k:Nat) (V:Int),k≤8∧i= .int .i64 k∧v= .int .u32 V∧V=((q6i k (s^^^BitVec.ofNat 32 c.toNat)).toNat:Int)∧Ext w w') (fun _ i _=>8-(intOf i).toNat)
 case atStart=>exact ⟨0,_,Nat.zero_le _,rfl,rfl,HX.out,Ext.refl _⟩
 case round=>
  obtain ⟨k,V,hk,rfl,rfl,hv,hb⟩:=hrel;have HV:=η5 hv;have Hb:=η5 hb;have v1:0≤V:=by omega
  have v2:V<4294967296:=by have:=(q6i k (s^^^BitVec.ofNat 32 c.toNat)).isLt;omega
  clear hv hb;by_cases hlt:k<8
  ·have hst:=z9n (q6i k (s^^^BitVec.ofNat 32 c.toNat))
   rw[←HV.out] at hst;have HST:=η5 hst;clear hst;go_wp2_with fail
   go_roundw
   case rel=>exact ⟨k+1,_,by omega,by go_num,rfl,HST.out,Hb.out⟩
   case measure=>simp[intOf];omega
  ·have hk8:k=8:=by omega
   have HK:=η5 hk8;clear hk8;go_wp2_with fail;go_ret;exact ⟨rn (by rw[HV.out,HK.out];rfl),Hb.out⟩
theorem y1B (l:List UInt8) (w:World) (hl:l.length≤9223372036854775807):
  Calls Tryz.prog 228 #[.int .u32 0,.string ⟨l.toArray⟩] w fun e w'=>e= .returned (.int .u32 ((q1Y l).toNat:Int))∧Ext w w':=by
 go_enter Tryz.func228,Tryz.ntmps228;go_wp2_with fail
 go_loopw [5,11] (fun v i w'=> ∃(k:Nat) (V:Int),k≤l.length∧i= .int .i64 k∧v= .int .u32 V∧V=(((l.take k).foldl q3n (~~~0#32)).toNat:Int)∧Ext w w') (fun _ i _=>l.length-(intOf i).toNat)
 case atStart=>exact ⟨0,_,Nat.zero_le _,rfl,rfl,rfl,Ext.refl _⟩
 case round=>
  obtain ⟨k,V,hk,rfl,rfl,hv,hb⟩:=hrel;have HV:=η5 hv;have Hb:=η5 hb;have v1:0≤V:=by omega
  have v2:V<4294967296:=by have:=((l.take k).foldl q3n (~~~0#32)).isLt;omega
  clear hv hb;by_cases hlt:k<l.length
  ·go_wp2_with fail
   refine (y1I _ l[k] _ _ _ HV.out rfl).mono ?_;rintro e w1 ⟨rfl,hb1⟩;have HB1:=η5 (Hb.out.trans hb1);clear hb1;have hf:(l.take (k+1)).foldl q3n (~~~0#32)=q3n ((l.take k).foldl q3n (~~~0#32)) l[k]:=by
    rw[List.take_succ_eq_append_getElem hlt,List.foldl_append];rfl
   have HF:=η5 hf;clear hf;generalize q3n ((l.take k).foldl q3n (~~~0#32)) l[k]=T at*;go_wp2_with fail
   go_roundw
   case rel=>exact ⟨k+1,_,by omega,by go_num,rfl,by rw[HF.out],HB1.out⟩
   case measure=>simp[intOf];omega
  ·have hkl:l.take k=l:=List.take_of_length_le (by omega)
   have HK:=η5 hkl;clear hkl;go_wp2_with fail;go_ret;exact ⟨rn (by rw[HV.out,HK.out,y0o];rfl),Hb.out⟩
theorem z9v (l:List UInt8) (w:World) (hl:l.length≤9223372036854775807):
  Calls Tryz.prog 183 #[.string ⟨l.toArray⟩] w fun e w'=>e= .returned (.int .u32 ((q1Y l).toNat:Int))∧Ext w w':=by
 go_enter Tryz.func183,Tryz.ntmps183;go_wp2_with fail;refine (y1B l _ hl).mono ?_;rintro e w1 ⟨rfl,hb⟩;have HB:=η5 hb;clear hb;go_wp2_with fail;go_ret;exact ⟨rfl,HB.out⟩
def q7a (s:BitVec 32):List UInt8:=(be 4 s.toNat).reverse
theorem be4 (x:Nat):be 4 x=[UInt8.ofNat (x/16777216),UInt8.ofNat (x/65536),UInt8.ofNat (x/256),UInt8.ofNat x]:=by
 simp[be]
theorem z9k (s:BitVec 32) (S:Int) (w:World) (hS:S=(s.toNat:Int)):
  Calls Tryz.prog 182 #[.int .u32 S] w fun e w'=>e= .returned (.string ⟨(q7a s).toArray⟩)∧Ext w w':=by
 have b1:0≤S:=by omega
 have b2:S<4294967296:=by have:=s.isLt;omega
 have hSn:S.toNat=s.toNat:=by omega
 have HSn:=η5 hSn;clear hS hSn;go_enter Tryz.func182,Tryz.ntmps182;go_wp2_with fail;refine (q6v S 4 _ (by omega) (by omega) b1 (by omega)).mono ?_;rw[be4,HSn.out];rintro e w1 ⟨rfl,hb⟩;have HB:=η5 hb;clear hb;have hlow:q7a s=[UInt8.ofNat s.toNat,UInt8.ofNat (s.toNat/256),UInt8.ofNat (s.toNat/65536),UInt8.ofNat (s.toNat/16777216)]:=by
  unfold q7a;rw[be4];rfl
 have HLow:=η5 hlow;clear hlow;generalize UInt8.ofNat (s.toNat/16777216)=c0 at*;generalize UInt8.ofNat (s.toNat/65536)=c1 at*;generalize UInt8.ofNat (s.toNat/256)=c2 at*;generalize UInt8.ofNat s.toNat=c3 at*;have hcv2:=fun w s=>run_bytes_of_string (P:=Tryz.prog) w 9 154 5 s Tryz.underlying9 Tryz.underlying154 Tryz.underlying5
 go_wp2_with fail;obtain ⟨hrd,hfz,hex⟩:=z1j w1 5 [c0,c1,c2,c3] (grownCap w1 4 0 5);have HB2:=η5 (HB.out.trans hex);clear hex hcv2;generalize (w1.alloc (Obj.cells (bytesRow {data:=#[c0,c1,c2,c3]} (grownCap w1 4 0 5)) 5 ((bytesRow {data:=#[c0,c1,c2,c3]} (grownCap w1 4 0 5)).size,(bytesRow {data:=#[c0,c1,c2,c3]} (grownCap w1 4 0 5)).size+1))).drew=W at*;have d0:W.cell? ⟨w1.heap.size,0,none⟩=some (.int .u8 (c0.toNat:Int)):=by obtain ⟨_,_,e,h⟩:=hrd 0 _ rfl;cases e;exact h
 have d1:W.cell? ⟨w1.heap.size,1,none⟩=some (.int .u8 (c1.toNat:Int)):=by obtain ⟨_,_,e,h⟩:=hrd 1 _ rfl;cases e;exact h
 have d2:W.cell? ⟨w1.heap.size,2,none⟩=some (.int .u8 (c2.toNat:Int)):=by obtain ⟨_,_,e,h⟩:=hrd 2 _ rfl;cases e;exact h
 have d3:W.cell? ⟨w1.heap.size,3,none⟩=some (.int .u8 (c3.toNat:Int)):=by obtain ⟨_,_,e,h⟩:=hrd 3 _ rfl;cases e;exact h
 have z0:=hfz 0 (by simp);have z1:=hfz 1 (by simp);have z2:=hfz 2 (by simp);have z3:=hfz 3 (by simp);have hg:Hid (w.heap.size≤w1.heap.size):=η5 HB.out.size;generalize w1.heap.size=g at*;clear hrd hfz;have hr4:=z9Q d0 d1 d2 d3 (q1L c3) (q1L c2) (q1L c1) (q1L c0);have hcv:=q4K (P:=Tryz.prog) _ 154 9 5 (n:=4) (l:=[c3,c2,c1,c0]) (cap:=grownCap w1 4 0 5) Tryz.underlying154 Tryz.underlying5 Tryz.underlying9 rfl hr4;have HCV:=η5 hcv;have HD:Hid (Below w.heap.size w ((((W.setCell ⟨g,0,none⟩ (q1L c3)).setCell ⟨g,1,none⟩ (q1L c2)).setCell ⟨g,2,none⟩ (q1L c1)).setCell ⟨g,3,none⟩ (q1L c0)).drew):=
  η5 (((((HB2.out.setCell (p:=⟨g,0,none⟩) hg.out _).setCell (p:=⟨g,1,none⟩) hg.out _).setCell (p:=⟨g,2,none⟩) hg.out _).setCell (p:=⟨g,3,none⟩) hg.out _).drew)
 clear hr4 hcv
 go_region
 have hcv:=HCV.out;clear d0 d1 d2 d3 z0 z1 z2 z3;generalize ((((W.setCell ⟨g,0,none⟩ (q1L c3)).setCell ⟨g,1,none⟩ (q1L c2)).setCell ⟨g,2,none⟩ (q1L c1)).setCell ⟨g,3,none⟩ (q1L c0)).drew=W4 at*;go_wp2_with fail;go_ret;exact ⟨by rw[HLow.out];rfl,HD.out⟩
end
section
open Go.RowKit
def q1M (l:List UInt8):List UInt8:=l++q7a (q1Y l)
def q1q (l:List UInt8):Bool:=decide (4≤l.length)&&decide (q1M (l.take (l.length-4))=l)
def q1j (l:List UInt8):List UInt8:=if q1q l then l.take (l.length-4) else []
theorem q4s (s:BitVec 32):(q7a s).length=4:=by simp[q7a,q0I]
theorem q1D (l:List UInt8):(q1M l).length=l.length+4:=by simp[q1M,q4s]
theorem z6w (l:List UInt8) (h:4≤l.length):q1q l=decide (q7a (q1Y (l.take (l.length-4)))=l.drop (l.length-4)):=by
 unfold q1q;rw[decide_eq_true h,Bool.true_and];have e:l=l.take (l.length-4)++l.drop (l.length-4):=(List.take_append_drop _ _).symm;have :(q1M (l.take (l.length-4))=l)↔(q7a (q1Y (l.take (l.length-4)))=l.drop (l.length-4)):=by
  unfold q1M
  constructor
  ·intro h2
   have h3:l.take (l.length-4)++q7a (q1Y (l.take (l.length-4)))=l.take (l.length-4)++l.drop (l.length-4):=by rw[h2];exact e
   exact List.append_cancel_left h3
  ·intro h2;rw[h2];exact e.symm
 simp only[this]
theorem z1p (l:List UInt8) (h:l.length<4):q1q l=false:=by
 unfold q1q;rw[decide_eq_false (by omega)];rfl
theorem z1z (l:List UInt8) (w:World) (hl:l.length≤4611686018427387903):
  Calls Tryz.prog 120 #[.string ⟨l.toArray⟩] w fun e w'=>e= .returned (.string ⟨(q1M l).toArray⟩)∧Ext w w':=by
 go_enter Tryz.func120,Tryz.ntmps120;go_wp2_with fail;refine (z9v l _ (by omega)).mono ?_;rintro e w1 ⟨rfl,hb⟩;have HB:=η5 hb;clear hb;go_wp2_with fail;refine (z9k (q1Y l) _ _ rfl).mono ?_;rintro e w2 ⟨rfl,hb⟩;have HB2:=η5 (HB.out.trans hb);clear hb;have hlen:=q4s (q1Y l);have HS:Hid (q1M l=l++q7a (q1Y l)):=η5 rfl;generalize q7a (q1Y l)=T at*;go_wp2_with fail;go_ret;exact ⟨by rw[HS.out];simp[ByteArray.mk_append_mk],HB2.out⟩
theorem z2L (l:List UInt8) (w:World) (hl:l.length≤4611686018427387903):
  Calls Tryz.prog 142 #[.string ⟨l.toArray⟩] w fun e w'=>e= .returned (.tuple #[.string ⟨(q1j l).toArray⟩,.bool (q1q l)])∧Ext w w':=by
 by_cases h4:l.length<4
 ·have ho:=z1p l h4
  have HO:=η5 ho;clear ho;have hd:decide ((l.length:Int)<4)=true:=by simp;omega
  go_enter Tryz.func142,Tryz.ntmps142;go_wp2_with fail;refine q0E (by kernel_rfl) (by kernel_rfl) ?_
  repeat (go_big_quiet_step (fail))
  refine wpQuiet_nil ?_;intro w2 hw2;have HW:=η5 hw2;clear hw2;go_wp2_with fail;go_ret2;exact ⟨by rw[q1j,HO.out];rfl,HW.out⟩
 ·have ho:=z6w l (by omega)
  have HO:=η5 ho;clear ho;have hd:decide ((l.length:Int)<4)=false:=by simp;omega
  have h4':4≤l.length:=by omega
  have htl:(l.take (l.length-4)).length≤9223372036854775807:=by simp;omega
  have HTL:=η5 htl;clear htl;have HOT:Hid (q1j l=if q1q l then l.take (l.length-4) else []):=η5 rfl;by_cases heq:q7a (q1Y (l.take (l.length-4)))=l.drop (l.length-4)
  ·have hq:(q7a (q1Y (l.take (l.length-4)))==l.drop (l.length-4))=true:=by rw[beq_iff_eq];exact heq
   have HEQ:=η5 heq;clear heq;go_enter Tryz.func142,Tryz.ntmps142;go_wp2_with fail;refine q0E (by kernel_rfl) (by kernel_rfl) ?_
   repeat (go_big_quiet_step (first|(go_at_call 183;exact Calls.quiet_ext (z9v _ _ HTL.out))|(go_at_call 182;exact Calls.quiet_ext (z9k (q1Y _) _ _ rfl))))
   refine wpQuiet_nil ?_;intro w2 hw2;have HW:=η5 hw2;clear hw2;go_wp2_with fail;go_ret2;exact ⟨by rw[HOT.out,HO.out,decide_eq_true HEQ.out];rfl,HW.out⟩
  ·have hq:(q7a (q1Y (l.take (l.length-4)))==l.drop (l.length-4))=false:=by rw[beq_eq_false_iff_ne];exact heq
   have HEQ:=η5 heq;clear heq;go_enter Tryz.func142,Tryz.ntmps142;go_wp2_with fail;refine q0E (by kernel_rfl) (by kernel_rfl) ?_
   repeat (go_big_quiet_step (first|(go_at_call 183;exact Calls.quiet_ext (z9v _ _ HTL.out))|(go_at_call 182;exact Calls.quiet_ext (z9k (q1Y _) _ _ rfl))))
   refine wpQuiet_nil ?_;intro w2 hw2;have HW:=η5 hw2;clear hw2;go_wp2_with fail;go_ret2;exact ⟨by rw[HOT.out,HO.out,decide_eq_false HEQ.out];rfl,HW.out⟩
end
section
open Go.RowKit
abbrev En :=Int×Int×Int
def q3J (e:En):Bool:=decide (0≤e.1)&&decide (e.1<18446744073709551616)&&decide (0≤e.2.1)&&decide (e.2.1≤9223372036854775807)&&decide (0≤e.2.2)&&decide (e.2.2≤9223372036854775807)
theorem okEn_iff {e:En}:q3J e=true↔0≤e.1∧e.1<18446744073709551616∧0≤e.2.1∧e.2.1≤9223372036854775807∧0≤e.2.2∧e.2.2≤9223372036854775807:=by
 simp[q3J,and_assoc]
def q0e (a b:En):Bool:=if a.1≠b.1 then decide (a.1<b.1) else if a.2.1≠b.2.1 then decide (a.2.1<b.2.1) else decide (a.2.2<b.2.2)
theorem lessE_iff {a b:En}:q0e a b=true↔a.1<b.1∨(a.1=b.1∧(a.2.1<b.2.1∨(a.2.1=b.2.1∧a.2.2<b.2.2))):=by
 unfold q0e
 split
 ·rw[decide_eq_true_eq];omega
 ·split
  ·rw[decide_eq_true_eq];omega
  ·rw[decide_eq_true_eq];omega
theorem q1K {a b c:En} (h:q0e a b=true) (k:q0e b c=true):q0e a c=true:=by rw[lessE_iff] at*;omega
theorem q0Z (a:En):q0e a a=false:=by
 cases h:q0e a a with
 |false=>rfl
 |true=>rw[lessE_iff] at h;omega
theorem q4q {a b:En} (h:q0e a b=false) (k:q0e b a=false):a=b:=by
 have h1:¬(a.1<b.1∨(a.1=b.1∧(a.2.1<b.2.1∨(a.2.1=b.2.1∧a.2.2<b.2.2)))):=fun x=>by rw[lessE_iff.2 x] at h;cases h
 have h2:¬(b.1<a.1∨(b.1=a.1∧(b.2.1<a.2.1∨(b.2.1=a.2.1∧b.2.2<a.2.2)))):=fun x=>by rw[lessE_iff.2 x] at k;cases k
 obtain ⟨a1,a2,a3⟩:=a;obtain ⟨b1,b2,b3⟩:=b;simp only at h1 h2;have e1:a1=b1:=by omega
 have e2:a2=b2:=by omega
 have e3:a3=b3:=by omega
 rw[e1,e2,e3]
def q0q (l:List En):Prop:=l.Pairwise fun a b=>q0e a b=true
def q3w :List En→Bool
 |[]=>true
 |[_]=>true
 |a::b::r=>q0e a b&&q3w (b::r)
theorem q2x : ∀l:List En,q3w l=true↔q0q l
 |[]=>by simp[q3w,q0q]
 |[a]=>by simp[q3w,q0q]
 | a ::b::r=>by
  unfold q3w q0q;rw[Bool.and_eq_true,q2x (b::r)]
  constructor
  ·rintro ⟨h1,h2⟩
   refine List.pairwise_cons.2 ⟨fun x hx=>?_,h2⟩;rcases List.mem_cons.1 hx with rfl|hx
   ·exact h1
   ·exact q1K h1 ((List.pairwise_cons.1 h2).1 x hx)
  ·intro h
   obtain ⟨h1,h2⟩:=List.pairwise_cons.1 h;exact ⟨h1 b List.mem_cons_self,h2⟩
def q4B (e:En):List UInt8:=be 8 e.1.toNat++(be 8 e.2.1.toNat++be 8 e.2.2.toNat)
theorem q3C (e:En):(q4B e).length=24:=by simp[q4B,q0I]
def q9Q (s:List UInt8):Option En:=
 if s.length=24∧q1F ((s.drop 8).take 8)≤9223372036854775807∧q1F (s.drop 16)≤9223372036854775807 then some ((q1F (s.take 8):Int),(q1F ((s.drop 8).take 8):Int),(q1F (s.drop 16):Int)) else none
theorem z4H (e:En):(q4B e).take 8=be 8 e.1.toNat∧((q4B e).drop 8).take 8=be 8 e.2.1.toNat∧(q4B e).drop 16=be 8 e.2.2.toNat:=by
 have h1:=q0I 8 e.1.toNat;have h2:=q0I 8 e.2.1.toNat;refine ⟨?_,?_,?_⟩
 ·unfold q4B;exact List.take_left' h1
 ·unfold q4B;rw[List.drop_left' h1];exact List.take_left' h2
 ·unfold q4B
  rw[←List.append_assoc];exact List.drop_left' (by rw[List.length_append,h1,h2])
theorem z2C {e:En} (h:q3J e=true):q9Q (q4B e)=some e:=by
 obtain ⟨a0,a1,b0,b1,c0,c1⟩:=okEn_iff.1 h;obtain ⟨p1,p2,p3⟩:=z4H e;have u: ∀x:Int,0≤x→x<18446744073709551616→q1F (be 8 x.toNat)=x.toNat:=fun x h0 h1=>by
  rw[q4x];exact Nat.mod_eq_of_lt (by omega)
 unfold q9Q;rw[p1,p2,p3,u _ a0 a1,u _ b0 (by omega),u _ c0 (by omega),q3C,if_pos (by omega)];obtain ⟨x,y,z⟩:=e;simp only at*
 congr 2
 ·omega
 ·congr 1
  ·omega
  ·omega
def z1R :List UInt8:=[112,116,97,98]
def z2N (l:List En):List UInt8:=z1R++(be 4 l.length++(l.map q4B).flatten)
def q8M (l:List En):List UInt8:=q1M (z2N l)
theorem q3p (l:List En):((l.map q4B).flatten).length=24*l.length:=by
 induction l with
 |nil=>rfl
 |cons e r ih=>rw[List.map_cons,List.flatten_cons,List.length_append,q3C,ih,List.length_cons];omega
theorem q6y (l:List En):(z2N l).length=8+24*l.length:=by
 unfold z2N z1R;rw[List.length_append,List.length_append,q0I,q3p];simp;omega
theorem q4u (l:List En):(q8M l).length=12+24*l.length:=by unfold q8M;rw[q1D,q6y];omega
def q1x :Nat→List UInt8→Option (List En)
 |0,_=>none
 | f+1,s=>if s=[] then some [] else match q9Q (s.take 24) with
  |none=>none
  |some e=>(q1x f (s.drop 24)).map (e::·)
def q8G (s:List UInt8):Option (List En):=
 if q1q s∧8≤s.length-4∧s.take 4=z1R∧((s.take (s.length-4)).drop 8).length=q1F (((s.take (s.length-4)).drop 4).take 4)*24 then
  match q1x (s.length+1) ((s.take (s.length-4)).drop 8) with
  |none=>none
  |some l=>if q3w l then some l else none
 else none
theorem q8H : ∀(l:List En) (f:Nat),l.length<f→(∀e∈l,q3J e=true)→q1x f ((l.map q4B).flatten)=some l
 | [],f+1,_,_=>by
  show (if ([]:List UInt8)=[] then some [] else _)=some [];rw[if_pos rfl]
 |[],0,h,_=>by simp at h
 |e::r,0,h,_=>by simp at h
 | e::r,f+1,h,ho=>by
  have h1:=q3C e;unfold q1x;rw[List.map_cons,List.flatten_cons,if_neg (fun k=>by have:=congrArg List.length k;rw[List.length_append,h1] at this;simp at this),List.take_left' h1,List.drop_left' h1,z2C (ho e List.mem_cons_self)];show (q1x f ((r.map q4B).flatten)).map (e::·)=_;rw[q8H r f (by simp at h;omega) fun x hx=>ho x (List.mem_cons_of_mem _ hx)]
  rfl
theorem z3M (x:List UInt8):q1q (q1M x)=true:=by
 unfold q1q;have h1:(q1M x).take ((q1M x).length-4)=x:=by rw[q1D];unfold q1M;exact List.take_left' (by omega)
 rw[h1,decide_eq_true (by rw[q1D];omega),decide_eq_true rfl];rfl
theorem z8E {l:List En} (hs:q0q l) (ho: ∀e∈l,q3J e=true) (hl:l.length<4294967296):q8G (q8M l)=some l:=by
 have h1:(q8M l).take ((q8M l).length-4)=z2N l:=by unfold q8M;rw[q1D];unfold q1M;exact List.take_left' (by omega)
 have hc:=q6y l;have h2:(z2N l).drop 8=(l.map q4B).flatten:=by
  unfold z2N;rw[←List.append_assoc];exact List.drop_left' (by rw[List.length_append,q0I];rfl)
 have h3:((z2N l).drop 4).take 4=be 4 l.length:=by
  unfold z2N;rw[show (z1R++(be 4 l.length++(l.map q4B).flatten)).drop 4=be 4 l.length++(l.map q4B).flatten from List.drop_left' rfl];exact List.take_left' (q0I 4 _)
 have h4:(q8M l).take 4=z1R:=by
  unfold q8M q1M z2N;rw[List.append_assoc];exact List.take_left' rfl
 have hob:q1q (q8M l)=true:=z3M _;unfold q8G;rw[h1,h2,h3,h4,q4x,q3p,q4u,if_pos ⟨hob,by omega,rfl,by rw[Nat.mod_eq_of_lt (by omega)];omega⟩,q8H l _ (by omega) ho];show (if q3w l then some l else none)=some l;rw[if_pos ((q2x l).2 hs)]
theorem y0u {l:List En} {i:Nat} {e:En} (h:l[i]? =some e):((q8M l).drop (8+24*i)).take 24=q4B e:=by
 obtain ⟨hi,rfl⟩:=List.getElem?_eq_some_iff.1 h;have e1:l=l.take i++l[i]::l.drop (i+1):=by rw[List.getElem_cons_drop];exact (List.take_append_drop _ _).symm
 have e2:q8M l=(z1R++(be 4 l.length++((l.take i).map q4B).flatten))++(q4B l[i]++((((l.drop (i+1)).map q4B).flatten)++q7a (q1Y (z2N l)))):=by
  have h5:(l.map q4B).flatten=((l.take i).map q4B).flatten++(q4B l[i]++((l.drop (i+1)).map q4B).flatten):=by
   conv=>lhs;rw[e1]
   rw[List.map_append,List.map_cons,List.flatten_append,List.flatten_cons]
  have h6:z2N l=z1R++(be 4 l.length++(((l.take i).map q4B).flatten++(q4B l[i]++((l.drop (i+1)).map q4B).flatten))):=by rw[←h5];rfl
  unfold q8M q1M;generalize q7a (q1Y (z2N l))=Q;rw[h6];simp only[List.append_assoc]
 have e3:(z1R++(be 4 l.length++((l.take i).map q4B).flatten)).length=8+24*i:=by
  rw[List.length_append,List.length_append,q0I,q3p,List.length_take,Nat.min_eq_left (by omega)];show 4+(4+24*i)=_;omega
 rw[e2,List.drop_left' e3];exact List.take_left' (q3C _)
end
section
open Go.RowKit
def lbE (l:List En) (x:En):Nat:=(l.filter fun e=>q0e e x).length
theorem q4M (l:List En) (x:En):lbE l x≤l.length:=List.length_filter_le _ _
theorem q3Y : ∀{l:List En} (x:En),q0q l→ ∀{i:Nat} {e:En},l[i]? =some e→q0e e x=decide (i<lbE l x)
 |[],x,_,i,e,h=>by simp at h
 | a :: r,x,hs,i,e,h=>by
  obtain ⟨h1,h2⟩:=List.pairwise_cons.1 hs;by_cases ha:q0e a x=true
  ·have hl:lbE (a::r) x=lbE r x+1:=by unfold lbE;rw[List.filter_cons_of_pos (p:=fun e=>q0e e _) ha];rfl
   rw[hl]
   cases i with
   | zero=>
    simp only[List.getElem?_cons_zero,Option.some.injEq] at h;subst h;rw[ha];simp
   | succ i=>
    rw[List.getElem?_cons_succ] at h;rw[q3Y x h2 h,decide_eq_decide];omega
  ·have ha':q0e a x=false:=by simpa using ha
   have hall: ∀b∈r,q0e b x=false:=fun b hb=>by
    cases hbx:q0e b x with
    |false=>rfl
    |true=>exact absurd (q1K (h1 b hb) hbx) ha
   have hl:lbE (a::r) x=0:=by
    unfold lbE;rw[List.filter_cons_of_neg (p:=fun e=>q0e e x) ha,List.filter_eq_nil_iff.2 fun b hb=>by rw[hall b hb];decide]
    rfl
   rw[hl]
   cases i with
   | zero=>
    simp only[List.getElem?_cons_zero,Option.some.injEq] at h;subst h;rw[ha'];rfl
   | succ i=>
    rw[List.getElem?_cons_succ] at h;rw[hall e (List.mem_of_getElem? h)];simp
def q3u (many:Nat):Nat→List En→List (En×Nat)
 |_,[]=>[]
 |i,e::r=>if i % 8=0∨i+1=many then (e,i)::q3u many (i+1) r else q3u many (i+1) r
def q2Y (l:List En):List (En×Nat):=q3u l.length 0 l
def q0n (many:Nat) (x:En):Nat→List (En×Nat)→Nat×Nat
 |lo,[]=>(lo,max lo many)
 |lo,(e,a)::r=>if q0e e x then q0n many x (min a (many-1)+1) r else (lo,max lo (min a many))
theorem q7T {l:List En} (x:En) (hs:q0q l): ∀(r:List En) (i lo:Nat),r=l.drop i→i≤l.length→lo≤lbE l x→lo≤i→(i<l.length→(lo=0∧i=0)∨(lo % 8=1∧i≤lo+7))→(i=l.length→lo=l.length)→
  (q0n l.length x lo (q3u l.length i r)).1≤lbE l x∧lbE l x≤(q0n l.length x lo (q3u l.length i r)).2∧(q0n l.length x lo (q3u l.length i r)).2≤(q0n l.length x lo (q3u l.length i r)).1+7∧(q0n l.length x lo (q3u l.length i r)).2≤l.length
 | [],i,lo,hr,hi,h1,h2,h3,h4=>by
  have hl:=q4M l x;have hil:i=l.length:=by
   have:=congrArg List.length hr;rw[List.length_drop] at this;simp at this;omega
  have:=h4 hil;unfold q3u q0n;simp only;omega
 | e :: r,i,lo,hr,hi,h1,h2,h3,h4=>by
  have hl:=q4M l x;have hlt:i<l.length:=by
   have:=congrArg List.length hr;rw[List.length_drop] at this;simp at this;omega
  have he:l[i]? =some e:=by
   have:=congrArg (fun z=>z[0]?) hr
   simpa using this.symm
  have hr':r=l.drop (i+1):=by
   have:=congrArg (List.drop 1) hr;rw[List.drop_drop] at this
   simpa using this
  have hat:=q3Y x hs he;have h5:=h3 hlt;unfold q3u;by_cases hm:i % 8=0∨i+1=l.length
  ·rw [if_pos hm]
   unfold q0n;by_cases hx:q0e e x=true
   ·rw[if_pos hx]
    rw[hx] at hat;have h6:i<lbE l x:=of_decide_eq_true hat.symm;have h7:min i (l.length-1)+1=i+1:=by omega
    rw[h7];exact q7T x hs r (i+1) (i+1) hr' (by omega) (by omega) (Nat.le_refl _) (fun h=> .inr (by omega)) (fun h=>h)
   ·rw[if_neg hx]
    have hx':q0e e x=false:=by simpa using hx
    rw[hx'] at hat;have h6:¬i<lbE l x:=of_decide_eq_false hat.symm;simp only;omega
  ·rw[if_neg hm]
   exact q7T x hs r (i+1) lo hr' (by omega) h1 (by omega) (fun h=>by omega) (fun h=>by omega)
theorem q7F {l:List En} (x:En) (hs:q0q l):(q0n l.length x 0 (q2Y l)).1≤lbE l x∧lbE l x≤(q0n l.length x 0 (q2Y l)).2∧(q0n l.length x 0 (q2Y l)).2≤(q0n l.length x 0 (q2Y l)).1+7∧(q0n l.length x 0 (q2Y l)).2≤l.length:=
 q7T x hs l 0 0 rfl (Nat.zero_le _) (Nat.zero_le _) (Nat.le_refl _) (fun _=> .inl ⟨rfl,rfl⟩) (fun h=>h)
def q0m (l:List En) (h f t:Int):List En:=l.filter fun e=>decide (e.1=h)&&decide (f≤e.2.1)&&decide (e.2.1≤t)
def inE (h t:Int) (e:En):Bool:=decide (e.1=h)&&decide (e.2.1≤t)
theorem q3a : ∀{l:List En} {h f t:Int},q0q l→(∀e∈l,q3J e=true)→q0m l h f t=(l.drop (lbE l (h,f,0))).takeWhile (inE h t)
 |[],h,f,t,_,_=>rfl
 | a :: r,h,f,t,hs,ho=>by
  obtain ⟨h1,h2⟩:=List.pairwise_cons.1 hs;have oa:=okEn_iff.1 (ho a List.mem_cons_self);have ho': ∀e∈r,q3J e=true:=fun e he=>ho e (List.mem_cons_of_mem _ he)
  by_cases ha:q0e a (h,f,0)=true
  ·have hl:lbE (a::r) (h,f,0)=lbE r (h,f,0)+1:=by unfold lbE;rw[List.filter_cons_of_pos (p:=fun e=>q0e e _) ha];rfl
   have hna:(decide (a.1=h)&&decide (f≤a.2.1)&&decide (a.2.1≤t))=false:=by
    rw[lessE_iff] at ha;simp only at ha;rw[Bool.and_eq_false_iff,Bool.and_eq_false_iff,decide_eq_false_iff_not,decide_eq_false_iff_not];omega
   rw[hl,List.drop_succ_cons,←q3a h2 ho'];unfold q0m;rw[List.filter_cons_of_neg (by rw[hna];decide)]
  ·have ha':q0e a (h,f,0)=false:=by simpa using ha
   have hnl:¬(a.1<h∨(a.1=h∧(a.2.1<f∨(a.2.1=f∧a.2.2<0)))):=fun k=>by rw[lessE_iff.2 k] at ha';cases ha'
   have hl:lbE (a::r) (h,f,0)=0:=by
    have: ∀b∈a::r,¬q0e b (h,f,0)=true:=fun b hb hbx=>by
     rcases List.mem_cons.1 hb with rfl|hb
     ·exact ha hbx
     ·exact ha (q1K (h1 b hb) hbx)
    unfold lbE;rw[List.filter_eq_nil_iff.2 this];rfl
   rw[hl,List.drop_zero];by_cases hin:inE h t a=true
   ·have hin2:=hin
    unfold inE at hin2;rw[Bool.and_eq_true,decide_eq_true_eq,decide_eq_true_eq] at hin2;have hl2:lbE r (h,f,0)=0:=by
     have: ∀b∈r,¬q0e b (h,f,0)=true:=fun b hb hbx=>ha (q1K (h1 b hb) hbx)
     unfold lbE;rw[List.filter_eq_nil_iff.2 this];rfl
    have ih:=q3a (h:=h) (f:=f) (t:=t) h2 ho';rw[hl2,List.drop_zero] at ih;rw[List.takeWhile_cons_of_pos hin,←ih];unfold q0m;rw[List.filter_cons_of_pos (by simp only[Bool.and_eq_true,decide_eq_true_eq];omega)]
   ·rw [List.takeWhile_cons_of_neg hin]
    have hin2:¬(a.1=h∧a.2.1≤t):=fun k=>hin (by unfold inE;simp only[Bool.and_eq_true,decide_eq_true_eq];exact k)
    unfold q0m;refine List.filter_eq_nil_iff.2 fun b hb hbx=>?_
    simp only[Bool.and_eq_true,decide_eq_true_eq] at hbx;rcases List.mem_cons.1 hb with rfl|hb
    ·omega
    ·have:=lessE_iff.1 (h1 b hb)
     omega
def q2p (l:List En) (h t:Int):Option En:=(l.filter (inE h t)).getLast?
theorem z6Q {l:List En} {h t:Int} (hs:q0q l) (ho: ∀e∈l,q3J e=true):q2p l h t=if lbE l (h,t+1,0)=0 then none else match l[lbE l (h,t+1,0)-1]? with
  |none=>none
  |some e=>if e.1=h then some e else none:=by
 obtain ⟨n,hn⟩: ∃n,lbE l (h,t+1,0)=n:=⟨_,rfl⟩
 have hle:=q4M l (h,t+1,0);rw[hn] at hle⊢;have hsplit:l=l.take n++l.drop n:=(List.take_append_drop _ _).symm;have htail:(l.drop n).filter (inE h t)=[]:=by
  refine List.filter_eq_nil_iff.2 fun b hb hbx=>?_
  obtain ⟨i,hi⟩:=List.getElem?_of_mem hb;rw[List.getElem?_drop] at hi;have h1:=q3Y (h,t+1,0) hs hi;rw[hn] at h1;have h2:q0e b (h,t+1,0)=false:=by rw[h1];simp
  unfold inE at hbx;simp only[Bool.and_eq_true,decide_eq_true_eq] at hbx;have h3:q0e b (h,t+1,0)=true:=by rw[lessE_iff];simp only;omega
  rw[h2] at h3;cases h3
 unfold q2p
 conv=>lhs;rw[hsplit]
 rw[List.filter_append,htail,List.append_nil];by_cases h0:n=0
 ·subst h0;rfl
 rw[if_neg h0];obtain ⟨e,he⟩: ∃e,l[n-1]? =some e:=⟨l[n-1],List.getElem?_eq_getElem (by omega)⟩
 rw[he];have htk:l.take n=l.take (n-1)++[e]:=by
  obtain ⟨hk,hke⟩:=List.getElem?_eq_some_iff.1 he;have:=List.take_succ_eq_append_getElem hk;rw[hke,show n-1+1=n by omega] at this;exact this
 have hless:q0e e (h,t+1,0)=true:=by
  have h1:=q3Y (h,t+1,0) hs he;rw[hn] at h1;rw[h1];simp;omega
 have oe:=okEn_iff.1 (ho e (List.mem_of_getElem? he));rw[lessE_iff] at hless;simp only at hless;rw[htk,List.filter_append];show (_++[e].filter (inE h t)).getLast? =(if e.1=h then some e else none);by_cases hh:e.1=h
 ·have hin:inE h t e=true:=by unfold inE;simp only[Bool.and_eq_true,decide_eq_true_eq];omega
  rw[if_pos hh,List.filter_cons_of_pos hin];simp
 ·have hin:¬inE h t e=true:=fun k=>by unfold inE at k;simp only[Bool.and_eq_true,decide_eq_true_eq] at k;exact hh k.1
  have hrest:(l.take (n-1)).filter (inE h t)=[]:=by
   refine List.filter_eq_nil_iff.2 fun b hb hbx=>?_
   unfold inE at hbx;simp only[Bool.and_eq_true,decide_eq_true_eq] at hbx;have hp:(l.take n).Pairwise fun a b=>q0e a b=true:=hs.sublist (List.take_sublist _ _)
   rw[htk] at hp;have:=(List.pairwise_append.1 hp).2.2 b hb e (by simp);rw[lessE_iff] at this;omega
  rw[if_neg hh,List.filter_cons_of_neg hin,hrest]
  rfl
end
section
open Go.RowKit
def en0 :En:=(0,0,0)
def ec (e:En):List Value:=[.int .u64 e.1,.int .i64 e.2.1,.int .i64 e.2.2]
def enV (e:En):Value:= .agg (ec e).toArray
def ecs (L:List En):List Value:=L.flatMap ec
theorem q1V (L:List En):(ecs L).length=L.length*3:=by
 induction L with
 |nil=>rfl
 |cons k L ih=>unfold ecs at ih⊢;rw[List.flatMap_cons,List.length_append,ih,List.length_cons];simp[ec];omega
theorem z2X (L:List En) (e:En):ecs (L++[e])=ecs L++ec e:=by unfold ecs;simp
theorem q2s (L M:List En):ecs (L++M)=ecs L++ecs M:=by unfold ecs;simp
theorem q4c (e:En) (L:List En):ecs (e::L)=ec e++ecs L:=rfl
theorem z3H : ∀(L:List En) (i j:Nat),i<L.length→j<3→(ecs L)[i*3+j]? =(ec (L.getD i en0))[j]?
 |[],i,j,h,_=>by simp at h
 | k::L,0,j,_,hj=>by
  rw[q4c,List.getElem?_append_left (by simp[ec];omega)];simp
 | k::L,i+1,j,h,hj=>by
  rw[q4c,List.getElem?_append_right (by simp[ec];omega),show (i+1)*3+j-(ec k).length=i*3+j from by simp[ec];omega,z3H L i j (by simpa using h) hj];simp
theorem q3c (L:List En): ∀u∈ecs L,u.oneCell'=true:=fun u hu=>by
 unfold ecs at hu;obtain ⟨f,_,hf⟩:=List.mem_flatMap.1 hu;unfold ec at hf;simp only[List.mem_cons,List.not_mem_nil,or_false] at hf;rcases hf with rfl|rfl|rfl<;>rfl
structure Ens (w:World) (ao:Option Addr) (n cap:Nat) (L:List En):Prop where
 len:L.length=n
 fits:n≤cap
 bound:cap≤9223372036854775807
 nil:ao=none→cap=0
 rd:Rd w ao (ecs L)
theorem Ens.ext {w w':World} {ao:Option Addr} {n cap:Nat} {L:List En} (h:Ens w ao n cap L) (k:Ext w w'):Ens w' ao n cap L:=⟨h.len,h.fits,h.bound,h.nil,h.rd.ext k⟩
theorem Ens.at {w:World} {ao:Option Addr} {n cap:Nat} {L:List En} (h:Ens w ao n cap L) {i:Nat} (hi:i<n):
  ∃b off,ao=some ⟨b,off,none⟩∧w.cell? ⟨b,off+i*3,none⟩=some (.int .u64 (L.getD i en0).1)∧w.cell? ⟨b,off+i*3+1,none⟩=some (.int .i64 (L.getD i en0).2.1)∧w.cell? ⟨b,off+i*3+2,none⟩=some (.int .i64 (L.getD i en0).2.2):=by
 have hl:=h.len;have k0:=z3H L i 0 (by omega) (by decide);have k1:=z3H L i 1 (by omega) (by decide);have k2:=z3H L i 2 (by omega) (by decide);obtain ⟨b,off,rfl,h0⟩:=h.rd _ _ k0;obtain ⟨_,_,e1,h1⟩:=h.rd _ _ k1
 cases e1;obtain ⟨_,_,e2,h2⟩:=h.rd _ _ k2
 cases e2;exact ⟨b,off,rfl,h0,h1,h2⟩
theorem Ens.of_own {w:World} {B:Nat} {e:TypeId} {v:Value} {L:List En} (h:Own w B e 3 v L.length (ecs L)): ∃ao cap,v= .slice ao L.length cap∧Ens w ao L.length cap L:=by
 obtain ⟨ao,cap,rfl,h1,h2,h3,h4⟩:=h.rd;exact ⟨ao,cap,rfl,rfl,h1,h2,h3,h4⟩
theorem Ens.cut {w:World} {ao:Option Addr} {n cap:Nat} {L:List En} (h:Ens w ao n cap L) {k:Nat} (hk:k≤n):Ens w ao k cap (L.take k):=
 ⟨by rw[List.length_take,h.len];omega,Nat.le_trans hk h.fits,h.bound,h.nil,by
  have:=h.rd.take (k*3);have e:(ecs L).take (k*3)=ecs (L.take k):=by
   conv=>lhs;rw[←List.take_append_drop k L,q2s]
   exact List.take_left' (by rw[q1V,List.length_take,h.len];omega)
  rwa [e] at this⟩
end
section
open Go.RowKit
end
section
open Go.RowKit
def q2d (s:List UInt8):List UInt8:=if s.length≤65535 then be 2 s.length++s else []
theorem q2V {s:List UInt8} (h:s.length≤65535):q2d s=be 2 s.length++s:=by unfold q2d;rw[if_pos h]
theorem z7d {s:List UInt8} (h:¬s.length≤65535):q2d s=[]:=by unfold q2d;rw[if_neg h]
end
section
open Go.RowKit
end
section
open Go.RowKit
end
section
open Go.RowKit
end
section
open Go.RowKit
theorem z5S (s:List UInt8) (w:World) (hl:s.length≤4611686018427387903):
  Calls Tryz.prog 69 #[.string ⟨s.toArray⟩] w fun e w'=>e= .returned (.string ⟨(q2d s).toArray⟩)∧Ext w w':=by
 by_cases h:65535<(s.length:Int)
 ·have HT:=η5 (z7d (s:=s) (by omega))
  go_enter Tryz.func69,Tryz.ntmps69;go_wp2_with fail;go_ret;exact ⟨by rw[HT.out];rfl,Ext.refl _⟩
 ·have HT:=η5 (q2V (s:=s) (by omega))
  have h':(s.length:Int)≤65535:=by omega
  clear h;go_enter Tryz.func69,Tryz.ntmps69;go_wp2_with fail;refine (y0G s.length 2 2 _ rfl (by decide) (by decide) (by omega)).mono ?_;rintro e w1 ⟨rfl,hb⟩;have HB:=η5 hb;clear hb;have hbl:=q0I 2 s.length;go_wp2_with fail;go_ret;exact ⟨by rw[HT.out,ByteArray.mk_append_mk];simp,HB.out⟩
end
section
open Go.RowKit
theorem z5Q {s:List UInt8} {e:En} (h:q9Q s=some e):s=q4B e∧q3J e=true:=by
 unfold q9Q at h
 split at h
 ·rename_i hc
  obtain ⟨h1,h2,h3⟩:=hc;have he:=(Option.some.inj h).symm;subst he;have b1:=q1p (s.take 8);rw[List.length_take,Nat.min_eq_left (by omega)] at b1;refine ⟨?_,okEn_iff.2 (by simp only;omega)⟩;have l1:(s.take 8).length=8:=by simp;omega
  have l2:((s.drop 8).take 8).length=8:=by simp;omega
  have l3:(s.drop 16).length=8:=by simp;omega
  have e1:=q8p (s.take 8);have e2:=q8p ((s.drop 8).take 8);have e3:=q8p (s.drop 16);rw[l1] at e1;rw[l2] at e2;rw[l3] at e3;unfold q4B;simp only[Int.toNat_natCast];rw[e1,e2,e3];have:s.drop 16=(s.drop 8).drop 8:=by rw[List.drop_drop]
  rw[this,List.take_append_drop,List.take_append_drop]
 ·cases h
theorem q8E : ∀(f:Nat) (s:List UInt8) (l:List En),q1x f s=some l→s=(l.map q4B).flatten∧ ∀e∈l,q3J e=true
 |0,s,l,h=>by cases h
 | f + 1, s,l,h=>by
  unfold q1x at h
  split at h
  ·rename_i hs
   cases h;exact ⟨by rw[hs];rfl,fun e he=>by cases he⟩
  ·cases hg:q9Q (s.take 24) with
   |none=>rw[hg] at h;cases h
   | some e=>
    rw[hg] at h;simp only at h
    cases hr:q1x f (s.drop 24) with
    |none=>rw[hr] at h;cases h
    | some r=>
     rw[hr] at h;obtain ⟨h1,h2⟩:=q8E f _ _ hr;have he:e::r=l:=by simpa using h
     subst he;obtain ⟨h3,h4⟩:=z5Q hg;refine ⟨?_,fun x hx=>?_⟩
     ·rw[List.map_cons,List.flatten_cons,←h3,←h1,List.take_append_drop]
     ·rcases List.mem_cons.1 hx with rfl|hx
      ·exact h4
      ·exact h2 x hx
theorem q7M {s:List UInt8} {l:List En} (h:q8G s=some l):s=q8M l∧q0q l∧(∀e∈l,q3J e=true)∧l.length<4294967296:=by
 unfold q8G at h
 split at h
 ·rename_i hc
  obtain ⟨h1,h2,h3,h4⟩:=hc
  cases hg:q1x (s.length+1) ((s.take (s.length-4)).drop 8) with
  |none=>rw[hg] at h;cases h
  | some l'=>
   rw[hg] at h;simp only at h
   split at h
   ·rename_i hs
    have:=Option.some.inj h;subst this;obtain ⟨h5,h6⟩:=q8E _ _ _ hg;have hlen:=q3p l';rw[←h5] at hlen;rw[hlen] at h4;obtain ⟨t,ht⟩: ∃t,s.take (s.length-4)=t:=⟨_,rfl⟩
    have lt:t.length=s.length-4:=by rw[←ht];simp
    rw[ht] at h4 h5 hlen;have l4:((t.drop 4).take 4).length=4:=by simp;omega
    have b4:=q1p ((t.drop 4).take 4);rw[l4] at b4;have hn:q1F ((t.drop 4).take 4)=l'.length:=by omega
    have e4:=q8p ((t.drop 4).take 4);rw[l4,hn] at e4;have hT:t=z2N l':=by
     unfold z2N;rw[e4,←h5];have q1:s.take 4=t.take 4:=by rw[←ht,List.take_take];congr 1;omega
     rw[←h3,q1];have q2:t.drop 8=(t.drop 4).drop 4:=by rw[List.drop_drop]
     rw[q2,List.take_append_drop,List.take_append_drop]
    refine ⟨?_,(q2x _).1 hs,h6,by omega⟩;unfold q8M;rw[←hT,←ht];unfold q1q at h1;simp at h1;exact h1.2.symm
   ·cases h
 ·cases h
theorem z8M {s:List UInt8} {L:List En} (h:q8G s=some L) (hs:s.length≤1048576):L.length≤50000:=by
 obtain ⟨h1,_⟩:=q7M h;have:=q4u L;rw[←h1] at this;omega
theorem z9b {L:List En} (ho: ∀e∈L,q3J e=true) {i:Nat} (hi:i<L.length):q9Q (((q8M L).drop (8+24*i)).take 24)=some L[i]:=by
 rw[y0u (List.getElem?_eq_getElem hi)];exact z2C (ho _ (List.getElem_mem hi))
end
end Go.Proofs.YthdekbmdkpcooaaGreatDoor
