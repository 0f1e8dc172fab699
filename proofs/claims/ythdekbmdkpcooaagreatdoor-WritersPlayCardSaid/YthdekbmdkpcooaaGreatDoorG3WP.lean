/- Walks. -/
import Derived.Test.YthdekbmdkpcooaaGreatDoorChecked
import Derived.Test.YthdekbmdkpcooaaGreatDoorG2WP
import Derived.Laws.FloatArith
set_option linter.unusedVariables false
set_option linter.unusedSimpArgs false
set_option maxRecDepth 100000
set_option maxHeartbeats 6400000
namespace Go.Proofs.YthdekbmdkpcooaaGreatDoor
theorem η3 {p:Prop} (h:p):Go.RowKit.Hid p:=Lib.hid h
section
open Go.RowKit
theorem Tryz.infoU8 :(Tryz.prog.info? 5).map (fun i=>(i.zero,i.size,i.bytes))=some (some (.int .u8 0),1,1):=by kernel_rfl
theorem q6j (X:Int) (n:Nat) (w:World) (h1:1≤n) (h8:n≤8) (hx0:0≤X) (hX:X<18446744073709551616):
  Calls Tryz.prog 70 #[.int .u64 X,.int .i64 n] w fun e w'=>e= .returned (.string ⟨(be n X.toNat).toArray⟩)∧Ext w w':=by
 obtain ⟨i,hi,hz,hsize,hby⟩:=info_parts Tryz.infoU8;have hXx:X=(X.toNat:Int):=by omega
 have HXx:=η3 hXx;clear hXx;generalize X.toNat=x at*;go_enter Tryz.func70,Tryz.ntmps70
 go_wp2_with (at_make;refine wpList_make_full _ rfl _ _ 154 rfl w.heap.size 5 i (.int .u8 0) 1 Tryz.underlying154 hi hz hsize .i64 .i64 _ _ n rfl rfl rfl rfl (by rw[hby];omega) (by unfold maxLen;omega) (Nat.le_refl _) ?_;intro w2 hown hg)
 clear hi hz hsize hby;have ho:=Own.of_row hown;rw[Nat.mul_one,show (madeCells (Value.int .u8 0).cells n).toList=List.replicate n (.int .u8 0) from toList_madeCells_one _ _] at ho;have hb0:Ext w w2:=(Ext.refl w).grown hg (Nat.le_refl _) (fun k hk=>by cases hk);have HO:=η3 ho;have HB0:=η3 hb0;clear hown hg ho hb0
 go_loopw [16] (fun i w'=> ∃k:Nat,k≤n∧i= .int .i64 k∧Own w' w.heap.size 5 1 (.slice (some ⟨w.heap.size,0,none⟩) n n) n (List.replicate (n-k) (.int .u8 0)++(be k x).map q1M)∧Ext w w') (fun i _=>n-(intOf i).toNat)
 case atStart=>exact ⟨0,Nat.zero_le _,rfl,by simpa [be] using HO.out,HB0.out⟩
 case round=>
  clear HO HB0;obtain ⟨k,hk,rfl,ho,hb⟩:=hrel;have Hb:=η3 hb;have HO:=η3 ho;by_cases hlt:k<n
  ·obtain ⟨g,c,u,e,d1,d2,d3⟩:=ho.cellE (j:=n-1-k) (by omega)
   cases e;have hst:=ho.stored (g:=w.heap.size) (cap:=n) rfl (j:=n-1-k) (.int .u8 ((UInt8.ofNat (x/256^k)).toNat:Int));have hset:(List.replicate (n-k) (Value.int .u8 0)++(be k x).map q1M).set (n-1-k) (.int .u8 ((UInt8.ofNat (x/256^k)).toNat:Int))=List.replicate (n-(k+1)) (.int .u8 0)++(be (k+1) x).map q1M:=by
    rw[show n-k=(n-(k+1))+1 from by omega,show n-1-k=n-(k+1) from by omega,z9K]
    rfl
   rw[hset,←z7s,←HXx.out] at hst;have hbs:=hb.setCell (p:=⟨w.heap.size,n-1-k,none⟩) (Nat.le_refl _) (.int .u8 (X/2^(8*k) % 256));have HS:=η3 hst;have HBS:=η3 hbs;clear ho hb hst hset hbs;go_wp2_with fail
   go_roundw
   case rel=>exact ⟨k+1,by omega,by go_num,HS.out,HBS.out⟩
   case measure=>simp[intOf];omega
  ·have hkn:k=n:=by omega
   rw[hkn,Nat.sub_self,List.replicate_zero,List.nil_append] at ho;have hcv:=q2d (P:=Tryz.prog) wr 154 9 5 (a:=⟨w.heap.size,0,none⟩) (n:=n) (cap:=n) Tryz.underlying154 Tryz.underlying5 Tryz.underlying9 (q0H n x) (by obtain ⟨_,_,e,_,_,_,r⟩:=ho.rd;cases e;exact r);clear hkn ho hb;go_wp2_with fail;go_ret;exact ⟨rfl,Hb.out⟩
theorem z8A (X:Int) (n:Nat) (w:World) (h1:1≤n) (h8:n≤8) (hx0:0≤X) (hX:X<18446744073709551616):
  Calls Tryz.prog 83 #[.int .u64 X,.int .i64 n] w fun e w'=>e= .returned (.string ⟨(be n X.toNat).toArray⟩)∧Ext w w':=by
 go_enter Tryz.func83,Tryz.ntmps83;go_wp2_with fail
 go_loopw [0,5,6] (fun v s i w'=> ∃(k:Nat) (Z:Int),k≤n∧i= .int .i64 k∧v= .int .u64 Z∧0≤Z∧Z<18446744073709551616∧Z.toNat=X.toNat/256^k∧s= .string ⟨(be k X.toNat).toArray⟩∧Ext w w') (fun _ _ i _=>n-(intOf i).toNat)
 case atStart=>exact ⟨0,X,Nat.zero_le _,rfl,rfl,hx0,hX,by simp,rfl,Ext.refl _⟩
 case round=>
  obtain ⟨k,Z,hk,rfl,rfl,hz0,hz1,hzx,rfl,hb⟩:=hrel;have Hb:=η3 hb;have HZ:=η3 hzx;clear hb hzx;have hbl:(be k X.toNat).length≤8:=by rw[q0H];omega
  generalize hL:be k X.toNat=L at*;have HL:=η3 hL;clear hL;by_cases hlt:k<n
  ·have hby:Z % 256=((UInt8.ofNat (X.toNat/256^k)).toNat:Int):=by
    rw[←HZ.out,UInt8.toNat_ofNat'];omega
   have hcv:=q8l (P:=Tryz.prog) wr 154 9 5 (Z % 256) _ Tryz.underlying154 Tryz.underlying5 Tryz.underlying9 hby;have hbe:be (k+1) X.toNat=UInt8.ofNat (X.toNat/256^k)::L:=by rw[←HL.out];rfl
   have HBE:=η3 hbe;have hz2:(Z/256).toNat=X.toNat/256^(k+1):=by rw[Nat.pow_succ,←Nat.div_div_eq_div_mul,←HZ.out];omega
   have HZ2:=η3 hz2;clear hby hbe hz2;generalize UInt8.ofNat (X.toNat/256^k)=b at*;go_wp2_with fail
   go_roundw
   case rel=>exact ⟨k+1,Z/256,by omega,by go_num,rfl,by omega,by omega,HZ2.out,by rw[HBE.out];simp[ByteArray.mk_append_mk],Hb.out.alloc _⟩
   case measure=>simp[intOf];omega
  ·have hkn:k=n:=by omega
   have HK:=η3 hkn;clear hkn;go_wp2_with fail;go_ret;exact ⟨by rw[←HK.out,HL.out];rfl,Hb.out⟩
theorem z3s (X N:Int) (k:Nat) (w:World) (hN:N=(k:Int)) (h1:1≤N) (h8:N≤8) (hx0:0≤X) (hX:X<18446744073709551616):
  Calls Tryz.prog 70 #[.int .u64 X,.int .i64 N] w fun e w'=>e= .returned (.string ⟨(be k X.toNat).toArray⟩)∧Ext w w':=by
 subst hN;exact q6j X k w (by omega) (by omega) hx0 hX
theorem y1i (x:Nat) (N:Int) (k:Nat) (w:World) (hN:N=(k:Int)) (h1:1≤N) (h8:N≤8) (hX:(x:Int)<18446744073709551616):
  Calls Tryz.prog 70 #[.int .u64 (x:Int),.int .i64 N] w fun e w'=>e= .returned (.string ⟨(be k x).toArray⟩)∧Ext w w':=by
 have h:=z3s (x:Int) N k w hN h1 h8 (by omega) hX
 rwa [Int.toNat_natCast] at h
theorem z3E (X N:Int) (k:Nat) (w:World) (hN:N=(k:Int)) (h1:1≤N) (h8:N≤8) (hx0:0≤X) (hX:X<18446744073709551616):
  Calls Tryz.prog 83 #[.int .u64 X,.int .i64 N] w fun e w'=>e= .returned (.string ⟨(be k X.toNat).toArray⟩)∧Ext w w':=by
 subst hN;exact z8A X k w (by omega) (by omega) hx0 hX
theorem q9Z (l:List UInt8) (w:World) (hl:l.length≤9223372036854775807):
  Calls Tryz.prog 141 #[.string ⟨l.toArray⟩] w fun e w'=>e= .returned (.int .u64 (q1H (l.take 8)))∧Ext w w':=by
 obtain ⟨m,hm⟩: ∃m:Nat,m=min l.length 8:=⟨_,rfl⟩
 have hmin:(if (8:Int)<(l.length:Int) then (8:Int) else (l.length:Int))=(m:Int):=by split<;>omega
 have hm1:m≤l.length:=by omega
 have hm8:m≤8:=by omega
 have htk:l.take 8=l.take m:=by
  rw[hm];rcases Nat.le_total l.length 8 with h|h
  ·rw[Nat.min_eq_left h,List.take_of_length_le h,List.take_length]
  ·rw[Nat.min_eq_right h]
 have HTK:=η3 htk;clear hm htk;go_enter Tryz.func141,Tryz.ntmps141;go_wp2_with fail;clear hmin
 go_loopw [3,8] (fun v i w'=> ∃(k:Nat) (Z:Int),k≤m∧i= .int .i64 k∧v= .int .u64 Z∧Z=(q1H (l.take k):Int)∧Ext w w') (fun _ i _=>m-(intOf i).toNat)
 case atStart=>exact ⟨0,0,Nat.zero_le _,rfl,rfl,rfl,Ext.refl _⟩
 case round=>
  obtain ⟨k,Z,hk,rfl,rfl,hz,hb⟩:=hrel;have Hb:=η3 hb;have HZ:=η3 hz;clear hb;by_cases hlt:k<m
  ·have hz0:0≤Z:=by omega
   have hz1:Z<72057594037927936:=by
    have h1:=q1t (l.take k);have h2:(l.take k).length=k:=by simp;omega
    rw[h2] at h1;have h3:(256:Nat)^k≤256^7:=Nat.pow_le_pow_right (by decide) (by omega);omega
   clear hz;have hkl:k<l.length:=by omega
   go_wp2_with fail
   go_roundw
   case rel=>exact ⟨k+1,_,by omega,by go_num,rfl,by
    have e:=z1H Z l[k] hz0 hz1;rw[show ((⟨l.toArray⟩:ByteArray)[k])=l[k] from rfl,e,HZ.out,List.take_succ_eq_append_getElem hkl,z5a]
    omega,Hb.out⟩
   case measure=>simp[intOf];omega
  ·have hkm:k=m:=by omega
   have HK:=η3 hkm;clear hkm hz;go_wp2_with fail;go_ret;exact ⟨rn (by rw[HTK.out,HZ.out,HK.out]),Hb.out⟩
end
section
open Go.RowKit
theorem y0u (s:BitVec 32) (c:UInt8) (S C:Int) (w:World) (hS:S=(s.toNat:Int)) (hC:C=(c.toNat:Int)):
  Calls Tryz.prog 267 #[.int .u32 S,.int .u8 C] w fun e w'=>e= .returned (.int .u32 ((q3o s c).toNat:Int))∧Ext w w':=by
 have hx:=q4s s (BitVec.ofNat 32 c.toNat);rw[z9n,←hS,←hC] at hx;have HX:=η3 hx;have b1:0≤S:=by omega
 have b2:S<4294967296:=by have:=s.isLt;omega
 have b3:0≤C:=by omega
 have b4:C<256:=by have:=c.toNat_lt;omega
 clear hS hC hx;go_enter Tryz.func267,Tryz.ntmps267;go_wp2_with fail
 go_loopw [0,9] (fun v i w'=> ∃(k:Nat) (V:Int),k≤8∧i= .int .i64 k∧v= .int .u32 V∧V=((q6l k (s^^^BitVec.ofNat 32 c.toNat)).toNat:Int)∧Ext w w') (fun _ i _=>8-(intOf i).toNat)
 case atStart=>exact ⟨0,_,Nat.zero_le _,rfl,rfl,HX.out,Ext.refl _⟩
 case round=>
  obtain ⟨k,V,hk,rfl,rfl,hv,hb⟩:=hrel;have HV:=η3 hv;have Hb:=η3 hb;have v1:0≤V:=by omega
  have v2:V<4294967296:=by have:=(q6l k (s^^^BitVec.ofNat 32 c.toNat)).isLt;omega
  clear hv hb;by_cases hlt:k<8
  ·have hst:=y0P (q6l k (s^^^BitVec.ofNat 32 c.toNat))
   rw[←HV.out] at hst;have HST:=η3 hst;clear hst;go_wp2_with fail
   go_roundw
   case rel=>exact ⟨k+1,_,by omega,by go_num,rfl,HST.out,Hb.out⟩
   case measure=>simp[intOf];omega
  ·have hk8:k=8:=by omega
   have HK:=η3 hk8;clear hk8;go_wp2_with fail;go_ret;exact ⟨rn (by rw[HV.out,HK.out];rfl),Hb.out⟩
theorem y1h (l:List UInt8) (w:World) (hl:l.length≤9223372036854775807):
  Calls Tryz.prog 228 #[.int .u32 0,.string ⟨l.toArray⟩] w fun e w'=>e= .returned (.int .u32 ((q1c l).toNat:Int))∧Ext w w':=by
 go_enter Tryz.func228,Tryz.ntmps228;go_wp2_with fail
 go_loopw [5,11] (fun v i w'=> ∃(k:Nat) (V:Int),k≤l.length∧i= .int .i64 k∧v= .int .u32 V∧V=(((l.take k).foldl q3o (~~~0#32)).toNat:Int)∧Ext w w') (fun _ i _=>l.length-(intOf i).toNat)
 case atStart=>exact ⟨0,_,Nat.zero_le _,rfl,rfl,rfl,Ext.refl _⟩
 case round=>
  obtain ⟨k,V,hk,rfl,rfl,hv,hb⟩:=hrel;have HV:=η3 hv;have Hb:=η3 hb;have v1:0≤V:=by omega
  have v2:V<4294967296:=by have:=((l.take k).foldl q3o (~~~0#32)).isLt;omega
  clear hv hb;by_cases hlt:k<l.length
  ·go_wp2_with fail
   refine (y0u _ l[k] _ _ _ HV.out rfl).mono ?_;rintro e w1 ⟨rfl,hb1⟩;have HB1:=η3 (Hb.out.trans hb1);clear hb1;have hf:(l.take (k+1)).foldl q3o (~~~0#32)=q3o ((l.take k).foldl q3o (~~~0#32)) l[k]:=by
    rw[List.take_succ_eq_append_getElem hlt,List.foldl_append];rfl
   have HF:=η3 hf;clear hf;generalize q3o ((l.take k).foldl q3o (~~~0#32)) l[k]=T at*;go_wp2_with fail
   go_roundw
   case rel=>exact ⟨k+1,_,by omega,by go_num,rfl,by rw[HF.out],HB1.out⟩
   case measure=>simp[intOf];omega
  ·have hkl:l.take k=l:=List.take_of_length_le (by omega)
   have HK:=η3 hkl;clear hkl;go_wp2_with fail;go_ret;exact ⟨rn (by rw[HV.out,HK.out,y1U];rfl),Hb.out⟩
theorem z9m (l:List UInt8) (w:World) (hl:l.length≤9223372036854775807):
  Calls Tryz.prog 183 #[.string ⟨l.toArray⟩] w fun e w'=>e= .returned (.int .u32 ((q1c l).toNat:Int))∧Ext w w':=by
 go_enter Tryz.func183,Tryz.ntmps183;go_wp2_with fail;refine (y1h l _ hl).mono ?_;rintro e w1 ⟨rfl,hb⟩;have HB:=η3 hb;clear hb;go_wp2_with fail;go_ret;exact ⟨rfl,HB.out⟩
def q7v (s:BitVec 32):List UInt8:=(be 4 s.toNat).reverse
theorem be4 (x:Nat):be 4 x=[UInt8.ofNat (x/16777216),UInt8.ofNat (x/65536),UInt8.ofNat (x/256),UInt8.ofNat x]:=by
 simp[be]
theorem z9Q (s:BitVec 32) (S:Int) (w:World) (hS:S=(s.toNat:Int)):
  Calls Tryz.prog 182 #[.int .u32 S] w fun e w'=>e= .returned (.string ⟨(q7v s).toArray⟩)∧Ext w w':=by
 have b1:0≤S:=by omega
 have b2:S<4294967296:=by have:=s.isLt;omega
 have hSn:S.toNat=s.toNat:=by omega
 have HSn:=η3 hSn;clear hS hSn;go_enter Tryz.func182,Tryz.ntmps182;go_wp2_with fail;refine (q6j S 4 _ (by omega) (by omega) b1 (by omega)).mono ?_;rw[be4,HSn.out];rintro e w1 ⟨rfl,hb⟩;have HB:=η3 hb;clear hb;have hlow:q7v s=[UInt8.ofNat s.toNat,UInt8.ofNat (s.toNat/256),UInt8.ofNat (s.toNat/65536),UInt8.ofNat (s.toNat/16777216)]:=by
  unfold q7v;rw[be4];rfl
 have HLow:=η3 hlow;clear hlow;generalize UInt8.ofNat (s.toNat/16777216)=c0 at*;generalize UInt8.ofNat (s.toNat/65536)=c1 at*;generalize UInt8.ofNat (s.toNat/256)=c2 at*;generalize UInt8.ofNat s.toNat=c3 at*;have hcv2:=fun w s=>run_bytes_of_string (P:=Tryz.prog) w 9 154 5 s Tryz.underlying9 Tryz.underlying154 Tryz.underlying5
 go_wp2_with fail;obtain ⟨hrd,hfz,hex⟩:=z1Z w1 5 [c0,c1,c2,c3] (grownCap w1 4 0 5);have HB2:=η3 (HB.out.trans hex);clear hex hcv2;generalize (w1.alloc (Obj.cells (bytesRow {data:=#[c0,c1,c2,c3]} (grownCap w1 4 0 5)) 5 ((bytesRow {data:=#[c0,c1,c2,c3]} (grownCap w1 4 0 5)).size,(bytesRow {data:=#[c0,c1,c2,c3]} (grownCap w1 4 0 5)).size+1))).drew=W at*;have d0:W.cell? ⟨w1.heap.size,0,none⟩=some (.int .u8 (c0.toNat:Int)):=by obtain ⟨_,_,e,h⟩:=hrd 0 _ rfl;cases e;exact h
 have d1:W.cell? ⟨w1.heap.size,1,none⟩=some (.int .u8 (c1.toNat:Int)):=by obtain ⟨_,_,e,h⟩:=hrd 1 _ rfl;cases e;exact h
 have d2:W.cell? ⟨w1.heap.size,2,none⟩=some (.int .u8 (c2.toNat:Int)):=by obtain ⟨_,_,e,h⟩:=hrd 2 _ rfl;cases e;exact h
 have d3:W.cell? ⟨w1.heap.size,3,none⟩=some (.int .u8 (c3.toNat:Int)):=by obtain ⟨_,_,e,h⟩:=hrd 3 _ rfl;cases e;exact h
 have z0:=hfz 0 (by simp);have z1:=hfz 1 (by simp);have z2:=hfz 2 (by simp);have z3:=hfz 3 (by simp);have hg:Hid (w.heap.size≤w1.heap.size):=η3 HB.out.size;generalize w1.heap.size=g at*;clear hrd hfz;have hr4:=z8q d0 d1 d2 d3 (q1M c3) (q1M c2) (q1M c1) (q1M c0);have hcv:=q2d (P:=Tryz.prog) _ 154 9 5 (n:=4) (l:=[c3,c2,c1,c0]) (cap:=grownCap w1 4 0 5) Tryz.underlying154 Tryz.underlying5 Tryz.underlying9 rfl hr4;have HCV:=η3 hcv;have HD:Hid (Below w.heap.size w ((((W.setCell ⟨g,0,none⟩ (q1M c3)).setCell ⟨g,1,none⟩ (q1M c2)).setCell ⟨g,2,none⟩ (q1M c1)).setCell ⟨g,3,none⟩ (q1M c0)).drew):=
  η3 (((((HB2.out.setCell (p:=⟨g,0,none⟩) hg.out _).setCell (p:=⟨g,1,none⟩) hg.out _).setCell (p:=⟨g,2,none⟩) hg.out _).setCell (p:=⟨g,3,none⟩) hg.out _).drew)
 clear hr4 hcv
 go_region
 have hcv:=HCV.out;clear d0 d1 d2 d3 z0 z1 z2 z3;generalize ((((W.setCell ⟨g,0,none⟩ (q1M c3)).setCell ⟨g,1,none⟩ (q1M c2)).setCell ⟨g,2,none⟩ (q1M c1)).setCell ⟨g,3,none⟩ (q1M c0)).drew=W4 at*;go_wp2_with fail;go_ret;exact ⟨by rw[HLow.out];rfl,HD.out⟩
end
section
open Go.RowKit
def q1N (l:List UInt8):List UInt8:=l++q7v (q1c l)
def q1v (l:List UInt8):Bool:=decide (4≤l.length)&&decide (q1N (l.take (l.length-4))=l)
def q1j (l:List UInt8):List UInt8:=if q1v l then l.take (l.length-4) else []
theorem q4t (s:BitVec 32):(q7v s).length=4:=by simp[q7v,q0H]
theorem q1E (l:List UInt8):(q1N l).length=l.length+4:=by simp[q1N,q4t]
theorem z7I (l:List UInt8) (h:4≤l.length):q1v l=decide (q7v (q1c (l.take (l.length-4)))=l.drop (l.length-4)):=by
 unfold q1v;rw[decide_eq_true h,Bool.true_and];have e:l=l.take (l.length-4)++l.drop (l.length-4):=(List.take_append_drop _ _).symm;have :(q1N (l.take (l.length-4))=l)↔(q7v (q1c (l.take (l.length-4)))=l.drop (l.length-4)):=by
  unfold q1N
  constructor
  ·intro h2
   have h3:l.take (l.length-4)++q7v (q1c (l.take (l.length-4)))=l.take (l.length-4)++l.drop (l.length-4):=by rw[h2];exact e
   exact List.append_cancel_left h3
  ·intro h2;rw[h2];exact e.symm
 simp only[this]
theorem z2E (l:List UInt8) (h:l.length<4):q1v l=false:=by
 unfold q1v;rw[decide_eq_false (by omega)];rfl
theorem z2K (l:List UInt8) (w:World) (hl:l.length≤4611686018427387903):
  Calls Tryz.prog 120 #[.string ⟨l.toArray⟩] w fun e w'=>e= .returned (.string ⟨(q1N l).toArray⟩)∧Ext w w':=by
 go_enter Tryz.func120,Tryz.ntmps120;go_wp2_with fail;refine (z9m l _ (by omega)).mono ?_;rintro e w1 ⟨rfl,hb⟩;have HB:=η3 hb;clear hb;go_wp2_with fail;refine (z9Q (q1c l) _ _ rfl).mono ?_;rintro e w2 ⟨rfl,hb⟩;have HB2:=η3 (HB.out.trans hb);clear hb;have hlen:=q4t (q1c l);have HS:Hid (q1N l=l++q7v (q1c l)):=η3 rfl;generalize q7v (q1c l)=T at*;go_wp2_with fail;go_ret;exact ⟨by rw[HS.out];simp[ByteArray.mk_append_mk],HB2.out⟩
theorem z2R (l:List UInt8) (w:World) (hl:l.length≤4611686018427387903):
  Calls Tryz.prog 142 #[.string ⟨l.toArray⟩] w fun e w'=>e= .returned (.tuple #[.string ⟨(q1j l).toArray⟩,.bool (q1v l)])∧Ext w w':=by
 by_cases h4:l.length<4
 ·have ho:=z2E l h4
  have HO:=η3 ho;clear ho;have hd:decide ((l.length:Int)<4)=true:=by simp;omega
  go_enter Tryz.func142,Tryz.ntmps142;go_wp2_with fail;refine q0E (by kernel_rfl) (by kernel_rfl) ?_
  repeat (go_big_quiet_step (fail))
  refine wpQuiet_nil ?_;intro w2 hw2;have HW:=η3 hw2;clear hw2;go_wp2_with fail;go_ret2;exact ⟨by rw[q1j,HO.out];rfl,HW.out⟩
 ·have ho:=z7I l (by omega)
  have HO:=η3 ho;clear ho;have hd:decide ((l.length:Int)<4)=false:=by simp;omega
  have h4':4≤l.length:=by omega
  have htl:(l.take (l.length-4)).length≤9223372036854775807:=by simp;omega
  have HTL:=η3 htl;clear htl;have HOT:Hid (q1j l=if q1v l then l.take (l.length-4) else []):=η3 rfl;by_cases heq:q7v (q1c (l.take (l.length-4)))=l.drop (l.length-4)
  ·have hq:(q7v (q1c (l.take (l.length-4)))==l.drop (l.length-4))=true:=by rw[beq_iff_eq];exact heq
   have HEQ:=η3 heq;clear heq;go_enter Tryz.func142,Tryz.ntmps142;go_wp2_with fail;refine q0E (by kernel_rfl) (by kernel_rfl) ?_
   repeat (go_big_quiet_step (first|(go_at_call 183;exact Calls.quiet_ext (z9m _ _ HTL.out))|(go_at_call 182;exact Calls.quiet_ext (z9Q (q1c _) _ _ rfl))))
   refine wpQuiet_nil ?_;intro w2 hw2;have HW:=η3 hw2;clear hw2;go_wp2_with fail;go_ret2;exact ⟨by rw[HOT.out,HO.out,decide_eq_true HEQ.out];rfl,HW.out⟩
  ·have hq:(q7v (q1c (l.take (l.length-4)))==l.drop (l.length-4))=false:=by rw[beq_eq_false_iff_ne];exact heq
   have HEQ:=η3 heq;clear heq;go_enter Tryz.func142,Tryz.ntmps142;go_wp2_with fail;refine q0E (by kernel_rfl) (by kernel_rfl) ?_
   repeat (go_big_quiet_step (first|(go_at_call 183;exact Calls.quiet_ext (z9m _ _ HTL.out))|(go_at_call 182;exact Calls.quiet_ext (z9Q (q1c _) _ _ rfl))))
   refine wpQuiet_nil ?_;intro w2 hw2;have HW:=η3 hw2;clear hw2;go_wp2_with fail;go_ret2;exact ⟨by rw[HOT.out,HO.out,decide_eq_false HEQ.out];rfl,HW.out⟩
end
section
open Go.RowKit
end
section
open Go.RowKit
abbrev En :=Int×Int×Int
def q3Q (e:En):Bool:=decide (0≤e.1)&&decide (e.1<18446744073709551616)&&decide (0≤e.2.1)&&decide (e.2.1≤9223372036854775807)&&decide (0≤e.2.2)&&decide (e.2.2≤9223372036854775807)
theorem okEn_iff {e:En}:q3Q e=true↔0≤e.1∧e.1<18446744073709551616∧0≤e.2.1∧e.2.1≤9223372036854775807∧0≤e.2.2∧e.2.2≤9223372036854775807:=by
 simp[q3Q,and_assoc]
def q0h (a b:En):Bool:=if a.1≠b.1 then decide (a.1<b.1) else if a.2.1≠b.2.1 then decide (a.2.1<b.2.1) else decide (a.2.2<b.2.2)
theorem lessE_iff {a b:En}:q0h a b=true↔a.1<b.1∨(a.1=b.1∧(a.2.1<b.2.1∨(a.2.1=b.2.1∧a.2.2<b.2.2))):=by
 unfold q0h
 split
 ·rw[decide_eq_true_eq];omega
 ·split
  ·rw[decide_eq_true_eq];omega
  ·rw[decide_eq_true_eq];omega
theorem q1L {a b c:En} (h:q0h a b=true) (k:q0h b c=true):q0h a c=true:=by rw[lessE_iff] at*;omega
theorem q0b (a:En):q0h a a=false:=by
 cases h:q0h a a with
 |false=>rfl
 |true=>rw[lessE_iff] at h;omega
theorem q4y {a b:En} (h:q0h a b=false) (k:q0h b a=false):a=b:=by
 have h1:¬(a.1<b.1∨(a.1=b.1∧(a.2.1<b.2.1∨(a.2.1=b.2.1∧a.2.2<b.2.2)))):=fun x=>by rw[lessE_iff.2 x] at h;cases h
 have h2:¬(b.1<a.1∨(b.1=a.1∧(b.2.1<a.2.1∨(b.2.1=a.2.1∧b.2.2<a.2.2)))):=fun x=>by rw[lessE_iff.2 x] at k;cases k
 obtain ⟨a1,a2,a3⟩:=a;obtain ⟨b1,b2,b3⟩:=b;simp only at h1 h2;have e1:a1=b1:=by omega
 have e2:a2=b2:=by omega
 have e3:a3=b3:=by omega
 rw[e1,e2,e3]
def q0u (l:List En):Prop:=l.Pairwise fun a b=>q0h a b=true
def q4C :List En→Bool
 |[]=>true
 |[_]=>true
 |a::b::r=>q0h a b&&q4C (b::r)
theorem q3A : ∀l:List En,q4C l=true↔q0u l
 |[]=>by simp[q4C,q0u]
 |[a]=>by simp[q4C,q0u]
 | a ::b::r=>by
  unfold q4C q0u;rw[Bool.and_eq_true,q3A (b::r)]
  constructor
  ·rintro ⟨h1,h2⟩
   refine List.pairwise_cons.2 ⟨fun x hx=>?_,h2⟩;rcases List.mem_cons.1 hx with rfl|hx
   ·exact h1
   ·exact q1L h1 ((List.pairwise_cons.1 h2).1 x hx)
  ·intro h
   obtain ⟨h1,h2⟩:=List.pairwise_cons.1 h;exact ⟨h1 b List.mem_cons_self,h2⟩
def q4G (e:En):List UInt8:=be 8 e.1.toNat++(be 8 e.2.1.toNat++be 8 e.2.2.toNat)
theorem q3G (e:En):(q4G e).length=24:=by simp[q4G,q0H]
def q9p (s:List UInt8):Option En:=
 if s.length=24∧q1H ((s.drop 8).take 8)≤9223372036854775807∧q1H (s.drop 16)≤9223372036854775807 then some ((q1H (s.take 8):Int),(q1H ((s.drop 8).take 8):Int),(q1H (s.drop 16):Int)) else none
theorem z4V (e:En):(q4G e).take 8=be 8 e.1.toNat∧((q4G e).drop 8).take 8=be 8 e.2.1.toNat∧(q4G e).drop 16=be 8 e.2.2.toNat:=by
 have h1:=q0H 8 e.1.toNat;have h2:=q0H 8 e.2.1.toNat;refine ⟨?_,?_,?_⟩
 ·unfold q4G;exact List.take_left' h1
 ·unfold q4G;rw[List.drop_left' h1];exact List.take_left' h2
 ·unfold q4G
  rw[←List.append_assoc];exact List.drop_left' (by rw[List.length_append,h1,h2])
theorem z3F {e:En} (h:q3Q e=true):q9p (q4G e)=some e:=by
 obtain ⟨a0,a1,b0,b1,c0,c1⟩:=okEn_iff.1 h;obtain ⟨p1,p2,p3⟩:=z4V e;have u: ∀x:Int,0≤x→x<18446744073709551616→q1H (be 8 x.toNat)=x.toNat:=fun x h0 h1=>by
  rw[q4w];exact Nat.mod_eq_of_lt (by omega)
 unfold q9p;rw[p1,p2,p3,u _ a0 a1,u _ b0 (by omega),u _ c0 (by omega),q3G,if_pos (by omega)];obtain ⟨x,y,z⟩:=e;simp only at*
 congr 2
 ·omega
 ·congr 1
  ·omega
  ·omega
def z1T :List UInt8:=[112,116,97,98]
def z2x (l:List En):List UInt8:=z1T++(be 4 l.length++(l.map q4G).flatten)
def q8R (l:List En):List UInt8:=q1N (z2x l)
theorem q3n (l:List En):((l.map q4G).flatten).length=24*l.length:=by
 induction l with
 |nil=>rfl
 |cons e r ih=>rw[List.map_cons,List.flatten_cons,List.length_append,q3G,ih,List.length_cons];omega
theorem q6w (l:List En):(z2x l).length=8+24*l.length:=by
 unfold z2x z1T;rw[List.length_append,List.length_append,q0H,q3n];simp;omega
theorem q5A (l:List En):(q8R l).length=12+24*l.length:=by unfold q8R;rw[q1E,q6w];omega
def q2F :Nat→List UInt8→Option (List En)
 |0,_=>none
 | f+1,s=>if s=[] then some [] else match q9p (s.take 24) with
  |none=>none
  |some e=>(q2F f (s.drop 24)).map (e::·)
def q8e (s:List UInt8):Option (List En):=
 if q1v s∧8≤s.length-4∧s.take 4=z1T∧((s.take (s.length-4)).drop 8).length=q1H (((s.take (s.length-4)).drop 4).take 4)*24 then
  match q2F (s.length+1) ((s.take (s.length-4)).drop 8) with
  |none=>none
  |some l=>if q4C l then some l else none
 else none
theorem q8V : ∀(l:List En) (f:Nat),l.length<f→(∀e∈l,q3Q e=true)→q2F f ((l.map q4G).flatten)=some l
 | [],f+1,_,_=>by
  show (if ([]:List UInt8)=[] then some [] else _)=some [];rw[if_pos rfl]
 |[],0,h,_=>by simp at h
 |e::r,0,h,_=>by simp at h
 | e::r,f+1,h,ho=>by
  have h1:=q3G e;unfold q2F;rw[List.map_cons,List.flatten_cons,if_neg (fun k=>by have:=congrArg List.length k;rw[List.length_append,h1] at this;simp at this),List.take_left' h1,List.drop_left' h1,z3F (ho e List.mem_cons_self)];show (q2F f ((r.map q4G).flatten)).map (e::·)=_;rw[q8V r f (by simp at h;omega) fun x hx=>ho x (List.mem_cons_of_mem _ hx)]
  rfl
theorem z4C (x:List UInt8):q1v (q1N x)=true:=by
 unfold q1v;have h1:(q1N x).take ((q1N x).length-4)=x:=by rw[q1E];unfold q1N;exact List.take_left' (by omega)
 rw[h1,decide_eq_true (by rw[q1E];omega),decide_eq_true rfl];rfl
theorem z7y {l:List En} (hs:q0u l) (ho: ∀e∈l,q3Q e=true) (hl:l.length<4294967296):q8e (q8R l)=some l:=by
 have h1:(q8R l).take ((q8R l).length-4)=z2x l:=by unfold q8R;rw[q1E];unfold q1N;exact List.take_left' (by omega)
 have hc:=q6w l;have h2:(z2x l).drop 8=(l.map q4G).flatten:=by
  unfold z2x;rw[←List.append_assoc];exact List.drop_left' (by rw[List.length_append,q0H];rfl)
 have h3:((z2x l).drop 4).take 4=be 4 l.length:=by
  unfold z2x;rw[show (z1T++(be 4 l.length++(l.map q4G).flatten)).drop 4=be 4 l.length++(l.map q4G).flatten from List.drop_left' rfl];exact List.take_left' (q0H 4 _)
 have h4:(q8R l).take 4=z1T:=by
  unfold q8R q1N z2x;rw[List.append_assoc];exact List.take_left' rfl
 have hob:q1v (q8R l)=true:=z4C _;unfold q8e;rw[h1,h2,h3,h4,q4w,q3n,q5A,if_pos ⟨hob,by omega,rfl,by rw[Nat.mod_eq_of_lt (by omega)];omega⟩,q8V l _ (by omega) ho];show (if q4C l then some l else none)=some l;rw[if_pos ((q3A l).2 hs)]
theorem y0W {l:List En} {i:Nat} {e:En} (h:l[i]? =some e):((q8R l).drop (8+24*i)).take 24=q4G e:=by
 obtain ⟨hi,rfl⟩:=List.getElem?_eq_some_iff.1 h;have e1:l=l.take i++l[i]::l.drop (i+1):=by rw[List.getElem_cons_drop];exact (List.take_append_drop _ _).symm
 have e2:q8R l=(z1T++(be 4 l.length++((l.take i).map q4G).flatten))++(q4G l[i]++((((l.drop (i+1)).map q4G).flatten)++q7v (q1c (z2x l)))):=by
  have h5:(l.map q4G).flatten=((l.take i).map q4G).flatten++(q4G l[i]++((l.drop (i+1)).map q4G).flatten):=by
   conv=>lhs;rw[e1]
   rw[List.map_append,List.map_cons,List.flatten_append,List.flatten_cons]
  have h6:z2x l=z1T++(be 4 l.length++(((l.take i).map q4G).flatten++(q4G l[i]++((l.drop (i+1)).map q4G).flatten))):=by rw[←h5];rfl
  unfold q8R q1N;generalize q7v (q1c (z2x l))=Q;rw[h6];simp only[List.append_assoc]
 have e3:(z1T++(be 4 l.length++((l.take i).map q4G).flatten)).length=8+24*i:=by
  rw[List.length_append,List.length_append,q0H,q3n,List.length_take,Nat.min_eq_left (by omega)];show 4+(4+24*i)=_;omega
 rw[e2,List.drop_left' e3];exact List.take_left' (q3G _)
end
section
open Go.RowKit
def lbE (l:List En) (x:En):Nat:=(l.filter fun e=>q0h e x).length
theorem q4V (l:List En) (x:En):lbE l x≤l.length:=List.length_filter_le _ _
theorem q3a : ∀{l:List En} (x:En),q0u l→ ∀{i:Nat} {e:En},l[i]? =some e→q0h e x=decide (i<lbE l x)
 |[],x,_,i,e,h=>by simp at h
 | a :: r,x,hs,i,e,h=>by
  obtain ⟨h1,h2⟩:=List.pairwise_cons.1 hs;by_cases ha:q0h a x=true
  ·have hl:lbE (a::r) x=lbE r x+1:=by unfold lbE;rw[List.filter_cons_of_pos (p:=fun e=>q0h e _) ha];rfl
   rw[hl]
   cases i with
   | zero=>
    simp only[List.getElem?_cons_zero,Option.some.injEq] at h;subst h;rw[ha];simp
   | succ i=>
    rw[List.getElem?_cons_succ] at h;rw[q3a x h2 h,decide_eq_decide];omega
  ·have ha':q0h a x=false:=by simpa using ha
   have hall: ∀b∈r,q0h b x=false:=fun b hb=>by
    cases hbx:q0h b x with
    |false=>rfl
    |true=>exact absurd (q1L (h1 b hb) hbx) ha
   have hl:lbE (a::r) x=0:=by
    unfold lbE;rw[List.filter_cons_of_neg (p:=fun e=>q0h e x) ha,List.filter_eq_nil_iff.2 fun b hb=>by rw[hall b hb];decide]
    rfl
   rw[hl]
   cases i with
   | zero=>
    simp only[List.getElem?_cons_zero,Option.some.injEq] at h;subst h;rw[ha'];rfl
   | succ i=>
    rw[List.getElem?_cons_succ] at h;rw[hall e (List.mem_of_getElem? h)];simp
def q4B (many:Nat):Nat→List En→List (En×Nat)
 |_,[]=>[]
 |i,e::r=>if i % 8=0∨i+1=many then (e,i)::q4B many (i+1) r else q4B many (i+1) r
def q2b (l:List En):List (En×Nat):=q4B l.length 0 l
def q0q (many:Nat) (x:En):Nat→List (En×Nat)→Nat×Nat
 |lo,[]=>(lo,max lo many)
 |lo,(e,a)::r=>if q0h e x then q0q many x (min a (many-1)+1) r else (lo,max lo (min a many))
theorem q7W {l:List En} (x:En) (hs:q0u l): ∀(r:List En) (i lo:Nat),r=l.drop i→i≤l.length→lo≤lbE l x→lo≤i→(i<l.length→(lo=0∧i=0)∨(lo % 8=1∧i≤lo+7))→(i=l.length→lo=l.length)→
  (q0q l.length x lo (q4B l.length i r)).1≤lbE l x∧lbE l x≤(q0q l.length x lo (q4B l.length i r)).2∧(q0q l.length x lo (q4B l.length i r)).2≤(q0q l.length x lo (q4B l.length i r)).1+7∧(q0q l.length x lo (q4B l.length i r)).2≤l.length
 | [],i,lo,hr,hi,h1,h2,h3,h4=>by
  have hl:=q4V l x;have hil:i=l.length:=by
   have:=congrArg List.length hr;rw[List.length_drop] at this;simp at this;omega
  have:=h4 hil;unfold q4B q0q;simp only;omega
 | e :: r,i,lo,hr,hi,h1,h2,h3,h4=>by
  have hl:=q4V l x;have hlt:i<l.length:=by
   have:=congrArg List.length hr;rw[List.length_drop] at this;simp at this;omega
  have he:l[i]? =some e:=by
   have:=congrArg (fun z=>z[0]?) hr
   simpa using this.symm
  have hr':r=l.drop (i+1):=by
   have:=congrArg (List.drop 1) hr;rw[List.drop_drop] at this
   simpa using this
  have hat:=q3a x hs he;have h5:=h3 hlt;unfold q4B;by_cases hm:i % 8=0∨i+1=l.length
  ·rw [if_pos hm]
   unfold q0q;by_cases hx:q0h e x=true
   ·rw[if_pos hx]
    rw[hx] at hat;have h6:i<lbE l x:=of_decide_eq_true hat.symm;have h7:min i (l.length-1)+1=i+1:=by omega
    rw[h7];exact q7W x hs r (i+1) (i+1) hr' (by omega) (by omega) (Nat.le_refl _) (fun h=> .inr (by omega)) (fun h=>h)
   ·rw[if_neg hx]
    have hx':q0h e x=false:=by simpa using hx
    rw[hx'] at hat;have h6:¬i<lbE l x:=of_decide_eq_false hat.symm;simp only;omega
  ·rw[if_neg hm]
   exact q7W x hs r (i+1) lo hr' (by omega) h1 (by omega) (fun h=>by omega) (fun h=>by omega)
theorem q7i {l:List En} (x:En) (hs:q0u l):(q0q l.length x 0 (q2b l)).1≤lbE l x∧lbE l x≤(q0q l.length x 0 (q2b l)).2∧(q0q l.length x 0 (q2b l)).2≤(q0q l.length x 0 (q2b l)).1+7∧(q0q l.length x 0 (q2b l)).2≤l.length:=
 q7W x hs l 0 0 rfl (Nat.zero_le _) (Nat.zero_le _) (Nat.le_refl _) (fun _=> .inl ⟨rfl,rfl⟩) (fun h=>h)
def q0o (l:List En) (h f t:Int):List En:=l.filter fun e=>decide (e.1=h)&&decide (f≤e.2.1)&&decide (e.2.1≤t)
def inE (h t:Int) (e:En):Bool:=decide (e.1=h)&&decide (e.2.1≤t)
theorem q3Y : ∀{l:List En} {h f t:Int},q0u l→(∀e∈l,q3Q e=true)→q0o l h f t=(l.drop (lbE l (h,f,0))).takeWhile (inE h t)
 |[],h,f,t,_,_=>rfl
 | a :: r,h,f,t,hs,ho=>by
  obtain ⟨h1,h2⟩:=List.pairwise_cons.1 hs;have oa:=okEn_iff.1 (ho a List.mem_cons_self);have ho': ∀e∈r,q3Q e=true:=fun e he=>ho e (List.mem_cons_of_mem _ he)
  by_cases ha:q0h a (h,f,0)=true
  ·have hl:lbE (a::r) (h,f,0)=lbE r (h,f,0)+1:=by unfold lbE;rw[List.filter_cons_of_pos (p:=fun e=>q0h e _) ha];rfl
   have hna:(decide (a.1=h)&&decide (f≤a.2.1)&&decide (a.2.1≤t))=false:=by
    rw[lessE_iff] at ha;simp only at ha;rw[Bool.and_eq_false_iff,Bool.and_eq_false_iff,decide_eq_false_iff_not,decide_eq_false_iff_not];omega
   rw[hl,List.drop_succ_cons,←q3Y h2 ho'];unfold q0o;rw[List.filter_cons_of_neg (by rw[hna];decide)]
  ·have ha':q0h a (h,f,0)=false:=by simpa using ha
   have hnl:¬(a.1<h∨(a.1=h∧(a.2.1<f∨(a.2.1=f∧a.2.2<0)))):=fun k=>by rw[lessE_iff.2 k] at ha';cases ha'
   have hl:lbE (a::r) (h,f,0)=0:=by
    have: ∀b∈a::r,¬q0h b (h,f,0)=true:=fun b hb hbx=>by
     rcases List.mem_cons.1 hb with rfl|hb
     ·exact ha hbx
     ·exact ha (q1L (h1 b hb) hbx)
    unfold lbE;rw[List.filter_eq_nil_iff.2 this];rfl
   rw[hl,List.drop_zero];by_cases hin:inE h t a=true
   ·have hin2:=hin
    unfold inE at hin2;rw[Bool.and_eq_true,decide_eq_true_eq,decide_eq_true_eq] at hin2;have hl2:lbE r (h,f,0)=0:=by
     have: ∀b∈r,¬q0h b (h,f,0)=true:=fun b hb hbx=>ha (q1L (h1 b hb) hbx)
     unfold lbE;rw[List.filter_eq_nil_iff.2 this];rfl
    have ih:=q3Y (h:=h) (f:=f) (t:=t) h2 ho';rw[hl2,List.drop_zero] at ih;rw[List.takeWhile_cons_of_pos hin,←ih];unfold q0o;rw[List.filter_cons_of_pos (by simp only[Bool.and_eq_true,decide_eq_true_eq];omega)]
   ·rw [List.takeWhile_cons_of_neg hin]
    have hin2:¬(a.1=h∧a.2.1≤t):=fun k=>hin (by unfold inE;simp only[Bool.and_eq_true,decide_eq_true_eq];exact k)
    unfold q0o;refine List.filter_eq_nil_iff.2 fun b hb hbx=>?_
    simp only[Bool.and_eq_true,decide_eq_true_eq] at hbx;rcases List.mem_cons.1 hb with rfl|hb
    ·omega
    ·have:=lessE_iff.1 (h1 b hb)
     omega
def q2n (l:List En) (h t:Int):Option En:=(l.filter (inE h t)).getLast?
theorem z6f {l:List En} {h t:Int} (hs:q0u l) (ho: ∀e∈l,q3Q e=true):q2n l h t=if lbE l (h,t+1,0)=0 then none else match l[lbE l (h,t+1,0)-1]? with
  |none=>none
  |some e=>if e.1=h then some e else none:=by
 obtain ⟨n,hn⟩: ∃n,lbE l (h,t+1,0)=n:=⟨_,rfl⟩
 have hle:=q4V l (h,t+1,0);rw[hn] at hle⊢;have hsplit:l=l.take n++l.drop n:=(List.take_append_drop _ _).symm;have htail:(l.drop n).filter (inE h t)=[]:=by
  refine List.filter_eq_nil_iff.2 fun b hb hbx=>?_
  obtain ⟨i,hi⟩:=List.getElem?_of_mem hb;rw[List.getElem?_drop] at hi;have h1:=q3a (h,t+1,0) hs hi;rw[hn] at h1;have h2:q0h b (h,t+1,0)=false:=by rw[h1];simp
  unfold inE at hbx;simp only[Bool.and_eq_true,decide_eq_true_eq] at hbx;have h3:q0h b (h,t+1,0)=true:=by rw[lessE_iff];simp only;omega
  rw[h2] at h3;cases h3
 unfold q2n
 conv=>lhs;rw[hsplit]
 rw[List.filter_append,htail,List.append_nil];by_cases h0:n=0
 ·subst h0;rfl
 rw[if_neg h0];obtain ⟨e,he⟩: ∃e,l[n-1]? =some e:=⟨l[n-1],List.getElem?_eq_getElem (by omega)⟩
 rw[he];have htk:l.take n=l.take (n-1)++[e]:=by
  obtain ⟨hk,hke⟩:=List.getElem?_eq_some_iff.1 he;have:=List.take_succ_eq_append_getElem hk;rw[hke,show n-1+1=n by omega] at this;exact this
 have hless:q0h e (h,t+1,0)=true:=by
  have h1:=q3a (h,t+1,0) hs he;rw[hn] at h1;rw[h1];simp;omega
 have oe:=okEn_iff.1 (ho e (List.mem_of_getElem? he));rw[lessE_iff] at hless;simp only at hless;rw[htk,List.filter_append];show (_++[e].filter (inE h t)).getLast? =(if e.1=h then some e else none);by_cases hh:e.1=h
 ·have hin:inE h t e=true:=by unfold inE;simp only[Bool.and_eq_true,decide_eq_true_eq];omega
  rw[if_pos hh,List.filter_cons_of_pos hin];simp
 ·have hin:¬inE h t e=true:=fun k=>by unfold inE at k;simp only[Bool.and_eq_true,decide_eq_true_eq] at k;exact hh k.1
  have hrest:(l.take (n-1)).filter (inE h t)=[]:=by
   refine List.filter_eq_nil_iff.2 fun b hb hbx=>?_
   unfold inE at hbx;simp only[Bool.and_eq_true,decide_eq_true_eq] at hbx;have hp:(l.take n).Pairwise fun a b=>q0h a b=true:=hs.sublist (List.take_sublist _ _)
   rw[htk] at hp;have:=(List.pairwise_append.1 hp).2.2 b hb e (by simp);rw[lessE_iff] at this;omega
  rw[if_neg hh,List.filter_cons_of_neg hin,hrest]
  rfl
end
section
open Go.RowKit
def en0 :En:=(0,0,0)
def ec (e:En):List Value:=[.int .u64 e.1,.int .i64 e.2.1,.int .i64 e.2.2]
def enV (e:En):Value:= .agg (ec e).toArray
def ecs (L:List En):List Value:=L.flatMap ec
theorem q1X (L:List En):(ecs L).length=L.length*3:=by
 induction L with
 |nil=>rfl
 |cons k L ih=>unfold ecs at ih⊢;rw[List.flatMap_cons,List.length_append,ih,List.length_cons];simp[ec];omega
theorem z2U (L:List En) (e:En):ecs (L++[e])=ecs L++ec e:=by unfold ecs;simp
theorem q2t (L M:List En):ecs (L++M)=ecs L++ecs M:=by unfold ecs;simp
theorem q4e (e:En) (L:List En):ecs (e::L)=ec e++ecs L:=rfl
theorem z2e : ∀(L:List En) (i j:Nat),i<L.length→j<3→(ecs L)[i*3+j]? =(ec (L.getD i en0))[j]?
 |[],i,j,h,_=>by simp at h
 | k::L,0,j,_,hj=>by
  rw[q4e,List.getElem?_append_left (by simp[ec];omega)];simp
 | k::L,i+1,j,h,hj=>by
  rw[q4e,List.getElem?_append_right (by simp[ec];omega),show (i+1)*3+j-(ec k).length=i*3+j from by simp[ec];omega,z2e L i j (by simpa using h) hj];simp
theorem q3u (L:List En): ∀u∈ecs L,u.oneCell'=true:=fun u hu=>by
 unfold ecs at hu;obtain ⟨f,_,hf⟩:=List.mem_flatMap.1 hu;unfold ec at hf;simp only[List.mem_cons,List.not_mem_nil,or_false] at hf;rcases hf with rfl|rfl|rfl<;>rfl
structure Ens (w:World) (ao:Option Addr) (n cap:Nat) (L:List En):Prop where
 len:L.length=n
 fits:n≤cap
 bound:cap≤9223372036854775807
 nil:ao=none→cap=0
 rd:Rd w ao (ecs L)
theorem Ens.ext {w w':World} {ao:Option Addr} {n cap:Nat} {L:List En} (h:Ens w ao n cap L) (k:Ext w w'):Ens w' ao n cap L:=⟨h.len,h.fits,h.bound,h.nil,h.rd.ext k⟩
theorem Ens.at {w:World} {ao:Option Addr} {n cap:Nat} {L:List En} (h:Ens w ao n cap L) {i:Nat} (hi:i<n):
  ∃b off,ao=some ⟨b,off,none⟩∧w.cell? ⟨b,off+i*3,none⟩=some (.int .u64 (L.getD i en0).1)∧w.cell? ⟨b,off+i*3+1,none⟩=some (.int .i64 (L.getD i en0).2.1)∧w.cell? ⟨b,off+i*3+2,none⟩=some (.int .i64 (L.getD i en0).2.2):=by
 have hl:=h.len;have k0:=z2e L i 0 (by omega) (by decide);have k1:=z2e L i 1 (by omega) (by decide);have k2:=z2e L i 2 (by omega) (by decide);obtain ⟨b,off,rfl,h0⟩:=h.rd _ _ k0;obtain ⟨_,_,e1,h1⟩:=h.rd _ _ k1
 cases e1;obtain ⟨_,_,e2,h2⟩:=h.rd _ _ k2
 cases e2;exact ⟨b,off,rfl,h0,h1,h2⟩
theorem Ens.of_own {w:World} {B:Nat} {e:TypeId} {v:Value} {L:List En} (h:Own w B e 3 v L.length (ecs L)): ∃ao cap,v= .slice ao L.length cap∧Ens w ao L.length cap L:=by
 obtain ⟨ao,cap,rfl,h1,h2,h3,h4⟩:=h.rd;exact ⟨ao,cap,rfl,rfl,h1,h2,h3,h4⟩
theorem Ens.cut {w:World} {ao:Option Addr} {n cap:Nat} {L:List En} (h:Ens w ao n cap L) {k:Nat} (hk:k≤n):Ens w ao k cap (L.take k):=
 ⟨by rw[List.length_take,h.len];omega,Nat.le_trans hk h.fits,h.bound,h.nil,by
  have:=h.rd.take (k*3);have e:(ecs L).take (k*3)=ecs (L.take k):=by
   conv=>lhs;rw[←List.take_append_drop k L,q2t]
   exact List.take_left' (by rw[q1X,List.length_take,h.len];omega)
  rwa [e] at this⟩
end
section
open Go.RowKit
def y2W (h:Int):Int:=bits .or .u64 (IntKind.u64.wrap (h*140737488355328)) (h/131072)
theorem y0X (w:World) (h:Int):Calls Tryz.prog 295 #[.int .u64 h,.int .i64 (-17)] w fun r w'=>r= .returned (.int .u64 (y2W h))∧w=w':=by
 have e0:IntKind.u64.wrap (-17)=18446744073709551599:=by kernel_rfl
 have e1:bits .and .u64 18446744073709551599 63=47:=by kernel_rfl
 have e2:IntKind.u64.wrap (64-47)=17:=by kernel_rfl
 go_enter Tryz.func295,Tryz.ntmps295;go_wp2_with fail;go_ret;exact ⟨rfl,rfl⟩
def z9I (h:Int):Int:=bits .or .u64 (y2W h) 1
theorem z8x (w:World) (h:Int):Calls Tryz.prog 275 #[.int .u64 h] w fun r w'=>r= .returned (.int .u64 (z9I h))∧w=w':=by
 have HR:=η3 (fun W=>y0X W h);go_enter Tryz.func275,Tryz.ntmps275;go_wp2_with fail;refine (HR.out _).mono ?_;rintro e w1 ⟨rfl,rfl⟩;go_wp2_with fail;go_ret;exact ⟨rfl,rfl⟩
def q6I (h i b:Int):Int:=IntKind.u64.wrap (h+IntKind.u64.wrap (i*z9I h)) % b
theorem z0b (h i b:Int) (hb:1≤b):0≤q6I h i b∧q6I h i b<b:=⟨Int.emod_nonneg _ (by omega),Int.emod_lt_of_pos _ (by omega)⟩
theorem z9g (w:World) (h:Int) (i b:Nat) (hi:i≤1000000) (hb:1≤b) (hb9:b≤1000000):Calls Tryz.prog 247 #[.int .u64 h,.int .i64 (i:Int),.int .i64 (b:Int)] w fun r w'=>r= .returned (.int .i64 (q6I h i b))∧w=w':=by
 have HR:=η3 (fun W=>z8x W h);have a1:¬((b:Int)<1):=by omega
 have a2:¬((i:Int)<0):=by omega
 have e1:IntKind.u64.wrap (i:Int)=(i:Int):=by rw[IntKind.wrap_u64];omega
 have e2:IntKind.u64.wrap (b:Int)=(b:Int):=by rw[IntKind.wrap_u64];omega
 obtain ⟨T,hT⟩: ∃T,IntKind.u64.wrap (h+IntKind.u64.wrap ((i:Int)*z9I h))=T:=⟨_,rfl⟩
 have hT0:0≤T∧T<18446744073709551616:=by rw[←hT,IntKind.wrap_u64];omega
 have e3:Int.tmod T (b:Int)=T % (b:Int):=Int.tmod_eq_emod_of_nonneg hT0.1;have hl:=z0b h i b (by omega);have HP:Hid (q6I h i b=T % (b:Int)):=η3 (by unfold q6I;rw[hT]);rw[HP.out] at hl;obtain ⟨z,hz⟩: ∃z,T % (b:Int)=z:=⟨_,rfl⟩
 rw[hz] at hl HP;have e4:IntKind.u64.wrap z=z:=by rw[IntKind.wrap_u64];omega
 have e5:IntKind.i64.wrap z=z:=by rw[IntKind.wrap_i64];omega
 have e6:((b:Int)==0)=false:=by simp;omega
 have e7:¬((b:Int)=0):=by omega
 rw[hz] at e3;clear hz;rw[HP.out];go_enter Tryz.func247,Tryz.ntmps247;go_wp2_with fail;refine (HR.out _).mono ?_;rintro e w1 ⟨rfl,rfl⟩;go_wp2_with fail;go_ret;exact ⟨rfl,rfl⟩
end
section
open Go.RowKit
theorem z4p {s:List UInt8} {e:En} (h:q9p s=some e):s=q4G e∧q3Q e=true:=by
 unfold q9p at h
 split at h
 ·rename_i hc
  obtain ⟨h1,h2,h3⟩:=hc;have he:=(Option.some.inj h).symm;subst he;have b1:=q1t (s.take 8);rw[List.length_take,Nat.min_eq_left (by omega)] at b1;refine ⟨?_,okEn_iff.2 (by simp only;omega)⟩;have l1:(s.take 8).length=8:=by simp;omega
  have l2:((s.drop 8).take 8).length=8:=by simp;omega
  have l3:(s.drop 16).length=8:=by simp;omega
  have e1:=q8v (s.take 8);have e2:=q8v ((s.drop 8).take 8);have e3:=q8v (s.drop 16);rw[l1] at e1;rw[l2] at e2;rw[l3] at e3;unfold q4G;simp only[Int.toNat_natCast];rw[e1,e2,e3];have:s.drop 16=(s.drop 8).drop 8:=by rw[List.drop_drop]
  rw[this,List.take_append_drop,List.take_append_drop]
 ·cases h
theorem q8Q : ∀(f:Nat) (s:List UInt8) (l:List En),q2F f s=some l→s=(l.map q4G).flatten∧ ∀e∈l,q3Q e=true
 |0,s,l,h=>by cases h
 | f + 1, s,l,h=>by
  unfold q2F at h
  split at h
  ·rename_i hs
   cases h;exact ⟨by rw[hs];rfl,fun e he=>by cases he⟩
  ·cases hg:q9p (s.take 24) with
   |none=>rw[hg] at h;cases h
   | some e=>
    rw[hg] at h;simp only at h
    cases hr:q2F f (s.drop 24) with
    |none=>rw[hr] at h;cases h
    | some r=>
     rw[hr] at h;obtain ⟨h1,h2⟩:=q8Q f _ _ hr;have he:e::r=l:=by simpa using h
     subst he;obtain ⟨h3,h4⟩:=z4p hg;refine ⟨?_,fun x hx=>?_⟩
     ·rw[List.map_cons,List.flatten_cons,←h3,←h1,List.take_append_drop]
     ·rcases List.mem_cons.1 hx with rfl|hx
      ·exact h4
      ·exact h2 x hx
theorem q6u {s:List UInt8} {l:List En} (h:q8e s=some l):s=q8R l∧q0u l∧(∀e∈l,q3Q e=true)∧l.length<4294967296:=by
 unfold q8e at h
 split at h
 ·rename_i hc
  obtain ⟨h1,h2,h3,h4⟩:=hc
  cases hg:q2F (s.length+1) ((s.take (s.length-4)).drop 8) with
  |none=>rw[hg] at h;cases h
  | some l'=>
   rw[hg] at h;simp only at h
   split at h
   ·rename_i hs
    have:=Option.some.inj h;subst this;obtain ⟨h5,h6⟩:=q8Q _ _ _ hg;have hlen:=q3n l';rw[←h5] at hlen;rw[hlen] at h4;obtain ⟨t,ht⟩: ∃t,s.take (s.length-4)=t:=⟨_,rfl⟩
    have lt:t.length=s.length-4:=by rw[←ht];simp
    rw[ht] at h4 h5 hlen;have l4:((t.drop 4).take 4).length=4:=by simp;omega
    have b4:=q1t ((t.drop 4).take 4);rw[l4] at b4;have hn:q1H ((t.drop 4).take 4)=l'.length:=by omega
    have e4:=q8v ((t.drop 4).take 4);rw[l4,hn] at e4;have hT:t=z2x l':=by
     unfold z2x;rw[e4,←h5];have q1:s.take 4=t.take 4:=by rw[←ht,List.take_take];congr 1;omega
     rw[←h3,q1];have q2:t.drop 8=(t.drop 4).drop 4:=by rw[List.drop_drop]
     rw[q2,List.take_append_drop,List.take_append_drop]
    refine ⟨?_,(q3A _).1 hs,h6,by omega⟩;unfold q8R;rw[←hT,←ht];unfold q1v at h1;simp at h1;exact h1.2.symm
   ·cases h
 ·cases h
theorem z7A {s:List UInt8} {L:List En} (h:q8e s=some L) (hs:s.length≤1048576):L.length≤50000:=by
 obtain ⟨h1,_⟩:=q6u h;have:=q5A L;rw[←h1] at this;omega
theorem y0R {L:List En} (ho: ∀e∈L,q3Q e=true) {i:Nat} (hi:i<L.length):q9p (((q8R L).drop (8+24*i)).take 24)=some L[i]:=by
 rw[y0W (List.getElem?_eq_getElem hi)];exact z3F (ho _ (List.getElem_mem hi))
end
end Go.Proofs.YthdekbmdkpcooaaGreatDoor
