/- Plain laws on states: no program here. Walks: numbers as bytes. Walks: the sum of a text. Walks: texts with their sums. Plain laws: a state's bytes. Walks: whether a state may be. Walks: whether a state may be, by the document. Walks: the document's sum. Walks: a text with its length ahead; a state's bytes. Plain laws: entries, and tables of them, as bytes. Plain laws: entries in order are searched. Entries in memory. Plain laws: bytes that are a table's are that table's bytes. -/
import Derived.Test.YtmajfklnagdlpaaGreatDoorG2Bs
import Derived.Test.YtmajfklnagdlpaaGreatDoorG3Bs
import Derived.WalkLawsBesides
import Derived.Test.YtmajfklnagdlpaaGreatDoorChecked
set_option linter.unusedVariables false
set_option linter.unusedSimpArgs false
namespace Go.Proofs.YtmajfklnagdlpaaGreatDoor
open Go.RowKit
end Go.Proofs.YtmajfklnagdlpaaGreatDoor
namespace Go.Proofs.YtmajfklnagdlpaaGreatDoor
open Go.RowKit
theorem Tryz.infoU8 :(Tryz.prog.info? 5).map (fun i=>(i.zero,i.size,i.bytes))=some (some (.int .u8 0),1,1):=by kernel_rfl
set_option maxRecDepth 100000 in
set_option maxHeartbeats 1600000 in
theorem q5l (X:Int) (n:Nat) (w:World) (h1:1≤n) (h8:n≤8) (hx0:0≤X) (hX:X<18446744073709551616):
    Calls Tryz.prog 82 #[.int .u64 X,.int .i64 n] w fun e w'=>e= .returned (.string ⟨(be n X.toNat).toArray⟩)∧Ext w w':=by
  obtain ⟨i,hi,hz,hsize,hby⟩:=info_parts Tryz.infoU8
  have hXx:X=(X.toNat:Int):=by omega
  have HXx:=Lib.hid hXx;clear hXx
  generalize X.toNat=x at*
  go_enter Tryz.func82,Tryz.ntmps82
  go_wp2_with (at_make;refine wpList_make_full _ rfl _ _ 125 rfl w.heap.size 5 i (.int .u8 0) 1 Tryz.underlying125 hi hz hsize .i64 .i64 _ _ n rfl rfl rfl rfl (by rw[hby];omega) (by unfold maxLen;omega) (Nat.le_refl _) ?_;intro w2 hown hg)
  clear hi hz hsize hby
  have ho:=Own.of_row hown
  rw[Nat.mul_one,show (madeCells (Value.int .u8 0).cells n).toList=List.replicate n (.int .u8 0) from toList_madeCells_one _ _] at ho
  have hb0:Ext w w2:=(Ext.refl w).grown hg (Nat.le_refl _) (fun k hk=>by cases hk)
  have HO:=Lib.hid ho;have HB0:=Lib.hid hb0
  clear hown hg ho hb0
  go_loopw [16] (fun i w'=> ∃k:Nat,k≤n∧i= .int .i64 k∧Own w' w.heap.size 5 1 (.slice (some ⟨w.heap.size,0,none⟩) n n) n (List.replicate (n-k) (.int .u8 0)++(be k x).map q1A)∧Ext w w') (fun i _=>n-(intOf i).toNat)
  case atStart=>exact ⟨0,Nat.zero_le _,rfl,by simpa [be] using HO.out,HB0.out⟩
  case round=>
    clear HO HB0
    obtain ⟨k,hk,rfl,ho,hb⟩:=hrel
    have Hb:=Lib.hid hb;have HO:=Lib.hid ho
    by_cases hlt:k<n
    · obtain ⟨g,c,u,e,d1,d2,d3⟩:=ho.cellE (j:=n-1-k) (by omega)
      cases e
      have hst:=ho.stored (g:=w.heap.size) (cap:=n) rfl (j:=n-1-k) (.int .u8 ((UInt8.ofNat (x/256^k)).toNat:Int))
      have hset:(List.replicate (n-k) (Value.int .u8 0)++(be k x).map q1A).set (n-1-k) (.int .u8 ((UInt8.ofNat (x/256^k)).toNat:Int))=List.replicate (n-(k+1)) (.int .u8 0)++(be (k+1) x).map q1A:=by
        rw[show n-k=(n-(k+1))+1 from by omega,show n-1-k=n-(k+1) from by omega,z7x]
        rfl
      rw[hset,←z6U,←HXx.out] at hst
      have hbs:=hb.setCell (p:=⟨w.heap.size,n-1-k,none⟩) (Nat.le_refl _) (.int .u8 (X/2^(8*k) % 256))
      have HS:=Lib.hid hst;have HBS:=Lib.hid hbs
      clear ho hb hst hset hbs
      go_wp2_with fail
      go_roundw
      case rel=>exact ⟨k+1,by omega,by go_num,HS.out,HBS.out⟩
      case measure=>simp[intOf];omega
    · have hkn:k=n:=by omega
      rw[hkn,Nat.sub_self,List.replicate_zero,List.nil_append] at ho
      have hcv:=q3n (P:=Tryz.prog) wr 125 9 5 (a:=⟨w.heap.size,0,none⟩) (n:=n) (cap:=n) Tryz.underlying125 Tryz.underlying5 Tryz.underlying9 (q0G n x) (by obtain ⟨_,_,e,_,_,_,r⟩:=ho.rd;cases e;exact r)
      clear hkn ho hb
      go_wp2_with fail
      go_ret
      exact ⟨rfl,Hb.out⟩
theorem z2o (X N:Int) (k:Nat) (w:World) (hN:N=(k:Int)) (h1:1≤N) (h8:N≤8) (hx0:0≤X) (hX:X<18446744073709551616):
    Calls Tryz.prog 82 #[.int .u64 X,.int .i64 N] w fun e w'=>e= .returned (.string ⟨(be k X.toNat).toArray⟩)∧Ext w w':=by
  subst hN;exact q5l X k w (by omega) (by omega) hx0 hX
theorem z9O (x:Nat) (N:Int) (k:Nat) (w:World) (hN:N=(k:Int)) (h1:1≤N) (h8:N≤8) (hX:(x:Int)<18446744073709551616):
    Calls Tryz.prog 82 #[.int .u64 (x:Int),.int .i64 N] w fun e w'=>e= .returned (.string ⟨(be k x).toArray⟩)∧Ext w w':=by
  have h:=z2o (x:Int) N k w hN h1 h8 (by omega) hX
  rwa [Int.toNat_natCast] at h
set_option maxRecDepth 100000 in
set_option maxHeartbeats 1600000 in
theorem q8x (l:List UInt8) (w:World) (hl:l.length≤9223372036854775807):
    Calls Tryz.prog 199 #[.string ⟨l.toArray⟩] w fun e w'=>e= .returned (.int .u64 (q0x (l.take 8)))∧Ext w w':=by
  obtain ⟨m,hm⟩: ∃m:Nat,m=min l.length 8:=⟨_,rfl⟩
  have hmin:(if (8:Int)<(l.length:Int) then (8:Int) else (l.length:Int))=(m:Int):=by split<;>omega
  have hm1:m≤l.length:=by omega
  have hm8:m≤8:=by omega
  have htk:l.take 8=l.take m:=by
    rw[hm];rcases Nat.le_total l.length 8 with h|h
    · rw[Nat.min_eq_left h,List.take_of_length_le h,List.take_length]
    · rw[Nat.min_eq_right h]
  have HTK:=Lib.hid htk
  clear hm htk
  go_enter Tryz.func199,Tryz.ntmps199
  go_wp2_with fail
  clear hmin
  go_loopw [3,8] (fun v i w'=> ∃(k:Nat) (Z:Int),k≤m∧i= .int .i64 k∧v= .int .u64 Z∧Z=(q0x (l.take k):Int)∧Ext w w') (fun _ i _=>m-(intOf i).toNat)
  case atStart=>exact ⟨0,0,Nat.zero_le _,rfl,rfl,rfl,Ext.refl _⟩
  case round=>
    obtain ⟨k,Z,hk,rfl,rfl,hz,hb⟩:=hrel
    have Hb:=Lib.hid hb;have HZ:=Lib.hid hz
    clear hb
    by_cases hlt:k<m
    · have hz0:0≤Z:=by omega
      have hz1:Z<72057594037927936:=by
        have h1:=q1q (l.take k)
        have h2:(l.take k).length=k:=by simp;omega
        rw[h2] at h1
        have h3:(256:Nat)^k≤256^7:=Nat.pow_le_pow_right (by decide) (by omega)
        omega
      clear hz
      have hkl:k<l.length:=by omega
      go_wp2_with fail
      go_roundw
      case rel=>exact ⟨k+1,_,by omega,by go_num,rfl,by
        have e:=z0z Z l[k] hz0 hz1
        rw[show ((⟨l.toArray⟩:ByteArray)[k])=l[k] from rfl,e,HZ.out,List.take_succ_eq_append_getElem hkl,z4p]
        omega,Hb.out⟩
      case measure=>simp[intOf];omega
    · have hkm:k=m:=by omega
      have HK:=Lib.hid hkm;clear hkm hz
      go_wp2_with fail
      go_ret
      exact ⟨rn (by rw[HTK.out,HZ.out,HK.out]),Hb.out⟩
end Go.Proofs.YtmajfklnagdlpaaGreatDoor
namespace Go.Proofs.YtmajfklnagdlpaaGreatDoor
open Go.RowKit
set_option maxRecDepth 100000 in
set_option maxHeartbeats 1600000 in
theorem z8V (s:BitVec 32) (c:UInt8) (S C:Int) (w:World) (hS:S=(s.toNat:Int)) (hC:C=(c.toNat:Int)):
    Calls Tryz.prog 259 #[.int .u32 S,.int .u8 C] w fun e w'=>e= .returned (.int .u32 ((q3X s c).toNat:Int))∧Ext w w':=by
  have hx:=q4T s (BitVec.ofNat 32 c.toNat)
  rw[z7P,←hS,←hC] at hx
  have HX:=Lib.hid hx
  have b1:0≤S:=by omega
  have b2:S<4294967296:=by have:=s.isLt;omega
  have b3:0≤C:=by omega
  have b4:C<256:=by have:=c.toNat_lt;omega
  clear hS hC hx
  go_enter Tryz.func259,Tryz.ntmps259
  go_wp2_with fail
  go_loopw [0,9] (fun v i w'=> ∃(k:Nat) (V:Int),k≤8∧i= .int .i64 k∧v= .int .u32 V∧V=((q6I k (s^^^BitVec.ofNat 32 c.toNat)).toNat:Int)∧Ext w w') (fun _ i _=>8-(intOf i).toNat)
  case atStart=>exact ⟨0,_,Nat.zero_le _,rfl,rfl,HX.out,Ext.refl _⟩
  case round=>
    obtain ⟨k,V,hk,rfl,rfl,hv,hb⟩:=hrel
    have HV:=Lib.hid hv;have Hb:=Lib.hid hb
    have v1:0≤V:=by omega
    have v2:V<4294967296:=by have:=(q6I k (s^^^BitVec.ofNat 32 c.toNat)).isLt;omega
    clear hv hb
    by_cases hlt:k<8
    · have hst:=z7I (q6I k (s^^^BitVec.ofNat 32 c.toNat))
      rw[←HV.out] at hst
      have HST:=Lib.hid hst;clear hst
      go_wp2_with fail
      go_roundw
      case rel=>exact ⟨k+1,_,by omega,by go_num,rfl,HST.out,Hb.out⟩
      case measure=>simp[intOf];omega
    · have hk8:k=8:=by omega
      have HK:=Lib.hid hk8;clear hk8
      go_wp2_with fail
      go_ret
      exact ⟨rn (by rw[HV.out,HK.out];rfl),Hb.out⟩
set_option maxRecDepth 100000 in
set_option maxHeartbeats 1600000 in
theorem z8R (l:List UInt8) (w:World) (hl:l.length≤9223372036854775807):
    Calls Tryz.prog 228 #[.int .u32 0,.string ⟨l.toArray⟩] w fun e w'=>e= .returned (.int .u32 ((q1Y l).toNat:Int))∧Ext w w':=by
  go_enter Tryz.func228,Tryz.ntmps228
  go_wp2_with fail
  go_loopw [5,11] (fun v i w'=> ∃(k:Nat) (V:Int),k≤l.length∧i= .int .i64 k∧v= .int .u32 V∧V=(((l.take k).foldl q3X (~~~0#32)).toNat:Int)∧Ext w w') (fun _ i _=>l.length-(intOf i).toNat)
  case atStart=>exact ⟨0,_,Nat.zero_le _,rfl,rfl,rfl,Ext.refl _⟩
  case round=>
    obtain ⟨k,V,hk,rfl,rfl,hv,hb⟩:=hrel
    have HV:=Lib.hid hv;have Hb:=Lib.hid hb
    have v1:0≤V:=by omega
    have v2:V<4294967296:=by have:=((l.take k).foldl q3X (~~~0#32)).isLt;omega
    clear hv hb
    by_cases hlt:k<l.length
    · go_wp2_with fail
      refine (z8V _ l[k] _ _ _ HV.out rfl).mono ?_
      rintro e w1 ⟨rfl,hb1⟩
      have HB1:=Lib.hid (Hb.out.trans hb1);clear hb1
      have hf:(l.take (k+1)).foldl q3X (~~~0#32)=q3X ((l.take k).foldl q3X (~~~0#32)) l[k]:=by
        rw[List.take_succ_eq_append_getElem hlt,List.foldl_append];rfl
      have HF:=Lib.hid hf;clear hf
      generalize q3X ((l.take k).foldl q3X (~~~0#32)) l[k]=T at*
      go_wp2_with fail
      go_roundw
      case rel=>exact ⟨k+1,_,by omega,by go_num,rfl,by rw[HF.out],HB1.out⟩
      case measure=>simp[intOf];omega
    · have hkl:l.take k=l:=List.take_of_length_le (by omega)
      have HK:=Lib.hid hkl;clear hkl
      go_wp2_with fail
      go_ret
      exact ⟨rn (by rw[HV.out,HK.out,z8j];rfl),Hb.out⟩
theorem z7q (l:List UInt8) (w:World) (hl:l.length≤9223372036854775807):
    Calls Tryz.prog 177 #[.string ⟨l.toArray⟩] w fun e w'=>e= .returned (.int .u32 ((q1Y l).toNat:Int))∧Ext w w':=by
  go_enter Tryz.func177,Tryz.ntmps177
  go_wp2_with fail
  refine (z8R l _ hl).mono ?_
  rintro e w1 ⟨rfl,hb⟩
  have HB:=Lib.hid hb;clear hb
  go_wp2_with fail
  go_ret
  exact ⟨rfl,HB.out⟩
def q7t (s:BitVec 32):List UInt8:=(be 4 s.toNat).reverse
theorem be4 (x:Nat):be 4 x=[UInt8.ofNat (x/16777216),UInt8.ofNat (x/65536),UInt8.ofNat (x/256),UInt8.ofNat x]:=by
  simp[be]
set_option maxRecDepth 100000 in
set_option maxHeartbeats 3200000 in
theorem z7z (s:BitVec 32) (S:Int) (w:World) (hS:S=(s.toNat:Int)):
    Calls Tryz.prog 176 #[.int .u32 S] w fun e w'=>e= .returned (.string ⟨(q7t s).toArray⟩)∧Ext w w':=by
  have b1:0≤S:=by omega
  have b2:S<4294967296:=by have:=s.isLt;omega
  have hSn:S.toNat=s.toNat:=by omega
  have HSn:=Lib.hid hSn
  clear hS hSn
  go_enter Tryz.func176,Tryz.ntmps176
  go_wp2_with fail
  refine (q5l S 4 _ (by omega) (by omega) b1 (by omega)).mono ?_
  rw[be4,HSn.out]
  rintro e w1 ⟨rfl,hb⟩
  have HB:=Lib.hid hb;clear hb
  have hlow:q7t s=[UInt8.ofNat s.toNat,UInt8.ofNat (s.toNat/256),UInt8.ofNat (s.toNat/65536),UInt8.ofNat (s.toNat/16777216)]:=by
    unfold q7t;rw[be4];rfl
  have HLow:=Lib.hid hlow;clear hlow
  generalize UInt8.ofNat (s.toNat/16777216)=c0 at*
  generalize UInt8.ofNat (s.toNat/65536)=c1 at*
  generalize UInt8.ofNat (s.toNat/256)=c2 at*
  generalize UInt8.ofNat s.toNat=c3 at*
  have hcv2:=fun w s=>run_bytes_of_string (P:=Tryz.prog) w 9 125 5 s Tryz.underlying9 Tryz.underlying125 Tryz.underlying5
  go_wp2_with fail
  obtain ⟨hrd,hfz,hex⟩:=z0g w1 5 [c0,c1,c2,c3] (grownCap w1 4 0 5)
  have HB2:=Lib.hid (HB.out.trans hex)
  clear hex hcv2
  generalize (w1.alloc (Obj.cells (bytesRow {data:=#[c0,c1,c2,c3]} (grownCap w1 4 0 5)) 5 ((bytesRow {data:=#[c0,c1,c2,c3]} (grownCap w1 4 0 5)).size,(bytesRow {data:=#[c0,c1,c2,c3]} (grownCap w1 4 0 5)).size+1))).drew=W at*
  have d0:W.cell? ⟨w1.heap.size,0,none⟩=some (.int .u8 (c0.toNat:Int)):=by obtain ⟨_,_,e,h⟩:=hrd 0 _ rfl;cases e;exact h
  have d1:W.cell? ⟨w1.heap.size,1,none⟩=some (.int .u8 (c1.toNat:Int)):=by obtain ⟨_,_,e,h⟩:=hrd 1 _ rfl;cases e;exact h
  have d2:W.cell? ⟨w1.heap.size,2,none⟩=some (.int .u8 (c2.toNat:Int)):=by obtain ⟨_,_,e,h⟩:=hrd 2 _ rfl;cases e;exact h
  have d3:W.cell? ⟨w1.heap.size,3,none⟩=some (.int .u8 (c3.toNat:Int)):=by obtain ⟨_,_,e,h⟩:=hrd 3 _ rfl;cases e;exact h
  have z0:=hfz 0 (by simp);have z1:=hfz 1 (by simp);have z2:=hfz 2 (by simp);have z3:=hfz 3 (by simp)
  have hg:Hid (w.heap.size≤w1.heap.size):=Lib.hid HB.out.size
  generalize w1.heap.size=g at*
  clear hrd hfz
  have hr4:=z7m d0 d1 d2 d3 (q1A c3) (q1A c2) (q1A c1) (q1A c0)
  have hcv:=q3n (P:=Tryz.prog) _ 125 9 5 (n:=4) (l:=[c3,c2,c1,c0]) (cap:=grownCap w1 4 0 5) Tryz.underlying125 Tryz.underlying5 Tryz.underlying9 rfl hr4
  have HCV:=Lib.hid hcv
  have HD:Hid (Below w.heap.size w ((((W.setCell ⟨g,0,none⟩ (q1A c3)).setCell ⟨g,1,none⟩ (q1A c2)).setCell ⟨g,2,none⟩ (q1A c1)).setCell ⟨g,3,none⟩ (q1A c0)).drew):=
    Lib.hid (((((HB2.out.setCell (p:=⟨g,0,none⟩) hg.out _).setCell (p:=⟨g,1,none⟩) hg.out _).setCell (p:=⟨g,2,none⟩) hg.out _).setCell (p:=⟨g,3,none⟩) hg.out _).drew)
  clear hr4 hcv
  go_region
  have hcv:=HCV.out
  clear d0 d1 d2 d3 z0 z1 z2 z3
  generalize ((((W.setCell ⟨g,0,none⟩ (q1A c3)).setCell ⟨g,1,none⟩ (q1A c2)).setCell ⟨g,2,none⟩ (q1A c1)).setCell ⟨g,3,none⟩ (q1A c0)).drew=W4 at*
  go_wp2_with fail
  go_ret
  exact ⟨by rw[HLow.out];rfl,HD.out⟩
end Go.Proofs.YtmajfklnagdlpaaGreatDoor
namespace Go.Proofs.YtmajfklnagdlpaaGreatDoor
open Go.RowKit
def q0w (l:List UInt8):List UInt8:=l++q7t (q1Y l)
def q1f (l:List UInt8):Bool:=decide (4≤l.length)&&decide (q0w (l.take (l.length-4))=l)
def q1W (l:List UInt8):List UInt8:=if q1f l then l.take (l.length-4) else []
theorem q4P (s:BitVec 32):(q7t s).length=4:=by simp[q7t,q0G]
theorem q0b (l:List UInt8):(q0w l).length=l.length+4:=by simp[q0w,q4P]
theorem z5T (l:List UInt8) (h:4≤l.length):q1f l=decide (q7t (q1Y (l.take (l.length-4)))=l.drop (l.length-4)):=by
  unfold q1f
  rw[decide_eq_true h,Bool.true_and]
  have e:l=l.take (l.length-4)++l.drop (l.length-4):=(List.take_append_drop _ _).symm
  have :(q0w (l.take (l.length-4))=l)↔(q7t (q1Y (l.take (l.length-4)))=l.drop (l.length-4)):=by
    unfold q0w
    constructor
    · intro h2
      have h3:l.take (l.length-4)++q7t (q1Y (l.take (l.length-4)))=l.take (l.length-4)++l.drop (l.length-4):=by rw[h2];exact e
      exact List.append_cancel_left h3
    · intro h2;rw[h2];exact e.symm
  simp only[this]
theorem q9y (l:List UInt8) (h:l.length<4):q1f l=false:=by
  unfold q1f;rw[decide_eq_false (by omega)];rfl
theorem q7u (l:List UInt8) (w:World) (hl:l.length≤4611686018427387903):
    Calls Tryz.prog 115 #[.string ⟨l.toArray⟩] w fun e w'=>e= .returned (.string ⟨(q0w l).toArray⟩)∧Ext w w':=by
  go_enter Tryz.func115,Tryz.ntmps115
  go_wp2_with fail
  refine (z7q l _ (by omega)).mono ?_
  rintro e w1 ⟨rfl,hb⟩
  have HB:=Lib.hid hb;clear hb
  go_wp2_with fail
  refine (z7z (q1Y l) _ _ rfl).mono ?_
  rintro e w2 ⟨rfl,hb⟩
  have HB2:=Lib.hid (HB.out.trans hb);clear hb
  have hlen:=q4P (q1Y l)
  have HS:Hid (q0w l=l++q7t (q1Y l)):=Lib.hid rfl
  generalize q7t (q1Y l)=T at*
  go_wp2_with fail
  go_ret
  exact ⟨by rw[HS.out];simp[ByteArray.mk_append_mk],HB2.out⟩
set_option maxRecDepth 100000 in
set_option maxHeartbeats 1600000 in
theorem z1N (l:List UInt8) (w:World) (hl:l.length≤4611686018427387903):
    Calls Tryz.prog 198 #[.string ⟨l.toArray⟩] w fun e w'=>e= .returned (.tuple #[.string ⟨(q1W l).toArray⟩,.bool (q1f l)])∧Ext w w':=by
  by_cases h4:l.length<4
  · have ho:=q9y l h4
    have HO:=Lib.hid ho;clear ho
    have hd:decide ((l.length:Int)<4)=true:=by simp;omega
    go_enter Tryz.func198,Tryz.ntmps198
    go_wp2_with fail
    refine q0D (by kernel_rfl) (by kernel_rfl) ?_
    repeat (go_big_quiet_step (fail))
    refine wpQuiet_nil ?_
    intro w2 hw2
    have HW:=Lib.hid hw2;clear hw2
    go_wp2_with fail
    go_ret2
    exact ⟨by rw[q1W,HO.out];rfl,HW.out⟩
  · have ho:=z5T l (by omega)
    have HO:=Lib.hid ho;clear ho
    have hd:decide ((l.length:Int)<4)=false:=by simp;omega
    have h4':4≤l.length:=by omega
    have htl:(l.take (l.length-4)).length≤9223372036854775807:=by simp;omega
    have HTL:=Lib.hid htl;clear htl
    have HOT:Hid (q1W l=if q1f l then l.take (l.length-4) else []):=Lib.hid rfl
    by_cases heq:q7t (q1Y (l.take (l.length-4)))=l.drop (l.length-4)
    · have hq:(q7t (q1Y (l.take (l.length-4)))==l.drop (l.length-4))=true:=by rw[beq_iff_eq];exact heq
      have HEQ:=Lib.hid heq;clear heq
      go_enter Tryz.func198,Tryz.ntmps198
      go_wp2_with fail
      refine q0D (by kernel_rfl) (by kernel_rfl) ?_
      repeat (go_big_quiet_step (first|(go_at_call 177;exact Calls.quiet_ext (z7q _ _ HTL.out))|(go_at_call 176;exact Calls.quiet_ext (z7z (q1Y _) _ _ rfl))))
      refine wpQuiet_nil ?_
      intro w2 hw2
      have HW:=Lib.hid hw2;clear hw2
      go_wp2_with fail
      go_ret2
      exact ⟨by rw[HOT.out,HO.out,decide_eq_true HEQ.out];rfl,HW.out⟩
    · have hq:(q7t (q1Y (l.take (l.length-4)))==l.drop (l.length-4))=false:=by rw[beq_eq_false_iff_ne];exact heq
      have HEQ:=Lib.hid heq;clear heq
      go_enter Tryz.func198,Tryz.ntmps198
      go_wp2_with fail
      refine q0D (by kernel_rfl) (by kernel_rfl) ?_
      repeat (go_big_quiet_step (first|(go_at_call 177;exact Calls.quiet_ext (z7q _ _ HTL.out))|(go_at_call 176;exact Calls.quiet_ext (z7z (q1Y _) _ _ rfl))))
      refine wpQuiet_nil ?_
      intro w2 hw2
      have HW:=Lib.hid hw2;clear hw2
      go_wp2_with fail
      go_ret2
      exact ⟨by rw[HOT.out,HO.out,decide_eq_false HEQ.out];rfl,HW.out⟩
end Go.Proofs.YtmajfklnagdlpaaGreatDoor
namespace Go.Proofs.YtmajfklnagdlpaaGreatDoor
open Go.RowKit
def q2M (s:List UInt8):List UInt8:=if s.length≤65535 then be 2 s.length++s else []
theorem q3m {s:List UInt8} (h:s.length≤65535):q2M s=be 2 s.length++s:=by unfold q2M;rw[if_pos h]
theorem z5n {s:List UInt8} (h:¬s.length≤65535):q2M s=[]:=by unfold q2M;rw[if_neg h]
end Go.Proofs.YtmajfklnagdlpaaGreatDoor
namespace Go.Proofs.YtmajfklnagdlpaaGreatDoor
open Go.RowKit
end Go.Proofs.YtmajfklnagdlpaaGreatDoor
namespace Go.Proofs.YtmajfklnagdlpaaGreatDoor
open Go.RowKit
end Go.Proofs.YtmajfklnagdlpaaGreatDoor
namespace Go.Proofs.YtmajfklnagdlpaaGreatDoor
open Go.RowKit
end Go.Proofs.YtmajfklnagdlpaaGreatDoor
namespace Go.Proofs.YtmajfklnagdlpaaGreatDoor
open Go.RowKit
set_option maxRecDepth 100000 in
set_option maxHeartbeats 800000 in
theorem z3M (s:List UInt8) (w:World) (hl:s.length≤4611686018427387903):
    Calls Tryz.prog 81 #[.string ⟨s.toArray⟩] w fun e w'=>e= .returned (.string ⟨(q2M s).toArray⟩)∧Ext w w':=by
  by_cases h:65535<(s.length:Int)
  · have HT:=Lib.hid (z5n (s:=s) (by omega))
    go_enter Tryz.func81,Tryz.ntmps81
    go_wp2_with fail
    go_ret
    exact ⟨by rw[HT.out];rfl,Ext.refl _⟩
  · have HT:=Lib.hid (q3m (s:=s) (by omega))
    have h':(s.length:Int)≤65535:=by omega
    clear h
    go_enter Tryz.func81,Tryz.ntmps81
    go_wp2_with fail
    refine (z9O s.length 2 2 _ rfl (by decide) (by decide) (by omega)).mono ?_
    rintro e w1 ⟨rfl,hb⟩
    have HB:=Lib.hid hb;clear hb
    have hbl:=q0G 2 s.length
    go_wp2_with fail
    go_ret
    exact ⟨by rw[HT.out,ByteArray.mk_append_mk];simp,HB.out⟩
end Go.Proofs.YtmajfklnagdlpaaGreatDoor
namespace Go.Proofs.YtmajfklnagdlpaaGreatDoor
open Go.RowKit
abbrev En :=Int×Int×Int
def q4p (e:En):Bool:=decide (0≤e.1)&&decide (e.1<18446744073709551616)&&decide (0≤e.2.1)&&decide (e.2.1≤9223372036854775807)&&decide (0≤e.2.2)&&decide (e.2.2≤9223372036854775807)
theorem okEn_iff {e:En}:q4p e=true↔0≤e.1∧e.1<18446744073709551616∧0≤e.2.1∧e.2.1≤9223372036854775807∧0≤e.2.2∧e.2.2≤9223372036854775807:=by
  simp[q4p,and_assoc]
def q1b (a b:En):Bool:=if a.1≠b.1 then decide (a.1<b.1) else if a.2.1≠b.2.1 then decide (a.2.1<b.2.1) else decide (a.2.2<b.2.2)
theorem lessE_iff {a b:En}:q1b a b=true↔a.1<b.1∨(a.1=b.1∧(a.2.1<b.2.1∨(a.2.1=b.2.1∧a.2.2<b.2.2))):=by
  unfold q1b
  split
  · rw[decide_eq_true_eq];omega
  · split
    · rw[decide_eq_true_eq];omega
    · rw[decide_eq_true_eq];omega
theorem q2i {a b c:En} (h:q1b a b=true) (k:q1b b c=true):q1b a c=true:=by rw[lessE_iff] at*;omega
theorem q2H (a:En):q1b a a=false:=by
  cases h:q1b a a with
  |false=>rfl
  |true=>rw[lessE_iff] at h;omega
theorem q6G {a b:En} (h:q1b a b=false) (k:q1b b a=false):a=b:=by
  have h1:¬(a.1<b.1∨(a.1=b.1∧(a.2.1<b.2.1∨(a.2.1=b.2.1∧a.2.2<b.2.2)))):=fun x=>by rw[lessE_iff.2 x] at h;cases h
  have h2:¬(b.1<a.1∨(b.1=a.1∧(b.2.1<a.2.1∨(b.2.1=a.2.1∧b.2.2<a.2.2)))):=fun x=>by rw[lessE_iff.2 x] at k;cases k
  obtain ⟨a1,a2,a3⟩:=a
  obtain ⟨b1,b2,b3⟩:=b
  simp only at h1 h2
  have e1:a1=b1:=by omega
  have e2:a2=b2:=by omega
  have e3:a3=b3:=by omega
  rw[e1,e2,e3]
def q2R (l:List En):Prop:=l.Pairwise fun a b=>q1b a b=true
def q1r :List En→Bool
  |[]=>true
  |[_]=>true
  |a::b::r=>q1b a b&&q1r (b::r)
theorem q2F : ∀l:List En,q1r l=true↔q2R l
  |[]=>by simp[q1r,q2R]
  |[a]=>by simp[q1r,q2R]
  | a ::b::r=>by
    unfold q1r q2R
    rw[Bool.and_eq_true,q2F (b::r)]
    constructor
    · rintro ⟨h1,h2⟩
      refine List.pairwise_cons.2 ⟨fun x hx=>?_,h2⟩
      rcases List.mem_cons.1 hx with rfl|hx
      · exact h1
      · exact q2i h1 ((List.pairwise_cons.1 h2).1 x hx)
    · intro h
      obtain ⟨h1,h2⟩:=List.pairwise_cons.1 h
      exact ⟨h1 b List.mem_cons_self,h2⟩
def q5G (e:En):List UInt8:=be 8 e.1.toNat++(be 8 e.2.1.toNat++be 8 e.2.2.toNat)
theorem q2k (e:En):(q5G e).length=24:=by simp[q5G,q0G]
def z2E (s:List UInt8):Option En:=
  if s.length=24∧q0x ((s.drop 8).take 8)≤9223372036854775807∧q0x (s.drop 16)≤9223372036854775807 then some ((q0x (s.take 8):Int),(q0x ((s.drop 8).take 8):Int),(q0x (s.drop 16):Int)) else none
theorem z2f (e:En):(q5G e).take 8=be 8 e.1.toNat∧((q5G e).drop 8).take 8=be 8 e.2.1.toNat∧(q5G e).drop 16=be 8 e.2.2.toNat:=by
  have h1:=q0G 8 e.1.toNat
  have h2:=q0G 8 e.2.1.toNat
  refine ⟨?_,?_,?_⟩
  · unfold q5G;exact List.take_left' h1
  · unfold q5G;rw[List.drop_left' h1];exact List.take_left' h2
  · unfold q5G
    rw[←List.append_assoc]
    exact List.drop_left' (by rw[List.length_append,h1,h2])
theorem z5m {e:En} (h:q4p e=true):z2E (q5G e)=some e:=by
  obtain ⟨a0,a1,b0,b1,c0,c1⟩:=okEn_iff.1 h
  obtain ⟨p1,p2,p3⟩:=z2f e
  have u: ∀x:Int,0≤x→x<18446744073709551616→q0x (be 8 x.toNat)=x.toNat:=fun x h0 h1=>by
    rw[q4Q];exact Nat.mod_eq_of_lt (by omega)
  unfold z2E
  rw[p1,p2,p3,u _ a0 a1,u _ b0 (by omega),u _ c0 (by omega),q2k,if_pos (by omega)]
  obtain ⟨x,y,z⟩:=e
  simp only at*
  congr 2
  · omega
  · congr 1
    · omega
    · omega
def z0Z :List UInt8:=[112,116,97,98]
def q8W (l:List En):List UInt8:=z0Z++(be 4 l.length++(l.map q5G).flatten)
def q2r (l:List En):List UInt8:=q0w (q8W l)
theorem q3N (l:List En):((l.map q5G).flatten).length=24*l.length:=by
  induction l with
  |nil=>rfl
  |cons e r ih=>rw[List.map_cons,List.flatten_cons,List.length_append,q2k,ih,List.length_cons];omega
theorem q4N (l:List En):(q8W l).length=8+24*l.length:=by
  unfold q8W z0Z;rw[List.length_append,List.length_append,q0G,q3N];simp;omega
theorem q3Y (l:List En):(q2r l).length=12+24*l.length:=by unfold q2r;rw[q0b,q4N];omega
def q1m :Nat→List UInt8→Option (List En)
  |0,_=>none
  | f+1,s=>if s=[] then some [] else match z2E (s.take 24) with
    |none=>none
    |some e=>(q1m f (s.drop 24)).map (e::·)
def q7o (s:List UInt8):Option (List En):=
  if q1f s∧8≤s.length-4∧s.take 4=z0Z∧((s.take (s.length-4)).drop 8).length=q0x (((s.take (s.length-4)).drop 4).take 4)*24 then
    match q1m (s.length+1) ((s.take (s.length-4)).drop 8) with
    |none=>none
    |some l=>if q1r l then some l else none
  else none
theorem q7S : ∀(l:List En) (f:Nat),l.length<f→(∀e∈l,q4p e=true)→q1m f ((l.map q5G).flatten)=some l
  | [],f+1,_,_=>by
    show (if ([]:List UInt8)=[] then some [] else _)=some []
    rw[if_pos rfl]
  |[],0,h,_=>by simp at h
  |e::r,0,h,_=>by simp at h
  | e::r,f+1,h,ho=>by
    have h1:=q2k e
    unfold q1m
    rw[List.map_cons,List.flatten_cons,if_neg (fun k=>by have:=congrArg List.length k;rw[List.length_append,h1] at this;simp at this),List.take_left' h1,List.drop_left' h1,z5m (ho e List.mem_cons_self)]
    show (q1m f ((r.map q5G).flatten)).map (e::·)=_
    rw[q7S r f (by simp at h;omega) fun x hx=>ho x (List.mem_cons_of_mem _ hx)]
    rfl
theorem z3F (x:List UInt8):q1f (q0w x)=true:=by
  unfold q1f
  have h1:(q0w x).take ((q0w x).length-4)=x:=by rw[q0b];unfold q0w;exact List.take_left' (by omega)
  rw[h1,decide_eq_true (by rw[q0b];omega),decide_eq_true rfl];rfl
theorem z6R {l:List En} (hs:q2R l) (ho: ∀e∈l,q4p e=true) (hl:l.length<4294967296):q7o (q2r l)=some l:=by
  have h1:(q2r l).take ((q2r l).length-4)=q8W l:=by unfold q2r;rw[q0b];unfold q0w;exact List.take_left' (by omega)
  have hc:=q4N l
  have h2:(q8W l).drop 8=(l.map q5G).flatten:=by
    unfold q8W
    rw[←List.append_assoc]
    exact List.drop_left' (by rw[List.length_append,q0G];rfl)
  have h3:((q8W l).drop 4).take 4=be 4 l.length:=by
    unfold q8W
    rw[show (z0Z++(be 4 l.length++(l.map q5G).flatten)).drop 4=be 4 l.length++(l.map q5G).flatten from List.drop_left' rfl]
    exact List.take_left' (q0G 4 _)
  have h4:(q2r l).take 4=z0Z:=by
    unfold q2r q0w q8W
    rw[List.append_assoc]
    exact List.take_left' rfl
  have hob:q1f (q2r l)=true:=z3F _
  unfold q7o
  rw[h1,h2,h3,h4,q4Q,q3N,q3Y,if_pos ⟨hob,by omega,rfl,by rw[Nat.mod_eq_of_lt (by omega)];omega⟩,q7S l _ (by omega) ho]
  show (if q1r l then some l else none)=some l
  rw[if_pos ((q2F l).2 hs)]
end Go.Proofs.YtmajfklnagdlpaaGreatDoor
namespace Go.Proofs.YtmajfklnagdlpaaGreatDoor
open Go.RowKit
def lbE (l:List En) (x:En):Nat:=(l.filter fun e=>q1b e x).length
theorem z1F (l:List En) (x:En):lbE l x≤l.length:=List.length_filter_le _ _
theorem q6u : ∀{l:List En} (x:En),q2R l→ ∀{i:Nat} {e:En},l[i]?=some e→q1b e x=decide (i<lbE l x)
  |[],x,_,i,e,h=>by simp at h
  | a :: r,x,hs,i,e,h=>by
    obtain ⟨h1,h2⟩:=List.pairwise_cons.1 hs
    by_cases ha:q1b a x=true
    · have hl:lbE (a::r) x=lbE r x+1:=by unfold lbE;rw[List.filter_cons_of_pos (p:=fun e=>q1b e _) ha];rfl
      rw[hl]
      cases i with
      | zero=>
        simp only[List.getElem?_cons_zero,Option.some.injEq] at h
        subst h
        rw[ha];simp
      | succ i=>
        rw[List.getElem?_cons_succ] at h
        rw[q6u x h2 h,decide_eq_decide];omega
    · have ha':q1b a x=false:=by simpa using ha
      have hall: ∀b∈r,q1b b x=false:=fun b hb=>by
        cases hbx:q1b b x with
        |false=>rfl
        |true=>exact absurd (q2i (h1 b hb) hbx) ha
      have hl:lbE (a::r) x=0:=by
        unfold lbE
        rw[List.filter_cons_of_neg (p:=fun e=>q1b e x) ha,List.filter_eq_nil_iff.2 fun b hb=>by rw[hall b hb];decide]
        rfl
      rw[hl]
      cases i with
      | zero=>
        simp only[List.getElem?_cons_zero,Option.some.injEq] at h
        subst h
        rw[ha'];rfl
      | succ i=>
        rw[List.getElem?_cons_succ] at h
        rw[hall e (List.mem_of_getElem? h)];simp
def q8k (many:Nat):Nat→List En→List (En×Nat)
  |_,[]=>[]
  |i,e::r=>if i % 8=0∨i+1=many then (e,i)::q8k many (i+1) r else q8k many (i+1) r
def q7K (l:List En):List (En×Nat):=q8k l.length 0 l
end Go.Proofs.YtmajfklnagdlpaaGreatDoor
namespace Go.Proofs.YtmajfklnagdlpaaGreatDoor
open Go.RowKit
def en0 :En:=(0,0,0)
def ec (e:En):List Value:=[.int .u64 e.1,.int .i64 e.2.1,.int .i64 e.2.2]
def enV (e:En):Value:= .agg (ec e).toArray
def ecs (L:List En):List Value:=L.flatMap ec
theorem q1v (L:List En):(ecs L).length=L.length*3:=by
  induction L with
  |nil=>rfl
  |cons k L ih=>unfold ecs at ih⊢;rw[List.flatMap_cons,List.length_append,ih,List.length_cons];simp[ec];omega
theorem z6V (L:List En) (e:En):ecs (L++[e])=ecs L++ec e:=by unfold ecs;simp
theorem z2N (L M:List En):ecs (L++M)=ecs L++ecs M:=by unfold ecs;simp
theorem q3z (e:En) (L:List En):ecs (e::L)=ec e++ecs L:=rfl
theorem z1V : ∀(L:List En) (i j:Nat),i<L.length→j<3→(ecs L)[i*3+j]?=(ec (L.getD i en0))[j]?
  |[],i,j,h,_=>by simp at h
  | k::L,0,j,_,hj=>by
    rw[q3z,List.getElem?_append_left (by simp[ec];omega)]
    simp
  | k::L,i+1,j,h,hj=>by
    rw[q3z,List.getElem?_append_right (by simp[ec];omega),show (i+1)*3+j-(ec k).length=i*3+j from by simp[ec];omega,z1V L i j (by simpa using h) hj]
    simp
theorem q4M (L:List En): ∀u∈ecs L,u.oneCell'=true:=fun u hu=>by
  unfold ecs at hu
  obtain ⟨f,_,hf⟩:=List.mem_flatMap.1 hu
  unfold ec at hf
  simp only[List.mem_cons,List.not_mem_nil,or_false] at hf
  rcases hf with rfl|rfl|rfl<;>rfl
structure Ens (w:World) (ao:Option Addr) (n cap:Nat) (L:List En):Prop where
  len:L.length=n
  fits:n≤cap
  bound:cap≤9223372036854775807
  nil:ao=none→cap=0
  rd:Rd w ao (ecs L)
theorem Ens.ext {w w':World} {ao:Option Addr} {n cap:Nat} {L:List En} (h:Ens w ao n cap L) (k:Ext w w'):Ens w' ao n cap L:=⟨h.len,h.fits,h.bound,h.nil,h.rd.ext k⟩
theorem Ens.at {w:World} {ao:Option Addr} {n cap:Nat} {L:List En} (h:Ens w ao n cap L) {i:Nat} (hi:i<n):
    ∃b off,ao=some ⟨b,off,none⟩∧w.cell? ⟨b,off+i*3,none⟩=some (.int .u64 (L.getD i en0).1)∧w.cell? ⟨b,off+i*3+1,none⟩=some (.int .i64 (L.getD i en0).2.1)∧w.cell? ⟨b,off+i*3+2,none⟩=some (.int .i64 (L.getD i en0).2.2):=by
  have hl:=h.len
  have k0:=z1V L i 0 (by omega) (by decide)
  have k1:=z1V L i 1 (by omega) (by decide)
  have k2:=z1V L i 2 (by omega) (by decide)
  obtain ⟨b,off,rfl,h0⟩:=h.rd _ _ k0
  obtain ⟨_,_,e1,h1⟩:=h.rd _ _ k1
  cases e1
  obtain ⟨_,_,e2,h2⟩:=h.rd _ _ k2
  cases e2
  exact ⟨b,off,rfl,h0,h1,h2⟩
theorem Ens.of_own {w:World} {B:Nat} {e:TypeId} {v:Value} {L:List En} (h:Own w B e 3 v L.length (ecs L)): ∃ao cap,v= .slice ao L.length cap∧Ens w ao L.length cap L:=by
  obtain ⟨ao,cap,rfl,h1,h2,h3,h4⟩:=h.rd
  exact ⟨ao,cap,rfl,rfl,h1,h2,h3,h4⟩
end Go.Proofs.YtmajfklnagdlpaaGreatDoor
namespace Go.Proofs.YtmajfklnagdlpaaGreatDoor
open Go.RowKit
theorem z4y {s:List UInt8} {e:En} (h:z2E s=some e):s=q5G e∧q4p e=true:=by
  unfold z2E at h
  split at h
  · rename_i hc
    obtain ⟨h1,h2,h3⟩:=hc
    have he:=(Option.some.inj h).symm
    subst he
    have b1:=q1q (s.take 8)
    rw[List.length_take,Nat.min_eq_left (by omega)] at b1
    refine ⟨?_,okEn_iff.2 (by simp only;omega)⟩
    have l1:(s.take 8).length=8:=by simp;omega
    have l2:((s.drop 8).take 8).length=8:=by simp;omega
    have l3:(s.drop 16).length=8:=by simp;omega
    have e1:=q8f (s.take 8);have e2:=q8f ((s.drop 8).take 8);have e3:=q8f (s.drop 16)
    rw[l1] at e1;rw[l2] at e2;rw[l3] at e3
    unfold q5G
    simp only[Int.toNat_natCast]
    rw[e1,e2,e3]
    have:s.drop 16=(s.drop 8).drop 8:=by rw[List.drop_drop]
    rw[this,List.take_append_drop,List.take_append_drop]
  · cases h
theorem q7T : ∀(f:Nat) (s:List UInt8) (l:List En),q1m f s=some l→s=(l.map q5G).flatten∧ ∀e∈l,q4p e=true
  |0,s,l,h=>by cases h
  | f + 1, s,l,h=>by
    unfold q1m at h
    split at h
    · rename_i hs
      cases h
      exact ⟨by rw[hs];rfl,fun e he=>by cases he⟩
    · cases hg:z2E (s.take 24) with
      |none=>rw[hg] at h;cases h
      | some e=>
        rw[hg] at h
        simp only at h
        cases hr:q1m f (s.drop 24) with
        |none=>rw[hr] at h;cases h
        | some r=>
          rw[hr] at h
          obtain ⟨h1,h2⟩:=q7T f _ _ hr
          have he:e::r=l:=by simpa using h
          subst he
          obtain ⟨h3,h4⟩:=z4y hg
          refine ⟨?_,fun x hx=>?_⟩
          · rw[List.map_cons,List.flatten_cons,←h3,←h1,List.take_append_drop]
          · rcases List.mem_cons.1 hx with rfl|hx
            · exact h4
            · exact h2 x hx
theorem q6V {s:List UInt8} {l:List En} (h:q7o s=some l):s=q2r l∧q2R l∧(∀e∈l,q4p e=true)∧l.length<4294967296:=by
  unfold q7o at h
  split at h
  · rename_i hc
    obtain ⟨h1,h2,h3,h4⟩:=hc
    cases hg:q1m (s.length+1) ((s.take (s.length-4)).drop 8) with
    |none=>rw[hg] at h;cases h
    | some l'=>
      rw[hg] at h
      simp only at h
      split at h
      · rename_i hs
        have:=Option.some.inj h
        subst this
        obtain ⟨h5,h6⟩:=q7T _ _ _ hg
        have hlen:=q3N l'
        rw[←h5] at hlen
        rw[hlen] at h4
        obtain ⟨t,ht⟩: ∃t,s.take (s.length-4)=t:=⟨_,rfl⟩
        have lt:t.length=s.length-4:=by rw[←ht];simp
        rw[ht] at h4 h5 hlen
        have l4:((t.drop 4).take 4).length=4:=by simp;omega
        have b4:=q1q ((t.drop 4).take 4)
        rw[l4] at b4
        have hn:q0x ((t.drop 4).take 4)=l'.length:=by omega
        have e4:=q8f ((t.drop 4).take 4)
        rw[l4,hn] at e4
        have hT:t=q8W l':=by
          unfold q8W
          rw[e4,←h5]
          have q1:s.take 4=t.take 4:=by rw[←ht,List.take_take];congr 1;omega
          rw[←h3,q1]
          have q2:t.drop 8=(t.drop 4).drop 4:=by rw[List.drop_drop]
          rw[q2,List.take_append_drop,List.take_append_drop]
        refine ⟨?_,(q2F _).1 hs,h6,by omega⟩
        unfold q2r
        rw[←hT,←ht]
        unfold q1f at h1
        simp at h1
        exact h1.2.symm
      · cases h
  · cases h
theorem z5b {s:List UInt8} {L:List En} (h:q7o s=some L) (hs:s.length≤1048576):L.length≤50000:=by
  obtain ⟨h1,_⟩:=q6V h
  have:=q3Y L
  rw[←h1] at this
  omega
end Go.Proofs.YtmajfklnagdlpaaGreatDoor
