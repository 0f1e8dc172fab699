/- Walks. -/
import Derived.Test.YthdekbmdkpcooaaGreatDoorG16CT
import Derived.Test.YthdekbmdkpcooaaGreatDoorG20CT
set_option linter.unusedVariables false
set_option linter.unusedSimpArgs false
set_option maxRecDepth 100000
set_option maxHeartbeats 3200000
namespace Go.Proofs.YthdekbmdkpcooaaGreatDoor
open Go.RowKit
theorem z5m (b:Nat) (W:World):(callFunc 119 #[.float .f64 b]).run Tryz.prog W= .ok (.value (.int .u64 b)) W:=by kernel_rfl
theorem q9x (n:Nat) (W:World):(callFunc 144 #[.int .u64 (n:Int)]).run Tryz.prog W= .ok (.value (.float .f64 n)) W:=by kernel_rfl
theorem y1m (h:Int) (w:World):Calls Tryz.prog 77 #[.int .u64 h] w fun e w'=>e= .returned (.int .u64 (y0N h))∧w=w':=by
 go_enter Tryz.func77,Tryz.ntmps77;go_wp2_with fail;go_ret;exact ⟨rfl,rfl⟩
theorem z9E (a b:Int):0≤bits .xor .u64 a b∧bits .xor .u64 a b<18446744073709551616:=by
 unfold bits;rw[IntKind.wrap_u64];omega
theorem z3h (h:Int):0≤y0N h∧y0N h<18446744073709551616:=z9E _ _
theorem z1a (sd:Int) (s:List UInt8):0≤q2P sd s∧q2P sd s<18446744073709551616:=by
 unfold q2P
 split
 ·omega
 ·exact z3h _
theorem z3e (l:List UInt8) (b:UInt8) (h:Int):z1l (l++[b]) h=IntKind.u64.wrap (bits .xor .u64 (z1l l h) (b.toNat:Int)*1099511628211):=by unfold z1l;rw[List.foldl_append];rfl
theorem z2w (sd:Int) (s:List UInt8) (w:World) (hl:s.length≤4611686018427387903):Calls Tryz.prog 38 #[.int .u64 sd,.string ⟨s.toArray⟩] w fun e w'=>e= .returned (.int .u64 (q2P sd s))∧w=w':=by
 by_cases h0:sd=0
 ·subst h0
  have HH:Hid (q2P 0 s=7):=Lib.hid (by unfold q2P;rw[if_pos rfl]);go_enter Tryz.func38,Tryz.ntmps38;go_wp2_with fail;go_ret;exact ⟨by rw[HH.out];rfl,rfl⟩
 have hd:(sd==0)=false:=by simpa using h0
 have HH:Hid (q2P sd s=y0N (z1l s (bits .xor .u64 14695981039346656037 sd))):=Lib.hid (by unfold q2P;rw[if_neg h0]);obtain ⟨a0,ha0⟩: ∃a,bits .xor .u64 14695981039346656037 sd=a:=⟨_,rfl⟩
 rw[ha0] at HH;clear h0;go_enter Tryz.func38,Tryz.ntmps38;go_wp2_with fail
 go_loopw [5,13] (fun h i W=> ∃k:Nat,k≤s.length∧i= .int .i64 (k:Int)∧h= .int .u64 (z1l (s.take k) a0)∧W=w) (fun _ i _=>s.length-(intOf i).toNat)
 case atStart=>exact ⟨0,Nat.zero_le _,rfl,rfl,rfl⟩
 case round=>
  obtain ⟨k,hk,rfl,rfl,rfl⟩:=hrel;by_cases hks:k<s.length
  ·have hd2:decide ((k:Int)<(s.length:Int))=true:=decide_eq_true (by omega)
   have hix:=z4r s k hks;have hT:s.take (k+1)=s.take k++[s.getD k 0]:=by
    rw[List.take_succ_eq_append_getElem hks];simp[List.getD,List.getElem?_eq_getElem hks]
   have HS:=Lib.hid (z3e (s.take k) (s.getD k 0) a0);rw[←hT] at HS;have q1:IntKind.i64.wrap ((k:Int)+1)=(k:Int)+1:=by rw[IntKind.wrap_i64];omega
   obtain ⟨b,hb⟩: ∃b:Nat,(s.getD k 0).toNat=b:=⟨_,rfl⟩
   have hb9:b<256:=by rw[←hb];exact (s.getD k 0).toNat_lt
   rw[hb] at hix HS;have q2:IntKind.u64.wrap (b:Int)=(b:Int):=by rw[IntKind.wrap_u64];omega
   clear hT hb;go_wp2_with fail
   go_roundw
   case rel=>exact ⟨k+1,by omega,by go_num,by rw[HS.out],(by first|rfl|trivial)⟩
   case measure=>simp[intOf];omega
  ·obtain rfl:k=s.length:=by omega
   have ht:s.take s.length=s:=List.take_length;rw[ht];have HM:=Lib.hid (fun W=>y1m (z1l s a0) W);clear ht;go_wp2_with fail;refine (HM.out _).mono ?_;rintro e w1 ⟨rfl,rfl⟩;go_wp2_with fail;go_ret;exact ⟨by rw[HH.out];rfl,rfl⟩
theorem z8A (e:Ev) (w:World) (he:z8R e):Calls Tryz.prog 71 #[evV e] w fun r w'=>r= .returned (.string ⟨(evB e).toArray⟩)∧Ext w w':=by
 obtain ⟨t,d,b⟩:=e;obtain ⟨h1,h2⟩:=he;obtain ⟨_,h3,h4⟩:=q2t h1;simp only at h1 h2 h3 h4;show Calls _ _ #[.agg #[.string ⟨t.toArray⟩,.string ⟨d.toArray⟩,.float .f64 b]] _ fun r w'=>r= .returned (.string ⟨(q2d t++(q2d d++be 8 b)).toArray⟩)∧Ext w w'
 have HC:=Lib.hid (fun W=>q8z t d .f64 b W (by omega) (by omega));rw[h1] at HC;have HT1:=Lib.hid (fun W=>z5S t W (by omega));have HT2:=Lib.hid (fun W=>z5S d W (by omega));have HP:=Lib.hid (fun W=>z3r (b:Int) 8 8 W rfl (by omega) (by omega) (by omega) (by omega));have l1:(q2d t).length≤1000:=by unfold q2d;split<;>simp[q0I];omega
 have l2:(q2d d).length≤1000:=by unfold q2d;split<;>simp[q0I];omega
 have l3:=q0I 8 ((b:Int)).toNat;obtain ⟨R,hR⟩: ∃R,be 8 ((b:Int)).toNat=R:=⟨_,rfl⟩
 rw[hR] at HP l3;rw[Int.toNat_natCast] at hR;rw[hR];have l3':R.length≤8:=by omega
 have HX:=Lib.hid (q0B w (.cells #[.string ⟨t.toArray⟩,.string ⟨d.toArray⟩,.float .f64 b] 85));have hbk:=Blk.new w 85 #[.string ⟨t.toArray⟩,.string ⟨d.toArray⟩,.float .f64 b];have k0:(w.alloc (.cells #[.string ⟨t.toArray⟩,.string ⟨d.toArray⟩,.float .f64 b] 85)).cell? ⟨w.heap.size,0,none⟩=some (.string ⟨t.toArray⟩):=hbk.cell 0;have k1:(w.alloc (.cells #[.string ⟨t.toArray⟩,.string ⟨d.toArray⟩,.float .f64 b] 85)).cell? ⟨w.heap.size,1,none⟩=some (.string ⟨d.toArray⟩):=hbk.cell 1;have k2:(w.alloc (.cells #[.string ⟨t.toArray⟩,.string ⟨d.toArray⟩,.float .f64 b] 85)).cell? ⟨w.heap.size,2,none⟩=some (.float .f64 b):=hbk.cell 2;have HB0:=Lib.hid hbk;generalize q2d t=A at*;generalize q2d d=D at*;clear hbk h1 h3 h4 hR l3;go_enter Tryz.func71,Tryz.ntmps71;go_wp2_with fail;generalize w.alloc (.cells #[.string ⟨t.toArray⟩,.string ⟨d.toArray⟩,.float .f64 b] 85)=w1 at*;generalize w.heap.size=q at*;refine (HC.out _).mono ?_
 rintro e w2 ⟨rfl,hx⟩;have HX2:=Lib.hid (HX.out.trans hx);have hb2:=HB0.out.ext hx;have c0:w2.cell? ⟨q,0,none⟩=some (.string ⟨t.toArray⟩):=hb2.cell 0;have c1:w2.cell? ⟨q,1,none⟩=some (.string ⟨d.toArray⟩):=hb2.cell 1;have c2:w2.cell? ⟨q,2,none⟩=some (.float .f64 b):=hb2.cell 2;have u0:=q0F c0;have u1:=q0F c1;have u2:=q0F c2;have q1:¬(9223372036854775807<A.length+D.length):=by omega
 have q2:¬(9223372036854775807<(A++D).length+R.length):=by rw[List.length_append];omega
 have q3:¬(9223372036854775807<A.length+D.length+R.length):=by omega
 have hfb:=z5m b;clear hx hb2 k0 k1 k2;go_wp2_with fail;refine q0E (by kernel_rfl) (by kernel_rfl) ?_
 repeat (go_big_quiet_step (fail))
 go_big_quiet_step (exact Calls.quiet_ext (HT1.out _))
 repeat (go_big_quiet_step (fail))
 go_big_quiet_step (exact Calls.quiet_ext (HT2.out _))
 repeat (go_big_quiet_step (fail))
 go_big_quiet_step (exact Calls.quiet_ext (HP.out _))
 repeat (go_big_quiet_step (fail))
 refine wpQuiet_nil ?_;intro w3 hw;have HX3:=Lib.hid (HX2.out.trans hw);clear hw;go_wp2_with fail;go_ret;exact ⟨by rw[q2i,q2i];simp,HX3.out⟩
end Go.Proofs.YthdekbmdkpcooaaGreatDoor
