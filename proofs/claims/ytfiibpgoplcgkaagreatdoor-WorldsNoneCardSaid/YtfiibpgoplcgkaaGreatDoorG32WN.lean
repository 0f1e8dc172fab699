/- Walks. -/
import Derived.Test.YtfiibpgoplcgkaaGreatDoorG31WN
import Derived.Test.YtfiibpgoplcgkaaGreatDoorG24WN
set_option linter.unusedVariables false
set_option linter.unusedSimpArgs false
set_option maxRecDepth 100000
set_option maxHeartbeats 3200000
namespace Go.Proofs.YtfiibpgoplcgkaaGreatDoor
open Go.RowKit
theorem z5h(b:Nat)(W:World):(callFunc 185 #[.float .f64 b]).run Tryz.prog W= .ok (.value (.int .u64 b)) W:=by kernel_rfl
theorem z0R(n:Nat)(W:World):(callFunc 189 #[.int .u64 (n:Int)]).run Tryz.prog W= .ok (.value (.float .f64 n)) W:=by kernel_rfl
theorem y2F(h:Int)(w:World):Calls Tryz.prog 151 #[.int .u64 h] w fun e w'=>e= .returned (.int .u64 (y1H h))/\w=w':=by
 go_enter Tryz.func151,Tryz.ntmps151;go_wp2_with fail;go_ret;exact⟨rfl,rfl⟩
theorem y0Y(a b:Int):0<=bits .xor .u64 a b/\bits .xor .u64 a b<18446744073709551616:=by
 unfold bits;rw[IntKind.wrap_u64];omega
theorem z4P(h:Int):0<=y1H h/\y1H h<18446744073709551616:=y0Y _ _
theorem z1e(sd:Int)(s:List UInt8):0<=q2Z sd s/\q2Z sd s<18446744073709551616:=by
 unfold q2Z
 split
 ·omega
 ·exact z4P _
theorem z4L(l:List UInt8)(b:UInt8)(h:Int):z1f (l++[b]) h=IntKind.u64.wrap (bits .xor .u64 (z1f l h) (b.toNat:Int)*1099511628211):=by unfold z1f;rw[List.foldl_append];rfl
theorem z2u(sd:Int)(s:List UInt8)(w:World)(F:s.length<=4611686018427387903):Calls Tryz.prog 89 #[.int .u64 sd,.string ⟨s.toArray⟩] w fun e w'=>e= .returned (.int .u64 (q2Z sd s))/\w=w':=by
 by_cases l:sd=0
 ·subst l
  have j:Hd (q2Z 0 s=7):=η (by unfold q2Z;rw[ξ rfl]);go_enter Tryz.func89,Tryz.ntmps89;go_wp2_with fail;go_ret;exact⟨by rw[j.o];rfl,rfl⟩
 have D:(sd==0)=false:=by simpa using l
 have j:Hd (q2Z sd s=y1H (z1f s (bits .xor .u64 14695981039346656037 sd))):=η (by unfold q2Z;rw[κ l]);obtain⟨a0,q⟩: ∃a,bits .xor .u64 14695981039346656037 sd=a:=⟨_,rfl⟩
 rw[q] at j;clear l;go_enter Tryz.func89,Tryz.ntmps89;go_wp2_with fail
 go_loopw [5,13] (fun h i W=> ∃k:Nat,k<=s.length/\i= .int .i64 (k:Int)/\h= .int .u64 (z1f (s.take k) a0)/\W=w) (fun _ i _=>s.length-(intOf i).toNat)
 case atStart=>exact⟨0,υ _,rfl,rfl,rfl⟩
 case round=>
  obtain⟨k,E,rfl,rfl,rfl⟩:=hrel;by_cases d:k<s.length
  ·have C:decide ((k:Int)<(s.length:Int))=true:=ζ (by omega)
   have u:=z6k s k d;have v:s.take (k+1)=s.take k++[s.getD k 0]:=by
    rw[List.take_succ_eq_append_getElem d];simp[List.getD,γ d]
   have m:=η (z4L (s.take k) (s.getD k 0) a0);rw[<-v] at m;have G:IntKind.i64.wrap ((k:Int)+1)=(k:Int)+1:=by rw[ν];omega
   obtain⟨b,r⟩: ∃b:Nat,(s.getD k 0).toNat=b:=⟨_,rfl⟩
   have B:b<256:=by rw[<-r];exact(s.getD k 0).toNat_lt
   rw[r] at u m;have I:IntKind.u64.wrap (b:Int)=(b:Int):=by rw[IntKind.wrap_u64];omega
   clear v r;go_wp2_with fail
   go_roundw
   case rel=>exact⟨k+1,by omega,by go_num,by rw[m.o],(by first|rfl|trivial)⟩
   case measure=>simp[intOf];omega
  ·obtain rfl:k=s.length:=by omega
   have x:s.take s.length=s:=List.take_length;rw[x];have y:=η (fun W=>y2F (z1f s a0) W);clear x;go_wp2_with fail;refine(y.o _).mono ?_;rintro e w1 ⟨rfl,rfl⟩;go_wp2_with fail;go_ret;exact⟨by rw[j.o];rfl,rfl⟩
theorem z7k(e:Ev)(w:World)(he:z8w e):Calls Tryz.prog 126 #[evV e] w fun r w'=>r= .returned (.string ⟨(evB e).toArray⟩)/\Ext w w':=by
 obtain⟨t,d,b⟩:=e;obtain⟨h1,h2⟩:=he;obtain⟨_,h3,h4⟩:=q3A h1;simp only at h1 h2 h3 h4;show Calls _ _ #[.agg #[.string ⟨t.toArray⟩,.string ⟨d.toArray⟩,.float .f64 b]] _ fun r w'=>r= .returned (.string ⟨(q2r t++(q2r d++be 8 b)).toArray⟩)/\Ext w w'
 have C:=η (fun W=>q9A t d .f64 b W (by omega) (by omega));rw[h1] at C;have s:=η (fun W=>z6q t W (by omega));have u:=η (fun W=>z6q d W (by omega));have E:=η (fun W=>z4a (b:Int) 8 8 W rfl (by omega) (by omega) (by omega) (by omega));have U:(q2r t).length<=1000:=by unfold q2r;split<;>simp[q0G];omega
 have V:(q2r d).length<=1000:=by unfold q2r;split<;>simp[q0G];omega
 have G:=q0G 8 ((b:Int)).toNat;obtain⟨R,l⟩: ∃R,be 8 ((b:Int)).toNat=R:=⟨_,rfl⟩
 rw[l] at E G;rw[Int.toNat_natCast] at l;rw[l];have S:R.length<=8:=by omega
 have I:=η (q0B w (.cells #[.string ⟨t.toArray⟩,.string ⟨d.toArray⟩,.float .f64 b] 67));have i:=Blk.new w 67 #[.string ⟨t.toArray⟩,.string ⟨d.toArray⟩,.float .f64 b];have k0:(w.alloc (.cells #[.string ⟨t.toArray⟩,.string ⟨d.toArray⟩,.float .f64 b] 67)).cell? ⟨w.heap.size,0,none⟩=some (.string ⟨t.toArray⟩):=i.cell 0;have k1:(w.alloc (.cells #[.string ⟨t.toArray⟩,.string ⟨d.toArray⟩,.float .f64 b] 67)).cell? ⟨w.heap.size,1,none⟩=some (.string ⟨d.toArray⟩):=i.cell 1;have Q:(w.alloc (.cells #[.string ⟨t.toArray⟩,.string ⟨d.toArray⟩,.float .f64 b] 67)).cell? ⟨w.heap.size,2,none⟩=some (.float .f64 b):=i.cell 2;have m:=η i;generalize q2r t=A at*;generalize q2r d=D at*;clear i h1 h3 h4 l G;go_enter Tryz.func126,Tryz.ntmps126;go_wp2_with fail;generalize w.alloc (.cells #[.string ⟨t.toArray⟩,.string ⟨d.toArray⟩,.float .f64 b] 67)=w1 at*;generalize w.heap.size=q at*;refine(C.o _).mono ?_;rintro e B ⟨rfl,y⟩;have v:=η (I.o.trans y);have j:=m.o.ext y;have J:B.cell? ⟨q,0,none⟩=some (.string ⟨t.toArray⟩):=j.cell 0;have M:B.cell? ⟨q,1,none⟩=some (.string ⟨d.toArray⟩):=j.cell 1;have N:B.cell? ⟨q,2,none⟩=some (.float .f64 b):=j.cell 2;have u0:=q0D J;have u1:=q0D M;have u2:=q0D N;have X:¬(9223372036854775807<A.length+D.length):=by omega
 have Y:¬(9223372036854775807<(A++D).length+R.length):=by rw[θ];omega
 have Z:¬(9223372036854775807<A.length+D.length+R.length):=by omega
 have O:=z5h b;clear y j k0 k1 Q;go_wp2_with fail;refine q0F (by kernel_rfl) (by kernel_rfl) ?_
 repeat (go_big_quiet_step (fail))
 go_big_quiet_step (exact Calls.quiet_ext (s.o _))
 repeat (go_big_quiet_step (fail))
 go_big_quiet_step (exact Calls.quiet_ext (u.o _))
 repeat (go_big_quiet_step (fail))
 go_big_quiet_step (exact Calls.quiet_ext (E.o _))
 repeat (go_big_quiet_step (fail))
 refine wpQuiet_nil ?_;intro w3 F;have x:=η (v.o.trans F);clear F;go_wp2_with fail;go_ret;exact⟨by rw[q3V,q3V];simp,x.o⟩
end Go.Proofs.YtfiibpgoplcgkaaGreatDoor
