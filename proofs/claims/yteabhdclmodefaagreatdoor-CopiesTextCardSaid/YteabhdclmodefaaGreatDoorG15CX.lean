/- Walks. -/
import Derived.Test.YteabhdclmodefaaGreatDoorG6CX
import Derived.Test.YteabhdclmodefaaGreatDoorG14CX
set_option linter.unusedVariables false
set_option linter.unusedSimpArgs false
set_option maxRecDepth 100000
set_option maxHeartbeats 3200000
namespace Go.Proofs.YteabhdclmodefaaGreatDoor
open Go.RowKit
theorem q5U(b:Nat)(W:World):(callFunc 78 #[.float .f64 b]).run Tryz.prog W= .ok (.value (.int .u64 b)) W:=by kernel_rfl
theorem q6E(n:Nat)(W:World):(callFunc 83 #[.int .u64 (n:Int)]).run Tryz.prog W= .ok (.value (.float .f64 n)) W:=by kernel_rfl
theorem y1n(h:Int)(w:World):Calls Tryz.prog 123 #[.int .u64 h] w fun e w'=>e= .returned (.int .u64 (y0p h))/\w=w':=by
 go_enter Tryz.func123,Tryz.ntmps123;go_wp2_with fail;go_ret;exact⟨rfl,rfl⟩
theorem y0H(a b:Int):0<=bits .xor .u64 a b/\bits .xor .u64 a b<18446744073709551616:=by
 unfold bits;rw[IntKind.wrap_u64];omega
theorem z4B(h:Int):0<=y0p h/\y0p h<18446744073709551616:=y0H _ _
theorem z1R(sd:Int)(s:List UInt8):0<=q2U sd s/\q2U sd s<18446744073709551616:=by
 unfold q2U
 split
 ·omega
 ·exact z4B _
theorem z3y(l:List UInt8)(b:UInt8)(h:Int):z1S (l++[b]) h=IntKind.u64.wrap (bits .xor .u64 (z1S l h) (b.toNat:Int)*1099511628211):=by unfold z1S;rw[List.foldl_append];rfl
theorem z2o(sd:Int)(s:List UInt8)(w:World)(G:s.length<=4611686018427387903):Calls Tryz.prog 75 #[.int .u64 sd,.string ⟨s.toArray⟩] w fun e w'=>e= .returned (.int .u64 (q2U sd s))/\w=w':=by
 by_cases l:sd=0
 ·subst l
  have j:Hd (q2U 0 s=7):=η (by unfold q2U;rw[ξ rfl]);go_enter Tryz.func75,Tryz.ntmps75;go_wp2_with fail;go_ret;exact⟨by rw[j.o];rfl,rfl⟩
 have E:(sd==0)=false:=by simpa using l
 have j:Hd (q2U sd s=y0p (z1S s (bits .xor .u64 14695981039346656037 sd))):=η (by unfold q2U;rw[κ l]);obtain⟨q,r⟩: ∃a,bits .xor .u64 14695981039346656037 sd=a:=⟨_,rfl⟩
 rw[r] at j;clear l;go_enter Tryz.func75,Tryz.ntmps75;go_wp2_with fail
 go_loopw [5,13] (fun h i W=> ∃k:Nat,k<=s.length/\i= .int .i64 (k:Int)/\h= .int .u64 (z1S (s.take k) q)/\W=w) (fun _ i _=>s.length-(intOf i).toNat)
 case atStart=>exact⟨0,υ _,rfl,rfl,rfl⟩
 case round=>
  obtain⟨k,F,rfl,rfl,rfl⟩:=hrel;by_cases d:k<s.length
  ·have D:decide ((k:Int)<(s.length:Int))=true:=ζ (by omega)
   have v:=z6X s k d;have x:s.take (k+1)=s.take k++[s.getD k 0]:=by
    rw[List.take_succ_eq_append_getElem d];simp[List.getD,γ d]
   have m:=η (z3y (s.take k) (s.getD k 0) q);rw[<-x] at m;have I:IntKind.i64.wrap ((k:Int)+1)=(k:Int)+1:=by rw[ν];omega
   obtain⟨b,u⟩: ∃b:Nat,(s.getD k 0).toNat=b:=⟨_,rfl⟩
   have C:b<256:=by rw[<-u];exact(s.getD k 0).toNat_lt
   rw[u] at v m;have J:IntKind.u64.wrap (b:Int)=(b:Int):=by rw[IntKind.wrap_u64];omega
   clear x u;go_wp2_with fail
   go_roundw
   case rel=>exact⟨k+1,by omega,by go_num,by rw[m.o],(by first|rfl|trivial)⟩
   case measure=>simp[intOf];omega
  ·obtain rfl:k=s.length:=by omega
   have y:s.take s.length=s:=List.take_length;rw[y];have B:=η (fun W=>y1n (z1S s q) W);clear y;go_wp2_with fail;refine(B.o _).mono ?_;rintro e w1 ⟨rfl,rfl⟩;go_wp2_with fail;go_ret;exact⟨by rw[j.o];rfl,rfl⟩
theorem z2a(e:Ev)(w:World)(he:z4c e):Calls Tryz.prog 33 #[evV e] w fun r w'=>r= .returned (.string ⟨(evB e).toArray⟩)/\Ext w w':=by
 obtain⟨t,d,b⟩:=e;obtain⟨h1,h2⟩:=he;obtain⟨_,h3,h4⟩:=q2E h1;simp only at h1 h2 h3 h4;show Calls _ _ #[.agg #[.string ⟨t.toArray⟩,.string ⟨d.toArray⟩,.float .f64 b]] _ fun r w'=>r= .returned (.string ⟨(q1P t++(q1P d++be 8 b)).toArray⟩)/\Ext w w'
 have C:=η (fun W=>q6W t d .f64 b W (by omega) (by omega));rw[h1] at C;have s:=η (fun W=>z3S t W (by omega));have u:=η (fun W=>z3S d W (by omega));have E:=η (fun W=>z1k (b:Int) 8 8 W rfl (by omega) (by omega) (by omega) (by omega));have X:(q1P t).length<=1000:=by unfold q1P;split<;>simp[q0F];omega
 have Y:(q1P d).length<=1000:=by unfold q1P;split<;>simp[q0F];omega
 have G:=q0F 8 ((b:Int)).toNat;obtain⟨R,l⟩: ∃R,be 8 ((b:Int)).toNat=R:=⟨_,rfl⟩
 rw[l] at E G;rw[Int.toNat_natCast] at l;rw[l];have V:R.length<=8:=by omega
 have I:=η (q0B w (.cells #[.string ⟨t.toArray⟩,.string ⟨d.toArray⟩,.float .f64 b] 66));have i:=Blk.new w 66 #[.string ⟨t.toArray⟩,.string ⟨d.toArray⟩,.float .f64 b];have Q:(w.alloc (.cells #[.string ⟨t.toArray⟩,.string ⟨d.toArray⟩,.float .f64 b] 66)).cell? ⟨w.heap.size,0,none⟩=some (.string ⟨t.toArray⟩):=i.cell 0;have S:(w.alloc (.cells #[.string ⟨t.toArray⟩,.string ⟨d.toArray⟩,.float .f64 b] 66)).cell? ⟨w.heap.size,1,none⟩=some (.string ⟨d.toArray⟩):=i.cell 1;have U:(w.alloc (.cells #[.string ⟨t.toArray⟩,.string ⟨d.toArray⟩,.float .f64 b] 66)).cell? ⟨w.heap.size,2,none⟩=some (.float .f64 b):=i.cell 2;have m:=η i;generalize q1P t=A at*;generalize q1P d=D at*;clear i h1 h3 h4 l G;go_enter Tryz.func33,Tryz.ntmps33;go_wp2_with fail;generalize w.alloc (.cells #[.string ⟨t.toArray⟩,.string ⟨d.toArray⟩,.float .f64 b] 66)=w1 at*;generalize w.heap.size=q at*;refine(C.o _).mono ?_;rintro e B ⟨rfl,y⟩;have v:=η (I.o.trans y);have j:=m.o.ext y;have J:B.cell? ⟨q,0,none⟩=some (.string ⟨t.toArray⟩):=j.cell 0;have M:B.cell? ⟨q,1,none⟩=some (.string ⟨d.toArray⟩):=j.cell 1;have N:B.cell? ⟨q,2,none⟩=some (.float .f64 b):=j.cell 2;have u0:=q0C J;have u1:=q0C M;have u2:=q0C N;have Z:¬(9223372036854775807<A.length+D.length):=by omega
 have q2:¬(9223372036854775807<(A++D).length+R.length):=by rw[θ];omega
 have q3:¬(9223372036854775807<A.length+D.length+R.length):=by omega
 have O:=q5U b;clear y j Q S U;go_wp2_with fail;refine q0D (by kernel_rfl) (by kernel_rfl) ?_
 repeat (go_big_quiet_step (fail))
 go_big_quiet_step (exact Calls.quiet_ext (s.o _))
 repeat (go_big_quiet_step (fail))
 go_big_quiet_step (exact Calls.quiet_ext (u.o _))
 repeat (go_big_quiet_step (fail))
 go_big_quiet_step (exact Calls.quiet_ext (E.o _))
 repeat (go_big_quiet_step (fail))
 refine wpQuiet_nil ?_;intro w3 F;have x:=η (v.o.trans F);clear F;go_wp2_with fail;go_ret;exact⟨by rw[q1w,q1w];simp,x.o⟩
end Go.Proofs.YteabhdclmodefaaGreatDoor
