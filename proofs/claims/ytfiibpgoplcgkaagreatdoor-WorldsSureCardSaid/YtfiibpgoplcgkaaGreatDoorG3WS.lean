/- Walks. -/
import Derived.Test.YtfiibpgoplcgkaaGreatDoorChecked
import Derived.Test.YtfiibpgoplcgkaaGreatDoorG2WS
import Derived.Laws.FloatArith
set_option linter.unusedVariables false
set_option linter.unusedSimpArgs false
set_option maxRecDepth 100000
set_option maxHeartbeats 6400000
namespace Go.Proofs.YtfiibpgoplcgkaaGreatDoor
variable {i n cap:Nat}{w:World}{ao:Option Addr}
section
open Go.RowKit
theorem Tryz.infoU8 :(Tryz.prog.info? 5).map (fun i=>(i.zero,i.size,i.bytes))=some (some (.int .u8 0),1,1):=by kernel_rfl
theorem q7a(X:Int)(n:Nat)(w:World)(h1:1<=n)(h8:n<=8)(U:0<=X)(hX:X<18446744073709551616):
  Calls Tryz.prog 123 #[.int .u64 X,.int .i64 n] w fun e w'=>e= .returned (.string ⟨(be n X.toNat).toArray⟩)/\Ext w w':=by
 obtain⟨i,M,O,d,C⟩:=info_parts Tryz.infoU8;have v:X=(X.toNat:Int):=by omega
 have I:=η v;clear v;generalize X.toNat=x at*;go_enter Tryz.func123,Tryz.ntmps123
 go_wp2_with (at_make;refine wpList_make_full _ rfl _ _ 75 rfl w.heap.size 5 i (.int .u8 0) 1 Tryz.underlying75 M O d .i64 .i64 _ _ n rfl rfl rfl rfl (by rw[C];omega) (by unfold maxLen;omega) (ι _) ?_;intro V l J)
 clear M O d C;have b:=Own.of_row l;rw[Nat.mul_one,show(madeCells (Value.int .u8 0).cells n).toList=List.replicate n (.int .u8 0) from toList_madeCells_one _ _] at b;have y:Ext w V:=(Ext.refl w).grown J (ι _) (fun k N=>by cases N);have G:=η b;have s:=η y;clear l J b y
 go_loopw [16] (fun i w'=> ∃k:Nat,k<=n/\i= .int .i64 k/\Own w' w.heap.size 5 1 (.slice (some ⟨w.heap.size,0,none⟩) n n) n (List.replicate (n-k) (.int .u8 0)++(be k x).map q1Z)/\Ext w w') (fun i _=>n-(intOf i).toNat)
 case atStart=>exact⟨0,υ _,rfl,by simpa [be] using G.o,s.o⟩
 case round=>
  clear G s;obtain⟨k,N,rfl,b,E⟩:=hrel;have R:=η E;have G:=η b;by_cases S:k<n
  ·obtain⟨g,c,u,e,W,Y,Z⟩:=b.cellE (j:=n-1-k) (by omega)
   cases e;have q:=b.stored (g:=w.heap.size) (cap:=n) rfl (j:=n-1-k) (.int .u8 ((UInt8.ofNat (x/256^k)).toNat:Int));have m:(List.replicate (n-k) (Value.int .u8 0)++(be k x).map q1Z).set (n-1-k) (.int .u8 ((UInt8.ofNat (x/256^k)).toNat:Int))=List.replicate (n-(k+1)) (.int .u8 0)++(be (k+1) x).map q1Z:=by
    rw[show n-k=(n-(k+1))+1 from by omega,show n-1-k=n-(k+1) from by omega,y2N]
    rfl
   rw[m,<-y0U,<-I.o] at q;have B:=E.setCell (p:=⟨w.heap.size,n-1-k,none⟩) (ι _) (.int .u8 (X/2^(8*k) % 256));have Q:=η q;have F:=η B;clear b E q m B;go_wp2_with fail
   go_roundw
   case rel=>exact⟨k+1,by omega,by go_num,Q.o,F.o⟩
   case measure=>simp[intOf];omega
  ·have D:k=n:=by omega
   rw[D,Nat.sub_self,List.replicate_zero,List.nil_append] at b;have hcv:=q5F (P:=Tryz.prog) wr 75 9 5 (a:=⟨w.heap.size,0,none⟩) (n:=n) (cap:=n) Tryz.underlying75 Tryz.underlying5 Tryz.underlying9 (q0G n x) (by obtain⟨_,_,e,_,_,_,r⟩:=b.rd;cases e;exact r);clear D b E;go_wp2_with fail;go_ret;exact⟨rfl,R.o⟩
theorem z6B(X N:Int)(k:Nat)(w:World)(d:N=(k:Int))(h1:1<=N)(l:N<=8)(b:0<=X)(j:X<18446744073709551616):
  Calls Tryz.prog 123 #[.int .u64 X,.int .i64 N] w fun e w'=>e= .returned (.string ⟨(be k X.toNat).toArray⟩)/\Ext w w':=by
 subst d;exact q7a X k w (by omega) (by omega) b j
theorem y3n(x:Nat)(N:Int)(k:Nat)(w:World)(d:N=(k:Int))(h1:1<=N)(b:N<=8)(j:(x:Int)<18446744073709551616):
  Calls Tryz.prog 123 #[.int .u64 (x:Int),.int .i64 N] w fun e w'=>e= .returned (.string ⟨(be k x).toArray⟩)/\Ext w w':=by
 have h:=z6B (x:Int) N k w d h1 b (by omega) j
 rwa [Int.toNat_natCast] at h
theorem z0S(l:List UInt8)(w:World)(J:l.length<=9223372036854775807):
  Calls Tryz.prog 131 #[.string ⟨l.toArray⟩] w fun e w'=>e= .returned (.int .u64 (q1W (l.take 8)))/\Ext w w':=by
 obtain⟨m,hm⟩: ∃m:Nat,m=min l.length 8:=⟨_,rfl⟩
 have d:(if (8:Int)<(l.length:Int) then(8:Int) else(l.length:Int))=(m:Int):=by split<;>omega
 have F:m<=l.length:=by omega
 have G:m<=8:=by omega
 have j:l.take 8=l.take m:=by
  rw[hm];rcases Nat.le_total l.length 8 with h|h
  ·rw[Nat.min_eq_left h,Δ h,List.take_length]
  ·rw[Nat.min_eq_right h]
 have q:=η j;clear hm j;go_enter Tryz.func131,Tryz.ntmps131;go_wp2_with fail;clear d
 go_loopw [3,8] (fun v i w'=> ∃(k:Nat) (Z:Int),k<=m/\i= .int .i64 k/\v= .int .u64 Z/\Z=(q1W (l.take k):Int)/\Ext w w') (fun _ i _=>m-(intOf i).toNat)
 case atStart=>exact⟨0,0,υ _,rfl,rfl,rfl,Ext.refl _⟩
 case round=>
  obtain⟨k,Z,I,rfl,rfl,s,C⟩:=hrel;have B:=η C;have y:=η s;clear C;by_cases E:k<m
  ·have u:0<=Z:=by omega
   have x:Z<72057594037927936:=by
    have h1:=q2R (l.take k);have h2:(l.take k).length=k:=by simp;omega
    rw[h2] at h1;have h3:(256:Nat)^k<=256^7:=Nat.pow_le_pow_right (by decide) (by omega);omega
   clear s;have r:k<l.length:=by omega
   go_wp2_with fail
   go_roundw
   case rel=>exact⟨k+1,_,by omega,by go_num,rfl,by
    have e:=z3o Z l[k] u x;rw[show((⟨l.toArray⟩:ByteArray)[k])=l[k] from rfl,e,y.o,List.take_succ_eq_append_getElem r,z8u]
    omega,B.o⟩
   case measure=>simp[intOf];omega
  ·have b:k=m:=by omega
   have D:=η b;clear b s;go_wp2_with fail;go_ret;exact⟨rn (by rw[q.o,y.o,D.o]),B.o⟩
theorem y3v(s:BitVec 32)(c:UInt8)(S C:Int)(w:World)(u:S=(s.toNat:Int))(r:C=(c.toNat:Int)):
  Calls Tryz.prog 293 #[.int .u32 S,.int .u8 C] w fun e w'=>e= .returned (.int .u32 ((q4V s c).toNat:Int))/\Ext w w':=by
 have l:=q5h s (BitVec.ofNat 32 c.toNat);rw[y1S,<-u,<-r] at l;have D:=η l;have b1:0<=S:=by omega
 have b2:S<4294967296:=by have:=s.isLt;omega
 have b3:0<=C:=by omega
 have b4:C<256:=by have:=c.toNat_lt;omega
 clear u r l;go_enter Tryz.func293,Tryz.ntmps293;go_wp2_with fail
 go_loopw [0,9] (fun v i w'=> ∃(k:Nat) (V:Int),k<=8/\i= .int .i64 k/\v= .int .u32 V/\V=((q8F k (s^^^BitVec.ofNat 32 c.toNat)).toNat:Int)/\Ext w w') (fun _ i _=>8-(intOf i).toNat)
 case atStart=>exact⟨0,_,υ _,rfl,rfl,D.o,Ext.refl _⟩
 case round=>
  obtain⟨k,V,F,rfl,rfl,y,x⟩:=hrel;have m:=η y;have q:=η x;have G:0<=V:=by omega
  have I:V<4294967296:=by have:=(q8F k (s^^^BitVec.ofNat 32 c.toNat)).isLt;omega
  clear y x;by_cases E:k<8
  ·have b:=y2U (q8F k (s^^^BitVec.ofNat 32 c.toNat))
   rw[<-m.o] at b;have j:=η b;clear b;go_wp2_with fail
   go_roundw
   case rel=>exact⟨k+1,_,by omega,by go_num,rfl,j.o,q.o⟩
   case measure=>simp[intOf];omega
  ·have d:k=8:=by omega
   have B:=η d;clear d;go_wp2_with fail;go_ret;exact⟨rn (by rw[m.o,B.o];rfl),q.o⟩
theorem y3b(l:List UInt8)(w:World)(D:l.length<=9223372036854775807):
  Calls Tryz.prog 243 #[.int .u32 0,.string ⟨l.toArray⟩] w fun e w'=>e= .returned (.int .u32 ((q1q l).toNat:Int))/\Ext w w':=by
 go_enter Tryz.func243,Tryz.ntmps243;go_wp2_with fail
 go_loopw [5,11] (fun v i w'=> ∃(k:Nat) (V:Int),k<=l.length/\i= .int .i64 k/\v= .int .u32 V/\V=(((l.take k).foldl q4V (~~~0#32)).toNat:Int)/\Ext w w') (fun _ i _=>l.length-(intOf i).toNat)
 case atStart=>exact⟨0,_,υ _,rfl,rfl,rfl,Ext.refl _⟩
 case round=>
  obtain⟨k,V,C,rfl,rfl,x,s⟩:=hrel;have q:=η x;have r:=η s;have E:0<=V:=by omega
  have F:V<4294967296:=by have:=((l.take k).foldl q4V (~~~0#32)).isLt;omega
  clear x s;by_cases m:k<l.length
  ·go_wp2_with fail
   refine(y3v _ l[k] _ _ _ q.o rfl).mono ?_;rintro e w1 ⟨rfl,b⟩;have j:=η (r.o.trans b);clear b;have u:(l.take (k+1)).foldl q4V (~~~0#32)=q4V ((l.take k).foldl q4V (~~~0#32)) l[k]:=by
    rw[List.take_succ_eq_append_getElem m,List.foldl_append];rfl
   have y:=η u;clear u;generalize q4V ((l.take k).foldl q4V (~~~0#32)) l[k]=T at*;go_wp2_with fail
   go_roundw
   case rel=>exact⟨k+1,_,by omega,by go_num,rfl,by rw[y.o],j.o⟩
   case measure=>simp[intOf];omega
  ·have d:l.take k=l:=Δ (by omega)
   have B:=η d;clear d;go_wp2_with fail;go_ret;exact⟨rn (by rw[q.o,B.o,y3h];rfl),r.o⟩
theorem y2V(l:List UInt8)(w:World)(j:l.length<=9223372036854775807):
  Calls Tryz.prog 187 #[.string ⟨l.toArray⟩] w fun e w'=>e= .returned (.int .u32 ((q1q l).toNat:Int))/\Ext w w':=by
 go_enter Tryz.func187,Tryz.ntmps187;go_wp2_with fail;refine(y3b l _ j).mono ?_;rintro e w1 ⟨rfl,b⟩;have d:=η b;clear b;go_wp2_with fail;go_ret;exact⟨rfl,d.o⟩
def q8z(s:BitVec 32):List UInt8:=(be 4 s.toNat).reverse
theorem be4(x:Nat):be 4 x=[UInt8.ofNat (x/16777216),UInt8.ofNat (x/65536),UInt8.ofNat (x/256),UInt8.ofNat x]:=by
 simp[be]
theorem y1q(s:BitVec 32)(S:Int)(w:World)(M:S=(s.toNat:Int)):
  Calls Tryz.prog 186 #[.int .u32 S] w fun e w'=>e= .returned (.string ⟨(q8z s).toArray⟩)/\Ext w w':=by
 have b1:0<=S:=by omega
 have b2:S<4294967296:=by have:=s.isLt;omega
 have q:S.toNat=s.toNat:=by omega
 have B:=η q;clear M q;go_enter Tryz.func186,Tryz.ntmps186;go_wp2_with fail;refine(q7a S 4 _ (by omega) (by omega) b1 (by omega)).mono ?_;rw[be4,B.o];rintro e w1 ⟨rfl,I⟩;have C:=η I;clear I;have j:q8z s=[UInt8.ofNat s.toNat,UInt8.ofNat (s.toNat/256),UInt8.ofNat (s.toNat/65536),UInt8.ofNat (s.toNat/16777216)]:=by
  unfold q8z;rw[be4];rfl
 have m:=η j;clear j;generalize UInt8.ofNat (s.toNat/16777216)=c0 at*;generalize UInt8.ofNat (s.toNat/65536)=c1 at*;generalize UInt8.ofNat (s.toNat/256)=c2 at*;generalize UInt8.ofNat s.toNat=c3 at*;have r:=fun w s=>run_bytes_of_string (P:=Tryz.prog) w 9 75 5 s Tryz.underlying9 Tryz.underlying75 Tryz.underlying5
 go_wp2_with fail;obtain⟨d,b,hex⟩:=z2r w1 5 [c0,c1,c2,c3] (grownCap w1 4 0 5);have x:=η (C.o.trans hex);clear hex r;generalize (w1.alloc (Obj.cells (bytesRow {data:=#[c0,c1,c2,c3]} (grownCap w1 4 0 5)) 5 ((bytesRow {data:=#[c0,c1,c2,c3]} (grownCap w1 4 0 5)).size,(bytesRow {data:=#[c0,c1,c2,c3]} (grownCap w1 4 0 5)).size+1))).drew=W at*;have D:W.cell? ⟨w1.heap.size,0,none⟩=some (.int .u8 (c0.toNat:Int)):=by obtain⟨_,_,e,h⟩:=d 0 _ rfl;cases e;exact h
 have E:W.cell? ⟨w1.heap.size,1,none⟩=some (.int .u8 (c1.toNat:Int)):=by obtain⟨_,_,e,h⟩:=d 1 _ rfl;cases e;exact h
 have F:W.cell? ⟨w1.heap.size,2,none⟩=some (.int .u8 (c2.toNat:Int)):=by obtain⟨_,_,e,h⟩:=d 2 _ rfl;cases e;exact h
 have G:W.cell? ⟨w1.heap.size,3,none⟩=some (.int .u8 (c3.toNat:Int)):=by obtain⟨_,_,e,h⟩:=d 3 _ rfl;cases e;exact h
 have N:=b 0 (by simp);have O:=b 1 (by simp);have Q:=b 2 (by simp);have R:=b 3 (by simp);have v:Hd (w.heap.size<=w1.heap.size):=η C.o.size;generalize w1.heap.size=g at*;clear d b;have u:=y2J D E F G (q1Z c3) (q1Z c2) (q1Z c1) (q1Z c0);have hcv:=q5F (P:=Tryz.prog) _ 75 9 5 (n:=4) (l:=[c3,c2,c1,c0]) (cap:=grownCap w1 4 0 5) Tryz.underlying75 Tryz.underlying5 Tryz.underlying9 rfl u;have y:=η hcv;have J:Hd (Below w.heap.size w ((((W.setCell ⟨g,0,none⟩ (q1Z c3)).setCell ⟨g,1,none⟩ (q1Z c2)).setCell ⟨g,2,none⟩ (q1Z c1)).setCell ⟨g,3,none⟩ (q1Z c0)).drew):=
  η (((((x.o.setCell (p:=⟨g,0,none⟩) v.o _).setCell (p:=⟨g,1,none⟩) v.o _).setCell (p:=⟨g,2,none⟩) v.o _).setCell (p:=⟨g,3,none⟩) v.o _).drew)
 clear u hcv
 go_region
 have hcv:=y.o;clear D E F G N O Q R;generalize ((((W.setCell ⟨g,0,none⟩ (q1Z c3)).setCell ⟨g,1,none⟩ (q1Z c2)).setCell ⟨g,2,none⟩ (q1Z c1)).setCell ⟨g,3,none⟩ (q1Z c0)).drew=W4 at*;go_wp2_with fail;go_ret;exact⟨by rw[m.o];rfl,J.o⟩
def q1S(l:List UInt8):List UInt8:=l++q8z (q1q l)
def q2Q(l:List UInt8):Bool:=decide (4<=l.length)&&decide (q1S (l.take (l.length-4))=l)
def q2K(l:List UInt8):List UInt8:=if q2Q l then l.take (l.length-4) else []
theorem q5m(s:BitVec 32):(q8z s).length=4:=by simp[q8z,q0G]
theorem q0v(l:List UInt8):(q1S l).length=l.length+4:=by simp[q1S,q5m]
theorem y0S(l:List UInt8)(h:4<=l.length):q2Q l=decide (q8z (q1q (l.take (l.length-4)))=l.drop (l.length-4)):=by
 unfold q2Q;rw[ζ h,Bool.true_and];have e:l=l.take (l.length-4)++l.drop (l.length-4):=(List.take_append_drop _ _).symm;have :(q1S (l.take (l.length-4))=l)↔(q8z (q1q (l.take (l.length-4)))=l.drop (l.length-4)):=by
  unfold q1S
  constructor
  ·intro h2
   have h3:l.take (l.length-4)++q8z (q1q (l.take (l.length-4)))=l.take (l.length-4)++l.drop (l.length-4):=by rw[h2];exact e
   exact List.append_cancel_left h3
  ·intro h2;rw[h2];exact e.symm
 simp only[this]
theorem z3T(l:List UInt8)(h:l.length<4):q2Q l=false:=by
 unfold q2Q;rw[ε (by omega)];rfl
theorem q9l(l:List UInt8)(w:World)(r:l.length<=4611686018427387903):
  Calls Tryz.prog 127 #[.string ⟨l.toArray⟩] w fun e w'=>e= .returned (.string ⟨(q1S l).toArray⟩)/\Ext w w':=by
 go_enter Tryz.func127,Tryz.ntmps127;go_wp2_with fail;refine(y2V l _ (by omega)).mono ?_;rintro e w1 ⟨rfl,b⟩;have m:=η b;clear b;go_wp2_with fail;refine(y1q (q1q l) _ _ rfl).mono ?_;rintro e s ⟨rfl,b⟩;have d:=η (m.o.trans b);clear b;have j:=q5m (q1q l);have q:Hd (q1S l=l++q8z (q1q l)):=η rfl;generalize q8z (q1q l)=T at*;go_wp2_with fail;go_ret;exact⟨by rw[q.o];simp[ByteArray.mk_append_mk],d.o⟩
theorem z4g(l:List UInt8)(w:World)(C:l.length<=4611686018427387903):
  Calls Tryz.prog 129 #[.string ⟨l.toArray⟩] w fun e w'=>e= .returned (.tuple #[.string ⟨(q2K l).toArray⟩,.bool (q2Q l)])/\Ext w w':=by
 by_cases h4:l.length<4
 ·have s:=z3T l h4
  have v:=η s;clear s;have B:decide ((l.length:Int)<4)=true:=by simp;omega
  go_enter Tryz.func129,Tryz.ntmps129;go_wp2_with fail;refine q0E (by kernel_rfl) (by kernel_rfl) ?_
  repeat (go_big_quiet_step (fail))
  refine wpQuiet_nil ?_;intro x b;have r:=η b;clear b;go_wp2_with fail;go_ret2;exact⟨by rw[q2K,v.o];rfl,r.o⟩
 ·have s:=y0S l (by omega)
  have v:=η s;clear s;have B:decide ((l.length:Int)<4)=false:=by simp;omega
  have y:4<=l.length:=by omega
  have u:(l.take (l.length-4)).length<=9223372036854775807:=by simp;omega
  have q:=η u;clear u;have m:Hd (q2K l=if q2Q l then l.take (l.length-4) else []):=η rfl;by_cases d:q8z (q1q (l.take (l.length-4)))=l.drop (l.length-4)
  ·have hq:(q8z (q1q (l.take (l.length-4)))==l.drop (l.length-4))=true:=by rw[beq_iff_eq];exact d
   have j:=η d;clear d;go_enter Tryz.func129,Tryz.ntmps129;go_wp2_with fail;refine q0E (by kernel_rfl) (by kernel_rfl) ?_
   repeat (go_big_quiet_step (first|(go_at_call 187;exact Calls.quiet_ext (y2V _ _ q.o))|(go_at_call 186;exact Calls.quiet_ext (y1q (q1q _) _ _ rfl))))
   refine wpQuiet_nil ?_;intro x b;have r:=η b;clear b;go_wp2_with fail;go_ret2;exact⟨by rw[m.o,v.o,ζ j.o];rfl,r.o⟩
  ·have hq:(q8z (q1q (l.take (l.length-4)))==l.drop (l.length-4))=false:=by rw[beq_eq_false_iff_ne];exact d
   have j:=η d;clear d;go_enter Tryz.func129,Tryz.ntmps129;go_wp2_with fail;refine q0E (by kernel_rfl) (by kernel_rfl) ?_
   repeat (go_big_quiet_step (first|(go_at_call 187;exact Calls.quiet_ext (y2V _ _ q.o))|(go_at_call 186;exact Calls.quiet_ext (y1q (q1q _) _ _ rfl))))
   refine wpQuiet_nil ?_;intro x b;have r:=η b;clear b;go_wp2_with fail;go_ret2;exact⟨by rw[m.o,v.o,ε j.o];rfl,r.o⟩
abbrev En :=Int×Int×Int
def q3Z(e:En):Bool:=decide (0<=e.1)&&decide (e.1<18446744073709551616)&&decide (0<=e.2.1)&&decide (e.2.1<=9223372036854775807)&&decide (0<=e.2.2)&&decide (e.2.2<=9223372036854775807)
theorem okEn_iff{e:En}:q3Z e=true↔0<=e.1/\e.1<18446744073709551616/\0<=e.2.1/\e.2.1<=9223372036854775807/\0<=e.2.2/\e.2.2<=9223372036854775807:=by
 simp[q3Z,and_assoc]
def q0u(a b:En):Bool:=if a.1≠b.1 then decide (a.1<b.1) else if a.2.1≠b.2.1 then decide (a.2.1<b.2.1) else decide (a.2.2<b.2.2)
theorem lessE_iff{a b:En}:q0u a b=true↔a.1<b.1\/(a.1=b.1/\(a.2.1<b.2.1\/(a.2.1=b.2.1/\a.2.2<b.2.2))):=by
 unfold q0u
 split
 ·rw[Φ];omega
 ·split
  ·rw[Φ];omega
  ·rw[Φ];omega
theorem q1a{a b c:En}(h:q0u a b=true)(k:q0u b c=true):q0u a c=true:=by rw[lessE_iff] at*;omega
theorem q0j(a:En):q0u a a=false:=by
 cases h:q0u a a with
 |false=>rfl
 |true=>rw[lessE_iff] at h;omega
theorem q5k{a b:En}(h:q0u a b=false)(k:q0u b a=false):a=b:=by
 have h1:¬(a.1<b.1\/(a.1=b.1/\(a.2.1<b.2.1\/(a.2.1=b.2.1/\a.2.2<b.2.2)))):=fun x=>by rw[lessE_iff.2 x] at h;cases h
 have h2:¬(b.1<a.1\/(b.1=a.1/\(b.2.1<a.2.1\/(b.2.1=a.2.1/\b.2.2<a.2.2)))):=fun x=>by rw[lessE_iff.2 x] at k;cases k
 obtain⟨d,j,l⟩:=a;obtain⟨b1,b2,b3⟩:=b;simp only at h1 h2;have m:d=b1:=by omega
 have o:j=b2:=by omega
 have q:l=b3:=by omega
 rw[m,o,q]
def q1G(l:List En):Prop:=l.Pairwise fun a b=>q0u a b=true
def q2f :List En->Bool
 |[]=>true
 |[_]=>true
 |a::b::r=>q0u a b&&q2f (b::r)
theorem q3C : ∀l:List En,q2f l=true↔q1G l
 |[]=>by simp[q2f,q1G]
 |[a]=>by simp[q2f,q1G]
 | a ::b::r=>by
  unfold q2f q1G;rw[Ξ,q3C (b::r)]
  constructor
  ·rintro⟨h1,h2⟩
   refine List.pairwise_cons.2 ⟨fun x d=>?_,h2⟩;rcases List.mem_cons.1 d with rfl|d
   ·exact h1
   ·exact q1a h1 ((List.pairwise_cons.1 h2).1 x d)
  ·intro h
   obtain⟨h1,h2⟩:=List.pairwise_cons.1 h;exact⟨h1 b List.mem_cons_self,h2⟩
def q4Y(e:En):List UInt8:=be 8 e.1.toNat++(be 8 e.2.1.toNat++be 8 e.2.2.toNat)
theorem q2k(e:En):(q4Y e).length=24:=by simp[q4Y,q0G]
def z1D(s:List UInt8):Option En:=
 if s.length=24/\q1W ((s.drop 8).take 8)<=9223372036854775807/\q1W (s.drop 16)<=9223372036854775807 then some ((q1W (s.take 8):Int),(q1W ((s.drop 8).take 8):Int),(q1W (s.drop 16):Int)) else none
theorem z5h(e:En):(q4Y e).take 8=be 8 e.1.toNat/\((q4Y e).drop 8).take 8=be 8 e.2.1.toNat/\(q4Y e).drop 16=be 8 e.2.2.toNat:=by
 have h1:=q0G 8 e.1.toNat;have h2:=q0G 8 e.2.1.toNat;refine⟨?_,?_,?_⟩
 ·unfold q4Y;exact List.take_left' h1
 ·unfold q4Y;rw[List.drop_left' h1];exact List.take_left' h2
 ·unfold q4Y
  rw[<-List.append_assoc];exact List.drop_left' (by rw[θ,h1,h2])
theorem z4U{e:En}(h:q3Z e=true):z1D (q4Y e)=some e:=by
 obtain⟨b,d,j,b1,l,r⟩:=okEn_iff.1 h;obtain⟨m,o,q⟩:=z5h e;have u: ∀x:Int,0<=x->x<18446744073709551616->q1W (be 8 x.toNat)=x.toNat:=fun x s h1=>by
  rw[q5J];exact Nat.mod_eq_of_lt (by omega)
 unfold z1D;rw[m,o,q,u _ b d,u _ j (by omega),u _ l (by omega),q2k,ξ (by omega)];obtain⟨x,y,z⟩:=e;simp only at*
 congr 2
 ·omega
 ·congr 1
  ·omega
  ·omega
def z1F :List UInt8:=[112,116,97,98]
def q9C(l:List En):List UInt8:=z1F++(be 4 l.length++(l.map q4Y).flatten)
def q3V(l:List En):List UInt8:=q1S (q9C l)
theorem q3g(l:List En):((l.map q4Y).flatten).length=24*l.length:=by
 induction l with
 |nil=>rfl
 |cons e r ih=>rw[List.map_cons,List.flatten_cons,θ,q2k,ih,χ];omega
theorem q5x(l:List En):(q9C l).length=8+24*l.length:=by
 unfold q9C z1F;rw[θ,θ,q0G,q3g];simp;omega
theorem q3o(l:List En):(q3V l).length=12+24*l.length:=by unfold q3V;rw[q0v,q5x];omega
def q2c :Nat->List UInt8->Option (List En)
 |0,_=>none
 | f+1,s=>if s=[] then some [] else match z1D (s.take 24) with
  |none=>none
  |some e=>(q2c f (s.drop 24)).map (e::·)
def q9a(s:List UInt8):Option (List En):=
 if q2Q s/\8<=s.length-4/\s.take 4=z1F/\((s.take (s.length-4)).drop 8).length=q1W (((s.take (s.length-4)).drop 4).take 4)*24 then
  match q2c (s.length+1) ((s.take (s.length-4)).drop 8) with
  |none=>none
  |some l=>if q2f l then some l else none
 else none
theorem q9Y : ∀(l:List En) (f:Nat),l.length<f->(∀e∈l,q3Z e=true)->q2c f ((l.map q4Y).flatten)=some l
 | [],f+1,_,_=>by
  show(if ([]:List UInt8)=[] then some [] else _)=some [];rw[ξ rfl]
 |[],0,h,_=>by simp at h
 |e::r,0,h,_=>by simp at h
 | e::r,f+1,h,ho=>by
  have h1:=q2k e;unfold q2c;rw[List.map_cons,List.flatten_cons,κ (fun k=>by have:=congrArg List.length k;rw[θ,h1] at this;simp at this),List.take_left' h1,List.drop_left' h1,z4U (ho e List.mem_cons_self)];show(q2c f ((r.map q4Y).flatten)).map (e::·)=_;rw[q9Y r f (by simp at h;omega) fun x b=>ho x (List.mem_cons_of_mem _ b)]
  rfl
theorem z5x(x:List UInt8):q2Q (q1S x)=true:=by
 unfold q2Q;have h1:(q1S x).take ((q1S x).length-4)=x:=by rw[q0v];unfold q1S;exact List.take_left' (by omega)
 rw[h1,ζ (by rw[q0v];omega),ζ rfl];rfl
theorem z9y{l:List En}(j:q1G l)(d: ∀e∈l,q3Z e=true)(m:l.length<4294967296):q9a (q3V l)=some l:=by
 have h1:(q3V l).take ((q3V l).length-4)=q9C l:=by unfold q3V;rw[q0v];unfold q1S;exact List.take_left' (by omega)
 have hc:=q5x l;have h2:(q9C l).drop 8=(l.map q4Y).flatten:=by
  unfold q9C;rw[<-List.append_assoc];exact List.drop_left' (by rw[θ,q0G];rfl)
 have h3:((q9C l).drop 4).take 4=be 4 l.length:=by
  unfold q9C;rw[show(z1F++(be 4 l.length++(l.map q4Y).flatten)).drop 4=be 4 l.length++(l.map q4Y).flatten from List.drop_left' rfl];exact List.take_left' (q0G 4 _)
 have h4:(q3V l).take 4=z1F:=by
  unfold q3V q1S q9C;rw[List.append_assoc];exact List.take_left' rfl
 have b:q2Q (q3V l)=true:=z5x _;unfold q9a;rw[h1,h2,h3,h4,q5J,q3g,q3o,ξ ⟨b,by omega,rfl,by rw[Nat.mod_eq_of_lt (by omega)];omega⟩,q9Y l _ (by omega) d];show(if q2f l then some l else none)=some l;rw[ξ ((q3C l).2 j)]
theorem y3y{l:List En}{e:En}(h:l[i]? =some e):((q3V l).drop (8+24*i)).take 24=q4Y e:=by
 obtain⟨q,rfl⟩:=List.getElem?_eq_some_iff.1 h;have b:l=l.take i++l[i]::l.drop (i+1):=by rw[List.getElem_cons_drop];exact(List.take_append_drop _ _).symm
 have d:q3V l=(z1F++(be 4 l.length++((l.take i).map q4Y).flatten))++(q4Y l[i]++((((l.drop (i+1)).map q4Y).flatten)++q8z (q1q (q9C l)))):=by
  have m:(l.map q4Y).flatten=((l.take i).map q4Y).flatten++(q4Y l[i]++((l.drop (i+1)).map q4Y).flatten):=by
   conv=>lhs;rw[b]
   rw[List.map_append,List.map_cons,List.flatten_append,List.flatten_cons]
  have o:q9C l=z1F++(be 4 l.length++(((l.take i).map q4Y).flatten++(q4Y l[i]++((l.drop (i+1)).map q4Y).flatten))):=by rw[<-m];rfl
  unfold q3V q1S;generalize q8z (q1q (q9C l))=Q;rw[o];simp only[List.append_assoc]
 have j:(z1F++(be 4 l.length++((l.take i).map q4Y).flatten)).length=8+24*i:=by
  rw[θ,θ,q0G,q3g,Θ,Nat.min_eq_left (by omega)];show 4+(4+24*i)=_;omega
 rw[d,List.drop_left' j];exact List.take_left' (q2k _)
def lbE(l:List En)(x:En):Nat:=(l.filter fun e=>q0u e x).length
theorem q4z(l:List En)(x:En):lbE l x<=l.length:=List.length_filter_le _ _
theorem q4L : ∀{l:List En} (x:En),q1G l-> ∀{i:Nat} {e:En},l[i]? =some e->q0u e x=decide (i<lbE l x)
 |[],x,_,i,e,h=>by simp at h
 | a :: r,x,hs,i,e,h=>by
  obtain⟨h1,h2⟩:=List.pairwise_cons.1 hs;by_cases j:q0u a x=true
  ·have q:lbE (a::r) x=lbE r x+1:=by unfold lbE;rw[List.filter_cons_of_pos (p:=fun e=>q0u e _) j];rfl
   rw[q]
   cases i with
   | zero=>
    simp only[List.getElem?_cons_zero,Option.some.injEq] at h;subst h;rw[j];simp
   | succ i=>
    rw[List.getElem?_cons_succ] at h;rw[q4L x h2 h,decide_eq_decide];omega
  ·have m:q0u a x=false:=by simpa using j
   have d: ∀b∈r,q0u b x=false:=fun b o=>by
    cases hbx:q0u b x with
    |false=>rfl
    |true=>exact absurd (q1a (h1 b o) hbx) j
   have q:lbE (a::r) x=0:=by
    unfold lbE;rw[List.filter_cons_of_neg (p:=fun e=>q0u e x) j,List.filter_eq_nil_iff.2 fun b o=>by rw[d b o];decide]
    rfl
   rw[q]
   cases i with
   | zero=>
    simp only[List.getElem?_cons_zero,Option.some.injEq] at h;subst h;rw[m];rfl
   | succ i=>
    rw[List.getElem?_cons_succ] at h;rw[d e (List.mem_of_getElem? h)];simp
def q4s(many:Nat):Nat->List En->List (En×Nat)
 |_,[]=>[]
 |i,e::r=>if i % 8=0\/i+1=many then(e,i)::q4s many (i+1) r else q4s many (i+1) r
def q2z(l:List En):List (En×Nat):=q4s l.length 0 l
def q1C(many:Nat)(x:En):Nat->List (En×Nat)->Nat×Nat
 |lo,[]=>(lo,max lo many)
 |lo,(e,a)::r=>if q0u e x then q1C many x (min a (many-1)+1) r else(lo,max lo (min a many))
theorem q8Y{l:List En}(x:En)(q:q1G l): ∀(r:List En) (i lo:Nat),r=l.drop i->i<=l.length->lo<=lbE l x->lo<=i->(i<l.length->(lo=0/\i=0)\/(lo % 8=1/\i<=lo+7))->(i=l.length->lo=l.length)->
  (q1C l.length x lo (q4s l.length i r)).1<=lbE l x/\lbE l x<=(q1C l.length x lo (q4s l.length i r)).2/\(q1C l.length x lo (q4s l.length i r)).2<=(q1C l.length x lo (q4s l.length i r)).1+7/\(q1C l.length x lo (q4s l.length i r)).2<=l.length
 | [],i,lo,hr,hi,h1,h2,h3,h4=>by
  have y:=q4z l x;have m:i=l.length:=by
   have:=congrArg List.length hr;rw[List.length_drop] at this;simp at this;omega
  have:=h4 m;unfold q4s q1C;simp only;omega
 | e :: r,i,lo,hr,hi,h1,h2,h3,h4=>by
  have y:=q4z l x;have o:i<l.length:=by
   have:=congrArg List.length hr;rw[List.length_drop] at this;simp at this;omega
  have he:l[i]? =some e:=by
   have:=congrArg (fun z=>z[0]?) hr
   simpa using this.symm
  have d:r=l.drop (i+1):=by
   have:=congrArg (List.drop 1) hr;rw[List.drop_drop] at this
   simpa using this
  have b:=q4L x q he;have B:=h3 o;unfold q4s;by_cases hm:i % 8=0\/i+1=l.length
  ·rw [ξ hm]
   unfold q1C;by_cases j:q0u e x=true
   ·rw[ξ j]
    rw[j] at b;have u:i<lbE l x:=of_decide_eq_true b.symm;have v:min i (l.length-1)+1=i+1:=by omega
    rw[v];exact q8Y x q r (i+1) (i+1) d (by omega) (by omega) (ι _) (fun h=> .inr (by omega)) (fun h=>h)
   ·rw[κ j]
    have s:q0u e x=false:=by simpa using j
    rw[s] at b;have u:¬i<lbE l x:=of_decide_eq_false b.symm;simp only;omega
  ·rw[κ hm]
   exact q8Y x q r (i+1) lo d (by omega) h1 (by omega) (fun h=>by omega) (fun h=>by omega)
theorem q8Z{l:List En}(x:En)(b:q1G l):(q1C l.length x 0 (q2z l)).1<=lbE l x/\lbE l x<=(q1C l.length x 0 (q2z l)).2/\(q1C l.length x 0 (q2z l)).2<=(q1C l.length x 0 (q2z l)).1+7/\(q1C l.length x 0 (q2z l)).2<=l.length:=
 q8Y x b l 0 0 rfl (υ _) (υ _) (ι _) (fun _=> .inl ⟨rfl,rfl⟩) (fun h=>h)
def q1A(l:List En)(h f t:Int):List En:=l.filter fun e=>decide (e.1=h)&&decide (f<=e.2.1)&&decide (e.2.1<=t)
def inE(h t:Int)(e:En):Bool:=decide (e.1=h)&&decide (e.2.1<=t)
theorem q4N : ∀{l:List En} {h f t:Int},q1G l->(∀e∈l,q3Z e=true)->q1A l h f t=(l.drop (lbE l (h,f,0))).takeWhile (inE h t)
 |[],h,f,t,_,_=>rfl
 | a :: r,h,f,t,hs,ho=>by
  obtain⟨h1,h2⟩:=List.pairwise_cons.1 hs;have D:=okEn_iff.1 (ho a List.mem_cons_self);have u: ∀e∈r,q3Z e=true:=fun e he=>ho e (List.mem_cons_of_mem _ he)
  by_cases q:q0u a (h,f,0)=true
  ·have v:lbE (a::r) (h,f,0)=lbE r (h,f,0)+1:=by unfold lbE;rw[List.filter_cons_of_pos (p:=fun e=>q0u e _) q];rfl
   have y:(decide (a.1=h)&&decide (f<=a.2.1)&&decide (a.2.1<=t))=false:=by
    rw[lessE_iff] at q;simp only at q;rw[Bool.and_eq_false_iff,Bool.and_eq_false_iff,decide_eq_false_iff_not,decide_eq_false_iff_not];omega
   rw[v,List.drop_succ_cons,<-q4N h2 u];unfold q1A;rw[List.filter_cons_of_neg (by rw[y];decide)]
  ·have s:q0u a (h,f,0)=false:=by simpa using q
   have C:¬(a.1<h\/(a.1=h/\(a.2.1<f\/(a.2.1=f/\a.2.2<0)))):=fun k=>by rw[lessE_iff.2 k] at s;cases s
   have v:lbE (a::r) (h,f,0)=0:=by
    have: ∀b∈a::r,¬q0u b (h,f,0)=true:=fun b m d=>by
     rcases List.mem_cons.1 m with rfl|m
     ·exact q d
     ·exact q (q1a (h1 b m) d)
    unfold lbE;rw[List.filter_eq_nil_iff.2 this];rfl
   rw[v,List.drop_zero];by_cases o:inE h t a=true
   ·have j:=o
    unfold inE at j;rw[Ξ,Φ,Φ] at j;have x:lbE r (h,f,0)=0:=by
     have: ∀b∈r,¬q0u b (h,f,0)=true:=fun b m d=>q (q1a (h1 b m) d)
     unfold lbE;rw[List.filter_eq_nil_iff.2 this];rfl
    have B:=q4N (h:=h) (f:=f) (t:=t) h2 u;rw[x,List.drop_zero] at B;rw[List.takeWhile_cons_of_pos o,<-B];unfold q1A;rw[List.filter_cons_of_pos (by simp only[Ξ,Φ];omega)]
   ·rw [List.takeWhile_cons_of_neg o]
    have j:¬(a.1=h/\a.2.1<=t):=fun k=>o (by unfold inE;simp only[Ξ,Φ];exact k)
    unfold q1A;refine List.filter_eq_nil_iff.2 fun b m d=>?_
    simp only[Ξ,Φ] at d;rcases List.mem_cons.1 m with rfl|m
    ·omega
    ·have:=lessE_iff.1 (h1 b m)
     omega
def q3S(l:List En)(h t:Int):Option En:=(l.filter (inE h t)).getLast?
theorem z7m{l:List En}{h t:Int}(C:q1G l)(I: ∀e∈l,q3Z e=true):q3S l h t=if lbE l (h,t+1,0)=0 then none else match l[lbE l (h,t+1,0)-1]? with
  |none=>none
  |some e=>if e.1=h then some e else none:=by
 obtain⟨n,B⟩: ∃n,lbE l (h,t+1,0)=n:=⟨_,rfl⟩
 have y:=q4z l (h,t+1,0);rw[B] at y⊢;have m:l=l.take n++l.drop n:=(List.take_append_drop _ _).symm;have r:(l.drop n).filter (inE h t)=[]:=by
  refine List.filter_eq_nil_iff.2 fun b u d=>?_
  obtain⟨i,E⟩:=List.getElem?_of_mem u;rw[List.getElem?_drop] at E;have h1:=q4L (h,t+1,0) C E;rw[B] at h1;have h2:q0u b (h,t+1,0)=false:=by rw[h1];simp
  unfold inE at d;simp only[Ξ,Φ] at d;have h3:q0u b (h,t+1,0)=true:=by rw[lessE_iff];simp only;omega
  rw[h2] at h3;cases h3
 unfold q3S
 conv=>lhs;rw[m]
 rw[List.filter_append,r,List.append_nil];by_cases D:n=0
 ·subst D;rfl
 rw[κ D];obtain⟨e,he⟩: ∃e,l[n-1]? =some e:=⟨l[n-1],γ (by omega)⟩
 rw[he];have s:l.take n=l.take (n-1)++[e]:=by
  obtain⟨G,x⟩:=List.getElem?_eq_some_iff.1 he;have:=List.take_succ_eq_append_getElem G;rw[x,show n-1+1=n by omega] at this;exact this
 have j:q0u e (h,t+1,0)=true:=by
  have h1:=q4L (h,t+1,0) C he;rw[B] at h1;rw[h1];simp;omega
 have J:=okEn_iff.1 (I e (List.mem_of_getElem? he));rw[lessE_iff] at j;simp only at j;rw[s,List.filter_append];show(_++[e].filter (inE h t)).getLast? =(if e.1=h then some e else none);by_cases v:e.1=h
 ·have o:inE h t e=true:=by unfold inE;simp only[Ξ,Φ];omega
  rw[ξ v,List.filter_cons_of_pos o];simp
 ·have o:¬inE h t e=true:=fun k=>by unfold inE at k;simp only[Ξ,Φ] at k;exact v k.1
  have q:(l.take (n-1)).filter (inE h t)=[]:=by
   refine List.filter_eq_nil_iff.2 fun b u d=>?_
   unfold inE at d;simp only[Ξ,Φ] at d;have F:(l.take n).Pairwise fun a b=>q0u a b=true:=C.sublist (List.take_sublist _ _)
   rw[s] at F;have:=(List.pairwise_append.1 F).2.2 b u e (by simp);rw[lessE_iff] at this;omega
  rw[κ v,List.filter_cons_of_neg o,q]
  rfl
def en0 :En:=(0,0,0)
def ec(e:En):List Value:=[.int .u64 e.1,.int .i64 e.2.1,.int .i64 e.2.2]
def enV(e:En):Value:= .agg (ec e).toArray
def ecs(L:List En):List Value:=L.flatMap ec
theorem q1l(L:List En):(ecs L).length=L.length*3:=by
 induction L with
 |nil=>rfl
 |cons k L ih=>unfold ecs at ih⊢;rw[List.flatMap_cons,θ,ih,χ];simp[ec];omega
theorem z4L(L:List En)(e:En):ecs (L++[e])=ecs L++ec e:=by unfold ecs;simp
theorem q3X(L M:List En):ecs (L++M)=ecs L++ecs M:=by unfold ecs;simp
theorem q5M(e:En)(L:List En):ecs (e::L)=ec e++ecs L:=rfl
theorem z4K : ∀(L:List En) (i j:Nat),i<L.length->j<3->(ecs L)[i*3+j]? =(ec (L.getD i en0))[j]?
 |[],i,j,h,_=>by simp at h
 | k::L,0,j,_,hj=>by
  rw[q5M,List.getElem?_append_left (by simp[ec];omega)];simp
 | k::L,i+1,j,h,hj=>by
  rw[q5M,List.getElem?_append_right (by simp[ec];omega),show(i+1)*3+j-(ec k).length=i*3+j from by simp[ec];omega,z4K L i j (by simpa using h) hj];simp
theorem q4X(L:List En): ∀u∈ecs L,u.oneCell'=true:=fun u d=>by
 unfold ecs at d;obtain⟨f,_,b⟩:=List.mem_flatMap.1 d;unfold ec at b;simp only[List.mem_cons,List.not_mem_nil,or_false] at b;rcases b with rfl|rfl|rfl<;>rfl
structure Ens(w:World)(ao:Option Addr)(n cap:Nat)(L:List En):Prop where
 len:L.length=n
 fits:n<=cap
 bound:cap<=9223372036854775807
 nil:ao=none->cap=0
 rd:Rd w ao (ecs L)
theorem Ens.ext{w':World}{L:List En}(h:Ens w ao n cap L)(k:Ext w w'):Ens w' ao n cap L:=⟨h.len,h.fits,h.bound,h.nil,h.rd.ext k⟩
theorem Ens.at{L:List En}(h:Ens w ao n cap L)(r:i<n):
  ∃b off,ao=some ⟨b,off,none⟩/\w.cell? ⟨b,off+i*3,none⟩=some (.int .u64 (L.getD i en0).1)/\w.cell? ⟨b,off+i*3+1,none⟩=some (.int .i64 (L.getD i en0).2.1)/\w.cell? ⟨b,off+i*3+2,none⟩=some (.int .i64 (L.getD i en0).2.2):=by
 have s:=h.len;have m:=z4K L i 0 (by omega) (by decide);have o:=z4K L i 1 (by omega) (by decide);have q:=z4K L i 2 (by omega) (by decide);obtain⟨b,off,rfl,l⟩:=h.rd _ _ m;obtain⟨_,_,d,h1⟩:=h.rd _ _ o
 cases d;obtain⟨_,_,j,h2⟩:=h.rd _ _ q
 cases j;exact⟨b,off,rfl,l,h1,h2⟩
theorem Ens.of_own{B:Nat}{e:TypeId}{v:Value}{L:List En}(h:Own w B e 3 v L.length (ecs L)): ∃ao cap,v= .slice ao L.length cap/\Ens w ao L.length cap L:=by
 obtain⟨ao,cap,rfl,h1,h2,h3,h4⟩:=h.rd;exact⟨ao,cap,rfl,rfl,h1,h2,h3,h4⟩
theorem Ens.cut{L:List En}(h:Ens w ao n cap L){k:Nat}(b:k<=n):Ens w ao k cap (L.take k):=
 ⟨by rw[Θ,h.len];omega,Ω b h.fits,h.bound,h.nil,by
  have:=h.rd.take (k*3);have e:(ecs L).take (k*3)=ecs (L.take k):=by
   conv=>lhs;rw[<-List.take_append_drop k L,q3X]
   exact List.take_left' (by rw[q1l,Θ,h.len];omega)
  rwa [e] at this⟩
def z1o(k:Nat):Nat:=4607182418800017408-k*4503599627370496
theorem z9z :((List.range 16).all fun k=>floatBits .quo .f64 (z1o k) 4611686018427387904==some (z1o (k+1)))=true:=by kernel_rfl
theorem z7f(k:Nat)(b:k<16):floatBits .quo .f64 (z1o k) 4611686018427387904=some (z1o (k+1)):=by
 have h:=List.all_eq_true.1 z9z k (List.mem_range.2 b)
 simpa using h
theorem y1k(w:World)(x:Nat):Calls Tryz.prog 341 #[.float .f64 x] w fun r w'=> ∃b:Bool,r= .returned (.bool b)/\w=w':=by
 go_enter Tryz.func341,Tryz.ntmps341;go_wp2_with fail;go_ret;exact⟨_,rfl,rfl⟩
theorem y0T(w:World)(x:Nat):Calls Tryz.prog 325 #[.float .f64 x] w fun r w'=> ∃p:Nat,r= .returned (.int .i64 (p:Int))/\1<=p/\p<=16/\w=w':=by
 have s:=η (fun W=>y1k W x);have q:Hd (∀(W:World) (k:Nat),k<16->(binOp .quo 24 (.float .f64 (z1o k)) (.float .f64 4611686018427387904)).run Tryz.prog W= .ok (.float .f64 (z1o (k+1))) W):=η (fun W k m=>run_float_arith W .quo _ .f64 _ _ _ (z7f k m));have d:Value.float .f64 4607182418800017408=Value.float .f64 (z1o 0):=rfl;have j:=η d;clear d;go_enter Tryz.func325,Tryz.ntmps325;go_wp2_with fail
 go_step3
 go_wp2_with fail;refine(s.o _).mono ?_;rintro e w1 ⟨b,rfl,rfl⟩
 cases b with
 | true=>
  go_wp2_with fail
  (try rw[Exit.noGoto_ret])
  go_ret;exact⟨4,rfl,by omega,by omega,rfl⟩
 | false =>
  go_wp2_with fail
  go_step3
  go_wp2_with fail
  go_loopw [3,4] (fun a b W=> ∃k:Nat,k<=16/\a= .float .f64 (z1o k)/\b= .int .i64 (k:Int)/\W=w) (fun _ b _=>16-(intOf b).toNat)
  case atStart=>exact⟨0,by omega,j.o,rfl,rfl⟩
  case round=>
   obtain⟨k,m,rfl,rfl,rfl⟩:=hrel;by_cases l:k<16
   ·have u:decide ((k:Int)<16)=true:=by simp;omega
    have hq:=q.o wr k l;go_wp2_with fail
    ·rw[Exit.noGoto_ret]
     go_ret;exact⟨k+1,by go_num,by omega,by omega,rfl⟩
    ·refine⟨⟨k+1,by omega,rfl,by go_num,trivial⟩,?_⟩
     simp[intOf];omega
   ·have u:decide ((k:Int)<16)=false:=by simp;omega
    go_wp2_with fail;rw[Exit.noGoto_ret];go_ret;exact⟨k,rfl,by omega,by omega,rfl⟩
theorem y2E(w:World)(n p:Nat)(I:n<=1000)(h1:1<=p)(j:p<=16):Calls Tryz.prog 326 #[.int .i64 (n:Int),.int .i64 (p:Int)] w fun r w'=> ∃g:Nat,r= .returned (.int .i64 (g:Int))/\1<=g/\g<=n/20+1/\w=w':=by
 have s:¬((n:Int)<0):=by omega
 have u:¬((10000:Int)<(n:Int)):=by omega
 have v:¬((p:Int)<1):=by omega
 have x:¬((16:Int)<(p:Int)):=by omega
 obtain⟨q,hq⟩: ∃q:Int,(n:Int)*(p:Int)=q:=⟨_,rfl⟩
 have J:0<=q:=by rw[<-hq];exact Int.mul_nonneg (by omega) (by omega)
 have M:q<=16*(n:Int):=by
  have h:=Nat.mul_le_mul_left n j;have e:(n:Int)*(p:Int)=((n*p:Nat):Int):=by push_cast;rfl
  rw[<-hq,e];omega
 have B:IntKind.i64.wrap q=q:=by rw[ν];omega
 have C:IntKind.i64.wrap (q*3)=q*3:=by rw[ν];omega
 obtain⟨z,m⟩: ∃z:Int,(q*3).tdiv 2=z:=⟨_,rfl⟩
 have d:=m;rw[Int.tdiv_eq_ediv_of_nonneg (by omega)] at d;have N:0<=z/\z<=24*(n:Int):=by omega
 have D:IntKind.i64.wrap z=z:=by rw[ν];omega
 have E:IntKind.i64.wrap (z+480)=z+480:=by rw[ν];omega
 have F:IntKind.i64.wrap (z+480-1)=z+480-1:=by rw[ν];omega
 obtain⟨y,l⟩: ∃y:Int,(z+480-1).tdiv 480=y:=⟨_,rfl⟩
 have b:=l;rw[Int.tdiv_eq_ediv_of_nonneg (by omega)] at b;have o:0<=y/\y<=(n:Int)/20+1:=by omega
 have G:IntKind.i64.wrap y=y:=by rw[ν];omega
 clear b d;go_enter Tryz.func326,Tryz.ntmps326;go_wp2_with fail
 all_goals
  go_ret
  first
   |exact⟨1,rfl,by omega,by omega,rfl⟩
   |exact⟨y.toNat,by show _=Ending.returned (.int .i64 (y.toNat:Int));rw[Int.toNat_of_nonneg o.1];rfl,by omega,by omega,rfl⟩
def y4o(h:Int):Int:=bits .or .u64 (IntKind.u64.wrap (h*140737488355328)) (h/131072)
theorem y3r(w:World)(h:Int):Calls Tryz.prog 349 #[.int .u64 h,.int .i64 (-17)] w fun r w'=>r= .returned (.int .u64 (y4o h))/\w=w':=by
 have e0:IntKind.u64.wrap (-17)=18446744073709551599:=by kernel_rfl
 have b:bits .and .u64 18446744073709551599 63=47:=by kernel_rfl
 have d:IntKind.u64.wrap (64-47)=17:=by kernel_rfl
 go_enter Tryz.func349,Tryz.ntmps349;go_wp2_with fail;go_ret;exact⟨rfl,rfl⟩
def y2T(h:Int):Int:=bits .or .u64 (y4o h) 1
theorem y1g(w:World)(h:Int):Calls Tryz.prog 340 #[.int .u64 h] w fun r w'=>r= .returned (.int .u64 (y2T h))/\w=w':=by
 have b:=η (fun W=>y3r W h);go_enter Tryz.func340,Tryz.ntmps340;go_wp2_with fail;refine(b.o _).mono ?_;rintro e w1 ⟨rfl,rfl⟩;go_wp2_with fail;go_ret;exact⟨rfl,rfl⟩
def q6W(h i b:Int):Int:=IntKind.u64.wrap (h+IntKind.u64.wrap (i*y2T h)) % b
theorem q8e(h i b:Int)(d:1<=b):0<=q6W h i b/\q6W h i b<b:=⟨Int.emod_nonneg _ (by omega),Int.emod_lt_of_pos _ (by omega)⟩
theorem z8N(w:World)(h:Int)(i b:Nat)(J:i<=1000000)(I:1<=b)(v:b<=1000000):Calls Tryz.prog 323 #[.int .u64 h,.int .i64 (i:Int),.int .i64 (b:Int)] w fun r w'=>r= .returned (.int .i64 (q6W h i b))/\w=w':=by
 have s:=η (fun W=>y1g W h);have x:¬((b:Int)<1):=by omega
 have y:¬((i:Int)<0):=by omega
 have B:IntKind.u64.wrap (i:Int)=(i:Int):=by rw[IntKind.wrap_u64];omega
 have C:IntKind.u64.wrap (b:Int)=(b:Int):=by rw[IntKind.wrap_u64];omega
 obtain⟨T,m⟩: ∃T,IntKind.u64.wrap (h+IntKind.u64.wrap ((i:Int)*y2T h))=T:=⟨_,rfl⟩
 have j:0<=T/\T<18446744073709551616:=by rw[<-m,IntKind.wrap_u64];omega
 have u:Int.tmod T (b:Int)=T % (b:Int):=Int.tmod_eq_emod_of_nonneg j.1;have q:=q8e h i b (by omega);have d:Hd (q6W h i b=T % (b:Int)):=η (by unfold q6W;rw[m]);rw[d.o] at q;obtain⟨z,l⟩: ∃z,T % (b:Int)=z:=⟨_,rfl⟩
 rw[l] at q d;have D:IntKind.u64.wrap z=z:=by rw[IntKind.wrap_u64];omega
 have E:IntKind.i64.wrap z=z:=by rw[ν];omega
 have F:((b:Int)==0)=false:=by simp;omega
 have G:¬((b:Int)=0):=by omega
 rw[l] at u;clear l;rw[d.o];go_enter Tryz.func323,Tryz.ntmps323;go_wp2_with fail;refine(s.o _).mono ?_;rintro e w1 ⟨rfl,rfl⟩;go_wp2_with fail;go_ret;exact⟨rfl,rfl⟩
theorem z7c{s:List UInt8}{e:En}(h:z1D s=some e):s=q4Y e/\q3Z e=true:=by
 unfold z1D at h
 split at h
 ·rename_i hc
  obtain⟨h1,h2,h3⟩:=hc;have he:=(Option.some.inj h).symm;subst he;have b1:=q2R (s.take 8);rw[Θ,Nat.min_eq_left (by omega)] at b1;refine⟨?_,okEn_iff.2 (by simp only;omega)⟩;have l:(s.take 8).length=8:=by simp;omega
  have m:((s.drop 8).take 8).length=8:=by simp;omega
  have o:(s.drop 16).length=8:=by simp;omega
  have b:=q9y (s.take 8);have d:=q9y ((s.drop 8).take 8);have j:=q9y (s.drop 16);rw[l] at b;rw[m] at d;rw[o] at j;unfold q4Y;simp only[Int.toNat_natCast];rw[b,d,j];have:s.drop 16=(s.drop 8).drop 8:=by rw[List.drop_drop]
  rw[this,List.take_append_drop,List.take_append_drop]
 ·cases h
theorem q9Z : ∀(f:Nat) (s:List UInt8) (l:List En),q2c f s=some l->s=(l.map q4Y).flatten/\ ∀e∈l,q3Z e=true
 |0,s,l,h=>by cases h
 | f + 1, s,l,h=>by
  unfold q2c at h
  split at h
  ·rename_i d
   cases h;exact⟨by rw[d];rfl,fun e he=>by cases he⟩
  ·cases hg:z1D (s.take 24) with
   |none=>rw[hg] at h;cases h
   | some e=>
    rw[hg] at h;simp only at h
    cases hr:q2c f (s.drop 24) with
    |none=>rw[hr] at h;cases h
    | some r=>
     rw[hr] at h;obtain⟨h1,h2⟩:=q9Z f _ _ hr;have he:e::r=l:=by simpa using h
     subst he;obtain⟨h3,h4⟩:=z7c hg;refine⟨?_,fun x b=>?_⟩
     ·rw[List.map_cons,List.flatten_cons,<-h3,<-h1,List.take_append_drop]
     ·rcases List.mem_cons.1 b with rfl|b
      ·exact h4
      ·exact h2 x b
theorem q8Q{s:List UInt8}{l:List En}(h:q9a s=some l):s=q3V l/\q1G l/\(∀e∈l,q3Z e=true)/\l.length<4294967296:=by
 unfold q9a at h
 split at h
 ·rename_i hc
  obtain⟨h1,h2,h3,h4⟩:=hc
  cases hg:q2c (s.length+1) ((s.take (s.length-4)).drop 8) with
  |none=>rw[hg] at h;cases h
  | some l'=>
   rw[hg] at h;simp only at h
   split at h
   ·rename_i v
    have:=Option.some.inj h;subst this;obtain⟨j,q⟩:=q9Z _ _ _ hg;have b:=q3g l';rw[<-j] at b;rw[b] at h4;obtain⟨t,d⟩: ∃t,s.take (s.length-4)=t:=⟨_,rfl⟩
    have lt:t.length=s.length-4:=by rw[<-d];simp
    rw[d] at h4 j b;have o:((t.drop 4).take 4).length=4:=by simp;omega
    have b4:=q2R ((t.drop 4).take 4);rw[o] at b4;have u:q1W ((t.drop 4).take 4)=l'.length:=by omega
    have m:=q9y ((t.drop 4).take 4);rw[o,u] at m;have r:t=q9C l':=by
     unfold q9C;rw[m,<-j];have x:s.take 4=t.take 4:=by rw[<-d,List.take_take];congr 1;omega
     rw[<-h3,x];have y:t.drop 8=(t.drop 4).drop 4:=by rw[List.drop_drop]
     rw[y,List.take_append_drop,List.take_append_drop]
    refine⟨?_,(q3C _).1 v,q,by omega⟩;unfold q3V;rw[<-r,<-d];unfold q2Q at h1;simp at h1;exact h1.2.symm
   ·cases h
 ·cases h
theorem z9x{s:List UInt8}{L:List En}(h:q9a s=some L)(b:s.length<=1048576):L.length<=50000:=by
 obtain⟨h1,_⟩:=q8Q h;have:=q3o L;rw[<-h1] at this;omega
theorem y1f{L:List En}(d: ∀e∈L,q3Z e=true)(b:i<L.length):z1D (((q3V L).drop (8+24*i)).take 24)=some L[i]:=by
 rw[y3y (γ b)];exact z4U (d _ (List.getElem_mem b))
def q3L(s:List UInt8):List UInt8:=if s.length<=65535 then be 2 s.length++s else []
theorem q3E{s:List UInt8}(h:s.length<=65535):q3L s=be 2 s.length++s:=by unfold q3L;rw[ξ h]
theorem y0h{s:List UInt8}(h:¬s.length<=65535):q3L s=[]:=by unfold q3L;rw[κ h]
theorem z8j(s:List UInt8)(w:World)(q:s.length<=4611686018427387903):
  Calls Tryz.prog 125 #[.string ⟨s.toArray⟩] w fun e w'=>e= .returned (.string ⟨(q3L s).toArray⟩)/\Ext w w':=by
 by_cases h:65535<(s.length:Int)
 ·have b:=η (y0h (s:=s) (by omega))
  go_enter Tryz.func125,Tryz.ntmps125;go_wp2_with fail;go_ret;exact⟨by rw[b.o];rfl,Ext.refl _⟩
 ·have b:=η (q3E (s:=s) (by omega))
  have m:(s.length:Int)<=65535:=by omega
  clear h;go_enter Tryz.func125,Tryz.ntmps125;go_wp2_with fail;refine(y3n s.length 2 2 _ rfl (by decide) (by decide) (by omega)).mono ?_;rintro e w1 ⟨rfl,d⟩;have j:=η d;clear d;have l:=q0G 2 s.length;go_wp2_with fail;go_ret;exact⟨by rw[b.o,ByteArray.mk_append_mk];simp,j.o⟩
end
end Go.Proofs.YtfiibpgoplcgkaaGreatDoor
