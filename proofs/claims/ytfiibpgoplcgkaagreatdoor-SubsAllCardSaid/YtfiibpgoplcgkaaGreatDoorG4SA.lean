/- Walks. -/
import Derived.Test.YtfiibpgoplcgkaaGreatDoorG2SA
import Derived.Laws.FloatArith
set_option linter.unusedVariables false
set_option linter.unusedSimpArgs false
set_option maxRecDepth 100000
set_option maxHeartbeats 6400000
namespace Go.Proofs.YtfiibpgoplcgkaaGreatDoor
variable {i n cap:Nat}{w:World}{ao:Option Addr}
section
open Go.RowKit
theorem Tryz.infoU8 :(Tryz.prog.info? 5).map (fun i=>(i.zero,i.size,i.bytes))=some (some (.int .u8 0),1,1):=by kernel_rfl
theorem q8A(X:Int)(n:Nat)(w:World)(h1:1<=n)(h8:n<=8)(U:0<=X)(hX:X<18446744073709551616):
  Calls Tryz.prog 123 #[.int .u64 X,.int .i64 n] w fun e w'=>e= .returned (.string ⟨(be n X.toNat).toArray⟩)/\Ext w w':=by
 obtain⟨i,M,O,d,C⟩:=info_parts Tryz.infoU8;have v:X=(X.toNat:Int):=by omega
 have I:=η v;clear v;generalize X.toNat=x at*;go_enter Tryz.func123,Tryz.ntmps123
 go_wp2_with (at_make;refine wpList_make_full _ rfl _ _ 75 rfl w.heap.size 5 i (.int .u8 0) 1 Tryz.underlying75 M O d .i64 .i64 _ _ n rfl rfl rfl rfl (by rw[C];omega) (by unfold maxLen;omega) (ι _) ?_;intro V l J)
 clear M O d C;have b:=Own.of_row l;rw[Nat.mul_one,show(madeCells (Value.int .u8 0).cells n).toList=List.replicate n (.int .u8 0) from toList_madeCells_one _ _] at b;have y:Ext w V:=(Ext.refl w).grown J (ι _) (fun k N=>by cases N);have G:=η b;have s:=η y;clear l J b y
 go_loopw [16] (fun i w'=> ∃k:Nat,k<=n/\i= .int .i64 k/\Own w' w.heap.size 5 1 (.slice (some ⟨w.heap.size,0,none⟩) n n) n (List.replicate (n-k) (.int .u8 0)++(be k x).map q1R)/\Ext w w') (fun i _=>n-(intOf i).toNat)
 case atStart=>exact⟨0,υ _,rfl,by simpa [be] using G.o,s.o⟩
 case round=>
  clear G s;obtain⟨k,N,rfl,b,E⟩:=hrel;have R:=η E;have G:=η b;by_cases S:k<n
  ·obtain⟨g,c,u,e,W,Y,Z⟩:=b.cellE (j:=n-1-k) (by omega)
   cases e;have q:=b.stored (g:=w.heap.size) (cap:=n) rfl (j:=n-1-k) (.int .u8 ((UInt8.ofNat (x/256^k)).toNat:Int));have m:(List.replicate (n-k) (Value.int .u8 0)++(be k x).map q1R).set (n-1-k) (.int .u8 ((UInt8.ofNat (x/256^k)).toNat:Int))=List.replicate (n-(k+1)) (.int .u8 0)++(be (k+1) x).map q1R:=by
    rw[show n-k=(n-(k+1))+1 from by omega,show n-1-k=n-(k+1) from by omega,y1R]
    rfl
   rw[m,<-z9W,<-I.o] at q;have B:=E.setCell (p:=⟨w.heap.size,n-1-k,none⟩) (ι _) (.int .u8 (X/2^(8*k) % 256));have Q:=η q;have F:=η B;clear b E q m B;go_wp2_with fail
   go_roundw
   case rel=>exact⟨k+1,by omega,by go_num,Q.o,F.o⟩
   case measure=>simp[intOf];omega
  ·have D:k=n:=by omega
   rw[D,Nat.sub_self,List.replicate_zero,List.nil_append] at b;have hcv:=q4l (P:=Tryz.prog) wr 75 9 5 (a:=⟨w.heap.size,0,none⟩) (n:=n) (cap:=n) Tryz.underlying75 Tryz.underlying5 Tryz.underlying9 (q0H n x) (by obtain⟨_,_,e,_,_,_,r⟩:=b.rd;cases e;exact r);clear D b E;go_wp2_with fail;go_ret;exact⟨rfl,R.o⟩
theorem z5N(X N:Int)(k:Nat)(w:World)(d:N=(k:Int))(l:1<=N)(m:N<=8)(b:0<=X)(j:X<18446744073709551616):
  Calls Tryz.prog 123 #[.int .u64 X,.int .i64 N] w fun e w'=>e= .returned (.string ⟨(be k X.toNat).toArray⟩)/\Ext w w':=by
 subst d;exact q8A X k w (by omega) (by omega) b j
theorem y2h(x:Nat)(N:Int)(k:Nat)(w:World)(j:N=(k:Int))(b:1<=N)(d:N<=8)(l:(x:Int)<18446744073709551616):
  Calls Tryz.prog 123 #[.int .u64 (x:Int),.int .i64 N] w fun e w'=>e= .returned (.string ⟨(be k x).toArray⟩)/\Ext w w':=by
 have h:=z5N (x:Int) N k w j b d (by omega) l
 rwa [Int.toNat_natCast] at h
theorem q9l(l:List UInt8)(w:World)(O:l.length<=9223372036854775807):
  Calls Tryz.prog 131 #[.string ⟨l.toArray⟩] w fun e w'=>e= .returned (.int .u64 (q1O (l.take 8)))/\Ext w w':=by
 obtain⟨m,hm⟩: ∃m:Nat,m=min l.length 8:=⟨_,rfl⟩
 have d:(if (8:Int)<(l.length:Int) then(8:Int) else(l.length:Int))=(m:Int):=by split<;>omega
 have I:m<=l.length:=by omega
 have J:m<=8:=by omega
 have j:l.take 8=l.take m:=by
  rw[hm];rcases Nat.le_total l.length 8 with h|h
  ·rw[Nat.min_eq_left h,Δ h,List.take_length]
  ·rw[Nat.min_eq_right h]
 have q:=η j;clear hm j;go_enter Tryz.func131,Tryz.ntmps131;go_wp2_with fail;clear d
 go_loopw [3,8] (fun v i w'=> ∃(k:Nat) (Z:Int),k<=m/\i= .int .i64 k/\v= .int .u64 Z/\Z=(q1O (l.take k):Int)/\Ext w w') (fun _ i _=>m-(intOf i).toNat)
 case atStart=>exact⟨0,0,υ _,rfl,rfl,rfl,Ext.refl _⟩
 case round=>
  obtain⟨k,Z,N,rfl,rfl,s,C⟩:=hrel;have B:=η C;have y:=η s;clear C;by_cases G:k<m
  ·have u:0<=Z:=by omega
   have x:Z<72057594037927936:=by
    have E:=q2O (l.take k);have F:(l.take k).length=k:=by simp;omega
    rw[F] at E;have M:(256:Nat)^k<=256^7:=Nat.pow_le_pow_right (by decide) (by omega);omega
   clear s;have r:k<l.length:=by omega
   go_wp2_with fail
   go_roundw
   case rel=>exact⟨k+1,_,by omega,by go_num,rfl,by
    have e:=z3D Z l[k] u x;rw[show((⟨l.toArray⟩:ByteArray)[k])=l[k] from rfl,e,y.o,List.take_succ_eq_append_getElem r,z7z]
    omega,B.o⟩
   case measure=>simp[intOf];omega
  ·have b:k=m:=by omega
   have D:=η b;clear b s;go_wp2_with fail;go_ret;exact⟨rn (by rw[q.o,y.o,D.o]),B.o⟩
theorem y2n(s:BitVec 32)(c:UInt8)(S C:Int)(w:World)(u:S=(s.toNat:Int))(r:C=(c.toNat:Int)):
  Calls Tryz.prog 293 #[.int .u32 S,.int .u8 C] w fun e w'=>e= .returned (.int .u32 ((q4B s c).toNat:Int))/\Ext w w':=by
 have l:=q5R s (BitVec.ofNat 32 c.toNat);rw[y0X,<-u,<-r] at l;have D:=η l;have b1:0<=S:=by omega
 have b2:S<4294967296:=by have:=s.isLt;omega
 have b3:0<=C:=by omega
 have b4:C<256:=by have:=c.toNat_lt;omega
 clear u r l;go_enter Tryz.func293,Tryz.ntmps293;go_wp2_with fail
 go_loopw [0,9] (fun v i w'=> ∃(k:Nat) (V:Int),k<=8/\i= .int .i64 k/\v= .int .u32 V/\V=((q7Y k (s^^^BitVec.ofNat 32 c.toNat)).toNat:Int)/\Ext w w') (fun _ i _=>8-(intOf i).toNat)
 case atStart=>exact⟨0,_,υ _,rfl,rfl,D.o,Ext.refl _⟩
 case round=>
  obtain⟨k,V,F,rfl,rfl,y,x⟩:=hrel;have m:=η y;have q:=η x;have G:0<=V:=by omega
  have I:V<4294967296:=by have:=(q7Y k (s^^^BitVec.ofNat 32 c.toNat)).isLt;omega
  clear y x;by_cases E:k<8
  ·have b:=y1X (q7Y k (s^^^BitVec.ofNat 32 c.toNat))
   rw[<-m.o] at b;have j:=η b;clear b;go_wp2_with fail
   go_roundw
   case rel=>exact⟨k+1,_,by omega,by go_num,rfl,j.o,q.o⟩
   case measure=>simp[intOf];omega
  ·have d:k=8:=by omega
   have B:=η d;clear d;go_wp2_with fail;go_ret;exact⟨rn (by rw[m.o,B.o];rfl),q.o⟩
theorem y2T(l:List UInt8)(w:World)(D:l.length<=9223372036854775807):
  Calls Tryz.prog 243 #[.int .u32 0,.string ⟨l.toArray⟩] w fun e w'=>e= .returned (.int .u32 ((q1o l).toNat:Int))/\Ext w w':=by
 go_enter Tryz.func243,Tryz.ntmps243;go_wp2_with fail
 go_loopw [5,11] (fun v i w'=> ∃(k:Nat) (V:Int),k<=l.length/\i= .int .i64 k/\v= .int .u32 V/\V=(((l.take k).foldl q4B (~~~0#32)).toNat:Int)/\Ext w w') (fun _ i _=>l.length-(intOf i).toNat)
 case atStart=>exact⟨0,_,υ _,rfl,rfl,rfl,Ext.refl _⟩
 case round=>
  obtain⟨k,V,C,rfl,rfl,x,s⟩:=hrel;have q:=η x;have r:=η s;have E:0<=V:=by omega
  have F:V<4294967296:=by have:=((l.take k).foldl q4B (~~~0#32)).isLt;omega
  clear x s;by_cases m:k<l.length
  ·go_wp2_with fail
   refine(y2n _ l[k] _ _ _ q.o rfl).mono ?_;rintro e w1 ⟨rfl,b⟩;have j:=η (r.o.trans b);clear b;have u:(l.take (k+1)).foldl q4B (~~~0#32)=q4B ((l.take k).foldl q4B (~~~0#32)) l[k]:=by
    rw[List.take_succ_eq_append_getElem m,List.foldl_append];rfl
   have y:=η u;clear u;generalize q4B ((l.take k).foldl q4B (~~~0#32)) l[k]=T at*;go_wp2_with fail
   go_roundw
   case rel=>exact⟨k+1,_,by omega,by go_num,rfl,by rw[y.o],j.o⟩
   case measure=>simp[intOf];omega
  ·have d:l.take k=l:=Δ (by omega)
   have B:=η d;clear d;go_wp2_with fail;go_ret;exact⟨rn (by rw[q.o,B.o,y2a];rfl),r.o⟩
theorem y1Y(l:List UInt8)(w:World)(j:l.length<=9223372036854775807):
  Calls Tryz.prog 187 #[.string ⟨l.toArray⟩] w fun e w'=>e= .returned (.int .u32 ((q1o l).toNat:Int))/\Ext w w':=by
 go_enter Tryz.func187,Tryz.ntmps187;go_wp2_with fail;refine(y2T l _ j).mono ?_;rintro e w1 ⟨rfl,b⟩;have d:=η b;clear b;go_wp2_with fail;go_ret;exact⟨rfl,d.o⟩
def q8S(s:BitVec 32):List UInt8:=(be 4 s.toNat).reverse
theorem be4(x:Nat):be 4 x=[UInt8.ofNat (x/16777216),UInt8.ofNat (x/65536),UInt8.ofNat (x/256),UInt8.ofNat x]:=by
 simp[be]
theorem y0v(s:BitVec 32)(S:Int)(w:World)(M:S=(s.toNat:Int)):
  Calls Tryz.prog 186 #[.int .u32 S] w fun e w'=>e= .returned (.string ⟨(q8S s).toArray⟩)/\Ext w w':=by
 have b1:0<=S:=by omega
 have b2:S<4294967296:=by have:=s.isLt;omega
 have q:S.toNat=s.toNat:=by omega
 have B:=η q;clear M q;go_enter Tryz.func186,Tryz.ntmps186;go_wp2_with fail;refine(q8A S 4 _ (by omega) (by omega) b1 (by omega)).mono ?_;rw[be4,B.o];rintro e w1 ⟨rfl,I⟩;have C:=η I;clear I;have j:q8S s=[UInt8.ofNat s.toNat,UInt8.ofNat (s.toNat/256),UInt8.ofNat (s.toNat/65536),UInt8.ofNat (s.toNat/16777216)]:=by
  unfold q8S;rw[be4];rfl
 have m:=η j;clear j;generalize UInt8.ofNat (s.toNat/16777216)=c0 at*;generalize UInt8.ofNat (s.toNat/65536)=c1 at*;generalize UInt8.ofNat (s.toNat/256)=c2 at*;generalize UInt8.ofNat s.toNat=c3 at*;have r:=fun w s=>run_bytes_of_string (P:=Tryz.prog) w 9 75 5 s Tryz.underlying9 Tryz.underlying75 Tryz.underlying5
 go_wp2_with fail;obtain⟨d,b,hex⟩:=z1y w1 5 [c0,c1,c2,c3] (grownCap w1 4 0 5);have x:=η (C.o.trans hex);clear hex r;generalize (w1.alloc (Obj.cells (bytesRow {data:=#[c0,c1,c2,c3]} (grownCap w1 4 0 5)) 5 ((bytesRow {data:=#[c0,c1,c2,c3]} (grownCap w1 4 0 5)).size,(bytesRow {data:=#[c0,c1,c2,c3]} (grownCap w1 4 0 5)).size+1))).drew=W at*;have D:W.cell? ⟨w1.heap.size,0,none⟩=some (.int .u8 (c0.toNat:Int)):=by obtain⟨_,_,e,h⟩:=d 0 _ rfl;cases e;exact h
 have E:W.cell? ⟨w1.heap.size,1,none⟩=some (.int .u8 (c1.toNat:Int)):=by obtain⟨_,_,e,h⟩:=d 1 _ rfl;cases e;exact h
 have F:W.cell? ⟨w1.heap.size,2,none⟩=some (.int .u8 (c2.toNat:Int)):=by obtain⟨_,_,e,h⟩:=d 2 _ rfl;cases e;exact h
 have G:W.cell? ⟨w1.heap.size,3,none⟩=some (.int .u8 (c3.toNat:Int)):=by obtain⟨_,_,e,h⟩:=d 3 _ rfl;cases e;exact h
 have N:=b 0 (by simp);have O:=b 1 (by simp);have Q:=b 2 (by simp);have R:=b 3 (by simp);have v:Hd (w.heap.size<=w1.heap.size):=η C.o.size;generalize w1.heap.size=g at*;clear d b;have u:=y1P D E F G (q1R c3) (q1R c2) (q1R c1) (q1R c0);have hcv:=q4l (P:=Tryz.prog) _ 75 9 5 (n:=4) (l:=[c3,c2,c1,c0]) (cap:=grownCap w1 4 0 5) Tryz.underlying75 Tryz.underlying5 Tryz.underlying9 rfl u;have y:=η hcv;have J:Hd (Below w.heap.size w ((((W.setCell ⟨g,0,none⟩ (q1R c3)).setCell ⟨g,1,none⟩ (q1R c2)).setCell ⟨g,2,none⟩ (q1R c1)).setCell ⟨g,3,none⟩ (q1R c0)).drew):=
  η (((((x.o.setCell (p:=⟨g,0,none⟩) v.o _).setCell (p:=⟨g,1,none⟩) v.o _).setCell (p:=⟨g,2,none⟩) v.o _).setCell (p:=⟨g,3,none⟩) v.o _).drew)
 clear u hcv
 go_region
 have hcv:=y.o;clear D E F G N O Q R;generalize ((((W.setCell ⟨g,0,none⟩ (q1R c3)).setCell ⟨g,1,none⟩ (q1R c2)).setCell ⟨g,2,none⟩ (q1R c1)).setCell ⟨g,3,none⟩ (q1R c0)).drew=W4 at*;go_wp2_with fail;go_ret;exact⟨by rw[m.o];rfl,J.o⟩
def q1T(l:List UInt8):List UInt8:=l++q8S (q1o l)
def q2L(l:List UInt8):Bool:=decide (4<=l.length)&&decide (q1T (l.take (l.length-4))=l)
def q1z(l:List UInt8):List UInt8:=if q2L l then l.take (l.length-4) else []
theorem q5U(s:BitVec 32):(q8S s).length=4:=by simp[q8S,q0H]
theorem q1K(l:List UInt8):(q1T l).length=l.length+4:=by simp[q1T,q5U]
theorem z9S(l:List UInt8)(h:4<=l.length):q2L l=decide (q8S (q1o (l.take (l.length-4)))=l.drop (l.length-4)):=by
 unfold q2L;rw[ζ h,Bool.true_and];have e:l=l.take (l.length-4)++l.drop (l.length-4):=(List.take_append_drop _ _).symm;have :(q1T (l.take (l.length-4))=l)↔(q8S (q1o (l.take (l.length-4)))=l.drop (l.length-4)):=by
  unfold q1T
  constructor
  ·intro b
   have d:l.take (l.length-4)++q8S (q1o (l.take (l.length-4)))=l.take (l.length-4)++l.drop (l.length-4):=by rw[b];exact e
   exact List.append_cancel_left d
  ·intro b;rw[b];exact e.symm
 simp only[this]
theorem z2b(l:List UInt8)(h:l.length<4):q2L l=false:=by
 unfold q2L;rw[ε (by omega)];rfl
theorem z4J(l:List UInt8)(w:World)(r:l.length<=4611686018427387903):
  Calls Tryz.prog 127 #[.string ⟨l.toArray⟩] w fun e w'=>e= .returned (.string ⟨(q1T l).toArray⟩)/\Ext w w':=by
 go_enter Tryz.func127,Tryz.ntmps127;go_wp2_with fail;refine(y1Y l _ (by omega)).mono ?_;rintro e w1 ⟨rfl,b⟩;have m:=η b;clear b;go_wp2_with fail;refine(y0v (q1o l) _ _ rfl).mono ?_;rintro e s ⟨rfl,b⟩;have d:=η (m.o.trans b);clear b;have j:=q5U (q1o l);have q:Hd (q1T l=l++q8S (q1o l)):=η rfl;generalize q8S (q1o l)=T at*;go_wp2_with fail;go_ret;exact⟨by rw[q.o];simp[ByteArray.mk_append_mk],d.o⟩
theorem open_c(l:List UInt8)(w:World)(D:l.length<=4611686018427387903):
  Calls Tryz.prog 129 #[.string ⟨l.toArray⟩] w fun e w'=>e= .returned (.tuple #[.string ⟨(q1z l).toArray⟩,.bool (q2L l)])/\Ext w w':=by
 by_cases y:l.length<4
 ·have s:=z2b l y
  have v:=η s;clear s;have C:decide ((l.length:Int)<4)=true:=by simp;omega
  go_enter Tryz.func129,Tryz.ntmps129;go_wp2_with fail;refine q0E (by kernel_rfl) (by kernel_rfl) ?_
  repeat (go_big_quiet_step (fail))
  refine wpQuiet_nil ?_;intro x b;have r:=η b;clear b;go_wp2_with fail;go_ret2;exact⟨by rw[q1z,v.o];rfl,r.o⟩
 ·have s:=z9S l (by omega)
  have v:=η s;clear s;have C:decide ((l.length:Int)<4)=false:=by simp;omega
  have B:4<=l.length:=by omega
  have u:(l.take (l.length-4)).length<=9223372036854775807:=by simp;omega
  have q:=η u;clear u;have m:Hd (q1z l=if q2L l then l.take (l.length-4) else []):=η rfl;by_cases d:q8S (q1o (l.take (l.length-4)))=l.drop (l.length-4)
  ·have hq:(q8S (q1o (l.take (l.length-4)))==l.drop (l.length-4))=true:=by rw[beq_iff_eq];exact d
   have j:=η d;clear d;go_enter Tryz.func129,Tryz.ntmps129;go_wp2_with fail;refine q0E (by kernel_rfl) (by kernel_rfl) ?_
   repeat (go_big_quiet_step (first|(go_at_call 187;exact Calls.quiet_ext (y1Y _ _ q.o))|(go_at_call 186;exact Calls.quiet_ext (y0v (q1o _) _ _ rfl))))
   refine wpQuiet_nil ?_;intro x b;have r:=η b;clear b;go_wp2_with fail;go_ret2;exact⟨by rw[m.o,v.o,ζ j.o];rfl,r.o⟩
  ·have hq:(q8S (q1o (l.take (l.length-4)))==l.drop (l.length-4))=false:=by rw[beq_eq_false_iff_ne];exact d
   have j:=η d;clear d;go_enter Tryz.func129,Tryz.ntmps129;go_wp2_with fail;refine q0E (by kernel_rfl) (by kernel_rfl) ?_
   repeat (go_big_quiet_step (first|(go_at_call 187;exact Calls.quiet_ext (y1Y _ _ q.o))|(go_at_call 186;exact Calls.quiet_ext (y0v (q1o _) _ _ rfl))))
   refine wpQuiet_nil ?_;intro x b;have r:=η b;clear b;go_wp2_with fail;go_ret2;exact⟨by rw[m.o,v.o,ε j.o];rfl,r.o⟩
def q2y(s:List UInt8):List UInt8:=if s.length<=65535 then be 2 s.length++s else []
theorem q2r{s:List UInt8}(h:s.length<=65535):q2y s=be 2 s.length++s:=by unfold q2y;rw[ξ h]
theorem z9n{s:List UInt8}(h:¬s.length<=65535):q2y s=[]:=by unfold q2y;rw[κ h]
theorem z7q(s:List UInt8)(w:World)(q:s.length<=4611686018427387903):
  Calls Tryz.prog 125 #[.string ⟨s.toArray⟩] w fun e w'=>e= .returned (.string ⟨(q2y s).toArray⟩)/\Ext w w':=by
 by_cases h:65535<(s.length:Int)
 ·have b:=η (z9n (s:=s) (by omega))
  go_enter Tryz.func125,Tryz.ntmps125;go_wp2_with fail;go_ret;exact⟨by rw[b.o];rfl,Ext.refl _⟩
 ·have b:=η (q2r (s:=s) (by omega))
  have m:(s.length:Int)<=65535:=by omega
  clear h;go_enter Tryz.func125,Tryz.ntmps125;go_wp2_with fail;refine(y2h s.length 2 2 _ rfl (by decide) (by decide) (by omega)).mono ?_;rintro e w1 ⟨rfl,d⟩;have j:=η d;clear d;have l:=q0H 2 s.length;go_wp2_with fail;go_ret;exact⟨by rw[b.o,ByteArray.mk_append_mk];simp,j.o⟩
abbrev En :=Int×Int×Int
def q3f(e:En):Bool:=decide (0<=e.1)&&decide (e.1<18446744073709551616)&&decide (0<=e.2.1)&&decide (e.2.1<=9223372036854775807)&&decide (0<=e.2.2)&&decide (e.2.2<=9223372036854775807)
theorem okEn_iff{e:En}:q3f e=true↔0<=e.1/\e.1<18446744073709551616/\0<=e.2.1/\e.2.1<=9223372036854775807/\0<=e.2.2/\e.2.2<=9223372036854775807:=by
 simp[q3f,and_assoc]
def q0n(a b:En):Bool:=if a.1≠b.1 then decide (a.1<b.1) else if a.2.1≠b.2.1 then decide (a.2.1<b.2.1) else decide (a.2.2<b.2.2)
theorem lessE_iff{a b:En}:q0n a b=true↔a.1<b.1\/(a.1=b.1/\(a.2.1<b.2.1\/(a.2.1=b.2.1/\a.2.2<b.2.2))):=by
 unfold q0n
 split
 ·rw[Φ];omega
 ·split
  ·rw[Φ];omega
  ·rw[Φ];omega
theorem q1S{a b c:En}(h:q0n a b=true)(k:q0n b c=true):q0n a c=true:=by rw[lessE_iff] at*;omega
theorem q0c(a:En):q0n a a=false:=by
 cases h:q0n a a with
 |false=>rfl
 |true=>rw[lessE_iff] at h;omega
theorem q5T{a b:En}(h:q0n a b=false)(k:q0n b a=false):a=b:=by
 have r:¬(a.1<b.1\/(a.1=b.1/\(a.2.1<b.2.1\/(a.2.1=b.2.1/\a.2.2<b.2.2)))):=fun x=>by rw[lessE_iff.2 x] at h;cases h
 have s:¬(b.1<a.1\/(b.1=a.1/\(b.2.1<a.2.1\/(b.2.1=a.2.1/\b.2.2<a.2.2)))):=fun x=>by rw[lessE_iff.2 x] at k;cases k
 obtain⟨d,j,l⟩:=a;obtain⟨b1,b2,b3⟩:=b;simp only at r s;have m:d=b1:=by omega
 have o:j=b2:=by omega
 have q:l=b3:=by omega
 rw[m,o,q]
def q1E(l:List En):Prop:=l.Pairwise fun a b=>q0n a b=true
def q4V :List En->Bool
 |[]=>true
 |[_]=>true
 |a::b::r=>q0n a b&&q4V (b::r)
theorem q3W : ∀l:List En,q4V l=true↔q1E l
 |[]=>by simp[q4V,q1E]
 |[a]=>by simp[q4V,q1E]
 | a ::b::r=>by
  unfold q4V q1E;rw[Ξ,q3W (b::r)]
  constructor
  ·rintro⟨d,j⟩
   refine List.pairwise_cons.2 ⟨fun x m=>?_,j⟩;rcases List.mem_cons.1 m with rfl|m
   ·exact d
   ·exact q1S d ((List.pairwise_cons.1 j).1 x m)
  ·intro h
   obtain⟨d,j⟩:=List.pairwise_cons.1 h;exact⟨d b List.mem_cons_self,j⟩
def q4X(e:En):List UInt8:=be 8 e.1.toNat++(be 8 e.2.1.toNat++be 8 e.2.2.toNat)
theorem q3R(e:En):(q4X e).length=24:=by simp[q4X,q0H]
def z0X(s:List UInt8):Option En:=
 if s.length=24/\q1O ((s.drop 8).take 8)<=9223372036854775807/\q1O (s.drop 16)<=9223372036854775807 then some ((q1O (s.take 8):Int),(q1O ((s.drop 8).take 8):Int),(q1O (s.drop 16):Int)) else none
theorem z4r(e:En):(q4X e).take 8=be 8 e.1.toNat/\((q4X e).drop 8).take 8=be 8 e.2.1.toNat/\(q4X e).drop 16=be 8 e.2.2.toNat:=by
 have b:=q0H 8 e.1.toNat;have d:=q0H 8 e.2.1.toNat;refine⟨?_,?_,?_⟩
 ·unfold q4X;exact List.take_left' b
 ·unfold q4X;rw[List.drop_left' b];exact List.take_left' d
 ·unfold q4X
  rw[<-List.append_assoc];exact List.drop_left' (by rw[θ,b,d])
theorem z3h{e:En}(h:q3f e=true):z0X (q4X e)=some e:=by
 obtain⟨a0,b,d,b1,j,q⟩:=okEn_iff.1 h;obtain⟨l,m,o⟩:=z4r e;have u: ∀x:Int,0<=x->x<18446744073709551616->q1O (be 8 x.toNat)=x.toNat:=fun x r s=>by
  rw[q4q];exact Nat.mod_eq_of_lt (by omega)
 unfold z0X;rw[l,m,o,u _ a0 b,u _ d (by omega),u _ j (by omega),q3R,ξ (by omega)];obtain⟨x,y,z⟩:=e;simp only at*
 congr 2
 ·omega
 ·congr 1
  ·omega
  ·omega
def z2w :List UInt8:=[112,116,97,98]
def z4N(l:List En):List UInt8:=z2w++(be 4 l.length++(l.map q4X).flatten)
def q9H(l:List En):List UInt8:=q1T (z4N l)
theorem q4F(l:List En):((l.map q4X).flatten).length=24*l.length:=by
 induction l with
 |nil=>rfl
 |cons e r ih=>rw[List.map_cons,List.flatten_cons,θ,q3R,ih,χ];omega
theorem q8G(l:List En):(z4N l).length=8+24*l.length:=by
 unfold z4N z2w;rw[θ,θ,q0H,q4F];simp;omega
theorem q5Z(l:List En):(q9H l).length=12+24*l.length:=by unfold q9H;rw[q1K,q8G];omega
def q2W :Nat->List UInt8->Option (List En)
 |0,_=>none
 | f+1,s=>if s=[] then some [] else match z0X (s.take 24) with
  |none=>none
  |some e=>(q2W f (s.drop 24)).map (e::·)
def q8q(s:List UInt8):Option (List En):=
 if q2L s/\8<=s.length-4/\s.take 4=z2w/\((s.take (s.length-4)).drop 8).length=q1O (((s.take (s.length-4)).drop 4).take 4)*24 then
  match q2W (s.length+1) ((s.take (s.length-4)).drop 8) with
  |none=>none
  |some l=>if q4V l then some l else none
 else none
theorem q8o : ∀(l:List En) (f:Nat),l.length<f->(∀e∈l,q3f e=true)->q2W f ((l.map q4X).flatten)=some l
 | [],f+1,_,_=>by
  show(if ([]:List UInt8)=[] then some [] else _)=some [];rw[ξ rfl]
 |[],0,h,_=>by simp at h
 |e::r,0,h,_=>by simp at h
 | e::r,f+1,h,ho=>by
  have b:=q3R e;unfold q2W;rw[List.map_cons,List.flatten_cons,κ (fun k=>by have:=congrArg List.length k;rw[θ,b] at this;simp at this),List.take_left' b,List.drop_left' b,z3h (ho e List.mem_cons_self)];show(q2W f ((r.map q4X).flatten)).map (e::·)=_;rw[q8o r f (by simp at h;omega) fun x d=>ho x (List.mem_cons_of_mem _ d)]
  rfl
theorem z5K(x:List UInt8):q2L (q1T x)=true:=by
 unfold q2L;have b:(q1T x).take ((q1T x).length-4)=x:=by rw[q1K];unfold q1T;exact List.take_left' (by omega)
 rw[b,ζ (by rw[q1K];omega),ζ rfl];rfl
theorem z8z{l:List En}(r:q1E l)(q: ∀e∈l,q3f e=true)(s:l.length<4294967296):q8q (q9H l)=some l:=by
 have d:(q9H l).take ((q9H l).length-4)=z4N l:=by unfold q9H;rw[q1K];unfold q1T;exact List.take_left' (by omega)
 have hc:=q8G l;have j:(z4N l).drop 8=(l.map q4X).flatten:=by
  unfold z4N;rw[<-List.append_assoc];exact List.drop_left' (by rw[θ,q0H];rfl)
 have m:((z4N l).drop 4).take 4=be 4 l.length:=by
  unfold z4N;rw[show(z2w++(be 4 l.length++(l.map q4X).flatten)).drop 4=be 4 l.length++(l.map q4X).flatten from List.drop_left' rfl];exact List.take_left' (q0H 4 _)
 have o:(q9H l).take 4=z2w:=by
  unfold q9H q1T z4N;rw[List.append_assoc];exact List.take_left' rfl
 have b:q2L (q9H l)=true:=z5K _;unfold q8q;rw[d,j,m,o,q4q,q4F,q5Z,ξ ⟨b,by omega,rfl,by rw[Nat.mod_eq_of_lt (by omega)];omega⟩,q8o l _ (by omega) q];show(if q4V l then some l else none)=some l;rw[ξ ((q3W l).2 r)]
theorem y2p{l:List En}{e:En}(h:l[i]? =some e):((q9H l).drop (8+24*i)).take 24=q4X e:=by
 obtain⟨q,rfl⟩:=List.getElem?_eq_some_iff.1 h;have b:l=l.take i++l[i]::l.drop (i+1):=by rw[List.getElem_cons_drop];exact(List.take_append_drop _ _).symm
 have d:q9H l=(z2w++(be 4 l.length++((l.take i).map q4X).flatten))++(q4X l[i]++((((l.drop (i+1)).map q4X).flatten)++q8S (q1o (z4N l)))):=by
  have m:(l.map q4X).flatten=((l.take i).map q4X).flatten++(q4X l[i]++((l.drop (i+1)).map q4X).flatten):=by
   conv=>lhs;rw[b]
   rw[List.map_append,List.map_cons,List.flatten_append,List.flatten_cons]
  have o:z4N l=z2w++(be 4 l.length++(((l.take i).map q4X).flatten++(q4X l[i]++((l.drop (i+1)).map q4X).flatten))):=by rw[<-m];rfl
  unfold q9H q1T;generalize q8S (q1o (z4N l))=Q;rw[o];simp only[List.append_assoc]
 have j:(z2w++(be 4 l.length++((l.take i).map q4X).flatten)).length=8+24*i:=by
  rw[θ,θ,q0H,q4F,Θ,Nat.min_eq_left (by omega)];show 4+(4+24*i)=_;omega
 rw[d,List.drop_left' j];exact List.take_left' (q3R _)
def lbE(l:List En)(x:En):Nat:=(l.filter fun e=>q0n e x).length
theorem q4g(l:List En)(x:En):lbE l x<=l.length:=List.length_filter_le _ _
theorem q3s : ∀{l:List En} (x:En),q1E l-> ∀{i:Nat} {e:En},l[i]? =some e->q0n e x=decide (i<lbE l x)
 |[],x,_,i,e,h=>by simp at h
 | a :: r,x,hs,i,e,h=>by
  obtain⟨s,u⟩:=List.pairwise_cons.1 hs;by_cases j:q0n a x=true
  ·have q:lbE (a::r) x=lbE r x+1:=by unfold lbE;rw[List.filter_cons_of_pos (p:=fun e=>q0n e _) j];rfl
   rw[q]
   cases i with
   | zero=>
    simp only[List.getElem?_cons_zero,Option.some.injEq] at h;subst h;rw[j];simp
   | succ i=>
    rw[List.getElem?_cons_succ] at h;rw[q3s x u h,decide_eq_decide];omega
  ·have m:q0n a x=false:=by simpa using j
   have d: ∀b∈r,q0n b x=false:=fun b o=>by
    cases hbx:q0n b x with
    |false=>rfl
    |true=>exact absurd (q1S (s b o) hbx) j
   have q:lbE (a::r) x=0:=by
    unfold lbE;rw[List.filter_cons_of_neg (p:=fun e=>q0n e x) j,List.filter_eq_nil_iff.2 fun b o=>by rw[d b o];decide]
    rfl
   rw[q]
   cases i with
   | zero=>
    simp only[List.getElem?_cons_zero,Option.some.injEq] at h;subst h;rw[m];rfl
   | succ i=>
    rw[List.getElem?_cons_succ] at h;rw[d e (List.mem_of_getElem? h)];simp
def q4U(many:Nat):Nat->List En->List (En×Nat)
 |_,[]=>[]
 |i,e::r=>if i % 8=0\/i+1=many then(e,i)::q4U many (i+1) r else q4U many (i+1) r
def q2p(l:List En):List (En×Nat):=q4U l.length 0 l
def q0w(many:Nat)(x:En):Nat->List (En×Nat)->Nat×Nat
 |lo,[]=>(lo,max lo many)
 |lo,(e,a)::r=>if q0n e x then q0w many x (min a (many-1)+1) r else(lo,max lo (min a many))
theorem q7t{l:List En}(x:En)(q:q1E l): ∀(r:List En) (i lo:Nat),r=l.drop i->i<=l.length->lo<=lbE l x->lo<=i->(i<l.length->(lo=0/\i=0)\/(lo % 8=1/\i<=lo+7))->(i=l.length->lo=l.length)->
  (q0w l.length x lo (q4U l.length i r)).1<=lbE l x/\lbE l x<=(q0w l.length x lo (q4U l.length i r)).2/\(q0w l.length x lo (q4U l.length i r)).2<=(q0w l.length x lo (q4U l.length i r)).1+7/\(q0w l.length x lo (q4U l.length i r)).2<=l.length
 | [],i,lo,hr,hi,h1,h2,h3,h4=>by
  have y:=q4g l x;have m:i=l.length:=by
   have:=congrArg List.length hr;rw[List.length_drop] at this;simp at this;omega
  have:=h4 m;unfold q4U q0w;simp only;omega
 | e :: r,i,lo,hr,hi,h1,h2,h3,h4=>by
  have y:=q4g l x;have o:i<l.length:=by
   have:=congrArg List.length hr;rw[List.length_drop] at this;simp at this;omega
  have he:l[i]? =some e:=by
   have:=congrArg (fun z=>z[0]?) hr
   simpa using this.symm
  have d:r=l.drop (i+1):=by
   have:=congrArg (List.drop 1) hr;rw[List.drop_drop] at this
   simpa using this
  have b:=q3s x q he;have B:=h3 o;unfold q4U;by_cases hm:i % 8=0\/i+1=l.length
  ·rw [ξ hm]
   unfold q0w;by_cases j:q0n e x=true
   ·rw[ξ j]
    rw[j] at b;have u:i<lbE l x:=of_decide_eq_true b.symm;have v:min i (l.length-1)+1=i+1:=by omega
    rw[v];exact q7t x q r (i+1) (i+1) d (by omega) (by omega) (ι _) (fun h=> .inr (by omega)) (fun h=>h)
   ·rw[κ j]
    have s:q0n e x=false:=by simpa using j
    rw[s] at b;have u:¬i<lbE l x:=of_decide_eq_false b.symm;simp only;omega
  ·rw[κ hm]
   exact q7t x q r (i+1) lo d (by omega) h1 (by omega) (fun h=>by omega) (fun h=>by omega)
theorem q7u{l:List En}(x:En)(b:q1E l):(q0w l.length x 0 (q2p l)).1<=lbE l x/\lbE l x<=(q0w l.length x 0 (q2p l)).2/\(q0w l.length x 0 (q2p l)).2<=(q0w l.length x 0 (q2p l)).1+7/\(q0w l.length x 0 (q2p l)).2<=l.length:=
 q7t x b l 0 0 rfl (υ _) (υ _) (ι _) (fun _=> .inl ⟨rfl,rfl⟩) (fun h=>h)
def q0u(l:List En)(h f t:Int):List En:=l.filter fun e=>decide (e.1=h)&&decide (f<=e.2.1)&&decide (e.2.1<=t)
def inE(h t:Int)(e:En):Bool:=decide (e.1=h)&&decide (e.2.1<=t)
theorem q3v : ∀{l:List En} {h f t:Int},q1E l->(∀e∈l,q3f e=true)->q0u l h f t=(l.drop (lbE l (h,f,0))).takeWhile (inE h t)
 |[],h,f,t,_,_=>rfl
 | a :: r,h,f,t,hs,ho=>by
  obtain⟨v,C⟩:=List.pairwise_cons.1 hs;have F:=okEn_iff.1 (ho a List.mem_cons_self);have u: ∀e∈r,q3f e=true:=fun e he=>ho e (List.mem_cons_of_mem _ he)
  by_cases q:q0n a (h,f,0)=true
  ·have x:lbE (a::r) (h,f,0)=lbE r (h,f,0)+1:=by unfold lbE;rw[List.filter_cons_of_pos (p:=fun e=>q0n e _) q];rfl
   have B:(decide (a.1=h)&&decide (f<=a.2.1)&&decide (a.2.1<=t))=false:=by
    rw[lessE_iff] at q;simp only at q;rw[Bool.and_eq_false_iff,Bool.and_eq_false_iff,decide_eq_false_iff_not,decide_eq_false_iff_not];omega
   rw[x,List.drop_succ_cons,<-q3v C u];unfold q0u;rw[List.filter_cons_of_neg (by rw[B];decide)]
  ·have s:q0n a (h,f,0)=false:=by simpa using q
   have E:¬(a.1<h\/(a.1=h/\(a.2.1<f\/(a.2.1=f/\a.2.2<0)))):=fun k=>by rw[lessE_iff.2 k] at s;cases s
   have x:lbE (a::r) (h,f,0)=0:=by
    have: ∀b∈a::r,¬q0n b (h,f,0)=true:=fun b m d=>by
     rcases List.mem_cons.1 m with rfl|m
     ·exact q d
     ·exact q (q1S (v b m) d)
    unfold lbE;rw[List.filter_eq_nil_iff.2 this];rfl
   rw[x,List.drop_zero];by_cases o:inE h t a=true
   ·have j:=o
    unfold inE at j;rw[Ξ,Φ,Φ] at j;have y:lbE r (h,f,0)=0:=by
     have: ∀b∈r,¬q0n b (h,f,0)=true:=fun b m d=>q (q1S (v b m) d)
     unfold lbE;rw[List.filter_eq_nil_iff.2 this];rfl
    have D:=q3v (h:=h) (f:=f) (t:=t) C u;rw[y,List.drop_zero] at D;rw[List.takeWhile_cons_of_pos o,<-D];unfold q0u;rw[List.filter_cons_of_pos (by simp only[Ξ,Φ];omega)]
   ·rw [List.takeWhile_cons_of_neg o]
    have j:¬(a.1=h/\a.2.1<=t):=fun k=>o (by unfold inE;simp only[Ξ,Φ];exact k)
    unfold q0u;refine List.filter_eq_nil_iff.2 fun b m d=>?_
    simp only[Ξ,Φ] at d;rcases List.mem_cons.1 m with rfl|m
    ·omega
    ·have:=lessE_iff.1 (v b m)
     omega
def q3H(l:List En)(h t:Int):Option En:=(l.filter (inE h t)).getLast?
theorem z6r{l:List En}{h t:Int}(D:q1E l)(N: ∀e∈l,q3f e=true):q3H l h t=if lbE l (h,t+1,0)=0 then none else match l[lbE l (h,t+1,0)-1]? with
  |none=>none
  |some e=>if e.1=h then some e else none:=by
 obtain⟨n,C⟩: ∃n,lbE l (h,t+1,0)=n:=⟨_,rfl⟩
 have B:=q4g l (h,t+1,0);rw[C] at B⊢;have m:l=l.take n++l.drop n:=(List.take_append_drop _ _).symm;have r:(l.drop n).filter (inE h t)=[]:=by
  refine List.filter_eq_nil_iff.2 fun b v d=>?_
  obtain⟨i,G⟩:=List.getElem?_of_mem v;rw[List.getElem?_drop] at G;have s:=q3s (h,t+1,0) D G;rw[C] at s;have J:q0n b (h,t+1,0)=false:=by rw[s];simp
  unfold inE at d;simp only[Ξ,Φ] at d;have F:q0n b (h,t+1,0)=true:=by rw[lessE_iff];simp only;omega
  rw[J] at F;cases F
 unfold q3H
 conv=>lhs;rw[m]
 rw[List.filter_append,r,List.append_nil];by_cases E:n=0
 ·subst E;rfl
 rw[κ E];obtain⟨e,he⟩: ∃e,l[n-1]? =some e:=⟨l[n-1],γ (by omega)⟩
 rw[he];have u:l.take n=l.take (n-1)++[e]:=by
  obtain⟨M,y⟩:=List.getElem?_eq_some_iff.1 he;have:=List.take_succ_eq_append_getElem M;rw[y,show n-1+1=n by omega] at this;exact this
 have j:q0n e (h,t+1,0)=true:=by
  have s:=q3s (h,t+1,0) D he;rw[C] at s;rw[s];simp;omega
 have O:=okEn_iff.1 (N e (List.mem_of_getElem? he));rw[lessE_iff] at j;simp only at j;rw[u,List.filter_append];show(_++[e].filter (inE h t)).getLast? =(if e.1=h then some e else none);by_cases x:e.1=h
 ·have o:inE h t e=true:=by unfold inE;simp only[Ξ,Φ];omega
  rw[ξ x,List.filter_cons_of_pos o];simp
 ·have o:¬inE h t e=true:=fun k=>by unfold inE at k;simp only[Ξ,Φ] at k;exact x k.1
  have q:(l.take (n-1)).filter (inE h t)=[]:=by
   refine List.filter_eq_nil_iff.2 fun b v d=>?_
   unfold inE at d;simp only[Ξ,Φ] at d;have I:(l.take n).Pairwise fun a b=>q0n a b=true:=D.sublist (List.take_sublist _ _)
   rw[u] at I;have:=(List.pairwise_append.1 I).2.2 b v e (by simp);rw[lessE_iff] at this;omega
  rw[κ x,List.filter_cons_of_neg o,q]
  rfl
def en0 :En:=(0,0,0)
def ec(e:En):List Value:=[.int .u64 e.1,.int .i64 e.2.1,.int .i64 e.2.2]
def enV(e:En):Value:= .agg (ec e).toArray
def ecs(L:List En):List Value:=L.flatMap ec
theorem q1g(L:List En):(ecs L).length=L.length*3:=by
 induction L with
 |nil=>rfl
 |cons k L ih=>unfold ecs at ih⊢;rw[List.flatMap_cons,θ,ih,χ];simp[ec];omega
theorem z3Y(L:List En)(e:En):ecs (L++[e])=ecs L++ec e:=by unfold ecs;simp
theorem q3J(L M:List En):ecs (L++M)=ecs L++ecs M:=by unfold ecs;simp
theorem q4r(e:En)(L:List En):ecs (e::L)=ec e++ecs L:=rfl
theorem z3X : ∀(L:List En) (i j:Nat),i<L.length->j<3->(ecs L)[i*3+j]? =(ec (L.getD i en0))[j]?
 |[],i,j,h,_=>by simp at h
 | k::L,0,j,_,hj=>by
  rw[q4r,List.getElem?_append_left (by simp[ec];omega)];simp
 | k::L,i+1,j,h,hj=>by
  rw[q4r,List.getElem?_append_right (by simp[ec];omega),show(i+1)*3+j-(ec k).length=i*3+j from by simp[ec];omega,z3X L i j (by simpa using h) hj];simp
theorem q4D(L:List En): ∀u∈ecs L,u.oneCell'=true:=fun u d=>by
 unfold ecs at d;obtain⟨f,_,b⟩:=List.mem_flatMap.1 d;unfold ec at b;simp only[List.mem_cons,List.not_mem_nil,or_false] at b;rcases b with rfl|rfl|rfl<;>rfl
structure Ens(w:World)(ao:Option Addr)(n cap:Nat)(L:List En):Prop where
 len:L.length=n
 fits:n<=cap
 bound:cap<=9223372036854775807
 nil:ao=none->cap=0
 rd:Rd w ao (ecs L)
theorem Ens.ext{w':World}{L:List En}(h:Ens w ao n cap L)(k:Ext w w'):Ens w' ao n cap L:=⟨h.len,h.fits,h.bound,h.nil,h.rd.ext k⟩
theorem Ens.at{L:List En}(h:Ens w ao n cap L)(r:i<n):
  ∃b off,ao=some ⟨b,off,none⟩/\w.cell? ⟨b,off+i*3,none⟩=some (.int .u64 (L.getD i en0).1)/\w.cell? ⟨b,off+i*3+1,none⟩=some (.int .i64 (L.getD i en0).2.1)/\w.cell? ⟨b,off+i*3+2,none⟩=some (.int .i64 (L.getD i en0).2.2):=by
 have s:=h.len;have k0:=z3X L i 0 (by omega) (by decide);have k1:=z3X L i 1 (by omega) (by decide);have q:=z3X L i 2 (by omega) (by decide);obtain⟨b,off,rfl,l⟩:=h.rd _ _ k0;obtain⟨_,_,d,m⟩:=h.rd _ _ k1
 cases d;obtain⟨_,_,j,o⟩:=h.rd _ _ q
 cases j;exact⟨b,off,rfl,l,m,o⟩
theorem Ens.of_own{B:Nat}{e:TypeId}{v:Value}{L:List En}(h:Own w B e 3 v L.length (ecs L)): ∃ao cap,v= .slice ao L.length cap/\Ens w ao L.length cap L:=by
 obtain⟨ao,cap,rfl,b,d,j,l⟩:=h.rd;exact⟨ao,cap,rfl,rfl,b,d,j,l⟩
theorem Ens.cut{L:List En}(h:Ens w ao n cap L){k:Nat}(b:k<=n):Ens w ao k cap (L.take k):=
 ⟨by rw[Θ,h.len];omega,Ω b h.fits,h.bound,h.nil,by
  have:=h.rd.take (k*3);have e:(ecs L).take (k*3)=ecs (L.take k):=by
   conv=>lhs;rw[<-List.take_append_drop k L,q3J]
   exact List.take_left' (by rw[q1g,Θ,h.len];omega)
  rwa [e] at this⟩
def y3n(h:Int):Int:=bits .or .u64 (IntKind.u64.wrap (h*140737488355328)) (h/131072)
theorem y2l(w:World)(h:Int):Calls Tryz.prog 349 #[.int .u64 h,.int .i64 (-17)] w fun r w'=>r= .returned (.int .u64 (y3n h))/\w=w':=by
 have b:IntKind.u64.wrap (-17)=18446744073709551599:=by kernel_rfl
 have d:bits .and .u64 18446744073709551599 63=47:=by kernel_rfl
 have j:IntKind.u64.wrap (64-47)=17:=by kernel_rfl
 go_enter Tryz.func349,Tryz.ntmps349;go_wp2_with fail;go_ret;exact⟨rfl,rfl⟩
def y1W(h:Int):Int:=bits .or .u64 (y3n h) 1
theorem y0m(w:World)(h:Int):Calls Tryz.prog 340 #[.int .u64 h] w fun r w'=>r= .returned (.int .u64 (y1W h))/\w=w':=by
 have b:=η (fun W=>y2l W h);go_enter Tryz.func340,Tryz.ntmps340;go_wp2_with fail;refine(b.o _).mono ?_;rintro e w1 ⟨rfl,rfl⟩;go_wp2_with fail;go_ret;exact⟨rfl,rfl⟩
def q6n(h i b:Int):Int:=IntKind.u64.wrap (h+IntKind.u64.wrap (i*y1W h)) % b
theorem z1S(h i b:Int)(d:1<=b):0<=q6n h i b/\q6n h i b<b:=⟨Int.emod_nonneg _ (by omega),Int.emod_lt_of_pos _ (by omega)⟩
theorem y1N(w:World)(h:Int)(i b:Nat)(J:i<=1000000)(I:1<=b)(v:b<=1000000):Calls Tryz.prog 323 #[.int .u64 h,.int .i64 (i:Int),.int .i64 (b:Int)] w fun r w'=>r= .returned (.int .i64 (q6n h i b))/\w=w':=by
 have s:=η (fun W=>y0m W h);have x:¬((b:Int)<1):=by omega
 have y:¬((i:Int)<0):=by omega
 have B:IntKind.u64.wrap (i:Int)=(i:Int):=by rw[IntKind.wrap_u64];omega
 have C:IntKind.u64.wrap (b:Int)=(b:Int):=by rw[IntKind.wrap_u64];omega
 obtain⟨T,m⟩: ∃T,IntKind.u64.wrap (h+IntKind.u64.wrap ((i:Int)*y1W h))=T:=⟨_,rfl⟩
 have j:0<=T/\T<18446744073709551616:=by rw[<-m,IntKind.wrap_u64];omega
 have u:Int.tmod T (b:Int)=T % (b:Int):=Int.tmod_eq_emod_of_nonneg j.1;have q:=z1S h i b (by omega);have d:Hd (q6n h i b=T % (b:Int)):=η (by unfold q6n;rw[m]);rw[d.o] at q;obtain⟨z,l⟩: ∃z,T % (b:Int)=z:=⟨_,rfl⟩
 rw[l] at q d;have D:IntKind.u64.wrap z=z:=by rw[IntKind.wrap_u64];omega
 have E:IntKind.i64.wrap z=z:=by rw[ν];omega
 have F:((b:Int)==0)=false:=by simp;omega
 have G:¬((b:Int)=0):=by omega
 rw[l] at u;clear l;rw[d.o];go_enter Tryz.func323,Tryz.ntmps323;go_wp2_with fail;refine(s.o _).mono ?_;rintro e w1 ⟨rfl,rfl⟩;go_wp2_with fail;go_ret;exact⟨rfl,rfl⟩
theorem z6h{s:List UInt8}{e:En}(h:z0X s=some e):s=q4X e/\q3f e=true:=by
 unfold z0X at h
 split at h
 ·rename_i hc
  obtain⟨q,r,u⟩:=hc;have he:=(Option.some.inj h).symm;subst he;have b1:=q2O (s.take 8);rw[Θ,Nat.min_eq_left (by omega)] at b1;refine⟨?_,okEn_iff.2 (by simp only;omega)⟩;have l:(s.take 8).length=8:=by simp;omega
  have m:((s.drop 8).take 8).length=8:=by simp;omega
  have o:(s.drop 16).length=8:=by simp;omega
  have b:=q9R (s.take 8);have d:=q9R ((s.drop 8).take 8);have j:=q9R (s.drop 16);rw[l] at b;rw[m] at d;rw[o] at j;unfold q4X;simp only[Int.toNat_natCast];rw[b,d,j];have:s.drop 16=(s.drop 8).drop 8:=by rw[List.drop_drop]
  rw[this,List.take_append_drop,List.take_append_drop]
 ·cases h
theorem q8p : ∀(f:Nat) (s:List UInt8) (l:List En),q2W f s=some l->s=(l.map q4X).flatten/\ ∀e∈l,q3f e=true
 |0,s,l,h=>by cases h
 | f + 1, s,l,h=>by
  unfold q2W at h
  split at h
  ·rename_i q
   cases h;exact⟨by rw[q];rfl,fun e he=>by cases he⟩
  ·cases hg:z0X (s.take 24) with
   |none=>rw[hg] at h;cases h
   | some e=>
    rw[hg] at h;simp only at h
    cases hr:q2W f (s.drop 24) with
    |none=>rw[hr] at h;cases h
    | some r=>
     rw[hr] at h;obtain⟨d,j⟩:=q8p f _ _ hr;have he:e::r=l:=by simpa using h
     subst he;obtain⟨m,o⟩:=z6h hg;refine⟨?_,fun x b=>?_⟩
     ·rw[List.map_cons,List.flatten_cons,<-m,<-d,List.take_append_drop]
     ·rcases List.mem_cons.1 b with rfl|b
      ·exact o
      ·exact j x b
theorem q7j{s:List UInt8}{l:List En}(h:q8q s=some l):s=q9H l/\q1E l/\(∀e∈l,q3f e=true)/\l.length<4294967296:=by
 unfold q8q at h
 split at h
 ·rename_i hc
  obtain⟨j,E,u,q⟩:=hc
  cases hg:q2W (s.length+1) ((s.take (s.length-4)).drop 8) with
  |none=>rw[hg] at h;cases h
  | some l'=>
   rw[hg] at h;simp only at h
   split at h
   ·rename_i B
    have:=Option.some.inj h;subst this;obtain⟨m,v⟩:=q8p _ _ _ hg;have b:=q4F l';rw[<-m] at b;rw[b] at q;obtain⟨t,d⟩: ∃t,s.take (s.length-4)=t:=⟨_,rfl⟩
    have lt:t.length=s.length-4:=by rw[<-d];simp
    rw[d] at q m b;have r:((t.drop 4).take 4).length=4:=by simp;omega
    have b4:=q2O ((t.drop 4).take 4);rw[r] at b4;have y:q1O ((t.drop 4).take 4)=l'.length:=by omega
    have o:=q9R ((t.drop 4).take 4);rw[r,y] at o;have x:t=z4N l':=by
     unfold z4N;rw[o,<-m];have C:s.take 4=t.take 4:=by rw[<-d,List.take_take];congr 1;omega
     rw[<-u,C];have D:t.drop 8=(t.drop 4).drop 4:=by rw[List.drop_drop]
     rw[D,List.take_append_drop,List.take_append_drop]
    refine⟨?_,(q3W _).1 B,v,by omega⟩;unfold q9H;rw[<-x,<-d];unfold q2L at j;simp at j;exact j.2.symm
   ·cases h
 ·cases h
theorem z8y{s:List UInt8}{L:List En}(h:q8q s=some L)(d:s.length<=1048576):L.length<=50000:=by
 obtain⟨b,_⟩:=q7j h;have:=q5Z L;rw[<-b] at this;omega
theorem y0l{L:List En}(d: ∀e∈L,q3f e=true)(b:i<L.length):z0X (((q9H L).drop (8+24*i)).take 24)=some L[i]:=by
 rw[y2p (γ b)];exact z3h (d _ (List.getElem_mem b))
end
end Go.Proofs.YtfiibpgoplcgkaaGreatDoor
