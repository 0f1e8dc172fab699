/- Walks. -/
import Derived.Test.YteabhdclmodefaaGreatDoorChecked
import Derived.Test.YteabhdclmodefaaGreatDoorG2CX
import Derived.Laws.FloatArith
set_option linter.unusedVariables false
set_option linter.unusedSimpArgs false
set_option maxRecDepth 100000
set_option maxHeartbeats 6400000
namespace Go.Proofs.YteabhdclmodefaaGreatDoor
variable {i n cap:Nat}{w:World}{ao:Option Addr}
section
open Go.RowKit
theorem Tryz.infoU8 :(Tryz.prog.info? 5).map (fun i=>(i.zero,i.size,i.bytes))=some (some (.int .u8 0),1,1):=by kernel_rfl
theorem q7U(X:Int)(n:Nat)(w:World)(h1:1<=n)(h8:n<=8)(U:0<=X)(hX:X<18446744073709551616):
  Calls Tryz.prog 29 #[.int .u64 X,.int .i64 n] w fun e w'=>e= .returned (.string ⟨(be n X.toNat).toArray⟩)/\Ext w w':=by
 obtain⟨i,M,O,d,C⟩:=info_parts Tryz.infoU8;have v:X=(X.toNat:Int):=by omega
 have I:=η v;clear v;generalize X.toNat=x at*;go_enter Tryz.func29,Tryz.ntmps29
 go_wp2_with (at_make;refine wpList_make_full _ rfl _ _ 31 rfl w.heap.size 5 i (.int .u8 0) 1 Tryz.underlying31 M O d .i64 .i64 _ _ n rfl rfl rfl rfl (by rw[C];omega) (by unfold maxLen;omega) (ι _) ?_;intro V l J)
 clear M O d C;have b:=Own.of_row l;rw[Nat.mul_one,show(madeCells (Value.int .u8 0).cells n).toList=List.replicate n (.int .u8 0) from toList_madeCells_one _ _] at b;have y:Ext w V:=(Ext.refl w).grown J (ι _) (fun k N=>by cases N);have G:=η b;have s:=η y;clear l J b y
 go_loopw [16] (fun i w'=> ∃k:Nat,k<=n/\i= .int .i64 k/\Own w' w.heap.size 5 1 (.slice (some ⟨w.heap.size,0,none⟩) n n) n (List.replicate (n-k) (.int .u8 0)++(be k x).map q1H)/\Ext w w') (fun i _=>n-(intOf i).toNat)
 case atStart=>exact⟨0,υ _,rfl,by simpa [be] using G.o,s.o⟩
 case round=>
  clear G s;obtain⟨k,N,rfl,b,E⟩:=hrel;have R:=η E;have G:=η b;by_cases S:k<n
  ·obtain⟨g,c,u,e,W,Y,Z⟩:=b.cellE (j:=n-1-k) (by omega)
   cases e;have q:=b.stored (g:=w.heap.size) (cap:=n) rfl (j:=n-1-k) (.int .u8 ((UInt8.ofNat (x/256^k)).toNat:Int));have m:(List.replicate (n-k) (Value.int .u8 0)++(be k x).map q1H).set (n-1-k) (.int .u8 ((UInt8.ofNat (x/256^k)).toNat:Int))=List.replicate (n-(k+1)) (.int .u8 0)++(be (k+1) x).map q1H:=by
    rw[show n-k=(n-(k+1))+1 from by omega,show n-1-k=n-(k+1) from by omega,z9r]
    rfl
   rw[m,<-z8H,<-I.o] at q;have B:=E.setCell (p:=⟨w.heap.size,n-1-k,none⟩) (ι _) (.int .u8 (X/2^(8*k) % 256));have Q:=η q;have F:=η B;clear b E q m B;go_wp2_with fail
   go_roundw
   case rel=>exact⟨k+1,by omega,by go_num,Q.o,F.o⟩
   case measure=>simp[intOf];omega
  ·have D:k=n:=by omega
   rw[D,Nat.sub_self,List.replicate_zero,List.nil_append] at b;have hcv:=q2g (P:=Tryz.prog) wr 31 9 5 (a:=⟨w.heap.size,0,none⟩) (n:=n) (cap:=n) Tryz.underlying31 Tryz.underlying5 Tryz.underlying9 (q0F n x) (by obtain⟨_,_,e,_,_,_,r⟩:=b.rd;cases e;exact r);clear D b E;go_wp2_with fail;go_ret;exact⟨rfl,R.o⟩
theorem z3F(X:Int)(n:Nat)(w:World)(h1:1<=n)(O:n<=8)(x:0<=X)(G:X<18446744073709551616):
  Calls Tryz.prog 36 #[.int .u64 X,.int .i64 n] w fun e w'=>e= .returned (.string ⟨(be n X.toNat).toArray⟩)/\Ext w w':=by
 go_enter Tryz.func36,Tryz.ntmps36;go_wp2_with fail
 go_loopw [0,5,6] (fun v s i w'=> ∃(k:Nat) (Z:Int),k<=n/\i= .int .i64 k/\v= .int .u64 Z/\0<=Z/\Z<18446744073709551616/\Z.toNat=X.toNat/256^k/\s= .string ⟨(be k X.toNat).toArray⟩/\Ext w w') (fun _ _ i _=>n-(intOf i).toNat)
 case atStart=>exact⟨0,X,υ _,rfl,rfl,x,G,by simp,rfl,Ext.refl _⟩
 case round=>
  obtain⟨k,Z,Q,rfl,rfl,M,N,q,rfl,E⟩:=hrel;have C:=η E;have B:=η q;clear E q;have I:(be k X.toNat).length<=8:=by rw[q0F];omega
  generalize D:be k X.toNat=L at*;have y:=η D;clear D;by_cases J:k<n
  ·have j:Z % 256=((UInt8.ofNat (X.toNat/256^k)).toNat:Int):=by
    rw[<-B.o,UInt8.toNat_ofNat'];omega
   have hcv:=z4Q (P:=Tryz.prog) wr 31 9 5 (Z % 256) _ Tryz.underlying31 Tryz.underlying5 Tryz.underlying9 j;have d:be (k+1) X.toNat=UInt8.ofNat (X.toNat/256^k)::L:=by rw[<-y.o];rfl
   have r:=η d;have m:(Z/256).toNat=X.toNat/256^(k+1):=by rw[Nat.pow_succ,<-Nat.div_div_eq_div_mul,<-B.o];omega
   have u:=η m;clear j d m;generalize UInt8.ofNat (X.toNat/256^k)=b at*;go_wp2_with fail
   go_roundw
   case rel=>exact⟨k+1,Z/256,by omega,by go_num,rfl,by omega,by omega,u.o,by rw[r.o];simp[ByteArray.mk_append_mk],C.o.alloc _⟩
   case measure=>simp[intOf];omega
  ·have l:k=n:=by omega
   have F:=η l;clear l;go_wp2_with fail;go_ret;exact⟨by rw[<-F.o,y.o];rfl,C.o⟩
theorem z1k(X N:Int)(k:Nat)(w:World)(d:N=(k:Int))(h1:1<=N)(l:N<=8)(b:0<=X)(j:X<18446744073709551616):
  Calls Tryz.prog 29 #[.int .u64 X,.int .i64 N] w fun e w'=>e= .returned (.string ⟨(be k X.toNat).toArray⟩)/\Ext w w':=by
 subst d;exact q7U X k w (by omega) (by omega) b j
theorem y1G(x:Nat)(N:Int)(k:Nat)(w:World)(d:N=(k:Int))(h1:1<=N)(b:N<=8)(j:(x:Int)<18446744073709551616):
  Calls Tryz.prog 29 #[.int .u64 (x:Int),.int .i64 N] w fun e w'=>e= .returned (.string ⟨(be k x).toArray⟩)/\Ext w w':=by
 have h:=z1k (x:Int) N k w d h1 b (by omega) j
 rwa [Int.toNat_natCast] at h
theorem z8O(X N:Int)(k:Nat)(w:World)(d:N=(k:Int))(h1:1<=N)(l:N<=8)(b:0<=X)(j:X<18446744073709551616):
  Calls Tryz.prog 36 #[.int .u64 X,.int .i64 N] w fun e w'=>e= .returned (.string ⟨(be k X.toNat).toArray⟩)/\Ext w w':=by
 subst d;exact z3F X k w (by omega) (by omega) b j
theorem q7u(l:List UInt8)(w:World)(J:l.length<=9223372036854775807):
  Calls Tryz.prog 45 #[.string ⟨l.toArray⟩] w fun e w'=>e= .returned (.int .u64 (q0o (l.take 8)))/\Ext w w':=by
 obtain⟨m,hm⟩: ∃m:Nat,m=min l.length 8:=⟨_,rfl⟩
 have d:(if (8:Int)<(l.length:Int) then(8:Int) else(l.length:Int))=(m:Int):=by split<;>omega
 have F:m<=l.length:=by omega
 have G:m<=8:=by omega
 have j:l.take 8=l.take m:=by
  rw[hm];rcases Nat.le_total l.length 8 with h|h
  ·rw[Nat.min_eq_left h,Δ h,List.take_length]
  ·rw[Nat.min_eq_right h]
 have q:=η j;clear hm j;go_enter Tryz.func45,Tryz.ntmps45;go_wp2_with fail;clear d
 go_loopw [3,8] (fun v i w'=> ∃(k:Nat) (Z:Int),k<=m/\i= .int .i64 k/\v= .int .u64 Z/\Z=(q0o (l.take k):Int)/\Ext w w') (fun _ i _=>m-(intOf i).toNat)
 case atStart=>exact⟨0,0,υ _,rfl,rfl,rfl,Ext.refl _⟩
 case round=>
  obtain⟨k,Z,I,rfl,rfl,s,C⟩:=hrel;have B:=η C;have y:=η s;clear C;by_cases E:k<m
  ·have u:0<=Z:=by omega
   have x:Z<72057594037927936:=by
    have h1:=q1Q (l.take k);have h2:(l.take k).length=k:=by simp;omega
    rw[h2] at h1;have h3:(256:Nat)^k<=256^7:=Nat.pow_le_pow_right (by decide) (by omega);omega
   clear s;have r:k<l.length:=by omega
   go_wp2_with fail
   go_roundw
   case rel=>exact⟨k+1,_,by omega,by go_num,rfl,by
    have e:=z2F Z l[k] u x;rw[show((⟨l.toArray⟩:ByteArray)[k])=l[k] from rfl,e,y.o,List.take_succ_eq_append_getElem r,z0j]
    omega,B.o⟩
   case measure=>simp[intOf];omega
  ·have b:k=m:=by omega
   have D:=η b;clear b s;go_wp2_with fail;go_ret;exact⟨rn (by rw[q.o,y.o,D.o]),B.o⟩
theorem z3E(l:List UInt8)(w:World)(U:l.length<=9223372036854775807):
  Calls Tryz.prog 49 #[.string ⟨l.toArray⟩] w fun e w'=>e= .returned (.int .u64 (q0o (l.take 8)))/\Ext w w':=by
 obtain⟨m,hm⟩: ∃m:Nat,m=min l.length 8:=⟨_,rfl⟩
 have N:m<=l.length:=by omega
 have O:m<=8:=by omega
 have q:m<8->l.length<=m:=by omega
 have y:=η q;have r:l.take 8=l.take m:=by
  rw[hm];rcases Nat.le_total l.length 8 with h|h
  ·rw[Nat.min_eq_left h,Δ h,List.take_length]
  ·rw[Nat.min_eq_right h]
 have d:=η r;clear hm r q;go_enter Tryz.func49,Tryz.ntmps49;go_wp2_with fail
 go_loopw [3,4] (fun v i w'=> ∃(k:Nat) (Z:Int),k<=m/\i= .int .i64 k/\v= .int .u64 Z/\Z=(q0o (l.take k):Int)/\Ext w w') (fun _ i _=>m-(intOf i).toNat)
 case atStart=>exact⟨0,0,υ _,rfl,rfl,rfl,Ext.refl _⟩
 case round=>
  obtain⟨k,Z,S,rfl,rfl,C,D⟩:=hrel;have u:=η D;have s:=η C;clear D;by_cases M:k<m
  ·have Q:0<=Z:=by omega
   have R:Z<72057594037927936:=by
    have h1:=q1Q (l.take k);have h2:(l.take k).length=k:=by simp;omega
    rw[h2] at h1;have h3:(256:Nat)^k<=256^7:=Nat.pow_le_pow_right (by decide) (by omega);omega
   clear C;have j:k<l.length:=by omega
   have B:k<8:=by omega
   have I:(l[k].toNat:Int)<256:=by have:=l[k].toNat_lt;omega
   have E:0<=(l[k].toNat:Int):=by omega
   have V:IntKind.u64.wrap (((⟨l.toArray⟩:ByteArray)[k]).toNat:Int)=(l[k].toNat:Int):=by
    rw[show((⟨l.toArray⟩:ByteArray)[k])=l[k] from rfl,IntKind.wrap_u64];omega
   have F:Hd (Z*256+(l[k].toNat:Int)=(q0o (l.take (k+1)):Int)):=η (by
    rw[s.o,List.take_succ_eq_append_getElem j,z0j];omega)
   generalize (l[k].toNat:Int)=Y at*;go_wp2_with fail
   go_roundw
   case rel=>exact⟨k+1,_,by omega,by go_num,rfl,F.o,u.o⟩
   case measure=>simp[intOf];omega
  ·have b:k=m:=by omega
   have x:=η b;clear C;by_cases G:m<8
   ·have:=y.o G
    have J:¬k<l.length:=by omega
    clear b this;go_wp2_with fail;go_ret;exact⟨rn (by rw[d.o,s.o,x.o]),u.o⟩
   ·have B:¬k<8:=by omega
    by_cases j:k<l.length
    ·clear b
     go_wp2_with fail;go_ret;exact⟨rn (by rw[d.o,s.o,x.o]),u.o⟩
    ·clear b
     go_wp2_with fail;go_ret;exact⟨rn (by rw[d.o,s.o,x.o]),u.o⟩
theorem y1O(s:BitVec 32)(c:UInt8)(S C:Int)(w:World)(u:S=(s.toNat:Int))(r:C=(c.toNat:Int)):
  Calls Tryz.prog 181 #[.int .u32 S,.int .u8 C] w fun e w'=>e= .returned (.int .u32 ((q1Z s c).toNat:Int))/\Ext w w':=by
 have l:=q3e s (BitVec.ofNat 32 c.toNat);rw[z8z,<-u,<-r] at l;have D:=η l;have b1:0<=S:=by omega
 have b2:S<4294967296:=by have:=s.isLt;omega
 have b3:0<=C:=by omega
 have b4:C<256:=by have:=c.toNat_lt;omega
 clear u r l;go_enter Tryz.func181,Tryz.ntmps181;go_wp2_with fail
 go_loopw [0,9] (fun v i w'=> ∃(k:Nat) (V:Int),k<=8/\i= .int .i64 k/\v= .int .u32 V/\V=((q4F k (s^^^BitVec.ofNat 32 c.toNat)).toNat:Int)/\Ext w w') (fun _ i _=>8-(intOf i).toNat)
 case atStart=>exact⟨0,_,υ _,rfl,rfl,D.o,Ext.refl _⟩
 case round=>
  obtain⟨k,V,F,rfl,rfl,y,x⟩:=hrel;have m:=η y;have q:=η x;have v1:0<=V:=by omega
  have G:V<4294967296:=by have:=(q4F k (s^^^BitVec.ofNat 32 c.toNat)).isLt;omega
  clear y x;by_cases E:k<8
  ·have b:=z9x (q4F k (s^^^BitVec.ofNat 32 c.toNat))
   rw[<-m.o] at b;have j:=η b;clear b;go_wp2_with fail
   go_roundw
   case rel=>exact⟨k+1,_,by omega,by go_num,rfl,j.o,q.o⟩
   case measure=>simp[intOf];omega
  ·have d:k=8:=by omega
   have B:=η d;clear d;go_wp2_with fail;go_ret;exact⟨rn (by rw[m.o,B.o];rfl),q.o⟩
theorem y0r(l:List UInt8)(w:World)(D:l.length<=9223372036854775807):
  Calls Tryz.prog 128 #[.int .u32 0,.string ⟨l.toArray⟩] w fun e w'=>e= .returned (.int .u32 ((q0d l).toNat:Int))/\Ext w w':=by
 go_enter Tryz.func128,Tryz.ntmps128;go_wp2_with fail
 go_loopw [5,11] (fun v i w'=> ∃(k:Nat) (V:Int),k<=l.length/\i= .int .i64 k/\v= .int .u32 V/\V=(((l.take k).foldl q1Z (~~~0#32)).toNat:Int)/\Ext w w') (fun _ i _=>l.length-(intOf i).toNat)
 case atStart=>exact⟨0,_,υ _,rfl,rfl,rfl,Ext.refl _⟩
 case round=>
  obtain⟨k,V,C,rfl,rfl,x,s⟩:=hrel;have q:=η x;have r:=η s;have v1:0<=V:=by omega
  have E:V<4294967296:=by have:=((l.take k).foldl q1Z (~~~0#32)).isLt;omega
  clear x s;by_cases m:k<l.length
  ·go_wp2_with fail
   refine(y1O _ l[k] _ _ _ q.o rfl).mono ?_;rintro e w1 ⟨rfl,b⟩;have j:=η (r.o.trans b);clear b;have u:(l.take (k+1)).foldl q1Z (~~~0#32)=q1Z ((l.take k).foldl q1Z (~~~0#32)) l[k]:=by
    rw[List.take_succ_eq_append_getElem m,List.foldl_append];rfl
   have y:=η u;clear u;generalize q1Z ((l.take k).foldl q1Z (~~~0#32)) l[k]=T at*;go_wp2_with fail
   go_roundw
   case rel=>exact⟨k+1,_,by omega,by go_num,rfl,by rw[y.o],j.o⟩
   case measure=>simp[intOf];omega
  ·have d:l.take k=l:=Δ (by omega)
   have B:=η d;clear d;go_wp2_with fail;go_ret;exact⟨rn (by rw[q.o,B.o,y1A];rfl),r.o⟩
theorem z9z(l:List UInt8)(w:World)(j:l.length<=9223372036854775807):
  Calls Tryz.prog 80 #[.string ⟨l.toArray⟩] w fun e w'=>e= .returned (.int .u32 ((q0d l).toNat:Int))/\Ext w w':=by
 go_enter Tryz.func80,Tryz.ntmps80;go_wp2_with fail;refine(y0r l _ j).mono ?_;rintro e w1 ⟨rfl,b⟩;have d:=η b;clear b;go_wp2_with fail;go_ret;exact⟨rfl,d.o⟩
def q7J(s:BitVec 32):List UInt8:=(be 4 s.toNat).reverse
theorem be4(x:Nat):be 4 x=[UInt8.ofNat (x/16777216),UInt8.ofNat (x/65536),UInt8.ofNat (x/256),UInt8.ofNat x]:=by
 simp[be]
theorem z9X(s:BitVec 32)(S:Int)(w:World)(M:S=(s.toNat:Int)):
  Calls Tryz.prog 79 #[.int .u32 S] w fun e w'=>e= .returned (.string ⟨(q7J s).toArray⟩)/\Ext w w':=by
 have b1:0<=S:=by omega
 have b2:S<4294967296:=by have:=s.isLt;omega
 have q:S.toNat=s.toNat:=by omega
 have B:=η q;clear M q;go_enter Tryz.func79,Tryz.ntmps79;go_wp2_with fail;refine(q7U S 4 _ (by omega) (by omega) b1 (by omega)).mono ?_;rw[be4,B.o];rintro e w1 ⟨rfl,I⟩;have C:=η I;clear I;have j:q7J s=[UInt8.ofNat s.toNat,UInt8.ofNat (s.toNat/256),UInt8.ofNat (s.toNat/65536),UInt8.ofNat (s.toNat/16777216)]:=by
  unfold q7J;rw[be4];rfl
 have m:=η j;clear j;generalize UInt8.ofNat (s.toNat/16777216)=c0 at*;generalize UInt8.ofNat (s.toNat/65536)=c1 at*;generalize UInt8.ofNat (s.toNat/256)=c2 at*;generalize UInt8.ofNat s.toNat=c3 at*;have r:=fun w s=>run_bytes_of_string (P:=Tryz.prog) w 9 31 5 s Tryz.underlying9 Tryz.underlying31 Tryz.underlying5
 go_wp2_with fail;obtain⟨d,b,hex⟩:=q6o w1 5 [c0,c1,c2,c3] (grownCap w1 4 0 5);have x:=η (C.o.trans hex);clear hex r;generalize (w1.alloc (Obj.cells (bytesRow {data:=#[c0,c1,c2,c3]} (grownCap w1 4 0 5)) 5 ((bytesRow {data:=#[c0,c1,c2,c3]} (grownCap w1 4 0 5)).size,(bytesRow {data:=#[c0,c1,c2,c3]} (grownCap w1 4 0 5)).size+1))).drew=W at*;have D:W.cell? ⟨w1.heap.size,0,none⟩=some (.int .u8 (c0.toNat:Int)):=by obtain⟨_,_,e,h⟩:=d 0 _ rfl;cases e;exact h
 have E:W.cell? ⟨w1.heap.size,1,none⟩=some (.int .u8 (c1.toNat:Int)):=by obtain⟨_,_,e,h⟩:=d 1 _ rfl;cases e;exact h
 have F:W.cell? ⟨w1.heap.size,2,none⟩=some (.int .u8 (c2.toNat:Int)):=by obtain⟨_,_,e,h⟩:=d 2 _ rfl;cases e;exact h
 have G:W.cell? ⟨w1.heap.size,3,none⟩=some (.int .u8 (c3.toNat:Int)):=by obtain⟨_,_,e,h⟩:=d 3 _ rfl;cases e;exact h
 have N:=b 0 (by simp);have O:=b 1 (by simp);have Q:=b 2 (by simp);have R:=b 3 (by simp);have v:Hd (w.heap.size<=w1.heap.size):=η C.o.size;generalize w1.heap.size=g at*;clear d b;have u:=z9m D E F G (q1H c3) (q1H c2) (q1H c1) (q1H c0);have hcv:=q2g (P:=Tryz.prog) _ 31 9 5 (n:=4) (l:=[c3,c2,c1,c0]) (cap:=grownCap w1 4 0 5) Tryz.underlying31 Tryz.underlying5 Tryz.underlying9 rfl u;have y:=η hcv;have J:Hd (Below w.heap.size w ((((W.setCell ⟨g,0,none⟩ (q1H c3)).setCell ⟨g,1,none⟩ (q1H c2)).setCell ⟨g,2,none⟩ (q1H c1)).setCell ⟨g,3,none⟩ (q1H c0)).drew):=
  η (((((x.o.setCell (p:=⟨g,0,none⟩) v.o _).setCell (p:=⟨g,1,none⟩) v.o _).setCell (p:=⟨g,2,none⟩) v.o _).setCell (p:=⟨g,3,none⟩) v.o _).drew)
 clear u hcv
 go_region
 have hcv:=y.o;clear D E F G N O Q R;generalize ((((W.setCell ⟨g,0,none⟩ (q1H c3)).setCell ⟨g,1,none⟩ (q1H c2)).setCell ⟨g,2,none⟩ (q1H c1)).setCell ⟨g,3,none⟩ (q1H c0)).drew=W4 at*;go_wp2_with fail;go_ret;exact⟨by rw[m.o];rfl,J.o⟩
def q0W(l:List UInt8):List UInt8:=l++q7J (q0d l)
def q1O(l:List UInt8):Bool:=decide (4<=l.length)&&decide (q0W (l.take (l.length-4))=l)
def q0q(l:List UInt8):List UInt8:=if q1O l then l.take (l.length-4) else []
theorem q4v(s:BitVec 32):(q7J s).length=4:=by simp[q7J,q0F]
theorem q0h(l:List UInt8):(q0W l).length=l.length+4:=by simp[q0W,q4v]
theorem z8D(l:List UInt8)(h:4<=l.length):q1O l=decide (q7J (q0d (l.take (l.length-4)))=l.drop (l.length-4)):=by
 unfold q1O;rw[ζ h,Bool.true_and];have e:l=l.take (l.length-4)++l.drop (l.length-4):=(List.take_append_drop _ _).symm;have :(q0W (l.take (l.length-4))=l)↔(q7J (q0d (l.take (l.length-4)))=l.drop (l.length-4)):=by
  unfold q0W
  constructor
  ·intro h2
   have h3:l.take (l.length-4)++q7J (q0d (l.take (l.length-4)))=l.take (l.length-4)++l.drop (l.length-4):=by rw[h2];exact e
   exact List.append_cancel_left h3
  ·intro h2;rw[h2];exact e.symm
 simp only[this]
theorem q7S(l:List UInt8)(h:l.length<4):q1O l=false:=by
 unfold q1O;rw[ε (by omega)];rfl
theorem z0g(l:List UInt8)(w:World)(r:l.length<=4611686018427387903):
  Calls Tryz.prog 34 #[.string ⟨l.toArray⟩] w fun e w'=>e= .returned (.string ⟨(q0W l).toArray⟩)/\Ext w w':=by
 go_enter Tryz.func34,Tryz.ntmps34;go_wp2_with fail;refine(z9z l _ (by omega)).mono ?_;rintro e w1 ⟨rfl,b⟩;have m:=η b;clear b;go_wp2_with fail;refine(z9X (q0d l) _ _ rfl).mono ?_;rintro e s ⟨rfl,b⟩;have d:=η (m.o.trans b);clear b;have j:=q4v (q0d l);have q:Hd (q0W l=l++q7J (q0d l)):=η rfl;generalize q7J (q0d l)=T at*;go_wp2_with fail;go_ret;exact⟨by rw[q.o];simp[ByteArray.mk_append_mk],d.o⟩
theorem z0S(l:List UInt8)(w:World)(C:l.length<=4611686018427387903):
  Calls Tryz.prog 43 #[.string ⟨l.toArray⟩] w fun e w'=>e= .returned (.tuple #[.string ⟨(q0q l).toArray⟩,.bool (q1O l)])/\Ext w w':=by
 by_cases h4:l.length<4
 ·have s:=q7S l h4
  have v:=η s;clear s;have B:decide ((l.length:Int)<4)=true:=by simp;omega
  go_enter Tryz.func43,Tryz.ntmps43;go_wp2_with fail;refine q0D (by kernel_rfl) (by kernel_rfl) ?_
  repeat (go_big_quiet_step (fail))
  refine wpQuiet_nil ?_;intro x b;have r:=η b;clear b;go_wp2_with fail;go_ret2;exact⟨by rw[q0q,v.o];rfl,r.o⟩
 ·have s:=z8D l (by omega)
  have v:=η s;clear s;have B:decide ((l.length:Int)<4)=false:=by simp;omega
  have y:4<=l.length:=by omega
  have u:(l.take (l.length-4)).length<=9223372036854775807:=by simp;omega
  have q:=η u;clear u;have m:Hd (q0q l=if q1O l then l.take (l.length-4) else []):=η rfl;by_cases d:q7J (q0d (l.take (l.length-4)))=l.drop (l.length-4)
  ·have hq:(q7J (q0d (l.take (l.length-4)))==l.drop (l.length-4))=true:=by rw[beq_iff_eq];exact d
   have j:=η d;clear d;go_enter Tryz.func43,Tryz.ntmps43;go_wp2_with fail;refine q0D (by kernel_rfl) (by kernel_rfl) ?_
   repeat (go_big_quiet_step (first|(go_at_call 80;exact Calls.quiet_ext (z9z _ _ q.o))|(go_at_call 79;exact Calls.quiet_ext (z9X (q0d _) _ _ rfl))))
   refine wpQuiet_nil ?_;intro x b;have r:=η b;clear b;go_wp2_with fail;go_ret2;exact⟨by rw[m.o,v.o,ζ j.o];rfl,r.o⟩
  ·have hq:(q7J (q0d (l.take (l.length-4)))==l.drop (l.length-4))=false:=by rw[beq_eq_false_iff_ne];exact d
   have j:=η d;clear d;go_enter Tryz.func43,Tryz.ntmps43;go_wp2_with fail;refine q0D (by kernel_rfl) (by kernel_rfl) ?_
   repeat (go_big_quiet_step (first|(go_at_call 80;exact Calls.quiet_ext (z9z _ _ q.o))|(go_at_call 79;exact Calls.quiet_ext (z9X (q0d _) _ _ rfl))))
   refine wpQuiet_nil ?_;intro x b;have r:=η b;clear b;go_wp2_with fail;go_ret2;exact⟨by rw[m.o,v.o,ε j.o];rfl,r.o⟩
theorem y0g(s:BitVec 32)(c:UInt8)(S C:Int)(w:World)(r:S=(s.toNat:Int))(q:C=(c.toNat:Int)):
  Calls Tryz.prog 182 #[.int .u32 S,.int .u8 C] w fun e w'=>e= .returned (.int .u32 ((q1Z s c).toNat:Int))/\Ext w w':=by
 have B:=η r;have m:=η q;have b3:0<=C:=by omega
 have b4:C<256:=by have:=c.toNat_lt;omega
 clear r q;go_enter Tryz.func182,Tryz.ntmps182;go_wp2_with fail
 go_loopw [0,5] (fun v i w'=> ∃(k:Nat) (V:Int),k<=8/\i= .int .i64 k/\v= .int .u32 V/\V=((q0n s c k).toNat:Int)/\Ext w w') (fun _ i _=>8-(intOf i).toNat)
 case atStart=>exact⟨0,_,υ _,rfl,rfl,B.o,Ext.refl _⟩
 case round=>
  obtain⟨k,V,E,rfl,rfl,x,u⟩:=hrel;have d:=η x;have j:=η u;have v1:0<=V:=by omega
  have F:V<4294967296:=by have:=(q0n s c k).isLt;omega
  clear x u;by_cases D:k<8
  ·go_wp2_with fail
   ·have l:((V+C/2^k) % 2==1)=true:=by assumption
    go_roundw
    case rel=>exact⟨k+1,_,by omega,by go_num,rfl,z9n s c k V C d.o m.o l,j.o⟩
    case measure=>simp[intOf];omega
   ·have l:((V+C/2^k) % 2==1)=false:=by assumption
    go_roundw
    case rel=>exact⟨k+1,_,by omega,by go_num,rfl,y1L s c k V C d.o m.o l,j.o⟩
    case measure=>simp[intOf];omega
  ·have b:k=8:=by omega
   have y:=η b;clear b;go_wp2_with fail;go_ret;exact⟨rn (by rw[d.o,y.o,z8N]),j.o⟩
theorem z6O(l:List UInt8)(w:World)(D:l.length<=9223372036854775807):
  Calls Tryz.prog 129 #[.int .u32 0,.string ⟨l.toArray⟩] w fun e w'=>e= .returned (.int .u32 ((q0d l).toNat:Int))/\Ext w w':=by
 go_enter Tryz.func129,Tryz.ntmps129;go_wp2_with fail
 go_loopw [5,6] (fun v i w'=> ∃(k:Nat) (V:Int),k<=l.length/\i= .int .i64 k/\v= .int .u32 V/\V=(((l.take k).foldl q1Z (~~~0#32)).toNat:Int)/\Ext w w') (fun _ i _=>l.length-(intOf i).toNat)
 case atStart=>exact⟨0,_,υ _,rfl,rfl,rfl,Ext.refl _⟩
 case round=>
  obtain⟨k,V,C,rfl,rfl,x,s⟩:=hrel;have q:=η x;have r:=η s;have v1:0<=V:=by omega
  have E:V<4294967296:=by have:=((l.take k).foldl q1Z (~~~0#32)).isLt;omega
  clear x s;by_cases m:k<l.length
  ·go_wp2_with fail
   refine(y0g _ l[k] _ _ _ q.o rfl).mono ?_;rintro e w1 ⟨rfl,b⟩;have j:=η (r.o.trans b);clear b;have u:(l.take (k+1)).foldl q1Z (~~~0#32)=q1Z ((l.take k).foldl q1Z (~~~0#32)) l[k]:=by
    rw[List.take_succ_eq_append_getElem m,List.foldl_append];rfl
   have y:=η u;clear u;generalize q1Z ((l.take k).foldl q1Z (~~~0#32)) l[k]=T at*;go_wp2_with fail
   go_roundw
   case rel=>exact⟨k+1,_,by omega,by go_num,rfl,by rw[y.o],j.o⟩
   case measure=>simp[intOf];omega
  ·have d:l.take k=l:=Δ (by omega)
   have B:=η d;clear d;go_wp2_with fail;go_ret;exact⟨rn (by rw[q.o,B.o,y1Q];rfl),r.o⟩
theorem z8P(l:List UInt8)(w:World)(j:l.length<=9223372036854775807):
  Calls Tryz.prog 81 #[.string ⟨l.toArray⟩] w fun e w'=>e= .returned (.int .u32 ((q0d l).toNat:Int))/\Ext w w':=by
 go_enter Tryz.func81,Tryz.ntmps81;go_wp2_with fail;refine(z6O l _ j).mono ?_;rintro e w1 ⟨rfl,b⟩;have d:=η b;clear b;go_wp2_with fail;go_ret;exact⟨rfl,d.o⟩
theorem q8n(x q:Nat)(b:0<q):((x:Int)/(q:Int)) % 256=((UInt8.ofNat (x/q)).toNat:Int):=by
 rw[UInt8.toNat_ofNat'];simp
theorem z0e(l:List UInt8)(w:World)(y:l.length<=4611686018427387903):
  Calls Tryz.prog 42 #[.string ⟨l.toArray⟩] w fun e w'=>e= .returned (.string ⟨(q0W l).toArray⟩)/\Ext w w':=by
 go_enter Tryz.func42,Tryz.ntmps42;go_wp2_with fail;refine(z8P l _ (by omega)).mono ?_;rintro e w1 ⟨rfl,r⟩;have s:=η r;clear r;have q:q0W l=l++[UInt8.ofNat (q0d l).toNat,UInt8.ofNat ((q0d l).toNat/256),UInt8.ofNat ((q0d l).toNat/65536),UInt8.ofNat ((q0d l).toNat/16777216)]:=by
  unfold q0W q7J;rw[be4];rfl
 have b:=q8n (q0d l).toNat 1 (by decide);have d:=q8n (q0d l).toNat 256 (by decide);have j:=q8n (q0d l).toNat 65536 (by decide);have m:=q8n (q0d l).toNat 16777216 (by decide);have x:((q0d l).toNat:Int)<4294967296:=by have:=(q0d l).isLt;omega
 have v:0<=((q0d l).toNat:Int):=by omega
 rw[Nat.div_one] at b;have u:=η q;clear q;generalize UInt8.ofNat ((q0d l).toNat/16777216)=c3 at*;generalize UInt8.ofNat ((q0d l).toNat/65536)=c2 at*;generalize UInt8.ofNat ((q0d l).toNat/256)=c1 at*;generalize UInt8.ofNat (q0d l).toNat=c0 at*;generalize ((q0d l).toNat:Int)=X at*;have hcv:=z4R (P:=Tryz.prog) w1 31 9 5 (X % 256) (X/256 % 256) (X/65536 % 256) (X/16777216) c0 c1 c2 c3 Tryz.underlying31 Tryz.underlying5 Tryz.underlying9 (by rw[<-b];simp) (by rw[<-d];rfl) (by rw[<-j];rfl) (by rw[<-m];simp;omega);clear b d j m;go_wp2_with fail;go_ret;exact⟨by rw[u.o];simp[ByteArray.mk_append_mk],s.o.alloc _⟩
theorem z6P(l:List UInt8)(w:World)(y:l.length<=4611686018427387903):
  Calls Tryz.prog 48 #[.string ⟨l.toArray⟩] w fun e w'=>e= .returned (.tuple #[.string ⟨(q0q l).toArray⟩,.bool (q1O l)])/\Ext w w':=by
 by_cases h4:l.length<4
 ·have m:=q7S l h4
  have r:=η m;clear m;go_enter Tryz.func48,Tryz.ntmps48;go_wp2_with fail;go_ret2;exact⟨by rw[q0q,r.o];rfl,Ext.refl _⟩
 ·have u:4<=l.length:=by omega
  have m:q1O l=decide (q0W (l.take (l.length-4))=l):=by unfold q1O;rw[ζ u,Bool.true_and]
  have r:=η m;clear m;have q:(l.take (l.length-4)).length<=4611686018427387903:=by simp;omega
  have s:=η q;clear q;have j:Hd (q0q l=if q1O l then l.take (l.length-4) else []):=η rfl;go_enter Tryz.func48,Tryz.ntmps48;go_wp2_with fail;refine(z0e _ _ s.o).mono ?_;rintro e w1 ⟨rfl,x⟩;have v:=η x;clear x;by_cases b:q0W (l.take (l.length-4))=l
  ·have hq:(q0W (l.take (l.length-4))==l)=true:=by rw[beq_iff_eq];exact b
   have d:=η b;clear b;go_wp2_with fail;go_ret2;exact⟨by rw[j.o,r.o,ζ d.o];rfl,v.o⟩
  ·have hq:(q0W (l.take (l.length-4))==l)=false:=by rw[beq_eq_false_iff_ne];exact b
   have d:=η b;clear b;go_wp2_with fail;go_ret2;exact⟨by rw[j.o,r.o,ε d.o];rfl,v.o⟩
abbrev En :=Int×Int×Int
def q3Q(e:En):Bool:=decide (0<=e.1)&&decide (e.1<18446744073709551616)&&decide (0<=e.2.1)&&decide (e.2.1<=9223372036854775807)&&decide (0<=e.2.2)&&decide (e.2.2<=9223372036854775807)
theorem okEn_iff{e:En}:q3Q e=true↔0<=e.1/\e.1<18446744073709551616/\0<=e.2.1/\e.2.1<=9223372036854775807/\0<=e.2.2/\e.2.2<=9223372036854775807:=by
 simp[q3Q,and_assoc]
def q0g(a b:En):Bool:=if a.1≠b.1 then decide (a.1<b.1) else if a.2.1≠b.2.1 then decide (a.2.1<b.2.1) else decide (a.2.2<b.2.2)
theorem lessE_iff{a b:En}:q0g a b=true↔a.1<b.1\/(a.1=b.1/\(a.2.1<b.2.1\/(a.2.1=b.2.1/\a.2.2<b.2.2))):=by
 unfold q0g
 split
 ·rw[Φ];omega
 ·split
  ·rw[Φ];omega
  ·rw[Φ];omega
theorem q1N{a b c:En}(h:q0g a b=true)(k:q0g b c=true):q0g a c=true:=by rw[lessE_iff] at*;omega
theorem q0a(a:En):q0g a a=false:=by
 cases h:q0g a a with
 |false=>rfl
 |true=>rw[lessE_iff] at h;omega
theorem q4u{a b:En}(h:q0g a b=false)(k:q0g b a=false):a=b:=by
 have h1:¬(a.1<b.1\/(a.1=b.1/\(a.2.1<b.2.1\/(a.2.1=b.2.1/\a.2.2<b.2.2)))):=fun x=>by rw[lessE_iff.2 x] at h;cases h
 have h2:¬(b.1<a.1\/(b.1=a.1/\(b.2.1<a.2.1\/(b.2.1=a.2.1/\b.2.2<a.2.2)))):=fun x=>by rw[lessE_iff.2 x] at k;cases k
 obtain⟨d,j,l⟩:=a;obtain⟨b1,b2,b3⟩:=b;simp only at h1 h2;have m:d=b1:=by omega
 have o:j=b2:=by omega
 have q:l=b3:=by omega
 rw[m,o,q]
def q0z(l:List En):Prop:=l.Pairwise fun a b=>q0g a b=true
def q3y :List En->Bool
 |[]=>true
 |[_]=>true
 |a::b::r=>q0g a b&&q3y (b::r)
theorem q3H : ∀l:List En,q3y l=true↔q0z l
 |[]=>by simp[q3y,q0z]
 |[a]=>by simp[q3y,q0z]
 | a ::b::r=>by
  unfold q3y q0z;rw[Ξ,q3H (b::r)]
  constructor
  ·rintro⟨h1,h2⟩
   refine List.pairwise_cons.2 ⟨fun x d=>?_,h2⟩;rcases List.mem_cons.1 d with rfl|d
   ·exact h1
   ·exact q1N h1 ((List.pairwise_cons.1 h2).1 x d)
  ·intro h
   obtain⟨h1,h2⟩:=List.pairwise_cons.1 h;exact⟨h1 b List.mem_cons_self,h2⟩
def q4A(e:En):List UInt8:=be 8 e.1.toNat++(be 8 e.2.1.toNat++be 8 e.2.2.toNat)
theorem q3D(e:En):(q4A e).length=24:=by simp[q4A,q0F]
def q9f(s:List UInt8):Option En:=
 if s.length=24/\q0o ((s.drop 8).take 8)<=9223372036854775807/\q0o (s.drop 16)<=9223372036854775807 then some ((q0o (s.take 8):Int),(q0o ((s.drop 8).take 8):Int),(q0o (s.drop 16):Int)) else none
theorem z3r(e:En):(q4A e).take 8=be 8 e.1.toNat/\((q4A e).drop 8).take 8=be 8 e.2.1.toNat/\(q4A e).drop 16=be 8 e.2.2.toNat:=by
 have h1:=q0F 8 e.1.toNat;have h2:=q0F 8 e.2.1.toNat;refine⟨?_,?_,?_⟩
 ·unfold q4A;exact List.take_left' h1
 ·unfold q4A;rw[List.drop_left' h1];exact List.take_left' h2
 ·unfold q4A
  rw[<-List.append_assoc];exact List.drop_left' (by rw[θ,h1,h2])
theorem z2m{e:En}(h:q3Q e=true):q9f (q4A e)=some e:=by
 obtain⟨b,d,j,b1,l,r⟩:=okEn_iff.1 h;obtain⟨m,o,q⟩:=z3r e;have u: ∀x:Int,0<=x->x<18446744073709551616->q0o (be 8 x.toNat)=x.toNat:=fun x s h1=>by
  rw[q4U];exact Nat.mod_eq_of_lt (by omega)
 unfold q9f;rw[m,o,q,u _ b d,u _ j (by omega),u _ l (by omega),q3D,ξ (by omega)];obtain⟨x,y,z⟩:=e;simp only at*
 congr 2
 ·omega
 ·congr 1
  ·omega
  ·omega
def z1y :List UInt8:=[112,116,97,98]
def z3Q(l:List En):List UInt8:=z1y++(be 4 l.length++(l.map q4A).flatten)
def q8c(l:List En):List UInt8:=q0W (z3Q l)
theorem q3i(l:List En):((l.map q4A).flatten).length=24*l.length:=by
 induction l with
 |nil=>rfl
 |cons e r ih=>rw[List.map_cons,List.flatten_cons,θ,q3D,ih,χ];omega
theorem q7d(l:List En):(z3Q l).length=8+24*l.length:=by
 unfold z3Q z1y;rw[θ,θ,q0F,q3i];simp;omega
theorem q5A(l:List En):(q8c l).length=12+24*l.length:=by unfold q8c;rw[q0h,q7d];omega
def q2N :Nat->List UInt8->Option (List En)
 |0,_=>none
 | f+1,s=>if s=[] then some [] else match q9f (s.take 24) with
  |none=>none
  |some e=>(q2N f (s.drop 24)).map (e::·)
def q8N(s:List UInt8):Option (List En):=
 if q1O s/\8<=s.length-4/\s.take 4=z1y/\((s.take (s.length-4)).drop 8).length=q0o (((s.take (s.length-4)).drop 4).take 4)*24 then
  match q2N (s.length+1) ((s.take (s.length-4)).drop 8) with
  |none=>none
  |some l=>if q3y l then some l else none
 else none
theorem q8L : ∀(l:List En) (f:Nat),l.length<f->(∀e∈l,q3Q e=true)->q2N f ((l.map q4A).flatten)=some l
 | [],f+1,_,_=>by
  show(if ([]:List UInt8)=[] then some [] else _)=some [];rw[ξ rfl]
 |[],0,h,_=>by simp at h
 |e::r,0,h,_=>by simp at h
 | e::r,f+1,h,ho=>by
  have h1:=q3D e;unfold q2N;rw[List.map_cons,List.flatten_cons,κ (fun k=>by have:=congrArg List.length k;rw[θ,h1] at this;simp at this),List.take_left' h1,List.drop_left' h1,z2m (ho e List.mem_cons_self)];show(q2N f ((r.map q4A).flatten)).map (e::·)=_;rw[q8L r f (by simp at h;omega) fun x b=>ho x (List.mem_cons_of_mem _ b)]
  rfl
theorem z4I(x:List UInt8):q1O (q0W x)=true:=by
 unfold q1O;have h1:(q0W x).take ((q0W x).length-4)=x:=by rw[q0h];unfold q0W;exact List.take_left' (by omega)
 rw[h1,ζ (by rw[q0h];omega),ζ rfl];rfl
theorem z7l{l:List En}(j:q0z l)(d: ∀e∈l,q3Q e=true)(m:l.length<4294967296):q8N (q8c l)=some l:=by
 have h1:(q8c l).take ((q8c l).length-4)=z3Q l:=by unfold q8c;rw[q0h];unfold q0W;exact List.take_left' (by omega)
 have hc:=q7d l;have h2:(z3Q l).drop 8=(l.map q4A).flatten:=by
  unfold z3Q;rw[<-List.append_assoc];exact List.drop_left' (by rw[θ,q0F];rfl)
 have h3:((z3Q l).drop 4).take 4=be 4 l.length:=by
  unfold z3Q;rw[show(z1y++(be 4 l.length++(l.map q4A).flatten)).drop 4=be 4 l.length++(l.map q4A).flatten from List.drop_left' rfl];exact List.take_left' (q0F 4 _)
 have h4:(q8c l).take 4=z1y:=by
  unfold q8c q0W z3Q;rw[List.append_assoc];exact List.take_left' rfl
 have b:q1O (q8c l)=true:=z4I _;unfold q8N;rw[h1,h2,h3,h4,q4U,q3i,q5A,ξ ⟨b,by omega,rfl,by rw[Nat.mod_eq_of_lt (by omega)];omega⟩,q8L l _ (by omega) d];show(if q3y l then some l else none)=some l;rw[ξ ((q3H l).2 j)]
theorem y1R{l:List En}{e:En}(h:l[i]? =some e):((q8c l).drop (8+24*i)).take 24=q4A e:=by
 obtain⟨q,rfl⟩:=List.getElem?_eq_some_iff.1 h;have b:l=l.take i++l[i]::l.drop (i+1):=by rw[List.getElem_cons_drop];exact(List.take_append_drop _ _).symm
 have d:q8c l=(z1y++(be 4 l.length++((l.take i).map q4A).flatten))++(q4A l[i]++((((l.drop (i+1)).map q4A).flatten)++q7J (q0d (z3Q l)))):=by
  have m:(l.map q4A).flatten=((l.take i).map q4A).flatten++(q4A l[i]++((l.drop (i+1)).map q4A).flatten):=by
   conv=>lhs;rw[b]
   rw[List.map_append,List.map_cons,List.flatten_append,List.flatten_cons]
  have o:z3Q l=z1y++(be 4 l.length++(((l.take i).map q4A).flatten++(q4A l[i]++((l.drop (i+1)).map q4A).flatten))):=by rw[<-m];rfl
  unfold q8c q0W;generalize q7J (q0d (z3Q l))=Q;rw[o];simp only[List.append_assoc]
 have j:(z1y++(be 4 l.length++((l.take i).map q4A).flatten)).length=8+24*i:=by
  rw[θ,θ,q0F,q3i,Θ,Nat.min_eq_left (by omega)];show 4+(4+24*i)=_;omega
 rw[d,List.drop_left' j];exact List.take_left' (q3D _)
def lbE(l:List En)(x:En):Nat:=(l.filter fun e=>q0g e x).length
theorem q4K(l:List En)(x:En):lbE l x<=l.length:=List.length_filter_le _ _
theorem q3a : ∀{l:List En} (x:En),q0z l-> ∀{i:Nat} {e:En},l[i]? =some e->q0g e x=decide (i<lbE l x)
 |[],x,_,i,e,h=>by simp at h
 | a :: r,x,hs,i,e,h=>by
  obtain⟨h1,h2⟩:=List.pairwise_cons.1 hs;by_cases j:q0g a x=true
  ·have q:lbE (a::r) x=lbE r x+1:=by unfold lbE;rw[List.filter_cons_of_pos (p:=fun e=>q0g e _) j];rfl
   rw[q]
   cases i with
   | zero=>
    simp only[List.getElem?_cons_zero,Option.some.injEq] at h;subst h;rw[j];simp
   | succ i=>
    rw[List.getElem?_cons_succ] at h;rw[q3a x h2 h,decide_eq_decide];omega
  ·have m:q0g a x=false:=by simpa using j
   have d: ∀b∈r,q0g b x=false:=fun b o=>by
    cases hbx:q0g b x with
    |false=>rfl
    |true=>exact absurd (q1N (h1 b o) hbx) j
   have q:lbE (a::r) x=0:=by
    unfold lbE;rw[List.filter_cons_of_neg (p:=fun e=>q0g e x) j,List.filter_eq_nil_iff.2 fun b o=>by rw[d b o];decide]
    rfl
   rw[q]
   cases i with
   | zero=>
    simp only[List.getElem?_cons_zero,Option.some.injEq] at h;subst h;rw[m];rfl
   | succ i=>
    rw[List.getElem?_cons_succ] at h;rw[d e (List.mem_of_getElem? h)];simp
def q3x(many:Nat):Nat->List En->List (En×Nat)
 |_,[]=>[]
 |i,e::r=>if i % 8=0\/i+1=many then(e,i)::q3x many (i+1) r else q3x many (i+1) r
def q2d(l:List En):List (En×Nat):=q3x l.length 0 l
def q0s(many:Nat)(x:En):Nat->List (En×Nat)->Nat×Nat
 |lo,[]=>(lo,max lo many)
 |lo,(e,a)::r=>if q0g e x then q0s many x (min a (many-1)+1) r else(lo,max lo (min a many))
theorem q7N{l:List En}(x:En)(q:q0z l): ∀(r:List En) (i lo:Nat),r=l.drop i->i<=l.length->lo<=lbE l x->lo<=i->(i<l.length->(lo=0/\i=0)\/(lo % 8=1/\i<=lo+7))->(i=l.length->lo=l.length)->
  (q0s l.length x lo (q3x l.length i r)).1<=lbE l x/\lbE l x<=(q0s l.length x lo (q3x l.length i r)).2/\(q0s l.length x lo (q3x l.length i r)).2<=(q0s l.length x lo (q3x l.length i r)).1+7/\(q0s l.length x lo (q3x l.length i r)).2<=l.length
 | [],i,lo,hr,hi,h1,h2,h3,h4=>by
  have y:=q4K l x;have m:i=l.length:=by
   have:=congrArg List.length hr;rw[List.length_drop] at this;simp at this;omega
  have:=h4 m;unfold q3x q0s;simp only;omega
 | e :: r,i,lo,hr,hi,h1,h2,h3,h4=>by
  have y:=q4K l x;have o:i<l.length:=by
   have:=congrArg List.length hr;rw[List.length_drop] at this;simp at this;omega
  have he:l[i]? =some e:=by
   have:=congrArg (fun z=>z[0]?) hr
   simpa using this.symm
  have d:r=l.drop (i+1):=by
   have:=congrArg (List.drop 1) hr;rw[List.drop_drop] at this
   simpa using this
  have b:=q3a x q he;have B:=h3 o;unfold q3x;by_cases hm:i % 8=0\/i+1=l.length
  ·rw [ξ hm]
   unfold q0s;by_cases j:q0g e x=true
   ·rw[ξ j]
    rw[j] at b;have u:i<lbE l x:=of_decide_eq_true b.symm;have v:min i (l.length-1)+1=i+1:=by omega
    rw[v];exact q7N x q r (i+1) (i+1) d (by omega) (by omega) (ι _) (fun h=> .inr (by omega)) (fun h=>h)
   ·rw[κ j]
    have s:q0g e x=false:=by simpa using j
    rw[s] at b;have u:¬i<lbE l x:=of_decide_eq_false b.symm;simp only;omega
  ·rw[κ hm]
   exact q7N x q r (i+1) lo d (by omega) h1 (by omega) (fun h=>by omega) (fun h=>by omega)
theorem q7O{l:List En}(x:En)(b:q0z l):(q0s l.length x 0 (q2d l)).1<=lbE l x/\lbE l x<=(q0s l.length x 0 (q2d l)).2/\(q0s l.length x 0 (q2d l)).2<=(q0s l.length x 0 (q2d l)).1+7/\(q0s l.length x 0 (q2d l)).2<=l.length:=
 q7N x b l 0 0 rfl (υ _) (υ _) (ι _) (fun _=> .inl ⟨rfl,rfl⟩) (fun h=>h)
def q0r(l:List En)(h f t:Int):List En:=l.filter fun e=>decide (e.1=h)&&decide (f<=e.2.1)&&decide (e.2.1<=t)
def inE(h t:Int)(e:En):Bool:=decide (e.1=h)&&decide (e.2.1<=t)
theorem q3c : ∀{l:List En} {h f t:Int},q0z l->(∀e∈l,q3Q e=true)->q0r l h f t=(l.drop (lbE l (h,f,0))).takeWhile (inE h t)
 |[],h,f,t,_,_=>rfl
 | a :: r,h,f,t,hs,ho=>by
  obtain⟨h1,h2⟩:=List.pairwise_cons.1 hs;have D:=okEn_iff.1 (ho a List.mem_cons_self);have u: ∀e∈r,q3Q e=true:=fun e he=>ho e (List.mem_cons_of_mem _ he)
  by_cases q:q0g a (h,f,0)=true
  ·have v:lbE (a::r) (h,f,0)=lbE r (h,f,0)+1:=by unfold lbE;rw[List.filter_cons_of_pos (p:=fun e=>q0g e _) q];rfl
   have y:(decide (a.1=h)&&decide (f<=a.2.1)&&decide (a.2.1<=t))=false:=by
    rw[lessE_iff] at q;simp only at q;rw[Bool.and_eq_false_iff,Bool.and_eq_false_iff,decide_eq_false_iff_not,decide_eq_false_iff_not];omega
   rw[v,List.drop_succ_cons,<-q3c h2 u];unfold q0r;rw[List.filter_cons_of_neg (by rw[y];decide)]
  ·have s:q0g a (h,f,0)=false:=by simpa using q
   have C:¬(a.1<h\/(a.1=h/\(a.2.1<f\/(a.2.1=f/\a.2.2<0)))):=fun k=>by rw[lessE_iff.2 k] at s;cases s
   have v:lbE (a::r) (h,f,0)=0:=by
    have: ∀b∈a::r,¬q0g b (h,f,0)=true:=fun b m d=>by
     rcases List.mem_cons.1 m with rfl|m
     ·exact q d
     ·exact q (q1N (h1 b m) d)
    unfold lbE;rw[List.filter_eq_nil_iff.2 this];rfl
   rw[v,List.drop_zero];by_cases o:inE h t a=true
   ·have j:=o
    unfold inE at j;rw[Ξ,Φ,Φ] at j;have x:lbE r (h,f,0)=0:=by
     have: ∀b∈r,¬q0g b (h,f,0)=true:=fun b m d=>q (q1N (h1 b m) d)
     unfold lbE;rw[List.filter_eq_nil_iff.2 this];rfl
    have B:=q3c (h:=h) (f:=f) (t:=t) h2 u;rw[x,List.drop_zero] at B;rw[List.takeWhile_cons_of_pos o,<-B];unfold q0r;rw[List.filter_cons_of_pos (by simp only[Ξ,Φ];omega)]
   ·rw [List.takeWhile_cons_of_neg o]
    have j:¬(a.1=h/\a.2.1<=t):=fun k=>o (by unfold inE;simp only[Ξ,Φ];exact k)
    unfold q0r;refine List.filter_eq_nil_iff.2 fun b m d=>?_
    simp only[Ξ,Φ] at d;rcases List.mem_cons.1 m with rfl|m
    ·omega
    ·have:=lessE_iff.1 (h1 b m)
     omega
def q2u(l:List En)(h t:Int):Option En:=(l.filter (inE h t)).getLast?
theorem z5i{l:List En}{h t:Int}(C:q0z l)(I: ∀e∈l,q3Q e=true):q2u l h t=if lbE l (h,t+1,0)=0 then none else match l[lbE l (h,t+1,0)-1]? with
  |none=>none
  |some e=>if e.1=h then some e else none:=by
 obtain⟨n,B⟩: ∃n,lbE l (h,t+1,0)=n:=⟨_,rfl⟩
 have y:=q4K l (h,t+1,0);rw[B] at y⊢;have m:l=l.take n++l.drop n:=(List.take_append_drop _ _).symm;have r:(l.drop n).filter (inE h t)=[]:=by
  refine List.filter_eq_nil_iff.2 fun b u d=>?_
  obtain⟨i,E⟩:=List.getElem?_of_mem u;rw[List.getElem?_drop] at E;have h1:=q3a (h,t+1,0) C E;rw[B] at h1;have h2:q0g b (h,t+1,0)=false:=by rw[h1];simp
  unfold inE at d;simp only[Ξ,Φ] at d;have h3:q0g b (h,t+1,0)=true:=by rw[lessE_iff];simp only;omega
  rw[h2] at h3;cases h3
 unfold q2u
 conv=>lhs;rw[m]
 rw[List.filter_append,r,List.append_nil];by_cases D:n=0
 ·subst D;rfl
 rw[κ D];obtain⟨e,he⟩: ∃e,l[n-1]? =some e:=⟨l[n-1],γ (by omega)⟩
 rw[he];have s:l.take n=l.take (n-1)++[e]:=by
  obtain⟨G,x⟩:=List.getElem?_eq_some_iff.1 he;have:=List.take_succ_eq_append_getElem G;rw[x,show n-1+1=n by omega] at this;exact this
 have j:q0g e (h,t+1,0)=true:=by
  have h1:=q3a (h,t+1,0) C he;rw[B] at h1;rw[h1];simp;omega
 have J:=okEn_iff.1 (I e (List.mem_of_getElem? he));rw[lessE_iff] at j;simp only at j;rw[s,List.filter_append];show(_++[e].filter (inE h t)).getLast? =(if e.1=h then some e else none);by_cases v:e.1=h
 ·have o:inE h t e=true:=by unfold inE;simp only[Ξ,Φ];omega
  rw[ξ v,List.filter_cons_of_pos o];simp
 ·have o:¬inE h t e=true:=fun k=>by unfold inE at k;simp only[Ξ,Φ] at k;exact v k.1
  have q:(l.take (n-1)).filter (inE h t)=[]:=by
   refine List.filter_eq_nil_iff.2 fun b u d=>?_
   unfold inE at d;simp only[Ξ,Φ] at d;have F:(l.take n).Pairwise fun a b=>q0g a b=true:=C.sublist (List.take_sublist _ _)
   rw[s] at F;have:=(List.pairwise_append.1 F).2.2 b u e (by simp);rw[lessE_iff] at this;omega
  rw[κ v,List.filter_cons_of_neg o,q]
  rfl
def en0 :En:=(0,0,0)
def ec(e:En):List Value:=[.int .u64 e.1,.int .i64 e.2.1,.int .i64 e.2.2]
def enV(e:En):Value:= .agg (ec e).toArray
def ecs(L:List En):List Value:=L.flatMap ec
theorem q1e(L:List En):(ecs L).length=L.length*3:=by
 induction L with
 |nil=>rfl
 |cons k L ih=>unfold ecs at ih⊢;rw[List.flatMap_cons,θ,ih,χ];simp[ec];omega
theorem z2c(L:List En)(e:En):ecs (L++[e])=ecs L++ec e:=by unfold ecs;simp
theorem q2x(L M:List En):ecs (L++M)=ecs L++ecs M:=by unfold ecs;simp
theorem q4V(e:En)(L:List En):ecs (e::L)=ec e++ecs L:=rfl
theorem z2b : ∀(L:List En) (i j:Nat),i<L.length->j<3->(ecs L)[i*3+j]? =(ec (L.getD i en0))[j]?
 |[],i,j,h,_=>by simp at h
 | k::L,0,j,_,hj=>by
  rw[q4V,List.getElem?_append_left (by simp[ec];omega)];simp
 | k::L,i+1,j,h,hj=>by
  rw[q4V,List.getElem?_append_right (by simp[ec];omega),show(i+1)*3+j-(ec k).length=i*3+j from by simp[ec];omega,z2b L i j (by simpa using h) hj];simp
theorem q3g(L:List En): ∀u∈ecs L,u.oneCell'=true:=fun u d=>by
 unfold ecs at d;obtain⟨f,_,b⟩:=List.mem_flatMap.1 d;unfold ec at b;simp only[List.mem_cons,List.not_mem_nil,or_false] at b;rcases b with rfl|rfl|rfl<;>rfl
structure Ens(w:World)(ao:Option Addr)(n cap:Nat)(L:List En):Prop where
 len:L.length=n
 fits:n<=cap
 bound:cap<=9223372036854775807
 nil:ao=none->cap=0
 rd:Rd w ao (ecs L)
theorem Ens.ext{w':World}{L:List En}(h:Ens w ao n cap L)(k:Ext w w'):Ens w' ao n cap L:=⟨h.len,h.fits,h.bound,h.nil,h.rd.ext k⟩
theorem Ens.at{L:List En}(h:Ens w ao n cap L)(r:i<n):
  ∃b off,ao=some ⟨b,off,none⟩/\w.cell? ⟨b,off+i*3,none⟩=some (.int .u64 (L.getD i en0).1)/\w.cell? ⟨b,off+i*3+1,none⟩=some (.int .i64 (L.getD i en0).2.1)/\w.cell? ⟨b,off+i*3+2,none⟩=some (.int .i64 (L.getD i en0).2.2):=by
 have s:=h.len;have m:=z2b L i 0 (by omega) (by decide);have o:=z2b L i 1 (by omega) (by decide);have q:=z2b L i 2 (by omega) (by decide);obtain⟨b,off,rfl,l⟩:=h.rd _ _ m;obtain⟨_,_,d,h1⟩:=h.rd _ _ o
 cases d;obtain⟨_,_,j,h2⟩:=h.rd _ _ q
 cases j;exact⟨b,off,rfl,l,h1,h2⟩
theorem Ens.of_own{B:Nat}{e:TypeId}{v:Value}{L:List En}(h:Own w B e 3 v L.length (ecs L)): ∃ao cap,v= .slice ao L.length cap/\Ens w ao L.length cap L:=by
 obtain⟨ao,cap,rfl,h1,h2,h3,h4⟩:=h.rd;exact⟨ao,cap,rfl,rfl,h1,h2,h3,h4⟩
theorem Ens.cut{L:List En}(h:Ens w ao n cap L){k:Nat}(b:k<=n):Ens w ao k cap (L.take k):=
 ⟨by rw[Θ,h.len];omega,Ω b h.fits,h.bound,h.nil,by
  have:=h.rd.take (k*3);have e:(ecs L).take (k*3)=ecs (L.take k):=by
   conv=>lhs;rw[<-List.take_append_drop k L,q2x]
   exact List.take_left' (by rw[q1e,Θ,h.len];omega)
  rwa [e] at this⟩
def y2C(h:Int):Int:=bits .or .u64 (IntKind.u64.wrap (h*140737488355328)) (h/131072)
theorem y1M(w:World)(h:Int):Calls Tryz.prog 296 #[.int .u64 h,.int .i64 (-17)] w fun r w'=>r= .returned (.int .u64 (y2C h))/\w=w':=by
 have b:IntKind.u64.wrap (-17)=18446744073709551599:=by kernel_rfl
 have d:bits .and .u64 18446744073709551599 63=47:=by kernel_rfl
 have j:IntKind.u64.wrap (64-47)=17:=by kernel_rfl
 go_enter Tryz.func296,Tryz.ntmps296;go_wp2_with fail;go_ret;exact⟨rfl,rfl⟩
def z9w(h:Int):Int:=bits .or .u64 (y2C h) 1
theorem z9O(w:World)(h:Int):Calls Tryz.prog 287 #[.int .u64 h] w fun r w'=>r= .returned (.int .u64 (z9w h))/\w=w':=by
 have b:=η (fun W=>y1M W h);go_enter Tryz.func287,Tryz.ntmps287;go_wp2_with fail;refine(b.o _).mono ?_;rintro e w1 ⟨rfl,rfl⟩;go_wp2_with fail;go_ret;exact⟨rfl,rfl⟩
def q6I(h i b:Int):Int:=IntKind.u64.wrap (h+IntKind.u64.wrap (i*z9w h)) % b
theorem z0Y(h i b:Int)(d:1<=b):0<=q6I h i b/\q6I h i b<b:=⟨Int.emod_nonneg _ (by omega),Int.emod_lt_of_pos _ (by omega)⟩
theorem z9k(w:World)(h:Int)(i b:Nat)(J:i<=1000000)(I:1<=b)(v:b<=1000000):Calls Tryz.prog 279 #[.int .u64 h,.int .i64 (i:Int),.int .i64 (b:Int)] w fun r w'=>r= .returned (.int .i64 (q6I h i b))/\w=w':=by
 have s:=η (fun W=>z9O W h);have x:¬((b:Int)<1):=by omega
 have y:¬((i:Int)<0):=by omega
 have B:IntKind.u64.wrap (i:Int)=(i:Int):=by rw[IntKind.wrap_u64];omega
 have C:IntKind.u64.wrap (b:Int)=(b:Int):=by rw[IntKind.wrap_u64];omega
 obtain⟨T,m⟩: ∃T,IntKind.u64.wrap (h+IntKind.u64.wrap ((i:Int)*z9w h))=T:=⟨_,rfl⟩
 have j:0<=T/\T<18446744073709551616:=by rw[<-m,IntKind.wrap_u64];omega
 have u:Int.tmod T (b:Int)=T % (b:Int):=Int.tmod_eq_emod_of_nonneg j.1;have q:=z0Y h i b (by omega);have d:Hd (q6I h i b=T % (b:Int)):=η (by unfold q6I;rw[m]);rw[d.o] at q;obtain⟨z,l⟩: ∃z,T % (b:Int)=z:=⟨_,rfl⟩
 rw[l] at q d;have D:IntKind.u64.wrap z=z:=by rw[IntKind.wrap_u64];omega
 have E:IntKind.i64.wrap z=z:=by rw[ν];omega
 have F:((b:Int)==0)=false:=by simp;omega
 have G:¬((b:Int)=0):=by omega
 rw[l] at u;clear l;rw[d.o];go_enter Tryz.func279,Tryz.ntmps279;go_wp2_with fail;refine(s.o _).mono ?_;rintro e w1 ⟨rfl,rfl⟩;go_wp2_with fail;go_ret;exact⟨rfl,rfl⟩
theorem z5b{s:List UInt8}{e:En}(h:q9f s=some e):s=q4A e/\q3Q e=true:=by
 unfold q9f at h
 split at h
 ·rename_i hc
  obtain⟨h1,h2,h3⟩:=hc;have he:=(Option.some.inj h).symm;subst he;have b1:=q1Q (s.take 8);rw[Θ,Nat.min_eq_left (by omega)] at b1;refine⟨?_,okEn_iff.2 (by simp only;omega)⟩;have l:(s.take 8).length=8:=by simp;omega
  have m:((s.drop 8).take 8).length=8:=by simp;omega
  have o:(s.drop 16).length=8:=by simp;omega
  have b:=q4p (s.take 8);have d:=q4p ((s.drop 8).take 8);have j:=q4p (s.drop 16);rw[l] at b;rw[m] at d;rw[o] at j;unfold q4A;simp only[Int.toNat_natCast];rw[b,d,j];have:s.drop 16=(s.drop 8).drop 8:=by rw[List.drop_drop]
  rw[this,List.take_append_drop,List.take_append_drop]
 ·cases h
theorem q8M : ∀(f:Nat) (s:List UInt8) (l:List En),q2N f s=some l->s=(l.map q4A).flatten/\ ∀e∈l,q3Q e=true
 |0,s,l,h=>by cases h
 | f + 1, s,l,h=>by
  unfold q2N at h
  split at h
  ·rename_i d
   cases h;exact⟨by rw[d];rfl,fun e he=>by cases he⟩
  ·cases hg:q9f (s.take 24) with
   |none=>rw[hg] at h;cases h
   | some e=>
    rw[hg] at h;simp only at h
    cases hr:q2N f (s.drop 24) with
    |none=>rw[hr] at h;cases h
    | some r=>
     rw[hr] at h;obtain⟨h1,h2⟩:=q8M f _ _ hr;have he:e::r=l:=by simpa using h
     subst he;obtain⟨h3,h4⟩:=z5b hg;refine⟨?_,fun x b=>?_⟩
     ·rw[List.map_cons,List.flatten_cons,<-h3,<-h1,List.take_append_drop]
     ·rcases List.mem_cons.1 b with rfl|b
      ·exact h4
      ·exact h2 x b
theorem q7C{s:List UInt8}{l:List En}(h:q8N s=some l):s=q8c l/\q0z l/\(∀e∈l,q3Q e=true)/\l.length<4294967296:=by
 unfold q8N at h
 split at h
 ·rename_i hc
  obtain⟨h1,h2,h3,h4⟩:=hc
  cases hg:q2N (s.length+1) ((s.take (s.length-4)).drop 8) with
  |none=>rw[hg] at h;cases h
  | some l'=>
   rw[hg] at h;simp only at h
   split at h
   ·rename_i v
    have:=Option.some.inj h;subst this;obtain⟨j,q⟩:=q8M _ _ _ hg;have b:=q3i l';rw[<-j] at b;rw[b] at h4;obtain⟨t,d⟩: ∃t,s.take (s.length-4)=t:=⟨_,rfl⟩
    have lt:t.length=s.length-4:=by rw[<-d];simp
    rw[d] at h4 j b;have o:((t.drop 4).take 4).length=4:=by simp;omega
    have b4:=q1Q ((t.drop 4).take 4);rw[o] at b4;have u:q0o ((t.drop 4).take 4)=l'.length:=by omega
    have m:=q4p ((t.drop 4).take 4);rw[o,u] at m;have r:t=z3Q l':=by
     unfold z3Q;rw[m,<-j];have x:s.take 4=t.take 4:=by rw[<-d,List.take_take];congr 1;omega
     rw[<-h3,x];have y:t.drop 8=(t.drop 4).drop 4:=by rw[List.drop_drop]
     rw[y,List.take_append_drop,List.take_append_drop]
    refine⟨?_,(q3H _).1 v,q,by omega⟩;unfold q8c;rw[<-r,<-d];unfold q1O at h1;simp at h1;exact h1.2.symm
   ·cases h
 ·cases h
theorem z7k{s:List UInt8}{L:List En}(h:q8N s=some L)(b:s.length<=1048576):L.length<=50000:=by
 obtain⟨h1,_⟩:=q7C h;have:=q5A L;rw[<-h1] at this;omega
theorem z9N{L:List En}(d: ∀e∈L,q3Q e=true)(b:i<L.length):q9f (((q8c L).drop (8+24*i)).take 24)=some L[i]:=by
 rw[y1R (γ b)];exact z2m (d _ (List.getElem_mem b))
end
end Go.Proofs.YteabhdclmodefaaGreatDoor
