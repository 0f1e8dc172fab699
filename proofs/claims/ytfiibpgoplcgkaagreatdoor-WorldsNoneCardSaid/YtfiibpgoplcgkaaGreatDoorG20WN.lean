/- Walks. -/
import Derived.Test.YtfiibpgoplcgkaaGreatDoorChecked
import Derived.Test.YtfiibpgoplcgkaaGreatDoorG1WN
set_option linter.unusedVariables false
set_option linter.unusedSimpArgs false
set_option maxRecDepth 100000
set_option maxHeartbeats 800000
namespace Go.Proofs.YtfiibpgoplcgkaaGreatDoor
variable {α:Type}
section
open Go.RowKit
theorem Tryz.infoInt :(Tryz.prog.info? 3).map (fun i=>(i.zero,i.size,i.bytes))=some (some (.int .i64 0),1,8):=by kernel_rfl
theorem Tryz.infoInts :(Tryz.prog.info? 37).map (fun i=>(i.zero,i.size,i.bytes))=some (some (.slice none 0 0),1,24):=by kernel_rfl
theorem y0u(n:Nat)(w:World)(x:n<=17592186044416):
  Calls Tryz.prog 109 #[.slice none 0 0,.int .i64 n] w (y1t 3 w []):=by
 by_cases u:n=0
 ·subst u
  go_enter Tryz.func109,Tryz.ntmps109;go_wp2_with fail;go_ret;exact⟨_,rfl,Own.nil _ _ _ _,Ext.refl _⟩
 ·have h1:0<n:=by omega
  obtain⟨i,m,r,b,d⟩:=info_parts Tryz.infoInt;have q:=Lib.run_append_nil_zeros (P:=Tryz.prog) w 37 3 37 3 i (.int .i64 0) .i64 .i64 Tryz.underlying37 Tryz.underlying3 m r n h1 (by omega) (by omega) (by rw[d];omega);have s:=η q;clear q;have j:=η (grownCap_ge w n 0 3);have l:=η (grownCap_le_maxLen w n 0 3 (by unfold maxLen;omega));have v:=η b;clear m r b d;go_enter Tryz.func109,Tryz.ntmps109
  go_wp2_with (at_builtin;refine Lib.wpList_append_run _ rfl _ _ _ _ rfl _ _ rfl rfl _ _ s.o ?_)
  go_ret;refine⟨_,rfl,Own.of_row ⟨rfl,.inr ⟨w.heap.size,grownCap w n 0 3,_,rfl,ι _,heap_alloc_new w.drew _,υ _,l.o,?_,rfl⟩⟩,(Ext.refl w).drew.alloc _⟩;have:=j.o;simp[size_zeroCells];omega
theorem z7W(ao:Option Addr)(n cap:Nat)(L:List (List Int))(w:World)(N:Grid w ao n cap L)(X:L.flatten.length<=17592186044416):
  Calls Tryz.prog 60 #[.slice ao n cap] w (y1t 3 w L.flatten):=by
 have D:=η N;have b1:=N.fits;have b2:=N.bound;clear N;go_enter Tryz.func60,Tryz.ntmps60;go_wp2_with fail
 go_loopw [3,11] (fun s i w'=> ∃k:Nat,k<=n/\i= .int .i64 k/\s= .int .i64 (L.take k).flatten.length/\Ext w w') (fun _ i _=>n-(intOf i).toNat)
 case atStart=>exact⟨0,υ _,rfl,rfl,Ext.refl _⟩
 case round=>
  obtain⟨k,hk,rfl,rfl,I⟩:=hrel;have q:=η I;clear I;by_cases x:k<n
  ·obtain⟨b,off,ai,O,ci,rfl,c1,J⟩:=(D.o.ext q.o).at x
   have R1:=η J;clear J;have B:k<L.length:=by rw[D.o.len];exact x
   have E:=q2X L k B;have C:=q2O L (k+1);have d:(L.take k).flatten.length+O=(L.take (k+1)).flatten.length:=by rw[E,θ,R1.o.len]
   have G:=η d;have g1:(L.take k).flatten.length+O<=17592186044416:=by omega
   clear E C d;generalize (L.take k).flatten.length=F at*;go_wp2_with fail
   go_roundw
   case rel=>exact⟨k+1,by omega,by go_num,by rw[<-G.o];go_num,q.o⟩
   case measure=>simp[intOf];omega
  ·have m:L.take k=L:=Δ (by have:=D.o.len;omega)
   have U:=η m;have hF:(L.take k).flatten.length=L.flatten.length:=by rw[m]
   rw[hF];clear m hF;generalize hF:L.flatten.length=F at*;have Y:=η hF;clear hF
   go_wp2_with (go_at_call 109;(with_reducible refine(y0u F _ (by omega)).mono ?_);rintro e w1 ⟨v1,rfl,j,u⟩)
   have S:=η (q.o.trans u);have y:Own w1 w.heap.size 3 1 v1 0 []:=j.base q.o.size;have M:=η y;clear j y u q
   go_loopw [6,27] (fun v i w'=> ∃k:Nat,k<=n/\i= .int .i64 k/\Own w' w.heap.size 3 1 v (L.take k).flatten.length ((L.take k).flatten.map (Value.int .i64))/\Ext w w') (fun _ i _=>n-(intOf i).toNat)
   case atStart=>exact⟨0,υ _,rfl,M.o,S.o⟩
   case round=>
    clear M S;obtain⟨k,hk,rfl,j,I⟩:=hrel;have q:=η I;clear I;have r:=η j;clear j;by_cases x:k<n
    ·obtain⟨b,off,ai,O,ci,rfl,c1,J⟩:=(D.o.ext q.o).at x
     have R1:=η J;clear J;have B:k<L.length:=by rw[D.o.len];exact x
     have E:=q2X L k B;have C:=q2O L (k+1);have d:(L.take k).flatten.length+O=(L.take (k+1)).flatten.length:=by rw[E,θ,R1.o.len]
     have Z:=η E;clear E;have G:=η d;clear d;have R:=Y.o;have W:(L.take (k+1)).flatten.length<=F:=by omega
     clear R C
     go_wp2_with (at_builtin;refine q0m rfl _ _ 37 rfl w.heap.size 3 _ 1 8 Tryz.underlying37 Tryz.infoInt rfl (by decide) _ _ _ rfl r.o _ _ _ ((L.getD k []).map (Value.int .i64)) rfl (by rw[List.length_map,R1.o.len];omega) R1.o.nil R1.o.rd (ints_oneCell _ _) (by have:=G.o;omega) (by have:=G.o;omega) q.o.size ?_;intro v' w2 l V _)
     have u:=q1a q.o r.o V q.o.size;have Q:=η u;clear u;rw[<-List.map_append,<-Z.o,G.o] at l;have M:=η l;clear l V;go_wp2_with fail
     go_roundw
     case rel=>exact⟨k+1,by omega,by go_num,M.o,Q.o⟩
     case measure=>simp[intOf];omega
    ·have m:L.take k=L:=Δ (by have:=D.o.len;omega)
     have U:=η m;clear m;go_wp2_with fail;go_ret;exact⟨_,rfl,by have:=r.o;rw[U.o] at this;exact this,q.o⟩
theorem z3h(ao:Option Addr)(n cap:Nat)(L:List (List Int))(w:World)(i:Grid w ao n cap L)(b:L.flatten.length<=17592186044416):
  Calls Tryz.prog 15 #[.slice ao n cap] w (y1t 3 w L.flatten):=by
 have j:=η i;clear i;go_enter Tryz.func15,Tryz.ntmps15
 go_wp2_with (go_at_call 60;(with_reducible refine(z7W _ _ _ L _ j.o b).mono ?_);rintro e w1 ⟨m,rfl,d,l⟩)
 go_ret;exact⟨_,rfl,by assumption,by assumption⟩
theorem q8m(p:α->Bool)(d:α)(L:List α)(k:Nat)(h:k<L.length)(b:(L.take k).any p=false)(h1:p (L.getD k d)=false):(L.take (k+1)).any p=false:=by
 rw[q0X L d k h,List.any_append,b];simp only[List.any_cons,List.any_nil,h1,Bool.or_self]
theorem z1K(p:α->Bool)(d:α)(L:List α)(k:Nat)(h:k<L.length)(h1:p (L.getD k d)=true):L.any p=true:=by
 rw[List.any_eq_true];refine⟨L[k],List.getElem_mem h,?_⟩;rw[δ,γ h] at h1;exact h1
theorem z1L(p:α->Bool)(L:List α)(n k:Nat)(i:L.length=n)(d:n<=k)(b:(L.take k).any p=false):L.any p=false:=by
 rwa [Δ (by omega)] at b
theorem q6B(xs:List Int)(x:Int)(k:Nat)(h:k<xs.length)(b:x∉xs.take k)(h1:xs.getD k 0≠x):x∉xs.take (k+1):=by
 rw[q0X xs 0 k h,List.mem_append];rintro(h2|h2)
 ·exact b h2
 ·exact h1 (List.mem_singleton.1 h2).symm
theorem z1k(xs:List Int)(x:Int)(k:Nat)(h:k<xs.length)(h1:xs.getD k 0=x):x∈xs:=by
 rw[<-h1,δ,γ h];exact List.getElem_mem h
theorem q7X(xs:List Int)(x:Int)(n k:Nat)(i:xs.length=n)(d:n<=k)(b:x∉xs.take k):x∉xs:=by
 rwa [Δ (by omega)] at b
def z9c(xs:List Int)(x:Int):Int:=if x∈xs then(xs.idxOf x:Int) else-1
theorem z8C(xs:List Int)(x:Int)(k:Nat)(h:k<xs.length)(d:x∉xs.take k)(h1:xs.getD k 0=x):z9c xs x=k:=by
 have hm:=z1k xs x k h h1;rw[z9c,ξ hm];have e:xs=xs.take k++xs.drop k:=(List.take_append_drop k xs).symm;have b:xs.drop k=x::xs.drop (k+1):=by
  rw[List.drop_eq_getElem_cons h];rw[δ,γ h] at h1;simp at h1;rw[h1]
 have:xs.idxOf x=k:=by
  rw[e,b,List.idxOf_append,κ d,List.idxOf_cons_self];simp;omega
 omega
theorem z5u(xs:List Int)(x:Int)(h:x∉xs):z9c xs x= -1:=by rw[z9c,κ h]
theorem z8D(xs:List Int)(x:Int):decide (0<=z9c xs x)=decide (x∈xs):=by
 unfold z9c;by_cases h:x∈xs
 ·simp[h]
 ·simp[h]
theorem z9e(ao:Option Addr)(n cap:Nat)(xs:List Int)(x:Int)(w:World)(s:Ints w ao n cap xs):
  Calls Tryz.prog 282 #[.slice ao n cap,.int .i64 x] w fun e w'=>e= .returned (.int .i64 (z9c xs x))/\Ext w w':=by
 have r:=η s;have b1:=s.fits;have b2:=s.bound;clear s;go_enter Tryz.func282,Tryz.ntmps282;go_wp2_with fail
 go_loopw [8] (fun i w'=> ∃k:Nat,k<=n/\i= .int .i64 k/\x∉xs.take k/\Ext w w') (fun i _=>n-(intOf i).toNat)
 case atStart=>exact⟨0,υ _,rfl,by simp,Ext.refl _⟩
 case round=>
  obtain⟨k,E,rfl,m,C⟩:=hrel;have d:=η m;clear m;have q:=η C;clear C;by_cases j:k<n
  ·obtain⟨b,off,rfl,D⟩:=(r.o.ext q.o).at j
   generalize B:xs.getD k 0=X at*;have y:=η B;clear B;by_cases l:X=x
   ·have v:(x==X)=true:=by simpa using l.symm
    have u:=η l;clear l;go_wp2_with fail;go_ret;exact⟨rn (z8C xs x k (by rw[r.o.len];exact j) d.o (y.o.trans u.o)),q.o⟩
   ·have v:(x==X)=false:=by simpa using(Ne.symm l)
    have u:=η l;clear l;go_wp2_with fail
    go_roundw
    case rel=>exact⟨k+1,by omega,by go_num,q6B xs x k (by rw[r.o.len];exact j) d.o (by rw[y.o];exact u.o),q.o⟩
    case measure=>simp[intOf];omega
  ·go_wp2_with fail
   go_ret;exact⟨rn (z5u xs x (q7X xs x n k r.o.len (by omega) d.o)),q.o⟩
theorem z3w(ao:Option Addr)(n cap:Nat)(xs:List Int)(x:Int)(w:World)(b:Ints w ao n cap xs):
  Calls Tryz.prog 230 #[.slice ao n cap,.int .i64 x] w fun e w'=>e= .returned (.bool (decide (x∈xs)))/\Ext w w':=by
 have d:=η b;clear b;go_enter Tryz.func230,Tryz.ntmps230
 go_wp2_with (go_at_call 282;(with_reducible refine(z9e _ _ _ xs x _ d.o).mono ?_);rintro e w' ⟨rfl,i⟩)
 go_ret;exact⟨rb (by rw[<-z8D]),by assumption⟩
end
end Go.Proofs.YtfiibpgoplcgkaaGreatDoor
