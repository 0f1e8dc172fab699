/- Walks. -/
import Derived.Test.YtfiibpgoplcgkaaGreatDoorChecked
import Derived.Test.YtfiibpgoplcgkaaGreatDoorG1WS
import Derived.WalkSpells
set_option linter.unusedVariables false
set_option linter.unusedSimpArgs false
set_option maxRecDepth 100000
set_option maxHeartbeats 1600000
namespace Go.Proofs.YtfiibpgoplcgkaaGreatDoor
variable {α:Type}
section
open Go.RowKit
theorem Tryz.infoInt :(Tryz.prog.info? 3).map (fun i=>(i.zero,i.size,i.bytes))=some (some (.int .i64 0),1,8):=by kernel_rfl
theorem Tryz.infoInts :(Tryz.prog.info? 37).map (fun i=>(i.zero,i.size,i.bytes))=some (some (.slice none 0 0),1,24):=by kernel_rfl
theorem y3G(n:Nat)(w:World)(x:n<=17592186044416):
  Calls Tryz.prog 109 #[.slice none 0 0,.int .i64 n] w (y4K 3 w []):=by
 by_cases u:n=0
 ·subst u
  go_enter Tryz.func109,Tryz.ntmps109;go_wp2_with fail;go_ret;exact⟨_,rfl,Own.nil _ _ _ _,Ext.refl _⟩
 ·have h1:0<n:=by omega
  obtain⟨i,m,r,b,d⟩:=info_parts Tryz.infoInt;have q:=Lib.run_append_nil_zeros (P:=Tryz.prog) w 37 3 37 3 i (.int .i64 0) .i64 .i64 Tryz.underlying37 Tryz.underlying3 m r n h1 (by omega) (by omega) (by rw[d];omega);have s:=η q;clear q;have j:=η (grownCap_ge w n 0 3);have l:=η (grownCap_le_maxLen w n 0 3 (by unfold maxLen;omega));have v:=η b;clear m r b d;go_enter Tryz.func109,Tryz.ntmps109
  go_wp2_with (at_builtin;refine Lib.wpList_append_run _ rfl _ _ _ _ rfl _ _ rfl rfl _ _ s.o ?_)
  go_ret;refine⟨_,rfl,Own.of_row ⟨rfl,.inr ⟨w.heap.size,grownCap w n 0 3,_,rfl,ι _,heap_alloc_new w.drew _,υ _,l.o,?_,rfl⟩⟩,(Ext.refl w).drew.alloc _⟩;have:=j.o;simp[size_zeroCells];omega
theorem z9T(ao:Option Addr)(n cap:Nat)(L:List (List Int))(w:World)(N:Grid w ao n cap L)(X:L.flatten.length<=17592186044416):
  Calls Tryz.prog 60 #[.slice ao n cap] w (y4K 3 w L.flatten):=by
 have D:=η N;have b1:=N.fits;have b2:=N.bound;clear N;go_enter Tryz.func60,Tryz.ntmps60;go_wp2_with fail
 go_loopw [3,11] (fun s i w'=> ∃k:Nat,k<=n/\i= .int .i64 k/\s= .int .i64 (L.take k).flatten.length/\Ext w w') (fun _ i _=>n-(intOf i).toNat)
 case atStart=>exact⟨0,υ _,rfl,rfl,Ext.refl _⟩
 case round=>
  obtain⟨k,hk,rfl,rfl,I⟩:=hrel;have q:=η I;clear I;by_cases x:k<n
  ·obtain⟨b,off,ai,O,ci,rfl,c1,J⟩:=(D.o.ext q.o).at x
   have R1:=η J;clear J;have B:k<L.length:=by rw[D.o.len];exact x
   have E:=q2l L k B;have C:=q2A L (k+1);have d:(L.take k).flatten.length+O=(L.take (k+1)).flatten.length:=by rw[E,θ,R1.o.len]
   have G:=η d;have g1:(L.take k).flatten.length+O<=17592186044416:=by omega
   clear E C d;generalize (L.take k).flatten.length=F at*;go_wp2_with fail
   go_roundw
   case rel=>exact⟨k+1,by omega,by go_num,by rw[<-G.o];go_num,q.o⟩
   case measure=>simp[intOf];omega
  ·have m:L.take k=L:=Δ (by have:=D.o.len;omega)
   have U:=η m;have hF:(L.take k).flatten.length=L.flatten.length:=by rw[m]
   rw[hF];clear m hF;generalize hF:L.flatten.length=F at*;have Y:=η hF;clear hF
   go_wp2_with (go_at_call 109;(with_reducible refine(y3G F _ (by omega)).mono ?_);rintro e w1 ⟨v1,rfl,j,u⟩)
   have S:=η (q.o.trans u);have y:Own w1 w.heap.size 3 1 v1 0 []:=j.base q.o.size;have M:=η y;clear j y u q
   go_loopw [6,27] (fun v i w'=> ∃k:Nat,k<=n/\i= .int .i64 k/\Own w' w.heap.size 3 1 v (L.take k).flatten.length ((L.take k).flatten.map (Value.int .i64))/\Ext w w') (fun _ i _=>n-(intOf i).toNat)
   case atStart=>exact⟨0,υ _,rfl,M.o,S.o⟩
   case round=>
    clear M S;obtain⟨k,hk,rfl,j,I⟩:=hrel;have q:=η I;clear I;have r:=η j;clear j;by_cases x:k<n
    ·obtain⟨b,off,ai,O,ci,rfl,c1,J⟩:=(D.o.ext q.o).at x
     have R1:=η J;clear J;have B:k<L.length:=by rw[D.o.len];exact x
     have E:=q2l L k B;have C:=q2A L (k+1);have d:(L.take k).flatten.length+O=(L.take (k+1)).flatten.length:=by rw[E,θ,R1.o.len]
     have Z:=η E;clear E;have G:=η d;clear d;have R:=Y.o;have W:(L.take (k+1)).flatten.length<=F:=by omega
     clear R C
     go_wp2_with (at_builtin;refine q0Y rfl _ _ 37 rfl w.heap.size 3 _ 1 8 Tryz.underlying37 Tryz.infoInt rfl (by decide) _ _ _ rfl r.o _ _ _ ((L.getD k []).map (Value.int .i64)) rfl (by rw[List.length_map,R1.o.len];omega) R1.o.nil R1.o.rd (ints_oneCell _ _) (by have:=G.o;omega) (by have:=G.o;omega) q.o.size ?_;intro v' w2 l V _)
     have u:=q0z q.o r.o V q.o.size;have Q:=η u;clear u;rw[<-List.map_append,<-Z.o,G.o] at l;have M:=η l;clear l V;go_wp2_with fail
     go_roundw
     case rel=>exact⟨k+1,by omega,by go_num,M.o,Q.o⟩
     case measure=>simp[intOf];omega
    ·have m:L.take k=L:=Δ (by have:=D.o.len;omega)
     have U:=η m;clear m;go_wp2_with fail;go_ret;exact⟨_,rfl,by have:=r.o;rw[U.o] at this;exact this,q.o⟩
theorem z2h(ao:Option Addr)(n cap:Nat)(L:List (List Int))(w:World)(i:Grid w ao n cap L)(b:L.flatten.length<=17592186044416):
  Calls Tryz.prog 15 #[.slice ao n cap] w (y4K 3 w L.flatten):=by
 have j:=η i;clear i;go_enter Tryz.func15,Tryz.ntmps15
 go_wp2_with (go_at_call 60;(with_reducible refine(z9T _ _ _ L _ j.o b).mono ?_);rintro e w1 ⟨m,rfl,d,l⟩)
 go_ret;exact⟨_,rfl,by assumption,by assumption⟩
theorem Rd.none{w:World}{cs:List Value}(h:Rd w none cs):cs=[]:=by
 cases cs with
 |nil=>rfl
 |cons y ys=>obtain⟨b,off,e,_⟩:=h 0 y rfl;cases e
theorem y1T(ao:Option Addr)(n cap:Nat)(xs:List Int)(w:World)(i:Ints w ao n cap xs)(B:n<=17592186044416):
  Calls Tryz.prog 118 #[.slice ao n cap] w (y4K 3 w xs):=by
 have u:=η i;have b1:=i.fits;have b2:=i.bound;have j:=i.len;have b:=i.nil;have hq:=fun (w:World) (a:Option Addr) (n c y v:Nat)=>Lib.run_eql_slice_nil (P:=Tryz.prog) w 37 3 a n c y v Tryz.underlying37
 cases ao with
 | none=>
  have x:xs=[]:=by simpa using i.rd.none
  have hc:=b rfl;subst x hc;obtain rfl:n=0:=by omega
  clear i j b;go_enter Tryz.func118,Tryz.ntmps118;go_wp2_with fail;go_ret;exact⟨_,rfl,Own.nil _ _ _ _,Ext.refl _⟩
 | some a=>
  have l:=η j;clear i j b;go_enter Tryz.func118,Tryz.ntmps118
  go_wp2_with (at_builtin;refine q0Y rfl _ _ 37 rfl w.heap.size 3 _ 1 8 Tryz.underlying37 Tryz.infoInt rfl (by decide) _ _ _ rfl (Own.lit w #[] 3 1 0 (ι _) rfl (by omega)) _ _ _ (xs.map (Value.int .i64)) rfl (by rw[List.length_map,l.o];omega) (fun h=>by cases h) (u.o.rd.ext ((Ext.refl w).alloc _)) (ints_oneCell _ _) (by omega) (by omega) (by simp) ?_;intro C w1 d q _)
  have m:=q0z ((Ext.refl w).alloc (.cells #[] 3)) (Own.lit w #[] 3 1 0 (ι _) rfl (by omega)) q (by simp);have r:=η m;have s:=η d;clear m d q;go_wp2_with fail;go_ret;exact⟨_,rfl,by have:=s.o;rw[l.o];simpa using this,r.o⟩
theorem y0q(ao:Option Addr)(n cap:Nat)(w:World)(h:n<=cap)(b:cap<=9223372036854775807):
  Calls Tryz.prog 283 #[.slice ao n cap] w fun e w'=>e= .returned (.slice ao n n)/\w=w':=by
 go_enter Tryz.func283,Tryz.ntmps283;go_wp2_with fail;go_ret;exact⟨rfl,rfl⟩
theorem y1s(ao:Option Addr)(n cap:Nat)(L:List (List Int))(w:World)(hx:Grid w ao n cap L)(hs: ∀i,(L.getD i []).length<=17592186044416)(hn:n<=1000000000):
  Calls Tryz.prog 231 #[.slice ao n cap] w (y4j 37 3 w (q0c L)):=by
 have Hx:=η hx;have b1:=hx.fits;have b2:=hx.bound;clear hx;go_enter Tryz.func231,Tryz.ntmps231;go_wp2_with fail
 go_loopw [3,8] (fun v i w'=> ∃k:Nat,k<=n/\i= .int .i64 k/\(∃vs,OGr w' w.heap.size 37 3 v vs (L.take k))/\Ext w w') (fun _ i _=>n-(intOf i).toNat)
 case atStart=>exact⟨0,υ _,rfl,⟨[],OGr.nil _ _ _ _⟩,Ext.refl _⟩
 case round =>
  obtain⟨k,hk,rfl,⟨vs,l⟩,Z⟩:=hrel;have x:=η Z;clear Z;have d:=η l;clear l;by_cases F:k<n
  ·obtain⟨b,off,ai,ni,ci,rfl,c1,y⟩:=(Hx.o.ext x.o).at F
   have n0:k<L.length:=by rw[Hx.o.len];exact F
   have o0:ni<=17592186044416:=by have:=y.len;have:=hs k;omega
   have g0:=q0Z L [] k n0;generalize L.getD k []=R at*;have R1:=η y;clear y;have m0:=η g0;clear g0;go_wp2_with fail;refine(y1T _ _ _ R _ R1.o o0).mono ?_;rintro e w1 ⟨vi,rfl,I,E⟩;obtain⟨V,X,rfl⟩:=I.slice;have HV:=η I;have O:=η E;have q0:=E.size;have f0:=x.o.size;clear I E;have c0:(L.take k).length=k:=by simp;omega
   have Q:=η c0;clear c0;have B:OGr (w1.alloc (.cells #[.slice V R.length X] 37)) w.heap.size 37 3 u3 vs (L.take k):=(d.o.ext O.o).ext ((Ext.refl _).alloc _);have q:=η B;clear B
   go_wp2_with (at_builtin;refine q0Y rfl _ _ 45 rfl w.heap.size 37 _ 1 24 Tryz.underlying45 Tryz.infoInts rfl (by decide) _ _ _ rfl q.o.own _ _ _ [.slice V R.length X] rfl rfl (fun h=>by cases h) (Rd.lit _ _ _) (by intro u hu;rw[List.mem_singleton.1 hu];rfl) (by rw[Q.o];omega) (by rw[Q.o];omega) (by simp;omega) ?_;intro v' w2 s M _)
   have a0:=q0z (x.o.trans (O.o.alloc _)) q.o.own M (by simp;omega);have j0:=η a0;clear a0;have j:=q.o.push (by decide) (HV.o.ext ((Ext.refl _).alloc _)) f0 d.o.lt s M;rw[<-m0.o] at j;have D:=η j;clear j s M;go_wp2_with fail
   go_roundw
   case rel=>exact⟨k+1,by omega,by go_num,⟨_,D.o⟩,j0.o⟩
   case measure=>simp[intOf];omega
  ·have b0 :k=n:=by omega
   have hL:L.take k=L.take n:=by rw[b0]
   rw[hL] at d;clear hL b0;have d0:=Hx.o.len;have h1:=d.o;obtain⟨p0,cap1,rfl,_⟩:=h1.grid;have G:(L.take n).length=n:=by simp;omega
   rw[G] at h1;rw[G];have S:=η d0;clear d0;have H1:=η h1;clear h1 G d;go_wp2_with fail
   go_loopw [3] (fun v w'=> ∃m:Nat,m<=n/\(∃ao c vs,v= .slice ao m c/\OGr w' w.heap.size 37 3 v vs (L.take m))/\q1N L m=q1N L n/\Ext w w') (fun v _=>y3O v)
   case atStart=>exact⟨n,ι _,⟨_,_,_,rfl,H1.o⟩,rfl,x.o⟩
   case round=>
    clear x H1 F hk;obtain⟨m,hm,⟨W,c2,J,rfl,l⟩,i0,Z⟩:=hrel;have U:=η i0;clear i0;have x:=η Z;clear Z;have d:=η l;clear l;have r:(L.take m).length=m:=by have:=S.o;simp;omega
    have Y: ∀w',Ext w w'->OGr w' w.heap.size 37 3 (.slice W m c2) J (L.take m)->q1N L m=m->y4j 37 3 w (q0c L) (.returned (.slice W m m)) w':=by
     intro w' he M ht;have hT:q0c L=(L.take m).take m:=by
      rw[q0c,S.o,<-U.o,ht,List.take_take,Nat.min_self]
     refine⟨_,J.take m,rfl,?_,he⟩;rw[hT];obtain⟨_,_,e,j⟩:=M.grid;rw[r] at e
     cases e;exact M.cut r (ι _) (ι _) (by have:=j.fits;omega)
    have N:=η Y;clear Y;have j:=d.o.grid;obtain⟨_,_,e,j⟩:=j;rw[r] at e j
    cases e;have D:=η j;have f1:=j.fits;have f2:=j.bound;clear j;have k0:=η r;clear r
    cases m with
    | zero=>
     go_wp2_with (go_at_call 283;(with_reducible refine(y0q _ _ _ _ (by omega) (by omega)).mono ?_);rintro e w1 ⟨rfl,rfl⟩)
     go_ret;exact N.o _ x.o d.o rfl
    | succ m=>
     obtain⟨b,off,ai,ni,ci,rfl,c1,y⟩:=D.o.at (Nat.lt_succ_self m);have C:(L.take (m+1)).getD m []=L.getD m []:=q3y _ _ _ _ (by omega);rw[C] at y;have hR:=y.len;have g1:=y.fits;have g2:=y.bound;have HR:=η hR;clear y C hR;by_cases h0:ni=0
     ·have he:L.getD m []=[]:=List.eq_nil_of_length_eq_zero (by have:=HR.o;omega)
      have HE:=η he;clear he;subst h0;go_wp2_with fail
      go_roundw
      case rel=>
       refine⟨m,by omega,⟨_,_,J.take m,rfl,?_⟩,by rw[<-q5y L m HE.o];exact U.o,x.o⟩;have hc:=d.o.cut k0.o (m:=m) (c:=c2) (by omega) (by omega) (ι _);rw[List.take_take,Nat.min_eq_left (by omega)] at hc;exact hc
      case measure=>simp[y3O]
     ·have e0:L.getD m []≠[]:=by intro h;have:=HR.o;rw[h] at this;simp at this;omega
      have hz:((ni:Int)==0)=false:=by simpa using h0
      have l0:=η e0;clear e0 h0
      go_wp2_with (go_at_call 283;(with_reducible refine(y0q _ _ _ _ (by omega) (by omega)).mono ?_);rintro e w1 ⟨rfl,rfl⟩)
      go_ret;exact N.o _ x.o d.o (q4Q L m l0.o)
theorem q9w(p:α->Bool)(d:α)(L:List α)(k:Nat)(h:k<L.length)(b:(L.take k).any p=false)(h1:p (L.getD k d)=false):(L.take (k+1)).any p=false:=by
 rw[q0Z L d k h,List.any_append,b];simp only[List.any_cons,List.any_nil,h1,Bool.or_self]
theorem z2j(p:α->Bool)(d:α)(L:List α)(k:Nat)(h:k<L.length)(h1:p (L.getD k d)=true):L.any p=true:=by
 rw[List.any_eq_true];refine⟨L[k],List.getElem_mem h,?_⟩;rw[δ,γ h] at h1;exact h1
theorem z2k(p:α->Bool)(L:List α)(n k:Nat)(i:L.length=n)(d:n<=k)(b:(L.take k).any p=false):L.any p=false:=by
 rwa [Δ (by omega)] at b
theorem q6u(xs:List Int)(x:Int)(k:Nat)(h:k<xs.length)(b:x∉xs.take k)(h1:xs.getD k 0≠x):x∉xs.take (k+1):=by
 rw[q0Z xs 0 k h,List.mem_append];rintro(h2|h2)
 ·exact b h2
 ·exact h1 (List.mem_singleton.1 h2).symm
theorem z3O(xs:List Int)(x:Int)(k:Nat)(h:k<xs.length)(h1:xs.getD k 0=x):x∈xs:=by
 rw[<-h1,δ,γ h];exact List.getElem_mem h
theorem q8b(xs:List Int)(x:Int)(n k:Nat)(i:xs.length=n)(d:n<=k)(b:x∉xs.take k):x∉xs:=by
 rwa [Δ (by omega)] at b
def y1h(xs:List Int)(x:Int):Int:=if x∈xs then(xs.idxOf x:Int) else-1
theorem y0B(xs:List Int)(x:Int)(k:Nat)(h:k<xs.length)(d:x∉xs.take k)(h1:xs.getD k 0=x):y1h xs x=k:=by
 have hm:=z3O xs x k h h1;rw[y1h,ξ hm];have e:xs=xs.take k++xs.drop k:=(List.take_append_drop k xs).symm;have b:xs.drop k=x::xs.drop (k+1):=by
  rw[List.drop_eq_getElem_cons h];rw[δ,γ h] at h1;simp at h1;rw[h1]
 have:xs.idxOf x=k:=by
  rw[e,b,List.idxOf_append,κ d,List.idxOf_cons_self];simp;omega
 omega
theorem z7g(xs:List Int)(x:Int)(h:x∉xs):y1h xs x= -1:=by rw[y1h,κ h]
theorem y0C(xs:List Int)(x:Int):decide (0<=y1h xs x)=decide (x∈xs):=by
 unfold y1h;by_cases h:x∈xs
 ·simp[h]
 ·simp[h]
theorem y1j(ao:Option Addr)(n cap:Nat)(xs:List Int)(x:Int)(w:World)(s:Ints w ao n cap xs):
  Calls Tryz.prog 282 #[.slice ao n cap,.int .i64 x] w fun e w'=>e= .returned (.int .i64 (y1h xs x))/\Ext w w':=by
 have r:=η s;have b1:=s.fits;have b2:=s.bound;clear s;go_enter Tryz.func282,Tryz.ntmps282;go_wp2_with fail
 go_loopw [8] (fun i w'=> ∃k:Nat,k<=n/\i= .int .i64 k/\x∉xs.take k/\Ext w w') (fun i _=>n-(intOf i).toNat)
 case atStart=>exact⟨0,υ _,rfl,by simp,Ext.refl _⟩
 case round=>
  obtain⟨k,E,rfl,m,C⟩:=hrel;have d:=η m;clear m;have q:=η C;clear C;by_cases j:k<n
  ·obtain⟨b,off,rfl,D⟩:=(r.o.ext q.o).at j
   generalize B:xs.getD k 0=X at*;have y:=η B;clear B;by_cases l:X=x
   ·have v:(x==X)=true:=by simpa using l.symm
    have u:=η l;clear l;go_wp2_with fail;go_ret;exact⟨rn (y0B xs x k (by rw[r.o.len];exact j) d.o (y.o.trans u.o)),q.o⟩
   ·have v:(x==X)=false:=by simpa using(Ne.symm l)
    have u:=η l;clear l;go_wp2_with fail
    go_roundw
    case rel=>exact⟨k+1,by omega,by go_num,q6u xs x k (by rw[r.o.len];exact j) d.o (by rw[y.o];exact u.o),q.o⟩
    case measure=>simp[intOf];omega
  ·go_wp2_with fail
   go_ret;exact⟨rn (z7g xs x (q8b xs x n k r.o.len (by omega) d.o)),q.o⟩
theorem q9N(ao:Option Addr)(n cap:Nat)(xs:List Int)(x:Int)(w:World)(b:Ints w ao n cap xs):
  Calls Tryz.prog 230 #[.slice ao n cap,.int .i64 x] w fun e w'=>e= .returned (.bool (decide (x∈xs)))/\Ext w w':=by
 have d:=η b;clear b;go_enter Tryz.func230,Tryz.ntmps230
 go_wp2_with (go_at_call 282;(with_reducible refine(y1j _ _ _ xs x _ d.o).mono ?_);rintro e w' ⟨rfl,i⟩)
 go_ret;exact⟨rb (by rw[<-y0C]),by assumption⟩
end
end Go.Proofs.YtfiibpgoplcgkaaGreatDoor
