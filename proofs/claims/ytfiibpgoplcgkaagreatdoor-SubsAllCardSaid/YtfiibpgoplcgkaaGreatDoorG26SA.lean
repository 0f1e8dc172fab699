/- Walks. -/
import Derived.Test.YtfiibpgoplcgkaaGreatDoorG1SA
import Derived.Maps.OwnOps
import Derived.Maps.OwnSet
import Derived.Maps.Views
set_option linter.unusedVariables false
set_option linter.unusedSimpArgs false
set_option maxRecDepth 100000
set_option maxHeartbeats 1600000
namespace Go.Proofs.YtfiibpgoplcgkaaGreatDoor
variable {w:World}{n:Nat}{xs:List Int}{nx ck:Int}{L:List (List Int)}
section
open Go.RowKit Go.Maps
theorem Tryz.keyInt :Keyed Tryz.prog 3:=int_keyed Tryz.underlying3
theorem Tryz.zeroInt(w:World):(zeroValue 3).run Tryz.prog w= .ok (.int .i64 0) w:=by kernel_rfl
def Seen(w:World)(b n:Nat)(xs:List Int):Prop:=
 ∃D:DataW Unit,w.ownsMap Tryz.prog 3 (plainElem Tryz.prog 3) b n D/\ ∀x,D.atKey (.int .i64 x) (.lit (.int .i64 0))= .lit (.int .i64 (if x∈xs then 1 else 0))
theorem Seen.made(w:World):Seen (w.alloc (.map #[] 0)) w.heap.size 0 []:=⟨_,World.ownsMap_made _ _ _ _,fun x=>by simp[DataW.atKey]⟩
theorem Seen.look{b:Nat}(h:Seen w b n xs)(x:Int)(m:(Lit.int .i64 x).wf=true):
  (Instr.lookup 363 (.map (some b)) (.int .i64 x) false).run Tryz.prog w= .ok (.int .i64 (if x∈xs then 1 else 0)) w:=by
 obtain⟨D,j,l⟩:=h;obtain⟨c,i,d,_⟩:=j.lookup_int Tryz.keyInt Tryz.underlying363 Tryz.underlying3 (Tryz.zeroInt _) (keyOf_int_mk Tryz.underlying3 m);rw[l x] at d;injection d with d;injection d with _ d;rw[d];exact i
theorem Seen.put{w':World}{b:Nat}{D:DataW Unit}(l: ∀x,D.atKey (.int .i64 x) (.lit (.int .i64 0))= .lit (.int .i64 (if x∈xs then 1 else 0)))(hm:IsMap D)(x:Int)
  (h:w'.ownsMap Tryz.prog 3 (plainElem Tryz.prog 3) b n (D.put (.int .i64 x) (.lit (.int .i64 1))))(i:List Int)(j: ∀z,z∈i↔(z∈xs\/z=x)):Seen w' b n i:=by
 refine⟨_,h,fun z=>?_⟩;by_cases d:z=x
 ·subst d
  rw[atKey_put_same hm (k:= .int .i64 z) (show WideAt.IsKeyLit (.int .i64 z) from trivial),ξ ((j z).2 (.inr rfl))]
 ·rw[atKey_put_other (by intro h;injection h with _ h;exact d h),l z]
  have:(z∈i)↔(z∈xs):=by rw[j];exact⟨fun h=>h.elim id fun h=>(d h).elim,.inl⟩
  simp only[this]
theorem y1e(ao:Option Addr)(n cap:Nat)(L:List (List Int))(w:World)(S:Grid w ao n cap L)(O:L.flatten.length<=17592186044416)(Q: ∀x∈L.flatten,(Lit.int .i64 x).wf=true):
  Calls Tryz.prog 229 #[.slice ao n cap] w fun e w'=>e= .returned (.bool (q1x L))/\Ext w w':=by
 have Hx:=η S;have b1:=S.fits;have b2:=S.bound;have hl:=S.len;have HL:=η hl;have Y:=η Q;clear S hl Q;have c0:=@run_makeMap Tryz.prog;go_enter Tryz.func229,Tryz.ntmps229;go_wp2_with fail;refine(z4U _ _ _ L _ Hx.o O).mono ?_;rintro e w1 ⟨v1,rfl,y,G⟩;obtain⟨a1,c1,rfl,U⟩:=q3I y;have q:=η G;have HI:=η U;have f1:=U.fits;have f2:=U.bound;clear y G U;have V1:=η (z3G L);have V2:=η (z1k L);have V3:=η (z5e L);have V4:=η (z5d L);have V5:=η (z1l L);generalize L.flatten=xs at*;by_cases h5:5<n
 ·go_wp2_with fail
  go_ret;exact⟨rb (V1.o (by rw[HL.o];exact h5)),q.o⟩
 by_cases b0:40<xs.length
 ·go_wp2_with fail
  go_ret;exact⟨rb (V2.o b0),q.o⟩
 go_wp2_with fail
 go_loopw [20] (fun i w'=> ∃k:Nat,k<=xs.length/\i= .int .i64 k/\Seen w' w1.heap.size k (xs.take k)/\(∀x∈xs.take k,0<=x)/\(xs.take k).Nodup/\Ext w1 w') (fun i _=>xs.length-(intOf i).toNat)
 case atStart=>exact⟨0,υ _,rfl,Seen.made _,by simp,by simp,(Ext.refl _).alloc _⟩
 case round=>
  obtain⟨k,hk,rfl,u,B,M,hb⟩:=hrel;have HS:=η u;have HP:=η B;have HN:=η M;have E:=η hb;clear u B M hb;by_cases d:k<xs.length
  ·obtain⟨b,off,rfl,d1⟩:=(HI.o.ext E.o).at d
   have v3:=V3.o k d;have v4:=V4.o k d;have n1:=q7A xs k d HP.o;have n2:=q7v xs k d HN.o;have n3:=q9t xs k d;have R:=Y.o _ (q4J xs k d);generalize xs.getD k 0=X at*;have Z:=η v3;have a0:=η v4;have N1:=η n1;have N2:=η n2;have N3:=η n3;have F:=η R;clear v3 v4 n1 n2 n3 R;by_cases v:X<0
   ·go_wp2_with fail
    go_ret;exact⟨rb (Z.o v),q.o.trans E.o⟩
   ·have r:=HS.o.look X F.o
    by_cases m:X∈xs.take k
    ·rw[ξ m] at r
     have C:=η m;clear m;go_wp2_with fail;go_ret;exact⟨rb (a0.o C.o),q.o.trans E.o⟩
    ·rw[κ m] at r
     have C:=η m;clear m;obtain⟨D,o1,o2⟩:=HS.o;have O1:=η o1;have O2:=η o2;clear o1 o2
     go_wp2_with (at_mapUpdate;refine wpList_mapUpdate_own _ rfl _ _ _ 363 rfl 3 3 Tryz.keyInt Tryz.underlying363 _ w1.heap.size k _ rfl O1.o (by unfold maxLen;omega) _ _ _ rfl rfl (keyOf_int_mk Tryz.underlying3 F.o) _ [] (plainElem_int Tryz.underlying3 (by decide)) ?_;intro w2 s l)
     have N:=Seen.put O2.o (World.ownsMap.isMap O1.o) X s (xs.take (k+1)) N3.o;have I:Ext w1 w2:=E.o.grown l E.o.size (fun j hj=>by cases hj;exact ι _);have W:=η N;have V:=η I;clear N I s l;go_wp2_with fail
     go_roundw
     case rel=>exact⟨k+1,by omega,by go_num,W.o,N1.o v,N2.o C.o,V.o⟩
     case measure=>simp[intOf];omega
  ·have J:xs.take k=xs:=Δ (by omega)
   have HK:=η J;clear J;go_wp2_with fail;go_ret;exact⟨rb (V5.o (by rw[HL.o];omega) (by omega) (by have:=HP.o;rwa [HK.o] at this) (by have:=HN.o;rwa [HK.o] at this)),q.o.trans E.o⟩
end
section
open Go.RowKit
def q0k(nx ck:Int)(L:List (List Int)):Bool:=decide (0<=nx/\nx<=1000000/\0<=ck/\ck<=2147483647)&&q1x L&&L.flatten.all fun x=>decide (x<nx)
theorem q4u(h:¬(0<=nx/\nx<=1000000/\0<=ck/\ck<=2147483647)):q0k nx ck L=false:=by
 unfold q0k;rw[ε h];rfl
theorem z5D(h:q1x L=false):q0k nx ck L=false:=by
 unfold q0k;rw[h,Bool.and_false,Bool.false_and]
theorem q8u(h:0<=nx/\nx<=1000000/\0<=ck/\ck<=2147483647)(b:q1x L=true):q0k nx ck L=L.flatten.all fun x=>decide (x<nx):=by
 unfold q0k;rw[ζ h,b,Bool.true_and,Bool.true_and]
theorem z5t{w1:World}{a b c d:Value}{t:TypeId}(h:Ext (w.alloc (.cells #[a,b,c,d] t)) w1):
  w1.cell? ⟨w.heap.size,0,none⟩=some a/\w1.cell? ⟨w.heap.size,1,none⟩=some b/\w1.cell? ⟨w.heap.size,2,none⟩=some c/\w1.cell? ⟨w.heap.size,3,none⟩=some d:=
 ⟨q0A h (by simp),q0A h (by simp),q0A h (by simp),q0A h (by simp)⟩
theorem y0J(x nx:Int)(g:Nat)(w:World)(h:w.cell? ⟨g,0,none⟩=some (.int .i64 nx)):
  Calls Tryz.prog 260 #[.int .i64 x,.pointer (some ⟨g,0,none⟩)] w fun e w'=>e= .returned (.bool (decide (nx<=x)))/\Ext w w':=by
 go_enter Tryz.func260,Tryz.ntmps260;go_wp2_with fail;go_ret;exact⟨rfl,Ext.refl _⟩
def q4K(xs:List Int)(nx:Int):Int:=if xs.any (fun x=>decide (nx<=x)) then(xs.findIdx (fun x=>decide (nx<=x)):Int) else-1
theorem z1D(xs:List Int)(nx:Int)(k:Nat)(d:k<xs.length)(i:(xs.take k).any (fun x=>decide (nx<=x))=false)(b:nx<=xs.getD k 0):q4K xs nx=k:=by
 have l:xs.any (fun x=>decide (nx<=x))=true:=z1u _ 0 xs k d (ζ b);unfold q4K;rw[ξ l];have :xs.findIdx (fun x=>decide (nx<=x))=k:=by
  rw[List.findIdx_eq d];refine⟨?_,fun j m=>?_⟩
  ·rw[δ,γ d] at b
   exact ζ b
  ·rw[List.any_eq_false] at i
   have:=i xs[j] (List.mem_take_iff_getElem.2 ⟨j,by omega,rfl⟩)
   simpa using this
 rw[this]
theorem q9o(xs:List Int)(nx:Int)(h:xs.any (fun x=>decide (nx<=x))=false):q4K xs nx= -1:=by
 unfold q4K;rw[h];rfl
theorem z1E(xs:List Int)(nx:Int):decide (0<=q4K xs nx)=xs.any (fun x=>decide (nx<=x)):=by
 unfold q4K
 cases h:xs.any (fun x=>decide (nx<=x))
 ·simp
 ·simp
theorem q9N(xs:List Int)(nx:Int):(!(xs.any fun x=>decide (nx<=x)))=xs.all fun x=>decide (x<nx):=by
 rw[List.not_any_eq_all_not]
 congr 1
 funext x
 by_cases h:nx<=x
 ·rw[ζ h,ε (by omega)];rfl
 ·rw[ε h,ζ (by omega)];rfl
theorem y2I(ao:Option Addr)(n cap:Nat)(xs:List Int)(nx:Int)(g:Nat)(w:World)(u:Ints w ao n cap xs)(D:w.cell? ⟨g,0,none⟩=some (.int .i64 nx)):
  Calls Tryz.prog 312 #[.slice ao n cap,.func (Fn.func 260) #[] #[.pointer (some ⟨g,0,none⟩)]] w fun e w'=>e= .returned (.int .i64 (q4K xs nx))/\Ext w w':=by
 have s:=η u;have E:=η D;have b1:=u.fits;have b2:=u.bound;clear u D;go_enter Tryz.func312,Tryz.ntmps312;go_wp2_with fail
 go_loopw [8] (fun i w'=> ∃k:Nat,k<=n/\i= .int .i64 k/\(xs.take k).any (fun x=>decide (nx<=x))=false/\Ext w w') (fun i _=>n-(intOf i).toNat)
 case atStart=>exact⟨0,υ _,rfl,by simp,Ext.refl _⟩
 case round=>
  obtain⟨k,G,rfl,q,C⟩:=hrel;have d:=η q;have r:=η C;clear q C;by_cases j:k<n
  ·obtain⟨b,off,rfl,F⟩:=(s.o.ext r.o).at j
   generalize B:xs.getD k 0=X at*;have y:=η B;clear B;go_wp2_with fail;refine(y0J X nx g _ (q0A r.o E.o)).mono ?_;rintro e w1 ⟨rfl,m⟩;have l:=η (r.o.trans m);clear m;by_cases v:nx<=X
   ·go_wp2_with fail
    go_ret;exact⟨rn (z1D xs nx k (by rw[s.o.len];exact j) d.o (by rw[y.o];exact v)),l.o⟩
   ·go_wp2_with fail
    go_roundw
    case rel=>exact⟨k+1,by omega,by go_num,q9O _ 0 xs k (by rw[s.o.len];exact j) d.o (by rw[y.o];exact ε (by omega)),l.o⟩
    case measure=>simp[intOf];omega
  ·go_wp2_with fail
   go_ret;exact⟨rn (q9o xs nx (z1v _ xs n k s.o.len (by omega) d.o)),r.o⟩
theorem z2B(ao:Option Addr)(n cap:Nat)(xs:List Int)(nx:Int)(g:Nat)(w:World)(i:Ints w ao n cap xs)(d:w.cell? ⟨g,0,none⟩=some (.int .i64 nx)):
  Calls Tryz.prog 259 #[.slice ao n cap,.func (Fn.func 260) #[] #[.pointer (some ⟨g,0,none⟩)]] w fun e w'=>e= .returned (.bool (xs.any fun x=>decide (nx<=x)))/\Ext w w':=by
 have m:=η i;have l:=η d;clear i d;go_enter Tryz.func259,Tryz.ntmps259;go_wp2_with fail;refine(y2I _ _ _ xs nx g _ m.o l.o).mono ?_;rintro e w1 ⟨rfl,b⟩;have j:=η b;clear b;go_wp2_with fail;go_ret;exact⟨rb (by rw[<-z1E]),j.o⟩
theorem q9v(nx ck sd:Int)(ao:Option Addr)(n cap:Nat)(L:List (List Int))(w:World)(F:Grid w ao n cap L)(j:L.flatten.length<=17592186044416)(q: ∀x∈L.flatten,(Lit.int .i64 x).wf=true):
  Calls Tryz.prog 200 #[.agg #[.int .i64 nx,.int .i64 ck,.int .u64 sd,.slice ao n cap]] w fun e w'=>e= .returned (.bool (q0k nx ck L))/\Ext w w':=by
 have D:=η F;have v:=η q;clear F q;by_cases V:nx<0
 ·have hm:q0k nx ck L=false:=q4u (by omega)
  have b:=η hm;clear hm;go_enter Tryz.func200,Tryz.ntmps200;go_wp2_with fail;go_ret;exact⟨by rw[b.o];rfl,q0B _ _⟩
 by_cases W:1000000<nx
 ·have hm:q0k nx ck L=false:=q4u (by omega)
  have b:=η hm;clear hm;go_enter Tryz.func200,Tryz.ntmps200;go_wp2_with fail;go_ret;exact⟨by rw[b.o];rfl,q0B _ _⟩
 by_cases X:ck<0
 ·have hm:q0k nx ck L=false:=q4u (by omega)
  have b:=η hm;clear hm;go_enter Tryz.func200,Tryz.ntmps200;go_wp2_with fail;go_ret;exact⟨by rw[b.o];rfl,q0B _ _⟩
 by_cases Y:2147483647<ck
 ·have hm:q0k nx ck L=false:=q4u (by omega)
  have b:=η hm;clear hm;go_enter Tryz.func200,Tryz.ntmps200;go_wp2_with fail;go_ret;exact⟨by rw[b.o];rfl,q0B _ _⟩
 go_enter Tryz.func200,Tryz.ntmps200;go_wp2_with fail;refine(y1e _ _ _ L _ (D.o.ext (q0B _ _)) j v.o).mono ?_;rintro e w1 ⟨rfl,d⟩;obtain⟨I,J,M,N⟩:=z5t d;have r:=η d;clear d;by_cases y:q1x L=false
 ·have hm:q0k nx ck L=false:=z5D y
  have b:=η hm;clear hm;go_wp2_with fail;go_ret;exact⟨by rw[b.o];rfl,(q0B _ _).trans r.o⟩
 have B:q1x L=true:=by simpa using y
 have hm:q0k nx ck L=!(L.flatten.any fun x=>decide (nx<=x)):=by rw[q9N];exact q8u (by omega) B
 have b:=η hm;clear hm y;generalize hF:L.flatten=xs at*;have C:=η hF;clear hF;go_wp2_with fail;refine(z4U _ _ _ L _ ((D.o.ext (q0B _ _)).ext r.o) (by rw[C.o];exact j)).mono ?_;rw[C.o];rintro e w2 ⟨Z,rfl,i,d⟩;obtain⟨S,U,rfl,m⟩:=q3I i;have l:=η (r.o.trans d);obtain⟨E,O,Q,R⟩:=z5t l.o;have u:=η m;have G:=η E;clear i d m r I J M N;go_wp2_with fail;refine(z2B _ _ _ xs nx w.heap.size _ u.o G.o).mono ?_;rintro e w3 ⟨rfl,d⟩;have s:=η (l.o.trans d);clear d E O Q R;go_wp2_with fail;go_ret;exact⟨rb b.o,(q0B _ _).trans s.o⟩
end
end Go.Proofs.YtfiibpgoplcgkaaGreatDoor
