/- Walks. -/
import Derived.Test.YteabhdclmodefaaGreatDoorG14CT
import Derived.Maps.OwnOps
import Derived.Maps.OwnSet
import Derived.Maps.Views
set_option linter.unusedVariables false
set_option linter.unusedSimpArgs false
set_option maxRecDepth 100000
set_option maxHeartbeats 3200000
namespace Go.Proofs.YteabhdclmodefaaGreatDoor
variable {w:World}{n B i cap:Nat}{xs:List Int}{nx ck:Int}{L:List (List Int)}{tO tI:TypeId}{vs:List Value}
section
open Go.RowKit Go.Maps
theorem Tryz.keyInt :Keyed Tryz.prog 3:=int_keyed Tryz.underlying3
theorem Tryz.zeroInt(w:World):(zeroValue 3).run Tryz.prog w= .ok (.int .i64 0) w:=by kernel_rfl
def Seen(w:World)(b n:Nat)(xs:List Int):Prop:=
 ∃D:DataW Unit,w.ownsMap Tryz.prog 3 (plainElem Tryz.prog 3) b n D/\ ∀x,D.atKey (.int .i64 x) (.lit (.int .i64 0))= .lit (.int .i64 (if x∈xs then 1 else 0))
theorem Seen.made(w:World):Seen (w.alloc (.map #[] 0)) w.heap.size 0 []:=⟨_,World.ownsMap_made _ _ _ _,fun x=>by simp[DataW.atKey]⟩
theorem Seen.look{b:Nat}(h:Seen w b n xs)(x:Int)(l:(Lit.int .i64 x).wf=true):
  (Instr.lookup 300 (.map (some b)) (.int .i64 x) false).run Tryz.prog w= .ok (.int .i64 (if x∈xs then 1 else 0)) w:=by
 obtain⟨D,h1,h2⟩:=h;obtain⟨c,j,d,_⟩:=h1.lookup_int Tryz.keyInt Tryz.underlying300 Tryz.underlying3 (Tryz.zeroInt _) (keyOf_int_mk Tryz.underlying3 l);rw[h2 x] at d;injection d with d;injection d with _ d;rw[d];exact j
theorem Seen.put{w':World}{b:Nat}{D:DataW Unit}(m: ∀x,D.atKey (.int .i64 x) (.lit (.int .i64 0))= .lit (.int .i64 (if x∈xs then 1 else 0)))(hm:IsMap D)(x:Int)
  (h:w'.ownsMap Tryz.prog 3 (plainElem Tryz.prog 3) b n (D.put (.int .i64 x) (.lit (.int .i64 1))))(j:List Int)(l: ∀z,z∈j↔(z∈xs\/z=x)):Seen w' b n j:=by
 refine⟨_,h,fun z=>?_⟩;by_cases d:z=x
 ·subst d
  rw[atKey_put_same hm (k:= .int .i64 z) (show WideAt.IsKeyLit (.int .i64 z) from trivial),ξ ((l z).2 (.inr rfl))]
 ·rw[atKey_put_other (by intro h;injection h with _ h;exact d h),m z]
  have:(z∈j)↔(z∈xs):=by rw[l];exact⟨fun h=>h.elim id fun h=>(d h).elim,.inl⟩
  simp only[this]
theorem z4k(ao:Option Addr)(n cap:Nat)(L:List (List Int))(w:World)(U:Grid w ao n cap L)(Q:L.flatten.length<=17592186044416)(R: ∀x∈L.flatten,(Lit.int .i64 x).wf=true):
  Calls Tryz.prog 185 #[.slice ao n cap] w fun e w'=>e= .returned (.bool (q0e L))/\Ext w w':=by
 have Hx:=η U;have b1:=U.fits;have b2:=U.bound;have hl:=U.len;have HL:=η hl;have Z:=η R;clear U hl R;have d0:=@run_makeMap Tryz.prog;go_enter Tryz.func185,Tryz.ntmps185;go_wp2_with fail;refine(z2F _ _ _ L _ Hx.o Q).mono ?_;rintro e w1 ⟨v1,rfl,y,I⟩;obtain⟨a1,c1,rfl,V⟩:=q2H y;have q:=η I;have HI:=η V;have f1:=V.fits;have f2:=V.bound;clear y I V;have V1:=η (z4j L);have V2:=η (z3X L);have V3:=η (z7J L);have V4:=η (z7H L);have V5:=η (q7A L);generalize L.flatten=xs at*;by_cases h5:5<n
 ·go_wp2_with fail
  go_ret;exact⟨rb (V1.o (by rw[HL.o];exact h5)),q.o⟩
 by_cases c0:40<xs.length
 ·go_wp2_with fail
  go_ret;exact⟨rb (V2.o c0),q.o⟩
 go_wp2_with fail
 go_loopw [20] (fun i w'=> ∃k:Nat,k<=xs.length/\i= .int .i64 k/\Seen w' w1.heap.size k (xs.take k)/\(∀x∈xs.take k,0<=x)/\(xs.take k).Nodup/\Ext w1 w') (fun i _=>xs.length-(intOf i).toNat)
 case atStart=>exact⟨0,υ _,rfl,Seen.made _,by simp,by simp,(Ext.refl _).alloc _⟩
 case round=>
  obtain⟨k,hk,rfl,u,C,N,hb⟩:=hrel;have HS:=η u;have HP:=η C;have HN:=η N;have F:=η hb;clear u C N hb;by_cases d:k<xs.length
  ·obtain⟨b,off,rfl,d1⟩:=(HI.o.ext F.o).at d
   have v3:=V3.o k d;have v4:=V4.o k d;have n1:=q8A xs k d HP.o;have n2:=q9I xs k d HN.o;have n3:=z1Q xs k d;have S:=Z.o _ (q3a xs k d);generalize xs.getD k 0=X at*;have a0:=η v3;have b0:=η v4;have N1:=η n1;have N2:=η n2;have N3:=η n3;have G:=η S;clear v3 v4 n1 n2 n3 S;by_cases v:X<0
   ·go_wp2_with fail
    go_ret;exact⟨rb (a0.o v),q.o.trans F.o⟩
   ·have r:=HS.o.look X G.o
    by_cases m:X∈xs.take k
    ·rw[ξ m] at r
     have E:=η m;clear m;go_wp2_with fail;go_ret;exact⟨rb (b0.o E.o),q.o.trans F.o⟩
    ·rw[κ m] at r
     have E:=η m;clear m;obtain⟨D,o1,o2⟩:=HS.o;have O1:=η o1;have O2:=η o2;clear o1 o2
     go_wp2_with (at_mapUpdate;refine wpList_mapUpdate_own _ rfl _ _ _ 300 rfl 3 3 Tryz.keyInt Tryz.underlying300 _ w1.heap.size k _ rfl O1.o (by unfold maxLen;omega) _ _ _ rfl rfl (keyOf_int_mk Tryz.underlying3 G.o) _ [] (plainElem_int Tryz.underlying3 (by decide)) ?_;intro w2 s l)
     have O:=Seen.put O2.o (World.ownsMap.isMap O1.o) X s (xs.take (k+1)) N3.o;have J:Ext w1 w2:=F.o.grown l F.o.size (fun j hj=>by cases hj;exact ι _);have Y:=η O;have W:=η J;clear O J s l;go_wp2_with fail
     go_roundw
     case rel=>exact⟨k+1,by omega,by go_num,Y.o,N1.o v,N2.o E.o,W.o⟩
     case measure=>simp[intOf];omega
  ·have M:xs.take k=xs:=Δ (by omega)
   have HK:=η M;clear M;go_wp2_with fail;go_ret;exact⟨rb (V5.o (by rw[HL.o];omega) (by omega) (by have:=HP.o;rwa [HK.o] at this) (by have:=HN.o;rwa [HK.o] at this)),q.o.trans F.o⟩
end
section
open Go.RowKit
def q0c(nx ck:Int)(L:List (List Int)):Bool:=decide (0<=nx/\nx<=1000000/\0<=ck/\ck<=2147483647)&&q0e L&&L.flatten.all fun x=>decide (x<nx)
theorem q5V(h:¬(0<=nx/\nx<=1000000/\0<=ck/\ck<=2147483647)):q0c nx ck L=false:=by
 unfold q0c;rw[ε h];rfl
theorem z6n(h:q0e L=false):q0c nx ck L=false:=by
 unfold q0c;rw[h,Bool.and_false,Bool.false_and]
theorem z0V(h:0<=nx/\nx<=1000000/\0<=ck/\ck<=2147483647)(h2:q0e L=true):q0c nx ck L=L.flatten.all fun x=>decide (x<nx):=by
 unfold q0c;rw[ζ h,h2,Bool.true_and,Bool.true_and]
theorem z7X{w1:World}{a b c d:Value}{t:TypeId}(h:Ext (w.alloc (.cells #[a,b,c,d] t)) w1):
  w1.cell? ⟨w.heap.size,0,none⟩=some a/\w1.cell? ⟨w.heap.size,1,none⟩=some b/\w1.cell? ⟨w.heap.size,2,none⟩=some c/\w1.cell? ⟨w.heap.size,3,none⟩=some d:=
 ⟨q0A h (by simp),q0A h (by simp),q0A h (by simp),q0A h (by simp)⟩
theorem y2C(x nx:Int)(g:Nat)(w:World)(h:w.cell? ⟨g,0,none⟩=some (.int .i64 nx)):
  Calls Tryz.prog 215 #[.int .i64 x,.pointer (some ⟨g,0,none⟩)] w fun e w'=>e= .returned (.bool (decide (nx<=x)))/\Ext w w':=by
 go_enter Tryz.func215,Tryz.ntmps215;go_wp2_with fail;go_ret;exact⟨rfl,Ext.refl _⟩
def q4e(xs:List Int)(nx:Int):Int:=if xs.any (fun x=>decide (nx<=x)) then(xs.findIdx (fun x=>decide (nx<=x)):Int) else-1
theorem z2g(xs:List Int)(nx:Int)(k:Nat)(b:k<xs.length)(d:(xs.take k).any (fun x=>decide (nx<=x))=false)(h1:nx<=xs.getD k 0):q4e xs nx=k:=by
 have l:xs.any (fun x=>decide (nx<=x))=true:=z3g _ 0 xs k b (ζ h1);unfold q4e;rw[ξ l];have :xs.findIdx (fun x=>decide (nx<=x))=k:=by
  rw[List.findIdx_eq b];refine⟨?_,fun j m=>?_⟩
  ·rw[δ,γ b] at h1
   exact ζ h1
  ·rw[List.any_eq_false] at d
   have:=d xs[j] (List.mem_take_iff_getElem.2 ⟨j,by omega,rfl⟩)
   simpa using this
 rw[this]
theorem z1O(xs:List Int)(nx:Int)(h:xs.any (fun x=>decide (nx<=x))=false):q4e xs nx= -1:=by
 unfold q4e;rw[h];rfl
theorem z2h(xs:List Int)(nx:Int):decide (0<=q4e xs nx)=xs.any (fun x=>decide (nx<=x)):=by
 unfold q4e
 cases h:xs.any (fun x=>decide (nx<=x))
 ·simp
 ·simp
theorem z0s(xs:List Int)(nx:Int):(!(xs.any fun x=>decide (nx<=x)))=xs.all fun x=>decide (x<nx):=by
 rw[List.not_any_eq_all_not]
 congr 1
 funext x
 by_cases h:nx<=x
 ·rw[ζ h,ε (by omega)];rfl
 ·rw[ε h,ζ (by omega)];rfl
theorem y3s(ao:Option Addr)(n cap:Nat)(xs:List Int)(nx:Int)(g:Nat)(w:World)(u:Ints w ao n cap xs)(E:w.cell? ⟨g,0,none⟩=some (.int .i64 nx)):
  Calls Tryz.prog 261 #[.slice ao n cap,.func (Fn.func 215) #[] #[.pointer (some ⟨g,0,none⟩)]] w fun e w'=>e= .returned (.int .i64 (q4e xs nx))/\Ext w w':=by
 have s:=η u;have F:=η E;have b1:=u.fits;have b2:=u.bound;clear u E;go_enter Tryz.func261,Tryz.ntmps261;go_wp2_with fail
 go_loopw [8] (fun i w'=> ∃k:Nat,k<=n/\i= .int .i64 k/\(xs.take k).any (fun x=>decide (nx<=x))=false/\Ext w w') (fun i _=>n-(intOf i).toNat)
 case atStart=>exact⟨0,υ _,rfl,by simp,Ext.refl _⟩
 case round=>
  obtain⟨k,I,rfl,q,D⟩:=hrel;have d:=η q;have r:=η D;clear q D;by_cases j:k<n
  ·obtain⟨b,off,rfl,G⟩:=(s.o.ext r.o).at j
   generalize C:xs.getD k 0=X at*;have y:=η C;clear C;go_wp2_with fail;refine(y2C X nx g _ (q0A r.o F.o)).mono ?_;rintro e w1 ⟨rfl,m⟩;have l:=η (r.o.trans m);clear m;by_cases v:nx<=X
   ·go_wp2_with fail
    go_ret;exact⟨rn (z2g xs nx k (by rw[s.o.len];exact j) d.o (by rw[y.o];exact v)),l.o⟩
   ·go_wp2_with fail
    go_roundw
    case rel=>exact⟨k+1,by omega,by go_num,z0t _ 0 xs k (by rw[s.o.len];exact j) d.o (by rw[y.o];exact ε (by omega)),l.o⟩
    case measure=>simp[intOf];omega
  ·go_wp2_with fail
   go_ret;exact⟨rn (z1O xs nx (z3h _ xs n k s.o.len (by omega) d.o)),r.o⟩
theorem z3p(ao:Option Addr)(n cap:Nat)(xs:List Int)(nx:Int)(g:Nat)(w:World)(j:Ints w ao n cap xs)(d:w.cell? ⟨g,0,none⟩=some (.int .i64 nx)):
  Calls Tryz.prog 214 #[.slice ao n cap,.func (Fn.func 215) #[] #[.pointer (some ⟨g,0,none⟩)]] w fun e w'=>e= .returned (.bool (xs.any fun x=>decide (nx<=x)))/\Ext w w':=by
 have q:=η j;have m:=η d;clear j d;go_enter Tryz.func214,Tryz.ntmps214;go_wp2_with fail;refine(y3s _ _ _ xs nx g _ q.o m.o).mono ?_;rintro e w1 ⟨rfl,b⟩;have l:=η b;clear b;go_wp2_with fail;go_ret;exact⟨rb (by rw[<-z2h]),l.o⟩
theorem z1S(nx ck sd:Int)(ao:Option Addr)(n cap:Nat)(L:List (List Int))(w:World)(G:Grid w ao n cap L)(l:L.flatten.length<=17592186044416)(r: ∀x∈L.flatten,(Lit.int .i64 x).wf=true):
  Calls Tryz.prog 161 #[.agg #[.int .i64 nx,.int .i64 ck,.int .u64 sd,.slice ao n cap]] w fun e w'=>e= .returned (.bool (q0c nx ck L))/\Ext w w':=by
 have F:=η G;have y:=η r;clear G r;by_cases h1:nx<0
 ·have hm:q0c nx ck L=false:=q5V (by omega)
  have b:=η hm;clear hm;go_enter Tryz.func161,Tryz.ntmps161;go_wp2_with fail;go_ret;exact⟨by rw[b.o];rfl,q0B _ _⟩
 by_cases h2:1000000<nx
 ·have hm:q0c nx ck L=false:=q5V (by omega)
  have b:=η hm;clear hm;go_enter Tryz.func161,Tryz.ntmps161;go_wp2_with fail;go_ret;exact⟨by rw[b.o];rfl,q0B _ _⟩
 by_cases h3:ck<0
 ·have hm:q0c nx ck L=false:=q5V (by omega)
  have b:=η hm;clear hm;go_enter Tryz.func161,Tryz.ntmps161;go_wp2_with fail;go_ret;exact⟨by rw[b.o];rfl,q0B _ _⟩
 by_cases h4:2147483647<ck
 ·have hm:q0c nx ck L=false:=q5V (by omega)
  have b:=η hm;clear hm;go_enter Tryz.func161,Tryz.ntmps161;go_wp2_with fail;go_ret;exact⟨by rw[b.o];rfl,q0B _ _⟩
 go_enter Tryz.func161,Tryz.ntmps161;go_wp2_with fail;refine(z4k _ _ _ L _ (F.o.ext (q0B _ _)) l y.o).mono ?_;rintro e w1 ⟨rfl,d⟩;obtain⟨J,M,N,O⟩:=z7X d;have s:=η d;clear d;by_cases C:q0e L=false
 ·have hm:q0c nx ck L=false:=z6n C
  have b:=η hm;clear hm;go_wp2_with fail;go_ret;exact⟨by rw[b.o];rfl,(q0B _ _).trans s.o⟩
 have D:q0e L=true:=by simpa using C
 have hm:q0c nx ck L=!(L.flatten.any fun x=>decide (nx<=x)):=by rw[z0s];exact z0V (by omega) D
 have b:=η hm;clear hm C;generalize hF:L.flatten=xs at*;have E:=η hF;clear hF;go_wp2_with fail;refine(z2F _ _ _ L _ ((F.o.ext (q0B _ _)).ext s.o) (by rw[E.o];exact l)).mono ?_;rw[E.o];rintro e X ⟨W,rfl,j,d⟩;obtain⟨U,V,rfl,q⟩:=q2H j;have m:=η (s.o.trans d);obtain⟨e0,Q,R,S⟩:=z7X m.o;have v:=η q;have I:=η e0;clear j d q s J M N O;go_wp2_with fail;refine(z3p _ _ _ xs nx w.heap.size _ v.o I.o).mono ?_;rintro e Y ⟨rfl,d⟩;have u:=η (m.o.trans d);clear d e0 Q R S;go_wp2_with fail;go_ret;exact⟨rb b.o,(q0B _ _).trans u.o⟩
theorem y5E(ao:Option Addr)(n cap:Nat)(L:List (List Int))(x:Int)(w:World)(hx:Grid w ao n cap L)(y0:L.flatten.length<=1000000000)(hn:n<=1000000000)(t0: ∀x∈L.flatten,(Lit.int .i64 x).wf=true):
  Calls Tryz.prog 135 #[.slice ao n cap,.int .i64 x] w (RetGE 73 3 w (addS L x)):=by
 have Hx:=η hx;have b1:=hx.fits;have b2:=hx.bound;have w0:=η t0;clear hx t0;go_enter Tryz.func135,Tryz.ntmps135;go_wp2_with fail;refine(z2F _ _ _ L _ Hx.o (by omega)).mono ?_;rintro e w1 ⟨v1,rfl,W,m0⟩;obtain⟨a1,c1,rfl,hi⟩:=q2H W;have c0:=η m0;have HI:=η hi;have f1:=hi.fits;have f2:=hi.bound;clear W m0 hi;have S1:=η (z4p L x);have S2:=η (z2D L x);have S3:=η (z7Q L x);have Z:=η (q3H L);have N:=η (q1X L);have r:Hd (q5j L x=(if q0N L=[] then [[]] else q0N L).set 0 (L.getD 0 []++[x])):=η rfl;generalize hF:L.flatten=xs at*;have HF:=η hF;clear hF;go_wp2_with fail;refine(z4k _ _ _ L _ (Hx.o.ext c0.o) (by rw[HF.o];omega) (by rw[HF.o];exact w0.o)).mono ?_;rintro e w2 ⟨rfl,b0⟩;have F:=η (c0.o.trans b0);have f0:=η (HI.o.ext b0);clear b0 HI;by_cases hv:q0e L=false
 ·go_wp2_with fail
  go_ret2;exact⟨.slice none 0 0,[],by rw[S1.o (.inl hv)];rfl,by rw[S1.o (.inl hv)];exact OGr.nil _ _ _ _,F.o⟩
 have z0:q0e L=true:=by simpa using hv
 by_cases h0:x<0
 ·go_wp2_with fail
  go_ret2;exact⟨.slice none 0 0,[],by rw[S1.o (.inr (.inl h0))];rfl,by rw[S1.o (.inr (.inl h0))];exact OGr.nil _ _ _ _,F.o⟩
 go_wp2_with fail;refine(q7H _ _ _ xs x _ f0.o).mono ?_;rintro e w3 ⟨rfl,n0⟩;have m:=η (F.o.trans n0);clear n0 F;by_cases q:x∈xs
 ·have hd:decide (x∈xs)=true:=ζ q
  have g0:=η q;clear q;go_wp2_with fail;go_ret2;exact⟨.slice none 0 0,[],by rw[S1.o (.inr (.inr g0.o))];rfl,by rw[S1.o (.inr (.inr g0.o))];exact OGr.nil _ _ _ _,m.o⟩
 have hd:decide (x∈xs)=false:=ε q;have s0:¬(q0e L=false\/x<0\/x∈xs):=by rintro(h|h|h);exact hv h;exact absurd h (by omega);exact q h
 have J:=η s0;clear s0 q;by_cases a0:40<=xs.length
 ·go_wp2_with fail
  go_ret2;exact⟨.slice none 0 0,[],by rw[S2.o J.o a0];rfl,by rw[S2.o J.o a0];exact OGr.nil _ _ _ _,m.o⟩
 go_wp2_with fail;refine(z8m _ _ _ L _ (Hx.o.ext m.o) (fun i=>by have:=Z.o i;omega) hn).mono ?_;rintro e w4 ⟨v4,A0,rfl,d,o0⟩;obtain⟨a4,c4,rfl,O⟩:=d.grid;have v0:=η O;have I:=η (m.o.trans o0);have V:=d.base m.o.size;clear o0 d m;have q1:=O.fits;have q2:=O.bound;clear O;have E:=Z.o 0;have l0:=η (S3.o J.o a0);clear S1 S2 S3 J f0 Z;have Y:=η V;clear V
 go_upto_if 31 with fail
 go_cut [7] (fun v w'=> ∃(M:List (List Int)) (vs:List Value) (G c:Nat),v= .slice (some ⟨G,0,none⟩) M.length c/\OGr w' w.heap.size 73 3 v vs M/\0<M.length/\M.set 0 (M.getD 0 []++[x])=q5j L x/\(M.getD 0 []).length<=xs.length/\Ext w w')
 case first=>
  by_cases ht:q0N L=[]
  ·have C:[[]].set 0 ([[]].getD 0 []++[x])=q5j L x:=by rw[r.o,ξ ht,<-N.o,ht];rfl
   have b:=η C;clear C r;rw[ht];clear ht;go_wp2_with fail
   go_meet
   exact⟨[[]],_,_,_,rfl,OGr.one _ I.o.size,by decide,b.o,by simp,I.o.alloc _⟩
  ·have D:0<(q0N L).length:=List.length_pos_iff.2 ht
   have C:(q0N L).set 0 (L.getD 0 []++[x])=q5j L x:=by rw[r.o,κ ht]
   have hz:(((q0N L).length:Int)==0)=false:=by rw[beq_eq_false_iff_ne];omega
   obtain⟨G,ai,ci,e0,_⟩:=Y.o.head (i:=0) D
   cases e0;have b:=η C;clear C r ht;have j0:=η D;clear D;go_wp2_with fail
   go_meet
   exact⟨q0N L,_,_,_,rfl,Y.o,j0.o,by rw[N.o];exact b.o,by rw[N.o];exact E,I.o⟩
 case rest=>
  obtain⟨M,vs,G,c,rfl,d,r0,U,x0,S⟩:=hcut;have b:=η U;have s:=η S;have i0:=η r0;obtain⟨g,ai,ci,e0,k1,k2,k3,k4⟩:=d.head (i:=0) r0
  cases e0;have h1:=d.own.rd;obtain⟨_,_,e,m1,m2,_⟩:=h1
  cases e;have y:=η (d.ext ((Ext.refl _).alloc (.cells #[.int .i64 x] 3)));generalize M.getD 0 []=R at*;have Q:=η k3;have k0:=η k2;clear Y v0 r N U S d k2 k3 I E
  go_wp2_with (at_builtin;refine q0R rfl _ _ 73 rfl w.heap.size 3 _ 1 8 Tryz.underlying73 Tryz.infoInt rfl (by decide) _ _ _ rfl (Q.o.ext ((Ext.refl _).alloc _)) _ _ _ [.int .i64 x] rfl rfl (fun h=>by cases h) (Rd.lit _ _ _) (by intro u hu;rw[List.mem_singleton.1 hu];rfl) (by omega) (by omega) (by have:=s.o.size;simp;omega) ?_;intro v' w5 j hg q0;obtain⟨a',c',e2⟩:=j.slice;subst e2;obtain⟨g',e1,d0,d1,d2,d3⟩:=y.o.cell (i:=0) (by decide) i0.o hg (.inr (by rw[k0.o];rfl));cases e1)
  have X:=y.o.put (i:=0) (by decide) rfl i0.o (l:=R++[x]) (by simpa using j) hg (.inr (by rw[k0.o];rfl)) q0;have p0:=(q0v (s.o.alloc (.cells #[.int .i64 x] 3)) (Q.o.ext ((Ext.refl _).alloc _)) hg (by have:=s.o.size;simp;omega)).setCell (p:=⟨G,0,none⟩) k4 (.slice a' (R.length+1) c');have HP:=η X;have u0:=η p0;clear X p0 j hg q0;go_wp2_with fail;go_ret2;refine⟨.slice (some ⟨G,0,none⟩) M.length c,vs.set 0 (.slice a' (R.length+1) c'),?_,?_,u0.o⟩
  ·rw[l0.o];rfl
  ·rw[l0.o];exact b.o▸HP.o
theorem y1s(ao:Option Addr)(n cap:Nat)(L:List (List Int))(k:Int)(w:World)(E:Grid w ao n cap L)(V:L.flatten.length<=1000000000)(D: ∀x∈L.flatten,(Lit.int .i64 x).wf=true):
  Calls Tryz.prog 139 #[.slice ao n cap,.int .i64 k] w (RetIE 3 w (q1E L k)):=by
 have U:=η E;have b1:=E.fits;have b2:=E.bound;have s:=η E.len;clear E;go_enter Tryz.func139,Tryz.ntmps139;go_wp2_with fail;refine(z4k _ _ _ L _ U.o (by omega) D).mono ?_;rintro e w1 ⟨rfl,v⟩;have d:=η v;clear v D;have J:=η (z2v L k);have M:=η (z0b L k);have N:=η (y1H L k);have I:=η (q3H L);generalize hF:L.flatten=xs at*;by_cases Q:q0e L=false
 ·go_wp2_with fail
  go_ret2;exact RetIE.err (J.o (.inl Q)) d.o
 have b0:q0e L=true:=by simpa using Q
 by_cases X:k<0
 ·go_wp2_with fail
  go_ret2;exact RetIE.err (J.o (.inr (.inl X))) d.o
 by_cases Y:5<=k
 ·go_wp2_with fail
  go_ret2;exact RetIE.err (J.o (.inr (.inr Y))) d.o
 have C:¬(q0e L=false\/k<0\/5<=k):=by rintro(h|h|h);exact Q h;exact absurd h (by omega);exact absurd h (by omega)
 have q:=η C;clear C;obtain⟨j,rfl⟩:=Int.eq_ofNat_of_zero_le (show 0<=k by omega);rw[Int.toNat_natCast] at M N;by_cases O:j<n
 ·obtain⟨b,off,ai,S,ci,rfl,c1,F⟩:=(U.o.ext d.o).at O
  have u:=F.len;have a0:=I.o j;have m1:=F.fits;have m2:=F.bound;generalize L.getD j []=R at*;have R1:=η F;clear F;by_cases hz:S=0
  ·have l:R=[]:=List.eq_nil_of_length_eq_zero (by omega)
   have m:=η l;clear l;subst hz;clear u;go_wp2_with fail;go_ret2;exact RetIE.err (M.o q.o m.o) d.o
  ·have l:¬R=[]:=by intro h;rw[h] at u;simp at u;omega
   have c0:((S:Int)==0)=false:=by rw[beq_eq_false_iff_ne];omega
   have m:=η l;clear l;have Z:S<=1000000000:=by omega
   have HR:=η u;clear u;go_wp2_with fail;refine(z7k _ _ _ R _ R1.o (by omega)).mono ?_;rintro e w2 ⟨v2,rfl,r,y⟩;have W:=η r;have G:=η y;clear r y;go_wp2_with fail;go_ret2;refine⟨v2,?_,?_,d.o.trans G.o⟩
   ·rw[N.o q.o m.o];rfl
   ·rw[N.o q.o m.o];exact W.o.base d.o.size
 ·have l:L.getD j []=[]:=q4G _ _ _ (by have:=s.o;omega)
  have m:=η l;clear l;go_wp2_with fail;go_ret2;exact RetIE.err (M.o q.o m.o) d.o
theorem OGr.cell0{ao:Option Addr}(h:OGr w B tO tI (.slice ao n cap) vs L)(b:tO≠tI)(d:i<L.length):
  ∃g,ao=some ⟨g,0,none⟩/\w.cell? ⟨g,i,none⟩=some (vs.getD i (.slice none 0 0))/\w.frozen? ⟨g,i,none⟩=false/\B<=g:=by
 obtain⟨g,h1,h2,_,h3,h4⟩:=h.cell b d (World.grownBy.refl w none) (.inl rfl);exact⟨g,h1,h2,h3,h4⟩
theorem OGr.addr{v:Value}(h:OGr w B tO tI v vs L)(b:0<L.length): ∃G c,v= .slice (some ⟨G,0,none⟩) L.length c:=by
 obtain⟨a,c,rfl⟩:=h.own.slice;obtain⟨g,_,_,rfl,_⟩:=h.head b;exact⟨g,c,rfl⟩
theorem OGr.strike{g:Nat}(h:OGr w B tO tI (.slice (some ⟨g,0,none⟩) n cap) vs L)(b:tO≠tI)(d:i<L.length):
  OGr (w.setCell ⟨g,i,none⟩ (.slice none 0 0)) B tO tI (.slice (some ⟨g,0,none⟩) n cap) (vs.set i (.slice none 0 0)) (L.set i []):=
 h.put (l:=[]) b rfl d (Own.nil _ _ _ _) (World.grownBy.refl w none) (.inl rfl) (.inl rfl)
theorem z9U(ao:Option Addr)(n cap:Nat)(L:List (List Int))(k x:Int)(w:World)(hx:Grid w ao n cap L)(S0:L.flatten.length<=1000000000)(hn:n<=1000000000)(H0: ∀x∈L.flatten,(Lit.int .i64 x).wf=true):
  Calls Tryz.prog 141 #[.slice ao n cap,.int .i64 k,.int .i64 x] w (RetGE 73 3 w (q0U L k x)):=by
 have Hx:=η hx;have b1:=hx.fits;have b2:=hx.bound;have P0:=η hx.len;clear hx;go_enter Tryz.func141,Tryz.ntmps141;go_wp2_with fail;refine(y1s _ _ _ L k _ Hx.o (by omega) H0).mono ?_;rintro e w1 ⟨v1,rfl,s,w0⟩;obtain⟨a1,c1,rfl⟩:=s.slice;have U:=η w0;clear w0 s H0;have S1:=η (z3H L k x);have S2:=η (z3G L k x);have S3:=η (z4Y L k x);have p0:=η (z6v L k);have q0:=η (q3H L);have t0:=η (z7I L);generalize hF:L.flatten=xs at*;have HF:=η hF;clear hF;generalize (q1E L k).1.length=pl at*;generalize (q1E L k).2=pe at*;by_cases hp:pe≠0
 ·have T0:(pe !=0)=true:=by simpa using hp
  have M0:=η hp;clear hp;go_wp2_with fail;go_ret2;exact RetGE.err (S1.o M0.o) U.o
 have hp:pe=0:=by omega
 obtain⟨z1,z2,z3,z4⟩:=p0.o (by omega);have i0:=η (S2.o (by omega));have j0:=η (S3.o (by omega));subst hp;obtain⟨j,rfl⟩:=Int.eq_ofNat_of_zero_le z2;rw[Int.toNat_natCast] at z4 j0;have hj:j<5:=by omega
 have h5:=(t0.o z1).1;have S:=y3D L j x h5 hj z4;have Q:=z5c L j z4;have U0:(q0N L).length<=5:=by have:=q2p L L.length;rw[q1b];omega
 have r0:=η S;have f0:=η Q;clear S1 S2 S3 p0 t0 z1 z2 z3 z4 S Q h5;by_cases h0:x<0
 ·go_wp2_with fail
  go_ret2;exact RetGE.err (i0.o (.inl h0)) U.o
 go_wp2_with fail;refine(z2F _ _ _ L _ (Hx.o.ext U.o) (by rw[HF.o];omega)).mono ?_;rintro e w2 ⟨v2,rfl,s,x0⟩;obtain⟨a2,c2,rfl,hi⟩:=q2H s;have m0:=η (U.o.trans x0);rw[HF.o] at hi⊢;have HI:=η hi;have f1:=hi.fits;have f2:=hi.bound;clear s x0 hi;go_wp2_with fail;refine(q7H _ _ _ xs x _ HI.o).mono ?_;rintro e w3 ⟨rfl,y0⟩;have F:=η (m0.o.trans y0);clear y0 m0 HI;by_cases E:x∈xs
 ·have hd:decide (x∈xs)=true:=ζ E
  have L0:=η E;clear E;go_wp2_with fail;go_ret2;exact RetGE.err (i0.o (.inr L0.o)) F.o
 have hd:decide (x∈xs)=false:=ε E;have F0:¬(x<0\/x∈xs):=by rintro(h|h);exact absurd h (by omega);exact E h
 have S3:=η (j0.o F0);clear F0 E i0 j0;go_wp2_with fail;refine(z8m _ _ _ L _ (Hx.o.ext F.o) (fun i=>by have:=q0.o i;omega) hn).mono ?_;rintro e w4 ⟨v4,V0,rfl,a0,z0⟩;have n0:=η (F.o.trans z0);have m:=a0.base F.o.size;clear a0 z0 F;obtain⟨a4,c4,rfl⟩:=m.own.slice;have v0: ∀i,((q0N L).getD i []).length<=xs.length:=fun i=>by rw[q1X];exact q0.o i
 have s0:=η v0;have Y:z3a L j x=(if ((q0N L).set j []).length<=min (j+1) 4 then(q0N L).set j []++[[]] else(q0N L).set j []).set (min (j+1) 4) ((if ((q0N L).set j []).length<=min (j+1) 4 then(q0N L).set j []++[[]] else(q0N L).set j []).getD (min (j+1) 4) []++[x]):=r0.o.symm;have q:=η Y;clear v0 Y r0;generalize q0N L=T at*;obtain⟨G,e0,d0,d1,d2⟩:=m.cell0 (by decide) f0.o
 cases e0;have G0:=m.strike (by decide) f0.o;have C0:Ext w (w4.setCell ⟨G,j,none⟩ (.slice none 0 0)):=n0.o.setCell (p:=⟨G,j,none⟩) d2 _;obtain⟨_,_,e,m1,m2,_⟩:=m.own.rd
 cases e;have g0:=η G0;have C:=η C0;have k0:(T.set j []).length=T.length:=List.length_set;have Q:=f0.o;have X: ∀i,((T.set j []).getD i []).length<=xs.length:=by
  intro i;rw[q1w _ _ _ _ _ Q];split
  ·simp
  ·exact s0.o i
 have J:=η X;clear m G0 C0 X s0;obtain⟨t,ht⟩: ∃t:Nat,t=min (j+1) 4:=⟨_,rfl⟩
 have Q0:(if (4:Int)<(j:Int)+1 then(4:Int) else(j:Int)+1)=(t:Int):=by split<;>omega
 have t1:t<=4:=by omega
 have t2:T.length<=t->t=T.length:=by omega
 have N0:=η t2;rw[<-ht,k0] at q;have D:=η k0;have HT:=η ht;clear t2 k0 Q ht
 go_upto_if 42 with fail
 generalize w4.setCell ⟨G,j,none⟩ (.slice none 0 0)=W at*
 go_cut [10] (fun v w'=> ∃(M:List (List Int)) (vs:List Value) (G c:Nat),v= .slice (some ⟨G,0,none⟩) M.length c/\OGr w' w.heap.size 73 3 v vs M/\t<M.length/\M.set t (M.getD t []++[x])=z3a L j x/\(M.getD t []).length<=xs.length/\Ext w w')
 case first=>
  by_cases l0:T.length<=t
  ·have d:(T.set j []++[[]]).set t ((T.set j []++[[]]).getD t []++[x])=z3a L j x:=by rw[q.o,ξ l0]
   have r:=η d;clear d q;have O0:=η (N0.o l0);have b0:=g0.o.ext ((Ext.refl _).alloc (.cells #[.slice none 0 0] 73));have y:=η b0;clear b0
   go_wp2_with (at_builtin;refine q0R rfl _ _ 180 rfl w.heap.size 73 _ 1 24 Tryz.underlying180 Tryz.infoInts rfl (by decide) _ _ _ rfl y.o.own _ _ _ [.slice none 0 0] rfl rfl (fun h=>by cases h) (Rd.lit _ _ _) (by intro u hu;rw[List.mem_singleton.1 hu];rfl) (by rw[D.o];omega) (by rw[D.o];omega) (by have:=C.o.size;simp;omega) ?_;intro v' w6 b hg _)
   have B0:=q0v (C.o.alloc (.cells #[.slice none 0 0] 73)) y.o.own hg (by have:=C.o.size;simp;omega);have O:=y.o.push (l:=[]) (B':=(W.alloc (.cells #[.slice none 0 0] 73)).heap.size) (by decide) (Own.nil _ _ _ _) (by have:=C.o.size;simp;omega) y.o.lt b hg;obtain⟨G6,c6,e6⟩:=O.addr (by simp);subst e6;have K0:=η O;have J0:=η B0;clear O B0 b hg;go_wp2_with fail
   go_meet
   exact⟨T.set j []++[[]],_,G6,c6,by simp,K0.o,by have:=O0.o;have:=D.o;simp;omega,r.o,by rw[q4Q];split;exact J.o _;split<;>simp,J0.o⟩
  ·have d:(T.set j []).set t ((T.set j []).getD t []++[x])=z3a L j x:=by rw[q.o,κ l0]
   have r:=η d;clear d q;go_wp2_with fail
   go_meet
   exact⟨_,_,_,_,by rw[D.o],g0.o,by rw[D.o];omega,r.o,J.o _,C.o⟩
 case rest=>
  obtain⟨M,vs,G,c,rfl,m,E0,d,R0,Z⟩:=hcut;have r:=η d;have I:=η Z;have o0:=η E0;obtain⟨g,ai,ci,e0,k1,k2,k3,k4⟩:=m.head (i:=t) E0
  cases e0;obtain⟨_,_,e,m3,m4,_⟩:=m.own.rd
  cases e;have N:=η (m.ext ((Ext.refl _).alloc (.cells #[.int .i64 x] 3)));generalize M.getD t []=R at*;have V:=η k3;have u0:=η k2;clear q d Z m k2 k3 n0 g0 C J D
  go_wp2_with (at_builtin;refine q0R rfl _ _ 73 rfl w.heap.size 3 _ 1 8 Tryz.underlying73 Tryz.infoInt rfl (by decide) _ _ _ rfl (V.o.ext ((Ext.refl _).alloc _)) _ _ _ [.int .i64 x] rfl rfl (fun h=>by cases h) (Rd.lit _ _ _) (by intro u hu;rw[List.mem_singleton.1 hu];rfl) (by omega) (by omega) (by have:=I.o.size;simp;omega) ?_;intro v' w9 b hg D0;obtain⟨a',c',e2⟩:=b.slice;subst e2;obtain⟨g',e1,d0,d1,d2,d3⟩:=N.o.cell (i:=t) (by decide) o0.o hg (.inr (by rw[u0.o];rfl));cases e1)
  have c0:=N.o.put (i:=t) (by decide) rfl o0.o (l:=R++[x]) (by simpa using b) hg (.inr (by rw[u0.o];rfl)) D0;have A0:=(q0v (I.o.alloc (.cells #[.int .i64 x] 3)) (V.o.ext ((Ext.refl _).alloc _)) hg (by have:=I.o.size;simp;omega)).setCell (p:=⟨G,t,none⟩) k4 (.slice a' (R.length+1) c');have HP:=η c0;have I0:=η A0;clear c0 A0 b hg D0;go_wp2_with fail;go_ret2;exact RetGE.mk S3.o (r.o▸HP.o) I0.o
end
end Go.Proofs.YteabhdclmodefaaGreatDoor
