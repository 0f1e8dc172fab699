/- Walks. -/
import Derived.Test.YtfiibpgoplcgkaaGreatDoorG17WS
import Derived.Maps.OwnOps
import Derived.Maps.OwnSet
import Derived.Maps.Views
set_option linter.unusedVariables false
set_option linter.unusedSimpArgs false
set_option maxRecDepth 100000
set_option maxHeartbeats 1600000
namespace Go.Proofs.YtfiibpgoplcgkaaGreatDoor
variable {w:World}{n:Nat}{xs:List Int}{nx ck:Int}{L:List (List Int)}
section
open Go.RowKit Go.Maps
theorem Tryz.keyInt :Keyed Tryz.prog 3:=int_keyed Tryz.underlying3
theorem Tryz.zeroInt(w:World):(zeroValue 3).run Tryz.prog w= .ok (.int .i64 0) w:=by kernel_rfl
def Seen(w:World)(b n:Nat)(xs:List Int):Prop:=
 ∃D:DataW Unit,w.ownsMap Tryz.prog 3 (plainElem Tryz.prog 3) b n D/\ ∀x,D.atKey (.int .i64 x) (.lit (.int .i64 0))= .lit (.int .i64 (if x∈xs then 1 else 0))
theorem Seen.made(w:World):Seen (w.alloc (.map #[] 0)) w.heap.size 0 []:=⟨_,World.ownsMap_made _ _ _ _,fun x=>by simp[DataW.atKey]⟩
theorem Seen.look{b:Nat}(h:Seen w b n xs)(x:Int)(j:(Lit.int .i64 x).wf=true):
  (Instr.lookup 363 (.map (some b)) (.int .i64 x) false).run Tryz.prog w= .ok (.int .i64 (if x∈xs then 1 else 0)) w:=by
 obtain⟨D,h1,h2⟩:=h;obtain⟨c,i,d,_⟩:=h1.lookup_int Tryz.keyInt Tryz.underlying363 Tryz.underlying3 (Tryz.zeroInt _) (keyOf_int_mk Tryz.underlying3 j);rw[h2 x] at d;injection d with d;injection d with _ d;rw[d];exact i
theorem Seen.put{w':World}{b:Nat}{D:DataW Unit}(l: ∀x,D.atKey (.int .i64 x) (.lit (.int .i64 0))= .lit (.int .i64 (if x∈xs then 1 else 0)))(hm:IsMap D)(x:Int)
  (h:w'.ownsMap Tryz.prog 3 (plainElem Tryz.prog 3) b n (D.put (.int .i64 x) (.lit (.int .i64 1))))(i:List Int)(j: ∀z,z∈i↔(z∈xs\/z=x)):Seen w' b n i:=by
 refine⟨_,h,fun z=>?_⟩;by_cases d:z=x
 ·subst d
  rw[atKey_put_same hm (k:= .int .i64 z) (show WideAt.IsKeyLit (.int .i64 z) from trivial),ξ ((j z).2 (.inr rfl))]
 ·rw[atKey_put_other (by intro h;injection h with _ h;exact d h),l z]
  have:(z∈i)↔(z∈xs):=by rw[j];exact⟨fun h=>h.elim id fun h=>(d h).elim,.inl⟩
  simp only[this]
theorem z8x(ao:Option Addr)(n cap:Nat)(L:List (List Int))(w:World)(S:Grid w ao n cap L)(O:L.flatten.length<=17592186044416)(Q: ∀x∈L.flatten,(Lit.int .i64 x).wf=true):
  Calls Tryz.prog 229 #[.slice ao n cap] w fun e w'=>e= .returned (.bool (q1E L))/\Ext w w':=by
 have Hx:=η S;have b1:=S.fits;have b2:=S.bound;have hl:=S.len;have HL:=η hl;have Y:=η Q;clear S hl Q;have c0:=@run_makeMap Tryz.prog;go_enter Tryz.func229,Tryz.ntmps229;go_wp2_with fail;refine(z2h _ _ _ L _ Hx.o O).mono ?_;rintro e w1 ⟨v1,rfl,y,G⟩;obtain⟨a1,c1,rfl,U⟩:=q2d y;have q:=η G;have HI:=η U;have f1:=U.fits;have f2:=U.bound;clear y G U;have V1:=η (z3r L);have V2:=η (z2Y L);have V3:=η (z6T L);have V4:=η (z6S L);have V5:=η (q8t L);generalize L.flatten=xs at*;by_cases h5:5<n
 ·go_wp2_with fail
  go_ret;exact⟨rb (V1.o (by rw[HL.o];exact h5)),q.o⟩
 by_cases b0:40<xs.length
 ·go_wp2_with fail
  go_ret;exact⟨rb (V2.o b0),q.o⟩
 go_wp2_with fail
 go_loopw [20] (fun i w'=> ∃k:Nat,k<=xs.length/\i= .int .i64 k/\Seen w' w1.heap.size k (xs.take k)/\(∀x∈xs.take k,0<=x)/\(xs.take k).Nodup/\Ext w1 w') (fun i _=>xs.length-(intOf i).toNat)
 case atStart=>exact⟨0,υ _,rfl,Seen.made _,by simp,by simp,(Ext.refl _).alloc _⟩
 case round=>
  obtain⟨k,hk,rfl,u,B,M,hb⟩:=hrel;have HS:=η u;have HP:=η B;have HN:=η M;have E:=η hb;clear u B M hb;by_cases d:k<xs.length
  ·obtain⟨b,off,rfl,d1⟩:=(HI.o.ext E.o).at d
   have v3:=V3.o k d;have v4:=V4.o k d;have n1:=q7Z xs k d HP.o;have n2:=q8a xs k d HN.o;have n3:=z0b xs k d;have R:=Y.o _ (q4b xs k d);generalize xs.getD k 0=X at*;have Z:=η v3;have a0:=η v4;have N1:=η n1;have N2:=η n2;have N3:=η n3;have F:=η R;clear v3 v4 n1 n2 n3 R;by_cases v:X<0
   ·go_wp2_with fail
    go_ret;exact⟨rb (Z.o v),q.o.trans E.o⟩
   ·have r:=HS.o.look X F.o
    by_cases m:X∈xs.take k
    ·rw[ξ m] at r
     have C:=η m;clear m;go_wp2_with fail;go_ret;exact⟨rb (a0.o C.o),q.o.trans E.o⟩
    ·rw[κ m] at r
     have C:=η m;clear m;obtain⟨D,o1,o2⟩:=HS.o;have O1:=η o1;have O2:=η o2;clear o1 o2
     go_wp2_with (at_mapUpdate;refine wpList_mapUpdate_own _ rfl _ _ _ 363 rfl 3 3 Tryz.keyInt Tryz.underlying363 _ w1.heap.size k _ rfl O1.o (by unfold maxLen;omega) _ _ _ rfl rfl (keyOf_int_mk Tryz.underlying3 F.o) _ [] (plainElem_int Tryz.underlying3 (by decide)) ?_;intro w2 s l)
     have N:=Seen.put O2.o (World.ownsMap.isMap O1.o) X s (xs.take (k+1)) N3.o;have I:Ext w1 w2:=E.o.grown l E.o.size (fun j hj=>by cases hj;exact ι _);have W:=η N;have V:=η I;clear N I s l;go_wp2_with fail
     go_roundw
     case rel=>exact⟨k+1,by omega,by go_num,W.o,N1.o v,N2.o C.o,V.o⟩
     case measure=>simp[intOf];omega
  ·have J:xs.take k=xs:=Δ (by omega)
   have HK:=η J;clear J;go_wp2_with fail;go_ret;exact⟨rb (V5.o (by rw[HL.o];omega) (by omega) (by have:=HP.o;rwa [HK.o] at this) (by have:=HN.o;rwa [HK.o] at this)),q.o.trans E.o⟩
end
section
open Go.RowKit
def q0e(nx ck:Int)(L:List (List Int)):Bool:=decide (0<=nx/\nx<=1000000/\0<=ck/\ck<=2147483647)&&q1E L&&L.flatten.all fun x=>decide (x<nx)
theorem q5O(h:¬(0<=nx/\nx<=1000000/\0<=ck/\ck<=2147483647)):q0e nx ck L=false:=by
 unfold q0e;rw[ε h];rfl
theorem z5s(h:q1E L=false):q0e nx ck L=false:=by
 unfold q0e;rw[h,Bool.and_false,Bool.false_and]
theorem q9d(h:0<=nx/\nx<=1000000/\0<=ck/\ck<=2147483647)(h2:q1E L=true):q0e nx ck L=L.flatten.all fun x=>decide (x<nx):=by
 unfold q0e;rw[ζ h,h2,Bool.true_and,Bool.true_and]
theorem z6i{w1:World}{a b c d:Value}{t:TypeId}(h:Ext (w.alloc (.cells #[a,b,c,d] t)) w1):
  w1.cell? ⟨w.heap.size,0,none⟩=some a/\w1.cell? ⟨w.heap.size,1,none⟩=some b/\w1.cell? ⟨w.heap.size,2,none⟩=some c/\w1.cell? ⟨w.heap.size,3,none⟩=some d:=
 ⟨q0A h (by simp),q0A h (by simp),q0A h (by simp),q0A h (by simp)⟩
theorem y1E(x nx:Int)(g:Nat)(w:World)(h:w.cell? ⟨g,0,none⟩=some (.int .i64 nx)):
  Calls Tryz.prog 260 #[.int .i64 x,.pointer (some ⟨g,0,none⟩)] w fun e w'=>e= .returned (.bool (decide (nx<=x)))/\Ext w w':=by
 go_enter Tryz.func260,Tryz.ntmps260;go_wp2_with fail;go_ret;exact⟨rfl,Ext.refl _⟩
def q4c(xs:List Int)(nx:Int):Int:=if xs.any (fun x=>decide (nx<=x)) then(xs.findIdx (fun x=>decide (nx<=x)):Int) else-1
theorem z1p(xs:List Int)(nx:Int)(k:Nat)(b:k<xs.length)(d:(xs.take k).any (fun x=>decide (nx<=x))=false)(h1:nx<=xs.getD k 0):q4c xs nx=k:=by
 have i:xs.any (fun x=>decide (nx<=x))=true:=z2j _ 0 xs k b (ζ h1);unfold q4c;rw[ξ i];have :xs.findIdx (fun x=>decide (nx<=x))=k:=by
  rw[List.findIdx_eq b];refine⟨?_,fun j l=>?_⟩
  ·rw[δ,γ b] at h1
   exact ζ h1
  ·rw[List.any_eq_false] at d
   have:=d xs[j] (List.mem_take_iff_getElem.2 ⟨j,by omega,rfl⟩)
   simpa using this
 rw[this]
theorem z0W(xs:List Int)(nx:Int)(h:xs.any (fun x=>decide (nx<=x))=false):q4c xs nx= -1:=by
 unfold q4c;rw[h];rfl
theorem z1q(xs:List Int)(nx:Int):decide (0<=q4c xs nx)=xs.any (fun x=>decide (nx<=x)):=by
 unfold q4c
 cases h:xs.any (fun x=>decide (nx<=x))
 ·simp
 ·simp
theorem q9v(xs:List Int)(nx:Int):(!(xs.any fun x=>decide (nx<=x)))=xs.all fun x=>decide (x<nx):=by
 rw[List.not_any_eq_all_not]
 congr 1
 funext x
 by_cases h:nx<=x
 ·rw[ζ h,ε (by omega)];rfl
 ·rw[ε h,ζ (by omega)];rfl
theorem y3J(ao:Option Addr)(n cap:Nat)(xs:List Int)(nx:Int)(g:Nat)(w:World)(u:Ints w ao n cap xs)(D:w.cell? ⟨g,0,none⟩=some (.int .i64 nx)):
  Calls Tryz.prog 312 #[.slice ao n cap,.func (Fn.func 260) #[] #[.pointer (some ⟨g,0,none⟩)]] w fun e w'=>e= .returned (.int .i64 (q4c xs nx))/\Ext w w':=by
 have s:=η u;have E:=η D;have b1:=u.fits;have b2:=u.bound;clear u D;go_enter Tryz.func312,Tryz.ntmps312;go_wp2_with fail
 go_loopw [8] (fun i w'=> ∃k:Nat,k<=n/\i= .int .i64 k/\(xs.take k).any (fun x=>decide (nx<=x))=false/\Ext w w') (fun i _=>n-(intOf i).toNat)
 case atStart=>exact⟨0,υ _,rfl,by simp,Ext.refl _⟩
 case round=>
  obtain⟨k,G,rfl,q,C⟩:=hrel;have d:=η q;have r:=η C;clear q C;by_cases j:k<n
  ·obtain⟨b,off,rfl,F⟩:=(s.o.ext r.o).at j
   generalize B:xs.getD k 0=X at*;have y:=η B;clear B;go_wp2_with fail;refine(y1E X nx g _ (q0A r.o E.o)).mono ?_;rintro e w1 ⟨rfl,m⟩;have l:=η (r.o.trans m);clear m;by_cases v:nx<=X
   ·go_wp2_with fail
    go_ret;exact⟨rn (z1p xs nx k (by rw[s.o.len];exact j) d.o (by rw[y.o];exact v)),l.o⟩
   ·go_wp2_with fail
    go_roundw
    case rel=>exact⟨k+1,by omega,by go_num,q9w _ 0 xs k (by rw[s.o.len];exact j) d.o (by rw[y.o];exact ε (by omega)),l.o⟩
    case measure=>simp[intOf];omega
  ·go_wp2_with fail
   go_ret;exact⟨rn (z0W xs nx (z2k _ xs n k s.o.len (by omega) d.o)),r.o⟩
theorem z2u(ao:Option Addr)(n cap:Nat)(xs:List Int)(nx:Int)(g:Nat)(w:World)(i:Ints w ao n cap xs)(d:w.cell? ⟨g,0,none⟩=some (.int .i64 nx)):
  Calls Tryz.prog 259 #[.slice ao n cap,.func (Fn.func 260) #[] #[.pointer (some ⟨g,0,none⟩)]] w fun e w'=>e= .returned (.bool (xs.any fun x=>decide (nx<=x)))/\Ext w w':=by
 have m:=η i;have l:=η d;clear i d;go_enter Tryz.func259,Tryz.ntmps259;go_wp2_with fail;refine(y3J _ _ _ xs nx g _ m.o l.o).mono ?_;rintro e w1 ⟨rfl,b⟩;have j:=η b;clear b;go_wp2_with fail;go_ret;exact⟨rb (by rw[<-z1q]),j.o⟩
theorem z0d(nx ck sd:Int)(ao:Option Addr)(n cap:Nat)(L:List (List Int))(w:World)(E:Grid w ao n cap L)(j:L.flatten.length<=17592186044416)(q: ∀x∈L.flatten,(Lit.int .i64 x).wf=true):
  Calls Tryz.prog 200 #[.agg #[.int .i64 nx,.int .i64 ck,.int .u64 sd,.slice ao n cap]] w fun e w'=>e= .returned (.bool (q0e nx ck L))/\Ext w w':=by
 have D:=η E;have v:=η q;clear E q;by_cases h1:nx<0
 ·have hm:q0e nx ck L=false:=q5O (by omega)
  have b:=η hm;clear hm;go_enter Tryz.func200,Tryz.ntmps200;go_wp2_with fail;go_ret;exact⟨by rw[b.o];rfl,q0C _ _⟩
 by_cases h2:1000000<nx
 ·have hm:q0e nx ck L=false:=q5O (by omega)
  have b:=η hm;clear hm;go_enter Tryz.func200,Tryz.ntmps200;go_wp2_with fail;go_ret;exact⟨by rw[b.o];rfl,q0C _ _⟩
 by_cases h3:ck<0
 ·have hm:q0e nx ck L=false:=q5O (by omega)
  have b:=η hm;clear hm;go_enter Tryz.func200,Tryz.ntmps200;go_wp2_with fail;go_ret;exact⟨by rw[b.o];rfl,q0C _ _⟩
 by_cases h4:2147483647<ck
 ·have hm:q0e nx ck L=false:=q5O (by omega)
  have b:=η hm;clear hm;go_enter Tryz.func200,Tryz.ntmps200;go_wp2_with fail;go_ret;exact⟨by rw[b.o];rfl,q0C _ _⟩
 go_enter Tryz.func200,Tryz.ntmps200;go_wp2_with fail;refine(z8x _ _ _ L _ (D.o.ext (q0C _ _)) j v.o).mono ?_;rintro e w1 ⟨rfl,d⟩;obtain⟨G,I,J,M⟩:=z6i d;have r:=η d;clear d;by_cases y:q1E L=false
 ·have hm:q0e nx ck L=false:=z5s y
  have b:=η hm;clear hm;go_wp2_with fail;go_ret;exact⟨by rw[b.o];rfl,(q0C _ _).trans r.o⟩
 have B:q1E L=true:=by simpa using y
 have hm:q0e nx ck L=!(L.flatten.any fun x=>decide (nx<=x)):=by rw[q9v];exact q9d (by omega) B
 have b:=η hm;clear hm y;generalize hF:L.flatten=xs at*;have C:=η hF;clear hF;go_wp2_with fail;refine(z2h _ _ _ L _ ((D.o.ext (q0C _ _)).ext r.o) (by rw[C.o];exact j)).mono ?_;rw[C.o];rintro e V ⟨U,rfl,i,d⟩;obtain⟨R,S,rfl,m⟩:=q2d i;have l:=η (r.o.trans d);obtain⟨e0,N,O,Q⟩:=z6i l.o;have u:=η m;have F:=η e0;clear i d m r G I J M;go_wp2_with fail;refine(z2u _ _ _ xs nx w.heap.size _ u.o F.o).mono ?_;rintro e W ⟨rfl,d⟩;have s:=η (l.o.trans d);clear d e0 N O Q;go_wp2_with fail;go_ret;exact⟨rb b.o,(q0C _ _).trans s.o⟩
theorem y4S(ao:Option Addr)(n cap:Nat)(L:List (List Int))(x:Int)(w:World)(hx:Grid w ao n cap L)(y0:L.flatten.length<=1000000000)(hn:n<=1000000000)(t0: ∀x∈L.flatten,(Lit.int .i64 x).wf=true):
  Calls Tryz.prog 170 #[.slice ao n cap,.int .i64 x] w (y4P 37 3 w (addS L x)):=by
 have Hx:=η hx;have b1:=hx.fits;have b2:=hx.bound;have w0:=η t0;clear hx t0;go_enter Tryz.func170,Tryz.ntmps170;go_wp2_with fail;refine(z2h _ _ _ L _ Hx.o (by omega)).mono ?_;rintro e w1 ⟨v1,rfl,V,m0⟩;obtain⟨a1,c1,rfl,hi⟩:=q2d V;have c0:=η m0;have HI:=η hi;have f1:=hi.fits;have f2:=hi.bound;clear V m0 hi;have Z:=η (z3w L x);have S2:=η (z1L L x);have S3:=η (z6b L x);have Y:=η (q5g L);have J:=η (q2p L);have r:Hd (q5X L x=(if q0c L=[] then [[]] else q0c L).set 0 (L.getD 0 []++[x])):=η rfl;generalize hF:L.flatten=xs at*;have HF:=η hF;clear hF;go_wp2_with fail;refine(z8x _ _ _ L _ (Hx.o.ext c0.o) (by rw[HF.o];omega) (by rw[HF.o];exact w0.o)).mono ?_;rintro e w2 ⟨rfl,b0⟩;have E:=η (c0.o.trans b0);have f0:=η (HI.o.ext b0);clear b0 HI;by_cases hv:q1E L=false
 ·go_wp2_with fail
  go_ret2;exact⟨.slice none 0 0,[],by rw[Z.o (.inl hv)];rfl,by rw[Z.o (.inl hv)];exact OGr.nil _ _ _ _,E.o⟩
 have z0:q1E L=true:=by simpa using hv
 by_cases h0:x<0
 ·go_wp2_with fail
  go_ret2;exact⟨.slice none 0 0,[],by rw[Z.o (.inr (.inl h0))];rfl,by rw[Z.o (.inr (.inl h0))];exact OGr.nil _ _ _ _,E.o⟩
 go_wp2_with fail;refine(q9N _ _ _ xs x _ f0.o).mono ?_;rintro e w3 ⟨rfl,n0⟩;have m:=η (E.o.trans n0);clear n0 E;by_cases q:x∈xs
 ·have hd:decide (x∈xs)=true:=ζ q
  have g0:=η q;clear q;go_wp2_with fail;go_ret2;exact⟨.slice none 0 0,[],by rw[Z.o (.inr (.inr g0.o))];rfl,by rw[Z.o (.inr (.inr g0.o))];exact OGr.nil _ _ _ _,m.o⟩
 have hd:decide (x∈xs)=false:=ε q;have s0:¬(q1E L=false\/x<0\/x∈xs):=by rintro(h|h|h);exact hv h;exact absurd h (by omega);exact q h
 have I:=η s0;clear s0 q;by_cases a0:40<=xs.length
 ·go_wp2_with fail
  go_ret2;exact⟨.slice none 0 0,[],by rw[S2.o I.o a0];rfl,by rw[S2.o I.o a0];exact OGr.nil _ _ _ _,m.o⟩
 go_wp2_with fail;refine(y1s _ _ _ L _ (Hx.o.ext m.o) (fun i=>by have:=Y.o i;omega) hn).mono ?_;rintro e w4 ⟨v4,A0,rfl,d,o0⟩;obtain⟨a4,c4,rfl,N⟩:=d.grid;have v0:=η N;have F:=η (m.o.trans o0);have U:=d.base m.o.size;clear o0 d m;have q1:=N.fits;have q2:=N.bound;clear N;have D:=Y.o 0;have l0:=η (S3.o I.o a0);clear Z S2 S3 I f0 Y;have X:=η U;clear U
 go_upto_if 31 with fail
 go_cut [7] (fun v w'=> ∃(M:List (List Int)) (vs:List Value) (G c:Nat),v= .slice (some ⟨G,0,none⟩) M.length c/\OGr w' w.heap.size 37 3 v vs M/\0<M.length/\M.set 0 (M.getD 0 []++[x])=q5X L x/\(M.getD 0 []).length<=xs.length/\Ext w w')
 case first=>
  by_cases ht:q0c L=[]
  ·have B:[[]].set 0 ([[]].getD 0 []++[x])=q5X L x:=by rw[r.o,ξ ht,<-J.o,ht];rfl
   have b:=η B;clear B r;rw[ht];clear ht;go_wp2_with fail
   go_meet
   exact⟨[[]],_,_,_,rfl,OGr.one _ F.o.size,by decide,b.o,by simp,F.o.alloc _⟩
  ·have C:0<(q0c L).length:=List.length_pos_iff.2 ht
   have B:(q0c L).set 0 (L.getD 0 []++[x])=q5X L x:=by rw[r.o,κ ht]
   have hz:(((q0c L).length:Int)==0)=false:=by rw[beq_eq_false_iff_ne];omega
   obtain⟨G,ai,ci,e0,_⟩:=X.o.head (i:=0) C
   cases e0;have b:=η B;clear B r ht;have j0:=η C;clear C;go_wp2_with fail
   go_meet
   exact⟨q0c L,_,_,_,rfl,X.o,j0.o,by rw[J.o];exact b.o,by rw[J.o];exact D,F.o⟩
 case rest=>
  obtain⟨M,vs,G,c,rfl,d,r0,S,x0,Q⟩:=hcut;have b:=η S;have s:=η Q;have i0:=η r0;obtain⟨g,ai,ci,e0,k1,k2,k3,k4⟩:=d.head (i:=0) r0
  cases e0;have h1:=d.own.rd;obtain⟨_,_,e,m1,m2,_⟩:=h1
  cases e;have y:=η (d.ext ((Ext.refl _).alloc (.cells #[.int .i64 x] 3)));generalize M.getD 0 []=R at*;have O:=η k3;have k0:=η k2;clear X v0 r J S Q d k2 k3 F D
  go_wp2_with (at_builtin;refine q0Y rfl _ _ 37 rfl w.heap.size 3 _ 1 8 Tryz.underlying37 Tryz.infoInt rfl (by decide) _ _ _ rfl (O.o.ext ((Ext.refl _).alloc _)) _ _ _ [.int .i64 x] rfl rfl (fun h=>by cases h) (Rd.lit _ _ _) (by intro u hu;rw[List.mem_singleton.1 hu];rfl) (by omega) (by omega) (by have:=s.o.size;simp;omega) ?_;intro v' w5 j hg q0;obtain⟨a',c',e2⟩:=j.slice;subst e2;obtain⟨g',e1,d0,d1,d2,d3⟩:=y.o.cell (i:=0) (by decide) i0.o hg (.inr (by rw[k0.o];rfl));cases e1)
  have W:=y.o.put (i:=0) (by decide) rfl i0.o (l:=R++[x]) (by simpa using j) hg (.inr (by rw[k0.o];rfl)) q0;have p0:=(q0z (s.o.alloc (.cells #[.int .i64 x] 3)) (O.o.ext ((Ext.refl _).alloc _)) hg (by have:=s.o.size;simp;omega)).setCell (p:=⟨G,0,none⟩) k4 (.slice a' (R.length+1) c');have HP:=η W;have u0:=η p0;clear W p0 j hg q0;go_wp2_with fail;go_ret2;refine⟨.slice (some ⟨G,0,none⟩) M.length c,vs.set 0 (.slice a' (R.length+1) c'),?_,?_,u0.o⟩
  ·rw[l0.o];rfl
  ·rw[l0.o];exact b.o▸HP.o
end
end Go.Proofs.YtfiibpgoplcgkaaGreatDoor
