/- Walks. -/
import Derived.Test.YtfiibpgoplcgkaaGreatDoorG6SA
import Derived.Test.YtfiibpgoplcgkaaGreatDoorG7SA
import Derived.Laws.ResultCell
set_option linter.unusedVariables false
set_option linter.unusedSimpArgs false
set_option maxRecDepth 100000
set_option maxHeartbeats 12800000
namespace Go.Proofs.YtfiibpgoplcgkaaGreatDoor
variable {e:En}{ao:Option Addr}{n cap k p i p0:Nat}{L:List En}{P:List Nat}
section
open Go.RowKit
theorem z9X(e:En)(w:World)(h:q3f e=true):Calls Tryz.prog 152 #[enV e] w fun r w'=>r= .returned (.string ⟨(q4X e).toArray⟩)/\Ext w w':=by
 obtain⟨a0,j,l,b1,m,N⟩:=okEn_iff.1 h;obtain⟨x,y,z⟩:=e;simp only at a0 j l b1 m N;have C:q4X (x,y,z)=be 8 x.toNat++(be 8 y.toNat++be 8 z.toNat):=rfl;have E:=η C;have R:=q0H 8 x.toNat;have S:=q0H 8 y.toNat;have U:=q0H 8 z.toNat;have G:=η (fun W=>q8A x 8 W (by omega) (by omega) a0 j);have I:=η (fun W=>q8A y 8 W (by omega) (by omega) l (by omega));have J:=η (fun W=>q8A z 8 W (by omega) (by omega) m (by omega));generalize q4X (x,y,z)=EE at*;generalize be 8 x.toNat=X at*;generalize be 8 y.toNat=Y at*;generalize be 8 z.toNat=Z at*;have O:IntKind.u64.wrap y=y:=by rw[IntKind.wrap_u64];omega
 have Q:IntKind.u64.wrap z=z:=by rw[IntKind.wrap_u64];omega
 have b:=Blk.new w 165 #[.int .u64 x,.int .i64 y,.int .i64 z];have q:(w.alloc (.cells #[.int .u64 x,.int .i64 y,.int .i64 z] 165)).cell? ⟨w.heap.size,0,none⟩=some (.int .u64 x):=b.cell 0;have s:(w.alloc (.cells #[.int .u64 x,.int .i64 y,.int .i64 z] 165)).cell? ⟨w.heap.size,1,none⟩=some (.int .i64 y):=b.cell 1;have u:(w.alloc (.cells #[.int .u64 x,.int .i64 y,.int .i64 z] 165)).cell? ⟨w.heap.size,2,none⟩=some (.int .i64 z):=b.cell 2;have u0:=q0D q;have u1:=q0D s;have u2:=q0D u;have V:¬(9223372036854775807<X.length+Y.length):=by omega
 have q2:¬(9223372036854775807<(X++Y).length+Z.length):=by rw[θ];omega
 have q3:¬(9223372036854775807<X.length+Y.length+Z.length):=by omega
 have F:=η (q0B w (.cells #[.int .u64 x,.int .i64 y,.int .i64 z] 165));clear b C q s u h;show Calls Tryz.prog 152 #[.agg #[.int .u64 x,.int .i64 y,.int .i64 z]] w _;go_enter Tryz.func152,Tryz.ntmps152;go_wp2_with fail;refine q0E (by kernel_rfl) (by kernel_rfl) ?_
 repeat (go_big_quiet_step (fail))
 go_big_quiet_step (exact Calls.quiet_ext (G.o _))
 repeat (go_big_quiet_step (fail))
 go_big_quiet_step (exact Calls.quiet_ext (I.o _))
 repeat (go_big_quiet_step (fail))
 go_big_quiet_step (exact Calls.quiet_ext (J.o _))
 repeat (go_big_quiet_step (fail))
 refine wpQuiet_nil ?_;intro w2 D;have d:=η (F.o.trans D);clear D;go_wp2_with fail;go_ret;exact⟨by rw[E.o,q3d,q3d];simp,d.o⟩
def q6f(e:En)(h v:Int):Bool:=decide (e.1<h)||(decide (e.1=h)&&decide (e.2.1<v))
theorem z4T(h v:Int)(b:0<=e.2.2):q6f e h v=q0n e (h,v,0):=by
 rw[Bool.eq_iff_iff,lessE_iff];unfold q6f;simp only[Bool.or_eq_true,Ξ,Φ];omega
theorem y0L(e:En)(h v:Int)(w:World):
  Calls Tryz.prog 267 #[enV e,.int .u64 h,.int .i64 v] w fun r w'=>r= .returned (.bool (q6f e h v))/\Ext w w':=by
 obtain⟨a,b,c⟩:=e;show Calls _ _ #[.agg #[.int .u64 a,.int .i64 b,.int .i64 c],_,_] _ _;have j:=Blk.new w 165 #[.int .u64 a,.int .i64 b,.int .i64 c];have m:=η (q0B w (.cells #[.int .u64 a,.int .i64 b,.int .i64 c] 165));have s:(w.alloc (.cells #[.int .u64 a,.int .i64 b,.int .i64 c] 165)).cell? ⟨w.heap.size,0,none⟩=some (.int .u64 a):=j.cell 0;have u:(w.alloc (.cells #[.int .u64 a,.int .i64 b,.int .i64 c] 165)).cell? ⟨w.heap.size,1,none⟩=some (.int .i64 b):=j.cell 1;have q:(decide (a<h)=true/\q6f (a,b,c) h v=true)\/(decide (a<h)=false/\(a==h)=false/\q6f (a,b,c) h v=false)\/(decide (a<h)=false/\(a==h)=true/\q6f (a,b,c) h v=decide (b<v)):=by
  unfold q6f;by_cases d:a<h
  ·exact .inl ⟨ζ d,by simp[d]⟩
  ·by_cases l:a=h
   ·exact .inr (.inr ⟨ε d,by simpa using l,by simp[d,l]⟩)
   ·exact .inr (.inl ⟨ε d,by simpa using l,by simp[d,l]⟩)
 clear j;rcases q with⟨d,he⟩|⟨d,l,he⟩|⟨d,l,he⟩
 all_goals
  rw[he];clear he;go_enter Tryz.func267,Tryz.ntmps267;go_wp2_with fail;go_ret;exact⟨rfl,m.o⟩
theorem z0I(h v:Int)(w:World)(D:Ens w ao n cap L)(hn:n<=1000000)(R:q1E L)(Q: ∀e∈L,q3f e=true):
  Calls Tryz.prog 215 #[.slice ao n cap,.int .u64 h,.int .i64 v] w fun r w'=>r= .returned (.int .i64 (lbE L (h,v,0):Int))/\Ext w w':=by
 have U:=η D;have N:=η (Ext.refl w);have S:=η (fun e W=>y0L e h v W);have b1:=D.fits;have b2:=D.bound;have J:Hd (∀i,i<n->q6f (L.getD i en0) h v=decide (i<lbE L (h,v,0))):=η fun i d=>by
  have y:i<L.length:=by rw[D.len];exact d
  have hg:L.getD i en0=L[i]:=by rw[δ,γ y];rfl
  have G:=Q _ (List.getElem_mem y);rw[hg,z4T h v (by unfold q3f at G;simp at G;omega),q3s (h,v,0) R (γ y)]
 have F:=q4g L (h,v,0);rw[D.len] at F;generalize lbE L (h,v,0)=lb at*;clear D R Q;go_enter Tryz.func215,Tryz.ntmps215
 go_wp2
 go_step3
 go_wp2
 go_step3
 go_wp2
 go_loopw [7,8] (fun i j W=> ∃l d:Nat,i= .int .i64 (l:Int)/\j= .int .i64 (d:Int)/\l<=lb/\lb<=d/\d<=n/\Ext w W) (fun i j _=>(intOf j).toNat-(intOf i).toNat)
 case atStart=>exact⟨0,n,rfl,rfl,υ _,F,ι _,N.o⟩
 case round=>
  obtain⟨l,d,rfl,rfl,V,X,Y,O⟩:=hrel;have I:=η O;clear O;have q1:IntKind.i64.wrap ((d:Int)-(l:Int))=(d:Int)-(l:Int):=by rw[ν];omega
  have q2:Int.tdiv ((d:Int)-(l:Int)) 2=((d:Int)-(l:Int))/2:=Int.tdiv_eq_ediv_of_nonneg (by omega);obtain⟨m,hm⟩: ∃m,l+(d-l)/2=m:=⟨_,rfl⟩
  have q3:(l:Int)+((d:Int)-(l:Int))/2=(m:Int):=by omega
  have q4:IntKind.i64.wrap (((d:Int)-(l:Int))/2)=((d:Int)-(l:Int))/2:=by rw[ν];omega
  have q5:IntKind.i64.wrap (m:Int)=(m:Int):=by rw[ν];omega
  by_cases a0:l<d
  ·have Z:decide ((d:Int)<=(l:Int))=false:=ε (by omega)
   have q6:(m:Int)<(n:Int):=by omega
   obtain⟨b,off,rfl,c0,c1,c2⟩:=(U.o.ext I.o).at (show m<n by omega);have u:=J.o m (by omega);have q:=η (S.o (L.getD m en0));generalize L.getD m en0=e at*;obtain⟨a,bb,c⟩:=e;rw[u] at q;by_cases C:m<lb
   ·rw[ζ C] at q
    have q7:IntKind.i64.wrap ((m:Int)+1)=(m:Int)+1:=by rw[ν];omega
    clear u;go_wp2_with fail;refine(q.o _).mono ?_;rintro e w1 ⟨rfl,E⟩;have s:=η (I.o.trans E);clear E;go_wp2_with fail
    go_roundw
    case rel=>exact⟨m+1,d,by go_num,rfl,C,X,Y,s.o⟩
    case measure=>simp[intOf];omega
   ·rw[ε C] at q
    clear u;go_wp2_with fail;refine(q.o _).mono ?_;rintro e w1 ⟨rfl,E⟩;have s:=η (I.o.trans E);clear E;go_wp2_with fail
    go_roundw
    case rel=>exact⟨l,m,rfl,rfl,V,by omega,by omega,s.o⟩
    case measure=>simp[intOf];omega
  ·have Z:decide ((d:Int)<=(l:Int))=true:=ζ (by omega)
   obtain rfl:l=lb:=by omega
   go_wp2_with fail;rw[Exit.noGoto_ret];go_ret;exact⟨rfl,I.o⟩
theorem Tryz.infoEnH :(Tryz.prog.info? 165).map (fun i=>(i.zero,i.size,i.bytes))=some (some (.agg #[.int .u64 0,.int .i64 0,.int .i64 0]),3,24):=by kernel_rfl
theorem q9Y{K:List En}(w:World)(D:Ens w ao n cap K)(hn:n<=1000000):
  Calls Tryz.prog 234 #[.slice ao n cap] w fun e w'=> ∃v,e= .returned v/\w'.ownsRow w.heap.size 165 3 v K.length (ecs K)/\Ext w w':=by
 have hq:=fun (w:World) (a:Option Addr) (n c n' c':Nat)=>Lib.run_eql_slice_nil (P:=Tryz.prog) w 187 165 a n c n' c' Tryz.underlying187
 have b1:=D.fits;have b2:=D.bound;have F:=D.len;have m:=D.nil;obtain⟨i,I,J,d,y⟩:=info_parts Tryz.infoEnH;have X:=η I;have Z:=η J;have S:=η d;have N:=η y;have U:=η (Ext.refl w)
 cases ao with
 | none=>
  obtain rfl:cap=0:=m rfl;obtain rfl:n=0:=by omega
  obtain rfl:K=[]:=List.eq_nil_of_length_eq_zero F;clear D F m I J d y;go_enter Tryz.func234,Tryz.ntmps234;go_wp2_with fail;go_ret;exact⟨_,rfl,World.ownsRow_nil _ _ _ _,U.o⟩
 | some a=>
  have l:(w.alloc (.cells #[] 165)).ownsRow w.heap.size 165 3 (.slice (some ⟨w.heap.size,0,none⟩) 0 0) 0 []:=⟨rfl,.inr ⟨w.heap.size,0,#[],rfl,ι _,Blk.new w _ _,ι _,by unfold maxLen;omega,rfl,rfl⟩⟩
  have G:=η l;have r:=η (q0B w (.cells #[] 165));by_cases h0:n=0
  ·subst h0
   obtain rfl:K=[]:=List.eq_nil_of_length_eq_zero F;clear D F m I J d y l;go_enter Tryz.func234,Tryz.ntmps234;go_wp2_with fail;go_ret;exact⟨_,rfl,G.o,r.o⟩
  ·have E:Hd (∀j u,(ecs K)[j]? =some u->(w.alloc (.cells #[] 165)).cell? (a.add j)=some u):=η fun j u hj=>by
    obtain⟨b,off,e,h⟩:=(D.ext r.o).rd j u hj
    cases e;rw[Addr.add_lit];exact h
   have Y:=η F;have Q:Hd ((ecs K).length=n*3):=η (by rw[q1g,F]);clear D F m I J d y l;go_enter Tryz.func234,Tryz.ntmps234
   go_wp2_with (at_builtin;refine wpList_append_lies _ rfl _ _ 187 rfl w.heap.size 165 i _ 3 24 Tryz.underlying187 X.o Z.o S.o N.o (by decide) (by decide) _ 0 [] (by simp[Act.eval]) G.o a n cap (ecs K) (by simp[Act.eval]) Q.o E.o (q4D K) (by omega) (by unfold maxLen;omega) (by omega) r.o.size _ rfl ?_;intro g cap1 w1 C s V W;have R:=η C;have O:=η s;clear C s V)
   go_wp2_with fail;go_ret;refine⟨_,rfl,by have:=R.o;rw[Y.o];simpa using this,r.o.grown O.o r.o.size (fun q hq=>by cases hq;exact ι _)⟩
theorem z8o(h a b:Int)(w:World)(O:Ens w ao n cap L)(hn:n<=1000000)(hs:q1E L)(ho: ∀e∈L,q3f e=true):
  Calls Tryz.prog 240 #[.slice ao n cap,.int .u64 h,.int .i64 a,.int .i64 b] w fun r w'=> ∃v,r= .returned v/\w'.ownsRow w.heap.size 165 3 v (q0u L h a b).length (ecs (q0u L h a b))/\Ext w w':=by
 have HS:=η (z0I h a w O hn hs ho);have Hx:=η O;have b1:=O.fits;have b2:=O.bound;have G:=O.len;have a0:=O.nil;have X:=q4g L (h,a,0);rw[G] at X;have J:Hd (q0u L h a b=(L.drop (lbE L (h,a,0))).takeWhile (inE h b)):=η (q3v hs ho);generalize lbE L (h,a,0)=lb at*;have m:=η G;clear O hs ho G;go_enter Tryz.func240,Tryz.ntmps240;go_wp2_with fail;refine HS.o.mono ?_;rintro e w1 ⟨rfl,y⟩;have l:=η y;clear y;go_wp2_with fail
 go_loopw [10] (fun i W=> ∃j:Nat,lb<=j/\j<=n/\i= .int .i64 (j:Int)/\W=w1/\(L.drop lb).takeWhile (inE h b)=(L.drop lb).take (j-lb)++(L.drop j).takeWhile (inE h b)) (fun i _=>n-(intOf i).toNat)
 case atStart=>exact⟨lb,ι _,X,rfl,rfl,by simp⟩
 case round =>
  obtain⟨j,h1,h2,rfl,rfl,hw⟩:=hrel;have HW:=η hw;clear hw;by_cases Z:j<n
  ·have hd:decide ((j:Int)<(n:Int))=true:=ζ (by omega)
   have q1:IntKind.i64.wrap ((j:Int)+1)=(j:Int)+1:=by rw[ν];omega
   have q5:(j:Int)<(n:Int):=by omega
   obtain⟨bb,off,rfl,c0,c1,c2⟩:=(Hx.o.ext l.o).at Z;have V:j<L.length:=by rw[m.o];exact Z
   have hg:L.getD j en0=L[j]:=by rw[δ,γ V];rfl
   rw[hg] at c0 c1 c2;have U:(L.drop j).takeWhile (inE h b)=if inE h b L[j] then L[j]::(L.drop (j+1)).takeWhile (inE h b) else []:=by
    rw[List.drop_eq_getElem_cons V,List.takeWhile_cons]
   have b0:(L.drop lb).take (j+1-lb)=(L.drop lb).take (j-lb)++[L[j]]:=by
    have h3:j-lb<(L.drop lb).length:=by rw[List.length_drop];omega
    rw[show j+1-lb=(j-lb)+1 by omega,List.take_succ_eq_append_getElem h3,List.getElem_drop]
    congr 3;omega
   have R:=η U;have d0:=η b0;generalize L[j]=e at*;obtain⟨S,e1,e2⟩:=e;clear hg U b0;by_cases E:inE h b (S,e1,e2)=true
   ·have F:=E
    unfold inE at F;simp only[Ξ,Φ] at F;obtain⟨i1,i2⟩:=F;have Q:(S==h)=true:=by simpa using i1
    have g2:decide (e1<=b)=true:=ζ i2;have f0:Hd ((L.drop lb).takeWhile (inE h b)=(L.drop lb).take (j+1-lb)++(L.drop (j+1)).takeWhile (inE h b)):=η (by rw[HW.o,R.o,ξ E,d0.o,List.append_assoc];rfl);clear i1 i2 E;go_wp2_with fail
    go_roundw
    case rel=>exact⟨j+1,by omega,by omega,by go_num,trivial,f0.o⟩
    case measure=>simp[intOf];omega
   ·have N:(S==h)=false\/((S==h)=true/\decide (e1<=b)=false):=by
     by_cases Q:S=h
     ·refine .inr ⟨by simpa using Q,ε fun g2=>E ?_⟩
      unfold inE;simp[Q,g2]
     ·exact .inl (by simpa using Q)
    have q:Hd ((L.drop lb).takeWhile (inE h b)=(L.drop lb).take (j-lb)):=η (by rw[HW.o,R.o,κ E,List.append_nil]);clear E;have I:Ens wr (some ⟨bb,off+lb*3,none⟩) (j-lb) (cap-lb) ((L.drop lb).take (j-lb)):=by
     have h5:=(Hx.o.ext l.o).cut (show j<=n by omega);refine⟨by rw[Θ,List.length_drop,m.o];omega,by omega,by omega,(fun h=>by cases h),?_⟩;have h6:=h5.rd.drop (lb*3);have e6:(ecs (L.take j)).drop (lb*3)=ecs ((L.drop lb).take (j-lb)):=by
      rw[<-List.drop_take]
      conv=>lhs;rw[<-List.take_append_drop lb (L.take j),q3J]
      exact List.drop_left' (by rw[q1g,Θ,Θ,m.o];omega)
     rwa [e6] at h6
    have C:=η (q9Y wr I (by omega));have D:Hd (q0u L h a b=(L.drop lb).take (j-lb)):=η (by rw[J.o,q.o]);clear I;rcases N with Q|⟨Q,g2⟩
    all_goals
     go_wp2_with fail;refine C.o.mono ?_;rintro e w2 ⟨v,rfl,d,y⟩;have s:=η (q1G d l.o.size);have u:=η (l.o.trans y);clear d y;go_wp2_with fail;go_ret;exact⟨v,rfl,by rw[D.o];exact s.o,u.o⟩
  ·have hd:decide ((j:Int)<(n:Int))=false:=ε (by omega)
   obtain rfl:j=n:=by omega
   have q:Hd ((L.drop lb).takeWhile (inE h b)=(L.drop lb).take (j-lb)):=η (by rw[HW.o,List.drop_of_length_le (show L.length<=j by rw[m.o];exact ι _)];simp);by_cases Y:lb<j
   ·obtain⟨bb,off,rfl,_,_,_⟩:=(Hx.o.ext l.o).at Y
    have I:Ens wr (some ⟨bb,off+lb*3,none⟩) (j-lb) (cap-lb) ((L.drop lb).take (j-lb)):=by
     have h5:=(Hx.o.ext l.o).cut (show j<=j by omega);refine⟨by rw[Θ,List.length_drop,m.o];omega,by omega,by omega,(fun h=>by cases h),?_⟩;have h6:=h5.rd.drop (lb*3);have e6:(ecs (L.take j)).drop (lb*3)=ecs ((L.drop lb).take (j-lb)):=by
      rw[<-List.drop_take]
      conv=>lhs;rw[<-List.take_append_drop lb (L.take j),q3J]
      exact List.drop_left' (by rw[q1g,Θ,Θ,m.o];omega)
     rwa [e6] at h6
    have C:=η (q9Y wr I (by omega));have D:Hd (q0u L h a b=(L.drop lb).take (j-lb)):=η (by rw[J.o,q.o]);have h0:¬(cap=lb):=by omega
    clear I;go_wp2_with fail;refine C.o.mono ?_;rintro e w2 ⟨v,rfl,d,y⟩;have s:=η (q1G d l.o.size);have u:=η (l.o.trans y);clear d y;go_wp2_with fail;go_ret;exact⟨v,rfl,by rw[D.o];exact s.o,u.o⟩
   ·obtain rfl:lb=j:=by omega
    have D:Hd (q0u L h a b=[]):=η (by rw[J.o,q.o,Nat.sub_self];rfl);have C:=η (fun o c (h1:c<=cap) (h2:o=none->c=0)=>q9Y (K:=[]) (n:=0) wr ⟨rfl,by omega,by omega,h2,Rd.nil wr o⟩ (by omega));clear Y q HW J;by_cases g0:cap=lb
    ·go_wp2_with fail
     refine(C.o _ _ (by omega) (fun _=>by omega)).mono ?_;rintro e w2 ⟨v,rfl,d,y⟩;have s:=η (q1G d l.o.size);have u:=η (l.o.trans y);clear d y;go_wp2_with fail;go_ret;exact⟨v,rfl,by rw[D.o];exact s.o,u.o⟩
    ·go_wp2_with fail
     refine(C.o _ _ (by omega) (fun h=>by have:=a0 (by cases ao<;>first|rfl|cases h);omega)).mono ?_;rintro e w2 ⟨v,rfl,d,y⟩;have s:=η (q1G d l.o.size);have u:=η (l.o.trans y);clear d y;go_wp2_with fail;go_ret;exact⟨v,rfl,by rw[D.o];exact s.o,u.o⟩
theorem y0s(q:q1E L)(u: ∀e∈L,q3f e=true)(h v:Int): ∀i,i<L.length->lbE L (h,v,0)<=i->(inE h v (L.getD i en0)=true↔i<lbE L (h,v+1,0)):=fun i l C=>by
 have s:L.getD i en0=L[i]:=by rw[δ,γ l];rfl
 have j:=q3s (h,v+1,0) q (γ l);have m:=q3s (h,v,0) q (γ l);rw[ε (by omega)] at m;have d:=u _ (List.getElem_mem l);unfold q3f at d;simp at d;rw[s]
 constructor
 ·intro b
  unfold inE at b;simp only[Ξ,Φ] at b;have o:q0n L[i] (h,v+1,0)=true:=lessE_iff.2 (.inr ⟨b.1,.inl (by show L[i].2.1<v+1;omega)⟩);rw[o] at j;exact of_decide_eq_true j.symm
 ·intro b
  rw[ζ b] at j;have o:=lessE_iff.1 j;have y:¬(L[i].1<h\/(L[i].1=h/\(L[i].2.1<v\/(L[i].2.1=v/\L[i].2.2<0)))):=fun r=>by rw[lessE_iff.2 r] at m;cases m
  unfold inE;simp only[Ξ,Φ];simp only at o;omega
theorem q7r{h v:Int}(b:q3H L h v=some e):inE h v e=true:=by
 unfold q3H at b;exact(List.mem_filter.1 (List.mem_of_getLast? b)).2
theorem q8W{w W:World}{a b c:Value}(h:Ext w W):Ext w (((W.setCell ⟨w.heap.size,0,none⟩ a).setCell ⟨w.heap.size,1,none⟩ b).setCell ⟨w.heap.size,2,none⟩ c):=
 Below.setCell (Below.setCell (Below.setCell h (ι _) _) (ι _) _) (ι _) _
theorem y0e(h v:Int)(w:World)(hx:Ens w ao n cap L)(hn:n<=1000000)(hs:q1E L)(ho: ∀e∈L,q3f e=true):
  Calls Tryz.prog 223 #[.slice ao n cap,.int .u64 h,.int .i64 v] w fun r w'=>r= .returned (.tuple #[enV ((q3H L h v).getD en0),.bool (q3H L h v).isSome])/\Ext w w':=by
 have k0:=q0B w (.cells #[.int .u64 0,.int .i64 0,.int .i64 0] 165);have q0:=Blk.new w 165 #[.int .u64 0,.int .i64 0,.int .i64 0];have o0:=η k0;have v0:=η q0;have HS:=η (z0I h v _ (hx.ext k0) hn hs ho);have Hx:=η hx;have b1:=hx.fits;have b2:=hx.bound;have Z:=hx.len;have w0:=q4g L (h,v,0);have t0:=q4g L (h,v+1,0);have j0:lbE L (h,v,0)<=lbE L (h,v+1,0):=by
  unfold lbE;rw[<-List.countP_eq_length_filter,<-List.countP_eq_length_filter];refine List.countP_mono_left fun e _ he=>?_
  rw[lessE_iff] at he⊢;simp only at he⊢;omega
 rw[Z] at w0 t0;have n0:=η (y0s hs ho h v);have h0:=η (z6r (l:=L) (h:=h) (t:=v) hs ho);have V:=η Z;generalize lbE L (h,v,0)=lb at*;generalize lbE L (h,v+1,0)=lb2 at*;clear hx hs ho Z k0 q0;go_enter Tryz.func223,Tryz.ntmps223;go_wp2_with fail;refine HS.o.mono ?_;rintro e w1 ⟨rfl,hb⟩;have i0:=η hb;clear hb;go_wp2_with fail
 go_loopw [8] (fun i W=> ∃j:Nat,lb<=j/\j<=lb2/\i= .int .i64 (j:Int)/\W=w1) (fun i _=>lb2-(intOf i).toNat)
 case atStart=>exact⟨lb,ι _,j0,rfl,rfl⟩
 case round =>
  obtain⟨j,h1,h2,rfl,rfl⟩:=hrel;by_cases y0:j<lb2
  ·have m:j<n:=by omega
   have hd:decide ((j:Int)<(n:Int))=true:=ζ (by omega);have q1:IntKind.i64.wrap ((j:Int)+1)=(j:Int)+1:=by rw[ν];omega
   have q5:(j:Int)<(n:Int):=by omega
   obtain⟨S,off,rfl,c0,c1,c2⟩:=(Hx.o.ext (o0.o.trans i0.o)).at m;have Y:=(n0.o j (by rw[V.o];exact m) h1).2 y0;generalize L.getD j en0=e at*;obtain⟨e0,e1,e2⟩:=e;unfold inE at Y;simp only[Ξ,Φ] at Y;have g1:(e0==h)=true:=by simpa using Y.1
   have g2:decide (e1<=v)=true:=ζ Y.2;clear Y;go_wp2_with fail
   go_roundw
   case rel=>exact⟨j+1,by omega,by omega,by go_num,trivial⟩
   case measure=>simp[intOf];omega
  ·obtain rfl:j=lb2:=by omega
   have l0:=η h0.o;have rb:=v0.o.ext i0.o;have r0:wr.cell? ⟨w.heap.size,0,none⟩=some (.int .u64 0):=rb.cell 0;have r1:wr.cell? ⟨w.heap.size,1,none⟩=some (.int .i64 0):=rb.cell 1;have r2:wr.cell? ⟨w.heap.size,2,none⟩=some (.int .i64 0):=rb.cell 2;have z0:=rb.free 0;have z1:=rb.free 1;have z2:=rb.free 2;have D:=η (o0.o.trans i0.o);clear rb;have b0:decide ((j:Int)<(n:Int))=false\/(decide ((j:Int)<(n:Int))=true/\ ∃m:j<n,inE h v (L.getD j en0)=false):=by
    by_cases m:j<n
    ·refine .inr ⟨ζ (by omega),m,?_⟩
     cases hi:inE h v (L.getD j en0) with
     |false=>rfl
     |true=>have:=(n0.o j (by rw[V.o];exact m) h1).1 hi;omega
    ·exact .inl (ε (by omega))
   have s0:(j=0/\q3H L h v=none)\/(0<j/\ ∃N:j-1<n,((L.getD (j-1) en0).1==h)=false/\q3H L h v=none)\/(0<j/\ ∃N:j-1<n,((L.getD (j-1) en0).1==h)=true/\decide (v<(L.getD (j-1) en0).2.1)=false/\q3H L h v=some (L.getD (j-1) en0)):=by
    by_cases s:j=0
    ·exact .inl ⟨s,by rw[h0.o,ξ s]⟩
    ·have m:j-1<L.length:=by rw[V.o];omega
     have O:=h0.o;rw[κ s,γ m] at O;simp only at O;have hg:L.getD (j-1) en0=L[j-1]:=by rw[δ,γ m];rfl
     rw[hg];by_cases he:L[j-1].1=h
     ·rw[ξ he] at O
      refine .inr (.inr ⟨by omega,by omega,by simpa using he,?_,O⟩);have u0:=(q7r O)
      unfold inE at u0;simp only[Ξ,Φ] at u0;exact ε (by omega)
     ·rw[κ he] at O
      exact .inr (.inl ⟨by omega,by omega,by simpa using he,O⟩)
   have a0:decide ((j:Int)<(n:Int))=false\/(decide ((j:Int)<(n:Int))=true/\j<n/\(((L.getD j en0).1==h)=false\/(((L.getD j en0).1==h)=true/\decide ((L.getD j en0).2.1<=v)=false))):=by
    rcases b0 with g|⟨g,m,hi⟩
    ·exact .inl g
    ·refine .inr ⟨g,m,?_⟩
     unfold inE at hi;by_cases he:(L.getD j en0).1=h
     ·rw[ζ he,Bool.true_and] at hi
      exact .inr ⟨by simpa using he,hi⟩
     ·exact .inl (by simpa using he)
   have u:=η (fun i (hi:i<n)=>(Hx.o.ext D.o).at hi);have U:0<j->IntKind.i64.wrap ((j:Int)-1)=((j-1:Nat):Int):=fun h=>by rw[ν];omega
   clear b0 h0 l0;rcases s0 with⟨s,b⟩|⟨s,N,y,b⟩|⟨s,N,y,g4,b⟩
   ·rcases a0 with g|⟨g,m,X|⟨X,g6⟩⟩
    ·have g7:¬((j:Int)<(n:Int)):=of_decide_eq_false g
     have R:((j:Int)==0)=true:=by simp;omega
     go_wp2_with fail
     ((try simp only[Exit.inBlock,Exit.then]);refine bodyPost_ret (v:= .tuple #[.agg #[.int .u64 0,.int .i64 0,.int .i64 0],.bool false]) (by rw[results_cell_tmp rfl];go_simp) rfl ?_)
     refine⟨by first|rfl|(rw[d.o];rfl),?_⟩;exact q8W D.o
    ·obtain⟨S,off,rfl,c0,c1,c2⟩:=u.o j m
     generalize L.getD j en0=e at*;obtain⟨e0,e1,e2⟩:=e;simp only at X;subst s;have m0:wr.cell? ⟨S,off,none⟩=some (.int .u64 e0):=by simpa using c0
     have m1:wr.cell? ⟨S,off+1,none⟩=some (.int .i64 e1):=by simpa using c1
     have m2:wr.cell? ⟨S,off+2,none⟩=some (.int .i64 e2):=by simpa using c2
     have m3:(0:Int)<(n:Int):=of_decide_eq_true g;clear c0 c1 c2 g;have d:=η b;clear b;go_wp2_with fail
     ((try simp only[Exit.inBlock,Exit.then]);refine bodyPost_ret (v:= .tuple #[.agg #[.int .u64 0,.int .i64 0,.int .i64 0],.bool false]) (by rw[results_cell_tmp rfl];go_simp) rfl ?_)
     refine⟨by first|rfl|(rw[d.o];rfl),?_⟩;exact q8W D.o
    ·obtain⟨S,off,rfl,c0,c1,c2⟩:=u.o j m
     generalize L.getD j en0=e at*;obtain⟨e0,e1,e2⟩:=e;simp only at X;simp only at g6;subst s;have m0:wr.cell? ⟨S,off,none⟩=some (.int .u64 e0):=by simpa using c0
     have m1:wr.cell? ⟨S,off+1,none⟩=some (.int .i64 e1):=by simpa using c1
     have m2:wr.cell? ⟨S,off+2,none⟩=some (.int .i64 e2):=by simpa using c2
     have m3:(0:Int)<(n:Int):=of_decide_eq_true g;clear c0 c1 c2 g;have d:=η b;clear b;go_wp2_with fail
     ((try simp only[Exit.inBlock,Exit.then]);refine bodyPost_ret (v:= .tuple #[.agg #[.int .u64 0,.int .i64 0,.int .i64 0],.bool false]) (by rw[results_cell_tmp rfl];go_simp) rfl ?_)
     refine⟨by first|rfl|(rw[d.o];rfl),?_⟩;exact q8W D.o
   ·rcases a0 with g|⟨g,m,X|⟨X,g6⟩⟩
    ·have g7:¬((j:Int)<(n:Int)):=of_decide_eq_false g
     obtain⟨pb,I,pe,E,F,G⟩:=u.o (j-1) N;obtain⟨x,q⟩: ∃x,L.getD (j-1) en0=x:=⟨_,rfl⟩
     rw[q] at E F G y;obtain⟨Q,x1,x2⟩:=x;obtain⟨J,C⟩: ∃J,j-1=J:=⟨_,rfl⟩
     rw[C] at E F G N;have f0:IntKind.i64.wrap ((j:Int)-1)=(J:Int):=by rw[U s,C]
     have g0:(J:Int)<(n:Int):=by omega
     have R:((j:Int)==0)=false:=by simp;omega
     have d:=η b;clear b;simp only at y;have k3:(Q !=h)=true:=by rw[bne,y];rfl
     clear y;clear C q U;subst pe;go_wp2_with fail
     ((try simp only[Exit.inBlock,Exit.then]);refine bodyPost_ret (v:= .tuple #[.agg #[.int .u64 0,.int .i64 0,.int .i64 0],.bool false]) (by rw[results_cell_tmp rfl];go_simp) rfl ?_)
     refine⟨by first|rfl|(rw[d.o];rfl),?_⟩;exact q8W D.o
    ·obtain⟨pb,I,pe,E,F,G⟩:=u.o (j-1) N
     obtain⟨x,q⟩: ∃x,L.getD (j-1) en0=x:=⟨_,rfl⟩
     rw[q] at E F G y;obtain⟨Q,x1,x2⟩:=x;obtain⟨J,C⟩: ∃J,j-1=J:=⟨_,rfl⟩
     rw[C] at E F G N;have f0:IntKind.i64.wrap ((j:Int)-1)=(J:Int):=by rw[U s,C]
     have g0:(J:Int)<(n:Int):=by omega
     have R:((j:Int)==0)=false:=by simp;omega
     have d:=η b;clear b;simp only at y;have k3:(Q !=h)=true:=by rw[bne,y];rfl
     clear y;clear C q U;obtain⟨S,off,rfl,c0,c1,c2⟩:=u.o j m;generalize L.getD j en0=e at*;obtain⟨e0,e1,e2⟩:=e;simp only at X
     cases pe;go_wp2_with fail
     ((try simp only[Exit.inBlock,Exit.then]);refine bodyPost_ret (v:= .tuple #[.agg #[.int .u64 0,.int .i64 0,.int .i64 0],.bool false]) (by rw[results_cell_tmp rfl];go_simp) rfl ?_)
     refine⟨by first|rfl|(rw[d.o];rfl),?_⟩;exact q8W D.o
    ·obtain⟨pb,I,pe,E,F,G⟩:=u.o (j-1) N
     obtain⟨x,q⟩: ∃x,L.getD (j-1) en0=x:=⟨_,rfl⟩
     rw[q] at E F G y;obtain⟨Q,x1,x2⟩:=x;obtain⟨J,C⟩: ∃J,j-1=J:=⟨_,rfl⟩
     rw[C] at E F G N;have f0:IntKind.i64.wrap ((j:Int)-1)=(J:Int):=by rw[U s,C]
     have g0:(J:Int)<(n:Int):=by omega
     have R:((j:Int)==0)=false:=by simp;omega
     have d:=η b;clear b;simp only at y;have k3:(Q !=h)=true:=by rw[bne,y];rfl
     clear y;clear C q U;obtain⟨S,off,rfl,c0,c1,c2⟩:=u.o j m;generalize L.getD j en0=e at*;obtain⟨e0,e1,e2⟩:=e;simp only at X;simp only at g6
     cases pe;go_wp2_with fail
     ((try simp only[Exit.inBlock,Exit.then]);refine bodyPost_ret (v:= .tuple #[.agg #[.int .u64 0,.int .i64 0,.int .i64 0],.bool false]) (by rw[results_cell_tmp rfl];go_simp) rfl ?_)
     refine⟨by first|rfl|(rw[d.o];rfl),?_⟩;exact q8W D.o
   ·rcases a0 with g|⟨g,m,X|⟨X,g6⟩⟩
    ·have g7:¬((j:Int)<(n:Int)):=of_decide_eq_false g
     obtain⟨pb,I,pe,E,F,G⟩:=u.o (j-1) N;obtain⟨x,q⟩: ∃x,L.getD (j-1) en0=x:=⟨_,rfl⟩
     rw[q] at E F G b y g4;obtain⟨Q,x1,x2⟩:=x;obtain⟨J,C⟩: ∃J,j-1=J:=⟨_,rfl⟩
     rw[C] at E F G N;have f0:IntKind.i64.wrap ((j:Int)-1)=(J:Int):=by rw[U s,C]
     have g0:(J:Int)<(n:Int):=by omega
     have R:((j:Int)==0)=false:=by simp;omega
     have d:=η b;clear b;simp only at y g4;have k3:(Q !=h)=false:=by rw[bne,y];rfl
     clear y;clear C q U;subst pe;go_wp2_with fail
     ((try simp only[Exit.inBlock,Exit.then]);refine bodyPost_ret (v:= .tuple #[.agg #[.int .u64 Q,.int .i64 x1,.int .i64 x2],.bool true]) (by rw[results_cell_tmp rfl];go_simp) rfl ?_)
     refine⟨by first|rfl|(rw[d.o];rfl),?_⟩;exact q8W D.o
    ·obtain⟨pb,I,pe,E,F,G⟩:=u.o (j-1) N
     obtain⟨x,q⟩: ∃x,L.getD (j-1) en0=x:=⟨_,rfl⟩
     rw[q] at E F G b y g4;obtain⟨Q,x1,x2⟩:=x;obtain⟨J,C⟩: ∃J,j-1=J:=⟨_,rfl⟩
     rw[C] at E F G N;have f0:IntKind.i64.wrap ((j:Int)-1)=(J:Int):=by rw[U s,C]
     have g0:(J:Int)<(n:Int):=by omega
     have R:((j:Int)==0)=false:=by simp;omega
     have d:=η b;clear b;simp only at y g4;have k3:(Q !=h)=false:=by rw[bne,y];rfl
     clear y;clear C q U;obtain⟨S,off,rfl,c0,c1,c2⟩:=u.o j m;generalize L.getD j en0=e at*;obtain⟨e0,e1,e2⟩:=e;simp only at X
     cases pe;go_wp2_with fail
     ((try simp only[Exit.inBlock,Exit.then]);refine bodyPost_ret (v:= .tuple #[.agg #[.int .u64 Q,.int .i64 x1,.int .i64 x2],.bool true]) (by rw[results_cell_tmp rfl];go_simp) rfl ?_)
     refine⟨by first|rfl|(rw[d.o];rfl),?_⟩;exact q8W D.o
    ·obtain⟨pb,I,pe,E,F,G⟩:=u.o (j-1) N
     obtain⟨x,q⟩: ∃x,L.getD (j-1) en0=x:=⟨_,rfl⟩
     rw[q] at E F G b y g4;obtain⟨Q,x1,x2⟩:=x;obtain⟨J,C⟩: ∃J,j-1=J:=⟨_,rfl⟩
     rw[C] at E F G N;have f0:IntKind.i64.wrap ((j:Int)-1)=(J:Int):=by rw[U s,C]
     have g0:(J:Int)<(n:Int):=by omega
     have R:((j:Int)==0)=false:=by simp;omega
     have d:=η b;clear b;simp only at y g4;have k3:(Q !=h)=false:=by rw[bne,y];rfl
     clear y;clear C q U;obtain⟨S,off,rfl,c0,c1,c2⟩:=u.o j m;generalize L.getD j en0=e at*;obtain⟨e0,e1,e2⟩:=e;simp only at X;simp only at g6
     cases pe;go_wp2_with fail
     ((try simp only[Exit.inBlock,Exit.then]);refine bodyPost_ret (v:= .tuple #[.agg #[.int .u64 Q,.int .i64 x1,.int .i64 x2],.bool true]) (by rw[results_cell_tmp rfl];go_simp) rfl ?_)
     refine⟨by first|rfl|(rw[d.o];rfl),?_⟩;exact q8W D.o
end
section
def q3o(e:En)(L:List En):List En:=if e∈L then L else L.take (lbE L e)++e::L.drop (lbE L e)
theorem q6b : ∀{a b:List En},q1E a->q1E b->(∀x,x∈a↔x∈b)->a=b
 |[],[],_,_,_=>rfl
 |[],y::b,_,_,h=>absurd ((h y).2 (.head _)) (by simp)
 |x::a,[],_,_,h=>absurd ((h x).1 (.head _)) (by simp)
 | x ::a,y::b,ha,hb,h=>by
  obtain⟨r,u⟩:=List.pairwise_cons.1 ha;obtain⟨s,C⟩:=List.pairwise_cons.1 hb;have o:x=y:=by
   rcases List.mem_cons.1 ((h x).1 (.head _)) with m|m
   ·exact m
   rcases List.mem_cons.1 ((h y).2 (.head _)) with q|q
   ·exact q.symm
   have:=q1S (r y q) (s x m);rw[q0c] at this;cases this
  subst o;have j:x∉a:=fun hm=>by have:=r x hm;rw[q0c] at this;cases this
  have l:x∉b:=fun hm=>by have:=s x hm;rw[q0c] at this;cases this
  rw [q6b u C fun z=>⟨fun d=>by
   rcases List.mem_cons.1 ((h z).1 (.tail _ d)) with e|e
   ·exact absurd (e▸d) j
   ·exact e,fun d=>by
   rcases List.mem_cons.1 ((h z).2 (.tail _ d)) with e|e
   ·exact absurd (e▸d) l
   ·exact e⟩]
theorem mem_addE{x:En}:x∈q3o e L↔x=e\/x∈L:=by
 unfold q3o
 split
 ·next h=>
  constructor
  ·exact .inr
  ·rintro(rfl|b)
   ·exact h
   ·exact b
 ·rw [List.mem_append,List.mem_cons]
  constructor
  ·rintro(b|b|b)
   ·exact .inr (List.mem_of_mem_take b)
   ·exact .inl b
   ·exact .inr (List.mem_of_mem_drop b)
  ·rintro(b|b)
   ·exact .inr (.inl b)
   ·rw[<-List.take_append_drop (lbE L e) L,List.mem_append] at b
    rcases b with b|b
    ·exact .inl b
    ·exact .inr (.inr b)
theorem z7p(d:q1E L)(e:En): ∀x∈L.take (lbE L e),q0n x e=true:=fun x j=>by
 obtain⟨i,b,rfl⟩:=List.getElem_of_mem j;rw[Θ] at b;rw[List.getElem_take,q3s e d (γ (by omega)),ζ (by omega)]
theorem z6O(d:q1E L)(e:En): ∀x∈L.drop (lbE L e),q0n x e=false:=fun x j=>by
 obtain⟨i,b,rfl⟩:=List.getElem_of_mem j;rw[List.length_drop] at b;rw[List.getElem_drop,q3s e d (γ (by omega)),ε (by omega)]
theorem z0b(b:q1E L):q1E (q3o e L):=by
 unfold q3o
 split
 ·exact b
 ·next hn=>
  refine List.pairwise_append.2 ⟨b.sublist (List.take_sublist _ _),List.pairwise_cons.2 ⟨fun x d=>?_,b.sublist (List.drop_sublist _ _)⟩,fun x d y m=>?_⟩
  ·cases h:q0n e x with
   |true=>rfl
   |false=>exact absurd (q5T (z6O b e x d) h▸List.mem_of_mem_drop d) hn
  ·rcases List.mem_cons.1 m with rfl|m
   ·exact z7p b _ x d
   ·have j:=z7p b e x d
    have l:=z6O b e y m
    cases h:q0n x y with
    |true=>rfl
    | false=>
     cases h3:q0n y x with
     |true=>rw[q1S h3 j] at l;cases l
     |false=>rw[q5T h h3,l] at j;cases j
theorem y0K(he:q3f e=true)(b: ∀x∈L,q3f x=true): ∀x∈q3o e L,q3f x=true:=fun x d=>by
 rcases mem_addE.1 d with rfl|h
 ·exact he
 ·exact b x h
theorem z1s:(q3o e L).length=if e∈L then L.length else L.length+1:=by
 unfold q3o;have:=q4g L e
 split
 ·rfl
 ·rw[θ,χ,Θ,List.length_drop];omega
theorem z5o{e:En}{L:List En}:(q3o e L).length<=L.length+1:=by rw[z1s];split<;>omega
theorem y2N(j:q1E L):e∈L↔ ∃h:lbE L e<L.length,L.getD (lbE L e) en0=e:=by
 constructor
 ·intro hm
  obtain⟨i,o,h⟩:=List.getElem_of_mem hm;have b:=q3s e j (γ o);rw[h,q0c] at b;have q:lbE L e<=i:=by have:=of_decide_eq_false b.symm;omega
  refine⟨by omega,?_⟩;rw[δ,γ (by omega)];show L[lbE L e]=e;rcases Nat.lt_or_ge (lbE L e) i with l|l
  ·have d:=List.pairwise_iff_getElem.1 j _ _ (by omega) o l
   have m:=q3s e j (γ (i:=lbE L e) (by omega));rw[h] at d;rw[d,ε (by omega)] at m
   cases m
  ·have d:lbE L e=i:=by omega
   simp only[d,h]
 ·rintro⟨h,b⟩
  rw[δ,γ h] at b;rw[<-b];exact List.getElem_mem h
theorem y0r(e:En)(d:0<=e.2.2):lbE L (e.1,e.2.1,0)<=lbE L e:=by
 unfold lbE;rw[<-List.countP_eq_length_filter,<-List.countP_eq_length_filter];refine List.countP_mono_left fun x _ b=>?_
 rw[lessE_iff] at b⊢;simp only at b⊢;omega
def q2s(Ls:List (List En)):List En:=Ls.flatten.foldr q3o []
theorem q5D(Ls:List (List En)):q1E (q2s Ls):=by
 unfold q2s
 induction Ls.flatten with
 |nil=>exact List.Pairwise.nil
 |cons a l ih=>exact z0b ih
theorem mem_union{Ls:List (List En)}{x:En}:x∈q2s Ls↔ ∃L∈Ls,x∈L:=by
 rw[<-List.mem_flatten];unfold q2s
 induction Ls.flatten with
 |nil=>simp
 |cons a l ih=>rw[List.foldr_cons,mem_addE,ih,List.mem_cons]
def q6B :List (List En)->List Nat->Nat
 |L::Ls,p::P=>(L.length-p)+q6B Ls P
 |_,_=>0
def q8Z(e:En)(L:List En)(p:Nat):Nat:=if p<L.length/\L.getD p en0=e then p+1 else p
def q4i(e:En):List (List En)->List Nat->List Nat
 |L::Ls,p::P=>q8Z e L p::q4i e Ls P
 |_,P=>P
theorem q4j(e:En): ∀(Ls:List (List En)) (P:List Nat),(q4i e Ls P).length=P.length
 |[],P=>by cases P<;>rfl
 |L::Ls,[]=>rfl
 |L::Ls,p::P=>by rw[q4i,χ,q4j e Ls P,χ]
theorem q9x(e:En): ∀(Ls:List (List En)) (P:List Nat) (k:Nat),k<Ls.length->k<P.length->(q4i e Ls P).getD k 0=q8Z e (Ls.getD k []) (P.getD k 0)
 |[],P,k,h,_=>by simp at h
 |L::Ls,[],k,_,h=>by simp at h
 |L::Ls,p::P,0,_,_=>rfl
 | L::Ls,p::P,k+1,h,h2=>by
  rw[q4i];simp only[List.getD_cons_succ];exact q9x e Ls P k (by simpa using h) (by simpa using h2)
theorem z4D(e:En): ∀(Ls:List (List En)) (P:List Nat),q6B Ls (q4i e Ls P)<=q6B Ls P
 |[],P=>by cases P<;>exact ι _
 |L::Ls,[]=>ι _
 | L::Ls,p::P=>by
  rw[q4i,q6B,q6B];have:=z4D e Ls P;unfold q8Z
  split<;>omega
theorem z4E(e:En): ∀(Ls:List (List En)) (P:List Nat) (k:Nat),k<Ls.length->k<P.length->P.getD k 0<(Ls.getD k []).length->(Ls.getD k []).getD (P.getD k 0) en0=e->q6B Ls (q4i e Ls P)+1<=q6B Ls P
 |[],P,k,h,_,_,_=>by simp at h
 |L::Ls,[],k,_,h,_,_=>by simp at h
 | L::Ls,p::P,0,_,_,h,h2=>by
  rw[q4i,q6B,q6B];have:=z4D e Ls P;simp only[List.getD_cons_zero] at h h2;unfold q8Z;rw[ξ ⟨h,h2⟩];omega
 | L::Ls,p::P,k+1,h1,h2,h3,h4=>by
  rw[q4i,q6B,q6B];simp only[List.getD_cons_succ] at h3 h4;have:=z4E e Ls P k (by simpa using h1) (by simpa using h2) h3 h4;unfold q8Z
  split<;>omega
theorem q9E : ∀Ls:List (List En),q6B Ls (List.replicate Ls.length 0)=Ls.flatten.length
 |[]=>rfl
 | L::Ls=>by
  rw[χ,List.replicate_succ,q6B,q9E Ls,List.flatten_cons,θ];omega
structure MrgI(Ls:List (List En))(P:List Nat)(out:List En):Prop where
 len:P.length=Ls.length
 le: ∀k,k<Ls.length->P.getD k 0<=(Ls.getD k []).length
 sort:q1E out
 mem: ∀x,(∃L∈Ls,x∈L)↔x∈out\/ ∃k,k<Ls.length/\x∈(Ls.getD k []).drop (P.getD k 0)
 lt: ∀o∈out,∀k,k<Ls.length-> ∀x∈(Ls.getD k []).drop (P.getD k 0),q0n o x=true
 cnt:out.length+q6B Ls P<=Ls.flatten.length
def BestI(Ls:List (List En))(P:List Nat)(k:Nat)(best:Int):Prop:=
 (best= -1/\ ∀j,j<k->(Ls.getD j []).length<=P.getD j 0)\/
 ∃b:Nat,best=(b:Int)/\b<k/\P.getD b 0<(Ls.getD b []).length/\ ∀j,j<k->P.getD j 0<(Ls.getD j []).length->q0n ((Ls.getD j []).getD (P.getD j 0) en0) ((Ls.getD b []).getD (P.getD b 0) en0)=false
theorem BestI.start(Ls:List (List En))(P:List Nat):BestI Ls P 0 (-1):= .inl ⟨rfl,fun j b=>by omega⟩
theorem BestI.skip{Ls:List (List En)}{b:Int}(h:BestI Ls P k b)(q:(Ls.getD k []).length<=P.getD k 0):BestI Ls P (k+1) b:=by
 rcases h with⟨d,l⟩|⟨c,d,l,m,o⟩
 ·refine .inl ⟨d,fun j r=>?_⟩
  rcases Nat.lt_or_ge j k with h|h
  ·exact l j h
  ·obtain rfl:j=k:=by omega
   exact q
 ·refine .inr ⟨c,d,by omega,m,fun j r s=>?_⟩
  rcases Nat.lt_or_ge j k with h|h
  ·exact o j h s
  ·obtain rfl:j=k:=by omega
   omega
theorem BestI.first{Ls:List (List En)}(h: ∀j,j<k->(Ls.getD j []).length<=P.getD j 0)(d:P.getD k 0<(Ls.getD k []).length):BestI Ls P (k+1) (k:Int):=by
 refine .inr ⟨k,rfl,by omega,d,fun j m l=>?_⟩;rcases Nat.lt_or_ge j k with b|b
 ·have:=h j b;omega
 ·obtain rfl:j=k:=by omega
  exact q0c _
theorem BestI.take{Ls:List (List En)}{b:Nat}(m:P.getD k 0<(Ls.getD k []).length)
  (hm: ∀j,j<k->P.getD j 0<(Ls.getD j []).length->q0n ((Ls.getD j []).getD (P.getD j 0) en0) ((Ls.getD b []).getD (P.getD b 0) en0)=false)
  (o:q0n ((Ls.getD k []).getD (P.getD k 0) en0) ((Ls.getD b []).getD (P.getD b 0) en0)=true):BestI Ls P (k+1) (k:Int):=by
 refine .inr ⟨k,rfl,by omega,m,fun j q d=>?_⟩;rcases Nat.lt_or_ge j k with l|l
 ·cases h:q0n ((Ls.getD j []).getD (P.getD j 0) en0) ((Ls.getD k []).getD (P.getD k 0) en0) with
  |false=>rfl
  |true=>exact absurd (hm j l d) (by rw[q1S h o];decide)
 ·obtain rfl:j=k:=by omega
  exact q0c _
theorem BestI.keep{Ls:List (List En)}{b:Nat}(q:b<k)(l:P.getD b 0<(Ls.getD b []).length)
  (hm: ∀j,j<k->P.getD j 0<(Ls.getD j []).length->q0n ((Ls.getD j []).getD (P.getD j 0) en0) ((Ls.getD b []).getD (P.getD b 0) en0)=false)
  (o:q0n ((Ls.getD k []).getD (P.getD k 0) en0) ((Ls.getD b []).getD (P.getD b 0) en0)=false):BestI Ls P (k+1) (b:Int):=by
 refine .inr ⟨b,rfl,by omega,l,fun j r d=>?_⟩;rcases Nat.lt_or_ge j k with m|m
 ·exact hm j m d
 ·obtain rfl:j=k:=by omega
  exact o
theorem z0z{Q:List Nat}(l:P.length=Q.length)(h: ∀j,j<P.length->P.getD j 0=Q.getD j 0):P=Q:=by
 refine List.ext_getElem l fun j b d=>?_
 have:=h j b;rw[δ,δ,γ b,γ d] at this;exact this
theorem q5s(P:List Nat)(k p j:Nat)(b:k<P.length):(P.set k p).getD j 0=if j=k then p else P.getD j 0:=by
 rw[δ,List.getElem?_set,δ]
 split
 ·next h=>subst h;simp[b]
 ·next h=>rw[κ (fun e=>h e.symm)]
theorem mem_drop_getD{x:En}:x∈L.drop p↔ ∃i,p<=i/\i<L.length/\L.getD i en0=x:=by
 constructor
 ·intro h
  obtain⟨i,d,rfl⟩:=List.getElem_of_mem h;rw[List.length_drop] at d;refine⟨p+i,by omega,by omega,?_⟩;rw[List.getElem_drop,δ,γ (by omega)]
  rfl
 ·rintro⟨i,j,b,rfl⟩
  rw[δ,γ b];refine List.mem_iff_getElem.2 ⟨i-p,by rw[List.length_drop];omega,?_⟩;rw[List.getElem_drop];show L[p+(i-p)]=L[i];simp only[show p+(i-p)=i from by omega]
theorem q6D(h:q1E L){j:Nat}(b:i<j)(d:j<L.length):q0n (L.getD i en0) (L.getD j en0)=true:=by
 have:=List.pairwise_iff_getElem.1 h i j (by omega) d b;rw[δ,γ (by omega),δ,γ d];exact this
theorem z2K{Ls:List (List En)}{x:En}:(∃L∈Ls,x∈L)↔ ∃k,k<Ls.length/\x∈Ls.getD k []:=by
 constructor
 ·rintro⟨L,h,d⟩
  obtain⟨k,b,rfl⟩:=List.getElem_of_mem h;exact⟨k,b,by rw[δ,γ b];exact d⟩
 ·rintro⟨k,b,d⟩
  rw[δ,γ b] at d;exact⟨_,List.getElem_mem b,d⟩
theorem z7C(l:q1E L)(h:p=p0\/(p=p0+1/\p0<L.length/\L.getD p0 en0=e))(j:p<L.length)(he:L.getD p en0=e):p=p0:=by
 rcases h with h|⟨h,m,d⟩
 ·exact h
 ·have b:=q6D l (show p0<p by omega) j
  rw[d,he,q0c] at b
  cases b
theorem z1M(h:p=p0\/(p=p0+1/\p0<L.length/\L.getD p0 en0=e))(j:¬(p<L.length/\L.getD p en0=e)):q8Z e L p0=p:=by
 unfold q8Z;rcases h with h|⟨h,b,d⟩
 ·subst h;rw[κ j]
 ·rw[ξ ⟨b,d⟩,h]
theorem MrgI.start(Ls:List (List En)):MrgI Ls (List.replicate Ls.length 0) []:=by
 have b: ∀k,(List.replicate Ls.length 0).getD k 0=0:=fun k=>by
  rw[δ,List.getElem?_replicate]
  split<;>rfl
 refine⟨by simp,fun k _=>by rw[b];omega,List.Pairwise.nil,fun x=>?_,fun o d=>by simp at d,by rw[q9E];simp⟩;rw[z2K];simp only[b,List.drop_zero,List.not_mem_nil,false_or]
theorem MrgI.done{Ls:List (List En)}{b:List En}(h:MrgI Ls P b)(m: ∀j,j<Ls.length->(Ls.getD j []).length<=P.getD j 0):b=q2s Ls:=by
 refine q6b h.sort (q5D Ls) fun x=>?_
 rw[mem_union,h.mem]
 constructor
 ·exact .inl
 ·rintro(d|⟨k,d,l⟩)
  ·exact d
  ·rw[List.drop_eq_nil_of_le (m k d)] at l;cases l
theorem MrgI.step{Ls:List (List En)}{J:List En}(h:MrgI Ls P J)(W: ∀L∈Ls,q1E L){b:Nat}(O:b<Ls.length)(I:P.getD b 0<(Ls.getD b []).length)
  (r: ∀j,j<Ls.length->P.getD j 0<(Ls.getD j []).length->q0n ((Ls.getD j []).getD (P.getD j 0) en0) ((Ls.getD b []).getD (P.getD b 0) en0)=false):
  MrgI Ls (q4i ((Ls.getD b []).getD (P.getD b 0) en0) Ls P) (J++[(Ls.getD b []).getD (P.getD b 0) en0]):=by
 obtain⟨e,he⟩: ∃e,(Ls.getD b []).getD (P.getD b 0) en0=e:=⟨_,rfl⟩
 have V:=z4E e Ls P b O (by rw[h.len];exact O) I he;rw[he] at r⊢;have E: ∀k,k<Ls.length->q1E (Ls.getD k []):=fun k d=>by
  rw[δ,γ d];exact W _ (List.getElem_mem d)
 have Q: ∀k,k<Ls.length-> ∀x∈(Ls.getD k []).drop (P.getD k 0),q0n x e=false:=fun k d x F=>by
  obtain⟨i,l,m,rfl⟩:=mem_drop_getD.1 F;rcases Nat.lt_or_ge (P.getD k 0) i with s|s
  ·have C:=q6D (E k d) s m
   cases D:q0n ((Ls.getD k []).getD i en0) e with
   |false=>rfl
   |true=>exact absurd (r k d (by omega)) (by rw[q1S C D];decide)
  ·have C:P.getD k 0=i:=by omega
   rw[<-C];exact r k d (by omega)
 have G: ∀k,k<Ls.length->(q4i e Ls P).getD k 0=q8Z e (Ls.getD k []) (P.getD k 0):=fun k d=>q9x e Ls P k d (by rw[h.len];exact d)
 have q: ∀k,k<Ls.length-> ∀x,x∈(Ls.getD k []).drop ((q4i e Ls P).getD k 0)↔x∈(Ls.getD k []).drop (P.getD k 0)/\x≠e:=fun k d x=>by
  rw[G k d,mem_drop_getD,mem_drop_getD];unfold q8Z
  constructor
  ·rintro⟨i,l,m,rfl⟩
   split at l
   ·rename_i s
    refine⟨⟨i,by omega,m,rfl⟩,fun N=>?_⟩;have:=q6D (E k d) (show P.getD k 0<i by omega) m;rw[s.2,N,q0c] at this
    cases this
   ·rename_i s
    refine⟨⟨i,l,m,rfl⟩,fun N=>?_⟩;rcases Nat.lt_or_ge (P.getD k 0) i with C|C
    ·have D:=q6D (E k d) C m
     have U:=r k d (by omega);rw[N] at D;rw[D] at U;cases U
    ·have D:P.getD k 0=i:=by omega
     exact s ⟨by omega,by rw[D];exact N⟩
  ·rintro⟨⟨i,l,m,rfl⟩,R⟩
   refine⟨i,?_,m,rfl⟩
   split
   ·rename_i s
    rcases Nat.lt_or_ge (P.getD k 0) i with C|C
    ·omega
    ·have D:P.getD k 0=i:=by omega
     rw[D] at s;exact absurd s.2 R
   ·exact l
 have u:e∈(Ls.getD b []).drop (P.getD b 0):=mem_drop_getD.2 ⟨_,ι _,I,he⟩;refine⟨by rw[q4j,h.len],fun k d=>?_,?_,fun x=>?_,fun o S k d x F=>?_,?_⟩
 ·rw[G k d]
  have:=h.le k d;unfold q8Z
  split<;>omega
 ·refine List.pairwise_append.2 ⟨h.sort,List.pairwise_singleton _ _,fun o S y X=>?_⟩
  obtain rfl:=List.mem_singleton.1 X;exact h.lt o S b O _ u
 ·rw [h.mem,List.mem_append,Γ]
  constructor
  ·rintro(l|⟨k,l,m⟩)
   ·exact .inl (.inl l)
   ·by_cases F:x=e
    ·exact .inl (.inr F)
    ·exact .inr ⟨k,l,(q k l x).2 ⟨m,F⟩⟩
  ·rintro((l|rfl)|⟨k,l,m⟩)
   ·exact .inl l
   ·exact .inr ⟨b,O,u⟩
   ·exact .inr ⟨k,l,((q k l x).1 m).1⟩
 ·have l:=(q k d x).1 F
  rcases List.mem_append.1 S with m|m
  ·exact h.lt o m k d x l.1
  ·obtain rfl:=List.mem_singleton.1 m
   cases s:q0n o x with
   |true=>rfl
   |false=>exact absurd (q5T (Q k d x l.1) s) l.2
 ·have:=h.cnt
  rw[θ,List.length_singleton];omega
end
section
open Go.RowKit
structure EGr(w:World)(ao:Option Addr)(n cap:Nat)(Ls:List (List En)):Prop where
 len:Ls.length=n
 fits:n<=cap
 bound:cap<=9223372036854775807
 nil:ao=none->cap=0
 rd: ∀i,i<n-> ∃b off ai ci,ao=some ⟨b,off,none⟩/\w.cell? ⟨b,off+i,none⟩=some (.slice ai (Ls.getD i []).length ci)/\Ens w ai (Ls.getD i []).length ci (Ls.getD i [])
theorem EGr.ext{w w':World}{Ls:List (List En)}(h:EGr w ao n cap Ls)(k:Ext w w'):EGr w' ao n cap Ls:=
 ⟨h.len,h.fits,h.bound,h.nil,fun i d=>let ⟨b,off,ai,ci,e,hc,hr⟩:=h.rd i d;⟨b,off,ai,ci,e,q0A k hc,hr.ext k⟩⟩
structure EGo(w:World)(B:Nat)(v:Value)(vs:List Value)(Ls:List (List En)):Prop where
 own:w.ownsRow B 187 1 v Ls.length vs
 row: ∀i,w.ownsRow B 165 3 (vs.getD i (.slice none 0 0)) (Ls.getD i []).length (ecs (Ls.getD i []))
theorem q7i{j:Type}(L:List j)(x d:j)(i:Nat):(L++[x]).getD i d=if i<L.length then L.getD i d else if i=L.length then x else d:=by
 simp only[δ]
 split
 ·rw[List.getElem?_append_left (by assumption)]
 ·split
  ·rename_i l b
   subst b;simp
  ·rename_i l b
   rw[List.getElem?_eq_none (by simp;omega)];rfl
section
variable {w w':World}{B B':Nat}{v v' x:Value}{vs:List Value}{Ls:List (List En)}{M:List En}
theorem EGo.nil(w:World)(B:Nat):EGo w B (.slice none 0 0) [] []:=⟨World.ownsRow_nil _ _ _ _,fun i=>by simpa [ecs] using World.ownsRow_nil w B 165 3⟩
theorem EGo.len(h:EGo w B v vs Ls):vs.length=Ls.length:=by have:=h.own.1;simpa using this
theorem EGo.ext(h:EGo w B v vs Ls)(k:Ext w w'):EGo w' B v vs Ls:=⟨q0O h.own k,fun i=>q0O (h.row i) k⟩
theorem EGo.same(h:EGo w B v vs Ls)(k: ∀i,(v.ownBlock=some i\/ ∃q,(vs.getD q (.slice none 0 0)).ownBlock=some i)->w'.heap[i]? =w.heap[i]?):EGo w' B v vs Ls:=
 ⟨q0z h.own fun i b=>k i (.inl b),fun q=>q0z (h.row q) fun i b=>k i (.inr ⟨q,b⟩)⟩
theorem EGo.lt(h:EGo w B v vs Ls)(b:v.ownBlock=some i\/ ∃q,(vs.getD q (.slice none 0 0)).ownBlock=some i):B<=i/\i<w.heap.size:=by
 rcases b with b|⟨q,b⟩
 ·exact q0l h.own i b
 ·exact q0l (h.row q) i b
theorem EGo.push(h:EGo w B v vs Ls)(u:w.ownsRow B' 165 3 x M.length (ecs M))(r:B<=B')
  (j:w'.ownsRow B 187 1 v' (Ls.length+1) (vs++[x]))(s:w.grownBy w' v.ownBlock):EGo w' B v' (vs++[x]) (Ls++[M]):=by
 have l:=h.len;have o: ∀{y:Value} {K:List En} {C:Nat},w.ownsRow C 165 3 y K.length (ecs K)->w'.ownsRow C 165 3 y K.length (ecs K):=fun {y K C} m=>
  q0z m fun g d=>s.block g (q0l m g d).2 fun e=>by
   obtain⟨D,q⟩:=q6C m d;obtain⟨E,b⟩:=q6C h.own e.symm;rw[q] at b;injection b with b;injection b with _ b _;revert b
   decide
 refine⟨by simpa using j,fun i=>?_⟩;rw[q7i,q7i,l]
 split
 ·exact o (h.row i)
 ·split
  ·exact o (q1G u r)
  ·simpa [ecs] using World.ownsRow_nil w' B 165 3
theorem EGo.grid(h:EGo w B v vs Ls): ∃ao c,v= .slice ao Ls.length c/\EGr w ao Ls.length c Ls:=by
 obtain⟨ao,c,e,q,r,s,u⟩:=(Own.of_row h.own).rd;refine⟨ao,c,e,rfl,q,r,s,fun i D=>?_⟩;have C:=h.len;obtain⟨d,l,m,y⟩:=Ens.of_own (Own.of_row (h.row i));obtain⟨b,off,o,hc⟩:=u.at (j:=i) (by omega);refine⟨b,off,d,l,o,?_,y⟩;rw[hc,<-m,δ,γ (by omega)]
 rfl
end
def q5H(P:List Nat):Array Value:=(P.map fun p:Nat=>Value.int .i64 (p:Int)).toArray
theorem q9w(P:List Nat)(h:k<P.length):(q5H P)[k]? =some (.int .i64 ((P.getD k 0:Nat):Int)):=by
 unfold q5H;rw[List.getElem?_toArray,List.getElem?_map,δ,γ h]
 rfl
theorem z7A(P:List Nat)(k p:Nat):(q5H P).setIfInBounds k (.int .i64 (p:Int))=q5H (P.set k p):=by
 unfold q5H;rw[π,List.map_set]
theorem z5G(n:Nat):Array.replicate n (Value.int .i64 0)=q5H (List.replicate n 0):=by
 unfold q5H;simp
end
end Go.Proofs.YtfiibpgoplcgkaaGreatDoor
