/- Plain laws. -/
import Derived.Test.YteabhdclmodefaaGreatDoorG3CT
import Derived.Test.YteabhdclmodefaaGreatDoorG6CT
import Derived.Laws.BitsLemmas
set_option linter.unusedVariables false
set_option linter.unusedSimpArgs false
set_option maxRecDepth 100000
set_option maxHeartbeats 6400000
namespace Go.Proofs.YteabhdclmodefaaGreatDoor
variable {a k i:Nat}{p:List UInt8}{α:Type}{L:List En}{ps:List (List UInt8)}
section
open Go.RowKit
theorem q2B(a b:List UInt8):(⟨a.toArray⟩:ByteArray)++⟨b.toArray⟩=⟨(a++b).toArray⟩:=by rw[ByteArray.mk_append_mk];first|done|simp
def q2u(p:List UInt8):List UInt8:=q0T (be 4 p.length++p)++be 4 p.length
def q4s(s:List UInt8)(a:Nat):Nat:=q1N ((s.drop a).take 4)
def isR(s:List UInt8)(a:Nat):Bool:=
 decide (a+12<=s.length)&&decide (q4s s a<=2000)&&decide (a+q4s s a+12<=s.length)
 &&q1l ((s.drop a).take (q4s s a+8))&&decide ((s.drop (a+q4s s a+8)).take 4=(s.drop a).take 4)
def q6K(s:List UInt8)(a:Nat):Option (List UInt8×Nat):=
 if isR s a then some ((s.drop (a+4)).take (q4s s a),a+q4s s a+12) else none
def q6d :Nat->List UInt8->Nat->List (Nat×Nat)
 |0,_,_=>[]
 | f+1,s,a=>match q6K s a with
  |none=>[]
  |some (_,b)=>(a,b)::q6d f s b
def q0x(s:List UInt8)(a:Nat):List (Nat×Nat):=q6d (s.length+1) s a
def z1D(a:Nat)(l:List (Nat×Nat)):Nat:=(l.getLast?.map Prod.snd).getD a
def q3I(n:Nat):List UInt8:=q0T ([99,104,110,107]++be 4 n)
def q5f(ps:List (List UInt8)):List UInt8:=(ps.map q2u).flatten
def q0Z(n:Nat)(ps:List (List UInt8)):List UInt8:=q3I n++q5f ps
def q0L(ps:List (List UInt8)):Nat:=12+(ps.map fun p=>p.length+12).sum
def q1m :Nat->List (List UInt8)->List (Nat×Nat)
 |_,[]=>[]
 |a,p::r=>(a,a+p.length+12)::q1m (a+p.length+12) r
theorem q1T(p:List UInt8):(q2u p).length=p.length+12:=by
 simp only[q2u,θ,q0d,q0F];omega
theorem q3Y(n:Nat):(q3I n).length=12:=by simp[q3I,q0d,q0F]
theorem z2K(ps:List (List UInt8)):(q5f ps).length=(ps.map fun p=>p.length+12).sum:=by
 unfold q5f
 induction ps with
 |nil=>rfl
 |cons p r ih=>simp[q1T,ih]
theorem q1Z(n:Nat)(ps:List (List UInt8)):(q0Z n ps).length=q0L ps:=by
 simp[q0Z,q0L,q3Y,z2K]
theorem z6L(ps:List (List UInt8))(p:List UInt8):q5f (ps++[p])=q5f ps++q2u p:=by simp[q5f]
theorem z3n(n:Nat)(ps:List (List UInt8))(p:List UInt8):q0Z n (ps++[p])=q0Z n ps++q2u p:=by simp[q0Z,z6L]
theorem z6Q(n:Nat)(p:List UInt8):q0Z n [p]=q3I n++q2u p:=by simp[q0Z,q5f]
theorem q3C(ps:List (List UInt8))(p:List UInt8):q0L (ps++[p])=q0L ps+(p.length+12):=by simp[q0L,List.sum_append];omega
theorem q5N(p:List UInt8):q0L [p]=12+(p.length+12):=by simp[q0L]
theorem z2d{s:List UInt8}{b:Nat}(h:q6K s a=some (p,b)):
  p.length<=2000/\b=a+p.length+12/\b<=s.length/\p=(s.drop (a+4)).take p.length/\q4s s a=p.length:=by
 unfold q6K at h
 split at h
 case isFalse=>cases h
 case isTrue hi=>
  unfold isR at hi;simp only[Ξ,Φ] at hi;obtain⟨⟨⟨⟨h1,h2⟩,h3⟩,h4⟩,j⟩:=hi;simp only[Option.some.injEq,Prod.mk.injEq] at h;obtain⟨rfl,rfl⟩:=h;have d:((s.drop (a+4)).take (q4s s a)).length=q4s s a:=by simp;omega
  rw[d];exact⟨h2,rfl,h3,rfl,rfl⟩
theorem y2U(d m b:List α)(h:a=d.length):(d++m++b).drop a=m++b:=by
 subst h;rw[List.append_assoc,List.drop_left]
theorem z5U(d p b:List UInt8)(x:p.length<=2000)(q:a=d.length):q6K (d++q2u p++b) a=some (p,a+p.length+12):=by
 have m:(d++q2u p++b).drop a=be 4 p.length++(p++(q4v (q0u (be 4 p.length++p))++(be 4 p.length++b))):=by
  rw[y2U _ _ _ q];simp[q2u,q0T]
 have l:(be 4 p.length).length=4:=q0F 4 _;have o:=q3B (q0u (be 4 p.length++p));have j:q4s (d++q2u p++b) a=p.length:=by
  unfold q4s;rw[m,List.take_left' l,q4K];omega
 have r:(d++q2u p++b).length=a+(p.length+12)+b.length:=by simp[q1T,q];omega
 have v:isR (d++q2u p++b) a=true:=by
  unfold isR;rw[j];simp only[Ξ,Φ];refine⟨⟨⟨⟨by omega,x⟩,by omega⟩,?_⟩,?_⟩
  ·have e:((d++q2u p++b).drop a).take (p.length+8)=q0T (be 4 p.length++p):=by
    rw[m];have:be 4 p.length++(p++(q4v (q0u (be 4 p.length++p))++(be 4 p.length++b)))=q0T (be 4 p.length++p)++(be 4 p.length++b):=by simp[q0T]
    rw[this];exact List.take_left' (by simp[q0d,l];omega)
   rw[e];unfold q1l;simp only[Ξ,Φ,q0d];refine⟨by omega,?_⟩;have s:(q0T (be 4 p.length++p)).take ((be 4 p.length++p).length+4-4)=be 4 p.length++p:=by
    unfold q0T;exact List.take_left' (by omega)
   rw[s]
  ·have e:(d++q2u p++b).drop (a+p.length+8)=be 4 p.length++b:=by
    have:a+p.length+8=a+(p.length+8):=by omega
    rw[this,<-List.drop_drop,m];have:be 4 p.length++(p++(q4v (q0u (be 4 p.length++p))++(be 4 p.length++b)))=(be 4 p.length++(p++q4v (q0u (be 4 p.length++p))))++(be 4 p.length++b):=by simp
    rw[this];exact List.drop_left' (by simp[l,o];omega)
   rw[e,m,List.take_left' l,List.take_left' l]
 unfold q6K;rw[ξ v,j]
 congr 2
 rw[<-List.drop_drop,m];have u:(be 4 p.length++(p++(q4v (q0u (be 4 p.length++p))++(be 4 p.length++b)))).drop 4=p++(q4v (q0u (be 4 p.length++p))++(be 4 p.length++b)):=List.drop_left' l;rw[u];exact List.take_left' rfl
theorem z8e(s:List UInt8)(a:Nat)(h:s.length<a+12):q6K s a=none:=by
 unfold q6K isR;rw[ε (by omega)];simp
theorem z0I : ∀(ps:List (List UInt8)) (pre:List UInt8) (f a:Nat),(∀p∈ps,p.length<=2000)->a=pre.length->ps.length<f->q6d f (pre++q5f ps) a=q1m a ps
 |[],pre,0,a,_,_,hf=>by simp at hf
 | [],pre,f+1,a,_,ha,_=>by
  unfold q6d;rw[z8e _ _ (by simp[q5f,ha])]
  rfl
 |p::r,pre,0,a,_,_,hf=>by simp at hf
 | p::r,pre,f+1,a,hp,ha,hf=>by
  have e:pre++q5f (p::r)=pre++q2u p++q5f r:=by simp[q5f]
  rw[e];unfold q6d;rw[z5U pre p (q5f r) (hp p (List.mem_cons_self)) ha];show _::q6d f (pre++q2u p++q5f r) (a+p.length+12)=_;rw[z0I r (pre++q2u p) f _ (fun q hq=>hp q (List.mem_cons_of_mem _ hq)) (by simp[q1T,ha];omega) (by simp at hf;omega)]
  rfl
theorem y1w(ps:List (List UInt8)):12*ps.length<=(ps.map fun p=>p.length+12).sum:=by
 induction ps with
 |nil=>simp
 |cons p r ih=>simp only[List.map_cons,List.sum_cons,χ];omega
theorem q9o(n:Nat)(ps:List (List UInt8))(b: ∀p∈ps,p.length<=2000):q0x (q0Z n ps) 12=q1m 12 ps:=by
 unfold q0x;refine z0I ps (q3I n) _ 12 b (q3Y n).symm ?_;have:=y1w ps;show _<(q0Z n ps).length+1;rw[q1Z];unfold q0L;omega
theorem q7o : ∀(ps:List (List UInt8)) (p:List UInt8) (a:Nat),q1m a (ps++[p])=q1m a ps++[(a+(ps.map fun p=>p.length+12).sum,a+(ps.map fun p=>p.length+12).sum+p.length+12)]
 |[],p,a=>by simp[q1m]
 | q::r,p,a=>by
  rw[List.cons_append,q1m,q7o r p,q1m,List.cons_append];simp only[List.map_cons,List.sum_cons]
  congr 4<;>omega
theorem z4R : ∀(ps:List (List UInt8)) (a:Nat),z1D a (q1m a ps)=a+(ps.map fun p=>p.length+12).sum:=fun ps a=>by
 rcases List.eq_nil_or_concat ps with rfl|⟨r,p,rfl⟩
 ·rfl
 ·rw[List.concat_eq_append,q7o]
  unfold z1D;simp only[List.getLast?_append,List.getLast?_singleton,Option.some_or,Option.map_some,Option.getD_some,List.map_append,List.map_cons,List.map_nil,List.sum_append,List.sum_cons,List.sum_nil];omega
theorem q3G : ∀(ps:List (List UInt8)) (a:Nat),(q1m a ps).length=ps.length
 |[],_=>rfl
 |p::r,a=>by simp[q1m,q3G r]
theorem z8X(n:Nat)(l:List (List UInt8))(p:List UInt8)(r:List (List UInt8))(b:p.length<=2000):q6K (q0Z n (l++p::r)) (q0L l)=some (p,q0L l+p.length+12):=by
 have e:q0Z n (l++p::r)=q0Z n l++q2u p++q5f r:=by simp[q0Z,q5f]
 rw[e];exact z5U _ _ _ b (q1Z n l).symm
theorem z2i(a b:En)(w:World):Calls Tryz.prog 180 #[enV a,enV b] w fun e w'=>e= .returned (.bool (q0s a b))/\Ext w w':=by
 obtain⟨a1,d,j⟩:=a;obtain⟨b1,b2,b3⟩:=b;have l:=η (q6f w (.cells #[.int .u64 a1,.int .i64 d,.int .i64 j] 145) (.cells #[.int .u64 b1,.int .i64 b2,.int .i64 b3] 145));have m:Hd (q0s (a1,d,j) (b1,b2,b3)=if a1≠b1 then decide (a1<b1) else if d≠b2 then decide (d<b2) else decide (j<b3)):=η rfl;show Calls Tryz.prog 180 #[.agg #[.int .u64 a1,.int .i64 d,.int .i64 j],.agg #[.int .u64 b1,.int .i64 b2,.int .i64 b3]] w _;by_cases h1:a1=b1
 ·subst h1
  by_cases h2:d=b2
  ·subst h2
   go_enter Tryz.func180,Tryz.ntmps180;go_wp2_with fail;go_ret;exact⟨rb (by rw[m.o];simp),l.o⟩
  ·have q:(d !=b2)=true:=by simpa using h2
   go_enter Tryz.func180,Tryz.ntmps180;go_wp2_with fail;go_ret;exact⟨rb (by rw[m.o];simp[h2]),l.o⟩
 ·have q:(a1 !=b1)=true:=by simpa using h1
  go_enter Tryz.func180,Tryz.ntmps180;go_wp2_with fail;go_ret;exact⟨rb (by rw[m.o];simp[h1]),l.o⟩
theorem z0h(l:k+1<L.length):q2n (L.take (k+2))=(q2n (L.take (k+1))&&q0s (L.getD k en0) (L.getD (k+1) en0)):=by
 rw[Bool.eq_iff_iff,Ξ,q2o,q2o];have j:L.take (k+2)=L.take (k+1)++[L.getD (k+1) en0]:=q0W L en0 (k+1) l;have d:L.take (k+1)=L.take k++[L.getD k en0]:=q0W L en0 k (by omega);rw[j];unfold q1C;rw[List.pairwise_append]
 constructor
 ·rintro⟨h1,_,h3⟩
  exact⟨h1,h3 _ (by rw[d];simp) _ (by simp)⟩
 ·rintro⟨h1,h2⟩
  refine⟨h1,by simp,fun x b y m=>?_⟩;obtain rfl:=List.mem_singleton.1 m;rw[d] at b h1;rcases List.mem_append.1 b with b|b
  ·exact q1e ((List.pairwise_append.1 h1).2.2 x b _ (by simp)) h2
  ·obtain rfl:=List.mem_singleton.1 b;exact h2
theorem z4c(b:k+1<L.length)(h:q0s (L.getD k en0) (L.getD (k+1) en0)=false):q2n L=false:=by
 cases hs:q2n L with
 |false=>rfl
 | true=>
  rw[q2o] at hs;have h1:q1C (L.take (k+2)):=hs.sublist (List.take_sublist _ _);rw[<-q2o,z0h b,h,Bool.and_false] at h1
  cases h1
theorem z6B{ao:Option Addr}{n cap:Nat}(w:World)(m:Ens w ao n cap L):Calls Tryz.prog 240 #[.slice ao n cap] w fun e w'=>e= .returned (.bool (q2n L))/\Ext w w':=by
 have G:=η m;have b1:=m.fits;have b2:=m.bound;have j:=η m.len;clear m;go_enter Tryz.func240,Tryz.ntmps240;go_wp2_with fail
 go_loopw [3] (fun i W=> ∃k:Nat,k+1<=max n 1/\i= .int .i64 ((k:Int)+1)/\q2n (L.take (k+1))=true/\Ext w W) (fun i _=>n-(intOf i).toNat)
 case atStart=>
  refine⟨0,by omega,rfl,?_,Ext.refl _⟩
  cases L with
  |nil=>rfl
  |cons a r=>rfl
 case round=>
  obtain⟨k,Y,rfl,C,B⟩:=hrel;have R:=η C;have D:=η B;by_cases u:k+1<n
  ·have U:decide (((k:Int)+1)<(n:Int))=true:=by simp;omega
   obtain⟨b,off,rfl,I,J,M⟩:=(G.o.ext B).at (i:=k) (by omega);obtain⟨_,_,S,N,O,Q⟩:=(G.o.ext B).at (i:=k+1) u
   cases S;have E:=η (z0h (L:=L) (k:=k) (by rw[j.o];exact u));have v:=η (z4c (L:=L) (k:=k) (by rw[j.o];exact u));obtain⟨x,m⟩: ∃x,L.getD k en0=x:=⟨_,rfl⟩
   obtain⟨y,F⟩: ∃y,L.getD (k+1) en0=y:=⟨_,rfl⟩
   rw[m] at I J M;rw[F] at N O Q;rw[m,F] at E v;obtain⟨q,hq⟩: ∃q,q0s x y=q:=⟨_,rfl⟩
   have l:=η (fun W=>z2i x y W);rw[hq] at l E v;obtain⟨x1,x2,x3⟩:=x;obtain⟨y1,y2,y3⟩:=y;unfold enV ec at l;have Z:=q0D I;have u1:=q0D J;have u2:=q0D M;have v0:=q0D N;have v1:=q0D O;have v2:=q0D Q;have V:IntKind.i64.wrap ((k:Int)+1-1)=(k:Int):=by rw[ν];omega
   have d:IntKind.i64.wrap (k:Int)=(k:Int):=by rw[ν];omega
   clear m F C B hq
   cases q with
   | true=>
    go_wp2_with fail;refine q0E (by kernel_rfl) (by kernel_rfl) ?_
    repeat (go_big_quiet_step (first|(go_at_call 180;exact Calls.quiet_ext (l.o _))))
    refine wpQuiet_nil ?_;intro X d;have s:=η (D.o.trans d);clear d;go_wp2_with fail
    go_roundw
    case rel=>exact⟨k+1,by omega,by go_num,by rw[E.o,R.o];rfl,s.o⟩
    case measure=>simp[intOf];omega
   | false=>
    go_wp2_with fail;refine q0E (by kernel_rfl) (by kernel_rfl) ?_
    repeat (go_big_quiet_step (first|(go_at_call 180;exact Calls.quiet_ext (l.o _))))
    refine wpQuiet_nil ?_;intro X d;have s:=η (D.o.trans d);clear d;go_wp2_with fail;go_ret;exact⟨rb (v.o (by first|rfl|trivial)),s.o⟩
  ·have U:decide (((k:Int)+1)<(n:Int))=false:=by simp;omega
   have v:Hd (q2n L=true):=η (by rwa [Δ (by rw[j.o];omega)] at C);clear C B;go_wp2_with fail;go_ret;exact⟨rb v.o,D.o⟩
theorem q3O(s:List UInt8)(m j:Int)(a b:Nat)(l:m=(a:Int))(d:j=(b:Int))(h:a<=b)(h2:b<=s.length){X:List UInt8}(o:(s.take b).drop a=X):
  ∀w,(Instr.slice 9 (.string ⟨s.toArray⟩) (some (.int .i64 m)) (some (.int .i64 j)) none).run Tryz.prog w= .ok (.string ⟨X.toArray⟩) w:=fun w=>by
 have h3:=run_slice_string (P:=Tryz.prog) w 9 ⟨s.toArray⟩ .i64 .i64 m j Tryz.underlying9 (by omega) (by omega) (by simp[ByteArray.size];omega);rw[h3,l,d,<-o];show _=Result.ok (Value.string ⟨((s.take b).drop a).toArray⟩) w;rw[<-q3g];rfl
theorem q3d(s:List UInt8)(j:Int)(b:Nat)(d:j=(b:Int))(h2:b<=s.length):
  ∀w,(Instr.slice 9 (.string ⟨s.toArray⟩) none (some (.int .i64 j)) none).run Tryz.prog w= .ok (.string ⟨(s.take b).toArray⟩) w:=fun w=>by
 have h3:=run_slice_string_to_if (P:=Tryz.prog) w 9 ⟨s.toArray⟩ .i64 j Tryz.underlying9;have l:(ByteArray.size ⟨s.toArray⟩)=s.length:=by simp[ByteArray.size]
 rw[h3,l,ξ (by omega),d];show Result.ok (Value.string ((⟨s.toArray⟩:ByteArray).extract 0 b)) w=_;rw[q3g];rfl
theorem q2Z(s:List UInt8)(d:Int)(a:Nat)(b:d=(a:Int))(h2:a<=s.length):
  ∀w,(Instr.slice 9 (.string ⟨s.toArray⟩) (some (.int .i64 d)) none none).run Tryz.prog w= .ok (.string ⟨(s.drop a).toArray⟩) w:=fun w=>by
 have h3:=run_slice_string_from_if (P:=Tryz.prog) w 9 ⟨s.toArray⟩ .i64 d Tryz.underlying9;have j:(ByteArray.size ⟨s.toArray⟩)=s.length:=by simp[ByteArray.size]
 rw[h3,j,ξ (by omega),b];show Result.ok (Value.string ((⟨s.toArray⟩:ByteArray).extract a s.length)) w=_;rw[q3g,List.take_length]
theorem z9S(k:Nat)(N:Int)(w:World)(q:N=(k:Int))(r:k<=9223372036854775807):
  Calls Tryz.prog 171 #[.int .i64 N] w fun e w'=>e= .returned (.string ⟨(be 4 k).toArray⟩)/\Ext w w':=by
 have m:0<=N:=by omega
 have h1:N<=9223372036854775807:=by omega
 have b:N.toNat=k:=by omega
 have l:=η b;clear q b;go_enter Tryz.func171,Tryz.ntmps171;go_wp2_with fail;refine(q8B N 4 _ (by omega) (by omega) m (by omega)).mono ?_;rintro e w1 ⟨rfl,d⟩;have j:=η d;clear d;rw[l.o];go_wp2_with fail;go_ret;exact⟨rfl,j.o⟩
theorem z9L(p:List UInt8)(w:World)(j:2000<p.length)(d:p.length<=9223372036854775807):
  Calls Tryz.prog 119 #[.string ⟨p.toArray⟩] w fun e w'=>e= .returned (.tuple #[.string ⟨#[]⟩,.int .i64 3])/\w=w':=by
 have b:decide ((2000:Int)<(p.length:Int))=true:=by simp;omega
 go_enter Tryz.func119,Tryz.ntmps119;go_wp2_with fail;go_ret2;exact⟨rfl,rfl⟩
theorem y1K(p:List UInt8)(w:World)(y:p.length<=2000):
  Calls Tryz.prog 119 #[.string ⟨p.toArray⟩] w fun e w'=>e= .returned (.tuple #[.string ⟨(q2u p).toArray⟩,.int .i64 0])/\Ext w w':=by
 have v:decide ((2000:Int)<(p.length:Int))=false:=by simp;omega
 obtain⟨n,x⟩: ∃n:Int,n=(p.length:Int):=⟨_,rfl⟩
 have s:Hd (q2u p=q0T (be 4 p.length++p)++be 4 p.length):=η rfl;have d:(be 4 p.length).length=4:=q0F 4 _;have B:(q0T (be 4 p.length++p)).length=p.length+8:=by simp[q0d,d];omega
 have q:=η (fun W=>z9S p.length (p.length:Int) W rfl (by omega));have u:=η (fun W=>q9S (be 4 p.length++p) W (by simp[d];omega));go_enter Tryz.func119,Tryz.ntmps119;go_wp2_with fail;refine(q.o _).mono ?_;rintro e w1 ⟨rfl,b⟩;have r:=η b;clear b;generalize be 4 p.length=X at*;go_wp2_with fail;have m:=u.o w1;generalize q0T (X++p)=Y at*;rw[q2B];refine m.mono ?_;rintro e C ⟨rfl,b⟩;have j:=η (r.o.trans b);clear b;go_wp2_with fail;refine(q.o _).mono ?_;rintro e D ⟨rfl,b⟩;have l:=η (j.o.trans b);clear b;go_wp2_with fail;go_ret2;exact⟨by rw[s.o,q2B];rfl,l.o⟩
def z2e(s:List UInt8)(a:Nat):Value:=match q6K s a with
 |none=> .tuple #[.string ⟨#[]⟩,.int .i64 0,.bool false]
 |some (p,b)=> .tuple #[.string ⟨p.toArray⟩,.int .i64 b,.bool true]
theorem q8x{s:List UInt8}(h:isR s a=false):z2e s a= .tuple #[.string ⟨#[]⟩,.int .i64 0,.bool false]:=by unfold z2e q6K;rw[h];rfl
theorem q6W(s:List UInt8)(a k:Nat):(s.take (a+k)).drop a=(s.drop a).take k:=by rw[List.drop_take];congr 1;omega
theorem z1L(s:List UInt8)(a:Nat)(w:World)(hl:s.length<=4611686018427387903)(ha:a<=4611686018427387903):
  Calls Tryz.prog 95 #[.string ⟨s.toArray⟩,.int .i64 (a:Int)] w fun e w'=>e= .returned (z2e s a)/\Ext w w':=by
 by_cases h1:s.length<a+12
 ·have u:Hd (z2e s a= .tuple #[.string ⟨#[]⟩,.int .i64 0,.bool false]):=η (q8x (by unfold isR;rw[ε (by omega)];rfl))
  have hd:decide (((s.length:Int)-12)<(a:Int))=true:=by simp;omega
  go_enter Tryz.func95,Tryz.ntmps95;go_wp2_with fail;go_ret3;rw[u.o];exact⟨rfl,Ext.refl _⟩
 have b0:decide (((s.length:Int)-12)<(a:Int))=false:=by simp;omega
 obtain⟨X,E⟩: ∃X,(s.drop a).take 4=X:=⟨_,rfl⟩
 have I:X.length=4:=by rw[<-E];simp;omega
 have f0:=q3O s (a:Int) ((a:Int)+4) a (a+4) rfl (by omega) (by omega) (by omega) (by rw[q6W,E]);obtain⟨n,F⟩: ∃n,q4s s a=n:=⟨_,rfl⟩
 have x:q1N (X.take 8)=n:=by rw[Δ (by omega),<-E,<-F];rfl
 have c0:n<4294967296:=by rw[<-x];have:=q1t (X.take 8);rw[Θ,I] at this;exact this
 have C:=η (fun W=>q9z X W (by omega));rw[x] at C;by_cases h2:2000<n\/s.length<a+n+12
 ·have u:Hd (z2e s a= .tuple #[.string ⟨#[]⟩,.int .i64 0,.bool false]):=η (q8x (by
   unfold isR;rw[F];rcases h2 with h|h
   ·rw[ε (p:=n<=2000) (by omega)];simp
   ·rw[ε (p:=a+n+12<=s.length) (by omega)];simp))
  clear E F x I;by_cases h3:2000<n
  ·have M:decide ((2000:Int)<(n:Int))=true:=by simp;omega
   go_enter Tryz.func95,Tryz.ntmps95;go_wp2_with fail;refine(C.o _).mono ?_;rintro e w1 ⟨rfl,l⟩;have v:=η l;clear l;go_wp2_with fail;go_ret3;rw[u.o];exact⟨rfl,v.o⟩
  ·have h4:s.length<a+n+12:=by omega
   have M:decide ((2000:Int)<(n:Int))=false:=by simp;omega
   have S:decide ((s.length:Int)-12-(a:Int)<(n:Int))=true:=by simp;omega
   go_enter Tryz.func95,Tryz.ntmps95;go_wp2_with fail;refine(C.o _).mono ?_;rintro e w1 ⟨rfl,l⟩;have v:=η l;clear l;go_wp2_with fail;go_ret3;rw[u.o];exact⟨rfl,v.o⟩
 have h5:n<=2000:=by omega
 have h6:a+n+12<=s.length:=by omega
 have M:decide ((2000:Int)<(n:Int))=false:=by simp;omega
 have S:decide ((s.length:Int)-12-(a:Int)<(n:Int))=false:=by simp;omega
 obtain⟨Y,J⟩: ∃Y,(s.drop a).take (n+8)=Y:=⟨_,rfl⟩
 have B:Y.length=n+8:=by rw[<-J];simp;omega
 have g0:=q3O s (a:Int) ((a:Int)+(n:Int)+12-4) a (a+(n+8)) rfl (by omega) (by omega) (by omega) (by rw[q6W,J]);obtain⟨Z,R⟩: ∃Z,(s.drop (a+n+8)).take 4=Z:=⟨_,rfl⟩
 have h0:=q3O s ((a:Int)+(n:Int)+12-4) ((a:Int)+(n:Int)+12) (a+n+8) (a+n+8+4) (by omega) (by omega) (by omega) (by omega) (by rw[q6W,R]);have D:=η (fun W=>z2r Y W (by omega));have V:isR s a=(q1l Y&&decide (Z=X)):=by
  unfold isR;rw[F,ζ (p:=a+12<=s.length) (by omega),ζ h5,ζ h6,J,R,E];simp
 have y:q1l Y=true->(q1V Y).drop 4=(s.drop (a+4)).take n:=fun h=>by
  unfold q1V;rw[ξ h,B,<-J,List.take_take,List.drop_take,List.drop_drop]
  congr 1;omega
 have G:q1l Y=true->(q1V Y).length=n+4:=fun h=>by
  unfold q1V;rw[ξ h,Θ,B];omega
 have U:q6K s a=if isR s a then some ((s.drop (a+4)).take n,a+n+12) else none:=by unfold q6K;rw[F]
 have N:=η V;have HP:=η y;have O:=η G;have HS:=η U;clear E F x R J B V y G U h2 h1;generalize q1V Y=T at*
 cases l:q1l Y with
 | false=>
  have u:Hd (z2e s a= .tuple #[.string ⟨#[]⟩,.int .i64 0,.bool false]):=η (q8x (by rw[N.o,l];rfl));rw[l] at D;go_enter Tryz.func95,Tryz.ntmps95;go_wp2_with fail;refine(C.o _).mono ?_;rintro e w1 ⟨rfl,b⟩;have v:=η b;clear b;go_wp2_with fail;refine(D.o _).mono ?_;rintro e w2 ⟨rfl,d⟩;have m:=η (v.o.trans d);clear d;go_wp2_with fail;refine q0E (by kernel_rfl) (by kernel_rfl) ?_
  repeat (go_big_quiet_step (fail))
  refine wpQuiet_nil ?_;intro w3 j;have q:=η (m.o.trans j);clear j;go_wp2_with fail;go_ret3;rw[u.o];exact⟨rfl,q.o⟩
 | true =>
  by_cases r:Z=X
  ·have u:Hd (z2e s a= .tuple #[.string ⟨(T.drop 4).toArray⟩,.int .i64 ((a:Int)+(n:Int)+12),.bool true]):=η (by
    unfold z2e;rw[HS.o,N.o,l,r,HP.o l]
    simp)
   have Q:=O.o l;have e0: ∀w,(Instr.slice 9 (.string ⟨T.toArray⟩) (some (.int .i64 4)) none none).run Tryz.prog w= .ok (.string ⟨(T.drop 4).toArray⟩) w:=fun w=>by
    exact q2Z T 4 4 rfl (by omega) w
   rw[l] at D;generalize T.drop 4=T4 at*;subst r;go_enter Tryz.func95,Tryz.ntmps95;go_wp2_with fail;refine(C.o _).mono ?_;rintro e w1 ⟨rfl,b⟩;have v:=η b;clear b;go_wp2_with fail;refine(D.o _).mono ?_;rintro e w2 ⟨rfl,d⟩;have m:=η (v.o.trans d);clear d;go_wp2_with fail;refine q0E (by kernel_rfl) (by kernel_rfl) ?_
   repeat (go_big_quiet_step (fail))
   refine wpQuiet_nil ?_;intro w3 j;have q:=η (m.o.trans j);clear j;go_wp2_with fail;go_ret3;rw[u.o];exact⟨rfl,q.o⟩
  ·have u:Hd (z2e s a= .tuple #[.string ⟨#[]⟩,.int .i64 0,.bool false]):=η (q8x (by rw[N.o,ε r,Bool.and_false]))
   have d0:(Z==X)=false:=by simpa using r
   have a0:(Z !=X)=true:=by simpa using r
   rw[l] at D;go_enter Tryz.func95,Tryz.ntmps95;go_wp2_with fail;refine(C.o _).mono ?_;rintro e w1 ⟨rfl,b⟩;have v:=η b;clear b;go_wp2_with fail;refine(D.o _).mono ?_;rintro e w2 ⟨rfl,d⟩;have m:=η (v.o.trans d);clear d;go_wp2_with fail;refine q0E (by kernel_rfl) (by kernel_rfl) ?_
   repeat (go_big_quiet_step (fail))
   refine wpQuiet_nil ?_;intro w3 j;have q:=η (m.o.trans j);clear j;go_wp2_with fail;go_ret3;rw[u.o];exact⟨rfl,q.o⟩
theorem z4x(n:Nat)(w:World)(x:n<200):
  Calls Tryz.prog 146 #[.int .i64 (n:Int)] w fun e w'=>e= .returned (.string ⟨(q3I n).toArray⟩)/\Ext w w':=by
 have v:decide ((200:Int)<=(n:Int))=false:=by simp;omega
 have r:Hd (q3I n=q0T ([99,104,110,107]++be 4 n)):=η rfl;have m:=η (fun W=>q8B (n:Int) 4 W (by omega) (by omega) (by omega) (by omega));have s:=η (fun W=>q9S ([99,104,110,107]++be 4 n) W (by simp[q0F]));have u:(be 4 n).length=4:=q0F 4 _;rw[Int.toNat_natCast] at m;generalize q0T ([99,104,110,107]++be 4 n)=Y at*;generalize be 4 n=X at*;go_enter Tryz.func146,Tryz.ntmps146;go_wp2_with fail;refine(m.o _).mono ?_;rintro e w1 ⟨rfl,d⟩;have q:=η d;clear d;go_wp2_with fail;have j:=q2B [99,104,110,107] X;have b:({data:=#[99,104,110,107]}:ByteArray)++{data:=X.toArray}=⟨([99,104,110,107]++X).toArray⟩:=j;rw[b];refine(s.o _).mono ?_;rintro e y ⟨rfl,d⟩;have l:=η (q.o.trans d);clear d;go_wp2_with fail;go_ret;exact⟨by rw[r.o];rfl,l.o⟩
theorem y3n(N:Int)(p:List UInt8)(w:World)(b:0<=N)(h1:N<=4096)(m:p.length<=2000):
  Calls Tryz.prog 120 #[.int .i64 N,.string ⟨p.toArray⟩] w fun e w'=>e= .returned (.bool (decide ((p.length:Int)+12<=4096-N)))/\w=w':=by
 have d:decide ((0:Int)<=N)=true:=by simpa using b
 have j:decide (N<=(4096:Int))=true:=by simpa using h1
 have l:decide ((p.length:Int)<=(2000:Int))=true:=by simp;omega
 go_enter Tryz.func120,Tryz.ntmps120;go_wp2_with fail;go_ret;exact⟨rfl,rfl⟩
def q9t(s p:List UInt8):Bool:=decide (p.length<=s.length)&&(s.take p.length==p)
theorem q7k(s p:List UInt8)(w:World)(j:s.length<=9223372036854775807)(l:p.length<=9223372036854775807):
  Calls Tryz.prog 130 #[.string ⟨s.toArray⟩,.string ⟨p.toArray⟩] w fun e w'=>e= .returned (.bool (q9t s p))/\w=w':=by
 by_cases h:p.length<=s.length
 ·have b:Hd (q9t s p=(s.take p.length==p)):=η (by unfold q9t;rw[ζ h,Bool.true_and])
  have d:decide ((p.length:Int)<=(s.length:Int))=true:=by simp;omega
  go_enter Tryz.func130,Tryz.ntmps130;go_wp2_with fail;go_ret;rw[b.o];exact⟨rfl,rfl⟩
 ·have b:Hd (q9t s p=false):=η (by unfold q9t;rw[ε h,Bool.false_and])
  have d:decide ((p.length:Int)<=(s.length:Int))=false:=by simp;omega
  go_enter Tryz.func130,Tryz.ntmps130;go_wp2_with fail;go_ret;rw[b.o];exact⟨rfl,rfl⟩
theorem z4D(s p:List UInt8)(w:World)(b:s.length<=9223372036854775807)(d:p.length<=9223372036854775807):
  Calls Tryz.prog 147 #[.string ⟨s.toArray⟩,.string ⟨p.toArray⟩] w fun e w'=>e= .returned (.bool (q9t s p))/\w=w':=by
 go_enter Tryz.func147,Tryz.ntmps147;go_wp2_with fail;refine(q7k s p _ b d).mono ?_;rintro e w1 ⟨rfl,rfl⟩;go_wp2_with fail;go_ret;exact⟨rfl,rfl⟩
theorem q4l : ∀a b:List UInt8,Op.bytesLess a b=bytesBefore a b
 |[],[]=>rfl
 |[],_::_=>rfl
 |_::_,[]=>rfl
 |a::x,b::y=>by unfold Op.bytesLess bytesBefore;rw[q4l x y]
abbrev Cks :=List (List (List UInt8))
def q4p :Nat->Cks->List (List UInt8×List UInt8)
 |_,[]=>[]
 |i,ps::r=>(q0C 99 (i:Int),q0Z i ps)::q4p (i+1) r
theorem q5v : ∀(C:Cks) (i:Nat),(q4p i C).length=C.length
 |[],_=>rfl
 |ps::r,i=>by simp[q4p,q5v r]
theorem q3i : ∀(C D:Cks) (i:Nat),q4p i (C++D)=q4p i C++q4p (i+C.length) D
 |[],D,i=>rfl
 | ps::r,D,i=>by
  rw[List.cons_append,q4p,q3i r D (i+1),q4p,List.cons_append,χ]
  congr 3;omega
theorem q4C : ∀{C:Cks} {i:Nat} {x:List UInt8×List UInt8},x∈q4p i C-> ∃k,i<=k/\k<i+C.length/\x.1=q0C 99 (k:Int)
 |[],_,_,h=>by cases h
 | ps ::r,i,x,h=>by
  rcases List.mem_cons.1 h with rfl|h
  ·exact⟨i,ι _,by simp,rfl⟩
  ·obtain⟨k,h1,h2,h3⟩:=q4C h
   exact⟨k,by omega,by simp;omega,h3⟩
theorem q3Z(n:Int):(q0C 99 n).length<=9223372036854775807:=by
 by_cases h:0<=n/\n<=999999
 ·rw[q0X h,χ,q0l];decide
 ·rw[q6p h];decide
theorem y0H(b:i<=999999)(d:k<=999999)(h:i≠k):q0C 99 (i:Int)≠q0C 99 (k:Int):=fun e=>by
 have:=y1B 99 (i:Int) (k:Int) (by omega) (by omega);rw[e,beq_self_eq_true] at this;have:=of_decide_eq_true this.symm;omega
theorem q7d(b:i<=999999)(d:k<=999999)(h:i<k):bytesBefore (q0C 99 (i:Int)) (q0C 99 (k:Int))=true:=by
 have h1:=z6o 99 (i:Int) (k:Int) (by omega) (by omega);have h2:decide ((i:Int)<(k:Int))=true:=by simp;omega
 rw[h2] at h1;rw[<-q4l];exact h1
theorem q6R{C:Cks}(b:k<=999999)(l:i+C.length<=999999)(h: ∀j,i<=j->j<i+C.length->j≠k): ∀y∈q4p i C,Prod.fst y≠q0C 99 (k:Int):=fun y d=>by
 obtain⟨j,h1,h2,h3⟩:=q4C d;rw[h3];exact y0H (by omega) b (h j h1 h2)
theorem z2P{C:Cks}(m:C.length<=200)(d:C[k]? =some ps):q0H Prod.fst (q0C 99 (k:Int)) (q4p 0 C)=some (q0C 99 (k:Int),q0Z k ps):=by
 obtain⟨l,rfl⟩:=List.getElem?_eq_some_iff.1 d;have e:C=C.take k++C[k]::C.drop (k+1):=by
  rw[List.getElem_cons_drop];exact(List.take_append_drop _ _).symm
 have b:(C.take k).length=k:=by simp;omega
 conv=>lhs;rw[e]
 rw[q3i,b,Nat.zero_add,q0o]
 ·rw[q4p];unfold q0H;rw[List.find?_cons_of_pos (by simp)]
 ·exact q6R (by omega) (by rw[b];omega) fun j _ h2=>by rw[b] at h2;omega
theorem z2Q{C:Cks}(d:C.length<=200)(l:C.length<=k)(b:k<=999999):q0H Prod.fst (q0C 99 (k:Int)) (q4p 0 C)=none:=
 q0f (q6R b (by omega) fun j _ h2=>by omega)
theorem y0G{C:Cks}(m:C.length<=200):q0H Prod.fst [110,101,119] (q4p 0 C)=none:=q0f fun y l e=>by
 obtain⟨j,h1,h2,h3⟩:=q4C l;rw[e] at h3;have h4:j<200:=by omega
 rw[q0X (by omega)] at h3;have b:=congrArg List.length h3;have d:(99::q5m 6 ((j:Int)).toNat).length=7:=by simp[q0l]
 rw[d] at b
 cases b
theorem z0G : ∀(C:Cks) (i:Nat),(q4p i C).map Prod.fst=(List.range' i C.length).map fun k:Nat=>q0C 99 (k:Int)
 |[],_=>rfl
 |ps::r,i=>by rw[q4p,List.map_cons,z0G r,χ,List.range'_succ,List.map_cons]
theorem q1c(a b:List (List UInt8×List UInt8)):q1u (a++b)=q1u a+q1u b:=by simp[q1u,q5r,List.sum_append]
theorem z3W(x:List UInt8×List UInt8):q1u [x]=x.2.length:=by simp[q1u,q5r]
theorem z7g{D:Cks}(p:List UInt8)(b:D.length<=200):q1Y Prod.fst (q0C 99 (D.length:Int)) (fun x=>(x.1,x.2++q2u p)) (q4p 0 (D++[ps]))=q4p 0 (D++[ps++[p]]):=by
 rw[q3i,q3i,q5d,q3F,Nat.zero_add]
 ·congr 1
  show q1Y Prod.fst (q0C 99 (D.length:Int)) _ [(q0C 99 (D.length:Int),q0Z D.length ps)]=[(q0C 99 (D.length:Int),q0Z D.length (ps++[p]))];rw[z3n];unfold q1Y;simp
 ·exact q6R (by omega) (by omega) fun j _ h2=>by omega
theorem z6T{C:Cks}(p:List UInt8)(b:C.length<=200):q1Y Prod.fst (q0C 99 (C.length:Int)) (fun x=>(x.1,x.2++(q3I C.length++q2u p))) (q4p 0 C++[(q0C 99 (C.length:Int),[])])=q4p 0 (C++[[p]]):=by
 rw[q3i,q5d,q3F,Nat.zero_add]
 ·congr 1
  show q1Y Prod.fst (q0C 99 (C.length:Int)) _ [(q0C 99 (C.length:Int),[])]=[(q0C 99 (C.length:Int),q0Z C.length [p])];rw[z6Q];unfold q1Y;simp
 ·exact q6R (by omega) (by omega) fun j _ h2=>by omega
def q1A(C:Cks):Nat:=(C.map q0L).sum
theorem q6S : ∀(C:Cks) (i:Nat),q1u (q4p i C)=q1A C
 |[],_=>rfl
 | ps::r,i=>by
  have e:q4p i (ps::r)=[(q0C 99 (i:Int),q0Z i ps)]++q4p (i+1) r:=rfl;rw[e,q1c,z3W,q6S r];simp[q1A,q1Z]
structure okC(C:Cks):Prop where
 few:C.length<=200
 size: ∀ps∈C,q0L ps<=4096
 pay: ∀ps∈C,∀p∈ps,p.length<=2000
 full: ∀ps∈C,ps≠[]
structure Oth where
 X:List (List UInt8×List UInt8)
 Z:List (List UInt8×List UInt8)
def noO :Oth:=⟨[],[]⟩
structure okOth(E:Oth):Prop where
 before: ∀y∈E.X,∀k:Nat,k<=999999->bytesBefore y.1 (q0C 99 (k:Int))=true
 behind: ∀y∈E.Z,∀k:Nat,k<=999999->bytesBefore (q0C 99 (k:Int)) y.1=true
 new: ∀y,y∈E.X\/y∈E.Z->y.1≠[110,101,119]
 kind: ∀y,y∈E.X\/y∈E.Z->(q1K y.1).2.2=true->(q1K y.1).1≠99
 len: ∀y,y∈E.X\/y∈E.Z->y.1.length<=1000
 few:E.X.length+E.Z.length<=190
theorem okOth.no :okOth noO:=⟨(fun _ h=>by cases h),(fun _ h=>by cases h),(fun _ h=>by rcases h with h|h<;>cases h),(fun _ h=>by rcases h with h|h<;>cases h),(fun _ h=>by rcases h with h|h<;>cases h),υ _⟩
def q2s(E:Oth):Nat:=q1u E.X+q1u E.Z
def q3y(E:Oth)(C:Cks):List (List UInt8×List UInt8):=E.X++(q4p 0 C++E.Z)
def z6U(E:Oth)(C:Cks):List (List UInt8×List UInt8):=E.X++(q4p 0 C++((q0C 99 (C.length:Int),[])::E.Z))
theorem q8b(E:Oth)(C:Cks):(q3y E C).length=E.X.length+C.length+E.Z.length:=by simp[q3y,q5v];omega
theorem z4t{a b:List UInt8}(h:bytesBefore a b=true):a≠b:=fun e=>by rw[e,WideAt.bytes_irrefl] at h;cases h
theorem okOth.neX{E:Oth}(h:okOth E)(b:k<=999999): ∀y∈E.X,Prod.fst y≠q0C 99 (k:Int):=fun y d=>z4t (h.before y d k b)
theorem okOth.neZ{E:Oth}(h:okOth E)(b:k<=999999): ∀y∈E.Z,Prod.fst y≠q0C 99 (k:Int):=fun y d e=>z4t (h.behind y d k b) e.symm
theorem q1j{k:α->List UInt8}{nm:List UInt8}{a b:List α}(h: ∀y∈b,k y≠nm):q0H k nm (a++b)=q0H k nm a:=by
 unfold q0H;rw[List.find?_append];have:List.find? (fun y=>k y==nm) b=none:=q0f h;rw[this];simp
theorem q4M{E:Oth}(b:okOth E){C:Cks}(j:C.length<=200)(d:C[k]? =some ps):q0H Prod.fst (q0C 99 (k:Int)) (q3y E C)=some (q0C 99 (k:Int),q0Z k ps):=by
 have l:=(List.getElem?_eq_some_iff.1 d).1;unfold q3y;rw[q0o (b.neX (by omega)),q1j (b.neZ (by omega))];exact z2P j d
theorem z7f{E:Oth}(d:okOth E){C:Cks}(j:C.length<=200)(l:C.length<=k)(b:k<=999999):q0H Prod.fst (q0C 99 (k:Int)) (q3y E C)=none:=by
 unfold q3y;rw[q0o (d.neX b),q1j (d.neZ b)];exact z2Q j l b
theorem y0F{E:Oth}(d:okOth E){C:Cks}(j:C.length<=200):q0H Prod.fst [110,101,119] (q3y E C)=none:=by
 unfold q3y;rw[q0o fun y b=>d.new y (.inl b),q1j fun y b=>d.new y (.inr b)];exact y0G j
theorem q8c(E:Oth)(C:Cks):q1u (q3y E C)=q2s E+q1A C:=by
 unfold q3y q2s;rw[q1c,q1c,q6S];omega
theorem z7i(E:Oth)(C:Cks):q1u (z6U E C)=q2s E+q1A C:=by
 have e:z6U E C=E.X++(q4p 0 C++([(q0C 99 (C.length:Int),[])]++E.Z)):=rfl;rw[e,q1c,q1c,q1c,q6S,z3W];unfold q2s;simp;omega
theorem z7e{E:Oth}(b:okOth E){D:Cks}(p:List UInt8)(d:D.length<=200):q1Y Prod.fst (q0C 99 (D.length:Int)) (fun x=>(x.1,x.2++q2u p)) (q3y E (D++[ps]))=q3y E (D++[ps++[p]]):=by
 unfold q3y;rw[q5d,q5d,q3F (b.neX (by omega)),q3F (b.neZ (by omega)),z7g p d]
theorem q9C{k:α->List UInt8}{x:α}{b:List α}: ∀{a:List α},(∀y∈a,bytesBefore (k y) (k x)=true)->q2G k x (a++b)=a++q2G k x b
 |[],_=>rfl
 | y ::r,h=>by
  have h1:=h y (List.mem_cons_self);have h2:¬bytesBefore (k x) (k y)=true:=fun h3=>by
   have:=WideShapes.bytes_trans _ _ _ h1 h3;rw[WideAt.bytes_irrefl] at this
   cases this
  rw[List.cons_append,q2G,κ h2,q9C fun z d=>h z (List.mem_cons_of_mem _ d)]
  rfl
theorem z6k{k:α->List UInt8}{x:α}: ∀{b:List α},(∀y∈b,bytesBefore (k x) (k y)=true)->q2G k x b=x::b
 |[],_=>rfl
 |y::r,h=>by rw[q2G,ξ (h y (List.mem_cons_self))]
theorem y0E{E:Oth}(d:okOth E){C:Cks}(l:C.length<=200):q2G Prod.fst (q0C 99 (C.length:Int),[]) (q3y E C)=z6U E C:=by
 unfold q3y z6U;rw[q9C fun y b=>d.before y b _ (by omega),q9C fun y b=>?_,z6k fun y b=>d.behind y b _ (by omega)];obtain⟨j,h1,h2,h3⟩:=q4C b;rw[h3];exact q7d (by omega) (by omega) (by omega)
theorem z7h{E:Oth}(b:okOth E){C:Cks}(d:C.length<=200):q0H Prod.fst (q0C 99 (C.length:Int)) (z6U E C)=some (q0C 99 (C.length:Int),[]):=by
 unfold z6U;rw[q0o (b.neX (by omega)),q0o (q6R (by omega) (by omega) fun j _ h2=>by omega)];unfold q0H;rw[List.find?_cons_of_pos (by simp)]
theorem z6R{E:Oth}(b:okOth E){C:Cks}(p:List UInt8)(d:C.length<=200):q1Y Prod.fst (q0C 99 (C.length:Int)) (fun x=>(x.1,x.2++(q3I C.length++q2u p))) (z6U E C)=q3y E (C++[[p]]):=by
 have e:z6U E C=E.X++((q4p 0 C++[(q0C 99 (C.length:Int),[])])++E.Z):=by simp[z6U]
 rw[e];unfold q3y;rw[q5d,q5d,q3F (b.neX (by omega)),q3F (b.neZ (by omega)),z6T p d]
theorem z6S(E:Oth)(C:Cks):(q3y E C).map Prod.fst=E.X.map Prod.fst++((List.range C.length).map (fun k:Nat=>q0C 99 (k:Int))++E.Z.map Prod.fst):=by
 unfold q3y;rw[List.map_append,List.map_append,z0G,List.range_eq_range']
structure Lgd(E:Oth)(σ:DM)(c s:Int)(C:Cks):Prop where
 pl:Pl σ (c+(q2s E:Int)) s (q3y E C)
 ok:okC C
 oth:okOth E
theorem okC.nil :okC []:=⟨υ _,(fun _ h=>by cases h),(fun _ h=>by cases h),(fun _ h=>by cases h)⟩
theorem okC.grow{D:Cks}(h:okC (D++[ps]))(b:p.length<=2000)(d:q0L ps+(p.length+12)<=4096):okC (D++[ps++[p]]):=by
 have m:ps∈D++[ps]:=by simp
 refine⟨by simpa using h.few,fun q hq=>?_,fun q hq=>?_,fun q hq=>?_⟩
 all_goals rcases List.mem_append.1 hq with h1|h1
 ·exact h.size q (List.mem_append_left _ h1)
 ·obtain rfl:=List.mem_singleton.1 h1;rw[q3C];exact d
 ·exact h.pay q (List.mem_append_left _ h1)
 ·obtain rfl:=List.mem_singleton.1 h1
  intro x j;rcases List.mem_append.1 j with h2|h2
  ·exact h.pay ps m x h2
  ·obtain rfl:=List.mem_singleton.1 h2;exact b
 ·exact h.full q (List.mem_append_left _ h1)
 ·obtain rfl:=List.mem_singleton.1 h1;simp
theorem okC.more{C:Cks}(h:okC C)(b:p.length<=2000)(j:C.length<200):okC (C++[[p]]):=by
 refine⟨by simp;omega,fun q hq=>?_,fun q hq=>?_,fun q hq=>?_⟩
 all_goals rcases List.mem_append.1 hq with h1|h1
 ·exact h.size q h1
 ·obtain rfl:=List.mem_singleton.1 h1;rw[q5N];omega
 ·exact h.pay q h1
 ·obtain rfl:=List.mem_singleton.1 h1
  intro x d;obtain rfl:=List.mem_singleton.1 d;exact b
 ·exact h.full q h1
 ·obtain rfl:=List.mem_singleton.1 h1;simp
def q4O(C:Cks):Int:=match C.getLast? with|none=>0|some ps=>((C.length:Int)-1)*4096+(q0L ps:Int)
theorem z5H :q4O []=0:=rfl
theorem q3J(D:Cks)(ps:List (List UInt8)):q4O (D++[ps])=(D.length:Int)*4096+(q0L ps:Int):=by
 unfold q4O;simp
def q0O(C:Cks):List Int:=C.map fun ps=>(q0L ps:Int)
theorem q3D(D:Cks)(ps:List (List UInt8)):q0O (D++[ps])=q0O D++[(q0L ps:Int)]:=by simp[q0O]
theorem q0r(C:Cks):(q0O C).length=C.length:=by simp[q0O]
theorem q9T(D:Cks)(ps:List (List UInt8)):(q0O (D++[ps])).getD D.length 0=(q0L ps:Int):=by
 rw[q3D];have:D.length=(q0O D).length:=(q0r D).symm;rw[δ,this,List.getElem?_append_right (ι _)];simp
theorem z7A(D:Cks)(ps b:List (List UInt8)):(q0O (D++[ps])).set D.length (q0L b:Int)=q0O (D++[b]):=by
 rw[q3D,q3D];have:D.length=(q0O D).length:=(q0r D).symm;rw[this];simp
theorem z4a(C:Cks)(i:Nat)(h:C[i]? =some ps):(q0O C).getD i 0=(q0L ps:Int):=by
 unfold q0O;rw[δ,List.getElem?_map,h];rfl
def q4q(C:Cks)(p:List UInt8):Bool:=match C.getLast? with|none=>false|some ps=>decide (q0L ps+(p.length+12)<=4096)
def q1P(free:Int)(C:Cks)(p:List UInt8):Int×Int×Cks:=
 if 2000<p.length then(0,3,C)
 else if q4q C p then(if free-((p.length:Int)+12)<6000 then(0,60,C) else(q4O C,0,C.dropLast++[C.getLast?.getD []++[p]]))
 else if 200<=C.length\/free-((p.length:Int)+24)<6000 then(0,60,C) else((C.length:Int)*4096+12,0,C++[[p]])
def q4w(free sure:Int)(C:Cks)(p:List UInt8):Int:=
 if (q1P free C p).2.1=0/\q4q C p=false/\C≠[] then q4O C else sure
def q3N :Nat->List (List UInt8)->List (Nat×List UInt8)
 |_,[]=>[]
 |a,p::r=>(a,p)::q3N (a+p.length+12) r
def q1J :Nat->Cks->List (Nat×List UInt8)
 |_,[]=>[]
 |b,ps::r=>q3N (b+12) ps++q1J (b+4096) r
def q4I(C:Cks)(pos:Int):Option (Nat×List UInt8):=(q1J 0 C).find? fun r=>decide (pos<=(r.1:Int))
def q6u(C:Cks)(pos:Int):List UInt8×Int:=
 if pos<0 then([],4) else match C[(pos/4096).toNat]? with
 |none=>([],4)
 | some ps=>match (if 12<=pos % 4096 then q6K (q0Z (pos/4096).toNat ps) (pos % 4096).toNat else none) with
  |none=>([],4)
  |some (p,_)=>(p,0)
theorem q8N : ∀(ps:List (List UInt8)) (a:Nat),∀r∈q3N a ps,a<=r.1/\r.1+r.2.length+12<=a+(ps.map fun p=>p.length+12).sum
 |[],_,r,h=>by cases h
 | p ::t,a,r,h=>by
  rw[q3N] at h;rcases List.mem_cons.1 h with rfl|h
  ·simp only[List.map_cons,List.sum_cons];omega
  ·have:=q8N t _ r h
   simp only[List.map_cons,List.sum_cons];omega
theorem q6v : ∀(C:Cks) (b:Nat),(∀ps∈C,q0L ps<=4096)-> ∀r∈q1J b C,b+12<=r.1/\r.1<b+4096*C.length
 |[],_,_,r,h=>by cases h
 | ps ::t,b,hs,r,h=>by
  rw[q1J] at h;have h1:=hs ps (List.mem_cons_self);unfold q0L at h1;rcases List.mem_append.1 h with h|h
  ·have:=q8N ps _ r h
   simp only[χ];omega
  ·have:=q6v t _ (fun q hq=>hs q (List.mem_cons_of_mem _ hq)) r h
   simp only[χ];omega
theorem q6F : ∀(C:Cks) (b n:Nat),q1J b C=q1J b (C.take n)++q1J (b+4096*n) (C.drop n)
 |C,b,0=>by simp[q1J]
 |[],b,n+1=>by simp[q1J]
 | ps::t,b,n+1=>by
  rw[List.take_succ_cons,List.drop_succ_cons,q1J,q1J,q6F t (b+4096) n,List.append_assoc]
  congr 3;omega
theorem z3C(C D:Cks)(b:Nat):q1J b (C++D)=q1J b C++q1J (b+4096*C.length) D:=by
 have:=q6F (C++D) b C.length
 rwa [List.take_left,List.drop_left] at this
theorem z8R{pos:Int}{l m:List (Nat×List UInt8)}(h: ∀r∈l,(r.1:Int)<pos):(l++m).find? (fun r=>decide (pos<=(r.1:Int)))=m.find? fun r=>decide (pos<=(r.1:Int)):=by
 rw[List.find?_append];have:l.find? (fun r=>decide (pos<=(r.1:Int)))=none:=List.find?_eq_none.2 fun r b=>by have:=h r b;simp;omega
 rw[this];rfl
theorem z4J(C:Cks)(pos:Int)(d: ∀ps∈C,q0L ps<=4096)(n:Nat)(j:(n:Int)*4096<=pos):q4I C pos=(q1J (4096*n) (C.drop n)).find? fun r=>decide (pos<=(r.1:Int)):=by
 unfold q4I;rw[q6F C 0 n,Nat.zero_add];refine z8R fun r b=>?_
 have:=q6v (C.take n) 0 (fun ps h=>d ps (List.mem_of_mem_take h)) r b;have h2:(C.take n).length<=n:=List.length_take_le _ _;omega
theorem q5K : ∀(ps:List (List UInt8)) (a:Nat),(q3N a ps).length=ps.length
 |[],_=>rfl
 |p::t,a=>by simp[q3N,q5K t]
theorem z5q : ∀(ps:List (List UInt8)) (a k:Nat) (p:List UInt8),ps[k]? =some p->(q3N a ps)[k]? =some (a+((ps.take k).map fun p=>p.length+12).sum,p)
 |[],_,k,p,h=>by simp at h
 | q::t,a,0,p,h=>by
  simp only[List.getElem?_cons_zero,Option.some.injEq] at h;subst h;simp[q3N]
 | q::t,a,k+1,p,h=>by
  rw[List.getElem?_cons_succ] at h;rw[q3N,List.getElem?_cons_succ,z5q t _ k p h,List.take_succ_cons,List.map_cons,List.sum_cons]
  congr 2;omega
theorem z0c : ∀(ps:List (List UInt8)) (a k:Nat) (p:List UInt8),ps[k]? =some p->(q1m a ps)[k]? =some (a+((ps.take k).map fun p=>p.length+12).sum,a+((ps.take k).map fun p=>p.length+12).sum+p.length+12)
 |[],_,k,p,h=>by simp at h
 | q::t,a,0,p,h=>by
  simp only[List.getElem?_cons_zero,Option.some.injEq] at h;subst h;simp[q1m]
 | q::t,a,k+1,p,h=>by
  rw[List.getElem?_cons_succ] at h;rw[q1m,List.getElem?_cons_succ,z0c t _ k p h,List.take_succ_cons,List.map_cons,List.sum_cons]
  congr 2<;>omega
theorem y1l(n:Nat)(ps:List (List UInt8))(k:Nat)(p:List UInt8)(h:ps[k]? =some p)(b:p.length<=2000):q6K (q0Z n ps) (q0L (ps.take k))=some (p,q0L (ps.take k)+p.length+12):=by
 obtain⟨d,rfl⟩:=List.getElem?_eq_some_iff.1 h;have e:ps=ps.take k++ps[k]::ps.drop (k+1):=by rw[List.getElem_cons_drop];exact(List.take_append_drop _ _).symm
 have:=z8X n (ps.take k) ps[k] (ps.drop (k+1)) b
 rwa [<-e] at this
end
end Go.Proofs.YteabhdclmodefaaGreatDoor
