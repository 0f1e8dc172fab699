/- Plain laws. -/
import Derived.Test.YtjlcdfpbllobaaaGreatDoorG3AQ
import Derived.Test.YtjlcdfpbllobaaaGreatDoorG6AQ
import Derived.Laws.BitsLemmas
set_option linter.unusedVariables false
set_option linter.unusedSimpArgs false
set_option maxRecDepth 100000
set_option maxHeartbeats 6400000
namespace Go.Proofs.YtjlcdfpbllobaaaGreatDoor
variable {a k i:Nat}{p:List UInt8}{α:Type}{L:List En}{ps:List (List UInt8)}
section
open Go.RowKit
theorem q2X(a b:List UInt8):(⟨a.toArray⟩:ByteArray)++⟨b.toArray⟩=⟨(a++b).toArray⟩:=by rw[ByteArray.mk_append_mk];first|done|simp
def q2v(p:List UInt8):List UInt8:=q1S (be 4 p.length++p)++be 4 p.length
def q4z(s:List UInt8)(a:Nat):Nat:=q1V ((s.drop a).take 4)
def isR(s:List UInt8)(a:Nat):Bool:=
 decide (a+12<=s.length)&&decide (q4z s a<=2000)&&decide (a+q4z s a+12<=s.length)
 &&q2V ((s.drop a).take (q4z s a+8))&&decide ((s.drop (a+q4z s a+8)).take 4=(s.drop a).take 4)
def q6X(s:List UInt8)(a:Nat):Option (List UInt8×Nat):=
 if isR s a then some ((s.drop (a+4)).take (q4z s a),a+q4z s a+12) else none
def q6n :Nat->List UInt8->Nat->List (Nat×Nat)
 |0,_,_=>[]
 | f+1,s,a=>match q6X s a with
  |none=>[]
  |some (_,b)=>(a,b)::q6n f s b
def q0z(s:List UInt8)(a:Nat):List (Nat×Nat):=q6n (s.length+1) s a
def z1W(a:Nat)(l:List (Nat×Nat)):Nat:=(l.getLast?.map Prod.snd).getD a
def q3L(n:Nat):List UInt8:=q1S ([99,104,110,107]++be 4 n)
def q5p(ps:List (List UInt8)):List UInt8:=(ps.map q2v).flatten
def q0b(n:Nat)(ps:List (List UInt8)):List UInt8:=q3L n++q5p ps
def q0M(ps:List (List UInt8)):Nat:=12+(ps.map fun p=>p.length+12).sum
def q1j :Nat->List (List UInt8)->List (Nat×Nat)
 |_,[]=>[]
 |a,p::r=>(a,a+p.length+12)::q1j (a+p.length+12) r
theorem q1R(p:List UInt8):(q2v p).length=p.length+12:=by
 simp only[q2v,θ,q0v,q0J];omega
theorem q3h(n:Nat):(q3L n).length=12:=by simp[q3L,q0v,q0J]
theorem z2c(ps:List (List UInt8)):(q5p ps).length=(ps.map fun p=>p.length+12).sum:=by
 unfold q5p
 induction ps with
 |nil=>rfl
 |cons p r ih=>simp[q1R,ih]
theorem q1Y(n:Nat)(ps:List (List UInt8)):(q0b n ps).length=q0M ps:=by
 simp[q0b,q0M,q3h,z2c]
theorem z6c(ps:List (List UInt8))(p:List UInt8):q5p (ps++[p])=q5p ps++q2v p:=by simp[q5p]
theorem z4E(n:Nat)(ps:List (List UInt8))(p:List UInt8):q0b n (ps++[p])=q0b n ps++q2v p:=by simp[q0b,z6c]
theorem z6i(n:Nat)(p:List UInt8):q0b n [p]=q3L n++q2v p:=by simp[q0b,q5p]
theorem q3C(ps:List (List UInt8))(p:List UInt8):q0M (ps++[p])=q0M ps+(p.length+12):=by simp[q0M,List.sum_append];omega
theorem q5X(p:List UInt8):q0M [p]=12+(p.length+12):=by simp[q0M]
theorem z2q{s:List UInt8}{b:Nat}(h:q6X s a=some (p,b)):
  p.length<=2000/\b=a+p.length+12/\b<=s.length/\p=(s.drop (a+4)).take p.length/\q4z s a=p.length:=by
 unfold q6X at h
 split at h
 case isFalse=>cases h
 case isTrue hi=>
  unfold isR at hi;simp only[Ξ,Φ] at hi;obtain⟨⟨⟨⟨h1,h2⟩,h3⟩,h4⟩,j⟩:=hi;simp only[Option.some.injEq,Prod.mk.injEq] at h;obtain⟨rfl,rfl⟩:=h;have d:((s.drop (a+4)).take (q4z s a)).length=q4z s a:=by simp;omega
  rw[d];exact⟨h2,rfl,h3,rfl,rfl⟩
theorem y2q(d m b:List α)(h:a=d.length):(d++m++b).drop a=m++b:=by
 subst h;rw[List.append_assoc,List.drop_left]
theorem z5i(d p b:List UInt8)(x:p.length<=2000)(q:a=d.length):q6X (d++q2v p++b) a=some (p,a+p.length+12):=by
 have m:(d++q2v p++b).drop a=be 4 p.length++(p++(z0F (q1u (be 4 p.length++p))++(be 4 p.length++b))):=by
  rw[y2q _ _ _ q];simp[q2v,q1S]
 have l:(be 4 p.length).length=4:=q0J 4 _;have o:=q6I (q1u (be 4 p.length++p));have j:q4z (d++q2v p++b) a=p.length:=by
  unfold q4z;rw[m,List.take_left' l,q6V];omega
 have r:(d++q2v p++b).length=a+(p.length+12)+b.length:=by simp[q1R,q];omega
 have v:isR (d++q2v p++b) a=true:=by
  unfold isR;rw[j];simp only[Ξ,Φ];refine⟨⟨⟨⟨by omega,x⟩,by omega⟩,?_⟩,?_⟩
  ·have e:((d++q2v p++b).drop a).take (p.length+8)=q1S (be 4 p.length++p):=by
    rw[m];have:be 4 p.length++(p++(z0F (q1u (be 4 p.length++p))++(be 4 p.length++b)))=q1S (be 4 p.length++p)++(be 4 p.length++b):=by simp[q1S]
    rw[this];exact List.take_left' (by simp[q0v,l];omega)
   rw[e];unfold q2V;simp only[Ξ,Φ,q0v];refine⟨by omega,?_⟩;have s:(q1S (be 4 p.length++p)).take ((be 4 p.length++p).length+4-4)=be 4 p.length++p:=by
    unfold q1S;exact List.take_left' (by omega)
   rw[s]
  ·have e:(d++q2v p++b).drop (a+p.length+8)=be 4 p.length++b:=by
    have:a+p.length+8=a+(p.length+8):=by omega
    rw[this,<-List.drop_drop,m];have:be 4 p.length++(p++(z0F (q1u (be 4 p.length++p))++(be 4 p.length++b)))=(be 4 p.length++(p++z0F (q1u (be 4 p.length++p))))++(be 4 p.length++b):=by simp
    rw[this];exact List.drop_left' (by simp[l,o];omega)
   rw[e,m,List.take_left' l,List.take_left' l]
 unfold q6X;rw[ξ v,j]
 congr 2
 rw[<-List.drop_drop,m];have u:(be 4 p.length++(p++(z0F (q1u (be 4 p.length++p))++(be 4 p.length++b)))).drop 4=p++(z0F (q1u (be 4 p.length++p))++(be 4 p.length++b)):=List.drop_left' l;rw[u];exact List.take_left' rfl
theorem z8o(s:List UInt8)(a:Nat)(h:s.length<a+12):q6X s a=none:=by
 unfold q6X isR;rw[ε (by omega)];simp
theorem z0Y : ∀(ps:List (List UInt8)) (pre:List UInt8) (f a:Nat),(∀p∈ps,p.length<=2000)->a=pre.length->ps.length<f->q6n f (pre++q5p ps) a=q1j a ps
 |[],pre,0,a,_,_,hf=>by simp at hf
 | [],pre,f+1,a,_,ha,_=>by
  unfold q6n;rw[z8o _ _ (by simp[q5p,ha])]
  rfl
 |p::r,pre,0,a,_,_,hf=>by simp at hf
 | p::r,pre,f+1,a,hp,ha,hf=>by
  have e:pre++q5p (p::r)=pre++q2v p++q5p r:=by simp[q5p]
  rw[e];unfold q6n;rw[z5i pre p (q5p r) (hp p (List.mem_cons_self)) ha];show _::q6n f (pre++q2v p++q5p r) (a+p.length+12)=_;rw[z0Y r (pre++q2v p) f _ (fun q hq=>hp q (List.mem_cons_of_mem _ hq)) (by simp[q1R,ha];omega) (by simp at hf;omega)]
  rfl
theorem y2U(ps:List (List UInt8)):12*ps.length<=(ps.map fun p=>p.length+12).sum:=by
 induction ps with
 |nil=>simp
 |cons p r ih=>simp only[List.map_cons,List.sum_cons,χ];omega
theorem z0A(n:Nat)(ps:List (List UInt8))(b: ∀p∈ps,p.length<=2000):q0z (q0b n ps) 12=q1j 12 ps:=by
 unfold q0z;refine z0Y ps (q3L n) _ 12 b (q3h n).symm ?_;have:=y2U ps;show _<(q0b n ps).length+1;rw[q1Y];unfold q0M;omega
theorem q7v : ∀(ps:List (List UInt8)) (p:List UInt8) (a:Nat),q1j a (ps++[p])=q1j a ps++[(a+(ps.map fun p=>p.length+12).sum,a+(ps.map fun p=>p.length+12).sum+p.length+12)]
 |[],p,a=>by simp[q1j]
 | q::r,p,a=>by
  rw[List.cons_append,q1j,q7v r p,q1j,List.cons_append];simp only[List.map_cons,List.sum_cons]
  congr 4<;>omega
theorem z4f : ∀(ps:List (List UInt8)) (a:Nat),z1W a (q1j a ps)=a+(ps.map fun p=>p.length+12).sum:=fun ps a=>by
 rcases List.eq_nil_or_concat ps with rfl|⟨r,p,rfl⟩
 ·rfl
 ·rw[List.concat_eq_append,q7v]
  unfold z1W;simp only[List.getLast?_append,List.getLast?_singleton,Option.some_or,Option.map_some,Option.getD_some,List.map_append,List.map_cons,List.map_nil,List.sum_append,List.sum_cons,List.sum_nil];omega
theorem q3I : ∀(ps:List (List UInt8)) (a:Nat),(q1j a ps).length=ps.length
 |[],_=>rfl
 |p::r,a=>by simp[q1j,q3I r]
theorem z8h(n:Nat)(l:List (List UInt8))(p:List UInt8)(r:List (List UInt8))(b:p.length<=2000):q6X (q0b n (l++p::r)) (q0M l)=some (p,q0M l+p.length+12):=by
 have e:q0b n (l++p::r)=q0b n l++q2v p++q5p r:=by simp[q0b,q5p]
 rw[e];exact z5i _ _ _ b (q1Y n l).symm
theorem z2w(a b:En)(w:World):Calls Tryz.prog 148 #[enV a,enV b] w fun e w'=>e= .returned (.bool (q0u a b))/\Ext w w':=by
 obtain⟨a1,d,j⟩:=a;obtain⟨b1,b2,b3⟩:=b;have l:=η (q7m w (.cells #[.int .u64 a1,.int .i64 d,.int .i64 j] 128) (.cells #[.int .u64 b1,.int .i64 b2,.int .i64 b3] 128));have m:Hd (q0u (a1,d,j) (b1,b2,b3)=if a1≠b1 then decide (a1<b1) else if d≠b2 then decide (d<b2) else decide (j<b3)):=η rfl;show Calls Tryz.prog 148 #[.agg #[.int .u64 a1,.int .i64 d,.int .i64 j],.agg #[.int .u64 b1,.int .i64 b2,.int .i64 b3]] w _;by_cases h1:a1=b1
 ·subst h1
  by_cases h2:d=b2
  ·subst h2
   go_enter Tryz.func148,Tryz.ntmps148;go_wp2_with fail;go_ret;exact⟨rb (by rw[m.o];simp),l.o⟩
  ·have q:(d !=b2)=true:=by simpa using h2
   go_enter Tryz.func148,Tryz.ntmps148;go_wp2_with fail;go_ret;exact⟨rb (by rw[m.o];simp[h2]),l.o⟩
 ·have q:(a1 !=b1)=true:=by simpa using h1
  go_enter Tryz.func148,Tryz.ntmps148;go_wp2_with fail;go_ret;exact⟨rb (by rw[m.o];simp[h1]),l.o⟩
theorem z1A(l:k+1<L.length):q2n (L.take (k+2))=(q2n (L.take (k+1))&&q0u (L.getD k en0) (L.getD (k+1) en0)):=by
 rw[Bool.eq_iff_iff,Ξ,q2o,q2o];have j:L.take (k+2)=L.take (k+1)++[L.getD (k+1) en0]:=q0Y L en0 (k+1) l;have d:L.take (k+1)=L.take k++[L.getD k en0]:=q0Y L en0 k (by omega);rw[j];unfold q1D;rw[List.pairwise_append]
 constructor
 ·rintro⟨h1,_,h3⟩
  exact⟨h1,h3 _ (by rw[d];simp) _ (by simp)⟩
 ·rintro⟨h1,h2⟩
  refine⟨h1,by simp,fun x b y m=>?_⟩;obtain rfl:=List.mem_singleton.1 m;rw[d] at b h1;rcases List.mem_append.1 b with b|b
  ·exact q1d ((List.pairwise_append.1 h1).2.2 x b _ (by simp)) h2
  ·obtain rfl:=List.mem_singleton.1 b;exact h2
theorem z4s(b:k+1<L.length)(h:q0u (L.getD k en0) (L.getD (k+1) en0)=false):q2n L=false:=by
 cases hs:q2n L with
 |false=>rfl
 | true=>
  rw[q2o] at hs;have h1:q1D (L.take (k+2)):=hs.sublist (List.take_sublist _ _);rw[<-q2o,z1A b,h,Bool.and_false] at h1
  cases h1
theorem z6R{ao:Option Addr}{n cap:Nat}(w:World)(m:Ens w ao n cap L):Calls Tryz.prog 254 #[.slice ao n cap] w fun e w'=>e= .returned (.bool (q2n L))/\Ext w w':=by
 have G:=η m;have b1:=m.fits;have b2:=m.bound;have j:=η m.len;clear m;go_enter Tryz.func254,Tryz.ntmps254;go_wp2_with fail
 go_loopw [3] (fun i W=> ∃k:Nat,k+1<=max n 1/\i= .int .i64 ((k:Int)+1)/\q2n (L.take (k+1))=true/\Ext w W) (fun i _=>n-(intOf i).toNat)
 case atStart=>
  refine⟨0,by omega,rfl,?_,Ext.refl _⟩
  cases L with
  |nil=>rfl
  |cons a r=>rfl
 case round=>
  obtain⟨k,Y,rfl,C,B⟩:=hrel;have R:=η C;have D:=η B;by_cases u:k+1<n
  ·have U:decide (((k:Int)+1)<(n:Int))=true:=by simp;omega
   obtain⟨b,off,rfl,I,J,M⟩:=(G.o.ext B).at (i:=k) (by omega);obtain⟨_,_,S,N,O,Q⟩:=(G.o.ext B).at (i:=k+1) u
   cases S;have E:=η (z1A (L:=L) (k:=k) (by rw[j.o];exact u));have v:=η (z4s (L:=L) (k:=k) (by rw[j.o];exact u));obtain⟨x,m⟩: ∃x,L.getD k en0=x:=⟨_,rfl⟩
   obtain⟨y,F⟩: ∃y,L.getD (k+1) en0=y:=⟨_,rfl⟩
   rw[m] at I J M;rw[F] at N O Q;rw[m,F] at E v;obtain⟨q,hq⟩: ∃q,q0u x y=q:=⟨_,rfl⟩
   have l:=η (fun W=>z2w x y W);rw[hq] at l E v;obtain⟨x1,x2,x3⟩:=x;obtain⟨y1,y2,y3⟩:=y;unfold enV ec at l;have Z:=q0D I;have u1:=q0D J;have u2:=q0D M;have v0:=q0D N;have v1:=q0D O;have v2:=q0D Q;have V:IntKind.i64.wrap ((k:Int)+1-1)=(k:Int):=by rw[ν];omega
   have d:IntKind.i64.wrap (k:Int)=(k:Int):=by rw[ν];omega
   clear m F C B hq
   cases q with
   | true=>
    go_wp2_with fail;refine q0F (by kernel_rfl) (by kernel_rfl) ?_
    repeat (go_big_quiet_step (first|(go_at_call 148;exact Calls.quiet_ext (l.o _))))
    refine wpQuiet_nil ?_;intro X d;have s:=η (D.o.trans d);clear d;go_wp2_with fail
    go_roundw
    case rel=>exact⟨k+1,by omega,by go_num,by rw[E.o,R.o];rfl,s.o⟩
    case measure=>simp[intOf];omega
   | false=>
    go_wp2_with fail;refine q0F (by kernel_rfl) (by kernel_rfl) ?_
    repeat (go_big_quiet_step (first|(go_at_call 148;exact Calls.quiet_ext (l.o _))))
    refine wpQuiet_nil ?_;intro X d;have s:=η (D.o.trans d);clear d;go_wp2_with fail;go_ret;exact⟨rb (v.o (by first|rfl|trivial)),s.o⟩
  ·have U:decide (((k:Int)+1)<(n:Int))=false:=by simp;omega
   have v:Hd (q2n L=true):=η (by rwa [Δ (by rw[j.o];omega)] at C);clear C B;go_wp2_with fail;go_ret;exact⟨rb v.o,D.o⟩
theorem q3U(s:List UInt8)(m j:Int)(a b:Nat)(l:m=(a:Int))(d:j=(b:Int))(h:a<=b)(h2:b<=s.length){X:List UInt8}(o:(s.take b).drop a=X):
  ∀w,(Instr.slice 9 (.string ⟨s.toArray⟩) (some (.int .i64 m)) (some (.int .i64 j)) none).run Tryz.prog w= .ok (.string ⟨X.toArray⟩) w:=fun w=>by
 have h3:=run_slice_string (P:=Tryz.prog) w 9 ⟨s.toArray⟩ .i64 .i64 m j Tryz.underlying9 (by omega) (by omega) (by simp[ByteArray.size];omega);rw[h3,l,d,<-o];show _=Result.ok (Value.string ⟨((s.take b).drop a).toArray⟩) w;rw[<-q3n];rfl
theorem q5i(s:List UInt8)(j:Int)(b:Nat)(d:j=(b:Int))(h2:b<=s.length):
  ∀w,(Instr.slice 9 (.string ⟨s.toArray⟩) none (some (.int .i64 j)) none).run Tryz.prog w= .ok (.string ⟨(s.take b).toArray⟩) w:=fun w=>by
 have h3:=run_slice_string_to_if (P:=Tryz.prog) w 9 ⟨s.toArray⟩ .i64 j Tryz.underlying9;have l:(ByteArray.size ⟨s.toArray⟩)=s.length:=by simp[ByteArray.size]
 rw[h3,l,ξ (by omega),d];show Result.ok (Value.string ((⟨s.toArray⟩:ByteArray).extract 0 b)) w=_;rw[q3n];rfl
theorem q3p(s:List UInt8)(d:Int)(a:Nat)(b:d=(a:Int))(h2:a<=s.length):
  ∀w,(Instr.slice 9 (.string ⟨s.toArray⟩) (some (.int .i64 d)) none none).run Tryz.prog w= .ok (.string ⟨(s.drop a).toArray⟩) w:=fun w=>by
 have h3:=run_slice_string_from_if (P:=Tryz.prog) w 9 ⟨s.toArray⟩ .i64 d Tryz.underlying9;have j:(ByteArray.size ⟨s.toArray⟩)=s.length:=by simp[ByteArray.size]
 rw[h3,j,ξ (by omega),b];show Result.ok (Value.string ((⟨s.toArray⟩:ByteArray).extract a s.length)) w=_;rw[q3n,List.take_length]
theorem z9i(k:Nat)(N:Int)(w:World)(q:N=(k:Int))(r:k<=9223372036854775807):
  Calls Tryz.prog 137 #[.int .i64 N] w fun e w'=>e= .returned (.string ⟨(be 4 k).toArray⟩)/\Ext w w':=by
 have m:0<=N:=by omega
 have h1:N<=9223372036854775807:=by omega
 have b:N.toNat=k:=by omega
 have l:=η b;clear q b;go_enter Tryz.func137,Tryz.ntmps137;go_wp2_with fail;refine(q8G N 4 _ (by omega) (by omega) m (by omega)).mono ?_;rintro e w1 ⟨rfl,d⟩;have j:=η d;clear d;rw[l.o];go_wp2_with fail;go_ret;exact⟨rfl,j.o⟩
theorem z9a(p:List UInt8)(w:World)(j:2000<p.length)(d:p.length<=9223372036854775807):
  Calls Tryz.prog 88 #[.string ⟨p.toArray⟩] w fun e w'=>e= .returned (.tuple #[.string ⟨#[]⟩,.int .i64 3])/\w=w':=by
 have b:decide ((2000:Int)<(p.length:Int))=true:=by simp;omega
 go_enter Tryz.func88,Tryz.ntmps88;go_wp2_with fail;go_ret2;exact⟨rfl,rfl⟩
theorem y1g(p:List UInt8)(w:World)(y:p.length<=2000):
  Calls Tryz.prog 88 #[.string ⟨p.toArray⟩] w fun e w'=>e= .returned (.tuple #[.string ⟨(q2v p).toArray⟩,.int .i64 0])/\Ext w w':=by
 have v:decide ((2000:Int)<(p.length:Int))=false:=by simp;omega
 obtain⟨n,x⟩: ∃n:Int,n=(p.length:Int):=⟨_,rfl⟩
 have s:Hd (q2v p=q1S (be 4 p.length++p)++be 4 p.length):=η rfl;have d:(be 4 p.length).length=4:=q0J 4 _;have B:(q1S (be 4 p.length++p)).length=p.length+8:=by simp[q0v,d];omega
 have q:=η (fun W=>z9i p.length (p.length:Int) W rfl (by omega));have u:=η (fun W=>z0y (be 4 p.length++p) W (by simp[d];omega));go_enter Tryz.func88,Tryz.ntmps88;go_wp2_with fail;refine(q.o _).mono ?_;rintro e w1 ⟨rfl,b⟩;have r:=η b;clear b;generalize be 4 p.length=X at*;go_wp2_with fail;have m:=u.o w1;generalize q1S (X++p)=Y at*;rw[q2X];refine m.mono ?_;rintro e C ⟨rfl,b⟩;have j:=η (r.o.trans b);clear b;go_wp2_with fail;refine(q.o _).mono ?_;rintro e D ⟨rfl,b⟩;have l:=η (j.o.trans b);clear b;go_wp2_with fail;go_ret2;exact⟨by rw[s.o,q2X];rfl,l.o⟩
def z2r(s:List UInt8)(a:Nat):Value:=match q6X s a with
 |none=> .tuple #[.string ⟨#[]⟩,.int .i64 0,.bool false]
 |some (p,b)=> .tuple #[.string ⟨p.toArray⟩,.int .i64 b,.bool true]
theorem q9E{s:List UInt8}(h:isR s a=false):z2r s a= .tuple #[.string ⟨#[]⟩,.int .i64 0,.bool false]:=by unfold z2r q6X;rw[h];rfl
theorem q6g(s:List UInt8)(a k:Nat):(s.take (a+k)).drop a=(s.drop a).take k:=by rw[List.drop_take];congr 1;omega
theorem z1f(s:List UInt8)(a:Nat)(w:World)(hl:s.length<=4611686018427387903)(ha:a<=4611686018427387903):
  Calls Tryz.prog 109 #[.string ⟨s.toArray⟩,.int .i64 (a:Int)] w fun e w'=>e= .returned (z2r s a)/\Ext w w':=by
 by_cases h1:s.length<a+12
 ·have u:Hd (z2r s a= .tuple #[.string ⟨#[]⟩,.int .i64 0,.bool false]):=η (q9E (by unfold isR;rw[ε (by omega)];rfl))
  have hd:decide (((s.length:Int)-12)<(a:Int))=true:=by simp;omega
  go_enter Tryz.func109,Tryz.ntmps109;go_wp2_with fail;go_ret3;rw[u.o];exact⟨rfl,Ext.refl _⟩
 have b0:decide (((s.length:Int)-12)<(a:Int))=false:=by simp;omega
 obtain⟨X,E⟩: ∃X,(s.drop a).take 4=X:=⟨_,rfl⟩
 have I:X.length=4:=by rw[<-E];simp;omega
 have f0:=q3U s (a:Int) ((a:Int)+4) a (a+4) rfl (by omega) (by omega) (by omega) (by rw[q6g,E]);obtain⟨n,F⟩: ∃n,q4z s a=n:=⟨_,rfl⟩
 have x:q1V (X.take 8)=n:=by rw[Δ (by omega),<-E,<-F];rfl
 have c0:n<4294967296:=by rw[<-x];have:=q2W (X.take 8);rw[Θ,I] at this;exact this
 have C:=η (fun W=>z1d X W (by omega));rw[x] at C;by_cases h2:2000<n\/s.length<a+n+12
 ·have u:Hd (z2r s a= .tuple #[.string ⟨#[]⟩,.int .i64 0,.bool false]):=η (q9E (by
   unfold isR;rw[F];rcases h2 with h|h
   ·rw[ε (p:=n<=2000) (by omega)];simp
   ·rw[ε (p:=a+n+12<=s.length) (by omega)];simp))
  clear E F x I;by_cases h3:2000<n
  ·have M:decide ((2000:Int)<(n:Int))=true:=by simp;omega
   go_enter Tryz.func109,Tryz.ntmps109;go_wp2_with fail;refine(C.o _).mono ?_;rintro e w1 ⟨rfl,l⟩;have v:=η l;clear l;go_wp2_with fail;go_ret3;rw[u.o];exact⟨rfl,v.o⟩
  ·have h4:s.length<a+n+12:=by omega
   have M:decide ((2000:Int)<(n:Int))=false:=by simp;omega
   have S:decide ((s.length:Int)-12-(a:Int)<(n:Int))=true:=by simp;omega
   go_enter Tryz.func109,Tryz.ntmps109;go_wp2_with fail;refine(C.o _).mono ?_;rintro e w1 ⟨rfl,l⟩;have v:=η l;clear l;go_wp2_with fail;go_ret3;rw[u.o];exact⟨rfl,v.o⟩
 have h5:n<=2000:=by omega
 have h6:a+n+12<=s.length:=by omega
 have M:decide ((2000:Int)<(n:Int))=false:=by simp;omega
 have S:decide ((s.length:Int)-12-(a:Int)<(n:Int))=false:=by simp;omega
 obtain⟨Y,J⟩: ∃Y,(s.drop a).take (n+8)=Y:=⟨_,rfl⟩
 have B:Y.length=n+8:=by rw[<-J];simp;omega
 have g0:=q3U s (a:Int) ((a:Int)+(n:Int)+12-4) a (a+(n+8)) rfl (by omega) (by omega) (by omega) (by rw[q6g,J]);obtain⟨Z,R⟩: ∃Z,(s.drop (a+n+8)).take 4=Z:=⟨_,rfl⟩
 have h0:=q3U s ((a:Int)+(n:Int)+12-4) ((a:Int)+(n:Int)+12) (a+n+8) (a+n+8+4) (by omega) (by omega) (by omega) (by omega) (by rw[q6g,R]);have D:=η (fun W=>z5x Y W (by omega));have V:isR s a=(q2V Y&&decide (Z=X)):=by
  unfold isR;rw[F,ζ (p:=a+12<=s.length) (by omega),ζ h5,ζ h6,J,R,E];simp
 have y:q2V Y=true->(q2G Y).drop 4=(s.drop (a+4)).take n:=fun h=>by
  unfold q2G;rw[ξ h,B,<-J,List.take_take,List.drop_take,List.drop_drop]
  congr 1;omega
 have G:q2V Y=true->(q2G Y).length=n+4:=fun h=>by
  unfold q2G;rw[ξ h,Θ,B];omega
 have U:q6X s a=if isR s a then some ((s.drop (a+4)).take n,a+n+12) else none:=by unfold q6X;rw[F]
 have N:=η V;have HP:=η y;have O:=η G;have HS:=η U;clear E F x R J B V y G U h2 h1;generalize q2G Y=T at*
 cases l:q2V Y with
 | false=>
  have u:Hd (z2r s a= .tuple #[.string ⟨#[]⟩,.int .i64 0,.bool false]):=η (q9E (by rw[N.o,l];rfl));rw[l] at D;go_enter Tryz.func109,Tryz.ntmps109;go_wp2_with fail;refine(C.o _).mono ?_;rintro e w1 ⟨rfl,b⟩;have v:=η b;clear b;go_wp2_with fail;refine(D.o _).mono ?_;rintro e w2 ⟨rfl,d⟩;have m:=η (v.o.trans d);clear d;go_wp2_with fail;refine q0F (by kernel_rfl) (by kernel_rfl) ?_
  repeat (go_big_quiet_step (fail))
  refine wpQuiet_nil ?_;intro w3 j;have q:=η (m.o.trans j);clear j;go_wp2_with fail;go_ret3;rw[u.o];exact⟨rfl,q.o⟩
 | true =>
  by_cases r:Z=X
  ·have u:Hd (z2r s a= .tuple #[.string ⟨(T.drop 4).toArray⟩,.int .i64 ((a:Int)+(n:Int)+12),.bool true]):=η (by
    unfold z2r;rw[HS.o,N.o,l,r,HP.o l]
    simp)
   have Q:=O.o l;have e0: ∀w,(Instr.slice 9 (.string ⟨T.toArray⟩) (some (.int .i64 4)) none none).run Tryz.prog w= .ok (.string ⟨(T.drop 4).toArray⟩) w:=fun w=>by
    exact q3p T 4 4 rfl (by omega) w
   rw[l] at D;generalize T.drop 4=T4 at*;subst r;go_enter Tryz.func109,Tryz.ntmps109;go_wp2_with fail;refine(C.o _).mono ?_;rintro e w1 ⟨rfl,b⟩;have v:=η b;clear b;go_wp2_with fail;refine(D.o _).mono ?_;rintro e w2 ⟨rfl,d⟩;have m:=η (v.o.trans d);clear d;go_wp2_with fail;refine q0F (by kernel_rfl) (by kernel_rfl) ?_
   repeat (go_big_quiet_step (fail))
   refine wpQuiet_nil ?_;intro w3 j;have q:=η (m.o.trans j);clear j;go_wp2_with fail;go_ret3;rw[u.o];exact⟨rfl,q.o⟩
  ·have u:Hd (z2r s a= .tuple #[.string ⟨#[]⟩,.int .i64 0,.bool false]):=η (q9E (by rw[N.o,ε r,Bool.and_false]))
   have d0:(Z==X)=false:=by simpa using r
   have a0:(Z !=X)=true:=by simpa using r
   rw[l] at D;go_enter Tryz.func109,Tryz.ntmps109;go_wp2_with fail;refine(C.o _).mono ?_;rintro e w1 ⟨rfl,b⟩;have v:=η b;clear b;go_wp2_with fail;refine(D.o _).mono ?_;rintro e w2 ⟨rfl,d⟩;have m:=η (v.o.trans d);clear d;go_wp2_with fail;refine q0F (by kernel_rfl) (by kernel_rfl) ?_
   repeat (go_big_quiet_step (fail))
   refine wpQuiet_nil ?_;intro w3 j;have q:=η (m.o.trans j);clear j;go_wp2_with fail;go_ret3;rw[u.o];exact⟨rfl,q.o⟩
theorem z5L(n:Nat)(w:World)(x:n<200):
  Calls Tryz.prog 145 #[.int .i64 (n:Int)] w fun e w'=>e= .returned (.string ⟨(q3L n).toArray⟩)/\Ext w w':=by
 have v:decide ((200:Int)<=(n:Int))=false:=by simp;omega
 have r:Hd (q3L n=q1S ([99,104,110,107]++be 4 n)):=η rfl;have m:=η (fun W=>q8G (n:Int) 4 W (by omega) (by omega) (by omega) (by omega));have s:=η (fun W=>z0y ([99,104,110,107]++be 4 n) W (by simp[q0J]));have u:(be 4 n).length=4:=q0J 4 _;rw[Int.toNat_natCast] at m;generalize q1S ([99,104,110,107]++be 4 n)=Y at*;generalize be 4 n=X at*;go_enter Tryz.func145,Tryz.ntmps145;go_wp2_with fail;refine(m.o _).mono ?_;rintro e w1 ⟨rfl,d⟩;have q:=η d;clear d;go_wp2_with fail;have j:=q2X [99,104,110,107] X;have b:({data:=#[99,104,110,107]}:ByteArray)++{data:=X.toArray}=⟨([99,104,110,107]++X).toArray⟩:=j;rw[b];refine(s.o _).mono ?_;rintro e y ⟨rfl,d⟩;have l:=η (q.o.trans d);clear d;go_wp2_with fail;go_ret;exact⟨by rw[r.o];rfl,l.o⟩
theorem y4e(N:Int)(p:List UInt8)(w:World)(b:0<=N)(h1:N<=4096)(m:p.length<=2000):
  Calls Tryz.prog 89 #[.int .i64 N,.string ⟨p.toArray⟩] w fun e w'=>e= .returned (.bool (decide ((p.length:Int)+12<=4096-N)))/\w=w':=by
 have d:decide ((0:Int)<=N)=true:=by simpa using b
 have j:decide (N<=(4096:Int))=true:=by simpa using h1
 have l:decide ((p.length:Int)<=(2000:Int))=true:=by simp;omega
 go_enter Tryz.func89,Tryz.ntmps89;go_wp2_with fail;go_ret;exact⟨rfl,rfl⟩
def y0O(s p:List UInt8):Bool:=decide (p.length<=s.length)&&(s.take p.length==p)
theorem z2z(s p:List UInt8)(w:World)(j:s.length<=9223372036854775807)(l:p.length<=9223372036854775807):
  Calls Tryz.prog 205 #[.string ⟨s.toArray⟩,.string ⟨p.toArray⟩] w fun e w'=>e= .returned (.bool (y0O s p))/\w=w':=by
 by_cases h:p.length<=s.length
 ·have b:Hd (y0O s p=(s.take p.length==p)):=η (by unfold y0O;rw[ζ h,Bool.true_and])
  have d:decide ((p.length:Int)<=(s.length:Int))=true:=by simp;omega
  go_enter Tryz.func205,Tryz.ntmps205;go_wp2_with fail;go_ret;rw[b.o];exact⟨rfl,rfl⟩
 ·have b:Hd (y0O s p=false):=η (by unfold y0O;rw[ε h,Bool.false_and])
  have d:decide ((p.length:Int)<=(s.length:Int))=false:=by simp;omega
  go_enter Tryz.func205,Tryz.ntmps205;go_wp2_with fail;go_ret;rw[b.o];exact⟨rfl,rfl⟩
theorem z4Q(s p:List UInt8)(w:World)(b:s.length<=9223372036854775807)(d:p.length<=9223372036854775807):
  Calls Tryz.prog 155 #[.string ⟨s.toArray⟩,.string ⟨p.toArray⟩] w fun e w'=>e= .returned (.bool (y0O s p))/\w=w':=by
 go_enter Tryz.func155,Tryz.ntmps155;go_wp2_with fail;refine(z2z s p _ b d).mono ?_;rintro e w1 ⟨rfl,rfl⟩;go_wp2_with fail;go_ret;exact⟨rfl,rfl⟩
theorem q4r : ∀a b:List UInt8,Op.bytesLess a b=bytesBefore a b
 |[],[]=>rfl
 |[],_::_=>rfl
 |_::_,[]=>rfl
 |a::x,b::y=>by unfold Op.bytesLess bytesBefore;rw[q4r x y]
abbrev Cks :=List (List (List UInt8))
def q4w :Nat->Cks->List (List UInt8×List UInt8)
 |_,[]=>[]
 |i,ps::r=>(q0C 99 (i:Int),q0b i ps)::q4w (i+1) r
theorem q6E : ∀(C:Cks) (i:Nat),(q4w i C).length=C.length
 |[],_=>rfl
 |ps::r,i=>by simp[q4w,q6E r]
theorem q3q : ∀(C D:Cks) (i:Nat),q4w i (C++D)=q4w i C++q4w (i+C.length) D
 |[],D,i=>rfl
 | ps::r,D,i=>by
  rw[List.cons_append,q4w,q3q r D (i+1),q4w,List.cons_append,χ]
  congr 3;omega
theorem q4I : ∀{C:Cks} {i:Nat} {x:List UInt8×List UInt8},x∈q4w i C-> ∃k,i<=k/\k<i+C.length/\x.1=q0C 99 (k:Int)
 |[],_,_,h=>by cases h
 | ps ::r,i,x,h=>by
  rcases List.mem_cons.1 h with rfl|h
  ·exact⟨i,ι _,by simp,rfl⟩
  ·obtain⟨k,h1,h2,h3⟩:=q4I h
   exact⟨k,by omega,by simp;omega,h3⟩
theorem q3i(n:Int):(q0C 99 n).length<=9223372036854775807:=by
 by_cases h:0<=n/\n<=999999
 ·rw[q0Z h,χ,q0n];decide
 ·rw[q6z h];decide
theorem y0d(b:i<=999999)(d:k<=999999)(h:i≠k):q0C 99 (i:Int)≠q0C 99 (k:Int):=fun e=>by
 have:=y1W 99 (i:Int) (k:Int) (by omega) (by omega);rw[e,beq_self_eq_true] at this;have:=of_decide_eq_true this.symm;omega
theorem q7j(b:i<=999999)(d:k<=999999)(h:i<k):bytesBefore (q0C 99 (i:Int)) (q0C 99 (k:Int))=true:=by
 have h1:=z7F 99 (i:Int) (k:Int) (by omega) (by omega);have h2:decide ((i:Int)<(k:Int))=true:=by simp;omega
 rw[h2] at h1;rw[<-q4r];exact h1
theorem q6c{C:Cks}(b:k<=999999)(l:i+C.length<=999999)(h: ∀j,i<=j->j<i+C.length->j≠k): ∀y∈q4w i C,Prod.fst y≠q0C 99 (k:Int):=fun y d=>by
 obtain⟨j,h1,h2,h3⟩:=q4I d;rw[h3];exact y0d (by omega) b (h j h1 h2)
theorem z2e{C:Cks}(m:C.length<=200)(d:C[k]? =some ps):q0H Prod.fst (q0C 99 (k:Int)) (q4w 0 C)=some (q0C 99 (k:Int),q0b k ps):=by
 obtain⟨l,rfl⟩:=List.getElem?_eq_some_iff.1 d;have e:C=C.take k++C[k]::C.drop (k+1):=by
  rw[List.getElem_cons_drop];exact(List.take_append_drop _ _).symm
 have b:(C.take k).length=k:=by simp;omega
 conv=>lhs;rw[e]
 rw[q3q,b,Nat.zero_add,q0q]
 ·rw[q4w];unfold q0H;rw[List.find?_cons_of_pos (by simp)]
 ·exact q6c (by omega) (by rw[b];omega) fun j _ h2=>by rw[b] at h2;omega
theorem z2f{C:Cks}(d:C.length<=200)(l:C.length<=k)(b:k<=999999):q0H Prod.fst (q0C 99 (k:Int)) (q4w 0 C)=none:=
 q0f (q6c b (by omega) fun j _ h2=>by omega)
theorem y0b{C:Cks}(m:C.length<=200):q0H Prod.fst [110,101,119] (q4w 0 C)=none:=q0f fun y l e=>by
 obtain⟨j,h1,h2,h3⟩:=q4I l;rw[e] at h3;have h4:j<200:=by omega
 rw[q0Z (by omega)] at h3;have b:=congrArg List.length h3;have d:(99::q5w 6 ((j:Int)).toNat).length=7:=by simp[q0n]
 rw[d] at b
 cases b
theorem z0W : ∀(C:Cks) (i:Nat),(q4w i C).map Prod.fst=(List.range' i C.length).map fun k:Nat=>q0C 99 (k:Int)
 |[],_=>rfl
 |ps::r,i=>by rw[q4w,List.map_cons,z0W r,χ,List.range'_succ,List.map_cons]
theorem q1b(a b:List (List UInt8×List UInt8)):q1s (a++b)=q1s a+q1s b:=by simp[q1s,q6B,List.sum_append]
theorem z3m(x:List UInt8×List UInt8):q1s [x]=x.2.length:=by simp[q1s,q6B]
theorem z7v{D:Cks}(p:List UInt8)(b:D.length<=200):q1X Prod.fst (q0C 99 (D.length:Int)) (fun x=>(x.1,x.2++q2v p)) (q4w 0 (D++[ps]))=q4w 0 (D++[ps++[p]]):=by
 rw[q3q,q3q,q5n,q3H,Nat.zero_add]
 ·congr 1
  show q1X Prod.fst (q0C 99 (D.length:Int)) _ [(q0C 99 (D.length:Int),q0b D.length ps)]=[(q0C 99 (D.length:Int),q0b D.length (ps++[p]))];rw[z4E];unfold q1X;simp
 ·exact q6c (by omega) (by omega) fun j _ h2=>by omega
theorem z6l{C:Cks}(p:List UInt8)(b:C.length<=200):q1X Prod.fst (q0C 99 (C.length:Int)) (fun x=>(x.1,x.2++(q3L C.length++q2v p))) (q4w 0 C++[(q0C 99 (C.length:Int),[])])=q4w 0 (C++[[p]]):=by
 rw[q3q,q5n,q3H,Nat.zero_add]
 ·congr 1
  show q1X Prod.fst (q0C 99 (C.length:Int)) _ [(q0C 99 (C.length:Int),[])]=[(q0C 99 (C.length:Int),q0b C.length [p])];rw[z6i];unfold q1X;simp
 ·exact q6c (by omega) (by omega) fun j _ h2=>by omega
def q1B(C:Cks):Nat:=(C.map q0M).sum
theorem q6d : ∀(C:Cks) (i:Nat),q1s (q4w i C)=q1B C
 |[],_=>rfl
 | ps::r,i=>by
  have e:q4w i (ps::r)=[(q0C 99 (i:Int),q0b i ps)]++q4w (i+1) r:=rfl;rw[e,q1b,z3m,q6d r];simp[q1B,q1Y]
structure okC(C:Cks):Prop where
 few:C.length<=200
 size: ∀ps∈C,q0M ps<=4096
 pay: ∀ps∈C,∀p∈ps,p.length<=2000
 full: ∀ps∈C,ps≠[]
structure Oth where
 X:List (List UInt8×List UInt8)
 Z:List (List UInt8×List UInt8)
def noO :Oth:=⟨[],[]⟩
structure okOth(E:Oth):Prop where
 before: ∀y∈E.X,∀k:Nat,k<=999999->bytesBefore y.1 (q0C 99 (k:Int))=true
 behind: ∀y∈E.Z,∀k:Nat,k<=999999->bytesBefore (q0C 99 (k:Int)) y.1=true
 new: ∀y,y∈E.X\/y∈E.Z->y.1≠[110,101,119]
 kind: ∀y,y∈E.X\/y∈E.Z->(q1K y.1).2.2=true->(q1K y.1).1≠99
 len: ∀y,y∈E.X\/y∈E.Z->y.1.length<=1000
 few:E.X.length+E.Z.length<=190
theorem okOth.no :okOth noO:=⟨(fun _ h=>by cases h),(fun _ h=>by cases h),(fun _ h=>by rcases h with h|h<;>cases h),(fun _ h=>by rcases h with h|h<;>cases h),(fun _ h=>by rcases h with h|h<;>cases h),υ _⟩
def q2s(E:Oth):Nat:=q1s E.X+q1s E.Z
def q4D(E:Oth)(C:Cks):List (List UInt8×List UInt8):=E.X++(q4w 0 C++E.Z)
def z6m(E:Oth)(C:Cks):List (List UInt8×List UInt8):=E.X++(q4w 0 C++((q0C 99 (C.length:Int),[])::E.Z))
theorem q8g(E:Oth)(C:Cks):(q4D E C).length=E.X.length+C.length+E.Z.length:=by simp[q4D,q6E];omega
theorem z5K{a b:List UInt8}(h:bytesBefore a b=true):a≠b:=fun e=>by rw[e,WideAt.bytes_irrefl] at h;cases h
theorem okOth.neX{E:Oth}(h:okOth E)(b:k<=999999): ∀y∈E.X,Prod.fst y≠q0C 99 (k:Int):=fun y d=>z5K (h.before y d k b)
theorem okOth.neZ{E:Oth}(h:okOth E)(b:k<=999999): ∀y∈E.Z,Prod.fst y≠q0C 99 (k:Int):=fun y d e=>z5K (h.behind y d k b) e.symm
theorem q1g{k:α->List UInt8}{nm:List UInt8}{a b:List α}(h: ∀y∈b,k y≠nm):q0H k nm (a++b)=q0H k nm a:=by
 unfold q0H;rw[List.find?_append];have:List.find? (fun y=>k y==nm) b=none:=q0f h;rw[this];simp
theorem q4R{E:Oth}(b:okOth E){C:Cks}(j:C.length<=200)(d:C[k]? =some ps):q0H Prod.fst (q0C 99 (k:Int)) (q4D E C)=some (q0C 99 (k:Int),q0b k ps):=by
 have l:=(List.getElem?_eq_some_iff.1 d).1;unfold q4D;rw[q0q (b.neX (by omega)),q1g (b.neZ (by omega))];exact z2e j d
theorem z7u{E:Oth}(d:okOth E){C:Cks}(j:C.length<=200)(l:C.length<=k)(b:k<=999999):q0H Prod.fst (q0C 99 (k:Int)) (q4D E C)=none:=by
 unfold q4D;rw[q0q (d.neX b),q1g (d.neZ b)];exact z2f j l b
theorem y0a{E:Oth}(d:okOth E){C:Cks}(j:C.length<=200):q0H Prod.fst [110,101,119] (q4D E C)=none:=by
 unfold q4D;rw[q0q fun y b=>d.new y (.inl b),q1g fun y b=>d.new y (.inr b)];exact y0b j
theorem q8h(E:Oth)(C:Cks):q1s (q4D E C)=q2s E+q1B C:=by
 unfold q4D q2s;rw[q1b,q1b,q6d];omega
theorem z7x(E:Oth)(C:Cks):q1s (z6m E C)=q2s E+q1B C:=by
 have e:z6m E C=E.X++(q4w 0 C++([(q0C 99 (C.length:Int),[])]++E.Z)):=rfl;rw[e,q1b,q1b,q1b,q6d,z3m];unfold q2s;simp;omega
theorem z7t{E:Oth}(b:okOth E){D:Cks}(p:List UInt8)(d:D.length<=200):q1X Prod.fst (q0C 99 (D.length:Int)) (fun x=>(x.1,x.2++q2v p)) (q4D E (D++[ps]))=q4D E (D++[ps++[p]]):=by
 unfold q4D;rw[q5n,q5n,q3H (b.neX (by omega)),q3H (b.neZ (by omega)),z7v p d]
theorem q9J{k:α->List UInt8}{x:α}{b:List α}: ∀{a:List α},(∀y∈a,bytesBefore (k y) (k x)=true)->q2F k x (a++b)=a++q2F k x b
 |[],_=>rfl
 | y ::r,h=>by
  have h1:=h y (List.mem_cons_self);have h2:¬bytesBefore (k x) (k y)=true:=fun h3=>by
   have:=WideShapes.bytes_trans _ _ _ h1 h3;rw[WideAt.bytes_irrefl] at this
   cases this
  rw[List.cons_append,q2F,κ h2,q9J fun z d=>h z (List.mem_cons_of_mem _ d)]
  rfl
theorem z7B{k:α->List UInt8}{x:α}: ∀{b:List α},(∀y∈b,bytesBefore (k x) (k y)=true)->q2F k x b=x::b
 |[],_=>rfl
 |y::r,h=>by rw[q2F,ξ (h y (List.mem_cons_self))]
theorem y0Z{E:Oth}(d:okOth E){C:Cks}(l:C.length<=200):q2F Prod.fst (q0C 99 (C.length:Int),[]) (q4D E C)=z6m E C:=by
 unfold q4D z6m;rw[q9J fun y b=>d.before y b _ (by omega),q9J fun y b=>?_,z7B fun y b=>d.behind y b _ (by omega)];obtain⟨j,h1,h2,h3⟩:=q4I b;rw[h3];exact q7j (by omega) (by omega) (by omega)
theorem z7w{E:Oth}(b:okOth E){C:Cks}(d:C.length<=200):q0H Prod.fst (q0C 99 (C.length:Int)) (z6m E C)=some (q0C 99 (C.length:Int),[]):=by
 unfold z6m;rw[q0q (b.neX (by omega)),q0q (q6c (by omega) (by omega) fun j _ h2=>by omega)];unfold q0H;rw[List.find?_cons_of_pos (by simp)]
theorem z6j{E:Oth}(b:okOth E){C:Cks}(p:List UInt8)(d:C.length<=200):q1X Prod.fst (q0C 99 (C.length:Int)) (fun x=>(x.1,x.2++(q3L C.length++q2v p))) (z6m E C)=q4D E (C++[[p]]):=by
 have e:z6m E C=E.X++((q4w 0 C++[(q0C 99 (C.length:Int),[])])++E.Z):=by simp[z6m]
 rw[e];unfold q4D;rw[q5n,q5n,q3H (b.neX (by omega)),q3H (b.neZ (by omega)),z6l p d]
theorem z6k(E:Oth)(C:Cks):(q4D E C).map Prod.fst=E.X.map Prod.fst++((List.range C.length).map (fun k:Nat=>q0C 99 (k:Int))++E.Z.map Prod.fst):=by
 unfold q4D;rw[List.map_append,List.map_append,z0W,List.range_eq_range']
structure Lgd(E:Oth)(σ:DM)(c s:Int)(C:Cks):Prop where
 pl:Pl σ (c+(q2s E:Int)) s (q4D E C)
 ok:okC C
 oth:okOth E
theorem okC.nil :okC []:=⟨υ _,(fun _ h=>by cases h),(fun _ h=>by cases h),(fun _ h=>by cases h)⟩
theorem okC.grow{D:Cks}(h:okC (D++[ps]))(b:p.length<=2000)(d:q0M ps+(p.length+12)<=4096):okC (D++[ps++[p]]):=by
 have m:ps∈D++[ps]:=by simp
 refine⟨by simpa using h.few,fun q hq=>?_,fun q hq=>?_,fun q hq=>?_⟩
 all_goals rcases List.mem_append.1 hq with h1|h1
 ·exact h.size q (List.mem_append_left _ h1)
 ·obtain rfl:=List.mem_singleton.1 h1;rw[q3C];exact d
 ·exact h.pay q (List.mem_append_left _ h1)
 ·obtain rfl:=List.mem_singleton.1 h1
  intro x j;rcases List.mem_append.1 j with h2|h2
  ·exact h.pay ps m x h2
  ·obtain rfl:=List.mem_singleton.1 h2;exact b
 ·exact h.full q (List.mem_append_left _ h1)
 ·obtain rfl:=List.mem_singleton.1 h1;simp
theorem okC.more{C:Cks}(h:okC C)(b:p.length<=2000)(j:C.length<200):okC (C++[[p]]):=by
 refine⟨by simp;omega,fun q hq=>?_,fun q hq=>?_,fun q hq=>?_⟩
 all_goals rcases List.mem_append.1 hq with h1|h1
 ·exact h.size q h1
 ·obtain rfl:=List.mem_singleton.1 h1;rw[q5X];omega
 ·exact h.pay q h1
 ·obtain rfl:=List.mem_singleton.1 h1
  intro x d;obtain rfl:=List.mem_singleton.1 d;exact b
 ·exact h.full q h1
 ·obtain rfl:=List.mem_singleton.1 h1;simp
def q4T(C:Cks):Int:=match C.getLast? with|none=>0|some ps=>((C.length:Int)-1)*4096+(q0M ps:Int)
theorem z5V :q4T []=0:=rfl
theorem q3N(D:Cks)(ps:List (List UInt8)):q4T (D++[ps])=(D.length:Int)*4096+(q0M ps:Int):=by
 unfold q4T;simp
def q0P(C:Cks):List Int:=C.map fun ps=>(q0M ps:Int)
theorem q3D(D:Cks)(ps:List (List UInt8)):q0P (D++[ps])=q0P D++[(q0M ps:Int)]:=by simp[q0P]
theorem q0t(C:Cks):(q0P C).length=C.length:=by simp[q0P]
theorem q9c(D:Cks)(ps:List (List UInt8)):(q0P (D++[ps])).getD D.length 0=(q0M ps:Int):=by
 rw[q3D];have:D.length=(q0P D).length:=(q0t D).symm;rw[δ,this,List.getElem?_append_right (ι _)];simp
theorem z7U(D:Cks)(ps b:List (List UInt8)):(q0P (D++[ps])).set D.length (q0M b:Int)=q0P (D++[b]):=by
 rw[q3D,q3D];have:D.length=(q0P D).length:=(q0t D).symm;rw[this];simp
theorem z4p(C:Cks)(i:Nat)(h:C[i]? =some ps):(q0P C).getD i 0=(q0M ps:Int):=by
 unfold q0P;rw[δ,List.getElem?_map,h];rfl
def q4x(C:Cks)(p:List UInt8):Bool:=match C.getLast? with|none=>false|some ps=>decide (q0M ps+(p.length+12)<=4096)
def q1O(free:Int)(C:Cks)(p:List UInt8):Int×Int×Cks:=
 if 2000<p.length then(0,3,C)
 else if q4x C p then(if free-((p.length:Int)+12)<6000 then(0,60,C) else(q4T C,0,C.dropLast++[C.getLast?.getD []++[p]]))
 else if 200<=C.length\/free-((p.length:Int)+24)<6000 then(0,60,C) else((C.length:Int)*4096+12,0,C++[[p]])
def q5F(free sure:Int)(C:Cks)(p:List UInt8):Int:=
 if (q1O free C p).2.1=0/\q4x C p=false/\C≠[] then q4T C else sure
def q3S :Nat->List (List UInt8)->List (Nat×List UInt8)
 |_,[]=>[]
 |a,p::r=>(a,p)::q3S (a+p.length+12) r
def q1J :Nat->Cks->List (Nat×List UInt8)
 |_,[]=>[]
 |b,ps::r=>q3S (b+12) ps++q1J (b+4096) r
def q4O(C:Cks)(pos:Int):Option (Nat×List UInt8):=(q1J 0 C).find? fun r=>decide (pos<=(r.1:Int))
def q7F(C:Cks)(pos:Int):List UInt8×Int:=
 if pos<0 then([],4) else match C[(pos/4096).toNat]? with
 |none=>([],4)
 | some ps=>match (if 12<=pos % 4096 then q6X (q0b (pos/4096).toNat ps) (pos % 4096).toNat else none) with
  |none=>([],4)
  |some (p,_)=>(p,0)
theorem q8R : ∀(ps:List (List UInt8)) (a:Nat),∀r∈q3S a ps,a<=r.1/\r.1+r.2.length+12<=a+(ps.map fun p=>p.length+12).sum
 |[],_,r,h=>by cases h
 | p ::t,a,r,h=>by
  rw[q3S] at h;rcases List.mem_cons.1 h with rfl|h
  ·simp only[List.map_cons,List.sum_cons];omega
  ·have:=q8R t _ r h
   simp only[List.map_cons,List.sum_cons];omega
theorem q7G : ∀(C:Cks) (b:Nat),(∀ps∈C,q0M ps<=4096)-> ∀r∈q1J b C,b+12<=r.1/\r.1<b+4096*C.length
 |[],_,_,r,h=>by cases h
 | ps ::t,b,hs,r,h=>by
  rw[q1J] at h;have h1:=hs ps (List.mem_cons_self);unfold q0M at h1;rcases List.mem_append.1 h with h|h
  ·have:=q8R ps _ r h
   simp only[χ];omega
  ·have:=q7G t _ (fun q hq=>hs q (List.mem_cons_of_mem _ hq)) r h
   simp only[χ];omega
theorem q6N : ∀(C:Cks) (b n:Nat),q1J b C=q1J b (C.take n)++q1J (b+4096*n) (C.drop n)
 |C,b,0=>by simp[q1J]
 |[],b,n+1=>by simp[q1J]
 | ps::t,b,n+1=>by
  rw[List.take_succ_cons,List.drop_succ_cons,q1J,q1J,q6N t (b+4096) n,List.append_assoc]
  congr 3;omega
theorem z3R(C D:Cks)(b:Nat):q1J b (C++D)=q1J b C++q1J (b+4096*C.length) D:=by
 have:=q6N (C++D) b C.length
 rwa [List.take_left,List.drop_left] at this
theorem z8b{pos:Int}{l m:List (Nat×List UInt8)}(h: ∀r∈l,(r.1:Int)<pos):(l++m).find? (fun r=>decide (pos<=(r.1:Int)))=m.find? fun r=>decide (pos<=(r.1:Int)):=by
 rw[List.find?_append];have:l.find? (fun r=>decide (pos<=(r.1:Int)))=none:=List.find?_eq_none.2 fun r b=>by have:=h r b;simp;omega
 rw[this];rfl
theorem z4X(C:Cks)(pos:Int)(d: ∀ps∈C,q0M ps<=4096)(n:Nat)(j:(n:Int)*4096<=pos):q4O C pos=(q1J (4096*n) (C.drop n)).find? fun r=>decide (pos<=(r.1:Int)):=by
 unfold q4O;rw[q6N C 0 n,Nat.zero_add];refine z8b fun r b=>?_
 have:=q7G (C.take n) 0 (fun ps h=>d ps (List.mem_of_mem_take h)) r b;have h2:(C.take n).length<=n:=List.length_take_le _ _;omega
theorem q5U : ∀(ps:List (List UInt8)) (a:Nat),(q3S a ps).length=ps.length
 |[],_=>rfl
 |p::t,a=>by simp[q3S,q5U t]
theorem z6G : ∀(ps:List (List UInt8)) (a k:Nat) (p:List UInt8),ps[k]? =some p->(q3S a ps)[k]? =some (a+((ps.take k).map fun p=>p.length+12).sum,p)
 |[],_,k,p,h=>by simp at h
 | q::t,a,0,p,h=>by
  simp only[List.getElem?_cons_zero,Option.some.injEq] at h;subst h;simp[q3S]
 | q::t,a,k+1,p,h=>by
  rw[List.getElem?_cons_succ] at h;rw[q3S,List.getElem?_cons_succ,z6G t _ k p h,List.take_succ_cons,List.map_cons,List.sum_cons]
  congr 2;omega
theorem z0u : ∀(ps:List (List UInt8)) (a k:Nat) (p:List UInt8),ps[k]? =some p->(q1j a ps)[k]? =some (a+((ps.take k).map fun p=>p.length+12).sum,a+((ps.take k).map fun p=>p.length+12).sum+p.length+12)
 |[],_,k,p,h=>by simp at h
 | q::t,a,0,p,h=>by
  simp only[List.getElem?_cons_zero,Option.some.injEq] at h;subst h;simp[q1j]
 | q::t,a,k+1,p,h=>by
  rw[List.getElem?_cons_succ] at h;rw[q1j,List.getElem?_cons_succ,z0u t _ k p h,List.take_succ_cons,List.map_cons,List.sum_cons]
  congr 2<;>omega
theorem y2I(n:Nat)(ps:List (List UInt8))(k:Nat)(p:List UInt8)(h:ps[k]? =some p)(b:p.length<=2000):q6X (q0b n ps) (q0M (ps.take k))=some (p,q0M (ps.take k)+p.length+12):=by
 obtain⟨d,rfl⟩:=List.getElem?_eq_some_iff.1 h;have e:ps=ps.take k++ps[k]::ps.drop (k+1):=by rw[List.getElem_cons_drop];exact(List.take_append_drop _ _).symm
 have:=z8h n (ps.take k) ps[k] (ps.drop (k+1)) b
 rwa [<-e] at this
end
end Go.Proofs.YtjlcdfpbllobaaaGreatDoor
