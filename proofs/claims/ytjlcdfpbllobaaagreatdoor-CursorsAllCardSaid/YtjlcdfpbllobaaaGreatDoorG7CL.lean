/- Plain laws. -/
import Derived.Test.YtjlcdfpbllobaaaGreatDoorG4CL
import Derived.Test.YtjlcdfpbllobaaaGreatDoorG5CL
import Derived.Laws.BitsLemmas
import Derived.Test.YtjlcdfpbllobaaaGreatDoorG6CL
import Derived.Laws.ResultCell
set_option linter.unusedVariables false
set_option linter.unusedSimpArgs false
set_option maxRecDepth 100000
set_option maxHeartbeats 12800000
namespace Go.Proofs.YtjlcdfpbllobaaaGreatDoor
variable {a k n cap i p0:Nat}{p:List UInt8}{α:Type}{L:List En}{ao:Option Addr}{e:En}{P:List Nat}{ps:List (List UInt8)}
section
open Go.RowKit
theorem q2Q(a b:List UInt8):(⟨a.toArray⟩:ByteArray)++⟨b.toArray⟩=⟨(a++b).toArray⟩:=by rw[ByteArray.mk_append_mk];first|done|simp
def q2s(p:List UInt8):List UInt8:=q1V (be 4 p.length++p)++be 4 p.length
def q4y(s:List UInt8)(a:Nat):Nat:=q1X ((s.drop a).take 4)
def isR(s:List UInt8)(a:Nat):Bool:=
 decide (a+12<=s.length)&&decide (q4y s a<=2000)&&decide (a+q4y s a+12<=s.length)
 &&q2V ((s.drop a).take (q4y s a+8))&&decide ((s.drop (a+q4y s a+8)).take 4=(s.drop a).take 4)
def q6Q(s:List UInt8)(a:Nat):Option (List UInt8×Nat):=
 if isR s a then some ((s.drop (a+4)).take (q4y s a),a+q4y s a+12) else none
def q6g :Nat->List UInt8->Nat->List (Nat×Nat)
 |0,_,_=>[]
 | f+1,s,a=>match q6Q s a with
  |none=>[]
  |some (_,b)=>(a,b)::q6g f s b
def q0z(s:List UInt8)(a:Nat):List (Nat×Nat):=q6g (s.length+1) s a
def z1D(a:Nat)(l:List (Nat×Nat)):Nat:=(l.getLast?.map Prod.snd).getD a
def q3H(n:Nat):List UInt8:=q1V ([99,104,110,107]++be 4 n)
def q5m(ps:List (List UInt8)):List UInt8:=(ps.map q2s).flatten
def q0Y(n:Nat)(ps:List (List UInt8)):List UInt8:=q3H n++q5m ps
def q0M(ps:List (List UInt8)):Nat:=12+(ps.map fun p=>p.length+12).sum
def q1j :Nat->List (List UInt8)->List (Nat×Nat)
 |_,[]=>[]
 |a,p::r=>(a,a+p.length+12)::q1j (a+p.length+12) r
theorem q1S(p:List UInt8):(q2s p).length=p.length+12:=by
 simp only[q2s,θ,q0w,q0H];omega
theorem q3a(n:Nat):(q3H n).length=12:=by simp[q3H,q0w,q0H]
theorem z2O(ps:List (List UInt8)):(q5m ps).length=(ps.map fun p=>p.length+12).sum:=by
 unfold q5m
 induction ps with
 |nil=>rfl
 |cons p r ih=>simp[q1S,ih]
theorem q1a(n:Nat)(ps:List (List UInt8)):(q0Y n ps).length=q0M ps:=by
 simp[q0Y,q0M,q3a,z2O]
theorem z6N(ps:List (List UInt8))(p:List UInt8):q5m (ps++[p])=q5m ps++q2s p:=by simp[q5m]
theorem z3r(n:Nat)(ps:List (List UInt8))(p:List UInt8):q0Y n (ps++[p])=q0Y n ps++q2s p:=by simp[q0Y,z6N]
theorem z6S(n:Nat)(p:List UInt8):q0Y n [p]=q3H n++q2s p:=by simp[q0Y,q5m]
theorem q2z(ps:List (List UInt8))(p:List UInt8):q0M (ps++[p])=q0M ps+(p.length+12):=by simp[q0M,List.sum_append];omega
theorem q5S(p:List UInt8):q0M [p]=12+(p.length+12):=by simp[q0M]
theorem z2e{s:List UInt8}{b:Nat}(h:q6Q s a=some (p,b)):
  p.length<=2000/\b=a+p.length+12/\b<=s.length/\p=(s.drop (a+4)).take p.length/\q4y s a=p.length:=by
 unfold q6Q at h
 split at h
 case isFalse=>cases h
 case isTrue hi=>
  unfold isR at hi;simp only[Ξ,Φ] at hi;obtain⟨⟨⟨⟨m,d⟩,j⟩,o⟩,q⟩:=hi;simp only[Option.some.injEq,Prod.mk.injEq] at h;obtain⟨rfl,rfl⟩:=h;have l:((s.drop (a+4)).take (q4y s a)).length=q4y s a:=by simp;omega
  rw[l];exact⟨d,rfl,j,rfl,rfl⟩
theorem y2r(d m b:List α)(h:a=d.length):(d++m++b).drop a=m++b:=by
 subst h;rw[List.append_assoc,List.drop_left]
theorem z5Q(d p b:List UInt8)(C:p.length<=2000)(q:a=d.length):q6Q (d++q2s p++b) a=some (p,a+p.length+12):=by
 have m:(d++q2s p++b).drop a=be 4 p.length++(p++(q9s (q1s (be 4 p.length++p))++(be 4 p.length++b))):=by
  rw[y2r _ _ _ q];simp[q2s,q1V]
 have l:(be 4 p.length).length=4:=q0H 4 _;have o:=q6G (q1s (be 4 p.length++p));have j:q4y (d++q2s p++b) a=p.length:=by
  unfold q4y;rw[m,List.take_left' l,q6O];omega
 have r:(d++q2s p++b).length=a+(p.length+12)+b.length:=by simp[q1S,q];omega
 have y:isR (d++q2s p++b) a=true:=by
  unfold isR;rw[j];simp only[Ξ,Φ];refine⟨⟨⟨⟨by omega,C⟩,by omega⟩,?_⟩,?_⟩
  ·have e:((d++q2s p++b).drop a).take (p.length+8)=q1V (be 4 p.length++p):=by
    rw[m];have:be 4 p.length++(p++(q9s (q1s (be 4 p.length++p))++(be 4 p.length++b)))=q1V (be 4 p.length++p)++(be 4 p.length++b):=by simp[q1V]
    rw[this];exact List.take_left' (by simp[q0w,l];omega)
   rw[e];unfold q2V;simp only[Ξ,Φ,q0w];refine⟨by omega,?_⟩;have s:(q1V (be 4 p.length++p)).take ((be 4 p.length++p).length+4-4)=be 4 p.length++p:=by
    unfold q1V;exact List.take_left' (by omega)
   rw[s]
  ·have e:(d++q2s p++b).drop (a+p.length+8)=be 4 p.length++b:=by
    have:a+p.length+8=a+(p.length+8):=by omega
    rw[this,<-List.drop_drop,m];have:be 4 p.length++(p++(q9s (q1s (be 4 p.length++p))++(be 4 p.length++b)))=(be 4 p.length++(p++q9s (q1s (be 4 p.length++p))))++(be 4 p.length++b):=by simp
    rw[this];exact List.drop_left' (by simp[l,o];omega)
   rw[e,m,List.take_left' l,List.take_left' l]
 unfold q6Q;rw[ξ y,j]
 congr 2
 rw[<-List.drop_drop,m];have u:(be 4 p.length++(p++(q9s (q1s (be 4 p.length++p))++(be 4 p.length++b)))).drop 4=p++(q9s (q1s (be 4 p.length++p))++(be 4 p.length++b)):=List.drop_left' l;rw[u];exact List.take_left' rfl
theorem z8l(s:List UInt8)(a:Nat)(h:s.length<a+12):q6Q s a=none:=by
 unfold q6Q isR;rw[ε (by omega)];simp
theorem z0G : ∀(ps:List (List UInt8)) (pre:List UInt8) (f a:Nat),(∀p∈ps,p.length<=2000)->a=pre.length->ps.length<f->q6g f (pre++q5m ps) a=q1j a ps
 |[],pre,0,a,_,_,hf=>by simp at hf
 | [],pre,f+1,a,_,ha,_=>by
  unfold q6g;rw[z8l _ _ (by simp[q5m,ha])]
  rfl
 |p::r,pre,0,a,_,_,hf=>by simp at hf
 | p::r,pre,f+1,a,hp,ha,hf=>by
  have e:pre++q5m (p::r)=pre++q2s p++q5m r:=by simp[q5m]
  rw[e];unfold q6g;rw[z5Q pre p (q5m r) (hp p (List.mem_cons_self)) ha];show _::q6g f (pre++q2s p++q5m r) (a+p.length+12)=_;rw[z0G r (pre++q2s p) f _ (fun q hq=>hp q (List.mem_cons_of_mem _ hq)) (by simp[q1S,ha];omega) (by simp at hf;omega)]
  rfl
theorem y2V(ps:List (List UInt8)):12*ps.length<=(ps.map fun p=>p.length+12).sum:=by
 induction ps with
 |nil=>simp
 |cons p r ih=>simp only[List.map_cons,List.sum_cons,χ];omega
theorem q9n(n:Nat)(ps:List (List UInt8))(b: ∀p∈ps,p.length<=2000):q0z (q0Y n ps) 12=q1j 12 ps:=by
 unfold q0z;refine z0G ps (q3H n) _ 12 b (q3a n).symm ?_;have:=y2V ps;show _<(q0Y n ps).length+1;rw[q1a];unfold q0M;omega
theorem q7l : ∀(ps:List (List UInt8)) (p:List UInt8) (a:Nat),q1j a (ps++[p])=q1j a ps++[(a+(ps.map fun p=>p.length+12).sum,a+(ps.map fun p=>p.length+12).sum+p.length+12)]
 |[],p,a=>by simp[q1j]
 | q::r,p,a=>by
  rw[List.cons_append,q1j,q7l r p,q1j,List.cons_append];simp only[List.map_cons,List.sum_cons]
  congr 4<;>omega
theorem z4P : ∀(ps:List (List UInt8)) (a:Nat),z1D a (q1j a ps)=a+(ps.map fun p=>p.length+12).sum:=fun ps a=>by
 rcases List.eq_nil_or_concat ps with rfl|⟨r,p,rfl⟩
 ·rfl
 ·rw[List.concat_eq_append,q7l]
  unfold z1D;simp only[List.getLast?_append,List.getLast?_singleton,Option.some_or,Option.map_some,Option.getD_some,List.map_append,List.map_cons,List.map_nil,List.sum_append,List.sum_cons,List.sum_nil];omega
theorem q3F : ∀(ps:List (List UInt8)) (a:Nat),(q1j a ps).length=ps.length
 |[],_=>rfl
 |p::r,a=>by simp[q1j,q3F r]
theorem z8b(n:Nat)(l:List (List UInt8))(p:List UInt8)(r:List (List UInt8))(b:p.length<=2000):q6Q (q0Y n (l++p::r)) (q0M l)=some (p,q0M l+p.length+12):=by
 have e:q0Y n (l++p::r)=q0Y n l++q2s p++q5m r:=by simp[q0Y,q5m]
 rw[e];exact z5Q _ _ _ b (q1a n l).symm
theorem q3O(s:List UInt8)(lo j:Int)(a b:Nat)(l:lo=(a:Int))(d:j=(b:Int))(h:a<=b)(q:b<=s.length){X:List UInt8}(o:(s.take b).drop a=X):
  ∀w,(Instr.slice 9 (.string ⟨s.toArray⟩) (some (.int .i64 lo)) (some (.int .i64 j)) none).run Tryz.prog w= .ok (.string ⟨X.toArray⟩) w:=fun w=>by
 have m:=run_slice_string (P:=Tryz.prog) w 9 ⟨s.toArray⟩ .i64 .i64 lo j Tryz.underlying9 (by omega) (by omega) (by simp[ByteArray.size];omega);rw[m,l,d,<-o];show _=Result.ok (Value.string ⟨((s.take b).drop a).toArray⟩) w;rw[<-q3i];rfl
theorem q5f(s:List UInt8)(j:Int)(b:Nat)(d:j=(b:Int))(o:b<=s.length):
  ∀w,(Instr.slice 9 (.string ⟨s.toArray⟩) none (some (.int .i64 j)) none).run Tryz.prog w= .ok (.string ⟨(s.take b).toArray⟩) w:=fun w=>by
 have l:=run_slice_string_to_if (P:=Tryz.prog) w 9 ⟨s.toArray⟩ .i64 j Tryz.underlying9;have m:(ByteArray.size ⟨s.toArray⟩)=s.length:=by simp[ByteArray.size]
 rw[l,m,ξ (by omega),d];show Result.ok (Value.string ((⟨s.toArray⟩:ByteArray).extract 0 b)) w=_;rw[q3i];rfl
theorem q3k(s:List UInt8)(lo:Int)(a:Nat)(b:lo=(a:Int))(l:a<=s.length):
  ∀w,(Instr.slice 9 (.string ⟨s.toArray⟩) (some (.int .i64 lo)) none none).run Tryz.prog w= .ok (.string ⟨(s.drop a).toArray⟩) w:=fun w=>by
 have d:=run_slice_string_from_if (P:=Tryz.prog) w 9 ⟨s.toArray⟩ .i64 lo Tryz.underlying9;have j:(ByteArray.size ⟨s.toArray⟩)=s.length:=by simp[ByteArray.size]
 rw[d,j,ξ (by omega),b];show Result.ok (Value.string ((⟨s.toArray⟩:ByteArray).extract a s.length)) w=_;rw[q3i,List.take_length]
theorem z9a(k:Nat)(N:Int)(w:World)(q:N=(k:Int))(s:k<=9223372036854775807):
  Calls Tryz.prog 137 #[.int .i64 N] w fun e w'=>e= .returned (.string ⟨(be 4 k).toArray⟩)/\Ext w w':=by
 have m:0<=N:=by omega
 have r:N<=9223372036854775807:=by omega
 have b:N.toNat=k:=by omega
 have l:=η b;clear q b;go_enter Tryz.func137,Tryz.ntmps137;go_wp2_with fail;refine(q7x N 4 _ (by omega) (by omega) m (by omega)).mono ?_;rintro e w1 ⟨rfl,d⟩;have j:=η d;clear d;rw[l.o];go_wp2_with fail;go_ret;exact⟨rfl,j.o⟩
theorem z9U(p:List UInt8)(w:World)(j:2000<p.length)(d:p.length<=9223372036854775807):
  Calls Tryz.prog 88 #[.string ⟨p.toArray⟩] w fun e w'=>e= .returned (.tuple #[.string ⟨#[]⟩,.int .i64 3])/\w=w':=by
 have b:decide ((2000:Int)<(p.length:Int))=true:=by simp;omega
 go_enter Tryz.func88,Tryz.ntmps88;go_wp2_with fail;go_ret2;exact⟨rfl,rfl⟩
theorem y1g(p:List UInt8)(w:World)(D:p.length<=2000):
  Calls Tryz.prog 88 #[.string ⟨p.toArray⟩] w fun e w'=>e= .returned (.tuple #[.string ⟨(q2s p).toArray⟩,.int .i64 0])/\Ext w w':=by
 have y:decide ((2000:Int)<(p.length:Int))=false:=by simp;omega
 obtain⟨n,C⟩: ∃n:Int,n=(p.length:Int):=⟨_,rfl⟩
 have s:Hd (q2s p=q1V (be 4 p.length++p)++be 4 p.length):=η rfl;have d:(be 4 p.length).length=4:=q0H 4 _;have E:(q1V (be 4 p.length++p)).length=p.length+8:=by simp[q0w,d];omega
 have q:=η (fun W=>z9a p.length (p.length:Int) W rfl (by omega));have u:=η (fun W=>z0g (be 4 p.length++p) W (by simp[d];omega));go_enter Tryz.func88,Tryz.ntmps88;go_wp2_with fail;refine(q.o _).mono ?_;rintro e w1 ⟨rfl,b⟩;have r:=η b;clear b;generalize be 4 p.length=X at*;go_wp2_with fail;have m:=u.o w1;generalize q1V (X++p)=Y at*;rw[q2Q];refine m.mono ?_;rintro e F ⟨rfl,b⟩;have j:=η (r.o.trans b);clear b;go_wp2_with fail;refine(q.o _).mono ?_;rintro e G ⟨rfl,b⟩;have l:=η (j.o.trans b);clear b;go_wp2_with fail;go_ret2;exact⟨by rw[s.o,q2Q];rfl,l.o⟩
theorem z2k(a b:En)(w:World):Calls Tryz.prog 148 #[enV a,enV b] w fun e w'=>e= .returned (.bool (q0v a b))/\Ext w w':=by
 obtain⟨a1,d,j⟩:=a;obtain⟨b1,b2,b3⟩:=b;have l:=η (q4t w (.cells #[.int .u64 a1,.int .i64 d,.int .i64 j] 128) (.cells #[.int .u64 b1,.int .i64 b2,.int .i64 b3] 128));have m:Hd (q0v (a1,d,j) (b1,b2,b3)=if a1≠b1 then decide (a1<b1) else if d≠b2 then decide (d<b2) else decide (j<b3)):=η rfl;show Calls Tryz.prog 148 #[.agg #[.int .u64 a1,.int .i64 d,.int .i64 j],.agg #[.int .u64 b1,.int .i64 b2,.int .i64 b3]] w _;by_cases q:a1=b1
 ·subst q
  by_cases r:d=b2
  ·subst r
   go_enter Tryz.func148,Tryz.ntmps148;go_wp2_with fail;go_ret;exact⟨rb (by rw[m.o];simp),l.o⟩
  ·have s:(d !=b2)=true:=by simpa using r
   go_enter Tryz.func148,Tryz.ntmps148;go_wp2_with fail;go_ret;exact⟨rb (by rw[m.o];simp[r]),l.o⟩
 ·have s:(a1 !=b1)=true:=by simpa using q
  go_enter Tryz.func148,Tryz.ntmps148;go_wp2_with fail;go_ret;exact⟨rb (by rw[m.o];simp[q]),l.o⟩
theorem z0i(q:k+1<L.length):q2k (L.take (k+2))=(q2k (L.take (k+1))&&q0v (L.getD k en0) (L.getD (k+1) en0)):=by
 rw[Bool.eq_iff_iff,Ξ,q2l,q2l];have m:L.take (k+2)=L.take (k+1)++[L.getD (k+1) en0]:=q0W L en0 (k+1) q;have j:L.take (k+1)=L.take k++[L.getD k en0]:=q0W L en0 k (by omega);rw[m];unfold q1E;rw[List.pairwise_append]
 constructor
 ·rintro⟨d,_,o⟩
  exact⟨d,o _ (by rw[j];simp) _ (by simp)⟩
 ·rintro⟨d,l⟩
  refine⟨d,by simp,fun x b y r=>?_⟩;obtain rfl:=List.mem_singleton.1 r;rw[j] at b d;rcases List.mem_append.1 b with b|b
  ·exact q1f ((List.pairwise_append.1 d).2.2 x b _ (by simp)) l
  ·obtain rfl:=List.mem_singleton.1 b;exact l
theorem z4b(d:k+1<L.length)(h:q0v (L.getD k en0) (L.getD (k+1) en0)=false):q2k L=false:=by
 cases hs:q2k L with
 |false=>rfl
 | true=>
  rw[q2l] at hs;have b:q1E (L.take (k+2)):=hs.sublist (List.take_sublist _ _);rw[<-q2l,z0i d,h,Bool.and_false] at b
  cases b
theorem z6D(w:World)(m:Ens w ao n cap L):Calls Tryz.prog 254 #[.slice ao n cap] w fun e w'=>e= .returned (.bool (q2k L))/\Ext w w':=by
 have J:=η m;have b1:=m.fits;have b2:=m.bound;have j:=η m.len;clear m;go_enter Tryz.func254,Tryz.ntmps254;go_wp2_with fail
 go_loopw [3] (fun i W=> ∃k:Nat,k+1<=max n 1/\i= .int .i64 ((k:Int)+1)/\q2k (L.take (k+1))=true/\Ext w W) (fun i _=>n-(intOf i).toNat)
 case atStart=>
  refine⟨0,by omega,rfl,?_,Ext.refl _⟩
  cases L with
  |nil=>rfl
  |cons a r=>rfl
 case round=>
  obtain⟨k,hk,rfl,E,D⟩:=hrel;have V:=η E;have F:=η D;by_cases u:k+1<n
  ·have Y:decide (((k:Int)+1)<(n:Int))=true:=by simp;omega
   obtain⟨b,off,rfl,N,O,Q⟩:=(J.o.ext D).at (i:=k) (by omega);obtain⟨_,_,X,R,S,U⟩:=(J.o.ext D).at (i:=k+1) u
   cases X;have G:=η (z0i (L:=L) (k:=k) (by rw[j.o];exact u));have C:=η (z4b (L:=L) (k:=k) (by rw[j.o];exact u));obtain⟨x,m⟩: ∃x,L.getD k en0=x:=⟨_,rfl⟩
   obtain⟨y,I⟩: ∃y,L.getD (k+1) en0=y:=⟨_,rfl⟩
   rw[m] at N O Q;rw[I] at R S U;rw[m,I] at G C;obtain⟨q,hq⟩: ∃q,q0v x y=q:=⟨_,rfl⟩
   have l:=η (fun W=>z2k x y W);rw[hq] at l G C;obtain⟨x1,x2,x3⟩:=x;obtain⟨y1,y2,y3⟩:=y;unfold enV ec at l;have u0:=q0D N;have u1:=q0D O;have u2:=q0D Q;have v0:=q0D R;have v1:=q0D S;have v2:=q0D U;have Z:IntKind.i64.wrap ((k:Int)+1-1)=(k:Int):=by rw[ν];omega
   have d:IntKind.i64.wrap (k:Int)=(k:Int):=by rw[ν];omega
   clear m I E D hq
   cases q with
   | true=>
    go_wp2_with fail;refine q0E (by kernel_rfl) (by kernel_rfl) ?_
    repeat (go_big_quiet_step (first|(go_at_call 148;exact Calls.quiet_ext (l.o _))))
    refine wpQuiet_nil ?_;intro w2 d;have s:=η (F.o.trans d);clear d;go_wp2_with fail
    go_roundw
    case rel=>exact⟨k+1,by omega,by go_num,by rw[G.o,V.o];rfl,s.o⟩
    case measure=>simp[intOf];omega
   | false=>
    go_wp2_with fail;refine q0E (by kernel_rfl) (by kernel_rfl) ?_
    repeat (go_big_quiet_step (first|(go_at_call 148;exact Calls.quiet_ext (l.o _))))
    refine wpQuiet_nil ?_;intro w2 d;have s:=η (F.o.trans d);clear d;go_wp2_with fail;go_ret;exact⟨rb (C.o (by first|rfl|trivial)),s.o⟩
  ·have Y:decide (((k:Int)+1)<(n:Int))=false:=by simp;omega
   have C:Hd (q2k L=true):=η (by rwa [Δ (by rw[j.o];omega)] at E);clear E D;go_wp2_with fail;go_ret;exact⟨rb C.o,F.o⟩
def z2f(s:List UInt8)(a:Nat):Value:=match q6Q s a with
 |none=> .tuple #[.string ⟨#[]⟩,.int .i64 0,.bool false]
 |some (p,b)=> .tuple #[.string ⟨p.toArray⟩,.int .i64 b,.bool true]
theorem q8x{s:List UInt8}(h:isR s a=false):z2f s a= .tuple #[.string ⟨#[]⟩,.int .i64 0,.bool false]:=by unfold z2f q6Q;rw[h];rfl
theorem q6a(s:List UInt8)(a k:Nat):(s.take (a+k)).drop a=(s.drop a).take k:=by rw[List.drop_take];congr 1;omega
theorem z1L(s:List UInt8)(a:Nat)(w:World)(hl:s.length<=4611686018427387903)(ha:a<=4611686018427387903):
  Calls Tryz.prog 109 #[.string ⟨s.toArray⟩,.int .i64 (a:Int)] w fun e w'=>e= .returned (z2f s a)/\Ext w w':=by
 by_cases h1:s.length<a+12
 ·have u:Hd (z2f s a= .tuple #[.string ⟨#[]⟩,.int .i64 0,.bool false]):=η (q8x (by unfold isR;rw[ε (by omega)];rfl))
  have hd:decide (((s.length:Int)-12)<(a:Int))=true:=by simp;omega
  go_enter Tryz.func109,Tryz.ntmps109;go_wp2_with fail;go_ret3;rw[u.o];exact⟨rfl,Ext.refl _⟩
 have c0:decide (((s.length:Int)-12)<(a:Int))=false:=by simp;omega
 obtain⟨X,I⟩: ∃X,(s.drop a).take 4=X:=⟨_,rfl⟩
 have O:X.length=4:=by rw[<-I];simp;omega
 have g0:=q3O s (a:Int) ((a:Int)+4) a (a+4) rfl (by omega) (by omega) (by omega) (by rw[q6a,I]);obtain⟨n,J⟩: ∃n,q4y s a=n:=⟨_,rfl⟩
 have C:q1X (X.take 8)=n:=by rw[Δ (by omega),<-I,<-J];rfl
 have d0:n<4294967296:=by rw[<-C];have:=q2W (X.take 8);rw[Θ,O] at this;exact this
 have F:=η (fun W=>z1J X W (by omega));rw[C] at F;by_cases h2:2000<n\/s.length<a+n+12
 ·have u:Hd (z2f s a= .tuple #[.string ⟨#[]⟩,.int .i64 0,.bool false]):=η (q8x (by
   unfold isR;rw[J];rcases h2 with h|h
   ·rw[ε (p:=n<=2000) (by omega)];simp
   ·rw[ε (p:=a+n+12<=s.length) (by omega)];simp))
  clear I J C O;by_cases h3:2000<n
  ·have R:decide ((2000:Int)<(n:Int))=true:=by simp;omega
   go_enter Tryz.func109,Tryz.ntmps109;go_wp2_with fail;refine(F.o _).mono ?_;rintro e w1 ⟨rfl,l⟩;have y:=η l;clear l;go_wp2_with fail;go_ret3;rw[u.o];exact⟨rfl,y.o⟩
  ·have h4:s.length<a+n+12:=by omega
   have R:decide ((2000:Int)<(n:Int))=false:=by simp;omega
   have a0:decide ((s.length:Int)-12-(a:Int)<(n:Int))=true:=by simp;omega
   go_enter Tryz.func109,Tryz.ntmps109;go_wp2_with fail;refine(F.o _).mono ?_;rintro e w1 ⟨rfl,l⟩;have y:=η l;clear l;go_wp2_with fail;go_ret3;rw[u.o];exact⟨rfl,y.o⟩
 have h5:n<=2000:=by omega
 have h6:a+n+12<=s.length:=by omega
 have R:decide ((2000:Int)<(n:Int))=false:=by simp;omega
 have a0:decide ((s.length:Int)-12-(a:Int)<(n:Int))=false:=by simp;omega
 obtain⟨Y,Q⟩: ∃Y,(s.drop a).take (n+8)=Y:=⟨_,rfl⟩
 have E:Y.length=n+8:=by rw[<-Q];simp;omega
 have h0:=q3O s (a:Int) ((a:Int)+(n:Int)+12-4) a (a+(n+8)) rfl (by omega) (by omega) (by omega) (by rw[q6a,Q]);obtain⟨Z,hZ⟩: ∃Z,(s.drop (a+n+8)).take 4=Z:=⟨_,rfl⟩
 have i0:=q3O s ((a:Int)+(n:Int)+12-4) ((a:Int)+(n:Int)+12) (a+n+8) (a+n+8+4) (by omega) (by omega) (by omega) (by omega) (by rw[q6a,hZ]);have G:=η (fun W=>z5j Y W (by omega));have hi:isR s a=(q2V Y&&decide (Z=X)):=by
  unfold isR;rw[J,ζ (p:=a+12<=s.length) (by omega),ζ h5,ζ h6,Q,hZ,I];simp
 have D:q2V Y=true->(q2I Y).drop 4=(s.drop (a+4)).take n:=fun h=>by
  unfold q2I;rw[ξ h,E,<-Q,List.take_take,List.drop_take,List.drop_drop]
  congr 1;omega
 have N:q2V Y=true->(q2I Y).length=n+4:=fun h=>by
  unfold q2I;rw[ξ h,Θ,E];omega
 have hS:q6Q s a=if isR s a then some ((s.drop (a+4)).take n,a+n+12) else none:=by unfold q6Q;rw[J]
 have S:=η hi;have HP:=η D;have U:=η N;have HS:=η hS;clear I J C hZ Q E hi D N hS h2 h1;generalize q2I Y=T at*
 cases l:q2V Y with
 | false=>
  have u:Hd (z2f s a= .tuple #[.string ⟨#[]⟩,.int .i64 0,.bool false]):=η (q8x (by rw[S.o,l];rfl));rw[l] at G;go_enter Tryz.func109,Tryz.ntmps109;go_wp2_with fail;refine(F.o _).mono ?_;rintro e w1 ⟨rfl,b⟩;have y:=η b;clear b;go_wp2_with fail;refine(G.o _).mono ?_;rintro e w2 ⟨rfl,d⟩;have m:=η (y.o.trans d);clear d;go_wp2_with fail;refine q0E (by kernel_rfl) (by kernel_rfl) ?_
  repeat (go_big_quiet_step (fail))
  refine wpQuiet_nil ?_;intro w3 j;have q:=η (m.o.trans j);clear j;go_wp2_with fail;go_ret3;rw[u.o];exact⟨rfl,q.o⟩
 | true =>
  by_cases r:Z=X
  ·have u:Hd (z2f s a= .tuple #[.string ⟨(T.drop 4).toArray⟩,.int .i64 ((a:Int)+(n:Int)+12),.bool true]):=η (by
    unfold z2f;rw[HS.o,S.o,l,r,HP.o l]
    simp)
   have V:=U.o l;have f0: ∀w,(Instr.slice 9 (.string ⟨T.toArray⟩) (some (.int .i64 4)) none none).run Tryz.prog w= .ok (.string ⟨(T.drop 4).toArray⟩) w:=fun w=>by
    exact q3k T 4 4 rfl (by omega) w
   rw[l] at G;generalize T.drop 4=T4 at*;subst r;go_enter Tryz.func109,Tryz.ntmps109;go_wp2_with fail;refine(F.o _).mono ?_;rintro e w1 ⟨rfl,b⟩;have y:=η b;clear b;go_wp2_with fail;refine(G.o _).mono ?_;rintro e w2 ⟨rfl,d⟩;have m:=η (y.o.trans d);clear d;go_wp2_with fail;refine q0E (by kernel_rfl) (by kernel_rfl) ?_
   repeat (go_big_quiet_step (fail))
   refine wpQuiet_nil ?_;intro w3 j;have q:=η (m.o.trans j);clear j;go_wp2_with fail;go_ret3;rw[u.o];exact⟨rfl,q.o⟩
  ·have u:Hd (z2f s a= .tuple #[.string ⟨#[]⟩,.int .i64 0,.bool false]):=η (q8x (by rw[S.o,ε r,Bool.and_false]))
   have e0:(Z==X)=false:=by simpa using r
   have b0:(Z !=X)=true:=by simpa using r
   rw[l] at G;go_enter Tryz.func109,Tryz.ntmps109;go_wp2_with fail;refine(F.o _).mono ?_;rintro e w1 ⟨rfl,b⟩;have y:=η b;clear b;go_wp2_with fail;refine(G.o _).mono ?_;rintro e w2 ⟨rfl,d⟩;have m:=η (y.o.trans d);clear d;go_wp2_with fail;refine q0E (by kernel_rfl) (by kernel_rfl) ?_
   repeat (go_big_quiet_step (fail))
   refine wpQuiet_nil ?_;intro w3 j;have q:=η (m.o.trans j);clear j;go_wp2_with fail;go_ret3;rw[u.o];exact⟨rfl,q.o⟩
theorem z5p(e:En)(w:World)(h:q3Q e=true):Calls Tryz.prog 94 #[enV e] w fun r w'=>r= .returned (.string ⟨(q4Z e).toArray⟩)/\Ext w w':=by
 obtain⟨a0,a1,b0,b1,j,G⟩:=okEn_iff.1 h;obtain⟨x,y,z⟩:=e;simp only at a0 a1 b0 b1 j G;have q:q4Z (x,y,z)=be 8 x.toNat++(be 8 y.toNat++be 8 z.toNat):=rfl;have u:=η q;have N:=q0H 8 x.toNat;have O:=q0H 8 y.toNat;have Q:=q0H 8 z.toNat;have D:=η (fun W=>q7x x 8 W (by omega) (by omega) a0 a1);have E:=η (fun W=>q7x y 8 W (by omega) (by omega) b0 (by omega));have F:=η (fun W=>q7x z 8 W (by omega) (by omega) j (by omega));generalize q4Z (x,y,z)=EE at*;generalize be 8 x.toNat=X at*;generalize be 8 y.toNat=Y at*;generalize be 8 z.toNat=Z at*;have I:IntKind.u64.wrap y=y:=by rw[IntKind.wrap_u64];omega
 have J:IntKind.u64.wrap z=z:=by rw[IntKind.wrap_u64];omega
 have b:=Blk.new w 128 #[.int .u64 x,.int .i64 y,.int .i64 z];have e0:(w.alloc (.cells #[.int .u64 x,.int .i64 y,.int .i64 z] 128)).cell? ⟨w.heap.size,0,none⟩=some (.int .u64 x):=b.cell 0;have l:(w.alloc (.cells #[.int .u64 x,.int .i64 y,.int .i64 z] 128)).cell? ⟨w.heap.size,1,none⟩=some (.int .i64 y):=b.cell 1;have m:(w.alloc (.cells #[.int .u64 x,.int .i64 y,.int .i64 z] 128)).cell? ⟨w.heap.size,2,none⟩=some (.int .i64 z):=b.cell 2;have V:=q0D e0;have u1:=q0D l;have u2:=q0D m;have R:¬(9223372036854775807<X.length+Y.length):=by omega
 have S:¬(9223372036854775807<(X++Y).length+Z.length):=by rw[θ];omega
 have U:¬(9223372036854775807<X.length+Y.length+Z.length):=by omega
 have C:=η (q0B w (.cells #[.int .u64 x,.int .i64 y,.int .i64 z] 128));clear b q e0 l m h;show Calls Tryz.prog 94 #[.agg #[.int .u64 x,.int .i64 y,.int .i64 z]] w _;go_enter Tryz.func94,Tryz.ntmps94;go_wp2_with fail;refine q0E (by kernel_rfl) (by kernel_rfl) ?_
 repeat (go_big_quiet_step (fail))
 go_big_quiet_step (exact Calls.quiet_ext (D.o _))
 repeat (go_big_quiet_step (fail))
 go_big_quiet_step (exact Calls.quiet_ext (E.o _))
 repeat (go_big_quiet_step (fail))
 go_big_quiet_step (exact Calls.quiet_ext (F.o _))
 repeat (go_big_quiet_step (fail))
 refine wpQuiet_nil ?_;intro w2 s;have d:=η (C.o.trans s);clear s;go_wp2_with fail;go_ret;exact⟨by rw[u.o,q2Q,q2Q];simp,d.o⟩
theorem z4s(n:Nat)(w:World)(C:n<200):
  Calls Tryz.prog 145 #[.int .i64 (n:Int)] w fun e w'=>e= .returned (.string ⟨(q3H n).toArray⟩)/\Ext w w':=by
 have y:decide ((200:Int)<=(n:Int))=false:=by simp;omega
 have r:Hd (q3H n=q1V ([99,104,110,107]++be 4 n)):=η rfl;have m:=η (fun W=>q7x (n:Int) 4 W (by omega) (by omega) (by omega) (by omega));have s:=η (fun W=>z0g ([99,104,110,107]++be 4 n) W (by simp[q0H]));have u:(be 4 n).length=4:=q0H 4 _;rw[Int.toNat_natCast] at m;generalize q1V ([99,104,110,107]++be 4 n)=Y at*;generalize be 4 n=X at*;go_enter Tryz.func145,Tryz.ntmps145;go_wp2_with fail;refine(m.o _).mono ?_;rintro e w1 ⟨rfl,d⟩;have q:=η d;clear d;go_wp2_with fail;have j:=q2Q [99,104,110,107] X;have b:({data:=#[99,104,110,107]}:ByteArray)++{data:=X.toArray}=⟨([99,104,110,107]++X).toArray⟩:=j;rw[b];refine(s.o _).mono ?_;rintro e D ⟨rfl,d⟩;have l:=η (q.o.trans d);clear d;go_wp2_with fail;go_ret;exact⟨by rw[r.o];rfl,l.o⟩
theorem y4W(N:Int)(p:List UInt8)(w:World)(b:0<=N)(d:N<=4096)(o:p.length<=2000):
  Calls Tryz.prog 89 #[.int .i64 N,.string ⟨p.toArray⟩] w fun e w'=>e= .returned (.bool (decide ((p.length:Int)+12<=4096-N)))/\w=w':=by
 have j:decide ((0:Int)<=N)=true:=by simpa using b
 have l:decide (N<=(4096:Int))=true:=by simpa using d
 have m:decide ((p.length:Int)<=(2000:Int))=true:=by simp;omega
 go_enter Tryz.func89,Tryz.ntmps89;go_wp2_with fail;go_ret;exact⟨rfl,rfl⟩
def y0E(s p:List UInt8):Bool:=decide (p.length<=s.length)&&(s.take p.length==p)
theorem z2n(s p:List UInt8)(w:World)(j:s.length<=9223372036854775807)(l:p.length<=9223372036854775807):
  Calls Tryz.prog 205 #[.string ⟨s.toArray⟩,.string ⟨p.toArray⟩] w fun e w'=>e= .returned (.bool (y0E s p))/\w=w':=by
 by_cases h:p.length<=s.length
 ·have b:Hd (y0E s p=(s.take p.length==p)):=η (by unfold y0E;rw[ζ h,Bool.true_and])
  have d:decide ((p.length:Int)<=(s.length:Int))=true:=by simp;omega
  go_enter Tryz.func205,Tryz.ntmps205;go_wp2_with fail;go_ret;rw[b.o];exact⟨rfl,rfl⟩
 ·have b:Hd (y0E s p=false):=η (by unfold y0E;rw[ε h,Bool.false_and])
  have d:decide ((p.length:Int)<=(s.length:Int))=false:=by simp;omega
  go_enter Tryz.func205,Tryz.ntmps205;go_wp2_with fail;go_ret;rw[b.o];exact⟨rfl,rfl⟩
theorem z4B(s p:List UInt8)(w:World)(b:s.length<=9223372036854775807)(d:p.length<=9223372036854775807):
  Calls Tryz.prog 155 #[.string ⟨s.toArray⟩,.string ⟨p.toArray⟩] w fun e w'=>e= .returned (.bool (y0E s p))/\w=w':=by
 go_enter Tryz.func155,Tryz.ntmps155;go_wp2_with fail;refine(z2n s p _ b d).mono ?_;rintro e w1 ⟨rfl,rfl⟩;go_wp2_with fail;go_ret;exact⟨rfl,rfl⟩
def q7a(e:En)(h v:Int):Bool:=decide (e.1<h)||(decide (e.1=h)&&decide (e.2.1<v))
theorem z6K(h v:Int)(b:0<=e.2.2):q7a e h v=q0v e (h,v,0):=by
 rw[Bool.eq_iff_iff,lessE_iff];unfold q7a;simp only[Bool.or_eq_true,Ξ,Φ];omega
theorem y2c(e:En)(h v:Int)(w:World):
  Calls Tryz.prog 202 #[enV e,.int .u64 h,.int .i64 v] w fun r w'=>r= .returned (.bool (q7a e h v))/\Ext w w':=by
 obtain⟨a,b,c⟩:=e;show Calls _ _ #[.agg #[.int .u64 a,.int .i64 b,.int .i64 c],_,_] _ _;have j:=Blk.new w 128 #[.int .u64 a,.int .i64 b,.int .i64 c];have m:=η (q0B w (.cells #[.int .u64 a,.int .i64 b,.int .i64 c] 128));have s:(w.alloc (.cells #[.int .u64 a,.int .i64 b,.int .i64 c] 128)).cell? ⟨w.heap.size,0,none⟩=some (.int .u64 a):=j.cell 0;have u:(w.alloc (.cells #[.int .u64 a,.int .i64 b,.int .i64 c] 128)).cell? ⟨w.heap.size,1,none⟩=some (.int .i64 b):=j.cell 1;have q:(decide (a<h)=true/\q7a (a,b,c) h v=true)\/(decide (a<h)=false/\(a==h)=false/\q7a (a,b,c) h v=false)\/(decide (a<h)=false/\(a==h)=true/\q7a (a,b,c) h v=decide (b<v)):=by
  unfold q7a;by_cases d:a<h
  ·exact .inl ⟨ζ d,by simp[d]⟩
  ·by_cases l:a=h
   ·exact .inr (.inr ⟨ε d,by simpa using l,by simp[d,l]⟩)
   ·exact .inr (.inl ⟨ε d,by simpa using l,by simp[d,l]⟩)
 clear j;rcases q with⟨d,he⟩|⟨d,l,he⟩|⟨d,l,he⟩
 all_goals
  rw[he];clear he;go_enter Tryz.func202,Tryz.ntmps202;go_wp2_with fail;go_ret;exact⟨rfl,m.o⟩
theorem z1i(h v:Int)(w:World)(C:Ens w ao n cap L)(hn:n<=1000000)(Q:q1E L)(O: ∀e∈L,q3Q e=true):
  Calls Tryz.prog 147 #[.slice ao n cap,.int .u64 h,.int .i64 v] w fun r w'=>r= .returned (.int .i64 (lbE L (h,v,0):Int))/\Ext w w':=by
 have S:=η C;have J:=η (Ext.refl w);have R:=η (fun e W=>y2c e h v W);have b1:=C.fits;have b2:=C.bound;have I:Hd (∀i,i<n->q7a (L.getD i en0) h v=decide (i<lbE L (h,v,0))):=η fun i d=>by
  have u:i<L.length:=by rw[C.len];exact d
  have Z:L.getD i en0=L[i]:=by rw[δ,γ u];rfl
  have F:=O _ (List.getElem_mem u);rw[Z,z6K h v (by unfold q3Q at F;simp at F;omega),q4R (h,v,0) Q (γ u)]
 have E:=q5J L (h,v,0);rw[C.len] at E;generalize lbE L (h,v,0)=lb at*;clear C Q O;go_enter Tryz.func147,Tryz.ntmps147
 go_wp2
 go_step3
 go_wp2
 go_step3
 go_wp2
 go_loopw [7,8] (fun i j W=> ∃lo d:Nat,i= .int .i64 (lo:Int)/\j= .int .i64 (d:Int)/\lo<=lb/\lb<=d/\d<=n/\Ext w W) (fun i j _=>(intOf j).toNat-(intOf i).toNat)
 case atStart=>exact⟨0,n,rfl,rfl,υ _,E,ι _,J.o⟩
 case round=>
  obtain⟨lo,d,rfl,rfl,U,V,X,N⟩:=hrel;have G:=η N;clear N;have q1:IntKind.i64.wrap ((d:Int)-(lo:Int))=(d:Int)-(lo:Int):=by rw[ν];omega
  have q2:Int.tdiv ((d:Int)-(lo:Int)) 2=((d:Int)-(lo:Int))/2:=Int.tdiv_eq_ediv_of_nonneg (by omega);obtain⟨m,hm⟩: ∃m,lo+(d-lo)/2=m:=⟨_,rfl⟩
  have q3:(lo:Int)+((d:Int)-(lo:Int))/2=(m:Int):=by omega
  have q4:IntKind.i64.wrap (((d:Int)-(lo:Int))/2)=((d:Int)-(lo:Int))/2:=by rw[ν];omega
  have q5:IntKind.i64.wrap (m:Int)=(m:Int):=by rw[ν];omega
  by_cases a0:lo<d
  ·have Y:decide ((d:Int)<=(lo:Int))=false:=ε (by omega)
   have q6:(m:Int)<(n:Int):=by omega
   obtain⟨b,off,rfl,c0,c1,c2⟩:=(S.o.ext G.o).at (show m<n by omega);have s:=I.o m (by omega);have l:=η (R.o (L.getD m en0));generalize L.getD m en0=e at*;obtain⟨a,bb,c⟩:=e;rw[s] at l;by_cases y:m<lb
   ·rw[ζ y] at l
    have q7:IntKind.i64.wrap ((m:Int)+1)=(m:Int)+1:=by rw[ν];omega
    clear s;go_wp2_with fail;refine(l.o _).mono ?_;rintro e w1 ⟨rfl,D⟩;have q:=η (G.o.trans D);clear D;go_wp2_with fail
    go_roundw
    case rel=>exact⟨m+1,d,by go_num,rfl,y,V,X,q.o⟩
    case measure=>simp[intOf];omega
   ·rw[ε y] at l
    clear s;go_wp2_with fail;refine(l.o _).mono ?_;rintro e w1 ⟨rfl,D⟩;have q:=η (G.o.trans D);clear D;go_wp2_with fail
    go_roundw
    case rel=>exact⟨lo,m,rfl,rfl,U,by omega,by omega,q.o⟩
    case measure=>simp[intOf];omega
  ·have Y:decide ((d:Int)<=(lo:Int))=true:=ζ (by omega)
   obtain rfl:lo=lb:=by omega
   go_wp2_with fail;rw[Exit.noGoto_ret];go_ret;exact⟨rfl,G.o⟩
theorem Tryz.infoEnH :(Tryz.prog.info? 128).map (fun i=>(i.zero,i.size,i.bytes))=some (some (.agg #[.int .u64 0,.int .i64 0,.int .i64 0]),3,24):=by kernel_rfl
theorem q8D{K:List En}(w:World)(D:Ens w ao n cap K)(hn:n<=1000000):
  Calls Tryz.prog 212 #[.slice ao n cap] w fun e w'=> ∃v,e= .returned v/\w'.ownsRow w.heap.size 128 3 v K.length (ecs K)/\Ext w w':=by
 have hq:=fun (w:World) (a:Option Addr) (n c n' c':Nat)=>Lib.run_eql_slice_nil (P:=Tryz.prog) w 203 128 a n c n' c' Tryz.underlying203
 have b1:=D.fits;have b2:=D.bound;have F:=D.len;have m:=D.nil;obtain⟨i,I,J,d,y⟩:=info_parts Tryz.infoEnH;have X:=η I;have Z:=η J;have S:=η d;have N:=η y;have U:=η (Ext.refl w)
 cases ao with
 | none=>
  obtain rfl:cap=0:=m rfl;obtain rfl:n=0:=by omega
  obtain rfl:K=[]:=List.eq_nil_of_length_eq_zero F;clear D F m I J d y;go_enter Tryz.func212,Tryz.ntmps212;go_wp2_with fail;go_ret;exact⟨_,rfl,World.ownsRow_nil _ _ _ _,U.o⟩
 | some a=>
  have l:(w.alloc (.cells #[] 128)).ownsRow w.heap.size 128 3 (.slice (some ⟨w.heap.size,0,none⟩) 0 0) 0 []:=⟨rfl,.inr ⟨w.heap.size,0,#[],rfl,ι _,Blk.new w _ _,ι _,by unfold maxLen;omega,rfl,rfl⟩⟩
  have G:=η l;have r:=η (q0B w (.cells #[] 128));by_cases h0:n=0
  ·subst h0
   obtain rfl:K=[]:=List.eq_nil_of_length_eq_zero F;clear D F m I J d y l;go_enter Tryz.func212,Tryz.ntmps212;go_wp2_with fail;go_ret;exact⟨_,rfl,G.o,r.o⟩
  ·have E:Hd (∀j u,(ecs K)[j]? =some u->(w.alloc (.cells #[] 128)).cell? (a.add j)=some u):=η fun j u hj=>by
    obtain⟨b,off,e,h⟩:=(D.ext r.o).rd j u hj
    cases e;rw[Addr.add_lit];exact h
   have Y:=η F;have Q:Hd ((ecs K).length=n*3):=η (by rw[q1o,F]);clear D F m I J d y l;go_enter Tryz.func212,Tryz.ntmps212
   go_wp2_with (at_builtin;refine wpList_append_lies _ rfl _ _ 203 rfl w.heap.size 128 i _ 3 24 Tryz.underlying203 X.o Z.o S.o N.o (by decide) (by decide) _ 0 [] (by simp[Act.eval]) G.o a n cap (ecs K) (by simp[Act.eval]) Q.o E.o (q4Y K) (by omega) (by unfold maxLen;omega) (by omega) r.o.size _ rfl ?_;intro g cap1 w1 C s V W;have R:=η C;have O:=η s;clear C s V)
   go_wp2_with fail;go_ret;refine⟨_,rfl,by have:=R.o;rw[Y.o];simpa using this,r.o.grown O.o r.o.size (fun q hq=>by cases hq;exact ι _)⟩
theorem y0o(h a b:Int)(w:World)(O:Ens w ao n cap L)(hn:n<=1000000)(hs:q1E L)(ho: ∀e∈L,q3Q e=true):
  Calls Tryz.prog 232 #[.slice ao n cap,.int .u64 h,.int .i64 a,.int .i64 b] w fun r w'=> ∃v,r= .returned v/\w'.ownsRow w.heap.size 128 3 v (q1D L h a b).length (ecs (q1D L h a b))/\Ext w w':=by
 have HS:=η (z1i h a w O hn hs ho);have Hx:=η O;have b1:=O.fits;have b2:=O.bound;have G:=O.len;have Z:=O.nil;have V:=q5J L (h,a,0);rw[G] at V;have J:Hd (q1D L h a b=(L.drop (lbE L (h,a,0))).takeWhile (inE h b)):=η (q4S hs ho);generalize lbE L (h,a,0)=lb at*;have m:=η G;clear O hs ho G;go_enter Tryz.func232,Tryz.ntmps232;go_wp2_with fail;refine HS.o.mono ?_;rintro e w1 ⟨rfl,y⟩;have l:=η y;clear y;go_wp2_with fail
 go_loopw [10] (fun i W=> ∃j:Nat,lb<=j/\j<=n/\i= .int .i64 (j:Int)/\W=w1/\(L.drop lb).takeWhile (inE h b)=(L.drop lb).take (j-lb)++(L.drop j).takeWhile (inE h b)) (fun i _=>n-(intOf i).toNat)
 case atStart=>exact⟨lb,ι _,V,rfl,rfl,by simp⟩
 case round =>
  obtain⟨j,h1,h2,rfl,rfl,hw⟩:=hrel;have HW:=η hw;clear hw;by_cases Y:j<n
  ·have hd:decide ((j:Int)<(n:Int))=true:=ζ (by omega)
   have q1:IntKind.i64.wrap ((j:Int)+1)=(j:Int)+1:=by rw[ν];omega
   have q5:(j:Int)<(n:Int):=by omega
   obtain⟨bb,off,rfl,c0,c1,c2⟩:=(Hx.o.ext l.o).at Y;have U:j<L.length:=by rw[m.o];exact Y
   have hg:L.getD j en0=L[j]:=by rw[δ,γ U];rfl
   rw[hg] at c0 c1 c2;have S:(L.drop j).takeWhile (inE h b)=if inE h b L[j] then L[j]::(L.drop (j+1)).takeWhile (inE h b) else []:=by
    rw[List.drop_eq_getElem_cons U,List.takeWhile_cons]
   have a0:(L.drop lb).take (j+1-lb)=(L.drop lb).take (j-lb)++[L[j]]:=by
    have h3:j-lb<(L.drop lb).length:=by rw[List.length_drop];omega
    rw[show j+1-lb=(j-lb)+1 by omega,List.take_succ_eq_append_getElem h3,List.getElem_drop]
    congr 3;omega
   have R:=η S;have b0:=η a0;generalize L[j]=e at*;obtain⟨e0,e1,e2⟩:=e;clear hg S a0;by_cases E:inE h b (e0,e1,e2)=true
   ·have F:=E
    unfold inE at F;simp only[Ξ,Φ] at F;obtain⟨i1,i2⟩:=F;have Q:(e0==h)=true:=by simpa using i1
    have g2:decide (e1<=b)=true:=ζ i2;have d0:Hd ((L.drop lb).takeWhile (inE h b)=(L.drop lb).take (j+1-lb)++(L.drop (j+1)).takeWhile (inE h b)):=η (by rw[HW.o,R.o,ξ E,b0.o,List.append_assoc];rfl);clear i1 i2 E;go_wp2_with fail
    go_roundw
    case rel=>exact⟨j+1,by omega,by omega,by go_num,trivial,d0.o⟩
    case measure=>simp[intOf];omega
   ·have N:(e0==h)=false\/((e0==h)=true/\decide (e1<=b)=false):=by
     by_cases Q:e0=h
     ·refine .inr ⟨by simpa using Q,ε fun g2=>E ?_⟩
      unfold inE;simp[Q,g2]
     ·exact .inl (by simpa using Q)
    have q:Hd ((L.drop lb).takeWhile (inE h b)=(L.drop lb).take (j-lb)):=η (by rw[HW.o,R.o,κ E,List.append_nil]);clear E;have I:Ens wr (some ⟨bb,off+lb*3,none⟩) (j-lb) (cap-lb) ((L.drop lb).take (j-lb)):=by
     have h5:=(Hx.o.ext l.o).cut (show j<=n by omega);refine⟨by rw[Θ,List.length_drop,m.o];omega,by omega,by omega,(fun h=>by cases h),?_⟩;have h6:=h5.rd.drop (lb*3);have e6:(ecs (L.take j)).drop (lb*3)=ecs ((L.drop lb).take (j-lb)):=by
      rw[<-List.drop_take]
      conv=>lhs;rw[<-List.take_append_drop lb (L.take j),q3h]
      exact List.drop_left' (by rw[q1o,Θ,Θ,m.o];omega)
     rwa [e6] at h6
    have C:=η (q8D wr I (by omega));have D:Hd (q1D L h a b=(L.drop lb).take (j-lb)):=η (by rw[J.o,q.o]);clear I;rcases N with Q|⟨Q,g2⟩
    all_goals
     go_wp2_with fail;refine C.o.mono ?_;rintro e w2 ⟨v,rfl,d,y⟩;have s:=η (q1I d l.o.size);have u:=η (l.o.trans y);clear d y;go_wp2_with fail;go_ret;exact⟨v,rfl,by rw[D.o];exact s.o,u.o⟩
  ·have hd:decide ((j:Int)<(n:Int))=false:=ε (by omega)
   obtain rfl:j=n:=by omega
   have q:Hd ((L.drop lb).takeWhile (inE h b)=(L.drop lb).take (j-lb)):=η (by rw[HW.o,List.drop_of_length_le (show L.length<=j by rw[m.o];exact ι _)];simp);by_cases X:lb<j
   ·obtain⟨bb,off,rfl,_,_,_⟩:=(Hx.o.ext l.o).at X
    have I:Ens wr (some ⟨bb,off+lb*3,none⟩) (j-lb) (cap-lb) ((L.drop lb).take (j-lb)):=by
     have h5:=(Hx.o.ext l.o).cut (show j<=j by omega);refine⟨by rw[Θ,List.length_drop,m.o];omega,by omega,by omega,(fun h=>by cases h),?_⟩;have h6:=h5.rd.drop (lb*3);have e6:(ecs (L.take j)).drop (lb*3)=ecs ((L.drop lb).take (j-lb)):=by
      rw[<-List.drop_take]
      conv=>lhs;rw[<-List.take_append_drop lb (L.take j),q3h]
      exact List.drop_left' (by rw[q1o,Θ,Θ,m.o];omega)
     rwa [e6] at h6
    have C:=η (q8D wr I (by omega));have D:Hd (q1D L h a b=(L.drop lb).take (j-lb)):=η (by rw[J.o,q.o]);have g0:¬(cap=lb):=by omega
    clear I;go_wp2_with fail;refine C.o.mono ?_;rintro e w2 ⟨v,rfl,d,y⟩;have s:=η (q1I d l.o.size);have u:=η (l.o.trans y);clear d y;go_wp2_with fail;go_ret;exact⟨v,rfl,by rw[D.o];exact s.o,u.o⟩
   ·obtain rfl:lb=j:=by omega
    have D:Hd (q1D L h a b=[]):=η (by rw[J.o,q.o,Nat.sub_self];rfl);have C:=η (fun o c (h1:c<=cap) (h2:o=none->c=0)=>q8D (K:=[]) (n:=0) wr ⟨rfl,by omega,by omega,h2,Rd.nil wr o⟩ (by omega));clear X q HW J;by_cases f0:cap=lb
    ·go_wp2_with fail
     refine(C.o _ _ (by omega) (fun _=>by omega)).mono ?_;rintro e w2 ⟨v,rfl,d,y⟩;have s:=η (q1I d l.o.size);have u:=η (l.o.trans y);clear d y;go_wp2_with fail;go_ret;exact⟨v,rfl,by rw[D.o];exact s.o,u.o⟩
    ·go_wp2_with fail
     refine(C.o _ _ (by omega) (fun h=>by have:=Z (by cases ao<;>first|rfl|cases h);omega)).mono ?_;rintro e w2 ⟨v,rfl,d,y⟩;have s:=η (q1I d l.o.size);have u:=η (l.o.trans y);clear d y;go_wp2_with fail;go_ret;exact⟨v,rfl,by rw[D.o];exact s.o,u.o⟩
theorem y3L(q:q1E L)(u: ∀e∈L,q3Q e=true)(h v:Int): ∀i,i<L.length->lbE L (h,v,0)<=i->(inE h v (L.getD i en0)=true↔i<lbE L (h,v+1,0)):=fun i l C=>by
 have s:L.getD i en0=L[i]:=by rw[δ,γ l];rfl
 have j:=q4R (h,v+1,0) q (γ l);have m:=q4R (h,v,0) q (γ l);rw[ε (by omega)] at m;have d:=u _ (List.getElem_mem l);unfold q3Q at d;simp at d;rw[s]
 constructor
 ·intro b
  unfold inE at b;simp only[Ξ,Φ] at b;have o:q0v L[i] (h,v+1,0)=true:=lessE_iff.2 (.inr ⟨b.1,.inl (by show L[i].2.1<v+1;omega)⟩);rw[o] at j;exact of_decide_eq_true j.symm
 ·intro b
  rw[ζ b] at j;have o:=lessE_iff.1 j;have y:¬(L[i].1<h\/(L[i].1=h/\(L[i].2.1<v\/(L[i].2.1=v/\L[i].2.2<0)))):=fun r=>by rw[lessE_iff.2 r] at m;cases m
  unfold inE;simp only[Ξ,Φ];simp only at o;omega
theorem q9F{h v:Int}(b:q3f L h v=some e):inE h v e=true:=by
 unfold q3f at b;exact(List.mem_filter.1 (List.mem_of_getLast? b)).2
theorem q9v{w W:World}{a b c:Value}(h:Ext w W):Ext w (((W.setCell ⟨w.heap.size,0,none⟩ a).setCell ⟨w.heap.size,1,none⟩ b).setCell ⟨w.heap.size,2,none⟩ c):=
 Below.setCell (Below.setCell (Below.setCell h (ι _) _) (ι _) _) (ι _) _
theorem y2t(h v:Int)(w:World)(hx:Ens w ao n cap L)(hn:n<=1000000)(hs:q1E L)(ho: ∀e∈L,q3Q e=true):
  Calls Tryz.prog 174 #[.slice ao n cap,.int .u64 h,.int .i64 v] w fun r w'=>r= .returned (.tuple #[enV ((q3f L h v).getD en0),.bool (q3f L h v).isSome])/\Ext w w':=by
 have k0:=q0B w (.cells #[.int .u64 0,.int .i64 0,.int .i64 0] 128);have q0:=Blk.new w 128 #[.int .u64 0,.int .i64 0,.int .i64 0];have o0:=η k0;have v0:=η q0;have HS:=η (z1i h v _ (hx.ext k0) hn hs ho);have Hx:=η hx;have b1:=hx.fits;have b2:=hx.bound;have Z:=hx.len;have w0:=q5J L (h,v,0);have t0:=q5J L (h,v+1,0);have j0:lbE L (h,v,0)<=lbE L (h,v+1,0):=by
  unfold lbE;rw[<-List.countP_eq_length_filter,<-List.countP_eq_length_filter];refine List.countP_mono_left fun e _ he=>?_
  rw[lessE_iff] at he⊢;simp only at he⊢;omega
 rw[Z] at w0 t0;have n0:=η (y3L hs ho h v);have h0:=η (z8n (l:=L) (h:=h) (t:=v) hs ho);have V:=η Z;generalize lbE L (h,v,0)=lb at*;generalize lbE L (h,v+1,0)=lb2 at*;clear hx hs ho Z k0 q0;go_enter Tryz.func174,Tryz.ntmps174;go_wp2_with fail;refine HS.o.mono ?_;rintro e w1 ⟨rfl,hb⟩;have i0:=η hb;clear hb;go_wp2_with fail
 go_loopw [8] (fun i W=> ∃j:Nat,lb<=j/\j<=lb2/\i= .int .i64 (j:Int)/\W=w1) (fun i _=>lb2-(intOf i).toNat)
 case atStart=>exact⟨lb,ι _,j0,rfl,rfl⟩
 case round =>
  obtain⟨j,h1,h2,rfl,rfl⟩:=hrel;by_cases y0:j<lb2
  ·have m:j<n:=by omega
   have hd:decide ((j:Int)<(n:Int))=true:=ζ (by omega);have q1:IntKind.i64.wrap ((j:Int)+1)=(j:Int)+1:=by rw[ν];omega
   have q5:(j:Int)<(n:Int):=by omega
   obtain⟨S,off,rfl,c0,c1,c2⟩:=(Hx.o.ext (o0.o.trans i0.o)).at m;have Y:=(n0.o j (by rw[V.o];exact m) h1).2 y0;generalize L.getD j en0=e at*;obtain⟨e0,e1,e2⟩:=e;unfold inE at Y;simp only[Ξ,Φ] at Y;have g1:(e0==h)=true:=by simpa using Y.1
   have g2:decide (e1<=v)=true:=ζ Y.2;clear Y;go_wp2_with fail
   go_roundw
   case rel=>exact⟨j+1,by omega,by omega,by go_num,trivial⟩
   case measure=>simp[intOf];omega
  ·obtain rfl:j=lb2:=by omega
   have l0:=η h0.o;have rb:=v0.o.ext i0.o;have r0:wr.cell? ⟨w.heap.size,0,none⟩=some (.int .u64 0):=rb.cell 0;have r1:wr.cell? ⟨w.heap.size,1,none⟩=some (.int .i64 0):=rb.cell 1;have r2:wr.cell? ⟨w.heap.size,2,none⟩=some (.int .i64 0):=rb.cell 2;have z0:=rb.free 0;have z1:=rb.free 1;have z2:=rb.free 2;have D:=η (o0.o.trans i0.o);clear rb;have b0:decide ((j:Int)<(n:Int))=false\/(decide ((j:Int)<(n:Int))=true/\ ∃m:j<n,inE h v (L.getD j en0)=false):=by
    by_cases m:j<n
    ·refine .inr ⟨ζ (by omega),m,?_⟩
     cases hi:inE h v (L.getD j en0) with
     |false=>rfl
     |true=>have:=(n0.o j (by rw[V.o];exact m) h1).1 hi;omega
    ·exact .inl (ε (by omega))
   have s0:(j=0/\q3f L h v=none)\/(0<j/\ ∃N:j-1<n,((L.getD (j-1) en0).1==h)=false/\q3f L h v=none)\/(0<j/\ ∃N:j-1<n,((L.getD (j-1) en0).1==h)=true/\decide (v<(L.getD (j-1) en0).2.1)=false/\q3f L h v=some (L.getD (j-1) en0)):=by
    by_cases s:j=0
    ·exact .inl ⟨s,by rw[h0.o,ξ s]⟩
    ·have m:j-1<L.length:=by rw[V.o];omega
     have O:=h0.o;rw[κ s,γ m] at O;simp only at O;have hg:L.getD (j-1) en0=L[j-1]:=by rw[δ,γ m];rfl
     rw[hg];by_cases he:L[j-1].1=h
     ·rw[ξ he] at O
      refine .inr (.inr ⟨by omega,by omega,by simpa using he,?_,O⟩);have u0:=(q9F O)
      unfold inE at u0;simp only[Ξ,Φ] at u0;exact ε (by omega)
     ·rw[κ he] at O
      exact .inr (.inl ⟨by omega,by omega,by simpa using he,O⟩)
   have a0:decide ((j:Int)<(n:Int))=false\/(decide ((j:Int)<(n:Int))=true/\j<n/\(((L.getD j en0).1==h)=false\/(((L.getD j en0).1==h)=true/\decide ((L.getD j en0).2.1<=v)=false))):=by
    rcases b0 with g|⟨g,m,hi⟩
    ·exact .inl g
    ·refine .inr ⟨g,m,?_⟩
     unfold inE at hi;by_cases he:(L.getD j en0).1=h
     ·rw[ζ he,Bool.true_and] at hi
      exact .inr ⟨by simpa using he,hi⟩
     ·exact .inl (by simpa using he)
   have u:=η (fun i (hi:i<n)=>(Hx.o.ext D.o).at hi);have U:0<j->IntKind.i64.wrap ((j:Int)-1)=((j-1:Nat):Int):=fun h=>by rw[ν];omega
   clear b0 h0 l0;rcases s0 with⟨s,b⟩|⟨s,N,y,b⟩|⟨s,N,y,g4,b⟩
   ·rcases a0 with g|⟨g,m,X|⟨X,g6⟩⟩
    ·have g7:¬((j:Int)<(n:Int)):=of_decide_eq_false g
     have R:((j:Int)==0)=true:=by simp;omega
     go_wp2_with fail
     ((try simp only[Exit.inBlock,Exit.then]);refine bodyPost_ret (v:= .tuple #[.agg #[.int .u64 0,.int .i64 0,.int .i64 0],.bool false]) (by rw[results_cell_tmp rfl];go_simp) rfl ?_)
     refine⟨by first|rfl|(rw[d.o];rfl),?_⟩;exact q9v D.o
    ·obtain⟨S,off,rfl,c0,c1,c2⟩:=u.o j m
     generalize L.getD j en0=e at*;obtain⟨e0,e1,e2⟩:=e;simp only at X;subst s;have m0:wr.cell? ⟨S,off,none⟩=some (.int .u64 e0):=by simpa using c0
     have m1:wr.cell? ⟨S,off+1,none⟩=some (.int .i64 e1):=by simpa using c1
     have m2:wr.cell? ⟨S,off+2,none⟩=some (.int .i64 e2):=by simpa using c2
     have m3:(0:Int)<(n:Int):=of_decide_eq_true g;clear c0 c1 c2 g;have d:=η b;clear b;go_wp2_with fail
     ((try simp only[Exit.inBlock,Exit.then]);refine bodyPost_ret (v:= .tuple #[.agg #[.int .u64 0,.int .i64 0,.int .i64 0],.bool false]) (by rw[results_cell_tmp rfl];go_simp) rfl ?_)
     refine⟨by first|rfl|(rw[d.o];rfl),?_⟩;exact q9v D.o
    ·obtain⟨S,off,rfl,c0,c1,c2⟩:=u.o j m
     generalize L.getD j en0=e at*;obtain⟨e0,e1,e2⟩:=e;simp only at X;simp only at g6;subst s;have m0:wr.cell? ⟨S,off,none⟩=some (.int .u64 e0):=by simpa using c0
     have m1:wr.cell? ⟨S,off+1,none⟩=some (.int .i64 e1):=by simpa using c1
     have m2:wr.cell? ⟨S,off+2,none⟩=some (.int .i64 e2):=by simpa using c2
     have m3:(0:Int)<(n:Int):=of_decide_eq_true g;clear c0 c1 c2 g;have d:=η b;clear b;go_wp2_with fail
     ((try simp only[Exit.inBlock,Exit.then]);refine bodyPost_ret (v:= .tuple #[.agg #[.int .u64 0,.int .i64 0,.int .i64 0],.bool false]) (by rw[results_cell_tmp rfl];go_simp) rfl ?_)
     refine⟨by first|rfl|(rw[d.o];rfl),?_⟩;exact q9v D.o
   ·rcases a0 with g|⟨g,m,X|⟨X,g6⟩⟩
    ·have g7:¬((j:Int)<(n:Int)):=of_decide_eq_false g
     obtain⟨pb,I,pe,E,F,G⟩:=u.o (j-1) N;obtain⟨x,q⟩: ∃x,L.getD (j-1) en0=x:=⟨_,rfl⟩
     rw[q] at E F G y;obtain⟨Q,x1,x2⟩:=x;obtain⟨J,C⟩: ∃J,j-1=J:=⟨_,rfl⟩
     rw[C] at E F G N;have f0:IntKind.i64.wrap ((j:Int)-1)=(J:Int):=by rw[U s,C]
     have g0:(J:Int)<(n:Int):=by omega
     have R:((j:Int)==0)=false:=by simp;omega
     have d:=η b;clear b;simp only at y;have k3:(Q !=h)=true:=by rw[bne,y];rfl
     clear y;clear C q U;subst pe;go_wp2_with fail
     ((try simp only[Exit.inBlock,Exit.then]);refine bodyPost_ret (v:= .tuple #[.agg #[.int .u64 0,.int .i64 0,.int .i64 0],.bool false]) (by rw[results_cell_tmp rfl];go_simp) rfl ?_)
     refine⟨by first|rfl|(rw[d.o];rfl),?_⟩;exact q9v D.o
    ·obtain⟨pb,I,pe,E,F,G⟩:=u.o (j-1) N
     obtain⟨x,q⟩: ∃x,L.getD (j-1) en0=x:=⟨_,rfl⟩
     rw[q] at E F G y;obtain⟨Q,x1,x2⟩:=x;obtain⟨J,C⟩: ∃J,j-1=J:=⟨_,rfl⟩
     rw[C] at E F G N;have f0:IntKind.i64.wrap ((j:Int)-1)=(J:Int):=by rw[U s,C]
     have g0:(J:Int)<(n:Int):=by omega
     have R:((j:Int)==0)=false:=by simp;omega
     have d:=η b;clear b;simp only at y;have k3:(Q !=h)=true:=by rw[bne,y];rfl
     clear y;clear C q U;obtain⟨S,off,rfl,c0,c1,c2⟩:=u.o j m;generalize L.getD j en0=e at*;obtain⟨e0,e1,e2⟩:=e;simp only at X
     cases pe;go_wp2_with fail
     ((try simp only[Exit.inBlock,Exit.then]);refine bodyPost_ret (v:= .tuple #[.agg #[.int .u64 0,.int .i64 0,.int .i64 0],.bool false]) (by rw[results_cell_tmp rfl];go_simp) rfl ?_)
     refine⟨by first|rfl|(rw[d.o];rfl),?_⟩;exact q9v D.o
    ·obtain⟨pb,I,pe,E,F,G⟩:=u.o (j-1) N
     obtain⟨x,q⟩: ∃x,L.getD (j-1) en0=x:=⟨_,rfl⟩
     rw[q] at E F G y;obtain⟨Q,x1,x2⟩:=x;obtain⟨J,C⟩: ∃J,j-1=J:=⟨_,rfl⟩
     rw[C] at E F G N;have f0:IntKind.i64.wrap ((j:Int)-1)=(J:Int):=by rw[U s,C]
     have g0:(J:Int)<(n:Int):=by omega
     have R:((j:Int)==0)=false:=by simp;omega
     have d:=η b;clear b;simp only at y;have k3:(Q !=h)=true:=by rw[bne,y];rfl
     clear y;clear C q U;obtain⟨S,off,rfl,c0,c1,c2⟩:=u.o j m;generalize L.getD j en0=e at*;obtain⟨e0,e1,e2⟩:=e;simp only at X;simp only at g6
     cases pe;go_wp2_with fail
     ((try simp only[Exit.inBlock,Exit.then]);refine bodyPost_ret (v:= .tuple #[.agg #[.int .u64 0,.int .i64 0,.int .i64 0],.bool false]) (by rw[results_cell_tmp rfl];go_simp) rfl ?_)
     refine⟨by first|rfl|(rw[d.o];rfl),?_⟩;exact q9v D.o
   ·rcases a0 with g|⟨g,m,X|⟨X,g6⟩⟩
    ·have g7:¬((j:Int)<(n:Int)):=of_decide_eq_false g
     obtain⟨pb,I,pe,E,F,G⟩:=u.o (j-1) N;obtain⟨x,q⟩: ∃x,L.getD (j-1) en0=x:=⟨_,rfl⟩
     rw[q] at E F G b y g4;obtain⟨Q,x1,x2⟩:=x;obtain⟨J,C⟩: ∃J,j-1=J:=⟨_,rfl⟩
     rw[C] at E F G N;have f0:IntKind.i64.wrap ((j:Int)-1)=(J:Int):=by rw[U s,C]
     have g0:(J:Int)<(n:Int):=by omega
     have R:((j:Int)==0)=false:=by simp;omega
     have d:=η b;clear b;simp only at y g4;have k3:(Q !=h)=false:=by rw[bne,y];rfl
     clear y;clear C q U;subst pe;go_wp2_with fail
     ((try simp only[Exit.inBlock,Exit.then]);refine bodyPost_ret (v:= .tuple #[.agg #[.int .u64 Q,.int .i64 x1,.int .i64 x2],.bool true]) (by rw[results_cell_tmp rfl];go_simp) rfl ?_)
     refine⟨by first|rfl|(rw[d.o];rfl),?_⟩;exact q9v D.o
    ·obtain⟨pb,I,pe,E,F,G⟩:=u.o (j-1) N
     obtain⟨x,q⟩: ∃x,L.getD (j-1) en0=x:=⟨_,rfl⟩
     rw[q] at E F G b y g4;obtain⟨Q,x1,x2⟩:=x;obtain⟨J,C⟩: ∃J,j-1=J:=⟨_,rfl⟩
     rw[C] at E F G N;have f0:IntKind.i64.wrap ((j:Int)-1)=(J:Int):=by rw[U s,C]
     have g0:(J:Int)<(n:Int):=by omega
     have R:((j:Int)==0)=false:=by simp;omega
     have d:=η b;clear b;simp only at y g4;have k3:(Q !=h)=false:=by rw[bne,y];rfl
     clear y;clear C q U;obtain⟨S,off,rfl,c0,c1,c2⟩:=u.o j m;generalize L.getD j en0=e at*;obtain⟨e0,e1,e2⟩:=e;simp only at X
     cases pe;go_wp2_with fail
     ((try simp only[Exit.inBlock,Exit.then]);refine bodyPost_ret (v:= .tuple #[.agg #[.int .u64 Q,.int .i64 x1,.int .i64 x2],.bool true]) (by rw[results_cell_tmp rfl];go_simp) rfl ?_)
     refine⟨by first|rfl|(rw[d.o];rfl),?_⟩;exact q9v D.o
    ·obtain⟨pb,I,pe,E,F,G⟩:=u.o (j-1) N
     obtain⟨x,q⟩: ∃x,L.getD (j-1) en0=x:=⟨_,rfl⟩
     rw[q] at E F G b y g4;obtain⟨Q,x1,x2⟩:=x;obtain⟨J,C⟩: ∃J,j-1=J:=⟨_,rfl⟩
     rw[C] at E F G N;have f0:IntKind.i64.wrap ((j:Int)-1)=(J:Int):=by rw[U s,C]
     have g0:(J:Int)<(n:Int):=by omega
     have R:((j:Int)==0)=false:=by simp;omega
     have d:=η b;clear b;simp only at y g4;have k3:(Q !=h)=false:=by rw[bne,y];rfl
     clear y;clear C q U;obtain⟨S,off,rfl,c0,c1,c2⟩:=u.o j m;generalize L.getD j en0=e at*;obtain⟨e0,e1,e2⟩:=e;simp only at X;simp only at g6
     cases pe;go_wp2_with fail
     ((try simp only[Exit.inBlock,Exit.then]);refine bodyPost_ret (v:= .tuple #[.agg #[.int .u64 Q,.int .i64 x1,.int .i64 x2],.bool true]) (by rw[results_cell_tmp rfl];go_simp) rfl ?_)
     refine⟨by first|rfl|(rw[d.o];rfl),?_⟩;exact q9v D.o
end
section
def q4L(e:En)(L:List En):List En:=if e∈L then L else L.take (lbE L e)++e::L.drop (lbE L e)
theorem q7X : ∀{a b:List En},q1E a->q1E b->(∀x,x∈a↔x∈b)->a=b
 |[],[],_,_,_=>rfl
 |[],y::b,_,_,h=>absurd ((h y).2 (.head _)) (by simp)
 |x::a,[],_,_,h=>absurd ((h x).1 (.head _)) (by simp)
 | x ::a,y::b,ha,hb,h=>by
  obtain⟨r,u⟩:=List.pairwise_cons.1 ha;obtain⟨s,C⟩:=List.pairwise_cons.1 hb;have o:x=y:=by
   rcases List.mem_cons.1 ((h x).1 (.head _)) with m|m
   ·exact m
   rcases List.mem_cons.1 ((h y).2 (.head _)) with q|q
   ·exact q.symm
   have:=q1f (r y q) (s x m);rw[q0i] at this;cases this
  subst o;have j:x∉a:=fun hm=>by have:=r x hm;rw[q0i] at this;cases this
  have l:x∉b:=fun hm=>by have:=s x hm;rw[q0i] at this;cases this
  rw [q7X u C fun z=>⟨fun d=>by
   rcases List.mem_cons.1 ((h z).1 (.tail _ d)) with e|e
   ·exact absurd (e▸d) j
   ·exact e,fun d=>by
   rcases List.mem_cons.1 ((h z).2 (.tail _ d)) with e|e
   ·exact absurd (e▸d) l
   ·exact e⟩]
theorem mem_addE{x:En}:x∈q4L e L↔x=e\/x∈L:=by
 unfold q4L
 split
 ·next h=>
  constructor
  ·exact .inr
  ·rintro(rfl|b)
   ·exact h
   ·exact b
 ·rw [List.mem_append,List.mem_cons]
  constructor
  ·rintro(b|b|b)
   ·exact .inr (List.mem_of_mem_take b)
   ·exact .inl b
   ·exact .inr (List.mem_of_mem_drop b)
  ·rintro(b|b)
   ·exact .inr (.inl b)
   ·rw[<-List.take_append_drop (lbE L e) L,List.mem_append] at b
    rcases b with b|b
    ·exact .inl b
    ·exact .inr (.inr b)
theorem z9n(d:q1E L)(e:En): ∀x∈L.take (lbE L e),q0v x e=true:=fun x j=>by
 obtain⟨i,b,rfl⟩:=List.getElem_of_mem j;rw[Θ] at b;rw[List.getElem_take,q4R e d (γ (by omega)),ζ (by omega)]
theorem z7z(d:q1E L)(e:En): ∀x∈L.drop (lbE L e),q0v x e=false:=fun x j=>by
 obtain⟨i,b,rfl⟩:=List.getElem_of_mem j;rw[List.length_drop] at b;rw[List.getElem_drop,q4R e d (γ (by omega)),ε (by omega)]
theorem z2F(b:q1E L):q1E (q4L e L):=by
 unfold q4L
 split
 ·exact b
 ·next hn=>
  refine List.pairwise_append.2 ⟨b.sublist (List.take_sublist _ _),List.pairwise_cons.2 ⟨fun x d=>?_,b.sublist (List.drop_sublist _ _)⟩,fun x d y m=>?_⟩
  ·cases h:q0v e x with
   |true=>rfl
   |false=>exact absurd (q6E (z7z b e x d) h▸List.mem_of_mem_drop d) hn
  ·rcases List.mem_cons.1 m with rfl|m
   ·exact z9n b _ x d
   ·have j:=z9n b e x d
    have l:=z7z b e y m
    cases h:q0v x y with
    |true=>rfl
    | false=>
     cases h3:q0v y x with
     |true=>rw[q1f h3 j] at l;cases l
     |false=>rw[q6E h h3,l] at j;cases j
theorem y2b(he:q3Q e=true)(b: ∀x∈L,q3Q x=true): ∀x∈q4L e L,q3Q x=true:=fun x d=>by
 rcases mem_addE.1 d with rfl|h
 ·exact he
 ·exact b x h
theorem z3f:(q4L e L).length=if e∈L then L.length else L.length+1:=by
 unfold q4L;have:=q5J L e
 split
 ·rfl
 ·rw[θ,χ,Θ,List.length_drop];omega
theorem z7W{e:En}{L:List En}:(q4L e L).length<=L.length+1:=by rw[z3f];split<;>omega
theorem y4n(j:q1E L):e∈L↔ ∃h:lbE L e<L.length,L.getD (lbE L e) en0=e:=by
 constructor
 ·intro hm
  obtain⟨i,o,h⟩:=List.getElem_of_mem hm;have b:=q4R e j (γ o);rw[h,q0i] at b;have q:lbE L e<=i:=by have:=of_decide_eq_false b.symm;omega
  refine⟨by omega,?_⟩;rw[δ,γ (by omega)];show L[lbE L e]=e;rcases Nat.lt_or_ge (lbE L e) i with l|l
  ·have d:=List.pairwise_iff_getElem.1 j _ _ (by omega) o l
   have m:=q4R e j (γ (i:=lbE L e) (by omega));rw[h] at d;rw[d,ε (by omega)] at m
   cases m
  ·have d:lbE L e=i:=by omega
   simp only[d,h]
 ·rintro⟨h,b⟩
  rw[δ,γ h] at b;rw[<-b];exact List.getElem_mem h
theorem y3K(e:En)(d:0<=e.2.2):lbE L (e.1,e.2.1,0)<=lbE L e:=by
 unfold lbE;rw[<-List.countP_eq_length_filter,<-List.countP_eq_length_filter];refine List.countP_mono_left fun x _ b=>?_
 rw[lessE_iff] at b⊢;simp only at b⊢;omega
def q1W(Ls:List (List En)):List En:=Ls.flatten.foldr q4L []
theorem q5j(Ls:List (List En)):q1E (q1W Ls):=by
 unfold q1W
 induction Ls.flatten with
 |nil=>exact List.Pairwise.nil
 |cons a l ih=>exact z2F ih
theorem mem_union{Ls:List (List En)}{x:En}:x∈q1W Ls↔ ∃L∈Ls,x∈L:=by
 rw[<-List.mem_flatten];unfold q1W
 induction Ls.flatten with
 |nil=>simp
 |cons a l ih=>rw[List.foldr_cons,mem_addE,ih,List.mem_cons]
theorem y2D{Ls:List (List En)}(h: ∀L∈Ls,∀x∈L,q3Q x=true): ∀x∈q1W Ls,q3Q x=true:=fun x j=>by
 obtain⟨L,b,d⟩:=mem_union.1 j;exact h L b x d
def q7B :List (List En)->List Nat->Nat
 |L::Ls,p::P=>(L.length-p)+q7B Ls P
 |_,_=>0
def q9y(e:En)(L:List En)(p:Nat):Nat:=if p<L.length/\L.getD p en0=e then p+1 else p
def q5L(e:En):List (List En)->List Nat->List Nat
 |L::Ls,p::P=>q9y e L p::q5L e Ls P
 |_,P=>P
theorem q5M(e:En): ∀(Ls:List (List En)) (P:List Nat),(q5L e Ls P).length=P.length
 |[],P=>by cases P<;>rfl
 |L::Ls,[]=>rfl
 |L::Ls,p::P=>by rw[q5L,χ,q5M e Ls P,χ]
theorem z1W(e:En): ∀(Ls:List (List En)) (P:List Nat) (k:Nat),k<Ls.length->k<P.length->(q5L e Ls P).getD k 0=q9y e (Ls.getD k []) (P.getD k 0)
 |[],P,k,h,_=>by simp at h
 |L::Ls,[],k,_,h=>by simp at h
 |L::Ls,p::P,0,_,_=>rfl
 | L::Ls,p::P,k+1,h,h2=>by
  rw[q5L];simp only[List.getD_cons_succ];exact z1W e Ls P k (by simpa using h) (by simpa using h2)
theorem z5y(e:En): ∀(Ls:List (List En)) (P:List Nat),q7B Ls (q5L e Ls P)<=q7B Ls P
 |[],P=>by cases P<;>exact ι _
 |L::Ls,[]=>ι _
 | L::Ls,p::P=>by
  rw[q5L,q7B,q7B];have:=z5y e Ls P;unfold q9y
  split<;>omega
theorem z5z(e:En): ∀(Ls:List (List En)) (P:List Nat) (k:Nat),k<Ls.length->k<P.length->P.getD k 0<(Ls.getD k []).length->(Ls.getD k []).getD (P.getD k 0) en0=e->q7B Ls (q5L e Ls P)+1<=q7B Ls P
 |[],P,k,h,_,_,_=>by simp at h
 |L::Ls,[],k,_,h,_,_=>by simp at h
 | L::Ls,p::P,0,_,_,h,h2=>by
  rw[q5L,q7B,q7B];have:=z5y e Ls P;simp only[List.getD_cons_zero] at h h2;unfold q9y;rw[ξ ⟨h,h2⟩];omega
 | L::Ls,p::P,k+1,h1,h2,h3,h4=>by
  rw[q5L,q7B,q7B];simp only[List.getD_cons_succ] at h3 h4;have:=z5z e Ls P k (by simpa using h1) (by simpa using h2) h3 h4;unfold q9y
  split<;>omega
theorem z0e : ∀Ls:List (List En),q7B Ls (List.replicate Ls.length 0)=Ls.flatten.length
 |[]=>rfl
 | L::Ls=>by
  rw[χ,List.replicate_succ,q7B,z0e Ls,List.flatten_cons,θ];omega
structure MrgI(Ls:List (List En))(P:List Nat)(out:List En):Prop where
 len:P.length=Ls.length
 le: ∀k,k<Ls.length->P.getD k 0<=(Ls.getD k []).length
 sort:q1E out
 mem: ∀x,(∃L∈Ls,x∈L)↔x∈out\/ ∃k,k<Ls.length/\x∈(Ls.getD k []).drop (P.getD k 0)
 lt: ∀o∈out,∀k,k<Ls.length-> ∀x∈(Ls.getD k []).drop (P.getD k 0),q0v o x=true
 cnt:out.length+q7B Ls P<=Ls.flatten.length
def BestI(Ls:List (List En))(P:List Nat)(k:Nat)(best:Int):Prop:=
 (best= -1/\ ∀j,j<k->(Ls.getD j []).length<=P.getD j 0)\/
 ∃b:Nat,best=(b:Int)/\b<k/\P.getD b 0<(Ls.getD b []).length/\ ∀j,j<k->P.getD j 0<(Ls.getD j []).length->q0v ((Ls.getD j []).getD (P.getD j 0) en0) ((Ls.getD b []).getD (P.getD b 0) en0)=false
theorem BestI.start(Ls:List (List En))(P:List Nat):BestI Ls P 0 (-1):= .inl ⟨rfl,fun j b=>by omega⟩
theorem BestI.skip{Ls:List (List En)}{b:Int}(h:BestI Ls P k b)(q:(Ls.getD k []).length<=P.getD k 0):BestI Ls P (k+1) b:=by
 rcases h with⟨d,l⟩|⟨c,d,l,m,o⟩
 ·refine .inl ⟨d,fun j r=>?_⟩
  rcases Nat.lt_or_ge j k with h|h
  ·exact l j h
  ·obtain rfl:j=k:=by omega
   exact q
 ·refine .inr ⟨c,d,by omega,m,fun j r s=>?_⟩
  rcases Nat.lt_or_ge j k with h|h
  ·exact o j h s
  ·obtain rfl:j=k:=by omega
   omega
theorem BestI.first{Ls:List (List En)}(h: ∀j,j<k->(Ls.getD j []).length<=P.getD j 0)(d:P.getD k 0<(Ls.getD k []).length):BestI Ls P (k+1) (k:Int):=by
 refine .inr ⟨k,rfl,by omega,d,fun j m l=>?_⟩;rcases Nat.lt_or_ge j k with b|b
 ·have:=h j b;omega
 ·obtain rfl:j=k:=by omega
  exact q0i _
theorem BestI.take{Ls:List (List En)}{b:Nat}(m:P.getD k 0<(Ls.getD k []).length)
  (hm: ∀j,j<k->P.getD j 0<(Ls.getD j []).length->q0v ((Ls.getD j []).getD (P.getD j 0) en0) ((Ls.getD b []).getD (P.getD b 0) en0)=false)
  (o:q0v ((Ls.getD k []).getD (P.getD k 0) en0) ((Ls.getD b []).getD (P.getD b 0) en0)=true):BestI Ls P (k+1) (k:Int):=by
 refine .inr ⟨k,rfl,by omega,m,fun j q d=>?_⟩;rcases Nat.lt_or_ge j k with l|l
 ·cases h:q0v ((Ls.getD j []).getD (P.getD j 0) en0) ((Ls.getD k []).getD (P.getD k 0) en0) with
  |false=>rfl
  |true=>exact absurd (hm j l d) (by rw[q1f h o];decide)
 ·obtain rfl:j=k:=by omega
  exact q0i _
theorem BestI.keep{Ls:List (List En)}{b:Nat}(q:b<k)(l:P.getD b 0<(Ls.getD b []).length)
  (hm: ∀j,j<k->P.getD j 0<(Ls.getD j []).length->q0v ((Ls.getD j []).getD (P.getD j 0) en0) ((Ls.getD b []).getD (P.getD b 0) en0)=false)
  (o:q0v ((Ls.getD k []).getD (P.getD k 0) en0) ((Ls.getD b []).getD (P.getD b 0) en0)=false):BestI Ls P (k+1) (b:Int):=by
 refine .inr ⟨b,rfl,by omega,l,fun j r d=>?_⟩;rcases Nat.lt_or_ge j k with m|m
 ·exact hm j m d
 ·obtain rfl:j=k:=by omega
  exact o
theorem z2d{Q:List Nat}(l:P.length=Q.length)(h: ∀j,j<P.length->P.getD j 0=Q.getD j 0):P=Q:=by
 refine List.ext_getElem l fun j b d=>?_
 have:=h j b;rw[δ,δ,γ b,γ d] at this;exact this
theorem q6o(P:List Nat)(k p j:Nat)(b:k<P.length):(P.set k p).getD j 0=if j=k then p else P.getD j 0:=by
 rw[δ,List.getElem?_set,δ]
 split
 ·next h=>subst h;simp[b]
 ·next h=>rw[κ (fun e=>h e.symm)]
theorem mem_drop_getD{p:Nat}{x:En}:x∈L.drop p↔ ∃i,p<=i/\i<L.length/\L.getD i en0=x:=by
 constructor
 ·intro h
  obtain⟨i,d,rfl⟩:=List.getElem_of_mem h;rw[List.length_drop] at d;refine⟨p+i,by omega,by omega,?_⟩;rw[List.getElem_drop,δ,γ (by omega)]
  rfl
 ·rintro⟨i,j,b,rfl⟩
  rw[δ,γ b];refine List.mem_iff_getElem.2 ⟨i-p,by rw[List.length_drop];omega,?_⟩;rw[List.getElem_drop];show L[p+(i-p)]=L[i];simp only[show p+(i-p)=i from by omega]
theorem q7C(h:q1E L){j:Nat}(b:i<j)(d:j<L.length):q0v (L.getD i en0) (L.getD j en0)=true:=by
 have:=List.pairwise_iff_getElem.1 h i j (by omega) d b;rw[δ,γ (by omega),δ,γ d];exact this
theorem z3x{Ls:List (List En)}{x:En}:(∃L∈Ls,x∈L)↔ ∃k,k<Ls.length/\x∈Ls.getD k []:=by
 constructor
 ·rintro⟨L,h,d⟩
  obtain⟨k,b,rfl⟩:=List.getElem_of_mem h;exact⟨k,b,by rw[δ,γ b];exact d⟩
 ·rintro⟨k,b,d⟩
  rw[δ,γ b] at d;exact⟨_,List.getElem_mem b,d⟩
theorem z9A{p:Nat}(l:q1E L)(h:p=p0\/(p=p0+1/\p0<L.length/\L.getD p0 en0=e))(j:p<L.length)(he:L.getD p en0=e):p=p0:=by
 rcases h with h|⟨h,m,d⟩
 ·exact h
 ·have b:=q7C l (show p0<p by omega) j
  rw[d,he,q0i] at b
  cases b
theorem z2t{p:Nat}(h:p=p0\/(p=p0+1/\p0<L.length/\L.getD p0 en0=e))(j:¬(p<L.length/\L.getD p en0=e)):q9y e L p0=p:=by
 unfold q9y;rcases h with h|⟨h,b,d⟩
 ·subst h;rw[κ j]
 ·rw[ξ ⟨b,d⟩,h]
theorem MrgI.start(Ls:List (List En)):MrgI Ls (List.replicate Ls.length 0) []:=by
 have b: ∀k,(List.replicate Ls.length 0).getD k 0=0:=fun k=>by
  rw[δ,List.getElem?_replicate]
  split<;>rfl
 refine⟨by simp,fun k _=>by rw[b];omega,List.Pairwise.nil,fun x=>?_,fun o d=>by simp at d,by rw[z0e];simp⟩;rw[z3x];simp only[b,List.drop_zero,List.not_mem_nil,false_or]
theorem MrgI.done{Ls:List (List En)}{b:List En}(h:MrgI Ls P b)(m: ∀j,j<Ls.length->(Ls.getD j []).length<=P.getD j 0):b=q1W Ls:=by
 refine q7X h.sort (q5j Ls) fun x=>?_
 rw[mem_union,h.mem]
 constructor
 ·exact .inl
 ·rintro(d|⟨k,d,l⟩)
  ·exact d
  ·rw[List.drop_eq_nil_of_le (m k d)] at l;cases l
theorem MrgI.step{Ls:List (List En)}{J:List En}(h:MrgI Ls P J)(W: ∀L∈Ls,q1E L){b:Nat}(O:b<Ls.length)(I:P.getD b 0<(Ls.getD b []).length)
  (r: ∀j,j<Ls.length->P.getD j 0<(Ls.getD j []).length->q0v ((Ls.getD j []).getD (P.getD j 0) en0) ((Ls.getD b []).getD (P.getD b 0) en0)=false):
  MrgI Ls (q5L ((Ls.getD b []).getD (P.getD b 0) en0) Ls P) (J++[(Ls.getD b []).getD (P.getD b 0) en0]):=by
 obtain⟨e,he⟩: ∃e,(Ls.getD b []).getD (P.getD b 0) en0=e:=⟨_,rfl⟩
 have V:=z5z e Ls P b O (by rw[h.len];exact O) I he;rw[he] at r⊢;have E: ∀k,k<Ls.length->q1E (Ls.getD k []):=fun k d=>by
  rw[δ,γ d];exact W _ (List.getElem_mem d)
 have Q: ∀k,k<Ls.length-> ∀x∈(Ls.getD k []).drop (P.getD k 0),q0v x e=false:=fun k d x F=>by
  obtain⟨i,l,m,rfl⟩:=mem_drop_getD.1 F;rcases Nat.lt_or_ge (P.getD k 0) i with s|s
  ·have C:=q7C (E k d) s m
   cases D:q0v ((Ls.getD k []).getD i en0) e with
   |false=>rfl
   |true=>exact absurd (r k d (by omega)) (by rw[q1f C D];decide)
  ·have C:P.getD k 0=i:=by omega
   rw[<-C];exact r k d (by omega)
 have G: ∀k,k<Ls.length->(q5L e Ls P).getD k 0=q9y e (Ls.getD k []) (P.getD k 0):=fun k d=>z1W e Ls P k d (by rw[h.len];exact d)
 have q: ∀k,k<Ls.length-> ∀x,x∈(Ls.getD k []).drop ((q5L e Ls P).getD k 0)↔x∈(Ls.getD k []).drop (P.getD k 0)/\x≠e:=fun k d x=>by
  rw[G k d,mem_drop_getD,mem_drop_getD];unfold q9y
  constructor
  ·rintro⟨i,l,m,rfl⟩
   split at l
   ·rename_i s
    refine⟨⟨i,by omega,m,rfl⟩,fun N=>?_⟩;have:=q7C (E k d) (show P.getD k 0<i by omega) m;rw[s.2,N,q0i] at this
    cases this
   ·rename_i s
    refine⟨⟨i,l,m,rfl⟩,fun N=>?_⟩;rcases Nat.lt_or_ge (P.getD k 0) i with C|C
    ·have D:=q7C (E k d) C m
     have U:=r k d (by omega);rw[N] at D;rw[D] at U;cases U
    ·have D:P.getD k 0=i:=by omega
     exact s ⟨by omega,by rw[D];exact N⟩
  ·rintro⟨⟨i,l,m,rfl⟩,R⟩
   refine⟨i,?_,m,rfl⟩
   split
   ·rename_i s
    rcases Nat.lt_or_ge (P.getD k 0) i with C|C
    ·omega
    ·have D:P.getD k 0=i:=by omega
     rw[D] at s;exact absurd s.2 R
   ·exact l
 have u:e∈(Ls.getD b []).drop (P.getD b 0):=mem_drop_getD.2 ⟨_,ι _,I,he⟩;refine⟨by rw[q5M,h.len],fun k d=>?_,?_,fun x=>?_,fun o S k d x F=>?_,?_⟩
 ·rw[G k d]
  have:=h.le k d;unfold q9y
  split<;>omega
 ·refine List.pairwise_append.2 ⟨h.sort,List.pairwise_singleton _ _,fun o S y X=>?_⟩
  obtain rfl:=List.mem_singleton.1 X;exact h.lt o S b O _ u
 ·rw [h.mem,List.mem_append,Γ]
  constructor
  ·rintro(l|⟨k,l,m⟩)
   ·exact .inl (.inl l)
   ·by_cases F:x=e
    ·exact .inl (.inr F)
    ·exact .inr ⟨k,l,(q k l x).2 ⟨m,F⟩⟩
  ·rintro((l|rfl)|⟨k,l,m⟩)
   ·exact .inl l
   ·exact .inr ⟨b,O,u⟩
   ·exact .inr ⟨k,l,((q k l x).1 m).1⟩
 ·have l:=(q k d x).1 F
  rcases List.mem_append.1 S with m|m
  ·exact h.lt o m k d x l.1
  ·obtain rfl:=List.mem_singleton.1 m
   cases s:q0v o x with
   |true=>rfl
   |false=>exact absurd (q6E (Q k d x l.1) s) l.2
 ·have:=h.cnt
  rw[θ,List.length_singleton];omega
end
section
open Go.RowKit
structure EGr(w:World)(ao:Option Addr)(n cap:Nat)(Ls:List (List En)):Prop where
 len:Ls.length=n
 fits:n<=cap
 bound:cap<=9223372036854775807
 nil:ao=none->cap=0
 rd: ∀i,i<n-> ∃b off ai ci,ao=some ⟨b,off,none⟩/\w.cell? ⟨b,off+i,none⟩=some (.slice ai (Ls.getD i []).length ci)/\Ens w ai (Ls.getD i []).length ci (Ls.getD i [])
theorem EGr.ext{w w':World}{Ls:List (List En)}(h:EGr w ao n cap Ls)(k:Ext w w'):EGr w' ao n cap Ls:=
 ⟨h.len,h.fits,h.bound,h.nil,fun i d=>let ⟨b,off,ai,ci,e,hc,hr⟩:=h.rd i d;⟨b,off,ai,ci,e,q0A k hc,hr.ext k⟩⟩
structure EGo(w:World)(B:Nat)(v:Value)(vs:List Value)(Ls:List (List En)):Prop where
 own:w.ownsRow B 203 1 v Ls.length vs
 row: ∀i,w.ownsRow B 128 3 (vs.getD i (.slice none 0 0)) (Ls.getD i []).length (ecs (Ls.getD i []))
theorem q8u(L:List α)(x d:α)(i:Nat):(L++[x]).getD i d=if i<L.length then L.getD i d else if i=L.length then x else d:=by
 simp only[δ]
 split
 ·rw[List.getElem?_append_left (by assumption)]
 ·split
  ·rename_i j b
   subst b;simp
  ·rename_i j b
   rw[List.getElem?_eq_none (by simp;omega)];rfl
section
variable {w w':World}{B B':Nat}{v v' x:Value}{vs:List Value}{Ls:List (List En)}{M:List En}
theorem EGo.nil(w:World)(B:Nat):EGo w B (.slice none 0 0) [] []:=⟨World.ownsRow_nil _ _ _ _,fun i=>by simpa [ecs] using World.ownsRow_nil w B 128 3⟩
theorem EGo.len(h:EGo w B v vs Ls):vs.length=Ls.length:=by have:=h.own.1;simpa using this
theorem EGo.ext(h:EGo w B v vs Ls)(k:Ext w w'):EGo w' B v vs Ls:=⟨q0I h.own k,fun i=>q0I (h.row i) k⟩
theorem EGo.same(h:EGo w B v vs Ls)(k: ∀i,(v.ownBlock=some i\/ ∃q,(vs.getD q (.slice none 0 0)).ownBlock=some i)->w'.heap[i]? =w.heap[i]?):EGo w' B v vs Ls:=
 ⟨q0Z h.own fun i b=>k i (.inl b),fun q=>q0Z (h.row q) fun i b=>k i (.inr ⟨q,b⟩)⟩
theorem EGo.lt(h:EGo w B v vs Ls)(b:v.ownBlock=some i\/ ∃q,(vs.getD q (.slice none 0 0)).ownBlock=some i):B<=i/\i<w.heap.size:=by
 rcases b with b|⟨q,b⟩
 ·exact q0e h.own i b
 ·exact q0e (h.row q) i b
theorem EGo.push(h:EGo w B v vs Ls)(u:w.ownsRow B' 128 3 x M.length (ecs M))(r:B<=B')
  (j:w'.ownsRow B 203 1 v' (Ls.length+1) (vs++[x]))(s:w.grownBy w' v.ownBlock):EGo w' B v' (vs++[x]) (Ls++[M]):=by
 have l:=h.len;have o: ∀{y:Value} {K:List En} {C:Nat},w.ownsRow C 128 3 y K.length (ecs K)->w'.ownsRow C 128 3 y K.length (ecs K):=fun {y K C} m=>
  q0Z m fun g d=>s.block g (q0e m g d).2 fun e=>by
   obtain⟨D,q⟩:=q3u m d;obtain⟨E,b⟩:=q3u h.own e.symm;rw[q] at b;injection b with b;injection b with _ b _;revert b
   decide
 refine⟨by simpa using j,fun i=>?_⟩;rw[q8u,q8u,l]
 split
 ·exact o (h.row i)
 ·split
  ·exact o (q1I u r)
  ·simpa [ecs] using World.ownsRow_nil w' B 128 3
theorem EGo.grid(h:EGo w B v vs Ls): ∃ao c,v= .slice ao Ls.length c/\EGr w ao Ls.length c Ls:=by
 obtain⟨ao,c,e,q,r,s,u⟩:=(Own.of_row h.own).rd;refine⟨ao,c,e,rfl,q,r,s,fun i D=>?_⟩;have C:=h.len;obtain⟨d,l,m,y⟩:=Ens.of_own (Own.of_row (h.row i));obtain⟨b,off,o,hc⟩:=u.at (j:=i) (by omega);refine⟨b,off,d,l,o,?_,y⟩;rw[hc,<-m,δ,γ (by omega)]
 rfl
end
def q5o(P:List Nat):Array Value:=(P.map fun p:Nat=>Value.int .i64 (p:Int)).toArray
theorem z1V(P:List Nat)(h:k<P.length):(q5o P)[k]? =some (.int .i64 ((P.getD k 0:Nat):Int)):=by
 unfold q5o;rw[List.getElem?_toArray,List.getElem?_map,δ,γ h]
 rfl
theorem z8y(P:List Nat)(k p:Nat):(q5o P).setIfInBounds k (.int .i64 (p:Int))=q5o (P.set k p):=by
 unfold q5o;rw[π,List.map_set]
theorem z6r(n:Nat):Array.replicate n (Value.int .i64 0)=q5o (List.replicate n 0):=by
 unfold q5o;simp
theorem q4r : ∀a b:List UInt8,Op.bytesLess a b=bytesBefore a b
 |[],[]=>rfl
 |[],_::_=>rfl
 |_::_,[]=>rfl
 |a::x,b::y=>by unfold Op.bytesLess bytesBefore;rw[q4r x y]
abbrev Cks :=List (List (List UInt8))
def q4v :Nat->Cks->List (List UInt8×List UInt8)
 |_,[]=>[]
 |i,ps::r=>(q0C 99 (i:Int),q0Y i ps)::q4v (i+1) r
theorem q6C : ∀(C:Cks) (i:Nat),(q4v i C).length=C.length
 |[],_=>rfl
 |ps::r,i=>by simp[q4v,q6C r]
theorem q3l : ∀(C D:Cks) (i:Nat),q4v i (C++D)=q4v i C++q4v (i+C.length) D
 |[],D,i=>rfl
 | ps::r,D,i=>by
  rw[List.cons_append,q4v,q3l r D (i+1),q4v,List.cons_append,χ]
  congr 3;omega
theorem q4C : ∀{C:Cks} {i:Nat} {x:List UInt8×List UInt8},x∈q4v i C-> ∃k,i<=k/\k<i+C.length/\x.1=q0C 99 (k:Int)
 |[],_,_,h=>by cases h
 | ps ::r,i,x,h=>by
  rcases List.mem_cons.1 h with rfl|h
  ·exact⟨i,ι _,by simp,rfl⟩
  ·obtain⟨k,d,j,b⟩:=q4C h
   exact⟨k,by omega,by simp;omega,b⟩
theorem q3b(n:Int):(q0C 99 n).length<=9223372036854775807:=by
 by_cases h:0<=n/\n<=999999
 ·rw[q0X h,χ,q0n];decide
 ·rw[q6t h];decide
theorem y0T(b:i<=999999)(d:k<=999999)(h:i≠k):q0C 99 (i:Int)≠q0C 99 (k:Int):=fun e=>by
 have:=y1S 99 (i:Int) (k:Int) (by omega) (by omega);rw[e,beq_self_eq_true] at this;have:=of_decide_eq_true this.symm;omega
theorem q7b(j:i<=999999)(l:k<=999999)(h:i<k):bytesBefore (q0C 99 (i:Int)) (q0C 99 (k:Int))=true:=by
 have b:=z6q 99 (i:Int) (k:Int) (by omega) (by omega);have d:decide ((i:Int)<(k:Int))=true:=by simp;omega
 rw[d] at b;rw[<-q4r];exact b
theorem q6W{C:Cks}(m:k<=999999)(q:i+C.length<=999999)(h: ∀j,i<=j->j<i+C.length->j≠k): ∀y∈q4v i C,Prod.fst y≠q0C 99 (k:Int):=fun y o=>by
 obtain⟨j,b,d,l⟩:=q4C o;rw[l];exact y0T (by omega) m (h j b d)
theorem z2R{C:Cks}(o:C.length<=200)(l:C[k]? =some ps):q0G Prod.fst (q0C 99 (k:Int)) (q4v 0 C)=some (q0C 99 (k:Int),q0Y k ps):=by
 obtain⟨m,rfl⟩:=List.getElem?_eq_some_iff.1 l;have e:C=C.take k++C[k]::C.drop (k+1):=by
  rw[List.getElem_cons_drop];exact(List.take_append_drop _ _).symm
 have b:(C.take k).length=k:=by simp;omega
 conv=>lhs;rw[e]
 rw[q3l,b,Nat.zero_add,q0p]
 ·rw[q4v];unfold q0G;rw[List.find?_cons_of_pos (by simp)]
 ·exact q6W (by omega) (by rw[b];omega) fun j _ d=>by rw[b] at d;omega
theorem z2S{C:Cks}(l:C.length<=200)(m:C.length<=k)(b:k<=999999):q0G Prod.fst (q0C 99 (k:Int)) (q4v 0 C)=none:=
 q0g (q6W b (by omega) fun j _ d=>by omega)
theorem y0S{C:Cks}(s:C.length<=200):q0G Prod.fst [110,101,119] (q4v 0 C)=none:=q0g fun y m e=>by
 obtain⟨j,o,q,b⟩:=q4C m;rw[e] at b;have r:j<200:=by omega
 rw[q0X (by omega)] at b;have d:=congrArg List.length b;have l:(99::q5u 6 ((j:Int)).toNat).length=7:=by simp[q0n]
 rw[l] at d
 cases d
theorem z0E : ∀(C:Cks) (i:Nat),(q4v i C).map Prod.fst=(List.range' i C.length).map fun k:Nat=>q0C 99 (k:Int)
 |[],_=>rfl
 |ps::r,i=>by rw[q4v,List.map_cons,z0E r,χ,List.range'_succ,List.map_cons]
theorem q1d(a b:List (List UInt8×List UInt8)):q1q (a++b)=q1q a+q1q b:=by simp[q1q,q5z,List.sum_append]
theorem z3Y(x:List UInt8×List UInt8):q1q [x]=x.2.length:=by simp[q1q,q5z]
theorem z7i{D:Cks}(p:List UInt8)(d:D.length<=200):q1Z Prod.fst (q0C 99 (D.length:Int)) (fun x=>(x.1,x.2++q2s p)) (q4v 0 (D++[ps]))=q4v 0 (D++[ps++[p]]):=by
 rw[q3l,q3l,q5k,q3D,Nat.zero_add]
 ·congr 1
  show q1Z Prod.fst (q0C 99 (D.length:Int)) _ [(q0C 99 (D.length:Int),q0Y D.length ps)]=[(q0C 99 (D.length:Int),q0Y D.length (ps++[p]))];rw[z3r];unfold q1Z;simp
 ·exact q6W (by omega) (by omega) fun j _ b=>by omega
theorem z6V{C:Cks}(p:List UInt8)(d:C.length<=200):q1Z Prod.fst (q0C 99 (C.length:Int)) (fun x=>(x.1,x.2++(q3H C.length++q2s p))) (q4v 0 C++[(q0C 99 (C.length:Int),[])])=q4v 0 (C++[[p]]):=by
 rw[q3l,q5k,q3D,Nat.zero_add]
 ·congr 1
  show q1Z Prod.fst (q0C 99 (C.length:Int)) _ [(q0C 99 (C.length:Int),[])]=[(q0C 99 (C.length:Int),q0Y C.length [p])];rw[z6S];unfold q1Z;simp
 ·exact q6W (by omega) (by omega) fun j _ b=>by omega
def q1C(C:Cks):Nat:=(C.map q0M).sum
theorem q6X : ∀(C:Cks) (i:Nat),q1q (q4v i C)=q1C C
 |[],_=>rfl
 | ps::r,i=>by
  have e:q4v i (ps::r)=[(q0C 99 (i:Int),q0Y i ps)]++q4v (i+1) r:=rfl;rw[e,q1d,z3Y,q6X r];simp[q1C,q1a]
structure okC(C:Cks):Prop where
 few:C.length<=200
 size: ∀ps∈C,q0M ps<=4096
 pay: ∀ps∈C,∀p∈ps,p.length<=2000
 full: ∀ps∈C,ps≠[]
structure Oth where
 X:List (List UInt8×List UInt8)
 Z:List (List UInt8×List UInt8)
def noO :Oth:=⟨[],[]⟩
structure okOth(E:Oth):Prop where
 before: ∀y∈E.X,∀k:Nat,k<=999999->bytesBefore y.1 (q0C 99 (k:Int))=true
 behind: ∀y∈E.Z,∀k:Nat,k<=999999->bytesBefore (q0C 99 (k:Int)) y.1=true
 new: ∀y,y∈E.X\/y∈E.Z->y.1≠[110,101,119]
 kind: ∀y,y∈E.X\/y∈E.Z->(q1K y.1).2.2=true->(q1K y.1).1≠99
 len: ∀y,y∈E.X\/y∈E.Z->y.1.length<=1000
 few:E.X.length+E.Z.length<=190
theorem okOth.no :okOth noO:=⟨(fun _ h=>by cases h),(fun _ h=>by cases h),(fun _ h=>by rcases h with h|h<;>cases h),(fun _ h=>by rcases h with h|h<;>cases h),(fun _ h=>by rcases h with h|h<;>cases h),υ _⟩
def q2q(E:Oth):Nat:=q1q E.X+q1q E.Z
def q3y(E:Oth)(C:Cks):List (List UInt8×List UInt8):=E.X++(q4v 0 C++E.Z)
def z6W(E:Oth)(C:Cks):List (List UInt8×List UInt8):=E.X++(q4v 0 C++((q0C 99 (C.length:Int),[])::E.Z))
theorem q8Z(E:Oth)(C:Cks):(q3y E C).length=E.X.length+C.length+E.Z.length:=by simp[q3y,q6C];omega
theorem z4r{a b:List UInt8}(h:bytesBefore a b=true):a≠b:=fun e=>by rw[e,WideAt.bytes_irrefl] at h;cases h
theorem okOth.neX{E:Oth}(h:okOth E)(b:k<=999999): ∀y∈E.X,Prod.fst y≠q0C 99 (k:Int):=fun y d=>z4r (h.before y d k b)
theorem okOth.neZ{E:Oth}(h:okOth E)(b:k<=999999): ∀y∈E.Z,Prod.fst y≠q0C 99 (k:Int):=fun y d e=>z4r (h.behind y d k b) e.symm
theorem q1h{k:α->List UInt8}{nm:List UInt8}{a b:List α}(h: ∀y∈b,k y≠nm):q0G k nm (a++b)=q0G k nm a:=by
 unfold q0G;rw[List.find?_append];have:List.find? (fun y=>k y==nm) b=none:=q0g h;rw[this];simp
theorem q4M{E:Oth}(b:okOth E){C:Cks}(j:C.length<=200)(d:C[k]? =some ps):q0G Prod.fst (q0C 99 (k:Int)) (q3y E C)=some (q0C 99 (k:Int),q0Y k ps):=by
 have l:=(List.getElem?_eq_some_iff.1 d).1;unfold q3y;rw[q0p (b.neX (by omega)),q1h (b.neZ (by omega))];exact z2R j d
theorem z7h{E:Oth}(d:okOth E){C:Cks}(j:C.length<=200)(l:C.length<=k)(b:k<=999999):q0G Prod.fst (q0C 99 (k:Int)) (q3y E C)=none:=by
 unfold q3y;rw[q0p (d.neX b),q1h (d.neZ b)];exact z2S j l b
theorem y0R{E:Oth}(d:okOth E){C:Cks}(j:C.length<=200):q0G Prod.fst [110,101,119] (q3y E C)=none:=by
 unfold q3y;rw[q0p fun y b=>d.new y (.inl b),q1h fun y b=>d.new y (.inr b)];exact y0S j
theorem q8a(E:Oth)(C:Cks):q1q (q3y E C)=q2q E+q1C C:=by
 unfold q3y q2q;rw[q1d,q1d,q6X];omega
theorem z7k(E:Oth)(C:Cks):q1q (z6W E C)=q2q E+q1C C:=by
 have e:z6W E C=E.X++(q4v 0 C++([(q0C 99 (C.length:Int),[])]++E.Z)):=rfl;rw[e,q1d,q1d,q1d,q6X,z3Y];unfold q2q;simp;omega
theorem z7g{E:Oth}(b:okOth E){D:Cks}(p:List UInt8)(d:D.length<=200):q1Z Prod.fst (q0C 99 (D.length:Int)) (fun x=>(x.1,x.2++q2s p)) (q3y E (D++[ps]))=q3y E (D++[ps++[p]]):=by
 unfold q3y;rw[q5k,q5k,q3D (b.neX (by omega)),q3D (b.neZ (by omega)),z7i p d]
theorem q9C{k:α->List UInt8}{x:α}{b:List α}: ∀{a:List α},(∀y∈a,bytesBefore (k y) (k x)=true)->q2G k x (a++b)=a++q2G k x b
 |[],_=>rfl
 | y ::r,h=>by
  have d:=h y (List.mem_cons_self);have j:¬bytesBefore (k x) (k y)=true:=fun l=>by
   have:=WideShapes.bytes_trans _ _ _ d l;rw[WideAt.bytes_irrefl] at this
   cases this
  rw[List.cons_append,q2G,κ j,q9C fun z m=>h z (List.mem_cons_of_mem _ m)]
  rfl
theorem z6m{k:α->List UInt8}{x:α}: ∀{b:List α},(∀y∈b,bytesBefore (k x) (k y)=true)->q2G k x b=x::b
 |[],_=>rfl
 |y::r,h=>by rw[q2G,ξ (h y (List.mem_cons_self))]
theorem y0Q{E:Oth}(d:okOth E){C:Cks}(q:C.length<=200):q2G Prod.fst (q0C 99 (C.length:Int),[]) (q3y E C)=z6W E C:=by
 unfold q3y z6W;rw[q9C fun y b=>d.before y b _ (by omega),q9C fun y b=>?_,z6m fun y b=>d.behind y b _ (by omega)];obtain⟨j,m,o,l⟩:=q4C b;rw[l];exact q7b (by omega) (by omega) (by omega)
theorem z7j{E:Oth}(b:okOth E){C:Cks}(l:C.length<=200):q0G Prod.fst (q0C 99 (C.length:Int)) (z6W E C)=some (q0C 99 (C.length:Int),[]):=by
 unfold z6W;rw[q0p (b.neX (by omega)),q0p (q6W (by omega) (by omega) fun j _ d=>by omega)];unfold q0G;rw[List.find?_cons_of_pos (by simp)]
theorem z6T{E:Oth}(b:okOth E){C:Cks}(p:List UInt8)(d:C.length<=200):q1Z Prod.fst (q0C 99 (C.length:Int)) (fun x=>(x.1,x.2++(q3H C.length++q2s p))) (z6W E C)=q3y E (C++[[p]]):=by
 have e:z6W E C=E.X++((q4v 0 C++[(q0C 99 (C.length:Int),[])])++E.Z):=by simp[z6W]
 rw[e];unfold q3y;rw[q5k,q5k,q3D (b.neX (by omega)),q3D (b.neZ (by omega)),z6V p d]
theorem z6U(E:Oth)(C:Cks):(q3y E C).map Prod.fst=E.X.map Prod.fst++((List.range C.length).map (fun k:Nat=>q0C 99 (k:Int))++E.Z.map Prod.fst):=by
 unfold q3y;rw[List.map_append,List.map_append,z0E,List.range_eq_range']
structure Lgd(E:Oth)(σ:DM)(c s:Int)(C:Cks):Prop where
 pl:Pl σ (c+(q2q E:Int)) s (q3y E C)
 ok:okC C
 oth:okOth E
theorem okC.nil :okC []:=⟨υ _,(fun _ h=>by cases h),(fun _ h=>by cases h),(fun _ h=>by cases h)⟩
theorem okC.grow{D:Cks}(h:okC (D++[ps]))(j:p.length<=2000)(l:q0M ps+(p.length+12)<=4096):okC (D++[ps++[p]]):=by
 have m:ps∈D++[ps]:=by simp
 refine⟨by simpa using h.few,fun q hq=>?_,fun q hq=>?_,fun q hq=>?_⟩
 all_goals rcases List.mem_append.1 hq with b|b
 ·exact h.size q (List.mem_append_left _ b)
 ·obtain rfl:=List.mem_singleton.1 b;rw[q2z];exact l
 ·exact h.pay q (List.mem_append_left _ b)
 ·obtain rfl:=List.mem_singleton.1 b
  intro x o;rcases List.mem_append.1 o with d|d
  ·exact h.pay ps m x d
  ·obtain rfl:=List.mem_singleton.1 d;exact j
 ·exact h.full q (List.mem_append_left _ b)
 ·obtain rfl:=List.mem_singleton.1 b;simp
theorem okC.more{C:Cks}(h:okC C)(d:p.length<=2000)(l:C.length<200):okC (C++[[p]]):=by
 refine⟨by simp;omega,fun q hq=>?_,fun q hq=>?_,fun q hq=>?_⟩
 all_goals rcases List.mem_append.1 hq with b|b
 ·exact h.size q b
 ·obtain rfl:=List.mem_singleton.1 b;rw[q5S];omega
 ·exact h.pay q b
 ·obtain rfl:=List.mem_singleton.1 b
  intro x j;obtain rfl:=List.mem_singleton.1 j;exact d
 ·exact h.full q b
 ·obtain rfl:=List.mem_singleton.1 b;simp
def q4O(C:Cks):Int:=match C.getLast? with|none=>0|some ps=>((C.length:Int)-1)*4096+(q0M ps:Int)
theorem z5C :q4O []=0:=rfl
theorem q3I(D:Cks)(ps:List (List UInt8)):q4O (D++[ps])=(D.length:Int)*4096+(q0M ps:Int):=by
 unfold q4O;simp
def q0P(C:Cks):List Int:=C.map fun ps=>(q0M ps:Int)
theorem q3A(D:Cks)(ps:List (List UInt8)):q0P (D++[ps])=q0P D++[(q0M ps:Int)]:=by simp[q0P]
theorem q0u(C:Cks):(q0P C).length=C.length:=by simp[q0P]
theorem q9U(D:Cks)(ps:List (List UInt8)):(q0P (D++[ps])).getD D.length 0=(q0M ps:Int):=by
 rw[q3A];have:D.length=(q0P D).length:=(q0u D).symm;rw[δ,this,List.getElem?_append_right (ι _)];simp
theorem z7E(D:Cks)(ps b:List (List UInt8)):(q0P (D++[ps])).set D.length (q0M b:Int)=q0P (D++[b]):=by
 rw[q3A,q3A];have:D.length=(q0P D).length:=(q0u D).symm;rw[this];simp
theorem z4Z(C:Cks)(i:Nat)(h:C[i]? =some ps):(q0P C).getD i 0=(q0M ps:Int):=by
 unfold q0P;rw[δ,List.getElem?_map,h];rfl
def q4w(C:Cks)(p:List UInt8):Bool:=match C.getLast? with|none=>false|some ps=>decide (q0M ps+(p.length+12)<=4096)
def q1P(free:Int)(C:Cks)(p:List UInt8):Int×Int×Cks:=
 if 2000<p.length then(0,3,C)
 else if q4w C p then(if free-((p.length:Int)+12)<6000 then(0,60,C) else(q4O C,0,C.dropLast++[C.getLast?.getD []++[p]]))
 else if 200<=C.length\/free-((p.length:Int)+24)<6000 then(0,60,C) else((C.length:Int)*4096+12,0,C++[[p]])
def q5B(free sure:Int)(C:Cks)(p:List UInt8):Int:=
 if (q1P free C p).2.1=0/\q4w C p=false/\C≠[] then q4O C else sure
def q3M :Nat->List (List UInt8)->List (Nat×List UInt8)
 |_,[]=>[]
 |a,p::r=>(a,p)::q3M (a+p.length+12) r
def q1M :Nat->Cks->List (Nat×List UInt8)
 |_,[]=>[]
 |b,ps::r=>q3M (b+12) ps++q1M (b+4096) r
def q4J(C:Cks)(pos:Int):Option (Nat×List UInt8):=(q1M 0 C).find? fun r=>decide (pos<=(r.1:Int))
def q6z(C:Cks)(pos:Int):List UInt8×Int:=
 if pos<0 then([],4) else match C[(pos/4096).toNat]? with
 |none=>([],4)
 | some ps=>match (if 12<=pos % 4096 then q6Q (q0Y (pos/4096).toNat ps) (pos % 4096).toNat else none) with
  |none=>([],4)
  |some (p,_)=>(p,0)
theorem q8K : ∀(ps:List (List UInt8)) (a:Nat),∀r∈q3M a ps,a<=r.1/\r.1+r.2.length+12<=a+(ps.map fun p=>p.length+12).sum
 |[],_,r,h=>by cases h
 | p ::t,a,r,h=>by
  rw[q3M] at h;rcases List.mem_cons.1 h with rfl|h
  ·simp only[List.map_cons,List.sum_cons];omega
  ·have:=q8K t _ r h
   simp only[List.map_cons,List.sum_cons];omega
theorem q7A : ∀(C:Cks) (b:Nat),(∀ps∈C,q0M ps<=4096)-> ∀r∈q1M b C,b+12<=r.1/\r.1<b+4096*C.length
 |[],_,_,r,h=>by cases h
 | ps ::t,b,hs,r,h=>by
  rw[q1M] at h;have d:=hs ps (List.mem_cons_self);unfold q0M at d;rcases List.mem_append.1 h with h|h
  ·have:=q8K ps _ r h
   simp only[χ];omega
  ·have:=q7A t _ (fun q hq=>hs q (List.mem_cons_of_mem _ hq)) r h
   simp only[χ];omega
theorem q6K : ∀(C:Cks) (b n:Nat),q1M b C=q1M b (C.take n)++q1M (b+4096*n) (C.drop n)
 |C,b,0=>by simp[q1M]
 |[],b,n+1=>by simp[q1M]
 | ps::t,b,n+1=>by
  rw[List.take_succ_cons,List.drop_succ_cons,q1M,q1M,q6K t (b+4096) n,List.append_assoc]
  congr 3;omega
theorem z3E(C D:Cks)(b:Nat):q1M b (C++D)=q1M b C++q1M (b+4096*C.length) D:=by
 have:=q6K (C++D) b C.length
 rwa [List.take_left,List.drop_left] at this
theorem z8P{pos:Int}{l m:List (Nat×List UInt8)}(h: ∀r∈l,(r.1:Int)<pos):(l++m).find? (fun r=>decide (pos<=(r.1:Int)))=m.find? fun r=>decide (pos<=(r.1:Int)):=by
 rw[List.find?_append];have:l.find? (fun r=>decide (pos<=(r.1:Int)))=none:=List.find?_eq_none.2 fun r b=>by have:=h r b;simp;omega
 rw[this];rfl
theorem z4H(C:Cks)(pos:Int)(d: ∀ps∈C,q0M ps<=4096)(n:Nat)(l:(n:Int)*4096<=pos):q4J C pos=(q1M (4096*n) (C.drop n)).find? fun r=>decide (pos<=(r.1:Int)):=by
 unfold q4J;rw[q6K C 0 n,Nat.zero_add];refine z8P fun r b=>?_
 have:=q7A (C.take n) 0 (fun ps h=>d ps (List.mem_of_mem_take h)) r b;have j:(C.take n).length<=n:=List.length_take_le _ _;omega
theorem q5P : ∀(ps:List (List UInt8)) (a:Nat),(q3M a ps).length=ps.length
 |[],_=>rfl
 |p::t,a=>by simp[q3M,q5P t]
theorem z5u : ∀(ps:List (List UInt8)) (a k:Nat) (p:List UInt8),ps[k]? =some p->(q3M a ps)[k]? =some (a+((ps.take k).map fun p=>p.length+12).sum,p)
 |[],_,k,p,h=>by simp at h
 | q::t,a,0,p,h=>by
  simp only[List.getElem?_cons_zero,Option.some.injEq] at h;subst h;simp[q3M]
 | q::t,a,k+1,p,h=>by
  rw[List.getElem?_cons_succ] at h;rw[q3M,List.getElem?_cons_succ,z5u t _ k p h,List.take_succ_cons,List.map_cons,List.sum_cons]
  congr 2;omega
theorem z0c : ∀(ps:List (List UInt8)) (a k:Nat) (p:List UInt8),ps[k]? =some p->(q1j a ps)[k]? =some (a+((ps.take k).map fun p=>p.length+12).sum,a+((ps.take k).map fun p=>p.length+12).sum+p.length+12)
 |[],_,k,p,h=>by simp at h
 | q::t,a,0,p,h=>by
  simp only[List.getElem?_cons_zero,Option.some.injEq] at h;subst h;simp[q1j]
 | q::t,a,k+1,p,h=>by
  rw[List.getElem?_cons_succ] at h;rw[q1j,List.getElem?_cons_succ,z0c t _ k p h,List.take_succ_cons,List.map_cons,List.sum_cons]
  congr 2<;>omega
theorem y2L(n:Nat)(ps:List (List UInt8))(k:Nat)(p:List UInt8)(h:ps[k]? =some p)(b:p.length<=2000):q6Q (q0Y n ps) (q0M (ps.take k))=some (p,q0M (ps.take k)+p.length+12):=by
 obtain⟨d,rfl⟩:=List.getElem?_eq_some_iff.1 h;have e:ps=ps.take k++ps[k]::ps.drop (k+1):=by rw[List.getElem_cons_drop];exact(List.take_append_drop _ _).symm
 have:=z8b n (ps.take k) ps[k] (ps.drop (k+1)) b
 rwa [<-e] at this
end
end Go.Proofs.YtjlcdfpbllobaaaGreatDoor
