/- Plain laws. -/
import Derived.Test.YteabhdclmodefaaGreatDoorG3CX
import Derived.Test.YteabhdclmodefaaGreatDoorG7CX
import Derived.Laws.BitsLemmas
set_option linter.unusedVariables false
set_option linter.unusedSimpArgs false
set_option maxRecDepth 100000
set_option maxHeartbeats 6400000
namespace Go.Proofs.YteabhdclmodefaaGreatDoor
variable {a k i:Nat}{p:List UInt8}{α:Type}{L:List En}{ps:List (List UInt8)}
section
open Go.RowKit
theorem q1w(a b:List UInt8):(⟨a.toArray⟩:ByteArray)++⟨b.toArray⟩=⟨(a++b).toArray⟩:=by rw[ByteArray.mk_append_mk];first|done|simp
def q2R(p:List UInt8):List UInt8:=q0W (be 4 p.length++p)++be 4 p.length
def q3w(s:List UInt8)(a:Nat):Nat:=q0o ((s.drop a).take 4)
def isR(s:List UInt8)(a:Nat):Bool:=
 decide (a+12<=s.length)&&decide (q3w s a<=2000)&&decide (a+q3w s a+12<=s.length)
 &&q1O ((s.drop a).take (q3w s a+8))&&decide ((s.drop (a+q3w s a+8)).take 4=(s.drop a).take 4)
def q5E(s:List UInt8)(a:Nat):Option (List UInt8×Nat):=
 if isR s a then some ((s.drop (a+4)).take (q3w s a),a+q3w s a+12) else none
def q5R :Nat->List UInt8->Nat->List (Nat×Nat)
 |0,_,_=>[]
 | f+1,s,a=>match q5E s a with
  |none=>[]
  |some (_,b)=>(a,b)::q5R f s b
def q0m(s:List UInt8)(a:Nat):List (Nat×Nat):=q5R (s.length+1) s a
def q8s(a:Nat)(l:List (Nat×Nat)):Nat:=(l.getLast?.map Prod.snd).getD a
def q2a(n:Nat):List UInt8:=q0W ([99,104,110,107]++be 4 n)
def q4j(ps:List (List UInt8)):List UInt8:=(ps.map q2R).flatten
def q0T(n:Nat)(ps:List (List UInt8)):List UInt8:=q2a n++q4j ps
def q0K(ps:List (List UInt8)):Nat:=12+(ps.map fun p=>p.length+12).sum
def q1b :Nat->List (List UInt8)->List (Nat×Nat)
 |_,[]=>[]
 |a,p::r=>(a,a+p.length+12)::q1b (a+p.length+12) r
theorem q1I(p:List UInt8):(q2R p).length=p.length+12:=by
 simp only[q2R,θ,q0h,q0F];omega
theorem q2r(n:Nat):(q2a n).length=12:=by simp[q2a,q0h,q0F]
theorem q9n(ps:List (List UInt8)):(q4j ps).length=(ps.map fun p=>p.length+12).sum:=by
 unfold q4j
 induction ps with
 |nil=>rfl
 |cons p r ih=>simp[q1I,ih]
theorem q1L(n:Nat)(ps:List (List UInt8)):(q0T n ps).length=q0K ps:=by
 simp[q0T,q0K,q2r,q9n]
theorem z3a(ps:List (List UInt8))(p:List UInt8):q4j (ps++[p])=q4j ps++q2R p:=by simp[q4j]
theorem z1D(n:Nat)(ps:List (List UInt8))(p:List UInt8):q0T n (ps++[p])=q0T n ps++q2R p:=by simp[q0T,z3a]
theorem z3f(n:Nat)(p:List UInt8):q0T n [p]=q2a n++q2R p:=by simp[q0T,q4j]
theorem q2V(ps:List (List UInt8))(p:List UInt8):q0K (ps++[p])=q0K ps+(p.length+12):=by simp[q0K,List.sum_append];omega
theorem q4R(p:List UInt8):q0K [p]=12+(p.length+12):=by simp[q0K]
theorem z0G{s:List UInt8}{b:Nat}(h:q5E s a=some (p,b)):
  p.length<=2000/\b=a+p.length+12/\b<=s.length/\p=(s.drop (a+4)).take p.length/\q3w s a=p.length:=by
 unfold q5E at h
 split at h
 case isFalse=>cases h
 case isTrue hi=>
  unfold isR at hi;simp only[Ξ,Φ] at hi;obtain⟨⟨⟨⟨h1,h2⟩,h3⟩,h4⟩,j⟩:=hi;simp only[Option.some.injEq,Prod.mk.injEq] at h;obtain⟨rfl,rfl⟩:=h;have d:((s.drop (a+4)).take (q3w s a)).length=q3w s a:=by simp;omega
  rw[d];exact⟨h2,rfl,h3,rfl,rfl⟩
theorem z9G(d m b:List α)(h:a=d.length):(d++m++b).drop a=m++b:=by
 subst h;rw[List.append_assoc,List.drop_left]
theorem z2n(d p b:List UInt8)(x:p.length<=2000)(q:a=d.length):q5E (d++q2R p++b) a=some (p,a+p.length+12):=by
 have m:(d++q2R p++b).drop a=be 4 p.length++(p++(q7J (q0d (be 4 p.length++p))++(be 4 p.length++b))):=by
  rw[z9G _ _ _ q];simp[q2R,q0W]
 have l:(be 4 p.length).length=4:=q0F 4 _;have o:=q4v (q0d (be 4 p.length++p));have j:q3w (d++q2R p++b) a=p.length:=by
  unfold q3w;rw[m,List.take_left' l,q4U];omega
 have r:(d++q2R p++b).length=a+(p.length+12)+b.length:=by simp[q1I,q];omega
 have v:isR (d++q2R p++b) a=true:=by
  unfold isR;rw[j];simp only[Ξ,Φ];refine⟨⟨⟨⟨by omega,x⟩,by omega⟩,?_⟩,?_⟩
  ·have e:((d++q2R p++b).drop a).take (p.length+8)=q0W (be 4 p.length++p):=by
    rw[m];have:be 4 p.length++(p++(q7J (q0d (be 4 p.length++p))++(be 4 p.length++b)))=q0W (be 4 p.length++p)++(be 4 p.length++b):=by simp[q0W]
    rw[this];exact List.take_left' (by simp[q0h,l];omega)
   rw[e];unfold q1O;simp only[Ξ,Φ,q0h];refine⟨by omega,?_⟩;have s:(q0W (be 4 p.length++p)).take ((be 4 p.length++p).length+4-4)=be 4 p.length++p:=by
    unfold q0W;exact List.take_left' (by omega)
   rw[s]
  ·have e:(d++q2R p++b).drop (a+p.length+8)=be 4 p.length++b:=by
    have:a+p.length+8=a+(p.length+8):=by omega
    rw[this,<-List.drop_drop,m];have:be 4 p.length++(p++(q7J (q0d (be 4 p.length++p))++(be 4 p.length++b)))=(be 4 p.length++(p++q7J (q0d (be 4 p.length++p))))++(be 4 p.length++b):=by simp
    rw[this];exact List.drop_left' (by simp[l,o];omega)
   rw[e,m,List.take_left' l,List.take_left' l]
 unfold q5E;rw[ξ v,j]
 congr 2
 rw[<-List.drop_drop,m];have u:(be 4 p.length++(p++(q7J (q0d (be 4 p.length++p))++(be 4 p.length++b)))).drop 4=p++(q7J (q0d (be 4 p.length++p))++(be 4 p.length++b)):=List.drop_left' l;rw[u];exact List.take_left' rfl
theorem z5g(s:List UInt8)(a:Nat)(h:s.length<a+12):q5E s a=none:=by
 unfold q5E isR;rw[ε (by omega)];simp
theorem q8D : ∀(ps:List (List UInt8)) (pre:List UInt8) (f a:Nat),(∀p∈ps,p.length<=2000)->a=pre.length->ps.length<f->q5R f (pre++q4j ps) a=q1b a ps
 |[],pre,0,a,_,_,hf=>by simp at hf
 | [],pre,f+1,a,_,ha,_=>by
  unfold q5R;rw[z5g _ _ (by simp[q4j,ha])]
  rfl
 |p::r,pre,0,a,_,_,hf=>by simp at hf
 | p::r,pre,f+1,a,hp,ha,hf=>by
  have e:pre++q4j (p::r)=pre++q2R p++q4j r:=by simp[q4j]
  rw[e];unfold q5R;rw[z2n pre p (q4j r) (hp p (List.mem_cons_self)) ha];show _::q5R f (pre++q2R p++q4j r) (a+p.length+12)=_;rw[q8D r (pre++q2R p) f _ (fun q hq=>hp q (List.mem_cons_of_mem _ hq)) (by simp[q1I,ha];omega) (by simp at hf;omega)]
  rfl
theorem z8m(ps:List (List UInt8)):12*ps.length<=(ps.map fun p=>p.length+12).sum:=by
 induction ps with
 |nil=>simp
 |cons p r ih=>simp only[List.map_cons,List.sum_cons,χ];omega
theorem q7n(n:Nat)(ps:List (List UInt8))(b: ∀p∈ps,p.length<=2000):q0m (q0T n ps) 12=q1b 12 ps:=by
 unfold q0m;refine q8D ps (q2a n) _ 12 b (q2r n).symm ?_;have:=z8m ps;show _<(q0T n ps).length+1;rw[q1L];unfold q0K;omega
theorem q6H : ∀(ps:List (List UInt8)) (p:List UInt8) (a:Nat),q1b a (ps++[p])=q1b a ps++[(a+(ps.map fun p=>p.length+12).sum,a+(ps.map fun p=>p.length+12).sum+p.length+12)]
 |[],p,a=>by simp[q1b]
 | q::r,p,a=>by
  rw[List.cons_append,q1b,q6H r p,q1b,List.cons_append];simp only[List.map_cons,List.sum_cons]
  congr 4<;>omega
theorem z1i : ∀(ps:List (List UInt8)) (a:Nat),q8s a (q1b a ps)=a+(ps.map fun p=>p.length+12).sum:=fun ps a=>by
 rcases List.eq_nil_or_concat ps with rfl|⟨r,p,rfl⟩
 ·rfl
 ·rw[List.concat_eq_append,q6H]
  unfold q8s;simp only[List.getLast?_append,List.getLast?_singleton,Option.some_or,Option.map_some,Option.getD_some,List.map_append,List.map_cons,List.map_nil,List.sum_append,List.sum_cons,List.sum_nil];omega
theorem q2Z : ∀(ps:List (List UInt8)) (a:Nat),(q1b a ps).length=ps.length
 |[],_=>rfl
 |p::r,a=>by simp[q1b,q2Z r]
theorem z5c(n:Nat)(l:List (List UInt8))(p:List UInt8)(r:List (List UInt8))(b:p.length<=2000):q5E (q0T n (l++p::r)) (q0K l)=some (p,q0K l+p.length+12):=by
 have e:q0T n (l++p::r)=q0T n l++q2R p++q4j r:=by simp[q0T,q4j]
 rw[e];exact z2n _ _ _ b (q1L n l).symm
theorem z0K(a b:En)(w:World):Calls Tryz.prog 180 #[enV a,enV b] w fun e w'=>e= .returned (.bool (q0g a b))/\Ext w w':=by
 obtain⟨d,j,l⟩:=a;obtain⟨b1,b2,b3⟩:=b;have m:=η (q5T w (.cells #[.int .u64 d,.int .i64 j,.int .i64 l] 145) (.cells #[.int .u64 b1,.int .i64 b2,.int .i64 b3] 145));have q:Hd (q0g (d,j,l) (b1,b2,b3)=if d≠b1 then decide (d<b1) else if j≠b2 then decide (j<b2) else decide (l<b3)):=η rfl;show Calls Tryz.prog 180 #[.agg #[.int .u64 d,.int .i64 j,.int .i64 l],.agg #[.int .u64 b1,.int .i64 b2,.int .i64 b3]] w _;by_cases h1:d=b1
 ·subst h1
  by_cases h2:j=b2
  ·subst h2
   go_enter Tryz.func180,Tryz.ntmps180;go_wp2_with fail;go_ret;exact⟨rb (by rw[q.o];simp),m.o⟩
  ·have r:(j !=b2)=true:=by simpa using h2
   go_enter Tryz.func180,Tryz.ntmps180;go_wp2_with fail;go_ret;exact⟨rb (by rw[q.o];simp[h2]),m.o⟩
 ·have r:(d !=b1)=true:=by simpa using h1
  go_enter Tryz.func180,Tryz.ntmps180;go_wp2_with fail;go_ret;exact⟨rb (by rw[q.o];simp[h1]),m.o⟩
theorem q8b(l:k+1<L.length):q3y (L.take (k+2))=(q3y (L.take (k+1))&&q0g (L.getD k en0) (L.getD (k+1) en0)):=by
 rw[Bool.eq_iff_iff,Ξ,q3H,q3H];have j:L.take (k+2)=L.take (k+1)++[L.getD (k+1) en0]:=q0V L en0 (k+1) l;have d:L.take (k+1)=L.take k++[L.getD k en0]:=q0V L en0 k (by omega);rw[j];unfold q0z;rw[List.pairwise_append]
 constructor
 ·rintro⟨h1,_,h3⟩
  exact⟨h1,h3 _ (by rw[d];simp) _ (by simp)⟩
 ·rintro⟨h1,h2⟩
  refine⟨h1,by simp,fun x b y m=>?_⟩;obtain rfl:=List.mem_singleton.1 m;rw[d] at b h1;rcases List.mem_append.1 b with b|b
  ·exact q1N ((List.pairwise_append.1 h1).2.2 x b _ (by simp)) h2
  ·obtain rfl:=List.mem_singleton.1 b;exact h2
theorem z1w(b:k+1<L.length)(h:q0g (L.getD k en0) (L.getD (k+1) en0)=false):q3y L=false:=by
 cases hs:q3y L with
 |false=>rfl
 | true=>
  rw[q3H] at hs;have h1:q0z (L.take (k+2)):=hs.sublist (List.take_sublist _ _);rw[<-q3H,q8b b,h,Bool.and_false] at h1
  cases h1
theorem z8W{ao:Option Addr}{n cap:Nat}(w:World)(m:Ens w ao n cap L):Calls Tryz.prog 240 #[.slice ao n cap] w fun e w'=>e= .returned (.bool (q3y L))/\Ext w w':=by
 have G:=η m;have b1:=m.fits;have b2:=m.bound;have j:=η m.len;clear m;go_enter Tryz.func240,Tryz.ntmps240;go_wp2_with fail
 go_loopw [3] (fun i W=> ∃k:Nat,k+1<=max n 1/\i= .int .i64 ((k:Int)+1)/\q3y (L.take (k+1))=true/\Ext w W) (fun i _=>n-(intOf i).toNat)
 case atStart=>
  refine⟨0,by omega,rfl,?_,Ext.refl _⟩
  cases L with
  |nil=>rfl
  |cons a r=>rfl
 case round=>
  obtain⟨k,Y,rfl,C,B⟩:=hrel;have R:=η C;have D:=η B;by_cases u:k+1<n
  ·have U:decide (((k:Int)+1)<(n:Int))=true:=by simp;omega
   obtain⟨b,off,rfl,I,J,M⟩:=(G.o.ext B).at (i:=k) (by omega);obtain⟨_,_,S,N,O,Q⟩:=(G.o.ext B).at (i:=k+1) u
   cases S;have E:=η (q8b (L:=L) (k:=k) (by rw[j.o];exact u));have v:=η (z1w (L:=L) (k:=k) (by rw[j.o];exact u));obtain⟨x,m⟩: ∃x,L.getD k en0=x:=⟨_,rfl⟩
   obtain⟨y,F⟩: ∃y,L.getD (k+1) en0=y:=⟨_,rfl⟩
   rw[m] at I J M;rw[F] at N O Q;rw[m,F] at E v;obtain⟨q,hq⟩: ∃q,q0g x y=q:=⟨_,rfl⟩
   have l:=η (fun W=>z0K x y W);rw[hq] at l E v;obtain⟨x1,x2,x3⟩:=x;obtain⟨y1,y2,y3⟩:=y;unfold enV ec at l;have Z:=q0C I;have u1:=q0C J;have u2:=q0C M;have v0:=q0C N;have v1:=q0C O;have v2:=q0C Q;have V:IntKind.i64.wrap ((k:Int)+1-1)=(k:Int):=by rw[ν];omega
   have d:IntKind.i64.wrap (k:Int)=(k:Int):=by rw[ν];omega
   clear m F C B hq
   cases q with
   | true=>
    go_wp2_with fail;refine q0D (by kernel_rfl) (by kernel_rfl) ?_
    repeat (go_big_quiet_step (first|(go_at_call 180;exact Calls.quiet_ext (l.o _))))
    refine wpQuiet_nil ?_;intro X d;have s:=η (D.o.trans d);clear d;go_wp2_with fail
    go_roundw
    case rel=>exact⟨k+1,by omega,by go_num,by rw[E.o,R.o];rfl,s.o⟩
    case measure=>simp[intOf];omega
   | false=>
    go_wp2_with fail;refine q0D (by kernel_rfl) (by kernel_rfl) ?_
    repeat (go_big_quiet_step (first|(go_at_call 180;exact Calls.quiet_ext (l.o _))))
    refine wpQuiet_nil ?_;intro X d;have s:=η (D.o.trans d);clear d;go_wp2_with fail;go_ret;exact⟨rb (v.o (by first|rfl|trivial)),s.o⟩
  ·have U:decide (((k:Int)+1)<(n:Int))=false:=by simp;omega
   have v:Hd (q3y L=true):=η (by rwa [Δ (by rw[j.o];omega)] at C);clear C B;go_wp2_with fail;go_ret;exact⟨rb v.o,D.o⟩
theorem q2h(s:List UInt8)(m j:Int)(a b:Nat)(l:m=(a:Int))(d:j=(b:Int))(h:a<=b)(h2:b<=s.length){X:List UInt8}(o:(s.take b).drop a=X):
  ∀w,(Instr.slice 9 (.string ⟨s.toArray⟩) (some (.int .i64 m)) (some (.int .i64 j)) none).run Tryz.prog w= .ok (.string ⟨X.toArray⟩) w:=fun w=>by
 have h3:=run_slice_string (P:=Tryz.prog) w 9 ⟨s.toArray⟩ .i64 .i64 m j Tryz.underlying9 (by omega) (by omega) (by simp[ByteArray.size];omega);rw[h3,l,d,<-o];show _=Result.ok (Value.string ⟨((s.take b).drop a).toArray⟩) w;rw[<-q2y];rfl
theorem q2w(s:List UInt8)(j:Int)(b:Nat)(d:j=(b:Int))(h2:b<=s.length):
  ∀w,(Instr.slice 9 (.string ⟨s.toArray⟩) none (some (.int .i64 j)) none).run Tryz.prog w= .ok (.string ⟨(s.take b).toArray⟩) w:=fun w=>by
 have h3:=run_slice_string_to_if (P:=Tryz.prog) w 9 ⟨s.toArray⟩ .i64 j Tryz.underlying9;have l:(ByteArray.size ⟨s.toArray⟩)=s.length:=by simp[ByteArray.size]
 rw[h3,l,ξ (by omega),d];show Result.ok (Value.string ((⟨s.toArray⟩:ByteArray).extract 0 b)) w=_;rw[q2y];rfl
theorem q1f(s:List UInt8)(d:Int)(a:Nat)(b:d=(a:Int))(h2:a<=s.length):
  ∀w,(Instr.slice 9 (.string ⟨s.toArray⟩) (some (.int .i64 d)) none none).run Tryz.prog w= .ok (.string ⟨(s.drop a).toArray⟩) w:=fun w=>by
 have h3:=run_slice_string_from_if (P:=Tryz.prog) w 9 ⟨s.toArray⟩ .i64 d Tryz.underlying9;have j:(ByteArray.size ⟨s.toArray⟩)=s.length:=by simp[ByteArray.size]
 rw[h3,j,ξ (by omega),b];show Result.ok (Value.string ((⟨s.toArray⟩:ByteArray).extract a s.length)) w=_;rw[q2y,List.take_length]
theorem z6M(k:Nat)(N:Int)(w:World)(q:N=(k:Int))(r:k<=9223372036854775807):
  Calls Tryz.prog 171 #[.int .i64 N] w fun e w'=>e= .returned (.string ⟨(be 4 k).toArray⟩)/\Ext w w':=by
 have m:0<=N:=by omega
 have h1:N<=9223372036854775807:=by omega
 have b:N.toNat=k:=by omega
 have l:=η b;clear q b;go_enter Tryz.func171,Tryz.ntmps171;go_wp2_with fail;refine(q7U N 4 _ (by omega) (by omega) m (by omega)).mono ?_;rintro e w1 ⟨rfl,d⟩;have j:=η d;clear d;rw[l.o];go_wp2_with fail;go_ret;exact⟨rfl,j.o⟩
theorem z6G(p:List UInt8)(w:World)(j:2000<p.length)(d:p.length<=9223372036854775807):
  Calls Tryz.prog 119 #[.string ⟨p.toArray⟩] w fun e w'=>e= .returned (.tuple #[.string ⟨#[]⟩,.int .i64 3])/\w=w':=by
 have b:decide ((2000:Int)<(p.length:Int))=true:=by simp;omega
 go_enter Tryz.func119,Tryz.ntmps119;go_wp2_with fail;go_ret2;exact⟨rfl,rfl⟩
theorem z8J(p:List UInt8)(w:World)(y:p.length<=2000):
  Calls Tryz.prog 119 #[.string ⟨p.toArray⟩] w fun e w'=>e= .returned (.tuple #[.string ⟨(q2R p).toArray⟩,.int .i64 0])/\Ext w w':=by
 have v:decide ((2000:Int)<(p.length:Int))=false:=by simp;omega
 obtain⟨n,x⟩: ∃n:Int,n=(p.length:Int):=⟨_,rfl⟩
 have s:Hd (q2R p=q0W (be 4 p.length++p)++be 4 p.length):=η rfl;have d:(be 4 p.length).length=4:=q0F 4 _;have B:(q0W (be 4 p.length++p)).length=p.length+8:=by simp[q0h,d];omega
 have q:=η (fun W=>z6M p.length (p.length:Int) W rfl (by omega));have u:=η (fun W=>z0g (be 4 p.length++p) W (by simp[d];omega));go_enter Tryz.func119,Tryz.ntmps119;go_wp2_with fail;refine(q.o _).mono ?_;rintro e w1 ⟨rfl,b⟩;have r:=η b;clear b;generalize be 4 p.length=X at*;go_wp2_with fail;have m:=u.o w1;generalize q0W (X++p)=Y at*;rw[q1w];refine m.mono ?_;rintro e C ⟨rfl,b⟩;have j:=η (r.o.trans b);clear b;go_wp2_with fail;refine(q.o _).mono ?_;rintro e D ⟨rfl,b⟩;have l:=η (j.o.trans b);clear b;go_wp2_with fail;go_ret2;exact⟨by rw[s.o,q1w];rfl,l.o⟩
def z0H(s:List UInt8)(a:Nat):Value:=match q5E s a with
 |none=> .tuple #[.string ⟨#[]⟩,.int .i64 0,.bool false]
 |some (p,b)=> .tuple #[.string ⟨p.toArray⟩,.int .i64 b,.bool true]
theorem q7D{s:List UInt8}(h:isR s a=false):z0H s a= .tuple #[.string ⟨#[]⟩,.int .i64 0,.bool false]:=by unfold z0H q5E;rw[h];rfl
theorem q5M(s:List UInt8)(a k:Nat):(s.take (a+k)).drop a=(s.drop a).take k:=by rw[List.drop_take];congr 1;omega
theorem q8z(s:List UInt8)(a:Nat)(w:World)(hl:s.length<=4611686018427387903)(ha:a<=4611686018427387903):
  Calls Tryz.prog 95 #[.string ⟨s.toArray⟩,.int .i64 (a:Int)] w fun e w'=>e= .returned (z0H s a)/\Ext w w':=by
 by_cases h1:s.length<a+12
 ·have u:Hd (z0H s a= .tuple #[.string ⟨#[]⟩,.int .i64 0,.bool false]):=η (q7D (by unfold isR;rw[ε (by omega)];rfl))
  have hd:decide (((s.length:Int)-12)<(a:Int))=true:=by simp;omega
  go_enter Tryz.func95,Tryz.ntmps95;go_wp2_with fail;go_ret3;rw[u.o];exact⟨rfl,Ext.refl _⟩
 have b0:decide (((s.length:Int)-12)<(a:Int))=false:=by simp;omega
 obtain⟨X,E⟩: ∃X,(s.drop a).take 4=X:=⟨_,rfl⟩
 have I:X.length=4:=by rw[<-E];simp;omega
 have f0:=q2h s (a:Int) ((a:Int)+4) a (a+4) rfl (by omega) (by omega) (by omega) (by rw[q5M,E]);obtain⟨n,F⟩: ∃n,q3w s a=n:=⟨_,rfl⟩
 have x:q0o (X.take 8)=n:=by rw[Δ (by omega),<-E,<-F];rfl
 have c0:n<4294967296:=by rw[<-x];have:=q1Q (X.take 8);rw[Θ,I] at this;exact this
 have C:=η (fun W=>q7u X W (by omega));rw[x] at C;by_cases h2:2000<n\/s.length<a+n+12
 ·have u:Hd (z0H s a= .tuple #[.string ⟨#[]⟩,.int .i64 0,.bool false]):=η (q7D (by
   unfold isR;rw[F];rcases h2 with h|h
   ·rw[ε (p:=n<=2000) (by omega)];simp
   ·rw[ε (p:=a+n+12<=s.length) (by omega)];simp))
  clear E F x I;by_cases h3:2000<n
  ·have M:decide ((2000:Int)<(n:Int))=true:=by simp;omega
   go_enter Tryz.func95,Tryz.ntmps95;go_wp2_with fail;refine(C.o _).mono ?_;rintro e w1 ⟨rfl,l⟩;have v:=η l;clear l;go_wp2_with fail;go_ret3;rw[u.o];exact⟨rfl,v.o⟩
  ·have h4:s.length<a+n+12:=by omega
   have M:decide ((2000:Int)<(n:Int))=false:=by simp;omega
   have S:decide ((s.length:Int)-12-(a:Int)<(n:Int))=true:=by simp;omega
   go_enter Tryz.func95,Tryz.ntmps95;go_wp2_with fail;refine(C.o _).mono ?_;rintro e w1 ⟨rfl,l⟩;have v:=η l;clear l;go_wp2_with fail;go_ret3;rw[u.o];exact⟨rfl,v.o⟩
 have h5:n<=2000:=by omega
 have h6:a+n+12<=s.length:=by omega
 have M:decide ((2000:Int)<(n:Int))=false:=by simp;omega
 have S:decide ((s.length:Int)-12-(a:Int)<(n:Int))=false:=by simp;omega
 obtain⟨Y,J⟩: ∃Y,(s.drop a).take (n+8)=Y:=⟨_,rfl⟩
 have B:Y.length=n+8:=by rw[<-J];simp;omega
 have g0:=q2h s (a:Int) ((a:Int)+(n:Int)+12-4) a (a+(n+8)) rfl (by omega) (by omega) (by omega) (by rw[q5M,J]);obtain⟨Z,R⟩: ∃Z,(s.drop (a+n+8)).take 4=Z:=⟨_,rfl⟩
 have h0:=q2h s ((a:Int)+(n:Int)+12-4) ((a:Int)+(n:Int)+12) (a+n+8) (a+n+8+4) (by omega) (by omega) (by omega) (by omega) (by rw[q5M,R]);have D:=η (fun W=>z0S Y W (by omega));have V:isR s a=(q1O Y&&decide (Z=X)):=by
  unfold isR;rw[F,ζ (p:=a+12<=s.length) (by omega),ζ h5,ζ h6,J,R,E];simp
 have y:q1O Y=true->(q0q Y).drop 4=(s.drop (a+4)).take n:=fun h=>by
  unfold q0q;rw[ξ h,B,<-J,List.take_take,List.drop_take,List.drop_drop]
  congr 1;omega
 have G:q1O Y=true->(q0q Y).length=n+4:=fun h=>by
  unfold q0q;rw[ξ h,Θ,B];omega
 have U:q5E s a=if isR s a then some ((s.drop (a+4)).take n,a+n+12) else none:=by unfold q5E;rw[F]
 have N:=η V;have HP:=η y;have O:=η G;have HS:=η U;clear E F x R J B V y G U h2 h1;generalize q0q Y=T at*
 cases l:q1O Y with
 | false=>
  have u:Hd (z0H s a= .tuple #[.string ⟨#[]⟩,.int .i64 0,.bool false]):=η (q7D (by rw[N.o,l];rfl));rw[l] at D;go_enter Tryz.func95,Tryz.ntmps95;go_wp2_with fail;refine(C.o _).mono ?_;rintro e w1 ⟨rfl,b⟩;have v:=η b;clear b;go_wp2_with fail;refine(D.o _).mono ?_;rintro e w2 ⟨rfl,d⟩;have m:=η (v.o.trans d);clear d;go_wp2_with fail;refine q0D (by kernel_rfl) (by kernel_rfl) ?_
  repeat (go_big_quiet_step (fail))
  refine wpQuiet_nil ?_;intro w3 j;have q:=η (m.o.trans j);clear j;go_wp2_with fail;go_ret3;rw[u.o];exact⟨rfl,q.o⟩
 | true =>
  by_cases r:Z=X
  ·have u:Hd (z0H s a= .tuple #[.string ⟨(T.drop 4).toArray⟩,.int .i64 ((a:Int)+(n:Int)+12),.bool true]):=η (by
    unfold z0H;rw[HS.o,N.o,l,r,HP.o l]
    simp)
   have Q:=O.o l;have e0: ∀w,(Instr.slice 9 (.string ⟨T.toArray⟩) (some (.int .i64 4)) none none).run Tryz.prog w= .ok (.string ⟨(T.drop 4).toArray⟩) w:=fun w=>by
    exact q1f T 4 4 rfl (by omega) w
   rw[l] at D;generalize T.drop 4=T4 at*;subst r;go_enter Tryz.func95,Tryz.ntmps95;go_wp2_with fail;refine(C.o _).mono ?_;rintro e w1 ⟨rfl,b⟩;have v:=η b;clear b;go_wp2_with fail;refine(D.o _).mono ?_;rintro e w2 ⟨rfl,d⟩;have m:=η (v.o.trans d);clear d;go_wp2_with fail;refine q0D (by kernel_rfl) (by kernel_rfl) ?_
   repeat (go_big_quiet_step (fail))
   refine wpQuiet_nil ?_;intro w3 j;have q:=η (m.o.trans j);clear j;go_wp2_with fail;go_ret3;rw[u.o];exact⟨rfl,q.o⟩
  ·have u:Hd (z0H s a= .tuple #[.string ⟨#[]⟩,.int .i64 0,.bool false]):=η (q7D (by rw[N.o,ε r,Bool.and_false]))
   have d0:(Z==X)=false:=by simpa using r
   have a0:(Z !=X)=true:=by simpa using r
   rw[l] at D;go_enter Tryz.func95,Tryz.ntmps95;go_wp2_with fail;refine(C.o _).mono ?_;rintro e w1 ⟨rfl,b⟩;have v:=η b;clear b;go_wp2_with fail;refine(D.o _).mono ?_;rintro e w2 ⟨rfl,d⟩;have m:=η (v.o.trans d);clear d;go_wp2_with fail;refine q0D (by kernel_rfl) (by kernel_rfl) ?_
   repeat (go_big_quiet_step (fail))
   refine wpQuiet_nil ?_;intro w3 j;have q:=η (m.o.trans j);clear j;go_wp2_with fail;go_ret3;rw[u.o];exact⟨rfl,q.o⟩
theorem z2R(n:Nat)(w:World)(x:n<200):
  Calls Tryz.prog 146 #[.int .i64 (n:Int)] w fun e w'=>e= .returned (.string ⟨(q2a n).toArray⟩)/\Ext w w':=by
 have v:decide ((200:Int)<=(n:Int))=false:=by simp;omega
 have r:Hd (q2a n=q0W ([99,104,110,107]++be 4 n)):=η rfl;have m:=η (fun W=>q7U (n:Int) 4 W (by omega) (by omega) (by omega) (by omega));have s:=η (fun W=>z0g ([99,104,110,107]++be 4 n) W (by simp[q0F]));have u:(be 4 n).length=4:=q0F 4 _;rw[Int.toNat_natCast] at m;generalize q0W ([99,104,110,107]++be 4 n)=Y at*;generalize be 4 n=X at*;go_enter Tryz.func146,Tryz.ntmps146;go_wp2_with fail;refine(m.o _).mono ?_;rintro e w1 ⟨rfl,d⟩;have q:=η d;clear d;go_wp2_with fail;have j:=q1w [99,104,110,107] X;have b:({data:=#[99,104,110,107]}:ByteArray)++{data:=X.toArray}=⟨([99,104,110,107]++X).toArray⟩:=j;rw[b];refine(s.o _).mono ?_;rintro e y ⟨rfl,d⟩;have l:=η (q.o.trans d);clear d;go_wp2_with fail;go_ret;exact⟨by rw[r.o];rfl,l.o⟩
theorem y0Y(N:Int)(p:List UInt8)(w:World)(b:0<=N)(h1:N<=4096)(m:p.length<=2000):
  Calls Tryz.prog 120 #[.int .i64 N,.string ⟨p.toArray⟩] w fun e w'=>e= .returned (.bool (decide ((p.length:Int)+12<=4096-N)))/\w=w':=by
 have d:decide ((0:Int)<=N)=true:=by simpa using b
 have j:decide (N<=(4096:Int))=true:=by simpa using h1
 have l:decide ((p.length:Int)<=(2000:Int))=true:=by simp;omega
 go_enter Tryz.func120,Tryz.ntmps120;go_wp2_with fail;go_ret;exact⟨rfl,rfl⟩
def q7r(s p:List UInt8):Bool:=decide (p.length<=s.length)&&(s.take p.length==p)
theorem q6F(s p:List UInt8)(w:World)(j:s.length<=9223372036854775807)(l:p.length<=9223372036854775807):
  Calls Tryz.prog 130 #[.string ⟨s.toArray⟩,.string ⟨p.toArray⟩] w fun e w'=>e= .returned (.bool (q7r s p))/\w=w':=by
 by_cases h:p.length<=s.length
 ·have b:Hd (q7r s p=(s.take p.length==p)):=η (by unfold q7r;rw[ζ h,Bool.true_and])
  have d:decide ((p.length:Int)<=(s.length:Int))=true:=by simp;omega
  go_enter Tryz.func130,Tryz.ntmps130;go_wp2_with fail;go_ret;rw[b.o];exact⟨rfl,rfl⟩
 ·have b:Hd (q7r s p=false):=η (by unfold q7r;rw[ε h,Bool.false_and])
  have d:decide ((p.length:Int)<=(s.length:Int))=false:=by simp;omega
  go_enter Tryz.func130,Tryz.ntmps130;go_wp2_with fail;go_ret;rw[b.o];exact⟨rfl,rfl⟩
theorem z1T(s p:List UInt8)(w:World)(b:s.length<=9223372036854775807)(d:p.length<=9223372036854775807):
  Calls Tryz.prog 147 #[.string ⟨s.toArray⟩,.string ⟨p.toArray⟩] w fun e w'=>e= .returned (.bool (q7r s p))/\w=w':=by
 go_enter Tryz.func147,Tryz.ntmps147;go_wp2_with fail;refine(q6F s p _ b d).mono ?_;rintro e w1 ⟨rfl,rfl⟩;go_wp2_with fail;go_ret;exact⟨rfl,rfl⟩
theorem q3p : ∀a b:List UInt8,Op.bytesLess a b=bytesBefore a b
 |[],[]=>rfl
 |[],_::_=>rfl
 |_::_,[]=>rfl
 |a::x,b::y=>by unfold Op.bytesLess bytesBefore;rw[q3p x y]
abbrev Cks :=List (List (List UInt8))
def q3t :Nat->Cks->List (List UInt8×List UInt8)
 |_,[]=>[]
 |i,ps::r=>(q0E 99 (i:Int),q0T i ps)::q3t (i+1) r
theorem q4r : ∀(C:Cks) (i:Nat),(q3t i C).length=C.length
 |[],_=>rfl
 |ps::r,i=>by simp[q3t,q4r r]
theorem q3B : ∀(C D:Cks) (i:Nat),q3t i (C++D)=q3t i C++q3t (i+C.length) D
 |[],D,i=>rfl
 | ps::r,D,i=>by
  rw[List.cons_append,q3t,q3B r D (i+1),q3t,List.cons_append,χ]
  congr 3;omega
theorem q3P : ∀{C:Cks} {i:Nat} {x:List UInt8×List UInt8},x∈q3t i C-> ∃k,i<=k/\k<i+C.length/\x.1=q0E 99 (k:Int)
 |[],_,_,h=>by cases h
 | ps ::r,i,x,h=>by
  rcases List.mem_cons.1 h with rfl|h
  ·exact⟨i,ι _,by simp,rfl⟩
  ·obtain⟨k,h1,h2,h3⟩:=q3P h
   exact⟨k,by omega,by simp;omega,h3⟩
theorem q2s(n:Int):(q0E 99 n).length<=9223372036854775807:=by
 by_cases h:0<=n/\n<=999999
 ·rw[q0Y h,χ,q0f];decide
 ·rw[q6a h];decide
theorem z7G(b:i<=999999)(d:k<=999999)(h:i≠k):q0E 99 (i:Int)≠q0E 99 (k:Int):=fun e=>by
 have:=z7z 99 (i:Int) (k:Int) (by omega) (by omega);rw[e,beq_self_eq_true] at this;have:=of_decide_eq_true this.symm;omega
theorem q5z(b:i<=999999)(d:k<=999999)(h:i<k):bytesBefore (q0E 99 (i:Int)) (q0E 99 (k:Int))=true:=by
 have h1:=z4D 99 (i:Int) (k:Int) (by omega) (by omega);have h2:decide ((i:Int)<(k:Int))=true:=by simp;omega
 rw[h2] at h1;rw[<-q3p];exact h1
theorem q5I{C:Cks}(b:k<=999999)(l:i+C.length<=999999)(h: ∀j,i<=j->j<i+C.length->j≠k): ∀y∈q3t i C,Prod.fst y≠q0E 99 (k:Int):=fun y d=>by
 obtain⟨j,h1,h2,h3⟩:=q3P d;rw[h3];exact z7G (by omega) b (h j h1 h2)
theorem q9s{C:Cks}(m:C.length<=200)(d:C[k]? =some ps):q0I Prod.fst (q0E 99 (k:Int)) (q3t 0 C)=some (q0E 99 (k:Int),q0T k ps):=by
 obtain⟨l,rfl⟩:=List.getElem?_eq_some_iff.1 d;have e:C=C.take k++C[k]::C.drop (k+1):=by
  rw[List.getElem_cons_drop];exact(List.take_append_drop _ _).symm
 have b:(C.take k).length=k:=by simp;omega
 conv=>lhs;rw[e]
 rw[q3B,b,Nat.zero_add,q0Z]
 ·rw[q3t];unfold q0I;rw[List.find?_cons_of_pos (by simp)]
 ·exact q5I (by omega) (by rw[b];omega) fun j _ h2=>by rw[b] at h2;omega
theorem q9t{C:Cks}(d:C.length<=200)(l:C.length<=k)(b:k<=999999):q0I Prod.fst (q0E 99 (k:Int)) (q3t 0 C)=none:=
 q0X (q5I b (by omega) fun j _ h2=>by omega)
theorem z7F{C:Cks}(m:C.length<=200):q0I Prod.fst [110,101,119] (q3t 0 C)=none:=q0X fun y l e=>by
 obtain⟨j,h1,h2,h3⟩:=q3P l;rw[e] at h3;have h4:j<200:=by omega
 rw[q0Y (by omega)] at h3;have b:=congrArg List.length h3;have d:(99::q4n 6 ((j:Int)).toNat).length=7:=by simp[q0f]
 rw[d] at b
 cases b
theorem q8C : ∀(C:Cks) (i:Nat),(q3t i C).map Prod.fst=(List.range' i C.length).map fun k:Nat=>q0E 99 (k:Int)
 |[],_=>rfl
 |ps::r,i=>by rw[q3t,List.map_cons,q8C r,χ,List.range'_succ,List.map_cons]
theorem q1M(a b:List (List UInt8×List UInt8)):q2Y (a++b)=q2Y a+q2Y b:=by simp[q2Y,q5k,List.sum_append]
theorem z0p(x:List UInt8×List UInt8):q2Y [x]=x.2.length:=by simp[q2Y,q5k]
theorem z4r{D:Cks}(p:List UInt8)(b:D.length<=200):q1S Prod.fst (q0E 99 (D.length:Int)) (fun x=>(x.1,x.2++q2R p)) (q3t 0 (D++[ps]))=q3t 0 (D++[ps++[p]]):=by
 rw[q3B,q3B,q4i,q3A,Nat.zero_add]
 ·congr 1
  show q1S Prod.fst (q0E 99 (D.length:Int)) _ [(q0E 99 (D.length:Int),q0T D.length ps)]=[(q0E 99 (D.length:Int),q0T D.length (ps++[p]))];rw[z1D];unfold q1S;simp
 ·exact q5I (by omega) (by omega) fun j _ h2=>by omega
theorem z3i{C:Cks}(p:List UInt8)(b:C.length<=200):q1S Prod.fst (q0E 99 (C.length:Int)) (fun x=>(x.1,x.2++(q2a C.length++q2R p))) (q3t 0 C++[(q0E 99 (C.length:Int),[])])=q3t 0 (C++[[p]]):=by
 rw[q3B,q4i,q3A,Nat.zero_add]
 ·congr 1
  show q1S Prod.fst (q0E 99 (C.length:Int)) _ [(q0E 99 (C.length:Int),[])]=[(q0E 99 (C.length:Int),q0T C.length [p])];rw[z3f];unfold q1S;simp
 ·exact q5I (by omega) (by omega) fun j _ h2=>by omega
def q0p(C:Cks):Nat:=(C.map q0K).sum
theorem q5J : ∀(C:Cks) (i:Nat),q2Y (q3t i C)=q0p C
 |[],_=>rfl
 | ps::r,i=>by
  have e:q3t i (ps::r)=[(q0E 99 (i:Int),q0T i ps)]++q3t (i+1) r:=rfl;rw[e,q1M,z0p,q5J r];simp[q0p,q1L]
structure okC(C:Cks):Prop where
 few:C.length<=200
 size: ∀ps∈C,q0K ps<=4096
 pay: ∀ps∈C,∀p∈ps,p.length<=2000
 full: ∀ps∈C,ps≠[]
structure Oth where
 X:List (List UInt8×List UInt8)
 Z:List (List UInt8×List UInt8)
def noO :Oth:=⟨[],[]⟩
structure okOth(E:Oth):Prop where
 before: ∀y∈E.X,∀k:Nat,k<=999999->bytesBefore y.1 (q0E 99 (k:Int))=true
 behind: ∀y∈E.Z,∀k:Nat,k<=999999->bytesBefore (q0E 99 (k:Int)) y.1=true
 new: ∀y,y∈E.X\/y∈E.Z->y.1≠[110,101,119]
 kind: ∀y,y∈E.X\/y∈E.Z->(q1C y.1).2.2=true->(q1C y.1).1≠99
 len: ∀y,y∈E.X\/y∈E.Z->y.1.length<=1000
 few:E.X.length+E.Z.length<=190
theorem okOth.no :okOth noO:=⟨(fun _ h=>by cases h),(fun _ h=>by cases h),(fun _ h=>by rcases h with h|h<;>cases h),(fun _ h=>by rcases h with h|h<;>cases h),(fun _ h=>by rcases h with h|h<;>cases h),υ _⟩
def q2Q(E:Oth):Nat:=q2Y E.X+q2Y E.Z
def q3K(E:Oth)(C:Cks):List (List UInt8×List UInt8):=E.X++(q3t 0 C++E.Z)
def z3j(E:Oth)(C:Cks):List (List UInt8×List UInt8):=E.X++(q3t 0 C++((q0E 99 (C.length:Int),[])::E.Z))
theorem q6q(E:Oth)(C:Cks):(q3K E C).length=E.X.length+C.length+E.Z.length:=by simp[q3K,q4r];omega
theorem z2O{a b:List UInt8}(h:bytesBefore a b=true):a≠b:=fun e=>by rw[e,WideAt.bytes_irrefl] at h;cases h
theorem okOth.neX{E:Oth}(h:okOth E)(b:k<=999999): ∀y∈E.X,Prod.fst y≠q0E 99 (k:Int):=fun y d=>z2O (h.before y d k b)
theorem okOth.neZ{E:Oth}(h:okOth E)(b:k<=999999): ∀y∈E.Z,Prod.fst y≠q0E 99 (k:Int):=fun y d e=>z2O (h.behind y d k b) e.symm
theorem q1V{k:α->List UInt8}{nm:List UInt8}{a b:List α}(h: ∀y∈b,k y≠nm):q0I k nm (a++b)=q0I k nm a:=by
 unfold q0I;rw[List.find?_append];have:List.find? (fun y=>k y==nm) b=none:=q0X h;rw[this];simp
theorem q3Y{E:Oth}(b:okOth E){C:Cks}(j:C.length<=200)(d:C[k]? =some ps):q0I Prod.fst (q0E 99 (k:Int)) (q3K E C)=some (q0E 99 (k:Int),q0T k ps):=by
 have l:=(List.getElem?_eq_some_iff.1 d).1;unfold q3K;rw[q0Z (b.neX (by omega)),q1V (b.neZ (by omega))];exact q9s j d
theorem z4q{E:Oth}(d:okOth E){C:Cks}(j:C.length<=200)(l:C.length<=k)(b:k<=999999):q0I Prod.fst (q0E 99 (k:Int)) (q3K E C)=none:=by
 unfold q3K;rw[q0Z (d.neX b),q1V (d.neZ b)];exact q9t j l b
theorem z7E{E:Oth}(d:okOth E){C:Cks}(j:C.length<=200):q0I Prod.fst [110,101,119] (q3K E C)=none:=by
 unfold q3K;rw[q0Z fun y b=>d.new y (.inl b),q1V fun y b=>d.new y (.inr b)];exact z7F j
theorem q6r(E:Oth)(C:Cks):q2Y (q3K E C)=q2Q E+q0p C:=by
 unfold q3K q2Q;rw[q1M,q1M,q5J];omega
theorem z4t(E:Oth)(C:Cks):q2Y (z3j E C)=q2Q E+q0p C:=by
 have e:z3j E C=E.X++(q3t 0 C++([(q0E 99 (C.length:Int),[])]++E.Z)):=rfl;rw[e,q1M,q1M,q1M,q5J,z0p];unfold q2Q;simp;omega
theorem z4p{E:Oth}(b:okOth E){D:Cks}(p:List UInt8)(d:D.length<=200):q1S Prod.fst (q0E 99 (D.length:Int)) (fun x=>(x.1,x.2++q2R p)) (q3K E (D++[ps]))=q3K E (D++[ps++[p]]):=by
 unfold q3K;rw[q4i,q4i,q3A (b.neX (by omega)),q3A (b.neZ (by omega)),z4r p d]
theorem q7G{k:α->List UInt8}{x:α}{b:List α}: ∀{a:List α},(∀y∈a,bytesBefore (k y) (k x)=true)->q3l k x (a++b)=a++q3l k x b
 |[],_=>rfl
 | y ::r,h=>by
  have h1:=h y (List.mem_cons_self);have h2:¬bytesBefore (k x) (k y)=true:=fun h3=>by
   have:=WideShapes.bytes_trans _ _ _ h1 h3;rw[WideAt.bytes_irrefl] at this
   cases this
  rw[List.cons_append,q3l,κ h2,q7G fun z d=>h z (List.mem_cons_of_mem _ d)]
  rfl
theorem z4A{k:α->List UInt8}{x:α}: ∀{b:List α},(∀y∈b,bytesBefore (k x) (k y)=true)->q3l k x b=x::b
 |[],_=>rfl
 |y::r,h=>by rw[q3l,ξ (h y (List.mem_cons_self))]
theorem z7D{E:Oth}(d:okOth E){C:Cks}(l:C.length<=200):q3l Prod.fst (q0E 99 (C.length:Int),[]) (q3K E C)=z3j E C:=by
 unfold q3K z3j;rw[q7G fun y b=>d.before y b _ (by omega),q7G fun y b=>?_,z4A fun y b=>d.behind y b _ (by omega)];obtain⟨j,h1,h2,h3⟩:=q3P b;rw[h3];exact q5z (by omega) (by omega) (by omega)
theorem z4s{E:Oth}(b:okOth E){C:Cks}(d:C.length<=200):q0I Prod.fst (q0E 99 (C.length:Int)) (z3j E C)=some (q0E 99 (C.length:Int),[]):=by
 unfold z3j;rw[q0Z (b.neX (by omega)),q0Z (q5I (by omega) (by omega) fun j _ h2=>by omega)];unfold q0I;rw[List.find?_cons_of_pos (by simp)]
theorem z3g{E:Oth}(b:okOth E){C:Cks}(p:List UInt8)(d:C.length<=200):q1S Prod.fst (q0E 99 (C.length:Int)) (fun x=>(x.1,x.2++(q2a C.length++q2R p))) (z3j E C)=q3K E (C++[[p]]):=by
 have e:z3j E C=E.X++((q3t 0 C++[(q0E 99 (C.length:Int),[])])++E.Z):=by simp[z3j]
 rw[e];unfold q3K;rw[q4i,q4i,q3A (b.neX (by omega)),q3A (b.neZ (by omega)),z3i p d]
theorem z3h(E:Oth)(C:Cks):(q3K E C).map Prod.fst=E.X.map Prod.fst++((List.range C.length).map (fun k:Nat=>q0E 99 (k:Int))++E.Z.map Prod.fst):=by
 unfold q3K;rw[List.map_append,List.map_append,q8C,List.range_eq_range']
structure Lgd(E:Oth)(σ:DM)(c s:Int)(C:Cks):Prop where
 pl:Pl σ (c+(q2Q E:Int)) s (q3K E C)
 ok:okC C
 oth:okOth E
theorem okC.nil :okC []:=⟨υ _,(fun _ h=>by cases h),(fun _ h=>by cases h),(fun _ h=>by cases h)⟩
theorem okC.grow{D:Cks}(h:okC (D++[ps]))(b:p.length<=2000)(d:q0K ps+(p.length+12)<=4096):okC (D++[ps++[p]]):=by
 have m:ps∈D++[ps]:=by simp
 refine⟨by simpa using h.few,fun q hq=>?_,fun q hq=>?_,fun q hq=>?_⟩
 all_goals rcases List.mem_append.1 hq with h1|h1
 ·exact h.size q (List.mem_append_left _ h1)
 ·obtain rfl:=List.mem_singleton.1 h1;rw[q2V];exact d
 ·exact h.pay q (List.mem_append_left _ h1)
 ·obtain rfl:=List.mem_singleton.1 h1
  intro x j;rcases List.mem_append.1 j with h2|h2
  ·exact h.pay ps m x h2
  ·obtain rfl:=List.mem_singleton.1 h2;exact b
 ·exact h.full q (List.mem_append_left _ h1)
 ·obtain rfl:=List.mem_singleton.1 h1;simp
theorem okC.more{C:Cks}(h:okC C)(b:p.length<=2000)(j:C.length<200):okC (C++[[p]]):=by
 refine⟨by simp;omega,fun q hq=>?_,fun q hq=>?_,fun q hq=>?_⟩
 all_goals rcases List.mem_append.1 hq with h1|h1
 ·exact h.size q h1
 ·obtain rfl:=List.mem_singleton.1 h1;rw[q4R];omega
 ·exact h.pay q h1
 ·obtain rfl:=List.mem_singleton.1 h1
  intro x d;obtain rfl:=List.mem_singleton.1 d;exact b
 ·exact h.full q h1
 ·obtain rfl:=List.mem_singleton.1 h1;simp
def q4t(C:Cks):Int:=match C.getLast? with|none=>0|some ps=>((C.length:Int)-1)*4096+(q0K ps:Int)
theorem z2d :q4t []=0:=rfl
theorem q2b(D:Cks)(ps:List (List UInt8)):q4t (D++[ps])=(D.length:Int)*4096+(q0K ps:Int):=by
 unfold q4t;simp
def q0N(C:Cks):List Int:=C.map fun ps=>(q0K ps:Int)
theorem q2W(D:Cks)(ps:List (List UInt8)):q0N (D++[ps])=q0N D++[(q0K ps:Int)]:=by simp[q0N]
theorem q0c(C:Cks):(q0N C).length=C.length:=by simp[q0N]
theorem q7a(D:Cks)(ps:List (List UInt8)):(q0N (D++[ps])).getD D.length 0=(q0K ps:Int):=by
 rw[q2W];have:D.length=(q0N D).length:=(q0c D).symm;rw[δ,this,List.getElem?_append_right (ι _)];simp
theorem z4S(D:Cks)(ps b:List (List UInt8)):(q0N (D++[ps])).set D.length (q0K b:Int)=q0N (D++[b]):=by
 rw[q2W,q2W];have:D.length=(q0N D).length:=(q0c D).symm;rw[this];simp
theorem z1t(C:Cks)(i:Nat)(h:C[i]? =some ps):(q0N C).getD i 0=(q0K ps:Int):=by
 unfold q0N;rw[δ,List.getElem?_map,h];rfl
def q3u(C:Cks)(p:List UInt8):Bool:=match C.getLast? with|none=>false|some ps=>decide (q0K ps+(p.length+12)<=4096)
def q1D(free:Int)(C:Cks)(p:List UInt8):Int×Int×Cks:=
 if 2000<p.length then(0,3,C)
 else if q3u C p then(if free-((p.length:Int)+12)<6000 then(0,60,C) else(q4t C,0,C.dropLast++[C.getLast?.getD []++[p]]))
 else if 200<=C.length\/free-((p.length:Int)+24)<6000 then(0,60,C) else((C.length:Int)*4096+12,0,C++[[p]])
def q4B(free sure:Int)(C:Cks)(p:List UInt8):Int:=
 if (q1D free C p).2.1=0/\q3u C p=false/\C≠[] then q4t C else sure
def q2f :Nat->List (List UInt8)->List (Nat×List UInt8)
 |_,[]=>[]
 |a,p::r=>(a,p)::q2f (a+p.length+12) r
def q1B :Nat->Cks->List (Nat×List UInt8)
 |_,[]=>[]
 |b,ps::r=>q2f (b+12) ps++q1B (b+4096) r
def q3U(C:Cks)(pos:Int):Option (Nat×List UInt8):=(q1B 0 C).find? fun r=>decide (pos<=(r.1:Int))
def q5c(C:Cks)(pos:Int):List UInt8×Int:=
 if pos<0 then([],4) else match C[(pos/4096).toNat]? with
 |none=>([],4)
 | some ps=>match (if 12<=pos % 4096 then q5E (q0T (pos/4096).toNat ps) (pos % 4096).toNat else none) with
  |none=>([],4)
  |some (p,_)=>(p,0)
theorem q6f : ∀(ps:List (List UInt8)) (a:Nat),∀r∈q2f a ps,a<=r.1/\r.1+r.2.length+12<=a+(ps.map fun p=>p.length+12).sum
 |[],_,r,h=>by cases h
 | p ::t,a,r,h=>by
  rw[q2f] at h;rcases List.mem_cons.1 h with rfl|h
  ·simp only[List.map_cons,List.sum_cons];omega
  ·have:=q6f t _ r h
   simp only[List.map_cons,List.sum_cons];omega
theorem q5d : ∀(C:Cks) (b:Nat),(∀ps∈C,q0K ps<=4096)-> ∀r∈q1B b C,b+12<=r.1/\r.1<b+4096*C.length
 |[],_,_,r,h=>by cases h
 | ps ::t,b,hs,r,h=>by
  rw[q1B] at h;have h1:=hs ps (List.mem_cons_self);unfold q0K at h1;rcases List.mem_append.1 h with h|h
  ·have:=q6f ps _ r h
   simp only[χ];omega
  ·have:=q5d t _ (fun q hq=>hs q (List.mem_cons_of_mem _ hq)) r h
   simp only[χ];omega
theorem q4z : ∀(C:Cks) (b n:Nat),q1B b C=q1B b (C.take n)++q1B (b+4096*n) (C.drop n)
 |C,b,0=>by simp[q1B]
 |[],b,n+1=>by simp[q1B]
 | ps::t,b,n+1=>by
  rw[List.take_succ_cons,List.drop_succ_cons,q1B,q1B,q4z t (b+4096) n,List.append_assoc]
  congr 3;omega
theorem z0c(C D:Cks)(b:Nat):q1B b (C++D)=q1B b C++q1B (b+4096*C.length) D:=by
 have:=q4z (C++D) b C.length
 rwa [List.take_left,List.drop_left] at this
theorem z5X{pos:Int}{l m:List (Nat×List UInt8)}(h: ∀r∈l,(r.1:Int)<pos):(l++m).find? (fun r=>decide (pos<=(r.1:Int)))=m.find? fun r=>decide (pos<=(r.1:Int)):=by
 rw[List.find?_append];have:l.find? (fun r=>decide (pos<=(r.1:Int)))=none:=List.find?_eq_none.2 fun r b=>by have:=h r b;simp;omega
 rw[this];rfl
theorem z1d(C:Cks)(pos:Int)(d: ∀ps∈C,q0K ps<=4096)(n:Nat)(j:(n:Int)*4096<=pos):q3U C pos=(q1B (4096*n) (C.drop n)).find? fun r=>decide (pos<=(r.1:Int)):=by
 unfold q3U;rw[q4z C 0 n,Nat.zero_add];refine z5X fun r b=>?_
 have:=q5d (C.take n) 0 (fun ps h=>d ps (List.mem_of_mem_take h)) r b;have h2:(C.take n).length<=n:=List.length_take_le _ _;omega
theorem q4N : ∀(ps:List (List UInt8)) (a:Nat),(q2f a ps).length=ps.length
 |[],_=>rfl
 |p::t,a=>by simp[q2f,q4N t]
theorem z3B : ∀(ps:List (List UInt8)) (a k:Nat) (p:List UInt8),ps[k]? =some p->(q2f a ps)[k]? =some (a+((ps.take k).map fun p=>p.length+12).sum,p)
 |[],_,k,p,h=>by simp at h
 | q::t,a,0,p,h=>by
  simp only[List.getElem?_cons_zero,Option.some.injEq] at h;subst h;simp[q2f]
 | q::t,a,k+1,p,h=>by
  rw[List.getElem?_cons_succ] at h;rw[q2f,List.getElem?_cons_succ,z3B t _ k p h,List.take_succ_cons,List.map_cons,List.sum_cons]
  congr 2;omega
theorem q8V : ∀(ps:List (List UInt8)) (a k:Nat) (p:List UInt8),ps[k]? =some p->(q1b a ps)[k]? =some (a+((ps.take k).map fun p=>p.length+12).sum,a+((ps.take k).map fun p=>p.length+12).sum+p.length+12)
 |[],_,k,p,h=>by simp at h
 | q::t,a,0,p,h=>by
  simp only[List.getElem?_cons_zero,Option.some.injEq] at h;subst h;simp[q1b]
 | q::t,a,k+1,p,h=>by
  rw[List.getElem?_cons_succ] at h;rw[q1b,List.getElem?_cons_succ,q8V t _ k p h,List.take_succ_cons,List.map_cons,List.sum_cons]
  congr 2<;>omega
theorem z8g(n:Nat)(ps:List (List UInt8))(k:Nat)(p:List UInt8)(h:ps[k]? =some p)(b:p.length<=2000):q5E (q0T n ps) (q0K (ps.take k))=some (p,q0K (ps.take k)+p.length+12):=by
 obtain⟨d,rfl⟩:=List.getElem?_eq_some_iff.1 h;have e:ps=ps.take k++ps[k]::ps.drop (k+1):=by rw[List.getElem_cons_drop];exact(List.take_append_drop _ _).symm
 have:=z5c n (ps.take k) ps[k] (ps.drop (k+1)) b
 rwa [<-e] at this
end
end Go.Proofs.YteabhdclmodefaaGreatDoor
