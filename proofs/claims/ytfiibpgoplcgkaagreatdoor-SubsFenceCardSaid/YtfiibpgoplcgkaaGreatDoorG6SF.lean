/- Plain laws. -/
import Derived.Test.YtfiibpgoplcgkaaGreatDoorG4SF
import Derived.Test.YtfiibpgoplcgkaaGreatDoorG5SF
import Derived.Laws.BitsLemmas
set_option linter.unusedVariables false
set_option linter.unusedSimpArgs false
set_option maxRecDepth 100000
set_option maxHeartbeats 6400000
namespace Go.Proofs.YtfiibpgoplcgkaaGreatDoor
variable {a i k n:Nat}{p t:List UInt8}{α:Type}{ps:List (List UInt8)}{L:List FM}{σ σ':DM}{f:FM}{c:Int}
section
open Go.RowKit
theorem q3M(a b:List UInt8):(⟨a.toArray⟩:ByteArray)++⟨b.toArray⟩=⟨(a++b).toArray⟩:=by rw[ByteArray.mk_append_mk];first|done|simp
def q2I(p:List UInt8):List UInt8:=q1N (be 4 p.length++p)++be 4 p.length
def q3w(s:List UInt8)(a:Nat):Nat:=q1G ((s.drop a).take 4)
def isR(s:List UInt8)(a:Nat):Bool:=
 decide (a+12<=s.length)&&decide (q3w s a<=2000)&&decide (a+q3w s a+12<=s.length)
 &&q1u ((s.drop a).take (q3w s a+8))&&decide ((s.drop (a+q3w s a+8)).take 4=(s.drop a).take 4)
def q4u(s:List UInt8)(a:Nat):Option (List UInt8×Nat):=
 if isR s a then some ((s.drop (a+4)).take (q3w s a),a+q3w s a+12) else none
def q5F :Nat->List UInt8->Nat->List (Nat×Nat)
 |0,_,_=>[]
 | f+1,s,a=>match q4u s a with
  |none=>[]
  |some (_,b)=>(a,b)::q5F f s b
def q0k(s:List UInt8)(a:Nat):List (Nat×Nat):=q5F (s.length+1) s a
def q9U(a:Nat)(l:List (Nat×Nat)):Nat:=(l.getLast?.map Prod.snd).getD a
def q2T(n:Nat):List UInt8:=q1N ([99,104,110,107]++be 4 n)
def q4e(ps:List (List UInt8)):List UInt8:=(ps.map q2I).flatten
def q0S(n:Nat)(ps:List (List UInt8)):List UInt8:=q2T n++q4e ps
def q0I(ps:List (List UInt8)):Nat:=12+(ps.map fun p=>p.length+12).sum
def q1Y :Nat->List (List UInt8)->List (Nat×Nat)
 |_,[]=>[]
 |a,p::r=>(a,a+p.length+12)::q1Y (a+p.length+12) r
theorem q1F(p:List UInt8):(q2I p).length=p.length+12:=by
 simp only[q2I,θ,q1D,q0G];omega
theorem q2m(n:Nat):(q2T n).length=12:=by simp[q2T,q1D,q0G]
theorem q9d(ps:List (List UInt8)):(q4e ps).length=(ps.map fun p=>p.length+12).sum:=by
 unfold q4e
 induction ps with
 |nil=>rfl
 |cons p r ih=>simp[q1F,ih]
theorem q0q(n:Nat)(ps:List (List UInt8)):(q0S n ps).length=q0I ps:=by
 simp[q0S,q0I,q2m,q9d]
theorem z3U(ps:List (List UInt8))(p:List UInt8):q4e (ps++[p])=q4e ps++q2I p:=by simp[q4e]
theorem z0u(n:Nat)(ps:List (List UInt8))(p:List UInt8):q0S n (ps++[p])=q0S n ps++q2I p:=by simp[q0S,z3U]
theorem z3Z(n:Nat)(p:List UInt8):q0S n [p]=q2T n++q2I p:=by simp[q0S,q4e]
theorem q1y(ps:List (List UInt8))(p:List UInt8):q0I (ps++[p])=q0I ps+(p.length+12):=by simp[q0I,List.sum_append];omega
theorem q4N(p:List UInt8):q0I [p]=12+(p.length+12):=by simp[q0I]
theorem q9w{s:List UInt8}{b:Nat}(h:q4u s a=some (p,b)):
  p.length<=2000/\b=a+p.length+12/\b<=s.length/\p=(s.drop (a+4)).take p.length/\q3w s a=p.length:=by
 unfold q4u at h
 split at h
 case isFalse=>cases h
 case isTrue hi=>
  unfold isR at hi;simp only[Ξ,Φ] at hi;obtain⟨⟨⟨⟨m,d⟩,j⟩,o⟩,q⟩:=hi;simp only[Option.some.injEq,Prod.mk.injEq] at h;obtain⟨rfl,rfl⟩:=h;have l:((s.drop (a+4)).take (q3w s a)).length=q3w s a:=by simp;omega
  rw[l];exact⟨d,rfl,j,rfl,rfl⟩
theorem z8s(d m b:List α)(h:a=d.length):(d++m++b).drop a=m++b:=by
 subst h;rw[List.append_assoc,List.drop_left]
theorem z2c(d p b:List UInt8)(x:p.length<=2000)(q:a=d.length):q4u (d++q2I p++b) a=some (p,a+p.length+12):=by
 have m:(d++q2I p++b).drop a=be 4 p.length++(p++(q7b (q1c (be 4 p.length++p))++(be 4 p.length++b))):=by
  rw[z8s _ _ _ q];simp[q2I,q1N]
 have l:(be 4 p.length).length=4:=q0G 4 _;have o:=q4o (q1c (be 4 p.length++p));have j:q3w (d++q2I p++b) a=p.length:=by
  unfold q3w;rw[m,List.take_left' l,q4t];omega
 have r:(d++q2I p++b).length=a+(p.length+12)+b.length:=by simp[q1F,q];omega
 have v:isR (d++q2I p++b) a=true:=by
  unfold isR;rw[j];simp only[Ξ,Φ];refine⟨⟨⟨⟨by omega,x⟩,by omega⟩,?_⟩,?_⟩
  ·have e:((d++q2I p++b).drop a).take (p.length+8)=q1N (be 4 p.length++p):=by
    rw[m];have:be 4 p.length++(p++(q7b (q1c (be 4 p.length++p))++(be 4 p.length++b)))=q1N (be 4 p.length++p)++(be 4 p.length++b):=by simp[q1N]
    rw[this];exact List.take_left' (by simp[q1D,l];omega)
   rw[e];unfold q1u;simp only[Ξ,Φ,q1D];refine⟨by omega,?_⟩;have s:(q1N (be 4 p.length++p)).take ((be 4 p.length++p).length+4-4)=be 4 p.length++p:=by
    unfold q1N;exact List.take_left' (by omega)
   rw[s]
  ·have e:(d++q2I p++b).drop (a+p.length+8)=be 4 p.length++b:=by
    have:a+p.length+8=a+(p.length+8):=by omega
    rw[this,<-List.drop_drop,m];have:be 4 p.length++(p++(q7b (q1c (be 4 p.length++p))++(be 4 p.length++b)))=(be 4 p.length++(p++q7b (q1c (be 4 p.length++p))))++(be 4 p.length++b):=by simp
    rw[this];exact List.drop_left' (by simp[l,o];omega)
   rw[e,m,List.take_left' l,List.take_left' l]
 unfold q4u;rw[ξ v,j]
 congr 2
 rw[<-List.drop_drop,m];have u:(be 4 p.length++(p++(q7b (q1c (be 4 p.length++p))++(be 4 p.length++b)))).drop 4=p++(q7b (q1c (be 4 p.length++p))++(be 4 p.length++b)):=List.drop_left' l;rw[u];exact List.take_left' rfl
theorem z5X(s:List UInt8)(a:Nat)(h:s.length<a+12):q4u s a=none:=by
 unfold q4u isR;rw[ε (by omega)];simp
theorem q7p : ∀(ps:List (List UInt8)) (pre:List UInt8) (f a:Nat),(∀p∈ps,p.length<=2000)->a=pre.length->ps.length<f->q5F f (pre++q4e ps) a=q1Y a ps
 |[],pre,0,a,_,_,hf=>by simp at hf
 | [],pre,f+1,a,_,ha,_=>by
  unfold q5F;rw[z5X _ _ (by simp[q4e,ha])]
  rfl
 |p::r,pre,0,a,_,_,hf=>by simp at hf
 | p::r,pre,f+1,a,hp,ha,hf=>by
  have e:pre++q4e (p::r)=pre++q2I p++q4e r:=by simp[q4e]
  rw[e];unfold q5F;rw[z2c pre p (q4e r) (hp p (List.mem_cons_self)) ha];show _::q5F f (pre++q2I p++q4e r) (a+p.length+12)=_;rw[q7p r (pre++q2I p) f _ (fun q hq=>hp q (List.mem_cons_of_mem _ hq)) (by simp[q1F,ha];omega) (by simp at hf;omega)]
  rfl
theorem z8V(ps:List (List UInt8)):12*ps.length<=(ps.map fun p=>p.length+12).sum:=by
 induction ps with
 |nil=>simp
 |cons p r ih=>simp only[List.map_cons,List.sum_cons,χ];omega
theorem q7Y(n:Nat)(ps:List (List UInt8))(b: ∀p∈ps,p.length<=2000):q0k (q0S n ps) 12=q1Y 12 ps:=by
 unfold q0k;refine q7p ps (q2T n) _ 12 b (q2m n).symm ?_;have:=z8V ps;show _<(q0S n ps).length+1;rw[q0q];unfold q0I;omega
theorem q5y : ∀(ps:List (List UInt8)) (p:List UInt8) (a:Nat),q1Y a (ps++[p])=q1Y a ps++[(a+(ps.map fun p=>p.length+12).sum,a+(ps.map fun p=>p.length+12).sum+p.length+12)]
 |[],p,a=>by simp[q1Y]
 | q::r,p,a=>by
  rw[List.cons_append,q1Y,q5y r p,q1Y,List.cons_append];simp only[List.map_cons,List.sum_cons]
  congr 4<;>omega
theorem z1Y : ∀(ps:List (List UInt8)) (a:Nat),q9U a (q1Y a ps)=a+(ps.map fun p=>p.length+12).sum:=fun ps a=>by
 rcases List.eq_nil_or_concat ps with rfl|⟨r,p,rfl⟩
 ·rfl
 ·rw[List.concat_eq_append,q5y]
  unfold q9U;simp only[List.getLast?_append,List.getLast?_singleton,Option.some_or,Option.map_some,Option.getD_some,List.map_append,List.map_cons,List.map_nil,List.sum_append,List.sum_cons,List.sum_nil];omega
theorem q2S : ∀(ps:List (List UInt8)) (a:Nat),(q1Y a ps).length=ps.length
 |[],_=>rfl
 |p::r,a=>by simp[q1Y,q2S r]
theorem z5R(n:Nat)(l:List (List UInt8))(p:List UInt8)(r:List (List UInt8))(b:p.length<=2000):q4u (q0S n (l++p::r)) (q0I l)=some (p,q0I l+p.length+12):=by
 have e:q0S n (l++p::r)=q0S n l++q2I p++q4e r:=by simp[q0S,q4e]
 rw[e];exact z2c _ _ _ b (q0q n l).symm
theorem q3C(s:List UInt8)(m j:Int)(a b:Nat)(l:m=(a:Int))(d:j=(b:Int))(h:a<=b)(r:b<=s.length){X:List UInt8}(q:(s.take b).drop a=X):
  ∀w,(Instr.slice 9 (.string ⟨s.toArray⟩) (some (.int .i64 m)) (some (.int .i64 j)) none).run Tryz.prog w= .ok (.string ⟨X.toArray⟩) w:=fun w=>by
 have o:=run_slice_string (P:=Tryz.prog) w 9 ⟨s.toArray⟩ .i64 .i64 m j Tryz.underlying9 (by omega) (by omega) (by simp[ByteArray.size];omega);rw[o,l,d,<-q];show _=Result.ok (Value.string ⟨((s.take b).drop a).toArray⟩) w;rw[<-q2s];rfl
theorem q4X(s:List UInt8)(j:Int)(b:Nat)(d:j=(b:Int))(o:b<=s.length):
  ∀w,(Instr.slice 9 (.string ⟨s.toArray⟩) none (some (.int .i64 j)) none).run Tryz.prog w= .ok (.string ⟨(s.take b).toArray⟩) w:=fun w=>by
 have l:=run_slice_string_to_if (P:=Tryz.prog) w 9 ⟨s.toArray⟩ .i64 j Tryz.underlying9;have m:(ByteArray.size ⟨s.toArray⟩)=s.length:=by simp[ByteArray.size]
 rw[l,m,ξ (by omega),d];show Result.ok (Value.string ((⟨s.toArray⟩:ByteArray).extract 0 b)) w=_;rw[q2s];rfl
theorem q2u(s:List UInt8)(d:Int)(a:Nat)(b:d=(a:Int))(m:a<=s.length):
  ∀w,(Instr.slice 9 (.string ⟨s.toArray⟩) (some (.int .i64 d)) none none).run Tryz.prog w= .ok (.string ⟨(s.drop a).toArray⟩) w:=fun w=>by
 have j:=run_slice_string_from_if (P:=Tryz.prog) w 9 ⟨s.toArray⟩ .i64 d Tryz.underlying9;have l:(ByteArray.size ⟨s.toArray⟩)=s.length:=by simp[ByteArray.size]
 rw[j,l,ξ (by omega),b];show Result.ok (Value.string ((⟨s.toArray⟩:ByteArray).extract a s.length)) w=_;rw[q2s,List.take_length]
theorem z6E(k:Nat)(N:Int)(w:World)(q:N=(k:Int))(s:k<=9223372036854775807):
  Calls Tryz.prog 206 #[.int .i64 N] w fun e w'=>e= .returned (.string ⟨(be 4 k).toArray⟩)/\Ext w w':=by
 have m:0<=N:=by omega
 have r:N<=9223372036854775807:=by omega
 have b:N.toNat=k:=by omega
 have l:=η b;clear q b;go_enter Tryz.func206,Tryz.ntmps206;go_wp2_with fail;refine(q7H N 4 _ (by omega) (by omega) m (by omega)).mono ?_;rintro e w1 ⟨rfl,d⟩;have j:=η d;clear d;rw[l.o];go_wp2_with fail;go_ret;exact⟨rfl,j.o⟩
theorem z5y(p:List UInt8)(w:World)(j:2000<p.length)(d:p.length<=9223372036854775807):
  Calls Tryz.prog 147 #[.string ⟨p.toArray⟩] w fun e w'=>e= .returned (.tuple #[.string ⟨#[]⟩,.int .i64 3])/\w=w':=by
 have b:decide ((2000:Int)<(p.length:Int))=true:=by simp;omega
 go_enter Tryz.func147,Tryz.ntmps147;go_wp2_with fail;go_ret2;exact⟨rfl,rfl⟩
theorem z7w(p:List UInt8)(w:World)(y:p.length<=2000):
  Calls Tryz.prog 147 #[.string ⟨p.toArray⟩] w fun e w'=>e= .returned (.tuple #[.string ⟨(q2I p).toArray⟩,.int .i64 0])/\Ext w w':=by
 have v:decide ((2000:Int)<(p.length:Int))=false:=by simp;omega
 obtain⟨n,x⟩: ∃n:Int,n=(p.length:Int):=⟨_,rfl⟩
 have s:Hd (q2I p=q1N (be 4 p.length++p)++be 4 p.length):=η rfl;have d:(be 4 p.length).length=4:=q0G 4 _;have B:(q1N (be 4 p.length++p)).length=p.length+8:=by simp[q1D,d];omega
 have q:=η (fun W=>z6E p.length (p.length:Int) W rfl (by omega));have u:=η (fun W=>z3C (be 4 p.length++p) W (by simp[d];omega));go_enter Tryz.func147,Tryz.ntmps147;go_wp2_with fail;refine(q.o _).mono ?_;rintro e w1 ⟨rfl,b⟩;have r:=η b;clear b;generalize be 4 p.length=X at*;go_wp2_with fail;have m:=u.o w1;generalize q1N (X++p)=Y at*;rw[q3M];refine m.mono ?_;rintro e C ⟨rfl,b⟩;have j:=η (r.o.trans b);clear b;go_wp2_with fail;refine(q.o _).mono ?_;rintro e D ⟨rfl,b⟩;have l:=η (j.o.trans b);clear b;go_wp2_with fail;go_ret2;exact⟨by rw[s.o,q3M];rfl,l.o⟩
theorem q3r : ∀a b:List UInt8,Op.bytesLess a b=bytesBefore a b
 |[],[]=>rfl
 |[],_::_=>rfl
 |_::_,[]=>rfl
 |a::x,b::y=>by unfold Op.bytesLess bytesBefore;rw[q3r x y]
abbrev Cks :=List (List (List UInt8))
def q3u :Nat->Cks->List (List UInt8×List UInt8)
 |_,[]=>[]
 |i,ps::r=>(q0E 99 (i:Int),q0S i ps)::q3u (i+1) r
theorem q4m : ∀(C:Cks) (i:Nat),(q3u i C).length=C.length
 |[],_=>rfl
 |ps::r,i=>by simp[q3u,q4m r]
theorem q2x : ∀(C D:Cks) (i:Nat),q3u i (C++D)=q3u i C++q3u (i+C.length) D
 |[],D,i=>rfl
 | ps::r,D,i=>by
  rw[List.cons_append,q3u,q2x r D (i+1),q3u,List.cons_append,χ]
  congr 3;omega
theorem q3N : ∀{C:Cks} {i:Nat} {x:List UInt8×List UInt8},x∈q3u i C-> ∃k,i<=k/\k<i+C.length/\x.1=q0E 99 (k:Int)
 |[],_,_,h=>by cases h
 | ps ::r,i,x,h=>by
  rcases List.mem_cons.1 h with rfl|h
  ·exact⟨i,ι _,by simp,rfl⟩
  ·obtain⟨k,d,j,b⟩:=q3N h
   exact⟨k,by omega,by simp;omega,b⟩
theorem q2n(n:Int):(q0E 99 n).length<=9223372036854775807:=by
 by_cases h:0<=n/\n<=999999
 ·rw[q0W h,χ,q0e];decide
 ·rw[q6O h];decide
theorem z6u(b:i<=999999)(d:k<=999999)(h:i≠k):q0E 99 (i:Int)≠q0E 99 (k:Int):=fun e=>by
 have:=z7m 99 (i:Int) (k:Int) (by omega) (by omega);rw[e,beq_self_eq_true] at this;have:=of_decide_eq_true this.symm;omega
theorem q5q(j:i<=999999)(l:k<=999999)(h:i<k):bytesBefore (q0E 99 (i:Int)) (q0E 99 (k:Int))=true:=by
 have b:=z4A 99 (i:Int) (k:Int) (by omega) (by omega);have d:decide ((i:Int)<(k:Int))=true:=by simp;omega
 rw[d] at b;rw[<-q3r];exact b
theorem q4y{C:Cks}(m:k<=999999)(q:i+C.length<=999999)(h: ∀j,i<=j->j<i+C.length->j≠k): ∀y∈q3u i C,Prod.fst y≠q0E 99 (k:Int):=fun y o=>by
 obtain⟨j,b,d,l⟩:=q3N o;rw[l];exact z6u (by omega) m (h j b d)
theorem q9f{C:Cks}(o:C.length<=200)(l:C[k]? =some ps):q0F Prod.fst (q0E 99 (k:Int)) (q3u 0 C)=some (q0E 99 (k:Int),q0S k ps):=by
 obtain⟨m,rfl⟩:=List.getElem?_eq_some_iff.1 l;have e:C=C.take k++C[k]::C.drop (k+1):=by
  rw[List.getElem_cons_drop];exact(List.take_append_drop _ _).symm
 have b:(C.take k).length=k:=by simp;omega
 conv=>lhs;rw[e]
 rw[q2x,b,Nat.zero_add,q0Y]
 ·rw[q3u];unfold q0F;rw[List.find?_cons_of_pos (by simp)]
 ·exact q4y (by omega) (by rw[b];omega) fun j _ d=>by rw[b] at d;omega
theorem q9g{C:Cks}(l:C.length<=200)(m:C.length<=k)(b:k<=999999):q0F Prod.fst (q0E 99 (k:Int)) (q3u 0 C)=none:=
 q0V (q4y b (by omega) fun j _ d=>by omega)
theorem z6t{C:Cks}(s:C.length<=200):q0F Prod.fst [110,101,119] (q3u 0 C)=none:=q0V fun y m e=>by
 obtain⟨j,o,q,b⟩:=q3N m;rw[e] at b;have r:j<200:=by omega
 rw[q0W (by omega)] at b;have d:=congrArg List.length b;have l:(99::q4j 6 ((j:Int)).toNat).length=7:=by simp[q0e]
 rw[l] at d
 cases d
theorem q7o : ∀(C:Cks) (i:Nat),(q3u i C).map Prod.fst=(List.range' i C.length).map fun k:Nat=>q0E 99 (k:Int)
 |[],_=>rfl
 |ps::r,i=>by rw[q3u,List.map_cons,q7o r,χ,List.range'_succ,List.map_cons]
theorem q1I(a b:List (List UInt8×List UInt8)):q2R (a++b)=q2R a+q2R b:=by simp[q2R,q5a,List.sum_append]
theorem z0e(x:List UInt8×List UInt8):q2R [x]=x.2.length:=by simp[q2R,q5a]
theorem z4j{D:Cks}(p:List UInt8)(d:D.length<=200):q1O Prod.fst (q0E 99 (D.length:Int)) (fun x=>(x.1,x.2++q2I p)) (q3u 0 (D++[ps]))=q3u 0 (D++[ps++[p]]):=by
 rw[q2x,q2x,q4d,q2v,Nat.zero_add]
 ·congr 1
  show q1O Prod.fst (q0E 99 (D.length:Int)) _ [(q0E 99 (D.length:Int),q0S D.length ps)]=[(q0E 99 (D.length:Int),q0S D.length (ps++[p]))];rw[z0u];unfold q1O;simp
 ·exact q4y (by omega) (by omega) fun j _ b=>by omega
theorem z3d{C:Cks}(p:List UInt8)(d:C.length<=200):q1O Prod.fst (q0E 99 (C.length:Int)) (fun x=>(x.1,x.2++(q2T C.length++q2I p))) (q3u 0 C++[(q0E 99 (C.length:Int),[])])=q3u 0 (C++[[p]]):=by
 rw[q2x,q4d,q2v,Nat.zero_add]
 ·congr 1
  show q1O Prod.fst (q0E 99 (C.length:Int)) _ [(q0E 99 (C.length:Int),[])]=[(q0E 99 (C.length:Int),q0S C.length [p])];rw[z3Z];unfold q1O;simp
 ·exact q4y (by omega) (by omega) fun j _ b=>by omega
def q0m(C:Cks):Nat:=(C.map q0I).sum
theorem q4z : ∀(C:Cks) (i:Nat),q2R (q3u i C)=q0m C
 |[],_=>rfl
 | ps::r,i=>by
  have e:q3u i (ps::r)=[(q0E 99 (i:Int),q0S i ps)]++q3u (i+1) r:=rfl;rw[e,q1I,z0e,q4z r];simp[q0m,q0q]
structure okC(C:Cks):Prop where
 few:C.length<=200
 size: ∀ps∈C,q0I ps<=4096
 pay: ∀ps∈C,∀p∈ps,p.length<=2000
 full: ∀ps∈C.dropLast,ps≠[]
structure Oth where
 X:List (List UInt8×List UInt8)
 Z:List (List UInt8×List UInt8)
def noO :Oth:=⟨[],[]⟩
structure okOth(E:Oth):Prop where
 before: ∀y∈E.X,∀k:Nat,k<=999999->bytesBefore y.1 (q0E 99 (k:Int))=true
 behind: ∀y∈E.Z,∀k:Nat,k<=999999->bytesBefore (q0E 99 (k:Int)) y.1=true
 new: ∀y,y∈E.X\/y∈E.Z->y.1≠[110,101,119]
 kind: ∀y,y∈E.X\/y∈E.Z->(q0x y.1).2.2=true->(q0x y.1).1≠99
 len: ∀y,y∈E.X\/y∈E.Z->y.1.length<=1000
 few:E.X.length+E.Z.length<=190
theorem okOth.no :okOth noO:=⟨(fun _ h=>by cases h),(fun _ h=>by cases h),(fun _ h=>by rcases h with h|h<;>cases h),(fun _ h=>by rcases h with h|h<;>cases h),(fun _ h=>by rcases h with h|h<;>cases h),υ _⟩
def q2Q(E:Oth):Nat:=q2R E.X+q2R E.Z
def q3H(E:Oth)(C:Cks):List (List UInt8×List UInt8):=E.X++(q3u 0 C++E.Z)
def z3e(E:Oth)(C:Cks):List (List UInt8×List UInt8):=E.X++(q3u 0 C++((q0E 99 (C.length:Int),[])::E.Z))
theorem q6d(E:Oth)(C:Cks):(q3H E C).length=E.X.length+C.length+E.Z.length:=by simp[q3H,q4m];omega
theorem z2D{a b:List UInt8}(h:bytesBefore a b=true):a≠b:=fun e=>by rw[e,WideAt.bytes_irrefl] at h;cases h
theorem okOth.neX{E:Oth}(h:okOth E)(b:k<=999999): ∀y∈E.X,Prod.fst y≠q0E 99 (k:Int):=fun y d=>z2D (h.before y d k b)
theorem okOth.neZ{E:Oth}(h:okOth E)(b:k<=999999): ∀y∈E.Z,Prod.fst y≠q0E 99 (k:Int):=fun y d e=>z2D (h.behind y d k b) e.symm
theorem q1Q{k:α->List UInt8}{nm:List UInt8}{a b:List α}(h: ∀y∈b,k y≠nm):q0F k nm (a++b)=q0F k nm a:=by
 unfold q0F;rw[List.find?_append];have:List.find? (fun y=>k y==nm) b=none:=q0V h;rw[this];simp
theorem q2w{E:Oth}(b:okOth E){C:Cks}(j:C.length<=200)(d:C[k]? =some ps):q0F Prod.fst (q0E 99 (k:Int)) (q3H E C)=some (q0E 99 (k:Int),q0S k ps):=by
 have l:=(List.getElem?_eq_some_iff.1 d).1;unfold q3H;rw[q0Y (b.neX (by omega)),q1Q (b.neZ (by omega))];exact q9f j d
theorem z4i{E:Oth}(d:okOth E){C:Cks}(j:C.length<=200)(l:C.length<=k)(b:k<=999999):q0F Prod.fst (q0E 99 (k:Int)) (q3H E C)=none:=by
 unfold q3H;rw[q0Y (d.neX b),q1Q (d.neZ b)];exact q9g j l b
theorem z6s{E:Oth}(d:okOth E){C:Cks}(j:C.length<=200):q0F Prod.fst [110,101,119] (q3H E C)=none:=by
 unfold q3H;rw[q0Y fun y b=>d.new y (.inl b),q1Q fun y b=>d.new y (.inr b)];exact z6t j
theorem q6e(E:Oth)(C:Cks):q2R (q3H E C)=q2Q E+q0m C:=by
 unfold q3H q2Q;rw[q1I,q1I,q4z];omega
theorem z4l(E:Oth)(C:Cks):q2R (z3e E C)=q2Q E+q0m C:=by
 have e:z3e E C=E.X++(q3u 0 C++([(q0E 99 (C.length:Int),[])]++E.Z)):=rfl;rw[e,q1I,q1I,q1I,q4z,z0e];unfold q2Q;simp;omega
theorem z4h{E:Oth}(b:okOth E){D:Cks}(p:List UInt8)(d:D.length<=200):q1O Prod.fst (q0E 99 (D.length:Int)) (fun x=>(x.1,x.2++q2I p)) (q3H E (D++[ps]))=q3H E (D++[ps++[p]]):=by
 unfold q3H;rw[q4d,q4d,q2v (b.neX (by omega)),q2v (b.neZ (by omega)),z4j p d]
theorem q6v{k:α->List UInt8}{x:α}{b:List α}: ∀{a:List α},(∀y∈a,bytesBefore (k y) (k x)=true)->q3c k x (a++b)=a++q3c k x b
 |[],_=>rfl
 | y ::r,h=>by
  have d:=h y (List.mem_cons_self);have j:¬bytesBefore (k x) (k y)=true:=fun l=>by
   have:=WideShapes.bytes_trans _ _ _ d l;rw[WideAt.bytes_irrefl] at this
   cases this
  rw[List.cons_append,q3c,κ j,q6v fun z m=>h z (List.mem_cons_of_mem _ m)]
  rfl
theorem z3v{k:α->List UInt8}{x:α}: ∀{b:List α},(∀y∈b,bytesBefore (k x) (k y)=true)->q3c k x b=x::b
 |[],_=>rfl
 |y::r,h=>by rw[q3c,ξ (h y (List.mem_cons_self))]
theorem z6r{E:Oth}(d:okOth E){C:Cks}(q:C.length<=200):q3c Prod.fst (q0E 99 (C.length:Int),[]) (q3H E C)=z3e E C:=by
 unfold q3H z3e;rw[q6v fun y b=>d.before y b _ (by omega),q6v fun y b=>?_,z3v fun y b=>d.behind y b _ (by omega)];obtain⟨j,m,o,l⟩:=q3N b;rw[l];exact q5q (by omega) (by omega) (by omega)
theorem z4k{E:Oth}(b:okOth E){C:Cks}(l:C.length<=200):q0F Prod.fst (q0E 99 (C.length:Int)) (z3e E C)=some (q0E 99 (C.length:Int),[]):=by
 unfold z3e;rw[q0Y (b.neX (by omega)),q0Y (q4y (by omega) (by omega) fun j _ d=>by omega)];unfold q0F;rw[List.find?_cons_of_pos (by simp)]
theorem z3b{E:Oth}(b:okOth E){C:Cks}(p:List UInt8)(d:C.length<=200):q1O Prod.fst (q0E 99 (C.length:Int)) (fun x=>(x.1,x.2++(q2T C.length++q2I p))) (z3e E C)=q3H E (C++[[p]]):=by
 have e:z3e E C=E.X++((q3u 0 C++[(q0E 99 (C.length:Int),[])])++E.Z):=by simp[z3e]
 rw[e];unfold q3H;rw[q4d,q4d,q2v (b.neX (by omega)),q2v (b.neZ (by omega)),z3d p d]
theorem z3c(E:Oth)(C:Cks):(q3H E C).map Prod.fst=E.X.map Prod.fst++((List.range C.length).map (fun k:Nat=>q0E 99 (k:Int))++E.Z.map Prod.fst):=by
 unfold q3H;rw[List.map_append,List.map_append,q7o,List.range_eq_range']
def q3W(C:Cks):Int:=match C.getLast? with|none=>0|some ps=>((C.length:Int)-1)*4096+(q0I ps:Int)
theorem q8f :q3W []=0:=rfl
theorem q1E(D:Cks)(ps:List (List UInt8)):q3W (D++[ps])=(D.length:Int)*4096+(q0I ps:Int):=by
 unfold q3W;simp
theorem z8v{C:Cks}(h:okC C):0<=q3W C/\q3W C<=(C.length:Int)*4096:=by
 rcases List.eq_nil_or_concat C with rfl|⟨D,ps,rfl⟩
 ·rw[q8f];exact⟨Int.le_refl _,Int.le_refl _⟩
 ·rw[List.concat_eq_append] at*
  have:=h.size ps (by simp);rw[q1E,θ,List.length_singleton];omega
def AllS(L:List FM):Prop:= ∀f∈L,f.sy=f.da.length
def Sur(L:List FM)(n:Nat)(k:Int):Prop:= ∀f∈L,f.sy=f.da.length\/ ∃j:Nat,n=j+1/\f.nm=q0E 99 (j:Int)/\k<=(j:Int)*4096+(f.sy:Int)
theorem AllS.sur(h:AllS L)(n:Nat)(k:Int):Sur L n k:=fun f b=> .inl (h f b)
theorem Sur.all0{k:Int}(h:Sur L 0 k):AllS L:=fun f b=>(h f b).elim id fun ⟨j,e,_⟩=>absurd e (by omega)
theorem Sur.less{k k':Int}(h:Sur L n k)(m:k'<=k):Sur L n k':=fun f l=>(h f l).imp id fun ⟨j,a,b,d⟩=>⟨j,a,b,by omega⟩
theorem q2c{a:Int}(b:a≠0)(h:(a,σ)=(0,σ')):False:=b (congrArg Prod.fst h)
theorem z3h{nm:List UInt8}(h:q1m σ nm=(0,σ'))(d:AllS σ.L):AllS σ'.L:=by
 unfold q1m at h
 split at h
 ·exact(q2c (by decide) h).elim
 split at h
 ·exact(q2c (by decide) h).elim
 split at h
 ·exact(q2c (by decide) h).elim
 split at h
 ·exact(q2c (by decide) h).elim
 split at h
 ·exact(q2c (by decide) h).elim
 have e:=congrArg Prod.snd h;subst e;intro f b;have b:f∈q3c FM.nm ⟨nm,[],0⟩ σ.L:=b;rcases mem_insN.1 b with rfl|b
 ·rfl
 ·exact d f b
theorem q7m{nm:List UInt8}(h:q1W σ nm t=(0,σ'))(l:f∈σ'.L): ∃b∈σ.L,(b.nm=nm/\f={b with da:=b.da++t})\/(b.nm≠nm/\f=b):=by
 unfold q1W at h
 split at h
 ·exact(q2c (by decide) h).elim
 split at h
 ·exact(q2c (by decide) h).elim
 split at h
 ·exact(q2c (by decide) h).elim
 split at h
 ·exact(q2c (by decide) h).elim
 have e:=congrArg Prod.snd h;subst e;obtain⟨b,j,rfl⟩:=List.mem_map.1 (show f∈σ.L.map (fun y=>if y.nm==nm then {y with da:=y.da++t} else y) from l);refine⟨b,j,?_⟩;by_cases d:b.nm=nm
 ·rw[ξ (by simpa using d)];exact .inl ⟨d,rfl⟩
 ·rw[κ (by simpa using d)];exact .inr ⟨d,rfl⟩
theorem z3S{nm:List UInt8}(h:q1W σ nm t=(0,σ'))(j:AllS σ.L)(m:nm=q0E 99 (n:Int)):Sur σ'.L (n+1) ((n:Int)*4096):=fun f l=>by
 obtain⟨o,d,⟨b,rfl⟩|⟨b,rfl⟩⟩:=q7m h l
 ·exact .inr ⟨n,rfl,b.trans m,by simp only;omega⟩
 ·exact .inl (j _ d)
theorem z3T{nm:List UInt8}{j:Nat}{k:Int}(h:q1W σ nm t=(0,σ'))(l:Sur σ.L (j+1) k)(s:nm=q0E 99 (j:Int))(r: ∀f∈σ.L,f.nm=nm->k<=(j:Int)*4096+(f.da.length:Int)):Sur σ'.L (j+1) k:=fun f q=>by
 obtain⟨u,b,⟨d,rfl⟩|⟨d,rfl⟩⟩:=q7m h q
 ·refine .inr ⟨j,rfl,d.trans s,?_⟩
  have v:=r _ b d;rcases l _ b with m|⟨i,m,x,o⟩
  ·simp only;omega
  ·have:i=j:=by omega
   subst this;exact o
 ·exact l _ b
theorem z3K{nm:List UInt8}{k:Int}(h:q5W σ nm=(0,σ'))(o:Sur σ.L n k)(s: ∀j:Nat,n=j+1->nm=q0E 99 (j:Int)):AllS σ'.L:=by
 unfold q5W at h
 split at h
 ·exact(q2c (by decide) h).elim
 split at h
 ·exact(q2c (by decide) h).elim
 split at h
 ·exact(q2c (by decide) h).elim
 have e:=congrArg Prod.snd h;subst e;intro f q;obtain⟨d,l,rfl⟩:=List.mem_map.1 (show f∈σ.L.map (fun y=>if y.nm==nm then {y with sy:=y.da.length} else y) from q);by_cases b:d.nm=nm
 ·rw[ξ (by simpa using b)]
 ·rw[κ (by simpa using b)]
  rcases o d l with m|⟨j,r,e,_⟩
  ·exact m
  ·exact absurd (e.trans (s j r).symm) b
structure Lgd(E:Oth)(σ:DM)(c s:Int)(C:Cks)(k:Int):Prop where
 pl:Pl σ (c+(q2Q E:Int)) s (q3H E C)
 ok:okC C
 oth:okOth E
 sr:Sur σ.L C.length k
 le:k<=q3W C
theorem Lgd.lastLen{E:Oth}{s:Int}{D:Cks}{k:Int}(h:Lgd E σ c s (D++[ps]) k)(m:okD σ)(l:f∈σ.L)(e:f.nm=q0E 99 (D.length:Int)):f.da.length=q0I ps:=by
 have j:=q4R m.ord l e;have b:=h.pl.find (q0E 99 (D.length:Int));rw[q2w h.oth h.ok.few (show(D++[ps])[D.length]? =some ps by simp),j] at b;injection b with b;have d:=congrArg (fun x=>x.2.length) b;simp only[fbF,q0q] at d;exact d.symm
theorem Lgd.all{E:Oth}{s:Int}{C:Cks}(h:Lgd E σ c s C (q3W C))(m:okD σ):AllS σ.L:=by
 rcases List.eq_nil_or_concat C with rfl|⟨D,ps,rfl⟩
 ·exact h.sr.all0
 ·rw [List.concat_eq_append] at*
  intro f b;rcases h.sr f b with l|⟨j,o,e,q⟩
  ·exact l
  ·have d:j=D.length:=by rw[θ,List.length_singleton] at o;omega
   subst d;have l:=h.lastLen m b e;have r:=m.sy f b;rw[q1E] at q;omega
theorem okC.nil :okC []:=⟨υ _,(fun _ h=>by cases h),(fun _ h=>by cases h),(fun _ h=>by cases h)⟩
theorem okC.grow{D:Cks}(h:okC (D++[ps]))(j:p.length<=2000)(l:q0I ps+(p.length+12)<=4096):okC (D++[ps++[p]]):=by
 have m:ps∈D++[ps]:=by simp
 refine⟨by simpa using h.few,fun q hq=>?_,fun q hq=>?_,fun q hq=>h.full q (by simpa using hq)⟩
 all_goals rcases List.mem_append.1 hq with b|b
 ·exact h.size q (List.mem_append_left _ b)
 ·obtain rfl:=List.mem_singleton.1 b;rw[q1y];exact l
 ·exact h.pay q (List.mem_append_left _ b)
 ·obtain rfl:=List.mem_singleton.1 b
  intro x o;rcases List.mem_append.1 o with d|d
  ·exact h.pay ps m x d
  ·obtain rfl:=List.mem_singleton.1 d;exact j
theorem okC.more{C:Cks}(h:okC C)(j:p.length<=2000)(m:C.length<200)(d: ∀ps∈C,ps≠[]):okC (C++[[p]]):=by
 refine⟨by simp;omega,fun q hq=>?_,fun q hq=>?_,fun q hq=>d q (by simpa using hq)⟩
 all_goals rcases List.mem_append.1 hq with b|b
 ·exact h.size q b
 ·obtain rfl:=List.mem_singleton.1 b;rw[q4N];omega
 ·exact h.pay q b
 ·obtain rfl:=List.mem_singleton.1 b
  intro x l;obtain rfl:=List.mem_singleton.1 l;exact j
def q0L(C:Cks):List Int:=C.map fun ps=>(q0I ps:Int)
theorem q2O(D:Cks)(ps:List (List UInt8)):q0L (D++[ps])=q0L D++[(q0I ps:Int)]:=by simp[q0L]
theorem q0b(C:Cks):(q0L C).length=C.length:=by simp[q0L]
theorem q7M(D:Cks)(ps:List (List UInt8)):(q0L (D++[ps])).getD D.length 0=(q0I ps:Int):=by
 rw[q2O];have:D.length=(q0L D).length:=(q0b D).symm;rw[δ,this,List.getElem?_append_right (ι _)];simp
theorem z4K(D:Cks)(ps b:List (List UInt8)):(q0L (D++[ps])).set D.length (q0I b:Int)=q0L (D++[b]):=by
 rw[q2O,q2O];have:D.length=(q0L D).length:=(q0b D).symm;rw[this];simp
theorem z1g(C:Cks)(i:Nat)(h:C[i]? =some ps):(q0L C).getD i 0=(q0I ps:Int):=by
 unfold q0L;rw[δ,List.getElem?_map,h];rfl
def q3j(C:Cks)(p:List UInt8):Bool:=match C.getLast? with|none=>false|some ps=>decide (q0I ps+(p.length+12)<=4096)
def q0z(free:Int)(C:Cks)(p:List UInt8):Int×Int×Cks:=
 if 2000<p.length then(0,3,C)
 else if q3j C p then(if free-((p.length:Int)+12)<6000 then(0,60,C) else(q3W C,0,C.dropLast++[C.getLast?.getD []++[p]]))
 else if 200<=C.length\/free-((p.length:Int)+24)<6000 then(0,60,C) else((C.length:Int)*4096+12,0,C++[[p]])
def q3d(free sure:Int)(C:Cks)(p:List UInt8):Int:=
 if (q0z free C p).2.1=0/\q3j C p=false/\C≠[] then q3W C else sure
def q2N :Nat->List (List UInt8)->List (Nat×List UInt8)
 |_,[]=>[]
 |a,p::r=>(a,p)::q2N (a+p.length+12) r
def q0u :Nat->Cks->List (Nat×List UInt8)
 |_,[]=>[]
 |b,ps::r=>q2N (b+12) ps++q0u (b+4096) r
def q3T(C:Cks)(pos:Int):Option (Nat×List UInt8):=(q0u 0 C).find? fun r=>decide (pos<=(r.1:Int))
def q5P(C:Cks)(pos:Int):List UInt8×Int:=
 if pos<0 then([],4) else match C[(pos/4096).toNat]? with
 |none=>([],4)
 | some ps=>match (if 12<=pos % 4096 then q4u (q0S (pos/4096).toNat ps) (pos % 4096).toNat else none) with
  |none=>([],4)
  |some (p,_)=>(p,0)
def q9x(s:List UInt8)(a:Nat):Value:=match q4u s a with
 |none=> .tuple #[.string ⟨#[]⟩,.int .i64 0,.bool false]
 |some (p,b)=> .tuple #[.string ⟨p.toArray⟩,.int .i64 b,.bool true]
theorem q6s{s:List UInt8}(h:isR s a=false):q9x s a= .tuple #[.string ⟨#[]⟩,.int .i64 0,.bool false]:=by unfold q9x q4u;rw[h];rfl
theorem q5C(s:List UInt8)(a k:Nat):(s.take (a+k)).drop a=(s.drop a).take k:=by rw[List.drop_take];congr 1;omega
theorem q8p(s:List UInt8)(a:Nat)(w:World)(hl:s.length<=4611686018427387903)(ha:a<=4611686018427387903):
  Calls Tryz.prog 164 #[.string ⟨s.toArray⟩,.int .i64 (a:Int)] w fun e w'=>e= .returned (q9x s a)/\Ext w w':=by
 by_cases h1:s.length<a+12
 ·have u:Hd (q9x s a= .tuple #[.string ⟨#[]⟩,.int .i64 0,.bool false]):=η (q6s (by unfold isR;rw[ε (by omega)];rfl))
  have hd:decide (((s.length:Int)-12)<(a:Int))=true:=by simp;omega
  go_enter Tryz.func164,Tryz.ntmps164;go_wp2_with fail;go_ret3;rw[u.o];exact⟨rfl,Ext.refl _⟩
 have b0:decide (((s.length:Int)-12)<(a:Int))=false:=by simp;omega
 obtain⟨X,E⟩: ∃X,(s.drop a).take 4=X:=⟨_,rfl⟩
 have I:X.length=4:=by rw[<-E];simp;omega
 have f0:=q3C s (a:Int) ((a:Int)+4) a (a+4) rfl (by omega) (by omega) (by omega) (by rw[q5C,E]);obtain⟨n,F⟩: ∃n,q3w s a=n:=⟨_,rfl⟩
 have x:q1G (X.take 8)=n:=by rw[Δ (by omega),<-E,<-F];rfl
 have c0:n<4294967296:=by rw[<-x];have:=q1v (X.take 8);rw[Θ,I] at this;exact this
 have C:=η (fun W=>q8n X W (by omega));rw[x] at C;by_cases U:2000<n\/s.length<a+n+12
 ·have u:Hd (q9x s a= .tuple #[.string ⟨#[]⟩,.int .i64 0,.bool false]):=η (q6s (by
   unfold isR;rw[F];rcases U with h|h
   ·rw[ε (p:=n<=2000) (by omega)];simp
   ·rw[ε (p:=a+n+12<=s.length) (by omega)];simp))
  clear E F x I;by_cases h3:2000<n
  ·have M:decide ((2000:Int)<(n:Int))=true:=by simp;omega
   go_enter Tryz.func164,Tryz.ntmps164;go_wp2_with fail;refine(C.o _).mono ?_;rintro e w1 ⟨rfl,l⟩;have v:=η l;clear l;go_wp2_with fail;go_ret3;rw[u.o];exact⟨rfl,v.o⟩
  ·have h4:s.length<a+n+12:=by omega
   have M:decide ((2000:Int)<(n:Int))=false:=by simp;omega
   have S:decide ((s.length:Int)-12-(a:Int)<(n:Int))=true:=by simp;omega
   go_enter Tryz.func164,Tryz.ntmps164;go_wp2_with fail;refine(C.o _).mono ?_;rintro e w1 ⟨rfl,l⟩;have v:=η l;clear l;go_wp2_with fail;go_ret3;rw[u.o];exact⟨rfl,v.o⟩
 have h5:n<=2000:=by omega
 have h6:a+n+12<=s.length:=by omega
 have M:decide ((2000:Int)<(n:Int))=false:=by simp;omega
 have S:decide ((s.length:Int)-12-(a:Int)<(n:Int))=false:=by simp;omega
 obtain⟨Y,J⟩: ∃Y,(s.drop a).take (n+8)=Y:=⟨_,rfl⟩
 have B:Y.length=n+8:=by rw[<-J];simp;omega
 have g0:=q3C s (a:Int) ((a:Int)+(n:Int)+12-4) a (a+(n+8)) rfl (by omega) (by omega) (by omega) (by rw[q5C,J]);obtain⟨Z,R⟩: ∃Z,(s.drop (a+n+8)).take 4=Z:=⟨_,rfl⟩
 have h0:=q3C s ((a:Int)+(n:Int)+12-4) ((a:Int)+(n:Int)+12) (a+n+8) (a+n+8+4) (by omega) (by omega) (by omega) (by omega) (by rw[q5C,R]);have D:=η (fun W=>z2m Y W (by omega));have hi:isR s a=(q1u Y&&decide (Z=X)):=by
  unfold isR;rw[F,ζ (p:=a+12<=s.length) (by omega),ζ h5,ζ h6,J,R,E];simp
 have y:q1u Y=true->(q1i Y).drop 4=(s.drop (a+4)).take n:=fun h=>by
  unfold q1i;rw[ξ h,B,<-J,List.take_take,List.drop_take,List.drop_drop]
  congr 1;omega
 have G:q1u Y=true->(q1i Y).length=n+4:=fun h=>by
  unfold q1i;rw[ξ h,Θ,B];omega
 have V:q4u s a=if isR s a then some ((s.drop (a+4)).take n,a+n+12) else none:=by unfold q4u;rw[F]
 have N:=η hi;have HP:=η y;have O:=η G;have HS:=η V;clear E F x R J B hi y G V U h1;generalize q1i Y=T at*
 cases l:q1u Y with
 | false=>
  have u:Hd (q9x s a= .tuple #[.string ⟨#[]⟩,.int .i64 0,.bool false]):=η (q6s (by rw[N.o,l];rfl));rw[l] at D;go_enter Tryz.func164,Tryz.ntmps164;go_wp2_with fail;refine(C.o _).mono ?_;rintro e w1 ⟨rfl,b⟩;have v:=η b;clear b;go_wp2_with fail;refine(D.o _).mono ?_;rintro e w2 ⟨rfl,d⟩;have m:=η (v.o.trans d);clear d;go_wp2_with fail;refine q0D (by kernel_rfl) (by kernel_rfl) ?_
  repeat (go_big_quiet_step (fail))
  refine wpQuiet_nil ?_;intro w3 j;have q:=η (m.o.trans j);clear j;go_wp2_with fail;go_ret3;rw[u.o];exact⟨rfl,q.o⟩
 | true =>
  by_cases r:Z=X
  ·have u:Hd (q9x s a= .tuple #[.string ⟨(T.drop 4).toArray⟩,.int .i64 ((a:Int)+(n:Int)+12),.bool true]):=η (by
    unfold q9x;rw[HS.o,N.o,l,r,HP.o l]
    simp)
   have Q:=O.o l;have e0: ∀w,(Instr.slice 9 (.string ⟨T.toArray⟩) (some (.int .i64 4)) none none).run Tryz.prog w= .ok (.string ⟨(T.drop 4).toArray⟩) w:=fun w=>by
    exact q2u T 4 4 rfl (by omega) w
   rw[l] at D;generalize T.drop 4=T4 at*;subst r;go_enter Tryz.func164,Tryz.ntmps164;go_wp2_with fail;refine(C.o _).mono ?_;rintro e w1 ⟨rfl,b⟩;have v:=η b;clear b;go_wp2_with fail;refine(D.o _).mono ?_;rintro e w2 ⟨rfl,d⟩;have m:=η (v.o.trans d);clear d;go_wp2_with fail;refine q0D (by kernel_rfl) (by kernel_rfl) ?_
   repeat (go_big_quiet_step (fail))
   refine wpQuiet_nil ?_;intro w3 j;have q:=η (m.o.trans j);clear j;go_wp2_with fail;go_ret3;rw[u.o];exact⟨rfl,q.o⟩
  ·have u:Hd (q9x s a= .tuple #[.string ⟨#[]⟩,.int .i64 0,.bool false]):=η (q6s (by rw[N.o,ε r,Bool.and_false]))
   have d0:(Z==X)=false:=by simpa using r
   have a0:(Z !=X)=true:=by simpa using r
   rw[l] at D;go_enter Tryz.func164,Tryz.ntmps164;go_wp2_with fail;refine(C.o _).mono ?_;rintro e w1 ⟨rfl,b⟩;have v:=η b;clear b;go_wp2_with fail;refine(D.o _).mono ?_;rintro e w2 ⟨rfl,d⟩;have m:=η (v.o.trans d);clear d;go_wp2_with fail;refine q0D (by kernel_rfl) (by kernel_rfl) ?_
   repeat (go_big_quiet_step (fail))
   refine wpQuiet_nil ?_;intro w3 j;have q:=η (m.o.trans j);clear j;go_wp2_with fail;go_ret3;rw[u.o];exact⟨rfl,q.o⟩
theorem z2F(n:Nat)(w:World)(x:n<200):
  Calls Tryz.prog 213 #[.int .i64 (n:Int)] w fun e w'=>e= .returned (.string ⟨(q2T n).toArray⟩)/\Ext w w':=by
 have v:decide ((200:Int)<=(n:Int))=false:=by simp;omega
 have r:Hd (q2T n=q1N ([99,104,110,107]++be 4 n)):=η rfl;have m:=η (fun W=>q7H (n:Int) 4 W (by omega) (by omega) (by omega) (by omega));have s:=η (fun W=>z3C ([99,104,110,107]++be 4 n) W (by simp[q0G]));have u:(be 4 n).length=4:=q0G 4 _;rw[Int.toNat_natCast] at m;generalize q1N ([99,104,110,107]++be 4 n)=Y at*;generalize be 4 n=X at*;go_enter Tryz.func213,Tryz.ntmps213;go_wp2_with fail;refine(m.o _).mono ?_;rintro e w1 ⟨rfl,d⟩;have q:=η d;clear d;go_wp2_with fail;have j:=q3M [99,104,110,107] X;have b:({data:=#[99,104,110,107]}:ByteArray)++{data:=X.toArray}=⟨([99,104,110,107]++X).toArray⟩:=j;rw[b];refine(s.o _).mono ?_;rintro e y ⟨rfl,d⟩;have l:=η (q.o.trans d);clear d;go_wp2_with fail;go_ret;exact⟨by rw[r.o];rfl,l.o⟩
theorem y0P(N:Int)(p:List UInt8)(w:World)(b:0<=N)(d:N<=4096)(o:p.length<=2000):
  Calls Tryz.prog 148 #[.int .i64 N,.string ⟨p.toArray⟩] w fun e w'=>e= .returned (.bool (decide ((p.length:Int)+12<=4096-N)))/\w=w':=by
 have j:decide ((0:Int)<=N)=true:=by simpa using b
 have l:decide (N<=(4096:Int))=true:=by simpa using d
 have m:decide ((p.length:Int)<=(2000:Int))=true:=by simp;omega
 go_enter Tryz.func148,Tryz.ntmps148;go_wp2_with fail;go_ret;exact⟨rfl,rfl⟩
def z6g(s p:List UInt8):Bool:=decide (p.length<=s.length)&&(s.take p.length==p)
theorem z0D(s p:List UInt8)(w:World)(j:s.length<=9223372036854775807)(l:p.length<=9223372036854775807):
  Calls Tryz.prog 244 #[.string ⟨s.toArray⟩,.string ⟨p.toArray⟩] w fun e w'=>e= .returned (.bool (z6g s p))/\w=w':=by
 by_cases h:p.length<=s.length
 ·have b:Hd (z6g s p=(s.take p.length==p)):=η (by unfold z6g;rw[ζ h,Bool.true_and])
  have d:decide ((p.length:Int)<=(s.length:Int))=true:=by simp;omega
  go_enter Tryz.func244,Tryz.ntmps244;go_wp2_with fail;go_ret;rw[b.o];exact⟨rfl,rfl⟩
 ·have b:Hd (z6g s p=false):=η (by unfold z6g;rw[ε h,Bool.false_and])
  have d:decide ((p.length:Int)<=(s.length:Int))=false:=by simp;omega
  go_enter Tryz.func244,Tryz.ntmps244;go_wp2_with fail;go_ret;rw[b.o];exact⟨rfl,rfl⟩
theorem z1F(s p:List UInt8)(w:World)(b:s.length<=9223372036854775807)(d:p.length<=9223372036854775807):
  Calls Tryz.prog 221 #[.string ⟨s.toArray⟩,.string ⟨p.toArray⟩] w fun e w'=>e= .returned (.bool (z6g s p))/\w=w':=by
 go_enter Tryz.func221,Tryz.ntmps221;go_wp2_with fail;refine(z0D s p _ b d).mono ?_;rintro e w1 ⟨rfl,rfl⟩;go_wp2_with fail;go_ret;exact⟨rfl,rfl⟩
theorem q6S : ∀(ps:List (List UInt8)) (a:Nat),∀r∈q2N a ps,a<=r.1/\r.1+r.2.length+12<=a+(ps.map fun p=>p.length+12).sum
 |[],_,r,h=>by cases h
 | p ::t,a,r,h=>by
  rw[q2N] at h;rcases List.mem_cons.1 h with rfl|h
  ·simp only[List.map_cons,List.sum_cons];omega
  ·have:=q6S t _ r h
   simp only[List.map_cons,List.sum_cons];omega
theorem q5Q : ∀(C:Cks) (b:Nat),(∀ps∈C,q0I ps<=4096)-> ∀r∈q0u b C,b+12<=r.1/\r.1<b+4096*C.length
 |[],_,_,r,h=>by cases h
 | ps ::t,b,hs,r,h=>by
  rw[q0u] at h;have d:=hs ps (List.mem_cons_self);unfold q0I at d;rcases List.mem_append.1 h with h|h
  ·have:=q6S ps _ r h
   simp only[χ];omega
  ·have:=q5Q t _ (fun q hq=>hs q (List.mem_cons_of_mem _ hq)) r h
   simp only[χ];omega
theorem q4q : ∀(C:Cks) (b n:Nat),q0u b C=q0u b (C.take n)++q0u (b+4096*n) (C.drop n)
 |C,b,0=>by simp[q0u]
 |[],b,n+1=>by simp[q0u]
 | ps::t,b,n+1=>by
  rw[List.take_succ_cons,List.drop_succ_cons,q0u,q0u,q4q t (b+4096) n,List.append_assoc]
  congr 3;omega
theorem z0T(C D:Cks)(b:Nat):q0u b (C++D)=q0u b C++q0u (b+4096*C.length) D:=by
 have:=q4q (C++D) b C.length
 rwa [List.take_left,List.drop_left] at this
theorem z5L{pos:Int}{l m:List (Nat×List UInt8)}(h: ∀r∈l,(r.1:Int)<pos):(l++m).find? (fun r=>decide (pos<=(r.1:Int)))=m.find? fun r=>decide (pos<=(r.1:Int)):=by
 rw[List.find?_append];have:l.find? (fun r=>decide (pos<=(r.1:Int)))=none:=List.find?_eq_none.2 fun r b=>by have:=h r b;simp;omega
 rw[this];rfl
theorem z1Q(C:Cks)(pos:Int)(d: ∀ps∈C,q0I ps<=4096)(n:Nat)(l:(n:Int)*4096<=pos):q3T C pos=(q0u (4096*n) (C.drop n)).find? fun r=>decide (pos<=(r.1:Int)):=by
 unfold q3T;rw[q4q C 0 n,Nat.zero_add];refine z5L fun r b=>?_
 have:=q5Q (C.take n) 0 (fun ps h=>d ps (List.mem_of_mem_take h)) r b;have j:(C.take n).length<=n:=List.length_take_le _ _;omega
theorem q4L : ∀(ps:List (List UInt8)) (a:Nat),(q2N a ps).length=ps.length
 |[],_=>rfl
 |p::t,a=>by simp[q2N,q4L t]
theorem z2t : ∀(ps:List (List UInt8)) (a k:Nat) (p:List UInt8),ps[k]? =some p->(q2N a ps)[k]? =some (a+((ps.take k).map fun p=>p.length+12).sum,p)
 |[],_,k,p,h=>by simp at h
 | q::t,a,0,p,h=>by
  simp only[List.getElem?_cons_zero,Option.some.injEq] at h;subst h;simp[q2N]
 | q::t,a,k+1,p,h=>by
  rw[List.getElem?_cons_succ] at h;rw[q2N,List.getElem?_cons_succ,z2t t _ k p h,List.take_succ_cons,List.map_cons,List.sum_cons]
  congr 2;omega
theorem q8K : ∀(ps:List (List UInt8)) (a k:Nat) (p:List UInt8),ps[k]? =some p->(q1Y a ps)[k]? =some (a+((ps.take k).map fun p=>p.length+12).sum,a+((ps.take k).map fun p=>p.length+12).sum+p.length+12)
 |[],_,k,p,h=>by simp at h
 | q::t,a,0,p,h=>by
  simp only[List.getElem?_cons_zero,Option.some.injEq] at h;subst h;simp[q1Y]
 | q::t,a,k+1,p,h=>by
  rw[List.getElem?_cons_succ] at h;rw[q1Y,List.getElem?_cons_succ,q8K t _ k p h,List.take_succ_cons,List.map_cons,List.sum_cons]
  congr 2<;>omega
theorem z8O(n:Nat)(ps:List (List UInt8))(k:Nat)(p:List UInt8)(h:ps[k]? =some p)(b:p.length<=2000):q4u (q0S n ps) (q0I (ps.take k))=some (p,q0I (ps.take k)+p.length+12):=by
 obtain⟨d,rfl⟩:=List.getElem?_eq_some_iff.1 h;have e:ps=ps.take k++ps[k]::ps.drop (k+1):=by rw[List.getElem_cons_drop];exact(List.take_append_drop _ _).symm
 have:=z5R n (ps.take k) ps[k] (ps.drop (k+1)) b
 rwa [<-e] at this
theorem z0A(a b:En)(w:World):Calls Tryz.prog 216 #[enV a,enV b] w fun e w'=>e= .returned (.bool (q0f a b))/\Ext w w':=by
 obtain⟨d,j,l⟩:=a;obtain⟨b1,b2,b3⟩:=b;have m:=η (q5I w (.cells #[.int .u64 d,.int .i64 j,.int .i64 l] 165) (.cells #[.int .u64 b1,.int .i64 b2,.int .i64 b3] 165));have q:Hd (q0f (d,j,l) (b1,b2,b3)=if d≠b1 then decide (d<b1) else if j≠b2 then decide (j<b2) else decide (l<b3)):=η rfl;show Calls Tryz.prog 216 #[.agg #[.int .u64 d,.int .i64 j,.int .i64 l],.agg #[.int .u64 b1,.int .i64 b2,.int .i64 b3]] w _;by_cases r:d=b1
 ·subst r
  by_cases s:j=b2
  ·subst s
   go_enter Tryz.func216,Tryz.ntmps216;go_wp2_with fail;go_ret;exact⟨rb (by rw[q.o];simp),m.o⟩
  ·have u:(j !=b2)=true:=by simpa using s
   go_enter Tryz.func216,Tryz.ntmps216;go_wp2_with fail;go_ret;exact⟨rb (by rw[q.o];simp[s]),m.o⟩
 ·have u:(d !=b1)=true:=by simpa using r
  go_enter Tryz.func216,Tryz.ntmps216;go_wp2_with fail;go_ret;exact⟨rb (by rw[q.o];simp[r]),m.o⟩
theorem q8O{L:List En}(q:k+1<L.length):q3y (L.take (k+2))=(q3y (L.take (k+1))&&q0f (L.getD k en0) (L.getD (k+1) en0)):=by
 rw[Bool.eq_iff_iff,Ξ,q3D,q3D];have m:L.take (k+2)=L.take (k+1)++[L.getD (k+1) en0]:=q0R L en0 (k+1) q;have j:L.take (k+1)=L.take k++[L.getD k en0]:=q0R L en0 k (by omega);rw[m];unfold q0v;rw[List.pairwise_append]
 constructor
 ·rintro⟨d,_,o⟩
  exact⟨d,o _ (by rw[j];simp) _ (by simp)⟩
 ·rintro⟨d,l⟩
  refine⟨d,by simp,fun x b y r=>?_⟩;obtain rfl:=List.mem_singleton.1 r;rw[j] at b d;rcases List.mem_append.1 b with b|b
  ·exact q1L ((List.pairwise_append.1 d).2.2 x b _ (by simp)) l
  ·obtain rfl:=List.mem_singleton.1 b;exact l
theorem z1j{L:List En}(d:k+1<L.length)(h:q0f (L.getD k en0) (L.getD (k+1) en0)=false):q3y L=false:=by
 cases hs:q3y L with
 |false=>rfl
 | true=>
  rw[q3D] at hs;have b:q0v (L.take (k+2)):=hs.sublist (List.take_sublist _ _);rw[<-q3D,q8O d,h,Bool.and_false] at b
  cases b
theorem z8B{ao:Option Addr}{cap:Nat}{L:List En}(w:World)(m:Ens w ao n cap L):Calls Tryz.prog 291 #[.slice ao n cap] w fun e w'=>e= .returned (.bool (q3y L))/\Ext w w':=by
 have G:=η m;have b1:=m.fits;have b2:=m.bound;have j:=η m.len;clear m;go_enter Tryz.func291,Tryz.ntmps291;go_wp2_with fail
 go_loopw [3] (fun i W=> ∃k:Nat,k+1<=max n 1/\i= .int .i64 ((k:Int)+1)/\q3y (L.take (k+1))=true/\Ext w W) (fun i _=>n-(intOf i).toNat)
 case atStart=>
  refine⟨0,by omega,rfl,?_,Ext.refl _⟩
  cases L with
  |nil=>rfl
  |cons a r=>rfl
 case round=>
  obtain⟨k,Y,rfl,C,B⟩:=hrel;have R:=η C;have D:=η B;by_cases u:k+1<n
  ·have U:decide (((k:Int)+1)<(n:Int))=true:=by simp;omega
   obtain⟨b,off,rfl,I,J,M⟩:=(G.o.ext B).at (i:=k) (by omega);obtain⟨_,_,S,N,O,Q⟩:=(G.o.ext B).at (i:=k+1) u
   cases S;have E:=η (q8O (L:=L) (k:=k) (by rw[j.o];exact u));have v:=η (z1j (L:=L) (k:=k) (by rw[j.o];exact u));obtain⟨x,m⟩: ∃x,L.getD k en0=x:=⟨_,rfl⟩
   obtain⟨y,F⟩: ∃y,L.getD (k+1) en0=y:=⟨_,rfl⟩
   rw[m] at I J M;rw[F] at N O Q;rw[m,F] at E v;obtain⟨q,hq⟩: ∃q,q0f x y=q:=⟨_,rfl⟩
   have l:=η (fun W=>z0A x y W);rw[hq] at l E v;obtain⟨x1,x2,x3⟩:=x;obtain⟨y1,y2,y3⟩:=y;unfold enV ec at l;have Z:=q0C I;have u1:=q0C J;have u2:=q0C M;have v0:=q0C N;have v1:=q0C O;have v2:=q0C Q;have V:IntKind.i64.wrap ((k:Int)+1-1)=(k:Int):=by rw[ν];omega
   have d:IntKind.i64.wrap (k:Int)=(k:Int):=by rw[ν];omega
   clear m F C B hq
   cases q with
   | true=>
    go_wp2_with fail;refine q0D (by kernel_rfl) (by kernel_rfl) ?_
    repeat (go_big_quiet_step (first|(go_at_call 216;exact Calls.quiet_ext (l.o _))))
    refine wpQuiet_nil ?_;intro X d;have s:=η (D.o.trans d);clear d;go_wp2_with fail
    go_roundw
    case rel=>exact⟨k+1,by omega,by go_num,by rw[E.o,R.o];rfl,s.o⟩
    case measure=>simp[intOf];omega
   | false=>
    go_wp2_with fail;refine q0D (by kernel_rfl) (by kernel_rfl) ?_
    repeat (go_big_quiet_step (first|(go_at_call 216;exact Calls.quiet_ext (l.o _))))
    refine wpQuiet_nil ?_;intro X d;have s:=η (D.o.trans d);clear d;go_wp2_with fail;go_ret;exact⟨rb (v.o (by first|rfl|trivial)),s.o⟩
  ·have U:decide (((k:Int)+1)<(n:Int))=false:=by simp;omega
   have v:Hd (q3y L=true):=η (by rwa [Δ (by rw[j.o];omega)] at C);clear C B;go_wp2_with fail;go_ret;exact⟨rb v.o,D.o⟩
end
end Go.Proofs.YtfiibpgoplcgkaaGreatDoor
