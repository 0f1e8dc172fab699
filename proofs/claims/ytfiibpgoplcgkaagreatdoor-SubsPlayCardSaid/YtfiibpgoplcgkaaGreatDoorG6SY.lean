/- Plain laws. -/
import Derived.Test.YtfiibpgoplcgkaaGreatDoorG4SY
import Derived.Test.YtfiibpgoplcgkaaGreatDoorG5SY
import Derived.Laws.BitsLemmas
set_option linter.unusedVariables false
set_option linter.unusedSimpArgs false
set_option maxRecDepth 100000
set_option maxHeartbeats 6400000
namespace Go.Proofs.YtfiibpgoplcgkaaGreatDoor
variable {a i k n:Nat}{p t:List UInt8}{α:Type}{ps:List (List UInt8)}{L:List FM}{σ σ':DM}{f:FM}{c:Int}
section
open Go.RowKit
theorem q2L(a b:List UInt8):(⟨a.toArray⟩:ByteArray)++⟨b.toArray⟩=⟨(a++b).toArray⟩:=by rw[ByteArray.mk_append_mk];first|done|simp
def q2T(p:List UInt8):List UInt8:=q1T (be 4 p.length++p)++be 4 p.length
def q4J(s:List UInt8)(a:Nat):Nat:=q1N ((s.drop a).take 4)
def isR(s:List UInt8)(a:Nat):Bool:=
 decide (a+12<=s.length)&&decide (q4J s a<=2000)&&decide (a+q4J s a+12<=s.length)
 &&q2F ((s.drop a).take (q4J s a+8))&&decide ((s.drop (a+q4J s a+8)).take 4=(s.drop a).take 4)
def q5L(s:List UInt8)(a:Nat):Option (List UInt8×Nat):=
 if isR s a then some ((s.drop (a+4)).take (q4J s a),a+q4J s a+12) else none
def q5X :Nat->List UInt8->Nat->List (Nat×Nat)
 |0,_,_=>[]
 | f+1,s,a=>match q5L s a with
  |none=>[]
  |some (_,b)=>(a,b)::q5X f s b
def q0o(s:List UInt8)(a:Nat):List (Nat×Nat):=q5X (s.length+1) s a
def z0H(a:Nat)(l:List (Nat×Nat)):Nat:=(l.getLast?.map Prod.snd).getD a
def q2d(n:Nat):List UInt8:=q1T ([99,104,110,107]++be 4 n)
def q4u(ps:List (List UInt8)):List UInt8:=(ps.map q2T).flatten
def q0W(n:Nat)(ps:List (List UInt8)):List UInt8:=q2d n++q4u ps
def q0K(ps:List (List UInt8)):Nat:=12+(ps.map fun p=>p.length+12).sum
def q1i :Nat->List (List UInt8)->List (Nat×Nat)
 |_,[]=>[]
 |a,p::r=>(a,a+p.length+12)::q1i (a+p.length+12) r
theorem q1K(p:List UInt8):(q2T p).length=p.length+12:=by
 simp only[q2T,θ,q1H,q0G];omega
theorem q2w(n:Nat):(q2d n).length=12:=by simp[q2d,q1H,q0G]
theorem z0R(ps:List (List UInt8)):(q4u ps).length=(ps.map fun p=>p.length+12).sum:=by
 unfold q4u
 induction ps with
 |nil=>rfl
 |cons p r ih=>simp[q1K,ih]
theorem q0w(n:Nat)(ps:List (List UInt8)):(q0W n ps).length=q0K ps:=by
 simp[q0W,q0K,q2w,z0R]
theorem z4I(ps:List (List UInt8))(p:List UInt8):q4u (ps++[p])=q4u ps++q2T p:=by simp[q4u]
theorem z1h(n:Nat)(ps:List (List UInt8))(p:List UInt8):q0W n (ps++[p])=q0W n ps++q2T p:=by simp[q0W,z4I]
theorem z4N(n:Nat)(p:List UInt8):q0W n [p]=q2d n++q2T p:=by simp[q0W,q4u]
theorem q2J(ps:List (List UInt8))(p:List UInt8):q0K (ps++[p])=q0K ps+(p.length+12):=by simp[q0K,List.sum_append];omega
theorem q4c(p:List UInt8):q0K [p]=12+(p.length+12):=by simp[q0K]
theorem z0h{s:List UInt8}{b:Nat}(h:q5L s a=some (p,b)):
  p.length<=2000/\b=a+p.length+12/\b<=s.length/\p=(s.drop (a+4)).take p.length/\q4J s a=p.length:=by
 unfold q5L at h
 split at h
 case isFalse=>cases h
 case isTrue hi=>
  unfold isR at hi;simp only[Ξ,Φ] at hi;obtain⟨⟨⟨⟨m,d⟩,j⟩,o⟩,q⟩:=hi;simp only[Option.some.injEq,Prod.mk.injEq] at h;obtain⟨rfl,rfl⟩:=h;have l:((s.drop (a+4)).take (q4J s a)).length=q4J s a:=by simp;omega
  rw[l];exact⟨d,rfl,j,rfl,rfl⟩
theorem y0A(d m b:List α)(h:a=d.length):(d++m++b).drop a=m++b:=by
 subst h;rw[List.append_assoc,List.drop_left]
theorem z3O(d p b:List UInt8)(x:p.length<=2000)(q:a=d.length):q5L (d++q2T p++b) a=some (p,a+p.length+12):=by
 have m:(d++q2T p++b).drop a=be 4 p.length++(p++(q8E (q1l (be 4 p.length++p))++(be 4 p.length++b))):=by
  rw[y0A _ _ _ q];simp[q2T,q1T]
 have l:(be 4 p.length).length=4:=q0G 4 _;have o:=q5F (q1l (be 4 p.length++p));have j:q4J (d++q2T p++b) a=p.length:=by
  unfold q4J;rw[m,List.take_left' l,q5K];omega
 have r:(d++q2T p++b).length=a+(p.length+12)+b.length:=by simp[q1K,q];omega
 have v:isR (d++q2T p++b) a=true:=by
  unfold isR;rw[j];simp only[Ξ,Φ];refine⟨⟨⟨⟨by omega,x⟩,by omega⟩,?_⟩,?_⟩
  ·have e:((d++q2T p++b).drop a).take (p.length+8)=q1T (be 4 p.length++p):=by
    rw[m];have:be 4 p.length++(p++(q8E (q1l (be 4 p.length++p))++(be 4 p.length++b)))=q1T (be 4 p.length++p)++(be 4 p.length++b):=by simp[q1T]
    rw[this];exact List.take_left' (by simp[q1H,l];omega)
   rw[e];unfold q2F;simp only[Ξ,Φ,q1H];refine⟨by omega,?_⟩;have s:(q1T (be 4 p.length++p)).take ((be 4 p.length++p).length+4-4)=be 4 p.length++p:=by
    unfold q1T;exact List.take_left' (by omega)
   rw[s]
  ·have e:(d++q2T p++b).drop (a+p.length+8)=be 4 p.length++b:=by
    have:a+p.length+8=a+(p.length+8):=by omega
    rw[this,<-List.drop_drop,m];have:be 4 p.length++(p++(q8E (q1l (be 4 p.length++p))++(be 4 p.length++b)))=(be 4 p.length++(p++q8E (q1l (be 4 p.length++p))))++(be 4 p.length++b):=by simp
    rw[this];exact List.drop_left' (by simp[l,o];omega)
   rw[e,m,List.take_left' l,List.take_left' l]
 unfold q5L;rw[ξ v,j]
 congr 2
 rw[<-List.drop_drop,m];have u:(be 4 p.length++(p++(q8E (q1l (be 4 p.length++p))++(be 4 p.length++b)))).drop 4=p++(q8E (q1l (be 4 p.length++p))++(be 4 p.length++b)):=List.drop_left' l;rw[u];exact List.take_left' rfl
theorem z6O(s:List UInt8)(a:Nat)(h:s.length<a+12):q5L s a=none:=by
 unfold q5L isR;rw[ε (by omega)];simp
theorem q8V : ∀(ps:List (List UInt8)) (pre:List UInt8) (f a:Nat),(∀p∈ps,p.length<=2000)->a=pre.length->ps.length<f->q5X f (pre++q4u ps) a=q1i a ps
 |[],pre,0,a,_,_,hf=>by simp at hf
 | [],pre,f+1,a,_,ha,_=>by
  unfold q5X;rw[z6O _ _ (by simp[q4u,ha])]
  rfl
 |p::r,pre,0,a,_,_,hf=>by simp at hf
 | p::r,pre,f+1,a,hp,ha,hf=>by
  have e:pre++q4u (p::r)=pre++q2T p++q4u r:=by simp[q4u]
  rw[e];unfold q5X;rw[z3O pre p (q4u r) (hp p (List.mem_cons_self)) ha];show _::q5X f (pre++q2T p++q4u r) (a+p.length+12)=_;rw[q8V r (pre++q2T p) f _ (fun q hq=>hp q (List.mem_cons_of_mem _ hq)) (by simp[q1K,ha];omega) (by simp at hf;omega)]
  rfl
theorem z9c(ps:List (List UInt8)):12*ps.length<=(ps.map fun p=>p.length+12).sum:=by
 induction ps with
 |nil=>simp
 |cons p r ih=>simp only[List.map_cons,List.sum_cons,χ];omega
theorem q8B(n:Nat)(ps:List (List UInt8))(b: ∀p∈ps,p.length<=2000):q0o (q0W n ps) 12=q1i 12 ps:=by
 unfold q0o;refine q8V ps (q2d n) _ 12 b (q2w n).symm ?_;have:=z9c ps;show _<(q0W n ps).length+1;rw[q0w];unfold q0K;omega
theorem q6V : ∀(ps:List (List UInt8)) (p:List UInt8) (a:Nat),q1i a (ps++[p])=q1i a ps++[(a+(ps.map fun p=>p.length+12).sum,a+(ps.map fun p=>p.length+12).sum+p.length+12)]
 |[],p,a=>by simp[q1i]
 | q::r,p,a=>by
  rw[List.cons_append,q1i,q6V r p,q1i,List.cons_append];simp only[List.map_cons,List.sum_cons]
  congr 4<;>omega
theorem z2N : ∀(ps:List (List UInt8)) (a:Nat),z0H a (q1i a ps)=a+(ps.map fun p=>p.length+12).sum:=fun ps a=>by
 rcases List.eq_nil_or_concat ps with rfl|⟨r,p,rfl⟩
 ·rfl
 ·rw[List.concat_eq_append,q6V]
  unfold z0H;simp only[List.getLast?_append,List.getLast?_singleton,Option.some_or,Option.map_some,Option.getD_some,List.map_append,List.map_cons,List.map_nil,List.sum_append,List.sum_cons,List.sum_nil];omega
theorem q2c : ∀(ps:List (List UInt8)) (a:Nat),(q1i a ps).length=ps.length
 |[],_=>rfl
 |p::r,a=>by simp[q1i,q2c r]
theorem z6I(n:Nat)(l:List (List UInt8))(p:List UInt8)(r:List (List UInt8))(b:p.length<=2000):q5L (q0W n (l++p::r)) (q0K l)=some (p,q0K l+p.length+12):=by
 have e:q0W n (l++p::r)=q0W n l++q2T p++q4u r:=by simp[q0W,q4u]
 rw[e];exact z3O _ _ _ b (q0w n l).symm
theorem q2i(s:List UInt8)(m j:Int)(a b:Nat)(l:m=(a:Int))(d:j=(b:Int))(h:a<=b)(r:b<=s.length){X:List UInt8}(q:(s.take b).drop a=X):
  ∀w,(Instr.slice 9 (.string ⟨s.toArray⟩) (some (.int .i64 m)) (some (.int .i64 j)) none).run Tryz.prog w= .ok (.string ⟨X.toArray⟩) w:=fun w=>by
 have o:=run_slice_string (P:=Tryz.prog) w 9 ⟨s.toArray⟩ .i64 .i64 m j Tryz.underlying9 (by omega) (by omega) (by simp[ByteArray.size];omega);rw[o,l,d,<-q];show _=Result.ok (Value.string ⟨((s.take b).drop a).toArray⟩) w;rw[<-q3C];rfl
theorem q4m(s:List UInt8)(j:Int)(b:Nat)(d:j=(b:Int))(o:b<=s.length):
  ∀w,(Instr.slice 9 (.string ⟨s.toArray⟩) none (some (.int .i64 j)) none).run Tryz.prog w= .ok (.string ⟨(s.take b).toArray⟩) w:=fun w=>by
 have l:=run_slice_string_to_if (P:=Tryz.prog) w 9 ⟨s.toArray⟩ .i64 j Tryz.underlying9;have m:(ByteArray.size ⟨s.toArray⟩)=s.length:=by simp[ByteArray.size]
 rw[l,m,ξ (by omega),d];show Result.ok (Value.string ((⟨s.toArray⟩:ByteArray).extract 0 b)) w=_;rw[q3C];rfl
theorem q3E(s:List UInt8)(d:Int)(a:Nat)(b:d=(a:Int))(m:a<=s.length):
  ∀w,(Instr.slice 9 (.string ⟨s.toArray⟩) (some (.int .i64 d)) none none).run Tryz.prog w= .ok (.string ⟨(s.drop a).toArray⟩) w:=fun w=>by
 have j:=run_slice_string_from_if (P:=Tryz.prog) w 9 ⟨s.toArray⟩ .i64 d Tryz.underlying9;have l:(ByteArray.size ⟨s.toArray⟩)=s.length:=by simp[ByteArray.size]
 rw[j,l,ξ (by omega),b];show Result.ok (Value.string ((⟨s.toArray⟩:ByteArray).extract a s.length)) w=_;rw[q3C,List.take_length]
theorem z6x(k:Nat)(N:Int)(w:World)(q:N=(k:Int))(s:k<=9223372036854775807):
  Calls Tryz.prog 206 #[.int .i64 N] w fun e w'=>e= .returned (.string ⟨(be 4 k).toArray⟩)/\Ext w w':=by
 have m:0<=N:=by omega
 have r:N<=9223372036854775807:=by omega
 have b:N.toNat=k:=by omega
 have l:=η b;clear q b;go_enter Tryz.func206,Tryz.ntmps206;go_wp2_with fail;refine(q7g N 4 _ (by omega) (by omega) m (by omega)).mono ?_;rintro e w1 ⟨rfl,d⟩;have j:=η d;clear d;rw[l.o];go_wp2_with fail;go_ret;exact⟨rfl,j.o⟩
theorem z6r(p:List UInt8)(w:World)(j:2000<p.length)(d:p.length<=9223372036854775807):
  Calls Tryz.prog 147 #[.string ⟨p.toArray⟩] w fun e w'=>e= .returned (.tuple #[.string ⟨#[]⟩,.int .i64 3])/\w=w':=by
 have b:decide ((2000:Int)<(p.length:Int))=true:=by simp;omega
 go_enter Tryz.func147,Tryz.ntmps147;go_wp2_with fail;go_ret2;exact⟨rfl,rfl⟩
theorem z8x(p:List UInt8)(w:World)(y:p.length<=2000):
  Calls Tryz.prog 147 #[.string ⟨p.toArray⟩] w fun e w'=>e= .returned (.tuple #[.string ⟨(q2T p).toArray⟩,.int .i64 0])/\Ext w w':=by
 have v:decide ((2000:Int)<(p.length:Int))=false:=by simp;omega
 obtain⟨n,x⟩: ∃n:Int,n=(p.length:Int):=⟨_,rfl⟩
 have s:Hd (q2T p=q1T (be 4 p.length++p)++be 4 p.length):=η rfl;have d:(be 4 p.length).length=4:=q0G 4 _;have B:(q1T (be 4 p.length++p)).length=p.length+8:=by simp[q1H,d];omega
 have q:=η (fun W=>z6x p.length (p.length:Int) W rfl (by omega));have u:=η (fun W=>z3q (be 4 p.length++p) W (by simp[d];omega));go_enter Tryz.func147,Tryz.ntmps147;go_wp2_with fail;refine(q.o _).mono ?_;rintro e w1 ⟨rfl,b⟩;have r:=η b;clear b;generalize be 4 p.length=X at*;go_wp2_with fail;have m:=u.o w1;generalize q1T (X++p)=Y at*;rw[q2L];refine m.mono ?_;rintro e C ⟨rfl,b⟩;have j:=η (r.o.trans b);clear b;go_wp2_with fail;refine(q.o _).mono ?_;rintro e D ⟨rfl,b⟩;have l:=η (j.o.trans b);clear b;go_wp2_with fail;go_ret2;exact⟨by rw[s.o,q2L];rfl,l.o⟩
theorem q4D : ∀a b:List UInt8,Op.bytesLess a b=bytesBefore a b
 |[],[]=>rfl
 |[],_::_=>rfl
 |_::_,[]=>rfl
 |a::x,b::y=>by unfold Op.bytesLess bytesBefore;rw[q4D x y]
abbrev Cks :=List (List (List UInt8))
def q4H :Nat->Cks->List (List UInt8×List UInt8)
 |_,[]=>[]
 |i,ps::r=>(q0F 99 (i:Int),q0W i ps)::q4H (i+1) r
theorem q5D : ∀(C:Cks) (i:Nat),(q4H i C).length=C.length
 |[],_=>rfl
 |ps::r,i=>by simp[q4H,q5D r]
theorem q3H : ∀(C D:Cks) (i:Nat),q4H i (C++D)=q4H i C++q4H (i+C.length) D
 |[],D,i=>rfl
 | ps::r,D,i=>by
  rw[List.cons_append,q4H,q3H r D (i+1),q4H,List.cons_append,χ]
  congr 3;omega
theorem q3V : ∀{C:Cks} {i:Nat} {x:List UInt8×List UInt8},x∈q4H i C-> ∃k,i<=k/\k<i+C.length/\x.1=q0F 99 (k:Int)
 |[],_,_,h=>by cases h
 | ps ::r,i,x,h=>by
  rcases List.mem_cons.1 h with rfl|h
  ·exact⟨i,ι _,by simp,rfl⟩
  ·obtain⟨k,d,j,b⟩:=q3V h
   exact⟨k,by omega,by simp;omega,b⟩
theorem q2x(n:Int):(q0F 99 n).length<=9223372036854775807:=by
 by_cases h:0<=n/\n<=999999
 ·rw[q0c h,χ,q0j];decide
 ·rw[q6j h];decide
theorem z7u(b:i<=999999)(d:k<=999999)(h:i≠k):q0F 99 (i:Int)≠q0F 99 (k:Int):=fun e=>by
 have:=z8n 99 (i:Int) (k:Int) (by omega) (by omega);rw[e,beq_self_eq_true] at this;have:=of_decide_eq_true this.symm;omega
theorem q6N(j:i<=999999)(l:k<=999999)(h:i<k):bytesBefore (q0F 99 (i:Int)) (q0F 99 (k:Int))=true:=by
 have b:=z4m 99 (i:Int) (k:Int) (by omega) (by omega);have d:decide ((i:Int)<(k:Int))=true:=by simp;omega
 rw[d] at b;rw[<-q4D];exact b
theorem q5Q{C:Cks}(m:k<=999999)(q:i+C.length<=999999)(h: ∀j,i<=j->j<i+C.length->j≠k): ∀y∈q4H i C,Prod.fst y≠q0F 99 (k:Int):=fun y o=>by
 obtain⟨j,b,d,l⟩:=q3V o;rw[l];exact z7u (by omega) m (h j b d)
theorem z0T{C:Cks}(o:C.length<=200)(l:C[k]? =some ps):q0H Prod.fst (q0F 99 (k:Int)) (q4H 0 C)=some (q0F 99 (k:Int),q0W k ps):=by
 obtain⟨m,rfl⟩:=List.getElem?_eq_some_iff.1 l;have e:C=C.take k++C[k]::C.drop (k+1):=by
  rw[List.getElem_cons_drop];exact(List.take_append_drop _ _).symm
 have b:(C.take k).length=k:=by simp;omega
 conv=>lhs;rw[e]
 rw[q3H,b,Nat.zero_add,q0d]
 ·rw[q4H];unfold q0H;rw[List.find?_cons_of_pos (by simp)]
 ·exact q5Q (by omega) (by rw[b];omega) fun j _ d=>by rw[b] at d;omega
theorem z0U{C:Cks}(l:C.length<=200)(m:C.length<=k)(b:k<=999999):q0H Prod.fst (q0F 99 (k:Int)) (q4H 0 C)=none:=
 q0b (q5Q b (by omega) fun j _ d=>by omega)
theorem z7t{C:Cks}(s:C.length<=200):q0H Prod.fst [110,101,119] (q4H 0 C)=none:=q0b fun y m e=>by
 obtain⟨j,o,q,b⟩:=q3V m;rw[e] at b;have r:j<200:=by omega
 rw[q0c (by omega)] at b;have d:=congrArg List.length b;have l:(99::q4y 6 ((j:Int)).toNat).length=7:=by simp[q0j]
 rw[l] at d
 cases d
theorem q8U : ∀(C:Cks) (i:Nat),(q4H i C).map Prod.fst=(List.range' i C.length).map fun k:Nat=>q0F 99 (k:Int)
 |[],_=>rfl
 |ps::r,i=>by rw[q4H,List.map_cons,q8U r,χ,List.range'_succ,List.map_cons]
theorem q1O(a b:List (List UInt8×List UInt8)):q2b (a++b)=q2b a+q2b b:=by simp[q2b,q5u,List.sum_append]
theorem z1S(x:List UInt8×List UInt8):q2b [x]=x.2.length:=by simp[q2b,q5u]
theorem z5Y{D:Cks}(p:List UInt8)(d:D.length<=200):q1U Prod.fst (q0F 99 (D.length:Int)) (fun x=>(x.1,x.2++q2T p)) (q4H 0 (D++[ps]))=q4H 0 (D++[ps++[p]]):=by
 rw[q3H,q3H,q4r,q3F,Nat.zero_add]
 ·congr 1
  show q1U Prod.fst (q0F 99 (D.length:Int)) _ [(q0F 99 (D.length:Int),q0W D.length ps)]=[(q0F 99 (D.length:Int),q0W D.length (ps++[p]))];rw[z1h];unfold q1U;simp
 ·exact q5Q (by omega) (by omega) fun j _ b=>by omega
theorem z4R{C:Cks}(p:List UInt8)(d:C.length<=200):q1U Prod.fst (q0F 99 (C.length:Int)) (fun x=>(x.1,x.2++(q2d C.length++q2T p))) (q4H 0 C++[(q0F 99 (C.length:Int),[])])=q4H 0 (C++[[p]]):=by
 rw[q3H,q4r,q3F,Nat.zero_add]
 ·congr 1
  show q1U Prod.fst (q0F 99 (C.length:Int)) _ [(q0F 99 (C.length:Int),[])]=[(q0F 99 (C.length:Int),q0W C.length [p])];rw[z4N];unfold q1U;simp
 ·exact q5Q (by omega) (by omega) fun j _ b=>by omega
def q0q(C:Cks):Nat:=(C.map q0K).sum
theorem q5R : ∀(C:Cks) (i:Nat),q2b (q4H i C)=q0q C
 |[],_=>rfl
 | ps::r,i=>by
  have e:q4H i (ps::r)=[(q0F 99 (i:Int),q0W i ps)]++q4H (i+1) r:=rfl;rw[e,q1O,z1S,q5R r];simp[q0q,q0w]
structure okC(C:Cks):Prop where
 few:C.length<=200
 size: ∀ps∈C,q0K ps<=4096
 pay: ∀ps∈C,∀p∈ps,p.length<=2000
 full: ∀ps∈C.dropLast,ps≠[]
structure Oth where
 X:List (List UInt8×List UInt8)
 Z:List (List UInt8×List UInt8)
def noO :Oth:=⟨[],[]⟩
structure okOth(E:Oth):Prop where
 before: ∀y∈E.X,∀k:Nat,k<=999999->bytesBefore y.1 (q0F 99 (k:Int))=true
 behind: ∀y∈E.Z,∀k:Nat,k<=999999->bytesBefore (q0F 99 (k:Int)) y.1=true
 new: ∀y,y∈E.X\/y∈E.Z->y.1≠[110,101,119]
 kind: ∀y,y∈E.X\/y∈E.Z->(q1C y.1).2.2=true->(q1C y.1).1≠99
 len: ∀y,y∈E.X\/y∈E.Z->y.1.length<=1000
 few:E.X.length+E.Z.length<=190
theorem okOth.no :okOth noO:=⟨(fun _ h=>by cases h),(fun _ h=>by cases h),(fun _ h=>by rcases h with h|h<;>cases h),(fun _ h=>by rcases h with h|h<;>cases h),(fun _ h=>by rcases h with h|h<;>cases h),υ _⟩
def q2a(E:Oth):Nat:=q2b E.X+q2b E.Z
def q3Q(E:Oth)(C:Cks):List (List UInt8×List UInt8):=E.X++(q4H 0 C++E.Z)
def z4S(E:Oth)(C:Cks):List (List UInt8×List UInt8):=E.X++(q4H 0 C++((q0F 99 (C.length:Int),[])::E.Z))
theorem q6y(E:Oth)(C:Cks):(q3Q E C).length=E.X.length+C.length+E.Z.length:=by simp[q3Q,q5D];omega
theorem z2r{a b:List UInt8}(h:bytesBefore a b=true):a≠b:=fun e=>by rw[e,WideAt.bytes_irrefl] at h;cases h
theorem okOth.neX{E:Oth}(h:okOth E)(b:k<=999999): ∀y∈E.X,Prod.fst y≠q0F 99 (k:Int):=fun y d=>z2r (h.before y d k b)
theorem okOth.neZ{E:Oth}(h:okOth E)(b:k<=999999): ∀y∈E.Z,Prod.fst y≠q0F 99 (k:Int):=fun y d e=>z2r (h.behind y d k b) e.symm
theorem q1X{k:α->List UInt8}{nm:List UInt8}{a b:List α}(h: ∀y∈b,k y≠nm):q0H k nm (a++b)=q0H k nm a:=by
 unfold q0H;rw[List.find?_append];have:List.find? (fun y=>k y==nm) b=none:=q0b h;rw[this];simp
theorem q3G{E:Oth}(b:okOth E){C:Cks}(j:C.length<=200)(d:C[k]? =some ps):q0H Prod.fst (q0F 99 (k:Int)) (q3Q E C)=some (q0F 99 (k:Int),q0W k ps):=by
 have l:=(List.getElem?_eq_some_iff.1 d).1;unfold q3Q;rw[q0d (b.neX (by omega)),q1X (b.neZ (by omega))];exact z0T j d
theorem z5X{E:Oth}(d:okOth E){C:Cks}(j:C.length<=200)(l:C.length<=k)(b:k<=999999):q0H Prod.fst (q0F 99 (k:Int)) (q3Q E C)=none:=by
 unfold q3Q;rw[q0d (d.neX b),q1X (d.neZ b)];exact z0U j l b
theorem z7s{E:Oth}(d:okOth E){C:Cks}(j:C.length<=200):q0H Prod.fst [110,101,119] (q3Q E C)=none:=by
 unfold q3Q;rw[q0d fun y b=>d.new y (.inl b),q1X fun y b=>d.new y (.inr b)];exact z7t j
theorem q6z(E:Oth)(C:Cks):q2b (q3Q E C)=q2a E+q0q C:=by
 unfold q3Q q2a;rw[q1O,q1O,q5R];omega
theorem z5a(E:Oth)(C:Cks):q2b (z4S E C)=q2a E+q0q C:=by
 have e:z4S E C=E.X++(q4H 0 C++([(q0F 99 (C.length:Int),[])]++E.Z)):=rfl;rw[e,q1O,q1O,q1O,q5R,z1S];unfold q2a;simp;omega
theorem z5W{E:Oth}(b:okOth E){D:Cks}(p:List UInt8)(d:D.length<=200):q1U Prod.fst (q0F 99 (D.length:Int)) (fun x=>(x.1,x.2++q2T p)) (q3Q E (D++[ps]))=q3Q E (D++[ps++[p]]):=by
 unfold q3Q;rw[q4r,q4r,q3F (b.neX (by omega)),q3F (b.neZ (by omega)),z5Y p d]
theorem q7U{k:α->List UInt8}{x:α}{b:List α}: ∀{a:List α},(∀y∈a,bytesBefore (k y) (k x)=true)->q3m k x (a++b)=a++q3m k x b
 |[],_=>rfl
 | y ::r,h=>by
  have d:=h y (List.mem_cons_self);have j:¬bytesBefore (k x) (k y)=true:=fun l=>by
   have:=WideShapes.bytes_trans _ _ _ d l;rw[WideAt.bytes_irrefl] at this
   cases this
  rw[List.cons_append,q3m,κ j,q7U fun z m=>h z (List.mem_cons_of_mem _ m)]
  rfl
theorem z4h{k:α->List UInt8}{x:α}: ∀{b:List α},(∀y∈b,bytesBefore (k x) (k y)=true)->q3m k x b=x::b
 |[],_=>rfl
 |y::r,h=>by rw[q3m,ξ (h y (List.mem_cons_self))]
theorem z7r{E:Oth}(d:okOth E){C:Cks}(q:C.length<=200):q3m Prod.fst (q0F 99 (C.length:Int),[]) (q3Q E C)=z4S E C:=by
 unfold q3Q z4S;rw[q7U fun y b=>d.before y b _ (by omega),q7U fun y b=>?_,z4h fun y b=>d.behind y b _ (by omega)];obtain⟨j,m,o,l⟩:=q3V b;rw[l];exact q6N (by omega) (by omega) (by omega)
theorem z5Z{E:Oth}(b:okOth E){C:Cks}(l:C.length<=200):q0H Prod.fst (q0F 99 (C.length:Int)) (z4S E C)=some (q0F 99 (C.length:Int),[]):=by
 unfold z4S;rw[q0d (b.neX (by omega)),q0d (q5Q (by omega) (by omega) fun j _ d=>by omega)];unfold q0H;rw[List.find?_cons_of_pos (by simp)]
theorem z4P{E:Oth}(b:okOth E){C:Cks}(p:List UInt8)(d:C.length<=200):q1U Prod.fst (q0F 99 (C.length:Int)) (fun x=>(x.1,x.2++(q2d C.length++q2T p))) (z4S E C)=q3Q E (C++[[p]]):=by
 have e:z4S E C=E.X++((q4H 0 C++[(q0F 99 (C.length:Int),[])])++E.Z):=by simp[z4S]
 rw[e];unfold q3Q;rw[q4r,q4r,q3F (b.neX (by omega)),q3F (b.neZ (by omega)),z4R p d]
theorem z4Q(E:Oth)(C:Cks):(q3Q E C).map Prod.fst=E.X.map Prod.fst++((List.range C.length).map (fun k:Nat=>q0F 99 (k:Int))++E.Z.map Prod.fst):=by
 unfold q3Q;rw[List.map_append,List.map_append,q8U,List.range_eq_range']
def q3f(C:Cks):Int:=match C.getLast? with|none=>0|some ps=>((C.length:Int)-1)*4096+(q0K ps:Int)
theorem q9P :q3f []=0:=rfl
theorem q1J(D:Cks)(ps:List (List UInt8)):q3f (D++[ps])=(D.length:Int)*4096+(q0K ps:Int):=by
 unfold q3f;simp
theorem y0D{C:Cks}(h:okC C):0<=q3f C/\q3f C<=(C.length:Int)*4096:=by
 rcases List.eq_nil_or_concat C with rfl|⟨D,ps,rfl⟩
 ·rw[q9P];exact⟨Int.le_refl _,Int.le_refl _⟩
 ·rw[List.concat_eq_append] at*
  have:=h.size ps (by simp);rw[q1J,θ,List.length_singleton];omega
def AllS(L:List FM):Prop:= ∀f∈L,f.sy=f.da.length
def Sur(L:List FM)(n:Nat)(k:Int):Prop:= ∀f∈L,f.sy=f.da.length\/ ∃j:Nat,n=j+1/\f.nm=q0F 99 (j:Int)/\k<=(j:Int)*4096+(f.sy:Int)
theorem AllS.sur(h:AllS L)(n:Nat)(k:Int):Sur L n k:=fun f b=> .inl (h f b)
theorem Sur.all0{k:Int}(h:Sur L 0 k):AllS L:=fun f b=>(h f b).elim id fun ⟨j,e,_⟩=>absurd e (by omega)
theorem Sur.less{k k':Int}(h:Sur L n k)(m:k'<=k):Sur L n k':=fun f l=>(h f l).imp id fun ⟨j,a,b,d⟩=>⟨j,a,b,by omega⟩
theorem q2n{a:Int}(b:a≠0)(h:(a,σ)=(0,σ')):False:=b (congrArg Prod.fst h)
theorem z4V{nm:List UInt8}(h:q1w σ nm=(0,σ'))(d:AllS σ.L):AllS σ'.L:=by
 unfold q1w at h
 split at h
 ·exact(q2n (by decide) h).elim
 split at h
 ·exact(q2n (by decide) h).elim
 split at h
 ·exact(q2n (by decide) h).elim
 split at h
 ·exact(q2n (by decide) h).elim
 split at h
 ·exact(q2n (by decide) h).elim
 have e:=congrArg Prod.snd h;subst e;intro f b;have b:f∈q3m FM.nm ⟨nm,[],0⟩ σ.L:=b;rcases mem_insN.1 b with rfl|b
 ·rfl
 ·exact d f b
theorem q8S{nm:List UInt8}(h:q1g σ nm t=(0,σ'))(l:f∈σ'.L): ∃b∈σ.L,(b.nm=nm/\f={b with da:=b.da++t})\/(b.nm≠nm/\f=b):=by
 unfold q1g at h
 split at h
 ·exact(q2n (by decide) h).elim
 split at h
 ·exact(q2n (by decide) h).elim
 split at h
 ·exact(q2n (by decide) h).elim
 split at h
 ·exact(q2n (by decide) h).elim
 have e:=congrArg Prod.snd h;subst e;obtain⟨b,j,rfl⟩:=List.mem_map.1 (show f∈σ.L.map (fun y=>if y.nm==nm then {y with da:=y.da++t} else y) from l);refine⟨b,j,?_⟩;by_cases d:b.nm=nm
 ·rw[ξ (by simpa using d)];exact .inl ⟨d,rfl⟩
 ·rw[κ (by simpa using d)];exact .inr ⟨d,rfl⟩
theorem z4G{nm:List UInt8}(h:q1g σ nm t=(0,σ'))(j:AllS σ.L)(m:nm=q0F 99 (n:Int)):Sur σ'.L (n+1) ((n:Int)*4096):=fun f l=>by
 obtain⟨o,d,⟨b,rfl⟩|⟨b,rfl⟩⟩:=q8S h l
 ·exact .inr ⟨n,rfl,b.trans m,by simp only;omega⟩
 ·exact .inl (j _ d)
theorem z4H{nm:List UInt8}{j:Nat}{k:Int}(h:q1g σ nm t=(0,σ'))(l:Sur σ.L (j+1) k)(s:nm=q0F 99 (j:Int))(r: ∀f∈σ.L,f.nm=nm->k<=(j:Int)*4096+(f.da.length:Int)):Sur σ'.L (j+1) k:=fun f q=>by
 obtain⟨u,b,⟨d,rfl⟩|⟨d,rfl⟩⟩:=q8S h q
 ·refine .inr ⟨j,rfl,d.trans s,?_⟩
  have v:=r _ b d;rcases l _ b with m|⟨i,m,x,o⟩
  ·simp only;omega
  ·have:i=j:=by omega
   subst this;exact o
 ·exact l _ b
theorem z3w{nm:List UInt8}{k:Int}(h:q5p σ nm=(0,σ'))(o:Sur σ.L n k)(s: ∀j:Nat,n=j+1->nm=q0F 99 (j:Int)):AllS σ'.L:=by
 unfold q5p at h
 split at h
 ·exact(q2n (by decide) h).elim
 split at h
 ·exact(q2n (by decide) h).elim
 split at h
 ·exact(q2n (by decide) h).elim
 have e:=congrArg Prod.snd h;subst e;intro f q;obtain⟨d,l,rfl⟩:=List.mem_map.1 (show f∈σ.L.map (fun y=>if y.nm==nm then {y with sy:=y.da.length} else y) from q);by_cases b:d.nm=nm
 ·rw[ξ (by simpa using b)]
 ·rw[κ (by simpa using b)]
  rcases o d l with m|⟨j,r,e,_⟩
  ·exact m
  ·exact absurd (e.trans (s j r).symm) b
structure Lgd(E:Oth)(σ:DM)(c s:Int)(C:Cks)(k:Int):Prop where
 pl:Pl σ (c+(q2a E:Int)) s (q3Q E C)
 ok:okC C
 oth:okOth E
 sr:Sur σ.L C.length k
 le:k<=q3f C
theorem Lgd.lastLen{E:Oth}{s:Int}{D:Cks}{k:Int}(h:Lgd E σ c s (D++[ps]) k)(m:okD σ)(l:f∈σ.L)(e:f.nm=q0F 99 (D.length:Int)):f.da.length=q0K ps:=by
 have j:=q4g m.ord l e;have b:=h.pl.find (q0F 99 (D.length:Int));rw[q3G h.oth h.ok.few (show(D++[ps])[D.length]? =some ps by simp),j] at b;injection b with b;have d:=congrArg (fun x=>x.2.length) b;simp only[fbF,q0w] at d;exact d.symm
theorem Lgd.all{E:Oth}{s:Int}{C:Cks}(h:Lgd E σ c s C (q3f C))(m:okD σ):AllS σ.L:=by
 rcases List.eq_nil_or_concat C with rfl|⟨D,ps,rfl⟩
 ·exact h.sr.all0
 ·rw [List.concat_eq_append] at*
  intro f b;rcases h.sr f b with l|⟨j,o,e,q⟩
  ·exact l
  ·have d:j=D.length:=by rw[θ,List.length_singleton] at o;omega
   subst d;have l:=h.lastLen m b e;have r:=m.sy f b;rw[q1J] at q;omega
theorem okC.nil :okC []:=⟨υ _,(fun _ h=>by cases h),(fun _ h=>by cases h),(fun _ h=>by cases h)⟩
theorem okC.grow{D:Cks}(h:okC (D++[ps]))(j:p.length<=2000)(l:q0K ps+(p.length+12)<=4096):okC (D++[ps++[p]]):=by
 have m:ps∈D++[ps]:=by simp
 refine⟨by simpa using h.few,fun q hq=>?_,fun q hq=>?_,fun q hq=>h.full q (by simpa using hq)⟩
 all_goals rcases List.mem_append.1 hq with b|b
 ·exact h.size q (List.mem_append_left _ b)
 ·obtain rfl:=List.mem_singleton.1 b;rw[q2J];exact l
 ·exact h.pay q (List.mem_append_left _ b)
 ·obtain rfl:=List.mem_singleton.1 b
  intro x o;rcases List.mem_append.1 o with d|d
  ·exact h.pay ps m x d
  ·obtain rfl:=List.mem_singleton.1 d;exact j
theorem okC.more{C:Cks}(h:okC C)(j:p.length<=2000)(m:C.length<200)(d: ∀ps∈C,ps≠[]):okC (C++[[p]]):=by
 refine⟨by simp;omega,fun q hq=>?_,fun q hq=>?_,fun q hq=>d q (by simpa using hq)⟩
 all_goals rcases List.mem_append.1 hq with b|b
 ·exact h.size q b
 ·obtain rfl:=List.mem_singleton.1 b;rw[q4c];omega
 ·exact h.pay q b
 ·obtain rfl:=List.mem_singleton.1 b
  intro x l;obtain rfl:=List.mem_singleton.1 l;exact j
def q0N(C:Cks):List Int:=C.map fun ps=>(q0K ps:Int)
theorem q2X(D:Cks)(ps:List (List UInt8)):q0N (D++[ps])=q0N D++[(q0K ps:Int)]:=by simp[q0N]
theorem q0h(C:Cks):(q0N C).length=C.length:=by simp[q0N]
theorem q7o(D:Cks)(ps:List (List UInt8)):(q0N (D++[ps])).getD D.length 0=(q0K ps:Int):=by
 rw[q2X];have:D.length=(q0N D).length:=(q0h D).symm;rw[δ,this,List.getElem?_append_right (ι _)];simp
theorem z5B(D:Cks)(ps b:List (List UInt8)):(q0N (D++[ps])).set D.length (q0K b:Int)=q0N (D++[b]):=by
 rw[q2X,q2X];have:D.length=(q0N D).length:=(q0h D).symm;rw[this];simp
theorem z2W(C:Cks)(i:Nat)(h:C[i]? =some ps):(q0N C).getD i 0=(q0K ps:Int):=by
 unfold q0N;rw[δ,List.getElem?_map,h];rfl
def q3v(C:Cks)(p:List UInt8):Bool:=match C.getLast? with|none=>false|some ps=>decide (q0K ps+(p.length+12)<=4096)
def q1E(free:Int)(C:Cks)(p:List UInt8):Int×Int×Cks:=
 if 2000<p.length then(0,3,C)
 else if q3v C p then(if free-((p.length:Int)+12)<6000 then(0,60,C) else(q3f C,0,C.dropLast++[C.getLast?.getD []++[p]]))
 else if 200<=C.length\/free-((p.length:Int)+24)<6000 then(0,60,C) else((C.length:Int)*4096+12,0,C++[[p]])
def q3n(free sure:Int)(C:Cks)(p:List UInt8):Int:=
 if (q1E free C p).2.1=0/\q3v C p=false/\C≠[] then q3f C else sure
def q2W :Nat->List (List UInt8)->List (Nat×List UInt8)
 |_,[]=>[]
 |a,p::r=>(a,p)::q2W (a+p.length+12) r
def q0y :Nat->Cks->List (Nat×List UInt8)
 |_,[]=>[]
 |b,ps::r=>q2W (b+12) ps++q0y (b+4096) r
def q3a(C:Cks)(pos:Int):Option (Nat×List UInt8):=(q0y 0 C).find? fun r=>decide (pos<=(r.1:Int))
def q5i(C:Cks)(pos:Int):List UInt8×Int:=
 if pos<0 then([],4) else match C[(pos/4096).toNat]? with
 |none=>([],4)
 | some ps=>match (if 12<=pos % 4096 then q5L (q0W (pos/4096).toNat ps) (pos % 4096).toNat else none) with
  |none=>([],4)
  |some (p,_)=>(p,0)
def z0i(s:List UInt8)(a:Nat):Value:=match q5L s a with
 |none=> .tuple #[.string ⟨#[]⟩,.int .i64 0,.bool false]
 |some (p,b)=> .tuple #[.string ⟨p.toArray⟩,.int .i64 b,.bool true]
theorem q7R{s:List UInt8}(h:isR s a=false):z0i s a= .tuple #[.string ⟨#[]⟩,.int .i64 0,.bool false]:=by unfold z0i q5L;rw[h];rfl
theorem q5U(s:List UInt8)(a k:Nat):(s.take (a+k)).drop a=(s.drop a).take k:=by rw[List.drop_take];congr 1;omega
theorem q9Y(s:List UInt8)(a:Nat)(w:World)(hl:s.length<=4611686018427387903)(ha:a<=4611686018427387903):
  Calls Tryz.prog 164 #[.string ⟨s.toArray⟩,.int .i64 (a:Int)] w fun e w'=>e= .returned (z0i s a)/\Ext w w':=by
 by_cases h1:s.length<a+12
 ·have u:Hd (z0i s a= .tuple #[.string ⟨#[]⟩,.int .i64 0,.bool false]):=η (q7R (by unfold isR;rw[ε (by omega)];rfl))
  have hd:decide (((s.length:Int)-12)<(a:Int))=true:=by simp;omega
  go_enter Tryz.func164,Tryz.ntmps164;go_wp2_with fail;go_ret3;rw[u.o];exact⟨rfl,Ext.refl _⟩
 have b0:decide (((s.length:Int)-12)<(a:Int))=false:=by simp;omega
 obtain⟨X,E⟩: ∃X,(s.drop a).take 4=X:=⟨_,rfl⟩
 have I:X.length=4:=by rw[<-E];simp;omega
 have f0:=q2i s (a:Int) ((a:Int)+4) a (a+4) rfl (by omega) (by omega) (by omega) (by rw[q5U,E]);obtain⟨n,F⟩: ∃n,q4J s a=n:=⟨_,rfl⟩
 have x:q1N (X.take 8)=n:=by rw[Δ (by omega),<-E,<-F];rfl
 have c0:n<4294967296:=by rw[<-x];have:=q2G (X.take 8);rw[Θ,I] at this;exact this
 have C:=η (fun W=>q9W X W (by omega));rw[x] at C;by_cases U:2000<n\/s.length<a+n+12
 ·have u:Hd (z0i s a= .tuple #[.string ⟨#[]⟩,.int .i64 0,.bool false]):=η (q7R (by
   unfold isR;rw[F];rcases U with h|h
   ·rw[ε (p:=n<=2000) (by omega)];simp
   ·rw[ε (p:=a+n+12<=s.length) (by omega)];simp))
  clear E F x I;by_cases h3:2000<n
  ·have M:decide ((2000:Int)<(n:Int))=true:=by simp;omega
   go_enter Tryz.func164,Tryz.ntmps164;go_wp2_with fail;refine(C.o _).mono ?_;rintro e w1 ⟨rfl,l⟩;have v:=η l;clear l;go_wp2_with fail;go_ret3;rw[u.o];exact⟨rfl,v.o⟩
  ·have h4:s.length<a+n+12:=by omega
   have M:decide ((2000:Int)<(n:Int))=false:=by simp;omega
   have S:decide ((s.length:Int)-12-(a:Int)<(n:Int))=true:=by simp;omega
   go_enter Tryz.func164,Tryz.ntmps164;go_wp2_with fail;refine(C.o _).mono ?_;rintro e w1 ⟨rfl,l⟩;have v:=η l;clear l;go_wp2_with fail;go_ret3;rw[u.o];exact⟨rfl,v.o⟩
 have h5:n<=2000:=by omega
 have h6:a+n+12<=s.length:=by omega
 have M:decide ((2000:Int)<(n:Int))=false:=by simp;omega
 have S:decide ((s.length:Int)-12-(a:Int)<(n:Int))=false:=by simp;omega
 obtain⟨Y,J⟩: ∃Y,(s.drop a).take (n+8)=Y:=⟨_,rfl⟩
 have B:Y.length=n+8:=by rw[<-J];simp;omega
 have g0:=q2i s (a:Int) ((a:Int)+(n:Int)+12-4) a (a+(n+8)) rfl (by omega) (by omega) (by omega) (by rw[q5U,J]);obtain⟨Z,R⟩: ∃Z,(s.drop (a+n+8)).take 4=Z:=⟨_,rfl⟩
 have h0:=q2i s ((a:Int)+(n:Int)+12-4) ((a:Int)+(n:Int)+12) (a+n+8) (a+n+8+4) (by omega) (by omega) (by omega) (by omega) (by rw[q5U,R]);have D:=η (fun W=>z3Y Y W (by omega));have hi:isR s a=(q2F Y&&decide (Z=X)):=by
  unfold isR;rw[F,ζ (p:=a+12<=s.length) (by omega),ζ h5,ζ h6,J,R,E];simp
 have y:q2F Y=true->(q1s Y).drop 4=(s.drop (a+4)).take n:=fun h=>by
  unfold q1s;rw[ξ h,B,<-J,List.take_take,List.drop_take,List.drop_drop]
  congr 1;omega
 have G:q2F Y=true->(q1s Y).length=n+4:=fun h=>by
  unfold q1s;rw[ξ h,Θ,B];omega
 have V:q5L s a=if isR s a then some ((s.drop (a+4)).take n,a+n+12) else none:=by unfold q5L;rw[F]
 have N:=η hi;have HP:=η y;have O:=η G;have HS:=η V;clear E F x R J B hi y G V U h1;generalize q1s Y=T at*
 cases l:q2F Y with
 | false=>
  have u:Hd (z0i s a= .tuple #[.string ⟨#[]⟩,.int .i64 0,.bool false]):=η (q7R (by rw[N.o,l];rfl));rw[l] at D;go_enter Tryz.func164,Tryz.ntmps164;go_wp2_with fail;refine(C.o _).mono ?_;rintro e w1 ⟨rfl,b⟩;have v:=η b;clear b;go_wp2_with fail;refine(D.o _).mono ?_;rintro e w2 ⟨rfl,d⟩;have m:=η (v.o.trans d);clear d;go_wp2_with fail;refine q0D (by kernel_rfl) (by kernel_rfl) ?_
  repeat (go_big_quiet_step (fail))
  refine wpQuiet_nil ?_;intro w3 j;have q:=η (m.o.trans j);clear j;go_wp2_with fail;go_ret3;rw[u.o];exact⟨rfl,q.o⟩
 | true =>
  by_cases r:Z=X
  ·have u:Hd (z0i s a= .tuple #[.string ⟨(T.drop 4).toArray⟩,.int .i64 ((a:Int)+(n:Int)+12),.bool true]):=η (by
    unfold z0i;rw[HS.o,N.o,l,r,HP.o l]
    simp)
   have Q:=O.o l;have e0: ∀w,(Instr.slice 9 (.string ⟨T.toArray⟩) (some (.int .i64 4)) none none).run Tryz.prog w= .ok (.string ⟨(T.drop 4).toArray⟩) w:=fun w=>by
    exact q3E T 4 4 rfl (by omega) w
   rw[l] at D;generalize T.drop 4=T4 at*;subst r;go_enter Tryz.func164,Tryz.ntmps164;go_wp2_with fail;refine(C.o _).mono ?_;rintro e w1 ⟨rfl,b⟩;have v:=η b;clear b;go_wp2_with fail;refine(D.o _).mono ?_;rintro e w2 ⟨rfl,d⟩;have m:=η (v.o.trans d);clear d;go_wp2_with fail;refine q0D (by kernel_rfl) (by kernel_rfl) ?_
   repeat (go_big_quiet_step (fail))
   refine wpQuiet_nil ?_;intro w3 j;have q:=η (m.o.trans j);clear j;go_wp2_with fail;go_ret3;rw[u.o];exact⟨rfl,q.o⟩
  ·have u:Hd (z0i s a= .tuple #[.string ⟨#[]⟩,.int .i64 0,.bool false]):=η (q7R (by rw[N.o,ε r,Bool.and_false]))
   have d0:(Z==X)=false:=by simpa using r
   have a0:(Z !=X)=true:=by simpa using r
   rw[l] at D;go_enter Tryz.func164,Tryz.ntmps164;go_wp2_with fail;refine(C.o _).mono ?_;rintro e w1 ⟨rfl,b⟩;have v:=η b;clear b;go_wp2_with fail;refine(D.o _).mono ?_;rintro e w2 ⟨rfl,d⟩;have m:=η (v.o.trans d);clear d;go_wp2_with fail;refine q0D (by kernel_rfl) (by kernel_rfl) ?_
   repeat (go_big_quiet_step (fail))
   refine wpQuiet_nil ?_;intro w3 j;have q:=η (m.o.trans j);clear j;go_wp2_with fail;go_ret3;rw[u.o];exact⟨rfl,q.o⟩
theorem z2t(n:Nat)(w:World)(x:n<200):
  Calls Tryz.prog 213 #[.int .i64 (n:Int)] w fun e w'=>e= .returned (.string ⟨(q2d n).toArray⟩)/\Ext w w':=by
 have v:decide ((200:Int)<=(n:Int))=false:=by simp;omega
 have r:Hd (q2d n=q1T ([99,104,110,107]++be 4 n)):=η rfl;have m:=η (fun W=>q7g (n:Int) 4 W (by omega) (by omega) (by omega) (by omega));have s:=η (fun W=>z3q ([99,104,110,107]++be 4 n) W (by simp[q0G]));have u:(be 4 n).length=4:=q0G 4 _;rw[Int.toNat_natCast] at m;generalize q1T ([99,104,110,107]++be 4 n)=Y at*;generalize be 4 n=X at*;go_enter Tryz.func213,Tryz.ntmps213;go_wp2_with fail;refine(m.o _).mono ?_;rintro e w1 ⟨rfl,d⟩;have q:=η d;clear d;go_wp2_with fail;have j:=q2L [99,104,110,107] X;have b:({data:=#[99,104,110,107]}:ByteArray)++{data:=X.toArray}=⟨([99,104,110,107]++X).toArray⟩:=j;rw[b];refine(s.o _).mono ?_;rintro e y ⟨rfl,d⟩;have l:=η (q.o.trans d);clear d;go_wp2_with fail;go_ret;exact⟨by rw[r.o];rfl,l.o⟩
theorem y1Z(N:Int)(p:List UInt8)(w:World)(b:0<=N)(d:N<=4096)(o:p.length<=2000):
  Calls Tryz.prog 148 #[.int .i64 N,.string ⟨p.toArray⟩] w fun e w'=>e= .returned (.bool (decide ((p.length:Int)+12<=4096-N)))/\w=w':=by
 have j:decide ((0:Int)<=N)=true:=by simpa using b
 have l:decide (N<=(4096:Int))=true:=by simpa using d
 have m:decide ((p.length:Int)<=(2000:Int))=true:=by simp;omega
 go_enter Tryz.func148,Tryz.ntmps148;go_wp2_with fail;go_ret;exact⟨rfl,rfl⟩
def z7e(s p:List UInt8):Bool:=decide (p.length<=s.length)&&(s.take p.length==p)
theorem z0o(s p:List UInt8)(w:World)(j:s.length<=9223372036854775807)(l:p.length<=9223372036854775807):
  Calls Tryz.prog 244 #[.string ⟨s.toArray⟩,.string ⟨p.toArray⟩] w fun e w'=>e= .returned (.bool (z7e s p))/\w=w':=by
 by_cases h:p.length<=s.length
 ·have b:Hd (z7e s p=(s.take p.length==p)):=η (by unfold z7e;rw[ζ h,Bool.true_and])
  have d:decide ((p.length:Int)<=(s.length:Int))=true:=by simp;omega
  go_enter Tryz.func244,Tryz.ntmps244;go_wp2_with fail;go_ret;rw[b.o];exact⟨rfl,rfl⟩
 ·have b:Hd (z7e s p=false):=η (by unfold z7e;rw[ε h,Bool.false_and])
  have d:decide ((p.length:Int)<=(s.length:Int))=false:=by simp;omega
  go_enter Tryz.func244,Tryz.ntmps244;go_wp2_with fail;go_ret;rw[b.o];exact⟨rfl,rfl⟩
theorem z1t(s p:List UInt8)(w:World)(b:s.length<=9223372036854775807)(d:p.length<=9223372036854775807):
  Calls Tryz.prog 221 #[.string ⟨s.toArray⟩,.string ⟨p.toArray⟩] w fun e w'=>e= .returned (.bool (z7e s p))/\w=w':=by
 go_enter Tryz.func221,Tryz.ntmps221;go_wp2_with fail;refine(z0o s p _ b d).mono ?_;rintro e w1 ⟨rfl,rfl⟩;go_wp2_with fail;go_ret;exact⟨rfl,rfl⟩
theorem q6n : ∀(ps:List (List UInt8)) (a:Nat),∀r∈q2W a ps,a<=r.1/\r.1+r.2.length+12<=a+(ps.map fun p=>p.length+12).sum
 |[],_,r,h=>by cases h
 | p ::t,a,r,h=>by
  rw[q2W] at h;rcases List.mem_cons.1 h with rfl|h
  ·simp only[List.map_cons,List.sum_cons];omega
  ·have:=q6n t _ r h
   simp only[List.map_cons,List.sum_cons];omega
theorem q5j : ∀(C:Cks) (b:Nat),(∀ps∈C,q0K ps<=4096)-> ∀r∈q0y b C,b+12<=r.1/\r.1<b+4096*C.length
 |[],_,_,r,h=>by cases h
 | ps ::t,b,hs,r,h=>by
  rw[q0y] at h;have d:=hs ps (List.mem_cons_self);unfold q0K at d;rcases List.mem_append.1 h with h|h
  ·have:=q6n ps _ r h
   simp only[χ];omega
  ·have:=q5j t _ (fun q hq=>hs q (List.mem_cons_of_mem _ hq)) r h
   simp only[χ];omega
theorem q5H : ∀(C:Cks) (b n:Nat),q0y b C=q0y b (C.take n)++q0y (b+4096*n) (C.drop n)
 |C,b,0=>by simp[q0y]
 |[],b,n+1=>by simp[q0y]
 | ps::t,b,n+1=>by
  rw[List.take_succ_cons,List.drop_succ_cons,q0y,q0y,q5H t (b+4096) n,List.append_assoc]
  congr 3;omega
theorem z1E(C D:Cks)(b:Nat):q0y b (C++D)=q0y b C++q0y (b+4096*C.length) D:=by
 have:=q5H (C++D) b C.length
 rwa [List.take_left,List.drop_left] at this
theorem z6D{pos:Int}{l m:List (Nat×List UInt8)}(h: ∀r∈l,(r.1:Int)<pos):(l++m).find? (fun r=>decide (pos<=(r.1:Int)))=m.find? fun r=>decide (pos<=(r.1:Int)):=by
 rw[List.find?_append];have:l.find? (fun r=>decide (pos<=(r.1:Int)))=none:=List.find?_eq_none.2 fun r b=>by have:=h r b;simp;omega
 rw[this];rfl
theorem z2E(C:Cks)(pos:Int)(d: ∀ps∈C,q0K ps<=4096)(n:Nat)(l:(n:Int)*4096<=pos):q3a C pos=(q0y (4096*n) (C.drop n)).find? fun r=>decide (pos<=(r.1:Int)):=by
 unfold q3a;rw[q5H C 0 n,Nat.zero_add];refine z6D fun r b=>?_
 have:=q5j (C.take n) 0 (fun ps h=>d ps (List.mem_of_mem_take h)) r b;have j:(C.take n).length<=n:=List.length_take_le _ _;omega
theorem q4b : ∀(ps:List (List UInt8)) (a:Nat),(q2W a ps).length=ps.length
 |[],_=>rfl
 |p::t,a=>by simp[q2W,q4b t]
theorem z3f : ∀(ps:List (List UInt8)) (a k:Nat) (p:List UInt8),ps[k]? =some p->(q2W a ps)[k]? =some (a+((ps.take k).map fun p=>p.length+12).sum,p)
 |[],_,k,p,h=>by simp at h
 | q::t,a,0,p,h=>by
  simp only[List.getElem?_cons_zero,Option.some.injEq] at h;subst h;simp[q2W]
 | q::t,a,k+1,p,h=>by
  rw[List.getElem?_cons_succ] at h;rw[q2W,List.getElem?_cons_succ,z3f t _ k p h,List.take_succ_cons,List.map_cons,List.sum_cons]
  congr 2;omega
theorem q8s : ∀(ps:List (List UInt8)) (a k:Nat) (p:List UInt8),ps[k]? =some p->(q1i a ps)[k]? =some (a+((ps.take k).map fun p=>p.length+12).sum,a+((ps.take k).map fun p=>p.length+12).sum+p.length+12)
 |[],_,k,p,h=>by simp at h
 | q::t,a,0,p,h=>by
  simp only[List.getElem?_cons_zero,Option.some.injEq] at h;subst h;simp[q1i]
 | q::t,a,k+1,p,h=>by
  rw[List.getElem?_cons_succ] at h;rw[q1i,List.getElem?_cons_succ,q8s t _ k p h,List.take_succ_cons,List.map_cons,List.sum_cons]
  congr 2<;>omega
theorem z9V(n:Nat)(ps:List (List UInt8))(k:Nat)(p:List UInt8)(h:ps[k]? =some p)(b:p.length<=2000):q5L (q0W n ps) (q0K (ps.take k))=some (p,q0K (ps.take k)+p.length+12):=by
 obtain⟨d,rfl⟩:=List.getElem?_eq_some_iff.1 h;have e:ps=ps.take k++ps[k]::ps.drop (k+1):=by rw[List.getElem_cons_drop];exact(List.take_append_drop _ _).symm
 have:=z6I n (ps.take k) ps[k] (ps.drop (k+1)) b
 rwa [<-e] at this
theorem z0l(a b:En)(w:World):Calls Tryz.prog 216 #[enV a,enV b] w fun e w'=>e= .returned (.bool (q0k a b))/\Ext w w':=by
 obtain⟨d,j,l⟩:=a;obtain⟨b1,b2,b3⟩:=b;have m:=η (q5Z w (.cells #[.int .u64 d,.int .i64 j,.int .i64 l] 165) (.cells #[.int .u64 b1,.int .i64 b2,.int .i64 b3] 165));have q:Hd (q0k (d,j,l) (b1,b2,b3)=if d≠b1 then decide (d<b1) else if j≠b2 then decide (j<b2) else decide (l<b3)):=η rfl;show Calls Tryz.prog 216 #[.agg #[.int .u64 d,.int .i64 j,.int .i64 l],.agg #[.int .u64 b1,.int .i64 b2,.int .i64 b3]] w _;by_cases r:d=b1
 ·subst r
  by_cases s:j=b2
  ·subst s
   go_enter Tryz.func216,Tryz.ntmps216;go_wp2_with fail;go_ret;exact⟨rb (by rw[q.o];simp),m.o⟩
  ·have u:(j !=b2)=true:=by simpa using s
   go_enter Tryz.func216,Tryz.ntmps216;go_wp2_with fail;go_ret;exact⟨rb (by rw[q.o];simp[s]),m.o⟩
 ·have u:(d !=b1)=true:=by simpa using r
  go_enter Tryz.func216,Tryz.ntmps216;go_wp2_with fail;go_ret;exact⟨rb (by rw[q.o];simp[r]),m.o⟩
theorem q8x{L:List En}(q:k+1<L.length):q4M (L.take (k+2))=(q4M (L.take (k+1))&&q0k (L.getD k en0) (L.getD (k+1) en0)):=by
 rw[Bool.eq_iff_iff,Ξ,q3N,q3N];have m:L.take (k+2)=L.take (k+1)++[L.getD (k+1) en0]:=q0V L en0 (k+1) q;have j:L.take (k+1)=L.take k++[L.getD k en0]:=q0V L en0 k (by omega);rw[m];unfold q1A;rw[List.pairwise_append]
 constructor
 ·rintro⟨d,_,o⟩
  exact⟨d,o _ (by rw[j];simp) _ (by simp)⟩
 ·rintro⟨d,l⟩
  refine⟨d,by simp,fun x b y r=>?_⟩;obtain rfl:=List.mem_singleton.1 r;rw[j] at b d;rcases List.mem_append.1 b with b|b
  ·exact q1R ((List.pairwise_append.1 d).2.2 x b _ (by simp)) l
  ·obtain rfl:=List.mem_singleton.1 b;exact l
theorem z2Y{L:List En}(d:k+1<L.length)(h:q0k (L.getD k en0) (L.getD (k+1) en0)=false):q4M L=false:=by
 cases hs:q4M L with
 |false=>rfl
 | true=>
  rw[q3N] at hs;have b:q1A (L.take (k+2)):=hs.sublist (List.take_sublist _ _);rw[<-q3N,q8x d,h,Bool.and_false] at b
  cases b
theorem z9H{ao:Option Addr}{cap:Nat}{L:List En}(w:World)(m:Ens w ao n cap L):Calls Tryz.prog 291 #[.slice ao n cap] w fun e w'=>e= .returned (.bool (q4M L))/\Ext w w':=by
 have G:=η m;have b1:=m.fits;have b2:=m.bound;have j:=η m.len;clear m;go_enter Tryz.func291,Tryz.ntmps291;go_wp2_with fail
 go_loopw [3] (fun i W=> ∃k:Nat,k+1<=max n 1/\i= .int .i64 ((k:Int)+1)/\q4M (L.take (k+1))=true/\Ext w W) (fun i _=>n-(intOf i).toNat)
 case atStart=>
  refine⟨0,by omega,rfl,?_,Ext.refl _⟩
  cases L with
  |nil=>rfl
  |cons a r=>rfl
 case round=>
  obtain⟨k,Y,rfl,C,B⟩:=hrel;have R:=η C;have D:=η B;by_cases u:k+1<n
  ·have U:decide (((k:Int)+1)<(n:Int))=true:=by simp;omega
   obtain⟨b,off,rfl,I,J,M⟩:=(G.o.ext B).at (i:=k) (by omega);obtain⟨_,_,S,N,O,Q⟩:=(G.o.ext B).at (i:=k+1) u
   cases S;have E:=η (q8x (L:=L) (k:=k) (by rw[j.o];exact u));have v:=η (z2Y (L:=L) (k:=k) (by rw[j.o];exact u));obtain⟨x,m⟩: ∃x,L.getD k en0=x:=⟨_,rfl⟩
   obtain⟨y,F⟩: ∃y,L.getD (k+1) en0=y:=⟨_,rfl⟩
   rw[m] at I J M;rw[F] at N O Q;rw[m,F] at E v;obtain⟨q,hq⟩: ∃q,q0k x y=q:=⟨_,rfl⟩
   have l:=η (fun W=>z0l x y W);rw[hq] at l E v;obtain⟨x1,x2,x3⟩:=x;obtain⟨y1,y2,y3⟩:=y;unfold enV ec at l;have Z:=q0C I;have u1:=q0C J;have u2:=q0C M;have v0:=q0C N;have v1:=q0C O;have v2:=q0C Q;have V:IntKind.i64.wrap ((k:Int)+1-1)=(k:Int):=by rw[ν];omega
   have d:IntKind.i64.wrap (k:Int)=(k:Int):=by rw[ν];omega
   clear m F C B hq
   cases q with
   | true=>
    go_wp2_with fail;refine q0D (by kernel_rfl) (by kernel_rfl) ?_
    repeat (go_big_quiet_step (first|(go_at_call 216;exact Calls.quiet_ext (l.o _))))
    refine wpQuiet_nil ?_;intro X d;have s:=η (D.o.trans d);clear d;go_wp2_with fail
    go_roundw
    case rel=>exact⟨k+1,by omega,by go_num,by rw[E.o,R.o];rfl,s.o⟩
    case measure=>simp[intOf];omega
   | false=>
    go_wp2_with fail;refine q0D (by kernel_rfl) (by kernel_rfl) ?_
    repeat (go_big_quiet_step (first|(go_at_call 216;exact Calls.quiet_ext (l.o _))))
    refine wpQuiet_nil ?_;intro X d;have s:=η (D.o.trans d);clear d;go_wp2_with fail;go_ret;exact⟨rb (v.o (by first|rfl|trivial)),s.o⟩
  ·have U:decide (((k:Int)+1)<(n:Int))=false:=by simp;omega
   have v:Hd (q4M L=true):=η (by rwa [Δ (by rw[j.o];omega)] at C);clear C B;go_wp2_with fail;go_ret;exact⟨rb v.o,D.o⟩
end
end Go.Proofs.YtfiibpgoplcgkaaGreatDoor
