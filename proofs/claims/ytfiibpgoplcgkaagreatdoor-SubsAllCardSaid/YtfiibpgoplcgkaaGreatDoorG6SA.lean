/- Plain laws. -/
import Derived.Test.YtfiibpgoplcgkaaGreatDoorG4SA
import Derived.Test.YtfiibpgoplcgkaaGreatDoorG5SA
import Derived.Laws.BitsLemmas
set_option linter.unusedVariables false
set_option linter.unusedSimpArgs false
set_option maxRecDepth 100000
set_option maxHeartbeats 6400000
namespace Go.Proofs.YtfiibpgoplcgkaaGreatDoor
variable {a i k n:Nat}{p t r:List UInt8}{α:Type}{ps:List (List UInt8)}{L:List FM}{σ σ':DM}{f:FM}{c:Int}
section
open Go.RowKit
theorem q3d(a b:List UInt8):(⟨a.toArray⟩:ByteArray)++⟨b.toArray⟩=⟨(a++b).toArray⟩:=by rw[ByteArray.mk_append_mk];first|done|simp
def q2F(p:List UInt8):List UInt8:=q1T (be 4 p.length++p)++be 4 p.length
def q3t(s:List UInt8)(a:Nat):Nat:=q1O ((s.drop a).take 4)
def isR(s:List UInt8)(a:Nat):Bool:=
 decide (a+12<=s.length)&&decide (q3t s a<=2000)&&decide (a+q3t s a+12<=s.length)
 &&q2L ((s.drop a).take (q3t s a+8))&&decide ((s.drop (a+q3t s a+8)).take 4=(s.drop a).take 4)
def q5P(s:List UInt8)(a:Nat):Option (List UInt8×Nat):=
 if isR s a then some ((s.drop (a+4)).take (q3t s a),a+q3t s a+12) else none
def q4S :Nat->List UInt8->Nat->List (Nat×Nat)
 |0,_,_=>[]
 | f+1,s,a=>match q5P s a with
  |none=>[]
  |some (_,b)=>(a,b)::q4S f s b
def q0m(s:List UInt8)(a:Nat):List (Nat×Nat):=q4S (s.length+1) s a
def q9e(a:Nat)(l:List (Nat×Nat)):Nat:=(l.getLast?.map Prod.snd).getD a
def q1Y(n:Nat):List UInt8:=q1T ([99,104,110,107]++be 4 n)
def q1y(ps:List (List UInt8)):List UInt8:=(ps.map q2F).flatten
def q0L(n:Nat)(ps:List (List UInt8)):List UInt8:=q1Y n++q1y ps
def q0I(ps:List (List UInt8)):Nat:=12+(ps.map fun p=>p.length+12).sum
def q1W :Nat->List (List UInt8)->List (Nat×Nat)
 |_,[]=>[]
 |a,p::r=>(a,a+p.length+12)::q1W (a+p.length+12) r
theorem q0g(p:List UInt8):(q2F p).length=p.length+12:=by
 simp only[q2F,θ,q1K,q0H];omega
theorem q1b(n:Nat):(q1Y n).length=12:=by simp[q1Y,q1K,q0H]
theorem z0g(ps:List (List UInt8)):(q1y ps).length=(ps.map fun p=>p.length+12).sum:=by
 unfold q1y
 induction ps with
 |nil=>rfl
 |cons p r ih=>simp[q0g,ih]
theorem q0V(n:Nat)(ps:List (List UInt8)):(q0L n ps).length=q0I ps:=by
 simp[q0L,q0I,q1b,z0g]
theorem z4Y(ps:List (List UInt8))(p:List UInt8):q1y (ps++[p])=q1y ps++q2F p:=by simp[q1y]
theorem z1z(n:Nat)(ps:List (List UInt8))(p:List UInt8):q0L n (ps++[p])=q0L n ps++q2F p:=by simp[q0L,z4Y]
theorem z4d(n:Nat)(p:List UInt8):q0L n [p]=q1Y n++q2F p:=by simp[q0L,q1y]
theorem q2P(ps:List (List UInt8))(p:List UInt8):q0I (ps++[p])=q0I ps+(p.length+12):=by simp[q0I,List.sum_append];omega
theorem q4n(p:List UInt8):q0I [p]=12+(p.length+12):=by simp[q0I]
theorem z1B{s:List UInt8}{b:Nat}(h:q5P s a=some (p,b)):
  p.length<=2000/\b=a+p.length+12/\b<=s.length/\p=(s.drop (a+4)).take p.length/\q3t s a=p.length:=by
 unfold q5P at h
 split at h
 case isFalse=>cases h
 case isTrue hi=>
  unfold isR at hi;simp only[Ξ,Φ] at hi;obtain⟨⟨⟨⟨m,d⟩,j⟩,o⟩,q⟩:=hi;simp only[Option.some.injEq,Prod.mk.injEq] at h;obtain⟨rfl,rfl⟩:=h;have l:((s.drop (a+4)).take (q3t s a)).length=q3t s a:=by simp;omega
  rw[l];exact⟨d,rfl,j,rfl,rfl⟩
theorem y0c(pre m b:List α)(h:a=pre.length):(pre++m++b).drop a=m++b:=by
 subst h;rw[List.append_assoc,List.drop_left]
theorem q9k(pre p b:List UInt8)(x:p.length<=2000)(o:a=pre.length):q5P (pre++q2F p++b) a=some (p,a+p.length+12):=by
 have l:(pre++q2F p++b).drop a=be 4 p.length++(p++(q8S (q1o (be 4 p.length++p))++(be 4 p.length++b))):=by
  rw[y0c _ _ _ o];simp[q2F,q1T]
 have j:(be 4 p.length).length=4:=q0H 4 _;have m:=q5U (q1o (be 4 p.length++p));have d:q3t (pre++q2F p++b) a=p.length:=by
  unfold q3t;rw[l,List.take_left' j,q4q];omega
 have q:(pre++q2F p++b).length=a+(p.length+12)+b.length:=by simp[q0g,o];omega
 have v:isR (pre++q2F p++b) a=true:=by
  unfold isR;rw[d];simp only[Ξ,Φ];refine⟨⟨⟨⟨by omega,x⟩,by omega⟩,?_⟩,?_⟩
  ·have e:((pre++q2F p++b).drop a).take (p.length+8)=q1T (be 4 p.length++p):=by
    rw[l];have:be 4 p.length++(p++(q8S (q1o (be 4 p.length++p))++(be 4 p.length++b)))=q1T (be 4 p.length++p)++(be 4 p.length++b):=by simp[q1T]
    rw[this];exact List.take_left' (by simp[q1K,j];omega)
   rw[e];unfold q2L;simp only[Ξ,Φ,q1K];refine⟨by omega,?_⟩;have s:(q1T (be 4 p.length++p)).take ((be 4 p.length++p).length+4-4)=be 4 p.length++p:=by
    unfold q1T;exact List.take_left' (by omega)
   rw[s]
  ·have e:(pre++q2F p++b).drop (a+p.length+8)=be 4 p.length++b:=by
    have:a+p.length+8=a+(p.length+8):=by omega
    rw[this,<-List.drop_drop,l];have:be 4 p.length++(p++(q8S (q1o (be 4 p.length++p))++(be 4 p.length++b)))=(be 4 p.length++(p++q8S (q1o (be 4 p.length++p))))++(be 4 p.length++b):=by simp
    rw[this];exact List.drop_left' (by simp[j,m];omega)
   rw[e,l,List.take_left' j,List.take_left' j]
 unfold q5P;rw[ξ v,d]
 congr 2
 rw[<-List.drop_drop,l];have u:(be 4 p.length++(p++(q8S (q1o (be 4 p.length++p))++(be 4 p.length++b)))).drop 4=p++(q8S (q1o (be 4 p.length++p))++(be 4 p.length++b)):=List.drop_left' j;rw[u];exact List.take_left' rfl
theorem q9q(s:List UInt8)(a:Nat)(h:s.length<a+12):q5P s a=none:=by
 unfold q5P isR;rw[ε (by omega)];simp
theorem q8h : ∀(ps:List (List UInt8)) (pre:List UInt8) (f a:Nat),(∀p∈ps,p.length<=2000)->a=pre.length->ps.length<f->q4S f (pre++q1y ps) a=q1W a ps
 |[],pre,0,a,_,_,hf=>by simp at hf
 | [],pre,f+1,a,_,ha,_=>by
  unfold q4S;rw[q9q _ _ (by simp[q1y,ha])]
  rfl
 |p::r,pre,0,a,_,_,hf=>by simp at hf
 | p::r,pre,f+1,a,hp,ha,hf=>by
  have e:pre++q1y (p::r)=pre++q2F p++q1y r:=by simp[q1y]
  rw[e];unfold q4S;rw[q9k pre p (q1y r) (hp p (List.mem_cons_self)) ha];show _::q4S f (pre++q2F p++q1y r) (a+p.length+12)=_;rw[q8h r (pre++q2F p) f _ (fun q hq=>hp q (List.mem_cons_of_mem _ hq)) (by simp[q0g,ha];omega) (by simp at hf;omega)]
  rfl
theorem z7l(ps:List (List UInt8)):12*ps.length<=(ps.map fun p=>p.length+12).sum:=by
 induction ps with
 |nil=>simp
 |cons p r ih=>simp only[List.map_cons,List.sum_cons,χ];omega
theorem q5c(n:Nat)(ps:List (List UInt8))(b: ∀p∈ps,p.length<=2000):q0m (q0L n ps) 12=q1W 12 ps:=by
 unfold q0m;refine q8h ps (q1Y n) _ 12 b (q1b n).symm ?_;have:=z7l ps;show _<(q0L n ps).length+1;rw[q0V];unfold q0I;omega
theorem q6m : ∀(ps:List (List UInt8)) (p:List UInt8) (a:Nat),q1W a (ps++[p])=q1W a ps++[(a+(ps.map fun p=>p.length+12).sum,a+(ps.map fun p=>p.length+12).sum+p.length+12)]
 |[],p,a=>by simp[q1W]
 | q::r,p,a=>by
  rw[List.cons_append,q1W,q6m r p,q1W,List.cons_append];simp only[List.map_cons,List.sum_cons]
  congr 4<;>omega
theorem q5W : ∀(ps:List (List UInt8)) (a:Nat),q9e a (q1W a ps)=a+(ps.map fun p=>p.length+12).sum:=fun ps a=>by
 rcases List.eq_nil_or_concat ps with rfl|⟨r,p,rfl⟩
 ·rfl
 ·rw[List.concat_eq_append,q6m]
  unfold q9e;simp only[List.getLast?_append,List.getLast?_singleton,Option.some_or,Option.map_some,Option.getD_some,List.map_append,List.map_cons,List.map_nil,List.sum_append,List.sum_cons,List.sum_nil];omega
theorem q2m : ∀(ps:List (List UInt8)) (a:Nat),(q1W a ps).length=ps.length
 |[],_=>rfl
 |p::r,a=>by simp[q1W,q2m r]
theorem z6j(n:Nat)(l:List (List UInt8))(p:List UInt8)(r:List (List UInt8))(b:p.length<=2000):q5P (q0L n (l++p::r)) (q0I l)=some (p,q0I l+p.length+12):=by
 have e:q0L n (l++p::r)=q0L n l++q2F p++q1y r:=by simp[q0L,q1y]
 rw[e];exact q9k _ _ _ b (q0V n l).symm
theorem q3V(s:List UInt8)(m j:Int)(a b:Nat)(l:m=(a:Int))(d:j=(b:Int))(h:a<=b)(u:b<=s.length){X:List UInt8}(q:(s.take b).drop a=X):
  ∀w,(Instr.slice 9 (.string ⟨s.toArray⟩) (some (.int .i64 m)) (some (.int .i64 j)) none).run Tryz.prog w= .ok (.string ⟨X.toArray⟩) w:=fun w=>by
 have o:=run_slice_string (P:=Tryz.prog) w 9 ⟨s.toArray⟩ .i64 .i64 m j Tryz.underlying9 (by omega) (by omega) (by simp[ByteArray.size];omega);rw[o,l,d,<-q];show _=Result.ok (Value.string ⟨((s.take b).drop a).toArray⟩) w;rw[<-q3L];rfl
theorem q4P(s:List UInt8)(j:Int)(b:Nat)(d:j=(b:Int))(o:b<=s.length):
  ∀w,(Instr.slice 9 (.string ⟨s.toArray⟩) none (some (.int .i64 j)) none).run Tryz.prog w= .ok (.string ⟨(s.take b).toArray⟩) w:=fun w=>by
 have l:=run_slice_string_to_if (P:=Tryz.prog) w 9 ⟨s.toArray⟩ .i64 j Tryz.underlying9;have m:(ByteArray.size ⟨s.toArray⟩)=s.length:=by simp[ByteArray.size]
 rw[l,m,ξ (by omega),d];show Result.ok (Value.string ((⟨s.toArray⟩:ByteArray).extract 0 b)) w=_;rw[q3L];rfl
theorem q3M(s:List UInt8)(d:Int)(a:Nat)(b:d=(a:Int))(m:a<=s.length):
  ∀w,(Instr.slice 9 (.string ⟨s.toArray⟩) (some (.int .i64 d)) none none).run Tryz.prog w= .ok (.string ⟨(s.drop a).toArray⟩) w:=fun w=>by
 have j:=run_slice_string_from_if (P:=Tryz.prog) w 9 ⟨s.toArray⟩ .i64 d Tryz.underlying9;have l:(ByteArray.size ⟨s.toArray⟩)=s.length:=by simp[ByteArray.size]
 rw[j,l,ξ (by omega),b];show Result.ok (Value.string ((⟨s.toArray⟩:ByteArray).extract a s.length)) w=_;rw[q3L,List.take_length]
theorem z7Z(k:Nat)(N:Int)(w:World)(q:N=(k:Int))(u:k<=9223372036854775807):
  Calls Tryz.prog 206 #[.int .i64 N] w fun e w'=>e= .returned (.string ⟨(be 4 k).toArray⟩)/\Ext w w':=by
 have m:0<=N:=by omega
 have s:N<=9223372036854775807:=by omega
 have b:N.toNat=k:=by omega
 have l:=η b;clear q b;go_enter Tryz.func206,Tryz.ntmps206;go_wp2_with fail;refine(q8A N 4 _ (by omega) (by omega) m (by omega)).mono ?_;rintro e w1 ⟨rfl,d⟩;have j:=η d;clear d;rw[l.o];go_wp2_with fail;go_ret;exact⟨rfl,j.o⟩
theorem z7S(p:List UInt8)(w:World)(j:2000<p.length)(d:p.length<=9223372036854775807):
  Calls Tryz.prog 147 #[.string ⟨p.toArray⟩] w fun e w'=>e= .returned (.tuple #[.string ⟨#[]⟩,.int .i64 3])/\w=w':=by
 have b:decide ((2000:Int)<(p.length:Int))=true:=by simp;omega
 go_enter Tryz.func147,Tryz.ntmps147;go_wp2_with fail;go_ret2;exact⟨rfl,rfl⟩
theorem z9Y(p:List UInt8)(w:World)(B:p.length<=2000):
  Calls Tryz.prog 147 #[.string ⟨p.toArray⟩] w fun e w'=>e= .returned (.tuple #[.string ⟨(q2F p).toArray⟩,.int .i64 0])/\Ext w w':=by
 have x:decide ((2000:Int)<(p.length:Int))=false:=by simp;omega
 obtain⟨n,y⟩: ∃n:Int,n=(p.length:Int):=⟨_,rfl⟩
 have u:Hd (q2F p=q1T (be 4 p.length++p)++be 4 p.length):=η rfl;have d:(be 4 p.length).length=4:=q0H 4 _;have C:(q1T (be 4 p.length++p)).length=p.length+8:=by simp[q1K,d];omega
 have q:=η (fun W=>z7Z p.length (p.length:Int) W rfl (by omega));have v:=η (fun W=>z4J (be 4 p.length++p) W (by simp[d];omega));go_enter Tryz.func147,Tryz.ntmps147;go_wp2_with fail;refine(q.o _).mono ?_;rintro e w1 ⟨rfl,b⟩;have s:=η b;clear b;generalize be 4 p.length=X at*;go_wp2_with fail;have m:=v.o w1;generalize q1T (X++p)=Y at*;rw[q3d];refine m.mono ?_;rintro e D ⟨rfl,b⟩;have j:=η (s.o.trans b);clear b;go_wp2_with fail;refine(q.o _).mono ?_;rintro e E ⟨rfl,b⟩;have l:=η (j.o.trans b);clear b;go_wp2_with fail;go_ret2;exact⟨by rw[u.o,q3d];rfl,l.o⟩
theorem q4R : ∀a b:List UInt8,Op.bytesLess a b=bytesBefore a b
 |[],[]=>rfl
 |[],_::_=>rfl
 |_::_,[]=>rfl
 |a::x,b::y=>by unfold Op.bytesLess bytesBefore;rw[q4R x y]
abbrev Cks :=List (List (List UInt8))
def q3P :Nat->Cks->List (List UInt8×List UInt8)
 |_,[]=>[]
 |i,ps::r=>(q0C 99 (i:Int),q0L i ps)::q3P (i+1) r
theorem q3Q : ∀(C:Cks) (i:Nat),(q3P i C).length=C.length
 |[],_=>rfl
 |ps::r,i=>by simp[q3P,q3Q r]
theorem q2b : ∀(C D:Cks) (i:Nat),q3P i (C++D)=q3P i C++q3P (i+C.length) D
 |[],D,i=>rfl
 | ps::r,D,i=>by
  rw[List.cons_append,q3P,q2b r D (i+1),q3P,List.cons_append,χ]
  congr 3;omega
theorem q2k : ∀{C:Cks} {i:Nat} {x:List UInt8×List UInt8},x∈q3P i C-> ∃k,i<=k/\k<i+C.length/\x.1=q0C 99 (k:Int)
 |[],_,_,h=>by cases h
 | ps ::r,i,x,h=>by
  rcases List.mem_cons.1 h with rfl|h
  ·exact⟨i,ι _,by simp,rfl⟩
  ·obtain⟨k,d,j,b⟩:=q2k h
   exact⟨k,by omega,by simp;omega,b⟩
theorem q2l(n:Int):(q0C 99 n).length<=9223372036854775807:=by
 by_cases h:0<=n/\n<=999999
 ·rw[q0U h,χ,q0Y];decide
 ·rw[q7F h];decide
theorem q9Z(b:i<=999999)(d:k<=999999)(h:i≠k):q0C 99 (i:Int)≠q0C 99 (k:Int):=fun e=>by
 have:=z9O 99 (i:Int) (k:Int) (by omega) (by omega);rw[e,beq_self_eq_true] at this;have:=of_decide_eq_true this.symm;omega
theorem q4Z(j:i<=999999)(l:k<=999999)(h:i<k):bytesBefore (q0C 99 (i:Int)) (q0C 99 (k:Int))=true:=by
 have b:=z5F 99 (i:Int) (k:Int) (by omega) (by omega);have d:decide ((i:Int)<(k:Int))=true:=by simp;omega
 rw[d] at b;rw[<-q4R];exact b
theorem q3e{C:Cks}(m:k<=999999)(q:i+C.length<=999999)(h: ∀j,i<=j->j<i+C.length->j≠k): ∀y∈q3P i C,Prod.fst y≠q0C 99 (k:Int):=fun y o=>by
 obtain⟨j,b,d,l⟩:=q2k o;rw[l];exact q9Z (by omega) m (h j b d)
theorem q7S{C:Cks}(o:C.length<=200)(l:C[k]? =some ps):q0F Prod.fst (q0C 99 (k:Int)) (q3P 0 C)=some (q0C 99 (k:Int),q0L k ps):=by
 obtain⟨m,rfl⟩:=List.getElem?_eq_some_iff.1 l;have e:C=C.take k++C[k]::C.drop (k+1):=by
  rw[List.getElem_cons_drop];exact(List.take_append_drop _ _).symm
 have b:(C.take k).length=k:=by simp;omega
 conv=>lhs;rw[e]
 rw[q2b,b,Nat.zero_add,q0Q]
 ·rw[q3P];unfold q0F;rw[List.find?_cons_of_pos (by simp)]
 ·exact q3e (by omega) (by rw[b];omega) fun j _ d=>by rw[b] at d;omega
theorem z0j{C:Cks}(l:C.length<=200)(m:C.length<=k)(b:k<=999999):q0F Prod.fst (q0C 99 (k:Int)) (q3P 0 C)=none:=
 q0S (q3e b (by omega) fun j _ d=>by omega)
theorem z8S{C:Cks}(u:C.length<=200):q0F Prod.fst [110,101,119] (q3P 0 C)=none:=q0S fun y m e=>by
 obtain⟨j,o,q,b⟩:=q2k m;rw[e] at b;have s:j<200:=by omega
 rw[q0U (by omega)] at b;have d:=congrArg List.length b;have l:(99::q5M 6 ((j:Int)).toNat).length=7:=by simp[q0Y]
 rw[l] at d
 cases d
theorem q6P : ∀(C:Cks) (i:Nat),(q3P i C).map Prod.fst=(List.range' i C.length).map fun k:Nat=>q0C 99 (k:Int)
 |[],_=>rfl
 |ps::r,i=>by rw[q3P,List.map_cons,q6P r,χ,List.range'_succ,List.map_cons]
theorem q0d(a b:List (List UInt8×List UInt8)):q1X (a++b)=q1X a+q1X b:=by simp[q1X,q5I,List.sum_append]
theorem q6H(x:List UInt8×List UInt8):q1X [x]=x.2.length:=by simp[q1X,q5I]
theorem z5y{D:Cks}(p:List UInt8)(d:D.length<=200):q1P Prod.fst (q0C 99 (D.length:Int)) (fun x=>(x.1,x.2++q2F p)) (q3P 0 (D++[ps]))=q3P 0 (D++[ps++[p]]):=by
 rw[q2b,q2b,q5E,q2i,Nat.zero_add]
 ·congr 1
  show q1P Prod.fst (q0C 99 (D.length:Int)) _ [(q0C 99 (D.length:Int),q0L D.length ps)]=[(q0C 99 (D.length:Int),q0L D.length (ps++[p]))];rw[z1z];unfold q1P;simp
 ·exact q3e (by omega) (by omega) fun j _ b=>by omega
theorem z4h{C:Cks}(p:List UInt8)(d:C.length<=200):q1P Prod.fst (q0C 99 (C.length:Int)) (fun x=>(x.1,x.2++(q1Y C.length++q2F p))) (q3P 0 C++[(q0C 99 (C.length:Int),[])])=q3P 0 (C++[[p]]):=by
 rw[q2b,q5E,q2i,Nat.zero_add]
 ·congr 1
  show q1P Prod.fst (q0C 99 (C.length:Int)) _ [(q0C 99 (C.length:Int),[])]=[(q0C 99 (C.length:Int),q0L C.length [p])];rw[z4d];unfold q1P;simp
 ·exact q3e (by omega) (by omega) fun j _ b=>by omega
def q0j(C:Cks):Nat:=(C.map q0I).sum
theorem q3p : ∀(C:Cks) (i:Nat),q1X (q3P i C)=q0j C
 |[],_=>rfl
 | ps::r,i=>by
  have e:q3P i (ps::r)=[(q0C 99 (i:Int),q0L i ps)]++q3P (i+1) r:=rfl;rw[e,q0d,q6H,q3p r];simp[q0j,q0V]
structure okC(C:Cks):Prop where
 few:C.length<=200
 size: ∀ps∈C,q0I ps<=4096
 pay: ∀ps∈C,∀p∈ps,p.length<=2000
 full: ∀ps∈C.dropLast,ps≠[]
structure Oth where
 X:List (List UInt8×List UInt8)
 Z:List (List UInt8×List UInt8)
def noO :Oth:=⟨[],[]⟩
structure okOth(E:Oth):Prop where
 before: ∀y∈E.X,∀k:Nat,k<=999999->bytesBefore y.1 (q0C 99 (k:Int))=true
 behind: ∀y∈E.Z,∀k:Nat,k<=999999->bytesBefore (q0C 99 (k:Int)) y.1=true
 new: ∀y,y∈E.X\/y∈E.Z->y.1≠[110,101,119]
 kind: ∀y,y∈E.X\/y∈E.Z->(q1F y.1).2.2=true->(q1F y.1).1≠99
 len: ∀y,y∈E.X\/y∈E.Z->y.1.length<=1000
 few:E.X.length+E.Z.length<=190
theorem okOth.no :okOth noO:=⟨(fun _ h=>by cases h),(fun _ h=>by cases h),(fun _ h=>by rcases h with h|h<;>cases h),(fun _ h=>by rcases h with h|h<;>cases h),(fun _ h=>by rcases h with h|h<;>cases h),υ _⟩
def q1V(E:Oth):Nat:=q1X E.X+q1X E.Z
def q2a(E:Oth)(C:Cks):List (List UInt8×List UInt8):=E.X++(q3P 0 C++E.Z)
def z4i(E:Oth)(C:Cks):List (List UInt8×List UInt8):=E.X++(q3P 0 C++((q0C 99 (C.length:Int),[])::E.Z))
theorem q7Q(E:Oth)(C:Cks):(q2a E C).length=E.X.length+C.length+E.Z.length:=by simp[q2a,q3Q];omega
theorem z3N{a b:List UInt8}(h:bytesBefore a b=true):a≠b:=fun e=>by rw[e,WideAt.bytes_irrefl] at h;cases h
theorem okOth.neX{E:Oth}(h:okOth E)(b:k<=999999): ∀y∈E.X,Prod.fst y≠q0C 99 (k:Int):=fun y d=>z3N (h.before y d k b)
theorem okOth.neZ{E:Oth}(h:okOth E)(b:k<=999999): ∀y∈E.Z,Prod.fst y≠q0C 99 (k:Int):=fun y d e=>z3N (h.behind y d k b) e.symm
theorem q0v{k:α->List UInt8}{nm:List UInt8}{a b:List α}(h: ∀y∈b,k y≠nm):q0F k nm (a++b)=q0F k nm a:=by
 unfold q0F;rw[List.find?_append];have:List.find? (fun y=>k y==nm) b=none:=q0S h;rw[this];simp
theorem q3O{E:Oth}(b:okOth E){C:Cks}(j:C.length<=200)(d:C[k]? =some ps):q0F Prod.fst (q0C 99 (k:Int)) (q2a E C)=some (q0C 99 (k:Int),q0L k ps):=by
 have l:=(List.getElem?_eq_some_iff.1 d).1;unfold q2a;rw[q0Q (b.neX (by omega)),q0v (b.neZ (by omega))];exact q7S j d
theorem z5x{E:Oth}(d:okOth E){C:Cks}(j:C.length<=200)(l:C.length<=k)(b:k<=999999):q0F Prod.fst (q0C 99 (k:Int)) (q2a E C)=none:=by
 unfold q2a;rw[q0Q (d.neX b),q0v (d.neZ b)];exact z0j j l b
theorem z3P{E:Oth}(d:okOth E){C:Cks}(j:C.length<=200):q0F Prod.fst [110,101,119] (q2a E C)=none:=by
 unfold q2a;rw[q0Q fun y b=>d.new y (.inl b),q0v fun y b=>d.new y (.inr b)];exact z8S j
theorem q7R(E:Oth)(C:Cks):q1X (q2a E C)=q1V E+q0j C:=by
 unfold q2a q1V;rw[q0d,q0d,q3p];omega
theorem z6A(E:Oth)(C:Cks):q1X (z4i E C)=q1V E+q0j C:=by
 have e:z4i E C=E.X++(q3P 0 C++([(q0C 99 (C.length:Int),[])]++E.Z)):=rfl;rw[e,q0d,q0d,q0d,q3p,q6H];unfold q1V;simp;omega
theorem z5w{E:Oth}(b:okOth E){D:Cks}(p:List UInt8)(d:D.length<=200):q1P Prod.fst (q0C 99 (D.length:Int)) (fun x=>(x.1,x.2++q2F p)) (q2a E (D++[ps]))=q2a E (D++[ps++[p]]):=by
 unfold q2a;rw[q5E,q5E,q2i (b.neX (by omega)),q2i (b.neZ (by omega)),z5y p d]
theorem q7o{k:α->List UInt8}{x:α}{b:List α}: ∀{a:List α},(∀y∈a,bytesBefore (k y) (k x)=true)->q1e k x (a++b)=a++q1e k x b
 |[],_=>rfl
 | y ::r,h=>by
  have d:=h y (List.mem_cons_self);have j:¬bytesBefore (k x) (k y)=true:=fun l=>by
   have:=WideShapes.bytes_trans _ _ _ d l;rw[WideAt.bytes_irrefl] at this
   cases this
  rw[List.cons_append,q1e,κ j,q7o fun z m=>h z (List.mem_cons_of_mem _ m)]
  rfl
theorem z5B{k:α->List UInt8}{x:α}: ∀{b:List α},(∀y∈b,bytesBefore (k x) (k y)=true)->q1e k x b=x::b
 |[],_=>rfl
 |y::r,h=>by rw[q1e,ξ (h y (List.mem_cons_self))]
theorem z8R{E:Oth}(d:okOth E){C:Cks}(q:C.length<=200):q1e Prod.fst (q0C 99 (C.length:Int),[]) (q2a E C)=z4i E C:=by
 unfold q2a z4i;rw[q7o fun y b=>d.before y b _ (by omega),q7o fun y b=>?_,z5B fun y b=>d.behind y b _ (by omega)];obtain⟨j,m,o,l⟩:=q2k b;rw[l];exact q4Z (by omega) (by omega) (by omega)
theorem z5z{E:Oth}(b:okOth E){C:Cks}(l:C.length<=200):q0F Prod.fst (q0C 99 (C.length:Int)) (z4i E C)=some (q0C 99 (C.length:Int),[]):=by
 unfold z4i;rw[q0Q (b.neX (by omega)),q0Q (q3e (by omega) (by omega) fun j _ d=>by omega)];unfold q0F;rw[List.find?_cons_of_pos (by simp)]
theorem z4f{E:Oth}(b:okOth E){C:Cks}(p:List UInt8)(d:C.length<=200):q1P Prod.fst (q0C 99 (C.length:Int)) (fun x=>(x.1,x.2++(q1Y C.length++q2F p))) (z4i E C)=q2a E (C++[[p]]):=by
 have e:z4i E C=E.X++((q3P 0 C++[(q0C 99 (C.length:Int),[])])++E.Z):=by simp[z4i]
 rw[e];unfold q2a;rw[q5E,q5E,q2i (b.neX (by omega)),q2i (b.neZ (by omega)),z4h p d]
theorem z4g(E:Oth)(C:Cks):(q2a E C).map Prod.fst=E.X.map Prod.fst++((List.range C.length).map (fun k:Nat=>q0C 99 (k:Int))++E.Z.map Prod.fst):=by
 unfold q2a;rw[List.map_append,List.map_append,q6P,List.range_eq_range']
def q2d(C:Cks):Int:=match C.getLast? with|none=>0|some ps=>((C.length:Int)-1)*4096+(q0I ps:Int)
theorem q9d :q2d []=0:=rfl
theorem q1C(D:Cks)(ps:List (List UInt8)):q2d (D++[ps])=(D.length:Int)*4096+(q0I ps:Int):=by
 unfold q2d;simp
theorem z2H{C:Cks}(h:okC C):0<=q2d C/\q2d C<=(C.length:Int)*4096:=by
 rcases List.eq_nil_or_concat C with rfl|⟨D,ps,rfl⟩
 ·rw[q9d];exact⟨Int.le_refl _,Int.le_refl _⟩
 ·rw[List.concat_eq_append] at*
  have:=h.size ps (by simp);rw[q1C,θ,List.length_singleton];omega
def AllS(L:List FM):Prop:= ∀f∈L,f.sy=f.da.length
def Sur(L:List FM)(n:Nat)(k:Int):Prop:= ∀f∈L,f.sy=f.da.length\/ ∃j:Nat,n=j+1/\f.nm=q0C 99 (j:Int)/\k<=(j:Int)*4096+(f.sy:Int)
theorem AllS.sur(h:AllS L)(n:Nat)(k:Int):Sur L n k:=fun f b=> .inl (h f b)
theorem Sur.all0{k:Int}(h:Sur L 0 k):AllS L:=fun f b=>(h f b).elim id fun ⟨j,e,_⟩=>absurd e (by omega)
theorem Sur.less{k k':Int}(h:Sur L n k)(m:k'<=k):Sur L n k':=fun f l=>(h f l).imp id fun ⟨j,a,b,d⟩=>⟨j,a,b,by omega⟩
theorem q1N{a:Int}(b:a≠0)(h:(a,σ)=(0,σ')):False:=b (congrArg Prod.fst h)
theorem q8g{nm:List UInt8}(h:q2C σ nm=(0,σ'))(d:AllS σ.L):AllS σ'.L:=by
 unfold q2C at h
 split at h
 ·exact(q1N (by decide) h).elim
 split at h
 ·exact(q1N (by decide) h).elim
 split at h
 ·exact(q1N (by decide) h).elim
 split at h
 ·exact(q1N (by decide) h).elim
 split at h
 ·exact(q1N (by decide) h).elim
 have e:=congrArg Prod.snd h;subst e;intro f b;have b:f∈q1e FM.nm ⟨nm,[],0⟩ σ.L:=b;rcases mem_insN.1 b with rfl|b
 ·rfl
 ·exact d f b
theorem q6N{nm:List UInt8}(h:q1a σ nm t=(0,σ'))(l:f∈σ'.L): ∃b∈σ.L,(b.nm=nm/\f={b with da:=b.da++t})\/(b.nm≠nm/\f=b):=by
 unfold q1a at h
 split at h
 ·exact(q1N (by decide) h).elim
 split at h
 ·exact(q1N (by decide) h).elim
 split at h
 ·exact(q1N (by decide) h).elim
 split at h
 ·exact(q1N (by decide) h).elim
 have e:=congrArg Prod.snd h;subst e;obtain⟨b,j,rfl⟩:=List.mem_map.1 (show f∈σ.L.map (fun y=>if y.nm==nm then {y with da:=y.da++t} else y) from l);refine⟨b,j,?_⟩;by_cases d:b.nm=nm
 ·rw[ξ (by simpa using d)];exact .inl ⟨d,rfl⟩
 ·rw[κ (by simpa using d)];exact .inr ⟨d,rfl⟩
theorem z4W{nm:List UInt8}(h:q1a σ nm t=(0,σ'))(j:AllS σ.L)(m:nm=q0C 99 (n:Int)):Sur σ'.L (n+1) ((n:Int)*4096):=fun f l=>by
 obtain⟨o,d,⟨b,rfl⟩|⟨b,rfl⟩⟩:=q6N h l
 ·exact .inr ⟨n,rfl,b.trans m,by simp only;omega⟩
 ·exact .inl (j _ d)
theorem z4X{nm:List UInt8}{j:Nat}{k:Int}(h:q1a σ nm t=(0,σ'))(l:Sur σ.L (j+1) k)(u:nm=q0C 99 (j:Int))(s: ∀f∈σ.L,f.nm=nm->k<=(j:Int)*4096+(f.da.length:Int)):Sur σ'.L (j+1) k:=fun f q=>by
 obtain⟨v,b,⟨d,rfl⟩|⟨d,rfl⟩⟩:=q6N h q
 ·refine .inr ⟨j,rfl,d.trans u,?_⟩
  have x:=s _ b d;rcases l _ b with m|⟨i,m,y,o⟩
  ·simp only;omega
  ·have:i=j:=by omega
   subst this;exact o
 ·exact l _ b
theorem z4M{nm:List UInt8}{k:Int}(h:q5J σ nm=(0,σ'))(o:Sur σ.L n k)(u: ∀j:Nat,n=j+1->nm=q0C 99 (j:Int)):AllS σ'.L:=by
 unfold q5J at h
 split at h
 ·exact(q1N (by decide) h).elim
 split at h
 ·exact(q1N (by decide) h).elim
 split at h
 ·exact(q1N (by decide) h).elim
 have e:=congrArg Prod.snd h;subst e;intro f q;obtain⟨d,l,rfl⟩:=List.mem_map.1 (show f∈σ.L.map (fun y=>if y.nm==nm then {y with sy:=y.da.length} else y) from q);by_cases b:d.nm=nm
 ·rw[ξ (by simpa using b)]
 ·rw[κ (by simpa using b)]
  rcases o d l with m|⟨j,s,e,_⟩
  ·exact m
  ·exact absurd (e.trans (u j s).symm) b
structure Lgd(E:Oth)(σ:DM)(c s:Int)(C:Cks)(k:Int):Prop where
 pl:Pl σ (c+(q1V E:Int)) s (q2a E C)
 ok:okC C
 oth:okOth E
 sr:Sur σ.L C.length k
 le:k<=q2d C
theorem Lgd.lastLen{E:Oth}{s:Int}{D:Cks}{k:Int}(h:Lgd E σ c s (D++[ps]) k)(m:okD σ)(l:f∈σ.L)(e:f.nm=q0C 99 (D.length:Int)):f.da.length=q0I ps:=by
 have j:=q3F m.ord l e;have b:=h.pl.find (q0C 99 (D.length:Int));rw[q3O h.oth h.ok.few (show(D++[ps])[D.length]? =some ps by simp),j] at b;injection b with b;have d:=congrArg (fun x=>x.2.length) b;simp only[fbF,q0V] at d;exact d.symm
theorem Lgd.all{E:Oth}{s:Int}{C:Cks}(h:Lgd E σ c s C (q2d C))(m:okD σ):AllS σ.L:=by
 rcases List.eq_nil_or_concat C with rfl|⟨D,ps,rfl⟩
 ·exact h.sr.all0
 ·rw [List.concat_eq_append] at*
  intro f b;rcases h.sr f b with l|⟨j,o,e,q⟩
  ·exact l
  ·have d:j=D.length:=by rw[θ,List.length_singleton] at o;omega
   subst d;have l:=h.lastLen m b e;have u:=m.sy f b;rw[q1C] at q;omega
theorem okC.nil :okC []:=⟨υ _,(fun _ h=>by cases h),(fun _ h=>by cases h),(fun _ h=>by cases h)⟩
theorem okC.grow{D:Cks}(h:okC (D++[ps]))(j:p.length<=2000)(l:q0I ps+(p.length+12)<=4096):okC (D++[ps++[p]]):=by
 have m:ps∈D++[ps]:=by simp
 refine⟨by simpa using h.few,fun q hq=>?_,fun q hq=>?_,fun q hq=>h.full q (by simpa using hq)⟩
 all_goals rcases List.mem_append.1 hq with b|b
 ·exact h.size q (List.mem_append_left _ b)
 ·obtain rfl:=List.mem_singleton.1 b;rw[q2P];exact l
 ·exact h.pay q (List.mem_append_left _ b)
 ·obtain rfl:=List.mem_singleton.1 b
  intro x o;rcases List.mem_append.1 o with d|d
  ·exact h.pay ps m x d
  ·obtain rfl:=List.mem_singleton.1 d;exact j
theorem okC.more{C:Cks}(h:okC C)(j:p.length<=2000)(m:C.length<200)(d: ∀ps∈C,ps≠[]):okC (C++[[p]]):=by
 refine⟨by simp;omega,fun q hq=>?_,fun q hq=>?_,fun q hq=>d q (by simpa using hq)⟩
 all_goals rcases List.mem_append.1 hq with b|b
 ·exact h.size q b
 ·obtain rfl:=List.mem_singleton.1 b;rw[q4n];omega
 ·exact h.pay q b
 ·obtain rfl:=List.mem_singleton.1 b
  intro x l;obtain rfl:=List.mem_singleton.1 l;exact j
def q0M(C:Cks):List Int:=C.map fun ps=>(q0I ps:Int)
theorem q1v(D:Cks)(ps:List (List UInt8)):q0M (D++[ps])=q0M D++[(q0I ps:Int)]:=by simp[q0M]
theorem q0a(C:Cks):(q0M C).length=C.length:=by simp[q0M]
theorem q8C(D:Cks)(ps:List (List UInt8)):(q0M (D++[ps])).getD D.length 0=(q0I ps:Int):=by
 rw[q1v];have:D.length=(q0M D).length:=(q0a D).symm;rw[δ,this,List.getElem?_append_right (ι _)];simp
theorem z5T(D:Cks)(ps b:List (List UInt8)):(q0M (D++[ps])).set D.length (q0I b:Int)=q0M (D++[b]):=by
 rw[q1v,q1v];have:D.length=(q0M D).length:=(q0a D).symm;rw[this];simp
theorem z2p(C:Cks)(i:Nat)(h:C[i]? =some ps):(q0M C).getD i 0=(q0I ps:Int):=by
 unfold q0M;rw[δ,List.getElem?_map,h];rfl
def q4H(C:Cks)(p:List UInt8):Bool:=match C.getLast? with|none=>false|some ps=>decide (q0I ps+(p.length+12)<=4096)
def q1H(free:Int)(C:Cks)(p:List UInt8):Int×Int×Cks:=
 if 2000<p.length then(0,3,C)
 else if q4H C p then(if free-((p.length:Int)+12)<6000 then(0,60,C) else(q2d C,0,C.dropLast++[C.getLast?.getD []++[p]]))
 else if 200<=C.length\/free-((p.length:Int)+24)<6000 then(0,60,C) else((C.length:Int)*4096+12,0,C++[[p]])
def q3z(free sure:Int)(C:Cks)(p:List UInt8):Int:=
 if (q1H free C p).2.1=0/\q4H C p=false/\C≠[] then q2d C else sure
def q1u :Nat->List (List UInt8)->List (Nat×List UInt8)
 |_,[]=>[]
 |a,p::r=>(a,p)::q1u (a+p.length+12) r
def q0f :Nat->Cks->List (Nat×List UInt8)
 |_,[]=>[]
 |b,ps::r=>q1u (b+12) ps++q0f (b+4096) r
def q3m(C:Cks)(pos:Int):Option (Nat×List UInt8):=(q0f 0 C).find? fun r=>decide (pos<=(r.1:Int))
def q5y(C:Cks)(pos:Int):List UInt8×Int:=
 if pos<0 then([],4) else match C[(pos/4096).toNat]? with
 |none=>([],4)
 | some ps=>match (if 12<=pos % 4096 then q5P (q0L (pos/4096).toNat ps) (pos % 4096).toNat else none) with
  |none=>([],4)
  |some (p,_)=>(p,0)
def z1C(s:List UInt8)(a:Nat):Value:=match q5P s a with
 |none=> .tuple #[.string ⟨#[]⟩,.int .i64 0,.bool false]
 |some (p,b)=> .tuple #[.string ⟨p.toArray⟩,.int .i64 b,.bool true]
theorem q7k{s:List UInt8}(h:isR s a=false):z1C s a= .tuple #[.string ⟨#[]⟩,.int .i64 0,.bool false]:=by unfold z1C q5P;rw[h];rfl
theorem q5j(s:List UInt8)(a k:Nat):(s.take (a+k)).drop a=(s.drop a).take k:=by rw[List.drop_take];congr 1;omega
theorem q9n(s:List UInt8)(a:Nat)(w:World)(hl:s.length<=4611686018427387903)(ha:a<=4611686018427387903):
  Calls Tryz.prog 164 #[.string ⟨s.toArray⟩,.int .i64 (a:Int)] w fun e w'=>e= .returned (z1C s a)/\Ext w w':=by
 by_cases h1:s.length<a+12
 ·have v:Hd (z1C s a= .tuple #[.string ⟨#[]⟩,.int .i64 0,.bool false]):=η (q7k (by unfold isR;rw[ε (by omega)];rfl))
  have hd:decide (((s.length:Int)-12)<(a:Int))=true:=by simp;omega
  go_enter Tryz.func164,Tryz.ntmps164;go_wp2_with fail;go_ret3;rw[v.o];exact⟨rfl,Ext.refl _⟩
 have b0:decide (((s.length:Int)-12)<(a:Int))=false:=by simp;omega
 obtain⟨X,F⟩: ∃X,(s.drop a).take 4=X:=⟨_,rfl⟩
 have J:X.length=4:=by rw[<-F];simp;omega
 have f0:=q3V s (a:Int) ((a:Int)+4) a (a+4) rfl (by omega) (by omega) (by omega) (by rw[q5j,F]);obtain⟨n,G⟩: ∃n,q3t s a=n:=⟨_,rfl⟩
 have y:q1O (X.take 8)=n:=by rw[Δ (by omega),<-F,<-G];rfl
 have c0:n<4294967296:=by rw[<-y];have:=q2O (X.take 8);rw[Θ,J] at this;exact this
 have D:=η (fun W=>q9l X W (by omega));rw[y] at D;by_cases V:2000<n\/s.length<a+n+12
 ·have v:Hd (z1C s a= .tuple #[.string ⟨#[]⟩,.int .i64 0,.bool false]):=η (q7k (by
   unfold isR;rw[G];rcases V with h|h
   ·rw[ε (p:=n<=2000) (by omega)];simp
   ·rw[ε (p:=a+n+12<=s.length) (by omega)];simp))
  clear F G y J;by_cases h3:2000<n
  ·have N:decide ((2000:Int)<(n:Int))=true:=by simp;omega
   go_enter Tryz.func164,Tryz.ntmps164;go_wp2_with fail;refine(D.o _).mono ?_;rintro e w1 ⟨rfl,l⟩;have x:=η l;clear l;go_wp2_with fail;go_ret3;rw[v.o];exact⟨rfl,x.o⟩
  ·have h4:s.length<a+n+12:=by omega
   have N:decide ((2000:Int)<(n:Int))=false:=by simp;omega
   have U:decide ((s.length:Int)-12-(a:Int)<(n:Int))=true:=by simp;omega
   go_enter Tryz.func164,Tryz.ntmps164;go_wp2_with fail;refine(D.o _).mono ?_;rintro e w1 ⟨rfl,l⟩;have x:=η l;clear l;go_wp2_with fail;go_ret3;rw[v.o];exact⟨rfl,x.o⟩
 have h5:n<=2000:=by omega
 have h6:a+n+12<=s.length:=by omega
 have N:decide ((2000:Int)<(n:Int))=false:=by simp;omega
 have U:decide ((s.length:Int)-12-(a:Int)<(n:Int))=false:=by simp;omega
 obtain⟨Y,M⟩: ∃Y,(s.drop a).take (n+8)=Y:=⟨_,rfl⟩
 have C:Y.length=n+8:=by rw[<-M];simp;omega
 have g0:=q3V s (a:Int) ((a:Int)+(n:Int)+12-4) a (a+(n+8)) rfl (by omega) (by omega) (by omega) (by rw[q5j,M]);obtain⟨Z,S⟩: ∃Z,(s.drop (a+n+8)).take 4=Z:=⟨_,rfl⟩
 have h0:=q3V s ((a:Int)+(n:Int)+12-4) ((a:Int)+(n:Int)+12) (a+n+8) (a+n+8+4) (by omega) (by omega) (by omega) (by omega) (by rw[q5j,S]);have E:=η (fun W=>open_c Y W (by omega));have hi:isR s a=(q2L Y&&decide (Z=X)):=by
  unfold isR;rw[G,ζ (p:=a+12<=s.length) (by omega),ζ h5,ζ h6,M,S,F];simp
 have B:q2L Y=true->(q1z Y).drop 4=(s.drop (a+4)).take n:=fun h=>by
  unfold q1z;rw[ξ h,C,<-M,List.take_take,List.drop_take,List.drop_drop]
  congr 1;omega
 have I:q2L Y=true->(q1z Y).length=n+4:=fun h=>by
  unfold q1z;rw[ξ h,Θ,C];omega
 have hS:q5P s a=if isR s a then some ((s.drop (a+4)).take n,a+n+12) else none:=by unfold q5P;rw[G]
 have O:=η hi;have HP:=η B;have Q:=η I;have HS:=η hS;clear F G y S M C hi B I hS V h1;generalize q1z Y=T at*
 cases l:q2L Y with
 | false=>
  have v:Hd (z1C s a= .tuple #[.string ⟨#[]⟩,.int .i64 0,.bool false]):=η (q7k (by rw[O.o,l];rfl));rw[l] at E;go_enter Tryz.func164,Tryz.ntmps164;go_wp2_with fail;refine(D.o _).mono ?_;rintro e w1 ⟨rfl,b⟩;have x:=η b;clear b;go_wp2_with fail;refine(E.o _).mono ?_;rintro e w2 ⟨rfl,d⟩;have m:=η (x.o.trans d);clear d;go_wp2_with fail;refine q0E (by kernel_rfl) (by kernel_rfl) ?_
  repeat (go_big_quiet_step (fail))
  refine wpQuiet_nil ?_;intro w3 j;have q:=η (m.o.trans j);clear j;go_wp2_with fail;go_ret3;rw[v.o];exact⟨rfl,q.o⟩
 | true =>
  by_cases u:Z=X
  ·have v:Hd (z1C s a= .tuple #[.string ⟨(T.drop 4).toArray⟩,.int .i64 ((a:Int)+(n:Int)+12),.bool true]):=η (by
    unfold z1C;rw[HS.o,O.o,l,u,HP.o l]
    simp)
   have R:=Q.o l;have e0: ∀w,(Instr.slice 9 (.string ⟨T.toArray⟩) (some (.int .i64 4)) none none).run Tryz.prog w= .ok (.string ⟨(T.drop 4).toArray⟩) w:=fun w=>by
    exact q3M T 4 4 rfl (by omega) w
   rw[l] at E;generalize T.drop 4=T4 at*;subst u;go_enter Tryz.func164,Tryz.ntmps164;go_wp2_with fail;refine(D.o _).mono ?_;rintro e w1 ⟨rfl,b⟩;have x:=η b;clear b;go_wp2_with fail;refine(E.o _).mono ?_;rintro e w2 ⟨rfl,d⟩;have m:=η (x.o.trans d);clear d;go_wp2_with fail;refine q0E (by kernel_rfl) (by kernel_rfl) ?_
   repeat (go_big_quiet_step (fail))
   refine wpQuiet_nil ?_;intro w3 j;have q:=η (m.o.trans j);clear j;go_wp2_with fail;go_ret3;rw[v.o];exact⟨rfl,q.o⟩
  ·have v:Hd (z1C s a= .tuple #[.string ⟨#[]⟩,.int .i64 0,.bool false]):=η (q7k (by rw[O.o,ε u,Bool.and_false]))
   have d0:(Z==X)=false:=by simpa using u
   have a0:(Z !=X)=true:=by simpa using u
   rw[l] at E;go_enter Tryz.func164,Tryz.ntmps164;go_wp2_with fail;refine(D.o _).mono ?_;rintro e w1 ⟨rfl,b⟩;have x:=η b;clear b;go_wp2_with fail;refine(E.o _).mono ?_;rintro e w2 ⟨rfl,d⟩;have m:=η (x.o.trans d);clear d;go_wp2_with fail;refine q0E (by kernel_rfl) (by kernel_rfl) ?_
   repeat (go_big_quiet_step (fail))
   refine wpQuiet_nil ?_;intro w3 j;have q:=η (m.o.trans j);clear j;go_wp2_with fail;go_ret3;rw[v.o];exact⟨rfl,q.o⟩
theorem q9S(n:Nat)(w:World)(y:n<200):
  Calls Tryz.prog 213 #[.int .i64 (n:Int)] w fun e w'=>e= .returned (.string ⟨(q1Y n).toArray⟩)/\Ext w w':=by
 have x:decide ((200:Int)<=(n:Int))=false:=by simp;omega
 have s:Hd (q1Y n=q1T ([99,104,110,107]++be 4 n)):=η rfl;have m:=η (fun W=>q8A (n:Int) 4 W (by omega) (by omega) (by omega) (by omega));have u:=η (fun W=>z4J ([99,104,110,107]++be 4 n) W (by simp[q0H]));have v:(be 4 n).length=4:=q0H 4 _;rw[Int.toNat_natCast] at m;generalize q1T ([99,104,110,107]++be 4 n)=Y at*;generalize be 4 n=X at*;go_enter Tryz.func213,Tryz.ntmps213;go_wp2_with fail;refine(m.o _).mono ?_;rintro e w1 ⟨rfl,d⟩;have q:=η d;clear d;go_wp2_with fail;have j:=q3d [99,104,110,107] X;have b:({data:=#[99,104,110,107]}:ByteArray)++{data:=X.toArray}=⟨([99,104,110,107]++X).toArray⟩:=j;rw[b];refine(u.o _).mono ?_;rintro e B ⟨rfl,d⟩;have l:=η (q.o.trans d);clear d;go_wp2_with fail;go_ret;exact⟨by rw[s.o];rfl,l.o⟩
theorem y2C(N:Int)(p:List UInt8)(w:World)(b:0<=N)(d:N<=4096)(o:p.length<=2000):
  Calls Tryz.prog 148 #[.int .i64 N,.string ⟨p.toArray⟩] w fun e w'=>e= .returned (.bool (decide ((p.length:Int)+12<=4096-N)))/\w=w':=by
 have j:decide ((0:Int)<=N)=true:=by simpa using b
 have l:decide (N<=(4096:Int))=true:=by simpa using d
 have m:decide ((p.length:Int)<=(2000:Int))=true:=by simp;omega
 go_enter Tryz.func148,Tryz.ntmps148;go_wp2_with fail;go_ret;exact⟨rfl,rfl⟩
def z0Y(s p:List UInt8):Bool:=decide (p.length<=s.length)&&(s.take p.length==p)
theorem z1I(s p:List UInt8)(w:World)(j:s.length<=9223372036854775807)(l:p.length<=9223372036854775807):
  Calls Tryz.prog 244 #[.string ⟨s.toArray⟩,.string ⟨p.toArray⟩] w fun e w'=>e= .returned (.bool (z0Y s p))/\w=w':=by
 by_cases h:p.length<=s.length
 ·have b:Hd (z0Y s p=(s.take p.length==p)):=η (by unfold z0Y;rw[ζ h,Bool.true_and])
  have d:decide ((p.length:Int)<=(s.length:Int))=true:=by simp;omega
  go_enter Tryz.func244,Tryz.ntmps244;go_wp2_with fail;go_ret;rw[b.o];exact⟨rfl,rfl⟩
 ·have b:Hd (z0Y s p=false):=η (by unfold z0Y;rw[ε h,Bool.false_and])
  have d:decide ((p.length:Int)<=(s.length:Int))=false:=by simp;omega
  go_enter Tryz.func244,Tryz.ntmps244;go_wp2_with fail;go_ret;rw[b.o];exact⟨rfl,rfl⟩
theorem q5S(s p:List UInt8)(w:World)(b:s.length<=9223372036854775807)(d:p.length<=9223372036854775807):
  Calls Tryz.prog 221 #[.string ⟨s.toArray⟩,.string ⟨p.toArray⟩] w fun e w'=>e= .returned (.bool (z0Y s p))/\w=w':=by
 go_enter Tryz.func221,Tryz.ntmps221;go_wp2_with fail;refine(z1I s p _ b d).mono ?_;rintro e w1 ⟨rfl,rfl⟩;go_wp2_with fail;go_ret;exact⟨rfl,rfl⟩
theorem q4O : ∀(ps:List (List UInt8)) (a:Nat),∀r∈q1u a ps,a<=r.1/\r.1+r.2.length+12<=a+(ps.map fun p=>p.length+12).sum
 |[],_,r,h=>by cases h
 | p ::t,a,r,h=>by
  rw[q1u] at h;rcases List.mem_cons.1 h with rfl|h
  ·simp only[List.map_cons,List.sum_cons];omega
  ·have:=q4O t _ r h
   simp only[List.map_cons,List.sum_cons];omega
theorem q5z : ∀(C:Cks) (b:Nat),(∀ps∈C,q0I ps<=4096)-> ∀r∈q0f b C,b+12<=r.1/\r.1<b+4096*C.length
 |[],_,_,r,h=>by cases h
 | ps ::t,b,hs,r,h=>by
  rw[q0f] at h;have d:=hs ps (List.mem_cons_self);unfold q0I at d;rcases List.mem_append.1 h with h|h
  ·have:=q4O ps _ r h
   simp only[χ];omega
  ·have:=q5z t _ (fun q hq=>hs q (List.mem_cons_of_mem _ hq)) r h
   simp only[χ];omega
theorem q5X : ∀(C:Cks) (b n:Nat),q0f b C=q0f b (C.take n)++q0f (b+4096*n) (C.drop n)
 |C,b,0=>by simp[q0f]
 |[],b,n+1=>by simp[q0f]
 | ps::t,b,n+1=>by
  rw[List.take_succ_cons,List.drop_succ_cons,q0f,q0f,q5X t (b+4096) n,List.append_assoc]
  congr 3;omega
theorem z1X(C D:Cks)(b:Nat):q0f b (C++D)=q0f b C++q0f (b+4096*C.length) D:=by
 have:=q5X (C++D) b C.length
 rwa [List.take_left,List.drop_left] at this
theorem z6b{pos:Int}{l m:List (Nat×List UInt8)}(h: ∀r∈l,(r.1:Int)<pos):(l++m).find? (fun r=>decide (pos<=(r.1:Int)))=m.find? fun r=>decide (pos<=(r.1:Int)):=by
 rw[List.find?_append];have:l.find? (fun r=>decide (pos<=(r.1:Int)))=none:=List.find?_eq_none.2 fun r b=>by have:=h r b;simp;omega
 rw[this];rfl
theorem z2Y(C:Cks)(pos:Int)(d: ∀ps∈C,q0I ps<=4096)(n:Nat)(l:(n:Int)*4096<=pos):q3m C pos=(q0f (4096*n) (C.drop n)).find? fun r=>decide (pos<=(r.1:Int)):=by
 unfold q3m;rw[q5X C 0 n,Nat.zero_add];refine z6b fun r b=>?_
 have:=q5z (C.take n) 0 (fun ps h=>d ps (List.mem_of_mem_take h)) r b;have j:(C.take n).length<=n:=List.length_take_le _ _;omega
theorem q4k : ∀(ps:List (List UInt8)) (a:Nat),(q1u a ps).length=ps.length
 |[],_=>rfl
 |p::t,a=>by simp[q1u,q4k t]
theorem z4A : ∀(ps:List (List UInt8)) (a k:Nat) (p:List UInt8),ps[k]? =some p->(q1u a ps)[k]? =some (a+((ps.take k).map fun p=>p.length+12).sum,p)
 |[],_,k,p,h=>by simp at h
 | q::t,a,0,p,h=>by
  simp only[List.getElem?_cons_zero,Option.some.injEq] at h;subst h;simp[q1u]
 | q::t,a,k+1,p,h=>by
  rw[List.getElem?_cons_succ] at h;rw[q1u,List.getElem?_cons_succ,z4A t _ k p h,List.take_succ_cons,List.map_cons,List.sum_cons]
  congr 2;omega
theorem q9D : ∀(ps:List (List UInt8)) (a k:Nat) (p:List UInt8),ps[k]? =some p->(q1W a ps)[k]? =some (a+((ps.take k).map fun p=>p.length+12).sum,a+((ps.take k).map fun p=>p.length+12).sum+p.length+12)
 |[],_,k,p,h=>by simp at h
 | q::t,a,0,p,h=>by
  simp only[List.getElem?_cons_zero,Option.some.injEq] at h;subst h;simp[q1W]
 | q::t,a,k+1,p,h=>by
  rw[List.getElem?_cons_succ] at h;rw[q1W,List.getElem?_cons_succ,q9D t _ k p h,List.take_succ_cons,List.map_cons,List.sum_cons]
  congr 2<;>omega
theorem y0B(n:Nat)(ps:List (List UInt8))(k:Nat)(p:List UInt8)(h:ps[k]? =some p)(b:p.length<=2000):q5P (q0L n ps) (q0I (ps.take k))=some (p,q0I (ps.take k)+p.length+12):=by
 obtain⟨d,rfl⟩:=List.getElem?_eq_some_iff.1 h;have e:ps=ps.take k++ps[k]::ps.drop (k+1):=by rw[List.getElem_cons_drop];exact(List.take_append_drop _ _).symm
 have:=z6j n (ps.take k) ps[k] (ps.drop (k+1)) b
 rwa [<-e] at this
theorem z1F(a b:En)(w:World):Calls Tryz.prog 216 #[enV a,enV b] w fun e w'=>e= .returned (.bool (q0n a b))/\Ext w w':=by
 obtain⟨d,j,l⟩:=a;obtain⟨b1,b2,b3⟩:=b;have m:=η (q5q w (.cells #[.int .u64 d,.int .i64 j,.int .i64 l] 165) (.cells #[.int .u64 b1,.int .i64 b2,.int .i64 b3] 165));have q:Hd (q0n (d,j,l) (b1,b2,b3)=if d≠b1 then decide (d<b1) else if j≠b2 then decide (j<b2) else decide (l<b3)):=η rfl;show Calls Tryz.prog 216 #[.agg #[.int .u64 d,.int .i64 j,.int .i64 l],.agg #[.int .u64 b1,.int .i64 b2,.int .i64 b3]] w _;by_cases s:d=b1
 ·subst s
  by_cases u:j=b2
  ·subst u
   go_enter Tryz.func216,Tryz.ntmps216;go_wp2_with fail;go_ret;exact⟨rb (by rw[q.o];simp),m.o⟩
  ·have v:(j !=b2)=true:=by simpa using u
   go_enter Tryz.func216,Tryz.ntmps216;go_wp2_with fail;go_ret;exact⟨rb (by rw[q.o];simp[u]),m.o⟩
 ·have v:(d !=b1)=true:=by simpa using s
  go_enter Tryz.func216,Tryz.ntmps216;go_wp2_with fail;go_ret;exact⟨rb (by rw[q.o];simp[s]),m.o⟩
theorem q9G{L:List En}(q:k+1<L.length):q4V (L.take (k+2))=(q4V (L.take (k+1))&&q0n (L.getD k en0) (L.getD (k+1) en0)):=by
 rw[Bool.eq_iff_iff,Ξ,q3W,q3W];have m:L.take (k+2)=L.take (k+1)++[L.getD (k+1) en0]:=q0Z L en0 (k+1) q;have j:L.take (k+1)=L.take k++[L.getD k en0]:=q0Z L en0 k (by omega);rw[m];unfold q1E;rw[List.pairwise_append]
 constructor
 ·rintro⟨d,_,o⟩
  exact⟨d,o _ (by rw[j];simp) _ (by simp)⟩
 ·rintro⟨d,l⟩
  refine⟨d,by simp,fun x b y s=>?_⟩;obtain rfl:=List.mem_singleton.1 s;rw[j] at b d;rcases List.mem_append.1 b with b|b
  ·exact q1S ((List.pairwise_append.1 d).2.2 x b _ (by simp)) l
  ·obtain rfl:=List.mem_singleton.1 b;exact l
theorem z2r{L:List En}(d:k+1<L.length)(h:q0n (L.getD k en0) (L.getD (k+1) en0)=false):q4V L=false:=by
 cases hs:q4V L with
 |false=>rfl
 | true=>
  rw[q3W] at hs;have b:q1E (L.take (k+2)):=hs.sublist (List.take_sublist _ _);rw[<-q3W,q9G d,h,Bool.and_false] at b
  cases b
theorem z9j{ao:Option Addr}{cap:Nat}{L:List En}(w:World)(m:Ens w ao n cap L):Calls Tryz.prog 291 #[.slice ao n cap] w fun e w'=>e= .returned (.bool (q4V L))/\Ext w w':=by
 have G:=η m;have b1:=m.fits;have b2:=m.bound;have j:=η m.len;clear m;go_enter Tryz.func291,Tryz.ntmps291;go_wp2_with fail
 go_loopw [3] (fun i W=> ∃k:Nat,k+1<=max n 1/\i= .int .i64 ((k:Int)+1)/\q4V (L.take (k+1))=true/\Ext w W) (fun i _=>n-(intOf i).toNat)
 case atStart=>
  refine⟨0,by omega,rfl,?_,Ext.refl _⟩
  cases L with
  |nil=>rfl
  |cons a r=>rfl
 case round=>
  obtain⟨k,Y,rfl,C,B⟩:=hrel;have R:=η C;have D:=η B;by_cases u:k+1<n
  ·have U:decide (((k:Int)+1)<(n:Int))=true:=by simp;omega
   obtain⟨b,off,rfl,I,J,M⟩:=(G.o.ext B).at (i:=k) (by omega);obtain⟨_,_,S,N,O,Q⟩:=(G.o.ext B).at (i:=k+1) u
   cases S;have E:=η (q9G (L:=L) (k:=k) (by rw[j.o];exact u));have v:=η (z2r (L:=L) (k:=k) (by rw[j.o];exact u));obtain⟨x,m⟩: ∃x,L.getD k en0=x:=⟨_,rfl⟩
   obtain⟨y,F⟩: ∃y,L.getD (k+1) en0=y:=⟨_,rfl⟩
   rw[m] at I J M;rw[F] at N O Q;rw[m,F] at E v;obtain⟨q,hq⟩: ∃q,q0n x y=q:=⟨_,rfl⟩
   have l:=η (fun W=>z1F x y W);rw[hq] at l E v;obtain⟨x1,x2,x3⟩:=x;obtain⟨y1,y2,y3⟩:=y;unfold enV ec at l;have Z:=q0D I;have u1:=q0D J;have u2:=q0D M;have v0:=q0D N;have v1:=q0D O;have v2:=q0D Q;have V:IntKind.i64.wrap ((k:Int)+1-1)=(k:Int):=by rw[ν];omega
   have d:IntKind.i64.wrap (k:Int)=(k:Int):=by rw[ν];omega
   clear m F C B hq
   cases q with
   | true=>
    go_wp2_with fail;refine q0E (by kernel_rfl) (by kernel_rfl) ?_
    repeat (go_big_quiet_step (first|(go_at_call 216;exact Calls.quiet_ext (l.o _))))
    refine wpQuiet_nil ?_;intro X d;have s:=η (D.o.trans d);clear d;go_wp2_with fail
    go_roundw
    case rel=>exact⟨k+1,by omega,by go_num,by rw[E.o,R.o];rfl,s.o⟩
    case measure=>simp[intOf];omega
   | false=>
    go_wp2_with fail;refine q0E (by kernel_rfl) (by kernel_rfl) ?_
    repeat (go_big_quiet_step (first|(go_at_call 216;exact Calls.quiet_ext (l.o _))))
    refine wpQuiet_nil ?_;intro X d;have s:=η (D.o.trans d);clear d;go_wp2_with fail;go_ret;exact⟨rb (v.o (by first|rfl|trivial)),s.o⟩
  ·have U:decide (((k:Int)+1)<(n:Int))=false:=by simp;omega
   have v:Hd (q4V L=true):=η (by rwa [Δ (by rw[j.o];omega)] at C);clear C B;go_wp2_with fail;go_ret;exact⟨rb v.o,D.o⟩
def z2F :Nat->List (List UInt8)->List (List UInt8)
 |_,[]=>[]
 |b,p::r=>if p.length+12<=b then p::z2F (b-(p.length+12)) r else []
def z2g(r:List UInt8):Prop:=r=[]\/ ∃p:List UInt8,p.length<=2000/\r.length<p.length+12/\ ∃x,q2F p=r++x
theorem q9a : ∀(ps:List (List UInt8)) (b:Nat),∃d,ps=z2F b ps++d
 |[],_=>⟨[],rfl⟩
 | p ::r,b=>by
  rw[z2F]
  split
  ·obtain⟨d,h⟩:=q9a r (b-(p.length+12))
   exact⟨d,by rw[List.cons_append,<-h]⟩
  ·exact⟨p::r,rfl⟩
theorem z1e : ∀(ps:List (List UInt8)) (b:Nat),(∀p∈ps,p.length<=2000)-> ∃r,(q1y ps).take b=q1y (z2F b ps)++r/\z2g r
 |[],b,_=>⟨[],by simp[q1y,z2F],.inl rfl⟩
 | p ::t,b,h=>by
  have e:q1y (p::t)=q2F p++q1y t:=by simp[q1y]
  rw[z2F]
  split
  ·rename_i l
   obtain⟨r,d,j⟩:=z1e t (b-(p.length+12)) fun q hq=>h q (.tail _ hq)
   refine⟨r,?_,j⟩;rw[e,List.take_append,Δ (by rw[q0g];omega),q0g,d];simp[q1y]
  ·rename_i l
   refine⟨(q2F p).take b,?_,.inr ⟨p,h p (.head _),by rw[Θ,q0g];omega,(q2F p).drop b,(List.take_append_drop _ _).symm⟩⟩;rw[e,List.take_append_of_le_length (by rw[q0g];omega)];simp[q1y]
theorem z6i{pre:List UInt8}(h:z2g r)(m:a=pre.length):q5P (pre++r) a=none:=by
 rcases h with rfl|⟨p,s,q,x,o⟩
 ·exact q9q _ _ (by simp;omega)
 ·by_cases d:r.length<12
  ·exact q9q _ _ (by simp;omega)
  ·have b:q3t (pre++r) a=p.length:=by
    unfold q3t;rw[m,List.drop_left];have j:r.take 4=be 4 p.length:=by
     have l:(q2F p).take 4=r.take 4:=by rw[o,List.take_append_of_le_length (by omega)]
     rw[<-l];unfold q2F q1T;rw[List.append_assoc,List.append_assoc,List.take_left' (q0H 4 _)]
    rw[j,q4q];omega
   unfold q5P isR;rw[b,ε (p:=a+p.length+12<=(pre++r).length) (by rw[θ];omega)];simp
theorem q8i : ∀(ps:List (List UInt8)) (pre r:List UInt8) (f a:Nat),(∀p∈ps,p.length<=2000)->z2g r->a=pre.length->ps.length<f->q4S f (pre++q1y ps++r) a=q1W a ps
 |[],pre,r,0,a,_,_,_,hf=>by simp at hf
 | [],pre,r,f+1,a,_,hr,ha,_=>by
  unfold q4S;rw[show pre++q1y []++r=pre++r by simp[q1y],z6i hr ha]
  rfl
 |p::t,pre,r,0,a,_,_,_,hf=>by simp at hf
 | p::t,pre,r,f+1,a,hp,hr,ha,hf=>by
  have e:pre++q1y (p::t)++r=pre++q2F p++(q1y t++r):=by simp[q1y]
  have b:pre++q1y (p::t)++r=(pre++q2F p)++q1y t++r:=by simp[q1y]
  unfold q4S;rw[e,q9k pre p _ (hp p (List.mem_cons_self)) ha,<-e,b];show _::q4S f ((pre++q2F p)++q1y t++r) (a+p.length+12)=_;rw[q8i t (pre++q2F p) r f _ (fun q hq=>hp q (List.mem_cons_of_mem _ hq)) hr (by simp[q0g,ha];omega) (by simp at hf;omega)]
  rfl
theorem z5f(n:Nat)(ps:List (List UInt8))(b: ∀p∈ps,p.length<=2000)(d:z2g r):q0m (q0L n ps++r) 12=q1W 12 ps:=by
 unfold q0m;refine q8i ps (q1Y n) r _ 12 b d (q1b n).symm ?_;have:=z7l ps;rw[θ,q0V];unfold q0I;omega
theorem z8n(n:Nat)(ps:List (List UInt8))(b: ∀p∈ps,p.length<=2000)(d:z2g r):(q9e 12 (q0m (q0L n ps++r) 12):Int)=(q0I ps:Int):=by
 rw[z5f n ps b d,q5W];rfl
def q3k(E:Oth)(D:Cks)(t:List UInt8):List (List UInt8×List UInt8):=E.X++(q3P 0 D++((q0C 99 (D.length:Int),t)::E.Z))
theorem y1x(E:Oth)(D:Cks)(ps:List (List UInt8)):q2a E (D++[ps])=q3k E D (q0L D.length ps):=by
 unfold q2a q3k;rw[q2b,Nat.zero_add];simp[q3P]
theorem z2A(E:Oth)(D:Cks)(t:List UInt8):(q3k E D t).length=E.X.length+D.length+E.Z.length+1:=by simp[q3k,q3Q];omega
theorem z6D(E:Oth)(D:Cks)(t:List UInt8):q1X (q3k E D t)=q1V E+q0j D+t.length:=by
 unfold q3k q1V;rw[q0d,q0d,q3p,show((q0C 99 (D.length:Int),t)::E.Z)=[(q0C 99 (D.length:Int),t)]++E.Z from rfl,q0d,q6H];simp only;omega
theorem q7T{E:Oth}(b:okOth E){D:Cks}(l:D.length<=200)(t:List UInt8):q0F Prod.fst (q0C 99 (D.length:Int)) (q3k E D t)=some (q0C 99 (D.length:Int),t):=by
 unfold q3k;rw[q0Q (b.neX (by omega)),q0Q (q3e (by omega) (by omega) fun j _ d=>by omega)];unfold q0F;rw[List.find?_cons_of_pos (by simp)]
theorem z6C{E:Oth}(l:okOth E){D:Cks}(j:D.length<=200)(t:List UInt8)(d:D[k]? =some ps):q0F Prod.fst (q0C 99 (k:Int)) (q3k E D t)=some (q0C 99 (k:Int),q0L k ps):=by
 have m:k<D.length:=(List.getElem?_eq_some_iff.1 d).1;have b:=q7S j d;unfold q3k;rw[q0Q (l.neX (by omega))];unfold q0F at b⊢;rw[List.find?_append,b]
 rfl
theorem q9V{E:Oth}(m:okOth E){D:Cks}(l:D.length<=200)(t:List UInt8):q0F Prod.fst [110,101,119] (q3k E D t)=none:=by
 have h:=z3P m (C:=D) l;have d:=q0r h;refine q0S fun y j=>?_
 unfold q3k at j;unfold q2a at d;rcases List.mem_append.1 j with b|b
 ·exact d y (List.mem_append.2 (.inl b))
 rcases List.mem_append.1 b with b|b
 ·exact d y (List.mem_append.2 (.inr (List.mem_append.2 (.inl b))))
 rcases List.mem_cons.1 b with rfl|b
 ·intro e
  have e:q0C 99 (D.length:Int)=[110,101,119]:=e;rw[q0U (by omega)] at e;exact absurd (List.cons.inj e).1 (by decide)
 ·exact d y (List.mem_append.2 (.inr (List.mem_append.2 (.inr b))))
theorem q8e(E:Oth)(D:Cks)(t:List UInt8):(q3k E D t).map Prod.fst=E.X.map Prod.fst++((List.range (D.length+1)).map (fun k:Nat=>q0C 99 (k:Int))++E.Z.map Prod.fst):=by
 unfold q3k;rw[List.map_append,List.map_append,q6P,List.map_cons,List.range_succ,List.map_append,List.range_eq_range'];simp
end
end Go.Proofs.YtfiibpgoplcgkaaGreatDoor
