/- Plain laws on names of files. -/
import Derived.Test.YtfiibpgoplcgkaaGreatDoorG2WN
import Derived.WalkLawsBesides
import Derived.Lib.SlTrimSet
set_option linter.unusedVariables false
set_option linter.unusedSimpArgs false
set_option maxRecDepth 100000
set_option maxHeartbeats 200000
namespace Go.Proofs.YtfiibpgoplcgkaaGreatDoor
variable {c:UInt8}{n:Int}
open Go.RowKit
def q4y :Nat->Nat->List UInt8
 |0,_=>[]
 |k+1,n=>UInt8.ofNat (48+n/10^k % 10)::q4y k n
theorem q0W(k n:Nat):(q4y k n).length=k:=by
 induction k with
 |zero=>rfl
 |succ k ih=>simp[q4y,ih]
def q0C(c:UInt8)(n:Int):List UInt8:=if 0<=n/\n<=999999 then c::q4y 6 n.toNat else []
theorem q6k(h:¬(0<=n/\n<=999999)):q0C c n=[]:=by unfold q0C;rw[κ h]
theorem q0T(h:0<=n/\n<=999999):q0C c n=c::q4y 6 n.toNat:=by unfold q0C;rw[ξ h]
def q2I(b:UInt8):Bool:=decide (48<=b.toNat)&&decide (b.toNat<=57)
def unD(l:List UInt8):Nat:=l.foldl (fun a b=>a*10+(b.toNat-48)) 0
def q1y(c:UInt8):Bool:=c==99||c==116||c==98
def q1A(s:List UInt8):UInt8×Nat×Bool:=
 if s.length=7/\q1y (s.getD 0 0)=true/\(s.drop 1).all q2I=true then(s.getD 0 0,unD (s.drop 1),true) else(0,0,false)
theorem q7a{s:List UInt8}(h:¬(s.length=7/\q1y (s.getD 0 0)=true/\(s.drop 1).all q2I=true)):q1A s=(0,0,false):=by unfold q1A;rw[κ h]
theorem q8a{s:List UInt8}(h:s.length=7/\q1y (s.getD 0 0)=true/\(s.drop 1).all q2I=true):q1A s=(s.getD 0 0,unD (s.drop 1),true):=by unfold q1A;rw[ξ h]
theorem z8m(l:List UInt8)(b:UInt8):unD (l++[b])=unD l*10+(b.toNat-48):=by unfold unD;rw[List.foldl_append];rfl
theorem z6x(l:List UInt8): ∀a,l.foldl (fun a b=>a*10+(b.toNat-48)) a=a*10^l.length+unD l:=by
 induction l with
 |nil=>intro a;simp[unD]
 | cons b l ih=>
  intro a;have h2:unD (b::l)=(0*10+(b.toNat-48))*10^l.length+unD l:=by
   unfold unD;rw[List.foldl_cons];exact ih _
  rw[List.foldl_cons,ih,h2,χ,Nat.pow_succ,Nat.add_mul,Nat.zero_mul,Nat.zero_add,Nat.mul_assoc,Nat.mul_comm 10,Nat.add_assoc]
theorem z3b(b:UInt8)(l:List UInt8):unD (b::l)=(b.toNat-48)*10^l.length+unD l:=by
 unfold unD;rw[List.foldl_cons,z6x];simp[unD]
theorem q5W(x:Nat):(UInt8.ofNat (48+x % 10)).toNat=48+x % 10:=by
 rw[UInt8.toNat_ofNat'];omega
theorem q9l(k n:Nat):unD (q4y k n)=n % 10^k:=by
 induction k with
 |zero=>simp[q4y,unD,Nat.mod_one]
 | succ k ih=>
  rw[q4y,z3b,q0W,ih,q5W,Nat.pow_succ,Nat.mod_mul,Nat.add_sub_cancel_left,Nat.mul_comm,Nat.add_comm]
theorem z7d(k n:Nat):(q4y k n).all q2I=true:=by
 induction k with
 |zero=>rfl
 | succ k ih=>
  rw[q4y,List.all_cons,ih,Bool.and_true];unfold q2I;rw[q5W,Ξ,decide_eq_true_iff,decide_eq_true_iff];omega
theorem y1i(l:List UInt8)(h:l.all q2I=true):unD l<10^l.length:=by
 induction l with
 |nil=>simp[unD]
 | cons b l ih=>
  rw[List.all_cons,Ξ] at h;have h2:=ih h.2;have d:b.toNat-48<=9:=by
   have:=h.1;unfold q2I at this;rw[Ξ,decide_eq_true_iff,decide_eq_true_iff] at this;omega
  rw[z3b,χ,Nat.pow_succ];have h3:(b.toNat-48)*10^l.length<=9*10^l.length:=Nat.mul_le_mul_right _ d;omega
theorem z2h(k n m:Nat):q4y k (m*10^k+n)=q4y k n:=by
 induction k generalizing m with
 |zero=>rfl
 | succ k ih=>
  have e:m*10^(k+1)+n=m*10*10^k+n:=by rw[Nat.pow_succ,Nat.mul_assoc,Nat.mul_comm 10 (10^k)]
  rw[e,q4y,q4y,ih]
  congr 2
  have b:0<10^k:=Nat.pow_pos (by decide);rw[Nat.add_comm (m*10*10^k) n,Nat.add_mul_div_right _ _ b];omega
theorem q1d(hc:q1y c=true)(h:0<=n/\n<=999999):q1A (q0C c n)=(c,n.toNat,true):=by
 rw[q0T h,q8a (s:=c::q4y 6 n.toNat) ⟨by rw[χ,q0W],by simpa using hc,by simpa using z7d 6 n.toNat⟩];have e:(c::q4y 6 n.toNat).drop 1=q4y 6 n.toNat:=rfl;rw[e,q9l,Nat.mod_eq_of_lt (by omega)]
 rfl
theorem q7w(k m n:Nat)(hm:m<10^k)(v:n<10^k):Op.bytesLess (q4y k m) (q4y k n)=decide (m<n):=by
 induction k generalizing m n with
 | zero=>
  have:m=0:=by omega
  have:n=0:=by omega
  subst m n
  rfl
 | succ k ih=>
  have l:0<10^k:=Nat.pow_pos (by decide);rw[Nat.pow_succ] at hm v;have o:m/10^k<10:=Nat.div_lt_of_lt_mul (by rw[Nat.mul_comm];omega);have q:n/10^k<10:=Nat.div_lt_of_lt_mul (by rw[Nat.mul_comm];omega);have s:q4y k m=q4y k (m % 10^k):=by
   conv=>lhs;rw[<-Nat.div_add_mod m (10^k),Nat.mul_comm]
   exact z2h k _ _
  have en:q4y k n=q4y k (n % 10^k):=by
   conv=>lhs;rw[<-Nat.div_add_mod n (10^k),Nat.mul_comm]
   exact z2h k _ _
  have r:=Nat.div_add_mod m (10^k);have C:=Nat.div_add_mod n (10^k);have y:=Nat.mod_lt m l;have B:=Nat.mod_lt n l;rw[q4y,q4y,s,en];unfold Op.bytesLess;rw[ih _ _ y B];have i: ∀x:Nat,x<10->(UInt8.ofNat (48+x % 10)).toNat=48+x:=fun x D=>by rw[q5W];omega
  have d:(UInt8.ofNat (48+m/10^k % 10)<UInt8.ofNat (48+n/10^k % 10))↔m/10^k<n/10^k:=by
   rw[UInt8.lt_iff_toNat_lt,i _ o,i _ q];omega
  have b:(UInt8.ofNat (48+m/10^k % 10)=UInt8.ofNat (48+n/10^k % 10))↔m/10^k=n/10^k:=by
   rw[<-UInt8.toNat_inj,i _ o,i _ q];omega
  by_cases h1:m/10^k<n/10^k
  ·rw[ζ (d.2 h1),Bool.true_or,eq_comm,decide_eq_true_iff]
   have:10^k*(m/10^k+1)<=10^k*(n/10^k):=Nat.mul_le_mul_left _ h1;rw[Nat.mul_add,Nat.mul_one] at this;omega
  ·rw [ε (fun j=>h1 (d.1 j)),Bool.false_or]
   by_cases h2:m/10^k=n/10^k
   ·rw[beq_iff_eq.2 (b.2 h2),Bool.true_and]
    rw[h2] at r;rw[Bool.eq_iff_iff,decide_eq_true_iff,decide_eq_true_iff];omega
   ·have u:(UInt8.ofNat (48+m/10^k % 10)==UInt8.ofNat (48+n/10^k % 10))=false:=beq_eq_false_iff_ne.2 fun j=>h2 (b.1 j)
    rw[u,Bool.false_and,eq_comm,decide_eq_false_iff_not];have:10^k*(n/10^k+1)<=10^k*(m/10^k):=Nat.mul_le_mul_left _ (by omega);rw[Nat.mul_add,Nat.mul_one] at this;omega
theorem z4S(c:UInt8)(m n:Int)(hm:0<=m/\m<=999999)(b:0<=n/\n<=999999):Op.bytesLess (q0C c m) (q0C c n)=decide (m<n):=by
 rw[q0T hm,q0T b];unfold Op.bytesLess;have h1:decide (c<c)=false:=ε (UInt8.lt_irrefl c);rw[h1,Bool.false_or,beq_self_eq_true,Bool.true_and,q7w 6 _ _ (by omega) (by omega),Bool.eq_iff_iff,decide_eq_true_iff,decide_eq_true_iff];omega
theorem z8P(c:UInt8)(m n:Int)(hm:0<=m/\m<=999999)(b:0<=n/\n<=999999):(q0C c m==q0C c n)=decide (m=n):=by
 rw[Bool.eq_iff_iff,beq_iff_eq,decide_eq_true_iff]
 constructor
 ·intro h
  rw[q0T hm,q0T b] at h;have h2:=congrArg unD (List.cons.inj h).2;rw[q9l,q9l,Nat.mod_eq_of_lt (by omega),Nat.mod_eq_of_lt (by omega)] at h2;omega
 ·rintro rfl;rfl
theorem z3z(b:UInt8):([48,49,50,51,52,53,54,55,56,57]:List UInt8).contains b=q2I b:=by
 have h: ∀i:Fin 256,([48,49,50,51,52,53,54,55,56,57]:List UInt8).contains (UInt8.ofNat i.val)=q2I (UInt8.ofNat i.val):=by decide+kernel
 have:=h ⟨b.toNat,b.toNat_lt⟩
 simpa using this
theorem q3s{b:Type}(p:b->Bool)(l:List b):l.dropWhile p=[]↔l.all p=true:=by
 induction l with
 |nil=>simp
 | cons a l ih=>
  rw[List.dropWhile_cons,List.all_cons]
  cases h:p a
  ·simp
  ·simp[ih]
theorem z2P(l:List UInt8):(Lib.trimS l [48,49,50,51,52,53,54,55,56,57]=[])↔l.all q2I=true:=by
 unfold Lib.trimS Lib.trimLeftS Lib.trimRightS;rw[q3s];have e:(fun x=>([48,49,50,51,52,53,54,55,56,57]:List UInt8).contains x)=q2I:=funext z3z;rw[e,List.all_reverse]
 constructor
 ·intro h
  by_cases b:l.reverse.dropWhile q2I=[]
  ·rw[q3s,List.all_reverse] at b;exact b
  ·exfalso
   have h2:=List.head_dropWhile_not q2I b;have h3:=List.all_eq_true.1 h _ (List.head_mem b);rw[h3] at h2;cases h2
 ·intro h
  have:l.reverse.dropWhile q2I=[]:=by rw[q3s,List.all_reverse];exact h
  rw[this];rfl
end Go.Proofs.YtfiibpgoplcgkaaGreatDoor
