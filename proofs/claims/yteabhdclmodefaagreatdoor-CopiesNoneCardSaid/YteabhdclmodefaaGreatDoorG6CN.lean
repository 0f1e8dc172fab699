/- Plain laws on names of files. -/
import Derived.Test.YteabhdclmodefaaGreatDoorG2CN
import Derived.WalkLawsBesides
import Derived.Lib.SlTrimSet
set_option linter.unusedVariables false
set_option linter.unusedSimpArgs false
set_option maxRecDepth 100000
set_option maxHeartbeats 200000
namespace Go.Proofs.YteabhdclmodefaaGreatDoor
variable {c:UInt8}{n:Int}
open Go.RowKit
def q4Y :Nat->Nat->List UInt8
 |0,_=>[]
 |k+1,n=>UInt8.ofNat (48+n/10^k % 10)::q4Y k n
theorem q0a(k n:Nat):(q4Y k n).length=k:=by
 induction k with
 |zero=>rfl
 |succ k ih=>simp[q4Y,ih]
def q0E(c:UInt8)(n:Int):List UInt8:=if 0<=n/\n<=999999 then c::q4Y 6 n.toNat else []
theorem q6H(h:¬(0<=n/\n<=999999)):q0E c n=[]:=by unfold q0E;rw[κ h]
theorem q0U(h:0<=n/\n<=999999):q0E c n=c::q4Y 6 n.toNat:=by unfold q0E;rw[ξ h]
def q1r(b:UInt8):Bool:=decide (48<=b.toNat)&&decide (b.toNat<=57)
def unD(l:List UInt8):Nat:=l.foldl (fun a b=>a*10+(b.toNat-48)) 0
def q1p(c:UInt8):Bool:=c==99||c==116||c==98
def q0u(s:List UInt8):UInt8×Nat×Bool:=
 if s.length=7/\q1p (s.getD 0 0)=true/\(s.drop 1).all q1r=true then(s.getD 0 0,unD (s.drop 1),true) else(0,0,false)
theorem q6y{s:List UInt8}(h:¬(s.length=7/\q1p (s.getD 0 0)=true/\(s.drop 1).all q1r=true)):q0u s=(0,0,false):=by unfold q0u;rw[κ h]
theorem q7z{s:List UInt8}(h:s.length=7/\q1p (s.getD 0 0)=true/\(s.drop 1).all q1r=true):q0u s=(s.getD 0 0,unD (s.drop 1),true):=by unfold q0u;rw[ξ h]
theorem z7d(l:List UInt8)(b:UInt8):unD (l++[b])=unD l*10+(b.toNat-48):=by unfold unD;rw[List.foldl_append];rfl
theorem z5p(l:List UInt8): ∀a,l.foldl (fun a b=>a*10+(b.toNat-48)) a=a*10^l.length+unD l:=by
 induction l with
 |nil=>intro a;simp[unD]
 | cons b l ih=>
  intro a;have h2:unD (b::l)=(0*10+(b.toNat-48))*10^l.length+unD l:=by
   unfold unD;rw[List.foldl_cons];exact ih _
  rw[List.foldl_cons,ih,h2,χ,Nat.pow_succ,Nat.add_mul,Nat.zero_mul,Nat.zero_add,Nat.mul_assoc,Nat.mul_comm 10,Nat.add_assoc]
theorem z2s(b:UInt8)(l:List UInt8):unD (b::l)=(b.toNat-48)*10^l.length+unD l:=by
 unfold unD;rw[List.foldl_cons,z5p];simp[unD]
theorem q4w(x:Nat):(UInt8.ofNat (48+x % 10)).toNat=48+x % 10:=by
 rw[UInt8.toNat_ofNat'];omega
theorem q9G(k n:Nat):unD (q4Y k n)=n % 10^k:=by
 induction k with
 |zero=>simp[q4Y,unD,Nat.mod_one]
 | succ k ih=>
  rw[q4Y,z2s,q0a,ih,q4w,Nat.pow_succ,Nat.mod_mul,Nat.add_sub_cancel_left,Nat.mul_comm,Nat.add_comm]
theorem z6Y(k n:Nat):(q4Y k n).all q1r=true:=by
 induction k with
 |zero=>rfl
 | succ k ih=>
  rw[q4Y,List.all_cons,ih,Bool.and_true];unfold q1r;rw[q4w,Ξ,decide_eq_true_iff,decide_eq_true_iff];omega
theorem y0L(l:List UInt8)(h:l.all q1r=true):unD l<10^l.length:=by
 induction l with
 |nil=>simp[unD]
 | cons b l ih=>
  rw[List.all_cons,Ξ] at h;have h2:=ih h.2;have d:b.toNat-48<=9:=by
   have:=h.1;unfold q1r at this;rw[Ξ,decide_eq_true_iff,decide_eq_true_iff] at this;omega
  rw[z2s,χ,Nat.pow_succ];have h3:(b.toNat-48)*10^l.length<=9*10^l.length:=Nat.mul_le_mul_right _ d;omega
theorem z1y(k n m:Nat):q4Y k (m*10^k+n)=q4Y k n:=by
 induction k generalizing m with
 |zero=>rfl
 | succ k ih=>
  have e:m*10^(k+1)+n=m*10*10^k+n:=by rw[Nat.pow_succ,Nat.mul_assoc,Nat.mul_comm 10 (10^k)]
  rw[e,q4Y,q4Y,ih]
  congr 2
  have b:0<10^k:=Nat.pow_pos (by decide);rw[Nat.add_comm (m*10*10^k) n,Nat.add_mul_div_right _ _ b];omega
theorem q1t(hc:q1p c=true)(h:0<=n/\n<=999999):q0u (q0E c n)=(c,n.toNat,true):=by
 rw[q0U h,q7z (s:=c::q4Y 6 n.toNat) ⟨by rw[χ,q0a],by simpa using hc,by simpa using z6Y 6 n.toNat⟩];have e:(c::q4Y 6 n.toNat).drop 1=q4Y 6 n.toNat:=rfl;rw[e,q9G,Nat.mod_eq_of_lt (by omega)]
 rfl
theorem q7X(k m n:Nat)(hm:m<10^k)(v:n<10^k):Op.bytesLess (q4Y k m) (q4Y k n)=decide (m<n):=by
 induction k generalizing m n with
 | zero=>
  have:m=0:=by omega
  have:n=0:=by omega
  subst m n
  rfl
 | succ k ih=>
  have l:0<10^k:=Nat.pow_pos (by decide);rw[Nat.pow_succ] at hm v;have o:m/10^k<10:=Nat.div_lt_of_lt_mul (by rw[Nat.mul_comm];omega);have q:n/10^k<10:=Nat.div_lt_of_lt_mul (by rw[Nat.mul_comm];omega);have s:q4Y k m=q4Y k (m % 10^k):=by
   conv=>lhs;rw[<-Nat.div_add_mod m (10^k),Nat.mul_comm]
   exact z1y k _ _
  have en:q4Y k n=q4Y k (n % 10^k):=by
   conv=>lhs;rw[<-Nat.div_add_mod n (10^k),Nat.mul_comm]
   exact z1y k _ _
  have r:=Nat.div_add_mod m (10^k);have C:=Nat.div_add_mod n (10^k);have y:=Nat.mod_lt m l;have B:=Nat.mod_lt n l;rw[q4Y,q4Y,s,en];unfold Op.bytesLess;rw[ih _ _ y B];have i: ∀x:Nat,x<10->(UInt8.ofNat (48+x % 10)).toNat=48+x:=fun x D=>by rw[q4w];omega
  have d:(UInt8.ofNat (48+m/10^k % 10)<UInt8.ofNat (48+n/10^k % 10))↔m/10^k<n/10^k:=by
   rw[UInt8.lt_iff_toNat_lt,i _ o,i _ q];omega
  have b:(UInt8.ofNat (48+m/10^k % 10)=UInt8.ofNat (48+n/10^k % 10))↔m/10^k=n/10^k:=by
   rw[<-UInt8.toNat_inj,i _ o,i _ q];omega
  by_cases h1:m/10^k<n/10^k
  ·rw[ζ (d.2 h1),Bool.true_or,eq_comm,decide_eq_true_iff]
   have:10^k*(m/10^k+1)<=10^k*(n/10^k):=Nat.mul_le_mul_left _ h1;rw[Nat.mul_add,Nat.mul_one] at this;omega
  ·rw [ε (fun j=>h1 (d.1 j)),Bool.false_or]
   by_cases h2:m/10^k=n/10^k
   ·rw[beq_iff_eq.2 (b.2 h2),Bool.true_and]
    rw[h2] at r;rw[Bool.eq_iff_iff,decide_eq_true_iff,decide_eq_true_iff];omega
   ·have u:(UInt8.ofNat (48+m/10^k % 10)==UInt8.ofNat (48+n/10^k % 10))=false:=beq_eq_false_iff_ne.2 fun j=>h2 (b.1 j)
    rw[u,Bool.false_and,eq_comm,decide_eq_false_iff_not];have:10^k*(n/10^k+1)<=10^k*(m/10^k):=Nat.mul_le_mul_left _ (by omega);rw[Nat.mul_add,Nat.mul_one] at this;omega
theorem z3Y(c:UInt8)(m n:Int)(hm:0<=m/\m<=999999)(b:0<=n/\n<=999999):Op.bytesLess (q0E c m) (q0E c n)=decide (m<n):=by
 rw[q0U hm,q0U b];unfold Op.bytesLess;have h1:decide (c<c)=false:=ε (UInt8.lt_irrefl c);rw[h1,Bool.false_or,beq_self_eq_true,Bool.true_and,q7X 6 _ _ (by omega) (by omega),Bool.eq_iff_iff,decide_eq_true_iff,decide_eq_true_iff];omega
theorem z7F(c:UInt8)(m n:Int)(hm:0<=m/\m<=999999)(b:0<=n/\n<=999999):(q0E c m==q0E c n)=decide (m=n):=by
 rw[Bool.eq_iff_iff,beq_iff_eq,decide_eq_true_iff]
 constructor
 ·intro h
  rw[q0U hm,q0U b] at h;have h2:=congrArg unD (List.cons.inj h).2;rw[q9G,q9G,Nat.mod_eq_of_lt (by omega),Nat.mod_eq_of_lt (by omega)] at h2;omega
 ·rintro rfl;rfl
theorem z3J(b:UInt8):([48,49,50,51,52,53,54,55,56,57]:List UInt8).contains b=q1r b:=by
 have h: ∀i:Fin 256,([48,49,50,51,52,53,54,55,56,57]:List UInt8).contains (UInt8.ofNat i.val)=q1r (UInt8.ofNat i.val):=by decide+kernel
 have:=h ⟨b.toNat,b.toNat_lt⟩
 simpa using this
theorem q3W{b:Type}(p:b->Bool)(l:List b):l.dropWhile p=[]↔l.all p=true:=by
 induction l with
 |nil=>simp
 | cons a l ih=>
  rw[List.dropWhile_cons,List.all_cons]
  cases h:p a
  ·simp
  ·simp[ih]
theorem z1d(l:List UInt8):(Lib.trimS l [48,49,50,51,52,53,54,55,56,57]=[])↔l.all q1r=true:=by
 unfold Lib.trimS Lib.trimLeftS Lib.trimRightS;rw[q3W];have e:(fun x=>([48,49,50,51,52,53,54,55,56,57]:List UInt8).contains x)=q1r:=funext z3J;rw[e,List.all_reverse]
 constructor
 ·intro h
  by_cases b:l.reverse.dropWhile q1r=[]
  ·rw[q3W,List.all_reverse] at b;exact b
  ·exfalso
   have h2:=List.head_dropWhile_not q1r b;have h3:=List.all_eq_true.1 h _ (List.head_mem b);rw[h3] at h2;cases h2
 ·intro h
  have:l.reverse.dropWhile q1r=[]:=by rw[q3W,List.all_reverse];exact h
  rw[this];rfl
end Go.Proofs.YteabhdclmodefaaGreatDoor
