/- Plain laws on names of files. -/
import Derived.Test.YthdekbmdkpcooaaGreatDoorG2CT
import Derived.WalkLawsBesides
import Derived.Lib.SlTrimSet
set_option linter.unusedVariables false
set_option linter.unusedSimpArgs false
set_option maxRecDepth 100000
set_option maxHeartbeats 200000
namespace Go.Proofs.YthdekbmdkpcooaaGreatDoor
open Go.RowKit
def q4n :Nat→Nat→List UInt8
 |0,_=>[]
 |k+1,n=>UInt8.ofNat (48+n/10^k % 10)::q4n k n
theorem q0f (k n:Nat):(q4n k n).length=k:=by
 induction k with
 |zero=>rfl
 |succ k ih=>simp[q4n,ih]
def q0G (c:UInt8) (n:Int):List UInt8:=if 0≤n∧n≤999999 then c::q4n 6 n.toNat else []
theorem q6U {c:UInt8} {n:Int} (h:¬(0≤n∧n≤999999)):q0G c n=[]:=by unfold q0G;rw[if_neg h]
theorem q0X {c:UInt8} {n:Int} (h:0≤n∧n≤999999):q0G c n=c::q4n 6 n.toNat:=by unfold q0G;rw[if_pos h]
def q0U (b:UInt8):Bool:=decide (48≤b.toNat)&&decide (b.toNat≤57)
def unD (l:List UInt8):Nat:=l.foldl (fun a b=>a*10+(b.toNat-48)) 0
def q1s (c:UInt8):Bool:=c==99||c==116||c==98
def q0w (s:List UInt8):UInt8×Nat×Bool:=
 if s.length=7∧q1s (s.getD 0 0)=true∧(s.drop 1).all q0U=true then (s.getD 0 0,unD (s.drop 1),true) else (0,0,false)
theorem q7D {s:List UInt8} (h:¬(s.length=7∧q1s (s.getD 0 0)=true∧(s.drop 1).all q0U=true)):q0w s=(0,0,false):=by unfold q0w;rw[if_neg h]
theorem q8N {s:List UInt8} (h:s.length=7∧q1s (s.getD 0 0)=true∧(s.drop 1).all q0U=true):q0w s=(s.getD 0 0,unD (s.drop 1),true):=by unfold q0w;rw[if_pos h]
theorem q9E (l:List UInt8) (b:UInt8):unD (l++[b])=unD l*10+(b.toNat-48):=by unfold unD;rw[List.foldl_append];rfl
theorem z5G (l:List UInt8): ∀a,l.foldl (fun a b=>a*10+(b.toNat-48)) a=a*10^l.length+unD l:=by
 induction l with
 |nil=>intro a;simp[unD]
 | cons b l ih=>
  intro a;have h2:unD (b::l)=(0*10+(b.toNat-48))*10^l.length+unD l:=by
   unfold unD;rw[List.foldl_cons];exact ih _
  rw[List.foldl_cons,ih,h2,List.length_cons,Nat.pow_succ,Nat.add_mul,Nat.zero_mul,Nat.zero_add,Nat.mul_assoc,Nat.mul_comm 10,Nat.add_assoc]
theorem q6N (b:UInt8) (l:List UInt8):unD (b::l)=(b.toNat-48)*10^l.length+unD l:=by
 unfold unD;rw[List.foldl_cons,z5G];simp[unD]
theorem q4L (x:Nat):(UInt8.ofNat (48+x % 10)).toNat=48+x % 10:=by
 rw[UInt8.toNat_ofNat'];omega
theorem q9P (k n:Nat):unD (q4n k n)=n % 10^k:=by
 induction k with
 |zero=>simp[q4n,unD,Nat.mod_one]
 | succ k ih=>
  rw[q4n,q6N,q0f,ih,q4L,Nat.pow_succ,Nat.mod_mul,Nat.add_sub_cancel_left,Nat.mul_comm,Nat.add_comm]
theorem z7h (k n:Nat):(q4n k n).all q0U=true:=by
 induction k with
 |zero=>rfl
 | succ k ih=>
  rw[q4n,List.all_cons,ih,Bool.and_true];unfold q0U;rw[q4L,Bool.and_eq_true,decide_eq_true_iff,decide_eq_true_iff];omega
theorem z0D (l:List UInt8) (h:l.all q0U=true):unD l<10^l.length:=by
 induction l with
 |nil=>simp[unD]
 | cons b l ih=>
  rw[List.all_cons,Bool.and_eq_true] at h;have h2:=ih h.2;have hb:b.toNat-48≤9:=by
   have:=h.1;unfold q0U at this;rw[Bool.and_eq_true,decide_eq_true_iff,decide_eq_true_iff] at this;omega
  rw[q6N,List.length_cons,Nat.pow_succ];have h3:(b.toNat-48)*10^l.length≤9*10^l.length:=Nat.mul_le_mul_right _ hb;omega
theorem z2E (k n m:Nat):q4n k (m*10^k+n)=q4n k n:=by
 induction k generalizing m with
 |zero=>rfl
 | succ k ih=>
  have e:m*10^(k+1)+n=m*10*10^k+n:=by rw[Nat.pow_succ,Nat.mul_assoc,Nat.mul_comm 10 (10^k)]
  rw[e,q4n,q4n,ih]
  congr 2
  have hp:0<10^k:=Nat.pow_pos (by decide);rw[Nat.add_comm (m*10*10^k) n,Nat.add_mul_div_right _ _ hp];omega
theorem q1u {c:UInt8} {n:Int} (hc:q1s c=true) (h:0≤n∧n≤999999):q0w (q0G c n)=(c,n.toNat,true):=by
 rw[q0X h,q8N (s:=c::q4n 6 n.toNat) ⟨by rw[List.length_cons,q0f],by simpa using hc,by simpa using z7h 6 n.toNat⟩];have e:(c::q4n 6 n.toNat).drop 1=q4n 6 n.toNat:=rfl;rw[e,q9P,Nat.mod_eq_of_lt (by omega)]
 rfl
theorem q7h (k m n:Nat) (hm:m<10^k) (hn:n<10^k):Op.bytesLess (q4n k m) (q4n k n)=decide (m<n):=by
 induction k generalizing m n with
 | zero=>
  have:m=0:=by omega
  have:n=0:=by omega
  subst m n
  rfl
 | succ k ih=>
  have hp:0<10^k:=Nat.pow_pos (by decide);rw[Nat.pow_succ] at hm hn;have qm:m/10^k<10:=Nat.div_lt_of_lt_mul (by rw[Nat.mul_comm];omega);have qn:n/10^k<10:=Nat.div_lt_of_lt_mul (by rw[Nat.mul_comm];omega);have em:q4n k m=q4n k (m % 10^k):=by
   conv=>lhs;rw[←Nat.div_add_mod m (10^k),Nat.mul_comm]
   exact z2E k _ _
  have en:q4n k n=q4n k (n % 10^k):=by
   conv=>lhs;rw[←Nat.div_add_mod n (10^k),Nat.mul_comm]
   exact z2E k _ _
  have dm:=Nat.div_add_mod m (10^k);have dn:=Nat.div_add_mod n (10^k);have lm:=Nat.mod_lt m hp;have ln:=Nat.mod_lt n hp;rw[q4n,q4n,em,en];unfold Op.bytesLess;rw[ih _ _ lm ln];have e1: ∀x:Nat,x<10→(UInt8.ofNat (48+x % 10)).toNat=48+x:=fun x hx=>by rw[q4L];omega
  have hlt:(UInt8.ofNat (48+m/10^k % 10)<UInt8.ofNat (48+n/10^k % 10))↔m/10^k<n/10^k:=by
   rw[UInt8.lt_iff_toNat_lt,e1 _ qm,e1 _ qn];omega
  have heq:(UInt8.ofNat (48+m/10^k % 10)=UInt8.ofNat (48+n/10^k % 10))↔m/10^k=n/10^k:=by
   rw[←UInt8.toNat_inj,e1 _ qm,e1 _ qn];omega
  by_cases h1:m/10^k<n/10^k
  ·rw[decide_eq_true (hlt.2 h1),Bool.true_or,eq_comm,decide_eq_true_iff]
   have:10^k*(m/10^k+1)≤10^k*(n/10^k):=Nat.mul_le_mul_left _ h1;rw[Nat.mul_add,Nat.mul_one] at this;omega
  ·rw [decide_eq_false (fun hh=>h1 (hlt.1 hh)),Bool.false_or]
   by_cases h2:m/10^k=n/10^k
   ·rw[beq_iff_eq.2 (heq.2 h2),Bool.true_and]
    rw[h2] at dm;rw[Bool.eq_iff_iff,decide_eq_true_iff,decide_eq_true_iff];omega
   ·have hb:(UInt8.ofNat (48+m/10^k % 10)==UInt8.ofNat (48+n/10^k % 10))=false:=beq_eq_false_iff_ne.2 fun hh=>h2 (heq.1 hh)
    rw[hb,Bool.false_and,eq_comm,decide_eq_false_iff_not];have:10^k*(n/10^k+1)≤10^k*(m/10^k):=Nat.mul_le_mul_left _ (by omega);rw[Nat.mul_add,Nat.mul_one] at this;omega
theorem z3j (c:UInt8) (m n:Int) (hm:0≤m∧m≤999999) (hn:0≤n∧n≤999999):Op.bytesLess (q0G c m) (q0G c n)=decide (m<n):=by
 rw[q0X hm,q0X hn];unfold Op.bytesLess;have h1:decide (c<c)=false:=decide_eq_false (UInt8.lt_irrefl c);rw[h1,Bool.false_or,beq_self_eq_true,Bool.true_and,q7h 6 _ _ (by omega) (by omega),Bool.eq_iff_iff,decide_eq_true_iff,decide_eq_true_iff];omega
theorem z6g (c:UInt8) (m n:Int) (hm:0≤m∧m≤999999) (hn:0≤n∧n≤999999):(q0G c m==q0G c n)=decide (m=n):=by
 rw[Bool.eq_iff_iff,beq_iff_eq,decide_eq_true_iff]
 constructor
 ·intro h
  rw[q0X hm,q0X hn] at h;have h2:=congrArg unD (List.cons.inj h).2;rw[q9P,q9P,Nat.mod_eq_of_lt (by omega),Nat.mod_eq_of_lt (by omega)] at h2;omega
 ·rintro rfl;rfl
theorem z3w (b:UInt8):([48,49,50,51,52,53,54,55,56,57]:List UInt8).contains b=q0U b:=by
 have h: ∀i:Fin 256,([48,49,50,51,52,53,54,55,56,57]:List UInt8).contains (UInt8.ofNat i.val)=q0U (UInt8.ofNat i.val):=by decide+kernel
 have:=h ⟨b.toNat,b.toNat_lt⟩
 simpa using this
theorem q3k {α:Type} (p:α→Bool) (l:List α):l.dropWhile p=[]↔l.all p=true:=by
 induction l with
 |nil=>simp
 | cons a l ih=>
  rw[List.dropWhile_cons,List.all_cons]
  cases h:p a
  ·simp
  ·simp[ih]
theorem z1X (l:List UInt8):(Lib.trimS l [48,49,50,51,52,53,54,55,56,57]=[])↔l.all q0U=true:=by
 unfold Lib.trimS Lib.trimLeftS Lib.trimRightS;rw[q3k];have e:(fun x=>([48,49,50,51,52,53,54,55,56,57]:List UInt8).contains x)=q0U:=funext z3w;rw[e,List.all_reverse]
 constructor
 ·intro h
  by_cases hn:l.reverse.dropWhile q0U=[]
  ·rw[q3k,List.all_reverse] at hn;exact hn
  ·exfalso
   have h2:=List.head_dropWhile_not q0U hn;have h3:=List.all_eq_true.1 h _ (List.head_mem hn);rw[h3] at h2;cases h2
 ·intro h
  have:l.reverse.dropWhile q0U=[]:=by rw[q3k,List.all_reverse];exact h
  rw[this];rfl
end Go.Proofs.YthdekbmdkpcooaaGreatDoor
