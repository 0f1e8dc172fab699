/- What comes in, read. -/
import Derived.Test.YteabhdclmodefaaGreatDoorG1CT
import Derived.ProofKit
import Derived.Deep.Matrix
import Derived.OpenShut
import Derived.Laws.IdiomStrings
import Derived.WalkLawsBesides
import Derived.Lib.SlTrimSet
set_option linter.unusedVariables false
set_option linter.unusedSimpArgs false
set_option maxRecDepth 100000
set_option maxHeartbeats 200000
namespace Go.Proofs.YteabhdclmodefaaGreatDoor
variable {w:World}{a:Addr}{u:Value}{α:Type}{ao:Option Addr}{n cap j g:Nat}{P:Program}{c:UInt8}
section
open Go.ChangeShapes Go.WideShapes Go.ChangeAt Go.RowKit Go.Deep
theorem z2E(h:w.cell? a=some u):a=⟨a.block,a.off,none⟩:=by
 obtain⟨b,o,s⟩:=a
 cases s with
 |none=>rfl
 | some x=>
  unfold World.cell? at h
  split at h
  ·simp at h
  ·cases h
theorem z4r(b o k:Nat):(⟨b,o,none⟩:Addr).add k=⟨b,o+k,none⟩:=Addr.add_lit _ _ _
theorem z3J(h:w.cell? (a.add 0)=some u): ∃b off,a=⟨b,off,none⟩:=by
 have e:a.add 0=a:=by simp[Addr.add]
 rw[e] at h;exact⟨_,_,z2E h⟩
end
section
open Go.RowKit Go.ChangeShapes Go.WideShapes Go.ChangeAt
structure Slf{α:Type}(f:α->Value)(w:World)(ao:Option Addr)(n cap:Nat)(xs:List α):Prop where
 len:xs.length=n
 fits:n<=cap
 bound:cap<=9223372036854775807
 nil:ao=none->cap=0
 rd:Rd w ao (xs.map f)
theorem Slf.ext{f:α->Value}{w':World}{xs:List α}(h:Slf f w ao n cap xs)(k:Ext w w'):Slf f w' ao n cap xs:=
 ⟨h.len,h.fits,h.bound,h.nil,h.rd.ext k⟩
theorem Slf.at{f:α->Value}{xs:List α}(h:Slf f w ao n cap xs)(d:α)(i:j<n):
  ∃b off,ao=some ⟨b,off,none⟩/\w.cell? ⟨b,off+j,none⟩=some (f (xs.getD j d)):=by
 have l:=h.len;obtain⟨b,off,e,hc⟩:=h.rd.at (j:=j) (by simp;omega);refine⟨b,off,e,?_⟩;rw[hc,List.getElem_map,δ,γ (by omega)]
 rfl
theorem Slf.of_own{f:α->Value}{B:Nat}{e:TypeId}{v:Value}{xs:List α}(h:Own w B e 1 v n (xs.map f)): ∃ao cap,v= .slice ao n cap/\Slf f w ao n cap xs:=by
 have b:=h.1;obtain⟨ao,cap,rfl,h1,h2,h3,h4⟩:=h.rd;exact⟨ao,cap,rfl,by simpa using b,h1,h2,h3,h4⟩
abbrev q1Q(b:UInt8):Value:= .int .u8 (b.toNat:Int)
theorem q2m(w:World)(i d e:TypeId){l:List UInt8}(s:P.underlying i=some (.slice e))(he:P.underlying e=some (.int .u8))(o:P.underlying d=some .string)
  (r:l.length=n)(h:Rd w (some a) (l.map q1Q)):(convert i d (.slice (some a) n cap)).run P w= .ok (.string ⟨l.toArray⟩) w:=by
 subst r;refine run_convert_bytes_back w i d e a cap l s he o fun j q=>?_
 obtain⟨b,off,m,hc⟩:=h.at (j:=j) (by simpa using q)
 cases m;rw[Addr.add_lit,hc];simp
theorem z0f(w:World)(i d e:TypeId)(V:Int)(b:UInt8)(q:P.underlying i=some (.slice e))(he:P.underlying e=some (.int .u8))(o:P.underlying d=some .string)
  (m:V=(b.toNat:Int)):(convert i d (.slice (some ⟨w.heap.size,0,none⟩) 1 1)).run P (w.alloc (.cells #[.int .u8 V] e))= .ok (.string ⟨#[b]⟩) (w.alloc (.cells #[.int .u8 V] e)):=by
 subst m;exact q2m (l:=[b]) _ i d e q he o rfl (Rd.lit w #[.int .u8 (b.toNat:Int)] e)
theorem q8a(w:World)(e:TypeId)(l:List UInt8)(cap:Nat):
  Rd (w.alloc (.cells (bytesRow ⟨l.toArray⟩ cap) e ((bytesRow ⟨l.toArray⟩ cap).size,(bytesRow ⟨l.toArray⟩ cap).size+1))).drew (some ⟨w.heap.size,0,none⟩) (l.map q1Q)/\
  (∀j,j<l.length->(w.alloc (.cells (bytesRow ⟨l.toArray⟩ cap) e ((bytesRow ⟨l.toArray⟩ cap).size,(bytesRow ⟨l.toArray⟩ cap).size+1))).drew.frozen? ⟨w.heap.size,j,none⟩=false)/\
  Ext w (w.alloc (.cells (bytesRow ⟨l.toArray⟩ cap) e ((bytesRow ⟨l.toArray⟩ cap).size,(bytesRow ⟨l.toArray⟩ cap).size+1))).drew:=by
 have d: ∀o,(w.alloc o).drew.heap[w.heap.size]? =some o:=fun o=>by simp[World.alloc,World.drew,-World.alloc_eq,-World.drew_eq]
 refine⟨fun j u i=>⟨_,_,rfl,?_⟩,fun j i=>?_,((Ext.refl w).alloc _).drew⟩
 ·simp only[World.cell?,d,Nat.zero_add]
  obtain⟨b,rfl⟩:=List.getElem?_eq_some_iff.1 i;simp only[List.length_map] at b;simp only[bytesRow];rw[Array.getElem?_append_left (by simpa using b)];simp[b]
 ·have m:l.length<=(bytesRow ⟨l.toArray⟩ cap).size:=by simp[bytesRow]
  simp only[World.frozen?,d];simp;omega
theorem q3g(l:List UInt8)(a b:Nat):(⟨l.toArray⟩:ByteArray).extract a b=⟨((l.take b).drop a).toArray⟩:=by
 apply ByteArray.ext;simp[ByteArray.extract,ByteArray.copySlice,List.drop_take]
@[go_sem high] theorem extract_head (l:List UInt8) (b:Nat):(⟨l.toArray⟩:ByteArray).extract 0 b=⟨(l.take b).toArray⟩:=by rw[q3g];rfl
@[go_sem high] theorem extract_tail (l:List UInt8) (a:Nat):(⟨l.toArray⟩:ByteArray).extract a l.length=⟨(l.drop a).toArray⟩:=by rw[q3g,List.take_length]
@[go_sem low] theorem extract_mid (l:List UInt8) (a b:Nat):(⟨l.toArray⟩:ByteArray).extract a b=⟨((l.take b).drop a).toArray⟩:=q3g l a b
theorem y3W(w:World)(d b e:TypeId)(i m o q:Int)(b0 b1 b2 b3:UInt8)(v:P.underlying d=some (.slice e))(he:P.underlying e=some (.int .u8))(s:P.underlying b=some .string)
  (r:i=(b0.toNat:Int))(h1:m=(b1.toNat:Int))(h2:o=(b2.toNat:Int))(h3:q=(b3.toNat:Int)):
  (convert d b (.slice (some ⟨w.heap.size,0,none⟩) 4 4)).run P (w.alloc (.cells #[.int .u8 i,.int .u8 m,.int .u8 o,.int .u8 q] e))= .ok (.string ⟨#[b0,b1,b2,b3]⟩) (w.alloc (.cells #[.int .u8 i,.int .u8 m,.int .u8 o,.int .u8 q] e)):=by
 subst r h1 h2 h3;exact q2m (l:=[b0,b1,b2,b3]) _ d b e v he s rfl (Rd.lit w #[.int .u8 (b0.toNat:Int),.int .u8 (b1.toNat:Int),.int .u8 (b2.toNat:Int),.int .u8 (b3.toNat:Int)] e)
theorem q2w{i:Nat}(h:i≠j):(⟨g,i,none⟩:Addr)≠⟨g,j,none⟩:=fun e=>by cases e;exact h rfl
theorem y3C{W:World}{N r q o:Value}(D:W.cell? ⟨g,0,none⟩=some N)(E:W.cell? ⟨g,1,none⟩=some r)(F:W.cell? ⟨g,2,none⟩=some q)(G:W.cell? ⟨g,3,none⟩=some o)(b d l m:Value):
  Rd (((((W.setCell ⟨g,0,none⟩ b).setCell ⟨g,1,none⟩ d).setCell ⟨g,2,none⟩ l).setCell ⟨g,3,none⟩ m).drew) (some ⟨g,0,none⟩) [b,d,l,m]:=by
 have a0:(W.setCell ⟨g,0,none⟩ b).cell? ⟨g,0,none⟩=some b:=World.cell?_setCell_same _ _ _ D;have a1:(W.setCell ⟨g,0,none⟩ b).cell? ⟨g,1,none⟩=some r:=by rw[World.cell?_setCell_other (h:=q2w (by decide))];exact E
 have s:(W.setCell ⟨g,0,none⟩ b).cell? ⟨g,2,none⟩=some q:=by rw[World.cell?_setCell_other (h:=q2w (by decide))];exact F
 have v:(W.setCell ⟨g,0,none⟩ b).cell? ⟨g,3,none⟩=some o:=by rw[World.cell?_setCell_other (h:=q2w (by decide))];exact G
 generalize W.setCell ⟨g,0,none⟩ b=W1 at*;have b0:(W1.setCell ⟨g,1,none⟩ d).cell? ⟨g,0,none⟩=some b:=by rw[World.cell?_setCell_other (h:=q2w (by decide))];exact a0
 have b1:(W1.setCell ⟨g,1,none⟩ d).cell? ⟨g,1,none⟩=some d:=World.cell?_setCell_same _ _ _ a1;have b2:(W1.setCell ⟨g,1,none⟩ d).cell? ⟨g,2,none⟩=some q:=by rw[World.cell?_setCell_other (h:=q2w (by decide))];exact s
 have b3:(W1.setCell ⟨g,1,none⟩ d).cell? ⟨g,3,none⟩=some o:=by rw[World.cell?_setCell_other (h:=q2w (by decide))];exact v
 generalize W1.setCell ⟨g,1,none⟩ d=W2 at*;have x:(W2.setCell ⟨g,2,none⟩ l).cell? ⟨g,0,none⟩=some b:=by rw[World.cell?_setCell_other (h:=q2w (by decide))];exact b0
 have y:(W2.setCell ⟨g,2,none⟩ l).cell? ⟨g,1,none⟩=some d:=by rw[World.cell?_setCell_other (h:=q2w (by decide))];exact b1
 have B:(W2.setCell ⟨g,2,none⟩ l).cell? ⟨g,2,none⟩=some l:=World.cell?_setCell_same _ _ _ b2;have C:(W2.setCell ⟨g,2,none⟩ l).cell? ⟨g,3,none⟩=some o:=by rw[World.cell?_setCell_other (h:=q2w (by decide))];exact b3
 generalize W2.setCell ⟨g,2,none⟩ l=W3 at*;have e0:(W3.setCell ⟨g,3,none⟩ m).cell? ⟨g,0,none⟩=some b:=by rw[World.cell?_setCell_other (h:=q2w (by decide))];exact x
 have I:(W3.setCell ⟨g,3,none⟩ m).cell? ⟨g,1,none⟩=some d:=by rw[World.cell?_setCell_other (h:=q2w (by decide))];exact y
 have J:(W3.setCell ⟨g,3,none⟩ m).cell? ⟨g,2,none⟩=some l:=by rw[World.cell?_setCell_other (h:=q2w (by decide))];exact B
 have M:(W3.setCell ⟨g,3,none⟩ m).cell? ⟨g,3,none⟩=some m:=World.cell?_setCell_same _ _ _ C;intro j u i;refine⟨g,0,rfl,?_⟩;rw[Nat.zero_add,World.cell?_drew]
 match j,i with
 |0,i=>cases i;exact e0
 |1,i=>cases i;exact I
 |2,i=>cases i;exact J
 |3,i=>cases i;exact M
end
section
open Go.RowKit
def q5m :Nat->Nat->List UInt8
 |0,_=>[]
 |k+1,n=>UInt8.ofNat (48+n/10^k % 10)::q5m k n
theorem q0l(k n:Nat):(q5m k n).length=k:=by
 induction k with
 |zero=>rfl
 |succ k ih=>simp[q5m,ih]
def q0C(c:UInt8)(n:Int):List UInt8:=if 0<=n/\n<=999999 then c::q5m 6 n.toNat else []
theorem q6p{n:Int}(h:¬(0<=n/\n<=999999)):q0C c n=[]:=by unfold q0C;rw[κ h]
theorem q0X{n:Int}(h:0<=n/\n<=999999):q0C c n=c::q5m 6 n.toNat:=by unfold q0C;rw[ξ h]
def q2W(b:UInt8):Bool:=decide (48<=b.toNat)&&decide (b.toNat<=57)
def unD(l:List UInt8):Nat:=l.foldl (fun a b=>a*10+(b.toNat-48)) 0
def q2O(c:UInt8):Bool:=c==99||c==116||c==98
def q1K(s:List UInt8):UInt8×Nat×Bool:=
 if s.length=7/\q2O (s.getD 0 0)=true/\(s.drop 1).all q2W=true then(s.getD 0 0,unD (s.drop 1),true) else(0,0,false)
theorem q9M{s:List UInt8}(h:¬(s.length=7/\q2O (s.getD 0 0)=true/\(s.drop 1).all q2W=true)):q1K s=(0,0,false):=by unfold q1K;rw[κ h]
theorem z0a{s:List UInt8}(h:s.length=7/\q2O (s.getD 0 0)=true/\(s.drop 1).all q2W=true):q1K s=(s.getD 0 0,unD (s.drop 1),true):=by unfold q1K;rw[ξ h]
theorem y1d(l:List UInt8)(b:UInt8):unD (l++[b])=unD l*10+(b.toNat-48):=by unfold unD;rw[List.foldl_append];rfl
theorem z9i(l:List UInt8): ∀a,l.foldl (fun a b=>a*10+(b.toNat-48)) a=a*10^l.length+unD l:=by
 induction l with
 |nil=>intro a;simp[unD]
 | cons b l ih=>
  intro a;have h2:unD (b::l)=(0*10+(b.toNat-48))*10^l.length+unD l:=by
   unfold unD;rw[List.foldl_cons];exact ih _
  rw[List.foldl_cons,ih,h2,χ,Nat.pow_succ,Nat.add_mul,Nat.zero_mul,Nat.zero_add,Nat.mul_assoc,Nat.mul_comm 10,Nat.add_assoc]
theorem z6G(b:UInt8)(l:List UInt8):unD (b::l)=(b.toNat-48)*10^l.length+unD l:=by
 unfold unD;rw[List.foldl_cons,z9i];simp[unD]
theorem q6b(x:Nat):(UInt8.ofNat (48+x % 10)).toNat=48+x % 10:=by
 rw[UInt8.toNat_ofNat'];omega
theorem z1p(k n:Nat):unD (q5m k n)=n % 10^k:=by
 induction k with
 |zero=>simp[q5m,unD,Nat.mod_one]
 | succ k ih=>
  rw[q5m,z6G,q0l,ih,q6b,Nat.pow_succ,Nat.mod_mul,Nat.add_sub_cancel_left,Nat.mul_comm,Nat.add_comm]
theorem y0R(k n:Nat):(q5m k n).all q2W=true:=by
 induction k with
 |zero=>rfl
 | succ k ih=>
  rw[q5m,List.all_cons,ih,Bool.and_true];unfold q2W;rw[q6b,Ξ,decide_eq_true_iff,decide_eq_true_iff];omega
theorem y4q(l:List UInt8)(h:l.all q2W=true):unD l<10^l.length:=by
 induction l with
 |nil=>simp[unD]
 | cons b l ih=>
  rw[List.all_cons,Ξ] at h;have h2:=ih h.2;have d:b.toNat-48<=9:=by
   have:=h.1;unfold q2W at this;rw[Ξ,decide_eq_true_iff,decide_eq_true_iff] at this;omega
  rw[z6G,χ,Nat.pow_succ];have h3:(b.toNat-48)*10^l.length<=9*10^l.length:=Nat.mul_le_mul_right _ d;omega
theorem z5B(k n m:Nat):q5m k (m*10^k+n)=q5m k n:=by
 induction k generalizing m with
 |zero=>rfl
 | succ k ih=>
  have e:m*10^(k+1)+n=m*10*10^k+n:=by rw[Nat.pow_succ,Nat.mul_assoc,Nat.mul_comm 10 (10^k)]
  rw[e,q5m,q5m,ih]
  congr 2
  have b:0<10^k:=Nat.pow_pos (by decide);rw[Nat.add_comm (m*10*10^k) n,Nat.add_mul_div_right _ _ b];omega
theorem q2Y{n:Int}(hc:q2O c=true)(h:0<=n/\n<=999999):q1K (q0C c n)=(c,n.toNat,true):=by
 rw[q0X h,z0a (s:=c::q5m 6 n.toNat) ⟨by rw[χ,q0l],by simpa using hc,by simpa using y0R 6 n.toNat⟩];have e:(c::q5m 6 n.toNat).drop 1=q5m 6 n.toNat:=rfl;rw[e,z1p,Nat.mod_eq_of_lt (by omega)]
 rfl
theorem q9w(k m n:Nat)(hm:m<10^k)(B:n<10^k):Op.bytesLess (q5m k m) (q5m k n)=decide (m<n):=by
 induction k generalizing m n with
 | zero=>
  have:m=0:=by omega
  have:n=0:=by omega
  subst m n
  rfl
 | succ k ih=>
  have o:0<10^k:=Nat.pow_pos (by decide);rw[Nat.pow_succ] at hm B;have q:m/10^k<10:=Nat.div_lt_of_lt_mul (by rw[Nat.mul_comm];omega);have r:n/10^k<10:=Nat.div_lt_of_lt_mul (by rw[Nat.mul_comm];omega);have v:q5m k m=q5m k (m % 10^k):=by
   conv=>lhs;rw[<-Nat.div_add_mod m (10^k),Nat.mul_comm]
   exact z5B k _ _
  have en:q5m k n=q5m k (n % 10^k):=by
   conv=>lhs;rw[<-Nat.div_add_mod n (10^k),Nat.mul_comm]
   exact z5B k _ _
  have s:=Nat.div_add_mod m (10^k);have E:=Nat.div_add_mod n (10^k);have C:=Nat.mod_lt m o;have D:=Nat.mod_lt n o;rw[q5m,q5m,v,en];unfold Op.bytesLess;rw[ih _ _ C D];have i: ∀x:Nat,x<10->(UInt8.ofNat (48+x % 10)).toNat=48+x:=fun x F=>by rw[q6b];omega
  have d:(UInt8.ofNat (48+m/10^k % 10)<UInt8.ofNat (48+n/10^k % 10))↔m/10^k<n/10^k:=by
   rw[UInt8.lt_iff_toNat_lt,i _ q,i _ r];omega
  have b:(UInt8.ofNat (48+m/10^k % 10)=UInt8.ofNat (48+n/10^k % 10))↔m/10^k=n/10^k:=by
   rw[<-UInt8.toNat_inj,i _ q,i _ r];omega
  by_cases h1:m/10^k<n/10^k
  ·rw[ζ (d.2 h1),Bool.true_or,eq_comm,decide_eq_true_iff]
   have:10^k*(m/10^k+1)<=10^k*(n/10^k):=Nat.mul_le_mul_left _ h1;rw[Nat.mul_add,Nat.mul_one] at this;omega
  ·rw [ε (fun l=>h1 (d.1 l)),Bool.false_or]
   by_cases h2:m/10^k=n/10^k
   ·rw[beq_iff_eq.2 (b.2 h2),Bool.true_and]
    rw[h2] at s;rw[Bool.eq_iff_iff,decide_eq_true_iff,decide_eq_true_iff];omega
   ·have y:(UInt8.ofNat (48+m/10^k % 10)==UInt8.ofNat (48+n/10^k % 10))=false:=beq_eq_false_iff_ne.2 fun l=>h2 (b.1 l)
    rw[y,Bool.false_and,eq_comm,decide_eq_false_iff_not];have:10^k*(n/10^k+1)<=10^k*(m/10^k):=Nat.mul_le_mul_left _ (by omega);rw[Nat.mul_add,Nat.mul_one] at this;omega
theorem z6o(c:UInt8)(m n:Int)(hm:0<=m/\m<=999999)(b:0<=n/\n<=999999):Op.bytesLess (q0C c m) (q0C c n)=decide (m<n):=by
 rw[q0X hm,q0X b];unfold Op.bytesLess;have h1:decide (c<c)=false:=ε (UInt8.lt_irrefl c);rw[h1,Bool.false_or,beq_self_eq_true,Bool.true_and,q9w 6 _ _ (by omega) (by omega),Bool.eq_iff_iff,decide_eq_true_iff,decide_eq_true_iff];omega
theorem y1B(c:UInt8)(m n:Int)(hm:0<=m/\m<=999999)(b:0<=n/\n<=999999):(q0C c m==q0C c n)=decide (m=n):=by
 rw[Bool.eq_iff_iff,beq_iff_eq,decide_eq_true_iff]
 constructor
 ·intro h
  rw[q0X hm,q0X b] at h;have h2:=congrArg unD (List.cons.inj h).2;rw[z1p,z1p,Nat.mod_eq_of_lt (by omega),Nat.mod_eq_of_lt (by omega)] at h2;omega
 ·rintro rfl;rfl
theorem z6X(b:UInt8):([48,49,50,51,52,53,54,55,56,57]:List UInt8).contains b=q2W b:=by
 have h: ∀i:Fin 256,([48,49,50,51,52,53,54,55,56,57]:List UInt8).contains (UInt8.ofNat i.val)=q2W (UInt8.ofNat i.val):=by decide+kernel
 have:=h ⟨b.toNat,b.toNat_lt⟩
 simpa using this
theorem q4X(p:α->Bool)(l:List α):l.dropWhile p=[]↔l.all p=true:=by
 induction l with
 |nil=>simp
 | cons a l ih=>
  rw[List.dropWhile_cons,List.all_cons]
  cases h:p a
  ·simp
  ·simp[ih]
theorem z4f(l:List UInt8):(Lib.trimS l [48,49,50,51,52,53,54,55,56,57]=[])↔l.all q2W=true:=by
 unfold Lib.trimS Lib.trimLeftS Lib.trimRightS;rw[q4X];have e:(fun x=>([48,49,50,51,52,53,54,55,56,57]:List UInt8).contains x)=q2W:=funext z6X;rw[e,List.all_reverse]
 constructor
 ·intro h
  by_cases b:l.reverse.dropWhile q2W=[]
  ·rw[q4X,List.all_reverse] at b;exact b
  ·exfalso
   have h2:=List.head_dropWhile_not q2W b;have h3:=List.all_eq_true.1 h _ (List.head_mem b);rw[h3] at h2;cases h2
 ·intro h
  have:l.reverse.dropWhile q2W=[]:=by rw[q4X,List.all_reverse];exact h
  rw[this];rfl
end
end Go.Proofs.YteabhdclmodefaaGreatDoor
