/- What comes in, read. -/
import Derived.Test.YteabhdclmodefaaGreatDoorG1CX
import Derived.ProofKit
import Derived.Deep.Matrix
import Derived.OpenShut
import Derived.Laws.IdiomStrings
import Derived.WalkLawsBesides
import Derived.Lib.SlTrimSet
set_option linter.unusedVariables false
set_option linter.unusedSimpArgs false
set_option maxRecDepth 100000
set_option maxHeartbeats 200000
namespace Go.Proofs.YteabhdclmodefaaGreatDoor
variable {w:World}{a:Addr}{u:Value}{α:Type}{ao:Option Addr}{n cap j g:Nat}{P:Program}{c:UInt8}
section
open Go.ChangeShapes Go.WideShapes Go.ChangeAt Go.RowKit Go.Deep
theorem q9i(h:w.cell? a=some u):a=⟨a.block,a.off,none⟩:=by
 obtain⟨b,o,s⟩:=a
 cases s with
 |none=>rfl
 | some x=>
  unfold World.cell? at h
  split at h
  ·simp at h
  ·cases h
theorem z6r(b o k:Nat):(⟨b,o,none⟩:Addr).add k=⟨b,o+k,none⟩:=Addr.add_lit _ _ _
theorem z6W(h:w.cell? (a.add 0)=some u): ∃b off,a=⟨b,off,none⟩:=by
 have e:a.add 0=a:=by simp[Addr.add]
 rw[e] at h;exact⟨_,_,q9i h⟩
end
section
open Go.RowKit Go.ChangeShapes Go.WideShapes Go.ChangeAt
structure Slf{α:Type}(f:α->Value)(w:World)(ao:Option Addr)(n cap:Nat)(xs:List α):Prop where
 len:xs.length=n
 fits:n<=cap
 bound:cap<=9223372036854775807
 nil:ao=none->cap=0
 rd:Rd w ao (xs.map f)
theorem Slf.ext{f:α->Value}{w':World}{b:List α}(h:Slf f w ao n cap b)(k:Ext w w'):Slf f w' ao n cap b:=
 ⟨h.len,h.fits,h.bound,h.nil,h.rd.ext k⟩
theorem Slf.at{f:α->Value}{i:List α}(h:Slf f w ao n cap i)(d:α)(l:j<n):
  ∃b off,ao=some ⟨b,off,none⟩/\w.cell? ⟨b,off+j,none⟩=some (f (i.getD j d)):=by
 have m:=h.len;obtain⟨b,off,e,hc⟩:=h.rd.at (j:=j) (by simp;omega);refine⟨b,off,e,?_⟩;rw[hc,List.getElem_map,δ,γ (by omega)]
 rfl
theorem Slf.of_own{f:α->Value}{B:Nat}{e:TypeId}{v:Value}{b:List α}(h:Own w B e 1 v n (b.map f)): ∃ao cap,v= .slice ao n cap/\Slf f w ao n cap b:=by
 have d:=h.1;obtain⟨ao,cap,rfl,h1,h2,h3,h4⟩:=h.rd;exact⟨ao,cap,rfl,by simpa using d,h1,h2,h3,h4⟩
abbrev q1H(b:UInt8):Value:= .int .u8 (b.toNat:Int)
theorem q2g(w:World)(i d e:TypeId){l:List UInt8}(s:P.underlying i=some (.slice e))(he:P.underlying e=some (.int .u8))(o:P.underlying d=some .string)
  (r:l.length=n)(h:Rd w (some a) (l.map q1H)):(convert i d (.slice (some a) n cap)).run P w= .ok (.string ⟨l.toArray⟩) w:=by
 subst r;refine run_convert_bytes_back w i d e a cap l s he o fun j q=>?_
 obtain⟨b,off,m,hc⟩:=h.at (j:=j) (by simpa using q)
 cases m;rw[Addr.add_lit,hc];simp
theorem z4Q(w:World)(i d e:TypeId)(V:Int)(b:UInt8)(q:P.underlying i=some (.slice e))(he:P.underlying e=some (.int .u8))(o:P.underlying d=some .string)
  (m:V=(b.toNat:Int)):(convert i d (.slice (some ⟨w.heap.size,0,none⟩) 1 1)).run P (w.alloc (.cells #[.int .u8 V] e))= .ok (.string ⟨#[b]⟩) (w.alloc (.cells #[.int .u8 V] e)):=by
 subst m;exact q2g (l:=[b]) _ i d e q he o rfl (Rd.lit w #[.int .u8 (b.toNat:Int)] e)
theorem q6o(w:World)(e:TypeId)(l:List UInt8)(cap:Nat):
  Rd (w.alloc (.cells (bytesRow ⟨l.toArray⟩ cap) e ((bytesRow ⟨l.toArray⟩ cap).size,(bytesRow ⟨l.toArray⟩ cap).size+1))).drew (some ⟨w.heap.size,0,none⟩) (l.map q1H)/\
  (∀j,j<l.length->(w.alloc (.cells (bytesRow ⟨l.toArray⟩ cap) e ((bytesRow ⟨l.toArray⟩ cap).size,(bytesRow ⟨l.toArray⟩ cap).size+1))).drew.frozen? ⟨w.heap.size,j,none⟩=false)/\
  Ext w (w.alloc (.cells (bytesRow ⟨l.toArray⟩ cap) e ((bytesRow ⟨l.toArray⟩ cap).size,(bytesRow ⟨l.toArray⟩ cap).size+1))).drew:=by
 have d: ∀o,(w.alloc o).drew.heap[w.heap.size]? =some o:=fun o=>by simp[World.alloc,World.drew,-World.alloc_eq,-World.drew_eq]
 refine⟨fun j u i=>⟨_,_,rfl,?_⟩,fun j i=>?_,((Ext.refl w).alloc _).drew⟩
 ·simp only[World.cell?,d,Nat.zero_add]
  obtain⟨b,rfl⟩:=List.getElem?_eq_some_iff.1 i;simp only[List.length_map] at b;simp only[bytesRow];rw[Array.getElem?_append_left (by simpa using b)];simp[b]
 ·have m:l.length<=(bytesRow ⟨l.toArray⟩ cap).size:=by simp[bytesRow]
  simp only[World.frozen?,d];simp;omega
theorem q2y(l:List UInt8)(a b:Nat):(⟨l.toArray⟩:ByteArray).extract a b=⟨((l.take b).drop a).toArray⟩:=by
 apply ByteArray.ext;simp[ByteArray.extract,ByteArray.copySlice,List.drop_take]
@[go_sem high] theorem extract_head (l:List UInt8) (b:Nat):(⟨l.toArray⟩:ByteArray).extract 0 b=⟨(l.take b).toArray⟩:=by rw[q2y];rfl
@[go_sem high] theorem extract_tail (l:List UInt8) (a:Nat):(⟨l.toArray⟩:ByteArray).extract a l.length=⟨(l.drop a).toArray⟩:=by rw[q2y,List.take_length]
@[go_sem low] theorem extract_mid (l:List UInt8) (a b:Nat):(⟨l.toArray⟩:ByteArray).extract a b=⟨((l.take b).drop a).toArray⟩:=q2y l a b
theorem z4R(w:World)(d b e:TypeId)(m o q r:Int)(i b1 b2 b3:UInt8)(x:P.underlying d=some (.slice e))(he:P.underlying e=some (.int .u8))(v:P.underlying b=some .string)
  (s:m=(i.toNat:Int))(h1:o=(b1.toNat:Int))(h2:q=(b2.toNat:Int))(h3:r=(b3.toNat:Int)):
  (convert d b (.slice (some ⟨w.heap.size,0,none⟩) 4 4)).run P (w.alloc (.cells #[.int .u8 m,.int .u8 o,.int .u8 q,.int .u8 r] e))= .ok (.string ⟨#[i,b1,b2,b3]⟩) (w.alloc (.cells #[.int .u8 m,.int .u8 o,.int .u8 q,.int .u8 r] e)):=by
 subst s h1 h2 h3;exact q2g (l:=[i,b1,b2,b3]) _ d b e x he v rfl (Rd.lit w #[.int .u8 (i.toNat:Int),.int .u8 (b1.toNat:Int),.int .u8 (b2.toNat:Int),.int .u8 (b3.toNat:Int)] e)
theorem q2S{i:Nat}(h:i≠j):(⟨g,i,none⟩:Addr)≠⟨g,j,none⟩:=fun e=>by cases e;exact h rfl
theorem z9m{W:World}{Q o m l:Value}(E:W.cell? ⟨g,0,none⟩=some Q)(F:W.cell? ⟨g,1,none⟩=some o)(G:W.cell? ⟨g,2,none⟩=some m)(I:W.cell? ⟨g,3,none⟩=some l)(v0 v1 d i:Value):
  Rd (((((W.setCell ⟨g,0,none⟩ v0).setCell ⟨g,1,none⟩ v1).setCell ⟨g,2,none⟩ d).setCell ⟨g,3,none⟩ i).drew) (some ⟨g,0,none⟩) [v0,v1,d,i]:=by
 have q:(W.setCell ⟨g,0,none⟩ v0).cell? ⟨g,0,none⟩=some v0:=World.cell?_setCell_same _ _ _ E;have r:(W.setCell ⟨g,0,none⟩ v0).cell? ⟨g,1,none⟩=some o:=by rw[World.cell?_setCell_other (h:=q2S (by decide))];exact F
 have s:(W.setCell ⟨g,0,none⟩ v0).cell? ⟨g,2,none⟩=some m:=by rw[World.cell?_setCell_other (h:=q2S (by decide))];exact G
 have v:(W.setCell ⟨g,0,none⟩ v0).cell? ⟨g,3,none⟩=some l:=by rw[World.cell?_setCell_other (h:=q2S (by decide))];exact I
 generalize W.setCell ⟨g,0,none⟩ v0=W1 at*;have x:(W1.setCell ⟨g,1,none⟩ v1).cell? ⟨g,0,none⟩=some v0:=by rw[World.cell?_setCell_other (h:=q2S (by decide))];exact q
 have b1:(W1.setCell ⟨g,1,none⟩ v1).cell? ⟨g,1,none⟩=some v1:=World.cell?_setCell_same _ _ _ r;have b2:(W1.setCell ⟨g,1,none⟩ v1).cell? ⟨g,2,none⟩=some m:=by rw[World.cell?_setCell_other (h:=q2S (by decide))];exact s
 have b3:(W1.setCell ⟨g,1,none⟩ v1).cell? ⟨g,3,none⟩=some l:=by rw[World.cell?_setCell_other (h:=q2S (by decide))];exact v
 generalize W1.setCell ⟨g,1,none⟩ v1=W2 at*;have y:(W2.setCell ⟨g,2,none⟩ d).cell? ⟨g,0,none⟩=some v0:=by rw[World.cell?_setCell_other (h:=q2S (by decide))];exact x
 have B:(W2.setCell ⟨g,2,none⟩ d).cell? ⟨g,1,none⟩=some v1:=by rw[World.cell?_setCell_other (h:=q2S (by decide))];exact b1
 have C:(W2.setCell ⟨g,2,none⟩ d).cell? ⟨g,2,none⟩=some d:=World.cell?_setCell_same _ _ _ b2;have D:(W2.setCell ⟨g,2,none⟩ d).cell? ⟨g,3,none⟩=some l:=by rw[World.cell?_setCell_other (h:=q2S (by decide))];exact b3
 generalize W2.setCell ⟨g,2,none⟩ d=W3 at*;have J:(W3.setCell ⟨g,3,none⟩ i).cell? ⟨g,0,none⟩=some v0:=by rw[World.cell?_setCell_other (h:=q2S (by decide))];exact y
 have M:(W3.setCell ⟨g,3,none⟩ i).cell? ⟨g,1,none⟩=some v1:=by rw[World.cell?_setCell_other (h:=q2S (by decide))];exact B
 have N:(W3.setCell ⟨g,3,none⟩ i).cell? ⟨g,2,none⟩=some d:=by rw[World.cell?_setCell_other (h:=q2S (by decide))];exact C
 have O:(W3.setCell ⟨g,3,none⟩ i).cell? ⟨g,3,none⟩=some i:=World.cell?_setCell_same _ _ _ D;intro j u b;refine⟨g,0,rfl,?_⟩;rw[Nat.zero_add,World.cell?_drew]
 match j,b with
 |0,b=>cases b;exact J
 |1,b=>cases b;exact M
 |2,b=>cases b;exact N
 |3,b=>cases b;exact O
end
section
open Go.RowKit
def q4n :Nat->Nat->List UInt8
 |0,_=>[]
 |k+1,n=>UInt8.ofNat (48+n/10^k % 10)::q4n k n
theorem q0f(k n:Nat):(q4n k n).length=k:=by
 induction k with
 |zero=>rfl
 |succ k ih=>simp[q4n,ih]
def q0E(c:UInt8)(n:Int):List UInt8:=if 0<=n/\n<=999999 then c::q4n 6 n.toNat else []
theorem q6a{n:Int}(h:¬(0<=n/\n<=999999)):q0E c n=[]:=by unfold q0E;rw[κ h]
theorem q0Y{n:Int}(h:0<=n/\n<=999999):q0E c n=c::q4n 6 n.toNat:=by unfold q0E;rw[ξ h]
def q2D(b:UInt8):Bool:=decide (48<=b.toNat)&&decide (b.toNat<=57)
def unD(l:List UInt8):Nat:=l.foldl (fun a b=>a*10+(b.toNat-48)) 0
def q2B(c:UInt8):Bool:=c==99||c==116||c==98
def q1C(s:List UInt8):UInt8×Nat×Bool:=
 if s.length=7/\q2B (s.getD 0 0)=true/\(s.drop 1).all q2D=true then(s.getD 0 0,unD (s.drop 1),true) else(0,0,false)
theorem q7T{s:List UInt8}(h:¬(s.length=7/\q2B (s.getD 0 0)=true/\(s.drop 1).all q2D=true)):q1C s=(0,0,false):=by unfold q1C;rw[κ h]
theorem q8U{s:List UInt8}(h:s.length=7/\q2B (s.getD 0 0)=true/\(s.drop 1).all q2D=true):q1C s=(s.getD 0 0,unD (s.drop 1),true):=by unfold q1C;rw[ξ h]
theorem z8d(l:List UInt8)(b:UInt8):unD (l++[b])=unD l*10+(b.toNat-48):=by unfold unD;rw[List.foldl_append];rfl
theorem z6g(l:List UInt8): ∀a,l.foldl (fun a b=>a*10+(b.toNat-48)) a=a*10^l.length+unD l:=by
 induction l with
 |nil=>intro a;simp[unD]
 | cons b l ih=>
  intro a;have h2:unD (b::l)=(0*10+(b.toNat-48))*10^l.length+unD l:=by
   unfold unD;rw[List.foldl_cons];exact ih _
  rw[List.foldl_cons,ih,h2,χ,Nat.pow_succ,Nat.add_mul,Nat.zero_mul,Nat.zero_add,Nat.mul_assoc,Nat.mul_comm 10,Nat.add_assoc]
theorem z3W(b:UInt8)(l:List UInt8):unD (b::l)=(b.toNat-48)*10^l.length+unD l:=by
 unfold unD;rw[List.foldl_cons,z6g];simp[unD]
theorem q5P(x:Nat):(UInt8.ofNat (48+x % 10)).toNat=48+x % 10:=by
 rw[UInt8.toNat_ofNat'];omega
theorem q9b(k n:Nat):unD (q4n k n)=n % 10^k:=by
 induction k with
 |zero=>simp[q4n,unD,Nat.mod_one]
 | succ k ih=>
  rw[q4n,z3W,q0f,ih,q5P,Nat.pow_succ,Nat.mod_mul,Nat.add_sub_cancel_left,Nat.mul_comm,Nat.add_comm]
theorem z7R(k n:Nat):(q4n k n).all q2D=true:=by
 induction k with
 |zero=>rfl
 | succ k ih=>
  rw[q4n,List.all_cons,ih,Bool.and_true];unfold q2D;rw[q5P,Ξ,decide_eq_true_iff,decide_eq_true_iff];omega
theorem y1V(l:List UInt8)(h:l.all q2D=true):unD l<10^l.length:=by
 induction l with
 |nil=>simp[unD]
 | cons b l ih=>
  rw[List.all_cons,Ξ] at h;have h2:=ih h.2;have d:b.toNat-48<=9:=by
   have:=h.1;unfold q2D at this;rw[Ξ,decide_eq_true_iff,decide_eq_true_iff] at this;omega
  rw[z3W,χ,Nat.pow_succ];have h3:(b.toNat-48)*10^l.length<=9*10^l.length:=Nat.mul_le_mul_right _ d;omega
theorem z2Y(k n m:Nat):q4n k (m*10^k+n)=q4n k n:=by
 induction k generalizing m with
 |zero=>rfl
 | succ k ih=>
  have e:m*10^(k+1)+n=m*10*10^k+n:=by rw[Nat.pow_succ,Nat.mul_assoc,Nat.mul_comm 10 (10^k)]
  rw[e,q4n,q4n,ih]
  congr 2
  have b:0<10^k:=Nat.pow_pos (by decide);rw[Nat.add_comm (m*10*10^k) n,Nat.add_mul_div_right _ _ b];omega
theorem q2G{n:Int}(hc:q2B c=true)(h:0<=n/\n<=999999):q1C (q0E c n)=(c,n.toNat,true):=by
 rw[q0Y h,q8U (s:=c::q4n 6 n.toNat) ⟨by rw[χ,q0f],by simpa using hc,by simpa using z7R 6 n.toNat⟩];have e:(c::q4n 6 n.toNat).drop 1=q4n 6 n.toNat:=rfl;rw[e,q9b,Nat.mod_eq_of_lt (by omega)]
 rfl
theorem q7t(k m n:Nat)(hm:m<10^k)(B:n<10^k):Op.bytesLess (q4n k m) (q4n k n)=decide (m<n):=by
 induction k generalizing m n with
 | zero=>
  have:m=0:=by omega
  have:n=0:=by omega
  subst m n
  rfl
 | succ k ih=>
  have o:0<10^k:=Nat.pow_pos (by decide);rw[Nat.pow_succ] at hm B;have q:m/10^k<10:=Nat.div_lt_of_lt_mul (by rw[Nat.mul_comm];omega);have r:n/10^k<10:=Nat.div_lt_of_lt_mul (by rw[Nat.mul_comm];omega);have v:q4n k m=q4n k (m % 10^k):=by
   conv=>lhs;rw[<-Nat.div_add_mod m (10^k),Nat.mul_comm]
   exact z2Y k _ _
  have en:q4n k n=q4n k (n % 10^k):=by
   conv=>lhs;rw[<-Nat.div_add_mod n (10^k),Nat.mul_comm]
   exact z2Y k _ _
  have s:=Nat.div_add_mod m (10^k);have E:=Nat.div_add_mod n (10^k);have C:=Nat.mod_lt m o;have D:=Nat.mod_lt n o;rw[q4n,q4n,v,en];unfold Op.bytesLess;rw[ih _ _ C D];have i: ∀x:Nat,x<10->(UInt8.ofNat (48+x % 10)).toNat=48+x:=fun x F=>by rw[q5P];omega
  have d:(UInt8.ofNat (48+m/10^k % 10)<UInt8.ofNat (48+n/10^k % 10))↔m/10^k<n/10^k:=by
   rw[UInt8.lt_iff_toNat_lt,i _ q,i _ r];omega
  have b:(UInt8.ofNat (48+m/10^k % 10)=UInt8.ofNat (48+n/10^k % 10))↔m/10^k=n/10^k:=by
   rw[<-UInt8.toNat_inj,i _ q,i _ r];omega
  by_cases h1:m/10^k<n/10^k
  ·rw[ζ (d.2 h1),Bool.true_or,eq_comm,decide_eq_true_iff]
   have:10^k*(m/10^k+1)<=10^k*(n/10^k):=Nat.mul_le_mul_left _ h1;rw[Nat.mul_add,Nat.mul_one] at this;omega
  ·rw [ε (fun l=>h1 (d.1 l)),Bool.false_or]
   by_cases h2:m/10^k=n/10^k
   ·rw[beq_iff_eq.2 (b.2 h2),Bool.true_and]
    rw[h2] at s;rw[Bool.eq_iff_iff,decide_eq_true_iff,decide_eq_true_iff];omega
   ·have y:(UInt8.ofNat (48+m/10^k % 10)==UInt8.ofNat (48+n/10^k % 10))=false:=beq_eq_false_iff_ne.2 fun l=>h2 (b.1 l)
    rw[y,Bool.false_and,eq_comm,decide_eq_false_iff_not];have:10^k*(n/10^k+1)<=10^k*(m/10^k):=Nat.mul_le_mul_left _ (by omega);rw[Nat.mul_add,Nat.mul_one] at this;omega
theorem z4D(c:UInt8)(m n:Int)(hm:0<=m/\m<=999999)(b:0<=n/\n<=999999):Op.bytesLess (q0E c m) (q0E c n)=decide (m<n):=by
 rw[q0Y hm,q0Y b];unfold Op.bytesLess;have h1:decide (c<c)=false:=ε (UInt8.lt_irrefl c);rw[h1,Bool.false_or,beq_self_eq_true,Bool.true_and,q7t 6 _ _ (by omega) (by omega),Bool.eq_iff_iff,decide_eq_true_iff,decide_eq_true_iff];omega
theorem z7z(c:UInt8)(m n:Int)(hm:0<=m/\m<=999999)(b:0<=n/\n<=999999):(q0E c m==q0E c n)=decide (m=n):=by
 rw[Bool.eq_iff_iff,beq_iff_eq,decide_eq_true_iff]
 constructor
 ·intro h
  rw[q0Y hm,q0Y b] at h;have h2:=congrArg unD (List.cons.inj h).2;rw[q9b,q9b,Nat.mod_eq_of_lt (by omega),Nat.mod_eq_of_lt (by omega)] at h2;omega
 ·rintro rfl;rfl
theorem z3n(b:UInt8):([48,49,50,51,52,53,54,55,56,57]:List UInt8).contains b=q2D b:=by
 have h: ∀i:Fin 256,([48,49,50,51,52,53,54,55,56,57]:List UInt8).contains (UInt8.ofNat i.val)=q2D (UInt8.ofNat i.val):=by decide+kernel
 have:=h ⟨b.toNat,b.toNat_lt⟩
 simpa using this
theorem q3f(p:α->Bool)(l:List α):l.dropWhile p=[]↔l.all p=true:=by
 induction l with
 |nil=>simp
 | cons a l ih=>
  rw[List.dropWhile_cons,List.all_cons]
  cases h:p a
  ·simp
  ·simp[ih]
theorem z2D(l:List UInt8):(Lib.trimS l [48,49,50,51,52,53,54,55,56,57]=[])↔l.all q2D=true:=by
 unfold Lib.trimS Lib.trimLeftS Lib.trimRightS;rw[q3f];have e:(fun x=>([48,49,50,51,52,53,54,55,56,57]:List UInt8).contains x)=q2D:=funext z3n;rw[e,List.all_reverse]
 constructor
 ·intro h
  by_cases b:l.reverse.dropWhile q2D=[]
  ·rw[q3f,List.all_reverse] at b;exact b
  ·exfalso
   have h2:=List.head_dropWhile_not q2D b;have h3:=List.all_eq_true.1 h _ (List.head_mem b);rw[h3] at h2;cases h2
 ·intro h
  have:l.reverse.dropWhile q2D=[]:=by rw[q3f,List.all_reverse];exact h
  rw[this];rfl
end
end Go.Proofs.YteabhdclmodefaaGreatDoor
