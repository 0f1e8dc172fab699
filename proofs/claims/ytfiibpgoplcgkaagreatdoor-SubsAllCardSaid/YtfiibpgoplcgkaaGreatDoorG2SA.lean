/- What comes in, read. -/
import Derived.Test.YtfiibpgoplcgkaaGreatDoorG1SA
import Derived.ProofKit
import Derived.Deep.Matrix
import Derived.OpenShut
import Derived.Laws.IdiomStrings
import Derived.WalkLawsBesides
import Derived.Lib.SlTrimSet
set_option linter.unusedVariables false
set_option linter.unusedSimpArgs false
set_option maxRecDepth 100000
set_option maxHeartbeats 200000
namespace Go.Proofs.YtfiibpgoplcgkaaGreatDoor
variable {w:World}{a:Addr}{u:Value}{α:Type}{ao:Option Addr}{n cap j g:Nat}{P:Program}{c:UInt8}
section
open Go.ChangeShapes Go.WideShapes Go.ChangeAt Go.RowKit Go.Deep
theorem z0c(h:w.cell? a=some u):a=⟨a.block,a.off,none⟩:=by
 obtain⟨b,o,s⟩:=a
 cases s with
 |none=>rfl
 | some x=>
  unfold World.cell? at h
  split at h
  ·simp at h
  ·cases h
theorem z8I(b o k:Nat):(⟨b,o,none⟩:Addr).add k=⟨b,o+k,none⟩:=Addr.add_lit _ _ _
theorem z7h(h:w.cell? (a.add 0)=some u): ∃b off,a=⟨b,off,none⟩:=by
 have e:a.add 0=a:=by simp[Addr.add]
 rw[e] at h;exact⟨_,_,z0c h⟩
end
section
open Go.RowKit Go.ChangeShapes Go.WideShapes Go.ChangeAt
structure Slf{α:Type}(f:α->Value)(w:World)(ao:Option Addr)(n cap:Nat)(xs:List α):Prop where
 len:xs.length=n
 fits:n<=cap
 bound:cap<=9223372036854775807
 nil:ao=none->cap=0
 rd:Rd w ao (xs.map f)
theorem Slf.ext{f:α->Value}{w':World}{b:List α}(h:Slf f w ao n cap b)(k:Ext w w'):Slf f w' ao n cap b:=
 ⟨h.len,h.fits,h.bound,h.nil,h.rd.ext k⟩
theorem Slf.at{f:α->Value}{i:List α}(h:Slf f w ao n cap i)(d:α)(l:j<n):
  ∃b off,ao=some ⟨b,off,none⟩/\w.cell? ⟨b,off+j,none⟩=some (f (i.getD j d)):=by
 have m:=h.len;obtain⟨b,off,e,hc⟩:=h.rd.at (j:=j) (by simp;omega);refine⟨b,off,e,?_⟩;rw[hc,List.getElem_map,δ,γ (by omega)]
 rfl
theorem Slf.of_own{f:α->Value}{B:Nat}{e:TypeId}{v:Value}{b:List α}(h:Own w B e 1 v n (b.map f)): ∃ao cap,v= .slice ao n cap/\Slf f w ao n cap b:=by
 have o:=h.1;obtain⟨ao,cap,rfl,d,i,l,m⟩:=h.rd;exact⟨ao,cap,rfl,by simpa using o,d,i,l,m⟩
abbrev q1R(b:UInt8):Value:= .int .u8 (b.toNat:Int)
theorem q4l(w:World)(i d e:TypeId){l:List UInt8}(s:P.underlying i=some (.slice e))(he:P.underlying e=some (.int .u8))(o:P.underlying d=some .string)
  (r:l.length=n)(h:Rd w (some a) (l.map q1R)):(convert i d (.slice (some a) n cap)).run P w= .ok (.string ⟨l.toArray⟩) w:=by
 subst r;refine run_convert_bytes_back w i d e a cap l s he o fun j q=>?_
 obtain⟨b,off,m,hc⟩:=h.at (j:=j) (by simpa using q)
 cases m;rw[Addr.add_lit,hc];simp
theorem z1y(w:World)(e:TypeId)(l:List UInt8)(cap:Nat):
  Rd (w.alloc (.cells (bytesRow ⟨l.toArray⟩ cap) e ((bytesRow ⟨l.toArray⟩ cap).size,(bytesRow ⟨l.toArray⟩ cap).size+1))).drew (some ⟨w.heap.size,0,none⟩) (l.map q1R)/\
  (∀j,j<l.length->(w.alloc (.cells (bytesRow ⟨l.toArray⟩ cap) e ((bytesRow ⟨l.toArray⟩ cap).size,(bytesRow ⟨l.toArray⟩ cap).size+1))).drew.frozen? ⟨w.heap.size,j,none⟩=false)/\
  Ext w (w.alloc (.cells (bytesRow ⟨l.toArray⟩ cap) e ((bytesRow ⟨l.toArray⟩ cap).size,(bytesRow ⟨l.toArray⟩ cap).size+1))).drew:=by
 have d: ∀o,(w.alloc o).drew.heap[w.heap.size]? =some o:=fun o=>by simp[World.alloc,World.drew,-World.alloc_eq,-World.drew_eq]
 refine⟨fun j u i=>⟨_,_,rfl,?_⟩,fun j i=>?_,((Ext.refl w).alloc _).drew⟩
 ·simp only[World.cell?,d,Nat.zero_add]
  obtain⟨b,rfl⟩:=List.getElem?_eq_some_iff.1 i;simp only[List.length_map] at b;simp only[bytesRow];rw[Array.getElem?_append_left (by simpa using b)];simp[b]
 ·have m:l.length<=(bytesRow ⟨l.toArray⟩ cap).size:=by simp[bytesRow]
  simp only[World.frozen?,d];simp;omega
theorem q3L(l:List UInt8)(a b:Nat):(⟨l.toArray⟩:ByteArray).extract a b=⟨((l.take b).drop a).toArray⟩:=by
 apply ByteArray.ext;simp[ByteArray.extract,ByteArray.copySlice,List.drop_take]
@[go_sem high] theorem extract_head (l:List UInt8) (b:Nat):(⟨l.toArray⟩:ByteArray).extract 0 b=⟨(l.take b).toArray⟩:=by rw[q3L];rfl
@[go_sem high] theorem extract_tail (l:List UInt8) (a:Nat):(⟨l.toArray⟩:ByteArray).extract a l.length=⟨(l.drop a).toArray⟩:=by rw[q3L,List.take_length]
@[go_sem low] theorem extract_mid (l:List UInt8) (a b:Nat):(⟨l.toArray⟩:ByteArray).extract a b=⟨((l.take b).drop a).toArray⟩:=q3L l a b
theorem y1i(w:World)(d b e:TypeId)(m o q r:Int)(i b1 b2 b3:UInt8)(C:P.underlying d=some (.slice e))(he:P.underlying e=some (.int .u8))(B:P.underlying b=some .string)
  (s:m=(i.toNat:Int))(v:o=(b1.toNat:Int))(x:q=(b2.toNat:Int))(y:r=(b3.toNat:Int)):
  (convert d b (.slice (some ⟨w.heap.size,0,none⟩) 4 4)).run P (w.alloc (.cells #[.int .u8 m,.int .u8 o,.int .u8 q,.int .u8 r] e))= .ok (.string ⟨#[i,b1,b2,b3]⟩) (w.alloc (.cells #[.int .u8 m,.int .u8 o,.int .u8 q,.int .u8 r] e)):=by
 subst s v x y;exact q4l (l:=[i,b1,b2,b3]) _ d b e C he B rfl (Rd.lit w #[.int .u8 (i.toNat:Int),.int .u8 (b1.toNat:Int),.int .u8 (b2.toNat:Int),.int .u8 (b3.toNat:Int)] e)
theorem q2u{i:Nat}(h:i≠j):(⟨g,i,none⟩:Addr)≠⟨g,j,none⟩:=fun e=>by cases e;exact h rfl
theorem y1P{W:World}{R r q o:Value}(F:W.cell? ⟨g,0,none⟩=some R)(G:W.cell? ⟨g,1,none⟩=some r)(I:W.cell? ⟨g,2,none⟩=some q)(J:W.cell? ⟨g,3,none⟩=some o)(b d l m:Value):
  Rd (((((W.setCell ⟨g,0,none⟩ b).setCell ⟨g,1,none⟩ d).setCell ⟨g,2,none⟩ l).setCell ⟨g,3,none⟩ m).drew) (some ⟨g,0,none⟩) [b,d,l,m]:=by
 have a0:(W.setCell ⟨g,0,none⟩ b).cell? ⟨g,0,none⟩=some b:=World.cell?_setCell_same _ _ _ F;have s:(W.setCell ⟨g,0,none⟩ b).cell? ⟨g,1,none⟩=some r:=by rw[World.cell?_setCell_other (h:=q2u (by decide))];exact G
 have v:(W.setCell ⟨g,0,none⟩ b).cell? ⟨g,2,none⟩=some q:=by rw[World.cell?_setCell_other (h:=q2u (by decide))];exact I
 have x:(W.setCell ⟨g,0,none⟩ b).cell? ⟨g,3,none⟩=some o:=by rw[World.cell?_setCell_other (h:=q2u (by decide))];exact J
 generalize W.setCell ⟨g,0,none⟩ b=W1 at*;have y:(W1.setCell ⟨g,1,none⟩ d).cell? ⟨g,0,none⟩=some b:=by rw[World.cell?_setCell_other (h:=q2u (by decide))];exact a0
 have b1:(W1.setCell ⟨g,1,none⟩ d).cell? ⟨g,1,none⟩=some d:=World.cell?_setCell_same _ _ _ s;have b2:(W1.setCell ⟨g,1,none⟩ d).cell? ⟨g,2,none⟩=some q:=by rw[World.cell?_setCell_other (h:=q2u (by decide))];exact v
 have b3:(W1.setCell ⟨g,1,none⟩ d).cell? ⟨g,3,none⟩=some o:=by rw[World.cell?_setCell_other (h:=q2u (by decide))];exact x
 generalize W1.setCell ⟨g,1,none⟩ d=W2 at*;have B:(W2.setCell ⟨g,2,none⟩ l).cell? ⟨g,0,none⟩=some b:=by rw[World.cell?_setCell_other (h:=q2u (by decide))];exact y
 have C:(W2.setCell ⟨g,2,none⟩ l).cell? ⟨g,1,none⟩=some d:=by rw[World.cell?_setCell_other (h:=q2u (by decide))];exact b1
 have D:(W2.setCell ⟨g,2,none⟩ l).cell? ⟨g,2,none⟩=some l:=World.cell?_setCell_same _ _ _ b2;have E:(W2.setCell ⟨g,2,none⟩ l).cell? ⟨g,3,none⟩=some o:=by rw[World.cell?_setCell_other (h:=q2u (by decide))];exact b3
 generalize W2.setCell ⟨g,2,none⟩ l=W3 at*;have M:(W3.setCell ⟨g,3,none⟩ m).cell? ⟨g,0,none⟩=some b:=by rw[World.cell?_setCell_other (h:=q2u (by decide))];exact B
 have N:(W3.setCell ⟨g,3,none⟩ m).cell? ⟨g,1,none⟩=some d:=by rw[World.cell?_setCell_other (h:=q2u (by decide))];exact C
 have O:(W3.setCell ⟨g,3,none⟩ m).cell? ⟨g,2,none⟩=some l:=by rw[World.cell?_setCell_other (h:=q2u (by decide))];exact D
 have Q:(W3.setCell ⟨g,3,none⟩ m).cell? ⟨g,3,none⟩=some m:=World.cell?_setCell_same _ _ _ E;intro j u i;refine⟨g,0,rfl,?_⟩;rw[Nat.zero_add,World.cell?_drew]
 match j,i with
 |0,i=>cases i;exact M
 |1,i=>cases i;exact N
 |2,i=>cases i;exact O
 |3,i=>cases i;exact Q
end
section
open Go.RowKit
def q5M :Nat->Nat->List UInt8
 |0,_=>[]
 |k+1,n=>UInt8.ofNat (48+n/10^k % 10)::q5M k n
theorem q0Y(k n:Nat):(q5M k n).length=k:=by
 induction k with
 |zero=>rfl
 |succ k ih=>simp[q5M,ih]
def q0C(c:UInt8)(n:Int):List UInt8:=if 0<=n/\n<=999999 then c::q5M 6 n.toNat else []
theorem q7F{n:Int}(h:¬(0<=n/\n<=999999)):q0C c n=[]:=by unfold q0C;rw[κ h]
theorem q0U{n:Int}(h:0<=n/\n<=999999):q0C c n=c::q5M 6 n.toNat:=by unfold q0C;rw[ξ h]
def q1Z(b:UInt8):Bool:=decide (48<=b.toNat)&&decide (b.toNat<=57)
def unD(l:List UInt8):Nat:=l.foldl (fun a b=>a*10+(b.toNat-48)) 0
def q2D(c:UInt8):Bool:=c==99||c==116||c==98
def q1F(s:List UInt8):UInt8×Nat×Bool:=
 if s.length=7/\q2D (s.getD 0 0)=true/\(s.drop 1).all q1Z=true then(s.getD 0 0,unD (s.drop 1),true) else(0,0,false)
theorem q7z{s:List UInt8}(h:¬(s.length=7/\q2D (s.getD 0 0)=true/\(s.drop 1).all q1Z=true)):q1F s=(0,0,false):=by unfold q1F;rw[κ h]
theorem q9B{s:List UInt8}(h:s.length=7/\q2D (s.getD 0 0)=true/\(s.drop 1).all q1Z=true):q1F s=(s.getD 0 0,unD (s.drop 1),true):=by unfold q1F;rw[ξ h]
theorem z4Q(l:List UInt8)(b:UInt8):unD (l++[b])=unD l*10+(b.toNat-48):=by unfold unD;rw[List.foldl_append];rfl
theorem z7y(l:List UInt8): ∀a,l.foldl (fun a b=>a*10+(b.toNat-48)) a=a*10^l.length+unD l:=by
 induction l with
 |nil=>intro a;simp[unD]
 | cons b l ih=>
  intro a;have d:unD (b::l)=(0*10+(b.toNat-48))*10^l.length+unD l:=by
   unfold unD;rw[List.foldl_cons];exact ih _
  rw[List.foldl_cons,ih,d,χ,Nat.pow_succ,Nat.add_mul,Nat.zero_mul,Nat.zero_add,Nat.mul_assoc,Nat.mul_comm 10,Nat.add_assoc]
theorem z0R(b:UInt8)(l:List UInt8):unD (b::l)=(b.toNat-48)*10^l.length+unD l:=by
 unfold unD;rw[List.foldl_cons,z7y];simp[unD]
theorem q4b(x:Nat):(UInt8.ofNat (48+x % 10)).toNat=48+x % 10:=by
 rw[UInt8.toNat_ofNat'];omega
theorem z0S(k n:Nat):unD (q5M k n)=n % 10^k:=by
 induction k with
 |zero=>simp[q5M,unD,Nat.mod_one]
 | succ k ih=>
  rw[q5M,z0R,q0Y,ih,q4b,Nat.pow_succ,Nat.mod_mul,Nat.add_sub_cancel_left,Nat.mul_comm,Nat.add_comm]
theorem z8d(k n:Nat):(q5M k n).all q1Z=true:=by
 induction k with
 |zero=>rfl
 | succ k ih=>
  rw[q5M,List.all_cons,ih,Bool.and_true];unfold q1Z;rw[q4b,Ξ,decide_eq_true_iff,decide_eq_true_iff];omega
theorem y2t(l:List UInt8)(h:l.all q1Z=true):unD l<10^l.length:=by
 induction l with
 |nil=>simp[unD]
 | cons b l ih=>
  rw[List.all_cons,Ξ] at h;have i:=ih h.2;have d:b.toNat-48<=9:=by
   have:=h.1;unfold q1Z at this;rw[Ξ,decide_eq_true_iff,decide_eq_true_iff] at this;omega
  rw[z0R,χ,Nat.pow_succ];have m:(b.toNat-48)*10^l.length<=9*10^l.length:=Nat.mul_le_mul_right _ d;omega
theorem z3U(k n m:Nat):q5M k (m*10^k+n)=q5M k n:=by
 induction k generalizing m with
 |zero=>rfl
 | succ k ih=>
  have e:m*10^(k+1)+n=m*10*10^k+n:=by rw[Nat.pow_succ,Nat.mul_assoc,Nat.mul_comm 10 (10^k)]
  rw[e,q5M,q5M,ih]
  congr 2
  have b:0<10^k:=Nat.pow_pos (by decide);rw[Nat.add_comm (m*10*10^k) n,Nat.add_mul_div_right _ _ b];omega
theorem q1h{n:Int}(hc:q2D c=true)(h:0<=n/\n<=999999):q1F (q0C c n)=(c,n.toNat,true):=by
 rw[q0U h,q9B (s:=c::q5M 6 n.toNat) ⟨by rw[χ,q0Y],by simpa using hc,by simpa using z8d 6 n.toNat⟩];have e:(c::q5M 6 n.toNat).drop 1=q5M 6 n.toNat:=rfl;rw[e,z0S,Nat.mod_eq_of_lt (by omega)]
 rfl
theorem q8X(k m n:Nat)(hm:m<10^k)(D:n<10^k):Op.bytesLess (q5M k m) (q5M k n)=decide (m<n):=by
 induction k generalizing m n with
 | zero=>
  have:m=0:=by omega
  have:n=0:=by omega
  subst m n
  rfl
 | succ k ih=>
  have r:0<10^k:=Nat.pow_pos (by decide);rw[Nat.pow_succ] at hm D;have s:m/10^k<10:=Nat.div_lt_of_lt_mul (by rw[Nat.mul_comm];omega);have v:n/10^k<10:=Nat.div_lt_of_lt_mul (by rw[Nat.mul_comm];omega);have B:q5M k m=q5M k (m % 10^k):=by
   conv=>lhs;rw[<-Nat.div_add_mod m (10^k),Nat.mul_comm]
   exact z3U k _ _
  have en:q5M k n=q5M k (n % 10^k):=by
   conv=>lhs;rw[<-Nat.div_add_mod n (10^k),Nat.mul_comm]
   exact z3U k _ _
  have y:=Nat.div_add_mod m (10^k);have G:=Nat.div_add_mod n (10^k);have E:=Nat.mod_lt m r;have F:=Nat.mod_lt n r;rw[q5M,q5M,B,en];unfold Op.bytesLess;rw[ih _ _ E F];have i: ∀x:Nat,x<10->(UInt8.ofNat (48+x % 10)).toNat=48+x:=fun x I=>by rw[q4b];omega
  have d:(UInt8.ofNat (48+m/10^k % 10)<UInt8.ofNat (48+n/10^k % 10))↔m/10^k<n/10^k:=by
   rw[UInt8.lt_iff_toNat_lt,i _ s,i _ v];omega
  have b:(UInt8.ofNat (48+m/10^k % 10)=UInt8.ofNat (48+n/10^k % 10))↔m/10^k=n/10^k:=by
   rw[<-UInt8.toNat_inj,i _ s,i _ v];omega
  by_cases l:m/10^k<n/10^k
  ·rw[ζ (d.2 l),Bool.true_or,eq_comm,decide_eq_true_iff]
   have:10^k*(m/10^k+1)<=10^k*(n/10^k):=Nat.mul_le_mul_left _ l;rw[Nat.mul_add,Nat.mul_one] at this;omega
  ·rw [ε (fun q=>l (d.1 q)),Bool.false_or]
   by_cases o:m/10^k=n/10^k
   ·rw[beq_iff_eq.2 (b.2 o),Bool.true_and]
    rw[o] at y;rw[Bool.eq_iff_iff,decide_eq_true_iff,decide_eq_true_iff];omega
   ·have C:(UInt8.ofNat (48+m/10^k % 10)==UInt8.ofNat (48+n/10^k % 10))=false:=beq_eq_false_iff_ne.2 fun q=>o (b.1 q)
    rw[C,Bool.false_and,eq_comm,decide_eq_false_iff_not];have:10^k*(n/10^k+1)<=10^k*(m/10^k):=Nat.mul_le_mul_left _ (by omega);rw[Nat.mul_add,Nat.mul_one] at this;omega
theorem z5F(c:UInt8)(m n:Int)(hm:0<=m/\m<=999999)(d:0<=n/\n<=999999):Op.bytesLess (q0C c m) (q0C c n)=decide (m<n):=by
 rw[q0U hm,q0U d];unfold Op.bytesLess;have b:decide (c<c)=false:=ε (UInt8.lt_irrefl c);rw[b,Bool.false_or,beq_self_eq_true,Bool.true_and,q8X 6 _ _ (by omega) (by omega),Bool.eq_iff_iff,decide_eq_true_iff,decide_eq_true_iff];omega
theorem z9O(c:UInt8)(m n:Int)(hm:0<=m/\m<=999999)(d:0<=n/\n<=999999):(q0C c m==q0C c n)=decide (m=n):=by
 rw[Bool.eq_iff_iff,beq_iff_eq,decide_eq_true_iff]
 constructor
 ·intro h
  rw[q0U hm,q0U d] at h;have b:=congrArg unD (List.cons.inj h).2;rw[z0S,z0S,Nat.mod_eq_of_lt (by omega),Nat.mod_eq_of_lt (by omega)] at b;omega
 ·rintro rfl;rfl
theorem z4m(b:UInt8):([48,49,50,51,52,53,54,55,56,57]:List UInt8).contains b=q1Z b:=by
 have h: ∀i:Fin 256,([48,49,50,51,52,53,54,55,56,57]:List UInt8).contains (UInt8.ofNat i.val)=q1Z (UInt8.ofNat i.val):=by decide+kernel
 have:=h ⟨b.toNat,b.toNat_lt⟩
 simpa using this
theorem q4C(p:α->Bool)(l:List α):l.dropWhile p=[]↔l.all p=true:=by
 induction l with
 |nil=>simp
 | cons a l ih=>
  rw[List.dropWhile_cons,List.all_cons]
  cases h:p a
  ·simp
  ·simp[ih]
theorem z3B(l:List UInt8):(Lib.trimS l [48,49,50,51,52,53,54,55,56,57]=[])↔l.all q1Z=true:=by
 unfold Lib.trimS Lib.trimLeftS Lib.trimRightS;rw[q4C];have e:(fun x=>([48,49,50,51,52,53,54,55,56,57]:List UInt8).contains x)=q1Z:=funext z4m;rw[e,List.all_reverse]
 constructor
 ·intro h
  by_cases b:l.reverse.dropWhile q1Z=[]
  ·rw[q4C,List.all_reverse] at b;exact b
  ·exfalso
   have d:=List.head_dropWhile_not q1Z b;have i:=List.all_eq_true.1 h _ (List.head_mem b);rw[i] at d;cases d
 ·intro h
  have:l.reverse.dropWhile q1Z=[]:=by rw[q4C,List.all_reverse];exact h
  rw[this];rfl
end
end Go.Proofs.YtfiibpgoplcgkaaGreatDoor
