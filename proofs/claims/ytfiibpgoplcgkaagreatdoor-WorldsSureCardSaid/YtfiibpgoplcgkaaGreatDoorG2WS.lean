/- What comes in, read. -/
import Derived.Test.YtfiibpgoplcgkaaGreatDoorG1WS
import Derived.ProofKit
import Derived.Deep.Matrix
import Derived.OpenShut
import Derived.Laws.IdiomStrings
import Derived.WalkLawsBesides
import Derived.Lib.SlTrimSet
set_option linter.unusedVariables false
set_option linter.unusedSimpArgs false
set_option maxRecDepth 100000
set_option maxHeartbeats 200000
namespace Go.Proofs.YtfiibpgoplcgkaaGreatDoor
variable {w:World}{a:Addr}{u v:Value}{α:Type}{ao:Option Addr}{n cap j g:Nat}{e:TypeId}{P:Program}{k:IntKind}{c:UInt8}
section
open Go.ChangeShapes Go.WideShapes Go.ChangeAt Go.RowKit Go.Deep
theorem z1M(h:w.cell? a=some u):a=⟨a.block,a.off,none⟩:=by
 obtain⟨b,o,s⟩:=a
 cases s with
 |none=>rfl
 | some x=>
  unfold World.cell? at h
  split at h
  ·simp at h
  ·cases h
theorem z9F(b o k:Nat):(⟨b,o,none⟩:Addr).add k=⟨b,o+k,none⟩:=Addr.add_lit _ _ _
theorem z8d(h:w.cell? (a.add 0)=some u): ∃b off,a=⟨b,off,none⟩:=by
 have e:a.add 0=a:=by simp[Addr.add]
 rw[e] at h;exact⟨_,_,z1M h⟩
theorem z3a{cs:List Value}(h: ∀j (d:j<cs.length),w.cell? (a.add j)=some cs[j]):Rd w (some a) cs:=by
 intro j u d;obtain⟨i,rfl⟩:=List.getElem?_eq_some_iff.1 d;have h1:=h j i;obtain⟨b,off,rfl⟩:=z8d (h 0 (by omega));rw[z9F] at h1;exact⟨b,off,rfl,h1⟩
end
section
open Go.RowKit Go.ChangeShapes Go.WideShapes Go.ChangeAt
structure Slf{α:Type}(f:α->Value)(w:World)(ao:Option Addr)(n cap:Nat)(xs:List α):Prop where
 len:xs.length=n
 fits:n<=cap
 bound:cap<=9223372036854775807
 nil:ao=none->cap=0
 rd:Rd w ao (xs.map f)
theorem Slf.ext{f:α->Value}{w':World}{xs:List α}(h:Slf f w ao n cap xs)(k:Ext w w'):Slf f w' ao n cap xs:=
 ⟨h.len,h.fits,h.bound,h.nil,h.rd.ext k⟩
theorem Slf.at{f:α->Value}{xs:List α}(h:Slf f w ao n cap xs)(d:α)(i:j<n):
  ∃b off,ao=some ⟨b,off,none⟩/\w.cell? ⟨b,off+j,none⟩=some (f (xs.getD j d)):=by
 have l:=h.len;obtain⟨b,off,e,hc⟩:=h.rd.at (j:=j) (by simp;omega);refine⟨b,off,e,?_⟩;rw[hc,List.getElem_map,δ,γ (by omega)]
 rfl
theorem Slf.empty(f:α->Value)(w:World):Slf f w none 0 0 []:=⟨rfl,ι _,by omega,fun _=>rfl,Rd.nil _ _⟩
theorem Slf.of_own{f:α->Value}{B:Nat}{xs:List α}(h:Own w B e 1 v n (xs.map f)): ∃ao cap,v= .slice ao n cap/\Slf f w ao n cap xs:=by
 have b:=h.1;obtain⟨ao,cap,rfl,h1,h2,h3,h4⟩:=h.rd;exact⟨ao,cap,rfl,by simpa using b,h1,h2,h3,h4⟩
abbrev q1Z(b:UInt8):Value:= .int .u8 (b.toNat:Int)
theorem q5F(w:World)(i d e:TypeId){l:List UInt8}(s:P.underlying i=some (.slice e))(he:P.underlying e=some (.int .u8))(o:P.underlying d=some .string)
  (r:l.length=n)(h:Rd w (some a) (l.map q1Z)):(convert i d (.slice (some a) n cap)).run P w= .ok (.string ⟨l.toArray⟩) w:=by
 subst r;refine run_convert_bytes_back w i d e a cap l s he o fun j q=>?_
 obtain⟨b,off,m,hc⟩:=h.at (j:=j) (by simpa using q)
 cases m;rw[Addr.add_lit,hc];simp
theorem z2r(w:World)(e:TypeId)(l:List UInt8)(cap:Nat):
  Rd (w.alloc (.cells (bytesRow ⟨l.toArray⟩ cap) e ((bytesRow ⟨l.toArray⟩ cap).size,(bytesRow ⟨l.toArray⟩ cap).size+1))).drew (some ⟨w.heap.size,0,none⟩) (l.map q1Z)/\
  (∀j,j<l.length->(w.alloc (.cells (bytesRow ⟨l.toArray⟩ cap) e ((bytesRow ⟨l.toArray⟩ cap).size,(bytesRow ⟨l.toArray⟩ cap).size+1))).drew.frozen? ⟨w.heap.size,j,none⟩=false)/\
  Ext w (w.alloc (.cells (bytesRow ⟨l.toArray⟩ cap) e ((bytesRow ⟨l.toArray⟩ cap).size,(bytesRow ⟨l.toArray⟩ cap).size+1))).drew:=by
 have d: ∀o,(w.alloc o).drew.heap[w.heap.size]? =some o:=fun o=>by simp[World.alloc,World.drew,-World.alloc_eq,-World.drew_eq]
 refine⟨fun j u i=>⟨_,_,rfl,?_⟩,fun j i=>?_,((Ext.refl w).alloc _).drew⟩
 ·simp only[World.cell?,d,Nat.zero_add]
  obtain⟨b,rfl⟩:=List.getElem?_eq_some_iff.1 i;simp only[List.length_map] at b;simp only[bytesRow];rw[Array.getElem?_append_left (by simpa using b)];simp[b]
 ·have m:l.length<=(bytesRow ⟨l.toArray⟩ cap).size:=by simp[bytesRow]
  simp only[World.frozen?,d];simp;omega
theorem q3Y(l:List UInt8)(a b:Nat):(⟨l.toArray⟩:ByteArray).extract a b=⟨((l.take b).drop a).toArray⟩:=by
 apply ByteArray.ext;simp[ByteArray.extract,ByteArray.copySlice,List.drop_take]
@[go_sem high] theorem extract_head (l:List UInt8) (b:Nat):(⟨l.toArray⟩:ByteArray).extract 0 b=⟨(l.take b).toArray⟩:=by rw[q3Y];rfl
@[go_sem high] theorem extract_tail (l:List UInt8) (a:Nat):(⟨l.toArray⟩:ByteArray).extract a l.length=⟨(l.drop a).toArray⟩:=by rw[q3Y,List.take_length]
@[go_sem low] theorem extract_mid (l:List UInt8) (a b:Nat):(⟨l.toArray⟩:ByteArray).extract a b=⟨((l.take b).drop a).toArray⟩:=q3Y l a b
theorem y2k(w:World)(d b e:TypeId)(m o q r:Int)(i b1 b2 b3:UInt8)(y:P.underlying d=some (.slice e))(he:P.underlying e=some (.int .u8))(x:P.underlying b=some .string)
  (s:m=(i.toNat:Int))(h1:o=(b1.toNat:Int))(h2:q=(b2.toNat:Int))(h3:r=(b3.toNat:Int)):
  (convert d b (.slice (some ⟨w.heap.size,0,none⟩) 4 4)).run P (w.alloc (.cells #[.int .u8 m,.int .u8 o,.int .u8 q,.int .u8 r] e))= .ok (.string ⟨#[i,b1,b2,b3]⟩) (w.alloc (.cells #[.int .u8 m,.int .u8 o,.int .u8 q,.int .u8 r] e)):=by
 subst s h1 h2 h3;exact q5F (l:=[i,b1,b2,b3]) _ d b e y he x rfl (Rd.lit w #[.int .u8 (i.toNat:Int),.int .u8 (b1.toNat:Int),.int .u8 (b2.toNat:Int),.int .u8 (b3.toNat:Int)] e)
theorem q3H{i:Nat}(h:i≠j):(⟨g,i,none⟩:Addr)≠⟨g,j,none⟩:=fun e=>by cases e;exact h rfl
theorem y2J{W:World}{S r q o:Value}(I:W.cell? ⟨g,0,none⟩=some S)(J:W.cell? ⟨g,1,none⟩=some r)(M:W.cell? ⟨g,2,none⟩=some q)(N:W.cell? ⟨g,3,none⟩=some o)(b d l m:Value):
  Rd (((((W.setCell ⟨g,0,none⟩ b).setCell ⟨g,1,none⟩ d).setCell ⟨g,2,none⟩ l).setCell ⟨g,3,none⟩ m).drew) (some ⟨g,0,none⟩) [b,d,l,m]:=by
 have s:(W.setCell ⟨g,0,none⟩ b).cell? ⟨g,0,none⟩=some b:=World.cell?_setCell_same _ _ _ I;have x:(W.setCell ⟨g,0,none⟩ b).cell? ⟨g,1,none⟩=some r:=by rw[World.cell?_setCell_other (h:=q3H (by decide))];exact J
 have y:(W.setCell ⟨g,0,none⟩ b).cell? ⟨g,2,none⟩=some q:=by rw[World.cell?_setCell_other (h:=q3H (by decide))];exact M
 have B:(W.setCell ⟨g,0,none⟩ b).cell? ⟨g,3,none⟩=some o:=by rw[World.cell?_setCell_other (h:=q3H (by decide))];exact N
 generalize W.setCell ⟨g,0,none⟩ b=W1 at*;have C:(W1.setCell ⟨g,1,none⟩ d).cell? ⟨g,0,none⟩=some b:=by rw[World.cell?_setCell_other (h:=q3H (by decide))];exact s
 have b1:(W1.setCell ⟨g,1,none⟩ d).cell? ⟨g,1,none⟩=some d:=World.cell?_setCell_same _ _ _ x;have b2:(W1.setCell ⟨g,1,none⟩ d).cell? ⟨g,2,none⟩=some q:=by rw[World.cell?_setCell_other (h:=q3H (by decide))];exact y
 have b3:(W1.setCell ⟨g,1,none⟩ d).cell? ⟨g,3,none⟩=some o:=by rw[World.cell?_setCell_other (h:=q3H (by decide))];exact B
 generalize W1.setCell ⟨g,1,none⟩ d=W2 at*;have D:(W2.setCell ⟨g,2,none⟩ l).cell? ⟨g,0,none⟩=some b:=by rw[World.cell?_setCell_other (h:=q3H (by decide))];exact C
 have E:(W2.setCell ⟨g,2,none⟩ l).cell? ⟨g,1,none⟩=some d:=by rw[World.cell?_setCell_other (h:=q3H (by decide))];exact b1
 have F:(W2.setCell ⟨g,2,none⟩ l).cell? ⟨g,2,none⟩=some l:=World.cell?_setCell_same _ _ _ b2;have G:(W2.setCell ⟨g,2,none⟩ l).cell? ⟨g,3,none⟩=some o:=by rw[World.cell?_setCell_other (h:=q3H (by decide))];exact b3
 generalize W2.setCell ⟨g,2,none⟩ l=W3 at*;have e0:(W3.setCell ⟨g,3,none⟩ m).cell? ⟨g,0,none⟩=some b:=by rw[World.cell?_setCell_other (h:=q3H (by decide))];exact D
 have O:(W3.setCell ⟨g,3,none⟩ m).cell? ⟨g,1,none⟩=some d:=by rw[World.cell?_setCell_other (h:=q3H (by decide))];exact E
 have Q:(W3.setCell ⟨g,3,none⟩ m).cell? ⟨g,2,none⟩=some l:=by rw[World.cell?_setCell_other (h:=q3H (by decide))];exact F
 have R:(W3.setCell ⟨g,3,none⟩ m).cell? ⟨g,3,none⟩=some m:=World.cell?_setCell_same _ _ _ G;intro j u i;refine⟨g,0,rfl,?_⟩;rw[Nat.zero_add,World.cell?_drew]
 match j,i with
 |0,i=>cases i;exact e0
 |1,i=>cases i;exact O
 |2,i=>cases i;exact Q
 |3,i=>cases i;exact R
theorem y2b{zs:List Int}(h: ∀n∈zs,(Lit.int k n).wf=true)(j:Nat)(d:(Lit.int k 0).wf=true):(Lit.int k (zs.getD j 0)).wf=true:=by
 rcases Nat.lt_or_ge j zs.length with b|b
 ·rw[δ,γ b];exact h _ (List.getElem_mem b)
 ·rw[δ,List.getElem?_eq_none b];exact d
theorem open_ints_any{H:Type}{enc:TypeId×Value->H}{base:Nat}{m:Bool}{t:TypeId}{d:DataW H}{p:List MemPlace}
  (E:P.underlying t=some (.slice e))(he:P.underlying e=some (.int k))(r:P.cellsOf e=1)
  (D: ∃ao n cap,v= .slice ao n cap)(h:DataW.Trod enc P w base (fun _=>true) m t v d p):
  ∃ao n cap xs,v= .slice ao n cap/\Slf (fun b:Int=>Value.int k b) w ao n cap xs/\ ∀x∈xs,(Lit.int k x).wf=true:=by
 obtain⟨ao,n,cap,rfl⟩:=D;obtain⟨fuel,s⟩:=h;rcases open_ints E he r s with⟨i,_⟩|⟨a,len,q,zs,i,_,C,hm,G,_,l,o⟩
 ·simp[Value.cells] at i
  obtain⟨rfl,rfl,rfl⟩:=i;exact⟨_,_,_,[],rfl,Slf.empty _ _,by simp⟩
 ·simp[Value.cells] at i
  obtain⟨rfl,rfl,rfl⟩:=i;simp only[if_true] at G;refine⟨_,_,_,zs.take n,rfl,⟨by simp;omega,C,by unfold maxLen at hm;omega,(fun y=>by cases y),z3a fun j B=>?_⟩,fun x F=>o x (List.mem_of_mem_take F)⟩;simp only[List.length_map,Θ] at B;rw[l j (by omega),List.getElem_map,List.getElem_take,δ,γ (by omega)]
  rfl
end
section
open Go.RowKit
def q5b :Nat->Nat->List UInt8
 |0,_=>[]
 |k+1,n=>UInt8.ofNat (48+n/10^k % 10)::q5b k n
theorem q0b(k n:Nat):(q5b k n).length=k:=by
 induction k with
 |zero=>rfl
 |succ k ih=>simp[q5b,ih]
def q0B(c:UInt8)(n:Int):List UInt8:=if 0<=n/\n<=999999 then c::q5b 6 n.toNat else []
theorem q6T{n:Int}(h:¬(0<=n/\n<=999999)):q0B c n=[]:=by unfold q0B;rw[κ h]
theorem q0R{n:Int}(h:0<=n/\n<=999999):q0B c n=c::q5b 6 n.toNat:=by unfold q0B;rw[ξ h]
def q2T(b:UInt8):Bool:=decide (48<=b.toNat)&&decide (b.toNat<=57)
def unD(l:List UInt8):Nat:=l.foldl (fun a b=>a*10+(b.toNat-48)) 0
def q2B(c:UInt8):Bool:=c==99||c==116||c==98
def q1L(s:List UInt8):UInt8×Nat×Bool:=
 if s.length=7/\q2B (s.getD 0 0)=true/\(s.drop 1).all q2T=true then(s.getD 0 0,unD (s.drop 1),true) else(0,0,false)
theorem q8d{s:List UInt8}(h:¬(s.length=7/\q2B (s.getD 0 0)=true/\(s.drop 1).all q2T=true)):q1L s=(0,0,false):=by unfold q1L;rw[κ h]
theorem q9i{s:List UInt8}(h:s.length=7/\q2B (s.getD 0 0)=true/\(s.drop 1).all q2T=true):q1L s=(s.getD 0 0,unD (s.drop 1),true):=by unfold q1L;rw[ξ h]
theorem y0l(l:List UInt8)(b:UInt8):unD (l++[b])=unD l*10+(b.toNat-48):=by unfold unD;rw[List.foldl_append];rfl
theorem z8t(l:List UInt8): ∀a,l.foldl (fun a b=>a*10+(b.toNat-48)) a=a*10^l.length+unD l:=by
 induction l with
 |nil=>intro a;simp[unD]
 | cons b l ih=>
  intro a;have h2:unD (b::l)=(0*10+(b.toNat-48))*10^l.length+unD l:=by
   unfold unD;rw[List.foldl_cons];exact ih _
  rw[List.foldl_cons,ih,h2,χ,Nat.pow_succ,Nat.add_mul,Nat.zero_mul,Nat.zero_add,Nat.mul_assoc,Nat.mul_comm 10,Nat.add_assoc]
theorem z5F(b:UInt8)(l:List UInt8):unD (b::l)=(b.toNat-48)*10^l.length+unD l:=by
 unfold unD;rw[List.foldl_cons,z8t];simp[unD]
theorem q6M(x:Nat):(UInt8.ofNat (48+x % 10)).toNat=48+x % 10:=by
 rw[UInt8.toNat_ofNat'];omega
theorem z0y(k n:Nat):unD (q5b k n)=n % 10^k:=by
 induction k with
 |zero=>simp[q5b,unD,Nat.mod_one]
 | succ k ih=>
  rw[q5b,z5F,q0b,ih,q6M,Nat.pow_succ,Nat.mod_mul,Nat.add_sub_cancel_left,Nat.mul_comm,Nat.add_comm]
theorem z9a(k n:Nat):(q5b k n).all q2T=true:=by
 induction k with
 |zero=>rfl
 | succ k ih=>
  rw[q5b,List.all_cons,ih,Bool.and_true];unfold q2T;rw[q6M,Ξ,decide_eq_true_iff,decide_eq_true_iff];omega
theorem y4E(l:List UInt8)(h:l.all q2T=true):unD l<10^l.length:=by
 induction l with
 |nil=>simp[unD]
 | cons b l ih=>
  rw[List.all_cons,Ξ] at h;have h2:=ih h.2;have d:b.toNat-48<=9:=by
   have:=h.1;unfold q2T at this;rw[Ξ,decide_eq_true_iff,decide_eq_true_iff] at this;omega
  rw[z5F,χ,Nat.pow_succ];have h3:(b.toNat-48)*10^l.length<=9*10^l.length:=Nat.mul_le_mul_right _ d;omega
theorem z4G(k n m:Nat):q5b k (m*10^k+n)=q5b k n:=by
 induction k generalizing m with
 |zero=>rfl
 | succ k ih=>
  have e:m*10^(k+1)+n=m*10*10^k+n:=by rw[Nat.pow_succ,Nat.mul_assoc,Nat.mul_comm 10 (10^k)]
  rw[e,q5b,q5b,ih]
  congr 2
  have b:0<10^k:=Nat.pow_pos (by decide);rw[Nat.add_comm (m*10*10^k) n,Nat.add_mul_div_right _ _ b];omega
theorem q1m{n:Int}(hc:q2B c=true)(h:0<=n/\n<=999999):q1L (q0B c n)=(c,n.toNat,true):=by
 rw[q0R h,q9i (s:=c::q5b 6 n.toNat) ⟨by rw[χ,q0b],by simpa using hc,by simpa using z9a 6 n.toNat⟩];have e:(c::q5b 6 n.toNat).drop 1=q5b 6 n.toNat:=rfl;rw[e,z0y,Nat.mod_eq_of_lt (by omega)]
 rfl
theorem q9E(k m n:Nat)(hm:m<10^k)(C:n<10^k):Op.bytesLess (q5b k m) (q5b k n)=decide (m<n):=by
 induction k generalizing m n with
 | zero=>
  have:m=0:=by omega
  have:n=0:=by omega
  subst m n
  rfl
 | succ k ih=>
  have o:0<10^k:=Nat.pow_pos (by decide);rw[Nat.pow_succ] at hm C;have q:m/10^k<10:=Nat.div_lt_of_lt_mul (by rw[Nat.mul_comm];omega);have r:n/10^k<10:=Nat.div_lt_of_lt_mul (by rw[Nat.mul_comm];omega);have y:q5b k m=q5b k (m % 10^k):=by
   conv=>lhs;rw[<-Nat.div_add_mod m (10^k),Nat.mul_comm]
   exact z4G k _ _
  have en:q5b k n=q5b k (n % 10^k):=by
   conv=>lhs;rw[<-Nat.div_add_mod n (10^k),Nat.mul_comm]
   exact z4G k _ _
  have s:=Nat.div_add_mod m (10^k);have F:=Nat.div_add_mod n (10^k);have D:=Nat.mod_lt m o;have E:=Nat.mod_lt n o;rw[q5b,q5b,y,en];unfold Op.bytesLess;rw[ih _ _ D E];have i: ∀x:Nat,x<10->(UInt8.ofNat (48+x % 10)).toNat=48+x:=fun x G=>by rw[q6M];omega
  have d:(UInt8.ofNat (48+m/10^k % 10)<UInt8.ofNat (48+n/10^k % 10))↔m/10^k<n/10^k:=by
   rw[UInt8.lt_iff_toNat_lt,i _ q,i _ r];omega
  have b:(UInt8.ofNat (48+m/10^k % 10)=UInt8.ofNat (48+n/10^k % 10))↔m/10^k=n/10^k:=by
   rw[<-UInt8.toNat_inj,i _ q,i _ r];omega
  by_cases h1:m/10^k<n/10^k
  ·rw[ζ (d.2 h1),Bool.true_or,eq_comm,decide_eq_true_iff]
   have:10^k*(m/10^k+1)<=10^k*(n/10^k):=Nat.mul_le_mul_left _ h1;rw[Nat.mul_add,Nat.mul_one] at this;omega
  ·rw [ε (fun l=>h1 (d.1 l)),Bool.false_or]
   by_cases h2:m/10^k=n/10^k
   ·rw[beq_iff_eq.2 (b.2 h2),Bool.true_and]
    rw[h2] at s;rw[Bool.eq_iff_iff,decide_eq_true_iff,decide_eq_true_iff];omega
   ·have B:(UInt8.ofNat (48+m/10^k % 10)==UInt8.ofNat (48+n/10^k % 10))=false:=beq_eq_false_iff_ne.2 fun l=>h2 (b.1 l)
    rw[B,Bool.false_and,eq_comm,decide_eq_false_iff_not];have:10^k*(n/10^k+1)<=10^k*(m/10^k):=Nat.mul_le_mul_left _ (by omega);rw[Nat.mul_add,Nat.mul_one] at this;omega
theorem z5u(c:UInt8)(m n:Int)(hm:0<=m/\m<=999999)(b:0<=n/\n<=999999):Op.bytesLess (q0B c m) (q0B c n)=decide (m<n):=by
 rw[q0R hm,q0R b];unfold Op.bytesLess;have h1:decide (c<c)=false:=ε (UInt8.lt_irrefl c);rw[h1,Bool.false_or,beq_self_eq_true,Bool.true_and,q9E 6 _ _ (by omega) (by omega),Bool.eq_iff_iff,decide_eq_true_iff,decide_eq_true_iff];omega
theorem y0O(c:UInt8)(m n:Int)(hm:0<=m/\m<=999999)(b:0<=n/\n<=999999):(q0B c m==q0B c n)=decide (m=n):=by
 rw[Bool.eq_iff_iff,beq_iff_eq,decide_eq_true_iff]
 constructor
 ·intro h
  rw[q0R hm,q0R b] at h;have h2:=congrArg unD (List.cons.inj h).2;rw[z0y,z0y,Nat.mod_eq_of_lt (by omega),Nat.mod_eq_of_lt (by omega)] at h2;omega
 ·rintro rfl;rfl
theorem z5c(b:UInt8):([48,49,50,51,52,53,54,55,56,57]:List UInt8).contains b=q2T b:=by
 have h: ∀i:Fin 256,([48,49,50,51,52,53,54,55,56,57]:List UInt8).contains (UInt8.ofNat i.val)=q2T (UInt8.ofNat i.val):=by decide+kernel
 have:=h ⟨b.toNat,b.toNat_lt⟩
 simpa using this
theorem q4W(p:α->Bool)(l:List α):l.dropWhile p=[]↔l.all p=true:=by
 induction l with
 |nil=>simp
 | cons a l ih=>
  rw[List.dropWhile_cons,List.all_cons]
  cases h:p a
  ·simp
  ·simp[ih]
theorem z3n(l:List UInt8):(Lib.trimS l [48,49,50,51,52,53,54,55,56,57]=[])↔l.all q2T=true:=by
 unfold Lib.trimS Lib.trimLeftS Lib.trimRightS;rw[q4W];have e:(fun x=>([48,49,50,51,52,53,54,55,56,57]:List UInt8).contains x)=q2T:=funext z5c;rw[e,List.all_reverse]
 constructor
 ·intro h
  by_cases b:l.reverse.dropWhile q2T=[]
  ·rw[q4W,List.all_reverse] at b;exact b
  ·exfalso
   have h2:=List.head_dropWhile_not q2T b;have h3:=List.all_eq_true.1 h _ (List.head_mem b);rw[h3] at h2;cases h2
 ·intro h
  have:l.reverse.dropWhile q2T=[]:=by rw[q4W,List.all_reverse];exact h
  rw[this];rfl
end
end Go.Proofs.YtfiibpgoplcgkaaGreatDoor
