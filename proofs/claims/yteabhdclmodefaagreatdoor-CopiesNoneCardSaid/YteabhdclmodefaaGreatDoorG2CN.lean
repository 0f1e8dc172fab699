/- What comes in, read. -/
import Derived.Test.YteabhdclmodefaaGreatDoorG1CN
import Derived.ProofKit
import Derived.Deep.Matrix
import Derived.OpenShut
import Derived.Laws.IdiomStrings
set_option linter.unusedVariables false
set_option linter.unusedSimpArgs false
set_option maxRecDepth 100000
set_option maxHeartbeats 200000
namespace Go.Proofs.YteabhdclmodefaaGreatDoor
variable {α:Type}{w:World}{ao:Option Addr}{n cap j g:Nat}{P:Program}
section
open Go.ChangeShapes Go.WideShapes Go.ChangeAt Go.RowKit Go.Deep
end
section
open Go.RowKit Go.ChangeShapes Go.WideShapes Go.ChangeAt
structure Slf{α:Type}(f:α->Value)(w:World)(ao:Option Addr)(n cap:Nat)(xs:List α):Prop where
 len:xs.length=n
 fits:n<=cap
 bound:cap<=9223372036854775807
 nil:ao=none->cap=0
 rd:Rd w ao (xs.map f)
theorem Slf.ext{f:α->Value}{w':World}{b:List α}(h:Slf f w ao n cap b)(k:Ext w w'):Slf f w' ao n cap b:=
 ⟨h.len,h.fits,h.bound,h.nil,h.rd.ext k⟩
theorem Slf.at{f:α->Value}{i:List α}(h:Slf f w ao n cap i)(d:α)(l:j<n):
  ∃b off,ao=some ⟨b,off,none⟩/\w.cell? ⟨b,off+j,none⟩=some (f (i.getD j d)):=by
 have m:=h.len;obtain⟨b,off,e,hc⟩:=h.rd.at (j:=j) (by simp;omega);refine⟨b,off,e,?_⟩;rw[hc,List.getElem_map,δ,γ (by omega)]
 rfl
theorem Slf.of_own{f:α->Value}{B:Nat}{e:TypeId}{v:Value}{b:List α}(h:Own w B e 1 v n (b.map f)): ∃ao cap,v= .slice ao n cap/\Slf f w ao n cap b:=by
 have d:=h.1;obtain⟨ao,cap,rfl,h1,h2,h3,h4⟩:=h.rd;exact⟨ao,cap,rfl,by simpa using d,h1,h2,h3,h4⟩
abbrev q1G(b:UInt8):Value:= .int .u8 (b.toNat:Int)
theorem q4E(w:World)(i d e:TypeId){a:Addr}{l:List UInt8}(s:P.underlying i=some (.slice e))(he:P.underlying e=some (.int .u8))(o:P.underlying d=some .string)
  (r:l.length=n)(h:Rd w (some a) (l.map q1G)):(convert i d (.slice (some a) n cap)).run P w= .ok (.string ⟨l.toArray⟩) w:=by
 subst r;refine run_convert_bytes_back w i d e a cap l s he o fun j q=>?_
 obtain⟨b,off,m,hc⟩:=h.at (j:=j) (by simpa using q)
 cases m;rw[Addr.add_lit,hc];simp
theorem z0h(w:World)(e:TypeId)(l:List UInt8)(cap:Nat):
  Rd (w.alloc (.cells (bytesRow ⟨l.toArray⟩ cap) e ((bytesRow ⟨l.toArray⟩ cap).size,(bytesRow ⟨l.toArray⟩ cap).size+1))).drew (some ⟨w.heap.size,0,none⟩) (l.map q1G)/\
  (∀j,j<l.length->(w.alloc (.cells (bytesRow ⟨l.toArray⟩ cap) e ((bytesRow ⟨l.toArray⟩ cap).size,(bytesRow ⟨l.toArray⟩ cap).size+1))).drew.frozen? ⟨w.heap.size,j,none⟩=false)/\
  Ext w (w.alloc (.cells (bytesRow ⟨l.toArray⟩ cap) e ((bytesRow ⟨l.toArray⟩ cap).size,(bytesRow ⟨l.toArray⟩ cap).size+1))).drew:=by
 have d: ∀o,(w.alloc o).drew.heap[w.heap.size]? =some o:=fun o=>by simp[World.alloc,World.drew,-World.alloc_eq,-World.drew_eq]
 refine⟨fun j u i=>⟨_,_,rfl,?_⟩,fun j i=>?_,((Ext.refl w).alloc _).drew⟩
 ·simp only[World.cell?,d,Nat.zero_add]
  obtain⟨b,rfl⟩:=List.getElem?_eq_some_iff.1 i;simp only[List.length_map] at b;simp only[bytesRow];rw[Array.getElem?_append_left (by simpa using b)];simp[b]
 ·have m:l.length<=(bytesRow ⟨l.toArray⟩ cap).size:=by simp[bytesRow]
  simp only[World.frozen?,d];simp;omega
theorem q2p(l:List UInt8)(a b:Nat):(⟨l.toArray⟩:ByteArray).extract a b=⟨((l.take b).drop a).toArray⟩:=by
 apply ByteArray.ext;simp[ByteArray.extract,ByteArray.copySlice,List.drop_take]
@[go_sem high] theorem extract_head (l:List UInt8) (b:Nat):(⟨l.toArray⟩:ByteArray).extract 0 b=⟨(l.take b).toArray⟩:=by rw[q2p];rfl
@[go_sem high] theorem extract_tail (l:List UInt8) (a:Nat):(⟨l.toArray⟩:ByteArray).extract a l.length=⟨(l.drop a).toArray⟩:=by rw[q2p,List.take_length]
@[go_sem low] theorem extract_mid (l:List UInt8) (a b:Nat):(⟨l.toArray⟩:ByteArray).extract a b=⟨((l.take b).drop a).toArray⟩:=q2p l a b
theorem z9B(w:World)(d b e:TypeId)(m o q r:Int)(i b1 b2 b3:UInt8)(v:P.underlying d=some (.slice e))(he:P.underlying e=some (.int .u8))(u:P.underlying b=some .string)
  (s:m=(i.toNat:Int))(h1:o=(b1.toNat:Int))(h2:q=(b2.toNat:Int))(h3:r=(b3.toNat:Int)):
  (convert d b (.slice (some ⟨w.heap.size,0,none⟩) 4 4)).run P (w.alloc (.cells #[.int .u8 m,.int .u8 o,.int .u8 q,.int .u8 r] e))= .ok (.string ⟨#[i,b1,b2,b3]⟩) (w.alloc (.cells #[.int .u8 m,.int .u8 o,.int .u8 q,.int .u8 r] e)):=by
 subst s h1 h2 h3;exact q4E (l:=[i,b1,b2,b3]) _ d b e v he u rfl (Rd.lit w #[.int .u8 (i.toNat:Int),.int .u8 (b1.toNat:Int),.int .u8 (b2.toNat:Int),.int .u8 (b3.toNat:Int)] e)
theorem q2b{i:Nat}(h:i≠j):(⟨g,i,none⟩:Addr)≠⟨g,j,none⟩:=fun e=>by cases e;exact h rfl
theorem z8j{W:World}{S r q o:Value}(G:W.cell? ⟨g,0,none⟩=some S)(I:W.cell? ⟨g,1,none⟩=some r)(J:W.cell? ⟨g,2,none⟩=some q)(M:W.cell? ⟨g,3,none⟩=some o)(b d l m:Value):
  Rd (((((W.setCell ⟨g,0,none⟩ b).setCell ⟨g,1,none⟩ d).setCell ⟨g,2,none⟩ l).setCell ⟨g,3,none⟩ m).drew) (some ⟨g,0,none⟩) [b,d,l,m]:=by
 have s:(W.setCell ⟨g,0,none⟩ b).cell? ⟨g,0,none⟩=some b:=World.cell?_setCell_same _ _ _ G;have v:(W.setCell ⟨g,0,none⟩ b).cell? ⟨g,1,none⟩=some r:=by rw[World.cell?_setCell_other (h:=q2b (by decide))];exact I
 have x:(W.setCell ⟨g,0,none⟩ b).cell? ⟨g,2,none⟩=some q:=by rw[World.cell?_setCell_other (h:=q2b (by decide))];exact J
 have y:(W.setCell ⟨g,0,none⟩ b).cell? ⟨g,3,none⟩=some o:=by rw[World.cell?_setCell_other (h:=q2b (by decide))];exact M
 generalize W.setCell ⟨g,0,none⟩ b=W1 at*;have B:(W1.setCell ⟨g,1,none⟩ d).cell? ⟨g,0,none⟩=some b:=by rw[World.cell?_setCell_other (h:=q2b (by decide))];exact s
 have b1:(W1.setCell ⟨g,1,none⟩ d).cell? ⟨g,1,none⟩=some d:=World.cell?_setCell_same _ _ _ v;have b2:(W1.setCell ⟨g,1,none⟩ d).cell? ⟨g,2,none⟩=some q:=by rw[World.cell?_setCell_other (h:=q2b (by decide))];exact x
 have b3:(W1.setCell ⟨g,1,none⟩ d).cell? ⟨g,3,none⟩=some o:=by rw[World.cell?_setCell_other (h:=q2b (by decide))];exact y
 generalize W1.setCell ⟨g,1,none⟩ d=W2 at*;have C:(W2.setCell ⟨g,2,none⟩ l).cell? ⟨g,0,none⟩=some b:=by rw[World.cell?_setCell_other (h:=q2b (by decide))];exact B
 have D:(W2.setCell ⟨g,2,none⟩ l).cell? ⟨g,1,none⟩=some d:=by rw[World.cell?_setCell_other (h:=q2b (by decide))];exact b1
 have E:(W2.setCell ⟨g,2,none⟩ l).cell? ⟨g,2,none⟩=some l:=World.cell?_setCell_same _ _ _ b2;have F:(W2.setCell ⟨g,2,none⟩ l).cell? ⟨g,3,none⟩=some o:=by rw[World.cell?_setCell_other (h:=q2b (by decide))];exact b3
 generalize W2.setCell ⟨g,2,none⟩ l=W3 at*;have N:(W3.setCell ⟨g,3,none⟩ m).cell? ⟨g,0,none⟩=some b:=by rw[World.cell?_setCell_other (h:=q2b (by decide))];exact C
 have O:(W3.setCell ⟨g,3,none⟩ m).cell? ⟨g,1,none⟩=some d:=by rw[World.cell?_setCell_other (h:=q2b (by decide))];exact D
 have Q:(W3.setCell ⟨g,3,none⟩ m).cell? ⟨g,2,none⟩=some l:=by rw[World.cell?_setCell_other (h:=q2b (by decide))];exact E
 have R:(W3.setCell ⟨g,3,none⟩ m).cell? ⟨g,3,none⟩=some m:=World.cell?_setCell_same _ _ _ F;intro j u i;refine⟨g,0,rfl,?_⟩;rw[Nat.zero_add,World.cell?_drew]
 match j,i with
 |0,i=>cases i;exact N
 |1,i=>cases i;exact O
 |2,i=>cases i;exact Q
 |3,i=>cases i;exact R
end
end Go.Proofs.YteabhdclmodefaaGreatDoor
