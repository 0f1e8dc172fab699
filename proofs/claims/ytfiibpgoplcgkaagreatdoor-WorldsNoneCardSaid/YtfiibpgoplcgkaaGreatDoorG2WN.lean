/- What comes in, read. -/
import Derived.Test.YtfiibpgoplcgkaaGreatDoorG1WN
import Derived.ProofKit
import Derived.Deep.Matrix
import Derived.OpenShut
import Derived.Laws.IdiomStrings
set_option linter.unusedVariables false
set_option linter.unusedSimpArgs false
set_option maxRecDepth 100000
set_option maxHeartbeats 200000
namespace Go.Proofs.YtfiibpgoplcgkaaGreatDoor
variable {w:World}{a:Addr}{u v:Value}{α:Type}{ao:Option Addr}{n cap j g:Nat}{e:TypeId}{P:Program}
section
open Go.ChangeShapes Go.WideShapes Go.ChangeAt Go.RowKit Go.Deep
theorem q9w(h:w.cell? a=some u):a=⟨a.block,a.off,none⟩:=by
 obtain⟨b,o,s⟩:=a
 cases s with
 |none=>rfl
 | some x=>
  unfold World.cell? at h
  split at h
  ·simp at h
  ·cases h
theorem z2X(b o k:Nat):(⟨b,o,none⟩:Addr).add k=⟨b,o+k,none⟩:=Addr.add_lit _ _ _
theorem z0t(h:w.cell? (a.add 0)=some u): ∃b off,a=⟨b,off,none⟩:=by
 have e:a.add 0=a:=by simp[Addr.add]
 rw[e] at h;exact⟨_,_,q9w h⟩
theorem z2B{cs:List Value}(h: ∀j (d:j<cs.length),w.cell? (a.add j)=some cs[j]):Rd w (some a) cs:=by
 intro j u d;obtain⟨i,rfl⟩:=List.getElem?_eq_some_iff.1 d;have h1:=h j i;obtain⟨b,off,rfl⟩:=z0t (h 0 (by omega));rw[z2X] at h1;exact⟨b,off,rfl,h1⟩
end
section
open Go.RowKit Go.ChangeShapes Go.WideShapes Go.ChangeAt
structure Slf{α:Type}(f:α->Value)(w:World)(ao:Option Addr)(n cap:Nat)(xs:List α):Prop where
 len:xs.length=n
 fits:n<=cap
 bound:cap<=9223372036854775807
 nil:ao=none->cap=0
 rd:Rd w ao (xs.map f)
theorem Slf.ext{f:α->Value}{w':World}{xs:List α}(h:Slf f w ao n cap xs)(k:Ext w w'):Slf f w' ao n cap xs:=
 ⟨h.len,h.fits,h.bound,h.nil,h.rd.ext k⟩
theorem Slf.at{f:α->Value}{xs:List α}(h:Slf f w ao n cap xs)(d:α)(i:j<n):
  ∃b off,ao=some ⟨b,off,none⟩/\w.cell? ⟨b,off+j,none⟩=some (f (xs.getD j d)):=by
 have l:=h.len;obtain⟨b,off,e,hc⟩:=h.rd.at (j:=j) (by simp;omega);refine⟨b,off,e,?_⟩;rw[hc,List.getElem_map,δ,γ (by omega)]
 rfl
theorem Slf.empty(f:α->Value)(w:World):Slf f w none 0 0 []:=⟨rfl,ι _,by omega,fun _=>rfl,Rd.nil _ _⟩
theorem Slf.of_own{f:α->Value}{B:Nat}{xs:List α}(h:Own w B e 1 v n (xs.map f)): ∃ao cap,v= .slice ao n cap/\Slf f w ao n cap xs:=by
 have b:=h.1;obtain⟨ao,cap,rfl,h1,h2,h3,h4⟩:=h.rd;exact⟨ao,cap,rfl,by simpa using b,h1,h2,h3,h4⟩
abbrev q1O(b:UInt8):Value:= .int .u8 (b.toNat:Int)
theorem q4b(w:World)(i d e:TypeId){l:List UInt8}(s:P.underlying i=some (.slice e))(he:P.underlying e=some (.int .u8))(o:P.underlying d=some .string)
  (r:l.length=n)(h:Rd w (some a) (l.map q1O)):(convert i d (.slice (some a) n cap)).run P w= .ok (.string ⟨l.toArray⟩) w:=by
 subst r;refine run_convert_bytes_back w i d e a cap l s he o fun j q=>?_
 obtain⟨b,off,m,hc⟩:=h.at (j:=j) (by simpa using q)
 cases m;rw[Addr.add_lit,hc];simp
theorem z1O(w:World)(e:TypeId)(l:List UInt8)(cap:Nat):
  Rd (w.alloc (.cells (bytesRow ⟨l.toArray⟩ cap) e ((bytesRow ⟨l.toArray⟩ cap).size,(bytesRow ⟨l.toArray⟩ cap).size+1))).drew (some ⟨w.heap.size,0,none⟩) (l.map q1O)/\
  (∀j,j<l.length->(w.alloc (.cells (bytesRow ⟨l.toArray⟩ cap) e ((bytesRow ⟨l.toArray⟩ cap).size,(bytesRow ⟨l.toArray⟩ cap).size+1))).drew.frozen? ⟨w.heap.size,j,none⟩=false)/\
  Ext w (w.alloc (.cells (bytesRow ⟨l.toArray⟩ cap) e ((bytesRow ⟨l.toArray⟩ cap).size,(bytesRow ⟨l.toArray⟩ cap).size+1))).drew:=by
 have d: ∀o,(w.alloc o).drew.heap[w.heap.size]? =some o:=fun o=>by simp[World.alloc,World.drew,-World.alloc_eq,-World.drew_eq]
 refine⟨fun j u i=>⟨_,_,rfl,?_⟩,fun j i=>?_,((Ext.refl w).alloc _).drew⟩
 ·simp only[World.cell?,d,Nat.zero_add]
  obtain⟨b,rfl⟩:=List.getElem?_eq_some_iff.1 i;simp only[List.length_map] at b;simp only[bytesRow];rw[Array.getElem?_append_left (by simpa using b)];simp[b]
 ·have m:l.length<=(bytesRow ⟨l.toArray⟩ cap).size:=by simp[bytesRow]
  simp only[World.frozen?,d];simp;omega
theorem q3C(l:List UInt8)(a b:Nat):(⟨l.toArray⟩:ByteArray).extract a b=⟨((l.take b).drop a).toArray⟩:=by
 apply ByteArray.ext;simp[ByteArray.extract,ByteArray.copySlice,List.drop_take]
@[go_sem high] theorem extract_head (l:List UInt8) (b:Nat):(⟨l.toArray⟩:ByteArray).extract 0 b=⟨(l.take b).toArray⟩:=by rw[q3C];rfl
@[go_sem high] theorem extract_tail (l:List UInt8) (a:Nat):(⟨l.toArray⟩:ByteArray).extract a l.length=⟨(l.drop a).toArray⟩:=by rw[q3C,List.take_length]
@[go_sem low] theorem extract_mid (l:List UInt8) (a b:Nat):(⟨l.toArray⟩:ByteArray).extract a b=⟨((l.take b).drop a).toArray⟩:=q3C l a b
theorem y0a(w:World)(d b e:TypeId)(i m o q:Int)(b0 b1 b2 b3:UInt8)(x:P.underlying d=some (.slice e))(he:P.underlying e=some (.int .u8))(s:P.underlying b=some .string)
  (r:i=(b0.toNat:Int))(h1:m=(b1.toNat:Int))(h2:o=(b2.toNat:Int))(h3:q=(b3.toNat:Int)):
  (convert d b (.slice (some ⟨w.heap.size,0,none⟩) 4 4)).run P (w.alloc (.cells #[.int .u8 i,.int .u8 m,.int .u8 o,.int .u8 q] e))= .ok (.string ⟨#[b0,b1,b2,b3]⟩) (w.alloc (.cells #[.int .u8 i,.int .u8 m,.int .u8 o,.int .u8 q] e)):=by
 subst r h1 h2 h3;exact q4b (l:=[b0,b1,b2,b3]) _ d b e x he s rfl (Rd.lit w #[.int .u8 (b0.toNat:Int),.int .u8 (b1.toNat:Int),.int .u8 (b2.toNat:Int),.int .u8 (b3.toNat:Int)] e)
theorem q2o{i:Nat}(h:i≠j):(⟨g,i,none⟩:Addr)≠⟨g,j,none⟩:=fun e=>by cases e;exact h rfl
theorem y0E{W:World}{Q r q o:Value}(E:W.cell? ⟨g,0,none⟩=some Q)(F:W.cell? ⟨g,1,none⟩=some r)(G:W.cell? ⟨g,2,none⟩=some q)(I:W.cell? ⟨g,3,none⟩=some o)(b d l m:Value):
  Rd (((((W.setCell ⟨g,0,none⟩ b).setCell ⟨g,1,none⟩ d).setCell ⟨g,2,none⟩ l).setCell ⟨g,3,none⟩ m).drew) (some ⟨g,0,none⟩) [b,d,l,m]:=by
 have a0:(W.setCell ⟨g,0,none⟩ b).cell? ⟨g,0,none⟩=some b:=World.cell?_setCell_same _ _ _ E;have a1:(W.setCell ⟨g,0,none⟩ b).cell? ⟨g,1,none⟩=some r:=by rw[World.cell?_setCell_other (h:=q2o (by decide))];exact F
 have s:(W.setCell ⟨g,0,none⟩ b).cell? ⟨g,2,none⟩=some q:=by rw[World.cell?_setCell_other (h:=q2o (by decide))];exact G
 have x:(W.setCell ⟨g,0,none⟩ b).cell? ⟨g,3,none⟩=some o:=by rw[World.cell?_setCell_other (h:=q2o (by decide))];exact I
 generalize W.setCell ⟨g,0,none⟩ b=W1 at*;have b0:(W1.setCell ⟨g,1,none⟩ d).cell? ⟨g,0,none⟩=some b:=by rw[World.cell?_setCell_other (h:=q2o (by decide))];exact a0
 have b1:(W1.setCell ⟨g,1,none⟩ d).cell? ⟨g,1,none⟩=some d:=World.cell?_setCell_same _ _ _ a1;have b2:(W1.setCell ⟨g,1,none⟩ d).cell? ⟨g,2,none⟩=some q:=by rw[World.cell?_setCell_other (h:=q2o (by decide))];exact s
 have b3:(W1.setCell ⟨g,1,none⟩ d).cell? ⟨g,3,none⟩=some o:=by rw[World.cell?_setCell_other (h:=q2o (by decide))];exact x
 generalize W1.setCell ⟨g,1,none⟩ d=W2 at*;have y:(W2.setCell ⟨g,2,none⟩ l).cell? ⟨g,0,none⟩=some b:=by rw[World.cell?_setCell_other (h:=q2o (by decide))];exact b0
 have B:(W2.setCell ⟨g,2,none⟩ l).cell? ⟨g,1,none⟩=some d:=by rw[World.cell?_setCell_other (h:=q2o (by decide))];exact b1
 have C:(W2.setCell ⟨g,2,none⟩ l).cell? ⟨g,2,none⟩=some l:=World.cell?_setCell_same _ _ _ b2;have D:(W2.setCell ⟨g,2,none⟩ l).cell? ⟨g,3,none⟩=some o:=by rw[World.cell?_setCell_other (h:=q2o (by decide))];exact b3
 generalize W2.setCell ⟨g,2,none⟩ l=W3 at*;have J:(W3.setCell ⟨g,3,none⟩ m).cell? ⟨g,0,none⟩=some b:=by rw[World.cell?_setCell_other (h:=q2o (by decide))];exact y
 have M:(W3.setCell ⟨g,3,none⟩ m).cell? ⟨g,1,none⟩=some d:=by rw[World.cell?_setCell_other (h:=q2o (by decide))];exact B
 have N:(W3.setCell ⟨g,3,none⟩ m).cell? ⟨g,2,none⟩=some l:=by rw[World.cell?_setCell_other (h:=q2o (by decide))];exact C
 have O:(W3.setCell ⟨g,3,none⟩ m).cell? ⟨g,3,none⟩=some m:=World.cell?_setCell_same _ _ _ D;intro j u i;refine⟨g,0,rfl,?_⟩;rw[Nat.zero_add,World.cell?_drew]
 match j,i with
 |0,i=>cases i;exact J
 |1,i=>cases i;exact M
 |2,i=>cases i;exact N
 |3,i=>cases i;exact O
theorem q9W{H:Type}{enc:TypeId×Value->H}{base:Nat}{m:Bool}{t:TypeId}{k:IntKind}{d:DataW H}{p:List MemPlace}
  (E:P.underlying t=some (.slice e))(he:P.underlying e=some (.int k))(r:P.cellsOf e=1)
  (D: ∃ao n cap,v= .slice ao n cap)(h:DataW.Trod enc P w base (fun _=>true) m t v d p):
  ∃ao n cap xs,v= .slice ao n cap/\Slf (fun b:Int=>Value.int k b) w ao n cap xs/\ ∀x∈xs,(Lit.int k x).wf=true:=by
 obtain⟨ao,n,cap,rfl⟩:=D;obtain⟨fuel,s⟩:=h;rcases open_ints E he r s with⟨i,_⟩|⟨a,len,q,zs,i,_,C,hm,G,_,l,o⟩
 ·simp[Value.cells] at i
  obtain⟨rfl,rfl,rfl⟩:=i;exact⟨_,_,_,[],rfl,Slf.empty _ _,by simp⟩
 ·simp[Value.cells] at i
  obtain⟨rfl,rfl,rfl⟩:=i;simp only[if_true] at G;refine⟨_,_,_,zs.take n,rfl,⟨by simp;omega,C,by unfold maxLen at hm;omega,(fun y=>by cases y),z2B fun j B=>?_⟩,fun x F=>o x (List.mem_of_mem_take F)⟩;simp only[List.length_map,Θ] at B;rw[l j (by omega),List.getElem_map,List.getElem_take,δ,γ (by omega)]
  rfl
end
end Go.Proofs.YtfiibpgoplcgkaaGreatDoor
