/- What comes in, read. -/
import Derived.Test.YthdekbmdkpcooaaGreatDoorG1CT
import Derived.ProofKit
import Derived.Deep.Matrix
import Derived.OpenShut
import Derived.Laws.IdiomStrings
set_option linter.unusedVariables false
set_option linter.unusedSimpArgs false
set_option maxRecDepth 100000
set_option maxHeartbeats 200000
namespace Go.Proofs.YthdekbmdkpcooaaGreatDoor
section
open Go.ChangeShapes Go.WideShapes Go.ChangeAt Go.RowKit Go.Deep
end
section
open Go.RowKit Go.ChangeShapes Go.WideShapes Go.ChangeAt
structure Slf {α:Type} (f:α→Value) (w:World) (ao:Option Addr) (n cap:Nat) (xs:List α):Prop where
 len:xs.length=n
 fits:n≤cap
 bound:cap≤9223372036854775807
 nil:ao=none→cap=0
 rd:Rd w ao (xs.map f)
theorem Slf.ext {α:Type} {f:α→Value} {w w':World} {ao:Option Addr} {n cap:Nat} {xs:List α} (h:Slf f w ao n cap xs) (k:Ext w w'):Slf f w' ao n cap xs:=
 ⟨h.len,h.fits,h.bound,h.nil,h.rd.ext k⟩
theorem Slf.at {α:Type} {f:α→Value} {w:World} {ao:Option Addr} {n cap:Nat} {xs:List α} (h:Slf f w ao n cap xs) (d:α) {j:Nat} (hj:j<n):
  ∃b off,ao=some ⟨b,off,none⟩∧w.cell? ⟨b,off+j,none⟩=some (f (xs.getD j d)):=by
 have hl:=h.len;obtain ⟨b,off,e,hc⟩:=h.rd.at (j:=j) (by simp;omega);refine ⟨b,off,e,?_⟩;rw[hc,List.getElem_map,List.getD_eq_getElem?_getD,List.getElem?_eq_getElem (by omega)]
 rfl
theorem Slf.of_own {α:Type} {f:α→Value} {w:World} {B:Nat} {e:TypeId} {v:Value} {n:Nat} {xs:List α} (h:Own w B e 1 v n (xs.map f)): ∃ao cap,v= .slice ao n cap∧Slf f w ao n cap xs:=by
 have hl:=h.1;obtain ⟨ao,cap,rfl,h1,h2,h3,h4⟩:=h.rd;exact ⟨ao,cap,rfl,by simpa using hl,h1,h2,h3,h4⟩
abbrev q1L (b:UInt8):Value:= .int .u8 (b.toNat:Int)
theorem q4K {P:Program} (w:World) (src dst e:TypeId) {a:Addr} {n cap:Nat} {l:List UInt8} (hs:P.underlying src=some (.slice e)) (he:P.underlying e=some (.int .u8)) (hd:P.underlying dst=some .string)
  (hl:l.length=n) (h:Rd w (some a) (l.map q1L)):(convert src dst (.slice (some a) n cap)).run P w= .ok (.string ⟨l.toArray⟩) w:=by
 subst hl;refine run_convert_bytes_back w src dst e a cap l hs he hd fun j hj=>?_
 obtain ⟨b,off,e2,hc⟩:=h.at (j:=j) (by simpa using hj)
 cases e2;rw[Addr.add_lit,hc];simp
theorem z1j (w:World) (e:TypeId) (l:List UInt8) (cap:Nat):
  Rd (w.alloc (.cells (bytesRow ⟨l.toArray⟩ cap) e ((bytesRow ⟨l.toArray⟩ cap).size,(bytesRow ⟨l.toArray⟩ cap).size+1))).drew (some ⟨w.heap.size,0,none⟩) (l.map q1L)∧
  (∀j,j<l.length→(w.alloc (.cells (bytesRow ⟨l.toArray⟩ cap) e ((bytesRow ⟨l.toArray⟩ cap).size,(bytesRow ⟨l.toArray⟩ cap).size+1))).drew.frozen? ⟨w.heap.size,j,none⟩=false)∧
  Ext w (w.alloc (.cells (bytesRow ⟨l.toArray⟩ cap) e ((bytesRow ⟨l.toArray⟩ cap).size,(bytesRow ⟨l.toArray⟩ cap).size+1))).drew:=by
 have hh: ∀o,(w.alloc o).drew.heap[w.heap.size]? =some o:=fun o=>by simp[World.alloc,World.drew,-World.alloc_eq,-World.drew_eq]
 refine ⟨fun j u hj=>⟨_,_,rfl,?_⟩,fun j hj=>?_,((Ext.refl w).alloc _).drew⟩
 ·simp only[World.cell?,hh,Nat.zero_add]
  obtain ⟨hl,rfl⟩:=List.getElem?_eq_some_iff.1 hj;simp only[List.length_map] at hl;simp only[bytesRow];rw[Array.getElem?_append_left (by simpa using hl)];simp[hl]
 ·have hs:l.length≤(bytesRow ⟨l.toArray⟩ cap).size:=by simp[bytesRow]
  simp only[World.frozen?,hh];simp;omega
theorem q2u (l:List UInt8) (a b:Nat):(⟨l.toArray⟩:ByteArray).extract a b=⟨((l.take b).drop a).toArray⟩:=by
 apply ByteArray.ext;simp[ByteArray.extract,ByteArray.copySlice,List.drop_take]
@[go_sem high] theorem extract_head (l:List UInt8) (b:Nat):(⟨l.toArray⟩:ByteArray).extract 0 b=⟨(l.take b).toArray⟩:=by rw[q2u];rfl
@[go_sem high] theorem extract_tail (l:List UInt8) (a:Nat):(⟨l.toArray⟩:ByteArray).extract a l.length=⟨(l.drop a).toArray⟩:=by rw[q2u,List.take_length]
@[go_sem low] theorem extract_mid (l:List UInt8) (a b:Nat):(⟨l.toArray⟩:ByteArray).extract a b=⟨((l.take b).drop a).toArray⟩:=q2u l a b
theorem y0C {P:Program} (w:World) (src dst e:TypeId) (V0 V1 V2 V3:Int) (b0 b1 b2 b3:UInt8) (hs:P.underlying src=some (.slice e)) (he:P.underlying e=some (.int .u8)) (hd:P.underlying dst=some .string)
  (h0:V0=(b0.toNat:Int)) (h1:V1=(b1.toNat:Int)) (h2:V2=(b2.toNat:Int)) (h3:V3=(b3.toNat:Int)):
  (convert src dst (.slice (some ⟨w.heap.size,0,none⟩) 4 4)).run P (w.alloc (.cells #[.int .u8 V0,.int .u8 V1,.int .u8 V2,.int .u8 V3] e))= .ok (.string ⟨#[b0,b1,b2,b3]⟩) (w.alloc (.cells #[.int .u8 V0,.int .u8 V1,.int .u8 V2,.int .u8 V3] e)):=by
 subst h0 h1 h2 h3;exact q4K (l:=[b0,b1,b2,b3]) _ src dst e hs he hd rfl (Rd.lit w #[.int .u8 (b0.toNat:Int),.int .u8 (b1.toNat:Int),.int .u8 (b2.toNat:Int),.int .u8 (b3.toNat:Int)] e)
theorem q2f {g i j:Nat} (h:i≠j):(⟨g,i,none⟩:Addr)≠⟨g,j,none⟩:=fun e=>by cases e;exact h rfl
theorem z9Q {W:World} {g:Nat} {u0 u1 u2 u3:Value} (d0:W.cell? ⟨g,0,none⟩=some u0) (d1:W.cell? ⟨g,1,none⟩=some u1) (d2:W.cell? ⟨g,2,none⟩=some u2) (d3:W.cell? ⟨g,3,none⟩=some u3) (v0 v1 v2 v3:Value):
  Rd (((((W.setCell ⟨g,0,none⟩ v0).setCell ⟨g,1,none⟩ v1).setCell ⟨g,2,none⟩ v2).setCell ⟨g,3,none⟩ v3).drew) (some ⟨g,0,none⟩) [v0,v1,v2,v3]:=by
 have a0:(W.setCell ⟨g,0,none⟩ v0).cell? ⟨g,0,none⟩=some v0:=World.cell?_setCell_same _ _ _ d0;have a1:(W.setCell ⟨g,0,none⟩ v0).cell? ⟨g,1,none⟩=some u1:=by rw[World.cell?_setCell_other (h:=q2f (by decide))];exact d1
 have a2:(W.setCell ⟨g,0,none⟩ v0).cell? ⟨g,2,none⟩=some u2:=by rw[World.cell?_setCell_other (h:=q2f (by decide))];exact d2
 have a3:(W.setCell ⟨g,0,none⟩ v0).cell? ⟨g,3,none⟩=some u3:=by rw[World.cell?_setCell_other (h:=q2f (by decide))];exact d3
 generalize W.setCell ⟨g,0,none⟩ v0=W1 at*;have b0:(W1.setCell ⟨g,1,none⟩ v1).cell? ⟨g,0,none⟩=some v0:=by rw[World.cell?_setCell_other (h:=q2f (by decide))];exact a0
 have b1:(W1.setCell ⟨g,1,none⟩ v1).cell? ⟨g,1,none⟩=some v1:=World.cell?_setCell_same _ _ _ a1;have b2:(W1.setCell ⟨g,1,none⟩ v1).cell? ⟨g,2,none⟩=some u2:=by rw[World.cell?_setCell_other (h:=q2f (by decide))];exact a2
 have b3:(W1.setCell ⟨g,1,none⟩ v1).cell? ⟨g,3,none⟩=some u3:=by rw[World.cell?_setCell_other (h:=q2f (by decide))];exact a3
 generalize W1.setCell ⟨g,1,none⟩ v1=W2 at*;have c0:(W2.setCell ⟨g,2,none⟩ v2).cell? ⟨g,0,none⟩=some v0:=by rw[World.cell?_setCell_other (h:=q2f (by decide))];exact b0
 have c1:(W2.setCell ⟨g,2,none⟩ v2).cell? ⟨g,1,none⟩=some v1:=by rw[World.cell?_setCell_other (h:=q2f (by decide))];exact b1
 have c2:(W2.setCell ⟨g,2,none⟩ v2).cell? ⟨g,2,none⟩=some v2:=World.cell?_setCell_same _ _ _ b2;have c3:(W2.setCell ⟨g,2,none⟩ v2).cell? ⟨g,3,none⟩=some u3:=by rw[World.cell?_setCell_other (h:=q2f (by decide))];exact b3
 generalize W2.setCell ⟨g,2,none⟩ v2=W3 at*;have e0:(W3.setCell ⟨g,3,none⟩ v3).cell? ⟨g,0,none⟩=some v0:=by rw[World.cell?_setCell_other (h:=q2f (by decide))];exact c0
 have e1:(W3.setCell ⟨g,3,none⟩ v3).cell? ⟨g,1,none⟩=some v1:=by rw[World.cell?_setCell_other (h:=q2f (by decide))];exact c1
 have e2:(W3.setCell ⟨g,3,none⟩ v3).cell? ⟨g,2,none⟩=some v2:=by rw[World.cell?_setCell_other (h:=q2f (by decide))];exact c2
 have e3:(W3.setCell ⟨g,3,none⟩ v3).cell? ⟨g,3,none⟩=some v3:=World.cell?_setCell_same _ _ _ c3;intro j u hj;refine ⟨g,0,rfl,?_⟩;rw[Nat.zero_add,World.cell?_drew]
 match j,hj with
 |0,hj=>cases hj;exact e0
 |1,hj=>cases hj;exact e1
 |2,hj=>cases hj;exact e2
 |3,hj=>cases hj;exact e3
end
end Go.Proofs.YthdekbmdkpcooaaGreatDoor
