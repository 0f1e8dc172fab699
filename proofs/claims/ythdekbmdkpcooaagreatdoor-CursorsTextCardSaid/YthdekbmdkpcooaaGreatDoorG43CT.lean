/- Walks. -/
import Derived.Test.YthdekbmdkpcooaaGreatDoorG40CT
import Derived.Test.YthdekbmdkpcooaaGreatDoorG41CT
import Derived.Test.YthdekbmdkpcooaaGreatDoorG42CT
set_option linter.unusedVariables false
set_option linter.unusedSimpArgs false
set_option maxRecDepth 100000
set_option maxHeartbeats 12800000
namespace Go.Proofs.YthdekbmdkpcooaaGreatDoor
theorem η43 {p:Prop} (h:p):Go.RowKit.Hid p:=Lib.hid h
section
open Go.RowKit
section
variable {wb w w1 w2:World} {g gx gl gm gt:Nat} {st:IxSt} {F Y K:Nat→Prop} {σ σ':DM} {c s sure:Int} {φ:Fls} {u cnt:Nat} {B:List En} {v:Value}
theorem IxK.thru (h:IxK wb w g gx st σ K) {n:Int} {e:TE} (he:st.t n=some e): ∀x∈e.L,e.may x.1=true:=by
 obtain ⟨F,gm,gt,Y,h1⟩:=h;exact (h1.tb he).t.thru
theorem z3I (h:PInv st σ c s φ u cnt B) (x a:Int): ∀(ns:List Int) (out:Int) (k0:Nat),-1≤out→(∀n∈ns,n∈st.m.L.flatten)→
  ∃k r,q2j st x (min a 1073741824) (tellN k0 σ) ns out=(r,0,tellN k σ)∧out≤r∧(∀n∈ns,z4K (TL st n) x (min a 1073741824)≤r)∧(r=out∨ ∃n∈ns,r=z4K (TL st n) x (min a 1073741824))
 |[],out,k0,_,_=>⟨k0,out,by rw[q2j],Int.le_refl _,(fun n hn=>by cases hn),.inl rfl⟩
 | n :: ns, out,k0,ho,hn=>by
  obtain ⟨e,he⟩:=h.full n (hn n (by simp));have ht:=h.tb n e he;obtain ⟨k,_,_,hr⟩:=z8L ((h.wl he).tellN k0) ht.2.2.2.1.sort ht.2.2.2.1.ok ht.2.2.2.2 x (min a 1073741824);rw[show min (min a 1073741824) 1073741824=min a 1073741824 by omega] at hr;have hout: ∃z,z4K (TL st n) x (min a 1073741824)=z∧(∃y ok,q3A (tellN k0 σ) n e.L e.may x (min a 1073741824)=(y,ok,0,tellN (k0+k) σ)∧(if ok then max out y.2.1 else out)=max out z):=by
   rw[q3P he];by_cases hu:min a 1073741824<0
   ·rw [if_pos hu] at hr
    have hz:z4K e.L x (min a 1073741824)= -1:=by
     have h1:=q6O ht.2.2.2.1.sort x (min a 1073741824);rcases h1.2 with h2|⟨y,hy,_,h3,h4⟩
     ·exact h2
     ·have:=ht.2.2.2.1.ok y hy
      unfold q3J at this;simp at this;omega
    refine ⟨-1,hz,en0,false,by rw[hr];simp only;rw[q3B],?_⟩;rw[if_neg (by decide)];omega
   ·rw [if_neg hu] at hr
    unfold z4K
    cases hl:q2p e.L x (min a 1073741824) with
    | none=>
     rw[hl] at hr;refine ⟨-1,rfl,en0,false,by rw[hr];simp only;rw[q3B],?_⟩;rw[if_neg (by decide)];omega
    | some y=>
     rw[hl] at hr;exact ⟨y.2.1,rfl,y,true,by rw[hr];simp only;rw[q3B],by rw[if_pos rfl]⟩
  obtain ⟨z,hz,y,ok,hlm,hmx⟩:=hout;obtain ⟨k2,r,h2,h3,h4,h5⟩:=z3I h x a ns (max out z) (k0+k) (by omega) (fun m hm=>hn m (by simp[hm]));refine ⟨k2,r,?_,by omega,fun m hm=>?_,?_⟩
  ·rw[q2j,he]
   simp only;rw[hlm];simp only;rw[if_neg (fun h=>h rfl),hmx,h2]
  ·rcases List.mem_cons.1 hm with e1|hm
   ·rw[e1,hz];omega
   ·exact h4 m hm
  ·rcases h5 with h5|⟨m,hm,h5⟩
   ·rcases Int.le_total out z with h6|h6
    ·exact .inr ⟨n,by simp,by rw[h5,hz];omega⟩
    ·exact .inl (by rw[h5];omega)
   ·exact .inr ⟨m,by simp[hm],h5⟩
theorem PInv.lastIs (h:PInv st σ c s φ u cnt B) (x a:Int): ∃k r,q2j st x (min a 1073741824) σ st.m.L.flatten (z4K st.w x (min a 1073741824))=(r,0,tellN k σ)∧z2h B x (min a 1073741824) r:=by
 have h0:=q6O h.okw.sort x (min a 1073741824);have hm1: -1≤z4K st.w x (min a 1073741824):=by
  rcases h0.2 with e|⟨y,hy,_,_,h4⟩
  ·omega
  ·have:=h.okw.ok y hy
   unfold q3J at this;simp at this;omega
 obtain ⟨k,r,h1,h2,h3,h4⟩:=z3I h x a st.m.L.flatten _ 0 hm1 (fun n hn=>hn);refine ⟨k,r,h1,fun y hy q1 q2=>?_,?_⟩
 ·rcases (h.mem y).1 hy with h5|⟨n,e,he,h5⟩
  ·have:=h0.1 y h5 q1 q2;omega
  ·have q3:=(q6O (h.tb n e he).2.2.2.1.sort x (min a 1073741824)).1 y h5 q1 q2
   have q4:=h3 n (h.tb n e he).1;rw[q3P he] at q4;omega
 ·rcases h4 with e|⟨n,hn,e⟩
  ·rcases h0.2 with e2|⟨y,hy,q1,q2,q3⟩
   ·exact .inl (by omega)
   ·exact .inr ⟨y,(h.mem y).2 (.inl hy),q1,q2,by omega⟩
  ·obtain ⟨e3,he⟩:=h.full n hn
   rw[q3P he] at e;rcases (q6O (h.tb n e3 he).2.2.2.1.sort x (min a 1073741824)).2 with e2|⟨y,hy,q1,q2,q3⟩
   ·exact .inl (by omega)
   ·exact .inr ⟨y,(h.mem y).2 (.inr ⟨n,e3,he,hy⟩),q1,q2,by omega⟩
end
end
section
open Go.RowKit
section
variable {w w':World} {t g gx gm gt:Nat} {n:Int} {L:List En} {may:Int→Bool} {T Y:Nat→Prop} {st:IxSt} {v:Value} {vs:List Value} {vm:Value} {D:DataW Unit} {nn:Nat}
theorem z4T {i:Nat} (h:i<w.heap.size) (e:w'.heap[i]? =w.heap[i]?):i<w'.heap.size:=by
 rw[Array.getElem?_eq_getElem h] at e;exact (Array.getElem?_eq_some_iff.1 e).1
theorem Tb.stay (h:Tb w t g n L may T) (k: ∀i,T i→w'.heap[i]? =w.heap[i]?):Tb w' t g n L may T:=by
 obtain ⟨v,p,s,mv,D,h1,h2,h3,h4,h5,h6⟩:=h;exact ⟨v,p,s,mv,D,h1.same fun i hi=>k i (h5 i hi),h2,h3,h4,h5,fun i hi=>z4T (h6 i hi) (k i hi)⟩
theorem IxI.stay (h:IxI w gx g gm gt st v vs vm D nn Y) (k: ∀i,InX gx gm gt i∨Y i→w'.heap[i]? =w.heap[i]?):IxI w' gx g gm gt st v vs vm D nn Y:=
 ⟨h.blk.same (k _ (.inl (.inl rfl))),h.mem.same fun i hi=>hi.elim (fun e=>k i (.inl (.inr (.inl e)))) fun e=>k i (.inr (h.inY i (.inr (.inr e)))),
  q4S h.lev fun i hi=>k i (.inr (h.inY i (hi.elim .inl fun e=> .inr (.inl e)))),q2C h.map (k _ (.inl (.inr (.inr rfl)))),h.cnt,h.look,
  fun n e hn=>(h.tab n e hn).stay fun i hi=>k i (.inr hi),h.inY,fun i hi=>z4T (h.lt i hi) (k i (.inr hi)),h.apart,h.ne⟩
theorem IxY.stay (h:IxY w gx g gm gt st Y) (k: ∀i,InX gx gm gt i∨Y i→w'.heap[i]? =w.heap[i]?):IxY w' gx g gm gt st Y:=by
 obtain ⟨h0,v,vs,vm,D,nn,h1⟩:=h;exact ⟨h0,v,vs,vm,D,nn,h1.stay k⟩
end
def IXG (wb W:World) (g gx gl:Nat) (rate:Nat) (m:Man) (ws:List En) (c s:Int) (u cnt:Nat) (B:List En) (C:Cks) (sure:Int) (K:Nat→Prop):Prop:=
 ∃st σ φ gv,st.m=m∧st.w=ws∧st.rate=rate∧st.c≤cnt∧IxK wb W g gx st σ (fun i=>K i∨q7t gl gv i)∧(PInv st σ c s φ u cnt B∧z0n φ m∧q9N φ C)∧(LogM W gl g s gv (q0M C) sure∧okC C)∧(∀i,q7t gl gv i→¬K i∧wb.heap.size≤i)
section
variable {wb W W':World} {g gx gl rate:Nat} {m:Man} {ws:List En} {c s:Int} {u cnt:Nat} {B:List En} {C C':Cks} {sure:Int} {K K':Nat→Prop}
theorem IXG.base (h:IXG wb W g gx gl rate m ws c s u cnt B C sure K):Ext wb W:=by obtain ⟨st,σ,φ,gv,h1,h2,h3,h4,h5,h6,h7,h8⟩:=h;exact h5.base
theorem IXG.grow (h:IXG wb W g gx gl rate m ws c s u cnt B C sure K) (k:Ext W W'):IXG wb W' g gx gl rate m ws c s u cnt B C sure K:=by
 obtain ⟨st,σ,φ,gv,h1,h2,h3,h4,h5,h6,h7,h8⟩:=h;exact ⟨st,σ,φ,gv,h1,h2,h3,h4,h5.grow k,h6,⟨h7.1.ext k,h7.2⟩,h8⟩
theorem IXG.kExt (h:IXG wb W g gx gl rate m ws c s u cnt B C sure K) (k:Ext W W'):Stay K W W':=by
 obtain ⟨st,σ,φ,gv,h1,h2,h3,h4,h5,h6,h7,h8⟩:=h;exact fun i hi=>h5.kExt k i (.inl hi)
theorem IXG.klt (h:IXG wb W g gx gl rate m ws c s u cnt B C sure K): ∀i,K i→i<W.heap.size:=by
 obtain ⟨st,σ,φ,gv,h1,h2,h3,h4,⟨F,gm,gt,Y,q⟩,h6,h7,h8⟩:=h;exact fun i hi=>(q.k i (.inl hi)).1
theorem IXG.mono (h:IXG wb W g gx gl rate m ws c s u cnt B C sure K) {u' cnt':Nat} (hu:u≤u') (hc:cnt≤cnt'):IXG wb W g gx gl rate m ws c s u' cnt' B C sure K:=by
 obtain ⟨st,σ,φ,gv,h1,h2,h3,h4,h5,h6,h7,h8⟩:=h;exact ⟨st,σ,φ,gv,h1,h2,h3,by omega,h5,⟨h6.1.mono hu hc,h6.2⟩,h7,h8⟩
theorem IXG.more (h:IXG wb W g gx gl rate m ws c s u cnt B C sure K) (k:Ext W W') (hK: ∀i,K' i→K i∨(W.heap.size≤i∧i<W'.heap.size)):IXG wb W' g gx gl rate m ws c s u cnt B C sure K':=by
 obtain ⟨st,σ,φ,gv,h1,h2,h3,h4,h5,h6,h7,h8⟩:=h;refine ⟨st,σ,φ,gv,h1,h2,h3,h4,h5.more k (fun i hi=>?_),h6,⟨h7.1.ext k,h7.2⟩,fun i hi=>⟨fun hk=>?_,(h8 i hi).2⟩⟩
 ·rcases hi with hi|hi
  ·exact (hK i hi).imp .inl id
  ·exact .inl (.inr hi)
 ·rcases hK i hk with h10|⟨h10,_⟩
  ·exact (h8 i hi).1 h10
  ·have:=h7.1.lt hi;omega
theorem IXG.beside (h:IXG wb W g gx gl rate m ws c s u cnt B C sure K) (k: ∀i,K' i→K i):IXG wb W g gx gl rate m ws c s u cnt B C sure K':=by
 obtain ⟨st,σ,φ,gv,h1,h2,h3,h4,h5,h6,h7,h8⟩:=h;exact ⟨st,σ,φ,gv,h1,h2,h3,h4,h5.beside (fun i hi=>hi.imp (k i) id),h6,h7,fun i hi=>⟨fun hk=>(h8 i hi).1 (k i hk),(h8 i hi).2⟩⟩
theorem IXG.sideM (h:IXG wb W g gx gl rate m ws c s u cnt B C sure K) (hs:W.heap.size≤W'.heap.size) (hx:Ext wb W') (k: ∀i,i<W.heap.size→¬K i→W'.heap[i]? =W.heap[i]?) (hK: ∀i,K' i→K i∨(W.heap.size≤i∧i<W'.heap.size)):
  IXG wb W' g gx gl rate m ws c s u cnt B C sure K':=by
 obtain ⟨st,σ,φ,gv,h1,h2,h3,h4,h5,h6,h7,h8⟩:=h;refine ⟨st,σ,φ,gv,h1,h2,h3,h4,h5.sideM hs hx (fun i hi hn=>k i hi fun e=>hn (.inl e)) (fun i hi=>?_),h6,⟨h7.1.same fun i hi=>k i (h7.1.lt hi) (h8 i hi).1,h7.2⟩,fun i hi=>⟨fun hk=>?_,(h8 i hi).2⟩⟩
 ·rcases hi with hi|hi
  ·exact (hK i hi).imp .inl id
  ·exact .inl (.inr hi)
 ·rcases hK i hk with h10|⟨h10,_⟩
  ·exact (h8 i hi).1 h10
  ·have:=h7.1.lt hi;omega
theorem IXG.okB (h:IXG wb W g gx gl rate m ws c s u cnt B C sure K):okM B∧okM ws∧ws.length≤B.length:=by obtain ⟨st,σ,φ,gv,rfl,rfl,h3,h4,h5,h6,h7,h8⟩:=h;exact ⟨h6.1.okB,h6.1.okw,h6.1.wlen⟩
theorem IXG.cOk (h:IXG wb W g gx gl rate m ws c s u cnt B C sure K):okC C:=by obtain ⟨st,σ,φ,gv,rfl,rfl,h3,h4,h5,h6,h7,h8⟩:=h;exact h7.2
theorem y1F {st:IxSt} {σ:DM} {φ:Fls} {gv:Value} (h5:IxK wb W g gx st σ (fun i=>K i∨q7t gl gv i)) (h6:PInv st σ c s φ u cnt B∧z0n φ st.m∧q9N φ C) (h7:LogM W gl g s gv (q0M C) sure∧okC C) (h8: ∀i,q7t gl gv i→¬K i∧wb.heap.size≤i):
  ∃ (E :Oth) (K2:Nat→Prop),LgV E wb W g gl gv (c-(q2G E:Int)) s C sure K2∧(∀i,K i→K2 i)∧c-(u:Int)≤c-(q2G E:Int)-(q0l C:Int)∧
   ∀ (W':World) (gv':Value) (C':Cks) (sure':Int) (d e:Nat),LgV E wb W' g gl gv' (c-(q2G E:Int)) s C' sure' K2→Stay K2 W W'→q0l C'≤q0l C+d→C'.length≤C.length+e→
    ∃σ' φ',IxK wb W' g gx st σ' (fun i=>K i∨q7t gl gv' i)∧(PInv st σ' c s φ' (u+d) (cnt+e) B∧z0n φ' st.m∧q9N φ' C')∧(LogM W' gl g s gv' (q0M C') sure'∧okC C')∧(∀i,q7t gl gv' i→¬K i∧wb.heap.size≤i):=by
 obtain ⟨F,gm,gt,Y,q⟩:=h5;obtain ⟨h6,hmap,hck⟩:=h6;obtain ⟨h7,hC⟩:=h7;obtain ⟨E,e1,e2,e3,e4⟩:=q6Z h6 hck hC;have hno: ∀i,q7t gl gv i→¬F i∧¬InX gx gm gt i∧¬Y i:=fun i hi=>(q.k i (.inr hi)).2
 refine ⟨E,fun i=>K i∨InX gx gm gt i∨Y i,⟨F,σ,⟨q.i.d,h7,fun i hf hi=>(hno i hi).1 hf,q.bF,fun i hi=>(h8 i hi).2,q.ext,fun i hi=>?_⟩,e1⟩,fun i hi=> .inl hi,by omega,?_⟩
 ·rcases hi with hi|hi|hi
  ·obtain ⟨a,b,_⟩:=q.k i (.inl hi)
   exact ⟨a,b,fun hl=>(h8 i hl).1 hi⟩
  ·exact ⟨q.i.x.xlt i hi,fun hf=>(q.i.ap i hf).1 hi,fun hl=>(hno i hl).2.1 hi⟩
  ·exact ⟨q.i.x.ylt i hi,fun hf=>(q.i.ap i hf).2 hi,fun hl=>(hno i hl).2.2 hi⟩
 ·rintro W' gv' C' sure' d e ⟨F',σ',l1,l2⟩ hst hd he
  obtain ⟨φ',p1,p2,p3⟩:=h6.relog e2 l2 l1.d.okD (u':=u+d) (cnt':=cnt+e) (by omega) (by omega);have hm:φ' mapN=φ mapN:=p3 mapN fun k hk e=>(q3X hk).1 e.symm
  refine ⟨σ',φ',⟨F',gm,gt,Y,⟨⟨l1.d,q.i.x.stay fun i hi=>hst i (.inr hi),fun i hf=>⟨fun hx=>(l1.k i (.inr (.inl hx))).2.1 hf,fun hy=>(l1.k i (.inr (.inr hy))).2.1 hf⟩⟩,l1.bF,q.bX,q.bY,l1.ext,fun i hi=>?_⟩⟩,
   ⟨p1,by unfold z0n;rw[hm];exact hmap,p2⟩,⟨l1.l,l2.ok⟩,fun i hi=>⟨fun hk=>(l1.k i (.inl hk)).2.2 hi,l1.bG i hi⟩⟩
  rcases hi with hi|hi
  ·obtain ⟨_,_,c1,c2⟩:=q.k i (.inl hi)
   obtain ⟨a,b,_⟩:=l1.k i (.inl hi);exact ⟨a,b,c1,c2⟩
  ·exact ⟨l1.l.lt hi,fun hf=>l1.ap i hf hi,fun hx=>(l1.k i (.inr (.inl hx))).2.2 hi,fun hy=>(l1.k i (.inr (.inr hy))).2.2 hi⟩
theorem IXG.log (h:IXG wb W g gx gl rate m ws c s u cnt B C sure K):
  ∃ (E:Oth) (K2:Nat→Prop),LgK E wb W g gl (c-(q2G E:Int)) s C sure K2∧(∀i,K i→K2 i)∧c-(u:Int)≤c-(q2G E:Int)-(q0l C:Int)∧
   ∀(W':World) (C':Cks) (sure':Int) (d e:Nat),LgK E wb W' g gl (c-(q2G E:Int)) s C' sure' K2→Stay K2 W W'→q0l C'≤q0l C+d→C'.length≤C.length+e→IXG wb W' g gx gl rate m ws c s (u+d) (cnt+e) B C' sure' K:=by
 obtain ⟨st,σ,φ,gv,rfl,rfl,rfl,h4,h5,h6,h7,h8⟩:=h;obtain ⟨E,K2,l1,l2,l3,l4⟩:=y1F h5 h6 h7 h8;refine ⟨E,K2,l1.toK,l2,l3,fun W' C' sure' d e hl hst hd he=>?_⟩;obtain ⟨gv',hv⟩:=hl.toV;obtain ⟨σ',φ',q1,q2,q3,q4⟩:=l4 W' gv' C' sure' d e hv hst hd he;exact ⟨st,σ',φ',gv',rfl,rfl,rfl,by omega,q1,q2,q3,q4⟩
theorem z0B {fr x r:Int} {C C':Cks} {p:List UInt8} (hp:p.length≤2000) (hC:C.length<200) (hap:q1A fr C p=(x,r,C')):
  (r=0∧q0l C'≤q0l C+(p.length+24)∧C'.length≤C.length+1)∨(r=60∧x=0∧C'=C∧fr-((p.length:Int)+24)<6000):=by
 unfold q1A at hap;rw[if_neg (by omega)] at hap;by_cases hf:q4A C p=true
 ·rw [if_pos hf] at hap
  split at hap
  ·injection hap with h1 hap
   injection hap with h2 h3;exact .inr ⟨h2.symm,h1.symm,h3.symm,by omega⟩
  ·injection hap with _ hap
   injection hap with h2 hap;subst hap;rcases List.eq_nil_or_concat C with e0|⟨D,ps,e0⟩
   ·subst e0;unfold q4A at hf;simp at hf
   ·rw[List.concat_eq_append] at e0
    subst e0;refine .inl ⟨h2.symm,?_⟩;simp[q0l,q2O];omega
 ·rw [if_neg hf] at hap
  split at hap
  ·rename_i hno
   injection hap with h1 hap;injection hap with h2 h3;exact .inr ⟨h2.symm,h1.symm,h3.symm,by omega⟩
  ·injection hap with _ hap
   injection hap with h2 hap;subst hap;refine .inl ⟨h2.symm,?_⟩;simp[q0l,q4F];omega
theorem IXG.append (h:IXG wb W g gx gl rate m ws c s u cnt B C sure K) (p:List UInt8) (hp:p.length≤2000) (hC:C.length<200):
  Calls Tryz.prog 37 #[.pointer (some ⟨gl,0,none⟩),.string ⟨p.toArray⟩] W fun e w'=>
   ((∃f x C' sure',q1A f C p=(x,0,C')∧e= .returned (.tuple #[.int .i64 x,.int .i64 0])∧IXG wb w' g gx gl rate m ws c s (u+(p.length+24)) (cnt+1) B C' sure' K)∨
    (e= .returned (.tuple #[.int .i64 0,.int .i64 60])∧IXG wb w' g gx gl rate m ws c s u cnt B C sure K∧c-(u:Int)-((p.length:Int)+24)<6000))∧Stay K W w':=by
 obtain ⟨E,K2,h1,h2,h3,h4⟩:=h.log;obtain ⟨x,r,C',hap⟩: ∃x r C',q1A (c-(q2G E:Int)-(q0l C:Int)) C p=(x,r,C'):=⟨_,_,_,rfl⟩
 refine (z7V h1 p (by omega) hap rfl).mono ?_;rintro e w' ⟨rfl,k1,k2⟩;refine ⟨?_,fun i hi=>k2 i (h2 i hi)⟩;rcases z0B hp hC hap with ⟨rfl,a1,a2⟩|⟨rfl,rfl,rfl,a3⟩
 ·exact .inl ⟨_,x,C',_,hap,rfl,h4 _ _ _ _ _ k1 k2 a1 a2⟩
 ·have hs:q4Q (c-(q2G E:Int)-(q0l C':Int)) sure C' p=sure:=by
   unfold q4Q;rw[if_neg fun hh=>by rw[hap] at hh;exact absurd hh.1 (by show ¬(60:Int)=0;decide)]
  rw[hs] at k1;exact .inr ⟨rfl,h4 _ _ _ 0 0 k1 k2 (Nat.le_refl _) (Nat.le_refl _),by omega⟩
theorem IXG.same (h:IXG wb W g gx gl rate m ws c s u cnt B C sure K) {f:FuncId} {P:Program} {args:Array Value} {R:Ending→Prop} {sure':Int} (hc: ∀E c K2,LgK E wb W g gl c s C sure K2→Calls P f args W fun e w'=>R e∧LgK E wb w' g gl c s C sure' K2∧Stay K2 W w'):
  Calls P f args W fun e w'=>R e∧IXG wb w' g gx gl rate m ws c s u cnt B C sure' K∧Stay K W w':=by
 obtain ⟨E,K2,h1,h2,h3,h4⟩:=h.log;refine (hc _ _ _ h1).mono ?_;rintro e w' ⟨he,k1,k2⟩;exact ⟨he,h4 _ _ _ 0 0 k1 k2 (Nat.le_refl _) (Nat.le_refl _),fun i hi=>k2 i (h2 i hi)⟩
theorem IXG.next (h:IXG wb W g gx gl rate m ws c s u cnt B C sure K) (pos:Int) (p0: -9223372036854775808≤pos) (p1:pos≤9223372036854775807) {r:Option (Nat×List UInt8)} (he:q3N C pos=r):
  Calls Tryz.prog 48 #[.pointer (some ⟨gl,0,none⟩),.int .i64 pos] W fun e w'=>e= .returned (z1u r)∧IXG wb w' g gx gl rate m ws c s u cnt B C sure K∧Stay K W w':=
 h.same fun _ _ _ hl=>y0b hl pos p0 p1 he
theorem IXG.read (h:IXG wb W g gx gl rate m ws c s u cnt B C sure K) (pos:Int) (p0: -9223372036854775808≤pos) (p1:pos≤9223372036854775807) {p:List UInt8} {r:Int} (he:q5I C pos=(p,r)):
  Calls Tryz.prog 167 #[.pointer (some ⟨gl,0,none⟩),.int .i64 pos] W fun e w'=>e= .returned (.tuple #[.string ⟨p.toArray⟩,.int .i64 r])∧IXG wb w' g gx gl rate m ws c s u cnt B C sure K∧Stay K W w':=
 h.same fun _ _ _ hl=>y0f hl pos p0 p1 he
theorem IXG.add (h:IXG wb W g gx gl rate m ws c s u cnt B C sure K) {e:En} (he:q3J e=true) (hl:B.length<50000):
  Calls Tryz.prog 39 #[.pointer (some ⟨gx,0,none⟩),enV e] W fun r w'=>r= .returned (.int .i64 0)∧IXG wb w' g gx gl rate m (q3V e ws) c s u cnt (q3V e B) C sure K∧Stay K W w':=by
 obtain ⟨st,σ,φ,gv,h1,h2,h3,h4,h5,⟨h6,h6b⟩,⟨h7,h7b⟩,h8⟩:=h;refine (y0Z h5 he (by have:=h6.wlen;omega)).mono ?_;rintro r w' ⟨rfl,h10,h11⟩;exact ⟨rfl,⟨{st with w:=q3V e st.w},σ,φ,gv,h1,by rw[←h2],h3,h4,h10,⟨h6.add he hl,h6b⟩,⟨h7.same fun i hi=>h11 i (.inr hi),h7b⟩,h8⟩,fun i hi=>h11 i (.inl hi)⟩
theorem IXG.tells (h:IXG wb W g gx gl rate m ws c s u cnt B C sure K):Calls Tryz.prog 116 #[.pointer (some ⟨gx,0,none⟩)] W fun e w'=>
  ∃v vs,e= .returned (.agg #[.int .i64 m.nx,.int .i64 m.ck,.int .u64 m.sd,v])∧OGr w' W.heap.size 36 3 v vs m.L∧Ext W w':=by
 obtain ⟨st,σ,φ,gv,rfl,h2,h3,h4,⟨F,gm,gt,Y,q⟩,h6,h7,h8⟩:=h;exact q6t q.i.x
theorem IXG.range (h:IXG wb W g gx gl rate m ws c s u cnt B C sure K) (x a b:Int) (hl:B.length≤10000):
  Calls Tryz.prog 105 #[.pointer (some ⟨gx,0,none⟩),.int .u64 x,.int .i64 a,.int .i64 b] W fun e w'=>
   ∃ v,e= .returned (.tuple #[v,.int .i64 0])∧IXG wb w' g gx gl rate m ws c s u cnt B C sure (fun i=>K i∨v.ownBlock=some i)∧Stay K W w'∧
    w'.ownsRow W.heap.size 106 3 v (q0m B x (max a 0) (min b 1073741824)).length (ecs (q0m B x (max a 0) (min b 1073741824))):=by
 obtain ⟨st,σ,φ,gv,h1,h2,h3,h4,h5,⟨h6,h6b⟩,⟨h7,h7b⟩,h8⟩:=h;obtain ⟨k,R,hR,r1,r2,r3⟩:=h6.rangeIs x a b;refine (z7e h5 h6.full x a b hR (fun _=>⟨r1,by show R.flatten.length≤1000000;omega⟩)).mono ?_;rintro e w' ⟨v,rfl,h10,h11,h12⟩;have hrow:=h12 rfl;simp only at hrow;rw[r3] at hrow;refine ⟨v,rfl,⟨st,tellN k σ,φ,gv,h1,h2,h3,h4,h10.beside (fun i hi=>?_),⟨h6.tell k,h6b⟩,⟨h7.same fun i hi=>h11 i (.inr hi),h7b⟩,fun i hi=>⟨fun hk=>?_,(h8 i hi).2⟩⟩,fun i hi=>h11 i (.inl hi),hrow⟩
 ·rcases hi with (hi|hi)|hi
  ·exact .inl (.inl hi)
  ·exact .inr hi
  ·exact .inl (.inr hi)
 ·rcases hk with hk|hk
  ·exact (h8 i hi).1 hk
  ·have:=(q0c hrow i hk).1;have:=h7.lt hi;omega
theorem IXG.last (h:IXG wb W g gx gl rate m ws c s u cnt B C sure K) (x a:Int) (ha: -9223372036854775808≤a):
  Calls Tryz.prog 62 #[.pointer (some ⟨gx,0,none⟩),.int .u64 x,.int .i64 a] W fun e w'=>
   ∃r,e= .returned (.tuple #[.int .i64 r,.int .i64 0])∧z2h B x (min a 1073741824) r∧IXG wb w' g gx gl rate m ws c s u cnt B C sure K∧Stay K W w':=by
 obtain ⟨st,σ,φ,gv,h1,h2,h3,h4,h5,⟨h6,h6b⟩,⟨h7,h7b⟩,h8⟩:=h;obtain ⟨k,r,hR,r1⟩:=h6.lastIs x a;refine (z9z h5 h6.full x a ha hR).mono ?_;rintro e w' ⟨rfl,h10,h11⟩;exact ⟨r,rfl,r1,⟨st,tellN k σ,φ,gv,h1,h2,h3,h4,h10,⟨h6.tell k,h6b⟩,⟨h7.same fun i hi=>h11 i (.inr hi),h7b⟩,h8⟩,fun i hi=>h11 i (.inl hi)⟩
end
end
section
open Go.RowKit
section
variable {wb w:World} {g gx gl rate:Nat} {m:Man} {ws:List En} {c s:Int} {u cnt:Nat} {B:List En} {C:Cks} {sure:Int} {K:Nat→Prop}
theorem Stay.trans' {K:Nat→Prop} {w0 w1 w2:World} (h:Stay K w0 w1) (k:Stay K w1 w2):Stay K w0 w2:=fun i hi=>(k i hi).trans (h i hi)
theorem z2B (h :IXG wb w g gx gl rate m ws c s u cnt B C sure K) (P0:Int) (hp0:0≤P0) (hp1:P0≤9223372036854775807) (hB:B.length+8*(q2J C P0).length≤40000):
  Calls Tryz.prog 118 #[.pointer (some ⟨gx,0,none⟩),.pointer (some ⟨gl,0,none⟩),.int .i64 P0] w fun e w'=>
   ∃ D,IXG wb w' g gx gl rate m (q1Q D ws) c s u cnt (q1Q D B) C sure K∧Stay K w w'∧
    ((z0i m.sd (q2J C P0)=some D∧e= .returned (.int .i64 0))∨(z0i m.sd (q2J C P0)=none∧e= .returned (.int .i64 63))):=by
 have hck:okC C:=h.cOk;have HI:=η43 h;have HM:=η43 h.tells;clear h;go_enter Tryz.func118,Tryz.ntmps118;go_wp2_with fail;refine HM.out.mono ?_;rintro e w1 ⟨v,vs,rfl,ho,hx⟩;have HI1:=η43 (HI.out.grow hx);have HS1:=η43 (HI.out.kExt hx);obtain ⟨ao,cp,rfl⟩:=ho.own.slice;clear ho hx HM;have hfd: ∀(W:World) (x y z t:Value),(Instr.field 148 (.agg #[x,y,z,t]) 2).run Tryz.prog W= .ok z W:=fun _ _ _ _ _=>rfl
 go_wp2_with fail
 go_loopw [8] (fun p W=> ∃(pos:Int) (D:List En),p= .int .i64 pos∧0≤pos∧pos≤9223372036854775807∧z0i m.sd (q2J C P0)=(z0i m.sd (q2J C pos)).map (D++·)∧D.length+8*(q2J C pos).length≤8*(q2J C P0).length∧
   IXG wb W g gx gl rate m (q1Q D ws) c s u cnt (q1Q D B) C sure K∧Stay K w W) (fun p _=>(q2J C (intOf p)).length)
 case atStart=>exact ⟨P0,[],rfl,hp0,hp1,by simp,by simp,HI1.out,HS1.out⟩
 case round =>
  obtain ⟨pos,D,rfl,q0,q1,hrep,hln,hi,hst⟩:=hrel;have HRep:=η43 hrep;have HLn:=η43 hln;have HI2:=η43 hi;have HSt:=η43 hst;have HNx:=hi.next pos (by omega) q1 rfl;rw[z3v] at HNx;have hmemA: ∀r∈q2J C pos,r.1<4096*200∧r.2.length≤2000:=fun r hr=>z6A hck hr
  have hnxA: ∀a p R,q2J C pos=(a,p)::R→q2J C ((a:Int)+(p.length:Int)+12)=R:=fun a p R e=>z3g hck e
  obtain ⟨Q,hQ⟩: ∃Q,q2J C pos=Q:=⟨_,rfl⟩
  have HQ:=η43 hQ;rw[hQ] at HNx hmemA HRep HLn;clear hrep hln hi hst hQ
  cases Q with
  | nil=>
   have hnv:z1u ([]:List (Nat×List UInt8)).head? = .tuple #[.string ⟨#[]⟩,.int .i64 0,.int .i64 0,.int .i64 4]:=rfl;rw[hnv] at HNx;have HN:=η43 HNx;clear HNx hmemA hnxA hnv;go_wp2_with fail;refine HN.out.mono ?_;rintro e w2 ⟨rfl,hi,hs⟩;have HI3:=η43 hi;have HS3:=η43 (HSt.out.trans' hs);clear hi hs HN;go_wp2_with fail
   (try rw[Exit.noGoto_ret])
   go_ret;exact ⟨D,HI3.out,HS3.out,.inl ⟨by rw[HRep.out];simp[z0i],rfl⟩⟩
  | cons r R =>
   obtain ⟨a,p⟩:=r;have hnv:z1u ((a,p)::R).head? = .tuple #[.string ⟨p.toArray⟩,.int .i64 (a:Int),.int .i64 ((a:Int)+(p.length:Int)+12),.int .i64 0]:=rfl;rw[hnv] at HNx;have HN:=η43 HNx;obtain ⟨ha,hpl⟩:=hmemA _ List.mem_cons_self;simp only at ha hpl;have HNext:=η43 (hnxA _ _ _ HQ.out);have HG:=η43 (fun W=>z8S p W (by omega));clear HNx hmemA hnxA hnv;go_wp2_with fail;refine HN.out.mono ?_;rintro e w2 ⟨rfl,hi,hs⟩;have HI3:=η43 hi;have HS3:=η43 (HSt.out.trans' hs);clear hi hs HN;go_wp2_with fail;refine (HG.out _).mono ?_;rintro e w3 ⟨⟨y,rfl,hy⟩,hx⟩;have HI4:=η43 (HI3.out.grow hx);have HS4:=η43 (HS3.out.trans' (HI3.out.kExt hx));clear hx HG;obtain ⟨gb,hgb⟩: ∃gb,q4j p=gb:=⟨_,rfl⟩
   rw[hgb] at hy
   cases gb with
   | none=>
    obtain rfl:y= .tuple #[.agg #[.string ⟨#[]⟩,.int .i64 0,.slice none 0 0],.int .i64 10]:=hy;have HI5:=η43 (HI4.out.grow (q0B w3 (.cells #[.string ⟨#[]⟩,.int .i64 0,.slice none 0 0] 96)));have HS5:=η43 (HS4.out.trans' (HI4.out.kExt (q0B w3 (.cells #[.string ⟨#[]⟩,.int .i64 0,.slice none 0 0] 96))));go_wp2_with fail
    (try rw[Exit.noGoto_ret])
    go_ret;exact ⟨D,HI5.out,HS5.out,.inr ⟨by rw[HRep.out,z0i,hgb];rfl,rfl⟩⟩
   | some b =>
    obtain ⟨x,rfl,hown⟩:=hy;have hbc:=z8K hgb;obtain ⟨_,_,p3,p4,p5,p6,_⟩:=q1B hbc;obtain ⟨ao5,cp5,rfl⟩:=hown.slice;obtain ⟨n,hn⟩: ∃n,b.ev.length=n:=⟨_,rfl⟩
    have HRepS:Hid (z0i m.sd (q2J C P0)=(z0i m.sd R).map ((D++q0a m.sd a b n)++·)):=η43 (by
     rw[HRep.out,z0i,hgb,Option.bind_some,hn,Option.map_map]
     congr 1
     funext l
     simp)
    have HOkE:Hid (∀k,k<n→q3J (q2Z m.sd a b k)=true):=η43 (fun k hk=>z2k m.sd hbc (by omega) ha);have HHs:=η43 (fun W=>z2w m.sd b.st W (by omega));have HEs:=η43 (fun k=>q6a m.sd a b k);have HEl:=η43 (fun k=>q3l m.sd a b k);have HEv:Hid (∀k:Nat,q2Z m.sd a b k=(q2P m.sd b.st,(b.fi:Int)+(k:Int),(a:Int))):=η43 fun k=>rfl
    generalize q2P m.sd b.st=hh at*;have hlen:(q1Q D B).length≤B.length+D.length:=q6W D B;have hln:=HLn.out;rw[List.length_cons] at hln;rw[hn] at hown p4 p6⊢;obtain ⟨st,fi,ev⟩:=b;simp only at p3 p4 p5 p6 hn;obtain ⟨q,hq⟩: ∃q,w3.heap.size=q:=⟨_,rfl⟩
    have hext:=q0B w3 (.cells #[.string ⟨st.toArray⟩,.int .i64 (fi:Int),.slice ao5 n cp5] 96);have HB5:=η43 (Blk.new w3 96 #[.string ⟨st.toArray⟩,.int .i64 (fi:Int),.slice ao5 n cp5]);have HI5:=η43 (HI4.out.more (K':=fun i=>K i∨i=w3.heap.size) hext (fun i hi=>hi.imp id fun e=>⟨by omega,by rw[e];exact HB5.out.lt⟩));have HS5:=η43 (HS4.out.trans' (HI4.out.kExt hext));rw[hq] at HB5 HI5;have k0:(w3.alloc (.cells #[.string ⟨st.toArray⟩,.int .i64 (fi:Int),.slice ao5 n cp5] 96)).cell? ⟨q,0,none⟩=some (.string ⟨st.toArray⟩):=HB5.out.cell 0;have k2:(w3.alloc (.cells #[.string ⟨st.toArray⟩,.int .i64 (fi:Int),.slice ao5 n cp5] 96)).cell? ⟨q,2,none⟩=some (.slice ao5 n cp5):=HB5.out.cell 2;clear hext hown hgb hbc HRep hn;go_wp2_with fail;refine (HHs.out _).mono ?_;rintro e w4 ⟨rfl,rfl⟩;clear HHs;generalize w3.alloc (.cells #[.string ⟨st.toArray⟩,.int .i64 (fi:Int),.slice ao5 n cp5] 96)=w4 at*
    go_wp2_with fail
    go_loopw [50] (fun i W=> ∃k:Nat,k≤n∧i= .int .i64 (k:Int)∧IXG wb W g gx gl rate m (q1Q (D++q0a m.sd a ⟨st,fi,ev⟩ k) ws) c s u cnt (q1Q (D++q0a m.sd a ⟨st,fi,ev⟩ k) B) C sure (fun i=>K i∨i=q)∧Stay K w W∧
     Blk W q 96 #[.string ⟨st.toArray⟩,.int .i64 (fi:Int),.slice ao5 n cp5]) (fun i _=>n-(intOf i).toNat)
    case atStart=>
     refine ⟨0,Nat.zero_le _,rfl,?_,HS5.out,HB5.out⟩;rw[show q0a m.sd a ⟨st,fi,ev⟩ 0=[] from rfl,List.append_nil];exact HI5.out
    case round=>
     obtain ⟨k,hk,rfl,hi,hs,hb⟩:=hrel;have HI6:=η43 hi;have HS6:=η43 hs;have HB6:=η43 hb;by_cases hlt:k<n
     ·have hd7:decide ((k:Int)<(n:Int))=true:=decide_eq_true (by omega)
      have hle:(q1Q (D++q0a m.sd a ⟨st,fi,ev⟩ k) B).length<50000:=by
       have h1:=q6W (D++q0a m.sd a ⟨st,fi,ev⟩ k) B;rw[List.length_append,HEl.out k] at h1;omega
      have hadd:=hi.add (HOkE.out k hlt) hle
      rw [show∀L,q3V (q2Z m.sd a ⟨st,fi,ev⟩ k) (q1Q (D++q0a m.sd a ⟨st,fi,ev⟩ k) L)=q1Q (D++q0a m.sd a ⟨st,fi,ev⟩ (k+1)) L from fun L=>by
       rw[HEs.out k,←List.append_assoc,q3K (D++q0a m.sd a ⟨st,fi,ev⟩ k)];rfl,show∀L,q3V (q2Z m.sd a ⟨st,fi,ev⟩ k) (q1Q (D++q0a m.sd a ⟨st,fi,ev⟩ k) L)=q1Q (D++q0a m.sd a ⟨st,fi,ev⟩ (k+1)) L from fun L=>by
       rw[HEs.out k,←List.append_assoc,q3K (D++q0a m.sd a ⟨st,fi,ev⟩ k)];rfl,HEv.out k] at hadd
      have HA:Hid (Calls Tryz.prog 39 #[.pointer (some ⟨gx,0,none⟩),.agg #[.int .u64 hh,.int .i64 ((fi:Int)+(k:Int)),.int .i64 (a:Int)]] wr fun r w'=>r= .returned (.int .i64 0)∧
       IXG wb w' g gx gl rate m (q1Q (D++q0a m.sd a ⟨st,fi,ev⟩ (k+1)) ws) c s u cnt (q1Q (D++q0a m.sd a ⟨st,fi,ev⟩ (k+1)) B) C sure (fun i=>K i∨i=q)∧Stay (fun i=>K i∨i=q) wr w'):=η43 hadd
      have q7:IntKind.i64.wrap ((fi:Int)+(k:Int))=(fi:Int)+(k:Int):=by rw[IntKind.wrap_i64];omega
      have q8:IntKind.i64.wrap ((k:Int)+1)=(k:Int)+1:=by rw[IntKind.wrap_i64];omega
      have k1:=hb.cell 1;clear hi hs hb hadd hle;go_wp2_with fail;refine HA.out.mono ?_;rintro e w5 ⟨rfl,hi,hs⟩;have HI7:=η43 hi;have HS7:=η43 (HS6.out.trans' (fun i hi=>hs i (.inl hi)));have HB7:=η43 (HB6.out.same (hs q (.inr rfl)));clear hi hs HA;go_wp2_with fail
      go_roundw
      case rel=>exact ⟨k+1,by omega,by go_num,HI7.out,HS7.out,HB7.out⟩
      case measure=>simp[intOf];omega
     ·obtain rfl:k=n:=by omega
      have hd7:decide ((k:Int)<(k:Int))=false:=decide_eq_false (by omega);clear hi hs hb;go_wp2_with fail
      go_roundw
      case rel=>
       refine ⟨(a:Int)+(p.length:Int)+12,D++q0a m.sd a ⟨st,fi,ev⟩ k,rfl,by omega,by omega,?_,?_,HI6.out.beside (fun i hi=> .inl hi),HS6.out⟩
       ·rw[HNext.out];exact HRepS.out
       ·rw[HNext.out,List.length_append,HEl.out k];omega
      case measure=>
       show (q2J C ((a:Int)+(p.length:Int)+12)).length<(q2J C pos).length;rw[HNext.out,HQ.out,List.length_cons];omega
end
end
section
open Go.RowKit
section
variable {wb W W':World} {g gx gl rate:Nat} {m:Man} {ws:List En} {c:Int} {u cnt:Nat} {B:List En} {K K':Nat→Prop}
end
end
section
open Go.RowKit
def noI :Nat→Prop:=fun _=>False
theorem DkK.new24 (w:World) (c:Int) (h0:0≤c) (h1:c≤1048576):Calls Tryz.prog 31 #[.int .i64 c] w fun e w'=> ∃g,e= .returned (.tuple #[.pointer (some ⟨g,0,none⟩),.int .i64 0])∧DkK noO w w' g c 0 [] noI:=by
 refine (y1X w c h0 h1).mono ?_;rintro e w' ⟨g,F,rfl,h1,h2,h3⟩;exact ⟨g,rfl,F,z6b c,⟨h1,h2,h3,fun i hi=>hi.elim⟩,z9u c⟩
section
variable {wb w W W':World} {g gx gl:Nat} {m:Man} {ws:List En} {c s sure:Int} {u cnt:Nat} {B:List En} {K K':Nat→Prop}
end
end
section
open Go.RowKit
section
variable {wb w W W':World} {g gx gl rate:Nat} {m:Man} {ws:List En} {c s:Int} {st:IxSt} {σ:DM} {φ:Fls} {u cnt:Nat} {B:List En} {K:Nat→Prop}
theorem z2t (h:PInv st σ c s φ u cnt B): ∀(ns:List Int) (acc:Int→Option (List En)) (k0:Nat),(∀n∈ns,n∈st.m.L.flatten)→
  ∃k,q2v (tellN k0 σ) ns acc=((fun x=>if x∈ns then some (TL st x) else acc x),0,tellN k σ)
 |[],acc,k0,_=>⟨k0,by rw[q2v];simp⟩
 | n ::ns,acc,k0,hn=>by
  obtain ⟨e,he⟩:=h.full n (hn n (by simp));have ht:=h.tb n e he;obtain ⟨k,_,hr⟩:=z7J ((h.wl he).tellN k0) ht.2.2.2.1.sort ht.2.2.2.1.ok (by have:=ht.2.2.2.1.len;omega);rw[q3B] at hr;obtain ⟨k2,h2⟩:=z2t h ns (fun x=>if x=n then some e.L else acc x) (k0+k) (fun y hy=>hn y (by simp[hy]));refine ⟨k2,?_⟩;rw[q2v,hr];simp only;rw[h2]
  congr 1
  funext x
  by_cases h1:x∈ns
  ·rw[if_pos h1,if_pos (List.mem_cons_of_mem _ h1)]
  ·rw[if_neg h1]
   by_cases h3:x=n
   ·rw[if_pos h3,if_pos (by rw[h3];exact List.mem_cons_self),h3,q3P he]
   ·rw[if_neg h3,if_neg (by rw[List.mem_cons];exact fun h=>h.elim h3 h1)]
theorem PInv.reopen (h:PInv st σ c s φ u cnt B) {t2:Int→Option TE} (k r2 c2:Nat) (ht: ∀n,(t2 n).map TE.L=if n∈st.m.L.flatten then some (TL st n) else none) (hth: ∀n e,t2 n=some e→ ∀x∈e.L,e.may x.1=true):
  PInv ⟨st.m,r2,[],t2,c2⟩ (tellN k σ) c s φ u cnt (q2S (st.m.L.flatten.map (TL st))):=by
 have key: ∀n e,t2 n=some e→n∈st.m.L.flatten∧e.L=TL st n:=fun n e he=>by
  have:=ht n;rw[he] at this;by_cases hn:n∈st.m.L.flatten
  ·rw[if_pos hn] at this
   injection this with this;exact ⟨hn,this⟩
  ·rw[if_neg hn] at this
   cases this
 have back: ∀n,n∈st.m.L.flatten→ ∃e,t2 n=some e∧e.L=TL st n:=fun n hn=>by
  have:=ht n;rw[if_pos hn] at this
  cases he:t2 n with
  |none=>rw[he] at this;cases this
  |some e=>exact ⟨e,rfl,(key n e he).2⟩
 refine ⟨Fl.tells k h.fl,h.man,(fun n hn=>by obtain ⟨e,he,_⟩:=back n hn;exact ⟨e,he⟩),fun n e he=>?_,h.only,okM.nil,(h.unionLe _).1,fun x=>?_⟩
 ·obtain ⟨h1,h2⟩:=key n e he
  obtain ⟨e0,he0⟩:=h.full n h1;have h3:=h.tb n e0 he0;rw[q3P he0] at h2;exact ⟨h1,by rw[h2];exact h3.2.1,h3.2.2.1,by rw[h2];exact h3.2.2.2.1,hth n e he⟩
 ·rw [mem_union]
  constructor
  ·rintro ⟨L,hL,hx⟩
   obtain ⟨n,hn,rfl⟩:=List.mem_map.1 hL;obtain ⟨e,he,hl⟩:=back n hn;exact .inr ⟨n,e,he,by rw[hl];exact hx⟩
  ·rintro (hx|⟨n,e,he,hx⟩)
   ·cases hx
   ·obtain ⟨h1,h2⟩:=key n e he
    exact ⟨_,List.mem_map.2 ⟨n,h1,rfl⟩,by rw[←h2];exact hx⟩
theorem PInv.parts (h:PInv st σ c s φ u cnt B) (x:En):x∈B↔x∈st.w∨x∈q2S (st.m.L.flatten.map (TL st)):=by
 rw[h.mem x,mem_union]
 constructor
 ·rintro (hx|⟨n,e,he,hx⟩)
  ·exact .inl hx
  ·exact .inr ⟨_,List.mem_map.2 ⟨n,(h.tb n e he).1,rfl⟩,by rw[q3P he];exact hx⟩
 ·rintro (hx|⟨L,hL,hx⟩)
  ·exact .inl hx
  ·obtain ⟨n,hn,rfl⟩:=List.mem_map.1 hL
   obtain ⟨e,he⟩:=h.full n hn;exact .inr ⟨n,e,he,by rw[q3P he] at hx;exact hx⟩
end
end
section
open Go.RowKit
def DKR (wb W:World) (g gl:Nat) (m:Man) (c s:Int) (u cnt:Nat) (B:List En) (C:Cks) (sure:Int) (K:Nat→Prop):Prop:=
 ∃st σ φ gv F,st.m=m∧st.w=[]∧DkF wb W g F σ (fun i=>K i∨q7t gl gv i)∧(PInv st σ c s φ u cnt B∧z0n φ m∧q9N φ C)∧(LogM W gl g s gv (q0M C) sure∧okC C)∧(∀i,q7t gl gv i→¬K i∧wb.heap.size≤i)
section
variable {wb w W W':World} {g gx gl rate:Nat} {m:Man} {ws:List En} {c s:Int} {u cnt:Nat} {B:List En} {C C':Cks} {sure:Int} {K K':Nat→Prop}
theorem DKR.iopen (h:DKR wb W g gl m c s u cnt B C sure K) {ao:Option Addr} {cap:Nat} (hG:Grid W ao m.L.length cap m.L) (hcn:m.L.flatten.length≤cnt) (rate:Nat):
  Calls Tryz.prog 115 #[.pointer (some ⟨g,0,none⟩),.agg #[.int .i64 m.nx,.int .i64 m.ck,.int .u64 m.sd,.slice ao m.L.length cap],.float .f64 rate] W fun e w'=>
   ∃gx B2,e= .returned (.tuple #[.pointer (some ⟨gx,0,none⟩),.int .i64 0])∧IXG wb w' g gx gl rate m [] c s u cnt B2 C sure K∧(∀x,x∈B↔x∈B2)∧Stay K W w':=by
 obtain ⟨st,σ,φ,gv,F,rfl,hw,hF,⟨h6,h6m,h6c⟩,h7,h8⟩:=h;have hb:=Man.bounds h6.man;refine (z5X (m:=st.m) hF hG (by have:=hb.2.1;omega) (fun x hx=>(hb.2.2.2.1 x hx).1) h6.man.2.1 h6.man.2.2 rate).mono ?_;obtain ⟨k,ho⟩:=z2t h6 st.m.L.flatten (fun _=>none) 0 fun n hn=>hn
 have ho:q2v σ st.m.L.flatten (fun _=>none)=_:=ho;rintro e w' (⟨q1,_⟩|⟨_,q1,_⟩|⟨_,_,q1,_⟩|⟨_,_,_,gx2,t2,rfl,q1,q2,q3⟩)
 ·rw[h6.man.1] at q1;cases q1
 ·rw[h6.fl.up] at q1;cases q1
 ·rw[ho] at q1;exact absurd rfl q1
 ·rw [ho] at q1 q3
  simp only at q1 q3
  exact ⟨gx2,_,rfl,⟨⟨st.m,rate,[],t2,st.m.L.flatten.length⟩,tellN k σ,φ,gv,rfl,rfl,rfl,hcn,q1,⟨h6.reopen k rate _ q3 (fun n e he=>q1.thru (n:=n) (e:=e) he),h6m,h6c⟩,⟨h7.1.same fun i hi=>q2 i (.inr hi),h7.2⟩,h8⟩,
   fun x=>by rw[h6.parts x,hw];simp,fun i hi=>q2 i (.inl hi)⟩
end
end
section
open Go.RowKit
section
variable {wb w W W':World} {g gx gl rate:Nat} {m:Man} {ws:List En} {c s:Int} {st:IxSt} {σ:DM} {φ:Fls} {u cnt:Nat} {B:List En} {K:Nat→Prop}
theorem z2Y (T:List Int):q1X T mapN=false:=by
 unfold q1X;rw[show (mapN==z3n)=false by decide,show (q0w mapN).2.2=false by decide]
 rfl
theorem z0Y {T:List Int} {l:UInt8} (hl:q1s l=true) {n:Int} (hr:0≤n∧n≤999999) (hn:n∈T):q1X T (q0G l n)=false:=by
 have hp:=q1u hl hr;have hne:(q0G l n==z3n)=false:=by
  rw[beq_eq_false_iff_ne];intro e;rw[e] at hp;have h1:(q0w z3n).2.2=false:=by decide
  rw[hp] at h1
  cases h1
 unfold q1X;rw[hne,hp];simp only;rw[show ((n.toNat:Nat):Int)=n by omega,decide_eq_true hn];simp
theorem q8I {T:List Int} {k:Nat} (hk:k≤999999):q1X T (q0G 99 (k:Int))=false:=by
 have hp:=q1u y1r (n:=(k:Int)) (by omega);have hne:(q0G 99 (k:Int)==z3n)=false:=by
  rw[beq_eq_false_iff_ne];exact (q3X hk).2
 unfold q1X;rw[hne,hp]
 rfl
theorem PInv.names (h:PInv st σ c s φ u cnt B): ∀x∈q1Z σ,x=mapN∨(∃n∈st.m.L.flatten,x=q0G 116 n∨x=q0G 98 n)∨ ∃k:Nat,k≤999999∧x=q0G 99 (k:Int):=fun x hx=>by
 obtain ⟨l,h1,_,h2,_⟩:=h.fl;rw[h1.names] at hx;refine h.only x ?_;rw[←h2 x];obtain ⟨y,hy,rfl⟩:=List.mem_map.1 hx;intro hn
 cases hf:q0H Prod.fst y.1 l with
 |some z=>rw[hf] at hn;cases hn
 |none=>exact q1v hf y hy rfl
theorem PInv.noOrph (h:PInv st σ c s φ u cnt B):(q1Z σ).filter (q1X st.m.L.flatten)=[]:=by
 refine List.filter_eq_nil_iff.2 fun x hx=>?_
 rw[Bool.not_eq_true];rcases h.names x hx with rfl|⟨n,hn,rfl|rfl⟩|⟨k,hk,rfl⟩
 ·exact z2Y _
 ·have:=h.range hn
  exact z0Y y0a ⟨this.1,this.2.1⟩ hn
 ·have:=h.range hn
  exact z0Y (by decide) ⟨this.1,this.2.1⟩ hn
 ·exact q8I hk
theorem PInv.shortN (h:PInv st σ c s φ u cnt B): ∀x∈q1Z σ,x.length≤9223372036854775807:=fun x hx=>by
 rcases h.names x hx with rfl|⟨n,hn,rfl|rfl⟩|⟨k,hk,rfl⟩
 ·decide
 ·have:=h.range hn
  rw[q0X ⟨this.1,this.2.1⟩,List.length_cons,q0f];decide
 ·have:=h.range hn
  rw[q0X ⟨this.1,this.2.1⟩,List.length_cons,q0f];decide
 ·rw[q0X (by omega),List.length_cons,q0f];decide
end
end
section
open Go.RowKit
theorem z9P {C:Cks} (h:okC C):0≤q4r C∧q4r C≤819200:=by
 rcases List.eq_nil_or_concat C with e0|⟨D,ps,e0⟩
 ·subst e0;rw[z2J];omega
 ·rw[List.concat_eq_append] at e0
  subst e0;rw[q2T];have h1:=h.few;have h2:=h.size ps (by simp);simp at h1;omega
section
variable {φ :Fls} {n:Int} {f tab S:List UInt8} {C:Cks} {m:Man}
end
section
variable {wb W W':World} {g gx gl rate:Nat} {m:Man} {ws:List En} {c s:Int} {u cnt:Nat} {B:List En} {C C':Cks} {sure:Int} {K K':Nat→Prop}
end
end
end Go.Proofs.YthdekbmdkpcooaaGreatDoor
