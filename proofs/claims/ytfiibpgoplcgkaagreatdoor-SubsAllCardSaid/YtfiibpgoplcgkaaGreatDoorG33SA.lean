/- Walks. -/
import Derived.Test.YtfiibpgoplcgkaaGreatDoorG31SA
import Derived.Test.YtfiibpgoplcgkaaGreatDoorG16SA
import Derived.Test.YtfiibpgoplcgkaaGreatDoorG32SA
set_option linter.unusedVariables false
set_option linter.unusedSimpArgs false
set_option maxRecDepth 100000
set_option maxHeartbeats 12800000
namespace Go.Proofs.YtfiibpgoplcgkaaGreatDoor
variable {r:Int}{p a:List UInt8}{bd bs bn:Nat}{Q:List FM->Prop}
section
open Go.RowKit
section
variable {wb w w1 w2:World}{g gx gl gm gt:Nat}{st:IxSt}{F Y K:Nat->Prop}{σ σ':DM}{c s sure:Int}{φ:Fls}{u cnt:Nat}{B:List En}{v:Value}
theorem IxK.thru(h:IxK wb w g gx st σ K){n:Int}{e:TE}(he:st.t n=some e): ∀x∈e.L,e.may x.1=true:=by
 obtain⟨F,gm,gt,Y,b⟩:=h;exact(b.tb he).t.thru
theorem z3j(h:PInv st σ c s φ u cnt B)(x a:Int): ∀(ns:List Int) (out:Int) (k0:Nat),-1<=out->(∀n∈ns,n∈st.m.L.flatten)->
  ∃k r,q3A st x (min a 1073741824) (tellN k0 σ) ns out=(r,0,tellN k σ)/\out<=r/\(∀n∈ns,z5h (TL st n) x (min a 1073741824)<=r)/\(r=out\/ ∃n∈ns,r=z5h (TL st n) x (min a 1073741824))
 |[],out,k0,_,_=>⟨k0,out,by rw[q3A],Int.le_refl _,(fun n o=>by cases o),.inl rfl⟩
 | n :: ns, out,k0,ho,o=>by
  obtain⟨e,he⟩:=h.full n (o n (by simp));have j:=h.tb n e he;obtain⟨k,_,_,b⟩:=z9F ((h.wl he).tellN k0) j.2.2.2.1.sort j.2.2.2.1.ok j.2.2.2.2 x (min a 1073741824);rw[show min (min a 1073741824) 1073741824=min a 1073741824 by omega] at b;have i: ∃z,z5h (TL st n) x (min a 1073741824)=z/\(∃y ok,q3S (tellN k0 σ) n e.L e.may x (min a 1073741824)=(y,ok,0,tellN (k0+k) σ)/\(if ok then max out y.2.1 else out)=max out z):=by
   rw[q3N he];by_cases M:min a 1073741824<0
   ·rw [ξ M] at b
    have q:z5h e.L x (min a 1073741824)= -1:=by
     have O:=q7E j.2.2.2.1.sort x (min a 1073741824);rcases O.2 with G|⟨y,V,_,R,J⟩
     ·exact G
     ·have:=j.2.2.2.1.ok y V
      unfold q3f at this;simp at this;omega
    refine⟨-1,q,en0,false,by rw[b];simp only;rw[q3Y],?_⟩;rw[κ (by decide)];omega
   ·rw [κ M] at b
    unfold z5h
    cases hl:q3H e.L x (min a 1073741824) with
    | none=>
     rw[hl] at b;refine⟨-1,rfl,en0,false,by rw[b];simp only;rw[q3Y],?_⟩;rw[κ (by decide)];omega
    | some y=>
     rw[hl] at b;exact⟨y.2.1,rfl,y,true,by rw[b];simp only;rw[q3Y],by rw[ξ rfl]⟩
  obtain⟨z,q,y,ok,I,hmx⟩:=i;obtain⟨X,r,G,R,J,d⟩:=z3j h x a ns (max out z) (k0+k) (by omega) (fun m hm=>o m (by simp[hm]));refine⟨X,r,?_,by omega,fun m hm=>?_,?_⟩
  ·rw[q3A,he]
   simp only;rw[I];simp only;rw[κ (fun h=>h rfl),hmx,G]
  ·rcases List.mem_cons.1 hm with N|hm
   ·rw[N,q];omega
   ·exact J m hm
  ·rcases d with d|⟨m,hm,d⟩
   ·rcases Int.le_total out z with U|U
    ·exact .inr ⟨n,by simp,by rw[d,q];omega⟩
    ·exact .inl (by rw[d];omega)
   ·exact .inr ⟨m,by simp[hm],d⟩
theorem PInv.lastIs(h:PInv st σ c s φ u cnt B)(x a:Int): ∃k r,q3A st x (min a 1073741824) σ st.m.L.flatten (z5h st.w x (min a 1073741824))=(r,0,tellN k σ)/\z3H B x (min a 1073741824) r:=by
 have j:=q7E h.okw.sort x (min a 1073741824);have q: -1<=z5h st.w x (min a 1073741824):=by
  rcases j.2 with e|⟨y,b,_,_,J⟩
  ·omega
  ·have:=h.okw.ok y b
   unfold q3f at this;simp at this;omega
 obtain⟨k,r,O,V,R,J⟩:=z3j h x a st.m.L.flatten _ 0 q (fun n G=>G);refine⟨k,r,O,fun y b d i=>?_,?_⟩
 ·rcases(h.mem y).1 b with o|⟨n,e,he,o⟩
  ·have:=j.1 y o d i;omega
  ·have M:=(q7E (h.tb n e he).2.2.2.1.sort x (min a 1073741824)).1 y o d i
   have U:=R n (h.tb n e he).1;rw[q3N he] at U;omega
 ·rcases J with e|⟨n,G,e⟩
  ·rcases j.2 with N|⟨y,b,d,i,M⟩
   ·exact .inl (by omega)
   ·exact .inr ⟨y,(h.mem y).2 (.inl b),d,i,by omega⟩
  ·obtain⟨I,he⟩:=h.full n G
   rw[q3N he] at e;rcases(q7E (h.tb n I he).2.2.2.1.sort x (min a 1073741824)).2 with N|⟨y,b,d,i,M⟩
   ·exact .inl (by omega)
   ·exact .inr ⟨y,(h.mem y).2 (.inr ⟨n,I,he,b⟩),d,i,by omega⟩
end
section
variable {w w':World}{t g gx gm gt:Nat}{n:Int}{L:List En}{may:Int->Bool}{T Y:Nat->Prop}{st:IxSt}{v:Value}{vs:List Value}{vm:Value}{D:DataW Unit}{nn:Nat}
theorem z6w{i:Nat}(h:i<w.heap.size)(e:w'.heap[i]? =w.heap[i]?):i<w'.heap.size:=by
 rw[Array.getElem?_eq_getElem h] at e;exact(Array.getElem?_eq_some_iff.1 e).1
theorem Tb.stay(h:Tb w t g n L may T)(k: ∀i,T i->w'.heap[i]? =w.heap[i]?):Tb w' t g n L may T:=by
 obtain⟨v,p,s,mv,D,j,o,q,x,d,y⟩:=h;exact⟨v,p,s,mv,D,j.same fun i b=>k i (d i b),o,q,x,d,fun i b=>z6w (y i b) (k i b)⟩
theorem IxI.stay(h:IxI w gx g gm gt st v vs vm D nn Y)(k: ∀i,InX gx gm gt i\/Y i->w'.heap[i]? =w.heap[i]?):IxI w' gx g gm gt st v vs vm D nn Y:=
 ⟨h.blk.same (k _ (.inl (.inl rfl))),h.mem.same fun i b=>b.elim (fun e=>k i (.inl (.inr (.inl e)))) fun e=>k i (.inr (h.inY i (.inr (.inr e)))),
  q4w h.lev fun i b=>k i (.inr (h.inY i (b.elim .inl fun e=> .inr (.inl e)))),q2X h.map (k _ (.inl (.inr (.inr rfl)))),h.cnt,h.look,
  fun n e d=>(h.tab n e d).stay fun i b=>k i (.inr b),h.inY,fun i b=>z6w (h.lt i b) (k i (.inr b)),h.apart,h.ne⟩
theorem IxY.stay(h:IxY w gx g gm gt st Y)(k: ∀i,InX gx gm gt i\/Y i->w'.heap[i]? =w.heap[i]?):IxY w' gx g gm gt st Y:=by
 obtain⟨b,v,vs,vm,D,nn,d⟩:=h;exact⟨b,v,vs,vm,D,nn,d.stay k⟩
end
def IXG(wb W:World)(g gx gl:Nat)(rate:Nat)(m:Man)(ws:List En)(c s:Int)(u cnt:Nat)(B:List En)(C:Cks)(sure:Int)(K:Nat->Prop):Prop:=
 ∃st σ φ gv,st.m=m/\st.w=ws/\st.rate=rate/\st.c<=cnt/\IxK wb W g gx st σ (fun i=>K i\/q8V gl gv i)/\(PInv st σ c s φ u cnt B/\q6J φ m/\z9s st φ σ C sure)/\(LogM W gl g s gv (q0M C) sure/\okC C)/\(∀i,q8V gl gv i->¬K i/\wb.heap.size<=i)
section
variable {wb W W':World}{g gx gl rate:Nat}{m:Man}{ws:List En}{c s:Int}{u cnt:Nat}{B:List En}{C C':Cks}{sure:Int}{K K':Nat->Prop}
theorem IXG.base(h:IXG wb W g gx gl rate m ws c s u cnt B C sure K):Ext wb W:=by obtain⟨st,σ,φ,d,i,j,o,q,b,x,y,G⟩:=h;exact b.base
theorem IXG.grow(h:IXG wb W g gx gl rate m ws c s u cnt B C sure K)(k:Ext W W'):IXG wb W' g gx gl rate m ws c s u cnt B C sure K:=by
 obtain⟨st,σ,φ,d,i,j,o,q,x,y,b,G⟩:=h;exact⟨st,σ,φ,d,i,j,o,q,x.grow k,y,⟨b.1.ext k,b.2⟩,G⟩
theorem IXG.kExt(h:IXG wb W g gx gl rate m ws c s u cnt B C sure K)(k:Ext W W'):Stay K W W':=by
 obtain⟨st,σ,φ,j,o,q,x,y,b,G,I,J⟩:=h;exact fun i d=>b.kExt k i (.inl d)
theorem IXG.klt(h:IXG wb W g gx gl rate m ws c s u cnt B C sure K): ∀i,K i->i<W.heap.size:=by
 obtain⟨st,σ,φ,d,j,o,x,y,⟨F,gm,gt,Y,q⟩,G,I,J⟩:=h;exact fun i b=>(q.k i (.inl b)).1
theorem IXG.mono(h:IXG wb W g gx gl rate m ws c s u cnt B C sure K){u' cnt':Nat}(G:u<=u')(hc:cnt<=cnt'):IXG wb W g gx gl rate m ws c s u' cnt' B C sure K:=by
 obtain⟨st,σ,φ,d,i,j,o,I,q,b,x,y⟩:=h;exact⟨st,σ,φ,d,i,j,o,by omega,q,⟨b.1.mono G hc,b.2⟩,x,y⟩
theorem IXG.more(h:IXG wb W g gx gl rate m ws c s u cnt B C sure K)(k:Ext W W')(hK: ∀i,K' i->K i\/(W.heap.size<=i/\i<W'.heap.size)):IXG wb W' g gx gl rate m ws c s u cnt B C sure K':=by
 obtain⟨st,σ,φ,q,x,y,G,I,J,M,j,o⟩:=h;refine⟨st,σ,φ,q,x,y,G,I,J.more k (fun i b=>?_),M,⟨j.1.ext k,j.2⟩,fun i b=>⟨fun N=>?_,(o i b).2⟩⟩
 ·rcases b with b|b
  ·exact(hK i b).imp .inl id
  ·exact .inl (.inr b)
 ·rcases hK i N with d|⟨d,_⟩
  ·exact(o i b).1 d
  ·have:=j.1.lt b;omega
theorem IXG.beside(h:IXG wb W g gx gl rate m ws c s u cnt B C sure K)(k: ∀i,K' i->K i):IXG wb W g gx gl rate m ws c s u cnt B C sure K':=by
 obtain⟨st,σ,φ,j,o,q,x,y,G,I,J,d⟩:=h;exact⟨st,σ,φ,j,o,q,x,y,G.beside (fun i b=>b.imp (k i) id),I,J,fun i b=>⟨fun M=>(d i b).1 (k i M),(d i b).2⟩⟩
theorem IXG.sideM(h:IXG wb W g gx gl rate m ws c s u cnt B C sure K)(R:W.heap.size<=W'.heap.size)(U:Ext wb W')(k: ∀i,i<W.heap.size->¬K i->W'.heap[i]? =W.heap[i]?)(hK: ∀i,K' i->K i\/(W.heap.size<=i/\i<W'.heap.size)):
  IXG wb W' g gx gl rate m ws c s u cnt B C sure K':=by
 obtain⟨st,σ,φ,q,x,y,G,I,J,M,j,o⟩:=h;refine⟨st,σ,φ,q,x,y,G,I,J.sideM R U (fun i b O=>k i b fun e=>O (.inl e)) (fun i b=>?_),M,⟨j.1.same fun i b=>k i (j.1.lt b) (o i b).1,j.2⟩,fun i b=>⟨fun N=>?_,(o i b).2⟩⟩
 ·rcases b with b|b
  ·exact(hK i b).imp .inl id
  ·exact .inl (.inr b)
 ·rcases hK i N with d|⟨d,_⟩
  ·exact(o i b).1 d
  ·have:=j.1.lt b;omega
theorem IXG.okB(h:IXG wb W g gx gl rate m ws c s u cnt B C sure K):okM B/\okM ws/\ws.length<=B.length:=by obtain⟨st,σ,φ,d,rfl,rfl,i,j,o,b,q,x⟩:=h;exact⟨b.1.okB,b.1.okw,b.1.wlen⟩
theorem IXG.cOk(h:IXG wb W g gx gl rate m ws c s u cnt B C sure K):okC C:=by obtain⟨st,σ,φ,d,rfl,rfl,i,j,o,q,b,x⟩:=h;exact b.2
theorem y2L{st:IxSt}{σ:DM}{φ:Fls}{N:Value}(h5:IxK wb W g gx st σ (fun i=>K i\/q8V gl N i))(V:PInv st σ c s φ u cnt B/\q6J φ st.m/\z9s st φ σ C sure)(X:LogM W gl g s N (q0M C) sure/\okC C)(h8: ∀i,q8V gl N i->¬K i/\wb.heap.size<=i):
  ∃ (E :Oth) (K2:Nat->Prop),LgV E wb W g gl N (c-(q1V E:Int)) s C sure K2/\(∀i,K i->K2 i)/\c-(u:Int)<=c-(q1V E:Int)-(q0j C:Int)/\
   ∀ (W':World) (I:Value) (C':Cks) (o:Int) (d e:Nat),LgV E wb W' g gl I (c-(q1V E:Int)) s C' o K2->Stay K2 W W'->q0j C'<=q0j C+d->C'.length<=C.length+e->
    ∃σ' G,IxK wb W' g gx st σ' (fun i=>K i\/q8V gl I i)/\(PInv st σ' c s G (u+d) (cnt+e) B/\q6J G st.m/\z9s st G σ' C' o)/\(LogM W' gl g s I (q0M C') o/\okC C')/\(∀i,q8V gl I i->¬K i/\wb.heap.size<=i):=by
 obtain⟨F,gm,gt,Y,q⟩:=h5;obtain⟨V,U,O⟩:=V;obtain⟨X,hC⟩:=X;obtain⟨E,e1,e2,e3,e4⟩:=q8D V O.toCksS hC;have M: ∀i,q8V gl N i->¬F i/\¬InX gx gm gt i/\¬Y i:=fun i j=>(q.k i (.inr j)).2
 refine⟨E,fun i=>K i\/InX gx gm gt i\/Y i,⟨F,σ,⟨q.i.d,X,fun i J j=>(M i j).1 J,q.bF,fun i j=>(h8 i j).2,q.ext,fun i j=>?_⟩,e1⟩,fun i j=> .inl j,by omega,?_⟩
 ·rcases j with j|j|j
  ·obtain⟨a,b,_⟩:=q.k i (.inl j)
   exact⟨a,b,fun R=>(h8 i R).1 j⟩
  ·exact⟨q.i.x.xlt i j,fun J=>(q.i.ap i J).1 j,fun R=>(M i R).2.1 j⟩
  ·exact⟨q.i.x.ylt i j,fun J=>(q.i.ap i J).2 j,fun R=>(M i R).2.2 j⟩
 ·rintro W' I C' o d e ⟨F',σ',y,l2⟩ a0 hd he
  obtain⟨G,p1,p2,p3⟩:=V.relog e2 l2 y.d.okD (u':=u+d) (cnt':=cnt+e) (by omega) (by omega);have hm:G mapN=φ mapN:=p3 mapN fun k Z e=>(q2h Z).1 e.symm
  refine⟨σ',G,⟨F',gm,gt,Y,⟨⟨y.d,q.i.x.stay fun i j=>a0 i (.inr j),fun i J=>⟨fun hx=>(y.k i (.inr (.inl hx))).2.1 J,fun hy=>(y.k i (.inr (.inr hy))).2.1 J⟩⟩,y.bF,q.bX,q.bY,y.ext,fun i j=>?_⟩⟩,
   ⟨p1,by unfold q6J;rw[hm];exact U,p2,O.old⟩,⟨y.l,l2.ok⟩,fun i j=>⟨fun Z=>(y.k i (.inl Z)).2.2 j,y.bG i j⟩⟩
  rcases j with j|j
  ·obtain⟨_,_,c1,c2⟩:=q.k i (.inl j)
   obtain⟨a,b,_⟩:=y.k i (.inl j);exact⟨a,b,c1,c2⟩
  ·exact⟨y.l.lt j,fun J=>y.ap i J j,fun hx=>(y.k i (.inr (.inl hx))).2.2 j,fun hy=>(y.k i (.inr (.inr hy))).2.2 j⟩
theorem IXG.log(h:IXG wb W g gx gl rate m ws c s u cnt B C sure K):
  ∃ (E:Oth) (j:Nat->Prop),LgK E wb W g gl (c-(q1V E:Int)) s C sure j/\(∀i,K i->j i)/\c-(u:Int)<=c-(q1V E:Int)-(q0j C:Int)/\
   ∀(W':World) (C':Cks) (b:Int) (d e:Nat),LgK E wb W' g gl (c-(q1V E:Int)) s C' b j->Stay j W W'->q0j C'<=q0j C+d->C'.length<=C.length+e->IXG wb W' g gx gl rate m ws c s (u+d) (cnt+e) B C' b K:=by
 obtain⟨st,σ,φ,gv,rfl,rfl,rfl,h4,y,G,I,J⟩:=h;obtain⟨E,j,R,U,V,X⟩:=y2L y G I J;refine⟨E,j,R.toK,U,V,fun W' C' b d e N q M he=>?_⟩;obtain⟨o,O⟩:=N.toV;obtain⟨σ',x,Z,q2,q3,q4⟩:=X W' o C' b d e O q M he;exact⟨st,σ',x,o,rfl,rfl,rfl,by omega,Z,q2,q3,q4⟩
theorem CksS.kp{φ b:Fls}{σ σ':DM}{k:Int}(h:CksS φ σ C k)(o:Kp σ σ')(d:Fl σ c s φ u cnt)(j:y0I b C):CksS b σ' C k:=
 ⟨j,h.sr.kp o d.up (by obtain⟨l,i,_⟩:=d;exact i.fine),h.le⟩
theorem PInv.tellB{st:IxSt}{σ:DM}{φ:Fls}{k0:Int}(h:PInv st σ c s φ u cnt B)(k:Nat)(b:q6J φ m/\z9s st φ σ C k0):q6J φ m/\z9s st φ (tellN k σ) C k0:=⟨b.1,b.2.toCksS.kp (Kp.tells k σ) h.fl b.2.i,b.2.old⟩
theorem z0e{fr x:Int}{C C':Cks}(I:p.length<=2000)(G:C.length<200)(b:q1H fr C p=(x,r,C')):
  (r=0/\q0j C'<=q0j C+(p.length+24)/\C'.length<=C.length+1)\/(r=60/\x=0/\C'=C/\fr-((p.length:Int)+24)<6000):=by
 unfold q1H at b;rw[κ (by omega)] at b;by_cases j:q4H C p=true
 ·rw [ξ j] at b
  split at b
  ·injection b with o b
   injection b with d q;exact .inr ⟨d.symm,o.symm,q.symm,by omega⟩
  ·injection b with _ b
   injection b with d b;subst b;rcases List.eq_nil_or_concat C with i|⟨D,ps,i⟩
   ·subst i;unfold q4H at j;simp at j
   ·rw[List.concat_eq_append] at i
    subst i;refine .inl ⟨d.symm,?_⟩;simp[q0j,q2P];omega
 ·rw [κ j] at b
  split at b
  ·rename_i y
   injection b with o b;injection b with d q;exact .inr ⟨d.symm,o.symm,q.symm,by omega⟩
  ·injection b with _ b
   injection b with d b;subst b;refine .inl ⟨d.symm,?_⟩;simp[q0j,q4n];omega
theorem IXG.append(h:IXG wb W g gx gl rate m ws c s u cnt B C sure K)(p:List UInt8)(R:p.length<=2000)(N:C.length<200):
  Calls Tryz.prog 88 #[.pointer (some ⟨gl,0,none⟩),.string ⟨p.toArray⟩] W fun e w'=>
   ((∃f x C' b,q1H f C p=(x,0,C')/\e= .returned (.tuple #[.int .i64 x,.int .i64 0])/\IXG wb w' g gx gl rate m ws c s (u+(p.length+24)) (cnt+1) B C' b K/\sure<=b)\/
    (e= .returned (.tuple #[.int .i64 0,.int .i64 60])/\IXG wb w' g gx gl rate m ws c s u cnt B C sure K/\c-(u:Int)-((p.length:Int)+24)<6000))/\Stay K W w':=by
 obtain⟨E,V,q,M,Z,y⟩:=h.log;have j:=q.le.2;obtain⟨x,r,C',d⟩: ∃x r C',q1H (c-(q1V E:Int)-(q0j C:Int)) C p=(x,r,C'):=⟨_,_,_,rfl⟩
 refine(z8K q p (by omega) d rfl).mono ?_;rintro e w' ⟨rfl,k1,o⟩;refine⟨?_,fun i O=>o i (M i O)⟩;rcases z0e R N d with⟨rfl,I,J⟩|⟨rfl,rfl,rfl,X⟩
 ·exact .inl ⟨_,x,C',_,d,rfl,y _ _ _ _ _ k1 o I J,by unfold q3z;split;exact j;exact Int.le_refl _⟩
 ·have U:q3z (c-(q1V E:Int)-(q0j C':Int)) sure C' p=sure:=by
   unfold q3z;rw[κ fun G=>by rw[d] at G;exact absurd G.1 (by show ¬(60:Int)=0;decide)]
  rw[U] at k1;exact .inr ⟨rfl,y _ _ _ 0 0 k1 o (ι _) (ι _),by omega⟩
theorem IXG.same(h:IXG wb W g gx gl rate m ws c s u cnt B C sure K){f:FuncId}{P:Program}{args:Array Value}{R:Ending->Prop}{b:Int}(hc: ∀E c d,LgK E wb W g gl c s C sure d->Calls P f args W fun e w'=>R e/\LgK E wb w' g gl c s C b d/\Stay d W w'):
  Calls P f args W fun e w'=>R e/\IXG wb w' g gx gl rate m ws c s u cnt B C b K/\Stay K W w':=by
 obtain⟨E,d,o,q,G,x⟩:=h.log;refine(hc _ _ _ o).mono ?_;rintro e w' ⟨he,k1,j⟩;exact⟨he,x _ _ _ 0 0 k1 j (ι _) (ι _),fun i y=>j i (q i y)⟩
theorem IXG.next(h:IXG wb W g gx gl rate m ws c s u cnt B C sure K)(pos:Int)(d: -9223372036854775808<=pos)(i:pos<=9223372036854775807){r:Option (Nat×List UInt8)}(he:q3m C pos=r):
  Calls Tryz.prog 102 #[.pointer (some ⟨gl,0,none⟩),.int .i64 pos] W fun e w'=>e= .returned (z2Z r)/\IXG wb w' g gx gl rate m ws c s u cnt B C sure K/\Stay K W w':=
 h.same fun _ _ _ b=>y2Y b pos d i he
theorem IXG.read(h:IXG wb W g gx gl rate m ws c s u cnt B C sure K)(pos:Int)(d: -9223372036854775808<=pos)(i:pos<=9223372036854775807)(he:q5y C pos=(p,r)):
  Calls Tryz.prog 181 #[.pointer (some ⟨gl,0,none⟩),.int .i64 pos] W fun e w'=>e= .returned (.tuple #[.string ⟨p.toArray⟩,.int .i64 r])/\IXG wb w' g gx gl rate m ws c s u cnt B C sure K/\Stay K W w':=
 h.same fun _ _ _ b=>y2j b pos d i he
theorem IXG.lflush(h:IXG wb W g gx gl rate m ws c s u cnt B C sure K):
  Calls Tryz.prog 105 #[.pointer (some ⟨gl,0,none⟩)] W fun e w'=>e= .returned (.int .i64 0)/\IXG wb w' g gx gl rate m ws c s u cnt B C (q0X C sure) K/\Stay K W w':=
 h.same fun _ _ _ b=>y0i b
theorem IXG.add(h:IXG wb W g gx gl rate m ws c s u cnt B C sure K){e:En}(he:q3f e=true)(U:B.length<50000):
  Calls Tryz.prog 90 #[.pointer (some ⟨gx,0,none⟩),enV e] W fun r w'=>r= .returned (.int .i64 0)/\IXG wb w' g gx gl rate m (q3o e ws) c s u cnt (q3o e B) C sure K/\Stay K W w':=by
 obtain⟨st,σ,φ,y,G,I,J,M,N,⟨x,b⟩,⟨O,o⟩,R⟩:=h;refine(y2H N he (by have:=x.wlen;omega)).mono ?_;rintro r w' ⟨rfl,j,d⟩;exact⟨rfl,⟨{st with w:=q3o e st.w},σ,φ,y,G,by rw[<-I],J,M,j,⟨x.add he U,b.1,b.2.toCksS,b.2.old⟩,⟨O.same fun i q=>d i (.inr q),o⟩,R⟩,fun i q=>d i (.inl q)⟩
theorem IXG.tells(h:IXG wb W g gx gl rate m ws c s u cnt B C sure K):Calls Tryz.prog 62 #[.pointer (some ⟨gx,0,none⟩)] W fun e w'=>
  ∃v vs,e= .returned (.agg #[.int .i64 m.nx,.int .i64 m.ck,.int .u64 m.sd,v])/\OGr w' W.heap.size 37 3 v vs m.L/\Ext W w':=by
 obtain⟨st,σ,φ,b,rfl,d,j,o,⟨F,gm,gt,Y,q⟩,y,G,I⟩:=h;exact q7m q.i.x
theorem IXG.range(h:IXG wb W g gx gl rate m ws c s u cnt B C sure K)(x a b:Int)(hl:B.length<=10000):
  Calls Tryz.prog 112 #[.pointer (some ⟨gx,0,none⟩),.int .u64 x,.int .i64 a,.int .i64 b] W fun e w'=>
   ∃ v,e= .returned (.tuple #[v,.int .i64 0])/\IXG wb w' g gx gl rate m ws c s u cnt B C sure (fun i=>K i\/v.ownBlock=some i)/\Stay K W w'/\
    w'.ownsRow W.heap.size 165 3 v (q0u B x (max a 0) (min b 1073741824)).length (ecs (q0u B x (max a 0) (min b 1073741824))):=by
 obtain⟨st,σ,φ,U,V,X,Z,h4,h5,⟨G,o⟩,⟨N,M⟩,O⟩:=h;obtain⟨k,R,hR,r1,r2,r3⟩:=G.rangeIs x a b;refine(z9E h5 G.full x a b hR (fun _=>⟨r1,by show R.flatten.length<=1000000;omega⟩)).mono ?_;rintro e w' ⟨v,rfl,I,q,J⟩;have j:=J rfl;simp only at j;rw[r3] at j;have o:=G.tellB k o;refine⟨v,rfl,⟨st,tellN k σ,φ,U,V,X,Z,h4,I.beside (fun i d=>?_),⟨G.tell k,o⟩,⟨N.same fun i d=>q i (.inr d),M⟩,fun i d=>⟨fun y=>?_,(O i d).2⟩⟩,fun i d=>q i (.inl d),j⟩
 ·rcases d with(d|d)|d
  ·exact .inl (.inl d)
  ·exact .inr d
  ·exact .inl (.inr d)
 ·rcases y with y|y
  ·exact(O i d).1 y
  ·have:=(q0l j i y).1;have:=N.lt d;omega
theorem IXG.last(h:IXG wb W g gx gl rate m ws c s u cnt B C sure K)(x a:Int)(X: -9223372036854775808<=a):
  Calls Tryz.prog 104 #[.pointer (some ⟨gx,0,none⟩),.int .u64 x,.int .i64 a] W fun e w'=>
   ∃r,e= .returned (.tuple #[.int .i64 r,.int .i64 0])/\z3H B x (min a 1073741824) r/\IXG wb w' g gx gl rate m ws c s u cnt B C sure K/\Stay K W w':=by
 obtain⟨st,σ,φ,G,I,J,M,N,O,⟨j,b⟩,⟨R,q⟩,U⟩:=h;obtain⟨k,r,V,Z⟩:=j.lastIs x a;refine(y0o O j.full x a X V).mono ?_;rintro e w' ⟨rfl,o,d⟩;have b:=j.tellB k b;exact⟨r,rfl,Z,⟨st,tellN k σ,φ,G,I,J,M,N,o,⟨j.tell k,b⟩,⟨R.same fun i y=>d i (.inr y),q⟩,U⟩,fun i y=>d i (.inl y)⟩
end
section
variable {wb w:World}{g gx gl rate:Nat}{m:Man}{ws:List En}{c s:Int}{u cnt:Nat}{B:List En}{C:Cks}{sure:Int}{K:Nat->Prop}
theorem Stay.trans' {K:Nat->Prop}{w0 w1 w2:World}(h:Stay K w0 w1)(k:Stay K w1 w2):Stay K w0 w2:=fun i b=>(k i b).trans (h i b)
theorem z4C(h :IXG wb w g gx gl rate m ws c s u cnt B C sure K)(P0:Int)(K0:0<=P0)(L0:P0<=9223372036854775807)(hB:B.length+8*(q2f C P0).length<=40000):
  Calls Tryz.prog 144 #[.pointer (some ⟨gx,0,none⟩),.pointer (some ⟨gl,0,none⟩),.int .i64 P0] w fun e w'=>
   ∃ D,IXG wb w' g gx gl rate m (q1Q D ws) c s u cnt (q1Q D B) C sure K/\Stay K w w'/\
    ((z1o m.sd (q2f C P0)=some D/\e= .returned (.int .i64 0))\/(z1o m.sd (q2f C P0)=none/\e= .returned (.int .i64 63))):=by
 have x0:okC C:=h.cOk;have HI:=η h;have HM:=η h.tells;clear h;go_enter Tryz.func144,Tryz.ntmps144;go_wp2_with fail;refine HM.o.mono ?_;rintro e w1 ⟨v,vs,rfl,ho,hx⟩;have D0:=η (HI.o.grow hx);have G0:=η (HI.o.kExt hx);obtain⟨ao,cp,rfl⟩:=ho.own.slice;clear ho hx HM;have Q0: ∀(W:World) (x y z t:Value),(Instr.field 47 (.agg #[x,y,z,t]) 2).run Tryz.prog W= .ok z W:=fun _ _ _ _ _=>rfl
 go_wp2_with fail
 go_loopw [8] (fun p W=> ∃(pos:Int) (D:List En),p= .int .i64 pos/\0<=pos/\pos<=9223372036854775807/\z1o m.sd (q2f C P0)=(z1o m.sd (q2f C pos)).map (D++·)/\D.length+8*(q2f C pos).length<=8*(q2f C P0).length/\
   IXG wb W g gx gl rate m (q1Q D ws) c s u cnt (q1Q D B) C sure K/\Stay K w W) (fun p _=>(q2f C (intOf p)).length)
 case atStart=>exact⟨P0,[],rfl,K0,L0,by simp,by simp,D0.o,G0.o⟩
 case round =>
  obtain⟨pos,D,rfl,q0,q1,h0,g0,d,z0⟩:=hrel;have I:=η h0;have r0:=η g0;have O0:=η d;have v0:=η z0;have G:=d.next pos (by omega) q1 rfl;rw[z4v] at G;have j: ∀r∈q2f C pos,r.1<4096*200/\r.2.length<=2000:=fun r hr=>z6d x0 hr
  have b0: ∀a p R,q2f C pos=(a,p)::R->q2f C ((a:Int)+(p.length:Int)+12)=R:=fun a p R e=>z4w x0 e
  obtain⟨Q,hQ⟩: ∃Q,q2f C pos=Q:=⟨_,rfl⟩
  have HQ:=η hQ;rw[hQ] at G j I r0;clear h0 g0 d z0 hQ
  cases Q with
  | nil=>
   have a0:z2Z ([]:List (Nat×List UInt8)).head? = .tuple #[.string ⟨#[]⟩,.int .i64 0,.int .i64 0,.int .i64 4]:=rfl;rw[a0] at G;have HN:=η G;clear G j b0 a0;go_wp2_with fail;refine HN.o.mono ?_;rintro e w2 ⟨rfl,d,O⟩;have d0:=η d;have j0:=η (v0.o.trans' O);clear d O HN;go_wp2_with fail
   (try rw[Exit.noGoto_ret])
   go_ret;exact⟨D,d0.o,j0.o,.inl ⟨by rw[I.o];simp[z1o],rfl⟩⟩
  | cons r R =>
   obtain⟨a,p⟩:=r;have a0:z2Z ((a,p)::R).head? = .tuple #[.string ⟨p.toArray⟩,.int .i64 (a:Int),.int .i64 ((a:Int)+(p.length:Int)+12),.int .i64 0]:=rfl;rw[a0] at G;have HN:=η G;obtain⟨ha,M0⟩:=j _ List.mem_cons_self;simp only at ha M0;have J:=η (b0 _ _ _ HQ.o);have HG:=η (fun W=>z9w p W (by omega));clear G j b0 a0;go_wp2_with fail;refine HN.o.mono ?_;rintro e w2 ⟨rfl,d,O⟩;have d0:=η d;have j0:=η (v0.o.trans' O);clear d O HN;go_wp2_with fail;refine(HG.o _).mono ?_;rintro e w3 ⟨⟨y,rfl,hy⟩,hx⟩;have e0:=η (d0.o.grow hx);have t0:=η (j0.o.trans' (d0.o.kExt hx));clear hx HG;obtain⟨gb,Z⟩: ∃gb,q5G p=gb:=⟨_,rfl⟩
   rw[Z] at hy
   cases gb with
   | none=>
    obtain rfl:y= .tuple #[.agg #[.string ⟨#[]⟩,.int .i64 0,.slice none 0 0],.int .i64 10]:=hy;have f0:=η (e0.o.grow (q0B w3 (.cells #[.string ⟨#[]⟩,.int .i64 0,.slice none 0 0] 160)));have l0:=η (t0.o.trans' (e0.o.kExt (q0B w3 (.cells #[.string ⟨#[]⟩,.int .i64 0,.slice none 0 0] 160))));go_wp2_with fail
    (try rw[Exit.noGoto_ret])
    go_ret;exact⟨D,f0.o,l0.o,.inr ⟨by rw[I.o,z1o,Z];rfl,rfl⟩⟩
   | some b =>
    obtain⟨x,rfl,c0⟩:=hy;have m0:=z8w Z;obtain⟨_,_,p3,p4,p5,p6,_⟩:=q1B m0;obtain⟨M,N,rfl⟩:=c0.slice;obtain⟨n,hn⟩: ∃n,b.ev.length=n:=⟨_,rfl⟩
    have i0:Hd (z1o m.sd (q2f C P0)=(z1o m.sd R).map ((D++q0i m.sd a b n)++·)):=η (by
     rw[I.o,z1o,Z,Option.bind_some,hn,Option.map_map]
     congr 1
     funext l
     simp)
    have s0:Hd (∀k,k<n->q3f (q2n m.sd a b k)=true):=η (fun k hk=>z3Z m.sd m0 (by omega) ha);have p0:=η (fun W=>z3i m.sd b.st W (by omega));have o0:=η (fun k=>q7d m.sd a b k);have n0:=η (fun k=>q4E m.sd a b k);have C0:Hd (∀k:Nat,q2n m.sd a b k=(q2g m.sd b.st,(b.fi:Int)+(k:Int),(a:Int))):=η fun k=>rfl
    generalize q2g m.sd b.st=hh at*;have N0:(q1Q D B).length<=B.length+D.length:=q7B D B;have g0:=r0.o;rw[χ] at g0;rw[hn] at c0 p4 p6⊢;obtain⟨st,fi,ev⟩:=b;simp only at p3 p4 p5 p6 hn;obtain⟨q,hq⟩: ∃q,w3.heap.size=q:=⟨_,rfl⟩
    have X:=q0B w3 (.cells #[.string ⟨st.toArray⟩,.int .i64 (fi:Int),.slice M n N] 160);have U:=η (Blk.new w3 160 #[.string ⟨st.toArray⟩,.int .i64 (fi:Int),.slice M n N]);have f0:=η (e0.o.more (K':=fun i=>K i\/i=w3.heap.size) X (fun i d=>d.imp id fun e=>⟨by omega,by rw[e];exact U.o.lt⟩));have l0:=η (t0.o.trans' (e0.o.kExt X));rw[hq] at U f0;have k0:(w3.alloc (.cells #[.string ⟨st.toArray⟩,.int .i64 (fi:Int),.slice M n N] 160)).cell? ⟨q,0,none⟩=some (.string ⟨st.toArray⟩):=U.o.cell 0;have k2:(w3.alloc (.cells #[.string ⟨st.toArray⟩,.int .i64 (fi:Int),.slice M n N] 160)).cell? ⟨q,2,none⟩=some (.slice M n N):=U.o.cell 2;clear X c0 Z m0 I hn;go_wp2_with fail;refine(p0.o _).mono ?_;rintro e w4 ⟨rfl,rfl⟩;clear p0;generalize w3.alloc (.cells #[.string ⟨st.toArray⟩,.int .i64 (fi:Int),.slice M n N] 160)=w4 at*;go_wp2_with fail
    go_loopw [50] (fun i W=> ∃k:Nat,k<=n/\i= .int .i64 (k:Int)/\IXG wb W g gx gl rate m (q1Q (D++q0i m.sd a ⟨st,fi,ev⟩ k) ws) c s u cnt (q1Q (D++q0i m.sd a ⟨st,fi,ev⟩ k) B) C sure (fun i=>K i\/i=q)/\Stay K w W/\
     Blk W q 160 #[.string ⟨st.toArray⟩,.int .i64 (fi:Int),.slice M n N]) (fun i _=>n-(intOf i).toNat)
    case atStart=>
     refine⟨0,υ _,rfl,?_,l0.o,U.o⟩;rw[show q0i m.sd a ⟨st,fi,ev⟩ 0=[] from rfl,List.append_nil];exact f0.o
    case round=>
     obtain⟨k,hk,rfl,d,O,hb⟩:=hrel;have E0:=η d;have u0:=η O;have A0:=η hb;by_cases J0:k<n
     ·have I0:decide ((k:Int)<(n:Int))=true:=ζ (by omega)
      have y0:(q1Q (D++q0i m.sd a ⟨st,fi,ev⟩ k) B).length<50000:=by
       have h1:=q7B (D++q0i m.sd a ⟨st,fi,ev⟩ k) B;rw[θ,n0.o k] at h1;omega
      have V:=d.add (s0.o k J0) y0
      rw [show∀L,q3o (q2n m.sd a ⟨st,fi,ev⟩ k) (q1Q (D++q0i m.sd a ⟨st,fi,ev⟩ k) L)=q1Q (D++q0i m.sd a ⟨st,fi,ev⟩ (k+1)) L from fun L=>by
       rw[o0.o k,<-List.append_assoc,q3c (D++q0i m.sd a ⟨st,fi,ev⟩ k)];rfl,show∀L,q3o (q2n m.sd a ⟨st,fi,ev⟩ k) (q1Q (D++q0i m.sd a ⟨st,fi,ev⟩ k) L)=q1Q (D++q0i m.sd a ⟨st,fi,ev⟩ (k+1)) L from fun L=>by
       rw[o0.o k,<-List.append_assoc,q3c (D++q0i m.sd a ⟨st,fi,ev⟩ k)];rfl,C0.o k] at V
      have HA:Hd (Calls Tryz.prog 90 #[.pointer (some ⟨gx,0,none⟩),.agg #[.int .u64 hh,.int .i64 ((fi:Int)+(k:Int)),.int .i64 (a:Int)]] wr fun r w'=>r= .returned (.int .i64 0)/\
       IXG wb w' g gx gl rate m (q1Q (D++q0i m.sd a ⟨st,fi,ev⟩ (k+1)) ws) c s u cnt (q1Q (D++q0i m.sd a ⟨st,fi,ev⟩ (k+1)) B) C sure (fun i=>K i\/i=q)/\Stay (fun i=>K i\/i=q) wr w'):=η V
      have q7:IntKind.i64.wrap ((fi:Int)+(k:Int))=(fi:Int)+(k:Int):=by rw[ν];omega
      have q8:IntKind.i64.wrap ((k:Int)+1)=(k:Int)+1:=by rw[ν];omega
      have k1:=hb.cell 1;clear d O hb V y0;go_wp2_with fail;refine HA.o.mono ?_;rintro e w5 ⟨rfl,d,O⟩;have F0:=η d;have H0:=η (u0.o.trans' (fun i d=>O i (.inl d)));have B0:=η (A0.o.same (O q (.inr rfl)));clear d O HA;go_wp2_with fail
      go_roundw
      case rel=>exact⟨k+1,by omega,by go_num,F0.o,H0.o,B0.o⟩
      case measure=>simp[intOf];omega
     ·obtain rfl:k=n:=by omega
      have I0:decide ((k:Int)<(k:Int))=false:=ε (by omega);clear d O hb;go_wp2_with fail
      go_roundw
      case rel=>
       refine⟨(a:Int)+(p.length:Int)+12,D++q0i m.sd a ⟨st,fi,ev⟩ k,rfl,by omega,by omega,?_,?_,E0.o.beside (fun i d=> .inl d),u0.o⟩
       ·rw[J.o];exact i0.o
       ·rw[J.o,θ,n0.o k];omega
      case measure=>
       show(q2f C ((a:Int)+(p.length:Int)+12)).length<(q2f C pos).length;rw[J.o,HQ.o,χ];omega
end
section
variable {wb W W':World}{g gx gl rate:Nat}{m:Man}{ws:List En}{c:Int}{u cnt:Nat}{B:List En}{K K':Nat->Prop}
end
def noI :Nat->Prop:=fun _=>False
theorem DkK.new24(w:World)(c:Int)(d:0<=c)(b:c<=1048576):Calls Tryz.prog 55 #[.int .i64 c] w fun e w'=> ∃g,e= .returned (.tuple #[.pointer (some ⟨g,0,none⟩),.int .i64 0])/\DkK noO w w' g c 0 [] noI:=by
 refine(y3R w c d b).mono ?_;rintro e w' ⟨g,F,rfl,b,j,o⟩;exact⟨g,rfl,F,z8H c,⟨b,j,o,fun i q=>q.elim⟩,y0u c⟩
section
variable {wb w W W':World}{g gx gl:Nat}{m:Man}{ws:List En}{c s sure:Int}{u cnt:Nat}{B:List En}{K K':Nat->Prop}
end
section
variable {wb w W W':World}{g gx gl rate:Nat}{m:Man}{ws:List En}{c s:Int}{st:IxSt}{σ:DM}{φ:Fls}{u cnt:Nat}{B:List En}{K:Nat->Prop}
theorem z3t(h:PInv st σ c s φ u cnt B): ∀(ns:List Int) (acc:Int->Option (List En)) (k0:Nat),(∀n∈ns,n∈st.m.L.flatten)->
  ∃k,q3U (tellN k0 σ) ns acc=((fun x=>if x∈ns then some (TL st x) else acc x),0,tellN k σ)
 |[],acc,k0,_=>⟨k0,by rw[q3U];simp⟩
 | n ::ns,acc,k0,hn=>by
  obtain⟨e,he⟩:=h.full n (hn n (by simp));have i:=h.tb n e he;obtain⟨k,_,j⟩:=z9U ((h.wl he).tellN k0) i.2.2.2.1.sort i.2.2.2.1.ok (by have:=i.2.2.2.1.len;omega);rw[q3Y] at j;obtain⟨G,o⟩:=z3t h ns (fun x=>if x=n then some e.L else acc x) (k0+k) (fun y q=>hn y (by simp[q]));refine⟨G,?_⟩;rw[q3U,j];simp only;rw[o]
  congr 1
  funext x
  by_cases d:x∈ns
  ·rw[ξ d,ξ (List.mem_cons_of_mem _ d)]
  ·rw[κ d]
   by_cases b:x=n
   ·rw[ξ b,ξ (by rw[b];exact List.mem_cons_self),b,q3N he]
   ·rw[κ b,κ (by rw[List.mem_cons];exact fun h=>h.elim b d)]
theorem PInv.reopen(h:PInv st σ c s φ u cnt B){t2:Int->Option TE}(k U M:Nat)(J: ∀n,(t2 n).map TE.L=if n∈st.m.L.flatten then some (TL st n) else none)(I: ∀n e,t2 n=some e-> ∀x∈e.L,e.may x.1=true):
  PInv ⟨st.m,U,[],t2,M⟩ (tellN k σ) c s φ u cnt (q2s (st.m.L.flatten.map (TL st))):=by
 have i: ∀n e,t2 n=some e->n∈st.m.L.flatten/\e.L=TL st n:=fun n e he=>by
  have:=J n;rw[he] at this;by_cases b:n∈st.m.L.flatten
  ·rw[ξ b] at this
   injection this with this;exact⟨b,this⟩
  ·rw[κ b] at this
   cases this
 have d: ∀n,n∈st.m.L.flatten-> ∃e,t2 n=some e/\e.L=TL st n:=fun n b=>by
  have:=J n;rw[ξ b] at this
  cases he:t2 n with
  |none=>rw[he] at this;cases this
  |some e=>exact⟨e,rfl,(i n e he).2⟩
 refine⟨Fl.tells k h.fl,h.man,(fun n b=>by obtain⟨e,he,_⟩:=d n b;exact⟨e,he⟩),fun n e he=>?_,h.only,okM.nil,(h.unionLe _).1,fun x=>?_⟩
 ·obtain⟨y,j⟩:=i n e he
  obtain⟨N,o⟩:=h.full n y;have G:=h.tb n N o;rw[q3N o] at j;exact⟨y,by rw[j];exact G.2.1,G.2.2.1,by rw[j];exact G.2.2.2.1,I n e he⟩
 ·rw [mem_union]
  constructor
  ·rintro⟨L,O,q⟩
   obtain⟨n,b,rfl⟩:=List.mem_map.1 O;obtain⟨e,he,R⟩:=d n b;exact .inr ⟨n,e,he,by rw[R];exact q⟩
  ·rintro(q|⟨n,e,he,q⟩)
   ·cases q
   ·obtain⟨y,j⟩:=i n e he
    exact⟨_,List.mem_map.2 ⟨n,y,rfl⟩,by rw[<-j];exact q⟩
theorem PInv.parts(h:PInv st σ c s φ u cnt B)(x:En):x∈B↔x∈st.w\/x∈q2s (st.m.L.flatten.map (TL st)):=by
 rw[h.mem x,mem_union]
 constructor
 ·rintro(b|⟨n,e,he,b⟩)
  ·exact .inl b
  ·exact .inr ⟨_,List.mem_map.2 ⟨n,(h.tb n e he).1,rfl⟩,by rw[q3N he];exact b⟩
 ·rintro(b|⟨L,d,b⟩)
  ·exact .inl b
  ·obtain⟨n,i,rfl⟩:=List.mem_map.1 d
   obtain⟨e,he⟩:=h.full n i;exact .inr ⟨n,e,he,by rw[q3N he] at b;exact b⟩
end
def DKR(wb W:World)(g gl:Nat)(m:Man)(c s:Int)(u cnt:Nat)(B:List En)(C:Cks)(sure:Int)(K:Nat->Prop):Prop:=
 ∃st σ φ gv F,st.m=m/\st.w=[]/\DkF wb W g F σ (fun i=>K i\/q8V gl gv i)/\(PInv st σ c s φ u cnt B/\q6J φ m/\z9s st φ σ C sure)/\(LogM W gl g s gv (q0M C) sure/\okC C)/\(∀i,q8V gl gv i->¬K i/\wb.heap.size<=i)
section
variable {wb w W W':World}{g gx gl rate:Nat}{m:Man}{ws:List En}{c s:Int}{u cnt:Nat}{B:List En}{C C':Cks}{sure:Int}{K K':Nat->Prop}
theorem IXG.forget(h:IXG wb W g gx gl rate m ws c s u cnt B C sure K): ∃o,DKR wb W g gl m c s u cnt o C sure K/\ ∀x,x∈B↔x∈ws\/x∈o:=by
 obtain⟨st,σ,φ,y,rfl,rfl,M,N,G,⟨b,j,d⟩,I,J⟩:=h;obtain⟨F,hF⟩:=G.dkf;have q:=b.reopen (t2:=st.t) 0 rate st.c (fun n=>?_) (fun n e he=>(b.tb n e he).2.2.2.2)
 ·rw[show tellN 0 σ=σ from rfl] at q
  exact⟨_,⟨⟨st.m,rate,[],st.t,st.c⟩,σ,φ,y,F,rfl,rfl,hF,⟨q,j,d.toCksS,d.old⟩,I,J⟩,b.parts⟩
 ·by_cases i:n∈st.m.L.flatten
  ·obtain⟨e,he⟩:=b.full n i
   rw[ξ i,he,q3N he];rfl
  ·rw[κ i]
   cases he:st.t n with
   |none=>rfl
   |some e=>exact absurd (b.tb n e he).1 i
theorem DKR.iopen(h:DKR wb W g gl m c s u cnt B C sure K){ao:Option Addr}{cap:Nat}(hG:Grid W ao m.L.length cap m.L)(J:m.L.flatten.length<=cnt)(rate:Nat):
  Calls Tryz.prog 142 #[.pointer (some ⟨g,0,none⟩),.agg #[.int .i64 m.nx,.int .i64 m.ck,.int .u64 m.sd,.slice ao m.L.length cap],.float .f64 rate] W fun e w'=>
   ∃gx O,e= .returned (.tuple #[.pointer (some ⟨gx,0,none⟩),.int .i64 0])/\IXG wb w' g gx gl rate m [] c s u cnt O C sure K/\(∀x,x∈B↔x∈O)/\Stay K W w':=by
 obtain⟨st,σ,φ,X,F,rfl,hw,hF,⟨d,I,j⟩,R,Z⟩:=h;have U:=Man.bounds d.man;refine(z6p (m:=st.m) hF hG (by have:=U.2.1;omega) (fun x N=>(U.2.2.2.1 x N).1) d.man.2.1 d.man.2.2 rate).mono ?_;obtain⟨k,q⟩:=z3t d st.m.L.flatten (fun _=>none) 0 fun n hn=>hn
 have q:q3U σ st.m.L.flatten (fun _=>none)=_:=q;rintro e w' (⟨b,_⟩|⟨_,b,_⟩|⟨_,_,b,_⟩|⟨_,_,_,G,t2,rfl,b,V,y⟩)
 ·rw[d.man.1] at b;cases b
 ·rw[d.fl.up] at b;cases b
 ·rw[q] at b;exact absurd rfl b
 ·rw [q] at b y
  simp only at b y;have o:OldT ⟨st.m,rate,[],t2,st.m.L.flatten.length⟩:=fun n e he x N=>by
   have h:=y n;have he:t2 n=some e:=he;rw[he,Option.map_some] at h;show x.2.2<st.m.ck
   split at h
   ·injection h with h
    exact j.old.tl (n:=n) (by rw[<-h];exact N)
   ·cases h
  exact⟨G,_,rfl,⟨⟨st.m,rate,[],t2,st.m.L.flatten.length⟩,tellN k σ,φ,X,rfl,rfl,rfl,J,b,⟨d.reopen k rate _ y (fun n e he=>b.thru (n:=n) (e:=e) he),I,j.toCksS.kp (Kp.tells k σ) d.fl j.i,o⟩,⟨R.1.same fun i M=>V i (.inr M),R.2⟩,Z⟩,
   fun x=>by rw[d.parts x,hw];simp,fun i M=>V i (.inl M)⟩
end
section
variable {wb w W W':World}{g gx gl rate:Nat}{m:Man}{ws:List En}{c s:Int}{st:IxSt}{σ:DM}{φ:Fls}{u cnt:Nat}{B:List En}{K:Nat->Prop}
theorem z3v(T:List Int):q1l T mapN=false:=by
 unfold q1l;rw[show(mapN==z2X)=false by decide,show(q1F mapN).2.2=false by decide]
 rfl
theorem z1O{T:List Int}{l:UInt8}(j:q2D l=true){n:Int}(q:0<=n/\n<=999999)(o:n∈T):q1l T (q0C l n)=false:=by
 have d:=q1h j q;have b:(q0C l n==z2X)=false:=by
  rw[beq_eq_false_iff_ne];intro e;rw[e] at d;have i:(q1F z2X).2.2=false:=by decide
  rw[d] at i
  cases i
 unfold q1l;rw[b,d];simp only;rw[show((n.toNat:Nat):Int)=n by omega,ζ o];simp
theorem q8y{T:List Int}{k:Nat}(d:k<=999999):q1l T (q0C 99 (k:Int))=false:=by
 have i:=q1h y3O (n:=(k:Int)) (by omega);have b:(q0C 99 (k:Int)==z2X)=false:=by
  rw[beq_eq_false_iff_ne];exact(q2h d).2
 unfold q1l;rw[b,i]
 rfl
theorem PInv.names(h:PInv st σ c s φ u cnt B): ∀x∈q1q σ,x=mapN\/(∃n∈st.m.L.flatten,x=q0C 116 n\/x=q0C 98 n)\/ ∃k:Nat,k<=999999/\x=q0C 99 (k:Int):=fun x d=>by
 obtain⟨l,i,_,j,_⟩:=h.fl;rw[i.names] at d;refine h.only x ?_;rw[<-j x];obtain⟨y,o,rfl⟩:=List.mem_map.1 d;intro b
 cases hf:q0F Prod.fst y.1 l with
 |some z=>rw[hf] at b;cases b
 |none=>exact q0r hf y o rfl
theorem PInv.noOrph(h:PInv st σ c s φ u cnt B):(q1q σ).filter (q1l st.m.L.flatten)=[]:=by
 refine List.filter_eq_nil_iff.2 fun x i=>?_
 rw[Bool.not_eq_true];rcases h.names x i with rfl|⟨n,b,rfl|rfl⟩|⟨k,d,rfl⟩
 ·exact z3v _
 ·have:=h.range b
  exact z1O y0x ⟨this.1,this.2.1⟩ b
 ·have:=h.range b
  exact z1O (by decide) ⟨this.1,this.2.1⟩ b
 ·exact q8y d
theorem PInv.shortN(h:PInv st σ c s φ u cnt B): ∀x∈q1q σ,x.length<=9223372036854775807:=fun x d=>by
 rcases h.names x d with rfl|⟨n,b,rfl|rfl⟩|⟨k,i,rfl⟩
 ·decide
 ·have:=h.range b
  rw[q0U ⟨this.1,this.2.1⟩,χ,q0Y];decide
 ·have:=h.range b
  rw[q0U ⟨this.1,this.2.1⟩,χ,q0Y];decide
 ·rw[q0U (by omega),χ,q0Y];decide
end
theorem y0f{C:Cks}(h:okC C):0<=q2d C/\q2d C<=819200:=by
 rcases List.eq_nil_or_concat C with b|⟨D,ps,b⟩
 ·subst b;rw[q9d];omega
 ·rw[List.concat_eq_append] at b
  subst b;rw[q1C];have d:=h.few;have i:=h.size ps (by simp);simp at d;omega
section
variable {φ :Fls}{n:Int}{f tab S:List UInt8}{C:Cks}{m:Man}
end
section
variable {wb W W':World}{g gx gl rate:Nat}{m:Man}{ws:List En}{c s:Int}{u cnt:Nat}{B:List En}{C C':Cks}{sure:Int}{K K':Nat->Prop}
end
theorem z5R(s:List UInt8)(n:Nat)(w:World)(J:n<200)(N:s.length<12)(y:z0Y (q1Y n) s=true):
  Calls Tryz.prog 163 #[.string ⟨s.toArray⟩,.int .i64 (n:Int)] w fun e w'=> ∃v,e= .returned (.tuple #[v,.int .i64 0,.bool true])/\(∃ao k c,v= .slice ao k c)/\Ext w w':=by
 have i:=q1b n;have I:=η (fun W=>q9S n W J);have d:z0Y s (q1Y n)=false:=by unfold z0Y;rw[ε (by omega)];rfl
 generalize q1Y n=H at*;have q:=η (fun W=>q5S s H W (by omega) (by omega));rw[d] at q;have b:=η (fun W=>q5S H s W (by omega) (by omega));rw[y] at b;clear y d;have j:(H==[])=false:=by cases H with|nil=>cases i|cons=>rfl
 have M:¬H=[]:=by simpa using j
 go_enter Tryz.func163,Tryz.ntmps163;go_wp2_with fail;refine(I.o _).mono ?_;rintro e w1 ⟨rfl,x⟩;have G:=η x;clear x;go_wp2_with fail;refine(q.o _).mono ?_;rintro e w2 ⟨rfl,rfl⟩;go_wp2_with fail;refine(b.o _).mono ?_;rintro e O ⟨rfl,rfl⟩;go_wp2_with fail;go_ret3;exact⟨_,rfl,⟨_,_,_,rfl⟩,G.o⟩
def y1l(L:List FM):Prop:= ∀f∈L,f.sy=f.da.length\/f.nm=[110,101,119]
theorem z1w{σ σ':DM}{t:List UInt8}(h:q1a σ [110,101,119] t=(0,σ'))(i:AllS σ.L):y1l σ'.L:=fun f j=>by
 obtain⟨o,d,⟨b,rfl⟩|⟨b,rfl⟩⟩:=q6N h j
 ·exact .inr b
 ·exact .inl (i _ d)
theorem z7n{σ σ':DM}(h:q5J σ [110,101,119]=(0,σ'))(j:y1l σ.L):AllS σ'.L:=by
 unfold q5J at h
 split at h
 ·exact(q1N (by decide) h).elim
 split at h
 ·exact(q1N (by decide) h).elim
 split at h
 ·exact(q1N (by decide) h).elim
 have e:=congrArg Prod.snd h;subst e;intro f o;obtain⟨d,i,rfl⟩:=List.mem_map.1 (show f∈σ.L.map (fun y=>if y.nm==[110,101,119] then {y with sy:=y.da.length} else y) from o);by_cases b:d.nm=[110,101,119]
 ·rw[ξ (by simpa using b)]
 ·rw[κ (by simpa using b)]
  exact(j d i).resolve_right b
theorem z5P{σ σ':DM}{b:List UInt8}(h:q2E σ a b=(0,σ'))(d:AllS σ.L):AllS σ'.L:=by
 unfold q2E at h
 split at h
 ·exact(q1N (by decide) h).elim
 split at h
 ·exact(q1N (by decide) h).elim
 rename_i f j
 split at h
 ·exact(q1N (by decide) h).elim
 split at h
 ·exact(q1N (by decide) h).elim
 split at h
 ·have e:=congrArg Prod.snd h
  subst e;exact d
 ·have e:=congrArg Prod.snd h
  subst e;intro i hm;rcases mem_insN.1 (show i∈q1e FM.nm {f with nm:=b} (q1M FM.nm a (q1M FM.nm b σ.L)) from hm) with rfl|hm
  ·exact d f (q0J j).1
  ·exact d i (mem_delN.1 (mem_delN.1 hm).1).1
theorem z4n{σ σ':DM}(h:q1L σ a=(0,σ'))(b:AllS σ.L):AllS σ'.L:=by
 unfold q1L at h
 split at h
 ·exact(q1N (by decide) h).elim
 split at h
 ·exact(q1N (by decide) h).elim
 split at h
 ·exact(q1N (by decide) h).elim
 have e:=congrArg Prod.snd h;subst e;exact fun f d=>b f (mem_delN.1 (show f∈q1M FM.nm a σ.L from d)).1
section
variable {E :Oth}{w0 w:World}{g gl:Nat}{F K:Nat->Prop}{v:Value}{σ:DM}{c s sure:Int}{C D:Cks}{xs:List Int}{l:List (List UInt8×List UInt8)}{t:List UInt8}
theorem z8U(j:okOth E)(i:D.length<=200)(t u x:List UInt8):(q0F Prod.fst x (q3k E D u)).map Prod.snd=if x=q0C 99 (D.length:Int) then some u else(q0F Prod.fst x (q3k E D t)).map Prod.snd:=by
 by_cases b:x=q0C 99 (D.length:Int)
 ·rw[ξ b,b,q7T j i];rfl
 ·rw[κ b]
  have d: ∀z:List UInt8,(q0C 99 (D.length:Int)==x)=false:=fun _=>by simpa using fun e=>b e.symm
  unfold q3k q0F;simp only[List.find?_append,List.find?_cons,d x]
theorem z8V{u:List UInt8}(h:q2Q Prod.fst (q3k E D t)):q2Q Prod.fst (q3k E D u):=by
 have e: ∀l:List (List UInt8×List UInt8),q2Q Prod.fst l↔(l.map Prod.fst).Pairwise fun x y=>bytesBefore x y=true:=fun l=>by unfold q2Q;rw[List.pairwise_map]
 rw[e,q8e] at h⊢;exact h
theorem z6B(y:okOth E)(q:D.length<=200){u:List UInt8}(G:q2Q Prod.fst (q3k E D t)):
  q1e Prod.fst (q0C 99 (D.length:Int),u) (q1M Prod.fst [110,101,119] (q1M Prod.fst (q0C 99 (D.length:Int)) (q1e Prod.fst ([110,101,119],u) (q3k E D t))))=q3k E D u:=by
 have b:=q9V y q t;have j:q0C 99 (D.length:Int)≠[110,101,119]:=fun e=>by
  rw[q0U (by omega)] at e;exact absurd (List.cons.inj e).1 (by decide)
 have O:q2Q Prod.fst (q1e Prod.fst (([110,101,119]:List UInt8),u) (q3k E D t)):=q4s G (q0r b);have J:=Fl.put (φ:=fun x=>(q0F Prod.fst x (q3k E D t)).map Prod.snd) (nm:=[110,101,119]) (fun _=>rfl) (by rw[b];rfl) u;have M:=Fl.cut J (q0C 99 (D.length:Int));have o:=Fl.cut M [110,101,119];have I:z6I (z6I (y2z (fun x=>(q0F Prod.fst x (q3k E D t)).map Prod.snd) [110,101,119] u) (q0C 99 (D.length:Int))) [110,101,119] (q0C 99 (D.length:Int))=none:=by
  unfold z6I;rw[κ j,ξ rfl]
 have N:=Fl.put o I u;have R:=q3D (nm:=[110,101,119]) (q3D (nm:=q0C 99 (D.length:Int)) O);refine q9z (q4s R (q0r (Fl.noFind o I))) (z8V G) fun x=>?_
 rw[N x,z8U y q t u x];unfold y2z z6I;by_cases i:x=q0C 99 (D.length:Int)
 ·rw[ξ i,ξ i]
 ·by_cases d:x=[110,101,119]
  ·subst d
   simp only[κ i,if_true,b,Option.map_none]
  ·simp only[κ i,κ d]
theorem y0M(h:LgP E w0 w g gl c s l xs sure AllS K)(M:q0F Prod.fst [110,101,119] l=none)(hm:l.length<400)(kd:K bd)(q:w.cell? ⟨bd,0,none⟩=some (.pointer (some ⟨g,0,none⟩))):
  Calls Tryz.prog 307 #[.pointer (some ⟨bd,0,none⟩)] w fun e w'=>e= .returned (.int .i64 0)/\LgP E w0 w' g gl c s (q1e Prod.fst ([110,101,119],[]) l) xs sure AllS K/\Stay K w w':=by
 obtain⟨F,v,σ,h,G,N,I⟩:=h;obtain⟨σ',hc,i⟩:=N.create M (by decide) hm;have b:=q8g hc I
 have j:=η (show Calls Tryz.prog 211 #[.pointer (some ⟨g,0,none⟩),.string ⟨([110,101,119]:List UInt8).toArray⟩] w fun e w'=>e= .returned (.int .i64 0)/\DkS w g F σ' w' by
  have:=z3T h.d [110,101,119] (by decide);rw[hc] at this
  exact this)
 have R:=η (And.intro G (And.intro i b));have O:=η h;clear h N i G hc I b M;go_enter Tryz.func307,Tryz.ntmps307;go_wp2_with fail;refine j.o.mono ?_;rintro e w1 ⟨rfl,J⟩;have y:=O.o.disk J;have x:=η y;clear J y q;go_wp2_with fail;go_ret;exact⟨rfl,⟨_,_,σ',x.o.1,R.o⟩,x.o.2⟩
theorem y0N(h:LgP E w0 w g gl c s (q1e Prod.fst ([110,101,119],[]) l) xs sure AllS K)(I:q0F Prod.fst [110,101,119] l=none)(Z:(t.length:Int)<=c+(q1V E:Int)-(q1X l:Int))(ht:t.length<=4096)(kd:K bd)(ks:K bs)(y:w.cell? ⟨bd,0,none⟩=some (.pointer (some ⟨g,0,none⟩)))
  (G:w.cell? ⟨bs,0,none⟩=some (.string ⟨t.toArray⟩)):
  Calls Tryz.prog 308 #[.pointer (some ⟨bd,0,none⟩),.pointer (some ⟨bs,0,none⟩)] w fun e w'=>e= .returned (.int .i64 0)/\LgP E w0 w' g gl c s (q1e Prod.fst ([110,101,119],t) l) xs sure y1l K/\Stay K w w':=by
 obtain⟨F,v,σ,h,N,U,O⟩:=h;have j:=q4e (k:=Prod.fst) (x:=(([110,101,119]:List UInt8),([]:List UInt8))) (q0r I);obtain⟨σ',hc,b⟩:=U.append (t:=t) j (by rw[z8D];simp only[List.length_nil];omega);rw[z4R (q0r I)] at b;have i:=z1w hc O
 have q:=η (fun (W:World) (k:Ext w W)=>show Calls Tryz.prog 208 #[.pointer (some ⟨g,0,none⟩),.string ⟨([110,101,119]:List UInt8).toArray⟩,.string ⟨t.toArray⟩] W fun e w'=>e= .returned (.int .i64 0)/\DkS W g F σ' w' by
  have:=q9P (h.d.ext k) [110,101,119] t (by decide) (by omega);rw[hc] at this
  exact this)
 have X:=η (And.intro N (And.intro b i));have V:=η h;clear h U b N hc O i I j;go_enter Tryz.func308,Tryz.ntmps308;go_wp2_with fail;refine(q.o _ (Ext.refl _)).mono ?_;rintro e w1 ⟨rfl,R⟩;have M:=V.o.disk R;have J:=η M;clear R M y G;go_wp2_with fail;go_ret;exact⟨rfl,⟨_,_,σ',J.o.1,X.o⟩,J.o.2⟩
theorem y0O(h:LgP E w0 w g gl c s (q1e Prod.fst ([110,101,119],t) l) xs sure y1l K)(O:q0F Prod.fst [110,101,119] l=none)(kd:K bd)(y:w.cell? ⟨bd,0,none⟩=some (.pointer (some ⟨g,0,none⟩))):
  Calls Tryz.prog 309 #[.pointer (some ⟨bd,0,none⟩)] w fun e w'=>e= .returned (.int .i64 0)/\LgP E w0 w' g gl c s (q1e Prod.fst ([110,101,119],t) l) xs sure AllS K/\Stay K w w':=by
 obtain⟨F,v,σ,h,J,R,M⟩:=h;have j:=q4e (k:=Prod.fst) (x:=(([110,101,119]:List UInt8),t)) (q0r O);obtain⟨σ',hc,i⟩:=R.sync j;have b:=z7n hc M
 have q:=η (show Calls Tryz.prog 228 #[.pointer (some ⟨g,0,none⟩),.string ⟨([110,101,119]:List UInt8).toArray⟩] w fun e w'=>e= .returned (.int .i64 0)/\DkS w g F σ' w' by
  have:=z7m h.d [110,101,119] (by decide);rw[hc] at this
  exact this)
 have V:=η (And.intro J (And.intro i b));have U:=η h;clear h R i J hc M b O j;go_enter Tryz.func309,Tryz.ntmps309;go_wp2_with fail;refine q.o.mono ?_;rintro e w1 ⟨rfl,N⟩;have I:=U.o.disk N;have G:=η I;clear N I y;go_wp2_with fail;go_ret;exact⟨rfl,⟨_,_,σ',G.o.1,V.o⟩,G.o.2⟩
theorem y0P{nm:List UInt8}(h:LgP E w0 w g gl c s (q1e Prod.fst ([110,101,119],t) l) xs sure AllS K)(U:q0F Prod.fst [110,101,119] l=none)(V:q2G nm=true)(i:[110,101,119]≠nm)(a0:nm.length<=1000)(kd:K bd)(kn:K bn)(G:w.cell? ⟨bd,0,none⟩=some (.pointer (some ⟨g,0,none⟩)))
  (I:w.cell? ⟨bn,0,none⟩=some (.string ⟨nm.toArray⟩)):
  Calls Tryz.prog 310 #[.pointer (some ⟨bd,0,none⟩),.pointer (some ⟨bn,0,none⟩)] w fun e w'=>e= .returned (.int .i64 0)/\LgP E w0 w' g gl c s (q1e Prod.fst (nm,t) (q1M Prod.fst [110,101,119] (q1M Prod.fst nm (q1e Prod.fst ([110,101,119],t) l)))) xs sure AllS K/\Stay K w w':=by
 obtain⟨F,v,σ,h,N,X,O⟩:=h;have q:=q4e (k:=Prod.fst) (x:=(([110,101,119]:List UInt8),t)) (q0r U);obtain⟨σ',hc,j⟩:=X.rename q V i;have b:=z5P hc O
 have y:=η (fun (W:World) (k:Ext w W)=>show Calls Tryz.prog 290 #[.pointer (some ⟨g,0,none⟩),.string ⟨([110,101,119]:List UInt8).toArray⟩,.string ⟨nm.toArray⟩] W fun e w'=>e= .returned (.int .i64 0)/\DkS W g F σ' w' by
  have:=z9b (h.d.ext k) [110,101,119] nm (by decide) (by omega);rw[hc] at this
  exact this)
 have HP:=η (And.intro N (And.intro j b));have Z:=η h;clear h X j N hc O b U q i V;go_enter Tryz.func310,Tryz.ntmps310;go_wp2_with fail;refine(y.o _ (Ext.refl _)).mono ?_;rintro e w1 ⟨rfl,R⟩;have M:=Z.o.disk R;have J:=η M;clear R M G I;go_wp2_with fail;go_ret;exact⟨rfl,⟨_,_,σ',J.o.1,HP.o⟩,J.o.2⟩
end
section
variable {E :Oth}{w0 w:World}{g gl:Nat}{F K:Nat->Prop}{v:Value}{σ:DM}{c s sure:Int}{C D:Cks}{xs:List Int}{l:List (List UInt8×List UInt8)}{t:List UInt8}
def z0Z(E:Oth)(w0:World)(g gl:Nat)(c s:Int)(l:List (List UInt8×List UInt8))(nm t:List UInt8)(xs:List Int)(sure:Int)(K:Nat->Prop):Nat->World->Prop
 |0,W=>LgP E w0 W g gl c s l xs sure AllS K
 |1,W=>LgP E w0 W g gl c s (q1e Prod.fst ([110,101,119],[]) l) xs sure AllS K
 |2,W=>LgP E w0 W g gl c s (q1e Prod.fst ([110,101,119],t) l) xs sure y1l K
 |3,W=>LgP E w0 W g gl c s (q1e Prod.fst ([110,101,119],t) l) xs sure AllS K
 |_,W=>LgP E w0 W g gl c s (q1e Prod.fst (nm,t) (q1M Prod.fst [110,101,119] (q1M Prod.fst nm (q1e Prod.fst ([110,101,119],t) l)))) xs sure AllS K
theorem y1r{nm:List UInt8}(h:LgP E w0 w g gl c s l xs sure AllS K)(hf:q0F Prod.fst [110,101,119] l=none)(hm:l.length<400)(hr:(t.length:Int)<=c+(q1V E:Int)-(q1X l:Int))(ht:t.length<=4096)(hk:q2G nm=true)(b0:[110,101,119]≠nm)(c0:nm.length<=1000)
  {b:Nat}(kb:K b)(kd:K bd)(kn:K bn)(ks:K bs)
  (O:w.cell? ⟨b,0,none⟩=some (.func (.func 307) #[] #[.pointer (some ⟨bd,0,none⟩)]))
  (R:w.cell? ⟨b,1,none⟩=some (.func (.func 308) #[] #[.pointer (some ⟨bd,0,none⟩),.pointer (some ⟨bs,0,none⟩)]))
  (U:w.cell? ⟨b,2,none⟩=some (.func (.func 309) #[] #[.pointer (some ⟨bd,0,none⟩)]))
  (V:w.cell? ⟨b,3,none⟩=some (.func (.func 310) #[] #[.pointer (some ⟨bd,0,none⟩),.pointer (some ⟨bn,0,none⟩)]))
  (X:w.cell? ⟨bd,0,none⟩=some (.pointer (some ⟨g,0,none⟩)))(Z:w.cell? ⟨bn,0,none⟩=some (.string ⟨nm.toArray⟩))(a0:w.cell? ⟨bs,0,none⟩=some (.string ⟨t.toArray⟩)):
  Calls Tryz.prog 209 #[.slice (some ⟨b,0,none⟩) 4 4] w fun e w'=>e= .returned (.int .i64 0)/\LgP E w0 w' g gl c s (q1e Prod.fst (nm,t) (q1M Prod.fst [110,101,119] (q1M Prod.fst nm (q1e Prod.fst ([110,101,119],t) l)))) xs sure AllS K/\Stay K w w':=by
 have H:=η h;have HB:=η (show∀W,Stay K w W->W.cell? ⟨b,0,none⟩=_/\W.cell? ⟨b,1,none⟩=_/\W.cell? ⟨b,2,none⟩=_/\W.cell? ⟨b,3,none⟩=_ from fun W k=>⟨q0b k kb O,q0b k kb R,q0b k kb U,q0b k kb V⟩);have HL:=η (show∀W,Stay K w W->W.cell? ⟨bd,0,none⟩=_/\W.cell? ⟨bn,0,none⟩=_/\W.cell? ⟨bs,0,none⟩=_ from fun W k=>⟨q0b k kd X,q0b k kn Z,q0b k ks a0⟩);have y:=η kd;have d0:=η kn;have e0:=η ks;have HF:=η hf;have HM:=η hm;have HR:=η hr;have HT:=η ht;have h0:=η hk;have f0:=η b0;have g0:=η c0;clear h kb kd kn ks O R U V X Z a0 hf hm hr ht hk b0 c0;go_enter Tryz.func209,Tryz.ntmps209;go_wp2_with fail
 go_loopw [8] (fun i W=> ∃k:Nat,k<=4/\i= .int .i64 (k:Int)/\z0Z E w0 g gl c s l nm t xs sure K k W/\Stay K w W) (fun i _=>4-(intOf i).toNat)
 case atStart=>exact⟨0,by omega,rfl,H.o,Stay.refl _ _⟩
 case round=>
  obtain⟨k,hk,rfl,hs,G⟩:=hrel;have N:=η hs;have j:=η G;obtain⟨q0,q1,q2,q3⟩:=HB.o wr G;have d:=η (HL.o wr G);clear hs G;obtain rfl|rfl|rfl|rfl|rfl:k=0\/k=1\/k=2\/k=3\/k=4:=by omega
  ·have M:=η (y0M N.o HF.o HM.o y.o d.o.1)
   go_wp2_with fail;refine M.o.mono ?_;rintro e w1 ⟨rfl,q,x⟩;have I:=η (show z0Z E w0 g gl c s l nm t xs sure K 1 w1 from q);have J:=η (j.o.trans x);clear q x;go_wp2_with fail
   go_roundw
   case rel=>exact⟨1,by omega,by go_num,I.o,J.o⟩
   case measure=>simp[intOf]
  ·have M:=η (y0N N.o HF.o HR.o HT.o y.o e0.o d.o.1 d.o.2.2)
   go_wp2_with fail;refine M.o.mono ?_;rintro e w1 ⟨rfl,q,x⟩;have I:=η (show z0Z E w0 g gl c s l nm t xs sure K 2 w1 from q);have J:=η (j.o.trans x);clear q x;go_wp2_with fail
   go_roundw
   case rel=>exact⟨2,by omega,by go_num,I.o,J.o⟩
   case measure=>simp[intOf]
  ·have M:=η (y0O N.o HF.o y.o d.o.1)
   go_wp2_with fail;refine M.o.mono ?_;rintro e w1 ⟨rfl,q,x⟩;have I:=η (show z0Z E w0 g gl c s l nm t xs sure K 3 w1 from q);have J:=η (j.o.trans x);clear q x;go_wp2_with fail
   go_roundw
   case rel=>exact⟨3,by omega,by go_num,I.o,J.o⟩
   case measure=>simp[intOf]
  ·have M:=η (y0P N.o HF.o h0.o f0.o g0.o y.o d0.o d.o.1 d.o.2.1)
   go_wp2_with fail;refine M.o.mono ?_;rintro e w1 ⟨rfl,q,x⟩;have I:=η (show z0Z E w0 g gl c s l nm t xs sure K 4 w1 from q);have J:=η (j.o.trans x);clear q x;go_wp2_with fail
   go_roundw
   case rel=>exact⟨4,by omega,by go_num,I.o,J.o⟩
   case measure=>simp[intOf]
  ·go_wp2_with fail
   go_ret;exact⟨rfl,N.o,j.o⟩
theorem LgP.more{w1:World}{K':Nat->Prop}(h:LgP E w0 w g gl c s l xs sure Q K)(k:Ext w w1)(hK: ∀i,K' i->K i\/(w.heap.size<=i/\i<w1.heap.size)):LgP E w0 w1 g gl c s l xs sure Q K':=by
 obtain⟨F,v,σ,j,x⟩:=h;have b:=j.grow k;refine⟨F,v,σ,⟨b.d,b.l,b.ap,b.bF,b.bG,b.ext,fun i J=>?_⟩,x⟩;have o: ∀i,F i->i<w.heap.size:=by obtain⟨_,_,_,_,_,_,h⟩:=j.d;exact h
 rcases hK i J with q|⟨q,y⟩
 ·exact b.k i q
 ·refine⟨y,fun G=>?_,fun I=>?_⟩
  ·have:=o i G;omega
  ·have:=j.l.lt I;omega
theorem LgP.beside{K':Nat->Prop}(h:LgP E w0 w g gl c s l xs sure Q K)(k: ∀i,K' i->K i):LgP E w0 w g gl c s l xs sure Q K':=by
 obtain⟨F,v,σ,b,d⟩:=h;exact⟨F,v,σ,b.beside k,d⟩
theorem LgP.kExt{w1:World}(h:LgP E w0 w g gl c s l xs sure Q K)(k:Ext w w1):Stay K w w1:=by
 obtain⟨F,v,σ,b,d⟩:=h;exact b.kExt k
theorem y1s{nm:List UInt8}(h:LgP E w0 w g gl c s l xs sure AllS K)(hf:q0F Prod.fst [110,101,119] l=none)(hm:l.length<400)(hr:(t.length:Int)<=c+(q1V E:Int)-(q1X l:Int))(ht:t.length<=4096)(hk:q2G nm=true)(V:[110,101,119]≠nm)(X:nm.length<=1000):
  Calls Tryz.prog 257 #[.pointer (some ⟨g,0,none⟩),.string ⟨nm.toArray⟩,.string ⟨t.toArray⟩] w fun e w'=>e= .returned (.int .i64 0)/\LgP E w0 w' g gl c s (q1e Prod.fst (nm,t) (q1M Prod.fst [110,101,119] (q1M Prod.fst nm (q1e Prod.fst ([110,101,119],t) l)))) xs sure AllS K/\Stay K w w':=by
 obtain⟨j,q⟩: ∃j,((w.alloc (.cells #[.pointer (some ⟨g,0,none⟩)] 31)).alloc (.cells #[.string ⟨nm.toArray⟩] 9)).alloc (.cells #[.string ⟨t.toArray⟩] 9)=j:=⟨_,rfl⟩
 have b0:Hd (Ext w j):=η (by rw[<-q];exact q7g w _ _ _);have N:Hd (∀W,Ext j W->W.cell? ⟨w.heap.size,0,none⟩=some (.pointer (some ⟨g,0,none⟩))/\W.cell? ⟨w.heap.size+1,0,none⟩=some (.string ⟨nm.toArray⟩)/\W.cell? ⟨w.heap.size+1+1,0,none⟩=some (.string ⟨t.toArray⟩)):=η fun W Z=>by
  rw[<-q] at Z;have b1:=(((Blk.new w 31 #[.pointer (some ⟨g,0,none⟩)]).ext (q5q _ (.cells #[.string ⟨nm.toArray⟩] 9) (.cells #[.string ⟨t.toArray⟩] 9))).ext Z).cell 0;have b2:=(((Blk.new (w.alloc (.cells #[.pointer (some ⟨g,0,none⟩)] 31)) 9 #[.string ⟨nm.toArray⟩]).ext (q0B _ (.cells #[.string ⟨t.toArray⟩] 9))).ext Z).cell 0;have b3:=((Blk.new ((w.alloc (.cells #[.pointer (some ⟨g,0,none⟩)] 31)).alloc (.cells #[.string ⟨nm.toArray⟩] 9)) 9 #[.string ⟨t.toArray⟩]).ext Z).cell 0;rw[ρ] at b2;rw[ρ,ρ] at b3;exact⟨b1,b2,b3⟩
 have f0:Hd (j.heap.size=w.heap.size+1+1+1):=η (by rw[<-q];simp);have HK:=η h;have HF:=η hf;have HM:=η hm;have HR:=η hr;have HT:=η ht;have e0:=η hk;have c0:=η V;have d0:=η X;have k0: ∀(fn:Fn) (first cap:Array Value) (w:World),(Instr.makeFunc fn first cap).run Tryz.prog w= .ok (.func fn first cap) w:=fun _ _ _ _=>rfl
 clear h hf hm hr ht hk V X;go_enter Tryz.func257,Tryz.ntmps257;obtain⟨a0,a1,a2⟩:=N.o j (Ext.refl _);go_wp2_with fail
 try rw[q]
 clear q a0 a1 a2
 obtain⟨cs, d⟩: ∃cs:Array Value,#[Value.func (Fn.func 307) #[] #[Value.pointer (some ⟨w.heap.size,0,none⟩)],Value.func (Fn.func 308) #[] #[Value.pointer (some ⟨w.heap.size,0,none⟩),Value.pointer (some ⟨w.heap.size+1+1,0,none⟩)],
       Value.func (Fn.func 309) #[] #[Value.pointer (some ⟨w.heap.size,0,none⟩)],Value.func (Fn.func 310) #[] #[Value.pointer (some ⟨w.heap.size,0,none⟩),Value.pointer (some ⟨w.heap.size+1,0,none⟩)]]=cs:=⟨_,rfl⟩
 rw[d];obtain⟨J,x⟩: ∃J,j.alloc (.cells cs 90)=J:=⟨_,rfl⟩
 have I:Ext j J:=by rw[<-x];exact q0B _ _
 have j0:J.heap.size=j.heap.size+1:=by rw[<-x];simp
 have i0:=f0.o;have y:Blk J j.heap.size 90 cs:=by rw[<-x];exact Blk.new _ _ _
 rw[x];have O:=η (b0.o.trans I);have hK':=HK.o.more (K':=fun i=>K i\/(w.heap.size<=i/\i<J.heap.size)) O.o (fun i U=>U);have g0:=η (HK.o.kExt O.o);obtain⟨r0,r1,r2⟩:=N.o _ I;have R:=y1r hK' HF.o HM.o HR.o HT.o e0.o c0.o d0.o (b:=j.heap.size) (bd:=w.heap.size) (bn:=w.heap.size+1) (bs:=w.heap.size+1+1) (.inr ⟨by omega,by omega⟩) (.inr ⟨by omega,by omega⟩) (.inr ⟨by omega,by omega⟩) (.inr ⟨by omega,by omega⟩)
  (by rw[y.cell 0,<-d];rfl) (by rw[y.cell 1,<-d];rfl) (by rw[y.cell 2,<-d];rfl) (by rw[y.cell 3,<-d];rfl) r0 r1 r2
 have M:=η R;clear d x y I j0 i0 r0 r1 r2 hK' R;refine M.o.mono ?_;rintro e w3 ⟨rfl,h3,G⟩;have H3:=η (h3.beside (K':=K) fun i U=> .inl U);have h0:Hd (Stay K w w3):=η (g0.o.trans fun i U=>G i (.inl U));clear h3 G M;go_wp2_with fail;go_ret;exact⟨rfl,H3.o,h0.o⟩
end
section
variable {E :Oth}{w0 w:World}{g gl:Nat}{F K:Nat->Prop}{v:Value}{σ:DM}{c s sure:Int}{C D:Cks}{xs:List Int}{l:List (List UInt8×List UInt8)}{t:List UInt8}
theorem LgP.oth(h:LgP E w0 w g gl c s l xs sure Q K):okOth E:=by obtain⟨_,_,_,_,b,_⟩:=h;exact b
theorem z8T(x:okOth E)(J:D.length<=200):q1M Prod.fst (q0C 99 (D.length:Int)) (q3k E D t)=q2a E D:=by
 have G:q1M Prod.fst (q0C 99 (D.length:Int)) E.X=E.X:=List.filter_eq_self.2 fun y d=>by have:=x.neX (k:=D.length) (by omega) y d;simpa using this
 have q:q1M Prod.fst (q0C 99 (D.length:Int)) (q3P 0 D)=q3P 0 D:=List.filter_eq_self.2 fun y d=>by have:=q3e (C:=D) (i:=0) (k:=D.length) (by omega) (by omega) (fun j _ q=>by omega) y d;simpa using this
 have I:q1M Prod.fst (q0C 99 (D.length:Int)) E.Z=E.Z:=List.filter_eq_self.2 fun y d=>by have:=x.neZ (k:=D.length) (by omega) y d;simpa using this
 have o: ∀a b:List (List UInt8×List UInt8),q1M Prod.fst (q0C 99 (D.length:Int)) (a++b)=q1M Prod.fst (q0C 99 (D.length:Int)) a++q1M Prod.fst (q0C 99 (D.length:Int)) b:=fun a b=>List.filter_append _ _
 unfold q3k q2a;rw[o,o,G,q,show((q0C 99 (D.length:Int),t)::E.Z)=[(q0C 99 (D.length:Int),t)]++E.Z from rfl,o,I];unfold q1M;simp
theorem y1A(h:LgP E w0 w g gl c s (q3k E D t) xs sure AllS K)(hD:D.length<=199):
  Calls Tryz.prog 198 #[.pointer (some ⟨gl,0,none⟩),.int .i64 (D.length:Int),.string ⟨t.toArray⟩,.int .i64 0] w fun e w'=>
   e= .returned (.int .i64 0)/\LgP E w0 w' g gl c s (q2a E D) xs sure AllS K/\Stay K w w':=by
 obtain⟨F,v,σ,q,x,R,V⟩:=h;have j:=q2l (D.length:Int);have I:=η (fun W=>q3j (D.length:Int) W);obtain⟨σ',hm,b⟩:=R.delete (q7T x (by omega) t);rw[z8T x (by omega)] at b;have i:=z4n hm V
 have J:=η (fun (W:World) (k:Ext w W)=>(show Calls Tryz.prog 136 #[.pointer (some ⟨g,0,none⟩),.string ⟨(q0C 99 (D.length:Int)).toArray⟩] W fun e w'=>e= .returned (.int .i64 0)/\DkS W g F σ' w' by
  have:=q9b (q.d.ext k) (q0C 99 (D.length:Int)) j;rw[hm] at this
  exact this))
 have G:=η q.l.c0;have O:=η q;have Z:=η (And.intro x (And.intro b i));generalize q0C 99 (D.length:Int)=nm at*;clear q R x b V i hm j;go_enter Tryz.func198,Tryz.ntmps198;go_wp2_with fail;refine(I.o _).mono ?_;rintro e w1 ⟨rfl,M⟩;have y:=η M;have c0:=q0A M G.o;clear M;go_wp2_with fail;refine(J.o _ y.o).mono ?_;rintro e w2 ⟨rfl,X⟩;have U:=(O.o.grow y.o).disk X;have N:=η U;clear X U c0;go_wp2_with fail;go_ret;exact⟨rfl,⟨_,_,σ',N.o.1,Z.o⟩,(O.o.kExt y.o).trans N.o.2⟩
theorem z9L{ps:List (List UInt8)}{S r:List UInt8}(h:LgP E w0 w g gl c s (q3k E D S) (q0M D) sure AllS K)(hS:S=q0L D.length ps++r)(hr:0<r.length)(hD:D.length<=199)(hz:S.length<=4096)(ho:q2Q Prod.fst (q3k E D S))(R:(q0I ps:Int)+(q0j D:Int)+(S.length:Int)<=c):
  Calls Tryz.prog 198 #[.pointer (some ⟨gl,0,none⟩),.int .i64 (D.length:Int),.string ⟨S.toArray⟩,.int .i64 (q0I ps:Int)] w fun e w'=>
   e= .returned (.int .i64 0)/\LgP E w0 w' g gl c s (q2a E (D++[ps])) (q0M (D++[ps])) sure AllS K/\Stay K w w':=by
 have hE:=h.oth;have x:=q0V D.length ps;have y0:S.length=q0I ps+r.length:=by rw[hS,θ,x]
 have k0:S.take (q0I ps)=q0L D.length ps:=by rw[hS,List.take_append_of_le_length (by omega),Δ (by omega)]
 have n0:12<=q0I ps:=by unfold q0I;omega
 have j0:=q9V hE (by omega:D.length<=200) S;have hm:(q3k E D S).length<400:=by rw[z2A];have:=hE.few;omega
 have j:((q0L D.length ps).length:Int)<=c+(q1V E:Int)-(q1X (q3k E D S):Int):=by rw[z6D,x];push_cast;omega
 have h0:q2G (q0C 99 (D.length:Int))=true:=by rw[q0U (by omega)];simp[q2G,q0Y]
 have f0:[110,101,119]≠q0C 99 (D.length:Int):=fun e=>by
  rw[q0U (by omega)] at e;exact absurd (List.cons.inj e).1 (by decide)
 have g0:(q0C 99 (D.length:Int)).length<=1000:=by rw[q0U (by omega),χ,q0Y];decide
 have O:=z6B hE (by omega:D.length<=200) (u:=q0L D.length ps) ho;rw[<-y1x] at O
 have p0:=η (fun (W:World) (o0:List Int) (hW:LgP E w0 W g gl c s (q3k E D S) o0 sure AllS K)=>(show Calls Tryz.prog 257 #[.pointer (some ⟨g,0,none⟩),.string ⟨(q0C 99 (D.length:Int)).toArray⟩,.string ⟨(q0L D.length ps).toArray⟩] W fun e w'=>e= .returned (.int .i64 0)/\LgP E w0 w' g gl c s (q2a E (D++[ps])) o0 sure AllS K/\Stay K W w' by
  have:=y1s (t:=q0L D.length ps) hW j0 hm j (by omega) h0 f0 g0;rw[O] at this
  exact this))
 have q:=q4P S (q0I ps:Int) (q0I ps) rfl (by omega);rw[k0] at q;have I:=η q;obtain⟨F,v,σ,J,_,V,hQ⟩:=h;have r0:=η (fun W=>q3j (D.length:Int) W);have G:=q0a D;obtain⟨sa,sk,l0⟩:=q0G J.l.row;rw[G] at l0;subst l0;have b:=J.l.row;rw[G] at b;have a0:=η b;have q0:=η J.l.c3;have HH:=η J;have HP:=η (And.intro hE (And.intro V hQ));have b0:Hd (q0M D++[(q0I ps:Int)]=q0M (D++[ps])):=η (q1v D ps).symm;obtain⟨z,m0⟩: ∃z:Int,(q0I ps:Int)=z:=⟨_,rfl⟩
 have F0:12<=z:=by omega
 have z4:z<=4096:=by omega
 have z0:(z==0)=false:=by simp;omega
 have E0:decide (z<(S.length:Int))=true:=by simp;omega
 rw[m0] at b0 I⊢;have x0:=η G;generalize q0L D.length ps=T at*;generalize q0C 99 (D.length:Int)=nm at*;have D0:D.length<=199:=hD;generalize hn:D.length=n at*;clear J V hE hQ x G b m0 n0 h0 hn hS y0 k0 j0 hm R j f0 g0 O q ho hr hD hz;go_enter Tryz.func198,Tryz.ntmps198;go_wp2_with fail;refine(r0.o _).mono ?_;rintro e w1 ⟨rfl,X⟩;have HB:=η X;have c3:=q0A X q0.o;have Z:=η (HH.o.grow X);have b:=q0O a0.o X;have u0:=η b;have z3:=(HH.o.grow X).l.blk.free 3;clear X b
 go_wp2_with (at_builtin;refine q0R rfl _ _ 37 rfl 0 3 _ 1 8 Tryz.underlying37 Tryz.infoI (by decide) (by decide) _ n _ rfl (q0O u0.o (q0B _ _)) _ 1 1 [.int .i64 z] rfl rfl (fun h=>by cases h) (Rd.lit _ _ _) (by simp[Value.oneCell']) (by unfold maxLen;omega) (by omega) (υ _) ?_;intro v' w2 i d N;have C0:=η i;have B0:=η d;have A0:=η N;obtain⟨_,q2,q3⟩:=Z.o.pushed (q0B _ _) d;obtain⟨a',k',rfl⟩:=q0G i;have i0:=Z.o.push (q0B _ _) (by rw[x0.o];exact i) d N;have y:=η i0;clear i d N i0)
 obtain⟨U,e0⟩: ∃U,w2.setCell ⟨gl,3,none⟩ (.slice a' (n+1) k')=U:=⟨_,rfl⟩
 rw[e0] at y⊢;have M:LgP E w0 U g gl c s (q3k E D S) (q0M (D++[ps])) sure AllS K:=⟨_,_,σ,by rw[<-b0.o];exact y.o.1,HP.o⟩
 have t0:=η (M.grow (Ext.refl U).drew);have d0:=q0A (Ext.refl U).drew y.o.1.l.c0;have s0:=η (M.kExt (Ext.refl U).drew);have q:=I.o;clear e0 M q2 q3 c3 z3
 go_region_held3 (fun W=>W.cell? ⟨gl,0,none⟩=some (.pointer (some ⟨g,0,none⟩)))
  (first|exact v0.o|exact d0)
  (first|(go_at_call 257;refine(p0.o _ _ t0.o).mono ?_;rintro e wb ⟨rfl,V,h3⟩;have H2:=η V;have H3:=η h3;have v0:=η (by obtain⟨_,_,_,J,_⟩:=V;exact J.l.c0:wb.cell? ⟨gl,0,none⟩=some (.pointer (some ⟨g,0,none⟩)));clear V h3))
 all_goals
  go_wp2_with fail;go_ret;exact⟨rfl,H2.o,(HH.o.kExt HB.o).trans (y.o.2.trans (s0.o.trans H3.o))⟩
theorem z7Y{S:List UInt8}{en:Int}{l':List (List UInt8×List UInt8)}{p0:List Int}(h:LgP E w0 w g gl c s (q3k E D S) [] sure AllS K)(hD:D.length<=199)(m0: ∀ps∈D,q0I ps<=4096)(M: ∀ps∈D,∀p∈ps,p.length<=2000)(hS:S.length<=4096)
  (x: ∀W,Calls Tryz.prog 163 #[.string ⟨S.toArray⟩,.int .i64 (D.length:Int)] W fun e w'=> ∃v,e= .returned (.tuple #[v,.int .i64 en,.bool true])/\(∃ao k c,v= .slice ao k c)/\Ext W w')
  (k0: ∀W,LgP E w0 W g gl c s (q3k E D S) (q0M D) sure AllS K->Calls Tryz.prog 198 #[.pointer (some ⟨gl,0,none⟩),.int .i64 (D.length:Int),.string ⟨S.toArray⟩,.int .i64 en] W fun e w'=>e= .returned (.int .i64 0)/\LgP E w0 w' g gl c s l' p0 sure AllS K/\Stay K W w'):
  Calls Tryz.prog 139 #[.pointer (some ⟨gl,0,none⟩),.int .i64 ((D.length:Int)+1)] w fun e w'=>e= .returned (.int .i64 0)/\LgP E w0 w' g gl c s l' p0 sure AllS K/\Stay K w w':=by
 have hE:=h.oth;have HK:=η h;have r0:=η k0;have d0:=η x;have u0:=η m0;have a0:=η M;clear h x k0 m0 M;go_enter Tryz.func139,Tryz.ntmps139;go_wp2_with fail
 go_loopw [10] (fun i W=> ∃k:Nat,k<=D.length/\i= .int .i64 (k:Int)/\LgP E w0 W g gl c s (q3k E D S) (q0M (D.take k)) sure AllS K/\Stay K w W) (fun i _=>D.length+1-(intOf i).toNat)
 case atStart=>exact⟨0,υ _,rfl,HK.o,Stay.refl _ _⟩
 case round=>
  obtain⟨k,hk,rfl,hl,V⟩:=hrel;have f0:=η V;have hd:decide ((k:Int)<(D.length:Int)+1)=true:=by simp;omega
  have F0:IntKind.i64.wrap ((D.length:Int)+1-1)=(D.length:Int):=by rw[ν];omega
  have c0:=(by obtain⟨_,_,_,h1,_⟩:=hl;exact h1.l.c0:wr.cell? ⟨gl,0,none⟩=some (.pointer (some ⟨g,0,none⟩)))
  by_cases j0:k<D.length
  ·obtain⟨ps,j⟩: ∃ps,D[k]? =some ps:=⟨D[k],γ j0⟩
   have y0:q0I ps<=4096:=u0.o ps (List.mem_of_getElem? j);have o0:12<=q0I ps:=by unfold q0I;omega
   have J:=q0V k ps
   have G:=η (z6s (n:=k) (en:=(q0I ps:Int)) hl (by omega) (z6C hE (by omega) S j) (by omega) fun W=>by
    have x:=z4I (q0L k ps) k W (by omega) (by omega) (q6Z k ps);rw[q5c k ps (a0.o ps (List.mem_of_getElem? j)),q5W] at x;refine x.mono ?_;rintro e w' ⟨v,rfl,hr,hx⟩;obtain⟨a,cc,rfl⟩:=q0G hr
    exact⟨_,rfl,⟨_,_,_,rfl⟩,hx⟩)
   have hT:=z4O j;have g0:(D.take k).length=k:=by rw[Θ];omega
   have x0:((q0L k ps).length:Int)=(q0I ps:Int):=by rw[J]
   have e0:Hd (q0M (D.take k)++[(q0I ps:Int)]=q0M (D.take (k+1))):=η (by rw[hT,q1v]);have v0:((k:Int)==(D.length:Int))=false:=by simp;omega
   obtain⟨z,hz⟩: ∃z:Int,(q0I ps:Int)=z:=⟨_,rfl⟩
   have G0:12<=z:=by omega
   have z4:z<=4096:=by omega
   have A0:(z==0)=false:=by simp;omega
   have E0:(q0L k ps).length<=4096:=by omega
   rw[hz] at x0 e0 G;have q0:=η g0;generalize q0L k ps=S2 at*;clear hl V j J hT g0 hz y0 o0;go_wp2_with fail;refine G.o.mono ?_;rintro e w2 ⟨rfl,N,I⟩;have H3:=η (f0.o.trans I);obtain⟨F2,v2,z0,X,h0,h5,i0⟩:=N;have y:=q0a (D.take k);rw[q0.o] at y;obtain⟨sa,sk,n0⟩:=q0G X.l.row;rw[y] at n0;subst n0;have q:=X.l.row;rw[y] at q;have s0:=η q;have c3:=X.l.c3;have z3:=X.l.blk.free 3;have Z:=η X;have H5:=η (And.intro h0 (And.intro h5 i0));have t0:=η y;clear h0 I X h5 i0 y q c0
   go_wp2_with (at_builtin;refine q0R rfl _ _ 37 rfl 0 3 _ 1 8 Tryz.underlying37 Tryz.infoI (by decide) (by decide) _ k _ rfl (q0O s0.o (q0B _ _)) _ 1 1 [.int .i64 z] rfl rfl (fun h=>by cases h) (Rd.lit _ _ _) (by simp[Value.oneCell']) (by unfold maxLen;omega) (by omega) (υ _) ?_;intro v' w3 d b O;have D0:=η d;have C0:=η b;have B0:=η O;obtain⟨_,q2,q3⟩:=Z.o.pushed (q0B _ _) b;obtain⟨a',k',rfl⟩:=q0G d;have l0:=Z.o.push (q0B _ _) (by rw[t0.o];exact d) b O;have b0:=η l0;clear d b O l0)
   go_roundw
   case rel=>exact⟨k+1,by omega,by go_num,⟨_,_,z0,by rw[<-e0.o];exact b0.o.1,H5.o⟩,H3.o.trans b0.o.2⟩
   case measure=>simp[intOf];omega
  ·have R:k=D.length:=by omega
   have U:=z6s (n:=D.length) hl (by omega) (q7T hE (by omega) S) hS d0.o;rw[R,List.take_length] at U;rw[R] at hd⊢;have G:=η U;have v0:((D.length:Int)==(D.length:Int))=true:=by simp
   clear hl V U j0 R;go_wp2_with fail;refine G.o.mono ?_;rintro e w2 ⟨rfl,N,I⟩;have H2:=η (r0.o _ N);have H3:=η (f0.o.trans I);clear N I;go_wp2_with fail;refine H2.o.mono ?_;rintro e w3 ⟨rfl,N,I⟩;have H4:=η N;have H5:=η (H3.o.trans I);clear N I;go_wp2_with fail;go_ret;exact⟨rfl,H4.o,H5.o⟩
end
end
end Go.Proofs.YtfiibpgoplcgkaaGreatDoor
