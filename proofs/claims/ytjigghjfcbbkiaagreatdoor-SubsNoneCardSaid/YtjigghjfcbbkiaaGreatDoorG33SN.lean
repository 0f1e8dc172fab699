/- Walks. -/
import Derived.Test.YtjigghjfcbbkiaaGreatDoorG31SN
import Derived.Test.YtjigghjfcbbkiaaGreatDoorG17SN
import Derived.Test.YtjigghjfcbbkiaaGreatDoorG32SN
set_option linter.unusedVariables false
set_option linter.unusedSimpArgs false
set_option maxRecDepth 100000
set_option maxHeartbeats 12800000
namespace Go.Proofs.YtjigghjfcbbkiaaGreatDoor
variable {r:Int}{p:List UInt8}
section
open Go.RowKit
section
variable {wb w w1 w2:World}{g gx gl gm gt:Nat}{st:IxSt}{F Y K:Nat->Prop}{σ σ':DM}{c s sure:Int}{φ:Fls}{u cnt:Nat}{B:List En}{v:Value}
theorem IxK.thru(h:IxK wb w g gx st σ K){n:Int}{e:TE}(he:st.t n=some e): ∀x∈e.L,e.may x.1=true:=by
 obtain⟨F,gm,gt,Y,b⟩:=h;exact(b.tb he).t.thru
theorem z2a(h:PInv st σ c s φ u cnt B)(x a:Int): ∀(ns:List Int) (out:Int) (k0:Nat),-1<=out->(∀n∈ns,n∈st.m.L.flatten)->
  ∃k r,q2i st x (min a 1073741824) (tellN k0 σ) ns out=(r,0,tellN k σ)/\out<=r/\(∀n∈ns,z4M (TL st n) x (min a 1073741824)<=r)/\(r=out\/ ∃n∈ns,r=z4M (TL st n) x (min a 1073741824))
 |[],out,k0,_,_=>⟨k0,out,by rw[q2i],Int.le_refl _,(fun n l=>by cases l),.inl rfl⟩
 | n :: ns, out,k0,ho,l=>by
  obtain⟨e,he⟩:=h.full n (l n (by simp));have j:=h.tb n e he;obtain⟨k,_,_,b⟩:=z7Y ((h.wl he).tellN k0) j.2.2.2.1.sort j.2.2.2.1.ok j.2.2.2.2 x (min a 1073741824);rw[show min (min a 1073741824) 1073741824=min a 1073741824 by omega] at b;have i: ∃z,z4M (TL st n) x (min a 1073741824)=z/\(∃y ok,q2y (tellN k0 σ) n e.L e.may x (min a 1073741824)=(y,ok,0,tellN (k0+k) σ)/\(if ok then max out y.2.1 else out)=max out z):=by
   rw[q3N he];by_cases I:min a 1073741824<0
   ·rw [ξ I] at b
    have o:z4M e.L x (min a 1073741824)= -1:=by
     have M:=q6H j.2.2.2.1.sort x (min a 1073741824);rcases M.2 with q|⟨y,Q,_,N,G⟩
     ·exact q
     ·have:=j.2.2.2.1.ok y Q
      unfold q3L at this;simp at this;omega
    refine⟨-1,o,en0,false,by rw[b];simp only;rw[q3D],?_⟩;rw[κ (by decide)];omega
   ·rw [κ I] at b
    unfold z4M
    cases hl:q2q e.L x (min a 1073741824) with
    | none=>
     rw[hl] at b;refine⟨-1,rfl,en0,false,by rw[b];simp only;rw[q3D],?_⟩;rw[κ (by decide)];omega
    | some y=>
     rw[hl] at b;exact⟨y.2.1,rfl,y,true,by rw[b];simp only;rw[q3D],by rw[ξ rfl]⟩
  obtain⟨z,o,y,ok,E,hmx⟩:=i;obtain⟨R,r,q,N,G,d⟩:=z2a h x a ns (max out z) (k0+k) (by omega) (fun m hm=>l m (by simp[hm]));refine⟨R,r,?_,by omega,fun m hm=>?_,?_⟩
  ·rw[q2i,he]
   simp only;rw[E];simp only;rw[κ (fun h=>h rfl),hmx,q]
  ·rcases List.mem_cons.1 hm with J|hm
   ·rw[J,o];omega
   ·exact G m hm
  ·rcases d with d|⟨m,hm,d⟩
   ·rcases Int.le_total out z with O|O
    ·exact .inr ⟨n,by simp,by rw[d,o];omega⟩
    ·exact .inl (by rw[d];omega)
   ·exact .inr ⟨m,by simp[hm],d⟩
theorem PInv.lastIs(h:PInv st σ c s φ u cnt B)(x a:Int): ∃k r,q2i st x (min a 1073741824) σ st.m.L.flatten (z4M st.w x (min a 1073741824))=(r,0,tellN k σ)/\z1v B x (min a 1073741824) r:=by
 have j:=q6H h.okw.sort x (min a 1073741824);have o: -1<=z4M st.w x (min a 1073741824):=by
  rcases j.2 with e|⟨y,b,_,_,G⟩
  ·omega
  ·have:=h.okw.ok y b
   unfold q3L at this;simp at this;omega
 obtain⟨k,r,M,Q,N,G⟩:=z2a h x a st.m.L.flatten _ 0 o (fun n q=>q);refine⟨k,r,M,fun y b d i=>?_,?_⟩
 ·rcases(h.mem y).1 b with l|⟨n,e,he,l⟩
  ·have:=j.1 y l d i;omega
  ·have I:=(q6H (h.tb n e he).2.2.2.1.sort x (min a 1073741824)).1 y l d i
   have O:=N n (h.tb n e he).1;rw[q3N he] at O;omega
 ·rcases G with e|⟨n,q,e⟩
  ·rcases j.2 with J|⟨y,b,d,i,I⟩
   ·exact .inl (by omega)
   ·exact .inr ⟨y,(h.mem y).2 (.inl b),d,i,by omega⟩
  ·obtain⟨E,he⟩:=h.full n q
   rw[q3N he] at e;rcases(q6H (h.tb n E he).2.2.2.1.sort x (min a 1073741824)).2 with J|⟨y,b,d,i,I⟩
   ·exact .inl (by omega)
   ·exact .inr ⟨y,(h.mem y).2 (.inr ⟨n,E,he,b⟩),d,i,by omega⟩
end
section
variable {w w':World}{t g gx gm gt:Nat}{n:Int}{L:List En}{may:Int->Bool}{T Y:Nat->Prop}{st:IxSt}{v:Value}{vs:List Value}{vm:Value}{D:DataW Unit}{nn:Nat}
theorem z5T{i:Nat}(h:i<w.heap.size)(e:w'.heap[i]? =w.heap[i]?):i<w'.heap.size:=by
 rw[Array.getElem?_eq_getElem h] at e;exact(Array.getElem?_eq_some_iff.1 e).1
theorem Tb.stay(h:Tb w t g n L may T)(k: ∀i,T i->w'.heap[i]? =w.heap[i]?):Tb w' t g n L may T:=by
 obtain⟨v,p,s,mv,D,j,l,o,q,d,x⟩:=h;exact⟨v,p,s,mv,D,j.same fun i b=>k i (d i b),l,o,q,d,fun i b=>z5T (x i b) (k i b)⟩
theorem IxI.stay(h:IxI w gx g gm gt st v vs vm D nn Y)(k: ∀i,InX gx gm gt i\/Y i->w'.heap[i]? =w.heap[i]?):IxI w' gx g gm gt st v vs vm D nn Y:=
 ⟨h.blk.same (k _ (.inl (.inl rfl))),h.mem.same fun i b=>b.elim (fun e=>k i (.inl (.inr (.inl e)))) fun e=>k i (.inr (h.inY i (.inr (.inr e)))),
  q4O h.lev fun i b=>k i (.inr (h.inY i (b.elim .inl fun e=> .inr (.inl e)))),q2D h.map (k _ (.inl (.inr (.inr rfl)))),h.cnt,h.look,
  fun n e d=>(h.tab n e d).stay fun i b=>k i (.inr b),h.inY,fun i b=>z5T (h.lt i b) (k i (.inr b)),h.apart,h.ne⟩
theorem IxY.stay(h:IxY w gx g gm gt st Y)(k: ∀i,InX gx gm gt i\/Y i->w'.heap[i]? =w.heap[i]?):IxY w' gx g gm gt st Y:=by
 obtain⟨b,v,vs,vm,D,nn,d⟩:=h;exact⟨b,v,vs,vm,D,nn,d.stay k⟩
end
def IXG(wb W:World)(g gx gl:Nat)(rate:Nat)(m:Man)(ws:List En)(c s:Int)(u cnt:Nat)(B:List En)(C:Cks)(sure:Int)(K:Nat->Prop):Prop:=
 ∃st σ φ gv,st.m=m/\st.w=ws/\st.rate=rate/\st.c<=cnt/\IxK wb W g gx st σ (fun i=>K i\/q7i gl gv i)/\(PInv st σ c s φ u cnt B/\z0h φ m/\q8T φ C)/\(LogM W gl g s gv (q0L C) sure/\okC C)/\(∀i,q7i gl gv i->¬K i/\wb.heap.size<=i)
section
variable {wb W W':World}{g gx gl rate:Nat}{m:Man}{ws:List En}{c s:Int}{u cnt:Nat}{B:List En}{C C':Cks}{sure:Int}{K K':Nat->Prop}
theorem IXG.base(h:IXG wb W g gx gl rate m ws c s u cnt B C sure K):Ext wb W:=by obtain⟨st,σ,φ,d,i,j,l,o,b,q,x,y⟩:=h;exact b.base
theorem IXG.grow(h:IXG wb W g gx gl rate m ws c s u cnt B C sure K)(k:Ext W W'):IXG wb W' g gx gl rate m ws c s u cnt B C sure K:=by
 obtain⟨st,σ,φ,d,i,j,l,o,q,x,b,y⟩:=h;exact⟨st,σ,φ,d,i,j,l,o,q.grow k,x,⟨b.1.ext k,b.2⟩,y⟩
theorem IXG.kExt(h:IXG wb W g gx gl rate m ws c s u cnt B C sure K)(k:Ext W W'):Stay K W W':=by
 obtain⟨st,σ,φ,j,l,o,q,x,b,y,E,G⟩:=h;exact fun i d=>b.kExt k i (.inl d)
theorem IXG.klt(h:IXG wb W g gx gl rate m ws c s u cnt B C sure K): ∀i,K i->i<W.heap.size:=by
 obtain⟨st,σ,φ,d,j,l,o,x,⟨F,gm,gt,Y,q⟩,y,E,G⟩:=h;exact fun i b=>(q.k i (.inl b)).1
theorem IXG.mono(h:IXG wb W g gx gl rate m ws c s u cnt B C sure K){u' cnt':Nat}(y:u<=u')(hc:cnt<=cnt'):IXG wb W g gx gl rate m ws c s u' cnt' B C sure K:=by
 obtain⟨st,σ,φ,d,i,j,l,E,o,b,q,x⟩:=h;exact⟨st,σ,φ,d,i,j,l,by omega,o,⟨b.1.mono y hc,b.2⟩,q,x⟩
theorem IXG.more(h:IXG wb W g gx gl rate m ws c s u cnt B C sure K)(k:Ext W W')(hK: ∀i,K' i->K i\/(W.heap.size<=i/\i<W'.heap.size)):IXG wb W' g gx gl rate m ws c s u cnt B C sure K':=by
 obtain⟨st,σ,φ,o,q,x,y,E,G,I,j,l⟩:=h;refine⟨st,σ,φ,o,q,x,y,E,G.more k (fun i b=>?_),I,⟨j.1.ext k,j.2⟩,fun i b=>⟨fun J=>?_,(l i b).2⟩⟩
 ·rcases b with b|b
  ·exact(hK i b).imp .inl id
  ·exact .inl (.inr b)
 ·rcases hK i J with d|⟨d,_⟩
  ·exact(l i b).1 d
  ·have:=j.1.lt b;omega
theorem IXG.beside(h:IXG wb W g gx gl rate m ws c s u cnt B C sure K)(k: ∀i,K' i->K i):IXG wb W g gx gl rate m ws c s u cnt B C sure K':=by
 obtain⟨st,σ,φ,j,l,o,q,x,y,E,G,d⟩:=h;exact⟨st,σ,φ,j,l,o,q,x,y.beside (fun i b=>b.imp (k i) id),E,G,fun i b=>⟨fun I=>(d i b).1 (k i I),(d i b).2⟩⟩
theorem IXG.sideM(h:IXG wb W g gx gl rate m ws c s u cnt B C sure K)(N:W.heap.size<=W'.heap.size)(O:Ext wb W')(k: ∀i,i<W.heap.size->¬K i->W'.heap[i]? =W.heap[i]?)(hK: ∀i,K' i->K i\/(W.heap.size<=i/\i<W'.heap.size)):
  IXG wb W' g gx gl rate m ws c s u cnt B C sure K':=by
 obtain⟨st,σ,φ,o,q,x,y,E,G,I,j,l⟩:=h;refine⟨st,σ,φ,o,q,x,y,E,G.sideM N O (fun i b M=>k i b fun e=>M (.inl e)) (fun i b=>?_),I,⟨j.1.same fun i b=>k i (j.1.lt b) (l i b).1,j.2⟩,fun i b=>⟨fun J=>?_,(l i b).2⟩⟩
 ·rcases b with b|b
  ·exact(hK i b).imp .inl id
  ·exact .inl (.inr b)
 ·rcases hK i J with d|⟨d,_⟩
  ·exact(l i b).1 d
  ·have:=j.1.lt b;omega
theorem IXG.okB(h:IXG wb W g gx gl rate m ws c s u cnt B C sure K):okM B/\okM ws/\ws.length<=B.length:=by obtain⟨st,σ,φ,d,rfl,rfl,i,j,l,b,o,q⟩:=h;exact⟨b.1.okB,b.1.okw,b.1.wlen⟩
theorem IXG.cOk(h:IXG wb W g gx gl rate m ws c s u cnt B C sure K):okC C:=by obtain⟨st,σ,φ,d,rfl,rfl,i,j,l,o,b,q⟩:=h;exact b.2
theorem y0S{st:IxSt}{σ:DM}{φ:Fls}{N:Value}(h5:IxK wb W g gx st σ (fun i=>K i\/q7i gl N i))(R:PInv st σ c s φ u cnt B/\z0h φ st.m/\q8T φ C)(U:LogM W gl g s N (q0L C) sure/\okC C)(h8: ∀i,q7i gl N i->¬K i/\wb.heap.size<=i):
  ∃ (E :Oth) (K2:Nat->Prop),LgV E wb W g gl N (c-(q2G E:Int)) s C sure K2/\(∀i,K i->K2 i)/\c-(u:Int)<=c-(q2G E:Int)-(q0l C:Int)/\
   ∀ (W':World) (I:Value) (C':Cks) (o:Int) (d e:Nat),LgV E wb W' g gl I (c-(q2G E:Int)) s C' o K2->Stay K2 W W'->q0l C'<=q0l C+d->C'.length<=C.length+e->
    ∃σ' G,IxK wb W' g gx st σ' (fun i=>K i\/q7i gl I i)/\(PInv st σ' c s G (u+d) (cnt+e) B/\z0h G st.m/\q8T G C')/\(LogM W' gl g s I (q0L C') o/\okC C')/\(∀i,q7i gl I i->¬K i/\wb.heap.size<=i):=by
 obtain⟨F,gm,gt,Y,q⟩:=h5;obtain⟨R,Q,V⟩:=R;obtain⟨U,hC⟩:=U;obtain⟨E,e1,e2,e3,e4⟩:=q7J R V hC;have M: ∀i,q7i gl N i->¬F i/\¬InX gx gm gt i/\¬Y i:=fun i j=>(q.k i (.inr j)).2
 refine⟨E,fun i=>K i\/InX gx gm gt i\/Y i,⟨F,σ,⟨q.i.d,U,fun i J j=>(M i j).1 J,q.bF,fun i j=>(h8 i j).2,q.ext,fun i j=>?_⟩,e1⟩,fun i j=> .inl j,by omega,?_⟩
 ·rcases j with j|j|j
  ·obtain⟨a,b,_⟩:=q.k i (.inl j)
   exact⟨a,b,fun O=>(h8 i O).1 j⟩
  ·exact⟨q.i.x.xlt i j,fun J=>(q.i.ap i J).1 j,fun O=>(M i O).2.1 j⟩
  ·exact⟨q.i.x.ylt i j,fun J=>(q.i.ap i J).2 j,fun O=>(M i O).2.2 j⟩
 ·rintro W' I C' o d e ⟨F',σ',y,l2⟩ Z hd he
  obtain⟨G,p1,p2,p3⟩:=R.relog e2 l2 y.d.okD (u':=u+d) (cnt':=cnt+e) (by omega) (by omega);have hm:G mapN=φ mapN:=p3 mapN fun k X e=>(q3V X).1 e.symm
  refine⟨σ',G,⟨F',gm,gt,Y,⟨⟨y.d,q.i.x.stay fun i j=>Z i (.inr j),fun i J=>⟨fun hx=>(y.k i (.inr (.inl hx))).2.1 J,fun hy=>(y.k i (.inr (.inr hy))).2.1 J⟩⟩,y.bF,q.bX,q.bY,y.ext,fun i j=>?_⟩⟩,
   ⟨p1,by unfold z0h;rw[hm];exact Q,p2⟩,⟨y.l,l2.ok⟩,fun i j=>⟨fun X=>(y.k i (.inl X)).2.2 j,y.bG i j⟩⟩
  rcases j with j|j
  ·obtain⟨_,_,c1,c2⟩:=q.k i (.inl j)
   obtain⟨a,b,_⟩:=y.k i (.inl j);exact⟨a,b,c1,c2⟩
  ·exact⟨y.l.lt j,fun J=>y.ap i J j,fun hx=>(y.k i (.inr (.inl hx))).2.2 j,fun hy=>(y.k i (.inr (.inr hy))).2.2 j⟩
theorem IXG.log(h:IXG wb W g gx gl rate m ws c s u cnt B C sure K):
  ∃ (E:Oth) (j:Nat->Prop),LgK E wb W g gl (c-(q2G E:Int)) s C sure j/\(∀i,K i->j i)/\c-(u:Int)<=c-(q2G E:Int)-(q0l C:Int)/\
   ∀(W':World) (C':Cks) (b:Int) (d e:Nat),LgK E wb W' g gl (c-(q2G E:Int)) s C' b j->Stay j W W'->q0l C'<=q0l C+d->C'.length<=C.length+e->IXG wb W' g gx gl rate m ws c s (u+d) (cnt+e) B C' b K:=by
 obtain⟨st,σ,φ,gv,rfl,rfl,rfl,h4,x,y,G,I⟩:=h;obtain⟨E,j,O,Q,R,U⟩:=y0S x y G I;refine⟨E,j,O.toK,Q,R,fun W' C' b d e M o J he=>?_⟩;obtain⟨l,N⟩:=M.toV;obtain⟨σ',q,V,X,Z,q4⟩:=U W' l C' b d e N o J he;exact⟨st,σ',q,l,rfl,rfl,rfl,by omega,V,X,Z,q4⟩
theorem q9V{fr x:Int}{C C':Cks}(E:p.length<=2000)(y:C.length<200)(b:q0y fr C p=(x,r,C')):
  (r=0/\q0l C'<=q0l C+(p.length+24)/\C'.length<=C.length+1)\/(r=60/\x=0/\C'=C/\fr-((p.length:Int)+24)<6000):=by
 unfold q0y at b;rw[κ (by omega)] at b;by_cases j:q3o C p=true
 ·rw [ξ j] at b
  split at b
  ·injection b with l b
   injection b with d o;exact .inr ⟨d.symm,l.symm,o.symm,by omega⟩
  ·injection b with _ b
   injection b with d b;subst b;rcases List.eq_nil_or_concat C with i|⟨D,ps,i⟩
   ·subst i;unfold q3o at j;simp at j
   ·rw[List.concat_eq_append] at i
    subst i;refine .inl ⟨d.symm,?_⟩;simp[q0l,q2M];omega
 ·rw [κ j] at b
  split at b
  ·rename_i q
   injection b with l b;injection b with d o;exact .inr ⟨d.symm,l.symm,o.symm,by omega⟩
  ·injection b with _ b
   injection b with d b;subst b;refine .inl ⟨d.symm,?_⟩;simp[q0l,q4I];omega
theorem IXG.append(h:IXG wb W g gx gl rate m ws c s u cnt B C sure K)(p:List UInt8)(O:p.length<=2000)(M:C.length<200):
  Calls Tryz.prog 85 #[.pointer (some ⟨gl,0,none⟩),.string ⟨p.toArray⟩] W fun e w'=>
   ((∃f x C' d,q0y f C p=(x,0,C')/\e= .returned (.tuple #[.int .i64 x,.int .i64 0])/\IXG wb w' g gx gl rate m ws c s (u+(p.length+24)) (cnt+1) B C' d K)\/
    (e= .returned (.tuple #[.int .i64 0,.int .i64 60])/\IXG wb w' g gx gl rate m ws c s u cnt B C sure K/\c-(u:Int)-((p.length:Int)+24)<6000))/\Stay K W w':=by
 obtain⟨E,R,I,J,V,o⟩:=h.log;obtain⟨x,r,C',b⟩: ∃x r C',q0y (c-(q2G E:Int)-(q0l C:Int)) C p=(x,r,C'):=⟨_,_,_,rfl⟩
 refine(z6c I p (by omega) b rfl).mono ?_;rintro e w' ⟨rfl,j,l⟩;refine⟨?_,fun i N=>l i (J i N)⟩;rcases q9V O M b with⟨rfl,y,G⟩|⟨rfl,rfl,rfl,U⟩
 ·exact .inl ⟨_,x,C',_,b,rfl,o _ _ _ _ _ j l y G⟩
 ·have Q:q3w (c-(q2G E:Int)-(q0l C':Int)) sure C' p=sure:=by
   unfold q3w;rw[κ fun q=>by rw[b] at q;exact absurd q.1 (by show ¬(60:Int)=0;decide)]
  rw[Q] at j;exact .inr ⟨rfl,o _ _ _ 0 0 j l (ι _) (ι _),by omega⟩
theorem IXG.same(h:IXG wb W g gx gl rate m ws c s u cnt B C sure K){f:FuncId}{P:Program}{args:Array Value}{R:Ending->Prop}{b:Int}(hc: ∀E c d,LgK E wb W g gl c s C sure d->Calls P f args W fun e w'=>R e/\LgK E wb w' g gl c s C b d/\Stay d W w'):
  Calls P f args W fun e w'=>R e/\IXG wb w' g gx gl rate m ws c s u cnt B C b K/\Stay K W w':=by
 obtain⟨E,d,l,o,G,q⟩:=h.log;refine(hc _ _ _ l).mono ?_;rintro e w' ⟨he,y,j⟩;exact⟨he,q _ _ _ 0 0 y j (ι _) (ι _),fun i x=>j i (o i x)⟩
theorem IXG.next(h:IXG wb W g gx gl rate m ws c s u cnt B C sure K)(pos:Int)(d: -9223372036854775808<=pos)(i:pos<=9223372036854775807){r:Option (Nat×List UInt8)}(he:q3P C pos=r):
  Calls Tryz.prog 100 #[.pointer (some ⟨gl,0,none⟩),.int .i64 pos] W fun e w'=>e= .returned (z1M r)/\IXG wb w' g gx gl rate m ws c s u cnt B C sure K/\Stay K W w':=
 h.same fun _ _ _ b=>y0h b pos d i he
theorem IXG.read(h:IXG wb W g gx gl rate m ws c s u cnt B C sure K)(pos:Int)(d: -9223372036854775808<=pos)(i:pos<=9223372036854775807)(he:q5O C pos=(p,r)):
  Calls Tryz.prog 177 #[.pointer (some ⟨gl,0,none⟩),.int .i64 pos] W fun e w'=>e= .returned (.tuple #[.string ⟨p.toArray⟩,.int .i64 r])/\IXG wb w' g gx gl rate m ws c s u cnt B C sure K/\Stay K W w':=
 h.same fun _ _ _ b=>y0s b pos d i he
theorem IXG.add(h:IXG wb W g gx gl rate m ws c s u cnt B C sure K){e:En}(he:q3L e=true)(O:B.length<50000):
  Calls Tryz.prog 87 #[.pointer (some ⟨gx,0,none⟩),enV e] W fun r w'=>r= .returned (.int .i64 0)/\IXG wb w' g gx gl rate m (q3R e ws) c s u cnt (q3R e B) C sure K/\Stay K W w':=by
 obtain⟨st,σ,φ,x,y,E,G,I,J,⟨q,j⟩,⟨M,l⟩,N⟩:=h;refine(y0O J he (by have:=q.wlen;omega)).mono ?_;rintro r w' ⟨rfl,d,b⟩;exact⟨rfl,⟨{st with w:=q3R e st.w},σ,φ,x,y,by rw[<-E],G,I,d,⟨q.add he O,j⟩,⟨M.same fun i o=>b i (.inr o),l⟩,N⟩,fun i o=>b i (.inl o)⟩
theorem IXG.tells(h:IXG wb W g gx gl rate m ws c s u cnt B C sure K):Calls Tryz.prog 76 #[.pointer (some ⟨gx,0,none⟩)] W fun e w'=>
  ∃v vs,e= .returned (.agg #[.int .i64 m.nx,.int .i64 m.ck,.int .u64 m.sd,v])/\OGr w' W.heap.size 44 3 v vs m.L/\Ext W w':=by
 obtain⟨st,σ,φ,b,rfl,d,j,l,⟨F,gm,gt,Y,q⟩,o,y,E⟩:=h;exact q6o q.i.x
theorem IXG.range(h:IXG wb W g gx gl rate m ws c s u cnt B C sure K)(x a b:Int)(hl:B.length<=10000):
  Calls Tryz.prog 118 #[.pointer (some ⟨gx,0,none⟩),.int .u64 x,.int .i64 a,.int .i64 b] W fun e w'=>
   ∃ v,e= .returned (.tuple #[v,.int .i64 0])/\IXG wb w' g gx gl rate m ws c s u cnt B C sure (fun i=>K i\/v.ownBlock=some i)/\Stay K W w'/\
    w'.ownsRow W.heap.size 159 3 v (q0m B x (max a 0) (min b 1073741824)).length (ecs (q0m B x (max a 0) (min b 1073741824))):=by
 obtain⟨st,σ,φ,N,O,Q,U,V,X,⟨E,G⟩,⟨J,I⟩,M⟩:=h;obtain⟨k,R,Z,r1,r2,r3⟩:=E.rangeIs x a b;refine(z7X X E.full x a b Z (fun _=>⟨r1,by show R.flatten.length<=1000000;omega⟩)).mono ?_;rintro e w' ⟨v,rfl,q,l,y⟩;have j:=y rfl;simp only at j;rw[r3] at j;refine⟨v,rfl,⟨st,tellN k σ,φ,N,O,Q,U,V,q.beside (fun i d=>?_),⟨E.tell k,G⟩,⟨J.same fun i d=>l i (.inr d),I⟩,fun i d=>⟨fun o=>?_,(M i d).2⟩⟩,fun i d=>l i (.inl d),j⟩
 ·rcases d with(d|d)|d
  ·exact .inl (.inl d)
  ·exact .inr d
  ·exact .inl (.inr d)
 ·rcases o with o|o
  ·exact(M i d).1 o
  ·have:=(q0X j i o).1;have:=J.lt d;omega
theorem IXG.last(h:IXG wb W g gx gl rate m ws c s u cnt B C sure K)(x a:Int)(R: -9223372036854775808<=a):
  Calls Tryz.prog 102 #[.pointer (some ⟨gx,0,none⟩),.int .u64 x,.int .i64 a] W fun e w'=>
   ∃r,e= .returned (.tuple #[.int .i64 r,.int .i64 0])/\z1v B x (min a 1073741824) r/\IXG wb w' g gx gl rate m ws c s u cnt B C sure K/\Stay K W w':=by
 obtain⟨st,σ,φ,y,E,G,I,J,M,⟨j,l⟩,⟨N,o⟩,O⟩:=h;obtain⟨k,r,Q,U⟩:=j.lastIs x a;refine(z9B M j.full x a R Q).mono ?_;rintro e w' ⟨rfl,d,b⟩;exact⟨r,rfl,U,⟨st,tellN k σ,φ,y,E,G,I,J,d,⟨j.tell k,l⟩,⟨N.same fun i q=>b i (.inr q),o⟩,O⟩,fun i q=>b i (.inl q)⟩
end
section
variable {wb w:World}{g gx gl rate:Nat}{m:Man}{ws:List En}{c s:Int}{u cnt:Nat}{B:List En}{C:Cks}{sure:Int}{K:Nat->Prop}
theorem Stay.trans' {K:Nat->Prop}{w0 w1 w2:World}(h:Stay K w0 w1)(k:Stay K w1 w2):Stay K w0 w2:=fun i b=>(k i b).trans (h i b)
theorem z2q(h :IXG wb w g gx gl rate m ws c s u cnt B C sure K)(P0:Int)(I0:0<=P0)(J0:P0<=9223372036854775807)(hB:B.length+8*(q2J C P0).length<=40000):
  Calls Tryz.prog 116 #[.pointer (some ⟨gx,0,none⟩),.pointer (some ⟨gl,0,none⟩),.int .i64 P0] w fun e w'=>
   ∃ D,IXG wb w' g gx gl rate m (q1O D ws) c s u cnt (q1O D B) C sure K/\Stay K w w'/\
    ((z0e m.sd (q2J C P0)=some D/\e= .returned (.int .i64 0))\/(z0e m.sd (q2J C P0)=none/\e= .returned (.int .i64 63))):=by
 have v0:okC C:=h.cOk;have HI:=η h;have HM:=η h.tells;clear h;go_enter Tryz.func116,Tryz.ntmps116;go_wp2_with fail;refine HM.o.mono ?_;rintro e w1 ⟨v,vs,rfl,ho,hx⟩;have B0:=η (HI.o.grow hx);have E0:=η (HI.o.kExt hx);obtain⟨ao,cp,rfl⟩:=ho.own.slice;clear ho hx HM;have N0: ∀(W:World) (x y z t:Value),(Instr.field 71 (.agg #[x,y,z,t]) 2).run Tryz.prog W= .ok z W:=fun _ _ _ _ _=>rfl
 go_wp2_with fail
 go_loopw [8] (fun p W=> ∃(pos:Int) (D:List En),p= .int .i64 pos/\0<=pos/\pos<=9223372036854775807/\z0e m.sd (q2J C P0)=(z0e m.sd (q2J C pos)).map (D++·)/\D.length+8*(q2J C pos).length<=8*(q2J C P0).length/\
   IXG wb W g gx gl rate m (q1O D ws) c s u cnt (q1O D B) C sure K/\Stay K w W) (fun p _=>(q2J C (intOf p)).length)
 case atStart=>exact⟨P0,[],rfl,I0,J0,by simp,by simp,B0.o,E0.o⟩
 case round =>
  obtain⟨pos,D,rfl,q0,q1,g0,f0,d,x0⟩:=hrel;have G:=η g0;have p0:=η f0;have M0:=η d;have u0:=η x0;have E:=d.next pos (by omega) q1 rfl;rw[z3c] at E;have j: ∀r∈q2J C pos,r.1<4096*200/\r.2.length<=2000:=fun r hr=>z5D v0 hr
  have a0: ∀a p R,q2J C pos=(a,p)::R->q2J C ((a:Int)+(p.length:Int)+12)=R:=fun a p R e=>z3d v0 e
  obtain⟨Q,hQ⟩: ∃Q,q2J C pos=Q:=⟨_,rfl⟩
  have HQ:=η hQ;rw[hQ] at E j G p0;clear g0 f0 d x0 hQ
  cases Q with
  | nil=>
   have Z:z1M ([]:List (Nat×List UInt8)).head? = .tuple #[.string ⟨#[]⟩,.int .i64 0,.int .i64 0,.int .i64 4]:=rfl;rw[Z] at E;have HN:=η E;clear E j a0 Z;go_wp2_with fail;refine HN.o.mono ?_;rintro e w2 ⟨rfl,d,N⟩;have c0:=η d;have i0:=η (u0.o.trans' N);clear d N HN;go_wp2_with fail
   (try rw[Exit.noGoto_ret])
   go_ret;exact⟨D,c0.o,i0.o,.inl ⟨by rw[G.o];simp[z0e],rfl⟩⟩
  | cons r R =>
   obtain⟨a,p⟩:=r;have Z:z1M ((a,p)::R).head? = .tuple #[.string ⟨p.toArray⟩,.int .i64 (a:Int),.int .i64 ((a:Int)+(p.length:Int)+12),.int .i64 0]:=rfl;rw[Z] at E;have HN:=η E;obtain⟨ha,K0⟩:=j _ List.mem_cons_self;simp only at ha K0;have I:=η (a0 _ _ _ HQ.o);have HG:=η (fun W=>z8L p W (by omega));clear E j a0 Z;go_wp2_with fail;refine HN.o.mono ?_;rintro e w2 ⟨rfl,d,N⟩;have c0:=η d;have i0:=η (u0.o.trans' N);clear d N HN;go_wp2_with fail;refine(HG.o _).mono ?_;rintro e w3 ⟨⟨y,rfl,hy⟩,hx⟩;have d0:=η (c0.o.grow hx);have s0:=η (i0.o.trans' (c0.o.kExt hx));clear hx HG;obtain⟨gb,X⟩: ∃gb,q4a p=gb:=⟨_,rfl⟩
   rw[X] at hy
   cases gb with
   | none=>
    obtain rfl:y= .tuple #[.agg #[.string ⟨#[]⟩,.int .i64 0,.slice none 0 0],.int .i64 10]:=hy;have e0:=η (d0.o.grow (q0B w3 (.cells #[.string ⟨#[]⟩,.int .i64 0,.slice none 0 0] 153)));have j0:=η (s0.o.trans' (d0.o.kExt (q0B w3 (.cells #[.string ⟨#[]⟩,.int .i64 0,.slice none 0 0] 153))));go_wp2_with fail
    (try rw[Exit.noGoto_ret])
    go_ret;exact⟨D,e0.o,j0.o,.inr ⟨by rw[G.o,z0e,X];rfl,rfl⟩⟩
   | some b =>
    obtain⟨x,rfl,b0⟩:=hy;have l0:=z7O X;obtain⟨_,_,p3,p4,p5,p6,_⟩:=q0j l0;obtain⟨J,M,rfl⟩:=b0.slice;obtain⟨n,hn⟩: ∃n,b.ev.length=n:=⟨_,rfl⟩
    have h0:Hd (z0e m.sd (q2J C P0)=(z0e m.sd R).map ((D++q0a m.sd a b n)++·)):=η (by
     rw[G.o,z0e,X,Option.bind_some,hn,Option.map_map]
     congr 1
     funext l
     simp)
    have r0:Hd (∀k,k<n->q3L (q2U m.sd a b k)=true):=η (fun k hk=>z2P m.sd l0 (by omega) ha);have o0:=η (fun W=>z2Z m.sd b.st W (by omega));have n0:=η (fun k=>q6h m.sd a b k);have m0:=η (fun k=>q3b m.sd a b k);have A0:Hd (∀k:Nat,q2U m.sd a b k=(q2K m.sd b.st,(b.fi:Int)+(k:Int),(a:Int))):=η fun k=>rfl
    generalize q2K m.sd b.st=hh at*;have L0:(q1O D B).length<=B.length+D.length:=q6F D B;have f0:=p0.o;rw[χ] at f0;rw[hn] at b0 p4 p6⊢;obtain⟨st,fi,ev⟩:=b;simp only at p3 p4 p5 p6 hn;obtain⟨q,hq⟩: ∃q,w3.heap.size=q:=⟨_,rfl⟩
    have V:=q0B w3 (.cells #[.string ⟨st.toArray⟩,.int .i64 (fi:Int),.slice J n M] 153);have O:=η (Blk.new w3 153 #[.string ⟨st.toArray⟩,.int .i64 (fi:Int),.slice J n M]);have e0:=η (d0.o.more (K':=fun i=>K i\/i=w3.heap.size) V (fun i d=>d.imp id fun e=>⟨by omega,by rw[e];exact O.o.lt⟩));have j0:=η (s0.o.trans' (d0.o.kExt V));rw[hq] at O e0;have k0:(w3.alloc (.cells #[.string ⟨st.toArray⟩,.int .i64 (fi:Int),.slice J n M] 153)).cell? ⟨q,0,none⟩=some (.string ⟨st.toArray⟩):=O.o.cell 0;have k2:(w3.alloc (.cells #[.string ⟨st.toArray⟩,.int .i64 (fi:Int),.slice J n M] 153)).cell? ⟨q,2,none⟩=some (.slice J n M):=O.o.cell 2;clear V b0 X l0 G hn;go_wp2_with fail;refine(o0.o _).mono ?_;rintro e w4 ⟨rfl,rfl⟩;clear o0;generalize w3.alloc (.cells #[.string ⟨st.toArray⟩,.int .i64 (fi:Int),.slice J n M] 153)=w4 at*;go_wp2_with fail
    go_loopw [50] (fun i W=> ∃k:Nat,k<=n/\i= .int .i64 (k:Int)/\IXG wb W g gx gl rate m (q1O (D++q0a m.sd a ⟨st,fi,ev⟩ k) ws) c s u cnt (q1O (D++q0a m.sd a ⟨st,fi,ev⟩ k) B) C sure (fun i=>K i\/i=q)/\Stay K w W/\
     Blk W q 153 #[.string ⟨st.toArray⟩,.int .i64 (fi:Int),.slice J n M]) (fun i _=>n-(intOf i).toNat)
    case atStart=>
     refine⟨0,υ _,rfl,?_,j0.o,O.o⟩;rw[show q0a m.sd a ⟨st,fi,ev⟩ 0=[] from rfl,List.append_nil];exact e0.o
    case round=>
     obtain⟨k,hk,rfl,d,N,hb⟩:=hrel;have C0:=η d;have t0:=η N;have y0:=η hb;by_cases H0:k<n
     ·have G0:decide ((k:Int)<(n:Int))=true:=ζ (by omega)
      have w0:(q1O (D++q0a m.sd a ⟨st,fi,ev⟩ k) B).length<50000:=by
       have h1:=q6F (D++q0a m.sd a ⟨st,fi,ev⟩ k) B;rw[θ,m0.o k] at h1;omega
      have U:=d.add (r0.o k H0) w0
      rw [show∀L,q3R (q2U m.sd a ⟨st,fi,ev⟩ k) (q1O (D++q0a m.sd a ⟨st,fi,ev⟩ k) L)=q1O (D++q0a m.sd a ⟨st,fi,ev⟩ (k+1)) L from fun L=>by
       rw[n0.o k,<-List.append_assoc,q3I (D++q0a m.sd a ⟨st,fi,ev⟩ k)];rfl,show∀L,q3R (q2U m.sd a ⟨st,fi,ev⟩ k) (q1O (D++q0a m.sd a ⟨st,fi,ev⟩ k) L)=q1O (D++q0a m.sd a ⟨st,fi,ev⟩ (k+1)) L from fun L=>by
       rw[n0.o k,<-List.append_assoc,q3I (D++q0a m.sd a ⟨st,fi,ev⟩ k)];rfl,A0.o k] at U
      have HA:Hd (Calls Tryz.prog 87 #[.pointer (some ⟨gx,0,none⟩),.agg #[.int .u64 hh,.int .i64 ((fi:Int)+(k:Int)),.int .i64 (a:Int)]] wr fun r w'=>r= .returned (.int .i64 0)/\
       IXG wb w' g gx gl rate m (q1O (D++q0a m.sd a ⟨st,fi,ev⟩ (k+1)) ws) c s u cnt (q1O (D++q0a m.sd a ⟨st,fi,ev⟩ (k+1)) B) C sure (fun i=>K i\/i=q)/\Stay (fun i=>K i\/i=q) wr w'):=η U
      have q7:IntKind.i64.wrap ((fi:Int)+(k:Int))=(fi:Int)+(k:Int):=by rw[ν];omega
      have q8:IntKind.i64.wrap ((k:Int)+1)=(k:Int)+1:=by rw[ν];omega
      have k1:=hb.cell 1;clear d N hb U w0;go_wp2_with fail;refine HA.o.mono ?_;rintro e w5 ⟨rfl,d,N⟩;have D0:=η d;have F0:=η (t0.o.trans' (fun i d=>N i (.inl d)));have z0:=η (y0.o.same (N q (.inr rfl)));clear d N HA;go_wp2_with fail
      go_roundw
      case rel=>exact⟨k+1,by omega,by go_num,D0.o,F0.o,z0.o⟩
      case measure=>simp[intOf];omega
     ·obtain rfl:k=n:=by omega
      have G0:decide ((k:Int)<(k:Int))=false:=ε (by omega);clear d N hb;go_wp2_with fail
      go_roundw
      case rel=>
       refine⟨(a:Int)+(p.length:Int)+12,D++q0a m.sd a ⟨st,fi,ev⟩ k,rfl,by omega,by omega,?_,?_,C0.o.beside (fun i d=> .inl d),t0.o⟩
       ·rw[I.o];exact h0.o
       ·rw[I.o,θ,m0.o k];omega
      case measure=>
       show(q2J C ((a:Int)+(p.length:Int)+12)).length<(q2J C pos).length;rw[I.o,HQ.o,χ];omega
end
section
variable {wb W W':World}{g gx gl rate:Nat}{m:Man}{ws:List En}{c:Int}{u cnt:Nat}{B:List En}{K K':Nat->Prop}
end
def noI :Nat->Prop:=fun _=>False
theorem DkK.new24(w:World)(c:Int)(d:0<=c)(b:c<=1048576):Calls Tryz.prog 56 #[.int .i64 c] w fun e w'=> ∃g,e= .returned (.tuple #[.pointer (some ⟨g,0,none⟩),.int .i64 0])/\DkK noO w w' g c 0 [] noI:=by
 refine(y1U w c d b).mono ?_;rintro e w' ⟨g,F,rfl,b,j,l⟩;exact⟨g,rfl,F,z6Y c,⟨b,j,l,fun i o=>o.elim⟩,z9H c⟩
section
variable {wb w W W':World}{g gx gl:Nat}{m:Man}{ws:List En}{c s sure:Int}{u cnt:Nat}{B:List En}{K K':Nat->Prop}
end
section
variable {wb w W W':World}{g gx gl rate:Nat}{m:Man}{ws:List En}{c s:Int}{st:IxSt}{σ:DM}{φ:Fls}{u cnt:Nat}{B:List En}{K:Nat->Prop}
theorem z2i(h:PInv st σ c s φ u cnt B): ∀(ns:List Int) (acc:Int->Option (List En)) (k0:Nat),(∀n∈ns,n∈st.m.L.flatten)->
  ∃k,q3A (tellN k0 σ) ns acc=((fun x=>if x∈ns then some (TL st x) else acc x),0,tellN k σ)
 |[],acc,k0,_=>⟨k0,by rw[q3A];simp⟩
 | n ::ns,acc,k0,hn=>by
  obtain⟨e,he⟩:=h.full n (hn n (by simp));have i:=h.tb n e he;obtain⟨k,_,j⟩:=z7m ((h.wl he).tellN k0) i.2.2.2.1.sort i.2.2.2.1.ok (by have:=i.2.2.2.1.len;omega);rw[q3D] at j;obtain⟨q,l⟩:=z2i h ns (fun x=>if x=n then some e.L else acc x) (k0+k) (fun y o=>hn y (by simp[o]));refine⟨q,?_⟩;rw[q3A,j];simp only;rw[l]
  congr 1
  funext x
  by_cases d:x∈ns
  ·rw[ξ d,ξ (List.mem_cons_of_mem _ d)]
  ·rw[κ d]
   by_cases b:x=n
   ·rw[ξ b,ξ (by rw[b];exact List.mem_cons_self),b,q3N he]
   ·rw[κ b,κ (by rw[List.mem_cons];exact fun h=>h.elim b d)]
theorem PInv.reopen(h:PInv st σ c s φ u cnt B){j:Int->Option TE}(k Q J:Nat)(I: ∀n,(j n).map TE.L=if n∈st.m.L.flatten then some (TL st n) else none)(G: ∀n e,j n=some e-> ∀x∈e.L,e.may x.1=true):
  PInv ⟨st.m,Q,[],j,J⟩ (tellN k σ) c s φ u cnt (q2b (st.m.L.flatten.map (TL st))):=by
 have i: ∀n e,j n=some e->n∈st.m.L.flatten/\e.L=TL st n:=fun n e he=>by
  have:=I n;rw[he] at this;by_cases b:n∈st.m.L.flatten
  ·rw[ξ b] at this
   injection this with this;exact⟨b,this⟩
  ·rw[κ b] at this
   cases this
 have d: ∀n,n∈st.m.L.flatten-> ∃e,j n=some e/\e.L=TL st n:=fun n b=>by
  have:=I n;rw[ξ b] at this
  cases he:j n with
  |none=>rw[he] at this;cases this
  |some e=>exact⟨e,rfl,(i n e he).2⟩
 refine⟨Fl.tells k h.fl,h.man,(fun n b=>by obtain⟨e,he,_⟩:=d n b;exact⟨e,he⟩),fun n e he=>?_,h.only,okM.nil,(h.unionLe _).1,fun x=>?_⟩
 ·obtain⟨y,l⟩:=i n e he
  obtain⟨M,o⟩:=h.full n y;have E:=h.tb n M o;rw[q3N o] at l;exact⟨y,by rw[l];exact E.2.1,E.2.2.1,by rw[l];exact E.2.2.2.1,G n e he⟩
 ·rw [mem_union]
  constructor
  ·rintro⟨L,N,q⟩
   obtain⟨n,b,rfl⟩:=List.mem_map.1 N;obtain⟨e,he,O⟩:=d n b;exact .inr ⟨n,e,he,by rw[O];exact q⟩
  ·rintro(q|⟨n,e,he,q⟩)
   ·cases q
   ·obtain⟨y,l⟩:=i n e he
    exact⟨_,List.mem_map.2 ⟨n,y,rfl⟩,by rw[<-l];exact q⟩
theorem PInv.parts(h:PInv st σ c s φ u cnt B)(x:En):x∈B↔x∈st.w\/x∈q2b (st.m.L.flatten.map (TL st)):=by
 rw[h.mem x,mem_union]
 constructor
 ·rintro(b|⟨n,e,he,b⟩)
  ·exact .inl b
  ·exact .inr ⟨_,List.mem_map.2 ⟨n,(h.tb n e he).1,rfl⟩,by rw[q3N he];exact b⟩
 ·rintro(b|⟨L,d,b⟩)
  ·exact .inl b
  ·obtain⟨n,i,rfl⟩:=List.mem_map.1 d
   obtain⟨e,he⟩:=h.full n i;exact .inr ⟨n,e,he,by rw[q3N he] at b;exact b⟩
end
def DKR(wb W:World)(g gl:Nat)(m:Man)(c s:Int)(u cnt:Nat)(B:List En)(C:Cks)(sure:Int)(K:Nat->Prop):Prop:=
 ∃st σ φ gv F,st.m=m/\st.w=[]/\DkF wb W g F σ (fun i=>K i\/q7i gl gv i)/\(PInv st σ c s φ u cnt B/\z0h φ m/\q8T φ C)/\(LogM W gl g s gv (q0L C) sure/\okC C)/\(∀i,q7i gl gv i->¬K i/\wb.heap.size<=i)
section
variable {wb w W W':World}{g gx gl rate:Nat}{m:Man}{ws:List En}{c s:Int}{u cnt:Nat}{B:List En}{C C':Cks}{sure:Int}{K K':Nat->Prop}
theorem DKR.iopen(h:DKR wb W g gl m c s u cnt B C sure K){ao:Option Addr}{cap:Nat}(R:Grid W ao m.L.length cap m.L)(y:m.L.flatten.length<=cnt)(rate:Nat):
  Calls Tryz.prog 114 #[.pointer (some ⟨g,0,none⟩),.agg #[.int .i64 m.nx,.int .i64 m.ck,.int .u64 m.sd,.slice ao m.L.length cap],.float .f64 rate] W fun e w'=>
   ∃gx I,e= .returned (.tuple #[.pointer (some ⟨gx,0,none⟩),.int .i64 0])/\IXG wb w' g gx gl rate m [] c s u cnt I C sure K/\(∀x,x∈B↔x∈I)/\Stay K W w':=by
 obtain⟨st,σ,φ,O,F,rfl,V,hF,⟨d,q,o⟩,J,Q⟩:=h;have M:=Man.bounds d.man;refine(z5M (m:=st.m) hF R (by have:=M.2.1;omega) (fun x X=>(M.2.2.2.1 x X).1) d.man.2.1 d.man.2.2 rate).mono ?_;obtain⟨k,j⟩:=z2i d st.m.L.flatten (fun _=>none) 0 fun n U=>U
 have j:q3A σ st.m.L.flatten (fun _=>none)=_:=j;rintro e w' (⟨b,_⟩|⟨_,b,_⟩|⟨_,_,b,_⟩|⟨_,_,_,l,Z,rfl,b,N,G⟩)
 ·rw[d.man.1] at b;cases b
 ·rw[d.fl.up] at b;cases b
 ·rw[j] at b;exact absurd rfl b
 ·rw [j] at b G
  simp only at b G
  exact⟨l,_,rfl,⟨⟨st.m,rate,[],Z,st.m.L.flatten.length⟩,tellN k σ,φ,O,rfl,rfl,rfl,y,b,⟨d.reopen k rate _ G (fun n e he=>b.thru (n:=n) (e:=e) he),q,o⟩,⟨J.1.same fun i E=>N i (.inr E),J.2⟩,Q⟩,
   fun x=>by rw[d.parts x,V];simp,fun i E=>N i (.inl E)⟩
end
section
variable {wb w W W':World}{g gx gl rate:Nat}{m:Man}{ws:List En}{c s:Int}{st:IxSt}{σ:DM}{φ:Fls}{u cnt:Nat}{B:List En}{K:Nat->Prop}
theorem z2k(T:List Int):q1W T mapN=false:=by
 unfold q1W;rw[show(mapN==z3n)=false by decide,show(q0v mapN).2.2=false by decide]
 rfl
theorem z0E{T:List Int}{l:UInt8}(j:q1n l=true){n:Int}(q:0<=n/\n<=999999)(o:n∈T):q1W T (q0E l n)=false:=by
 have d:=q1u j q;have b:(q0E l n==z3n)=false:=by
  rw[beq_eq_false_iff_ne];intro e;rw[e] at d;have i:(q0v z3n).2.2=false:=by decide
  rw[d] at i
  cases i
 unfold q1W;rw[b,d];simp only;rw[show((n.toNat:Nat):Int)=n by omega,ζ o];simp
theorem q8C{T:List Int}{k:Nat}(d:k<=999999):q1W T (q0E 99 (k:Int))=false:=by
 have i:=q1u y1m (n:=(k:Int)) (by omega);have b:(q0E 99 (k:Int)==z3n)=false:=by
  rw[beq_eq_false_iff_ne];exact(q3V d).2
 unfold q1W;rw[b,i]
 rfl
theorem PInv.names(h:PInv st σ c s φ u cnt B): ∀x∈q1a σ,x=mapN\/(∃n∈st.m.L.flatten,x=q0E 116 n\/x=q0E 98 n)\/ ∃k:Nat,k<=999999/\x=q0E 99 (k:Int):=fun x d=>by
 obtain⟨l,i,_,j,_⟩:=h.fl;rw[i.names] at d;refine h.only x ?_;rw[<-j x];obtain⟨y,o,rfl⟩:=List.mem_map.1 d;intro b
 cases hf:q0F Prod.fst y.1 l with
 |some z=>rw[hf] at b;cases b
 |none=>exact q1t hf y o rfl
theorem PInv.noOrph(h:PInv st σ c s φ u cnt B):(q1a σ).filter (q1W st.m.L.flatten)=[]:=by
 refine List.filter_eq_nil_iff.2 fun x i=>?_
 rw[Bool.not_eq_true];rcases h.names x i with rfl|⟨n,b,rfl|rfl⟩|⟨k,d,rfl⟩
 ·exact z2k _
 ·have:=h.range b
  exact z0E y0T ⟨this.1,this.2.1⟩ b
 ·have:=h.range b
  exact z0E (by decide) ⟨this.1,this.2.1⟩ b
 ·exact q8C d
theorem PInv.shortN(h:PInv st σ c s φ u cnt B): ∀x∈q1a σ,x.length<=9223372036854775807:=fun x d=>by
 rcases h.names x d with rfl|⟨n,b,rfl|rfl⟩|⟨k,i,rfl⟩
 ·decide
 ·have:=h.range b
  rw[q0W ⟨this.1,this.2.1⟩,χ,q0d];decide
 ·have:=h.range b
  rw[q0W ⟨this.1,this.2.1⟩,χ,q0d];decide
 ·rw[q0W (by omega),χ,q0d];decide
end
theorem z8s{C:Cks}(h:okC C):0<=q4h C/\q4h C<=819200:=by
 rcases List.eq_nil_or_concat C with b|⟨D,ps,b⟩
 ·subst b;rw[z2O];omega
 ·rw[List.concat_eq_append] at b
  subst b;rw[q2T];have d:=h.few;have i:=h.size ps (by simp);simp at d;omega
section
variable {φ :Fls}{n:Int}{f tab S:List UInt8}{C:Cks}{m:Man}
end
section
variable {wb W W':World}{g gx gl rate:Nat}{m:Man}{ws:List En}{c s:Int}{u cnt:Nat}{B:List En}{C C':Cks}{sure:Int}{K K':Nat->Prop}
end
end
end Go.Proofs.YtjigghjfcbbkiaaGreatDoor
