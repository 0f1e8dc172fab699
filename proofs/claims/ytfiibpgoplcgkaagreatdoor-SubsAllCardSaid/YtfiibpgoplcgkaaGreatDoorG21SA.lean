/- Walks. -/
import Derived.Test.YtfiibpgoplcgkaaGreatDoorG11SA
import Derived.Test.YtfiibpgoplcgkaaGreatDoorG3SA
import Derived.Test.YtfiibpgoplcgkaaGreatDoorG20SA
set_option linter.unusedVariables false
set_option linter.unusedSimpArgs false
set_option maxRecDepth 100000
set_option maxHeartbeats 6400000
namespace Go.Proofs.YtfiibpgoplcgkaaGreatDoor
variable {f:FM}{i:Nat}{acc:List En}{W W':World}
section
open Go.RowKit
def y2c(c:Int):Prop:=c=0\/c=4\/c=2
instance (c :Int):Decidable (y2c c):=by unfold y2c;infer_instance
def q0o(σ:DM)(nm:List UInt8):List UInt8×Int×DM:=if (q1m σ nm).2≠0 then([],(q1m σ nm).2,σ) else q1r σ nm 0 (q1m σ nm).1
def q2R(c:Int):Int:=if c=1\/c=61 then c else 90
theorem z0V{L:List FM}(h:f∈L):f.da.length<=q0P L:=by
 induction L with
 |nil=>cases h
 | cons a r ih=>
  unfold q0P q5I at*;rw[List.map_cons,List.sum_cons];rcases List.mem_cons.1 h with rfl|h
  ·omega
  ·have:=ih h;omega
theorem z2o{σ:DM}(h:okD σ)(nm:List UInt8):0<=(q1m σ nm).1/\(q1m σ nm).1<=1048576:=by
 have d:=h.used;have j:=h.cap1;unfold q1m
 split
 ·exact⟨Int.le_refl _,by show(0:Int)<=_;decide⟩
 ·split
  ·exact⟨Int.le_refl _,by show(0:Int)<=_;decide⟩
  ·rename_i f b
   have:=z0V (q0J b).1;simp only;omega
section
variable {w :World}{g:Nat}{F:Nat->Prop}{σ:DM}
theorem z4P(h:Dk w g F σ)(nm:List UInt8)(G:nm.length<=9223372036854775807):
  Calls Tryz.prog 235 #[.pointer (some ⟨g,0,none⟩),.string ⟨nm.toArray⟩] w fun e w'=>e= .returned (.tuple #[.string ⟨(q0o σ nm).1.toArray⟩,.int .i64 (q0o σ nm).2.1])/\DkS w g F (q0o σ nm).2.2 w':=by
 have y:=η (q6p h nm G);have m: -9223372036854775808<=(q1m σ nm).1/\(q1m σ nm).1<=9223372036854775807:=by have:=z2o h.1 nm;omega
 have j:=η (z3y h nm 0 (q1m σ nm).1 G (by decide) (by decide) m.1 m.2);have b:Hd (q0o σ nm=if (q1m σ nm).2≠0 then([],(q1m σ nm).2,σ) else q1r σ nm 0 (q1m σ nm).1):=η rfl;have q:=η (DkS.refl h);clear h m;obtain⟨J,C⟩: ∃r,q1m σ nm=r:=⟨_,rfl⟩
 rw[C] at y j b;obtain⟨z,c⟩:=J;obtain⟨M,E⟩: ∃r,q1r σ nm 0 z=r:=⟨_,rfl⟩
 simp only at j b;rw[E] at j b;obtain⟨t,I,B⟩:=M;clear C E;by_cases l:c=0
 ·subst l
  have x:Hd (q0o σ nm=(t,I,B)):=η (by rw[b.o,κ (fun h=>h rfl)]);rw[x.o];clear b;go_enter Tryz.func235,Tryz.ntmps235;go_wp2_with fail;refine y.o.mono ?_;rintro e w' ⟨rfl,rfl⟩;go_wp2_with fail;refine j.o.mono ?_;rintro e w1 ⟨rfl,d⟩;have u:=η d;clear d;go_wp2_with fail;go_ret2;exact⟨rfl,u.o⟩
 ·have x:Hd (q0o σ nm=([],c,σ)):=η (by rw[b.o,ξ l])
  rw[x.o];have m:(c !=0)=true:=by simpa using l
  clear b l;go_enter Tryz.func235,Tryz.ntmps235;go_wp2_with fail;refine y.o.mono ?_;rintro e w' ⟨rfl,rfl⟩;go_wp2_with fail;go_ret2;exact⟨rfl,q.o⟩
theorem z3L(c:Int)(w:World):Calls Tryz.prog 237 #[.int .i64 c] w fun e w'=>e= .returned (.int .i64 (q2R c))/\w=w':=by
 by_cases b:c=1
 ·subst b
  go_enter Tryz.func237,Tryz.ntmps237;go_wp2_with fail;go_ret;exact⟨rfl,rfl⟩
 ·by_cases d:c=61
  ·subst d
   go_enter Tryz.func237,Tryz.ntmps237;go_wp2_with fail;go_ret;exact⟨rfl,rfl⟩
  ·have j:Hd (q2R c=90):=η (by unfold q2R;rw[κ (by omega)])
   have b1:(c==1)=false:=by simpa using b
   have b2:(c==61)=false:=by simpa using d
   rw[j.o];clear b d;go_enter Tryz.func237,Tryz.ntmps237;go_wp2_with fail;go_ret;exact⟨rfl,rfl⟩
end
section
variable {w :World}{g:Nat}{F:Nat->Prop}{σ:DM}
theorem DkS.from{w l w':World}{g:Nat}{F:Nat->Prop}{σ m:DM}(h:Dk w g F σ)(o:Ext w l)(k:DkS l g F m w'):DkS w g F m w':=
 ((DkS.refl h).ext o).trans ⟨k.dk.mono (fun i d=>d.elim (fun h=> .inl (.inl h)) .inr) (fun i d=>by
  have j: ∀i,Gr F l w' i->i<w'.heap.size:=by obtain⟨_,_,_,_,_,_,h⟩:=k.dk;exact h
  rcases d with(b|b)|b
  ·exact j i (.inl b)
  ·have:=k.off.size;omega
  ·exact b.2),k.off.mono fun i _ h=> .inl h⟩
theorem q7s(c:UInt8)(n:Int):(q0C c n).length<=9223372036854775807:=by
 by_cases h:0<=n/\n<=999999
 ·rw[q0U h,χ,q0Y];decide
 ·rw[q7F h];decide
end
section
variable {w :World}{g:Nat}{F:Nat->Prop}{σ:DM}
end
def InT(t:Nat)(v mv:Value)(i:Nat):Prop:=i=t\/v.ownBlock=some i\/mv= .map (some i)
structure TbI(w:World)(t g:Nat)(n:Int)(L:List En)(v:Value)(p s:Nat)(mv:Value)(D:DataW Unit):Prop where
 blk:Blk w t 321 #[.pointer (some ⟨g,0,none⟩),.int .i64 n,.int .i64 (L.length:Int),v,.int .i64 (p:Int),.int .i64 (s:Int),mv]
 mids:w.ownsRow 0 390 4 v (q2p L).length (mcs (q2p L))
 fil:FilK w p s mv D
structure okT(L:List En):Prop where
 sort:q1E L
 ok: ∀x∈L,q3f x=true
 len:L.length<=50000
def Tb(w:World)(t g:Nat)(n:Int)(L:List En)(may:Int->Bool)(T:Nat->Prop):Prop:=
 ∃v p s mv D,TbI w t g n L v p s mv D/\may=z6z p s D/\(∀x∈L,may x.1=true)/\okT L/\(∀i,InT t v mv i->T i)/\ ∀i,T i->i<w.heap.size
section
variable {w w':World}{t g:Nat}{n:Int}{L:List En}{v:Value}{p s:Nat}{mv:Value}{D:DataW Unit}{may:Int->Bool}{T T' F:Nat->Prop}{σ:DM}
theorem FilK.same(h:FilK w p s mv D)(k: ∀i,mv= .map (some i)->w'.heap[i]? =w.heap[i]?):FilK w' p s mv D:=by
 obtain⟨d,b|⟨b,l,o,q,m,n,j,r⟩⟩:=h
 ·exact⟨d,.inl b⟩
 ·exact⟨d,.inr ⟨b,l,o,q,m,n,j,q2X r (k m j)⟩⟩
theorem FilK.lt(h:FilK w p s mv D)(b:mv= .map (some i)):i<w.heap.size:=by
 obtain⟨q,⟨j,d⟩|⟨j,d,r,u,m,n,l,o⟩⟩:=h
 ·rw[d] at b;cases b
 ·rw[l] at b;cases b;exact o.lt
theorem TbI.same(h:TbI w t g n L v p s mv D)(k: ∀i,InT t v mv i->w'.heap[i]? =w.heap[i]?):TbI w' t g n L v p s mv D:=
 ⟨h.blk.same (k t (.inl rfl)),q0z h.mids fun i b=>k i (.inr (.inl b)),h.fil.same fun i b=>k i (.inr (.inr b))⟩
theorem Tb.same(h:Tb w t g n L may T)(r:w.heap.size<=w'.heap.size)(k: ∀i,T i->w'.heap[i]? =w.heap[i]?):Tb w' t g n L may T:=by
 obtain⟨v,p,s,mv,D,j,l,m,o,d,q⟩:=h;exact⟨v,p,s,mv,D,j.same fun i b=>k i (d i b),l,m,o,d,fun i b=>Ψ (q i b) r⟩
theorem Tb.lt(h:Tb w t g n L may T): ∀i,T i->i<w.heap.size:=by
 obtain⟨v,p,s,mv,D,d,j,l,m,o,b⟩:=h;exact b
theorem Tb.okL(h:Tb w t g n L may T):okT L:=by
 obtain⟨v,p,s,mv,D,d,j,l,b,m,o⟩:=h;exact b
theorem Tb.thru(h:Tb w t g n L may T): ∀x∈L,may x.1=true:=by
 obtain⟨v,p,s,mv,D,d,j,b,l,m,o⟩:=h;exact b
theorem Tb.ext(h:Tb w t g n L may T)(k:Ext w w'):Tb w' t g n L may T:=h.same k.size fun i b=>k.block i (h.lt i b)
theorem Tb.off(h:Tb w t g n L may T)(k:OffS F w w')(d: ∀i,T i->¬F i):Tb w' t g n L may T:=h.same k.size fun i b=>k.block i (h.lt i b) (d i b)
theorem Tb.mono(h:Tb w t g n L may T)(k: ∀i,T i->T' i)(q: ∀i,T' i->i<w.heap.size):Tb w t g n L may T':=by
 obtain⟨v,p,s,mv,D,b,d,j,l,m,r⟩:=h;exact⟨v,p,s,mv,D,b,d,j,l,fun i o=>k i (m i o),q⟩
end
def q5w(σ:DM)(n:Int):Option (List En)×Int×DM:=
 if (q0o σ (q0C 116 n)).2.1≠0 then(none,q2R (q0o σ (q0C 116 n)).2.1,(q0o σ (q0C 116 n)).2.2)
 else match q8q (q0o σ (q0C 116 n)).1 with
 |none=>(none,90,(q0o σ (q0C 116 n)).2.2)
 | some L=>if (q0o (q0o σ (q0C 116 n)).2.2 (q0C 98 n)).2.1=61 then(none,61,(q0o (q0o σ (q0C 116 n)).2.2 (q0C 98 n)).2.2)
  else(some L,0,(q0o (q0o σ (q0C 116 n)).2.2 (q0C 98 n)).2.2)
def y3B(w:World)(g:Nat)(F:Nat->Prop)(n:Int)(r:Option (List En)×Int×DM)(e:Ending)(w':World):Prop:=
 match r.1 with
 |none=>e= .returned (.tuple #[.pointer none,.int .i64 r.2.1])/\DkS w g F r.2.2 w'
 |some L=> ∃t may T w3,e= .returned (.tuple #[.pointer (some ⟨t,0,none⟩),.int .i64 0])/\DkS w g F r.2.2 w3/\Ext w3 w'/\Tb w' t g n L may T/\ ∀i,T i->w3.heap.size<=i
theorem z1n{σ:DM}(h:okD σ)(nm:List UInt8):(q0o σ nm).1.length<=1048576:=by
 have d:=h.used;have j:=h.cap1;unfold q0o
 split
 ·simp
 ·unfold q1r
  split
  ·simp
  ·split
   ·simp
   ·rename_i f b
    have:=z0V (q0J b).1
    split<;>simp<;>omega
theorem z4c(c:Int):q2R c=c\/q2R c=90:=by unfold q2R;split;exact .inl rfl;exact .inr rfl
theorem y1L{w:World}{g:Nat}{F:Nat->Prop}{σ:DM}(h:Dk w g F σ)(n:Int):
  Calls Tryz.prog 202 #[.pointer (some ⟨g,0,none⟩),.int .i64 n] w (y3B w g F n (q5w σ n)):=by
 have HT:=η (fun W=>z7o n W);have HB:=η (fun W=>y0V n W);have HD:=η h;have s0:=q7s 116 n;have t0:=q7s 98 n;have b:=z1n h.1 (q0C 116 n)
 have B:Hd (q5w σ n=if (q0o σ (q0C 116 n)).2.1≠0 then(none,q2R (q0o σ (q0C 116 n)).2.1,(q0o σ (q0C 116 n)).2.2)
  else match q8q (q0o σ (q0C 116 n)).1 with
  |none=>(none,90,(q0o σ (q0C 116 n)).2.2)
  | some L=>if (q0o (q0o σ (q0C 116 n)).2.2 (q0C 98 n)).2.1=61 then(none,61,(q0o (q0o σ (q0C 116 n)).2.2 (q0C 98 n)).2.2)
   else(some L,0,(q0o (q0o σ (q0C 116 n)).2.2 (q0C 98 n)).2.2)):=η rfl
 have X:=η (fun W (k:Ext w W)=>z4P (h.ext k) (q0C 116 n) s0);have I:=η (fun W W' (Q:DkS w g F (q0o σ (q0C 116 n)).2.2 W) (k:Ext W W')=>z4P (Q.dk.ext k) (q0C 98 n) t0);have d:okD (q0o σ (q0C 116 n)).2.2->(q0o (q0o σ (q0C 116 n)).2.2 (q0C 98 n)).1.length<=1048576:=fun h=>z1n h (q0C 98 n)
 generalize q0C 116 n=TN at*;generalize q0C 98 n=BN at*;clear s0 t0 h;obtain⟨r1,h1⟩: ∃r,q0o σ TN=r:=⟨_,rfl⟩
 rw[h1] at X I B b d;obtain⟨r2,h2⟩: ∃r,q0o r1.2.2 BN=r:=⟨_,rfl⟩
 rw[h2] at I B d;obtain⟨S1,c1,σ1⟩:=r1;obtain⟨S2,c2,v0⟩:=r2;clear h1 h2;simp only at X I B b d;go_enter Tryz.func202,Tryz.ntmps202;go_wp2_with fail;refine(HT.o _).mono ?_;rintro e w1 ⟨rfl,y⟩;have l0:=η y;clear y;go_wp2_with fail;refine(X.o _ l0.o).mono ?_;rintro e w2 ⟨rfl,Q⟩;have x:=η (DkS.from HD.o l0.o Q);clear Q;by_cases e1:c1=0
 case neg=>
  have U:Hd (q5w σ n=(none,q2R c1,σ1)):=η (by rw[B.o,ξ e1]);have y:(c1 !=0)=true:=by simpa using e1
  clear B e1 b d;go_wp2_with fail;refine(z3L c1 _).mono ?_;rintro e w3 ⟨rfl,rfl⟩;go_wp2_with fail;go_ret2;rw[U.o];exact⟨rfl,x.o⟩
 case pos=>
 subst e1;have m:=η (fun W=>y2r S1 W b);have w0:Hd (∀L,q8q S1=some L->okT L):=η fun L h=>⟨(q7j h).2.1,(q7j h).2.2.1,z8y h b⟩
 have j:=d x.o.dk.1
 cases hg:q8q S1 with
 | none=>
  have U:Hd (q5w σ n=(none,90,σ1)):=η (by rw[B.o,κ (fun h=>h rfl),hg]);rw[hg] at m;clear B b d j hg;go_wp2_with fail;refine(m.o _).mono ?_;rintro e w3 ⟨rfl,y⟩;have Y:=η y;clear y;go_wp2_with fail;go_ret2;rw[U.o];exact⟨rfl,x.o.ext Y.o⟩
 | some L=>
  rw[hg] at m;have d0:=η (w0.o L hg);have y0:=d0.o.len;go_wp2_with fail;refine(m.o _).mono ?_;rintro e w3 ⟨v,rfl,l,y⟩;have Y:=η y;have i0:=η l;obtain⟨va,vc,rfl⟩:=q0G l;clear y l m;go_wp2_with fail;refine(HB.o _).mono ?_;rintro e w4 ⟨rfl,y⟩;have m0:=η (Y.o.trans y);have G:=η (q0O i0.o y);clear y i0;go_wp2_with fail;refine(I.o _ _ x.o m0.o).mono ?_;rintro e w5 ⟨rfl,Q⟩
  have q0:w5.ownsRow w2.heap.size 165 3 (.slice va L.length vc) L.length (ecs L):=q0z G.o fun i u=>Q.off.block i (q0l G.o i u).2 (by
   have h1:=(q0l G.o i u).1;have x0: ∀i,Gr F w w2 i->i<w2.heap.size:=by obtain⟨_,_,_,_,_,_,h⟩:=x.o.dk;exact h
   intro hf;have:=x0 i hf
   omega)
  have S:=η (x.o.trans (DkS.from x.o.dk m0.o Q));clear Q;obtain⟨_,_,e0,R⟩:=Ens.of_own (Own.of_row q0)
  cases e0;have J:=η R;clear R q0 G;by_cases e2:c2=61
  ·have U:Hd (q5w σ n=(none,61,v0)):=η (by rw[B.o,κ (fun h=>h rfl),hg];simp only;rw[ξ e2])
   subst e2;clear B b d j hg;go_wp2_with fail;go_ret2;rw[U.o];exact⟨rfl,S.o⟩
  ·have U:Hd (q5w σ n=(some L,0,v0)):=η (by rw[B.o,κ (fun h=>h rfl),hg];simp only;rw[κ e2])
   have y:(c2==61)=false:=by simpa using e2
   have M:=η (y2Q w5 J.o (by omega));have f0:=η (fun W=>z6c S2 W j);clear B b d j hg e2;go_wp2_with fail;refine M.o.mono ?_;rintro e w6 ⟨vm,rfl,l,r0⟩;have n0:=η r0;have j0:=η l;obtain⟨ma,mc,rfl⟩:=q0G l;clear l r0 M;go_wp2_with fail;refine(f0.o _).mono ?_;rintro e w7 ⟨p,z,mv,D,rfl,q,E,_,Z⟩;have o0:=η (n0.o.trans Z);have N:=η (q0O j0.o Z);have g0:Hd (y2x w6.heap.size mv):=η E;have k0:=η (y1V w7 q (J.o.ext o0.o));clear Z j0 f0 q E;go_wp2_with fail;refine k0.o.mono ?_;rintro e w8 ⟨p',z',u0,D',rfl,q,E,O,a0⟩;have p0:=η (o0.o.trans a0);have C:=η (q0O N.o a0);have h0:=η (E _ g0.o);have c0:=η q;have b0:=η O;clear a0 q E O N g0 k0;go_wp2_with fail;go_ret2;rw[U.o];have z0:w.heap.size<=w5.heap.size:=S.o.off.size;refine⟨w8.heap.size,z6z p' z' D',fun i=>InT w8.heap.size (.slice ma (q2p L).length mc) u0 i,w5,rfl,S.o,p0.o.trans (q0B _ _),⟨_,p',z',u0,D',⟨Blk.new w8 _ _,q1G (q0O C.o (q0B _ _)) (υ _),c0.o.ext (q0B _ _)⟩,rfl,b0.o,d0.o,fun i u=>u,fun i u=>?_⟩,fun i u=>?_⟩
   ·rw[ρ]
    rcases u with rfl|u|u
    ·omega
    ·have:=(q0l C.o i u).2;omega
    ·have:=c0.o.lt u;omega
   ·have h8:=p0.o.size
    have h6:=n0.o.size;rcases u with rfl|u|u
    ·exact h8
    ·exact(q0l C.o i u).1
    ·have:=h0.o i u;omega
def q1J(σ:DM)(n:Int)(i:Nat):En×Int×DM:=
 if (q1r σ (q0C 116 n) (8+24*(i:Int)) 24).2.1≠0 then(en0,q2R (q1r σ (q0C 116 n) (8+24*(i:Int)) 24).2.1,(q1r σ (q0C 116 n) (8+24*(i:Int)) 24).2.2)
 else match z0X (q1r σ (q0C 116 n) (8+24*(i:Int)) 24).1 with
 |none=>(en0,90,(q1r σ (q0C 116 n) (8+24*(i:Int)) 24).2.2)
 |some x=>(x,0,(q1r σ (q0C 116 n) (8+24*(i:Int)) 24).2.2)
structure TbD(w:World)(t g:Nat)(n:Int)(L:List En)(may:Int->Bool)(T F:Nat->Prop)(σ:DM):Prop where
 d:Dk w g F σ
 t:Tb w t g n L may T
 ap: ∀i,T i->¬F i
section
variable {w w':World}{t g:Nat}{n:Int}{L:List En}{v:Value}{p s:Nat}{mv:Value}{D:DataW Unit}{may:Int->Bool}{T T' F:Nat->Prop}{σ σ':DM}
theorem TbD.ext(h:TbD w t g n L may T F σ)(k:Ext w w'):TbD w' t g n L may T F σ:=⟨h.d.ext k,h.t.ext k,h.ap⟩
theorem TbD.disk(h:TbD w t g n L may T F σ)(k:DkS w g F σ' w'):TbD w' t g n L may T (Gr F w w') σ':=
 ⟨k.dk,h.t.off k.off h.ap,fun i b=>Gr.not (h.ap i b) (h.t.lt i b)⟩
theorem Tb.cells(h:Tb w t g n L may T): ∃(v:Option Addr) (p:Nat×Nat) (s:Nat) (mv:Value),T t/\w.cell? ⟨t,0,none⟩=some (.pointer (some ⟨g,0,none⟩))/\w.cell? ⟨t,1,none⟩=some (.int .i64 n)/\w.cell? ⟨t,2,none⟩=some (.int .i64 (L.length:Int))/\
  w.cell? ⟨t,3,none⟩=some (.slice v (q2p L).length s)/\Mds w v (q2p L).length s (q2p L)/\
  w.cell? ⟨t,4,none⟩=some (.int .i64 (p.1:Int))/\w.cell? ⟨t,5,none⟩=some (.int .i64 (p.2:Int))/\w.cell? ⟨t,6,none⟩=some mv/\ ∃D,FilK w p.1 p.2 mv D/\may=z6z p.1 p.2 D:=by
 obtain⟨v,p,s,mv,D,b,d,l,m,j,o⟩:=h;obtain⟨ao,cap,rfl,hm⟩:=Mds.of_own (Own.of_row b.mids);exact⟨ao,(p,s),cap,mv,j t (.inl rfl),b.blk.cell 0,b.blk.cell 1,b.blk.cell 2,b.blk.cell 3,hm,b.blk.cell 4,b.blk.cell 5,b.blk.cell 6,D,b.fil,d⟩
theorem Dk.Flt(h:Dk w g F σ): ∀i,F i->i<w.heap.size:=by obtain⟨_,_,_,_,_,_,h⟩:=h;exact h
theorem z3O{j:Nat}{u:Value}(k:OffS F w w')(h:w.cell? ⟨i,j,none⟩=some u)(d:¬F i):w'.cell? ⟨i,j,none⟩=some u:=by
 have b:=k.block i (World.block_lt_of_cell? (h:=h)) d;simp only[World.cell?,b] at h⊢;exact h
theorem z9Z(h:okD σ)(nm:List UInt8)(a m:Int):(q1r σ nm a m).1.length<=1048576:=by
 have d:=h.used;have j:=h.cap1;unfold q1r
 split
 ·simp
 ·split
  ·simp
  ·rename_i f b
   have:=z0V (q0J b).1
   split<;>simp<;>omega
theorem z2I(h:TbD w t g n L may T F σ)(i:Nat)(hi:i<=1000000):
  Calls Tryz.prog 227 #[.pointer (some ⟨t,0,none⟩),.int .i64 (i:Int)] w fun e w'=>e= .returned (.tuple #[enV (q1J σ n i).1,.int .i64 (q1J σ n i).2.1])/\DkS w g F (q1J σ n i).2.2 w':=by
 have HD:=η h;have HT:=η (fun W=>z7o n W);have Y:=η (fun W=>y3X i W hi);have h0:=q7s 116 n
 have G:Hd (q1J σ n i=if (q1r σ (q0C 116 n) (8+24*(i:Int)) 24).2.1≠0 then(en0,q2R (q1r σ (q0C 116 n) (8+24*(i:Int)) 24).2.1,(q1r σ (q0C 116 n) (8+24*(i:Int)) 24).2.2)
  else match z0X (q1r σ (q0C 116 n) (8+24*(i:Int)) 24).1 with
  |none=>(en0,90,(q1r σ (q0C 116 n) (8+24*(i:Int)) 24).2.2)
  |some x=>(x,0,(q1r σ (q0C 116 n) (8+24*(i:Int)) 24).2.2)):=η rfl
 have HR:=η (fun W (k:Ext w W)=>z3y (h.d.ext k) (q0C 116 n) (8+24*(i:Int)) 24 h0 (by omega) (by omega) (by decide) (by decide));have l:(q1r σ (q0C 116 n) (8+24*(i:Int)) 24).1.length<=1048576:=z9Z h.d.1 _ _ _;generalize q0C 116 n=TN at*;obtain⟨A,hA⟩: ∃A:Int,8+24*(i:Int)=A:=⟨_,rfl⟩
 rw[hA] at Y HR G l;obtain⟨r1,B⟩: ∃r,q1r σ TN A 24=r:=⟨_,rfl⟩
 rw[B] at HR G l;obtain⟨S,c,σ1⟩:=r1;simp only at HR G l;clear B hA h0;obtain⟨v,p,s,mv,i0,c0,c1,_⟩:=(h.ext (q0B w (.cells #[.int .u64 0,.int .i64 0,.int .i64 0] 165))).t.cells;have d0:=q0A (Ext.refl _).drew c0;have d1:=q0A (Ext.refl _).drew c1;have J:=η ((q0B w (.cells #[.int .u64 0,.int .i64 0,.int .i64 0] 165)).drew);have g0:=(Blk.new w 165 #[.int .u64 0,.int .i64 0,.int .i64 0])
 have j0:=η g0;have N:=h.d.Flt;have f0:=η (h.ap t i0);have M:=η N;clear h g0 N i0;go_enter Tryz.func227,Tryz.ntmps227;go_wp2_with fail
 go_region_held3 (fun W=>W.cell? ⟨t,0,none⟩=some (.pointer (some ⟨g,0,none⟩))/\W.cell? ⟨t,1,none⟩=some (.int .i64 n))
  (first|exact b0.o|exact I.o|exact⟨d0,d1⟩)
  (first
   |(go_at_call 236;refine(HT.o _).mono ?_;rintro e wa ⟨rfl,B⟩;have e0:=η B;have H1:=η (J.o.trans B);have I:=η (And.intro (q0A B d0) (q0A B d1));clear B)
   |(go_at_call 280;refine(Y.o _).mono ?_;rintro e wz ⟨rfl,rfl⟩)
   |(go_at_call 160;refine(HR.o _ H1.o).mono ?_;rintro e C ⟨rfl,E⟩;have H2:=η E;have b0:=η (And.intro (z3O E.off I.o.1 f0.o) (z3O E.off I.o.2 f0.o));clear E))
 all_goals
  have O:=η (DkS.from (HD.o.d.ext J.o) e0.o H2.o);have j:Blk C w.heap.size 165 #[.int .u64 0,.int .i64 0,.int .i64 0]:=O.o.off.blk (j0.o.ext ((Ext.refl _).drew)) (fun hf=>by have:=M.o _ hf;omega);have a0:=η j;have q:Hd (∀V W,Ext C V->OffS (fun i=>i=w.heap.size) V W->DkS w g F σ1 W):=η fun V W B E=>by
   have s1:=E.size;have s2:=B.size;refine DkS.box (w1:=V) J.o (O.o.ext B) M.o s1 E.os E.tape E.output fun i hi hn=>E.block i hi fun e=>hn ?_
   subst e;exact⟨ι _,by show w.heap.size<(w.alloc _).heap.size;rw[ρ];omega⟩
  clear O J e0 H1 I H2 b0;by_cases e1:c=0
  ·subst e1
   cases hg:z0X S with
   | none=>
    have Z:Hd (q1J σ n i=(en0,90,σ1)):=η (by rw[G.o,κ (fun h=>h rfl),hg]);have m:=q9m S C (by omega);unfold q6x at m;rw[hg] at m;have u:Hd (Calls Tryz.prog 281 #[.string ⟨S.toArray⟩] C fun r w'=>r= .returned (.tuple #[.agg #[.int .u64 0,.int .i64 0,.int .i64 0],.bool false])/\Ext C w'):=η m;clear m hg j G l;go_wp2_with fail;refine u.o.mono ?_;rintro e wc ⟨rfl,Q⟩;have y:=η (Q.alloc (.cells #[.int .u64 0,.int .i64 0,.int .i64 0] 165));have b:=a0.o.ext y.o;have r0:(wc.alloc (.cells #[.int .u64 0,.int .i64 0,.int .i64 0] 165)).cell? ⟨w.heap.size,0,none⟩=some (Value.int .u64 0):=b.cell 0;have r1:(wc.alloc (.cells #[.int .u64 0,.int .i64 0,.int .i64 0] 165)).cell? ⟨w.heap.size,1,none⟩=some (Value.int .i64 0):=b.cell 1;have r2:(wc.alloc (.cells #[.int .u64 0,.int .i64 0,.int .i64 0] 165)).cell? ⟨w.heap.size,2,none⟩=some (Value.int .i64 0):=b.cell 2;have y0:=(b).free 0;have y1:=(b).free 1;have y2:=(b).free 2;clear Q b u;go_wp2_with fail
    (try simp only[Exit.inBlock,Exit.then])
    refine bodyPost_ret (v:= .tuple #[.agg #[.int .u64 (0),.int .i64 (0),.int .i64 (0)],.int .i64 (90)]) (by rw[q0x rfl];go_simp) rfl ?_;rw[Z.o];refine⟨rfl,?_⟩;refine q.o _ _ ?_ (OffS.trans (OffS.trans (OffS.set _ ?_ _ _) (OffS.set _ ?_ _ _)) (OffS.set _ ?_ _ _))<;>first|rfl|exact y.o
   | some x=>
    have Z:Hd (q1J σ n i=(x,0,σ1)):=η (by rw[G.o,κ (fun h=>h rfl),hg]);have m:=q9m S C (by omega);unfold q6x at m;rw[hg] at m;obtain⟨R,U,X⟩:=x;have u:Hd (Calls Tryz.prog 281 #[.string ⟨S.toArray⟩] C fun r w'=>r= .returned (.tuple #[.agg #[.int .u64 R,.int .i64 U,.int .i64 X],.bool true])/\Ext C w'):=η m;clear m hg j G l;go_wp2_with fail;refine u.o.mono ?_;rintro e wc ⟨rfl,Q⟩;have y:=η (Q.alloc (.cells #[.int .u64 R,.int .i64 U,.int .i64 X] 165));have b:=a0.o.ext y.o;have r0:(wc.alloc (.cells #[.int .u64 R,.int .i64 U,.int .i64 X] 165)).cell? ⟨w.heap.size,0,none⟩=some (Value.int .u64 0):=b.cell 0;have r1:(wc.alloc (.cells #[.int .u64 R,.int .i64 U,.int .i64 X] 165)).cell? ⟨w.heap.size,1,none⟩=some (Value.int .i64 0):=b.cell 1;have r2:(wc.alloc (.cells #[.int .u64 R,.int .i64 U,.int .i64 X] 165)).cell? ⟨w.heap.size,2,none⟩=some (Value.int .i64 0):=b.cell 2;have y0:=(b).free 0;have y1:=(b).free 1;have y2:=(b).free 2;clear Q b u;go_wp2_with fail
    (try simp only[Exit.inBlock,Exit.then])
    refine bodyPost_ret (v:= .tuple #[.agg #[.int .u64 (R),.int .i64 (U),.int .i64 (X)],.int .i64 (0)]) (by rw[q0x rfl];go_simp) rfl ?_;rw[Z.o];refine⟨rfl,?_⟩;refine q.o _ _ ?_ (OffS.trans (OffS.trans (OffS.set _ ?_ _ _) (OffS.set _ ?_ _ _)) (OffS.set _ ?_ _ _))<;>first|rfl|exact y.o
  ·have Z:Hd (q1J σ n i=(en0,q2R c,σ1)):=η (by rw[G.o,ξ e1])
   have Q:(c !=0)=true:=by simpa using e1
   have k0:=η (fun W=>z3L c W);have r0:C.cell? ⟨w.heap.size,0,none⟩=some (Value.int .u64 0):=j.cell 0;have r1:C.cell? ⟨w.heap.size,1,none⟩=some (Value.int .i64 0):=j.cell 1;have r2:C.cell? ⟨w.heap.size,2,none⟩=some (Value.int .i64 0):=j.cell 2;have y0:=(j).free 0;have y1:=(j).free 1;have y2:=(j).free 2;clear G e1 l j;go_wp2_with fail;refine(k0.o _).mono ?_;rintro e wc ⟨rfl,rfl⟩;go_wp2_with fail
   (try simp only[Exit.inBlock,Exit.then])
   refine bodyPost_ret (v:= .tuple #[.agg #[.int .u64 (0),.int .i64 (0),.int .i64 (0)],.int .i64 (q2R c)]) (by rw[q0x rfl];go_simp) rfl ?_;rw[Z.o];refine⟨rfl,?_⟩;refine q.o _ _ ?_ (OffS.trans (OffS.trans (OffS.set _ ?_ _ _) (OffS.set _ ?_ _ _)) (OffS.set _ ?_ _ _))<;>first|rfl|exact Ext.refl _
end
def q6w(n:Int)(x:En):Nat->DM->Nat->Nat->Nat×Int×DM
 |0,σ,lo,_=>(lo,0,σ)
 | f +1,σ,lo,hi=>if lo<hi then
   if (q1J σ n ((lo+hi)/2)).2.1≠0 then(0,(q1J σ n ((lo+hi)/2)).2.1,(q1J σ n ((lo+hi)/2)).2.2)
   else if q0n (q1J σ n ((lo+hi)/2)).1 x then q6w n x f (q1J σ n ((lo+hi)/2)).2.2 ((lo+hi)/2+1) hi
   else q6w n x f (q1J σ n ((lo+hi)/2)).2.2 lo ((lo+hi)/2)
  else(lo,0,σ)
def q1s(σ:DM)(n:Int)(L:List En)(x:En):Nat×Int×DM:=
 q6w n x (L.length+1) σ (q0w L.length x 0 (q2p L)).1 (q0w L.length x 0 (q2p L)).2
theorem q9u(m:Nat): ∀(i:Nat) (l:List En),i+l.length<=m-> ∀y∈q4U m i l,y.2<m
 |_,[],_=>fun y b=>by cases b
 | i, e::r,h=>fun y b=>by
  rw[χ] at h;unfold q4U at b
  split at b
  ·rcases List.mem_cons.1 b with rfl|b
   ·show i<m;omega
   ·exact q9u m (i+1) r (by omega) y b
  ·exact q9u m (i+1) r (by omega) y b
section
variable {w w':World}{t g:Nat}{n:Int}{L:List En}{may:Int->Bool}{T F:Nat->Prop}{σ:DM}
theorem z7r(h:TbD w t g n L may T F σ)(x:En):
  Calls Tryz.prog 226 #[.pointer (some ⟨t,0,none⟩),enV x] w fun e w'=>e= .returned (.tuple #[.int .i64 ((q1s σ n L x).1:Int),.int .i64 (q1s σ n L x).2.1])/\DkS w g F (q1s σ n L x).2.2 w':=by
 have i0:=h.t.okL;have U:=q7u x i0.sort;have C0:=i0.len;obtain⟨l,q,u⟩:=x;show Calls _ _ #[_,.agg #[.int .u64 l,.int .i64 q,.int .i64 u]] _ _;have HD:=η h;have c0:=q0B w (.cells #[.int .u64 l,.int .i64 q,.int .i64 u] 165);have z0:=η c0;have O:=Blk.new w 165 #[.int .u64 l,.int .i64 q,.int .i64 u];obtain⟨v,p,s,mv,B0,_,_,c2,c3,t0,_⟩:=(h.ext c0).t.cells;have d2:=q0D c2;have d3:=q0D c3;have e0:=q0D (show(w.alloc (.cells #[.int .u64 l,.int .i64 q,.int .i64 u] 165)).cell? ⟨w.heap.size,0,none⟩=some (.int .u64 l) from O.cell 0);have e1:=q0D (show(w.alloc (.cells #[.int .u64 l,.int .i64 q,.int .i64 u] 165)).cell? ⟨w.heap.size,1,none⟩=some (.int .i64 q) from O.cell 1);have e2:=q0D (show(w.alloc (.cells #[.int .u64 l,.int .i64 q,.int .i64 u] 165)).cell? ⟨w.heap.size,2,none⟩=some (.int .i64 u) from O.cell 2);have HN:=η (fun W (k:Ext (w.alloc (.cells #[.int .u64 l,.int .i64 q,.int .i64 u] 165)) W)=>z9Q (m:=L.length) (l,q,u) W (t0.ext k) (by omega) (q9u L.length 0 L (by omega)));have h0:Hd (q1s σ n L (l,q,u)=q6w n (l,q,u) (L.length+1) σ (q0w L.length (l,q,u) 0 (q2p L)).1 (q0w L.length (l,q,u) 0 (q2p L)).2):=η rfl;obtain⟨R,hR⟩: ∃R,q1s σ n L (l,q,u)=R:=⟨_,rfl⟩
 rw[hR] at h0;rw[hR];obtain⟨z,hz⟩: ∃z,q0w L.length (l,q,u) 0 (q2p L)=z:=⟨_,rfl⟩
 rw[hz] at h0 U;have x0:=η U;generalize hQ:lbE L (l,q,u)=lb at*;obtain⟨j0,a0⟩:=z;have o0:Hd (∀W,Ext (w.alloc (.cells #[.int .u64 l,.int .i64 q,.int .i64 u] 165)) W->Calls Tryz.prog 279 #[.slice v (q2p L).length s,.int .i64 (L.length:Int),.agg #[.int .u64 l,.int .i64 q,.int .i64 u]] W fun r w'=>r= .returned (.tuple #[.int .i64 (j0:Int),.int .i64 (a0:Int)])/\Ext W w'):=η fun W k=>by
  have h1:=HN.o W k;rw[hz] at h1;exact h1
 have f0:=h.d.Flt;have m0:=η f0;generalize (q2p L).length=ml at*;have k0:=η O;have Y:=η (h.ext c0);clear h i0 U hz HN t0 c2 c3 hR hQ c0 B0 f0 O;go_enter Tryz.func226,Tryz.ntmps226;go_wp2_with fail;generalize w.alloc (.cells #[.int .u64 l,.int .i64 q,.int .i64 u] 165)=w1 at*;refine q0E (by kernel_rfl) (by kernel_rfl) ?_
 repeat (go_big_quiet_step (fail))
 go_big_quiet_step (exact Calls.quiet_ext (o0.o _ (ExtOf.h _)))
 repeat (go_big_quiet_step (fail))
 refine wpQuiet_nil ?_;intro w2 u0;have w0:=η ((DkS.refl Y.o.d).ext u0);have D0:Hd (∀i,T i->i<w1.heap.size/\¬F i):=η fun i B=>⟨Y.o.t.lt i B,Y.o.ap i B⟩
 have y0:Hd (∀G W,DkS w1 g F G W->TbD W t g n L may T (Gr F w1 W) G):=η fun G W M=>Y.o.disk M
 have v0:Hd (∀G W,DkS w1 g F G W->Blk W w.heap.size 165 #[.int .u64 l,.int .i64 q,.int .i64 u]):=η fun G W M=>M.off.blk k0.o fun hf=>by have:=m0.o _ hf;omega
 have d0:Hd (∀G W,DkS w1 g F G W->DkS w g F G W):=η fun G W M=>DkS.from HD.o.d z0.o M
 have U:=x0.o;have HL:=η (show j0<=a0/\a0<=L.length by omega);clear u0 e0 e1 e2 d2 d3 o0 U k0;go_wp2_with fail
 go_loopw [6,7] (fun a b W=> ∃(J B f:Nat) (G:DM),J<=B/\B<=L.length/\B-J<f/\a= .int .i64 (J:Int)/\b= .int .i64 (B:Int)/\q6w n (l,q,u) f G J B=R/\DkS w1 g F G W) (fun a b _=>(intOf b).toNat-(intOf a).toNat)
 case atStart=>exact⟨j0,a0,L.length+1,σ,HL.o.1,HL.o.2,by have:=HL.o;omega,rfl,rfl,h0.o.symm,w0.o⟩
 case round=>
  obtain⟨J,B,f,G,E0,A0,hf,rfl,rfl,j,M⟩:=hrel;have g0:=η M;obtain⟨f,rfl⟩: ∃f',f=f'+1:=⟨f-1,by omega⟩
  unfold q6w at j;clear M;by_cases s0:J<B
  ·rw [ξ s0] at j
   have M:decide ((J:Int)<(B:Int))=true:=by simp;omega
   obtain⟨m,hm⟩: ∃m,(J+B)/2=m:=⟨_,rfl⟩
   rw[hm] at j;obtain⟨S,hS⟩: ∃S:Int,(J:Int)+(B:Int)=S:=⟨_,rfl⟩
   have q1:IntKind.i64.wrap ((J:Int)+(B:Int))=S:=by rw[ν];omega
   have q2:IntKind.u64.wrap S=S:=by rw[IntKind.wrap_u64];omega
   have q3:Int.tdiv S 2=(m:Int):=by rw[Int.tdiv_eq_ediv_of_nonneg (by omega)];omega
   have q4:IntKind.u64.wrap (m:Int)=(m:Int):=by rw[IntKind.wrap_u64];omega
   have q5:IntKind.i64.wrap (m:Int)=(m:Int):=by rw[ν];omega
   have q6:IntKind.i64.wrap ((m:Int)+1)=(m:Int)+1:=by rw[ν];omega
   have F0:J<=m/\m<B:=by omega
   have C:=η (z2I (y0.o _ _ g0.o) m (by omega));have Z:Hd (∀I W,DkS wr g (Gr F w1 wr) I W->DkS w1 g F I W):=η fun I W M=>g0.o.trans M
   obtain⟨r,hr⟩: ∃r,q1J G n m=r:=⟨_,rfl⟩
   rw[hr] at j C;obtain⟨⟨y1,y2,y3⟩,c,I⟩:=r;simp only at j;have C:Hd (Calls Tryz.prog 227 #[.pointer (some ⟨t,0,none⟩),.int .i64 (m:Int)] wr fun e w'=>e= .returned (.tuple #[.agg #[.int .u64 y1,.int .i64 y2,.int .i64 y3],.int .i64 c])/\DkS wr g (Gr F w1 wr) I w'):=C;have n0:=η (fun W=>z1F (y1,y2,y3) (l,q,u) W);clear hm hr hS;by_cases hc:c=0
   ·subst hc
    rw[κ (fun h=>h rfl)] at j;have y:=η j;clear j;go_wp2_with fail;refine C.o.mono ?_;rintro e w4 ⟨rfl,Q⟩;have X:=η (Z.o _ _ Q);have q0:=v0.o _ _ X.o;have b0:=q0.ext (q0B w4 (.cells #[.int .u64 y1,.int .i64 y2,.int .i64 y3] 165));have r0:(w4.alloc (.cells #[.int .u64 y1,.int .i64 y2,.int .i64 y3] 165)).cell? ⟨w.heap.size,0,none⟩=some (Value.int .u64 l):=b0.cell 0;have r1:(w4.alloc (.cells #[.int .u64 y1,.int .i64 y2,.int .i64 y3] 165)).cell? ⟨w.heap.size,1,none⟩=some (Value.int .i64 q):=b0.cell 1;have r2:(w4.alloc (.cells #[.int .u64 y1,.int .i64 y2,.int .i64 y3] 165)).cell? ⟨w.heap.size,2,none⟩=some (Value.int .i64 u):=b0.cell 2;clear Q q0 b0 C Z;go_wp2_with fail;refine(n0.o _).mono ?_;rintro e w5 ⟨rfl,p0⟩;have l0:=η (X.o.ext ((q0B _ _).trans p0));clear p0 n0 r0 r1 r2
    cases hlx:q0n (y1,y2,y3) (l,q,u) with
    | true=>
     have E:=y.o;rw[hlx,ξ rfl] at E;have N:=η E;clear E hlx y;go_wp2_with fail
     go_roundw
     case rel=>exact⟨m+1,B,f,I,by omega,A0,by omega,by go_num,rfl,N.o,l0.o⟩
     case measure=>simp[intOf];omega
    | false=>
     have E:=y.o;rw[hlx,κ (by decide)] at E;have N:=η E;clear E hlx y;go_wp2_with fail
     go_roundw
     case rel=>exact⟨J,m,f,I,by omega,by omega,by omega,rfl,rfl,N.o,l0.o⟩
     case measure=>simp[intOf];omega
   ·have hb:(c !=0)=true:=by simpa using hc
    rw[ξ hc] at j;have y:=η j;clear j hc;go_wp2_with fail;refine C.o.mono ?_;rintro e w4 ⟨rfl,Q⟩;have X:=η (Z.o _ _ Q);clear Q C Z;go_wp2_with fail;go_ret2;rw[<-y.o];exact⟨rfl,d0.o _ _ (X.o.ext (q0B _ _))⟩
  ·rw[κ s0] at j
   have M:decide ((J:Int)<(B:Int))=false:=by simp;omega
   have y:=η j;clear j;go_wp2_with fail;go_ret2;rw[<-y.o];exact⟨rfl,d0.o _ _ g0.o⟩
end
def q4W(L:List En)(may:Int->Bool)(h:Int):Bool:=decide (0<L.length)&&may h
section
variable {w w':World}{t g:Nat}{n:Int}{L:List En}{may:Int->Bool}{T F:Nat->Prop}{σ:DM}
theorem z2x(h:Tb w t g n L may T):Calls Tryz.prog 224 #[.pointer (some ⟨t,0,none⟩)] w fun e w'=>e= .returned (.bool false)/\w=w':=by
 obtain⟨v,p,s,mv,b,d,_⟩:=h.cells;clear h;go_enter Tryz.func224,Tryz.ntmps224;go_wp2_with fail;go_ret;exact⟨rfl,rfl⟩
theorem y0H(h:Tb w t g n L may T)(x:Int):Calls Tryz.prog 225 #[.pointer (some ⟨t,0,none⟩),.int .u64 x] w fun e w'=>e= .returned (.bool (q4W L may x))/\Ext w w':=by
 have m:=η (z2x h);obtain⟨v,p,s,mv,C,E,G,I,J,_,M,N,O,D,r,rfl⟩:=h.cells;have y:=η (y0A x w r);obtain⟨j,l⟩:=p;obtain⟨⟨Q,rfl⟩,_⟩:=r;clear h;by_cases b:0<L.length
 ·have B:decide ((0:Int)<(L.length:Int))=true:=ζ (by omega)
  have d:Hd (q4W L (z6z j l D) x=z6z j l D x):=η (by unfold q4W;rw[ζ b];rfl);rw[d.o];generalize (L.length:Int)=k at*;clear b;go_enter Tryz.func225,Tryz.ntmps225;go_wp2_with fail;refine m.o.mono ?_;rintro e w1 ⟨rfl,rfl⟩;go_wp2_with fail;refine y.o.mono ?_;rintro e w2 ⟨rfl,q⟩;have u:=η q;clear q;go_wp2_with fail;go_ret;exact⟨rfl,u.o⟩
 ·have B:decide ((0:Int)<(L.length:Int))=false:=ε (by omega)
  have d:Hd (q4W L (z6z j l D) x=false):=η (by unfold q4W;rw[ε b];rfl);rw[d.o];generalize (L.length:Int)=k at*;clear b;go_enter Tryz.func225,Tryz.ntmps225;go_wp2_with fail;refine m.o.mono ?_;rintro e w1 ⟨rfl,rfl⟩;go_wp2_with fail;go_ret;exact⟨rfl,Ext.refl _⟩
end
def z0H(n:Int)(L:List En)(h b:Int):Nat->DM->Nat->List En->List En×Int×DM
 |0,σ,_,acc=>(acc,0,σ)
 | f +1,σ,i,acc=>if i<L.length then
   if (q1J σ n i).2.1≠0 then([],(q1J σ n i).2.1,(q1J σ n i).2.2)
   else if inE h b (q1J σ n i).1 then z0H n L h b f (q1J σ n i).2.2 (i+1) (acc++[(q1J σ n i).1])
   else(acc,0,(q1J σ n i).2.2)
  else(acc,0,σ)
def q3C(σ:DM)(n:Int)(L:List En)(may:Int->Bool)(h a b:Int):List En×Int×DM:=
 if min b 1073741824<max a 0\/q4W L may h=false then([],0,σ)
 else if (q1s σ n L (h,max a 0,0)).2.1≠0 then([],(q1s σ n L (h,max a 0,0)).2.1,(q1s σ n L (h,max a 0,0)).2.2)
 else z0H n L h (min b 1073741824) (L.length+1) (q1s σ n L (h,max a 0,0)).2.2 (q1s σ n L (h,max a 0,0)).1 []
section
variable {w w' w1 w2:World}{t g:Nat}{n:Int}{L:List En}{may:Int->Bool}{T F V:Nat->Prop}{σ σ':DM}{row:Option Nat}
theorem Dk.grown(h:Dk w g F σ)(k:w.grownBy w' row)(d: ∀i,row=some i->¬F i):Dk w' g F σ:=
 h.held k.size fun i b=>k.block i (h.Flt i b) fun e=>d i e.symm b
structure RowV(w:World)(g:Nat)(F:Nat->Prop)(σ:DM)(W:World)(v:Value)(acc:List En):Prop where
 row:W.ownsRow w.heap.size 165 3 v acc.length (ecs acc)
 dk: ∃F',Dk W g F' σ/\(∀i,F' i->Gr F w W i)/\ ∀i,v.ownBlock=some i->¬F' i
 off:OffS F w W
theorem RowV.nil(h:DkS w g F σ w'):RowV w g F σ w' (.slice none 0 0) []:=
 ⟨World.ownsRow_nil _ _ _ _,⟨_,h.dk,fun i b=>b,fun i b=>by cases b⟩,h.off⟩
theorem RowV.ext{v:Value}(h:RowV w g F σ W v acc)(k:Ext W W'):RowV w g F σ W' v acc:=by
 obtain⟨d,j,l,m⟩:=h.dk;refine⟨q0O h.row k,⟨d,j.ext k,fun i o=>?_,m⟩,h.off.trans (OffS.of_ext k)⟩;rcases l i o with b|b
 ·exact .inl b
 ·exact .inr ⟨b.1,Ψ b.2 k.size⟩
theorem RowV.step{v:Value}{d:Nat->Prop}(h:RowV w g F σ W v acc)(q:Dk W g d σ)(l: ∀i,d i->Gr F w W i)(m: ∀i,v.ownBlock=some i->¬d i)(k:DkS W g d σ' W'):RowV w g F σ' W' v acc:=by
 have r:=k.off.size;refine⟨q0z h.row fun i b=>k.off.block i (q0l h.row i b).2 (m i b),⟨_,k.dk,fun i b=>?_,fun i b o=>?_⟩,h.off.gr (k.off.mono fun i _ b=>l i b)⟩
 ·rcases b with b|b
  ·rcases l i b with j|j
   ·exact .inl j
   ·exact .inr ⟨j.1,by omega⟩
  ·exact .inr ⟨by have:=h.off.size;omega,b.2⟩
 ·exact Gr.not (m i b) (q0l h.row i b).2 o
theorem RowV.grow{v j:Value}{acc':List En}(h:RowV w g F σ W v acc)(B:W'.ownsRow w.heap.size 165 3 j acc'.length (ecs acc'))(d:W.grownBy W' v.ownBlock)(m:j.ownBlock=v.ownBlock\/j.ownBlock=some W.heap.size):RowV w g F σ W' j acc':=by
 obtain⟨u,o,x,q⟩:=h.dk;have C:=d.size;refine⟨B,⟨u,o.grown d fun i b=>q i b,fun i b=>?_,fun i b r=>?_⟩,?_⟩
 ·rcases x i b with l|l
  ·exact .inl l
  ·exact .inr ⟨l.1,by omega⟩
 ·rcases m with e|e
  ·exact q i (e▸b) r
  ·rw[e] at b;cases b
   have:=o.Flt _ r;omega
 ·refine⟨d.os.trans h.off.os,d.tape.trans h.off.tape,d.output.trans h.off.output,Ω h.off.size C,fun i b y=>?_⟩
  rw[d.block i (Ψ b h.off.size) fun e=>?_,h.off.block i b y];have:=(q0l h.row i e.symm).1;omega
theorem RowV.drop{v:Value}(h:RowV w g F σ W v acc):RowV w g F σ W (.slice none 0 0) []:=by
 obtain⟨b,d,j,m⟩:=h.dk;exact⟨World.ownsRow_nil _ _ _ _,⟨b,d,j,fun i l=>by cases l⟩,h.off⟩
def y1n(w:World)(g:Nat)(F:Nat->Prop)(r:List En×Int×DM)(e:Ending)(w':World):Prop:=
 ∃v,e= .returned (.tuple #[v,.int .i64 r.2.1])/\RowV w g F r.2.2 w' v r.1
theorem z9r(h : TbD w t g n L may T F σ)(x a b:Int):
  Calls Tryz.prog 180 #[.pointer (some ⟨t,0,none⟩),.int .u64 x,.int .i64 a,.int .i64 b] w (y1n w g F (q3C σ n L may x a b)):=by
 have HD:=η h;have HN:=η (z2x h.t);have d0:=η (y0H h.t x)
 have HM:Hd (q3C σ n L may x a b=if min b 1073741824<max a 0\/q4W L may x=false then([],0,σ)
  else if (q1s σ n L (x,max a 0,0)).2.1≠0 then([],(q1s σ n L (x,max a 0,0)).2.1,(q1s σ n L (x,max a 0,0)).2.2)
  else z0H n L x (min b 1073741824) (L.length+1) (q1s σ n L (x,max a 0,0)).2.2 (q1s σ n L (x,max a 0,0)).1 []):=η rfl
 obtain⟨A,hA⟩: ∃A,max a 0=A:=⟨_,rfl⟩
 obtain⟨B,hB⟩: ∃B,min b 1073741824=B:=⟨_,rfl⟩
 rw[hA,hB] at HM;have HF:=η (fun W (k:Ext w W)=>z7r (h.ext k) (x,A,0));obtain⟨r,hr⟩: ∃r,q1s σ n L (x,A,0)=r:=⟨_,rfl⟩
 rw[hr] at HF HM;obtain⟨i0,c,σ1⟩:=r;simp only at HF HM;obtain⟨q,hq⟩: ∃q,q4W L may x=q:=⟨_,rfl⟩
 rw[hq] at d0 HM;clear h hr hq;by_cases I:B<A
 ·have hd:decide (B<A)=true:=ζ I
  have HE:Hd (q3C σ n L may x a b=([],0,σ)):=η (by rw[HM.o,ξ (.inl I)]);clear HM I;go_enter Tryz.func180,Tryz.ntmps180;go_wp2_with fail;refine HN.o.mono ?_;rintro e w1 ⟨rfl,rfl⟩;go_wp2_with fail;go_ret2;rw[HE.o];exact⟨_,rfl,RowV.nil (DkS.refl HD.o.d)⟩
 ·have hd : decide (B<A)=false:=ε I
  cases q with
  | false=>
   have HE:Hd (q3C σ n L may x a b=([],0,σ)):=η (by rw[HM.o,ξ (.inr rfl)]);clear HM I;go_enter Tryz.func180,Tryz.ntmps180;go_wp2_with fail;refine HN.o.mono ?_;rintro e w1 ⟨rfl,rfl⟩;go_wp2_with fail;refine d0.o.mono ?_;rintro e w2 ⟨rfl,hb⟩;have a0:=η hb;clear hb;go_wp2_with fail;go_ret2;rw[HE.o];exact⟨_,rfl,RowV.nil ((DkS.refl HD.o.d).ext a0.o)⟩
  | true =>
   have b0:Hd (q3C σ n L may x a b=if c≠0 then([],c,σ1) else z0H n L x B (L.length+1) σ1 i0 []):=η (by rw[HM.o,κ (by simp[I])]);clear HM I;go_enter Tryz.func180,Tryz.ntmps180;go_wp2_with fail;refine HN.o.mono ?_;rintro e w1 ⟨rfl,rfl⟩;go_wp2_with fail;refine d0.o.mono ?_;rintro e w2 ⟨rfl,hb⟩;have a0:=η hb;clear hb;go_wp2_with fail;refine(HF.o _ a0.o).mono ?_;rintro e w3 ⟨rfl,O⟩;have l0:=η (DkS.from HD.o.d a0.o O);clear O;by_cases hc:c=0
   ·subst hc
    have HE:Hd (z0H n L x B (L.length+1) σ1 i0 []=q3C σ n L may x a b):=η (by rw[b0.o,κ (fun h=>h rfl)]);clear b0;have u0:Hd (∀W F',OffS F w W->(∀i,F' i->Gr F w W i)-> ∀U,Dk W g F' U->TbD W t g n L may T F' U):=η fun W F' h1 h2 U h3=>⟨h3,HD.o.t.off h1 HD.o.ap,fun i hi hf=>Gr.not (HD.o.ap i hi) (HD.o.t.lt i hi) (h2 i hf)⟩
    obtain⟨R,hR⟩: ∃R,q3C σ n L may x a b=R:=⟨_,rfl⟩
    have x0:=HD.o.t.okL.len;have w0:Hd (∀U W v acc,RowV w g F U W v acc->w.heap.size<=W.heap.size):=η fun U W v acc h=>h.off.size
    rw[hR] at HE;have k0:=η hR;clear HN d0 HF hA hB hR;go_wp2_with fail
    go_loopw [10,12] (fun i v W=> ∃(k f:Nat) (U:DM) (acc:List En),L.length-k<f/\acc.length<=k/\i= .int .i64 (k:Int)/\z0H n L x B f U k acc=R/\RowV w g F U W v acc/\(k<=L.length\/acc.length=0)) (fun i _ _=>L.length-(intOf i).toNat)
    case atStart=>exact⟨i0,L.length+1,σ1,[],by omega,υ _,rfl,HE.o,RowV.nil l0.o,.inr rfl⟩
    case round =>
     obtain⟨k,f,U,acc,hf,o0,rfl,j,Q,q0⟩:=hrel;obtain⟨f,rfl⟩: ∃f',f=f'+1:=⟨f-1,by omega⟩
     have j0:=η Q;obtain⟨va,vc,rfl⟩:=q0G Q.row;unfold z0H at j;obtain⟨F',e0,f0,O⟩:=Q.dk;have g0:=u0.o _ F' Q.off f0 U e0;obtain⟨vv,pp,ss,mv,A0,c0,c1,c2,_⟩:=g0.t.cells;have u2:=q0D c2;by_cases r0:k<L.length
     ·have hd:decide ((k:Int)<(L.length:Int))=true:=ζ (by omega)
      have q1:IntKind.i64.wrap ((k:Int)+1)=(k:Int)+1:=by rw[ν];omega
      rw[ξ r0] at j;have E:=η (z2I g0 k (by omega));have X:Hd (∀S W',DkS wr g F' S W'->RowV w g F S W' (.slice va acc.length vc) acc):=η fun S W' h=>j0.o.step e0 f0 O h
      obtain⟨r,hr⟩: ∃r,q1J U n k=r:=⟨_,rfl⟩
      rw[hr] at j E;obtain⟨⟨l,m,C⟩,c,S⟩:=r;simp only at j;have E:Hd (Calls Tryz.prog 227 #[.pointer (some ⟨t,0,none⟩),.int .i64 (k:Int)] wr fun e w'=>e= .returned (.tuple #[.agg #[.int .u64 l,.int .i64 m,.int .i64 C],.int .i64 c])/\DkS wr g F' S w'):=E;have z0:=η hf;have v0:acc.length<=50000:=by omega
      obtain⟨al,M⟩: ∃al,acc.length=al:=⟨_,rfl⟩
      have h0:=η M;rw[M] at X j0 v0 o0;rw[M];clear hr Q g0 e0 f0 O q0 M;generalize L.length=ll at*;by_cases hc:c=0
      ·subst hc
       rw[κ (fun h=>h rfl)] at j;by_cases J:l=x/\m<=B
       ·have y:inE x B (l,m,C)=true:=by unfold inE;rw[ζ J.1,ζ J.2];rfl
        rw[y,ξ rfl] at j;have G:=η j;have b1:(l !=x)=false:=by simpa using J.1
        have b2:decide (B<m)=false:=ε (by omega);clear j J y;go_wp2_with fail;refine E.o.mono ?_;rintro e w4 ⟨rfl,u⟩;have N:=η (X.o _ _ u);clear u E X;have y0:=w0.o _ _ _ _ N.o;have n0:=η ((N.o.ext (q0B w4 (.cells #[.int .u64 l,.int .i64 m,.int .i64 C] 165))).ext (q0B _ (.cells #[.int .u64 l,.int .i64 m,.int .i64 C] 165)))
        have m0:Hd (Rd ((w4.alloc (.cells #[.int .u64 l,.int .i64 m,.int .i64 C] 165)).alloc (.cells #[.int .u64 l,.int .i64 m,.int .i64 C] 165)) (some ⟨w4.heap.size+1,0,none⟩) (ec (l,m,C))):=η (by
         have h:=Rd.lit (w4.alloc (.cells #[.int .u64 l,.int .i64 m,.int .i64 C] 165)) #[.int .u64 l,.int .i64 m,.int .i64 C] 165;rw[ρ] at h
         exact h)
        have t0:Hd (((w4.alloc (.cells #[.int .u64 l,.int .i64 m,.int .i64 C] 165)).alloc (.cells #[.int .u64 l,.int .i64 m,.int .i64 C] 165)).ownsRow w.heap.size 165 3 (.slice va al vc) al (ecs acc)):=η (by have h:=n0.o.row;rw[h0.o] at h;exact h)
        go_wp2_with (at_builtin;refine q0R rfl (.tmp 68) (.tmp 70) 187 rfl w.heap.size 165 _ 3 24 Tryz.underlying187 Tryz.infoE (by decide) (by decide) _ al (ecs acc) rfl t0.o _ 1 1 (ec (l,m,C)) rfl rfl (fun h=>by cases h) m0.o (by unfold ec;simp[Value.oneCell']) (by unfold maxLen;omega) (by omega) (by simp;omega) ?_;intro v2 w5 Z Y p0;obtain⟨a2,k2,rfl⟩:=q0G Z;have s0:=η (n0.o.grow (acc':=acc++[(l,m,C)]) (by rw[θ,h0.o,z3Y];exact Z) Y (p0.imp id fun e=>e));clear Z Y p0)
        go_roundw
        case rel=>exact⟨k+1,f,S,acc++[(l,m,C)],by omega,by simp;have:=h0.o;omega,by go_num,G.o,s0.o,.inl (by omega)⟩
        case measure=>simp[intOf];omega
       ·have y:inE x B (l,m,C)=false:=by
         unfold inE;by_cases e:l=x
         ·rw[ζ e,ε (fun h=>J ⟨e,h⟩)];rfl
         ·rw[ε e];rfl
        rw[y,κ (by decide)] at j;have G:=η j;have b1:(l !=x)=true\/((l !=x)=false/\decide (B<m)=true):=by
         by_cases e:l=x
         ·exact .inr ⟨by simpa using e,ζ (by have:¬m<=B:=fun h=>J ⟨e,h⟩;omega)⟩
         ·exact .inl (by simpa using e)
        clear j J y;rcases b1 with b1|⟨b1,b2⟩
        all_goals
         go_wp2_with fail;refine E.o.mono ?_;rintro e w4 ⟨rfl,u⟩;have N:=η ((X.o _ _ u).ext (q0B w4 (.cells #[.int .u64 l,.int .i64 m,.int .i64 C] 165)));clear u;go_wp2_with fail;go_ret2;rw[k0.o,<-G.o];exact⟨_,rfl,N.o⟩
      ·rw[ξ hc] at j
       have hb:(c !=0)=true:=by simpa using hc
       have G:=η j;clear j hc;go_wp2_with fail;refine E.o.mono ?_;rintro e w4 ⟨rfl,u⟩;have N:=η ((X.o _ _ u).ext (q0B w4 (.cells #[.int .u64 l,.int .i64 m,.int .i64 C] 165)));clear u;go_wp2_with fail;go_ret2;rw[k0.o,<-G.o];exact⟨_,rfl,N.o.drop⟩
     ·have hd:decide ((k:Int)<(L.length:Int))=false:=ε (by omega)
      rw[κ r0] at j;have G:=η j;clear j Q g0 e0 f0 O q0;go_wp2_with fail;go_ret2;rw[k0.o,<-G.o];exact⟨_,rfl,j0.o⟩
   ·have HE:Hd (q3C σ n L may x a b=([],c,σ1)):=η (by rw[b0.o,ξ hc])
    have hb:(c !=0)=true:=by simpa using hc
    clear b0 hc;go_wp2_with fail;go_ret2;rw[HE.o];exact⟨_,rfl,RowV.nil l0.o⟩
end
theorem q0T{fn:Func}{p u v:Tmp}{ty:TypeId}(h:fn.results=#[.cell p ty,.tmp u,.tmp v])(tmps:Array Value)(P:Program)(w:World):
  (results fn tmps).run P w=
   ((asAddr (tmps.getD p undef)).run P w).andThen fun a w₁=>((loadVar ty a).run P w₁).andThen fun x b=> .ok (.tuple #[x,tmps.getD u undef,tmps.getD v undef]) b:=by
 simp only[results,h];simp[Sem.run_bind,Result.andThen]
theorem q9g(n:Int)(x:En): ∀(f:Nat) (σ:DM) (lo hi:Nat),lo<=hi->(q6w n x f σ lo hi).1<=hi
 |0,σ,lo,hi,h=>h
 | f + 1,σ,lo,hi,h=>by
  unfold q6w
  split
  ·split
   ·exact υ _
   ·split
    ·exact q9g n x f _ _ _ (by omega)
    ·exact Ω (q9g n x f _ lo ((lo+hi)/2) (by omega)) (by omega)
  ·exact h
theorem z8s{L:List En}(h:q1E L)(σ:DM)(n:Int)(x:En):(q1s σ n L x).1<=L.length:=by
 have b:=q7u x h;exact Ω (q9g n x _ σ _ _ (by omega)) b.2.2.2
def q3S(σ:DM)(n:Int)(L:List En)(may:Int->Bool)(h u:Int):En×Bool×Int×DM:=
 if min u 1073741824<0\/q4W L may h=false then(en0,false,0,σ)
 else if (q1s σ n L (h,min u 1073741824+1,0)).2.1≠0\/(q1s σ n L (h,min u 1073741824+1,0)).1=0 then(en0,false,(q1s σ n L (h,min u 1073741824+1,0)).2.1,(q1s σ n L (h,min u 1073741824+1,0)).2.2)
 else if (q1J (q1s σ n L (h,min u 1073741824+1,0)).2.2 n ((q1s σ n L (h,min u 1073741824+1,0)).1-1)).2.1≠0\/(q1J (q1s σ n L (h,min u 1073741824+1,0)).2.2 n ((q1s σ n L (h,min u 1073741824+1,0)).1-1)).1.1≠h
  then(en0,false,(q1J (q1s σ n L (h,min u 1073741824+1,0)).2.2 n ((q1s σ n L (h,min u 1073741824+1,0)).1-1)).2)
 else((q1J (q1s σ n L (h,min u 1073741824+1,0)).2.2 n ((q1s σ n L (h,min u 1073741824+1,0)).1-1)).1,true,0,(q1J (q1s σ n L (h,min u 1073741824+1,0)).2.2 n ((q1s σ n L (h,min u 1073741824+1,0)).1-1)).2.2)
section
variable {w w' w1 w2:World}{t g:Nat}{n:Int}{L:List En}{may:Int->Bool}{T F V:Nat->Prop}{σ σ':DM}
theorem z7t(h:TbD w t g n L may T F σ)(x u:Int)(hu: -9223372036854775808<=u):
  Calls Tryz.prog 167 #[.pointer (some ⟨t,0,none⟩),.int .u64 x,.int .i64 u] w fun e w'=>e= .returned (.tuple #[enV (q3S σ n L may x u).1,.bool (q3S σ n L may x u).2.1,.int .i64 (q3S σ n L may x u).2.2.1])/\DkS w g F (q3S σ n L may x u).2.2.2 w':=by
 have U:=Blk.new w 165 #[.int .u64 0,.int .i64 0,.int .i64 0];have d0:=q0B w (.cells #[.int .u64 0,.int .i64 0,.int .i64 0] 165);have v0:=η h;have w0:=η d0;have J:=h.d.Flt;have k0:=z8s h.t.okL.sort σ n;have u0:=h.t.okL.len
 replace h:=h.ext d0
 have HD:=η h;have HN:=η (z2x h.t);have a0:=η (y0H h.t x)
 have HM:Hd (∀A,A=min u 1073741824-> ∀r,q1s σ n L (x,A+1,0)=r-> ∀y,q1J r.2.2 n (r.1-1)=y-> ∀q,q4W L may x=q->
  q3S σ n L may x u=if A<0\/q=false then(en0,false,0,σ) else if r.2.1≠0\/r.1=0 then(en0,false,r.2.1,r.2.2) else if y.2.1≠0\/y.1.1≠x then(en0,false,y.2) else(y.1,true,0,y.2.2)):=η (by
   intro A hA r hr y hy q hq;subst hA hr hy hq
   rfl)
 obtain⟨A,hA⟩: ∃A,min u 1073741824=A:=⟨_,rfl⟩
 have x0: -9223372036854775808<=A/\A<=1073741824:=by omega
 have q1:IntKind.i64.wrap (A+1)=A+1:=by rw[ν];omega
 have HF:=η (fun W (k:Ext (w.alloc (.cells #[.int .u64 0,.int .i64 0,.int .i64 0] 165)) W)=>z7r (h.ext k) (x,A+1,0));have b0:=k0 (x,A+1,0);have h0:=η (HM.o A hA.symm);obtain⟨r,hr⟩: ∃r,q1s σ n L (x,A+1,0)=r:=⟨_,rfl⟩
 rw[hr] at HF b0;have j0:=η (h0.o r hr);obtain⟨q,hq⟩: ∃q,q4W L may x=q:=⟨_,rfl⟩
 obtain⟨i0,c,σ1⟩:=r;obtain⟨y,hy⟩: ∃y,q1J σ1 n (i0-1)=y:=⟨_,rfl⟩
 have B:=η (j0.o y hy q hq);simp only at B b0 HF;rw[hq] at a0;have t0:=η J;have l:=η U;have g0:Hd (∀M W,DkS (w.alloc (.cells #[.int .u64 0,.int .i64 0,.int .i64 0] 165)) g F M W->Blk W w.heap.size 165 #[.int .u64 0,.int .i64 0,.int .i64 0]):=η fun M W hd=>hd.off.blk U fun hf=>by have:=J _ hf;omega
 have b:Hd (∀M V W,DkS (w.alloc (.cells #[.int .u64 0,.int .i64 0,.int .i64 0] 165)) g F M V->OffS (fun i=>i=w.heap.size) V W->DkS w g F M W):=η fun M V W h1 h2=>by
  have s1:=h2.size;refine DkS.box (w1:=V) d0 h1 J s1 h2.os h2.tape h2.output fun i hi hn=>h2.block i hi fun e=>hn ?_
  subst e;exact⟨ι _,by rw[ρ];omega⟩
 have c0:Hd (∀M W W',Ext (w.alloc (.cells #[.int .u64 0,.int .i64 0,.int .i64 0] 165)) W->DkS W g F M W'->DkS (w.alloc (.cells #[.int .u64 0,.int .i64 0,.int .i64 0] 165)) g F M W'):=η fun M W W' h1 h2=>DkS.from h.d h1 h2
 have f0:Hd (∀M W,DkS (w.alloc (.cells #[.int .u64 0,.int .i64 0,.int .i64 0] 165)) g F M W->TbD W t g n L may T (Gr F (w.alloc (.cells #[.int .u64 0,.int .i64 0,.int .i64 0] 165)) W) M):=η fun M W h1=>h.disk h1
 have HY:=η hy;clear h hr hq hy J HM h0 j0 k0;by_cases C:A<0
 ·have hd:decide (A<0)=true:=ζ C
  have X:Hd (q3S σ n L may x u=(en0,false,0,σ)):=η (by rw[B.o,ξ (.inl C)]);have r0:(w.alloc (.cells #[.int .u64 0,.int .i64 0,.int .i64 0] 165)).cell? ⟨w.heap.size,0,none⟩=some (Value.int .u64 0):=(l.o).cell 0;have r1:(w.alloc (.cells #[.int .u64 0,.int .i64 0,.int .i64 0] 165)).cell? ⟨w.heap.size,1,none⟩=some (Value.int .i64 0):=(l.o).cell 1;have r2:(w.alloc (.cells #[.int .u64 0,.int .i64 0,.int .i64 0] 165)).cell? ⟨w.heap.size,2,none⟩=some (Value.int .i64 0):=(l.o).cell 2;have z0:=(l.o).free 0;have z1:=(l.o).free 1;have z2:=(l.o).free 2;clear B C U;go_enter Tryz.func167,Tryz.ntmps167;go_wp2_with fail;refine HN.o.mono ?_;rintro e w1 ⟨rfl,rfl⟩;go_wp2_with fail
  (try simp only[Exit.inBlock,Exit.then])
  refine bodyPost_ret (v:= .tuple #[.agg #[.int .u64 (0),.int .i64 (0),.int .i64 (0)],.bool false,.int .i64 (0)]) (by rw[q0T rfl];go_simp) rfl ?_;rw[X.o];refine⟨rfl,?_⟩
  first|exact b.o _ _ _ (DkS.refl HD.o.d) (OffS.refl _ _)|(refine b.o _ _ _ (DkS.refl HD.o.d) (OffS.trans (OffS.trans (OffS.set _ ?_ _ _) (OffS.set _ ?_ _ _)) (OffS.set _ ?_ _ _))<;>rfl)
 ·have hd :decide (A<0)=false:=ε C
  cases q with
  | false=>
   have X:Hd (q3S σ n L may x u=(en0,false,0,σ)):=η (by rw[B.o,ξ (.inr rfl)]);clear B C U;go_enter Tryz.func167,Tryz.ntmps167;go_wp2_with fail;refine HN.o.mono ?_;rintro e w1 ⟨rfl,rfl⟩;go_wp2_with fail;refine a0.o.mono ?_;rintro e w2 ⟨rfl,m⟩;have O:=η m;have r0:(w2).cell? ⟨w.heap.size,0,none⟩=some (Value.int .u64 0):=(l.o.ext m).cell 0;have r1:(w2).cell? ⟨w.heap.size,1,none⟩=some (Value.int .i64 0):=(l.o.ext m).cell 1;have r2:(w2).cell? ⟨w.heap.size,2,none⟩=some (Value.int .i64 0):=(l.o.ext m).cell 2;have z0:=(l.o.ext m).free 0;have z1:=(l.o.ext m).free 1;have z2:=(l.o.ext m).free 2;clear m;go_wp2_with fail
   (try simp only[Exit.inBlock,Exit.then])
   refine bodyPost_ret (v:= .tuple #[.agg #[.int .u64 (0),.int .i64 (0),.int .i64 (0)],.bool false,.int .i64 (0)]) (by rw[q0T rfl];go_simp) rfl ?_;rw[X.o];refine⟨rfl,?_⟩
   first|exact b.o _ _ _ ((DkS.refl HD.o.d).ext O.o) (OffS.refl _ _)|(refine b.o _ _ _ ((DkS.refl HD.o.d).ext O.o) (OffS.trans (OffS.trans (OffS.set _ ?_ _ _) (OffS.set _ ?_ _ _)) (OffS.set _ ?_ _ _))<;>rfl)
  | true =>
   have Z:Hd (q3S σ n L may x u=if c≠0\/i0=0 then(en0,false,c,σ1) else if y.2.1≠0\/y.1.1≠x then(en0,false,y.2) else(y.1,true,0,y.2.2)):=η (by rw[B.o,κ (by simp[C])]);clear B C U;go_enter Tryz.func167,Tryz.ntmps167;go_wp2_with fail;refine HN.o.mono ?_;rintro e w1 ⟨rfl,rfl⟩;go_wp2_with fail;refine a0.o.mono ?_;rintro e w2 ⟨rfl,m⟩;have O:=η m;clear m;go_wp2_with fail;refine(HF.o _ O.o).mono ?_;rintro e w3 ⟨rfl,l0⟩;have Q:=η (c0.o _ _ _ O.o l0);clear l0 HF a0 HN;by_cases E:c≠0\/i0=0
   ·have X:Hd (q3S σ n L may x u=(en0,false,c,σ1)):=η (by rw[Z.o,ξ E])
    have I:=g0.o _ _ Q.o;have r0:(w3).cell? ⟨w.heap.size,0,none⟩=some (Value.int .u64 0):=(I).cell 0;have r1:(w3).cell? ⟨w.heap.size,1,none⟩=some (Value.int .i64 0):=(I).cell 1;have r2:(w3).cell? ⟨w.heap.size,2,none⟩=some (Value.int .i64 0):=(I).cell 2;have z0:=(I).free 0;have z1:=(I).free 1;have z2:=(I).free 2;have m:(c !=0)=true\/((c !=0)=false/\((i0:Int)==0)=true):=by
     by_cases e:c=0
     ·exact .inr ⟨by simpa using e,by rcases E with h|h;exact absurd e h;rw[h];rfl⟩
     ·exact .inl (by simpa using e)
    clear Z E I;rcases m with m|⟨m,q0⟩
    all_goals
     go_wp2_with fail
     (try simp only[Exit.inBlock,Exit.then])
     refine bodyPost_ret (v:= .tuple #[.agg #[.int .u64 (0),.int .i64 (0),.int .i64 (0)],.bool false,.int .i64 (c)]) (by rw[q0T rfl];go_simp) rfl ?_;rw[X.o];refine⟨rfl,?_⟩
     first|exact b.o _ _ _ Q.o (OffS.refl _ _)|(refine b.o _ _ _ Q.o (OffS.trans (OffS.trans (OffS.set _ ?_ _ _) (OffS.set _ ?_ _ _)) (OffS.set _ ?_ _ _))<;>rfl)
   ·have s0:c=0:=by by_cases e:c=0;exact e;exact absurd (.inl e) E
    have n0:i0≠0:=fun e=>E (.inr e)
    subst s0;have b2:((i0:Int)==0)=false:=by simp;exact n0
    obtain⟨j,hj⟩: ∃j,i0-1=j:=⟨_,rfl⟩
    have q2:IntKind.i64.wrap ((i0:Int)-1)=(j:Int):=by rw[ν];omega
    have S:Hd (q3S σ n L may x u=if y.2.1≠0\/y.1.1≠x then(en0,false,y.2) else(y.1,true,0,y.2.2)):=η (by rw[Z.o,κ E]);have Y:=η (z2I (f0.o _ _ Q.o) j (by omega));have o0:q1J σ1 n j=y:=by rw[<-hj];exact HY.o
    rw[o0] at Y;obtain⟨⟨N,y2,y3⟩,cy,e0⟩:=y;have Y:Hd (Calls Tryz.prog 227 #[.pointer (some ⟨t,0,none⟩),.int .i64 (j:Int)] w3 fun e w'=>e= .returned (.tuple #[.agg #[.int .u64 N,.int .i64 y2,.int .i64 y3],.int .i64 cy])/\DkS w3 g (Gr F (w.alloc (.cells #[.int .u64 0,.int .i64 0,.int .i64 0] 165)) w3) e0 w'):=Y;simp only at S;clear Z E n0 hj o0 HY;go_wp2_with fail;refine Y.o.mono ?_;rintro e w4 ⟨rfl,m0⟩;have p0:=η (Q.o.trans m0);have R:=η (p0.o.ext (q0B w4 (.cells #[.int .u64 N,.int .i64 y2,.int .i64 y3] 165)));have I:=g0.o _ _ R.o;have r0:(w4.alloc (.cells #[.int .u64 N,.int .i64 y2,.int .i64 y3] 165)).cell? ⟨w.heap.size,0,none⟩=some (Value.int .u64 0):=(I).cell 0;have r1:(w4.alloc (.cells #[.int .u64 N,.int .i64 y2,.int .i64 y3] 165)).cell? ⟨w.heap.size,1,none⟩=some (Value.int .i64 0):=(I).cell 1;have r2:(w4.alloc (.cells #[.int .u64 N,.int .i64 y2,.int .i64 y3] 165)).cell? ⟨w.heap.size,2,none⟩=some (Value.int .i64 0):=(I).cell 2;have z0:=(I).free 0;have z1:=(I).free 1;have z2:=(I).free 2;clear m0 I;by_cases G:cy≠0\/N≠x
    ·have X:Hd (q3S σ n L may x u=(en0,false,cy,e0)):=η (by rw[S.o,ξ G])
     have m:(cy !=0)=true\/((cy !=0)=false/\(N !=x)=true):=by
      by_cases e:cy=0
      ·exact .inr ⟨by simpa using e,by rcases G with h|h;exact absurd e h;simpa using h⟩
      ·exact .inl (by simpa using e)
     clear S G;rcases m with m|⟨m,q0⟩
     all_goals
      go_wp2_with fail
      (try simp only[Exit.inBlock,Exit.then])
      refine bodyPost_ret (v:= .tuple #[.agg #[.int .u64 (0),.int .i64 (0),.int .i64 (0)],.bool false,.int .i64 (cy)]) (by rw[q0T rfl];go_simp) rfl ?_;rw[X.o];refine⟨rfl,?_⟩
      first|exact b.o _ _ _ R.o (OffS.refl _ _)|(refine b.o _ _ _ R.o (OffS.trans (OffS.trans (OffS.set _ ?_ _ _) (OffS.set _ ?_ _ _)) (OffS.set _ ?_ _ _))<;>rfl)
    ·have e1:cy=0:=by by_cases e:cy=0;exact e;exact absurd (.inl e) G
     have e2:N=x:=by by_cases e:N=x;exact e;exact absurd (.inr e) G
     have X:Hd (q3S σ n L may x u=((N,y2,y3),true,0,e0)):=η (by rw[S.o,κ G]);subst e1;have b3:(N !=x)=false:=by simpa using e2
     clear S G e2;go_wp2_with fail
     (try simp only[Exit.inBlock,Exit.then])
     refine bodyPost_ret (v:= .tuple #[.agg #[.int .u64 (N),.int .i64 (y2),.int .i64 (y3)],.bool true,.int .i64 (0)]) (by rw[q0T rfl];go_simp) rfl ?_;rw[X.o];refine⟨rfl,?_⟩
     first|exact b.o _ _ _ R.o (OffS.refl _ _)|(refine b.o _ _ _ R.o (OffS.trans (OffS.trans (OffS.set _ ?_ _ _) (OffS.set _ ?_ _ _)) (OffS.set _ ?_ _ _))<;>rfl)
end
section
variable {w w' w1 w2:World}{t g:Nat}{n:Int}{L:List En}{may:Int->Bool}{T F V:Nat->Prop}{σ σ':DM}
end
def tellN :Nat->DM->DM
 |0,σ=>σ
 |c+1,σ=>tellN c (q2Z σ)
theorem q1j(c:Nat)(σ:DM):tellN (c+1) σ=tellN c (q2Z σ):=rfl
theorem q3Y(a b:Nat)(σ:DM):tellN a (tellN b σ)=tellN (b+a) σ:=by
 induction b generalizing σ with
 |zero=>simp[tellN]
 |succ b ih=>rw[q1j,ih,show b+1+a=(b+a)+1 by omega,q1j]
theorem z1f(a:Nat)(σ:DM):q2Z (tellN a σ)=tellN (a+1) σ:=by
 have:=q3Y 1 a σ
 simpa [tellN] using this
theorem y1a(c:Nat): ∀σ:DM,(tellN c σ).L=σ.L:=by induction c with|zero=>intro σ;rfl|succ c ih=>intro σ;rw[q1j,ih];rfl
theorem z5X(c:Nat): ∀σ:DM,(tellN c σ).down=σ.down:=by induction c with|zero=>intro σ;rfl|succ c ih=>intro σ;rw[q1j,ih];rfl
structure Wl(σ:DM)(n:Int)(L:List En):Prop where
 up:σ.down=false
 file: ∃f,q0F FM.nm (q0C 116 n) σ.L=some f/\f.da=q9H L
theorem Wl.tell{σ:DM}{n:Int}{L:List En}(h:Wl σ n L):Wl (q2Z σ) n L:=⟨h.up,h.file⟩
theorem Wl.tellN{σ:DM}{n:Int}{L:List En}(h:Wl σ n L)(c:Nat):Wl (tellN c σ) n L:=⟨by rw[z5X];exact h.up,by rw[y1a];exact h.file⟩
theorem q7c{σ:DM}{n:Int}{L:List En}(h:Wl σ n L)(o: ∀e∈L,q3f e=true)(l:i<L.length):q1J σ n i=(L[i],0,q2Z σ):=by
 obtain⟨f,j,d⟩:=h.file;have m:=q5Z L;have q:q1r σ (q0C 116 n) (8+24*(i:Int)) 24=(((q9H L).drop (8+24*i)).take 24,0,q2Z σ):=by
  unfold q1r;rw[κ (by rw[h.up];decide),j];simp only;rw[d,ξ (by rw[m];omega)];have b:(8+24*(i:Int)).toNat=8+24*i:=by omega
  rw[b]
  rfl
 unfold q1J;rw[q];simp only;rw[κ (fun h=>h rfl),y0l o l]
theorem q7C{n:Int}{L:List En}(l:q1E L)(j: ∀e∈L,q3f e=true)(x:En): ∀(c f:Nat) (σ:DM) (lo hi:Nat),Wl σ n L->lo<=lbE L x->lbE L x<=hi->hi<=L.length->hi-lo<2^c->c<=f->
  ∃k,k<=c/\q6w n x f σ lo hi=(lbE L x,0,tellN k σ)
 | 0,f,σ,lo,hi,hw,h1,h2,h3,h4,h5=>by
  have:lo=hi:=by simp at h4;omega
  subst this;have e:lo=lbE L x:=by omega
  refine⟨0,ι _,?_⟩
  cases f with
  |zero=>rw[q6w,e];rfl
  |succ f=>rw[q6w,κ (by omega),e];rfl
 | c + 1,f,σ,lo,hi,hw,h1,h2,h3,h4,h5=>by
  obtain⟨f,rfl⟩: ∃o,f=o+1:=⟨f-1,by omega⟩
  rw[Nat.pow_succ] at h4;unfold q6w;by_cases b:lo<hi
  ·rw [ξ b]
   have hm:(lo+hi)/2<L.length:=by omega
   rw[q7c hw j hm];simp only;rw[κ (fun h=>h rfl)];have d:=q3s x l (i:=(lo+hi)/2) (γ hm);rw[d];by_cases m:(lo+hi)/2<lbE L x
   ·rw[ζ m,ξ rfl]
    obtain⟨k,q,e⟩:=q7C l j x c f (q2Z σ) ((lo+hi)/2+1) hi hw.tell (by omega) h2 h3 (by omega) (by omega);exact⟨k+1,by omega,by rw[e,q1j]⟩
   ·rw[ε m,κ (by decide)]
    obtain⟨k,q,e⟩:=q7C l j x c f (q2Z σ) lo ((lo+hi)/2) hw.tell h1 (by omega) (by omega) (by omega) (by omega);exact⟨k+1,by omega,by rw[e,q1j]⟩
  ·rw[κ b]
   exact⟨0,by omega,by rw[show lo=lbE L x by omega];rfl⟩
theorem z3c{σ:DM}{n:Int}{L:List En}(h:Wl σ n L)(b:q1E L)(m: ∀e∈L,q3f e=true)(x:En): ∃k,k<=3/\q1s σ n L x=(lbE L x,0,tellN k σ):=by
 obtain⟨d,j,o,l⟩:=q7u x b;unfold q1s;generalize q0w L.length x 0 (q2p L)=z at*;by_cases r:L.length+1<3
 ·obtain⟨k,q,e⟩:=q7C b m x (L.length+1) (L.length+1) σ z.1 z.2 h d j l (by
   have:L.length+1<2^(L.length+1):=Nat.lt_two_pow_self
   omega) (ι _)
  exact⟨k,by omega,e⟩
 ·exact q7C b m x 3 (L.length+1) σ z.1 z.2 h d j l (by omega) (by omega)
theorem z4H{n:Int}{L:List En}(l: ∀e∈L,q3f e=true)(h b:Int): ∀(f:Nat) (σ:DM) (i:Nat) (acc:List En),Wl σ n L->L.length-i<f->
  ∃k,k<=((L.drop i).takeWhile (inE h b)).length+1/\z0H n L h b f σ i acc=(acc++(L.drop i).takeWhile (inE h b),0,tellN k σ)
 |0,σ,i,acc,hw,hf=>by omega
 | f + 1,σ,i,acc,hw,hf=>by
  unfold z0H;by_cases j:i<L.length
  ·rw [ξ j,q7c hw l j]
   simp only;rw[κ (fun h=>h rfl),List.drop_eq_getElem_cons j,List.takeWhile_cons];by_cases d:inE h b L[i]=true
   ·rw[ξ d,ξ d]
    obtain⟨k,m,e⟩:=z4H l h b f (q2Z σ) (i+1) (acc++[L[i]]) hw.tell (by omega);exact⟨k+1,by rw[χ];omega,by rw[e,q1j,List.append_assoc];rfl⟩
   ·rw[κ d,κ d]
    exact⟨1,by simp,by rw[List.append_nil];rfl⟩
  ·rw[κ j,List.drop_of_length_le (by omega)]
   exact⟨0,by simp,by rw[List.takeWhile_nil,List.append_nil];rfl⟩
theorem z7D{L:List En}{may:Int->Bool}(j: ∀x∈L,may x.1=true){h:Int}(hm:q4W L may h=false): ∀x∈L,x.1≠h:=fun x d e=>by
 unfold q4W at hm;have b:=j x d;rw[e] at b;rw[b,Bool.and_true] at hm;have:0<L.length:=List.length_pos_of_mem d;rw[ζ this] at hm
 cases hm
theorem z7T{σ:DM}{n:Int}{L:List En}{may:Int->Bool}(h:Wl σ n L)(l:q1E L)(d: ∀e∈L,q3f e=true)(q: ∀x∈L,may x.1=true)(x a b:Int):
  ∃k,k<=(q0u L x (max a 0) (min b 1073741824)).length+4/\(q4W L may x=false->k=0)/\q3C σ n L may x a b=(q0u L x (max a 0) (min b 1073741824),0,tellN k σ):=by
 unfold q3C;by_cases hc:min b 1073741824<max a 0\/q4W L may x=false
 ·rw [ξ hc]
  have e:q0u L x (max a 0) (min b 1073741824)=[]:=by
   unfold q0u;refine List.filter_eq_nil_iff.2 fun y r=>?_
   simp only[Ξ,Φ];rintro⟨⟨o,B⟩,C⟩;rcases hc with hc|hc
   ·omega
   ·exact z7D q hc y r o
  rw[e];exact⟨0,by simp,fun _=>rfl,rfl⟩
 ·rw[κ hc]
  obtain⟨k,E,e⟩:=z3c h l d (x,max a 0,0);rw[e];simp only;rw[κ (fun h=>h rfl)];obtain⟨u,j,m⟩:=z4H d x (min b 1073741824) (L.length+1) (tellN k σ) (lbE L (x,max a 0,0)) [] (h.tellN k) (by omega);rw[m,<-q3v l d,List.nil_append,q3Y];rw[<-q3v l d] at j;exact⟨k+u,by omega,fun hm=>absurd (.inr hm) hc,rfl⟩
theorem z9F{σ:DM}{n:Int}{L:List En}{may:Int->Bool}(h:Wl σ n L)(r:q1E L)(o: ∀e∈L,q3f e=true)(C: ∀x∈L,may x.1=true)(x u:Int):
  ∃ k,k<=5/\(q4W L may x=false->k=0)/\q3S σ n L may x u=match (if u<0 then none else q3H L x (min u 1073741824)) with
   |none=>(en0,false,0,tellN k σ)
   |some y=>(y,true,0,tellN k σ):=by
 unfold q3S;by_cases hc:min u 1073741824<0\/q4W L may x=false
 ·rw [ξ hc]
  refine⟨0,by omega,fun _=>rfl,?_⟩;by_cases j:u<0
  ·rw[ξ j];rfl
  ·rw [κ j]
   have hm:q4W L may x=false:=by rcases hc with hc|hc;omega;exact hc
   have e:q3H L x (min u 1073741824)=none:=by
    unfold q3H;rw[List.filter_eq_nil_iff.2 fun y E=>?_]
    ·rfl
    ·unfold inE
     rw[ε (z7D C hm y E)];simp
   rw[e];rfl
 ·rw [κ hc]
  have j:¬u<0:=fun h=>hc (.inl (by omega))
  rw[κ j];obtain⟨k,G,e⟩:=z3c h r o (x,min u 1073741824+1,0);have b:=z6r (l:=L) (h:=x) (t:=min u 1073741824) r o;have B:=q4g L (x,min u 1073741824+1,0);rw[e];simp only;generalize lbE L (x,min u 1073741824+1,0)=lb at*;by_cases d:lb=0
  ·rw[ξ d] at b
   rw[ξ (.inr d),b];exact⟨k,by omega,fun hm=>absurd (.inr hm) hc,rfl⟩
  ·rw [κ d] at b
   rw[κ (by simp[d])];have q:lb-1<L.length:=by omega
   rw[γ q] at b;rw[q7c (h.tellN k) o q];simp only at b⊢;by_cases m:L[lb-1].1=x
   ·rw[ξ m] at b
    rw[κ (by simp[m]),b];exact⟨k+1,by omega,fun hm=>absurd (.inr hm) hc,by simp only;rw[z1f]⟩
   ·rw[κ m] at b
    rw[ξ (.inr m),b];exact⟨k+1,by omega,fun hm=>absurd (.inr hm) hc,by simp only;rw[z1f]⟩
theorem z1m{σ:DM}{nm:List UInt8}(b:σ.down=false)(d:q0F FM.nm nm σ.L=some f):q0o σ nm=(f.da,0,q2Z σ):=by
 have l:q1m σ nm=((f.da.length:Int),0):=by unfold q1m;rw[κ (by rw[b];decide),d]
 unfold q0o;rw[l];simp only;rw[κ (fun h=>h rfl)];unfold q1r;rw[κ (by rw[b];decide),d];simp only;rw[ξ (by omega)];have j:((f.da.length:Int)).toNat=f.da.length:=by omega
 rw[j];simp
theorem z8E{σ:DM}{nm:List UInt8}(b:σ.down=false)(d:q0F FM.nm nm σ.L=none):q0o σ nm=([],4,σ):=by
 have j:q1m σ nm=(0,4):=by unfold q1m;rw[κ (by rw[b];decide),d]
 unfold q0o;rw[j];simp only;rw[ξ (by decide)]
theorem z8F{σ:DM}(nm:List UInt8)(b:σ.down=false): ∃s c k,q0o σ nm=(s,c,tellN k σ)/\c≠61/\k<=1:=by
 cases hf:q0F FM.nm nm σ.L with
 |none=>exact⟨_,_,0,z8E b hf,by decide,by omega⟩
 |some f=>exact⟨_,_,1,z1m b hf,by decide,by omega⟩
theorem z9U{σ:DM}{n:Int}{L:List En}(h:Wl σ n L)(m:q1E L)(l: ∀e∈L,q3f e=true)(j:L.length<4294967296): ∃k,k<=2/\q5w σ n=(some L,0,tellN k σ):=by
 obtain⟨f,d,b⟩:=h.file;unfold q5w;rw[z1m h.up d];simp only;rw[κ (fun h=>h rfl),b,z8z m l j];obtain⟨s,c,k,e,hc,o⟩:=z8F (σ:=q2Z σ) (q0C 98 n) h.up;rw[e];simp only;rw[κ hc];exact⟨k+1,by omega,by rw[q1j]⟩
theorem z4R{nm t:List UInt8}: ∀{l:List (List UInt8×List UInt8)},(∀y∈l,y.1≠nm)->q1P Prod.fst nm (fun x=>(x.1,x.2++t)) (q1e Prod.fst (nm,[]) l)=q1e Prod.fst (nm,t) l
 |[],_=>by simp[q1e,q1P]
 | y ::r,h=>by
  have b:(y.1==nm)=false:=by simpa using h y (by simp)
  unfold q1e
  split
  ·rw[q1P,List.map_cons,ξ (by simp)]
   have:=q2i (k:=Prod.fst) (f:=fun x:List UInt8×List UInt8=>(x.1,x.2++t)) (nm:=nm) (l:=y::r) h;rw[q1P] at this;rw[this];rfl
  ·rw[q1P,List.map_cons,κ (by rw[b];decide),<-q1P,z4R fun z d=>h z (by simp[d])]
theorem q4e{b:Type}{k:b->List UInt8}{x:b}: ∀{l:List b},(∀y∈l,k y≠k x)->q0F k (k x) (q1e k x l)=some x
 |[],_=>by simp[q1e,q0F]
 | y ::r,h=>by
  unfold q1e
  split
  ·simp[q0F]
  ·have d:(k y==k x)=false:=by simpa using h y (by simp)
   have:=q4e (k:=k) (x:=x) (l:=r) fun z j=>h z (by simp[j])
   unfold q0F at this⊢;rw[List.find?_cons,d,this]
theorem q4f{d:Type}{k:d->List UInt8}{x:d}{nm:List UInt8}(b:k x≠nm): ∀{l:List d},q0F k nm (q1e k x l)=q0F k nm l
 | []=>by
  have:(k x==nm)=false:=by simpa using b
  simp[q1e,q0F,this]
 | y ::r=>by
  have j:(k x==nm)=false:=by simpa using b
  unfold q1e
  split
  ·simp[q0F,j]
  ·have:=q4f (k:=k) (x:=x) (nm:=nm) b (l:=r)
   unfold q0F at this⊢;rw[List.find?_cons,List.find?_cons,this]
theorem z8D(x:List UInt8×List UInt8)(l:List (List UInt8×List UInt8)):q1X (q1e Prod.fst x l)=q1X l+x.2.length:=by
 unfold q1X q5I;rw[((q3r (k:=Prod.fst) x l).map _).sum_nat];simp;omega
theorem Pl.wl{σ:DM}{c s:Int}{l:List (List UInt8×List UInt8)}{n:Int}{L:List En}{x:List UInt8}(h:Pl σ c s l)(j:q0F Prod.fst (q0C 116 n) l=some (x,q9H L)):Wl σ n L:=by
 obtain⟨f,b,d⟩:=h.find_some j;refine⟨h.up,f,b,?_⟩;have:=congrArg Prod.snd d;exact this
end
end Go.Proofs.YtfiibpgoplcgkaaGreatDoor
