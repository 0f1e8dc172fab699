/- Walks. -/
import Derived.Test.YtfiibpgoplcgkaaGreatDoorG35SY
import Derived.Test.YtfiibpgoplcgkaaGreatDoorG36SY
set_option linter.unusedVariables false
set_option linter.unusedSimpArgs false
set_option maxRecDepth 100000
set_option maxHeartbeats 12800000
namespace Go.Proofs.YtfiibpgoplcgkaaGreatDoor
variable {i j x u' n' m cap:Nat}{R:List To}{fr ct:Int}{L:List Ev}{bs':List Bt}{F:Nat->Prop}{vL' vM':Value}{ms':List Value}{ao:Option Addr}
section
open Go.RowKit
section
variable {wb w W W':World}{g gs gu rate u n:Nat}{sd c s a v t:Int}{bs:List Bt}{K K':Nat->Prop}{st own:List UInt8}{p:Option Addr}
theorem q3k{P:Prop}{g:Nat}:P->(P/\i≠g)\/i=g:=fun h=>by
 by_cases e:i=g
 ·exact .inr e
 ·exact .inl ⟨h,e⟩
theorem q5n(h:SK wb w g gs rate sd c s u n bs K)(r:n<=1000)(q:K gu)(o:wb.heap.size<=gu)(b:SubI w gu gs st own a v t)(y:st.length<=4611686018427387903)(d:0<=t)(l:t<=2147483648)(k:Int):
  Calls Tryz.prog 40 #[.pointer (some ⟨gu,0,none⟩),.int .i64 k] w fun e w'=> ∃x,e= .returned (.tuple #[x,.int .i64 (q1Z st t k)])/\
   SK wb w' g gs rate sd c s u n bs (fun i=>K i\/x.ownBlock=some i)/\Stay (fun i=>K i/\i≠gu) w w'/\w'.ownsRow wb.heap.size 69 5 x (q3h bs st t k).length (q2q (q3h bs st t k))/\(∀i,K i->x.ownBlock≠some i)/\
   SubI w' gu gs st own a v (t+((q3h bs st t k).length:Int)):=by
 have hq: ∀i,((K i/\i≠gu)\/i=gu)↔K i:=fun i=>⟨fun h=>h.elim And.left fun e=>by rw[e];exact q,q3k⟩
 refine(z7K (K:=fun i=>K i/\i≠gu) (h.beside fun i b=>(hq i).1 b) r (fun h=>h.2 rfl) o b y d l k).mono ?_;rintro e w' ⟨x,rfl,k1,B,C,E,G⟩;exact⟨x,rfl,k1.beside fun i b=>b.imp q3k id,B,C,fun i b=>E i (q3k b),G⟩
theorem z3u(h:SK wb w g gs rate sd c s u n bs K)(y:n<=86)(b:(u:Int)+8024<=c)(r:K gu)(q:wb.heap.size<=gu)(d:SubI w gu gs st own a v t)(B:own.length<=4611686018427387903)(l:0<=t)(o:t<=1073741825)(C:SbW w):
  Calls Tryz.prog 41 #[.pointer (some ⟨gu,0,none⟩)] w fun e w'=>e= .returned (.int .i64 (q9F bs own a v t))/\
   SK wb w' g gs rate sd c s (u+2024) (n+1) (z0L bs own a v t) K/\Stay (fun i=>K i/\i≠gu) w w'/\SubI w' gu gs st own (z0K bs own a v t) (z7c bs own a v t) t:=by
 have hq: ∀i,((K i/\i≠gu)\/i=gu)↔K i:=fun i=>⟨fun h=>h.elim And.left fun e=>by rw[e];exact r,q3k⟩
 refine(z9I (K:=fun i=>K i/\i≠gu) (h.beside fun i d=>(hq i).1 d) y b (fun h=>h.2 rfl) q d B l o C).mono ?_;rintro e w' ⟨rfl,k1,E,G⟩;exact⟨rfl,k1.beside fun i d=>q3k d,E,G⟩
theorem z9F(h:SK wb W g gs rate sd c s u n bs K)(M:n<=86)(q:(u:Int)+8024<=c)(str:List UInt8)(r:str.length<=4611686018427387903)(ex:Int)
  {cs:Array Value}(L:List Ev)(o:cs=(q4V L).toArray)(J:L.length<=1000000)(G:q1D L)(B: ∀e∈L,e.we<18446744073709551616){z:Int}(N:q8R bs str ex L=z):
  Calls Tryz.prog 38 #[.pointer (some ⟨gs,0,none⟩),.string ⟨str.toArray⟩,.int .i64 ex,.slice (some ⟨W.heap.size,0,none⟩) L.length L.length] (W.alloc (.cells cs 67)) fun e w'=>e= .returned (.tuple #[.int .i64 (if z=0 then((q0R bs str).length:Int) else 0),.int .i64 z])/\
   SK wb w' g gs rate sd c s (u+2024) (n+1) (if z=0 then bs++[⟨str,(q0R bs str).length,L⟩] else bs) K/\Stay K W w':=by
 subst o;have I:=Blk.new W 67 (q4V L).toArray;have C:=q0B W (.cells (q4V L).toArray 67);have E:SK wb (W.alloc (.cells (q4V L).toArray 67)) g gs rate sd c s u n bs (fun i=>K i\/i=W.heap.size):=h.more C fun i b=>by
  rcases b with b|b
  ·exact .inl b
  ·exact .inr ⟨by omega,by rw[ρ];omega⟩
 refine(E.append M str r ex (L:=L) (fun W' _ r=>by
  have:=(I.same (r _ (.inr rfl))).evs (k:=L.length) (ι _) J
  rwa [List.take_length] at this) G B N).mono ?_
 rintro e w' ⟨x,y,bs',rfl,k1,O,d⟩;have l:Stay K W w':=fun i b=>(O i (.inl b)).trans (C.block i (h.klt i b))
 rcases d with⟨d,rfl,rfl,rfl⟩|⟨_,_,_,_,d⟩|⟨rfl,rfl,rfl,rfl⟩
 ·rw[κ d,κ d]
  exact⟨rfl,k1.beside fun i b=> .inl b,l⟩
 ·omega
 ·rw[ξ rfl,ξ rfl]
  exact⟨rfl,k1.beside fun i b=> .inl b,l⟩
end
abbrev sta :Bt:=⟨[126,102],0,[q8I 2]⟩
theorem ack2 :q8I 2=⟨[97,116],[50],0⟩:=by unfold q8I;rw[show(2:Int).toNat=2 from rfl,Lib.decDigits_one (by decide)];rfl
theorem y3O :q8G [st1] [102] [115]=0:=by decide
theorem y3P :z1I [st1] [102]=0:=by decide
theorem y3Q :q3h [st1] [115] 0 1=[⟨[115],0,evA⟩]:=rfl
theorem y3R :q3h [st1] [115] 1 9=[⟨[115],1,z9T⟩]:=rfl
theorem y3S :q3h [st1] [115] 2 9=[]:=rfl
theorem y3D :q8R [st1] [126,102] (-1) [q8I 2]=0:=by rw[ack2];decide
theorem y3I :q5A [50]=some 2:=numU_iff.2 ⟨by rw[Lib.decDigits_one (by decide)];rfl,by decide⟩
theorem y3T :q8G [st1,sta] [102] [115]=0:=by
 unfold q8G;rw[κ (by decide),κ (by decide),ξ];show(decide ((q8I 2).ty=[97,116])&&(q5A (q8I 2).da).isSome)=true;rw[ack2,y3I];rfl
theorem y3U :z1I [st1,sta] [102]=2:=by
 unfold z1I;rw[κ (by decide)];show(((q5A (q8I 2).da).getD 0:Nat):Int)=2;rw[ack2,y3I];rfl
theorem y3E :q8G [st1,sta] [102] [126,102]=2:=by unfold q8G;rw[ξ (.inr (.inr (.inr rfl)))]
theorem q6A(w:World)(hw:SbW w):Calls Tryz.prog 44 #[] w fun e w'=>e= .returned (.bool true)/\Ext w w':=by
 have HW:=η hw;have HO:=η (q8n 0 0 0 w (by decide) (by decide));clear hw;go_enter Tryz.func44,Tryz.ntmps44;go_wp2_with fail;refine HO.o.mono ?_;rintro e w1 ⟨g,gs,rfl,d⟩;have Q:=η (z9F d (by omega) (by decide) [115] (by decide) (-1) [evA,z9T] rfl (by decide) (z9G (by decide)) (by decide) y3Y);clear d HO;go_wp2_with fail;refine Q.o.mono ?_;rintro e w2 ⟨rfl,d,_⟩;rw[ξ trivial,show([]++[(⟨[115],(q0R [] [115]).length,[evA,z9T]⟩:Bt)])=[st1] from rfl] at d;have B:=η (q5o d (by omega) [102] [115] (by decide) (by decide) HW.o);clear d Q;go_wp2_with fail;refine B.o.mono ?_;rintro e w3 ⟨_,_,⟨l,_⟩|⟨_,gu,rfl,b,_,hb,d⟩⟩
 ·exact absurd y3O l
 have HK:=η (d.beside (K':=fun i=>i=gu) fun i b=> .inr b);have HI:Hd (SubI w3 gu gs [115] [126,102] 0 (-1) 0):=η (by rw[show z1I [st1] [102]=0 from y3P] at b;exact b);have HB:=η hb;have M:=η (q5n HK.o (by omega) rfl HB.o HI.o (by decide) (by decide) (by decide) 1);rw[show q3h [st1] [115] 0 1=_ from y3Q] at M;clear b hb d B;go_wp2_with fail;refine M.o.mono ?_;rintro e w4 ⟨x1,rfl,d,q,E,N,b⟩;obtain⟨va,vc,rfl⟩:=q0E E;have g0:=η (d.beside (K':=fun i=>i=gu) fun i b=> .inl b);have e0:=η b;have r:=η (q5n g0.o (by omega) rfl HB.o e0.o (by decide) (by decide) (by decide) 9);rw[show q3h [st1] [115] (0+(([(⟨[115],0,evA⟩:To)].length:Nat):Int)) 9=_ from y3R] at r;clear d q E N b M;go_wp2_with fail;refine r.o.mono ?_;rintro e w5 ⟨x2,rfl,d,q,E,N,b⟩;obtain⟨vb,vd,rfl⟩:=q0E E;obtain⟨J,C⟩: ∃J:Nat->Prop,(fun i=>i=gu\/(Value.slice vb [(⟨[115],1,z9T⟩:To)].length vd).ownBlock=some i)=J:=⟨_,rfl⟩
 rw[C] at d;have HR:Hd (∀W,(∀i,J i->i≠gu->W.heap[i]? =w5.heap[i]?)->Tos W vb 1 vd [(⟨[115],1,z9T⟩:To)]):=η fun W kk=>(q2Z (q0f E fun i b=>kk i (by rw[<-C];exact .inr b) fun e=>N gu rfl (by rw[<-e];exact b))).1
 have HG:Hd (J gu):=η (by rw[<-C];exact .inl rfl);have i0:=η d;have f0:=η b;have y:=η (q5n i0.o (by omega) HG.o HB.o f0.o (by decide) (by decide) (by decide) 9);rw[show q3h [st1] [115] (0+(([(⟨[115],0,evA⟩:To)].length:Nat):Int)+(([(⟨[115],1,z9T⟩:To)].length:Nat):Int)) 9=_ from y3S] at y;clear d q E N b r C;go_wp2_with fail;refine y.o.mono ?_;rintro e w6 ⟨x3,rfl,d,q,E,N,b⟩;obtain⟨vg,vh,rfl⟩:=q0E E;have b0:=η (d.beside (K':=J) fun i b=> .inl b);have Z:Hd (SubI w6 gu gs [115] [126,102] 0 (-1) 2):=η b;have k0:Hd (∀i,J i->i≠gu->w6.heap[i]? =w5.heap[i]?):=η fun i b l=>q i ⟨b,l⟩
 have U:=η (z2Z Z.o);have O:=η (z3u b0.o (by omega) (by decide) HG.o HB.o Z.o (by decide) (by decide) (by decide) (HW.o.ext b0.o.base));clear d q E N b y;go_wp2_with fail;refine U.o.mono ?_;rintro e w7 ⟨rfl,rfl⟩;go_wp2_with fail;refine O.o.mono ?_;rintro e w8 ⟨rfl,d,q,b⟩;have e1:q9F [st1] [126,102] 0 (-1) 2=0:=by unfold q9F;rw[κ (by decide)];exact y3D
 have e2:z0L [st1] [126,102] 0 (-1) 2=[st1,sta]:=by unfold z0L;rw[κ (by decide),ξ y3D];rfl
 have e3:z0K [st1] [126,102] 0 (-1) 2=2:=by unfold z0K;rw[ξ e1]
 rw[e2] at d;rw[e3] at b;rw[e1];have j0:=η d;have l0:Hd (∀i,J i->i≠gu->w8.heap[i]? =w5.heap[i]?):=η fun i b l=>(q i ⟨b,l⟩).trans (k0.o i b l)
 have G:=η (z2Z b);clear e1 e2 e3 d q b O U;go_wp2_with fail;refine G.o.mono ?_;rintro e w9 ⟨rfl,rfl⟩;have B:=η (q5o j0.o (by omega) [102] [115] (by decide) (by decide) HW.o);clear G;go_wp2_with fail;refine B.o.mono ?_;rintro e n0 ⟨_,q,⟨l,_⟩|⟨_,gv,rfl,b,_,hb,d⟩⟩
 ·exact absurd y3T l
 rw[y3U] at b;have V:=η b;have c0:Hd (∀i,J i->i≠gu->n0.heap[i]? =w5.heap[i]?):=η fun i b l=>(q i b).trans (l0.o i b l)
 have a0:=η d;have I:=η (q5o a0.o (by omega) [102] [126,102] (by decide) (by decide) HW.o);clear b q hb d B;go_wp2_with fail;refine I.o.mono ?_;rintro e o0 ⟨hx,q,⟨_,rfl,_⟩|⟨h0,_⟩⟩
 rotate_left
 ·rw[y3E] at h0;cases h0
 have HX:=η hx;have m0:=η (z1J (V.o.same (q gv (.inr rfl))));obtain⟨bb,off,rfl,d0,d1,d2,d3,d4⟩:=(HR.o o0 (fun i b l=>(q i (.inl b)).trans (c0.o i b l))).at (i:=0) (by decide);simp only[List.getD_cons_zero,Nat.zero_mul,Nat.add_zero] at d0 d1 d2 d3 d4;rw[y3E];clear hx q d0 d2 d3 d4 I;go_wp2_with fail;refine m0.o.mono ?_;rintro e p0 ⟨rfl,rfl⟩;go_wp2_with fail;go_ret;exact⟨rfl,HX.o⟩
def RSbI(W:World)(gv mb:Nat)(st own:List UInt8)(a v t:Int):Prop:=Blk W gv 118 #[.pointer (some ⟨mb,0,none⟩),.string ⟨st.toArray⟩,.string ⟨own.toArray⟩,.int .i64 a,.int .i64 v,.int .i64 t]
theorem numZ_neg{s:List UInt8}:(z0t s<0↔(q5A s).isSome=false):=by
 unfold z0t
 cases h:q5A s with
 |none=>simp
 |some n=>simp
theorem z6c{s:List UInt8}(h:(q5A s).isSome=true):z0t s=(((q5A s).getD 0:Nat):Int):=by
 unfold z0t
 cases hn:q5A s with
 |none=>rw[hn] at h;cases h
 |some n=>rfl
theorem z4z{w:World}{mb base:Nat}{vL vM:Value}{bs:List Bt}{ms:List Value}(h:MoI w mb base vL vM (tos bs) ms)(Z:okBs bs)(S0:(tos bs).length<=100000)(name st:List UInt8)(h1:name.length<=4611686018427387903)(h2:st.length<=4611686018427387903):
  Calls Tryz.prog 46 #[.pointer (some ⟨mb,0,none⟩),.string ⟨name.toArray⟩,.string ⟨st.toArray⟩] w fun e w'=>Ext w w'/\
   ((q8G bs name st≠0/\e= .returned (.tuple #[.pointer none,.int .i64 (q8G bs name st)]))\/
   (q8G bs name st=0/\ ∃gv,e= .returned (.tuple #[.pointer (some ⟨gv,0,none⟩),.int .i64 0])/\RSbI w' gv mb st (126::name) (z1I bs name) (((q0R bs (126::name)).length:Int)-1) (z1I bs name)/\w.heap.size<=gv)):=by
 have E0:(⟨#[126]⟩:ByteArray)++⟨name.toArray⟩=⟨(126::name).toArray⟩:=by rw[show(#[126]:Array UInt8)=[126].toArray from rfl,ByteArray.mk_append_mk];simp
 have O: ∀e∈q0R bs (126::name),e.da.length<=1000000:=fun e he=>by
  obtain⟨l,Q0,R0⟩:=List.mem_flatten.1 he;obtain⟨b,L0,rfl⟩:=List.mem_map.1 Q0;have Z:=Z.each (List.mem_filter.1 L0).1;have:=(q1W (q3t (q0Y Z.1).2.2.2.2.2.2 _ R0)).2.2;omega
 obtain⟨own,ho⟩: ∃own,126::name=own:=⟨_,rfl⟩
 have T0:own.length=name.length+1:=by rw[<-ho];rfl
 obtain⟨zn,c0⟩: ∃z,q8G bs name st=z:=⟨_,rfl⟩
 obtain⟨an,Q⟩: ∃z,z1I bs name=z:=⟨_,rfl⟩
 rw[c0,Q];unfold q8G at c0;unfold z1I at Q;rw[ho] at c0 Q E0 O⊢;have n0:=η (fun W (k:Ext w W)=>q7Y (h.ext k) own S0);rw[q4B Z] at n0;have hR:(q4G bs own).length=(q0R bs own).length:=q1L _ _;have P0:=q1r bs own;have M:Hd (∀len,(q0R bs own).length=len+1->(q4G bs own).getD len to0=⟨own,(len:Int),q8O bs own⟩/\(q8O bs own).da.length<=1000000):=η fun len hl=>by
  refine⟨?_,?_⟩
  ·unfold q4G
   rw[q5g own (q0R bs own) 0 len (by omega)];unfold q8O;rw[hl,Nat.zero_add];rfl
  ·refine O _ ?_
   unfold q8O;rw[δ,γ (by omega)];exact List.getElem_mem _
 have HZ:=η c0;have HA:=η Q;have HO:=η T0;have l0:=η (q7k st w (by omega));clear c0 Q h Z O;go_enter Tryz.func46,Tryz.ntmps46;by_cases q:name=[]
 ·have hd:decide ((name.length:Int)<1)=true:=ζ (by rw[q];decide)
  have d:Hd (zn=2):=η (by have:=HZ.o;rw[ξ (.inl q)] at this;exact this.symm);clear q;go_wp2_with fail;go_ret2;exact⟨Ext.refl _,.inl ⟨by rw[d.o];decide,by rw[d.o];rfl⟩⟩
 have hd:decide ((name.length:Int)<1)=false:=ε (by have:name.length≠0:=fun e=>q (List.length_eq_zero_iff.1 e);omega);by_cases h0:31<name.length
 ·have hl:decide ((31:Int)<(name.length:Int))=true:=ζ (by omega)
  have d:Hd (zn=2):=η (by have:=HZ.o;rw[ξ (.inr (.inl h0))] at this;exact this.symm);clear q h0;go_wp2_with fail;go_ret2;exact⟨Ext.refl _,.inl ⟨by rw[d.o];decide,by rw[d.o];rfl⟩⟩
 have hl:decide ((31:Int)<(name.length:Int))=false:=ε (by omega);have x0:=η q;have y0:=η h0;clear q h0;go_wp2_with fail;refine l0.o.mono ?_;rintro e w1 ⟨rfl,G0⟩;have N:=η G0;clear G0 l0;obtain⟨vs,b0⟩: ∃b,q1M st=b:=⟨_,rfl⟩
 rw[b0]
 cases vs with
 | false=>
  have d:Hd (zn=2):=η (by have:=HZ.o;rw[ξ (.inr (.inr (.inl b0)))] at this;exact this.symm);clear b0;go_wp2_with fail;go_ret2;exact⟨N.o,.inl ⟨by rw[d.o];decide,by rw[d.o];rfl⟩⟩
 |true=>
 have B0:=η b0;clear b0;by_cases I:st=own
 ·have F0:(own==st)=true:=by rw[I];exact beq_self_eq_true _
  have d:Hd (zn=2):=η (by have:=HZ.o;rw[ξ (.inr (.inr (.inr I)))] at this;exact this.symm);clear I;go_wp2_with fail;go_ret2;exact⟨N.o,.inl ⟨by rw[d.o];decide,by rw[d.o];rfl⟩⟩
 have F0:(own==st)=false:=beq_eq_false_iff_ne.2 (Ne.symm I)
 have B:Hd (zn=if (q0R bs own).length=0 then 0 else if z1Y (q8O bs own)=true then 0 else 10):=η (by
  have:=HZ.o;rw[κ] at this
  ·exact this.symm
  ·rintro(h|h|h|h)
   ·exact x0.o h
   ·exact y0.o h
   ·rw[B0.o] at h;cases h
   ·exact I h)
 clear I HZ x0 y0 B0;go_wp2_with fail;refine(n0.o _ N.o).mono ?_;rintro e w2 ⟨v0,rfl,a0,H0⟩;obtain⟨la,lc,rfl⟩:=q0E a0;have J:=(q2Z a0).1;have o0:=η (N.o.trans H0);have y:=o0.o.size;obtain⟨R,D0⟩: ∃R,q4G bs own=R:=⟨_,rfl⟩
 rw[D0] at J hR M⊢;obtain⟨len,V⟩: ∃l,(q0R bs own).length=l:=⟨_,rfl⟩
 rw[V] at hR B M HA P0;have w0:=η V;rw[hR] at J⊢;have X0:=J.fits;have W0:=J.bound;have A0:=η J;have q0:IntKind.i64.wrap ((len:Int)-1)=(len:Int)-1:=by rw[ν];omega
 have I0:=q0B w2 (.cells #[.pointer (some ⟨mb,0,none⟩),.string ⟨st.toArray⟩,.string ⟨own.toArray⟩,.int .i64 0,.int .i64 ((len:Int)-1),.int .i64 0] 118);have U:=Blk.new w2 118 #[.pointer (some ⟨mb,0,none⟩),.string ⟨st.toArray⟩,.string ⟨own.toArray⟩,.int .i64 0,.int .i64 ((len:Int)-1),.int .i64 0];have f0:=η I0;have e0:=η U;clear a0 H0 I0 U J n0 N E0 hd hl F0 D0 V
 cases len with
 | zero=>
  have M0:decide ((0:Int)<((0:Nat):Int))=false:=by decide
  have d:Hd (zn=0):=η (by have:=B.o;rw[ξ rfl] at this;exact this);have m0:Hd (an=0):=η (by have:=HA.o;rw[ξ rfl] at this;exact this.symm);go_wp2_with fail;go_ret2;exact⟨o0.o.trans f0.o,.inr ⟨d.o,_,rfl,by rw[m0.o,w0.o];exact e0.o,y⟩⟩
 | succ len=>
  have M0:decide ((0:Int)<((len+1:Nat):Int))=true:=ζ (by omega);have q1:((len+1:Nat):Int)-1=(len:Int):=by omega
  rw[q1] at q0 f0 e0;obtain⟨E,hE⟩: ∃E,q8O bs own=E:=⟨_,rfl⟩
  obtain⟨r0,g0⟩:=M.o len rfl;rw[hE] at r0 g0 B HA;obtain⟨bb,off,rfl,d0,d1,d2,d3,d4⟩:=((A0.o.ext f0.o)).at (i:=len) (by omega);rw[r0] at d2 d3 d4;simp only at d2 d3 d4;obtain⟨ty,da,we⟩:=E;simp only at d2 d3 d4 g0;have q2:IntKind.i64.wrap (len:Int)=(len:Int):=by rw[ν];omega
  have q3:((len:Int)).toNat=len:=by omega
  have J0:=q0B (w2.alloc (.cells #[.pointer (some ⟨mb,0,none⟩),.string ⟨st.toArray⟩,.string ⟨own.toArray⟩,.int .i64 0,.int .i64 (len:Int),.int .i64 0] 118)) (.cells #[.string ⟨ty.toArray⟩,.string ⟨da.toArray⟩,.float .f64 we] 67);have U0:=q2C;have C:=Blk.new (w2.alloc (.cells #[.pointer (some ⟨mb,0,none⟩),.string ⟨st.toArray⟩,.string ⟨own.toArray⟩,.int .i64 0,.int .i64 (len:Int),.int .i64 0] 118)) 67 #[.string ⟨ty.toArray⟩,.string ⟨da.toArray⟩,.float .f64 we];rw[ρ] at C;have u0:=η C;have C0:=η J0;have z0:=η (fun W=>z4v da g0 W);have K0:=η q1;clear r0 hE J0 C g0 q1;go_wp2_with fail;clear d2 d3 d4 q0 q2 q3 U0;refine(z0.o _).mono ?_;rintro e w3 ⟨rfl,j0⟩;have C:=u0.o.ext j0;have k0:=C.cell 0;have U:=(e0.o.ext C0.o).ext j0;have r:=η U;have p0:=η ((o0.o.trans f0.o).trans (C0.o.trans j0));clear C U j0 z0 u0 e0 A0;by_cases i0:ty=[97,116]
  case neg=>
   have O0:(ty==[97,116])=false:=beq_eq_false_iff_ne.2 i0;have V0:(ty !=[97,116])=true:=by rw[bne,O0];rfl
   have d:Hd (zn=10):=η (by
    have:=B.o;rw[κ (by omega),κ (by unfold z1Y;rw[ε i0];exact Bool.false_ne_true)] at this
    exact this)
   clear i0;go_wp2_with fail;go_ret2;exact⟨p0.o,.inl ⟨by rw[d.o];decide,by rw[d.o];rfl⟩⟩
  subst i0;obtain⟨nb,G⟩: ∃b,(q5A da).isSome=b:=⟨_,rfl⟩
  cases nb with
  | false=>
   have N0:decide (z0t da<(0:Int))=true:=ζ (numZ_neg.2 G)
   have d:Hd (zn=10):=η (by
    have:=B.o;rw[κ (by omega),κ (by unfold z1Y;simp only[G];decide)] at this
    exact this)
   clear G;go_wp2_with fail;go_ret2;exact⟨p0.o,.inl ⟨by rw[d.o];decide,by rw[d.o];rfl⟩⟩
  | true=>
   have t0:=z6c G
   have d:Hd (zn=0):=η (by
    have:=B.o;rw[κ (by omega),ξ (by unfold z1Y;simp only[G];decide)] at this
    exact this)
   have m0:Hd (an=z0t da):=η (by have:=HA.o;rw[κ (by omega)] at this;rw[t0];exact this.symm);have N0:decide (z0t da<(0:Int))=false:=ε (by rw[t0];omega);clear G t0;generalize z0t da=nz at*;have k3:=r.o.cell 3;have f3:=r.o.free 3;have s0:=r.o.set 3 (.int .i64 nz);have k5:=s0.cell 5;have f5:=s0.free 5;clear s0;go_wp2_with fail;go_ret2;exact⟨(p0.o.setCell (p:=⟨w2.heap.size,3,none⟩) y _).setCell (p:=⟨w2.heap.size,5,none⟩) y _,.inr ⟨d.o,_,rfl,by rw[m0.o,w0.o,K0.o];exact(r.o.set 3 _).set 5 _,y⟩⟩
def pgO(R:List To)(fr ct:Int)(k:Nat):List To:=((R.take k).drop fr.toNat).take ct.toNat
theorem z2M(R:List To)(fr ct:Int){k:Nat}(h:k<=R.length):(pgO R fr ct k).length=min ct.toNat (k-fr.toNat):=by
 unfold pgO;rw[Θ,List.length_drop,Θ,Nat.min_eq_left h]
theorem z1K(R:List To){k:Nat}(h:k<R.length):R.take (k+1)=R.take k++[R.getD k to0]:=by
 rw[List.take_succ_eq_append_getElem h,δ,γ h];rfl
theorem y2H{k:Nat}(h:k<R.length)(d:0<=fr)(o:fr<=(k:Int))(b:((pgO R fr ct k).length:Int)<ct):pgO R fr ct (k+1)=pgO R fr ct k++[R.getD k to0]:=by
 rw[z2M R fr ct (by omega)] at b;unfold pgO;have e:((R.take k).drop fr.toNat).length=k-fr.toNat:=by rw[List.length_drop,Θ];omega
 rw[z1K R h,List.drop_append_of_le_length (by rw[Θ];omega)];generalize (R.take k).drop fr.toNat=D at*;rw[List.take_append,Δ (l:=D) (by omega),Δ (by rw[List.length_singleton];omega)]
theorem y0i{k:Nat}(h:k<R.length)(d:0<=fr)(o:0<=ct)(b:(k:Int)<fr\/ct<=((pgO R fr ct k).length:Int)):pgO R fr ct (k+1)=pgO R fr ct k:=by
 rw[z2M R fr ct (by omega)] at b;unfold pgO;by_cases l:(k:Int)<fr
 ·rw[List.drop_of_length_le (by rw[Θ];omega),List.drop_of_length_le (by rw[Θ];omega)]
 ·have e:((R.take k).drop fr.toNat).length=k-fr.toNat:=by rw[List.length_drop,Θ];omega
  rw[z1K R h,List.drop_append_of_le_length (by rw[Θ];omega),List.take_append_of_le_length (by rw[e];omega)]
theorem z9B{w:World}{mb base:Nat}{vL vM:Value}{bs:List Bt}{ms:List Value}(h:MoI w mb base vL vM (tos bs) ms)(j0:okBs bs)(hl:(tos bs).length<=8000)(st:List UInt8)(hs:st.length<=4611686018427387903)(fr ct:Int)(hf:fr<=9223372036854775807)(s0:ct<=9223372036854775807):
  Calls Tryz.prog 56 #[.pointer (some ⟨mb,0,none⟩),.string ⟨st.toArray⟩,.int .i64 fr,.int .i64 ct,.bool false] w fun e w'=> ∃v,e= .returned (.tuple #[v,.int .i64 (q1Z st fr ct)])/\
   w'.ownsRow w.heap.size 69 5 v (q3h bs st fr ct).length (q2q (q3h bs st fr ct))/\Ext w w':=by
 have HS:=η (q7k st w (by omega));have d0:=η (fun W (k:Ext w W)=>q7Y (h.ext k) st (by omega));rw[q4B j0] at d0;have a0:(q4G bs st).length=(q0R bs st).length:=q1L _ _;have t0:=q1r bs st;have HG:Hd (∀k,k<(q4G bs st).length->((q4G bs st).getD k to0).v=(k:Int)):=η fun k hk=>by
  unfold q4G;rw[q5g st (q0R bs st) 0 k (by rw[q1L] at hk;exact hk),Nat.zero_add]
 obtain⟨N,hN⟩: ∃N,q1Z st fr ct=N:=⟨_,rfl⟩
 obtain⟨F,hF⟩: ∃F,q3h bs st fr ct=F:=⟨_,rfl⟩
 rw[hN,hF];have HN:=η hN;have HF:=η hF;have b0:=η a0;clear h j0 hN hF a0;go_enter Tryz.func56,Tryz.ntmps56;go_wp2_with fail;refine HS.o.mono ?_;rintro e w1 ⟨rfl,hx⟩;have y:=η hx;clear hx HS;have q:Hd ((q1M st=false\/fr<0\/ct<1)->N=2/\F=[]):=η fun h=>by
  have e:q1Z st fr ct=2:=ξ h;exact⟨by rw[<-HN.o];exact e,by rw[<-HF.o];exact q9U (by rw[e];decide)⟩
 obtain⟨vs,Q⟩: ∃b,q1M st=b:=⟨_,rfl⟩
 rw[Q]
 cases vs with
 | false=>
  obtain⟨e1,e2⟩:=q.o (.inl Q);subst e1 e2;clear Q;go_wp2_with fail;go_ret2;exact⟨_,rfl,World.ownsRow_nil _ _ _ _,y.o⟩
 |true=>
 have HV:=η Q;clear Q;by_cases I:fr<0
 ·have hd:decide (fr<(0:Int))=true:=ζ I
  obtain⟨e1,e2⟩:=q.o (.inr (.inl I));subst e1 e2;clear I;go_wp2_with fail;go_ret2;exact⟨_,rfl,World.ownsRow_nil _ _ _ _,y.o⟩
 have q0:decide (fr<(0:Int))=false:=ε I;by_cases G:ct<1
 ·have hd:decide (ct<(1:Int))=true:=ζ G
  obtain⟨e1,e2⟩:=q.o (.inr (.inr G));subst e1 e2;clear G;go_wp2_with fail;go_ret2;exact⟨_,rfl,World.ownsRow_nil _ _ _ _,y.o⟩
 have r0:decide (ct<(1:Int))=false:=ε G;have hp:q1Z st fr ct=0:=κ (by rintro(h|h|h);rw[HV.o] at h;cases h;exact I h;exact G h);obtain rfl:(0:Int)=N:=hp.symm.trans HN.o;have e0:Hd (F=((q4G bs st).drop fr.toNat).take ct.toNat):=η (by rw[<-HF.o];exact z8T hp);clear hp q HN HV HF;go_wp2_with fail;refine(d0.o _ y.o).mono ?_;rintro e w2 ⟨v0,rfl,d,k0⟩;obtain⟨la,lc,rfl⟩:=q0E d;have B:=(q2Z d).1;have g0:=η (y.o.trans k0);obtain⟨R,hR⟩: ∃R,q4G bs st=R:=⟨_,rfl⟩
 rw[hR] at B HG e0 b0⊢;obtain⟨n,hn⟩: ∃n,R.length=n:=⟨_,rfl⟩
 rw[hn] at B HG b0⊢;have x0:n<=8000:=by have:=b0.o;omega
 have b1:=B.fits;have b2:=B.bound;have o0:=η B;have U:=η hn;clear d k0 B q0 r0 d0 y hR hn;go_wp2_with fail
 go_loopw [13,14] (fun ov oi W=> ∃(k:Nat) (v:Value) (M:List To),ov=v/\oi= .int .i64 (k:Int)/\k<=n/\Hd (pgO R fr ct k=M)/\W.ownsRow w2.heap.size 69 5 v M.length (q2q M)/\Ext w2 W) (fun _ i _=>n-(intOf i).toNat)
 case atStart=>exact⟨0,_,[],rfl,rfl,υ _,η (by unfold pgO;simp),⟨rfl,.inl ⟨rfl,rfl⟩⟩,Ext.refl _⟩
 case round=>
  obtain⟨k,v,M,rfl,rfl,hk,r,d,hb⟩:=hrel;obtain⟨oa,oc,rfl⟩:=q0E d;have i0:M.length<=n:=by rw[<-r.o,z2M R fr ct (by rw[U.o];exact hk)];omega
  by_cases Z:k<n
  ·have hd:decide ((k:Int)<(n:Int))=true:=ζ (by omega)
   have u0:(k:Int)<(n:Int):=by omega
   have q1:IntKind.i64.wrap ((k:Int)+1)=(k:Int)+1:=by rw[ν];omega
   have q2:IntKind.i64.wrap ((n:Int)-1)=(n:Int)-1:=by rw[ν];omega
   have q3:IntKind.i64.wrap ((n:Int)-1-(k:Int))=(n:Int)-1-(k:Int):=by rw[ν];omega
   obtain⟨bb,off,rfl,c0,c1,c2,c3,c4⟩:=(o0.o.ext hb).at Z;have hv:=HG.o k Z;obtain⟨t,ht⟩: ∃t,R.getD k to0=t:=⟨_,rfl⟩
   rw[ht] at c0 c1 c2 c3 c4 hv;have HT:=η ht;obtain⟨ts,tv,⟨ty,da,we⟩⟩:=t;simp only at c0 c1 c2 c3 c4 hv;subst hv;obtain⟨no,q⟩: ∃no,M.length=no:=⟨_,rfl⟩
   have C:=η q;have y0:=q2C;rw[q] at d i0⊢;have E:=η d;have HB:=η hb;have n0:=η hb.size;have m0:=η (show Rd (wr.alloc (.cells #[.string ⟨ts.toArray⟩,.int .i64 (k:Int),.string ⟨ty.toArray⟩,.string ⟨da.toArray⟩,.float .f64 we] 69)) (some ⟨wr.heap.size,0,none⟩) (toc ⟨ts,(k:Int),⟨ty,da,we⟩⟩) from Rd.lit wr #[.string ⟨ts.toArray⟩,.int .i64 (k:Int),.string ⟨ty.toArray⟩,.string ⟨da.toArray⟩,.float .f64 we] 69);have f0:=η (q0J d (q0B wr (.cells #[.string ⟨ts.toArray⟩,.int .i64 (k:Int),.string ⟨ty.toArray⟩,.string ⟨da.toArray⟩,.float .f64 we] 69)));clear d hb q ht;by_cases V:fr<=(k:Int)/\(no:Int)<ct
   ·obtain⟨i1,i2⟩:=V
    have d1:decide (fr<=(k:Int))=true:=ζ i1;have d2:decide ((no:Int)<ct)=true:=ζ i2;have HS:=η (y2H (R:=R) (fr:=fr) (ct:=ct) (k:=k) (by rw[U.o];exact Z) (by omega) i1 (by rw[r.o,C.o];exact i2));clear i1 i2
    go_wp2_with (at_builtin;refine q0M rfl _ _ 36 rfl w2.heap.size 69 _ 5 64 Tryz.underlying36 Tryz.infoTo (by decide) (by decide) _ no (q2q M) rfl f0.o _ 1 1 (toc ⟨ts,(k:Int),⟨ty,da,we⟩⟩) rfl rfl (fun h=>by cases h) m0.o (by unfold toc;simp[Value.oneCell']) (by unfold maxLen;omega) (by omega) (by have:=n0.o;simp;omega) ?_;intro v2 w8 O J p0;obtain⟨a2,k2,rfl⟩:=q0E O;have HO:=η O;have HX:Hd (Ext w2 w8):=η (z3n (w0:=w2) (W:=wr) (vq:= .slice oa no oc) HB.o E.o J);clear O J p0)
    go_roundw
    case rel=>
     refine⟨k+1,_,M++[⟨ts,(k:Int),⟨ty,da,we⟩⟩],rfl,by go_num,by omega,η (by rw[HS.o,r.o,HT.o]),?_,HX.o⟩;rw[q5q,θ,C.o];exact HO.o
    case measure=>simp[intOf];omega
   ·have HS:=η (y0i (R:=R) (fr:=fr) (ct:=ct) (k:=k) (by rw[U.o];exact Z) (by omega) (by omega) (by rw[r.o,C.o];omega))
    by_cases i1:fr<=(k:Int)
    ·have d1:decide (fr<=(k:Int))=true:=ζ i1
     have d2:decide ((no:Int)<ct)=false:=ε fun e=>V ⟨i1,e⟩
     clear i1 V;go_wp2_with fail
     go_roundw
     case rel=>exact⟨k+1,_,M,rfl,by go_num,by omega,η (by rw[HS.o,r.o]),by rw[C.o];exact E.o,HB.o⟩
     case measure=>simp[intOf];omega
    ·have d1:decide (fr<=(k:Int))=false:=ε i1
     clear i1 V;go_wp2_with fail
     go_roundw
     case rel=>exact⟨k+1,_,M,rfl,by go_num,by omega,η (by rw[HS.o,r.o]),by rw[C.o];exact E.o,HB.o⟩
     case measure=>simp[intOf];omega
  ·obtain rfl:k=n:=by omega
   have hd:decide ((k:Int)<(k:Int))=false:=ε (by omega);have h0:M=F:=by rw[<-r.o,e0.o];unfold pgO;rw[Δ (l:=R) (by rw[U.o];exact ι _)]
   have E:=η (q0r d g0.o.size);have HB:=η hb;have l0:=η h0;clear d hb h0 i0;go_wp2_with fail;go_ret2;exact⟨_,rfl,by rw[<-l0.o];exact E.o,g0.o.trans HB.o⟩
section
variable {w W W':World}{mb base gv:Nat}{vL vM:Value}{bs:List Bt}{ms:List Value}{a v t:Int}{st own:List UInt8}
theorem RSbI.same(h:RSbI W gv mb st own a v t)(k:W'.heap[gv]? =W.heap[gv]?):RSbI W' gv mb st own a v t:=Blk.same h k
theorem RSbI.ext(h:RSbI W gv mb st own a v t)(k:Ext W W'):RSbI W' gv mb st own a v t:=Blk.ext h k
theorem RSbI.lt(h:RSbI W gv mb st own a v t):gv<W.heap.size:=Blk.lt h
theorem z4y(h:MoI w mb base vL vM (tos bs) ms)(B:okBs bs)(hl:(tos bs).length<=8000)(U:RSbI w gv mb st own a v t)(hs:st.length<=4611686018427387903)(a0:0<=t)(b0:t<=2147483648)(k:Int)(hk:k<=9223372036854775807):
  Calls Tryz.prog 47 #[.pointer (some ⟨gv,0,none⟩),.int .i64 k] w fun e w'=> ∃x,e= .returned (.tuple #[x,.int .i64 (q1Z st t k)])/\
   w'.ownsRow w.heap.size 69 5 x (q3h bs st t k).length (q2q (q3h bs st t k))/\Ios w w'/\w.heap.size<=w'.heap.size/\(∀i,i<w.heap.size->i≠gv->w'.heap[i]? =w.heap[i]?)/\RSbI w' gv mb st own a v (t+((q3h bs st t k).length:Int)):=by
 have Q:=η U;by_cases d:k<1
 ·have hd:decide (k<(1:Int))=true:=ζ d
  have C:q1Z st t k=2:=ξ (.inr (.inr d));have G:q3h bs st t k=[]:=q9U (by rw[C];decide);rw[C,G];clear d C G h U B;go_enter Tryz.func47,Tryz.ntmps47;go_wp2_with fail;go_ret2;exact⟨.slice none 0 0,rfl,World.ownsRow_nil _ _ _ _,Ios.of_ext (Ext.refl _),ι _,fun i _ _=>rfl,by have:=Q.o;show RSbI w gv mb st own a v (t+0);rw[Int.add_zero];exact this⟩
 have hd:decide (k<(1:Int))=false:=ε d;have l:=η (fun W (x:Ext w W)=>z9B (h.ext x) B hl st hs t k (by omega) hk);have J:(q3h bs st t k).length<=8000:=by
  unfold q3h
  split
  ·show(q5B _ _ _).length<=8000
   unfold q5B;rw[Θ,List.length_drop,q1L];have:=q1r bs st;omega
  ·exact υ _
 obtain⟨F,hF⟩: ∃F,q3h bs st t k=F:=⟨_,rfl⟩
 obtain⟨N,hN⟩: ∃N,q1Z st t k=N:=⟨_,rfl⟩
 rw[hF,hN] at l⊢;rw[hF] at J;obtain⟨fn,M⟩: ∃fn,F.length=fn:=⟨_,rfl⟩
 rw[M] at l J⊢;have I:=U.ext (Ext.refl w).drew;have r:Hd (∀W:World,W.heap[gv]? =w.drew.heap[gv]? ->(W.cell? ⟨gv,0,none⟩=some (.pointer (some ⟨mb,0,none⟩))/\W.cell? ⟨gv,1,none⟩=some (.string ⟨st.toArray⟩)/\W.cell? ⟨gv,5,none⟩=some (.int .i64 t))):=η fun W h=>by
  have hb:=I.same h;exact⟨Blk.cell hb 0,Blk.cell hb 1,Blk.cell hb 5⟩
 have q1:IntKind.i64.wrap (t+(fn:Int))=t+(fn:Int):=by rw[ν];omega
 have HQ:=η q1;clear h U B hF hN M d I q1;go_enter Tryz.func47,Tryz.ntmps47;go_wp2_with fail;refine q0v (fun W:World=>(W.cell? ⟨gv,0,none⟩=some (.pointer (some ⟨mb,0,none⟩))/\W.cell? ⟨gv,1,none⟩=some (.string ⟨st.toArray⟩)/\W.cell? ⟨gv,5,none⟩=some (.int .i64 t))) 17 (by kernel_rfl) (r.o _ rfl) (fun b=>?_);refine q0I 0 b (fun b=>?_)
 try simp only[Act.put,π,ψ,ω]
 refine q0I 1 b (fun b=>?_)
 try simp only[Act.put,π,ψ,ω]
 refine q0I 2 b (fun b=>?_)
 try simp only[Act.put,π,ψ,ω]
 refine q1u 3 b (fun b=>?_)
 try simp only[Act.put,π,ψ,ω]
 refine q0I 4 b (fun b=>?_)
 try simp only[Act.put,π,ψ,ω]
 refine q0I 5 b (fun b=>?_)
 try simp only[Act.put,π,ψ,ω]
 refine q0I 6 b (fun b=>?_)
 try simp only[Act.put,π,ψ,ω]
 refine q1u 7 b (fun b=>?_)
 try simp only[Act.put,π,ψ,ω]
 refine q0I 8 b (fun b=>?_)
 try simp only[Act.put,π,ψ,ω]
 refine q0I 9 b (fun b=>?_)
 try simp only[Act.put,π,ψ,ω]
 refine q0I 10 b (fun b=>?_)
 try simp only[Act.put,π,ψ,ω]
 refine q1u 11 b (fun b=>?_)
 try simp only[Act.put,π,ψ,ω]
 refine q0I 12 b (fun b=>?_)
 try simp only[Act.put,π,ψ,ω]
 refine q0Q (i:=13) (by kernel_rfl) rfl (fun K9 hK=>?_)
 go_simp
 go_at_call 56
 refine(l.o _ (Ext.refl w).drew).mono ?_;rintro e w3 ⟨x,rfl,hr,hx⟩;obtain⟨va,vc,rfl⟩:=q0E hr;have O:Ext w w3:=(Ext.refl w).drew.trans hx;have y:=hx.block gv (by have:=Q.o.lt;exact this);have E:=η O;have HR:=η hr;clear b;refine hK.out _ _ (r.o _ y) (fun b=>?_);clear hK K9 hx O hr
 try simp only[Act.put,π,ψ,ω]
 refine q0I 14 b (fun b=>?_)
 try simp only[Act.put,π,ψ,ω]
 refine q0I 15 b (fun b=>?_)
 try simp only[Act.put,π,ψ,ω]
 refine q0I 16 b (fun b=>?_)
 try simp only[Act.put,π,ψ,ω]
 refine q1I (by kernel_rfl) ?_
 try simp only[List.drop_succ_cons,List.drop_zero]
 clear b r;have q:=η (Q.o.same y);have k5:=Blk.cell q.o 5;have f5:=Blk.free q.o 5;have V:=η (Blk.set q.o 5 (.int .i64 (t+(fn:Int))));have q1:=HQ.o;clear y l;go_wp2_with fail;go_ret2;refine⟨_,rfl,q0a HR.o _ (fun e=>?_),⟨E.o.os,E.o.tape,E.o.output⟩,by rw[World.size_setCell];exact E.o.size,fun i Z h2=>(heap_setCell_other _ _ _ _ (fun e=>h2 (by exact e))).trans (E.o.block i Z),V.o⟩;have Z:=(q0U HR.o _ e).1;have h2:=Q.o.lt;exact absurd h2 (Nat.not_lt.2 Z)
theorem z7B(h:MoI w mb base vL vM (tos bs) ms)(p0:okBs bs)(x0:base<=mb)(q:RSbI w gv mb st own a v t)(m0:¬MoB mb vL vM gv)(hs:own.length<=4611686018427387903)(B0:0<=t)(C0:t<=1073741825)(hl:(tos bs).length<=100000)(y0:ms.length<=100000):
  Calls Tryz.prog 48 #[.pointer (some ⟨gv,0,none⟩)] w fun e w'=>e= .returned (.int .i64 (q9F bs own a v t))/\
   ∃ vL' vM' ms',MoI w' mb base vL' vM' (tos (z0L bs own a v t)) ms'/\ms'.length<=ms.length+1/\w.heap.size<=w'.heap.size/\(∀i,i<w.heap.size->¬MoB mb vL vM i->i≠gv->w'.heap[i]? =w.heap[i]?)/\(∀i,MoB mb vL' vM' i->MoB mb vL vM i\/w.heap.size<=i)/\Ios w w'/\
    RSbI w' gv mb st own (z0K bs own a v t) (z7c bs own a v t) t:=by
 have k5:=Blk.cell q 5;have k3:=Blk.cell q 3;have u5:=q0C k5;have u3:=q0C k3;have I:=η q;have HM:=η h;by_cases l:t=a
 ·have hd:(t==a)=true:=by simpa using l
  have HZ:Hd (q9F bs own a v t=0/\z0L bs own a v t=bs/\z0K bs own a v t=t/\z7c bs own a v t=v):=η (by
   have h0:q9F bs own a v t=0:=ξ l
   exact⟨h0,ξ l,by unfold z0K;rw[ξ h0],ξ l⟩)
  have v0:=η l;clear h q l;go_enter Tryz.func48,Tryz.ntmps48;go_wp2_with fail;refine q0D (by kernel_rfl) (by kernel_rfl) ?_
  repeat (go_big_quiet_step (fail))
  refine wpQuiet_nil ?_;intro w2 O;have N:=η O;clear O u5 u3 k5 k3;go_wp2_with fail;go_ret;obtain⟨z1,z2,z3,z4⟩:=HZ.o;rw[z1,z2,z3,z4];have hh:=I.o.ext N.o;rw[<-v0.o] at hh;exact⟨rfl,vL,vM,ms,HM.o.ext N.o,Nat.le_succ _,N.o.size,fun i B _ _=>N.o.block i B,fun i q=> .inl q,Ios.of_ext N.o,hh⟩
 have hd:(t==a)=false:=beq_eq_false_iff_ne.2 l;obtain⟨z,hz⟩: ∃z,q8R bs own v [q8I t]=z:=⟨_,rfl⟩
 have HZ:Hd (q9F bs own a v t=z/\z0L bs own a v t=(if z=0 then bs++[⟨own,(q0R bs own).length,[q8I t]⟩] else bs)/\z0K bs own a v t=(if z=0 then t else a)/\z7c bs own a v t=(if z=0 then((q0R bs own).length:Int) else v)):=η (by
  have h0:q9F bs own a v t=z:=by unfold q9F;rw[κ l,hz]
  exact⟨h0,by unfold z0L;rw[κ l,hz],by unfold z0K;rw[h0],by unfold z7c;rw[κ l,hz]⟩)
 obtain⟨Q,q0⟩: ∃Q:Nat,t=(Q:Int):=⟨t.toNat,by omega⟩
 have HT:=η (q7E Q (by omega));have hE:q8I t=⟨[97,116],Lib.decDigits Q,0⟩:=by rw[q0];rfl
 obtain⟨D,hD⟩: ∃D,Lib.decDigits Q=D:=⟨_,rfl⟩
 have z0:D.length<=11:=by rw[<-hD];have:=q4S (n:=Q) (by omega);omega
 rw[hD] at HT hE;have HE:=η hE;have w0:=η hz;have u0:=η p0;subst q0;clear h q l hz hD hE p0;go_enter Tryz.func48,Tryz.ntmps48;go_wp2_with fail;refine q0D (by kernel_rfl) (by kernel_rfl) ?_
 repeat (go_big_quiet_step (fail))
 refine wpQuiet_nil ?_;intro w2 O;have a0:Hd (Ext w w2.drew):=η O.drew;have c0:=η (I.o.ext a0.o);have M:Hd (∀W:World,W.heap[gv]? =w2.drew.heap[gv]? ->(W.cell? ⟨gv,0,none⟩=some (.pointer (some ⟨mb,0,none⟩))/\W.cell? ⟨gv,2,none⟩=some (.string ⟨own.toArray⟩)/\W.cell? ⟨gv,4,none⟩=some (.int .i64 v)/\W.cell? ⟨gv,5,none⟩=some (.int .i64 (Q:Int)))):=η fun W h=>by
  have hb:=c0.o.same h;exact⟨Blk.cell hb 0,Blk.cell hb 2,Blk.cell hb 4,Blk.cell hb 5⟩
 clear O u5 u3 k5 k3;go_wp2_with fail;refine q0v (fun W:World=>(W.cell? ⟨gv,0,none⟩=some (.pointer (some ⟨mb,0,none⟩))/\W.cell? ⟨gv,2,none⟩=some (.string ⟨own.toArray⟩)/\W.cell? ⟨gv,4,none⟩=some (.int .i64 v)/\W.cell? ⟨gv,5,none⟩=some (.int .i64 (Q:Int)))) 23 (by kernel_rfl) (M.o _ rfl) (fun d=>?_);refine q0I 0 d (fun d=>?_)
 try simp only[Act.put,π,ψ,ω]
 refine q0I 1 d (fun d=>?_)
 try simp only[Act.put,π,ψ,ω]
 refine q0I 2 d (fun d=>?_)
 try simp only[Act.put,π,ψ,ω]
 refine q1u 3 d (fun d=>?_)
 try simp only[Act.put,π,ψ,ω]
 refine q0I 4 d (fun d=>?_)
 try simp only[Act.put,π,ψ,ω]
 refine q0I 5 d (fun d=>?_)
 try simp only[Act.put,π,ψ,ω]
 refine q0I 6 d (fun d=>?_)
 try simp only[Act.put,π,ψ,ω]
 refine q1u 7 d (fun d=>?_)
 try simp only[Act.put,π,ψ,ω]
 refine q0I 8 d (fun d=>?_)
 try simp only[Act.put,π,ψ,ω]
 refine q0I 9 d (fun d=>?_)
 try simp only[Act.put,π,ψ,ω]
 refine q0I 10 d (fun d=>?_)
 try simp only[Act.put,π,ψ,ω]
 refine q1u 11 d (fun d=>?_)
 try simp only[Act.put,π,ψ,ω]
 refine q0I 12 d (fun d=>?_)
 try simp only[Act.put,π,ψ,ω]
 refine q0I 13 d (fun d=>?_)
 try simp only[Act.put,π,ψ,ω]
 refine q0I 14 d (fun d=>?_)
 try simp only[Act.put,π,ψ,ω]
 refine q1u 15 d (fun d=>?_)
 try simp only[Act.put,π,ψ,ω]
 refine q0Q (i:=16) (by kernel_rfl) rfl (fun K9 hK=>?_)
 go_simp
 go_at_call 99
 refine(HT.o _).mono ?_;rintro e w3 ⟨rfl,hx⟩;have U:=η (a0.o.trans hx);have f0:=hx.block gv c0.o.lt;clear d;refine hK.out _ _ (M.o _ f0) (fun d=>?_);clear hK K9
 try simp only[Act.put,π,ψ,ω]
 refine q0I 17 d (fun d=>?_)
 try simp only[Act.put,π,ψ,ω]
 have Z:=q0B w3 (.cells #[.string ⟨#[97,116]⟩,.string ⟨D.toArray⟩,.float .f64 0] 67);have l0:=Blk.new w3 67 #[.string ⟨#[97,116]⟩,.string ⟨D.toArray⟩,.float .f64 0];have b0:Evs (w3.alloc (.cells #[.string ⟨#[97,116]⟩,.string ⟨D.toArray⟩,.float .f64 0] 67)) (some ⟨w3.heap.size,0,none⟩) 1 1 [⟨[97,116],D,0⟩]:=by
  have:=l0.evs (L:=[⟨[97,116],D,0⟩]) (k:=1) (by simp) (by simp)
  rwa [Δ (by simp)] at this
 have o0:=HM.o.ext (U.o.trans Z);have e0:=q8j o0 u0.o x0 own hs v (z:=z) b0 (fun b e _ hb=>by cases e;have B:w3.heap.size<w.heap.size:=HM.o.lt hb;have:=U.o.size;omega) (fun e he=>by rw[List.mem_singleton.1 he];exact⟨by simp,by show D.length<=_;omega⟩) (fun e he=>by rw[List.mem_singleton.1 he];show(0:Nat)<_;omega) hl y0 (by rw[<-HE.o];exact w0.o);rw[<-HE.o] at e0;have j0:=η e0;have r:=η (U.o.trans Z);have i0:=(Z.block gv (by have:=(I.o.ext U.o).lt;exact this)).trans f0;have r0:=η i0;clear Z l0 b0 o0 e0 f0;refine q0Q (i:=18) (by kernel_rfl) rfl (fun K9 hK=>?_)
 go_simp
 refine hK.out _ _ (M.o _ i0) (fun d=>?_);clear hK K9
 try simp only[Act.put,π,ψ,ω]
 refine q0Q (i:=19) (by kernel_rfl) rfl (fun K9 hK=>?_)
 go_simp
 go_at_call 50
 refine j0.o.mono ?_;rintro e w5 ⟨vL',vM',ms',bs',x,y,rfl,m1,m2,m3,m4,m5,G,m7⟩;have n0:gv<(w3.alloc (.cells #[.string ⟨#[97,116]⟩,.string ⟨D.toArray⟩,.float .f64 0] 67)).heap.size:=by have B:=I.o.lt;have h2:=r.o.size;omega
 have g0:=(m4 gv n0 m0).trans r0.o;have d0:Hd (MoI w5 mb base vL' vM' (tos bs') ms'/\ms'.length<=ms.length+1/\w.heap.size<=w5.heap.size/\(∀i,i<w.heap.size->¬MoB mb vL vM i->w5.heap[i]? =w.heap[i]?)/\(∀i,MoB mb vL' vM' i->MoB mb vL vM i\/w.heap.size<=i)/\Ios w w5):=
  η ⟨m1,m2,Ω r.o.size m3,fun i B h2=>(m4 i (Ψ B r.o.size) h2).trans (r.o.block i B),fun i q=>(m5 i q).imp id fun e=>Ω r.o.size e,(Ios.of_ext r.o).trans m7⟩
 have J:=η (c0.o.same g0);clear d i0;refine hK.out _ _ (M.o _ g0) (fun d=>?_);clear hK K9 m1 m2 m3 m4 m5 m7 g0 j0 n0
 try simp only[Act.put,π,ψ,ω]
 refine q0I 20 d (fun d=>?_)
 try simp only[Act.put,π,ψ,ω]
 refine q0I 21 d (fun d=>?_)
 try simp only[Act.put,π,ψ,ω]
 refine q0I 22 d (fun d=>?_)
 try simp only[Act.put,π,ψ,ω]
 refine q1I (by kernel_rfl) ?_
 try simp only[List.drop_succ_cons,List.drop_zero]
 clear d M;by_cases C:z=0
 case neg=>
  obtain⟨rfl,rfl,rfl⟩:x=0/\y=z/\bs'=bs:=by
   rcases G with⟨_,G,h4,h5⟩|⟨G,_⟩
   ·exact⟨G,h4,h5⟩
   ·exact absurd G C
  have A0:(y==0)=false:=beq_eq_false_iff_ne.2 C;clear G;go_wp2_with fail;go_ret;obtain⟨z1,z2,z3,z4⟩:=HZ.o;rw[z1,z2,z3,z4,κ C,κ C,κ C];obtain⟨n1,n2,n3,n4,n5,n6⟩:=d0.o;exact⟨rfl,_,_,_,n1,n2,n3,fun i B h2 _=>n4 i B h2,n5,n6,J.o⟩
 ·subst C
  obtain⟨rfl,rfl,rfl⟩:x=((q0R bs own).length:Int)/\y=0/\bs'=bs++[⟨own,(q0R bs own).length,[q8I (Q:Int)]⟩]:=by
   rcases G with⟨G,_⟩|⟨_,G,h4,h5⟩
   ·exact absurd rfl G
   ·exact⟨G,h4,h5⟩
  have k5:=Blk.cell J.o 5;have k3:=Blk.cell J.o 3;have f3:=Blk.free J.o 3;have V:=Blk.set J.o 3 (.int .i64 (Q:Int));have k4:=Blk.cell V 4;have f4:=Blk.free V 4;have t0:=η (Blk.set V 4 (.int .i64 ((q0R bs own).length:Int)));have k0:¬MoB mb vL' vM' gv:=fun e=>by
   rcases d0.o.2.2.2.2.1 _ e with B|B
   ·exact m0 B
   ·have:=I.o.lt;omega
  have s0:=η k0;generalize q0R bs own=E at*;clear G V k0;go_wp2_with fail;go_ret;obtain⟨z1,z2,z3,z4⟩:=HZ.o;rw[z1,z2,z3,z4]
  try simp only[if_true]
  obtain⟨n1,n2,n3,n4,n5,n6⟩:=d0.o;have ho: ∀i,i≠gv->((w5.setCell ⟨gv,3,none⟩ (.int .i64 (Q:Int))).setCell ⟨gv,4,none⟩ (.int .i64 (E.length:Int))).heap[i]? =w5.heap[i]? :=fun i q=>(heap_setCell_other _ _ _ _ fun e=>q (by exact e)).trans (heap_setCell_other _ _ _ _ fun e=>q (by exact e))
  exact⟨rfl,_,_,_,n1.same fun i q=>ho i fun e=>s0.o (e▸q),n2,by rw[World.size_setCell,World.size_setCell];exact n3,fun i B h2 h4=>(ho i h4).trans (n4 i B h2),n5,n6,t0.o⟩
end
def apN(bs:List Bt)(str:List UInt8)(L:List Ev):Int×Int:=if q8R bs str (-2) L=0 then(((q0R bs str).length:Int),0) else(0,q8R bs str (-2) L)
def apB(bs:List Bt)(str:List UInt8)(L:List Ev):List Bt:=if q8R bs str (-2) L=0 then bs++[⟨str,(q0R bs str).length,L⟩] else bs
theorem y1D(bs:List Bt)(str:List UInt8)(a:Int)(L:List Ev):(wrB bs str a L).length<=bs.length+1:=by
 unfold wrB;split<;>simp
theorem z9l(bs:List Bt)(str:List UInt8)(L:List Ev):(apB bs str L).length<=bs.length+1:=by
 unfold apB;split<;>simp
theorem z9f{bs:List Bt}(h:okBs bs){str:List UInt8}{a:Int}(q:bs.length<=1000)(d: ∀e∈L,e.we<18446744073709551616):okBs (wrB bs str a L):=by
 unfold wrB;by_cases b:q8R bs str a L=0
 ·rw [ξ b]
  have hc:q0O str 0 L=0:=by
   unfold q8R at b;by_cases hc:q0O str 0 L=0
   ·exact hc
   ·rw[ξ hc] at b;exact absurd b hc
  have l:=q1r bs str;have o:=z0B h;exact okBs_snoc.2 ⟨h,⟨q4P (n:=(q0R bs str).length) hc (by omega),d⟩,rfl⟩
 ·rw[κ b];exact h
theorem y1P{bs:List Bt}(h:okBs bs){str:List UInt8}(d:bs.length<=1000)(b: ∀e∈L,e.we<18446744073709551616):okBs (apB bs str L):=z9f (a:= -2) h d b
section
variable {wb w W W':World}{g gs mb rate u n k:Nat}{sd c:Int}{bs bs2:List Bt}{vL vM:Value}{str:List UInt8}{P D:Bool->Option (Nat×Int)}{X X':Nat->Prop}
end
abbrev Tri :=Int×Int×Int
def InS(S:Nat->Option (Nat×Tri))(i:Nat):Prop:= ∃k s,k<2/\S k=some (i,s)
def ptN :Option (Nat×Tri)->Value
 |none=> .pointer none
 |some (x,_)=> .pointer (some ⟨x,0,none⟩)
def q5M(S:Nat->Option (Nat×Tri))(k:Nat)(v:Option (Nat×Tri)):Nat->Option (Nat×Tri):=fun j=>if j=k then v else S j
theorem q7x(S:Nat->Option (Nat×Tri))(k:Nat)(v:Option (Nat×Tri)):q5M S k v k=v:=ξ rfl
theorem q3A(S:Nat->Option (Nat×Tri)){k:Nat}(v:Option (Nat×Tri))(h:j≠k):q5M S k v j=S j:=κ h
theorem q0X{S:Nat->Option (Nat×Tri)}{k:Nat}{v:Option (Nat×Tri)}{r:Option (Nat×Tri)}(h:q5M S k v j=r):(j=k/\v=r)\/(j≠k/\S j=r):=by
 by_cases e:j=k
 ·subst e;rw[q7x] at h;exact .inl ⟨rfl,h⟩
 ·rw[q3A _ _ e] at h;exact .inr ⟨e,h⟩
theorem InS.of_upd{S:Nat->Option (Nat×Tri)}{k:Nat}{s s':Tri}(h:S k=some (x,s)):InS (q5M S k (some (x,s'))) i↔InS S i:=by
 constructor
 ·rintro⟨j,t,b,d⟩
  rcases q0X d with⟨rfl,e⟩|⟨_,e⟩
  ·cases e;exact⟨_,_,b,h⟩
  ·exact⟨_,_,b,e⟩
 ·rintro⟨j,t,b,d⟩
  by_cases e:j=k
  ·subst e;rw[h] at d;cases d;exact⟨_,_,b,q7x _ _ _⟩
  ·exact⟨j,t,b,by rw[q3A _ _ e];exact d⟩
theorem InS.upd_le{S:Nat->Option (Nat×Tri)}{k:Nat}{v:Option (Nat×Tri)}(h:InS (q5M S k v) i):InS S i\/ ∃s,v=some (i,s):=by
 obtain⟨j,t,b,d⟩:=h;rcases q0X d with⟨rfl,e⟩|⟨_,e⟩
 ·exact .inr ⟨t,e⟩
 ·exact .inl ⟨_,_,b,e⟩
structure TB(wb W:World)(g gs rate:Nat)(sd:Int)(u n:Nat)(bs:List Bt)(mb:Nat)(vL vM:Value)(k:Nat)(bs2:List Bt)(Y:Nat->Prop):Prop where
 sk:SK wb W g gs rate sd 1048576 0 u n bs (fun i=>MoB mb vL vM i\/Y i)
 mo: ∃ms,MoI W mb wb.heap.size vL vM (tos bs2) ms/\ms.length<=k
 ok2:okBs bs2
 few2:bs2.length<=k
 lowM: ∀i,MoB mb vL vM i->wb.heap.size<=i/\¬Y i
section
variable {wb w W W':World}{g gs mb rate u n k:Nat}{sd:Int}{bs bs2:List Bt}{vL vM:Value}{own:List UInt8}{S D:Nat->Option (Nat×Tri)}{X X' Y Y':Nat->Prop}
theorem TB.lt(h:TB wb W g gs rate sd u n bs mb vL vM k bs2 Y)(b:MoB mb vL vM i\/Y i):i<W.heap.size:=h.sk.klt i b
theorem TB.more(h:TB wb W g gs rate sd u n bs mb vL vM k bs2 Y)(e:Ext W W')(l: ∀i,Y' i->Y i\/(W.heap.size<=i/\i<W'.heap.size)):TB wb W' g gs rate sd u n bs mb vL vM k bs2 Y':=by
 obtain⟨ms,hm,o⟩:=h.mo;refine⟨h.sk.more e fun i b=>?_,⟨ms,hm.ext e,o⟩,h.ok2,h.few2,fun i b=>⟨(h.lowM i b).1,fun q=>?_⟩⟩
 ·rcases b with b|b
  ·exact .inl (.inl b)
  ·exact(l i b).imp .inr id
 ·rcases l i q with d|d
  ·exact(h.lowM i b).2 d
  ·have:=h.lt (.inl b);omega
theorem TB.less(h:TB wb W g gs rate sd u n bs mb vL vM k bs2 Y)(b: ∀i,Y' i->Y i):TB wb W g gs rate sd u n bs mb vL vM k bs2 Y':=h.more (Ext.refl _) fun i d=> .inl (b i d)
theorem TB.bd2(h:TB wb w g gs rate sd u n bs mb vL vM k bs2 Y)(l:k<=1000):(tos bs2).length<=8000:=by
 have b:=z0B h.ok2;have d:=h.few2;omega
theorem TB.poke(h:TB wb W g gs rate sd u n bs mb vL vM k bs2 Y)(l:Y x)(o:wb.heap.size<=x)(j:Nat)(v:Value):TB wb (W.setCell ⟨x,j,none⟩ v) g gs rate sd u n bs mb vL vM k bs2 Y:=by
 obtain⟨ms,hm,q⟩:=h.mo;have d: ∀i,i≠x->(W.setCell ⟨x,j,none⟩ v).heap[i]? =W.heap[i]? :=fun i b=>heap_setCell_other W ⟨x,j,none⟩ i v fun e=>b (by exact e)
 exact⟨h.sk.sideM (by rw[World.size_setCell];exact ι _) (Below.setCell h.sk.base o v) (fun i b r=>d i fun e=>r (by rw[e];exact .inr l)) fun i b=> .inl b,
  ⟨ms,hm.same fun i b=>d i fun e=>(h.lowM i b).2 (e▸l),q⟩,h.ok2,h.few2,h.lowM⟩
theorem TB.stored(h:TB wb w g gs rate sd u n bs mb vL vM k bs2 Y)(q:Y x)(d:SK wb W g gs rate sd 1048576 0 u' n' bs' (fun i=>MoB mb vL vM i\/Y i))(o: ∀i,(MoB mb vL vM i\/Y i)->i≠x->W.heap[i]? =w.heap[i]?):TB wb W g gs rate sd u' n' bs' mb vL vM k bs2 Y:=by
 obtain⟨ms,hm,l⟩:=h.mo;exact⟨d,⟨ms,hm.same fun i b=>o i (.inl b) fun e=>(h.lowM i b).2 (e▸q),l⟩,h.ok2,h.few2,h.lowM⟩
theorem TB.modelled(h:TB wb w g gs rate sd u n bs mb vL vM k bs2 Y)(hF: ∀i,F i->Y i/\wb.heap.size<=i)(hm:MoI W mb wb.heap.size vL' vM' (tos bs') ms')(I:ms'.length<=k+1)(y:okBs bs')(o:bs'.length<=k+1)
  (q:w.heap.size<=W.heap.size)(d:Ios w W)(r: ∀i,i<w.heap.size->¬MoB mb vL vM i->¬F i->W.heap[i]? =w.heap[i]?)(B: ∀i,MoB mb vL' vM' i->MoB mb vL vM i\/w.heap.size<=i):
  TB wb W g gs rate sd u n bs mb vL' vM' (k+1) bs' Y/\ ∀i,Y i->¬F i->W.heap[i]? =w.heap[i]? :=by
 have J:Ext wb W:=Below.trans h.sk.base ⟨d.1,d.2.1,d.2.2,q,fun i b=>r i (Ψ b h.sk.base.size) (fun e=>by have:=(h.lowM i e).1;omega) fun e=>by have:=(hF i e).2;omega⟩;refine⟨⟨h.sk.sideM q J (fun i b C=>r i b (fun e=>C (.inl e)) fun e=>C (.inr (hF i e).1)) fun i b=>?_,⟨ms',hm,I⟩,y,o,fun i b=>?_⟩,fun i b G=>?_⟩
 ·rcases b with b|b
  ·rcases B i b with l|l
   ·exact .inl (.inl l)
   ·exact .inr ⟨l,hm.lt b⟩
  ·exact .inl (.inr b)
 ·rcases B i b with l|l
  ·exact h.lowM i l
  ·exact⟨Ω h.sk.base.size l,fun E=>by have:=h.lt (.inr E);omega⟩
 ·exact r i (h.lt (.inr b)) (fun e=>(h.lowM i e).2 b) G
theorem TB.app1(h:TB wb w g gs rate sd u n bs mb vL vM k bs2 Y)(E:n<=86)(l:(u:Int)+8024<=1048576)(str:List UInt8)(G:str.length<=4611686018427387903)(I: ∀W,Stay Y w W->Evs W ao m cap L)(r:q1D L)(o: ∀e∈L,e.we<18446744073709551616):
  Calls Tryz.prog 38 #[.pointer (some ⟨gs,0,none⟩),.string ⟨str.toArray⟩,.int .i64 (-2),.slice ao m cap] w fun e w'=>e= .returned (.tuple #[.int .i64 (apN bs str L).1,.int .i64 (apN bs str L).2])/\TB wb w' g gs rate sd (u+2024) (n+1) (apB bs str L) mb vL vM k bs2 Y/\Stay Y w w':=by
 refine(h.sk.append E str G (-2) (fun W _ J=>I W fun i d=>J i (.inr d)) r o rfl).mono ?_;rintro e w' ⟨x,y,bs',rfl,k1,q,b⟩;have B:x=(apN bs str L).1/\y=(apN bs str L).2/\bs'=apB bs str L:=by
  unfold apN apB;rcases b with⟨b,rfl,rfl,rfl⟩|⟨_,_,_,_,b⟩|⟨b,rfl,rfl,rfl⟩
  ·rw[κ b,κ b];exact⟨rfl,rfl,rfl⟩
  ·omega
  ·rw[ξ b,ξ b];exact⟨rfl,rfl,rfl⟩
 obtain⟨rfl,rfl,rfl⟩:=B;obtain⟨ms,hm,C⟩:=h.mo;exact⟨rfl,⟨k1,⟨ms,hm.same fun i d=>q i (.inl d),C⟩,h.ok2,h.few2,h.lowM⟩,fun i d=>q i (.inr d)⟩
theorem TB.app2(h:TB wb w g gs rate sd u n bs mb vL vM k bs2 Y)(O:k<=1000)(str:List UInt8)(Q:str.length<=4611686018427387903)(U:Evs w ao m cap L)(q: ∀a,ao=some a->Y a.block)(J:q1D L)(l: ∀e∈L,e.we<18446744073709551616):
  Calls Tryz.prog 50 #[.pointer (some ⟨mb,0,none⟩),.string ⟨str.toArray⟩,.int .i64 (-2),.slice ao m cap] w fun e w'=>e= .returned (.tuple #[.int .i64 (apN bs2 str L).1,.int .i64 (apN bs2 str L).2])/\Stay Y w w'/\
   ∃vL' vM',TB wb w' g gs rate sd u n bs mb vL' vM' (k+1) (apB bs2 str L) Y:=by
 obtain⟨ms,hm,hl⟩:=h.mo;have h8:=h.bd2 O;have r:=h.few2;refine(q8j hm h.ok2 (h.lowM mb (.inl rfl)).1 str Q (-2) U (fun a e V M=>(h.lowM _ M).2 (q a e)) J l (by omega) (by omega) rfl).mono ?_;rintro e w' ⟨vL',vM',ms',bs',x,y,rfl,B,Z,d,C,E,G,I⟩;have N:x=(apN bs2 str L).1/\y=(apN bs2 str L).2/\bs'=apB bs2 str L:=by
  unfold apN apB;rcases G with⟨d,rfl,rfl,rfl⟩|⟨d,rfl,rfl,rfl⟩
  ·rw[κ d,κ d];exact⟨rfl,rfl,rfl⟩
  ·rw[ξ d,ξ d];exact⟨rfl,rfl,rfl⟩
 obtain⟨rfl,rfl,rfl⟩:=N;have:=h.modelled (F:=fun _=>False) (fun i o=>o.elim) B (by omega) (y1P h.ok2 (by omega) l) (Ω (z9l _ _ _) (by omega)) d I (fun i a b _=>C i a b) E;exact⟨rfl,fun i o=>this.2 i o id,_,_,this.1⟩
def bdT(s:Tri):Prop:=0<=s.1/\s.1<=1073741824/\0<=s.2.2/\s.2.2<=1073741824
structure TS(wb W:World)(g gs rate:Nat)(sd:Int)(u n:Nat)(bs:List Bt)(mb:Nat)(vL vM:Value)(k:Nat)(bs2:List Bt)(own:List UInt8)(S D:Nat->Option (Nat×Tri))(X:Nat->Prop):Prop where
 tb:TB wb W g gs rate sd u n bs mb vL vM k bs2 (fun i=>InS S i\/InS D i\/X i)
 sI: ∀j x s,j<2->S j=some (x,s)->SubI W x gs [115] own s.1 s.2.1 s.2.2/\bdT s
 dI: ∀j x s,j<2->D j=some (x,s)->RSbI W x mb [115] own s.1 s.2.1 s.2.2/\bdT s
 sA: ∀j x s,j<2->S j=some (x,s)->¬X x/\¬InS D x/\(∀j' s',j'<2->j'≠j->S j'≠some (x,s'))/\wb.heap.size<=x
 dA: ∀j x s,j<2->D j=some (x,s)->¬X x/\(∀j' s',j'<2->j'≠j->D j'≠some (x,s'))/\wb.heap.size<=x
theorem TS.lt(h:TS wb W g gs rate sd u n bs mb vL vM k bs2 own S D X)(b:InS S i\/InS D i\/X i):i<W.heap.size:=h.tb.lt (.inr b)
theorem TS.more(h:TS wb W g gs rate sd u n bs mb vL vM k bs2 own S D X)(e:Ext W W')(y: ∀i,X' i->X i\/(W.heap.size<=i/\i<W'.heap.size)):TS wb W' g gs rate sd u n bs mb vL vM k bs2 own S D X':=by
 have B: ∀i,(InS S i\/InS D i)->¬X i->¬X' i:=fun i l C r=>by
  have:i<W.heap.size:=h.lt (by rcases l with h|h;exact .inl h;exact .inr (.inl h));rcases y i r with h|h
  ·exact C h
  ·omega
 refine⟨h.tb.more e fun i l=>?_,fun j x s b d=>⟨(h.sI j x s b d).1.ext e,(h.sI j x s b d).2⟩,fun j x s b d=>⟨(h.dI j x s b d).1.ext e,(h.dI j x s b d).2⟩,fun j x s b d=>?_,fun j x s b d=>?_⟩
 ·rcases l with l|l|l
  ·exact .inl (.inl l)
  ·exact .inl (.inr (.inl l))
  ·exact(y i l).imp (fun h=> .inr (.inr h)) id
 ·obtain⟨o,q⟩:=h.sA j x s b d
  exact⟨B x (.inl ⟨j,s,b,d⟩) o,q⟩
 ·obtain⟨o,q⟩:=h.dA j x s b d
  exact⟨B x (.inr ⟨j,s,b,d⟩) o,q⟩
theorem TS.grow(h:TS wb W g gs rate sd u n bs mb vL vM k bs2 own S D X)(e:Ext W W'):TS wb W' g gs rate sd u n bs mb vL vM k bs2 own S D X:=h.more e fun i b=> .inl b
theorem TS.kExt(h:TS wb W g gs rate sd u n bs mb vL vM k bs2 own S D X)(e:Ext W W'):Stay X W W':=fun i b=>e.block i (h.lt (.inr (.inr b)))
theorem TS.poke(h:TS wb W g gs rate sd u n bs mb vL vM k bs2 own S D X)(l:X x)(q:wb.heap.size<=x)(j:Nat)(v:Value):TS wb (W.setCell ⟨x,j,none⟩ v) g gs rate sd u n bs mb vL vM k bs2 own S D X:=by
 have o: ∀i,i≠x->(W.setCell ⟨x,j,none⟩ v).heap[i]? =W.heap[i]? :=fun i r=>heap_setCell_other W ⟨x,j,none⟩ i v fun e=>r (by exact e)
 exact⟨h.tb.poke (.inr (.inr l)) q j v,fun a y s b d=>⟨(h.sI a y s b d).1.same (o y fun e=>(h.sA a y s b d).1 (e▸l)),(h.sI a y s b d).2⟩,fun a y s b d=>⟨(h.dI a y s b d).1.same (o y fun e=>(h.dA a y s b d).1 (e▸l)),(h.dI a y s b d).2⟩,h.sA,h.dA⟩
theorem TS.app1(h:TS wb w g gs rate sd u n bs mb vL vM k bs2 own S D X)(B:n<=86)(d:(u:Int)+8024<=1048576)(str:List UInt8)(C:str.length<=4611686018427387903)(E: ∀W,Stay X w W->Evs W ao m cap L)(y:q1D L)(q: ∀e∈L,e.we<18446744073709551616):
  Calls Tryz.prog 38 #[.pointer (some ⟨gs,0,none⟩),.string ⟨str.toArray⟩,.int .i64 (-2),.slice ao m cap] w fun e w'=>e= .returned (.tuple #[.int .i64 (apN bs str L).1,.int .i64 (apN bs str L).2])/\TS wb w' g gs rate sd (u+2024) (n+1) (apB bs str L) mb vL vM k bs2 own S D X/\Stay X w w':=by
 refine(h.tb.app1 B d str C (fun W G=>E W fun i o=>G i (.inr (.inr o))) y q).mono ?_;rintro e w' ⟨rfl,r,l⟩;exact⟨rfl,⟨r,fun j x s a b=>⟨(h.sI j x s a b).1.same (l x (.inl ⟨j,s,a,b⟩)),(h.sI j x s a b).2⟩,fun j x s a b=>⟨(h.dI j x s a b).1.same (l x (.inr (.inl ⟨j,s,a,b⟩))),(h.dI j x s a b).2⟩,h.sA,h.dA⟩,fun i o=>l i (.inr (.inr o))⟩
theorem TS.app2(h:TS wb w g gs rate sd u n bs mb vL vM k bs2 own S D X)(B:k<=1000)(str:List UInt8)(C:str.length<=4611686018427387903)(E:Evs w ao m cap L)(l: ∀a,ao=some a->X a.block)(r:q1D L)(o: ∀e∈L,e.we<18446744073709551616):
  Calls Tryz.prog 50 #[.pointer (some ⟨mb,0,none⟩),.string ⟨str.toArray⟩,.int .i64 (-2),.slice ao m cap] w fun e w'=>e= .returned (.tuple #[.int .i64 (apN bs2 str L).1,.int .i64 (apN bs2 str L).2])/\Stay X w w'/\
   ∃vL' vM',TS wb w' g gs rate sd u n bs mb vL' vM' (k+1) (apB bs2 str L) own S D X:=by
 refine(h.tb.app2 B str C E (fun a e=> .inr (.inr (l a e))) r o).mono ?_;rintro e w' ⟨rfl,d,vL',vM',q⟩;exact⟨rfl,fun i y=>d i (.inr (.inr y)),vL',vM',⟨q,fun j x s a b=>⟨(h.sI j x s a b).1.same (d x (.inl ⟨j,s,a,b⟩)),(h.sI j x s a b).2⟩,fun j x s a b=>⟨(h.dI j x s a b).1.same (d x (.inr (.inl ⟨j,s,a,b⟩))),(h.dI j x s a b).2⟩,h.sA,h.dA⟩⟩
theorem TS.side1(h:TS wb w g gs rate sd u n bs mb vL vM k bs2 own S D X){s s':Tri}(O:j<2)(G:S j=some (x,s))(hk:SK wb W g gs rate sd 1048576 0 u' n' bs' (fun i=>MoB mb vL vM i\/InS S i\/InS D i\/X i))
  (B: ∀i,(MoB mb vL vM i\/InS S i\/InS D i\/X i)->i≠x->W.heap[i]? =w.heap[i]?)(q:SubI W x gs [115] own s'.1 s'.2.1 s'.2.2)(hb:bdT s'):
  TS wb W g gs rate sd u' n' bs' mb vL vM k bs2 own (q5M S j (some (x,s'))) D X/\Stay X w W:=by
 have hx:InS S x:=⟨j,s,O,G⟩
 obtain⟨M,N,C,Q⟩:=h.sA j x s O G;refine⟨⟨(h.tb.stored (.inl hx) hk B).less fun i q=>q.imp (InS.of_upd G).1 id,fun i y t b d=>?_,fun i y t b d=>?_,fun i y t b d=>?_,h.dA⟩,fun i q=>B i (.inr (.inr (.inr q))) fun e=>M (e▸q)⟩
 ·rcases q0X d with⟨rfl,e⟩|⟨o,e⟩
  ·cases e;exact⟨q,hb⟩
  ·exact⟨(h.sI i y t b e).1.same (B y (.inr (.inl ⟨_,_,b,e⟩)) fun l=>C i t b o (by rw[e,l])),(h.sI i y t b e).2⟩
 ·exact⟨(h.dI i y t b d).1.same (B y (.inr (.inr (.inl ⟨_,_,b,d⟩))) fun l=>N ⟨i,t,b,by rw[d,l]⟩),(h.dI i y t b d).2⟩
 ·rcases q0X d with⟨rfl,e⟩|⟨o,e⟩
  ·cases e;exact⟨M,N,fun I J b2 r l=>(by rw[q3A _ _ r] at l;exact C I J b2 r l),Q⟩
  ·obtain⟨U,V,Z,c4⟩:=h.sA i y t b e
   refine⟨U,V,fun I J b2 r l=>?_,c4⟩;rcases q0X l with⟨rfl,E⟩|⟨_,E⟩
   ·cases E;exact C i t b o e
   ·exact Z I J b2 r E
theorem TS.side2(h:TS wb w g gs rate sd u n bs mb vL vM k bs2 own S D X){s s':Tri}(h2:j<2)(E:D j=some (x,s))(hm:MoI W mb wb.heap.size vL' vM' (tos bs') ms')(hl:ms'.length<=k+1)(O:okBs bs')(B:bs'.length<=k+1)
  (Q:w.heap.size<=W.heap.size)(C:Ios w W)(ho: ∀i,i<w.heap.size->¬MoB mb vL vM i->i≠x->W.heap[i]? =w.heap[i]?)(hB: ∀i,MoB mb vL' vM' i->MoB mb vL vM i\/w.heap.size<=i)(r:RSbI W x mb [115] own s'.1 s'.2.1 s'.2.2)(hb:bdT s'):
  TS wb W g gs rate sd u n bs mb vL' vM' (k+1) bs' own S (q5M D j (some (x,s'))) X/\Stay X w W:=by
 have hx:InS D x:=⟨j,s,h2,E⟩
 obtain⟨a1,I,a4⟩:=h.dA j x s h2 E;obtain⟨t1,Z⟩:=h.tb.modelled (F:=fun i=>i=x) (fun i e=>⟨by rw[e];exact .inr (.inl hx),by rw[e];exact a4⟩) hm hl O B Q C (fun i b c d=>ho i b c d) hB;refine⟨⟨t1.less fun i r=>r.imp id fun e=>e.imp (InS.of_upd E).1 id,fun i y t b l=>?_,fun i y t b l=>?_,fun i y t b l=>?_,fun i y t b l=>?_⟩,fun i r=>Z i (.inr (.inr r)) fun e=>a1 (e▸r)⟩
 ·exact⟨(h.sI i y t b l).1.same (Z y (.inl ⟨_,_,b,l⟩) fun o=>(h.sA i y t b l).2.1 (o▸hx)),(h.sI i y t b l).2⟩
 ·rcases q0X l with⟨rfl,e⟩|⟨q,e⟩
  ·cases e;exact⟨r,hb⟩
  ·exact⟨(h.dI i y t b e).1.same (Z y (.inr (.inl ⟨_,_,b,e⟩)) fun o=>I i t b q (by rw[e,o])),(h.dI i y t b e).2⟩
 ·obtain⟨J,c2,M⟩:=h.sA i y t b l
  exact⟨J,fun e=>c2 ((InS.of_upd E).1 e),M⟩
 ·rcases q0X l with⟨rfl,e⟩|⟨q,e⟩
  ·cases e;exact⟨a1,fun U V b2 G o=>(by rw[q3A _ _ G] at o;exact I U V b2 G o),a4⟩
  ·obtain⟨J,M,c4⟩:=h.dA i y t b e
   refine⟨J,fun U V b2 G o=>?_,c4⟩;rcases q0X o with⟨rfl,N⟩|⟨_,N⟩
   ·cases N;exact I i t b q e
   ·exact M U V b2 G N
theorem TS.none1(h:TS wb W g gs rate sd u n bs mb vL vM k bs2 own S D X)(j:Nat):TS wb W g gs rate sd u n bs mb vL vM k bs2 own (q5M S j none) D X:=by
 refine⟨h.tb.less fun i d=>d.imp (fun e=>e.upd_le.resolve_right fun ⟨s,e⟩=>by cases e) id,fun i y t b d=>?_,h.dI,fun i y t b d=>?_,h.dA⟩
 ·rcases q0X d with⟨rfl,e⟩|⟨_,e⟩
  ·cases e
  ·exact h.sI _ _ _ b e
 ·rcases q0X d with⟨rfl,e⟩|⟨_,e⟩
  ·cases e
  ·obtain⟨o,q,r,B⟩:=h.sA _ _ _ b e
   exact⟨o,q,fun G I b2 E C=>(by rcases q0X C with⟨rfl,l⟩|⟨_,l⟩;cases l;exact r G I b2 E l),B⟩
theorem TS.none2(h:TS wb W g gs rate sd u n bs mb vL vM k bs2 own S D X)(j:Nat):TS wb W g gs rate sd u n bs mb vL vM k bs2 own S (q5M D j none) X:=by
 have r: ∀i,InS (q5M D j none) i->InS D i:=fun i e=>e.upd_le.resolve_right fun ⟨s,e⟩=>by cases e
 refine⟨h.tb.less fun i d=>d.imp id fun e=>e.imp (r i) id,h.sI,fun i y t b d=>?_,fun i y t b d=>?_,fun i y t b d=>?_⟩
 ·rcases q0X d with⟨rfl,e⟩|⟨_,e⟩
  ·cases e
  ·exact h.dI _ _ _ b e
 ·obtain⟨l,B,o⟩:=h.sA _ _ _ b d
  exact⟨l,fun e=>B (r _ e),o⟩
 ·rcases q0X d with⟨rfl,e⟩|⟨_,e⟩
  ·cases e
  ·obtain⟨l,o,C⟩:=h.dA _ _ _ b e
   exact⟨l,fun I J b2 G E=>(by rcases q0X E with⟨rfl,q⟩|⟨_,q⟩;cases q;exact o I J b2 G q),C⟩
theorem TS.new1(h:TS wb W g gs rate sd u n bs mb vL vM k bs2 own S D X'){s:Tri}(M:X' x)(r: ∀i,X i->X' i/\i≠x)(U:wb.heap.size<=x)(d:SubI W x gs [115] own s.1 s.2.1 s.2.2)(Z:bdT s):TS wb W g gs rate sd u n bs mb vL vM k bs2 own (q5M S j (some (x,s))) D X:=by
 have o:¬InS S x:=fun ⟨i,t,b,e⟩=>(h.sA i x t b e).1 M
 have J:¬InS D x:=fun ⟨i,t,b,e⟩=>(h.dA i x t b e).1 M
 refine⟨h.tb.less fun i d=>?_,fun i y t b l=>?_,h.dI,fun i y t b l=>?_,fun i y t b l=>?_⟩
 ·rcases d with d|d|d
  ·rcases d.upd_le with d|⟨t,e⟩
   ·exact .inl d
   ·cases e;exact .inr (.inr M)
  ·exact .inr (.inl d)
  ·exact .inr (.inr (r i d).1)
 ·rcases q0X l with⟨rfl,e⟩|⟨_,e⟩
  ·cases e;exact⟨d,Z⟩
  ·exact h.sI _ _ _ b e
 ·rcases q0X l with⟨rfl,e⟩|⟨V,e⟩
  ·cases e
   exact⟨fun e=>(r _ e).2 rfl,J,fun N O b2 I q=>(by rw[q3A _ _ I] at q;exact o ⟨N,O,b2,q⟩),U⟩
  ·obtain⟨B,Q,C,E⟩:=h.sA _ _ _ b e
   refine⟨fun e=>B (r _ e).1,Q,fun N O b2 I q=>?_,E⟩;rcases q0X q with⟨rfl,G⟩|⟨_,G⟩
   ·cases G;exact o ⟨_,_,b,e⟩
   ·exact C N O b2 I G
 ·obtain⟨B,C,E⟩:=h.dA _ _ _ b l
  exact⟨fun e=>B (r _ e).1,C,E⟩
theorem TS.new2(h:TS wb W g gs rate sd u n bs mb vL vM k bs2 own S D X'){s:Tri}(M:X' x)(r: ∀i,X i->X' i/\i≠x)(U:wb.heap.size<=x)(l:RSbI W x mb [115] own s.1 s.2.1 s.2.2)(Z:bdT s):TS wb W g gs rate sd u n bs mb vL vM k bs2 own S (q5M D j (some (x,s))) X:=by
 have J:¬InS S x:=fun ⟨i,t,b,e⟩=>(h.sA i x t b e).1 M
 have o:¬InS D x:=fun ⟨i,t,b,e⟩=>(h.dA i x t b e).1 M
 refine⟨h.tb.less fun i l=>?_,h.sI,fun i y t b d=>?_,fun i y t b d=>?_,fun i y t b d=>?_⟩
 ·rcases l with l|l|l
  ·exact .inl l
  ·rcases l.upd_le with l|⟨t,e⟩
   ·exact .inr (.inl l)
   ·cases e;exact .inr (.inr M)
  ·exact .inr (.inr (r i l).1)
 ·rcases q0X d with⟨rfl,e⟩|⟨_,e⟩
  ·cases e;exact⟨l,Z⟩
  ·exact h.dI _ _ _ b e
 ·obtain⟨B,Q,C,E⟩:=h.sA _ _ _ b d
  refine⟨fun e=>B (r _ e).1,fun e=>?_,C,E⟩;rcases e.upd_le with e|⟨t2,e⟩
  ·exact Q e
  ·cases e;exact J ⟨_,_,b,d⟩
 ·rcases q0X d with⟨rfl,e⟩|⟨V,e⟩
  ·cases e
   exact⟨fun e=>(r _ e).2 rfl,fun N O b2 I q=>(by rw[q3A _ _ I] at q;exact o ⟨N,O,b2,q⟩),U⟩
  ·obtain⟨B,C,E⟩:=h.dA _ _ _ b e
   refine⟨fun e=>B (r _ e).1,fun N O b2 I q=>?_,E⟩;rcases q0X q with⟨rfl,G⟩|⟨_,G⟩
   ·cases G;exact o ⟨_,_,b,e⟩
   ·exact C N O b2 I G
end
def z7H(bs:List Bt)(name:List UInt8):Tri:=(z1I bs name,((q0R bs (126::name)).length:Int)-1,z1I bs name)
def nxT(bs:List Bt)(s:Tri)(k:Int):Tri:=(s.1,s.2.1,s.2.2+((q3h bs [115] s.2.2 k).length:Int))
def akT(bs:List Bt)(own:List UInt8)(s:Tri):Tri:=(z0K bs own s.1 s.2.1 s.2.2,z7c bs own s.1 s.2.1 s.2.2,s.2.2)
def bkT(s:Tri):Tri:=(s.1,s.2.1,s.1)
theorem z7I(bs:List Bt)(name:List UInt8):bdT (z7H bs name):=by
 have h:0<=z1I bs name/\z1I bs name<=1073741824:=by
  unfold z1I
  split
  ·omega
  ·cases hn:q5A (q8O bs (126::name)).da with
   |none=>simp
   |some m=>have:=(numU_iff.1 hn).2;simp;omega
 exact⟨h.1,h.2,h.1,h.2⟩
theorem y1b(bs:List Bt)(t k:Int)(b:0<=t):(q3h bs [115] t k).length<=(q0R bs [115]).length-t.toNat:=by
 unfold q3h
 split
 ·show(q5B _ _ _).length<=_
  unfold q5B;rw[Θ,List.length_drop,q1L];omega
 ·simp
theorem z9Y{bs:List Bt}{s:Tri}(h:bdT s)(q:(tos bs).length<=8000)(k:Int):bdT (nxT bs s k):=by
 obtain⟨b,d,l,o⟩:=h;have:=y1b bs s.2.2 k l;have:=q1r bs [115];refine⟨b,d,?_,?_⟩<;>show _<=_<;>unfold nxT<;>simp only<;>omega
theorem z9R{bs:List Bt}{own:List UInt8}{s:Tri}(h:bdT s):bdT (akT bs own s):=by
 obtain⟨l,o,b,d⟩:=h;have:z0K bs own s.1 s.2.1 s.2.2=s.2.2\/z0K bs own s.1 s.2.1 s.2.2=s.1:=by
  unfold z0K;split
  ·exact .inl rfl
  ·exact .inr rfl
 refine⟨?_,?_,b,d⟩<;>show _<=_<;>unfold akT<;>simp only<;>omega
theorem z9S{s:Tri}(h:bdT s):bdT (bkT s):=⟨h.1,h.2.1,h.1,h.2.1⟩
section
variable {wb w W W':World}{g gs mb rate u n k:Nat}{sd:Int}{bs bs2:List Bt}{vL vM:Value}{own name:List UInt8}{S D:Nat->Option (Nat×Tri)}{X X' Y Y':Nat->Prop}
theorem TS.kept(h:TS wb w g gs rate sd u n bs mb vL vM k bs2 own S D X)(o:SK wb W g gs rate sd 1048576 0 u' n' bs' (fun i=>MoB mb vL vM i\/InS S i\/InS D i\/X i))(d:Stay (fun i=>MoB mb vL vM i\/InS S i\/InS D i\/X i) w W):TS wb W g gs rate sd u' n' bs' mb vL vM k bs2 own S D X:=by
 obtain⟨ms,hm,q⟩:=h.tb.mo;exact⟨⟨o,⟨ms,hm.same fun i l=>d i (.inl l),q⟩,h.tb.ok2,h.tb.few2,h.tb.lowM⟩,fun j x s a b=>⟨(h.sI j x s a b).1.same (d x (.inr (.inl ⟨j,s,a,b⟩))),(h.sI j x s a b).2⟩,fun j x s a b=>⟨(h.dI j x s a b).1.same (d x (.inr (.inr (.inl ⟨j,s,a,b⟩)))),(h.dI j x s a b).2⟩,h.sA,h.dA⟩
theorem TS.wide(h:TS wb W g gs rate sd u n bs mb vL vM k bs2 own S D X)(q:SK wb W g gs rate sd 1048576 0 u n bs (fun i=>(MoB mb vL vM i\/InS S i\/InS D i\/X i)\/F i))(hF: ∀i,F i->¬(MoB mb vL vM i\/InS S i\/InS D i)):TS wb W g gs rate sd u n bs mb vL vM k bs2 own S D (fun i=>X i\/F i):=by
 refine⟨⟨q.beside fun i d=>?_,h.tb.mo,h.tb.ok2,h.tb.few2,fun i d=>⟨(h.tb.lowM i d).1,fun e=>?_⟩⟩,h.sI,h.dI,fun j x s a b=>?_,fun j x s a b=>?_⟩
 ·rcases d with d|d|d|d|d
  ·exact .inl (.inl d)
  ·exact .inl (.inr (.inl d))
  ·exact .inl (.inr (.inr (.inl d)))
  ·exact .inl (.inr (.inr (.inr d)))
  ·exact .inr d
 ·rcases e with e|e|e|e
  ·exact(h.tb.lowM i d).2 (.inl e)
  ·exact(h.tb.lowM i d).2 (.inr (.inl e))
  ·exact(h.tb.lowM i d).2 (.inr (.inr e))
  ·exact hF i e (.inl d)
 ·obtain⟨l,o⟩:=h.sA j x s a b
  exact⟨fun e=>e.elim l fun e=>hF x e (.inr (.inl ⟨j,s,a,b⟩)),o⟩
 ·obtain⟨l,o⟩:=h.dA j x s a b
  exact⟨fun e=>e.elim l fun e=>hF x e (.inr (.inr ⟨j,s,a,b⟩)),o⟩
theorem TS.open1(h:TS wb w g gs rate sd u n bs mb vL vM k bs2 (126::name) S D X)(C:n<=1000)(r:name.length<=4611686018427387903)(E:SbW wb)(j:Nat):
  Calls Tryz.prog 39 #[.pointer (some ⟨gs,0,none⟩),.string ⟨name.toArray⟩,.string ⟨#[115]⟩] w fun e w'=>Stay X w w'/\
   ((q8G bs name [115]≠0/\e= .returned (.tuple #[.pointer none,.int .i64 (q8G bs name [115])])/\TS wb w' g gs rate sd u n bs mb vL vM k bs2 (126::name) (q5M S j none) D X)\/
   (q8G bs name [115]=0/\ ∃x,e= .returned (.tuple #[.pointer (some ⟨x,0,none⟩),.int .i64 0])/\TS wb w' g gs rate sd u n bs mb vL vM k bs2 (126::name) (q5M S j (some (x,z7H bs name))) D X)):=by
 refine(q5o h.tb.sk C name [115] r (by decide) E).mono ?_;rintro e w' ⟨G,l,⟨o,rfl,d⟩|⟨o,x,rfl,b,q,B,d⟩⟩
 ·exact⟨fun i b=>l i (.inr (.inr (.inr b))),.inl ⟨o,rfl,(h.kept d l).none1 j⟩⟩
 ·refine⟨fun i b=>l i (.inr (.inr (.inr b))),.inr ⟨o,x,rfl,?_⟩⟩
  have y:=(h.kept (d.beside fun i b=> .inl b) l).wide (F:=fun i=>i=x) d (fun i e b=>q (by rw[<-e];rcases b with b|b|b;exact .inl b;exact .inr (.inl b);exact .inr (.inr (.inl b))));exact y.new1 (X:=X) (.inr rfl) (fun i b=>⟨.inl b,fun e=>q (by rw[<-e];exact .inr (.inr (.inr b)))⟩) B b (z7I bs name)
theorem TS.open2(h:TS wb w g gs rate sd u n bs mb vL vM k bs2 (126::name) S D X)(y:k<=1000)(q:name.length<=4611686018427387903)(j:Nat):
  Calls Tryz.prog 46 #[.pointer (some ⟨mb,0,none⟩),.string ⟨name.toArray⟩,.string ⟨#[115]⟩] w fun e w'=>Stay X w w'/\
   ((q8G bs2 name [115]≠0/\e= .returned (.tuple #[.pointer none,.int .i64 (q8G bs2 name [115])])/\TS wb w' g gs rate sd u n bs mb vL vM k bs2 (126::name) S (q5M D j none) X)\/
   (q8G bs2 name [115]=0/\ ∃x,e= .returned (.tuple #[.pointer (some ⟨x,0,none⟩),.int .i64 0])/\TS wb w' g gs rate sd u n bs mb vL vM k bs2 (126::name) S (q5M D j (some (x,z7H bs2 name))) X)):=by
 obtain⟨ms,hm,C⟩:=h.tb.mo;have B:=h.tb.bd2 y;refine(z4z hm h.tb.ok2 (by omega) name [115] q (by decide)).mono ?_;rintro e w' ⟨d,⟨l,rfl⟩|⟨l,x,rfl,b,o⟩⟩
 ·exact⟨h.kExt d,.inl ⟨l,rfl,(h.grow d).none2 j⟩⟩
 ·refine⟨h.kExt d,.inr ⟨l,x,rfl,?_⟩⟩
  have r:=h.more (X':=fun i=>X i\/i=x) d fun i e=>e.imp id fun e=>by rw[e];exact⟨o,b.lt⟩
  exact r.new2 (X:=X) (.inr rfl) (fun i b=>⟨.inl b,fun e=>by have:=h.lt (.inr (.inr b));omega⟩) (Ω h.tb.sk.base.size o) b (z7I bs2 name)
theorem TS.next1(h:TS wb w g gs rate sd u n bs mb vL vM k bs2 own S D X)(I:n<=1000){s:Tri}(q:j<2)(o:S j=some (x,s))(c:Int):
  Calls Tryz.prog 40 #[.pointer (some ⟨x,0,none⟩),.int .i64 c] w fun e w'=> ∃r,e= .returned (.tuple #[r,.int .i64 (q1Z [115] s.2.2 c)])/\
   TS wb w' g gs rate sd u n bs mb vL vM k bs2 own (q5M S j (some (x,nxT bs s c))) D (fun i=>X i\/r.ownBlock=some i)/\Stay X w w'/\w'.ownsRow wb.heap.size 69 5 r (q3h bs [115] s.2.2 c).length (q2q (q3h bs [115] s.2.2 c)):=by
 obtain⟨l,y⟩:=h.sI j x s q o;obtain⟨Q,U,V,C⟩:=h.sA j x s q o;have B:=h.tb.sk.few;refine(q5n h.tb.sk I (.inr (.inl ⟨j,s,q,o⟩)) C l (by decide) y.2.2.1 (by have:=y.2.2.2;omega) c).mono ?_;rintro e w' ⟨r,rfl,k1,J,M,N,O⟩;obtain⟨E,G⟩:=h.side1 (s':=nxT bs s c) q o (k1.beside fun i l=> .inl l) (fun i b d=>J i ⟨b,d⟩) O (z9Y y (by omega) c);refine⟨r,rfl,E.wide (F:=fun i=>r.ownBlock=some i) (k1.beside fun i l=>l.imp (fun e=>e.imp id fun e=>e.imp (InS.of_upd o).1 id) id) (fun i e l=>N i (by rcases l with l|l|l;exact .inl l;exact .inr (.inl ((InS.of_upd o).1 l));exact .inr (.inr (.inl l))) e),G,M⟩
theorem TS.next2(h:TS wb w g gs rate sd u n bs mb vL vM k bs2 own S D X)(hk:k<=999){s:Tri}(q:j<2)(o:D j=some (x,s))(c:Int)(hc:c<=9223372036854775807):
  Calls Tryz.prog 47 #[.pointer (some ⟨x,0,none⟩),.int .i64 c] w fun e w'=> ∃r,e= .returned (.tuple #[r,.int .i64 (q1Z [115] s.2.2 c)])/\
   TS wb w' g gs rate sd u n bs mb vL vM (k+1) bs2 own S (q5M D j (some (x,nxT bs2 s c))) (fun i=>X i\/r.ownBlock=some i)/\Stay X w w'/\w'.ownsRow wb.heap.size 69 5 r (q3h bs2 [115] s.2.2 c).length (q2q (q3h bs2 [115] s.2.2 c)):=by
 obtain⟨l,y⟩:=h.dI j x s q o;obtain⟨U,V,Z⟩:=h.dA j x s q o;obtain⟨ms,hm,hl⟩:=h.tb.mo;have I:=h.tb.bd2 (by omega);have C:¬MoB mb vL vM x:=fun e=>(h.tb.lowM x e).2 (.inr (.inl ⟨j,s,q,o⟩))
 refine(z4y hm h.tb.ok2 I l (by decide) y.2.2.1 (by have:=y.2.2.2;omega) c hc).mono ?_;rintro e w' ⟨r,rfl,k1,O,J,E,Q⟩;have B:MoI w' mb wb.heap.size vL vM (tos bs2) ms:=hm.same fun i l=>E i (hm.lt l) fun e=>C (e▸l)
 obtain⟨G,M⟩:=h.side2 (s':=nxT bs2 s c) q o B (by omega) h.tb.ok2 (by have:=h.tb.few2;omega) J O (fun i b _ d=>E i b d) (fun i l=> .inl l) Q (z9Y y I c);refine⟨r,rfl,G.wide (F:=fun i=>r.ownBlock=some i) ?_ (fun i e l=>?_),M,q0r k1 h.tb.sk.base.size⟩
 ·refine h.tb.sk.sideM J G.tb.sk.base (fun i l N=>E i l fun e=>N (by rw[e];exact .inr (.inr (.inl ⟨j,s,q,o⟩)))) fun i l=>?_
  rcases l with l|l
  ·exact .inl (l.imp id fun e=>e.imp id fun e=>e.imp (InS.of_upd o).1 id)
  ·exact .inr (q0U k1 i l)
 ·have h5:=(q0U k1 i e).1
  have h6:i<w.heap.size:=by
   rcases l with l|l|l
   ·exact h.tb.lt (.inl l)
   ·exact h.lt (.inl l)
   ·exact h.lt (.inr (.inl ((InS.of_upd o).1 l)))
  omega
theorem TS.ack1(h:TS wb w g gs rate sd u n bs mb vL vM k bs2 own S D X)(C:n<=86)(l:(u:Int)+8024<=1048576)(E:own.length<=4611686018427387903)(G:SbW wb){s:Tri}(o:j<2)(q:S j=some (x,s)):
  Calls Tryz.prog 41 #[.pointer (some ⟨x,0,none⟩)] w fun e w'=>e= .returned (.int .i64 (q9F bs own s.1 s.2.1 s.2.2))/\
   TS wb w' g gs rate sd (u+2024) (n+1) (z0L bs own s.1 s.2.1 s.2.2) mb vL vM k bs2 own (q5M S j (some (x,akT bs own s))) D X/\Stay X w w':=by
 obtain⟨B,r⟩:=h.sI j x s o q;obtain⟨M,N,O,y⟩:=h.sA j x s o q;refine(z3u h.tb.sk C l (.inr (.inl ⟨j,s,o,q⟩)) y B E r.2.2.1 (by have:=r.2.2.2;omega) (G.ext h.tb.sk.base)).mono ?_;rintro e w' ⟨rfl,k1,I,J⟩;exact⟨rfl,h.side1 (s':=akT bs own s) o q k1 (fun i b d=>I i ⟨b,d⟩) J (z9R r)⟩
theorem z9i{bs:List Bt}(h:okBs bs){own:List UInt8}{a v t:Int}(d:bs.length<=1000):okBs (z0L bs own a v t)/\(z0L bs own a v t).length<=bs.length+1:=by
 unfold z0L
 split
 ·exact⟨h,Nat.le_succ _⟩
 ·have:=z9f h (str:=own) (a:=v) (L:=[q8I t]) d (fun e he=>by rw[List.mem_singleton.1 he];show(0:Nat)<_;omega)
  have b:=y1D bs own v [q8I t];unfold wrB at this b;exact⟨this,b⟩
theorem TS.ack2(h:TS wb w g gs rate sd u n bs mb vL vM k bs2 own S D X)(V:k<=999)(C:own.length<=4611686018427387903){s:Tri}(b:j<2)(d:D j=some (x,s)):
  Calls Tryz.prog 48 #[.pointer (some ⟨x,0,none⟩)] w fun e w'=>e= .returned (.int .i64 (q9F bs2 own s.1 s.2.1 s.2.2))/\Stay X w w'/\
   ∃vL' vM',TS wb w' g gs rate sd u n bs mb vL' vM' (k+1) (z0L bs2 own s.1 s.2.1 s.2.2) own S (q5M D j (some (x,akT bs2 own s))) X:=by
 obtain⟨B,l⟩:=h.dI j x s b d;obtain⟨N,O,Q⟩:=h.dA j x s b d;obtain⟨ms,hm,Z⟩:=h.tb.mo;have U:=h.tb.bd2 (by omega);have q:=h.tb.few2;have o:¬MoB mb vL vM x:=fun e=>(h.tb.lowM x e).2 (.inr (.inl ⟨j,s,b,d⟩))
 refine(z7B hm h.tb.ok2 (h.tb.lowM mb (.inl rfl)).1 B o C l.2.2.1 (by have:=l.2.2.2;omega) (by omega) (by omega)).mono ?_;rintro e w' ⟨rfl,vL',vM',ms',k1,k2,E,G,I,J,M⟩;obtain⟨b1,b2⟩:=z9i h.tb.ok2 (own:=own) (a:=s.1) (v:=s.2.1) (t:=s.2.2) (by omega);obtain⟨r,y⟩:=h.side2 (s':=akT bs2 own s) b d k1 (by omega) b1 (by omega) E J G I M (z9R l);exact⟨rfl,y,vL',vM',r⟩
theorem TS.back1(h:TS wb w g gs rate sd u n bs mb vL vM k bs2 own S D X){s:Tri}(l:j<2)(o:S j=some (x,s)):
  Calls Tryz.prog 49 #[.pointer (some ⟨x,0,none⟩)] w fun e w'=>e= .returned (.tuple #[])/\TS wb w' g gs rate sd u n bs mb vL vM k bs2 own (q5M S j (some (x,bkT s))) D X/\Stay X w w':=by
 obtain⟨q,y⟩:=h.sI j x s l o;obtain⟨B,C,E,r⟩:=h.sA j x s l o;refine(z7J q).mono ?_;rintro e w' ⟨rfl,rfl⟩;exact⟨rfl,h.side1 (s':=bkT s) l o (h.tb.sk.pokeK (x:=x) (.inr (.inl ⟨j,s,l,o⟩)) r 5 _) (fun i b d=>heap_setCell_other _ _ _ _ fun e=>d (by exact e)) (Blk.set q 5 _) (z9S y)⟩
theorem TS.back2(h:TS wb w g gs rate sd u n bs mb vL vM k bs2 own S D X){s:Tri}(l:j<2)(o:D j=some (x,s)):
  TS wb (w.setCell ⟨x,5,none⟩ (.int .i64 s.1)) g gs rate sd u n bs mb vL vM (k+1) bs2 own S (q5M D j (some (x,bkT s))) X/\Stay X w (w.setCell ⟨x,5,none⟩ (.int .i64 s.1)):=by
 obtain⟨b,y⟩:=h.dI j x s l o;obtain⟨ms,hm,B⟩:=h.tb.mo;have q:¬MoB mb vL vM x:=fun e=>(h.tb.lowM x e).2 (.inr (.inl ⟨j,s,l,o⟩))
 have r: ∀i,i≠x->(w.setCell ⟨x,5,none⟩ (.int .i64 s.1)).heap[i]? =w.heap[i]? :=fun i d=>heap_setCell_other _ _ _ _ fun e=>d (by exact e)
 exact h.side2 (s':=bkT s) l o (hm.same fun i b=>r i fun e=>q (e▸b)) (by omega) h.tb.ok2 (by have:=h.tb.few2;omega) (by rw[World.size_setCell];exact ι _) ⟨rfl,rfl,rfl⟩ (fun i _ _ d=>r i d) (fun i b=> .inl b) (Blk.set b 5 _) (z9S y)
end
end
end Go.Proofs.YtfiibpgoplcgkaaGreatDoor
