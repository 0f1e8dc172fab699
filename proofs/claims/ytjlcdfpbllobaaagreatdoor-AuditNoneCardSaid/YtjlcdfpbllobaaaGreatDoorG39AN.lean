/- Walks. -/
import Derived.Test.YtjlcdfpbllobaaaGreatDoorG37AN
import Derived.Test.YtjlcdfpbllobaaaGreatDoorG38AN
set_option linter.unusedVariables false
set_option linter.unusedSimpArgs false
set_option maxRecDepth 100000
set_option maxHeartbeats 12800000
namespace Go.Proofs.YtjlcdfpbllobaaaGreatDoor
variable {W w:World}{B sc n:Nat}{so:Option Addr}
section
open Go.RowKit
abbrev qB :Bt:=⟨[115],0,[evA]⟩
abbrev qT :To:=⟨[115],0,evA⟩
theorem z9i :y0O [] [115] (-1) [evA]=0:=by decide
theorem z9j :tos [qB]=[qT]:=rfl
theorem z9h :q3g [qT]=[[115]]:=rfl
theorem z9d(fa:Option Addr)(fn fc:Nat)(ba:Option Addr)(bn bc:Nat):q3B [qT] [⟨[115],0,fa,fn,fc,[qT],ba,bn,bc,[qT]⟩]=[]:=by
 simp[q3B,q2l,q1u,q9b,q7y,q2I,z6z,q6X,one?,q2N,q8Z]
theorem z9e(fa:Option Addr)(fn fc:Nat)(ba:Option Addr)(bn bc:Nat):q3B [qT] [⟨[115],5,fa,fn,fc,[qT],ba,bn,bc,[qT]⟩]=[⟨4,[115],5⟩]:=by
 simp[q3B,q2l,q1u,q9b,q7y,q2I,z6z,q6X,one?,q2N,q8Z]
theorem z9f :q3B [⟨[115],1,ev0⟩] []=[⟨1,[115],0⟩,⟨2,[115],0⟩]:=by
 simp[q3B,q2l,q1u,q9b,q7y,q2I,z6z,q6X,one?,q2N]
theorem z8I{x:Smm}(Y:W.ownsRow B 43 4 (.slice so 1 sc) 1 (q7r [x]))(s:W.ownsRow B 99 5 (.slice x.fa x.fn x.fc) x.F.length (q1y x.F))(R:W.ownsRow B 99 5 (.slice x.ba x.bn x.bc) x.B.length (q1y x.B))(v:Int):
  ∃g,so=some ⟨g,0,none⟩/\W.cell? ⟨g,1,none⟩=some (.int .i64 x.la)/\W.frozen? ⟨g,1,none⟩=false/\(1:Int)<=(sc:Int)/\B<=g/\(∀(i:Nat) (t:TypeId) (C:Nat) (B':Nat) (u:Value) (D:Nat) (E:List Value),W.ownsRow B' t D u C E->t≠43->u.ownBlock≠some g)/\Sms (W.setCell ⟨g,1,none⟩ (.int .i64 v)) (some ⟨g,0,none⟩) 1 sc [⟨x.nm,v,x.fa,x.fn,x.fc,x.F,x.ba,x.bn,x.bc,x.B⟩]:=by
 have d:Sms W so 1 sc [x]:=by
  obtain⟨ao,cap,J,h1,h2,h3,h4⟩:=(Own.of_row Y).rd
  cases J;exact⟨rfl,h1,h2,h3,h4,fun y r=>by rw[List.mem_singleton.1 r];exact(q1l s).2▸(q1l s).1,fun y r=>by rw[List.mem_singleton.1 r];exact(q1l R).1⟩
 obtain⟨b,off,J,Z,G,c2,c3,_,_⟩:=d.at (i:=0) (by decide);rcases Y.2 with⟨h1,h2⟩|⟨g,cap,I,M,hB,hg,h1,h2,h3,h4⟩
 ·cases h2
 ·cases J
  have eg:b=g:=by injection M with N;injection N with O;injection O
  subst eg;have eo:off=0:=by injection M with N;injection N with O;injection O
  subst eo;have ec:sc=cap:=by injection M
  subst ec;have q:Blk W b 43 I:=hg;have Q: ∀(i:Nat) (t:TypeId) (C:Nat) (B':Nat) (u:Value) (D:Nat) (E:List Value),W.ownsRow B' t D u C E->t≠43->u.ownBlock≠some b:=fun i t C B' u D E ho X=>q.apart ho X
  have l:=q.set 1 (.int .i64 v);have hc: ∀j,j≠1->(W.setCell ⟨b,1,none⟩ (.int .i64 v)).cell? ⟨b,j,none⟩=W.cell? ⟨b,j,none⟩:=fun j o=>by
   rw[l.cell j,q.cell j,Array.getElem?_setIfInBounds_ne (Ne.symm o)]
  have S:(W.setCell ⟨b,1,none⟩ (.int .i64 v)).cell? ⟨b,1,none⟩=some (.int .i64 v):=by
   rw[l.cell 1,Array.getElem?_setIfInBounds_self_of_lt];have:=q.cell 1;rw[show(0+0*4+1)=1 from rfl] at G;rw[G] at this;exact(Array.getElem?_eq_some_iff.1 this.symm).1
  have U:=d.fits;refine⟨b,rfl,G,q.free 1,by omega,hB,Q,⟨rfl,d.fits,d.bound,(fun h=>by cases h),fun j u o=>?_,fun y r=>?_,fun y r=>?_⟩⟩
  ·refine⟨b,0,rfl,?_⟩
   have a0:j<4:=by
    have:=(List.getElem?_eq_some_iff.1 o).1;rw[q7X] at this;simpa using this
   rw[Nat.zero_add];have m:j=0\/j=1\/j=2\/j=3:=by omega
   rcases m with rfl|rfl|rfl|rfl
   ·rw[hc 0 (by decide),<-o];exact Z
   ·rw[S,<-o];rfl
   ·rw[hc 2 (by decide),<-o];exact c2
   ·rw[hc 3 (by decide),<-o];exact c3
  ·rw[List.mem_singleton.1 r]
   have:=q0M s (w':=W.setCell ⟨b,1,none⟩ (.int .i64 v)) fun i V=>Below.heap_setCell _ _ _ _ fun e=>q.apart s (by decide) (V.trans (congrArg some e))
   exact(q1l this).2▸(q1l this).1
  ·rw[List.mem_singleton.1 r]
   have:=q0M R (w':=W.setCell ⟨b,1,none⟩ (.int .i64 v)) fun i V=>Below.heap_setCell _ _ _ _ fun e=>q.apart R (by decide) (V.trans (congrArg some e))
   exact(q1l this).1
theorem q8u : ∀(L:List Fi) (i j:Nat),i<L.length->j<3->(q4K L)[i*3+j]? =(fic (L.getD i fi0))[j]?
 |[],i,j,h,_=>by simp at h
 | k::L,0,j,_,hj=>by
  rw[show q4K (k::L)=fic k++q4K L from rfl,List.getElem?_append_left (by simp[fic];omega)];simp
 | k::L,i+1,j,h,hj=>by
  rw[show q4K (k::L)=fic k++q4K L from rfl,List.getElem?_append_right (by simp[fic];omega),show(i+1)*3+j-(fic k).length=i*3+j from by simp[fic];omega,q8u L i j (by simpa using h) hj];simp
theorem z7W{u vc:Nat}{va:Option Addr}{L:List Fi}(h:w.ownsRow B 38 3 (.slice va u vc) n (q4K L)){i:Nat}(d:i<L.length):
  ∃b off,va=some ⟨b,off,none⟩/\w.cell? ⟨b,off+i*3,none⟩=some (.int .i64 (L.getD i fi0).cd)/\w.cell? ⟨b,off+i*3+1,none⟩=some (.string ⟨(L.getD i fi0).st.toArray⟩)/\w.cell? ⟨b,off+i*3+2,none⟩=some (.int .i64 (L.getD i fi0).at'):=by
 have j:=z6I h;have q:=q8u L i 0 d (by decide);have r:=q8u L i 1 d (by decide);have s:=q8u L i 2 d (by decide);obtain⟨b,off,rfl,o⟩:=j _ _ q;obtain⟨_,_,l,h1⟩:=j _ _ r
 cases l;obtain⟨_,_,m,h2⟩:=j _ _ s
 cases m;exact⟨b,off,rfl,o,h1,h2⟩
abbrev qX(fa:Option Addr)(fc:Nat)(ba:Option Addr)(bc:Nat)(v:Int):Smm:=⟨[115],v,fa,1,fc,[qT],ba,1,bc,[qT]⟩
theorem z6A{b:World}{g v rate u:Nat}{sd c s:Int}{K:Nat->Prop}(h:SK b w g v rate sd c s u n [qB] K)(J:n<=1000):
  Calls Tryz.prog 13 #[.pointer (some ⟨v,0,none⟩)] w fun e w'=> ∃(j:Option Addr) (l:Nat) (so:Option Addr) (sc:Nat) (fa:Option Addr) (fc:Nat) (ba:Option Addr) (bc:Nat),e= .returned (.tuple #[.agg #[.slice j 1 l,.slice so 1 sc],.int .i64 0])/\Ext b w'/\
   w'.ownsRow b.heap.size 99 5 (.slice j 1 l) 1 (q1y [qT])/\w'.ownsRow b.heap.size 43 4 (.slice so 1 sc) 1 (q7r [qX fa fc ba bc 0])/\w'.ownsRow b.heap.size 99 5 (.slice fa 1 fc) 1 (q1y [qT])/\w'.ownsRow b.heap.size 99 5 (.slice ba 1 bc) 1 (q1y [qT]):=by
 refine(y2P h J).mono ?_;rintro e O ⟨j,l,so,sc,A,rfl,M,_,D,N,r,m⟩;rw[z9j] at D m;rw[z9h] at m;have I:A.length=1:=by
  have:=congrArg List.length m;rw[List.length_map] at this;exact this
 obtain⟨x,rfl⟩:=List.length_eq_one_iff.1 I;have i:x.nm=[115]:=by
  have:=congrArg List.head? m
  simpa using this
 obtain⟨_,_,h3,h4,o,q,d⟩:=r.st x (.head _);have C:=r.fo x (.head _);have y:=r.bk x (.head _);obtain⟨nm,la,fa,fn,fc,F,ba,bn,bc,B⟩:=x;simp only at i h3 h4 o q d C y;subst i;have E:(q0b [qB] [115]).length=1:=rfl;have G:q3M [qB] [115]=[qT]:=rfl;rw[E] at h3 h4 o;rw[G] at q d;have d:B=[qT]:=d;have h3:la=0:=by omega
 subst q d h3 h4 o;exact⟨j,l,so,sc,fa,fc,ba,bc,rfl,M.base,D,N,C,y⟩
theorem z5z{fa:Option Addr}{fc:Nat}{ba:Option Addr}{bc:Nat}(l:W.ownsRow B 43 4 (.slice so 1 sc) 1 (q7r [qX fa fc ba bc 0]))(j:W.ownsRow B 99 5 (.slice fa 1 fc) 1 (q1y [qT]))(i:W.ownsRow B 99 5 (.slice ba 1 bc) 1 (q1y [qT])):Sms W so 1 sc [qX fa fc ba bc 0]:=by
 obtain⟨ao,cap,d,h1,h2,h3,h4⟩:=(Own.of_row l).rd
 cases d;exact⟨rfl,h1,h2,h3,h4,fun y b=>by rw[List.mem_singleton.1 b];exact(q1l (L:=[qT]) j).1,fun y b=>by rw[List.mem_singleton.1 b];exact(q1l (L:=[qT]) i).1⟩
theorem z9g(w:World):Calls Tryz.prog 9 #[] w fun e w'=>e= .returned (.bool true)/\Ext w w':=by
 have HO:=η (z4I 0 0 0 w (by decide) (by decide));go_enter Tryz.func9,Tryz.ntmps9;go_wp2_with fail;refine HO.o.mono ?_;rintro e w1 ⟨g,gs,rfl,V⟩;have t0:=q0B w1 (.cells #[.string ⟨#[97]⟩,.string ⟨#[]⟩,.float .f64 0] 97);have l0:=Blk.new w1 97 #[.string ⟨#[97]⟩,.string ⟨#[]⟩,.float .f64 0];have p0:=V.more (K':=fun i=>i=w1.heap.size) t0 fun i hi=> .inr (by rw[ρ];omega)
 have Y:=η (p0.append (by omega) [115] (by decide) (-1) (L:=[evA]) (fun W _ hs=>(by
  have:=(l0.same (hs _ rfl)).evs (L:=[evA]) (k:=1) (by decide) (by decide)
  rwa [Δ (by decide)] at this)) (z8H (by decide)) (by decide) z9i)
 clear V t0 l0 p0 HO;go_wp2_with fail;refine Y.o.mono ?_;rintro e w2 ⟨x,y,A0,rfl,V,_,h3⟩;rcases h3 with⟨h3,_⟩|⟨_,_,_,_,h3⟩|⟨_,rfl,rfl,rfl⟩
 ·exact absurd rfl h3
 ·omega
 rw[List.nil_append,show(⟨[115],(q0b [] [115]).length,[evA]⟩:Bt)=qB from rfl] at V;have c0:=η (z6A (V.beside (K':=noI) fun i hi=>hi.elim) (by omega));clear V Y;go_wp2_with fail;refine c0.o.mono ?_;rintro e w4 ⟨aa,ac,so,sc,fa,fc,ba,bc,rfl,g0,k3,k4,hf,hb⟩;have l:=q0B w4 (.cells #[.slice aa 1 ac,.slice so 1 sc] 25);have b:=Blk.new w4 25 #[.slice aa 1 ac,.slice so 1 sc];obtain⟨W4,h0⟩: ∃W4,w4.alloc (.cells #[.slice aa 1 ac,.slice so 1 sc] 25)=W4:=⟨_,rfl⟩
 rw[h0] at l b;obtain⟨bV,d⟩: ∃bV,w4.heap.size=bV:=⟨_,rfl⟩
 rw[d] at b;have M:=η (q0G k3 l);have J:=η (q0G k4 l);have I:=η (q0G hf l);have C:=η (q0G hb l);have f0:=η (g0.trans l);have Z:=η b;have m:=η d;have D:=η (q4V W4 (q1l (L:=[qT]) M.o).1 (z5z J.o I.o C.o) (fun t r=>by rw[List.mem_singleton.1 r];decide) (fun t r=>by rw[List.mem_singleton.1 r];show [115].length<=9223372036854775807;decide) (by decide) (by decide));rw[z9d] at D;have v0:=q0T d (b.cell 0);have v1:=q0T d (b.cell 1);clear k3 k4 hf hb l b d g0 c0;go_wp2_with fail;refine D.o.mono ?_;rintro e w5 ⟨v,rfl,j,q⟩;have q0:w5.ownsRow W4.heap.size 38 3 v 0 (q4K []):=j;clear j;obtain⟨ra,rc,rfl⟩:=q0E q0;have i0:=f0.o.trans q;have b:=Z.o.ext q;have R:=q0G M.o q;have Q:=q0G J.o q;have n0:=q0G I.o q;have m0:=q0G C.o q;obtain⟨sg,rfl,l1,l2,z0,hB,k0,s0⟩:=z8I (x:=qX fa fc ba bc 0) Q n0 m0 5;have o0:bV≠sg:=fun e=>b.apart Q (by decide) (by rw[e];rfl)
 have j0:Ext w (w5.setCell ⟨sg,1,none⟩ (.int .i64 5)):=Below.setCell i0 hB _;have N:=b.o o0 1 (.int .i64 5);have u:=q0M R (w':=w5.setCell ⟨sg,1,none⟩ (.int .i64 5)) fun i hi=>Below.heap_setCell _ _ _ _ fun e=>k0 0 _ _ _ _ _ _ R (by decide) (hi.trans (congrArg some e))
 have E:=η (q4V (w5.setCell ⟨sg,1,none⟩ (.int .i64 5)) (q1l (L:=[qT]) u).1 s0 (fun t r=>by rw[List.mem_singleton.1 r];decide) (fun t r=>by rw[List.mem_singleton.1 r];show [115].length<=9223372036854775807;decide) (by decide) (by decide));rw[show(⟨(qX fa fc ba bc 0).nm,5,(qX fa fc ba bc 0).fa,(qX fa fc ba bc 0).fn,(qX fa fc ba bc 0).fc,(qX fa fc ba bc 0).F,(qX fa fc ba bc 0).ba,(qX fa fc ba bc 0).bn,(qX fa fc ba bc 0).bc,(qX fa fc ba bc 0).B⟩:Smm)=⟨[115],5,fa,1,fc,[qT],ba,1,bc,[qT]⟩ from rfl,z9e] at E;have u0:=η j0;have v0:=q0T m.o (b.cell 0);have v1:=q0T m.o (b.cell 1);have y0:=q0T m.o (N.cell 0);have y1:=q0T m.o (N.cell 1);have B0:(1:Int)<=(sc:Int):=z0;simp only at l1;clear q0 q i0 b R Q n0 m0 hB k0 s0 o0 j0 N u D M J I C Z f0 h0;go_wp2_with fail;refine E.o.mono ?_;rintro e X ⟨v,rfl,j,q⟩;have O:X.ownsRow (w5.setCell ⟨sg,1,none⟩ (.int .i64 5)).heap.size 38 3 v 1 (q4K [⟨4,[115],5⟩]):=j;clear j;obtain⟨pa,pc,rfl⟩:=q0E O;have U:=q0B X (.cells #[.string ⟨#[115]⟩,.int .i64 1,.string ⟨#[]⟩,.string ⟨#[]⟩,.float .f64 0] 99);have G:=η (q4V (va:=some ⟨X.heap.size,0,none⟩) (vn:=1) (vc:=1) (so:=none) (sn:=0) (sc:=0) (L:=[⟨[115],1,ev0⟩]) (S:=[]) (X.alloc (.cells #[.string ⟨#[115]⟩,.int .i64 1,.string ⟨#[]⟩,.string ⟨#[]⟩,.float .f64 0] 99)) ⟨rfl,ι _,by decide,(fun h=>by cases h),Rd.lit X #[.string ⟨#[115]⟩,.int .i64 1,.string ⟨#[]⟩,.string ⟨#[]⟩,.float .f64 0] 99⟩ (Sms.empty _) (fun t r=>by rw[List.mem_singleton.1 r];decide) (fun t r=>by cases r) (by decide) (by decide));rw[z9f] at G;have e0:=η (q0G O U);have w0:=η ((u0.o.trans q).trans U);clear O q U E v0 v1 y0 y1 l1 l2;go_wp2_with fail;refine G.o.mono ?_;rintro e w7 ⟨v,rfl,j,q⟩;have s:w7.ownsRow (X.alloc (.cells #[.string ⟨#[115]⟩,.int .i64 1,.string ⟨#[]⟩,.string ⟨#[]⟩,.float .f64 0] 99)).heap.size 38 3 v 2 (q4K [⟨1,[115],0⟩,⟨2,[115],0⟩]):=j;clear j;obtain⟨qa,qc,rfl⟩:=q0E s;have r0:=q0G e0.o q;have x0:=η (w0.o.trans q);obtain⟨ab,af,rfl,a0,a1,a2⟩:=z7W r0 (i:=0) (by decide);obtain⟨bb,bf,rfl,b0,b1,b2⟩:=z7W s (i:=0) (by decide);obtain⟨_,_,e1,d0,d1,d2⟩:=z7W s (i:=1) (by decide)
 cases e1;simp only[List.getD_cons_zero,List.getD_cons_succ,Nat.zero_mul,Nat.one_mul,Nat.add_zero] at a0 a1 a2 b0 b1 b2 d0 d1 d2;clear s q r0 G e0;go_wp2_with fail;go_ret;exact⟨rfl,x0.o⟩
theorem y1G(w:World):Calls Tryz.prog 13 #[.pointer none] w fun e w'=>e= .returned (.tuple #[.agg #[.slice none 0 0,.slice none 0 0],.int .i64 1])/\Ext w w':=by
 have d:=q0B w (.cells #[.slice none 0 0,.slice none 0 0] 25);have i:=η d;have b:=Blk.new w 25 #[.slice none 0 0,.slice none 0 0];have j:=η (fun W=>y0t (w:=W) (p:=none) (.inl rfl));have q:=b.cell 0;have r:=b.cell 1;have l:=b.free 0;have m:=b.free 1;clear d b;go_enter Tryz.func13,Tryz.ntmps13;go_wp2_with fail
 go_step3
 go_wp2_with fail;refine(j.o _).mono ?_;rintro e s ⟨rfl,rfl⟩;go_wp2_with fail;rw[Exit.noGoto_ret]
 ((try simp only[Exit.inBlock,Exit.then]);refine bodyPost_ret (v:= .tuple #[.agg #[.slice none 0 0,.slice none 0 0],.int .i64 1]) (by rw[q0U rfl];go_simp) rfl ?_)
 exact⟨rfl,i.o⟩
abbrev nX(nm:List UInt8)(v:Int):Smm:=⟨nm,v,none,0,0,[],none,0,0,[]⟩
theorem y1B :q3B [] []=[]:=rfl
theorem y1C(nm:List UInt8):q3B [] [nX nm (-1)]=[]:=by
 simp[q3B,q2l,q1u,q7y,q2I,q6X,one?,q2N]
theorem y1D(nm:List UInt8):q3B [] [nX nm 0]=[⟨4,nm,0⟩]:=by
 simp[q3B,q2l,q1u,q7y,q2I,q6X,one?,q2N]
theorem z2t(w:World)(nm:List UInt8)(v:Int):Sms (w.alloc (.cells #[.string ⟨nm.toArray⟩,.int .i64 v,.slice none 0 0,.slice none 0 0] 43)) (some ⟨w.heap.size,0,none⟩) 1 1 [nX nm v]:=
 ⟨rfl,ι _,by decide,(fun h=>by cases h),Rd.lit w #[.string ⟨nm.toArray⟩,.int .i64 v,.slice none 0 0,.slice none 0 0] 43,fun y b=>by rw[List.mem_singleton.1 b];exact Tos.empty _,fun y b=>by rw[List.mem_singleton.1 b];exact Tos.empty _⟩
theorem auditnone_c(l:List UInt8)(w:World)(hl:l.length<=9223372036854775807):
  Calls Tryz.prog 4 #[.string ⟨l.toArray⟩] w fun e w'=>e= .returned (.bool true)/\Ext w w':=by
 have HQ:=η z9g;have Z:=η y1G;have O:=η (Ext.refl w);go_enter Tryz.func4,Tryz.ntmps4;by_cases h1:100<l.length
 ·have hd:decide ((100:Int)<(l.length:Int))=true:=ζ (by omega)
  clear h1;go_wp2_with fail;refine(HQ.o _).mono ?_;rintro e w1 ⟨rfl,b⟩;have Q:=η (O.o.trans b);clear b;go_wp2_with fail;go_ret;exact⟨rfl,Q.o⟩
 have hd:decide ((100:Int)<(l.length:Int))=false:=ε (by omega);clear h1;go_wp2_with fail;refine(Z.o _).mono ?_;rintro e w1 ⟨rfl,b⟩;have N:=q0B w1 (.cells #[.slice none 0 0,.slice none 0 0] 25);have j:=Blk.new w1 25 #[.slice none 0 0,.slice none 0 0];have u:=q0B (w1.alloc (.cells #[.slice none 0 0,.slice none 0 0] 25)) (.cells #[.string ⟨l.toArray⟩,.int .i64 (-1),.slice none 0 0,.slice none 0 0] 43);have y:=η (j.ext u);have F:=η ((b.trans N).trans u);have m:=q4V (va:=none) (vn:=0) (vc:=0) (L:=[]) _ (Tos.empty _) (z2t (w1.alloc (.cells #[.slice none 0 0,.slice none 0 0] 25)) l (-1)) (fun t q=>by cases q) (fun t q=>by rw[List.mem_singleton.1 q];exact hl) (by decide) (by decide);rw[y1C,ρ] at m;have Y:=η m;clear b N j u m Z;go_wp2_with fail;refine Y.o.mono ?_;rintro e V ⟨v,rfl,d,b⟩;obtain⟨ra,rc,rfl⟩:=q0E d;have x:=q0B V (.cells #[.string ⟨l.toArray⟩,.int .i64 0,.slice none 0 0,.slice none 0 0] 43);have m:=q4V (va:=none) (vn:=0) (vc:=0) (L:=[]) _ (Tos.empty _) (z2t V l 0) (fun t q=>by cases q) (fun t q=>by rw[List.mem_singleton.1 q];exact hl) (by decide) (by decide);rw[y1D] at m;have C:=η m;have r:=η ((y.o.ext b).ext x);have G:=η ((F.o.trans b).trans x);clear d b x m Y y F;go_wp2_with fail;refine C.o.mono ?_;rintro e X ⟨v,rfl,d,b⟩;have s:X.ownsRow (V.alloc (.cells #[.string ⟨l.toArray⟩,.int .i64 0,.slice none 0 0,.slice none 0 0] 43)).heap.size 38 3 v 1 (q4K [⟨4,l,0⟩]):=d;clear d;obtain⟨pa,pc,rfl⟩:=q0E s;have j:=r.o.ext b;have k0:=j.cell 0;have k1:=j.cell 1;have m:=q4V (va:=none) (vn:=0) (vc:=0) (so:=none) (sn:=0) (sc:=0) (L:=[]) (S:=[]) X (Tos.empty _) (Sms.empty _) (fun t q=>by cases q) (fun t q=>by cases q) (by decide) (by decide);rw[y1B] at m;have D:=η m;have E:=η s;have I:=η (G.o.trans b);clear s j m b C r G;go_wp2_with fail;refine D.o.mono ?_;rintro e w4 ⟨v,rfl,d,b⟩;have J:w4.ownsRow X.heap.size 38 3 v 0 (q4K []):=d;clear d;obtain⟨qa,qc,rfl⟩:=q0E J;have M:=q0G E.o b;obtain⟨ab,af,rfl,a0,a1,a2⟩:=z7W M (i:=0) (show 0<1 by decide);simp only[List.getD_cons_zero,Nat.zero_mul,Nat.add_zero] at a0 a1 a2;have b0:(l==l)=true:=beq_self_eq_true l;have R:=η (I.o.trans b);clear J M b D E I;go_wp2_with fail;refine(HQ.o _).mono ?_;rintro e w5 ⟨rfl,b⟩;have U:=η (R.o.trans b);clear b;go_wp2_with fail;go_ret;exact⟨rfl,U.o⟩
end
end Go.Proofs.YtjlcdfpbllobaaaGreatDoor
