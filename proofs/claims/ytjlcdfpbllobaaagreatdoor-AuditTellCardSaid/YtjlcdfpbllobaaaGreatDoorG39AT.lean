/- Walks. -/
import Derived.Test.YtjlcdfpbllobaaaGreatDoorG37AT
import Derived.Test.YtjlcdfpbllobaaaGreatDoorG38AT
import Derived.Lib.SmallJoins
import Derived.Deep.Strs
set_option linter.unusedVariables false
set_option linter.unusedSimpArgs false
set_option maxRecDepth 100000
set_option maxHeartbeats 12800000
namespace Go.Proofs.YtjlcdfpbllobaaaGreatDoor
variable {W w:World}{B sc n n' vc i fuel cap:Nat}{so va ao:Option Addr}{L:List Fi}{H:Type}
section
open Go.RowKit
abbrev qB :Bt:=⟨[115],0,[evA]⟩
abbrev qT :To:=⟨[115],0,evA⟩
theorem y0J :y0p [] [115] (-1) [evA]=0:=by decide
theorem y0K :tos [qB]=[qT]:=rfl
theorem y0I :q3n [qT]=[[115]]:=rfl
theorem y0F(fa:Option Addr)(fn fc:Nat)(ba:Option Addr)(bn bc:Nat):q2p [qT] [⟨[115],0,fa,fn,fc,[qT],ba,bn,bc,[qT]⟩]=[]:=by
 simp[q2p,q1t,q1G,q6a,q8H,q2B,z7D,q6B,one?,q1Z,q8i]
theorem y0G(fa:Option Addr)(fn fc:Nat)(ba:Option Addr)(bn bc:Nat):q2p [qT] [⟨[115],5,fa,fn,fc,[qT],ba,bn,bc,[qT]⟩]=[⟨4,[115],5⟩]:=by
 simp[q2p,q1t,q1G,q6a,q8H,q2B,z7D,q6B,one?,q1Z,q8i]
theorem y0H :q2p [⟨[115],1,ev0⟩] []=[⟨1,[115],0⟩,⟨2,[115],0⟩]:=by
 simp[q2p,q1t,q1G,q6a,q8H,q2B,z7D,q6B,one?,q1Z]
theorem z8i{x:Smm}(X:W.ownsRow B 43 4 (.slice so 1 sc) 1 (q5r [x]))(s:W.ownsRow B 99 5 (.slice x.fa x.fn x.fc) x.F.length (q1i x.F))(Q:W.ownsRow B 99 5 (.slice x.ba x.bn x.bc) x.B.length (q1i x.B))(v:Int):
  ∃g,so=some ⟨g,0,none⟩/\W.cell? ⟨g,1,none⟩=some (.int .i64 x.la)/\W.frozen? ⟨g,1,none⟩=false/\(1:Int)<=(sc:Int)/\B<=g/\(∀(i:Nat) (t:TypeId) (n':Nat) (B':Nat) (u:Value) (C:Nat) (D:List Value),W.ownsRow B' t C u n' D->t≠43->u.ownBlock≠some g)/\Sms (W.setCell ⟨g,1,none⟩ (.int .i64 v)) (some ⟨g,0,none⟩) 1 sc [⟨x.nm,v,x.fa,x.fn,x.fc,x.F,x.ba,x.bn,x.bc,x.B⟩]:=by
 have d:Sms W so 1 sc [x]:=by
  obtain⟨ao,cap,I,h1,h2,h3,h4⟩:=(Own.of_row X).rd
  cases I;exact⟨rfl,h1,h2,h3,h4,fun y r=>by rw[List.mem_singleton.1 r];exact(q1J s).2▸(q1J s).1,fun y r=>by rw[List.mem_singleton.1 r];exact(q1J Q).1⟩
 obtain⟨b,off,I,Y,E,Z,c3,_,_⟩:=d.at (i:=0) (by decide);rcases X.2 with⟨h1,h2⟩|⟨g,cap,G,J,hB,hg,h1,h2,h3,h4⟩
 ·cases h2
 ·cases I
  have eg:b=g:=by injection J with M;injection M with N;injection N
  subst eg;have eo:off=0:=by injection J with M;injection M with N;injection N
  subst eo;have ec:sc=cap:=by injection J
  subst ec;have q:Blk W b 43 G:=hg;have O: ∀(i:Nat) (t:TypeId) (n':Nat) (B':Nat) (u:Value) (C:Nat) (D:List Value),W.ownsRow B' t C u n' D->t≠43->u.ownBlock≠some b:=fun i t n' B' u C D ho V=>q.apart ho V
  have l:=q.set 1 (.int .i64 v);have hc: ∀j,j≠1->(W.setCell ⟨b,1,none⟩ (.int .i64 v)).cell? ⟨b,j,none⟩=W.cell? ⟨b,j,none⟩:=fun j o=>by
   rw[l.cell j,q.cell j,Array.getElem?_setIfInBounds_ne (Ne.symm o)]
  have R:(W.setCell ⟨b,1,none⟩ (.int .i64 v)).cell? ⟨b,1,none⟩=some (.int .i64 v):=by
   rw[l.cell 1,Array.getElem?_setIfInBounds_self_of_lt];have:=q.cell 1;rw[show(0+0*4+1)=1 from rfl] at E;rw[E] at this;exact(Array.getElem?_eq_some_iff.1 this.symm).1
  have S:=d.fits;refine⟨b,rfl,E,q.free 1,by omega,hB,O,⟨rfl,d.fits,d.bound,(fun h=>by cases h),fun j u o=>?_,fun y r=>?_,fun y r=>?_⟩⟩
  ·refine⟨b,0,rfl,?_⟩
   have a0:j<4:=by
    have:=(List.getElem?_eq_some_iff.1 o).1;rw[q5J] at this;simpa using this
   rw[Nat.zero_add];have m:j=0\/j=1\/j=2\/j=3:=by omega
   rcases m with rfl|rfl|rfl|rfl
   ·rw[hc 0 (by decide),<-o];exact Y
   ·rw[R,<-o];rfl
   ·rw[hc 2 (by decide),<-o];exact Z
   ·rw[hc 3 (by decide),<-o];exact c3
  ·rw[List.mem_singleton.1 r]
   have:=q0K s (w':=W.setCell ⟨b,1,none⟩ (.int .i64 v)) fun i U=>Below.heap_setCell _ _ _ _ fun e=>q.apart s (by decide) (U.trans (congrArg some e))
   exact(q1J this).2▸(q1J this).1
  ·rw[List.mem_singleton.1 r]
   have:=q0K Q (w':=W.setCell ⟨b,1,none⟩ (.int .i64 v)) fun i U=>Below.heap_setCell _ _ _ _ fun e=>q.apart Q (by decide) (U.trans (congrArg some e))
   exact(q1J this).1
theorem q5C : ∀(L:List Fi) (i j:Nat),i<L.length->j<3->(q2i L)[i*3+j]? =(fic (L.getD i fi0))[j]?
 |[],i,j,h,_=>by simp at h
 | k::L,0,j,_,hj=>by
  rw[show q2i (k::L)=fic k++q2i L from rfl,List.getElem?_append_left (by simp[fic];omega)];simp
 | k::L,i+1,j,h,hj=>by
  rw[show q2i (k::L)=fic k++q2i L from rfl,List.getElem?_append_right (by simp[fic];omega),show(i+1)*3+j-(fic k).length=i*3+j from by simp[fic];omega,q5C L i j (by simpa using h) hj];simp
theorem z7s(h:w.ownsRow B 38 3 (.slice va n' vc) n (q2i L))(d:i<L.length):
  ∃b off,va=some ⟨b,off,none⟩/\w.cell? ⟨b,off+i*3,none⟩=some (.int .i64 (L.getD i fi0).cd)/\w.cell? ⟨b,off+i*3+1,none⟩=some (.string ⟨(L.getD i fi0).st.toArray⟩)/\w.cell? ⟨b,off+i*3+2,none⟩=some (.int .i64 (L.getD i fi0).at'):=by
 have j:=z2A h;have q:=q5C L i 0 d (by decide);have r:=q5C L i 1 d (by decide);have s:=q5C L i 2 d (by decide);obtain⟨b,off,rfl,o⟩:=j _ _ q;obtain⟨_,_,l,h1⟩:=j _ _ r
 cases l;obtain⟨_,_,m,h2⟩:=j _ _ s
 cases m;exact⟨b,off,rfl,o,h1,h2⟩
abbrev qX(fa:Option Addr)(fc:Nat)(ba:Option Addr)(bc:Nat)(v:Int):Smm:=⟨[115],v,fa,1,fc,[qT],ba,1,bc,[qT]⟩
theorem z6S{b:World}{g y rate u:Nat}{sd c s:Int}{K:Nat->Prop}(h:SK b w g y rate sd c s u n [qB] K)(M:n<=1000):
  Calls Tryz.prog 13 #[.pointer (some ⟨y,0,none⟩)] w fun e w'=> ∃(l:Option Addr) (m:Nat) (so:Option Addr) (sc:Nat) (fa:Option Addr) (fc:Nat) (ba:Option Addr) (bc:Nat),e= .returned (.tuple #[.agg #[.slice l 1 m,.slice so 1 sc],.int .i64 0])/\Ext b w'/\
   w'.ownsRow b.heap.size 99 5 (.slice l 1 m) 1 (q1i [qT])/\w'.ownsRow b.heap.size 43 4 (.slice so 1 sc) 1 (q5r [qX fa fc ba bc 0])/\w'.ownsRow b.heap.size 99 5 (.slice fa 1 fc) 1 (q1i [qT])/\w'.ownsRow b.heap.size 99 5 (.slice ba 1 bc) 1 (q1i [qT]):=by
 refine(y2m h M).mono ?_;rintro e Q ⟨l,m,so,sc,A,rfl,N,_,E,O,v,o⟩;rw[y0K] at E o;rw[y0I] at o;have J:A.length=1:=by
  have:=congrArg List.length o;rw[List.length_map] at this;exact this
 obtain⟨x,rfl⟩:=List.length_eq_one_iff.1 J;have j:x.nm=[115]:=by
  have:=congrArg List.head? o
  simpa using this
 obtain⟨_,_,h3,h4,q,r,d⟩:=v.st x (.head _);have D:=v.fo x (.head _);have C:=v.bk x (.head _);obtain⟨nm,la,fa,fn,fc,F,ba,bn,bc,B⟩:=x;simp only at j h3 h4 q r d D C;subst j;have G:(q0c [qB] [115]).length=1:=rfl;have I:q3U [qB] [115]=[qT]:=rfl;rw[G] at h3 h4 q;rw[I] at r d;have d:B=[qT]:=d;have h3:la=0:=by omega
 subst r d h3 h4 q;exact⟨l,m,so,sc,fa,fc,ba,bc,rfl,N.base,E,O,D,C⟩
theorem z6R{fa:Option Addr}{fc:Nat}{ba:Option Addr}{bc:Nat}(m:W.ownsRow B 43 4 (.slice so 1 sc) 1 (q5r [qX fa fc ba bc 0]))(l:W.ownsRow B 99 5 (.slice fa 1 fc) 1 (q1i [qT]))(j:W.ownsRow B 99 5 (.slice ba 1 bc) 1 (q1i [qT])):Sms W so 1 sc [qX fa fc ba bc 0]:=by
 obtain⟨ao,cap,d,h1,h2,h3,h4⟩:=(Own.of_row m).rd
 cases d;exact⟨rfl,h1,h2,h3,h4,fun y b=>by rw[List.mem_singleton.1 b];exact(q1J (L:=[qT]) l).1,fun y b=>by rw[List.mem_singleton.1 b];exact(q1J (L:=[qT]) j).1⟩
theorem z6Q(w:World):Calls Tryz.prog 9 #[] w fun e w'=>e= .returned (.bool true)/\Ext w w':=by
 have HO:=η (z4Y 0 0 0 w (by decide) (by decide));go_enter Tryz.func9,Tryz.ntmps9;go_wp2_with fail;refine HO.o.mono ?_;rintro e w1 ⟨g,gs,rfl,V⟩;have t0:=q0B w1 (.cells #[.string ⟨#[97]⟩,.string ⟨#[]⟩,.float .f64 0] 97);have l0:=Blk.new w1 97 #[.string ⟨#[97]⟩,.string ⟨#[]⟩,.float .f64 0];have p0:=V.more (K':=fun i=>i=w1.heap.size) t0 fun i hi=> .inr (by rw[ρ];omega)
 have Y:=η (p0.append (by omega) [115] (by decide) (-1) (L:=[evA]) (fun W _ hs=>(by
  have:=(l0.same (hs _ rfl)).evs (L:=[evA]) (k:=1) (by decide) (by decide)
  rwa [Δ (by decide)] at this)) (z8h (by decide)) (by decide) y0J)
 clear V t0 l0 p0 HO;go_wp2_with fail;refine Y.o.mono ?_;rintro e w2 ⟨x,y,A0,rfl,V,_,h3⟩;rcases h3 with⟨h3,_⟩|⟨_,_,_,_,h3⟩|⟨_,rfl,rfl,rfl⟩
 ·exact absurd rfl h3
 ·omega
 rw[List.nil_append,show(⟨[115],(q0c [] [115]).length,[evA]⟩:Bt)=qB from rfl] at V;have c0:=η (z6S (V.beside (K':=noI) fun i hi=>hi.elim) (by omega));clear V Y;go_wp2_with fail;refine c0.o.mono ?_;rintro e w4 ⟨aa,ac,so,sc,fa,fc,ba,bc,rfl,g0,k3,k4,hf,hb⟩;have l:=q0B w4 (.cells #[.slice aa 1 ac,.slice so 1 sc] 25);have b:=Blk.new w4 25 #[.slice aa 1 ac,.slice so 1 sc];obtain⟨W4,h0⟩: ∃W4,w4.alloc (.cells #[.slice aa 1 ac,.slice so 1 sc] 25)=W4:=⟨_,rfl⟩
 rw[h0] at l b;obtain⟨bV,d⟩: ∃bV,w4.heap.size=bV:=⟨_,rfl⟩
 rw[d] at b;have M:=η (q0F k3 l);have J:=η (q0F k4 l);have I:=η (q0F hf l);have C:=η (q0F hb l);have f0:=η (g0.trans l);have Z:=η b;have m:=η d;have D:=η (q6c W4 (q1J (L:=[qT]) M.o).1 (z6R J.o I.o C.o) (fun t r=>by rw[List.mem_singleton.1 r];decide) (fun t r=>by rw[List.mem_singleton.1 r];show [115].length<=9223372036854775807;decide) (by decide) (by decide));rw[y0F] at D;have v0:=q0M d (b.cell 0);have v1:=q0M d (b.cell 1);clear k3 k4 hf hb l b d g0 c0;go_wp2_with fail;refine D.o.mono ?_;rintro e w5 ⟨v,rfl,j,q⟩;have q0:w5.ownsRow W4.heap.size 38 3 v 0 (q2i []):=j;clear j;obtain⟨ra,rc,rfl⟩:=q0E q0;have i0:=f0.o.trans q;have b:=Z.o.ext q;have R:=q0F M.o q;have Q:=q0F J.o q;have n0:=q0F I.o q;have m0:=q0F C.o q;obtain⟨sg,rfl,l1,l2,z0,hB,k0,s0⟩:=z8i (x:=qX fa fc ba bc 0) Q n0 m0 5;have o0:bV≠sg:=fun e=>b.apart Q (by decide) (by rw[e];rfl)
 have j0:Ext w (w5.setCell ⟨sg,1,none⟩ (.int .i64 5)):=Below.setCell i0 hB _;have N:=b.o o0 1 (.int .i64 5);have u:=q0K R (w':=w5.setCell ⟨sg,1,none⟩ (.int .i64 5)) fun i hi=>Below.heap_setCell _ _ _ _ fun e=>k0 0 _ _ _ _ _ _ R (by decide) (hi.trans (congrArg some e))
 have E:=η (q6c (w5.setCell ⟨sg,1,none⟩ (.int .i64 5)) (q1J (L:=[qT]) u).1 s0 (fun t r=>by rw[List.mem_singleton.1 r];decide) (fun t r=>by rw[List.mem_singleton.1 r];show [115].length<=9223372036854775807;decide) (by decide) (by decide));rw[show(⟨(qX fa fc ba bc 0).nm,5,(qX fa fc ba bc 0).fa,(qX fa fc ba bc 0).fn,(qX fa fc ba bc 0).fc,(qX fa fc ba bc 0).F,(qX fa fc ba bc 0).ba,(qX fa fc ba bc 0).bn,(qX fa fc ba bc 0).bc,(qX fa fc ba bc 0).B⟩:Smm)=⟨[115],5,fa,1,fc,[qT],ba,1,bc,[qT]⟩ from rfl,y0G] at E;have u0:=η j0;have v0:=q0M m.o (b.cell 0);have v1:=q0M m.o (b.cell 1);have y0:=q0M m.o (N.cell 0);have y1:=q0M m.o (N.cell 1);have B0:(1:Int)<=(sc:Int):=z0;simp only at l1;clear q0 q i0 b R Q n0 m0 hB k0 s0 o0 j0 N u D M J I C Z f0 h0;go_wp2_with fail;refine E.o.mono ?_;rintro e X ⟨v,rfl,j,q⟩;have O:X.ownsRow (w5.setCell ⟨sg,1,none⟩ (.int .i64 5)).heap.size 38 3 v 1 (q2i [⟨4,[115],5⟩]):=j;clear j;obtain⟨pa,pc,rfl⟩:=q0E O;have U:=q0B X (.cells #[.string ⟨#[115]⟩,.int .i64 1,.string ⟨#[]⟩,.string ⟨#[]⟩,.float .f64 0] 99);have G:=η (q6c (va:=some ⟨X.heap.size,0,none⟩) (vn:=1) (vc:=1) (so:=none) (sn:=0) (sc:=0) (L:=[⟨[115],1,ev0⟩]) (S:=[]) (X.alloc (.cells #[.string ⟨#[115]⟩,.int .i64 1,.string ⟨#[]⟩,.string ⟨#[]⟩,.float .f64 0] 99)) ⟨rfl,ι _,by decide,(fun h=>by cases h),Rd.lit X #[.string ⟨#[115]⟩,.int .i64 1,.string ⟨#[]⟩,.string ⟨#[]⟩,.float .f64 0] 99⟩ (Sms.empty _) (fun t r=>by rw[List.mem_singleton.1 r];decide) (fun t r=>by cases r) (by decide) (by decide));rw[y0H] at G;have e0:=η (q0F O U);have w0:=η ((u0.o.trans q).trans U);clear O q U E v0 v1 y0 y1 l1 l2;go_wp2_with fail;refine G.o.mono ?_;rintro e w7 ⟨v,rfl,j,q⟩;have s:w7.ownsRow (X.alloc (.cells #[.string ⟨#[115]⟩,.int .i64 1,.string ⟨#[]⟩,.string ⟨#[]⟩,.float .f64 0] 99)).heap.size 38 3 v 2 (q2i [⟨1,[115],0⟩,⟨2,[115],0⟩]):=j;clear j;obtain⟨qa,qc,rfl⟩:=q0E s;have r0:=q0F e0.o q;have x0:=η (w0.o.trans q);obtain⟨ab,af,rfl,a0,a1,a2⟩:=z7s r0 (i:=0) (by decide);obtain⟨bb,bf,rfl,b0,b1,b2⟩:=z7s s (i:=0) (by decide);obtain⟨_,_,e1,d0,d1,d2⟩:=z7s s (i:=1) (by decide)
 cases e1;simp only[List.getD_cons_zero,List.getD_cons_succ,Nat.zero_mul,Nat.one_mul,Nat.add_zero] at a0 a1 a2 b0 b1 b2 d0 d1 d2;clear s q r0 G e0;go_wp2_with fail;go_ret;exact⟨rfl,x0.o⟩
end
section
open Go.RowKit Go.WideShapes Go.ChangeShapes Go.Deep
theorem z2P{enc:TypeId×Value->H}{P:Program}{base:Nat}{d:Nat->Bool}{j:Bool}{t:TypeId}{c:Value}{y:DataW H×List MemPlace}(l:P.underlying t=some (.float .f64))
  (h:DataW.trod enc P w base d j fuel t [c]=some y): ∃b,c= .float .f64 b/\b<18446744073709551616:=by
 cases fuel with
 |zero=>simp[DataW.trod] at h
 | succ n=>
  simp only[DataW.trod,l] at h
  cases c<;>simp at h;rename_i k' b;obtain⟨⟨h1,h2⟩,_⟩:=h;subst h1;exact⟨b,rfl,by simpa [Lit.wf] using h2⟩
structure z9x(x:To):Prop where
 s:x.s.length<=9223372036854775807
 t:x.e.ty.length<=9223372036854775807
 d:x.e.da.length<=9223372036854775807
 v0: -9223372036854775808<=x.v
 v1:x.v<=9223372036854775807
 w:x.e.we<18446744073709551616
structure y1d(x:Smm):Prop where
 s:x.nm.length<=9223372036854775807
 l0: -9223372036854775808<=x.la
 l1:x.la<=9223372036854775807
 F: ∀t∈x.F,z9x t
 B: ∀t∈x.B,z9x t
theorem z9y{enc:TypeId×Value->H}{base:Nat}{m:Bool}{cs:List Value}{y:DataW H×List MemPlace}
  (h:DataW.trod enc Tryz.prog w base (fun _=>true) m fuel 99 cs=some y): ∃x:To,cs=toc x/\z9x x:=by
 obtain⟨V,X,Y,n,_,J,I,h1,h2⟩:=trod_struct3 Tryz.underlying99 h;have hc:Tryz.prog.cellsOf 99=5:=by kernel_rfl
 have hce:Tryz.prog.cellsOf 97=3:=by kernel_rfl
 have l:Tryz.prog.cellsOf 9=1:=by kernel_rfl
 have q:Tryz.prog.cellsOf 3=1:=by kernel_rfl
 have o:Tryz.prog.cellsOf 47=1:=by kernel_rfl
 rw[hc] at J
 match cs,J with
 | [c0,c1,c2,c3,c4],_=>
  simp only[l,q,hce] at I h1 h2;obtain⟨s,u,_,R⟩:=DataW.trod_string Tryz.underlying9 I;obtain⟨M,v,_,r⟩:=DataW.trod_int Tryz.underlying3 h1;obtain⟨Z,z1,z2,U,_,Q,E,F,G⟩:=trod_struct3 Tryz.underlying97 h2;simp only[l,o] at E F G;obtain⟨t,C,_,S⟩:=DataW.trod_string Tryz.underlying9 E;obtain⟨d,D,_,O⟩:=DataW.trod_string Tryz.underlying9 F;simp at u v C D;subst u v C D;obtain⟨b,rfl,N⟩:=z2P Tryz.underlying47 G;have j:=bounds_i64 r;refine⟨⟨s.data.toList,M,⟨t.data.toList,d.data.toList,b⟩⟩,by unfold toc;cases s;cases t;cases d;rfl,?_,?_,?_,j.1,j.2,N⟩
  all_goals
   unfold maxLen at R S O;simp only[Array.length_toList]
   assumption
theorem q9X{enc:TypeId×Value->H}{base:Nat}{v:Bool}{X:Nat}{y:DataW H×List MemPlace}
  (O:DataW.trod enc Tryz.prog w base (fun _=>true) v X 22 [.slice ao n cap]=some y):
  ∃L,Tos w ao n cap L/\ ∀x∈L,z9x x:=by
 have hc:Tryz.prog.cellsOf 99=5:=by kernel_rfl
 rcases open_slice Tryz.underlying22 O with⟨r,_⟩|⟨a,len,S,m,n',D,Pl,r,_,hl,hm,G,_,q⟩
 ·simp only[List.cons.injEq,and_true] at r
  cases r;exact⟨[],⟨rfl,ι _,by omega,fun _=>rfl,Rd.nil _ _⟩,fun x h=>by cases h⟩
 ·simp only[List.cons.injEq,and_true] at r
  cases r;simp only[if_true] at G;subst G;rw[hc] at q;have hk: ∀i,∃k:To,i<n->(∀j,j<5->w.cell? ((a.add (i*5)).add j)=(toc k)[j]?)/\z9x k:=fun i=>by
   by_cases Q:i<n
   ·obtain⟨V,M,ht⟩:=q i (by omega)
    obtain⟨_,Y,J⟩:=World.cells?_some M;obtain⟨k,rfl,R⟩:=z9y ht;exact⟨k,fun _=>⟨J,R⟩⟩
   ·exact⟨to0,fun h=>absurd h Q⟩
  obtain⟨f,N⟩:=Classical.axiomOfChoice hk;have l:((List.range n).map f).length=n:=by simp
  have C: ∀i,i<n->((List.range n).map f).getD i to0=f i:=fun i q=>by
   rw[δ,List.getElem?_map,List.getElem?_range q];rfl
  refine⟨(List.range n).map f,⟨l,hl,by unfold maxLen at hm;omega,(fun h=>by cases h),?_⟩,fun x hx=>?_⟩
  ·intro j u U
   have Z:j<n*5:=by
    have:=(List.getElem?_eq_some_iff.1 U).1
    rwa [q3S,l] at this
   have o:j/5<n:=by omega
   have I:j % 5<5:=Nat.mod_lt _ (by decide);have E:j/5*5+j % 5=j:=by omega
   have F:=q4b ((List.range n).map f) (j/5) (j % 5) (by rw[l];exact o) I;rw[E,C _ o,U] at F;have s:=(N 0 (by omega)).1 0 (by decide);rw[Nat.zero_mul,add_add,Nat.add_zero] at s;obtain⟨b,off,rfl⟩:=z0u s;have d:=(N (j/5) o).1 (j % 5) I;rw[add_add,E,<-F,z2X] at d;exact⟨b,off,rfl,d⟩
  ·obtain⟨i,q,rfl⟩:=List.mem_map.1 hx
   exact(N i (List.mem_range.1 q)).2
theorem z8X{enc:TypeId×Value->H}{base:Nat}{d:Bool}{cs:List Value}{y:DataW H×List MemPlace}
  (h:DataW.trod enc Tryz.prog w base (fun _=>true) d fuel 43 cs=some y): ∃x:Smm,cs=smc x/\Tos w x.fa x.fn x.fc x.F/\Tos w x.ba x.bn x.bc x.B/\y1d x:=by
 obtain⟨Y,n,_,rfl,G,j,l⟩:=DataW.trod_struct Tryz.underlying43 h;have hc:Tryz.prog.cellsOf 43=4:=by kernel_rfl
 have N:Tryz.prog.cellsOf 9=1:=by kernel_rfl
 have O:Tryz.prog.cellsOf 3=1:=by kernel_rfl
 have Q:Tryz.prog.cellsOf 22=1:=by kernel_rfl
 rw[hc] at G
 match cs,G with
 | [x0,x1,x2,x3],_=>
  match Y,j with
  | [y0,y1,y2,y3],_=>
   have E:=l 0 _ rfl;have h1:=l 1 _ rfl;have h2:=l 2 _ rfl;have h3:=l 3 _ rfl;simp[N,O,Q] at E h1 h2 h3;obtain⟨s,u,_,q⟩:=DataW.trod_string Tryz.underlying9 E;obtain⟨I,v,_,r⟩:=DataW.trod_int Tryz.underlying3 h1;obtain⟨J,V,S,C⟩:=Joins.slice_form Tryz.underlying22 h2;obtain⟨M,X,U,D⟩:=Joins.slice_form Tryz.underlying22 h3;simp only[List.cons.injEq,and_true] at u v C D;subst u v C D;obtain⟨F,hF,o⟩:=q9X h2;obtain⟨B,R,m⟩:=q9X h3;have b:=bounds_i64 r;refine⟨⟨s.data.toList,I,J,V,S,F,M,X,U,B⟩,by unfold smc;cases s;rfl,hF,R,⟨?_,b.1,b.2,o,m⟩⟩;unfold maxLen at q;simp only[Array.length_toList]
   assumption
theorem z8Y{enc:TypeId×Value->H}{base:Nat}{v:Bool}{Z:Nat}{y:DataW H×List MemPlace}
  (Q:DataW.trod enc Tryz.prog w base (fun _=>true) v Z 23 [.slice ao n cap]=some y):
  ∃A,Sms w ao n cap A/\ ∀x∈A,y1d x:=by
 have hc:Tryz.prog.cellsOf 43=4:=by kernel_rfl
 rcases open_slice Tryz.underlying23 Q with⟨r,_⟩|⟨a,len,V,m,n',D,Pl,r,_,hl,hm,J,_,o⟩
 ·simp only[List.cons.injEq,and_true] at r
  cases r;exact⟨[],Sms.empty _,fun x h=>by cases h⟩
 ·simp only[List.cons.injEq,and_true] at r
  cases r;simp only[if_true] at J;subst J;rw[hc] at o;have hk: ∀i,∃k:Smm,i<n->(∀j,j<4->w.cell? ((a.add (i*4)).add j)=(smc k)[j]?)/\Tos w k.fa k.fn k.fc k.F/\Tos w k.ba k.bn k.bc k.B/\y1d k:=fun i=>by
   by_cases R:i<n
   ·obtain⟨Y,O,ht⟩:=o i (by omega)
    obtain⟨_,a0,N⟩:=World.cells?_some O;obtain⟨k,rfl,S⟩:=z8X ht;exact⟨k,fun _=>⟨N,S⟩⟩
   ·exact⟨sm0,fun h=>absurd h R⟩
  obtain⟨f,C⟩:=Classical.axiomOfChoice hk;have l:((List.range n).map f).length=n:=by simp
  have E: ∀i,i<n->((List.range n).map f).getD i sm0=f i:=fun i o=>by
   rw[δ,List.getElem?_map,List.getElem?_range o];rfl
  refine⟨(List.range n).map f,⟨l,hl,by unfold maxLen at hm;omega,(fun h=>by cases h),?_,fun x U=>?_,fun x U=>?_⟩,fun x U=>?_⟩
  ·intro j u X
   have b0:j<n*4:=by
    have:=(List.getElem?_eq_some_iff.1 X).1
    rwa [q5J,l] at this
   have q:j/4<n:=by omega
   have M:j % 4<4:=Nat.mod_lt _ (by decide);have G:j/4*4+j % 4=j:=by omega
   have I:=q6D ((List.range n).map f) (j/4) (j % 4) (by rw[l];exact q) M;rw[G,E _ q,X] at I;have s:=(C 0 (by omega)).1 0 (by decide);rw[Nat.zero_mul,add_add,Nat.add_zero] at s;obtain⟨b,off,rfl⟩:=z0u s;have d:=(C (j/4) q).1 (j % 4) M;rw[add_add,G,<-I,z2X] at d;exact⟨b,off,rfl,d⟩
  all_goals
   obtain⟨i,o,rfl⟩:=List.mem_map.1 U
   first
    |exact(C i (List.mem_range.1 o)).2.1
    |exact(C i (List.mem_range.1 o)).2.2.1
    |exact(C i (List.mem_range.1 o)).2.2.2
theorem open_view{enc:TypeId×Value->H}{base:Nat}{b:Bool}{r:Reach}{G:Nat}{v:Value}{d:DataW H}{p:List MemPlace}(O:Value.okWide Tryz.prog w r G 25 v)(h:DataW.Trod enc Tryz.prog w base (fun _=>true) b 25 v d p):
  ∃va vn vc L so sn sc S,v= .agg #[.slice va vn vc,.slice so sn sc]/\Tos w va vn vc L/\(∀t∈L,z9x t)/\Sms w so sn sc S/\ ∀x∈S,y1d x:=by
 obtain⟨cs,rfl,_⟩:=okWide_struct Tryz.underlying25 O;obtain⟨f,y⟩:=h;have e:(Value.agg cs).cells.toList=cs.toList:=by simp[Value.cells]
 rw[e] at y;obtain⟨U,n,_,_,D,j,C⟩:=DataW.trod_struct Tryz.underlying25 y;have hc:Tryz.prog.cellsOf 25=2:=by kernel_rfl
 have I:Tryz.prog.cellsOf 22=1:=by kernel_rfl
 have J:Tryz.prog.cellsOf 23=1:=by kernel_rfl
 rw[hc] at D;obtain⟨l⟩:=cs
 match l,D with
 | [x0,x1],_=>
  match U,j with
  | [y0,y1],_=>
   have m:=C 0 _ rfl;have h1:=C 1 _ rfl;simp[I,J] at m h1;obtain⟨E,l0,Q,s⟩:=Joins.slice_form Tryz.underlying22 m;obtain⟨F,l1,R,u⟩:=Joins.slice_form Tryz.underlying23 h1;simp only[List.cons.injEq,and_true] at s u;subst s u;obtain⟨L,M,o⟩:=q9X m;obtain⟨S,N,q⟩:=z8Y h1;exact⟨E,l0,Q,L,F,l1,R,S,rfl,M,o,N,q⟩
end
section
open Go.RowKit
theorem y1n(h:w.ownsRow B 37 3 (.slice va n' vc) n (q2i L))(d:i<L.length):
  ∃b off,va=some ⟨b,off,none⟩/\w.cell? ⟨b,off+i*3,none⟩=some (.int .i64 (L.getD i fi0).cd)/\w.cell? ⟨b,off+i*3+1,none⟩=some (.string ⟨(L.getD i fi0).st.toArray⟩)/\w.cell? ⟨b,off+i*3+2,none⟩=some (.int .i64 (L.getD i fi0).at'):=by
 have j:=z2A h;have q:=q5C L i 0 d (by decide);have r:=q5C L i 1 d (by decide);have s:=q5C L i 2 d (by decide);obtain⟨b,off,rfl,o⟩:=j _ _ q;obtain⟨_,_,l,h1⟩:=j _ _ r
 cases l;obtain⟨_,_,m,h2⟩:=j _ _ s
 cases m;exact⟨b,off,rfl,o,h1,h2⟩
theorem audittell_c{vn sn:Nat}{L:List To}{S:List Smm}(w:World)(hv:Tos w va vn vc L)(hs:Sms w so sn sc S)(hl: ∀t∈L,z9x t)(hS: ∀x∈S,y1d x):
  Calls Tryz.prog 3 #[.agg #[.slice va vn vc,.slice so sn sc]] w fun e w'=>e= .returned (.bool true)/\Ext w w':=by
 have l:=q0B w (.cells #[.slice va vn vc,.slice so sn sc] 25);have m:=Blk.new w 25 #[.slice va vn vc,.slice so sn sc];obtain⟨g,hg⟩: ∃g,w.heap.size=g:=⟨_,rfl⟩
 have HG:=η hg;rw[hg] at m;obtain⟨O,r0⟩: ∃O,w.alloc (.cells #[.slice va vn vc,.slice so sn sc] 25)=O:=⟨_,rfl⟩
 rw[r0] at l m;have b0:=η l;have HB:=η m;have HV:=η (hv.ext l);have HS:=η (hs.ext l);have y:=η (z5j O (hv.ext l) (hs.ext l));have X:=η hl;have C:=η hS;have k0:=q0M hg (m.cell 0);have k1:=q0M hg (m.cell 1);clear l m hv hs hl hS hg;go_enter Tryz.func3,Tryz.ntmps3;go_wp2_with fail;refine y.o.mono ?_;rintro e M ⟨⟨z,rfl,hz⟩,d⟩;have j:=η d;have N:=η (z6Q M)
 cases z with
 | true=>
  clear hz d k0 k1 y;go_wp2_with fail;refine N.o.mono ?_;rintro e w3 ⟨rfl,d⟩;have r:=η (j.o.trans d);clear d N;go_wp2_with fail;go_ret;exact⟨rfl,b0.o.trans r.o⟩
 | false=>
  obtain⟨hn,hm,m0⟩:=hz rfl;have f0:=η m0;have q:Hd (∀W,Ext M W->(W.cell? ⟨w.heap.size,0,none⟩=some (.slice va vn vc)/\W.cell? ⟨w.heap.size,1,none⟩=some (.slice so sn sc))):=η fun W h=>by
   have hb:=(HB.o.ext j.o).ext h;rw[HG.o];exact⟨hb.cell 0,hb.cell 1⟩
  have HC:=η (fun (W:World) (h:Ext O W)=>q6c W (HV.o.ext h) (HS.o.ext h) (fun t J=>(X.o t J).s) (fun x d=>(C.o x d).s) (by omega) (by omega));have HD:=η (fun (W:World) (h:Ext O W)=>y1k (va:=va) (vn:=vn) (vc:=vc) W (HS.o.ext h) (by omega));have HR:=η (fun (W:World) (h:Ext O W) (da:Option Addr) (dc:Nat) (hd:Sms W da sn dc S)=>z8d W (HV.o.ext h) hd (fun t J=>(X.o t J).w) (fun x d=>⟨fun t J=>((C.o x d).F t J).w,fun t J=>((C.o x d).B t J).w,by have:=f0.o x d;omega,by have:=f0.o x d;omega⟩) (by omega) (by omega));obtain⟨A,hA⟩: ∃A,q2p L S=A:=⟨_,rfl⟩
  rw[hA] at HC HR
  have Q:Hd (A.length<=1000):=η (by
   have h1:=q2z (S.map Smm.nm) L L.length;have h2:=q4d L S S.length;have h3:=HV.o.len;have h4:=HS.o.len
   rw[<-hA];unfold q2p;rw[θ];omega)
  obtain⟨an,D⟩: ∃n,A.length=n:=⟨_,rfl⟩
  have R:=η D;rw[D] at HC HR Q;have u0:=Q.o;clear hz d k0 k1 y m0 N hA D;go_wp2_with fail;refine q1B (fun W:World=>W.cell? ⟨w.heap.size,0,none⟩=some (.slice va vn vc)/\W.cell? ⟨w.heap.size,1,none⟩=some (.slice so sn sc)) 7 (by kernel_rfl) (q.o _ (Ext.refl _).drew) (fun b=>?_);refine q3Q 0 b (fun b=>?_);refine q3Q 2 b (fun b=>?_)
  try simp only[Act.put,π,ψ,ω]
  refine q0O (i:=1) (by kernel_rfl) rfl (fun K hK=>?_)
  go_simp
  go_at_call 10
  refine(HC.o M.drew (j.o.trans (Ext.refl _).drew)).mono ?_;rintro e w3 ⟨v3,rfl,G,d⟩;obtain⟨pa,pc,rfl⟩:=q0E G;have r:Hd (Ext M w3):=η ((Ext.refl M).drew.trans d);have n0:=η G;have V:=η (HD.o w3 (j.o.trans r.o));clear G d b;refine hK.out _ _ (q.o _ r.o) (fun b=>?_);clear hK K
  try simp only[Act.put,π,ψ,ω]
  refine q0O (i:=3) (by kernel_rfl) rfl (fun K hK=>?_)
  go_simp
  go_at_call 12
  refine V.o.mono ?_;rintro e w4 ⟨da,dc,rfl,i0,d⟩;have u:Hd (Ext M w4):=η (r.o.trans d);have o0:=η (q0F n0.o d);have v:=HS.o.ext (j.o.trans u.o);have g0:Sms w4 da sn dc S:=by
   obtain⟨ao,cap,h1,h2,h3,h5,h6⟩:=(Own.of_row i0).rd
   cases h1;exact⟨v.len,h2,h3,h5,h6,v.fo,v.bk⟩
  have U:=η (HR.o w4 (j.o.trans u.o) da dc g0);clear i0 d b V v g0;refine hK.out _ _ (q.o _ u.o) (fun b=>?_);clear hK K
  try simp only[Act.put,π,ψ,ω]
  refine q0O (i:=4) (by kernel_rfl) rfl (fun K hK=>?_)
  go_simp
  go_at_call 11
  refine U.o.mono ?_;rintro e w5 ⟨v5,rfl,I,d⟩;obtain⟨qa,qc,rfl⟩:=q0E I;have d0:Hd (Ext M w5):=η (u.o.trans d);have Y:=η (q0F o0.o d);have Z:=η I;clear I d b U;refine hK.out _ _ (q.o _ d0.o) (fun b=>?_);clear hK K
  try simp only[Act.put,π,ψ,ω]
  refine q0f 5 b (fun b=>?_)
  try simp only[Act.put,π,ψ,ω]
  refine q0f 6 b (fun b=>?_)
  try simp only[Act.put,π,ψ,ω]
  refine q1L (by kernel_rfl) ?_
  try simp only[List.drop_succ_cons,List.drop_zero]
  clear b HC HD HR q;have h0:=(Own.of_row Y.o).rd;have E:=(Own.of_row Z.o).rd;go_wp2_with fail
  go_loopw [5] (fun i W=> ∃k:Nat,k<=an/\i= .int .i64 (k:Int)/\Ext w5 W) (fun i _=>an-(intOf i).toNat)
  case atStart=>exact⟨0,υ _,rfl,Ext.refl _⟩
  case round=>
   obtain⟨k,hk,rfl,d⟩:=hrel;have e0:=η d;by_cases j0:k<an
   ·have hd:decide ((k:Int)<(an:Int))=true:=ζ (by omega)
    have v0:(k:Int)<(an:Int):=by omega
    have q1:IntKind.i64.wrap ((k:Int)+1)=(k:Int)+1:=by rw[ν];omega
    obtain⟨ab,s0,rfl,a0,a1,a2⟩:=z7s (q0F Y.o d) (i:=k) (by rw[R.o];exact j0);obtain⟨bb,t0,rfl,c0,c1,c2⟩:=y1n (q0F Z.o d) (i:=k) (by rw[R.o];exact j0);obtain⟨x,l0⟩: ∃x,A.getD k fi0=x:=⟨_,rfl⟩
    rw[l0] at a0 a1 a2 c0 c1 c2;obtain⟨cd,st,at'⟩:=x;have a0:=q0C a0;have a1:=q0C a1;have a2:=q0C a2;have c0:=q0C c0;have c1:=q0C c1;have c2:=q0C c2;clear l0 d;go_wp2_with fail;refine q0D (by kernel_rfl) (by kernel_rfl) ?_
    repeat (go_big_quiet_step (fail))
    refine wpQuiet_nil ?_;intro w6 hw;have p0:=η (e0.o.trans hw);clear hw a0 a1 a2 c0 c1 c2;go_wp2_with fail
    go_roundw
    case rel=>exact⟨k+1,by omega,by go_num,p0.o⟩
    case measure=>simp[intOf];omega
   ·have e:an=k:=by omega
    subst e;have hd:decide ((an:Int)<(an:Int))=false:=ε (by omega);have N:=η (z6Q wr);clear d h0 E;go_wp2_with fail;refine N.o.mono ?_;rintro e w7 ⟨rfl,d⟩;have q0:=η (d0.o.trans (e0.o.trans d));clear d N;go_wp2_with fail;go_ret;exact⟨rfl,b0.o.trans (j.o.trans q0.o)⟩
end
end Go.Proofs.YtjlcdfpbllobaaaGreatDoor
