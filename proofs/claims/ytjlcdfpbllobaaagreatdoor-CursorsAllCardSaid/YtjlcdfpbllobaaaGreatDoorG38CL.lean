/- Walks. -/
import Derived.Test.YtjlcdfpbllobaaaGreatDoorG11CL
import Derived.Test.YtjlcdfpbllobaaaGreatDoorG37CL
set_option linter.unusedVariables false
set_option linter.unusedSimpArgs false
set_option maxRecDepth 100000
set_option maxHeartbeats 6400000
namespace Go.Proofs.YtjlcdfpbllobaaaGreatDoor
variable {x a:Nat}{v:Value}{T:List To}{X:Cur}{st:List UInt8}{nx ct fr:Int}{dn:Bool}
section
open Go.RowKit
theorem q0j{fn:Func}{a p u v:Tmp}{ty:TypeId}(h:fn.results=#[.tmp a,.cell p ty,.tmp u,.tmp v])(tmps:Array Value)(P:Program)(w:World):
  (results fn tmps).run P w=
   ((asAddr (tmps.getD p undef)).run P w).andThen fun b w₁=>((loadVar ty b).run P w₁).andThen fun x d=> .ok (.tuple #[tmps.getD a undef,x,tmps.getD u undef,tmps.getD v undef]) d:=by
 simp only[results,h];simp[Sem.run_bind,Result.andThen]
theorem q8A(st:List UInt8)(nx:Int)(dn:Bool)(D:st.length<=9223372036854775807)(w:World):Calls Tryz.prog 28 #[.string ⟨st.toArray⟩,.int .i64 nx,.bool dn] w fun e w'=>e= .returned (.tuple #[z9z (if q4F ⟨st,nx,dn⟩=true then⟨st,nx,dn⟩ else z7Q),.int .i64 (if q4F ⟨st,nx,dn⟩=true then 0 else 2)])/\Ext w w':=by
 have y:=η (fun W=>q8B ⟨st,nx,dn⟩ D W);have m:=q4t w (.cells #[.string ⟨#[]⟩,.int .i64 0,.bool false] 86) (.cells #[.string ⟨st.toArray⟩,.int .i64 nx,.bool dn] 86);have q:=q0B (w.alloc (.cells #[.string ⟨#[]⟩,.int .i64 0,.bool false] 86)) (.cells #[.string ⟨st.toArray⟩,.int .i64 nx,.bool dn] 86);have i:=η ((Blk.new w 86 #[.string ⟨#[]⟩,.int .i64 0,.bool false]).ext q);have d:=Blk.new (w.alloc (.cells #[.string ⟨#[]⟩,.int .i64 0,.bool false] 86)) 86 #[.string ⟨st.toArray⟩,.int .i64 nx,.bool dn];rw[ρ] at d;have j:=η d;have C:=η m;obtain⟨z,B⟩: ∃z,q4F ⟨st,nx,dn⟩=z:=⟨_,rfl⟩
 rw[B] at y⊢;clear m q d B;go_enter Tryz.func28,Tryz.ntmps28;go_wp2_with fail;refine(y.o _).mono ?_;rintro e O ⟨rfl,r⟩;have l:=η (C.o.trans r);have b:=i.o.ext r;have k0:=b.cell 0;have k1:=b.cell 1;have I:=b.cell 2;have E:=b.free 0;have F:=b.free 1;have G:=b.free 2;have hc:=j.o.ext r;have J:=hc.cell 0;have M:=hc.cell 1;have N:=hc.cell 2;clear r b hc y i j
 cases z with
 | false=>
  go_wp2_with fail
  ((try simp only[Exit.inBlock,Exit.then]);refine bodyPost_ret (v:= .tuple #[.agg #[.string ⟨#[]⟩,.int .i64 0,.bool false],.int .i64 2]) (by rw[q0J rfl];go_simp) rfl ?_)
  exact⟨rfl,((l.o.setCell (p:=⟨w.heap.size,0,none⟩) (ι _) _).setCell (p:=⟨w.heap.size,1,none⟩) (ι _) _).setCell (p:=⟨w.heap.size,2,none⟩) (ι _) _⟩
 | true=>
  go_wp2_with fail
  ((try simp only[Exit.inBlock,Exit.then]);refine bodyPost_ret (v:= .tuple #[.agg #[.string ⟨st.toArray⟩,.int .i64 nx,.bool dn],.int .i64 0]) (by rw[q0J rfl];go_simp) rfl ?_)
  exact⟨rfl,((l.o.setCell (p:=⟨w.heap.size,0,none⟩) (ι _) _).setCell (p:=⟨w.heap.size,1,none⟩) (ι _) _).setCell (p:=⟨w.heap.size,2,none⟩) (ι _) _⟩
section
variable {wb w W W':World}{g gs rate u n:Nat}{sd c s:Int}{bs:List Bt}{K K':Nat->Prop}
theorem SK.pokeK(h:SK wb W g gs rate sd c s u n bs K)(hK:K x)(d:wb.heap.size<=x)(j:Nat)(v:Value):SK wb (W.setCell ⟨x,j,none⟩ v) g gs rate sd c s u n bs K:=by
 refine h.sideM (by rw[World.size_setCell];exact ι _) (Below.setCell h.base d v) (fun i b l=>?_) fun i b=> .inl b
 exact heap_setCell_other W ⟨x,j,none⟩ i v fun e=>l (by have:i=x:=e;rw[this];exact hK)
def PageR(wb w:World)(g gs rate:Nat)(sd c s:Int)(u n:Nat)(bs:List Bt)(K:Nat->Prop)(T:List To)(X:Cur)(E:Bool)(z:Int)(e:Ending)(w':World):Prop:=
 ∃v,e= .returned (.tuple #[v,z9z X,.bool E,.int .i64 z])/\SK wb w' g gs rate sd c s u n bs (fun i=>K i\/v.ownBlock=some i)/\Stay K w w'/\w'.ownsRow wb.heap.size 99 5 v T.length (q2m T)/\ ∀i,K i->v.ownBlock≠some i
structure PgM(wb w W:World)(g gs rate:Nat)(sd c s:Int)(u n:Nat)(bs:List Bt)(K:Nat->Prop)(a b:Nat)(v:Value)(T:List To):Prop where
 sk:SK wb W g gs rate sd c s u n bs (fun i=>(K i\/i=a\/i=b)\/v.ownBlock=some i)
 st:Stay K w W
 row:W.ownsRow wb.heap.size 99 5 v T.length (q2m T)
 ap: ∀i,(K i\/i=a\/i=b)->v.ownBlock≠some i
 lo:wb.heap.size<=w.heap.size/\w.heap.size<=a/\w.heap.size<=b
 kl: ∀i,K i->i<w.heap.size
theorem PgM.poke{b:Nat}(h:PgM wb w W g gs rate sd c s u n bs K a b v T)(d:x=a\/x=b)(j:Nat)(y:Value):PgM wb w (W.setCell ⟨x,j,none⟩ y) g gs rate sd c s u n bs K a b v T:=by
 have m:w.heap.size<=x:=by have:=h.lo;rcases d with rfl|rfl<;>omega
 refine⟨h.sk.pokeK (.inl (.inr d)) (by have:=h.lo;omega) j y,fun i l=>?_,q0f h.row (a:=⟨x,j,none⟩) y (h.ap x (.inr d)),h.ap,h.lo,h.kl⟩;rw[heap_setCell_other W ⟨x,j,none⟩ i y (fun e=>by have o:i=x:=e;have:=h.kl i l;omega)];exact h.st i l
theorem PgM.done{b:Nat}(h:PgM wb w W g gs rate sd c s u n bs K a b v T)(X:Cur)(E:Bool)(z:Int):PageR wb w g gs rate sd c s u n bs K T X E z (.returned (.tuple #[v,z9z X,.bool E,.int .i64 z])) W:=
 ⟨v,rfl,h.sk.beside fun i d=>d.imp .inl id,h.st,h.row,fun i d=>h.ap i (.inl d)⟩
theorem PageR.drewW{E:Bool}{z:Int}{e:Ending}(h:PageR wb w g gs rate sd c s u n bs K T X E z e W):PageR wb w g gs rate sd c s u n bs K T X E z e W.drew:=by
 obtain⟨v,rfl,b,d,i,j⟩:=h;exact⟨v,rfl,b.grow (Ext.refl _).drew,d,i,j⟩
theorem PgM.of{b:Nat}(h:SK wb w g gs rate sd c s u n bs K){w1:World}(m:Ext w w1)(j:w.heap.size<=a)(l:w.heap.size<=b)
  (k1:SK wb W g gs rate sd c s u n bs (fun i=>(K i\/i=a\/i=b)\/v.ownBlock=some i))(o:Stay (fun i=>K i\/i=a\/i=b) w1 W)(q:W.ownsRow wb.heap.size 99 5 v T.length (q2m T))(r: ∀i,(K i\/i=a\/i=b)->v.ownBlock≠some i):PgM wb w W g gs rate sd c s u n bs K a b v T:=
 ⟨k1,fun i d=>(o i (.inl d)).trans (m.block i (h.klt i d)),q,r,⟨h.base.size,j,l⟩,h.klt⟩
theorem q9M(hm:q4F ⟨st,nx,dn⟩=true)(b:0<=nx)(d:1<=ct):q3T st nx ct=0:=by
 unfold q3T;refine κ ?_;have:=(q4f hm).1;rintro(h|h|h)
 ·simp only at this;rw[this] at h;cases h
 ·omega
 ·omega
theorem y2y{bs:List Bt}:(z2c bs st fr ct).length<=(q0c bs st).length:=by
 unfold z2c z0Y
 split
 ·rw[Θ,List.length_drop,q2D];omega
 ·simp
theorem y0P(h:SK wb w g gs rate sd c s u n bs K)(hn:n<=1000)(st:List UInt8)(nx ct:Int)(hm:q4F ⟨st,nx,false⟩=true)(h1:1<=ct)(h2:ct<=9223372036854775807):
  Calls Tryz.prog 66 #[.agg #[.string ⟨st.toArray⟩,.int .i64 nx,.bool false],.pointer (some ⟨gs,0,none⟩),.int .i64 ct] w
   (PageR wb w g gs rate sd c s u n bs K (z2c bs st nx ct) ⟨st,nx+((z2c bs st nx ct).length:Int),false⟩ (decide (((z2c bs st nx ct).length:Int)<ct)) 0):=by
 obtain⟨_,d,U⟩:=q4f hm;simp only at d U;have Z:=z1R hm;simp only at Z;have h0:0<=nx:=by have:=(q3E st nx false).1 hm;rcases this.2.2 with h|⟨h,_⟩;exact h;cases h
 have G:=q9M hm h0 h1;have q:=q4t w (.cells #[.string ⟨st.toArray⟩,.int .i64 nx,.bool false] 86) (.cells #[.string ⟨#[]⟩,.int .i64 0,.bool false] 86);have I:=q0B (w.alloc (.cells #[.string ⟨st.toArray⟩,.int .i64 nx,.bool false] 86)) (.cells #[.string ⟨#[]⟩,.int .i64 0,.bool false] 86);have F:=h.more (K':=fun i=>K i\/i=w.heap.size\/i=w.heap.size+1) q fun i J=>by
  rcases J with J|J
  ·exact .inl J
  ·exact .inr (by simp;omega)
 have O:=η (F.forward hn st (by omega) nx ct (by omega) (by omega));rw[G] at O;have r:=η ((Blk.new w 86 #[.string ⟨st.toArray⟩,.int .i64 nx,.bool false]).ext I);have d:=Blk.new (w.alloc (.cells #[.string ⟨st.toArray⟩,.int .i64 nx,.bool false] 86)) 86 #[.string ⟨#[]⟩,.int .i64 0,.bool false];rw[ρ] at d;have y:=η d;have HX:=η q;have HK:=η h;have Y:=y2y (bs:=bs) (st:=st) (fr:=nx) (ct:=ct);have E:=h.few;have V:=q3c bs st;have S:(z2c bs st nx ct).length<=8000:=by omega
 generalize z2c bs st nx ct=T at*;obtain⟨N,R⟩: ∃N,T.length=N:=⟨_,rfl⟩
 have HN:=η R;rw[R] at S⊢;have q1:IntKind.i64.wrap (nx+(N:Int))=nx+(N:Int):=by rw[ν];omega
 clear q I F h G d Y E V hm R;go_enter Tryz.func66,Tryz.ntmps66;go_wp2_with fail;refine O.o.mono ?_;rintro e w3 ⟨v,rfl,k1,M,k3,k4⟩;obtain⟨va,vc,rfl⟩:=q0F k3;have HM:=η (PgM.of HK.o HX.o (ι _) (Nat.le_succ _) k1 M k3 k4);have l:=r.o.same (M w.heap.size (.inr (.inl rfl)));have d:=y.o.same (M (w.heap.size+1) (.inr (.inr rfl)));have j0:=l.cell 0;have j1:=l.cell 1;have j2:=l.cell 2;have g1:=l.free 1;have l0:=d.cell 0;have l1:=d.cell 1;have l2:=d.cell 2;have f0:=d.free 0;have f1:=d.free 1;have f2:=d.free 2;have B:=η (HM.o.poke (.inl rfl) 1 (.int .i64 (nx+(N:Int))));have C:=l.set 1 (.int .i64 (nx+(N:Int)));have D:=d.o (i:=w.heap.size) (by omega) 1 (.int .i64 (nx+(N:Int)));have m:=η C;have j:=η D;rw[HN.o] at HM B⊢;clear k1 M k3 k4 l d O r y C D;go_wp2_with fail;have m0:=m.o.cell 0;have m1:=m.o.cell 1;have m2:=m.o.cell 2;have n0:=j.o.cell 0;have n1:=j.o.cell 1;have n2:=j.o.cell 2;have y0:=j.o.free 0;have y1:=j.o.free 1;have y2:=j.o.free 2;clear j0 j1 j2 l0 l1 l2 f0 f1 f2;refine q1U (fun W:World=>W.cell? ⟨w.heap.size,0,none⟩=some (.string ⟨st.toArray⟩)/\W.cell? ⟨w.heap.size,1,none⟩=some (.int .i64 (nx+(N:Int)))/\W.cell? ⟨w.heap.size,2,none⟩=some (.bool false)) 8 (by kernel_rfl) ⟨m0,m1,m2⟩ (fun b=>?_);refine q0r 0 b (fun b=>?_);refine q4l 1 b (fun b=>?_);refine q0r 2 b (fun b=>?_);refine q0r 3 b (fun b=>?_);refine q0r 4 b (fun b=>?_);refine q0r 5 b (fun b=>?_);refine q0r 6 b (fun b=>?_);simp only[Act.put,π,ψ,ω];refine q0k (i:=7) (by kernel_rfl) rfl (fun K hK=>?_)
 go_simp
 refine hK.out _ _ ⟨?_,?_,?_⟩ (fun b=>?_)
 ·go_simp
 ·go_simp
 ·go_simp
 clear hK K
 try simp only[Act.put,π,ψ,ω]
 refine q1i (by kernel_rfl) ?_
 try simp only[List.drop_succ_cons,List.drop_zero]
 clear b;go_wp2_with fail;have Q:=η ((((B.o.poke (.inr rfl) 0 (.string ⟨st.toArray⟩)).poke (.inr rfl) 1 (.int .i64 (nx+(N:Int)))).poke (.inr rfl) 2 (.bool false)).done ⟨st,nx+(N:Int),false⟩ (decide ((N:Int)<ct)) 0)
 ((try simp only[Exit.inBlock,Exit.then]);refine bodyPost_ret (v:= .tuple #[.slice va N vc,.agg #[.string ⟨st.toArray⟩,.int .i64 (nx+(N:Int)),.bool false],.bool (decide ((N:Int)<ct)),.int .i64 0]) (by rw[q0j rfl];go_simp) rfl ?_)
 exact Q.o.drewW
end
def z1B(bs:List Bt)(st:List UInt8)(M ct:Int):List To:=if M<0 then [] else z7P bs st M ct
theorem y2k{bs:List Bt}:(z7P bs st fr ct).length<=(q0c bs st).length:=by
 unfold z7P z0X
 split
 ·rw[List.length_reverse,Θ,List.length_drop,q2D];omega
 ·simp
theorem y3I{bs:List Bt}(hm:q4F ⟨st,nx,dn⟩=true):z1O bs st=(((q0c bs st).length:Int)-1,0):=by
 unfold z1O;exact ξ (q4f hm).1
section
variable {wb w W W':World}{g gs rate u n:Nat}{sd c s:Int}{bs:List Bt}{K K':Nat->Prop}
theorem PageR.cast{d:List To}{X':Cur}{E b:Bool}{z:Int}{e:Ending}(h:PageR wb w g gs rate sd c s u n bs K T X E z e W)(i:T=d)(j:X=X')(l:E=b):PageR wb w g gs rate sd c s u n bs K d X' b z e W:=by subst i j l;exact h
theorem y2m(h:SK wb w g gs rate sd c s u n bs K)(hn:n<=1000)(st:List UInt8)(nx ct:Int)(hm:q4F ⟨st,nx,true⟩=true)(h1:1<=ct)(h2:ct<=9223372036854775807){M:Int}(hM:min nx (((q0c bs st).length:Int)-1)=M):
  Calls Tryz.prog 65 #[.agg #[.string ⟨st.toArray⟩,.int .i64 nx,.bool true],.pointer (some ⟨gs,0,none⟩),.int .i64 ct] w
   (PageR wb w g gs rate sd c s u n bs K (z1B bs st M ct) ⟨st,M-((z1B bs st M ct).length:Int),true⟩ (decide (M-((z1B bs st M ct).length:Int)<0)) 0):=by
 obtain⟨_,q,k0⟩:=q4f hm;simp only at q k0;have p0:=z1R hm;simp only at p0;have R:=q4t w (.cells #[.string ⟨st.toArray⟩,.int .i64 nx,.bool true] 86) (.cells #[.string ⟨#[]⟩,.int .i64 0,.bool false] 86);have f0:=q0B (w.alloc (.cells #[.string ⟨st.toArray⟩,.int .i64 nx,.bool true] 86)) (.cells #[.string ⟨#[]⟩,.int .i64 0,.bool false] 86);have d0:=h.more (K':=fun i=>K i\/i=w.heap.size\/i=w.heap.size+1) R fun i l=>by
  rcases l with l|l
  ·exact .inl l
  ·exact .inr (by simp;omega)
 have F:=η (d0.last hn st (by omega) (y3I hm));have g0:Hd (0<=M->q3T st M ct=0):=η fun h0=>q9M (dn:=true) (nx:=M) ((q3E _ _ _).2 ⟨(q4f hm).1,by omega,.inl h0⟩) h0 h1
 have S:=η ((Blk.new w 86 #[.string ⟨st.toArray⟩,.int .i64 nx,.bool true]).ext f0);have B:=Blk.new (w.alloc (.cells #[.string ⟨st.toArray⟩,.int .i64 nx,.bool true] 86)) 86 #[.string ⟨#[]⟩,.int .i64 0,.bool false];rw[ρ] at B;have U:=η B;have HX:=η R;have V:=η h;have o0:=y2k (bs:=bs) (st:=st) (fr:=M) (ct:=ct);have c0:=h.few;have l0:=q3c bs st;have i0:(z7P bs st M ct).length<=8000:=by omega
 obtain⟨L,hL⟩: ∃L:Int,((q0c bs st).length:Int)-1=L:=⟨_,rfl⟩
 rw[hL] at F hM;have J: -1<=M/\M<=1073741824:=by omega
 have q0:=J.1;have r0:=J.2;clear R f0 d0 h B o0 c0 l0 hL J;go_enter Tryz.func65,Tryz.ntmps65;go_wp2_with fail;refine F.o.mono ?_;rintro e w3 ⟨rfl,k1,C⟩;have d:=S.o.same (C w.heap.size (.inr (.inl rfl)));have q:=U.o.same (C (w.heap.size+1) (.inr (.inr rfl)));have j0:=d.cell 0;have j1:=d.cell 1;have j2:=d.cell 2;have g1:=d.free 1;have Q:Stay K w w3:=fun i l=>(C i (.inl l)).trans (HX.o.block i (V.o.klt i l))
 have t0:=η Q;have O:wb.heap.size<=w.heap.size:=V.o.base.size;have e0:=k1.pokeK (x:=w.heap.size) (.inr (.inl rfl)) O 1 (.int .i64 M);have b0:=η e0;have Y:=η O;have y:=η (d.set 1 (.int .i64 M));have m:=η (q.o (i:=w.heap.size) (by omega) 1 (.int .i64 M));have a0:Hd (Stay K w (w3.setCell ⟨w.heap.size,1,none⟩ (.int .i64 M))):=η fun i l=>(heap_setCell_other w3 ⟨w.heap.size,1,none⟩ i _ (fun e=>by have e2:i=w.heap.size:=e;have:=V.o.klt i l;omega)).trans (Q i l)
 have s0:(min nx L)=M:=hM;have m1:=y.o.cell 1;clear k1 C d q F S U Q e0 O hM;by_cases j:M<0
 ·have D:decide (M<0)=true:=ζ j
  have I:Hd (z1B bs st M ct=[]):=η (ξ j);clear j;go_wp2_with fail;have m0:=y.o.cell 0;have m1:=y.o.cell 1;have m2:=y.o.cell 2;have n0:=m.o.cell 0;have n1:=m.o.cell 1;have n2:=m.o.cell 2;have y0:=m.o.free 0;have y1:=m.o.free 1;have y2:=m.o.free 2;clear j0 j1 j2;refine q1U (fun W:World=>W.cell? ⟨w.heap.size,0,none⟩=some (.string ⟨st.toArray⟩)/\W.cell? ⟨w.heap.size,1,none⟩=some (.int .i64 (M))/\W.cell? ⟨w.heap.size,2,none⟩=some (.bool true)) 3 (by kernel_rfl) ⟨m0,m1,m2⟩ (fun b=>?_);refine q4l 0 b (fun b=>?_);refine q0r 1 b (fun b=>?_);simp only[Act.put,π,ψ,ω];refine q0k (i:=2) (by kernel_rfl) rfl (fun K hK=>?_)
  go_simp
  refine hK.out _ _ ⟨?_,?_,?_⟩ (fun b=>?_)
  ·go_simp
  ·go_simp
  ·go_simp
  clear hK K
  try simp only[Act.put,π,ψ,ω]
  refine q1i (by kernel_rfl) ?_
  try simp only[List.drop_succ_cons,List.drop_zero]
  clear b;go_wp2_with fail
  ((try simp only[Exit.inBlock,Exit.then]);refine bodyPost_ret (v:= .tuple #[.slice none 0 0,.agg #[.string ⟨st.toArray⟩,.int .i64 (M),.bool true],.bool true,.int .i64 0]) (by rw[q0j rfl];go_simp) rfl ?_)
  have HP:PgM wb w (w3.setCell ⟨w.heap.size,1,none⟩ (.int .i64 M)) g gs rate sd c s u n bs K w.heap.size (w.heap.size+1) (.slice none 0 0) []:=⟨b0.o.beside fun i l=>(by
    rcases l with l|l
    ·exact l
    ·cases l),a0.o,⟨rfl,.inl ⟨rfl,rfl⟩⟩,fun i _ e=>(by cases e),⟨Y.o,ι _,Nat.le_succ _⟩,V.o.klt⟩
  have G:=((((HP.poke (.inr rfl) 0 (.string ⟨st.toArray⟩)).poke (.inr rfl) 1 (.int .i64 M)).poke (.inr rfl) 2 (.bool true)).done ⟨st,M,true⟩ true 0)
  exact(G.drewW).cast I.o.symm (by rw[I.o];simp) (by rw[I.o];simpa using D)
 ·have D:decide (M<0)=false:=ε j
  have I:Hd (z1B bs st M ct=z7P bs st M ct):=η (κ j);have F:=η (b0.o.backward hn st (by omega) M ct (by omega) (by omega));rw[g0.o (by omega)] at F;clear j;generalize z7P bs st M ct=T at*;obtain⟨N,hN⟩: ∃N,T.length=N:=⟨_,rfl⟩
  have HN:=η hN;rw[hN] at i0;have q1:IntKind.i64.wrap (M-(N:Int))=M-(N:Int):=by rw[ν];omega
  clear hN;go_wp2_with fail;refine F.o.mono ?_;rintro e w5 ⟨v,rfl,k1,C,k3,k4⟩;obtain⟨va,vc,rfl⟩:=q0F k3;have d:=y.o.same (C w.heap.size (.inr (.inl rfl)));have q:=m.o.same (C (w.heap.size+1) (.inr (.inr rfl)));have HP:PgM wb w w5 g gs rate sd c s u n bs K w.heap.size (w.heap.size+1) (.slice va T.length vc) T:=⟨k1,fun i l=>(C i (.inl l)).trans (a0.o i l),k3,k4,⟨Y.o,ι _,Nat.le_succ _⟩,V.o.klt⟩
  have Z:=η (HP.poke (.inl rfl) 1 (.int .i64 (M-(N:Int))));rw[HN.o] at Z⊢;have j0:=d.cell 0;have j1:=d.cell 1;have j2:=d.cell 2;have g1:=d.free 1;have E:=η (d.set 1 (.int .i64 (M-(N:Int))));have r:=η (q.o (i:=w.heap.size) (by omega) 1 (.int .i64 (M-(N:Int))));clear k1 C k3 k4 d q F HP m1;go_wp2_with fail;have m0:=E.o.cell 0;have m1:=E.o.cell 1;have m2:=E.o.cell 2;have n0:=r.o.cell 0;have n1:=r.o.cell 1;have n2:=r.o.cell 2;have y0:=r.o.free 0;have y1:=r.o.free 1;have y2:=r.o.free 2;clear j0 j1 j2;refine q1U (fun W:World=>W.cell? ⟨w.heap.size,0,none⟩=some (.string ⟨st.toArray⟩)/\W.cell? ⟨w.heap.size,1,none⟩=some (.int .i64 (M-(N:Int)))/\W.cell? ⟨w.heap.size,2,none⟩=some (.bool true)) 7 (by kernel_rfl) ⟨m0,m1,m2⟩ (fun b=>?_);refine q0r 0 b (fun b=>?_);refine q4l 1 b (fun b=>?_);refine q0r 2 b (fun b=>?_);refine q4l 3 b (fun b=>?_);refine q0r 4 b (fun b=>?_);refine q0r 5 b (fun b=>?_);simp only[Act.put,π,ψ,ω];refine q0k (i:=6) (by kernel_rfl) rfl (fun K hK=>?_)
  go_simp
  refine hK.out _ _ ⟨?_,?_,?_⟩ (fun b=>?_)
  ·go_simp
  ·go_simp
  ·go_simp
  clear hK K
  try simp only[Act.put,π,ψ,ω]
  refine q1i (by kernel_rfl) ?_
  try simp only[List.drop_succ_cons,List.drop_zero]
  clear b;go_wp2_with fail
  ((try simp only[Exit.inBlock,Exit.then]);refine bodyPost_ret (v:= .tuple #[.slice va N vc,.agg #[.string ⟨st.toArray⟩,.int .i64 (M-(N:Int)),.bool true],.bool (decide (M-(N:Int)<0)),.int .i64 0]) (by rw[q0j rfl];go_simp) rfl ?_)
  have G:=((((Z.o.poke (.inr rfl) 0 (.string ⟨st.toArray⟩)).poke (.inr rfl) 1 (.int .i64 (M-(N:Int)))).poke (.inr rfl) 2 (.bool true)).done ⟨st,M-(N:Int),true⟩ (decide (M-(N:Int)<0)) 0)
  exact(G.drewW).cast I.o.symm (by rw[I.o,HN.o]) (by rw[I.o,HN.o])
end
def z1y(C:Cur)(ct:Int):Int:=if q4F C=true/\1<=ct then 0 else 2
def z7S(bs:List Bt)(C:Cur):Int:=min C.nx (((q0c bs C.st).length:Int)-1)
def z1a(bs:List Bt)(C:Cur)(ct:Int):List To:=if z1y C ct≠0 then [] else if C.dn=true then z1B bs C.st (z7S bs C) ct else z2c bs C.st C.nx ct
def z6v(bs:List Bt)(C:Cur)(ct:Int):Cur:=if z1y C ct≠0 then z7Q else if C.dn=true then⟨C.st,z7S bs C-((z1a bs C ct).length:Int),true⟩ else⟨C.st,C.nx+((z1a bs C ct).length:Int),false⟩
def z6w(bs:List Bt)(C:Cur)(ct:Int):Bool:=if z1y C ct≠0 then false else if C.dn=true then decide (z7S bs C-((z1a bs C ct).length:Int)<0) else decide (((z1a bs C ct).length:Int)<ct)
section
variable {wb w W W':World}{g gs rate u n:Nat}{sd c s:Int}{bs:List Bt}{K K':Nat->Prop}
theorem q7M(h:SK wb w g gs rate sd c s u n bs K)(hn:n<=1000)(C:Cur)(hs:C.st.length<=9223372036854775807)(ct:Int)(h2:ct<=9223372036854775807):
  Calls Tryz.prog 29 #[.pointer (some ⟨gs,0,none⟩),z9z C,.int .i64 ct] w (PageR wb w g gs rate sd c s u n bs K (z1a bs C ct) (z6v bs C ct) (z6w bs C ct) (z1y C ct)):=by
 obtain⟨st,nx,dn⟩:=C;have g0:=q4t w (.cells #[.string ⟨st.toArray⟩,.int .i64 nx,.bool dn] 86) (.cells #[.string ⟨#[]⟩,.int .i64 0,.bool false] 86);have i0:=q0B (w.alloc (.cells #[.string ⟨st.toArray⟩,.int .i64 nx,.bool dn] 86)) (.cells #[.string ⟨#[]⟩,.int .i64 0,.bool false] 86);have HC:=η (fun W=>q8B ⟨st,nx,dn⟩ hs W);have Y:=η ((Blk.new w 86 #[.string ⟨st.toArray⟩,.int .i64 nx,.bool dn]).ext i0);have b:=Blk.new (w.alloc (.cells #[.string ⟨st.toArray⟩,.int .i64 nx,.bool dn] 86)) 86 #[.string ⟨#[]⟩,.int .i64 0,.bool false];rw[ρ] at b;have Z:=η b;have HX:=η g0;have V:=η h;have e0:((w.alloc (.cells #[.string ⟨st.toArray⟩,.int .i64 nx,.bool dn] 86)).alloc (.cells #[.string ⟨#[]⟩,.int .i64 0,.bool false] 86)).heap.size=w.heap.size+2:=by simp
 have m0:=η e0;obtain⟨z,hz⟩: ∃z,q4F ⟨st,nx,dn⟩=z:=⟨_,rfl⟩
 rw[hz] at HC;have HZ:=η hz;obtain⟨T,hT⟩: ∃T,z1a bs ⟨st,nx,dn⟩ ct=T:=⟨_,rfl⟩
 obtain⟨X,hX⟩: ∃X,z6v bs ⟨st,nx,dn⟩ ct=X:=⟨_,rfl⟩
 obtain⟨E,hE⟩: ∃E,z6w bs ⟨st,nx,dn⟩ ct=E:=⟨_,rfl⟩
 obtain⟨N,hN⟩: ∃N,z1y ⟨st,nx,dn⟩ ct=N:=⟨_,rfl⟩
 have J:=η hT;have O:=η hX;have HE:=η hE;have HN:=η hN;rw[hT,hX,hE,hN];clear g0 i0 b h e0 hz hT hX hE hN;go_enter Tryz.func29,Tryz.ntmps29;go_wp2_with fail;refine(HC.o _).mono ?_;rintro e w1 ⟨rfl,hx⟩;have q:=Y.o.ext hx;have b:=Z.o.ext hx;have y:=η (HX.o.trans hx);have n0:=η q;have a0:=η b;have d0:=V.o.more (K':=fun i=>K i\/i=w.heap.size\/i=w.heap.size+1) y.o fun i l=>by
  rcases l with l|l
  ·exact .inl l
  ·exact .inr (by have:=hx.size;have:=m0.o;omega)
 have G:=η d0;have j0:Hd (wb.heap.size<=w.heap.size):=η V.o.base.size;have k0:=q.cell 0;have k1:=q.cell 1;have k2:=q.cell 2;have l0:=b.cell 0;have l1:=b.cell 1;have l2:=b.cell 2;have f0:=b.free 0;have f1:=b.free 1;have f2:=b.free 2;clear hx q b HC Y Z d0 HX;have r: ∀(r:N=2),T=[]/\X=z7Q/\E=false:=fun r=>by
  have h0:=HN.o;rw[r] at h0;refine⟨by rw[<-J.o];unfold z1a;rw[ξ (by rw[h0];decide)],by rw[<-O.o];unfold z6v;rw[ξ (by rw[h0];decide)],by rw[<-HE.o];unfold z6w;rw[ξ (by rw[h0];decide)]⟩
 have b0:=η r
 have c0:Hd (PgM wb w w1 g gs rate sd c s u n bs K w.heap.size (w.heap.size+1) (.slice none 0 0) []):=η ⟨G.o.beside fun i l=>(by
    rcases l with l|l
    ·exact l
    ·cases l),fun i l=>y.o.block i (V.o.klt i l),⟨rfl,.inl ⟨rfl,rfl⟩⟩,fun i _ e=>(by cases e),⟨j0.o,ι _,Nat.le_succ _⟩,V.o.klt⟩
 clear r
 cases z with
 | false=>
  have m:Hd (N=2):=η (by rw[<-HN.o];unfold z1y;exact κ fun h=>by rw[HZ.o] at h;cases h.1);obtain⟨B,D,F⟩:=b0.o m.o;subst B D F;go_wp2_with fail
  ((try simp only[Exit.inBlock,Exit.then]);refine bodyPost_ret (v:= .tuple #[.slice none 0 0,.agg #[.string ⟨#[]⟩,.int .i64 0,.bool false],.bool false,.int .i64 2]) (by rw[q0j rfl];go_simp) rfl ?_)
  rw[m.o];exact(((c0.o.poke (.inr rfl) 0 (.string ⟨#[]⟩)).poke (.inr rfl) 1 (.int .i64 0)).poke (.inr rfl) 2 (.bool false)).done z7Q false 2
 | true =>
  by_cases h1:ct<1
  ·have d1:decide (ct<(1:Int))=true:=ζ h1
   have m:Hd (N=2):=η (by rw[<-HN.o];unfold z1y;exact κ fun h=>by omega);obtain⟨B,D,F⟩:=b0.o m.o;subst B D F;clear h1;go_wp2_with fail
   ((try simp only[Exit.inBlock,Exit.then]);refine bodyPost_ret (v:= .tuple #[.slice none 0 0,.agg #[.string ⟨#[]⟩,.int .i64 0,.bool false],.bool false,.int .i64 2]) (by rw[q0j rfl];go_simp) rfl ?_)
   rw[m.o];exact(((c0.o.poke (.inr rfl) 0 (.string ⟨#[]⟩)).poke (.inr rfl) 1 (.int .i64 0)).poke (.inr rfl) 2 (.bool false)).done z7Q false 2
  ·have d1:decide (ct<(1:Int))=false:=ε h1
   have I:Hd (N=0):=η (by rw[<-HN.o];unfold z1y;exact ξ ⟨HZ.o,by omega⟩);have d:=HN.o;rw[I.o] at d
   cases dn
   ·have j:=η (y0P G.o hn st nx ct HZ.o (by omega) h2)
    have B:z2c bs st nx ct=T:=by rw[<-J.o];unfold z1a;rw[κ (by rw[d];decide)];rfl
    have D:(⟨st,nx+(T.length:Int),false⟩:Cur)=X:=by rw[<-O.o];unfold z6v;rw[κ (by rw[d];decide),J.o];rfl
    have F:decide ((T.length:Int)<ct)=E:=by rw[<-HE.o];unfold z6w;rw[κ (by rw[d];decide),J.o];rfl
    rw[B,D,F] at j;clear B D F d h1;go_wp2_with fail;refine j.o.mono ?_;rintro e w3 ⟨v,rfl,q1,Q,R,q4⟩;obtain⟨va,vc,rfl⟩:=q0F R;have HM:=η (PgM.of V.o y.o (ι _) (Nat.le_succ _) q1 Q R q4);have b:=a0.o.same (Q (w.heap.size+1) (.inr (.inr rfl)));have l0:=b.cell 0;have l1:=b.cell 1;have l2:=b.cell 2;have f0:=b.free 0;have f1:=b.free 1;have f2:=b.free 2;clear q1 Q R q4 b j;obtain⟨xs,U,S⟩:=X;go_wp2_with fail
    ((try simp only[Exit.inBlock,Exit.then]);refine bodyPost_ret (v:= .tuple #[.slice va T.length vc,.agg #[.string ⟨xs.toArray⟩,.int .i64 U,.bool S],.bool E,.int .i64 0]) (by rw[q0j rfl];go_simp) rfl ?_)
    rw[I.o];exact(((HM.o.poke (.inr rfl) 0 (.string ⟨xs.toArray⟩)).poke (.inr rfl) 1 (.int .i64 U)).poke (.inr rfl) 2 (.bool S)).done ⟨xs,U,S⟩ E 0
   ·have j:=η (y2m G.o hn st nx ct HZ.o (by omega) h2 (M:=z7S bs ⟨st,nx,true⟩) rfl)
    have B:z1B bs st (z7S bs ⟨st,nx,true⟩) ct=T:=by rw[<-J.o];unfold z1a;rw[κ (by rw[d];decide)];rfl
    rw[B] at j;have D:(⟨st,z7S bs ⟨st,nx,true⟩-(T.length:Int),true⟩:Cur)=X:=by rw[<-O.o];unfold z6v;rw[κ (by rw[d];decide),J.o];rfl
    have F:decide (z7S bs ⟨st,nx,true⟩-(T.length:Int)<0)=E:=by rw[<-HE.o];unfold z6w;rw[κ (by rw[d];decide),J.o];rfl
    rw[D,F] at j;clear B D F d h1;go_wp2_with fail;refine j.o.mono ?_;rintro e w3 ⟨v,rfl,q1,Q,R,q4⟩;obtain⟨va,vc,rfl⟩:=q0F R;have HM:=η (PgM.of V.o y.o (ι _) (Nat.le_succ _) q1 Q R q4);have b:=a0.o.same (Q (w.heap.size+1) (.inr (.inr rfl)));have l0:=b.cell 0;have l1:=b.cell 1;have l2:=b.cell 2;have f0:=b.free 0;have f1:=b.free 1;have f2:=b.free 2;clear q1 Q R q4 b j;obtain⟨xs,U,S⟩:=X;go_wp2_with fail
    ((try simp only[Exit.inBlock,Exit.then]);refine bodyPost_ret (v:= .tuple #[.slice va T.length vc,.agg #[.string ⟨xs.toArray⟩,.int .i64 U,.bool S],.bool E,.int .i64 0]) (by rw[q0j rfl];go_simp) rfl ?_)
    rw[I.o];exact(((HM.o.poke (.inr rfl) 0 (.string ⟨xs.toArray⟩)).poke (.inr rfl) 1 (.int .i64 U)).poke (.inr rfl) 2 (.bool S)).done ⟨xs,U,S⟩ E 0
end
end
end Go.Proofs.YtjlcdfpbllobaaaGreatDoor
