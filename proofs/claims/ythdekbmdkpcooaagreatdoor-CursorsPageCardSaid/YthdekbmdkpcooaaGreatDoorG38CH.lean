/- Walks. -/
import Derived.Test.YthdekbmdkpcooaaGreatDoorG11CH
import Derived.Test.YthdekbmdkpcooaaGreatDoorG37CH
set_option linter.unusedVariables false
set_option linter.unusedSimpArgs false
set_option maxRecDepth 100000
set_option maxHeartbeats 12800000
namespace Go.Proofs.YthdekbmdkpcooaaGreatDoor
variable {x a q:Nat}{v:Value}{T:List To}{X:Cur}{st:List UInt8}{nx ct fr M:Int}{dn:Bool}{w3:World}
section
open Go.RowKit
theorem q0I{fn:Func}{a p u v:Tmp}{ty:TypeId}(h:fn.results=#[.tmp a,.cell p ty,.tmp u,.tmp v])(tmps:Array Value)(P:Program)(w:World):
  (results fn tmps).run P w=
   ((asAddr (tmps.getD p undef)).run P w).andThen fun b w₁=>((loadVar ty b).run P w₁).andThen fun x d=> .ok (.tuple #[tmps.getD a undef,x,tmps.getD u undef,tmps.getD v undef]) d:=by
 simp only[results,h];simp[Sem.run_bind,Result.andThen]
theorem z4m(st:List UInt8)(nx:Int)(dn:Bool)(E:st.length<=9223372036854775807)(w:World):Calls Tryz.prog 24 #[.string ⟨st.toArray⟩,.int .i64 nx,.bool dn] w fun e w'=>e= .returned (.tuple #[z7k (if q5q ⟨st,nx,dn⟩=true then⟨st,nx,dn⟩ else z0D),.int .i64 (if q5q ⟨st,nx,dn⟩=true then 0 else 2)])/\Ext w w':=by
 have B:=η (fun W=>q7x ⟨st,nx,dn⟩ E W);have m:=q4O w (.cells #[.string ⟨#[]⟩,.int .i64 0,.bool false] 63) (.cells #[.string ⟨st.toArray⟩,.int .i64 nx,.bool dn] 63);have r:=q0B (w.alloc (.cells #[.string ⟨#[]⟩,.int .i64 0,.bool false] 63)) (.cells #[.string ⟨st.toArray⟩,.int .i64 nx,.bool dn] 63);have i:=η ((Blk.new w 63 #[.string ⟨#[]⟩,.int .i64 0,.bool false]).ext r);have d:=Blk.new (w.alloc (.cells #[.string ⟨#[]⟩,.int .i64 0,.bool false] 63)) 63 #[.string ⟨st.toArray⟩,.int .i64 nx,.bool dn];rw[ρ] at d;have j:=η d;have D:=η m;obtain⟨z,C⟩: ∃z,q5q ⟨st,nx,dn⟩=z:=⟨_,rfl⟩
 rw[C] at B⊢;clear m r d C;go_enter Tryz.func24,Tryz.ntmps24;go_wp2_with fail;refine(B.o _).mono ?_;rintro e w3 ⟨rfl,y⟩;have l:=η (D.o.trans y);have b:=i.o.ext y;have k0:=b.cell 0;have k1:=b.cell 1;have J:=b.cell 2;have F:=b.free 0;have G:=b.free 1;have I:=b.free 2;have hc:=j.o.ext y;have N:=hc.cell 0;have O:=hc.cell 1;have Q:=hc.cell 2;clear y b hc B i j
 cases z with
 | false=>
  go_wp2_with fail
  ((try simp only[Exit.inBlock,Exit.then]);refine bodyPost_ret (v:= .tuple #[.agg #[.string ⟨#[]⟩,.int .i64 0,.bool false],.int .i64 2]) (by rw[q0L rfl];go_simp) rfl ?_)
  exact⟨rfl,((l.o.setCell (p:=⟨w.heap.size,0,none⟩) (ι _) _).setCell (p:=⟨w.heap.size,1,none⟩) (ι _) _).setCell (p:=⟨w.heap.size,2,none⟩) (ι _) _⟩
 | true=>
  go_wp2_with fail
  ((try simp only[Exit.inBlock,Exit.then]);refine bodyPost_ret (v:= .tuple #[.agg #[.string ⟨st.toArray⟩,.int .i64 nx,.bool dn],.int .i64 0]) (by rw[q0L rfl];go_simp) rfl ?_)
  exact⟨rfl,((l.o.setCell (p:=⟨w.heap.size,0,none⟩) (ι _) _).setCell (p:=⟨w.heap.size,1,none⟩) (ι _) _).setCell (p:=⟨w.heap.size,2,none⟩) (ι _) _⟩
section
variable {wb w W W':World}{g gs rate u n:Nat}{sd c s:Int}{bs:List Bt}{K K':Nat->Prop}
theorem SK.pokeK(h:SK wb W g gs rate sd c s u n bs K)(hK:K x)(d:wb.heap.size<=x)(j:Nat)(v:Value):SK wb (W.setCell ⟨x,j,none⟩ v) g gs rate sd c s u n bs K:=by
 refine h.sideM (by rw[World.size_setCell];exact ι _) (Below.setCell h.base d v) (fun i b l=>?_) fun i b=> .inl b
 exact heap_setCell_other W ⟨x,j,none⟩ i v fun e=>l (by have:i=x:=e;rw[this];exact hK)
def PageR(wb w:World)(g gs rate:Nat)(sd c s:Int)(u n:Nat)(bs:List Bt)(K:Nat->Prop)(T:List To)(X:Cur)(E:Bool)(z:Int)(e:Ending)(w':World):Prop:=
 ∃v,e= .returned (.tuple #[v,z7k X,.bool E,.int .i64 z])/\SK wb w' g gs rate sd c s u n bs (fun i=>K i\/v.ownBlock=some i)/\Stay K w w'/\w'.ownsRow wb.heap.size 87 5 v T.length (q3T T)/\ ∀i,K i->v.ownBlock≠some i
structure PgM(wb w W:World)(g gs rate:Nat)(sd c s:Int)(u n:Nat)(bs:List Bt)(K:Nat->Prop)(a b:Nat)(v:Value)(T:List To):Prop where
 sk:SK wb W g gs rate sd c s u n bs (fun i=>(K i\/i=a\/i=b)\/v.ownBlock=some i)
 st:Stay K w W
 row:W.ownsRow wb.heap.size 87 5 v T.length (q3T T)
 ap: ∀i,(K i\/i=a\/i=b)->v.ownBlock≠some i
 lo:wb.heap.size<=w.heap.size/\w.heap.size<=a/\w.heap.size<=b
 kl: ∀i,K i->i<w.heap.size
theorem PgM.poke{b:Nat}(h:PgM wb w W g gs rate sd c s u n bs K a b v T)(d:x=a\/x=b)(j:Nat)(y:Value):PgM wb w (W.setCell ⟨x,j,none⟩ y) g gs rate sd c s u n bs K a b v T:=by
 have m:w.heap.size<=x:=by have:=h.lo;rcases d with rfl|rfl<;>omega
 refine⟨h.sk.pokeK (.inl (.inr d)) (by have:=h.lo;omega) j y,fun i l=>?_,q0S h.row (a:=⟨x,j,none⟩) y (h.ap x (.inr d)),h.ap,h.lo,h.kl⟩;rw[heap_setCell_other W ⟨x,j,none⟩ i y (fun e=>by have o:i=x:=e;have:=h.kl i l;omega)];exact h.st i l
theorem PgM.done{b:Nat}(h:PgM wb w W g gs rate sd c s u n bs K a b v T)(X:Cur)(E:Bool)(z:Int):PageR wb w g gs rate sd c s u n bs K T X E z (.returned (.tuple #[v,z7k X,.bool E,.int .i64 z])) W:=
 ⟨v,rfl,h.sk.beside fun i d=>d.imp .inl id,h.st,h.row,fun i d=>h.ap i (.inl d)⟩
theorem PageR.drewW{E:Bool}{z:Int}{e:Ending}(h:PageR wb w g gs rate sd c s u n bs K T X E z e W):PageR wb w g gs rate sd c s u n bs K T X E z e W.drew:=by
 obtain⟨v,rfl,b,d,i,j⟩:=h;exact⟨v,rfl,b.grow (Ext.refl _).drew,d,i,j⟩
theorem PgM.of{b:Nat}(h:SK wb w g gs rate sd c s u n bs K){w1:World}(m:Ext w w1)(j:w.heap.size<=a)(l:w.heap.size<=b)
  (k1:SK wb W g gs rate sd c s u n bs (fun i=>(K i\/i=a\/i=b)\/v.ownBlock=some i))(o:Stay (fun i=>K i\/i=a\/i=b) w1 W)(r:W.ownsRow wb.heap.size 87 5 v T.length (q3T T))(y: ∀i,(K i\/i=a\/i=b)->v.ownBlock≠some i):PgM wb w W g gs rate sd c s u n bs K a b v T:=
 ⟨k1,fun i d=>(o i (.inl d)).trans (m.block i (h.klt i d)),r,y,⟨h.base.size,j,l⟩,h.klt⟩
theorem z1V(hm:q5q ⟨st,nx,dn⟩=true)(b:0<=nx)(d:1<=ct):q3f st nx ct=0:=by
 unfold q3f;refine κ ?_;have:=(q5E hm).1;rintro(h|h|h)
 ·simp only at this;rw[this] at h;cases h
 ·omega
 ·omega
theorem y2i{bs:List Bt}:(z3Q bs st fr ct).length<=(q0l bs st).length:=by
 unfold z3Q z0V
 split
 ·rw[Θ,List.length_drop,q2W];omega
 ·simp
theorem y0E(h:SK wb w g gs rate sd c s u n bs K)(hn:n<=1000)(st:List UInt8)(nx ct:Int)(hm:q5q ⟨st,nx,false⟩=true)(h1:1<=ct)(h2:ct<=9223372036854775807):
  Calls Tryz.prog 60 #[.agg #[.string ⟨st.toArray⟩,.int .i64 nx,.bool false],.pointer (some ⟨gs,0,none⟩),.int .i64 ct] w
   (PageR wb w g gs rate sd c s u n bs K (z3Q bs st nx ct) ⟨st,nx+((z3Q bs st nx ct).length:Int),false⟩ (decide (((z3Q bs st nx ct).length:Int)<ct)) 0):=by
 obtain⟨_,d,Y⟩:=q5E hm;simp only at d Y;have b0:=z3w hm;simp only at b0;have h0:0<=nx:=by have:=(q4E st nx false).1 hm;rcases this.2.2 with h|⟨h,_⟩;exact h;cases h
 have I:=z1V hm h0 h1;have r:=q4O w (.cells #[.string ⟨st.toArray⟩,.int .i64 nx,.bool false] 63) (.cells #[.string ⟨#[]⟩,.int .i64 0,.bool false] 63);have J:=q0B (w.alloc (.cells #[.string ⟨st.toArray⟩,.int .i64 nx,.bool false] 63)) (.cells #[.string ⟨#[]⟩,.int .i64 0,.bool false] 63);have G:=h.more (K':=fun i=>K i\/i=w.heap.size\/i=w.heap.size+1) r fun i O=>by
  rcases O with O|O
  ·exact .inl O
  ·exact .inr (by simp;omega)
 have R:=η (G.forward hn st (by omega) nx ct (by omega) (by omega));rw[I] at R;have y:=η ((Blk.new w 63 #[.string ⟨st.toArray⟩,.int .i64 nx,.bool false]).ext J);have d:=Blk.new (w.alloc (.cells #[.string ⟨st.toArray⟩,.int .i64 nx,.bool false] 63)) 63 #[.string ⟨#[]⟩,.int .i64 0,.bool false];rw[ρ] at d;have B:=η d;have HX:=η r;have HK:=η h;have a0:=y2i (bs:=bs) (st:=st) (fr:=nx) (ct:=ct);have F:=h.few;have Z:=q3b bs st;have V:(z3Q bs st nx ct).length<=8000:=by omega
 generalize z3Q bs st nx ct=T at*;obtain⟨N,U⟩: ∃N,T.length=N:=⟨_,rfl⟩
 have HN:=η U;rw[U] at V⊢;have q1:IntKind.i64.wrap (nx+(N:Int))=nx+(N:Int):=by rw[ν];omega
 clear r J G h I d a0 F Z hm U;go_enter Tryz.func60,Tryz.ntmps60;go_wp2_with fail;refine R.o.mono ?_;rintro e w3 ⟨v,rfl,k1,Q,k3,k4⟩;obtain⟨va,vc,rfl⟩:=q0F k3;have HM:=η (PgM.of HK.o HX.o (ι _) (Nat.le_succ _) k1 Q k3 k4);have l:=y.o.same (Q w.heap.size (.inr (.inl rfl)));have d:=B.o.same (Q (w.heap.size+1) (.inr (.inr rfl)));have j0:=l.cell 0;have j1:=l.cell 1;have j2:=l.cell 2;have g1:=l.free 1;have l0:=d.cell 0;have l1:=d.cell 1;have l2:=d.cell 2;have f0:=d.free 0;have f1:=d.free 1;have f2:=d.free 2;have C:=η (HM.o.poke (.inl rfl) 1 (.int .i64 (nx+(N:Int))));have D:=l.set 1 (.int .i64 (nx+(N:Int)));have E:=d.o (i:=w.heap.size) (by omega) 1 (.int .i64 (nx+(N:Int)));have m:=η D;have j:=η E;rw[HN.o] at HM C⊢;clear k1 Q k3 k4 l d R y B D E;go_wp2_with fail;have m0:=m.o.cell 0;have m1:=m.o.cell 1;have m2:=m.o.cell 2;have n0:=j.o.cell 0;have n1:=j.o.cell 1;have n2:=j.o.cell 2;have y0:=j.o.free 0;have y1:=j.o.free 1;have y2:=j.o.free 2;clear j0 j1 j2 l0 l1 l2 f0 f1 f2;refine q0k (fun W:World=>W.cell? ⟨w.heap.size,0,none⟩=some (.string ⟨st.toArray⟩)/\W.cell? ⟨w.heap.size,1,none⟩=some (.int .i64 (nx+(N:Int)))/\W.cell? ⟨w.heap.size,2,none⟩=some (.bool false)) 8 (by kernel_rfl) ⟨m0,m1,m2⟩ (fun b=>?_);refine q0U 0 b (fun b=>?_);refine q2n 1 b (fun b=>?_);refine q0U 2 b (fun b=>?_);refine q0U 3 b (fun b=>?_);refine q0U 4 b (fun b=>?_);refine q0U 5 b (fun b=>?_);refine q0U 6 b (fun b=>?_);simp only[Act.put,π,ψ,ω];refine q0R (i:=7) (by kernel_rfl) rfl (fun K hK=>?_)
 go_simp
 refine hK.out _ _ ⟨?_,?_,?_⟩ (fun b=>?_)
 ·go_simp
 ·go_simp
 ·go_simp
 clear hK K
 try simp only[Act.put,π,ψ,ω]
 refine q0w (by kernel_rfl) ?_
 try simp only[List.drop_succ_cons,List.drop_zero]
 clear b;go_wp2_with fail;have S:=η ((((C.o.poke (.inr rfl) 0 (.string ⟨st.toArray⟩)).poke (.inr rfl) 1 (.int .i64 (nx+(N:Int)))).poke (.inr rfl) 2 (.bool false)).done ⟨st,nx+(N:Int),false⟩ (decide ((N:Int)<ct)) 0)
 ((try simp only[Exit.inBlock,Exit.then]);refine bodyPost_ret (v:= .tuple #[.slice va N vc,.agg #[.string ⟨st.toArray⟩,.int .i64 (nx+(N:Int)),.bool false],.bool (decide ((N:Int)<ct)),.int .i64 0]) (by rw[q0I rfl];go_simp) rfl ?_)
 exact S.o.drewW
end
def z1A(bs:List Bt)(st:List UInt8)(M ct:Int):List To:=if M<0 then [] else z7I bs st M ct
theorem y2U{bs:List Bt}:(z7I bs st fr ct).length<=(q0l bs st).length:=by
 unfold z7I z0U
 split
 ·rw[List.length_reverse,Θ,List.length_drop,q2W];omega
 ·simp
theorem y2s{bs:List Bt}(hm:q5q ⟨st,nx,dn⟩=true):z3t bs st=(((q0l bs st).length:Int)-1,0):=by
 unfold z3t;exact ξ (q5E hm).1
section
variable {wb w W W':World}{g gs rate u n:Nat}{sd c s:Int}{bs:List Bt}{K K':Nat->Prop}
theorem PageR.cast{d:List To}{X':Cur}{E b:Bool}{z:Int}{e:Ending}(h:PageR wb w g gs rate sd c s u n bs K T X E z e W)(i:T=d)(j:X=X')(l:E=b):PageR wb w g gs rate sd c s u n bs K d X' b z e W:=by subst i j l;exact h
theorem y2W(h:SK wb w g gs rate sd c s u n bs K)(hn:n<=1000)(st:List UInt8)(nx ct:Int)(hm:q5q ⟨st,nx,true⟩=true)(h1:1<=ct)(h2:ct<=9223372036854775807)(hM:min nx (((q0l bs st).length:Int)-1)=M):
  Calls Tryz.prog 59 #[.agg #[.string ⟨st.toArray⟩,.int .i64 nx,.bool true],.pointer (some ⟨gs,0,none⟩),.int .i64 ct] w
   (PageR wb w g gs rate sd c s u n bs K (z1A bs st M ct) ⟨st,M-((z1A bs st M ct).length:Int),true⟩ (decide (M-((z1A bs st M ct).length:Int)<0)) 0):=by
 obtain⟨_,r,l0⟩:=q5E hm;simp only at r l0;have q0:=z3w hm;simp only at q0;have S:=q4O w (.cells #[.string ⟨st.toArray⟩,.int .i64 nx,.bool true] 63) (.cells #[.string ⟨#[]⟩,.int .i64 0,.bool false] 63);have g0:=q0B (w.alloc (.cells #[.string ⟨st.toArray⟩,.int .i64 nx,.bool true] 63)) (.cells #[.string ⟨#[]⟩,.int .i64 0,.bool false] 63);have e0:=h.more (K':=fun i=>K i\/i=w.heap.size\/i=w.heap.size+1) S fun i l=>by
  rcases l with l|l
  ·exact .inl l
  ·exact .inr (by simp;omega)
 have G:=η (e0.last hn st (by omega) (y2s hm));have i0:Hd (0<=M->q3f st M ct=0):=η fun h0=>z1V (dn:=true) (nx:=M) ((q4E _ _ _).2 ⟨(q5E hm).1,by omega,.inl h0⟩) h0 h1
 have U:=η ((Blk.new w 63 #[.string ⟨st.toArray⟩,.int .i64 nx,.bool true]).ext g0);have C:=Blk.new (w.alloc (.cells #[.string ⟨st.toArray⟩,.int .i64 nx,.bool true] 63)) 63 #[.string ⟨#[]⟩,.int .i64 0,.bool false];rw[ρ] at C;have V:=η C;have HX:=η S;have Y:=η h;have p0:=y2U (bs:=bs) (st:=st) (fr:=M) (ct:=ct);have d0:=h.few;have o0:=q3b bs st;have k0:(z7I bs st M ct).length<=8000:=by omega
 obtain⟨L,hL⟩: ∃L:Int,((q0l bs st).length:Int)-1=L:=⟨_,rfl⟩
 rw[hL] at G hM;have O: -1<=M/\M<=1073741824:=by omega
 have r0:=O.1;have s0:=O.2;clear S g0 e0 h C p0 d0 o0 hL O;go_enter Tryz.func59,Tryz.ntmps59;go_wp2_with fail;refine G.o.mono ?_;rintro e w3 ⟨rfl,k1,D⟩;have d:=U.o.same (D w.heap.size (.inr (.inl rfl)));have r:=V.o.same (D (w.heap.size+1) (.inr (.inr rfl)));have j0:=d.cell 0;have j1:=d.cell 1;have j2:=d.cell 2;have g1:=d.free 1;have R:Stay K w w3:=fun i l=>(D i (.inl l)).trans (HX.o.block i (Y.o.klt i l))
 have u0:=η R;have Q:wb.heap.size<=w.heap.size:=Y.o.base.size;have f0:=k1.pokeK (x:=w.heap.size) (.inr (.inl rfl)) Q 1 (.int .i64 M);have c0:=η f0;have Z:=η Q;have B:=η (d.set 1 (.int .i64 M));have m:=η (r.o (i:=w.heap.size) (by omega) 1 (.int .i64 M));have b0:Hd (Stay K w (w3.setCell ⟨w.heap.size,1,none⟩ (.int .i64 M))):=η fun i l=>(heap_setCell_other w3 ⟨w.heap.size,1,none⟩ i _ (fun e=>by have e2:i=w.heap.size:=e;have:=Y.o.klt i l;omega)).trans (R i l)
 have t0:(min nx L)=M:=hM;have m1:=B.o.cell 1;clear k1 D d r G U V R f0 Q hM;by_cases j:M<0
 ·have E:decide (M<0)=true:=ζ j
  have J:Hd (z1A bs st M ct=[]):=η (ξ j);clear j;go_wp2_with fail;have m0:=B.o.cell 0;have m1:=B.o.cell 1;have m2:=B.o.cell 2;have n0:=m.o.cell 0;have n1:=m.o.cell 1;have n2:=m.o.cell 2;have y0:=m.o.free 0;have y1:=m.o.free 1;have y2:=m.o.free 2;clear j0 j1 j2;refine q0k (fun W:World=>W.cell? ⟨w.heap.size,0,none⟩=some (.string ⟨st.toArray⟩)/\W.cell? ⟨w.heap.size,1,none⟩=some (.int .i64 (M))/\W.cell? ⟨w.heap.size,2,none⟩=some (.bool true)) 3 (by kernel_rfl) ⟨m0,m1,m2⟩ (fun b=>?_);refine q2n 0 b (fun b=>?_);refine q0U 1 b (fun b=>?_);simp only[Act.put,π,ψ,ω];refine q0R (i:=2) (by kernel_rfl) rfl (fun K hK=>?_)
  go_simp
  refine hK.out _ _ ⟨?_,?_,?_⟩ (fun b=>?_)
  ·go_simp
  ·go_simp
  ·go_simp
  clear hK K
  try simp only[Act.put,π,ψ,ω]
  refine q0w (by kernel_rfl) ?_
  try simp only[List.drop_succ_cons,List.drop_zero]
  clear b;go_wp2_with fail
  ((try simp only[Exit.inBlock,Exit.then]);refine bodyPost_ret (v:= .tuple #[.slice none 0 0,.agg #[.string ⟨st.toArray⟩,.int .i64 (M),.bool true],.bool true,.int .i64 0]) (by rw[q0I rfl];go_simp) rfl ?_)
  have HP:PgM wb w (w3.setCell ⟨w.heap.size,1,none⟩ (.int .i64 M)) g gs rate sd c s u n bs K w.heap.size (w.heap.size+1) (.slice none 0 0) []:=⟨c0.o.beside fun i l=>(by
    rcases l with l|l
    ·exact l
    ·cases l),b0.o,⟨rfl,.inl ⟨rfl,rfl⟩⟩,fun i _ e=>(by cases e),⟨Z.o,ι _,Nat.le_succ _⟩,Y.o.klt⟩
  have I:=((((HP.poke (.inr rfl) 0 (.string ⟨st.toArray⟩)).poke (.inr rfl) 1 (.int .i64 M)).poke (.inr rfl) 2 (.bool true)).done ⟨st,M,true⟩ true 0)
  exact(I.drewW).cast J.o.symm (by rw[J.o];simp) (by rw[J.o];simpa using E)
 ·have E:decide (M<0)=false:=ε j
  have J:Hd (z1A bs st M ct=z7I bs st M ct):=η (κ j);have G:=η (c0.o.backward hn st (by omega) M ct (by omega) (by omega));rw[i0.o (by omega)] at G;clear j;generalize z7I bs st M ct=T at*;obtain⟨N,hN⟩: ∃N,T.length=N:=⟨_,rfl⟩
  have HN:=η hN;rw[hN] at k0;have q1:IntKind.i64.wrap (M-(N:Int))=M-(N:Int):=by rw[ν];omega
  clear hN;go_wp2_with fail;refine G.o.mono ?_;rintro e w5 ⟨v,rfl,k1,D,k3,k4⟩;obtain⟨va,vc,rfl⟩:=q0F k3;have d:=B.o.same (D w.heap.size (.inr (.inl rfl)));have r:=m.o.same (D (w.heap.size+1) (.inr (.inr rfl)));have HP:PgM wb w w5 g gs rate sd c s u n bs K w.heap.size (w.heap.size+1) (.slice va T.length vc) T:=⟨k1,fun i l=>(D i (.inl l)).trans (b0.o i l),k3,k4,⟨Z.o,ι _,Nat.le_succ _⟩,Y.o.klt⟩
  have a0:=η (HP.poke (.inl rfl) 1 (.int .i64 (M-(N:Int))));rw[HN.o] at a0⊢;have j0:=d.cell 0;have j1:=d.cell 1;have j2:=d.cell 2;have g1:=d.free 1;have F:=η (d.set 1 (.int .i64 (M-(N:Int))));have y:=η (r.o (i:=w.heap.size) (by omega) 1 (.int .i64 (M-(N:Int))));clear k1 D k3 k4 d r G HP m1;go_wp2_with fail;have m0:=F.o.cell 0;have m1:=F.o.cell 1;have m2:=F.o.cell 2;have n0:=y.o.cell 0;have n1:=y.o.cell 1;have n2:=y.o.cell 2;have y0:=y.o.free 0;have y1:=y.o.free 1;have y2:=y.o.free 2;clear j0 j1 j2;refine q0k (fun W:World=>W.cell? ⟨w.heap.size,0,none⟩=some (.string ⟨st.toArray⟩)/\W.cell? ⟨w.heap.size,1,none⟩=some (.int .i64 (M-(N:Int)))/\W.cell? ⟨w.heap.size,2,none⟩=some (.bool true)) 7 (by kernel_rfl) ⟨m0,m1,m2⟩ (fun b=>?_);refine q0U 0 b (fun b=>?_);refine q2n 1 b (fun b=>?_);refine q0U 2 b (fun b=>?_);refine q2n 3 b (fun b=>?_);refine q0U 4 b (fun b=>?_);refine q0U 5 b (fun b=>?_);simp only[Act.put,π,ψ,ω];refine q0R (i:=6) (by kernel_rfl) rfl (fun K hK=>?_)
  go_simp
  refine hK.out _ _ ⟨?_,?_,?_⟩ (fun b=>?_)
  ·go_simp
  ·go_simp
  ·go_simp
  clear hK K
  try simp only[Act.put,π,ψ,ω]
  refine q0w (by kernel_rfl) ?_
  try simp only[List.drop_succ_cons,List.drop_zero]
  clear b;go_wp2_with fail
  ((try simp only[Exit.inBlock,Exit.then]);refine bodyPost_ret (v:= .tuple #[.slice va N vc,.agg #[.string ⟨st.toArray⟩,.int .i64 (M-(N:Int)),.bool true],.bool (decide (M-(N:Int)<0)),.int .i64 0]) (by rw[q0I rfl];go_simp) rfl ?_)
  have I:=((((a0.o.poke (.inr rfl) 0 (.string ⟨st.toArray⟩)).poke (.inr rfl) 1 (.int .i64 (M-(N:Int)))).poke (.inr rfl) 2 (.bool true)).done ⟨st,M-(N:Int),true⟩ (decide (M-(N:Int)<0)) 0)
  exact(I.drewW).cast J.o.symm (by rw[J.o,HN.o]) (by rw[J.o,HN.o])
end
def z0Y(C:Cur)(ct:Int):Int:=if q5q C=true/\1<=ct then 0 else 2
def z9L(bs:List Bt)(C:Cur):Int:=min C.nx (((q0l bs C.st).length:Int)-1)
def z2q(bs:List Bt)(C:Cur)(ct:Int):List To:=if z0Y C ct≠0 then [] else if C.dn=true then z1A bs C.st (z9L bs C) ct else z3Q bs C.st C.nx ct
def z4I(bs:List Bt)(C:Cur)(ct:Int):Cur:=if z0Y C ct≠0 then z0D else if C.dn=true then⟨C.st,z9L bs C-((z2q bs C ct).length:Int),true⟩ else⟨C.st,C.nx+((z2q bs C ct).length:Int),false⟩
def z6o(bs:List Bt)(C:Cur)(ct:Int):Bool:=if z0Y C ct≠0 then false else if C.dn=true then decide (z9L bs C-((z2q bs C ct).length:Int)<0) else decide (((z2q bs C ct).length:Int)<ct)
section
variable {wb w W W':World}{g gs rate u n:Nat}{sd c s:Int}{bs:List Bt}{K K':Nat->Prop}
theorem z3i(h:SK wb w g gs rate sd c s u n bs K)(hn:n<=1000)(C:Cur)(hs:C.st.length<=9223372036854775807)(ct:Int)(h2:ct<=9223372036854775807):
  Calls Tryz.prog 26 #[.pointer (some ⟨gs,0,none⟩),z7k C,.int .i64 ct] w (PageR wb w g gs rate sd c s u n bs K (z2q bs C ct) (z4I bs C ct) (z6o bs C ct) (z0Y C ct)):=by
 obtain⟨st,nx,dn⟩:=C;have i0:=q4O w (.cells #[.string ⟨st.toArray⟩,.int .i64 nx,.bool dn] 63) (.cells #[.string ⟨#[]⟩,.int .i64 0,.bool false] 63);have j0:=q0B (w.alloc (.cells #[.string ⟨st.toArray⟩,.int .i64 nx,.bool dn] 63)) (.cells #[.string ⟨#[]⟩,.int .i64 0,.bool false] 63);have HC:=η (fun W=>q7x ⟨st,nx,dn⟩ hs W);have Z:=η ((Blk.new w 63 #[.string ⟨st.toArray⟩,.int .i64 nx,.bool dn]).ext j0);have b:=Blk.new (w.alloc (.cells #[.string ⟨st.toArray⟩,.int .i64 nx,.bool dn] 63)) 63 #[.string ⟨#[]⟩,.int .i64 0,.bool false];rw[ρ] at b;have a0:=η b;have HX:=η i0;have Y:=η h;have g0:((w.alloc (.cells #[.string ⟨st.toArray⟩,.int .i64 nx,.bool dn] 63)).alloc (.cells #[.string ⟨#[]⟩,.int .i64 0,.bool false] 63)).heap.size=w.heap.size+2:=by simp
 have n0:=η g0;obtain⟨z,hz⟩: ∃z,q5q ⟨st,nx,dn⟩=z:=⟨_,rfl⟩
 rw[hz] at HC;have HZ:=η hz;obtain⟨T,hT⟩: ∃T,z2q bs ⟨st,nx,dn⟩ ct=T:=⟨_,rfl⟩
 obtain⟨X,hX⟩: ∃X,z4I bs ⟨st,nx,dn⟩ ct=X:=⟨_,rfl⟩
 obtain⟨E,hE⟩: ∃E,z6o bs ⟨st,nx,dn⟩ ct=E:=⟨_,rfl⟩
 obtain⟨N,hN⟩: ∃N,z0Y ⟨st,nx,dn⟩ ct=N:=⟨_,rfl⟩
 have O:=η hT;have Q:=η hX;have HE:=η hE;have HN:=η hN;rw[hT,hX,hE,hN];clear i0 j0 b h g0 hz hT hX hE hN;go_enter Tryz.func26,Tryz.ntmps26;go_wp2_with fail;refine(HC.o _).mono ?_;rintro e w1 ⟨rfl,hx⟩;have r:=Z.o.ext hx;have b:=a0.o.ext hx;have B:=η (HX.o.trans hx);have o0:=η r;have b0:=η b;have e0:=Y.o.more (K':=fun i=>K i\/i=w.heap.size\/i=w.heap.size+1) B.o fun i l=>by
  rcases l with l|l
  ·exact .inl l
  ·exact .inr (by have:=hx.size;have:=n0.o;omega)
 have I:=η e0;have m0:Hd (wb.heap.size<=w.heap.size):=η Y.o.base.size;have k0:=r.cell 0;have k1:=r.cell 1;have k2:=r.cell 2;have l0:=b.cell 0;have l1:=b.cell 1;have l2:=b.cell 2;have f0:=b.free 0;have f1:=b.free 1;have f2:=b.free 2;clear hx r b HC Z a0 e0 HX;have y: ∀(y:N=2),T=[]/\X=z0D/\E=false:=fun y=>by
  have h0:=HN.o;rw[y] at h0;refine⟨by rw[<-O.o];unfold z2q;rw[ξ (by rw[h0];decide)],by rw[<-Q.o];unfold z4I;rw[ξ (by rw[h0];decide)],by rw[<-HE.o];unfold z6o;rw[ξ (by rw[h0];decide)]⟩
 have c0:=η y
 have d0:Hd (PgM wb w w1 g gs rate sd c s u n bs K w.heap.size (w.heap.size+1) (.slice none 0 0) []):=η ⟨I.o.beside fun i l=>(by
    rcases l with l|l
    ·exact l
    ·cases l),fun i l=>B.o.block i (Y.o.klt i l),⟨rfl,.inl ⟨rfl,rfl⟩⟩,fun i _ e=>(by cases e),⟨m0.o,ι _,Nat.le_succ _⟩,Y.o.klt⟩
 clear y
 cases z with
 | false=>
  have m:Hd (N=2):=η (by rw[<-HN.o];unfold z0Y;exact κ fun h=>by rw[HZ.o] at h;cases h.1);obtain⟨D,F,G⟩:=c0.o m.o;subst D F G;go_wp2_with fail
  ((try simp only[Exit.inBlock,Exit.then]);refine bodyPost_ret (v:= .tuple #[.slice none 0 0,.agg #[.string ⟨#[]⟩,.int .i64 0,.bool false],.bool false,.int .i64 2]) (by rw[q0I rfl];go_simp) rfl ?_)
  rw[m.o];exact(((d0.o.poke (.inr rfl) 0 (.string ⟨#[]⟩)).poke (.inr rfl) 1 (.int .i64 0)).poke (.inr rfl) 2 (.bool false)).done z0D false 2
 | true =>
  by_cases h1:ct<1
  ·have d1:decide (ct<(1:Int))=true:=ζ h1
   have m:Hd (N=2):=η (by rw[<-HN.o];unfold z0Y;exact κ fun h=>by omega);obtain⟨D,F,G⟩:=c0.o m.o;subst D F G;clear h1;go_wp2_with fail
   ((try simp only[Exit.inBlock,Exit.then]);refine bodyPost_ret (v:= .tuple #[.slice none 0 0,.agg #[.string ⟨#[]⟩,.int .i64 0,.bool false],.bool false,.int .i64 2]) (by rw[q0I rfl];go_simp) rfl ?_)
   rw[m.o];exact(((d0.o.poke (.inr rfl) 0 (.string ⟨#[]⟩)).poke (.inr rfl) 1 (.int .i64 0)).poke (.inr rfl) 2 (.bool false)).done z0D false 2
  ·have d1:decide (ct<(1:Int))=false:=ε h1
   have J:Hd (N=0):=η (by rw[<-HN.o];unfold z0Y;exact ξ ⟨HZ.o,by omega⟩);have d:=HN.o;rw[J.o] at d
   cases dn
   ·have j:=η (y0E I.o hn st nx ct HZ.o (by omega) h2)
    have D:z3Q bs st nx ct=T:=by rw[<-O.o];unfold z2q;rw[κ (by rw[d];decide)];rfl
    have F:(⟨st,nx+(T.length:Int),false⟩:Cur)=X:=by rw[<-Q.o];unfold z4I;rw[κ (by rw[d];decide),O.o];rfl
    have G:decide ((T.length:Int)<ct)=E:=by rw[<-HE.o];unfold z6o;rw[κ (by rw[d];decide),O.o];rfl
    rw[D,F,G] at j;clear D F G d h1;go_wp2_with fail;refine j.o.mono ?_;rintro e w3 ⟨v,rfl,q1,R,S,q4⟩;obtain⟨va,vc,rfl⟩:=q0F S;have HM:=η (PgM.of Y.o B.o (ι _) (Nat.le_succ _) q1 R S q4);have b:=b0.o.same (R (w.heap.size+1) (.inr (.inr rfl)));have l0:=b.cell 0;have l1:=b.cell 1;have l2:=b.cell 2;have f0:=b.free 0;have f1:=b.free 1;have f2:=b.free 2;clear q1 R S q4 b j;obtain⟨xs,V,U⟩:=X;go_wp2_with fail
    ((try simp only[Exit.inBlock,Exit.then]);refine bodyPost_ret (v:= .tuple #[.slice va T.length vc,.agg #[.string ⟨xs.toArray⟩,.int .i64 V,.bool U],.bool E,.int .i64 0]) (by rw[q0I rfl];go_simp) rfl ?_)
    rw[J.o];exact(((HM.o.poke (.inr rfl) 0 (.string ⟨xs.toArray⟩)).poke (.inr rfl) 1 (.int .i64 V)).poke (.inr rfl) 2 (.bool U)).done ⟨xs,V,U⟩ E 0
   ·have j:=η (y2W I.o hn st nx ct HZ.o (by omega) h2 (M:=z9L bs ⟨st,nx,true⟩) rfl)
    have D:z1A bs st (z9L bs ⟨st,nx,true⟩) ct=T:=by rw[<-O.o];unfold z2q;rw[κ (by rw[d];decide)];rfl
    rw[D] at j;have F:(⟨st,z9L bs ⟨st,nx,true⟩-(T.length:Int),true⟩:Cur)=X:=by rw[<-Q.o];unfold z4I;rw[κ (by rw[d];decide),O.o];rfl
    have G:decide (z9L bs ⟨st,nx,true⟩-(T.length:Int)<0)=E:=by rw[<-HE.o];unfold z6o;rw[κ (by rw[d];decide),O.o];rfl
    rw[F,G] at j;clear D F G d h1;go_wp2_with fail;refine j.o.mono ?_;rintro e w3 ⟨v,rfl,q1,R,S,q4⟩;obtain⟨va,vc,rfl⟩:=q0F S;have HM:=η (PgM.of Y.o B.o (ι _) (Nat.le_succ _) q1 R S q4);have b:=b0.o.same (R (w.heap.size+1) (.inr (.inr rfl)));have l0:=b.cell 0;have l1:=b.cell 1;have l2:=b.cell 2;have f0:=b.free 0;have f1:=b.free 1;have f2:=b.free 2;clear q1 R S q4 b j;obtain⟨xs,V,U⟩:=X;go_wp2_with fail
    ((try simp only[Exit.inBlock,Exit.then]);refine bodyPost_ret (v:= .tuple #[.slice va T.length vc,.agg #[.string ⟨xs.toArray⟩,.int .i64 V,.bool U],.bool E,.int .i64 0]) (by rw[q0I rfl];go_simp) rfl ?_)
    rw[J.o];exact(((HM.o.poke (.inr rfl) 0 (.string ⟨xs.toArray⟩)).poke (.inr rfl) 1 (.int .i64 V)).poke (.inr rfl) 2 (.bool U)).done ⟨xs,V,U⟩ E 0
end
theorem y0j{bs:List Bt}(h:q3f st nx ct=0):z3Q bs st nx ct=((q7u bs st).drop nx.toNat).take ct.toNat:=by unfold z3Q;rw[ξ h];rfl
theorem y0D{bs:List Bt}(h:q3f st M ct=0)(b:0<=M)(i:M<((q0l bs st).length:Int))(d:1<=ct):z7I bs st M ct=(((q7u bs st).take (M+1).toNat).reverse).take ct.toNat:=by
 unfold z7I z0U;rw[ξ h,List.take_reverse,Θ,q2W,Nat.min_eq_left (by omega),List.drop_take]
 congr 2
 ·omega
 ·congr 1;omega
theorem q7U{b:Type}{L:List b}{k c:Nat}(h:k=c\/L.length<=k)(d:k<=c):L.take k=L.take c:=by
 rcases h with h|h
 ·rw[h]
 ·rw[Δ h,Δ (by omega)]
structure RpL(w3 W:World)(q:Nat)(st:List UInt8)(nx:Int)(dn:Bool):Prop where
 low: ∀i,i<w3.heap.size->i≠q->W.heap[i]? =w3.heap[i]?
 ios:Ios w3 W
 size:w3.heap.size<=W.heap.size
 cur:Blk W q 67 #[.string ⟨st.toArray⟩,.int .i64 nx,.bool dn]
theorem RpL.put{W:World}(h:RpL w3 W q st nx dn)(x:Int):RpL w3 (W.setCell ⟨q,1,none⟩ (.int .i64 x)) q st x dn:=
 ⟨fun i d b=>(heap_setCell_other W ⟨q,1,none⟩ i _ (fun e=>b (by exact e))).trans (h.low i d b),h.ios,by rw[World.size_setCell];exact h.size,h.cur.set 1 _⟩
theorem RpL.grown{W j:World}{n:Nat}{xs:List Value}{lit:Obj}(h:RpL w3 W q st nx dn)(hq:q<w3.heap.size)(r:W.ownsRow w3.heap.size 87 5 v n xs)(d:(W.alloc lit).grownBy j v.ownBlock):RpL w3 j q st nx dn:=by
 have b: ∀i,i<w3.heap.size->j.heap[i]? =W.heap[i]? :=fun i l=>by
  have m:=h.size;rw[d.block i (by rw[ρ];omega) (fun e=>by have:=(q0c r i e.symm).1;omega),(q0B W lit).block i (by omega)]
 refine⟨fun i l o=>(b i l).trans (h.low i l o),?_,?_,h.cur.same (b q hq)⟩
 ·exact h.ios.trans ⟨d.os,d.tape,d.output⟩
 ·have m:=d.size;rw[ρ] at m;have:=h.size;omega
def y5q(w:World)(T:List To)(X:Cur)(E:Bool)(z:Int)(e:Ending)(w':World):Prop:=
 ∃v,e= .returned (.tuple #[v,z7k X,.bool E,.int .i64 z])/\Ext w w'/\w'.ownsRow w.heap.size 87 5 v T.length (q3T T)
theorem q7Q{w W:World}(d:Ext w w3)(j:RpL w3 W w.heap.size st nx dn)(hq:w.heap.size+1<w3.heap.size)(m:W.ownsRow w3.heap.size 87 5 v T.length (q3T T))(X:Cur)(E:Bool)(z:Int):
  y5q w T X E z (.returned (.tuple #[v,z7k X,.bool E,.int .i64 z])) (((W.setCell ⟨w.heap.size+1,0,none⟩ (.string ⟨X.st.toArray⟩)).setCell ⟨w.heap.size+1,1,none⟩ (.int .i64 X.nx)).setCell ⟨w.heap.size+1,2,none⟩ (.bool X.dn)).drew:=by
 have B:Ext w W:=⟨j.ios.1.trans d.os,j.ios.2.1.trans d.tape,j.ios.2.2.trans d.output,Ω d.size j.size,fun i l=>(j.low i (Ψ l d.size) (by omega)).trans (d.block i l)⟩
 have b: ∀i,v.ownBlock=some i->i≠w.heap.size+1:=fun i l e=>by have:=(q0c m i l).1;omega
 refine⟨v,rfl,(((B.setCell (p:=⟨w.heap.size+1,0,none⟩) (Nat.le_succ _) _).setCell (p:=⟨w.heap.size+1,1,none⟩) (Nat.le_succ _) _).setCell (p:=⟨w.heap.size+1,2,none⟩) (Nat.le_succ _) _).drew,?_⟩;have o:=q0S m (a:=⟨w.heap.size+1,0,none⟩) (.string ⟨X.st.toArray⟩) (fun e=>b _ e rfl);have r:=q0S o (a:=⟨w.heap.size+1,1,none⟩) (.int .i64 X.nx) (fun e=>b _ e rfl);have y:=q0S r (a:=⟨w.heap.size+1,2,none⟩) (.bool X.dn) (fun e=>b _ e rfl);exact q1D y d.size
theorem y3W{w : World}{mb base:Nat}{vL vM:Value}{bs:List Bt}{ms:List Value}(h:MoI w mb base vL vM (tos bs) ms)(D1:okBs bs)(hl:(tos bs).length<=8000)(C:Cur)(hs:C.st.length<=9223372036854775807)(ct:Int)(h2:ct<=9223372036854775807):
  Calls Tryz.prog 27 #[.pointer (some ⟨mb,0,none⟩),z7k C,.int .i64 ct] w (y5q w (z2q bs C ct) (z4I bs C ct) (z6o bs C ct) (z0Y C ct)):=by
 obtain⟨st,nx,dn⟩:=C;have F1:=q4O w (.cells #[.string ⟨st.toArray⟩,.int .i64 nx,.bool dn] 67) (.cells #[.string ⟨#[]⟩,.int .i64 0,.bool false] 67);have G1:=q0B (w.alloc (.cells #[.string ⟨st.toArray⟩,.int .i64 nx,.bool dn] 67)) (.cells #[.string ⟨#[]⟩,.int .i64 0,.bool false] 67);have HC:=η (fun W=>y3C ⟨st,nx,dn⟩ hs W);have p1:=η ((Blk.new w 67 #[.string ⟨st.toArray⟩,.int .i64 nx,.bool dn]).ext G1);have d:=Blk.new (w.alloc (.cells #[.string ⟨st.toArray⟩,.int .i64 nx,.bool dn] 67)) 67 #[.string ⟨#[]⟩,.int .i64 0,.bool false];rw[ρ] at d;have q1:=η d;have HX:=η F1;have v1:=η (fun W (k:Ext w W)=>z2j (h.ext k) st (by omega));rw[q6G D1] at v1;obtain⟨z,hz⟩: ∃z,q5q ⟨st,nx,dn⟩=z:=⟨_,rfl⟩
 rw[hz] at HC;have HZ:=η hz;obtain⟨T,hT⟩: ∃T,z2q bs ⟨st,nx,dn⟩ ct=T:=⟨_,rfl⟩
 obtain⟨X,hX⟩: ∃X,z4I bs ⟨st,nx,dn⟩ ct=X:=⟨_,rfl⟩
 obtain⟨E,hE⟩: ∃E,z6o bs ⟨st,nx,dn⟩ ct=E:=⟨_,rfl⟩
 obtain⟨N,hN⟩: ∃N,z0Y ⟨st,nx,dn⟩ ct=N:=⟨_,rfl⟩
 have HT:=η hT;have Z0:=η hX;have HE:=η hE;have HN:=η hN;rw[hT,hX,hE,hN];have W0:(q7u bs st).length=(q0l bs st).length:=q2W _ _;have T1:=q3b bs st;have Q0:=η W0;clear F1 G1 d h D1 hz hT hX hE hN W0;go_enter Tryz.func27,Tryz.ntmps27;go_wp2_with fail;refine(HC.o _).mono ?_;rintro e w1 ⟨rfl,hx⟩;have K0:=p1.o.ext hx;have d:=q1.o.ext hx;have E0:=η (HX.o.trans hx);have H1:=η K0;have r1:=η d;have k0:=K0.cell 0;have k1:=K0.cell 1;have k2:=K0.cell 2;have l0:=d.cell 0;have l1:=d.cell 1;have l2:=d.cell 2;have f0:=d.free 0;have f1:=d.free 1;have f2:=d.free 2;clear hx K0 d HC p1 q1 HX;have N0: ∀(N0:N=2),T=[]/\X=z0D/\E=false:=fun N0=>by
  have h0:=HN.o;rw[N0] at h0;refine⟨by rw[<-HT.o];unfold z2q;rw[ξ (by rw[h0];decide)],by rw[<-Z0.o];unfold z4I;rw[ξ (by rw[h0];decide)],by rw[<-HE.o];unfold z6o;rw[ξ (by rw[h0];decide)]⟩
 have t1:=η N0;clear N0;have U0:N=2/\(z=false\/(z=true/\ct<1))\/(N=0/\z=true/\1<=ct):=by
  cases z with
  |false=>exact .inl ⟨by rw[<-HN.o];unfold z0Y;exact κ (fun h=>by rw[HZ.o] at h;cases h.1),.inl rfl⟩
  | true=>
   by_cases h1:ct<1
   ·exact .inl ⟨by rw[<-HN.o];unfold z0Y;exact κ (fun h=>by omega),.inr ⟨rfl,h1⟩⟩
   ·exact .inr ⟨by rw[<-HN.o];unfold z0Y;exact ξ ⟨HZ.o,by omega⟩,rfl,by omega⟩
 rcases U0 with⟨b1,o1⟩|⟨a1,o1,h1⟩
 ·obtain⟨e1,e2,e3⟩:=t1.o b1
  subst e1 e2 e3;have s1:=η b1;clear b1;rcases o1 with rfl|⟨rfl,h1⟩
  ·go_wp2_with fail
   ((try simp only[Exit.inBlock,Exit.then]);refine bodyPost_ret (v:= .tuple #[.slice none 0 0,.agg #[.string ⟨#[]⟩,.int .i64 0,.bool false],.bool false,.int .i64 2]) (by rw[q0I rfl];go_simp) rfl ?_)
   exact⟨_,by rw[s1.o],((E0.o.setCell (p:=⟨w.heap.size+1,0,none⟩) (Nat.le_succ _) _).setCell (p:=⟨w.heap.size+1,1,none⟩) (Nat.le_succ _) _).setCell (p:=⟨w.heap.size+1,2,none⟩) (Nat.le_succ _) _,⟨rfl,.inl ⟨rfl,rfl⟩⟩⟩
  ·have d1:decide (ct<(1:Int))=true:=ζ h1
   clear h1;go_wp2_with fail
   ((try simp only[Exit.inBlock,Exit.then]);refine bodyPost_ret (v:= .tuple #[.slice none 0 0,.agg #[.string ⟨#[]⟩,.int .i64 0,.bool false],.bool false,.int .i64 2]) (by rw[q0I rfl];go_simp) rfl ?_)
   exact⟨_,by rw[s1.o],((E0.o.setCell (p:=⟨w.heap.size+1,0,none⟩) (Nat.le_succ _) _).setCell (p:=⟨w.heap.size+1,1,none⟩) (Nat.le_succ _) _).setCell (p:=⟨w.heap.size+1,2,none⟩) (Nat.le_succ _) _,⟨rfl,.inl ⟨rfl,rfl⟩⟩⟩
 ·subst o1
  have d1:decide (ct<(1:Int))=false:=ε (by omega);have u0:=η a1;have j1:=HN.o;rw[a1] at j1;have w0:=η j1;have B1:=q5E HZ.o;simp only at B1;obtain⟨C1,O1,P1⟩:=B1;clear a1 j1 t1;go_wp2_with fail;refine(v1.o _ E0.o).mono ?_;rintro e w3 ⟨v0,rfl,l,P0⟩;obtain⟨la,lc,rfl⟩:=q0F l;have y0:=η (E0.o.trans P0);have M1:=E0.o.size;have L0:=H1.o.ext P0;have N1:w.heap.size+1<w1.heap.size:=r1.o.lt;obtain⟨R,hR⟩: ∃R,q7u bs st=R:=⟨_,rfl⟩
  rw[hR] at l Q0;obtain⟨n,hn⟩: ∃n,R.length=n:=⟨_,rfl⟩
  have U1:n<=8000:=by have:=Q0.o;omega
  have S0:Hd (∀W,(∀i,i<w3.heap.size->i≠w.heap.size->W.heap[i]? =w3.heap[i]?)->Tos W la n lc R):=η fun W kk=>by
   have:=(q7V (q1E l fun i hi=>kk i (q0c l i hi).2 (fun e=>by have:=(q0c l i hi).1;omega))).1
   rwa [hn] at this
  have u1:Hd (q7u bs st=R):=η hR;have Hn:=η hn;have Y:Hd (RpL w3 w3 w.heap.size st nx dn):=η ⟨fun i _ _=>rfl,⟨rfl,rfl,rfl⟩,ι _,L0⟩;have t0:=η (r1.o.ext P0);have HQ:Hd (w.heap.size+1<w3.heap.size/\w.heap.size<w3.heap.size):=η (by have:=P0.size;omega);have k0:=L0.cell 0;have k1:=L0.cell 1;have k2:=L0.cell 2;have n1:=S0.o w3 fun _ _ _=>rfl
  have tf:=n1.fits;have tb:=n1.bound;rw[hR];rw[hn];obtain⟨K,hK⟩: ∃K:Nat,ct=(K:Int):=⟨ct.toNat,by omega⟩
  have V:=η hK;clear l P0 L0 N1 hR hn n1 hK M1
  cases dn
  ·have K1 :True:=trivial
   obtain⟨F,hF⟩: ∃F:Nat,nx=(F:Int):=⟨nx.toNat,by have:=(q4E st nx false).1 HZ.o;rcases this.2.2 with h|⟨h,_⟩;omega;cases h⟩
   subst hF;have R0:Hd (T=(R.drop F).take K):=η (by rw[<-HT.o];unfold z2q;rw[κ (by rw[w0.o];decide)];show z3Q bs st (F:Int) ct=_;rw[y0j (z1V HZ.o (by omega) h1),u1.o,V.o];simp);have r0:Hd (X=⟨st,(F:Int)+(T.length:Int),false⟩):=η (by rw[<-Z0.o];unfold z4I;rw[κ (by rw[w0.o];decide),HT.o];rfl);have p0:Hd (E=decide ((T.length:Int)<ct)):=η (by rw[<-HE.o];unfold z6o;rw[κ (by rw[w0.o];decide),HT.o];rfl);clear k0 k1 k2 l0 l1 l2 f0 f1 f2;have k0:=Y.o.cur.cell 0;have k1:=Y.o.cur.cell 1;have k2:=Y.o.cur.cell 2;go_wp2_with fail
   go_loopw [10] (fun oo W=> ∃(k:Nat) (v:Value) (O:List To),oo=v/\k<=K/\Hd (O=(R.drop F).take k/\O.length=k/\(k=0\/F+k<=n))/\W.ownsRow w3.heap.size 87 5 v O.length (q3T O)/\RpL w3 W w.heap.size st ((F:Int)+(k:Int)) false) (fun oo _=>K-(match oo with| .slice _ m _=>m|_=>0))
   case atStart=>exact⟨0,_,[],rfl,υ _,η ⟨by simp,rfl,.inl rfl⟩,⟨rfl,.inl ⟨rfl,rfl⟩⟩,by simpa using Y.o⟩
   case round=>
    obtain⟨k,v,O,rfl,M0,I,l,j⟩:=hrel;obtain⟨oa,oc,rfl⟩:=q0F l;have i0:=I.o.2.1;rw[i0] at l⊢;have y:=η j;have J:=η l;have m0:=j.cur.cell 0;have m1:=j.cur.cell 1;have m2:=j.cur.cell 2;have g1:=j.cur.free 1;have S:=S0.o wr j.low;have r:(k<K/\F+k<n)\/((k=K\/n<=F+k)):=by omega
    clear j l i0 k0 k1 k2;rcases r with⟨z1,z0⟩|r
    ·have d2:decide ((k:Int)<ct)=true:=ζ (by have:=V.o;omega)
     have d3:decide ((F:Int)+(k:Int)<(n:Int))=true:=ζ (by omega);obtain⟨bb,off,rfl,c0,c1,c2,c3,c4⟩:=S.at z0;have U:(R.drop F).take (k+1)=O++[R.getD (F+k) to0]:=by
      rw[List.take_add_one,<-I.o.1,List.getElem?_drop,δ,γ (by rw[Hn.o];exact z0)];rfl
     have B0:=η U;generalize R.getD (F+k) to0=t at*;obtain⟨ts,tv,⟨ty,da,we⟩⟩:=t;simp only at c0 c1 c2 c3 c4;obtain⟨P,hP⟩: ∃P:Nat,F+k=P:=⟨_,rfl⟩
     have a0:(F:Int)+(k:Int)=(P:Int):=by omega
     have q0:=η a0;rw[hP] at c0 c1 c2 c3 c4;have q8:IntKind.i64.wrap ((F:Int)+(k:Int)+1)=(F:Int)+(k:Int)+1:=by rw[ν];omega
     have E1:=q2T;have C0:=η (show Rd (wr.alloc (.cells #[.string ⟨ts.toArray⟩,.int .i64 tv,.string ⟨ty.toArray⟩,.string ⟨da.toArray⟩,.float .f64 we] 87)) (some ⟨wr.heap.size,0,none⟩) (toc ⟨ts,tv,⟨ty,da,we⟩⟩) from Rd.lit wr #[.string ⟨ts.toArray⟩,.int .i64 tv,.string ⟨ty.toArray⟩,.string ⟨da.toArray⟩,.float .f64 we] 87);have e0:=η (q0K J.o (q0B wr (.cells #[.string ⟨ts.toArray⟩,.int .i64 tv,.string ⟨ty.toArray⟩,.string ⟨da.toArray⟩,.float .f64 we] 87)));have D0:Hd (w3.heap.size<=wr.heap.size):=η y.o.size;have A1:k<=8000:=by omega
     clear S U hP
     go_wp2_with (at_builtin;refine q0J rfl _ _ 35 rfl w3.heap.size 87 _ 5 64 Tryz.underlying35 Tryz.infoTo (by decide) (by decide) _ k (q3T O) rfl e0.o _ 1 1 (toc ⟨ts,tv,⟨ty,da,we⟩⟩) rfl rfl (fun h=>by cases h) C0.o (by unfold toc;simp[Value.oneCell']) (by unfold maxLen;omega) (by omega) (by have:=D0.o;simp;omega) ?_;intro v2 w8 G D J0;obtain⟨a2,k2,rfl⟩:=q0F G;have d0:=η G;have B:=η (y.o.grown HQ.o.2 J.o D);have m0:=B.o.cur.cell 0;have m1:=B.o.cur.cell 1;have m2:=B.o.cur.cell 2;have g1:=B.o.cur.free 1;clear G D J0)
     go_roundw
     case rel=>
      refine⟨k+1,_,O++[⟨ts,tv,⟨ty,da,we⟩⟩],rfl,by omega,η ⟨B0.o.symm,by rw[θ,I.o.2.1];rfl,.inr (by omega)⟩,?_,?_⟩
      ·rw[q5O,θ,I.o.2.1]
       exact q0S d0.o (a:=⟨w.heap.size,1,none⟩) _ (fun e=>by have:=(q0c d0.o _ e).1;have:=HQ.o;simp only at*;omega)
      ·rw[show((F:Int)+((k+1:Nat):Int))=(P:Int)+1 by have:=q0.o;omega]
       exact B.o.put ((P:Int)+1)
     case measure=>simp;omega
    ·have j0:T=O:=by rw[R0.o,I.o.1];exact(q7U (by rcases r with h|h;exact .inl h;exact .inr (by rw[List.length_drop,Hn.o];omega)) M0).symm
     have g0:=η j0;have n0:k=K\/(k<K/\n<=F+k):=by omega
     clear j0 r;rcases n0 with r|⟨r,o0⟩
     ·have d2:decide ((k:Int)<ct)=false:=ε (by have:=V.o;omega)
      clear r;have d:=t0.o.same (y.o.low (w.heap.size+1) HQ.o.1 (by omega));have l0:=d.cell 0;have l1:=d.cell 1;have l2:=d.cell 2;have f0:=d.free 0;have f1:=d.free 1;have f2:=d.free 2;clear d S;go_wp2_with fail;refine q0k (fun W:World=>W.cell? ⟨w.heap.size,0,none⟩=some (.string ⟨st.toArray⟩)/\W.cell? ⟨w.heap.size,1,none⟩=some (.int .i64 ((F:Int)+(k:Int)))/\W.cell? ⟨w.heap.size,2,none⟩=some (.bool false)) 8 (by kernel_rfl) ⟨m0,m1,m2⟩ (fun b=>?_);refine q0U 0 b (fun b=>?_);refine q2n 1 b (fun b=>?_);refine q0U 2 b (fun b=>?_);refine q0U 3 b (fun b=>?_);refine q0U 4 b (fun b=>?_);refine q0U 5 b (fun b=>?_);refine q0U 6 b (fun b=>?_);simp only[Act.put,π,ψ,ω];refine q0R (i:=7) (by kernel_rfl) rfl (fun K hK=>?_)
      go_simp
      refine hK.out _ _ ⟨?_,?_,?_⟩ (fun b=>?_)
      ·go_simp
      ·go_simp
      ·go_simp
      clear hK K
      try simp only[Act.put,π,ψ,ω]
      refine q0w (by kernel_rfl) ?_
      try simp only[List.drop_succ_cons,List.drop_zero]
      clear b;go_wp2_with fail
      ((try simp only[Exit.inBlock,Exit.then]);refine bodyPost_ret (v:= .tuple #[.slice oa k oc,.agg #[.string ⟨st.toArray⟩,.int .i64 ((F:Int)+(k:Int)),.bool false],.bool (decide ((k:Int)<ct)),.int .i64 0]) (by rw[q0I rfl];go_simp) rfl ?_)
      have:=q7Q y0.o y.o HQ.o.1 (v:= .slice oa k oc) (T:=O) (by rw[I.o.2.1];exact J.o) ⟨st,(F:Int)+(k:Int),false⟩ (decide ((k:Int)<ct)) 0;rw[r0.o,p0.o,u0.o,g0.o,I.o.2.1];exact this
     ·have d2:decide ((k:Int)<ct)=true:=ζ (by have:=V.o;omega)
      have d3:decide ((F:Int)+(k:Int)<(n:Int))=false:=ε (by omega);clear r o0;have d:=t0.o.same (y.o.low (w.heap.size+1) HQ.o.1 (by omega));have l0:=d.cell 0;have l1:=d.cell 1;have l2:=d.cell 2;have f0:=d.free 0;have f1:=d.free 1;have f2:=d.free 2;clear d S;go_wp2_with fail;refine q0k (fun W:World=>W.cell? ⟨w.heap.size,0,none⟩=some (.string ⟨st.toArray⟩)/\W.cell? ⟨w.heap.size,1,none⟩=some (.int .i64 ((F:Int)+(k:Int)))/\W.cell? ⟨w.heap.size,2,none⟩=some (.bool false)) 8 (by kernel_rfl) ⟨m0,m1,m2⟩ (fun b=>?_);refine q0U 0 b (fun b=>?_);refine q2n 1 b (fun b=>?_);refine q0U 2 b (fun b=>?_);refine q0U 3 b (fun b=>?_);refine q0U 4 b (fun b=>?_);refine q0U 5 b (fun b=>?_);refine q0U 6 b (fun b=>?_);simp only[Act.put,π,ψ,ω];refine q0R (i:=7) (by kernel_rfl) rfl (fun K hK=>?_)
      go_simp
      refine hK.out _ _ ⟨?_,?_,?_⟩ (fun b=>?_)
      ·go_simp
      ·go_simp
      ·go_simp
      clear hK K
      try simp only[Act.put,π,ψ,ω]
      refine q0w (by kernel_rfl) ?_
      try simp only[List.drop_succ_cons,List.drop_zero]
      clear b;go_wp2_with fail
      ((try simp only[Exit.inBlock,Exit.then]);refine bodyPost_ret (v:= .tuple #[.slice oa k oc,.agg #[.string ⟨st.toArray⟩,.int .i64 ((F:Int)+(k:Int)),.bool false],.bool (decide ((k:Int)<ct)),.int .i64 0]) (by rw[q0I rfl];go_simp) rfl ?_)
      have:=q7Q y0.o y.o HQ.o.1 (v:= .slice oa k oc) (T:=O) (by rw[I.o.2.1];exact J.o) ⟨st,(F:Int)+(k:Int),false⟩ (decide ((k:Int)<ct)) 0;rw[r0.o,p0.o,u0.o,g0.o,I.o.2.1];exact this
  ·have K1 : True:=trivial
   obtain⟨M,hM⟩: ∃M:Int,min nx ((n:Int)-1)=M:=⟨_,rfl⟩
   have x1: -1<=M/\M<(n:Int)/\M<=nx:=by omega
   have T0:z9L bs ⟨st,nx,true⟩=M:=by unfold z9L;rw[<-hM,<-Hn.o,Q0.o]
   obtain⟨Q,hQ⟩: ∃Q:Nat,M+1=(Q:Int):=⟨(M+1).toNat,by omega⟩
   have R0:Hd (T=((R.take Q).reverse).take K):=η (by
    rw[<-HT.o];unfold z2q;rw[κ (by rw[w0.o];decide)];show z1A bs st _ ct=_;rw[T0];unfold z1A;by_cases X0:M<0
    ·rw[ξ X0,show Q=0 by omega];simp
    ·rw[κ X0,y0D (z1V (dn:=true) (nx:=M) ((q4E _ _ _).2 ⟨C1,by omega,.inl (by omega)⟩) (by omega) h1) (by omega) (by have:=Q0.o;have:=Hn.o;omega) h1,u1.o,show(M+1).toNat=Q by omega,V.o];simp)
   have r0:Hd (X=⟨st,M-(T.length:Int),true⟩):=η (by rw[<-Z0.o];unfold z4I;rw[κ (by rw[w0.o];decide),HT.o];show(⟨st,z9L bs ⟨st,nx,true⟩-_,true⟩:Cur)=_;rw[T0]);have p0:Hd (E=decide (M-(T.length:Int)<0)):=η (by rw[<-HE.o];unfold z6o;rw[κ (by rw[w0.o];decide),HT.o];show decide (z9L bs ⟨st,nx,true⟩-_<0)=_;rw[T0]);have x0:Hd (Q<=n):=η (by omega);have b0:=η hQ;have R1:=x1.1;have S1:=x1.2.1;clear k0 k1 k2 l0 l1 l2 f0 f1 f2 T0 hQ;have k0:=Y.o.cur.cell 0;have k1:=Y.o.cur.cell 1;have k2:=Y.o.cur.cell 2;have g1:=Y.o.cur.free 1;have q7:IntKind.i64.wrap ((n:Int)-1)=(n:Int)-1:=by rw[ν];omega
   by_cases V0:(n:Int)<=nx
   ·have I1 :decide ((n:Int)<=nx)=true:=ζ V0
    have G0:(n:Int)-1=M:=by omega
    have Y0:Hd (RpL w3 (w3.setCell ⟨w.heap.size,1,none⟩ (.int .i64 M)) w.heap.size st M true):=η (Y.o.put M);have V1:IntKind.i64.wrap ((n:Int)-1)=M:=by rw[q7];exact G0
    have Q1:=η G0;have i1:Hd ((w3.setCell ⟨w.heap.size,1,none⟩ (.int .i64 M)).ownsRow w3.heap.size 87 5 (.slice none 0 0) 0 (q3T [])):=η ⟨rfl,.inl ⟨rfl,rfl⟩⟩;clear V0 q7 G0 hM;go_wp2_with fail
    go_loopw [10] (fun oo W=> ∃(k:Nat) (v:Value) (O:List To),oo=v/\k<=K/\k<=Q/\Hd (O=((R.take Q).reverse).take k/\O.length=k)/\W.ownsRow w3.heap.size 87 5 v O.length (q3T O)/\RpL w3 W w.heap.size st (M-(k:Int)) true) (fun oo _=>K-(match oo with| .slice _ m _=>m|_=>0))
    case atStart=>exact⟨0,_,[],rfl,υ _,υ _,η ⟨by simp,rfl⟩,i1.o,by simpa using Y0.o⟩
    case round=>
     obtain⟨k,v,O,rfl,M0,L1,I,l,j⟩:=hrel;obtain⟨oa,oc,rfl⟩:=q0F l;have i0:=I.o.2;rw[i0] at l⊢;have y:=η j;have J:=η l;have m0:=j.cur.cell 0;have m1:=j.cur.cell 1;have m2:=j.cur.cell 2;have g1:=j.cur.free 1;have S:=S0.o wr j.low;have r:(k<K/\k<Q)\/((k=K\/k=Q)):=by omega
     clear j l i0 k0 k1 k2;rcases r with⟨z1,z0⟩|r
     ·have d2:decide ((k:Int)<ct)=true:=ζ (by have:=V.o;omega)
      have d3:decide ((0:Int)<=M-(k:Int))=true:=ζ (by have:=b0.o;omega);obtain⟨P,hP⟩: ∃P:Nat,Q-1-k=P:=⟨_,rfl⟩
      have H0:P<n:=by have:=x0.o;omega
      obtain⟨bb,off,rfl,c0,c1,c2,c3,c4⟩:=S.at H0;have U:((R.take Q).reverse).take (k+1)=O++[R.getD P to0]:=by
       have O0:(R.take Q).length=Q:=by rw[Θ,Hn.o];have:=x0.o;omega
       rw[List.take_add_one,<-I.o.1,List.getElem?_reverse (by rw[O0];exact z0),O0,hP,List.getElem?_take,ξ (by omega),δ,γ (by rw[Hn.o];exact H0)];rfl
      have B0:=η U;generalize R.getD P to0=t at*;obtain⟨ts,tv,⟨ty,da,we⟩⟩:=t;simp only at c0 c1 c2 c3 c4;have a0:M-(k:Int)=(P:Int):=by have:=b0.o;omega
      have q0:=η a0;have q8:IntKind.i64.wrap ((P:Int)-1)=(P:Int)-1:=by rw[ν];omega
      have y1:(P:Int)<(n:Int):=by omega
      have E1:=q2T;have C0:=η (show Rd (wr.alloc (.cells #[.string ⟨ts.toArray⟩,.int .i64 tv,.string ⟨ty.toArray⟩,.string ⟨da.toArray⟩,.float .f64 we] 87)) (some ⟨wr.heap.size,0,none⟩) (toc ⟨ts,tv,⟨ty,da,we⟩⟩) from Rd.lit wr #[.string ⟨ts.toArray⟩,.int .i64 tv,.string ⟨ty.toArray⟩,.string ⟨da.toArray⟩,.float .f64 we] 87);have e0:=η (q0K J.o (q0B wr (.cells #[.string ⟨ts.toArray⟩,.int .i64 tv,.string ⟨ty.toArray⟩,.string ⟨da.toArray⟩,.float .f64 we] 87)));have D0:Hd (w3.heap.size<=wr.heap.size):=η y.o.size;have A1:k<=8000:=by have:=x0.o;omega
      have J1:0<=(P:Int):=by omega
      rw[a0] at m1 d3;clear S U hP a0
      go_wp2_with (at_builtin;refine q0J rfl _ _ 35 rfl w3.heap.size 87 _ 5 64 Tryz.underlying35 Tryz.infoTo (by decide) (by decide) _ k (q3T O) rfl e0.o _ 1 1 (toc ⟨ts,tv,⟨ty,da,we⟩⟩) rfl rfl (fun h=>by cases h) C0.o (by unfold toc;simp[Value.oneCell']) (by unfold maxLen;omega) (by omega) (by have:=D0.o;simp;omega) ?_;intro v2 w8 G D J0;obtain⟨a2,k2,rfl⟩:=q0F G;have d0:=η G;have B:=η (y.o.grown HQ.o.2 J.o D);have m0:=B.o.cur.cell 0;have m1:=B.o.cur.cell 1;have m2:=B.o.cur.cell 2;have g1:=B.o.cur.free 1;rw[q0.o] at m1;clear G D J0)
      go_roundw
      case rel=>
       refine⟨k+1,_,O++[⟨ts,tv,⟨ty,da,we⟩⟩],rfl,by omega,by omega,η ⟨B0.o.symm,by rw[θ,I.o.2];rfl⟩,?_,?_⟩
       ·rw[q5O,θ,I.o.2]
        exact q0S d0.o (a:=⟨w.heap.size,1,none⟩) _ (fun e=>by have:=(q0c d0.o _ e).1;have:=HQ.o;simp only at*;omega)
       ·rw[show(M-((k+1:Nat):Int))=(P:Int)-1 by have:=q0.o;omega]
        exact B.o.put ((P:Int)-1)
      case measure=>simp;omega
     ·have j0:T=O:=by rw[R0.o,I.o.1];exact(q7U (by rcases r with h|h;exact .inl h;exact .inr (by rw[List.length_reverse,Θ];omega)) M0).symm
      have g0:=η j0;have n0:k=K\/(k<K/\k=Q):=by omega
      have d5:(M-(k:Int)== -1)=decide (M-(k:Int)<0):=by
       have:=b0.o;by_cases h:M-(k:Int)<0
       ·rw[ζ h];exact beq_iff_eq.2 (by omega)
       ·rw[ε h];exact beq_eq_false_iff_ne.2 (by omega)
      have A0:=η d5;obtain⟨Z,s0⟩: ∃Z:Int,M-(k:Int)=Z:=⟨_,rfl⟩
      have F0:=η s0;rw[s0] at m1 d5;have I0:k=K\/Z<0:=by have:=b0.o;omega
      clear j0 r s0;rcases n0 with r|⟨r,o0⟩
      ·have d2:decide ((k:Int)<ct)=false:=ε (by have:=V.o;omega)
       clear r I0 d5;have d:=t0.o.same (y.o.low (w.heap.size+1) HQ.o.1 (by omega));have l0:=d.cell 0;have l1:=d.cell 1;have l2:=d.cell 2;have f0:=d.free 0;have f1:=d.free 1;have f2:=d.free 2;clear d S;go_wp2_with fail;refine q0k (fun W:World=>W.cell? ⟨w.heap.size,0,none⟩=some (.string ⟨st.toArray⟩)/\W.cell? ⟨w.heap.size,1,none⟩=some (.int .i64 (Z))/\W.cell? ⟨w.heap.size,2,none⟩=some (.bool true)) 7 (by kernel_rfl) ⟨m0,m1,m2⟩ (fun b=>?_);refine q0U 0 b (fun b=>?_);refine q2n 1 b (fun b=>?_);refine q0U 2 b (fun b=>?_);refine q2n 3 b (fun b=>?_);refine q0U 4 b (fun b=>?_);refine q0U 5 b (fun b=>?_);simp only[Act.put,π,ψ,ω];refine q0R (i:=6) (by kernel_rfl) rfl (fun K hK=>?_)
       go_simp
       refine hK.out _ _ ⟨?_,?_,?_⟩ (fun b=>?_)
       ·go_simp
       ·go_simp
       ·go_simp
       clear hK K
       try simp only[Act.put,π,ψ,ω]
       refine q0w (by kernel_rfl) ?_
       try simp only[List.drop_succ_cons,List.drop_zero]
       clear b;go_wp2_with fail
       ((try simp only[Exit.inBlock,Exit.then]);refine bodyPost_ret (v:= .tuple #[.slice oa k oc,.agg #[.string ⟨st.toArray⟩,.int .i64 (Z),.bool true],.bool (Z== -1),.int .i64 0]) (by rw[q0I rfl];go_simp) rfl ?_)
       have:=q7Q y0.o y.o HQ.o.1 (v:= .slice oa k oc) (T:=O) (by rw[I.o.2];exact J.o) ⟨st,Z,true⟩ (Z== -1) 0;rw[r0.o,p0.o,u0.o,g0.o,I.o.2,<-A0.o,F0.o];exact this
      ·have d2:decide ((k:Int)<ct)=true:=ζ (by have:=V.o;omega)
       have d3:decide ((0:Int)<=Z)=false:=ε (by omega);clear r o0 I0 d5;have d:=t0.o.same (y.o.low (w.heap.size+1) HQ.o.1 (by omega));have l0:=d.cell 0;have l1:=d.cell 1;have l2:=d.cell 2;have f0:=d.free 0;have f1:=d.free 1;have f2:=d.free 2;clear d S;go_wp2_with fail;refine q0k (fun W:World=>W.cell? ⟨w.heap.size,0,none⟩=some (.string ⟨st.toArray⟩)/\W.cell? ⟨w.heap.size,1,none⟩=some (.int .i64 (Z))/\W.cell? ⟨w.heap.size,2,none⟩=some (.bool true)) 7 (by kernel_rfl) ⟨m0,m1,m2⟩ (fun b=>?_);refine q0U 0 b (fun b=>?_);refine q2n 1 b (fun b=>?_);refine q0U 2 b (fun b=>?_);refine q2n 3 b (fun b=>?_);refine q0U 4 b (fun b=>?_);refine q0U 5 b (fun b=>?_);simp only[Act.put,π,ψ,ω];refine q0R (i:=6) (by kernel_rfl) rfl (fun K hK=>?_)
       go_simp
       refine hK.out _ _ ⟨?_,?_,?_⟩ (fun b=>?_)
       ·go_simp
       ·go_simp
       ·go_simp
       clear hK K
       try simp only[Act.put,π,ψ,ω]
       refine q0w (by kernel_rfl) ?_
       try simp only[List.drop_succ_cons,List.drop_zero]
       clear b;go_wp2_with fail
       ((try simp only[Exit.inBlock,Exit.then]);refine bodyPost_ret (v:= .tuple #[.slice oa k oc,.agg #[.string ⟨st.toArray⟩,.int .i64 (Z),.bool true],.bool (Z== -1),.int .i64 0]) (by rw[q0I rfl];go_simp) rfl ?_)
       have:=q7Q y0.o y.o HQ.o.1 (v:= .slice oa k oc) (T:=O) (by rw[I.o.2];exact J.o) ⟨st,Z,true⟩ (Z== -1) 0;rw[r0.o,p0.o,u0.o,g0.o,I.o.2,<-A0.o,F0.o];exact this
   ·have I1 :decide ((n:Int)<=nx)=false:=ε V0
    have G0:nx=M:=by omega
    subst G0;have Y0:=Y;have i1:Hd (w3.ownsRow w3.heap.size 87 5 (.slice none 0 0) 0 (q3T [])):=η ⟨rfl,.inl ⟨rfl,rfl⟩⟩;clear V0 q7 hM;go_wp2_with fail
    go_loopw [10] (fun oo W=> ∃(k:Nat) (v:Value) (O:List To),oo=v/\k<=K/\k<=Q/\Hd (O=((R.take Q).reverse).take k/\O.length=k)/\W.ownsRow w3.heap.size 87 5 v O.length (q3T O)/\RpL w3 W w.heap.size st (nx-(k:Int)) true) (fun oo _=>K-(match oo with| .slice _ m _=>m|_=>0))
    case atStart=>exact⟨0,_,[],rfl,υ _,υ _,η ⟨by simp,rfl⟩,i1.o,by simpa using Y0.o⟩
    case round=>
     obtain⟨k,v,O,rfl,M0,L1,I,l,j⟩:=hrel;obtain⟨oa,oc,rfl⟩:=q0F l;have i0:=I.o.2;rw[i0] at l⊢;have y:=η j;have J:=η l;have m0:=j.cur.cell 0;have m1:=j.cur.cell 1;have m2:=j.cur.cell 2;have g1:=j.cur.free 1;have S:=S0.o wr j.low;have r:(k<K/\k<Q)\/((k=K\/k=Q)):=by omega
     clear j l i0 k0 k1 k2;rcases r with⟨z1,z0⟩|r
     ·have d2:decide ((k:Int)<ct)=true:=ζ (by have:=V.o;omega)
      have d3:decide ((0:Int)<=nx-(k:Int))=true:=ζ (by have:=b0.o;omega);obtain⟨P,hP⟩: ∃P:Nat,Q-1-k=P:=⟨_,rfl⟩
      have H0:P<n:=by have:=x0.o;omega
      obtain⟨bb,off,rfl,c0,c1,c2,c3,c4⟩:=S.at H0;have U:((R.take Q).reverse).take (k+1)=O++[R.getD P to0]:=by
       have O0:(R.take Q).length=Q:=by rw[Θ,Hn.o];have:=x0.o;omega
       rw[List.take_add_one,<-I.o.1,List.getElem?_reverse (by rw[O0];exact z0),O0,hP,List.getElem?_take,ξ (by omega),δ,γ (by rw[Hn.o];exact H0)];rfl
      have B0:=η U;generalize R.getD P to0=t at*;obtain⟨ts,tv,⟨ty,da,we⟩⟩:=t;simp only at c0 c1 c2 c3 c4;have a0:nx-(k:Int)=(P:Int):=by have:=b0.o;omega
      have q0:=η a0;have q8:IntKind.i64.wrap ((P:Int)-1)=(P:Int)-1:=by rw[ν];omega
      have y1:(P:Int)<(n:Int):=by omega
      have E1:=q2T;have C0:=η (show Rd (wr.alloc (.cells #[.string ⟨ts.toArray⟩,.int .i64 tv,.string ⟨ty.toArray⟩,.string ⟨da.toArray⟩,.float .f64 we] 87)) (some ⟨wr.heap.size,0,none⟩) (toc ⟨ts,tv,⟨ty,da,we⟩⟩) from Rd.lit wr #[.string ⟨ts.toArray⟩,.int .i64 tv,.string ⟨ty.toArray⟩,.string ⟨da.toArray⟩,.float .f64 we] 87);have e0:=η (q0K J.o (q0B wr (.cells #[.string ⟨ts.toArray⟩,.int .i64 tv,.string ⟨ty.toArray⟩,.string ⟨da.toArray⟩,.float .f64 we] 87)));have D0:Hd (w3.heap.size<=wr.heap.size):=η y.o.size;have A1:k<=8000:=by have:=x0.o;omega
      have J1:0<=(P:Int):=by omega
      rw[a0] at m1 d3;clear S U hP a0
      go_wp2_with (at_builtin;refine q0J rfl _ _ 35 rfl w3.heap.size 87 _ 5 64 Tryz.underlying35 Tryz.infoTo (by decide) (by decide) _ k (q3T O) rfl e0.o _ 1 1 (toc ⟨ts,tv,⟨ty,da,we⟩⟩) rfl rfl (fun h=>by cases h) C0.o (by unfold toc;simp[Value.oneCell']) (by unfold maxLen;omega) (by omega) (by have:=D0.o;simp;omega) ?_;intro v2 w8 G D J0;obtain⟨a2,k2,rfl⟩:=q0F G;have d0:=η G;have B:=η (y.o.grown HQ.o.2 J.o D);have m0:=B.o.cur.cell 0;have m1:=B.o.cur.cell 1;have m2:=B.o.cur.cell 2;have g1:=B.o.cur.free 1;rw[q0.o] at m1;clear G D J0)
      go_roundw
      case rel=>
       refine⟨k+1,_,O++[⟨ts,tv,⟨ty,da,we⟩⟩],rfl,by omega,by omega,η ⟨B0.o.symm,by rw[θ,I.o.2];rfl⟩,?_,?_⟩
       ·rw[q5O,θ,I.o.2]
        exact q0S d0.o (a:=⟨w.heap.size,1,none⟩) _ (fun e=>by have:=(q0c d0.o _ e).1;have:=HQ.o;simp only at*;omega)
       ·rw[show(nx-((k+1:Nat):Int))=(P:Int)-1 by have:=q0.o;omega]
        exact B.o.put ((P:Int)-1)
      case measure=>simp;omega
     ·have j0:T=O:=by rw[R0.o,I.o.1];exact(q7U (by rcases r with h|h;exact .inl h;exact .inr (by rw[List.length_reverse,Θ];omega)) M0).symm
      have g0:=η j0;have n0:k=K\/(k<K/\k=Q):=by omega
      have d5:(nx-(k:Int)== -1)=decide (nx-(k:Int)<0):=by
       have:=b0.o;by_cases h:nx-(k:Int)<0
       ·rw[ζ h];exact beq_iff_eq.2 (by omega)
       ·rw[ε h];exact beq_eq_false_iff_ne.2 (by omega)
      have A0:=η d5;obtain⟨Z,s0⟩: ∃Z:Int,nx-(k:Int)=Z:=⟨_,rfl⟩
      have F0:=η s0;rw[s0] at m1 d5;have I0:k=K\/Z<0:=by have:=b0.o;omega
      clear j0 r s0;rcases n0 with r|⟨r,o0⟩
      ·have d2:decide ((k:Int)<ct)=false:=ε (by have:=V.o;omega)
       clear r I0 d5;have d:=t0.o.same (y.o.low (w.heap.size+1) HQ.o.1 (by omega));have l0:=d.cell 0;have l1:=d.cell 1;have l2:=d.cell 2;have f0:=d.free 0;have f1:=d.free 1;have f2:=d.free 2;clear d S;go_wp2_with fail;refine q0k (fun W:World=>W.cell? ⟨w.heap.size,0,none⟩=some (.string ⟨st.toArray⟩)/\W.cell? ⟨w.heap.size,1,none⟩=some (.int .i64 (Z))/\W.cell? ⟨w.heap.size,2,none⟩=some (.bool true)) 7 (by kernel_rfl) ⟨m0,m1,m2⟩ (fun b=>?_);refine q0U 0 b (fun b=>?_);refine q2n 1 b (fun b=>?_);refine q0U 2 b (fun b=>?_);refine q2n 3 b (fun b=>?_);refine q0U 4 b (fun b=>?_);refine q0U 5 b (fun b=>?_);simp only[Act.put,π,ψ,ω];refine q0R (i:=6) (by kernel_rfl) rfl (fun K hK=>?_)
       go_simp
       refine hK.out _ _ ⟨?_,?_,?_⟩ (fun b=>?_)
       ·go_simp
       ·go_simp
       ·go_simp
       clear hK K
       try simp only[Act.put,π,ψ,ω]
       refine q0w (by kernel_rfl) ?_
       try simp only[List.drop_succ_cons,List.drop_zero]
       clear b;go_wp2_with fail
       ((try simp only[Exit.inBlock,Exit.then]);refine bodyPost_ret (v:= .tuple #[.slice oa k oc,.agg #[.string ⟨st.toArray⟩,.int .i64 (Z),.bool true],.bool (Z== -1),.int .i64 0]) (by rw[q0I rfl];go_simp) rfl ?_)
       have:=q7Q y0.o y.o HQ.o.1 (v:= .slice oa k oc) (T:=O) (by rw[I.o.2];exact J.o) ⟨st,Z,true⟩ (Z== -1) 0;rw[r0.o,p0.o,u0.o,g0.o,I.o.2,<-A0.o,F0.o];exact this
      ·have d2:decide ((k:Int)<ct)=true:=ζ (by have:=V.o;omega)
       have d3:decide ((0:Int)<=Z)=false:=ε (by omega);clear r o0 I0 d5;have d:=t0.o.same (y.o.low (w.heap.size+1) HQ.o.1 (by omega));have l0:=d.cell 0;have l1:=d.cell 1;have l2:=d.cell 2;have f0:=d.free 0;have f1:=d.free 1;have f2:=d.free 2;clear d S;go_wp2_with fail;refine q0k (fun W:World=>W.cell? ⟨w.heap.size,0,none⟩=some (.string ⟨st.toArray⟩)/\W.cell? ⟨w.heap.size,1,none⟩=some (.int .i64 (Z))/\W.cell? ⟨w.heap.size,2,none⟩=some (.bool true)) 7 (by kernel_rfl) ⟨m0,m1,m2⟩ (fun b=>?_);refine q0U 0 b (fun b=>?_);refine q2n 1 b (fun b=>?_);refine q0U 2 b (fun b=>?_);refine q2n 3 b (fun b=>?_);refine q0U 4 b (fun b=>?_);refine q0U 5 b (fun b=>?_);simp only[Act.put,π,ψ,ω];refine q0R (i:=6) (by kernel_rfl) rfl (fun K hK=>?_)
       go_simp
       refine hK.out _ _ ⟨?_,?_,?_⟩ (fun b=>?_)
       ·go_simp
       ·go_simp
       ·go_simp
       clear hK K
       try simp only[Act.put,π,ψ,ω]
       refine q0w (by kernel_rfl) ?_
       try simp only[List.drop_succ_cons,List.drop_zero]
       clear b;go_wp2_with fail
       ((try simp only[Exit.inBlock,Exit.then]);refine bodyPost_ret (v:= .tuple #[.slice oa k oc,.agg #[.string ⟨st.toArray⟩,.int .i64 (Z),.bool true],.bool (Z== -1),.int .i64 0]) (by rw[q0I rfl];go_simp) rfl ?_)
       have:=q7Q y0.o y.o HQ.o.1 (v:= .slice oa k oc) (T:=O) (by rw[I.o.2];exact J.o) ⟨st,Z,true⟩ (Z== -1) 0;rw[r0.o,p0.o,u0.o,g0.o,I.o.2,<-A0.o,F0.o];exact this
end
end Go.Proofs.YthdekbmdkpcooaaGreatDoor
