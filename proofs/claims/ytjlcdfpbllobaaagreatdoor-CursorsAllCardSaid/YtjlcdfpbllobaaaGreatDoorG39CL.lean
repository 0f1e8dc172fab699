/- Walks. -/
import Derived.Test.YtjlcdfpbllobaaaGreatDoorG38CL
set_option linter.unusedVariables false
set_option linter.unusedSimpArgs false
set_option maxRecDepth 100000
set_option maxHeartbeats 12800000
namespace Go.Proofs.YtjlcdfpbllobaaaGreatDoor
variable {nx ct:Int}{q p bc bd i B n' vc:Nat}{α:Type}{t e:TypeId}{a0 a1 a2:Value}{va:Option Addr}
section
open Go.RowKit
abbrev stp :Bt:=⟨[115],0,[evA,y0p,y0q]⟩
theorem y6Q :z3k [] [115] (-1) [evA,y0p,y0q]=0:=by decide
theorem y5y :q4F ⟨[115],1,false⟩=true:=by decide
theorem y6R :y4E ⟨[115],1,false⟩=[102,50,58,115]:=by
 unfold y4E;rw[ξ y5y];unfold q6x;rw[show((1:Int)+1).toNat=2 from rfl,Lib.decDigits_one (by decide)];rfl
theorem y6S :z1a [stp] ⟨[115],1,false⟩ 5=[⟨[115],1,y0p⟩,⟨[115],2,y0q⟩]:=rfl
theorem y6T :z6v [stp] ⟨[115],1,false⟩ 5=⟨[115],3,false⟩:=rfl
theorem y6U :z6w [stp] ⟨[115],1,false⟩ 5=true:=rfl
theorem y6V :z1y ⟨[115],1,false⟩ 5=0:=rfl
theorem y6W :q4F ⟨[115],9,true⟩=true:=by decide
theorem y6X :z1a [stp] ⟨[115],9,true⟩ 2=[⟨[115],2,y0q⟩,⟨[115],1,y0p⟩]:=rfl
theorem y6Y :z6v [stp] ⟨[115],9,true⟩ 2=⟨[115],0,true⟩:=rfl
theorem y6Z :z6w [stp] ⟨[115],9,true⟩ 2=false:=rfl
theorem y6a :z1y ⟨[115],9,true⟩ 2=0:=rfl
theorem y6b :y0A (q4d [102,48,58,115])=(z7Q,10):=by decide
theorem y6c :y0A (q4d [98,48,58,115])=(⟨[115],-1,true⟩,0):=by decide
theorem y6d :y0A (q4d [102,48,49,58,115])=(z7Q,10):=by decide
theorem y3c(w:World)(ht:TabW w):Calls Tryz.prog 27 #[] w fun e w'=>e= .returned (.bool true)/\Ext w w':=by
 have HT:=η ht;have HO:=η (z0V 0 0 0 w (by decide) (by decide));clear ht;go_enter Tryz.func27,Tryz.ntmps27;go_wp2_with fail;refine HO.o.mono ?_;rintro e w1 ⟨g,gs,rfl,F⟩;have u0:=q0B w1 (.cells #[.string ⟨#[97]⟩,.string ⟨#[]⟩,.float .f64 0,.string ⟨#[98]⟩,.string ⟨#[]⟩,.float .f64 0,.string ⟨#[99]⟩,.string ⟨#[]⟩,.float .f64 0] 97);have o0:=Blk.new w1 97 #[.string ⟨#[97]⟩,.string ⟨#[]⟩,.float .f64 0,.string ⟨#[98]⟩,.string ⟨#[]⟩,.float .f64 0,.string ⟨#[99]⟩,.string ⟨#[]⟩,.float .f64 0];have r0:=F.more (K':=fun i=>i=w1.heap.size) u0 fun i E=> .inr (by rw[ρ];omega)
 have c0:=η (r0.append (by omega) [115] (by decide) (-1) (L:=[evA,y0p,y0q]) (fun W _ hs=>(by
  have:=(o0.same (hs _ rfl)).evs (L:=[evA,y0p,y0q]) (k:=3) (by decide) (by decide)
  rwa [Δ (by decide)] at this)) (z1j (by decide)) (by decide) y6Q)
 have O:=η (fun W=>q8A [115] 1 false (by decide) W);rw[y5y] at O;simp only[if_true] at O;clear F u0 o0 r0 HO;go_wp2_with fail;refine c0.o.mono ?_;rintro e w2 ⟨x,y,K0,rfl,F,_,h3⟩;rcases h3 with⟨h3,_⟩|⟨_,_,_,_,h3⟩|⟨_,rfl,rfl,rfl⟩
 ·exact absurd rfl h3
 ·omega
 have HK:=η (F.beside (K':=noI) fun i E=>E.elim);clear F c0;go_wp2_with fail;refine(O.o _).mono ?_;rintro e w3 ⟨rfl,j⟩;have b:=q0B w3 (.cells #[.string ⟨#[115]⟩,.int .i64 1,.bool false] 86);have p0:=Blk.new w3 86 #[.string ⟨#[115]⟩,.int .i64 1,.bool false];have l0:=η (HK.o.more (K':=fun i=>i=w3.heap.size) (j.trans b) fun i E=> .inr ⟨by have:=j.size;omega,by rw[ρ];omega⟩);obtain⟨bc,q0⟩: ∃bc,w3.heap.size=bc:=⟨_,rfl⟩
 have v0:=η p0;have Q:=η (z7n ⟨[115],1,false⟩ (by decide) (w3.alloc (.cells #[.string ⟨#[115]⟩,.int .i64 1,.bool false] 86)) (HT.o.ext l0.o.base));rw[y5y,y6R] at Q;simp only[if_true] at Q;clear j b p0 O q0;go_wp2_with fail;refine Q.o.mono ?_;rintro e w4 ⟨rfl,j⟩;have A0:=η (l0.o.grow j);have hc:=v0.o.ext j;have d0:=η hc;have k0:=hc.cell 0;have k1:=hc.cell 1;have k2:=hc.cell 2;have l:=η (q7M A0.o (by omega) ⟨[115],1,false⟩ (by decide) 5 (by decide));simp only[List.nil_append] at l;rw[show(⟨[115],(q0c [] [115]).length,[evA,y0p,y0q]⟩:Bt)=stp from rfl,y6S,y6T,y6U,y6V] at l;clear j hc Q;go_wp2_with fail;refine l.o.mono ?_;rintro e U ⟨v1,rfl,F,hs,hr,hd⟩;obtain⟨va,vc,rfl⟩:=q0F hr;obtain⟨K5,b0⟩: ∃K5:Nat->Prop,(fun i=>i=w3.heap.size\/(Value.slice va [(⟨[115],1,y0p⟩:To),⟨[115],2,y0q⟩].length vc).ownBlock=some i)=K5:=⟨_,rfl⟩
 rw[b0] at F;have C0:Hd (∀W,Stay K5 U W->Tos W va 2 vc [(⟨[115],1,y0p⟩:To),⟨[115],2,y0q⟩]):=η fun W kk=>(q6M (q0Z hr fun i E=>kk i (by rw[<-b0];exact .inr E))).1
 have b:=q0B U (.cells #[.string ⟨#[115]⟩,.int .i64 3,.bool false] 86);have N:=Blk.new U 86 #[.string ⟨#[115]⟩,.int .i64 3,.bool false];have x0:=η N;have m0:=η (F.more (K':=fun i=>K5 i\/i=U.heap.size) b fun i E=>E.imp id fun e=>by rw[ρ];omega);have D0:Hd (Stay K5 U (U.alloc (.cells #[.string ⟨#[115]⟩,.int .i64 3,.bool false] 86))):=η (F.kExt b);have s:=η (fun W=>q8A [115] 9 true (by decide) W);rw[y6W] at s;simp only[if_true] at s;clear F hs hr hd b N b0 l k0 k1 k2 d0;go_wp2_with fail;refine(s.o _).mono ?_;rintro e w6 ⟨rfl,j⟩;have b:=q0B w6 (.cells #[.string ⟨#[115]⟩,.int .i64 9,.bool true] 86);have J:=Blk.new w6 86 #[.string ⟨#[115]⟩,.int .i64 9,.bool true];have J0:=η J;have R:=j.trans b;have g0:=η (x0.o.ext R);have E0:=η (D0.o.trans (fun i E=>R.block i (m0.o.klt i (.inl E))));have B0:=η (m0.o.more (K':=fun i=>(K5 i\/i=U.heap.size)\/i=w6.heap.size) R fun i E=>E.imp id fun e=>by rw[ρ];have:=j.size;rw[ρ] at this;rw[ρ];omega);have k0:=J.cell 0;have k1:=J.cell 1;have k2:=J.cell 2;have l:=η (q7M B0.o (by omega) ⟨[115],9,true⟩ (by decide) 2 (by decide));rw[y6X,y6Y,y6Z,y6a] at l;clear j b J R s;go_wp2_with fail;refine l.o.mono ?_;rintro e w7 ⟨v2,rfl,F,hs,hr,hd⟩;obtain⟨vb,vd,rfl⟩:=q0F hr;have t0:=(q6M hr).1;have s0:=C0.o w7 (E0.o.trans fun i E=>hs i (.inl (.inl E)));have S:=g0.o.same (hs U.heap.size (.inl (.inr rfl)));have b:=q0B w7 (.cells #[.string ⟨#[115]⟩,.int .i64 0,.bool true] 86);have M:=Blk.new w7 86 #[.string ⟨#[115]⟩,.int .i64 0,.bool true];have C:=η (s0.ext b);have D:=η (t0.ext b);have h0:=η (S.ext b);have w0:=η M;have F0:=η (F.base.trans b);have V:=η (fun W=>z2P [102,48,58,115] (by decide) W);have Y:=η (fun W=>z2P [98,48,58,115] (by decide) W);have Z:=η (fun W=>z2P [102,48,49,58,115] (by decide) W);rw[y6b] at V;rw[y6c] at Y;rw[y6d] at Z;simp only at V Y Z;clear F hs hr hd s0 t0 S b M l k0 k1 k2;go_wp2_with fail;refine(V.o _).mono ?_;rintro e w8 ⟨rfl,j⟩;have G:=j.trans (q0B w8 (.cells #[.string ⟨#[]⟩,.int .i64 0,.bool false] 86));have G0:=η (F0.o.trans G);have C:=η (C.o.ext G);have D:=η (D.o.ext G);have i0:=η (h0.o.ext G);have e0:=η (w0.o.ext G);clear j G;go_wp2_with fail;refine(Y.o _).mono ?_;rintro e w9 ⟨rfl,j⟩;have b:=q0B w9 (.cells #[.string ⟨#[115]⟩,.int .i64 (-1),.bool true] 86);have r:=Blk.new w9 86 #[.string ⟨#[115]⟩,.int .i64 (-1),.bool true];have I:=j.trans b;have z0:=η r;have H0:=η (G0.o.trans I);have C:=η (C.o.ext I);have D:=η (D.o.ext I);have j0:=η (i0.o.ext I);have f0:=η (e0.o.ext I);clear j I b r;go_wp2_with fail;refine(Z.o _).mono ?_;rintro e I0 ⟨rfl,j⟩;have d:=j.trans (q0B I0 (.cells #[.string ⟨#[]⟩,.int .i64 0,.bool false] 86));have n0:=η (H0.o.trans d);have N:=j0.o.ext d;have M:=f0.o.ext d;have r:=z0.o.ext d;have n1:=N.cell 1;have m1:=M.cell 1;have y0:=r.cell 0;have y1:=r.cell 1;have y2:=r.cell 2;obtain⟨ab,ao,rfl,_,a1,_,_,_⟩:=(C.o.ext d).at (i:=0) (by omega);obtain⟨_,_,e1,_,a2,_,_,_⟩:=(C.o.ext d).at (i:=1) (by decide)
 cases e1;obtain⟨bb,bo,rfl,_,b1,_,_,_⟩:=(D.o.ext d).at (i:=0) (by decide);obtain⟨_,_,e1,_,b2,_,_,_⟩:=(D.o.ext d).at (i:=1) (by decide)
 cases e1;simp only[List.getD_cons_zero,List.getD_cons_succ,Nat.zero_mul,Nat.one_mul,Nat.add_zero] at a1 a2 b1 b2;clear j d N M r;go_wp2_with fail;go_ret;exact⟨rfl,n0.o⟩
theorem z5O{bs:List Bt}{st:List UInt8}(h:q3T st nx ct=0):z2c bs st nx ct=((q5U bs st).drop nx.toNat).take ct.toNat:=by unfold z2c;rw[ξ h];rfl
theorem y0O{bs:List Bt}{st:List UInt8}{M:Int}(h:q3T st M ct=0)(b:0<=M)(j:M<((q0c bs st).length:Int))(d:1<=ct):z7P bs st M ct=(((q5U bs st).take (M+1).toNat).reverse).take ct.toNat:=by
 unfold z7P z0X;rw[ξ h,List.take_reverse,Θ,q2D,Nat.min_eq_left (by omega),List.drop_take]
 congr 2
 ·omega
 ·congr 1;omega
theorem z0N{d W:World}{j:Nat}{b:Bool}(h:d.heap.size=q)(k:W.frozen? ⟨q,j,none⟩=b):W.frozen? ⟨d.heap.size,j,none⟩=b:=h▸k
section
variable {wb w W W':World}{g gs gs' mb rate u n k:Nat}{sd c:Int}{bs bs2:List Bt}{vL vM:Value}{str str':List UInt8}{X X':Nat->Prop}
theorem TW.read(h:TW wb w g gs rate sd c u n bs mb vL vM k bs2 str noP noP X){v:Value}(r:SK wb W g gs rate sd c 0 u n bs (fun i=>(MoB mb vL vM i\/InW noP i\/InW noP i\/X i)\/v.ownBlock=some i))(l:Stay (fun i=>MoB mb vL vM i\/InW noP i\/InW noP i\/X i) w W)(o: ∀i,(MoB mb vL vM i\/InW noP i\/InW noP i\/X i)->v.ownBlock≠some i):
  TW wb W g gs rate sd c u n bs mb vL vM k bs2 str noP noP (fun i=>X i\/v.ownBlock=some i)/\Stay X w W:=by
 obtain⟨C,hm,y⟩:=h.mo;refine⟨⟨r.beside fun i b=>?_,⟨C,hm.same fun i b=>l i (.inl b),y⟩,h.ok2,h.few2,fun i b=>⟨(h.lowM i b).1,fun e=>?_⟩,fun j x s d=>(by cases d),fun j x s d=>(by cases d),fun j x s d=>(by cases d),fun j x s d=>(by cases d)⟩,fun i b=>l i (.inr (.inr (.inr b)))⟩
 ·rcases b with b|b|b|b|b
  ·exact .inl (.inl b)
  ·exact absurd b z0T
  ·exact absurd b z0T
  ·exact .inl (.inr (.inr (.inr b)))
  ·exact .inr b
 ·rcases e with e|e
  ·exact(h.lowM i b).2 e
  ·exact o i (.inl b) e
theorem TW.base(h:TW wb W g gs rate sd c u n bs mb vL vM k bs2 str noP noP X):Ext wb W:=h.sk.base
end
theorem y1B(x:Int):0<=bits .and .i64 x 7/\bits .and .i64 x 7<=7:=by
 have h:(BitVec.ofInt 64 x&&&BitVec.ofInt 64 7).toNat<=7:=by
  rw[BitVec.toNat_and];exact Nat.and_le_right
 have e:bits .and .i64 x 7=IntKind.i64.wrap (((BitVec.ofInt 64 x&&&BitVec.ofInt 64 7).toNat:Nat):Int):=rfl;rw[e,ν];omega
theorem upL(T:List α){s:Nat}(d:p<=T.length):T.take p++(T.drop p).take s=T.take (p+((T.drop p).take s).length)/\((T.drop p).take s).length=min s (T.length-p):=by
 have h:((T.drop p).take s).length=min s (T.length-p):=by rw[Θ,List.length_drop]
 refine⟨?_,h⟩;rw[h,<-List.take_add];by_cases b:s<=T.length-p
 ·rw[Nat.min_eq_left b]
 ·rw[Nat.min_eq_right (by omega),Δ (by omega),Δ (by omega)]
theorem dnL(T:List α){s:Nat}(hq:q<=T.length):(T.drop q).reverse++((T.take q).reverse).take s=(T.drop (q-(((T.take q).reverse).take s).length)).reverse/\(((T.take q).reverse).take s).length=min s q:=by
 have h:(((T.take q).reverse).take s).length=min s q:=by rw[Θ,List.length_reverse,Θ];omega
 refine⟨?_,h⟩;rw[h,List.take_reverse,Θ,Nat.min_eq_left hq,<-List.reverse_append]
 congr 1
 have e:q-s=q-min s q:=by omega
 rw[e]
 conv=>rhs;rw[<-List.take_append_drop q T]
 rw[List.drop_append,Θ,Nat.min_eq_left hq,show q-min s q-q=0 by omega,List.drop_zero]
section
variable {wb w W W2:World}{g gs mb rate u n k:Nat}{sd c:Int}{bs bs2:List Bt}{vL vM v v2:Value}{str:List UInt8}{X:Nat->Prop}{base sz m m2:Nat}{ti:TypeId}{ys ys2:List Value}
theorem TW.six(h:TW wb W g gs rate sd c u n bs mb vL vM k bs2 str noP noP X)(hc:X bc)(b:X bd)(b1:wb.heap.size<=bc)(b2:wb.heap.size<=bd)(d j v2 l o r:Value):TW wb ((((((W.setCell ⟨bc,0,none⟩ d).setCell ⟨bc,1,none⟩ j).setCell ⟨bc,2,none⟩ v2).setCell ⟨bd,0,none⟩ l).setCell ⟨bd,1,none⟩ o).setCell ⟨bd,2,none⟩ r) g gs rate sd c u n bs mb vL vM k bs2 str noP noP X:=
 (((((h.poke hc b1 0 d).poke hc b1 1 j).poke hc b1 2 v2).poke b b2 0 l).poke b b2 1 o).poke b b2 2 r
theorem TW.row(h:TW wb W g gs rate sd c u n bs mb vL vM k bs2 str noP noP (fun i=>X i\/v.ownBlock=some i))(C:wb.heap.size<=base)(hq:W.ownsRow base ti sz v m ys)(G:W2.ownsRow base ti sz v2 m2 ys2)(E:W.grownBy W2 v.ownBlock)(o:v2.ownBlock=v.ownBlock\/v2.ownBlock=some W.heap.size)(D: ∀i,X i->v.ownBlock≠some i):
  TW wb W2 g gs rate sd c u n bs mb vL vM k bs2 str noP noP (fun i=>X i\/v2.ownBlock=some i)/\Stay X W W2/\ ∀i,X i->v2.ownBlock≠some i:=by
 have l: ∀i,MoB mb vL vM i->v.ownBlock≠some i:=fun i b e=>(h.lowM i b).2 (.inr e)
 have hK: ∀i,(MoB mb vL vM i\/X i)->v.ownBlock≠some i:=fun i b=>by rcases b with b|b;exact l i b;exact D i b
 obtain⟨k1,r,y⟩:=(h.sk.beside (K':=fun i=>(MoB mb vL vM i\/X i)\/v.ownBlock=some i) fun i b=>by
  rcases b with(b|b)|b
  ·exact .inl b
  ·exact .inr (.inr (.inr (.inl b)))
  ·exact .inr (.inr (.inr (.inr b)))).row0 C hq G E o hK
 obtain⟨I,hm,F⟩:=h.mo;refine⟨⟨k1.beside fun i b=>?_,⟨I,hm.same fun i b=>r i (.inl b),F⟩,h.ok2,h.few2,fun i b=>⟨(h.lowM i b).1,fun e=>?_⟩,fun j x s d=>(by cases d),fun j x s d=>(by cases d),fun j x s d=>(by cases d),fun j x s d=>(by cases d)⟩,fun i b=>r i (.inr b),fun i b=>y i (.inr b)⟩
 ·rcases b with b|b|b|b|b
  ·exact .inl (.inl b)
  ·exact absurd b z0T
  ·exact absurd b z0T
  ·exact .inl (.inr b)
  ·exact .inr b
 ·rcases e with e|e
  ·exact(h.lowM i b).2 (.inl e)
  ·exact y i (.inl b) e
end
theorem z9i{W:World}(b:i≠bc)(d:i≠bd)(j l v2 o r s:Value):((((((W.setCell ⟨bc,0,none⟩ j).setCell ⟨bc,1,none⟩ l).setCell ⟨bc,2,none⟩ v2).setCell ⟨bd,0,none⟩ o).setCell ⟨bd,1,none⟩ r).setCell ⟨bd,2,none⟩ s).heap[i]? =W.heap[i]? :=by
 rw[Below.heap_setCell _ _ _ _ d,Below.heap_setCell _ _ _ _ d,Below.heap_setCell _ _ _ _ d,Below.heap_setCell _ _ _ _ b,Below.heap_setCell _ _ _ _ b,Below.heap_setCell _ _ _ _ b]
theorem y6B{W:World}(h:bc≠bd)(k:Blk W bc t #[a0,a1,a2])(b d v2 j l r:Value):Blk ((((((W.setCell ⟨bc,0,none⟩ b).setCell ⟨bc,1,none⟩ d).setCell ⟨bc,2,none⟩ v2).setCell ⟨bd,0,none⟩ j).setCell ⟨bd,1,none⟩ l).setCell ⟨bd,2,none⟩ r) bc t #[b,d,v2]:=
 (((((k.set 0 b).set 1 d).set 2 v2).o h 0 j).o h 1 l).o h 2 r
theorem y6C{W:World}(h:bc≠bd)(k:Blk W bd t #[a0,a1,a2])(l r v2 b d j:Value):Blk ((((((W.setCell ⟨bc,0,none⟩ l).setCell ⟨bc,1,none⟩ r).setCell ⟨bc,2,none⟩ v2).setCell ⟨bd,0,none⟩ b).setCell ⟨bd,1,none⟩ d).setCell ⟨bd,2,none⟩ j) bd t #[b,d,j]:=
 (((((k.o h.symm 0 l).o h.symm 1 r).o h.symm 2 v2).set 0 b).set 1 d).set 2 j
theorem z3K{w:World}{size n:Nat}{cs:List Value}(h:w.ownsRow B e size (.slice va n' vc) n cs):va=none->vc=0:=fun e=>by
 subst e;rcases h.2 with⟨b,j⟩|⟨g,cap,d,b,_⟩
 ·cases b;rfl
 ·cases b
theorem z9e{w:World}{size n:Nat}{cs:List Value}(h:w.ownsRow B e size (.slice va n' vc) n cs):Rd w va cs:=by
 obtain⟨ao,cap,b,_,_,_,d⟩:=(Own.of_row h).rd
 cases b;exact d
theorem y5J{bs:List Bt}{st:List UInt8}{S:Nat}(j:q1N st=true)(l:p<=320)(o:1<=S):q4F ⟨st,p,false⟩=true/\z1y ⟨st,p,false⟩ S=0/\z1a bs ⟨st,p,false⟩ S=((q5U bs st).drop p).take S/\z6v bs ⟨st,p,false⟩ S=⟨st,(p:Int)+((((q5U bs st).drop p).take S).length:Int),false⟩/\
  z6w bs ⟨st,p,false⟩ S=decide (((((q5U bs st).drop p).take S).length:Int)<(S:Int)):=by
 have hm:q4F ⟨st,p,false⟩=true:=(q3E st (p:Int) false).2 ⟨j,by omega,.inl (by omega)⟩;have b:z1y ⟨st,p,false⟩ S=0:=by unfold z1y;exact ξ ⟨hm,by omega⟩
 have d:z1a bs ⟨st,p,false⟩ S=((q5U bs st).drop p).take S:=by
  unfold z1a;rw[κ (by rw[b];decide)];show z2c bs st (p:Int) (S:Int)=_;rw[z5O (q9M hm (by omega) (by omega))];simp
 refine⟨hm,b,d,?_,?_⟩
 ·unfold z6v;rw[κ (by rw[b];decide),d];rfl
 ·unfold z6w;rw[κ (by rw[b];decide),d];rfl
theorem y5I{bs:List Bt}{st:List UInt8}{S:Nat}(l:q1N st=true)(s:(q0c bs st).length<=1000000)(o:q<=(q0c bs st).length)(r:1<=S)(x:nx=(q:Int)-1\/(nx=1073741824/\q=(q0c bs st).length)):
  z1y ⟨st,nx,true⟩ S=0/\z1a bs ⟨st,nx,true⟩ S=(((q5U bs st).take q).reverse).take S/\z6v bs ⟨st,nx,true⟩ S=⟨st,(q:Int)-1-(((((q5U bs st).take q).reverse).take S).length:Int),true⟩/\
  z6w bs ⟨st,nx,true⟩ S=decide ((q:Int)-1-(((((q5U bs st).take q).reverse).take S).length:Int)<0):=by
 have hm:q4F ⟨st,nx,true⟩=true:=(q3E st nx true).2 ⟨l,by omega,by by_cases h:0<=nx;exact .inl h;exact .inr ⟨rfl,by omega⟩⟩;have b:z1y ⟨st,nx,true⟩ S=0:=by unfold z1y;exact ξ ⟨hm,by omega⟩
 have d:z7S bs ⟨st,nx,true⟩=(q:Int)-1:=by unfold z7S;simp only;omega
 have j:z1a bs ⟨st,nx,true⟩ S=(((q5U bs st).take q).reverse).take S:=by
  unfold z1a;rw[κ (by rw[b];decide)];show z1B bs st (z7S bs ⟨st,nx,true⟩) (S:Int)=_;rw[d];unfold z1B;by_cases hq:q=0
  ·subst hq;rw[ξ (by omega)];simp
  ·rw[κ (by omega),y0O (q9M (dn:=true) (nx:=(q:Int)-1) ((q3E st ((q:Int)-1) true).2 ⟨l,by omega,.inl (by omega)⟩) (by omega) (by omega)) (by omega) (by omega) (by omega),show((q:Int)-1+1).toNat=q by omega];simp
 refine⟨b,j,?_,?_⟩
 ·unfold z6v;rw[κ (by rw[b];decide),j];show(⟨st,z7S bs ⟨st,nx,true⟩-_,true⟩:Cur)=_;rw[d]
 ·unfold z6w;rw[κ (by rw[b];decide),j];show decide (z7S bs ⟨st,nx,true⟩-_<0)=_;rw[d]
theorem y1F{t len:Nat}{e f:Bool}(C:p<=len)(hq:q<=len)(j:e=true->p=len)(l:e=false->t<=p)(o:f=true->q=0/\nx= -1)(r:f=false->t<=len-q): ∀(S d b:Nat),1<=S->d=min S (len-p)->b=min S q->(((decide ((d:Int)<(S:Int))=true->p+d=len)/\(decide ((d:Int)<(S:Int))=false->t+1<=p+d))/\((decide ((q:Int)-1-(b:Int)<0)=true->q-b=0/\(q:Int)-1-(b:Int)= -1)/\(decide ((q:Int)-1-(b:Int)<0)=false->t+1<=len-(q-b)))):=fun S d b s x y=>by
 refine⟨⟨fun h=>?_,fun h=>?_⟩,fun h=>?_,fun h=>?_⟩
 ·have:=of_decide_eq_true h;omega
 ·have:=of_decide_eq_false h
  cases e
  ·have:=l rfl;omega
  ·have:=j rfl;omega
 ·have:=of_decide_eq_true h;omega
 ·have:=of_decide_eq_false h
  cases f
  ·have:=r rfl;omega
  ·have:=(o rfl).1;omega
theorem z5S{c:Cur}(h:q4F c=true):y0A (q4d (q6x c))=(c,0):=by rw[(z8V _ _).2 ⟨h,rfl⟩];rfl
theorem z5o{c:Cur}(h:q4F c=true):y4E c=q6x c:=ξ h
theorem z3B{c:Cur}(h:q4F c=true):(q6x c).length<=100:=by
 have b:=z1R h;have d:=q4f h;have j:(Lib.decDigits (c.nx+1).toNat).length<=10:=q8g (by omega);unfold q6x;simp;omega
theorem z5r{w:World}{b off cp:Nat}{L:List To}(h:Rd w (some ⟨b,off,none⟩) (q2m L))(y:i<L.length)(s:1<=cp)(x:cp<=9223372036854775807):Tos w (some ⟨b,off+i*5,none⟩) 1 cp [L.getD i to0]:=by
 refine⟨rfl,s,x,(fun h=>by cases h),fun j u o=>?_⟩;have r:(q2m [L.getD i to0])[j]? =(toc (L.getD i to0))[j]? :=by rw[q7D,y1z,List.append_nil]
 have d:j<5:=by
  have l:=(List.getElem?_eq_some_iff.1 o).1;rw[q3C] at l
  simpa using l
 have e:=q5V L i j y d;obtain⟨C,D,q,hc⟩:=h (i*5+j) u (by rw[e,<-r];exact o)
 cases q;exact⟨b,off+i*5,rfl,by rw[Nat.add_assoc];exact hc⟩
theorem y1n{T:List To}{k:Nat}(h:k<T.length):T.reverse.getD k to0=T.getD (T.length-1-k) to0:=by
 rw[δ,δ,List.getElem?_reverse h]
abbrev z0I :Ev:=⟨[109,111,114,101],[],0⟩
section
variable {bs :List Bt}{st:List UInt8}{len:Nat}
theorem y4w(j:q1N st=true)(h:(q0c bs st).length=len):z3k bs st ((len:Int)-1) [z0I]=0:=by
 unfold q1N at j;obtain⟨b,d⟩:=Bool.and_eq_true_iff.1 j;have b:=of_decide_eq_true b;have d:=of_decide_eq_true d;have l:q0Q st 0 [z0I]=0:=by
  unfold q0Q;rw[κ (fun e=>e.elim (fun e=>by rw[e] at b;exact absurd b (by decide)) (fun e=>by cases e)),κ (by show ¬(32<st.length\/8<1);omega),κ (by show ¬((0:Int)<0\/1073741824-1<(0:Int));omega)]
  rfl
 unfold z3k;rw[κ (by rw[l];decide),κ (by omega),κ (by rw[h];omega)]
theorem y4x(h:(q0c bs st).length=len):q5U (bs++[⟨st,len,[z0I]⟩]) st=q5U bs st++[⟨st,len,z0I⟩]:=by
 unfold q5U;rw[q5Z,ξ rfl,q4h,Nat.zero_add,h];rfl
theorem y4v(h:(q0c bs st).length=len):(q0c (bs++[⟨st,len,[z0I]⟩]) st).length=len+1:=by
 rw[q5Z,ξ rfl,θ,h];rfl
theorem y1b(o:q1N st=true)(h:(q0c bs st).length=len)(l:len<=320):z1y ⟨st,(len:Int),false⟩ 3=0/\z1a (bs++[⟨st,len,[z0I]⟩]) ⟨st,(len:Int),false⟩ 3=[⟨st,len,z0I⟩]/\z6v (bs++[⟨st,len,[z0I]⟩]) ⟨st,(len:Int),false⟩ 3=⟨st,(len:Int)+1,false⟩/\z6w (bs++[⟨st,len,[z0I]⟩]) ⟨st,(len:Int),false⟩ 3=true:=by
 obtain⟨_,r,b,d,j⟩:=y5J (bs:=bs++[⟨st,len,[z0I]⟩]) (p:=len) (S:=3) o l (by decide);have e:((q5U (bs++[⟨st,len,[z0I]⟩]) st).drop len).take 3=[⟨st,len,z0I⟩]:=by
  rw[y4x h,List.drop_left' (by rw[q2D,h])];rfl
 rw[e] at b d j;exact⟨r,b,d,j⟩
theorem y1c(l:q1N st=true)(h:(q0c bs st).length=len)(r:len<=320):z1y ⟨st,-1,true⟩ 3=0/\z1a (bs++[⟨st,len,[z0I]⟩]) ⟨st,-1,true⟩ 3=[]/\z6v (bs++[⟨st,len,[z0I]⟩]) ⟨st,-1,true⟩ 3=⟨st,-1,true⟩/\z6w (bs++[⟨st,len,[z0I]⟩]) ⟨st,-1,true⟩ 3=true:=by
 obtain⟨o,b,d,j⟩:=y5I (bs:=bs++[⟨st,len,[z0I]⟩]) (q:=0) (S:=3) (nx:= -1) l (by rw[y4v h];omega) (υ _) (by decide) (.inl (by decide));rw[List.take_zero] at b d j;exact⟨o,b,d,j⟩
end
theorem cursorsall_c{ao:Option Addr}{n cap:Nat}{A:List Acm}{st:List UInt8}(sd:Int)(rate:Nat)(E:Int)(w:World)(ht:TabW w)(j:Acs w ao n cap A)(u6:st.length<=9223372036854775807)(T5:0<=sd)(U5:sd<18446744073709551616)(v6:0<=E)(x6:E<=65535):
  Calls Tryz.prog 7 #[.slice ao n cap,.string ⟨st.toArray⟩,.agg #[.int .u64 sd,.float .f64 rate,.int .u16 E]] w fun e w'=>e= .returned (.bool true)/\Ext w w':=by
 have v0:=q0B w (.cells #[.int .u64 sd,.float .f64 rate,.int .u16 E] 50);have V1:=Blk.new w 50 #[.int .u64 sd,.float .f64 rate,.int .u16 E];have HG:=η (y3A 40 _ (j.ext v0));have HX:=η v0;have d4:=η V1;have HA:=η (j.ext v0);have HT:=η ht;have f6:=j.len;have l6:=j.fits;have m6:=j.bound;obtain⟨z,hz⟩: ∃z,q7f A 40=z:=⟨_,rfl⟩
 rw[hz] at HG;clear j v0 V1 ht;go_enter Tryz.func7,Tryz.ntmps7;go_wp2_with fail;refine HG.o.mono ?_;rintro e w1 ⟨rfl,j⟩;have Q1:=η (HX.o.trans j);have m3:=η (d4.o.ext j);have a4:=η (HA.o.ext j);have B2:=η (fun W (k:Ext w W)=>y3c W (HT.o.ext k));clear j HG d4 HA HX
 cases z with
 | true=>
  go_wp2_with fail;refine(B2.o w1 Q1.o).mono ?_;rintro e w2 ⟨rfl,j⟩;have y3:=η (Q1.o.trans j);clear j;go_wp2_with fail;go_ret;exact⟨rfl,y3.o⟩
 | false =>
  by_cases hl:100<st.length
  ·have R5:decide ((100:Int)<(st.length:Int))=true:=ζ (by omega)
   go_wp2_with fail;refine(B2.o w1 Q1.o).mono ?_;rintro e w2 ⟨rfl,j⟩;have y3:=η (Q1.o.trans j);clear j;go_wp2_with fail;go_ret;exact⟨rfl,y3.o⟩
  have R5:decide ((100:Int)<(st.length:Int))=false:=ε (by omega);have M3:=z9C hz;have o5:n<=40:=by have:=M3.1;omega
  have O2:=m3.o;have k0:=O2.cell 0;have k1:=O2.cell 1;have k2:=O2.cell 2;have y4:=η (y0s sd rate E w1 a4.o T5 U5 o5 M3.2);have p2:=η (q0B w1 (.cells #[.int .u64 sd,.float .f64 rate,.int .u16 E] 50));have g6:st.length<=100:=by omega
  clear M3 hz O2 hl;go_wp2_with fail;refine y4.o.mono ?_;rintro e w2 ⟨g,gs,mb,u,m,bs,vL,vM,rfl,hF,hu,hm⟩;obtain⟨wf,x5⟩: ∃wf,w1.alloc (.cells #[.int .u64 sd,.float .f64 rate,.int .u16 E] 50)=wf:=⟨_,rfl⟩
  rw[x5] at hF p2;have HF:Hd (TW wf w2 g gs rate sd 1048576 u m bs mb vL vM m bs [] noP noP (fun _=>False)):=η hF;have F2:=η (Q1.o.trans p2.o);have o4:=η (m3.o.ext p2.o);obtain⟨q0,O3⟩: ∃q0,w.heap.size=q0:=⟨_,rfl⟩
  have K5:=η O3;rw[O3] at o4;have e6:=hF.sk.few;have S5:=q3c bs st;have HU:=η hu;have w0:=η (fun W=>q8A st 0 false (by omega) W);have z0:=η (fun W=>q8A st 1073741824 true (by omega) W);have g5:q4F ⟨st,0,false⟩=q1N st:=by unfold q4F;simp
  have i5:q4F ⟨st,1073741824,true⟩=q1N st:=by unfold q4F;simp
  rw[g5] at w0;rw[i5] at z0;clear hF hu x5 y4 k0 k1 k2 O3 p2 a4 m3 g5 i5
  cases hsb:q1N st with
  | false=>
   rw[hsb] at w0 z0;simp only[Bool.false_eq_true,if_false,z9z] at w0 z0;clear hsb;go_wp2_with fail;refine(w0.o _).mono ?_;rintro e w3 ⟨rfl,j⟩;have z5:=j.trans (q0B w3 (.cells #[.string ⟨#[]⟩,.int .i64 0,.bool false] 86));have L5:=η ((F2.o.trans HF.o.base).trans z5);clear j z5;go_wp2_with fail;refine(z0.o _).mono ?_;rintro e w4 ⟨rfl,j⟩;have A5:=j.trans (q0B w4 (.cells #[.string ⟨#[]⟩,.int .i64 0,.bool false] 86));have N4:=η (L5.o.trans A5);clear j A5;go_wp2_with fail;refine(B2.o _ N4.o).mono ?_;rintro e w5 ⟨rfl,j⟩;have M5:=η (N4.o.trans j);clear j;go_wp2_with fail;go_ret;exact⟨rfl,M5.o⟩
  | true =>
   rw[hsb] at w0 z0;simp only[if_true,z9z] at w0 z0;have o0:=η hsb;clear hsb;go_wp2_with fail;refine(w0.o _).mono ?_;rintro e w3 ⟨rfl,j⟩;obtain⟨bc,L2⟩: ∃bc,w3.heap.size=bc:=⟨_,rfl⟩
   have F1:=q0B w3 (.cells #[.string ⟨st.toArray⟩,.int .i64 0,.bool false] 86);have Q0:=Blk.new w3 86 #[.string ⟨st.toArray⟩,.int .i64 0,.bool false];rw[L2] at Q0;have t4:=η ((HF.o.grow j).more (X':=fun i=>i=bc) F1 fun i d=> .inr (by rw[ρ];omega));have e4:=η Q0;have l:=η L2;have f3:wf.heap.size<=bc:=by rw[<-L2];exact(HF.o.grow j).base.size
   have f4:=η f3;clear j F1 Q0 L2 f3;go_wp2_with fail;refine(z0.o _).mono ?_;rintro e w4 ⟨rfl,j⟩;obtain⟨bd,M2⟩: ∃bd,w4.heap.size=bd:=⟨_,rfl⟩
   have F1:=q0B w4 (.cells #[.string ⟨st.toArray⟩,.int .i64 1073741824,.bool true] 86);have Q0:=Blk.new w4 86 #[.string ⟨st.toArray⟩,.int .i64 1073741824,.bool true];rw[M2] at Q0;have W1:=(t4.o.grow j)
   have x4:=η (W1.more (X':=fun i=>i=bc\/i=bd) F1 fun i d=>d.imp id fun e=>by rw[ρ];omega);have Z1:bc≠bd:=by have:=W1.lt (.inr (.inr (.inr rfl)));omega
   have M1:=η Z1;have g4:=η Q0;have D:=η M2;have T2:=η (e4.o.ext (j.trans F1));have g3:wf.heap.size<=bd:=by rw[<-M2];exact W1.base.size
   have i4:=η g3;clear j F1 Q0 M2 W1 Z1 g3 t4 e4 HF w0 z0;go_wp2_with fail;obtain⟨len,r0⟩: ∃len,(q0c bs st).length=len:=⟨_,rfl⟩
   obtain⟨T,I3⟩: ∃T,q5U bs st=T:=⟨_,rfl⟩
   have a5:T.length=len:=by rw[<-I3,q2D,r0]
   rw[r0] at S5;have J0:len<=320:=by omega
   have A0:=η r0;have K4:=η I3;have J:=η a5;clear r0 I3 a5
   go_loopw [15,16,17,18,19] (fun ou od oe W5 ot W=> ∃(t p q:Nat) (nx:Int) (e f:Bool) (vu vd:Value),ou=vu/\od=vd/\oe= .bool e/\W5= .bool f/\ot= .int .i64 (t:Int)/\t<=400/\p<=len/\q<=len/\
    Hd ((nx=(q:Int)-1\/(nx=1073741824/\q=len))/\(e=true->p=len)/\(e=false->t<=p)/\(f=true->q=0/\nx= -1)/\(f=false->t<=len-q))/\
    TW wf W g gs rate sd 1048576 u m bs mb vL vM m bs [] noP noP (fun i=>((i=bc\/i=bd)\/vd.ownBlock=some i)\/vu.ownBlock=some i)/\Blk W bc 86 #[.string ⟨st.toArray⟩,.int .i64 (p:Int),.bool false]/\Blk W bd 86 #[.string ⟨st.toArray⟩,.int .i64 nx,.bool true]/\
    W.ownsRow wf.heap.size 99 5 vu p (q2m (T.take p))/\W.ownsRow wf.heap.size 99 5 vd (len-q) (q2m ((T.drop q).reverse))/\
    (∀i,((i=bc\/i=bd)\/vd.ownBlock=some i)->vu.ownBlock≠some i)/\(∀i,(i=bc\/i=bd)->vd.ownBlock≠some i)) (fun _ _ _ _ ot _=>400-(intOf ot).toNat)
   case atStart=>exact⟨0,0,len,1073741824,false,false,_,_,rfl,rfl,rfl,rfl,rfl,υ _,υ _,ι _,η ⟨.inr ⟨rfl,rfl⟩,(fun h=>by cases h),fun _=>ι _,(fun h=>by cases h),fun _=>υ _⟩,
    x4.o.more (Ext.refl _) (fun i d=>by rcases d with(d|d)|d;exact .inl d;cases d;cases d),T2.o,g4.o,⟨by simp[q2m],.inl ⟨rfl,rfl⟩⟩,⟨by rw[List.drop_eq_nil_of_le (by rw[J.o];exact ι _)];simp[q2m],.inl ⟨rfl,by omega⟩⟩,fun i _ e=>(by cases e),fun i _ e=>(by cases e)⟩
   case round =>
    obtain⟨t,p,q,nx,e,f,_,_,rfl,rfl,rfl,rfl,rfl,y6,hp,hq,HI,v5,f0,z1,S0,R0,d5,hdd⟩:=hrel;obtain⟨ua,uc,rfl⟩:=q0F S0;obtain⟨da,dc,rfl⟩:=q0F R0;have o1:=η v5;have O0:=η f0;have P0:=η z1;have i1:=η S0;have f1:=η R0;have i2:=η d5;have n3:=η hdd;clear v5 f0 z1 S0 R0 d5 hdd x4 T2 g4;have f5:(t<400/\(e&&f)=false)\/(e=true/\f=true):=by
     obtain⟨_,h2,h3,h4,h5⟩:=HI.o
     cases e<;>cases f<;>simp at* <;>omega
    have o2:=η f5;clear f5
    go_upto_region 13 with fail
    go_cut [103] from 95 to 191 (fun s W=>(s= .bool true/\(t<400/\(e&&f)=false)/\wr=W)\/(s= .bool false/\(e=true/\f=true)/\wr=W))
    case first=>
     rcases o2.o with⟨s0,P2⟩|⟨rfl,rfl⟩
     ·have d1:decide ((t:Int)<400)=true:=ζ (by omega)
      have o3:=η P2;clear o2 P2
      cases e with
      | false=>
       go_wp2_with fail
       go_meet
       case rel=>exact .inl ⟨rfl,⟨s0,o3.o⟩,rfl⟩
      | true=>
       cases f with
       |true=>exact absurd o3.o (by decide)
       | false=>
        go_wp2_with fail
        go_meet
        case rel=>exact .inl ⟨rfl,⟨s0,o3.o⟩,rfl⟩
     ·clear o2
      by_cases s0:t<400
      ·have d1:decide ((t:Int)<400)=true:=ζ (by omega)
       go_wp2_with fail
       go_meet
       case rel=>exact .inr ⟨rfl,by simp,rfl⟩
      ·have d1:decide ((t:Int)<400)=false:=ε (by omega)
       go_wp2_with fail
       go_meet
       case rel=>exact .inr ⟨rfl,by simp,rfl⟩
    case rest =>
     clear o2;rcases hcut with⟨rfl,⟨s0,P2⟩,rfl⟩|⟨rfl,⟨rfl,rfl⟩,rfl⟩
     ·clear P2
      have hB:=o4.o.ext o1.o.base;have k2:=q0s K5.o (hB.cell 2);obtain⟨C5,i6⟩: ∃x:Nat,(t:Int).tmod 13=(x:Int):=⟨((t:Int).tmod 13).toNat,by rw[Int.tmod_eq_emod_of_nonneg (by omega)];omega⟩
      have c0:=q0s l.o (O0.o.cell 0);have c1:=q0s l.o (O0.o.cell 1);have c2:=q0s l.o (O0.o.cell 2);clear hB;obtain⟨I2,S1,J2,T1,K2⟩:=HI.o;have e3:=y1F hp hq S1 J2 T1 K2;have C4:=η e3;have J5:=η I2;clear e3 I2 S1 J2 T1 K2;go_wp2_with fail;obtain⟨Si,H3⟩: ∃S:Int,wrap64 (1+bits .and .i64 (wrap64 (E/2^min C5 16)) 7)=S:=⟨_,rfl⟩
      have P5:1<=Si/\Si<=8:=by
       have:=y1B (wrap64 (E/2^min C5 16));rw[<-H3];unfold wrap64 at*;omega
      simp only[H3];obtain⟨S,hS⟩: ∃S:Nat,Si=(S:Int):=⟨Si.toNat,by omega⟩
      subst hS;have G3:1<=S:=by omega
      have o6:S<=8:=by omega
      obtain⟨u0,u1,u2,u3,u4⟩:=y5J (bs:=bs) (st:=st) (p:=p) (S:=S) o0.o (by omega) G3;obtain⟨v1,v2,v3,v4⟩:=y5I (bs:=bs) (st:=st) (q:=q) (S:=S) (nx:=nx) o0.o (by rw[A0.o];omega) (by rw[A0.o];exact hq) G3 (by rw[A0.o];exact J5.o);rw[K4.o] at u2 u3 u4 v2 v3 v4;obtain⟨l1,l2⟩:=upL T (p:=p) (s:=S) (by rw[J.o];exact hp);obtain⟨l3,l4⟩:=dnL T (q:=q) (s:=S) (by rw[J.o];exact hq);obtain⟨A1,Y4⟩: ∃A1,(T.drop p).take S=A1:=⟨_,rfl⟩
      obtain⟨A2,Z4⟩: ∃A2,((T.take q).reverse).take S=A2:=⟨_,rfl⟩
      rw[Y4] at u2 u3 u4 l1 l2;rw[Z4] at v2 v3 v4 l3 l4;obtain⟨G,E3⟩: ∃G,A1.length=G:=⟨_,rfl⟩
      obtain⟨I,F3⟩: ∃I,A2.length=I:=⟨_,rfl⟩
      rw[E3] at u3 u4 l1 l2;rw[F3] at v3 v4 l3 l4;rw[J.o] at l2;have k3:=C4.o S G I G3 l2 l4;have m5:G<=8/\p+G<=len:=by omega
      have n5:I<=8/\I<=q:=by omega
      have l5:q4F ⟨st,(p:Int)+(G:Int),false⟩=true:=(q3E st ((p:Int)+(G:Int)) false).2 ⟨o0.o,by omega,.inl (by omega)⟩;have k5:q4F ⟨st,(q:Int)-1-(I:Int),true⟩=true:=(q3E st ((q:Int)-1-(I:Int)) true).2 ⟨o0.o,by omega,by by_cases h:0<=(q:Int)-1-(I:Int);exact .inl h;exact .inr ⟨rfl,by omega⟩⟩;have D2:=η (q7M o1.o.sk (by omega) ⟨st,p,false⟩ (by show st.length<=9223372036854775807;omega) S (by omega));rw[u1,u2,u3,u4] at D2;have C2:=η (fun (W:World) (K:Nat->Prop) (h:SK wf W g gs rate sd 1048576 0 u m bs K)=>q7M h (by omega) ⟨st,nx,true⟩ (by show st.length<=9223372036854775807;omega) S (by omega));rw[v1,v2,v3,v4] at C2;generalize decide ((G:Int)<(S:Int))=E1 at*;generalize decide ((q:Int)-1-(I:Int)<0)=E2 at*;have O4:=η l1;have P4:=η l3;have V0:=η k3;have E0:=η l5;have D0:=η k5;have r2:=η E3;have z2:=η F3;obtain⟨R,L0⟩: ∃x:Int,(p:Int)+(G:Int)=x:=⟨_,rfl⟩
      obtain⟨U,N3⟩: ∃x:Int,(q:Int)-1-(I:Int)=x:=⟨_,rfl⟩
      rw[L0] at D2 E0;rw[N3] at C2 D0;have H2:=η L0;have G2:=η N3;clear u0 u1 u2 u3 u4 v1 v2 v3 v4 l1 l2 l3 l4 Y4 Z4 k3 l5 k5 E3 F3 H3 P5 L0 N3 k2;refine D2.o.mono ?_;rintro e w5 ⟨va,rfl,s1,s2,s3,s4⟩;obtain⟨aa,ac,rfl⟩:=q0F s3;obtain⟨h5,p5⟩:=o1.o.read s1 s2 s4;have N:=q0B w5 (.cells #[.string ⟨st.toArray⟩,.int .i64 R,.bool false] 86);obtain⟨bn,H0⟩: ∃bn,w5.heap.size=bn:=⟨_,rfl⟩
      have J3:=Blk.new w5 86 #[.string ⟨st.toArray⟩,.int .i64 R,.bool false];rw[H0] at J3;obtain⟨X1,r1⟩: ∃X1:Nat->Prop,(fun i=>((((i=bc\/i=bd)\/(Value.slice da (len-q) dc).ownBlock=some i)\/(Value.slice ua p uc).ownBlock=some i)\/(Value.slice aa A1.length ac).ownBlock=some i)\/i=bn)=X1:=⟨_,rfl⟩
      have h6:=h5.more (X':=X1) N fun i d=>by rw[<-r1] at d;exact d.imp id fun e=>by rw[ρ];omega
      have b0:Hd (∀i,(((i=bc\/i=bd)\/(Value.slice da (len-q) dc).ownBlock=some i)\/(Value.slice ua p uc).ownBlock=some i)->X1 i):=η fun i d=>by rw[<-r1];exact .inl (.inl d)
      have c3:Hd (∀i,(Value.slice aa A1.length ac).ownBlock=some i->X1 i):=η fun i d=>by rw[<-r1];exact .inl (.inr d)
      have U0:Hd (X1 bn):=η (by rw[<-r1];exact .inr rfl);have M4:Hd (∀i,X1 i->((((i=bc\/i=bd)\/(Value.slice da (len-q) dc).ownBlock=some i)\/(Value.slice ua p uc).ownBlock=some i)\/(Value.slice aa A1.length ac).ownBlock=some i)\/i=bn):=η fun i d=>by rw[<-r1] at d;exact d
      have M0:Stay (fun i=>((i=bc\/i=bd)\/(Value.slice da (len-q) dc).ownBlock=some i)\/(Value.slice ua p uc).ownBlock=some i) wr (w5.alloc (.cells #[.string ⟨st.toArray⟩,.int .i64 R,.bool false] 86)):=fun i d=>(N.block i (h5.lt (.inr (.inr (.inr (.inl d)))))).trans (p5 i d)
      have J4:=η M0;have H6:=η h6;have k4:=η J3;have U2:=η H0;have G4:=η (q0I s3 N);have I5:Hd (∀i,(((i=bc\/i=bd)\/(Value.slice da (len-q) dc).ownBlock=some i)\/(Value.slice ua p uc).ownBlock=some i)->(Value.slice aa A1.length ac).ownBlock≠some i):=η fun i d=>s4 i (.inr (.inr (.inr d)))
      have L1:Hd (∀i,(((i=bc\/i=bd)\/(Value.slice da (len-q) dc).ownBlock=some i)\/(Value.slice ua p uc).ownBlock=some i)->i≠bn):=η fun i d e=>by have:=h5.lt (.inr (.inr (.inr (.inl d))));omega
      have k0:=q0s D.o ((P0.o.same (M0 bd (.inl (.inl (.inr rfl))))).cell 0);have k1:=q0s D.o ((P0.o.same (M0 bd (.inl (.inl (.inr rfl))))).cell 1);have k2:=q0s D.o ((P0.o.same (M0 bd (.inl (.inl (.inr rfl))))).cell 2);have Z2:=η (C2.o _ _ h6.sk);clear s1 s2 s3 s4 h5 p5 N J3 H0 r1 h6 M0 D2 C2 c0 c1 c2;go_wp2_with fail;refine Z2.o.mono ?_;rintro e w7 ⟨vb,rfl,s1,s2,s3,s4⟩;obtain⟨ba,D3,rfl⟩:=q0F s3;obtain⟨h7,r5⟩:=H6.o.read s1 s2 s4;have S2:=q0B w7 (.cells #[.string ⟨st.toArray⟩,.int .i64 U,.bool true] 86);obtain⟨bt,I0⟩: ∃bt,w7.heap.size=bt:=⟨_,rfl⟩
      have K3:=Blk.new w7 86 #[.string ⟨st.toArray⟩,.int .i64 U,.bool true];rw[I0] at K3;have Y1: ∀i,X1 i->i<w7.heap.size:=fun i d=>h7.lt (.inr (.inr (.inr (.inl d))))
      have Z0:Stay X1 (w5.alloc (.cells #[.string ⟨st.toArray⟩,.int .i64 R,.bool false] 86)) (w7.alloc (.cells #[.string ⟨st.toArray⟩,.int .i64 U,.bool true] 86)):=fun i d=>(S2.block i (Y1 i d)).trans (r5 i d)
      have f2:Stay (fun i=>((i=bc\/i=bd)\/(Value.slice da (len-q) dc).ownBlock=some i)\/(Value.slice ua p uc).ownBlock=some i) wr (w7.alloc (.cells #[.string ⟨st.toArray⟩,.int .i64 U,.bool true] 86)):=fun i d=>(Z0 i (b0.o i d)).trans (J4.o i d)
      have h8:=h7.more (X':=fun i=>(((i=bc\/i=bd)\/i=bn\/i=bt\/(Value.slice ba A2.length D3).ownBlock=some i)\/(Value.slice da (len-q) dc).ownBlock=some i)\/(Value.slice ua p uc).ownBlock=some i) S2 fun i d=>by
       rcases d with((d|d|d|d)|d)|d
       ·exact .inl (.inl (b0.o i (.inl (.inl d))))
       ·exact .inl (.inl (d▸U0.o))
       ·exact .inr (by rw[ρ];omega)
       ·exact .inl (.inr d)
       ·exact .inl (.inl (b0.o i (.inl (.inr d))))
       ·exact .inl (.inl (b0.o i (.inr d)))
      have c5: ∀i,(((i=bc\/i=bd)\/i=bn\/i=bt\/(Value.slice ba A2.length D3).ownBlock=some i)\/(Value.slice da (len-q) dc).ownBlock=some i)->(Value.slice ua p uc).ownBlock≠some i:=fun i d e=>by
       have ho:=b0.o i (.inr e);rcases d with(d|d|d|d)|d
       ·exact i2.o i (.inl d) e
       ·exact L1.o i (.inr e) d
       ·have:=Y1 i ho;omega
       ·exact s4 i (.inr (.inr (.inr ho))) d
       ·exact i2.o i (.inr d) e
      have D1: ∀i,((i=bc\/i=bd)\/i=bn\/i=bt)->(Value.slice da (len-q) dc).ownBlock≠some i:=fun i d e=>by
       have ho:=b0.o i (.inl (.inr e));rcases d with d|d|d
       ·exact n3.o i d e
       ·exact L1.o i (.inl (.inr e)) d
       ·have:=Y1 i ho;omega
      have Z1:bn≠bt:=fun e=>by have:=Y1 bn U0.o;omega
      have H8:=η h8;have p4:=η c5;have r4:=η D1;have j6:=η Z1;have C3:=η (q0Z i1.o (fun g hg=>f2 g (.inr hg)));have T4:=η (q0Z f1.o (fun g hg=>f2 g (.inl (.inr hg))));have z3:=η (q0Z G4.o (fun g hg=>Z0 g (c3.o g hg)));have R4:=η (q0I s3 S2);have T3:=η (O0.o.same (f2 bc (.inl (.inl (.inl rfl)))));have V3:=η (P0.o.same (f2 bd (.inl (.inl (.inr rfl)))));have W3:=η (k4.o.same (Z0 bn U0.o));have Y3:=η K3;have V2:=η I0;have E4:=η h8.base.size;clear s1 s2 s3 s4 h7 r5 S2 I0 K3 Y1 Z0 f2 h8 c5 D1 Z1 k0 k1 k2 Z2 b0 c3 U0 M4 J4 H6 k4 G4 I5 L1 o1 O0 P0 i1 f1 i2 n3
      go_upto_region 21 with(first
       | (at_builtin
          refine q0K rfl (.tmp 138) (.tmp 139) 22 rfl wf.heap.size 99 _ 5 64 Tryz.underlying22 Tryz.infoTo (by decide) (by decide) _ p (q2m (T.take p)) rfl C3.o _ A1.length ac (q2m A1) rfl (q3C _) (z3K z3.o) (z9e z3.o) (z1p _) (by rw[r2.o];unfold maxLen;omega) (by rw[r2.o];omega) E4.o ?_;intro v9 w9 C h0 U1;rw[<-q4m,r2.o] at C;rw[O4.o] at C;obtain⟨h9,T0,D1⟩:=TW.row H8.o (ι _) C3.o C h0 U1 p4.o;obtain⟨xa,xc,rfl⟩:=q0F C;have j0:Hd (∀i,(i=bc\/i=bd)->(Value.slice xa (p+G) xc).ownBlock≠some i):=η fun i d=>D1 i (.inl (.inl d))
          have X4:=h9.more (X':=fun i=>(((i=bc\/i=bd)\/i=bn\/i=bt)\/(Value.slice xa (p+G) xc).ownBlock=some i)\/(Value.slice da (len-q) dc).ownBlock=some i) (Ext.refl _) fun i d=>by
            rcases d with((d|d|d)|d)|d
            ·exact .inl (.inl (.inl (.inl d)))
            ·exact .inl (.inl (.inl (.inr (.inl d))))
            ·exact .inl (.inl (.inl (.inr (.inr (.inl d)))))
            ·exact .inl (.inr d)
            ·exact .inl (.inl (.inr d))
          have H9:=η X4;have X2:Hd (∀i,(((i=bc\/i=bd)\/i=bn\/i=bt)\/(Value.slice xa (p+G) xc).ownBlock=some i)->(Value.slice da (len-q) dc).ownBlock≠some i):=η fun i d e=>by
            rcases d with d|d
            ·exact r4.o i d e
            ·exact D1 i (.inr e) d
          have V4:=η C;have B3:=η (q0Z T4.o (fun g hg=>T0 g (.inr hg)));have A3:=η (q0Z R4.o (fun g hg=>T0 g (.inl (.inr (.inr (.inr hg))))));have I1:=η (T3.o.same (T0 bc (.inl (.inl (.inl rfl)))));have J1:=η (V3.o.same (T0 bd (.inl (.inl (.inr rfl)))));have X3:=η (W3.o.same (T0 bn (.inl (.inr (.inl rfl)))));have Z3:=η (Y3.o.same (T0 bt (.inl (.inr (.inr (.inl rfl))))));have Y2:=η h9.base.size
          clear C h0 U1 h9 T0 D1 X4 H8 p4 r4 C3 T4 z3 R4 T3 V3 W3 Y3 E4)
       | (at_builtin
          refine q0K rfl (.tmp 141) (.tmp 142) 22 rfl wf.heap.size 99 _ 5 64 Tryz.underlying22 Tryz.infoTo (by decide) (by decide) _ (len-q) (q2m ((T.drop q).reverse)) rfl B3.o _ A2.length D3 (q2m A2) rfl (q3C _) (z3K A3.o) (z9e A3.o) (z1p _) (by rw[z2.o];unfold maxLen;omega) (by rw[z2.o];omega) Y2.o ?_;intro z6 Q3 C h0 U1;rw[<-q4m,z2.o] at C;rw[P4.o] at C;obtain⟨W4,m0,i3⟩:=TW.row H9.o (ι _) B3.o C h0 U1 X2.o;rw[show len-q+I=len-(q-I) by omega] at C;obtain⟨xd,xe,rfl⟩:=q0F C;have b1:=η W4;have Z:=η i3;have X0:=η (q0Z V4.o (fun g hg=>m0 g (.inr hg)));have W0:=η C;have O:=η (I1.o.same (m0 bc (.inl (.inl (.inl rfl)))));have F:=η (J1.o.same (m0 bd (.inl (.inl (.inr rfl)))));have d3:=X3.o.same (m0 bn (.inl (.inr (.inl rfl))));have Y:=η (Z3.o.same (m0 bt (.inl (.inr (.inr rfl)))));have V:=η d3
          clear C h0 U1 W4 m0 i3 d3 H9 X2 V4 B3 A3 I1 J1 X3 Z3 Y2))
      go_cut [15,16,17,18,22,26] from 95 to 191 (fun X5 Y5 Z5 a6 b6 c6 W=> ∃(xa:Option Addr) (xc:Nat) (xd:Option Addr) (xe G I:Nat) (R U:Int) (E1 E2:Bool) (bn bt:Nat),X5= .slice xa (p+G) xc/\Y5= .slice xd (len-(q-I)) xe/\Z5= .bool E1/\a6= .bool E2/\b6= .pointer (some ⟨bn,0,none⟩)/\c6= .pointer (some ⟨bt,0,none⟩)/\p+G<=len/\I<=q/\
       Hd (((E1=true->p+G=len)/\(E1=false->t+1<=p+G))/\((E2=true->q-I=0/\(q:Int)-1-(I:Int)= -1)/\(E2=false->t+1<=len-(q-I))))/\Hd ((p:Int)+(G:Int)=R)/\Hd ((q:Int)-1-(I:Int)=U)/\Hd (q4F ⟨st,R,false⟩=true)/\Hd (q4F ⟨st,U,true⟩=true)/\
       Hd (TW wf W g gs rate sd 1048576 u m bs mb vL vM m bs [] noP noP (fun i=>(((i=bc\/i=bd)\/i=bn\/i=bt)\/(Value.slice xa (p+G) xc).ownBlock=some i)\/(Value.slice xd (len-(q-I)) xe).ownBlock=some i))/\Hd (∀i,(((i=bc\/i=bd)\/i=bn\/i=bt)\/(Value.slice xa (p+G) xc).ownBlock=some i)->(Value.slice xd (len-(q-I)) xe).ownBlock≠some i)/\Hd (∀i,(i=bc\/i=bd)->(Value.slice xa (p+G) xc).ownBlock≠some i)/\
       Hd (W.ownsRow wf.heap.size 99 5 (.slice xa (p+G) xc) (p+G) (q2m (T.take (p+G))))/\Hd (W.ownsRow wf.heap.size 99 5 (.slice xd (len-(q-I)) xe) (len-(q-I)) (q2m ((T.drop (q-I)).reverse)))/\
       Hd (Blk W bc 86 #[.string ⟨st.toArray⟩,.int .i64 (p:Int),.bool false])/\Hd (Blk W bd 86 #[.string ⟨st.toArray⟩,.int .i64 nx,.bool true])/\Hd (Blk W bn 86 #[.string ⟨st.toArray⟩,.int .i64 R,.bool false])/\Hd (Blk W bt 86 #[.string ⟨st.toArray⟩,.int .i64 U,.bool true]))
      case first=>
       go_wp2_with fail
       go_meet
       case rel=>exact⟨xa,xc,xd,xe,G,I,R,U,E1,E2,bn,bt,rfl,rfl,rfl,rfl,by rw[U2.o],by rw[V2.o],by omega,by omega,V0,H2,G2,E0,D0,b1,Z,j0,X0,W0,O,F,V,Y⟩
      case rest=>
       clear b1 Z j0 X0 W0 O F V Y V0 H2 G2 E0 D0 O4 P4 r2 z2 m5 n5 U2 V2;obtain⟨xa,xc,xd,xe,G,I,R,U,E1,E2,bn,bt,rfl,rfl,rfl,rfl,rfl,rfl,m5,n5,V0,H2,G2,E0,D0,b1,Z,j0,X0,W0,O,F,V,Y⟩:=hcut;have k0:=V.o.cell 0;have k1:=V.o.cell 1;have k2:=V.o.cell 2;have b3:Hd (∀W,Ext wf W->TabW W):=η fun W k=>HT.o.ext (F2.o.trans k)
       have L0:=z7n ⟨st,R,false⟩ (by show st.length<=9223372036854775807;omega) wc (b3.o _ b1.o.base);rw[z5o E0.o,ξ E0.o] at L0;have R2:=z2P (q6x ⟨st,R,false⟩) (by have:=z3B E0.o;omega);rw[z5S E0.o] at R2;have Q2:=z2P (q6x ⟨st,U,true⟩) (by have:=z3B D0.o;omega);rw[z5S D0.o] at Q2;have O1:Hd (∀W,Ext wf W->Calls Tryz.prog 30 #[z9z ⟨st,U,true⟩] W fun e w'=>e= .returned (.tuple #[.string ⟨(q6x ⟨st,U,true⟩).toArray⟩,.int .i64 0])/\Ext W w'):=η fun W k=>by
        have h:=z7n ⟨st,U,true⟩ (by show st.length<=9223372036854775807;omega) W (b3.o _ k);rw[z5o D0.o,ξ D0.o] at h;exact h
       obtain⟨su,s5⟩: ∃s,q6x ⟨st,R,false⟩=s:=⟨_,rfl⟩
       obtain⟨sw,t5⟩: ∃s,q6x ⟨st,U,true⟩=s:=⟨_,rfl⟩
       rw[s5] at L0 R2;rw[t5] at Q2 O1;clear s5 t5;have B4:=η R2;have A4:=η Q2;have a3:=η L0;clear L0 R2 Q2;go_wp2_with fail;refine a3.o.mono ?_;rintro e R3 ⟨rfl,j⟩;have t0:=(Y.o.ext j).cell 0;have t1:=(Y.o.ext j).cell 1;have t2:=(Y.o.ext j).cell 2;have R1:=η j;clear j k0 k1 k2 a3;go_wp2_with fail;refine(O1.o _ (b1.o.base.trans R1.o)).mono ?_;rintro e d6 ⟨rfl,j⟩;have l0:=η (R1.o.trans j);clear j t0 t1 t2 O1 R1;go_wp2_with fail;refine(B4.o _).mono ?_;rintro e G1 ⟨rfl,j⟩;obtain⟨bx,L3⟩: ∃b,G1.heap.size=b:=⟨_,rfl⟩
       have B5:=q0B G1 (.cells #[.string ⟨st.toArray⟩,.int .i64 R,.bool false] 86);have p0:=Blk.new G1 86 #[.string ⟨st.toArray⟩,.int .i64 R,.bool false];rw[L3] at p0;have B0:=η ((l0.o.trans j).trans B5);have m4:=η p0;have i0:=η L3;have r3:Hd (bc<bx/\bd<bx):=η (by have q0:=(l0.o.trans j).size;have q1:=O.o.lt;have q2:=F.o.lt;omega);clear j B5 p0 L3 l0 B4;go_wp2_with fail;refine(A4.o _).mono ?_;rintro e H1 ⟨rfl,j⟩;obtain⟨bY,C1⟩: ∃b,H1.heap.size=b:=⟨_,rfl⟩
       have P3:=q0B H1 (.cells #[.string ⟨st.toArray⟩,.int .i64 U,.bool true] 86);have B1:=Blk.new H1 86 #[.string ⟨st.toArray⟩,.int .i64 U,.bool true];rw[C1] at B1;have p0:=m4.o.ext (j.trans P3);have Y0:=(B0.o.trans j).trans P3;have H0:=V.o.ext Y0;have I0:=Y.o.ext Y0;have C0:=η Y0;have n4:=η p0;have G5:=η B1;have K1:=η C1;have t3:Hd (bc<bY/\bd<bY):=η (by have q0:=(B0.o.trans j).size;have q1:=O.o.lt;have q2:=F.o.lt;omega);have x0:=q0s i0.o (p0.cell 0);have x1:=q0s i0.o (p0.cell 1);have x2:=q0s i0.o (p0.cell 2);have y0:=q0s C1 (B1.cell 0);have y1:=q0s C1 (B1.cell 1);have y2:=q0s C1 (B1.cell 2);have n0:=H0.cell 0;have n1:=H0.cell 1;have n2:=H0.cell 2;have t0:=I0.cell 0;have t1:=I0.cell 1;have t2:=I0.cell 2;clear j P3 B1 C1 p0 Y0 H0 I0 B0 A4 m4;go_wp2_with fail;have f0:=O.o.ext C0.o;have z1:=F.o.ext C0.o;have c0:=q0s l.o (f0.cell 0);have c1:=q0s l.o (f0.cell 1);have c2:=q0s l.o (f0.cell 2);have g0:=z0N l.o (f0.free 0);have g1:=z0N l.o (f0.free 1);have g2:=z0N l.o (f0.free 2);have Q:=((z1.o M1.o.symm 0 (.string ⟨st.toArray⟩)).o M1.o.symm 1 (.int .i64 R)).o M1.o.symm 2 (.bool false);rw[<-l.o] at Q;have d0:=q0s D.o (Q.cell 0);have d1:=q0s D.o (Q.cell 1);have d2:=q0s D.o (Q.cell 2);have e0:=z0N D.o (Q.free 0);have e1:=z0N D.o (Q.free 1);have e2:=z0N D.o (Q.free 2)
       have F5:=η ((((b1.o.more (X':=fun i=>((i=bc\/i=bd)\/(Value.slice xd (len-(q-I)) xe).ownBlock=some i)\/(Value.slice xa (p+G) xc).ownBlock=some i) C0.o (fun i d=> .inl (by
        rcases d with(d|d)|d
        ·exact .inl (.inl (.inl d))
        ·exact .inr d
        ·exact .inl (.inr d)))).six (bc:=bc) (bd:=bd) (.inl (.inl (.inl rfl))) (.inl (.inl (.inr rfl))) f4.o i4.o (.string ⟨st.toArray⟩) (.int .i64 R) (.bool false) (.string ⟨st.toArray⟩) (.int .i64 U) (.bool true))).grow (Ext.refl _).drew)
       have S3:=η (Blk.drew (y6B M1.o f0 (.string ⟨st.toArray⟩) (.int .i64 R) (.bool false) (.string ⟨st.toArray⟩) (.int .i64 U) (.bool true)));have U3:=η (Blk.drew (y6C M1.o z1 (.string ⟨st.toArray⟩) (.int .i64 R) (.bool false) (.string ⟨st.toArray⟩) (.int .i64 U) (.bool true)));have U4:=η (q0I (q0Z (q0I X0.o C0.o) (fun i d=>z9i (fun e=>j0.o i (.inl e) d) (fun e=>j0.o i (.inr e) d) (.string ⟨st.toArray⟩) (.int .i64 R) (.bool false) (.string ⟨st.toArray⟩) (.int .i64 U) (.bool true))) (Ext.refl _).drew);have S4:=η (q0I (q0Z (q0I W0.o C0.o) (fun i d=>z9i (fun e=>Z.o i (.inl (.inl (.inl e))) d) (fun e=>Z.o i (.inl (.inl (.inr e))) d) (.string ⟨st.toArray⟩) (.int .i64 R) (.bool false) (.string ⟨st.toArray⟩) (.int .i64 U) (.bool true))) (Ext.refl _).drew);clear f0 z1 Q n0 n1 n2 t0 t1 t2;have F0:=((n4.o.o (show bx≠bc by have:=r3.o;omega) 0 (.string ⟨st.toArray⟩)).o (show bx≠bc by have:=r3.o;omega) 1 (.int .i64 R)).o (show bx≠bc by have:=r3.o;omega) 2 (.bool false);have G0:=((G5.o.o (show bY≠bc by have:=t3.o;omega) 0 (.string ⟨st.toArray⟩)).o (show bY≠bc by have:=t3.o;omega) 1 (.int .i64 R)).o (show bY≠bc by have:=t3.o;omega) 2 (.bool false);rw[<-l.o] at F0 G0;have H5:=η (And.intro (And.intro (q0s i0.o (F0.cell 0)) (And.intro (q0s i0.o (F0.cell 1)) (q0s i0.o (F0.cell 2)))) (And.intro (q0s K1.o (G0.cell 0)) (And.intro (q0s K1.o (G0.cell 1)) (q0s K1.o (G0.cell 2)))));clear F0 G0;refine q1U (fun W:World=>(W.cell? ⟨G1.heap.size,0,none⟩=some (.string ⟨st.toArray⟩)/\W.cell? ⟨G1.heap.size,1,none⟩=some (.int .i64 R)/\W.cell? ⟨G1.heap.size,2,none⟩=some (.bool false))/\(W.cell? ⟨H1.heap.size,0,none⟩=some (.string ⟨st.toArray⟩)/\W.cell? ⟨H1.heap.size,1,none⟩=some (.int .i64 U)/\W.cell? ⟨H1.heap.size,2,none⟩=some (.bool true))) 3 (by kernel_rfl) ⟨⟨x0,x1,x2⟩,⟨y0,y1,y2⟩⟩ (fun M=>?_);refine q4l 0 M (fun M=>?_);refine q4l 1 M (fun M=>?_);simp only[Act.put,π,ψ,ω];refine q0k (i:=2) (by kernel_rfl) rfl (fun K hK=>?_)
       go_simp
       refine hK.out _ _ H5.o (fun M=>?_);clear hK K
       try simp only[Act.put,π,ψ,ω]
       refine q1i (by kernel_rfl) ?_
       try simp only[List.drop_succ_cons,List.drop_zero]
       clear M x0 x1 x2 y0 y1 y2;go_wp2_with fail
       go_roundw
       case rel=>
        have q1:=l.o;have q2:=D.o;have q3:=V0.o;have q4:=G2.o;have q5:=H2.o;rw[q1,q2]
        exact⟨t+1,p+G,q-I,U,E1,E2,_,_,rfl,rfl,rfl,rfl,by go_num,by omega,by omega,by omega,η ⟨.inl (by omega),q3.1.1,q3.1.2,fun h=>⟨(q3.2.1 h).1,by rw[<-q4];exact(q3.2.1 h).2⟩,q3.2.2⟩,F5.o,by rw[show((p+G:Nat):Int)=R by omega];exact S3.o,U3.o,U4.o,S4.o,fun i d=>by
         rcases d with d|d
         ·exact j0.o i d
         ·exact fun e=>Z.o i (.inr e) d,fun i d=>Z.o i (.inl (.inl d))⟩
       case measure=>simp[intOf];omega
     ·obtain⟨I2,S1,J2,T1,K2⟩:=HI.o
      have e1:len=p:=(S1 rfl).symm;subst e1;obtain⟨rfl,rfl⟩:=T1 rfl;clear I2 S1 J2 T1 K2 HI;simp only[Nat.sub_zero] at*;have hK:=o1.o.sk;obtain⟨K0,p1⟩: ∃K0:Nat->Prop,(fun i=>MoB mb vL vM i\/InW noP i\/InW noP i\/(((i=bc\/i=bd)\/(Value.slice da len dc).ownBlock=some i)\/(Value.slice ua len uc).ownBlock=some i))=K0:=⟨_,rfl⟩
      rw[p1] at hK;have Kc:Hd (K0 bc):=η (by rw[<-p1];exact .inr (.inr (.inr (.inl (.inl (.inl rfl))))));have Kd:Hd (K0 bd):=η (by rw[<-p1];exact .inr (.inr (.inr (.inl (.inl (.inr rfl))))));have Kv:Hd (∀i,(Value.slice da len dc).ownBlock=some i->K0 i):=η fun i d=>by rw[<-p1];exact .inr (.inr (.inr (.inl (.inr d))))
      have Ku:Hd (∀i,(Value.slice ua len uc).ownBlock=some i->K0 i):=η fun i d=>by rw[<-p1];exact .inr (.inr (.inr (.inr d)))
      have D4:=η (hK.last (by omega) st (by omega) (show z1O bs st=((len:Int)-1,0) by unfold z1O;rw[ξ o0.o,A0.o]));have e5:z2c bs st 0 1048576=T/\q3T st 0 1048576=0:=by
       have h:=q9M (dn:=false) (nx:=0) (ct:=1048576) ((q3E st 0 false).2 ⟨o0.o,by decide,.inl (by decide)⟩) (by decide) (by decide);refine⟨?_,h⟩;rw[z5O h,K4.o];show(T.drop 0).take 1048576=T;rw[List.drop_zero,Δ (by rw[J.o];omega)]
      have z4:=η e5;have Q4:Hd ((q2m (T.take len))=q2m T):=η (by rw[Δ (by rw[J.o];exact ι _)]);have S0:=i1.o;have R0:=f1.o;rw[Q4.o] at S0;rw[List.drop_zero] at R0;have i1:=η S0;have f1:=η R0;clear S0 R0 hK p1 e5 o1 i2 n3 Q4;go_wp2_with fail;refine D4.o.mono ?_;rintro e w5 ⟨rfl,s1,s2⟩;have p3:=η (s1.forward (by omega) st (by omega) 0 1048576 (by decide) (by decide));rw[z4.o.1,z4.o.2] at p3;have I4:=η s2;clear s1 s2 D4;go_wp2_with fail;refine p3.o.mono ?_;rintro e w6 ⟨v,rfl,s1,s2,s3,s4⟩;rw[J.o] at s3;obtain⟨fa,fc,rfl⟩:=q0F s3;have b2:=I4.o.trans s2;have Q5:(q2m T).length=len*5:=by rw[q3C,J.o]
      have x3:Hd (Tos w6 ua len uc T):=η (by have h:=q0Z i1.o (fun i d=>b2 i (Ku.o i d));rw[<-J.o] at h⊢;exact(q6M h).1);have P1:Hd (Tos w6 da len dc T.reverse):=η (by have h:=q0Z f1.o (fun i d=>b2 i (Kv.o i d));rw[<-J.o,<-List.length_reverse] at h⊢;exact(q6M h).1);have m1:Hd (Tos w6 fa len fc T):=η (by have h:=s3;rw[<-J.o] at h⊢;exact(q6M h).1);have D5:=η (O0.o.same (b2 bc Kc.o));have E5:=η (P0.o.same (b2 bd Kd.o));have H6:=η (s1.beside (K':=fun i=>i=bc\/i=bd) fun i d=> .inl (by rcases d with rfl|rfl;exact Kc.o;exact Kd.o));have p6:=x3.o.fits;have q6:=x3.o.bound;have r6:=P1.o.fits;have W1:=P1.o.bound;have s6:=m1.o.fits;have t6:=m1.o.bound;have L4:=η (z9s w6 x3.o m1.o);clear s1 s2 s3 s4 b2 Q5 I4 p3 i1 f1 O0 P0 Kc Kd Kv Ku;go_wp2_with fail;refine L4.o.mono ?_;rintro e w7 ⟨rfl,j⟩;have N5:=η j;clear j L4;go_wp2_with fail
      go_loopw [41] (fun ok W=> ∃k:Nat,ok= .int .i64 (k:Int)/\k<=len/\Ext w6 W) (fun ok _=>len-(intOf ok).toNat)
      case atStart=>exact⟨0,rfl,υ _,N5.o⟩
      case round=>
       obtain⟨k,rfl,hk,j⟩:=hrel;have N0:=η j;clear j;by_cases s0:k<len
       ·have d2:decide ((k:Int)<(len:Int))=true:=ζ (by omega)
        obtain⟨db,df,rfl,_⟩:=P1.o.at s0;obtain⟨fb,ff,rfl,_⟩:=m1.o.at s0;have q1:IntKind.i64.wrap ((k:Int)+1)=(k:Int)+1:=by rw[ν];omega
        have q2:IntKind.i64.wrap ((len:Int)-1)=(len:Int)-1:=by rw[ν];omega
        have q3:IntKind.i64.wrap ((len:Int)-1-(k:Int))=(len:Int)-1-(k:Int):=by rw[ν];omega
        have q4:IntKind.i64.wrap ((len:Int)-(k:Int))=(len:Int)-(k:Int):=by rw[ν];omega
        have j1:(k:Int)<=(k:Int)+1:=by omega
        have j2:(k:Int)+1<=(dc:Int):=by omega
        have j3:(0:Int)<=(len:Int)-1-(k:Int):=by omega
        have j4:(len:Int)-1-(k:Int)<=(len:Int)-(k:Int):=by omega
        have j5:(len:Int)-(k:Int)<=(fc:Int):=by omega
        have HC:Hd (∀W,Ext wr W->Calls Tryz.prog 25 #[.slice (some ⟨db,df+k*5,none⟩) 1 (dc-k),.slice (some ⟨fb,ff+(len-1-k)*5,none⟩) (len-k-(len-1-k)) (fc-(len-1-k))] W fun r w'=>r= .returned (.bool true)/\Ext W w'):=η fun W h=>by
         have a1:=z5r (P1.o.ext (N0.o.trans h)).rd (i:=k) (cp:=dc-k) (by rw[P1.o.len];exact s0) (by omega) (by omega);have a2:=z5r (m1.o.ext (N0.o.trans h)).rd (i:=len-1-k) (cp:=fc-(len-1-k)) (by rw[m1.o.len];omega) (by omega) (by omega);rw[y1n (by rw[J.o];exact s0),J.o] at a1;rw[show len-k-(len-1-k)=1 by omega];exact z9s W a1 a2
        go_wp2_with fail;refine q0E (by kernel_rfl) (by kernel_rfl) ?_
        repeat (go_big_quiet_step (fail))
        go_big_quiet_step (exact Calls.quiet_ext (HC.o _ (ExtOf.h _)))
        repeat (go_big_quiet_step (fail))
        refine wpQuiet_nil ?_;intro w9 hw;have O5:=η (N0.o.trans hw);clear hw;go_wp2_with fail
        go_roundw
        case rel=>exact⟨k+1,by go_num,by omega,O5.o⟩
        case measure=>simp[intOf];omega
       ·obtain rfl:len=k:=by omega
        have d2:decide ((len:Int)<(len:Int))=false:=ε (by omega);have v0:=q0B wr (.cells #[.string ⟨#[109,111,114,101]⟩,.string ⟨#[]⟩,.float .f64 0] 97);have V1:=Blk.new wr 97 #[.string ⟨#[109,111,114,101]⟩,.string ⟨#[]⟩,.float .f64 0];have V5:=N0.o.size;have h9:=H6.o.more (K':=fun i=>(i=bc\/i=bd)\/i=wr.heap.size) (N0.o.trans v0) fun i d=>d.imp id (fun e=>by rw[ρ];omega)
        have c4:=η (h9.append (by omega) st (by omega) ((len:Int)-1) (L:=[z0I]) (fun W _ hs=>(by
         have:=(V1.same (hs _ (.inr rfl))).evs (L:=[z0I]) (k:=1) (by decide) (by decide)
         rwa [Δ (by decide)] at this)) (z1j (by decide)) (by decide) (y4w o0.o A0.o))
        have I1:=η (D5.o.ext (N0.o.trans v0));have J1:=η (E5.o.ext (N0.o.trans v0));clear v0 V1 V5 h9;go_wp2_with fail;refine c4.o.mono ?_;rintro e w8 ⟨x,y,n6,rfl,s1,s2,h3⟩;rcases h3 with⟨h3,_⟩|⟨_,_,_,_,h3⟩|⟨_,y5,rfl,b5⟩
        ·exact absurd rfl h3
        ·have:=HU.o;omega
        rw[A0.o] at y5 b5;subst y5 b5;have bC:=I1.o.same (s2 bc (.inl (.inl rfl)));have bD:=J1.o.same (s2 bd (.inl (.inr rfl)));have O:=η bC;have F:=η bD;have c0:=q0s l.o (bC.cell 0);have c1:=q0s l.o (bC.cell 1);have c2:=q0s l.o (bC.cell 2);have h1:=s1.beside (K':=fun i=>i=bc\/i=bd) fun i d=> .inl d
        have hP:=q7M h1 (by omega) ⟨st,(len:Int),false⟩ (by show st.length<=9223372036854775807;omega) 3 (by decide);obtain⟨u0,u1,u2,u3⟩:=y1b o0.o A0.o J0;rw[u0,u1,u2,u3] at hP;have HP:=η hP;clear s1 s2 bC bD h1 hP u0 u1 u2 u3 c4 I1 J1;go_wp2_with fail;refine HP.o.mono ?_;rintro e Q3 ⟨v,rfl,s1,s2,s3,s4⟩;have s3:Q3.ownsRow wf.heap.size 99 5 v 1 (q2m [⟨st,(len:Int),z0I⟩]):=s3;obtain⟨aa,ac,rfl⟩:=q0F s3;have N:=q0B Q3 (.cells #[.string ⟨st.toArray⟩,.int .i64 ((len:Int)+1),.bool false] 86);have bD:=(F.o.same (s2 bd (.inr rfl))).ext N;have c0:=q0s D.o (bD.cell 0);have c1:=q0s D.o (bD.cell 1);have c2:=q0s D.o (bD.cell 2);have hP:=q7M (s1.grow N) (by omega) ⟨st,-1,true⟩ (by show st.length<=9223372036854775807;omega) 3 (by decide);obtain⟨u0,u1,u2,u3⟩:=y1c o0.o A0.o J0;rw[u0,u1,u2,u3] at hP;have F4:=η hP;have H4:=η (q0I s3 N);clear s1 s2 s3 s4 bD hP u0 u1 u2 u3 N HP O F;go_wp2_with fail;refine F4.o.mono ?_;rintro e R3 ⟨v,rfl,s1,s2,s3,s4⟩;have s3:R3.ownsRow wf.heap.size 99 5 v 0 (q2m []):=s3;obtain⟨ba,bk,rfl⟩:=q0F s3;have N:=q0B R3 (.cells #[.string ⟨st.toArray⟩,.int .i64 (-1),.bool true] 86);have u5:=(q6M (L:=[⟨st,(len:Int),z0I⟩]) (q0I (q0Z H4.o (fun i d=>s2 i (.inr d))) N)).1;obtain⟨ab,k6,rfl,_,v1,_⟩:=u5.at (i:=0) (by decide);simp only[List.getD_cons_zero,Nat.zero_mul,Nat.add_zero] at v1;have l0:=η (s1.base.trans N);clear s1 s2 s3 s4 N u5 H4 F4;go_wp2_with fail;refine(B2.o _ (F2.o.trans l0.o)).mono ?_;rintro e d6 ⟨rfl,j⟩;have B0:=η ((F2.o.trans l0.o).trans j);clear j;go_wp2_with fail;go_ret;exact⟨rfl,B0.o⟩
end
end Go.Proofs.YtjlcdfpbllobaaaGreatDoor
