/- Walks. -/
import Derived.Test.YteabhdclmodefaaGreatDoorG8CT
import Derived.Test.YteabhdclmodefaaGreatDoorG14CT
import Derived.BigRegion
import Derived.Test.YteabhdclmodefaaGreatDoorG13CT
set_option linter.unusedVariables false
set_option linter.unusedSimpArgs false
set_option maxRecDepth 100000
set_option maxHeartbeats 12800000
namespace Go.Proofs.YteabhdclmodefaaGreatDoor
open Go.RowKit
theorem z8q{ao : Option Addr}{n cap:Nat}{Ls:List (List En)}(w:World)(S:EGr w ao n cap Ls)(hn:n<=1000000)(G2:Ls.flatten.length<=1000000)(hs: ∀L∈Ls,q1C L):
  Calls Tryz.prog 142 #[.slice ao n cap] w fun e w'=> ∃v,e= .returned v/\w'.ownsRow w.heap.size 145 3 v (q1W Ls).length (ecs (q1W Ls))/\Ext w w':=by
 have Hx:=η S;have b1:=S.fits;have b2:=S.bound;have U:=η S.len;clear S;obtain⟨i0,hi,hz,q0,P1⟩:=info_parts Tryz.infoInt;have T1:i0.zero=some (.int .i64 0):=hz;have S0:(Instr.makeSlice 73 (.int .i64 (n:Int)) (.int .i64 (n:Int))).run Tryz.prog w= .ok (.slice (some ⟨w.heap.size,0,none⟩) n n) (w.alloc (.cells (q5h (List.replicate n 0)) 3)):=by
  have h:=run_makeSlice (P:=Tryz.prog) w 73 3 i0 (.int .i64 0) Tryz.underlying73 hi T1 .i64 .i64 (n:Int) (n:Int) (by omega) (by omega) (by rw[q0];omega) (by rw[P1];omega) (by omega);have e:((n:Int)).toNat=n:=by omega
  rw[e,q0,Nat.mul_one] at h;have hA:madeCells #[.int .i64 0] n=q5h (List.replicate n 0):=by
   apply Array.toList_inj.1;rw[toList_madeCells_one,<-z6p];simp
  rw[h,<-hA]
  rfl
 have F1:=η S0;clear S0 hi hz q0 P1 T1;have S0:=F1.o;go_enter Tryz.func142,Tryz.ntmps142
 go_wp2
 go_step3
 go_wp2
 go_step3
 go_wp2
 have Z1:=η (fun a b W=>z2i a b W);obtain⟨w1,N0⟩: ∃w1,w.alloc (.cells (q5h (List.replicate n 0)) 3)=w1:=⟨_,rfl⟩
 obtain⟨q,hq⟩: ∃q,w.heap.size=q:=⟨_,rfl⟩
 have l2:Hd (Ext w w1):=η (N0▸q0B _ _);have W1:Hd (Blk w1 q 3 (q5h (List.replicate n 0))):=η (hq▸N0▸Blk.new _ _ _);have J2:Hd (w1.heap.size=q+1):=η (by rw[<-N0,ρ,hq]);have HQ:=η hq;simp only[N0,hq];clear S0 F1 N0 hq
 go_loopw [3] (fun v W=> ∃P G,MrgI Ls P G/\Blk W q 3 (q5h P)/\W.ownsRow (q+1) 145 3 v G.length (ecs G)/\Ext w W) (fun v _=>Ls.flatten.length+1-y3x v)
 case atStart=>exact⟨_,[],by rw[<-U.o];exact MrgI.start Ls,W1.o,World.ownsRow_nil _ _ _ _,l2.o⟩
 case round =>
  obtain⟨P,G,hM,hB,hR,hX⟩:=hrel;obtain⟨a3,c3,rfl⟩:=q0G hR;have HM:=η hM;have HB:=η hB;have HR:=η hR;have HX:=η hX;have Q1:=hM.cnt;have F0:Hd (P.length=n):=η (by rw[hM.len,U.o]);obtain⟨on,T0⟩: ∃on,G.length=on:=⟨_,rfl⟩
  have h0:=η T0;rw[T0] at Q1 HR;rw[T0];have F2:on<=1000000:=by omega
  clear hM hB hR hX T0;go_wp2_with fail
  go_loopw [5,17] (fun b i W=> ∃k:Nat,k<=n/\i= .int .i64 (k:Int)/\(∃bi:Int,b= .int .i64 bi/\BestI Ls P k bi)/\Ext wr W) (fun _ i _=>n-(intOf i).toNat)
  case atStart=>exact⟨0,υ _,rfl,⟨-1,rfl,BestI.start Ls P⟩,Ext.refl _⟩
  case round =>
   obtain⟨k,hk,rfl,⟨bi,rfl,O1⟩,hb⟩:=hrel;have B0:=η O1;have Y:=η hb;have J0:=η (HX.o.trans hb);have P0:=η (HB.o.ext hb);clear O1 hb;by_cases n0:k<n
   ·have hd:decide ((k:Int)<(n:Int))=true:=ζ (by omega)
    have q1:IntKind.i64.wrap ((k:Int)+1)=(k:Int)+1:=by rw[ν];omega
    have q5:(k:Int)<(n:Int):=by omega
    obtain⟨b0,V1,ai,ci,rfl,l0,J⟩:=(Hx.o.ext J0.o).rd k n0;have hN: ∀j,j<n->wr.cell? ⟨q,j,none⟩=some (.int .i64 ((P.getD j 0:Nat):Int)):=fun j hj=>by
     rw[P0.o.cell];exact z1T P (by rw[F0.o];exact hj)
    have HN:=η hN;have V:=hN k n0;have u0:=q0D V;have M2:=J.bound;have N2:=J.fits;clear hN;rcases B0.o with⟨rfl,y0⟩|⟨b,rfl,z0,j0,k0⟩
    ·by_cases R:P.getD k 0<(Ls.getD k []).length
     ·have HF:=η (BestI.first y0 R)
      have g1:decide (((P.getD k 0:Nat):Int)<((Ls.getD k []).length:Int))=true:=ζ (by omega);generalize P.getD k 0=p at*;generalize (Ls.getD k []).length=ln at*;clear y0;go_wp2_with fail;refine q0E (by kernel_rfl) (by kernel_rfl) ?_
      repeat (go_big_quiet_step (fail))
      refine wpQuiet_nil ?_;intro I d;have l:=η (Y.o.trans d);clear d;go_wp2_with fail
      go_roundw
      case rel=>exact⟨k+1,n0,by go_num,⟨_,rfl,HF.o⟩,l.o⟩
      case measure=>simp[intOf];omega
     ·have G0:=B0.o
      have HF:=η (BestI.skip G0 (Nat.le_of_not_lt R));have g1:decide (((P.getD k 0:Nat):Int)<((Ls.getD k []).length:Int))=false:=ε (by omega);generalize P.getD k 0=p at*;generalize (Ls.getD k []).length=ln at*;clear G0 y0;go_wp2_with fail;refine q0E (by kernel_rfl) (by kernel_rfl) ?_
      repeat (go_big_quiet_step (fail))
      refine wpQuiet_nil ?_;intro I d;have l:=η (Y.o.trans d);clear d;go_wp2_with fail
      go_roundw
      case rel=>exact⟨k+1,n0,by go_num,⟨_,rfl,HF.o⟩,l.o⟩
      case measure=>simp[intOf];omega
    ·have hN:=HN.o
     have p1:=hN b (by omega);have u1:=q0D p1;obtain⟨b1,H2,ab,cb,p2,l1,m0⟩:=(Hx.o.ext J0.o).rd b (by omega)
     cases p2;have u2:=q0D l1;have s2:=m0.bound;have t2:=m0.fits;have q6:(b:Int)<(n:Int):=by omega
     have g2:decide ((b:Int)<0)=false:=ε (by omega);clear hN;by_cases R:P.getD k 0<(Ls.getD k []).length
     ·have g1:decide (((P.getD k 0:Nat):Int)<((Ls.getD k []).length:Int))=true:=ζ (by omega)
      have q7:((P.getD k 0:Nat):Int)<((Ls.getD k []).length:Int):=by omega
      have q8:((P.getD b 0:Nat):Int)<((Ls.getD b []).length:Int):=by omega
      obtain⟨be,oe,rfl,e0,B,C⟩:=J.at R;obtain⟨bf,C2,rfl,f0,f1,f2⟩:=m0.at j0;have k2:=η (fun h=>BestI.take (b:=b) R k0 h);have Y1:=η (fun h=>BestI.keep z0 j0 k0 h);have t0:=η (Z1.o ((Ls.getD k []).getD (P.getD k 0) en0) ((Ls.getD b []).getD (P.getD b 0) en0));have v0:=q0D e0;have v1:=q0D B;have v2:=q0D C;have x0:=q0D f0;have x1:=q0D f1;have x2:=q0D f2;clear k0;generalize (Ls.getD k []).getD (P.getD k 0) en0=x at*;generalize (Ls.getD b []).getD (P.getD b 0) en0=y at*;generalize P.getD k 0=p at*;generalize (Ls.getD k []).length=ln at*;generalize P.getD b 0=pb at*;generalize (Ls.getD b []).length=lb at*;obtain⟨y1,y2,y3⟩:=y;obtain⟨A1,B1,C1⟩:=x
      cases hls:q0s (A1,B1,C1) (y1,y2,y3) with
      | true=>
       rw[hls] at t0;have HL:Hd (∀W,Calls Tryz.prog 180 #[.agg #[.int .u64 A1,.int .i64 B1,.int .i64 C1],.agg #[.int .u64 y1,.int .i64 y2,.int .i64 y3]] W fun r w'=>r= .returned (.bool true)/\Ext W w'):=t0;have HF:=η (k2.o hls);clear hls;go_wp2_with fail;refine q0E (by kernel_rfl) (by kernel_rfl) ?_
       repeat (go_big_quiet_step (first|(go_at_call 180;exact Calls.quiet_ext (HL.o _))))
       refine wpQuiet_nil ?_;intro I d;have l:=η (Y.o.trans d);clear d;go_wp2_with fail
       go_roundw
       case rel=>exact⟨k+1,n0,by go_num,⟨_,rfl,HF.o⟩,l.o⟩
       case measure=>simp[intOf];omega
      | false=>
       rw[hls] at t0;have HL:Hd (∀W,Calls Tryz.prog 180 #[.agg #[.int .u64 A1,.int .i64 B1,.int .i64 C1],.agg #[.int .u64 y1,.int .i64 y2,.int .i64 y3]] W fun r w'=>r= .returned (.bool false)/\Ext W w'):=t0;have HF:=η (Y1.o hls);clear hls;go_wp2_with fail;refine q0E (by kernel_rfl) (by kernel_rfl) ?_
       repeat (go_big_quiet_step (first|(go_at_call 180;exact Calls.quiet_ext (HL.o _))))
       refine wpQuiet_nil ?_;intro I d;have l:=η (Y.o.trans d);clear d;go_wp2_with fail
       go_roundw
       case rel=>exact⟨k+1,n0,by go_num,⟨_,rfl,HF.o⟩,l.o⟩
       case measure=>simp[intOf];omega
     ·have G0:=B0.o
      have HF:=η (BestI.skip G0 (Nat.le_of_not_lt R));have g1:decide (((P.getD k 0:Nat):Int)<((Ls.getD k []).length:Int))=false:=ε (by omega);generalize P.getD k 0=p at*;generalize (Ls.getD k []).length=ln at*;clear G0 k0 j0;go_wp2_with fail;refine q0E (by kernel_rfl) (by kernel_rfl) ?_
      repeat (go_big_quiet_step (fail))
      refine wpQuiet_nil ?_;intro I d;have l:=η (Y.o.trans d);clear d;go_wp2_with fail
      go_roundw
      case rel=>exact⟨k+1,n0,by go_num,⟨_,rfl,HF.o⟩,l.o⟩
      case measure=>simp[intOf];omega
   ·obtain rfl : k = n :=by omega
    have hd:decide ((k:Int)<(k:Int))=false:=ε (by omega);have U0:=B0.o;have M1:=HM.o;rcases B0.o with⟨rfl,y0⟩|⟨b,rfl,z0,j0,k0⟩
    ·have HE:Hd (G=q1W Ls):=η (HM.o.done fun j hj=>y0 j (by rw[<-U.o];exact hj))
     have j2:=η (q0I HR.o Y.o);clear y0 U0 M1;go_wp2_with fail;rw[Exit.noGoto_ret];go_ret;refine⟨_,rfl,?_,J0.o⟩;rw[<-HE.o,h0.o,HQ.o];exact q1H j2.o (Nat.le_succ q)
    ·have g2 : decide ((b:Int)<0)=false:=ε (by omega)
     obtain⟨b0,V1,ab,cb,rfl,l0,J⟩:=(Hx.o.ext J0.o).rd b z0;have V:wr.cell? ⟨q,b,none⟩=some (.int .i64 ((P.getD b 0:Nat):Int)):=by
      rw[P0.o.cell];exact z1T P (by rw[F0.o];exact z0)
     have q6:(b:Int)<(k:Int):=by omega
     have q8:((P.getD b 0:Nat):Int)<((Ls.getD b []).length:Int):=by omega
     have s2:=J.bound;have t2:=J.fits;obtain⟨bf,C2,rfl,f0,f1,f2⟩:=J.at j0;have K1:=η (HM.o.step hs (by rw[U.o];exact z0) j0 fun j hj=>k0 j (by rw[<-U.o];exact hj));have a2:=η (fun o ho=>HM.o.lt o ho b (by rw[U.o];exact z0) ((Ls.getD b []).getD (P.getD b 0) en0) (mem_drop_getD.2 ⟨_,ι _,j0,rfl⟩));generalize (Ls.getD b []).getD (P.getD b 0) en0=e at*;generalize P.getD b 0=pb at*;generalize (Ls.getD b []).length=lb at*;obtain⟨B,C,D⟩:=e;clear k0 U0 M1;go_wp2_with fail;have A0:=q0B wr (.cells #[.int .u64 0,.int .i64 0,.int .i64 0] 145);have m2:=q0A A0 f0;have n2:=q0A A0 f1;have o2:=q0A A0 f2;have B2:=q0A A0 l0;have D2:=q0A A0 V
     go_region
     have O0:Hd (Blk (wr.alloc (.cells #[.int .u64 B,.int .i64 C,.int .i64 D] 145)).drew wr.heap.size 145 #[.int .u64 B,.int .i64 C,.int .i64 D]):=η (Blk.new _ _ _).drew;have I0:Hd (Ext wr (wr.alloc (.cells #[.int .u64 B,.int .i64 C,.int .i64 D] 145)).drew):=η (q0B _ _).drew;obtain⟨wE,z1⟩: ∃wE,(wr.alloc (.cells #[.int .u64 B,.int .i64 C,.int .i64 D] 145)).drew=wE:=⟨_,rfl⟩
     rw[z1] at O0 I0;simp only[z1];have w2:q<wr.heap.size:=P0.o.lt;obtain⟨qE,S1⟩: ∃qE,wr.heap.size=qE:=⟨_,rfl⟩
     rw[S1] at O0 w2;simp only[S1];have W0:=η (J0.o.trans I0.o);have D1:=η (P0.o.ext I0.o);have I1:Hd (∀i,i=q->w.heap.size<=i):=η fun i hi=>by rw[hi,HQ.o];exact ι _
     clear z1 m2 n2 o2 B2 D2 A0 f0 f1 f2 l0 V J;go_wp2_with fail
     go_loopw [69] (fun i W=> ∃(j:Nat) (P':List Nat),j<=k/\i= .int .i64 (j:Int)/\P'.length=k/\(∀x,x<k->P'.getD x 0=if x<j then(q5G (B,C,D) Ls P).getD x 0 else P.getD x 0)/\Blk W q 3 (q5h P')/\OffS (fun i=>i=q) wE W) (fun i _=>k-(intOf i).toNat)
     case atStart=>exact⟨0,P,υ _,rfl,F0.o,fun x S=>by rw[κ (by omega)],D1.o,OffS.refl _ _⟩
     case round =>
      obtain⟨j,P',O2,rfl,R,R1,a0,E⟩:=hrel;have R0:=η R1;have Y0:=η a0;have V0:=η E;have k1:=η (E.ext W0.o I1.o);have X:=η (E.blk O0.o (show ¬qE=q by omega));clear R1 a0 E;by_cases d0:j<k
      ·have hd : decide ((j:Int)<(k:Int))=true:=ζ (by omega)
       have q1:IntKind.i64.wrap ((j:Int)+1)=(j:Int)+1:=by rw[ν];omega
       have q5:(j:Int)<(k:Int):=by omega
       obtain⟨b2,I2,aj,cj,r2,U1,N⟩:=Hx.o.rd j d0
       cases r2;have l0:=q0A k1.o U1;have n1:Ls.getD j []∈Ls:=by
        rw[δ,γ (show j<Ls.length by rw[U.o];exact d0)];exact List.getElem_mem _
       have J1:=η (hs _ n1);have s1:=R0.o j d0;rw[κ (by omega)] at s1;have Q0:=η (z1U (B,C,D) Ls P j (by rw[U.o];exact d0) (by rw[F0.o];exact d0));have E1:=η (fun W (h:OffS (fun i=>i=q) wE W)=>h.blk O0.o (show ¬qE=q by omega));have G1:=η s1;have X0:=N.fits;have E2:=N.bound;have L0:(Ls.getD j []).length<=1000000:=by
        have:=List.Sublist.length_le (List.sublist_flatten_of_mem n1);omega
       have M0:=HM.o.le j (by rw[U.o];exact d0);obtain⟨Lj,L1⟩: ∃Lj,Ls.getD j []=Lj:=⟨_,rfl⟩
       rw[L1] at J1 Q0 N l0 X0 L0 M0;obtain⟨V,hp⟩: ∃V,P.getD j 0=V:=⟨_,rfl⟩
       rw[hp] at G1 Q0 M0;have C0:Hd (∀W,OffS (fun i=>i=q) wE W->Ens W aj Lj.length cj Lj):=η fun W h=>N.ext (h.ext W0.o I1.o)
       have j1:Hd (q5h (P'.set j V)=q5h P'):=η (by
        congr 1
        refine z2c (by simp) fun x S=>?_
        rw[q6k _ _ _ _ (by omega)]
        split
        ·next h=>rw[h,G1.o]
        ·rfl)
       clear L1 hp s1 n1 N U1;obtain⟨ln,o1⟩: ∃ln,Lj.length=ln:=⟨_,rfl⟩
       have Z:=η o1;rw[o1] at C0 l0 X0 L0 M0;clear o1;go_wp2_with fail
       go_loopw [] (fun W=> ∃p:Nat,(p=V\/(p=V+1/\V<ln/\Lj.getD V en0=(B,C,D)))/\Blk W q 3 (q5h (P'.set j p))/\OffS (fun i=>i=q) wE W) (fun W=>match W.cell? ⟨q,j,none⟩ with|some (.int _ z)=>ln+1-z.toNat|_=>0)
       case atStart=>exact⟨V,.inl rfl,by rw[j1.o];exact Y0.o,V0.o⟩
       case round =>
        obtain⟨p,o0,a0,E⟩:=hrel;have p1:wr.cell? ⟨q,j,none⟩=some (.int .i64 (p:Int)):=by
         rw[a0.cell,z1T _ (by rw[List.length_set];omega),q6k _ _ _ _ (by omega),ξ rfl]
        have s0:=η a0;have g0:=η E;have s:=E1.o _ E;have c0:wr.cell? ⟨qE,0,none⟩=some (.int .u64 B):=s.cell 0;have c1:wr.cell? ⟨qE,1,none⟩=some (.int .i64 C):=s.cell 1;have c2:wr.cell? ⟨qE,2,none⟩=some (.int .i64 D):=s.cell 2;have u1:=q0D p1;have u2:=q0D c0;have u3:=q0D c1;have u4:=q0D c2;have P2:p<=1000001:=by rcases o0 with h|⟨h,_⟩<;>omega
        have q2:IntKind.i64.wrap ((p:Int)+1)=(p:Int)+1:=by rw[ν];omega
        by_cases w0:p<ln
        ·have g1 :decide ((p:Int)<(ln:Int))=true:=ζ (by omega)
         have q3:(p:Int)<(ln:Int):=by omega
         obtain⟨be,oe,rfl,x0,x1,x2⟩:=(C0.o _ E).at w0;have u5:=q0D x0;have u6:=q0D x1;have u7:=q0D x2;by_cases S:Lj.getD p en0=(B,C,D)
         ·have A2:V=p:=(z8u J1.o (by rw[Z.o];exact o0) (by rw[Z.o];exact w0) S).symm
          subst A2;have X1:=η S;rw[S] at u5 u6 u7 x0 x1 x2;clear o0 a0 E s S;go_wp2_with fail;refine q0E (by kernel_rfl) (by kernel_rfl) ?_
          repeat (go_big_quiet_step (fail))
          refine wpQuiet_nil ?_;intro I d;have p3:=q0A d p1;have z3:I.frozen? ⟨q,j,none⟩=false:=(s0.o.ext d).free j;have E0:=η (g0.o.trans (OffS.of_ext d));have l:=η (s0.o.ext d);have d2:=η p1;have i2:=η p3;clear d u1 u2 u3 u4 u5 u6 u7 x0 x1 x2 c0 c1 c2;go_wp2_with fail
          go_roundw
          case rel=>
           refine⟨V+1,.inr ⟨rfl,w0,X1.o⟩,?_,E0.o.trans (OffS.set (F:=fun i=>i=q) _ rfl _ _)⟩;have h:=l.o.set j (.int .i64 ((V+1:Nat):Int));rw[z8s,List.set_set] at h;exact h
          case measure=>
           rw[d2.o];have h:(I.setCell ⟨q,j,none⟩ (.int .i64 ((V:Int)+1))).cell? ⟨q,j,none⟩=some (.int .i64 ((V:Int)+1)):=World.cell?_setCell_same _ _ _ i2.o;rw[h];simp only;omega
         ·generalize hy:Lj.getD p en0=y at*
          obtain⟨y1,y2,y3⟩:=y;have h3:(¬y1=B)\/(B=y1/\¬y2=C)\/(B=y1/\C=y2/\¬y3=D):=by
           by_cases g1:y1=B
           ·by_cases g2:y2=C
            ·by_cases g3:y3=D
             ·exact absurd (by rw[g1,g2,g3]) S
             ·exact .inr (.inr ⟨g1.symm,g2.symm,g3⟩)
            ·exact .inr (.inl ⟨g1.symm,g2⟩)
           ·exact .inl g1
          have Z0:=η (z2q (L:=Lj) (e:=(B,C,D)) (by rw[Z.o];exact o0) (by rintro⟨_,h⟩;rw[hy] at h;exact S h));clear o0 a0 E s S hy;rcases h3 with h3|⟨rfl,h3⟩|⟨rfl,rfl,h3⟩
          all_goals
           go_wp2_with fail;refine q0E (by kernel_rfl) (by kernel_rfl) ?_
           repeat (go_big_quiet_step (fail))
           refine wpQuiet_nil ?_;intro I d;have E0:=η (g0.o.trans (OffS.of_ext d));have l:=η (s0.o.ext d);clear d;go_wp2_with fail
           go_roundw
           case rel=>
            refine⟨j+1,P'.set j p,d0,by go_num,by rw[List.length_set];exact R,fun x S=>?_,l.o,E0.o⟩;rw[q6k _ _ _ _ (by omega)];by_cases r0:x=j
            ·rw[ξ r0,ξ (by omega),r0,Q0.o,Z0.o]
            ·rw[κ r0,R0.o x S]
             by_cases h:x<j
             ·rw[ξ h,ξ (by omega)]
             ·rw[κ h,κ (by omega)]
           case measure=>simp[intOf];omega
        ·have g1:decide ((p:Int)<(ln:Int))=false:=ε (by omega)
         clear a0 E s;have Z0:=η (z2q (L:=Lj) (by rw[Z.o];exact o0) (by rw[Z.o];exact fun h=>w0 h.1));clear o0;go_wp2_with fail;refine q0E (by kernel_rfl) (by kernel_rfl) ?_
         repeat (go_big_quiet_step (fail))
         refine wpQuiet_nil ?_;intro I d;have E0:=η (g0.o.trans (OffS.of_ext d));have l:=η (s0.o.ext d);clear d;go_wp2_with fail
         go_roundw
         case rel=>
          refine⟨j+1,P'.set j p,d0,by go_num,by rw[List.length_set];exact R,fun x S=>?_,l.o,E0.o⟩;rw[q6k _ _ _ _ (by omega)];by_cases r0:x=j
          ·rw[ξ r0,ξ (by omega),r0,Q0.o,Z0.o]
          ·rw[κ r0,R0.o x S]
           by_cases h:x<j
           ·rw[ξ h,ξ (by omega)]
           ·rw[κ h,κ (by omega)]
         case measure=>simp[intOf];omega
      ·obtain rfl:j=k:=by omega
       have hd:decide ((j:Int)<(j:Int))=false:=ε (by omega)
       have H1:Hd (P'=q5G (B,C,D) Ls P):=η (z2c (by rw[R,q5H,F0.o]) fun x S=>by
        have:=R0.o x (by omega);rw[ξ (by omega)] at this
        exact this)
       have d1:Hd (wr.ownsRow (q+1) 145 3 (.slice a3 on c3) on (ecs G)):=η (q0t (q0I (q0I HR.o Y.o) I0.o) fun i hi=>V0.o.block i (q0a (q0I (q0I HR.o Y.o) I0.o) i hi).2 (by have:=(q0a HR.o i hi).1;omega));have s:=X.o;have c0:wr.cell? ⟨qE,0,none⟩=some (.int .u64 B):=s.cell 0;have c1:wr.cell? ⟨qE,1,none⟩=some (.int .i64 C):=s.cell 1;have c2:wr.cell? ⟨qE,2,none⟩=some (.int .i64 D):=s.cell 2;have u1:=q0D c0;have u2:=q0D c1;have u3:=q0D c2;clear s
       cases on with
       | zero =>
        have g3:decide ((0:Int)<((0:Nat):Int))=false:=by decide
        go_wp2_with fail;refine q0E (by kernel_rfl) (by kernel_rfl) ?_
        repeat (go_big_quiet_step (fail))
        refine wpQuiet_nil ?_;intro I d;have M:=η (q0I (q0I d1.o d) (q0B I (.cells #[.int .u64 B,.int .i64 C,.int .i64 D] 145)));have H0:=η ((k1.o.trans d).trans (q0B I (.cells #[.int .u64 B,.int .i64 C,.int .i64 D] 145)));have l:=η ((Y0.o.ext d).ext (q0B I (.cells #[.int .u64 B,.int .i64 C,.int .i64 D] 145)));have s:=X.o.ext d;have c0:I.cell? ⟨qE,0,none⟩=some (.int .u64 B):=s.cell 0;have c1:I.cell? ⟨qE,1,none⟩=some (.int .i64 C):=s.cell 1;have c2:I.cell? ⟨qE,2,none⟩=some (.int .i64 D):=s.cell 2;have z2:q+1<=I.heap.size:=by have:=X.o.lt;have:=d.size;omega
        have i1:=η (show q+1<=(I.alloc (.cells #[.int .u64 B,.int .i64 C,.int .i64 D] 145)).heap.size by rw[ρ];omega);clear d s
        go_wp2_with (at_builtin;refine q0J rfl (.tmp 112) (.tmp 114) 206 rfl (q+1) 145 _ 3 24 Tryz.underlying206 Tryz.infoEnH (by decide) (by decide) _ 0 (ecs G) rfl M.o _ 1 1 (ec (B,C,D)) rfl rfl (fun h=>by cases h) (Rd.lit _ _ _) (fun u hu=>q4Y [(B,C,D)] u (by simpa [ecs] using hu)) (by unfold maxLen;omega) (by omega) i1.o ?_;intro v4 w4 Q O m1;obtain⟨a4,c4,rfl⟩:=q0G Q;have a1:=η Q;have D0:=η O;clear Q O m1)
        go_roundw
        case rel=>
         refine⟨q5G (B,C,D) Ls P,G++[(B,C,D)],K1.o,?_,?_,?_⟩
         ·rw[<-H1.o]
          exact l.o.same (D0.o.block q l.o.lt (fun e=>by have:=(q0a M.o q e.symm).1;omega))
         ·have h:=a1.o
          rw[q3f,θ,h0.o];exact h
         ·exact q0v H0.o (Own.of_row (q1H M.o (show w.heap.size<=q+1 by rw[HQ.o];omega))) D0.o H0.o.size
        case measure=>show Ls.flatten.length+1-(0+1)<Ls.flatten.length+1-0;omega
       | succ m =>
        have g3:decide ((0:Int)<((m+1:Nat):Int))=true:=ζ (by omega);have q7:IntKind.i64.wrap (((m+1:Nat):Int)-1)=(m:Int):=by rw[ν];omega
        have q8:(m:Int)<((m+1:Nat):Int):=by omega
        obtain⟨K2,L2,t1,K0⟩:=Ens.of_own (L:=G) (by have h:=Own.of_row d1.o;rw[<-h0.o] at h;exact h);obtain⟨be,oe,N1,x0,x1,x2⟩:=K0.at (i:=m) (by rw[h0.o];omega)
        have r1:q0s (G.getD m en0) (B,C,D)=true:=a2.o _ (by
         rw[δ,γ (show m<G.length by rw[h0.o];omega)]
         exact List.getElem_mem _)
        obtain rfl:a3=some ⟨be,oe,none⟩:=by
         rw[h0.o] at t1;injection t1 with h1 _ _;rw[h1,N1]
        have u5:=q0D x0;have u6:=q0D x1;have u7:=q0D x2;generalize G.getD m en0=y at*;obtain⟨y1,y2,y3⟩:=y;have h3:(¬y1=B)\/(B=y1/\¬y2=C)\/(B=y1/\C=y2/\¬y3=D):=by
         by_cases g1:y1=B
         ·by_cases g2:y2=C
          ·by_cases g3:y3=D
           ·rw[g1,g2,g3,q0h] at r1;cases r1
           ·exact .inr (.inr ⟨g1.symm,g2.symm,g3⟩)
          ·exact .inr (.inl ⟨g1.symm,g2⟩)
         ·exact .inl g1
        clear r1 K0 t1 N1;rcases h3 with h3|⟨rfl,h3⟩|⟨rfl,rfl,h3⟩
        all_goals
         go_wp2_with fail;refine q0E (by kernel_rfl) (by kernel_rfl) ?_
         repeat (go_big_quiet_step (fail))
         refine wpQuiet_nil ?_;intro I d;have M:=η (q0I (q0I d1.o d) (q0B I (.cells #[.int .u64 B,.int .i64 C,.int .i64 D] 145)));have H0:=η ((k1.o.trans d).trans (q0B I (.cells #[.int .u64 B,.int .i64 C,.int .i64 D] 145)));have l:=η ((Y0.o.ext d).ext (q0B I (.cells #[.int .u64 B,.int .i64 C,.int .i64 D] 145)));have s:=X.o.ext d;have c0:I.cell? ⟨qE,0,none⟩=some (.int .u64 B):=s.cell 0;have c1:I.cell? ⟨qE,1,none⟩=some (.int .i64 C):=s.cell 1;have c2:I.cell? ⟨qE,2,none⟩=some (.int .i64 D):=s.cell 2;have z2:q+1<=I.heap.size:=by have:=X.o.lt;have:=d.size;omega
         have i1:=η (show q+1<=(I.alloc (.cells #[.int .u64 B,.int .i64 C,.int .i64 D] 145)).heap.size by rw[ρ];omega);clear d s
         go_wp2_with (at_builtin;refine q0J rfl (.tmp 112) (.tmp 114) 206 rfl (q+1) 145 _ 3 24 Tryz.underlying206 Tryz.infoEnH (by decide) (by decide) _ (m+1) (ecs G) rfl M.o _ 1 1 (ec (B,C,D)) rfl rfl (fun h=>by cases h) (Rd.lit _ _ _) (fun u hu=>q4Y [(B,C,D)] u (by simpa [ecs] using hu)) (by unfold maxLen;omega) (by omega) i1.o ?_;intro v4 w4 Q O m1;obtain⟨a4,c4,rfl⟩:=q0G Q;have a1:=η Q;have D0:=η O;clear Q O m1)
         go_roundw
         case rel=>
          refine⟨q5G (B,C,D) Ls P,G++[(B,C,D)],K1.o,?_,?_,?_⟩
          ·rw[<-H1.o]
           exact l.o.same (D0.o.block q l.o.lt (fun e=>by have:=(q0a M.o q e.symm).1;omega))
          ·have h:=a1.o
           rw[q3f,θ,h0.o];exact h
          ·exact q0v H0.o (Own.of_row (q1H M.o (show w.heap.size<=q+1 by rw[HQ.o];omega))) D0.o H0.o.size
         case measure=>show Ls.flatten.length+1-(m+1+1)<Ls.flatten.length+1-(m+1);omega
end Go.Proofs.YteabhdclmodefaaGreatDoor
