/- Walks. -/
import Derived.Test.YtfiibpgoplcgkaaGreatDoorG13SA
import Derived.BigRegion
import Derived.Test.YtfiibpgoplcgkaaGreatDoorG9SA
set_option linter.unusedVariables false
set_option linter.unusedSimpArgs false
set_option maxRecDepth 100000
set_option maxHeartbeats 12800000
namespace Go.Proofs.YtfiibpgoplcgkaaGreatDoor
open Go.RowKit
theorem y1B{ao : Option Addr}{n cap:Nat}{l:List (List En)}(w:World)(U:EGr w ao n cap l)(hn:n<=1000000)(G2:l.flatten.length<=1000000)(hs: ∀L∈l,q1E L):
  Calls Tryz.prog 177 #[.slice ao n cap] w fun e w'=> ∃v,e= .returned v/\w'.ownsRow w.heap.size 165 3 v (q2s l).length (ecs (q2s l))/\Ext w w':=by
 have Hx:=η U;have b1:=U.fits;have b2:=U.bound;have V:=η U.len;clear U;obtain⟨i0,hi,hz,r0,Q1⟩:=info_parts Tryz.infoInt;have U1:i0.zero=some (.int .i64 0):=hz;have T0:(Instr.makeSlice 37 (.int .i64 (n:Int)) (.int .i64 (n:Int))).run Tryz.prog w= .ok (.slice (some ⟨w.heap.size,0,none⟩) n n) (w.alloc (.cells (q5H (List.replicate n 0)) 3)):=by
  have h:=run_makeSlice (P:=Tryz.prog) w 37 3 i0 (.int .i64 0) Tryz.underlying37 hi U1 .i64 .i64 (n:Int) (n:Int) (by omega) (by omega) (by rw[r0];omega) (by rw[Q1];omega) (by omega);have e:((n:Int)).toNat=n:=by omega
  rw[e,r0,Nat.mul_one] at h;have hA:madeCells #[.int .i64 0] n=q5H (List.replicate n 0):=by
   apply Array.toList_inj.1;rw[toList_madeCells_one,<-z5G];simp
  rw[h,<-hA]
  rfl
 have G1:=η T0;clear T0 hi hz r0 Q1 U1;have T0:=G1.o;go_enter Tryz.func177,Tryz.ntmps177
 go_wp2
 go_step3
 go_wp2
 go_step3
 go_wp2
 have a2:=η (fun a b W=>z1F a b W);obtain⟨w1,O0⟩: ∃w1,w.alloc (.cells (q5H (List.replicate n 0)) 3)=w1:=⟨_,rfl⟩
 obtain⟨q,hq⟩: ∃q,w.heap.size=q:=⟨_,rfl⟩
 have l2:Hd (Ext w w1):=η (O0▸q0B _ _);have X1:Hd (Blk w1 q 3 (q5H (List.replicate n 0))):=η (hq▸O0▸Blk.new _ _ _);have J2:Hd (w1.heap.size=q+1):=η (by rw[<-O0,ρ,hq]);have HQ:=η hq;simp only[O0,hq];clear T0 G1 O0 hq
 go_loopw [3] (fun v W=> ∃P I,MrgI l P I/\Blk W q 3 (q5H P)/\W.ownsRow (q+1) 165 3 v I.length (ecs I)/\Ext w W) (fun v _=>l.flatten.length+1-y3N v)
 case atStart=>exact⟨_,[],by rw[<-V.o];exact MrgI.start l,X1.o,World.ownsRow_nil _ _ _ _,l2.o⟩
 case round =>
  obtain⟨P,I,hM,hB,hR,hX⟩:=hrel;obtain⟨a3,c3,rfl⟩:=q0G hR;have HM:=η hM;have HB:=η hB;have HR:=η hR;have HX:=η hX;have R1:=hM.cnt;have G0:Hd (P.length=n):=η (by rw[hM.len,V.o]);obtain⟨on,U0⟩: ∃on,I.length=on:=⟨_,rfl⟩
  have j0:=η U0;rw[U0] at R1 HR;rw[U0];have F2:on<=1000000:=by omega
  clear hM hB hR hX U0;go_wp2_with fail
  go_loopw [5,17] (fun b i W=> ∃k:Nat,k<=n/\i= .int .i64 (k:Int)/\(∃bi:Int,b= .int .i64 bi/\BestI l P k bi)/\Ext wr W) (fun _ i _=>n-(intOf i).toNat)
  case atStart=>exact⟨0,υ _,rfl,⟨-1,rfl,BestI.start l P⟩,Ext.refl _⟩
  case round =>
   obtain⟨k,hk,rfl,⟨bi,rfl,P1⟩,hb⟩:=hrel;have C0:=η P1;have Z:=η hb;have K0:=η (HX.o.trans hb);have Q0:=η (HB.o.ext hb);clear P1 hb;by_cases o0:k<n
   ·have hd:decide ((k:Int)<(n:Int))=true:=ζ (by omega)
    have q1:IntKind.i64.wrap ((k:Int)+1)=(k:Int)+1:=by rw[ν];omega
    have q5:(k:Int)<(n:Int):=by omega
    obtain⟨b0,W1,ai,ci,rfl,l0,M⟩:=(Hx.o.ext K0.o).rd k o0;have hN: ∀j,j<n->wr.cell? ⟨q,j,none⟩=some (.int .i64 ((P.getD j 0:Nat):Int)):=fun j hj=>by
     rw[Q0.o.cell];exact q9w P (by rw[G0.o];exact hj)
    have HN:=η hN;have X:=hN k o0;have u0:=q0D X;have M2:=M.bound;have N2:=M.fits;clear hN;rcases C0.o with⟨rfl,z0⟩|⟨b,rfl,A0,k0,m0⟩
    ·by_cases S:P.getD k 0<(l.getD k []).length
     ·have HF:=η (BestI.first z0 S)
      have g1:decide (((P.getD k 0:Nat):Int)<((l.getD k []).length:Int))=true:=ζ (by omega);generalize P.getD k 0=p at*;generalize (l.getD k []).length=ln at*;clear z0;go_wp2_with fail;refine q0E (by kernel_rfl) (by kernel_rfl) ?_
      repeat (go_big_quiet_step (fail))
      refine wpQuiet_nil ?_;intro J d;have s:=η (Z.o.trans d);clear d;go_wp2_with fail
      go_roundw
      case rel=>exact⟨k+1,o0,by go_num,⟨_,rfl,HF.o⟩,s.o⟩
      case measure=>simp[intOf];omega
     ·have H0:=C0.o
      have HF:=η (BestI.skip H0 (Nat.le_of_not_lt S));have g1:decide (((P.getD k 0:Nat):Int)<((l.getD k []).length:Int))=false:=ε (by omega);generalize P.getD k 0=p at*;generalize (l.getD k []).length=ln at*;clear H0 z0;go_wp2_with fail;refine q0E (by kernel_rfl) (by kernel_rfl) ?_
      repeat (go_big_quiet_step (fail))
      refine wpQuiet_nil ?_;intro J d;have s:=η (Z.o.trans d);clear d;go_wp2_with fail
      go_roundw
      case rel=>exact⟨k+1,o0,by go_num,⟨_,rfl,HF.o⟩,s.o⟩
      case measure=>simp[intOf];omega
    ·have hN:=HN.o
     have p1:=hN b (by omega);have u1:=q0D p1;obtain⟨b1,H2,ab,cb,p2,l1,n0⟩:=(Hx.o.ext K0.o).rd b (by omega)
     cases p2;have u2:=q0D l1;have s2:=n0.bound;have t2:=n0.fits;have q6:(b:Int)<(n:Int):=by omega
     have g2:decide ((b:Int)<0)=false:=ε (by omega);clear hN;by_cases S:P.getD k 0<(l.getD k []).length
     ·have g1:decide (((P.getD k 0:Nat):Int)<((l.getD k []).length:Int))=true:=ζ (by omega)
      have q7:((P.getD k 0:Nat):Int)<((l.getD k []).length:Int):=by omega
      have q8:((P.getD b 0:Nat):Int)<((l.getD b []).length:Int):=by omega
      obtain⟨be,oe,rfl,e0,C,D⟩:=M.at S;obtain⟨bf,C2,rfl,f0,f1,f2⟩:=n0.at k0;have k2:=η (fun h=>BestI.take (b:=b) S m0 h);have Z1:=η (fun h=>BestI.keep A0 k0 m0 h);have w0:=η (a2.o ((l.getD k []).getD (P.getD k 0) en0) ((l.getD b []).getD (P.getD b 0) en0));have v0:=q0D e0;have v1:=q0D C;have v2:=q0D D;have x0:=q0D f0;have x1:=q0D f1;have x2:=q0D f2;clear m0;generalize (l.getD k []).getD (P.getD k 0) en0=x at*;generalize (l.getD b []).getD (P.getD b 0) en0=y at*;generalize P.getD k 0=p at*;generalize (l.getD k []).length=ln at*;generalize P.getD b 0=pb at*;generalize (l.getD b []).length=lb at*;obtain⟨y1,y2,y3⟩:=y;obtain⟨B1,C1,D1⟩:=x
      cases hls:q0n (B1,C1,D1) (y1,y2,y3) with
      | true=>
       rw[hls] at w0;have HL:Hd (∀W,Calls Tryz.prog 216 #[.agg #[.int .u64 B1,.int .i64 C1,.int .i64 D1],.agg #[.int .u64 y1,.int .i64 y2,.int .i64 y3]] W fun r w'=>r= .returned (.bool true)/\Ext W w'):=w0;have HF:=η (k2.o hls);clear hls;go_wp2_with fail;refine q0E (by kernel_rfl) (by kernel_rfl) ?_
       repeat (go_big_quiet_step (first|(go_at_call 216;exact Calls.quiet_ext (HL.o _))))
       refine wpQuiet_nil ?_;intro J d;have s:=η (Z.o.trans d);clear d;go_wp2_with fail
       go_roundw
       case rel=>exact⟨k+1,o0,by go_num,⟨_,rfl,HF.o⟩,s.o⟩
       case measure=>simp[intOf];omega
      | false=>
       rw[hls] at w0;have HL:Hd (∀W,Calls Tryz.prog 216 #[.agg #[.int .u64 B1,.int .i64 C1,.int .i64 D1],.agg #[.int .u64 y1,.int .i64 y2,.int .i64 y3]] W fun r w'=>r= .returned (.bool false)/\Ext W w'):=w0;have HF:=η (Z1.o hls);clear hls;go_wp2_with fail;refine q0E (by kernel_rfl) (by kernel_rfl) ?_
       repeat (go_big_quiet_step (first|(go_at_call 216;exact Calls.quiet_ext (HL.o _))))
       refine wpQuiet_nil ?_;intro J d;have s:=η (Z.o.trans d);clear d;go_wp2_with fail
       go_roundw
       case rel=>exact⟨k+1,o0,by go_num,⟨_,rfl,HF.o⟩,s.o⟩
       case measure=>simp[intOf];omega
     ·have H0:=C0.o
      have HF:=η (BestI.skip H0 (Nat.le_of_not_lt S));have g1:decide (((P.getD k 0:Nat):Int)<((l.getD k []).length:Int))=false:=ε (by omega);generalize P.getD k 0=p at*;generalize (l.getD k []).length=ln at*;clear H0 m0 k0;go_wp2_with fail;refine q0E (by kernel_rfl) (by kernel_rfl) ?_
      repeat (go_big_quiet_step (fail))
      refine wpQuiet_nil ?_;intro J d;have s:=η (Z.o.trans d);clear d;go_wp2_with fail
      go_roundw
      case rel=>exact⟨k+1,o0,by go_num,⟨_,rfl,HF.o⟩,s.o⟩
      case measure=>simp[intOf];omega
   ·obtain rfl : k = n :=by omega
    have hd:decide ((k:Int)<(k:Int))=false:=ε (by omega);have V0:=C0.o;have N1:=HM.o;rcases C0.o with⟨rfl,z0⟩|⟨b,rfl,A0,k0,m0⟩
    ·have HE:Hd (I=q2s l):=η (HM.o.done fun j hj=>z0 j (by rw[<-V.o];exact hj))
     have j2:=η (q0O HR.o Z.o);clear z0 V0 N1;go_wp2_with fail;rw[Exit.noGoto_ret];go_ret;refine⟨_,rfl,?_,K0.o⟩;rw[<-HE.o,j0.o,HQ.o];exact q1G j2.o (Nat.le_succ q)
    ·have g2 : decide ((b:Int)<0)=false:=ε (by omega)
     obtain⟨b0,W1,ab,cb,rfl,l0,M⟩:=(Hx.o.ext K0.o).rd b A0;have X:wr.cell? ⟨q,b,none⟩=some (.int .i64 ((P.getD b 0:Nat):Int)):=by
      rw[Q0.o.cell];exact q9w P (by rw[G0.o];exact A0)
     have q6:(b:Int)<(k:Int):=by omega
     have q8:((P.getD b 0:Nat):Int)<((l.getD b []).length:Int):=by omega
     have s2:=M.bound;have t2:=M.fits;obtain⟨bf,C2,rfl,f0,f1,f2⟩:=M.at k0;have L1:=η (HM.o.step hs (by rw[V.o];exact A0) k0 fun j hj=>m0 j (by rw[<-V.o];exact hj));have d2:=η (fun o ho=>HM.o.lt o ho b (by rw[V.o];exact A0) ((l.getD b []).getD (P.getD b 0) en0) (mem_drop_getD.2 ⟨_,ι _,k0,rfl⟩));generalize (l.getD b []).getD (P.getD b 0) en0=e at*;generalize P.getD b 0=pb at*;generalize (l.getD b []).length=lb at*;obtain⟨C,D,E⟩:=e;clear m0 V0 N1;go_wp2_with fail;have B0:=q0B wr (.cells #[.int .u64 0,.int .i64 0,.int .i64 0] 165);have m2:=q0A B0 f0;have n2:=q0A B0 f1;have o2:=q0A B0 f2;have B2:=q0A B0 l0;have D2:=q0A B0 X
     go_region
     have P0:Hd (Blk (wr.alloc (.cells #[.int .u64 C,.int .i64 D,.int .i64 E] 165)).drew wr.heap.size 165 #[.int .u64 C,.int .i64 D,.int .i64 E]):=η (Blk.new _ _ _).drew;have J0:Hd (Ext wr (wr.alloc (.cells #[.int .u64 C,.int .i64 D,.int .i64 E] 165)).drew):=η (q0B _ _).drew;obtain⟨wE,A1⟩: ∃wE,(wr.alloc (.cells #[.int .u64 C,.int .i64 D,.int .i64 E] 165)).drew=wE:=⟨_,rfl⟩
     rw[A1] at P0 J0;simp only[A1];have w2:q<wr.heap.size:=Q0.o.lt;obtain⟨qE,T1⟩: ∃qE,wr.heap.size=qE:=⟨_,rfl⟩
     rw[T1] at P0 w2;simp only[T1];have X0:=η (K0.o.trans J0.o);have E1:=η (Q0.o.ext J0.o);have J1:Hd (∀i,i=q->w.heap.size<=i):=η fun i hi=>by rw[hi,HQ.o];exact ι _
     clear A1 m2 n2 o2 B2 D2 B0 f0 f1 f2 l0 X M;go_wp2_with fail
     go_loopw [69] (fun i W=> ∃(j:Nat) (P':List Nat),j<=k/\i= .int .i64 (j:Int)/\P'.length=k/\(∀x,x<k->P'.getD x 0=if x<j then(q4i (C,D,E) l P).getD x 0 else P.getD x 0)/\Blk W q 3 (q5H P')/\OffS (fun i=>i=q) wE W) (fun i _=>k-(intOf i).toNat)
     case atStart=>exact⟨0,P,υ _,rfl,G0.o,fun x U=>by rw[κ (by omega)],E1.o,OffS.refl _ _⟩
     case round =>
      obtain⟨j,P',O2,rfl,S,S1,d0,G⟩:=hrel;have S0:=η S1;have Z0:=η d0;have W0:=η G;have m1:=η (G.ext X0.o J1.o);have Y:=η (G.blk P0.o (show ¬qE=q by omega));clear S1 d0 G;by_cases g0:j<k
      ·have hd : decide ((j:Int)<(k:Int))=true:=ζ (by omega)
       have q1:IntKind.i64.wrap ((j:Int)+1)=(j:Int)+1:=by rw[ν];omega
       have q5:(j:Int)<(k:Int):=by omega
       obtain⟨b2,I2,aj,cj,r2,V1,O⟩:=Hx.o.rd j g0
       cases r2;have l0:=q0A m1.o V1;have o1:l.getD j []∈l:=by
        rw[δ,γ (show j<l.length by rw[V.o];exact g0)];exact List.getElem_mem _
       have K1:=η (hs _ o1);have t1:=S0.o j g0;rw[κ (by omega)] at t1;have R0:=η (q9x (C,D,E) l P j (by rw[V.o];exact g0) (by rw[G0.o];exact g0));have F1:=η (fun W (h:OffS (fun i=>i=q) wE W)=>h.blk P0.o (show ¬qE=q by omega));have H1:=η t1;have Y0:=O.fits;have E2:=O.bound;have M0:(l.getD j []).length<=1000000:=by
        have:=List.Sublist.length_le (List.sublist_flatten_of_mem o1);omega
       have N0:=HM.o.le j (by rw[V.o];exact g0);obtain⟨Lj,M1⟩: ∃Lj,l.getD j []=Lj:=⟨_,rfl⟩
       rw[M1] at K1 R0 O l0 Y0 M0 N0;obtain⟨X,hp⟩: ∃X,P.getD j 0=X:=⟨_,rfl⟩
       rw[hp] at H1 R0 N0;have D0:Hd (∀W,OffS (fun i=>i=q) wE W->Ens W aj Lj.length cj Lj):=η fun W h=>O.ext (h.ext X0.o J1.o)
       have k1:Hd (q5H (P'.set j X)=q5H P'):=η (by
        congr 1
        refine z0z (by simp) fun x U=>?_
        rw[q5s _ _ _ _ (by omega)]
        split
        ·next h=>rw[h,H1.o]
        ·rfl)
       clear M1 hp t1 o1 O V1;obtain⟨ln,r1⟩: ∃ln,Lj.length=ln:=⟨_,rfl⟩
       have a0:=η r1;rw[r1] at D0 l0 Y0 M0 N0;clear r1;go_wp2_with fail
       go_loopw [] (fun W=> ∃p:Nat,(p=X\/(p=X+1/\X<ln/\Lj.getD X en0=(C,D,E)))/\Blk W q 3 (q5H (P'.set j p))/\OffS (fun i=>i=q) wE W) (fun W=>match W.cell? ⟨q,j,none⟩ with|some (.int _ z)=>ln+1-z.toNat|_=>0)
       case atStart=>exact⟨X,.inl rfl,by rw[k1.o];exact Z0.o,W0.o⟩
       case round =>
        obtain⟨p,q0,d0,G⟩:=hrel;have p1:wr.cell? ⟨q,j,none⟩=some (.int .i64 (p:Int)):=by
         rw[d0.cell,q9w _ (by rw[List.length_set];omega),q5s _ _ _ _ (by omega),ξ rfl]
        have t0:=η d0;have h0:=η G;have B:=F1.o _ G;have c0:wr.cell? ⟨qE,0,none⟩=some (.int .u64 C):=B.cell 0;have c1:wr.cell? ⟨qE,1,none⟩=some (.int .i64 D):=B.cell 1;have c2:wr.cell? ⟨qE,2,none⟩=some (.int .i64 E):=B.cell 2;have u1:=q0D p1;have u2:=q0D c0;have u3:=q0D c1;have u4:=q0D c2;have P2:p<=1000001:=by rcases q0 with h|⟨h,_⟩<;>omega
        have q2:IntKind.i64.wrap ((p:Int)+1)=(p:Int)+1:=by rw[ν];omega
        by_cases y0:p<ln
        ·have g1 :decide ((p:Int)<(ln:Int))=true:=ζ (by omega)
         have q3:(p:Int)<(ln:Int):=by omega
         obtain⟨be,oe,rfl,x0,x1,x2⟩:=(D0.o _ G).at y0;have u5:=q0D x0;have u6:=q0D x1;have u7:=q0D x2;by_cases U:Lj.getD p en0=(C,D,E)
         ·have A2:X=p:=(z7C K1.o (by rw[a0.o];exact q0) (by rw[a0.o];exact y0) U).symm
          subst A2;have Y1:=η U;rw[U] at u5 u6 u7 x0 x1 x2;clear q0 d0 G B U;go_wp2_with fail;refine q0E (by kernel_rfl) (by kernel_rfl) ?_
          repeat (go_big_quiet_step (fail))
          refine wpQuiet_nil ?_;intro J d;have p3:=q0A d p1;have z3:J.frozen? ⟨q,j,none⟩=false:=(t0.o.ext d).free j;have F0:=η (h0.o.trans (OffS.of_ext d));have s:=η (t0.o.ext d);have h2:=η p1;have i2:=η p3;clear d u1 u2 u3 u4 u5 u6 u7 x0 x1 x2 c0 c1 c2;go_wp2_with fail
          go_roundw
          case rel=>
           refine⟨X+1,.inr ⟨rfl,y0,Y1.o⟩,?_,F0.o.trans (OffS.set (F:=fun i=>i=q) _ rfl _ _)⟩;have h:=s.o.set j (.int .i64 ((X+1:Nat):Int));rw[z7A,List.set_set] at h;exact h
          case measure=>
           rw[h2.o];have h:(J.setCell ⟨q,j,none⟩ (.int .i64 ((X:Int)+1))).cell? ⟨q,j,none⟩=some (.int .i64 ((X:Int)+1)):=World.cell?_setCell_same _ _ _ i2.o;rw[h];simp only;omega
         ·generalize hy:Lj.getD p en0=y at*
          obtain⟨y1,y2,y3⟩:=y;have h3:(¬y1=C)\/(C=y1/\¬y2=D)\/(C=y1/\D=y2/\¬y3=E):=by
           by_cases g1:y1=C
           ·by_cases g2:y2=D
            ·by_cases g3:y3=E
             ·exact absurd (by rw[g1,g2,g3]) U
             ·exact .inr (.inr ⟨g1.symm,g2.symm,g3⟩)
            ·exact .inr (.inl ⟨g1.symm,g2⟩)
           ·exact .inl g1
          have a1:=η (z1M (L:=Lj) (e:=(C,D,E)) (by rw[a0.o];exact q0) (by rintro⟨_,h⟩;rw[hy] at h;exact U h));clear q0 d0 G B U hy;rcases h3 with h3|⟨rfl,h3⟩|⟨rfl,rfl,h3⟩
          all_goals
           go_wp2_with fail;refine q0E (by kernel_rfl) (by kernel_rfl) ?_
           repeat (go_big_quiet_step (fail))
           refine wpQuiet_nil ?_;intro J d;have F0:=η (h0.o.trans (OffS.of_ext d));have s:=η (t0.o.ext d);clear d;go_wp2_with fail
           go_roundw
           case rel=>
            refine⟨j+1,P'.set j p,g0,by go_num,by rw[List.length_set];exact S,fun x U=>?_,s.o,F0.o⟩;rw[q5s _ _ _ _ (by omega)];by_cases s0:x=j
            ·rw[ξ s0,ξ (by omega),s0,R0.o,a1.o]
            ·rw[κ s0,S0.o x U]
             by_cases h:x<j
             ·rw[ξ h,ξ (by omega)]
             ·rw[κ h,κ (by omega)]
           case measure=>simp[intOf];omega
        ·have g1:decide ((p:Int)<(ln:Int))=false:=ε (by omega)
         clear d0 G B;have a1:=η (z1M (L:=Lj) (by rw[a0.o];exact q0) (by rw[a0.o];exact fun h=>y0 h.1));clear q0;go_wp2_with fail;refine q0E (by kernel_rfl) (by kernel_rfl) ?_
         repeat (go_big_quiet_step (fail))
         refine wpQuiet_nil ?_;intro J d;have F0:=η (h0.o.trans (OffS.of_ext d));have s:=η (t0.o.ext d);clear d;go_wp2_with fail
         go_roundw
         case rel=>
          refine⟨j+1,P'.set j p,g0,by go_num,by rw[List.length_set];exact S,fun x U=>?_,s.o,F0.o⟩;rw[q5s _ _ _ _ (by omega)];by_cases s0:x=j
          ·rw[ξ s0,ξ (by omega),s0,R0.o,a1.o]
          ·rw[κ s0,S0.o x U]
           by_cases h:x<j
           ·rw[ξ h,ξ (by omega)]
           ·rw[κ h,κ (by omega)]
         case measure=>simp[intOf];omega
      ·obtain rfl:j=k:=by omega
       have hd:decide ((j:Int)<(j:Int))=false:=ε (by omega)
       have I1:Hd (P'=q4i (C,D,E) l P):=η (z0z (by rw[S,q4j,G0.o]) fun x U=>by
        have:=S0.o x (by omega);rw[ξ (by omega)] at this
        exact this)
       have i1:Hd (wr.ownsRow (q+1) 165 3 (.slice a3 on c3) on (ecs I)):=η (q0z (q0O (q0O HR.o Z.o) J0.o) fun i hi=>W0.o.block i (q0l (q0O (q0O HR.o Z.o) J0.o) i hi).2 (by have:=(q0l HR.o i hi).1;omega));have B:=Y.o;have c0:wr.cell? ⟨qE,0,none⟩=some (.int .u64 C):=B.cell 0;have c1:wr.cell? ⟨qE,1,none⟩=some (.int .i64 D):=B.cell 1;have c2:wr.cell? ⟨qE,2,none⟩=some (.int .i64 E):=B.cell 2;have u1:=q0D c0;have u2:=q0D c1;have u3:=q0D c2;clear B
       cases on with
       | zero =>
        have g3:decide ((0:Int)<((0:Nat):Int))=false:=by decide
        go_wp2_with fail;refine q0E (by kernel_rfl) (by kernel_rfl) ?_
        repeat (go_big_quiet_step (fail))
        refine wpQuiet_nil ?_;intro J d;have N:=η (q0O (q0O i1.o d) (q0B J (.cells #[.int .u64 C,.int .i64 D,.int .i64 E] 165)));have I0:=η ((m1.o.trans d).trans (q0B J (.cells #[.int .u64 C,.int .i64 D,.int .i64 E] 165)));have s:=η ((Z0.o.ext d).ext (q0B J (.cells #[.int .u64 C,.int .i64 D,.int .i64 E] 165)));have B:=Y.o.ext d;have c0:J.cell? ⟨qE,0,none⟩=some (.int .u64 C):=B.cell 0;have c1:J.cell? ⟨qE,1,none⟩=some (.int .i64 D):=B.cell 1;have c2:J.cell? ⟨qE,2,none⟩=some (.int .i64 E):=B.cell 2;have z2:q+1<=J.heap.size:=by have:=Y.o.lt;have:=d.size;omega
        have j1:=η (show q+1<=(J.alloc (.cells #[.int .u64 C,.int .i64 D,.int .i64 E] 165)).heap.size by rw[ρ];omega);clear d B
        go_wp2_with (at_builtin;refine q0R rfl (.tmp 112) (.tmp 114) 187 rfl (q+1) 165 _ 3 24 Tryz.underlying187 Tryz.infoEnH (by decide) (by decide) _ 0 (ecs I) rfl N.o _ 1 1 (ec (C,D,E)) rfl rfl (fun h=>by cases h) (Rd.lit _ _ _) (fun u hu=>q4D [(C,D,E)] u (by simpa [ecs] using hu)) (by unfold maxLen;omega) (by omega) j1.o ?_;intro v4 w4 R Q n1;obtain⟨a4,c4,rfl⟩:=q0G R;have d1:=η R;have E0:=η Q;clear R Q n1)
        go_roundw
        case rel=>
         refine⟨q4i (C,D,E) l P,I++[(C,D,E)],L1.o,?_,?_,?_⟩
         ·rw[<-I1.o]
          exact s.o.same (E0.o.block q s.o.lt (fun e=>by have:=(q0l N.o q e.symm).1;omega))
         ·have h:=d1.o
          rw[q3J,θ,j0.o];exact h
         ·exact q1d I0.o (Own.of_row (q1G N.o (show w.heap.size<=q+1 by rw[HQ.o];omega))) E0.o I0.o.size
        case measure=>show l.flatten.length+1-(0+1)<l.flatten.length+1-0;omega
       | succ m =>
        have g3:decide ((0:Int)<((m+1:Nat):Int))=true:=ζ (by omega);have q7:IntKind.i64.wrap (((m+1:Nat):Int)-1)=(m:Int):=by rw[ν];omega
        have q8:(m:Int)<((m+1:Nat):Int):=by omega
        obtain⟨K2,L2,z1,L0⟩:=Ens.of_own (L:=I) (by have h:=Own.of_row i1.o;rw[<-j0.o] at h;exact h);obtain⟨be,oe,O1,x0,x1,x2⟩:=L0.at (i:=m) (by rw[j0.o];omega)
        have s1:q0n (I.getD m en0) (C,D,E)=true:=d2.o _ (by
         rw[δ,γ (show m<I.length by rw[j0.o];omega)]
         exact List.getElem_mem _)
        obtain rfl:a3=some ⟨be,oe,none⟩:=by
         rw[j0.o] at z1;injection z1 with h1 _ _;rw[h1,O1]
        have u5:=q0D x0;have u6:=q0D x1;have u7:=q0D x2;generalize I.getD m en0=y at*;obtain⟨y1,y2,y3⟩:=y;have h3:(¬y1=C)\/(C=y1/\¬y2=D)\/(C=y1/\D=y2/\¬y3=E):=by
         by_cases g1:y1=C
         ·by_cases g2:y2=D
          ·by_cases g3:y3=E
           ·rw[g1,g2,g3,q0c] at s1;cases s1
           ·exact .inr (.inr ⟨g1.symm,g2.symm,g3⟩)
          ·exact .inr (.inl ⟨g1.symm,g2⟩)
         ·exact .inl g1
        clear s1 L0 z1 O1;rcases h3 with h3|⟨rfl,h3⟩|⟨rfl,rfl,h3⟩
        all_goals
         go_wp2_with fail;refine q0E (by kernel_rfl) (by kernel_rfl) ?_
         repeat (go_big_quiet_step (fail))
         refine wpQuiet_nil ?_;intro J d;have N:=η (q0O (q0O i1.o d) (q0B J (.cells #[.int .u64 C,.int .i64 D,.int .i64 E] 165)));have I0:=η ((m1.o.trans d).trans (q0B J (.cells #[.int .u64 C,.int .i64 D,.int .i64 E] 165)));have s:=η ((Z0.o.ext d).ext (q0B J (.cells #[.int .u64 C,.int .i64 D,.int .i64 E] 165)));have B:=Y.o.ext d;have c0:J.cell? ⟨qE,0,none⟩=some (.int .u64 C):=B.cell 0;have c1:J.cell? ⟨qE,1,none⟩=some (.int .i64 D):=B.cell 1;have c2:J.cell? ⟨qE,2,none⟩=some (.int .i64 E):=B.cell 2;have z2:q+1<=J.heap.size:=by have:=Y.o.lt;have:=d.size;omega
         have j1:=η (show q+1<=(J.alloc (.cells #[.int .u64 C,.int .i64 D,.int .i64 E] 165)).heap.size by rw[ρ];omega);clear d B
         go_wp2_with (at_builtin;refine q0R rfl (.tmp 112) (.tmp 114) 187 rfl (q+1) 165 _ 3 24 Tryz.underlying187 Tryz.infoEnH (by decide) (by decide) _ (m+1) (ecs I) rfl N.o _ 1 1 (ec (C,D,E)) rfl rfl (fun h=>by cases h) (Rd.lit _ _ _) (fun u hu=>q4D [(C,D,E)] u (by simpa [ecs] using hu)) (by unfold maxLen;omega) (by omega) j1.o ?_;intro v4 w4 R Q n1;obtain⟨a4,c4,rfl⟩:=q0G R;have d1:=η R;have E0:=η Q;clear R Q n1)
         go_roundw
         case rel=>
          refine⟨q4i (C,D,E) l P,I++[(C,D,E)],L1.o,?_,?_,?_⟩
          ·rw[<-I1.o]
           exact s.o.same (E0.o.block q s.o.lt (fun e=>by have:=(q0l N.o q e.symm).1;omega))
          ·have h:=d1.o
           rw[q3J,θ,j0.o];exact h
          ·exact q1d I0.o (Own.of_row (q1G N.o (show w.heap.size<=q+1 by rw[HQ.o];omega))) E0.o I0.o.size
         case measure=>show l.flatten.length+1-(m+1+1)<l.flatten.length+1-(m+1);omega
end Go.Proofs.YtfiibpgoplcgkaaGreatDoor
