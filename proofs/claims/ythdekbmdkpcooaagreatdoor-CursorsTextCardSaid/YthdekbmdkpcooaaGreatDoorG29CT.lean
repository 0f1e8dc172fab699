/- Walks. -/
import Derived.Test.YthdekbmdkpcooaaGreatDoorG10CT
import Derived.Test.YthdekbmdkpcooaaGreatDoorG12CT
import Derived.Test.YthdekbmdkpcooaaGreatDoorG28CT
import Derived.BigRegion
import Derived.Test.YthdekbmdkpcooaaGreatDoorG19CT
set_option linter.unusedVariables false
set_option linter.unusedSimpArgs false
set_option maxRecDepth 100000
set_option maxHeartbeats 12800000
namespace Go.Proofs.YthdekbmdkpcooaaGreatDoor
theorem η29 {p:Prop} (h:p):Go.RowKit.Hid p:=Lib.hid h
open Go.RowKit
theorem z8v {ao : Option Addr} {n cap:Nat} {Ls:List (List En)} (w:World) (hx:EGr w ao n cap Ls) (hn:n≤1000000) (hsum:Ls.flatten.length≤1000000) (hs: ∀L∈Ls,q0q L):
  Calls Tryz.prog 156 #[.slice ao n cap] w fun e w'=> ∃v,e= .returned v∧w'.ownsRow w.heap.size 106 3 v (q2S Ls).length (ecs (q2S Ls))∧Ext w w':=by
 have Hx:=η29 hx;have b1:=hx.fits;have b2:=hx.bound;have HLn:=η29 hx.len;clear hx;obtain ⟨i0,hi,hz,hsize,hby⟩:=info_parts Tryz.infoInt;have hz0:i0.zero=some (.int .i64 0):=hz;have hmk:(Instr.makeSlice 36 (.int .i64 (n:Int)) (.int .i64 (n:Int))).run Tryz.prog w= .ok (.slice (some ⟨w.heap.size,0,none⟩) n n) (w.alloc (.cells (q4k (List.replicate n 0)) 3)):=by
  have h:=run_makeSlice (P:=Tryz.prog) w 36 3 i0 (.int .i64 0) Tryz.underlying36 hi hz0 .i64 .i64 (n:Int) (n:Int) (by omega) (by omega) (by rw[hsize];omega) (by rw[hby];omega) (by omega);have e:((n:Int)).toNat=n:=by omega
  rw[e,hsize,Nat.mul_one] at h;have hA:madeCells #[.int .i64 0] n=q4k (List.replicate n 0):=by
   apply Array.toList_inj.1;rw[toList_madeCells_one,←z3c];simp
  rw[h,←hA]
  rfl
 have HMk:=η29 hmk;clear hmk hi hz hsize hby hz0;have hmk:=HMk.out;go_enter Tryz.func156,Tryz.ntmps156
 go_wp2
 go_step3
 go_wp2
 go_step3
 go_wp2
 have HLs:=η29 (fun a b W=>q9m a b W);obtain ⟨w1,hw1⟩: ∃w1,w.alloc (.cells (q4k (List.replicate n 0)) 3)=w1:=⟨_,rfl⟩
 obtain ⟨q,hq⟩: ∃q,w.heap.size=q:=⟨_,rfl⟩
 have HX1:Hid (Ext w w1):=η29 (hw1▸q0B _ _);have HB1:Hid (Blk w1 q 3 (q4k (List.replicate n 0))):=η29 (hq▸hw1▸Blk.new _ _ _);have HS1:Hid (w1.heap.size=q+1):=η29 (by rw[←hw1,World.size_alloc,hq]);have HQ:=η29 hq;simp only[hw1,hq];clear hmk HMk hw1 hq
 go_loopw [3] (fun v W=> ∃P out,MrgI Ls P out∧Blk W q 3 (q4k P)∧W.ownsRow (q+1) 106 3 v out.length (ecs out)∧Ext w W) (fun v _=>Ls.flatten.length+1-y1g v)
 case atStart=>exact ⟨_,[],by rw[←HLn.out];exact MrgI.start Ls,HB1.out,World.ownsRow_nil _ _ _ _,HX1.out⟩
 case round =>
  obtain ⟨P,out,hM,hB,hR,hX⟩:=hrel;obtain ⟨a3,c3,rfl⟩:=q0J hR;have HM:=η29 hM;have HB:=η29 hB;have HR:=η29 hR;have HX:=η29 hX;have hcnt:=hM.cnt;have HPl:Hid (P.length=n):=η29 (by rw[hM.len,HLn.out]);obtain ⟨on,hon⟩: ∃on,out.length=on:=⟨_,rfl⟩
  have HOn:=η29 hon;rw[hon] at hcnt HR;rw[hon];have hon2:on≤1000000:=by omega
  clear hM hB hR hX hon;go_wp2_with fail
  go_loopw [5,17] (fun b i W=> ∃k:Nat,k≤n∧i= .int .i64 (k:Int)∧(∃bi:Int,b= .int .i64 bi∧BestI Ls P k bi)∧Ext wr W) (fun _ i _=>n-(intOf i).toNat)
  case atStart=>exact ⟨0,Nat.zero_le _,rfl,⟨-1,rfl,BestI.start Ls P⟩,Ext.refl _⟩
  case round =>
   obtain ⟨k,hk,rfl,⟨bi,rfl,hbi⟩,hb⟩:=hrel;have HBi:=η29 hbi;have HBx:=η29 hb;have HXk:=η29 (HX.out.trans hb);have HBk:=η29 (HB.out.ext hb);clear hbi hb;by_cases hlt:k<n
   ·have hd:decide ((k:Int)<(n:Int))=true:=decide_eq_true (by omega)
    have q1:IntKind.i64.wrap ((k:Int)+1)=(k:Int)+1:=by rw[IntKind.wrap_i64];omega
    have q5:(k:Int)<(n:Int):=by omega
    obtain ⟨b0,off0,ai,ci,rfl,l0,hens⟩:=(Hx.out.ext HXk.out).rd k hlt;have hN: ∀j,j<n→wr.cell? ⟨q,j,none⟩=some (.int .i64 ((P.getD j 0:Nat):Int)):=fun j hj=>by
     rw[HBk.out.cell];exact q9D P (by rw[HPl.out];exact hj)
    have HN:=η29 hN;have p0:=hN k hlt;have u0:=q0F p0;have hcb:=hens.bound;have hcf:=hens.fits;clear hN;rcases HBi.out with ⟨rfl,hb2⟩|⟨b,rfl,hbk,hbl,hbm⟩
    ·by_cases hpl:P.getD k 0<(Ls.getD k []).length
     ·have HF:=η29 (BestI.first hb2 hpl)
      have g1:decide (((P.getD k 0:Nat):Int)<((Ls.getD k []).length:Int))=true:=decide_eq_true (by omega);generalize P.getD k 0=p at*;generalize (Ls.getD k []).length=ln at*;clear hb2;go_wp2_with fail;refine q0E (by kernel_rfl) (by kernel_rfl) ?_
      repeat (go_big_quiet_step (fail))
      refine wpQuiet_nil ?_;intro w3 hw3;have HB3:=η29 (HBx.out.trans hw3);clear hw3;go_wp2_with fail
      go_roundw
      case rel=>exact ⟨k+1,hlt,by go_num,⟨_,rfl,HF.out⟩,HB3.out⟩
      case measure=>simp[intOf];omega
     ·have HSk:=HBi.out
      have HF:=η29 (BestI.skip HSk (Nat.le_of_not_lt hpl));have g1:decide (((P.getD k 0:Nat):Int)<((Ls.getD k []).length:Int))=false:=decide_eq_false (by omega);generalize P.getD k 0=p at*;generalize (Ls.getD k []).length=ln at*;clear HSk hb2;go_wp2_with fail;refine q0E (by kernel_rfl) (by kernel_rfl) ?_
      repeat (go_big_quiet_step (fail))
      refine wpQuiet_nil ?_;intro w3 hw3;have HB3:=η29 (HBx.out.trans hw3);clear hw3;go_wp2_with fail
      go_roundw
      case rel=>exact ⟨k+1,hlt,by go_num,⟨_,rfl,HF.out⟩,HB3.out⟩
      case measure=>simp[intOf];omega
    ·have hN:=HN.out
     have p1:=hN b (by omega);have u1:=q0F p1;obtain ⟨b1,off1,ab,cb,hab,l1,hensb⟩:=(Hx.out.ext HXk.out).rd b (by omega)
     cases hab;have u2:=q0F l1;have hbb:=hensb.bound;have hbf:=hensb.fits;have q6:(b:Int)<(n:Int):=by omega
     have g2:decide ((b:Int)<0)=false:=decide_eq_false (by omega);clear hN;by_cases hpl:P.getD k 0<(Ls.getD k []).length
     ·have g1:decide (((P.getD k 0:Nat):Int)<((Ls.getD k []).length:Int))=true:=decide_eq_true (by omega)
      have q7:((P.getD k 0:Nat):Int)<((Ls.getD k []).length:Int):=by omega
      have q8:((P.getD b 0:Nat):Int)<((Ls.getD b []).length:Int):=by omega
      obtain ⟨be,oe,rfl,e0,e1,e2⟩:=hens.at hpl;obtain ⟨bf,of',rfl,f0,f1,f2⟩:=hensb.at hbl;have HTk:=η29 (fun h=>BestI.take (b:=b) hpl hbm h);have HKp:=η29 (fun h=>BestI.keep hbk hbl hbm h);have HLs2:=η29 (HLs.out ((Ls.getD k []).getD (P.getD k 0) en0) ((Ls.getD b []).getD (P.getD b 0) en0));have v0:=q0F e0;have v1:=q0F e1;have v2:=q0F e2;have x0:=q0F f0;have x1:=q0F f1;have x2:=q0F f2;clear hbm;generalize (Ls.getD k []).getD (P.getD k 0) en0=x at*;generalize (Ls.getD b []).getD (P.getD b 0) en0=y at*;generalize P.getD k 0=p at*;generalize (Ls.getD k []).length=ln at*;generalize P.getD b 0=pb at*;generalize (Ls.getD b []).length=lb at*;obtain ⟨y1,y2,y3⟩:=y;obtain ⟨x1',x2',x3'⟩:=x
      cases hls:q0e (x1',x2',x3') (y1,y2,y3) with
      | true=>
       rw[hls] at HLs2;have HL:Hid (∀W,Calls Tryz.prog 132 #[.agg #[.int .u64 x1',.int .i64 x2',.int .i64 x3'],.agg #[.int .u64 y1,.int .i64 y2,.int .i64 y3]] W fun r w'=>r= .returned (.bool true)∧Ext W w'):=HLs2;have HF:=η29 (HTk.out hls);clear hls;go_wp2_with fail;refine q0E (by kernel_rfl) (by kernel_rfl) ?_
       repeat (go_big_quiet_step (first|(go_at_call 132;exact Calls.quiet_ext (HL.out _))))
       refine wpQuiet_nil ?_;intro w3 hw3;have HB3:=η29 (HBx.out.trans hw3);clear hw3;go_wp2_with fail
       go_roundw
       case rel=>exact ⟨k+1,hlt,by go_num,⟨_,rfl,HF.out⟩,HB3.out⟩
       case measure=>simp[intOf];omega
      | false=>
       rw[hls] at HLs2;have HL:Hid (∀W,Calls Tryz.prog 132 #[.agg #[.int .u64 x1',.int .i64 x2',.int .i64 x3'],.agg #[.int .u64 y1,.int .i64 y2,.int .i64 y3]] W fun r w'=>r= .returned (.bool false)∧Ext W w'):=HLs2;have HF:=η29 (HKp.out hls);clear hls;go_wp2_with fail;refine q0E (by kernel_rfl) (by kernel_rfl) ?_
       repeat (go_big_quiet_step (first|(go_at_call 132;exact Calls.quiet_ext (HL.out _))))
       refine wpQuiet_nil ?_;intro w3 hw3;have HB3:=η29 (HBx.out.trans hw3);clear hw3;go_wp2_with fail
       go_roundw
       case rel=>exact ⟨k+1,hlt,by go_num,⟨_,rfl,HF.out⟩,HB3.out⟩
       case measure=>simp[intOf];omega
     ·have HSk:=HBi.out
      have HF:=η29 (BestI.skip HSk (Nat.le_of_not_lt hpl));have g1:decide (((P.getD k 0:Nat):Int)<((Ls.getD k []).length:Int))=false:=decide_eq_false (by omega);generalize P.getD k 0=p at*;generalize (Ls.getD k []).length=ln at*;clear HSk hbm hbl;go_wp2_with fail;refine q0E (by kernel_rfl) (by kernel_rfl) ?_
      repeat (go_big_quiet_step (fail))
      refine wpQuiet_nil ?_;intro w3 hw3;have HB3:=η29 (HBx.out.trans hw3);clear hw3;go_wp2_with fail
      go_roundw
      case rel=>exact ⟨k+1,hlt,by go_num,⟨_,rfl,HF.out⟩,HB3.out⟩
      case measure=>simp[intOf];omega
   ·obtain rfl : k = n :=by omega
    have hd:decide ((k:Int)<(k:Int))=false:=decide_eq_false (by omega);have HBi2:=HBi.out;have hMd:=HM.out;rcases HBi.out with ⟨rfl,hb2⟩|⟨b,rfl,hbk,hbl,hbm⟩
    ·have HE:Hid (out=q2S Ls):=η29 (HM.out.done fun j hj=>hb2 j (by rw[←HLn.out];exact hj))
     have HR2:=η29 (q0N HR.out HBx.out);clear hb2 HBi2 hMd;go_wp2_with fail;rw[Exit.noGoto_ret];go_ret;refine ⟨_,rfl,?_,HXk.out⟩;rw[←HE.out,HOn.out,HQ.out];exact q0v HR2.out (Nat.le_succ q)
    ·have g2 : decide ((b:Int)<0)=false:=decide_eq_false (by omega)
     obtain ⟨b0,off0,ab,cb,rfl,l0,hens⟩:=(Hx.out.ext HXk.out).rd b hbk;have p0:wr.cell? ⟨q,b,none⟩=some (.int .i64 ((P.getD b 0:Nat):Int)):=by
      rw[HBk.out.cell];exact q9D P (by rw[HPl.out];exact hbk)
     have q6:(b:Int)<(k:Int):=by omega
     have q8:((P.getD b 0:Nat):Int)<((Ls.getD b []).length:Int):=by omega
     have hbb:=hens.bound;have hbf:=hens.fits;obtain ⟨bf,of',rfl,f0,f1,f2⟩:=hens.at hbl;have HSt:=η29 (HM.out.step hs (by rw[HLn.out];exact hbk) hbl fun j hj=>hbm j (by rw[←HLn.out];exact hj));have HLt:=η29 (fun o ho=>HM.out.lt o ho b (by rw[HLn.out];exact hbk) ((Ls.getD b []).getD (P.getD b 0) en0) (mem_drop_getD.2 ⟨_,Nat.le_refl _,hbl,rfl⟩));generalize (Ls.getD b []).getD (P.getD b 0) en0=e at*;generalize P.getD b 0=pb at*;generalize (Ls.getD b []).length=lb at*;obtain ⟨e1,e2,e3⟩:=e;clear hbm HBi2 hMd;go_wp2_with fail;have hxa:=q0B wr (.cells #[.int .u64 0,.int .i64 0,.int .i64 0] 106);have f0a:=q0A hxa f0;have f1a:=q0A hxa f1;have f2a:=q0A hxa f2;have l0a:=q0A hxa l0;have p0a:=q0A hxa p0
     go_region
     have HBE:Hid (Blk (wr.alloc (.cells #[.int .u64 e1,.int .i64 e2,.int .i64 e3] 106)).drew wr.heap.size 106 #[.int .u64 e1,.int .i64 e2,.int .i64 e3]):=η29 (Blk.new _ _ _).drew;have HXE:Hid (Ext wr (wr.alloc (.cells #[.int .u64 e1,.int .i64 e2,.int .i64 e3] 106)).drew):=η29 (q0B _ _).drew;obtain ⟨wE,hwE⟩: ∃wE,(wr.alloc (.cells #[.int .u64 e1,.int .i64 e2,.int .i64 e3] 106)).drew=wE:=⟨_,rfl⟩
     rw[hwE] at HBE HXE;simp only[hwE];have hqE:q<wr.heap.size:=HBk.out.lt;obtain ⟨qE,hqe⟩: ∃qE,wr.heap.size=qE:=⟨_,rfl⟩
     rw[hqe] at HBE hqE;simp only[hqe];have HXwE:=η29 (HXk.out.trans HXE.out);have HBkE:=η29 (HBk.out.ext HXE.out);have HQl:Hid (∀i,i=q→w.heap.size≤i):=η29 fun i hi=>by rw[hi,HQ.out];exact Nat.le_refl _
     clear hwE f0a f1a f2a l0a p0a hxa f0 f1 f2 l0 p0 hens;go_wp2_with fail
     go_loopw [69] (fun i W=> ∃(j:Nat) (P':List Nat),j≤k∧i= .int .i64 (j:Int)∧P'.length=k∧(∀x,x<k→P'.getD x 0=if x<j then (q4H (e1,e2,e3) Ls P).getD x 0 else P.getD x 0)∧Blk W q 3 (q4k P')∧OffS (fun i=>i=q) wE W) (fun i _=>k-(intOf i).toNat)
     case atStart=>exact ⟨0,P,Nat.zero_le _,rfl,HPl.out,fun x hx=>by rw[if_neg (by omega)],HBkE.out,OffS.refl _ _⟩
     case round =>
      obtain ⟨j,P',hjk,rfl,hpl,hpx,hbp,hoff⟩:=hrel;have HPx:=η29 hpx;have HBp:=η29 hbp;have HOff:=η29 hoff;have HXj:=η29 (hoff.ext HXwE.out HQl.out);have HBEj:=η29 (hoff.blk HBE.out (show ¬qE=q by omega));clear hpx hbp hoff;by_cases hjl:j<k
      ·have hd : decide ((j:Int)<(k:Int))=true:=decide_eq_true (by omega)
       have q1:IntKind.i64.wrap ((j:Int)+1)=(j:Int)+1:=by rw[IntKind.wrap_i64];omega
       have q5:(j:Int)<(k:Int):=by omega
       obtain ⟨b2,off2,aj,cj,haj,l0w,hensj⟩:=Hx.out.rd j hjl
       cases haj;have l0:=q0A HXj.out l0w;have hlj:Ls.getD j []∈Ls:=by
        rw[List.getD_eq_getElem?_getD,List.getElem?_eq_getElem (show j<Ls.length by rw[HLn.out];exact hjl)];exact List.getElem_mem _
       have HSj:=η29 (hs _ hlj);have hp0:=HPx.out j hjl;rw[if_neg (by omega)] at hp0;have HNx:=η29 (q9O (e1,e2,e3) Ls P j (by rw[HLn.out];exact hjl) (by rw[HPl.out];exact hjl));have HBxj:=η29 (fun W (h:OffS (fun i=>i=q) wE W)=>h.blk HBE.out (show ¬qE=q by omega));have HP0:=η29 hp0;have hlj1:=hensj.fits;have hlj2:=hensj.bound;have hllen:(Ls.getD j []).length≤1000000:=by
        have:=List.Sublist.length_le (List.sublist_flatten_of_mem hlj);omega
       have hp0l:=HM.out.le j (by rw[HLn.out];exact hjl);obtain ⟨Lj,hLj⟩: ∃Lj,Ls.getD j []=Lj:=⟨_,rfl⟩
       rw[hLj] at HSj HNx hensj l0 hlj1 hllen hp0l;obtain ⟨p0,hp⟩: ∃p0,P.getD j 0=p0:=⟨_,rfl⟩
       rw[hp] at HP0 HNx hp0l;have HEnsj:Hid (∀W,OffS (fun i=>i=q) wE W→Ens W aj Lj.length cj Lj):=η29 fun W h=>hensj.ext (h.ext HXwE.out HQl.out)
       have HSelf:Hid (q4k (P'.set j p0)=q4k P'):=η29 (by
        congr 1
        refine q9n (by simp) fun x hx=>?_
        rw[q5M _ _ _ _ (by omega)]
        split
        ·next h=>rw[h,HP0.out]
        ·rfl)
       clear hLj hp hp0 hlj hensj l0w;obtain ⟨ln,hln⟩: ∃ln,Lj.length=ln:=⟨_,rfl⟩
       have HLen:=η29 hln;rw[hln] at HEnsj l0 hlj1 hllen hp0l;clear hln;go_wp2_with fail
       go_loopw [] (fun W=> ∃p:Nat,(p=p0∨(p=p0+1∧p0<ln∧Lj.getD p0 en0=(e1,e2,e3)))∧Blk W q 3 (q4k (P'.set j p))∧OffS (fun i=>i=q) wE W) (fun W=>match W.cell? ⟨q,j,none⟩ with|some (.int _ z)=>ln+1-z.toNat|_=>0)
       case atStart=>exact ⟨p0,.inl rfl,by rw[HSelf.out];exact HBp.out,HOff.out⟩
       case round =>
        obtain ⟨p,hpp,hbp,hoff⟩:=hrel;have p1:wr.cell? ⟨q,j,none⟩=some (.int .i64 (p:Int)):=by
         rw[hbp.cell,q9D _ (by rw[List.length_set];omega),q5M _ _ _ _ (by omega),if_pos rfl]
        have HBp2:=η29 hbp;have HOff2:=η29 hoff;have hbe:=HBxj.out _ hoff;have c0:wr.cell? ⟨qE,0,none⟩=some (.int .u64 e1):=hbe.cell 0;have c1:wr.cell? ⟨qE,1,none⟩=some (.int .i64 e2):=hbe.cell 1;have c2:wr.cell? ⟨qE,2,none⟩=some (.int .i64 e3):=hbe.cell 2;have u1:=q0F p1;have u2:=q0F c0;have u3:=q0F c1;have u4:=q0F c2;have hp2:p≤1000001:=by rcases hpp with h|⟨h,_⟩<;>omega
        have q2:IntKind.i64.wrap ((p:Int)+1)=(p:Int)+1:=by rw[IntKind.wrap_i64];omega
        by_cases hpln:p<ln
        ·have g1 :decide ((p:Int)<(ln:Int))=true:=decide_eq_true (by omega)
         have q3:(p:Int)<(ln:Int):=by omega
         obtain ⟨be,oe,rfl,x0,x1,x2⟩:=(HEnsj.out _ hoff).at hpln;have u5:=q0F x0;have u6:=q0F x1;have u7:=q0F x2;by_cases hx:Lj.getD p en0=(e1,e2,e3)
         ·have hst:p0=p:=(z5u HSj.out (by rw[HLen.out];exact hpp) (by rw[HLen.out];exact hpln) hx).symm
          subst hst;have HHx:=η29 hx;rw[hx] at u5 u6 u7 x0 x1 x2;clear hpp hbp hoff hbe hx;go_wp2_with fail;refine q0E (by kernel_rfl) (by kernel_rfl) ?_
          repeat (go_big_quiet_step (fail))
          refine wpQuiet_nil ?_;intro w3 hw3;have p3:=q0A hw3 p1;have z3:w3.frozen? ⟨q,j,none⟩=false:=(HBp2.out.ext hw3).free j;have HO3:=η29 (HOff2.out.trans (OffS.of_ext hw3));have HB3:=η29 (HBp2.out.ext hw3);have HP1:=η29 p1;have HP3:=η29 p3;clear hw3 u1 u2 u3 u4 u5 u6 u7 x0 x1 x2 c0 c1 c2;go_wp2_with fail
          go_roundw
          case rel=>
           refine ⟨p0+1,.inr ⟨rfl,hpln,HHx.out⟩,?_,HO3.out.trans (OffS.set (F:=fun i=>i=q) _ rfl _ _)⟩;have h:=HB3.out.set j (.int .i64 ((p0+1:Nat):Int));rw[z5d,List.set_set] at h;exact h
          case measure=>
           rw[HP1.out];have h:(w3.setCell ⟨q,j,none⟩ (.int .i64 ((p0:Int)+1))).cell? ⟨q,j,none⟩=some (.int .i64 ((p0:Int)+1)):=World.cell?_setCell_same _ _ _ HP3.out;rw[h];simp only;omega
         ·generalize hy:Lj.getD p en0=y at*
          obtain ⟨y1,y2,y3⟩:=y;have h3:(¬y1=e1)∨(e1=y1∧¬y2=e2)∨(e1=y1∧e2=y2∧¬y3=e3):=by
           by_cases g1:y1=e1
           ·by_cases g2:y2=e2
            ·by_cases g3:y3=e3
             ·exact absurd (by rw[g1,g2,g3]) hx
             ·exact .inr (.inr ⟨g1.symm,g2.symm,g3⟩)
            ·exact .inr (.inl ⟨g1.symm,g2⟩)
           ·exact .inl g1
          have HNd:=η29 (q9k (L:=Lj) (e:=(e1,e2,e3)) (by rw[HLen.out];exact hpp) (by rintro ⟨_,h⟩;rw[hy] at h;exact hx h));clear hpp hbp hoff hbe hx hy;rcases h3 with h3|⟨rfl,h3⟩|⟨rfl,rfl,h3⟩
          all_goals
           go_wp2_with fail;refine q0E (by kernel_rfl) (by kernel_rfl) ?_
           repeat (go_big_quiet_step (fail))
           refine wpQuiet_nil ?_;intro w3 hw3;have HO3:=η29 (HOff2.out.trans (OffS.of_ext hw3));have HB3:=η29 (HBp2.out.ext hw3);clear hw3;go_wp2_with fail
           go_roundw
           case rel=>
            refine ⟨j+1,P'.set j p,hjl,by go_num,by rw[List.length_set];exact hpl,fun x hx=>?_,HB3.out,HO3.out⟩;rw[q5M _ _ _ _ (by omega)];by_cases hxj:x=j
            ·rw[if_pos hxj,if_pos (by omega),hxj,HNx.out,HNd.out]
            ·rw[if_neg hxj,HPx.out x hx]
             by_cases h:x<j
             ·rw[if_pos h,if_pos (by omega)]
             ·rw[if_neg h,if_neg (by omega)]
           case measure=>simp[intOf];omega
        ·have g1:decide ((p:Int)<(ln:Int))=false:=decide_eq_false (by omega)
         clear hbp hoff hbe;have HNd:=η29 (q9k (L:=Lj) (by rw[HLen.out];exact hpp) (by rw[HLen.out];exact fun h=>hpln h.1));clear hpp;go_wp2_with fail;refine q0E (by kernel_rfl) (by kernel_rfl) ?_
         repeat (go_big_quiet_step (fail))
         refine wpQuiet_nil ?_;intro w3 hw3;have HO3:=η29 (HOff2.out.trans (OffS.of_ext hw3));have HB3:=η29 (HBp2.out.ext hw3);clear hw3;go_wp2_with fail
         go_roundw
         case rel=>
          refine ⟨j+1,P'.set j p,hjl,by go_num,by rw[List.length_set];exact hpl,fun x hx=>?_,HB3.out,HO3.out⟩;rw[q5M _ _ _ _ (by omega)];by_cases hxj:x=j
          ·rw[if_pos hxj,if_pos (by omega),hxj,HNx.out,HNd.out]
          ·rw[if_neg hxj,HPx.out x hx]
           by_cases h:x<j
           ·rw[if_pos h,if_pos (by omega)]
           ·rw[if_neg h,if_neg (by omega)]
         case measure=>simp[intOf];omega
      ·obtain rfl:j=k:=by omega
       have hd:decide ((j:Int)<(j:Int))=false:=decide_eq_false (by omega)
       have HPn:Hid (P'=q4H (e1,e2,e3) Ls P):=η29 (q9n (by rw[hpl,q4I,HPl.out]) fun x hx=>by
        have:=HPx.out x (by omega);rw[if_pos (by omega)] at this
        exact this)
       have HRo:Hid (wr.ownsRow (q+1) 106 3 (.slice a3 on c3) on (ecs out)):=η29 (q1O (q0N (q0N HR.out HBx.out) HXE.out) fun i hi=>HOff.out.block i (q0c (q0N (q0N HR.out HBx.out) HXE.out) i hi).2 (by have:=(q0c HR.out i hi).1;omega));have hbe:=HBEj.out;have c0:wr.cell? ⟨qE,0,none⟩=some (.int .u64 e1):=hbe.cell 0;have c1:wr.cell? ⟨qE,1,none⟩=some (.int .i64 e2):=hbe.cell 1;have c2:wr.cell? ⟨qE,2,none⟩=some (.int .i64 e3):=hbe.cell 2;have u1:=q0F c0;have u2:=q0F c1;have u3:=q0F c2;clear hbe
       cases on with
       | zero =>
        have g3:decide ((0:Int)<((0:Nat):Int))=false:=by decide
        go_wp2_with fail;refine q0E (by kernel_rfl) (by kernel_rfl) ?_
        repeat (go_big_quiet_step (fail))
        refine wpQuiet_nil ?_;intro w3 hw3;have HRw3:=η29 (q0N (q0N HRo.out hw3) (q0B w3 (.cells #[.int .u64 e1,.int .i64 e2,.int .i64 e3] 106)));have HX3:=η29 ((HXj.out.trans hw3).trans (q0B w3 (.cells #[.int .u64 e1,.int .i64 e2,.int .i64 e3] 106)));have HB3:=η29 ((HBp.out.ext hw3).ext (q0B w3 (.cells #[.int .u64 e1,.int .i64 e2,.int .i64 e3] 106)));have hbe:=HBEj.out.ext hw3;have c0:w3.cell? ⟨qE,0,none⟩=some (.int .u64 e1):=hbe.cell 0;have c1:w3.cell? ⟨qE,1,none⟩=some (.int .i64 e2):=hbe.cell 1;have c2:w3.cell? ⟨qE,2,none⟩=some (.int .i64 e3):=hbe.cell 2;have hs3:q+1≤w3.heap.size:=by have:=HBEj.out.lt;have:=hw3.size;omega
        have HS3:=η29 (show q+1≤(w3.alloc (.cells #[.int .u64 e1,.int .i64 e2,.int .i64 e3] 106)).heap.size by rw[World.size_alloc];omega);clear hw3 hbe
        go_wp2_with (at_builtin;refine q0R rfl (.tmp 112) (.tmp 114) 180 rfl (q+1) 106 _ 3 24 Tryz.underlying180 Tryz.infoEnH (by decide) (by decide) _ 0 (ecs out) rfl HRw3.out _ 1 1 (ec (e1,e2,e3)) rfl rfl (fun h=>by cases h) (Rd.lit _ _ _) (fun u hu=>q3c [(e1,e2,e3)] u (by simpa [ecs] using hu)) (by unfold maxLen;omega) (by omega) HS3.out ?_;intro v4 w4 hown hgrow hat;obtain ⟨a4,c4,rfl⟩:=q0J hown;have HO4:=η29 hown;have HG4:=η29 hgrow;clear hown hgrow hat)
        go_roundw
        case rel=>
         refine ⟨q4H (e1,e2,e3) Ls P,out++[(e1,e2,e3)],HSt.out,?_,?_,?_⟩
         ·rw[←HPn.out]
          exact HB3.out.same (HG4.out.block q HB3.out.lt (fun e=>by have:=(q0c HRw3.out q e.symm).1;omega))
         ·have h:=HO4.out
          rw[q2s,List.length_append,HOn.out];exact h
         ·exact q1U HX3.out (Own.of_row (q0v HRw3.out (show w.heap.size≤q+1 by rw[HQ.out];omega))) HG4.out HX3.out.size
        case measure=>show Ls.flatten.length+1-(0+1)<Ls.flatten.length+1-0;omega
       | succ m =>
        have g3:decide ((0:Int)<((m+1:Nat):Int))=true:=decide_eq_true (by omega);have q7:IntKind.i64.wrap (((m+1:Nat):Int)-1)=(m:Int):=by rw[IntKind.wrap_i64];omega
        have q8:(m:Int)<((m+1:Nat):Int):=by omega
        obtain ⟨ao4,cp4,hsl,hens4⟩:=Ens.of_own (L:=out) (by have h:=Own.of_row HRo.out;rw[←HOn.out] at h;exact h);obtain ⟨be,oe,hae,x0,x1,x2⟩:=hens4.at (i:=m) (by rw[HOn.out];omega)
        have hne:q0e (out.getD m en0) (e1,e2,e3)=true:=HLt.out _ (by
         rw[List.getD_eq_getElem?_getD,List.getElem?_eq_getElem (show m<out.length by rw[HOn.out];omega)]
         exact List.getElem_mem _)
        obtain rfl:a3=some ⟨be,oe,none⟩:=by
         rw[HOn.out] at hsl;injection hsl with h1 _ _;rw[h1,hae]
        have u5:=q0F x0;have u6:=q0F x1;have u7:=q0F x2;generalize out.getD m en0=y at*;obtain ⟨y1,y2,y3⟩:=y;have h3:(¬y1=e1)∨(e1=y1∧¬y2=e2)∨(e1=y1∧e2=y2∧¬y3=e3):=by
         by_cases g1:y1=e1
         ·by_cases g2:y2=e2
          ·by_cases g3:y3=e3
           ·rw[g1,g2,g3,q0Z] at hne;cases hne
           ·exact .inr (.inr ⟨g1.symm,g2.symm,g3⟩)
          ·exact .inr (.inl ⟨g1.symm,g2⟩)
         ·exact .inl g1
        clear hne hens4 hsl hae;rcases h3 with h3|⟨rfl,h3⟩|⟨rfl,rfl,h3⟩
        all_goals
         go_wp2_with fail;refine q0E (by kernel_rfl) (by kernel_rfl) ?_
         repeat (go_big_quiet_step (fail))
         refine wpQuiet_nil ?_;intro w3 hw3;have HRw3:=η29 (q0N (q0N HRo.out hw3) (q0B w3 (.cells #[.int .u64 e1,.int .i64 e2,.int .i64 e3] 106)));have HX3:=η29 ((HXj.out.trans hw3).trans (q0B w3 (.cells #[.int .u64 e1,.int .i64 e2,.int .i64 e3] 106)));have HB3:=η29 ((HBp.out.ext hw3).ext (q0B w3 (.cells #[.int .u64 e1,.int .i64 e2,.int .i64 e3] 106)));have hbe:=HBEj.out.ext hw3;have c0:w3.cell? ⟨qE,0,none⟩=some (.int .u64 e1):=hbe.cell 0;have c1:w3.cell? ⟨qE,1,none⟩=some (.int .i64 e2):=hbe.cell 1;have c2:w3.cell? ⟨qE,2,none⟩=some (.int .i64 e3):=hbe.cell 2;have hs3:q+1≤w3.heap.size:=by have:=HBEj.out.lt;have:=hw3.size;omega
         have HS3:=η29 (show q+1≤(w3.alloc (.cells #[.int .u64 e1,.int .i64 e2,.int .i64 e3] 106)).heap.size by rw[World.size_alloc];omega);clear hw3 hbe
         go_wp2_with (at_builtin;refine q0R rfl (.tmp 112) (.tmp 114) 180 rfl (q+1) 106 _ 3 24 Tryz.underlying180 Tryz.infoEnH (by decide) (by decide) _ (m+1) (ecs out) rfl HRw3.out _ 1 1 (ec (e1,e2,e3)) rfl rfl (fun h=>by cases h) (Rd.lit _ _ _) (fun u hu=>q3c [(e1,e2,e3)] u (by simpa [ecs] using hu)) (by unfold maxLen;omega) (by omega) HS3.out ?_;intro v4 w4 hown hgrow hat;obtain ⟨a4,c4,rfl⟩:=q0J hown;have HO4:=η29 hown;have HG4:=η29 hgrow;clear hown hgrow hat)
         go_roundw
         case rel=>
          refine ⟨q4H (e1,e2,e3) Ls P,out++[(e1,e2,e3)],HSt.out,?_,?_,?_⟩
          ·rw[←HPn.out]
           exact HB3.out.same (HG4.out.block q HB3.out.lt (fun e=>by have:=(q0c HRw3.out q e.symm).1;omega))
          ·have h:=HO4.out
           rw[q2s,List.length_append,HOn.out];exact h
          ·exact q1U HX3.out (Own.of_row (q0v HRw3.out (show w.heap.size≤q+1 by rw[HQ.out];omega))) HG4.out HX3.out.size
         case measure=>show Ls.flatten.length+1-(m+1+1)<Ls.flatten.length+1-(m+1);omega
end Go.Proofs.YthdekbmdkpcooaaGreatDoor
