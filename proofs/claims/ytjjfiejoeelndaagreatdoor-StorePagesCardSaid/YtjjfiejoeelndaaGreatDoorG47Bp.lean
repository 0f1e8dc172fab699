/- Walks. -/
import Derived.Test.YtjjfiejoeelndaaGreatDoorG46Bp
set_option linter.unusedVariables false
set_option linter.unusedSimpArgs false
set_option maxRecDepth 100000
set_option maxHeartbeats 6400000
namespace Go.Proofs.YtjjfiejoeelndaaGreatDoor
theorem η47 {p:Prop} (h:p):Go.RowKit.Hid p:=Lib.hid h
section
open Go.RowKit
def y0u (bs:List Bt) (str:List UInt8) (ex:Int) (L:List Ev):Int:=
 if q0n str 0 L≠0 then q0n str 0 L else if ex< -2 then 2 else if ex≠ -2∧ex≠((q1J bs str).length:Int)-1 then 80 else 0
theorem q6E (bs:List Bt) (s:List UInt8):(q1J bs s).length≤(tos bs).length:=by
 induction bs using z0p with
 |h0=>exact Nat.zero_le _
 | h1 l b ih=>
  rw[q7D,q3X,q8P,List.length_append,q4d]
  split
  ·rw[List.length_append];omega
  ·omega
theorem z1x {str:List UInt8} {L:List Ev} {n:Nat} (h:q0n str 0 L=0) (hn:n≤1000000):q0n str (n:Int) L=0:=by
 obtain ⟨p1,p2,p3,p4,p5,p6,p7⟩:=q0s h;unfold q0n;rw[if_neg (fun e=>e.elim p1 p2),if_neg (by omega),if_neg (by omega)];exact p7
section
variable {wb w W W1 W2:World} {g gl gs gx rate:Nat} {m:Man} {ws:List En} {c s sd:Int} {u cnt:Nat} {B:List En} {C:Cks} {P:Pbs} {sure:Int} {K K':Nat→Prop}
theorem StoP.added (h:StoP wb W1 g gs gl gx rate m ws sd c s u cnt B C sure P K) {f x:Int} {C':Cks} {b:Bt} (hb:z6K b) (hf:b.fi=(q1J (q1b P) b.st).length) (hC:C.length<200) (ha:q1K f C (btB b)=(x,0,C')):
  ∃ pos:Nat,x=(pos:Int)∧pos<4096*200∧ ∀(W:World) (u' cnt':Nat) (sure':Int) (K2:Nat→Prop),IXG wb W g gx gl rate m (q1Z (q0j sd pos b b.ev.length) ws) c s u' cnt' (q1Z (q0j sd pos b b.ev.length) B) C' sure' (fun i=>K2 i∨i=gs)→
   Blk W gs 86 #[.pointer (some ⟨gl,0,none⟩),.pointer (some ⟨gx,0,none⟩),.int .u64 sd]→¬K2 gs→
   StoP wb W g gs gl gx rate m (q1Z (q0j sd pos b b.ev.length) ws) sd c s u' cnt' (q1Z (q0j sd pos b b.ev.length) B) C' sure' (P++[(pos,b)]) K2:=by
 have hok:=h.i.cOk;obtain ⟨pos,rfl,h1,h2,h3,h4,h5,h6⟩:=z3w hok.size (z5O hb) ha;refine ⟨pos,rfl,by omega,fun W u' cnt' sure' K2 hi hbk hk=>⟨hi,hbk,h.sdE,?_,h.stE.snoc hb hf fun y hy=>?_,?_,fun z hz=>?_,⟨hk,h.k.2⟩⟩⟩
 ·rw[h1,h.recE];unfold z0n;rw[List.map_append];rfl
 ·have h7:=y0F (q7n C 0 hok.size) _ (h.posLt hy)
  have h8:=z5i hok;simp only at h7;omega
 ·have:=h.ckE;omega
 ·rcases mem_addEs.1 hz with hz|hz
  ·unfold q0j at hz
   obtain ⟨k,_,rfl⟩:=List.mem_map.1 hz;show m.ck≤(pos:Int);have:=h.ckE;omega
  ·exact h.wsE z hz
def y4B (wb w:World) (g gs gl gx rate:Nat) (m:Man) (ws:List En) (sd c s:Int) (u cnt:Nat) (B:List En) (C:Cks) (sure:Int) (P:Pbs) (K:Nat→Prop) (str:List UInt8) (L:List Ev) (z:Int) (e:Ending) (w':World):Prop:=
 ((z ≠0∧e= .returned (.tuple #[.int .i64 0,.int .i64 z])∧StoP wb w' g gs gl gx rate m ws sd c s u cnt B C sure P K)∨
  (z=0∧e= .returned (.tuple #[.int .i64 0,.int .i64 60])∧StoP wb w' g gs gl gx rate m ws sd c s u cnt B C sure P K∧c-(u:Int)-2024<6000)∨
  (z =0∧z6K ⟨str,(q1J (q1b P) str).length,L⟩∧ ∃pos ws' B' C' sure',e= .returned (.tuple #[.int .i64 ((q1J (q1b P) str).length:Int),.int .i64 0])∧
   StoP wb w' g gs gl gx rate m ws' sd c s (u+2024) (cnt+1) B' C' sure' (P++[(pos,⟨str,(q1J (q1b P) str).length,L⟩)]) K))∧Stay K w w'
theorem z7H (h :StoP wb w g gs gl gx rate m ws sd c s u cnt B C sure P K) (str:List UInt8) (hs:str.length≤4611686018427387903) (ex:Int) {ao:Option Addr} {n cap:Nat} {L:List Ev} (hx: ∀W,Ext wb W→Stay K w W→Evs W ao n cap L) (hL:q5N L)
  (hwe: ∀e∈L,e.we<18446744073709551616) (hl:B.length≤9000) (hN:(tos (q1b P)).length≤9000) (hC:C.length<200):
  Calls Tryz.prog 17 #[.pointer (some ⟨gs,0,none⟩),.string ⟨str.toArray⟩,.int .i64 ex,.slice ao n cap] w (y4B wb w g gs gl gx rate m ws sd c s u cnt B C sure P K str L (y0u (q1b P) str ex L)):=by
 have hx0:=hx w h.base (Stay.refl _ _);have hlen:=hx0.len;have b1:=hx0.fits;have b2:=hx0.bound;have hev:=q6E (q1b P) str;obtain ⟨N,hNN⟩: ∃N,(q1J (q1b P) str).length=N:=⟨_,rfl⟩
 have HNN:=η47 hNN;have hx1:=q0D w (.cells #[.string ⟨str.toArray⟩,.int .i64 0,.slice ao n cap] 102);have hbk:=Blk.new w 102 #[.string ⟨str.toArray⟩,.int .i64 0,.slice ao n cap];have HCk:=η47 (z0Y str 0 _ (hx0.ext hx1) hs hL);have HN:=η47 (fun W (k:Ext (w.alloc (.cells #[.string ⟨str.toArray⟩,.int .i64 0,.slice ao n cap] 102)) W)=>q6r ((h.b.ext hx1).ext k));have HH1:=η47 (h.more (K':=fun i=>K i∨i=w.heap.size) hx1 fun i hi=>hi.imp id fun e=>by rw[World.size_alloc];omega);have HS1:=η47 (h.kExt hx1);have hkq:¬K w.heap.size:=fun e=>by have:=h.klt _ e;omega
 have HKq:=η47 hkq;have HWq:Hid (wb.heap.size≤w.heap.size):=η47 h.base.size;have k0:=hbk.cell 0;have k1:=hbk.cell 1;have k2:=hbk.cell 2;have HBk:=η47 hbk;obtain ⟨z,hz⟩: ∃z,y0u (q1b P) str ex L=z:=⟨_,rfl⟩
 have HZ:=η47 hz;rw[hz];unfold y0u at hz;clear hkq hbk hx0;by_cases hc1:q0n str 0 L=0
 case neg=>
  rw[if_pos hc1] at hz;rw[hz] at HCk hc1;have hd:(z !=0)=true:=by simpa using hc1
  clear hz hx hx1;go_enter Tryz.func17,Tryz.ntmps17;go_wp2_with fail;refine HCk.out.mono ?_;rintro e w1 ⟨rfl,hx⟩;have HX:=η47 hx;clear hx;go_wp2_with fail;refine (HN.out _ HX.out).mono ?_;rintro e w1' ⟨rfl,rfl⟩;go_wp2_with fail;go_ret2;exact ⟨.inl ⟨hc1,rfl,(HH1.out.grow HX.out).beside fun i hi=> .inl hi⟩,HS1.out.trans fun i hi=>HH1.out.kExt HX.out i (.inl hi)⟩
 rw[if_neg (fun h=>h hc1)] at hz;rw[hc1] at HCk;obtain ⟨p1,p2,p3,p4,p5,p6,p7⟩:=q0s hc1;by_cases hc2:ex< -2
 ·rw[if_pos hc2] at hz
  subst hz;have hd:decide (ex< -2)=true:=decide_eq_true hc2;clear hx hx1;go_enter Tryz.func17,Tryz.ntmps17;go_wp2_with fail;refine HCk.out.mono ?_;rintro e w1 ⟨rfl,hx⟩;have HX:=η47 hx;clear hx;go_wp2_with fail;refine (HN.out _ HX.out).mono ?_;rintro e w1' ⟨rfl,rfl⟩;go_wp2_with fail;go_ret2;exact ⟨.inl ⟨by decide,rfl,(HH1.out.grow HX.out).beside fun i hi=> .inl hi⟩,HS1.out.trans fun i hi=>HH1.out.kExt HX.out i (.inl hi)⟩
 rw[if_neg hc2] at hz;have hd:decide (ex< -2)=false:=decide_eq_false hc2;have hsB:q3n str=true:=by
  have:0<str.length:=List.length_pos_iff.2 p1;unfold q3n;rw[decide_eq_true (show 1≤str.length by omega),decide_eq_true p3];rfl
 have hlt:z1p (q1b P) str=((N:Int)-1,0):=by unfold z1p;rw[if_pos hsB,hNN]
 have HLs:=η47 (fun W (k:Ext (w.alloc (.cells #[.string ⟨str.toArray⟩,.int .i64 0,.slice ao n cap] 102)) W)=>z7S (HH1.out.grow k) str hs (by omega) (by omega) hlt);rw[hNN] at hz hev;have hNb:N≤9000:=by omega
 by_cases hc3:ex≠ -2∧ex≠(N:Int)-1
 ·rw[if_pos hc3] at hz
  subst hz;have e1:(ex != -2)=true:=by simpa using hc3.1
  have e2:(ex !=(N:Int)-1)=true:=by simpa using hc3.2
  clear hx hx1;go_enter Tryz.func17,Tryz.ntmps17;go_wp2_with fail;refine HCk.out.mono ?_;rintro e w1 ⟨rfl,hx⟩;have HX:=η47 hx;clear hx;go_wp2_with fail;refine (HN.out _ HX.out).mono ?_;rintro e w1' ⟨rfl,rfl⟩;go_wp2_with fail;refine (HLs.out _ HX.out).mono ?_;rintro e w2 ⟨rfl,hh,hst⟩;have HH2:=η47 hh;have HS2:=η47 hst;clear hh hst;go_wp2_with fail;go_ret2;exact ⟨.inl ⟨by decide,rfl,HH2.out.beside fun i hi=> .inl hi⟩,(HS1.out.trans fun i hi=>HH1.out.kExt HX.out i (.inl hi)).trans fun i hi=>HS2.out i (.inl hi)⟩
 rw[if_neg hc3] at hz;subst hz;have e12:(ex != -2)=false∨((ex != -2)=true∧(ex !=(N:Int)-1)=false):=by
  by_cases h1:ex= -2
  ·exact .inl (by simpa using h1)
  ·by_cases h2:ex=(N:Int)-1
   ·exact .inr ⟨by simpa using h1,by simpa using h2⟩
   ·exact absurd ⟨h1,h2⟩ hc3
 have HOk:Hid (z6K ⟨str,N,L⟩):=η47 ⟨z1x (n:=N) hc1 (by omega),hwe⟩;have HX0:=η47 hx;have q1:IntKind.i64.wrap ((N:Int)-1+1)=(N:Int):=by rw[IntKind.wrap_i64];omega
 clear hc2 hc3 hx1 hx;rcases e12 with e12|⟨e12,e13⟩
 all_goals
  go_enter Tryz.func17,Tryz.ntmps17;go_wp2_with fail;refine HCk.out.mono ?_;rintro e w1 ⟨rfl,hx⟩;have HX:=η47 hx;clear hx;go_wp2_with fail;refine (HN.out _ HX.out).mono ?_;rintro e w1' ⟨rfl,rfl⟩;go_wp2_with fail;refine (HLs.out _ HX.out).mono ?_;rintro e w2 ⟨rfl,hh,hst⟩;have HH2:=η47 hh;have HS2:Hid (Stay K w w2):=η47 ((HS1.out.trans fun i hi=>HH1.out.kExt HX.out i (.inl hi)).trans fun i hi=>hst i (.inl hi));have HB2:=η47 ((HBk.out.ext HX.out).same (hst _ (.inr rfl)));clear hh hst HH1 HS1 HBk k0 k1 k2 HX HLs HN HCk;generalize w.heap.size=q at*;have f1:=HB2.out.free 1;have k0:=HB2.out.cell 0;have k1:=HB2.out.cell 1;have k2:=HB2.out.cell 2;have HB3:Hid (Blk (w2.setCell ⟨q,1,none⟩ (.int .i64 (N:Int))) q 102 #[.string ⟨str.toArray⟩,.int .i64 (N:Int),.slice ao n cap]):=η47 (HB2.out.set 1 (.int .i64 (N:Int)));have HH3:=η47 (HH2.out.poke (.inr rfl) HWq.out 1 (.int .i64 (N:Int)))
  have HS3:=η47 (HS2.out.poke HKq.out 1 (.int .i64 (N:Int)));have j0:=HB3.out.cell 0;have j1:=HB3.out.cell 1;have j2:=HB3.out.cell 2;have HPu:=η47 (y3W (b:=⟨str,N,L⟩) _ (HX0.out _ HH3.out.base HS3.out) HOk.out);have hpl:=z5O HOk.out;obtain ⟨p,hp⟩: ∃p,btB ⟨str,N,L⟩=p:=⟨_,rfl⟩
  have HPp:=η47 hp;rw[hp] at HPu hpl;clear hp;go_wp2_with fail;refine HPu.out.mono ?_;rintro e w4 ⟨rfl,hx⟩;have HH4:=η47 (HH3.out.grow hx);have HS4:=η47 (HS3.out.trans fun i hi=>HH3.out.kExt hx i (.inl hi));have HB4:=η47 (HB3.out.ext hx);clear hx HPu f1 k0 k1 k2 j0 j1 j2 HB3 HH3 HS3 HB2 HH2 HS2;have HA:=η47 (HH4.out.i.append p hpl hC);obtain ⟨s0,s1,s2⟩:=HH4.out.cells;go_wp2_with fail;refine HA.out.mono ?_;rintro e w5 ⟨⟨f,x,C',sure',hap,rfl,hi⟩|⟨rfl,hi,hno⟩,hst⟩
  ·obtain ⟨pos,rfl,hpos,hadd⟩:=HH4.out.added (b:=⟨str,N,L⟩) HOk.out HNN.out.symm hC (by rw[HPp.out];exact hap)
   have HAd:=η47 hadd;have HGb:=η47 (HH4.out.b.same (hst gs (.inr rfl)));have HB5:=η47 (HB4.out.same (hst q (.inl (.inr rfl))));have HS5:=η47 (HS4.out.trans fun i hi=>hst i (.inl (.inl hi)));have HKg:=η47 HH4.out.k.1;have HSd:=η47 HH4.out.sdE;have hwl: ∀k,(q1Z (q0j sd pos ⟨str,N,L⟩ k) B).length≤B.length+k:=fun k=>by
    have h1:=q7m (q0j sd pos ⟨str,N,L⟩ k) B;rw[q4b] at h1;omega
   have HWl:=η47 hwl;have HHs:=η47 (fun W=>z5E sd str W hs);have HOkE:Hid (∀k,k<n→q3B (q2t sd pos ⟨str,N,L⟩ k)=true):=η47 (fun k hk=>z5H sd HOk.out.1 (by show k<L.length;omega) hpos);have HEs:=η47 (fun k=>q8e sd pos ⟨str,N,L⟩ k);have HEv:Hid (∀k:Nat,q2t sd pos ⟨str,N,L⟩ k=(q2n sd str,(N:Int)+(k:Int),(pos:Int))):=η47 fun k=>rfl
   have HI5:=η47 hi;have s2':=HGb.out.cell 2;have s0':=HGb.out.cell 0;generalize q2n sd str=hh at*;clear hadd hi hst HA s0 s1 s2 hap hwl HH4 HB4 HS4;go_wp2_with fail;refine (HHs.out _).mono ?_;rintro e w5' ⟨rfl,rfl⟩;clear s2' s0' HHs;go_wp2_with fail
   go_loopw [83] (fun i W=> ∃k:Nat,k≤n∧i= .int .i64 (k:Int)∧IXG wb W g gx gl rate m (q1Z (q0j sd pos ⟨str,N,L⟩ k) ws) c s (u+(p.length+24)) (cnt+1) (q1Z (q0j sd pos ⟨str,N,L⟩ k) B) C' sure' (fun i=>(K i∨i=q)∨i=gs)∧Stay K w W∧
    Blk W gs 86 #[.pointer (some ⟨gl,0,none⟩),.pointer (some ⟨gx,0,none⟩),.int .u64 sd]∧Blk W q 102 #[.string ⟨str.toArray⟩,.int .i64 (N:Int),.slice ao n cap]) (fun i _=>n-(intOf i).toNat)
   case atStart=>exact ⟨0,Nat.zero_le _,rfl,HI5.out,HS5.out,HGb.out,HB5.out⟩
   case round=>
    obtain ⟨k,hk,rfl,hi,hsy,hgb,hbk⟩:=hrel;have HI6:=η47 hi;have HS6:=η47 hsy;have HG6:=η47 hgb;have HB6:=η47 hbk;by_cases hlt:k<n
    ·have hd7:decide ((k:Int)<(n:Int))=true:=decide_eq_true (by omega)
     have hadd:=(hi.grow (Ext.refl _).drew).add (HOkE.out k hlt) (by have:=HWl.out k;omega);rw [show∀M,q4K (q2t sd pos ⟨str,N,L⟩ k) (q1Z (q0j sd pos ⟨str,N,L⟩ k) M)=q1Z (q0j sd pos ⟨str,N,L⟩ (k+1)) M from fun M=>by
      rw[HEs.out k,q3w (q0j sd pos ⟨str,N,L⟩ k)];rfl,show∀M,q4K (q2t sd pos ⟨str,N,L⟩ k) (q1Z (q0j sd pos ⟨str,N,L⟩ k) M)=q1Z (q0j sd pos ⟨str,N,L⟩ (k+1)) M from fun M=>by
      rw[HEs.out k,q3w (q0j sd pos ⟨str,N,L⟩ k)];rfl,HEv.out k] at hadd
     have HA:Hid (Calls Tryz.prog 47 #[.pointer (some ⟨gx,0,none⟩),.agg #[.int .u64 hh,.int .i64 ((N:Int)+(k:Int)),.int .i64 (pos:Int)]] wr.drew fun r w'=>r= .returned (.int .i64 0)∧
      IXG wb w' g gx gl rate m (q1Z (q0j sd pos ⟨str,N,L⟩ (k+1)) ws) c s (u+(p.length+24)) (cnt+1) (q1Z (q0j sd pos ⟨str,N,L⟩ (k+1)) B) C' sure' (fun i=>(K i∨i=q)∨i=gs)∧Stay (fun i=>(K i∨i=q)∨i=gs) wr.drew w'):=η47 hadd
     have q7:IntKind.i64.wrap ((N:Int)+(k:Int))=(N:Int)+(k:Int):=by rw[IntKind.wrap_i64];omega
     have q8:IntKind.i64.wrap ((k:Int)+1)=(k:Int)+1:=by rw[IntKind.wrap_i64];omega
     have d1:=q0A (Ext.refl _).drew (hgb.cell 1);have d2:=q0A (Ext.refl _).drew (hbk.cell 1);clear hi hsy hgb hbk hadd;go_wp2_with fail
     go_region_held3 (fun W=>W.cell? ⟨gs,1,none⟩=some (.pointer (some ⟨gx,0,none⟩))∧W.cell? ⟨q,1,none⟩=some (.int .i64 (N:Int)))
      (first|exact HC7.out|exact ⟨d1,d2⟩)
      (first|(go_at_call 47;refine HA.out.mono ?_;rintro e w7 ⟨rfl,hi,hs⟩;have HI7:=η47 hi;have HS7:Hid (Stay K w w7):=η47 (HS6.out.trans (fun i hi=>hs i (.inl (.inl hi))));have HG7:=η47 (HG6.out.same (hs gs (.inr rfl)));have HB7:=η47 (HB6.out.same (hs q (.inl (.inr rfl))));have HC7:=η47 (And.intro (HG7.out.cell 1) (HB7.out.cell 1));clear hi hs))
     all_goals
      clear HC7 d1 d2 HA;go_wp2_with fail
      go_roundw
      case rel=>exact ⟨k+1,by omega,by go_num,HI7.out,HS7.out,HG7.out,HB7.out⟩
      case measure=>simp[intOf];omega
    ·obtain rfl:k=n:=by omega
     have hd7:decide ((k:Int)<(k:Int))=false:=decide_eq_false (by omega);have k1:=hbk.cell 1;clear hi hsy hgb hbk;go_wp2_with fail;go_ret2;have hi6:=HI6.out;rw[←hlen] at hi6;have hfin:=HAd.out wr (u+2024) (cnt+1) sure' K ((hi6.beside fun i hi=>hi.imp .inl id).mono (by omega) (Nat.le_refl _)) HG6.out fun hk=>HKg.out (.inl hk)
     have hres: ∃pos ws' B' C' sure',(Ending.returned (.tuple #[.int .i64 (N:Int),.int .i64 0]))= .returned (.tuple #[.int .i64 ((q1J (q1b P) str).length:Int),.int .i64 0])∧
       StoP wb wr g gs gl gx rate m ws' sd c s (u+2024) (cnt+1) B' C' sure' (P++[(pos,⟨str,(q1J (q1b P) str).length,L⟩)]) K:=⟨pos,_,_,C',sure',by rw[HNN.out],by rw[HNN.out];exact hfin⟩
     exact ⟨.inr (.inr ⟨rfl,by rw[HNN.out];exact HOk.out,hres⟩),HS6.out⟩
  ·have HH5:=η47 (HH4.out.stay hi hst fun i hi=> .inl hi)
   have HS5:=η47 (HS4.out.trans fun i hi=>hst i (.inl (.inl hi)));clear hi hst HA s0 s1 s2;go_wp2_with fail;go_ret2;exact ⟨.inr (.inl ⟨rfl,rfl,HH5.out.beside fun i hi=> .inl hi,by omega⟩),HS5.out⟩
end
end
section
open Go.RowKit
def q3u (str:List UInt8) (fr ct:Int):Int:=if q3n str=false∨fr<0∨ct<1 then 2 else 0
section
variable {wb w W W1 W2:World} {g gl gs gx rate:Nat} {m:Man} {ws:List En} {c s sd:Int} {u cnt:Nat} {B:List En} {C:Cks} {P:Pbs} {sure:Int} {K K':Nat→Prop}
theorem z7L (h:Blk W gs 86 #[.pointer (some ⟨gl,0,none⟩),.pointer (some ⟨gx,0,none⟩),.int .u64 sd]) (str:List UInt8) (hs:str.length≤4611686018427387903) (fr ct:Int):
  Calls Tryz.prog 60 #[.pointer (some ⟨gs,0,none⟩),.string ⟨str.toArray⟩,.int .i64 fr,.int .i64 ct] W fun e w'=>e= .returned (.int .i64 (q3u str fr ct))∧Ext W w':=by
 have HN:=η47 (q6r h);have HNm:=η47 (z4c str W (by omega));clear h
 cases hstr:q3n str with
 | false=>
  have hp:q3u str fr ct=2:=by unfold q3u;rw[if_pos (.inl hstr)]
  rw[hstr] at HNm;rw[hp];go_enter Tryz.func60,Tryz.ntmps60;go_wp2_with fail;refine HN.out.mono ?_;rintro e w1 ⟨rfl,rfl⟩;go_wp2_with fail;refine HNm.out.mono ?_;rintro e w1 ⟨rfl,hx⟩;have HX:=η47 hx;clear hx;go_wp2_with fail;go_ret;exact ⟨rfl,HX.out⟩
 | true =>
  rw[hstr] at HNm;obtain ⟨z,hz⟩: ∃z,q3u str fr ct=z:=⟨_,rfl⟩
  have hzz:(z=2∧decide (fr<0)=true)∨(z=2∧decide (fr<0)=false∧decide (ct<1)=true)∨(z=0∧decide (fr<0)=false∧decide (ct<1)=false):=by
   unfold q3u at hz;rw[hstr] at hz;simp only[Bool.true_eq_false,false_or] at hz
   split at hz
   ·by_cases h1:fr<0
    ·exact .inl ⟨hz.symm,decide_eq_true h1⟩
    ·exact .inr (.inl ⟨hz.symm,decide_eq_false h1,decide_eq_true (by omega)⟩)
   ·exact .inr (.inr ⟨hz.symm,decide_eq_false (by omega),decide_eq_false (by omega)⟩)
  rw[hz];clear hz hstr;rcases hzz with ⟨rfl,h1⟩|⟨rfl,h1,h2⟩|⟨rfl,h1,h2⟩
  all_goals
   go_enter Tryz.func60,Tryz.ntmps60;go_wp2_with fail;refine HN.out.mono ?_;rintro e w1 ⟨rfl,rfl⟩;go_wp2_with fail;refine HNm.out.mono ?_;rintro e w1 ⟨rfl,hx⟩;have HX:=η47 hx;clear hx;go_wp2_with fail;go_ret;exact ⟨rfl,HX.out⟩
def y1D (bs:List Bt) (str:List UInt8) (fr ct:Int):List To:=if q3u str fr ct=0 then z0L (q7c bs str) fr ct else []
def ToldR (wb w:World) (g gs gl gx rate:Nat) (m:Man) (ws:List En) (sd c s:Int) (u cnt:Nat) (B:List En) (C:Cks) (sure:Int) (P:Pbs) (K:Nat→Prop) (R:List To) (z:Int) (e:Ending) (w':World):Prop:=
 ∃v,e= .returned (.tuple #[v,.int .i64 z])∧StoP wb w' g gs gl gx rate m ws sd c s u cnt B C sure P (fun i=>K i∨v.ownBlock=some i)∧Stay K w w'∧w'.ownsRow wb.heap.size 76 5 v R.length (q3K R)∧ ∀i,K i→v.ownBlock≠some i
theorem StoP.slot0 (h:StoP wb W g gs gl gx rate m ws sd c s u cnt B C sure P K):StoP wb W g gs gl gx rate m ws sd c s u cnt B C sure P (fun i=>K i∨(Value.slice none 0 0).ownBlock=some i):=h.beside fun i hi=>hi.elim id fun e=>by cases e
theorem ToldR.nil {w0:World} (h:StoP wb W g gs gl gx rate m ws sd c s u cnt B C sure P K) (hs:Stay K w0 W) (z:Int):ToldR wb w0 g gs gl gx rate m ws sd c s u cnt B C sure P K [] z (.returned (.tuple #[.slice none 0 0,.int .i64 z])) W:=
 ⟨_,rfl,h.slot0,hs,World.ownsRow_nil _ _ _ _,fun i _ e=>by cases e⟩
theorem z5y (h:StoP wb w g gs gl gx rate m ws sd c s u cnt B C sure P K) (str:List UInt8) (hs:str.length≤4611686018427387903) (fr ct:Int) (hf0: -9223372036854775808≤fr) (hf1:fr≤9223372036854775807) (hl:B.length≤10000) (hev:(q1J (q1b P) str).length≤10000):
  Calls Tryz.prog 27 #[.pointer (some ⟨gs,0,none⟩),.string ⟨str.toArray⟩,.int .i64 fr,.int .i64 ct] w (ToldR wb w g gs gl gx rate m ws sd c s u cnt B C sure P K (y1D (q1b P) str fr ct) (q3u str fr ct)):=by
 have HPg:=η47 (z7L h.b str hs fr ct);have HH:=η47 h;obtain ⟨R,hR⟩: ∃R,y1D (q1b P) str fr ct=R:=⟨_,rfl⟩
 rw[hR];unfold y1D at hR;by_cases hz:q3u str fr ct=0
 ·have hfc:0≤fr∧1≤ct:=by
   unfold q3u at hz
   split at hz
   ·cases hz
   ·omega
  rw[if_pos hz] at hR;rw[hz] at HPg⊢;by_cases hbig:1073741824<fr
  ·have hd:decide ((1073741824:Int)<fr)=true:=decide_eq_true hbig
   have hR0:R=[]:=by rw[←hR];exact z8B (by rw[q5o];omega)
   subst hR0;clear hz hR h;go_enter Tryz.func27,Tryz.ntmps27;go_wp2_with fail;refine HPg.out.mono ?_;rintro e w1 ⟨rfl,hx⟩;have HX:=η47 hx;clear hx;go_wp2_with fail;go_ret2;exact ToldR.nil (HH.out.grow HX.out) (HH.out.kExt HX.out) 0
  ·have hd:decide ((1073741824:Int)<fr)=false:=decide_eq_false hbig
   obtain ⟨mn,hmn⟩: ∃mn,min ct 1073741824=mn:=⟨_,rfl⟩
   have hm1:1≤mn∧mn≤1073741824:=by omega
   have q1:IntKind.i64.wrap (fr+mn)=fr+mn:=by rw[IntKind.wrap_i64];omega
   have q2:IntKind.i64.wrap (fr+mn-1)=fr+mn-1:=by rw[IntKind.wrap_i64];omega
   have hpu:=y2P (q1b P) str (f:=fr) (c:=ct) hfc.1 hfc.2 (by omega);rw[hmn,hR] at hpu;have HB:=η47 (fun W (k:Ext w W)=>q8Q (h.grow k) str hs fr (fr+mn-1) hl hpu);clear hz hR h hpu;go_enter Tryz.func27,Tryz.ntmps27;go_wp2_with fail;refine HPg.out.mono ?_;rintro e w1 ⟨rfl,hx⟩;have HX:=η47 hx;clear hx;go_wp2_with fail;refine (HB.out _ HX.out).mono ?_;rintro e w2 ⟨v,rfl,hh,hst,hrow,hdj⟩;obtain ⟨ra,rc,rfl⟩:=q0G hrow;have HF:Hid (ToldR wb w g gs gl gx rate m ws sd c s u cnt B C sure P K R 0 (.returned (.tuple #[.slice ra R.length rc,.int .i64 0])) w2):=η47 ⟨_,rfl,hh,(HH.out.kExt HX.out).trans hst,hrow,hdj⟩;clear hh hst hrow hdj HB;go_wp2_with fail;go_ret2;exact HF.out
 ·rw [if_neg hz] at hR
  subst hR;have hz2:q3u str fr ct=2:=by
   unfold q3u at hz⊢
   split at hz
   ·rename_i h1;rw[if_pos h1]
   ·exact absurd rfl hz
  rw[hz2] at HPg⊢;clear hz hz2 h;go_enter Tryz.func27,Tryz.ntmps27;go_wp2_with fail;refine HPg.out.mono ?_;rintro e w1 ⟨rfl,hx⟩;have HX:=η47 hx;clear hx;go_wp2_with fail;go_ret2;exact ToldR.nil (HH.out.grow HX.out) (HH.out.kExt HX.out) 2
end
end
section
open Go.RowKit
theorem z5l {C:Cks} {P:Pbs} (h:q1E 0 C=z0n P) (pos:Int):q2I C pos=z0n (P.filter fun y=>decide (pos≤(y.1:Int))):=by
 unfold q2I;rw[h];unfold z0n;rw[List.filter_map]
 rfl
theorem q8r (sd:Int) {C:Cks} {P:Pbs} (h:q1E 0 C=z0n P) (hb:okBs (q1b P)) (pos:Int):z2v sd (q2I C pos)=some (q4v sd (P.filter fun y=>decide (pos≤(y.1:Int)))):=by
 rw[z5l h,z1n sd fun y hy=>hb.each (List.mem_map.2 ⟨y,(List.mem_filter.1 hy).1,rfl⟩)]
theorem q6Z {sd:Int} {P:Pbs} {pos:Int} {x:En}:x∈q4v sd (P.filter fun y=>decide (pos≤(y.1:Int)))↔x∈q4v sd P∧pos≤x.2.2:=by
 rw[mem_entsP,mem_entsP]
 constructor
 ·rintro ⟨y,hy,k,hk,rfl⟩
  obtain ⟨h1,h2⟩:=List.mem_filter.1 hy;exact ⟨⟨y,h1,k,hk,rfl⟩,by show pos≤(y.1:Int);simpa using h2⟩
 ·rintro ⟨⟨y,hy,k,hk,rfl⟩,hp⟩
  exact ⟨y,List.mem_filter.2 ⟨hy,decide_eq_true (show pos≤(y.1:Int) from hp)⟩,k,hk,rfl⟩
theorem y0L {P:Pbs} (h:okBs (q1b P)):P.length≤(tos (q1b P)).length:=by
 induction P using z0p with
 |h0=>exact Nat.zero_le _
 | h1 l a ih=>
  obtain ⟨p,b⟩:=a;rw[q4o] at h⊢;obtain ⟨h1,h2,_⟩:=okBs_snoc.1 h;have h3:=(q0s h2.1).2.1;have h4:=ih h1;have h5:0<b.ev.length:=List.length_pos_iff.2 h3;rw[q3X,q8P,List.length_append,List.length_append,q4d,List.length_singleton];omega
theorem z9A {C:Cks} {P:Pbs} (hok:okC C) (h:q1E 0 C=z0n P):P.Pairwise fun a b=>a.1<b.1:=by
 have h1:=q7n C 0 hok.size;rw[h] at h1;unfold z0n at h1;rw[List.pairwise_map] at h1;exact h1.imp fun {a b} hab=>by unfold y0T at hab;simp only at hab;omega
section
variable {wb w W W1 W2:World} {g gl gs gx rate:Nat} {m:Man} {ws:List En} {c s sd:Int} {u cnt:Nat} {B:List En} {C:Cks} {P:Pbs} {sure:Int} {K K':Nat→Prop}
structure y4X (sd:Int) (m:Man) (B:List En) (C:Cks) (P:Pbs):Prop where
 sdE:m.sd=sd
 recE:q1E 0 C=z0n P
 ok:okBs (q1b P)
 sub: ∀x∈B,x∈q4v sd P
 all: ∀x∈q4v sd P,x∈B∨m.ck≤x.2.2
 ckE:m.ck≤q4P C
theorem y1Y (h:DKQ wb w g m c s u cnt B C K) (hf:y4X sd m B C P) (hs0:0≤sd) (hs1:sd<18446744073709551616) (hcn:40≤cnt) (hN:(tos (q1b P)).length≤2000) (hBn:B.Nodup) (rate:Nat):
  Calls Tryz.prog 26 #[.pointer (some ⟨g,0,none⟩),.int .u64 sd,.float .f64 rate] w fun e w'=>
   ∃gs gl gx m' ws B' sure,e= .returned (.tuple #[.pointer (some ⟨gs,0,none⟩),.int .i64 0])∧StoP wb w' g gs gl gx rate m' ws sd c s u cnt B' C sure P K∧(m'.nx≤m.nx∨m'.nx=0)∧Stay K w w':=by
 have hok:okC C:=by obtain ⟨_,_,_,_,_,_,_,_,h5⟩:=h;exact h5
 have hman:m.ok:=by obtain ⟨st,_,_,_,rfl,_,_,⟨h4,_⟩,_⟩:=h;exact h4.man
 have hpl:=y0L hf.ok;have hBl:B.length≤2000:=by
  have:=q7s hBn (m:=q4v sd P) fun x hx=>hf.sub x hx
  rw[q7L] at this;omega
 have hrl:(q1E 0 C).length≤2000:=by rw[hf.recE,q8m];omega
 have hfl:=(Man.bounds hman).2.1;have HO:=η47 h.lopen;have hwb:=h;clear h;go_enter Tryz.func26,Tryz.ntmps26;go_wp2_with fail;refine HO.out.mono ?_;rintro e w1 ⟨gl,rfl,hd,hst⟩;have HS1:=η47 hst;have HR:=η47 (y1V hd (by omega) (by omega) hs0 hs1 rate);clear hd hst HO;go_wp2_with fail;refine HR.out.mono ?_;rintro e w2 ⟨⟨gx,m',B2,D,an,rfl,hi,hr,hw⟩|⟨rfl,_,hb⟩,hst⟩
 case inr=>
  exfalso
  rcases hb with ⟨_,hb⟩|hb
  ·rw[q8r sd hf.recE hf.ok] at hb;cases hb
  ·rw[q8r sd hf.recE hf.ok] at hb;cases hb
 rw[q8r sd hf.recE hf.ok] at hr;obtain rfl:=Option.some.inj hr;have hfin:m'.sd=sd∧(m'.nx≤m.nx∨m'.nx=0)∧StI sd (q1Z (q4v sd (P.filter fun y=>decide (m'.ck≤(y.1:Int)))) B2) P∧m'.ck≤q4P C∧ ∀x∈q1Z (q4v sd (P.filter fun y=>decide (m'.ck≤(y.1:Int)))) [],m'.ck≤x.2.2:=by
  have hpos:=z9A hok hf.recE;rcases hw with ⟨_,rfl,h1,h2,h3,h4⟩|⟨_,rfl,rfl,_⟩
  ·refine ⟨h1,.inl (Int.le_refl _),⟨hf.ok,hpos,fun x=>?_⟩,h2,fun x hx=>?_⟩
   ·rw [mem_addEs,q6Z,←h4]
    constructor
    ·rintro (hx|hx)
     ·exact hx.1
     ·exact hf.sub x hx
    ·intro hx
     rcases hf.all x hx with h5|h5
     ·exact .inr h5
     ·exact .inl ⟨hx,h5⟩
   ·rw[mem_addEs,q6Z] at hx
    rcases hx with hx|hx
    ·exact hx.2
    ·cases hx
  ·refine ⟨rfl,.inr rfl,⟨hf.ok,hpos,fun x=>?_⟩,(z8C hok).1,fun x hx=>?_⟩
   ·rw [mem_addEs,q6Z]
    constructor
    ·rintro (hx|hx)
     ·exact hx.1
     ·cases hx
    ·intro hx
     obtain ⟨y,hy,k,hk,rfl⟩:=mem_entsP.1 hx;exact .inl ⟨hx,by show (0:Int)≤(y.1:Int);omega⟩
   ·rw[mem_addEs,q6Z] at hx
    rcases hx with hx|hx
    ·exact hx.2
    ·cases hx
 obtain ⟨f1,f2,f3,f4,f5⟩:=hfin;have hx3:=q0D w2 (.cells #[.pointer (some ⟨gl,0,none⟩),.pointer (some ⟨gx,0,none⟩),.int .u64 sd] 86);have hkq:¬K w2.heap.size:=fun e=>by have:=hi.klt _ e;omega
 have HF:Hid (StoP wb (w2.alloc (.cells #[.pointer (some ⟨gl,0,none⟩),.pointer (some ⟨gx,0,none⟩),.int .u64 sd] 86)) g w2.heap.size gl gx rate m' _ sd c s u cnt _ C (q4P C) P K):=η47
  ⟨hi.more hx3 (fun i hi=>hi.imp id fun e=>by rw[World.size_alloc];omega),Blk.new w2 _ _,f1,hf.recE,f3,f4,f5,⟨hkq,hi.base.size⟩⟩
 have HS2:Hid (Stay K w (w2.alloc (.cells #[.pointer (some ⟨gl,0,none⟩),.pointer (some ⟨gx,0,none⟩),.int .u64 sd] 86))):=η47 ((HS1.out.trans hst).trans (hi.kExt hx3));have HNx:=η47 f2;clear hi hr hw hst f1 f2 f3 f4 f5 hx3 hkq HR;go_wp2_with fail;go_ret2;exact ⟨_,gl,gx,m',_,_,_,rfl,HF.out,HNx.out,HS2.out⟩
end
end
section
open Go.RowKit
section
variable {wb w W W':World} {g gx gl rate:Nat} {m:Man} {ws:List En} {c s:Int} {u cnt:Nat} {B:List En} {C C':Cks} {sure sd:Int} {K K':Nat→Prop}
end
end
section
open Go.RowKit
section
variable {wb w W W':World} {g gx gl rate:Nat} {m:Man} {ws:List En} {c s:Int} {u cnt:Nat} {B:List En} {C C':Cks} {sure sd:Int} {K K' Z:Nat→Prop}
end
end
section
open Go.RowKit
end
end Go.Proofs.YtjjfiejoeelndaaGreatDoor
