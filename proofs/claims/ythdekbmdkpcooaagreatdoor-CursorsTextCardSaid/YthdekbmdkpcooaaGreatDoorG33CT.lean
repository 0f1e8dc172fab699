/- A table in memory. -/
import Derived.Test.YthdekbmdkpcooaaGreatDoorG10CT
import Derived.Test.YthdekbmdkpcooaaGreatDoorG25CT
import Derived.Test.YthdekbmdkpcooaaGreatDoorG12CT
import Derived.Test.YthdekbmdkpcooaaGreatDoorG27CT
import Derived.ArgAppend
set_option linter.unusedVariables false
set_option linter.unusedSimpArgs false
set_option maxRecDepth 100000
set_option maxHeartbeats 12800000
namespace Go.Proofs.YthdekbmdkpcooaaGreatDoor
theorem η33 {p:Prop} (h:p):Go.RowKit.Hid p:=Lib.hid h
section
open Go.RowKit
structure MemI (w:World) (m:Nat) (v:Value) (L:List En):Prop where
 blk:Blk w m 201 #[.bool true,v]
 row:w.ownsRow 0 106 3 v L.length (ecs L)
structure okM (L:List En):Prop where
 sort:q0q L
 ok: ∀x∈L,q3J x=true
 len:L.length≤50000
theorem okM.nil :okM []:=⟨List.Pairwise.nil,(fun x h=>by cases h),Nat.zero_le _⟩
theorem okM.add {L:List En} (h:okM L) {e:En} (he:q3J e=true) (hl:L.length<50000):okM (q3V e L):=
 ⟨z0Q h.sort,z8t he h.ok,by have:=z5R (e:=e) (L:=L);omega⟩
section
variable {w w' w1 w2:World} {m:Nat} {v:Value} {L L1 L2:List En}
theorem MemI.same (h:MemI w m v L) (k: ∀i,(i=m∨v.ownBlock=some i)→w'.heap[i]? =w.heap[i]?):MemI w' m v L:=
 ⟨h.blk.same (k m (.inl rfl)),q1O h.row fun i hi=>k i (.inr hi)⟩
theorem MemI.lt (h:MemI w m v L) {i:Nat} (hi:i=m∨v.ownBlock=some i):i<w.heap.size:=by
 rcases hi with rfl|hi
 ·exact h.blk.lt
 ·exact (q0c h.row i hi).2
theorem MemI.ext (h:MemI w m v L) (k:Ext w w'):MemI w' m v L:=h.same fun i hi=>k.block i (h.lt hi)
end
theorem z1q {w:World} {m:Nat} {v:Value} {L:List En} (h:MemI w m v L):Calls Tryz.prog 130 #[.pointer (some ⟨m,0,none⟩)] w fun e w'=>e= .returned (.bool false)∧w=w':=by
 have c0:w.cell? ⟨m,0,none⟩=some (.bool true):=h.blk.cell 0;clear h;go_enter Tryz.func130,Tryz.ntmps130;go_wp2_with fail;go_ret;exact ⟨rfl,rfl⟩
theorem q5R : ∀(L:List En) (j:Nat),(ecs L).take (j*3)=ecs (L.take j)
 |[],j=>by simp[ecs]
 |e::r,0=>by simp[ecs]
 | e::r,j+1=>by
  rw[List.take_succ_cons,q4c,q4c,←q5R r j];have h:(ec e).length=3:=rfl;rw[show (j+1)*3=(ec e).length+j*3 by rw[h];omega,List.take_length_add_append]
theorem q7Q : ∀(L:List En) (j:Nat),(ecs L).drop (j*3)=ecs (L.drop j)
 |[],j=>by simp[ecs]
 |e::r,0=>by simp[ecs]
 | e::r,j+1=>by
  rw[List.drop_succ_cons,q4c,←q7Q r j];have h:(ec e).length=3:=rfl;rw[show (j+1)*3=(ec e).length+j*3 by rw[h];omega,List.drop_length_add_append]
theorem q2b {P:Program} {w:World} {ops:Array Oper} {o:Oper} {a:Act} {K:Act→World→Prop} {Q:Exit→Act→World→Prop} {E:Prop} (hgd:o.guard=none) (s x:Operand) (t:TypeId)
  (ho:o.op= .call {callee:= .builtin .append,args:=#[s,x],argTypes:=#[t,t]})
  (e:TypeId) (z:Value) (size bytes:Nat) (ht:P.underlying t=some (.slice e)) (hinfo:(P.info? e).map (fun i=>(i.zero,i.size,i.bytes))=some (some z,size,bytes))
  (hzs:z.cells.size=size) (hsz:0<size)
  (ao:Option Addr) (n cap:Nat) (olds:List Value) (hs:a.eval s= .slice ao n cap) (hnone:ao=none→n=0∧cap=0) (hlo:olds.length=n*size) (holds:Rd w ao olds)
  (ad:Addr) (m c:Nat) (news:List Value) (hx:a.eval x= .slice (some ad) m c) (hl:news.length=m*size) (hnews:Rd w (some ad) news) (h1: ∀u∈news,u.oneCell'=true)
  (hfull:cap<n+m) (h63:n+m≤maxLen) (hbytes:(n+m)*bytes≤140737488355328)
  (h: ∀v' w',w'.ownsRow w.heap.size e size v' (n+m) (olds++news)→w.grownBy w' none→K (a.put o.dst v') w'):
  if Region.wanted o (yielded ops a.tmps)=true then Oper.wp P o a w K Q else E:=by
 have hw:Region.wanted o (yielded ops a.tmps)=true:=by simp[Region.wanted,hgd]
 rw[if_pos hw];obtain ⟨i,hi,hz,hsize,hby⟩:=info_parts hinfo;have hnews': ∀j u,news[j]? =some u→w.cell? (ad.add j)=some u:=fun j u hj=>by
  obtain ⟨b,off,e,hc⟩:=hnews j u hj
  cases e;rw[Addr.add_lit];exact hc
 have hrun: ∃v' w',(Builtin.append_ #[t,t] o.type #[.slice ao n cap,.slice (some ad) m c]).run P w= .ok v' w'∧w'.ownsRow w.heap.size e size v' (n+m) (olds++news)∧w.grownBy w' none:=by
  cases ao with
  | some b=>exact run_append_arg_grows (P:=P) w t o.type e i z size bytes ht hi hz hsize hby hzs hsz b n cap olds hlo (fun j u hj=>by
    obtain ⟨b',off,e,hc⟩:=holds j u hj
    cases e
    rw[Addr.add_lit];exact hc) ad m c news hl hnews' hfull h63 hbytes
  | none=>
   obtain ⟨rfl,rfl⟩:=hnone rfl;obtain rfl:olds=[]:=List.eq_nil_of_length_eq_zero (by simpa using hlo);obtain ⟨v',w',hrun,r1,r2,_⟩:=run_append_own (P:=P) w w.heap.size t o.type e i z size bytes ht hi hz hsize hby hzs hsz (.slice none 0 0) 0 [] (World.ownsRow_nil w _ e size) ad m c news hl hnews' h1 h63 hbytes (Nat.le_refl _);exact ⟨v',w',hrun,r1,r2⟩
 obtain ⟨v',w',hr,h2,h3⟩:=hrun;unfold Oper.wp execOp;simp only[ho,resolve,invoke,builtin,Sem.run_bind,Sem.run_pure,Result.andThen_ok,List.map_toArray,List.map_cons,List.map_nil,hs,hx,hr];exact h v' w' h2 h3
def y1c (w:World) (m:Nat) (v:Value) (L:List En) (e:En) (r:Ending) (w':World):Prop:=
 ∃v',r= .returned (.bool (!decide (e∈L)))∧MemI w' m v' (q3V e L)∧(v'=v∨ ∀i,v'.ownBlock=some i→w.heap.size≤i)∧OffS (fun i=>i=m) w w'
theorem y1H {w : World} {m:Nat} {v:Value} {L:List En} {e:En} (h:MemI w m v L) (hok:okM L) (he:q3J e=true) (hl:L.length<50000):
  Calls Tryz.prog 80 #[.pointer (some ⟨m,0,none⟩),enV e] w (y1c w m v L e):=by
 have H0:=η33 h;have HOk:=η33 hok;obtain ⟨ao,cap,rfl,hens⟩:=Ens.of_own (Own.of_row h.row);have HDo:Hid (∀i,q0e (L.getD i en0) e=decide (i<lbE L e)∨L.length≤i):=η33 fun i=>by
  rcases Nat.lt_or_ge i L.length with hi|hi
  ·left
   rw[List.getD_eq_getElem?_getD,List.getElem?_eq_getElem hi];exact q3Y e hok.sort (List.getElem?_eq_getElem hi)
  ·exact .inr hi
 have HMem:Hid (e∈L↔ ∃h:lbE L e<L.length,L.getD (lbE L e) en0=e):=η33 (y1L hok.sort);have HAdd:Hid (e∉L→ecs (q3V e L)=ecs (L.take (lbE L e))++ec e++ecs (L.drop (lbE L e))∧(q3V e L).length=L.length+1):=η33 fun h=>by
  unfold q3V;have:=q4M L e;rw[if_neg h,q2s,q4c];exact ⟨by simp,by rw[List.length_append,List.length_cons,List.length_take,List.length_drop];omega⟩
 have HHad:Hid (e∈L→q3V e L=L):=η33 fun h=>by unfold q3V;rw[if_pos h]
 have hlb:=q4M L e;obtain ⟨e1,e2,e3⟩:=e;have hmono:=z9U (L:=L) (e1,e2,e3) (by unfold q3J at he;simp at he;show 0≤e3;omega);show Calls _ _ #[_,.agg #[.int .u64 e1,.int .i64 e2,.int .i64 e3]] _ _;have hx1:=q0B w (.cells #[.int .u64 e1,.int .i64 e2,.int .i64 e3] 106);have hbk:=Blk.new w 106 #[.int .u64 e1,.int .i64 e2,.int .i64 e3];have HN:=η33 (z1q (h.ext hx1));have HS:=η33 (fun W (k:Ext w W)=>q8R e1 e2 W (hens.ext k) (by omega) hok.sort hok.ok);have HEn:=η33 hens;have c1:(w.alloc (.cells #[.int .u64 e1,.int .i64 e2,.int .i64 e3] 106)).cell? ⟨m,1,none⟩=some (.slice ao L.length cap):=(h.ext hx1).blk.cell 1;have k0:(w.alloc (.cells #[.int .u64 e1,.int .i64 e2,.int .i64 e3] 106)).cell? ⟨w.heap.size,0,none⟩=some (.int .u64 e1):=hbk.cell 0;have k1:(w.alloc (.cells #[.int .u64 e1,.int .i64 e2,.int .i64 e3] 106)).cell? ⟨w.heap.size,1,none⟩=some (.int .i64 e2):=hbk.cell 1;have k2:(w.alloc (.cells #[.int .u64 e1,.int .i64 e2,.int .i64 e3] 106)).cell? ⟨w.heap.size,2,none⟩=some (.int .i64 e3):=hbk.cell 2
 have HX1:=η33 hx1;have HLs:=η33 (fun x W=>q9m x (e1,e2,e3) W);clear h hok he hens hx1 hbk;generalize lbE L (e1,e2,e3)=lb at*;generalize lbE L (e1,e2,0)=lb0 at*;obtain ⟨n,hn⟩: ∃n,L.length=n:=⟨_,rfl⟩
 have HLn:=η33 hn;rw[hn] at hl HDo HMem HAdd hlb HS HEn c1;go_enter Tryz.func80,Tryz.ntmps80;go_wp2_with fail;refine HN.out.mono ?_;rintro e w1 ⟨rfl,rfl⟩;go_wp2_with fail;obtain ⟨w1,hw1⟩: ∃w1,w.alloc (.cells #[.int .u64 e1,.int .i64 e2,.int .i64 e3] 106)=w1:=⟨_,rfl⟩
 rw[hw1] at c1 k0 k1 k2 HX1;simp only[hw1];refine q0E (by kernel_rfl) (by kernel_rfl) ?_;have u1:=q0F c1;have y0:=q0F k0;have y1:=q0F k1;have y2:=q0F k2
 repeat (go_big_quiet_step (fail))
 go_big_quiet_step (exact Calls.quiet_ext (HS.out _ ((HX1.out).trans (ExtOf.h _))))
 repeat (go_big_quiet_step (fail))
 refine wpQuiet_nil ?_;intro w2 hw2;have HB12:=η33 hw2;have C1:=η33 c1;have K0:=η33 k0;have K1:=η33 k1;have K2:=η33 k2;clear hw2 c1 k0 k1 k2 u1 y0 y1 y2 HS HN;go_wp2_with fail
 go_loopw [5] (fun i W=> ∃j:Nat,i= .int .i64 (j:Int)∧j≤lb∧Ext w1 W) (fun i _=>lb-(intOf i).toNat)
 case atStart=>exact ⟨lb0,rfl,hmono,HB12.out⟩
 case round =>
  obtain ⟨j,rfl,hj,hb⟩:=hrel;have HB:=η33 hb;have a1:=q0A hb C1.out;have a2:=q0A hb K0.out;have a3:=q0A hb K1.out;have a4:=q0A hb K2.out;have q1:IntKind.i64.wrap ((j:Int)+1)=(j:Int)+1:=by rw[IntKind.wrap_i64];omega
  have u1:=q0F a1;have u2:=q0F a2;have u3:=q0F a3;have u4:=q0F a4;by_cases hjl:j<lb
  ·have hlt:j<n:=by omega
   have hd:decide ((j:Int)<(n:Int))=true:=decide_eq_true (by omega);have q5:(j:Int)<(n:Int):=by omega
   obtain ⟨b,off,rfl,x0,x1,x2⟩:=(HEn.out.ext (HX1.out.trans hb)).at hlt;have z0:=q0F x0;have z1:=q0F x1;have z2:=q0F x2;have hls:q0e (L.getD j en0) (e1,e2,e3)=true:=by
    rcases HDo.out j with h|h
    ·rw[h,decide_eq_true hjl]
    ·omega
   generalize L.getD j en0=x at*;obtain ⟨y1,y2,y3⟩:=x;have HL:Hid (∀W,Calls Tryz.prog 132 #[.agg #[.int .u64 y1,.int .i64 y2,.int .i64 y3],.agg #[.int .u64 e1,.int .i64 e2,.int .i64 e3]] W fun r w'=>r= .returned (.bool true)∧Ext W w'):=η33 fun W=>by
    have h:=HLs.out (y1,y2,y3) W;rw[hls] at h;exact h
   clear hls hb;go_wp2_with fail;refine q0E (by kernel_rfl) (by kernel_rfl) ?_
   repeat (go_big_quiet_step (first|(go_at_call 132;exact Calls.quiet_ext (HL.out _))))
   refine wpQuiet_nil ?_;intro w3 hw3;have HB3:=η33 (HB.out.trans hw3);clear hw3;go_wp2_with fail
   go_roundw
   case rel=>exact ⟨j+1,by go_num,hjl,HB3.out⟩
   case measure=>simp[intOf];omega
  ·obtain rfl : j=lb:=by omega
   by_cases hin:(e1,e2,e3)∈L
   ·obtain ⟨hlt,hat⟩:=HMem.out.1 hin
    have hd:decide ((j:Int)<(n:Int))=true:=decide_eq_true (by omega);have q5:(j:Int)<(n:Int):=by omega
    obtain ⟨b,off,rfl,x0,x1,x2⟩:=(HEn.out.ext (HX1.out.trans hb)).at hlt;rw[hat] at x0 x1 x2;have HC1:=η33 x0;have HC2:=η33 x1;have HC3:=η33 x2;have z0:=q0F x0;have z1:=q0F x1;have z2:=q0F x2;have HL:Hid (∀W,Calls Tryz.prog 132 #[.agg #[.int .u64 e1,.int .i64 e2,.int .i64 e3],.agg #[.int .u64 e1,.int .i64 e2,.int .i64 e3]] W fun r w'=>r= .returned (.bool false)∧Ext W w'):=η33 fun W=>by
     have h:=HLs.out (e1,e2,e3) W;rw[q0Z] at h;exact h
    have HIn:=η33 hin;clear hb hat hin;go_wp2_with fail;refine q0E (by kernel_rfl) (by kernel_rfl) ?_
    repeat (go_big_quiet_step (first|(go_at_call 132;exact Calls.quiet_ext (HL.out _))))
    refine wpQuiet_nil ?_;intro w3 hw3;have HB3:=η33 hw3;have a1:=q0A hw3 a1;have a2:=q0A hw3 a2;have a3:=q0A hw3 a3;have a4:=q0A hw3 a4;have x0:=q0A hw3 x0;have x1:=q0A hw3 x1;have x2:=q0A hw3 x2;have u1:=q0F a1;have u2:=q0F a2;have u3:=q0F a3;have u4:=q0F a4;have z0:=q0F x0;have z1:=q0F x1;have z2:=q0F x2;clear hw3;go_wp2_with fail;refine q0E (by kernel_rfl) (by kernel_rfl) ?_
    repeat (go_big_quiet_step (fail))
    refine wpQuiet_nil ?_;intro w4 hw4;have HB4:=η33 (((HX1.out.trans HB.out).trans HB3.out).trans hw4);clear hw4;go_wp2_with fail;go_ret;exact ⟨_,by rw[decide_eq_true HIn.out];rfl,by rw[HHad.out HIn.out];exact H0.out.ext HB4.out,.inl rfl,OffS.of_ext HB4.out⟩
   ·have hao : (ao=none∧n=0∧cap=0)∨ ∃g,ao=some ⟨g,0,none⟩:=by
     rcases H0.out.row.2 with ⟨hv,h0⟩|⟨g,c,cur,hv,_⟩
     ·injection hv with h1 h2 h3
      exact .inl ⟨h1,by rw[←HLn.out];exact h0,h3⟩
     ·injection hv with h1 h2 h3
      exact .inr ⟨g,h1⟩
    have hst:(decide ((j:Int)<(n:Int))=false∧j=n)∨(decide ((j:Int)<(n:Int))=true∧j<n∧L.getD j en0≠(e1,e2,e3)∧q0e (L.getD j en0) (e1,e2,e3)=false):=by
     by_cases hlt:j<n
     ·refine .inr ⟨decide_eq_true (by omega),hlt,fun h=>hin (HMem.out.2 ⟨hlt,h⟩),?_⟩
      rcases HDo.out j with h|h
      ·rw[h];exact decide_eq_false (by omega)
      ·omega
     ·exact .inl ⟨decide_eq_false (by omega),by omega⟩
    obtain ⟨had1,had2⟩:=HAdd.out hin;have HAd:=η33 had1;have HAl:=η33 had2;have HNin:=η33 hin;have HEnW:=η33 (fun W (k:Ext w W)=>HEn.out.ext k);have hcap:=HEn.out.fits;have hcap2:=HEn.out.bound;have hi0:(0:Int)≤(j:Int):=by omega
    have hi1:(j:Int)≤(cap:Int):=by omega
    have hi2:(j:Int)≤(n:Int):=by omega
    have hi3:(n:Int)≤(cap:Int):=by omega
    have HMf:Hid (∀W,Ext w W→W.cell? ⟨m,1,none⟩=some (.slice ao n cap)∧W.frozen? ⟨m,1,none⟩=false):=η33 fun W hW=>by
     have h:=(H0.out.ext hW).blk;have h1:=h.cell 1;rw[HLn.out] at h1;exact ⟨h1,h.free 1⟩
    clear had1 had2 hin HAdd HMem HHad HDo;rcases hao with ⟨rfl,rfl,rfl⟩|⟨g,rfl⟩
    ·obtain rfl:j=0:=by omega
     have hd:decide (((0:Nat):Int)<((0:Nat):Int))=false:=by decide
     clear hst hb;go_wp2_with fail;refine q0E (by kernel_rfl) (by kernel_rfl) ?_
     repeat (go_big_quiet_step (fail))
     refine wpQuiet_nil ?_;intro w3 hw3;have HB3:=η33 hw3;have a1:=q0A hw3 a1;have a2:=q0A hw3 a2;have a3:=q0A hw3 a3;have a4:=q0A hw3 a4;have u1:=q0F a1;have u2:=q0F a2;have u3:=q0F a3;have u4:=q0F a4;clear hw3;go_wp2_with fail;refine q0E (by kernel_rfl) (by kernel_rfl) ?_
     repeat (go_big_quiet_step (fail))
     refine wpQuiet_nil ?_;intro w4 hw4;have HB4:=η33 (((HX1.out.trans HB.out).trans HB3.out).trans hw4);have a1:=q0A hw4 a1;have a2:=q0A hw4 a2;have a3:=q0A hw4 a3;have a4:=q0A hw4 a4;clear hw4 u1 u2 u3 u4;go_wp2_with fail;have HT:Hid (∀W,Ext w4 W→(W.cell? ⟨w.heap.size,0,none⟩=some (.int .u64 e1)∧W.cell? ⟨w.heap.size,1,none⟩=some (.int .i64 e2)∧W.cell? ⟨w.heap.size,2,none⟩=some (.int .i64 e3))∧W.cell? ⟨m,1,none⟩=some (.slice none 0 0)∧W.frozen? ⟨m,1,none⟩=false):=η33 fun W hW=>⟨⟨q0A hW a2,q0A hW a3,q0A hW a4⟩,HMf.out _ (HB4.out.trans hW)⟩
     have HRd:Hid (∀W,Ext w4 W→Rd W none (ecs L)):=η33 fun W hW=>(HEnW.out _ (HB4.out.trans hW)).rd
     have HRd2:Hid (∀W,Ext w4 W→Rd W none (ecs (L.drop 0))):=η33 fun W hW=>by rw[List.drop_zero];exact HRd.out W hW
     have HTc:Hid (∀W,Hid (Ext w4 W)→(fun W=>((W.cell? ⟨w.heap.size,0,none⟩=some (.int .u64 e1)∧W.cell? ⟨w.heap.size,1,none⟩=some (.int .i64 e2)∧W.cell? ⟨w.heap.size,2,none⟩=some (.int .i64 e3))∧W.cell? ⟨m,1,none⟩=some (.slice none 0 0))∧Hid (Ext w4 W)) W):=η33 fun W hW=>⟨⟨(HT.out W hW.out).1,(HT.out W hW.out).2.1⟩,hW⟩
     have HX0:Hid (Ext w4 w4.drew):=η33 (Ext.drew (Ext.refl _));clear a1 a2 a3 a4;refine q1f (fun W=>((W.cell? ⟨w.heap.size,0,none⟩=some (.int .u64 e1)∧W.cell? ⟨w.heap.size,1,none⟩=some (.int .i64 e2)∧W.cell? ⟨w.heap.size,2,none⟩=some (.int .i64 e3))∧W.cell? ⟨m,1,none⟩=some (.slice none 0 0))∧Hid (Ext w4 W)) 18 (by kernel_rfl) (HTc.out _ HX0) (fun hHeld=>?_);refine q0C (i:=0) (v:=?_) rfl (by kernel_rfl) (fun _ _ _ h=>h) (Or.inl ⟨by rfl,?_⟩) hHeld (fun hHeld=>?_)
     rotate_left
     ·(intro w hSw;(try dsimp only at hSw);go_simp;try with_reducible rfl)
     simp only[Act.put,List.setIfInBounds_toArray,List.set_cons_zero,List.set_cons_succ];refine q0C (i:=1) (v:=?_) rfl (by kernel_rfl) (fun _ _ _ h=>h) (Or.inl ⟨by rfl,?_⟩) hHeld (fun hHeld=>?_)
     rotate_left
     ·(intro w hSw;(try dsimp only at hSw);go_simp;try with_reducible rfl)
     simp only[Act.put,List.setIfInBounds_toArray,List.set_cons_zero,List.set_cons_succ];refine q0C (i:=2) (v:=?_) rfl (by kernel_rfl) (fun _ _ _ h=>h) (Or.inl ⟨by rfl,?_⟩) hHeld (fun hHeld=>?_)
     rotate_left
     ·(intro w hSw;(try dsimp only at hSw);go_simp;try with_reducible rfl)
     simp only[Act.put,List.setIfInBounds_toArray,List.set_cons_zero,List.set_cons_succ];refine q0C (i:=3) (v:=?_) rfl (by kernel_rfl) (fun _ _ _ h=>h) (Or.inl ⟨by rfl,?_⟩) hHeld (fun hHeld=>?_)
     rotate_left
     ·(intro w hSw;(try dsimp only at hSw);go_simp;try with_reducible rfl)
     simp only[Act.put,List.setIfInBounds_toArray,List.set_cons_zero,List.set_cons_succ];refine q0j (i:=4) (v:=?_) rfl (by kernel_rfl) (fun _ _ _ h=>h) (Or.inl ⟨by rfl,?_⟩) hHeld (fun hHeld=>?_)
     rotate_left
     ·(intro w hSw;(try dsimp only at hSw);go_simp;try with_reducible rfl)
     simp only[Act.put,List.setIfInBounds_toArray,List.set_cons_zero,List.set_cons_succ];refine q0C (i:=5) (v:=?_) rfl (by kernel_rfl) (fun _ _ _ h=>h) (Or.inl ⟨by rfl,?_⟩) hHeld (fun hHeld=>?_)
     rotate_left
     ·(intro w hSw;(try dsimp only at hSw);go_simp;try with_reducible rfl)
     simp only[Act.put,List.setIfInBounds_toArray,List.set_cons_zero,List.set_cons_succ];refine q0C (i:=6) (v:=?_) rfl (by kernel_rfl) (fun _ _ _ h=>h) (Or.inl ⟨by rfl,?_⟩) hHeld (fun hHeld=>?_)
     rotate_left
     ·(intro w hSw;(try dsimp only at hSw);go_simp;try with_reducible rfl)
     simp only[Act.put,List.setIfInBounds_toArray,List.set_cons_zero,List.set_cons_succ];refine q0C (i:=7) (v:=?_) rfl (by kernel_rfl) (fun _ _ _ h=>h) (Or.inl ⟨by rfl,?_⟩) hHeld (fun hHeld=>?_)
     rotate_left
     ·(intro w hSw;(try dsimp only at hSw);go_simp;try with_reducible rfl)
     simp only[Act.put,List.setIfInBounds_toArray,List.set_cons_zero,List.set_cons_succ];refine q0j (i:=8) (v:=?_) rfl (by kernel_rfl) (fun _ _ _ h=>h) (Or.inl ⟨by rfl,?_⟩) hHeld (fun hHeld=>?_)
     rotate_left
     ·(intro w hSw;(try dsimp only at hSw);go_simp;try with_reducible rfl)
     simp only[Act.put,List.setIfInBounds_toArray,List.set_cons_zero,List.set_cons_succ];refine q0C (i:=11) (v:=?_) rfl (by kernel_rfl) (fun _ _ _ h=>h) (Or.inl ⟨by rfl,?_⟩) hHeld (fun hHeld=>?_)
     rotate_left
     ·(intro w hSw;(try dsimp only at hSw);go_simp;try with_reducible rfl)
     simp only[Act.put,List.setIfInBounds_toArray,List.set_cons_zero,List.set_cons_succ];refine q0C (i:=12) (v:=?_) rfl (by kernel_rfl) (fun _ _ _ h=>h) (Or.inl ⟨by rfl,?_⟩) hHeld (fun hHeld=>?_)
     rotate_left
     ·(intro w hSw;(try dsimp only at hSw);go_simp;try with_reducible rfl)
     simp only[Act.put,List.setIfInBounds_toArray,List.set_cons_zero,List.set_cons_succ];refine q0C (i:=13) (v:=?_) rfl (by kernel_rfl) (fun _ _ _ h=>h) (Or.inl ⟨by rfl,?_⟩) hHeld (fun hHeld=>?_)
     rotate_left
     ·(intro w hSw;(try dsimp only at hSw);go_simp;try with_reducible rfl)
     simp only[Act.put,List.setIfInBounds_toArray,List.set_cons_zero,List.set_cons_succ];refine q0j (i:=14) (v:=?_) rfl (by kernel_rfl) (fun _ _ _ h=>h) (Or.inl ⟨by rfl,?_⟩) hHeld (fun hHeld=>?_)
     rotate_left
     ·(intro w hSw;(try dsimp only at hSw);go_simp;try with_reducible rfl)
     simp only[Act.put,List.setIfInBounds_toArray,List.set_cons_zero,List.set_cons_succ];refine q0C (i:=15) (v:=?_) rfl (by kernel_rfl) (fun _ _ _ h=>h) (Or.inl ⟨by rfl,?_⟩) hHeld (fun hHeld=>?_)
     rotate_left
     ·(intro w hSw;(try dsimp only at hSw);go_simp;try with_reducible rfl)
     simp only[Act.put,List.setIfInBounds_toArray,List.set_cons_zero,List.set_cons_succ];refine q0C (i:=16) (v:=?_) rfl (by kernel_rfl) (fun _ _ _ h=>h) (Or.inl ⟨by rfl,?_⟩) hHeld (fun hHeld=>?_)
     rotate_left
     ·(intro w hSw;(try dsimp only at hSw);go_simp;try with_reducible rfl)
     simp only[Act.put,List.setIfInBounds_toArray,List.set_cons_zero,List.set_cons_succ];refine q0x (i:=9) (by kernel_rfl) rfl (fun K hK=>?_)
     go_simp
     have HX1:Hid (Ext w4 (w4.drew.alloc (.cells #[.int .u64 e1,.int .i64 e2,.int .i64 e3] 106))):=η33 (HX0.out.alloc _);refine hK.out _ _ (HTc.out _ HX1) (fun hHeld=>?_);clear hK K
     try simp only[Act.put,List.setIfInBounds_toArray,List.set_cons_zero,List.set_cons_succ]
     refine q0x (i:=10) (by kernel_rfl) rfl (fun K hK=>?_);refine q2b rfl (.tmp 62) (.tmp 64) 180 rfl 106 _ 3 24 Tryz.underlying180 Tryz.infoEnH (by decide) (by decide) none 0 0 (ecs (L.take 0)) rfl (fun h=>⟨rfl,rfl⟩) (by rw[q1V,List.length_take,HLn.out];omega) (by rw[←q5R];exact (HRd.out _ HX1.out).take _) _ 1 1 (ec (e1,e2,e3)) rfl rfl (Rd.lit _ _ _) (fun u hu=>q3c [(e1,e2,e3)] u (by simpa [ecs] using hu)) (by omega) (by unfold maxLen;omega) (by omega) ?_;intro v1 x1 hown hgrow;have HX1a:Hid (Ext w4 x1):=η33 ((HX1.out:Below w4.heap.size w4 _).grown hgrow HX1.out.size (fun q hq=>by cases hq));have HOw1:=η33 (q0v hown HX1.out.size);clear hown hgrow;refine hK.out _ _ (HTc.out _ HX1a) (fun hHeld=>?_);clear hK K
     try simp only[Act.put,List.setIfInBounds_toArray,List.set_cons_zero,List.set_cons_succ]
     refine q0x (i:=17) (by kernel_rfl) rfl (fun K hK=>?_);refine q1d rfl (.tmp 65) (.tmp 71) 180 rfl w4.heap.size 106 _ 3 24 Tryz.underlying180 Tryz.infoEnH (by decide) (by decide) v1 (0+1) (ecs (L.take 0)++ec (e1,e2,e3)) rfl HOw1.out _ _ _ (ecs (L.drop 0)) rfl (by (rw[q1V,List.length_drop,HLn.out])<;>omega) (fun h=>rfl) (HRd2.out _ HX1a.out) (q3c _) (by unfold maxLen;omega) (by omega) HX1a.out.size ?_;intro v2 x2 hown hgrow hat;have HX2a:Hid (Ext w4 x2):=η33 ((HX1a.out:Below w4.heap.size w4 _).grown hgrow HX1a.out.size (fun q hq=>(q0c HOw1.out q hq).1));obtain ⟨a2,c2,rfl⟩:=q0J hown;have HOw2:=η33 hown;clear hown hgrow hat;refine hK.out _ _ (HTc.out _ HX2a) (fun hHeld=>?_);clear hK K
     try simp only[Act.put,List.setIfInBounds_toArray,List.set_cons_zero,List.set_cons_succ]
     refine q1t (by kernel_rfl) ?_
     try simp only[List.drop_succ_cons,List.drop_zero]
     clear hHeld;obtain ⟨⟨qa,qb,qc⟩,qd,qe⟩:=HT.out _ HX2a.out;have hHS:=H0.out.ext (HB4.out.trans HX2a.out);have hrow:=q0v HOw2.out (Nat.zero_le _);rw[←HAd.out] at hrow;have hlen:0+1+0=(q3V (e1,e2,e3) L).length:=by have:=HAl.out;omega
     have HLn2:=η33 hlen;have hnm:(Value.slice a2 (0+1+0) c2).ownBlock≠some m:=fun hh=>by have h1:=(q0c HOw2.out m hh).1;have h2:=H0.out.blk.lt;have h3:=HB4.out.size;omega
     have HFin:Hid (∀z,z=(q3V (e1,e2,e3) L).length→MemI (x2.setCell ⟨m,1,none⟩ (.slice a2 z c2)) m (.slice a2 z c2) (q3V (e1,e2,e3) L)):=η33 fun z hz=>by
      subst hz;refine ⟨hHS.blk.set 1 _,?_⟩;rw[hlen] at hrow hnm;exact q0s hrow _ hnm
     have HOw3:=η33 (fun i (hi:(Value.slice a2 (0+1+0) c2).ownBlock=some i)=>Nat.le_trans HB4.out.size (q0c HOw2.out i hi).1);have HXf:=η33 (HB4.out.trans HX2a.out);clear hHS hrow hlen hnm;go_wp2_with fail
     all_goals
      go_ret;refine ⟨_,by rw[decide_eq_false HNin.out];rfl,HFin.out _ HLn2.out,.inr ?_,(OffS.of_ext HXf.out).trans (OffS.set (F:=fun i=>i=m) _ rfl _ _)⟩;exact HOw3.out
    ·rcases hst with ⟨hd,rfl⟩|⟨hd,hlt,hne,hls⟩
     ·clear hb
      go_wp2_with fail;refine q0E (by kernel_rfl) (by kernel_rfl) ?_
      repeat (go_big_quiet_step (fail))
      refine wpQuiet_nil ?_;intro w3 hw3;have HB3:=η33 hw3;have a1:=q0A hw3 a1;have a2:=q0A hw3 a2;have a3:=q0A hw3 a3;have a4:=q0A hw3 a4;have u1:=q0F a1;have u2:=q0F a2;have u3:=q0F a3;have u4:=q0F a4;clear hw3;go_wp2_with fail;refine q0E (by kernel_rfl) (by kernel_rfl) ?_
      repeat (go_big_quiet_step (fail))
      refine wpQuiet_nil ?_;intro w4 hw4;have HB4:=η33 (((HX1.out.trans HB.out).trans HB3.out).trans hw4);have a1:=q0A hw4 a1;have a2:=q0A hw4 a2;have a3:=q0A hw4 a3;have a4:=q0A hw4 a4;clear hw4 u1 u2 u3 u4;go_wp2_with fail;have HT:Hid (∀W,Ext w4 W→(W.cell? ⟨w.heap.size,0,none⟩=some (.int .u64 e1)∧W.cell? ⟨w.heap.size,1,none⟩=some (.int .i64 e2)∧W.cell? ⟨w.heap.size,2,none⟩=some (.int .i64 e3))∧W.cell? ⟨m,1,none⟩=some (.slice (some ⟨g,0,none⟩) j cap)∧W.frozen? ⟨m,1,none⟩=false):=η33 fun W hW=>⟨⟨q0A hW a2,q0A hW a3,q0A hW a4⟩,HMf.out _ (HB4.out.trans hW)⟩
      have HRd:Hid (∀W,Ext w4 W→Rd W (some ⟨g,0,none⟩) (ecs L)):=η33 fun W hW=>(HEnW.out _ (HB4.out.trans hW)).rd
      have HRd2:Hid (∀W,Ext w4 W→Rd W (if cap=j then some ⟨g,0,none⟩ else some ⟨g,j*3,none⟩) (ecs (L.drop j))):=η33 fun W hW=>by
       split
       ·rw[List.drop_of_length_le (by rw[HLn.out];omega)]
        exact Rd.nil _ _
       ·have h:=(HRd.out W hW).drop (j*3)
        rw[q7Q,Nat.zero_add] at h;exact h
      have HTc:Hid (∀W,Hid (Ext w4 W)→(fun W=>((W.cell? ⟨w.heap.size,0,none⟩=some (.int .u64 e1)∧W.cell? ⟨w.heap.size,1,none⟩=some (.int .i64 e2)∧W.cell? ⟨w.heap.size,2,none⟩=some (.int .i64 e3))∧W.cell? ⟨m,1,none⟩=some (.slice (some ⟨g,0,none⟩) j cap))∧Hid (Ext w4 W)) W):=η33 fun W hW=>⟨⟨(HT.out W hW.out).1,(HT.out W hW.out).2.1⟩,hW⟩
      have HX0:Hid (Ext w4 w4.drew):=η33 (Ext.drew (Ext.refl _));clear a1 a2 a3 a4;refine q1f (fun W=>((W.cell? ⟨w.heap.size,0,none⟩=some (.int .u64 e1)∧W.cell? ⟨w.heap.size,1,none⟩=some (.int .i64 e2)∧W.cell? ⟨w.heap.size,2,none⟩=some (.int .i64 e3))∧W.cell? ⟨m,1,none⟩=some (.slice (some ⟨g,0,none⟩) j cap))∧Hid (Ext w4 W)) 18 (by kernel_rfl) (HTc.out _ HX0) (fun hHeld=>?_);refine q0C (i:=0) (v:=?_) rfl (by kernel_rfl) (fun _ _ _ h=>h) (Or.inl ⟨by rfl,?_⟩) hHeld (fun hHeld=>?_)
      rotate_left
      ·(intro w hSw;(try dsimp only at hSw);go_simp;try with_reducible rfl)
      simp only[Act.put,List.setIfInBounds_toArray,List.set_cons_zero,List.set_cons_succ];refine q0C (i:=1) (v:=?_) rfl (by kernel_rfl) (fun _ _ _ h=>h) (Or.inl ⟨by rfl,?_⟩) hHeld (fun hHeld=>?_)
      rotate_left
      ·(intro w hSw;(try dsimp only at hSw);go_simp;try with_reducible rfl)
      simp only[Act.put,List.setIfInBounds_toArray,List.set_cons_zero,List.set_cons_succ];refine q0C (i:=2) (v:=?_) rfl (by kernel_rfl) (fun _ _ _ h=>h) (Or.inl ⟨by rfl,?_⟩) hHeld (fun hHeld=>?_)
      rotate_left
      ·(intro w hSw;(try dsimp only at hSw);go_simp;try with_reducible rfl)
      simp only[Act.put,List.setIfInBounds_toArray,List.set_cons_zero,List.set_cons_succ];refine q0C (i:=3) (v:=?_) rfl (by kernel_rfl) (fun _ _ _ h=>h) (Or.inl ⟨by rfl,?_⟩) hHeld (fun hHeld=>?_)
      rotate_left
      ·(intro w hSw;(try dsimp only at hSw);go_simp;try with_reducible rfl)
      simp only[Act.put,List.setIfInBounds_toArray,List.set_cons_zero,List.set_cons_succ];refine q0j (i:=4) (v:=?_) rfl (by kernel_rfl) (fun _ _ _ h=>h) (Or.inl ⟨by rfl,?_⟩) hHeld (fun hHeld=>?_)
      rotate_left
      ·(intro w hSw;(try dsimp only at hSw);go_simp;try with_reducible rfl)
      simp only[Act.put,List.setIfInBounds_toArray,List.set_cons_zero,List.set_cons_succ];refine q0C (i:=5) (v:=?_) rfl (by kernel_rfl) (fun _ _ _ h=>h) (Or.inl ⟨by rfl,?_⟩) hHeld (fun hHeld=>?_)
      rotate_left
      ·(intro w hSw;(try dsimp only at hSw);go_simp;try with_reducible rfl)
      simp only[Act.put,List.setIfInBounds_toArray,List.set_cons_zero,List.set_cons_succ];refine q0C (i:=6) (v:=?_) rfl (by kernel_rfl) (fun _ _ _ h=>h) (Or.inl ⟨by rfl,?_⟩) hHeld (fun hHeld=>?_)
      rotate_left
      ·(intro w hSw;(try dsimp only at hSw);go_simp;try with_reducible rfl)
      simp only[Act.put,List.setIfInBounds_toArray,List.set_cons_zero,List.set_cons_succ];refine q0C (i:=7) (v:=?_) rfl (by kernel_rfl) (fun _ _ _ h=>h) (Or.inl ⟨by rfl,?_⟩) hHeld (fun hHeld=>?_)
      rotate_left
      ·(intro w hSw;(try dsimp only at hSw);go_simp;try with_reducible rfl)
      simp only[Act.put,List.setIfInBounds_toArray,List.set_cons_zero,List.set_cons_succ];refine q0j (i:=8) (v:=?_) rfl (by kernel_rfl) (fun _ _ _ h=>h) (Or.inl ⟨by rfl,?_⟩) hHeld (fun hHeld=>?_)
      rotate_left
      ·(intro w hSw;(try dsimp only at hSw);go_simp;try with_reducible rfl)
      simp only[Act.put,List.setIfInBounds_toArray,List.set_cons_zero,List.set_cons_succ];refine q0C (i:=11) (v:=?_) rfl (by kernel_rfl) (fun _ _ _ h=>h) (Or.inl ⟨by rfl,?_⟩) hHeld (fun hHeld=>?_)
      rotate_left
      ·(intro w hSw;(try dsimp only at hSw);go_simp;try with_reducible rfl)
      simp only[Act.put,List.setIfInBounds_toArray,List.set_cons_zero,List.set_cons_succ];refine q0C (i:=12) (v:=?_) rfl (by kernel_rfl) (fun _ _ _ h=>h) (Or.inl ⟨by rfl,?_⟩) hHeld (fun hHeld=>?_)
      rotate_left
      ·(intro w hSw;(try dsimp only at hSw);go_simp;try with_reducible rfl)
      simp only[Act.put,List.setIfInBounds_toArray,List.set_cons_zero,List.set_cons_succ];refine q0C (i:=13) (v:=?_) rfl (by kernel_rfl) (fun _ _ _ h=>h) (Or.inl ⟨by rfl,?_⟩) hHeld (fun hHeld=>?_)
      rotate_left
      ·(intro w hSw;(try dsimp only at hSw);go_simp;try with_reducible rfl)
      simp only[Act.put,List.setIfInBounds_toArray,List.set_cons_zero,List.set_cons_succ];refine q0j (i:=14) (v:=?_) rfl (by kernel_rfl) (fun _ _ _ h=>h) (Or.inl ⟨by rfl,?_⟩) hHeld (fun hHeld=>?_)
      rotate_left
      ·(intro w hSw;(try dsimp only at hSw);go_simp;try with_reducible rfl)
      simp only[Act.put,List.setIfInBounds_toArray,List.set_cons_zero,List.set_cons_succ];refine q0C (i:=15) (v:=?_) rfl (by kernel_rfl) (fun _ _ _ h=>h) (Or.inl ⟨by rfl,?_⟩) hHeld (fun hHeld=>?_)
      rotate_left
      ·(intro w hSw;(try dsimp only at hSw);go_simp;try with_reducible rfl)
      simp only[Act.put,List.setIfInBounds_toArray,List.set_cons_zero,List.set_cons_succ];refine q0C (i:=16) (v:=?_) rfl (by kernel_rfl) (fun _ _ _ h=>h) (Or.inl ⟨by rfl,?_⟩) hHeld (fun hHeld=>?_)
      rotate_left
      ·(intro w hSw;(try dsimp only at hSw);go_simp;try with_reducible rfl)
      simp only[Act.put,List.setIfInBounds_toArray,List.set_cons_zero,List.set_cons_succ];refine q0x (i:=9) (by kernel_rfl) rfl (fun K hK=>?_)
      go_simp
      have HX1:Hid (Ext w4 (w4.drew.alloc (.cells #[.int .u64 e1,.int .i64 e2,.int .i64 e3] 106))):=η33 (HX0.out.alloc _);refine hK.out _ _ (HTc.out _ HX1) (fun hHeld=>?_);clear hK K
      try simp only[Act.put,List.setIfInBounds_toArray,List.set_cons_zero,List.set_cons_succ]
      refine q0x (i:=10) (by kernel_rfl) rfl (fun K hK=>?_);refine q2b rfl (.tmp 62) (.tmp 64) 180 rfl 106 _ 3 24 Tryz.underlying180 Tryz.infoEnH (by decide) (by decide) (some ⟨g,0,none⟩) j j (ecs (L.take j)) rfl (fun h=>by cases h) (by rw[q1V,List.length_take,HLn.out];omega) (by rw[←q5R];exact (HRd.out _ HX1.out).take _) _ 1 1 (ec (e1,e2,e3)) rfl rfl (Rd.lit _ _ _) (fun u hu=>q3c [(e1,e2,e3)] u (by simpa [ecs] using hu)) (by omega) (by unfold maxLen;omega) (by omega) ?_;intro v1 x1 hown hgrow;have HX1a:Hid (Ext w4 x1):=η33 ((HX1.out:Below w4.heap.size w4 _).grown hgrow HX1.out.size (fun q hq=>by cases hq));have HOw1:=η33 (q0v hown HX1.out.size);clear hown hgrow;refine hK.out _ _ (HTc.out _ HX1a) (fun hHeld=>?_);clear hK K
      try simp only[Act.put,List.setIfInBounds_toArray,List.set_cons_zero,List.set_cons_succ]
      refine q0x (i:=17) (by kernel_rfl) rfl (fun K hK=>?_);refine q1d rfl (.tmp 65) (.tmp 71) 180 rfl w4.heap.size 106 _ 3 24 Tryz.underlying180 Tryz.infoEnH (by decide) (by decide) v1 (j+1) (ecs (L.take j)++ec (e1,e2,e3)) rfl HOw1.out _ _ _ (ecs (L.drop j)) rfl (by (rw[q1V,List.length_drop,HLn.out])<;>omega) (fun h=>by split at h<;>cases h) (HRd2.out _ HX1a.out) (q3c _) (by unfold maxLen;omega) (by omega) HX1a.out.size ?_;intro v2 x2 hown hgrow hat;have HX2a:Hid (Ext w4 x2):=η33 ((HX1a.out:Below w4.heap.size w4 _).grown hgrow HX1a.out.size (fun q hq=>(q0c HOw1.out q hq).1));obtain ⟨a2,c2,rfl⟩:=q0J hown;have HOw2:=η33 hown;clear hown hgrow hat;refine hK.out _ _ (HTc.out _ HX2a) (fun hHeld=>?_);clear hK K
      try simp only[Act.put,List.setIfInBounds_toArray,List.set_cons_zero,List.set_cons_succ]
      refine q1t (by kernel_rfl) ?_
      try simp only[List.drop_succ_cons,List.drop_zero]
      clear hHeld;obtain ⟨⟨qa,qb,qc⟩,qd,qe⟩:=HT.out _ HX2a.out;have hHS:=H0.out.ext (HB4.out.trans HX2a.out);have hrow:=q0v HOw2.out (Nat.zero_le _);rw[←HAd.out] at hrow;have hlen:j+1+0=(q3V (e1,e2,e3) L).length:=by have:=HAl.out;omega
      have HLn2:=η33 hlen;have hnm:(Value.slice a2 (j+1+0) c2).ownBlock≠some m:=fun hh=>by have h1:=(q0c HOw2.out m hh).1;have h2:=H0.out.blk.lt;have h3:=HB4.out.size;omega
      have HFin:Hid (∀z,z=(q3V (e1,e2,e3) L).length→MemI (x2.setCell ⟨m,1,none⟩ (.slice a2 z c2)) m (.slice a2 z c2) (q3V (e1,e2,e3) L)):=η33 fun z hz=>by
       subst hz;refine ⟨hHS.blk.set 1 _,?_⟩;rw[hlen] at hrow hnm;exact q0s hrow _ hnm
      have HOw3:=η33 (fun i (hi:(Value.slice a2 (j+1+0) c2).ownBlock=some i)=>Nat.le_trans HB4.out.size (q0c HOw2.out i hi).1);have HXf:=η33 (HB4.out.trans HX2a.out);clear hHS hrow hlen hnm;go_wp2_with fail
      all_goals
       go_ret;refine ⟨_,by rw[decide_eq_false HNin.out];rfl,HFin.out _ HLn2.out,.inr ?_,(OffS.of_ext HXf.out).trans (OffS.set (F:=fun i=>i=m) _ rfl _ _)⟩;exact HOw3.out
     ·obtain ⟨b,off,hbo,x0,x1,x2⟩:=(HEn.out.ext (HX1.out.trans hb)).at hlt
      cases hbo;rw[Nat.zero_add] at x0 x1 x2;have q5:(j:Int)<(n:Int):=by omega
      generalize L.getD j en0=x at*;obtain ⟨y1,y2,y3⟩:=x;have z0:=q0F x0;have z1:=q0F x1;have z2:=q0F x2;have HL:Hid (∀W,Calls Tryz.prog 132 #[.agg #[.int .u64 y1,.int .i64 y2,.int .i64 y3],.agg #[.int .u64 e1,.int .i64 e2,.int .i64 e3]] W fun r w'=>r= .returned (.bool false)∧Ext W w'):=η33 fun W=>by
       have h:=HLs.out (y1,y2,y3) W;rw[hls] at h;exact h
      have h3:(¬y1=e1)∨(e1=y1∧¬y2=e2)∨(e1=y1∧e2=y2∧¬y3=e3):=by
       by_cases g1:y1=e1
       ·by_cases g2:y2=e2
        ·by_cases g3:y3=e3
         ·exact absurd (by rw[g1,g2,g3]) hne
         ·exact .inr (.inr ⟨g1.symm,g2.symm,g3⟩)
        ·exact .inr (.inl ⟨g1.symm,g2⟩)
       ·exact .inl g1
      clear hne hls hb;rcases h3 with h3|⟨rfl,h3⟩|⟨rfl,rfl,h3⟩
      all_goals
       go_wp2_with fail;refine q0E (by kernel_rfl) (by kernel_rfl) ?_
       repeat (go_big_quiet_step (first|(go_at_call 132;exact Calls.quiet_ext (HL.out _))))
       refine wpQuiet_nil ?_;intro w3 hw3;have HB3:=η33 hw3;have a1:=q0A hw3 a1;have a2:=q0A hw3 a2;have a3:=q0A hw3 a3;have a4:=q0A hw3 a4;have x0:=q0A hw3 x0;have x1:=q0A hw3 x1;have x2:=q0A hw3 x2;have u1:=q0F a1;have u2:=q0F a2;have u3:=q0F a3;have u4:=q0F a4;have z0:=q0F x0;have z1:=q0F x1;have z2:=q0F x2;clear hw3;go_wp2_with fail;refine q0E (by kernel_rfl) (by kernel_rfl) ?_
       repeat (go_big_quiet_step (fail))
       refine wpQuiet_nil ?_;intro w4 hw4;have HB4:=η33 (((HX1.out.trans HB.out).trans HB3.out).trans hw4);have a1:=q0A hw4 a1;have a2:=q0A hw4 a2;have a3:=q0A hw4 a3;have a4:=q0A hw4 a4;clear hw4 u1 u2 u3 u4 x0 x1 x2 z0 z1 z2;go_wp2_with fail;have HT:Hid (∀W,Ext w4 W→(W.cell? ⟨w.heap.size,0,none⟩=some (.int .u64 e1)∧W.cell? ⟨w.heap.size,1,none⟩=some (.int .i64 e2)∧W.cell? ⟨w.heap.size,2,none⟩=some (.int .i64 e3))∧W.cell? ⟨m,1,none⟩=some (.slice (some ⟨g,0,none⟩) n cap)∧W.frozen? ⟨m,1,none⟩=false):=η33 fun W hW=>⟨⟨q0A hW a2,q0A hW a3,q0A hW a4⟩,HMf.out _ (HB4.out.trans hW)⟩
       have HRd:Hid (∀W,Ext w4 W→Rd W (some ⟨g,0,none⟩) (ecs L)):=η33 fun W hW=>(HEnW.out _ (HB4.out.trans hW)).rd
       have HRd2:Hid (∀W,Ext w4 W→Rd W (if cap=j then some ⟨g,0,none⟩ else some ⟨g,j*3,none⟩) (ecs (L.drop j))):=η33 fun W hW=>by
        split
        ·rw[List.drop_of_length_le (by rw[HLn.out];omega)]
         exact Rd.nil _ _
        ·have h:=(HRd.out W hW).drop (j*3)
         rw[q7Q,Nat.zero_add] at h;exact h
       have HTc:Hid (∀W,Hid (Ext w4 W)→(fun W=>((W.cell? ⟨w.heap.size,0,none⟩=some (.int .u64 e1)∧W.cell? ⟨w.heap.size,1,none⟩=some (.int .i64 e2)∧W.cell? ⟨w.heap.size,2,none⟩=some (.int .i64 e3))∧W.cell? ⟨m,1,none⟩=some (.slice (some ⟨g,0,none⟩) n cap))∧Hid (Ext w4 W)) W):=η33 fun W hW=>⟨⟨(HT.out W hW.out).1,(HT.out W hW.out).2.1⟩,hW⟩
       have HX0:Hid (Ext w4 w4.drew):=η33 (Ext.drew (Ext.refl _));clear a1 a2 a3 a4;refine q1f (fun W=>((W.cell? ⟨w.heap.size,0,none⟩=some (.int .u64 e1)∧W.cell? ⟨w.heap.size,1,none⟩=some (.int .i64 e2)∧W.cell? ⟨w.heap.size,2,none⟩=some (.int .i64 e3))∧W.cell? ⟨m,1,none⟩=some (.slice (some ⟨g,0,none⟩) n cap))∧Hid (Ext w4 W)) 18 (by kernel_rfl) (HTc.out _ HX0) (fun hHeld=>?_);refine q0C (i:=0) (v:=?_) rfl (by kernel_rfl) (fun _ _ _ h=>h) (Or.inl ⟨by rfl,?_⟩) hHeld (fun hHeld=>?_)
       rotate_left
       ·(intro w hSw;(try dsimp only at hSw);go_simp;try with_reducible rfl)
       simp only[Act.put,List.setIfInBounds_toArray,List.set_cons_zero,List.set_cons_succ];refine q0C (i:=1) (v:=?_) rfl (by kernel_rfl) (fun _ _ _ h=>h) (Or.inl ⟨by rfl,?_⟩) hHeld (fun hHeld=>?_)
       rotate_left
       ·(intro w hSw;(try dsimp only at hSw);go_simp;try with_reducible rfl)
       simp only[Act.put,List.setIfInBounds_toArray,List.set_cons_zero,List.set_cons_succ];refine q0C (i:=2) (v:=?_) rfl (by kernel_rfl) (fun _ _ _ h=>h) (Or.inl ⟨by rfl,?_⟩) hHeld (fun hHeld=>?_)
       rotate_left
       ·(intro w hSw;(try dsimp only at hSw);go_simp;try with_reducible rfl)
       simp only[Act.put,List.setIfInBounds_toArray,List.set_cons_zero,List.set_cons_succ];refine q0C (i:=3) (v:=?_) rfl (by kernel_rfl) (fun _ _ _ h=>h) (Or.inl ⟨by rfl,?_⟩) hHeld (fun hHeld=>?_)
       rotate_left
       ·(intro w hSw;(try dsimp only at hSw);go_simp;try with_reducible rfl)
       simp only[Act.put,List.setIfInBounds_toArray,List.set_cons_zero,List.set_cons_succ];refine q0j (i:=4) (v:=?_) rfl (by kernel_rfl) (fun _ _ _ h=>h) (Or.inl ⟨by rfl,?_⟩) hHeld (fun hHeld=>?_)
       rotate_left
       ·(intro w hSw;(try dsimp only at hSw);go_simp;try with_reducible rfl)
       simp only[Act.put,List.setIfInBounds_toArray,List.set_cons_zero,List.set_cons_succ];refine q0C (i:=5) (v:=?_) rfl (by kernel_rfl) (fun _ _ _ h=>h) (Or.inl ⟨by rfl,?_⟩) hHeld (fun hHeld=>?_)
       rotate_left
       ·(intro w hSw;(try dsimp only at hSw);go_simp;try with_reducible rfl)
       simp only[Act.put,List.setIfInBounds_toArray,List.set_cons_zero,List.set_cons_succ];refine q0C (i:=6) (v:=?_) rfl (by kernel_rfl) (fun _ _ _ h=>h) (Or.inl ⟨by rfl,?_⟩) hHeld (fun hHeld=>?_)
       rotate_left
       ·(intro w hSw;(try dsimp only at hSw);go_simp;try with_reducible rfl)
       simp only[Act.put,List.setIfInBounds_toArray,List.set_cons_zero,List.set_cons_succ];refine q0C (i:=7) (v:=?_) rfl (by kernel_rfl) (fun _ _ _ h=>h) (Or.inl ⟨by rfl,?_⟩) hHeld (fun hHeld=>?_)
       rotate_left
       ·(intro w hSw;(try dsimp only at hSw);go_simp;try with_reducible rfl)
       simp only[Act.put,List.setIfInBounds_toArray,List.set_cons_zero,List.set_cons_succ];refine q0j (i:=8) (v:=?_) rfl (by kernel_rfl) (fun _ _ _ h=>h) (Or.inl ⟨by rfl,?_⟩) hHeld (fun hHeld=>?_)
       rotate_left
       ·(intro w hSw;(try dsimp only at hSw);go_simp;try with_reducible rfl)
       simp only[Act.put,List.setIfInBounds_toArray,List.set_cons_zero,List.set_cons_succ];refine q0C (i:=11) (v:=?_) rfl (by kernel_rfl) (fun _ _ _ h=>h) (Or.inl ⟨by rfl,?_⟩) hHeld (fun hHeld=>?_)
       rotate_left
       ·(intro w hSw;(try dsimp only at hSw);go_simp;try with_reducible rfl)
       simp only[Act.put,List.setIfInBounds_toArray,List.set_cons_zero,List.set_cons_succ];refine q0C (i:=12) (v:=?_) rfl (by kernel_rfl) (fun _ _ _ h=>h) (Or.inl ⟨by rfl,?_⟩) hHeld (fun hHeld=>?_)
       rotate_left
       ·(intro w hSw;(try dsimp only at hSw);go_simp;try with_reducible rfl)
       simp only[Act.put,List.setIfInBounds_toArray,List.set_cons_zero,List.set_cons_succ];refine q0C (i:=13) (v:=?_) rfl (by kernel_rfl) (fun _ _ _ h=>h) (Or.inl ⟨by rfl,?_⟩) hHeld (fun hHeld=>?_)
       rotate_left
       ·(intro w hSw;(try dsimp only at hSw);go_simp;try with_reducible rfl)
       simp only[Act.put,List.setIfInBounds_toArray,List.set_cons_zero,List.set_cons_succ];refine q0j (i:=14) (v:=?_) rfl (by kernel_rfl) (fun _ _ _ h=>h) (Or.inl ⟨by rfl,?_⟩) hHeld (fun hHeld=>?_)
       rotate_left
       ·(intro w hSw;(try dsimp only at hSw);go_simp;try with_reducible rfl)
       simp only[Act.put,List.setIfInBounds_toArray,List.set_cons_zero,List.set_cons_succ];refine q0C (i:=15) (v:=?_) rfl (by kernel_rfl) (fun _ _ _ h=>h) (Or.inl ⟨by rfl,?_⟩) hHeld (fun hHeld=>?_)
       rotate_left
       ·(intro w hSw;(try dsimp only at hSw);go_simp;try with_reducible rfl)
       simp only[Act.put,List.setIfInBounds_toArray,List.set_cons_zero,List.set_cons_succ];refine q0C (i:=16) (v:=?_) rfl (by kernel_rfl) (fun _ _ _ h=>h) (Or.inl ⟨by rfl,?_⟩) hHeld (fun hHeld=>?_)
       rotate_left
       ·(intro w hSw;(try dsimp only at hSw);go_simp;try with_reducible rfl)
       simp only[Act.put,List.setIfInBounds_toArray,List.set_cons_zero,List.set_cons_succ];refine q0x (i:=9) (by kernel_rfl) rfl (fun K hK=>?_)
       go_simp
       have HX1:Hid (Ext w4 (w4.drew.alloc (.cells #[.int .u64 e1,.int .i64 e2,.int .i64 e3] 106))):=η33 (HX0.out.alloc _);refine hK.out _ _ (HTc.out _ HX1) (fun hHeld=>?_);clear hK K
       try simp only[Act.put,List.setIfInBounds_toArray,List.set_cons_zero,List.set_cons_succ]
       refine q0x (i:=10) (by kernel_rfl) rfl (fun K hK=>?_);refine q2b rfl (.tmp 62) (.tmp 64) 180 rfl 106 _ 3 24 Tryz.underlying180 Tryz.infoEnH (by decide) (by decide) (some ⟨g,0,none⟩) j j (ecs (L.take j)) rfl (fun h=>by cases h) (by rw[q1V,List.length_take,HLn.out];omega) (by rw[←q5R];exact (HRd.out _ HX1.out).take _) _ 1 1 (ec (e1,e2,e3)) rfl rfl (Rd.lit _ _ _) (fun u hu=>q3c [(e1,e2,e3)] u (by simpa [ecs] using hu)) (by omega) (by unfold maxLen;omega) (by omega) ?_;intro v1 x1 hown hgrow;have HX1a:Hid (Ext w4 x1):=η33 ((HX1.out:Below w4.heap.size w4 _).grown hgrow HX1.out.size (fun q hq=>by cases hq));have HOw1:=η33 (q0v hown HX1.out.size);clear hown hgrow;refine hK.out _ _ (HTc.out _ HX1a) (fun hHeld=>?_);clear hK K
       try simp only[Act.put,List.setIfInBounds_toArray,List.set_cons_zero,List.set_cons_succ]
       refine q0x (i:=17) (by kernel_rfl) rfl (fun K hK=>?_);refine q1d rfl (.tmp 65) (.tmp 71) 180 rfl w4.heap.size 106 _ 3 24 Tryz.underlying180 Tryz.infoEnH (by decide) (by decide) v1 (j+1) (ecs (L.take j)++ec (e1,e2,e3)) rfl HOw1.out _ _ _ (ecs (L.drop j)) rfl (by (rw[q1V,List.length_drop,HLn.out])<;>omega) (fun h=>by split at h<;>cases h) (HRd2.out _ HX1a.out) (q3c _) (by unfold maxLen;omega) (by omega) HX1a.out.size ?_;intro v2 x2 hown hgrow hat;have HX2a:Hid (Ext w4 x2):=η33 ((HX1a.out:Below w4.heap.size w4 _).grown hgrow HX1a.out.size (fun q hq=>(q0c HOw1.out q hq).1));obtain ⟨a2,c2,rfl⟩:=q0J hown;have HOw2:=η33 hown;clear hown hgrow hat;refine hK.out _ _ (HTc.out _ HX2a) (fun hHeld=>?_);clear hK K
       try simp only[Act.put,List.setIfInBounds_toArray,List.set_cons_zero,List.set_cons_succ]
       refine q1t (by kernel_rfl) ?_
       try simp only[List.drop_succ_cons,List.drop_zero]
       clear hHeld;obtain ⟨⟨qa,qb,qc⟩,qd,qe⟩:=HT.out _ HX2a.out;have hHS:=H0.out.ext (HB4.out.trans HX2a.out);have hrow:=q0v HOw2.out (Nat.zero_le _);rw[←HAd.out] at hrow;have hlen:j+1+(n-j)=(q3V (e1,e2,e3) L).length:=by have:=HAl.out;omega
       have HLn2:=η33 hlen;have hnm:(Value.slice a2 (j+1+(n-j)) c2).ownBlock≠some m:=fun hh=>by have h1:=(q0c HOw2.out m hh).1;have h2:=H0.out.blk.lt;have h3:=HB4.out.size;omega
       have HFin:Hid (∀z,z=(q3V (e1,e2,e3) L).length→MemI (x2.setCell ⟨m,1,none⟩ (.slice a2 z c2)) m (.slice a2 z c2) (q3V (e1,e2,e3) L)):=η33 fun z hz=>by
        subst hz;refine ⟨hHS.blk.set 1 _,?_⟩;rw[hlen] at hrow hnm;exact q0s hrow _ hnm
       have HOw3:=η33 (fun i (hi:(Value.slice a2 (j+1+(n-j)) c2).ownBlock=some i)=>Nat.le_trans HB4.out.size (q0c HOw2.out i hi).1);have HXf:=η33 (HB4.out.trans HX2a.out);clear hHS hrow hlen hnm;go_wp2_with fail
       all_goals
        go_ret;refine ⟨_,by rw[decide_eq_false HNin.out];rfl,HFin.out _ HLn2.out,.inr ?_,(OffS.of_ext HXf.out).trans (OffS.set (F:=fun i=>i=m) _ rfl _ _)⟩;exact HOw3.out
end
section
open Go.RowKit
theorem z8I {w:World} {m:Nat} {v:Value} {L:List En} (hm:MemI w m v L) (hok:okM L) (h a b:Int):
  Calls Tryz.prog 165 #[.pointer (some ⟨m,0,none⟩),.int .u64 h,.int .i64 a,.int .i64 b] w fun r w'=> ∃v,r= .returned v∧w'.ownsRow w.heap.size 106 3 v (q0m L h a b).length (ecs (q0m L h a b))∧Ext w w':=by
 have HN:=η33 (z1q hm);have c1:w.cell? ⟨m,1,none⟩=some v:=hm.blk.cell 1;obtain ⟨ao,cap,rfl,hens⟩:=Ens.of_own (Own.of_row hm.row);have HE:=η33 (z7g h a b w hens (by have:=hok.len;omega) hok.sort hok.ok);clear hm hens hok;generalize q0m L h a b=R at*;go_enter Tryz.func165,Tryz.ntmps165;go_wp2_with fail;refine HN.out.mono ?_;rintro e w1 ⟨rfl,rfl⟩;go_wp2_with fail;refine HE.out.mono ?_;rintro e w1 ⟨v,rfl,hr,hb⟩;have HR:=η33 hr;have HB:=η33 hb;clear hr hb;go_wp2_with fail;go_ret;exact ⟨_,rfl,HR.out,HB.out⟩
theorem z9q {w:World} {m:Nat} {v:Value} {L:List En} (hm:MemI w m v L) (hok:okM L) (h a:Int):
  Calls Tryz.prog 102 #[.pointer (some ⟨m,0,none⟩),.int .u64 h,.int .i64 a] w fun r w'=>r= .returned (.tuple #[enV ((q2p L h a).getD en0),.bool (q2p L h a).isSome])∧Ext w w':=by
 have HN:=η33 (fun W (k:Ext w W)=>z1q (hm.ext k));have c1:(w.alloc (.cells #[.int .u64 0,.int .i64 0,.int .i64 0] 106)).cell? ⟨m,1,none⟩=some v:=(hm.ext (q0B w _)).blk.cell 1;obtain ⟨ao,cap,rfl,hens⟩:=Ens.of_own (Own.of_row hm.row);have HE:=η33 (fun W (k:Ext w W)=>z9m h a W (hens.ext k) (by have:=hok.len;omega) hok.sort hok.ok);have HBk:=η33 (Blk.new w 106 #[.int .u64 0,.int .i64 0,.int .i64 0]);have HX:=η33 (q0B w (.cells #[.int .u64 0,.int .i64 0,.int .i64 0] 106));clear hm hens hok;generalize (q2p L h a).getD en0=y at*;generalize (q2p L h a).isSome=q at*;obtain ⟨y1,y2,y3⟩:=y;have HE:Hid (∀W (k:Ext w W),Calls Tryz.prog 159 #[.slice ao L.length cap,.int .u64 h,.int .i64 a] W fun r w'=>r= .returned (.tuple #[.agg #[.int .u64 y1,.int .i64 y2,.int .i64 y3],.bool q])∧Ext W w'):=HE;go_enter Tryz.func102,Tryz.ntmps102;go_wp2_with fail;refine (HN.out _ HX.out).mono ?_;rintro e w1 ⟨rfl,rfl⟩
 go_wp2_with fail;refine (HE.out _ HX.out).mono ?_;rintro e w1 ⟨rfl,hb⟩;have HB:=η33 (HX.out.trans hb);have hbk:=HBk.out.ext hb;have k0:w1.cell? ⟨w.heap.size,0,none⟩=some (.int .u64 0):=hbk.cell 0;have k1:w1.cell? ⟨w.heap.size,1,none⟩=some (.int .i64 0):=hbk.cell 1;have k2:w1.cell? ⟨w.heap.size,2,none⟩=some (.int .i64 0):=hbk.cell 2;have f0:w1.frozen? ⟨w.heap.size,0,none⟩=false:=hbk.free 0;have f1:w1.frozen? ⟨w.heap.size,1,none⟩=false:=hbk.free 1;have f2:w1.frozen? ⟨w.heap.size,2,none⟩=false:=hbk.free 2;clear hb hbk;go_wp2_with fail
 ((try simp only[Exit.inBlock,Exit.then]);refine bodyPost_ret (v:= .tuple #[.agg #[.int .u64 y1,.int .i64 y2,.int .i64 y3],.bool q]) (by rw[results_cell_tmp rfl];go_simp) rfl ?_)
 exact ⟨rfl,q7d HB.out⟩
theorem y0i (w:World):Calls Tryz.prog 178 #[] w fun r w'=> ∃m,r= .returned (.pointer (some ⟨m,0,none⟩))∧MemI w' m (.slice none 0 0) []∧w.heap.size≤m∧Ext w w':=by
 have HM:Hid (MemI (w.alloc (.cells #[.bool true,.slice none 0 0] 201)) w.heap.size (.slice none 0 0) []):=η33 ⟨Blk.new _ _ _,World.ownsRow_nil _ _ _ _⟩;have HX:=η33 (q0B w (.cells #[.bool true,.slice none 0 0] 201));go_enter Tryz.func178,Tryz.ntmps178;go_wp2_with fail;go_ret;exact ⟨_,rfl,HM.out,Nat.le_refl _,HX.out⟩
end
end Go.Proofs.YthdekbmdkpcooaaGreatDoor
