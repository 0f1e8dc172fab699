/- Walks. -/
import Derived.Test.YthdekbmdkpcooaaGreatDoorG26WP
import Derived.Test.YthdekbmdkpcooaaGreatDoorG28WP
import Derived.Test.YthdekbmdkpcooaaGreatDoorG30WP
set_option linter.unusedVariables false
set_option linter.unusedSimpArgs false
set_option maxRecDepth 100000
set_option maxHeartbeats 3200000
namespace Go.Proofs.YthdekbmdkpcooaaGreatDoor
theorem η31 {p:Prop} (h:p):Go.RowKit.Hid p:=Lib.hid h
section
open Go.RowKit
theorem Tryz.infoEv :(Tryz.prog.info? 85).map (fun i=>(i.zero,i.size,i.bytes))=some (some (.agg #[.string ⟨#[]⟩,.string ⟨#[]⟩,.float .f64 0]),3,40):=by kernel_rfl
theorem z5E (s:List UInt8) (k:Nat) (h:z1j k s=none): ∀m,k≤m→z1j m s=none:=by
 intro m hm;obtain ⟨d,rfl⟩:=Nat.le.dest hm;clear hm
 induction d with
 |zero=>exact h
 |succ d ih=>rw[←Nat.add_assoc,z1j,ih];rfl
theorem z9Y (s:List UInt8): ∃e R o,y2N (rdE s)= .tuple #[evV e,.string ⟨R.toArray⟩,.bool o]∧(o=true→rdE s=some (e,R))∧(o=false→rdE s=none)∧e.ty.length≤16∧e.da.length≤200∧R.length≤s.length:=by
 by_cases h:q7w s=true∧q7w (rdR s)=true∧8≤(rdR (rdR s)).length∧q0W (rdT s) (rdT (rdR s))=0
 ·have e1:rdE s=some (⟨rdT s,rdT (rdR s),q1H ((rdR (rdR s)).take 8)⟩,(rdR (rdR s)).drop 8):=by unfold rdE;rw[if_pos h]
  obtain ⟨_,h2,h3⟩:=q1k h.2.2.2;have l1:=q7Y s;have l2:=q7Y (rdR s);exact ⟨_,_,true,by rw[e1];rfl,fun _=>e1,fun e=>by simp at e,h2,h3,by rw[List.length_drop];omega⟩
 ·have e1:rdE s=none:=by unfold rdE;rw[if_neg h]
  exact ⟨ev0,[],false,by rw[e1];rfl,fun e=>by simp at e,fun _=>e1,by decide,by decide,Nat.zero_le _⟩
theorem z7Z (s:List UInt8): ∃st fi m R o,q6U s= .tuple #[.agg #[.string ⟨st.toArray⟩,.int .i64 ((fi:Nat):Int),.slice none 0 0],.int .i64 ((m:Nat):Int),.string ⟨R.toArray⟩,.bool o]∧st.length≤s.length∧R.length≤s.length∧m≤255∧fi≤1073741824∧
  (∀es T,o=true→z1j m R=some (es,T)→q4j s=if T=[] then (if q0N st (fi:Int) es=0 then some ⟨st,fi,es⟩ else none) else none)∧((o=false∨z1j m R=none)→q4j s=none):=by
 have l1:=z3Z s;have l2:=q7Y s;by_cases h:q4l s=true
 ·have h':=h
  unfold q4l at h';simp only[Bool.and_eq_true,decide_eq_true_eq] at h';refine ⟨rdT s,q1H ((rdR s).take 8),((rdR s).getD 8 0).toNat,(rdR s).drop 9,true,by unfold q6U;rw[if_pos h],by omega,by rw[List.length_drop];omega,by have:=UInt8.toNat_lt ((rdR s).getD 8 0);omega,h'.2,fun es T _ he=>?_,fun he=>?_⟩
  ·unfold q4j
   rw[if_pos h,he]
   cases T with
   |nil=>rfl
   |cons a b=>rfl
  ·rcases he with he|he
   ·cases he
   ·unfold q4j;rw[if_pos h,he]
 ·refine ⟨[],0,0,[],false,by unfold q6U;rw[if_neg h];rfl,Nat.zero_le _,Nat.zero_le _,by omega,by omega,fun es T e=>by simp at e,fun _=>by unfold q4j;rw[if_neg h]⟩
def y1s (B:Nat) (w:World) (r:Option Bt) (v:Value):Prop:=match r with
 |none=>v= .tuple #[.agg #[.string ⟨#[]⟩,.int .i64 0,.slice none 0 0],.int .i64 10]
 |some b=> ∃x,v= .tuple #[.agg #[.string ⟨b.st.toArray⟩,.int .i64 (b.fi:Int),x],.int .i64 0]∧Own w B 85 3 x b.ev.length (q4q b.ev)
theorem y1l {W:World} {q:Nat} {t:TypeId} {a b c:Value} (h:Blk W q t #[a,b,c]) (a' b':Value):W.cell? ⟨q,0,none⟩=some a∧W.cell? ⟨q,1,none⟩=some b∧W.cell? ⟨q,2,none⟩=some c∧
   W.frozen? ⟨q,0,none⟩=false∧W.frozen? ⟨q,1,none⟩=false∧W.frozen? ⟨q,2,none⟩=false∧((W.setCell ⟨q,0,none⟩ a').setCell ⟨q,1,none⟩ b').frozen? ⟨q,2,none⟩=false∧
   ((W.setCell ⟨q,0,none⟩ a').setCell ⟨q,1,none⟩ b').cell? ⟨q,2,none⟩=some c:=by
 have h2:=(h.set 0 a').set 1 b';exact ⟨h.cell 0,h.cell 1,h.cell 2,h.free 0,h.free 1,h.free 2,h2.free 2,h2.cell 2⟩
theorem q4M {w w1:World} (h:Ext w w1) {q:Nat} (hq:w.heap.size≤q) (a b c:Value):Ext w (((w1.setCell ⟨q,0,none⟩ a).setCell ⟨q,1,none⟩ b).setCell ⟨q,2,none⟩ c):=
 ((h.setCell (p:=⟨q,0,none⟩) hq a).setCell (p:=⟨q,1,none⟩) hq b).setCell (p:=⟨q,2,none⟩) hq c
theorem z4l (s :List UInt8) (w:World) (hl:s.length≤4611686018427387903):
  Calls Tryz.prog 49 #[.string ⟨s.toArray⟩] w fun e w'=>(∃v,e= .returned v∧y1s w.heap.size w' (q4j s) v)∧Ext w w':=by
 have HH:=η31 (fun W=>y0T s W hl);obtain ⟨st,fi,m,S9,o0,hv,hst,hS9,hm,hfi,hG,hG0⟩:=z7Z s;rw[hv] at HH;have HG:=η31 hG;have HG0:=η31 hG0;have HX:=η31 (q0B w (.cells #[.string ⟨#[]⟩,.int .i64 0,.slice none 0 0] 96));have HB0:=η31 (Blk.new w 96 #[.string ⟨#[]⟩,.int .i64 0,.slice none 0 0]);have hsf:=q1T;clear hv hG hG0;obtain ⟨q,hq⟩: ∃q,w.heap.size=q:=⟨_,rfl⟩
 have HQ:=η31 hq;have HQl:Hid (w.heap.size≤q):=η31 (by omega);rw[hq] at HB0;go_enter Tryz.func49,Tryz.ntmps49;go_wp2_with fail;refine (HH.out _).mono ?_;rintro e w1 ⟨rfl,hx⟩;have HB1:=η31 (HB0.out.ext hx);have HX1:=η31 (HX.out.trans hx);clear hx;go_wp2_with fail;obtain ⟨q4,hq4⟩: ∃q4,w1.heap.size=q4:=⟨_,rfl⟩
 have hlt1:w.heap.size≤w1.heap.size:=HX1.out.size;have HQ4:Hid (q+1≤q4):=η31 (by have:=HB1.out.lt;omega);have HQw:Hid (w.heap.size≤q4):=η31 (by omega);have HB2:=η31 (HB1.out.ext (q0B w1 (.cells #[.string ⟨st.toArray⟩,.int .i64 (fi:Int),.slice none 0 0] 96)));have HX2:=η31 (HX1.out.trans (q0B w1 (.cells #[.string ⟨st.toArray⟩,.int .i64 (fi:Int),.slice none 0 0] 96)));have HE2:=η31 (Blk.new w1 96 #[.string ⟨st.toArray⟩,.int .i64 (fi:Int),.slice none 0 0]);rw[hq4] at HE2⊢;clear hq4 hlt1
 go_loopw [6,7] (fun r o W=> ∃es R ao cp b,r= .string ⟨(R:List UInt8).toArray⟩∧o= .bool b∧Blk W q4 96 #[.string ⟨st.toArray⟩,.int .i64 (fi:Int),.slice ao es.length cp]∧
   W.ownsRow (q4+1) 85 3 (.slice ao es.length cp) es.length (q4q es)∧es.length≤m∧(b=true→o0=true∧z1j es.length S9=some (es,R))∧(b=false→o0=false∨z1j m S9=none)∧q1C es∧
   R.length≤4611686018427387903∧Blk W q 96 #[.string ⟨#[]⟩,.int .i64 0,.slice none 0 0]∧Ext w W)
  (fun _ _ W=>m-(match W.cell? ⟨q4,2,none⟩ with|some (.slice _ n _)=>n|_=>0))
 case atStart=>
  refine ⟨[],S9,none,0,o0,rfl,rfl,HE2.out,World.ownsRow_nil _ _ _ _,Nat.zero_le _,fun h=>⟨h,rfl⟩,fun h=> .inl h,(fun e he=>absurd he (List.not_mem_nil)),by omega,HB2.out,HX2.out⟩
 case round =>
  obtain ⟨es,R,ao,cp,b,rfl,rfl,hb4,hrow,hlen,hT,hF,hsh,hRl,hbq,hxw⟩:=hrel;obtain ⟨ao2,cp2,he2,hev⟩:=Evs.of_own (Own.of_row hrow)
  cases he2;obtain ⟨k,hk⟩: ∃k,es.length=k:=⟨_,rfl⟩
  have hcp1:=hev.fits;have hcp2:=hev.bound;have HEv:=η31 hev;clear hev;rw[hk] at hb4 hrow hlen hT hcp1 HEv;have HK:=η31 hk;have HB4:=η31 hb4;have HR4:=η31 hrow;have HT:=η31 hT;have HF:=η31 hF;have HSh:=η31 hsh;have HBq:=η31 hbq;have HXw:=η31 hxw;have c0:wr.cell? ⟨q4,0,none⟩=some (.string ⟨st.toArray⟩):=hb4.cell 0;have c1:wr.cell? ⟨q4,1,none⟩=some (.int .i64 (fi:Int)):=hb4.cell 1;have c2:wr.cell? ⟨q4,2,none⟩=some (.slice ao k cp):=hb4.cell 2;clear hk hb4 hrow hT hF hsh hbq hxw
  cases b with
  | false=>
   have HNone:Hid (q4j s=none):=η31 (HG0.out (HF.out rfl));obtain ⟨k0,k1,k2,f0,f1,f2,g2,d2⟩:=y1l HBq.out (.string ⟨#[]⟩) (.int .i64 0);clear HT HF;go_wp2_with fail
   ((try simp only[Exit.inBlock,Exit.then]);refine bodyPost_ret (v:= .tuple #[.agg #[.string ⟨#[]⟩,.int .i64 0,.slice none 0 0],.int .i64 10]) (by rw[q0p rfl];go_simp) rfl ?_)
   exact ⟨⟨_,rfl,by rw[HNone.out];exact rfl⟩,q4M HXw.out HQl.out _ _ _⟩
  | true =>
   by_cases hkm:k<m
   ·have hd:decide ((k:Int)<(m:Int))=true:=decide_eq_true (by omega)
    obtain ⟨⟨y1,y2,y3⟩,R',o',hv,hy,hn,ht1,ht2,hRR⟩:=z9Y R;have hv':y2N (rdE R)= .tuple #[.agg #[.string ⟨y1.toArray⟩,.string ⟨y2.toArray⟩,.float .f64 y3],.string ⟨R'.toArray⟩,.bool o']:=hv;have HE:=η31 (fun W=>y0L R W hRl);rw[hv'] at HE;have HY:=η31 hy;have HN:=η31 hn;clear hv hv' hy hn;go_wp2_with fail;refine (HE.out _).mono ?_;rintro e w2 ⟨rfl,hx⟩;obtain ⟨q8,hq8⟩: ∃q8,wr.heap.size=q8:=⟨_,rfl⟩
    rw[hq8];have hxx:=(q0B wr (.cells #[.string ⟨#[]⟩,.string ⟨#[]⟩,.float .f64 0] 85)).trans hx;have hb8:=(Blk.new wr 85 #[.string ⟨#[]⟩,.string ⟨#[]⟩,.float .f64 0]).ext hx;rw[hq8] at hb8;obtain ⟨k0,k1,k2,f0,f1,f2,g2,d2⟩:=y1l hb8 (.string ⟨y1.toArray⟩) (.string ⟨y2.toArray⟩);have hex:=q4M hxx (q:=q8) (by omega) (.string ⟨y1.toArray⟩) (.string ⟨y2.toArray⟩) (.float .f64 y3);have hb83:=((hb8.set 0 (.string ⟨y1.toArray⟩)).set 1 (.string ⟨y2.toArray⟩)).set 2 (.float .f64 y3);have e0:((((w2.setCell ⟨q8,0,none⟩ (.string ⟨y1.toArray⟩)).setCell ⟨q8,1,none⟩ (.string ⟨y2.toArray⟩)).setCell ⟨q8,2,none⟩ (.float .f64 y3)).cell? ⟨q8,0,none⟩)=some (.string ⟨y1.toArray⟩):=hb83.cell 0;have e1:((((w2.setCell ⟨q8,0,none⟩ (.string ⟨y1.toArray⟩)).setCell ⟨q8,1,none⟩ (.string ⟨y2.toArray⟩)).setCell ⟨q8,2,none⟩ (.float .f64 y3)).cell? ⟨q8,1,none⟩)=some (.string ⟨y2.toArray⟩):=hb83.cell 1;have e2:((((w2.setCell ⟨q8,0,none⟩ (.string ⟨y1.toArray⟩)).setCell ⟨q8,1,none⟩ (.string ⟨y2.toArray⟩)).setCell ⟨q8,2,none⟩ (.float .f64 y3)).cell? ⟨q8,2,none⟩)=some (.float .f64 y3):=hb83.cell 2
    have e3:((((w2.setCell ⟨q8,0,none⟩ (.string ⟨y1.toArray⟩)).setCell ⟨q8,1,none⟩ (.string ⟨y2.toArray⟩)).setCell ⟨q8,2,none⟩ (.float .f64 y3)).cell? ⟨q4,2,none⟩)=some (.slice ao k cp):=(HB4.out.ext hex).cell 2;have hxa:=hex.trans (q0B _ (.cells #[.string ⟨y1.toArray⟩,.string ⟨y2.toArray⟩,.float .f64 y3] 85));have HB4a:=η31 (HB4.out.ext hxa);have HBqa:=η31 (HBq.out.ext hxa);have HRa:=η31 (q0J HR4.out hxa);have HXa:=η31 (HXw.out.trans hxa);have HSa:=η31 (show q4+1≤_ from Nat.le_trans (show q4+1≤wr.heap.size from HB4.out.lt) hxa.size);have hrd:=Rd.lit (((w2.setCell ⟨q8,0,none⟩ (.string ⟨y1.toArray⟩)).setCell ⟨q8,1,none⟩ (.string ⟨y2.toArray⟩)).setCell ⟨q8,2,none⟩ (.float .f64 y3)) #[.string ⟨y1.toArray⟩,.string ⟨y2.toArray⟩,.float .f64 y3] 85;rw[World.size_setCell,World.size_setCell,World.size_setCell] at hrd;have HRd:=η31 hrd;clear hx hxx hb8 hex hb83 hxa hrd
    go_wp2_with (at_builtin;refine q0M rfl (.tmp 31) (.tmp 33) 43 rfl (q4+1) 85 _ 3 40 Tryz.underlying43 Tryz.infoEv (by decide) (by decide) _ k (q4q es) rfl HRa.out _ 1 1 (evc ⟨y1,y2,y3⟩) rfl rfl (fun h=>by cases h) HRd.out (fun u hu=>z7W [⟨y1,y2,y3⟩] u (by simpa [q4q] using hu)) (by unfold maxLen;omega) (by omega) HSa.out ?_;intro v4 w4 hown hgrow hat;obtain ⟨a4,c4,rfl⟩:=q0G hown;have hb5:=HB4a.out.same (hgrow.block q4 HB4a.out.lt (fun e=>by have:=(q0V HRa.out q4 e.symm).1;omega));have d6:=hb5.cell 2;have d7:=hb5.free 2;have HB5:=η31 hb5;have HO4:=η31 hown;have HG4:=η31 hgrow;clear hown hgrow hat hb5)
    have hbq5:=HBqa.out.same (HG4.out.block q HBqa.out.lt (fun e=>by have:=(q0V HRa.out q e.symm).1;have:=HQ4.out;omega));have hx4:=q1W HXa.out (Own.of_row (q0y HRa.out (show w.heap.size≤q4+1 by have:=HQw.out;omega))) HG4.out HXa.out.size;obtain ⟨ht0,ht0'⟩:=HT.out trivial;have hlen':(es++[(⟨y1,y2,y3⟩:Ev)]).length=k+1:=by rw[List.length_append,HK.out];rfl
    refine ⟨⟨es++[⟨y1,y2,y3⟩],R',a4,c4,o',rfl,rfl,?_,?_,by omega,fun h=>⟨ht0,?_⟩,fun h=> .inr ?_,?_,by omega,hbq5.out (by have:=HQ4.out;omega) _ _,hx4.setCell (p:=⟨q4,2,none⟩) HQw.out _⟩,?_⟩
    ·rw[hlen'];exact HB5.out.set 2 _
    ·rw [hlen',q4p]
     refine q0X (a:=⟨q4,2,none⟩) ?_ _ (fun e=>?_)
     ·have h:=HO4.out
      rw[show q4q [(⟨y1,y2,y3⟩:Ev)]=evc ⟨y1,y2,y3⟩ from by simp[q4q]];exact h
     ·have:=(q0V HO4.out q4 e).1
      omega
    ·rw[hlen',z1j,ht0',Option.bind_some,HY.out h];rfl
    ·refine z5E _ (k+1) ?_ m hkm
     rw[z1j,ht0',Option.bind_some,HN.out h];rfl
    ·intro e he
     rcases List.mem_append.1 he with he|he
     ·exact HSh.out e he
     ·obtain rfl:=List.mem_singleton.1 he
      exact ⟨by simp only;omega,by simp only;omega⟩
    ·have h6:(w4.setCell ⟨q4,2,none⟩ (.slice a4 (k+1) c4)).cell? ⟨q4,2,none⟩=some (.slice a4 (k+1) c4):=(HB5.out.set 2 _).cell 2
     rw[h6,c2];simp only;omega
   ·have hd:decide ((k:Int)<(m:Int))=false:=decide_eq_false (by omega)
    obtain rfl:k=m:=by omega
    obtain ⟨hT1,hT2⟩:=HT.out rfl;have hGG:=HG.out _ _ hT1 hT2;obtain ⟨k0,k1,k2,f0,f1,f2,g2,d2⟩:=y1l HBq.out (.string ⟨#[]⟩) (.int .i64 0)
    cases R with
    | cons r0 R=>
     have HNone:Hid (q4j s=none):=η31 (by rw[hGG];rfl);clear hGG hT1 hT2 HT HF HG HG0;go_wp2_with fail
     ((try simp only[Exit.inBlock,Exit.then]);refine bodyPost_ret (v:= .tuple #[.agg #[.string ⟨#[]⟩,.int .i64 0,.slice none 0 0],.int .i64 10]) (by rw[q0p rfl];go_simp) rfl ?_)
     exact ⟨⟨_,rfl,by rw[HNone.out];exact rfl⟩,q4M HXw.out HQl.out _ _ _⟩
    | nil =>
     have HC:=η31 (fun W (h:Evs W ao k cp es)=>q9A st (fi:Int) W h (by omega) HSh.out);rw[if_pos rfl] at hGG;have HGG:=η31 hGG;clear hGG hT1 hT2 HT HF HG HG0 k0 k1 k2 f0 f1 f2 g2 d2;go_wp2_with fail;refine (HC.out _ HEv.out).mono ?_;rintro e w2 ⟨rfl,hx⟩;have HX3:=η31 (HXw.out.trans hx);have HRo:=η31 (q0J HR4.out hx);have hb4:=HB4.out.ext hx;have c0:w2.cell? ⟨q4,0,none⟩=some (.string ⟨st.toArray⟩):=hb4.cell 0;have c1:w2.cell? ⟨q4,1,none⟩=some (.int .i64 (fi:Int)):=hb4.cell 1;have c2:w2.cell? ⟨q4,2,none⟩=some (.slice ao k cp):=hb4.cell 2;by_cases hbc:q0N st (fi:Int) es=0
     ·have HSome:Hid (q4j s=some ⟨st,fi,es⟩):=η31 (by rw[HGG.out,if_pos hbc])
      obtain ⟨k0,k1,k2,f0,f1,f2,g2,d2⟩:=y1l (HBq.out.ext hx) (.string ⟨st.toArray⟩) (.int .i64 (fi:Int))
      have HOw:Hid (Own (((w2.setCell ⟨q,0,none⟩ (.string ⟨st.toArray⟩)).setCell ⟨q,1,none⟩ (.int .i64 (fi:Int))).setCell ⟨q,2,none⟩ (.slice ao k cp)) w.heap.size 85 3 (.slice ao k cp) es.length (q4q es)):=η31 (by
       rw[HK.out];have hlq:(Value.slice ao k cp).ownBlock≠some q:=fun e=>by have:=(q0V HRo.out q e).1;have:=HQ4.out;omega
       exact ((((Own.of_row HRo.out).setOther (a:=⟨q,0,none⟩) _ hlq).setOther (a:=⟨q,1,none⟩) _ hlq).setOther (a:=⟨q,2,none⟩) _ hlq).base (by have:=HQw.out;omega))
      rw[hbc];clear hx hb4 hbc;go_wp2_with fail
      ((try simp only[Exit.inBlock,Exit.then]);refine bodyPost_ret (v:= .tuple #[.agg #[.string ⟨st.toArray⟩,.int .i64 (fi:Int),.slice ao k cp],.int .i64 0]) (by rw[q0p rfl];go_simp) rfl ?_)
      refine ⟨⟨_,rfl,by rw[HSome.out];exact ⟨_,rfl,HOw.out⟩⟩,q4M HX3.out HQl.out _ _ _⟩
     ·have HNone:Hid (q4j s=none):=η31 (by rw[HGG.out,if_neg hbc])
      have hbn:(q0N st (fi:Int) es==0)=false:=by simpa using hbc
      obtain ⟨k0,k1,k2,f0,f1,f2,g2,d2⟩:=y1l (HBq.out.ext hx) (.string ⟨#[]⟩) (.int .i64 0);generalize q0N st (fi:Int) es=bc at*;clear hx hb4;go_wp2_with fail
      ((try simp only[Exit.inBlock,Exit.then]);refine bodyPost_ret (v:= .tuple #[.agg #[.string ⟨#[]⟩,.int .i64 0,.slice none 0 0],.int .i64 10]) (by rw[q0p rfl];go_simp) rfl ?_)
      exact ⟨⟨_,rfl,by rw[HNone.out];exact rfl⟩,q4M HX3.out HQl.out _ _ _⟩
end
section
open Go.RowKit
theorem z0J {pos:Int}: ∀{L:List (Nat×List UInt8)} (hp:L.Pairwise z7w) {a:Nat} {p:List UInt8} {R:List (Nat×List UInt8)},L.filter (fun r=>decide (pos≤(r.1:Int)))=(a,p)::R→
  L.filter (fun r=>decide ((a:Int)+(p.length:Int)+12≤(r.1:Int)))=R
 |[],_,_,_,_,h=>by cases h
 | x ::t,hp,a,p,R,h=>by
  obtain ⟨h1,h2⟩:=List.pairwise_cons.1 hp;by_cases hx:pos≤(x.1:Int)
  ·rw[List.filter_cons_of_pos (by simpa using hx)] at h
   injection h with e1 e2;subst e1;simp only at hx;rw[List.filter_cons_of_neg (by simp;omega),←e2,List.filter_eq_self.2,List.filter_eq_self.2]
   ·intro y hy;have:=h1 y hy;unfold z7w at this;simp only at this;simp;omega
   ·intro y hy;have:=h1 y hy;unfold z7w at this;simp only at this;simp;omega
  ·rw[List.filter_cons_of_neg (by simpa using hx)] at h
   have hm:(a,p)∈t.filter (fun r=>decide (pos≤(r.1:Int))):=by rw[h];exact List.mem_cons_self
   have h3:=(List.mem_filter.1 hm).2;simp only[decide_eq_true_eq] at h3;rw[List.filter_cons_of_neg (by simp;omega)];exact z0J h2 h
def q1p (C:Cks) (pos:Int):List (Nat×List UInt8):=(q0w 0 C).filter (fun r=>decide (pos≤(r.1:Int)))
theorem q8H (C:Cks) (pos:Int):q3U C pos=(q1p C pos).head? :=by unfold q3U q1p;rw[List.head?_filter]
theorem q8E {C:Cks} (h:okC C) {pos:Int} {a:Nat} {p:List UInt8} {R:List (Nat×List UInt8)} (e:q1p C pos=(a,p)::R):q1p C ((a:Int)+(p.length:Int)+12)=R:=
 z0J (q6a C 0 h.size) e
theorem z5q {C:Cks} (h:okC C) {pos:Int} {r:Nat×List UInt8} (hr:r∈q1p C pos):r.1<4096*200∧r.2.length≤2000:=by
 have h1:=(List.mem_filter.1 hr).1;have h2:=q5Y C 0 h.size r h1;have h3:=h.few;refine ⟨by omega,?_⟩;have key: ∀(ps:List (List UInt8)) (a:Nat),r∈q2e a ps→r.2∈ps:=by
  intro ps
  induction ps with
  |nil=>intro a h;cases h
  | cons p t ih=>
   intro a h;rw[q2e] at h;rcases List.mem_cons.1 h with rfl|h
   ·exact List.mem_cons_self
   ·exact List.mem_cons_of_mem _ (ih _ h)
 have key2: ∀(D:Cks) (b:Nat),r∈q0w b D→ ∃ps∈D,r.2∈ps:=by
  intro D
  induction D with
  |nil=>intro b h;cases h
  | cons ps t ih=>
   intro b h;rw[q0w] at h;rcases List.mem_append.1 h with h|h
   ·exact ⟨ps,List.mem_cons_self,key ps _ h⟩
   ·obtain ⟨q,hq,hr⟩:=ih _ h
    exact ⟨q,List.mem_cons_of_mem _ hq,hr⟩
 obtain ⟨ps,hps,hp⟩:=key2 C 0 h1;exact h.pay ps hps _ hp
def q2a (sd:Int) (pos:Nat) (b:Bt) (i:Nat):En:=(q2O sd b.st,(b.fi:Int)+(i:Int),(pos:Int))
def q0d (sd:Int) (pos:Nat) (b:Bt) (k:Nat):List En:=(List.range k).map (q2a sd pos b)
theorem q7c (sd:Int) (pos:Nat) (b:Bt) (k:Nat):q0d sd pos b (k+1)=q0d sd pos b k++[q2a sd pos b k]:=by unfold q0d;rw[List.range_succ,List.map_append];rfl
theorem q3m (sd:Int) (pos:Nat) (b:Bt) (k:Nat):(q0d sd pos b k).length=k:=by unfold q0d;simp
def z1D (sd:Int):List (Nat×List UInt8)→Option (List En)
 |[]=>some []
 |(a,p)::r=>(q4j p).bind fun b=>(z1D sd r).map fun l=>q0d sd a b b.ev.length++l
def q1R (es:List En) (L:List En):List En:=es.foldl (fun L e=>q3d e L) L
theorem q3R (a b L:List En):q1R (a++b) L=q1R b (q1R a L):=by unfold q1R;rw[List.foldl_append]
theorem q6d : ∀(es L:List En),(q1R es L).length≤L.length+es.length
 |[],L=>Nat.le_refl _
 | e::t,L=>by
  have h:=q6d t (q3d e L);have:=@z6W e L;unfold q1R at*;rw[List.foldl_cons,List.length_cons];omega
theorem z6r {s:List UInt8} {b:Bt} (h:q4j s=some b):q0N b.st (b.fi:Int) b.ev=0:=by
 unfold q4j at h
 split at h
 ·split at h
  ·split at h
   ·rename_i hc
    injection h with h;subst h;exact hc
   ·cases h
  ·cases h
 ·cases h
theorem z2S (sd:Int) {pos:Nat} {b:Bt} {k:Nat} (h:q0N b.st (b.fi:Int) b.ev=0) (hk:k<b.ev.length) (hp:pos<4096*200):q3Q (q2a sd pos b k)=true:=by
 obtain ⟨_,_,_,p4,p5,p6,_⟩:=q0j h;obtain ⟨h1,h2⟩:=z1L sd b.st;rw[okEn_iff];unfold q2a;simp only;omega
end
end Go.Proofs.YthdekbmdkpcooaaGreatDoor
