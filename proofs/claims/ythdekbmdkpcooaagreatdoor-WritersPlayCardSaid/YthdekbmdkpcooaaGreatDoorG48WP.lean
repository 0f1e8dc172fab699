/- Walks. -/
import Derived.Test.YthdekbmdkpcooaaGreatDoorG47WP
set_option linter.unusedVariables false
set_option linter.unusedSimpArgs false
set_option maxRecDepth 100000
set_option maxHeartbeats 12800000
namespace Go.Proofs.YthdekbmdkpcooaaGreatDoor
theorem η48 {p:Prop} (h:p):Go.RowKit.Hid p:=Lib.hid h
open Go.RowKit
theorem q9W (x:Int):bits .and .i64 x 1=0∨bits .and .i64 x 1=1:=by
 have h:(BitVec.ofInt 64 x&&&BitVec.ofInt 64 1).toNat≤1:=by
  rw[BitVec.toNat_and];exact Nat.and_le_right
 have e:bits .and .i64 x 1=IntKind.i64.wrap (((BitVec.ofInt 64 x&&&BitVec.ofInt 64 1).toNat:Nat):Int):=rfl;rw[e,IntKind.wrap_i64];omega
theorem q3V {W0 W:World} {q j:Nat} {v:Option Value} (h:W0.heap.size=q) (k:W.cell? ⟨q,j,none⟩=v):W.cell? ⟨W0.heap.size,j,none⟩=v:=h▸k
def Ars (W:World) (ba bb:Nat) (P D:Bool→Option (Nat×Int)):Prop:=
 Blk W ba 40 #[ptW (P false),ptW (P true)]∧Blk W bb 42 #[ptW (D false),ptW (D true)]
theorem Ars.same {W W':World} {ba bb:Nat} {P D:Bool→Option (Nat×Int)} (h:Ars W ba bb P D) {X:Nat→Prop} (hs:Stay X W W') (h1:X ba) (h2:X bb):Ars W' ba bb P D:=⟨h.1.same (hs _ h1),h.2.same (hs _ h2)⟩
def Twin (P D:Bool→Option (Nat×Int)):Prop:= ∀k,(P k).map Prod.snd=(D k).map Prod.snd
theorem Twin.renew {P D:Bool→Option (Nat×Int)} (h:Twin P D) {k:Bool} {v w:Option (Nat×Int)} (e:v.map Prod.snd=w.map Prod.snd):Twin (upd P k v) (upd D k w):=fun j=>by
 by_cases hj:j=k
 ·subst hj;rw[q3O,q3O];exact e
 ·have:j=!k:=by cases j<;>cases k<;>simp_all
  subst this;rw[q4J,q4J];exact h _
theorem Twin.some {P D:Bool→Option (Nat×Int)} (h:Twin P D) {k:Bool} {y:Nat} {t:Int} (e:D k=some (y,t)): ∃x,P k=some (x,t):=by
 have h1:=h k;rw[e] at h1
 cases hp:P k with
 |none=>rw[hp] at h1;cases h1
 |some v=>obtain ⟨x,s⟩:=v;rw[hp] at h1;cases h1;exact ⟨x,rfl⟩
theorem Ars.renew {W:World} {ba bb:Nat} {P D:Bool→Option (Nat×Int)} (h:Ars W ba bb P D) (hne:ba≠bb) (k:Bool) (v w:Option (Nat×Int)):Ars ((W.setCell ⟨ba,if k then 1 else 0,none⟩ (ptW v)).setCell ⟨bb,if k then 1 else 0,none⟩ (ptW w)) ba bb (upd P k v) (upd D k w):=by
 have e1: ∀(P:Bool→Option (Nat×Int)) v,(#[ptW (P false),ptW (P true)]:Array Value).setIfInBounds (if k then 1 else 0) (ptW v)=#[ptW (upd P k v false),ptW (upd P k v true)]:=fun P v=>by cases k<;>simp[upd]
 constructor
 ·have:=h.1.set (if k then 1 else 0) (ptW v)
  rw[e1] at this;exact this.same (heap_setCell_other _ ⟨bb,_,none⟩ ba _ fun e=>hne (by exact e))
 ·have:=(h.2.same (w':=W.setCell ⟨ba,if k then 1 else 0,none⟩ (ptW v)) (heap_setCell_other _ ⟨ba,_,none⟩ bb _ fun e=>hne (by exact e.symm))).set (if k then 1 else 0) (ptW w)
  rw[e1] at this;exact this
theorem Ars.put {W:World} {ba bb:Nat} {P D P' D':Bool→Option (Nat×Int)} (h:Ars W ba bb P D) (e1: ∀k,ptW (P' k)=ptW (P k)) (e2: ∀k,ptW (D' k)=ptW (D k)):Ars W ba bb P' D':=by
 unfold Ars;rw[e1,e1,e2,e2];exact h
theorem q9X {P:Bool→Option (Nat×Int)} {k:Bool} {x:Nat} {s t:Int} (h:P k=some (x,s)) (j:Bool):ptW (upd P k (some (x,t)) j)=ptW (P j):=by
 by_cases hj:j=k
 ·subst hj;rw[q3O,h];rfl
 ·have:j=!k:=by cases j<;>cases k<;>simp_all
  subst this;rw[q4J]
theorem TW.start {w1 w2:World} {g gs rate:Nat} {sd:Int} (h:SK w1 w2 g gs rate sd 1048576 0 0 0 [] noI) (str:List UInt8):
  TW w1 (((w2.alloc (.cells #[.slice none 0 0,.slice none 0 0,.int .i64 0] 38)).alloc (.cells #[.pointer none,.pointer none] 40)).alloc (.cells #[.pointer none,.pointer none] 42)) g gs rate sd 1048576 0 0 [] w2.heap.size (.slice none 0 0) (.slice none 0 0) 0 [] str (fun _=>none) (fun _=>none) (fun i=>i=w2.heap.size+1∨i=w2.heap.size+1+1)∧
   Ars (((w2.alloc (.cells #[.slice none 0 0,.slice none 0 0,.int .i64 0] 38)).alloc (.cells #[.pointer none,.pointer none] 40)).alloc (.cells #[.pointer none,.pointer none] 42)) (w2.heap.size+1) (w2.heap.size+1+1) (fun _=>none) (fun _=>none):=by
 have hx:=q6H w2 (.cells #[.slice none 0 0,.slice none 0 0,.int .i64 0] 38) (.cells #[.pointer none,.pointer none] 40) (.cells #[.pointer none,.pointer none] 42);have hx2:=q5l (w2.alloc (.cells #[.slice none 0 0,.slice none 0 0,.int .i64 0] 38)) (.cells #[.pointer none,.pointer none] 40) (.cells #[.pointer none,.pointer none] 42);have hx3:=q0B ((w2.alloc (.cells #[.slice none 0 0,.slice none 0 0,.int .i64 0] 38)).alloc (.cells #[.pointer none,.pointer none] 40)) (.cells #[.pointer none,.pointer none] 42);have hB: ∀i,MoB w2.heap.size (.slice none 0 0) (.slice none 0 0) i→i=w2.heap.size:=fun i hi=>by
  rcases hi with hi|hi|hi
  ·exact hi
  ·cases hi
  ·cases hi
 have hN: ∀i,¬InW (fun _=>none) i:=fun i ⟨_,_,h⟩=>by cases h
 have b1:=(Blk.new w2 38 #[.slice none 0 0,.slice none 0 0,.int .i64 0]).ext hx2;have b2:=(Blk.new (w2.alloc (.cells #[.slice none 0 0,.slice none 0 0,.int .i64 0] 38)) 40 #[.pointer none,.pointer none]).ext hx3;have b3:=Blk.new ((w2.alloc (.cells #[.slice none 0 0,.slice none 0 0,.int .i64 0] 38)).alloc (.cells #[.pointer none,.pointer none] 40)) 42 #[.pointer none,.pointer none];simp only[World.size_alloc] at b2 b3;refine ⟨⟨h.more hx fun i hi=>?_,⟨[],⟨⟨0,b1⟩,⟨rfl,.inl ⟨rfl,rfl⟩⟩,⟨rfl,.inl ⟨rfl,rfl⟩⟩⟩,Nat.le_refl _⟩,okBs.nil,Nat.le_refl _,fun i hi=>⟨by rw[hB i hi];exact h.base.size,by rw[hB i hi];omega⟩,fun j x s hj=>(by cases hj),fun j x s hj=>(by cases hj),fun j x s hj=>(by cases hj),fun j x s hj=>(by cases hj)⟩,b2,b3⟩;refine .inr ?_;simp only[World.size_alloc];rcases hi with hi|hi|hi|hi
 ·rw[hB i hi];omega
 ·exact absurd hi (hN i)
 ·exact absurd hi (hN i)
 ·omega
theorem writersplay_c {ao:Option Addr} {n cap:Nat} {A:List Acm} {str:List UInt8} (sd:Int) (rate:Nat) (room:Int) (w:World) (hx:Acs w ao n cap A) (hls:str.length≤9223372036854775807) (hs0:0≤sd) (hs1:sd<18446744073709551616):
  Calls Tryz.prog 3 #[.slice ao n cap,.string ⟨str.toArray⟩,.agg #[.int .u64 sd,.float .f64 rate,.int .u16 room]] w fun e w'=>e= .returned (.bool true)∧Ext w w':=by
 have hx1:=q0B w (.cells #[.int .u64 sd,.float .f64 rate,.int .u16 room] 27);have hb1:=Blk.new w 27 #[.int .u64 sd,.float .f64 rate,.int .u16 room];have HG:=η48 (z9l 40 _ (hx.ext hx1));have HX:=η48 hx1;have HB1:=η48 hb1;have HA:=η48 (hx.ext hx1);have hlen:=hx.len;have bb1:=hx.fits;have bb2:=hx.bound;obtain ⟨z,hz⟩: ∃z,q6J A 40=z:=⟨_,rfl⟩
 rw[hz] at HG;clear hx hx1 hb1;go_enter Tryz.func3,Tryz.ntmps3;go_wp2_with fail;refine HG.out.mono ?_;rintro e w1 ⟨rfl,hx⟩;have HX1:=η48 (HX.out.trans hx);have HB2:=η48 (HB1.out.ext hx);have HA1:=η48 (HA.out.ext hx);clear hx HG HB1 HA HX
 cases z with
 | true=>
  go_wp2_with fail;refine (q6u w1).mono ?_;rintro e w2 ⟨rfl,hx⟩;have HX2:=η48 (HX1.out.trans hx);clear hx;go_wp2_with fail;go_ret;exact ⟨rfl,HX2.out⟩
 | false =>
  by_cases hl:100<str.length
  ·have hd1:decide ((100:Int)<(str.length:Int))=true:=decide_eq_true (by omega)
   go_wp2_with fail;refine (q6u w1).mono ?_;rintro e w2 ⟨rfl,hx⟩;have HX2:=η48 (HX1.out.trans hx);clear hx;go_wp2_with fail;go_ret;exact ⟨rfl,HX2.out⟩
  have hd1:decide ((100:Int)<(str.length:Int))=false:=decide_eq_false (by omega);have hng:=z6d hz;have HNg:=η48 hng.2;have hn40:n≤40:=by have:=hng.1;omega
  have hc1:=HB2.out;have k0:=hc1.cell 0;have k1:=hc1.cell 1;have k2:=hc1.cell 2;have HO:=η48 (q8d sd rate room w1 hs0 hs1);clear hng hz hc1;go_wp2_with fail;refine HO.out.mono ?_;rintro e w2 ⟨g,gs,rfl,hk⟩;have HS0:=η48 (TW.start hk str);have HQ:Hid (w1.heap.size≤w2.heap.size):=η48 hk.base.size;clear hk HO k0 k1 k2;go_wp2_with fail;obtain ⟨mb,hmb⟩: ∃mb,w2.heap.size=mb:=⟨_,rfl⟩
  go_loopw [13] (fun oi W=> ∃(j u m:Nat) (bs:List Bt) (vL vM:Value) (P D:Bool→Option (Nat×Int)),oi= .int .i64 (j:Int)∧j≤n∧u≤2024*j∧m≤j∧TW w1 W g gs rate sd 1048576 u m bs w2.heap.size vL vM m bs str P D (fun i=>i=w2.heap.size+1∨i=w2.heap.size+1+1)∧Twin P D∧Ars W (w2.heap.size+1) (w2.heap.size+1+1) P D) (fun i _=>n-(intOf i).toNat)
  case atStart=>exact ⟨0,0,0,[],_,_,_,_,rfl,Nat.zero_le _,Nat.le_refl _,Nat.le_refl _,HS0.out.1,fun k=>rfl,HS0.out.2⟩
  case round =>
   obtain ⟨j,u,m,bs,vL,vM,P,D,rfl,hj,hu,hm,htw,htn,har⟩:=hrel;obtain ⟨ba,hba⟩: ∃ba,w2.heap.size+1=ba:=⟨_,rfl⟩
   obtain ⟨bb,hbb⟩: ∃bb,ba+1=bb:=⟨_,rfl⟩
   rw[hba,hbb] at htw har⊢;have hab:ba≠bb:=by omega
   have hmq:w1.heap.size≤ba:=by have:=HQ.out;omega
   have HAB:=η48 hab;have HBB:=η48 hbb;have HMQ:=η48 hmq;have HTw:=η48 htw;have HTn:=η48 htn;have HAr:=η48 har;clear htw htn har hba hbb hab hmq hmb HS0;by_cases hlt:j<n
   ·have hd : decide ((j:Int)<(n:Int))=true:=decide_eq_true (by omega)
    have hji:(j:Int)<(n:Int):=by omega
    have q8:IntKind.i64.wrap ((j:Int)+1)=(j:Int)+1:=by rw[IntKind.wrap_i64];omega
    obtain ⟨b0,off,rfl,c0,c1,c2,c3,c4,hev,hok⟩:=(HA1.out.ext HTw.out.sk.base).at hlt;have hng:=HNg.out (A.getD j ac0) (z0Q (by omega));have hev2: ∀W,Ext w1 W→Evs W (A.getD j ac0).ao (A.getD j ac0).n (A.getD j ac0).cap (A.getD j ac0).L:=fun W kk=>by
     obtain ⟨_,_,_,_,_,_,_,_,h9,_⟩:=(HA1.out.ext kk).at hlt;exact h9
    generalize A.getD j ac0=x at*;obtain ⟨kd,st,xa,xb,eao,en,ecap,L⟩:=x;simp only at c0 c1 c2 c3 c4 hev hng hev2;have HEv:=η48 hev2;have HWe:Hid (∀e∈L,e.we<18446744073709551616):=η48 fun e he=>(hok.e e he).2.2
    have HSh:Hid (q1A L):=η48 (q5d hng.2.2);have hen:en≤20:=by have:=hng.2.1;omega
    clear hev2 hev hok hng;obtain ⟨q,hq⟩: ∃q,wr.heap.size=q:=⟨_,rfl⟩
    have hxb:=q0B wr (.cells #[.int .u8 kd,.string ⟨st.toArray⟩,.int .i64 xa,.int .i64 xb,.slice eao en ecap] 45);have hbk:=Blk.new wr 45 #[.int .u8 kd,.string ⟨st.toArray⟩,.int .i64 xa,.int .i64 xb,.slice eao en ecap];rw[hq] at hbk;have HBk:=η48 hbk;obtain ⟨X,hX⟩: ∃X:Nat→Prop,(fun i=>(i=ba∨i=bb)∨i=q)=X:=⟨_,rfl⟩
    have hXa:X ba:=by rw[←hX];exact .inl (.inl rfl)
    have hXb:X bb:=by rw[←hX];exact .inl (.inr rfl)
    have hXq:X q:=by rw[←hX];exact .inr rfl
    have HXa:=η48 hXa;have HXb:=η48 hXb;have HXq:=η48 hXq;have HT0:=η48 (HTw.out.more (X':=X) hxb fun i hi=>by rw[←hX] at hi;exact hi.imp id fun e=>by rw[World.size_alloc];omega);have HR0:=η48 (HAr.out.same (X:=fun i=>i=ba∨i=bb) (fun i hi=>hxb.block i (HTw.out.lt (.inr (.inr (.inr hi))))) (.inl rfl) (.inr rfl))
    have HDn:Hid (∀(W:World) (u' m':Nat) (bs':List Bt) (vL' vM':Value) (P' D':Bool→Option (Nat×Int)),u'≤u+2024→m'≤m+1→TW w1 W g gs rate sd 1048576 u' m' bs' w2.heap.size vL' vM' m' bs' str P' D' X→Twin P' D'→Ars W ba bb P' D'→
      ∃(j1 u m:Nat) (bs:List Bt) (vL vM:Value) (P D:Bool→Option (Nat×Int)),Value.int .i64 ((j:Int)+1)= .int .i64 (j1:Int)∧j1≤n∧u≤2024*j1∧m≤j1∧TW w1 W g gs rate sd 1048576 u m bs w2.heap.size vL vM m bs str P D (fun i=>i=ba∨i=bb)∧Twin P D∧Ars W ba bb P D):=
     η48 fun W u' m' bs' vL' vM' P' D' h1 h2 h3 h4 h5=>⟨j+1,u',m',bs',vL',vM',P',D',by go_num,by omega,by omega,by omega,h3.more (Ext.refl _) fun i hi=> .inl (by rw[←hX];exact .inl hi),h4,h5⟩
    have HRoom:Hid ((u:Int)+8024≤1048576):=η48 (by omega);have HM86:Hid (m≤86):=η48 (by omega);have HQ:=η48 hq;obtain ⟨zz,hzz⟩: ∃zz,kd.tmod 12=zz:=⟨_,rfl⟩
    obtain ⟨r1,r2⟩:=HR0.out;have HW0:=η48 hxb;clear hxb hbk hq hX hXa hXb hXq HTw HAr;by_cases h9:zz=9
    ·have d9:(zz==(9:Int))=true:=by rw[h9];rfl
     have d4:decide ((4:Int)<zz)=true:=decide_eq_true (by omega);clear h9;rcases q9W xb with hand|hand
     ·have HO1:=η48 (HT0.out.open1 (by omega) (by omega) xa false)
      obtain ⟨zo,hzo⟩: ∃zo,q5a bs str xa=zo:=⟨_,rfl⟩
      rw[hzo] at HO1;have HZo:=η48 hzo;clear hzo;clear r1 r2;go_wp2_with fail;refine HO1.out.mono ?_;rintro e w3 ⟨hs3,h3⟩;have HB3:=η48 (HBk.out.same (hs3 q HXq.out));have HR3:=η48 (HR0.out.same hs3 HXa.out HXb.out);clear HO1 hs3;rcases h3 with ⟨hz,rfl,h3⟩|⟨hz,x1,rfl,h3⟩
      ·have HO2:=η48 (h3.open2 (by omega) (by omega) xa false)
       rw[HZo.out] at HO2;have c2:=q3V HQ.out (HB3.out.cell 2);have HZ:=η48 hz;clear h3 hz;go_wp2_with fail;refine HO2.out.mono ?_;rintro e w4 ⟨hs4,h4⟩;have HB4:=η48 (HB3.out.same (hs4 q HXq.out));have HR4:=η48 (HR3.out.same hs4 HXa.out HXb.out);clear HO2 hs4;rcases h4 with ⟨hz,rfl,h4⟩|⟨hz,x2,rfl,h4⟩
       ·have HT4:=η48 h4;have HA5:=η48 (HR4.out.renew HAB.out false none none)
        have HT5:=η48 ((h4.poke HXa.out HMQ.out 0 (ptW none)).poke HXb.out (by have:=HBB.out;have:=HMQ.out;omega) 0 (ptW none));have f1:=HR4.out.1.free 0;have e1:=HR4.out.1.cell 0;have hb2:=HR4.out.2.out (fun e=>HAB.out e.symm) 0 (.pointer none);have f2:=hb2.free 0;have e2:=hb2.cell 0;clear hb2;have HTw5:=η48 (HTn.out.renew (k:=false) (v:=none) (w:=none) rfl);clear h4 hz;go_wp2_with fail
        go_roundw
        case rel=>exact HDn.out _ _ _ _ _ _ _ _ (by omega) (by omega) HT5.out HTw5.out HA5.out
        case measure=>simp[intOf];omega
       ·exact absurd hz HZ.out
      ·have HO2:=η48 (h3.open2 (by omega) (by omega) xa false)
       rw[HZo.out] at HO2;have c2:=q3V HQ.out (HB3.out.cell 2);have HZ:=η48 hz;clear h3 hz;go_wp2_with fail;refine HO2.out.mono ?_;rintro e w4 ⟨hs4,h4⟩;have HB4:=η48 (HB3.out.same (hs4 q HXq.out));have HR4:=η48 (HR3.out.same hs4 HXa.out HXb.out);clear HO2 hs4;rcases h4 with ⟨hz,rfl,h4⟩|⟨hz,x2,rfl,h4⟩
       ·exact absurd HZ.out hz
       ·have HT4:=η48 h4;have HA5:=η48 (HR4.out.renew HAB.out false (some (x1,xa)) (some (x2,xa)))
        have HT5:=η48 ((h4.poke HXa.out HMQ.out 0 (ptW (some (x1,xa)))).poke HXb.out (by have:=HBB.out;have:=HMQ.out;omega) 0 (ptW (some (x2,xa))));have f1:=HR4.out.1.free 0;have e1:=HR4.out.1.cell 0;have hb2:=HR4.out.2.out (fun e=>HAB.out e.symm) 0 (.pointer (some ⟨x1,0,none⟩));have f2:=hb2.free 0;have e2:=hb2.cell 0;clear hb2;have HTw5:=η48 (HTn.out.renew (k:=false) (v:=(some (x1,xa))) (w:=(some (x2,xa))) rfl);clear h4 hz;go_wp2_with fail
        go_roundw
        case rel=>exact HDn.out _ _ _ _ _ _ _ _ (by omega) (by omega) HT5.out HTw5.out HA5.out
        case measure=>simp[intOf];omega
     ·have HO1:=η48 (HT0.out.open1 (by omega) (by omega) xa true)
      obtain ⟨zo,hzo⟩: ∃zo,q5a bs str xa=zo:=⟨_,rfl⟩
      rw[hzo] at HO1;have HZo:=η48 hzo;clear hzo;clear r1 r2;go_wp2_with fail;refine HO1.out.mono ?_;rintro e w3 ⟨hs3,h3⟩;have HB3:=η48 (HBk.out.same (hs3 q HXq.out));have HR3:=η48 (HR0.out.same hs3 HXa.out HXb.out);clear HO1 hs3;rcases h3 with ⟨hz,rfl,h3⟩|⟨hz,x1,rfl,h3⟩
      ·have HO2:=η48 (h3.open2 (by omega) (by omega) xa true)
       rw[HZo.out] at HO2;have c2:=q3V HQ.out (HB3.out.cell 2);have HZ:=η48 hz;clear h3 hz;go_wp2_with fail;refine HO2.out.mono ?_;rintro e w4 ⟨hs4,h4⟩;have HB4:=η48 (HB3.out.same (hs4 q HXq.out));have HR4:=η48 (HR3.out.same hs4 HXa.out HXb.out);clear HO2 hs4;rcases h4 with ⟨hz,rfl,h4⟩|⟨hz,x2,rfl,h4⟩
       ·have HT4:=η48 h4;have HA5:=η48 (HR4.out.renew HAB.out true none none)
        have HT5:=η48 ((h4.poke HXa.out HMQ.out 1 (ptW none)).poke HXb.out (by have:=HBB.out;have:=HMQ.out;omega) 1 (ptW none));have f1:=HR4.out.1.free 1;have e1:=HR4.out.1.cell 1;have hb2:=HR4.out.2.out (fun e=>HAB.out e.symm) 1 (.pointer none);have f2:=hb2.free 1;have e2:=hb2.cell 1;clear hb2;have HTw5:=η48 (HTn.out.renew (k:=true) (v:=none) (w:=none) rfl);clear h4 hz;go_wp2_with fail
        go_roundw
        case rel=>exact HDn.out _ _ _ _ _ _ _ _ (by omega) (by omega) HT5.out HTw5.out HA5.out
        case measure=>simp[intOf];omega
       ·exact absurd hz HZ.out
      ·have HO2:=η48 (h3.open2 (by omega) (by omega) xa true)
       rw[HZo.out] at HO2;have c2:=q3V HQ.out (HB3.out.cell 2);have HZ:=η48 hz;clear h3 hz;go_wp2_with fail;refine HO2.out.mono ?_;rintro e w4 ⟨hs4,h4⟩;have HB4:=η48 (HB3.out.same (hs4 q HXq.out));have HR4:=η48 (HR3.out.same hs4 HXa.out HXb.out);clear HO2 hs4;rcases h4 with ⟨hz,rfl,h4⟩|⟨hz,x2,rfl,h4⟩
       ·exact absurd HZ.out hz
       ·have HT4:=η48 h4;have HA5:=η48 (HR4.out.renew HAB.out true (some (x1,xa)) (some (x2,xa)))
        have HT5:=η48 ((h4.poke HXa.out HMQ.out 1 (ptW (some (x1,xa)))).poke HXb.out (by have:=HBB.out;have:=HMQ.out;omega) 1 (ptW (some (x2,xa))));have f1:=HR4.out.1.free 1;have e1:=HR4.out.1.cell 1;have hb2:=HR4.out.2.out (fun e=>HAB.out e.symm) 1 (.pointer (some ⟨x1,0,none⟩));have f2:=hb2.free 1;have e2:=hb2.cell 1;clear hb2;have HTw5:=η48 (HTn.out.renew (k:=true) (v:=(some (x1,xa))) (w:=(some (x2,xa))) rfl);clear h4 hz;go_wp2_with fail
        go_roundw
        case rel=>exact HDn.out _ _ _ _ _ _ _ _ (by omega) (by omega) HT5.out HTw5.out HA5.out
        case measure=>simp[intOf];omega
    have d9:(zz==(9:Int))=false:=by simpa using h9
    by_cases h4:4<zz
    ·have d4 :decide ((4:Int)<zz)=true:=decide_eq_true h4
     cases hD:D true with
     | none =>
      have a2:=r2.cell 1;rw[show #[ptW (D false),ptW (D true)][1]? =some (.pointer none) by simp[hD,ptW]] at a2;clear h9 h4;rcases q9W xb with hand|hand
      ·have HO1:=η48 (HT0.out.open1 (by omega) (by omega) xa false)
       obtain ⟨zo,hzo⟩: ∃zo,q5a bs str xa=zo:=⟨_,rfl⟩
       rw[hzo] at HO1;have HZo:=η48 hzo;clear hzo;clear r1 r2;go_wp2_with fail;refine HO1.out.mono ?_;rintro e w3 ⟨hs3,h3⟩;have HB3:=η48 (HBk.out.same (hs3 q HXq.out));have HR3:=η48 (HR0.out.same hs3 HXa.out HXb.out);clear HO1 hs3;rcases h3 with ⟨hz,rfl,h3⟩|⟨hz,x1,rfl,h3⟩
       ·have HO2:=η48 (h3.open2 (by omega) (by omega) xa false)
        rw[HZo.out] at HO2;have c2:=q3V HQ.out (HB3.out.cell 2);have HZ:=η48 hz;clear h3 hz;go_wp2_with fail;refine HO2.out.mono ?_;rintro e w4 ⟨hs4,h4⟩;have HB4:=η48 (HB3.out.same (hs4 q HXq.out));have HR4:=η48 (HR3.out.same hs4 HXa.out HXb.out);clear HO2 hs4;rcases h4 with ⟨hz,rfl,h4⟩|⟨hz,x2,rfl,h4⟩
        ·have HT4:=η48 h4;have HA5:=η48 (HR4.out.renew HAB.out false none none)
         have HT5:=η48 ((h4.poke HXa.out HMQ.out 0 (ptW none)).poke HXb.out (by have:=HBB.out;have:=HMQ.out;omega) 0 (ptW none));have f1:=HR4.out.1.free 0;have e1:=HR4.out.1.cell 0;have hb2:=HR4.out.2.out (fun e=>HAB.out e.symm) 0 (.pointer none);have f2:=hb2.free 0;have e2:=hb2.cell 0;clear hb2;have HTw5:=η48 (HTn.out.renew (k:=false) (v:=none) (w:=none) rfl);clear h4 hz;go_wp2_with fail
         go_roundw
         case rel=>exact HDn.out _ _ _ _ _ _ _ _ (by omega) (by omega) HT5.out HTw5.out HA5.out
         case measure=>simp[intOf];omega
        ·exact absurd hz HZ.out
       ·have HO2:=η48 (h3.open2 (by omega) (by omega) xa false)
        rw[HZo.out] at HO2;have c2:=q3V HQ.out (HB3.out.cell 2);have HZ:=η48 hz;clear h3 hz;go_wp2_with fail;refine HO2.out.mono ?_;rintro e w4 ⟨hs4,h4⟩;have HB4:=η48 (HB3.out.same (hs4 q HXq.out));have HR4:=η48 (HR3.out.same hs4 HXa.out HXb.out);clear HO2 hs4;rcases h4 with ⟨hz,rfl,h4⟩|⟨hz,x2,rfl,h4⟩
        ·exact absurd HZ.out hz
        ·have HT4:=η48 h4;have HA5:=η48 (HR4.out.renew HAB.out false (some (x1,xa)) (some (x2,xa)))
         have HT5:=η48 ((h4.poke HXa.out HMQ.out 0 (ptW (some (x1,xa)))).poke HXb.out (by have:=HBB.out;have:=HMQ.out;omega) 0 (ptW (some (x2,xa))));have f1:=HR4.out.1.free 0;have e1:=HR4.out.1.cell 0;have hb2:=HR4.out.2.out (fun e=>HAB.out e.symm) 0 (.pointer (some ⟨x1,0,none⟩));have f2:=hb2.free 0;have e2:=hb2.cell 0;clear hb2;have HTw5:=η48 (HTn.out.renew (k:=false) (v:=(some (x1,xa))) (w:=(some (x2,xa))) rfl);clear h4 hz;go_wp2_with fail
         go_roundw
         case rel=>exact HDn.out _ _ _ _ _ _ _ _ (by omega) (by omega) HT5.out HTw5.out HA5.out
         case measure=>simp[intOf];omega
      ·have HO1:=η48 (HT0.out.open1 (by omega) (by omega) xa true)
       obtain ⟨zo,hzo⟩: ∃zo,q5a bs str xa=zo:=⟨_,rfl⟩
       rw[hzo] at HO1;have HZo:=η48 hzo;clear hzo;clear r1 r2;go_wp2_with fail;refine HO1.out.mono ?_;rintro e w3 ⟨hs3,h3⟩;have HB3:=η48 (HBk.out.same (hs3 q HXq.out));have HR3:=η48 (HR0.out.same hs3 HXa.out HXb.out);clear HO1 hs3;rcases h3 with ⟨hz,rfl,h3⟩|⟨hz,x1,rfl,h3⟩
       ·have HO2:=η48 (h3.open2 (by omega) (by omega) xa true)
        rw[HZo.out] at HO2;have c2:=q3V HQ.out (HB3.out.cell 2);have HZ:=η48 hz;clear h3 hz;go_wp2_with fail;refine HO2.out.mono ?_;rintro e w4 ⟨hs4,h4⟩;have HB4:=η48 (HB3.out.same (hs4 q HXq.out));have HR4:=η48 (HR3.out.same hs4 HXa.out HXb.out);clear HO2 hs4;rcases h4 with ⟨hz,rfl,h4⟩|⟨hz,x2,rfl,h4⟩
        ·have HT4:=η48 h4;have HA5:=η48 (HR4.out.renew HAB.out true none none)
         have HT5:=η48 ((h4.poke HXa.out HMQ.out 1 (ptW none)).poke HXb.out (by have:=HBB.out;have:=HMQ.out;omega) 1 (ptW none));have f1:=HR4.out.1.free 1;have e1:=HR4.out.1.cell 1;have hb2:=HR4.out.2.out (fun e=>HAB.out e.symm) 1 (.pointer none);have f2:=hb2.free 1;have e2:=hb2.cell 1;clear hb2;have HTw5:=η48 (HTn.out.renew (k:=true) (v:=none) (w:=none) rfl);clear h4 hz;go_wp2_with fail
         go_roundw
         case rel=>exact HDn.out _ _ _ _ _ _ _ _ (by omega) (by omega) HT5.out HTw5.out HA5.out
         case measure=>simp[intOf];omega
        ·exact absurd hz HZ.out
       ·have HO2:=η48 (h3.open2 (by omega) (by omega) xa true)
        rw[HZo.out] at HO2;have c2:=q3V HQ.out (HB3.out.cell 2);have HZ:=η48 hz;clear h3 hz;go_wp2_with fail;refine HO2.out.mono ?_;rintro e w4 ⟨hs4,h4⟩;have HB4:=η48 (HB3.out.same (hs4 q HXq.out));have HR4:=η48 (HR3.out.same hs4 HXa.out HXb.out);clear HO2 hs4;rcases h4 with ⟨hz,rfl,h4⟩|⟨hz,x2,rfl,h4⟩
        ·exact absurd HZ.out hz
        ·have HT4:=η48 h4;have HA5:=η48 (HR4.out.renew HAB.out true (some (x1,xa)) (some (x2,xa)))
         have HT5:=η48 ((h4.poke HXa.out HMQ.out 1 (ptW (some (x1,xa)))).poke HXb.out (by have:=HBB.out;have:=HMQ.out;omega) 1 (ptW (some (x2,xa))));have f1:=HR4.out.1.free 1;have e1:=HR4.out.1.cell 1;have hb2:=HR4.out.2.out (fun e=>HAB.out e.symm) 1 (.pointer (some ⟨x1,0,none⟩));have f2:=hb2.free 1;have e2:=hb2.cell 1;clear hb2;have HTw5:=η48 (HTn.out.renew (k:=true) (v:=(some (x1,xa))) (w:=(some (x2,xa))) rfl);clear h4 hz;go_wp2_with fail
         go_roundw
         case rel=>exact HDn.out _ _ _ _ _ _ _ _ (by omega) (by omega) HT5.out HTw5.out HA5.out
         case measure=>simp[intOf];omega
     | some v=>
      obtain ⟨y,t⟩:=v;have e2:=r2.cell 1;rw[show #[ptW (D false),ptW (D true)][1]? =some (.pointer (some ⟨y,0,none⟩)) by simp[hD,ptW]] at e2;by_cases h8:8<zz
      ·have d8:decide ((8:Int)<zz)=true:=decide_eq_true h8
       clear h9 h4 h8;have HO1:=η48 (HT0.out.app1 HM86.out HRoom.out (by omega) HEv.out HSh.out HWe.out);obtain ⟨y1,y2,hy⟩: ∃y1 y2,apN bs str L=(y1,y2):=⟨_,_,rfl⟩
       rw[hy] at HO1;simp only at HO1;go_wp2_with fail;refine HO1.out.mono ?_;rintro e w3 ⟨rfl,h3,hs3⟩;have HB3:=η48 (HBk.out.same (hs3 q HXq.out));have HR3:=η48 (HR0.out.same hs3 HXa.out HXb.out);have HO2:=η48 (h3.app2 (by omega) (by omega) HEv.out HSh.out HWe.out);rw[hy] at HO2;simp only at HO2;have c4:=q3V HQ.out (HB3.out.cell 4);clear HO1 hs3 h3 hy;go_wp2_with fail;refine HO2.out.mono ?_;rintro e w4 ⟨rfl,hs4,vL',vM',h4⟩;have HR4:=η48 (HR3.out.same hs4 HXa.out HXb.out);have HT4:=η48 h4;clear HO2 hs4 h4;go_wp2_with fail
       go_roundw
       case rel=>exact HDn.out _ _ _ _ _ _ _ _ (by omega) (by omega) HT4.out HTn.out HR4.out
       case measure=>simp[intOf];omega
      ·have d8:decide ((8:Int)<zz)=false:=decide_eq_false h8
       clear h9 h4 h8;obtain ⟨x1,hP⟩:=HTn.out.some hD;have a1:=r1.cell 1;have a2:=r2.cell 1;have HO1:=η48 ((HT0.out.grow (Ext.refl _).drew).write1 HM86.out HRoom.out (by omega) hP HEv.out (by omega) HSh.out HWe.out);obtain ⟨y1,y2,y3,hy⟩: ∃y1 y2 y3,wrN bs str t L=(y1,y2,y3):=⟨_,_,_,rfl⟩
       rw[hy] at HO1;simp only at HO1;rw[show #[ptW (P false),ptW (P true)][1]? =some (.pointer (some ⟨x1,0,none⟩)) by simp[hP,ptW]] at a1;rw[show #[ptW (D false),ptW (D true)][1]? =some (.pointer (some ⟨y,0,none⟩)) by simp[hD,ptW]] at a2;have d1:=q0A (Ext.refl _).drew a1;have c4:=q3V HQ.out (HBk.out.cell 4);have d4:=q0A (Ext.refl _).drew c4;clear r1 r2;go_wp2_with fail
       go_region_held3 (fun W=>W.cell? ⟨ba,1,none⟩=some (.pointer (some ⟨x1,0,none⟩))∧W.cell? ⟨wr.heap.size,4,none⟩=some (.slice eao en ecap))
        (first|exact HC3.out|exact ⟨d1,d4⟩)
        (first|(go_at_call 14;refine (HO1.out).mono ?_;rintro e w3 ⟨rfl,h3,hs3⟩;have HB3:=η48 (HBk.out.same (hs3 q HXq.out));have HR3:=η48 (HR0.out.same hs3 HXa.out HXb.out);have HT3:=η48 h3;have HC3:Hid (w3.cell? ⟨ba,1,none⟩=some (.pointer (some ⟨x1,0,none⟩))∧w3.cell? ⟨wr.heap.size,4,none⟩=some (.slice eao en ecap)):=η48 ⟨(World.cell?_of_block (a:=⟨ba,1,none⟩) (hs3 ba HXa.out)).trans a1,q3V HQ.out ((HB3.out).cell 4)⟩;clear h3 hs3))
       have HO2:=η48 ((HT3.out.grow (Ext.refl _).drew).write2 (by omega) (by omega) hD HEv.out (by omega) HSh.out HWe.out);rw[hy] at HO2;simp only at HO2;have b2:=HR3.out.2.cell 1;rw[show #[ptW (D false),ptW (D true)][1]? =some (.pointer (some ⟨y,0,none⟩)) by simp[hD,ptW]] at b2;have c5:=q3V HQ.out (HB3.out.cell 4);have d2:=q0A (Ext.refl _).drew b2;have d5:=q0A (Ext.refl _).drew c5;have HC0:=η48 hD;have HP0:=η48 hP;clear HC3 d1 d4 a1 c4 HO1;go_wp2_with fail
       go_region_held3 (fun W=>W.cell? ⟨bb,1,none⟩=some (.pointer (some ⟨y,0,none⟩))∧W.cell? ⟨wr.heap.size,4,none⟩=some (.slice eao en ecap))
        (first|exact HC4.out|exact ⟨d2,d5⟩)
        (first|(go_at_call 15;refine (HO2.out).mono ?_;rintro e w4 ⟨rfl,hs4,vL',vM',h4⟩;have HB4:=η48 (HB3.out.same (hs4 q HXq.out));have HR4:=η48 (HR3.out.same hs4 HXa.out HXb.out);have HT4:=η48 h4;have HC4:Hid (w4.cell? ⟨bb,1,none⟩=some (.pointer (some ⟨y,0,none⟩))∧w4.cell? ⟨wr.heap.size,4,none⟩=some (.slice eao en ecap)):=η48 ⟨(World.cell?_of_block (a:=⟨bb,1,none⟩) (hs4 bb HXb.out)).trans b2,q3V HQ.out ((HB4.out).cell 4)⟩;clear h4 hs4))
       have g1:=HR4.out.1.cell 1;rw[show #[ptW (P false),ptW (P true)][1]? =some (.pointer (some ⟨x1,0,none⟩)) by simp[hP,ptW]] at g1;obtain ⟨g2,_⟩:=HC4.out;have hpi:=HT4.out.pI true _ _ (q3O _ _ _);have hdi:=HT4.out.dI true _ _ (q3O _ _ _);have g3:=hdi.1.cell 2;have HAt:=η48 (fun (x:ExtOf w4)=>(z7B (WrI.same hpi.1 (x.h.block _ hpi.1.lt))).mono fun e w' ⟨(h1:e=_),h2⟩=>(⟨h1,h2▸Ext.refl _⟩:_∧Ext x.w' w'));have HAr4:=η48 (HR4.out.put (fun j=>q9X (t:=wrA bs str t L) hP j) (fun j=>q9X (t:=wrA bs str t L) hD j));have HTw4:Hid (Twin (upd P true (some (x1,wrA bs str t L))) (upd D true (some (y,wrA bs str t L)))):=η48 (HTn.out.renew rfl);obtain ⟨aw,haw⟩: ∃aw,wrA bs str t L=aw:=⟨_,rfl⟩
       rw[haw] at g3 HAt;have u1:=q0D g1;have u2:=q0D g2;have u3:=q0D g3;clear HC4 d2 d5 b2 c5 HO2 hpi hdi hP hD g1 g2 g3 haw hy;go_wp2_with fail;refine q0E (by kernel_rfl) (by kernel_rfl) ?_
       repeat (go_big_quiet_step (fail))
       go_big_quiet_step (exact Calls.quiet_ext (HAt.out _))
       repeat (go_big_quiet_step (fail))
       refine wpQuiet_nil ?_;intro w5 hw5;have HT5:=η48 (HT4.out.grow hw5);have HR5:Hid (Ars w5 ba bb _ _):=η48 (HAr4.out.same (X:=X) (fun i hi=>hw5.block i (HT4.out.lt (.inr (.inr (.inr hi))))) HXa.out HXb.out);clear hw5 u1 u2 u3;go_wp2_with fail
       go_roundw
       case rel=>exact HDn.out _ _ _ _ _ _ _ _ (by omega) (by omega) HT5.out HTw4.out HR5.out
       case measure=>simp[intOf];omega
    ·have d4 :decide ((4:Int)<zz)=false:=decide_eq_false h4
     have d8:decide ((8:Int)<zz)=false:=decide_eq_false (by omega)
     cases hD:D false with
     | none =>
      have a2:=r2.cell 0;rw[show #[ptW (D false),ptW (D true)][0]? =some (.pointer none) by simp[hD,ptW]] at a2;clear h9 h4;rcases q9W xb with hand|hand
      ·have HO1:=η48 (HT0.out.open1 (by omega) (by omega) xa false)
       obtain ⟨zo,hzo⟩: ∃zo,q5a bs str xa=zo:=⟨_,rfl⟩
       rw[hzo] at HO1;have HZo:=η48 hzo;clear hzo;clear r1 r2;go_wp2_with fail;refine HO1.out.mono ?_;rintro e w3 ⟨hs3,h3⟩;have HB3:=η48 (HBk.out.same (hs3 q HXq.out));have HR3:=η48 (HR0.out.same hs3 HXa.out HXb.out);clear HO1 hs3;rcases h3 with ⟨hz,rfl,h3⟩|⟨hz,x1,rfl,h3⟩
       ·have HO2:=η48 (h3.open2 (by omega) (by omega) xa false)
        rw[HZo.out] at HO2;have c2:=q3V HQ.out (HB3.out.cell 2);have HZ:=η48 hz;clear h3 hz;go_wp2_with fail;refine HO2.out.mono ?_;rintro e w4 ⟨hs4,h4⟩;have HB4:=η48 (HB3.out.same (hs4 q HXq.out));have HR4:=η48 (HR3.out.same hs4 HXa.out HXb.out);clear HO2 hs4;rcases h4 with ⟨hz,rfl,h4⟩|⟨hz,x2,rfl,h4⟩
        ·have HT4:=η48 h4;have HA5:=η48 (HR4.out.renew HAB.out false none none)
         have HT5:=η48 ((h4.poke HXa.out HMQ.out 0 (ptW none)).poke HXb.out (by have:=HBB.out;have:=HMQ.out;omega) 0 (ptW none));have f1:=HR4.out.1.free 0;have e1:=HR4.out.1.cell 0;have hb2:=HR4.out.2.out (fun e=>HAB.out e.symm) 0 (.pointer none);have f2:=hb2.free 0;have e2:=hb2.cell 0;clear hb2;have HTw5:=η48 (HTn.out.renew (k:=false) (v:=none) (w:=none) rfl);clear h4 hz;go_wp2_with fail
         go_roundw
         case rel=>exact HDn.out _ _ _ _ _ _ _ _ (by omega) (by omega) HT5.out HTw5.out HA5.out
         case measure=>simp[intOf];omega
        ·exact absurd hz HZ.out
       ·have HO2:=η48 (h3.open2 (by omega) (by omega) xa false)
        rw[HZo.out] at HO2;have c2:=q3V HQ.out (HB3.out.cell 2);have HZ:=η48 hz;clear h3 hz;go_wp2_with fail;refine HO2.out.mono ?_;rintro e w4 ⟨hs4,h4⟩;have HB4:=η48 (HB3.out.same (hs4 q HXq.out));have HR4:=η48 (HR3.out.same hs4 HXa.out HXb.out);clear HO2 hs4;rcases h4 with ⟨hz,rfl,h4⟩|⟨hz,x2,rfl,h4⟩
        ·exact absurd HZ.out hz
        ·have HT4:=η48 h4;have HA5:=η48 (HR4.out.renew HAB.out false (some (x1,xa)) (some (x2,xa)))
         have HT5:=η48 ((h4.poke HXa.out HMQ.out 0 (ptW (some (x1,xa)))).poke HXb.out (by have:=HBB.out;have:=HMQ.out;omega) 0 (ptW (some (x2,xa))));have f1:=HR4.out.1.free 0;have e1:=HR4.out.1.cell 0;have hb2:=HR4.out.2.out (fun e=>HAB.out e.symm) 0 (.pointer (some ⟨x1,0,none⟩));have f2:=hb2.free 0;have e2:=hb2.cell 0;clear hb2;have HTw5:=η48 (HTn.out.renew (k:=false) (v:=(some (x1,xa))) (w:=(some (x2,xa))) rfl);clear h4 hz;go_wp2_with fail
         go_roundw
         case rel=>exact HDn.out _ _ _ _ _ _ _ _ (by omega) (by omega) HT5.out HTw5.out HA5.out
         case measure=>simp[intOf];omega
      ·have HO1:=η48 (HT0.out.open1 (by omega) (by omega) xa true)
       obtain ⟨zo,hzo⟩: ∃zo,q5a bs str xa=zo:=⟨_,rfl⟩
       rw[hzo] at HO1;have HZo:=η48 hzo;clear hzo;clear r1 r2;go_wp2_with fail;refine HO1.out.mono ?_;rintro e w3 ⟨hs3,h3⟩;have HB3:=η48 (HBk.out.same (hs3 q HXq.out));have HR3:=η48 (HR0.out.same hs3 HXa.out HXb.out);clear HO1 hs3;rcases h3 with ⟨hz,rfl,h3⟩|⟨hz,x1,rfl,h3⟩
       ·have HO2:=η48 (h3.open2 (by omega) (by omega) xa true)
        rw[HZo.out] at HO2;have c2:=q3V HQ.out (HB3.out.cell 2);have HZ:=η48 hz;clear h3 hz;go_wp2_with fail;refine HO2.out.mono ?_;rintro e w4 ⟨hs4,h4⟩;have HB4:=η48 (HB3.out.same (hs4 q HXq.out));have HR4:=η48 (HR3.out.same hs4 HXa.out HXb.out);clear HO2 hs4;rcases h4 with ⟨hz,rfl,h4⟩|⟨hz,x2,rfl,h4⟩
        ·have HT4:=η48 h4;have HA5:=η48 (HR4.out.renew HAB.out true none none)
         have HT5:=η48 ((h4.poke HXa.out HMQ.out 1 (ptW none)).poke HXb.out (by have:=HBB.out;have:=HMQ.out;omega) 1 (ptW none));have f1:=HR4.out.1.free 1;have e1:=HR4.out.1.cell 1;have hb2:=HR4.out.2.out (fun e=>HAB.out e.symm) 1 (.pointer none);have f2:=hb2.free 1;have e2:=hb2.cell 1;clear hb2;have HTw5:=η48 (HTn.out.renew (k:=true) (v:=none) (w:=none) rfl);clear h4 hz;go_wp2_with fail
         go_roundw
         case rel=>exact HDn.out _ _ _ _ _ _ _ _ (by omega) (by omega) HT5.out HTw5.out HA5.out
         case measure=>simp[intOf];omega
        ·exact absurd hz HZ.out
       ·have HO2:=η48 (h3.open2 (by omega) (by omega) xa true)
        rw[HZo.out] at HO2;have c2:=q3V HQ.out (HB3.out.cell 2);have HZ:=η48 hz;clear h3 hz;go_wp2_with fail;refine HO2.out.mono ?_;rintro e w4 ⟨hs4,h4⟩;have HB4:=η48 (HB3.out.same (hs4 q HXq.out));have HR4:=η48 (HR3.out.same hs4 HXa.out HXb.out);clear HO2 hs4;rcases h4 with ⟨hz,rfl,h4⟩|⟨hz,x2,rfl,h4⟩
        ·exact absurd HZ.out hz
        ·have HT4:=η48 h4;have HA5:=η48 (HR4.out.renew HAB.out true (some (x1,xa)) (some (x2,xa)))
         have HT5:=η48 ((h4.poke HXa.out HMQ.out 1 (ptW (some (x1,xa)))).poke HXb.out (by have:=HBB.out;have:=HMQ.out;omega) 1 (ptW (some (x2,xa))));have f1:=HR4.out.1.free 1;have e1:=HR4.out.1.cell 1;have hb2:=HR4.out.2.out (fun e=>HAB.out e.symm) 1 (.pointer (some ⟨x1,0,none⟩));have f2:=hb2.free 1;have e2:=hb2.cell 1;clear hb2;have HTw5:=η48 (HTn.out.renew (k:=true) (v:=(some (x1,xa))) (w:=(some (x2,xa))) rfl);clear h4 hz;go_wp2_with fail
         go_roundw
         case rel=>exact HDn.out _ _ _ _ _ _ _ _ (by omega) (by omega) HT5.out HTw5.out HA5.out
         case measure=>simp[intOf];omega
     | some v=>
      obtain ⟨y,t⟩:=v;have e2:=r2.cell 0;rw[show #[ptW (D false),ptW (D true)][0]? =some (.pointer (some ⟨y,0,none⟩)) by simp[hD,ptW]] at e2;clear h9 h4;obtain ⟨x1,hP⟩:=HTn.out.some hD;have a1:=r1.cell 0;have a2:=r2.cell 0;have HO1:=η48 ((HT0.out.grow (Ext.refl _).drew).write1 HM86.out HRoom.out (by omega) hP HEv.out (by omega) HSh.out HWe.out);obtain ⟨y1,y2,y3,hy⟩: ∃y1 y2 y3,wrN bs str t L=(y1,y2,y3):=⟨_,_,_,rfl⟩
      rw[hy] at HO1;simp only at HO1;rw[show #[ptW (P false),ptW (P true)][0]? =some (.pointer (some ⟨x1,0,none⟩)) by simp[hP,ptW]] at a1;rw[show #[ptW (D false),ptW (D true)][0]? =some (.pointer (some ⟨y,0,none⟩)) by simp[hD,ptW]] at a2;have d1:=q0A (Ext.refl _).drew a1;have c4:=q3V HQ.out (HBk.out.cell 4);have d4:=q0A (Ext.refl _).drew c4;clear r1 r2;go_wp2_with fail
      go_region_held3 (fun W=>W.cell? ⟨ba,0,none⟩=some (.pointer (some ⟨x1,0,none⟩))∧W.cell? ⟨wr.heap.size,4,none⟩=some (.slice eao en ecap))
       (first|exact HC3.out|exact ⟨d1,d4⟩)
       (first|(go_at_call 14;refine (HO1.out).mono ?_;rintro e w3 ⟨rfl,h3,hs3⟩;have HB3:=η48 (HBk.out.same (hs3 q HXq.out));have HR3:=η48 (HR0.out.same hs3 HXa.out HXb.out);have HT3:=η48 h3;have HC3:Hid (w3.cell? ⟨ba,0,none⟩=some (.pointer (some ⟨x1,0,none⟩))∧w3.cell? ⟨wr.heap.size,4,none⟩=some (.slice eao en ecap)):=η48 ⟨(World.cell?_of_block (a:=⟨ba,0,none⟩) (hs3 ba HXa.out)).trans a1,q3V HQ.out ((HB3.out).cell 4)⟩;clear h3 hs3))
      have HO2:=η48 ((HT3.out.grow (Ext.refl _).drew).write2 (by omega) (by omega) hD HEv.out (by omega) HSh.out HWe.out);rw[hy] at HO2;simp only at HO2;have b2:=HR3.out.2.cell 0;rw[show #[ptW (D false),ptW (D true)][0]? =some (.pointer (some ⟨y,0,none⟩)) by simp[hD,ptW]] at b2;have c5:=q3V HQ.out (HB3.out.cell 4);have d2:=q0A (Ext.refl _).drew b2;have d5:=q0A (Ext.refl _).drew c5;have HC0:=η48 hD;have HP0:=η48 hP;clear HC3 d1 d4 a1 c4 HO1;go_wp2_with fail
      go_region_held3 (fun W=>W.cell? ⟨bb,0,none⟩=some (.pointer (some ⟨y,0,none⟩))∧W.cell? ⟨wr.heap.size,4,none⟩=some (.slice eao en ecap))
       (first|exact HC4.out|exact ⟨d2,d5⟩)
       (first|(go_at_call 15;refine (HO2.out).mono ?_;rintro e w4 ⟨rfl,hs4,vL',vM',h4⟩;have HB4:=η48 (HB3.out.same (hs4 q HXq.out));have HR4:=η48 (HR3.out.same hs4 HXa.out HXb.out);have HT4:=η48 h4;have HC4:Hid (w4.cell? ⟨bb,0,none⟩=some (.pointer (some ⟨y,0,none⟩))∧w4.cell? ⟨wr.heap.size,4,none⟩=some (.slice eao en ecap)):=η48 ⟨(World.cell?_of_block (a:=⟨bb,0,none⟩) (hs4 bb HXb.out)).trans b2,q3V HQ.out ((HB4.out).cell 4)⟩;clear h4 hs4))
      have g1:=HR4.out.1.cell 0;rw[show #[ptW (P false),ptW (P true)][0]? =some (.pointer (some ⟨x1,0,none⟩)) by simp[hP,ptW]] at g1;obtain ⟨g2,_⟩:=HC4.out;have hpi:=HT4.out.pI false _ _ (q3O _ _ _);have hdi:=HT4.out.dI false _ _ (q3O _ _ _);have g3:=hdi.1.cell 2;have HAt:=η48 (fun (x:ExtOf w4)=>(z7B (WrI.same hpi.1 (x.h.block _ hpi.1.lt))).mono fun e w' ⟨(h1:e=_),h2⟩=>(⟨h1,h2▸Ext.refl _⟩:_∧Ext x.w' w'));have HAr4:=η48 (HR4.out.put (fun j=>q9X (t:=wrA bs str t L) hP j) (fun j=>q9X (t:=wrA bs str t L) hD j));have HTw4:Hid (Twin (upd P false (some (x1,wrA bs str t L))) (upd D false (some (y,wrA bs str t L)))):=η48 (HTn.out.renew rfl);obtain ⟨aw,haw⟩: ∃aw,wrA bs str t L=aw:=⟨_,rfl⟩
      rw[haw] at g3 HAt;have u1:=q0D g1;have u2:=q0D g2;have u3:=q0D g3;clear HC4 d2 d5 b2 c5 HO2 hpi hdi hP hD g1 g2 g3 haw hy;go_wp2_with fail;refine q0E (by kernel_rfl) (by kernel_rfl) ?_
      repeat (go_big_quiet_step (fail))
      go_big_quiet_step (exact Calls.quiet_ext (HAt.out _))
      repeat (go_big_quiet_step (fail))
      refine wpQuiet_nil ?_;intro w5 hw5;have HT5:=η48 (HT4.out.grow hw5);have HR5:Hid (Ars w5 ba bb _ _):=η48 (HAr4.out.same (X:=X) (fun i hi=>hw5.block i (HT4.out.lt (.inr (.inr (.inr hi))))) HXa.out HXb.out);clear hw5 u1 u2 u3;go_wp2_with fail
      go_roundw
      case rel=>exact HDn.out _ _ _ _ _ _ _ _ (by omega) (by omega) HT5.out HTw4.out HR5.out
      case measure=>simp[intOf];omega
   ·obtain rfl:j=n:=by omega
    have hd:decide ((j:Int)<(j:Int))=false:=decide_eq_false (by omega);have HAl:=η48 (HTw.out.sk.all (by omega));obtain ⟨ms,hmo,_⟩:=HTw.out.mo;obtain ⟨la,lc,rfl⟩:=q0G hmo.rowL;have HMo:=η48 hmo;clear hmo HNg HA1 hlt;go_wp2_with fail;refine HAl.out.mono ?_;rintro e w3 ⟨vA,rfl,h1,h2,h3,h4⟩;obtain ⟨aa,ac,rfl⟩:=q0G h3;have hmo3:=HMo.out.same fun i hi=>h2 i (.inl hi)
    obtain ⟨su,hmb⟩:=hmo3.blk;have k0:=hmb.cell 0;have HTd:=η48 (z9u w3 (q5r h3).1 (q5r hmo3.rowL).1);have HX3:=η48 (HX1.out.trans h1.base);clear h1 h2 h3 h4 hmo3 hmb HAl;go_wp2_with fail;refine HTd.out.mono ?_;rintro e w4 ⟨rfl,hx⟩;have HX4:=η48 (HX3.out.trans hx);clear hx HTd k0;go_wp2_with fail;refine (q6u w4).mono ?_;rintro e w5 ⟨rfl,hx⟩;have HX5:=η48 (HX4.out.trans hx);clear hx;go_wp2_with fail;go_ret;exact ⟨rfl,HX5.out⟩
end Go.Proofs.YthdekbmdkpcooaaGreatDoor
