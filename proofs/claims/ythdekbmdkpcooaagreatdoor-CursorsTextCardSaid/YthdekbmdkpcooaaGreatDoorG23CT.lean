/- Walks. -/
import Derived.Test.YthdekbmdkpcooaaGreatDoorG22CT
import Derived.StillTailTactics
set_option linter.unusedVariables false
set_option linter.unusedSimpArgs false
set_option maxRecDepth 100000
set_option maxHeartbeats 1600000
namespace Go.Proofs.YthdekbmdkpcooaaGreatDoor
theorem η23 {p:Prop} (h:p):Go.RowKit.Hid p:=Lib.hid h
section
open Go.RowKit
def CrR (w1:World) (g m:Nat) (kv:Value) (L:List FE) (σ:DM) (xs:List Int) (k:Nat) (wr:World):Prop:=
 ∃Lk,DkI wr g m kv Lk (q0P (q4D σ.L xs k):Int) {σ with L:=q4D σ.L xs k}∧(∀j,InF m Lk j→InF m L j)∧OffS (MutD g m L) w1 wr
theorem CrR.start {w1:World} {g m:Nat} {kv:Value} {L:List FE} {σ:DM} (h:DkI w1 g m kv L (q0P σ.L:Int) σ) (xs:List Int):CrR w1 g m kv L σ xs 0 w1:=by
 unfold CrR;rw[z6C];exact ⟨L,h,fun j hj=>hj,OffS.refl _ _⟩
theorem y1R {L:List FE} {nm:List UInt8} {f:FM} (h:q0H FM.nm nm (L.map FE.f)=some f): ∃e,q0H FE.nm nm L=some e∧e.f=f:=by
 rw[q1m (k:=FE.nm) (k':=FM.nm) (h:=FE.f) (fun x=>rfl)] at h
 cases hf:q0H FE.nm nm L with
 |none=>rw[hf] at h;cases h
 |some e=>rw[hf] at h;exact ⟨e,rfl,Option.some.inj h⟩
theorem z3Q (f:FM) (x:Int) (n:Int) (hn:n=(f.sy:Int)+min (max x 0) ((f.da.length:Int)-f.sy)) (hs:f.sy≤f.da.length):({q5b n.toNat f with sy:=(q5b n.toNat f).da.length}:FM)=q3r f x:=by
 have e1:n.toNat=f.sy+min (max x 0).toNat (f.da.length-f.sy):=by omega
 unfold q5b q3r;rw[e1]
 congr 1
 simp;omega
theorem CrR.step {w1 wr wd wc:World} {g m:Nat} {kv:Value} {L Lk:List FE} {σ:DM} {xs:List Int} {k:Nat} (ho:okD σ) (hk:k<σ.L.length) (hi:DkI wr g m kv Lk (q0P (q4D σ.L xs k):Int) {σ with L:=q4D σ.L xs k}) (hin: ∀j,InF m Lk j→InF m L j) (hoff:OffS (MutD g m L) w1 wr)
  (hwd:OffS (MutD g m L) wr wd) {e e':FE} (hf:q0H FE.nm σ.L[k].nm Lk=some e) (hef:e.f=σ.L[k]) {n:Int} (hn:n=(e.f.sy:Int)+min (max (xs.getD k 0) 0) ((e.f.da.length:Int)-e.f.sy)) (h1:e'.f=q5b n.toNat e.f) (h2:e'.b=e.b) (h3: ∀i,e'.v.ownBlock=some i→e.v.ownBlock=some i)
  (hd:DkI wc g m kv (q1N FE.nm σ.L[k].nm (fun _=>e') Lk) (q0P (q1N FM.nm σ.L[k].nm (q5b n.toNat) (q4D σ.L xs k)):Int) {σ with L:=q1N FM.nm σ.L[k].nm (q5b n.toNat) (q4D σ.L xs k)}) (hc:OffS (MutD g m Lk) wd wc):
  CrR w1 g m kv L σ xs (k+1) (wc.setCell ⟨e'.b,1,none⟩ (.int .i64 (e'.f.da.length:Int))):=by
 obtain ⟨hfm,hst⟩:=z0S xs hk ho.ord;have hsy:=ho.sy _ (List.getElem_mem hk);have hoL:q3E FM.nm (q4D σ.L xs k):=z2b ho.ord (z1M _ _ _);obtain ⟨he,hen⟩:=q0O hf;have hn':FE.nm e'=σ.L[k].nm:=by show e'.f.nm=_;rw[h1];exact hen
 have hf':q0H FE.nm σ.L[k].nm (q1N FE.nm σ.L[k].nm (fun _=>e') Lk)=some e':=q5K hd.fs.ord ((q4f (f:=fun _=>e') hi.fs.ord hf).2 (.inl rfl)) hn';have he':=(q0O hf').1;have hgb:=hd.neB he';have hrowb:e'.v.ownBlock≠some e'.b:=(hd.fs.blk e' he').own (hd.fs.row e' he') (by decide);have hcr:({q5b n.toNat σ.L[k] with sy:=(q5b n.toNat σ.L[k]).da.length}:FM)=q3r σ.L[k] (xs.getD k 0):=z3Q _ _ _ (by rw[←hef];exact hn) hsy;have hup:q1N FM.nm σ.L[k].nm (fun f=>{f with sy:=f.da.length}) (q1N FM.nm σ.L[k].nm (q5b n.toNat) (q4D σ.L xs k))=q4D σ.L xs (k+1):=by
  rw[z3T (h:=q5b n.toNat) (fun y=>rfl)];exact hst _ hcr
 have hus:q0P (q1N FM.nm σ.L[k].nm (q5b n.toNat) (q4D σ.L xs k))=q0P (q4D σ.L xs (k+1)):=by
  have o2:q3E FM.nm (q1N FM.nm σ.L[k].nm (q5b n.toNat) (q4D σ.L xs k)):=q9J hoL fun y hy=>hy
  have f2:q0H FM.nm σ.L[k].nm (q1N FM.nm σ.L[k].nm (q5b n.toNat) (q4D σ.L xs k))=some (q5b n.toNat σ.L[k]):=q5K o2 ((q4f (f:=q5b n.toNat) hoL hfm).2 (.inl rfl)) rfl;have:=q6V (fun f:FM=>f.da.length) (f:=fun f:FM=>{f with sy:=f.da.length}) o2 f2;rw[←hup];exact (Nat.add_right_cancel (show q5d (fun f:FM=>f.da.length) _+(q5b n.toNat σ.L[k]).da.length=q5d (fun f:FM=>f.da.length) _+(q5b n.toNat σ.L[k]).da.length from this)).symm
 have hkeepw: ∀i,i<wc.heap.size→i≠g→i≠e'.b→e'.v.ownBlock≠some i→(wc.setCell ⟨e'.b,1,none⟩ (.int .i64 (e'.f.da.length:Int))).heap[i]? =wc.heap[i]? :=fun i _ _ hb _=>q0L _ _ hb
 have hin': ∀j,InF m (q1N FE.nm σ.L[k].nm (fun _=>e') Lk) j→InF m L j:=fun j hj=>by
  rcases InF.upd hi.fs.ord hf h2 hj with h|h
  ·exact hin j h
  ·exact hin j (.inr ⟨e,he,.inr (h3 j h)⟩)
 have hstep:=hd.fileSet (σ':={σ with L:=q4D σ.L xs (k+1)}) (us':=(q0P (q4D σ.L xs (k+1)):Int)) hf' ⟨{e'.f with sy:=e'.f.da.length},e'.b,e'.v⟩ hn' rfl hkeepw (by rw[←hus];exact hd.head.out hgb _ _) ((hd.fs.blk e' he').set 1 _) ((hd.fs.row e' he').same fun i hi2=>q0L _ _ fun e1=>hrowb (e1▸hi2)) (fun i hi2=> .inl hi2) (fun f=>{f with sy:=f.da.length}) rfl hup.symm rfl;refine ⟨_,hstep,fun j hj=>?_,(hoff.trans hwd).trans ((hc.mono fun i _ hm=>?_).trans ?_)⟩
 ·rcases InF.upd (e':=(⟨{e'.f with sy:=e'.f.da.length},e'.b,e'.v⟩:FE)) hd.fs.ord hf' rfl hj with h|h
  ·exact hin' j h
  ·exact hin j (.inr ⟨e,he,.inr (h3 j h)⟩)
 ·rcases hm with rfl|hm
  ·exact .inl rfl
  ·exact .inr (hin i hm)
 ·have hof:OffS (MutD g m (q1N FE.nm σ.L[k].nm (fun _=>e') Lk)) wc (wc.setCell ⟨e'.b,1,none⟩ (.int .i64 (e'.f.da.length:Int))):=q6J he' (by simp[World.setCell]) rfl rfl rfl hkeepw
  exact hof.mono fun i _ hm=>hm.elim (fun h=>Or.inl h) (fun h=>Or.inr (hin' i h))
theorem CrR.done {w1 wr:World} {g m:Nat} {kv:Value} {L:List FE} {σ:DM} {xs:List Int} (h:CrR w1 g m kv L σ xs σ.L.length wr):
  ∃ L',DkI ((((wr.setCell ⟨g,6,none⟩ (.bool true)).setCell ⟨g,7,none⟩ (.bool false)).setCell ⟨g,8,none⟩ (.int .i64 0)).setCell ⟨g,9,none⟩ (.slice none 0 0)) g m (.slice none 0 0) L' (q0P (q1a σ.L xs):Int) (z2p σ xs)∧(∀i,InF m L' i→InF m L i)∧
   OffS (MutD g m L) w1 ((((wr.setCell ⟨g,6,none⟩ (.bool true)).setCell ⟨g,7,none⟩ (.bool false)).setCell ⟨g,8,none⟩ (.int .i64 0)).setCell ⟨g,9,none⟩ (.slice none 0 0)):=by
 obtain ⟨Lk,hi,hin,hoff⟩:=h;rw[z7U] at hi;have hw: ∀i,i<wr.heap.size→i≠g→((((wr.setCell ⟨g,6,none⟩ (.bool true)).setCell ⟨g,7,none⟩ (.bool false)).setCell ⟨g,8,none⟩ (.int .i64 0)).setCell ⟨g,9,none⟩ (.slice none 0 0)).heap[i]? =wr.heap[i]? :=by
  intro i _ hg;rw[q0L _ _ hg,q0L _ _ hg,q0L _ _ hg,q0L _ _ hg]
 refine ⟨Lk,hi.headKv hw ((((hi.head.set 6 _).set 7 _).set 8 _).set 9 _) rfl (Own.nil _ _ _ _),hin,hoff.trans ⟨rfl,rfl,rfl,by simp[World.setCell],fun i hl hn=>hw i hl fun e=>hn (.inl e)⟩⟩
theorem z9a {w:World} {g m:Nat} {kv:Value} {L:List FE} {σ:DM} (h:DkI w g m kv L (q0P σ.L:Int) σ) (ho:okD σ) (hup:σ.down=false) (ka:Option Addr) (kn kc:Nat) (xs:List Int)
  (hkeep: ∀W,OffS (MutD g m L) w W→Ints W ka kn kc xs):
  Calls Tryz.prog 218 #[.pointer (some ⟨g,0,none⟩),.slice ka kn kc] w fun e w'=>e= .returned (.int .i64 0)∧
   ∃L',DkI w' g m (.slice none 0 0) L' (q0P (q1a σ.L xs):Int) (z2p σ xs)∧(∀i,InF m L' i→InF m L i)∧OffS (MutD g m L) w w':=by
 have c6:=h.c6;rw[hup] at c6;have HR:=η23 (q3m w g h.c0 c6);have hLl:L.length=σ.L.length:=by rw[←h.files,List.length_map]
 have hmany:=ho.many;have HN:=η23 (z1d w g m L h.c0 h.c3 h.fs (by omega));have HI:=η23 h;have HO:=η23 ho;have HK:=η23 hkeep;have hNn:L.map FE.nm=σ.L.map FM.nm:=by rw[←h.files,List.map_map];rfl
 obtain ⟨n,hn⟩: ∃n,σ.L.length=n:=⟨_,rfl⟩
 have hn400:n≤400:=by omega
 have HNn:=η23 hNn;have HLn:=η23 hn;clear h ho hkeep hup c6 hLl hmany hNn;go_enter Tryz.func218,Tryz.ntmps218;go_wp2_with fail;refine HR.out.mono ?_;rintro e w' ⟨rfl,rfl⟩;go_wp2_with fail;refine HN.out.mono ?_;intro e w1 hret;obtain ⟨na,nc,rfl,hown,hext⟩:=hret.out;have hlen:(L.map FE.nm).length=n:=by rw[HNn.out,List.length_map,HLn.out]
 rw[hlen] at hown⊢;have HOwn:=η23 hown;have HE:=η23 hext;have HI1:=η23 (HI.out.ext hext);have hfits:n≤nc∧nc≤9223372036854775807:=by
  obtain ⟨ao,cap,e1,h1,h2,_⟩:=hown.rd
  cases e1;exact ⟨h1,h2⟩
 have hkn:=HK.out w (OffS.refl _ _);have hkfit:=hkn.fits;have hkb:=hkn.bound;have HKl:=η23 hkn.len;clear hret hown hext hn hlen hkn;go_wp2_with fail
 go_loopw [18] (fun i wr=> ∃k:Nat,k≤n∧i= .int .i64 k∧CrR w1 g m kv L σ xs k wr) (fun i _=>n-(intOf i).toNat)
 case atStart=>exact ⟨0,Nat.zero_le _,rfl,CrR.start HI1.out xs⟩
 case round=>
  obtain ⟨k,hk,rfl,hcr⟩:=hrel;by_cases hlt:k<n
  ·obtain ⟨Lk,hi,hin,hoff⟩:=hcr
   have hkL:k<σ.L.length:=by rw[HLn.out];exact hlt
   have hmw: ∀j,MutD g m L j→j<w.heap.size:=fun j hj=>HI.out.mut_lt hj
   have hown:=hoff.own HOwn.out fun i hb hm=>by have:=(HOwn.out.lt i hb).1;have:=hmw i hm;omega
   obtain ⟨gb,cap,hv,hcell,_,_⟩:=hown.cell (j:=k) (by simp only[List.length_map];rw[←List.length_map (f:=FE.nm),HNn.out,List.length_map];exact hkL)
   cases hv;have hnm:((L.map FE.nm).map encStr)[k]? =some (.string ⟨σ.L[k].nm.toArray⟩):=by
    rw[HNn.out,List.getElem?_map,List.getElem?_map,List.getElem?_eq_getElem hkL];rfl
   rw[←List.getElem?_eq_getElem,hnm] at hcell;have hfm:=(z0S xs hkL HO.out.ord).1;have hfm':q0H FM.nm σ.L[k].nm (Lk.map FE.f)=some σ.L[k]:=by rw[hi.files];exact hfm
   obtain ⟨e,hfe,hef⟩:=y1R hfm';have he:=(q0O hfe).1;have hsy:e.f.sy≤e.f.da.length:=by rw[hef];exact HO.out.sy _ (List.getElem_mem hkL)
   have hnl:σ.L[k].nm.length≤9223372036854775807:=by rw[←hef];exact hi.fs.nm_le he
   have hrun:=z5F hi.fs hnl hfe;obtain ⟨ao,fc,hv2,hf1,hf2,hf3,_⟩:=(hi.fs.row e he).rd;have f0:=hi.f0 he;rw[hv2] at f0;have f1:=hi.f1 he;have c3:=hi.c3;have hkr:=HK.out wr ((OffS.of_ext HE.out).trans hoff);have hus:e.f.da.length≤q0P (q4D σ.L xs k):=by rw[hef];exact q6T (fun f:FM=>f.da.length) (q0O hfm).1
   have hus2:=z3u σ.L xs k;have hus3:=HO.out.used;have hus4:=HO.out.cap1;have hcapl:e.f.da.length≤1048576:=by omega
   have hcapu:(q0P (q4D σ.L xs k):Int)≤1048576:=by omega
   obtain ⟨nm,hnmE⟩: ∃nm,σ.L[k].nm=nm:=⟨_,rfl⟩
   have hdr:DkI wr.drew g m kv Lk (q0P (q4D σ.L xs k):Int) {σ with L:=q4D σ.L xs k}:=hi.ext (Ext.drew (Ext.refl _));have HCut:=η23 (fun nn h0 h1=>y1h hdr rfl hcapu (z2b HO.out.ord (z1M _ _ _)) hfe hsy nn h0 h1);have HStep:=η23 (fun wc e' (nn:Int)=>CrR.step (wc:=wc) (e':=e') (n:=nn) HO.out hkL hi hin hoff (OffS.of_ext (Ext.drew (Ext.refl _))) hfe hef);rw[hnmE] at hrun hcell HCut HStep;obtain ⟨dl,hdl⟩: ∃dl,e.f.da.length=dl:=⟨_,rfl⟩
   obtain ⟨sy,hsy2⟩: ∃sy,e.f.sy=sy:=⟨_,rfl⟩
   obtain ⟨bb,hbb⟩: ∃bb,e.b=bb:=⟨_,rfl⟩
   rw[hdl] at hsy f0 hf1 HStep hcapl;rw[hsy2] at hsy f1 HStep;rw[hbb] at f0 f1 hrun HCut HStep;have HM:Hid (∀e':FE,e'∈q1N FE.nm nm (fun _=>e') Lk):=η23 (fun e'=>by rw[←hnmE];exact (q4f (f:=fun _=>e') hi.fs.ord hfe).2 (.inl rfl));obtain ⟨x,hx⟩: ∃x,xs.getD k 0=x:=⟨_,rfl⟩
   rw[hx] at HStep;have HX:=η23 hx;clear hi hin hoff hkL hmw hown hnm hfm hfm' hfe hef he hnl hv2 hus hus2 hus3 hus4 hnmE hdr hdl hsy2 hbb hx;by_cases hkk:k<kn
   ·obtain ⟨bk,ok,rfl,hck⟩:=hkr.at hkk
    rw[HX.out] at hck;clear hkr;go_wp2_with fail
    go_still_tail 19,(by kernel_rfl)
    go_wp2_with fail;refine (HCut.out _ (by omega) (by omega)).mono ?_;rintro en wc ⟨rfl,e',h1,h2,h3,hd,hc⟩;have he':=HM.out e';have HS:=η23 (HStep.out wc e' _ (by omega) h1 h2 h3 hd hc);obtain ⟨ao',fc',hv',hg1,hg2,hg3,_⟩:=(hd.fs.row e' he').rd;have f0':=hd.f0 he';have y1':=hd.fz he' 1;have f1':=hd.f1 he';rw[hv'] at f0';rw[h2] at f0' y1' f1' HS;generalize e'.f.da.length=dl' at*;clear hd hc h1 h3 hv' he' h2;go_wp2_with fail
    go_roundw
    case rel=>exact ⟨k+1,by omega,by go_num,HS.out⟩
    case measure=>simp[intOf];omega
   ·obtain rfl:x=0:=by
     rw[←HX.out,List.getD_eq_getElem?_getD,List.getElem?_eq_none (by rw[HKl.out];omega)];rfl
    clear hkr;go_wp2_with fail
    go_still_tail 19,(by kernel_rfl)
    go_wp2_with fail;refine (HCut.out _ (by omega) (by omega)).mono ?_;rintro en wc ⟨rfl,e',h1,h2,h3,hd,hc⟩;have he':=HM.out e';have HS:=η23 (HStep.out wc e' _ (by omega) h1 h2 h3 hd hc);obtain ⟨ao',fc',hv',hg1,hg2,hg3,_⟩:=(hd.fs.row e' he').rd;have f0':=hd.f0 he';have y1':=hd.fz he' 1;have f1':=hd.f1 he';rw[hv'] at f0';rw[h2] at f0' y1' f1' HS;generalize e'.f.da.length=dl' at*;clear hd hc h1 h3 hv' he' h2;go_wp2_with fail
    go_roundw
    case rel=>exact ⟨k+1,by omega,by go_num,HS.out⟩
    case measure=>simp[intOf];omega
  ·obtain rfl:k=n:=by omega
   have HC:=η23 (by rw[←HLn.out] at hcr;exact CrR.done hcr);obtain ⟨Lk,hi,hin,hoff⟩:=hcr;have c6:=hi.c6;have c7:=hi.c7;have c8:=hi.c8;have c9:=hi.c9;have z6:=hi.z 6;have z7:=hi.z 7;have z8:=hi.z 8;have z9:=hi.z 9;clear hi hin hoff;go_wp2_with fail;go_ret;obtain ⟨L',h1,h2,h3⟩:=HC.out;exact ⟨rfl,L',h1,h2,(OffS.of_ext HE.out).trans h3⟩
end
section
open Go.RowKit
def Fin (w:World) (g m:Nat) (kv:Value) (L:List FE) (σ':DM) (w':World):Prop:=
 okD σ'∧ ∃m' kv' L',DkI w' g m' kv' L' (q0P σ'.L:Int) σ'∧(∀i,InD g m' kv' L' i→InD g m kv L i∨w.heap.size≤i)∧OffS (InD g m kv L) w w'
theorem Dk.openD {w:World} {g:Nat} {F:Nat→Prop} {σ:DM} (h:Dk w g F σ):okD σ∧ ∃m kv L,DkI w g m kv L (q0P σ.L:Int) σ∧ ∀σ' w',Fin w g m kv L σ' w'→DkS w g F σ' w':=by
 obtain ⟨ho,m,kv,L,hi,h1,h2⟩:=h;refine ⟨ho,m,kv,L,hi,fun σ' w' ⟨ho',m',kv',L',hi',hin,hoff⟩=>DkS.mk' h1 h2 ho' hi' hoff hin⟩
theorem Fin.same {w:World} {g m:Nat} {kv:Value} {L:List FE} {σ:DM} (ho:okD σ) (h:DkI w g m kv L (q0P σ.L:Int) σ):Fin w g m kv L σ w:=
 ⟨ho,m,kv,L,h,fun i hi=> .inl hi,OffS.refl _ _⟩
theorem Fin.ext {w w':World} {g m:Nat} {kv:Value} {L:List FE} {σ:DM} (ho:okD σ) (h:DkI w g m kv L (q0P σ.L:Int) σ) (k:Ext w w'):Fin w g m kv L σ w':=
 ⟨ho,m,kv,L,h.ext k,fun i hi=> .inl hi,OffS.of_ext k⟩
theorem Fin.after {w w1 w':World} {g m m1:Nat} {kv kv1:Value} {L L1:List FE} {σ':DM} (hin: ∀i,InD g m1 kv1 L1 i→InD g m kv L i∨w.heap.size≤i) (hoff:OffS (InD g m kv L) w w1) (h:Fin w1 g m1 kv1 L1 σ' w'):Fin w g m kv L σ' w':=by
 obtain ⟨ho,m',kv',L',hi,h1,h2⟩:=h;have hs:=hoff.size;refine ⟨ho,m',kv',L',hi,fun i hx=>?_,⟨h2.os.trans hoff.os,h2.tape.trans hoff.tape,h2.output.trans hoff.output,Nat.le_trans hs h2.size,fun i hl hn=>?_⟩⟩
 ·rcases h1 i hx with h3|h3
  ·exact hin i h3
  ·exact .inr (Nat.le_trans hs h3)
 ·refine (h2.block i (Nat.lt_of_lt_of_le hl hs) fun h3=>?_).trans (hoff.block i hl hn)
  rcases hin i h3 with h4|h4
  ·exact hn h4
  ·omega
theorem Fin.file {w w':World} {g m:Nat} {kv:Value} {L:List FE} {us:Int} {σ σ':DM} (ho:okD σ') (h:DkI w g m kv L us σ) {nm:List UInt8} {e:FE} (hf:q0H FE.nm nm L=some e) (e':FE) (hn:e'.f.nm=nm) (hb:e'.b=e.b)
  (hs:w.heap.size≤w'.heap.size) (h1:w'.os=w.os) (h2:w'.tape=w.tape) (h3:w'.output=w.output) (hw: ∀i,i<w.heap.size→i≠g→i≠e.b→e.v.ownBlock≠some i→w'.heap[i]? =w.heap[i]?)
  (hhd:Blk w' g 130 (q8v σ' (q0P σ'.L:Int) m kv)) (hblk:Blk w' e.b 221 #[e'.v,.int .i64 (e'.f.sy:Int)]) (hrow:Own w' 0 5 1 e'.v e'.f.da.length (e'.f.da.map q1L))
  (hsep: ∀i,e'.v.ownBlock=some i→e.v.ownBlock=some i∨w.heap.size≤i) (f:FM→FM) (hfe:e'.f=f e.f) (hL:σ'.L=q1N FM.nm nm f σ.L) (hK:σ'.keep=σ.keep):Fin w g m kv L σ' w':=by
 have he:=(q0O hf).1;refine ⟨ho,m,kv,_,h.fileSet hf e' hn hb hw hhd hblk hrow hsep f hfe hL hK,fun i hi=>?_,(q6J he hs h1 h2 h3 hw).inD⟩;rcases hi with h4|h4|h4
 ·exact .inl (.inl h4)
 ·rcases InF.upd h.fs.ord hf hb h4 with h5|h5
  ·exact .inl (.inr (.inl h5))
  ·rcases hsep i h5 with h6|h6
   ·exact .inl (.inr (.inl (.inr ⟨e,he,.inr h6⟩)))
   ·exact .inr h6
 ·exact .inl (.inr (.inr h4))
theorem z4W {w:World} {g m:Nat} {kv:Value} {L:List FE} {us:Int} {σ:DM} (h:DkI w g m kv L us σ): ∃ka kc,kv= .slice ka σ.keep.length kc∧ ∀W,OffS (MutD g m L) w W→Ints W ka σ.keep.length kc σ.keep:=by
 obtain ⟨ka,kc,hv⟩:=h.keep.slice;refine ⟨ka,kc,hv,fun W hW=>?_⟩;have hk:Own W 0 3 1 kv σ.keep.length (σ.keep.map (Value.int .i64)):=hW.own h.keep fun i hi hm=>hm.elim (h.keepF hi).1 (h.keepF hi).2
 obtain ⟨ao,cap,e1,e2,e3,e4,e5⟩:=hk.rd;rw[hv] at e1
 cases e1;exact ⟨rfl,e2,e3,e4,e5⟩
theorem z2i {w:World} {g m:Nat} {kv:Value} {L:List FE} {σ:DM} (h:DkI w g m kv L (q0P σ.L:Int) σ) (ho:okD σ) (hup:σ.down=false):
  Calls Tryz.prog 169 #[.pointer (some ⟨g,0,none⟩)] w fun e w'=>e= .returned (.int .i64 61)∧Fin w g m kv L (q5F σ) w':=by
 obtain ⟨ka,kc,rfl,hk⟩:=z4W h;have HC:=η23 (z9a h ho hup ka _ kc _ hk);have HO:=η23 ho.sink;have c9:=h.c9;clear h ho hk hup;go_enter Tryz.func169,Tryz.ntmps169;go_wp2_with fail;refine HC.out.mono ?_;rintro e w' ⟨rfl,L',hi,hin,hoff⟩;have HF:Fin w g m (.slice ka σ.keep.length kc) L (q5F σ) w':=by
  refine ⟨HO.out,m,_,L',hi,fun i hx=>?_,hoff.inD⟩;rcases hx with h|h|h
  ·exact .inl (.inl h)
  ·exact .inl (.inr (.inl (hin i h)))
  ·cases h
 have HF:=η23 HF;clear hi hin hoff;go_wp2_with fail;go_ret;exact ⟨rfl,HF.out⟩
theorem z2P {w:World} {g m:Nat} {kv:Value} {L:List FE} {σ:DM} {us:Int} (h:DkI w g m kv L us σ) (ho:okD σ) (hf:q2B σ=false):
  Calls Tryz.prog 168 #[.pointer (some ⟨g,0,none⟩)] w fun e w'=>e= .returned (.bool false)∧DkI w' g m kv L us (q2W σ)∧OffS (MutD g m L) w w'∧w'.heap.size=w.heap.size∧ ∀i,i≠g→w'.heap[i]? =w.heap[i]? :=by
 refine (z8H w g σ.fail σ.left h.c7 h.c8 (h.z 8) ho.left ho.left1 (fun e1 e2=>by simp[q2B,e1,e2] at hf)).mono ?_;rintro e w' ⟨rfl,rfl⟩;have hw: ∀i,i≠g→(w.setCell ⟨g,8,none⟩ (.int .i64 (max (σ.left-1) 0))).heap[i]? =w.heap[i]? :=fun i hg=>q0L _ _ hg
 exact ⟨rfl,h.headSet (fun i _=>hw i) (h.head.set 8 _) rfl rfl,OffS.set w (F:=MutD g m L) (.inl rfl) _ _,by simp[World.setCell],hw⟩
theorem z2z {w:World} {g m:Nat} {kv:Value} {L:List FE} {σ:DM} {us:Int} (h:DkI w g m kv L us σ) (hf:q2B σ=true):
  Calls Tryz.prog 168 #[.pointer (some ⟨g,0,none⟩)] w fun e w'=>e= .returned (.bool true)∧w=w':=by
 simp[q2B] at hf;have c7:=h.c7;have c8:=h.c8;rw[hf.1] at c7;rw[hf.2] at c8;exact z6L w g c7 c8
theorem y1q {w:World} {g:Nat} {F:Nat→Prop} {σ:DM} (h:Dk w g F σ):Calls Tryz.prog 107 #[.pointer (some ⟨g,0,none⟩)] w fun e w'=>e= .returned (.bool (!σ.down))∧w=w':=by
 obtain ⟨ho,m,kv,L,hi,_⟩:=h;have c6:=hi.c6
 cases hd:σ.down with
 | false=>
  rw[hd] at c6;have HR:=η23 (q3m w g hi.c0 c6);clear hi ho c6 hd;go_enter Tryz.func107,Tryz.ntmps107;go_wp2_with fail;refine HR.out.mono ?_;rintro e w' ⟨rfl,rfl⟩;go_wp2_with fail;go_ret;exact ⟨rfl,rfl⟩
 | true=>
  rw[hd] at c6;have HR:=η23 (q4d w g hi.c0 c6);clear hi ho c6 hd;go_enter Tryz.func107,Tryz.ntmps107;go_wp2_with fail;refine HR.out.mono ?_;rintro e w' ⟨rfl,rfl⟩;go_wp2_with fail;go_ret;exact ⟨rfl,rfl⟩
theorem y1K {w:World} {g:Nat} {F:Nat→Prop} {σ:DM} (h:Dk w g F σ):Calls Tryz.prog 184 #[.pointer (some ⟨g,0,none⟩)] w fun e w'=>e= .returned (.int .i64 (z1A σ))∧Ext w w':=by
 obtain ⟨ho,m,kv,L,hi,_⟩:=h;have HN:=η23 (q7O w g true hi.c0);have c1:=hi.c1;have c2:=hi.c2;have h0:=ho.cap0;have h1:=ho.cap1;have h2:=ho.used;obtain ⟨us,hus⟩: ∃us:Int,(q0P σ.L:Int)=us:=⟨_,rfl⟩
 have hus0:0≤us:=by omega
 have HF:Hid (z1A σ=σ.cap-us):=η23 (by rw[←hus];rfl);rw[hus] at c2 h2;generalize σ.cap=cp at*;clear hi ho hus;go_enter Tryz.func184,Tryz.ntmps184;go_wp2_with fail;refine HN.out.mono ?_;rintro e w' ⟨rfl,rfl⟩;go_wp2_with fail
 go_quiet (fail)
 go_wp2_with fail;go_ret;rw[HF.out];exact ⟨rfl,(Ext.refl w).drewN _⟩
theorem z2H {w:World} {g:Nat} {F:Nat→Prop} {σ:DM} (h:Dk w g F σ):Calls Tryz.prog 111 #[.pointer (some ⟨g,0,none⟩)] w fun e w'=>e= .returned (.int .i64 σ.starts)∧w=w':=by
 obtain ⟨ho,m,kv,L,hi,_⟩:=h;have HN:=η23 (q7O w g true hi.c0);have c5:=hi.c5;clear hi ho;go_enter Tryz.func111,Tryz.ntmps111;go_wp2_with fail;refine HN.out.mono ?_;rintro e w' ⟨rfl,rfl⟩;go_wp2_with fail;go_ret;exact ⟨rfl,rfl⟩
theorem z0I {w:World} {g m:Nat} {kv:Value} {L:List FE} {us:Int} {σ:DM} (h:DkI w g m kv L us σ) (nm:List UInt8) (hl:nm.length≤9223372036854775807):
  (σ.down=true∧ ∃R:Hid (Calls Tryz.prog 137 #[.pointer (some ⟨g,0,none⟩),.string ⟨nm.toArray⟩] w fun e w'=>e= .returned (.tuple #[.pointer none,.int .i64 61])∧w=w'),True)∨
  (σ.down=false∧q0H FM.nm nm σ.L=none∧q0H FE.nm nm L=none∧ ∃R:Hid (Calls Tryz.prog 137 #[.pointer (some ⟨g,0,none⟩),.string ⟨nm.toArray⟩] w fun e w'=>e= .returned (.tuple #[.pointer none,.int .i64 4])∧w=w'),True)∨
  (σ.down=false∧ ∃e:FE,q0H FE.nm nm L=some e∧q0H FM.nm nm σ.L=some e.f∧e∈L∧ ∃R:Hid (Calls Tryz.prog 137 #[.pointer (some ⟨g,0,none⟩),.string ⟨nm.toArray⟩] w fun en w'=>en= .returned (.tuple #[.pointer (some ⟨e.b,0,none⟩),.int .i64 0])∧w=w'),True):=by
 have c6:=h.c6
 cases hd:σ.down with
 | true=>
  rw[hd] at c6;exact .inl ⟨rfl,η23 (q9g w g h.c0 c6 _),trivial⟩
 | false=>
  rw[hd] at c6
  cases hf:q0H FE.nm nm L with
  | none=>
   refine .inr (.inl ⟨rfl,?_,rfl,η23 (find_none w g m nm h.c0 c6 h.c3 (z1W h.fs hl hf)),trivial⟩);rw[←h.files,q1m (k:=FE.nm) (k':=FM.nm) (h:=FE.f) (fun x=>rfl),hf];rfl
  | some e=>
   refine .inr (.inr ⟨rfl,e,rfl,?_,(q0O hf).1,η23 (find_some w g m e.b nm h.c0 c6 h.c3 (q8i h.fs hl hf)),trivial⟩);rw[←h.files,q1m (k:=FE.nm) (k':=FM.nm) (h:=FE.f) (fun x=>rfl),hf];rfl
theorem q6q {w:World} {g:Nat} {F:Nat→Prop} {σ:DM} (h:Dk w g F σ) (nm:List UInt8) (hl:nm.length≤9223372036854775807):
  Calls Tryz.prog 108 #[.pointer (some ⟨g,0,none⟩),.string ⟨nm.toArray⟩] w fun e w'=>e= .returned (.tuple #[.int .i64 (q1W σ nm).1,.int .i64 (q1W σ nm).2])∧w=w':=by
 obtain ⟨ho,m,kv,L,hi,_⟩:=h;rcases z0I hi nm hl with ⟨hd,R,_⟩|⟨hd,hf,_,R,_⟩|⟨hd,e,hfe,hf,he,R,_⟩
 ·have HS:Hid (q1W σ nm=(0,61)):=η23 (by unfold q1W;rw[if_pos hd])
  clear hi ho hd;go_enter Tryz.func108,Tryz.ntmps108;go_wp2_with fail;refine R.out.mono ?_;rintro e w' ⟨rfl,rfl⟩;go_wp2_with fail;go_ret2;rw[HS.out];exact ⟨rfl,rfl⟩
 ·have HS:Hid (q1W σ nm=(0,4)):=η23 (by unfold q1W;rw[if_neg (by rw[hd];decide),hf])
  clear hi ho hd hf;go_enter Tryz.func108,Tryz.ntmps108;go_wp2_with fail;refine R.out.mono ?_;rintro e w' ⟨rfl,rfl⟩;go_wp2_with fail;go_ret2;rw[HS.out];exact ⟨rfl,rfl⟩
 ·have HS:Hid (q1W σ nm=((e.f.da.length:Int),0)):=η23 (by unfold q1W;rw[if_neg (by rw[hd];decide),hf])
  obtain ⟨ao,cap,hv,_⟩:=(hi.fs.row e he).rd;have f0:=hi.f0 he;rw[hv] at f0;clear hi ho hd hf hfe he hv;generalize e.f.da.length=dl at*;generalize e.b=bb at*;go_enter Tryz.func108,Tryz.ntmps108;go_wp2_with fail;refine R.out.mono ?_;rintro e w' ⟨rfl,rfl⟩;go_wp2_with fail;go_ret2;rw[HS.out];exact ⟨rfl,rfl⟩
end
section
open Go.RowKit
theorem q2e {w:World} {m:Nat} {L:List FE} {ops:Array Oper} {rest:List Oper} {o:Oper} {a:Act} {Q:Exit→Act→World→Prop} (hfs:FS w m L) (hg:o.guard=none) (x:Operand)
  (hop:o.op=Op.call {callee:=Callee.builtin Builtin.len,args:=#[x],argTypes:=#[128]}) (hm:a.eval x= .map (some m))
  (hK:wpList Tryz.prog ops Q rest (a.put o.dst (.int .i64 (L.length:Nat))) w):wpList Tryz.prog ops Q (o::rest) a w:=
 wpList_len_own w hg x 128 hop 9 217 Tryz.underlying128 q6I m L.length (q5w L) hm hfs.map (by rw[q6z];exact hK)
theorem Fin.create {w w3:World} {g m:Nat} {kv:Value} {L:List FE} {σ:DM} (h:DkI w g m kv L (q0P σ.L:Int) σ) {nm:List UInt8} (ho:okD {σ with L:=q3g FM.nm ⟨nm,[],0⟩ σ.L}) (hno:q0H FE.nm nm L=none) {n:Nat}
  (hmap:w3.ownsMap Tryz.prog 9 q6I m n ((q5w L).put (.string nm) (.lit (.int .i64 w.heap.size)))) (hturn:(w.alloc (.cells #[.slice none 0 0,.int .i64 0] 221)).mapTurned w3 m):
  Fin w g m kv L {σ with L:=q3g FM.nm ⟨nm,[],0⟩ σ.L} w3:=by
 obtain ⟨x,hx⟩: ∃x:FE,x=⟨⟨nm,[],0⟩,w.heap.size,.slice none 0 0⟩:=⟨_,rfl⟩
 have hb0:=Blk.new w 221 #[.slice none 0 0,.int .i64 0];have hext:=q0B w (.cells #[.slice none 0 0,.int .i64 0] 221);have hmb:m≠w.heap.size:=Nat.ne_of_lt h.fs.map.lt;have hw: ∀i,i≠m→i<w.heap.size+1→w3.heap[i]? =(w.alloc (.cells #[.slice none 0 0,.int .i64 0] 221)).heap[i]? :=fun i hi hl=>hturn.grown.block i (by rw[World.size_alloc];exact hl) (fun e=>hi (by cases e;rfl))
 have hw2: ∀i,i<w.heap.size→i≠m→w3.heap[i]? =w.heap[i]? :=fun i hl hi=>(hw i hi (by omega)).trans (hext.block i hl)
 have hfs:FS w3 m (q3g FE.nm x L):=by
  refine (h.fs.ext hext).put x (by rw[hx];exact hno) (by rw[hx];exact hmap) (fun i hi hne=>hw i hne (by have:=h.fs.lt hi;omega)) ?_ ?_ (fun y hy=>?_)
  ·rw[hx];exact hb0.same (hw _ (Ne.symm hmb) (Nat.lt_succ_self _))
  ·rw[hx];exact Own.nil _ _ _ _
  ·rw[hx]
   exact ⟨Nat.ne_of_gt (h.fs.blk y hy).lt,fun i hi=>by cases hi⟩
 refine ⟨ho,m,kv,_,⟨?_,hfs,?_,?_⟩,fun i hi=>?_,?_⟩
 ·have hh:=h.head.same (hw2 g h.head.lt fun e=>h.ne (.inl e))
  have e1:(q0P (q3g FM.nm ⟨nm,[],0⟩ σ.L):Int)=q0P σ.L:=by rw[q9T];simp
  show Blk w3 g _ (q8v {σ with L:=q3g FM.nm ⟨nm,[],0⟩ σ.L} (q0P (q3g FM.nm ⟨nm,[],0⟩ σ.L):Int) m kv);rw[e1];exact hh
 ·show (q3g FE.nm x L).map FE.f=q3g FM.nm ⟨nm,[],0⟩ σ.L
  rw[q8a (k:=FE.nm) (k':=FM.nm) (h:=FE.f) (fun x=>rfl),h.files,hx]
 ·exact h.keep.same fun i hi=>hw2 i (h.keep.lt i hi).2 fun e=>(h.keepF hi).2 (.inl e)
 ·rcases hi with h1|h1|h1
  ·exact .inl (.inl h1)
  ·rcases InF.ins h1 with h2|h2|h2
   ·right;rw[h2,hx];exact Nat.le_refl _
   ·rw[hx] at h2;cases h2
   ·exact .inl (.inr (.inl h2))
  ·exact .inl (.inr (.inr h1))
 ·refine ⟨hturn.grown.os,hturn.grown.tape,hturn.grown.output,?_,fun i hl hn=>hw2 i hl fun e=>hn (.inr (.inl (.inl e)))⟩
  have:=hturn.grown.size;rw[World.size_alloc] at this;omega
theorem z7K {w:World} {g:Nat} {F:Nat→Prop} {σ:DM} (h:Dk w g F σ) (nm:List UInt8) (hl:nm.length≤9223372036854775807):
  Calls Tryz.prog 127 #[.pointer (some ⟨g,0,none⟩),.string ⟨nm.toArray⟩] w fun e w'=>e= .returned (.int .i64 (q1w σ nm).1)∧DkS w g F (q1w σ nm).2 w':=by
 obtain ⟨ho,m,kv,L,hi,fin⟩:=h.openD;have HF:=η23 fin;have HI:=η23 hi;have HO:=η23 ho;have c6:=hi.c6;have c3:=hi.c3;have HLen:=η23 (show L.length=σ.L.length by rw[←hi.files,List.length_map]);have hm:=ho.many;have HN:=η23 (fun W=>y0e W nm hl);clear h fin
 cases hd:σ.down with
 | true=>
  rw[hd] at c6;have HR:=η23 (q4d w g hi.c0 c6);have HM:Hid (q1w σ nm=(61,σ)):=η23 (by unfold q1w;rw[if_pos hd]);clear hi ho hd c6 hm c3;go_enter Tryz.func127,Tryz.ntmps127;go_wp2_with fail;refine HR.out.mono ?_;rintro e w' ⟨rfl,rfl⟩;go_wp2_with fail;go_ret;rw[HM.out];exact ⟨rfl,HF.out _ _ (Fin.same HO.out HI.out)⟩
 | false =>
  rw[hd] at c6;have HR:=η23 (q3m w g hi.c0 c6);have hM:q1w σ nm=if !q3t nm then (2,σ) else if (q0H FM.nm nm σ.L).isSome then (62,σ) else if 400≤σ.L.length then (60,σ) else if q2B σ then (61,q5F σ) else (0,{q2W σ with L:=q3g FM.nm ⟨nm,[],0⟩ σ.L}):=by
   unfold q1w;rw[if_neg (by rw[hd];decide)]
  cases hf:q0H FE.nm nm L with
  | some e0=>
   have hrun:=q8i hi.fs hl hf;have hfm:(q0H FM.nm nm σ.L).isSome=true:=by rw[←hi.files,q1m (k:=FE.nm) (k':=FM.nm) (h:=FE.f) (fun x=>rfl),hf];rfl
   cases hn:q3t nm with
   | false=>
    have HM:Hid (q1w σ nm=(2,σ)):=η23 (by rw[hM,hn];rfl);rw[hn] at HN;clear hi ho hd c6 hm hf hM hn hfm;generalize e0.b=bb at*;go_enter Tryz.func127,Tryz.ntmps127;go_wp2_with fail;refine HR.out.mono ?_;rintro e w' ⟨rfl,rfl⟩;go_wp2_with fail;refine (HN.out _).mono ?_;rintro e w' ⟨rfl,rfl⟩;go_wp2_with fail;go_ret;rw[HM.out];exact ⟨rfl,HF.out _ _ (Fin.same HO.out HI.out)⟩
   | true=>
    have HM:Hid (q1w σ nm=(62,σ)):=η23 (by rw[hM,hn,hfm];rfl);rw[hn] at HN;clear hi ho hd c6 hm hf hM hn hfm;generalize e0.b=bb at*;go_enter Tryz.func127,Tryz.ntmps127;go_wp2_with fail;refine HR.out.mono ?_;rintro e w' ⟨rfl,rfl⟩;go_wp2_with fail;refine (HN.out _).mono ?_;rintro e w' ⟨rfl,rfl⟩;go_wp2_with fail;go_ret;rw[HM.out];exact ⟨rfl,HF.out _ _ (Fin.same HO.out HI.out)⟩
  | none =>
   have hrun:=z1W hi.fs hl hf;have hfm:q0H FM.nm nm σ.L=none:=by rw[←hi.files,q1m (k:=FE.nm) (k':=FM.nm) (h:=FE.f) (fun x=>rfl),hf];rfl
   cases hn:q3t nm with
   | false=>
    have HM:Hid (q1w σ nm=(2,σ)):=η23 (by rw[hM,hn];rfl);rw[hn] at HN;clear hi ho hd c6 hm hf hM hn hfm;go_enter Tryz.func127,Tryz.ntmps127;go_wp2_with fail;refine HR.out.mono ?_;rintro e w' ⟨rfl,rfl⟩;go_wp2_with fail;refine (HN.out _).mono ?_;rintro e w' ⟨rfl,rfl⟩;go_wp2_with fail;go_ret;rw[HM.out];exact ⟨rfl,HF.out _ _ (Fin.same HO.out HI.out)⟩
   | true =>
    rw[hn] at HN;have HFs:=η23 hi.fs;have HNo:=η23 hf;by_cases h4:400≤σ.L.length
    ·have HM:Hid (q1w σ nm=(60,σ)):=η23 (by rw[hM,hn,hfm];simp[h4])
     have hL4:((400:Int)≤(L.length:Int)):=by rw[HLen.out];omega
     have hd4:decide ((400:Int)≤(L.length:Int))=true:=by simpa using hL4
     clear hi ho hd c6 hm hf hM hn hfm h4;go_enter Tryz.func127,Tryz.ntmps127;go_wp2_with fail;refine HR.out.mono ?_;rintro e w' ⟨rfl,rfl⟩;go_wp2_with fail;refine (HN.out _).mono ?_;rintro e w' ⟨rfl,rfl⟩
     go_wp2_with (at_len;refine q2e HFs.out rfl _ rfl rfl ?_)
     go_ret;rw[HM.out];exact ⟨rfl,HF.out _ _ (Fin.same HO.out HI.out)⟩
    ·have hL4:((L.length:Int)<400):=by rw[HLen.out];omega
     have hL4':L.length<400:=by omega
     cases hfl:q2B σ with
     | true=>
      have HM:Hid (q1w σ nm=(61,q5F σ)):=η23 (by rw[hM,hn,hfm];simp[h4,hfl]);have HS:=η23 (z2z hi hfl);have HK:=η23 (z2i hi ho hd);clear hi ho hd c6 hm hf hM hn hfm h4 hfl;go_enter Tryz.func127,Tryz.ntmps127;go_wp2_with fail;refine HR.out.mono ?_;rintro e w' ⟨rfl,rfl⟩;go_wp2_with fail;refine (HN.out _).mono ?_;rintro e w' ⟨rfl,rfl⟩
      go_wp2_with (at_len;refine q2e HFs.out rfl _ rfl rfl ?_)
      refine HS.out.mono ?_;rintro e w' ⟨rfl,rfl⟩;go_wp2_with fail;refine HK.out.mono ?_;rintro e w' ⟨rfl,hfin⟩;have HX:=η23 hfin;clear hfin;go_wp2_with fail;go_ret;rw[HM.out];exact ⟨rfl,HF.out _ _ HX.out⟩
     | false=>
      have HM:Hid (q1w σ nm=(0,{q2W σ with L:=q3g FM.nm ⟨nm,[],0⟩ σ.L})):=η23 (by rw[hM,hn,hfm];simp[h4,hfl]);have HS:=η23 (z2P hi ho hfl);have HO':Hid (okD {q2W σ with L:=q3g FM.nm ⟨nm,[],0⟩ (q2W σ).L}):=η23 (ho.tick.create hfm (by show σ.L.length<400;omega));have HKey:=η23 (z7W nm hl);clear hi ho hd c6 hm hf hM hn hfm h4 hfl;go_enter Tryz.func127,Tryz.ntmps127;go_wp2_with fail;refine HR.out.mono ?_;rintro e w' ⟨rfl,rfl⟩;go_wp2_with fail;refine (HN.out _).mono ?_;rintro e w' ⟨rfl,rfl⟩
      go_wp2_with (at_len;refine q2e HFs.out rfl _ rfl rfl ?_)
      refine HS.out.mono ?_;rintro e w1 ⟨rfl,hi1,hof,hsz,hsame⟩;have HI1:=η23 hi1;have HOf:Hid (OffS (InD g m kv L) w w1):=η23 hof.inD;have c3':=hi1.c3;have HMp:=η23 (hi1.fs.map.alloc (.cells #[.slice none 0 0,.int .i64 0] 221));clear hi1 hof hsz hsame c3 hrun
      go_wp2_with (at_mapUpdate;refine wpList_mapUpdate_in _ rfl _ _ _ 128 rfl 9 217 z9X Tryz.underlying128 q6I m L.length (q5w L) rfl HMp.out (by unfold maxLen;omega) _ _ (.string nm) rfl rfl HKey.out (.lit (.int .i64 w1.heap.size)) [] (z5o _) ?_;intro w3 hown3 hturn3)
      have HFin:=η23 (Fin.after (fun i hi=> .inl hi) HOf.out (Fin.create HI1.out HO'.out HNo.out hown3 hturn3));clear hown3 hturn3;go_wp2_with fail;go_ret;rw[HM.out];exact ⟨rfl,HF.out _ _ HFin.out⟩
end
section
open Go.RowKit
theorem z8U {w:World} {g:Nat} {F:Nat→Prop} {σ:DM} (h:Dk w g F σ) (nm:List UInt8) (hl:nm.length≤9223372036854775807):
  Calls Tryz.prog 185 #[.pointer (some ⟨g,0,none⟩),.string ⟨nm.toArray⟩] w fun e w'=>e= .returned (.int .i64 (q6D σ nm).1)∧DkS w g F (q6D σ nm).2 w':=by
 obtain ⟨ho,m,kv,L,hi,fin⟩:=h.openD;have HF:=η23 fin;have HI:=η23 hi;have HO:=η23 ho;clear h fin;rcases z0I hi nm hl with ⟨hd,R,_⟩|⟨hd,hf,_,R,_⟩|⟨hd,e,hfe,hf,he,R,_⟩
 ·have HM:Hid (q6D σ nm=(61,σ)):=η23 (by unfold q6D;rw[if_pos hd])
  clear hi ho hd;go_enter Tryz.func185,Tryz.ntmps185;go_wp2_with fail;refine R.out.mono ?_;rintro e w' ⟨rfl,rfl⟩;go_wp2_with fail;go_ret;rw[HM.out];exact ⟨rfl,HF.out _ _ (Fin.same HO.out HI.out)⟩
 ·have HM:Hid (q6D σ nm=(4,σ)):=η23 (by unfold q6D;rw[if_neg (by rw[hd];decide),hf];rfl)
  clear hi ho hd hf;go_enter Tryz.func185,Tryz.ntmps185;go_wp2_with fail;refine R.out.mono ?_;rintro e w' ⟨rfl,rfl⟩;go_wp2_with fail;go_ret;rw[HM.out];exact ⟨rfl,HF.out _ _ (Fin.same HO.out HI.out)⟩
 ·cases hfl:q2B σ with
  | true=>
   have HM:Hid (q6D σ nm=(61,q5F σ)):=η23 (by unfold q6D;rw[if_neg (by rw[hd];decide),hf,hfl];rfl);have HS:=η23 (z2z hi hfl);have HK:=η23 (z2i hi ho hd);clear hi ho hd hf hfe he hfl;generalize e.b=bb at*;go_enter Tryz.func185,Tryz.ntmps185;go_wp2_with fail;refine R.out.mono ?_;rintro e w' ⟨rfl,rfl⟩;go_wp2_with fail;refine HS.out.mono ?_;rintro e w' ⟨rfl,rfl⟩;go_wp2_with fail;refine HK.out.mono ?_;rintro e w' ⟨rfl,hfin⟩;have HX:=η23 hfin;clear hfin;go_wp2_with fail;go_ret;rw[HM.out];exact ⟨rfl,HF.out _ _ HX.out⟩
  | false=>
   have HM:Hid (q6D σ nm=(0,{q2W σ with L:=q1N FM.nm nm (fun f=>{f with sy:=f.da.length}) σ.L})):=η23 (by unfold q6D;rw[if_neg (by rw[hd];decide),hf,hfl];rfl);have HS:=η23 (z2P hi ho hfl);have HO':=η23 (ho.tick.sync (σ:=q2W σ) hf);have HFe:=η23 hfe;have HE:=η23 he;obtain ⟨ao,cap,hv,_⟩:=(hi.fs.row e he).rd;have HV:=η23 hv;obtain ⟨dl,hdl⟩: ∃dl,e.f.da.length=dl:=⟨_,rfl⟩
   obtain ⟨bb,hbb⟩: ∃bb,e.b=bb:=⟨_,rfl⟩
   have HDl:=η23 hdl;have HBb:=η23 hbb;rw[hbb] at R;clear hi ho hd hf hfe he hfl hv hdl hbb;go_enter Tryz.func185,Tryz.ntmps185;go_wp2_with fail;refine R.out.mono ?_;rintro e w' ⟨rfl,rfl⟩;go_wp2_with fail;refine HS.out.mono ?_;rintro en w1 ⟨rfl,hi1,hof,hsz,hsame⟩;have HI1:=η23 hi1;have HOf:Hid (OffS (InD g m kv L) w w1):=η23 hof.inD;have f0:=hi1.f0 HE.out;have f1:=hi1.f1 HE.out;have y1:=hi1.fz HE.out 1;rw[HV.out,HDl.out,HBb.out] at f0;rw[HBb.out] at f1 y1;generalize e.f.sy=sy at*;clear hi1 hof hsz hsame;go_wp2_with fail;go_ret;rw[HM.out];have hgb:=HI1.out.neB HE.out;have hrb:=(HI1.out.fs.blk e HE.out).own (HI1.out.fs.row e HE.out) (by decide);rw[←HDl.out,←HBb.out];refine ⟨rfl,HF.out _ _ (Fin.after (fun i hi=> .inl hi) HOf.out (Fin.file HO'.out.1 HI1.out HFe.out (⟨{e.f with sy:=e.f.da.length},e.b,e.v⟩:FE) (q0O HFe.out).2 rfl (by simp[World.setCell]) rfl rfl rfl (fun i _ _ hb _=>q0L _ _ hb) ?_ ((HI1.out.fs.blk e HE.out).set 1 _) ((HI1.out.fs.row e HE.out).same fun i hi=>q0L _ _ fun e1=>hrb (e1▸hi)) (fun i hi=> .inl hi) (fun f=>{f with sy:=f.da.length}) rfl rfl rfl))⟩
   have hus:(q0P (q1N FM.nm nm (fun f=>{f with sy:=f.da.length}) (q2W σ).L):Int)=q0P σ.L:=by rw[HO'.out.2];rfl
   have hh:=HI1.out.head.out hgb 1 (.int .i64 (e.f.da.length:Int));rw[←hus] at hh;exact hh
theorem z4j {w:World} {g m:Nat} {kv:Value} {L:List FE} {σ:DM} (h:DkI w g m kv L (q0P σ.L:Int) σ) (ho:okD σ) {nm:List UInt8} (hl:nm.length≤9223372036854775807) {e:FE} (hf:q0H FE.nm nm L=some e):
  Calls Tryz.prog 170 #[.pointer (some ⟨g,0,none⟩),.string ⟨nm.toArray⟩] w fun en w'=>en= .returned (.tuple #[])∧DkI w' g m kv (q2k FE.nm nm L) (q0P (q2k FM.nm nm σ.L):Int) {σ with L:=q2k FM.nm nm σ.L}∧OffS (MutD g m L) w w':=by
 obtain ⟨he,hen⟩:=q0O hf;obtain ⟨ao,cap,hv,h1,h2,h3,_⟩:=(h.fs.row e he).rd;have hfm:q0H FM.nm nm σ.L=some e.f:=by
  rw[←h.files,q1m (k:=FE.nm) (k':=FM.nm) (h:=FE.f) (fun x=>rfl),hf];rfl
 have hsum:=q9u ho.ord hfm;have hus:=ho.used;have hcap:=ho.cap1;have hrun:=q8i h.fs hl hf;have f0:=h.f0 he;rw[hv] at f0;have c2:=h.c2;have c3:=h.c3;have z2:=h.z 2;have hgb:=h.neB he;have hgm:g≠m:=q5f h.fs.map h.head;have HI:=η23 h;have HSum:=η23 hsum;obtain ⟨us,hu⟩: ∃us,q0P σ.L=us:=⟨_,rfl⟩
 obtain ⟨dl,hdl⟩: ∃dl,e.f.da.length=dl:=⟨_,rfl⟩
 rw[hdl] at f0 hsum h1;rw[hu] at c2 hsum hus;have HU:=η23 hu;have HD:=η23 hdl;have hle:(dl:Int)≤(us:Int):=by omega
 have hus1:(us:Int)≤1048576:=by omega
 have HKey:=η23 (z7W nm hl);clear h ho hfm hsum hus hcap hf he hen hv hu hdl;generalize e.b=bb at*;go_enter Tryz.func170,Tryz.ntmps170;go_wp2_with fail
 go_region
 have hblk0:=η23 (((HI.out.head.set 2 (.int .i64 ((us:Int)-(dl:Int)))).drew));have hmp:((w.setCell ⟨g,2,none⟩ (.int .i64 ((us:Int)-(dl:Int)))).drew).ownsMap Tryz.prog 9 q6I m L.length (q5w L):=q2C HI.out.fs.map (q0L _ _ (Ne.symm hgm));have HMp:=η23 hmp;clear hmp;have c3':((w.setCell ⟨g,2,none⟩ (.int .i64 ((us:Int)-(dl:Int)))).drew).cell? ⟨g,3,none⟩=some (.map (some m)):=hblk0.out.cell 3
 go_wp2_with (at_delete;refine wpList_delete_own _ rfl _ _ 128 9 rfl 217 z9X Tryz.underlying128 q6I m L.length (q5w L) rfl HMp.out _ (.string nm) rfl HKey.out ?_;intro w3 hown3 hturn3)
 have HOw:=η23 hown3;have HTu:=η23 hturn3;clear hown3 hturn3;go_wp2_with fail
 go_end0
 have hw: ∀i,i≠g→i≠m→i<w.heap.size→w3.heap[i]? =w.heap[i]? :=fun i hg hm hl=>(HTu.out.grown.block i (by simpa [World.setCell,World.drew] using hl) (fun e1=>hm (by cases e1;rfl))).trans (by rw[q7I,q0L _ _ hg])
 refine ⟨rfl,⟨?_,?_,?_,?_⟩,?_⟩
 ·have hh:=hblk0.out.same (w':=w3) (HTu.out.grown.block g hblk0.out.lt (fun e1=>hgm (by cases e1;rfl)))
  have e1:((us:Int)-(dl:Int))=(q0P (q2k FM.nm nm σ.L):Int):=by
   have:=HSum.out;rw[HU.out,HD.out] at this;omega
  rw[e1] at hh;exact hh
 ·refine HI.out.fs.del nm HOw.out fun i hi hm=>hw i (fun e1=>HI.out.ne (e1▸hi)) hm (HI.out.fs.lt hi)
 ·show (q2k FE.nm nm L).map FE.f=q2k FM.nm nm σ.L
  rw[z3B (k:=FE.nm) (k':=FM.nm) (h:=FE.f) (fun x=>rfl),HI.out.files]
 ·exact HI.out.keep.same fun i hi=>hw i (HI.out.keepF hi).1 (fun e1=>(HI.out.keepF hi).2 (.inl e1)) (HI.out.keep.lt i hi).2
 ·refine ⟨HTu.out.grown.os,HTu.out.grown.tape,HTu.out.grown.output,by simpa [World.setCell,World.drew] using HTu.out.grown.size,fun i hl hn=>hw i (fun e1=>hn (.inl e1)) (fun e1=>hn (.inr (.inl e1))) hl⟩
theorem z6F {w:World} {g m:Nat} {L:List FE} (c3:w.cell? ⟨g,3,none⟩=some (.map (some m))) (hfs:FS w m L) {nm:List UInt8} (hl:nm.length≤9223372036854775807) (hf:q0H FE.nm nm L=none):
  Calls Tryz.prog 170 #[.pointer (some ⟨g,0,none⟩),.string ⟨nm.toArray⟩] w fun en w'=>en= .returned (.tuple #[])∧w=w':=by
 have hrun:=z1W hfs hl hf;clear hfs hf;go_enter Tryz.func170,Tryz.ntmps170;go_wp2_with fail
 go_end0
 exact ⟨rfl,rfl⟩
theorem y0E {w:World} {g m:Nat} {kv:Value} {L:List FE} {σ:DM} (h:DkI w g m kv L (q0P σ.L:Int) σ) (ho:okD σ) (nm:List UInt8) (hl:nm.length≤9223372036854775807):
  Calls Tryz.prog 170 #[.pointer (some ⟨g,0,none⟩),.string ⟨nm.toArray⟩] w fun en w'=>en= .returned (.tuple #[])∧DkI w' g m kv (q2k FE.nm nm L) (q0P (q2k FM.nm nm σ.L):Int) {σ with L:=q2k FM.nm nm σ.L}∧OffS (MutD g m L) w w':=by
 cases hf:q0H FE.nm nm L with
 |some e=>exact z4j h ho hl hf
 | none=>
  refine (z6F h.c3 h.fs hl hf).mono ?_;rintro en w' ⟨rfl,rfl⟩;have hfm:q0H FM.nm nm σ.L=none:=by rw[←h.files,q1m (k:=FE.nm) (k':=FM.nm) (h:=FE.f) (fun x=>rfl),hf];rfl
  refine ⟨rfl,?_,OffS.refl _ _⟩;rw[q5Y hf,q5Y hfm];exact h
theorem z2W {w:World} {g:Nat} {F:Nat→Prop} {σ:DM} (h:Dk w g F σ) (nm:List UInt8) (hl:nm.length≤9223372036854775807):
  Calls Tryz.prog 109 #[.pointer (some ⟨g,0,none⟩),.string ⟨nm.toArray⟩] w fun e w'=>e= .returned (.int .i64 (q1S σ nm).1)∧DkS w g F (q1S σ nm).2 w':=by
 obtain ⟨ho,m,kv,L,hi,fin⟩:=h.openD;have HF:=η23 fin;have HI:=η23 hi;have HO:=η23 ho;clear h fin;rcases z0I hi nm hl with ⟨hd,R,_⟩|⟨hd,hf,_,R,_⟩|⟨hd,e,hfe,hf,he,R,_⟩
 ·have HM:Hid (q1S σ nm=(61,σ)):=η23 (by unfold q1S;rw[if_pos hd])
  clear hi ho hd;go_enter Tryz.func109,Tryz.ntmps109;go_wp2_with fail;refine R.out.mono ?_;rintro e w' ⟨rfl,rfl⟩;go_wp2_with fail;go_ret;rw[HM.out];exact ⟨rfl,HF.out _ _ (Fin.same HO.out HI.out)⟩
 ·have HM:Hid (q1S σ nm=(4,σ)):=η23 (by unfold q1S;rw[if_neg (by rw[hd];decide),hf];rfl)
  clear hi ho hd hf;go_enter Tryz.func109,Tryz.ntmps109;go_wp2_with fail;refine R.out.mono ?_;rintro e w' ⟨rfl,rfl⟩;go_wp2_with fail;go_ret;rw[HM.out];exact ⟨rfl,HF.out _ _ (Fin.same HO.out HI.out)⟩
 ·cases hfl:q2B σ with
  | true=>
   have HM:Hid (q1S σ nm=(61,q5F σ)):=η23 (by unfold q1S;rw[if_neg (by rw[hd];decide),hf,hfl];rfl);have HS:=η23 (z2z hi hfl);have HK:=η23 (z2i hi ho hd);clear hi ho hd hf hfe he hfl;generalize e.b=bb at*;go_enter Tryz.func109,Tryz.ntmps109;go_wp2_with fail;refine R.out.mono ?_;rintro e w' ⟨rfl,rfl⟩;go_wp2_with fail;refine HS.out.mono ?_;rintro e w' ⟨rfl,rfl⟩;go_wp2_with fail;refine HK.out.mono ?_;rintro e w' ⟨rfl,hfin⟩;have HX:=η23 hfin;clear hfin;go_wp2_with fail;go_ret;rw[HM.out];exact ⟨rfl,HF.out _ _ HX.out⟩
  | false=>
   have HM:Hid (q1S σ nm=(0,{q2W σ with L:=q2k FM.nm nm σ.L})):=η23 (by unfold q1S;rw[if_neg (by rw[hd];decide),hf,hfl];rfl);have HS:=η23 (z2P hi ho hfl);have HO':Hid (okD {q2W σ with L:=q2k FM.nm nm (q2W σ).L}):=η23 (ho.tick.delete nm);have HOt:=η23 ho.tick;clear hi ho hd hf hfe he hfl;generalize e.b=bb at*;go_enter Tryz.func109,Tryz.ntmps109;go_wp2_with fail;refine R.out.mono ?_;rintro e w' ⟨rfl,rfl⟩;go_wp2_with fail;refine HS.out.mono ?_;rintro en w1 ⟨rfl,hi1,hof,hsz,hsame⟩;have HI1:=η23 hi1;have HOf:Hid (OffS (InD g m kv L) w w1):=η23 hof.inD;clear hi1 hof hsz hsame;go_wp2_with fail;refine (y0E HI1.out HOt.out nm hl).mono ?_;rintro en w2 ⟨rfl,hi2,hof2⟩;have HX:Fin w1 g m kv L {q2W σ with L:=q2k FM.nm nm (q2W σ).L} w2:=by
    refine ⟨HO'.out,m,kv,_,hi2,fun i hx=>?_,hof2.inD⟩;rcases hx with h1|h1|h1
    ·exact .inl (.inl h1)
    ·exact .inl (.inr (.inl h1.del))
    ·exact .inl (.inr (.inr h1))
   have HX:=η23 (Fin.after (fun i hi=> .inl hi) HOf.out HX);clear hi2 hof2;go_wp2_with fail;go_ret;rw[HM.out];exact ⟨rfl,HF.out _ _ HX.out⟩
end
section
open Go.RowKit
end
end Go.Proofs.YthdekbmdkpcooaaGreatDoor
