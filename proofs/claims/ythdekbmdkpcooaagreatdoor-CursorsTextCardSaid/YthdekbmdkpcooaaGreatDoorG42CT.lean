/- Walks. -/
import Derived.Test.YthdekbmdkpcooaaGreatDoorG39CT
import Derived.Test.YthdekbmdkpcooaaGreatDoorG4CT
import Derived.Deep.Cut
set_option linter.unusedVariables false
set_option linter.unusedSimpArgs false
set_option maxRecDepth 100000
set_option maxHeartbeats 6400000
namespace Go.Proofs.YthdekbmdkpcooaaGreatDoor
theorem η42 {p:Prop} (h:p):Go.RowKit.Hid p:=Lib.hid h
section
open Go.RowKit
abbrev Strs :=Slf encStr
theorem q6r (a b:UInt8):(a==b)=decide ((a.toNat:Int)=(b.toNat:Int)):=by
 rw[Bool.eq_iff_iff];simp only[beq_iff_eq,decide_eq_true_eq]
 constructor
 ·rintro rfl;rfl
 ·intro h;exact UInt8.toNat_inj.1 (by omega)
def sN :List UInt8:=[]
def RetNm (w:World) (N:List (List UInt8)) (e:Ending) (w':World):Prop:=
 ∃ao cap,e= .returned (.slice ao N.length cap)∧Own w' w.heap.size 9 1 (.slice ao N.length cap) N.length (N.map encStr)∧Ext w w'
theorem RetN.s {w w':World} {N:List (List UInt8)} {e:Ending} (h:RetN w N e w'):RetNm w N e w':=h.out
theorem RetNm.strs {w w':World} {N:List (List UInt8)} {e:Ending} (h:RetNm w N e w'): ∃ao cap,e= .returned (.slice ao N.length cap)∧Strs w' ao N.length cap N∧Ext w w':=by
 obtain ⟨ao,cap,rfl,h1,h2⟩:=h;obtain ⟨a,c,e,h3⟩:=Slf.of_own h1
 cases e;exact ⟨_,_,rfl,h3,h2⟩
def q1X (T:List Int) (nm:List UInt8):Bool:=nm==z3n||((q0w nm).2.2&&((q0w nm).1==116||(q0w nm).1==98)&&!decide (((q0w nm).2.1:Int)∈T))
theorem z5A {w :World} {p:Option Addr} {N:List (List UInt8)} (hN: ∀W,Ext w W→Calls Tryz.prog 171 #[.pointer p] W (RetNm W N)) (hNl: ∀s∈N,s.length≤9223372036854775807) (hNn:N.length≤1000000)
  {nx ck sd:Int} {ao:Option Addr} {n cap:Nat} {L:List (List Int)} (hG:Grid w ao n cap L) (hsum:L.flatten.length≤17592186044416):
  Calls Tryz.prog 181 #[.pointer p,.agg #[.int .i64 nx,.int .i64 ck,.int .u64 sd,.slice ao n cap]] w (RetNm w (N.filter (q1X L.flatten))):=by
 have hx:=q0B w (.cells #[.int .i64 nx,.int .i64 ck,.int .u64 sd,.slice ao n cap] 148);have HX:=η42 hx;have HA:=η42 (z3k ao n cap L _ (hG.ext hx) hsum);have HN:=η42 hN;have HNl:=η42 hNl;have hb:=Blk.new w 148 #[.int .i64 nx,.int .i64 ck,.int .u64 sd,.slice ao n cap];have d3:=hb.cell 3;obtain ⟨T,hT⟩: ∃T,L.flatten=T:=⟨_,rfl⟩
 rw[hT] at HA⊢;obtain ⟨m,hm⟩: ∃m,N.length=m:=⟨_,rfl⟩
 have HM:=η42 hm;have hm1:m≤1000000:=by omega
 have HCnt:Hid (∀k,((N.take k).filter (q1X T)).length≤1000000):=η42 fun k=>by
  have h1:=List.length_filter_le (q1X T) (N.take k);have h2:(N.take k).length≤N.length:=by rw[List.length_take];omega
  omega
 clear hN hNl hG hsum hx hb hT hm hNn;go_enter Tryz.func181,Tryz.ntmps181;go_wp2_with fail;refine HA.out.mono ?_;rintro e w1 ⟨v1,rfl,hown,hx⟩;obtain ⟨ta,tc,rfl,hti⟩:=q2l hown;have HX1:=η42 (HX.out.trans hx);have HTi:=η42 hti;clear hown hx hti d3;go_wp2_with fail;refine (HN.out _ HX1.out).mono ?_;intro e w2 hr;obtain ⟨na,nc,rfl,hns,hx⟩:=hr.strs;have HX2:=η42 (HX1.out.trans hx);have HTi:=η42 (HTi.out.ext hx);rw[HM.out] at hns;have HNs:=η42 hns;have hf1:=hns.fits;have hf2:=hns.bound;rw[HM.out];clear hr hx hns;go_wp2_with fail
 go_loopw [6,18] (fun v i wr=> ∃k:Nat,k≤m∧i= .int .i64 k∧Own wr w2.heap.size 9 1 v ((N.take k).filter (q1X T)).length (((N.take k).filter (q1X T)).map encStr)∧Ext w2 wr) (fun _ i _=>m-(intOf i).toNat)
 case atStart=>exact ⟨0,Nat.zero_le _,rfl,Own.nil _ _ _ _,Ext.refl _⟩
 case round=>
 obtain ⟨k,hk,rfl,hown,hb⟩:=hrel;have Hb:=η42 hb;have Hown:=η42 hown;clear hb hown;by_cases hlt:k<m
 ·have hkN : k<N.length:=by rw[HM.out];exact hlt
  obtain ⟨b,off,rfl,z1⟩:=(HNs.out.ext Hb.out).at sN hlt;have hxl:(N.getD k sN).length≤9223372036854775807:=HNl.out _ (by rw[List.getD_eq_getElem?_getD,List.getElem?_eq_getElem hkN];exact List.getElem_mem hkN);have ht:=q0T N sN k hkN;obtain ⟨x,hx⟩: ∃x,N.getD k sN=x:=⟨_,rfl⟩
  rw[hx] at z1 hxl ht;have HSk:Hid (q1X T x=false→(N.take (k+1)).filter (q1X T)=(N.take k).filter (q1X T)):=η42 fun h=>by rw[ht,List.filter_append];simp[h]
  have HAk:Hid (q1X T x=true→ ∀{W:World} {v:Value},Own W w2.heap.size 9 1 v (((N.take k).filter (q1X T)).length+1) (((N.take k).filter (q1X T)).map encStr++[encStr x])=Own W w2.heap.size 9 1 v ((N.take (k+1)).filter (q1X T)).length (((N.take (k+1)).filter (q1X T)).map encStr)):=η42 fun h=>by
   intro W v;rw[ht,List.filter_append];simp[h]
  have HOb:Hid (q1X T x=(x==z3n||((q0w x).2.2&&((q0w x).1==116||(q0w x).1==98)&&!decide (((q0w x).2.1:Int)∈T)))):=η42 rfl;have HPa:=η42 fun W=>z1v x W hxl
  clear hx ht;obtain ⟨K,hK⟩: ∃K:Int,((q0w x).1.toNat:Int)=K:=⟨_,rfl⟩
  obtain ⟨M,hM⟩: ∃M:Int,((q0w x).2.1:Int)=M:=⟨_,rfl⟩
  obtain ⟨ok,hok⟩: ∃ok:Bool,(q0w x).2.2=ok:=⟨_,rfl⟩
  have HK1:Hid (((q0w x).1==116)=decide (K=116)):=η42 (by rw[←hK];exact q6r _ 116);have HK2:Hid (((q0w x).1==98)=decide (K=98)):=η42 (by rw[←hK];exact q6r _ 98);rw[hM,hok] at HOb;rw[HK1.out,HK2.out] at HOb;have HPb:Hid (∀W,Calls Tryz.prog 172 #[.string ⟨x.toArray⟩] W fun e w'=>e= .returned (.tuple #[.int .u8 K,.int .i64 M,.bool ok])∧Ext W w'):=η42 (by rw[←hK,←hM,←hok];exact HPa.out);clear hK hM hok HPa HK1 HK2;go_wp2_with fail;refine (HPb.out wr).mono ?_;rintro e w3 ⟨rfl,hx⟩;have HB3:=η42 (Hb.out.trans hx);have HO3:=η42 (Hown.out.ext hx);clear hx z1
  cases hnew:x==z3n with
  | true=>
   have HY:Hid (q1X T x=true):=η42 (by rw[HOb.out,hnew];rfl);have hnew':(x==[110,101,119])=true:=hnew;clear hnew
   go_wp2_with (at_builtin;refine q0g rfl _ _ 255 rfl w2.heap.size 9 _ 1 16 Tryz.underlying255 z5e rfl (by decide) _ _ _ rfl (HO3.out.ext ((Ext.refl _).alloc _)) _ _ _ [encStr x] rfl rfl (fun h=>by cases h) (Rd.lit _ _ _) (by intro u hu;rw[List.mem_singleton.1 hu];rfl) (by have:=HCnt.out k;omega) (by have:=HCnt.out k;omega) (by have:=HB3.out.size;simp;omega) ?_;intro v' w6 hown' hg hfr)
   have hb1:=q1U (HB3.out.alloc (.cells #[encStr x] 9)) (HO3.out.ext ((Ext.refl _).alloc _)) hg (by have:=HB3.out.size;simp;omega);have HB6:=η42 hb1;clear hb1;have hown2:=(HAk.out HY.out).symm▸hown';have HO:=η42 hown2;clear hown2 hown' hg hfr;go_wp2_with fail
   go_roundw
   case rel=>exact ⟨k+1,by omega,by go_num,HO.out,HB6.out⟩
   case measure=>simp[intOf];omega
  | false =>
   have hnew':(x==[110,101,119])=false:=hnew;rw[hnew] at HOb;clear hnew
   cases ok with
   | false=>
    have HY:Hid (q1X T x=false):=η42 (by rw[HOb.out];rfl);go_wp2_with fail
    go_roundw
    case rel=>exact ⟨k+1,by omega,by go_num,by rw[HSk.out HY.out];exact HO3.out,HB3.out⟩
    case measure=>simp[intOf];omega
   | true =>
    have HCo:=η42 (z3K _ _ _ T M w3 (HTi.out.ext HB3.out));by_cases hk3:K=116∨K=98
    case neg=>
     have HY:Hid (q1X T x=false):=η42 (by rw[HOb.out,decide_eq_false (fun h=>hk3 (.inl h)),decide_eq_false (fun h=>hk3 (.inr h))];rfl);have hk1:(K==116)=false:=by simpa using fun h=>hk3 (.inl h)
     have hk2:(K==98)=false:=by simpa using fun h=>hk3 (.inr h)
     go_wp2_with fail
     go_roundw
     case rel=>exact ⟨k+1,by omega,by go_num,by rw[HSk.out HY.out];exact HO3.out,HB3.out⟩
     case measure=>simp[intOf];omega
    case pos=>
     have HOc:Hid (q1X T x=!decide (M∈T)):=η42 (by
      rw[HOb.out];rcases hk3 with h|h
      ·rw[decide_eq_true h];simp
      ·rw[decide_eq_true h];simp)
     generalize hdd:decide (M∈T)=dd at HCo HOc;rcases hk3 with rfl|rfl
     all_goals
      go_wp2_with fail;refine HCo.out.mono ?_;rintro e w4 ⟨rfl,hx⟩;have HB4:=η42 (HB3.out.trans hx);have HO4:=η42 (HO3.out.ext hx);clear hx
      cases dd with
      | true=>
       have HY:Hid (q1X T x=false):=η42 HOc.out;go_wp2_with fail
       go_roundw
       case rel=>exact ⟨k+1,by omega,by go_num,by rw[HSk.out HY.out];exact HO4.out,HB4.out⟩
       case measure=>simp[intOf];omega
      | false=>
       have HY:Hid (q1X T x=true):=η42 HOc.out
       go_wp2_with (at_builtin;refine q0g rfl _ _ 255 rfl w2.heap.size 9 _ 1 16 Tryz.underlying255 z5e rfl (by decide) _ _ _ rfl (HO4.out.ext ((Ext.refl _).alloc _)) _ _ _ [encStr x] rfl rfl (fun h=>by cases h) (Rd.lit _ _ _) (by intro u hu;rw[List.mem_singleton.1 hu];rfl) (by have:=HCnt.out k;omega) (by have:=HCnt.out k;omega) (by have:=HB4.out.size;simp;omega) ?_;intro v' w6 hown' hg hfr)
       have hb1:=q1U (HB4.out.alloc (.cells #[encStr x] 9)) (HO4.out.ext ((Ext.refl _).alloc _)) hg (by have:=HB4.out.size;simp;omega);have HB6:=η42 hb1;clear hb1;have hown2:=(HAk.out HY.out).symm▸hown';have HO:=η42 hown2;clear hown2 hown' hg hfr;go_wp2_with fail
       go_roundw
       case rel=>exact ⟨k+1,by omega,by go_num,HO.out,HB6.out⟩
       case measure=>simp[intOf];omega
 ·obtain rfl:k=m:=by omega
  have HTk:Hid (N.take k=N):=η42 (List.take_of_length_le (by rw[HM.out];exact Nat.le_refl _));have hown:=Hown.out;rw[HTk.out] at hown;obtain ⟨oa,oc,rfl⟩:=hown.slice;have HFin:=η42 hown;clear hown;go_wp2_with fail;go_ret;exact ⟨oa,oc,rfl,HFin.out.base HX2.out.size,HX2.out.trans Hb.out⟩
end
section
open Go.RowKit
end
section
open Go.RowKit
theorem z7b {w:World} {g:Nat} {F:Nat→Prop} {σ:DM} (h:Dk w g F σ):Calls Tryz.prog 171 #[.pointer (some ⟨g,0,none⟩)] w (RetNm w (q1Z σ)):=by
 obtain ⟨ho,m,kv,L,hi,_⟩:=h;have:=ho.many;have hl:L.length=σ.L.length:=by rw[←hi.files,List.length_map]
 have hn:=z1d w g m L hi.c0 hi.c3 hi.fs (by omega);have e:L.map FE.nm=q1Z σ:=by unfold q1Z;rw[←hi.files,List.map_map];rfl
 rw[e] at hn;exact hn.mono fun _ _ h=>h.s
theorem Slf.off {α:Type} {f:α→Value} {F:Nat→Prop} {w:World} {ka:Option Addr} {kn kc:Nat} {xs:List α} (h:Slf f w ka kn kc xs) (hn: ∀a,ka=some a→¬F a.block): ∀W,OffS F w W→Slf f W ka kn kc xs:=fun W hW=>by
 refine ⟨h.len,h.fits,h.bound,h.nil,fun j u hj=>?_⟩;obtain ⟨b,off,e,hc⟩:=h.rd j u hj;refine ⟨b,off,e,?_⟩;have hb:=hW.block b (World.block_lt_of_cell? (h:=hc)) (hn _ e);simp only[World.cell?,hb] at hc⊢;exact hc
def q5C (σ:DM) (ns:List (List UInt8)):DM:={σ with L:=ns.foldl (fun L nm=>q2k FM.nm nm L) σ.L}
theorem z7S (σ:DM):q5C σ []=σ:=rfl
theorem z4n (σ:DM) (ns:List (List UInt8)) (x:List UInt8):q5C σ (ns++[x])={σ with L:=q2k FM.nm x (q5C σ ns).L}:=by unfold q5C;rw[List.foldl_append];rfl
theorem z4o : ∀(ns:List (List UInt8)) (L:List FM),ns.foldl (fun L nm=>q2k FM.nm nm L) L=L.filter fun f=>!ns.contains f.nm
 |[],L=>(List.filter_eq_self.2 fun _ _=>rfl).symm
 | x::r,L=>by
  rw[List.foldl_cons,z4o r];unfold q2k;rw[List.filter_filter];refine List.filter_congr fun y _=>?_
  rw[List.contains_cons]
  cases y.nm==x<;>simp
theorem z6W {σ:DM} (hup:σ.down=false) (hf:σ.fail=false) (hl:σ.left=0) {ns:List (List UInt8)} {x:List UInt8} (hx:x∈q1Z σ) (hn:x∉ns):q1S (q5C σ ns) x=(0,q5C σ (ns++[x])):=by
 have hL:(q5C σ ns).L=σ.L.filter fun f=>!ns.contains f.nm:=z4o ns σ.L
 have hfind:(q0H FM.nm x (q5C σ ns).L).isNone=false:=by
  rw[hL]
  cases hq:q0H FM.nm x (σ.L.filter fun f=>!ns.contains f.nm) with
  |some _=>rfl
  | none=>
   obtain ⟨f,hfm,rfl⟩:=List.mem_map.1 hx;exact absurd rfl (q1v hq f (List.mem_filter.2 ⟨hfm,by simpa using hn⟩))
 unfold q1S;rw[if_neg (by show ¬σ.down=true;rw[hup];decide),if_neg (by rw[hfind];decide),if_neg (by show ¬(σ.fail&&decide (σ.left=0))=true;rw[hf];simp),z4n]
 congr 1
 show DM.mk _ _ _ _ _ _ (max (σ.left-1) 0) _=DM.mk _ _ _ _ _ _ σ.left _;rw[hl];rfl
theorem z7B {σ:DM} (p:List UInt8→Bool):q5C σ ((q1Z σ).filter p)={σ with L:=σ.L.filter fun f=>!p f.nm}:=by
 unfold q5C;rw[z4o]
 congr 1
 refine List.filter_congr fun f hf=>?_
 congr 1
 rw[Bool.eq_iff_iff,List.contains_iff_mem,List.mem_filter];exact ⟨fun h=>h.2,fun h=>⟨List.mem_map.2 ⟨f,hf,rfl⟩,h⟩⟩
theorem z0z {σ:DM} (h:okD σ):(q1Z σ).Nodup:=by
 unfold q1Z;exact List.pairwise_map.2 (z0U h.ord)
theorem DkS.pre {w w2 wr:World} {g:Nat} {F:Nat→Prop} {τ:DM} (hx:Ext w w2) (hF: ∀i,F i→i<w.heap.size) (h:DkS w2 g F τ wr):DkS w g F τ wr:=by
 have s1:=hx.size;have s2:=h.off.size;refine ⟨h.dk.mono (fun i hi=>?_) (fun i hi=>?_),(OffS.of_ext hx).trans h.off⟩
 ·rcases hi with h1|h1
  ·exact .inl h1
  ·exact .inr (by omega)
 ·rcases hi with h1|h1
  ·have:=hF i h1;omega
  ·exact h1.2
theorem z5B {w:World} {g:Nat} {F:Nat→Prop} {σ:DM} (h:Dk w g F σ) (hup:σ.down=false) (hf:σ.fail=false) (hNl: ∀s∈q1Z σ,s.length≤9223372036854775807)
  {nx ck sd:Int} {ao:Option Addr} {n cap:Nat} {L:List (List Int)} (hG:Grid w ao n cap L) (hsum:L.flatten.length≤17592186044416):
  Calls Tryz.prog 117 #[.pointer (some ⟨g,0,none⟩),.agg #[.int .i64 nx,.int .i64 ck,.int .u64 sd,.slice ao n cap]] w fun e w'=>e= .returned (.int .i64 0)∧DkS w g F {σ with L:=σ.L.filter fun f=>!q1X L.flatten f.nm} w':=by
 obtain ⟨w1,hw1⟩: ∃W,w.alloc (.cells #[.int .i64 nx,.int .i64 ck,.int .u64 sd,.slice ao n cap] 148)=W:=⟨_,rfl⟩
 have hx:Ext w w1:=by rw[←hw1];exact q0B w _
 have HX:=η42 hx;have HD:=η42 (h.ext hx);have HOv:Hid (z0w σ=0):=η42 (by unfold z0w;rw[if_neg (by rw[hup];decide)]);have HSt:Hid (∀(ns:List (List UInt8)) (x:List UInt8),x∈q1Z σ→x∉ns→q1S (q5C σ ns) x=(0,q5C σ (ns++[x]))):=η42 fun ns x h1 h2=>z6W hup hf (h.1.idle hf) h1 h2
 have HNd:=η42 (z0z h.1);have HLt:Hid (∀i,F i→i<w.heap.size):=η42 (by obtain ⟨_,_,_,_,_,_,h⟩:=h;exact h);have HNm:Hid ((q1Z σ).length≤1000000):=η42 (by have:=h.1.many;unfold q1Z;rw[List.length_map];omega);have HG:=η42 (hG.ext hx);have HNl:=η42 hNl;have hb:Blk w1 w.heap.size 148 #[.int .i64 nx,.int .i64 ck,.int .u64 sd,.slice ao n cap]:=by rw[←hw1];exact Blk.new w _ _
 have d0:=hb.cell 0;have d1:=hb.cell 1;have d2:=hb.cell 2;have d3:=hb.cell 3;clear h hup hf hNl hG hx hb;go_enter Tryz.func117,Tryz.ntmps117;go_wp2_with fail
 try rw[hw1]
 have HW1:=η42 hw1;clear hw1;refine (y1G HD.out).mono ?_;rw[HOv.out];rintro e w' ⟨rfl,rfl⟩;go_wp2_with fail;refine (z5A (fun W hW=>z7b (HD.out.ext hW)) HNl.out HNm.out HG.out hsum).mono ?_;obtain ⟨O,hO⟩: ∃O,(q1Z σ).filter (q1X L.flatten)=O:=⟨_,rfl⟩
 have HAll:Hid (q5C σ O={σ with L:=σ.L.filter fun f=>!q1X L.flatten f.nm}):=η42 (by rw[←hO];exact z7B _);have HOs:Hid (∀x∈O,x∈q1Z σ):=η42 (by rw[←hO];exact fun x hx=>(List.mem_filter.1 hx).1);have HOd:Hid O.Nodup:=η42 (by rw[←hO];exact HNd.out.filter _);rw[hO];intro e w2 hr;obtain ⟨oa,oc,rfl,hown,hx⟩:=hr;have HD2:=η42 (HD.out.ext hx);have HX2:=η42 (HX.out.trans hx);have hob:=hown.lt;obtain ⟨oa',oc',e2,hst⟩:=Slf.of_own hown
 cases e2;have hf1:=hst.fits;have hf2:=hst.bound
 have HStr:=η42 (hst.off (F:=F) (fun a e hfa=>by
  subst e;have h1:=(hob a.block rfl).1;have h2:=HX.out.size;have h3:=HLt.out _ hfa
  omega))
 obtain ⟨m,hm⟩: ∃m,O.length=m:=⟨_,rfl⟩
 rw[hm] at hf1 HStr⊢;have HM:=η42 hm;clear hx hown hob hst hO hm d0 d1 d2 d3;go_wp2_with fail
 go_loopw [18] (fun i wr=> ∃k:Nat,k≤m∧i= .int .i64 k∧DkS w2 g F (q5C σ (O.take k)) wr) (fun i _=>m-(intOf i).toNat)
 case atStart=>exact ⟨0,Nat.zero_le _,rfl,by rw[List.take_zero,z7S];exact DkS.refl HD2.out⟩
 case round=>
 obtain ⟨k,hk,rfl,hdk⟩:=hrel;have HDk:=η42 hdk;clear hdk;by_cases hlt:k<m
 ·have hkN:k<O.length:=by rw[HM.out];exact hlt
  obtain ⟨b,off,rfl,z1⟩:=(HStr.out wr HDk.out.off).at sN hlt;have hxe:O.getD k sN=O[k]:=by rw[List.getD_eq_getElem?_getD,List.getElem?_eq_getElem hkN];rfl
  have HTk:Hid (O.take (k+1)=O.take k++[O.getD k sN]):=η42 (q0T O sN k hkN);have hmem:O.getD k sN∈q1Z σ:=HOs.out _ (by rw[hxe];exact List.getElem_mem hkN);have hnot:O.getD k sN∉O.take k:=by
   rw[hxe];have h2:(O.take (k+1)).Nodup:=HOd.out.sublist (List.take_sublist _ _);rw[List.take_succ_eq_append_getElem hkN,List.nodup_append] at h2;exact fun h=>h2.2.2 _ h _ (List.mem_singleton.2 rfl) rfl
  have HSp:=η42 (HSt.out _ _ hmem hnot);have hxl:=HNl.out _ hmem;obtain ⟨x,hx⟩: ∃x,O.getD k sN=x:=⟨_,rfl⟩
  rw[hx] at z1 hxl HSp HTk;clear hx hmem hnot hxe;go_wp2_with fail;refine (z2W HDk.out.dk x hxl).mono ?_;rw[HSp.out];rintro e w3 ⟨rfl,hd⟩;have HD3:=η42 (HDk.out.trans hd);clear hd z1;go_wp2_with fail
  go_roundw
  case rel=>exact ⟨k+1,by omega,by go_num,by rw[HTk.out];exact HD3.out⟩
  case measure=>simp[intOf];omega
 ·obtain rfl:k=m:=by omega
  have HTk:Hid (O.take k=O):=η42 (List.take_of_length_le (by rw[HM.out];exact Nat.le_refl _));have hd:=HDk.out;rw[HTk.out,HAll.out] at hd;have HFin:=η42 (DkS.pre HX2.out HLt.out hd);clear hd;go_wp2_with fail;go_ret;exact ⟨rfl,HFin.out⟩
end
end Go.Proofs.YthdekbmdkpcooaaGreatDoor
