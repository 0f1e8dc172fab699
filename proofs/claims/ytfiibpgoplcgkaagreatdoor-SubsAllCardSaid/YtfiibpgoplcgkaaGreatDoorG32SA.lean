/- Walks. -/
import Derived.Test.YtfiibpgoplcgkaaGreatDoorG30SA
import Derived.Test.YtfiibpgoplcgkaaGreatDoorG3SA
import Derived.Deep.Cut
set_option linter.unusedVariables false
set_option linter.unusedSimpArgs false
set_option maxRecDepth 100000
set_option maxHeartbeats 6400000
namespace Go.Proofs.YtfiibpgoplcgkaaGreatDoor
variable {w w':World}{N:List (List UInt8)}{nx ck sd:Int}{ao:Option Addr}{n cap g:Nat}{L:List (List Int)}{F:Nat->Prop}{σ:DM}
section
open Go.RowKit
abbrev Strs :=Slf encStr
theorem q7P(a b:UInt8):(a==b)=decide ((a.toNat:Int)=(b.toNat:Int)):=by
 rw[Bool.eq_iff_iff];simp only[beq_iff_eq,Φ]
 constructor
 ·rintro rfl;rfl
 ·intro h;exact UInt8.toNat_inj.1 (by omega)
def sN :List UInt8:=[]
def RetNm(w:World)(N:List (List UInt8))(e:Ending)(w':World):Prop:=
 ∃ao cap,e= .returned (.slice ao N.length cap)/\Own w' w.heap.size 9 1 (.slice ao N.length cap) N.length (N.map encStr)/\Ext w w'
theorem RetN.s{e:Ending}(h:RetN w N e w'):RetNm w N e w':=h.o
theorem RetNm.strs{e:Ending}(h:RetNm w N e w'): ∃ao cap,e= .returned (.slice ao N.length cap)/\Strs w' ao N.length cap N/\Ext w w':=by
 obtain⟨ao,cap,rfl,b,d⟩:=h;obtain⟨a,c,e,i⟩:=Slf.of_own b
 cases e;exact⟨_,_,rfl,i,d⟩
def q1l(T:List Int)(nm:List UInt8):Bool:=nm==z2X||((q1F nm).2.2&&((q1F nm).1==116||(q1F nm).1==98)&&!decide (((q1F nm).2.1:Int)∈T))
theorem z7K{p:Option Addr}(hN: ∀W,Ext w W->Calls Tryz.prog 81 #[.pointer p] W (RetNm W N))(k0: ∀s∈N,s.length<=9223372036854775807)(s0:N.length<=1000000)
  (hG:Grid w ao n cap L)(Q:L.flatten.length<=17592186044416):
  Calls Tryz.prog 204 #[.pointer p,.agg #[.int .i64 nx,.int .i64 ck,.int .u64 sd,.slice ao n cap]] w (RetNm w (N.filter (q1l L.flatten))):=by
 have q:=q0B w (.cells #[.int .i64 nx,.int .i64 ck,.int .u64 sd,.slice ao n cap] 47);have HX:=η q;have HA:=η (z4U ao n cap L _ (hG.ext q) Q);have HN:=η hN;have o0:=η k0;have hb:=Blk.new w 47 #[.int .i64 nx,.int .i64 ck,.int .u64 sd,.slice ao n cap];have d3:=hb.cell 3;obtain⟨T,hT⟩: ∃T,L.flatten=T:=⟨_,rfl⟩
 rw[hT] at HA⊢;obtain⟨m,hm⟩: ∃m,N.length=m:=⟨_,rfl⟩
 have HM:=η hm;have x0:m<=1000000:=by omega
 have B:Hd (∀k,((N.take k).filter (q1l T)).length<=1000000):=η fun k=>by
  have h1:=List.length_filter_le (q1l T) (N.take k);have h2:(N.take k).length<=N.length:=by rw[Θ];omega
  omega
 clear hN k0 hG Q q hb hT hm s0;go_enter Tryz.func204,Tryz.ntmps204;go_wp2_with fail;refine HA.o.mono ?_;rintro e w1 ⟨v1,rfl,d,q⟩;obtain⟨ta,tc,rfl,m0⟩:=q3I d;have i0:=η (HX.o.trans q);have X:=η m0;clear d q m0 d3;go_wp2_with fail;refine(HN.o _ i0.o).mono ?_;intro e w2 hr;obtain⟨na,nc,rfl,G,q⟩:=hr.strs;have j0:=η (i0.o.trans q);have X:=η (X.o.ext q);rw[HM.o] at G;have p0:=η G;have t0:=G.fits;have u0:=G.bound;rw[HM.o];clear hr q G;go_wp2_with fail
 go_loopw [6,18] (fun v i wr=> ∃k:Nat,k<=m/\i= .int .i64 k/\Own wr w2.heap.size 9 1 v ((N.take k).filter (q1l T)).length (((N.take k).filter (q1l T)).map encStr)/\Ext w2 wr) (fun _ i _=>m-(intOf i).toNat)
 case atStart=>exact⟨0,υ _,rfl,Own.nil _ _ _ _,Ext.refl _⟩
 case round=>
 obtain⟨k,hk,rfl,d,hb⟩:=hrel;have Hb:=η hb;have O:=η d;clear hb d;by_cases l0:k<m
 ·have Z : k<N.length:=by rw[HM.o];exact l0
  obtain⟨b,off,rfl,z1⟩:=(p0.o.ext Hb.o).at sN l0;have n0:(N.getD k sN).length<=9223372036854775807:=o0.o _ (by rw[δ,γ Z];exact List.getElem_mem Z);have ht:=q0Z N sN k Z;obtain⟨x,q⟩: ∃x,N.getD k sN=x:=⟨_,rfl⟩
  rw[q] at z1 n0 ht;have V:Hd (q1l T x=false->(N.take (k+1)).filter (q1l T)=(N.take k).filter (q1l T)):=η fun h=>by rw[ht,List.filter_append];simp[h]
  have c0:Hd (q1l T x=true-> ∀{W:World} {v:Value},Own W w2.heap.size 9 1 v (((N.take k).filter (q1l T)).length+1) (((N.take k).filter (q1l T)).map encStr++[encStr x])=Own W w2.heap.size 9 1 v ((N.take (k+1)).filter (q1l T)).length (((N.take (k+1)).filter (q1l T)).map encStr)):=η fun h=>by
   intro W v;rw[ht,List.filter_append];simp[h]
  have y:Hd (q1l T x=(x==z2X||((q1F x).2.2&&((q1F x).1==116||(q1F x).1==98)&&!decide (((q1F x).2.1:Int)∈T)))):=η rfl;have h0:=η fun W=>z2e x W n0
  clear q ht;obtain⟨K,hK⟩: ∃K:Int,((q1F x).1.toNat:Int)=K:=⟨_,rfl⟩
  obtain⟨M,hM⟩: ∃M:Int,((q1F x).2.1:Int)=M:=⟨_,rfl⟩
  obtain⟨ok,b0⟩: ∃ok:Bool,(q1F x).2.2=ok:=⟨_,rfl⟩
  have f0:Hd (((q1F x).1==116)=decide (K=116)):=η (by rw[<-hK];exact q7P _ 116);have g0:Hd (((q1F x).1==98)=decide (K=98)):=η (by rw[<-hK];exact q7P _ 98);rw[hM,b0] at y;rw[f0.o,g0.o] at y;have q0:Hd (∀W,Calls Tryz.prog 196 #[.string ⟨x.toArray⟩] W fun e w'=>e= .returned (.tuple #[.int .u8 K,.int .i64 M,.bool ok])/\Ext W w'):=η (by rw[<-hK,<-hM,<-b0];exact h0.o);clear hK hM b0 h0 f0 g0;go_wp2_with fail;refine(q0.o wr).mono ?_;rintro e w3 ⟨rfl,q⟩;have r:=η (Hb.o.trans q);have D:=η (O.o.ext q);clear q z1
  cases hnew:x==z2X with
  | true=>
   have J:Hd (q1l T x=true):=η (by rw[y.o,hnew];rfl);have a0:(x==[110,101,119])=true:=hnew;clear hnew
   go_wp2_with (at_builtin;refine q0p rfl _ _ 148 rfl w2.heap.size 9 _ 1 16 Tryz.underlying148 z6n rfl (by decide) _ _ _ rfl (D.o.ext ((Ext.refl _).alloc _)) _ _ _ [encStr x] rfl rfl (fun h=>by cases h) (Rd.lit _ _ _) (by intro u hu;rw[List.mem_singleton.1 hu];rfl) (by have:=B.o k;omega) (by have:=B.o k;omega) (by have:=r.o.size;simp;omega) ?_;intro v' w6 j hg Y)
   have E:=q1d (r.o.alloc (.cells #[encStr x] 9)) (D.o.ext ((Ext.refl _).alloc _)) hg (by have:=r.o.size;simp;omega);have R:=η E;clear E;have l:=(c0.o J.o).symm▸j;have HO:=η l;clear l j hg Y;go_wp2_with fail
   go_roundw
   case rel=>exact⟨k+1,by omega,by go_num,HO.o,R.o⟩
   case measure=>simp[intOf];omega
  | false =>
   have a0:(x==[110,101,119])=false:=hnew;rw[hnew] at y;clear hnew
   cases ok with
   | false=>
    have J:Hd (q1l T x=false):=η (by rw[y.o];rfl);go_wp2_with fail
    go_roundw
    case rel=>exact⟨k+1,by omega,by go_num,by rw[V.o J.o];exact D.o,r.o⟩
    case measure=>simp[intOf];omega
   | true =>
    have d0:=η (z4j _ _ _ T M w3 (X.o.ext r.o));by_cases C:K=116\/K=98
    case neg=>
     have J:Hd (q1l T x=false):=η (by rw[y.o,ε (fun h=>C (.inl h)),ε (fun h=>C (.inr h))];rfl);have v0:(K==116)=false:=by simpa using fun h=>C (.inl h)
     have w0:(K==98)=false:=by simpa using fun h=>C (.inr h)
     go_wp2_with fail
     go_roundw
     case rel=>exact⟨k+1,by omega,by go_num,by rw[V.o J.o];exact D.o,r.o⟩
     case measure=>simp[intOf];omega
    case pos=>
     have U:Hd (q1l T x=!decide (M∈T)):=η (by
      rw[y.o];rcases C with h|h
      ·rw[ζ h];simp
      ·rw[ζ h];simp)
     generalize hdd:decide (M∈T)=dd at d0 U;rcases C with rfl|rfl
     all_goals
      go_wp2_with fail;refine d0.o.mono ?_;rintro e w4 ⟨rfl,q⟩;have I:=η (r.o.trans q);have S:=η (D.o.ext q);clear q
      cases dd with
      | true=>
       have J:Hd (q1l T x=false):=η U.o;go_wp2_with fail
       go_roundw
       case rel=>exact⟨k+1,by omega,by go_num,by rw[V.o J.o];exact S.o,I.o⟩
       case measure=>simp[intOf];omega
      | false=>
       have J:Hd (q1l T x=true):=η U.o
       go_wp2_with (at_builtin;refine q0p rfl _ _ 148 rfl w2.heap.size 9 _ 1 16 Tryz.underlying148 z6n rfl (by decide) _ _ _ rfl (S.o.ext ((Ext.refl _).alloc _)) _ _ _ [encStr x] rfl rfl (fun h=>by cases h) (Rd.lit _ _ _) (by intro u hu;rw[List.mem_singleton.1 hu];rfl) (by have:=B.o k;omega) (by have:=B.o k;omega) (by have:=I.o.size;simp;omega) ?_;intro v' w6 j hg Y)
       have E:=q1d (I.o.alloc (.cells #[encStr x] 9)) (S.o.ext ((Ext.refl _).alloc _)) hg (by have:=I.o.size;simp;omega);have R:=η E;clear E;have l:=(c0.o J.o).symm▸j;have HO:=η l;clear l j hg Y;go_wp2_with fail
       go_roundw
       case rel=>exact⟨k+1,by omega,by go_num,HO.o,R.o⟩
       case measure=>simp[intOf];omega
 ·obtain rfl:k=m:=by omega
  have r0:Hd (N.take k=N):=η (Δ (by rw[HM.o];exact ι _));have d:=O.o;rw[r0.o] at d;obtain⟨oa,oc,rfl⟩:=d.slice;have e0:=η d;clear d;go_wp2_with fail;go_ret;exact⟨oa,oc,rfl,e0.o.base j0.o.size,j0.o.trans Hb.o⟩
theorem z9P(h:Dk w g F σ):Calls Tryz.prog 81 #[.pointer (some ⟨g,0,none⟩)] w (RetNm w (q1q σ)):=by
 obtain⟨i,m,l,L,b,_⟩:=h;have:=i.many;have j:L.length=σ.L.length:=by rw[<-b.files,List.length_map]
 have d:=z2V w g m L b.c0 b.c3 b.fs (by omega);have e:L.map FE.nm=q1q σ:=by unfold q1q;rw[<-b.files,List.map_map];rfl
 rw[e] at d;exact d.mono fun _ _ h=>h.s
theorem Slf.off{m:Type}{f:m->Value}{d:Option Addr}{kn i:Nat}{l:List m}(h:Slf f w d kn i l)(s: ∀a,d=some a->¬F a.block): ∀W,OffS F w W->Slf f W d kn i l:=fun W o=>by
 refine⟨h.len,h.fits,h.bound,h.nil,fun j u r=>?_⟩;obtain⟨b,off,e,hc⟩:=h.rd j u r;refine⟨b,off,e,?_⟩;have q:=o.block b (World.block_lt_of_cell? (h:=hc)) (s _ e);simp only[World.cell?,q] at hc⊢;exact hc
def q5m(σ:DM)(ns:List (List UInt8)):DM:={σ with L:=ns.foldl (fun L nm=>q1M FM.nm nm L) σ.L}
theorem z8b(σ:DM):q5m σ []=σ:=rfl
theorem z6L(σ:DM)(b:List (List UInt8))(x:List UInt8):q5m σ (b++[x])={σ with L:=q1M FM.nm x (q5m σ b).L}:=by unfold q5m;rw[List.foldl_append];rfl
theorem z6K : ∀(ns:List (List UInt8)) (L:List FM),ns.foldl (fun L nm=>q1M FM.nm nm L) L=L.filter fun f=>!ns.contains f.nm
 |[],L=>(List.filter_eq_self.2 fun _ _=>rfl).symm
 | x::r,L=>by
  rw[List.foldl_cons,z6K r];unfold q1M;rw[List.filter_filter];refine List.filter_congr fun y _=>?_
  rw[List.contains_cons]
  cases y.nm==x<;>simp
theorem z6M(j:σ.down=false)(m:σ.fail=false)(o:σ.left=0){b:List (List UInt8)}{x:List UInt8}(r:x∈q1q σ)(q:x∉b):q1L (q5m σ b) x=(0,q5m σ (b++[x])):=by
 have l:(q5m σ b).L=σ.L.filter fun f=>!b.contains f.nm:=z6K b σ.L
 have d:(q0F FM.nm x (q5m σ b).L).isNone=false:=by
  rw[l]
  cases hq:q0F FM.nm x (σ.L.filter fun f=>!b.contains f.nm) with
  |some _=>rfl
  | none=>
   obtain⟨f,i,rfl⟩:=List.mem_map.1 r;exact absurd rfl (q0r hq f (List.mem_filter.2 ⟨i,by simpa using q⟩))
 unfold q1L;rw[κ (by show ¬σ.down=true;rw[j];decide),κ (by rw[d];decide),κ (by show ¬(σ.fail&&decide (σ.left=0))=true;rw[m];simp),z6L]
 congr 1
 show DM.mk _ _ _ _ _ _ (max (σ.left-1) 0) _=DM.mk _ _ _ _ _ _ σ.left _;rw[o];rfl
theorem z8a(p:List UInt8->Bool):q5m σ ((q1q σ).filter p)={σ with L:=σ.L.filter fun f=>!p f.nm}:=by
 unfold q5m;rw[z6K]
 congr 1
 refine List.filter_congr fun f b=>?_
 congr 1
 rw[Bool.eq_iff_iff,List.contains_iff_mem,List.mem_filter];exact⟨fun h=>h.2,fun h=>⟨List.mem_map.2 ⟨f,b,rfl⟩,h⟩⟩
theorem z2W(h:okD σ):(q1q σ).Nodup:=by
 unfold q1q;exact List.pairwise_map.2 (q8x h.ord)
theorem DkS.pre{l wr:World}{m:DM}(j:Ext w l)(hF: ∀i,F i->i<w.heap.size)(h:DkS l g F m wr):DkS w g F m wr:=by
 have o:=j.size;have q:=h.off.size;refine⟨h.dk.mono (fun i d=>?_) (fun i d=>?_),(OffS.of_ext j).trans h.off⟩
 ·rcases d with b|b
  ·exact .inl b
  ·exact .inr (by omega)
 ·rcases d with b|b
  ·have:=hF i b;omega
  ·exact b.2
theorem z6E(h:Dk w g F σ)(D:σ.down=false)(hf:σ.fail=false)(U: ∀s∈q1q σ,s.length<=9223372036854775807)
  (hG:Grid w ao n cap L)(b0:L.flatten.length<=17592186044416):
  Calls Tryz.prog 143 #[.pointer (some ⟨g,0,none⟩),.agg #[.int .i64 nx,.int .i64 ck,.int .u64 sd,.slice ao n cap]] w fun e w'=>e= .returned (.int .i64 0)/\DkS w g F {σ with L:=σ.L.filter fun f=>!q1l L.flatten f.nm} w':=by
 obtain⟨w1,q⟩: ∃W,w.alloc (.cells #[.int .i64 nx,.int .i64 ck,.int .u64 sd,.slice ao n cap] 47)=W:=⟨_,rfl⟩
 have d:Ext w w1:=by rw[<-q];exact q0B w _
 have HX:=η d;have HD:=η (h.ext d);have k0:Hd (z2d σ=0):=η (by unfold z2d;rw[κ (by rw[D];decide)]);have l0:Hd (∀(ns:List (List UInt8)) (x:List UInt8),x∈q1q σ->x∉ns->q1L (q5m σ ns) x=(0,q5m σ (ns++[x]))):=η fun ns x h1 S=>z6M D hf (h.1.idle hf) h1 S
 have g0:=η (z2W h.1);have M:Hd (∀i,F i->i<w.heap.size):=η (by obtain⟨_,_,_,_,_,_,h⟩:=h;exact h);have h0:Hd ((q1q σ).length<=1000000):=η (by have:=h.1.many;unfold q1q;rw[List.length_map];omega);have HG:=η (hG.ext d);have Q:=η U;have X:Blk w1 w.heap.size 47 #[.int .i64 nx,.int .i64 ck,.int .u64 sd,.slice ao n cap]:=by rw[<-q];exact Blk.new w _ _
 have d0:=X.cell 0;have d1:=X.cell 1;have d2:=X.cell 2;have d3:=X.cell 3;clear h D hf U hG d X;go_enter Tryz.func143,Tryz.ntmps143;go_wp2_with fail
 try rw[q]
 have p0:=η q;clear q;refine(y2e HD.o).mono ?_;rw[k0.o];rintro e w' ⟨rfl,rfl⟩;go_wp2_with fail;refine(z7K (fun W hW=>z9P (HD.o.ext hW)) Q.o h0.o HG.o b0).mono ?_;obtain⟨O,V⟩: ∃O,(q1q σ).filter (q1l L.flatten)=O:=⟨_,rfl⟩
 have I:Hd (q5m σ O={σ with L:=σ.L.filter fun f=>!q1l L.flatten f.nm}):=η (by rw[<-V];exact z8a _);have j0:Hd (∀x∈O,x∈q1q σ):=η (by rw[<-V];exact fun x d=>(List.mem_filter.1 d).1);have i0:Hd O.Nodup:=η (by rw[<-V];exact g0.o.filter _);rw[V];intro e w2 hr;obtain⟨oa,oc,rfl,l,d⟩:=hr;have e0:=η (HD.o.ext d);have m0:=η (HX.o.trans d);have a0:=l.lt;obtain⟨r0,s0,e2,y⟩:=Slf.of_own l
 cases e2;have n0:=y.fits;have q0:=y.bound
 have B:=η (y.off (F:=F) (fun a e o0=>by
  subst e;have h1:=(a0 a.block rfl).1;have S:=HX.o.size;have h3:=M.o _ o0
  omega))
 obtain⟨m,hm⟩: ∃m,O.length=m:=⟨_,rfl⟩
 rw[hm] at n0 B⊢;have HM:=η hm;clear d l a0 y V hm d0 d1 d2 d3;go_wp2_with fail
 go_loopw [18] (fun i wr=> ∃k:Nat,k<=m/\i= .int .i64 k/\DkS w2 g F (q5m σ (O.take k)) wr) (fun i _=>m-(intOf i).toNat)
 case atStart=>exact⟨0,υ _,rfl,by rw[List.take_zero,z8b];exact DkS.refl e0.o⟩
 case round=>
 obtain⟨k,hk,rfl,Y⟩:=hrel;have r:=η Y;clear Y;by_cases Z:k<m
 ·have v:k<O.length:=by rw[HM.o];exact Z
  obtain⟨b,off,rfl,z1⟩:=(B.o wr r.o.off).at sN Z;have E:O.getD k sN=O[k]:=by rw[δ,γ v];rfl
  have u:Hd (O.take (k+1)=O.take k++[O.getD k sN]):=η (q0Z O sN k v);have j:O.getD k sN∈q1q σ:=j0.o _ (by rw[E];exact List.getElem_mem v);have C:O.getD k sN∉O.take k:=by
   rw[E];have S:(O.take (k+1)).Nodup:=i0.o.sublist (List.take_sublist _ _);rw[List.take_succ_eq_append_getElem v,List.nodup_append] at S;exact fun h=>S.2.2 _ h _ (List.mem_singleton.2 rfl) rfl
  have R:=η (l0.o _ _ j C);have c0:=Q.o _ j;obtain⟨x,d⟩: ∃x,O.getD k sN=x:=⟨_,rfl⟩
  rw[d] at z1 c0 R u;clear d j C E;go_wp2_with fail;refine(q9b r.o.dk x c0).mono ?_;rw[R.o];rintro e w3 ⟨rfl,G⟩;have f0:=η (r.o.trans G);clear G z1;go_wp2_with fail
  go_roundw
  case rel=>exact⟨k+1,by omega,by go_num,by rw[u.o];exact f0.o⟩
  case measure=>simp[intOf];omega
 ·obtain rfl:k=m:=by omega
  have u:Hd (O.take k=O):=η (Δ (by rw[HM.o];exact ι _));have G:=r.o;rw[u.o,I.o] at G;have J:=η (DkS.pre m0.o M.o G);clear G;go_wp2_with fail;go_ret;exact⟨rfl,J.o⟩
end
end Go.Proofs.YtfiibpgoplcgkaaGreatDoor
