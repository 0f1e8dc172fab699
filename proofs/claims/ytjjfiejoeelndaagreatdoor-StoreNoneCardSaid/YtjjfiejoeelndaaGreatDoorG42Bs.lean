/- Walks: the entries of a hash between two versions (index.Range). Walks: the last version of a hash up to one (index.Last). -/
import Derived.Test.YtjjfiejoeelndaaGreatDoorG39Bs
import Derived.Test.YtjjfiejoeelndaaGreatDoorG31Bs
import Derived.Test.YtjjfiejoeelndaaGreatDoorG26Bs
set_option linter.unusedVariables false
set_option linter.unusedSimpArgs false
namespace Go.Proofs.YtjjfiejoeelndaaGreatDoor
open Go.RowKit Go.Maps
set_option maxRecDepth 100000
set_option linter.unusedVariables false
set_option maxHeartbeats 12800000
def q3G (st:IxSt) (h a b:Int):DM→List Int→List (List En)→List (List En)×Int×DM
  |σ,[],acc=>(acc,0,σ)
  | σ, n::ns,acc=>match st.t n with
    |none=>(acc,1,σ)
    | some e=>if (q2a σ n e.L e.may h a b).2.1≠0 then (acc,(q2a σ n e.L e.may h a b).2.1,(q2a σ n e.L e.may h a b).2.2)
      else q3G st h a b (q2a σ n e.L e.may h a b).2.2 ns (acc++[(q2a σ n e.L e.may h a b).1])
def z7j (va v:Value) (vs:List Value) (i:Nat):Prop:=va.ownBlock=some i∨v.ownBlock=some i∨ ∃q,(vs.getD q (.slice none 0 0)).ownBlock=some i
theorem Tryz.infoLs :(Tryz.prog.info? 148).map (fun i=>(i.zero,i.size,i.bytes))=some (some (.slice none 0 0),1,24):=by kernel_rfl
structure LsW (wb w0 W:World) (g gx:Nat) (st:IxSt) (σ:DM) (K:Nat→Prop) (va v:Value) (vs:List Value) (ns:List Int) (acc:List (List En)) (B:Nat):Prop where
  i:IxK wb W g gx st σ (fun i=>K i∨z7j va v vs i)
  all:Own W B 3 1 va ns.length (ns.map (Value.int .i64))
  ls:EGo W B v vs acc
  stay:Stay K w0 W
  base:w0.heap.size≤B∧B≤W.heap.size
  kl: ∀i,K i→i<w0.heap.size
  wbl:wb.heap.size≤w0.heap.size
section
variable {wb w0 w W W1 w1 w2:World} {g gx gm gt B:Nat} {st st1:IxSt} {F Y Y1 K K' V:Nat→Prop} {σ σ1:DM} {va v v1 v2:Value} {vs:List Value} {ns:List Int} {acc:List (List En)} {M:List En}
theorem LsW.grow (h:LsW wb w0 W g gx st σ K va v vs ns acc B) (k:Ext W W1):LsW wb w0 W1 g gx st σ K va v vs ns acc B:=
  ⟨h.i.grow k,h.all.ext k,h.ls.ext k,h.stay.trans fun i hi=>h.i.kExt k i (.inl hi),⟨h.base.1,Nat.le_trans h.base.2 k.size⟩,h.kl,h.wbl⟩
theorem LsW.push (h:LsW wb w0 W g gx st σ K va v vs ns acc B) (h1:IxK wb W1 g gx st σ1 (fun i=>(K i∨z7j va v vs i)∨v1.ownBlock=some i)) (hst:Stay (fun i=>K i∨z7j va v vs i) W W1) (hs:W.heap.size≤W1.heap.size)
    (hr:W1.ownsRow W.heap.size 108 3 v1 M.length (ecs M)) {o:Obj} (hown:w2.ownsRow B 148 1 v2 (acc.length+1) (vs++[v1])) (hg:(W1.alloc o).grownBy w2 v.ownBlock) (hat:v2.ownBlock=v.ownBlock∨v2.ownBlock=some (W1.alloc o).heap.size):
    LsW wb w0 w2 g gx st σ1 K va v2 (vs++[v1]) ns (acc++[M]) B:=by
  have hb:=h.base
  have hx:=h1.base
  have hls:EGo (W1.alloc o) B v vs acc:=(h.ls.same (w':=W1) fun i hi=>hst i (.inr (.inr hi))).ext (q0B _ _)
  have hsz:W1.heap.size≤w2.heap.size:=by have:=hg.size;rw[World.size_alloc] at this;omega
  have hk: ∀i,i<W1.heap.size→v.ownBlock≠some i→w2.heap[i]? =W1.heap[i]? :=fun i hi hn=>by
    rw[hg.block i (by rw[World.size_alloc];omega) (fun e=>hn e.symm),(q0B W1 o).block i hi]
  have hlt: ∀i,z7j va v vs i→B≤i∧i<W.heap.size:=fun i hi=>by
    rcases hi with hi|hi
    · exact h.all.lt i hi
    · exact h.ls.lt hi
  have hva:va.ownBlock=none∨ ∃i,va.ownBlock=some i:=by cases h:va.ownBlock<;>simp
  have hne: ∀i,va.ownBlock=some i→v.ownBlock≠some i:=fun i h1 h2=>by
    obtain ⟨c1,e1⟩:=h.all.etype h1
    obtain ⟨c2,e2⟩:=q4u h.ls.own h2
    rw[e1] at e2
    injection e2 with e2
    injection e2 with _ e2 _
    revert e2
    decide
  have hxb:Ext wb w2:=by
    have h3:Ext wb (W1.alloc o):=hx.trans (q0B _ _)
    refine h3.grown hg h3.size fun i hi=>?_
    have:=hlt i (.inr (.inl hi))
    have:=h.wbl
    omega
  have hsep:=hls.push (q0M hr (q0B W1 o)) (by omega) hown hg
  refine ⟨h1.sideM hsz hxb (fun i hi hn=>hk i hi fun e=>hn (.inl (.inr (.inr (.inl e))))) (fun i hi=>?_),(h.all.same (w':=w2) fun i hi=>?_),hsep,fun i hi=>?_,⟨hb.1,by omega⟩,h.kl,h.wbl⟩
  · rcases hi with hi|hi|hi|⟨q,hi⟩
    · exact .inl (.inl (.inl hi))
    · exact .inl (.inl (.inr (.inl hi)))
    · rcases hat with e|e
      · exact .inl (.inl (.inr (.inr (.inl (e▸hi)))))
      · rw[e,World.size_alloc] at hi
        injection hi with hi
        have:=(q0Z hown i (by rw[e,World.size_alloc,hi])).2
        exact .inr ⟨by omega,this⟩
    · rw [q7F] at hi
      split at hi
      · exact .inl (.inl (.inr (.inr (.inr ⟨q,hi⟩))))
      · split at hi
        · exact .inl (.inr hi)
        · cases hi
  · rw[hk i (Nat.lt_of_lt_of_le (h.all.lt i hi).2 hs) (hne i hi),hst i (.inr (.inl hi))]
  · rw[hk i (Nat.lt_of_lt_of_le (h.kl i hi) (by omega)) fun e=>by have:=(hlt i (.inr (.inl e))).1;have:=h.kl i hi;omega]
    exact (hst i (.inl hi)).trans (h.stay i hi)
theorem z8i (w:World) (B:Nat) (hB:B≤w.heap.size) (x:Value):(w.alloc (.cells #[x] 148)).ownsRow B 148 1 (.slice (some ⟨w.heap.size,0,none⟩) 1 1) 1 [x]:=
  ⟨rfl,.inr ⟨w.heap.size,1,#[x],rfl,hB,Blk.new w _ _,Nat.le_refl _,by unfold maxLen;omega,rfl,rfl⟩⟩
def z0W (wb w:World) (g gx:Nat) (st:IxSt) (K:Nat→Prop) (R:List (List En)×Int×DM) (e:Ending) (w':World):Prop:=
  ∃v,e= .returned (.tuple #[v,.int .i64 R.2.1])∧IxK wb w' g gx st R.2.2 (fun i=>K i∨v.ownBlock=some i)∧Stay K w w'∧(R.2.1=0→w'.ownsRow w.heap.size 108 3 v (q2Q R.1).length (ecs (q2Q R.1)))
theorem z6v (h:IxK wb w g gx st σ K) (hfull:st.full) (h' a b:Int) {R:List (List En)×Int×DM} (hR:q3G st h' (max a 0) (min b 1073741824) σ st.m.L.flatten [q0i st.w h' (max a 0) (min b 1073741824)]=R)
    (hs:R.2.1=0→(∀L∈R.1,q0q L)∧R.1.flatten.length≤1000000):
    Calls Tryz.prog 74 #[.pointer (some ⟨gx,0,none⟩),.int .u64 h',.int .i64 a,.int .i64 b] w (z0W wb w g gx st K R):=by
  obtain ⟨A,hA⟩: ∃A,max a 0=A:=⟨_,rfl⟩
  obtain ⟨B,hB⟩: ∃B,min b 1073741824=B:=⟨_,rfl⟩
  rw[hA,hB] at hR
  have HK:=Lib.hid h
  obtain ⟨F,gm,gt,Y,h1⟩:=h
  have HN:=Lib.hid (q8P h1.i.x)
  have hok:=h1.i.x.1
  have hbd:=Man.bounds hok.man
  obtain ⟨_,v,vs,vm,D,nn,hi⟩:=h1.i.x
  have c6:=hi.c6
  have HRm:=Lib.hid (z6h hi.mem hok.mem h' A B)
  have HI:=Lib.hid hi;have HOk:=Lib.hid hok;have HBd:=Lib.hid hbd;have HR:=Lib.hid hR;have HS:=Lib.hid hs
  have HF:=Lib.hid h1
  clear hi hok hbd hR hs h1
  go_enter Tryz.func74,Tryz.ntmps74
  go_wp2_with fail
  refine HN.out.mono ?_
  rintro e w1 ⟨rfl,rfl⟩
  go_wp2_with fail
  refine HRm.out.mono ?_
  rintro e w1 ⟨v1,rfl,hr1,hb1⟩
  obtain ⟨a1,k1,rfl⟩:=q0I hr1
  have HR1:=Lib.hid hr1
  obtain ⟨rn,hrn⟩: ∃rn,(q0i st.w h' A B).length=rn:=⟨_,rfl⟩
  have HRn:=Lib.hid hrn
  rw[hrn] at HR1
  rw[hrn]
  have HX1:=Lib.hid (hb1.trans (q0B w1 (.cells #[.slice a1 rn k1] 148)))
  have HX1b:=Lib.hid (q0B w1 (.cells #[.slice a1 rn k1] 148))
  have HLit:=Lib.hid (z8i w1 w.heap.size hb1.size (.slice a1 rn k1))
  obtain ⟨av,kv,rfl,hgr⟩:=HI.out.grid
  have c4:=(HI.out.ext HX1.out).c4
  have HAl:=Lib.hid (z3P av st.m.L.length kv st.m.L _ (hgr.ext HX1.out) (by have:=HBd.out.2.1;omega))
  have hs1:=hb1.size
  clear hr1 hb1 hgr hrn HRm c6
  go_wp2_with fail
  refine HAl.out.mono ?_
  rintro e w2 ⟨va,rfl,hall,hb2⟩
  obtain ⟨aa,ka,rfl⟩:=hall.slice
  have hsz2:w1.heap.size+1≤w2.heap.size:=by have:=hb2.size;rw[World.size_alloc] at this;exact this
  rw[World.size_alloc] at hall
  obtain ⟨ns,hns⟩: ∃ns,st.m.L.flatten=ns:=⟨_,rfl⟩
  rw[hns] at hall HR
  have HNs:=Lib.hid hns
  have HLs:Hid (LsW wb w w2 g gx st σ K (.slice aa ns.length ka) (.slice (some ⟨w1.heap.size,0,none⟩) 1 1) [.slice a1 rn k1] ns [q0i st.w h' A B] w.heap.size):=Lib.hid ⟨HK.out.more (HX1.out.trans hb2) (fun i hi=>by
      have h0:=HX1b.out.size
      rw[World.size_alloc] at h0
      rcases hi with hi|hi|hi|⟨q,hi⟩
      · exact .inl hi
      · have:=hall.lt i hi;exact .inr ⟨by omega,this.2⟩
      · have hi2:w1.heap.size=i:=by cases hi;rfl
        exact .inr ⟨by omega,by omega⟩
      · match q,hi with
        |0,hi=>have:=q0Z HR1.out i hi;exact .inr ⟨this.1,by omega⟩
        |q+1,hi=>simp[Value.ownBlock] at hi),hall.base (by omega),⟨q0M HLit.out hb2,fun i=>by
      match i with
      |0=>simp only[List.getD_cons_zero];rw[HRn.out];exact q0r (q0M (q0M HR1.out HX1b.out) hb2) (Nat.le_refl _)
      |i+1=>simpa [ecs] using World.ownsRow_nil w2 w.heap.size 108 3⟩,HK.out.kExt (HX1.out.trans hb2),⟨Nat.le_refl _,by omega⟩,fun i hi=>by obtain ⟨F,gm,gt,Y,q⟩:=HK.out;exact (q.k i hi).1,HK.out.base.size⟩
  rw[hns]
  obtain ⟨n,hn⟩: ∃n,ns.length=n:=⟨_,rfl⟩
  have HNl:=Lib.hid hn
  have hn40:n≤40:=by rw[←hn,←hns];exact HBd.out.2.1
  rw[hn] at HLs
  rw[hn]
  clear hall hb2 hns hn HAl HLit HR1 HX1 HX1b c4 HN
  go_wp2_with fail
  have hsw:w.heap.size≤w2.heap.size:=by omega
  clear HI
  go_loopw [10,37] (fun lv i W=> ∃(k:Nat) (vs:List Value) (acc:List (List En)) (τ:DM),k≤n∧i= .int .i64 (k:Int)∧LsW wb w W g gx st τ K (.slice aa n ka) lv vs ns acc w.heap.size∧acc.length=k+1∧q3G st h' A B τ (ns.drop k) acc=R) (fun _ i _=>n-(intOf i).toNat)
  case atStart=>exact ⟨0,_,_,σ,Nat.zero_le _,rfl,HLs.out,rfl,HR.out⟩
  case round =>
    obtain ⟨k,vsk,acc,τ,hk,rfl,hls,hal,hrr⟩:=hrel
    have HL:=Lib.hid hls;have HAl:=Lib.hid hal;have HRr:=Lib.hid hrr
    obtain ⟨al,kl,rfl,hgrd⟩:=hls.ls.grid
    rw[hal] at hgrd HL
    rw[hal]
    clear hls hal hrr
    by_cases hlt:k<n
    · have hd:decide ((k:Int)<(n:Int))=true:=decide_eq_true (by omega)
      have q1:IntKind.i64.wrap ((k:Int)+1)=(k:Int)+1:=by rw[IntKind.wrap_i64];omega
      have q5:(k:Int)<(n:Int):=by omega
      obtain ⟨_,_,ea,hia⟩:=q2c HL.out.all
      rw[HNl.out] at ea
      cases ea
      rw[HNl.out] at hia
      obtain ⟨ba,oa,rfl,n0⟩:=hia.at hlt
      have hkl:k<ns.length:=by rw[HNl.out];exact hlt
      have hdrop:ns.drop k=ns.getD k 0::ns.drop (k+1):=by
        rw[List.drop_eq_getElem_cons hkl,List.getD_eq_getElem?_getD,List.getElem?_eq_getElem hkl];rfl
      have hmem:ns.getD k 0∈st.m.L.flatten:=by rw[HNs.out];exact q3f ns k hkl
      have hrr:=HRr.out
      rw[hdrop] at hrr
      obtain ⟨e,he⟩:=hfull _ hmem
      have hwf:=(HBd.out.2.2.2.1 _ hmem).1
      generalize ns.getD k 0=nk at*
      rw[q3G,he] at hrr
      simp only at hrr
      obtain ⟨F2,gm2,gt2,Y2,h2⟩:=HL.out.i
      have HTr:=Lib.hid (z7L (h2.tb he) h' A B)
      have HF2:=Lib.hid h2
      obtain ⟨_,v2,vs2,vm2,D2,nn2,hi2⟩:=h2.i.x
      have c7:=hi2.c7
      have hlk:=hi2.at hwf he
      obtain ⟨r,hr⟩: ∃r,q2a τ nk e.L e.may h' A B=r:=⟨_,rfl⟩
      rw[hr] at hrr HTr
      obtain ⟨M,c,τ2⟩:=r
      simp only at hrr
      have HRR:=Lib.hid hrr
      have HLk:=Lib.hid hlk
      clear hia hdrop hmem hrr h2 hi2 hr hgrd
      go_wp2_with fail
      refine HTr.out.mono ?_
      rintro e3 w3 ⟨v3,rfl,hrv⟩
      simp only at hrv
      obtain ⟨a3,k3,rfl⟩:=q0I hrv.row
      obtain ⟨⟨F3,h3⟩,hst3⟩:=HF2.out.row hrv
      have hs3:=hrv.off.size
      have HRw3:=Lib.hid hrv.row
      have HF3:=Lib.hid h3;have HSt3:=Lib.hid hst3
      clear hrv h3 hst3 HTr c7 HLk hlk
      by_cases hc:c=0
      case neg=>
        have g2:(c !=0)=true:=by simpa using hc
        have HE:Hid (z0W wb w g gx st K R (.returned (.tuple #[.slice none 0 0,.int .i64 c])) w3):=Lib.hid (by
          have h:=HRR.out
          rw[if_pos hc] at h
          rw[←h]
          exact ⟨_,rfl,⟨_,_,_,_,HF3.out.beside fun i hi=>by
            rcases hi with hi|hi
            · exact .inl (.inl hi)
            · cases hi⟩,HL.out.stay.trans fun i hi=>HSt3.out i (.inl hi),fun e=>absurd e hc⟩)
        clear hc
        go_wp2_with fail
        go_ret2
        exact HE.out
      case pos=>
      subst hc
      have HR2:Hid (q3G st h' A B τ2 (ns.drop (k+1)) (acc++[M])=R):=Lib.hid (by have h:=HRR.out;rw[if_neg (fun h=>h rfl)] at h;exact h)
      obtain ⟨M1,hM1⟩: ∃M1,M.length=M1:=⟨_,rfl⟩
      have HM1:=Lib.hid hM1
      rw[hM1] at HF3 HRw3
      rw[hM1]
      have HRow:Hid ((w3.alloc (.cells #[.slice a3 M1 k3] 148)).ownsRow w.heap.size 148 1 (.slice al (k+1) kl) (k+1) vsk):=Lib.hid (by
        have h:=(HL.out.ls.same (w':=w3) fun i hi=>HSt3.out i (.inr (.inr hi))).own
        rw[HAl.out] at h
        exact q0M h (q0B _ _))
      have hwb:=HL.out.base.2
      have hwS:w.heap.size≤(w3.alloc (.cells #[.slice a3 M1 k3] 148)).heap.size:=by rw[World.size_alloc];omega
      have HwS:=Lib.hid hwS
      clear HRR hM1 hwS
      go_wp2_with (at_builtin;refine q0Q rfl (.tmp 57) (.tmp 59) 184 rfl w.heap.size 148 _ 1 24 Tryz.underlying184 Tryz.infoLs (by decide) (by decide) _ (k+1) vsk rfl HRow.out _ 1 1 [.slice a3 M1 k3] rfl rfl (fun h=>by cases h) (Rd.lit _ _ _) (fun u hu=>by rw[List.mem_singleton.1 hu];rfl) (by unfold maxLen;omega) (by omega) HwS.out ?_;intro v4 w4 hown hgrow hat;obtain ⟨a4,k4,rfl⟩:=q0I hown;have HO4:=Lib.hid hown;have HG4:=Lib.hid hgrow;have HA4:=Lib.hid hat;clear hown hgrow hat)
      go_roundw
      case rel=>
        refine ⟨k+1,vsk++[.slice a3 M1 k3],acc++[M],τ2,hlt,by go_num,?_,by rw[List.length_append,HAl.out];rfl,HR2.out⟩
        have hl:=HL.out
        exact hl.push (M:=M) ⟨_,_,_,_,HF3.out⟩ HSt3.out hs3 (by rw[HM1.out];exact HRw3.out) (by rw[HAl.out];exact HO4.out) HG4.out HA4.out
      case measure=>simp[intOf];omega
    · obtain rfl:k=n:=by omega
      have hd:decide ((k:Int)<(k:Int))=false:=decide_eq_false (by omega)
      have hrr:=HRr.out
      rw[List.drop_of_length_le (by rw[HNl.out];exact Nat.le_refl _),q3G] at hrr
      have HRR:=Lib.hid hrr
      have hss:=HS.out (by rw[←hrr])
      rw[←hrr] at hss
      have HMg:=Lib.hid (z8n wr hgrd (by omega) hss.2 hss.1)
      clear hrr hss hgrd
      go_wp2_with fail
      refine HMg.out.mono ?_
      rintro e w3 ⟨vU,rfl,hrow,hb3⟩
      have HE:Hid (z0W wb w g gx st K R (.returned (.tuple #[vU,.int .i64 0])) w3):=Lib.hid (by
        rw[←HRR.out]
        refine ⟨vU,rfl,HL.out.i.more hb3 (fun i hi=>?_),HL.out.stay.trans fun i hi=>HL.out.i.kExt hb3 i (.inl hi),fun _=>q0r hrow (HL.out.base.2)⟩
        rcases hi with hi|hi
        · exact .inl (.inl hi)
        · exact .inr (q0Z hrow i hi))
      obtain ⟨aU,kU,rfl⟩:=q0I hrow
      clear hrow hb3 HMg HRR HRr
      go_wp2_with fail
      go_ret2
      exact HE.out
end
end Go.Proofs.YtjjfiejoeelndaaGreatDoor
namespace Go.Proofs.YtjjfiejoeelndaaGreatDoor
open Go.RowKit Go.Maps
set_option maxRecDepth 100000
set_option linter.unusedVariables false
set_option maxHeartbeats 12800000
def q2b (st:IxSt) (h u:Int):DM→List Int→Int→Int×Int×DM
  |σ,[],out=>(out,0,σ)
  | σ, n::ns,out=>match st.t n with
    |none=>(-1,1,σ)
    | some e=>if (q2o σ n e.L e.may h u).2.2.1≠0 then (-1,(q2o σ n e.L e.may h u).2.2.1,(q2o σ n e.L e.may h u).2.2.2)
      else q2b st h u (q2o σ n e.L e.may h u).2.2.2 ns (if (q2o σ n e.L e.may h u).2.1 then max out (q2o σ n e.L e.may h u).1.2.1 else out)
def z3q (L:List En) (h u:Int):Int:=match q2f L h u with|some e=>e.2.1|none=> -1
section
variable {wb w0 w W W1 w1 w2:World} {g gx gm gt B:Nat} {st st1:IxSt} {F Y Y1 K K' V:Nat→Prop} {σ σ1:DM} {va v v1 v2:Value} {vs:List Value} {ns:List Int} {acc:List (List En)} {M:List En}
theorem LsW.step (h:LsW wb w0 W g gx st σ K va v vs ns acc B) (h1:IxK wb W1 g gx st1 σ1 (fun i=>K i∨z7j va v vs i)) (hst:Stay (fun i=>K i∨z7j va v vs i) W W1) (hs:W.heap.size≤W1.heap.size):LsW wb w0 W1 g gx st1 σ1 K va v vs ns acc B:=
  ⟨h1,h.all.same fun i hi=>hst i (.inr (.inl hi)),h.ls.same fun i hi=>hst i (.inr (.inr hi)),h.stay.trans fun i hi=>hst i (.inl hi),⟨h.base.1,Nat.le_trans h.base.2 hs⟩,h.kl,h.wbl⟩
theorem LsW.start (h:IxK wb w g gx st σ K) (hx:Ext w W) (hall:Own W w.heap.size 3 1 va ns.length (ns.map (Value.int .i64))):LsW wb w W g gx st σ K va (.slice none 0 0) [] ns [] w.heap.size:=
  ⟨h.more hx (fun i hi=>by
      rcases hi with hi|hi|hi|⟨q,hi⟩
      · exact .inl hi
      · exact .inr (hall.lt i hi)
      · cases hi
      · simp[Value.ownBlock] at hi),hall,EGo.nil _ _,h.kExt hx,⟨Nat.le_refl _,hx.size⟩,fun i hi=>by obtain ⟨F,gm,gt,Y,q⟩:=h;exact (q.k i hi).1,h.base.size⟩
theorem Own.base0 {w:World} {B B':Nat} {e:TypeId} {size:Nat} {v:Value} {n:Nat} {cs:List Value} (h:Own w B e size v n cs) (k:B'≤B):Own w B' e size v n cs:=h.base k
theorem z9K (h:IxK wb w g gx st σ K) (hfull:st.full) (h' a:Int) (ha: -9223372036854775808≤a) {R:Int×Int×DM} (hR:q2b st h' (min a 1073741824) σ st.m.L.flatten (z3q st.w h' (min a 1073741824))=R):
    Calls Tryz.prog 39 #[.pointer (some ⟨gx,0,none⟩),.int .u64 h',.int .i64 a] w fun e w'=>e= .returned (.tuple #[.int .i64 R.1,.int .i64 R.2.1])∧IxK wb w' g gx st R.2.2 K∧Stay K w w':=by
  obtain ⟨B,hB⟩: ∃B,min a 1073741824=B:=⟨_,rfl⟩
  have hB0: -9223372036854775808≤B:=by omega
  rw[hB] at hR
  have HK:=Lib.hid h
  obtain ⟨F,gm,gt,Y,h1⟩:=h
  have HN:=Lib.hid (q8P h1.i.x)
  have hok:=h1.i.x.1
  have hbd:=Man.bounds hok.man
  obtain ⟨_,v,vs,vm,D,nn,hi⟩:=h1.i.x
  have c6:=hi.c6
  have HRm:=Lib.hid (z8I hi.mem hok.mem h' B)
  have hout:z3q st.w h' B=if (q2f st.w h' B).isSome then ((q2f st.w h' B).getD en0).2.1 else-1:=by unfold z3q;cases q2f st.w h' B<;>rfl
  have hver: ∀x∈st.w,0≤x.2.1∧x.2.1≤9223372036854775807:=fun x hx=>by have:=hok.mem.ok x hx;unfold q3B at this;simp at this;omega
  have HI:=Lib.hid hi;have HOk:=Lib.hid hok;have HBd:=Lib.hid hbd
  rw[hout] at hR
  generalize (q2f st.w h' B).getD en0=y at*
  generalize (q2f st.w h' B).isSome=q at*
  have HR:=Lib.hid hR
  obtain ⟨y1,y2,y3⟩:=y
  have HRm:Hid (Calls Tryz.prog 71 #[.pointer (some ⟨gm,0,none⟩),.int .u64 h',.int .i64 B] w fun r w'=>r= .returned (.tuple #[.agg #[.int .u64 y1,.int .i64 y2,.int .i64 y3],.bool q])∧Ext w w'):=HRm
  clear hi hok hbd hR h1 hout hver
  go_enter Tryz.func39,Tryz.ntmps39
  go_wp2_with fail
  refine HN.out.mono ?_
  rintro e w1 ⟨rfl,rfl⟩
  go_wp2_with fail
  refine HRm.out.mono ?_
  rintro e w1 ⟨rfl,hb1⟩
  have HX1:=Lib.hid (hb1.trans (q0B w1 (.cells #[.int .u64 y1,.int .i64 y2,.int .i64 y3] 108)))
  have hbk:=Blk.new w1 108 #[.int .u64 y1,.int .i64 y2,.int .i64 y3]
  have k1:(w1.alloc (.cells #[.int .u64 y1,.int .i64 y2,.int .i64 y3] 108)).cell? ⟨w1.heap.size,1,none⟩=some (.int .i64 y2):=hbk.cell 1
  obtain ⟨av,kv,rfl,hgr⟩:=HI.out.grid
  have c4:=(HI.out.ext HX1.out).c4
  have HAl:=Lib.hid (z3P av st.m.L.length kv st.m.L _ (hgr.ext HX1.out) (by have:=HBd.out.2.1;omega))
  obtain ⟨W0,hW0⟩: ∃W0,w1.alloc (.cells #[.int .u64 y1,.int .i64 y2,.int .i64 y3] 108)=W0:=⟨_,rfl⟩
  rw[hW0] at HX1 k1 c4 HAl
  clear hb1 hgr hbk HRm c6
  cases q with
  | false =>
    go_wp2_with fail
    refine HAl.out.mono ?_
    rintro e w2 ⟨va,rfl,hall,hb2⟩
    obtain ⟨aa,ka,rfl⟩:=hall.slice
    have HX2:=Lib.hid (HX1.out.trans hb2)
    obtain ⟨ns,hns⟩: ∃ns,st.m.L.flatten=ns:=⟨_,rfl⟩
    have hRR:=HR.out
    rw[hns] at hall hRR
    have HRn:=Lib.hid hRR
    have HNs:=Lib.hid hns
    have HL0:=Lib.hid ((LsW.start HK.out (W:=w2) HX2.out (va:= .slice aa ns.length ka) (hall.base0 HX1.out.size)))
    rw[hns]
    obtain ⟨n,hn⟩: ∃n,ns.length=n:=⟨_,rfl⟩
    have HNl:=Lib.hid hn
    have hn40:n≤40:=by rw[←hn,←hns];exact HBd.out.2.1
    rw[hn] at HL0
    rw[hn]
    clear hall hb2 hns hn HAl HX1 c4 HN HI hRR hW0 k1
    go_wp2_with fail
    go_loopw [8,40] (fun o i W=> ∃(k:Nat) (τ:DM) (oz:Int),k≤n∧i= .int .i64 (k:Int)∧o= .int .i64 oz∧LsW wb w W g gx st τ K (.slice aa n ka) (.slice none 0 0) [] ns [] w.heap.size∧q2b st h' B τ (ns.drop k) oz=R) (fun _ i _=>n-(intOf i).toNat)
    case atStart=>exact ⟨0,σ,_,Nat.zero_le _,rfl,rfl,HL0.out,HRn.out⟩
    case round=>
      obtain ⟨k,τ,oz,hk,rfl,rfl,hls,hrr⟩:=hrel
      have HL:=Lib.hid hls;have HRr:=Lib.hid hrr
      clear hls hrr
      by_cases hlt:k<n
      · have hd:decide ((k:Int)<(n:Int))=true:=decide_eq_true (by omega)
        have q1:IntKind.i64.wrap ((k:Int)+1)=(k:Int)+1:=by rw[IntKind.wrap_i64];omega
        have q5:(k:Int)<(n:Int):=by omega
        obtain ⟨_,_,ea,hia⟩:=q2c HL.out.all
        rw[HNl.out] at ea
        cases ea
        rw[HNl.out] at hia
        obtain ⟨ba,oa,rfl,n0⟩:=hia.at hlt
        have hkl:k<ns.length:=by rw[HNl.out];exact hlt
        have hdrop:ns.drop k=ns.getD k 0::ns.drop (k+1):=by
          rw[List.drop_eq_getElem_cons hkl,List.getD_eq_getElem?_getD,List.getElem?_eq_getElem hkl];rfl
        have hmem:ns.getD k 0∈st.m.L.flatten:=by rw[HNs.out];exact q3f ns k hkl
        have hrr:=HRr.out
        rw[hdrop] at hrr
        obtain ⟨e,he⟩:=hfull _ hmem
        have hwf:=(HBd.out.2.2.2.1 _ hmem).1
        generalize ns.getD k 0=nk at*
        rw[q2b,he] at hrr
        simp only at hrr
        obtain ⟨F2,gm2,gt2,Y2,h2⟩:=HL.out.i
        have HTr:=Lib.hid (z4L (h2.tb he) h' B hB0)
        have HF2:=Lib.hid h2
        obtain ⟨_,v2,vs2,vm2,D2,nn2,hi2⟩:=h2.i.x
        have c7:=hi2.c7
        have hlk:=hi2.at hwf he
        obtain ⟨r,hr⟩: ∃r,q2o τ nk e.L e.may h' B=r:=⟨_,rfl⟩
        rw[hr] at hrr HTr
        obtain ⟨⟨z1,z2,z3⟩,okb,c,τ2⟩:=r
        simp only at hrr
        have HTr:Hid (Calls Tryz.prog 73 #[.pointer (some ⟨e.b,0,none⟩),.int .u64 h',.int .i64 B] wr fun e w'=>e= .returned (.tuple #[.agg #[.int .u64 z1,.int .i64 z2,.int .i64 z3],.bool okb,.int .i64 c])∧DkS wr g F2 τ2 w'):=HTr
        have HRR:=Lib.hid hrr
        have HLk:=Lib.hid hlk
        clear hia hdrop hmem hrr h2 hi2 hr
        go_wp2_with fail
        refine HTr.out.mono ?_
        rintro e3 w3 ⟨rfl,hd3⟩
        obtain ⟨h3,hst3⟩:=HF2.out.disk hd3
        have HL3:=Lib.hid ((HL.out.step ⟨_,_,_,_,h3⟩ hst3 hd3.off.size).grow (q0B w3 (.cells #[.int .u64 z1,.int .i64 z2,.int .i64 z3] 108)))
        have hbk:=Blk.new w3 108 #[.int .u64 z1,.int .i64 z2,.int .i64 z3]
        have k1:(w3.alloc (.cells #[.int .u64 z1,.int .i64 z2,.int .i64 z3] 108)).cell? ⟨w3.heap.size,1,none⟩=some (.int .i64 z2):=hbk.cell 1
        clear hd3 h3 hst3 HTr c7 HLk hlk hbk
        by_cases hc:c=0
        case neg=>
          have g2:(c !=0)=true:=by simpa using hc
          have HE:Hid (R=(-1,c,τ2)):=Lib.hid (by
            have h:=HRR.out
            rw[if_pos hc] at h
            exact h.symm)
          clear hc
          go_wp2_with fail
          go_ret2
          rw[HE.out]
          exact ⟨rfl,HL3.out.i.beside fun i hi=> .inl hi,HL3.out.stay⟩
        case pos=>
        subst hc
        cases okb with
        | false=>
          have HR2:Hid (q2b st h' B τ2 (ns.drop (k+1)) oz=R):=Lib.hid (by have h:=HRR.out;rw[if_neg (fun h=>h rfl),if_neg (by decide)] at h;exact h)
          clear HRR
          go_wp2_with fail
          go_roundw
          case rel=>exact ⟨k+1,τ2,oz,hlt,by go_num,rfl,HL3.out,HR2.out⟩
          case measure=>simp[intOf];omega
        | true=>
          obtain ⟨O,hO⟩: ∃O,max oz z2=O:=⟨_,rfl⟩
          have HR2:Hid (q2b st h' B τ2 (ns.drop (k+1)) O=R):=Lib.hid (by have h:=HRR.out;rw[if_neg (fun h=>h rfl),if_pos rfl,hO] at h;exact h)
          clear HRR
          go_wp2_with fail
          go_roundw
          case rel=>exact ⟨k+1,τ2,O,hlt,by go_num,rfl,HL3.out,HR2.out⟩
          case measure=>simp[intOf];omega
      · obtain rfl:k=n:=by omega
        have hd:decide ((k:Int)<(k:Int))=false:=decide_eq_false (by omega)
        have hrr:=HRr.out
        rw[List.drop_of_length_le (by rw[HNl.out];exact Nat.le_refl _),q2b] at hrr
        have HE:=Lib.hid hrr
        clear hrr
        go_wp2_with fail
        go_ret2
        rw[←HE.out]
        exact ⟨rfl,HL.out.i.beside fun i hi=> .inl hi,HL.out.stay⟩
  | true =>
    go_wp2_with fail
    refine HAl.out.mono ?_
    rintro e w2 ⟨va,rfl,hall,hb2⟩
    obtain ⟨aa,ka,rfl⟩:=hall.slice
    have HX2:=Lib.hid (HX1.out.trans hb2)
    obtain ⟨ns,hns⟩: ∃ns,st.m.L.flatten=ns:=⟨_,rfl⟩
    have hRR:=HR.out
    rw[hns] at hall hRR
    have HRn:=Lib.hid hRR
    have HNs:=Lib.hid hns
    have HL0:=Lib.hid ((LsW.start HK.out (W:=w2) HX2.out (va:= .slice aa ns.length ka) (hall.base0 HX1.out.size)))
    rw[hns]
    obtain ⟨n,hn⟩: ∃n,ns.length=n:=⟨_,rfl⟩
    have HNl:=Lib.hid hn
    have hn40:n≤40:=by rw[←hn,←hns];exact HBd.out.2.1
    rw[hn] at HL0
    rw[hn]
    clear hall hb2 hns hn HAl HX1 c4 HN HI hRR hW0 k1
    go_wp2_with fail
    go_loopw [8,40] (fun o i W=> ∃(k:Nat) (τ:DM) (oz:Int),k≤n∧i= .int .i64 (k:Int)∧o= .int .i64 oz∧LsW wb w W g gx st τ K (.slice aa n ka) (.slice none 0 0) [] ns [] w.heap.size∧q2b st h' B τ (ns.drop k) oz=R) (fun _ i _=>n-(intOf i).toNat)
    case atStart=>exact ⟨0,σ,_,Nat.zero_le _,rfl,rfl,HL0.out,HRn.out⟩
    case round=>
      obtain ⟨k,τ,oz,hk,rfl,rfl,hls,hrr⟩:=hrel
      have HL:=Lib.hid hls;have HRr:=Lib.hid hrr
      clear hls hrr
      by_cases hlt:k<n
      · have hd:decide ((k:Int)<(n:Int))=true:=decide_eq_true (by omega)
        have q1:IntKind.i64.wrap ((k:Int)+1)=(k:Int)+1:=by rw[IntKind.wrap_i64];omega
        have q5:(k:Int)<(n:Int):=by omega
        obtain ⟨_,_,ea,hia⟩:=q2c HL.out.all
        rw[HNl.out] at ea
        cases ea
        rw[HNl.out] at hia
        obtain ⟨ba,oa,rfl,n0⟩:=hia.at hlt
        have hkl:k<ns.length:=by rw[HNl.out];exact hlt
        have hdrop:ns.drop k=ns.getD k 0::ns.drop (k+1):=by
          rw[List.drop_eq_getElem_cons hkl,List.getD_eq_getElem?_getD,List.getElem?_eq_getElem hkl];rfl
        have hmem:ns.getD k 0∈st.m.L.flatten:=by rw[HNs.out];exact q3f ns k hkl
        have hrr:=HRr.out
        rw[hdrop] at hrr
        obtain ⟨e,he⟩:=hfull _ hmem
        have hwf:=(HBd.out.2.2.2.1 _ hmem).1
        generalize ns.getD k 0=nk at*
        rw[q2b,he] at hrr
        simp only at hrr
        obtain ⟨F2,gm2,gt2,Y2,h2⟩:=HL.out.i
        have HTr:=Lib.hid (z4L (h2.tb he) h' B hB0)
        have HF2:=Lib.hid h2
        obtain ⟨_,v2,vs2,vm2,D2,nn2,hi2⟩:=h2.i.x
        have c7:=hi2.c7
        have hlk:=hi2.at hwf he
        obtain ⟨r,hr⟩: ∃r,q2o τ nk e.L e.may h' B=r:=⟨_,rfl⟩
        rw[hr] at hrr HTr
        obtain ⟨⟨z1,z2,z3⟩,okb,c,τ2⟩:=r
        simp only at hrr
        have HTr:Hid (Calls Tryz.prog 73 #[.pointer (some ⟨e.b,0,none⟩),.int .u64 h',.int .i64 B] wr fun e w'=>e= .returned (.tuple #[.agg #[.int .u64 z1,.int .i64 z2,.int .i64 z3],.bool okb,.int .i64 c])∧DkS wr g F2 τ2 w'):=HTr
        have HRR:=Lib.hid hrr
        have HLk:=Lib.hid hlk
        clear hia hdrop hmem hrr h2 hi2 hr
        go_wp2_with fail
        refine HTr.out.mono ?_
        rintro e3 w3 ⟨rfl,hd3⟩
        obtain ⟨h3,hst3⟩:=HF2.out.disk hd3
        have HL3:=Lib.hid ((HL.out.step ⟨_,_,_,_,h3⟩ hst3 hd3.off.size).grow (q0B w3 (.cells #[.int .u64 z1,.int .i64 z2,.int .i64 z3] 108)))
        have hbk:=Blk.new w3 108 #[.int .u64 z1,.int .i64 z2,.int .i64 z3]
        have k1:(w3.alloc (.cells #[.int .u64 z1,.int .i64 z2,.int .i64 z3] 108)).cell? ⟨w3.heap.size,1,none⟩=some (.int .i64 z2):=hbk.cell 1
        clear hd3 h3 hst3 HTr c7 HLk hlk hbk
        by_cases hc:c=0
        case neg=>
          have g2:(c !=0)=true:=by simpa using hc
          have HE:Hid (R=(-1,c,τ2)):=Lib.hid (by
            have h:=HRR.out
            rw[if_pos hc] at h
            exact h.symm)
          clear hc
          go_wp2_with fail
          go_ret2
          rw[HE.out]
          exact ⟨rfl,HL3.out.i.beside fun i hi=> .inl hi,HL3.out.stay⟩
        case pos=>
        subst hc
        cases okb with
        | false=>
          have HR2:Hid (q2b st h' B τ2 (ns.drop (k+1)) oz=R):=Lib.hid (by have h:=HRR.out;rw[if_neg (fun h=>h rfl),if_neg (by decide)] at h;exact h)
          clear HRR
          go_wp2_with fail
          go_roundw
          case rel=>exact ⟨k+1,τ2,oz,hlt,by go_num,rfl,HL3.out,HR2.out⟩
          case measure=>simp[intOf];omega
        | true=>
          obtain ⟨O,hO⟩: ∃O,max oz z2=O:=⟨_,rfl⟩
          have HR2:Hid (q2b st h' B τ2 (ns.drop (k+1)) O=R):=Lib.hid (by have h:=HRR.out;rw[if_neg (fun h=>h rfl),if_pos rfl,hO] at h;exact h)
          clear HRR
          go_wp2_with fail
          go_roundw
          case rel=>exact ⟨k+1,τ2,O,hlt,by go_num,rfl,HL3.out,HR2.out⟩
          case measure=>simp[intOf];omega
      · obtain rfl:k=n:=by omega
        have hd:decide ((k:Int)<(k:Int))=false:=decide_eq_false (by omega)
        have hrr:=HRr.out
        rw[List.drop_of_length_le (by rw[HNl.out];exact Nat.le_refl _),q2b] at hrr
        have HE:=Lib.hid hrr
        clear hrr
        go_wp2_with fail
        go_ret2
        rw[←HE.out]
        exact ⟨rfl,HL.out.i.beside fun i hi=> .inl hi,HL.out.stay⟩
end
end Go.Proofs.YtjjfiejoeelndaaGreatDoor
