/- Walks. -/
import Derived.Test.YthdekbmdkpcooaaGreatDoorG23CT
import Derived.Lib.BufferWrite
set_option linter.unusedVariables false
set_option linter.unusedSimpArgs false
set_option maxRecDepth 100000
set_option maxHeartbeats 1600000
namespace Go.Proofs.YthdekbmdkpcooaaGreatDoor
theorem η24 {p:Prop} (h:p):Go.RowKit.Hid p:=Lib.hid h
section
open Go.RowKit
theorem y0F :(Tryz.prog.info? 5).map (fun i=>(i.zero,i.size,i.bytes))=some (some (.int .u8 0),1,1):=by kernel_rfl
end
section
open Go.RowKit
theorem q7f {P:Program} (w:World) (B:Nat) (t u ty e:TypeId) (ht:P.underlying t=some (.slice e)) (hu:P.underlying u=some .string) (hinfo:(P.info? e).map (fun i=>(i.zero,i.size,i.bytes))=some (some (.int .u8 0),1,1))
  (v:Value) (n:Nat) (xs:List Value) (hown:Own w B e 1 v n xs) (hB:B≤w.heap.size) (s:List UInt8) (hb:n+s.length≤140737488355328):
  ∃v' w',(Builtin.append_ #[t,u] ty #[v,.string ⟨s.toArray⟩]).run P w= .ok v' w'∧Own w' B e 1 v' (n+s.length) (xs++s.map q1L)∧w.grownBy w' v.ownBlock∧ ∀i,v'.ownBlock=some i→v.ownBlock=some i∨w.heap.size≤i:=by
 obtain ⟨i,hi,hz,hsize,hby⟩:=info_parts hinfo;have hxl:xs.length=n:=by simpa using hown.1
 have hsz:(⟨s.toArray⟩:ByteArray).size=s.length:=by simp[ByteArray.size]
 have hcells:Lib.strCells ⟨s.toArray⟩=s.map q1L:=rfl;have viaRow: ∀B',w.ownsRow B' e 1 v n xs→B'≤w.heap.size→(∀i,v.ownBlock=some i→True)→ ∃v' w',(Builtin.append_ #[t,u] ty #[v,.string ⟨s.toArray⟩]).run P w= .ok v' w'∧w'.ownsRow B' e 1 v' (n+s.length) (xs++s.map q1L)∧w.grownBy w' v.ownBlock:=by
  intro B' hrow hB' _;obtain ⟨v',w',h1,h2,h3,_⟩:=Lib.run_append_own_string (P:=P) w B' t u ty e i ht hu hi hz hsize hby v n xs hrow ⟨s.toArray⟩ (by rw[hsz];unfold maxLen;omega) (by rw[hsz];exact hb) hB';rw[hsz,hcells] at h2;exact ⟨v',w',h1,h2,h3⟩
 rcases hown.2 with ⟨rfl,rfl⟩|⟨g,cap,cur,rfl,hbg,hg,hnc,hcm,hcs,htk⟩
 ·obtain rfl:xs=[]:=List.eq_nil_of_length_eq_zero hxl
  obtain ⟨v',w',h1,h2,h3⟩:=viaRow w.heap.size (World.ownsRow_nil _ _ _ _) (Nat.le_refl _) (fun _ _=>trivial);exact ⟨v',w',h1,(Own.of_row h2).base hB,h3,fun i hi2=> .inr ((Own.of_row h2).lt i hi2).1⟩
 ·simp only[Nat.mul_one] at hcs htk
  by_cases hroom:n+s.length≤cap
  ·have hr:=Lib.run_append_room_string (P:=P) w t u ty e i ht hu hi hsize g n cap cur hg ⟨s.toArray⟩ (by rw[hsz];exact hroom) (by rw[hsz];omega)
   rw[hsz,hcells] at hr;refine ⟨_,_,hr,⟨by simp[hxl],.inr ⟨g,cap,_,rfl,hbg,setRow_heap w g cur _ e _ hg,hroom,hcm,?_,?_⟩⟩,⟨rfl,rfl,rfl,by simp,fun k _ hk=>setRow_other w g k _ (fun e=>hk (by simp[Value.ownBlock,e]))⟩,fun i hi2=> .inl hi2⟩
   ·simp only[List.size_toArray,List.length_append,List.length_take,List.length_drop,Array.length_toList,List.length_map]
    omega
   ·rw[htk,Nat.mul_one,show n+s.length=(xs++s.map q1L).length from by simp[hxl]]
    exact List.take_left
  ·have holds: ∀j u',xs[j]? =some u'→w.cell? ((⟨g,0,none⟩:Addr).add j)=some u':=by
    intro j u' hj;obtain ⟨ao,cap',e1,_,_,_,hrd⟩:=hown.rd
    cases e1;obtain ⟨b,off,e2,hc⟩:=hrd j u' hj
    cases e2;rw[Addr.add_lit];exact hc
   have hr:=Lib.run_append_grow_string (P:=P) w t u ty e i (.int .u8 0) ht hu hi hz ⟨g,0,none⟩ n cap xs (by rw[hsize];simpa using hxl) holds ⟨s.toArray⟩ (by rw[hsz];omega) (by rw[hsz];omega) (by rw[hby];exact growslice_fits (by rw[hsz];omega) (by rw[hsz];omega));rw[hsz,hcells] at hr;have hge:=grownCap_ge w (n+s.length) cap e;have hcm2:grownCap w (n+s.length) cap e≤maxLen:=grownCap_le_maxLen w (n+s.length) cap e (by unfold maxLen;omega);refine ⟨_,_,hr,⟨by simp[hxl],.inr ⟨w.heap.size,_,_,rfl,hB,heap_alloc_new w.drew _,hge,by unfold maxLen at hcm2;omega,?_,?_⟩⟩,⟨rfl,rfl,rfl,by simp,fun k hk _=>by first|exact heap_alloc_old w.drew _ k hk|exact heap_alloc_old w.drew _ hk⟩,fun i hi2=> .inr (by cases hi2;exact Nat.le_refl _)⟩
   ·have hz1:(Value.int IntKind.u8 0).cells.size=1:=rfl
    simp only[Array.size_append,List.size_toArray,size_zeroCells,hz1,hxl,List.length_map];omega
   ·simp only[Array.toList_append,List.append_assoc,Nat.mul_one]
    rw[←List.append_assoc,show n+s.length=(xs++s.map q1L).length from by simp[hxl]];exact List.take_left
theorem q5k {P:Program} {w:World} {ops:Array Oper} {rest:List Oper} {o:Oper} {a:Act} {Q:Exit→Act→World→Prop} (hgd:o.guard=none) (sl x:Operand) (t u:TypeId)
  (ho:o.op= .call {callee:= .builtin .append,args:=#[sl,x],argTypes:=#[t,u]}) (B:Nat) (e:TypeId) (ht:P.underlying t=some (.slice e)) (hu:P.underlying u=some .string) (hinfo:(P.info? e).map (fun i=>(i.zero,i.size,i.bytes))=some (some (.int .u8 0),1,1))
  (v:Value) (n:Nat) (xs:List Value) (hs:a.eval sl=v) (hown:Own w B e 1 v n xs) (hB:B≤w.heap.size) (s:List UInt8) (hx:a.eval x= .string ⟨s.toArray⟩) (hb:n+s.length≤140737488355328)
  (h: ∀v' w',Own w' B e 1 v' (n+s.length) (xs++s.map q1L)→w.grownBy w' v.ownBlock→(∀i,v'.ownBlock=some i→v.ownBlock=some i∨w.heap.size≤i)→wpList P ops Q rest (a.put o.dst v') w'):wpList P ops Q (o::rest) a w:=by
 refine wpList_plain hgd fun K hK=>?_
 obtain ⟨v',w',hr,h2,h3,h4⟩:=q7f (P:=P) w B t u o.type e ht hu hinfo v n xs hown hB s hb;unfold Oper.wp execOp;simp only[ho,resolve,invoke,builtin,Sem.run_bind,Sem.run_pure,Result.andThen_ok,List.map_toArray,List.map_cons,List.map_nil,hs,hx,hr];exact hK _ _ (h v' w' h2 h3 h4)
theorem z9M {w w1 w2:World} {g m:Nat} {kv:Value} {L:List FE} {σ:DM} (h:DkI w g m kv L (q0P σ.L:Int) σ) (ho:okD σ) {nm s:List UInt8} {e:FE} (hf:q0H FE.nm nm L=some e) (hx:Ext w w1) {v':Value}
  (hown:Own w2 0 5 1 v' (e.f.da.length+s.length) (e.f.da.map q1L++s.map q1L)) (hg:w1.grownBy w2 e.v.ownBlock) (hsep: ∀i,v'.ownBlock=some i→e.v.ownBlock=some i∨w1.heap.size≤i) (hfull:(q0P σ.L:Int)+s.length≤σ.cap):
  DkI ((w2.setCell ⟨e.b,0,none⟩ v').setCell ⟨g,2,none⟩ (.int .i64 ((q0P σ.L:Int)+s.length))) g m kv (q1N FE.nm nm (fun _=>(⟨{e.f with da:=e.f.da++s},e.b,v'⟩:FE)) L) (q0P (q8L σ nm s).L:Int) (q8L σ nm s)∧
   OffS (MutD g m L) w ((w2.setCell ⟨e.b,0,none⟩ v').setCell ⟨g,2,none⟩ (.int .i64 ((q0P σ.L:Int)+s.length)))∧
   ∀i,InD g m kv (q1N FE.nm nm (fun _=>(⟨{e.f with da:=e.f.da++s},e.b,v'⟩:FE)) L) i→InD g m kv L i∨w.heap.size≤i:=by
 obtain ⟨he,hen⟩:=q0O hf;have hfm:q0H FM.nm nm σ.L=some e.f:=by rw[←h.files,q1m (k:=FE.nm) (k':=FM.nm) (h:=FE.f) (fun x=>rfl),hf];rfl
 have happ:=ho.app hfm hfull;have hgb:=h.neB he;have hsz:=hx.size;have hw2: ∀i,i<w.heap.size→e.v.ownBlock≠some i→w2.heap[i]? =w.heap[i]? :=fun i hl hne=>(hg.block i (Nat.lt_of_lt_of_le hl hsz) (fun e1=>hne e1.symm)).trans (hx.block i hl)
 have hw: ∀i,i<w.heap.size→i≠g→i≠e.b→e.v.ownBlock≠some i→((w2.setCell ⟨e.b,0,none⟩ v').setCell ⟨g,2,none⟩ (.int .i64 ((q0P σ.L:Int)+s.length))).heap[i]? =w.heap[i]? :=fun i hl h1 h2 h3=>by
  rw[q0L _ _ h1,q0L _ _ h2];exact hw2 i hl h3
 have hrg:e.v.ownBlock≠some g:=fun h1=>h.ne (.inr ⟨e,he,.inr h1⟩)
 have hrb:=(h.fs.blk e he).own (h.fs.row e he) (by decide);have hbl:=(h.fs.blk e he).lt;have hsep': ∀i,v'.ownBlock=some i→e.v.ownBlock=some i∨w.heap.size≤i:=fun i hi=>(hsep i hi).imp id fun h1=>Nat.le_trans hsz h1
 have hblk2:=(h.fs.blk e he).same (hw2 _ hbl hrb);have hhd2:=h.head.same (hw2 _ h.head.lt hrg);have hne': ∀i,v'.ownBlock=some i→i≠g∧i≠e.b:=fun i hi=>by
  rcases hsep' i hi with h1|h1
  ·exact ⟨fun e1=>hrg (e1▸h1),fun e1=>hrb (e1▸h1)⟩
  ·have:=h.head.lt
   exact ⟨by omega,by omega⟩
 have hgr:w.heap.size≤((w2.setCell ⟨e.b,0,none⟩ v').setCell ⟨g,2,none⟩ (.int .i64 ((q0P σ.L:Int)+s.length))).heap.size:=by
  have:=hg.size;simp[World.setCell];omega
 refine ⟨h.fileSet (σ':=q8L σ nm s) (us':=(q0P (q8L σ nm s).L:Int)) hf (⟨{e.f with da:=e.f.da++s},e.b,v'⟩:FE) hen rfl hw ?_ ?_ ?_ hsep' (fun f=>{f with da:=f.da++s}) rfl rfl rfl,q6J he hgr (hg.os.trans hx.os) (hg.tape.trans hx.tape) (hg.output.trans hx.output) hw,fun i hi=>?_⟩
 ·have hh:=(hhd2.out hgb 0 v').set 2 (.int .i64 ((q0P σ.L:Int)+s.length))
  have e1:((q0P σ.L:Int)+s.length)=(q0P (q8L σ nm s).L:Int):=by rw[happ.2];omega
  rw[e1] at hh⊢;exact hh
 ·exact (hblk2.set 0 v').out (Ne.symm hgb) 2 _
 ·have h1:Own w2 0 5 1 v' (e.f.da++s).length ((e.f.da++s).map q1L):=by rw[List.length_append,List.map_append];exact hown
  exact h1.same fun i hi=>by rw[q0L _ _ (hne' i hi).1,q0L _ _ (hne' i hi).2]
 ·rcases hi with h1|h1|h1
  ·exact .inl (.inl h1)
  ·rcases InF.upd (e':=(⟨{e.f with da:=e.f.da++s},e.b,v'⟩:FE)) h.fs.ord hf rfl h1 with h4|h4
   ·exact .inl (.inr (.inl h4))
   ·rcases hsep' i h4 with h5|h5
    ·exact .inl (.inr (.inl (.inr ⟨e,he,.inr h5⟩)))
    ·exact .inr h5
  ·exact .inl (.inr (.inr h1))
theorem z2K {w:World} {g:Nat} {F:Nat→Prop} {σ:DM} (h:Dk w g F σ) (nm s:List UInt8) (hl:nm.length≤9223372036854775807) (hsl:s.length≤9223372036854775807):
  Calls Tryz.prog 123 #[.pointer (some ⟨g,0,none⟩),.string ⟨nm.toArray⟩,.string ⟨s.toArray⟩] w fun e w'=>e= .returned (.int .i64 (q2F σ nm s).1)∧DkS w g F (q2F σ nm s).2 w':=by
 obtain ⟨ho,m,kv,L,hi,fin⟩:=h.openD;have HF:=η24 fin;have HI:=η24 hi;have HO:=η24 ho;clear h fin;rcases z0I hi nm hl with ⟨hd,R,_⟩|⟨hd,hf,_,R,_⟩|⟨hd,e,hfe,hf,he,R,_⟩
 ·have HM:Hid (q2F σ nm s=(61,σ)):=η24 (by unfold q2F;rw[if_pos hd])
  clear hi ho hd;go_enter Tryz.func123,Tryz.ntmps123;go_wp2_with fail;refine R.out.mono ?_;rintro e w' ⟨rfl,rfl⟩;go_wp2_with fail;go_ret;rw[HM.out];exact ⟨rfl,HF.out _ _ (Fin.same HO.out HI.out)⟩
 ·have HM:Hid (q2F σ nm s=(4,σ)):=η24 (by unfold q2F;rw[if_neg (by rw[hd];decide),hf];rfl)
  clear hi ho hd hf;go_enter Tryz.func123,Tryz.ntmps123;go_wp2_with fail;refine R.out.mono ?_;rintro e w' ⟨rfl,rfl⟩;go_wp2_with fail;go_ret;rw[HM.out];exact ⟨rfl,HF.out _ _ (Fin.same HO.out HI.out)⟩
 ·have c1:=hi.c1;have c2:=hi.c2
  have hcap0:=ho.cap0;have hcap1:=ho.cap1;have hus1:=ho.used;obtain ⟨us,hus⟩: ∃us:Nat,q0P σ.L=us:=⟨_,rfl⟩
  obtain ⟨cp,hcp⟩: ∃cp,σ.cap=cp:=⟨_,rfl⟩
  have hM0:q2F σ nm s=if cp-(us:Int)<(s.length:Int) then (60,σ) else if q2B σ then (61,q5F (q8L σ nm s)) else (0,q2W (q8L σ nm s)):=by
   unfold q2F;rw[if_neg (by rw[hd];decide),hf,if_neg (by simp),hus,hcp]
  rw[hus,hcp] at hus1;rw[hcp] at c1 hcap0 hcap1;rw[hus] at c2;by_cases hroom:cp-(us:Int)<(s.length:Int)
  ·have HM:Hid (q2F σ nm s=(60,σ)):=η24 (by rw[hM0,if_pos hroom])
   clear hi ho hd hf hfe he hM0 hus hcp;generalize e.b=bb at*;go_enter Tryz.func123,Tryz.ntmps123;go_wp2_with fail;refine R.out.mono ?_;rintro e w' ⟨rfl,rfl⟩;go_wp2_with fail
   go_quiet (fail)
   go_wp2_with fail;go_ret;rw[HM.out];exact ⟨rfl,HF.out _ _ (Fin.ext HO.out HI.out ((Ext.refl w).drewN _))⟩
  ·have hM1:q2F σ nm s=if q2B σ then (61,q5F (q8L σ nm s)) else (0,q2W (q8L σ nm s)):=by rw[hM0,if_neg hroom]
   obtain ⟨ao,fc,hv,hv1,hv2,hv3,_⟩:=(hi.fs.row e he).rd;have hgb:=hi.neB he;have HFe:=η24 hfe;have HE:=η24 he;have HFm:=η24 hf;have HV:=η24 hv;have HUs:=η24 hus;have HCp:=η24 hcp;have hdl:e.f.da.length≤us:=by rw[←hus];exact q7C (q0O hf).1
   obtain ⟨bb,hbb⟩: ∃bb,e.b=bb:=⟨_,rfl⟩
   have HBb:=η24 hbb;have HGb:=η24 hgb;have HD:=η24 hd;rw[hbb] at R;have hslen:(s.length:Int)≤cp-us:=by omega
   have f0w: ∀k,(w.drewN k).cell? ⟨bb,0,none⟩=some (.slice ao e.f.da.length fc):=fun k=>by
    have:=(hi.ext ((Ext.refl w).drewN k)).f0 he;rw[hv,hbb] at this;exact this
   have HF0:=η24 f0w;have HRow:=η24 (fun k=>(hi.ext ((Ext.refl w).drewN k)).fs.row e he);have HDk:=η24 (fun k=>hi.ext ((Ext.refl w).drewN k));clear hi ho hd hf hfe he hM0 hus hcp hv hgb hbb f0w;go_enter Tryz.func123,Tryz.ntmps123;go_wp2_with fail;refine R.out.mono ?_;rintro en w' ⟨rfl,rfl⟩;go_wp2_with fail
   go_quiet (fail)
   have hDkn:=HDk.out nq;have f0:=HF0.out nq;have y0:(w.drewN nq).frozen? ⟨bb,0,none⟩=false:=by have:=hDkn.fz HE.out 0;rw[HBb.out] at this;exact this
   have HRn:=η24 (HRow.out nq);rw[HV.out] at HRn;have hgb:g≠bb:=by rw[←HBb.out];exact HGb.out
   have HDn:=η24 hDkn;have HRg:Hid (e.v.ownBlock≠some g):=η24 fun h1=>HI.out.ne (.inr ⟨e,HE.out,.inr h1⟩)
   have HRb:Hid (e.v.ownBlock≠some bb):=η24 (by rw[←HBb.out];exact (HI.out.fs.blk e HE.out).own (HI.out.fs.row e HE.out) (by decide));rw[HV.out] at HRg HRb;clear hDkn
   go_wp2_with (at_builtin;refine q5k rfl _ _ 154 9 rfl 0 5 Tryz.underlying154 Tryz.underlying9 y0F _ _ _ rfl HRn.out (Nat.zero_le _) s rfl (by omega) ?_;intro v' w2 hown' hg2 hsep2;obtain ⟨av,cv,rfl⟩:=hown'.slice;have hb2:=η24 (((HDn.out.fs.blk e HE.out).same (hg2.block _ (HDn.out.fs.blk e HE.out).lt (fun e1=>HRb.out (by rw[←HBb.out];exact e1.symm)))));have hh2:=η24 (HDn.out.head.same (hg2.block _ HDn.out.head.lt (fun e1=>HRg.out e1.symm)));have f02:w2.cell? ⟨bb,0,none⟩=some (.slice ao e.f.da.length fc):=(by have:=hb2.out.cell 0;rw[HBb.out,HV.out] at this;exact this);have y02:w2.frozen? ⟨bb,0,none⟩=false:=(by have:=hb2.out.free 0;rw[HBb.out] at this;exact this);have c22:w2.cell? ⟨g,2,none⟩=some (.int .i64 (us:Int)):=(by have:=hh2.out.cell 2;rw[HUs.out] at this;exact this);have z22:w2.frozen? ⟨g,2,none⟩=false:=hh2.out.free 2;have HA:=η24 (z9M HI.out HO.out HFe.out ((Ext.refl w).drewN nq) hown' (by rw[HV.out];exact hg2) (fun i hi=>by rw[HV.out];exact hsep2 i hi) (by rw[HUs.out,HCp.out];omega));clear hown' hg2 hsep2)
   rw[HBb.out,HUs.out] at HA;have HApp:=η24 (HO.out.app HFm.out (s:=s) (by rw[HUs.out,HCp.out];omega));clear hb2 hh2 f02 y02 c22 z22 f0 y0;generalize ((w2.setCell ⟨bb,0,none⟩ (.slice av (e.f.da.length+s.length) cv)).setCell ⟨g,2,none⟩ (.int .i64 ((us:Int)+s.length)))=W at*
   cases hfl:q2B σ with
   | true=>
    have HM:Hid (q2F σ nm s=(61,q5F (q8L σ nm s))):=η24 (by rw[hM1,hfl];rfl);have HS:=η24 (z2z HA.out.1 (show q2B (q8L σ nm s)=true from hfl));have HK:=η24 (z2i HA.out.1 HApp.out.1 (show (q8L σ nm s).down=false from HD.out));clear hfl hM1;refine HS.out.mono ?_;rintro en w3 ⟨rfl,rfl⟩;go_wp2_with fail;refine HK.out.mono ?_;rintro en w4 ⟨rfl,hfin⟩;have HX:=η24 (Fin.after HA.out.2.2 HA.out.2.1.inD hfin);clear hfin;go_wp2_with fail;go_ret;rw[HM.out];exact ⟨rfl,HF.out _ _ HX.out⟩
   | false=>
    have HM:Hid (q2F σ nm s=(0,q2W (q8L σ nm s))):=η24 (by rw[hM1,hfl];rfl);have HS:=η24 (z2P HA.out.1 HApp.out.1 (show q2B (q8L σ nm s)=false from hfl));clear hfl hM1;refine HS.out.mono ?_;rintro en w3 ⟨rfl,hi3,hof,hsz,hsame⟩;have HX:Fin W g m kv _ (q2W (q8L σ nm s)) w3:=⟨HApp.out.1.tick,m,kv,_,hi3,fun i hi=> .inl hi,hof.inD⟩
    have HX:=η24 (Fin.after HA.out.2.2 HA.out.2.1.inD HX);clear hi3 hof hsz hsame;go_wp2_with fail;go_ret;rw[HM.out];exact ⟨rfl,HF.out _ _ HX.out⟩
theorem y0M {w:World} {g m:Nat} {kv:Value} {L:List FE} {σ:DM} {us:Int} (h:DkI w g m kv L us σ):DkI (w.setCell ⟨g,4,none⟩ (.int .i64 (wrap64 (σ.reads+1)))) g m kv L us (q2N σ)∧OffS (MutD g m L) w (w.setCell ⟨g,4,none⟩ (.int .i64 (wrap64 (σ.reads+1)))):=
 ⟨h.headSet (fun i _ hg=>q0L _ _ hg) (h.head.set 4 _) rfl rfl,OffS.set w (F:=MutD g m L) (.inl rfl) _ _⟩
theorem y0B {w:World} {B:Nat} {e:TypeId} {v:Value} {n:Nat} {cs:List Value} (h:Own w B e 1 v n cs): ∃ao cap,v= .slice ao n cap∧n≤cap∧cap≤9223372036854775807∧((ao=none∧n=0∧cap=0)∨ ∃r,ao=some ⟨r,0,none⟩∧Rd w (some ⟨r,0,none⟩) cs):=by
 obtain ⟨ao,cap,e1,h1,h2,h3,h4⟩:=h.rd;refine ⟨ao,cap,e1,h1,h2,?_⟩;rcases h.2 with ⟨rfl,h0⟩|⟨g,c,cur,rfl,_⟩
 ·cases e1;exact .inl ⟨rfl,h0,rfl⟩
 ·cases e1;exact .inr ⟨g,rfl,h4⟩
theorem z0u (W:World) {ao:Option Addr} {n cap:Nat} {l:List UInt8} (hl:l.length=n) (h:Rd W ao (l.map q1L)) (hn:ao=none→n=0):
  (convert 154 9 (.slice ao n cap)).run Tryz.prog W= .ok (.string ⟨l.toArray⟩) W:=by
 cases ao with
 | none=>
  have h0:=hn rfl;subst h0;obtain rfl:l=[]:=List.eq_nil_of_length_eq_zero hl;exact run_convert_bytes_nil W 154 5 Tryz.underlying154 Tryz.underlying5 0 cap 9 Tryz.underlying9
 |some a=>exact q4K W _ _ 5 Tryz.underlying154 Tryz.underlying5 Tryz.underlying9 hl h
theorem z2g {w:World} {g:Nat} {F:Nat→Prop} {σ:DM} (h:Dk w g F σ) (nm:List UInt8) (a n:Int) (hl:nm.length≤9223372036854775807) (ha0: -9223372036854775808≤a) (ha1:a≤9223372036854775807) (hn0: -9223372036854775808≤n) (hn1:n≤9223372036854775807):
  Calls Tryz.prog 90 #[.pointer (some ⟨g,0,none⟩),.string ⟨nm.toArray⟩,.int .i64 a,.int .i64 n] w fun e w'=>e= .returned (.tuple #[.string ⟨(q1b σ nm a n).1.toArray⟩,.int .i64 (q1b σ nm a n).2.1])∧DkS w g F (q1b σ nm a n).2.2 w':=by
 obtain ⟨ho,m,kv,L,hi,fin⟩:=h.openD;have HF:=η24 fin;have HI:=η24 hi;have HO:=η24 ho;have c6:=hi.c6;have c4:=hi.c4;have z4:=hi.z 4;obtain ⟨ht,hof⟩:=y0M hi;have HT:=η24 ht;have HOf:Hid (OffS (InD g m kv L) w (w.setCell ⟨g,4,none⟩ (.int .i64 (wrap64 (σ.reads+1))))):=η24 hof.inD;clear h fin hof;have HFin:Hid (Fin w g m kv L (q2N σ) (w.setCell ⟨g,4,none⟩ (.int .i64 (wrap64 (σ.reads+1))))):=η24 ⟨HO.out.tell,m,kv,L,ht,fun i hi=> .inl hi,HOf.out⟩;rcases z0I ht nm hl with ⟨hd,R,_⟩|⟨hd,hf,_,R,_⟩|⟨hd,e,hfe,hf,he,R,_⟩
 ·have hd':σ.down=true:=hd
  have HM:Hid (q1b σ nm a n=([],61,σ)):=η24 (by unfold q1b;rw[if_pos hd']);rw[hd'] at c6;have HR:=η24 (q4d w g hi.c0 c6);have HR2:=η24 (q9g w g hi.c0 c6 ⟨nm.toArray⟩);clear hi ho ht hd hd' R HFin;go_enter Tryz.func90,Tryz.ntmps90;go_wp2_with fail;refine HR.out.mono ?_;rintro e w' ⟨rfl,rfl⟩;go_wp2_with fail;refine HR2.out.mono ?_;rintro e w' ⟨rfl,rfl⟩;go_wp2_with fail;go_ret2;rw[HM.out];exact ⟨rfl,HF.out _ _ (Fin.same HO.out HI.out)⟩
 ·have hd':σ.down=false:=hd
  have hf':q0H FM.nm nm σ.L=none:=hf;have HM:Hid (q1b σ nm a n=([],4,q2N σ)):=η24 (by unfold q1b;rw[if_neg (by rw[hd'];decide),hf']);rw[hd'] at c6;have HR:=η24 (q3m w g hi.c0 c6);generalize σ.reads=rd at*;clear hi ho ht hd hd' hf hf';go_enter Tryz.func90,Tryz.ntmps90;go_wp2_with fail;refine HR.out.mono ?_;rintro e w' ⟨rfl,rfl⟩;go_wp2_with fail;refine R.out.mono ?_;rintro e w' ⟨rfl,rfl⟩;go_wp2_with fail;go_ret2;rw[HM.out];exact ⟨rfl,HF.out _ _ HFin.out⟩
 ·have hd':σ.down=false:=hd
  have hf':q0H FM.nm nm σ.L=some e.f:=hf;have HM0:Hid (q1b σ nm a n=if 0≤a∧0≤n∧a≤(e.f.da.length:Int)∧n≤(e.f.da.length:Int)-a then ((e.f.da.drop a.toNat).take n.toNat,0,q2N σ) else ([],2,q2N σ)):=η24 (by unfold q1b;rw[if_neg (by rw[hd'];decide),hf']);rw[hd'] at c6;have HR:=η24 (q3m w g hi.c0 c6);obtain ⟨ao,fc,hv,hv1,hv2,hrd⟩:=y0B (ht.fs.row e he);have f0:=ht.f0 he;rw[hv] at f0;have hus:=ho.used;have hcap:=ho.cap1;have hdl:e.f.da.length≤q0P σ.L:=q7C (q0O hf').1;have hdl1:e.f.da.length≤1048576:=by omega
  obtain ⟨da,hda⟩: ∃da,e.f.da=da:=⟨_,rfl⟩
  obtain ⟨dl,hdl2⟩: ∃dl,da.length=dl:=⟨_,rfl⟩
  rw[hda] at HM0 hrd;rw[hda,hdl2] at f0 hv1 hdl1;rw[hdl2] at hrd;rw[hdl2] at HM0;have HDl:=η24 hdl2;have HRd:=η24 hrd;have HSt:=η24 (fun (ao:Option Addr) n cap l h1 h2 h3=>z0u (w.setCell ⟨g,4,none⟩ (.int .i64 (wrap64 (σ.reads+1)))) (ao:=ao) (n:=n) (cap:=cap) (l:=l) h1 h2 h3);generalize σ.reads=rd at*;generalize e.b=bb at*;clear hi ho ht hd hd' hf hf' hfe he hv hus hcap hdl hda hdl2 hrd HI HO HT;by_cases hok:0≤a∧0≤n∧a≤(dl:Int)∧n≤(dl:Int)-a
  ·have HM:=η24 (HM0.out.trans (if_pos hok))
   obtain ⟨k,rfl⟩: ∃k:Nat,a=(k:Int):=⟨a.toNat,by omega⟩
   obtain ⟨nn,rfl⟩: ∃nn:Nat,n=(nn:Int):=⟨n.toNat,by omega⟩
   obtain ⟨h1,h2,h3,h4⟩:=hok;have hlen:((da.drop k).take nn).length=nn:=by have:=HDl.out;rw[List.length_take,List.length_drop];omega
   clear HM0;rcases HRd.out with ⟨rfl,h5,h6⟩|⟨r,rfl,hr⟩
   ·subst h6
    obtain rfl:dl=0:=h5;obtain rfl:k=0:=by omega
    obtain rfl:nn=0:=by omega
    have hcv:=HSt.out none 0 0 [] rfl (Rd.nil _ _) (fun _=>rfl);have hda0:da=[]:=List.eq_nil_of_length_eq_zero HDl.out;clear h1 h2 h3 h4 hlen HRd HDl ha0 ha1 hn0 hn1;subst hda0;go_enter Tryz.func90,Tryz.ntmps90;go_wp2_with fail;refine HR.out.mono ?_;rintro e w' ⟨rfl,rfl⟩;go_wp2_with fail;refine R.out.mono ?_;rintro e w' ⟨rfl,rfl⟩;go_wp2_with fail;go_ret2;rw[HM.out];exact ⟨rfl,HF.out _ _ HFin.out⟩
   ·have hlt:k+nn≤fc:=by omega
    by_cases hkc:fc=k
    ·obtain rfl:nn=0:=by omega
     have hcv:=HSt.out (some ⟨r,0,none⟩) 0 0 [] rfl (Rd.nil _ _) (fun _=>rfl);have hH:=η24 hlen;subst hkc;clear hlen HRd hr;go_enter Tryz.func90,Tryz.ntmps90;go_wp2_with fail;refine HR.out.mono ?_;rintro e w' ⟨rfl,rfl⟩;go_wp2_with fail;refine R.out.mono ?_;rintro e w' ⟨rfl,rfl⟩;go_wp2_with fail;go_ret2;rw[HM.out];exact ⟨rfl,HF.out _ _ HFin.out⟩
    ·have hr2:=(hr.drop k).take nn
     rw[Nat.zero_add,←List.map_drop,←List.map_take] at hr2;have hcv:=HSt.out (some ⟨r,k,none⟩) nn (fc-k) ((da.drop k).take nn) hlen hr2 (fun h=>by cases h);clear hlen HRd hr hr2;go_enter Tryz.func90,Tryz.ntmps90;go_wp2_with fail;refine HR.out.mono ?_;rintro e w' ⟨rfl,rfl⟩;go_wp2_with fail;refine R.out.mono ?_;rintro e w' ⟨rfl,rfl⟩;go_wp2_with fail;go_ret2;rw[HM.out];exact ⟨rfl,HF.out _ _ HFin.out⟩
  ·have HM:=η24 (HM0.out.trans (if_neg hok))
   have hcase:a<0∨(0≤a∧n<0)∨(0≤a∧0≤n∧(dl:Int)<a)∨(0≤a∧0≤n∧a≤(dl:Int)∧(dl:Int)-a<n):=by omega
   clear hok HM0;rcases hcase with h1|⟨h1,h2⟩|⟨h1,h2,h3⟩|⟨h1,h2,h3,h4⟩
   all_goals
    go_enter Tryz.func90,Tryz.ntmps90;go_wp2_with fail;refine HR.out.mono ?_;rintro e w' ⟨rfl,rfl⟩;go_wp2_with fail;refine R.out.mono ?_;rintro e w' ⟨rfl,rfl⟩;go_wp2_with fail;go_ret2;rw[HM.out];exact ⟨rfl,HF.out _ _ HFin.out⟩
end
end Go.Proofs.YthdekbmdkpcooaaGreatDoor
