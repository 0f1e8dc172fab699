/- Walks. -/
import Derived.Test.YthdekbmdkpcooaaGreatDoorG18CT
import Derived.Test.YthdekbmdkpcooaaGreatDoorG19CT
set_option linter.unusedVariables false
set_option linter.unusedSimpArgs false
set_option maxRecDepth 100000
set_option maxHeartbeats 6400000
namespace Go.Proofs.YthdekbmdkpcooaaGreatDoor
theorem η20 {p:Prop} (h:p):Go.RowKit.Hid p:=Lib.hid h
section
open Go.RowKit
def pgE (v:Value):Option (DataW Unit×List MemPlace):=
 match v with
 | .string s=>if s.size=60 then some (.lit (.string s.data.toList),[]) else none
 |_=>none
theorem y0r {l:List UInt8} (h:l.length=60):pgE (.string ⟨l.toArray⟩)=some (.lit (.string l),[]):=by
 unfold pgE;have:(⟨l.toArray⟩:ByteArray).size=60:=h;simp only[this,if_true]
theorem z9O {v:Value} {y:DataW Unit×List MemPlace} (h:pgE v=some y): ∃l:List UInt8,l.length=60∧v= .string ⟨l.toArray⟩∧y=(.lit (.string l),[]):=by
 unfold pgE at h
 split at h
 ·rename_i s
  split at h
  ·rename_i hs
   refine ⟨s.data.toList,by simpa using hs,by simp,by simpa using h.symm⟩
  ·cases h
 ·cases h
theorem y1t :Maps.Keyed Tryz.prog 3:=Maps.int_keyed Tryz.underlying3
theorem y1W (w:World):(zeroValue 9).run Tryz.prog w= .ok (.string ⟨#[]⟩) w:=by kernel_rfl
theorem y0l {x:Int} (h0:0≤x) (h9:x≤1000000000000):keyOf Tryz.prog 3 (.int .i64 x)=some (.int .i64 x):=by
 refine Maps.keyOf_int_mk Tryz.underlying3 ?_;have h1:IntKind.i64.min= -9223372036854775808:=by kernel_rfl
 have h2:IntKind.i64.max=9223372036854775807:=by kernel_rfl
 simp only[Lit.wf,h1,h2];simp;omega
abbrev Pgs (w:World) (m n:Nat) (D:DataW Unit):Prop:=w.ownsMap Tryz.prog 3 pgE m n D
def z6N (D:DataW Unit) (k:Int):Option (List UInt8):=match D.atKey (.int .i64 k) .nil with| .lit (.string l)=>some l|_=>none
theorem z4d {w:World} {m n:Nat} {D:DataW Unit} (h:Pgs w m n D) {k:Int} (h0:0≤k) (h9:k≤1000000000000):
  (z6N D k=none∧(Instr.lookup 295 (.map (some m)) (.int .i64 k) true).run Tryz.prog w= .ok (.tuple #[.string ⟨#[]⟩,.bool false]) w)∨
  ∃l,z6N D k=some l∧l.length=60∧(Instr.lookup 295 (.map (some m)) (.int .i64 k) true).run Tryz.prog w= .ok (.tuple #[.string ⟨l.toArray⟩,.bool true]) w:=by
 obtain ⟨es,clock,hb,F,_,rfl⟩:=h;rcases Maps.fit_look true y1t Tryz.underlying295 (y1W w) hb F (y0l h0 h9) with ⟨hrun,_,hat⟩|⟨e0,y,_,_,hrun,hRv,hat,_⟩
 ·exact .inl ⟨by unfold z6N;rw[hat],hrun⟩
 ·obtain ⟨l,h1,h2,rfl⟩:=z9O hRv
  refine .inr ⟨l,by unfold z6N;rw[hat],h1,?_⟩;rw[←h2];exact hrun
def z8n (D:DataW Unit) (z:Int):Bool:=
 match z6N D (z/8/60) with
 |none=>true
 |some l=>!(bits .and .u8 ((l.getD (z/8 % 60).toNat 0).toNat:Int) (IntKind.u8.wrap (2^(z % 8).toNat))==0)
def z6P (s:Nat) (D:DataW Unit) (h:Int) (i:Nat):Bool:=z8n D (q5t h i (8*s:Nat))
def z5x (p s:Nat) (D:DataW Unit) (h:Int):Bool:=(List.range p).all (z6P s D h)
def FilK (w:World) (p s:Nat) (mv:Value) (D:DataW Unit):Prop:=
 (∃mo,mv= .map mo)∧((p=0∧mv= .map none)∨(p≤16∧1≤s∧s≤120000∧s % 60=0∧ ∃m n,mv= .map (some m)∧Pgs w m n D))
theorem FilK.ext {w w':World} {p s:Nat} {mv:Value} {D:DataW Unit} (h:FilK w p s mv D) (k:Ext w w'):FilK w' p s mv D:=by
 obtain ⟨h0,h1|⟨h1,h2,h3,h4,m,n,h5,h6⟩⟩:=h
 ·exact ⟨h0,.inl h1⟩
 ·refine ⟨h0,.inr ⟨h1,h2,h3,h4,m,n,h5,q2C h6 (k.block m ?_)⟩⟩
  exact h6.lt
theorem z4r (l:List UInt8) (j:Nat) (hj:j<l.length): ∀W,(Instr.index 9 (.string ⟨l.toArray⟩) (.int .i64 (j:Int))).run Tryz.prog W= .ok (.int .u8 ((l.getD j 0).toNat:Int)) W:=fun W=>by
 have hs:(⟨l.toArray⟩:ByteArray).size=l.length:=rfl;rw[run_index_string W 9 ⟨l.toArray⟩ .i64 (j:Int) Tryz.underlying9,dif_pos (by rw[hs];omega)]
 congr 3
 simp[List.getD,hj]
 rfl
theorem z7I {f:Nat→Bool} {k:Nat} (h:(List.range k).all f=true):(List.range (k+1)).all f=f k:=by
 rw[List.range_succ,List.all_append,h];simp
theorem z5K {f:Nat→Bool} {k p:Nat} (hk:k<p) (h:f k=false):(List.range p).all f=false:=by
 rw[List.all_eq_false];exact ⟨k,List.mem_range.2 hk,by rw[h];decide⟩
theorem z8T {p s:Nat} {mv:Value} {D:DataW Unit} (h:Int) (w:World) (hf:FilK w p s mv D):Calls Tryz.prog 213 #[.agg #[.int .i64 (p:Int),.int .i64 (s:Int),mv],.int .u64 h] w fun r w'=>r= .returned (.bool (z5x p s D h))∧Ext w w':=by
 have HF0:=η20 hf;obtain ⟨⟨mo,rfl⟩,hf⟩:=hf;have HF:=η20 hf;clear hf;have hbk:=Blk.new w 297 #[.int .i64 (p:Int),.int .i64 (s:Int),.map mo];have HX0:=η20 (q0B w (.cells #[.int .i64 (p:Int),.int .i64 (s:Int),.map mo] 297));have HBx:Hid (∀W,Ext (w.alloc (.cells #[.int .i64 (p:Int),.int .i64 (s:Int),.map mo] 297)) W→W.cell? ⟨w.heap.size,1,none⟩=some (.int .i64 (s:Int))∧W.cell? ⟨w.heap.size,2,none⟩=some (.map mo)):=η20 fun W k=>⟨q0A k (hbk.cell 1),q0A k (hbk.cell 2)⟩
 clear hbk;go_enter Tryz.func213,Tryz.ntmps213;go_wp2_with fail;generalize w.alloc (.cells #[.int .i64 (p:Int),.int .i64 (s:Int),.map mo] 297)=w1 at*;generalize w.heap.size=q at*
 go_loopw [11] (fun i W=> ∃k:Nat,k≤p∧i= .int .i64 (k:Int)∧(List.range k).all (z6P s D h)=true∧Ext w1 W) (fun i _=>p-(intOf i).toNat)
 case atStart=>exact ⟨0,Nat.zero_le _,rfl,rfl,Ext.refl _⟩
 case round=>
  obtain ⟨k,hk,rfl,hall,hb⟩:=hrel;have HBk:=η20 hb;have HAll:=η20 hall;by_cases hlt:k<p
  ·have hd:decide ((k:Int)<(p:Int))=true:=by simp;omega
   obtain ⟨c1,c2⟩:=HBx.out _ hb;obtain ⟨p16,s1,s9,s60,m,n,e,hpg⟩:p≤16∧1≤s∧s≤120000∧s % 60=0∧ ∃m n,Value.map mo= .map (some m)∧Pgs w m n D:=by
    rcases HF.out with ⟨h0,_⟩|h0
    ·omega
    ·exact h0
   cases e;have hpg':Pgs wr m n D:=q2C hpg ((HX0.out.trans hb).block m hpg.lt);have e1:IntKind.i64.wrap (8*(s:Int))=((8*s:Nat):Int):=by rw[IntKind.wrap_i64];omega
   have hpr:=z0G h k ((8*s:Nat):Int) (by omega);have HP:=η20 (fun W=>z8u W h k (8*s) (by omega) (by omega) (by omega));have HThr:Hid (z6P s D h k=z8n D (q5t h k ((8*s:Nat):Int))):=η20 rfl;have HStep:=η20 (z7I (f:=z6P s D h) hall);obtain ⟨z,hz⟩: ∃z,q5t h k ((8*s:Nat):Int)=z:=⟨_,rfl⟩
   rw[hz] at hpr HP HThr;obtain ⟨B,hB⟩: ∃B:Int,((8*s:Nat):Int)=B:=⟨_,rfl⟩
   rw[hB] at e1 HP;have z9:z<960001:=by omega
   have z0:=hpr.1;have e2:Int.tdiv z 8=z/8:=Int.tdiv_eq_ediv_of_nonneg z0;have e3:IntKind.i64.wrap (z/8)=z/8:=by rw[IntKind.wrap_i64];omega
   have e4:Int.tdiv (z/8) 60=z/8/60:=Int.tdiv_eq_ediv_of_nonneg (by omega);have e5:IntKind.i64.wrap (z/8/60)=z/8/60:=by rw[IntKind.wrap_i64];omega
   have hlk:=z4d hpg' (k:=z/8/60) (by omega) (by omega);obtain ⟨pg,hpgz⟩: ∃pg,z/8/60=pg:=⟨_,rfl⟩
   unfold z8n at HThr;rw[hpgz] at hlk e4 e5 HThr;clear hb hall hpg hpg' hpr hz hB;rcases hlk with ⟨hn,hrun⟩|⟨l,hn,hl60,hrun⟩
   ·rw[hn] at HThr
    clear hn hpgz;go_wp2_with fail;refine (HP.out _).mono ?_;rintro e w2 ⟨rfl,rfl⟩;go_wp2_with fail;refine q0E (by kernel_rfl) (by kernel_rfl) ?_
    repeat (go_big_quiet_step (fail))
    refine wpQuiet_nil ?_;intro w5 hw5;have HB5:=η20 (HBk.out.trans hw5);clear hw5;go_wp2_with fail
    go_roundw
    case rel=>exact ⟨k+1,hlt,by go_num,by rw[HStep.out];exact HThr.out,HB5.out⟩
    case measure=>simp[intOf];omega
   ·rw [hn] at HThr
    have e6:Int.tmod (z/8) 60=z/8 % 60:=Int.tmod_eq_emod_of_nonneg (by omega);obtain ⟨j,hj⟩: ∃j:Nat,z/8 % 60=(j:Int):=⟨(z/8 % 60).toNat,by omega⟩
    have hj60:j<60:=by omega
    have hjl:j<l.length:=by omega
    rw[hj] at e6 HThr;have e7:IntKind.i64.wrap (j:Int)=(j:Int):=by rw[IntKind.wrap_i64];omega
    have e8:Int.tmod z 8=z % 8:=Int.tmod_eq_emod_of_nonneg z0;obtain ⟨r,hr⟩: ∃r,z % 8=r:=⟨_,rfl⟩
    have r0:0≤r:=by omega
    have r8:r<8:=by omega
    rw[hr] at e8 HThr;have e9:IntKind.i64.wrap r=r:=by rw[IntKind.wrap_i64];omega
    have hix:=z4r l j hjl;have HJ:Hid ((j:Int).toNat=j):=η20 (by omega);rw[HJ.out] at HThr;obtain ⟨cv,hcv⟩: ∃cv:Int,((l.getD j 0).toNat:Int)=cv:=⟨_,rfl⟩
    rw[hcv] at hix;have HThr2:Hid (z6P s D h k=!(bits .and .u8 cv (IntKind.u8.wrap (2^r.toNat))==0)):=η20 (by rw[HThr.out];simp only;rw[hcv]);clear HThr;clear hn hpgz hr hcv;go_wp2_with fail;refine (HP.out _).mono ?_;rintro e w2 ⟨rfl,rfl⟩;go_wp2_with fail;refine wp_region_still_lit (by kernel_rfl) (by kernel_rfl) ?_
    repeat still_step
    refine wpStill_nil ?_;have HB5:=η20 (HBk.out.drew);clear hj e6 e7 e8 e9 hix;obtain ⟨tb,htb⟩: ∃tb,(bits .and .u8 cv (IntKind.u8.wrap (2^r.toNat))==0)=tb:=⟨_,rfl⟩
    rw[htb] at HThr2
    cases tb with
    | true=>
     have HMf:Hid (z5x p s D h=false):=η20 (z5K hlt HThr2.out);go_wp2_with fail;go_ret;exact ⟨rb HMf.out,HX0.out.trans HB5.out⟩
    | false=>
     go_wp2_with fail
     go_roundw
     case rel=>exact ⟨k+1,hlt,by go_num,by rw[HStep.out];exact HThr2.out,HB5.out⟩
     case measure=>simp[intOf];omega
  ·have hd:decide ((k:Int)<(p:Int))=false:=by simp;omega
   have hkp:k=p:=by omega
   subst hkp;clear hb hall;go_wp2_with fail;go_ret;exact ⟨rb HAll.out,HX0.out.trans HBk.out⟩
end
section
open Go.RowKit
theorem q0z {fn:Func} {p:Tmp} {ty:TypeId} (h:fn.results=#[.cell p ty]) (tmps:Array Value) (P:Program) (w:World):
  (results fn tmps).run P w=((asAddr (tmps.getD p undef)).run P w).andThen fun a w₁=>(loadVar ty a).run P w₁:=by
 simp only[results,h];simp[Sem.run_bind,Result.andThen]
def y1P (B:Nat) (mv:Value):Prop:= ∀m,mv= .map (some m)→B≤m
def y0V (w:World) (s:List UInt8) (e:Ending) (w':World):Prop:=
 ∃(p z:Nat) (mv:Value) (D:DataW Unit),e= .returned (.agg #[.int .i64 (p:Int),.int .i64 (z:Int),mv])∧FilK w' p z mv D∧y1P w.heap.size mv∧(s.length<64→p=0∧mv= .map none)∧Ext w w'
theorem z6J (s : List UInt8) (w:World) (hl:s.length≤1048576):Calls Tryz.prog 227 #[.string ⟨s.toArray⟩] w (y0V w s):=by
 have hb0:=Blk.new w 297 #[.int .i64 0,.int .i64 0,.map none];have HX0:=η20 (q0B w (.cells #[.int .i64 0,.int .i64 0,.map none] 297));by_cases h64:s.length<64
 ·have hd:decide ((s.length:Int)<64)=true:=by simp;omega
  go_enter Tryz.func227,Tryz.ntmps227;go_wp2_with fail
  (try simp only[Exit.inBlock,Exit.then])
  refine bodyPost_ret (v:= .agg #[.int .i64 0,.int .i64 0,.map none]) (by rw[q0z rfl];go_simp) rfl ?_;exact ⟨0,0,.map none,.map [],rfl,⟨⟨none,rfl⟩,.inl ⟨rfl,rfl⟩⟩,(fun m h=>by cases h),fun _=>⟨rfl,rfl⟩,HX0.out⟩
 ·have hd : decide ((s.length:Int)<64)=false:=by simp;omega
  have s1:=q4a s 64 64 rfl (by omega);obtain ⟨F,hF⟩: ∃F,s.take 64=F:=⟨_,rfl⟩
  have lF:F.length=64:=by rw[←hF,List.length_take];omega
  rw[hF] at s1;have s2:=q2X F 4 8 4 8 rfl rfl (by omega) (by omega) (X:=(F.take 8).drop 4) rfl;obtain ⟨X,hX⟩: ∃X,(F.take 8).drop 4=X:=⟨_,rfl⟩
  have lX:X.length=4:=by rw[←hX];simp;omega
  rw[hX] at s2;have hix: ∀W,(Instr.index 9 (.string ⟨F.toArray⟩) (.int .i64 3)).run Tryz.prog W= .ok (.int .u8 ((F.getD 3 0).toNat:Int)) W:=z4r F 3 (by omega);obtain ⟨p,hp⟩: ∃p:Nat,(F.getD 3 0).toNat=p:=⟨_,rfl⟩
  have hp9:p≤255:=by rw[←hp];have:=(F.getD 3 0).toNat_lt;omega
  rw[hp] at hix;have e1:IntKind.i64.wrap (p:Int)=(p:Int):=by rw[IntKind.wrap_i64];omega
  have HG:=η20 (fun W=>q8S X W (by omega));have bX:=q1p (X.take 8);rw[List.take_of_length_le (by omega)] at HG bX;rw[lX] at bX;obtain ⟨z,hz⟩: ∃z:Nat,q1F X=z:=⟨_,rfl⟩
  rw[hz] at HG bX;have bz:z<4294967296:=bX;have e2:IntKind.i64.wrap (z:Int)=(z:Int):=by rw[IntKind.wrap_i64];omega
  have LX:X.length≤9223372036854775807:=by omega
  have HM:=η20 (fun W=>y1e (z:Int) (p:Int) W (by omega) (by omega));have HH:=η20 (fun W=>y0k z p W (by omega) hp9);have HLF:=η20 lF;clear hF hX hz hp bX lF lX;go_enter Tryz.func227,Tryz.ntmps227;go_wp2_with fail;refine q0E (by kernel_rfl) (by kernel_rfl) ?_
  repeat (go_big_quiet_step (fail))
  go_big_quiet_step (exact Calls.quiet_ext (HG.out _))
  repeat (go_big_quiet_step (fail))
  refine wpQuiet_nil ?_;intro w2 hw2;have HX2:=η20 (HX0.out.trans hw2);have bq2:=hb0.ext hw2;clear hw2 HG hb0 hix s1 s2
  cases hm:z1r (z:Int) (p:Int) with
  | false=>
   rw[hm] at HM;go_wp2_with fail;refine (HM.out _).mono ?_;rintro e w3 ⟨rfl,rfl⟩;have r0:w2.cell? ⟨w.heap.size,0,none⟩=some (Value.int .i64 0):=bq2.cell 0;have r1:w2.cell? ⟨w.heap.size,1,none⟩=some (Value.int .i64 0):=bq2.cell 1;have r2:w2.cell? ⟨w.heap.size,2,none⟩=some (Value.map none):=bq2.cell 2;have y0:=bq2.free 0;have y1:=bq2.free 1;have y2:=bq2.free 2;go_wp2_with fail
   (try simp only[Exit.inBlock,Exit.then])
   refine bodyPost_ret (v:= .agg #[.int .i64 0,.int .i64 0,.map none]) (by rw[q0z rfl];go_simp) rfl ?_;refine ⟨0,0,.map none,.map [],rfl,⟨⟨none,rfl⟩,.inl ⟨rfl,rfl⟩⟩,(fun m h=>by cases h),fun _=>⟨rfl,rfl⟩,?_⟩
   repeat (first|refine Below.setCell ?_ (by first|exact Nat.le_refl _|(simp;done)|(simp;omega)) _|refine Ext.alloc ?_ _|refine Ext.drew ?_)
   exact HX2.out
  | true =>
   rw[hm] at HM;have hmz:0<z∧z≤120000∧z % 60=0∧1≤p∧p≤16:=by unfold z1r at hm;simp at hm;omega
   go_wp2_with fail;refine (HM.out _).mono ?_;rintro e w3 ⟨rfl,rfl⟩;go_wp2_with fail;refine (HH.out _).mono ?_;rintro e w3 ⟨rfl,hb3⟩;have HX3:=η20 (HX2.out.trans hb3);have bq3:=bq2.ext hb3;clear hb3 HM HH bq2 hm e1 e2 LX HLF;obtain ⟨HD,hHD⟩: ∃HD,z7R z p=HD:=⟨_,rfl⟩
   rw[hHD];by_cases heq:F=HD
   ·subst heq
    have hdf:(F==F)=true:=by simp
    have hmm:=@run_makeMap Tryz.prog;obtain ⟨g,hg⟩: ∃g,z=60*g:=⟨z/60,by omega⟩
    have e3:Int.tdiv (z:Int) 60=(g:Int):=by rw[Int.tdiv_eq_ediv_of_nonneg (by omega)];omega
    have e4:IntKind.i64.wrap (g:Int)=(g:Int):=by rw[IntKind.wrap_i64];omega
    have g9:g≤2000:=by omega
    have HZ:=η20 hg;have HMZ:=η20 hmz;clear hg hmz hHD hp9 bz;go_wp2_with fail;have hq3:=bq3.lt;have hm0:=((World.ownsMap_made (H:=Unit) w3 Tryz.prog 3 pgE).alloc (.cells #[.int .i64 (p:Int),.int .i64 (z:Int),.map (some w3.heap.size)] 297))
    have hbb:=Blk.new (w3.alloc (.map #[] 0)) 297 #[.int .i64 (p:Int),.int .i64 (z:Int),.map (some w3.heap.size)];rw[World.size_alloc] at hbb;have bq4:=bq3.ext (q2I w3 (.map #[] 0) (.cells #[.int .i64 (p:Int),.int .i64 (z:Int),.map (some w3.heap.size)] 297));have hx4:=HX3.out.trans (q2I w3 (.map #[] 0) (.cells #[.int .i64 (p:Int),.int .i64 (z:Int),.map (some w3.heap.size)] 297));obtain ⟨m,hm⟩: ∃m,w3.heap.size=m:=⟨_,rfl⟩
    have hm3:w.heap.size<m:=by rw[←hm];exact hq3
    generalize hW4:(w3.alloc (.map #[] 0)).alloc (.cells #[.int .i64 (p:Int),.int .i64 (z:Int),.map (some w3.heap.size)] 297)=w4 at*;rw[hm] at hm0 hbb;rw[hm];clear hm hq3;have HM0:=η20 hm0;have HB0:=η20 hbb;have HQ0:=η20 bq4;have HX4:=η20 hx4;clear hm0 hbb bq4 hx4 HX3 HX2 hmm hdf;have FIN:Hid (∀(V W:World) (D:DataW Unit) (n:Nat),Pgs V m n D→Ext w V→OffS (fun i=>i=w.heap.size) V W→y0V w s (.returned (.agg #[.int .i64 (p:Int),.int .i64 (z:Int),.map (some m)])) W):=η20 fun V W D n h1 h2 h3=>by
     obtain ⟨a1,a2,a3,a4,a5⟩:=HMZ.out;exact ⟨p,z,_,D,rfl,⟨⟨_,rfl⟩,.inr ⟨a5,a1,a2,a3,m,n,rfl,q2C h1 (h3.block m h1.lt (by omega))⟩⟩,(fun m' h=>by cases h;exact Nat.le_of_lt hm3),(fun h=>absurd h h64),h3.ext h2 fun i hi=>by rw[hi];exact Nat.le_refl _⟩
    go_loopw [42] (fun i W=> ∃k n:Nat,∃D,k≤g∧n≤k∧i= .int .i64 (k:Int)∧Pgs W m n D∧Blk W (m+1) 297 #[.int .i64 (p:Int),.int .i64 (z:Int),.map (some m)]∧Blk W w.heap.size 297 #[.int .i64 0,.int .i64 0,.map none]∧Ext w W) (fun i _=>g-(intOf i).toNat)
    case atStart=>exact ⟨0,0,_,Nat.zero_le _,Nat.le_refl _,rfl,HM0.out,HB0.out,HQ0.out,HX4.out⟩
    case round=>
     obtain ⟨k,n,D,hk,hn,rfl,hpg,hbk,hqk,hb⟩:=hrel;have HBk:=η20 hb;by_cases hlt:k<g
     ·have hd1:decide ((k:Int)<(g:Int))=true:=by simp;omega
      have e5:IntKind.i64.wrap ((k:Int)+1)=(k:Int)+1:=by rw[IntKind.wrap_i64];omega
      obtain ⟨A,hA⟩: ∃A:Int,((k:Int)+1)*64=A:=⟨_,rfl⟩
      obtain ⟨a,ha⟩: ∃a:Nat,(k+1)*64=a:=⟨_,rfl⟩
      have hAa:A=(a:Int):=by omega
      have e6:IntKind.i64.wrap (((k:Int)+1)*64)=A:=by rw[IntKind.wrap_i64];omega
      have e7:IntKind.i64.wrap (A+64)=A+64:=by rw[IntKind.wrap_i64];omega
      by_cases hle:(s.length:Int)<A+64
      ·have hd2:decide ((s.length:Int)<A+64)=true:=decide_eq_true hle
       clear hA ha hAa hle;have r0:wr.cell? ⟨w.heap.size,0,none⟩=some (Value.int .i64 0):=hqk.cell 0;have r1:wr.cell? ⟨w.heap.size,1,none⟩=some (Value.int .i64 0):=hqk.cell 1;have r2:wr.cell? ⟨w.heap.size,2,none⟩=some (Value.map none):=hqk.cell 2;have y0:=hqk.free 0;have y1:=hqk.free 1;have y2:=hqk.free 2;have b0:wr.cell? ⟨m+1,0,none⟩=some (Value.int .i64 (p:Int)):=hbk.cell 0;have b1:wr.cell? ⟨m+1,1,none⟩=some (Value.int .i64 (z:Int)):=hbk.cell 1;have b2:wr.cell? ⟨m+1,2,none⟩=some (Value.map (some m)):=hbk.cell 2;have HPg:=η20 hpg;clear hpg hb hbk hqk;go_wp2_with fail
       (try simp only[Exit.inBlock,Exit.then])
       refine bodyPost_ret (v:= .agg #[.int .i64 (p:Int),.int .i64 (z:Int),.map (some m)]) (by rw[q0z rfl];go_simp) rfl ?_;refine FIN.out _ _ _ _ HPg.out HBk.out ?_;refine OffS.trans (OffS.trans (OffS.set _ ?_ _ _) (OffS.set _ ?_ _ _)) (OffS.set _ ?_ _ _)<;>rfl
      ·have hd2:decide ((s.length:Int)<A+64)=false:=decide_eq_false hle
       have hsl:=q2X s A (A+64) a (a+64) hAa (by rw[hAa];push_cast;rfl) (by omega) (by omega) (X:=(s.drop a).take 64) (by rw[List.drop_take];congr 1;omega);obtain ⟨Y,hY⟩: ∃Y,(s.drop a).take 64=Y:=⟨_,rfl⟩
       have lY:Y.length=64:=by rw[←hY,List.length_take,List.length_drop];omega
       rw[hY] at hsl;have HO:=η20 (fun W=>z2L Y W (by omega));have hT:q1q Y=true→(q1j Y).length=60:=fun h=>by unfold q1j;rw[if_pos h,List.length_take];omega
       generalize q1j Y=YT at*;have HPg:=η20 hpg;have HBb:=η20 hbk;have HQq:=η20 hqk;clear hA ha hY hpg hb hbk hqk lY hAa hle;go_wp2_with fail;refine (HO.out _).mono ?_;rintro e w5 ⟨rfl,hb5⟩;have HB5:=η20 (HBk.out.trans hb5);have HPg5:Hid (Pgs w5 m n D):=η20 (q2C HPg.out (hb5.block m HPg.out.lt));have hbk5:=HBb.out.ext hb5;have HBb5:=η20 hbk5;have HQ5:=η20 (HQq.out.ext hb5);have b2:w5.cell? ⟨m+1,2,none⟩=some (Value.map (some m)):=hbk5.cell 2;clear hb5 HO hbk5 HPg HBb HQq HBk hsl
       cases hob:q1q Y with
       | false=>
        go_wp2_with fail
        go_roundw
        case rel=>exact ⟨k+1,n,D,hlt,by omega,by go_num,HPg5.out,HBb5.out,HQ5.out,HB5.out⟩
        case measure=>simp[intOf];omega
       | true=>
        have HKey:=η20 (y0l (x:=(k:Int)) (by omega) (by omega));have HYT:=η20 (y0r (hT hob));clear hT
        go_wp2_with (at_mapUpdate;refine wpList_mapUpdate_in _ rfl _ _ _ 295 rfl 3 9 y1t Tryz.underlying295 pgE m n D rfl HPg5.out (by unfold maxLen;omega) _ _ (.int .i64 (k:Int)) rfl rfl HKey.out (.lit (.string YT)) [] HYT.out ?_;intro w6 hown6 hturn6)
        have hof:OffS (fun i=>i=m) w5 w6:=OffS.turned hturn6 rfl;have HB6:Hid (Ext w w6):=η20 (hof.ext HB5.out fun i hi=>by rw[hi];exact Nat.le_of_lt hm3);have HBb6:=η20 (hof.blk HBb5.out (by omega));have HQ6:=η20 (hof.blk HQ5.out (by omega));have HPg6:Hid (Pgs w6 m (n+1) _):=η20 hown6;clear hof hown6 hturn6 b2;go_wp2_with fail
        go_roundw
        case rel=>exact ⟨k+1,n+1,_,hlt,by omega,by go_num,HPg6.out,HBb6.out,HQ6.out,HB6.out⟩
        case measure=>simp[intOf];omega
     ·have hd1:decide ((k:Int)<(g:Int))=false:=by simp;omega
      have r0:wr.cell? ⟨w.heap.size,0,none⟩=some (Value.int .i64 0):=hqk.cell 0;have r1:wr.cell? ⟨w.heap.size,1,none⟩=some (Value.int .i64 0):=hqk.cell 1;have r2:wr.cell? ⟨w.heap.size,2,none⟩=some (Value.map none):=hqk.cell 2;have y0:=hqk.free 0;have y1:=hqk.free 1;have y2:=hqk.free 2;have b0:wr.cell? ⟨m+1,0,none⟩=some (Value.int .i64 (p:Int)):=hbk.cell 0;have b1:wr.cell? ⟨m+1,1,none⟩=some (Value.int .i64 (z:Int)):=hbk.cell 1;have b2:wr.cell? ⟨m+1,2,none⟩=some (Value.map (some m)):=hbk.cell 2;have HPg:=η20 hpg;clear hpg hb hbk hqk;go_wp2_with fail
      (try simp only[Exit.inBlock,Exit.then])
      refine bodyPost_ret (v:= .agg #[.int .i64 (p:Int),.int .i64 (z:Int),.map (some m)]) (by rw[q0z rfl];go_simp) rfl ?_;refine FIN.out _ _ _ _ HPg.out HBk.out ?_;refine OffS.trans (OffS.trans (OffS.set _ ?_ _ _) (OffS.set _ ?_ _ _)) (OffS.set _ ?_ _ _)<;>rfl
   ·have hdf:(F==HD)=false:=by simpa using heq
    have r0:w3.cell? ⟨w.heap.size,0,none⟩=some (Value.int .i64 0):=bq3.cell 0;have r1:w3.cell? ⟨w.heap.size,1,none⟩=some (Value.int .i64 0):=bq3.cell 1;have r2:w3.cell? ⟨w.heap.size,2,none⟩=some (Value.map none):=bq3.cell 2;have y0:=bq3.free 0;have y1:=bq3.free 1;have y2:=bq3.free 2;go_wp2_with fail
    (try simp only[Exit.inBlock,Exit.then])
    refine bodyPost_ret (v:= .agg #[.int .i64 0,.int .i64 0,.map none]) (by rw[q0z rfl];go_simp) rfl ?_;refine ⟨0,0,.map none,.map [],rfl,⟨⟨none,rfl⟩,.inl ⟨rfl,rfl⟩⟩,(fun m h=>by cases h),fun _=>⟨rfl,rfl⟩,?_⟩
    repeat (first|refine Below.setCell ?_ (by first|exact Nat.le_refl _|(simp;done)|(simp;omega)) _|refine Ext.alloc ?_ _|refine Ext.drew ?_)
    exact HX3.out
end
section
open Go.RowKit
def y1J (w:World) (mv:Value) (L:List En) (e:Ending) (w':World):Prop:=
 ∃(p z:Nat) (mv':Value) (D:DataW Unit),e= .returned (.agg #[.int .i64 (p:Int),.int .i64 (z:Int),mv'])∧FilK w' p z mv' D∧(∀B,y1P B mv→y1P B mv')∧(∀x∈L,z5x p z D x.1=true)∧Ext w w'
theorem z9S {p s:Nat} {mv:Value} {D:DataW Unit} {ao:Option Addr} {n cap:Nat} {L:List En} (w:World) (hf:FilK w p s mv D) (hx:Ens w ao n cap L):
  Calls Tryz.prog 226 #[.agg #[.int .i64 (p:Int),.int .i64 (s:Int),mv],.slice ao n cap] w (y1J w mv L):=by
 have HF:=η20 hf;have Hx:=η20 hx;have b1:=hx.fits;have b2:=hx.bound;have HLen:=η20 hx.len;obtain ⟨⟨mo,rfl⟩,_⟩:=hf;have hA:=Blk.new w 297 #[.int .i64 (p:Int),.int .i64 (s:Int),.map mo];have hB:=Blk.new (w.alloc (.cells #[.int .i64 (p:Int),.int .i64 (s:Int),.map mo] 297)) 297 #[.int .i64 0,.int .i64 0,.map none];rw[World.size_alloc] at hB;have HX0:=η20 (q2I w (.cells #[.int .i64 (p:Int),.int .i64 (s:Int),.map mo] 297) (.cells #[.int .i64 0,.int .i64 0,.map none] 297));have hA2:=hA.ext (q0B _ (.cells #[.int .i64 0,.int .i64 0,.map none] 297));have HLoad:=η20 (fun W=>z6J [] W (by decide));clear hx;go_enter Tryz.func226,Tryz.ntmps226;go_wp2_with fail;generalize (w.alloc (.cells #[.int .i64 (p:Int),.int .i64 (s:Int),.map mo] 297)).alloc (.cells #[.int .i64 0,.int .i64 0,.map none] 297)=w1 at*;have HA:=η20 hA2;have HB:=η20 hB;clear hA hA2 hB;obtain ⟨q,hq⟩: ∃q,w.heap.size=q:=⟨_,rfl⟩
 rw[hq] at HA HB;have HQ:Hid (w.heap.size=q):=η20 hq;rw[hq];clear hq
 go_loopw [9] (fun i W=> ∃k:Nat,k≤n∧i= .int .i64 (k:Int)∧(∀x∈L.take k,z5x p s D x.1=true)∧Ext w1 W) (fun i _=>n-(intOf i).toNat)
 case atStart=>exact ⟨0,Nat.zero_le _,rfl,(fun x hx=>by cases hx),Ext.refl _⟩
 case round=>
  obtain ⟨k,hk,rfl,hall,hb⟩:=hrel;have HBk:=η20 hb;have HAll:=η20 hall;have hA:=HA.out.ext hb;have hB:=HB.out.ext hb;have a0:wr.cell? ⟨q,0,none⟩=some (Value.int .i64 (p:Int)):=hA.cell 0;have a1:wr.cell? ⟨q,1,none⟩=some (Value.int .i64 (s:Int)):=hA.cell 1;have a2:wr.cell? ⟨q,2,none⟩=some (Value.map mo):=hA.cell 2;by_cases hlt:k<n
  ·have hd:decide ((k:Int)<(n:Int))=true:=by simp;omega
   obtain ⟨b,off,rfl,c0,c1,c2⟩:=(Hx.out.ext (HX0.out.trans hb)).at hlt;have hL:L.take (k+1)=L.take k++[L.getD k en0]:=by
    rw[List.take_succ_eq_append_getElem (by rw[HLen.out];exact hlt)];simp[List.getD,List.getElem?_eq_getElem (show k<L.length by rw[HLen.out];exact hlt)]
   have hmem:L.getD k en0∈L:=by
    simp[List.getD,List.getElem?_eq_getElem (show k<L.length by rw[HLen.out];exact hlt)]
   have HLk:=η20 hL;generalize L.getD k en0=z at*;obtain ⟨z1,z2,z3⟩:=z;have HFk:=η20 (HF.out.ext (HX0.out.trans hb));have HBr:=η20 hB;have hA':=hA.ext (q0B wr (.cells #[.int .u64 z1,.int .i64 z2,.int .i64 z3] 106));have x0:(wr.alloc (.cells #[.int .u64 z1,.int .i64 z2,.int .i64 z3] 106)).cell? ⟨q,0,none⟩=some (Value.int .i64 (p:Int)):=hA'.cell 0;have x1:(wr.alloc (.cells #[.int .u64 z1,.int .i64 z2,.int .i64 z3] 106)).cell? ⟨q,1,none⟩=some (Value.int .i64 (s:Int)):=hA'.cell 1;have x2:(wr.alloc (.cells #[.int .u64 z1,.int .i64 z2,.int .i64 z3] 106)).cell? ⟨q,2,none⟩=some (Value.map mo):=hA'.cell 2;clear hA hA' hB hb hall hL hmem;go_wp2_with fail;have hm:=z8T (p:=p) (s:=s) (mv:= .map mo) (D:=D) z1 (wr.alloc (.cells #[.int .u64 z1,.int .i64 z2,.int .i64 z3] 106)) (HFk.out.ext (q0B _ _));refine hm.mono ?_;rintro e w5 ⟨rfl,hb5⟩;have HB5:=η20 ((q0B wr (.cells #[.int .u64 z1,.int .i64 z2,.int .i64 z3] 106)).trans hb5)
   clear hm hb5 a0 a1 a2 c0 c1 c2 x0 x1 x2
   cases hmz:z5x p s D z1 with
   | true=>
    have HMz:=η20 hmz;clear hmz;go_wp2_with fail
    go_roundw
    case rel=>exact ⟨k+1,hlt,by go_num,(fun x hx=>by rw[HLk.out] at hx;rcases List.mem_append.1 hx with h|h;exact HAll.out x h;rw[List.mem_singleton] at h;rw[h];exact HMz.out),HBk.out.trans HB5.out⟩
    case measure=>simp[intOf];omega
   | false=>
    clear hmz;go_wp2_with fail;refine (HLoad.out _).mono ?_;rintro e w6 ⟨p',z',mv',D',rfl,hf',hm',hp',hb6⟩;obtain ⟨hp0,hmv⟩:=hp' (by decide);subst hp0;subst hmv;have HF':=η20 hf';have hB6:=HBr.out.ext (HB5.out.trans hb6);have r0:w6.cell? ⟨q+1,0,none⟩=some (Value.int .i64 0):=hB6.cell 0;have r1:w6.cell? ⟨q+1,1,none⟩=some (Value.int .i64 0):=hB6.cell 1;have r2:w6.cell? ⟨q+1,2,none⟩=some (Value.map none):=hB6.cell 2;have y0:=hB6.free 0;have y1:=hB6.free 1;have y2:=hB6.free 2;have HX6:=η20 (HX0.out.trans (HBk.out.trans (HB5.out.trans hb6)));clear hf' hb6 hB6 hm' hp';go_wp2_with fail
    (try simp only[Exit.inBlock,Exit.then])
    refine bodyPost_ret (v:= .agg #[.int .i64 0,.int .i64 (z':Int),.map none]) (by rw[q0z rfl];go_simp) rfl ?_;have hof:OffS (fun i=>i=q+1) w6 (((w6.setCell ⟨q+1,0,none⟩ (.int .i64 0)).setCell ⟨q+1,1,none⟩ (.int .i64 (z':Int))).setCell ⟨q+1,2,none⟩ (.map none)):=by
     refine OffS.trans (OffS.trans (OffS.set _ ?_ _ _) (OffS.set _ ?_ _ _)) (OffS.set _ ?_ _ _)<;>rfl
    have hX:=hof.ext HX6.out (fun i hi=>by rw[hi,HQ.out];omega);exact ⟨0,z',.map none,D',rfl,⟨⟨none,rfl⟩,.inl ⟨rfl,rfl⟩⟩,(fun B h m hm=>by cases hm),(fun x _=>rfl),hX⟩
  ·have hd:decide ((k:Int)<(n:Int))=false:=by simp;omega
   have hkn:L.take k=L:=by rw[List.take_of_length_le];rw[HLen.out];omega
   rw[hkn] at HAll;have r0:wr.cell? ⟨q+1,0,none⟩=some (Value.int .i64 0):=hB.cell 0;have r1:wr.cell? ⟨q+1,1,none⟩=some (Value.int .i64 0):=hB.cell 1;have r2:wr.cell? ⟨q+1,2,none⟩=some (Value.map none):=hB.cell 2;have y0:=hB.free 0;have y1:=hB.free 1;have y2:=hB.free 2;clear hA hB hb hall hkn;go_wp2_with fail
   (try simp only[Exit.inBlock,Exit.then])
   refine bodyPost_ret (v:= .agg #[.int .i64 (p:Int),.int .i64 (s:Int),.map mo]) (by rw[q0z rfl];go_simp) rfl ?_;have hof:OffS (fun i=>i=q+1) wr (((wr.setCell ⟨q+1,0,none⟩ (.int .i64 (p:Int))).setCell ⟨q+1,1,none⟩ (.int .i64 (s:Int))).setCell ⟨q+1,2,none⟩ (.map mo)):=by
    refine OffS.trans (OffS.trans (OffS.set _ ?_ _ _) (OffS.set _ ?_ _ _)) (OffS.set _ ?_ _ _)<;>rfl
   have hX:=hof.ext (HX0.out.trans HBk.out) (fun i hi=>by rw[hi,HQ.out];omega);exact ⟨p,s,.map mo,D,rfl,HF.out.ext hX,fun B h=>h,HAll.out,hX⟩
end
end Go.Proofs.YthdekbmdkpcooaaGreatDoor
