/- Plain laws. -/
import Derived.Test.YtjlcdfpbllobaaaGreatDoorG30AQ
set_option linter.unusedVariables false
set_option linter.unusedSimpArgs false
set_option maxRecDepth 100000
set_option maxHeartbeats 12800000
namespace Go.Proofs.YtjlcdfpbllobaaaGreatDoor
variable {x:En}{k n cap i m cap':Nat}{t:To}{f:Int}{w':World}{ao so bo:Option Addr}{a:List To}{α:Type}
section
open Go.RowKit
abbrev Pbs :=List (Nat×Bt)
def z1x(P:Pbs):List (Nat×List UInt8):=P.map fun x=>(x.1,btB x.2)
def q5K(sd:Int)(P:Pbs):List En:=(P.map fun x=>q0s sd x.1 x.2 x.2.ev.length).flatten
def q1h(P:Pbs):List Bt:=P.map Prod.snd
def q2h(P:Pbs)(s:List UInt8)(x:En):Option To:=
 match P.find? (fun y=>decide ((y.1:Int)=x.2.2)) with
 |none=>none
 |some y=>if y.2.st=s/\(y.2.fi:Int)<=x.2.1/\x.2.1<(y.2.fi:Int)+(y.2.ev.length:Int) then some ⟨s,x.2.1,y.2.ev.getD (x.2.1-(y.2.fi:Int)).toNat ev0⟩ else none
structure StI(sd:Int)(B:List En)(P:Pbs):Prop where
 ok:okBs (q1h P)
 pos:P.Pairwise fun a b=>a.1<b.1
 ents: ∀x,x∈B↔x∈q5K sd P
theorem z3T(sd:Int): ∀{P:Pbs},(∀y∈P,z4Z y.2)->z3p sd (z1x P)=some (q5K sd P)
 |[],_=>rfl
 | y::P,h=>by
  have b:=z3T sd (P:=P) fun z d=>h z (.tail _ d)
  have h1:=z4N y.2 (h y (.head _));unfold z1x at b⊢;rw[List.map_cons,z3p,h1,Option.bind_some,b]
  rfl
theorem mem_entsP{sd:Int}{P:Pbs}:x∈q5K sd P↔ ∃y∈P,∃k,k<y.2.ev.length/\x=q3O sd y.1 y.2 k:=by
 unfold q5K;rw[List.mem_flatten]
 constructor
 ·rintro⟨l,o,j⟩
  obtain⟨y,d,rfl⟩:=List.mem_map.1 o;unfold q0s at j;obtain⟨k,b,rfl⟩:=List.mem_map.1 j;exact⟨y,d,k,List.mem_range.1 b,rfl⟩
 ·rintro⟨y,d,k,b,rfl⟩
  exact⟨_,List.mem_map.2 ⟨y,d,rfl⟩,by unfold q0s;exact List.mem_map.2 ⟨k,List.mem_range.2 b,rfl⟩⟩
theorem z5c : ∀{P:Pbs},P.Pairwise (fun a b=>a.1<b.1)-> ∀{y:Nat×Bt},y∈P->P.find? (fun z=>decide ((z.1:Int)=(y.1:Int)))=some y
 |[],_,y,h=>by cases h
 | z ::P,hp,y,h=>by
  obtain⟨h1,h2⟩:=List.pairwise_cons.1 hp;rcases List.mem_cons.1 h with rfl|h
  ·rw[List.find?_cons_of_pos (by simp)]
  ·rw[List.find?_cons_of_neg (by have:=h1 y h;simp;omega)]
   exact z5c h2 h
section
variable {sd :Int}{B:List En}{P:Pbs}
theorem q6t(h:P.Pairwise fun a b=>a.1<b.1){y:Nat×Bt}(j:y∈P)(l:k<y.2.ev.length)(s:List UInt8):q2h P s (q3O sd y.1 y.2 k)=if y.2.st=s then some ⟨s,((y.2.fi+k:Nat):Int),y.2.ev.getD k ev0⟩ else none:=by
 unfold q2h q3O;simp only;rw[z5c h j];simp only;by_cases d:y.2.st=s
 ·rw[ξ d,ξ ⟨d,by omega,by omega⟩,show((y.2.fi:Int)+(k:Int)-(y.2.fi:Int)).toNat=k by omega]
  congr 1
 ·rw[κ d,κ fun h=>d h.1]
theorem StI.found(h:StI sd B P){s:List UInt8}(r:x∈B):q2h P s x=some t↔ ∃y∈P,∃k,k<y.2.ev.length/\x=q3O sd y.1 y.2 k/\y.2.st=s/\t=⟨s,((y.2.fi+k:Nat):Int),y.2.ev.getD k ev0⟩:=by
 obtain⟨y,o,k,d,rfl⟩:=mem_entsP.1 ((h.ents x).1 r);rw[q6t h.pos o d]
 constructor
 ·intro b
  split at b
  ·rename_i l
   injection b with b;exact⟨y,o,k,d,rfl,l,b.symm⟩
  ·cases b
 ·rintro⟨z,D,j,q,he,l,rfl⟩
  have h1:=q6t (sd:=sd) h.pos o d s;have h2:=q6t (sd:=sd) h.pos D q s;rw[<-he,h1,ξ l] at h2;exact h2
theorem StI.mem_str(h:StI sd B P){s:List UInt8}:t∈q3K (q1h P) s↔ ∃y∈P,∃k,k<y.2.ev.length/\y.2.st=s/\t=⟨s,((y.2.fi+k:Nat):Int),y.2.ev.getD k ev0⟩:=by
 rw[<-q6P h.ok,List.mem_filter,mem_tos]
 constructor
 ·rintro⟨⟨b,o,k,j,rfl⟩,d⟩
  obtain⟨y,l,rfl⟩:=List.mem_map.1 o;simp only[Φ] at d;exact⟨y,l,k,j,d,by rw[d]⟩
 ·rintro⟨y,l,k,j,d,rfl⟩
  exact⟨⟨y.2,List.mem_map.2 ⟨y,l,rfl⟩,k,j,by rw[d]⟩,by simp⟩
theorem StI.between(h:StI sd B P)(hB:q1D B)(s:List UInt8)(a b:Int):(q1C B (q2z sd s) a b).filterMap (q2h P s)=(q3K (q1h P) s).filter fun t=>decide (a<=t.v/\t.v<=b):=by
 refine y5R ?_ ((z9H _ _ _).filter _) fun t=>?_
 ·rw [List.pairwise_filterMap]
  refine List.Pairwise.imp_of_mem ?_ (q5f hB (q2z sd s) a b);intro x y N O d t Z u hu;obtain⟨G,a0,I,J⟩:=mem_range.1 N;obtain⟨b0,c0,d0,e0⟩:=mem_range.1 O;obtain⟨p,hp,i,hi,rfl,Q,rfl⟩:=(h.found G).1 Z;obtain⟨q,hq,j,hj,rfl,R,rfl⟩:=(h.found b0).1 hu;rw[lessE_iff] at d;unfold q3O at d;simp only at d⊢;rw[Q,R] at d;rcases d with d|⟨_,d|⟨he,X⟩⟩
  ·omega
  ·omega
  ·exfalso
   obtain⟨l,r,hl⟩:=List.append_of_mem hp;have o:=h.ok;have D:=h.pos;rw[hl] at o D hq;rcases List.mem_append.1 hq with hq|hq
   ·have:=(List.pairwise_append.1 D).2.2 q hq p (.head _)
    omega
   ·rcases List.mem_cons.1 hq with hq|hq
    ·rw[hq] at X;omega
    ·obtain⟨m,r2,hm⟩:=List.append_of_mem hq
     rw[hm] at o;unfold q1h at o;rw[List.map_append,List.map_cons,List.map_append,List.map_cons] at o;have:=okBs.apart (l:=l.map Prod.snd) (b:=p.2) (m:=m.map Prod.snd) (c:=q.2) (r:=r2.map Prod.snd) (by rw[List.append_assoc,List.cons_append];exact o) (by rw[Q,R]);omega
 ·rw [List.mem_filterMap,List.mem_filter,h.mem_str,Φ]
  constructor
  ·rintro⟨x,N,Z⟩
   obtain⟨G,a0,I,J⟩:=mem_range.1 N;obtain⟨y,O,k,S,rfl,U,rfl⟩:=(h.found G).1 Z;unfold q3O at I J;simp only at I J⊢;exact⟨⟨y,O,k,S,U,rfl⟩,by omega,by omega⟩
  ·rintro⟨⟨y,O,k,S,U,rfl⟩,h1,h2⟩
   simp only at h1 h2;have N:q3O sd y.1 y.2 k∈B:=(h.ents _).2 (mem_entsP.2 ⟨y,O,k,S,rfl⟩);refine⟨q3O sd y.1 y.2 k,mem_range.2 ⟨N,?_,?_,?_⟩,(h.found N).2 ⟨y,O,k,S,rfl,U,rfl⟩⟩
   ·unfold q3O;simp only;rw[U]
   ·unfold q3O;simp only;omega
   ·unfold q3O;simp only;omega
theorem q1M(bs:List Bt)(s:List UInt8):(q3K bs s).length=(q0U bs s).length:=q1i _ _ _
theorem StI.has(h:StI sd B P){s:List UInt8}{v:Nat}(l:v<(q0U (q1h P) s).length): ∃x∈B,x.1=q2z sd s/\x.2.1=(v:Int):=by
 have j:(⟨s,((0+v:Nat):Int),(q0U (q1h P) s).getD v ev0⟩:To)∈q3K (q1h P) s:=numT_mem.2 ⟨v,l,rfl⟩;obtain⟨y,o,k,b,d,he⟩:=h.mem_str.1 j;injection he with _ he _;refine⟨q3O sd y.1 y.2 k,(h.ents _).2 (mem_entsP.2 ⟨y,o,k,b,rfl⟩),?_,?_⟩
 ·unfold q3O;simp only;rw[d]
 ·unfold q3O;simp only;omega
theorem StI.last(h:StI sd B P)(q:okM B){s:List UInt8}{u r:Int}(R:((q0U (q1h P) s).length:Int)-1<=u)(j:z5C B (q2z sd s) u r):
  ((q0U (q1h P) s).length:Int)-1<=r/\ -1<=r/\(r<0->q0U (q1h P) s=[])/\(0<=r->(q3K (q1h P) s).filter (fun t=>decide (r<=t.v/\t.v<=r))=[]->((q0U (q1h P) s).length:Int)-1<=r-1)/\
   ((q3K (q1h P) s).filter (fun t=>decide (r<=t.v/\t.v<=r))≠[]->((q0U (q1h P) s).length:Int)-1=r):=by
 have o: -1<=r:=by
  rcases j.2 with e|⟨y,N,_,_,e⟩
  ·omega
  ·have:=okEn_iff.1 (q.ok y N);omega
 have h1:((q0U (q1h P) s).length:Int)-1<=r:=by
  rcases Nat.eq_zero_or_pos (q0U (q1h P) s).length with e|e
  ·omega
  ·obtain⟨x,J,l,O⟩:=h.has (s:=s) (v:=(q0U (q1h P) s).length-1) (by omega)
   have:=j.1 x J l (by omega);omega
 refine⟨h1,o,fun I=>?_,fun I he=>?_,fun b=>?_⟩
 ·exact List.length_eq_zero_iff.1 (by omega)
 ·rcases Int.lt_or_le (((q0U (q1h P) s).length:Int)-1) r with G|D
  ·omega
  ·exfalso
   have d:(⟨s,((0+r.toNat:Nat):Int),(q0U (q1h P) s).getD r.toNat ev0⟩:To)∈q3K (q1h P) s:=numT_mem.2 ⟨r.toNat,by omega,rfl⟩;have:=(List.mem_filter (p:=fun t:To=>decide (r<=t.v/\t.v<=r))).2 ⟨d,by simp;omega⟩;rw[he] at this
   cases this
 ·obtain⟨t,d⟩:=List.exists_mem_of_ne_nil _ b
  obtain⟨h2,h3⟩:=List.mem_filter.1 d;obtain⟨k,Q,rfl⟩:=numT_mem.1 h2;simp only[Φ] at h3;omega
end
theorem z6t(sd:Int)(P:Pbs)(p:Nat)(b:Bt):q5K sd (P++[(p,b)])=q5K sd P++q0s sd p b b.ev.length:=by
 unfold q5K;rw[List.map_append,List.flatten_append];simp
theorem q5H(P:Pbs)(p:Nat)(b:Bt):q1h (P++[(p,b)])=q1h P++[b]:=by unfold q1h;rw[List.map_append];rfl
theorem mem_addEs{x:En}: ∀{es L:List En},x∈q1f es L↔x∈es\/x∈L
 |[],L=>by unfold q1f;simp
 | e ::es,L=>by
  have h:=mem_addEs (x:=x) (es:=es) (L:=q4Q e L);unfold q1f at*;rw[List.foldl_cons,h,mem_addE,List.mem_cons]
  constructor
  ·rintro(h|h|h)
   ·exact .inl (.inr h)
   ·exact .inl (.inl h)
   ·exact .inr h
  ·rintro((h|h)|h)
   ·exact .inr (.inl h)
   ·exact .inl h
   ·exact .inr (.inr h)
theorem StI.snoc{sd:Int}{B:List En}{P:Pbs}(h:StI sd B P){p:Nat}{b:Bt}(j:z4Z b)(l:b.fi=(q0U (q1h P) b.st).length)(o: ∀y∈P,y.1<p):StI sd (q1f (q0s sd p b b.ev.length) B) (P++[(p,b)]):=by
 refine⟨by rw[q5H];exact okBs_snoc.2 ⟨h.ok,j,l⟩,?_,fun x=>?_⟩
 ·rw[List.pairwise_append]
  exact⟨h.pos,List.pairwise_singleton _ _,fun a d c hc=>by obtain rfl:=List.mem_singleton.1 hc;exact o a d⟩
 ·rw[mem_addEs,z6t,List.mem_append,h.ents]
  exact Or.comm
theorem q7k(sd:Int)(P:Pbs):(q5K sd P).length=(tos (q1h P)).length:=by
 unfold q5K tos q1h;rw[List.length_flatten,List.length_flatten,List.map_map,List.map_map,List.map_map]
 congr 1
 refine List.map_congr_left fun x _=>?_
 simp only[Function.comp];rw[q4e,q4o]
theorem StI.len{sd:Int}{B:List En}{P:Pbs}(h:StI sd B P)(j:q1D B):B.length<=(tos (q1h P)).length:=by
 rw[<-q7k sd];have l:B.Nodup:=j.imp fun {a b} d e=>by rw[e,q0h] at d;cases d
 exact nodup_leB l fun x o=>(h.ents x).1 o
where nodup_leB {α:Type} [DecidableEq α]: ∀{l m:List α},l.Nodup->(∀x∈l,x∈m)->l.length<=m.length
 |[],_,_,_=>υ _
 | x::l,m,h,hm=>by
  obtain⟨h1,h2⟩:=List.nodup_cons.1 h;have hx:=hm x (.head _);have h3:=nodup_leB (m:=m.erase x) h2 fun y hy=>(List.mem_erase_of_ne (fun e:y=x=>h1 (by rw[<-e];exact hy))).2 (hm y (.tail _ hy))
  rw[List.length_erase_of_mem hx] at h3;have:=List.length_pos_of_mem hx;rw[χ];omega
def z3K(L:List To)(from_ count:Int):List To:=(L.drop from_.toNat).take count.toNat
def z3J(L:List To)(from_ count:Int):List To:=(L.drop (from_-count+1).toNat).take ((from_+1).toNat-(from_-count+1).toNat)
theorem y3a(bs:List Bt)(s:List UInt8){c:Int}(b:0<=f)(hc:1<=c)(d:(q0U bs s).length<=1073741824):(q3K bs s).filter (fun t=>decide (max f 0<=t.v/\t.v<=min (f+min c 1073741824-1) 1073741824))=z3K (q3K bs s) f c:=by
 unfold q3K z3K;rw[q7Z,show(max f 0-((0:Nat):Int)).toNat=f.toNat by omega];rcases Int.lt_or_le (f+c-1) 1073741824 with h|h
 ·rw[show(min (f+min c 1073741824-1) 1073741824+1-((0:Nat):Int)).toNat-f.toNat=c.toNat by omega]
 ·rw[Δ,Δ]
  ·rw[List.length_drop,q1i];omega
  ·rw[List.length_drop,q1i];omega
theorem z9R(bs:List Bt)(s:List UInt8){c:Int}(b:0<=f)(hc:1<=c)(d:(q0U bs s).length<=1073741824):(q3K bs s).filter (fun t=>decide (max (f-c+1) 0<=t.v/\t.v<=min f 1073741824))=z3J (q3K bs s) f c:=by
 unfold q3K z3J;rw[q7Z,show(max (f-c+1) 0-((0:Nat):Int)).toNat=(f-c+1).toNat by omega];rcases Int.le_total f 1073741824 with h|h
 ·rw[show(min f 1073741824+1-((0:Nat):Int)).toNat=(f+1).toNat by omega]
 ·rw[Δ,Δ]
  ·rw[List.length_drop,q1i];omega
  ·rw[List.length_drop,q1i];omega
theorem z9Q{L:List To}{c:Int}(h:(L.length:Int)<=f):z3K L f c=[]:=by
 unfold z3K;rw[List.drop_eq_nil_of_le (by omega),List.take_nil]
def toc(t:To):List Value:=[.string ⟨t.s.toArray⟩,.int .i64 t.v,.string ⟨t.e.ty.toArray⟩,.string ⟨t.e.da.toArray⟩,.float .f64 t.e.we]
def toV(t:To):Value:= .agg #[.string ⟨t.s.toArray⟩,.int .i64 t.v,.string ⟨t.e.ty.toArray⟩,.string ⟨t.e.da.toArray⟩,.float .f64 t.e.we]
def q2K(L:List To):List Value:=(L.map toc).flatten
theorem q5l(t:To):(toc t).length=5:=rfl
theorem q9n(t:To)(L:List To):q2K (t::L)=toc t++q2K L:=rfl
theorem q9m(L M:List To):q2K (L++M)=q2K L++q2K M:=by unfold q2K;rw[List.map_append,List.flatten_append]
theorem q7K(L:List To)(t:To):q2K (L++[t])=q2K L++toc t:=by rw[q9m];unfold q2K;simp
theorem q6T(L:List To):(q2K L).length=L.length*5:=by
 induction L with
 |nil=>rfl
 |cons k L ih=>rw[q9n,θ,ih,χ,q5l];omega
theorem q6S : ∀(L:List To) (i j:Nat),i<L.length->j<5->(q2K L)[i*5+j]? =(toc (L.getD i to0))[j]?
 |[],i,j,h,_=>by simp at h
 | k::L,0,j,_,hj=>by
  rw[q9n,List.getElem?_append_left (by rw[q5l];omega)];simp
 | k::L,i+1,j,h,hj=>by
  rw[q9n,List.getElem?_append_right (by rw[q5l];omega),show(i+1)*5+j-(toc k).length=i*5+j by rw[q5l];omega,q6S L i j (by simpa using h) hj];simp
theorem z6W(L:List To): ∀u∈q2K L,u.oneCell'=true:=fun u d=>by
 unfold q2K at d;obtain⟨l,j,b⟩:=List.mem_flatten.1 d;obtain⟨f,_,rfl⟩:=List.mem_map.1 j;unfold toc at b;simp only[List.mem_cons,List.not_mem_nil,or_false] at b;rcases b with rfl|rfl|rfl|rfl|rfl<;>rfl
structure Tos(w:World)(ao:Option Addr)(n cap:Nat)(L:List To):Prop where
 len:L.length=n
 fits:n<=cap
 bound:cap<=9223372036854775807
 nil:ao=none->cap=0
 rd:Rd w ao (q2K L)
theorem Tos.ext{w:World}{L:List To}(h:Tos w ao n cap L)(k:Ext w w'):Tos w' ao n cap L:=⟨h.len,h.fits,h.bound,h.nil,h.rd.ext k⟩
theorem Tos.at{w:World}{L:List To}(h:Tos w ao n cap L)(G:i<n):
  ∃b off,ao=some ⟨b,off,none⟩/\w.cell? ⟨b,off+i*5,none⟩=some (.string ⟨(L.getD i to0).s.toArray⟩)/\w.cell? ⟨b,off+i*5+1,none⟩=some (.int .i64 (L.getD i to0).v)/\w.cell? ⟨b,off+i*5+2,none⟩=some (.string ⟨(L.getD i to0).e.ty.toArray⟩)/\w.cell? ⟨b,off+i*5+3,none⟩=some (.string ⟨(L.getD i to0).e.da.toArray⟩)/\w.cell? ⟨b,off+i*5+4,none⟩=some (.float .f64 (L.getD i to0).e.we):=by
 have I:=h.len;have k0:=q6S L i 0 (by omega) (by decide);have k1:=q6S L i 1 (by omega) (by decide);have r:=q6S L i 2 (by omega) (by decide);have y:=q6S L i 3 (by omega) (by decide);have D:=q6S L i 4 (by omega) (by decide);obtain⟨b,off,rfl,q⟩:=h.rd _ _ k0;obtain⟨_,_,d,h1⟩:=h.rd _ _ k1
 cases d;obtain⟨_,_,j,h2⟩:=h.rd _ _ r
 cases j;obtain⟨_,_,l,h3⟩:=h.rd _ _ y
 cases l;obtain⟨_,_,o,h4⟩:=h.rd _ _ D
 cases o;exact⟨b,off,rfl,q,h1,h2,h3,h4⟩
theorem Tos.of_own{w:World}{B:Nat}{e:TypeId}{v:Value}{L:List To}(h:Own w B e 5 v L.length (q2K L)): ∃ao cap,v= .slice ao L.length cap/\Tos w ao L.length cap L:=by
 obtain⟨ao,cap,rfl,h1,h2,h3,h4⟩:=h.rd;exact⟨ao,cap,rfl,rfl,h1,h2,h3,h4⟩
theorem Tryz.infoTo :(Tryz.prog.info? 99).map (fun i=>(i.zero,i.size,i.bytes))=some (some (.agg #[.string ⟨#[]⟩,.int .i64 0,.string ⟨#[]⟩,.string ⟨#[]⟩,.float .f64 0]),5,64):=by kernel_rfl
def y0L(L:List To)(s:List UInt8):Nat:=(L.filter fun t=>decide (t.s=s)).length
theorem q6Q{s:List UInt8}(h:q1U s=true):1<=s.length/\s.length<=32:=by
 unfold q1U at h;rw[Ξ] at h;exact⟨of_decide_eq_true h.1,of_decide_eq_true h.2⟩
structure Smm where
 nm:List UInt8
 la:Int
 fa:Option Addr
 fn:Nat
 fc:Nat
 F:List To
 ba:Option Addr
 bn:Nat
 bc:Nat
 B:List To
def sm0 :Smm:=⟨[],0,none,0,0,[],none,0,0,[]⟩
def smc(x:Smm):List Value:=[.string ⟨x.nm.toArray⟩,.int .i64 x.la,.slice x.fa x.fn x.fc,.slice x.ba x.bn x.bc]
def smV(x:Smm):Value:= .agg #[.string ⟨x.nm.toArray⟩,.int .i64 x.la,.slice x.fa x.fn x.fc,.slice x.ba x.bn x.bc]
def z0H(A:List Smm):List Value:=(A.map smc).flatten
theorem q9f(x:Smm)(A:List Smm):z0H (x::A)=smc x++z0H A:=rfl
theorem q9d(a b:List Smm):z0H (a++b)=z0H a++z0H b:=by simp[z0H]
theorem q9g(A:List Smm):(z0H A).length=A.length*4:=by
 induction A with
 |nil=>rfl
 |cons a r ih=>rw[q9f,θ,ih,χ,show(smc a).length=4 from rfl];omega
theorem q9e : ∀(A:List Smm) (i j:Nat),i<A.length->j<4->(z0H A)[i*4+j]? =(smc (A.getD i sm0))[j]?
 |[],i,j,h,_=>by simp at h
 | k::A,0,j,_,hj=>by
  rw[q9f,List.getElem?_append_left (by simp[smc];omega)];simp
 | k::A,i+1,j,h,hj=>by
  rw[q9f,List.getElem?_append_right (by simp[smc];omega),show(i+1)*4+j-(smc k).length=i*4+j from by simp[smc];omega,q9e A i j (by simpa using h) hj];simp
structure Sms(w:World)(ao:Option Addr)(n cap:Nat)(A:List Smm):Prop where
 len:A.length=n
 fits:n<=cap
 bound:cap<=9223372036854775807
 nil:ao=none->cap=0
 rd:Rd w ao (z0H A)
 fo: ∀x∈A,Tos w x.fa x.fn x.fc x.F
 bk: ∀x∈A,Tos w x.ba x.bn x.bc x.B
theorem Sms.ext{w:World}{A:List Smm}(h:Sms w ao n cap A)(k:Ext w w'):Sms w' ao n cap A:=⟨h.len,h.fits,h.bound,h.nil,h.rd.ext k,fun x b=>(h.fo x b).ext k,fun x b=>(h.bk x b).ext k⟩
theorem Sms.empty(w:World):Sms w none 0 0 []:=⟨rfl,ι _,by omega,fun _=>rfl,Rd.nil _ _,(fun x b=>by cases b),(fun x b=>by cases b)⟩
theorem Sms.firsts{w:World}{A:List Smm}(h:Sms w ao n cap A)(hm:m<=n):Sms w ao m cap (A.take m):=by
 refine⟨by rw[Θ,h.len];omega,by have:=h.fits;omega,h.bound,h.nil,?_,fun x b=>h.fo x (List.mem_of_mem_take b),fun x b=>h.bk x (List.mem_of_mem_take b)⟩;have h1:=h.rd.take (m*4);have e:(z0H A).take (m*4)=z0H (A.take m):=by
  conv=>lhs;rw[<-List.take_append_drop m A,q9d]
  exact List.take_left' (by rw[q9g,Θ,h.len];omega)
 rw[<-e];exact h1
theorem Sms.at{w:World}{A:List Smm}(h:Sms w ao n cap A)(y:i<n):
  ∃ b off,ao=some ⟨b,off,none⟩/\w.cell? ⟨b,off+i*4,none⟩=some (.string ⟨(A.getD i sm0).nm.toArray⟩)/\w.cell? ⟨b,off+i*4+1,none⟩=some (.int .i64 (A.getD i sm0).la)/\w.cell? ⟨b,off+i*4+2,none⟩=some (.slice (A.getD i sm0).fa (A.getD i sm0).fn (A.getD i sm0).fc)/\
   w.cell? ⟨b,off+i*4+3,none⟩=some (.slice (A.getD i sm0).ba (A.getD i sm0).bn (A.getD i sm0).bc)/\Tos w (A.getD i sm0).fa (A.getD i sm0).fn (A.getD i sm0).fc (A.getD i sm0).F/\Tos w (A.getD i sm0).ba (A.getD i sm0).bn (A.getD i sm0).bc (A.getD i sm0).B:=by
 have D:=h.len;have hm:A.getD i sm0∈A:=q4G (by omega);have k0:=q9e A i 0 (by omega) (by decide);have k1:=q9e A i 1 (by omega) (by decide);have q:=q9e A i 2 (by omega) (by decide);have r:=q9e A i 3 (by omega) (by decide);obtain⟨b,off,rfl,o⟩:=h.rd _ _ k0;obtain⟨_,_,d,h1⟩:=h.rd _ _ k1
 cases d;obtain⟨_,_,j,h2⟩:=h.rd _ _ q
 cases j;obtain⟨_,_,l,h3⟩:=h.rd _ _ r
 cases l;exact⟨b,off,rfl,o,h1,h2,h3,h.fo _ hm,h.bk _ hm⟩
structure Fi where
 cd:Int
 st:List UInt8
 at':Int
def fi0 :Fi:=⟨0,[],0⟩
def fic(f:Fi):List Value:=[.int .i64 f.cd,.string ⟨f.st.toArray⟩,.int .i64 f.at']
def q5c(L:List Fi):List Value:=(L.map fic).flatten
theorem q8y(a b:List Fi):q5c (a++b)=q5c a++q5c b:=by simp[q5c]
theorem z4L(L:List Fi):(q5c L).length=L.length*3:=by
 induction L with
 |nil=>rfl
 |cons a r ih=>rw[show q5c (a::r)=fic a++q5c r from rfl,θ,ih,χ,show(fic a).length=3 from rfl];omega
theorem y0y(L:List Fi): ∀u∈q5c L,u.oneCell'=true:=by
 intro u b;obtain⟨c,hc,b⟩:=List.mem_flatten.1 b;obtain⟨a,_,rfl⟩:=List.mem_map.1 hc;simp[fic] at b;rcases b with rfl|rfl|rfl<;>rfl
def q5E(L:List To)(s:List UInt8):List To:=L.filter fun t=>decide (t.s=s)
def q7I(a b:To):Bool:=decide (a.s=b.s)&&decide (a.v=b.v)&&q9b a.e b.e
def q3B :Int->List To->List To->Int
 |i,x::a,y::b=>if q7I x y=true then q3B (i+1) a b else i
 |_,[],[]=> -1
 |i,_,_=>i
def one? (c:Bool)(f:Fi):List Fi:=if c=true then [f] else []
def q3E(nm:List UInt8)(la:Int)(F B own:List To):List Fi:=
 one? (decide (la≠(own.length:Int)-1)) ⟨4,nm,la⟩++one? (decide (0<=q3B 0 F own)) ⟨5,nm,q3B 0 F own⟩++one? (decide (0<=q3B 0 B own.reverse)) ⟨6,nm,q3B 0 B own.reverse⟩
def z0O(N:List (List UInt8))(acc:List To)(t:To):List Fi:=
 one? (decide (t.v≠(y0L acc t.s:Int))) ⟨1,t.s,(acc.length:Int)⟩++one? (decide (y0L acc t.s=0)&&decide (t.s∉N)) ⟨2,t.s,(acc.length:Int)⟩
def z2E(L:List To)(S:List Smm)(i:Nat):List Fi:=
 if (S.getD i sm0).nm∈(S.take i).map Smm.nm then [⟨3,(S.getD i sm0).nm,(i:Int)⟩] else q3E (S.getD i sm0).nm (S.getD i sm0).la (S.getD i sm0).F (S.getD i sm0).B (q5E L (S.getD i sm0).nm)
def q3c(N:List (List UInt8))(L:List To):Nat->List Fi
 |0=>[]
 |i+1=>q3c N L i++z0O N (L.take i) (L.getD i to0)
def q2Y(L:List To)(S:List Smm):Nat->List Fi
 |0=>[]
 |i+1=>q2Y L S i++z2E L S i
def q4t(L:List To)(S:List Smm):List Fi:=q3c (S.map Smm.nm) L L.length++q2Y L S S.length
theorem z1T(L:List To)(s:List UInt8):y0L L s=(q5E L s).length:=rfl
theorem q7C(L:List To)(t:To)(s:List UInt8):q5E (L++[t]) s=if t.s=s then q5E L s++[t] else q5E L s:=by
 unfold q5E;rw[List.filter_append];by_cases h:t.s=s
 ·rw[ξ h];simp[h]
 ·rw[κ h];simp[h]
theorem one?_len (c:Bool)(f:Fi):(one? c f).length<=1:=by unfold one?;split<;>simp
theorem z9u(N:List (List UInt8))(acc:List To)(t:To):(z0O N acc t).length<=2:=by
 unfold z0O;have h1:=one?_len (decide (t.v≠(y0L acc t.s:Int))) ⟨1,t.s,(acc.length:Int)⟩;have h2:=one?_len (decide (y0L acc t.s=0)&&decide (t.s∉N)) ⟨2,t.s,(acc.length:Int)⟩;rw[θ];omega
theorem q9i(nm:List UInt8)(la:Int)(F B own:List To):(q3E nm la F B own).length<=3:=by
 unfold q3E;have h1:=one?_len (decide (la≠(own.length:Int)-1)) ⟨4,nm,la⟩;have h2:=one?_len (decide (0<=q3B 0 F own)) ⟨5,nm,q3B 0 F own⟩;have h3:=one?_len (decide (0<=q3B 0 B own.reverse)) ⟨6,nm,q3B 0 B own.reverse⟩;rw[θ,θ];omega
theorem z9v(L:List To)(S:List Smm)(i:Nat):(z2E L S i).length<=3:=by
 unfold z2E
 split
 ·simp
 ·exact q9i _ _ _ _ _
theorem q7R(N:List (List UInt8))(L:List To): ∀i,(q3c N L i).length<=2*i
 |0=>ι _
 |i+1=>by have h1:=q7R N L i;have h2:=z9u N (L.take i) (L.getD i to0);rw[q3c,θ];omega
theorem z0U(L:List To)(S:List Smm): ∀i,(q2Y L S i).length<=3*i
 |0=>ι _
 |i+1=>by have h1:=z0U L S i;have h2:=z9v L S i;rw[q2Y,θ];omega
theorem sameTo_iff{a b:To}:q7I a b=true↔a=b:=by
 obtain⟨a1,d,j⟩:=a;obtain⟨b1,b2,b3⟩:=b;unfold q7I;simp only[Ξ,Φ,To.mk.injEq,and_assoc,z7S]
theorem q7b : ∀(i:Int) (a:List To),q3B i a a= -1
 |i,[]=>rfl
 |i,x::a=>by unfold q3B;rw[ξ (sameTo_iff.2 rfl)];exact q7b _ a
theorem y3q(x:Smm)(nm:List UInt8)(g:Nat)(w:World)(hc:w.cell? ⟨g,0,none⟩=some (.string ⟨nm.toArray⟩)):
  Calls Tryz.prog 75 #[smV x,.pointer (some ⟨g,0,none⟩)] w fun e w'=>e= .returned (.bool (decide (x.nm=nm)))/\Ext w w':=by
 obtain⟨d,la,fa,fn,fc,F,ba,bn,bc,B⟩:=x;have b:=q0B w (.cells #[.string ⟨d.toArray⟩,.int .i64 la,.slice fa fn fc,.slice ba bn bc] 43);have j:=Blk.new w 43 #[.string ⟨d.toArray⟩,.int .i64 la,.slice fa fn fc,.slice ba bn bc];have q:=η b;have k0:=j.cell 0
 have r:=b.cell (p:=⟨g,0,none⟩) (Nat.lt_of_not_le fun h=>by
  have:w.cell? ⟨g,0,none⟩=none:=by unfold World.cell?;rw[Array.getElem?_eq_none h]
  rw[this] at hc;cases hc)
 rw[hc] at r;have y:(d==nm)=decide (d=nm):=by by_cases h:d=nm<;>simp[h]
 obtain⟨z,l⟩: ∃z,decide (d=nm)=z:=⟨_,rfl⟩
 rw[l] at y;simp only[smV];rw[l];clear b j l hc;go_enter Tryz.func75,Tryz.ntmps75;go_wp2_with fail;go_ret;exact⟨by simp,q.o⟩
theorem y5Z{S:List Smm}(nm:List UInt8)(g:Nat)(w:World)(y:Sms w so n cap S)(hc:w.cell? ⟨g,0,none⟩=some (.string ⟨nm.toArray⟩)):
  Calls Tryz.prog 121 #[.slice so n cap,.func (.func 75) #[] #[.pointer (some ⟨g,0,none⟩)]] w fun e w'=> ∃z:Int,e= .returned (.int .i64 z)/\decide (0<=z)=decide (nm∈S.map Smm.nm)/\z<=n/\Ext w w':=by
 have HS:=η y;have b1:=y.fits;have b2:=y.bound;have b:=y.len;have O:=η b;have r:g<w.heap.size:=Nat.lt_of_not_le fun h=>by
  have:w.cell? ⟨g,0,none⟩=none:=by unfold World.cell?;rw[Array.getElem?_eq_none h]
  rw[this] at hc;cases hc
 have Z:Hd (∀W,Ext w W->W.cell? ⟨g,0,none⟩=some (.string ⟨nm.toArray⟩)):=η fun W k=>(k.cell (p:=⟨g,0,none⟩) r).trans hc
 have X:=η (fun x W (k:Ext w W)=>y3q x nm g W (Z.o W k));clear y hc b r;go_enter Tryz.func121,Tryz.ntmps121;go_wp2_with fail
 go_loopw [8] (fun i W=> ∃k:Nat,k<=n/\i= .int .i64 (k:Int)/\Ext w W/\Hd (∀j,j<k->(S.getD j sm0).nm≠nm)) (fun i _=>n-(intOf i).toNat)
 case atStart=>exact⟨0,υ _,rfl,Ext.refl _,η fun j h=>absurd h (Nat.not_lt_zero _)⟩
 case round=>
  obtain⟨k,hk,rfl,d,R⟩:=hrel;have G:=η d;by_cases J:k<n
  ·have hd:decide ((k:Int)<(n:Int))=true:=ζ (by omega)
   have c0:(k:Int)<(n:Int):=by omega
   have q8:IntKind.i64.wrap ((k:Int)+1)=(k:Int)+1:=by rw[ν];omega
   obtain⟨ab,b0,rfl,a0,a1,a2,a3,_,_⟩:=(HS.o.ext d).at J;have Q:Hd ((S.getD k sm0).nm=nm->nm∈S.map Smm.nm):=η fun h=>List.mem_map.2 ⟨_,q4G (by have:=O.o;omega),h⟩
   obtain⟨x,l⟩: ∃x,S.getD k sm0=x:=⟨_,rfl⟩
   rw[l] at a0 a1 a2 a3 Q;have I:=η l;have D:=η (X.o x wr G.o);unfold smV at D;clear d l;obtain⟨z,N⟩: ∃z,decide (x.nm=nm)=z:=⟨_,rfl⟩
   rw[N] at D;have U:=η N;clear N;go_wp2_with fail;refine D.o.mono ?_;rintro e w1 ⟨rfl,d⟩;have q:=η (G.o.trans d);clear d
   cases z with
   | true=>
    go_wp2_with fail;go_ret;exact⟨(k:Int),rfl,by rw[ζ (show(0:Int)<=(k:Int) by omega),ζ (Q.o (of_decide_eq_true U.o))],by omega,q.o⟩
   | false=>
    go_wp2_with fail
    go_roundw
    case rel=>exact⟨k+1,by omega,by go_num,q.o,η fun j h=>by
     by_cases e:j=k
     ·subst e;rw[I.o];exact of_decide_eq_false U.o
     ·exact R.o j (by omega)⟩
    case measure=>simp[intOf];omega
  ·obtain rfl:k=n:=by omega
   have hd:decide ((k:Int)<(k:Int))=false:=ε (by omega);clear d;go_wp2_with fail;go_ret;refine⟨-1,rfl,?_,by omega,G.o⟩;rw[ε (show ¬(0:Int)<= -1 by decide)];refine(ε fun h=>?_).symm;obtain⟨x,h1,h2⟩:=List.mem_map.1 h;obtain⟨j,hj,h3⟩:=List.mem_iff_getElem.1 h1;refine R.o j (by have:=O.o;omega) ?_;rw[δ,γ hj,Option.getD_some,h3,h2]
theorem y3p{S:List Smm}(nm:List UInt8)(g:Nat)(w:World)(l:Sms w so n cap S)(hc:w.cell? ⟨g,0,none⟩=some (.string ⟨nm.toArray⟩)):
  Calls Tryz.prog 74 #[.slice so n cap,.func (.func 75) #[] #[.pointer (some ⟨g,0,none⟩)]] w fun e w'=>e= .returned (.bool (decide (nm∈S.map Smm.nm)))/\Ext w w':=by
 have d:=η (y5Z nm g w l hc);clear l hc;obtain⟨b,j⟩: ∃b,decide (nm∈S.map Smm.nm)=b:=⟨_,rfl⟩
 rw[j] at d⊢;clear j;go_enter Tryz.func74,Tryz.ntmps74;go_wp2_with fail;refine d.o.mono ?_;rintro e w1 ⟨z,rfl,r,G,q⟩;have y:=η q;have D:=η r;clear q r;go_wp2_with fail;go_ret;exact⟨by rw[<-D.o];rfl,y.o⟩
theorem y5X{va:Option Addr}{vn vc:Nat}{S:List Smm}(nm:List UInt8)(m:Nat)(w:World)(y:Sms w so n cap S)(hm:m<=n):
  Calls Tryz.prog 35 #[.agg #[.slice va vn vc,.slice so n cap],.string ⟨nm.toArray⟩,.int .i64 (m:Int)] w fun e w'=>e= .returned (.bool (decide (nm∈(S.take m).map Smm.nm)))/\Ext w w':=by
 have l:=q0B w (.cells #[.slice va vn vc,.slice so n cap] 25);have d:=q0B (w.alloc (.cells #[.slice va vn vc,.slice so n cap] 25)) (.cells #[.string ⟨nm.toArray⟩] 9);have N:=η (l.trans d);have j:=(Blk.new w 25 #[.slice va vn vc,.slice so n cap]).ext d;have q:=Blk.new (w.alloc (.cells #[.slice va vn vc,.slice so n cap] 25)) 9 #[.string ⟨nm.toArray⟩];have k0:=j.cell 0;have k1:=j.cell 1;have b1:=y.fits;have b2:=y.bound;have r:=(y3p nm (w.alloc (.cells #[.slice va vn vc,.slice so n cap] 25)).heap.size _ ((y.firsts hm).ext (l.trans d)) (q.cell 0))
 rw[ρ] at r;obtain⟨b,G⟩: ∃b,decide (nm∈(S.take m).map Smm.nm)=b:=⟨_,rfl⟩
 rw[G] at r⊢;have J:=η r;have Q:(m:Int)<=(n:Int):=by omega
 have O:(m:Int)<=(cap:Int):=by omega
 clear l d j q y r G;go_enter Tryz.func35,Tryz.ntmps35;go_wp2_with fail;refine J.o.mono ?_;rintro e w1 ⟨rfl,I⟩;have D:=η (N.o.trans I);clear I;go_wp2_with fail;go_ret;exact⟨rfl,D.o⟩
theorem y2f(a b:To)(w:World):Calls Tryz.prog 122 #[toV a,toV b] w fun r w'=>r= .returned (.bool (q7I a b))/\Ext w w':=by
 obtain⟨s,v,⟨ty,da,we⟩⟩:=a;obtain⟨J,N,⟨q,l,y⟩⟩:=b;have I:=q0B w (.cells #[.string ⟨s.toArray⟩,.int .i64 v,.string ⟨ty.toArray⟩,.string ⟨da.toArray⟩,.float .f64 we] 99);have D:=q0B (w.alloc (.cells #[.string ⟨s.toArray⟩,.int .i64 v,.string ⟨ty.toArray⟩,.string ⟨da.toArray⟩,.float .f64 we] 99)) (.cells #[.string ⟨J.toArray⟩,.int .i64 N,.string ⟨q.toArray⟩,.string ⟨l.toArray⟩,.float .f64 y] 99);have S:=η (I.trans D);have j:=(Blk.new w 99 #[.string ⟨s.toArray⟩,.int .i64 v,.string ⟨ty.toArray⟩,.string ⟨da.toArray⟩,.float .f64 we]).ext D;have d:=Blk.new (w.alloc (.cells #[.string ⟨s.toArray⟩,.int .i64 v,.string ⟨ty.toArray⟩,.string ⟨da.toArray⟩,.float .f64 we] 99)) 99 #[.string ⟨J.toArray⟩,.int .i64 N,.string ⟨q.toArray⟩,.string ⟨l.toArray⟩,.float .f64 y];rw[ρ] at d;have k0:=j.cell 0;have k1:=j.cell 1;have k2:=j.cell 2;have k3:=j.cell 3;have k4:=j.cell 4;have d0:=d.cell 0;have d1:=d.cell 1;have d2:=d.cell 2;have d3:=d.cell 3;have d4:=d.cell 4;obtain⟨O,X⟩: ∃O,(s==J)=O:=⟨_,rfl⟩
 obtain⟨Q,Z⟩: ∃Q,(v==N)=Q:=⟨_,rfl⟩
 obtain⟨z3,G⟩: ∃z3,q9b ⟨ty,da,we⟩ ⟨q,l,y⟩=z3:=⟨_,rfl⟩
 have hs:q7I ⟨s,v,⟨ty,da,we⟩⟩ ⟨J,N,⟨q,l,y⟩⟩=(O&&Q&&z3):=by
  unfold q7I;rw[<-X,<-Z,<-G]
  congr 1
  congr 1
  by_cases h:s=J<;>simp[h]
 rw[hs];have R:=η (fun W=>y2u ⟨ty,da,we⟩ ⟨q,l,y⟩ W);rw[G] at R;simp only at R;clear I D j d hs G;unfold toV;go_enter Tryz.func122,Tryz.ntmps122
 cases O with
 | false=>
  go_wp2_with fail;go_ret;exact⟨rfl,S.o⟩
 | true=>
  cases Q with
  | false=>
   go_wp2_with fail;go_ret;exact⟨rfl,S.o⟩
  | true=>
   go_wp2_with fail;refine(R.o _).mono ?_;rintro e w1 ⟨rfl,hx⟩;have U:=η (S.o.trans hx);clear hx;go_wp2_with fail;go_ret;exact⟨by simp,U.o⟩
theorem q3M(l:List α)(d:α)(h:i<l.length):l.drop i=l.getD i d::l.drop (i+1):=by
 rw[List.drop_eq_getElem_cons h,δ,γ h];rfl
theorem z7L{b:List To}(h1:i<a.length)(h2:i<b.length)(h:q7I (a.getD i to0) (b.getD i to0)=true):q3B (i:Int) (a.drop i) (b.drop i)=q3B ((i+1:Nat):Int) (a.drop (i+1)) (b.drop (i+1)):=by
 rw[q3M a to0 h1,q3M b to0 h2,q3B,ξ h];rfl
theorem z7K{b:List To}(h1:i<a.length)(h2:i<b.length)(h:q7I (a.getD i to0) (b.getD i to0)=false):q3B (i:Int) (a.drop i) (b.drop i)=i:=by
 rw[q3M a to0 h1,q3M b to0 h2,q3B,κ (by rw[h];decide)]
theorem z9X{b:List To}(h:i=min a.length b.length):q3B (i:Int) (a.drop i) (b.drop i)=if a.length=b.length then-1 else(i:Int):=by
 by_cases e:a.length=b.length
 ·rw[ξ e,List.drop_eq_nil_of_le (by omega),List.drop_eq_nil_of_le (by omega)];rfl
 ·rw[κ e]
  by_cases k:a.length<b.length
  ·rw[List.drop_eq_nil_of_le (show a.length<=i by omega),q3M b to0 (show i<b.length by omega)];rfl
  ·rw[List.drop_eq_nil_of_le (show b.length<=i by omega),q3M a to0 (show i<a.length by omega)];rfl
theorem y2P{F G:List To}(w:World)(J:Tos w ao n cap F)(N:Tos w bo m cap' G):
  Calls Tryz.prog 76 #[.slice ao n cap,.slice bo m cap'] w fun r w'=>r= .returned (.int .i64 (q3B 0 F G))/\Ext w w':=by
 have HA:=η J;have HB:=η N;have b1:=J.fits;have b2:=J.bound;have b3:=N.fits;have b4:=N.bound;have d:=η J.len;have j:=η N.len;obtain⟨l,O⟩: ∃x:Nat,min n m=x:=⟨_,rfl⟩
 have k0:min (n:Int) (m:Int)=(l:Int):=by omega
 have i0:l<=n:=by omega
 have j0:l<=m:=by omega
 have X:=η O;clear J N O;go_enter Tryz.func76,Tryz.ntmps76;go_wp2_with fail
 go_loopw [13] (fun i W=> ∃k:Nat,k<=l/\i= .int .i64 (k:Int)/\Ext w W/\Hd (q3B 0 F G=q3B (k:Int) (F.drop k) (G.drop k))) (fun i _=>l-(intOf i).toNat)
 case atStart=>exact⟨0,υ _,rfl,Ext.refl _,η rfl⟩
 case round=>
  obtain⟨k,hk,rfl,Q,S⟩:=hrel;have HX:=η Q;by_cases h0:k<l
  ·have hd:decide ((k:Int)<(l:Int))=true:=ζ (by omega)
   have f0:(k:Int)<(n:Int):=by omega
   have g0:(k:Int)<(m:Int):=by omega
   have q8:IntKind.i64.wrap ((k:Int)+1)=(k:Int)+1:=by rw[ν];omega
   obtain⟨ab,d0,rfl,a0,a1,a2,a3,a4⟩:=(HA.o.ext (Q.trans (Ext.refl _).drew)).at (show k<n by omega);obtain⟨bb,e0,rfl,c0,c1,c2,c3,c4⟩:=(HB.o.ext (Q.trans (Ext.refl _).drew)).at (show k<m by omega);have y:=η (z7L (i:=k) (a:=F) (b:=G) (by have:=d.o;omega) (by have:=j.o;omega));have D:=η (z7K (i:=k) (a:=F) (b:=G) (by have:=d.o;omega) (by have:=j.o;omega));generalize F.getD k to0=t at*;generalize G.getD k to0=u at*;have Z:=η (y2f t u);unfold toV at Z;obtain⟨z,hz⟩: ∃z,q7I t u=z:=⟨_,rfl⟩
   rw[hz] at Z y D;clear Q hz;go_wp2_with fail
   go_region_law (go_simp;first|(go_at_call 122;refine(Z.o _).mono ?_;rintro e wa ⟨rfl,R⟩;have I:=η ((HX.o.trans (Ext.refl _).drew).trans R);clear R))
   all_goals
    cases z with
    | true=>
     go_wp2_with fail
     go_roundw
     case rel=>exact⟨k+1,by omega,by go_num,I.o,η (S.o.trans (y.o rfl))⟩
     case measure=>simp[intOf];omega
    | false=>
     go_wp2_with fail;go_ret;exact⟨by rw[S.o,D.o (by simp)];rfl,I.o⟩
  ·obtain rfl:k=l:=by omega
   have hd:decide ((k:Int)<(k:Int))=false:=ε (by omega);have U:=η (z9X (i:=k) (a:=F) (b:=G) (by rw[d.o,j.o];exact X.o.symm));rw[d.o,j.o] at U;clear Q;by_cases e:n=m
   ·have b0:((n:Int)==(m:Int))=true:=beq_iff_eq.2 (by omega)
    have q:Hd (q3B 0 F G= -1):=η (by rw[S.o,U.o,ξ e]);clear e;go_wp2_with fail;go_ret;exact⟨by rw[q.o];rfl,HX.o⟩
   ·have b0:((n:Int)==(m:Int))=false:=beq_eq_false_iff_ne.2 (by omega)
    have q:Hd (q3B 0 F G=(k:Int)):=η (by rw[S.o,U.o,κ e]);clear e;go_wp2_with fail;go_ret;exact⟨by rw[q.o];rfl,HX.o⟩
def CksIn(φ:Fls)(C:Cks):Prop:= ∀k:Nat,k<=999999->φ (q0C 99 (k:Int))=(C[k]?).map (q0b k)
def z2R(φ:Fls)(m:Man):Prop:=(φ mapN=some m.S/\0<m.nx)\/(φ mapN=none/\m.nx=0/\m.ck=0/\m.L=[])
def y5J(nm:List UInt8):Prop:= ∀k:Nat,k<=999999->nm≠q0C 99 (k:Int)
theorem z9L : ∀{a b:List (List UInt8×List UInt8)},q3g Prod.fst a->q3g Prod.fst b->(∀z,z∈a↔z∈b)->a=b
 |[],[],_,_,_=>rfl
 |[],y::b,_,_,h=>absurd ((h y).2 (.head _)) (by simp)
 |x::a,[],_,_,h=>absurd ((h x).1 (.head _)) (by simp)
 | x ::a,y::b,ha,hb,h=>by
  obtain⟨h1,h2⟩:=List.pairwise_cons.1 ha;obtain⟨h3,h4⟩:=List.pairwise_cons.1 hb;have l:x=y:=by
   rcases List.mem_cons.1 ((h x).1 (.head _)) with e|o
   ·exact e
   rcases List.mem_cons.1 ((h y).2 (.head _)) with e|q
   ·exact e.symm
   have:=WideShapes.bytes_trans _ _ _ (h1 y q) (h3 x o);rw[WideAt.bytes_irrefl] at this;cases this
  subst l;rw[z9L h2 h4 fun z=>?_]
  constructor
  ·intro j
   rcases List.mem_cons.1 ((h z).1 (.tail _ j)) with e|d
   ·have:=h1 z j;rw[e,WideAt.bytes_irrefl] at this;cases this
   ·exact d
  ·intro j
   rcases List.mem_cons.1 ((h z).2 (.tail _ j)) with e|d
   ·have:=h3 z j;rw[e,WideAt.bytes_irrefl] at this;cases this
   ·exact d
theorem z5u{l:List (List UInt8×List UInt8)}(h:q3g Prod.fst l)(z:List UInt8×List UInt8):z∈l↔(q0H Prod.fst z.1 l).map Prod.snd=some z.2:=by
 constructor
 ·intro b;rw[q4g h b rfl];rfl
 ·intro b
  cases hf:q0H Prod.fst z.1 l with
  |none=>rw[hf] at b;cases b
  | some y=>
   rw[hf] at b;injection b with b;obtain⟨h1,h2⟩:=q0K hf;have:y=z:=Prod.ext h2 b
   rwa [this] at h1
theorem y1c{a b:List (List UInt8×List UInt8)}(d:q3g Prod.fst a)(j:q3g Prod.fst b)(h: ∀nm,(q0H Prod.fst nm a).map Prod.snd=(q0H Prod.fst nm b).map Prod.snd):a=b:=
 z9L d j fun z=>by rw[z5u d,z5u j,h]
theorem z1s{r:α->α->Prop}{p:α->Bool}(j: ∀x y,r x y->p y=true->p x=true): ∀{l:List α},l.Pairwise r->l=l.filter p++l.filter (fun y=>!p y)
 |[],_=>rfl
 | x :: l,h=>by
  obtain⟨h1,h2⟩:=List.pairwise_cons.1 h
  cases hx:p x with
  | true=>
   rw[List.filter_cons_of_pos hx,List.filter_cons_of_neg (by simp[hx]),List.cons_append,<-z1s j h2]
  | false=>
   have d: ∀y∈l,p y=false:=fun y b=>by
    cases hy2:p y with
    |false=>rfl
    |true=>rw[j x y (h1 y b) hy2] at hx;cases hx
   rw [List.filter_cons_of_neg (by simp[hx]),List.filter_cons_of_pos (by simp[hx]),List.filter_eq_nil_iff.2 fun y b=>by simp[d y b],List.nil_append,
    List.filter_eq_self.2 fun y b=>by simp[d y b]]
theorem q8P{α:Type}[DecidableEq α]: ∀{l m:List α},l.Nodup->(∀x∈l,x∈m)->l.length<=m.length
 |[],_,_,_=>υ _
 | x::l,m,h,hm=>by
  obtain⟨h1,h2⟩:=List.nodup_cons.1 h;have b:=hm x (.head _);have h3:=q8P (m:=m.erase x) h2 fun y d=>(List.mem_erase_of_ne (fun e:y=x=>h1 (by rw[<-e];exact d))).2 (hm y (.tail _ d))
  rw[List.length_erase_of_mem b] at h3;have:=List.length_pos_of_mem b;rw[χ];omega
theorem q6b(d:k<=999999):bytesBefore [99] (q0C 99 (k:Int))=true/\bytesBefore (q0C 99 (k:Int)) [100]=true/\bytesBefore (q0C 99 (k:Int)) [99]=false:=by
 rw[q0Z (by omega)];have b:=q0n 6 ((k:Int)).toNat
 cases hd:q5w 6 ((k:Int)).toNat with
 |nil=>rw[hd] at b;cases b
 |cons a r=>exact⟨by simp[bytesBefore],by simp[bytesBefore],by simp[bytesBefore]⟩
theorem z2b{n:Int}(b:0<=n/\n<=999999):bytesBefore (q0C 98 n) [99]=true/\bytesBefore (q0C 116 n) [100]=false/\bytesBefore (q0C 116 n) [99]=false:=by
 rw[q0Z b,q0Z b];exact⟨by simp[bytesBefore],by simp[bytesBefore],by simp[bytesBefore]⟩
theorem before_map :bytesBefore mapN [100]=false/\bytesBefore mapN [99]=false:=by decide
section
variable {st :IxSt}{σ σ':DM}{c s:Int}{φ:Fls}{u cnt:Nat}{B:List En}{C C':Cks}{E:Oth}
theorem z5N : ∀(C:Cks) (i:Nat),i+C.length<=999999->q3g Prod.fst (q4w i C)
 |[],_,_=>List.Pairwise.nil
 | ps::r,i,h=>by
  rw[χ] at h;refine List.pairwise_cons.2 ⟨fun y b=>?_,z5N r (i+1) (by omega)⟩;obtain⟨j,h1,h2,h3⟩:=q4I b;rw[h3];exact q7j (by omega) (by omega) (by omega)
theorem z5M{C:Cks}(b:C.length<=200)(d:k<=999999):(q0H Prod.fst (q0C 99 (k:Int)) (q4w 0 C)).map Prod.snd=(C[k]?).map (q0b k):=by
 rcases Nat.lt_or_ge k C.length with h|h
 ·rw[z2e b (γ h),γ h];rfl
 ·rw[z2f b h d,List.getElem?_eq_none h];rfl
theorem q9h(h:PInv st σ c s φ u cnt B)(hc:CksIn φ C)(U:okC C):
  ∃E,Lgd E σ (c-(q2s E:Int)) s C/\(∀nm,y5J nm->(q0H Prod.fst nm (E.X++E.Z)).map Prod.snd=φ nm)/\q2s E+q1B C<=u/\E.X.length+C.length+E.Z.length<=cnt:=by
 obtain⟨l,f0,d,I,l0,k0⟩:=h.fl;have N: ∀y∈l,φ y.1≠none:=fun y b e=>by
  have:=I y.1;rw[q4g d b rfl,e] at this;cases this
 have Q:=z1s (r:=fun x y:List UInt8×List UInt8=>bytesBefore x.1 y.1=true) (p:=fun y:List UInt8×List UInt8=>bytesBefore y.1 [99]) (fun x y h1 h2=>WideShapes.bytes_trans _ _ _ h1 h2) d;have hr:=d.filter (p:=fun y:List UInt8×List UInt8=>!bytesBefore y.1 [99]);have p2:=z1s (r:=fun x y:List UInt8×List UInt8=>bytesBefore x.1 y.1=true) (p:=fun y:List UInt8×List UInt8=>bytesBefore y.1 [100]) (fun x y h1 h2=>WideShapes.bytes_trans _ _ _ h1 h2) hr;obtain⟨X,hX⟩: ∃X,l.filter (fun y=>bytesBefore y.1 [99])=X:=⟨_,rfl⟩
 obtain⟨R,hR⟩: ∃R,l.filter (fun y=>!bytesBefore y.1 [99])=R:=⟨_,rfl⟩
 obtain⟨M,hM⟩: ∃M,R.filter (fun y=>bytesBefore y.1 [100])=M:=⟨_,rfl⟩
 obtain⟨Z,hZ⟩: ∃Z,R.filter (fun y=>!bytesBefore y.1 [100])=Z:=⟨_,rfl⟩
 rw[hX,hR] at Q;rw[hR,hM,hZ] at p2;rw[p2] at Q;have mX: ∀y,y∈X↔y∈l/\bytesBefore y.1 [99]=true:=fun y=>by rw[<-hX,List.mem_filter]
 have mR: ∀y,y∈R↔y∈l/\bytesBefore y.1 [99]=false:=fun y=>by rw[<-hR,List.mem_filter];simp
 have mM: ∀y,y∈M↔y∈l/\bytesBefore y.1 [99]=false/\bytesBefore y.1 [100]=true:=fun y=>by rw[<-hM,List.mem_filter,mR];simp[and_assoc]
 have mZ: ∀y,y∈Z↔y∈l/\bytesBefore y.1 [99]=false/\bytesBefore y.1 [100]=false:=fun y=>by rw[<-hZ,List.mem_filter,mR];simp[and_assoc]
 have o: ∀n∈st.m.L.flatten,0<=n/\n<=999999:=fun n D=>by have:=h.range D;omega
 have S: ∀y,y∈X\/y∈Z->y.1=mapN\/ ∃n∈st.m.L.flatten,y.1=q0C 116 n\/y.1=q0C 98 n:=fun y b=>by
  have hl:y∈l:=b.elim (fun h=>((mX y).1 h).1) fun h=>((mZ y).1 h).1
  rcases h.only y.1 (N y hl) with e|e|⟨k,G,e⟩
  ·exact .inl e
  ·exact .inr e
  ·exfalso
   obtain⟨_,b2,b3⟩:=q6b G;rcases b with b|b
   ·have:=((mX y).1 b).2;rw[e,b3] at this;cases this
   ·have:=((mZ y).1 b).2.2;rw[e,b2] at this;cases this
 have b0: ∀y∈M,∃k:Nat,k<=999999/\y.1=q0C 99 (k:Int):=fun y b=>by
  obtain⟨hl,q1,q2⟩:=(mM y).1 b;rcases h.only y.1 (N y hl) with e|⟨n,D,e|e⟩|e
  ·rw[e,before_map.1] at q2;cases q2
  ·rw[e,(z2b (o n D)).2.1] at q2;cases q2
  ·rw[e,(z2b (o n D)).1] at q1;cases q1
  ·exact e
 have O:=d;rw[Q] at O;obtain⟨oX,g0,_⟩:=List.pairwise_append.1 O;obtain⟨oM,oZ,_⟩:=List.pairwise_append.1 g0;have a0:M=q4w 0 C:=y1c oM (z5N C 0 (by have:=U.few;omega)) fun nm=>by
  by_cases J: ∃k:Nat,k<=999999/\nm=q0C 99 (k:Int)
  ·obtain⟨k,G,rfl⟩:=J
   rw[z5M U.few G,<-hc k G,<-I];obtain⟨_,b2,b3⟩:=q6b G;rw[Q,q0q fun y b e=>?_,q1g fun y b e=>?_]
   ·have:=((mZ y).1 b).2.2;rw[show y.1=q0C 99 (k:Int) from e,b2] at this;cases this
   ·have:=((mX y).1 b).2;rw[show y.1=q0C 99 (k:Int) from e,b3] at this;cases this
  ·rw [q0f fun y b e=>J (by obtain⟨k,G,e2⟩:=b0 y b;exact⟨k,G,by rw[<-e2];exact e.symm⟩),q0f fun y b e=>J (by
    obtain⟨j,h1,h2,h3⟩:=q4I b
    exact⟨j,by have:=U.few;omega,by rw[<-h3];exact e.symm⟩)]
 rw[a0] at Q;have d0:=h.noNew;have j0:q1s l=q2s ⟨X,Z⟩+q1B C:=by
  rw[Q,q1b,q1b,q6d];unfold q2s;simp only;omega
 have i0:l.length=X.length+C.length+Z.length:=by rw[Q];simp[q6E];omega
 refine⟨⟨X,Z⟩,⟨?_,U,⟨fun y b k G=>?_,fun y b k G=>?_,fun y b e=>?_,fun y b hp=>?_,fun y b=>?_,?_⟩⟩,fun nm J=>?_,by omega,by simp only;omega⟩
 ·rw[show c-(q2s ⟨X,Z⟩:Int)+(q2s ⟨X,Z⟩:Int)=c by omega]
  show Pl σ c s (X++(q4w 0 C++Z));rw[<-Q];exact f0
 ·exact WideShapes.bytes_trans _ _ _ ((mX y).1 b).2 (q6b G).1
 ·by_cases q:y.1=[100]
  ·rw[q];exact(q6b G).2.1
  ·rcases WideAt.bytes_total y.1 [100] q with q|q
   ·rw[((mZ y).1 b).2.2] at q;cases q
   ·exact WideShapes.bytes_trans _ _ _ (q6b G).2.1 q
 ·have hl:y∈l:=b.elim (fun h=>((mX y).1 h).1) fun h=>((mZ y).1 h).1
  exact N y hl (by rw[e];exact d0)
 ·rcases S y b with e|⟨n,D,e|e⟩
  ·rw[e] at hp;exact absurd hp (by decide)
  ·rw[e,q2b q9L (o n D)];exact(by decide:(116:UInt8)≠99)
  ·rw[e,q2b y0M (o n D)];exact(by decide:(98:UInt8)≠99)
 ·rcases S y b with e|⟨n,D,e|e⟩
  ·rw[e];decide
  ·rw[e,q0Z (o n D),χ,q0n];decide
  ·rw[e,q0Z (o n D),χ,q0n];decide
 ·have c0:((X++Z).map Prod.fst).Nodup:=by
   have ho:q3g Prod.fst (X++Z):=by
    rw[Q] at d;exact d.sublist (List.Sublist.append (List.Sublist.refl X) (List.sublist_append_right _ _))
   exact List.pairwise_map.2 (z3H ho)
  have hb:=Man.bounds h.man;have:=q8P (m:=mapN::(st.m.L.flatten.map (q0C 116)++st.m.L.flatten.map (q0C 98))) c0 fun x hx=>by
   obtain⟨y,b,rfl⟩:=List.mem_map.1 hx;rcases S y (List.mem_append.1 b) with e|⟨n,D,e|e⟩
   ·rw[e];exact .head _
   ·rw[e];exact .tail _ (List.mem_append.2 (.inl (List.mem_map.2 ⟨n,D,rfl⟩)))
   ·rw[e];exact .tail _ (List.mem_append.2 (.inr (List.mem_map.2 ⟨n,D,rfl⟩)))
  simp only[List.length_map,θ,χ] at this;simp only;omega
 ·rw [<-I,Q]
  show(q0H Prod.fst nm (X++Z)).map Prod.snd=_;have e0: ∀y∈q4w 0 C,Prod.fst y≠nm:=fun y b e=>by
   obtain⟨j,h1,h2,h3⟩:=q4I b;exact J j (by have:=U.few;omega) (by rw[<-h3];exact e.symm)
  unfold q0H;rw[List.find?_append,List.find?_append,List.find?_append];have h0:List.find? (fun y=>Prod.fst y==nm) (q4w 0 C)=none:=q0f e0;rw[h0];simp
theorem PInv.relog(h:PInv st σ c s φ u cnt B)(S: ∀nm,y5J nm->(q0H Prod.fst nm (E.X++E.Z)).map Prod.snd=φ nm)(G:Lgd E σ' (c-(q2s E:Int)) s C')(ho:okD σ'){u' cnt':Nat}(hu:q2s E+q1B C'<=u')(I:E.X.length+C'.length+E.Z.length<=cnt'):
  ∃q,PInv st σ' c s q u' cnt' B/\CksIn q C'/\ ∀nm,y5J nm->q nm=φ nm:=by
 have o:=G.pl;rw[show c-(q2s E:Int)+(q2s E:Int)=c by omega] at o;have b: ∀nm,y5J nm->(q0H Prod.fst nm (q4D E C')).map Prod.snd=φ nm:=fun nm d=>by
  rw[<-S nm d];have O: ∀y∈q4w 0 C',Prod.fst y≠nm:=fun y hy e=>by
   obtain⟨j,h1,h2,h3⟩:=q4I hy;exact d j (by have:=G.ok.few;omega) (by rw[<-h3];exact e.symm)
  unfold q0H q4D;rw[List.find?_append,List.find?_append,List.find?_append];have R:List.find? (fun y=>Prod.fst y==nm) (q4w 0 C')=none:=q0f O;rw[R];simp
 have N: ∀k:Nat,k<=999999->(q0H Prod.fst (q0C 99 (k:Int)) (q4D E C')).map Prod.snd=(C'[k]?).map (q0b k):=fun k r=>by
  rw[<-z5M G.ok.few r];unfold q4D;rw[q0q (G.oth.neX r),q1g (G.oth.neZ r)]
 have J: ∀D:UInt8,(D=116\/D=98)-> ∀n:Int,0<=n/\n<=999999->y5J (q0C D n):=fun D hc n I k r e=>by
  have U:q2N D=true:=by rcases hc with rfl|rfl<;>decide
  have:=(q1w U y3Q I (by omega) e).1;rcases hc with rfl|rfl<;>exact absurd this (by decide)
 have l: ∀n∈st.m.L.flatten,0<=n/\n<=999999:=fun n I=>by have:=h.range I;omega
 refine⟨fun nm=>(q0H Prod.fst nm (q4D E C')).map Prod.snd,⟨⟨q4D E C',o,o.ord ho,fun _=>rfl,by rw[q8h];exact hu,by rw[q8g];exact I⟩,h.man,h.full,fun n e he=>?_,fun nm d=>?_,h.okw,h.okB,h.mem⟩,N,b⟩
 ·obtain⟨Q,t1,⟨y,t2⟩,t3,t4⟩:=h.tb n e he
  exact⟨Q,(b _ (J 116 (.inl rfl) n (l n Q))).trans t1,⟨y,(b _ (J 98 (.inr rfl) n (l n Q))).trans t2⟩,t3,t4⟩
 ·by_cases hc: ∃k:Nat,k<=999999/\nm=q0C 99 (k:Int)
  ·exact .inr (.inr hc)
  ·exact h.only nm (by rw[<-b nm fun k r e=>hc ⟨k,r,e⟩];exact d)
end
end
section
open Go.RowKit Go.Maps
def DkX(wb W:World)(g:Nat)(σ:DM)(K:Nat->Prop):Prop:= ∃F,DkF wb W g F σ K
def q3y :DM->List Int->(Int->Option (List En))->(Int->Option (List En))×Int×DM
 |σ,[],acc=>(acc,0,σ)
 | σ,n::ns,acc=>match q5T σ n with
  |(none,e,τ)=>(acc,e,τ)
  |(some L,_,τ)=>q3y τ ns (fun x=>if x=n then some L else acc x)
def z2Q(wb w:World)(g:Nat)(m:Man)(rate:Nat)(K:Nat->Prop)(σ:DM)(e:Ending)(w':World):Prop:=
 (q0d m.nx m.ck m.L=false/\e= .returned (.tuple #[.pointer none,.int .i64 2])/\DkX wb w' g σ K/\Stay K w w')\/
 (q0d m.nx m.ck m.L=true/\σ.down=true/\e= .returned (.tuple #[.pointer none,.int .i64 61])/\DkX wb w' g σ K/\Stay K w w')\/
 (q0d m.nx m.ck m.L=true/\σ.down=false/\(q3y σ m.L.flatten (fun _=>none)).2.1≠0/\e= .returned (.tuple #[.pointer none,.int .i64 (q3y σ m.L.flatten (fun _=>none)).2.1])/\DkX wb w' g (q3y σ m.L.flatten (fun _=>none)).2.2 K/\Stay K w w')\/
 (q0d m.nx m.ck m.L=true/\σ.down=false/\(q3y σ m.L.flatten (fun _=>none)).2.1=0/\ ∃gx t,e= .returned (.tuple #[.pointer (some ⟨gx,0,none⟩),.int .i64 0])/\
  IxK wb w' g gx ⟨m,rate,[],t,m.L.flatten.length⟩ (q3y σ m.L.flatten (fun _=>none)).2.2 K/\Stay K w w'/\ ∀n,(t n).map TE.L=(q3y σ m.L.flatten (fun _=>none)).1 n)
section
variable {wb w0 w W W1 w1 w2:World}{g gx gm gt B:Nat}{st st1:IxSt}{F Y Y1 K K' V T:Nat->Prop}{σ σ1:DM}{va v v1 v2 vm:Value}{vs:List Value}{ns:List Int}{acc:List (List En)}{M L:List En}
theorem IxI.putO{D:DataW Unit}{G:Nat}(h:IxI w gx g gm gt st v vs vm D G Y){n:Int}{t:Nat}{may:Int->Bool}
  (I:w2.ownsMap Tryz.prog 3 q5s gt (G+1) (D.put (.int .i64 n) (.lit (.int .i64 t))))(d:OffS (fun i=>i=gt) w w2)
  (r:Tb w t g n L may T)(J: ∀i,T i->¬InX gx gm gt i):
  IxI w2 gx g gm gt ⟨st.m,st.rate,st.w,(fun x=>if x=n then some ⟨t,L,may⟩ else st.t x),st.c+1⟩ v vs vm (D.put (.int .i64 n) (.lit (.int .i64 t))) (G+1) (fun i=>Y i\/T i):=by
 have y: ∀i,i<w.heap.size->i≠gt->w2.heap[i]? =w.heap[i]? :=fun i b o=>d.block i b o
 have j: ∀i,(Y i\/T i)->i<w.heap.size/\¬InX gx gm gt i:=fun i b=>by
  rcases b with b|b
  ·exact⟨h.lt i b,h.apart i b⟩
  ·exact⟨r.lt i b,J i b⟩
 have l: ∀i,(Y i\/T i)->w2.heap[i]? =w.heap[i]? :=fun i b=>y i (j i b).1 fun e=>(j i b).2 (.inr (.inr e))
 refine⟨h.blk.same (y _ h.blk.lt h.ne.2.1),?_,q2j h.lev fun i b=>l i (.inl (h.inY i (b.elim .inl fun e=> .inr (.inl e)))),I,Nat.succ_le_succ h.cnt,fun x=>?_,fun x e o=>?_,fun i b=> .inl (h.inY i b),fun i b=>Ψ (j i b).1 d.size,fun i b=>(j i b).2,h.ne⟩
 ·refine h.mem.same fun i b=>?_
  rcases b with rfl|b
  ·exact y _ h.mem.blk.lt h.ne.2.2
  ·exact l i (.inl (h.inY i (.inr (.inr b))))
 ·exact z5o (e:=⟨t,L,may⟩) h.look h.map.isMap x
 ·simp only at o
  by_cases q:x=n
  ·rw[ξ q] at o
   injection o with o;subst o;subst q;exact(r.same d.size fun i b=>l i (.inr b)).mono (fun i b=> .inr b) fun i b=>Ψ (j i b).1 d.size
  ·rw[κ q] at o
   exact((h.tab x e o).same d.size fun i b=>l i (.inl b)).mono (fun i b=> .inl b) fun i b=>Ψ (j i b).1 d.size
theorem z8m(h : DkF wb w g F σ K){m:Man}(hG:Grid w ao m.L.length cap m.L)(E1:m.L.flatten.length<=1000000000)(B1: ∀x∈m.L.flatten,(Lit.int .i64 x).wf=true)(x1:0<=m.sd)(y1:m.sd<18446744073709551616)(rate:Nat):
  Calls Tryz.prog 131 #[.pointer (some ⟨g,0,none⟩),.agg #[.int .i64 m.nx,.int .i64 m.ck,.int .u64 m.sd,.slice ao m.L.length cap],.float .f64 rate] w (z2Q wb w g m rate K σ):=by
 have HD:=η h;have r0:=q0B w (.cells #[.int .i64 m.nx,.int .i64 m.ck,.int .u64 m.sd,.slice ao m.L.length cap] 171);have Y0:=Blk.new w 171 #[.int .i64 m.nx,.int .i64 m.ck,.int .u64 m.sd,.slice ao m.L.length cap];have U:=η (q7y (h.d.ext r0) [] (by decide));have hc: ∃z c,q1l σ []=(z,c)/\(c==1)=false/\((c==61)=σ.down)/\(σ.down=true->c=61):=by
  unfold q1l
  cases σ.down with
  |true=>exact⟨_,_,rfl,rfl,rfl,fun _=>rfl⟩
  | false=>
   simp only[Bool.false_eq_true,if_false]
   split
   ·exact⟨_,_,rfl,rfl,rfl,fun h=>by cases h⟩
   ·exact⟨_,_,rfl,rfl,rfl,fun h=>by cases h⟩
 obtain⟨z,c,hz,r1,E0,F0⟩:=hc;rw[hz] at U;have HV:=η (z1l m.nx m.ck m.sd ao m.L.length cap m.L _ (hG.ext r0) (by omega) B1);have HG:=η hG;have g0:=η r0;have I:=η Y0;obtain⟨w1,A1⟩: ∃w1,w.alloc (.cells #[.int .i64 m.nx,.int .i64 m.ck,.int .u64 m.sd,.slice ao m.L.length cap] 171)=w1:=⟨_,rfl⟩
 rw[A1] at U HV g0 I;obtain⟨p,hp⟩: ∃p,w.heap.size=p:=⟨_,rfl⟩
 have HP:=η hp;rw[hp] at I;have b0:w1.cell? ⟨p,0,none⟩=some (.int .i64 m.nx):=I.o.cell 0;have b1:w1.cell? ⟨p,1,none⟩=some (.int .i64 m.ck):=I.o.cell 1;have b2:w1.cell? ⟨p,2,none⟩=some (.int .u64 m.sd):=I.o.cell 2;have b3:w1.cell? ⟨p,3,none⟩=some (.slice ao m.L.length cap):=I.o.cell 3;have J0:=@run_makeMap Tryz.prog;clear h r0 Y0 hz hG
 cases hv:q0d m.nx m.ck m.L with
 | false=>
  rw[hv] at HV;have X:=η hv;clear hv;go_enter Tryz.func131,Tryz.ntmps131;go_wp2_with fail;refine U.o.mono ?_;rintro e w2 ⟨rfl,rfl⟩;go_wp2_with fail;refine HV.o.mono ?_;rintro e w2 ⟨rfl,l⟩;have y:=η (g0.o.trans l);clear l;go_wp2_with fail;go_ret2;exact .inl ⟨X.o,rfl,⟨F,HD.o.grow y.o⟩,fun i b=>y.o.block i (HD.o.k i b).1⟩
 | true =>
  rw[hv] at HV;have X:=η hv;clear hv
  cases hdn:σ.down with
  | true=>
   rw[hdn] at E0;obtain rfl:=F0 hdn;have m0:=η hdn;clear hdn F0;go_enter Tryz.func131,Tryz.ntmps131;go_wp2_with fail;refine U.o.mono ?_;rintro e w2 ⟨rfl,rfl⟩;go_wp2_with fail;refine HV.o.mono ?_;rintro e w2 ⟨rfl,l⟩;have y:=η (g0.o.trans l);clear l;go_wp2_with fail;go_ret2;exact .inr (.inl ⟨X.o,m0.o,rfl,⟨F,HD.o.grow y.o⟩,fun i b=>y.o.block i (HD.o.k i b).1⟩)
  | false =>
   rw[hdn] at E0;have m0:=η hdn;have k0:m.ok:=⟨X.o,x1,y1⟩
   have q0:=Man.bounds k0;clear hdn F0;go_enter Tryz.func131,Tryz.ntmps131;go_wp2_with fail;refine U.o.mono ?_;rintro e w2 ⟨rfl,rfl⟩;go_wp2_with fail;refine HV.o.mono ?_;rintro e w2 ⟨rfl,l⟩;have y:=η (g0.o.trans l);have b0:=q0A l b0;have b1:=q0A l b1;have b2:=q0A l b2;have b3:=q0A l b3;have M0:=η (I.o.ext l);clear l;go_wp2_with fail;refine(q8M m.nx m.ck m.sd ao m.L.length cap m.L w2 (HG.o.ext y.o) (fun i=>by have:=q0.2.2.1 i;omega) (by omega)).mono ?_;rintro e w3 ⟨v3,t0,rfl,l0,W0⟩;have A0:=η l0;have o0:=η W0;obtain⟨a3,k3,rfl⟩:=l0.own.slice;clear l0 W0;go_wp2_with fail;refine(y5C w3).mono ?_;rintro e S ⟨gm,rfl,J,t1,D0⟩;have z0:=η J;have p0:=η D0;have b3:=q0A D0 (q0A o0.o b3);clear J D0;obtain⟨O,h0⟩: ∃O,(S.alloc (.map #[] 0)).alloc (.cells #[.pointer (some ⟨g,0,none⟩),.int .i64 m.nx,.int .i64 m.ck,.int .u64 m.sd,.slice a3 m.L.length k3,.float .f64 rate,.pointer (some ⟨gm,0,none⟩),.map (some S.heap.size)] 175)=O:=⟨_,rfl⟩
   have Z:Hd (Ext S O):=η (h0▸q7m _ _ _)
   have L0:Hd (Blk O (S.heap.size+1) 175 #[.pointer (some ⟨g,0,none⟩),.int .i64 m.nx,.int .i64 m.ck,.int .u64 m.sd,.slice a3 m.L.length k3,.float .f64 rate,.pointer (some ⟨gm,0,none⟩),.map (some S.heap.size)]):=η (by
    have h:=Blk.new (S.alloc (.map #[] 0)) 175 #[.pointer (some ⟨g,0,none⟩),.int .i64 m.nx,.int .i64 m.ck,.int .u64 m.sd,.slice a3 m.L.length k3,.float .f64 rate,.pointer (some ⟨gm,0,none⟩),.map (some S.heap.size)];rw[ρ,h0] at h
    exact h)
   have P0:Hd (O.ownsMap Tryz.prog 3 q5s S.heap.size 0 (.map [])):=η (h0▸(World.ownsMap_made (H:=Unit) S Tryz.prog 3 q5s).alloc _);have m1:Hd (O.heap.size=S.heap.size+2):=η (by rw[<-h0,ρ,ρ]);have n1:=q0A Z.o b3;have a0:=η (((y.o.trans o0.o).trans p0.o).trans Z.o);have s1:gm<S.heap.size:=z0.o.blk.lt
   have O0:Hd (IxK wb O g (S.heap.size+1) ⟨m,rate,[],(fun _=>none),0⟩ σ K):=η (by
    have hD:=HD.o;have F1:=y.o.size;have G1:=o0.o.size;have H1:=p0.o.size;have J1:=hD.ext.size;have u1:OGr O w2.heap.size 57 3 (.slice a3 m.L.length k3) t0 m.L:=(A0.o.ext p0.o).ext Z.o;have D: ∀i,((Value.slice a3 m.L.length k3).ownBlock=some i\/ ∃q,(t0.getD q (.slice none 0 0)).ownBlock=some i)->w2.heap.size<=i/\i<w3.heap.size:=fun i b=>q5S A0.o i b
    refine⟨F,gm,S.heap.size,fun i=>((Value.slice a3 m.L.length k3).ownBlock=some i\/ ∃q,(t0.getD q (.slice none 0 0)).ownBlock=some i),⟨hD.d.ext a0.o,⟨⟨k0,okM.nil,υ _⟩,.slice a3 m.L.length k3,t0,.slice none 0 0,.map [],0,⟨L0.o,z0.o.ext Z.o,q7A u1 (υ _),P0.o,ι _,fun n=>rfl,fun n e he=>(by cases he),fun i b=>?_,fun i b=>Ψ (D i b).2 (by have:=Z.o.size;omega),fun i b hx=>?_,⟨by omega,by omega,by omega⟩⟩⟩,fun i b=>?_⟩,hD.bF,fun i b=>?_,fun i b=>by have:=D i b;omega,hD.ext.trans a0.o,fun i b=>?_⟩
    ·rcases b with b|b|b
     ·exact .inl b
     ·exact .inr b
     ·cases b
    ·have h1:=D i b
     rcases hx with rfl|rfl|rfl<;>omega
    ·have h1:=hD.d.Flt i b
     exact⟨fun hx=>by rcases hx with rfl|rfl|rfl<;>omega,fun hy=>by have:=D i hy;omega⟩
    ·rcases b with rfl|rfl|rfl<;>omega
    ·have h1:=hD.k i b
     have h2:=a0.o.size
     exact⟨by omega,h1.2,fun hx=>by rcases hx with rfl|rfl|rfl<;>omega,fun hy=>by have:=D i hy;omega⟩)
   have K0:=η (z2X ao m.L.length cap m.L O (HG.o.ext a0.o) (by omega));have p1: ∀i,K i->i<w.heap.size:=fun i b=>(HD.o.k i b).1
   have f0:Hd (Stay K w O):=η fun i b=>a0.o.block i (p1 i b)
   clear J0;have J0:=@run_makeMap Tryz.prog;go_wp2_with fail;refine K0.o.mono ?_;rintro e w5 ⟨va,rfl,Q,X0⟩;obtain⟨aa,ka,rfl⟩:=Q.slice;obtain⟨ns,d0⟩: ∃ns,m.L.flatten=ns:=⟨_,rfl⟩
   have l1:=η d0;rw[d0] at Q;have y0:=η (LsW.start O0.o (W:=w5) X0 Q);rw[d0];obtain⟨R,hR⟩: ∃R,q3y σ ns (fun _=>none)=R:=⟨_,rfl⟩
   have HR:=η hR
   have u0:Hd (∀e w',((R.2.1≠0/\e= .returned (.tuple #[.pointer none,.int .i64 R.2.1])/\DkX wb w' g R.2.2 K/\Stay K O w')\/(R.2.1=0/\ ∃gx t,e= .returned (.tuple #[.pointer (some ⟨gx,0,none⟩),.int .i64 0])/\IxK wb w' g gx ⟨m,rate,[],t,ns.length⟩ R.2.2 K/\Stay K O w'/\ ∀n,(t n).map TE.L=R.1 n))->z2Q wb w g m rate K σ e w'):=η (by
    intro e w' h;unfold z2Q;rw[d0,hR];rcases h with⟨q1,q2,q3,q4⟩|⟨q1,gx,t,q2,q3,q4,q5⟩
    ·exact .inr (.inr (.inl ⟨X.o,m0.o,q1,q2,q3,f0.o.trans q4⟩))
    ·exact .inr (.inr (.inr ⟨X.o,m0.o,q1,gx,t,q2,q3,f0.o.trans q4,q5⟩)))
   obtain⟨n,hn⟩: ∃n,ns.length=n:=⟨_,rfl⟩
   have e0:=η hn;have D1:n<=40:=by rw[<-hn,<-d0];exact q0.2.1
   have j1:=η q0;obtain⟨gx,G0⟩: ∃gx,S.heap.size+1=gx:=⟨_,rfl⟩
   rw[hn] at y0;rw[G0] at y0;rw[hn];simp only[G0];clear Q X0 d0 hn K0 g0 y o0 p0 Z L0 P0 m1 n1 b0 b1 b2 b3 a0 O0 z0 A0 J0 hR q0 HV U HG I M0 HP f0 r1 E0 h0 s1 t1 G0;go_wp2_with fail
   go_loopw [44] (fun i W=> ∃(k:Nat) (t:Int->Option TE) (acc:Int->Option (List En)) (τ:DM),k<=n/\i= .int .i64 (k:Int)/\LsW wb O W g gx ⟨m,rate,[],t,k⟩ τ K (.slice aa n ka) (.slice none 0 0) [] ns [] O.heap.size/\(∀x,(t x).map TE.L=acc x)/\q3y τ (ns.drop k) acc=R) (fun i _=>n-(intOf i).toNat)
   case atStart=>exact⟨0,fun _=>none,fun _=>none,σ,υ _,rfl,y0.o,fun x=>rfl,HR.o⟩
   case round =>
    obtain⟨k,tt,acc,τ,hk,rfl,d1,g1,j⟩:=hrel;have HL:=η d1;have Q0:=η j;have R0:=η g1;clear d1 j g1;by_cases D:k<n
    ·have hd:decide ((k:Int)<(n:Int))=true:=ζ (by omega)
     have q1:IntKind.i64.wrap ((k:Int)+1)=(k:Int)+1:=by rw[ν];omega
     have q5:(k:Int)<(n:Int):=by omega
     obtain⟨_,_,ea,H0⟩:=q2H HL.o.all;rw[e0.o] at ea
     cases ea;rw[e0.o] at H0;obtain⟨ba,oa,rfl,n0⟩:=H0.at D;have I0:k<ns.length:=by rw[e0.o];exact D
     have i0:ns.drop k=ns.getD k 0::ns.drop (k+1):=by
      rw[List.drop_eq_getElem_cons I0,δ,γ I0];rfl
     have J:ns.getD k 0∈m.L.flatten:=by rw[l1.o];exact q3j ns k I0
     have j:=Q0.o;rw[i0] at j;have i1:=(j1.o.2.2.2.1 _ J).1;generalize ns.getD k 0=nk at*;rw[q3y] at j;obtain⟨F2,o1,T0,Y2,h2⟩:=HL.o.i;have B0:=η (z9Y h2.i.d nk);have N0:=η h2;obtain⟨r,hr⟩: ∃r,q5T τ nk=r:=⟨_,rfl⟩
     rw[hr] at j B0;obtain⟨o,c,C1⟩:=r;clear H0 i0 J h2
     cases o with
     | none=>
      simp only at j;have hc:=z1p hr;have g2:(c !=0)=true:=by simpa using hc
      have C0:=η j;have HC:=η hc;clear hr j hc;go_wp2_with fail;refine B0.o.mono ?_;rintro e3 w3 ⟨rfl,c0⟩;obtain⟨h3,N⟩:=N0.o.disk c0
      have HE:Hd (z2Q wb w g m rate K σ (.returned (.tuple #[.pointer none,.int .i64 c])) w3):=η (u0.o _ _ (.inl (by
       rw[<-C0.o]
       exact⟨HC.o,rfl,⟨_,h3.i.d,h3.bF,h3.ext,fun i b=>⟨(h3.k i (.inl b)).1,(h3.k i (.inl b)).2.1⟩⟩,HL.o.stay.trans fun i b=>N i (.inl b)⟩)))
      clear c0 h3 N;go_wp2_with fail;go_ret2;exact HE.o
     | some L=>
      simp only at j;obtain rfl:=z0o hr;have C0:=η j;clear hr j;go_wp2_with fail;refine B0.o.mono ?_;rintro e3 w7 ⟨t,may,T,w6,rfl,c0,s0,f1,hT⟩;obtain⟨h3,N⟩:=N0.o.disk c0;have h7:=h3.grow s0;have v0:Stay (fun i=>K i\/z3o (.slice (some ⟨ba,oa,none⟩) n ka) (.slice none 0 0) [] i) wr w7:=N.trans (h3.kExt s0);obtain⟨e1,v7,M1,L1,D7,K1,j0⟩:=h7.i.x;have c7:=j0.c7;have Z0:=j0.cnt;simp only at Z0;obtain⟨w8,z1,U0,a1⟩:=j0.map.update Tryz.keyInt Tryz.underlying173 (by unfold maxLen;omega) (keyOf_int_mk Tryz.underlying3 i1) (z1u t);have G:OffS (fun i=>i=T0) w7 w8:=OffS.grown a1 fun i b=>by injection b with b;exact b.symm
      have V0: ∀i,T i->¬InX gx o1 T0 i:=fun i b hx=>by have:=hT i b;have:=h3.i.x.xlt i hx;omega
      have c1:=j0.putO U0 G f1 V0
      obtain⟨h8,x0⟩:=h7.turnV (K:=fun i=>K i\/z3o (.slice (some ⟨ba,oa,none⟩) n ka) (.slice none 0 0) [] i) (st1:=⟨m,rate,[],(fun x=>if x=nk then some ⟨t,L,may⟩ else tt x),k+1⟩) (Y1:=fun i=>Y2 i\/T i) ⟨⟨k0,okM.nil,by show k+1<=1000000;omega⟩,_,_,_,_,_,c1⟩ (G.mono fun i _ b=> .inr (.inr b)) (fun i b=>by
       rcases b with b|b
       ·exact⟨h7.bY i b,fun hf=>(h7.i.ap i hf).2 b⟩
       ·have h9:=hT i b
        exact⟨by have:=h3.ext.size;omega,fun hf=>by have:=h3.i.d.Flt i hf;omega⟩) (fun i b=>⟨b,fun hy=>by
       rcases hy with hy|hy
       ·exact(h7.k i b).2.2.2 hy
       ·have:=hT i hy;have:=(h3.k i b).1;omega⟩)
      have k1:=η (HL.o.step ⟨_,_,_,_,h8⟩ (v0.trans x0) (by have:=c0.off.size;have:=s0.size;have:=G.size;omega));have S0:Hd (∀x,(if x=nk then some (⟨t,L,may⟩:TE) else tt x).map TE.L=if x=nk then some L else acc x):=η fun x=>by
       by_cases hx:x=nk
       ·rw[ξ hx,ξ hx];rfl
       ·rw[κ hx,κ hx];exact R0.o x
      have I1:=η z1;clear c0 h3 N h7 v0 e1 j0 U0 a1 G V0 c1 h8 x0 f1 hT s0 Z0;go_wp2_with fail
      go_roundw
      case rel=>exact⟨k+1,_,_,C1,D,by go_num,k1.o,S0.o,C0.o⟩
      case measure=>simp[intOf];omega
    ·obtain rfl:k=n:=by omega
     have hd:decide ((k:Int)<(k:Int))=false:=ε (by omega);have j:=Q0.o;rw[List.drop_of_length_le (by rw[e0.o];exact ι _),q3y] at j
     have HE:Hd (z2Q wb w g m rate K σ (.returned (.tuple #[.pointer (some ⟨gx,0,none⟩),.int .i64 0])) wr):=η (u0.o _ _ (.inr (by
      rw[<-j]
      exact⟨rfl,gx,tt,rfl,by rw[e0.o];exact HL.o.i.beside fun i b=> .inl b,HL.o.stay,R0.o⟩)))
     clear j;go_wp2_with fail;go_ret2;exact HE.o
end
end
section
open Go.RowKit
theorem y3I(b:Nat): ∃x:Int,∀w:World,Calls Tryz.prog 151 #[.float .f64 b] w fun e w'=>e= .returned (.int .u64 x)/\w=w':=by
 by_cases h:((b:Int)<9223372036854775808)
 ·have j:decide ((9223372036854775808:Int)<=(b:Int))=false:=ε (by omega)
  refine⟨(b:Int)+9223372036854775808,fun w=>?_⟩;have d:=q5M;go_enter Tryz.func151,Tryz.ntmps151;go_wp2_with fail;go_ret;exact⟨rfl,rfl⟩
 ·have j:decide ((9223372036854775808:Int)<=(b:Int))=true:=ζ (by omega)
  refine⟨IntKind.u64.wrap (18446744073709551615-(b:Int)),fun w=>?_⟩;have d:=q5M;go_enter Tryz.func151,Tryz.ntmps151;go_wp2_with fail;go_ret;exact⟨rfl,rfl⟩
theorem y1n(b:Nat)(w:World):Calls Tryz.prog 104 #[.float .f64 b,.float .f64 b] w fun e w'=>e= .returned (.bool true)/\w=w':=by
 obtain⟨x,j⟩:=y3I b;have d:=η j;clear j;go_enter Tryz.func104,Tryz.ntmps104;go_wp2_with fail;refine(d.o _).mono ?_;rintro e w1 ⟨rfl,rfl⟩;go_wp2_with fail;refine(d.o _).mono ?_;rintro e w1 ⟨rfl,rfl⟩;go_wp2_with fail;go_ret;exact⟨by simp,rfl⟩
theorem y1o(e:Ev)(w:World):Calls Tryz.prog 57 #[evV e,evV e] w fun r w'=>r= .returned (.bool true)/\Ext w w':=by
 obtain⟨ty,da,we⟩:=e;have l:=q0B w (.cells #[.string ⟨ty.toArray⟩,.string ⟨da.toArray⟩,.float .f64 we] 97);have j:=q0B (w.alloc (.cells #[.string ⟨ty.toArray⟩,.string ⟨da.toArray⟩,.float .f64 we] 97)) (.cells #[.string ⟨ty.toArray⟩,.string ⟨da.toArray⟩,.float .f64 we] 97);have q:=η (l.trans j);have d:=(Blk.new w 97 #[.string ⟨ty.toArray⟩,.string ⟨da.toArray⟩,.float .f64 we]).ext j;have b:=Blk.new (w.alloc (.cells #[.string ⟨ty.toArray⟩,.string ⟨da.toArray⟩,.float .f64 we] 97)) 97 #[.string ⟨ty.toArray⟩,.string ⟨da.toArray⟩,.float .f64 we];rw[ρ] at b;have k0:=d.cell 0;have k1:=d.cell 1;have I:=d.cell 2;have y:=b.cell 0;have D:=b.cell 1;have G:=b.cell 2;clear l j d b;unfold evV;go_enter Tryz.func57,Tryz.ntmps57;go_wp2_with fail;refine(y1n we _).mono ?_;rintro e w1 ⟨rfl,rfl⟩;go_wp2_with fail;go_ret;exact⟨rfl,q.o⟩
theorem y1y(t:To)(w:World):Calls Tryz.prog 61 #[toV t,toV t] w fun r w'=>r= .returned (.bool true)/\Ext w w':=by
 obtain⟨s,v,⟨ty,da,we⟩⟩:=t;have l:=q0B w (.cells #[.string ⟨s.toArray⟩,.int .i64 v,.string ⟨ty.toArray⟩,.string ⟨da.toArray⟩,.float .f64 we] 99);have j:=q0B (w.alloc (.cells #[.string ⟨s.toArray⟩,.int .i64 v,.string ⟨ty.toArray⟩,.string ⟨da.toArray⟩,.float .f64 we] 99)) (.cells #[.string ⟨s.toArray⟩,.int .i64 v,.string ⟨ty.toArray⟩,.string ⟨da.toArray⟩,.float .f64 we] 99);have G:=η (l.trans j);have d:=(Blk.new w 99 #[.string ⟨s.toArray⟩,.int .i64 v,.string ⟨ty.toArray⟩,.string ⟨da.toArray⟩,.float .f64 we]).ext j;have b:=Blk.new (w.alloc (.cells #[.string ⟨s.toArray⟩,.int .i64 v,.string ⟨ty.toArray⟩,.string ⟨da.toArray⟩,.float .f64 we] 99)) 99 #[.string ⟨s.toArray⟩,.int .i64 v,.string ⟨ty.toArray⟩,.string ⟨da.toArray⟩,.float .f64 we];rw[ρ] at b;have k0:=d.cell 0;have k1:=d.cell 1;have R:=d.cell 2;have S:=d.cell 3;have U:=d.cell 4;have I:=b.cell 0;have J:=b.cell 1;have N:=b.cell 2;have O:=b.cell 3;have Q:=b.cell 4;have D:=η (fun W=>y1o ⟨ty,da,we⟩ W);clear l j d b;unfold toV;go_enter Tryz.func61,Tryz.ntmps61;go_wp2_with fail;refine(D.o _).mono ?_;rintro e w1 ⟨rfl,y⟩;have q:=η (G.o.trans y);clear y;go_wp2_with fail;go_ret;exact⟨rfl,q.o⟩
theorem y4F{T:List To}(w:World)(l:Tos w ao n cap T)(q:Tos w bo n cap' T):
  Calls Tryz.prog 25 #[.slice ao n cap,.slice bo n cap'] w fun r w'=>r= .returned (.bool true)/\Ext w w':=by
 have I:=η l;have J:=η q;have b1:=l.fits;have b2:=l.bound;have b3:=q.fits;have b4:=q.bound;clear l q;go_enter Tryz.func25,Tryz.ntmps25;go_wp2_with fail
 go_loopw [5] (fun i W=> ∃k:Nat,k<=n/\i= .int .i64 (k:Int)/\Ext w W) (fun i _=>n-(intOf i).toNat)
 case atStart=>exact⟨0,υ _,rfl,Ext.refl _⟩
 case round=>
  obtain⟨k,hk,rfl,d⟩:=hrel;have G:=η d;by_cases b:k<n
  ·have Q:decide ((k:Int)<(n:Int))=true:=ζ (by omega)
   have R:(k:Int)<(n:Int):=by omega
   have q8:IntKind.i64.wrap ((k:Int)+1)=(k:Int)+1:=by rw[ν];omega
   obtain⟨Z,N,rfl,a0,a1,S,U,X⟩:=(I.o.ext (d.trans (Ext.refl _).drew)).at b;obtain⟨bb,O,rfl,c0,c1,c2,c3,c4⟩:=(J.o.ext (d.trans (Ext.refl _).drew)).at b;generalize T.getD k to0=t at*;have D:=η (y1y t);unfold toV at D;clear d;go_wp2_with fail
   go_region_law (go_simp;first|(go_at_call 61;refine(D.o _).mono ?_;rintro e wa ⟨rfl,j⟩;have y:=η ((G.o.trans (Ext.refl _).drew).trans j);clear j))
   all_goals
    go_wp2_with fail
    go_roundw
    case rel=>exact⟨k+1,by omega,by go_num,y.o⟩
    case measure=>simp[intOf];omega
  ·obtain rfl:k=n:=by omega
   have Q:decide ((k:Int)<(k:Int))=false:=ε (by omega);clear d;go_wp2_with fail;go_ret;exact⟨rfl,G.o⟩
end
end Go.Proofs.YtjlcdfpbllobaaaGreatDoor
