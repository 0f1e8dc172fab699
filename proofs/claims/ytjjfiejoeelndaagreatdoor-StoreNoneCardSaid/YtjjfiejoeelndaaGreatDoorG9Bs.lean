/- Plain laws: records and chunks of a log, as bytes. Walks: records, and what a chunk begins with. Walks: the record at a place. Walks: a chunk's head; does a record find room; does a text begin with another one. Plain laws: a log in chunks on a disk that is well. Plain laws: the records of a log, in order. -/
import Derived.Test.YtjjfiejoeelndaaGreatDoorG3Bs
import Derived.Test.YtjjfiejoeelndaaGreatDoorG7Bs
import Derived.Test.YtjjfiejoeelndaaGreatDoorG8Bs
import Derived.Test.YtjjfiejoeelndaaGreatDoorChecked
set_option linter.unusedVariables false
set_option linter.unusedSimpArgs false
namespace Go.Proofs.YtjjfiejoeelndaaGreatDoor
open Go.RowKit
theorem q3F (a b:List UInt8):(⟨a.toArray⟩:ByteArray)++⟨b.toArray⟩=⟨(a++b).toArray⟩:=by rw[ByteArray.mk_append_mk];first|done|simp
def q2C (p:List UInt8):List UInt8:=q1H (be 4 p.length++p)++be 4 p.length
def q3r (s:List UInt8) (a:Nat):Nat:=q1A ((s.drop a).take 4)
def isR (s:List UInt8) (a:Nat):Bool:=
  decide (a+12≤s.length)&&decide (q3r s a≤2000)&&decide (a+q3r s a+12≤s.length)
  &&q1j ((s.drop a).take (q3r s a+8))&&decide ((s.drop (a+q3r s a+8)).take 4=(s.drop a).take 4)
def q4k (s:List UInt8) (a:Nat):Option (List UInt8×Nat):=
  if isR s a then some ((s.drop (a+4)).take (q3r s a),a+q3r s a+12) else none
def q5K :Nat→List UInt8→Nat→List (Nat×Nat)
  |0,_,_=>[]
  | f+1,s,a=>match q4k s a with
    |none=>[]
    |some (_,b)=>(a,b)::q5K f s b
def q0g (s:List UInt8) (a:Nat):List (Nat×Nat):=q5K (s.length+1) s a
def q8c (a:Nat) (l:List (Nat×Nat)):Nat:=(l.getLast?.map Prod.snd).getD a
def q2R (n:Nat):List UInt8:=q1H ([99,104,110,107]++be 4 n)
def q4W (ps:List (List UInt8)):List UInt8:=(ps.map q2C).flatten
def q0R (n:Nat) (ps:List (List UInt8)):List UInt8:=q2R n++q4W ps
def q0J (ps:List (List UInt8)):Nat:=12+(ps.map fun p=>p.length+12).sum
def q1N :Nat→List (List UInt8)→List (Nat×Nat)
  |_,[]=>[]
  |a,p::r=>(a,a+p.length+12)::q1N (a+p.length+12) r
theorem q0z (p:List UInt8):(q2C p).length=p.length+12:=by
  simp only[q2C,List.length_append,q0w,q0H];omega
theorem q2g (n:Nat):(q2R n).length=12:=by simp[q2R,q0w,q0H]
theorem q9T (ps:List (List UInt8)):(q4W ps).length=(ps.map fun p=>p.length+12).sum:=by
  unfold q4W
  induction ps with
  |nil=>rfl
  |cons p r ih=>simp[q0z,ih]
theorem q1D (n:Nat) (ps:List (List UInt8)):(q0R n ps).length=q0J ps:=by
  simp[q0R,q0J,q2g,q9T]
theorem z2v (ps:List (List UInt8)) (p:List UInt8):q4W (ps++[p])=q4W ps++q2C p:=by simp[q4W]
theorem z0V (n:Nat) (ps:List (List UInt8)) (p:List UInt8):q0R n (ps++[p])=q0R n ps++q2C p:=by simp[q0R,z2v]
theorem z3N (n:Nat) (p:List UInt8):q0R n [p]=q2R n++q2C p:=by simp[q0R,q4W]
theorem q2E (ps:List (List UInt8)) (p:List UInt8):q0J (ps++[p])=q0J ps+(p.length+12):=by simp[q0J,List.sum_append];omega
theorem q3y (p:List UInt8):q0J [p]=12+(p.length+12):=by simp[q0J]
theorem z0F {s:List UInt8} {a b:Nat} {p:List UInt8} (h:q4k s a=some (p,b)):
    p.length≤2000∧b=a+p.length+12∧b≤s.length∧p=(s.drop (a+4)).take p.length∧q3r s a=p.length:=by
  unfold q4k at h
  split at h
  case isFalse=>cases h
  case isTrue hi=>
    unfold isR at hi
    simp only[Bool.and_eq_true,decide_eq_true_eq] at hi
    obtain ⟨⟨⟨⟨h1,h2⟩,h3⟩,h4⟩,h5⟩:=hi
    simp only[Option.some.injEq,Prod.mk.injEq] at h
    obtain ⟨rfl,rfl⟩:=h
    have hl:((s.drop (a+4)).take (q3r s a)).length=q3r s a:=by simp;omega
    rw[hl]
    exact ⟨h2,rfl,h3,rfl,rfl⟩
theorem z8Q {α:Type} (pre m post:List α) {a:Nat} (h:a=pre.length):(pre++m++post).drop a=m++post:=by
  subst h;rw[List.append_assoc,List.drop_left]
theorem z2B (pre p post:List UInt8) (hp:p.length≤2000) {a:Nat} (ha:a=pre.length):q4k (pre++q2C p++post) a=some (p,a+p.length+12):=by
  have hd:(pre++q2C p++post).drop a=be 4 p.length++(p++(q7T (q1W (be 4 p.length++p))++(be 4 p.length++post))):=by
    rw[z8Q _ _ _ ha];simp[q2C,q1H]
  have hb:(be 4 p.length).length=4:=q0H 4 _
  have hlow:=q4b (q1W (be 4 p.length++p))
  have hlong:q3r (pre++q2C p++post) a=p.length:=by
    unfold q3r
    rw[hd,List.take_left' hb,q4a]
    omega
  have hlen:(pre++q2C p++post).length=a+(p.length+12)+post.length:=by simp[q0z,ha];omega
  have hi:isR (pre++q2C p++post) a=true:=by
    unfold isR
    rw[hlong]
    simp only[Bool.and_eq_true,decide_eq_true_eq]
    refine ⟨⟨⟨⟨by omega,hp⟩,by omega⟩,?_⟩,?_⟩
    · have e:((pre++q2C p++post).drop a).take (p.length+8)=q1H (be 4 p.length++p):=by
        rw[hd]
        have:be 4 p.length++(p++(q7T (q1W (be 4 p.length++p))++(be 4 p.length++post)))=q1H (be 4 p.length++p)++(be 4 p.length++post):=by simp[q1H]
        rw[this]
        exact List.take_left' (by simp[q0w,hb];omega)
      rw[e]
      unfold q1j
      simp only[Bool.and_eq_true,decide_eq_true_eq,q0w]
      refine ⟨by omega,?_⟩
      have e2:(q1H (be 4 p.length++p)).take ((be 4 p.length++p).length+4-4)=be 4 p.length++p:=by
        unfold q1H;exact List.take_left' (by omega)
      rw[e2]
    · have e:(pre++q2C p++post).drop (a+p.length+8)=be 4 p.length++post:=by
        have:a+p.length+8=a+(p.length+8):=by omega
        rw[this,←List.drop_drop,hd]
        have:be 4 p.length++(p++(q7T (q1W (be 4 p.length++p))++(be 4 p.length++post)))=(be 4 p.length++(p++q7T (q1W (be 4 p.length++p))))++(be 4 p.length++post):=by simp
        rw[this]
        exact List.drop_left' (by simp[hb,hlow];omega)
      rw[e,hd,List.take_left' hb,List.take_left' hb]
  unfold q4k
  rw[if_pos hi,hlong]
  congr 2
  rw[←List.drop_drop,hd]
  have e3:(be 4 p.length++(p++(q7T (q1W (be 4 p.length++p))++(be 4 p.length++post)))).drop 4=p++(q7T (q1W (be 4 p.length++p))++(be 4 p.length++post)):=List.drop_left' hb
  rw[e3]
  exact List.take_left' rfl
theorem z5j (s:List UInt8) (a:Nat) (h:s.length<a+12):q4k s a=none:=by
  unfold q4k isR
  rw[decide_eq_false (by omega)]
  simp
theorem q7r : ∀(ps:List (List UInt8)) (pre:List UInt8) (f a:Nat),(∀p∈ps,p.length≤2000)→a=pre.length→ps.length<f→q5K f (pre++q4W ps) a=q1N a ps
  |[],pre,0,a,_,_,hf=>by simp at hf
  | [],pre,f+1,a,_,ha,_=>by
    unfold q5K
    rw[z5j _ _ (by simp[q4W,ha])]
    rfl
  |p::r,pre,0,a,_,_,hf=>by simp at hf
  | p::r,pre,f+1,a,hp,ha,hf=>by
    have e:pre++q4W (p::r)=pre++q2C p++q4W r:=by simp[q4W]
    rw[e]
    unfold q5K
    rw[z2B pre p (q4W r) (hp p (List.mem_cons_self)) ha]
    show _::q5K f (pre++q2C p++q4W r) (a+p.length+12)=_
    rw[q7r r (pre++q2C p) f _ (fun q hq=>hp q (List.mem_cons_of_mem _ hq)) (by simp[q0z,ha];omega) (by simp at hf;omega)]
    rfl
theorem z7o (ps:List (List UInt8)):12*ps.length≤(ps.map fun p=>p.length+12).sum:=by
  induction ps with
  |nil=>simp
  |cons p r ih=>simp only[List.map_cons,List.sum_cons,List.length_cons];omega
theorem q6b (n:Nat) (ps:List (List UInt8)) (hp: ∀p∈ps,p.length≤2000):q0g (q0R n ps) 12=q1N 12 ps:=by
  unfold q0g
  refine q7r ps (q2R n) _ 12 hp (q2g n).symm ?_
  have:=z7o ps
  show _<(q0R n ps).length+1
  rw[q1D];unfold q0J;omega
theorem q5n : ∀(ps:List (List UInt8)) (p:List UInt8) (a:Nat),q1N a (ps++[p])=q1N a ps++[(a+(ps.map fun p=>p.length+12).sum,a+(ps.map fun p=>p.length+12).sum+p.length+12)]
  |[],p,a=>by simp[q1N]
  | q::r,p,a=>by
    rw[List.cons_append,q1N,q5n r p,q1N,List.cons_append]
    simp only[List.map_cons,List.sum_cons]
    congr 4<;>omega
theorem z1W : ∀(ps:List (List UInt8)) (a:Nat),q8c a (q1N a ps)=a+(ps.map fun p=>p.length+12).sum:=fun ps a=>by
  rcases List.eq_nil_or_concat ps with rfl|⟨r,p,rfl⟩
  · rfl
  · rw[List.concat_eq_append,q5n]
    unfold q8c
    simp only[List.getLast?_append,List.getLast?_singleton,Option.some_or,Option.map_some,Option.getD_some,List.map_append,List.map_cons,List.map_nil,List.sum_append,List.sum_cons,List.sum_nil]
    omega
theorem q2K : ∀(ps:List (List UInt8)) (a:Nat),(q1N a ps).length=ps.length
  |[],_=>rfl
  |p::r,a=>by simp[q1N,q2K r]
theorem z5V (n:Nat) (l:List (List UInt8)) (p:List UInt8) (r:List (List UInt8)) (hp:p.length≤2000):q4k (q0R n (l++p::r)) (q0J l)=some (p,q0J l+p.length+12):=by
  have e:q0R n (l++p::r)=q0R n l++q2C p++q4W r:=by simp[q0R,q4W]
  rw[e]
  exact z2B _ _ _ hp (q1D n l).symm
end Go.Proofs.YtjjfiejoeelndaaGreatDoor
namespace Go.Proofs.YtjjfiejoeelndaaGreatDoor
open Go.RowKit
set_option maxRecDepth 100000
set_option linter.unusedVariables false
set_option maxHeartbeats 1600000
theorem q2p (s:List UInt8) (lo hi:Int) (a b:Nat) (hlo:lo=(a:Int)) (hhi:hi=(b:Int)) (h:a≤b) (h2:b≤s.length) {X:List UInt8} (hX:(s.take b).drop a=X):
    ∀w,(Instr.slice 9 (.string ⟨s.toArray⟩) (some (.int .i64 lo)) (some (.int .i64 hi)) none).run Tryz.prog w= .ok (.string ⟨X.toArray⟩) w:=fun w=>by
  have h3:=run_slice_string (P:=Tryz.prog) w 9 ⟨s.toArray⟩ .i64 .i64 lo hi Tryz.underlying9 (by omega) (by omega) (by simp[ByteArray.size];omega)
  rw[h3,hlo,hhi,←hX]
  show _=Result.ok (Value.string ⟨((s.take b).drop a).toArray⟩) w
  rw[←q2i];rfl
theorem q4O (s:List UInt8) (hi:Int) (b:Nat) (hhi:hi=(b:Int)) (h2:b≤s.length):
    ∀w,(Instr.slice 9 (.string ⟨s.toArray⟩) none (some (.int .i64 hi)) none).run Tryz.prog w= .ok (.string ⟨(s.take b).toArray⟩) w:=fun w=>by
  have h3:=run_slice_string_to_if (P:=Tryz.prog) w 9 ⟨s.toArray⟩ .i64 hi Tryz.underlying9
  have hs:(ByteArray.size ⟨s.toArray⟩)=s.length:=by simp[ByteArray.size]
  rw[h3,hs,if_pos (by omega),hhi]
  show Result.ok (Value.string ((⟨s.toArray⟩:ByteArray).extract 0 b)) w=_
  rw[q2i];rfl
theorem q2l (s:List UInt8) (lo:Int) (a:Nat) (hlo:lo=(a:Int)) (h2:a≤s.length):
    ∀w,(Instr.slice 9 (.string ⟨s.toArray⟩) (some (.int .i64 lo)) none none).run Tryz.prog w= .ok (.string ⟨(s.drop a).toArray⟩) w:=fun w=>by
  have h3:=run_slice_string_from_if (P:=Tryz.prog) w 9 ⟨s.toArray⟩ .i64 lo Tryz.underlying9
  have hs:(ByteArray.size ⟨s.toArray⟩)=s.length:=by simp[ByteArray.size]
  rw[h3,hs,if_pos (by omega),hlo]
  show Result.ok (Value.string ((⟨s.toArray⟩:ByteArray).extract a s.length)) w=_
  rw[q2i,List.take_length]
theorem z4E (k:Nat) (N:Int) (w:World) (hN:N=(k:Int)) (hk:k≤9223372036854775807):
    Calls Tryz.prog 139 #[.int .i64 N] w fun e w'=>e= .returned (.string ⟨(be 4 k).toArray⟩)∧Ext w w':=by
  have h0:0≤N:=by omega
  have h1:N≤9223372036854775807:=by omega
  have hk2:N.toNat=k:=by omega
  have HK:=Lib.hid hk2
  clear hN hk2
  go_enter Tryz.func139,Tryz.ntmps139
  go_wp2_with fail
  refine (q7G N 4 _ (by omega) (by omega) h0 (by omega)).mono ?_
  rintro e w1 ⟨rfl,hb⟩
  have HB:=Lib.hid hb;clear hb
  rw[HK.out]
  go_wp2_with fail
  go_ret
  exact ⟨rfl,HB.out⟩
theorem z4t (p:List UInt8) (w:World) (hp:2000<p.length) (hl:p.length≤9223372036854775807):
    Calls Tryz.prog 84 #[.string ⟨p.toArray⟩] w fun e w'=>e= .returned (.tuple #[.string ⟨#[]⟩,.int .i64 3])∧w=w':=by
  have hd:decide ((2000:Int)<(p.length:Int))=true:=by simp;omega
  go_enter Tryz.func84,Tryz.ntmps84
  go_wp2_with fail
  go_ret2
  exact ⟨rfl,rfl⟩
theorem z6Z (p:List UInt8) (w:World) (hp:p.length≤2000):
    Calls Tryz.prog 84 #[.string ⟨p.toArray⟩] w fun e w'=>e= .returned (.tuple #[.string ⟨(q2C p).toArray⟩,.int .i64 0])∧Ext w w':=by
  have hd:decide ((2000:Int)<(p.length:Int))=false:=by simp;omega
  obtain ⟨n,hn⟩: ∃n:Int,n=(p.length:Int):=⟨_,rfl⟩
  have HR:Hid (q2C p=q1H (be 4 p.length++p)++be 4 p.length):=Lib.hid rfl
  have hb4:(be 4 p.length).length=4:=q0H 4 _
  have hs:(q1H (be 4 p.length++p)).length=p.length+8:=by simp[q0w,hb4];omega
  have HC:=Lib.hid (fun W=>z4E p.length (p.length:Int) W rfl (by omega))
  have HS:=Lib.hid (fun W=>z1v (be 4 p.length++p) W (by simp[hb4];omega))
  go_enter Tryz.func84,Tryz.ntmps84
  go_wp2_with fail
  refine (HC.out _).mono ?_
  rintro e w1 ⟨rfl,hb⟩
  have HB:=Lib.hid hb;clear hb
  generalize be 4 p.length=X at*
  go_wp2_with fail
  have hs2:=HS.out w1
  generalize q1H (X++p)=Y at*
  rw[q3F]
  refine hs2.mono ?_
  rintro e w2 ⟨rfl,hb⟩
  have HB2:=Lib.hid (HB.out.trans hb);clear hb
  go_wp2_with fail
  refine (HC.out _).mono ?_
  rintro e w3 ⟨rfl,hb⟩
  have HB3:=Lib.hid (HB2.out.trans hb);clear hb
  go_wp2_with fail
  go_ret2
  exact ⟨by rw[HR.out,q3F];rfl,HB3.out⟩
end Go.Proofs.YtjjfiejoeelndaaGreatDoor
namespace Go.Proofs.YtjjfiejoeelndaaGreatDoor
open Go.RowKit
set_option maxRecDepth 100000
set_option linter.unusedVariables false
set_option maxHeartbeats 1600000
def q9R (s:List UInt8) (a:Nat):Value:=match q4k s a with
  |none=> .tuple #[.string ⟨#[]⟩,.int .i64 0,.bool false]
  |some (p,b)=> .tuple #[.string ⟨p.toArray⟩,.int .i64 b,.bool true]
theorem q6q {s:List UInt8} {a:Nat} (h:isR s a=false):q9R s a= .tuple #[.string ⟨#[]⟩,.int .i64 0,.bool false]:=by unfold q9R q4k;rw[h];rfl
theorem q5D (s:List UInt8) (a k:Nat):(s.take (a+k)).drop a=(s.drop a).take k:=by rw[List.drop_take];congr 1;omega
theorem q8k (s:List UInt8) (a:Nat) (w:World) (hl:s.length≤4611686018427387903) (ha:a≤4611686018427387903):
    Calls Tryz.prog 99 #[.string ⟨s.toArray⟩,.int .i64 (a:Int)] w fun e w'=>e= .returned (q9R s a)∧Ext w w':=by
  by_cases h1:s.length<a+12
  · have HM:Hid (q9R s a= .tuple #[.string ⟨#[]⟩,.int .i64 0,.bool false]):=Lib.hid (q6q (by unfold isR;rw[decide_eq_false (by omega)];rfl))
    have hd:decide (((s.length:Int)-12)<(a:Int))=true:=by simp;omega
    go_enter Tryz.func99,Tryz.ntmps99
    go_wp2_with fail
    go_ret3
    rw[HM.out]
    exact ⟨rfl,Ext.refl _⟩
  have hd1:decide (((s.length:Int)-12)<(a:Int))=false:=by simp;omega
  obtain ⟨X,hX⟩: ∃X,(s.drop a).take 4=X:=⟨_,rfl⟩
  have hXl:X.length=4:=by rw[←hX];simp;omega
  have hsX:=q2p s (a:Int) ((a:Int)+4) a (a+4) rfl (by omega) (by omega) (by omega) (by rw[q5D,hX])
  obtain ⟨n,hn⟩: ∃n,q3r s a=n:=⟨_,rfl⟩
  have hnX:q1A (X.take 8)=n:=by rw[List.take_of_length_le (by omega),←hX,←hn];rfl
  have hn4:n<4294967296:=by rw[←hnX];have:=q1k (X.take 8);rw[List.length_take,hXl] at this;exact this
  have HG:=Lib.hid (fun W=>q8n X W (by omega))
  rw[hnX] at HG
  by_cases h2:2000<n∨s.length<a+n+12
  · have HM:Hid (q9R s a= .tuple #[.string ⟨#[]⟩,.int .i64 0,.bool false]):=Lib.hid (q6q (by
      unfold isR;rw[hn]
      rcases h2 with h|h
      · rw[decide_eq_false (p:=n≤2000) (by omega)];simp
      · rw[decide_eq_false (p:=a+n+12≤s.length) (by omega)];simp))
    clear hX hn hnX hXl
    by_cases h3:2000<n
    · have hd2:decide ((2000:Int)<(n:Int))=true:=by simp;omega
      go_enter Tryz.func99,Tryz.ntmps99
      go_wp2_with fail
      refine (HG.out _).mono ?_
      rintro e w1 ⟨rfl,hb⟩
      have HB:=Lib.hid hb;clear hb
      go_wp2_with fail
      go_ret3
      rw[HM.out]
      exact ⟨rfl,HB.out⟩
    · have h4:s.length<a+n+12:=by omega
      have hd2:decide ((2000:Int)<(n:Int))=false:=by simp;omega
      have hd3:decide ((s.length:Int)-12-(a:Int)<(n:Int))=true:=by simp;omega
      go_enter Tryz.func99,Tryz.ntmps99
      go_wp2_with fail
      refine (HG.out _).mono ?_
      rintro e w1 ⟨rfl,hb⟩
      have HB:=Lib.hid hb;clear hb
      go_wp2_with fail
      go_ret3
      rw[HM.out]
      exact ⟨rfl,HB.out⟩
  have h5:n≤2000:=by omega
  have h6:a+n+12≤s.length:=by omega
  have hd2:decide ((2000:Int)<(n:Int))=false:=by simp;omega
  have hd3:decide ((s.length:Int)-12-(a:Int)<(n:Int))=false:=by simp;omega
  obtain ⟨Y,hY⟩: ∃Y,(s.drop a).take (n+8)=Y:=⟨_,rfl⟩
  have hYl:Y.length=n+8:=by rw[←hY];simp;omega
  have hsY:=q2p s (a:Int) ((a:Int)+(n:Int)+12-4) a (a+(n+8)) rfl (by omega) (by omega) (by omega) (by rw[q5D,hY])
  obtain ⟨Z,hZ⟩: ∃Z,(s.drop (a+n+8)).take 4=Z:=⟨_,rfl⟩
  have hsZ:=q2p s ((a:Int)+(n:Int)+12-4) ((a:Int)+(n:Int)+12) (a+n+8) (a+n+8+4) (by omega) (by omega) (by omega) (by omega) (by rw[q5D,hZ])
  have HO:=Lib.hid (fun W=>z2M Y W (by omega))
  have hi:isR s a=(q1j Y&&decide (Z=X)):=by
    unfold isR;rw[hn,decide_eq_true (p:=a+12≤s.length) (by omega),decide_eq_true h5,decide_eq_true h6,hY,hZ,hX];simp
  have hpay:q1j Y=true→(q1d Y).drop 4=(s.drop (a+4)).take n:=fun h=>by
    unfold q1d;rw[if_pos h,hYl,←hY,List.take_take,List.drop_take,List.drop_drop]
    congr 1;omega
  have hTl:q1j Y=true→(q1d Y).length=n+4:=fun h=>by
    unfold q1d;rw[if_pos h,List.length_take,hYl];omega
  have hS:q4k s a=if isR s a then some ((s.drop (a+4)).take n,a+n+12) else none:=by unfold q4k;rw[hn]
  have HI:=Lib.hid hi;have HP:=Lib.hid hpay;have HTl:=Lib.hid hTl;have HS:=Lib.hid hS
  clear hX hn hnX hZ hY hYl hi hpay hTl hS h2 h1
  generalize q1d Y=T at*
  cases hb:q1j Y with
  | false=>
    have HM:Hid (q9R s a= .tuple #[.string ⟨#[]⟩,.int .i64 0,.bool false]):=Lib.hid (q6q (by rw[HI.out,hb];rfl))
    rw[hb] at HO
    go_enter Tryz.func99,Tryz.ntmps99
    go_wp2_with fail
    refine (HG.out _).mono ?_
    rintro e w1 ⟨rfl,hb1⟩
    have HB:=Lib.hid hb1;clear hb1
    go_wp2_with fail
    refine (HO.out _).mono ?_
    rintro e w2 ⟨rfl,hb2⟩
    have HB2:=Lib.hid (HB.out.trans hb2);clear hb2
    go_wp2_with fail
    refine q0E (by kernel_rfl) (by kernel_rfl) ?_
    repeat (go_big_quiet_step (fail))
    refine wpQuiet_nil ?_
    intro w3 hw3
    have HB3:=Lib.hid (HB2.out.trans hw3);clear hw3
    go_wp2_with fail
    go_ret3
    rw[HM.out]
    exact ⟨rfl,HB3.out⟩
  | true =>
    by_cases hzx:Z=X
    · have HM:Hid (q9R s a= .tuple #[.string ⟨(T.drop 4).toArray⟩,.int .i64 ((a:Int)+(n:Int)+12),.bool true]):=Lib.hid (by
        unfold q9R
        rw[HS.out,HI.out,hb,hzx,HP.out hb]
        simp)
      have hTlen:=HTl.out hb
      have hsT: ∀w,(Instr.slice 9 (.string ⟨T.toArray⟩) (some (.int .i64 4)) none none).run Tryz.prog w= .ok (.string ⟨(T.drop 4).toArray⟩) w:=fun w=>by
        exact q2l T 4 4 rfl (by omega) w
      rw[hb] at HO
      generalize T.drop 4=T4 at*
      subst hzx
      go_enter Tryz.func99,Tryz.ntmps99
      go_wp2_with fail
      refine (HG.out _).mono ?_
      rintro e w1 ⟨rfl,hb1⟩
      have HB:=Lib.hid hb1;clear hb1
      go_wp2_with fail
      refine (HO.out _).mono ?_
      rintro e w2 ⟨rfl,hb2⟩
      have HB2:=Lib.hid (HB.out.trans hb2);clear hb2
      go_wp2_with fail
      refine q0E (by kernel_rfl) (by kernel_rfl) ?_
      repeat (go_big_quiet_step (fail))
      refine wpQuiet_nil ?_
      intro w3 hw3
      have HB3:=Lib.hid (HB2.out.trans hw3);clear hw3
      go_wp2_with fail
      go_ret3
      rw[HM.out]
      exact ⟨rfl,HB3.out⟩
    · have HM:Hid (q9R s a= .tuple #[.string ⟨#[]⟩,.int .i64 0,.bool false]):=Lib.hid (q6q (by rw[HI.out,decide_eq_false hzx,Bool.and_false]))
      have hne:(Z==X)=false:=by simpa using hzx
      have hne':(Z !=X)=true:=by simpa using hzx
      rw[hb] at HO
      go_enter Tryz.func99,Tryz.ntmps99
      go_wp2_with fail
      refine (HG.out _).mono ?_
      rintro e w1 ⟨rfl,hb1⟩
      have HB:=Lib.hid hb1;clear hb1
      go_wp2_with fail
      refine (HO.out _).mono ?_
      rintro e w2 ⟨rfl,hb2⟩
      have HB2:=Lib.hid (HB.out.trans hb2);clear hb2
      go_wp2_with fail
      refine q0E (by kernel_rfl) (by kernel_rfl) ?_
      repeat (go_big_quiet_step (fail))
      refine wpQuiet_nil ?_
      intro w3 hw3
      have HB3:=Lib.hid (HB2.out.trans hw3);clear hw3
      go_wp2_with fail
      go_ret3
      rw[HM.out]
      exact ⟨rfl,HB3.out⟩
end Go.Proofs.YtjjfiejoeelndaaGreatDoor
namespace Go.Proofs.YtjjfiejoeelndaaGreatDoor
open Go.RowKit
set_option maxRecDepth 100000
set_option linter.unusedVariables false
set_option maxHeartbeats 1600000
theorem z1g (n:Nat) (w:World) (hn:n<200):
    Calls Tryz.prog 146 #[.int .i64 (n:Int)] w fun e w'=>e= .returned (.string ⟨(q2R n).toArray⟩)∧Ext w w':=by
  have hd:decide ((200:Int)≤(n:Int))=false:=by simp;omega
  have HR:Hid (q2R n=q1H ([99,104,110,107]++be 4 n)):=Lib.hid rfl
  have HP:=Lib.hid (fun W=>q7G (n:Int) 4 W (by omega) (by omega) (by omega) (by omega))
  have HS:=Lib.hid (fun W=>z1v ([99,104,110,107]++be 4 n) W (by simp[q0H]))
  have hb4:(be 4 n).length=4:=q0H 4 _
  rw[Int.toNat_natCast] at HP
  generalize q1H ([99,104,110,107]++be 4 n)=Y at*
  generalize be 4 n=X at*
  go_enter Tryz.func146,Tryz.ntmps146
  go_wp2_with fail
  refine (HP.out _).mono ?_
  rintro e w1 ⟨rfl,hb⟩
  have HB:=Lib.hid hb;clear hb
  go_wp2_with fail
  have hcat:=q3F [99,104,110,107] X
  have hcat2:({data:=#[99,104,110,107]}:ByteArray)++{data:=X.toArray}=⟨([99,104,110,107]++X).toArray⟩:=hcat
  rw[hcat2]
  refine (HS.out _).mono ?_
  rintro e w2 ⟨rfl,hb⟩
  have HB2:=Lib.hid (HB.out.trans hb);clear hb
  go_wp2_with fail
  go_ret
  exact ⟨by rw[HR.out];rfl,HB2.out⟩
theorem y0U (N:Int) (p:List UInt8) (w:World) (h0:0≤N) (h1:N≤4096) (hp:p.length≤2000):
    Calls Tryz.prog 85 #[.int .i64 N,.string ⟨p.toArray⟩] w fun e w'=>e= .returned (.bool (decide ((p.length:Int)+12≤4096-N)))∧w=w':=by
  have hd1:decide ((0:Int)≤N)=true:=by simpa using h0
  have hd2:decide (N≤(4096:Int))=true:=by simpa using h1
  have hd3:decide ((p.length:Int)≤(2000:Int))=true:=by simp;omega
  go_enter Tryz.func85,Tryz.ntmps85
  go_wp2_with fail
  go_ret
  exact ⟨rfl,rfl⟩
def z5y (s p:List UInt8):Bool:=decide (p.length≤s.length)&&(s.take p.length==p)
theorem q9q (s p:List UInt8) (w:World) (hl:s.length≤9223372036854775807) (hp:p.length≤9223372036854775807):
    Calls Tryz.prog 196 #[.string ⟨s.toArray⟩,.string ⟨p.toArray⟩] w fun e w'=>e= .returned (.bool (z5y s p))∧w=w':=by
  by_cases h:p.length≤s.length
  · have HM:Hid (z5y s p=(s.take p.length==p)):=Lib.hid (by unfold z5y;rw[decide_eq_true h,Bool.true_and])
    have hd1:decide ((p.length:Int)≤(s.length:Int))=true:=by simp;omega
    go_enter Tryz.func196,Tryz.ntmps196
    go_wp2_with fail
    go_ret
    rw[HM.out]
    exact ⟨rfl,rfl⟩
  · have HM:Hid (z5y s p=false):=Lib.hid (by unfold z5y;rw[decide_eq_false h,Bool.false_and])
    have hd1:decide ((p.length:Int)≤(s.length:Int))=false:=by simp;omega
    go_enter Tryz.func196,Tryz.ntmps196
    go_wp2_with fail
    go_ret
    rw[HM.out]
    exact ⟨rfl,rfl⟩
theorem z1L (s p:List UInt8) (w:World) (hl:s.length≤9223372036854775807) (hp:p.length≤9223372036854775807):
    Calls Tryz.prog 152 #[.string ⟨s.toArray⟩,.string ⟨p.toArray⟩] w fun e w'=>e= .returned (.bool (z5y s p))∧w=w':=by
  go_enter Tryz.func152,Tryz.ntmps152
  go_wp2_with fail
  refine (q9q s p _ hl hp).mono ?_
  rintro e w1 ⟨rfl,rfl⟩
  go_wp2_with fail
  go_ret
  exact ⟨rfl,rfl⟩
end Go.Proofs.YtjjfiejoeelndaaGreatDoor
namespace Go.Proofs.YtjjfiejoeelndaaGreatDoor
open Go.RowKit
theorem q3k : ∀a b:List UInt8,Op.bytesLess a b=bytesBefore a b
  |[],[]=>rfl
  |[],_::_=>rfl
  |_::_,[]=>rfl
  |a::x,b::y=>by unfold Op.bytesLess bytesBefore;rw[q3k x y]
abbrev Cks :=List (List (List UInt8))
def q3l :Nat→Cks→List (List UInt8×List UInt8)
  |_,[]=>[]
  |i,ps::r=>(q0F 99 (i:Int),q0R i ps)::q3l (i+1) r
theorem q4e : ∀(C:Cks) (i:Nat),(q3l i C).length=C.length
  |[],_=>rfl
  |ps::r,i=>by simp[q3l,q4e r]
theorem q2s : ∀(C D:Cks) (i:Nat),q3l i (C++D)=q3l i C++q3l (i+C.length) D
  |[],D,i=>rfl
  | ps::r,D,i=>by
    rw[List.cons_append,q3l,q2s r D (i+1),q3l,List.cons_append,List.length_cons]
    congr 3;omega
theorem q3E : ∀{C:Cks} {i:Nat} {x:List UInt8×List UInt8},x∈q3l i C→ ∃k,i≤k∧k<i+C.length∧x.1=q0F 99 (k:Int)
  |[],_,_,h=>by cases h
  | ps ::r,i,x,h=>by
    rcases List.mem_cons.1 h with rfl|h
    · exact ⟨i,Nat.le_refl _,by simp,rfl⟩
    · obtain ⟨k,h1,h2,h3⟩:=q3E h
      exact ⟨k,by omega,by simp;omega,h3⟩
theorem q2e (n:Int):(q0F 99 n).length≤9223372036854775807:=by
  by_cases h:0≤n∧n≤999999
  · rw[q0U h,List.length_cons,q0b];decide
  · rw[q6D h];decide
theorem z7G {i k:Nat} (hi:i≤999999) (hk:k≤999999) (h:i≠k):q0F 99 (i:Int)≠q0F 99 (k:Int):=fun e=>by
  have:=z6c 99 (i:Int) (k:Int) (by omega) (by omega)
  rw[e,beq_self_eq_true] at this
  have:=of_decide_eq_true this.symm
  omega
theorem q5v {i k:Nat} (hi:i≤999999) (hk:k≤999999) (h:i<k):bytesBefore (q0F 99 (i:Int)) (q0F 99 (k:Int))=true:=by
  have h1:=z3H 99 (i:Int) (k:Int) (by omega) (by omega)
  have h2:decide ((i:Int)<(k:Int))=true:=by simp;omega
  rw[h2] at h1
  rw[←q3k];exact h1
theorem q4v {C:Cks} {i k:Nat} (hk:k≤999999) (hC:i+C.length≤999999) (h: ∀j,i≤j→j<i+C.length→j≠k): ∀y∈q3l i C,Prod.fst y≠q0F 99 (k:Int):=fun y hy=>by
  obtain ⟨j,h1,h2,h3⟩:=q3E hy
  rw[h3]
  exact z7G (by omega) hk (h j h1 h2)
theorem q9S {C:Cks} {k:Nat} {ps:List (List UInt8)} (hC:C.length≤200) (hk:C[k]? =some ps):q0G Prod.fst (q0F 99 (k:Int)) (q3l 0 C)=some (q0F 99 (k:Int),q0R k ps):=by
  obtain ⟨hlt,rfl⟩:=List.getElem?_eq_some_iff.1 hk
  have e:C=C.take k++C[k]::C.drop (k+1):=by
    rw[List.getElem_cons_drop];exact (List.take_append_drop _ _).symm
  have hl:(C.take k).length=k:=by simp;omega
  conv=>lhs;rw[e]
  rw[q2s,hl,Nat.zero_add,q0W]
  · rw[q3l];unfold q0G;rw[List.find?_cons_of_pos (by simp)]
  · exact q4v (by omega) (by rw[hl];omega) fun j _ h2=>by rw[hl] at h2;omega
theorem q9W {C:Cks} {k:Nat} (hC:C.length≤200) (hk:C.length≤k) (hk2:k≤999999):q0G Prod.fst (q0F 99 (k:Int)) (q3l 0 C)=none:=
  q0T (q4v hk2 (by omega) fun j _ h2=>by omega)
theorem z6u {C:Cks} (hC:C.length≤200):q0G Prod.fst [110,101,119] (q3l 0 C)=none:=q0T fun y hy e=>by
  obtain ⟨j,h1,h2,h3⟩:=q3E hy
  rw[e] at h3
  have h4:j<200:=by omega
  rw[q0U (by omega)] at h3
  have h5:=congrArg List.length h3
  have h6:(99::q4Z 6 ((j:Int)).toNat).length=7:=by simp[q0b]
  rw[h6] at h5
  cases h5
theorem q7q : ∀(C:Cks) (i:Nat),(q3l i C).map Prod.fst=(List.range' i C.length).map fun k:Nat=>q0F 99 (k:Int)
  |[],_=>rfl
  |ps::r,i=>by rw[q3l,List.map_cons,q7q r,List.length_cons,List.range'_succ,List.map_cons]
theorem q1C (a b:List (List UInt8×List UInt8)):q2F (a++b)=q2F a+q2F b:=by simp[q2F,q5S,List.sum_append]
theorem z0M (x:List UInt8×List UInt8):q2F [x]=x.2.length:=by simp[q2F,q5S]
theorem z4C {D:Cks} {ps:List (List UInt8)} (p:List UInt8) (hD:D.length≤200):q1I Prod.fst (q0F 99 (D.length:Int)) (fun x=>(x.1,x.2++q2C p)) (q3l 0 (D++[ps]))=q3l 0 (D++[ps++[p]]):=by
  rw[q2s,q2s,q4L,q2j,Nat.zero_add]
  · congr 1
    show q1I Prod.fst (q0F 99 (D.length:Int)) _ [(q0F 99 (D.length:Int),q0R D.length ps)]=[(q0F 99 (D.length:Int),q0R D.length (ps++[p]))]
    rw[z0V]
    unfold q1I
    simp
  · exact q4v (by omega) (by omega) fun j _ h2=>by omega
theorem z2r {C:Cks} (p:List UInt8) (hC:C.length≤200):q1I Prod.fst (q0F 99 (C.length:Int)) (fun x=>(x.1,x.2++(q2R C.length++q2C p))) (q3l 0 C++[(q0F 99 (C.length:Int),[])])=q3l 0 (C++[[p]]):=by
  rw[q2s,q4L,q2j,Nat.zero_add]
  · congr 1
    show q1I Prod.fst (q0F 99 (C.length:Int)) _ [(q0F 99 (C.length:Int),[])]=[(q0F 99 (C.length:Int),q0R C.length [p])]
    rw[z3N]
    unfold q1I
    simp
  · exact q4v (by omega) (by omega) fun j _ h2=>by omega
def q0h (C:Cks):Nat:=(C.map q0J).sum
theorem q5N : ∀(C:Cks) (i:Nat),q2F (q3l i C)=q0h C
  |[],_=>rfl
  | ps::r,i=>by
    have e:q3l i (ps::r)=[(q0F 99 (i:Int),q0R i ps)]++q3l (i+1) r:=rfl
    rw[e,q1C,z0M,q5N r]
    simp[q0h,q1D]
structure okC (C:Cks):Prop where
  few:C.length≤200
  size: ∀ps∈C,q0J ps≤4096
  pay: ∀ps∈C,∀p∈ps,p.length≤2000
  full: ∀ps∈C,ps≠[]
structure Oth where
  X:List (List UInt8×List UInt8)
  Z:List (List UInt8×List UInt8)
def noO :Oth:=⟨[],[]⟩
structure okOth (E:Oth):Prop where
  before: ∀y∈E.X,∀k:Nat,k≤999999→bytesBefore y.1 (q0F 99 (k:Int))=true
  behind: ∀y∈E.Z,∀k:Nat,k≤999999→bytesBefore (q0F 99 (k:Int)) y.1=true
  new: ∀y,y∈E.X∨y∈E.Z→y.1≠[110,101,119]
  kind: ∀y,y∈E.X∨y∈E.Z→(q0s y.1).2.2=true→(q0s y.1).1≠99
  len: ∀y,y∈E.X∨y∈E.Z→y.1.length≤1000
  few:E.X.length+E.Z.length≤190
theorem okOth.no :okOth noO:=⟨(fun _ h=>by cases h),(fun _ h=>by cases h),(fun _ h=>by rcases h with h|h<;>cases h),(fun _ h=>by rcases h with h|h<;>cases h),(fun _ h=>by rcases h with h|h<;>cases h),Nat.zero_le _⟩
def q2B (E:Oth):Nat:=q2F E.X+q2F E.Z
def q2w (E:Oth) (C:Cks):List (List UInt8×List UInt8):=E.X++(q3l 0 C++E.Z)
def z3V (E:Oth) (C:Cks):List (List UInt8×List UInt8):=E.X++(q3l 0 C++((q0F 99 (C.length:Int),[])::E.Z))
theorem q6X (E:Oth) (C:Cks):(q2w E C).length=E.X.length+C.length+E.Z.length:=by simp[q2w,q4e];omega
theorem z1s {a b:List UInt8} (h:bytesBefore a b=true):a≠b:=fun e=>by rw[e,WideAt.bytes_irrefl] at h;cases h
theorem okOth.neX {E:Oth} (h:okOth E) {k:Nat} (hk:k≤999999): ∀y∈E.X,Prod.fst y≠q0F 99 (k:Int):=fun y hy=>z1s (h.before y hy k hk)
theorem okOth.neZ {E:Oth} (h:okOth E) {k:Nat} (hk:k≤999999): ∀y∈E.Z,Prod.fst y≠q0F 99 (k:Int):=fun y hy e=>z1s (h.behind y hy k hk) e.symm
theorem q1L {α:Type} {k:α→List UInt8} {nm:List UInt8} {a b:List α} (h: ∀y∈b,k y≠nm):q0G k nm (a++b)=q0G k nm a:=by
  unfold q0G
  rw[List.find?_append]
  have:List.find? (fun y=>k y==nm) b=none:=q0T h
  rw[this];simp
theorem q3P {E:Oth} (hE:okOth E) {C:Cks} {k:Nat} {ps:List (List UInt8)} (hC:C.length≤200) (hk:C[k]? =some ps):q0G Prod.fst (q0F 99 (k:Int)) (q2w E C)=some (q0F 99 (k:Int),q0R k ps):=by
  have hlt:=(List.getElem?_eq_some_iff.1 hk).1
  unfold q2w
  rw[q0W (hE.neX (by omega)),q1L (hE.neZ (by omega))]
  exact q9S hC hk
theorem z4J {E:Oth} (hE:okOth E) {C:Cks} {k:Nat} (hC:C.length≤200) (hk:C.length≤k) (hk2:k≤999999):q0G Prod.fst (q0F 99 (k:Int)) (q2w E C)=none:=by
  unfold q2w
  rw[q0W (hE.neX hk2),q1L (hE.neZ hk2)]
  exact q9W hC hk hk2
theorem z7B {E:Oth} (hE:okOth E) {C:Cks} (hC:C.length≤200):q0G Prod.fst [110,101,119] (q2w E C)=none:=by
  unfold q2w
  rw[q0W fun y hy=>hE.new y (.inl hy),q1L fun y hy=>hE.new y (.inr hy)]
  exact z6u hC
theorem q6k (E:Oth) (C:Cks):q2F (q2w E C)=q2B E+q0h C:=by
  unfold q2w q2B
  rw[q1C,q1C,q5N];omega
theorem z4z (E:Oth) (C:Cks):q2F (z3V E C)=q2B E+q0h C:=by
  have e:z3V E C=E.X++(q3l 0 C++([(q0F 99 (C.length:Int),[])]++E.Z)):=rfl
  rw[e,q1C,q1C,q1C,q5N,z0M]
  unfold q2B
  simp;omega
theorem z4b {E:Oth} (hE:okOth E) {D:Cks} {ps:List (List UInt8)} (p:List UInt8) (hD:D.length≤200):q1I Prod.fst (q0F 99 (D.length:Int)) (fun x=>(x.1,x.2++q2C p)) (q2w E (D++[ps]))=q2w E (D++[ps++[p]]):=by
  unfold q2w
  rw[q4L,q4L,q2j (hE.neX (by omega)),q2j (hE.neZ (by omega)),z4C p hD]
theorem q6u {α:Type} {k:α→List UInt8} {x:α} {b:List α}: ∀{a:List α},(∀y∈a,bytesBefore (k y) (k x)=true)→q3b k x (a++b)=a++q3b k x b
  |[],_=>rfl
  | y ::r,h=>by
    have h1:=h y (List.mem_cons_self)
    have h2:¬bytesBefore (k x) (k y)=true:=fun h3=>by
      have:=WideShapes.bytes_trans _ _ _ h1 h3
      rw[WideAt.bytes_irrefl] at this
      cases this
    rw[List.cons_append,q3b,if_neg h2,q6u fun z hz=>h z (List.mem_cons_of_mem _ hz)]
    rfl
theorem z3g {α:Type} {k:α→List UInt8} {x:α}: ∀{b:List α},(∀y∈b,bytesBefore (k x) (k y)=true)→q3b k x b=x::b
  |[],_=>rfl
  |y::r,h=>by rw[q3b,if_pos (h y (List.mem_cons_self))]
theorem z6q {E:Oth} (hE:okOth E) {C:Cks} (hC:C.length≤200):q3b Prod.fst (q0F 99 (C.length:Int),[]) (q2w E C)=z3V E C:=by
  unfold q2w z3V
  rw[q6u fun y hy=>hE.before y hy _ (by omega),q6u fun y hy=>?_,z3g fun y hy=>hE.behind y hy _ (by omega)]
  obtain ⟨j,h1,h2,h3⟩:=q3E hy
  rw[h3]
  exact q5v (by omega) (by omega) (by omega)
theorem z4I {E:Oth} (hE:okOth E) {C:Cks} (hC:C.length≤200):q0G Prod.fst (q0F 99 (C.length:Int)) (z3V E C)=some (q0F 99 (C.length:Int),[]):=by
  unfold z3V
  rw[q0W (hE.neX (by omega)),q0W (q4v (by omega) (by omega) fun j _ h2=>by omega)]
  unfold q0G;rw[List.find?_cons_of_pos (by simp)]
theorem z3c {E:Oth} (hE:okOth E) {C:Cks} (p:List UInt8) (hC:C.length≤200):q1I Prod.fst (q0F 99 (C.length:Int)) (fun x=>(x.1,x.2++(q2R C.length++q2C p))) (z3V E C)=q2w E (C++[[p]]):=by
  have e:z3V E C=E.X++((q3l 0 C++[(q0F 99 (C.length:Int),[])])++E.Z):=by simp[z3V]
  rw[e]
  unfold q2w
  rw[q4L,q4L,q2j (hE.neX (by omega)),q2j (hE.neZ (by omega)),z2r p hC]
theorem z3l (E:Oth) (C:Cks):(q2w E C).map Prod.fst=E.X.map Prod.fst++((List.range C.length).map (fun k:Nat=>q0F 99 (k:Int))++E.Z.map Prod.fst):=by
  unfold q2w
  rw[List.map_append,List.map_append,q7q,List.range_eq_range']
structure Lgd (E:Oth) (σ:DM) (c s:Int) (C:Cks):Prop where
  pl:Pl σ (c+(q2B E:Int)) s (q2w E C)
  ok:okC C
  oth:okOth E
theorem okC.nil :okC []:=⟨Nat.zero_le _,(fun _ h=>by cases h),(fun _ h=>by cases h),(fun _ h=>by cases h)⟩
theorem okC.grow {D:Cks} {ps:List (List UInt8)} {p:List UInt8} (h:okC (D++[ps])) (hp:p.length≤2000) (hs:q0J ps+(p.length+12)≤4096):okC (D++[ps++[p]]):=by
  have m:ps∈D++[ps]:=by simp
  refine ⟨by simpa using h.few,fun q hq=>?_,fun q hq=>?_,fun q hq=>?_⟩
  all_goals rcases List.mem_append.1 hq with h1|h1
  · exact h.size q (List.mem_append_left _ h1)
  · obtain rfl:=List.mem_singleton.1 h1;rw[q2E];exact hs
  · exact h.pay q (List.mem_append_left _ h1)
  · obtain rfl:=List.mem_singleton.1 h1
    intro x hx
    rcases List.mem_append.1 hx with h2|h2
    · exact h.pay ps m x h2
    · obtain rfl:=List.mem_singleton.1 h2;exact hp
  · exact h.full q (List.mem_append_left _ h1)
  · obtain rfl:=List.mem_singleton.1 h1;simp
theorem okC.more {C:Cks} {p:List UInt8} (h:okC C) (hp:p.length≤2000) (hn:C.length<200):okC (C++[[p]]):=by
  refine ⟨by simp;omega,fun q hq=>?_,fun q hq=>?_,fun q hq=>?_⟩
  all_goals rcases List.mem_append.1 hq with h1|h1
  · exact h.size q h1
  · obtain rfl:=List.mem_singleton.1 h1;rw[q3y];omega
  · exact h.pay q h1
  · obtain rfl:=List.mem_singleton.1 h1
    intro x hx
    obtain rfl:=List.mem_singleton.1 hx;exact hp
  · exact h.full q h1
  · obtain rfl:=List.mem_singleton.1 h1;simp
def q4d (C:Cks):Int:=match C.getLast? with|none=>0|some ps=>((C.length:Int)-1)*4096+(q0J ps:Int)
theorem z2a :q4d []=0:=rfl
theorem q2L (D:Cks) (ps:List (List UInt8)):q4d (D++[ps])=(D.length:Int)*4096+(q0J ps:Int):=by
  unfold q4d
  simp
def q0L (C:Cks):List Int:=C.map fun ps=>(q0J ps:Int)
theorem q2I (D:Cks) (ps:List (List UInt8)):q0L (D++[ps])=q0L D++[(q0J ps:Int)]:=by simp[q0L]
theorem q0Y (C:Cks):(q0L C).length=C.length:=by simp[q0L]
theorem q7I (D:Cks) (ps:List (List UInt8)):(q0L (D++[ps])).getD D.length 0=(q0J ps:Int):=by
  rw[q2I]
  have:D.length=(q0L D).length:=(q0Y D).symm
  rw[List.getD_eq_getElem?_getD,this,List.getElem?_append_right (Nat.le_refl _)]
  simp
theorem z3a (D:Cks) (ps qs:List (List UInt8)):(q0L (D++[ps])).set D.length (q0J qs:Int)=q0L (D++[qs]):=by
  rw[q2I,q2I]
  have:D.length=(q0L D).length:=(q0Y D).symm
  rw[this]
  simp
theorem z0m (C:Cks) (i:Nat) {ps:List (List UInt8)} (h:C[i]? =some ps):(q0L C).getD i 0=(q0J ps:Int):=by
  unfold q0L;rw[List.getD_eq_getElem?_getD,List.getElem?_map,h];rfl
def q3p (C:Cks) (p:List UInt8):Bool:=match C.getLast? with|none=>false|some ps=>decide (q0J ps+(p.length+12)≤4096)
def q0u (free:Int) (C:Cks) (p:List UInt8):Int×Int×Cks:=
  if 2000<p.length then (0,3,C)
  else if q3p C p then (if free-((p.length:Int)+12)<6000 then (0,60,C) else (q4d C,0,C.dropLast++[C.getLast?.getD []++[p]]))
  else if 200≤C.length∨free-((p.length:Int)+24)<6000 then (0,60,C) else ((C.length:Int)*4096+12,0,C++[[p]])
def q3w (free sure:Int) (C:Cks) (p:List UInt8):Int:=
  if (q0u free C p).2.1=0∧q3p C p=false∧C≠[] then q4d C else sure
def q2N :Nat→List (List UInt8)→List (Nat×List UInt8)
  |_,[]=>[]
  |a,p::r=>(a,p)::q2N (a+p.length+12) r
def q0t :Nat→Cks→List (Nat×List UInt8)
  |_,[]=>[]
  |b,ps::r=>q2N (b+12) ps++q0t (b+4096) r
def q3J (C:Cks) (pos:Int):Option (Nat×List UInt8):=(q0t 0 C).find? fun r=>decide (pos≤(r.1:Int))
def q5C (C:Cks) (pos:Int):List UInt8×Int:=
  if pos<0 then ([],4) else match C[(pos/4096).toNat]? with
  |none=>([],4)
  | some ps=>match (if 12≤pos % 4096 then q4k (q0R (pos/4096).toNat ps) (pos % 4096).toNat else none) with
    |none=>([],4)
    |some (p,_)=>(p,0)
end Go.Proofs.YtjjfiejoeelndaaGreatDoor
namespace Go.Proofs.YtjjfiejoeelndaaGreatDoor
open Go.RowKit
theorem q6H : ∀(ps:List (List UInt8)) (a:Nat),∀r∈q2N a ps,a≤r.1∧r.1+r.2.length+12≤a+(ps.map fun p=>p.length+12).sum
  |[],_,r,h=>by cases h
  | p ::t,a,r,h=>by
    rw[q2N] at h
    rcases List.mem_cons.1 h with rfl|h
    · simp only[List.map_cons,List.sum_cons];omega
    · have:=q6H t _ r h
      simp only[List.map_cons,List.sum_cons];omega
theorem q4w : ∀(C:Cks) (b:Nat),(∀ps∈C,q0J ps≤4096)→ ∀r∈q0t b C,b+12≤r.1∧r.1<b+4096*C.length
  |[],_,_,r,h=>by cases h
  | ps ::t,b,hs,r,h=>by
    rw[q0t] at h
    have h1:=hs ps (List.mem_cons_self)
    unfold q0J at h1
    rcases List.mem_append.1 h with h|h
    · have:=q6H ps _ r h
      simp only[List.length_cons];omega
    · have:=q4w t _ (fun q hq=>hs q (List.mem_cons_of_mem _ hq)) r h
      simp only[List.length_cons];omega
theorem q4c : ∀(C:Cks) (b n:Nat),q0t b C=q0t b (C.take n)++q0t (b+4096*n) (C.drop n)
  |C,b,0=>by simp[q0t]
  |[],b,n+1=>by simp[q0t]
  | ps::t,b,n+1=>by
    rw[List.take_succ_cons,List.drop_succ_cons,q0t,q0t,q4c t (b+4096) n,List.append_assoc]
    congr 3;omega
theorem q9v (C D:Cks) (b:Nat):q0t b (C++D)=q0t b C++q0t (b+4096*C.length) D:=by
  have:=q4c (C++D) b C.length
  rwa [List.take_left,List.drop_left] at this
theorem z4a {pos:Int} {l m:List (Nat×List UInt8)} (h: ∀r∈l,(r.1:Int)<pos):(l++m).find? (fun r=>decide (pos≤(r.1:Int)))=m.find? fun r=>decide (pos≤(r.1:Int)):=by
  rw[List.find?_append]
  have:l.find? (fun r=>decide (pos≤(r.1:Int)))=none:=List.find?_eq_none.2 fun r hr=>by have:=h r hr;simp;omega
  rw[this];rfl
theorem z1A (C:Cks) (pos:Int) (hs: ∀ps∈C,q0J ps≤4096) (n:Nat) (hn:(n:Int)*4096≤pos):q3J C pos=(q0t (4096*n) (C.drop n)).find? fun r=>decide (pos≤(r.1:Int)):=by
  unfold q3J
  rw[q4c C 0 n,Nat.zero_add]
  refine z4a fun r hr=>?_
  have:=q4w (C.take n) 0 (fun ps h=>hs ps (List.mem_of_mem_take h)) r hr
  have h2:(C.take n).length≤n:=List.length_take_le _ _
  omega
theorem q3v : ∀(ps:List (List UInt8)) (a:Nat),(q2N a ps).length=ps.length
  |[],_=>rfl
  |p::t,a=>by simp[q2N,q3v t]
theorem z1x : ∀(ps:List (List UInt8)) (a k:Nat) (p:List UInt8),ps[k]? =some p→(q2N a ps)[k]? =some (a+((ps.take k).map fun p=>p.length+12).sum,p)
  |[],_,k,p,h=>by simp at h
  | q::t,a,0,p,h=>by
    simp only[List.getElem?_cons_zero,Option.some.injEq] at h
    subst h;simp[q2N]
  | q::t,a,k+1,p,h=>by
    rw[List.getElem?_cons_succ] at h
    rw[q2N,List.getElem?_cons_succ,z1x t _ k p h,List.take_succ_cons,List.map_cons,List.sum_cons]
    congr 2;omega
theorem q7z : ∀(ps:List (List UInt8)) (a k:Nat) (p:List UInt8),ps[k]? =some p→(q1N a ps)[k]? =some (a+((ps.take k).map fun p=>p.length+12).sum,a+((ps.take k).map fun p=>p.length+12).sum+p.length+12)
  |[],_,k,p,h=>by simp at h
  | q::t,a,0,p,h=>by
    simp only[List.getElem?_cons_zero,Option.some.injEq] at h
    subst h;simp[q1N]
  | q::t,a,k+1,p,h=>by
    rw[List.getElem?_cons_succ] at h
    rw[q1N,List.getElem?_cons_succ,q7z t _ k p h,List.take_succ_cons,List.map_cons,List.sum_cons]
    congr 2<;>omega
theorem z7p (n:Nat) (ps:List (List UInt8)) (k:Nat) (p:List UInt8) (h:ps[k]? =some p) (hp:p.length≤2000):q4k (q0R n ps) (q0J (ps.take k))=some (p,q0J (ps.take k)+p.length+12):=by
  obtain ⟨hk,rfl⟩:=List.getElem?_eq_some_iff.1 h
  have e:ps=ps.take k++ps[k]::ps.drop (k+1):=by rw[List.getElem_cons_drop];exact (List.take_append_drop _ _).symm
  have:=z5V n (ps.take k) ps[k] (ps.drop (k+1)) hp
  rwa [←e] at this
end Go.Proofs.YtjjfiejoeelndaaGreatDoor
