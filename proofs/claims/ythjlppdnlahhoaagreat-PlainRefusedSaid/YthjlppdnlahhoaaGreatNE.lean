/- num.Nth by its word. Conditions: none beyond each theorem's own. -/
import Derived.Test.YthjlppdnlahhoaaGreatKV
import Derived.Test.YthjlppdnlahhoaaGreatNA
import Derived.Test.YthjlppdnlahhoaaGreatNB
import Derived.Test.YthjlppdnlahhoaaGreatNC
import Derived.Test.YthjlppdnlahhoaaGreatND
set_option linter.unusedSimpArgs false
set_option linter.unusedVariables false
namespace Go.Proofs.YthjlppdnlahhoaaGreat
open Go.Ev Go.RowKit
set_option maxRecDepth 100000
theorem U6:vO.vQ.get 149=some Tryz.f149:=by kernel_rfl
theorem nt149:Tryz.f149.ntmps=27:=by kernel_rfl
theorem ext149 (args:List Value):vO.ext 149 args l_=none:=rfl
theorem Hw:Tryz.f149.body=some BI:=by obtain⟨c,hc⟩:=qo.1 Ta;simp only[BI,hc,lz]
theorem xN_all {s:Nat}(h0:0<s) (hs:s<256) (n:Int):xN s n=some (FN n (KQ s),true):=by
 by_cases h1:s≤32;· exact(rec0 n).get h0 (by omega)
 by_cases h2:s≤64;· exact(rec32 n).get (by omega) (by omega)
 by_cases h3:s≤96;· exact(rec64 n).get (by omega) (by omega)
 by_cases h4:s≤128;· exact(rec96 n).get (by omega) (by omega)
 by_cases h5:s≤160;· exact(rec128 n).get (by omega) (by omega)
 by_cases h6:s≤192;· exact(Yb n).get (by omega) (by omega)
 by_cases h7:s≤224;· exact(rec192 n).get (by omega) (by omega)
 exact(ab' n).get (by omega) (by omega)
theorem nth0 {s:Nat}(hs:s<256) (n:Int):∃ (p:Nat) (b:Bool),(b=true→s.testBit p=true)∧cy vO (.func 149) [.int .u8 (s:Int),.int .i64 n] l_ fun u _=>u=.tuple #[.int .i64 (p:Int),.bool b]:=by
 by_cases h0:s=0
 ·subst h0;have h:=UK n;unfold ok0 at h;split at h;·rename_i p b h' e;simp only[aZ,ic,mP]at h;obtain⟨rfl,rfl⟩:=h;exact⟨0,false,(fun e=>by cases e),12,_,h',e,rfl⟩
  ·cases h
 have he:=xN_all (by omega) hs n;obtain⟨i,rfl⟩:∃ i,s=i+1:=⟨s-1,by omega⟩;obtain⟨c1,c2⟩:=Qc i (by omega);obtain⟨k,hk,hF⟩:=FN_lt (n:=n) c1 c2;unfold xN at he;split at he
 ·rename_i fr h e1;split at he
  ·rename_i x e2;simp only[aS,bA]at he;obtain⟨rfl,hall⟩:=he;have ho:=dX.1 hall k (sj.2 hk);have aO:({ h with b:=h.b.set 0 (.cells [.int .i64 (k:Int)] 3 true) }:ak)=h:=by rw[Rd (by rw[e2,hF])]
   unfold okN at ho;rw[aO]at ho;split at ho;·cases ho
   ·rename_i ex fr' h' hne e3;split at ho
    ·rename_i p b e4;refine⟨p,b,fun hb=>by simpa[hb]using ho,?_⟩;obtain⟨d,ex2,fr2,h2,e5,q1,q2⟩:=Cr (Q:=fun ex fr' h'=>(∀ id,ex≠.exit id)∧aW (me vO fr' h') Tryz.f149.results.toList=some [.int .i64 (p:Int),.bool b]) e1 R7 ⟨12,ex,fr',h',e3,fun id q=>hne id q,e4⟩;refine⟨d+1,_,h2,?_,rfl⟩;rw[dN];simp only[ext149,U6,Hw,nt149,dn,cF];rw[show max 27 (0+1+1)=27 from rfl,e5];cases ex2 with
     | normal=>simp only[q2]
     | ret=>simp only[q2]
     | exit id=>exact absurd rfl (q1 id)
    ·cases ho
   ·cases ho
  ·cases he
 ·cases he
theorem Vm {s:Nat}(hs:s<256) {n:Int}{h:ak}{K:Value→ak→Prop}(hK:∀ (p:Nat) (b:Bool),(b=true→s.testBit p=true)→K (.tuple #[.int .i64 (p:Int),.bool b]) h):cy env (.func 149) [.int .u8 (s:Int),.int .i64 n] h K:=by obtain⟨p,b,hb,w⟩:=nth0 hs n;have hv:=NR (l:=[.int .u8 (s:Int),.int .i64 n]) (v:=.tuple #[.int .i64 (p:Int),.bool b]) rfl rfl rfl w;refine cy.ext (v:=.tuple #[.int .i64 (p:Int),.bool b]) ?_ (hK p b hb);show Ra 149 [.int .u8 (s:Int),.int .i64 n] h=_;simp only[Ra,sD,kz,Zh,hv];rfl
end Go.Proofs.YthjlppdnlahhoaaGreat
