/- PlainRefused: whatever the arguments are, the law answers true, and what came in reads as it did. Conditions: the row's own. -/
import Derived.Test.YthjlppdnlahhoaaGreatZE
import Derived.Test.YthjlppdnlahhoaaGreatRows
import Derived.WalkKit
import Derived.ProofKit
import Derived.OpenShut
import Derived.SizedLaws
import Derived.Test.YthjlppdnlahhoaaGreatP26
import Derived.Test.YthjlppdnlahhoaaGreatKO
set_option linter.unusedSimpArgs false
set_option linter.unusedVariables false
set_option linter.unusedSimpArgs false
set_option linter.unusedVariables false
namespace Go.Proofs.YthjlppdnlahhoaaGreat
open Go.ChangeShapes Go.WideShapes Go.ChangeAt Go.RowKit
open Go.Ev (oQ jM kS jo sV SlF iz)
set_option maxRecDepth 100000
theorem NS:ownKnob Tryz.prog.godebug=none:=by kernel_rfl
theorem laidOut:laidOutB Tryz.prog=true:=by kernel_rfl
theorem Z3:Go.Ev.flat Tryz.prog 5 25=some [.int .i64,.int .i64,.int .i64,.int .i64,.int .i64,.int .i64,.int .i64,.int .i64,.int .i64,.int .i64,.int .u64,.int .u64,.int .u64,.int .u64,.Hz 71]:=by kernel_rfl
theorem flat26:Go.Ev.flat Tryz.prog 3 26=some [.Hz 29]:=by kernel_rfl
theorem WC:Go.Ev.flat Tryz.prog 5 29=some [.int .i64,.int .i64,.int .i64,.int .i64]:=by kernel_rfl
theorem flat29:Go.Ev.flat Tryz.prog 3 29=some [.int .i64,.int .i64,.int .i64,.int .i64]:=by kernel_rfl
theorem ab5:Go.Ev.flat Tryz.prog 3 71=some [.Hz 5]:=by kernel_rfl
theorem flat5:Go.Ev.flat Tryz.prog 3 5=some [.int .u8]:=by kernel_rfl
theorem U9:Tryz.prog.cellsOf 71=1:=by kernel_rfl
theorem Tp:Tryz.prog.cellsOf 29=4:=by kernel_rfl
theorem XL:Tryz.prog.cellsOf 5=1:=by kernel_rfl
theorem Wk:Tryz.prog.bytesOf 71=24:=by kernel_rfl
theorem TX:Tryz.prog.bytesOf 29=32:=by kernel_rfl
theorem abA:Tryz.prog.bytesOf 5=1:=by kernel_rfl
theorem dU {P:Program}{W:World}{n:Nat}{k:IntKind}{u:Value}(h:kS P W n (.int k) u):∃ m,u=.int k m∧(Lit.int k m).wf=true:=by cases n<;>exact h
theorem Xy {a:Option Addr}{l c k:Nat}(h:SlF a l c):Go.Ev.bt k (.slice a l c) (.slice a l c)=true:=by
 rcases h with ⟨rfl,rfl,rfl⟩|⟨⟨b,off,rfl⟩,_⟩;·cases k<;>simp[Go.Ev.bt]
 ·cases k<;>simp[Go.Ev.bt]
theorem LY {l:List (List Value)}{W:World}{n:Nat}(h:∀ r∈l,jM (kS Tryz.prog W n) [.int .u8] r):∃ us:List UInt8,l=us.map fun b=>[Go.Ev.bK b]:=by
 induction l with
 | nil=>exact⟨[],rfl⟩
 | cons r l ih =>
   obtain⟨us,rfl⟩:=ih fun r hr=>h r (fU _ hr)
   obtain⟨h1,h2⟩:=h r (eZ ..)
   match r,h1 with
   | [a],_ =>
     obtain⟨n0,rfl,w⟩:=dU (h2 0 _ _ rfl rfl)
     simp only[Lit.wf,aZ,decide_eq_true_eq]at w
     have e1:IntKind.u8.max=255:=rfl
     have e2:IntKind.u8.min=0:=rfl
     have w2:n0<256:=by omega
     have w1:0≤n0:=by omega
     refine⟨UInt8.ofNat n0.toNat::us,?_⟩
     have:((UInt8.ofNat n0.toNat).toNat:Int)=n0:=by simp only[UInt8.toNat_ofNat'];omega
     simp only[dT,Go.Ev.bK,this]
theorem Hx (us:List UInt8):(us.map fun b=>[Go.Ev.bK b]).flatten=us.map Go.Ev.bK:=by
 induction us with
 | nil=>rfl
 | cons b us ih=>simp[ih]
theorem aby {W:World}{n:Nat}{u:Value}(h:kS Tryz.prog W (n+1) (.Hz 5) u):∃ l:List UInt8,MB W.heap.size (jo W) u l∧l.length≤281474976710656:=by obtain⟨a,len,cap,rfl,hw,hs,hr⟩:=h;obtain⟨rows,h1,h2,h3⟩:=hr 3 _ flat5 XL;obtain⟨us,rfl⟩:=LY h3;rw[abA]at hw;rw[aI]at h1;subst h1;refine⟨us,⟨a,cap,rfl,fun hne=>?_⟩,by have:=reachBytes_lt;omega⟩;obtain⟨b,off,rfl,hb,e⟩:=Go.Ev.iz.cells h2 (by simp) (by decide) (by simpa using hne);rw[Hx]at e;refine⟨b,off,rfl,hb,?_⟩;simpa using e
theorem abh {W:World}{u:Value}(h:kS Tryz.prog W 2 (.Hz 71) u):∃ P:List (List UInt8),Eo W.heap.size (jo W) u P∧(P.length≤281474976710656∧∀ l∈P,l.length≤281474976710656)∧∀ n,Go.Ev.bt n u u=true:=by
 obtain⟨a,len,cap,rfl,hw,hs,hr⟩:=h;obtain⟨rows,h1,h2,h3⟩:=hr 3 _ ab5 U9;rw[Wk]at hw;have each:∀ i,i<rows.length→∃ l:List UInt8,∃ u,rows[i]?=some [u]∧MB W.heap.size (jo W) u l∧l.length≤281474976710656:=by
   intro i hi;obtain⟨g1,g2⟩:=h3 _ (bG hi);generalize hrow:rows[i]=row at g1 g2;match row,g1 with
   | [u],_ =>
     obtain⟨l,r1,r2⟩:=aby (g2 0 _ _ rfl rfl)
     exact⟨l,u,by rw[bw hi,hrow],r1,r2⟩
 obtain⟨P,p1,p2⟩:=Go.Ev.lP rows.length each;refine⟨P,⟨a,cap,by rw[p1,h1],fun k l hl=>?_⟩,⟨by rw[p1,h1];have:=reachBytes_lt;omega,fun l hl=>?_⟩,fun n=>Xy hs⟩;· have hk:=(cQ.1 hl).1;obtain⟨u,e1,e2,_⟩:=p2 k hk;rw[(cQ.1 hl).2]at e2;obtain⟨b,off,rfl,hb,e⟩:=h2 k (by omega);have e1':=(cQ.1 e1).2;rw[e1']at e;refine⟨b,off,u,rfl,hb,?_,e2⟩;have:=Go.Ev.dk e (j:=0) rfl;simpa using this
 · obtain⟨k,hk,rfl⟩:=eU hl;obtain⟨u,_,_,e3⟩:=p2 k hk;exact e3
theorem Sa {l:List (List Value)}{W:World}{n:Nat}(h:∀ r∈l,jM (kS Tryz.prog W n) [.int .i64,.int .i64,.int .i64,.int .i64] r):∃ us:List ER,l=us.map ER.cells:=by
 induction l with
 | nil=>exact⟨[],rfl⟩
 | cons r l ih =>
   obtain⟨us,rfl⟩:=ih fun r hr=>h r (fU _ hr)
   obtain⟨h1,h2⟩:=h r (eZ ..)
   match r,h1 with
   | [a,b,c,d],_ =>
     obtain⟨n0,rfl,_⟩:=dU (h2 0 _ _ rfl rfl)
     obtain⟨n1,rfl,_⟩:=dU (h2 1 _ _ rfl rfl)
     obtain⟨n2,rfl,_⟩:=dU (h2 2 _ _ rfl rfl)
     obtain⟨n3,rfl,_⟩:=dU (h2 3 _ _ rfl rfl)
     exact⟨⟨n0,n1,n2,n3⟩::us,rfl⟩
theorem aa2 {W:World}{u:Value}(h:kS Tryz.prog W 2 (.Hz 29) u):∃ A:List ER,RdA W.heap.size (jo W) u A∧A.length≤281474976710656∧∀ n,Go.Ev.bt n u u=true:=by obtain⟨a,len,cap,rfl,hw,hs,hr⟩:=h;obtain⟨rows,h1,h2,h3⟩:=hr 3 _ flat29 Tp;rw[TX]at hw;obtain⟨A,rfl⟩:=Sa h3;rw[aI]at h1;subst h1;exact⟨A,⟨a,cap,rfl,h2⟩,by have:=reachBytes_lt;omega,fun n=>Xy hs⟩
theorem Za {W:World}{us:List Value}(hl:jM (kS Tryz.prog W 2) [.int .i64,.int .i64,.int .i64,.int .i64,.int .i64,.int .i64,.int .i64,.int .i64,.int .i64,.int .i64,.int .u64,.int .u64,.int .u64,.int .u64,.Hz 71] us) :
   ∃ (c:Nat→Int) (pv:Value) (P:List (List UInt8)),us=bU c pv∧Eo W.heap.size (jo W) pv P:=by
 obtain⟨h1,h2⟩:=hl
 match us,h1 with
 | [x0,x1,x2,x3,x4,x5,x6,x7,x8,x9,x10,x11,x12,x13,x14],_ =>
   obtain⟨m0,rfl,_⟩:=dU (h2 0 _ _ rfl rfl)
   obtain⟨m1,rfl,_⟩:=dU (h2 1 _ _ rfl rfl)
   obtain⟨m2,rfl,_⟩:=dU (h2 2 _ _ rfl rfl)
   obtain⟨m3,rfl,_⟩:=dU (h2 3 _ _ rfl rfl)
   obtain⟨m4,rfl,_⟩:=dU (h2 4 _ _ rfl rfl)
   obtain⟨m5,rfl,_⟩:=dU (h2 5 _ _ rfl rfl)
   obtain⟨m6,rfl,_⟩:=dU (h2 6 _ _ rfl rfl)
   obtain⟨m7,rfl,_⟩:=dU (h2 7 _ _ rfl rfl)
   obtain⟨m8,rfl,_⟩:=dU (h2 8 _ _ rfl rfl)
   obtain⟨m9,rfl,_⟩:=dU (h2 9 _ _ rfl rfl)
   obtain⟨m10,rfl,_⟩:=dU (h2 10 _ _ rfl rfl)
   obtain⟨m11,rfl,_⟩:=dU (h2 11 _ _ rfl rfl)
   obtain⟨m12,rfl,_⟩:=dU (h2 12 _ _ rfl rfl)
   obtain⟨m13,rfl,_⟩:=dU (h2 13 _ _ rfl rfl)
   obtain⟨P,r1,r2,r3⟩:=abh (h2 14 _ _ rfl rfl)
   exact⟨fun i=>[m0,m1,m2,m3,m4,m5,m6,m7,m8,m9,m10,m11,m12,m13].getD i 0,x14,P,rfl,r1⟩
theorem XN {W:World}{n:Nat}{us:List Value}(hl:jM (kS Tryz.prog W n) [.int .i64,.int .i64,.int .i64,.int .i64] us):∃ x:ER,us=x.cells:=by
 obtain⟨h1,h2⟩:=hl;match us,h1 with
 | [a,b,c,d],_ =>
   obtain⟨n0,rfl,_⟩:=dU (h2 0 _ _ rfl rfl)
   obtain⟨n1,rfl,_⟩:=dU (h2 1 _ _ rfl rfl)
   obtain⟨n2,rfl,_⟩:=dU (h2 2 _ _ rfl rfl)
   obtain⟨n3,rfl,_⟩:=dU (h2 3 _ _ rfl rfl)
   exact⟨⟨n0,n1,n2,n3⟩,rfl⟩
theorem walk {W:World}{v0 v1 v2:Value}{us us2:List Value}{u:Value}
  (hu:jM (kS Tryz.prog W 2) [.int .i64,.int .i64,.int .i64,.int .i64,.int .i64,.int .i64,.int .i64,.int .i64,.int .i64,.int .i64,.int .u64,.int .u64,.int .u64,.int .u64,.Hz 71] us) (hv:Go.Ev.VR (sV W.heap.size) (.agg ⟨us⟩) v0)
  (hu1:kS Tryz.prog W 2 (.Hz 29) u) (hv1:Go.Ev.VR (sV W.heap.size) u v1)
  (hu2:jM (kS Tryz.prog W 2) [.int .i64,.int .i64,.int .i64,.int .i64] us2) (hv2:Go.Ev.VR (sV W.heap.size) (.agg ⟨us2⟩) v2) :
  Calls Tryz.prog 3 #[v0,v1,v2] W fun e w'=>e=.returned (.bool true)∧Below W.heap.size W w':=by
 obtain⟨c,pv,P,rfl,r⟩:=Za hu
 obtain⟨A,ra,_,_⟩:=aa2 hu1
 obtain⟨x,rfl⟩:=XN hu2
 exact Go.Ev.I9 (E:=env) (us:=[.agg ⟨bU c pv⟩,u,.agg ⟨x.cells⟩]) (Go.Ev.BP Tryz.prog 0 _ mixed) abM (Go.Ev.tS pC) (fun g hg=>absurd hg (Nat.not_lt_zero g)) (.cons hv (.cons hv1 (.cons hv2 .nil))) rfl
  (WJ (B:=W.heap.size) r ra (aQ _))
def Em:Option TypeDesc→Bool
 | some (.struct _)=>true
 | _=>false
theorem str25:Em (Tryz.prog.underlying 25)=true:=by kernel_rfl
theorem str29:Em (Tryz.prog.underlying 29)=true:=by kernel_rfl
theorem slc26:Tryz.prog.underlying 26=some (.slice 29):=by kernel_rfl
theorem JZ {P:Program}{W:World}{b:Nat}{t:TypeId}{v:Value}(hs:Em (P.underlying t)=true) (h:Value.okWide P W .any b t v):∃ cs,v=.agg cs:=by
 unfold Em at hs;split at hs;·rename_i fs hu;unfold Value.okWide at h;rw[hu]at h;obtain⟨cs,rfl,_⟩:=h;exact⟨cs,rfl⟩
 ·cases hs
theorem Kr {W:World}{b:Nat}{t e:TypeId}{v:Value}(hu:Tryz.prog.underlying t=some (.slice e)) (h:Value.okWide Tryz.prog W .any b t v):v.cells=#[v]:=by unfold Value.okWide at h;rw[hu]at h;cases v<;>first|rfl|(simp[Cell.okWide,Cell.ok,hu]at h)
theorem lifted (os:Os) (started:os.Started) (H:Type) (enc:TypeId×Value→H) :
   ReturnsInHanded {} Tryz.checked os 3 .any (Rows.plainRefusedSpec.pre6 enc Tryz.prog Tryz.f3 Rows.plainRefusedRow.domain false) (Rows.plainRefusedSpec.post enc Tryz.prog Tryz.f3 false true false false):=by
 refine returnsInHanded_of_change_sized (C:=Tryz.checked) NS started (by kernel_rfl) Tryz.func3
   (ChangeSpec.witness6 (enc:=enc) (C:=Tryz.checked) false ⟨#[],#[.agg #[.int .i64 0,.int .i64 0,.int .i64 0,.int .i64 0,.int .i64 0,.int .i64 0,.int .i64 0,.int .i64 0,.int .i64 0,.int .i64 0,.int .u64 0,.int .u64 0,.int .u64 0,.int .u64 0,.slice none 0 0],.slice none 0 0,.agg #[.int .i64 0,.int .i64 0,.int .i64 0,.int .i64 0]],[]⟩ 8 (by kernel_rfl) (by kernel_rfl) (by kernel_rfl) (by kernel_rfl)) ?_
 intro W base args ds gs before hval0 hW _ hwt _
 have hval:∀ (j:Nat) t v,Tryz.f3.params[j]?=some t→args[j]?=some v→Value.okWide Tryz.prog W .any base t v:=hval0
 have hW':=hW
 obtain⟨p,q,hA0,hV,hpq,hfz,rQ⟩:=hW
 have hA:DataW.TrodAll enc Tryz.prog W 0 (fun _=>true) true Tryz.f3.params.toList args.toList ds p:=hA0
 have hA2:=hA
 rw[Tryz.params3]at hA2 hval
 obtain⟨v0,vs0,d0,ds0,p0,q0,ha0,rfl,rfl,h0,r0⟩:=trodAll_cons hA2
 obtain⟨v1,vs1,d1,ds1,p1,q1,rfl,rfl,rfl,h1,r1⟩:=trodAll_cons r0
 obtain⟨v2,vs2,d2,ds2,p2,q2,rfl,rfl,rfl,h2,r2⟩:=trodAll_cons r1
 obtain⟨rfl,rfl,rfl⟩:=trodAll_nil r2
 obtain rfl:args=#[v0,v1,v2]:=by cases args;simp_all
 have hV2:=hV
 obtain⟨rfl,rfl⟩:=trodVars_none hV2
 obtain⟨cs0,rfl⟩:=JZ str25 (hval 0 25 v0 rfl rfl)
 have hs1:=Kr slc26 (hval 1 26 v1 rfl rfl)
 obtain⟨cs2,rfl⟩:=JZ str29 (hval 2 29 v2 rfl rfl)
 have hw0:Go.Ev.WT Tryz.prog 25 d0:=Go.Ev.WT.of hwt (j:=0) rfl rfl
 have hw1:Go.Ev.WT Tryz.prog 26 d1:=Go.Ev.WT.of hwt (j:=1) rfl rfl
 have hw2:Go.Ev.WT Tryz.prog 29 d2:=Go.Ev.WT.of hwt (j:=2) rfl rfl
 obtain⟨us,hl,hvr⟩:=Go.Ev.C' Z3 h0 hw0 2
 obtain⟨us1,hl1,hvr1⟩:=Go.Ev.C' flat26 h1 hw1 2
 obtain⟨us2,hl2,hvr2⟩:=Go.Ev.C' WC h2 hw2 2
 rw[hs1]at hvr1
 match us1,hl1 with
 | [u],hl1 =>
   cases hvr1 with
   | cons hv1 _ =>
     refine(walk hl (.agg _ _ hvr) (hl1.2 0 _ _ rfl rfl) hv1 hl2 (.agg _ _ hvr2)).mono fun e W' ⟨he,hg⟩=>?_
     subst he
     exact⟨_,rfl,Go.Ev.OO laidOut hW' hA hV hpq (by kernel_rfl) (by kernel_rfl) (fun _ _ _=>trodAll_cons_mk (shut_bool Tryz.underlying4 _) trodAll_mk0) rfl rfl hg⟩
theorem fV:Rows.plainRefusedRow.holds Tryz.pinned (OpenSpec.ofChange Rows.plainRefusedSpec) :=
 OpenClaim.holds_of_wide 3 Tryz.f3 rfl rfl rfl rfl rfl rfl rfl ⟨rfl,rfl,rfl,rfl,rfl⟩ rfl rfl rfl rfl rfl (by kernel_rfl) Tryz.func3 (by kernel_rfl)
  (of_decide_eq_true (by kernel_rfl)) (by unfold Func.isWrapper;first|(rw[if_pos (by decide +kernel)];kernel_rfl)|(rw[if_neg (by decide +kernel)];exact⟨rfl,rfl⟩))
  (fun os started H enc _=>lifted os started H enc)
end Go.Proofs.YthjlppdnlahhoaaGreat
namespace Go.Proofs.YthjlppdnlahhoaaGreat.plainRefused
theorem proved:Rows.PlainRefusedSaid:=Go.Proofs.YthjlppdnlahhoaaGreat.fV
#print axioms proved
end Go.Proofs.YthjlppdnlahhoaaGreat.plainRefused
