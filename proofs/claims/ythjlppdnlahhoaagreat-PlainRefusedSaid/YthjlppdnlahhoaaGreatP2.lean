/- THE PLAIN MACHINE's FUNCTIONS, walked (2). Conditions: none beyond each theorem's own. -/
import Derived.Test.YthjlppdnlahhoaaGreatP1
set_option linter.unusedSimpArgs false
set_option linter.unusedVariables false
namespace Go.Proofs.YthjlppdnlahhoaaGreat
open Go.Ev
open Pl
set_option maxRecDepth 100000
set_option maxHeartbeats 400000
def aO (h:ak) (b:Nat) (k:iY):ak:={ h with b:=h.b.set b k }
theorem aF {h:ak}{b:Nat}{k:iY}:(aO h b k).b.get b=some k:=by simp[aO,T.aj]
theorem aC {h:ak}{b j:Nat}{k:iY}(e:j≠b):(aO h b k).b.get j=h.b.get j:=T.aR _ _ (bV e)
theorem Kp.set {O:Nat→Prop}{h:ak}{b:Nat}{k:iY}(hb:O b):Kp O O h (aO h b k):=⟨aQ _,fun j _ ho=>aC fun e=>ho (e▸hb),fun _ _ o=>o⟩
theorem gf {h:ak}{i j:Nat}{cs cs':List Value}{e e':TypeId}{t t':Bool}(h1:h.b.get i=some (.cells cs e t)) (h2:h.b.get j=some (.cells cs' e' t')) (he:e≠e'):i≠j:=fun q=>by subst q;rw[h1]at h2;cases h2;exact he rfl
theorem Fr.bM {h h':ak}{v:Value}{l:List Nat}(f:Fr h v l) (hn:h.n≤h'.n) (hk:∀ i cs t,fT v i→h.b.get i=some (.cells cs 3 t)→h'.b.get i=h.b.get i):Fr h' v l:=by
 obtain⟨hb,a,c,rfl,q,w⟩:=f;refine⟨fun j bj=>bX (hb j bj) hn,a,c,rfl,fun hl=>?_,?_⟩;·obtain⟨i,r,t,rfl,hi⟩:=q hl;exact⟨i,r,t,rfl,(hk i _ _ ⟨_,_,_,rfl,rfl,fun e=>hl (dq.1 e)⟩ hi).trans hi⟩
 ·rcases w with w|⟨rfl,hl,i,rfl,hi⟩;·exact .inl w
  ·exact .inr ⟨rfl,hl,i,rfl,(hk i _ _ ⟨_,_,_,rfl,rfl,fun e=>hl (dq.1 e)⟩ hi).trans hi⟩
theorem Kc.bM {h h':ak}{v:Value}{l:List KD}(f:Kc h v l) (hn:h.n≤h'.n) (hk:∀ i cs t,fT v i→h.b.get i=some (.cells cs 135 t)→h'.b.get i=h.b.get i):Kc h' v l:=by obtain⟨a,c,rfl,h1,h2,h3,hb,q⟩:=f;refine⟨a,c,rfl,h1,h2,h3,fun x e=>bX (hb x e) hn,fun hl=>?_⟩;obtain⟨i,r,t,rfl,hi⟩:=q hl;exact⟨i,r,t,rfl,(hk i _ _ ⟨_,_,_,rfl,rfl,fun e=>hl (dq.1 e)⟩ hi).trans hi⟩
theorem Fr.set {h:ak}{v:Value}{l:List Nat}{b:Nat}{k:iY}{cs:List Value}{e:TypeId}{t:Bool}(f:Fr h v l) (hb:h.b.get b=some (.cells cs e t)) (he:e≠3):Fr (aO h b k) v l :=
 f.bM a_ fun i _ _ _ hi=>aC (gf hi hb (bV he))
theorem Kc.set {h:ak}{v:Value}{l:List KD}{b:Nat}{k:iY}{cs:List Value}{e:TypeId}{t:Bool}(f:Kc h v l) (hb:h.b.get b=some (.cells cs e t)) (he:e≠135):Kc (aO h b k) v l :=
 f.bM a_ fun i _ _ _ hi=>aC (gf hi hb (bV he))
theorem IY.kp {O O':Nat→Prop}{h h':ak}{w:PW}{x:PD}(r:IY O h w x) (k:Kp O O' h h'):IY O' h' w x:=⟨r.ring.kp k,r.next.kp k,r.runs.kp k,r.left,r.turns⟩
theorem Eg.kp {O O':Nat→Prop}{h h':ak}{w:Ob XW}{x:Ob XD}(r:Eg O h w x) (k:Kp O O' h h'):Eg O' h' w x:=⟨r.gen,r.is,r.iP,r.ee,r.dH,r.ref.kp k⟩
theorem mu {O O':Nat→Prop}{h h':ak}{v:Value}{l:List (List UInt8)}(r:∃ vs:List Value,RS O 1 h v (vs.map fun v=>[v])∧vs.length=l.length∧∀ i (h1:i<vs.length) (h2:i<l.length),RB O h vs[i] l[i]) (k:Kp O O' h h') :
  ∃ vs:List Value,RS O' 1 h' v (vs.map fun v=>[v])∧vs.length=l.length∧∀ i (h1:i<vs.length) (h2:i<l.length),RB O' h' vs[i] l[i]:=by
 obtain⟨vs,h1,h2,h3⟩:=r
 exact⟨vs,h1.kp k,h2,fun i a b=>(h3 i a b).kp k⟩
section
variable {a:Ad}{V:VD}{h h':ak}{M:MD}
theorem fE:own a V a.m:=.inl rfl
theorem qe:own a V a.g:=.inr (.inl rfl)
theorem uj:own a V a.c:=.inr (.inr (.inl rfl))
theorem um:own a V a.s:=.inr (.inr (.inr (.inl rfl)))
theorem pO:own a V a.p:=.inr (.inr (.inr (.inr (.inl rfl))))
theorem St.ext (s:St a V h M) (x:aw h.n h h'):St a V h' M:=by
 have k:Kp (own a V) (own a V) h h':=.ext x;have g:∀ {j cs e t},own a V j→h.b.get j=some (.cells cs e t)→h'.b.get j=some (.cells cs e t):=fun o q=>(x.get _ (s.lt _ o)).trans q
 exact { lt:=fun j o=>bX (s.lt j o) x.n,cZ:=g fE s.cZ,gs:=s.gs.imp fun _ q=>g qe q,cl:=s.cl.imp fun _ q=>g uj q,sh:=s.sh.imp fun _ q=>g um q,ps:=s.ps.imp fun _ q=>g pO q,
         fg:=s.fg.bM x.n fun i _ _ b _=>x.get i (s.fg.1 i b),fc:=s.fc.bM x.n fun i _ _ b _=>x.get i (s.fc.1 i b),fs:=s.fs.bM x.n fun i _ _ b _=>x.get i (s.fs.1 i b),ux:=s.ux,
         ax:=s.ax.bM x.n fun i _ _ b _=>x.get i (s.lt i (by simp[own,b])),all:=s.all.kp k,tm:=s.tm.kp k,log:=s.log.kp k,xU:=s.xU,xR:=fun p a b=>(s.xR p a b).kp k,Bv:=s.Bv,Af:=fun p a b=>(s.Af p a b).kp k,pr:=mu s.pr k }
theorem St.new (s:St a V h M) (k:iY):St a V (ai h k) M:=s.ext br
theorem St.FT (s:St a V h M) {vA vT vL:Value}{now aX cw calls:Nat}{all:List Nat}{tm:List TD}{log:List LD}(rA:RI (own a V) h vA all) (rT:RS (own a V) 2 h vT (tm.map TD.cells)) (rL:RS (own a V) 12 h vL (log.map LD.cells)) :
   St a { V with all:=vA,tm:=vT,log:=vL } (aO h a.m (.cells (cL a { V with all:=vA,tm:=vT,log:=vL } { M with now:=now,aX:=aX,cw:=cw,calls:=calls,all:=all,tm:=tm,log:=log }) 98 true)) { M with now:=now,aX:=aX,cw:=cw,calls:=calls,all:=all,tm:=tm,log:=log } ∧
   Kp (own a V) (own a V) h (aO h a.m (.cells (cL a { V with all:=vA,tm:=vT,log:=vL } { M with now:=now,aX:=aX,cw:=cw,calls:=calls,all:=all,tm:=tm,log:=log }) 98 true)):=by
 have k:Kp (own a V) (own a V) h (aO h a.m (.cells (cL a { V with all:=vA,tm:=vT,log:=vL } { M with now:=now,aX:=aX,cw:=cw,calls:=calls,all:=all,tm:=tm,log:=log }) 98 true)):=.set fE
 refine⟨?_,k⟩
 exact { lt:=s.lt,cZ:=aF,gs:=s.gs.imp fun _ q=>(aC (gf q s.cZ ao)).trans q,cl:=s.cl.imp fun _ q=>(aC (gf q s.cZ ao)).trans q,sh:=s.sh.imp fun _ q=>(aC (gf q s.cZ ao)).trans q,ps:=s.ps.imp fun _ q=>(aC (gf q s.cZ ao)).trans q,
         fg:=s.fg.set s.cZ ao,fc:=s.fc.set s.cZ ao,fs:=s.fs.set s.cZ ao,ux:=s.ux,
         ax:=s.ax.set s.cZ ao,all:=rA.kp k,tm:=rT.kp k,log:=rL.kp k,xU:=s.xU,xR:=fun p a b=>(s.xR p a b).kp k,Bv:=s.Bv,Af:=fun p a b=>(s.Af p a b).kp k,pr:=mu s.pr k }
theorem St.Ip (s:St a V h M) {p:Nat}{w:PW}{x:PD}{t:Bool}(r:IY (own a V) h w x) :
   St a { V with ps:=V.ps.set p w } (aO h a.p (.cells ((V.ps.set p w).map PW.cells).flatten 113 t)) { M with ps:=M.ps.set p x }∧Kp (own a V) (own a V) h (aO h a.p (.cells ((V.ps.set p w).map PW.cells).flatten 113 t)):=by
 have k:Kp (own a V) (own a V) h (aO h a.p (.cells ((V.ps.set p w).map PW.cells).flatten 113 t)):=.set pO
 obtain⟨tp,hp⟩:=s.ps
 refine⟨?_,k⟩
 exact { lt:=s.lt,cZ:=by
           have:=(aC (k:=(.cells ((V.ps.set p w).map PW.cells).flatten 113 t)) (gf s.cZ hp ao)).trans s.cZ;rw[this];simp only[cL,cS]
         gs:=s.gs.imp fun _ q=>(aC (gf q hp ao)).trans q,cl:=s.cl.imp fun _ q=>(aC (gf q hp ao)).trans q,sh:=s.sh.imp fun _ q=>(aC (gf q hp ao)).trans q,ps:=⟨t,aF⟩,
         fg:=s.fg.set hp ao,fc:=s.fc.set hp ao,fs:=s.fs.set hp ao,ux:=s.ux,
         ax:=s.ax.set hp ao,all:=s.all.kp k,tm:=s.tm.kp k,log:=s.log.kp k,xU:=by simp[s.xU],xR:=fun q h1 h2=>by
           simp only[cS]at h1 h2;simp only[cJ];by_cases e:p=q;· rw[if_pos e,if_pos e];exact r.kp k
           · rw[if_neg e,if_neg e];exact(s.xR q h1 h2).kp k
         Bv:=s.Bv,Af:=fun p a b=>(s.Af p a b).kp k,pr:=mu s.pr k }
theorem St.setG (s:St a V h M) {gs:List (Ob GD)}{t:Bool}(hl:gs.length=M.gs.length) :
   St a V (aO h a.g (.cells (gs.map (Ob.cells GD.cells)).flatten 125 t)) { M with gs:=gs }∧Kp (own a V) (own a V) h (aO h a.g (.cells (gs.map (Ob.cells GD.cells)).flatten 125 t)):=by
 have k:Kp (own a V) (own a V) h (aO h a.g (.cells (gs.map (Ob.cells GD.cells)).flatten 125 t)):=.set qe
 obtain⟨tp,hp⟩:=s.gs
 refine⟨?_,k⟩
 exact { lt:=s.lt,cZ:=by
           have:=(aC (k:=(.cells (gs.map (Ob.cells GD.cells)).flatten 125 t)) (gf s.cZ hp ao)).trans s.cZ;rw[this];simp only[cL,hl]
         gs:=⟨t,aF⟩,cl:=s.cl.imp fun _ q=>(aC (gf q hp ao)).trans q,sh:=s.sh.imp fun _ q=>(aC (gf q hp ao)).trans q,ps:=s.ps.imp fun _ q=>(aC (gf q hp ao)).trans q,
         fg:=s.fg.set hp ao,fc:=s.fc.set hp ao,fs:=s.fs.set hp ao,ux:=s.ux,
         ax:=s.ax.set hp ao,all:=s.all.kp k,tm:=s.tm.kp k,log:=s.log.kp k,xU:=s.xU,xR:=fun p a b=>(s.xR p a b).kp k,Bv:=s.Bv,Af:=fun p a b=>(s.Af p a b).kp k,pr:=mu s.pr k }
theorem St.setS (s:St a V h M) {sh:List (Ob SD)}{t:Bool}(hl:sh.length=M.sh.length) :
   St a V (aO h a.s (.cells (sh.map (Ob.cells SD.cells)).flatten 129 t)) { M with sh:=sh }∧Kp (own a V) (own a V) h (aO h a.s (.cells (sh.map (Ob.cells SD.cells)).flatten 129 t)):=by
 have k:Kp (own a V) (own a V) h (aO h a.s (.cells (sh.map (Ob.cells SD.cells)).flatten 129 t)):=.set um
 obtain⟨tp,hp⟩:=s.sh
 refine⟨?_,k⟩
 exact { lt:=s.lt,cZ:=by
           have:=(aC (k:=(.cells (sh.map (Ob.cells SD.cells)).flatten 129 t)) (gf s.cZ hp ao)).trans s.cZ;rw[this];simp only[cL,hl]
         sh:=⟨t,aF⟩,cl:=s.cl.imp fun _ q=>(aC (gf q hp ao)).trans q,gs:=s.gs.imp fun _ q=>(aC (gf q hp ao)).trans q,ps:=s.ps.imp fun _ q=>(aC (gf q hp ao)).trans q,
         fg:=s.fg.set hp ao,fc:=s.fc.set hp ao,fs:=s.fs.set hp ao,ux:=s.ux,
         ax:=s.ax.set hp ao,all:=s.all.kp k,tm:=s.tm.kp k,log:=s.log.kp k,xU:=s.xU,xR:=fun p a b=>(s.xR p a b).kp k,Bv:=s.Bv,Af:=fun p a b=>(s.Af p a b).kp k,pr:=mu s.pr k }
theorem St.setC (s:St a V h M) {p:Nat}{w:Ob XW}{x:Ob XD}{t:Bool}(r:Eg (own a V) h w x) :
   St a { V with cl:=V.cl.set p w } (aO h a.c (.cells ((V.cl.set p w).map (Ob.cells XW.cells)).flatten 127 t)) { M with cl:=M.cl.set p x }∧Kp (own a V) (own a V) h (aO h a.c (.cells ((V.cl.set p w).map (Ob.cells XW.cells)).flatten 127 t)):=by
 have k:Kp (own a V) (own a V) h (aO h a.c (.cells ((V.cl.set p w).map (Ob.cells XW.cells)).flatten 127 t)):=.set uj
 obtain⟨tp,hp⟩:=s.cl
 refine⟨?_,k⟩
 exact { lt:=s.lt,cZ:=by
           have:=(aC (k:=(.cells ((V.cl.set p w).map (Ob.cells XW.cells)).flatten 127 t)) (gf s.cZ hp ao)).trans s.cZ;rw[this];simp only[cL,cS]
         gs:=s.gs.imp fun _ q=>(aC (gf q hp ao)).trans q,ps:=s.ps.imp fun _ q=>(aC (gf q hp ao)).trans q,sh:=s.sh.imp fun _ q=>(aC (gf q hp ao)).trans q,cl:=⟨t,aF⟩,
         fg:=s.fg.set hp ao,fc:=s.fc.set hp ao,fs:=s.fs.set hp ao,ux:=s.ux,
         ax:=s.ax.set hp ao,all:=s.all.kp k,tm:=s.tm.kp k,log:=s.log.kp k,Bv:=by simp[s.Bv],Af:=fun q h1 h2=>by
           simp only[cS]at h1 h2;simp only[cJ];by_cases e:p=q;· rw[if_pos e,if_pos e];exact r.kp k
           · rw[if_neg e,if_neg e];exact(s.Af q h1 h2).kp k
         xU:=s.xU,xR:=fun p a b=>(s.xR p a b).kp k,pr:=mu s.pr k }
theorem Kp.loc {O O':Nat→Prop}{h0 h:ak}{j:Nat}{k:iY}(kp:Kp O O' h0 h) (hj:h0.n≤j):Kp O O' h0 (aO h j k) :=
 ⟨kp.n,fun i hi ho=>(aC ah).trans (kp.get i hi ho),kp.own⟩
theorem RI.loc {O:Nat→Prop}{v:Value}{l:List Nat}{j:Nat}{cs cs':List Value}{t:Bool}(r:RI O h v l) {e:TypeId}(g:h.b.get j=some (.cells cs e t)) (he:¬okE e t:=by simp[okE]):RI O (aO h j (.cells cs' e t)) v l:=by
 have k:Kp (fun i=>i=j) (fun i=>i=j) h (aO h j (.cells cs' e t)):=.set rfl;have ne:¬fT v j:=fun b=>by obtain⟨cs,e,u,g',ne⟩:=(r.b j b).2;rw[g]at g';cases g';exact he ne
 have c:Cl (fun i=>i=j) v:=by obtain⟨a,n,c,e,h1,h2,h3,h4⟩:=r.c;exact⟨a,n,c,e,h1,h2,fun i b (e:i=j)=>ne (e▸b),h4⟩
 have:=RI.kp (O:=fun i=>i=j) ⟨r.r,c,r.b⟩ k;exact⟨this.r,r.c,this.b⟩
theorem RS.loc {O:Nat→Prop}{sz:Nat}{v:Value}{rows:List (List Value)}{j:Nat}{cs cs':List Value}{t:Bool}(r:RS O sz h v rows) {e:TypeId}(g:h.b.get j=some (.cells cs e t)) (he:¬okE e t:=by simp[okE]):RS O sz (aO h j (.cells cs' e t)) v rows:=by
 have k:Kp (fun i=>i=j) (fun i=>i=j) h (aO h j (.cells cs' e t)):=.set rfl;have ne:¬fT v j:=fun b=>by obtain⟨cs,e,u,g',ne⟩:=(r.b j b).2;rw[g]at g';cases g';exact he ne
 have c:Cl (fun i=>i=j) v:=by obtain⟨a,n,c,e,h1,h2,h3,h4⟩:=r.c;exact⟨a,n,c,e,h1,h2,fun i b (e:i=j)=>ne (e▸b),h4⟩
 have:=RS.kp (O:=fun i=>i=j) ⟨r.r,c,r.b⟩ k;exact⟨this.r,r.c,this.b⟩
theorem St.loc {j:Nat}{cs cs':List Value}{t:Bool}(s:St a V h M) {e:TypeId}(g:h.b.get j=some (.cells cs e t)) (ho:¬own a V j) (he:¬okE e t:=by simp[okE]) (h3:e≠3:=by decide) (h135:e≠135:=by decide):St a V (aO h j (.cells cs' e t)) M:=by
 have ne:∀ {i:Nat},own a V i→i≠j:=fun o e=>ho (e▸o);have bM:∀ {i:Nat}{cs:List Value}{e':TypeId}{u:Bool},own a V i→h.b.get i=some (.cells cs e' u)→(aO h j (.cells cs' e t)).b.get i=some (.cells cs e' u):=fun o q=>(aC (ne o)).trans q
 exact { lt:=s.lt,cZ:=bM fE s.cZ,gs:=s.gs.imp fun _ q=>bM qe q,cl:=s.cl.imp fun _ q=>bM uj q,sh:=s.sh.imp fun _ q=>bM um q,ps:=s.ps.imp fun _ q=>bM pO q,
         fg:=s.fg.set g h3,fc:=s.fc.set g h3,fs:=s.fs.set g h3,ux:=s.ux,ax:=s.ax.set g h135,
         all:=s.all.loc g he,tm:=s.tm.loc g he,log:=s.log.loc g he,xU:=s.xU,xR:=fun p a b=>let r:=s.xR p a b;⟨r.ring.loc g he,r.next.loc g he,r.runs.loc g he,r.left,r.turns⟩,
         Bv:=s.Bv,Af:=fun p a b=>let r:=s.Af p a b;⟨r.gen,r.is,r.iP,r.ee,r.dH,r.ref.loc g he⟩,pr:=by obtain⟨vs,h1,h2,h33⟩:=s.pr;exact⟨vs,h1.loc g he,h2,fun i a b=>(h33 i a b).loc g he⟩ }
end
theorem rS {h h':ak}{i:Nat}{k:iY}(e:aO h i k=h'):h'.b.get i=some k:=e▸aF
theorem sW {h h':ak}{i:Nat}{k:iY}(e:aO h i k=h'):h'.n=h.n:=e▸rfl
open Go.Ev
open Pl
set_option maxRecDepth 100000
set_option maxHeartbeats 400000
section
variable {α:Type}{f:α→List Value}{sz:Nat}{l:List α}{h:ak}{b k j n:Nat}{e:TypeId}{t:Bool}{K:Value→ak→Prop}[iJ K]
theorem kX (hk:k<l.length):(l.map f).flatten=((l.take k).map f).flatten++(f l[k]++((l.drop (k+1)).map f).flatten):=by
 have:l=l.take k++(l[k]::l.drop (k+1)):=by rw[← kJ hk,iE]
 calc (l.map f).flatten=((l.take k++(l[k]::l.drop (k+1))).map f).flatten:=by rw[← this]
  _=_:=by simp only[fo,dT,jA,mG]
theorem pR (hf:∀ x,(f x).length=sz) (hk:k<l.length):(((l.take k).map f).flatten).length=k*sz:=by rw[gU (sz:=sz) _ (fun r hr=>by obtain ⟨x,_,rfl⟩:=bD.1 hr;exact hf x),aI,fp,jv (jG hk)]
theorem dC (hb:h.b.get b=some (.cells (l.map f).flatten e t)) (hbn:b<h.n) (hf:∀ x,(f x).length=sz) (hk:k<l.length) (hj:j+n≤sz) :
  av h ⟨b,k*sz+j,none⟩ n=some (((f l[k]).drop j).take n):=by
 refine aq hbn hb ?_ (by simp[hf];omega)
 rw[kX hk,pP,pR hf hk,mE (by rw[pR hf hk];omega),gy,Nat.add_sub_cancel_left,pP,hf,sO ah,eh,List.take_append,kg,hf,sO ah,iH,ei]
theorem gX (hb:h.b.get b=some (.cells (l.map f).flatten e t)) (hbn:b<h.n) (hf:∀ x,(f x).length=sz) (hk:k<l.length) (hj:j<sz) :
  cellAt h ⟨b,k*sz+j,none⟩=(f l[k])[j]?:=by
 have:=dC (n:=1) hb hbn hf hk (by omega:j+1≤sz)
 unfold cellAt
 rw[this]
 have h2:j<(f l[k]).length:=by rw[hf];exact hj
 rw[kJ h2,iX,iH,bw h2]
theorem jc {v:Value}{new:List Value}{y:α}(hb:h.b.get b=some (.cells (l.map f).flatten e t)) (hf:∀ x,(f x).length=sz) (hk:k<l.length) (hv:v.cells.toList=new) (hl:new.length=n) (ho:fV (f l[k]) j new=some (f y)) (h1:new.all aE=true) (hn:n≠0)
  (q:K undef (aO h b (.cells ((l.set k y).map f).flatten e t))):jQ n (.pointer (some ⟨b,k*sz+j,none⟩)) v h K:=by
 refine fa (cs':=((l.set k y).map f).flatten) hb hv hl ?_ h1 hn q
 obtain⟨hle,he⟩:=tv _ _ _ _ ho
 have hne:new≠[]:=by intro e;rw[e]at hl;exact hn hl.symm
 have hle:j+new.length≤(f l[k]).length:=by rcases hle with e|e;exact absurd e hne;exact e
 have e1:f l[k]=(f l[k]).take j++(((f l[k]).drop j).take new.length++(f l[k]).drop (j+new.length)):=by rw[← nB,iE,iE]
 have e2:((l.set k y).map f).flatten=((l.take k).map f).flatten++(f y++((l.drop (k+1)).map f).flatten):=by rw[kX (l:=l.set k y) (k:=k) (by simpa using hk),Ax (aQ k),ze (cK k),cU]
 rw[e2,he,kX hk]
 have e3:(((l.take k).map f).flatten++(f l[k]).take j).length=k*sz+j:=by rw[dA,pR hf hk,fp];omega
 have:=pb new (((l.take k).map f).flatten++(f l[k]).take j) (((f l[k]).drop j).take new.length) ((f l[k]).drop (j+new.length)++((l.drop (k+1)).map f).flatten) (by simp;omega)
 rw[e3]at this
 rw[show ((l.take k).map f).flatten++(f l[k]++((l.drop (k+1)).map f).flatten)=((l.take k).map f).flatten++(f l[k]).take j++(((f l[k]).drop j).take new.length++((f l[k]).drop (j+new.length)++((l.drop (k+1)).map f).flatten)) by
  conv=>lhs;rw[e1]
  simp only[jB]]
 rw[this]
 simp only[jB]
end
theorem ja {α:Type}{f:α→List Value}{n:Nat}(hf:∀ x,(f x).length=n) (o:Ob α):(Ob.cells f o).length=n+2:=by simp[Ob.cells,hf]
section
variable {a:Ad}{V:VD}{h:ak}{M:MD}
theorem St.k0 (s:St a V h M):cellAt h ⟨a.m,0,none⟩=some (.int .i64 (M.cfg.ps:Int)):=ay (s.lt _ fE) s.cZ rfl
theorem St.k6 (s:St a V h M):cellAt h ⟨a.m,6,none⟩=some (.int .i64 (M.cfg.bP:Int)):=ay (s.lt _ fE) s.cZ rfl
theorem St.Ss (s:St a V h M):cellAt h ⟨a.m,14,none⟩=some V.cG:=ay (s.lt _ fE) s.cZ rfl
theorem St.Sy (s:St a V h M):cellAt h ⟨a.m,15,none⟩=some (.int .u64 (M.now:Int)):=ay (s.lt _ fE) s.cZ rfl
theorem St.M6 (s:St a V h M):cellAt h ⟨a.m,17,none⟩=some (.slice (some ⟨a.g,0,none⟩) M.gs.length M.gs.length):=ay (s.lt _ fE) s.cZ rfl
theorem St.k18 (s:St a V h M):cellAt h ⟨a.m,18,none⟩=some V.fg:=ay (s.lt _ fE) s.cZ rfl
theorem St.k19 (s:St a V h M):cellAt h ⟨a.m,19,none⟩=some (.slice (some ⟨a.c,0,none⟩) M.cl.length M.cl.length):=ay (s.lt _ fE) s.cZ rfl
theorem St.k20 (s:St a V h M):cellAt h ⟨a.m,20,none⟩=some V.fc:=ay (s.lt _ fE) s.cZ rfl
theorem St.k21 (s:St a V h M):cellAt h ⟨a.m,21,none⟩=some (.slice (some ⟨a.s,0,none⟩) M.sh.length M.sh.length):=ay (s.lt _ fE) s.cZ rfl
theorem St.k22 (s:St a V h M):cellAt h ⟨a.m,22,none⟩=some V.fs:=ay (s.lt _ fE) s.cZ rfl
theorem St.mD (s:St a V h M):cellAt h ⟨a.m,23,none⟩=some V.ax:=ay (s.lt _ fE) s.cZ rfl
theorem St.LV (s:St a V h M):cellAt h ⟨a.m,25,none⟩=some (.slice (some ⟨a.p,0,none⟩) M.ps.length M.ps.length):=ay (s.lt _ fE) s.cZ rfl
theorem St.Dn (s:St a V h M):cellAt h ⟨a.m,26,none⟩=some V.all:=ay (s.lt _ fE) s.cZ rfl
theorem St.LF (s:St a V h M):cellAt h ⟨a.m,27,none⟩=some V.tm:=ay (s.lt _ fE) s.cZ rfl
theorem St.k28 (s:St a V h M):cellAt h ⟨a.m,28,none⟩=some V.log:=ay (s.lt _ fE) s.cZ rfl
theorem p_ {b n:Nat}:sl b n=.slice (some ⟨b,0,none⟩) n n:=rfl
theorem Dz {o:Nat}(s:St a V h M) (ho:o<30):cellAt h ⟨a.m,o,none⟩=(cL a V M)[o]?:=by have hl:(cL a V M).length=30:=rfl;rw[bw ah];exact ay (s.lt _ fE) s.cZ (bw ah)
theorem DZ {v:Value}{o:Nat}{K:Value→Prop}(k:K v) (s:St a V h M:=by with_reducible assumption) (q:(cL a V M)[o]?=some v:=by simp only[cL,p_,cu,cR];rfl):de (cellAt h ⟨a.m,o,none⟩) K:=⟨v,ay (s.lt _ fE) s.cZ q,k⟩
theorem St.Gt (s:St a V h M) {p:Nat}(hp:p<M.ps.length):∃ w,∃ hv:p<V.ps.length,w=V.ps[p]∧IY (own a V) h w M.ps[p]∧cellAt h ⟨a.p,p*5,none⟩=some w.ring∧cellAt h ⟨a.p,p*5+1,none⟩=some w.next∧cellAt h ⟨a.p,p*5+2,none⟩=some w.runs ∧
  cellAt h ⟨a.p,p*5+3,none⟩=some (.int .i64 M.ps[p].left)∧cellAt h ⟨a.p,p*5+4,none⟩=some (.int .u64 M.ps[p].turns)∧av h ⟨a.p,p*5,none⟩ 5=some [w.ring,w.next,w.runs,.int .i64 M.ps[p].left,.int .u64 M.ps[p].turns]:=by
 have hv:p<V.ps.length:=by rw[s.xU];exact hp
 obtain⟨t,hb⟩:=s.ps
 have r:=s.xR p hv hp
 have hn:=s.lt _ pO
 have hf:∀ x:PW,x.cells.length=5:=fun _=>rfl
 refine⟨V.ps[p],hv,rfl,r,gX (j:=0) hb hn hf hv ao,gX hb hn hf hv ao,gX hb hn hf hv ao,?_,?_,?_⟩
 ·rw[← r.left];exact gX hb hn hf hv ao
 ·rw[← r.turns];exact gX hb hn hf hv ao
 ·rw[← r.left,← r.turns];exact dC (j:=0) (n:=5) hb hn hf hv ao
theorem St.gC (s:St a V h M) {k:Nat}(hk:k<M.gs.length) (j:Nat) (hj:j<21):cellAt h ⟨a.g,k*21+j,none⟩=(Ob.cells GD.cells M.gs[k])[j]?:=by obtain⟨t,hb⟩:=s.gs;exact gX hb (s.lt _ qe) (ja (n:=19) fun _=>rfl) hk hj
theorem St.gN (s:St a V h M) {k:Nat}(hk:k<M.gs.length):av h ⟨a.g,k*21+2,none⟩ 19=some M.gs[k].x.cells:=by obtain⟨t,hb⟩:=s.gs;exact dC (j:=2) (n:=19) hb (s.lt _ qe) (ja (n:=19) fun _=>rfl) hk ao
theorem St.gA (s:St a V h M) {k:Nat}(hk:k<M.gs.length):av h ⟨a.g,k*21,none⟩ 21=some (Ob.cells GD.cells M.gs[k]):=by obtain⟨t,hb⟩:=s.gs;exact dC (j:=0) (n:=21) hb (s.lt _ qe) (ja (n:=19) fun _=>rfl) hk ao
theorem St.sC (s:St a V h M) {k:Nat}(hk:k<M.sh.length) (j:Nat) (hj:j<9):cellAt h ⟨a.s,k*9+j,none⟩=(Ob.cells SD.cells M.sh[k])[j]?:=by obtain⟨t,hb⟩:=s.sh;exact gX hb (s.lt _ um) (ja (n:=7) fun _=>rfl) hk hj
theorem St.sA (s:St a V h M) {k:Nat}(hk:k<M.sh.length):av h ⟨a.s,k*9,none⟩ 9=some (Ob.cells SD.cells M.sh[k]):=by obtain⟨t,hb⟩:=s.sh;exact dC (j:=0) (n:=9) hb (s.lt _ um) (ja (n:=7) fun _=>rfl) hk ao
theorem St.Bi (s:St a V h M) {k:Nat}(hk:k<M.cl.length):∃ w,∃ hv:k<V.cl.length,w=V.cl[k]∧Eg (own a V) h w M.cl[k]∧(∀ j,j<6→cellAt h ⟨a.c,k*6+j,none⟩=(Ob.cells XW.cells w)[j]?)∧av h ⟨a.c,k*6,none⟩ 6=some (Ob.cells XW.cells w):=by
 have hv:k<V.cl.length:=by rw[s.Bv];exact hk
 obtain⟨t,hb⟩:=s.cl;exact⟨V.cl[k],hv,rfl,s.Af k hv hk,fun j hj=>gX hb (s.lt _ uj) (ja (n:=4) fun _=>rfl) hv hj,dC (j:=0) (n:=6) hb (s.lt _ uj) (ja (n:=4) fun _=>rfl) hv ao⟩
end
section
variable {a:Ad}{V:VD}{h:ak}{M:MD}{K:Value→ak→Prop}[iJ K] {p:Nat}
theorem oe (s:St a V h M) (hp:p<M.ps.length) {v:Value}{l:List Nat}{i:Nat}(hi:i=p*5+0) (r:RI (own a V) h v l) (q:∀ V' h',St a V' h' { M with ps:=M.ps.set p { M.ps[p]with ring:=l } }→Kp (own a V) (own a V') h h'→h'.n=h.n→K undef h'):jQ 1 (.pointer (some ⟨a.p,i,none⟩)) v h K:=by
 subst hi;obtain⟨t,hb⟩:=s.ps;have hv:p<V.ps.length:=by rw[s.xU];exact hp
 obtain⟨_,_,_,e,_⟩:=r.c;have rr:=s.xR p hv hp;have:=s.Ip (p:=p) (t:=t) (w:={ V.ps[p]with ring:=v }) (x:={ M.ps[p]with ring:=l }) { rr with ring:=r };exact jc (y:={ V.ps[p]with ring:=v }) (j:=0) hb (fun _=>rfl) hv (new:=[v]) (by rw[e];rfl) rfl rfl (by rw[e];rfl) ao (q _ _ this.1 this.2 rfl)
theorem oF (s:St a V h M) (hp:p<M.ps.length) {v:Value}{l:List Nat}{i:Nat}(hi:i=p*5+1) (r:RI (own a V) h v l) (q:∀ V' h',St a V' h' { M with ps:=M.ps.set p { M.ps[p]with next:=l } }→Kp (own a V) (own a V') h h'→h'.n=h.n→K undef h'):jQ 1 (.pointer (some ⟨a.p,i,none⟩)) v h K:=by
 subst hi;obtain⟨t,hb⟩:=s.ps;have hv:p<V.ps.length:=by rw[s.xU];exact hp
 obtain⟨_,_,_,e,_⟩:=r.c;have rr:=s.xR p hv hp;have:=s.Ip (p:=p) (t:=t) (w:={ V.ps[p]with next:=v }) (x:={ M.ps[p]with next:=l }) { rr with next:=r };exact jc (y:={ V.ps[p]with next:=v }) (j:=1) hb (fun _=>rfl) hv (new:=[v]) (by rw[e];rfl) rfl rfl (by rw[e];rfl) ao (q _ _ this.1 this.2 rfl)
theorem J7 (s:St a V h M) (hp:p<M.ps.length) {v:Value}{l:List Nat}{i:Nat}(hi:i=p*5+2) (r:RI (own a V) h v l) (q:∀ V' h',St a V' h' { M with ps:=M.ps.set p { M.ps[p]with runs:=l } }→Kp (own a V) (own a V') h h'→h'.n=h.n→K undef h'):jQ 1 (.pointer (some ⟨a.p,i,none⟩)) v h K:=by
 subst hi;obtain⟨t,hb⟩:=s.ps;have hv:p<V.ps.length:=by rw[s.xU];exact hp
 obtain⟨_,_,_,e,_⟩:=r.c;have rr:=s.xR p hv hp;have:=s.Ip (p:=p) (t:=t) (w:={ V.ps[p]with runs:=v }) (x:={ M.ps[p]with runs:=l }) { rr with runs:=r };exact jc (y:={ V.ps[p]with runs:=v }) (j:=2) hb (fun _=>rfl) hv (new:=[v]) (by rw[e];rfl) rfl rfl (by rw[e];rfl) ao (q _ _ this.1 this.2 rfl)
theorem JV (s:St a V h M) (hp:p<M.ps.length) {n:Int}{i:Nat}(hi:i=p*5+3) (q:∀ V' h',St a V' h' { M with ps:=M.ps.set p { M.ps[p]with left:=n } }→Kp (own a V) (own a V') h h'→h'.n=h.n→K undef h'):jQ 1 (.pointer (some ⟨a.p,i,none⟩)) (.int .i64 n) h K:=by
 subst hi;obtain⟨t,hb⟩:=s.ps;have hv:p<V.ps.length:=by rw[s.xU];exact hp
 have rr:=s.xR p hv hp;have:=s.Ip (p:=p) (t:=t) (w:={ V.ps[p]with left:=n }) (x:={ M.ps[p]with left:=n }) { rr with left:=rfl };exact jc (y:={ V.ps[p]with left:=n }) (j:=3) hb (fun _=>rfl) hv (new:=[.int .i64 n]) rfl rfl rfl rfl ao (q _ _ this.1 this.2 rfl)
theorem Qp (s:St a V h M) (hp:p<M.ps.length) {n:Int}{i:Nat}(hi:i=p*5+4) (q:∀ V' h',St a V' h' { M with ps:=M.ps.set p { M.ps[p]with turns:=n } }→Kp (own a V) (own a V') h h'→h'.n=h.n→K undef h'):jQ 1 (.pointer (some ⟨a.p,i,none⟩)) (.int .u64 n) h K:=by
 subst hi;obtain⟨t,hb⟩:=s.ps;have hv:p<V.ps.length:=by rw[s.xU];exact hp
 have rr:=s.xR p hv hp;have:=s.Ip (p:=p) (t:=t) (w:={ V.ps[p]with turns:=n }) (x:={ M.ps[p]with turns:=n }) { rr with turns:=rfl };exact jc (y:={ V.ps[p]with turns:=n }) (j:=4) hb (fun _=>rfl) hv (new:=[.int .u64 n]) rfl rfl rfl rfl ao (q _ _ this.1 this.2 rfl)
theorem xL (s:St a V h M) {v:Value}{l:List Nat}(r:RI (own a V) h v l) (q:∀ V' h',St a V' h' { M with all:=l }→Kp (own a V) (own a V') h h'→h'.n=h.n→K undef h'):jQ 1 (.pointer (some ⟨a.m,26,none⟩)) v h K:=by obtain⟨_,_,_,e,_⟩:=r.c;have:=s.FT (now:=M.now) (aX:=M.aX) (cw:=M.cw) (calls:=M.calls) r s.tm s.log;exact fa (off:=26) (l:=[v]) s.cZ (by rw[e];rfl) rfl rfl (by rw[e];rfl) ao (q _ _ this.1 this.2 rfl)
theorem WU (s:St a V h M) {v:Value}{l:List TD}(r:RS (own a V) 2 h v (l.map TD.cells)) (q:∀ V' h',St a V' h' { M with tm:=l }→Kp (own a V) (own a V') h h'→h'.n=h.n→K undef h'):jQ 1 (.pointer (some ⟨a.m,27,none⟩)) v h K:=by obtain⟨_,_,_,e,_⟩:=r.c;have:=s.FT (now:=M.now) (aX:=M.aX) (cw:=M.cw) (calls:=M.calls) s.all r s.log;exact fa (off:=27) (l:=[v]) s.cZ (by rw[e];rfl) rfl rfl (by rw[e];rfl) ao (q _ _ this.1 this.2 rfl)
theorem st_log (s:St a V h M) {v:Value}{l:List LD}(r:RS (own a V) 12 h v (l.map LD.cells)) (q:∀ V' h',St a V' h' { M with log:=l }→Kp (own a V) (own a V') h h'→h'.n=h.n→K undef h'):jQ 1 (.pointer (some ⟨a.m,28,none⟩)) v h K:=by obtain⟨_,_,_,e,_⟩:=r.c;have:=s.FT (now:=M.now) (aX:=M.aX) (cw:=M.cw) (calls:=M.calls) s.all s.tm r;exact fa (off:=28) (l:=[v]) s.cZ (by rw[e];rfl) rfl rfl (by rw[e];rfl) ao (q _ _ this.1 this.2 rfl)
theorem st_now (s:St a V h M) {n:Nat}(q:∀ V' h',St a V' h' { M with now:=n }→Kp (own a V) (own a V') h h'→h'.n=h.n→K undef h'):jQ 1 (.pointer (some ⟨a.m,15,none⟩)) (.int .u64 (n:Int)) h K:=by have:=s.FT (now:=n) (aX:=M.aX) (cw:=M.cw) (calls:=M.calls) s.all s.tm s.log;exact fa (off:=15) (l:=[.int .u64 (n:Int)]) s.cZ rfl rfl rfl rfl ao (q _ _ this.1 this.2 rfl)
theorem Uf (s:St a V h M) {n:Nat}(q:∀ V' h',St a V' h' { M with aX:=n }→Kp (own a V) (own a V') h h'→h'.n=h.n→K undef h'):jQ 1 (.pointer (some ⟨a.m,16,none⟩)) (.int .i64 (n:Int)) h K:=by have:=s.FT (now:=M.now) (aX:=n) (cw:=M.cw) (calls:=M.calls) s.all s.tm s.log;exact fa (off:=16) (l:=[.int .i64 (n:Int)]) s.cZ rfl rfl rfl rfl ao (q _ _ this.1 this.2 rfl)
theorem T' (s:St a V h M) {n:Nat}(q:∀ V' h',St a V' h' { M with cw:=n }→Kp (own a V) (own a V') h h'→h'.n=h.n→K undef h'):jQ 1 (.pointer (some ⟨a.m,24,none⟩)) (.int .i64 (n:Int)) h K:=by have:=s.FT (now:=M.now) (aX:=M.aX) (cw:=n) (calls:=M.calls) s.all s.tm s.log;exact fa (off:=24) (l:=[.int .i64 (n:Int)]) s.cZ rfl rfl rfl rfl ao (q _ _ this.1 this.2 rfl)
theorem Rb (s:St a V h M) {n:Nat}(q:∀ V' h',St a V' h' { M with calls:=n }→Kp (own a V) (own a V') h h'→h'.n=h.n→K undef h'):jQ 1 (.pointer (some ⟨a.m,29,none⟩)) (.int .u64 (n:Int)) h K:=by have:=s.FT (now:=M.now) (aX:=M.aX) (cw:=M.cw) (calls:=n) s.all s.tm s.log;exact fa (off:=29) (l:=[.int .u64 (n:Int)]) s.cZ rfl rfl rfl rfl ao (q _ _ this.1 this.2 rfl)
theorem lY (s:St a V h M) {k:Nat}(hk:k<M.gs.length) {i j n:Nat}{v:Value}{new:List Value}{y:Ob GD}(hi:i=k*21+j) (hv:v.cells.toList=new) (hl:new.length=n) (ho:fV (Ob.cells GD.cells M.gs[k]) j new=some (Ob.cells GD.cells y)) (h1:new.all aE=true) (hn:n≠0)
  (q:∀ h',St a V h' { M with gs:=M.gs.set k y }→Kp (own a V) (own a V) h h'→h'.n=h.n→K undef h'):jQ n (.pointer (some ⟨a.g,i,none⟩)) v h K:=by
 subst hi
 obtain⟨t,hb⟩:=s.gs
 have:=s.setG (gs:=M.gs.set k y) (t:=t) an
 exact jc (y:=y) hb (ja (n:=19) fun _=>rfl) hk hv hl ho h1 hn (q _ this.1 this.2 rfl)
theorem HQ (s:St a V h M) {k:Nat}(hk:k<M.sh.length) {i j n:Nat}{v:Value}{new:List Value}{y:Ob SD}(hi:i=k*9+j) (hv:v.cells.toList=new) (hl:new.length=n) (ho:fV (Ob.cells SD.cells M.sh[k]) j new=some (Ob.cells SD.cells y)) (h1:new.all aE=true) (hn:n≠0)
  (q:∀ h',St a V h' { M with sh:=M.sh.set k y }→Kp (own a V) (own a V) h h'→h'.n=h.n→K undef h'):jQ n (.pointer (some ⟨a.s,i,none⟩)) v h K:=by
 subst hi
 obtain⟨t,hb⟩:=s.sh
 have:=s.setS (sh:=M.sh.set k y) (t:=t) an
 exact jc (y:=y) hb (ja (n:=7) fun _=>rfl) hk hv hl ho h1 hn (q _ this.1 this.2 rfl)
theorem C6 (s:St a V h M) {k:Nat}(hk:k<M.cl.length) {i j n:Nat}{v:Value}{new:List Value}{w y:Ob XW}{x:Ob XD}(hi:i=k*6+j) (hw:∃ hv:k<V.cl.length,w=V.cl[k]) (hv:v.cells.toList=new) (hl:new.length=n) (ho:fV (Ob.cells XW.cells w) j new=some (Ob.cells XW.cells y)) (h1:new.all aE=true) (hn:n≠0)
  (r:Eg (own a V) h y x) (q:∀ V' h',St a V' h' { M with cl:=M.cl.set k x }→Kp (own a V) (own a V') h h'→h'.n=h.n→K undef h'):jQ n (.pointer (some ⟨a.c,i,none⟩)) v h K:=by
 subst hi
 obtain⟨hv',rfl⟩:=hw
 obtain⟨t,hb⟩:=s.cl
 have:=s.setC (p:=k) (t:=t) r
 exact jc (y:=y) hb (ja (n:=4) fun _=>rfl) hv' hv hl ho h1 hn (q _ _ this.1 this.2 rfl)
end
open Go.Ev
open Pl
set_option maxRecDepth 100000
set_option maxHeartbeats 400000
section
variable {E:Env}{t:TypeId}{K:Value→Prop}
theorem js {sz:Nat}{a:Option Addr}{n c:Nat}{k k':IntKind}(hs:kq E t=some sz) (hz:sz≠0) (hc:c≠fb) (h0:a=none→c=0) (hn:n≤c) (q:K (.slice a n n)) :
   dW E t (.slice a n c) none (some (.int k (n:Int))) (some (.int k' (n:Int))) K:=by
 cases a with
 | some a=>exact jV hs hz hc (aQ n) hn q
 | none =>
   obtain rfl:=h0 rfl
   obtain rfl:n=0:=ah
   unfold kq at hs
   split at hs
   · rename_i e hu;have f1:Nat.beq 0 fb=false:=rfl;have f2:Nat.beq 0 bh=false:=rfl;simp only[dW,hX,hu,f1,f2,cond_false,qL (aQ 0),hs,db,cond_true,nH,bu];exact q
   · cases hs
theorem uA {k:IntKind}{n c j:Nat}(h:j≤c):ia n c none (some (.int k (j:Int))) none=some (0,j,c):=by simp only[ia,lO,iL,kU h]
theorem Au {sz:Nat}{a:Addr}{n c j:Nat}{k:IntKind}(hs:kq E t=some sz) (hz:sz≠0) (hc:c≠fb) (hj:j≤n) (hn:n≤c) (q:K (.slice (some a) j c)) :
  dW E t (.slice (some a) n c) none (some (.int k (j:Int))) none K:=by
 unfold kq at hs
 split at hs
 ·rename_i e hu;have f2:Nat.beq c fb=false:=jn hc;have ha:a.add (0*sz)=a:=by simp[Addr.add]
  obtain⟨m,rfl⟩:∃ m,sz=m+1:=⟨sz-1,ah⟩;by_cases hU:c=bh;·subst hU;have f1:Nat.beq bh bh=true:=rfl;have f3:Nat.beq bh fb=false:=rfl;simp only[dW,hX,hu,f1,f3,cond_false,cond_true,uA hj,hs,db,bu];exact q
  ·have f1:Nat.beq c bh=false:=jn hU;simp only[dW,hX,hu,f1,f2,cond_false,uA (bO hj hn),hs,bS,ha,nh];have:(.slice (cond (Nat.beq c 0) (some a) (some a)) j c:Value)=.slice (some a) j c:=by cases Nat.beq c 0<;>rfl
   rw[this,bu];exact q
 ·cases hs
end
section
variable {h:ak}{K:Value→ak→Prop}[iJ K]
theorem jL {e:TypeId}{sz n m:Nat}{a:Option Addr}{y:Value}{cs new:List Value}(hn:n+m≤1000000) (h0:a=none→n=0) (hc:firstCells h sz n (.slice a n n)=some cs) (hy:lenOf y=some m) (hm:m≠0) (hsz:sz≠0)
   (hnew:firstCells h sz m y=some new) (hone:new.all aE=true) (k:K (.slice (some ⟨h.n,0,none⟩) (n+m) bh) (ai h (.cells (cs++new) e false))):iK e sz (.slice a n n) y h K:=by
 cases a with
 | some a=>exact ET (by unfold bh;omega) hc hy hm hn hnew hone k
 | none =>
   obtain rfl:=h0 rfl
   have hc0:cs=[]:=by simpa[firstCells]using hc.symm
   subst hc0
   simp only[iK,hy]
   refine⟨⟨ah,.inr hm⟩,fun h0=>absurd h0 hm,fun _=>?_⟩
   rw[hnew,bu]
   refine⟨hone,?_⟩
   have f1:Nat.beq 0 fb=false:=rfl
   have f2:Nat.beq 0 bh=false:=rfl
   have f3:Nat.ble m 0=false:=by
     cases hb:Nat.ble m 0 with
     | true=>have:=fX hb;omega
     | false=>rfl
   have:bW h e sz none 0 0 m new=some (.slice (some ⟨h.n,0,none⟩) m bh,ai h (.cells ([]++new) e false)):=by unfold bW;simp only[f1,f2,cond_false,firstCells,db,cond_true,cb,f3]
   rw[this,fj]
   rw[cb]at k
   exact k
variable {O:Nat→Prop}{N:Nat}
theorem Cl.same {v:Value}(r:Cl O v):(bt 50 v v=true)=True:=by
 obtain⟨a,n,c,rfl,_,_,_,h⟩:=r;cases a with
 | none=>exact At
 | some x =>
   have:=h x rfl
   obtain⟨i,o,sp⟩:=x
   simp only at this
   subst this
   exact Eb
theorem RI.iS {v:Value}{l:List Nat}(o:bT N h 3 v l.length (l.map bZ)) (hO:∀ j,O j→j<N) (hn:l.length≤100000):RI O h v l :=
 ⟨rG.own o hn,(tJ o hO).1,(tJ o hO).2⟩
theorem RI.cut {v:Value}{l:List Nat}(r:RI O h v l):∃ a c,v=.slice a l.length c∧c≠fb∧(a=none→c=0)∧l.length≤c∧c≤bh:=by obtain⟨a,n,c,e,h1,h2,_⟩:=r.c;obtain⟨a',c',e',h3,_⟩:=r.r;rw[e]at e';cases e';exact⟨a,c,e,fun e=>by rw[e]at h1;revert h1;decide,h2,h3,h1⟩
theorem Ck {a:Option Addr}{c:Nat}{l new:List Nat}{y:Value}(hO:∀ j,O j→j<N) (hN:N≤h.n) (r:rG h.n h (.slice a l.length c) l) (h0:a=none→c=0) (hc:l.length≤c) (hl:l.length+new.length≤50000) (hy:lenOf y=some new.length) (hm:new≠[]) (hnew:firstCells h 1 new.length y=some (new.map bZ))
  (k:∀ v' h',RI O h' v' (l++new)→bT h.n h' 3 v' (l.length+new.length) ((l++new).map bZ)→aw h.n h h'→h'.n=h.n+1→K v' h'):iK 3 1 (.slice a l.length l.length) y h K:=by
 have hcs:firstCells h 1 l.length (.slice a l.length l.length)=some (l.map bZ):=by
  by_cases e:l=[];·subst e;cases a<;>rfl
  ·obtain⟨a',c',e',_,q⟩:=r;cases e';obtain⟨_,i,o,rfl,_,q⟩:=q e;simpa only[firstCells,bQ]using q
 refine jL ah (fun e=>by have:=h0 e;omega) hcs hy (by intro e;exact hm (dq.1 e)) ao hnew (AL _) ?_
 have o:bT h.n (ai h (.cells (l.map bZ++new.map bZ) 3 false)) 3 (.slice (some ⟨h.n,0,none⟩) (l.length+new.length) bh) (l.length+new.length) ((l++new).map bZ):=by rw[fo];exact .row h.n _ _ a_ (by simp[ai]) (az _ _)
 refine k _ _ (RI.iS (N:=h.n) ?_ (fun j hj=>bX (hO j hj) hN) (by simp;omega)) o br rfl
 rw[dA];exact o
theorem Aq {a:Option Addr}{c g j:Nat}{l:List Nat}(hO:∀ j,O j→j<N) (hN:N≤h.n) (hj:j=h.n) (r:rG h.n h (.slice a l.length c) l) (h0:a=none→c=0) (hc:l.length≤c) (hl:l.length≤40000)
  (k:∀ v' h',RI O h' v' (l++[g])→bT h.n h' 3 v' (l.length+1) ((l++[g]).map bZ)→aw h.n h h'→h'.n=h.n+2→K v' h'):iK 3 1 (.slice a l.length l.length) (.slice (some ⟨j,0,none⟩) 1 1) (ai h (.cells [.int .i64 (g:Int)] 3 true)) K:=by
 subst hj
 have X:aw h.n h (ai h (.cells [.int .i64 (g:Int)] 3 true)):=br
 refine Ck (new:=[g]) hO (bO hN X.n) ((r.ext X).mono X.n) h0 hc (by simp;omega) rfl an ?_ fun v' h' r' o' x' n'=>k v' h' r' ?_ (X.trans (x'.mono X.n)) n'
 ·simp only[firstCells,fk,dT,List.map_nil];exact aV rfl
 ·cases o' with
  | row i n cs h1 h2 h3=>exact .row i _ _ (bO X.n h1) h2 h3
end
open Go.Ev
open Pl
set_option maxRecDepth 100000
set_option maxHeartbeats 4000000
theorem qR {B:Nat}{O:Nat→Prop}{v:Value}{l:List Nat}{h:ak}{K:Value→ak→Prop}(r:rG B h v l) (hB:B≤h.n) (hN:l.length≤50000) (hO:∀ j,O j→j<h.n) (hK:∀ v' h',RI O h' v' l→aw h.n h h'→K v' h'):cy env (.func 98) [v] h K:=by
 refine F98 rfl ?_;obtain⟨a,c,rfl,_,q⟩:=id r;cases a with
 | none =>
   have hN0:l=[]:=by
     rcases l with _|⟨x,l⟩;· rfl
     · obtain⟨_,i,o,e,_⟩:=q an;cases e
   subst hN0
   have ww:=mW (aN @I_ @pD.{0})
   refine wk ?_
   exact hK _ h (RI.iS (N:=h.n) bT.nil hO an) (aw.refl _ _)
 | some a =>
   have ww:=mW (aN @I_ @ti.{0})
   refine wk ?_
   have X1:aw h.n h (ai h (.cells [] 3 true)):=br
   have hn1:(ai h (.cells [] 3 true)).n=h.n+1:=rfl
   refine lN (l:=[]) rfl ?_
   generalize ai h (.cells [] 3 true)=h1 at X1 hn1 ⊢
   refine wk ?_
   refine o0 (bT.emp (B:=h.n) h.n (by omega)) (by omega) rfl rfl (by omega) (fun h0=>((r.ext (X1.mono hB)).first h0)) (by simp) (AL l) (by decide) fun v' h' o X2=>?_
   rw[cb,gy]at o
   have n2:=X2.n
   refine wk ?_
   exact hK v' h' (RI.iS o hO ah) (X1.trans X2)
theorem dI {O:Nat→Prop}{v:Value}{l:List Nat}{g:Nat}{h:ak}{K:Value→ak→Prop}(r0:RI O h v l) (hO:∀ j,O j→j<h.n) (hl:l.length≤100000)
  (hK:∀ v' h',RI O h' v' (l.erase g)→aw h.n h h'→K v' h'):cy env (.func 111) [v,iv g] h K:=by
 have r:=r0.r
 obtain⟨pa,pc,rfl,hcap,_⟩:=id r
 refine F111 rfl ?_
 refine wk ?_
 refine BW r hl ?_
 rcases IN l g with ⟨e,hg⟩|⟨k,hk,e,hg,hp⟩
 ·rw[e];refine wk ?_;refine hK _ h ?_ (aw.refl _ _);rw[List.erase_of_not_mem hg];exact r0
 ·rw[e];obtain⟨a0,c0,e0,_,q0⟩:=id r;cases e0;obtain⟨hu,i,o,rfl,hi,hcs⟩:=q0 (by intro e;rw[e]at hk;cases hk);have he:=Gd hk hg hp;have w1:=rU k;have ww:=mW @vq;refine wk ?_;refine jV jS ao hu (jG hk) hcap ?_;have ww:=ww.a @w1;refine wk ?_;refine kV jS ao hu ah hcap fun a' c' ha hc' _=>?_;refine wk ?_;have hcl:∀ (j m:Nat),j+m≤l.length→m≠0→av h (ad i (o+j)) m=some (((l.drop j).take m).map bZ):=by
   intro j m hjm hm;have hlen:(((l.drop j).take m).map bZ).length=m:=by simp;omega
   have:=jY (h:=h) (b:=i) (off:=o+j) (((l.drop j).take m).map bZ) (by intro e;rw[e]at hlen;exact hm hlen.symm) fun x v e=>by
    rw[nu];have hx:x<m:=by have:=(cQ.1 e).1;omega
    refine dk hcs ?_;rw[ie,jx hx,kH,← ie]at e;exact e
   rw[hlen]at this;exact this
  by_cases hm:l.length-(k+1)=0
  ·have hd:l.drop (k+1)=[]:=mE ah;rw[hd,ei]at he;rw[hm];refine⟨⟨ah,.inl a_⟩,fun _=>?_,fun h=>absurd rfl h⟩;refine wk ?_;refine hK _ h ?_ (aw.refl _ _);rw[he];have hlk:(l.take k).length=k:=by simp;omega
   refine⟨⟨_,k,by rw[hlk],ah,fun hne=>⟨by unfold fb;omega,i,o,rfl,ah,?_⟩⟩,⟨_,_,_,rfl,by unfold bh;omega,(fun e=>by cases e),fun j bj=>?_,fun x e=>by cases e;rfl⟩,fun j bj=>?_⟩;rotate_left;·obtain⟨x,e,rfl,_⟩:=aU.1 bj;cases e;obtain⟨_,_,_,_,_,_,h3,_⟩:=r0.c;exact h3 i ⟨_,_,_,rfl,rfl,ah⟩
   ·obtain⟨x,e,rfl,_⟩:=aU.1 bj;cases e;exact r0.b i ⟨_,_,_,rfl,rfl,ah⟩
   have:=hcl 0 k ah (by intro e;subst e;exact hne rfl);rw[hlk];simpa using this
  ·obtain rfl:=ha ah;have hr:(l.drop (k+1)).take (l.length-(k+1))=l.drop (k+1):=wz an;have h2:=hcl (k+1) (l.length-(k+1)) ah hm;rw[hr]at h2;have h1:firstCells h 1 k (.slice (some ⟨i,o,none⟩) k k)=some ((l.take k).map bZ):=by
    by_cases hk0:k=0;·subst hk0;rfl
    ·have:=hcl 0 k ah hk0;simpa[firstCells]using this
   refine ET (cs:=(l.take k).map bZ) (new:=(l.drop (k+1)).map bZ) (m:=l.length-(k+1)) (by unfold bh;omega) h1 rfl hm ah (by simpa[firstCells,bQ]using h2) (AL _) ?_;obtain⟨hN,ehN⟩:=gz (ai h (.cells ((l.take k).map bZ++(l.drop (k+1)).map bZ) 3 false));have X1:=tW ehN;have g1:=Dj ehN;have n1:=qk ehN;rw[ehN];refine wk ?_;refine hK _ hN ?_ X1;rw[he];have hle:(l.take k++l.drop (k+1)).length=k+(l.length-(k+1)):=by simp;omega
   refine⟨⟨_,bh,by rw[hle],by rw[hle];unfold bh;omega,fun _=>⟨ao,h.n,0,rfl,ah,?_⟩⟩,.fresh (N:=h.n) a_ (fun e=>by cases e) hO (fun x e=>by cases e;exact⟨aQ _,rfl⟩),fun j bj=>?_⟩;rotate_left;·obtain⟨x,e,rfl,_⟩:=aU.1 bj;cases e;exact⟨by rw[n1];exact cK _,_,_,_,g1,ao⟩
   rw[hle];refine aq ah g1 ?_ (by rw[aI];exact hle);rw[← fo,eh,wz (by rw[aI,hle];exact aQ _)]
def MD.q (M:MD) (x:List Nat×List PD):MD:={ M with all:=x.1,ps:=x.2 }
def mp (a:Ad):Value:=.pointer (some ⟨a.m,0,none⟩)
theorem nJ {B sz n i o c:Nat}{h h':ak}{l:List Value}(x:aw B h h') (hi:i<B) (e:firstCells h sz n (.slice (some ⟨i,o,none⟩) n c)=some l):firstCells h' sz n (.slice (some ⟨i,o,none⟩) n c)=some l:=by simp only[firstCells]at e ⊢;exact aG x hi e
theorem rG.take {B:Nat}{h:ak}{a:Option Addr}{n c k:Nat}{l:List Nat}(r:rG B h (.slice a n c) l) (hk:k≤l.length):rG B h (.slice a k c) (l.take k):=by
 obtain⟨a',c',e,hc,q⟩:=r;cases e;have hl:(l.take k).length=k:=by rw[fp,jv hk]
 refine⟨_,_,by rw[hl],ah,fun hne=>?_⟩;have hne':l≠[]:=by intro e;subst e;simp at hne
 obtain⟨u,i,o,rfl,hi,hcs⟩:=q hne';refine⟨u,i,o,rfl,hi,?_⟩;have:=jY (h:=h) (b:=i) (off:=o) ((l.take k).map bZ) (by simpa using hne) fun x v e=>by
  rw[ie]at e;have hx:x<k:=by
   have:x<(l.take k).length:=by
    cases e1:(l.take k)[x]? with
    | none=>rw[e1]at e;cases e
    | some y=>exact(cQ.1 e1).1
   omega
  refine dk hcs ?_;rw[jx hx,← ie]at e;exact e
 rw[aI]at this;exact this
theorem rG.drop {B:Nat}{h:ak}{i o c k:Nat}{l:List Nat}(hi:i<B) (hcs:av h (ad i o) l.length=some (l.map bZ)) (hk:k≤l.length) (hc:l.length-k≤c) (hu:c≤bh):rG B h (.slice (some ⟨i,o+k*1,none⟩) (l.length-k) c) (l.drop k):=by
 have hl:(l.drop k).length=l.length-k:=an;refine⟨_,_,by rw[hl],ah,fun hne=>⟨fun e=>by rw[e]at hu;revert hu;decide,i,_,rfl,hi,?_⟩⟩;have:=jY (h:=h) (b:=i) (off:=o+k*1) ((l.drop k).map bZ) (by simpa using hne) fun x v e=>by rw[bQ,nu];refine dk hcs ?_;rw[ie,kH,← ie]at e;exact e
 rw[aI]at this;exact this
theorem Dw {a:Ad}{V:VD}{h:ak}{M:MD}{p g:Nat}{K:Value→ak→Prop}(s:St a V h M) (hp:p<M.ps.length) (hr:M.ps[p].ring.length≤5000) (ha:M.all.length≤5000) (hR:M.cfg.ring≤5000) (hR2:2≤M.cfg.ring)
  (hK:∀ V' h',St a V' h' (M.q (kO M.cfg.ring M.all M.ps p g))→Kp (own a V) (own a V') h h'→K (dE []) h'):cy env (.func 77) [mp a,iv p,iv g] h K:=by
 obtain⟨w,hv,hw,r,c0,c1,c2,c3,c4,_⟩:=s.Gt hp
 obtain⟨ra,rc,re,r1,r2,r3,_⟩:=r.ring.cut
 have e:M.ps[p]?=some M.ps[p]:=bw hp
 unfold mp
 refine F77 rfl ?_
 by_cases aT:M.ps[p].ring.length<M.cfg.ring
 ·rw[re]at c0;have ww:=mW (aN @c0 @cb);refine wk ?_;refine js jS ao r1 r2 r3 ?_;refine wk ?_;refine Aq (O:=own a V) s.lt a_ rfl (re▸r.ring.r) r2 r3 ah fun v1 h1 q1 _ x1 n1=>?_;refine wk ?_;refine oe (s.ext x1) hp ah q1 fun V2 h2 s2 k2 _=>?_;refine wk ?_;have:kO M.cfg.ring M.all M.ps p g=(M.all,M.ps.set p { M.ps[p]with ring:=M.ps[p].ring++[g] }):=by simp only[kO,e,if_pos aT]
  rw[this]at hK;exact hK _ _ s2 ((Kp.ext x1).trans k2)
 ·have hhalf:(M.cfg.ring+1) / 2≤M.ps[p].ring.length:=ah;obtain⟨aa,ac,ae,a1,a2,a3,_⟩:=s.all.cut;have Dn:=s.Dn;rw[re]at c0;rw[ae]at Dn;have w1:IntKind.wrap .i64 ((M.cfg.ring:Int)+1)=((M.cfg.ring+1:Nat):Int):=bC ah;have w2:IntKind.wrap .i64 (((M.cfg.ring+1:Nat):Int).tdiv 2)=(((M.cfg.ring+1) / 2:Nat):Int):=by rw[show (2:Int)=((2:Nat):Int) from rfl,← Int.ofNat_tdiv];exact wrap_i64 ah ah
  have hne:M.ps[p].ring≠[]:=by intro e;rw[e]at aT;simp at aT;omega
  obtain⟨_,_,e',_,q⟩:=r.ring.r;rw[re]at e';cases e';obtain⟨_,i,o,rfl,hi,hcs⟩:=q hne;have ww:=mW (aN (aN @c0 @cb) (aN @w1 @w2));refine wk ?_;refine js jS ao a1 a2 a3 ?_;refine wk ?_;refine Au jS ao r1 hhalf r3 ?_;refine wk ?_;have hft:firstCells h 1 ((M.cfg.ring+1) / 2) (.slice (some ⟨i,o,none⟩) ((M.cfg.ring+1) / 2) rc)=some ((M.ps[p].ring.take ((M.cfg.ring+1) / 2)).map bZ):=by
   have:=rG.first (l:=M.ps[p].ring.take ((M.cfg.ring+1) / 2)) (B:=h.n) (h:=h) (v:=.slice (some ⟨i,o,none⟩) ((M.cfg.ring+1) / 2) rc) ?_ (by rw[fp,jv hhalf];omega)
   ·rw[fp,jv hhalf]at this;exact this
   ·exact rG.take (re▸r.ring.r) hhalf
  have hlt':(M.ps[p].ring.take ((M.cfg.ring+1) / 2)).length=(M.cfg.ring+1) / 2:=by rw[fp,jv hhalf]
  obtain⟨h0,eh0⟩:=gz (ai h (.cells [iv g] 3 true));have X0:=tW eh0;have d0:av h0 (ad h.n 0) 1=some [bZ g]:=eh0▸(aV rfl);have S0:=s.new (.cells [iv g] 3 true);have n0:=qk eh0;have hft0:=nJ X0 hi hft;change iK 3 1 _ _ (ai h (.cells [iv g] 3 true)) _;rw[eh0];try rw[eh0]at S0;try rw[eh0]at hft0
  refine Ck (O:=own a V) (new:=M.ps[p].ring.take ((M.cfg.ring+1) / 2)) S0.lt a_ (ae▸S0.all.r) a2 a3 ah (by rw[hlt'];rfl) (by intro e;rw[e]at hlt';simp at hlt';omega) (by rw[hlt'];exact hft0) fun v1 h1 q1 o1 x1 n1=>?_;refine wk ?_;refine o0 (m:=1) (new:=[bZ g]) o1 ah an rfl ah (fun _=>aG x1 ah d0) rfl rfl ao fun v2 h2 o2 x2=>?_;have X2:=(X0.jI x1).trans (x2.mono ah);have n2:=x2.n;have q2:RI (own a V) h2 v2 (M.all++M.ps[p].ring.take ((M.cfg.ring+1) / 2)++[g]):=RI.iS (N:=h0.n) (by rw[fo,dA,dA];exact o2) S0.lt (by rw[dA,dA,hlt'];simp;omega);refine wk ?_;refine xL (s.ext X2) q2 fun V3 h3 s3 k3 n3=>?_;obtain⟨w3,hv3,hw3,r3',c30,_⟩:=s3.Gt hp;obtain⟨ra3,rc3,re3,b1,b2,b3,b4⟩:=r3'.ring.cut;obtain⟨_,_,e',_,q⟩:=r3'.ring.r;rw[re3]at e';cases e';obtain⟨_,i3,o3,rfl,hi3,hcs3⟩:=q hne;rw[re3]at c30;simp only[]at c30;have ww:=ww.a @c30;refine wk ?_;refine kV jS ao b1 hhalf b3 fun a' c' ha hc' hu'=>?_;have hlt2:(M.cfg.ring+1) / 2<M.ps[p].ring.length:=ah;obtain rfl:=ha hlt2;refine wk ?_;have rd:rG h3.n h3 (.slice (some ⟨i3,o3+(M.cfg.ring+1) / 2*1,none⟩) (M.ps[p].ring.length-(M.cfg.ring+1) / 2) c') (M.ps[p].ring.drop ((M.cfg.ring+1) / 2)) :=
   rG.drop hi3 hcs3 ah hc' (hu' hlt2 b4)
  refine qR rd a_ (by simp;omega) s3.lt fun v4 h4 q4 x4=>?_;have n4:=x4.n;refine wk ?_;refine oe (s3.ext x4) hp ah q4 fun V5 h5 s5 k5 _=>?_;refine wk ?_;have:kO M.cfg.ring M.all M.ps p g=(M.all++M.ps[p].ring.take ((M.cfg.ring+1) / 2)++[g],M.ps.set p { M.ps[p]with ring:=M.ps[p].ring.drop ((M.cfg.ring+1) / 2) }):=by simp only[kO,e,if_neg aT]
  rw[this]at hK;exact hK _ _ s5 (((Kp.ext X2).trans k3).trans ((Kp.ext x4).trans k5))
end Go.Proofs.YthjlppdnlahhoaaGreat
