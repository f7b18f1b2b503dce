import Derived.Test.YtkhpobekconobaaGreatHAT
set_option linter.all false
set_option maxRecDepth 100000
set_option maxHeartbeats 0
namespace Go.Proofs.YtkhpobekconobaaGreat
open Go.RowKit
structure KO (g q:aF) (W V:Nat):Prop where
 mq:lM g q W V
 nW:W<=100
 nV:V<=100
 nG:g.ah.length<=60
 nQ:q.ah.length<=60
 lg:∀e∈g.ah,e.aj.length<=2/\e.ay.length<=2
 lq:∀e∈q.ah,e.aj.length<=2/\e.ay.length<=2
 go:(g.ah.flatMap aO.ay).Nodup
 gi:(g.ah.flatMap aO.aj).Nodup
 qo:(q.ah.flatMap aO.ay).Nodup
 qi:(q.ah.flatMap aO.aj).Nodup
def GwP (g q:aF) (W V:Nat) (ws es:List Int) (e0 f0:Nat) (w:World) (e:Ending) (w':World):Prop :=
 ∃(ok:Bool) (a:Option Addr) (c:Nat) (b:Option Addr) (d:Nat) (ws' es':List Int),e=.returned (.tuple #[.agg #[.slice a V c,.slice b q.ah.length d],.bool ok])/\Rw w' w.heap.size (.slice a V c) ws'/\Rw w' w.heap.size (.slice b q.ah.length d) es'/\Below w.heap.size w w'/\ws'.length=V/\es'.length=q.ah.length /\
  (ok=true->Cm g q W V ws' es'/\es'.getD e0 0=f0/\iq ws ws'/\iq es es'/\∀x,Goes g q ws es x->x.ah.getD e0 0=f0->Goes g q ws' es' x)/\(ok=false->y8 g q ws es e0 f0)
structure xw (g q:aF) (W V:Nat) (w wr:World) (lF lH:Array Value) (b1 b2:Nat) (wa:Option Addr) (wc:Nat) (ea:Option Addr) (ec:Nat) (tb:Value×Value×Value×Value) (ft:List Int×List Int×List Int×List Int) (v1 v2:Value) (ws es x1 x2:List Int):Prop where
 kg:Bk wr w.heap.size 33 lF
 kq:Bk wr (w.heap.size+1) 33 lH
 km:Bk wr (w.heap.size+2) 129 #[.slice wa V wc,.slice ea q.ah.length ec]
 kz:Bk wr (w.heap.size+3) 129 #[.slice none 0 0,.slice none 0 0]
 rw:Rw wr (w.heap.size+4) (.slice wa V wc) ws
 re:Rw wr (w.heap.size+4) (.slice ea q.ah.length ec) es
 ap:∀j,(Value.slice wa V wc).ownBlock=some j->(Value.slice ea q.ah.length ec).ownBlock≠some j
 lw:∀j,(Value.slice wa V wc).ownBlock=some j->j<b1
 le:∀j,(Value.slice ea q.ah.length ec).ownBlock=some j->j<b1
 t1:Rw wr b1 tb.1 ft.1
 t2:Rw wr b1 tb.2.1 ft.2.1
 t3:Rw wr b1 tb.2.2.1 ft.2.2.1
 t4:Rw wr b1 tb.2.2.2 ft.2.2.2
 l1:∀j,tb.1.ownBlock=some j->j<b2
 l2:∀j,tb.2.1.ownBlock=some j->j<b2
 l3:∀j,tb.2.2.1.ownBlock=some j->j<b2
 l4:∀j,tb.2.2.2.ownBlock=some j->j<b2
 q1:lZ wr b2 v1 x1
 q2:lZ wr b2 v2 x2
 qa:∀j,v1.ownBlock=some j->v2.ownBlock≠some j
 lo:w.heap.size+4<=b1
 mi:b1<=b2
 hi:b2<=wr.heap.size
 bel:Below w.heap.size w wr
theorem xw.keep {g q:aF} {W V:Nat} {w wr w':World} {lF lH:Array Value} {b1 b2:Nat} {wa ea:Option Addr} {wc ec:Nat} {tb:Value×Value×Value×Value} {ft:List Int×List Int×List Int×List Int} {v1 v2:Value} {ws es x1 x2:List Int}
  (h:xw g q W V w wr lF lH b1 b2 wa wc ea ec tb ft v1 v2 ws es x1 x2) (hb:Below wr.heap.size wr w'):xw g q W V w w' lF lH b1 b2 wa wc ea ec tb ft v1 v2 ws es x1 x2 :=
 ⟨h.kg.keep hb,h.kq.keep hb,h.km.keep hb,h.kz.keep hb,h.rw.keep hb,h.re.keep hb,h.ap,h.lw,h.le,h.t1.keep hb,h.t2.keep hb,h.t3.keep hb,h.t4.keep hb,h.l1,h.l2,h.l3,h.l4,h.q1.keep hb,h.q2.keep hb,h.qa,h.lo,h.mi,ZI h.hi hb.size,h.bel.trans (hb.mono h.bel.size)⟩
theorem xw.ac3 {g q:aF} {W V:Nat} {w wr:World} {lF lH:Array Value} {b1 b2:Nat} {wa ea:Option Addr} {wc ec:Nat} {tb:Value×Value×Value×Value} {ft:List Int×List Int×List Int×List Int} {v1 v2:Value} {ws es x1 x2:List Int}
  (h:xw g q W V w wr lF lH b1 b2 wa wc ea ec tb ft v1 v2 ws es x1 x2) (hl:es.length=q.ah.length) {k:Nat} (hk:k<q.ah.length) (z:Int) :
  ∃d,ea=some ⟨d,0,none⟩/\wr.cell? ⟨d,k,none⟩=some (.int .i64 (es.getD k 0))/\wr.frozen? ⟨d,k,none⟩=false/\xw g q W V w (wr.setCell ⟨d,k,none⟩ (.int .i64 z)) lF lH b1 b2 wa wc ea ec tb ft v1 v2 ws (es.set k z) x1 x2:=by
 obtain⟨d,c',e,hg,wK⟩:=h.re.block (by omega);simp only[Zx]at e;obtain⟨rfl,-,rfl⟩:=e;obtain⟨⟨d0,f0⟩,cZ⟩:=Rw.setAt h.re hl hk z;have hd:=h.le d rfl;have wS:=h.lo;have Dj:=h.mi;refine⟨d,rfl,by rw[d0,Zg,Zi];rfl,f0,h.kg.other _ _ (by simp only;omega),h.kq.other _ _ (by simp only;omega),h.km.other _ _ (by simp only;omega),h.kz.other _ _ (by simp only;omega),
  eP h.rw _ _ (λe=>h.ap d e rfl),cZ,h.ap,h.lw,h.le,eP h.t1 _ _ (λe=>by have:=(Zh h.t1 d e).1;omega),eP h.t2 _ _ (λe=>by have:=(Zh h.t2 d e).1;omega),eP h.t3 _ _ (λe=>by have:=(Zh h.t3 d e).1;omega),eP h.t4 _ _ (λe=>by have:=(Zh h.t4 d e).1;omega),h.l1,h.l2,h.l3,h.l4,
  h.q1.other _ _ (λe=>by have:=(h.q1.lt d e).1;omega),h.q2.other _ _ (λe=>by have:=(h.q2.lt d e).1;omega),h.qa,wS,Dj,by rw[YB];exact h.hi,h.bel.setCell (by simp only;omega) _⟩
theorem xw.aq2 {g q:aF} {W V:Nat} {w wr:World} {lF lH:Array Value} {b1 b2:Nat} {wa ea:Option Addr} {wc ec:Nat} {tb:Value×Value×Value×Value} {ft:List Int×List Int×List Int×List Int} {v1 v2:Value} {ws es x1 x2:List Int}
  (h:xw g q W V w wr lF lH b1 b2 wa wc ea ec tb ft v1 v2 ws es x1 x2) (hl:ws.length=V) {k:Nat} (hk:k<V) (z:Int) :
  ∃d,wa=some ⟨d,0,none⟩/\wr.cell? ⟨d,k,none⟩=some (.int .i64 (ws.getD k 0))/\wr.frozen? ⟨d,k,none⟩=false/\xw g q W V w (wr.setCell ⟨d,k,none⟩ (.int .i64 z)) lF lH b1 b2 wa wc ea ec tb ft v1 v2 (ws.set k z) es x1 x2:=by
 obtain⟨d,c',e,hg,wK⟩:=h.rw.block (by omega);simp only[Zx]at e;obtain⟨rfl,-,rfl⟩:=e;obtain⟨⟨d0,f0⟩,cZ⟩:=Rw.setAt h.rw hl hk z;have hd:=h.lw d rfl;have wS:=h.lo;have Dj:=h.mi;refine⟨d,rfl,by rw[d0,Zg,Zi];rfl,f0,h.kg.other _ _ (by simp only;omega),h.kq.other _ _ (by simp only;omega),h.km.other _ _ (by simp only;omega),h.kz.other _ _ (by simp only;omega),
  cZ,eP h.re _ _ (λe=>h.ap d rfl e),h.ap,h.lw,h.le,eP h.t1 _ _ (λe=>by have:=(Zh h.t1 d e).1;omega),eP h.t2 _ _ (λe=>by have:=(Zh h.t2 d e).1;omega),eP h.t3 _ _ (λe=>by have:=(Zh h.t3 d e).1;omega),eP h.t4 _ _ (λe=>by have:=(Zh h.t4 d e).1;omega),h.l1,h.l2,h.l3,h.l4,
  h.q1.other _ _ (λe=>by have:=(h.q1.lt d e).1;omega),h.q2.other _ _ (λe=>by have:=(h.q2.lt d e).1;omega),h.qa,wS,Dj,by rw[YB];exact h.hi,h.bel.setCell (by simp only;omega) _⟩
theorem xw.Uc {g q:aF} {W V:Nat} {w wr w':World} {lF lH:Array Value} {b1 b2:Nat} {wa ea:Option Addr} {wc ec:Nat} {tb:Value×Value×Value×Value} {ft:List Int×List Int×List Int×List Int} {v1 v2 v':Value} {ws es x1 x2 x':List Int}
  (h:xw g q W V w wr lF lH b1 b2 wa wc ea ec tb ft v1 v2 ws es x1 x2) (hg:wr.grownBy w' v1.ownBlock) (hq:lZ w' b2 v' x') (hv:v'.ownBlock=v1.ownBlock\/v'.ownBlock=some wr.heap.size):xw g q W V w w' lF lH b1 b2 wa wc ea ec tb ft v' v2 ws es x' x2:=by
 have wS:=h.lo;have Dj:=h.mi;have hn:∀{b:Nat},b<b2->some b≠v1.ownBlock:=λhb e=>by have:=(h.q1.lt _ e.symm).1;omega
 have bk:∀{b:Nat} {t:TypeId} {cs:Array Value},Bk wr b t cs->b<b2->Bk w' b t cs:=λhk hb=>(hg.block _ hk.lt (hn hb)).trans hk;have rw':∀{B:Nat} {v:Value} {xs:List Int},Rw wr B v xs->(∀j,v.ownBlock=some j->j<b2)->Rw w' B v xs:=λhr hb=>hr.grown hg (λk hk e=>by have:=hb k hk;exact hn this e.symm);refine⟨bk h.kg (by omega),bk h.kq (by omega),bk h.km (by omega),bk h.kz (by omega),rw' h.rw (λj hj=>by have:=h.lw j hj;omega),rw' h.re (λj hj=>by have:=h.le j hj;omega),h.ap,h.lw,h.le,rw' h.t1 h.l1,rw' h.t2 h.l2,rw' h.t3 h.l3,rw' h.t4 h.l4,h.l1,h.l2,h.l3,h.l4,
  hq,h.q2.grown hg (λj hj e=>h.qa j e hj),λj hj e=>?_,wS,Dj,ZI h.hi hg.size,h.bel.grown hg h.bel.size (λk hk=>by have:=(h.q1.lt k hk).1;omega)⟩
 rcases hv with hv|hv
 ·exact h.qa j (hv▸hj) e
 ·rw[hv]at hj;have:=(h.q2.lt j e).2;have:=Zy hj;omega
theorem xw.aaV {g q:aF} {W V:Nat} {w wr w':World} {lF lH:Array Value} {b1 b2:Nat} {wa ea:Option Addr} {wc ec:Nat} {tb:Value×Value×Value×Value} {ft:List Int×List Int×List Int×List Int} {v1 v2 v':Value} {ws es x1 x2 x':List Int}
  (h:xw g q W V w wr lF lH b1 b2 wa wc ea ec tb ft v1 v2 ws es x1 x2) (hg:wr.grownBy w' v2.ownBlock) (hq:lZ w' b2 v' x') (hv:v'.ownBlock=v2.ownBlock\/v'.ownBlock=some wr.heap.size):xw g q W V w w' lF lH b1 b2 wa wc ea ec tb ft v1 v' ws es x1 x':=by
 have wS:=h.lo;have Dj:=h.mi;have hn:∀{b:Nat},b<b2->some b≠v2.ownBlock:=λhb e=>by have:=(h.q2.lt _ e.symm).1;omega
 have bk:∀{b:Nat} {t:TypeId} {cs:Array Value},Bk wr b t cs->b<b2->Bk w' b t cs:=λhk hb=>(hg.block _ hk.lt (hn hb)).trans hk;have rw':∀{B:Nat} {v:Value} {xs:List Int},Rw wr B v xs->(∀j,v.ownBlock=some j->j<b2)->Rw w' B v xs:=λhr hb=>hr.grown hg (λk hk e=>by have:=hb k hk;exact hn this e.symm);refine⟨bk h.kg (by omega),bk h.kq (by omega),bk h.km (by omega),bk h.kz (by omega),rw' h.rw (λj hj=>by have:=h.lw j hj;omega),rw' h.re (λj hj=>by have:=h.le j hj;omega),h.ap,h.lw,h.le,rw' h.t1 h.l1,rw' h.t2 h.l2,rw' h.t3 h.l3,rw' h.t4 h.l4,h.l1,h.l2,h.l3,h.l4,
  h.q1.grown hg (λj hj e=>h.qa j hj e),hq,λj hj e=>?_,wS,Dj,ZI h.hi hg.size,h.bel.grown hg h.bel.size (λk hk=>by have:=(h.q2.lt k hk).1;omega)⟩
 rcases hv with hv|hv
 ·exact h.qa j hj (hv▸e)
 ·rw[hv]at e;have:=(h.q1.lt j hj).2;have:=Zy e;omega
structure yP (w:World) (B:Nat) (vL vI v1 v2:Value) (L I:List Int):Prop where
 rl:Rw w B vL L
 ri:Rw w B vI I
 al:∀j,vL.ownBlock=some j->v1.ownBlock≠some j/\v2.ownBlock≠some j
 ai:∀j,vI.ownBlock=some j->v1.ownBlock≠some j/\v2.ownBlock≠some j
theorem yP.keep {w w':World} {B:Nat} {vL vI v1 v2:Value} {L I:List Int} (h:yP w B vL vI v1 v2 L I) (hb:Below w.heap.size w w'):yP w' B vL vI v1 v2 L I:=⟨h.rl.keep hb,h.ri.keep hb,h.al,h.ai⟩
theorem yP.put {w:World} {B:Nat} {vL vI v1 v2:Value} {L I:List Int} (h:yP w B vL vI v1 v2 L I) {d:Nat} (hd:d<B) (i:Nat) (u:Value):yP (w.setCell ⟨d,i,none⟩ u) B vL vI v1 v2 L I:=⟨h.rl.other _ _ hd,h.ri.other _ _ hd,h.al,h.ai⟩
theorem yP.Uc {w w':World} {B:Nat} {vL vI v1 v2 v':Value} {L I:List Int} (h:yP w B vL vI v1 v2 L I) (hg:w.grownBy w' v1.ownBlock) (hv:v'.ownBlock=v1.ownBlock\/v'.ownBlock=some w.heap.size):yP w' B vL vI v' v2 L I:=by
 refine⟨h.rl.grown hg (λj hj e=>(h.al j hj).1 e),h.ri.grown hg (λj hj e=>(h.ai j hj).1 e),λj hj=>⟨λe=>?_,(h.al j hj).2⟩,λj hj=>⟨λe=>?_,(h.ai j hj).2⟩⟩
 ·rcases hv with hv|hv
  ·exact(h.al j hj).1 (hv▸e)
  ·rw[hv]at e;have:=(Zh h.rl j hj).2;have:=Zy e;omega
 ·rcases hv with hv|hv
  ·exact(h.ai j hj).1 (hv▸e)
  ·rw[hv]at e;have:=(Zh h.ri j hj).2;have:=Zy e;omega
theorem yP.swap {w:World} {B:Nat} {vL vI v1 v2:Value} {L I:List Int} (h:yP w B vL vI v1 v2 L I):yP w B vL vI v2 v1 L I:=⟨h.rl,h.ri,λj hj=>(h.al j hj).symm,λj hj=>(h.ai j hj).symm⟩
theorem yP.aaV {w w':World} {B:Nat} {vL vI v1 v2 v':Value} {L I:List Int} (h:yP w B vL vI v1 v2 L I) (hg:w.grownBy w' v2.ownBlock) (hv:v'.ownBlock=v2.ownBlock\/v'.ownBlock=some w.heap.size):yP w' B vL vI v1 v' L I:=(h.swap.Uc hg hv).swap
theorem aq3 (A:List (Int×Int)) (x1 x2:List Int) (h:x1.length=x2.length):(x1++A.map Prod.fst).zip (x2++A.map Prod.snd)=x1.zip x2++A:=by
 rw[List.zip_append h];congr 1;induction A with
 | nil=>rfl
 | cons a r ih=>simp only[Yx,XD,ih]
end Go.Proofs.YtkhpobekconobaaGreat
