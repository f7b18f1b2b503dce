/-
  A rule, plain. Own work.
-/
import Derived.Test.YtbljmfcifljkaaaGreatDoorKA
import Derived.Test.YtbljmfcifljkaaaGreatDoorKM
import Derived.Test.YtbljmfcifljkaaaGreatDoorKC
set_option linter.all false
set_option maxRecDepth 100000
set_option maxHeartbeats 8000000
namespace Go.Proofs.YtbljmfcifljkaaaGreatDoor
structure Rul where
 name:ByteArray
 left:List Nd
 right:List Nd
 deriving DecidableEq
open Go.RowKit
abbrev RuV:=Rul×Value×Value
def ruCells (x:RuV):List Value:=[.string x.1.name,x.2.1,x.2.2]
theorem ruCells_len (x:RuV):(ruCells x).length=3:=rfl
def RuAt (w:World) (d:Rul) (b o:Nat):Prop :=
 w.cell? ⟨b,o,none⟩=some (.string d.name)∧(∃v,w.cell? ⟨b,o+1,none⟩=some v∧NdsAt w v d.left)∧∃v,w.cell? ⟨b,o+2,none⟩=some v∧NdsAt w v d.right
def RusAt (w:World) (v:Value) (L:List Rul):Prop:=SlAt 3 v L.length fun i b o=>∃h:i<L.length,RuAt w L[i] b o
def RuSep (x y:RuV):Prop:=Apart x.2.1 y.2.1∧Apart x.2.1 y.2.2∧Apart x.2.2 y.2.1∧Apart x.2.2 y.2.2
def RuRow (w:World) (B:Nat) (v:Value) (xs:List RuV):Prop :=
 w.ownsRow B 32 3 v xs.length (xs.flatMap ruCells)∧(∀x∈xs,NdsOwn w B x.2.1 x.1.left∧NdsOwn w B x.2.2 x.1.right∧Apart x.2.1 x.2.2)∧xs.Pairwise RuSep
theorem RuAt.keep {w w':World} (hb:Below w.heap.size w w') {d:Rul} {b o:Nat} (h:RuAt w d b o):RuAt w' d b o:=by
 obtain⟨h1,⟨v,h2,h3⟩,u,h4,h5⟩:=h;exact⟨cell_keep hb h1,⟨v,cell_keep hb h2,h3.keep hb⟩,u,cell_keep hb h4,h5.keep hb⟩
theorem RusAt.keep {w w':World} (hb:Below w.heap.size w w') {v:Value} {L:List Rul} (h:RusAt w v L):RusAt w' v L :=
 SlAt.mono h fun _ _ _ ⟨hi,r⟩=>⟨hi,r.keep hb⟩
theorem RuRow.at {w:World} {B:Nat} {v:Value} {xs:List RuV} (h:RuRow w B v xs):RusAt w v (xs.map Prod.fst):=by
 obtain⟨ho,hb,_⟩:=h;have ho':w.ownsRow B 32 3 v (xs.map Prod.fst).length (xs.flatMap ruCells):=by rw[List.length_map];exact ho
 refine owns_slat ho' _ fun i b o hi' hc=>⟨hi',?_⟩
 have hi:i<xs.length:=by simpa using hi'
 have g:∀j,j<3→w.cell? ⟨b,o+j,none⟩=(ruCells xs[i])[j]?:=fun j hj=>(hc j hj).trans (flat_get ruCells_len xs i j hi hj);rw[List.getElem_map];have hx:=hb _ (List.getElem_mem hi);exact⟨g 0 (by omega),⟨xs[i].2.1,g 1 (by omega),hx.1.at⟩,xs[i].2.2,g 2 (by omega),hx.2.1.at⟩
theorem RuRow.keep {w w':World} {B:Nat} {v:Value} {xs:List RuV} (hb:Below w.heap.size w w') (h:RuRow w B v xs):RuRow w' B v xs :=
 ⟨owns_keep hb h.1,fun x hx=>⟨(h.2.1 x hx).1.keep hb,(h.2.1 x hx).2.1.keep hb,(h.2.1 x hx).2.2⟩,h.2.2⟩
theorem RuRow.mono {w:World} {B B':Nat} {v:Value} {xs:List RuV} (hB:B'≤B) (h:RuRow w B v xs):RuRow w B' v xs :=
 ⟨owns_mono hB h.1,fun x hx=>⟨(h.2.1 x hx).1.mono hB,(h.2.1 x hx).2.1.mono hB,(h.2.1 x hx).2.2⟩,h.2.2⟩
theorem RuRow.shape {w:World} {B:Nat} {v:Value} {xs:List RuV} (h:RuRow w B v xs):∃a cap,v=.slice a xs.length cap:=by
 rcases h.1.2 with⟨hv,he⟩|⟨g,cap,cur,hv,_⟩
 ·exact⟨none,0,by rw[hv,he]⟩
 ·exact⟨_,_,hv⟩
theorem rus_row_ne {w:World} {B g n cap:Nat} {ys:List RuV} (h:RuRow w B (.slice (some ⟨g,0,none⟩) n cap) ys):∀x∈ys,x.2.1.ownBlock≠some g∧x.2.2.ownBlock≠some g :=
 fun x hx=>⟨fun e=>owns_ne (h.2.1 x hx).1 h.1 (by decide) g e rfl,fun e=>owns_ne (h.2.1 x hx).2.1 h.1 (by decide) g e rfl⟩
theorem ru_old {w:World} {B e g n cap:Nat} {xs:List RuV} (h:w.ownsRow B e 3 (.slice (some ⟨g,0,none⟩) n cap) n (xs.flatMap ruCells)) (i:Nat) (hi:i<xs.length) :
  w.cell? ⟨g,i*3,none⟩=some (.string xs[i].1.name)∧w.cell? ⟨g,i*3+1,none⟩=some xs[i].2.1∧w.cell? ⟨g,i*3+2,none⟩=some xs[i].2.2 ∧
   w.frozen? ⟨g,i*3,none⟩=false∧w.frozen? ⟨g,i*3+1,none⟩=false∧w.frozen? ⟨g,i*3+2,none⟩=false :=
 ⟨owns_cell ruCells_len h i 0 hi (by omega),owns_cell ruCells_len h i 1 hi (by omega),owns_cell ruCells_len h i 2 hi (by omega),h.frozenAt _,h.frozenAt _,h.frozenAt _⟩
def mkRu (d:Rul) (k:Int):Rul:=⟨mtext k,mkNds d.left.length (k+1),mkNds d.right.length (k+1+3*d.left.length)⟩
def ruLen:List Rul→Int
 | []=>0
 | d::r=>1+3*d.left.length+3*d.right.length+ruLen r
def mkRus (L:List Rul) (k:Int):List Rul:=L.mapIdx fun j d=>mkRu d (k+ruLen (L.take j))
def lenR (xs:List RuV):Int:=ruLen (xs.map Prod.fst)
def markedR (xs:List RuV) (k:Int) (i:Nat):List RuV:=xs.mapIdx fun j x=>if j<i then(mkRu x.1 (k+lenR (xs.take j)),x.2)else x
theorem ruLen_nonneg:∀(L:List Rul),0≤ruLen L
 | []=>by simp[ruLen]
 | d::r=>by have:=ruLen_nonneg r;simp[ruLen];omega
theorem ruLen_take (L:List Rul) (i:Nat) (h:i<L.length):ruLen (L.take (i+1))=ruLen (L.take i)+1+3*L[i].left.length+3*L[i].right.length:=by
 induction L generalizing i with
 | nil=>simp at h
 | cons d r ih =>
  cases i with
  | zero=>simp[ruLen]
  | succ i =>
   have:=ih i (by simpa using h)
   simp only[List.take_succ_cons,ruLen,List.getElem_cons_succ]
   omega
theorem ruLen_le (L:List Rul) (i:Nat):0≤ruLen (L.take i)∧ruLen (L.take i)≤ruLen L:=by
 refine⟨ruLen_nonneg _,?_⟩;conv=>rhs;rw[←List.take_append_drop i L]
 generalize L.take i=a;generalize L.drop i=b;induction a with
 | nil=>simp[ruLen];exact ruLen_nonneg _
 | cons x r ih=>simp only[List.cons_append,ruLen]at ih ⊢;omega
theorem lenR_take (xs:List RuV) (i:Nat) (h:i<xs.length):lenR (xs.take (i+1))=lenR (xs.take i)+1+3*xs[i].1.left.length+3*xs[i].1.right.length:=by
 unfold lenR;rw[List.map_take,List.map_take,ruLen_take (xs.map Prod.fst) i (by simpa using h)];simp
theorem lenR_le (xs:List RuV) (i:Nat):0≤lenR (xs.take i)∧lenR (xs.take i)≤lenR xs:=by
 have:=ruLen_le (xs.map Prod.fst) i;unfold lenR;rw[List.map_take];exact this
theorem markedR_length (xs:List RuV) (k:Int) (i:Nat):(markedR xs k i).length=xs.length:=by simp[markedR]
theorem markedR_zero (xs:List RuV) (k:Int):markedR xs k 0=xs:=by
 apply List.ext_getElem (by simp[markedR]);intro j h1 h2;simp[markedR]
theorem markedR_get (xs:List RuV) (k:Int) (i:Nat) (h:i<xs.length):(markedR xs k i)[i]'(by rw[markedR_length];exact h)=xs[i]:=by simp[markedR]
theorem markedR_set (xs:List RuV) (k:Int) (i:Nat) (h:i<xs.length):(markedR xs k i).set i (mkRu xs[i].1 (k+lenR (xs.take i)),xs[i].2)=markedR xs k (i+1):=by
 apply List.ext_getElem (by simp[markedR]);intro j h1 h2;by_cases hj:i=j
 ·subst hj;simp[markedR]
 ·rw[List.getElem_set_ne hj];simp only[markedR,List.getElem_mapIdx];by_cases hji:j<i
  ·rw[if_pos hji,if_pos (by omega)]
  ·rw[if_neg hji,if_neg (by omega)]
theorem markedR_all (xs:List RuV) (k:Int):(markedR xs k xs.length).map Prod.fst=mkRus (xs.map Prod.fst) k:=by
 apply List.ext_getElem (by simp[markedR,mkRus]);intro j h1 h2;have hj:j<xs.length:=by simpa[markedR]using h1
 simp only[List.getElem_map,markedR,mkRus,List.getElem_mapIdx];rw[if_pos hj];simp[lenR,List.map_take]
theorem markedR_snd (xs:List RuV) (k:Int) (i:Nat):(markedR xs k i).map Prod.snd=xs.map Prod.snd:=by
 apply List.ext_getElem (by simp[markedR]);intro j h1 h2;simp only[List.getElem_map,markedR,List.getElem_mapIdx];split<;>rfl
theorem mkRus_length (L:List Rul) (k:Int):(mkRus L k).length=L.length:=by simp[mkRus]
theorem mkRus_get (L:List Rul) (k:Int) (i:Nat) (h:i<(mkRus L k).length):(mkRus L k)[i]=mkRu (L[i]'(by rw[←mkRus_length L k];exact h)) (k+ruLen (L.take i)):=by simp[mkRus]
def OwnR (v:Value) (xs:List RuV):Nat→Prop:=fun k=>v.ownBlock=some k∨∃x∈xs,x.2.1.ownBlock=some k∨x.2.2.ownBlock=some k
theorem OwnR_congr {v:Value} {xs ys:List RuV} (h:xs.map Prod.snd=ys.map Prod.snd):∀k,OwnR v xs k→OwnR v ys k:=by
 rintro k (hk|⟨x,hx,hk⟩)
 ·exact .inl hk
 ·have:x.2∈ys.map Prod.snd:=by rw[←h];exact List.mem_map_of_mem hx
  obtain⟨y,hy,e⟩:=List.mem_map.1 this;exact .inr ⟨y,hy,by rw[e];exact hk⟩
theorem Apart.symm {a b:Value} (h:Apart a b):Apart b a:=fun k hb ha=>h k ha hb
theorem markR_step {wr w2 w3 w4:World} {B g n cap:Nat} {ys:List RuV} {i:Nat} {nm:ByteArray} {nl nr:List Nd} (hn:ys.length=n) (h:RuRow wr B (.slice (some ⟨g,0,none⟩) n cap) ys) (hi:i<ys.length) (hb2:Below wr.heap.size wr w2)
  (h3:NdsOwn w3 B ys[i].2.1 nl) (hx3:Exc (Own1 ys[i].2.1) (w2.setCell ⟨g,i*3,none⟩ (.string nm)) w3) (h4:NdsOwn w4 B ys[i].2.2 nr) (hx4:Exc (Own1 ys[i].2.2) w3 w4) :
  RuRow w4 B (.slice (some ⟨g,0,none⟩) n cap) (ys.set i (⟨nm,nl,nr⟩,ys[i].2))∧Exc (OwnR (.slice (some ⟨g,0,none⟩) n cap) ys) wr w4:=by
 subst hn;have h2:=h.keep hb2;have hne:=rus_row_ne h2;have hpi:=h2.2.1 ys[i] (List.getElem_mem _);have r1:=owns_set ruCells_len h2.1 i 0 _ hi (by omega) rfl (.string nm) (⟨nm,nl,nr⟩,ys[i].2) rfl;have no1:∀k,(Value.slice (some ⟨g,0,none⟩) ys.length cap).ownBlock=some k→¬Own1 ys[i].2.1 k:=fun k hk hT=>by
  simp only[Value.ownBlock,Option.map_some,Option.some.injEq]at hk;subst hk;exact(hne ys[i] (List.getElem_mem _)).1 hT
 have no2:∀k,(Value.slice (some ⟨g,0,none⟩) ys.length cap).ownBlock=some k→¬Own1 ys[i].2.2 k:=fun k hk hT=>by
  simp only[Value.ownBlock,Option.map_some,Option.some.injEq]at hk;subst hk;exact(hne ys[i] (List.getElem_mem _)).2 hT
 have r4:=owns_exc hx4 (owns_exc hx3 r1 no1) no2;refine⟨⟨by rw[List.length_set];exact r4,?_,?_⟩,?_⟩
 ·intro x hx;obtain⟨j,hj,rfl⟩:=List.getElem_of_mem hx;have hj':j<ys.length:=by simpa using hj
  by_cases hij:i=j
  ·subst hij;rw[List.getElem_set_self];exact⟨owns_exc hx4 h3 (fun k hk hT=>hpi.2.2 k hk hT),h4,hpi.2.2⟩
  ·rw[List.getElem_set_ne hij];have hp:=List.pairwise_iff_getElem.1 h2.2.2;have hs:RuSep ys[i] ys[j]∨RuSep ys[j] ys[i]:=by
    rcases Nat.lt_or_gt_of_ne hij with hlt|hlt
    ·exact .inl (hp i j hi hj' hlt)
    ·exact .inr (hp j i hj' hi hlt)
   have ha:Apart ys[i].2.1 ys[j].2.1∧Apart ys[i].2.1 ys[j].2.2∧Apart ys[i].2.2 ys[j].2.1∧Apart ys[i].2.2 ys[j].2.2:=by
    rcases hs with h|h
    ·exact h
    ·exact⟨h.1.symm,h.2.2.1.symm,h.2.1.symm,h.2.2.2.symm⟩
   have hq:=h2.2.1 ys[j] (List.getElem_mem _);have hnj:=hne ys[j] (List.getElem_mem _);have go:∀(u:Value) (ns:List Nd),NdsOwn w2 B u ns→u.ownBlock≠some g→Apart ys[i].2.1 u→Apart ys[i].2.2 u→NdsOwn w4 B u ns:=fun u ns ho hg a1 a2 =>
    owns_exc hx4 (owns_exc hx3 (owns_other ho ⟨g,i*3,none⟩ (.string nm) hg) (fun k hk hT=>a1 k hT hk)) (fun k hk hT=>a2 k hT hk)
   exact⟨go _ _ hq.1 hnj.1 ha.1 ha.2.2.1,go _ _ hq.2.1 hnj.2 ha.2.1 ha.2.2.2,hq.2.2⟩
 ·have e:(ys.set i (⟨nm,nl,nr⟩,ys[i].2)).map Prod.snd=ys.map Prod.snd:=by
   apply List.ext_getElem (by simp);intro j h1 h2;simp only[List.getElem_map];by_cases hij:i=j
   ·subst hij;rw[List.getElem_set_self]
   ·rw[List.getElem_set_ne hij]
  have h6:(ys.map Prod.snd).Pairwise fun x y=>Apart x.1 y.1∧Apart x.1 y.2∧Apart x.2 y.1∧Apart x.2 y.2:=(List.pairwise_map (f:=Prod.snd)).2 h.2.2;rw[←e]at h6;exact(List.pairwise_map (f:=Prod.snd)).1 h6
 ·have e1:Exc (OwnR (.slice (some ⟨g,0,none⟩) ys.length cap) ys) wr w2:=Below.exc hb2;have ht:OwnR (.slice (some ⟨g,0,none⟩) ys.length cap) ys g:=.inl rfl;have e2:=exc_set (T:=OwnR (.slice (some ⟨g,0,none⟩) ys.length cap) ys) (a:=⟨g,i*3,none⟩) e1 (.inr ht) (.string nm);exact(e2.trans (hx3.mono (fun k hk=>.inr ⟨ys[i],List.getElem_mem _,.inl hk⟩))).trans (hx4.mono (fun k hk=>.inr ⟨ys[i],List.getElem_mem _,.inr hk⟩))
theorem markRuleS_any (v:Value) (xs:List RuV) (k:Int) (B:Nat) (w:World) (hv:RuRow w B v xs) (hn:xs.length≤1048576) (hb:∀x∈xs,x.1.left.length≤1048576∧x.1.right.length≤1048576) (h0:0≤k) (h1:k+lenR xs≤8388608) :
  Calls Tryz.prog 11 #[v,.int .i64 k] w fun e w'=>e=.returned (.int .i64 (k+lenR xs))∧RuRow w' B v (markedR xs k xs.length)∧Exc (OwnR v xs) w w':=by
 obtain⟨a,cap,rfl⟩:=hv.shape;go_enter Tryz.func11,Tryz.ntmps11;go_wp2;go_loopw [1,5] (fun kv iv wr=>∃i:Nat,i≤xs.length∧iv=.int .i64 i∧kv=.int .i64 (k+lenR (xs.take i))∧RuRow wr B (.slice a xs.length cap) (markedR xs k i)∧Exc (OwnR (.slice a xs.length cap) xs) w wr) (fun _ iv _=>xs.length-(intOf iv).toNat)
 case atStart=>exact⟨0,by omega,rfl,by simp[lenR,ruLen],by rw[markedR_zero];exact hv,Exc.refl _ _⟩
 case round =>
  obtain⟨i,hi,rfl,rfl,hrow,hex⟩:=hrel
  by_cases hlt:i<xs.length
  ·have hll:i<(markedR xs k i).length:=by rw[markedR_length];exact hlt
   have hrow1:=hrow.1
   rw[markedR_length]at hrow1
   obtain⟨g,cp,he,hgc,hgm,hgB,hgs⟩:=owns_some' hrow1 (by omega)
   simp only[Value.slice.injEq]at he
   obtain⟨rfl,_,rfl⟩:=he
   obtain⟨d0,d1,d2,q0,q1,q2⟩:=ru_old hrow1 i hll
   have hbd:=hrow.2.1 _ (List.getElem_mem hll)
   have hne:=rus_row_ne hrow _ (List.getElem_mem hll)
   rw[markedR_get xs k i hlt]at d0 d1 d2 hbd hne
   obtain⟨hbl,hbr,hap⟩:=hbd
   obtain⟨la,lc,hls⟩:=hbl.slice
   obtain⟨ra,rc,hrs⟩:=hbr.slice
   rw[hls]at d1 hbl hne hap
   rw[hrs]at d2 hbr hne hap
   have hlen:=lenR_le xs i
   have hlen2:=lenR_le xs (i+1)
   have hstep:=lenR_take xs i hlt
   obtain⟨hL,hR⟩:=hb xs[i] (List.getElem_mem _)
   have hb0:k+lenR (xs.take i)+1+3*(xs[i].1.left.length:Int)≤8388608:=by omega
   have HST:=Lib.hid (And.intro hstep (And.intro hls hrs))
   have HNE:=Lib.hid hne
   have HAP:=Lib.hid hap
   clear hstep hls hrs hne hap
   go_wp2_with fail
   refine(markText_any _ _ (by omega) (by omega)).mono ?_
   rintro e w2⟨rfl,hb2⟩
   obtain⟨hc2,hf2,hs2⟩:=bcell hb2
   go_wp2_with fail
   refine(markNodeS_any _ xs[i].1.left _ B _ (owns_other (hbl.keep hb2) _ _ HNE.out.1) hL (by omega) (by omega)).mono ?_
   rintro e w3⟨rfl,hown3,hex3⟩
   have k2:=(hex3.cell.1 g (i*3+2) (by rw[setCell_size];omega) (fun hT=>HNE.out.1 hT)).trans ((World.cell?_setCell_other _ ⟨g,i*3,none⟩ ⟨g,i*3+2,none⟩ _ (by simp)).trans ((hc2 _ _ (cell_lt d2)).trans d2))
   have z3:=cell_lt k2
   go_wp2_with fail
   refine(markNodeS_any _ xs[i].1.right _ B _ (owns_exc hex3 (owns_other (hbr.keep hb2) _ _ HNE.out.2) (fun q hq hT=>HAP.out q hT hq)) hR (by omega) (by omega)).mono ?_
   rintro e w4⟨rfl,hown4,hex4⟩
   go_wp2_with fail
   obtain⟨hs1,hsl,hsr⟩:=HST.out
   have hg:=markedR_get xs k i hlt
   obtain⟨s1,s2⟩:=markR_step (nm:=mtext (k+lenR (xs.take i))) (nl:=mkNds xs[i].1.left.length (k+lenR (xs.take i)+1)) (nr:=mkNds xs[i].1.right.length (k+lenR (xs.take i)+1+3*xs[i].1.left.length)) (markedR_length xs k i) hrow hll hb2
    (by rw[hg,hsl];exact hown3) (by rw[hg,hsl];exact hex3) (by rw[hg,hsr];exact hown4) (by rw[hg,hsr];exact hex4)
   have e:(markedR xs k i).set i (⟨mtext (k+lenR (xs.take i)),mkNds xs[i].1.left.length (k+lenR (xs.take i)+1),mkNds xs[i].1.right.length (k+lenR (xs.take i)+1+3*xs[i].1.left.length)⟩,(markedR xs k i)[i].2)=markedR xs k (i+1):=by
    rw[hg,←markedR_set xs k i hlt];rfl
   rw[e]at s1
   have hx3:=hex.trans (s2.mono (OwnR_congr (markedR_snd xs k i)))
   have hke:k+lenR (xs.take i)+1+3*(xs[i].1.left.length:Int)+3*(xs[i].1.right.length:Int)=k+lenR (xs.take (i+1)):=by rw[hs1];omega
   have HKE:=Lib.hid hke
   clear hs1 hsl hsr hg e hke
   go_roundw
   case rel=>exact⟨i+1,by omega,by go_num,by rw[HKE.out],s1,hx3⟩
   case measure=>simp[intOf];omega
  ·have hii:i=xs.length:=by omega
   subst hii
   go_wp2
   go_ret
   rw[List.take_length]
   exact⟨rfl,hrow,hex⟩
theorem heldRuleS_any (v:Value) (L:List Rul) (k:Int) (w:World) (hv:RusAt w v (mkRus L k)) (hn:L.length≤1048576) (hb:∀d∈L,d.left.length≤1048576∧d.right.length≤1048576) (h0:0≤k) (h1:k+ruLen L≤8388608) :
  Calls Tryz.prog 12 #[v,.int .i64 k] w fun e w'=>e=.returned (.int .i64 (k+ruLen L))∧Below w.heap.size w w':=by
 obtain⟨a,cap,rfl,hc,hat⟩:=hv;have hat':∀(i:Nat) (hi:i<L.length),∃b o,a=some ⟨b,o,none⟩∧RuAt w (mkRu L[i] (k+ruLen (L.take i))) b (o+i*3):=fun i hi=>by
  obtain⟨b,o,e,h,r⟩:=hat i (by rw[mkRus_length];exact hi);rw[mkRus_get]at r;exact⟨b,o,e,r⟩
 clear hat
 rw[mkRus_length]at hc ⊢;go_enter Tryz.func12,Tryz.ntmps12;go_wp2;go_loopw [1,5] (fun kv iv wr=>∃i:Nat,i≤L.length∧iv=.int .i64 i∧kv=.int .i64 (k+ruLen (L.take i))∧Below w.heap.size w wr) (fun _ iv _=>L.length-(intOf iv).toNat)
 case atStart=>exact⟨0,by omega,rfl,by simp[ruLen],Below.refl _ _⟩
 case round =>
  obtain⟨i,hi,rfl,rfl,hbel⟩:=hrel
  by_cases hlt:i<L.length
  ·obtain⟨b,o,rfl,hnd⟩:=hat' i hlt
   obtain⟨c0,⟨vl,c1,hvl⟩,vr,c2,hvr⟩:=hnd.keep hbel
   simp only[mkRu]at c0 hvl hvr
   obtain⟨la,lc,rfl⟩:=hvl.slice
   obtain⟨ra,rc,rfl⟩:=hvr.slice
   have hlen:=ruLen_le L i
   have hlen2:=ruLen_le L (i+1)
   have hstep:=ruLen_take L i hlt
   obtain⟨hL,hR⟩:=hb L[i] (List.getElem_mem _)
   obtain⟨q,hq⟩:∃q,q=k+ruLen (L.take i):=⟨_,rfl⟩
   rw[←hq]at c0 hvl hvr ⊢
   have hq0:0≤q∧q+1+3*(L[i].left.length:Int)≤8388608:=by omega
   have hq1:q+1+3*(L[i].left.length:Int)+3*(L[i].right.length:Int)=k+ruLen (L.take (i+1)):=by rw[hstep];omega
   have hq2:¬(q+1+3*(L[i].left.length:Int)<0):=by omega
   have hq3:¬(q+1+3*(L[i].left.length:Int)+3*(L[i].right.length:Int)<0):=by omega
   have HQ:=Lib.hid hq1
   have hbz:=cell_lt c0
   rw[mkNds_length]at c1 c2 hvl hvr
   clear hat' hnd hq hq1 hstep
   go_wp2_with fail
   refine region_acts (C:=Exc (NoT) _) 2 [0,1,2,3,4,5,6,7] (by kernel_rfl) (by kernel_rfl) (Exc.grows _ _) (Exc.refl _ _) ?_
   iterate 6 (apply x_st rfl rfl rfl;(focus intro u hc' hf';go_simp<;>rfl);intro K hK;go_simp;apply hK;clear hK K)
   refine x_call rfl rfl rfl (Exc.grows _ _) (Exc.refl _ _) 42 (fun K hK=>?_);apply Exists.intro;refine⟨fun w' hw'=>?_,fun w' hw' hbw=>?_⟩;(focus go_simp;rfl);refine(markText_any _ _ (by omega) (by omega)).mono ?_;rintro e w3⟨rfl,hb3⟩;refine⟨_,rfl,hb3,fun hx=>?_⟩;go_simp;apply hK;clear hK K
   iterate 1 (apply x_st rfl rfl rfl;(focus intro u hc' hf';go_simp<;>rfl);intro K hK;go_simp;apply hK;clear hK K)
   refine x_nil ?_
   have hb3':Below wr.heap.size wr w3:=(Below.refl wr.heap.size wr).drew.trans (hx.toBelow.mono (by simp))
   obtain⟨hc3,hf3,hs3⟩:=bcell hb3'
   go_wp2_with fail
   refine(heldNodeS_any _ L[i].left.length _ _ (hvl.keep hb3') hL (by omega) (by omega)).mono ?_
   rintro e w4⟨rfl,hb4⟩
   obtain⟨hc4,hf4,hs4⟩:=bcell (hb3'.trans (hb4.mono hs3))
   go_wp2_with fail
   refine(heldNodeS_any _ L[i].right.length _ _ (hvr.keep (hb3'.trans (hb4.mono hs3))) hR (by omega) (by omega)).mono ?_
   rintro e w5⟨rfl,hb5⟩
   go_wp2_with fail
   go_roundw
   case rel=>exact⟨i+1,by omega,by go_num,by rw[HQ.out],hbel.trans (((hb3'.trans (hb4.mono hs3)).trans (hb5.mono hs4)).mono hbel.size)⟩
   case measure=>simp[intOf];omega
  ·have hii:i=L.length:=by omega
   subst hii
   go_wp2
   go_ret
   rw[List.take_length]
   exact⟨rfl,hbel⟩
def RuEq (a b:Rul) (w:World) (e:Ending) (w':World):Prop:=e=.returned (.bool (decide (a=b)))∧Below w.heap.size w w'
theorem eqRule_any (vl vr ul ur:Value) (a b:Rul) (w:World) (h1:NdsAt w vl a.left) (h2:NdsAt w vr a.right) (h3:NdsAt w ul b.left) (h4:NdsAt w ur b.right)
  (n1:a.left.length≤1048576) (n2:a.right.length≤1048576) (n3:b.left.length≤1048576) (n4:b.right.length≤1048576) :
  Calls Tryz.prog 15 #[.agg #[.string a.name,vl,vr],.agg #[.string b.name,ul,ur]] w (RuEq a b w):=by
 obtain⟨p1,c1,rfl⟩:=h1.slice;obtain⟨p2,c2,rfl⟩:=h2.slice;obtain⟨p3,c3,rfl⟩:=h3.slice;obtain⟨p4,c4,rfl⟩:=h4.slice;have hB:∀o o',Below w.heap.size w ((w.alloc o).alloc o'):=fun o o'=>((Below.refl _ _).alloc (Nat.le_refl _) _).alloc (by simp) _;by_cases hn:a.name=b.name
 ·obtain⟨nm,x,x'⟩:=a;obtain⟨nm',y,y'⟩:=b;simp only at hn h1 h2 h3 h4 n1 n2 n3 n4;subst hn;by_cases hl:x=y
  ·subst hl;by_cases hr:x'=y'
   ·subst hr;go_enter Tryz.func15,Tryz.ntmps15;go_wp2_with fail
    refine(eqTerm_any _ _ x x _ (h1.keep (hB _ _)) (h3.keep (hB _ _)) n1 n3).mono ?_;rintro e w2⟨rfl,hb2⟩;rw[show decide (x=x)=true by simp];obtain⟨hc2,hf2,hs2⟩:=bcell hb2;have hb2':=(hB _ _).trans (hb2.mono (by simp;omega));go_wp2_with fail
    refine(eqTerm_any _ _ x' x' _ (h2.keep hb2') (h4.keep hb2') n2 n4).mono ?_;rintro e w3⟨rfl,hb3⟩;rw[show decide (x'=x')=true by simp];go_wp2;go_ret
    exact⟨by simp,hb2'.trans (hb3.mono hb2'.size)⟩
   ·go_enter Tryz.func15,Tryz.ntmps15;go_wp2_with fail
    refine(eqTerm_any _ _ x x _ (h1.keep (hB _ _)) (h3.keep (hB _ _)) n1 n3).mono ?_;rintro e w2⟨rfl,hb2⟩;rw[show decide (x=x)=true by simp];obtain⟨hc2,hf2,hs2⟩:=bcell hb2;have hb2':=(hB _ _).trans (hb2.mono (by simp;omega));have he:decide (x'=y')=false:=by simp[hr]
    have HR:=Lib.hid hr;clear hr;go_wp2_with fail
    refine(eqTerm_any _ _ x' y' _ (h2.keep hb2') (h4.keep hb2') n2 n4).mono ?_;rintro e w3⟨rfl,hb3⟩;rw[he];go_wp2;go_ret
    exact⟨by have:=HR.out;simp[this],hb2'.trans (hb3.mono hb2'.size)⟩
  ·have he:decide (x=y)=false:=by simp[hl]
   have HR:=Lib.hid hl;clear hl;go_enter Tryz.func15,Tryz.ntmps15;go_wp2_with fail
   refine(eqTerm_any _ _ x y _ (h1.keep (hB _ _)) (h3.keep (hB _ _)) n1 n3).mono ?_;rintro e w2⟨rfl,hb2⟩;rw[he];go_wp2;go_ret
   exact⟨by have:=HR.out;simp[this],(hB _ _).trans (hb2.mono (by simp;omega))⟩
 ·go_enter Tryz.func15,Tryz.ntmps15;have hne:(!a.name.toList==b.name.toList)=true:=by
   rw[str_beq];simp[hn]
  go_wp2;go_ret
  have hab:¬a=b:=fun h=>hn (by rw[h]);exact⟨by simp[hab],hB _ _⟩
theorem eqRuleS_any (v v':Value) (a b:List Rul) (w:World) (hv:RusAt w v a) (hv':RusAt w v' b) (hn:a.length≤1048576) (hn':b.length≤1048576) (hm:∀d∈a,d.left.length≤1048576∧d.right.length≤1048576) (hm':∀d∈b,d.left.length≤1048576∧d.right.length≤1048576) :
  Calls Tryz.prog 10 #[v,v'] w fun e w'=>e=.returned (.bool (decide (a=b)))∧Below w.heap.size w w':=by
 obtain⟨p,cap,rfl,hc,hat⟩:=hv;obtain⟨p',cap',rfl,hc',hat'⟩:=hv';by_cases hl:a.length=b.length
 ·have hl1:((a.length:Int) != b.length)=false:=by simp[hl]
  go_enter Tryz.func10,Tryz.ntmps10;have HL:=Lib.hid hl;clear hl;go_wp2;go_loopw [5] (fun i wr=>∃k:Nat,k≤a.length∧i=.int .i64 k∧EqTail a b k∧Below w.heap.size w wr) (fun i _=>a.length-(intOf i).toNat)
  case atStart=>exact⟨0,Nat.zero_le _,rfl,EqTail.zero _ _,Below.refl _ _⟩
  case round =>
   obtain⟨k,hk,rfl,ht,hbel⟩:=hrel
   by_cases hlt:k<a.length
   ·have hlt':k<b.length:=by have:=HL.out;omega
    obtain⟨g,o,rfl,_,hnd⟩:=hat k hlt
    obtain⟨g',o',rfl,_,hnd'⟩:=hat' k hlt'
    obtain⟨c0,⟨v1,c1,hv1⟩,v3,c2,hv3⟩:=hnd.keep hbel
    obtain⟨d0,⟨v2,d1,hv2⟩,v4,d2,hv4⟩:=hnd'.keep hbel
    obtain⟨p1,cap1,rfl⟩:=hv1.slice
    obtain⟨p2,cap2,rfl⟩:=hv2.slice
    obtain⟨p3,cap3,rfl⟩:=hv3.slice
    obtain⟨p4,cap4,rfl⟩:=hv4.slice
    obtain⟨m1,m3⟩:=hm a[k] (List.getElem_mem _)
    obtain⟨m2,m4⟩:=hm' b[k] (List.getElem_mem _)
    clear hat hnd hat' hnd' hm hm'
    by_cases he:a[k]=b[k]
    ·have he2:decide (a[k]=b[k])=true:=by simp[he]
     have HE:=Lib.hid he
     clear he
     go_wp2_with fail
     go_still_tail 8,(by kernel_rfl)
     go_wp2_with (go_at_call 15;refine(eqRule_any _ _ _ _ a[k] b[k] wr.drew hv1 hv3 hv2 hv4 m1 m3 m2 m4).mono ?_;rintro e w2⟨rfl,hb2⟩)
     have hs:=hbel.drew.size
     go_roundw
     case rel=>exact⟨k+1,by omega,by go_num,ht.step hlt hlt' HE.out,hbel.drew.trans (hb2.mono (by omega))⟩
     case measure=>simp[intOf];omega
    ·have he2:decide (a[k]=b[k])=false:=by simp[he]
     go_wp2_with fail
     go_still_tail 8,(by kernel_rfl)
     go_wp2_with (go_at_call 15;refine(eqRule_any _ _ _ _ a[k] b[k] wr.drew hv1 hv3 hv2 hv4 m1 m3 m2 m4).mono ?_;rintro e w2⟨rfl,hb2⟩)
     have hs:=hbel.drew.size
     go_ret
     exact⟨no_bool (ht.no hlt hlt' he),hbel.drew.trans (hb2.mono (by omega))⟩
   ·go_wp2
    go_ret
    exact⟨yes_bool (ht.done (by omega) (by have:=HL.out;omega)),hbel⟩
 ·have hl1:((a.length:Int) != b.length)=true:=by simp;omega
  go_enter Tryz.func10,Tryz.ntmps10;go_wp2;go_ret
  exact⟨no_bool fun h=>hl (by rw[h]),Below.refl _ _⟩
end Go.Proofs.YtbljmfcifljkaaaGreatDoor
