/-
  The walk of treeOf: the tree of nodes that are a term. Own work.
-/
import Derived.Test.YtikgblkfmpecfaaGreatDoorWT
import Derived.Test.YtikgblkfmpecfaaGreatDoorWE
import Derived.Test.YtikgblkfmpecfaaGreatDoorWB
import Derived.Test.YtikgblkfmpecfaaGreatDoorWV
import Derived.Test.YtikgblkfmpecfaaGreatDoorWH
import Derived.Test.YtikgblkfmpecfaaGreatDoorWL
import Derived.Test.YtikgblkfmpecfaaGreatDoorWAP
set_option linter.all false
set_option maxRecDepth 100000
set_option maxHeartbeats 8000000
namespace Go.Proofs.YtikgblkfmpecfaaGreatDoor
open Go.RowKit
theorem infoTree:(Tryz.prog.info? 76).map (λi=>(i.zero,i.size,i.bytes))=some (some .nilIface,1,16):=by kernel_rfl
def yu (t:Tr):List Value:=[fD t]
theorem Iu (t:Tr):(yu t).length=1:=rfl
def aap (ns:List Nd) (w wr:World) (v:Value) (k:Nat) (st:List Tr):Prop :=
 wr.ownsRow w.heap.size 76 1 v st.length (st.flatMap yu)/\Hid (bZ ns []=bZ (ns.drop k) st.reverse)/\Below w.heap.size w wr/\st.length<=k
theorem TK {ns:List Nd} {w wr:World} {v:Value} {k:Nat} {st0:List Tr} {x:Tr} (hown:wr.ownsRow w.heap.size 76 1 v (st0.length+1) (st0.flatMap yu++[fD x]))
  (hgo:Hid (bZ ns []=bZ (ns.drop (k+1)) (x::st0.reverse))) (hb:Below w.heap.size w wr) (hk:st0.length<=k):aap ns w wr v (k+1) (st0++[x]):=by
 refine⟨?_,?_,hb,by simp;omega⟩
 ·rw[List.length_append,List.flatMap_append];exact hown
 ·rw[List.reverse_append];exact hgo
theorem agE (v:Value) (ns:List Nd) (t:Tr) (w:World) (hv:aZ w v ns) (hn:ns.length<=1048576) (ht:bZ ns []=some [t]) :
  Calls Tryz.prog 43 #[v] w λe w'=>e=.returned (fD t)/\Below w.heap.size w w':=by
 obtain⟨a,cap,rfl,hc,hat⟩:=hv;have HT:=Lib.hid ht;clear ht;obtain⟨i0,hi,hz0,hz1,hz2⟩:=info_parts infoTree;go_enter Tryz.func43,Tryz.ntmps43;go_wp2;go_loopw [3,10] (λv i wr=>∃(k:Nat) (st:List Tr),k<=ns.length/\i=.int .i64 k/\aap ns w wr v k st) (λ_ i _=>ns.length-(intOf i).toNat)
 case atStart =>
  refine⟨0,[],Nat.zero_le _,rfl,?_,(by simp[Hid]:Hid (bZ ns []=bZ (ns.drop 0) ([]:List Tr).reverse)),(Below.refl _ _).alloc (by simp) _,Nat.le_refl _⟩
  have:=World.ownsRow_lit (base:=w.heap.size) (size:=1) (e:=76) w #[] 0 (Nat.le_refl _) (by unfold maxLen;omega) rfl
  simpa using this
 case round =>
  obtain⟨k,st,hk,rfl,hst⟩:=hrel
  obtain⟨hown,hgo,hbel,Dz⟩:=hst
  have hsz:=hbel.size
  by_cases hlt:k<ns.length
  ·obtain⟨b,o,rfl,_,hnd⟩:=hat k hlt
   obtain⟨c0,c1,c2⟩:=hnd.keep hbel
   clear hat hnd
   have hdrop:=List.drop_eq_getElem_cons hlt
   by_cases hk1:ns[k].kind=15\/ns[k].kind=16
   ·have hlen:¬st.length<2:=by
     intro hlen;have h0:=hgo.out;rw[HT.out,hdrop,wM hk1 (by simpa using hlen)]at h0;cases h0
    obtain⟨st0,p,q,rfl⟩:=Fh st hlen
    obtain⟨g,cp,rfl,hgc,hgm,hgB,hgs⟩:=ug hown (by simp)
    simp only[List.length_append,List.length_cons,List.length_nil,Nat.zero_add,Nat.reduceAdd]at hown hgc Dz
    have d0:=gQ Iu hown st0.length 0 (by simp) (by omega)
    have d1:=gQ Iu hown (st0.length+1) 0 (by simp) (by omega)
    simp[yu]at d0 d1
    obtain⟨Tp,xp,hp⟩:=qG p
    obtain⟨Tq,xq,hq⟩:=qG q
    rw[hp]at d0
    rw[hq]at d1
    have HS:Hid (fD (.seq p q)=.iface 139 (.agg #[.iface Tp (.agg xp),.iface Tq (.agg xq)])):=(show _=_ by rw[fD,hp,hq])
    have HP:Hid (fD (.par p q)=.iface 142 (.agg #[.iface Tp (.agg xp),.iface Tq (.agg xq)])):=(show _=_ by rw[fD,hp,hq])
    clear hp hq
    have e1:IntKind.i64.wrap ((st0.length:Int)+2-1-1)=(st0.length:Int):=by rw[show(st0.length:Int)+2-1-1=(st0.length:Int)by omega];exact IntWalk.i64_in _ (by omega)
    have e2:((st0.length:Int)+2-1).toNat=st0.length+1:=by omega
    have e3:0<=(st0.length:Int)+2-1/\(st0.length:Int)+2-1<(st0.length:Int)+2:=by omega
    have e4:0<=(st0.length:Int)/\(st0.length:Int)<(st0.length:Int)+2:=by omega
    have e5:0<=(st0.length:Int)/\(st0.length:Int)<=(cp:Int):=by omega
    have e6:1<=(st0.length:Int)+2:=by omega
    have hgw:g<wr.heap.size+1:=by omega
    rcases hk1 with hk1|hk1
    ·have g1:(ns[k].kind==15)=true:=by simp[hk1]
     have jO:Hid (bZ ns []=bZ (ns.drop (k+1)) (.seq p q::st0.reverse)):=(show _=_ by
      rw[hgo.out,hdrop];have e:(st0++[p,q]).reverse=q::p::st0.reverse:=by simp
      rw[e,Ed hk1])
     clear hk1 hgo hdrop hlen
     go_wp2_with fail
     refine rV (C:=ah (aQ) _) 9 [0,1,2,3,4,5,6,7,8,9,10,11,12,13,14,15] [16,17] (by kernel_rfl) (by kernel_rfl) (ah.grows _ _) (ah.refl _ _) ?_
     iterate 15 (apply ay rfl rfl rfl;(focus intro u hc' hf';go_simp<;>rfl);intro K hK;go_simp;apply hK;clear hK K)
     refine fG rfl rfl rfl (ah.grows _ _) (ah.refl _ _) (λb=>.slice (some ⟨b,0,none⟩) 1 1) (λK hK=>?_)
     apply Exists.intro
     refine⟨λw' hw'=>?_,λbb w5 hw5 hb5 aI hNb hnb=>?_⟩
     ·obtain⟨hc',hf'⟩:=hw'.cell
      try simp only[World.size_drew]at hc' hf'
      go_simp
      rfl
     go_simp
     refine hK _ _ _ ?_
     clear hK K
     refine aK ?_
     have hb6:Below wr.heap.size wr w5:=((Below.refl _ _).alloc (Nat.le_refl _) _).drew.trans ((hw5.toBelow).mono (by simp))
     have hown6:w5.ownsRow w.heap.size 76 1 (.slice (some ⟨g,0,none⟩) st0.length cp) st0.length (st0.flatMap yu):=by
      have h0:=uh (bW hb6 hown) st0.length (by omega);rw[List.flatMap_append,List.take_left' (by have:=flat_length Iu st0;omega)]at h0;exact h0
     refine⟨ah (λj=>j=g) w5,w5.heap.size,ah.grows _ _,ah.refl _ _,?_⟩
     refine zZ rfl rfl rfl (ah.refl _ _) _ _ 146 rfl w.heap.size 76 i0 1 Tryz.underlying146 hi hz1 g st0.length cp (st0.flatMap yu) rfl (by have:=hb6.size;omega) rfl ⟨bb,0,none⟩ 1 1 [fD (.seq p q)] rfl rfl ?c1 (by omega) ?c2 ?_
     case c1=>intro u hu;simp at hu;subst hu;simp only[fD,Value.cells];rfl
     case c2 =>
      intro w8 hw8 hb8
      refine⟨bW hb8 hown6,?_⟩
      obtain⟨m0,m1,m2⟩:=made_cell ((hb8.block bb (made_cell aI).2.2).trans aI)
      intro j u hj
      match j,hj with
      | 0,hj=>simp at hj;subst hj;rw[HS.out];simp[Addr.add,m0]
     intro K hK w8 w9 hw8 hb8 g_ iK eu
     go_simp
     refine hK _ _ _ ?_
     clear hK K
     iterate 1 (apply fF rfl rfl rfl;(focus intro u hc' hf';(try simp only[World.size_drew]at hc' hf');go_simp<;>rfl);intro K hK;go_simp;apply hK;clear hK K)
     refine aK ?_
     have bG:Below w.heap.size w w9:=(hbel.trans (hb6.mono hsz)).trans ((hb8.mono (by have:=hb6.size;omega)).grown iK (by have:=hb6.size;have:=hb8.size;omega) (λj hj=>by cases hj;omega))
     have uj:=TK g_ jO bG (by omega)
     clear g_ iK eu hb8 hw8 hown6 hown bG hb6 hw5 hb5 aI hNb hnb jO d0 d1
     go_wp2
     go_roundw
     case rel=>exact⟨k+1,_,by omega,by go_num,uj⟩
     case measure=>simp[intOf];omega
    ·have g1:(ns[k].kind==15)=false:=by simp[hk1]
     have g2:(ns[k].kind==16)=true:=by simp[hk1]
     have jO:Hid (bZ ns []=bZ (ns.drop (k+1)) (.par p q::st0.reverse)):=(show _=_ by
      rw[hgo.out,hdrop];have e:(st0++[p,q]).reverse=q::p::st0.reverse:=by simp
      rw[e,Ee hk1])
     clear hk1 hgo hdrop hlen
     go_wp2_with fail
     refine rV (C:=ah (aQ) _) 9 [0,1,2,3,4,5,6,7,8,9,10,11,12,13,14,15] [16,17] (by kernel_rfl) (by kernel_rfl) (ah.grows _ _) (ah.refl _ _) ?_
     iterate 15 (apply ay rfl rfl rfl;(focus intro u hc' hf';go_simp<;>rfl);intro K hK;go_simp;apply hK;clear hK K)
     refine fG rfl rfl rfl (ah.grows _ _) (ah.refl _ _) (λb=>.slice (some ⟨b,0,none⟩) 1 1) (λK hK=>?_)
     apply Exists.intro
     refine⟨λw' hw'=>?_,λbb w5 hw5 hb5 aI hNb hnb=>?_⟩
     ·obtain⟨hc',hf'⟩:=hw'.cell
      try simp only[World.size_drew]at hc' hf'
      go_simp
      rfl
     go_simp
     refine hK _ _ _ ?_
     clear hK K
     refine aK ?_
     have hb6:Below wr.heap.size wr w5:=((Below.refl _ _).alloc (Nat.le_refl _) _).drew.trans ((hw5.toBelow).mono (by simp))
     have hown6:w5.ownsRow w.heap.size 76 1 (.slice (some ⟨g,0,none⟩) st0.length cp) st0.length (st0.flatMap yu):=by
      have h0:=uh (bW hb6 hown) st0.length (by omega);rw[List.flatMap_append,List.take_left' (by have:=flat_length Iu st0;omega)]at h0;exact h0
     refine⟨ah (λj=>j=g) w5,w5.heap.size,ah.grows _ _,ah.refl _ _,?_⟩
     refine zZ rfl rfl rfl (ah.refl _ _) _ _ 146 rfl w.heap.size 76 i0 1 Tryz.underlying146 hi hz1 g st0.length cp (st0.flatMap yu) rfl (by have:=hb6.size;omega) rfl ⟨bb,0,none⟩ 1 1 [fD (.par p q)] rfl rfl ?c1 (by omega) ?c2 ?_
     case c1=>intro u hu;simp at hu;subst hu;simp only[fD,Value.cells];rfl
     case c2 =>
      intro w8 hw8 hb8
      refine⟨bW hb8 hown6,?_⟩
      obtain⟨m0,m1,m2⟩:=made_cell ((hb8.block bb (made_cell aI).2.2).trans aI)
      intro j u hj
      match j,hj with
      | 0,hj=>simp at hj;subst hj;rw[HP.out];simp[Addr.add,m0]
     intro K hK w8 w9 hw8 hb8 g_ iK eu
     go_simp
     refine hK _ _ _ ?_
     clear hK K
     iterate 1 (apply fF rfl rfl rfl;(focus intro u hc' hf';(try simp only[World.size_drew]at hc' hf');go_simp<;>rfl);intro K hK;go_simp;apply hK;clear hK K)
     refine aK ?_
     have bG:Below w.heap.size w w9:=(hbel.trans (hb6.mono hsz)).trans ((hb8.mono (by have:=hb6.size;omega)).grown iK (by have:=hb6.size;have:=hb8.size;omega) (λj hj=>by cases hj;omega))
     have uj:=TK g_ jO bG (by omega)
     clear g_ iK eu hb8 hw8 hown6 hown bG hb6 hw5 hb5 aI hNb hnb jO d0 d1
     go_wp2
     go_roundw
     case rel=>exact⟨k+1,_,by omega,by go_num,uj⟩
     case measure=>simp[intOf];omega
   ·have g1:(ns[k].kind==15)=false:=by simp;omega
    have g2:(ns[k].kind==16)=false:=by simp;omega
    have jO:Hid (bZ ns []=bZ (ns.drop (k+1)) (.leaf ns[k]::st.reverse)):=(show _=_ by rw[hgo.out,hdrop,Ef hk1])
    obtain⟨ao,cp,rfl⟩:=jc hown
    clear hk1 hgo hdrop
    go_wp2_with (at_builtin;refine wpList_append_own _ rfl _ _ 146 rfl w.heap.size 76 i0 _ 1 16 Tryz.underlying146 hi hz0 hz1 hz2 rfl (by decide) _ _ _ rfl ((hown.alloc _).alloc _) ⟨wr.heap.size+1,0,none⟩ 1 1 [fD (.leaf ns[k])] rfl rfl ?c1 ?c2 ?c3 ?c4 ?c5 ?_)
    case c1 =>
     intro j u hj
     match j,hj with
     | 0,hj=>simp at hj;subst hj;simp[Addr.add,fD]
    case c2=>intro u hu;simp at hu;subst hu;rfl
    case c3=>unfold maxLen;omega
    case c4=>omega
    case c5=>simp;omega
    intro v' w3 hown3 hgrow _
    have hb3:Below w.heap.size w w3:=((hbel.alloc (by omega) _).alloc (by simp;omega) _).grown hgrow (by simp;omega) (λj hj=>(World.ownsRow.lt hown j hj).1)
    have hst3:=TK hown3 jO hb3 (by omega)
    clear hown3 hgrow hown hb3 jO
    go_wp2
    go_roundw
    case rel=>exact⟨k+1,_,by omega,by go_num,hst3⟩
    case measure=>simp[intOf];omega
  ·have hkn:k=ns.length:=by omega
   subst hkn
   have h0:=hgo.out
   rw[HT.out,List.drop_length,bZ]at h0
   have hst1:st=[t]:=by
    have:=congrArg List.reverse (Option.some.inj h0).symm;simpa using this
   subst hst1
   obtain⟨g,cp,rfl,hgc,hgm,hgB,hgs⟩:=ug hown (by simp)
   have d0:=gQ Iu hown 0 0 (by simp) (by omega)
   simp[yu]at d0
   clear h0 hgo hat HT
   go_wp2
   go_ret
   exact⟨rfl,hbel⟩
theorem EP {L R:List Df} {e:En} (h:aJ L e=some R):good L=true/\qm e=true/\1<=e.kind/\e.kind<=3/\(e.kind=1->∃t,bZ e.body []=some [t]/\t.Ok/\t.count<=400/\e.name.size<=8):=by
 unfold aJ at h;split at h
 ·rename_i hg
  refine⟨hg.1,hg.2,?_⟩;split at h
  ·rename_i hk
   refine⟨by omega,by omega,λ_=>?_⟩;unfold jG at h;rw[if_pos hg.1]at h;have hq:=zi h;have hgR:=hq.1;rw[hq.2]at hgR;have h1:aS (aO L) (kE L e).body=some ((kE L e).inn,(kE L e).out):=by
    refine Classical.byContradiction λhne=>?_;rw[Pg hg.1 hne]at hgR;cases hgR
   have h2:=yE hgR (kE L e) (by simp);obtain⟨t,q1,q2,q3⟩:=LG (λd hd=>(yE hg.1 d hd).1) h1;exact⟨t,q1,q2,q3,h2.1⟩
  ·split at h
   ·exact⟨by omega,by omega,λhh=>by omega⟩
   ·split at h
    ·exact⟨by omega,by omega,λhh=>by omega⟩
    ·cases h
 ·cases h
theorem agF (nm:ByteArray) (i o:Int) (v:Value) (ns:List Nd) (t:Tr) (w:World) (hv:aZ w v ns) (hn:ns.length<=1048576) (hs:nm.size<=1048576) (ht:bZ ns []=some [t]) (hok:t.Ok) (hc:t.count<=400) :
  Calls Tryz.prog 114 #[.agg #[.string nm,.int .i64 i,.int .i64 o,v]] w λe w'=>e=.returned (.string (nm++kT++aV false t))/\Below w.heap.size w w':=by
 obtain⟨a,cap,rfl⟩:=hv.slice;have hz:=ou false t hok;have hz2:(nm++kT).size<=1048580:=by rw[bsize];have:kT.size=3:=rfl;omega
 have n1:¬9223372036854775807<nm.size+3:=by omega
 have n2:¬9223372036854775807<nm.size+3+(aV false t).size:=by omega
 have n3:¬9223372036854775807<(nm++(⟨#[32,61,32]⟩:ByteArray)).size+(aV false t).size:=by have:(nm++(⟨#[32,61,32]⟩:ByteArray)).size<=1048580:=hz2;omega
 have HT:=Lib.hid ht;clear ht;go_enter Tryz.func114,Tryz.ntmps114;go_wp2_with fail
 refine wW (C:=Grew (w.alloc _).drew) 9 (by kernel_rfl) (by kernel_rfl) (by kernel_rfl) (Grew.refl _) ?_;simp only[List.take_succ_cons,List.take_zero,List.drop_succ_cons,List.drop_zero];iterate 6
  refine iJ (λK hK=>?_)
  refine nI rfl ?_
  apply Exists.intro
  refine⟨λw' hw'=>?_,?_⟩
  ·obtain⟨hc',hf',_⟩:=bH hw'
   go_simp
   rfl
  go_simp
  refine hK _ _ ?_
  clear hK K
 refine iJ (λK hK=>?_);refine g_call rfl rfl 43 ?_;apply Exists.intro;refine⟨λw' hw'=>?_,?_⟩;(focus go_simp;rfl);refine(agE _ ns t _ ((hv.keep (aj _ _)).keep (Below.refl _ _).drew) hn HT.out).mono ?_;rintro e w3⟨rfl,hb3⟩;refine⟨_,rfl,hb3,?_⟩;go_simp;apply hK;clear hK K;refine iJ (λK hK=>?_);refine g_call rfl rfl 42 ?_;apply Exists.intro;refine⟨λw' hw'=>?_,?_⟩;(focus go_simp;rfl);refine(Ir t _ hok (by omega)).mono ?_;rintro e w4⟨rfl,hb4⟩;refine⟨_,rfl,hb3.trans (hb4.mono hb3.size),?_⟩;go_simp;apply hK;clear hK K;iterate 1
  refine iJ (λK hK=>?_)
  refine nI rfl ?_
  apply Exists.intro
  refine⟨λw' hw'=>?_,?_⟩
  ·obtain⟨hc',hf',_⟩:=bH hw'
   go_simp
   rfl
  go_simp
  refine hK _ _ ?_
  clear hK K
 refine wX ?_;go_wp2;go_ret
 exact⟨rfl,(aj _ _).drew.trans ((hb3.trans (hb4.mono hb3.size)).mono (by simp))⟩
theorem agG (v vb:Value) (L:List Df) (e:En) (t:Tr) (w:World) (hv:aG w v L) (hn:L.length<=1048576) (hs:∀x∈L,dN x) (hg:good L=true) (hvb:aZ w vb e.body) (he:dW e) (ht:bZ e.body []=some [t]) (hok:t.Ok) (hc:t.count<=400) :
  Calls Tryz.prog 113 #[v,.agg #[.int .i64 e.kind,.string e.name,.string e.to,vb]] w λr w'=>r=.returned (.string (e.name++kT++aV false t))/\Below w.heap.size w w':=by
 obtain⟨a,cap,rfl⟩:∃a cap,v=.slice a L.length cap:=by obtain⟨a,cap,rfl,_⟩:=hv;exact⟨a,cap,rfl⟩
 obtain⟨ab,cb,rfl⟩:=hvb.slice;have HG:=Lib.hid hg;have HT:=Lib.hid ht;clear hg ht;go_enter Tryz.func113,Tryz.ntmps113;go_wp2_with (first|(go_at_call 112;refine(Xp _ _ L e _ (hv.keep (aj _ _)) hn hs HG.out (hvb.keep (aj _ _)) he).mono ?_;rintro r w2⟨x,rfl,hx,hb2⟩;have hb2':Below w.heap.size w w2:=(aj _ _).trans (hb2.mono (by simp)))|(go_at_call 114;refine(agF e.name x.1 x.2 _ e.body t _ (hvb.keep hb2') he.2.2.2 he.1 HT.out hok hc).mono ?_;rintro r w3⟨rfl,hb3⟩))
 go_ret
 exact⟨rfl,hb2'.trans (hb3.mono hb2'.size)⟩
theorem agH (v:Value) (k:Int) (nm to:ByteArray) (vb:Value) (w:World) (ab:Option Addr) (n c:Nat) (hv:vb=.slice ab n c) (av:Option Addr) (m cv:Nat) (hvv:v=.slice av m cv) :
  Calls Tryz.prog 120 #[v,.agg #[.int .i64 k,.string nm,.string to,vb]] w λr w'=>r=.returned (.string nm)/\Below w.heap.size w w':=by
 subst hv hvv;go_enter Tryz.func120,Tryz.ntmps120;go_wp2;go_ret
 exact⟨rfl,aj _ _⟩
theorem agI (v:Value) (k:Int) (nm to:ByteArray) (vb:Value) (w:World) (ab:Option Addr) (n c:Nat) (hv:vb=.slice ab n c) (av:Option Addr) (m cv:Nat) (hvv:v=.slice av m cv) (h1:nm.size<=1048576) (h2:to.size<=1048576) :
  Calls Tryz.prog 125 #[v,.agg #[.int .i64 k,.string nm,.string to,vb]] w λr w'=>r=.returned (.string (nm++iH++to))/\Below w.heap.size w w':=by
 subst hv hvv;have hz2:(nm++iH).size<=1048580:=by rw[bsize];have:iH.size=1:=rfl;omega
 go_enter Tryz.func125,Tryz.ntmps125;go_wp2;go_ret
 exact⟨rfl,aj _ _⟩
def lH (L:List Df) (e:En):Option ByteArray:=if(aJ L e).isSome then some (aH e)else none
def wu (o:Option ByteArray) (w:World) (r:Ending) (w':World):Prop:=r=.returned (.tuple #[.string (o.getD ⟨#[]⟩),.bool o.isSome])/\Below w.heap.size w w'
theorem Ap {L:List Df} {e:En} (h:aJ L e=none):lH L e=none:=by simp[lH,h]
theorem vN {L R:List Df} {e:En} (h:aJ L e=some R):lH L e=some (aH e):=by simp[lH,h]
theorem agJ (v vb:Value) (L:List Df) (e:En) (w:World) (hv:aG w v L) (hn:L.length<=1048576) (hs:∀x∈L,dN x) (hvb:aZ w vb e.body) (he:dW e) (h:aJ L e=none) :
  Calls Tryz.prog 22 #[v,.agg #[.int .i64 e.kind,.string e.name,.string e.to,vb]] w (wu (lH L e) w):=by
 obtain⟨a,cap,rfl⟩:∃a cap,v=.slice a L.length cap:=by obtain⟨a,cap,rfl,_⟩:=hv;exact⟨a,cap,rfl⟩
 obtain⟨ab,cb,rfl⟩:=hvb.slice;have HA:=Lib.hid (show(aJ L e).isSome=false by rw[h];rfl);rw[Ap h];clear h;go_enter Tryz.func22,Tryz.ntmps22;go_wp2_with (go_at_call 24;refine(zC _ _ L e _ (hv.keep (aj _ _)) hn hs (hvb.keep (aj _ _)) he).mono ?_;rintro r w1⟨v1,rfl,ho1,hb1⟩;rw[HA.out])
 go_ret2
 exact⟨rfl,(aj _ _).trans (hb1.mono (by simp))⟩
theorem agK (v vb:Value) (L R:List Df) (e:En) (w:World) (hk:e.kind=1) (hv:aG w v L) (hn:L.length<=1048576) (hs:∀x∈L,dN x) (hvb:aZ w vb e.body) (he:dW e) (h:aJ L e=some R) :
  Calls Tryz.prog 22 #[v,.agg #[.int .i64 e.kind,.string e.name,.string e.to,vb]] w (wu (lH L e) w):=by
 obtain⟨a,cap,rfl⟩:∃a cap,v=.slice a L.length cap:=by obtain⟨a,cap,rfl,_⟩:=hv;exact⟨a,cap,rfl⟩
 obtain⟨ab,cb,rfl⟩:=hvb.slice;obtain⟨hg,_,_,_,hpt⟩:=EP h;have HA:=Lib.hid (show(aJ L e).isSome=true by rw[h];rfl);have HG:=Lib.hid hg;have HK:=Lib.hid hk;obtain⟨t,ht,hok,hc,hnm⟩:=hpt hk;have HT:=Lib.hid ht;have hz:=ou false t hok;have HX:Hid (aH e=Ia++(e.name++kT++aV false t)):=(show _=_ by unfold aH;rw[if_pos hk,EK ht])
 have hzt:(e.name++kT++aV false t).size<=1048576:=by rw[bsize,bsize];have:kT.size=3:=rfl;omega
 have n1:¬9223372036854775807<dA.size+(e.name.size+kT.size+(aV false t).size):=by have h1:dA.size=4:=rfl;have h2:kT.size=3:=rfl;omega
 rw[vN h];clear h hg hpt hk ht;go_enter Tryz.func22,Tryz.ntmps22;go_wp2_with fail
 refine(zC _ _ L e _ (hv.keep (aj _ _)) hn hs (hvb.keep (aj _ _)) he).mono ?_;rintro r w1⟨v1,rfl,ho1,hb1⟩;rw[HA.out];have hB1:Below (w.heap.size+1) (w.alloc (.cells #[.int .i64 e.kind,.string e.name,.string e.to,.slice ab e.body.length cb] 45)) w1:=hb1.mono (by simp);obtain⟨x0,x1,x2,x3,z1,nS⟩:=kX hB1;clear ho1 hb1;go_wp2_with fail
 rw[HK.out];refine(J_ e.name e.to e.body.length ab cb _).mono ?_;rintro r w2⟨rfl,hb2⟩;have hB2:=hB1.trans (hb2.mono (by omega));clear x0 x1 x2 x3;obtain⟨x0,x1,x2,x3,z2,hB2'⟩:=kX hB2;simp only[qX,fv];clear hB1 nS hb2;go_wp2_with fail
 have y2:(w2.alloc (.cells #[.func (.func 109) #[] #[],.func (.func 110) #[] #[],.func (.func 113) #[] #[],.func (.func 115) #[] #[],.string dA] 105)).cell? ⟨w2.heap.size,2,none⟩=some (.func (.func 113) #[] #[]):=by simp
 have y4:(w2.alloc (.cells #[.func (.func 109) #[] #[],.func (.func 110) #[] #[],.func (.func 113) #[] #[],.func (.func 115) #[] #[],.string dA] 105)).cell? ⟨w2.heap.size,4,none⟩=some (.string dA):=by simp
 have G8:=jy x0 (.cells #[.func (.func 109) #[] #[],.func (.func 110) #[] #[],.func (.func 113) #[] #[],.func (.func 115) #[] #[],.string dA] 105);have x1':=jy x1 (.cells #[.func (.func 109) #[] #[],.func (.func 110) #[] #[],.func (.func 113) #[] #[],.func (.func 115) #[] #[],.string dA] 105);have x2':=jy x2 (.cells #[.func (.func 109) #[] #[],.func (.func 110) #[] #[],.func (.func 113) #[] #[],.func (.func 115) #[] #[],.string dA] 105);have x3':=jy x3 (.cells #[.func (.func 109) #[] #[],.func (.func 110) #[] #[],.func (.func 113) #[] #[],.func (.func 115) #[] #[],.string dA] 105);have hB3:Below w.heap.size w (w2.alloc (.cells #[.func (.func 109) #[] #[],.func (.func 110) #[] #[],.func (.func 113) #[] #[],.func (.func 115) #[] #[],.string dA] 105)):=hB2'.alloc hB2'.size _;have z3:w2.heap.size<(w2.alloc (.cells #[.func (.func 109) #[] #[],.func (.func 110) #[] #[],.func (.func 113) #[] #[],.func (.func 115) #[] #[],.string dA] 105)).heap.size:=by simp
 clear x0 x1 x2 x3 hB2 hB2';generalize w2.alloc (.cells #[.func (.func 109) #[] #[],.func (.func 110) #[] #[],.func (.func 113) #[] #[],.func (.func 115) #[] #[],.string dA] 105)=w3 at *;have z4:w.heap.size<w3.heap.size:=by omega
 refine wW (C:=Grew w3.drew) 8 (by kernel_rfl) (by kernel_rfl) (by kernel_rfl) (Grew.refl _) ?_;simp only[List.take_succ_cons,List.take_zero,List.drop_succ_cons,List.drop_zero];iterate 6
  refine iJ (λK hK=>?_)
  refine nI rfl ?_
  apply Exists.intro
  refine⟨λw' hw'=>?_,?_⟩
  ·obtain⟨hc',hf',_⟩:=bH hw'
   simp only[World.size_drew]at hc' hf'
   go_simp
   rfl
  go_simp
  refine hK _ _ ?_
  clear hK K
 refine iJ (λK hK=>?_);refine g_call rfl rfl 113 ?_;apply Exists.intro;refine⟨λw' hw'=>?_,?_⟩;(focus go_simp;rfl);refine(agG _ _ L e t _ ((hv.keep hB3).keep (Below.refl _ _).drew) hn hs HG.out ((hvb.keep hB3).keep (Below.refl _ _).drew) he HT.out hok hc).mono ?_;rintro e w4⟨rfl,hb4⟩;refine⟨_,rfl,hb4,?_⟩;go_simp;apply hK;clear hK K;iterate 1
  refine iJ (λK hK=>?_)
  refine nI rfl ?_
  apply Exists.intro
  refine⟨λw' hw'=>?_,?_⟩
  ·obtain⟨hc',hf',_⟩:=bH hw'
   go_simp
   rfl
  go_simp
  refine hK _ _ ?_
  clear hK K
 refine wX ?_;go_wp2;go_ret2
 exact⟨by rw[HX.out];rfl,hB3.trans ((Below.refl w3.heap.size w3).drew.trans (hb4.mono (by simp)) |>.mono (by omega))⟩
theorem agL (v vb:Value) (L R:List Df) (e:En) (w:World) (hk:e.kind=2) (hv:aG w v L) (hn:L.length<=1048576) (hs:∀x∈L,dN x) (hvb:aZ w vb e.body) (he:dW e) (h:aJ L e=some R) :
  Calls Tryz.prog 22 #[v,.agg #[.int .i64 e.kind,.string e.name,.string e.to,vb]] w (wu (lH L e) w):=by
 obtain⟨a,cap,rfl⟩:∃a cap,v=.slice a L.length cap:=by obtain⟨a,cap,rfl,_⟩:=hv;exact⟨a,cap,rfl⟩
 obtain⟨ab,cb,rfl⟩:=hvb.slice;obtain⟨hg,_,_,_,hpt⟩:=EP h;have HA:=Lib.hid (show(aJ L e).isSome=true by rw[h];rfl);have HG:=Lib.hid hg;have HK:=Lib.hid hk;have HX:Hid (aH e=Ib++e.name):=(show _=_ by unfold aH;rw[if_neg (by omega),if_pos hk])
 have hzt:e.name.size<=1048576:=he.1;have n1:¬9223372036854775807<dQ.size+e.name.size:=by have h1:dQ.size=5:=rfl;omega
 rw[vN h];clear h hg hpt hk ;go_enter Tryz.func22,Tryz.ntmps22;go_wp2_with fail
 refine(zC _ _ L e _ (hv.keep (aj _ _)) hn hs (hvb.keep (aj _ _)) he).mono ?_;rintro r w1⟨v1,rfl,ho1,hb1⟩;rw[HA.out];have hB1:Below (w.heap.size+1) (w.alloc (.cells #[.int .i64 e.kind,.string e.name,.string e.to,.slice ab e.body.length cb] 45)) w1:=hb1.mono (by simp);obtain⟨x0,x1,x2,x3,z1,nS⟩:=kX hB1;clear ho1 hb1;go_wp2_with fail
 rw[HK.out];refine(Ko e.name e.to e.body.length ab cb _).mono ?_;rintro r w2⟨rfl,hb2⟩;have hB2:=hB1.trans (hb2.mono (by omega));clear x0 x1 x2 x3;obtain⟨x0,x1,x2,x3,z2,hB2'⟩:=kX hB2;simp only[qY,fv];clear hB1 nS hb2;go_wp2_with fail
 have y2:(w2.alloc (.cells #[.func (.func 117) #[] #[],.func (.func 118) #[] #[],.func (.func 120) #[] #[],.func (.func 121) #[] #[],.string dQ] 105)).cell? ⟨w2.heap.size,2,none⟩=some (.func (.func 120) #[] #[]):=by simp
 have y4:(w2.alloc (.cells #[.func (.func 117) #[] #[],.func (.func 118) #[] #[],.func (.func 120) #[] #[],.func (.func 121) #[] #[],.string dQ] 105)).cell? ⟨w2.heap.size,4,none⟩=some (.string dQ):=by simp
 have G8:=jy x0 (.cells #[.func (.func 117) #[] #[],.func (.func 118) #[] #[],.func (.func 120) #[] #[],.func (.func 121) #[] #[],.string dQ] 105);have x1':=jy x1 (.cells #[.func (.func 117) #[] #[],.func (.func 118) #[] #[],.func (.func 120) #[] #[],.func (.func 121) #[] #[],.string dQ] 105);have x2':=jy x2 (.cells #[.func (.func 117) #[] #[],.func (.func 118) #[] #[],.func (.func 120) #[] #[],.func (.func 121) #[] #[],.string dQ] 105);have x3':=jy x3 (.cells #[.func (.func 117) #[] #[],.func (.func 118) #[] #[],.func (.func 120) #[] #[],.func (.func 121) #[] #[],.string dQ] 105);have hB3:Below w.heap.size w (w2.alloc (.cells #[.func (.func 117) #[] #[],.func (.func 118) #[] #[],.func (.func 120) #[] #[],.func (.func 121) #[] #[],.string dQ] 105)):=hB2'.alloc hB2'.size _;have z3:w2.heap.size<(w2.alloc (.cells #[.func (.func 117) #[] #[],.func (.func 118) #[] #[],.func (.func 120) #[] #[],.func (.func 121) #[] #[],.string dQ] 105)).heap.size:=by simp
 clear x0 x1 x2 x3 hB2 hB2';generalize w2.alloc (.cells #[.func (.func 117) #[] #[],.func (.func 118) #[] #[],.func (.func 120) #[] #[],.func (.func 121) #[] #[],.string dQ] 105)=w3 at *;have z4:w.heap.size<w3.heap.size:=by omega
 refine wW (C:=Grew w3.drew) 8 (by kernel_rfl) (by kernel_rfl) (by kernel_rfl) (Grew.refl _) ?_;simp only[List.take_succ_cons,List.take_zero,List.drop_succ_cons,List.drop_zero];iterate 6
  refine iJ (λK hK=>?_)
  refine nI rfl ?_
  apply Exists.intro
  refine⟨λw' hw'=>?_,?_⟩
  ·obtain⟨hc',hf',_⟩:=bH hw'
   simp only[World.size_drew]at hc' hf'
   go_simp
   rfl
  go_simp
  refine hK _ _ ?_
  clear hK K
 refine iJ (λK hK=>?_);refine g_call rfl rfl 120 ?_;apply Exists.intro;refine⟨λw' hw'=>?_,?_⟩;(focus go_simp;rfl);refine(agH _ _ _ _ _ _ ab e.body.length cb rfl a L.length cap rfl).mono ?_;rintro e w4⟨rfl,hb4⟩;refine⟨_,rfl,hb4,?_⟩;go_simp;apply hK;clear hK K;iterate 1
  refine iJ (λK hK=>?_)
  refine nI rfl ?_
  apply Exists.intro
  refine⟨λw' hw'=>?_,?_⟩
  ·obtain⟨hc',hf',_⟩:=bH hw'
   go_simp
   rfl
  go_simp
  refine hK _ _ ?_
  clear hK K
 refine wX ?_;go_wp2;go_ret2
 exact⟨by rw[HX.out];rfl,hB3.trans ((Below.refl w3.heap.size w3).drew.trans (hb4.mono (by simp)) |>.mono (by omega))⟩
theorem agM (v vb:Value) (L R:List Df) (e:En) (w:World) (hk:e.kind=3) (hv:aG w v L) (hn:L.length<=1048576) (hs:∀x∈L,dN x) (hvb:aZ w vb e.body) (he:dW e) (h:aJ L e=some R) :
  Calls Tryz.prog 22 #[v,.agg #[.int .i64 e.kind,.string e.name,.string e.to,vb]] w (wu (lH L e) w):=by
 obtain⟨a,cap,rfl⟩:∃a cap,v=.slice a L.length cap:=by obtain⟨a,cap,rfl,_⟩:=hv;exact⟨a,cap,rfl⟩
 obtain⟨ab,cb,rfl⟩:=hvb.slice;obtain⟨hg,_,_,_,hpt⟩:=EP h;have HA:=Lib.hid (show(aJ L e).isSome=true by rw[h];rfl);have HG:=Lib.hid hg;have HK:=Lib.hid hk;have HX:Hid (aH e=bName++(e.name++iH++e.to)):=(show _=_ by unfold aH;rw[if_neg (by omega),if_neg (by omega)])
 have hzt:(e.name++iH++e.to).size<=2097160:=by rw[bsize,bsize];have:iH.size=1:=rfl;have:=he.1;have:=he.2.1;omega
 have n1:¬9223372036854775807<fE.size+(e.name.size+iH.size+e.to.size):=by have h1:fE.size=5:=rfl;have h2:iH.size=1:=rfl;have:=he.1;have:=he.2.1;omega
 rw[vN h];clear h hg hpt hk ;go_enter Tryz.func22,Tryz.ntmps22;go_wp2_with fail
 refine(zC _ _ L e _ (hv.keep (aj _ _)) hn hs (hvb.keep (aj _ _)) he).mono ?_;rintro r w1⟨v1,rfl,ho1,hb1⟩;rw[HA.out];have hB1:Below (w.heap.size+1) (w.alloc (.cells #[.int .i64 e.kind,.string e.name,.string e.to,.slice ab e.body.length cb] 45)) w1:=hb1.mono (by simp);obtain⟨x0,x1,x2,x3,z1,nS⟩:=kX hB1;clear ho1 hb1;go_wp2_with fail
 rw[HK.out];refine(Kq e.name e.to e.body.length ab cb _).mono ?_;rintro r w2⟨rfl,hb2⟩;have hB2:=hB1.trans (hb2.mono (by omega));clear x0 x1 x2 x3;obtain⟨x0,x1,x2,x3,z2,hB2'⟩:=kX hB2;simp only[qZ,fv];clear hB1 nS hb2;go_wp2_with fail
 have y2:(w2.alloc (.cells #[.func (.func 122) #[] #[],.func (.func 123) #[] #[],.func (.func 125) #[] #[],.func (.func 126) #[] #[],.string fE] 105)).cell? ⟨w2.heap.size,2,none⟩=some (.func (.func 125) #[] #[]):=by simp
 have y4:(w2.alloc (.cells #[.func (.func 122) #[] #[],.func (.func 123) #[] #[],.func (.func 125) #[] #[],.func (.func 126) #[] #[],.string fE] 105)).cell? ⟨w2.heap.size,4,none⟩=some (.string fE):=by simp
 have G8:=jy x0 (.cells #[.func (.func 122) #[] #[],.func (.func 123) #[] #[],.func (.func 125) #[] #[],.func (.func 126) #[] #[],.string fE] 105);have x1':=jy x1 (.cells #[.func (.func 122) #[] #[],.func (.func 123) #[] #[],.func (.func 125) #[] #[],.func (.func 126) #[] #[],.string fE] 105);have x2':=jy x2 (.cells #[.func (.func 122) #[] #[],.func (.func 123) #[] #[],.func (.func 125) #[] #[],.func (.func 126) #[] #[],.string fE] 105);have x3':=jy x3 (.cells #[.func (.func 122) #[] #[],.func (.func 123) #[] #[],.func (.func 125) #[] #[],.func (.func 126) #[] #[],.string fE] 105);have hB3:Below w.heap.size w (w2.alloc (.cells #[.func (.func 122) #[] #[],.func (.func 123) #[] #[],.func (.func 125) #[] #[],.func (.func 126) #[] #[],.string fE] 105)):=hB2'.alloc hB2'.size _;have z3:w2.heap.size<(w2.alloc (.cells #[.func (.func 122) #[] #[],.func (.func 123) #[] #[],.func (.func 125) #[] #[],.func (.func 126) #[] #[],.string fE] 105)).heap.size:=by simp
 clear x0 x1 x2 x3 hB2 hB2';generalize w2.alloc (.cells #[.func (.func 122) #[] #[],.func (.func 123) #[] #[],.func (.func 125) #[] #[],.func (.func 126) #[] #[],.string fE] 105)=w3 at *;have z4:w.heap.size<w3.heap.size:=by omega
 refine wW (C:=Grew w3.drew) 8 (by kernel_rfl) (by kernel_rfl) (by kernel_rfl) (Grew.refl _) ?_;simp only[List.take_succ_cons,List.take_zero,List.drop_succ_cons,List.drop_zero];iterate 6
  refine iJ (λK hK=>?_)
  refine nI rfl ?_
  apply Exists.intro
  refine⟨λw' hw'=>?_,?_⟩
  ·obtain⟨hc',hf',_⟩:=bH hw'
   simp only[World.size_drew]at hc' hf'
   go_simp
   rfl
  go_simp
  refine hK _ _ ?_
  clear hK K
 refine iJ (λK hK=>?_);refine g_call rfl rfl 125 ?_;apply Exists.intro;refine⟨λw' hw'=>?_,?_⟩;(focus go_simp;rfl);refine(agI _ _ _ _ _ _ ab e.body.length cb rfl a L.length cap rfl he.1 he.2.1).mono ?_;rintro e w4⟨rfl,hb4⟩;refine⟨_,rfl,hb4,?_⟩;go_simp;apply hK;clear hK K;iterate 1
  refine iJ (λK hK=>?_)
  refine nI rfl ?_
  apply Exists.intro
  refine⟨λw' hw'=>?_,?_⟩
  ·obtain⟨hc',hf',_⟩:=bH hw'
   go_simp
   rfl
  go_simp
  refine hK _ _ ?_
  clear hK K
 refine wX ?_;go_wp2;go_ret2
 exact⟨by rw[HX.out];rfl,hB3.trans ((Below.refl w3.heap.size w3).drew.trans (hb4.mono (by simp)) |>.mono (by omega))⟩
theorem sG (v vb:Value) (L:List Df) (e:En) (w:World) (hv:aG w v L) (hn:L.length<=1048576) (hs:∀x∈L,dN x) (hvb:aZ w vb e.body) (he:dW e) :
  Calls Tryz.prog 22 #[v,.agg #[.int .i64 e.kind,.string e.name,.string e.to,vb]] w (wu (lH L e) w):=by
 cases h:aJ L e with
 | none=>exact agJ v vb L e w hv hn hs hvb he h
 | some R =>
  obtain⟨_,_,h1,h3,_⟩:=EP h
  by_cases k1:e.kind=1
  ·exact agK v vb L R e w k1 hv hn hs hvb he h
  by_cases k2:e.kind=2
  ·exact agL v vb L R e w k2 hv hn hs hvb he h
  exact agM v vb L R e w (by omega) hv hn hs hvb he h
end Go.Proofs.YtikgblkfmpecfaaGreatDoor
