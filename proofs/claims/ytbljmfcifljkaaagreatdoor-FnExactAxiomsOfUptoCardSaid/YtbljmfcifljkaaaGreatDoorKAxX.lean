/-
  The reference's AxiomsOf, its rules given. Own work.
-/
import Derived.Test.YtbljmfcifljkaaaGreatDoorKAF
import Derived.Test.YtbljmfcifljkaaaGreatDoorKAxO
import Derived.Test.YtbljmfcifljkaaaGreatDoorKMS
set_option linter.all false
set_option maxRecDepth 100000
set_option maxHeartbeats 8000000
namespace Go.Proofs.YtbljmfcifljkaaaGreatDoor
open Go.RowKit
set_option maxRecDepth 100000
set_option maxHeartbeats 4000000
theorem axL_small {p k l:Int} (hp:2≤p∧p≤97) (hk:0≤k∧k<p) (hl:0≤l∧l<p):(axL p k l).length≤46∧∀x∈axL p k l,x.left.length≤13∧x.right.length≤13:=by
 have hm1:=Int.emod_nonneg (k*l) (show p≠0 by omega);have hm2:=Int.emod_lt_of_pos (k*l) (show 0<p by omega);have hs1:=Int.emod_nonneg (k+l) (show p≠0 by omega);have hs2:=Int.emod_lt_of_pos (k+l) (show 0<p by omega);have hnum:AxNum k l ((k*l) % p) ((k+l) % p) (p-1):=⟨by omega,by omega,by omega,by omega,by omega⟩
 have hA:(axN p k l).length=27:=rfl;have hT:∀T∈axN p k l,(T.2.1.nodes.length≤13∧T.2.2.nodes.length≤13)∧T.2.1.mir.nodes.length≤13∧T.2.2.mir.nodes.length≤13:=fun T hT=>by
  obtain⟨j,hj,rfl⟩:=List.mem_iff_getElem.1 hT;obtain⟨h1,h2,h3,h4⟩:=hnum.tr j hj;exact⟨⟨h1.len,h2.len⟩,h3.len,h4.len⟩
 have r1:∀T∈axN p k l,(rulOf T).left.length≤13∧(rulOf T).right.length≤13:=fun T h=>(hT T h).1;have r2:∀T∈axN p k l,(mirOf T).left.length≤13∧(mirOf T).right.length≤13:=fun T h=>(hT T h).2;refine⟨?_,fun x hx=>?_⟩
 ·unfold axL;split<;>simp[hA]
 ·unfold axL at hx;have tk:∀n,∀T∈(axN p k l).take n,T∈axN p k l:=fun n T h=>List.mem_of_mem_take h;have dr:∀n,∀T∈(axN p k l).drop n,T∈axN p k l:=fun n T h=>List.mem_of_mem_drop h;have td:∀n m,∀T∈((axN p k l).drop n).take m,T∈axN p k l:=fun n m T h=>dr _ _ (List.mem_of_mem_take h);simp only[List.mem_append,List.mem_map]at hx;rcases hx with(((⟨T,h,rfl⟩|⟨T,h,rfl⟩)|⟨T,h,rfl⟩)|⟨T,h,rfl⟩)|h
  ·exact r1 T (tk _ T h)
  ·exact r2 T (tk _ T h)
  ·exact r1 T (td _ _ T h)
  ·exact r2 T (td _ _ T h)
  ·split at h
   ·cases h
   ·obtain⟨T,h',rfl⟩:=List.mem_map.1 h;exact r1 T (dr _ T h')
structure OfSt (w0 wr:World) (v:Value) (L:List Rul) (i:Nat) (ys:List RuV):Prop where
 row:RuS wr w0.heap.size v ys
 fst:ys.map Prod.fst=L.take i
 bel:Below w0.heap.size w0 wr
def AxSP (p k l:Int) (w:World) (e:Ending) (w':World):Prop:=∃v xs,e=.returned (.tuple #[v,.bool (twoB p k l)])∧xs.map Prod.fst=(if twoB p k l then axL p k l else[])∧RuS w' w.heap.size v xs∧Below w.heap.size w w'
theorem axiomsOfS_any (p k l:Int) (w:World) (hR:twoB p k l=true→∀w,Calls Tryz.prog 37 #[.int .i64 p,.int .i64 k,.int .i64 l] w (RusSP (axL p k l) w)) :
  Calls Tryz.prog 8 #[.int .i64 p,.int .i64 k,.int .i64 l] w (AxSP p k l w):=by
 cases hb:twoB p k l with
 | false =>
  have HB:=Lib.hid hb
  clear hb hR
  go_enter Tryz.func8,Tryz.ntmps8
  go_wp2_with (go_at_call 36;refine(fdTwo_any p k l _).mono ?_;rintro e w2⟨rfl,hb2⟩;rw[HB.out])
  go_ret2
  exact⟨_,[],by rw[HB.out];rfl,by rw[HB.out];rfl,ruS_nil _ _,hb2⟩
 | true =>
  obtain⟨h1,h2,h3⟩:=twoB_in hb
  obtain⟨hlen,hsm⟩:=axL_small h1 h2 h3
  have hA:=hR hb
  obtain⟨L,hL⟩:∃L,L=axL p k l:=⟨_,rfl⟩
  rw[←hL]at hA hlen hsm
  have HA:=Lib.hid hA
  have HB:=Lib.hid hb
  have HL:=Lib.hid hL
  clear hb hA h1 h2 h3 hR hL
  go_enter Tryz.func8,Tryz.ntmps8
  go_wp2_with (first
   |(go_at_call 36;refine(fdTwo_any p k l _).mono ?_;rintro e w2⟨rfl,hb2⟩;rw[HB.out])
   |(go_at_call 37;refine(HA.out _).mono ?_;rintro e w3⟨v3,xs,rfl,hxs,hr,hb3⟩;obtain⟨a3,c3,rfl⟩:=hr.shape))
  have hxl:xs.length=L.length:=by rw[←hxs,List.length_map]
  rw[hxl]
  have hat:=hr.at
  rw[hxs]at hat
  have hb03:Below w.heap.size w w3:=hb2.trans (hb3.mono hb2.size)
  have hst:OfSt w3 w3 (.slice none 0 0) L 0 []:=⟨ruS_nil _ _,rfl,Below.refl _ _⟩
  rw[hxl]at hat
  clear hxl hxs hb2 hb3 hr
  go_loopw [8,21] (fun rv iv wr=>∃(i:Nat) (ys:List RuV),i≤L.length∧iv=.int .i64 (i:Int)∧OfSt w3 wr rv L i ys) (fun _ iv _=>L.length-(intOf iv).toNat)
  case atStart=>exact⟨0,[],by omega,rfl,hst⟩
  case round =>
   clear hst
   obtain⟨i,ys,hi,rfl,hst⟩:=hrel
   have hyl:ys.length=i:=by
    have:=congrArg List.length hst.fst;simpa[Nat.min_eq_left hi]using this
   obtain⟨ar,cr,rfl⟩:=hst.row.shape
   rw[hyl]at hst ⊢
   by_cases hlt:i<L.length
   ·have i1:(i:Int)<L.length:=by omega
    have i2:IntKind.i64.wrap ((i:Int)+1)=(i:Int)+1:=IntWalk.i64_in _ (by omega)
    obtain⟨aa,cp,he,hc,hat'⟩:=hat
    simp only[Value.slice.injEq]at he
    obtain⟨rfl,-,rfl⟩:=he
    obtain⟨b,o,rfl,_,n0,⟨vl,n1,hvl⟩,vr,n2,hvr⟩:=hat' i hlt
    have hx:=hsm _ (List.getElem_mem hlt)
    obtain⟨x,hxx⟩:∃x,L[i]=x:=⟨_,rfl⟩
    have hLt:L.take (i+1)=L.take i++[x]:=by rw[←hxx];exact take_snoc L i hlt
    rw[hxx]at n0 hvl hvr hx
    obtain⟨al,cl,rfl⟩:=hvl.slice
    obtain⟨ac,cc,rfl⟩:=hvr.slice
    replace n0:=cell_keep hst.bel n0
    replace n1:=cell_keep hst.bel n1
    replace n2:=cell_keep hst.bel n2
    have bz:=cell_lt n0
    have HST:=Lib.hid hst
    have HX:=Lib.hid hx
    have HLT:=Lib.hid hLt
    clear hst hx hLt hat' hxx
    go_wp2_with fail
    have hB1:=alloc_below wr (.cells #[.string x.name,.slice al x.left.length cl,.slice ac x.right.length cc] 32)
    have c0:(wr.alloc (.cells #[.string x.name,.slice al x.left.length cl,.slice ac x.right.length cc] 32)).cell? ⟨wr.heap.size,0,none⟩=some (.string x.name):=by simp[go_sem]
    have c1:(wr.alloc (.cells #[.string x.name,.slice al x.left.length cl,.slice ac x.right.length cc] 32)).cell? ⟨wr.heap.size,1,none⟩=some (.slice al x.left.length cl):=by simp[go_sem]
    have c2:(wr.alloc (.cells #[.string x.name,.slice al x.left.length cl,.slice ac x.right.length cc] 32)).cell? ⟨wr.heap.size,2,none⟩=some (.slice ac x.right.length cc):=by simp[go_sem]
    have hrowW:=HST.out.row.keep hB1
    have hbW:=HST.out.bel.trans (hB1.mono HST.out.bel.size)
    obtain⟨W,hW⟩:∃W,W=wr.alloc (.cells #[.string x.name,.slice al x.left.length cl,.slice ac x.right.length cc] 32):=⟨_,rfl⟩
    have hWs:W.heap.size=wr.heap.size+1:=by rw[hW];simp
    have zW:wr.heap.size<W.heap.size:=by omega
    rw[←hW]at c0 c1 c2 hrowW hbW ⊢
    clear hW hB1 n0 n1 n2 bz
    have hoff:∀k,(Value.slice ar i cr).ownBlock=some k→k<wr.heap.size∧w3.heap.size≤k:=fun k hk=>by have:=World.ownsRow.lt HST.out.row.1 k hk;exact⟨this.2,this.1⟩
    have hT:¬(Value.slice ar i cr).ownBlock=some wr.heap.size:=fun e=>by have:=(hoff _ e).1;omega
    obtain⟨T,hTT⟩:∃T:Nat→Prop,T=fun j=>(Value.slice ar i cr).ownBlock=some j:=⟨_,rfl⟩
    have hTn:¬T wr.heap.size:=by rw[hTT];exact hT
    have hTi:∀k,(Value.slice ar i cr).ownBlock=some k→T k:=by rw[hTT];exact fun k hk=>hk
    have hTl:∀j,T j→w3.heap.size≤j:=by rw[hTT];exact fun j hj=>(hoff j hj).2
    clear hTT hT
    have up:∀{w':World},Exc T W.drew w'→Below w3.heap.size w3 w':=fun h=>hbW.drew.trans (h.low hTl (by have:=hbW.size;simpa using this))
    refine region_acts4 (C:=Exc T _) 1 (List.range 15) (by kernel_rfl) (by kernel_rfl) (Exc.grows _ _) (Exc.refl _ _) ?_
    iterate 6 (apply x_sT rfl rfl rfl;(focus intro u hc' hf';(try simp only[World.size_drew]at hc' hf');go_simp<;>rfl);intro K hK;go_simp;apply hK;clear hK K)
    refine x_call rfl rfl rfl (Exc.grows _ _) (Exc.refl _ _) 39 (fun K hK=>?_);apply Exists.intro;refine⟨fun w' hw'=>?_,fun wa hwa hbwa=>?_⟩;(focus go_simp;rfl);refine(tmOwn_any _ x.left _ (hvl.keep (up hwa)) (by have:=HX.out;omega)).mono ?_;rintro e u1⟨v1,rfl,ho1,hb1⟩;refine⟨_,rfl,hb1,fun hx=>?_⟩;go_simp;apply hK;clear hK K
    obtain⟨a1,q1,rfl⟩:=ho1.slice
    iterate 3 (apply x_sT rfl rfl rfl;(focus intro u hc' hf';(try simp only[World.size_drew]at hc' hf');go_simp<;>rfl);intro K hK;go_simp;apply hK;clear hK K)
    refine x_call rfl rfl rfl (Exc.grows _ _) (hx) 39 (fun K hK=>?_);apply Exists.intro;refine⟨fun w' hw'=>?_,fun wb hwb hbwb=>?_⟩;(focus go_simp;rfl);refine(tmOwn_any _ x.right _ (hvr.keep (up hwb)) (by have:=HX.out;omega)).mono ?_;rintro e u2⟨v2,rfl,ho2,hb2⟩;refine⟨_,rfl,hb2,fun hx=>?_⟩;go_simp;apply hK;clear hK K
    obtain⟨a2,q2,rfl⟩:=ho2.slice
    refine x_call rfl rfl rfl (Exc.grows _ _) (hx) 38 (fun K hK=>?_);apply Exists.intro;refine⟨fun w' hw'=>?_,fun wc hwc hbwc=>?_⟩;(focus go_simp;rfl);refine(axRule_any _ _ _ _ _ _ _ _).mono ?_;rintro e u3⟨rfl,hb3⟩;refine⟨_,rfl,hb3,fun hx=>?_⟩;go_simp;apply hK;clear hK K
    refine x_make rfl rfl rfl (Exc.grows _ _) (hx) (fun b=>.slice (some ⟨b,0,none⟩) 1 1) (fun K hK=>?_)
    apply Exists.intro
    refine⟨fun w' hw'=>?_,fun b4 u4 hw4 hb4 hbo4 hN4 hn4=>?_⟩
    ·obtain⟨hc',hf'⟩:=hw'.cell
     try simp only[World.size_drew]at hc' hf'
     go_simp
     rfl
    go_simp
    refine hK _ _ _ ?_
    clear hK K
    have g1:=hbwa.size
    have g2:=hb1.size
    have g3:=hbwb.size
    have g4:=hb2.size
    have g5:=hbwc.size
    have g6:=hb3.size
    have g7:=hb4.size
    have g0:=hbW.size
    simp only[World.size_drew]at g1
    have ho1':NdsOwn u4 w3.heap.size (.slice a1 x.left.length q1) x.left:=((((((ho1.keep hbwb).keep hb2).keep hbwc).keep hb3).keep hb4)).mono (by omega)
    have ho2':NdsOwn u4 w3.heap.size (.slice a2 x.right.length q2) x.right:=((((ho2.keep hbwc).keep hb3).keep hb4)).mono (by omega)
    have hbW4:Below W.heap.size W u4:=((((((((Below.refl _ W).drew.trans (hbwa.mono (by simp))).trans (hb1.mono (by omega))).trans (hbwb.mono (by omega))).trans (hb2.mono (by omega))).trans (hbwc.mono (by omega))).trans (hb3.mono (by omega))).trans (hb4.mono (by omega)))
    have hrow4:=hrowW.keep hbW4
    have hys:RuAllO u4 w3.heap.size [(⟨x.name,x.left,x.right⟩,.slice a1 x.left.length q1,.slice a2 x.right.length q2)]:=(RuAllO.nil _ _).snoc ho1' ho2'
    refine x_ruapp rfl rfl rfl hw4 (.tmp 25) (.tmp 37) rfl w3.heap.size (.slice ar i cr) ys _ b4 1 1 rfl rfl rfl (fun k hk=>.inl ⟨by have:=(hoff k hk).1;simp;omega,hTi k hk⟩) (by omega) (by omega) hrow4 hys hbo4 ?_
    intro K hK w5 w6 v6 hw5 hb5 hrow6 hg6 hw6 hv6
    have hst6:OfSt w3 w6 v6 L (i+1) (ys++[(⟨x.name,x.left,x.right⟩,.slice a1 x.left.length q1,.slice a2 x.right.length q2)]):=by
     refine⟨hrow6,?_,up hw6⟩;rw[List.map_append,HST.out.fst,HLT.out];rfl
    go_simp
    refine hK _ _ _ ?_
    clear hK K
    iterate 1 (apply x_sT rfl rfl rfl;(focus intro u hc' hf';(try simp only[World.size_drew]at hc' hf');go_simp<;>rfl);intro K hK;go_simp;apply hK;clear hK K)
    refine x_nil ?_
    clear hbwa hb1 hbwb hb2 hbwc hb3 hb4 hw4 hbo4 hN4 hn4 hb5 hw5 ho1 ho2 ho1' ho2' hys hrow4 hbW4
    go_wp2_with fail
    refine⟨⟨i+1,_,by omega,by push_cast;rfl,hst6⟩,?_⟩
    simp[intOf];omega
   ·obtain rfl:i=L.length:=by omega
    have i1:¬(L.length:Int)<L.length:=by omega
    go_wp2
    go_ret2
    exact⟨_,ys,by rw[HB.out];rfl,by rw[HB.out,if_pos rfl,←HL.out,hst.fst,List.take_length],hst.row.mono hb03.size,hb03.trans (hst.bel.mono hb03.size)⟩
end Go.Proofs.YtbljmfcifljkaaaGreatDoor
