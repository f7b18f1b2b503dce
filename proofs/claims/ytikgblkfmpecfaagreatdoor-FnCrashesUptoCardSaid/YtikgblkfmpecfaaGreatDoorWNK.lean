/-
  The law's helpers: pSameLib at equal libraries, numberOf. Own work.
-/
import Derived.Test.YtikgblkfmpecfaaGreatDoorWNE
import Derived.Test.YtikgblkfmpecfaaGreatDoorWND
set_option linter.all false
set_option maxRecDepth 100000
set_option maxHeartbeats 8000000
namespace Go.Proofs.YtikgblkfmpecfaaGreatDoor
open Go.RowKit
theorem Em (va vb:Value) (L:List Df) (w:World) (ha:aG w va L) (hb:aG w vb L) (hn:L.length<=1048576) (hs:∀d∈L,dN d) :
  Calls Tryz.prog 21 #[va,vb] w λe w'=>e=.returned (.bool true)/\Below w.heap.size w w':=by
 obtain⟨a,ca,rfl,hca,Ht⟩:=ha;obtain⟨b,cb,rfl,hcb,Hu⟩:=hb;go_enter Tryz.func21,Tryz.ntmps21;go_wp2_with fail
 go_loopw [5,13] (λ_ kv wr=>∃k:Nat,kv=.int .i64 k/\k<=L.length/\Below w.heap.size w wr) (λ_ kv _=>L.length-(intOf kv).toNat)
 case atStart=>exact⟨0,rfl,by omega,Below.refl _ _⟩
 case round =>
  obtain⟨k,rfl,hk,hB⟩:=hrel
  by_cases hlt:k<L.length
  ·obtain⟨ba,oa,rfl,_,hna⟩:=Ht k hlt
   obtain⟨bb,ob,rfl,_,hnb⟩:=Hu k hlt
   obtain⟨c0,c1,c2,ua,c3,ZI⟩:=hna.keep hB
   obtain⟨d0,d1,d2,ub,d3,hub⟩:=hnb.keep hB
   have y0:=cell_lt c0
   have y1:=cell_lt d0
   have hok:=hs L[k] (List.getElem_mem _)
   obtain⟨a1,c1',rfl⟩:=ZI.slice
   obtain⟨a2,c2',rfl⟩:=hub.slice
   clear Ht Hu hs
   go_wp2_with fail
   have up:∀{w':World},ah aQ wr.drew w'->Below wr.heap.size wr w':=λh=>(Below.refl wr.heap.size wr).drew.trans (h.toBelow.mono (by simp))
   refine bC (C:=ah (aQ) _) 6 [0,1,2,3,4,5,6,7,8,9,10,11,12,13,14,15,16,17,18,19,20,21,22,23,24,25,26,27,28,29,30,31,32,33,34,35,36,37,38,39,40,41,42,43,44,45,46,47,48,49,50] (by kernel_rfl) (by kernel_rfl) (ah.grows _ _) (ah.refl _ _) ?_
   iterate 12 (apply ay rfl rfl rfl;(focus intro u hc' hf';go_simp<;>rfl);intro K hK;go_simp;apply hK;clear hK K)
   iterate 11 (apply dR rfl rfl (by first|rfl|(simp[Region.wanted,yielded,go_sem]));(focus intro u hc' hf';go_simp<;>rfl);intro K hK;go_simp;apply hK;clear hK K)
   iterate 2 (apply ay rfl rfl rfl;(focus intro u hc' hf';go_simp<;>rfl);intro K hK;go_simp;apply hK;clear hK K)
   iterate 11 (apply dR rfl rfl (by first|rfl|(simp[Region.wanted,yielded,go_sem]));(focus intro u hc' hf';go_simp<;>rfl);intro K hK;go_simp;apply hK;clear hK K)
   iterate 2 (apply ay rfl rfl rfl;(focus intro u hc' hf';go_simp<;>rfl);intro K hK;go_simp;apply hK;clear hK K)
   iterate 10 (apply dR rfl rfl (by first|rfl|(simp[Region.wanted,yielded,go_sem]));(focus intro u hc' hf';go_simp<;>rfl);intro K hK;go_simp;apply hK;clear hK K)
   refine pR rfl rfl (ah.grows _ _) (ah.refl _ _) 13 (λK hK=>?_);refine⟨by first|rfl|(simp[Region.wanted,yielded,go_sem]),?_⟩;apply Exists.intro;refine⟨λw' hw'=>?_,λw' hw' hbw=>?_⟩;(focus go_simp;rfl);refine(YJ _ _ L[k].body _ (ZI.keep (up hw')) (hub.keep (up hw')) hok.2.2).mono ?_;rintro e w3⟨rfl,hb3⟩;refine⟨_,rfl,hb3,λhx=>?_⟩;go_simp;apply hK;clear hK K
   iterate 1 (apply dR rfl rfl (by first|rfl|(simp[Region.wanted,yielded,go_sem]));(focus intro u hc' hf';go_simp<;>rfl);intro K hK;go_simp;apply hK;clear hK K)
   iterate 1 (apply ay rfl rfl rfl;(focus intro u hc' hf';go_simp<;>rfl);intro K hK;go_simp;apply hK;clear hK K)
   refine aK ?_
   go_wp2_with fail
   exact⟨⟨k+1,by simp,by omega,hB.trans ((up hx).mono hB.size)⟩,by simp[intOf];omega⟩
  ·go_wp2_with fail
   go_ret
   exact⟨rfl,hB⟩
theorem Yf (v:Value) (bs:List UInt8) (w:World) (h:BytesAt w v bs) (hn:bs.length<=1048576) :
  Calls Tryz.prog 27 #[v] w λe w'=>(∃n:Nat,n<1000003/\e=.returned (.int .i64 (n:Int)))/\w'=w:=by
 obtain⟨a,ca,rfl,hca,hat⟩:=h;go_enter Tryz.func27,Tryz.ntmps27;go_wp2_with fail
 go_loopw [3,5,8] (λnv _ kv wr=>∃n k:Nat,nv=.int .i64 (n:Int)/\n<1000003/\kv=.int .i64 (k:Int)/\k<=bs.length/\wr=w) (λ_ _ kv _=>bs.length-(intOf kv).toNat)
 case atStart=>exact⟨0,0,rfl,by omega,rfl,by omega,by first|rfl|trivial⟩
 case round =>
  obtain⟨n,k,rfl,hn3,rfl,hk,rfl⟩:=hrel
  by_cases hlt:k<bs.length
  ·obtain⟨b,o,rfl,_,hx⟩:=hat k hlt
   rw[Nat.mul_one]at hx
   obtain⟨c,hc⟩:∃c:Nat,(bs[k].toNat:Int)=(c:Int)/\c<256:=⟨_,rfl,bs[k].toNat_lt⟩
   rw[hc.1]at hx
   have e1:IntKind.i64.wrap (31*(n:Int))=31*(n:Int):=IntWalk.i64_in _ (by omega)
   have e2:IntKind.i64.wrap (c:Int)=(c:Int):=IntWalk.i64_in _ (by omega)
   have e3:IntKind.i64.wrap (31*(n:Int)+(c:Int))=31*(n:Int)+(c:Int):=IntWalk.i64_in _ (by omega)
   have e4:(31*(n:Int)+(c:Int)).tmod 1000003=(31*(n:Int)+(c:Int)) % 1000003:=Int.tmod_eq_emod_of_nonneg (by omega)
   have e5:IntKind.i64.wrap ((31*(n:Int)+(c:Int)) % 1000003)=(31*(n:Int)+(c:Int)) % 1000003:=IntWalk.i64_in _ (by omega)
   clear hat
   go_wp2_with fail
   exact⟨⟨(31*n+c) % 1000003,k+1,by congr 1,by omega,by simp,by omega,trivial⟩,by simp[intOf];omega⟩
  ·go_wp2_with fail
   go_ret
   exact⟨⟨n,hn3,rfl⟩,by first|rfl|trivial⟩
end Go.Proofs.YtikgblkfmpecfaaGreatDoor
