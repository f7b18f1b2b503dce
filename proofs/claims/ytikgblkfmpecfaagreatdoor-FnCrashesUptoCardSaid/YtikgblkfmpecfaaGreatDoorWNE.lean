/-
  The draws: texts of terms. Own work.
-/
import Derived.Test.YtikgblkfmpecfaaGreatDoorWND
import Derived.Test.YtikgblkfmpecfaaGreatDoorWX
import Derived.Test.YtikgblkfmpecfaaGreatDoorWNC
set_option linter.all false
set_option maxRecDepth 100000
set_option maxHeartbeats 8000000
namespace Go.Proofs.YtikgblkfmpecfaaGreatDoor
open Go.RowKit
theorem LC {bc B:Nat} {w w':World} {v:Value} {ns:List Nd} (ho:au w B v ns) (hE:ah (λk=>k=bc) w w') (hB:bc<B):au w' B v ns :=
 gV hE ho (λk hk e=>by have:=(World.ownsRow.lt ho k hk).1;have:k=bc:=e;omega)
theorem RV {w:World} {va:Value} {code:List UInt8} (h:BytesAt w va code) (hl:code.length<=1048576) (hlow:∀k,va.ownBlock=some k->k<w.heap.size) :
  aW w.heap.size 0 (w.alloc (.cells #[va,.int .i64 0,.int .u64 0] 67)):=by
 refine⟨va,code,0,0,by simp[go_sem],by simp[go_sem],by simp[go_sem],λj=>by simp[go_sem],h.keep λb o e=>?_,λb o sp n c e=>hlow b (by rw[e];rfl),Nat.le_refl _,hl⟩;have:=hlow b e;exact(aj w _).cell (p:=⟨b,o,none⟩) this
theorem BytesAt.low {w w':World} {va:Value} {code:List UInt8} (h:BytesAt w va code) (hlow:∀k,va.ownBlock=some k->k<w.heap.size) (hb:Below w.heap.size w w'):BytesAt w' va code :=
 h.keep λb o e=>hb.cell (p:=⟨b,o,none⟩) (hlow b e)
theorem sK {w w1 w2:World} {bc:Nat} (hb:Below w.heap.size w w1) (hE:ah (λk=>k=bc) w1 w2) (hbc:w.heap.size<=bc):Below w.heap.size w w2 :=
 ⟨hE.os.trans hb.os,hE.tape.trans hb.tape,hE.output.trans hb.output,Nat.le_trans hb.size hE.size,λk hk=>(hE.block k (Nat.lt_of_lt_of_le hk hb.size) (by omega)).trans (hb.block k hk)⟩
theorem Zm (w:World) (xs:List ByteArray) (n:Nat) (hn:n=xs.length):Rk (w.alloc (.cells (xs.map Value.string).toArray 9)) (.slice (some ⟨w.heap.size,0,none⟩) n n) xs:=by
 subst hn;refine⟨some ⟨w.heap.size,0,none⟩,xs.length,rfl,Nat.le_refl _,λi hi=>⟨_,0,rfl,hi,?_⟩⟩;simp[go_sem,hi]
theorem YJ (va vb:Value) (ns:List Nd) (w:World) (ha:aZ w va ns) (hb:aZ w vb ns) (hn:ns.length<=1048576) :
  Calls Tryz.prog 13 #[.agg #[va],.agg #[vb]] w λe w'=>e=.returned (.bool true)/\Below w.heap.size w w':=by
 obtain⟨a,ca,rfl,hca,Ht⟩:=ha;obtain⟨b,cb,rfl,hcb,Hu⟩:=hb;go_enter Tryz.func13,Tryz.ntmps13;go_wp2_with fail
 go_loopw [5,16] (λ_ kv wr=>∃k:Nat,kv=.int .i64 k/\k<=ns.length/\Below (w.heap.size+2) ((w.alloc (.cells #[.slice a ns.length ca] 27)).alloc (.cells #[.slice b ns.length cb] 27)) wr) (λ_ kv _=>ns.length-(intOf kv).toNat)
 case atStart=>exact⟨0,rfl,by omega,Below.refl _ _⟩
 case round =>
  obtain⟨k,rfl,hk,hbel⟩:=hrel
  have hB:Below w.heap.size w wr:=(((Below.refl _ _).alloc (Nat.le_refl _) _).alloc (by simp) _).trans (hbel.mono (by omega))
  by_cases hlt:k<ns.length
  ·obtain⟨ba,oa,rfl,_,hna⟩:=Ht k hlt
   obtain⟨bb,ob,rfl,_,hnb⟩:=Hu k hlt
   obtain⟨c0,c1,c2⟩:=hna
   obtain⟨d0,d1,d2⟩:=hnb
   have c0:=ak hB c0
   have c1:=ak hB c1
   have c2:=ak hB c2
   have d0:=ak hB d0
   have d1:=ak hB d1
   have d2:=ak hB d2
   have t0:wr.cell? ⟨w.heap.size,0,none⟩=some (.slice (some ⟨ba,oa,none⟩) ns.length ca):=(hbel.cell (p:=⟨w.heap.size,0,none⟩) (by simp)).trans (by simp[go_sem])
   have t1:wr.cell? ⟨w.heap.size+1,0,none⟩=some (.slice (some ⟨bb,ob,none⟩) ns.length cb):=(hbel.cell (p:=⟨w.heap.size+1,0,none⟩) (by simp)).trans (by simp[go_sem])
   have z0:=cell_lt t0
   have z1:=cell_lt t1
   have y0:=cell_lt c0
   have y1:=cell_lt d0
   clear Ht Hu
   go_wp2_with fail
   refine bC (C:=ah (aQ) _) 6 [0,1,2,3,4,5,6,7,8,9,10] (by kernel_rfl) (by kernel_rfl) (ah.grows _ _) (ah.refl _ _) ?_
   iterate 11 (apply ay rfl rfl rfl;(focus intro u hc' hf';go_simp<;>rfl);intro K hK;go_simp;apply hK;clear hK K)
   refine aK ?_
   go_wp2_with fail
   exact⟨⟨k+1,by simp,by omega,hbel.drew⟩,by simp[intOf];omega⟩
  ·go_wp2_with fail
   go_ret
   exact⟨rfl,hB⟩
def BgP (xs ys:List UInt8) (w:World) (e:Ending) (w':World):Prop:=∃b,e=.returned (.bool b)/\(b=false->xs.length<=1048576/\ys.length<=1048576)/\w'=w
theorem Yc (va vb:Value) (xs ys:List UInt8) (w:World) (ha:BytesAt w va xs) (hb:BytesAt w vb ys) (hx:xs.length<=1099511627776) (hy:ys.length<=1099511627776) :
  Calls Tryz.prog 6 #[va,vb] w (BgP xs ys w):=by
 obtain⟨a,ca,rfl⟩:=ha.shape;obtain⟨b,cb,rfl⟩:=hb.shape;have e1:IntKind.i64.wrap (1048576-(xs.length:Int))=1048576-(xs.length:Int):=IntWalk.i64_in _ (by omega);by_cases h1:(1048576:Int)<xs.length
 ·go_enter Tryz.func6,Tryz.ntmps6;go_wp2_with fail
  go_ret
  exact⟨true,rfl,by simp,rfl⟩
 ·go_enter Tryz.func6,Tryz.ntmps6;go_wp2_with fail
  go_ret
  exact⟨_,rfl,by simp;omega,rfl⟩
end Go.Proofs.YtikgblkfmpecfaaGreatDoor
