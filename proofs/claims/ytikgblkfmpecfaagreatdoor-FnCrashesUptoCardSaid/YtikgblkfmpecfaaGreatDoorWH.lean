/-
  The kinds of entries: what the table holds, and what an entry's kind is. Own work.
-/
import Derived.Test.YtikgblkfmpecfaaGreatDoorWG
import Derived.Laws.EntriesVeiled
set_option linter.all false
set_option maxRecDepth 100000
set_option maxHeartbeats 8000000
namespace Go.Proofs.YtikgblkfmpecfaaGreatDoor
open Go.RowKit
def fv (n:Nat):Value:=.func (.func n) #[] #[]
def dA:ByteArray:=⟨#[108,101,116,32]⟩
def dQ:ByteArray:=⟨#[100,114,111,112,32]⟩
def fE:ByteArray:=⟨#[110,97,109,101,32]⟩
theorem adu (w:World) :
  Calls Tryz.prog 62 #[] w λe w'=>e=.returned (.agg #[fv 109,fv 110,fv 113,fv 115,.string dA,
   fv 117,fv 118,fv 120,fv 121,.string dQ,
   fv 122,fv 123,fv 125,fv 126,.string fE])/\Below w.heap.size w w':=by
 go_enter Tryz.func62,Tryz.ntmps62;go_wp2;exact bodyPost_ret (v:=.agg #[fv 109,fv 110,fv 113,fv 115,.string dA,
   fv 117,fv 118,fv 120,fv 121,.string dQ,
   fv 122,fv 123,fv 125,fv 126,.string fE]) (by simp[results,Tryz.results62,go_sem,fv,dA,dQ,fE]) rfl ⟨rfl,(Below.refl _ _).alloc (Nat.le_refl _) _⟩
def qX:Value:=.agg #[fv 109,fv 110,fv 113,fv 115,.string dA]
def qY:Value:=.agg #[fv 117,fv 118,fv 120,fv 121,.string dQ]
def qZ:Value:=.agg #[fv 122,fv 123,fv 125,fv 126,.string fE]
def J8:Value:=.agg #[.nilFunc,.nilFunc,.nilFunc,.nilFunc,.string ⟨#[]⟩]
theorem adv (k:Int) (nm to:ByteArray) (v:Value) (n:Nat) (a:Option Addr) (c:Nat) (w:World) (hv:v=.slice a n c) :
  Calls Tryz.prog 109 #[.agg #[.int .i64 k,.string nm,.string to,v]] w λe w'=>e=.returned (.bool (decide (to=ByteArray.empty)))/\Below w.heap.size w w':=by
 subst hv;by_cases h:to=ByteArray.empty
 ·have g:to.toList.isEmpty=true:=by simpa using(toList_nil_iff_emptyBytes _).2 h
  have HH:=Lib.hid h;clear h;go_enter Tryz.func109,Tryz.ntmps109;go_wp2;go_ret
  exact⟨Dw HH.out,aj _ _⟩
 ·have g:to.toList.isEmpty=false:=by
   have:¬to.toList=[]:=λe=>h ((toList_nil_iff_emptyBytes _).1 e);simpa using this
  have HH:=Lib.hid h;clear h;go_enter Tryz.func109,Tryz.ntmps109;go_wp2;go_ret
  exact⟨yO HH.out,aj _ _⟩
theorem adw (k:Int) (nm to:ByteArray) (v:Value) (n:Nat) (a:Option Addr) (c:Nat) (w:World) (hv:v=.slice a n c) :
  Calls Tryz.prog 117 #[.agg #[.int .i64 k,.string nm,.string to,v]] w λe w'=>e=.returned (.bool (decide (to=ByteArray.empty/\n=0)))/\Below w.heap.size w w':=by
 subst hv;by_cases h:to=ByteArray.empty
 ·have g:to.toList.isEmpty=true:=by simpa using(toList_nil_iff_emptyBytes _).2 h
  by_cases h2:n=0
  ·subst h2;have HH:=Lib.hid h;clear h;go_enter Tryz.func117,Tryz.ntmps117;go_wp2;go_ret
   exact⟨Dw ⟨HH.out,trivial⟩,aj _ _⟩
  ·have g2:((n:Int)==0)=false:=by simp;omega
   have HH:=Lib.hid h2;clear h h2;go_enter Tryz.func117,Tryz.ntmps117;go_wp2;go_ret
   exact⟨yO (λe=>HH.out e.2),aj _ _⟩
 ·have g:to.toList.isEmpty=false:=by
   have:¬to.toList=[]:=λe=>h ((toList_nil_iff_emptyBytes _).1 e);simpa using this
  have HH:=Lib.hid h;clear h;go_enter Tryz.func117,Tryz.ntmps117;go_wp2;go_ret
  exact⟨yO (λe=>HH.out e.1),aj _ _⟩
theorem adx (k:Int) (nm to:ByteArray) (v:Value) (n:Nat) (a:Option Addr) (c:Nat) (w:World) (hv:v=.slice a n c) :
  Calls Tryz.prog 122 #[.agg #[.int .i64 k,.string nm,.string to,v]] w λe w'=>e=.returned (.bool (decide (n=0)))/\Below w.heap.size w w':=by
 subst hv;by_cases h2:n=0
 ·subst h2;go_enter Tryz.func122,Tryz.ntmps122;go_wp2;go_ret
  exact⟨Dw trivial,aj _ _⟩
 ·have g2:((n:Int)==0)=false:=by simp;omega
  have HH:=Lib.hid h2;clear h2;go_enter Tryz.func122,Tryz.ntmps122;go_wp2;go_ret
  exact⟨yO HH.out,aj _ _⟩
theorem kind_none (k:Int) (nm to:ByteArray) (n:Nat) (a:Option Addr) (c:Nat) (w:World) (h:¬(1<=k/\k<=3)) :
  Calls Tryz.prog 61 #[.agg #[.int .i64 k,.string nm,.string to,.slice a n c]] w λe w'=>e=.returned (.tuple #[J8,.bool false])/\Below w.heap.size w w':=by
 have g1:inB k 1 3=false:=by simp[inB];omega
 go_enter Tryz.func61,Tryz.ntmps61;go_wp2_with (go_at_call 71;refine(pV _ _ _ _).mono ?_;rintro e w1⟨rfl,rfl⟩)
 exact bodyPost_ret (v:=.tuple #[J8,.bool false]) (by simp[results,Tryz.results61,go_sem,J8]) rfl ⟨rfl,((Below.refl _ _).alloc (Nat.le_refl _) _).alloc (by simp) _⟩
def J9:List Value:=[fv 109,fv 110,fv 113,fv 115,.string dA,
   fv 117,fv 118,fv 120,fv 121,.string dQ,
   fv 122,fv 123,fv 125,fv 126,.string fE]
theorem o8 (w:World):(Instr.index 108 (.agg J9.toArray) (.int .i64 0)).run Tryz.prog w=.ok qX w/\(Instr.index 108 (.agg J9.toArray) (.int .i64 1)).run Tryz.prog w=.ok qY w/\(Instr.index 108 (.agg J9.toArray) (.int .i64 2)).run Tryz.prog w=.ok qZ w:=by
 refine⟨?_,?_,?_⟩<;>kernel_rfl
theorem nR (w:World):Calls Tryz.prog 62 #[] w λe w'=>e=.returned (.agg J9.toArray)/\Below w.heap.size w w':=adu w
theorem J_ (nm to:ByteArray) (n:Nat) (a:Option Addr) (c:Nat) (w:World) :
  Calls Tryz.prog 61 #[.agg #[.int .i64 1,.string nm,.string to,.slice a n c]] w λe w'=>e=.returned (.tuple #[qX,.bool (decide (to=ByteArray.empty))])/\Below w.heap.size w w':=by
 have g1:inB 1 1 3=true:=by simp[inB]
 go_enter Tryz.func61,Tryz.ntmps61;go_wp2_with (go_at_call 71;refine(pV _ _ _ _).mono ?_;rintro e w1⟨rfl,rfl⟩)
 have hwr:IntKind.i64.wrap 0=0:=by decide
 have hix:=λw=>(o8 w).1;refine bC (C:=ah (aQ) _) 2 [0,1,2,3,4,5,6] (by kernel_rfl) (by kernel_rfl) (ah.grows _ _) (ah.refl _ _) ?_;refine aX rfl rfl rfl (ah.grows _ _) (ah.refl _ _) 62 (λK hK=>?_);apply Exists.intro;refine⟨λw' hw'=>?_,λwa dU dS=>?_⟩;(focus go_simp;rfl);refine(nR _).mono ?_;rintro e w3⟨rfl,hb3⟩;refine⟨_,rfl,hb3,λhx=>?_⟩;go_simp;apply hK;clear hK K;iterate 4 (apply ay rfl rfl rfl;(focus intro u hc' hf';go_simp<;>rfl);intro K hK;go_simp;apply hK;clear hK K)
 refine fG rfl rfl rfl (ah.grows _ _) (hx) (λb=>.pointer (some ⟨b,0,none⟩)) (λK hK=>?_);apply Exists.intro;refine⟨λw' hw'=>?_,λbb w5 hw5 hb5 aI hNb hnb=>?_⟩
 ·obtain⟨hc',hf'⟩:=hw'.cell;try simp only[World.size_drew]at hc' hf'
  go_simp;rfl
 go_simp;refine hK _ _ _ ?_;clear hK K;refine eH rfl rfl rfl (ah.grows _ _) hw5 (λK hK=>?_);intro w6 hw6 hb6;obtain⟨m0,m1,m2⟩:=made_cell ((hb6.block bb (made_cell aI).2.2).trans aI);refine⟨((((w6.setCell ⟨bb,0,none⟩ (fv 109)).setCell ⟨bb,1,none⟩ (fv 110)).setCell ⟨bb,2,none⟩ (fv 113)).setCell ⟨bb,3,none⟩ (fv 115)).setCell ⟨bb,4,none⟩ (.string dA),?_,⟨aB (aB (aB (aB (aB hw6 (.inl hNb) _) (.inl hNb) _) (.inl hNb) _) (.inl hNb) _) (.inl hNb) _,by simp,λj _ hj _=>by rw[Below.heap_setCell _ _ _ _ (λh=>hj (by simp[h])),Below.heap_setCell _ _ _ _ (λh=>hj (by simp[h])),Below.heap_setCell _ _ _ _ (λh=>hj (by simp[h])),Below.heap_setCell _ _ _ _ (λh=>hj (by simp[h])),Below.heap_setCell _ _ _ _ (λh=>hj (by simp[h]))]⟩,?_⟩
 ·simp only[qX,fv];go_simp
 go_simp;refine hK _ _ _ ?_;clear hK K;refine aK ?_;have up:∀{w':World},ah aQ (((w.alloc (.cells #[.int .i64 1,.string nm,.string to,.slice a n c] 45)).alloc (.cells #[.nilFunc,.nilFunc,.nilFunc,.nilFunc,.string ⟨#[]⟩] 105)).drew) w'->Below (w.heap.size+1+1) ((w.alloc (.cells #[.int .i64 1,.string nm,.string to,.slice a n c] 45)).alloc (.cells #[.nilFunc,.nilFunc,.nilFunc,.nilFunc,.string ⟨#[]⟩] 105)) w':=λh=>(Below.refl _ _).drew.trans (h.toBelow.mono (by simp));have hbb:w.heap.size+1+1<=bb:=by simpa using hNb
 have uK:=up hw6;generalize hW:((((w6.setCell ⟨bb,0,none⟩ (fv 109)).setCell ⟨bb,1,none⟩ (fv 110)).setCell ⟨bb,2,none⟩ (fv 113)).setCell ⟨bb,3,none⟩ (fv 115)).setCell ⟨bb,4,none⟩ (.string dA)=W;have hbW:Below (w.heap.size+1+1) ((w.alloc (.cells #[.int .i64 1,.string nm,.string to,.slice a n c] 45)).alloc (.cells #[.nilFunc,.nilFunc,.nilFunc,.nilFunc,.string ⟨#[]⟩] 105)) W:=by
  rw[<-hW];exact((((uK.setCell hbb _).setCell hbb _).setCell hbb _).setCell hbb _).setCell hbb _
 have n0:W.cell? ⟨bb,0,none⟩=some (fv 109):=by rw[<-hW];clear hW;go_simp
 have n1:W.cell? ⟨bb,1,none⟩=some (fv 110):=by rw[<-hW];clear hW;go_simp
 have n2:W.cell? ⟨bb,2,none⟩=some (fv 113):=by rw[<-hW];clear hW;go_simp
 have n3:W.cell? ⟨bb,3,none⟩=some (fv 115):=by rw[<-hW];clear hW;go_simp
 have n4:W.cell? ⟨bb,4,none⟩=some (.string dA):=by rw[<-hW];clear hW;go_simp
 have hbbW:bb<W.heap.size:=by rw[<-hW];simpa using m2
 have e0:W.cell? ⟨w.heap.size,0,none⟩=some (.int .i64 1):=by rw[hbW.cell (p:=⟨w.heap.size,0,none⟩) (by simp;omega)];go_simp
 have e1:W.cell? ⟨w.heap.size,1,none⟩=some (.string nm):=by rw[hbW.cell (p:=⟨w.heap.size,1,none⟩) (by simp;omega)];go_simp
 have e2:W.cell? ⟨w.heap.size,2,none⟩=some (.string to):=by rw[hbW.cell (p:=⟨w.heap.size,2,none⟩) (by simp;omega)];go_simp
 have e3:W.cell? ⟨w.heap.size,3,none⟩=some (.slice a n c):=by rw[hbW.cell (p:=⟨w.heap.size,3,none⟩) (by simp;omega)];go_simp
 have r0:W.cell? ⟨w.heap.size+1,0,none⟩=some .nilFunc:=by rw[hbW.cell (p:=⟨w.heap.size+1,0,none⟩) (by simp)];go_simp
 have r1:W.cell? ⟨w.heap.size+1,1,none⟩=some .nilFunc:=by rw[hbW.cell (p:=⟨w.heap.size+1,1,none⟩) (by simp)];go_simp
 have r2:W.cell? ⟨w.heap.size+1,2,none⟩=some .nilFunc:=by rw[hbW.cell (p:=⟨w.heap.size+1,2,none⟩) (by simp)];go_simp
 have r3:W.cell? ⟨w.heap.size+1,3,none⟩=some .nilFunc:=by rw[hbW.cell (p:=⟨w.heap.size+1,3,none⟩) (by simp)];go_simp
 have r4:W.cell? ⟨w.heap.size+1,4,none⟩=some (.string ⟨#[]⟩):=by rw[hbW.cell (p:=⟨w.heap.size+1,4,none⟩) (by simp)];go_simp
 have rf:∀j,W.frozen? ⟨w.heap.size+1,j,none⟩=false:=λj=>by rw[hbW.frozen (p:=⟨w.heap.size+1,j,none⟩) (by simp)];go_simp
 have hsW:w.heap.size+1<W.heap.size:=by have:=hbW.size;simp at this;omega
 have Py:w.heap.size<W.heap.size:=by omega
 have vY:Below w.heap.size w W:=(((Below.refl _ _).alloc (Nat.le_refl _) _).alloc (by simp) _).trans (hbW.mono (by omega));clear hW uK hw6 hb6 hw5 hb5 aI hNb hnb hx hb3 dU dS m0 m1 m2 hbW up hix hwr;go_wp2_with fail
 have P9:¬bb=w.heap.size+1:=by omega
 have P_:¬w.heap.size=w.heap.size+1:=by omega
 refine bC (C:=ah ((λj=>j=w.heap.size+1)) _) 2 [0,1,2,3,4,5,6] (by kernel_rfl) (by kernel_rfl) (ah.grows _ _) (ah.refl _ _) ?_;iterate 4 (apply fF rfl rfl rfl;(focus intro u hc' hf';(try simp only[World.size_drew]at hc' hf');go_simp<;>rfl);intro K hK;go_simp;apply hK;clear hK K)
 refine aX rfl rfl rfl (ah.grows _ _) (ah.refl _ _) 109 (λK hK=>?_);apply Exists.intro;refine⟨λw' hw'=>?_,λwb hwb fB=>?_⟩;(focus go_simp;rfl);refine(adv _ nm to _ n a c _ rfl).mono ?_;rintro e w7⟨rfl,hb7⟩;refine⟨_,rfl,hb7,λhx=>?_⟩;go_simp;apply hK;clear hK K;refine eH rfl rfl rfl (ah.grows _ _) hx (λK hK=>?_);intro w8 hw8 hb8;have iq:Below W.heap.size W w8:=(Below.refl W.heap.size W).drew.trans ((fB.mono (by simp)).trans ((hb7.trans (hb8.mono hb7.size)).mono (by have:=fB.size;simpa using this)));have k0:=ak iq r0;have k1:=ak iq r1;have k2:=ak iq r2;have k3:=ak iq r3;have k4:=ak iq r4;have kf:∀j,w8.frozen? ⟨w.heap.size+1,j,none⟩=false:=λj=>(iq.frozen (p:=⟨w.heap.size+1,j,none⟩) hsW).trans (rf j);refine⟨((((w8.setCell ⟨w.heap.size+1,0,none⟩ (fv 109)).setCell ⟨w.heap.size+1,1,none⟩ (fv 110)).setCell ⟨w.heap.size+1,2,none⟩ (fv 113)).setCell ⟨w.heap.size+1,3,none⟩ (fv 115)).setCell ⟨w.heap.size+1,4,none⟩ (.string dA),?_,⟨aB (aB (aB (aB (aB hw8 (.inr rfl) _) (.inr rfl) _) (.inr rfl) _) (.inr rfl) _) (.inr rfl) _,by simp,λj hj _ _=>by rw[Below.heap_setCell _ _ _ _ (λh=>by simp at h hj;omega),Below.heap_setCell _ _ _ _ (λh=>by simp at h hj;omega),Below.heap_setCell _ _ _ _ (λh=>by simp at h hj;omega),Below.heap_setCell _ _ _ _ (λh=>by simp at h hj;omega),Below.heap_setCell _ _ _ _ (λh=>by simp at h hj;omega)]⟩,?_⟩
 ·simp only[fv]at *;go_simp
 go_simp;refine hK _ _ _ ?_;clear hK K;refine qK rfl rfl rfl (λK hK=>?_);apply Exists.intro;refine⟨λw' hw'=>?_,?_⟩
 ·go_simp;rfl
 go_simp;refine hK _ _ _ ?_;clear hK K;refine aK ?_;go_wp2;exact bodyPost_ret (v:=.tuple #[qX,.bool (decide (to=ByteArray.empty))]) (by simp[results,Tryz.results61,go_sem,qX,fv,k0,k1,k2,k3,k4]) rfl ⟨rfl,(((((vY.trans (iq.mono vY.size)).setCell (by simp) _).setCell (by simp) _).setCell (by simp) _).setCell (by simp) _).setCell (by simp) _⟩
theorem Ko (nm to:ByteArray) (n:Nat) (a:Option Addr) (c:Nat) (w:World) :
  Calls Tryz.prog 61 #[.agg #[.int .i64 2,.string nm,.string to,.slice a n c]] w λe w'=>e=.returned (.tuple #[qY,.bool (decide (to=ByteArray.empty/\n=0))])/\Below w.heap.size w w':=by
 have g1:inB 2 1 3=true:=by simp[inB]
 go_enter Tryz.func61,Tryz.ntmps61;go_wp2_with (go_at_call 71;refine(pV _ _ _ _).mono ?_;rintro e w1⟨rfl,rfl⟩)
 have hwr:IntKind.i64.wrap 1=1:=by decide
 have hix:=λw=>(o8 w).2.1;refine bC (C:=ah (aQ) _) 2 [0,1,2,3,4,5,6] (by kernel_rfl) (by kernel_rfl) (ah.grows _ _) (ah.refl _ _) ?_;refine aX rfl rfl rfl (ah.grows _ _) (ah.refl _ _) 62 (λK hK=>?_);apply Exists.intro;refine⟨λw' hw'=>?_,λwa dU dS=>?_⟩;(focus go_simp;rfl);refine(nR _).mono ?_;rintro e w3⟨rfl,hb3⟩;refine⟨_,rfl,hb3,λhx=>?_⟩;go_simp;apply hK;clear hK K;iterate 4 (apply ay rfl rfl rfl;(focus intro u hc' hf';go_simp<;>rfl);intro K hK;go_simp;apply hK;clear hK K)
 refine fG rfl rfl rfl (ah.grows _ _) (hx) (λb=>.pointer (some ⟨b,0,none⟩)) (λK hK=>?_);apply Exists.intro;refine⟨λw' hw'=>?_,λbb w5 hw5 hb5 aI hNb hnb=>?_⟩
 ·obtain⟨hc',hf'⟩:=hw'.cell;try simp only[World.size_drew]at hc' hf'
  go_simp;rfl
 go_simp;refine hK _ _ _ ?_;clear hK K;refine eH rfl rfl rfl (ah.grows _ _) hw5 (λK hK=>?_);intro w6 hw6 hb6;obtain⟨m0,m1,m2⟩:=made_cell ((hb6.block bb (made_cell aI).2.2).trans aI);refine⟨((((w6.setCell ⟨bb,0,none⟩ (fv 117)).setCell ⟨bb,1,none⟩ (fv 118)).setCell ⟨bb,2,none⟩ (fv 120)).setCell ⟨bb,3,none⟩ (fv 121)).setCell ⟨bb,4,none⟩ (.string dQ),?_,⟨aB (aB (aB (aB (aB hw6 (.inl hNb) _) (.inl hNb) _) (.inl hNb) _) (.inl hNb) _) (.inl hNb) _,by simp,λj _ hj _=>by rw[Below.heap_setCell _ _ _ _ (λh=>hj (by simp[h])),Below.heap_setCell _ _ _ _ (λh=>hj (by simp[h])),Below.heap_setCell _ _ _ _ (λh=>hj (by simp[h])),Below.heap_setCell _ _ _ _ (λh=>hj (by simp[h])),Below.heap_setCell _ _ _ _ (λh=>hj (by simp[h]))]⟩,?_⟩
 ·simp only[qY,fv];go_simp
 go_simp;refine hK _ _ _ ?_;clear hK K;refine aK ?_;have up:∀{w':World},ah aQ (((w.alloc (.cells #[.int .i64 2,.string nm,.string to,.slice a n c] 45)).alloc (.cells #[.nilFunc,.nilFunc,.nilFunc,.nilFunc,.string ⟨#[]⟩] 105)).drew) w'->Below (w.heap.size+1+1) ((w.alloc (.cells #[.int .i64 2,.string nm,.string to,.slice a n c] 45)).alloc (.cells #[.nilFunc,.nilFunc,.nilFunc,.nilFunc,.string ⟨#[]⟩] 105)) w':=λh=>(Below.refl _ _).drew.trans (h.toBelow.mono (by simp));have hbb:w.heap.size+1+1<=bb:=by simpa using hNb
 have uK:=up hw6;generalize hW:((((w6.setCell ⟨bb,0,none⟩ (fv 117)).setCell ⟨bb,1,none⟩ (fv 118)).setCell ⟨bb,2,none⟩ (fv 120)).setCell ⟨bb,3,none⟩ (fv 121)).setCell ⟨bb,4,none⟩ (.string dQ)=W;have hbW:Below (w.heap.size+1+1) ((w.alloc (.cells #[.int .i64 2,.string nm,.string to,.slice a n c] 45)).alloc (.cells #[.nilFunc,.nilFunc,.nilFunc,.nilFunc,.string ⟨#[]⟩] 105)) W:=by
  rw[<-hW];exact((((uK.setCell hbb _).setCell hbb _).setCell hbb _).setCell hbb _).setCell hbb _
 have n0:W.cell? ⟨bb,0,none⟩=some (fv 117):=by rw[<-hW];clear hW;go_simp
 have n1:W.cell? ⟨bb,1,none⟩=some (fv 118):=by rw[<-hW];clear hW;go_simp
 have n2:W.cell? ⟨bb,2,none⟩=some (fv 120):=by rw[<-hW];clear hW;go_simp
 have n3:W.cell? ⟨bb,3,none⟩=some (fv 121):=by rw[<-hW];clear hW;go_simp
 have n4:W.cell? ⟨bb,4,none⟩=some (.string dQ):=by rw[<-hW];clear hW;go_simp
 have hbbW:bb<W.heap.size:=by rw[<-hW];simpa using m2
 have e0:W.cell? ⟨w.heap.size,0,none⟩=some (.int .i64 2):=by rw[hbW.cell (p:=⟨w.heap.size,0,none⟩) (by simp;omega)];go_simp
 have e1:W.cell? ⟨w.heap.size,1,none⟩=some (.string nm):=by rw[hbW.cell (p:=⟨w.heap.size,1,none⟩) (by simp;omega)];go_simp
 have e2:W.cell? ⟨w.heap.size,2,none⟩=some (.string to):=by rw[hbW.cell (p:=⟨w.heap.size,2,none⟩) (by simp;omega)];go_simp
 have e3:W.cell? ⟨w.heap.size,3,none⟩=some (.slice a n c):=by rw[hbW.cell (p:=⟨w.heap.size,3,none⟩) (by simp;omega)];go_simp
 have r0:W.cell? ⟨w.heap.size+1,0,none⟩=some .nilFunc:=by rw[hbW.cell (p:=⟨w.heap.size+1,0,none⟩) (by simp)];go_simp
 have r1:W.cell? ⟨w.heap.size+1,1,none⟩=some .nilFunc:=by rw[hbW.cell (p:=⟨w.heap.size+1,1,none⟩) (by simp)];go_simp
 have r2:W.cell? ⟨w.heap.size+1,2,none⟩=some .nilFunc:=by rw[hbW.cell (p:=⟨w.heap.size+1,2,none⟩) (by simp)];go_simp
 have r3:W.cell? ⟨w.heap.size+1,3,none⟩=some .nilFunc:=by rw[hbW.cell (p:=⟨w.heap.size+1,3,none⟩) (by simp)];go_simp
 have r4:W.cell? ⟨w.heap.size+1,4,none⟩=some (.string ⟨#[]⟩):=by rw[hbW.cell (p:=⟨w.heap.size+1,4,none⟩) (by simp)];go_simp
 have rf:∀j,W.frozen? ⟨w.heap.size+1,j,none⟩=false:=λj=>by rw[hbW.frozen (p:=⟨w.heap.size+1,j,none⟩) (by simp)];go_simp
 have hsW:w.heap.size+1<W.heap.size:=by have:=hbW.size;simp at this;omega
 have Py:w.heap.size<W.heap.size:=by omega
 have vY:Below w.heap.size w W:=(((Below.refl _ _).alloc (Nat.le_refl _) _).alloc (by simp) _).trans (hbW.mono (by omega));clear hW uK hw6 hb6 hw5 hb5 aI hNb hnb hx hb3 dU dS m0 m1 m2 hbW up hix hwr;go_wp2_with fail
 have P9:¬bb=w.heap.size+1:=by omega
 have P_:¬w.heap.size=w.heap.size+1:=by omega
 refine bC (C:=ah ((λj=>j=w.heap.size+1)) _) 2 [0,1,2,3,4,5,6] (by kernel_rfl) (by kernel_rfl) (ah.grows _ _) (ah.refl _ _) ?_;iterate 4 (apply fF rfl rfl rfl;(focus intro u hc' hf';(try simp only[World.size_drew]at hc' hf');go_simp<;>rfl);intro K hK;go_simp;apply hK;clear hK K)
 refine aX rfl rfl rfl (ah.grows _ _) (ah.refl _ _) 117 (λK hK=>?_);apply Exists.intro;refine⟨λw' hw'=>?_,λwb hwb fB=>?_⟩;(focus go_simp;rfl);refine(adw _ nm to _ n a c _ rfl).mono ?_;rintro e w7⟨rfl,hb7⟩;refine⟨_,rfl,hb7,λhx=>?_⟩;go_simp;apply hK;clear hK K;refine eH rfl rfl rfl (ah.grows _ _) hx (λK hK=>?_);intro w8 hw8 hb8;have iq:Below W.heap.size W w8:=(Below.refl W.heap.size W).drew.trans ((fB.mono (by simp)).trans ((hb7.trans (hb8.mono hb7.size)).mono (by have:=fB.size;simpa using this)));have k0:=ak iq r0;have k1:=ak iq r1;have k2:=ak iq r2;have k3:=ak iq r3;have k4:=ak iq r4;have kf:∀j,w8.frozen? ⟨w.heap.size+1,j,none⟩=false:=λj=>(iq.frozen (p:=⟨w.heap.size+1,j,none⟩) hsW).trans (rf j);refine⟨((((w8.setCell ⟨w.heap.size+1,0,none⟩ (fv 117)).setCell ⟨w.heap.size+1,1,none⟩ (fv 118)).setCell ⟨w.heap.size+1,2,none⟩ (fv 120)).setCell ⟨w.heap.size+1,3,none⟩ (fv 121)).setCell ⟨w.heap.size+1,4,none⟩ (.string dQ),?_,⟨aB (aB (aB (aB (aB hw8 (.inr rfl) _) (.inr rfl) _) (.inr rfl) _) (.inr rfl) _) (.inr rfl) _,by simp,λj hj _ _=>by rw[Below.heap_setCell _ _ _ _ (λh=>by simp at h hj;omega),Below.heap_setCell _ _ _ _ (λh=>by simp at h hj;omega),Below.heap_setCell _ _ _ _ (λh=>by simp at h hj;omega),Below.heap_setCell _ _ _ _ (λh=>by simp at h hj;omega),Below.heap_setCell _ _ _ _ (λh=>by simp at h hj;omega)]⟩,?_⟩
 ·simp only[fv]at *;go_simp
 go_simp;refine hK _ _ _ ?_;clear hK K;refine qK rfl rfl rfl (λK hK=>?_);apply Exists.intro;refine⟨λw' hw'=>?_,?_⟩
 ·go_simp;rfl
 go_simp;refine hK _ _ _ ?_;clear hK K;refine aK ?_;go_wp2;exact bodyPost_ret (v:=.tuple #[qY,.bool (decide (to=ByteArray.empty/\n=0))]) (by simp[results,Tryz.results61,go_sem,qY,fv,k0,k1,k2,k3,k4]) rfl ⟨rfl,(((((vY.trans (iq.mono vY.size)).setCell (by simp) _).setCell (by simp) _).setCell (by simp) _).setCell (by simp) _).setCell (by simp) _⟩
theorem Kq (nm to:ByteArray) (n:Nat) (a:Option Addr) (c:Nat) (w:World) :
  Calls Tryz.prog 61 #[.agg #[.int .i64 3,.string nm,.string to,.slice a n c]] w λe w'=>e=.returned (.tuple #[qZ,.bool (decide (n=0))])/\Below w.heap.size w w':=by
 have g1:inB 3 1 3=true:=by simp[inB]
 go_enter Tryz.func61,Tryz.ntmps61;go_wp2_with (go_at_call 71;refine(pV _ _ _ _).mono ?_;rintro e w1⟨rfl,rfl⟩)
 have hwr:IntKind.i64.wrap 2=2:=by decide
 have hix:=λw=>(o8 w).2.2;refine bC (C:=ah (aQ) _) 2 [0,1,2,3,4,5,6] (by kernel_rfl) (by kernel_rfl) (ah.grows _ _) (ah.refl _ _) ?_;refine aX rfl rfl rfl (ah.grows _ _) (ah.refl _ _) 62 (λK hK=>?_);apply Exists.intro;refine⟨λw' hw'=>?_,λwa dU dS=>?_⟩;(focus go_simp;rfl);refine(nR _).mono ?_;rintro e w3⟨rfl,hb3⟩;refine⟨_,rfl,hb3,λhx=>?_⟩;go_simp;apply hK;clear hK K;iterate 4 (apply ay rfl rfl rfl;(focus intro u hc' hf';go_simp<;>rfl);intro K hK;go_simp;apply hK;clear hK K)
 refine fG rfl rfl rfl (ah.grows _ _) (hx) (λb=>.pointer (some ⟨b,0,none⟩)) (λK hK=>?_);apply Exists.intro;refine⟨λw' hw'=>?_,λbb w5 hw5 hb5 aI hNb hnb=>?_⟩
 ·obtain⟨hc',hf'⟩:=hw'.cell;try simp only[World.size_drew]at hc' hf'
  go_simp;rfl
 go_simp;refine hK _ _ _ ?_;clear hK K;refine eH rfl rfl rfl (ah.grows _ _) hw5 (λK hK=>?_);intro w6 hw6 hb6;obtain⟨m0,m1,m2⟩:=made_cell ((hb6.block bb (made_cell aI).2.2).trans aI);refine⟨((((w6.setCell ⟨bb,0,none⟩ (fv 122)).setCell ⟨bb,1,none⟩ (fv 123)).setCell ⟨bb,2,none⟩ (fv 125)).setCell ⟨bb,3,none⟩ (fv 126)).setCell ⟨bb,4,none⟩ (.string fE),?_,⟨aB (aB (aB (aB (aB hw6 (.inl hNb) _) (.inl hNb) _) (.inl hNb) _) (.inl hNb) _) (.inl hNb) _,by simp,λj _ hj _=>by rw[Below.heap_setCell _ _ _ _ (λh=>hj (by simp[h])),Below.heap_setCell _ _ _ _ (λh=>hj (by simp[h])),Below.heap_setCell _ _ _ _ (λh=>hj (by simp[h])),Below.heap_setCell _ _ _ _ (λh=>hj (by simp[h])),Below.heap_setCell _ _ _ _ (λh=>hj (by simp[h]))]⟩,?_⟩
 ·simp only[qZ,fv];go_simp
 go_simp;refine hK _ _ _ ?_;clear hK K;refine aK ?_;have up:∀{w':World},ah aQ (((w.alloc (.cells #[.int .i64 3,.string nm,.string to,.slice a n c] 45)).alloc (.cells #[.nilFunc,.nilFunc,.nilFunc,.nilFunc,.string ⟨#[]⟩] 105)).drew) w'->Below (w.heap.size+1+1) ((w.alloc (.cells #[.int .i64 3,.string nm,.string to,.slice a n c] 45)).alloc (.cells #[.nilFunc,.nilFunc,.nilFunc,.nilFunc,.string ⟨#[]⟩] 105)) w':=λh=>(Below.refl _ _).drew.trans (h.toBelow.mono (by simp));have hbb:w.heap.size+1+1<=bb:=by simpa using hNb
 have uK:=up hw6;generalize hW:((((w6.setCell ⟨bb,0,none⟩ (fv 122)).setCell ⟨bb,1,none⟩ (fv 123)).setCell ⟨bb,2,none⟩ (fv 125)).setCell ⟨bb,3,none⟩ (fv 126)).setCell ⟨bb,4,none⟩ (.string fE)=W;have hbW:Below (w.heap.size+1+1) ((w.alloc (.cells #[.int .i64 3,.string nm,.string to,.slice a n c] 45)).alloc (.cells #[.nilFunc,.nilFunc,.nilFunc,.nilFunc,.string ⟨#[]⟩] 105)) W:=by
  rw[<-hW];exact((((uK.setCell hbb _).setCell hbb _).setCell hbb _).setCell hbb _).setCell hbb _
 have n0:W.cell? ⟨bb,0,none⟩=some (fv 122):=by rw[<-hW];clear hW;go_simp
 have n1:W.cell? ⟨bb,1,none⟩=some (fv 123):=by rw[<-hW];clear hW;go_simp
 have n2:W.cell? ⟨bb,2,none⟩=some (fv 125):=by rw[<-hW];clear hW;go_simp
 have n3:W.cell? ⟨bb,3,none⟩=some (fv 126):=by rw[<-hW];clear hW;go_simp
 have n4:W.cell? ⟨bb,4,none⟩=some (.string fE):=by rw[<-hW];clear hW;go_simp
 have hbbW:bb<W.heap.size:=by rw[<-hW];simpa using m2
 have e0:W.cell? ⟨w.heap.size,0,none⟩=some (.int .i64 3):=by rw[hbW.cell (p:=⟨w.heap.size,0,none⟩) (by simp;omega)];go_simp
 have e1:W.cell? ⟨w.heap.size,1,none⟩=some (.string nm):=by rw[hbW.cell (p:=⟨w.heap.size,1,none⟩) (by simp;omega)];go_simp
 have e2:W.cell? ⟨w.heap.size,2,none⟩=some (.string to):=by rw[hbW.cell (p:=⟨w.heap.size,2,none⟩) (by simp;omega)];go_simp
 have e3:W.cell? ⟨w.heap.size,3,none⟩=some (.slice a n c):=by rw[hbW.cell (p:=⟨w.heap.size,3,none⟩) (by simp;omega)];go_simp
 have r0:W.cell? ⟨w.heap.size+1,0,none⟩=some .nilFunc:=by rw[hbW.cell (p:=⟨w.heap.size+1,0,none⟩) (by simp)];go_simp
 have r1:W.cell? ⟨w.heap.size+1,1,none⟩=some .nilFunc:=by rw[hbW.cell (p:=⟨w.heap.size+1,1,none⟩) (by simp)];go_simp
 have r2:W.cell? ⟨w.heap.size+1,2,none⟩=some .nilFunc:=by rw[hbW.cell (p:=⟨w.heap.size+1,2,none⟩) (by simp)];go_simp
 have r3:W.cell? ⟨w.heap.size+1,3,none⟩=some .nilFunc:=by rw[hbW.cell (p:=⟨w.heap.size+1,3,none⟩) (by simp)];go_simp
 have r4:W.cell? ⟨w.heap.size+1,4,none⟩=some (.string ⟨#[]⟩):=by rw[hbW.cell (p:=⟨w.heap.size+1,4,none⟩) (by simp)];go_simp
 have rf:∀j,W.frozen? ⟨w.heap.size+1,j,none⟩=false:=λj=>by rw[hbW.frozen (p:=⟨w.heap.size+1,j,none⟩) (by simp)];go_simp
 have hsW:w.heap.size+1<W.heap.size:=by have:=hbW.size;simp at this;omega
 have Py:w.heap.size<W.heap.size:=by omega
 have vY:Below w.heap.size w W:=(((Below.refl _ _).alloc (Nat.le_refl _) _).alloc (by simp) _).trans (hbW.mono (by omega));clear hW uK hw6 hb6 hw5 hb5 aI hNb hnb hx hb3 dU dS m0 m1 m2 hbW up hix hwr;go_wp2_with fail
 have P9:¬bb=w.heap.size+1:=by omega
 have P_:¬w.heap.size=w.heap.size+1:=by omega
 refine bC (C:=ah ((λj=>j=w.heap.size+1)) _) 2 [0,1,2,3,4,5,6] (by kernel_rfl) (by kernel_rfl) (ah.grows _ _) (ah.refl _ _) ?_;iterate 4 (apply fF rfl rfl rfl;(focus intro u hc' hf';(try simp only[World.size_drew]at hc' hf');go_simp<;>rfl);intro K hK;go_simp;apply hK;clear hK K)
 refine aX rfl rfl rfl (ah.grows _ _) (ah.refl _ _) 122 (λK hK=>?_);apply Exists.intro;refine⟨λw' hw'=>?_,λwb hwb fB=>?_⟩;(focus go_simp;rfl);refine(adx _ nm to _ n a c _ rfl).mono ?_;rintro e w7⟨rfl,hb7⟩;refine⟨_,rfl,hb7,λhx=>?_⟩;go_simp;apply hK;clear hK K;refine eH rfl rfl rfl (ah.grows _ _) hx (λK hK=>?_);intro w8 hw8 hb8;have iq:Below W.heap.size W w8:=(Below.refl W.heap.size W).drew.trans ((fB.mono (by simp)).trans ((hb7.trans (hb8.mono hb7.size)).mono (by have:=fB.size;simpa using this)));have k0:=ak iq r0;have k1:=ak iq r1;have k2:=ak iq r2;have k3:=ak iq r3;have k4:=ak iq r4;have kf:∀j,w8.frozen? ⟨w.heap.size+1,j,none⟩=false:=λj=>(iq.frozen (p:=⟨w.heap.size+1,j,none⟩) hsW).trans (rf j);refine⟨((((w8.setCell ⟨w.heap.size+1,0,none⟩ (fv 122)).setCell ⟨w.heap.size+1,1,none⟩ (fv 123)).setCell ⟨w.heap.size+1,2,none⟩ (fv 125)).setCell ⟨w.heap.size+1,3,none⟩ (fv 126)).setCell ⟨w.heap.size+1,4,none⟩ (.string fE),?_,⟨aB (aB (aB (aB (aB hw8 (.inr rfl) _) (.inr rfl) _) (.inr rfl) _) (.inr rfl) _) (.inr rfl) _,by simp,λj hj _ _=>by rw[Below.heap_setCell _ _ _ _ (λh=>by simp at h hj;omega),Below.heap_setCell _ _ _ _ (λh=>by simp at h hj;omega),Below.heap_setCell _ _ _ _ (λh=>by simp at h hj;omega),Below.heap_setCell _ _ _ _ (λh=>by simp at h hj;omega),Below.heap_setCell _ _ _ _ (λh=>by simp at h hj;omega)]⟩,?_⟩
 ·simp only[fv]at *;go_simp
 go_simp;refine hK _ _ _ ?_;clear hK K;refine qK rfl rfl rfl (λK hK=>?_);apply Exists.intro;refine⟨λw' hw'=>?_,?_⟩
 ·go_simp;rfl
 go_simp;refine hK _ _ _ ?_;clear hK K;refine aK ?_;go_wp2;exact bodyPost_ret (v:=.tuple #[qZ,.bool (decide (n=0))]) (by simp[results,Tryz.results61,go_sem,qZ,fv,k0,k1,k2,k3,k4]) rfl ⟨rfl,(((((vY.trans (iq.mono vY.size)).setCell (by simp) _).setCell (by simp) _).setCell (by simp) _).setCell (by simp) _).setCell (by simp) _⟩
theorem lV.low {o:Option (List Df)} {w w1:World} {e:Ending} {w':World} (h:lV o w1 e w') (hb:Below w.heap.size w w1):lV o w e w':=by
 obtain⟨v',h1,h2,h3⟩:=h;exact⟨v',h1,h2.mono hb.size,hb.trans (h3.mono hb.size)⟩
theorem ady (v vb:Value) (L:List Df) (e:En) (w:World) (hv:aG w v L) (hn:L.length<=1048576) (hs:∀x∈L,dN x) (hg:good L=true) (hvb:aZ w vb e.body) (he:dW e) :
  Calls Tryz.prog 110 #[v,.agg #[.int .i64 e.kind,.string e.name,.string e.to,vb]] w (lV (jG L (kE L e)) w):=by
 obtain⟨a,cap,rfl⟩:∃a cap,v=.slice a L.length cap:=by obtain⟨a,cap,rfl,_⟩:=hv;exact⟨a,cap,rfl⟩
 obtain⟨ab,cb,rfl⟩:=hvb.slice;have HG:=Lib.hid hg;clear hg;go_enter Tryz.func110,Tryz.ntmps110;go_wp2_with (first|(go_at_call 112;refine(Xp _ _ L e _ (hv.keep (aj _ _)) hn hs HG.out (hvb.keep (aj _ _)) he).mono ?_;rintro r w2⟨x,rfl,hx,hb2⟩;have hb2':Below w.heap.size w w2:=(aj _ _).trans (hb2.mono (by simp)))|(go_at_call 111;refine(adg _ _ L ⟨e.name,x.1,x.2,e.body⟩ _ (hv.keep hb2') hn hs (hvb.keep hb2') ⟨he.1,he.2.2⟩).mono ?_;intro r w3 hp3;rw[<-acU x hx]at hp3;obtain⟨v3,rfl,ho3,hb3⟩:=hp3))
 go_ret2
 exact⟨v3,rfl,ho3.mono hb2'.size,hb2'.trans (hb3.mono hb2'.size)⟩
theorem adz (v vb:Value) (L:List Df) (e:En) (w:World) (hv:aG w v L) (hn:L.length<=1048576) (hs:∀x∈L,dN x) (hvb:aZ w vb e.body) :
  Calls Tryz.prog 118 #[v,.agg #[.int .i64 e.kind,.string e.name,.string e.to,vb]] w (lV (iO L e.name) w):=by
 obtain⟨a,cap,rfl⟩:∃a cap,v=.slice a L.length cap:=by obtain⟨a,cap,rfl,_⟩:=hv;exact⟨a,cap,rfl⟩
 obtain⟨ab,cb,rfl⟩:=hvb.slice;go_enter Tryz.func118,Tryz.ntmps118;go_wp2_with (go_at_call 119;refine(adl _ L _ _ (hv.keep (aj _ _)) hn hs).mono ?_;rintro r w3⟨v3,rfl,ho3,hb3⟩)
 go_ret2
 exact⟨v3,rfl,ho3.mono (by simp),(aj _ _).trans (hb3.mono (by simp))⟩
theorem adA (v vb:Value) (L:List Df) (e:En) (w:World) (hv:aG w v L) (hn:L.length<=1048576) (hs:∀x∈L,dN x) (hvb:aZ w vb e.body) (he:dW e) :
  Calls Tryz.prog 123 #[v,.agg #[.int .i64 e.kind,.string e.name,.string e.to,vb]] w (lV (iF L e.name e.to) w):=by
 obtain⟨a,cap,rfl⟩:∃a cap,v=.slice a L.length cap:=by obtain⟨a,cap,rfl,_⟩:=hv;exact⟨a,cap,rfl⟩
 obtain⟨ab,cb,rfl⟩:=hvb.slice;go_enter Tryz.func123,Tryz.ntmps123;go_wp2_with (go_at_call 124;refine(adn _ L _ _ _ (hv.keep (aj _ _)) hn hs he.2.1).mono ?_;rintro r w3⟨v3,rfl,ho3,hb3⟩)
 go_ret2
 exact⟨v3,rfl,ho3.mono (by simp),(aj _ _).trans (hb3.mono (by simp))⟩
theorem adB (v vb:Value) (L:List Df) (nm to:ByteArray) (body:List Nd) (w:World) (hv:aG w v L) (hn:L.length<=1048576) (hs:∀x∈L,dN x) (hvb:aZ w vb body) (he:dW ⟨1,nm,to,body⟩) :
  Calls Tryz.prog 24 #[v,.agg #[.int .i64 1,.string nm,.string to,vb]] w (lV (aJ L ⟨1,nm,to,body⟩) w):=by
 obtain⟨a,cap,rfl⟩:∃a cap,v=.slice a L.length cap:=by obtain⟨a,cap,rfl,_⟩:=hv;exact⟨a,cap,rfl⟩
 obtain⟨ab,cb,rfl⟩:=hvb.slice;have hpl:qm ⟨1,nm,to,body⟩=decide (to=ByteArray.empty):=by simp[qm];try(cases body<;>simp)
 by_cases hp:to=ByteArray.empty
 ·have HD:Hid (decide (to=ByteArray.empty)=true):=(show _=_ by simpa using hp)
  cases hg:good L
  ·have HA:Hid (aJ L ⟨1,nm,to,body⟩=none):=(show _=_ by simp[aJ,hg])
   have HG:=Lib.hid hg;clear hg hp hpl;go_enter Tryz.func24,Tryz.ntmps24;go_wp2_with (first|(go_at_call 61;refine(J_ nm to body.length ab cb _).mono ?_;rintro r w2⟨rfl,hb2⟩;rw[HD.out];simp only[qX,fv];have hb2':Below w.heap.size w w2:=(aj _ _).trans (hb2.mono (by simp)))|(go_at_call 46;refine(fJ _ L _ (hv.keep (hb2'.alloc hb2'.size _)) hn hs).mono ?_;rintro e w3⟨rfl,hb3⟩;rw[HG.out];have bK:=(hb2'.alloc hb2'.size _).trans (hb3.mono (by simp;have:=hb2'.size;omega))))
   go_ret2
   exact⟨_,by rw[HA.out];rfl,by rw[HA.out];exact gY _ _,bK⟩
  ·have HA:Hid (aJ L ⟨1,nm,to,body⟩=jG L (kE L ⟨1,nm,to,body⟩)):=(show _=_ by unfold aJ;rw[if_pos ⟨hg,by rw[hpl];simpa using hp⟩];rfl)
   have HG:=Lib.hid hg;clear hg hp hpl;go_enter Tryz.func24,Tryz.ntmps24;go_wp2_with (first|(go_at_call 61;refine(J_ nm to body.length ab cb _).mono ?_;rintro r w2⟨rfl,hb2⟩;rw[HD.out];simp only[qX,fv];obtain⟨hc2,hf2,hs2⟩:=bH hb2;have hb2':Below w.heap.size w w2:=(aj _ _).trans (hb2.mono (by simp)))|(go_at_call 46;refine(fJ _ L _ (hv.keep (hb2'.alloc hb2'.size _)) hn hs).mono ?_;rintro e w3⟨rfl,hb3⟩;rw[HG.out];obtain⟨hc3,hf3,hs3⟩:=bH hb3;have k1:w3.cell? ⟨w2.heap.size,1,none⟩=some (.func (.func 110) #[] #[]):=(hc3 _ _ (by simp)).trans (by simp);have qy:Below w2.heap.size w2 w3:=(aj _ _).trans (hb3.mono (by simp));have x0:w2.cell? ⟨w.heap.size,0,none⟩=some (.int .i64 1):=(hc2 _ _ (by simp)).trans (by simp);have x1:w2.cell? ⟨w.heap.size,1,none⟩=some (.string nm):=(hc2 _ _ (by simp)).trans (by simp);have x2:w2.cell? ⟨w.heap.size,2,none⟩=some (.string to):=(hc2 _ _ (by simp)).trans (by simp);have x3:w2.cell? ⟨w.heap.size,3,none⟩=some (.slice ab body.length cb):=(hc2 _ _ (by simp)).trans (by simp);have y0:=ak qy x0;have y1:=ak qy x1;have y2:=ak qy x2;have y3:=ak qy x3;have bK:=(hb2'.alloc hb2'.size _).trans (hb3.mono (by simp;have:=hb2'.size;omega)))|(go_at_call 110;refine(ady _ _ L ⟨1,nm,to,body⟩ _ (hv.keep bK) hn hs HG.out (hvb.keep bK) he).mono ?_;rintro r w4⟨v4,rfl,bF,hb4⟩))
   go_ret2
   exact⟨v4,by rw[HA.out];rfl,by rw[HA.out];exact bF.mono bK.size,bK.trans (hb4.mono bK.size)⟩
 ·have HD:Hid (decide (to=ByteArray.empty)=false):=(show _=_ by simpa using hp)
  have HA:Hid (aJ L ⟨1,nm,to,body⟩=none):=(show _=_ by unfold aJ;rw[if_neg (λh=>hp (by have:=h.2;rw[hpl]at this;simpa using this))])
  clear hp hpl;go_enter Tryz.func24,Tryz.ntmps24;go_wp2_with (go_at_call 61;refine(J_ nm to body.length ab cb _).mono ?_;rintro r w2⟨rfl,hb2⟩;rw[HD.out];simp only[qX,fv];have hb2':Below w.heap.size w w2:=(aj _ _).trans (hb2.mono (by simp)))
  go_ret2
  exact⟨_,by rw[HA.out];rfl,by rw[HA.out];exact gY _ _,hb2'.alloc hb2'.size _⟩
theorem adC (v vb:Value) (L:List Df) (nm to:ByteArray) (body:List Nd) (w:World) (hv:aG w v L) (hn:L.length<=1048576) (hs:∀x∈L,dN x) (hvb:aZ w vb body) (he:dW ⟨2,nm,to,body⟩) :
  Calls Tryz.prog 24 #[v,.agg #[.int .i64 2,.string nm,.string to,vb]] w (lV (aJ L ⟨2,nm,to,body⟩) w):=by
 obtain⟨a,cap,rfl⟩:∃a cap,v=.slice a L.length cap:=by obtain⟨a,cap,rfl,_⟩:=hv;exact⟨a,cap,rfl⟩
 obtain⟨ab,cb,rfl⟩:=hvb.slice;have hpl:qm ⟨2,nm,to,body⟩=decide (to=ByteArray.empty/\body.length=0):=by simp[qm];try(cases body<;>simp)
 by_cases hp:to=ByteArray.empty/\body.length=0
 ·have HD:Hid (decide (to=ByteArray.empty/\body.length=0)=true):=(show _=_ by simpa using hp)
  cases hg:good L
  ·have HA:Hid (aJ L ⟨2,nm,to,body⟩=none):=(show _=_ by simp[aJ,hg])
   have HG:=Lib.hid hg;clear hg hp hpl;go_enter Tryz.func24,Tryz.ntmps24;go_wp2_with (first|(go_at_call 61;refine(Ko nm to body.length ab cb _).mono ?_;rintro r w2⟨rfl,hb2⟩;rw[HD.out];simp only[qY,fv];have hb2':Below w.heap.size w w2:=(aj _ _).trans (hb2.mono (by simp)))|(go_at_call 46;refine(fJ _ L _ (hv.keep (hb2'.alloc hb2'.size _)) hn hs).mono ?_;rintro e w3⟨rfl,hb3⟩;rw[HG.out];have bK:=(hb2'.alloc hb2'.size _).trans (hb3.mono (by simp;have:=hb2'.size;omega))))
   go_ret2
   exact⟨_,by rw[HA.out];rfl,by rw[HA.out];exact gY _ _,bK⟩
  ·have HA:Hid (aJ L ⟨2,nm,to,body⟩=iO L nm):=(show _=_ by unfold aJ;rw[if_pos ⟨hg,by rw[hpl];simpa using hp⟩];rfl)
   have HG:=Lib.hid hg;clear hg hp hpl;go_enter Tryz.func24,Tryz.ntmps24;go_wp2_with (first|(go_at_call 61;refine(Ko nm to body.length ab cb _).mono ?_;rintro r w2⟨rfl,hb2⟩;rw[HD.out];simp only[qY,fv];obtain⟨hc2,hf2,hs2⟩:=bH hb2;have hb2':Below w.heap.size w w2:=(aj _ _).trans (hb2.mono (by simp)))|(go_at_call 46;refine(fJ _ L _ (hv.keep (hb2'.alloc hb2'.size _)) hn hs).mono ?_;rintro e w3⟨rfl,hb3⟩;rw[HG.out];obtain⟨hc3,hf3,hs3⟩:=bH hb3;have k1:w3.cell? ⟨w2.heap.size,1,none⟩=some (.func (.func 118) #[] #[]):=(hc3 _ _ (by simp)).trans (by simp);have qy:Below w2.heap.size w2 w3:=(aj _ _).trans (hb3.mono (by simp));have x0:w2.cell? ⟨w.heap.size,0,none⟩=some (.int .i64 2):=(hc2 _ _ (by simp)).trans (by simp);have x1:w2.cell? ⟨w.heap.size,1,none⟩=some (.string nm):=(hc2 _ _ (by simp)).trans (by simp);have x2:w2.cell? ⟨w.heap.size,2,none⟩=some (.string to):=(hc2 _ _ (by simp)).trans (by simp);have x3:w2.cell? ⟨w.heap.size,3,none⟩=some (.slice ab body.length cb):=(hc2 _ _ (by simp)).trans (by simp);have y0:=ak qy x0;have y1:=ak qy x1;have y2:=ak qy x2;have y3:=ak qy x3;have bK:=(hb2'.alloc hb2'.size _).trans (hb3.mono (by simp;have:=hb2'.size;omega)))|(go_at_call 118;refine(adz _ _ L ⟨2,nm,to,body⟩ _ (hv.keep bK) hn hs (hvb.keep bK)).mono ?_;rintro r w4⟨v4,rfl,bF,hb4⟩))
   go_ret2
   exact⟨v4,by rw[HA.out];rfl,by rw[HA.out];exact bF.mono bK.size,bK.trans (hb4.mono bK.size)⟩
 ·have HD:Hid (decide (to=ByteArray.empty/\body.length=0)=false):=(show _=_ by simpa using hp)
  have HA:Hid (aJ L ⟨2,nm,to,body⟩=none):=(show _=_ by unfold aJ;rw[if_neg (λh=>hp (by have:=h.2;rw[hpl]at this;simpa using this))])
  clear hp hpl;go_enter Tryz.func24,Tryz.ntmps24;go_wp2_with (go_at_call 61;refine(Ko nm to body.length ab cb _).mono ?_;rintro r w2⟨rfl,hb2⟩;rw[HD.out];simp only[qY,fv];have hb2':Below w.heap.size w w2:=(aj _ _).trans (hb2.mono (by simp)))
  go_ret2
  exact⟨_,by rw[HA.out];rfl,by rw[HA.out];exact gY _ _,hb2'.alloc hb2'.size _⟩
theorem adD (v vb:Value) (L:List Df) (nm to:ByteArray) (body:List Nd) (w:World) (hv:aG w v L) (hn:L.length<=1048576) (hs:∀x∈L,dN x) (hvb:aZ w vb body) (he:dW ⟨3,nm,to,body⟩) :
  Calls Tryz.prog 24 #[v,.agg #[.int .i64 3,.string nm,.string to,vb]] w (lV (aJ L ⟨3,nm,to,body⟩) w):=by
 obtain⟨a,cap,rfl⟩:∃a cap,v=.slice a L.length cap:=by obtain⟨a,cap,rfl,_⟩:=hv;exact⟨a,cap,rfl⟩
 obtain⟨ab,cb,rfl⟩:=hvb.slice;have hpl:qm ⟨3,nm,to,body⟩=decide (body.length=0):=by simp[qm];try(cases body<;>simp)
 by_cases hp:body.length=0
 ·have HD:Hid (decide (body.length=0)=true):=(show _=_ by simpa using hp)
  cases hg:good L
  ·have HA:Hid (aJ L ⟨3,nm,to,body⟩=none):=(show _=_ by simp[aJ,hg])
   have HG:=Lib.hid hg;clear hg hp hpl;go_enter Tryz.func24,Tryz.ntmps24;go_wp2_with (first|(go_at_call 61;refine(Kq nm to body.length ab cb _).mono ?_;rintro r w2⟨rfl,hb2⟩;rw[HD.out];simp only[qZ,fv];have hb2':Below w.heap.size w w2:=(aj _ _).trans (hb2.mono (by simp)))|(go_at_call 46;refine(fJ _ L _ (hv.keep (hb2'.alloc hb2'.size _)) hn hs).mono ?_;rintro e w3⟨rfl,hb3⟩;rw[HG.out];have bK:=(hb2'.alloc hb2'.size _).trans (hb3.mono (by simp;have:=hb2'.size;omega))))
   go_ret2
   exact⟨_,by rw[HA.out];rfl,by rw[HA.out];exact gY _ _,bK⟩
  ·have HA:Hid (aJ L ⟨3,nm,to,body⟩=iF L nm to):=(show _=_ by unfold aJ;rw[if_pos ⟨hg,by rw[hpl];simpa using hp⟩];rfl)
   have HG:=Lib.hid hg;clear hg hp hpl;go_enter Tryz.func24,Tryz.ntmps24;go_wp2_with (first|(go_at_call 61;refine(Kq nm to body.length ab cb _).mono ?_;rintro r w2⟨rfl,hb2⟩;rw[HD.out];simp only[qZ,fv];obtain⟨hc2,hf2,hs2⟩:=bH hb2;have hb2':Below w.heap.size w w2:=(aj _ _).trans (hb2.mono (by simp)))|(go_at_call 46;refine(fJ _ L _ (hv.keep (hb2'.alloc hb2'.size _)) hn hs).mono ?_;rintro e w3⟨rfl,hb3⟩;rw[HG.out];obtain⟨hc3,hf3,hs3⟩:=bH hb3;have k1:w3.cell? ⟨w2.heap.size,1,none⟩=some (.func (.func 123) #[] #[]):=(hc3 _ _ (by simp)).trans (by simp);have qy:Below w2.heap.size w2 w3:=(aj _ _).trans (hb3.mono (by simp));have x0:w2.cell? ⟨w.heap.size,0,none⟩=some (.int .i64 3):=(hc2 _ _ (by simp)).trans (by simp);have x1:w2.cell? ⟨w.heap.size,1,none⟩=some (.string nm):=(hc2 _ _ (by simp)).trans (by simp);have x2:w2.cell? ⟨w.heap.size,2,none⟩=some (.string to):=(hc2 _ _ (by simp)).trans (by simp);have x3:w2.cell? ⟨w.heap.size,3,none⟩=some (.slice ab body.length cb):=(hc2 _ _ (by simp)).trans (by simp);have y0:=ak qy x0;have y1:=ak qy x1;have y2:=ak qy x2;have y3:=ak qy x3;have bK:=(hb2'.alloc hb2'.size _).trans (hb3.mono (by simp;have:=hb2'.size;omega)))|(go_at_call 123;refine(adA _ _ L ⟨3,nm,to,body⟩ _ (hv.keep bK) hn hs (hvb.keep bK) he).mono ?_;rintro r w4⟨v4,rfl,bF,hb4⟩))
   go_ret2
   exact⟨v4,by rw[HA.out];rfl,by rw[HA.out];exact bF.mono bK.size,bK.trans (hb4.mono bK.size)⟩
 ·have HD:Hid (decide (body.length=0)=false):=(show _=_ by simpa using hp)
  have HA:Hid (aJ L ⟨3,nm,to,body⟩=none):=(show _=_ by unfold aJ;rw[if_neg (λh=>hp (by have:=h.2;rw[hpl]at this;simpa using this))])
  clear hp hpl;go_enter Tryz.func24,Tryz.ntmps24;go_wp2_with (go_at_call 61;refine(Kq nm to body.length ab cb _).mono ?_;rintro r w2⟨rfl,hb2⟩;rw[HD.out];simp only[qZ,fv];have hb2':Below w.heap.size w w2:=(aj _ _).trans (hb2.mono (by simp)))
  go_ret2
  exact⟨_,by rw[HA.out];rfl,by rw[HA.out];exact gY _ _,hb2'.alloc hb2'.size _⟩
theorem zC (v vb:Value) (L:List Df) (e:En) (w:World) (hv:aG w v L) (hn:L.length<=1048576) (hs:∀x∈L,dN x) (hvb:aZ w vb e.body) (he:dW e) :
  Calls Tryz.prog 24 #[v,.agg #[.int .i64 e.kind,.string e.name,.string e.to,vb]] w (lV (aJ L e) w):=by
 obtain⟨k,nm,to,body⟩:=e;by_cases h1:k=1
 ·subst h1;exact adB v vb L nm to body w hv hn hs hvb he
 by_cases h2:k=2
 ·subst h2;exact adC v vb L nm to body w hv hn hs hvb he
 by_cases h3:k=3
 ·subst h3;exact adD v vb L nm to body w hv hn hs hvb he
 have HA:Hid (aJ L ⟨k,nm,to,body⟩=none):=(show _=_ by simp[aJ,h1,h2,h3])
 have hk:¬(1<=k/\k<=3):=by omega
 clear h1 h2 h3;obtain⟨a,cap,rfl⟩:∃a cap,v=.slice a L.length cap:=by obtain⟨a,cap,rfl,_⟩:=hv;exact⟨a,cap,rfl⟩
 obtain⟨ab,cb,rfl⟩:=hvb.slice;show Calls Tryz.prog 24 #[.slice a L.length cap,.agg #[.int .i64 k,.string nm,.string to,.slice ab body.length cb]] w (lV (aJ L ⟨k,nm,to,body⟩) w);go_enter Tryz.func24,Tryz.ntmps24;go_wp2_with (go_at_call 61;refine(kind_none k nm to body.length ab cb _ hk).mono ?_;rintro r w2⟨rfl,hb2⟩;simp only[J8];have hb2':Below w.heap.size w w2:=(aj _ _).trans (hb2.mono (by simp)))
 go_ret2
 exact⟨_,by rw[HA.out];rfl,by rw[HA.out];exact gY _ _,hb2'.alloc hb2'.size _⟩
end Go.Proofs.YtikgblkfmpecfaaGreatDoor
