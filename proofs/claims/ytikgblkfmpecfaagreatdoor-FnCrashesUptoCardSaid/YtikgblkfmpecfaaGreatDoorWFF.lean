/-
  The reference's reader: row. Own work.
-/
import Derived.Test.YtikgblkfmpecfaaGreatDoorWEE
import Derived.Test.YtikgblkfmpecfaaGreatDoorWAA
import Derived.Test.YtikgblkfmpecfaaGreatDoorWS
set_option linter.all false
set_option maxRecDepth 100000
set_option maxHeartbeats 8000000
namespace Go.Proofs.YtikgblkfmpecfaaGreatDoor
open Go.RowKit
abbrev JL (B bx:Nat) (all:List Tk) (f:Nat):Prop:=∀(nx:Nat) (ts:List Tk) (out:Rd) (w:World),all.drop nx=ts->ts.length<=f->out.length+ts.length<=40000->fC B bx all w nx (out.map Prod.fst) (out.map Prod.snd) false ->
 Calls Tryz.prog 193 #[.pointer (some ⟨bx,0,none⟩)] w (qg B bx all w ts out (bQ f ts out))
abbrev JM (B bx:Nat) (all:List Tk) (f:Nat):Prop:=∀(nx:Nat) (ts:List Tk) (out:Rd) (w:World),all.drop nx=ts->ts.length<=f->out.length+ts.length<=40000->fC B bx all w nx (out.map Prod.fst) (out.map Prod.snd) false ->
 Calls Tryz.prog 166 #[.pointer (some ⟨bx,0,none⟩)] w (qg B bx all w ts out (fU f ts out))
abbrev JO (B bx:Nat) (all:List Tk) (f:Nat):Prop:=∀(nx:Nat) (ts:List Tk) (out:Rd) (w:World),all.drop nx=ts->ts.length<=f->out.length+ts.length<=40000->fC B bx all w nx (out.map Prod.fst) (out.map Prod.snd) false ->
 Calls Tryz.prog 98 #[.pointer (some ⟨bx,0,none⟩)] w (qg B bx all w ts out (fQ f ts out))
def JQ (w:World) (bx:Nat):Nat:=match w.cell? ⟨bx,0,none⟩,w.cell? ⟨bx,1,none⟩with
 | some (.slice _ n _),some (.int _ i)=>n-i.toNat
 | _,_=>0
theorem fC.left {B bx:Nat} {all:List Tk} {w:World} {nx:Nat} {nodes:List Nd} {ats:List Int} {failed:Bool} (h:fC B bx all w nx nodes ats failed):JQ w bx=(all.drop nx).length:=by
 obtain⟨vt,vn,va,h⟩:=h;obtain⟨a,c,rfl,hc⟩:=h.tk.shape;simp[JQ,h.c0,h.c1]
def WY (B bx:Nat) (all:List Tk) (w wr:World) (ts:List Tk) (out:Rd) (f:Nat) (res:pJ) (rows:Nat->List Tk->Rd->pJ):Prop :=
 (∃(f' nx':Nat) (ts':List Tk) (out':Rd),f'<=f/\all.drop nx'=ts'/\ts'.length<=f'/\out'.length+ts'.length<=40000/\fC B bx all wr nx' (out'.map Prod.fst) (out'.map Prod.snd) false/\Fr B bx w wr/\ts'.length<=ts.length/\out'.length+ts'.length<=out.length+ts.length/\Hid (res=rows f' ts' out')) \/
 (∃(nx':Nat) (nodes:List Nd) (ats:List Int),res.bad=true/\all.drop nx'=res.rest/\fC B bx all wr nx' nodes ats true/\Fr B bx w wr/\res.rest.length<=ts.length/\nodes.length=ats.length/\nodes.length+res.rest.length<=out.length+ts.length)
theorem ac1 (B bx:Nat) (all:List Tk) (f:Nat) (hP:∀g,g<=f->JL B bx all g):JM B bx all f:=by
 intro nx ts out w hd hts hsum h;have h0:=hP f (Nat.le_refl _) nx ts out w hd hts hsum h;obtain⟨RES,uG⟩:∃R,fU f ts out=R:=⟨_,rfl⟩
 rw[uG];obtain⟨⟨bad,rest,o⟩,hq⟩:∃q,bQ f ts out=q:=⟨_,rfl⟩
 rw[hq]at h0;have HR:Hid (RES=if bad then⟨true,rest,o⟩else jl f rest o):=(show _=_ by rw[<-uG,fU.eq_def,hq];cases bad<;>rfl)
 have HS:=Lib.hid (And.intro hd (And.intro hts hsum));clear uG hq;go_enter Tryz.func166,Tryz.ntmps166;go_wp2_with (go_at_call 193;refine h0.mono ?_;rintro e w1 hp1;obtain rfl:=hp1.ret;have Pm:=Lib.hid hp1;clear hp1)
 clear hd hts hsum h h0;go_loopw [5,6] (λ_ _ wr=>WY B bx all w wr ts out f RES jl) (λ_ _ wr=>JQ wr bx)
 case atStart =>
  obtain⟨hd,hts,hsum⟩:=HS.out
  obtain⟨⟨FZ,Pn,Po,h1,hd1,hn1,he1,hs1⟩,hF1,hl1,_⟩:=Pm.out
  cases bad with
  | true =>
   have e:RES=⟨true,rest,o⟩:=by simpa using HR.out
   refine .inr ⟨FZ,Pn,Po,?_,?_,h1,hF1,?_,he1,?_⟩
   ·rw[e]
   ·rw[e];exact hd1
   ·rw[e];exact hl1
   ·rw[e];exact hs1
  | false =>
   obtain⟨rfl,rfl⟩:=hn1 rfl
   simp only[List.length_map]at hs1
   exact .inl ⟨f,FZ,rest,o,Nat.le_refl _,hd1,by simp only at hl1;omega,by omega,h1,hF1,hl1,hs1,(by have:=HR.out;simpa using this:RES=_)⟩
 case round =>
  rcases hrel with⟨f',nx',ts',out',mM,hd',hlf,hof,hx',hF',hlt,hst,HG⟩|⟨nx',nodes,ats,hbad,hd',hx',hF',hlt,hne,hst⟩
  ·have hleft:=hx'.left
   rw[hd']at hleft
   obtain⟨k1,k4,f1,f4,sx⟩:=hx'.cells
   cases hy:bJ ts' ⟨#[42]⟩
   ·have HE:Hid (RES=⟨false,ts',out'⟩):=(show _=_ by
     rw[HG.out];have hy':bI ts' 42=false:=by rw[<-xu];exact hy
     cases f'<;>simp[jl,hy'])
    have HZ:=Lib.hid (And.intro hd' (And.intro hlt hst))
    rw[<-hd']at hy
    clear hd' hlt hst hof hlf
    go_wp2_with (go_at_call 167;refine(pY B bx all _ _ _ _ _ _ hx').mono ?_;rintro e w2⟨rfl,hb2⟩;rw[hy])
    exact bodyPost_end (v:=.tuple #[]) (by simp[results,Tryz.results166,go_sem]) rfl (by rw[HE.out];exact⟨⟨nx',_,_,lS hx' hb2,HZ.out.1,(λ_=>⟨rfl,rfl⟩),by simp,by simpa using HZ.out.2.2⟩,hF'.trans (Fr.below hx'.facts.2.1 hb2),HZ.out.2.1,rfl⟩)
   ·cases ts' with
    | nil=>simp[bJ]at hy
    | cons t r =>
     obtain⟨g,rfl⟩:∃g,f'=g+1:=⟨f'-1,by simp at hlf;omega⟩
     have tN:r.length<=g:=by simpa using hlf
     have hy':bI (t::r) 42=true:=by rw[<-xu];exact hy
     obtain⟨hl,hget⟩:=yX hd'
     have hd2:=(drop_cons hd').2
     obtain⟨⟨AZ,iW,o2⟩,hq⟩:∃q,bQ g r out'=q:=⟨_,rfl⟩
     have hg:=λw2 h2=>hP g (by omega) (nx'+1) r out' w2 hd2 tN (by simp at hof;omega) h2
     rw[hq]at hg
     have HN:Hid (RES=if AZ then⟨true,iW,o2⟩else jl g iW (o2++[(⟨16,0,⟨#[]⟩⟩,t.pos)])):=(show _=_ by rw[HG.out,jl,if_pos hy'];simp only[List.tail_cons,hq];cases AZ<;>simp)
     have HZ:=Lib.hid (And.intro hd' (And.intro hlt (And.intro hst (And.intro hof (And.intro tN (And.intro hd2 hget))))))
     have hall:=hx'.facts.2.2.2.1
     have hnx1:(nx':Int)+1<=40000:=by omega
     rw[<-hd']at hy
     have AO:(nx':Int)<all.length:=by omega
     have HTL:Hid (r.length+1<=40000):=(show _<=_ by simp at hof;omega)
     clear hd' hlt hst hof hlf tN hd2 hget hq HG hy'
     go_wp2_with (go_at_call 167;refine(pY B bx all _ _ _ _ _ _ hx').mono ?_;rintro e w2⟨rfl,hb2⟩;rw[hy];have h2:=lS hx' hb2;obtain⟨yM,vn2,va2,hv2⟩:=id h2;obtain⟨b2,o2',c2,rfl,hc2,t0,t1,t2⟩:=hv2.tk.get nx' hl;rw[HZ.out.2.2.2.2.2.2]at t0 t1 t2;have q0:=hv2.c0;have q1:=hv2.c1)
     go_quiet (fail)
     have hb3:Below w2.heap.size w2 (w2.drewN nq):=below_drewN (Below.refl w2.heap.size w2) nq
     obtain⟨W3,hW3⟩:∃W3,W3=w2.drewN nq:=⟨_,rfl⟩
     rw[<-hW3]at hb3 ⊢
     have h3:=lS h2 hb3
     obtain⟨p1,p4,g1,g4,s3⟩:=h3.cells
     obtain⟨h4,su⟩:=DI h3 hl
     clear hW3 q0 q1 t0 t1 t2 hv2
     go_wp2_with (first|(go_at_call 193;refine(hg _ h4).mono ?_;rintro e w5⟨⟨A8,F5,F6,h5,hd5,tY,Pq,hs5⟩,yV,hl5,rfl⟩)|(go_at_call 168;refine(Ju B bx all A8 F5 F6 _ ⟨16,0,⟨#[]⟩⟩ t.pos _ h5 (by have:=HZ.out.2.2.2.1;simp at this;omega) (by have:=HZ.out.2.2.2.1;simp at this;omega)).mono ?_;rintro e w6⟨rfl,h6,mO⟩))
     have Au:=((((hF'.trans (Fr.below hx'.facts.2.1 hb2)).trans (Fr.below h2.facts.2.1 hb3)).trans su).trans yV).trans mO
     have mP:=h6.left
     rw[hd5]at mP
     go_wp2
     go_roundw
     case rel =>
      obtain⟨z1,z2,z3,z4,z5,z6,_⟩:=HZ.out
      simp at z2 z3 z4 hs5 hl5
      cases AZ with
      | true =>
       have e:RES=⟨true,iW,o2⟩:=by simpa using HN.out
       exact .inr ⟨A8,F5++[⟨16,0,⟨#[]⟩⟩],F6++[t.pos],by rw[e],by rw[e];exact hd5,h6,Au,by rw[e];simp only;omega,by simp[Pq],by rw[e];simp;omega⟩
      | false =>
       obtain⟨rfl,rfl⟩:=tY (by first|rfl|trivial)
       simp only[List.length_map]at hs5
       exact .inl ⟨g,A8,iW,o2++[(⟨16,0,⟨#[]⟩⟩,t.pos)],by omega,hd5,by omega,by simp;omega,by simpa using h6,Au,by omega,by simp;omega,(by have:=HN.out;simpa using this:RES=_)⟩
     case measure=>rw[mP,hleft];simp at hl5 ⊢;omega
  ·obtain⟨k1,k4,f1,f4,sx⟩:=hx'.cells
   have HZ:=Lib.hid (And.intro hd' (And.intro hlt (And.intro hst hbad)))
   clear hd' hlt hst hbad
   go_wp2
   exact bodyPost_end (v:=.tuple #[]) (by simp[results,Tryz.results166,go_sem]) rfl ⟨⟨nx',nodes,ats,by rw[HZ.out.2.2.2];exact hx',HZ.out.1,(λhh=>by rw[HZ.out.2.2.2]at hh;cases hh),hne,HZ.out.2.2.1⟩,hF',HZ.out.2.1,rfl⟩
theorem ac2 (B bx:Nat) (all:List Tk) (f:Nat) (hP:∀g,g<=f->JM B bx all g):JO B bx all f:=by
 intro nx ts out w hd hts hsum h;have h0:=hP f (Nat.le_refl _) nx ts out w hd hts hsum h;obtain⟨RES,uG⟩:∃R,fQ f ts out=R:=⟨_,rfl⟩
 rw[uG];obtain⟨⟨bad,rest,o⟩,hq⟩:∃q,fU f ts out=q:=⟨_,rfl⟩
 rw[hq]at h0;have HR:Hid (RES=if bad then⟨true,rest,o⟩else jm f rest o):=(show _=_ by rw[<-uG,fQ.eq_def,hq];cases bad<;>rfl)
 have HS:=Lib.hid (And.intro hd (And.intro hts hsum));clear uG hq;go_enter Tryz.func98,Tryz.ntmps98;go_wp2_with (go_at_call 166;refine h0.mono ?_;rintro e w1 hp1;obtain rfl:=hp1.ret;have Pm:=Lib.hid hp1;clear hp1)
 clear hd hts hsum h h0;go_loopw [5,6] (λ_ _ wr=>WY B bx all w wr ts out f RES jm) (λ_ _ wr=>JQ wr bx)
 case atStart =>
  obtain⟨hd,hts,hsum⟩:=HS.out
  obtain⟨⟨FZ,Pn,Po,h1,hd1,hn1,he1,hs1⟩,hF1,hl1,_⟩:=Pm.out
  cases bad with
  | true =>
   have e:RES=⟨true,rest,o⟩:=by simpa using HR.out
   refine .inr ⟨FZ,Pn,Po,?_,?_,h1,hF1,?_,he1,?_⟩
   ·rw[e]
   ·rw[e];exact hd1
   ·rw[e];exact hl1
   ·rw[e];exact hs1
  | false =>
   obtain⟨rfl,rfl⟩:=hn1 rfl
   simp only[List.length_map]at hs1
   exact .inl ⟨f,FZ,rest,o,Nat.le_refl _,hd1,by simp only at hl1;omega,by omega,h1,hF1,hl1,hs1,(by have:=HR.out;simpa using this:RES=_)⟩
 case round =>
  rcases hrel with⟨f',nx',ts',out',mM,hd',hlf,hof,hx',hF',hlt,hst,HG⟩|⟨nx',nodes,ats,hbad,hd',hx',hF',hlt,hne,hst⟩
  ·have hleft:=hx'.left
   rw[hd']at hleft
   obtain⟨k1,k4,f1,f4,sx⟩:=hx'.cells
   cases hy:bJ ts' ⟨#[59]⟩
   ·have HE:Hid (RES=⟨false,ts',out'⟩):=(show _=_ by
     rw[HG.out];have hy':bI ts' 59=false:=by rw[<-xu];exact hy
     cases f'<;>simp[jm,hy'])
    have HZ:=Lib.hid (And.intro hd' (And.intro hlt hst))
    rw[<-hd']at hy
    clear hd' hlt hst hof hlf
    go_wp2_with (go_at_call 167;refine(pY B bx all _ _ _ _ _ _ hx').mono ?_;rintro e w2⟨rfl,hb2⟩;rw[hy])
    exact bodyPost_end (v:=.tuple #[]) (by simp[results,Tryz.results98,go_sem]) rfl (by rw[HE.out];exact⟨⟨nx',_,_,lS hx' hb2,HZ.out.1,(λ_=>⟨rfl,rfl⟩),by simp,by simpa using HZ.out.2.2⟩,hF'.trans (Fr.below hx'.facts.2.1 hb2),HZ.out.2.1,rfl⟩)
   ·cases ts' with
    | nil=>simp[bJ]at hy
    | cons t r =>
     obtain⟨g,rfl⟩:∃g,f'=g+1:=⟨f'-1,by simp at hlf;omega⟩
     have tN:r.length<=g:=by simpa using hlf
     have hy':bI (t::r) 59=true:=by rw[<-xu];exact hy
     obtain⟨hl,hget⟩:=yX hd'
     have hd2:=(drop_cons hd').2
     obtain⟨⟨AZ,iW,o2⟩,hq⟩:∃q,fU g r out'=q:=⟨_,rfl⟩
     have hg:=λw2 h2=>hP g (by omega) (nx'+1) r out' w2 hd2 tN (by simp at hof;omega) h2
     rw[hq]at hg
     have HN:Hid (RES=if AZ then⟨true,iW,o2⟩else jm g iW (o2++[(⟨15,0,⟨#[]⟩⟩,t.pos)])):=(show _=_ by rw[HG.out,jm,if_pos hy'];simp only[List.tail_cons,hq];cases AZ<;>simp)
     have HZ:=Lib.hid (And.intro hd' (And.intro hlt (And.intro hst (And.intro hof (And.intro tN (And.intro hd2 hget))))))
     have hall:=hx'.facts.2.2.2.1
     have hnx1:(nx':Int)+1<=40000:=by omega
     rw[<-hd']at hy
     have AO:(nx':Int)<all.length:=by omega
     have HTL:Hid (r.length+1<=40000):=(show _<=_ by simp at hof;omega)
     clear hd' hlt hst hof hlf tN hd2 hget hq HG hy'
     go_wp2_with (go_at_call 167;refine(pY B bx all _ _ _ _ _ _ hx').mono ?_;rintro e w2⟨rfl,hb2⟩;rw[hy];have h2:=lS hx' hb2;obtain⟨yM,vn2,va2,hv2⟩:=id h2;obtain⟨b2,o2',c2,rfl,hc2,t0,t1,t2⟩:=hv2.tk.get nx' hl;rw[HZ.out.2.2.2.2.2.2]at t0 t1 t2;have q0:=hv2.c0;have q1:=hv2.c1)
     go_quiet (fail)
     have hb3:Below w2.heap.size w2 (w2.drewN nq):=below_drewN (Below.refl w2.heap.size w2) nq
     obtain⟨W3,hW3⟩:∃W3,W3=w2.drewN nq:=⟨_,rfl⟩
     rw[<-hW3]at hb3 ⊢
     have h3:=lS h2 hb3
     obtain⟨p1,p4,g1,g4,s3⟩:=h3.cells
     obtain⟨h4,su⟩:=DI h3 hl
     clear hW3 q0 q1 t0 t1 t2 hv2
     go_wp2_with (first|(go_at_call 166;refine(hg _ h4).mono ?_;rintro e w5⟨⟨A8,F5,F6,h5,hd5,tY,Pq,hs5⟩,yV,hl5,rfl⟩)|(go_at_call 168;refine(Ju B bx all A8 F5 F6 _ ⟨15,0,⟨#[]⟩⟩ t.pos _ h5 (by have:=HZ.out.2.2.2.1;simp at this;omega) (by have:=HZ.out.2.2.2.1;simp at this;omega)).mono ?_;rintro e w6⟨rfl,h6,mO⟩))
     have Au:=((((hF'.trans (Fr.below hx'.facts.2.1 hb2)).trans (Fr.below h2.facts.2.1 hb3)).trans su).trans yV).trans mO
     have mP:=h6.left
     rw[hd5]at mP
     go_wp2
     go_roundw
     case rel =>
      obtain⟨z1,z2,z3,z4,z5,z6,_⟩:=HZ.out
      simp at z2 z3 z4 hs5 hl5
      cases AZ with
      | true =>
       have e:RES=⟨true,iW,o2⟩:=by simpa using HN.out
       exact .inr ⟨A8,F5++[⟨15,0,⟨#[]⟩⟩],F6++[t.pos],by rw[e],by rw[e];exact hd5,h6,Au,by rw[e];simp only;omega,by simp[Pq],by rw[e];simp;omega⟩
      | false =>
       obtain⟨rfl,rfl⟩:=tY (by first|rfl|trivial)
       simp only[List.length_map]at hs5
       exact .inl ⟨g,A8,iW,o2++[(⟨15,0,⟨#[]⟩⟩,t.pos)],by omega,hd5,by omega,by simp;omega,by simpa using h6,Au,by omega,by simp;omega,(by have:=HN.out;simpa using this:RES=_)⟩
     case measure=>rw[mP,hleft];simp at hl5 ⊢;omega
  ·obtain⟨k1,k4,f1,f4,sx⟩:=hx'.cells
   have HZ:=Lib.hid (And.intro hd' (And.intro hlt (And.intro hst hbad)))
   clear hd' hlt hst hbad
   go_wp2
   exact bodyPost_end (v:=.tuple #[]) (by simp[results,Tryz.results98,go_sem]) rfl ⟨⟨nx',nodes,ats,by rw[HZ.out.2.2.2];exact hx',HZ.out.1,(λhh=>by rw[HZ.out.2.2.2]at hh;cases hh),hne,HZ.out.2.2.1⟩,hF',HZ.out.2.1,rfl⟩
theorem ac3 (B bx:Nat) (all:List Tk) (f:Nat) (hT:∀g,g+1=f->JO B bx all g):JL B bx all f:=by
 intro nx ts out w hd hts hsum h;cases hy:bJ ts ⟨#[40]⟩with
 | true =>
  cases ts with
  | nil=>simp[bJ]at hy
  | cons t r =>
   obtain⟨g,rfl⟩:∃g,f=g+1:=⟨f-1,by simp at hts;omega⟩
   exact acg B bx all g (λnx out w h1 h2 h3=>hT g rfl nx _ out w rfl h1 h2 h3) nx t r out w hd (by simpa using hts) (by simpa using hsum) h hy
 | false =>
  by_cases hk:∃t r,ts=t::r/\t.kind=1
  ·obtain⟨t,r,rfl,hk⟩:=hk
   obtain⟨g,rfl⟩:∃g,f=g+1:=⟨f-1,by simp at hts;omega⟩
   by_cases hv:bg t.text=1\/bg t.text=7\/bg t.text=13
   ·by_cases hn:∃n r2,r=n::r2/\n.kind=2
    ·obtain⟨n,r2,rfl,hn⟩:=hn
     exact acN B bx all g nx t n r2 out w hd (by simpa using hsum) h hk hv hn
    ·exact acL B bx all g nx t r out w hd (by simpa using hsum) h hk hv (λn r2 e hh=>hn ⟨n,r2,e,hh⟩)
   ·exact acK B bx all g nx t r out w hd (by simpa using hsum) h hk hv
  ·exact ach B bx all f nx ts out w hd hts h hy (λt r e hh=>hk ⟨t,r,e,hh⟩)
theorem WZ (B bx:Nat) (all:List Tk):∀f:Nat,∀g,g<=f->JL B bx all g/\JM B bx all g/\JO B bx all g
 | f=>by
  intro g hg;have hp:∀k,k<=g->JL B bx all k:=λk hk=>ac3 B bx all k (λj hj=>(WZ B bx all j j (Nat.le_refl _)).2.2);have hr:∀k,k<=g->JM B bx all k:=λk hk=>ac1 B bx all k (λj hj=>hp j (by omega));exact⟨hp g (Nat.le_refl _),hr g (Nat.le_refl _),ac2 B bx all g hr⟩
 termination_by f=>f
 decreasing_by omega
theorem ac4 (B bx:Nat) (all:List Tk) (f:Nat):JO B bx all f:=(WZ B bx all f f (Nat.le_refl _)).2.2
structure F7 (leaf:Nd->Option W2) (aC:Rd) (w wr:World) (v8 v9:Value) (k:Nat) (st:List W2):Prop where
 r0:Rw wr w.heap.size v8 (st.map Prod.fst)
 r1:Rw wr w.heap.size v9 (st.map Prod.snd)
 ap:Apart v8 v9
 bel:Below w.heap.size w wr
 sm:∀x∈st,Sm x
 hgo:Hid (dG leaf aC 0 []=dG leaf (aC.drop k) k st.reverse)
 wf:Hid (f_ (aC.drop k) st.length=some 1)
 len:st.length<=k
def xF (w:World) (v:Value) (xs:List Int):Prop:=iT 1 v xs.length λi b o=>∃h:i<xs.length,w.cell? ⟨b,o,none⟩=some (.int .i64 xs[i])
theorem JR {w:World} {B:Nat} {v:Value} {xs:List Int} (h:Rw w B v xs):xF w v xs:=by
 refine yw h _ λi b o hi hc=>⟨hi,?_⟩
 have:=(hc 0 (by omega)).trans (flat_get JI xs i 0 hi (by omega));simpa[dw]using this
theorem ac5 {L:List Df} {n:Nd} (h:n.kind=17) (hv:n.value=0):aO L n=(findD L n.name).map λd=>(d.inn,d.out):=by unfold aO;rw[if_pos h,if_pos hv]
theorem ac6 {L:List Df} {n:Nd} (h:n.kind≠17):aO L n=if gB n then some (fH n)else none:=by unfold aO;rw[if_neg h]
theorem ac7 (v vn va:Value) (L:List Df) (aC:Rd) (w:World) (hv:aG w v L) (hn:L.length<=1048576) (hsm:∀d∈L,Sm (d.inn,d.out)) (hvn:aZ w vn (aC.map Prod.fst)) (hva:xF w va (aC.map Prod.snd)) (hrl:aC.length<=40000) (hp:∀x∈aC,yD x.1) (hw:f_ aC 0=some 1) :
  Calls Tryz.prog 99 #[v,vn,va] w λe w'=>e=.returned (.tuple #[.int .i64 ((dG (aO L) aC 0 []).getD (0,0)).1,.int .i64 ((dG (aO L) aC 0 []).getD (0,0)).2])/\Below w.heap.size w w':=by
 obtain⟨a,cap,rfl⟩:∃a cap,v=.slice a L.length cap:=by obtain⟨a,cap,rfl,_⟩:=hv;exact⟨a,cap,rfl⟩
 obtain⟨aN,cN,rfl,A_,Pv⟩:=hvn;obtain⟨aA,cA,rfl,hcA,Px⟩:=hva;simp only[List.length_map]at A_ hcA Pv Px ⊢;obtain⟨i0,hi,hz0,hz1,hz2⟩:=info_parts VU;have HW:=Lib.hid hw;clear hw;obtain⟨RES,uG⟩:∃R,dG (aO L) aC 0 []=R:=⟨_,rfl⟩
 rw[uG];have JU:=Lib.hid uG;clear uG;go_enter Tryz.func99,Tryz.ntmps99;go_wp2;go_loopw [8,9,20] (λv8 v9 i wr=>∃(k:Nat) (st:List W2),k<=aC.length/\i=.int .i64 k/\F7 (aO L) aC w wr v8 v9 k st) (λ_ _ i _=>aC.length-(intOf i).toNat)
 case atStart =>
  exact⟨0,[],Nat.zero_le _,rfl,⟨by simp,.inl ⟨rfl,rfl⟩⟩,⟨by simp,.inl ⟨rfl,rfl⟩⟩,λk hk=>by simp[Value.ownBlock]at hk,Below.refl _ _,by simp,(by simp[Hid]:Hid (dG (aO L) aC 0 []=dG (aO L) (aC.drop 0) 0 ([]:List W2).reverse)),HW,Nat.le_refl _⟩
 case round =>
  obtain⟨k,st,hk,rfl,hst⟩:=hrel
  have hbel:=hst.bel
  have hsz:=hbel.size
  by_cases hlt:k<aC.length
  ·obtain⟨bN,oN,rfl,_,hnd⟩:=Pv k hlt
   obtain⟨bA,oA,rfl,_,hna⟩:=Px k hlt
   obtain⟨c0,c1,c2⟩:=hnd.keep hbel
   have ca:=ak hbel hna
   simp only[List.getElem_map,Nat.mul_one]at c0 c1 c2 ca
   have hpx:=hp aC[k] (List.getElem_mem _)
   clear Pv Px hnd hna
   have hdrop:=List.drop_eq_getElem_cons hlt
   have hgo0:=hst.hgo
   have qO:=hst.wf
   have Fj:=hst.len
   have rX:=hst.sm
   obtain⟨x,hx0⟩:∃x,aC[k]=x:=⟨_,rfl⟩
   rw[hx0]at c0 c1 c2 ca hpx hdrop
   clear hx0
   have zA:=cell_lt ca
   by_cases Oa:400<=k
   ·have HT:Hid (RES=some (x.2,1)):=(show _=_ by rw[<-JU.out,hgo0.out,hdrop,EZ Oa])
    have gk:(400:Int)<=k:=by omega
    clear hst hgo0 qO hdrop hpx
    go_wp2
    go_ret2
    exact⟨by rw[HT.out];rfl,hbel.alloc (by omega) _⟩
   have gk:¬(400:Int)<=k:=by omega
   by_cases hk1:x.1.kind=15\/x.1.kind=16
   ·have hwl:2<=st.length/\f_ (aC.drop (k+1)) (st.length-1)=some 1:=by
     have h0:=qO.out;rw[hdrop]at h0;unfold f_ at h0;rw[if_pos hk1]at h0;by_cases h2:2<=st.length
     ·rw[if_pos h2]at h0;exact⟨h2,h0⟩
     ·rw[if_neg h2]at h0;cases h0
    obtain⟨st0,p,q,rfl⟩:=Fh st (by omega)
    have Af:Hid (f_ (aC.drop (k+1)) (st0.length+1)=some 1):=(show _=_ by have:=hwl.2;simpa using this)
    have ahr:st0.length+2<=k:=by simpa using Fj
    have hpq:Sm p/\Sm q:=⟨rX p (by simp),rX q (by simp)⟩
    have hr0:=hst.r0
    have hr1:=hst.r1
    have hap:=hst.ap
    obtain⟨a8,c8,rfl⟩:=Rw.shape hr0 (st0.length+2) (by simp)
    obtain⟨a9,c9,rfl⟩:=Rw.shape hr1 (st0.length+2) (by simp)
    obtain⟨g8,rfl⟩:=Rw.some hr0 (by simp)
    obtain⟨g9,rfl⟩:=Rw.some hr1 (by simp)
    have d0:=Rw.cell hr0 st0.length (by simp)
    have d1:=Rw.cell hr0 (st0.length+1) (by simp)
    have d2:=Rw.cell hr1 st0.length (by simp)
    have d3:=Rw.cell hr1 (st0.length+1) (by simp)
    simp at d0 d1 d2 d3
    have t0:wr.ownsRow w.heap.size 3 1 (.slice (some ⟨g8,0,none⟩) st0.length c8) st0.length ((st0.map Prod.fst).flatMap dw):=by
     have h0:wr.ownsRow w.heap.size 3 1 (.slice (some ⟨g8,0,none⟩) (st0.length+2) c8) (st0.length+2) (((st0++[p,q]).map Prod.fst).flatMap dw):=by have:=hr0;unfold Rw at this;simpa using this
     have h1:=uh h0 st0.length (by omega);rw[List.map_append,List.flatMap_append,List.take_left' (by have:=flat_length JI (st0.map Prod.fst);simp only[List.length_map]at this;omega)]at h1;exact h1
    have t1:wr.ownsRow w.heap.size 3 1 (.slice (some ⟨g9,0,none⟩) st0.length c9) st0.length ((st0.map Prod.snd).flatMap dw):=by
     have h0:wr.ownsRow w.heap.size 3 1 (.slice (some ⟨g9,0,none⟩) (st0.length+2) c9) (st0.length+2) (((st0++[p,q]).map Prod.snd).flatMap dw):=by have:=hr1;unfold Rw at this;simpa using this
     have h1:=uh h0 st0.length (by omega);rw[List.map_append,List.flatMap_append,List.take_left' (by have:=flat_length JI (st0.map Prod.snd);simp only[List.length_map]at this;omega)]at h1;exact h1
    have hc8:st0.length+2<=c8:=by
     rcases hr0.2 with⟨h',_⟩|⟨g,cap',cur,h',_,_,hc,_⟩
     ·simp at h'
     ·simp at h' hc;omega
    have vI:st0.length+2<=c9:=by
     rcases hr1.2 with⟨h',_⟩|⟨g,cap',cur,h',_,_,hc,_⟩
     ·simp at h'
     ·simp at h' hc;omega
    have JV:Apart (.slice (some ⟨g8,0,none⟩) st0.length c8) (.slice (some ⟨g9,0,none⟩) st0.length c9):=λj h1 h2=>hap j h1 h2
    have jO:∀y,gJ x.1.kind p q=some y->Hid (dG (aO L) aC 0 []=dG (aO L) (aC.drop (k+1)) (k+1) (st0++[y]).reverse):=λy hy=>(show _=_ by
     rw[hgo0.out,hdrop];have e:(st0++[p,q]).reverse=q::p::st0.reverse:=by simp
     rw[e,CX (by omega) hk1 hy,List.reverse_append];rfl)
    have mX:gJ x.1.kind p q=none->Hid (RES=some (x.2,7)):=λhy=>(show _=_ by
     have e:(st0++[p,q]).reverse=q::p::st0.reverse:=by simp
     rw[<-JU.out,hgo0.out,hdrop,e,E5 (by omega) hk1 hy])
    have HJ:=Lib.hid (And.intro jO mX)
    have ac8:∀y∈st0,Sm y:=λy hy=>rX y (by simp[hy])
    obtain⟨⟨p1,p2,p3,p4⟩,q1,q2,q3,q4⟩:=hpq
    have F8:=cell_lt d0
    have F9:=cell_lt d2
    have e4:0<=(st0.length:Int)/\(st0.length:Int)<(st0.length:Int)+2:=by omega
    have e5:0<=(st0.length:Int)+1/\(st0.length:Int)+1<(st0.length:Int)+2:=by omega
    have e6:0<=(st0.length:Int)/\(st0.length:Int)<=(c8:Int):=by omega
    have e7:0<=(st0.length:Int)/\(st0.length:Int)<=(c9:Int):=by omega
    have e1:IntKind.i64.wrap ((st0.length:Int)+1)=(st0.length:Int)+1:=IntWalk.i64_in _ (by omega)
    have e2:((st0.length:Int)+1).toNat=st0.length+1:=by omega
    have e3:IntKind.i64.wrap ((st0.length:Int)+2-2)=(st0.length:Int):=by rw[show(st0.length:Int)+2-2=(st0.length:Int)by omega];exact IntWalk.i64_in _ (by omega)
    clear hst hgo0 qO hdrop jO mX hwl Fj rX hr0 hr1 hap hpx
    have W_:∀y,Sm y->∀z∈st0++[y],Sm z:=λy hy z hz=>by
     rcases List.mem_append.1 hz with hz|hz
     ·exact ac8 z hz
     ·simp at hz;subst hz;exact hy
    rcases hk1 with hk1|hk1
    ·have g15:(x.1.kind != 15)=false:=by simp[hk1]
     have ac9:(x.1.kind==15)=true:=by simp[hk1]
     have Gf:=Lib.hid hk1
     clear hk1
     go_wp2_with fail
     go_quiet (fail)
     obtain⟨W,hW⟩:∃W,W=(wr.alloc (.cells #[.int .i64 x.1.kind,.int .i64 x.1.value,.string x.1.name] 87)).drewN nq:=⟨_,rfl⟩
     rw[<-hW]
     have iG:Below wr.heap.size wr W:=by rw[hW];exact(aj wr (.cells #[.int .i64 x.1.kind,.int .i64 x.1.value,.string x.1.name] 87)).trans ((below_drewN (Below.refl (wr.alloc (.cells #[.int .i64 x.1.kind,.int .i64 x.1.value,.string x.1.name] 87)).heap.size (wr.alloc (.cells #[.int .i64 x.1.kind,.int .i64 x.1.value,.string x.1.name] 87))) nq).mono (by simp))
     have y0:W.cell? ⟨wr.heap.size,0,none⟩=some (.int .i64 x.1.kind):=by rw[hW];go_simp
     have hbW:Below w.heap.size w W:=hbel.trans (iG.mono hsz)
     have HR0:=bW iG t0
     have HR1:Rw W w.heap.size (.slice (some ⟨g9,0,none⟩) st0.length c9) (st0.map Prod.snd):=by unfold Rw;simpa using bW iG t1
     have oW:=JV
     replace d0:=ak iG d0
     replace d1:=ak iG d1
     replace d2:=ak iG d2
     replace d3:=ak iG d3
     replace ca:=ak iG ca
     replace F8:=cell_lt d0
     replace F9:=cell_lt d2
     replace zA:=cell_lt ca
     clear hW iG t0 t1 JV
     go_wp2_with fail
     by_cases DW:p.2=q.1
     ·have hjn:gJ x.1.kind p q=some (p.1,q.2):=by unfold gJ;rw[if_pos Gf.out,if_pos DW]
      have uH:=HJ.out.1 _ hjn
      have gne:(p.2 != q.1)=false:=by simp[DW]
      have ada:¬(12:Int)<p.1:=by omega
      have hq12:¬(12:Int)<q.2:=by omega
      have nP:Hid (f_ (aC.drop (k+1)) (st0++[(p.1,q.2)]).length=some 1):=(show _=_ by have h0:=Af.out;simpa using h0)
      have uI:=W_ (p.1,q.2) ⟨p1,p2,q3,q4⟩
      clear DW hjn HJ
      go_quiet (fail)
      obtain⟨W2,hW2⟩:∃W2,W2=W.drewN nq:=⟨_,rfl⟩
      rw[<-hW2]
      have hb5:Below W.heap.size W W2:=by rw[hW2];exact below_drewN (Below.refl _ _) nq
      replace y0:=ak hb5 y0
      replace HR0:=bW hb5 HR0
      replace HR1:=Rw.keep hb5 HR1
      replace hbW:Below w.heap.size w W2:=hbW.trans (hb5.mono hbW.size)
      replace d0:=ak hb5 d0
      replace d1:=ak hb5 d1
      replace d2:=ak hb5 d2
      replace d3:=ak hb5 d3
      replace ca:=ak hb5 ca
      replace F8:=cell_lt d0
      replace F9:=cell_lt d2
      replace zA:=cell_lt ca
      clear hW2 hb5
      go_wp2_with fail
      go_quiet (fail)
      obtain⟨W3,hW3⟩:∃W3,W3=W2.drewN nq:=⟨_,rfl⟩
      rw[<-hW3]
      have hb5:Below W2.heap.size W2 W3:=by rw[hW3];exact below_drewN (Below.refl _ _) nq
      replace y0:=ak hb5 y0
      replace HR0:=bW hb5 HR0
      replace HR1:=Rw.keep hb5 HR1
      replace hbW:Below w.heap.size w W3:=hbW.trans (hb5.mono hbW.size)
      replace d0:=ak hb5 d0
      replace d1:=ak hb5 d1
      replace d2:=ak hb5 d2
      replace d3:=ak hb5 d3
      replace ca:=ak hb5 ca
      replace F8:=cell_lt d0
      replace F9:=cell_lt d2
      replace zA:=cell_lt ca
      clear hW3 hb5
      have Bd:=hbW.size
      go_wp2_with (at_builtin;refine oK rfl (.tmp 143) (.tmp 145) 130 rfl w.heap.size 3 i0 _ 1 8 Tryz.underlying130 hi hz0 hz1 hz2 rfl (by decide) (.slice (some ⟨g8,0,none⟩) st0.length c8) st0.length ((st0.map Prod.fst).flatMap dw) rfl (bW (aj _ _) HR0) (.slice (some ⟨W3.heap.size,0,none⟩) 1 1) 1 (dw (p.1)) rfl ?d1 ?d2 (by unfold maxLen;omega) (by omega) (by simp;omega) ?_)
      case d1 =>
       refine⟨rfl,.inr ⟨_,1,rfl,?_⟩⟩
       intro j u hj
       match j,hj with
       | 0,hj=>simp[dw]at hj;subst hj;simp[Addr.add]
      case d2=>intro u hu;simp[dw]at hu;subst hu;rfl
      intro v5 w5 hown5 hgr5 dZ
      have h5:Rw w5 w.heap.size v5 ((st0.map Prod.fst)++[p.1]):=by
       unfold Rw;rw[List.length_append,List.flatMap_append];simpa using hown5
      have oZ:Rw w5 w.heap.size (.slice (some ⟨g9,0,none⟩) st0.length c9) (st0.map Prod.snd):=Rw.grown (Rw.keep (aj W3 (.cells #[.int .i64 (p.1)] 3)) HR1) hgr5 (λk hk e=>oW k e hk)
      have mZ:Apart v5 (.slice (some ⟨g9,0,none⟩) st0.length c9):=qp oW (Rw.keep (aj W3 (.cells #[.int .i64 (p.1)] 3)) HR1) (by simpa using dZ)
      obtain⟨a5,c5,rfl⟩:=Rw.shape h5 (st0.length+1) (by simp)
      have hb5:Below w.heap.size W3 w5:=((aj W3 (.cells #[.int .i64 (p.1)] 3)).mono Bd).grown hgr5 (by simp;omega) (λj hj=>(World.ownsRow.lt HR0 j hj).1)
      have vW:=hb5.size
      clear hown5 hgr5 dZ
      go_wp2_with (at_builtin;refine oK rfl (.tmp 149) (.tmp 151) 130 rfl w.heap.size 3 i0 _ 1 8 Tryz.underlying130 hi hz0 hz1 hz2 rfl (by decide) (.slice (some ⟨g9,0,none⟩) st0.length c9) st0.length ((st0.map Prod.snd).flatMap dw) rfl (bW (aj _ _) (show w5.ownsRow w.heap.size 3 1 (.slice (some ⟨g9,0,none⟩) st0.length c9) st0.length ((st0.map Prod.snd).flatMap dw)by have:=oZ;unfold Rw at this;simpa using this)) (.slice (some ⟨w5.heap.size,0,none⟩) 1 1) 1 (dw (q.2)) rfl ?d1 ?d2 (by unfold maxLen;omega) (by omega) (by simp;omega) ?_)
      case d1 =>
       refine⟨rfl,.inr ⟨_,1,rfl,?_⟩⟩
       intro j u hj
       match j,hj with
       | 0,hj=>simp[dw]at hj;subst hj;simp[Addr.add]
      case d2=>intro u hu;simp[dw]at hu;subst hu;rfl
      intro v6 w6 hown6 lN dK
      have h6:Rw w6 w.heap.size v6 ((st0.map Prod.snd)++[q.2]):=by
       unfold Rw;rw[List.length_append,List.flatMap_append];simpa using hown6
      have h65:Rw w6 w.heap.size (.slice a5 (st0.length+1) c5) ((st0.map Prod.fst)++[p.1]):=Rw.grown (Rw.keep (aj w5 (.cells #[.int .i64 (q.2)] 3)) h5) lN (λk hk e=>mZ k hk e)
      have uJ:Apart (.slice a5 (st0.length+1) c5) v6:=(qp mZ.symm (Rw.keep (aj w5 (.cells #[.int .i64 (q.2)] 3)) h5) (by simpa using dK)).symm
      have hb6:Below w.heap.size w5 w6:=((aj w5 (.cells #[.int .i64 (q.2)] 3)).mono (by omega)).grown lN (by simp;omega) (λj hj=>(World.ownsRow.lt oZ j hj).1)
      have gW:F7 (aO L) aC w w6 (.slice a5 (st0.length+1) c5) v6 (k+1) (st0++[(p.1,q.2)]):=⟨by simpa using h65,by simpa using h6,uJ,hbW.trans (hb5.trans hb6),uI,uH,nP,by simp;omega⟩
      clear hown6 lN dK h6 h65 uJ hb6 h5 oZ mZ hb5 HR0 HR1 oW hbW uH nP uI
      go_wp2
      go_roundw
      case rel=>exact⟨k+1,_,by omega,by go_num,gW⟩
      case measure=>simp[intOf];omega
     ·have HT:=HJ.out.2 (by unfold gJ;rw[if_pos Gf.out,if_neg DW])
      have gne:(p.2 != q.1)=true:=by simp[DW]
      clear DW HJ
      go_quiet (fail)
      obtain⟨W2,hW2⟩:∃W2,W2=W.drewN nq:=⟨_,rfl⟩
      rw[<-hW2]
      have hb5:Below W.heap.size W W2:=by rw[hW2];exact below_drewN (Below.refl _ _) nq
      replace y0:=ak hb5 y0
      replace HR0:=bW hb5 HR0
      replace HR1:=Rw.keep hb5 HR1
      replace hbW:Below w.heap.size w W2:=hbW.trans (hb5.mono hbW.size)
      replace d0:=ak hb5 d0
      replace d1:=ak hb5 d1
      replace d2:=ak hb5 d2
      replace d3:=ak hb5 d3
      replace ca:=ak hb5 ca
      replace F8:=cell_lt d0
      replace F9:=cell_lt d2
      replace zA:=cell_lt ca
      clear hW2 hb5
      go_wp2
      go_ret2
      exact⟨by rw[HT.out];rfl,hbW⟩
    ·have g15:(x.1.kind != 15)=true:=by simp[hk1]
     have g16:(x.1.kind != 16)=false:=by simp[hk1]
     have ac9:(x.1.kind==15)=false:=by simp[hk1]
     have Gf:Hid (x.1.kind≠15):=(show _≠_ by omega)
     clear hk1
     go_wp2_with fail
     go_quiet (fail)
     obtain⟨W,hW⟩:∃W,W=(wr.alloc (.cells #[.int .i64 x.1.kind,.int .i64 x.1.value,.string x.1.name] 87)).drewN nq:=⟨_,rfl⟩
     rw[<-hW]
     have iG:Below wr.heap.size wr W:=by rw[hW];exact(aj wr (.cells #[.int .i64 x.1.kind,.int .i64 x.1.value,.string x.1.name] 87)).trans ((below_drewN (Below.refl (wr.alloc (.cells #[.int .i64 x.1.kind,.int .i64 x.1.value,.string x.1.name] 87)).heap.size (wr.alloc (.cells #[.int .i64 x.1.kind,.int .i64 x.1.value,.string x.1.name] 87))) nq).mono (by simp))
     have y0:W.cell? ⟨wr.heap.size,0,none⟩=some (.int .i64 x.1.kind):=by rw[hW];go_simp
     have hbW:Below w.heap.size w W:=hbel.trans (iG.mono hsz)
     have HR0:=bW iG t0
     have HR1:Rw W w.heap.size (.slice (some ⟨g9,0,none⟩) st0.length c9) (st0.map Prod.snd):=by unfold Rw;simpa using bW iG t1
     have oW:=JV
     replace d0:=ak iG d0
     replace d1:=ak iG d1
     replace d2:=ak iG d2
     replace d3:=ak iG d3
     replace ca:=ak iG ca
     replace F8:=cell_lt d0
     replace F9:=cell_lt d2
     replace zA:=cell_lt ca
     clear hW iG t0 t1 JV
     by_cases h12:p.1+q.1<=12/\p.2+q.2<=12
     ·have hjn:gJ x.1.kind p q=some (p.1+q.1,p.2+q.2):=by unfold gJ;rw[if_neg Gf.out,if_pos h12]
      have uH:=HJ.out.1 _ hjn
      have ada:¬(12:Int)<p.1+q.1:=by omega
      have hq12:¬(12:Int)<p.2+q.2:=by omega
      have nP:Hid (f_ (aC.drop (k+1)) (st0++[(p.1+q.1,p.2+q.2)]).length=some 1):=(show _=_ by have h0:=Af.out;simpa using h0)
      have uI:=W_ (p.1+q.1,p.2+q.2) ⟨by simp;omega,h12.1,by simp;omega,h12.2⟩
      clear h12 hjn HJ
      have Bd:=hbW.size
      go_wp2_with (at_builtin;refine oK rfl (.tmp 143) (.tmp 145) 130 rfl w.heap.size 3 i0 _ 1 8 Tryz.underlying130 hi hz0 hz1 hz2 rfl (by decide) (.slice (some ⟨g8,0,none⟩) st0.length c8) st0.length ((st0.map Prod.fst).flatMap dw) rfl (bW (aj _ _) HR0) (.slice (some ⟨W.heap.size,0,none⟩) 1 1) 1 (dw (p.1+q.1)) rfl ?d1 ?d2 (by unfold maxLen;omega) (by omega) (by simp;omega) ?_)
      case d1 =>
       refine⟨rfl,.inr ⟨_,1,rfl,?_⟩⟩
       intro j u hj
       match j,hj with
       | 0,hj=>simp[dw]at hj;subst hj;simp[Addr.add]
      case d2=>intro u hu;simp[dw]at hu;subst hu;rfl
      intro v5 w5 hown5 hgr5 dZ
      have h5:Rw w5 w.heap.size v5 ((st0.map Prod.fst)++[p.1+q.1]):=by
       unfold Rw;rw[List.length_append,List.flatMap_append];simpa using hown5
      have oZ:Rw w5 w.heap.size (.slice (some ⟨g9,0,none⟩) st0.length c9) (st0.map Prod.snd):=Rw.grown (Rw.keep (aj W (.cells #[.int .i64 (p.1+q.1)] 3)) HR1) hgr5 (λk hk e=>oW k e hk)
      have mZ:Apart v5 (.slice (some ⟨g9,0,none⟩) st0.length c9):=qp oW (Rw.keep (aj W (.cells #[.int .i64 (p.1+q.1)] 3)) HR1) (by simpa using dZ)
      obtain⟨a5,c5,rfl⟩:=Rw.shape h5 (st0.length+1) (by simp)
      have hb5:Below w.heap.size W w5:=((aj W (.cells #[.int .i64 (p.1+q.1)] 3)).mono Bd).grown hgr5 (by simp;omega) (λj hj=>(World.ownsRow.lt HR0 j hj).1)
      have vW:=hb5.size
      clear hown5 hgr5 dZ
      go_wp2_with (at_builtin;refine oK rfl (.tmp 149) (.tmp 151) 130 rfl w.heap.size 3 i0 _ 1 8 Tryz.underlying130 hi hz0 hz1 hz2 rfl (by decide) (.slice (some ⟨g9,0,none⟩) st0.length c9) st0.length ((st0.map Prod.snd).flatMap dw) rfl (bW (aj _ _) (show w5.ownsRow w.heap.size 3 1 (.slice (some ⟨g9,0,none⟩) st0.length c9) st0.length ((st0.map Prod.snd).flatMap dw)by have:=oZ;unfold Rw at this;simpa using this)) (.slice (some ⟨w5.heap.size,0,none⟩) 1 1) 1 (dw (p.2+q.2)) rfl ?d1 ?d2 (by unfold maxLen;omega) (by omega) (by simp;omega) ?_)
      case d1 =>
       refine⟨rfl,.inr ⟨_,1,rfl,?_⟩⟩
       intro j u hj
       match j,hj with
       | 0,hj=>simp[dw]at hj;subst hj;simp[Addr.add]
      case d2=>intro u hu;simp[dw]at hu;subst hu;rfl
      intro v6 w6 hown6 lN dK
      have h6:Rw w6 w.heap.size v6 ((st0.map Prod.snd)++[p.2+q.2]):=by
       unfold Rw;rw[List.length_append,List.flatMap_append];simpa using hown6
      have h65:Rw w6 w.heap.size (.slice a5 (st0.length+1) c5) ((st0.map Prod.fst)++[p.1+q.1]):=Rw.grown (Rw.keep (aj w5 (.cells #[.int .i64 (p.2+q.2)] 3)) h5) lN (λk hk e=>mZ k hk e)
      have uJ:Apart (.slice a5 (st0.length+1) c5) v6:=(qp mZ.symm (Rw.keep (aj w5 (.cells #[.int .i64 (p.2+q.2)] 3)) h5) (by simpa using dK)).symm
      have hb6:Below w.heap.size w5 w6:=((aj w5 (.cells #[.int .i64 (p.2+q.2)] 3)).mono (by omega)).grown lN (by simp;omega) (λj hj=>(World.ownsRow.lt oZ j hj).1)
      have gW:F7 (aO L) aC w w6 (.slice a5 (st0.length+1) c5) v6 (k+1) (st0++[(p.1+q.1,p.2+q.2)]):=⟨by simpa using h65,by simpa using h6,uJ,hbW.trans (hb5.trans hb6),uI,uH,nP,by simp;omega⟩
      clear hown6 lN dK h6 h65 uJ hb6 h5 oZ mZ hb5 HR0 HR1 oW hbW uH nP uI
      go_wp2
      go_roundw
      case rel=>exact⟨k+1,_,by omega,by go_num,gW⟩
      case measure=>simp[intOf];omega
     ·have HT:=HJ.out.2 (by unfold gJ;rw[if_neg Gf.out,if_neg h12])
      have hcs:(12:Int)<p.1+q.1\/(¬(12:Int)<p.1+q.1/\(12:Int)<p.2+q.2):=by omega
      clear h12 HJ
      rcases hcs with h12|⟨h12,h13⟩
      all_goals
       go_wp2
       go_ret2
       exact⟨by rw[HT.out];rfl,hbW⟩
   ·have g15:(x.1.kind != 15)=true:=by simp;omega
    have g16:(x.1.kind != 16)=true:=by simp;omega
    have nP:Hid (f_ (aC.drop (k+1)) (st.length+1)=some 1):=(show _=_ by
     have h0:=qO.out;rw[hdrop]at h0;unfold f_ at h0;rwa [if_neg hk1]at h0)
    have hr0:=hst.r0
    have hr1:=hst.r1
    have hap:=hst.ap
    obtain⟨a8,c8,rfl⟩:=Rw.shape hr0 st.length (by simp)
    obtain⟨a9,c9,rfl⟩:=Rw.shape hr1 st.length (by simp)
    have JW:wr.ownsRow w.heap.size 3 1 (.slice a8 st.length c8) st.length ((st.map Prod.fst).flatMap dw):=by have:=hr0;unfold Rw at this;simpa using this
    have Xa:wr.ownsRow w.heap.size 3 1 (.slice a9 st.length c9) st.length ((st.map Prod.snd).flatMap dw):=by have:=hr1;unfold Rw at this;simpa using this
    have Gg:∀y:W2,aO L x.1=some y->Hid (dG (aO L) aC 0 []=dG (aO L) (aC.drop (k+1)) (k+1) (st++[y]).reverse):=λy hy=>(show _=_ by
     rw[hgo0.out,hdrop,CY (by omega) hk1 hy,List.reverse_append];rfl)
    have Xb:aO L x.1=none->Hid (RES=some (x.2,if x.1.kind=17 then 5 else 6)):=λhy=>(show _=_ by rw[<-JU.out,hgo0.out,hdrop,CZ (by omega) hk1 hy])
    have zk:=Lib.hid (And.intro Gg Xb)
    have Af:=nP
    clear hst hgo0 qO hdrop Gg Xb hk1 nP
    by_cases h17:x.1.kind=17
    ·have hlf:=ac5 (L:=L) h17 (hpx.val h17)
     have g17:(x.1.kind==17)=true:=by simp[h17]
     rcases oO x.1.name L 0 with⟨f1,f2⟩|⟨i,hi2,f1,f2⟩
     ·have HT:Hid (RES=some (x.2,5)):=(show _=_ by have:=zk.out.2 (by rw[hlf,f2];rfl);rw[this.out,if_pos h17])
      have HF:=Lib.hid f1
      clear f1 f2 hlf h17 hpx zk
      go_wp2_with (go_at_call 96;refine(nN _ L _ _ (hv.keep (hbel.alloc hsz _)) hn).mono ?_;rintro e w3⟨rfl,hb3⟩;rw[HF.out];have ya:=ak hb3 (jy ca _);have z3:=hb3.size;simp only[World.size_alloc]at z3)
      go_ret2
      exact⟨by rw[HT.out];rfl,(hbel.alloc (by omega) _).trans (hb3.mono (by simp;omega))⟩
     ·rw[Nat.zero_add]at f1
      have uH:=zk.out.1 (L[i].inn,L[i].out) (by rw[hlf,f2];rfl)
      have hsx:=hsm L[i] (List.getElem_mem _)
      have HF:=Lib.hid f1
      have hi3:¬((i:Int)<0):=by omega
      have hiL:(i:Int)<L.length:=by omega
      have hi0:(0:Int)<=i:=by omega
      clear f1 f2 hlf h17 hpx zk
      obtain⟨aL,adb,Xc,hcL,Bf⟩:=id hv
      obtain⟨bL,oL,rfl,_,hdL⟩:=Bf i hi2
      simp only[Value.slice.injEq]at Xc
      obtain⟨rfl,_,rfl⟩:=Xc
      clear Bf
      go_wp2_with (go_at_call 96;refine(nN _ L _ _ (hv.keep (hbel.alloc hsz _)) hn).mono ?_;rintro e w3⟨rfl,hb3⟩;rw[HF.out];have z3:=hb3.size;simp only[World.size_alloc]at z3;obtain⟨l0,l1,l2,_⟩:=(hdL.keep (hbel.alloc hsz (.cells #[.int .i64 x.1.kind,.int .i64 x.1.value,.string x.1.name] 87))).keep hb3)
      go_quiet (fail)
      have hb4:Below w3.heap.size w3 (w3.drewN nq):=below_drewN (Below.refl w3.heap.size w3) nq
      obtain⟨W,hW⟩:∃W,W=w3.drewN nq:=⟨_,rfl⟩
      rw[<-hW]at hb4 ⊢
      have iG:Below wr.heap.size wr W:=(aj wr (.cells #[.int .i64 x.1.kind,.int .i64 x.1.value,.string x.1.name] 87)).trans ((hb3.trans (hb4.mono (by simpa using z3))).mono (by simp))
      have hbW:Below w.heap.size w W:=hbel.trans (iG.mono hsz)
      have HR0:=bW iG JW
      have HR1:Rw W w.heap.size (.slice a9 st.length c9) (st.map Prod.snd):=Rw.keep iG hr1
      have oW:=hap
      have nP:=Af
      rw[show st.length+1=(st++[(L[i].inn,L[i].out)]).length by simp]at nP
      have uI:∀y∈st++[(L[i].inn,L[i].out)],Sm y:=λy hy=>by
       rcases List.mem_append.1 hy with hy|hy
       ·exact rX y hy
       ·simp at hy;subst hy;exact hsx
      clear hW hb3 hb4 iG l0 l1 l2 hr0 hr1 JW Xa hap
      have Bd:=hbW.size
      go_wp2_with (at_builtin;refine oK rfl (.tmp 74) (.tmp 76) 130 rfl w.heap.size 3 i0 _ 1 8 Tryz.underlying130 hi hz0 hz1 hz2 rfl (by decide) (.slice a8 st.length c8) st.length ((st.map Prod.fst).flatMap dw) rfl (bW (aj _ _) HR0) (.slice (some ⟨W.heap.size,0,none⟩) 1 1) 1 (dw (L[i].inn)) rfl ?d1 ?d2 (by unfold maxLen;omega) (by omega) (by simp;omega) ?_)
      case d1 =>
       refine⟨rfl,.inr ⟨_,1,rfl,?_⟩⟩
       intro j u hj
       match j,hj with
       | 0,hj=>simp[dw]at hj;subst hj;simp[Addr.add]
      case d2=>intro u hu;simp[dw]at hu;subst hu;rfl
      intro v5 w5 hown5 hgr5 dZ
      have h5:Rw w5 w.heap.size v5 ((st.map Prod.fst)++[L[i].inn]):=by
       unfold Rw;rw[List.length_append,List.flatMap_append];simpa using hown5
      have oZ:Rw w5 w.heap.size (.slice a9 st.length c9) (st.map Prod.snd):=Rw.grown (Rw.keep (aj W (.cells #[.int .i64 (L[i].inn)] 3)) HR1) hgr5 (λk hk e=>oW k e hk)
      have mZ:Apart v5 (.slice a9 st.length c9):=qp oW (Rw.keep (aj W (.cells #[.int .i64 (L[i].inn)] 3)) HR1) (by simpa using dZ)
      obtain⟨a5,c5,rfl⟩:=Rw.shape h5 (st.length+1) (by simp)
      have hb5:Below w.heap.size W w5:=((aj W (.cells #[.int .i64 (L[i].inn)] 3)).mono Bd).grown hgr5 (by simp;omega) (λj hj=>(World.ownsRow.lt HR0 j hj).1)
      have vW:=hb5.size
      clear hown5 hgr5 dZ
      go_wp2_with (at_builtin;refine oK rfl (.tmp 78) (.tmp 80) 130 rfl w.heap.size 3 i0 _ 1 8 Tryz.underlying130 hi hz0 hz1 hz2 rfl (by decide) (.slice a9 st.length c9) st.length ((st.map Prod.snd).flatMap dw) rfl (bW (aj _ _) (show w5.ownsRow w.heap.size 3 1 (.slice a9 st.length c9) st.length ((st.map Prod.snd).flatMap dw)by have:=oZ;unfold Rw at this;simpa using this)) (.slice (some ⟨w5.heap.size,0,none⟩) 1 1) 1 (dw (L[i].out)) rfl ?d1 ?d2 (by unfold maxLen;omega) (by omega) (by simp;omega) ?_)
      case d1 =>
       refine⟨rfl,.inr ⟨_,1,rfl,?_⟩⟩
       intro j u hj
       match j,hj with
       | 0,hj=>simp[dw]at hj;subst hj;simp[Addr.add]
      case d2=>intro u hu;simp[dw]at hu;subst hu;rfl
      intro v6 w6 hown6 lN dK
      have h6:Rw w6 w.heap.size v6 ((st.map Prod.snd)++[L[i].out]):=by
       unfold Rw;rw[List.length_append,List.flatMap_append];simpa using hown6
      have h65:Rw w6 w.heap.size (.slice a5 (st.length+1) c5) ((st.map Prod.fst)++[L[i].inn]):=Rw.grown (Rw.keep (aj w5 (.cells #[.int .i64 (L[i].out)] 3)) h5) lN (λk hk e=>mZ k hk e)
      have uJ:Apart (.slice a5 (st.length+1) c5) v6:=(qp mZ.symm (Rw.keep (aj w5 (.cells #[.int .i64 (L[i].out)] 3)) h5) (by simpa using dK)).symm
      have hb6:Below w.heap.size w5 w6:=((aj w5 (.cells #[.int .i64 (L[i].out)] 3)).mono (by omega)).grown lN (by simp;omega) (λj hj=>(World.ownsRow.lt oZ j hj).1)
      have gW:F7 (aO L) aC w w6 (.slice a5 (st.length+1) c5) v6 (k+1) (st++[(L[i].inn,L[i].out)]):=⟨by simpa using h65,by simpa using h6,uJ,hbW.trans (hb5.trans hb6),uI,uH,nP,by simp;omega⟩
      clear hown6 lN dK h6 h65 uJ hb6 h5 oZ mZ hb5 HR0 HR1 oW hbW uH nP uI
      go_wp2
      go_roundw
      case rel=>exact⟨k+1,_,by omega,by go_num,gW⟩
      case measure=>simp[intOf];omega
    ·have hlf:=ac6 (L:=L) h17
     have g17:(x.1.kind==17)=false:=by simp[h17]
     cases hlB:gB x.1
     ·have HT:Hid (RES=some (x.2,6)):=(show _=_ by have:=zk.out.2 (by rw[hlf,hlB];rfl);rw[this.out,if_neg h17])
      have HF:=Lib.hid hlB
      clear hlB hlf h17 hpx zk
      go_wp2_with (go_at_call 144;refine(qh x.1 _).mono ?_;rintro e w3⟨rfl,hb3⟩;rw[HF.out];have ya:=ak hb3 (jy ca _);have z3:=hb3.size;simp only[World.size_alloc]at z3)
      go_ret2
      exact⟨by rw[HT.out];rfl,(hbel.alloc (by omega) _).trans (hb3.mono (by simp;omega))⟩
     ·have uH:=zk.out.1 (fH x.1) (by rw[hlf,hlB];rfl)
      have hsx:=Xd hlB
      have HF:=Lib.hid hlB
      clear hlB hlf h17 hpx zk
      go_wp2_with (first|(go_at_call 144;refine(qh x.1 _).mono ?_;rintro e w3⟨rfl,hb3⟩;rw[HF.out];have z3:=hb3.size;simp only[World.size_alloc]at z3;have y0:=ak hb3 (show(wr.alloc (.cells #[.int .i64 x.1.kind,.int .i64 x.1.value,.string x.1.name] 87)).cell? ⟨wr.heap.size,0,none⟩=some (.int .i64 x.1.kind)by simp);have y1:=ak hb3 (show(wr.alloc (.cells #[.int .i64 x.1.kind,.int .i64 x.1.value,.string x.1.name] 87)).cell? ⟨wr.heap.size,1,none⟩=some (.int .i64 x.1.value)by simp);have y2:=ak hb3 (show(wr.alloc (.cells #[.int .i64 x.1.kind,.int .i64 x.1.value,.string x.1.name] 87)).cell? ⟨wr.heap.size,2,none⟩=some (.string x.1.name)by simp))|(go_at_call 134;refine(DR x.1 _).mono ?_;rintro e W⟨rfl,hb4⟩;have iG:Below wr.heap.size wr W:=(aj wr (.cells #[.int .i64 x.1.kind,.int .i64 x.1.value,.string x.1.name] 87)).trans ((hb3.trans (hb4.mono (by simpa using z3))).mono (by simp));have hbW:Below w.heap.size w W:=hbel.trans (iG.mono hsz);have HR0:=bW iG JW;have HR1:Rw W w.heap.size (.slice a9 st.length c9) (st.map Prod.snd):=Rw.keep iG hr1;have oW:=hap;clear hb3 hb4 iG y0 y1 y2 z3 hr0 hr1 JW Xa hap;have Bd:=hbW.size)|(at_builtin;refine oK rfl (.tmp 74) (.tmp 76) 130 rfl w.heap.size 3 i0 _ 1 8 Tryz.underlying130 hi hz0 hz1 hz2 rfl (by decide) (.slice a8 st.length c8) st.length ((st.map Prod.fst).flatMap dw) rfl (bW (aj _ _) HR0) (.slice (some ⟨W.heap.size,0,none⟩) 1 1) 1 (dw ((fH x.1).1)) rfl ?d1 ?d2 (by unfold maxLen;omega) (by omega) (by simp;omega) ?_))
      case d1 =>
       refine⟨rfl,.inr ⟨_,1,rfl,?_⟩⟩
       intro j u hj
       match j,hj with
       | 0,hj=>simp[dw]at hj;subst hj;simp[Addr.add]
      case d2=>intro u hu;simp[dw]at hu;subst hu;rfl
      have nP:=Af
      rw[show st.length+1=(st++[fH x.1]).length by simp]at nP
      have uI:∀y∈st++[((fH x.1).1,(fH x.1).2)],Sm y:=λy hy=>by
       rcases List.mem_append.1 hy with hy|hy
       ·exact rX y hy
       ·simp at hy;subst hy;exact hsx
      intro v5 w5 hown5 hgr5 dZ
      have h5:Rw w5 w.heap.size v5 ((st.map Prod.fst)++[(fH x.1).1]):=by
       unfold Rw;rw[List.length_append,List.flatMap_append];simpa using hown5
      have oZ:Rw w5 w.heap.size (.slice a9 st.length c9) (st.map Prod.snd):=Rw.grown (Rw.keep (aj W (.cells #[.int .i64 ((fH x.1).1)] 3)) HR1) hgr5 (λk hk e=>oW k e hk)
      have mZ:Apart v5 (.slice a9 st.length c9):=qp oW (Rw.keep (aj W (.cells #[.int .i64 ((fH x.1).1)] 3)) HR1) (by simpa using dZ)
      obtain⟨a5,c5,rfl⟩:=Rw.shape h5 (st.length+1) (by simp)
      have hb5:Below w.heap.size W w5:=((aj W (.cells #[.int .i64 ((fH x.1).1)] 3)).mono Bd).grown hgr5 (by simp;omega) (λj hj=>(World.ownsRow.lt HR0 j hj).1)
      have vW:=hb5.size
      clear hown5 hgr5 dZ
      go_wp2_with (at_builtin;refine oK rfl (.tmp 78) (.tmp 80) 130 rfl w.heap.size 3 i0 _ 1 8 Tryz.underlying130 hi hz0 hz1 hz2 rfl (by decide) (.slice a9 st.length c9) st.length ((st.map Prod.snd).flatMap dw) rfl (bW (aj _ _) (show w5.ownsRow w.heap.size 3 1 (.slice a9 st.length c9) st.length ((st.map Prod.snd).flatMap dw)by have:=oZ;unfold Rw at this;simpa using this)) (.slice (some ⟨w5.heap.size,0,none⟩) 1 1) 1 (dw ((fH x.1).2)) rfl ?d1 ?d2 (by unfold maxLen;omega) (by omega) (by simp;omega) ?_)
      case d1 =>
       refine⟨rfl,.inr ⟨_,1,rfl,?_⟩⟩
       intro j u hj
       match j,hj with
       | 0,hj=>simp[dw]at hj;subst hj;simp[Addr.add]
      case d2=>intro u hu;simp[dw]at hu;subst hu;rfl
      intro v6 w6 hown6 lN dK
      have h6:Rw w6 w.heap.size v6 ((st.map Prod.snd)++[(fH x.1).2]):=by
       unfold Rw;rw[List.length_append,List.flatMap_append];simpa using hown6
      have h65:Rw w6 w.heap.size (.slice a5 (st.length+1) c5) ((st.map Prod.fst)++[(fH x.1).1]):=Rw.grown (Rw.keep (aj w5 (.cells #[.int .i64 ((fH x.1).2)] 3)) h5) lN (λk hk e=>mZ k hk e)
      have uJ:Apart (.slice a5 (st.length+1) c5) v6:=(qp mZ.symm (Rw.keep (aj w5 (.cells #[.int .i64 ((fH x.1).2)] 3)) h5) (by simpa using dK)).symm
      have hb6:Below w.heap.size w5 w6:=((aj w5 (.cells #[.int .i64 ((fH x.1).2)] 3)).mono (by omega)).grown lN (by simp;omega) (λj hj=>(World.ownsRow.lt oZ j hj).1)
      have gW:F7 (aO L) aC w w6 (.slice a5 (st.length+1) c5) v6 (k+1) (st++[((fH x.1).1,(fH x.1).2)]):=⟨by simpa using h65,by simpa using h6,uJ,hbW.trans (hb5.trans hb6),uI,uH,nP,by simp;omega⟩
      clear hown6 lN dK h6 h65 uJ hb6 h5 oZ mZ hb5 HR0 HR1 oW hbW uH nP uI
      go_wp2
      go_roundw
      case rel=>exact⟨k+1,_,by omega,by go_num,gW⟩
      case measure=>simp[intOf];omega
  ·go_wp2
   go_ret2
   have hT:RES=none:=by rw[<-JU.out,hst.hgo.out,List.drop_eq_nil_of_le (by omega)];rfl
   exact⟨by rw[hT];rfl,hbel⟩
end Go.Proofs.YtikgblkfmpecfaaGreatDoor
