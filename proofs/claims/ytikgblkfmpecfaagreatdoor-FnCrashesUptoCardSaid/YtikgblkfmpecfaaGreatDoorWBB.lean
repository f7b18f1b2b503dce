/-
  The program's parser: its state, and its small methods. Own work.
-/
import Derived.Test.YtikgblkfmpecfaaGreatDoorWAA
import Derived.Test.YtikgblkfmpecfaaGreatDoorWC
import Derived.Test.YtikgblkfmpecfaaGreatDoorWB
import Derived.Test.YtikgblkfmpecfaaGreatDoorWT
set_option linter.all false
set_option maxRecDepth 100000
set_option maxHeartbeats 8000000
namespace Go.Proofs.YtikgblkfmpecfaaGreatDoor
open Go.RowKit
def Dl (w:World) (t:Tk) (b o:Nat):Prop :=
 w.cell? ⟨b,o,none⟩=some (.int .i64 t.kind)/\w.cell? ⟨b,o+1,none⟩=some (.string t.text)/\w.cell? ⟨b,o+2,none⟩=some (.int .i64 t.pos)
def kZ (w:World) (v:Value) (ts:List Tk):Prop:=fA ts/\iT 3 v ts.length λi b o=>∃h:i<ts.length,Dl w ts[i] b o
theorem Dl.keep {w w':World} (hb:Below w.heap.size w w') {t:Tk} {b o:Nat} (h:Dl w t b o):Dl w' t b o:=⟨ak hb h.1,ak hb h.2.1,ak hb h.2.2⟩
theorem kZ.keep {w w':World} (hb:Below w.heap.size w w') {v:Value} {ts:List Tk} (h:kZ w v ts):kZ w' v ts :=
 ⟨h.1,iT.mono h.2 λ_ _ _ ⟨hi,r⟩=>⟨hi,r.keep hb⟩⟩
theorem kZ.shape {w:World} {v:Value} {ts:List Tk} (h:kZ w v ts):∃a c,v=.slice a ts.length c/\ts.length<=c:=by
 obtain⟨_,a,cap,rfl,hc,_⟩:=h;exact⟨a,cap,rfl,hc⟩
theorem kZ.head {w:World} {v:Value} {t:Tk} {r:List Tk} (h:kZ w v (t::r)):∃b o c,v=.slice (some ⟨b,o,none⟩) (r.length+1) c/\r.length+1<=c/\Dl w t b o:=by
 obtain⟨_,a,cap,rfl,hc,hat⟩:=h;obtain⟨b,o,rfl,hi,hr⟩:=hat 0 (by simp);exact⟨b,o,cap,rfl,by simpa using hc,by simpa using hr⟩
theorem kZ.tail {w:World} {b o c:Nat} {t:Tk} {r:List Tk} (h:kZ w (.slice (some ⟨b,o,none⟩) (r.length+1) c) (t::r)) (a:Option Addr) (ha:r≠[]->a=some ⟨b,o+3,none⟩):kZ w (.slice a r.length (c-1)) r:=by
 obtain⟨hok,a',cap,he,hc,hat⟩:=h;simp only[Value.slice.injEq,List.length_cons]at he hc;obtain⟨rfl,_,rfl⟩:=he;refine⟨hok.tail,a,_,rfl,by omega,λi hi=>?_⟩;have hne:r≠[]:=by rintro rfl;simp at hi
 obtain⟨b',o',e,hi',hr⟩:=hat (i+1) (by simp;omega)
 simp only[Option.some.injEq,Addr.mk.injEq,and_true]at e;obtain⟨rfl,rfl⟩:=e;refine⟨b,o+3,ha hne,hi,?_⟩;rw[show o+3+i*3=o+(i+1)*3 by omega];simpa using hr
def iV (x:Nd×Int):List Value:=[.int .i64 x.1.kind,.int .i64 x.1.value,.string x.1.name,.int .i64 x.2]
theorem aa9 (x:Nd×Int):(iV x).length=4:=rfl
structure Fr (B br:Nat) (w w':World):Prop where
 os:w'.os=w.os
 tape:w'.tape=w.tape
 output:w'.output=w.output
 size:w.heap.size<=w'.heap.size
 block:∀k,k<B->k≠br->w'.heap[k]?=w.heap[k]?
theorem Fr.refl (B br:Nat) (w:World):Fr B br w w:=⟨rfl,rfl,rfl,Nat.le_refl _,λ_ _ _=>rfl⟩
theorem Fr.trans {B br:Nat} {w w1 w2:World} (h:Fr B br w w1) (h':Fr B br w1 w2):Fr B br w w2 :=
 ⟨h'.os.trans h.os,h'.tape.trans h.tape,h'.output.trans h.output,Nat.le_trans h.size h'.size,λk hk hn=>(h'.block k hk hn).trans (h.block k hk hn)⟩
theorem Fr.below {B br:Nat} {w w':World} (hB:B<=w.heap.size) (h:Below w.heap.size w w'):Fr B br w w' :=
 ⟨h.os,h.tape,h.output,h.size,λk hk _=>h.block k (by omega)⟩
theorem Fr.exc {B br:Nat} {T:Nat->Prop} {w w':World} (hB:B<=w.heap.size) (h:ah T w w') (hT:∀k,T k->k=br\/B<=k):Fr B br w w' :=
 ⟨h.os,h.tape,h.output,h.size,λk hk hn=>h.block k (by omega) (λht=>by rcases hT k ht with h1|h1;exact hn h1;omega)⟩
theorem Fr.cell {B br:Nat} {w w':World} (h:Fr B br w w') {b o:Nat} (hb:b<B) (hn:b≠br):w'.cell? ⟨b,o,none⟩=w.cell? ⟨b,o,none⟩:=World.cell?_of_block (w:=w) (h.block b hb hn)
def I4 (B br:Nat) (v:Value):Prop:=∀b o n c,v=.slice (some ⟨b,o,none⟩) n c->b<B/\b≠br
theorem kZ.fr {B br:Nat} {w w':World} (h:Fr B br w w') {v:Value} {ts:List Tk} (hl:I4 B br v) (ht:kZ w v ts):kZ w' v ts:=by
 obtain⟨hok,a,cap,rfl,hc,hat⟩:=ht;refine⟨hok,a,cap,rfl,hc,λi hi=>?_⟩;obtain⟨b,o,rfl,hi',h0,h1,h2⟩:=hat i hi;obtain⟨q1,q2⟩:=hl b o _ _ rfl;exact⟨b,o,rfl,hi',(h.cell q1 q2).trans h0,(h.cell q1 q2).trans h1,(h.cell q1 q2).trans h2⟩
structure rW (B br:Nat) (en:Int) (w:World) (vt vo:Value) (ts:List Tk) (out:Rd):Prop where
 lt:br<B
 sz:B<=w.heap.size
 c0:w.cell? ⟨br,0,none⟩=some vt
 c1:w.cell? ⟨br,1,none⟩=some (.int .i64 en)
 c2:w.cell? ⟨br,2,none⟩=some vo
 fz:∀i,w.frozen? ⟨br,i,none⟩=false
 tk:kZ w vt ts
 low:I4 B br vt
 own:w.ownsRow B 234 4 vo out.length (out.flatMap iV)
 nil:out=[]->vo=.slice none 0 0
def dM (B br:Nat) (en:Int) (w:World) (ts:List Tk) (out:Rd):Prop:=∃vt vo,rW B br en w vt vo ts out
def bJ (ts:List Tk) (s:ByteArray):Bool:=match ts with
 | t::_=>decide (t.kind=3)&&decide (t.text=s)
 | []=>false
theorem lK (B br:Nat) (en:Int) (ts:List Tk) (out:Rd) (s:ByteArray) (w:World) (h:dM B br en w ts out) :
  Calls Tryz.prog 204 #[.pointer (some ⟨br,0,none⟩),.string s] w λe w'=>e=.returned (.bool (bJ ts s))/\w=w':=by
 obtain⟨vt,vo,h⟩:=h;have c0:=h.c0;cases ts with
 | nil =>
  obtain⟨a,c,rfl,hc⟩:=h.tk.shape
  clear h
  go_enter Tryz.func204,Tryz.ntmps204
  go_wp2
  go_ret
  exact⟨rfl,rfl⟩
 | cons t r =>
  obtain⟨b,o,c,rfl,hc,k0,k1,k2⟩:=h.tk.head
  clear h
  by_cases h3:t.kind=3
  ·by_cases hs:t.text=s
   ·have g1:(t.kind==3)=true:=by simp[h3]
    have g2:(t.text.toList==s.toList)=true:=by rw[k_];simp[hs]
    have HH:=Lib.hid (show bJ (t::r) s=true by simp[bJ,h3,hs])
    clear h3 hs
    go_enter Tryz.func204,Tryz.ntmps204
    go_wp2
    go_ret
    exact⟨dI HH.out.symm,rfl⟩
   ·have g1:(t.kind==3)=true:=by simp[h3]
    have g2:(t.text.toList==s.toList)=false:=by rw[k_];simp[hs]
    have HH:=Lib.hid (show bJ (t::r) s=false by simp[bJ,hs])
    clear h3 hs
    go_enter Tryz.func204,Tryz.ntmps204
    go_wp2
    go_ret
    exact⟨dI HH.out.symm,rfl⟩
  ·have g1:(t.kind==3)=false:=by simp[h3]
   have HH:=Lib.hid (show bJ (t::r) s=false by simp[bJ,h3])
   clear h3
   go_enter Tryz.func204,Tryz.ntmps204
   go_wp2
   go_ret
   exact⟨dI HH.out.symm,rfl⟩
theorem Dp (B br:Nat) (en:Int) (ts:List Tk) (out:Rd) (w:World) (h:dM B br en w ts out) :
  Calls Tryz.prog 153 #[.pointer (some ⟨br,0,none⟩)] w λe w'=>e=.returned (bD (gU ts en,4))/\w=w':=by
 obtain⟨vt,vo,h⟩:=h;have c0:=h.c0;have c1:=h.c1;cases ts with
 | nil =>
  obtain⟨a,c,rfl,hc⟩:=h.tk.shape
  clear h
  go_enter Tryz.func153,Tryz.ntmps153
  go_wp2
  go_ret
  exact⟨rfl,rfl⟩
 | cons t r =>
  obtain⟨b,o,c,rfl,hc,k0,k1,k2⟩:=h.tk.head
  clear h
  go_enter Tryz.func153,Tryz.ntmps153
  go_wp2
  go_ret
  exact⟨rfl,rfl⟩
theorem jV {B br:Nat} {en:Int} {w w':World} {vt vo:Value} {ts:List Tk} {out:Rd} (h:rW B br en w vt vo ts out) (hb:Below w.heap.size w w'):rW B br en w' vt vo ts out :=
 ⟨h.lt,Nat.le_trans h.sz hb.size,ak hb h.c0,ak hb h.c1,ak hb h.c2,
  λi=>(World.frozen?_of_block (w:=w) (hb.block br (by have:=h.lt;have:=h.sz;omega))).trans (h.fz i),h.tk.keep hb,h.low,bW hb h.own,h.nil⟩
theorem UK {B br:Nat} {en:Int} {w:World} {vt vo yJ:Value} {ts ts':List Tk} {out:Rd} (h:rW B br en w vt vo ts out) (ht:kZ w yJ ts') (hl:I4 B br yJ):rW B br en (w.setCell ⟨br,0,none⟩ yJ) yJ vo ts' out:=by
 have hE:ah (λk=>k=br) w (w.setCell ⟨br,0,none⟩ yJ):=aB (T:=λk=>k=br) (ah.refl _ w) (.inr rfl) _;have hF:Fr B br w (w.setCell ⟨br,0,none⟩ yJ):=Fr.exc h.sz hE (λk hk=>.inl hk);have c0:=h.c0;have c1:=h.c1;have c2:=h.c2;refine⟨h.lt,by simpa using h.sz,?_,?_,?_,λi=>?_,ht.fr hF hl,hl,gV hE h.own λk hk e=>?_,h.nil⟩
 ·go_simp
 ·go_simp
 ·go_simp
 ·simpa using h.fz i
 ·have:=(World.ownsRow.lt h.own _ hk).1;have:=h.lt;omega
def pU (t:Tk):Value:=.agg #[.int .i64 t.kind,.string t.text,.int .i64 t.pos]
theorem take_any (B br:Nat) (en:Int) (t:Tk) (r:List Tk) (out:Rd) (w:World) (h:dM B br en w (t::r) out) :
  Calls Tryz.prog 205 #[.pointer (some ⟨br,0,none⟩)] w λe w'=>e=.returned (pU t)/\dM B br en w' r out/\ah (λk=>k=br) w w':=by
 obtain⟨vt,vo,h⟩:=h;obtain⟨hlt,hsz,c0,c1,c2,hfz,htk,hlow,hown,hnil⟩:=h;obtain⟨b,o,c,rfl,hc,k0,k1,k2⟩:=htk.head;obtain⟨qb,qn⟩:=hlow b o _ _ rfl;have f0:=hfz 0;have hbr:br<w.heap.size:=by omega
 have hbs:b<w.heap.size:=by omega
 go_enter Tryz.func205,Tryz.ntmps205;go_wp2
 ·subst c;have hr:r=[]:=List.eq_nil_of_length_eq_zero (by omega);have hp:=UK (yJ:=.slice (some ⟨b,o,none⟩) r.length 0) ⟨hlt,hsz,c0,c1,c2,hfz,htk,hlow,hown,hnil⟩ (htk.tail _ (λh=>absurd hr h)) (λb' o' n c' e=>by cases e;exact⟨qb,qn⟩);have hE:ah (λk=>k=br) w (w.setCell ⟨br,0,none⟩ (.slice (some ⟨b,o,none⟩) r.length 0)):=aB (T:=λk=>k=br) (ah.refl _ w) (.inr rfl) _;have hb:=((Below.refl _ (w.setCell ⟨br,0,none⟩ (.slice (some ⟨b,o,none⟩) r.length 0))).alloc (Nat.le_refl _) (Obj.cells #[.int .i64 t.kind,.string t.text,.int .i64 t.pos] 171)).alloc (by simp) (Obj.cells #[.int .i64 t.kind,.string t.text,.int .i64 t.pos] 171);exact bodyPost_ret (v:=pU t) (by simp[results,Tryz.results205,go_sem,pU]) rfl ⟨rfl,⟨_,_,jV hp hb⟩,hE.below hb⟩
 ·have hp:=UK (yJ:=.slice (some ⟨b,o+3,none⟩) r.length (c-1)) ⟨hlt,hsz,c0,c1,c2,hfz,htk,hlow,hown,hnil⟩ (htk.tail _ (λ_=>rfl)) (λb' o' n c' e=>by cases e;exact⟨qb,qn⟩);have hE:ah (λk=>k=br) w (w.setCell ⟨br,0,none⟩ (.slice (some ⟨b,o+3,none⟩) r.length (c-1))):=aB (T:=λk=>k=br) (ah.refl _ w) (.inr rfl) _;have hb:=((Below.refl _ (w.setCell ⟨br,0,none⟩ (.slice (some ⟨b,o+3,none⟩) r.length (c-1)))).alloc (Nat.le_refl _) (Obj.cells #[.int .i64 t.kind,.string t.text,.int .i64 t.pos] 171)).alloc (by simp) (Obj.cells #[.int .i64 t.kind,.string t.text,.int .i64 t.pos] 171);exact bodyPost_ret (v:=pU t) (by simp[results,Tryz.results205,go_sem,pU]) rfl ⟨rfl,⟨_,_,jV hp hb⟩,hE.below hb⟩
theorem Ny (B br:Nat) (en:Int) (t:Tk) (r:List Tk) (out:Rd) (s:ByteArray) (w:World) (h:dM B br en w (t::r) out) (hs:bJ (t::r) s=true) :
  Calls Tryz.prog 198 #[.pointer (some ⟨br,0,none⟩),.string s] w λe w'=>e=.returned .nilIface/\dM B br en w' r out/\ah (λk=>k=br) w w':=by
 go_enter Tryz.func198,Tryz.ntmps198;go_wp2_with (first|(go_at_call 204;refine(lK B br en (t::r) out s w h).mono ?_;rintro e w1⟨rfl,rfl⟩;rw[hs])|(go_at_call 205;refine(take_any B br en t r out w h).mono ?_;rintro e w1⟨rfl,hp,hx⟩))
 exact bodyPost_ret (v:=.nilIface) (by simp[results,Tryz.results198,go_sem]) rfl ⟨rfl,hp,hx⟩
theorem UL (B br:Nat) (en:Int) (ts:List Tk) (out:Rd) (s:ByteArray) (w:World) (h:dM B br en w ts out) (hs:bJ ts s=false) :
  Calls Tryz.prog 198 #[.pointer (some ⟨br,0,none⟩),.string s] w λe w'=>e=.returned (bD (gU ts en,4))/\w=w':=by
 go_enter Tryz.func198,Tryz.ntmps198;go_wp2_with (first|(go_at_call 204;refine(lK B br en ts out s w h).mono ?_;rintro e w1⟨rfl,rfl⟩;rw[hs])|(go_at_call 153;refine(Dp B br en ts out w h).mono ?_;rintro e w1⟨rfl,rfl⟩))
 exact bodyPost_ret (v:=bD (gU ts en,4)) (by simp[results,Tryz.results198,go_sem]) rfl ⟨rfl,rfl⟩
theorem yK (B br:Nat) (en:Int) (t:Tk) (r:List Tk) (out:Rd) (w:World) (h:dM B br en w (t::r) out) (ht:t.kind=1) :
  Calls Tryz.prog 197 #[.pointer (some ⟨br,0,none⟩)] w λe w'=>e=.returned (.tuple #[.string t.text,.nilIface])/\dM B br en w' r out/\ah (λk=>k=br) w w':=by
 obtain⟨vt,vo,h'⟩:=id h;have c0:=h'.c0;obtain⟨b,o,c,rfl,hc,k0,k1,k2⟩:=h'.tk.head;rw[ht]at k0;clear h' ht;have hfd:∀w:World,(Instr.field 171 (.agg #[.int .i64 t.kind,.string t.text,.int .i64 t.pos]) 1).run Tryz.prog w=.ok (.string t.text) w:=λ_=>by kernel_rfl
 go_enter Tryz.func197,Tryz.ntmps197;go_wp2_with (go_at_call 205;refine(take_any B br en t r out w h).mono ?_;rintro e w1⟨rfl,hp,hx⟩;simp only[pU])
 exact bodyPost_ret (v:=.tuple #[.string t.text,.nilIface]) (by simp[results,Tryz.results197,go_sem]) rfl ⟨rfl,hp,hx⟩
theorem Nz (B br:Nat) (en:Int) (ts:List Tk) (out:Rd) (w:World) (h:dM B br en w ts out) (hs:∀t r,ts=t::r->t.kind≠1) :
  Calls Tryz.prog 197 #[.pointer (some ⟨br,0,none⟩)] w λe w'=>e=.returned (.tuple #[.string ⟨#[]⟩,bD (gU ts en,4)])/\w=w':=by
 obtain⟨vt,vo,h'⟩:=id h;have c0:=h'.c0;cases ts with
 | nil =>
  obtain⟨a,c,rfl,hc⟩:=h'.tk.shape
  clear h'
  go_enter Tryz.func197,Tryz.ntmps197
  go_wp2_with (go_at_call 153;refine(Dp B br en [] out w h).mono ?_;rintro e w1⟨rfl,rfl⟩)
  exact bodyPost_ret (v:=.tuple #[.string ⟨#[]⟩,bD (gU [] en,4)]) (by simp[results,Tryz.results197,go_sem]) rfl ⟨rfl,rfl⟩
 | cons t r =>
  obtain⟨b,o,c,rfl,hc,k0,k1,k2⟩:=h'.tk.head
  have g1:(t.kind != 1)=true:=by simpa using hs t r rfl
  clear h' hs
  go_enter Tryz.func197,Tryz.ntmps197
  go_wp2_with (go_at_call 153;refine(Dp B br en (t::r) out w h).mono ?_;rintro e w1⟨rfl,rfl⟩)
  exact bodyPost_ret (v:=.tuple #[.string ⟨#[]⟩,bD (gU (t::r) en,4)]) (by simp[results,Tryz.results197,go_sem]) rfl ⟨rfl,rfl⟩
theorem Dq:(Tryz.prog.info? 234).map (λi=>(i.zero,i.size,i.bytes))=some (some (.agg #[.int .i64 0,.int .i64 0,.string ⟨#[]⟩,.int .i64 0]),4,40):=by kernel_rfl
theorem E9 {B br:Nat} {en:Int} {w w2:World} {vt vo v':Value} {ts:List Tk} {out:Rd} (x:Nd×Int) (h:rW B br en w vt vo ts out) (hg:w.grownBy w2 vo.ownBlock)
  (hown:w2.ownsRow B 234 4 v' (out.length+1) (out.flatMap iV++iV x)) :
  rW B br en (w2.setCell ⟨br,2,none⟩ v') vt v' ts (out++[x])/\Fr B br w (w2.setCell ⟨br,2,none⟩ v'):=by
 have hE1:ah (λk=>vo.ownBlock=some k) w w2:=(ah.refl _ w).grown hg (λk hk=>.inr hk);have hlow:∀k,vo.ownBlock=some k->B<=k:=λk hk=>(World.ownsRow.lt h.own _ hk).1;have hF1:Fr B br w w2:=Fr.exc h.sz hE1 (λk hk=>.inr (hlow k hk));have hsz2:B<=w2.heap.size:=Nat.le_trans h.sz hE1.size;have hE2:ah (λk=>k=br) w2 (w2.setCell ⟨br,2,none⟩ v'):=aB (T:=λk=>k=br) (ah.refl _ w2) (.inr rfl) _;have hF:Fr B br w (w2.setCell ⟨br,2,none⟩ v'):=hF1.trans (Fr.exc hsz2 hE2 (λk hk=>.inl hk));have hlt:=h.lt;have hbw:br<w.heap.size:=Nat.lt_of_lt_of_le h.lt h.sz;have hn:¬vo.ownBlock=some br:=λe=>by have:=hlow br e;omega
 have c0:w2.cell? ⟨br,0,none⟩=some vt:=(hE1.cell.1 br 0 hbw hn).trans h.c0;have c1:w2.cell? ⟨br,1,none⟩=some (.int .i64 en):=(hE1.cell.1 br 1 hbw hn).trans h.c1;have c2:w2.cell? ⟨br,2,none⟩=some vo:=(hE1.cell.1 br 2 hbw hn).trans h.c2;refine⟨⟨h.lt,by simpa using hsz2,?_,?_,?_,λi=>?_,h.tk.fr hF h.low,h.low,?_,λe=>by simp at e⟩,hF⟩
 ·go_simp
 ·go_simp
 ·go_simp
 ·have:=(hE1.cell.2 br i hbw hn).trans (h.fz i);simpa using this
 ·rw[List.length_append,List.flatMap_append];exact gV hE2 (by simpa using hown) λk hk e=>by have:=(World.ownsRow.lt hown _ hk).1;omega
def resV (en:Int) (r:pJ):Value:=if r.bad then bD (gU r.rest en,4)else .nilIface
structure lM (B br:Nat) (en:Int) (w:World) (ts:List Tk) (out:Rd) (r:pJ) (e:Ending) (w':World):Prop where
 par:dM B br en w' r.rest r.out
 fr:Fr B br w w'
 len:r.rest.length<=ts.length
 sum:r.out.length+r.rest.length<=out.length+ts.length
 ret:e=.returned (resV en r)
def wZ (w:World) (br:Nat):Nat:=match w.cell? ⟨br,0,none⟩with
 | some (.slice _ n _)=>n
 | _=>0
theorem dM.wZ {B br:Nat} {en:Int} {w:World} {ts:List Tk} {out:Rd} (h:dM B br en w ts out):wZ w br=ts.length:=by
 obtain⟨vt,vo,h⟩:=h;obtain⟨a,c,rfl,hc⟩:=h.tk.shape;simp[Proofs.YtikgblkfmpecfaaGreatDoor.wZ,h.c0]
theorem abb (B br:Nat) (en:Int) (f:Nat) (hP:∀g,g<=f->∀ts out w,ts.length<=g->out.length+ts.length<=40000->dM B br en w ts out->Calls Tryz.prog 206 #[.pointer (some ⟨br,0,none⟩)] w (lM B br en w ts out (bQ g ts out)))
  (ts:List Tk) (out:Rd) (w:World) (hts:ts.length<=f) (hsum:out.length+ts.length<=40000) (h:dM B br en w ts out) :
  Calls Tryz.prog 189 #[.pointer (some ⟨br,0,none⟩),.string ⟨#[42]⟩,.int .i64 16,.func (.func 206) #[.pointer (some ⟨br,0,none⟩)] #[]] w (lM B br en w ts out (fU f ts out)):=by
 have h0:=hP f (Nat.le_refl _) ts out w hts hsum h;obtain⟨⟨bad,rest,o⟩,hq⟩:∃q,bQ f ts out=q:=⟨_,rfl⟩
 rw[hq]at h0;obtain⟨i0,hi,hz0,hz1,hz2⟩:=info_parts Dq;cases bad
 ·have HR:Hid (fU f ts out=jl f rest o):=(show _=_ by rw[fU,hq])
  clear hq;go_enter Tryz.func189,Tryz.ntmps189;go_wp2_with (go_at_call 206;refine h0.mono ?_;rintro e w1⟨hp1,hf1,hl1,hs1,rfl⟩;rw[show resV en ⟨false,rest,o⟩=.nilIface from rfl])
  go_loopw [10,11] (λ_ _ wr=>∃(f':Nat) (ts':List Tk) (out':Rd),f'<=f/\ts'.length<=f'/\out'.length+ts'.length<=40000/\dM B br en wr ts' out'/\Fr B br w wr/\ts'.length<=ts.length/\out'.length+ts'.length<=out.length+ts.length/\Hid (fU f ts out=jl f' ts' out')) (λ_ _ wr=>wZ wr br)
  case atStart=>exact⟨f,rest,o,Nat.le_refl _,by omega,by omega,hp1,hf1,hl1,hs1,HR⟩
  case round =>
   obtain⟨f',ts',out',mM,hlf,hof,hpw,hfw,hlt,hst,HG⟩:=hrel
   have hlen:=hpw.wZ
   cases hy:bJ ts' ⟨#[42]⟩
   ·have HE:Hid (fU f ts out=⟨false,ts',out'⟩):=(show _=_ by
     rw[HG.out];have hy':bI ts' 42=false:=by cases ts'<;>simpa[bI,bJ]using hy
     cases f'<;>simp[jl,hy'])
    go_wp2_with (go_at_call 204;refine(lK B br en ts' out' _ _ hpw).mono ?_;rintro e w2⟨rfl,rfl⟩;rw[hy])
    exact bodyPost_ret (v:=.nilIface) (by simp[results,Tryz.results189,go_sem]) rfl (by rw[HE.out];exact⟨hpw,hfw,hlt,hst,rfl⟩)
   ·cases ts' with
    | nil=>simp[bJ]at hy
    | cons t r =>
     obtain⟨g,rfl⟩:∃g,f'=g+1:=⟨f'-1,by simp at hlf;omega⟩
     have tN:r.length<=g:=by simpa using hlf
     have hy':bI (t::r) 42=true:=by simpa[bI,bJ]using hy
     have hfd:∀w:World,(Instr.field 171 (.agg #[.int .i64 t.kind,.string t.text,.int .i64 t.pos]) 2).run Tryz.prog w=.ok (.int .i64 t.pos) w:=λ_=>by kernel_rfl
     obtain⟨⟨bad,iW,o2⟩,hq⟩:∃q,bQ g r out'=q:=⟨_,rfl⟩
     have hg:=λw2 h2=>hP g (by omega) r out' w2 tN (by simp at hof;omega) h2
     rw[hq]at hg
     cases bad
     ·have HS:Hid (fU f ts out=jl g iW (o2++[(⟨16,0,⟨#[]⟩⟩,t.pos)])):=(show _=_ by rw[HG.out,jl,if_pos hy'];simp[hq])
      clear hq HG
      go_wp2_with (first|(go_at_call 204;refine(lK B br en (t::r) out' _ _ hpw).mono ?_;rintro e w2⟨rfl,rfl⟩;rw[hy])|(go_at_call 205;refine(take_any B br en t r out' _ hpw).mono ?_;rintro e w2⟨rfl,hp2,hx2⟩;simp only[pU])|(go_at_call 206;refine(hg _ hp2).mono ?_;rintro e w3⟨⟨E_,vo3,hv3⟩,hf3,hl3,hs3,rfl⟩;rw[show resV en ⟨false,iW,o2⟩=.nilIface from rfl];obtain⟨ao,cp,rfl⟩:=jW hv3.own;have k2:=hv3.c2;have NC:=hv3.fz 2;have tV:br<w3.heap.size:=Nat.lt_of_lt_of_le hv3.lt hv3.sz)|(at_builtin;refine wpList_append_own _ rfl _ _ 156 rfl B 234 i0 _ 4 40 Tryz.underlying156 hi hz0 hz1 hz2 rfl (by decide) _ _ _ rfl (hv3.own.alloc _) ⟨w3.heap.size,0,none⟩ 1 1 [.int .i64 16,.int .i64 0,.string ⟨#[]⟩,.int .i64 t.pos] rfl rfl ?c1 ?c2 ?c3 ?c4 ?c5 ?_))
      case c1 =>
       intro j u hj
       match j,hj with
       | 0,hj=>simp at hj;subst hj;simp[Addr.add]
       | 1,hj=>simp at hj;subst hj;simp[Addr.add]
       | 2,hj=>simp at hj;subst hj;simp[Addr.add]
       | 3,hj=>simp at hj;subst hj;simp[Addr.add]
      case c2=>intro u hu;simp at hu;rcases hu with rfl|rfl|rfl|rfl<;>rfl
      case c3=>unfold maxLen;simp at hof;omega
      case c4=>simp at hof;omega
      case c5=>have:=hv3.sz;simp;omega
      intro v' w5 hown5 hgrow _
      obtain⟨tX,cp5,rfl⟩:=jW hown5
      obtain⟨ND,NG,hvw⟩:=id hpw
      have hpb:=jV hv3 (aj w3 (.cells #[.int .i64 16,.int .i64 0,.string ⟨#[]⟩,.int .i64 t.pos] 234))
      have kP:=E9 (⟨16,0,⟨#[]⟩⟩,t.pos) hpb hgrow hown5
      have mO:Fr B br w (w5.setCell ⟨br,2,none⟩ (.slice tX (o2.length+1) cp5)):=((hfw.trans (Fr.exc hvw.sz hx2 (λk hk=>.inl hk))).trans hf3).trans ((Fr.below hv3.sz (aj w3 _)).trans kP.2)
      have mP:=(show dM B br en (w5.setCell ⟨br,2,none⟩ (.slice tX (o2.length+1) cp5)) iW (o2++[(⟨16,0,⟨#[]⟩⟩,t.pos)])from⟨_,_,kP.1⟩)
      have qL:ah (λk=>(Value.slice ao o2.length cp).ownBlock=some k) (w3.alloc (.cells #[.int .i64 16,.int .i64 0,.string ⟨#[]⟩,.int .i64 t.pos] 234)) w5:=(ah.refl _ _).grown hgrow (λk hk=>.inr hk)
      have tY:¬(Value.slice ao o2.length cp).ownBlock=some br:=λe=>by have:=(World.ownsRow.lt hv3.own _ e).1;have:=hv3.lt;omega
      have k5:=(qL.cell.1 br 2 (by simp;omega) tY).trans hpb.c2
      have f5:=(qL.cell.2 br 2 (by simp;omega) tY).trans (hpb.fz 2)
      have s5:=cell_lt k5
      clear qL tY kP hpb hgrow hown5 hvw k2 NC tV
      go_wp2
      go_roundw
      case rel=>exact⟨g,iW,_,by omega,by omega,by simp at hof ⊢;omega,mP,mO,by simp at hlt;omega,by simp at hst ⊢;omega,HS⟩
      case measure=>rw[mP.wZ,hlen];simp;omega
     ·have HE:Hid (fU f ts out=⟨true,iW,o2⟩):=(show _=_ by rw[HG.out,jl,if_pos hy'];simp[hq])
      clear hq HG
      go_wp2_with (first|(go_at_call 204;refine(lK B br en (t::r) out' _ _ hpw).mono ?_;rintro e w2⟨rfl,rfl⟩;rw[hy])|(go_at_call 205;refine(take_any B br en t r out' _ hpw).mono ?_;rintro e w2⟨rfl,hp2,hx2⟩;simp only[pU])|(go_at_call 206;refine(hg _ hp2).mono ?_;rintro e w3⟨hp3,hf3,hl3,hs3,rfl⟩;rw[show resV en ⟨true,iW,o2⟩=bD (gU iW en,4)from rfl];simp only[bD]))
      obtain⟨ND,NG,hvw⟩:=id hpw
      exact bodyPost_ret (v:=bD (gU iW en,4)) (by simp[results,Tryz.results189,go_sem,bD]) rfl (by rw[HE.out];exact⟨hp3,(hfw.trans (Fr.exc hvw.sz hx2 (λk hk=>.inl hk))).trans hf3,by simp at hlt;simp;omega,by simp at hst;simp;omega,rfl⟩)
 ·have HR:Hid (fU f ts out=⟨true,rest,o⟩):=(show _=_ by rw[fU,hq])
  clear hq;go_enter Tryz.func189,Tryz.ntmps189;go_wp2_with (go_at_call 206;refine h0.mono ?_;rintro e w1⟨hp1,hf1,hl1,hs1,rfl⟩;rw[show resV en ⟨true,rest,o⟩=bD (gU rest en,4)from rfl];simp only[bD])
  exact bodyPost_ret (v:=bD (gU rest en,4)) (by simp[results,Tryz.results189,go_sem,bD]) rfl (by rw[HR.out];exact⟨hp1,hf1,hl1,hs1,rfl⟩)
theorem abd (B br:Nat) (en:Int) (f:Nat) (hP:∀g,g<=f->∀ts out w,ts.length<=g->out.length+ts.length<=40000->dM B br en w ts out->Calls Tryz.prog 190 #[.pointer (some ⟨br,0,none⟩)] w (lM B br en w ts out (fU g ts out)))
  (ts:List Tk) (out:Rd) (w:World) (hts:ts.length<=f) (hsum:out.length+ts.length<=40000) (h:dM B br en w ts out) :
  Calls Tryz.prog 189 #[.pointer (some ⟨br,0,none⟩),.string ⟨#[59]⟩,.int .i64 15,.func (.func 190) #[.pointer (some ⟨br,0,none⟩)] #[]] w (lM B br en w ts out (fQ f ts out)):=by
 have h0:=hP f (Nat.le_refl _) ts out w hts hsum h;obtain⟨⟨bad,rest,o⟩,hq⟩:∃q,fU f ts out=q:=⟨_,rfl⟩
 rw[hq]at h0;obtain⟨i0,hi,hz0,hz1,hz2⟩:=info_parts Dq;cases bad
 ·have HR:Hid (fQ f ts out=jm f rest o):=(show _=_ by rw[fQ,hq])
  clear hq;go_enter Tryz.func189,Tryz.ntmps189;go_wp2_with (go_at_call 190;refine h0.mono ?_;rintro e w1⟨hp1,hf1,hl1,hs1,rfl⟩;rw[show resV en ⟨false,rest,o⟩=.nilIface from rfl])
  go_loopw [10,11] (λ_ _ wr=>∃(f':Nat) (ts':List Tk) (out':Rd),f'<=f/\ts'.length<=f'/\out'.length+ts'.length<=40000/\dM B br en wr ts' out'/\Fr B br w wr/\ts'.length<=ts.length/\out'.length+ts'.length<=out.length+ts.length/\Hid (fQ f ts out=jm f' ts' out')) (λ_ _ wr=>wZ wr br)
  case atStart=>exact⟨f,rest,o,Nat.le_refl _,by omega,by omega,hp1,hf1,hl1,hs1,HR⟩
  case round =>
   obtain⟨f',ts',out',mM,hlf,hof,hpw,hfw,hlt,hst,HG⟩:=hrel
   have hlen:=hpw.wZ
   cases hy:bJ ts' ⟨#[59]⟩
   ·have HE:Hid (fQ f ts out=⟨false,ts',out'⟩):=(show _=_ by
     rw[HG.out];have hy':bI ts' 59=false:=by cases ts'<;>simpa[bI,bJ]using hy
     cases f'<;>simp[jm,hy'])
    go_wp2_with (go_at_call 204;refine(lK B br en ts' out' _ _ hpw).mono ?_;rintro e w2⟨rfl,rfl⟩;rw[hy])
    exact bodyPost_ret (v:=.nilIface) (by simp[results,Tryz.results189,go_sem]) rfl (by rw[HE.out];exact⟨hpw,hfw,hlt,hst,rfl⟩)
   ·cases ts' with
    | nil=>simp[bJ]at hy
    | cons t r =>
     obtain⟨g,rfl⟩:∃g,f'=g+1:=⟨f'-1,by simp at hlf;omega⟩
     have tN:r.length<=g:=by simpa using hlf
     have hy':bI (t::r) 59=true:=by simpa[bI,bJ]using hy
     have hfd:∀w:World,(Instr.field 171 (.agg #[.int .i64 t.kind,.string t.text,.int .i64 t.pos]) 2).run Tryz.prog w=.ok (.int .i64 t.pos) w:=λ_=>by kernel_rfl
     obtain⟨⟨bad,iW,o2⟩,hq⟩:∃q,fU g r out'=q:=⟨_,rfl⟩
     have hg:=λw2 h2=>hP g (by omega) r out' w2 tN (by simp at hof;omega) h2
     rw[hq]at hg
     cases bad
     ·have HS:Hid (fQ f ts out=jm g iW (o2++[(⟨15,0,⟨#[]⟩⟩,t.pos)])):=(show _=_ by rw[HG.out,jm,if_pos hy'];simp[hq])
      clear hq HG
      go_wp2_with (first|(go_at_call 204;refine(lK B br en (t::r) out' _ _ hpw).mono ?_;rintro e w2⟨rfl,rfl⟩;rw[hy])|(go_at_call 205;refine(take_any B br en t r out' _ hpw).mono ?_;rintro e w2⟨rfl,hp2,hx2⟩;simp only[pU])|(go_at_call 190;refine(hg _ hp2).mono ?_;rintro e w3⟨⟨E_,vo3,hv3⟩,hf3,hl3,hs3,rfl⟩;rw[show resV en ⟨false,iW,o2⟩=.nilIface from rfl];obtain⟨ao,cp,rfl⟩:=jW hv3.own;have k2:=hv3.c2;have NC:=hv3.fz 2;have tV:br<w3.heap.size:=Nat.lt_of_lt_of_le hv3.lt hv3.sz)|(at_builtin;refine wpList_append_own _ rfl _ _ 156 rfl B 234 i0 _ 4 40 Tryz.underlying156 hi hz0 hz1 hz2 rfl (by decide) _ _ _ rfl (hv3.own.alloc _) ⟨w3.heap.size,0,none⟩ 1 1 [.int .i64 15,.int .i64 0,.string ⟨#[]⟩,.int .i64 t.pos] rfl rfl ?c1 ?c2 ?c3 ?c4 ?c5 ?_))
      case c1 =>
       intro j u hj
       match j,hj with
       | 0,hj=>simp at hj;subst hj;simp[Addr.add]
       | 1,hj=>simp at hj;subst hj;simp[Addr.add]
       | 2,hj=>simp at hj;subst hj;simp[Addr.add]
       | 3,hj=>simp at hj;subst hj;simp[Addr.add]
      case c2=>intro u hu;simp at hu;rcases hu with rfl|rfl|rfl|rfl<;>rfl
      case c3=>unfold maxLen;simp at hof;omega
      case c4=>simp at hof;omega
      case c5=>have:=hv3.sz;simp;omega
      intro v' w5 hown5 hgrow _
      obtain⟨tX,cp5,rfl⟩:=jW hown5
      obtain⟨ND,NG,hvw⟩:=id hpw
      have hpb:=jV hv3 (aj w3 (.cells #[.int .i64 15,.int .i64 0,.string ⟨#[]⟩,.int .i64 t.pos] 234))
      have kP:=E9 (⟨15,0,⟨#[]⟩⟩,t.pos) hpb hgrow hown5
      have mO:Fr B br w (w5.setCell ⟨br,2,none⟩ (.slice tX (o2.length+1) cp5)):=((hfw.trans (Fr.exc hvw.sz hx2 (λk hk=>.inl hk))).trans hf3).trans ((Fr.below hv3.sz (aj w3 _)).trans kP.2)
      have mP:=(show dM B br en (w5.setCell ⟨br,2,none⟩ (.slice tX (o2.length+1) cp5)) iW (o2++[(⟨15,0,⟨#[]⟩⟩,t.pos)])from⟨_,_,kP.1⟩)
      have qL:ah (λk=>(Value.slice ao o2.length cp).ownBlock=some k) (w3.alloc (.cells #[.int .i64 15,.int .i64 0,.string ⟨#[]⟩,.int .i64 t.pos] 234)) w5:=(ah.refl _ _).grown hgrow (λk hk=>.inr hk)
      have tY:¬(Value.slice ao o2.length cp).ownBlock=some br:=λe=>by have:=(World.ownsRow.lt hv3.own _ e).1;have:=hv3.lt;omega
      have k5:=(qL.cell.1 br 2 (by simp;omega) tY).trans hpb.c2
      have f5:=(qL.cell.2 br 2 (by simp;omega) tY).trans (hpb.fz 2)
      have s5:=cell_lt k5
      clear qL tY kP hpb hgrow hown5 hvw k2 NC tV
      go_wp2
      go_roundw
      case rel=>exact⟨g,iW,_,by omega,by omega,by simp at hof ⊢;omega,mP,mO,by simp at hlt;omega,by simp at hst ⊢;omega,HS⟩
      case measure=>rw[mP.wZ,hlen];simp;omega
     ·have HE:Hid (fQ f ts out=⟨true,iW,o2⟩):=(show _=_ by rw[HG.out,jm,if_pos hy'];simp[hq])
      clear hq HG
      go_wp2_with (first|(go_at_call 204;refine(lK B br en (t::r) out' _ _ hpw).mono ?_;rintro e w2⟨rfl,rfl⟩;rw[hy])|(go_at_call 205;refine(take_any B br en t r out' _ hpw).mono ?_;rintro e w2⟨rfl,hp2,hx2⟩;simp only[pU])|(go_at_call 190;refine(hg _ hp2).mono ?_;rintro e w3⟨hp3,hf3,hl3,hs3,rfl⟩;rw[show resV en ⟨true,iW,o2⟩=bD (gU iW en,4)from rfl];simp only[bD]))
      obtain⟨ND,NG,hvw⟩:=id hpw
      exact bodyPost_ret (v:=bD (gU iW en,4)) (by simp[results,Tryz.results189,go_sem,bD]) rfl (by rw[HE.out];exact⟨hp3,(hfw.trans (Fr.exc hvw.sz hx2 (λk hk=>.inl hk))).trans hf3,by simp at hlt;simp;omega,by simp at hst;simp;omega,rfl⟩)
 ·have HR:Hid (fQ f ts out=⟨true,rest,o⟩):=(show _=_ by rw[fQ,hq])
  clear hq;go_enter Tryz.func189,Tryz.ntmps189;go_wp2_with (go_at_call 190;refine h0.mono ?_;rintro e w1⟨hp1,hf1,hl1,hs1,rfl⟩;rw[show resV en ⟨true,rest,o⟩=bD (gU rest en,4)from rfl];simp only[bD])
  exact bodyPost_ret (v:=bD (gU rest en,4)) (by simp[results,Tryz.results189,go_sem,bD]) rfl (by rw[HR.out];exact⟨hp1,hf1,hl1,hs1,rfl⟩)
theorem abe (B br:Nat) (en:Int) (f:Nat) (hP:∀g,g<=f->∀ts out w,ts.length<=g->out.length+ts.length<=40000->dM B br en w ts out->Calls Tryz.prog 206 #[.pointer (some ⟨br,0,none⟩)] w (lM B br en w ts out (bQ g ts out)))
  (ts:List Tk) (out:Rd) (w:World) (hts:ts.length<=f) (hsum:out.length+ts.length<=40000) (h:dM B br en w ts out) :
  Calls Tryz.prog 190 #[.pointer (some ⟨br,0,none⟩)] w (lM B br en w ts out (fU f ts out)):=by
 have hc:=abb B br en f hP ts out w hts hsum h;go_enter Tryz.func190,Tryz.ntmps190;go_wp2_with (go_at_call 189;refine hc.mono ?_;rintro e w1⟨hp1,hf1,hl1,hs1,rfl⟩)
 exact bodyPost_ret (v:=resV en (fU f ts out)) (by simp[results,Tryz.results190,go_sem]) rfl ⟨hp1,hf1,hl1,hs1,rfl⟩
theorem abf (B br:Nat) (en:Int) (f:Nat) (hP:∀g,g<=f->∀ts out w,ts.length<=g->out.length+ts.length<=40000->dM B br en w ts out->Calls Tryz.prog 190 #[.pointer (some ⟨br,0,none⟩)] w (lM B br en w ts out (fU g ts out)))
  (ts:List Tk) (out:Rd) (w:World) (hts:ts.length<=f) (hsum:out.length+ts.length<=40000) (h:dM B br en w ts out) :
  Calls Tryz.prog 152 #[.pointer (some ⟨br,0,none⟩)] w (lM B br en w ts out (fQ f ts out)):=by
 have hc:=abd B br en f hP ts out w hts hsum h;go_enter Tryz.func152,Tryz.ntmps152;go_wp2_with (go_at_call 189;refine hc.mono ?_;rintro e w1⟨hp1,hf1,hl1,hs1,rfl⟩)
 exact bodyPost_ret (v:=resV en (fQ f ts out)) (by simp[results,Tryz.results152,go_sem]) rfl ⟨hp1,hf1,hl1,hs1,rfl⟩
theorem abg (B br:Nat) (en:Int) (f:Nat) (hT:∀ts out w,ts.length<=f->out.length+ts.length<=40000->dM B br en w ts out->Calls Tryz.prog 152 #[.pointer (some ⟨br,0,none⟩)] w (lM B br en w ts out (fQ f ts out)))
  (t:Tk) (r:List Tk) (out:Rd) (w:World) (hts:r.length<=f) (hsum:out.length+(r.length+1)<=40000) (h:dM B br en w (t::r) out) (hy:bJ (t::r) ⟨#[40]⟩=true) :
  Calls Tryz.prog 206 #[.pointer (some ⟨br,0,none⟩)] w (lM B br en w (t::r) out (bQ (f+1) (t::r) out)):=by
 have hy':bI (t::r) 40=true:=by simpa[bI,bJ]using hy
 obtain⟨⟨bad,r2,o2⟩,hq⟩:∃q,fQ f r out=q:=⟨_,rfl⟩
 have hT1:=λw2 h2=>hT r out w2 hts (by omega) h2;rw[hq]at hT1;have hsz:B<=w.heap.size:=by obtain⟨_,_,h'⟩:=h;exact h'.sz
 cases bad
 ·cases tZ:bJ r2 ⟨#[41]⟩
  ·have z_:bI r2 41=false:=by cases r2<;>simpa[bI,bJ]using tZ
   have HE:Hid (bQ (f+1) (t::r) out=⟨true,r2,o2⟩):=(show _=_ by rw[bQ.eq_def];simp[hy',hq,z_])
   clear hq;go_enter Tryz.func206,Tryz.ntmps206;go_wp2_with (first|(go_at_call 204;refine(lK B br en (t::r) out _ _ h).mono ?_;rintro e w1⟨rfl,rfl⟩;rw[hy])|(go_at_call 205;refine(take_any B br en t r out _ h).mono ?_;rintro e w2⟨rfl,hp2,hx2⟩;simp only[pU])|(go_at_call 152;refine(hT1 _ hp2).mono ?_;rintro e w3⟨hp3,hf3,hl3,hs3,rfl⟩;rw[show resV en ⟨false,r2,o2⟩=.nilIface from rfl])|(go_at_call 198;refine(UL B br en r2 o2 _ _ hp3 tZ).mono ?_;rintro e w4⟨rfl,rfl⟩;simp only[bD]))
   exact bodyPost_ret (v:=bD (gU r2 en,4)) (by simp[results,Tryz.results206,go_sem,bD]) rfl (by rw[HE.out];exact⟨hp3,(Fr.exc hsz hx2 (λk hk=>.inl hk)).trans hf3,by simp at hl3 ⊢;omega,by simp at hs3 ⊢;omega,rfl⟩)
  ·cases r2 with
   | nil=>simp[bJ]at tZ
   | cons t2 r3 =>
   have z_:bI (t2::r3) 41=true:=by simpa[bI,bJ]using tZ
   have HE:Hid (bQ (f+1) (t::r) out=⟨false,r3,o2⟩):=(show _=_ by rw[bQ.eq_def];simp[hy',hq,z_])
   clear hq;go_enter Tryz.func206,Tryz.ntmps206;go_wp2_with (first|(go_at_call 204;refine(lK B br en (t::r) out _ _ h).mono ?_;rintro e w1⟨rfl,rfl⟩;rw[hy])|(go_at_call 205;refine(take_any B br en t r out _ h).mono ?_;rintro e w2⟨rfl,hp2,hx2⟩;simp only[pU])|(go_at_call 152;refine(hT1 _ hp2).mono ?_;rintro e w3⟨hp3,hf3,hl3,hs3,rfl⟩;rw[show resV en ⟨false,t2::r3,o2⟩=.nilIface from rfl];have hsz3:B<=w3.heap.size:=(by obtain⟨_,_,h'⟩:=hp3;exact h'.sz))|(go_at_call 198;refine(Ny B br en t2 r3 o2 _ _ hp3 tZ).mono ?_;rintro e w4⟨rfl,yL,hx4⟩))
   exact bodyPost_ret (v:=.nilIface) (by simp[results,Tryz.results206,go_sem]) rfl (by rw[HE.out];exact⟨yL,((Fr.exc hsz hx2 (λk hk=>.inl hk)).trans hf3).trans (Fr.exc hsz3 hx4 (λk hk=>.inl hk)),by simp at hl3 ⊢;omega,by simp at hs3 ⊢;omega,rfl⟩)
 ·have HE:Hid (bQ (f+1) (t::r) out=⟨true,r2,o2⟩):=(show _=_ by rw[bQ.eq_def];simp[hy',hq])
  clear hq;go_enter Tryz.func206,Tryz.ntmps206;go_wp2_with (first|(go_at_call 204;refine(lK B br en (t::r) out _ _ h).mono ?_;rintro e w1⟨rfl,rfl⟩;rw[hy])|(go_at_call 205;refine(take_any B br en t r out _ h).mono ?_;rintro e w2⟨rfl,hp2,hx2⟩;simp only[pU])|(go_at_call 152;refine(hT1 _ hp2).mono ?_;rintro e w3⟨hp3,hf3,hl3,hs3,rfl⟩;rw[show resV en ⟨true,r2,o2⟩=bD (gU r2 en,4)from rfl];simp only[bD]))
  exact bodyPost_ret (v:=bD (gU r2 en,4)) (by simp[results,Tryz.results206,go_sem,bD]) rfl (by rw[HE.out];exact⟨hp3,(Fr.exc hsz hx2 (λk hk=>.inl hk)).trans hf3,by simp at hl3 ⊢;omega,by simp at hs3 ⊢;omega,rfl⟩)
theorem abh (B br:Nat) (en:Int) (f:Nat) (ts:List Tk) (out:Rd) (w:World) (hts:ts.length<=f) (h:dM B br en w ts out) (hy:bJ ts ⟨#[40]⟩=false) (hk:∀t r,ts=t::r->t.kind≠1) :
  Calls Tryz.prog 206 #[.pointer (some ⟨br,0,none⟩)] w (lM B br en w ts out (bQ f ts out)):=by
 have HE:Hid (bQ f ts out=⟨true,ts,out⟩):=(show _=_ by
  cases ts with
  | nil=>cases f<;>simp[bQ,bI]
  | cons t r =>
   obtain⟨g,rfl⟩:∃g,f=g+1:=⟨f-1,by simp at hts;omega⟩
   have hy':bI (t::r) 40=false:=by simpa[bI,bJ]using hy
   rw[bQ.eq_def];simp[hy',hk t r rfl])
 obtain⟨vt,vo,h'⟩:=id h;have c0:=h'.c0;cases ts with
 | nil =>
  obtain⟨a,c,rfl,hc⟩:=h'.tk.shape
  clear h' hk
  go_enter Tryz.func206,Tryz.ntmps206
  go_wp2_with (first|(go_at_call 204;refine(lK B br en [] out _ _ h).mono ?_;rintro e w1⟨rfl,rfl⟩;rw[hy])|(go_at_call 197;refine(Nz B br en [] out _ h (by simp)).mono ?_;rintro e w2⟨rfl,rfl⟩;simp only[bD]))
  exact bodyPost_ret (v:=bD (gU [] en,4)) (by simp[results,Tryz.results206,go_sem,bD]) rfl (by rw[HE.out];exact⟨h,Fr.refl _ _ _,Nat.le_refl _,Nat.le_refl _,rfl⟩)
 | cons t r =>
  obtain⟨b,o,c,rfl,hc,k0,k1,k2⟩:=h'.tk.head
  clear h'
  go_enter Tryz.func206,Tryz.ntmps206
  go_wp2_with (first|(go_at_call 204;refine(lK B br en (t::r) out _ _ h).mono ?_;rintro e w1⟨rfl,rfl⟩;rw[hy])|(go_at_call 197;refine(Nz B br en (t::r) out _ h hk).mono ?_;rintro e w2⟨rfl,rfl⟩;simp only[bD]))
  exact bodyPost_ret (v:=bD (gU (t::r) en,4)) (by simp[results,Tryz.results206,go_sem,bD]) rfl (by rw[HE.out];exact⟨h,Fr.refl _ _ _,Nat.le_refl _,Nat.le_refl _,rfl⟩)
section
variable {P:Program} {C:World -> Prop} {N:Nat} {Q:Exit -> Act -> World -> Prop}
def UM (ops:Array Oper) (f i0:Nat) (jo iC:List Nat):Bool :=
 Region.noSelect ops&&Region.free .any ops (Array.replicate ops.size false) i0&&(Region.ready .any ops (Array.replicate ops.size false)).contains i0 &&
  yH ops f jo&&yH ops f iC&&Di ops (i0::(jo++iC))&&decide (jo.length+iC.length+1=ops.size)&&!(jo++iC).contains i0 &&
  iC.all (λe=>jo.all λi=>rQ ops f e i&&!Region.waitsFor .any ops i e&&decide (i≠e)) &&
  (match ops[i0]? with
   | some o=>o.after.all λe=>!Region.binds .any e
   | none=>false)
theorem Fa {id:Nat} {a:Act} {w:World} {l:List Oper} (f i0:Nat) (jo iC:List Nat) {o0:Oper} (v0:Value) (h0:l.toArray[i0]?=some o0) (hm:P.follows .mixedOrders=true) (hB:UM l.toArray f i0 jo iC=true)
  (hQ:∀c a w,Q (.panic c) (a.put o0.dst v0) w->Q (.panic c) a w) (hy:Yields P l.toArray o0 v0 a)
  (hG:nJ C N) (hC:C w.drew) (h:WX P l.toArray C N (λ_ a' w'=>UD P l.toArray Q iC a' w') jo (λ_=>False) (a.put o0.dst v0) w.drew):(Code.region id l.toArray true).wp P Q a w:=by
 simp only[UM,Bool.and_eq_true,decide_eq_true_eq]at hB;obtain⟨⟨⟨⟨⟨⟨⟨⟨⟨hsel,hfree⟩,abj⟩,hp1⟩,hp2⟩,yI⟩,hlen⟩,hnot⟩,hE⟩,hafter⟩:=hB;simp only[Di,Bool.and_eq_true,List.all_eq_true,decide_eq_true_eq,Bool.not_eq_true',List.mem_range,List.contains_iff_mem]at yI;obtain⟨⟨h1,h2⟩,h3⟩:=yI;have abk:i0 ∉ jo++iC:=by simpa using hnot
 simp only[List.all_eq_true,Bool.and_eq_true,decide_eq_true_eq,Bool.not_eq_true']at hE;have hrange:∀(j:Nat) (oj:Oper),l.toArray[j]?=some oj->∀e∈oj.after,Region.binds .any e=true->e.on<l.toArray.size:=λj oj hj e he hb=>by
  have h4:=Array.all_eq_true'.1 h3 oj (Array.mem_of_getElem? hj);have h5:=Array.all_eq_true'.1 h4 e he;simpa[hb]using h5
 have hself:∀j,j<l.toArray.size->Region.waitsFor .any l.toArray j j=false:=λj hj=>(h1 j (h2 j hj)).2;have hi0:i0<l.toArray.size:=(Array.getElem?_eq_some_iff.1 h0).1;refine wp_region_any hm ?_;have key:∀n,n=l.toArray.size->wpAny P .any l.toArray Q n (Array.replicate l.toArray.size false) a w.drew:=by
  intro n hn;obtain rfl:n=jo.length+iC.length+1:=by omega
  refine wpAny_take h0 hsel hfree abj hQ hy ?_;have hun:∀k,k<l.toArray.size->(((Array.replicate l.toArray.size false).setIfInBounds i0 true).getD k true=false↔(k∈jo\/k∈iC)):=λk hk=>by
   rw[Ns (by simpa using hi0)];constructor
   ·rintro⟨_,hne⟩;rcases List.mem_cons.1 (h2 k hk)with h|h
    ·exact absurd h hne
    ·exact List.mem_append.1 h
   ·intro hm;exact⟨getD_in (by simpa using hk) (getD_replicate_false _ _),λe=>abk (by rw[<-e];exact List.mem_append.2 hm)⟩
  refine UA iC iC.length (Region.noSelect_spec hsel) hG f hrange hself jo.length jo _ (λ_=>False) _ _ rfl (Dh jo hp1) (λi hi=>(h1 i (List.mem_cons_of_mem _ (List.mem_append_left _ hi))).1) (by simp) hun
   (λe he i hi=>⟨(hE e he i hi).1.1,(hE e he i hi).1.2,(hE e he i hi).2⟩) (λj oj hj hl e he hb=>?_) hC (λk hk=>hk.elim) ?_ h
  ·exfalso;by_cases hji:i0=j
   ·subst hji;rw[h0]at hj;obtain rfl:=Option.some.inj hj;rw[h0]at hafter;have h5:=Array.all_eq_true'.1 hafter e he;simp[hb]at h5
   ·rw[getD_set_ne false hji,getD_replicate_false]at hl;cases hl
  ·rintro listed a' w' hsz abl hcl⟨C2,N2,hG2,hC2,hW2⟩;exact Nu (Region.noSelect_spec hsel) hG2 f hrange hself iC.length iC listed (λ_=>False) a' w' rfl (Dh iC hp2) (λi hi=>(h1 i (List.mem_cons_of_mem _ (List.mem_append_right _ hi))).1) hsz abl hcl hC2 (λk hk=>hk.elim) hW2
 exact key _ rfl
end
theorem I5 {w w1 w2:World} {row:Option Nat} (h:w.grownBy w1 row) (hb:Below w1.heap.size w1 w2):w.grownBy w2 row :=
 ⟨hb.os.trans h.os,hb.tape.trans h.tape,hb.output.trans h.output,Nat.le_trans h.size hb.size,λk hk hr=>(hb.block k (Nat.lt_of_lt_of_le hk h.size)).trans (h.block k hk hr)⟩
theorem UN {T:Nat->Prop} {B br:Nat} {en:Int} {w w':World} {vt vo:Value} {ts:List Tk} {out:Rd} (h:rW B br en w vt vo ts out) (hE:ah T w w') (hT:∀k,T k->B<=k/\vo.ownBlock≠some k):rW B br en w' vt vo ts out:=by
 have hn:¬T br:=λht=>by have:=(hT br ht).1;have:=h.lt;omega
 have hbr:br<w.heap.size:=Nat.lt_of_lt_of_le h.lt h.sz;have hF:Fr B br w w':=Fr.exc h.sz hE (λk hk=>.inr (hT k hk).1);exact⟨h.lt,Nat.le_trans h.sz hE.size,(hE.cell.1 br 0 hbr hn).trans h.c0,(hE.cell.1 br 1 hbr hn).trans h.c1,(hE.cell.1 br 2 hbr hn).trans h.c2,λi=>(hE.cell.2 br i hbr hn).trans (h.fz i),h.tk.fr hF h.low,h.low,gV hE h.own (λk hk ht=>(hT k ht).2 hk),h.nil⟩
theorem abm {w:World} {B e sz:Nat} {v:Value} {n:Nat} {xs:List Value} (h:w.ownsRow B e sz v n xs) {k t:Nat} {cs:Array Value} (hk:w.heap[k]?=some (.cells cs t)) (ne:t≠e):v.ownBlock≠some k:=by
 intro hv;rcases h.2 with⟨rfl,_⟩|⟨g,cap,cur,rfl,_,hgg,_⟩
 ·simp[Value.ownBlock]at hv
 simp[Value.ownBlock]at hv;subst hv;rw[hk]at hgg;simp at hgg;exact ne hgg.2
theorem abn (w:World) (e:TypeId) (s:ByteArray):Below w.heap.size w (Lib.bytesWorld w e s):=⟨rfl,rfl,rfl,by rw[Lib.bytesWorld_size];omega,λj hj=>Lib.bytesWorld_at_old w e s j hj⟩
theorem abo {k:Int} (h:¬(k=1\/k=7\/k=13)):(k==1)=false/\mQ k=false:=by
 simp only[not_or]at h;simp[mQ,h.1,h.2.1,h.2.2]
theorem abp (B br:Nat) (en:Int) (f:Nat) (t:Tk) (r:List Tk) (out:Rd) (w:World) (h:dM B br en w (t::r) out) (hsum:out.length+((r).length+1)<=40000) (hk:t.kind=1) (h1:bg t.text=17) :
  Calls Tryz.prog 206 #[.pointer (some ⟨br,0,none⟩)] w (lM B br en w (t::r) out (bQ (f+1) (t::r) out)):=by
 have hy:bJ (t::r) ⟨#[40]⟩=false:=by simp[bJ,hk]
 have hy':bI (t::r) 40=false:=by simp[bI,hk]
 have HE:Hid (bQ (f+1) (t::r) out=⟨false,r,out++[(⟨17,0,t.text⟩,t.pos)]⟩):=(show _=_ by rw[bQ.eq_def];simp[hy',hk,h1,jI])
 obtain⟨i0,hi,hz0,hz1,hz2⟩:=info_parts Dq;obtain⟨vt,vo,h'⟩:=id h;have c0:=h'.c0;have hsz:=h'.sz;obtain⟨b,o,c,rfl,hc,k0,k1,k2⟩:=h'.tk.head;clear h';have HK:=Lib.hid hk;clear hk;have H1:=Lib.hid h1;clear h1;go_enter Tryz.func206,Tryz.ntmps206;go_wp2_with (first|(go_at_call 204;refine(lK B br en (t::r) out _ _ h).mono ?_;rintro e w1⟨rfl,rfl⟩;rw[hy])|(go_at_call 197;refine(yK B br en t (r) out _ h HK.out).mono ?_;rintro e w2⟨rfl,⟨yM,I7,hv2⟩,hx2⟩;obtain⟨ao,cp,rfl⟩:=jW hv2.own)|(go_at_call 147;refine(Aa _ _).mono ?_;rintro e w3⟨rfl,hb3⟩;rw[H1.out];have hv3:=jV hv2 hb3;have q2:=hv3.c2;have tV:br<w3.heap.size:=Nat.lt_of_lt_of_le hv3.lt hv3.sz)|(go_at_call 141;refine(yN _ _).mono ?_;rintro e w4⟨rfl,rfl⟩;rw[show mQ 17=false from rfl]))
 obtain⟨W,hW⟩:∃W,W=w3.alloc (.cells #[.int .i64 17,.int .i64 0,.string t.text] 87):=⟨_,rfl⟩
 rw[<-hW];obtain⟨nb,lg⟩:∃nb,nb=w3.heap.size:=⟨_,rfl⟩
 rw[<-lg];have aU:rW B br en W yM (Value.slice ao out.length cp) r out:=by rw[hW];exact jV hv3 (aj _ _)
 have n0:W.cell? ⟨nb,0,none⟩=some (.int .i64 17):=by rw[hW,lg];simp
 have n1:W.cell? ⟨nb,1,none⟩=some (.int .i64 0):=by rw[hW,lg];simp
 have n2:W.cell? ⟨nb,2,none⟩=some (.string t.text):=by rw[hW,lg];simp
 have NH:nb<W.heap.size:=by rw[hW,lg];simp
 have nK:B<=nb:=by rw[lg];exact hv3.sz
 have qM:Fr B br w W:=(Fr.exc hsz hx2 (λk hk=>.inl hk)).trans ((Fr.below hv2.sz hb3).trans (by rw[hW];exact Fr.below hv3.sz (aj _ _)));clear hW lg hv3 q2 tV hb3 hx2 hv2;have q2:=aU.c2;have f2:=aU.fz 2;have NI:br<W.heap.size:=Nat.lt_of_lt_of_le aU.lt aU.sz;have NJ:¬nb=br:=by have:=aU.lt;omega
 have hown0:(Value.slice ao out.length cp).ownBlock≠some br:=λe=>by have:=(World.ownsRow.lt aU.own _ e).1;have:=aU.lt;omega
 refine Fa (C:=ah (aQ) _) 9 0 [1,2,3,4,5,6,7,8] [9,10,11,12] (.pointer (some ⟨br,0,none⟩)) rfl (by kernel_rfl) (by kernel_rfl) (λ_ _ _ h=>h) (Or.inl ⟨by rfl,λ_=>by go_simp⟩) (ah.grows _ _) (ah.refl _ _) ?_;go_simp;iterate 7 (apply ay rfl rfl rfl;(focus intro u hc' hf';go_simp<;>rfl);intro K hK;go_simp;apply hK;clear hK K)
 refine fG rfl rfl rfl (ah.grows _ _) (ah.refl _ _) (λb=>.slice (some ⟨b,0,none⟩) 1 1) (λK hK=>?_);apply Exists.intro;refine⟨λw' hw'=>?_,λbb w5 hw5 hb5 aI hNb hnb=>?_⟩
 ·obtain⟨hc',hf'⟩:=hw'.cell;try simp only[World.size_drew]at hc' hf'
  go_simp;rfl
 go_simp;refine hK _ _ _ ?_;clear hK K;refine aK ?_;have hb6:Below W.heap.size W w5:=(Below.refl _ W).drew.trans ((hw5.toBelow).mono (by simp));have hv6:=jV aU hb6;refine⟨ah (λk=>k=br\/(Value.slice ao out.length cp).ownBlock=some k) w5,w5.heap.size,ah.grows _ _,ah.refl _ _,?_⟩;refine rU rfl rfl rfl (ah.refl _ _) (.tmp 87) (.tmp 91) 156 rfl B 234 i0 _ 4 40 Tryz.underlying156 hi hz0 hz1 hz2 rfl (by decide) (.slice ao out.length cp) out.length (out.flatMap iV) rfl (λk hk=>.inl ⟨(World.ownsRow.lt hv6.own k hk).2,.inr hk⟩) (.slice (some ⟨bb,0,none⟩) 1 1) 1 (iV (⟨17,0,t.text⟩,t.pos)) rfl ?c1 (by unfold maxLen;omega) (by omega) hv6.sz ?c2 ?_;case c1=>intro u hu;simp[iV]at hu;rcases hu with rfl|rfl|rfl|rfl<;>rfl
 case c2 =>
  intro w8 hw8 hb8
  refine⟨bW hb8 hv6.own,rfl,.inr ⟨_,1,rfl,?_⟩⟩
  obtain⟨m0,m1,m2⟩:=made_cell ((hb8.block bb (made_cell aI).2.2).trans aI)
  intro j u hj
  match j,hj with
  | 0,hj=>simp[iV]at hj;subst hj;simp[Addr.add,m0]
  | 1,hj=>simp[iV]at hj;subst hj;simp[Addr.add,m0]
  | 2,hj=>simp[iV]at hj;subst hj;simp[Addr.add,m0]
  | 3,hj=>simp[iV]at hj;subst hj;simp[Addr.add,m0]
 intro K hK w8 w9 v9 hw8 hb8 g_ iK eu iL;obtain⟨a9,c9,rfl⟩:=jW g_;go_simp;refine hK _ _ _ ?_;clear hK K;iterate 2 (apply fF rfl rfl rfl;(focus intro u hc' hf';(try simp only[World.size_drew]at hc' hf');go_simp<;>rfl);intro K hK;go_simp;apply hK;clear hK K)
 refine eH rfl rfl rfl (ah.grows _ _) eu (λK hK=>?_);intro w10 qN bf;have h_:=jV hv6 hb8;have t_:br<w8.heap.size:=Nat.lt_of_lt_of_le h_.lt h_.sz;have jD:ah (λk=>(Value.slice ao out.length cp).ownBlock=some k) w8 w9:=(ah.refl _ _).grown iK (λk hk=>.inr hk);have k9:=ak bf ((jD.cell.1 br 2 t_ hown0).trans h_.c2);have f9:w10.frozen? ⟨br,2,none⟩=false:=(bf.frozen (p:=⟨br,2,none⟩) (by have:=jD.size;simp;omega)).trans ((jD.cell.2 br 2 t_ hown0).trans (h_.fz 2));have s9:=cell_lt k9;have kP:=E9 (⟨17,0,t.text⟩,t.pos) h_ (I5 iK bf) (bW bf g_);have NK:br<w5.heap.size:=Nat.lt_of_lt_of_le hv6.lt hv6.sz;refine⟨w10.setCell ⟨br,2,none⟩ (.slice a9 (out.length+1) c9),?_,⟨aB qN (.inr (.inl rfl)) _,by simp,λj hj _ _=>by rw[Below.heap_setCell _ _ _ _ (by show ¬_=_;intro hh;simp only at hh;omega)]⟩,?_⟩
 ·go_simp
 go_simp;refine hK _ _ _ ?_;clear hK K;refine aK ?_;have mO:=(qM.trans (Fr.below aU.sz (hb6.trans (hb8.mono hb6.size)))).trans kP.2;go_wp2;exact bodyPost_ret (v:=.nilIface) (by simp[results,Tryz.results206,go_sem]) rfl (by rw[HE.out];exact⟨⟨_,_,kP.1⟩,mO,by simp<;>omega,by simp<;>omega,rfl⟩)
theorem abq (B br:Nat) (en:Int) (f:Nat) (t:Tk) (r:List Tk) (out:Rd) (w:World) (h:dM B br en w (t::r) out) (hsum:out.length+((r).length+1)<=40000) (hk:t.kind=1) (h1:¬(bg t.text=1\/bg t.text=7\/bg t.text=13)) (h2:bg t.text≠17) :
  Calls Tryz.prog 206 #[.pointer (some ⟨br,0,none⟩)] w (lM B br en w (t::r) out (bQ (f+1) (t::r) out)):=by
 have hy:bJ (t::r) ⟨#[40]⟩=false:=by simp[bJ,hk]
 have hy':bI (t::r) 40=false:=by simp[bI,hk]
 have HE:Hid (bQ (f+1) (t::r) out=⟨false,r,out++[(⟨bg t.text,0,⟨#[]⟩⟩,t.pos)]⟩):=(show _=_ by rw[bQ.eq_def];simp[hy',hk,h1,h2,jI])
 obtain⟨i0,hi,hz0,hz1,hz2⟩:=info_parts Dq;obtain⟨vt,vo,h'⟩:=id h;have c0:=h'.c0;have hsz:=h'.sz;obtain⟨b,o,c,rfl,hc,k0,k1,k2⟩:=h'.tk.head;clear h';have HK:=Lib.hid hk;clear hk;obtain⟨g1,g2⟩:=abo h1;have g3:(bg t.text==17)=false:=by simpa using h2
 clear h1 h2;obtain⟨kw,hkw⟩:∃kw,bg t.text=kw:=⟨_,rfl⟩
 rw[hkw]at g1 g2 g3 HE;have Dt:=Lib.hid hkw;clear hkw;go_enter Tryz.func206,Tryz.ntmps206;go_wp2_with (first|(go_at_call 204;refine(lK B br en (t::r) out _ _ h).mono ?_;rintro e w1⟨rfl,rfl⟩;rw[hy])|(go_at_call 197;refine(yK B br en t (r) out _ h HK.out).mono ?_;rintro e w2⟨rfl,⟨yM,I7,hv2⟩,hx2⟩;obtain⟨ao,cp,rfl⟩:=jW hv2.own)|(go_at_call 147;refine(Aa _ _).mono ?_;rintro e w3⟨rfl,hb3⟩;rw[Dt.out];have hv3:=jV hv2 hb3;have q2:=hv3.c2;have tV:br<w3.heap.size:=Nat.lt_of_lt_of_le hv3.lt hv3.sz)|(go_at_call 141;refine(yN _ _).mono ?_;rintro e w4⟨rfl,rfl⟩;rw[g2]))
 obtain⟨W,hW⟩:∃W,W=w3.alloc (.cells #[.int .i64 kw,.int .i64 0,.string ⟨#[]⟩] 87):=⟨_,rfl⟩
 rw[<-hW];obtain⟨nb,lg⟩:∃nb,nb=w3.heap.size:=⟨_,rfl⟩
 rw[<-lg];have aU:rW B br en W yM (Value.slice ao out.length cp) r out:=by rw[hW];exact jV hv3 (aj _ _)
 have n0:W.cell? ⟨nb,0,none⟩=some (.int .i64 kw):=by rw[hW,lg];simp
 have n1:W.cell? ⟨nb,1,none⟩=some (.int .i64 0):=by rw[hW,lg];simp
 have n2:W.cell? ⟨nb,2,none⟩=some (.string ⟨#[]⟩):=by rw[hW,lg];simp
 have NH:nb<W.heap.size:=by rw[hW,lg];simp
 have nK:B<=nb:=by rw[lg];exact hv3.sz
 have qM:Fr B br w W:=(Fr.exc hsz hx2 (λk hk=>.inl hk)).trans ((Fr.below hv2.sz hb3).trans (by rw[hW];exact Fr.below hv3.sz (aj _ _)));clear hW lg hv3 q2 tV hb3 hx2 hv2;have q2:=aU.c2;have f2:=aU.fz 2;have NI:br<W.heap.size:=Nat.lt_of_lt_of_le aU.lt aU.sz;have NJ:¬nb=br:=by have:=aU.lt;omega
 have hown0:(Value.slice ao out.length cp).ownBlock≠some br:=λe=>by have:=(World.ownsRow.lt aU.own _ e).1;have:=aU.lt;omega
 refine Fa (C:=ah (aQ) _) 9 0 [1,2,3,4,5,6,7,8] [9,10,11,12] (.pointer (some ⟨br,0,none⟩)) rfl (by kernel_rfl) (by kernel_rfl) (λ_ _ _ h=>h) (Or.inl ⟨by rfl,λ_=>by go_simp⟩) (ah.grows _ _) (ah.refl _ _) ?_;go_simp;iterate 7 (apply ay rfl rfl rfl;(focus intro u hc' hf';go_simp<;>rfl);intro K hK;go_simp;apply hK;clear hK K)
 refine fG rfl rfl rfl (ah.grows _ _) (ah.refl _ _) (λb=>.slice (some ⟨b,0,none⟩) 1 1) (λK hK=>?_);apply Exists.intro;refine⟨λw' hw'=>?_,λbb w5 hw5 hb5 aI hNb hnb=>?_⟩
 ·obtain⟨hc',hf'⟩:=hw'.cell;try simp only[World.size_drew]at hc' hf'
  go_simp;rfl
 go_simp;refine hK _ _ _ ?_;clear hK K;refine aK ?_;have hb6:Below W.heap.size W w5:=(Below.refl _ W).drew.trans ((hw5.toBelow).mono (by simp));have hv6:=jV aU hb6;refine⟨ah (λk=>k=br\/(Value.slice ao out.length cp).ownBlock=some k) w5,w5.heap.size,ah.grows _ _,ah.refl _ _,?_⟩;refine rU rfl rfl rfl (ah.refl _ _) (.tmp 87) (.tmp 91) 156 rfl B 234 i0 _ 4 40 Tryz.underlying156 hi hz0 hz1 hz2 rfl (by decide) (.slice ao out.length cp) out.length (out.flatMap iV) rfl (λk hk=>.inl ⟨(World.ownsRow.lt hv6.own k hk).2,.inr hk⟩) (.slice (some ⟨bb,0,none⟩) 1 1) 1 (iV (⟨kw,0,⟨#[]⟩⟩,t.pos)) rfl ?c1 (by unfold maxLen;omega) (by omega) hv6.sz ?c2 ?_;case c1=>intro u hu;simp[iV]at hu;rcases hu with rfl|rfl|rfl|rfl<;>rfl
 case c2 =>
  intro w8 hw8 hb8
  refine⟨bW hb8 hv6.own,rfl,.inr ⟨_,1,rfl,?_⟩⟩
  obtain⟨m0,m1,m2⟩:=made_cell ((hb8.block bb (made_cell aI).2.2).trans aI)
  intro j u hj
  match j,hj with
  | 0,hj=>simp[iV]at hj;subst hj;simp[Addr.add,m0]
  | 1,hj=>simp[iV]at hj;subst hj;simp[Addr.add,m0]
  | 2,hj=>simp[iV]at hj;subst hj;simp[Addr.add,m0]
  | 3,hj=>simp[iV]at hj;subst hj;simp[Addr.add,m0]
 intro K hK w8 w9 v9 hw8 hb8 g_ iK eu iL;obtain⟨a9,c9,rfl⟩:=jW g_;go_simp;refine hK _ _ _ ?_;clear hK K;iterate 2 (apply fF rfl rfl rfl;(focus intro u hc' hf';(try simp only[World.size_drew]at hc' hf');go_simp<;>rfl);intro K hK;go_simp;apply hK;clear hK K)
 refine eH rfl rfl rfl (ah.grows _ _) eu (λK hK=>?_);intro w10 qN bf;have h_:=jV hv6 hb8;have t_:br<w8.heap.size:=Nat.lt_of_lt_of_le h_.lt h_.sz;have jD:ah (λk=>(Value.slice ao out.length cp).ownBlock=some k) w8 w9:=(ah.refl _ _).grown iK (λk hk=>.inr hk);have k9:=ak bf ((jD.cell.1 br 2 t_ hown0).trans h_.c2);have f9:w10.frozen? ⟨br,2,none⟩=false:=(bf.frozen (p:=⟨br,2,none⟩) (by have:=jD.size;simp;omega)).trans ((jD.cell.2 br 2 t_ hown0).trans (h_.fz 2));have s9:=cell_lt k9;have kP:=E9 (⟨kw,0,⟨#[]⟩⟩,t.pos) h_ (I5 iK bf) (bW bf g_);have NK:br<w5.heap.size:=Nat.lt_of_lt_of_le hv6.lt hv6.sz;refine⟨w10.setCell ⟨br,2,none⟩ (.slice a9 (out.length+1) c9),?_,⟨aB qN (.inr (.inl rfl)) _,by simp,λj hj _ _=>by rw[Below.heap_setCell _ _ _ _ (by show ¬_=_;intro hh;simp only at hh;omega)]⟩,?_⟩
 ·go_simp
 go_simp;refine hK _ _ _ ?_;clear hK K;refine aK ?_;have mO:=(qM.trans (Fr.below aU.sz (hb6.trans (hb8.mono hb6.size)))).trans kP.2;go_wp2;exact bodyPost_ret (v:=.nilIface) (by simp[results,Tryz.results206,go_sem]) rfl (by rw[HE.out];exact⟨⟨_,_,kP.1⟩,mO,by simp<;>omega,by simp<;>omega,rfl⟩)
theorem abr (B br:Nat) (en:Int) (f:Nat) (t:Tk) (r:List Tk) (out:Rd) (w:World) (h:dM B br en w (t::r) out) (hsum:out.length+((r).length+1)<=40000) (hk:t.kind=1) (h1:bg t.text=1\/bg t.text=7\/bg t.text=13) (hn:∀n r2,r=n::r2->n.kind≠2) :
  Calls Tryz.prog 206 #[.pointer (some ⟨br,0,none⟩)] w (lM B br en w (t::r) out (bQ (f+1) (t::r) out)):=by
 have hy:bJ (t::r) ⟨#[40]⟩=false:=by simp[bJ,hk]
 have hy':bI (t::r) 40=false:=by simp[bI,hk]
 have HE:Hid (bQ (f+1) (t::r) out=⟨true,r,out⟩):=(show _=_ by rw[bQ.eq_def];cases r with|nil=>simp[hy',hk,h1]|cons n r2=>simp[hy',hk,h1,hn n r2 rfl])
 obtain⟨i0,hi,hz0,hz1,hz2⟩:=info_parts Dq;obtain⟨vt,vo,h'⟩:=id h;have c0:=h'.c0;have hsz:=h'.sz;obtain⟨b,o,c,rfl,hc,k0,k1,k2⟩:=h'.tk.head;clear h';have HK:=Lib.hid hk;clear hk;obtain⟨kw,hkw⟩:∃kw,bg t.text=kw:=⟨_,rfl⟩
 rw[hkw]at h1;have Dt:=Lib.hid hkw;clear hkw;have hgg:(kw==1)=true\/((kw==1)=false/\mQ kw=true):=by rcases h1 with rfl|rfl|rfl<;>simp[mQ]
 clear h1;have hr:r=[]\/∃n r2,r=n::r2/\(n.kind != 2)=true:=by
  cases r with
  | nil=>exact .inl rfl
  | cons n r2=>exact .inr ⟨n,r2,rfl,by simpa using hn n r2 rfl⟩
 clear hn;rcases hr with rfl|⟨n,r2,rfl,g2⟩
 ·rcases hgg with g1|⟨g1,g3⟩
  all_goals
   go_enter Tryz.func206,Tryz.ntmps206
   go_wp2_with (first|(go_at_call 204;refine(lK B br en (t::[]) out _ _ h).mono ?_;rintro e w1⟨rfl,rfl⟩;rw[hy])|(go_at_call 197;refine(yK B br en t ([]) out _ h HK.out).mono ?_;rintro e w2⟨rfl,⟨yM,I7,hv2⟩,hx2⟩;obtain⟨ao,cp,rfl⟩:=jW hv2.own)|(go_at_call 147;refine(Aa _ _).mono ?_;rintro e w3⟨rfl,hb3⟩;rw[Dt.out];have hv3:=jV hv2 hb3;have q2:=hv3.c2;have tV:br<w3.heap.size:=Nat.lt_of_lt_of_le hv3.lt hv3.sz;have aU:=jV hv3 (aj w3 (.cells #[.int .i64 kw,.int .i64 0,.string ⟨#[]⟩] 87));have qM:Fr B br w (w3.alloc (.cells #[.int .i64 kw,.int .i64 0,.string ⟨#[]⟩] 87)):=(Fr.exc hsz hx2 (λk hk=>.inl hk)).trans ((Fr.below hv2.sz hb3).trans (Fr.below hv3.sz (aj _ _)));have z0:=aU.c0;obtain⟨a3,c3,rfl,hc3⟩:=aU.tk.shape)|(go_at_call 141;refine(yN _ _).mono ?_;rintro e w4⟨rfl,rfl⟩;rw[g3])|(go_at_call 153;refine(Dp B br en ([]) out _ ⟨_,_,aU⟩).mono ?_;rintro e w6⟨rfl,rfl⟩;simp only[bD]))
   exact bodyPost_ret (v:=bD (gU [] en,4)) (by simp[results,Tryz.results206,go_sem,bD]) rfl (by rw[HE.out];exact⟨⟨_,_,aU⟩,qM,by simp,by simp,rfl⟩)
 ·rcases hgg with g1|⟨g1,g3⟩
  all_goals
   go_enter Tryz.func206,Tryz.ntmps206
   go_wp2_with (first|(go_at_call 204;refine(lK B br en (t::n::r2) out _ _ h).mono ?_;rintro e w1⟨rfl,rfl⟩;rw[hy])|(go_at_call 197;refine(yK B br en t (n::r2) out _ h HK.out).mono ?_;rintro e w2⟨rfl,⟨yM,I7,hv2⟩,hx2⟩;obtain⟨ao,cp,rfl⟩:=jW hv2.own)|(go_at_call 147;refine(Aa _ _).mono ?_;rintro e w3⟨rfl,hb3⟩;rw[Dt.out];have hv3:=jV hv2 hb3;have q2:=hv3.c2;have tV:br<w3.heap.size:=Nat.lt_of_lt_of_le hv3.lt hv3.sz;have aU:=jV hv3 (aj w3 (.cells #[.int .i64 kw,.int .i64 0,.string ⟨#[]⟩] 87));have qM:Fr B br w (w3.alloc (.cells #[.int .i64 kw,.int .i64 0,.string ⟨#[]⟩] 87)):=(Fr.exc hsz hx2 (λk hk=>.inl hk)).trans ((Fr.below hv2.sz hb3).trans (Fr.below hv3.sz (aj _ _)));have z0:=aU.c0;obtain⟨b3,o3,c3,rfl,hc3,j0,j1,j2⟩:=aU.tk.head)|(go_at_call 141;refine(yN _ _).mono ?_;rintro e w4⟨rfl,rfl⟩;rw[g3])|(go_at_call 153;refine(Dp B br en (n::r2) out _ ⟨_,_,aU⟩).mono ?_;rintro e w6⟨rfl,rfl⟩;simp only[bD]))
   exact bodyPost_ret (v:=bD (gU (n::r2) en,4)) (by simp[results,Tryz.results206,go_sem,bD]) rfl (by rw[HE.out];exact⟨⟨_,_,aU⟩,qM,by simp,by simp,rfl⟩)
theorem abt (B br:Nat) (en:Int) (f:Nat) (t:Tk) (n:Tk) (r:List Tk) (out:Rd) (w:World) (h:dM B br en w (t::n::r) out) (hsum:out.length+((n::r).length+1)<=40000) (hk:t.kind=1) (h1:bg t.text=1\/bg t.text=7\/bg t.text=13) (hn:n.kind=2) :
  Calls Tryz.prog 206 #[.pointer (some ⟨br,0,none⟩)] w (lM B br en w (t::n::r) out (bQ (f+1) (t::n::r) out)):=by
 have hy:bJ (t::n::r) ⟨#[40]⟩=false:=by simp[bJ,hk]
 have hy':bI (t::n::r) 40=false:=by simp[bI,hk]
 have HE:Hid (bQ (f+1) (t::n::r) out=⟨false,r,out++[(⟨bg t.text,jB n.text,⟨#[]⟩⟩,t.pos)]⟩):=(show _=_ by rw[bQ.eq_def];simp[hy',hk,h1,hn])
 obtain⟨i0,hi,hz0,hz1,hz2⟩:=info_parts Dq;obtain⟨vt,vo,h'⟩:=id h;have c0:=h'.c0;have hsz:=h'.sz;obtain⟨b,o,c,rfl,hc,k0,k1,k2⟩:=h'.tk.head;have hnum:=h'.tk.1.tail.head.num hn;clear h';have HK:=Lib.hid hk;clear hk;obtain⟨kw,hkw⟩:∃kw,bg t.text=kw:=⟨_,rfl⟩
 rw[hkw]at h1 HE;have Dt:=Lib.hid hkw;clear hkw;have hgg:(kw==1)=true\/((kw==1)=false/\mQ kw=true):=by rcases h1 with rfl|rfl|rfl<;>simp[mQ]
 have h17:(kw==17)=false:=by rcases h1 with rfl|rfl|rfl<;>rfl
 have g2:(n.kind != 2)=false:=by simp[hn]
 clear h1 hn;obtain⟨nv,NP⟩:∃nv,jB n.text=nv:=⟨_,rfl⟩
 have HAT:Hid (Lib.atoi n.text.data.toList=some nv/\n.text.size<=18):=(show _/\_ from⟨by rw[<-NP];exact aaM hnum.1 hnum.2.1,by omega⟩)
 rw[NP]at HE;clear NP hnum;have hfd:∀w:World,(Instr.field 171 (.agg #[.int .i64 n.kind,.string n.text,.int .i64 n.pos]) 1).run Tryz.prog w=.ok (.string n.text) w:=λ_=>by kernel_rfl
 rcases hgg with g1|⟨g1,g3⟩
 all_goals
  go_enter Tryz.func206,Tryz.ntmps206
  go_wp2_with (first|(go_at_call 204;refine(lK B br en (t::n::r) out _ _ h).mono ?_;rintro e w1⟨rfl,rfl⟩;rw[hy])|(go_at_call 197;refine(yK B br en t (n::r) out _ h HK.out).mono ?_;rintro e w2⟨rfl,⟨yM,I7,hv2⟩,hx2⟩;obtain⟨ao,cp,rfl⟩:=jW hv2.own)|(go_at_call 147;refine(Aa _ _).mono ?_;rintro e w3⟨rfl,hb3⟩;rw[Dt.out];have hv3:=jV hv2 hb3;have q2:=hv3.c2;have tV:br<w3.heap.size:=Nat.lt_of_lt_of_le hv3.lt hv3.sz;have mV:=jV hv3 (aj w3 (.cells #[.int .i64 kw,.int .i64 0,.string ⟨#[]⟩] 87));have z0:=mV.c0;obtain⟨b3,o3,c3,rfl,hc3,j0,j1,j2⟩:=mV.tk.head)|(go_at_call 141;refine(yN _ _).mono ?_;rintro e w4⟨rfl,rfl⟩;rw[g3])|(go_at_call 205;refine(take_any B br en n r out _ ⟨_,_,mV⟩).mono ?_;rintro e w5⟨rfl,⟨vt5,vo5,hv5⟩,hx5⟩;simp only[pU];obtain⟨tX,cp5,rfl⟩:=jW hv5.own)|(go_at_call 216;refine(Tryz.strconv_Atoi _ _ HAT.out.2 HAT.out.1 _).mono ?_;rintro e w6⟨rfl,ahf,hw6⟩;have hb6:Below w5.heap.size w5 w6:=(by rw[hw6];exact abn _ _ _);clear hw6;have hB3:=hv3.sz;have hB0:=hv3.lt;have hnn:¬w3.heap.size=br:=(by omega);have x0:w6.cell? ⟨w3.heap.size,0,none⟩=some (.int .i64 kw):=ak hb6 ((hx5.cell.1 w3.heap.size 0 (by simp) hnn).trans (by simp));have x1:w6.cell? ⟨w3.heap.size,1,none⟩=some (.int .i64 0):=ak hb6 ((hx5.cell.1 w3.heap.size 1 (by simp) hnn).trans (by simp));have x2:w6.cell? ⟨w3.heap.size,2,none⟩=some (.string ⟨#[]⟩):=ak hb6 ((hx5.cell.1 w3.heap.size 2 (by simp) hnn).trans (by simp));have xf:w6.frozen? ⟨w3.heap.size,1,none⟩=false:=(hb6.frozen (p:=⟨w3.heap.size,1,none⟩) (by have:=hx5.size;simp at this;simp;omega)).trans ((hx5.cell.2 w3.heap.size 1 (by simp) hnn).trans (by simp));have hob:=abm hv5.own (k:=w3.heap.size) ((hx5.block w3.heap.size (by simp) hnn).trans (heap_alloc_new _ _)) (by decide);have s6:=cell_lt x0))
  obtain⟨nb,lg⟩:∃nb,nb=w3.heap.size:=⟨_,rfl⟩
  rw[<-lg]at x0 x1 x2 xf hob hnn s6 ⊢
  have nK:B<=nb:=by rw[lg];exact hB3
  clear lg
  obtain⟨W,hW⟩:∃W,W=w6.setCell ⟨nb,1,none⟩ (.int .i64 nv):=⟨_,rfl⟩
  rw[<-hW]
  have hv6:=jV hv5 hb6
  have Ac:ah (λk=>k=nb) w6 W:=by rw[hW];exact aB (T:=λk=>k=nb) (ah.refl _ _) (.inr rfl) _
  have aU:rW B br en W vt5 (Value.slice tX out.length cp5) r out:=UN hv6 Ac (λk hk=>by subst hk;exact⟨nK,hob⟩)
  have n0:W.cell? ⟨nb,0,none⟩=some (.int .i64 kw):=by rw[hW];go_simp
  have n1:W.cell? ⟨nb,1,none⟩=some (.int .i64 nv):=by rw[hW];go_simp
  have n2:W.cell? ⟨nb,2,none⟩=some (.string ⟨#[]⟩):=by rw[hW];go_simp
  have NH:nb<W.heap.size:=by rw[hW];simpa using s6
  have qM:Fr B br w W:=((((Fr.exc hsz hx2 (λk hk=>.inl hk)).trans (Fr.below hv2.sz hb3)).trans (Fr.below hv3.sz (aj _ _))).trans ((Fr.exc mV.sz hx5 (λk hk=>.inl hk)).trans (Fr.below hv5.sz hb6))).trans (Fr.exc hv6.sz Ac (λk hk=>.inr (by subst hk;exact nK)))
  clear Ac hv6 hW hv5 hx5 hb6 mV hv3 q2 tV hb3 hx2 hv2 x0 x1 x2 xf hob s6 z0 j0 j1 j2
  have q2:=aU.c2
  have f2:=aU.fz 2
  have NI:br<W.heap.size:=Nat.lt_of_lt_of_le aU.lt aU.sz
  have NJ:¬nb=br:=by have:=aU.lt;omega
  have hown0:(Value.slice tX out.length cp5).ownBlock≠some br:=λe=>by have:=(World.ownsRow.lt aU.own _ e).1;have:=aU.lt;omega
  refine Fa (C:=ah (aQ) _) 9 0 [1,2,3,4,5,6,7,8] [9,10,11,12] (.pointer (some ⟨br,0,none⟩)) rfl (by kernel_rfl) (by kernel_rfl) (λ_ _ _ h=>h) (Or.inl ⟨by rfl,λ_=>by go_simp⟩) (ah.grows _ _) (ah.refl _ _) ?_
  go_simp
  iterate 7 (apply ay rfl rfl rfl;(focus intro u hc' hf';go_simp<;>rfl);intro K hK;go_simp;apply hK;clear hK K)
  refine fG rfl rfl rfl (ah.grows _ _) (ah.refl _ _) (λb=>.slice (some ⟨b,0,none⟩) 1 1) (λK hK=>?_)
  apply Exists.intro
  refine⟨λw' hw'=>?_,λbb w5 hw5 hb5 aI hNb hnb=>?_⟩
  ·obtain⟨hc',hf'⟩:=hw'.cell
   try simp only[World.size_drew]at hc' hf'
   go_simp
   rfl
  go_simp
  refine hK _ _ _ ?_
  clear hK K
  refine aK ?_
  have hb6:Below W.heap.size W w5:=(Below.refl _ W).drew.trans ((hw5.toBelow).mono (by simp))
  have hv6:=jV aU hb6
  refine⟨ah (λk=>k=br\/(Value.slice tX out.length cp5).ownBlock=some k) w5,w5.heap.size,ah.grows _ _,ah.refl _ _,?_⟩
  refine rU rfl rfl rfl (ah.refl _ _) (.tmp 87) (.tmp 91) 156 rfl B 234 i0 _ 4 40 Tryz.underlying156 hi hz0 hz1 hz2 rfl (by decide) (.slice tX out.length cp5) out.length (out.flatMap iV) rfl (λk hk=>.inl ⟨(World.ownsRow.lt hv6.own k hk).2,.inr hk⟩) (.slice (some ⟨bb,0,none⟩) 1 1) 1 (iV (⟨kw,nv,⟨#[]⟩⟩,t.pos)) rfl ?c1 (by unfold maxLen;omega) (by omega) hv6.sz ?c2 ?_
  case c1=>intro u hu;simp[iV]at hu;rcases hu with rfl|rfl|rfl|rfl<;>rfl
  case c2 =>
   intro w8 hw8 hb8
   refine⟨bW hb8 hv6.own,rfl,.inr ⟨_,1,rfl,?_⟩⟩
   obtain⟨m0,m1,m2⟩:=made_cell ((hb8.block bb (made_cell aI).2.2).trans aI)
   intro j u hj
   match j,hj with
   | 0,hj=>simp[iV]at hj;subst hj;simp[Addr.add,m0]
   | 1,hj=>simp[iV]at hj;subst hj;simp[Addr.add,m0]
   | 2,hj=>simp[iV]at hj;subst hj;simp[Addr.add,m0]
   | 3,hj=>simp[iV]at hj;subst hj;simp[Addr.add,m0]
  intro K hK w8 w9 v9 hw8 hb8 g_ iK eu iL
  obtain⟨a9,c9,rfl⟩:=jW g_
  go_simp
  refine hK _ _ _ ?_
  clear hK K
  iterate 2 (apply fF rfl rfl rfl;(focus intro u hc' hf';(try simp only[World.size_drew]at hc' hf');go_simp<;>rfl);intro K hK;go_simp;apply hK;clear hK K)
  refine eH rfl rfl rfl (ah.grows _ _) eu (λK hK=>?_)
  intro w10 qN bf
  have h_:=jV hv6 hb8
  have t_:br<w8.heap.size:=Nat.lt_of_lt_of_le h_.lt h_.sz
  have jD:ah (λk=>(Value.slice tX out.length cp5).ownBlock=some k) w8 w9:=(ah.refl _ _).grown iK (λk hk=>.inr hk)
  have k9:=ak bf ((jD.cell.1 br 2 t_ hown0).trans h_.c2)
  have f9:w10.frozen? ⟨br,2,none⟩=false:=(bf.frozen (p:=⟨br,2,none⟩) (by have:=jD.size;simp;omega)).trans ((jD.cell.2 br 2 t_ hown0).trans (h_.fz 2))
  have s9:=cell_lt k9
  have kP:=E9 (⟨kw,nv,⟨#[]⟩⟩,t.pos) h_ (I5 iK bf) (bW bf g_)
  have NK:br<w5.heap.size:=Nat.lt_of_lt_of_le hv6.lt hv6.sz
  refine⟨w10.setCell ⟨br,2,none⟩ (.slice a9 (out.length+1) c9),?_,⟨aB qN (.inr (.inl rfl)) _,by simp,λj hj _ _=>by rw[Below.heap_setCell _ _ _ _ (by show ¬_=_;intro hh;simp only at hh;omega)]⟩,?_⟩
  ·go_simp
  go_simp
  refine hK _ _ _ ?_
  clear hK K
  refine aK ?_
  have mO:=(qM.trans (Fr.below aU.sz (hb6.trans (hb8.mono hb6.size)))).trans kP.2
  go_wp2
  exact bodyPost_ret (v:=.nilIface) (by simp[results,Tryz.results206,go_sem]) rfl (by rw[HE.out];exact⟨⟨_,_,kP.1⟩,mO,by simp<;>omega,by simp<;>omega,rfl⟩)
abbrev NQ (B br:Nat) (en:Int) (f:Nat):Prop:=∀ts out w,ts.length<=f->out.length+ts.length<=40000->dM B br en w ts out->Calls Tryz.prog 206 #[.pointer (some ⟨br,0,none⟩)] w (lM B br en w ts out (bQ f ts out))
abbrev UO (B br:Nat) (en:Int) (f:Nat):Prop:=∀ts out w,ts.length<=f->out.length+ts.length<=40000->dM B br en w ts out->Calls Tryz.prog 190 #[.pointer (some ⟨br,0,none⟩)] w (lM B br en w ts out (fU f ts out))
abbrev NR (B br:Nat) (en:Int) (f:Nat):Prop:=∀ts out w,ts.length<=f->out.length+ts.length<=40000->dM B br en w ts out->Calls Tryz.prog 152 #[.pointer (some ⟨br,0,none⟩)] w (lM B br en w ts out (fQ f ts out))
theorem abu (B br:Nat) (en:Int) (f:Nat) (hT:∀g,g+1=f->NR B br en g):NQ B br en f:=by
 intro ts out w hts hsum h;cases hy:bJ ts ⟨#[40]⟩with
 | true =>
  cases ts with
  | nil=>simp[bJ]at hy
  | cons t r =>
   obtain⟨g,rfl⟩:∃g,f=g+1:=⟨f-1,by simp at hts;omega⟩
   exact abg B br en g (hT g rfl) t r out w (by simpa using hts) (by simpa using hsum) h hy
 | false =>
  by_cases hk:∃t r,ts=t::r/\t.kind=1
  ·obtain⟨t,r,rfl,hk⟩:=hk
   obtain⟨g,rfl⟩:∃g,f=g+1:=⟨f-1,by simp at hts;omega⟩
   by_cases hv:bg t.text=1\/bg t.text=7\/bg t.text=13
   ·by_cases hn:∃n r2,r=n::r2/\n.kind=2
    ·obtain⟨n,r2,rfl,hn⟩:=hn
     exact abt B br en g t n r2 out w h (by simpa using hsum) hk hv hn
    ·exact abr B br en g t r out w h (by simpa using hsum) hk hv (λn r2 e hh=>hn ⟨n,r2,e,hh⟩)
   ·by_cases h17:bg t.text=17
    ·exact abp B br en g t r out w h (by simpa using hsum) hk h17
    ·exact abq B br en g t r out w h (by simpa using hsum) hk hv h17
  ·exact abh B br en f ts out w hts h hy (λt r e hh=>hk ⟨t,r,e,hh⟩)
theorem UQ (B br:Nat) (en:Int):∀f:Nat,∀g,g<=f->NQ B br en g/\UO B br en g/\NR B br en g
 | f=>by
  intro g hg;have hp:∀k,k<=g->NQ B br en k:=λk hk=>abu B br en k (λj hj=>(UQ B br en j j (Nat.le_refl _)).2.2);have hr:∀k,k<=g->UO B br en k:=λk hk ts out w hts hsum h=>abe B br en k (λj hj=>hp j (by omega)) ts out w hts hsum h;exact⟨hp g (Nat.le_refl _),hr g (Nat.le_refl _),λts out w hts hsum h=>abf B br en g hr ts out w hts hsum h⟩
 termination_by f=>f
 decreasing_by omega
theorem abv (B br:Nat) (en:Int) (f:Nat):NR B br en f:=(UQ B br en f f (Nat.le_refl _)).2.2
end Go.Proofs.YtikgblkfmpecfaaGreatDoor
