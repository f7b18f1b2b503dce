/-
  The reference's sxWord: the text of a leaf. Own work.
-/
import Derived.Test.YtikgblkfmpecfaaGreatDoorWU
import Derived.Test.YtikgblkfmpecfaaGreatDoorWE
import Derived.Deep.DeepCutAuto
import Derived.Test.YtikgblkfmpecfaaGreatDoorWW
set_option linter.all false
set_option maxRecDepth 100000
set_option maxHeartbeats 8000000
namespace Go.Proofs.YtikgblkfmpecfaaGreatDoor
open Go.RowKit
theorem agN {w:World} {v:Value} {j:Nat} {b:Nat} {n c:Nat} (h:w_ w v reserved) (hv:v=.slice (some ⟨b,0,none⟩) n c) (hk:j<14):w.cell? ⟨b,j,none⟩=some (.string (word ((j:Int)+1))):=by
 subst hv;obtain⟨a,cap,ha,hc,hat⟩:=h;simp only[Value.slice.injEq,Option.some.injEq]at ha;obtain⟨rfl,_,_⟩:=ha;obtain⟨b',o',hb,hl,hx⟩:=hat j hk;simp only[Option.some.injEq,Addr.mk.injEq]at hb;obtain⟨rfl,rfl,_⟩:=hb;have e:(⟨b,0+j*1,none⟩:Addr)=⟨b,j,none⟩:=by simp
 rw[e]at hx;rw[hx];unfold word kN;have e2:((j:Int)+1).toNat=j+1:=by omega
 rw[List.getD_eq_getElem?_getD,e2,List.getElem?_cons_succ,List.getElem?_eq_getElem hl];rfl
theorem ML (j:Nat) (hk:j<14) (w:World):Calls Tryz.prog 145 #[] w λe w'=>∃n:Nat,e=.returned (.slice (some ⟨w.heap.size,0,none⟩) n n)/\j<n/\w'.cell? ⟨w.heap.size,j,none⟩=some (.string (word ((j:Int)+1)))/\Below w.heap.size w w'/\w.heap.size<w'.heap.size :=
 (Fb w).mono λe w' ⟨n,q1,q2,q3,q4,q5,q6⟩=>⟨n,q1,by omega,agN q4 rfl hk,q5,q6⟩
theorem agO (w:World):Calls Tryz.prog 145 #[] w λe w'=>∃n:Nat,e=.returned (.slice (some ⟨w.heap.size,0,none⟩) n n)/\0<n/\w'.cell? ⟨w.heap.size,0,none⟩=some (.string (word 1))/\Below w.heap.size w w'/\w.heap.size<w'.heap.size:=ML 0 (by omega) w
theorem agP (nv:Int) (nn:ByteArray) (w:World) (h3:0<=nv) (h4:nv<=96) (hnum:∀w,Calls Tryz.prog 106 #[.int .i64 nv] w λe w'=>e=.returned (.string (eG nv))/\Below w.heap.size w w') :
  Calls Tryz.prog 88 #[.agg #[.int .i64 1,.int .i64 nv,.string nn]] w λe w'=>e=.returned (.string (word 1++iH++eG nv))/\Below w.heap.size w w':=by
 have hsz:=Io 1;have hsz2:=Il h3 h4;have hbz:(iH++eG nv).size<=3:=by rw[bsize];have:iH.size=1:=rfl;omega
 have e1:IntKind.i64.wrap (1-1)=0:=by decide
 have e2:IntKind.i64.wrap 0=0:=by decide
 go_enter Tryz.func88,Tryz.ntmps88;go_wp2_with fail
 go_region_with ((go_at_call 145;refine(agO _).mono ?_;rintro e w3⟨n3,rfl,hkn,hc0,hb3,hz3⟩;obtain⟨hc3,hf3,hs3⟩:=bH hb3;simp only[World.size_alloc,World.size_drew]at hc0 hz3 hs3 hb3 hc3 hf3))
 all_goals
  clear e1 e2
  go_wp2_with (go_at_call 106;refine(hnum _).mono ?_;rintro e w4⟨rfl,hb4⟩)
  go_ret
  refine⟨by rw[ByteArray.append_assoc];rfl,?_⟩
  first|(refine Below.trans ?_ (Below.mono hb4 (by omega));refine Below.trans ?_ (Below.mono hb3 (by omega));repeat(first|exact Below.refl _ _|with_reducible refine Below.drew ?_|refine Below.alloc ?_ (by simp<;>omega) _))|(refine Below.trans ?_ (Below.mono hb3 (by omega));repeat(first|exact Below.refl _ _|with_reducible refine Below.drew ?_|refine Below.alloc ?_ (by simp<;>omega) _))
theorem agQ (w:World):Calls Tryz.prog 145 #[] w λe w'=>∃n:Nat,e=.returned (.slice (some ⟨w.heap.size,0,none⟩) n n)/\6<n/\w'.cell? ⟨w.heap.size,6,none⟩=some (.string (word 7))/\Below w.heap.size w w'/\w.heap.size<w'.heap.size:=ML 6 (by omega) w
theorem agR (nv:Int) (nn:ByteArray) (w:World) (h3:0<=nv) (h4:nv<=96) (hnum:∀w,Calls Tryz.prog 106 #[.int .i64 nv] w λe w'=>e=.returned (.string (eG nv))/\Below w.heap.size w w') :
  Calls Tryz.prog 88 #[.agg #[.int .i64 7,.int .i64 nv,.string nn]] w λe w'=>e=.returned (.string (word 7++iH++eG nv))/\Below w.heap.size w w':=by
 have hsz:=Io 7;have hsz2:=Il h3 h4;have hbz:(iH++eG nv).size<=3:=by rw[bsize];have:iH.size=1:=rfl;omega
 have e1:IntKind.i64.wrap (7-1)=6:=by decide
 have e2:IntKind.i64.wrap 6=6:=by decide
 go_enter Tryz.func88,Tryz.ntmps88;go_wp2_with fail
 go_region_with ((go_at_call 145;refine(agQ _).mono ?_;rintro e w3⟨n3,rfl,hkn,hc0,hb3,hz3⟩;obtain⟨hc3,hf3,hs3⟩:=bH hb3;simp only[World.size_alloc,World.size_drew]at hc0 hz3 hs3 hb3 hc3 hf3))
 all_goals
  clear e1 e2
  go_wp2_with (go_at_call 106;refine(hnum _).mono ?_;rintro e w4⟨rfl,hb4⟩)
  go_ret
  refine⟨by rw[ByteArray.append_assoc];rfl,?_⟩
  first|(refine Below.trans ?_ (Below.mono hb4 (by omega));refine Below.trans ?_ (Below.mono hb3 (by omega));repeat(first|exact Below.refl _ _|with_reducible refine Below.drew ?_|refine Below.alloc ?_ (by simp<;>omega) _))|(refine Below.trans ?_ (Below.mono hb3 (by omega));repeat(first|exact Below.refl _ _|with_reducible refine Below.drew ?_|refine Below.alloc ?_ (by simp<;>omega) _))
theorem agS (w:World):Calls Tryz.prog 145 #[] w λe w'=>∃n:Nat,e=.returned (.slice (some ⟨w.heap.size,0,none⟩) n n)/\12<n/\w'.cell? ⟨w.heap.size,12,none⟩=some (.string (word 13))/\Below w.heap.size w w'/\w.heap.size<w'.heap.size:=ML 12 (by omega) w
theorem agT (nv:Int) (nn:ByteArray) (w:World) (h3:0<=nv) (h4:nv<=96) (hnum:∀w,Calls Tryz.prog 106 #[.int .i64 nv] w λe w'=>e=.returned (.string (eG nv))/\Below w.heap.size w w') :
  Calls Tryz.prog 88 #[.agg #[.int .i64 13,.int .i64 nv,.string nn]] w λe w'=>e=.returned (.string (word 13++iH++eG nv))/\Below w.heap.size w w':=by
 have hsz:=Io 13;have hsz2:=Il h3 h4;have hbz:(iH++eG nv).size<=3:=by rw[bsize];have:iH.size=1:=rfl;omega
 have e1:IntKind.i64.wrap (13-1)=12:=by decide
 have e2:IntKind.i64.wrap 12=12:=by decide
 go_enter Tryz.func88,Tryz.ntmps88;go_wp2_with fail
 go_region_with ((go_at_call 145;refine(agS _).mono ?_;rintro e w3⟨n3,rfl,hkn,hc0,hb3,hz3⟩;obtain⟨hc3,hf3,hs3⟩:=bH hb3;simp only[World.size_alloc,World.size_drew]at hc0 hz3 hs3 hb3 hc3 hf3))
 all_goals
  clear e1 e2
  go_wp2_with (go_at_call 106;refine(hnum _).mono ?_;rintro e w4⟨rfl,hb4⟩)
  go_ret
  refine⟨by rw[ByteArray.append_assoc];rfl,?_⟩
  first|(refine Below.trans ?_ (Below.mono hb4 (by omega));refine Below.trans ?_ (Below.mono hb3 (by omega));repeat(first|exact Below.refl _ _|with_reducible refine Below.drew ?_|refine Below.alloc ?_ (by simp<;>omega) _))|(refine Below.trans ?_ (Below.mono hb3 (by omega));repeat(first|exact Below.refl _ _|with_reducible refine Below.drew ?_|refine Below.alloc ?_ (by simp<;>omega) _))
theorem agU (j:Nat) (nv:Int) (nn:ByteArray) (w:World) (h2:j<14) (hv:¬((j:Int)+1=1\/(j:Int)+1=7\/(j:Int)+1=13)) :
  Calls Tryz.prog 88 #[.agg #[.int .i64 ((j:Int)+1),.int .i64 nv,.string nn]] w λe w'=>e=.returned (.string (word ((j:Int)+1)))/\Below w.heap.size w w':=by
 have g1:((j:Int)+1==17)=false:=by simp;omega
 have g2:((j:Int)+1==1)=false:=by simp;omega
 have g3:((j:Int)+1==7)=false:=by simp;omega
 have g4:((j:Int)+1==13)=false:=by simp;omega
 have e1:IntKind.i64.wrap ((j:Int)+1-1)=j:=by rw[show(j:Int)+1-1=j by omega];exact IntWalk.i64_in _ (by omega)
 have e2:IntKind.i64.wrap (j:Int)=j:=IntWalk.i64_in _ (by omega);have hj0:(0:Int)<=j:=by omega
 clear hv;go_enter Tryz.func88,Tryz.ntmps88;go_wp2_with fail
 go_region_with ((go_at_call 145;refine(ML j (by omega) _).mono ?_;rintro e w3⟨n3,rfl,hkn,hc0,hb3,hz3⟩;obtain⟨hc3,hf3,hs3⟩:=bH hb3;simp only[World.size_alloc,World.size_drew]at hc0 hz3 hs3 hb3 hc3 hf3))
 all_goals
  clear e1 e2
  go_wp2
  go_ret
  refine⟨rfl,?_⟩
  first|(refine Below.trans ?_ (Below.mono hb4 (by omega));refine Below.trans ?_ (Below.mono hb3 (by omega));repeat(first|exact Below.refl _ _|with_reducible refine Below.drew ?_|refine Below.alloc ?_ (by simp<;>omega) _))|(refine Below.trans ?_ (Below.mono hb3 (by omega));repeat(first|exact Below.refl _ _|with_reducible refine Below.drew ?_|refine Below.alloc ?_ (by simp<;>omega) _))
theorem agV (n:Nd) (w:World) (hok:wH n) (hnum:∀v w,0<=v->v<=96->Calls Tryz.prog 106 #[.int .i64 v] w λe w'=>e=.returned (.string (eG v))/\Below w.heap.size w w') :
  Calls Tryz.prog 88 #[.agg #[.int .i64 n.kind,.int .i64 n.value,.string n.name]] w λe w'=>e=.returned (.string (jr n))/\Below w.heap.size w w':=by
 by_cases h17:n.kind=17
 ·have g1:(n.kind==17)=true:=by simp[h17]
  have HR:Hid (jr n=n.name):=(show _=_ by simp[jr,h17])
  clear h17 hok hnum;go_enter Tryz.func88,Tryz.ntmps88;go_wp2;go_ret
  exact⟨by rw[HR.out];rfl,aj _ _⟩
 ·obtain⟨h1,h2,h3,h4⟩:1<=n.kind/\n.kind<=14/\0<=n.value/\n.value<=96:=by
   rcases hok with⟨h,_⟩|h
   ·exact absurd h h17
   ·exact h
  obtain⟨nk,nv,nn⟩:=n;simp only at h17 h1 h2 h3 h4;by_cases hv:nk=1\/nk=7\/nk=13
  ·rw[show jr ⟨nk,nv,nn⟩=word nk++iH++eG nv by unfold jr;rw[if_neg h17,if_pos hv]];rcases hv with rfl|rfl|rfl
   ·exact agP nv nn w h3 h4 λw=>hnum nv w h3 h4
   ·exact agR nv nn w h3 h4 λw=>hnum nv w h3 h4
   ·exact agT nv nn w h3 h4 λw=>hnum nv w h3 h4
  ·rw[show jr ⟨nk,nv,nn⟩=word nk by unfold jr;rw[if_neg h17,if_neg hv]];obtain⟨j,hj⟩:=Int.eq_ofNat_of_zero_le (show 0<=nk-1 by omega);obtain rfl:nk=(j:Int)+1:=by omega
   exact agU j nv nn w (by omega) hv
theorem agW:(Tryz.prog.info? 9).map (λi=>(i.zero,i.size,i.bytes))=some (some (.string ⟨#[]⟩),1,16):=by kernel_rfl
theorem agX:(Tryz.prog.info? 3).map (λi=>(i.zero,i.size,i.bytes))=some (some (.int .i64 0),1,8):=by kernel_rfl
def CQ (t:Tr):List Value:=[.int .i64 t.top]
theorem TL (t:Tr):(CQ t).length=1:=rfl
theorem aaq {t:Tr} (h:t.Ok):(t.top==15)=t.iP:=by
 cases t with
 | leaf n=>simp only[Tr.Ok,wH]at h;simp[Tr.top,Tr.iP];omega
 | seq a b=>rfl
 | par a b=>rfl
theorem aar {t:Tr} (h:t.Ok):(t.top==16)=t.iy:=by
 cases t with
 | leaf n=>simp only[Tr.Ok,wH]at h;simp[Tr.top,Tr.iy];omega
 | seq a b=>rfl
 | par a b=>rfl
theorem Iw:∀(ns:List Nd) (st:List Tr) {ts:List Tr},bZ ns st=some ts->(∀t∈ts,t.Ok)->(∀t∈st,t.Ok)/\∀n∈ns,¬(n.kind=15\/n.kind=16)->wH n
 | [],st,ts,h,ho=>by
  simp only[bZ,Option.some.injEq]at h;subst h;exact⟨ho,by simp⟩
 | n::r,st,ts,h,ho=>by
  by_cases h15:n.kind=15
  ·match st,h with
   | b::a::st',h =>
    rw[Ed h15]at h
    obtain⟨h1,h2⟩:=Iw r _ h ho
    have hs:=h1 (.seq a b) (by simp)
    refine⟨λt ht=>?_,λm hm hk=>?_⟩
    ·rcases List.mem_cons.1 ht with rfl|ht
     ·exact hs.2
     ·rcases List.mem_cons.1 ht with rfl|ht
      ·exact hs.1
      ·exact h1 t (by simp[ht])
    ·rcases List.mem_cons.1 hm with rfl|hm
     ·exact absurd (.inl h15) hk
     ·exact h2 m hm hk
   | [],h=>rw[wM (.inl h15) (by simp)]at h;cases h
   | [a],h=>rw[wM (.inl h15) (by simp)]at h;cases h
  ·by_cases h16:n.kind=16
   ·match st,h with
    | b::a::st',h =>
     rw[Ee h16]at h
     obtain⟨h1,h2⟩:=Iw r _ h ho
     have hs:=h1 (.par a b) (by simp)
     refine⟨λt ht=>?_,λm hm hk=>?_⟩
     ·rcases List.mem_cons.1 ht with rfl|ht
      ·exact hs.2
      ·rcases List.mem_cons.1 ht with rfl|ht
       ·exact hs.1
       ·exact h1 t (by simp[ht])
     ·rcases List.mem_cons.1 hm with rfl|hm
      ·exact absurd (.inr h16) hk
      ·exact h2 m hm hk
    | [],h=>rw[wM (.inr h16) (by simp)]at h;cases h
    | [a],h=>rw[wM (.inr h16) (by simp)]at h;cases h
   ·rw[Ef (by omega)]at h;obtain⟨h1,h2⟩:=Iw r _ h ho;refine⟨λt ht=>h1 t (by simp[ht]),λm hm hk=>?_⟩;rcases List.mem_cons.1 hm with rfl|hm
    ·exact h1 (.leaf m) (by simp)
    ·exact h2 m hm hk
theorem H_:∀(ns:List Nd) (st:List Tr) {ts:List Tr},bZ ns st=some ts->ni ts=ni st+ns.length
 | [],st,ts,h=>by simp only[bZ,Option.some.injEq]at h;subst h;simp
 | n::r,st,ts,h=>by
  by_cases h15:n.kind=15
  ·match st,h with
   | b::a::st',h=>rw[Ed h15]at h;rw[H_ r _ h];simp[ni,Tr.count];omega
   | [],h=>rw[wM (.inl h15) (by simp)]at h;cases h
   | [a],h=>rw[wM (.inl h15) (by simp)]at h;cases h
  ·by_cases h16:n.kind=16
   ·match st,h with
    | b::a::st',h=>rw[Ee h16]at h;rw[H_ r _ h];simp[ni,Tr.count];omega
    | [],h=>rw[wM (.inr h16) (by simp)]at h;cases h
    | [a],h=>rw[wM (.inr h16) (by simp)]at h;cases h
   ·rw[Ef (by omega)]at h;rw[H_ r _ h];simp[ni,Tr.count];omega
theorem agY {st:List Tr} {t:Tr} (h:t∈st):t.count<=ni st:=by
 induction st with
 | nil=>cases h
 | cons x r ih =>
  simp only[ni,List.map_cons,List.sum_cons]
  rcases List.mem_cons.1 h with rfl|h
  ·omega
  ·have:=ih h;simp only[ni]at this;omega
theorem agZ {ns:List Nd} {k:Nat} {st:List Tr} {t:Tr} (h:bZ (ns.drop k) st.reverse=some [t]) (ho:t.Ok) (hc:t.count<=400):(∀x∈st,x.Ok)/\∀x∈st,x.count<=400:=by
 obtain⟨h1,_⟩:=Iw _ _ h (by simpa using ho);have h2:=H_ _ _ h;have h3:ni [t]=t.count:=by simp[ni]
 refine⟨λx hx=>h1 x (by simpa using hx),λx hx=>?_⟩;have:=agY (st:=st.reverse) (by simpa using hx);omega
theorem TM {a b:Value} (h:Apart a b):a.ownBlock=none\/a.ownBlock≠b.ownBlock:=by
 cases ha:a.ownBlock with
 | none=>exact .inl rfl
 | some k=>exact .inr λe=>h k ha e.symm
def zU (full:Bool) (t:Tr):List Value:=[.string (aV full t)]
theorem MN (full:Bool) (t:Tr):(zU full t).length=1:=rfl
structure aas (full:Bool) (ns:List Nd) (w wr:World) (v5 v6:Value) (k:Nat) (st:List Tr):Prop where
 txt:wr.ownsRow w.heap.size 9 1 v5 st.length (st.flatMap (zU full))
 knd:wr.ownsRow w.heap.size 3 1 v6 st.length (st.flatMap CQ)
 go:Hid (bZ ns []=bZ (ns.drop k) st.reverse)
 bel:Below w.heap.size w wr
 len:st.length<=k
 ok:∀t∈st,t.Ok
 cnt:∀t∈st,t.count<=400
theorem aat {full:Bool} {ns:List Nd} {w wr:World} {v5 v6:Value} {k:Nat} {st0:List Tr} {x t:Tr} (ht:bZ ns []=some [t]) (ho:t.Ok) (hc:t.count<=400)
  (h5:wr.ownsRow w.heap.size 9 1 v5 (st0.length+1) (st0.flatMap (zU full)++[.string (aV full x)])) (h6:wr.ownsRow w.heap.size 3 1 v6 (st0.length+1) (st0.flatMap CQ++[.int .i64 x.top]))
  (hgo:Hid (bZ ns []=bZ (ns.drop (k+1)) (x::st0.reverse))) (hb:Below w.heap.size w wr) (hk:st0.length<=k):aas full ns w wr v5 v6 (k+1) (st0++[x]):=by
 have hgo':bZ ns []=bZ (ns.drop (k+1)) (st0++[x]).reverse:=by rw[List.reverse_append];exact hgo.out
 obtain⟨q1,q2⟩:=agZ (hgo'.symm.trans ht) ho hc;refine⟨?_,?_,hgo',hb,by simp;omega,q1,q2⟩
 ·rw[List.length_append,List.flatMap_append];exact h5
 ·rw[List.length_append,List.flatMap_append];exact h6
theorem ag0 (full:Bool) (v:Value) (ns:List Nd) (t:Tr) (w:World) (hv:aZ w v ns) (hn:ns.length<=1048576) (ht:bZ ns []=some [t]) (ho:t.Ok) (hc4:t.count<=400)
  (hnum:∀v w,0<=v->v<=96->Calls Tryz.prog 106 #[.int .i64 v] w λe w'=>e=.returned (.string (eG v))/\Below w.heap.size w w') :
  Calls Tryz.prog 45 #[.agg #[v],.bool full] w λe w'=>e=.returned (.string (aV full t))/\Below w.heap.size w w':=by
 obtain⟨a,cap,rfl,hc,hat⟩:=hv;have HT:=Lib.hid ht;have hlf:=(Iw ns [] ht (by simpa using ho)).2;clear ht;obtain⟨i5,hi5,hz0,hz1,hz2⟩:=info_parts agW;obtain⟨i6,hi6,hy0,hy1,hy2⟩:=info_parts agX;go_enter Tryz.func45,Tryz.ntmps45;go_wp2;go_loopw [5,6,18] (λv5 v6 i wr=>∃(k:Nat) (st:List Tr),k<=ns.length/\i=.int .i64 k/\aas full ns w wr v5 v6 k st) (λ_ _ i _=>ns.length-(intOf i).toNat)
 case atStart =>
  refine⟨0,[],Nat.zero_le _,rfl,⟨by simp,.inl ⟨rfl,rfl⟩⟩,⟨by simp,.inl ⟨rfl,rfl⟩⟩,(by simp[Hid]:Hid (bZ ns []=bZ (ns.drop 0) ([]:List Tr).reverse)),aj _ _,Nat.le_refl _,by simp,by simp⟩
 case round =>
  obtain⟨k,st,hk,rfl,hst⟩:=hrel
  obtain⟨hx5,hx6,hgo,hbel,Dz,hok,hcnt⟩:=hst
  have hsz:=hbel.size
  by_cases hlt:k<ns.length
  ·obtain⟨b,o,rfl,_,hnd⟩:=hat k hlt
   obtain⟨c0,c1,c2⟩:=hnd.keep hbel
   clear hat hnd
   have hdrop:=List.drop_eq_getElem_cons hlt
   by_cases hk1:ns[k].kind=15\/ns[k].kind=16
   ·have hlen:¬st.length<2:=by
     intro hlen;have h0:=hgo.out;rw[HT.out,hdrop,wM hk1 (by simpa using hlen)]at h0;cases h0
    obtain⟨st0,p,q,rfl⟩:=Fh st hlen
    obtain⟨g5,cp5,rfl,ag1,aiq,air,ais⟩:=ug hx5 (by simp)
    obtain⟨g6,cp6,rfl,ag2,ait,aiu,aiv⟩:=ug hx6 (by simp)
    simp only[List.length_append,List.length_cons,List.length_nil,Nat.zero_add,Nat.reduceAdd]at hx5 hx6 ag1 ag2 Dz
    have d0:=gQ (MN full) hx5 st0.length 0 (by simp) (by omega)
    have d1:=gQ (MN full) hx5 (st0.length+1) 0 (by simp) (by omega)
    have d2:=gQ TL hx6 st0.length 0 (by simp) (by omega)
    have d3:=gQ TL hx6 (st0.length+1) 0 (by simp) (by omega)
    simp[zU,CQ]at d0 d1 d2 d3
    have hp:=hok p (by simp)
    have hq:=hok q (by simp)
    have hzp:=ou full p hp
    have hzq:=ou full q hq
    have hcp:=hcnt p (by simp)
    have hcq:=hcnt q (by simp)
    have hl0:st0.length<=1048576:=by omega
    have ag3:¬g6=g5:=λe=>oG hx6 hx5 (by decide) g6 rfl (by rw[e];rfl)
    have aau:wr.ownsRow w.heap.size 9 1 (.slice (some ⟨g5,0,none⟩) st0.length cp5) st0.length (st0.flatMap (zU full)):=by
     have h0:=uh hx5 st0.length (by omega);rw[List.flatMap_append,List.take_left' (by have:=flat_length (MN full) st0;omega)]at h0;exact h0
    have aav:wr.ownsRow w.heap.size 3 1 (.slice (some ⟨g6,0,none⟩) st0.length cp6) st0.length (st0.flatMap CQ):=by
     have h0:=uh hx6 st0.length (by omega);rw[List.flatMap_append,List.take_left' (by have:=flat_length TL st0;omega)]at h0;exact h0
    have e1:IntKind.i64.wrap ((st0.length:Int)+1)=(st0.length:Int)+1:=IntWalk.i64_in _ (by omega)
    have e2:((st0.length:Int)+1).toNat=st0.length+1:=by omega
    have e3:0<=(st0.length:Int)+1/\(st0.length:Int)+1<(st0.length:Int)+2:=by omega
    have e4:0<=(st0.length:Int)/\(st0.length:Int)<(st0.length:Int)+2:=by omega
    have e5:1<=(st0.length:Int)+2:=by omega
    have e6:0<=(st0.length:Int)/\(st0.length:Int)<=(cp6:Int):=by omega
    have e7:0<=(st0.length:Int)/\(st0.length:Int)<=(cp5:Int):=by omega
    have tp:=aaq hp
    have tp2:=aar hp
    have tq:=aaq hq
    have tq2:=aar hq
    obtain⟨sp,hsp⟩:∃b,p.iP=b:=⟨_,rfl⟩
    obtain⟨pp,hpp⟩:∃b,p.iy=b:=⟨_,rfl⟩
    obtain⟨sq,MO⟩:∃b,q.iP=b:=⟨_,rfl⟩
    obtain⟨pq,hpq⟩:∃b,q.iy=b:=⟨_,rfl⟩
    rw[hsp]at tp
    rw[hpp]at tp2
    rw[MO]at tq
    rw[hpq]at tq2
    obtain⟨x,ca,cb,sg,Gg,hxk,HX,Iy,Iz⟩:∃(x:Tr) (ca cb:Bool) (sg:ByteArray),Hid (bZ ns []=bZ (ns.drop (k+1)) (x::st0.reverse))/\Hid (x.top=ns[k].kind)/\Hid (aV full x=brk (aV full p) ca++sg++brk (aV full q) cb) /\
      Hid (ns[k].kind=15->ca=(full&&(sp || pp))/\cb=(sq || full&&pq)/\sg=(⟨#[32,59,32]⟩:ByteArray))/\Hid (ns[k].kind=16->ca=(sp || full&&pp)/\cb=(sq || pq)/\sg=(⟨#[32,42,32]⟩:ByteArray)):=by
     rcases hk1 with h|h
     ·exact⟨.seq p q,_,_,_,(show _=_ by rw[hgo.out,hdrop,show(st0++[p,q]).reverse=q::p::st0.reverse by simp,Ed h]),(show _=_ by rw[h];rfl),Lib.hid rfl,Lib.hid (λ_=>⟨by rw[hsp,hpp],by rw[MO,hpq],rfl⟩),Lib.hid (λh'=>by omega)⟩
     ·exact⟨.par p q,_,_,_,(show _=_ by rw[hgo.out,hdrop,show(st0++[p,q]).reverse=q::p::st0.reverse by simp,Ee h]),(show _=_ by rw[h];rfl),Lib.hid rfl,Lib.hid (λh'=>by omega),Lib.hid (λ_=>⟨by rw[hsp,hpp],by rw[MO,hpq],rfl⟩)⟩
    clear hsp hpp MO hpq
    have zA:=mD (aV full p) ca
    have zB:=mD (aV full q) cb
    have zS:sg.size=3:=by rcases hk1 with h|h;rw[(Iy.out h).2.2];rfl;rw[(Iz.out h).2.2];rfl
    have HK:=Lib.hid hk1
    clear hgo hdrop hlen hok hcnt hlf hp hq hx5 hx6 hk1
    go_upto_region 6 with fail
    go_cut [29] (λs29 wx=>s29=.bool false/\wx=(wr.alloc (.cells #[.int .i64 ns[k].kind,.int .i64 ns[k].value,.string ns[k].name] 87)))
    case first =>
     rcases HK.out with hk1|hk1
     ·have g1:(ns[k].kind != 15)=false:=by simp[hk1]
      clear hk1
      go_wp2_with fail
      go_meet
      case rel=>exact⟨rfl,rfl⟩
     ·have g1:(ns[k].kind != 15)=true:=by simp[hk1]
      have g2:(ns[k].kind != 16)=false:=by simp[hk1]
      clear hk1
      go_wp2_with fail
      go_meet
      case rel=>exact⟨rfl,rfl⟩
    case rest =>
     obtain⟨rfl,rfl⟩:=hcut
     go_wp2_with fail
     refine bC (C:=ah (aQ) _) 4 [0,1,2,3,4,5,6,7,8,9,10] (by kernel_rfl) (by kernel_rfl) (ah.grows _ _) (ah.refl _ _) ?_
     iterate 11 (apply ay rfl rfl rfl;(focus intro u hc' hf';go_simp<;>rfl);intro K hK;go_simp;apply hK;clear hK K)
     refine aK ?_
     go_wp2_with fail
     refine bC (C:=ah (aQ) _) 4 [0,1,2,3,4,5,6,7,8,9,10,11] (by kernel_rfl) (by kernel_rfl) (ah.grows _ _) (ah.refl _ _) ?_
     iterate 12 (apply ay rfl rfl rfl;(focus intro u hc' hf';go_simp<;>rfl);intro K hK;go_simp;apply hK;clear hK K)
     refine aK ?_
     go_upto_region 12 with fail
     go_cut [76] (λs76 wx=>s76=.bool ca/\wx=(wr.alloc (.cells #[.int .i64 ns[k].kind,.int .i64 ns[k].value,.string ns[k].name] 87)).drew.drew)
     case first =>
      rcases HK.out with hk1|hk1
      ·have hc:=(Iy.out hk1).1
       have g3:(ns[k].kind==16)=false:=by simp[hk1]
       clear hk1
       go_wp2_with fail
       all_goals
        first|(have hz:full=true:=(by assumption);subst hz)|(have hz:full=false:=(by rw[<-Bool.not_eq_true];assumption);subst hz)|skip
        first|(have hz:sp=true:=(by assumption);subst hz)|(have hz:sp=false:=(by rw[<-Bool.not_eq_true];assumption);subst hz)|skip
        first|(have hz:pp=true:=(by assumption);subst hz)|(have hz:pp=false:=(by rw[<-Bool.not_eq_true];assumption);subst hz)|skip
        go_meet
        case rel=>exact⟨by simp[hc],rfl⟩
      ·have hc:=(Iz.out hk1).1
       have g3:(ns[k].kind==16)=true:=by simp[hk1]
       clear hk1
       go_wp2_with fail
       all_goals
        first|(have hz:full=true:=(by assumption);subst hz)|(have hz:full=false:=(by rw[<-Bool.not_eq_true];assumption);subst hz)|skip
        first|(have hz:sp=true:=(by assumption);subst hz)|(have hz:sp=false:=(by rw[<-Bool.not_eq_true];assumption);subst hz)|skip
        first|(have hz:pp=true:=(by assumption);subst hz)|(have hz:pp=false:=(by rw[<-Bool.not_eq_true];assumption);subst hz)|skip
        go_meet
        case rel=>exact⟨by simp[hc],rfl⟩
     case rest =>
      obtain⟨rfl,rfl⟩:=hcut
      go_upto_if 76 with fail
      go_cut [10] (λs10 wx=>s10=.string (brk (aV full p) ca)/\wx=(wr.alloc (.cells #[.int .i64 ns[k].kind,.int .i64 ns[k].value,.string ns[k].name] 87)).drew.drew)
      case first =>
       cases ca
       ·go_wp2_with fail
        go_meet
        case rel=>exact⟨rfl,rfl⟩
       ·go_wp2_with fail
        go_meet
        case rel=>exact⟨rfl,rfl⟩
      case rest =>
       obtain⟨rfl,rfl⟩:=hcut
       go_wp2_with fail
       refine bC (C:=ah (aQ) _) 4 [0,1,2,3,4,5,6,7,8,9,10,11,12,13] (by kernel_rfl) (by kernel_rfl) (ah.grows _ _) (ah.refl _ _) ?_
       iterate 14 (apply ay rfl rfl rfl;(focus intro u hc' hf';go_simp<;>rfl);intro K hK;go_simp;apply hK;clear hK K)
       refine aK ?_
       go_upto_region 15 with fail
       go_cut [109] (λag4 wx=>ag4=.bool cb/\wx=(wr.alloc (.cells #[.int .i64 ns[k].kind,.int .i64 ns[k].value,.string ns[k].name] 87)).drew.drew.drew)
       case first =>
        rcases HK.out with hk1|hk1
        ·have hc:=(Iy.out hk1).2.1
         have g3:(ns[k].kind==16)=false:=by simp[hk1]
         clear hk1
         go_wp2_with fail
         all_goals
          first|(have hz:full=true:=(by assumption);subst hz)|(have hz:full=false:=(by rw[<-Bool.not_eq_true];assumption);subst hz)|skip
          first|(have hz:sq=true:=(by assumption);subst hz)|(have hz:sq=false:=(by rw[<-Bool.not_eq_true];assumption);subst hz)|skip
          first|(have hz:pq=true:=(by assumption);subst hz)|(have hz:pq=false:=(by rw[<-Bool.not_eq_true];assumption);subst hz)|skip
          go_meet
          case rel=>exact⟨by simp[hc],rfl⟩
        ·have hc:=(Iz.out hk1).2.1
         have g3:(ns[k].kind==16)=true:=by simp[hk1]
         clear hk1
         go_wp2_with fail
         all_goals
          first|(have hz:full=true:=(by assumption);subst hz)|(have hz:full=false:=(by rw[<-Bool.not_eq_true];assumption);subst hz)|skip
          first|(have hz:sq=true:=(by assumption);subst hz)|(have hz:sq=false:=(by rw[<-Bool.not_eq_true];assumption);subst hz)|skip
          first|(have hz:pq=true:=(by assumption);subst hz)|(have hz:pq=false:=(by rw[<-Bool.not_eq_true];assumption);subst hz)|skip
          go_meet
          case rel=>exact⟨by simp[hc],rfl⟩
       case rest =>
        obtain⟨rfl,rfl⟩:=hcut
        go_upto_if 109 with fail
        go_cut [11] (λs11 wx=>s11=.string (brk (aV full q) cb)/\wx=(wr.alloc (.cells #[.int .i64 ns[k].kind,.int .i64 ns[k].value,.string ns[k].name] 87)).drew.drew.drew)
        case first =>
         cases cb
         ·go_wp2_with fail
          go_meet
          case rel=>exact⟨rfl,rfl⟩
         ·go_wp2_with fail
          go_meet
          case rel=>exact⟨rfl,rfl⟩
        case rest =>
         obtain⟨rfl,rfl⟩:=hcut
         go_upto_if 115 with fail
         go_cut [14] (λs14 wx=>s14=.string sg/\wx=(wr.alloc (.cells #[.int .i64 ns[k].kind,.int .i64 ns[k].value,.string ns[k].name] 87)).drew.drew.drew)
         case first =>
          rcases HK.out with hk1|hk1
          ·have hc:=(Iy.out hk1).2.2
           have g3:(ns[k].kind==16)=false:=by simp[hk1]
           clear hk1
           go_wp2_with fail
           go_meet
           case rel=>exact⟨by rw[hc],rfl⟩
          ·have hc:=(Iz.out hk1).2.2
           have g3:(ns[k].kind==16)=true:=by simp[hk1]
           clear hk1
           go_wp2_with fail
           go_meet
           case rel=>exact⟨by rw[hc],rfl⟩
         case rest =>
          obtain⟨rfl,rfl⟩:=hcut
          obtain⟨A,hA⟩:∃A,A=brk (aV full p) ca:=⟨_,rfl⟩
          obtain⟨B,hB⟩:∃B,B=brk (aV full q) cb:=⟨_,rfl⟩
          rw[<-hA,<-hB]at HX
          rw[<-hA]at zA
          rw[<-hB]at zB
          rw[<-hA,<-hB]
          obtain⟨W,hW⟩:∃W,W=(wr.alloc (.cells #[.int .i64 ns[k].kind,.int .i64 ns[k].value,.string ns[k].name] 87)).drew.drew.drew:=⟨_,rfl⟩
          have hbW:Below w.heap.size w W:=by rw[hW];exact(hbel.alloc (by omega) _).drew.drew.drew
          have hzW:wr.heap.size<W.heap.size:=by rw[hW];simp
          have n0:W.cell? ⟨wr.heap.size,0,none⟩=some (.int .i64 ns[k].kind):=by rw[hW];simp
          have hW5:W.ownsRow w.heap.size 9 1 (.slice (some ⟨g5,0,none⟩) st0.length cp5) st0.length (st0.flatMap (zU full)):=by rw[hW];exact(aau.alloc _).drew.drew.drew
          have G9:W.ownsRow w.heap.size 3 1 (.slice (some ⟨g6,0,none⟩) st0.length cp6) st0.length (st0.flatMap CQ):=by rw[hW];exact(aav.alloc _).drew.drew.drew
          rw[<-hW]
          clear hW d0 d1 d2 d3 c0 c1 c2 aau aav hA hB tp tp2 tq tq2 Iy Iz
          go_wp2_with (at_builtin;refine wpList_append_own _ rfl _ _ 89 rfl w.heap.size 9 i5 _ 1 16 Tryz.underlying89 hi5 hz0 hz1 hz2 rfl (by decide) _ _ _ rfl (hW5.alloc _) ⟨W.heap.size,0,none⟩ 1 1 [.string (aV full x)] rfl rfl ?c1 ?c2 ?c3 ?c4 ?c5 ?_)
          case c1 =>
           intro j u hj
           match j,hj with
           | 0,hj=>simp at hj;subst hj;rw[HX.out];simp[Addr.add]
          case c2=>intro u hu;simp at hu;subst hu;rfl
          case c3=>unfold maxLen;omega
          case c4=>omega
          case c5=>have:=hbW.size;simp;omega
          intro v5 w3 hown3 hgrow _
          have n3:=hgrow.cell (jy n0 _) (λhh=>by simp[Value.ownBlock]at hh;omega)
          have zV:=World.ownsRow.kept (G9.alloc _) hgrow (.inr (by simp[Value.ownBlock];exact ag3))
          have hb3:Below w.heap.size w w3:=(hbW.alloc hbW.size _).grown hgrow (by have:=hbW.size;simp;omega) (λj hj=>by simp[Value.ownBlock]at hj;omega)
          have hz3:W.heap.size<w3.heap.size:=by have:=hgrow.size;simp at this;omega
          have hz3b:wr.heap.size<w3.heap.size:=by omega
          have hng:¬wr.heap.size=g6:=by omega
          have aiw:g6<w3.heap.size:=by omega
          clear hgrow hW5 G9 n0
          go_wp2_with fail
          refine bC (C:=ah ((λj=>j=g6)) _) 4 [0,1,2,3,4,5,6,7] (by kernel_rfl) (by kernel_rfl) (ah.grows _ _) (ah.refl _ _) ?_
          iterate 5 (apply fF rfl rfl rfl;(focus intro u hc' hf';(try simp only[World.size_drew]at hc' hf');go_simp<;>rfl);intro K hK;go_simp;apply hK;clear hK K)
          refine fG rfl rfl rfl (ah.grows _ _) (ah.refl _ _) (λb=>.slice (some ⟨b,0,none⟩) 1 1) (λK hK=>?_)
          apply Exists.intro
          refine⟨λw' hw'=>?_,λb7 w7 hw7 hb7 aI hNb hnb=>?_⟩
          ·go_simp
           rfl
          go_simp
          refine hK _ _ _ ?_
          clear hK K
          refine zZ rfl rfl rfl hw7 _ _ 130 rfl w.heap.size 3 i6 1 Tryz.underlying130 hi6 hy1 g6 st0.length cp6 (st0.flatMap CQ) rfl (by simp;omega) rfl ⟨b7,0,none⟩ 1 1 [.int .i64 ns[k].kind] rfl rfl ?c1 (by omega) ?c2 ?_
          case c1=>intro u hu;simp at hu;subst hu;rfl
          case c2 =>
           intro w8 hw8 hb8
           refine⟨bW hb8 (bW hb7 zV.drew),?_⟩
           obtain⟨m0,m1,m2⟩:=made_cell ((hb8.block b7 (made_cell aI).2.2).trans aI)
           intro j u hj
           match j,hj with
           | 0,hj=>simp at hj;subst hj;simp[Addr.add,m0]
          intro K hK w8 w9 hw8 hb8 g_ iK eu
          go_simp
          refine hK _ _ _ ?_
          clear hK K
          iterate 1 (apply fF rfl rfl rfl;(focus intro u hc' hf';(try simp only[World.size_drew]at hc' hf');go_simp<;>rfl);intro K hK;go_simp;apply hK;clear hK K)
          refine aK ?_
          have ag5:Below w3.heap.size w3.drew w8:=(hb7.trans (hb8.mono hb7.size)).mono (by simp)
          have IB:w9.ownsRow w.heap.size 9 1 v5 (st0.length+1) (st0.flatMap (zU full)++[.string (aV full x)]):=World.ownsRow.kept (bW (hb7.trans (hb8.mono hb7.size)) hown3.drew) iK (TM (oG (bW (hb7.trans (hb8.mono hb7.size)) hown3.drew) (bW (hb7.trans (hb8.mono hb7.size)) zV.drew) (by decide)))
          have bG:Below w.heap.size w w9:=((hb3.drew.trans ((hb7.trans (hb8.mono hb7.size)).mono (by simp;have:=hb3.size;omega)))).grown iK (by have:=hb3.size;have:=hb7.size;have:=hb8.size;simp at *;omega) (λj hj=>by cases hj;omega)
          rw[<-hxk.out]at g_
          have uj:=aat (full:=full) (x:=x) HT.out ho hc4 IB g_ Gg bG (by omega)
          clear hown3 g_ iK eu hw8 hb8 hw7 hb7 aI hNb hnb zV IB bG ag5 hb3 hbW Gg
          go_wp2
          go_roundw
          case rel=>exact⟨k+1,_,by omega,by go_num,uj⟩
          case measure=>simp[intOf];omega
   ·have g1:(ns[k].kind != 15)=true:=by simp;omega
    have g2:(ns[k].kind != 16)=true:=by simp;omega
    have jO:Hid (bZ ns []=bZ (ns.drop (k+1)) (.leaf ns[k]::st.reverse)):=(show _=_ by rw[hgo.out,hdrop,Ef hk1])
    have hlk:=hlf ns[k] (List.getElem_mem _) hk1
    have hlz:=aai hlk
    obtain⟨a5,cp5,rfl⟩:=jc hx5
    obtain⟨a6,cp6,rfl⟩:=jc hx6
    clear hk1 hgo hdrop hok hcnt hlf
    go_wp2_with (first|(go_at_call 88;refine(agV ns[k] _ hlk hnum).mono ?_;rintro e w2⟨rfl,hb2⟩;have hown2:=bW hb2 (hx5.alloc _);have hown6:=bW hb2 (hx6.alloc _);have OY:=hb2.size;obtain⟨m0,m1,m2⟩:=(show w2.cell? ⟨wr.heap.size,0,none⟩=some (.int .i64 ns[k].kind)/\w2.cell? ⟨wr.heap.size,1,none⟩=some (.int .i64 ns[k].value)/\w2.cell? ⟨wr.heap.size,2,none⟩=some (.string ns[k].name)from⟨(hb2.cell (p:=⟨wr.heap.size,0,none⟩) (by simp)).trans (by simp),(hb2.cell (p:=⟨wr.heap.size,1,none⟩) (by simp)).trans (by simp),(hb2.cell (p:=⟨wr.heap.size,2,none⟩) (by simp)).trans (by simp)⟩);simp only[World.size_alloc]at OY)|(at_builtin;refine wpList_append_own _ rfl _ _ 89 rfl w.heap.size 9 i5 _ 1 16 Tryz.underlying89 hi5 hz0 hz1 hz2 rfl (by decide) _ _ _ rfl (hown2.alloc _) ⟨w2.heap.size,0,none⟩ 1 1 [.string (jr ns[k])] rfl rfl ?c1 ?c2 ?c3 ?c4 ?c5 ?_))
    case c1 =>
     intro j u hj
     match j,hj with
     | 0,hj=>simp at hj;subst hj;simp[Addr.add]
    case c2=>intro u hu;simp at hu;subst hu;rfl
    case c3=>unfold maxLen;omega
    case c4=>omega
    case c5=>simp;omega
    intro v' w3 hown3 hgrow _
    have hne5:∀k,(Value.slice a5 st.length cp5).ownBlock=some k->k<wr.heap.size:=λk hk=>(World.ownsRow.lt hx5 k hk).2
    have hap:=oG (hown6.alloc (.cells #[.string (jr ns[k])] 9)) (hown2.alloc (.cells #[.string (jr ns[k])] 9)) (by decide)
    have zV:=World.ownsRow.kept (hown6.alloc _) hgrow (TM hap)
    have k0:=hgrow.cell (jy m0 (.cells #[.string (jr ns[k])] 9)) (λhh=>by have:=hne5 _ hh.symm;simp at this)
    have hb3:Below w.heap.size w w3:=(((hbel.alloc (by omega) _).trans (hb2.mono (by simp;omega))).alloc (by omega) _).grown hgrow (by simp;omega) (λj hj=>(World.ownsRow.lt hx5 j hj).1)
    have hz3:=hb3.size
    have iY:wr.heap.size<w3.heap.size:=by have:=hgrow.size;simp at this;omega
    clear hown2 hown6 hgrow hb2 m0 m1 m2 hap hx6
    go_wp2_with (at_builtin;refine wpList_append_own _ rfl _ _ 130 rfl w.heap.size 3 i6 _ 1 8 Tryz.underlying130 hi6 hy0 hy1 hy2 rfl (by decide) _ _ _ rfl (zV.alloc _) ⟨w3.heap.size,0,none⟩ 1 1 [.int .i64 ns[k].kind] rfl rfl ?d1 ?d2 ?d3 ?d4 ?d5 ?_)
    case d1 =>
     intro j u hj
     match j,hj with
     | 0,hj=>simp at hj;subst hj;simp[Addr.add]
    case d2=>intro u hu;simp at hu;subst hu;rfl
    case d3=>unfold maxLen;omega
    case d4=>omega
    case d5=>simp;omega
    intro v6 w4 hown4 hgrow4 _
    have aaw:=oG (hown3.alloc (.cells #[.int .i64 ns[k].kind] 3)) (zV.alloc (.cells #[.int .i64 ns[k].kind] 3)) (by decide)
    have IB:=World.ownsRow.kept (hown3.alloc _) hgrow4 (TM aaw)
    have hb4:Below w.heap.size w w4:=(hb3.alloc (by omega) _).grown hgrow4 (by simp;omega) (λj hj=>(World.ownsRow.lt zV j hj).1)
    have qC:=aat HT.out ho hc4 IB hown4 jO hb4 (by omega)
    clear hown3 hown4 hgrow4 zV IB hx5 hb3 hb4 aaw jO
    go_wp2
    go_roundw
    case rel=>exact⟨k+1,_,by omega,by go_num,qC⟩
    case measure=>simp[intOf];omega
  ·have hkn:k=ns.length:=by omega
   subst hkn
   have h0:=hgo.out
   rw[HT.out,List.drop_length,bZ]at h0
   have hst1:st=[t]:=by
    have:=congrArg List.reverse (Option.some.inj h0).symm;simpa using this
   subst hst1
   obtain⟨g,cp,rfl,hgc,hgm,hgB,hgs⟩:=ug hx5 (by simp)
   have d0:=gQ (MN full) hx5 0 0 (by simp) (by omega)
   simp[zU]at d0
   clear h0 hgo hat HT hlf hok hcnt
   go_wp2
   go_ret
   exact⟨rfl,hbel⟩
def TN:Prop:=∀(v:Int) (w:World),0<=v->v<=96->Calls Tryz.prog 106 #[.int .i64 v] w λe w'=>e=.returned (.string (eG v))/\Below w.heap.size w w'
theorem ag6 (hnum:TN) (v:Value) (e:En) (t:Tr) (w:World) (hk:e.kind=1) (hv:aZ w v e.body) (he:dW e) (ht:bZ e.body []=some [t]) (ho:t.Ok) (hc:t.count<=400) :
  Calls Tryz.prog 58 #[.agg #[.int .i64 e.kind,.string e.name,.string e.to,v]] w λr w'=>r=.returned (.string (aH e))/\Below w.heap.size w w':=by
 obtain⟨ab,cb,rfl⟩:=hv.slice;have hz:=ou false t ho;have HX:Hid (aH e=Ia++e.name++kT++aV false t):=(show _=_ by unfold aH;rw[if_pos hk,EK ht];simp only[ByteArray.append_assoc])
 have HT:=Lib.hid ht;have hnm:=he.1;have n1:¬9223372036854775807<4+e.name.size:=by omega
 have n2:¬9223372036854775807<4+e.name.size+3:=by omega
 have n3:¬9223372036854775807<4+e.name.size+3+(aV false t).size:=by omega
 rw[hk];clear hk ht;go_enter Tryz.func58,Tryz.ntmps58;go_wp2_with fail
 refine wW (C:=Grew (w.alloc _).drew) 8 (by kernel_rfl) (by kernel_rfl) (by kernel_rfl) (Grew.refl _) ?_;simp only[List.take_succ_cons,List.take_zero,List.drop_succ_cons,List.drop_zero];iterate 6
  refine iJ (λK hK=>?_)
  refine nI rfl ?_
  apply Exists.intro
  refine⟨λw' hw'=>?_,?_⟩
  ·obtain⟨hc',hf',_⟩:=bH hw'
   go_simp
   rfl
  go_simp
  refine hK _ _ ?_
  clear hK K
 refine iJ (λK hK=>?_);refine g_call rfl rfl 45 ?_;apply Exists.intro;refine⟨λw' hw'=>?_,?_⟩;(focus go_simp;rfl);refine(ag0 false _ e.body t _ ((hv.keep (aj _ _)).keep (Below.refl _ _).drew) he.2.2.2 HT.out ho hc hnum).mono ?_;rintro e w3⟨rfl,hb3⟩;refine⟨_,rfl,hb3,?_⟩;go_simp;apply hK;clear hK K;iterate 1
  refine iJ (λK hK=>?_)
  refine nI rfl ?_
  apply Exists.intro
  refine⟨λw' hw'=>?_,?_⟩
  ·obtain⟨hc',hf',_⟩:=bH hw'
   go_simp
   rfl
  go_simp
  refine hK _ _ ?_
  clear hK K
 refine wX ?_;go_wp2;go_ret
 exact⟨by rw[HX.out];rfl,(aj _ _).drew.trans (hb3.mono (by simp))⟩
theorem ag7 (v:Value) (e:En) (w:World) (hk:e.kind=2) (hv:aZ w v e.body) (he:dW e) :
  Calls Tryz.prog 58 #[.agg #[.int .i64 e.kind,.string e.name,.string e.to,v]] w λr w'=>r=.returned (.string (aH e))/\Below w.heap.size w w':=by
 obtain⟨ab,cb,rfl⟩:=hv.slice;have HX:Hid (aH e=Ib++e.name):=(show _=_ by unfold aH;rw[if_neg (by omega),if_pos hk])
 have hnm:=he.1;rw[hk];clear hk;go_enter Tryz.func58,Tryz.ntmps58;go_wp2;go_ret
 exact⟨by rw[HX.out];rfl,aj _ _⟩
theorem ag8 (v:Value) (e:En) (w:World) (hk:e.kind=3) (hv:aZ w v e.body) (he:dW e) :
  Calls Tryz.prog 58 #[.agg #[.int .i64 e.kind,.string e.name,.string e.to,v]] w λr w'=>r=.returned (.string (aH e))/\Below w.heap.size w w':=by
 obtain⟨ab,cb,rfl⟩:=hv.slice;have HX:Hid (aH e=bName++e.name++iH++e.to):=(show _=_ by unfold aH;rw[if_neg (by omega),if_neg (by omega)];simp only[ByteArray.append_assoc])
 have hnm:=he.1;have hto:=he.2.1;rw[hk];clear hk;go_enter Tryz.func58,Tryz.ntmps58;go_wp2;go_ret
 exact⟨by rw[HX.out];rfl,aj _ _⟩
theorem DL (hnum:TN) (v:Value) (L R:List Df) (e:En) (w:World) (hv:aZ w v e.body) (he:dW e) (h:aJ L e=some R) :
  Calls Tryz.prog 58 #[.agg #[.int .i64 e.kind,.string e.name,.string e.to,v]] w λr w'=>r=.returned (.string (aH e))/\Below w.heap.size w w':=by
 obtain⟨_,_,h1,h3,hp⟩:=EP h;by_cases k1:e.kind=1
 ·obtain⟨t,q1,q2,q3,_⟩:=hp k1;exact ag6 hnum v e t w k1 hv he q1 q2 q3
 by_cases k2:e.kind=2
 ·exact ag7 v e w k2 hv he
 exact ag8 v e w (by omega) hv he
theorem MP (n:Nat) (h:n<=1000000):(Lib.decDigits n).length<=8:=by
 by_cases h1:n<10
 ·rw[Lib.decDigits,dif_pos h1];simp
 rw[Lib.decDigits,dif_neg h1,List.length_append];by_cases h2:n / 10<10
 ·rw[Lib.decDigits,dif_pos h2];simp
 rw[Lib.decDigits,dif_neg h2,List.length_append];by_cases h3:n / 10 / 10<10
 ·rw[Lib.decDigits,dif_pos h3];simp
 rw[Lib.decDigits,dif_neg h3,List.length_append];by_cases h4:n / 10 / 10 / 10<10
 ·rw[Lib.decDigits,dif_pos h4];simp
 rw[Lib.decDigits,dif_neg h4,List.length_append];by_cases h5:n / 10 / 10 / 10 / 10<10
 ·rw[Lib.decDigits,dif_pos h5];simp
 rw[Lib.decDigits,dif_neg h5,List.length_append];by_cases h6:n / 10 / 10 / 10 / 10 / 10<10
 ·rw[Lib.decDigits,dif_pos h6];simp
 rw[Lib.decDigits,dif_neg h6,List.length_append,Lib.decDigits,dif_pos (by omega)];simp
theorem aax (n:Nat):∀(w:World),n<=1000000->Calls Tryz.prog 106 #[.int .i64 n] w λe w'=>e=.returned (.string ⟨(Lib.decDigits n).toArray⟩)/\Below w.heap.size w w':=by
 induction n using Nat.strongRecOn with
 | _ n ih =>
  intro w h
  by_cases h1:n<10
  ·exact ags n w h1
  ·exact agt n w (by omega) h (by have:=MP (n / 10) (by omega);omega) λw=>ih (n / 10) (by omega) w (by omega)
theorem DN:TN:=λv w h0 h1=>by
 obtain⟨k,rfl⟩:=Int.eq_ofNat_of_zero_le h0;exact aax k w (by omega)
end Go.Proofs.YtikgblkfmpecfaaGreatDoor
